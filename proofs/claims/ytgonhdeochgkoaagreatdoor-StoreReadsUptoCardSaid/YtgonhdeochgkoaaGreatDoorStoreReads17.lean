/- Merged: Man5 SAll Rd3 SState -/
import Derived.Test.YtgonhdeochgkoaaGreatDoorStoreReads16
import Derived.StillTailTactics
set_option linter.all false
set_option maxHeartbeats 8000000
set_option maxRecDepth 100000
namespace Go.Mv
open Go.RowKit
section
variable {P:Program} {ops:Array Oper} {Q:Exit→Act→World→Prop} {md:Region.Mode} {S:World→Prop}
theorem zid {i:Nat} {o:Oper} {v:Value} {a:Act} {w w':World} {K:Act→World→Prop} (hi:ops.toList[i]?=some o) (hw:Region.wanted o (yielded ops a.tmps)=true) (h:(execOp a.eval o).run P w=.ok (.value v) w') (hK:K (a.put o.dst v) w'):wpOp P ops Q i K a w:=by
 unfold Go.wpOp
 simp only[show ops[i]?=some o by simpa using hi,hw,if_true,Oper.wp,h,Oper.upon]
 exact .inl hK
theorem zjM {i j:Nat} {oi oj:Oper} {vi vj:Value} {fuel:Nat} {listed:Array Bool} {a:Act} {w w':World} (hi:ops.toList[i]?=some oi) (hj:ops.toList[j]?=some oj)
  (hr:Region.ready md ops listed=[i,j]) (hri:Region.ready md ops (listed.setIfInBounds i true)=[j]) (hrj:Region.ready md ops (listed.setIfInBounds j true)=[i])
  (wi:Region.wanted oi (yielded ops a.tmps)=true) (wj:Region.wanted oj (yielded ops a.tmps)=true) (wj':Region.wanted oj (yielded ops (a.put oi.dst vi).tmps)=true) (wi':Region.wanted oi (yielded ops (a.put oj.dst vj).tmps)=true)
  (hL:(listed.setIfInBounds j true).setIfInBounds i true=(listed.setIfInBounds i true).setIfInBounds j true) (hA:(a.put oj.dst vj).put oi.dst vi=(a.put oi.dst vi).put oj.dst vj)
  (hS:S w) (hS':S w') (h1:(execOp a.eval oi).run P w=.ok (.value vi) w) (h2:(execOp (a.put oi.dst vi).eval oj).run P w=.ok (.value vj) w')
  (h3:(execOp a.eval oj).run P w=.ok (.value vj) w') (h4:(execOp (a.put oj.dst vj).eval oi).run P w'=.ok (.value vi) w')
  (h:wpAnyH P md ops Q S fuel ((listed.setIfInBounds i true).setIfInBounds j true) ((a.put oi.dst vi).put oj.dst vj) w'):wpAnyH P md ops Q S (fuel+2) listed a w:=by
 refine ⟨(fun e=>absurd (hr.symm.trans e) (by simp)),fun k hk=>?_⟩
 rw[hr] at hk
 rcases (by simpa using hk:k=i∨k=j) with rfl | rfl
 ·refine zid hi wi h1 ⟨hS,(fun e=>absurd (hri.symm.trans e) (by simp)),fun k hk=>?_⟩
  rw[hri] at hk
  obtain rfl:k=j:=by simpa using hk
  exact zid hj wj' h2 ⟨hS',h⟩
 ·refine zid hj wj h3 ⟨hS',(fun e=>absurd (hrj.symm.trans e) (by simp)),fun k hk=>?_⟩
  rw[hrj] at hk
  obtain rfl:k=i:=by simpa using hk
  exact zid hi wi' h4 ⟨hS',by rw[hL,hA];exact h⟩
end
end Go.Mv
namespace Go.Proofs.YtgonhdeochgkoaaGreatDoor
open Go.RowKit Go.Mv
theorem znE (l:List Sg4):∀ u∈zaO l,u.oneCell'=true:=by
 intro u hu
 obtain ⟨s,_,hu⟩:=List.mem_flatMap.1 hu
 simp only[Sg4.cells,List.mem_cons,List.not_mem_nil,or_false] at hu
 rcases hu with rfl | rfl | rfl | rfl <;> rfl
theorem zlQ (W:World) (es:List Sg4) (n:Nat) (hn:n=es.length) (hm:n≤maxLen):SlR (W.alloc (.cells (zaO es).toArray 74)) 4 (.slice (some ⟨W.heap.size,0,none⟩) n n) n (zaO es):=by
 subst hn
 refine ⟨znd es,_,es.length,rfl,Nat.le_refl _,hm,fun _=>⟨W.heap.size,0,rfl,fun j u hu=>?_⟩⟩
 rw[Nat.zero_add]
 exact (Blk.new W 74 (zaO es).toArray).cell j (by simpa using hu)
def zdr:Nat→List Sg4→List UInt8→Option (List Sg4)
 | 0,acc,_=>some acc
 | k+1,acc,r=>if (zac 4 [] r).1=0 then zdr k (acc++[⟨(zac 4 [] r).2.1.getD 0 0,(zac 4 [] r).2.1.getD 1 0,(zac 4 [] r).2.1.getD 2 0,(zac 4 [] r).2.1.getD 3 0-1⟩]) (zac 4 [] r).2.2 else none
def zh9:Int×List Int×List UInt8→Option Mf
 | (e,l,r)=>if e≠0 then none else if 60<l.getD 5 0 then none else (zdr (l.getD 5 0).toNat [] r).map fun s=>⟨l.getD 0 0,l.getD 1 0,l.getD 2 0,l.getD 3 0,l.getD 4 0,s⟩
def zgW (p:List UInt8):Option Mf:=if p.length<1 then none else zh9 (zac 6 [] (p.drop 1))
def zbv (b:List UInt8):Option Mf:=match zbm rT b with
 | none=>none
 | some p=>match zgW p with
  | none=>none
  | some m=>if zb7 m=some b then some m else none
def mf0:Mf:=⟨0,0,0,0,0,[]⟩
def OwnS (w:World) (base:Nat) (v:Value) (l:List Sg4):Prop:=w.ownsRow base 74 4 v l.length (zaO l)
theorem OwnS.sgs {w:World} {base:Nat} {v:Value} {l:List Sg4} (h:OwnS w base v l):Sgs w v l:=SlR.of_own h
def ztr (w:World) (r:Option Mf) (e:Ending) (w':World):Prop :=
 ∃ v,e=.returned (.tuple #[.agg #[.int .i64 (r.getD mf0).next,.int .i64 (r.getD mf0).term,.int .i64 (r.getD mf0).vote,.int .i64 (r.getD mf0).sq,.int .i64 (r.getD mf0).sf,v],.int .i64 (if r.isSome then 0 else 11)])∧OwnS w' w.heap.size v (r.getD mf0).segs∧Ext w w'
theorem zj5:Tryz.prog.underlying 30=some (.struct (Tryz.prog.fieldsOf 30)):=by kernel_rfl
theorem zn4 {W:World} {b:Nat} {t:TypeId} {cs:Array Value} (h:Blk W b t cs):W.frozen? ⟨b,0,none⟩=false∧W.frozen? ⟨b,1,none⟩=false∧W.frozen? ⟨b,2,none⟩=false∧W.frozen? ⟨b,3,none⟩=false∧W.frozen? ⟨b,4,none⟩=false∧W.frozen? ⟨b,5,none⟩=false :=
 ⟨h.frozen 0,h.frozen 1,h.frozen 2,h.frozen 3,h.frozen 4,h.frozen 5⟩
theorem zcU {W:World} {b:Nat} {t:TypeId} {a v u x y z:Value} (h:Blk W b t #[a,v,u,x,y,z]) (a' v' u' x' y' z':Value):Blk ((((((W.setCell ⟨b,0,none⟩ a').setCell ⟨b,1,none⟩ v').setCell ⟨b,2,none⟩ u').setCell ⟨b,3,none⟩ x').setCell ⟨b,4,none⟩ y').setCell ⟨b,5,none⟩ z') b t #[a',v',u',x',y',z'] :=
 (((((h.set 0 a').set 1 v').set 2 u').set 3 x').set 4 y').set 5 z'
theorem zdP {w W:World} (h:Ext w W) {b:Nat} (hb:w.heap.size≤b) (a' v' u' x' y' z':Value):Ext w ((((((W.setCell ⟨b,0,none⟩ a').setCell ⟨b,1,none⟩ v').setCell ⟨b,2,none⟩ u').setCell ⟨b,3,none⟩ x').setCell ⟨b,4,none⟩ y').setCell ⟨b,5,none⟩ z') :=
 (((((Below.setCell h hb a').setCell hb v').setCell hb u').setCell hb x').setCell hb y').setCell hb z'
theorem four {l:List Int} (h:l.length=4):∃ a b c d,l=[a,b,c,d]:=by
 match l,h with
 | [a,b,c,d],_=>exact ⟨a,b,c,d,rfl⟩
theorem zhV {k:Nat} {bs:List UInt8} {l:List Int} {r:List UInt8} (h:zac k [] bs=(0,l,r)):l.length=k∧(∀ x∈l,0≤x∧x≤1073741824)∧r.length≤bs.length:=by
 obtain ⟨l',rfl,h1,h2,rfl⟩:=zg6 _ _ _ _ _ h
 refine ⟨h1,fun x hx=>?_,by simp⟩
 unfold zax at h2
 rw[List.all_eq_true] at h2
 exact numB_true.1 (h2 x (by simpa using hx))
theorem zqu {e:Int} {l:List Int} {r:List UInt8} (h:e≠0):zh9 (e,l,r)=none:=if_pos h
theorem zr2 {l:List Int} {r:List UInt8} (h:60<l.getD 5 0):zh9 (0,l,r)=none:=by unfold zh9;simp only[ne_eq,not_true_eq_false,if_false];rw[if_pos h]
theorem zr3 {l:List Int} {r:List UInt8} (h:¬ 60<l.getD 5 0):zh9 (0,l,r)=(zdr (l.getD 5 0).toNat [] r).map fun s=>⟨l.getD 0 0,l.getD 1 0,l.getD 2 0,l.getD 3 0,l.getD 4 0,s⟩:=by unfold zh9;simp only[ne_eq,not_true_eq_false,if_false];rw[if_neg h]
theorem zoO {k:Nat} {acc:List Sg4} {r:List UInt8} (h:(zac 4 [] r).1≠0):zdr (k+1) acc r=none:=by rw[zdr,if_neg h]
theorem zqE {k:Nat} {acc:List Sg4} {r r':List UInt8} {a b c d:Int} (h:zac 4 [] r=(0,[a,b,c,d],r')):zdr (k+1) acc r=zdr k (acc++[⟨a,b,c,d-1⟩]) r':=by rw[zdr,h];rfl
theorem zlG:(Tryz.prog.info? 74).map (fun i=>(i.zero,i.size,i.bytes))=some (some (.agg #[.int .i64 0,.int .i64 0,.int .i64 0,.int .i64 0]),4,32):=by kernel_rfl
theorem zr8 (A:Option Addr) (n c:Nat) (vs:Value) (m:Mf) (w:World):Calls Tryz.prog 64 #[.slice A n c,.agg (mfC m vs)] w fun e w'=>e=.returned (.func (.func 109) #[] #[.pointer (some ⟨w.heap.size+1,0,none⟩),.pointer (some ⟨w.heap.size,0,none⟩)])∧(w.alloc (.cells #[.slice A n c] 22)).alloc (.cells (mfC m vs) 30)=w':=by
 have hmf:∀ (fn:Fn) (first cap:Array Value) (w:World),(Instr.makeFunc fn first cap).run Tryz.prog w=.ok (.func fn first cap) w:=fun _ _ _ _=>rfl
 unfold mfC
 go_enter Tryz.func64,Tryz.ntmps64
 go_wp2
 go_ret
 exact ⟨rfl,rfl⟩
def zdS (e:Int):List PanicEntry:=[{ v:=.iface 32 (.int .i64 e),recovered:=false }]
theorem zpu {fs:List Fil} {l:List Sg4} {j:Nat} (h:j<l.length) (hk:(zaH fs (l.take j)).2=true) {x:List Ent} (he:zay fs l[j]=some x) {k:Nat} (hx:k<x.length):∃ post,(zaH fs l).1=((zaH fs (l.take j)).1++(zb8 l[j].first x).take k)++(l[j].first+(k:Int),x[k])::post:=by
 obtain ⟨post,hp⟩:=zri fs l j h hk he
 refine ⟨(zb8 l[j].first x).drop (k+1)++post,?_⟩
 have hl:k<(zb8 l[j].first x).length:=by rw[zg0];exact hx
 have hg:=zi5 x l[j].first k hx
 rw[List.getElem?_eq_getElem hl] at hg
 injection hg with hg
 have hd:=List.drop_eq_getElem_cons hl
 rw[hg] at hd
 have ht:=(List.take_append_drop k (zb8 l[j].first x)).symm
 rw[hp]
 rw[hd] at ht
 generalize List.take k (zb8 l[j].first x)=P at *
 generalize List.drop (k+1) (zb8 l[j].first x)=Q at *
 rw[ht]
 simp only[List.append_assoc,List.cons_append]
structure SaI (w0 W0:World) (n1 pl:Nat) (v:Value) (G:Nat→Prop) (W:World):Prop where
 g:∀ k,G k→w0.heap.size≤k∧(k<n1∨W0.heap.size≤k)
 hc:HC w0 W
 bl:Blk W pl 22 #[v]
 sz:W0.heap.size≤W.heap.size
theorem SaI.ext {w0 W0 W W':World} {n1 pl:Nat} {v:Value} {G:Nat→Prop} (h:SaI w0 W0 n1 pl v G W) (hE:Ext W W'):SaI w0 W0 n1 pl v G W' :=
 ⟨h.g,Kept.trans h.hc (HC.of_ext hE),h.bl.ext hE,Nat.le_trans h.sz hE.size⟩
theorem SaI.kept {w0 W0 W W':World} {n1 pl:Nat} {v:Value} {G G':Nat→Prop} (h:SaI w0 W0 n1 pl v G W) (hp:n1≤pl) (hp2:pl<W0.heap.size) (h0:w0.heap.size≤W0.heap.size) (hk:Kept (zab (KG G) W0.heap.size) W W') (hG:∀ k,G' k→G k∨W.heap.size≤k):SaI w0 W0 n1 pl v G' W':=by
 have hs:=h.sz
 refine ⟨fun k hk'=>?_,h.hc.keptG hk fun k hg=>(h.g k hg).1,Blk.keptG h.bl hk fun hg=>?_,Nat.le_trans hs hk.size⟩
 ·rcases hG k hk' with h1 | h1
  ·exact h.g k h1
  ·exact ⟨by omega,.inr (by omega)⟩
 ·have:=(h.g _ hg).2
  omega
attribute [local go_sem] Oper.semAt_some in
theorem zrf (w0 W0:World) (v vs:Value) (fs:List Fil) (m:Mf) (hS:StW w0) (hF:Fs w0 v fs) (hG:Sgs w0 vs m.segs) (hl:fs.length≤4000000) (hbl:∀ f∈fs,f.2.length≤2000000)
  (hseg:∀ s∈m.segs,1≤s.first∧s.first≤1073741820∧-1≤s.count∧s.count≤4) (hn:m.segs.length≤60) (hE0:Ext w0 W0) (pl pm n1:Nat) (hpl:n1≤pl) (hB1:Blk W0 pl 22 #[v]) (hB2:Blk W0 pm 30 (mfC m vs)) :
  ztw Tryz.prog 109 #[.pointer (some ⟨pm,0,none⟩),.pointer (some ⟨pl,0,none⟩)] (fun (x:Int×Ent) av _=>av = #[.int .i64 x.1,.agg #[.int .i64 x.2.t,.int .i64 x.2.k,.int .i64 x.2.v]]) (fun _ _=>False) (zaH fs m.segs).1 (if (zaH fs m.segs).2=true then none else some (zdS 130)) (fun G=>∀ k,G k→w0.heap.size≤k∧k<n1) W0:=by
 intro lp J hJ hJb hY G0 hG0 h0
 obtain ⟨A,c,rfl,_,_⟩:=hG.open_
 obtain ⟨A1,c1,rfl,_,_⟩:=Fs.open_ hF
 obtain ⟨XS,hXS⟩:∃ X,(zaH fs m.segs).1=X:=⟨_,rfl⟩
 obtain ⟨PN,hPN⟩:∃ X,(if (zaH fs m.segs).2=true then none else some (zdS 130))=X:=⟨_,rfl⟩
 rw[hXS] at hY
 rw[hXS,hPN]
 refine (callsIn_wd (ro:=none) (n:=9)).1 ?_
 refine callsIn_of_wp Tryz.func109 rfl trivial ?_ rfl
 simp only[Tryz.ntmps109,List.size_toArray,List.length_cons,List.length_nil,Nat.reduceAdd,Nat.reduceSub,Array.replicate_succ,Array.replicate_zero,List.push_toArray,List.append_toArray,List.nil_append,List.cons_append]
 have hAI:SaI w0 W0 n1 pl (.slice A1 fs.length c1) G0 W0:=⟨fun k hk=>⟨(hG0 k hk).1,.inl (hG0 k hk).2⟩,HC.of_ext hE0,hB1,Nat.le_refl _⟩
 have hj0:J G0 (zaH fs (m.segs.take 0)).1 W0:=by rw[List.take_zero];exact h0
 have h20:(zaH fs (m.segs.take 0)).2=true:=by rw[List.take_zero];rfl
 have hpl2:pl<W0.heap.size:=hB1.lt
 have hz0:w0.heap.size≤W0.heap.size:=hE0.size
 obtain ⟨_,_,_,_,_,m5⟩:=zao (show Blk W0 pm 30 #[.int .i64 m.next,.int .i64 m.term,.int .i64 m.vote,.int .i64 m.sq,.int .i64 m.sf,.slice A m.segs.length c] from hB2)
 have HPL:=zhd (And.intro hpl (And.intro hpl2 hz0))
 have HS:=zhd hS
 have HF:=zhd hF
 have HG:=zhd hG
 have HBL:=zhd hbl
 have HSEG:=zhd hseg
 have HN:=zhd hn
 have HY:=zhd hY
 have HJ:=zhd hJ
 have HJB:=zhd hJb
 have HXS:=zhd hXS
 have HPN:=zhd hPN
 have HA0:=zhd hAI
 have HJ0:=zhd hj0
 have H20:=zhd h20
 have HL:=zhd hl
 clear hS hF hG hbl hseg hn hY hJ hJb hXS hPN hAI hj0 h0 hG0 hE0 hB1 hB2 hpl hpl2 hz0 h20 hl
 gi_wp2
 gi_loopw [11] (fun v11 W=>∃ (j:Nat) (G:Nat→Prop),j≤m.segs.length∧v11=.int .i64 j∧Hid (J G (zaH fs (m.segs.take j)).1 W)∧Hid ((zaH fs (m.segs.take j)).2=true)∧Hid (SaI w0 W0 n1 pl (.slice A1 fs.length c1) G W)) (fun v11 _=>m.segs.length-(intOf v11).toNat)
 case atStart=>exact ⟨0,G0,Nat.zero_le _,rfl,HJ0,H20,HA0⟩
 case round =>
  clear HJ0 H20 HA0 m5
  obtain ⟨j,G,hj,rfl,HJ1,H21,HA1⟩:=hrel
  by_cases hlt:j<m.segs.length
  ·have hai:=HA1.out
   obtain ⟨_,b,off,rfl,hcell⟩:=(Sgs.hc HG.out hai.hc).at_ (by omega)
   obtain ⟨s0,s1,s2,s3⟩:=hcell j hlt
   obtain ⟨k1,k2,k3,k4⟩:=HSEG.out _ (List.getElem_mem hlt)
   have hsp:=fun x he k hx=>zpu (fs:=fs) hlt H21.out (x:=x) he (k:=k) hx
   have hbd:=zrh fs m.segs j hlt H21.out
   have htk:=zpt fs m.segs j hlt H21.out
   obtain ⟨s,hs⟩:∃ s,m.segs[j]=s:=⟨_,rfl⟩
   rw[hs] at s0 s1 s2 s3 k1 k2 k3 k4 hbd htk
   simp only[hs] at hsp
   have hX1:Ext wr (wr.alloc (.cells #[.int .i64 s.seq,.int .i64 s.fmt,.int .i64 s.first,.int .i64 s.count] 74)):=Ext.alloc (Ext.refl _) _
   have ha2:=hai.ext hX1
   have hbs:=Blk.new wr 74 #[.int .i64 s.seq,.int .i64 s.fmt,.int .i64 s.first,.int .i64 s.count]
   have hj2:=HJ.out _ _ _ _ HJ1.out (Moves.of_ext hX1)
   have hGl:∀ k,G k→k<wr.heap.size:=fun k h=>HJB.out _ _ _ HJ1.out k h
   have key:=zhr (.slice A1 fs.length c1) fs s _ (HS.out.hc ha2.hc) (HF.out.hc ha2.hc) HL.out HBL.out
   obtain ⟨rx,hrx⟩:∃ r,zay fs s=r:=⟨_,rfl⟩
   rw[hrx] at key hbd htk
   simp only[hrx] at hsp
   have hln:=fun x (h:rx=some x)=>zjs (hrx.trans h)
   have l1:=ha2.bl.cell 0 rfl
   obtain ⟨x0,x1,x2,x3⟩:=zat hbs
   have Key:=zhd key
   have HSP:=zhd hsp
   have HBD:=zhd hbd
   have HTK:=zhd htk
   have HLN:=zhd hln
   have HA2:=zhd ha2
   have HJ2:=zhd hj2
   have HGL:=zhd hGl
   have HBS:=zhd hbs
   have HK:=zhd (And.intro k1 (And.intro k2 (And.intro k3 k4)))
   clear hai hcell hsp hbd htk hX1 ha2 hbs hj2 hGl key hrx hln k1 k2 k3 k4 hs
   gi_wp2
   refine ⟨trivial,(callsIn_wd.2 Key.out).mono ?_⟩
   rintro e w2 ⟨hr,hE2⟩
   have ha3:=HA2.out.ext hE2
   have hj3:=HJ.out _ _ _ _ HJ2.out (Moves.of_ext hE2)
   have hbs3:=HBS.out.ext hE2
   have hz2:=hE2.size
   rw[World.size_alloc] at hz2
   cases rx with
   | none =>
    obtain rfl:=hr
    have hb:=HBD.out rfl
    have hpn:PN=some (zdS 130):=by rw[←HPN.out,hb];rfl
    have hxs:=HXS.out
    rw[hb] at hxs
    rw[show (zaH fs (m.segs.take j)).1=XS from hxs] at hj3
    exact ⟨rfl,G,hj3,.inr ⟨_,hpn,rfl⟩⟩
   | some x =>
    obtain ⟨v1,rfl,ho⟩:=hr
    obtain ⟨A3,c3,rfl,_,_⟩:=SlR.open_ (SlR.of_own ho)
    obtain ⟨l1',l2'⟩:=HLN.out x rfl
    have hxl:x.length≤4:=by
     obtain ⟨_,_,_,h4⟩:=HK.out
     by_cases h:s.count = -1
     ·exact (l1' h).2
     ·have:=l2' h;omega
    rw[World.size_alloc] at ho
    have hob:∀ q,(Value.slice A3 x.length c3).ownBlock=some q→¬ G q:=fun q hq hg=>by
     have h1:=HGL.out q hg
     have h2:=ho.1
     rcases ho.2 with ⟨hn,_⟩ | ⟨g,cap,cur,e,hb,_⟩
     ·rw[hn] at hq;cases hq
     ·rw[e] at hq
      have hq:g=q:=by simpa [Value.ownBlock] using hq
      omega
    have hgs:¬ G wr.heap.size:=fun h=>by have:=HGL.out _ h;omega
    have HA3:=zhd ha3
    have HJ3:Hid (J G ((zaH fs (m.segs.take j)).1++(zb8 s.first x).take 0) w2):=zhd (by rw[List.take_zero,List.append_nil];exact hj3)
    have HBS3:=zhd hbs3
    have HO:=zhd ho
    have HOB:=zhd hob
    have HGS:=zhd hgs
    have HXL:=zhd hxl
    clear ha3 hj3 hbs3 ho hob hgs l1' l2' hxl hE2 s0 s1 s2 s3 l1 x0 x1 x2 x3 hz2
    gi_wp2
    gi_loopw [19] (fun v19 W=>∃ (k:Nat) (G':Nat→Prop),k≤x.length∧v19=.int .i64 k∧Hid (J G' ((zaH fs (m.segs.take j)).1++(zb8 s.first x).take k) W)∧Hid (SaI w0 W0 n1 pl (.slice A1 fs.length c1) G' W)∧Hid (OwnE W (wr.heap.size+1) (.slice A3 x.length c3) x)∧Hid (∀ q,(Value.slice A3 x.length c3).ownBlock=some q→¬ G' q)∧Hid (Blk W wr.heap.size 74 #[.int .i64 s.seq,.int .i64 s.fmt,.int .i64 s.first,.int .i64 s.count])∧Hid (¬ G' wr.heap.size)) (fun v19 _=>x.length-(intOf v19).toNat)
    case atStart=>exact ⟨0,G,Nat.zero_le _,rfl,HJ3,HA3,HO,HOB,HBS3,HGS⟩
    case round =>
     rename World=>wo
     clear HJ3 HA3 HO HOB HBS3 HGS
     obtain ⟨k,G',hk,rfl,HJ4,HA4,HO4,HOB4,HBS4,HGS4⟩:=hrel
     by_cases hkl:k<x.length
     ·obtain ⟨_,bx,ox,rfl,hcx⟩:=Es.at_ (OwnE.es HO4.out) (by omega)
      obtain ⟨d0,d1,d2⟩:=hcx k hkl
      obtain ⟨post,hpost⟩:=HSP.out x rfl k hkl
      rw[HXS.out] at hpost
      have htk2:=zqD x s.first k hkl
      obtain ⟨e,he⟩:∃ e,x[k]=e:=⟨_,rfl⟩
      rw[he] at d0 d1 d2 hpost htk2
      have hX5:Ext wo (wo.alloc (.cells #[.int .i64 e.t,.int .i64 e.k,.int .i64 e.v] 79)):=Ext.alloc (Ext.refl _) _
      have hj5:=HJ.out _ _ _ _ HJ4.out (Moves.of_ext hX5)
      have ha5:=HA4.out.ext hX5
      have hy:=HY.out G' _ (s.first+(k:Int),e) post hpost _ #[.int .i64 (s.first+(k:Int)),.agg #[.int .i64 e.t,.int .i64 e.k,.int .i64 e.v]] hj5 ha5.sz rfl
      have ho5:=OwnE.ext HO4.out hX5
      have hb5:=HBS4.out.ext hX5
      have hbe:=Blk.new wo 79 #[.int .i64 e.t,.int .i64 e.k,.int .i64 e.v]
      obtain ⟨y0,y1,y2⟩:=zc8 hbe
      obtain ⟨x0,x1,x2,x3⟩:=zat hb5
      obtain ⟨q1,q2,_,_⟩:=HK.out
      have hwk:IntKind.i64.wrap (s.first+(k:Int))=s.first+(k:Int):=by rw[IntKind.wrap_i64];have:=HXL.out;omega
      have hwk2:wrap64 (s.first+(k:Int))=s.first+(k:Int):=by unfold wrap64;have:=HXL.out;omega
      have hkz:(k:Int)<(x.length:Int):=by omega
      have Hy:=zhd hy
      have HA5:=zhd ha5
      have HO5:=zhd ho5
      have HB5:=zhd hb5
      have HTK2:=zhd htk2
      have HKL:=zhd hkl
      clear hy ha5 ho5 hb5 htk2 hkl hbe hj5 hX5 hpost hcx q1 q2 he
      gi_wp2
      refine zaZ Hy.out ?_
      rintro e' W' ⟨rfl,hk',G2,hG2,hj6⟩
      refine ⟨true,rfl,?_⟩
      obtain ⟨p1,p2,p3⟩:=HPL.out
      have ha6:=HA5.out.kept p1 p2 p3 hk' hG2
      have ho6:OwnE W' (wr.heap.size+1) (.slice (some ⟨bx,ox,none⟩) x.length c3) x:=OwnE.keptG HO5.out hk' HOB4.out
      have hb6:=Blk.keptG HB5.out hk' HGS4.out
      have hob6:∀ q,(Value.slice (some ⟨bx,ox,none⟩) x.length c3).ownBlock=some q→¬ G2 q:=fun q hq hg=>by
       rcases hG2 q hg with h | h
       ·exact HOB4.out q hq h
       ·have:=(HO5.out.lt q hq).2
        omega
      have hgs6:¬ G2 wr.heap.size:=fun hg=>by
       rcases hG2 _ hg with h | h
       ·exact HGS4.out h
       ·have:=HB5.out.lt
        omega
      have hj7:J G2 ((zaH fs (m.segs.take j)).1++(zb8 s.first x).take (k+1)) W':=by
       rw[HTK2.out,←List.append_assoc];exact hj6
      have HA6:=zhd ha6
      have HO6:=zhd ho6
      have HB6:=zhd hb6
      have HOB6:=zhd hob6
      have HGS6:=zhd hgs6
      have HJ7:=zhd hj7
      clear ha6 ho6 hb6 hob6 hgs6 hj6 hj7 hk' hG2 Hy d0 d1 d2 x0 x1 x2 x3 y0 y1 y2 p1 p2 p3
      gi_wp2
      exact ⟨⟨k+1,G2,HKL.out,by go_num,HJ7,HA6,HO6,HOB6,HB6,HGS6⟩,by have:=HKL.out;simp[intOf];omega⟩
     ·obtain rfl:k=x.length:=by omega
      have hj6:=HJ4.out
      have hlx:=zg0 x s.first
      rw[List.take_of_length_le (l:=zb8 s.first x) (by omega)] at hj6
      have htk:=HTK.out
      have HJ6:Hid (J G' (zaH fs (m.segs.take (j+1))).1 wo):=zhd (by rw[htk];exact hj6)
      have H26:Hid ((zaH fs (m.segs.take (j+1))).2=true):=zhd (by rw[htk])
      have HLT:=zhd hlt
      clear hj6 htk hlx
      gi_wp2
      exact ⟨⟨j+1,G',HLT.out,by go_num,HJ6,H26,HA4⟩,by have:=HLT.out;simp[intOf];omega⟩
  ·obtain rfl:j=m.segs.length:=by omega
   have hj:=HJ1.out
   have h2:=H21.out
   rw[List.take_length] at hj h2
   have HJ:=zhd hj
   have hpn:PN=none:=by rw[←HPN.out,if_pos h2]
   have HPN2:=zhd hpn
   have hxs:=HXS.out
   rw[hxs] at hj
   have HJF:=zhd hj
   clear hj h2 hpn hxs
   gi_wp2
   refine bodyPost_end (results_none rfl _ _ _) rfl ?_
   exact ⟨G,HJF.out,.inl ⟨HPN2.out,_,rfl⟩⟩
def zcn (fs:List Fil) (m:Mf):Option Sta:=if m.sq=0 then some ⟨0,0,0,1,false⟩ else match zaF fs (zav 4 m.sq m.sf) with | none=>none | some b=>zdd b m.sf
theorem zim {fs:List Fil} {r:Option (List UInt8)} {b:List UInt8} (h:zaF fs r=some b):∃ f∈fs,f.2=b:=by
 unfold zaF at h
 split at h
 ·cases h
 ·cases hg:fs[(zcW fs r).toNat]? with
  | none=>rw[hg] at h;cases h
  | some f =>
   rw[hg] at h
   obtain rfl:f.2=b:=by simpa using h
   obtain ⟨hi,rfl⟩:=List.getElem?_eq_some_iff.1 hg
   exact ⟨_,List.getElem_mem hi,rfl⟩
theorem mcSState0 {P:Prop} (h:P:=by
 obtain ⟨m0,m1⟩:=zcZ hm5
 refine shK hK _ _ ⟨m0,m1⟩ (fun _=>?_)
 refine tkN 15 rfl ?_
 refine wpAnyH_done (by kernel_rfl) ?_ _
 clear m0 m1
 obtain ⟨p0,p1,p2,p3,p4⟩:=zad HBz.out
 obtain ⟨f0,f1,f2,f3,f4⟩:=zdv HBr.out
 obtain ⟨g0,g1,g2,g3,g4⟩:=zad HBr.out
 rcases hcs with ⟨hr,rfl⟩ | ⟨hr,rfl⟩
 ·obtain rfl:some s=R:=by rw[←HR.out];exact hr.symm
  go_wp2_with fail
  with_reducible refine (zbH _ _).mono ?_
  rintro e6 w6 ⟨rfl,rfl⟩
  go_wp2_with fail
  refine bodyPost_ret (zff _ _ _ _ rfl (zcd HBr.out _ _ _ _ _) rfl) rfl ?_
  exact ⟨rfl,zcg HE.out (Nat.le_succ _) _ _ _ _ _⟩
 ·obtain rfl:none=R:=by rw[←HR.out];exact hr.symm
  go_wp2_with fail
  with_reducible refine (zaP _ _).mono ?_
  rintro e6 w6 ⟨rfl,rfl⟩
  exact ⟨rfl,rfl,HE.out⟩):P:=h
def ztv (w:World) (r:Option Sta) (en:Ending) (w':World):Prop:=(match r with
 | some s=>en=.returned (.agg #[.int .i64 s.idx,.int .i64 s.term,.int .i64 s.sum,.int .i64 s.lvl,.bool s.fin])
 | none=>en=pan 130)∧Ext w w'
theorem zcZ {W:World} {b:Nat} {t:TypeId} {a v:Value} (h:Blk W b t #[a,v]):W.cell? ⟨b,0,none⟩=some a∧W.cell? ⟨b,1,none⟩=some v:=⟨h.cell 0 rfl,h.cell 1 rfl⟩
theorem zff (tmps:Array Value) (W:World) (b:Nat) (cs:Array Value) (h4:tmps.getD 4 undef=.pointer (some ⟨b,0,none⟩)) (hb:Blk W b 53 cs) (hs:cs.size=5):(results Tryz.f63 tmps).run Tryz.prog W=.ok (.agg cs) W:=by
 have hl:=hb.load (P:=Tryz.prog) zfB rfl (by rw[hs];kernel_rfl)
 have h4':tmps[4]?.getD undef=.pointer (some ⟨b,0,none⟩):=by simpa using h4
 simp[results,Tryz.results63,h4',asAddr,hl]
theorem zf5 {w:World} {r:Option Sta} {e:Ending} {w':World} (h:zlc w r e w'):∃ (s:Sta) (ev:Int),e=.returned (.tuple #[.agg #[.int .i64 s.idx,.int .i64 s.term,.int .i64 s.sum,.int .i64 s.lvl,.bool s.fin],.int .i64 ev])∧((r=some s∧ev=0)∨(r=none∧ev=11))∧Ext w w':=by
 obtain ⟨h1,h2⟩:=h
 cases r with
 | none=>exact ⟨zmg,11,h1,.inr ⟨rfl,rfl⟩,h2⟩
 | some s=>exact ⟨s,0,h1,.inl ⟨rfl,rfl⟩,h2⟩
theorem zej {W:World} {b c:Nat} {t:TypeId} {cs:Array Value} (h:Blk W b t cs) (hne:b≠c) (a' v' u' x' y':Value):Blk (((((W.setCell ⟨c,0,none⟩ a').setCell ⟨c,1,none⟩ v').setCell ⟨c,2,none⟩ u').setCell ⟨c,3,none⟩ x').setCell ⟨c,4,none⟩ y') b t cs :=
 ((((h.other hne 0 a').other hne 1 v').other hne 2 u').other hne 3 x').other hne 4 y'
theorem znU (v:Value) (fs:List Fil) (m:Mf) (w:World) (hS:StW w) (hF:Fs w v fs) (hl:fs.length≤4000000) (hbl:∀ f∈fs,f.2.length≤2000000) :
  Calls Tryz.prog 63 #[v,.agg #[.int .i64 m.sq,.int .i64 m.sf]] w (ztv w (zcn fs m)):=by
 obtain ⟨A,c,rfl,_,_⟩:=Fs.open_ hF
 obtain ⟨x2,hx2⟩:∃ x:Array Value,#[.int .i64 0,.int .i64 0,.int .i64 0,.int .i64 0,.bool false]=x:=⟨_,rfl⟩
 have hb1:=(Blk.new w 27 #[.int .i64 m.sq,.int .i64 m.sf]).alloc (.cells x2 53)
 have hb2:=Blk.new (w.alloc (.cells #[.int .i64 m.sq,.int .i64 m.sf] 27)) 53 x2
 rw[World.size_alloc] at hb2
 have hX:Ext w ((w.alloc (.cells #[.int .i64 m.sq,.int .i64 m.sf] 27)).alloc (.cells x2 53)):=Ext.alloc (Ext.alloc (Ext.refl _) _) _
 subst hx2
 have key:=fun W (h:Ext w W)=>ze1 (.slice A fs.length c) fs 4 m.sq m.sf 130 W (hS.ext h) (hF.ext h) hl
 have key2:=fun W (u:Value) (b:List UInt8) (h:Ext w W) (hB:Bs W u b) (hb:b.length≤2000000)=>zpj u b m.sf W (hS.ext h).tab hB hb
 have hmem:∀ b,zaF fs (zav 4 m.sq m.sf)=some b→b.length≤2000000:=fun b h=>by
  obtain ⟨f,hf,rfl⟩:=zim h;exact hbl f hf
 obtain ⟨R,hR⟩:∃ R,zcn fs m=R:=⟨_,rfl⟩
 rw[hR]
 unfold zcn at hR
 obtain ⟨rb,hrb⟩:∃ r,zaF fs (zav 4 m.sq m.sf)=r:=⟨_,rfl⟩
 rw[hrb] at key hR hmem
 obtain ⟨m0,m1⟩:=zcZ hb1
 have Hm:=zhd hb1
 have Hr:=zhd hb2
 have HX:=zhd hX
 have Key:=zhd key
 have Key2:=zhd key2
 have Hmem:=zhd hmem
 clear hb1 hX key key2 hF hS hbl hmem hrb
 go_enter Tryz.func63,Tryz.ntmps63
 by_cases hq:m.sq=0
 ·rw[if_pos hq] at hR
  subst hR
  have hqb:(m.sq==0)=true:=by simpa using hq
  clear hq Key Key2
  go_wp2_with fail
  refine (zkg _).mono ?_
  rintro e w1 ⟨rfl,hE1⟩
  have Hr1:=zhd (hb2.ext hE1)
  have HE1:=zhd (Ext.trans HX.out hE1)
  obtain ⟨f0,f1,f2,f3,f4⟩:=zdv Hr1.out
  obtain ⟨g0,g1,g2,g3,g4⟩:=zad Hr1.out
  clear hb2 m0 m1
  go_wp2_with fail
  refine bodyPost_ret (zff _ _ _ _ rfl (zcd Hr1.out _ _ _ _ _) rfl) rfl ?_
  exact ⟨rfl,zcg HE1.out (by omega) _ _ _ _ _⟩
 ·rw[if_neg hq] at hR
  have hqb:(m.sq==0)=false:=by simpa using hq
  have HR:=zhd hR
  clear hR hb2 hq
  go_wp2_with fail
  refine wp_region_held_drew (S:=fun W=>W.cell? ⟨w.heap.size,0,none⟩=some (.int .i64 m.sq)∧W.cell? ⟨w.heap.size,1,none⟩=some (.int .i64 m.sf)) (by kernel_rfl) ⟨m0,m1⟩ (fun _=>?_)
  clear m0 m1
  refine tkN 0 rfl ?_
  refine tkN 1 rfl ?_
  refine tkN 2 rfl ?_
  refine tkN 3 rfl ?_
  refine tkN 4 rfl ?_
  refine tkN 5 rfl ?_
  refine tkN 7 rfl ?_
  refine tkN 8 rfl ?_
  refine AllReadyH.two (i:=6) (j:=13) rfl rfl (by kernel_rfl) (by rfl) (by rfl) (fun K hK=>?_) (fun K hK=>?_)
  ·go_simp
   refine (Key.out _ (Ext.drew HX.out)).mono ?_
   rintro e w2 ⟨h2,hE2'⟩
   have hE2:=Ext.trans (Ext.drew (Ext.refl _)) hE2'
   have E2:=Ext.trans HX.out hE2
   cases rb with
   | none =>
    obtain rfl:=h2
    obtain rfl:none=R:=HR.out
    exact ⟨rfl,rfl,E2⟩
   | some b =>
    obtain ⟨v2,rfl,hB2⟩:=h2
    have hm2:=Hm.out.ext hE2
    have hr2:=Hr.out.ext hE2
    clear hE2'
    obtain ⟨m0,m1⟩:=zcZ hm2
    refine shK hK _ _ ⟨m0,m1⟩ (fun _=>?_)
    refine AllReadyH.two (i:=9) (j:=13) rfl rfl (by kernel_rfl) (by rfl) (by rfl) (fun K hK=>?_) (fun K hK=>?_)
    ·go_simp
     refine (Key2.out _ _ b E2 hB2 (Hmem.out b rfl)).mono ?_
     rintro e w3 h3
     obtain ⟨s,ev,rfl,hcs,hE3⟩:=zf5 h3
     have hm3:=hm2.ext hE3
     have hr3:=hr2.ext hE3
     have E3:=Ext.trans E2 hE3
     clear m0 m1 h3
     obtain ⟨m0,m1⟩:=zcZ hm3
     refine shK hK _ _ ⟨m0,m1⟩ (fun _=>?_)
     refine tkN 10 rfl ?_
     refine tkN 11 rfl ?_
     refine tkN 12 rfl ?_
     refine ar1 13 rfl (fun K hK=>?_)
     go_simp
     have hm4:=hm3.alloc (.cells #[.int .i64 0,.int .i64 0,.int .i64 0,.int .i64 0,.bool false] 53)
     have hz4:=Blk.new w3 53 #[.int .i64 0,.int .i64 0,.int .i64 0,.int .i64 0,.bool false]
     clear m0 m1
     obtain ⟨m0,m1⟩:=zcZ hm4
     refine shK hK _ _ ⟨m0,m1⟩ (fun _=>?_)
     obtain ⟨f0,f1,f2,f3,f4⟩:=zdv hz4
     refine ar1 14 rfl (fun K hK=>?_)
     go_simp
     have HBz:Hid (Blk (w3.alloc (.cells #[.int .i64 s.idx,.int .i64 s.term,.int .i64 s.sum,.int .i64 s.lvl,.bool s.fin] 53)) w3.heap.size 53 #[.int .i64 s.idx,.int .i64 s.term,.int .i64 s.sum,.int .i64 s.lvl,.bool s.fin]):=zhd (Blk.new w3 _ _)
     have HBr:=zhd (hr3.alloc (.cells #[.int .i64 s.idx,.int .i64 s.term,.int .i64 s.sum,.int .i64 s.lvl,.bool s.fin] 53))
     have HE:=zhd (Ext.trans E3 (Ext.alloc (Ext.refl w3) (.cells #[.int .i64 s.idx,.int .i64 s.term,.int .i64 s.sum,.int .i64 s.lvl,.bool s.fin] 53)))
     have hm5:=hm3.alloc (.cells #[.int .i64 s.idx,.int .i64 s.term,.int .i64 s.sum,.int .i64 s.lvl,.bool s.fin] 53)
     clear m0 m1 f0 f1 f2 f3 f4 hz4 hm4
     exact mcSState0
    ·go_simp
     have hz2':=Blk.new w2 53 #[.int .i64 0,.int .i64 0,.int .i64 0,.int .i64 0,.bool false]
     have hA:Ext w2 (w2.alloc (.cells #[.int .i64 0,.int .i64 0,.int .i64 0,.int .i64 0,.bool false] 53)):=Ext.alloc (Ext.refl _) _
     have hm2':=hm2.ext hA
     have hr2':=hr2.ext hA
     have E2':=Ext.trans E2 hA
     have hB2':=Bs.ext hB2 hA
     have hbz:w.heap.size+2≤w2.heap.size:=by have:=hr2.lt;omega
     clear m0 m1
     obtain ⟨m0,m1⟩:=zcZ hm2'
     refine shK hK _ _ ⟨m0,m1⟩ (fun _=>?_)
     refine ar1 9 rfl (fun K hK=>?_)
     go_simp
     refine (Key2.out _ _ b E2' hB2' (Hmem.out b rfl)).mono ?_
     rintro e w3 h3
     obtain ⟨s,ev,rfl,hcs,hE3⟩:=zf5 h3
     have hm3:=hm2'.ext hE3
     have hr3:=hr2'.ext hE3
     have hz3:=hz2'.ext hE3
     have E3:=Ext.trans E2' hE3
     clear m0 m1 h3
     obtain ⟨m0,m1⟩:=zcZ hm3
     refine shK hK _ _ ⟨m0,m1⟩ (fun _=>?_)
     refine tkN 10 rfl ?_
     refine tkN 11 rfl ?_
     refine tkN 12 rfl ?_
     obtain ⟨f0,f1,f2,f3,f4⟩:=zdv hz3
     obtain ⟨g0,g1,g2,g3,g4⟩:=zad hz3
     refine ar1 14 rfl (fun K hK=>?_)
     go_simp
     have hne:w.heap.size≠w2.heap.size:=by have:=hm2.lt;have:=hbz;omega
     have hne2:w.heap.size+1≠w2.heap.size:=by have:=hr2.lt;have:=hbz;omega
     have HBz:=zhd (zcd hz3 (.int .i64 s.idx) (.int .i64 s.term) (.int .i64 s.sum) (.int .i64 s.lvl) (.bool s.fin))
     have HBr:=zhd (zej hr3 hne2 (.int .i64 s.idx) (.int .i64 s.term) (.int .i64 s.sum) (.int .i64 s.lvl) (.bool s.fin))
     have HE:=zhd (zcg E3 (show w.heap.size≤w2.heap.size by have:=hbz;omega) (.int .i64 s.idx) (.int .i64 s.term) (.int .i64 s.sum) (.int .i64 s.lvl) (.bool s.fin))
     have hm5:=zej hm3 hne (.int .i64 s.idx) (.int .i64 s.term) (.int .i64 s.sum) (.int .i64 s.lvl) (.bool s.fin)
     clear m0 m1 f0 f1 f2 f3 f4 g0 g1 g2 g3 g4
     exact mcSState0
  ·go_simp
   have hA:Ext ((w.alloc (.cells #[.int .i64 m.sq,.int .i64 m.sf] 27)).alloc (.cells #[.int .i64 0,.int .i64 0,.int .i64 0,.int .i64 0,.bool false] 53)) (((w.alloc (.cells #[.int .i64 m.sq,.int .i64 m.sf] 27)).alloc (.cells #[.int .i64 0,.int .i64 0,.int .i64 0,.int .i64 0,.bool false] 53)).alloc (.cells #[.int .i64 0,.int .i64 0,.int .i64 0,.int .i64 0,.bool false] 53)).drew:=Ext.drew (Ext.alloc (Ext.refl _) _)
   have hz1:=(Blk.new ((w.alloc (.cells #[.int .i64 m.sq,.int .i64 m.sf] 27)).alloc (.cells #[.int .i64 0,.int .i64 0,.int .i64 0,.int .i64 0,.bool false] 53)) 53 #[.int .i64 0,.int .i64 0,.int .i64 0,.int .i64 0,.bool false]).ext (Ext.drew (Ext.refl _))
   rw[World.size_alloc,World.size_alloc] at hz1
   have hm1:=Hm.out.ext hA
   have hr1:=Hr.out.ext hA
   have E1:=Ext.trans HX.out hA
   obtain ⟨m0,m1⟩:=zcZ hm1
   refine shK hK _ _ ⟨m0,m1⟩ (fun _=>?_)
   refine ar1 6 rfl (fun K hK=>?_)
   go_simp
   refine (Key.out _ E1).mono ?_
   rintro e w2 ⟨h2,hE2⟩
   have E2:=Ext.trans E1 hE2
   cases rb with
   | none =>
    obtain rfl:=h2
    obtain rfl:none=R:=HR.out
    exact ⟨rfl,rfl,E2⟩
   | some b =>
    obtain ⟨v2,rfl,hB2⟩:=h2
    have hm2:=hm1.ext hE2
    have hr2:=hr1.ext hE2
    have hz2:=hz1.ext hE2
    have hbz:w.heap.size+2≤w.heap.size+1+1:=by omega
    clear m0 m1
    obtain ⟨m0,m1⟩:=zcZ hm2
    refine shK hK _ _ ⟨m0,m1⟩ (fun _=>?_)
    refine ar1 9 rfl (fun K hK=>?_)
    go_simp
    refine (Key2.out _ _ b E2 hB2 (Hmem.out b rfl)).mono ?_
    rintro e w3 h3
    obtain ⟨s,ev,rfl,hcs,hE3⟩:=zf5 h3
    have hm3:=hm2.ext hE3
    have hr3:=hr2.ext hE3
    have hz3:=hz2.ext hE3
    have E3:=Ext.trans E2 hE3
    clear m0 m1 h3
    obtain ⟨m0,m1⟩:=zcZ hm3
    refine shK hK _ _ ⟨m0,m1⟩ (fun _=>?_)
    refine tkN 10 rfl ?_
    refine tkN 11 rfl ?_
    refine tkN 12 rfl ?_
    obtain ⟨f0,f1,f2,f3,f4⟩:=zdv hz3
    obtain ⟨g0,g1,g2,g3,g4⟩:=zad hz3
    refine ar1 14 rfl (fun K hK=>?_)
    go_simp
    have hne:w.heap.size≠w.heap.size+1+1:=by have:=hm2.lt;have:=hbz;omega
    have hne2:w.heap.size+1≠w.heap.size+1+1:=by have:=hr2.lt;have:=hbz;omega
    have HBz:=zhd (zcd hz3 (.int .i64 s.idx) (.int .i64 s.term) (.int .i64 s.sum) (.int .i64 s.lvl) (.bool s.fin))
    have HBr:=zhd (zej hr3 hne2 (.int .i64 s.idx) (.int .i64 s.term) (.int .i64 s.sum) (.int .i64 s.lvl) (.bool s.fin))
    have HE:=zhd (zcg E3 (show w.heap.size≤w.heap.size+1+1 by have:=hbz;omega) (.int .i64 s.idx) (.int .i64 s.term) (.int .i64 s.sum) (.int .i64 s.lvl) (.bool s.fin))
    have hm5:=zej hm3 hne (.int .i64 s.idx) (.int .i64 s.term) (.int .i64 s.sum) (.int .i64 s.lvl) (.bool s.fin)
    clear m0 m1 f0 f1 f2 f3 f4 g0 g1 g2 g3 g4
    exact mcSState0
end Go.Proofs.YtgonhdeochgkoaaGreatDoor
