/- Merged: Man4 Man5 SAll Rd3 SState MTakeP Sh2 Chunk4 -/
import Derived.Test.YtgonhdeochgkoaaGreatDoorZt15
import Derived.Test.YtgonhdeochgkoaaGreatDoorZt18
set_option linter.all false
set_option maxHeartbeats 8000000
set_option maxRecDepth 100000
namespace Go.Proofs.YtgonhdeochgkoaaGreatDoor
open Go.RowKit Go.Mv
def zaY (l:List Sg4):List Int:=l.flatMap fun s=>[s.seq,s.fmt,s.first,s.count+1]
def zbE (m:Mf):List Int:=[m.next,m.term,m.vote,m.sq,m.sf,(m.segs.length:Int)]++zaY m.segs
def zbm (m:Mf):Option (List UInt8):=if zav m then some (zaK rT (77::zal (zbE m))) else none
def zun (w:World) (r:Option (List UInt8)) (e:Ending) (w':World):Prop:=(∃ v,e=.returned (.tuple #[v,.int .i64 (if r.isSome then 0 else 2)])∧OwnB w' w.heap.size v (r.getD []))∧Ext w w'
theorem zdZ (l:List Sg4):(zaY l).length=4*l.length:=by
 induction l with
 | nil=>rfl
 | cons e l ih=>simp only[zaY,List.flatMap_cons,List.length_append,List.length_cons,List.length_nil] at ih ⊢;omega
theorem zjz (l:List Sg4) (k:Nat) (h:k<l.length):zaY (l.take (k+1))=zaY (l.take k)++[l[k].seq,l[k].fmt,l[k].first,l[k].count+1]:=by
 rw[List.take_succ_eq_append_getElem h];unfold zaY;rw[List.flatMap_append];rfl
theorem zdg {m:Mf} (h:zav m=true):(1≤m.next∧m.next≤1073741824)∧(0≤m.term∧m.term≤1073741824)∧(0≤m.vote∧m.vote≤5)∧m.segs.length≤60∧((m.sq=0∧m.sf=0)∨(1≤m.sq∧m.sq≤m.next-1∧(m.sf=1∨m.sf=2))) ∧
  ∀ i (hi:i<m.segs.length),zbz m i m.segs[i]=true:=by
 unfold zav zct zcK at h;simp only[Bool.and_eq_true,Bool.or_eq_true,decide_eq_true_eq,inB_b] at h;obtain ⟨⟨⟨⟨⟨h1,h2⟩,h3⟩,h4⟩,h5⟩,h6⟩:=h
 refine ⟨h1,h2,h3,h4,?_,fun i hi=>?_⟩
 ·rcases h5 with h5 | h5
  ·exact .inl h5
  ·exact .inr (zeT h5)
 ·obtain ⟨s,hs,ho⟩:=zhR h6 i hi
  rw[List.getElem?_eq_getElem hi] at hs
  cases hs
  exact ho
theorem zhh {m:Mf} (h:zav m=true):zaA (zbE m)=true:=by
 obtain ⟨h1,h2,h3,h4,h5,h6⟩:=zdg h;unfold zaA;rw[List.all_eq_true];intro x hx;rw[numB_true];unfold zbE at hx
 rcases List.mem_append.1 hx with hx | hx
 ·simp only[List.mem_cons,List.not_mem_nil,or_false] at hx
  rcases hx with rfl | rfl | rfl | rfl | rfl | rfl <;> omega
 ·obtain ⟨s,hs,hx⟩:=List.mem_flatMap.1 hx
  obtain ⟨i,hi,rfl⟩:=List.mem_iff_getElem.1 hs;obtain ⟨k1,_,k3,_,k5⟩:=zgY (h6 i hi);have k0:=zeT k1;simp only[List.mem_cons,List.not_mem_nil,or_false] at hx
  rcases hx with rfl | rfl | rfl | rfl <;> omega
def OwnI (w:World) (base:Nat) (v:Value) (l:List Int):Prop:=w.ownsRow base 3 1 v l.length (l.map iv)
end Go.Proofs.YtgonhdeochgkoaaGreatDoor

namespace Go.Mv
open Go.RowKit
section
variable {P:Program} {ops:Array Oper} {Q:Exit→Act→World→Prop} {md:Region.Mode} {S:World→Prop}
theorem zi6 {i:Nat} {o:Oper} {v:Value} {a:Act} {w w':World} {K:Act→World→Prop} (hi:ops.toList[i]?=some o) (hw:Region.wanted o (yielded ops a.tmps)=true) (h:(execOp a.eval o).run P w=.ok (.value v) w') (hK:K (a.put o.dst v) w'):wpOp P ops Q i K a w:=by
 unfold Go.wpOp
 simp only[show ops[i]?=some o by simpa using hi,hw,if_true,Oper.wp,h,Oper.upon]
 exact .inl hK
theorem zk5 {i j:Nat} {oi oj:Oper} {vi vj:Value} {fuel:Nat} {listed:Array Bool} {a:Act} {w w':World} (hi:ops.toList[i]?=some oi) (hj:ops.toList[j]?=some oj)
  (hr:Region.ready md ops listed=[i,j]) (hri:Region.ready md ops (listed.setIfInBounds i true)=[j]) (hrj:Region.ready md ops (listed.setIfInBounds j true)=[i])
  (wi:Region.wanted oi (yielded ops a.tmps)=true) (wj:Region.wanted oj (yielded ops a.tmps)=true) (wj':Region.wanted oj (yielded ops (a.put oi.dst vi).tmps)=true) (wi':Region.wanted oi (yielded ops (a.put oj.dst vj).tmps)=true)
  (hL:(listed.setIfInBounds j true).setIfInBounds i true=(listed.setIfInBounds i true).setIfInBounds j true) (hA:(a.put oj.dst vj).put oi.dst vi=(a.put oi.dst vi).put oj.dst vj)
  (hS:S w) (hS':S w') (h1:(execOp a.eval oi).run P w=.ok (.value vi) w) (h2:(execOp (a.put oi.dst vi).eval oj).run P w=.ok (.value vj) w')
  (h3:(execOp a.eval oj).run P w=.ok (.value vj) w') (h4:(execOp (a.put oj.dst vj).eval oi).run P w'=.ok (.value vi) w')
  (h:wpAnyH P md ops Q S fuel ((listed.setIfInBounds i true).setIfInBounds j true) ((a.put oi.dst vi).put oj.dst vj) w'):wpAnyH P md ops Q S (fuel+2) listed a w:=by
 refine ⟨(fun e=>absurd (hr.symm.trans e) (by simp)),fun k hk=>?_⟩
 rw[hr] at hk
 rcases (by simpa using hk:k=i∨k=j) with rfl | rfl
 ·refine zi6 hi wi h1 ⟨hS,(fun e=>absurd (hri.symm.trans e) (by simp)),fun k hk=>?_⟩
  rw[hri] at hk
  obtain rfl:k=j:=by simpa using hk
  exact zi6 hj wj' h2 ⟨hS',h⟩
 ·refine zi6 hj wj h3 ⟨hS',(fun e=>absurd (hrj.symm.trans e) (by simp)),fun k hk=>?_⟩
  rw[hrj] at hk
  obtain rfl:k=i:=by simpa using hk
  exact zi6 hi wi' h4 ⟨hS',by rw[hL,hA];exact h⟩
end
end Go.Mv
namespace Go.Proofs.YtgonhdeochgkoaaGreatDoor
open Go.RowKit Go.Mv
theorem zpe (l:List Sg4):∀ u∈zaW l,u.oneCell'=true:=by
 intro u hu;obtain ⟨s,_,hu⟩:=List.mem_flatMap.1 hu;simp only[Sg4.cells,List.mem_cons,List.not_mem_nil,or_false] at hu
 rcases hu with rfl | rfl | rfl | rfl <;> rfl
theorem znb (W:World) (es:List Sg4) (n:Nat) (hn:n=es.length) (hm:n≤maxLen):SlR (W.alloc (.cells (zaW es).toArray 74)) 4 (.slice (some ⟨W.heap.size,0,none⟩) n n) n (zaW es):=by
 subst hn
 refine ⟨zjy es,_,es.length,rfl,Nat.le_refl _,hm,fun _=>⟨W.heap.size,0,rfl,fun j u hu=>?_⟩⟩
 rw[Nat.zero_add]
 exact (Blk.new W 74 (zaW es).toArray).cell j (by simpa using hu)
def zcV:Nat→List Sg4→List UInt8→Option (List Sg4)
 | 0,acc,_=>some acc
 | k+1,acc,r=>if (zad 4 [] r).1=0 then zcV k (acc++[⟨(zad 4 [] r).2.1.getD 0 0,(zad 4 [] r).2.1.getD 1 0,(zad 4 [] r).2.1.getD 2 0,(zad 4 [] r).2.1.getD 3 0-1⟩]) (zad 4 [] r).2.2 else none
def zhL:Int×List Int×List UInt8→Option Mf
 | (e,l,r)=>if e≠0 then none else if 60<l.getD 5 0 then none else (zcV (l.getD 5 0).toNat [] r).map fun s=>⟨l.getD 0 0,l.getD 1 0,l.getD 2 0,l.getD 3 0,l.getD 4 0,s⟩
def zfP (p:List UInt8):Option Mf:=if p.length<1 then none else zhL (zad 6 [] (p.drop 1))
def zbB (b:List UInt8):Option Mf:=match zbs rT b with
 | none=>none
 | some p=>match zfP p with
  | none=>none
  | some m=>if zbm m=some b then some m else none
def mf0:Mf:=⟨0,0,0,0,0,[]⟩
def OwnS (w:World) (base:Nat) (v:Value) (l:List Sg4):Prop:=w.ownsRow base 74 4 v l.length (zaW l)
theorem OwnS.sgs {w:World} {base:Nat} {v:Value} {l:List Sg4} (h:OwnS w base v l):Sgs w v l:=SlR.of_own h
def zvx (w:World) (r:Option Mf) (e:Ending) (w':World):Prop :=
 ∃ v,e=.returned (.tuple #[.agg #[.int .i64 (r.getD mf0).next,.int .i64 (r.getD mf0).term,.int .i64 (r.getD mf0).vote,.int .i64 (r.getD mf0).sq,.int .i64 (r.getD mf0).sf,v],.int .i64 (if r.isSome then 0 else 11)])∧OwnS w' w.heap.size v (r.getD mf0).segs∧Ext w w'
theorem zlm:Tryz.prog.underlying 30=some (.struct (Tryz.prog.fieldsOf 30)):=by kernel_rfl
theorem zpH {W:World} {b:Nat} {t:TypeId} {cs:Array Value} (h:Blk W b t cs):W.frozen? ⟨b,0,none⟩=false∧W.frozen? ⟨b,1,none⟩=false∧W.frozen? ⟨b,2,none⟩=false∧W.frozen? ⟨b,3,none⟩=false∧W.frozen? ⟨b,4,none⟩=false∧W.frozen? ⟨b,5,none⟩=false :=
 ⟨h.frozen 0,h.frozen 1,h.frozen 2,h.frozen 3,h.frozen 4,h.frozen 5⟩
theorem zde {W:World} {b:Nat} {t:TypeId} {a v u x y z:Value} (h:Blk W b t #[a,v,u,x,y,z]) (a' v' u' x' y' z':Value):Blk ((((((W.setCell ⟨b,0,none⟩ a').setCell ⟨b,1,none⟩ v').setCell ⟨b,2,none⟩ u').setCell ⟨b,3,none⟩ x').setCell ⟨b,4,none⟩ y').setCell ⟨b,5,none⟩ z') b t #[a',v',u',x',y',z'] :=
 (((((h.set 0 a').set 1 v').set 2 u').set 3 x').set 4 y').set 5 z'
theorem zeb {w W:World} (h:Ext w W) {b:Nat} (hb:w.heap.size≤b) (a' v' u' x' y' z':Value):Ext w ((((((W.setCell ⟨b,0,none⟩ a').setCell ⟨b,1,none⟩ v').setCell ⟨b,2,none⟩ u').setCell ⟨b,3,none⟩ x').setCell ⟨b,4,none⟩ y').setCell ⟨b,5,none⟩ z') :=
 (((((Below.setCell h hb a').setCell hb v').setCell hb u').setCell hb x').setCell hb y').setCell hb z'
theorem four {l:List Int} (h:l.length=4):∃ a b c d,l=[a,b,c,d]:=by
 match l,h with
 | [a,b,c,d],_=>exact ⟨a,b,c,d,rfl⟩
theorem ziO {k:Nat} {bs:List UInt8} {l:List Int} {r:List UInt8} (h:zad k [] bs=(0,l,r)):l.length=k∧(∀ x∈l,0≤x∧x≤1073741824)∧r.length≤bs.length:=by
 obtain ⟨l',rfl,h1,h2,rfl⟩:=zhX _ _ _ _ _ h
 refine ⟨h1,fun x hx=>?_,by simp⟩
 unfold zaA at h2;rw[List.all_eq_true] at h2
 exact numB_true.1 (h2 x (by simpa using hx))
theorem zsj {e:Int} {l:List Int} {r:List UInt8} (h:e≠0):zhL (e,l,r)=none:=if_pos h
theorem zt2 {l:List Int} {r:List UInt8} (h:60<l.getD 5 0):zhL (0,l,r)=none:=by unfold zhL;simp only[ne_eq,not_true_eq_false,if_false];rw[if_pos h]
theorem zt3 {l:List Int} {r:List UInt8} (h:¬ 60<l.getD 5 0):zhL (0,l,r)=(zcV (l.getD 5 0).toNat [] r).map fun s=>⟨l.getD 0 0,l.getD 1 0,l.getD 2 0,l.getD 3 0,l.getD 4 0,s⟩:=by unfold zhL;simp only[ne_eq,not_true_eq_false,if_false];rw[if_neg h]
theorem zqx {k:Nat} {acc:List Sg4} {r:List UInt8} (h:(zad 4 [] r).1≠0):zcV (k+1) acc r=none:=by rw[zcV,if_neg h]
theorem zsv {k:Nat} {acc:List Sg4} {r r':List UInt8} {a b c d:Int} (h:zad 4 [] r=(0,[a,b,c,d],r')):zcV (k+1) acc r=zcV k (acc++[⟨a,b,c,d-1⟩]) r':=by rw[zcV,h];rfl
theorem zm2:(Tryz.prog.info? 74).map (fun i=>(i.zero,i.size,i.bytes))=some (some (.agg #[.int .i64 0,.int .i64 0,.int .i64 0,.int .i64 0]),4,32):=by kernel_rfl
theorem zt7 (A:Option Addr) (n c:Nat) (vs:Value) (m:Mf) (w:World):Calls Tryz.prog 64 #[.slice A n c,.agg (mfC m vs)] w fun e w'=>e=.returned (.func (.func 109) #[] #[.pointer (some ⟨w.heap.size+1,0,none⟩),.pointer (some ⟨w.heap.size,0,none⟩)])∧(w.alloc (.cells #[.slice A n c] 22)).alloc (.cells (mfC m vs) 30)=w':=by
 have hmf:∀ (fn:Fn) (first cap:Array Value) (w:World),(Instr.makeFunc fn first cap).run Tryz.prog w=.ok (.func fn first cap) w:=fun _ _ _ _=>rfl
 unfold mfC
 go_enter Tryz.func64,Tryz.ntmps64
 go_wp2
 go_ret
 exact ⟨rfl,rfl⟩
def zeg (e:Int):List PanicEntry:=[{ v:=.iface 32 (.int .i64 e),recovered:=false }]
theorem zre {fs:List Fil} {l:List Sg4} {j:Nat} (h:j<l.length) (hk:(zaQ fs (l.take j)).2=true) {x:List Ent} (he:zaz fs l[j]=some x) {k:Nat} (hx:k<x.length):∃ post,(zaQ fs l).1=((zaQ fs (l.take j)).1++(zcw l[j].first x).take k)++(l[j].first+(k:Int),x[k])::post:=by
 obtain ⟨post,hp⟩:=ztc fs l j h hk he
 refine ⟨(zcw l[j].first x).drop (k+1)++post,?_⟩
 have hl:k<(zcw l[j].first x).length:=by rw[zhP];exact hx
 have hg:=zkb x l[j].first k hx;rw[List.getElem?_eq_getElem hl] at hg
 injection hg with hg
 have hd:=List.drop_eq_getElem_cons hl;rw[hg] at hd;have ht:=(List.take_append_drop k (zcw l[j].first x)).symm;rw[hp];rw[hd] at ht
 generalize List.take k (zcw l[j].first x)=P at *
 generalize List.drop (k+1) (zcw l[j].first x)=Q at *
 rw[ht];simp only[List.append_assoc,List.cons_append]
structure SaI (w0 W0:World) (n1 pl:Nat) (v:Value) (G:Nat→Prop) (W:World):Prop where
 g:∀ k,G k→w0.heap.size≤k∧(k<n1∨W0.heap.size≤k)
 hc:HC w0 W
 bl:Blk W pl 22 #[v]
 sz:W0.heap.size≤W.heap.size
theorem SaI.ext {w0 W0 W W':World} {n1 pl:Nat} {v:Value} {G:Nat→Prop} (h:SaI w0 W0 n1 pl v G W) (hE:Ext W W'):SaI w0 W0 n1 pl v G W' :=
 ⟨h.g,Kept.trans h.hc (HC.of_ext hE),h.bl.ext hE,Nat.le_trans h.sz hE.size⟩
theorem SaI.kept {w0 W0 W W':World} {n1 pl:Nat} {v:Value} {G G':Nat→Prop} (h:SaI w0 W0 n1 pl v G W) (hp:n1≤pl) (hp2:pl<W0.heap.size) (h0:w0.heap.size≤W0.heap.size) (hk:Kept (zab (KG G) W0.heap.size) W W') (hG:∀ k,G' k→G k∨W.heap.size≤k):SaI w0 W0 n1 pl v G' W':=by
 have hs:=h.sz
 refine ⟨fun k hk'=>?_,h.hc.keptG hk fun k hg=>(h.g k hg).1,Blk.keptG h.bl hk fun hg=>?_,Nat.le_trans hs hk.size⟩
 ·rcases hG k hk' with h1 | h1
  ·exact h.g k h1
  ·exact ⟨by omega,.inr (by omega)⟩
 ·have:=(h.g _ hg).2
  omega
attribute [local go_sem] Oper.semAt_some in
theorem zs9 (w0 W0:World) (v vs:Value) (fs:List Fil) (m:Mf) (hS:StW w0) (hF:Fs w0 v fs) (hG:Sgs w0 vs m.segs) (hl:fs.length≤4000000) (hbl:∀ f∈fs,f.2.length≤2000000)
  (hseg:∀ s∈m.segs,1≤s.first∧s.first≤1073741820∧-1≤s.count∧s.count≤4) (hn:m.segs.length≤60) (hE0:Ext w0 W0) (pl pm n1:Nat) (hpl:n1≤pl) (hB1:Blk W0 pl 22 #[v]) (hB2:Blk W0 pm 30 (mfC m vs)) :
  zvC Tryz.prog 109 #[.pointer (some ⟨pm,0,none⟩),.pointer (some ⟨pl,0,none⟩)] (fun (x:Int×Ent) av _=>av = #[.int .i64 x.1,.agg #[.int .i64 x.2.t,.int .i64 x.2.k,.int .i64 x.2.v]]) (fun _ _=>False) (zaQ fs m.segs).1 (if (zaQ fs m.segs).2=true then none else some (zeg 130)) (fun G=>∀ k,G k→w0.heap.size≤k∧k<n1) W0:=by
 intro lp J hJ hJb hY G0 hG0 h0;obtain ⟨A,c,rfl,_,_⟩:=hG.open_;obtain ⟨A1,c1,rfl,_,_⟩:=Fs.open_ hF;obtain ⟨XS,hXS⟩:∃ X,(zaQ fs m.segs).1=X:=⟨_,rfl⟩;obtain ⟨PN,hPN⟩:∃ X,(if (zaQ fs m.segs).2=true then none else some (zeg 130))=X:=⟨_,rfl⟩;rw[hXS] at hY;rw[hXS,hPN]
 refine (callsIn_wd (ro:=none) (n:=9)).1 ?_
 refine callsIn_of_wp Tryz.func109 rfl trivial ?_ rfl
 simp only[Tryz.ntmps109,List.size_toArray,List.length_cons,List.length_nil,Nat.reduceAdd,Nat.reduceSub,Array.replicate_succ,Array.replicate_zero,List.push_toArray,List.append_toArray,List.nil_append,List.cons_append]
 have hAI:SaI w0 W0 n1 pl (.slice A1 fs.length c1) G0 W0:=⟨fun k hk=>⟨(hG0 k hk).1,.inl (hG0 k hk).2⟩,HC.of_ext hE0,hB1,Nat.le_refl _⟩
 have hj0:J G0 (zaQ fs (m.segs.take 0)).1 W0:=by rw[List.take_zero];exact h0
 have h20:(zaQ fs (m.segs.take 0)).2=true:=by rw[List.take_zero];rfl
 have hpl2:pl<W0.heap.size:=hB1.lt
 have hz0:w0.heap.size≤W0.heap.size:=hE0.size
 obtain ⟨_,_,_,_,_,m5⟩:=zap (show Blk W0 pm 30 #[.int .i64 m.next,.int .i64 m.term,.int .i64 m.vote,.int .i64 m.sq,.int .i64 m.sf,.slice A m.segs.length c] from hB2)
 have HPL:=zhd (And.intro hpl (And.intro hpl2 hz0));have HS:=zhd hS;have HF:=zhd hF;have HG:=zhd hG;have HBL:=zhd hbl;have HSEG:=zhd hseg;have HN:=zhd hn;have HY:=zhd hY;have HJ:=zhd hJ;have HJB:=zhd hJb;have HXS:=zhd hXS;have HPN:=zhd hPN;have HA0:=zhd hAI;have HJ0:=zhd hj0;have H20:=zhd h20;have HL:=zhd hl;clear hS hF hG hbl hseg hn hY hJ hJb hXS hPN hAI hj0 h0 hG0 hE0 hB1 hB2 hpl hpl2 hz0 h20 hl
 gi_wp2
 gi_loopw [11] (fun v11 W=>∃ (j:Nat) (G:Nat→Prop),j≤m.segs.length∧v11=.int .i64 j∧Hid (J G (zaQ fs (m.segs.take j)).1 W)∧Hid ((zaQ fs (m.segs.take j)).2=true)∧Hid (SaI w0 W0 n1 pl (.slice A1 fs.length c1) G W)) (fun v11 _=>m.segs.length-(intOf v11).toNat)
 case atStart=>exact ⟨0,G0,Nat.zero_le _,rfl,HJ0,H20,HA0⟩
 case round =>
  clear HJ0 H20 HA0 m5;obtain ⟨j,G,hj,rfl,HJ1,H21,HA1⟩:=hrel
  by_cases hlt:j<m.segs.length
  ·have hai:=HA1.out
   obtain ⟨_,b,off,rfl,hcell⟩:=(Sgs.hc HG.out hai.hc).at_ (by omega);obtain ⟨s0,s1,s2,s3⟩:=hcell j hlt;obtain ⟨k1,k2,k3,k4⟩:=HSEG.out _ (List.getElem_mem hlt)
   have hsp:=fun x he k hx=>zre (fs:=fs) hlt H21.out (x:=x) he (k:=k) hx
   have hbd:=ztb fs m.segs j hlt H21.out;have htk:=zrd fs m.segs j hlt H21.out;obtain ⟨s,hs⟩:∃ s,m.segs[j]=s:=⟨_,rfl⟩;rw[hs] at s0 s1 s2 s3 k1 k2 k3 k4 hbd htk;simp only[hs] at hsp
   have hX1:Ext wr (wr.alloc (.cells #[.int .i64 s.seq,.int .i64 s.fmt,.int .i64 s.first,.int .i64 s.count] 74)):=Ext.alloc (Ext.refl _) _
   have ha2:=hai.ext hX1;have hbs:=Blk.new wr 74 #[.int .i64 s.seq,.int .i64 s.fmt,.int .i64 s.first,.int .i64 s.count];have hj2:=HJ.out _ _ _ _ HJ1.out (Moves.of_ext hX1)
   have hGl:∀ k,G k→k<wr.heap.size:=fun k h=>HJB.out _ _ _ HJ1.out k h
   have key:=zig (.slice A1 fs.length c1) fs s _ (HS.out.hc ha2.hc) (HF.out.hc ha2.hc) HL.out HBL.out;obtain ⟨rx,hrx⟩:∃ r,zaz fs s=r:=⟨_,rfl⟩;rw[hrx] at key hbd htk;simp only[hrx] at hsp
   have hln:=fun x (h:rx=some x)=>zkD (hrx.trans h)
   have l1:=ha2.bl.cell 0 rfl;obtain ⟨x0,x1,x2,x3⟩:=zay hbs;have Key:=zhd key;have HSP:=zhd hsp;have HBD:=zhd hbd;have HTK:=zhd htk;have HLN:=zhd hln;have HA2:=zhd ha2;have HJ2:=zhd hj2;have HGL:=zhd hGl;have HBS:=zhd hbs;have HK:=zhd (And.intro k1 (And.intro k2 (And.intro k3 k4)));clear hai hcell hsp hbd htk hX1 ha2 hbs hj2 hGl key hrx hln k1 k2 k3 k4 hs
   gi_wp2
   refine ⟨trivial,(callsIn_wd.2 Key.out).mono ?_⟩
   rintro e w2 ⟨hr,hE2⟩;have ha3:=HA2.out.ext hE2;have hj3:=HJ.out _ _ _ _ HJ2.out (Moves.of_ext hE2);have hbs3:=HBS.out.ext hE2;have hz2:=hE2.size;rw[World.size_alloc] at hz2
   cases rx with
   | none =>
    obtain rfl:=hr
    have hb:=HBD.out rfl
    have hpn:PN=some (zeg 130):=by rw[←HPN.out,hb];rfl
    have hxs:=HXS.out;rw[hb] at hxs
    rw[show (zaQ fs (m.segs.take j)).1=XS from hxs] at hj3
    exact ⟨rfl,G,hj3,.inr ⟨_,hpn,rfl⟩⟩
   | some x =>
    obtain ⟨v1,rfl,ho⟩:=hr;obtain ⟨A3,c3,rfl,_,_⟩:=SlR.open_ (SlR.of_own ho);obtain ⟨l1',l2'⟩:=HLN.out x rfl
    have hxl:x.length≤4:=by
     obtain ⟨_,_,_,h4⟩:=HK.out
     by_cases h:s.count = -1
     ·exact (l1' h).2
     ·have:=l2' h;omega
    rw[World.size_alloc] at ho
    have hob:∀ q,(Value.slice A3 x.length c3).ownBlock=some q→¬ G q:=fun q hq hg=>by
     have h1:=HGL.out q hg;have h2:=ho.1
     rcases ho.2 with ⟨hn,_⟩ | ⟨g,cap,cur,e,hb,_⟩
     ·rw[hn] at hq;cases hq
     ·rw[e] at hq
      have hq:g=q:=by simpa [Value.ownBlock] using hq
      omega
    have hgs:¬ G wr.heap.size:=fun h=>by have:=HGL.out _ h;omega
    have HA3:=zhd ha3
    have HJ3:Hid (J G ((zaQ fs (m.segs.take j)).1++(zcw s.first x).take 0) w2):=zhd (by rw[List.take_zero,List.append_nil];exact hj3)
    have HBS3:=zhd hbs3;have HO:=zhd ho;have HOB:=zhd hob;have HGS:=zhd hgs;have HXL:=zhd hxl;clear ha3 hj3 hbs3 ho hob hgs l1' l2' hxl hE2 s0 s1 s2 s3 l1 x0 x1 x2 x3 hz2
    gi_wp2
    gi_loopw [19] (fun v19 W=>∃ (k:Nat) (G':Nat→Prop),k≤x.length∧v19=.int .i64 k∧Hid (J G' ((zaQ fs (m.segs.take j)).1++(zcw s.first x).take k) W)∧Hid (SaI w0 W0 n1 pl (.slice A1 fs.length c1) G' W)∧Hid (OwnE W (wr.heap.size+1) (.slice A3 x.length c3) x)∧Hid (∀ q,(Value.slice A3 x.length c3).ownBlock=some q→¬ G' q)∧Hid (Blk W wr.heap.size 74 #[.int .i64 s.seq,.int .i64 s.fmt,.int .i64 s.first,.int .i64 s.count])∧Hid (¬ G' wr.heap.size)) (fun v19 _=>x.length-(intOf v19).toNat)
    case atStart=>exact ⟨0,G,Nat.zero_le _,rfl,HJ3,HA3,HO,HOB,HBS3,HGS⟩
    case round =>
     rename World=>wo
     clear HJ3 HA3 HO HOB HBS3 HGS;obtain ⟨k,G',hk,rfl,HJ4,HA4,HO4,HOB4,HBS4,HGS4⟩:=hrel
     by_cases hkl:k<x.length
     ·obtain ⟨_,bx,ox,rfl,hcx⟩:=Es.at_ (OwnE.es HO4.out) (by omega)
      obtain ⟨d0,d1,d2⟩:=hcx k hkl;obtain ⟨post,hpost⟩:=HSP.out x rfl k hkl;rw[HXS.out] at hpost;have htk2:=zsu x s.first k hkl;obtain ⟨e,he⟩:∃ e,x[k]=e:=⟨_,rfl⟩;rw[he] at d0 d1 d2 hpost htk2
      have hX5:Ext wo (wo.alloc (.cells #[.int .i64 e.t,.int .i64 e.k,.int .i64 e.v] 79)):=Ext.alloc (Ext.refl _) _
      have hj5:=HJ.out _ _ _ _ HJ4.out (Moves.of_ext hX5);have ha5:=HA4.out.ext hX5;have hy:=HY.out G' _ (s.first+(k:Int),e) post hpost _ #[.int .i64 (s.first+(k:Int)),.agg #[.int .i64 e.t,.int .i64 e.k,.int .i64 e.v]] hj5 ha5.sz rfl;have ho5:=OwnE.ext HO4.out hX5;have hb5:=HBS4.out.ext hX5;have hbe:=Blk.new wo 79 #[.int .i64 e.t,.int .i64 e.k,.int .i64 e.v];obtain ⟨y0,y1,y2⟩:=zds hbe;obtain ⟨x0,x1,x2,x3⟩:=zay hb5;obtain ⟨q1,q2,_,_⟩:=HK.out
      have hwk:IntKind.i64.wrap (s.first+(k:Int))=s.first+(k:Int):=by rw[IntKind.wrap_i64];have:=HXL.out;omega
      have hwk2:wrap64 (s.first+(k:Int))=s.first+(k:Int):=by unfold wrap64;have:=HXL.out;omega
      have hkz:(k:Int)<(x.length:Int):=by omega
      have Hy:=zhd hy;have HA5:=zhd ha5;have HO5:=zhd ho5;have HB5:=zhd hb5;have HTK2:=zhd htk2;have HKL:=zhd hkl;clear hy ha5 ho5 hb5 htk2 hkl hbe hj5 hX5 hpost hcx q1 q2 he
      gi_wp2
      refine zbf Hy.out ?_
      rintro e' W' ⟨rfl,hk',G2,hG2,hj6⟩
      refine ⟨true,rfl,?_⟩
      obtain ⟨p1,p2,p3⟩:=HPL.out;have ha6:=HA5.out.kept p1 p2 p3 hk' hG2
      have ho6:OwnE W' (wr.heap.size+1) (.slice (some ⟨bx,ox,none⟩) x.length c3) x:=OwnE.keptG HO5.out hk' HOB4.out
      have hb6:=Blk.keptG HB5.out hk' HGS4.out
      have hob6:∀ q,(Value.slice (some ⟨bx,ox,none⟩) x.length c3).ownBlock=some q→¬ G2 q:=fun q hq hg=>by
       rcases hG2 q hg with h | h
       ·exact HOB4.out q hq h
       ·have:=(HO5.out.lt q hq).2
        omega
      have hgs6:¬ G2 wr.heap.size:=fun hg=>by
       rcases hG2 _ hg with h | h
       ·exact HGS4.out h
       ·have:=HB5.out.lt
        omega
      have hj7:J G2 ((zaQ fs (m.segs.take j)).1++(zcw s.first x).take (k+1)) W':=by
       rw[HTK2.out,←List.append_assoc];exact hj6
      have HA6:=zhd ha6;have HO6:=zhd ho6;have HB6:=zhd hb6;have HOB6:=zhd hob6;have HGS6:=zhd hgs6;have HJ7:=zhd hj7;clear ha6 ho6 hb6 hob6 hgs6 hj6 hj7 hk' hG2 Hy d0 d1 d2 x0 x1 x2 x3 y0 y1 y2 p1 p2 p3
      gi_wp2
      exact ⟨⟨k+1,G2,HKL.out,by go_num,HJ7,HA6,HO6,HOB6,HB6,HGS6⟩,by have:=HKL.out;simp[intOf];omega⟩
     ·obtain rfl:k=x.length:=by omega
      have hj6:=HJ4.out;have hlx:=zhP x s.first;rw[List.take_of_length_le (l:=zcw s.first x) (by omega)] at hj6;have htk:=HTK.out
      have HJ6:Hid (J G' (zaQ fs (m.segs.take (j+1))).1 wo):=zhd (by rw[htk];exact hj6)
      have H26:Hid ((zaQ fs (m.segs.take (j+1))).2=true):=zhd (by rw[htk])
      have HLT:=zhd hlt;clear hj6 htk hlx
      gi_wp2
      exact ⟨⟨j+1,G',HLT.out,by go_num,HJ6,H26,HA4⟩,by have:=HLT.out;simp[intOf];omega⟩
  ·obtain rfl:j=m.segs.length:=by omega
   have hj:=HJ1.out;have h2:=H21.out;rw[List.take_length] at hj h2;have HJ:=zhd hj
   have hpn:PN=none:=by rw[←HPN.out,if_pos h2]
   have HPN2:=zhd hpn;have hxs:=HXS.out;rw[hxs] at hj;have HJF:=zhd hj;clear hj h2 hpn hxs
   gi_wp2
   refine bodyPost_end (results_none rfl _ _ _) rfl ?_
   exact ⟨G,HJF.out,.inl ⟨HPN2.out,_,rfl⟩⟩
def zb3 (fs:List Fil) (m:Mf):Option Sta:=if m.sq=0 then some ⟨0,0,0,1,false⟩ else match zax fs (zak 4 m.sq m.sf) with | none=>none | some b=>zdw b m.sf
theorem zjf {fs:List Fil} {r:Option (List UInt8)} {b:List UInt8} (h:zax fs r=some b):∃ f∈fs,f.2=b:=by
 unfold zax at h
 split at h
 ·cases h
 ·cases hg:fs[(zbS fs r).toNat]? with
  | none=>rw[hg] at h;cases h
  | some f =>
   rw[hg] at h
   obtain rfl:f.2=b:=by simpa using h
   obtain ⟨hi,rfl⟩:=List.getElem?_eq_some_iff.1 hg
   exact ⟨_,List.getElem_mem hi,rfl⟩
theorem mcSStatea0 {P:Prop} (h:P:=by
 obtain ⟨m0,m1⟩:=zdk hm5
 refine shK hK _ _ ⟨m0,m1⟩ (fun _=>?_)
 refine tkN 15 rfl ?_;refine wpAnyH_done (by kernel_rfl) ?_ _;clear m0 m1;obtain ⟨p0,p1,p2,p3,p4⟩:=zac HBz.out;obtain ⟨f0,f1,f2,f3,f4⟩:=zdQ HBr.out;obtain ⟨g0,g1,g2,g3,g4⟩:=zac HBr.out
 rcases hcs with ⟨hr,rfl⟩ | ⟨hr,rfl⟩
 ·obtain rfl:some s=R:=by rw[←HR.out];exact hr.symm
  go_wp2_with fail
  with_reducible refine (zb6 _ _).mono ?_
  rintro e6 w6 ⟨rfl,rfl⟩;go_wp2_with fail
  refine bodyPost_ret (zfR _ _ _ _ rfl (zcB HBr.out _ _ _ _ _) rfl) rfl ?_
  exact ⟨rfl,zcD HE.out (Nat.le_succ _) _ _ _ _ _⟩
 ·obtain rfl:none=R:=by rw[←HR.out];exact hr.symm
  go_wp2_with fail
  with_reducible refine (za0 _ _).mono ?_
  rintro e6 w6 ⟨rfl,rfl⟩
  exact ⟨rfl,rfl,HE.out⟩):P:=h
def zvB (w:World) (r:Option Sta) (en:Ending) (w':World):Prop:=(match r with
 | some s=>en=.returned (.agg #[.int .i64 s.idx,.int .i64 s.term,.int .i64 s.sum,.int .i64 s.lvl,.bool s.fin])
 | none=>en=pan 130)∧Ext w w'
theorem zdk {W:World} {b:Nat} {t:TypeId} {a v:Value} (h:Blk W b t #[a,v]):W.cell? ⟨b,0,none⟩=some a∧W.cell? ⟨b,1,none⟩=some v:=⟨h.cell 0 rfl,h.cell 1 rfl⟩
theorem zfR (tmps:Array Value) (W:World) (b:Nat) (cs:Array Value) (h4:tmps.getD 4 undef=.pointer (some ⟨b,0,none⟩)) (hb:Blk W b 53 cs) (hs:cs.size=5):(results Tryz.f63 tmps).run Tryz.prog W=.ok (.agg cs) W:=by
 have hl:=hb.load (P:=Tryz.prog) zgb rfl (by rw[hs];kernel_rfl)
 have h4':tmps[4]?.getD undef=.pointer (some ⟨b,0,none⟩):=by simpa using h4
 simp[results,Tryz.results63,h4',asAddr,hl]
theorem zgI {w:World} {r:Option Sta} {e:Ending} {w':World} (h:zmt w r e w'):∃ (s:Sta) (ev:Int),e=.returned (.tuple #[.agg #[.int .i64 s.idx,.int .i64 s.term,.int .i64 s.sum,.int .i64 s.lvl,.bool s.fin],.int .i64 ev])∧((r=some s∧ev=0)∨(r=none∧ev=11))∧Ext w w':=by
 obtain ⟨h1,h2⟩:=h
 cases r with
 | none=>exact ⟨znE,11,h1,.inr ⟨rfl,rfl⟩,h2⟩
 | some s=>exact ⟨s,0,h1,.inl ⟨rfl,rfl⟩,h2⟩
theorem zeP {W:World} {b c:Nat} {t:TypeId} {cs:Array Value} (h:Blk W b t cs) (hne:b≠c) (a' v' u' x' y':Value):Blk (((((W.setCell ⟨c,0,none⟩ a').setCell ⟨c,1,none⟩ v').setCell ⟨c,2,none⟩ u').setCell ⟨c,3,none⟩ x').setCell ⟨c,4,none⟩ y') b t cs :=
 ((((h.other hne 0 a').other hne 1 v').other hne 2 u').other hne 3 x').other hne 4 y'
theorem zpv (v:Value) (fs:List Fil) (m:Mf) (w:World) (hS:StW w) (hF:Fs w v fs) (hl:fs.length≤4000000) (hbl:∀ f∈fs,f.2.length≤2000000) :
  Calls Tryz.prog 63 #[v,.agg #[.int .i64 m.sq,.int .i64 m.sf]] w (zvB w (zb3 fs m)):=by
 obtain ⟨A,c,rfl,_,_⟩:=Fs.open_ hF;obtain ⟨x2,hx2⟩:∃ x:Array Value,#[.int .i64 0,.int .i64 0,.int .i64 0,.int .i64 0,.bool false]=x:=⟨_,rfl⟩;have hb1:=(Blk.new w 27 #[.int .i64 m.sq,.int .i64 m.sf]).alloc (.cells x2 53);have hb2:=Blk.new (w.alloc (.cells #[.int .i64 m.sq,.int .i64 m.sf] 27)) 53 x2;rw[World.size_alloc] at hb2
 have hX:Ext w ((w.alloc (.cells #[.int .i64 m.sq,.int .i64 m.sf] 27)).alloc (.cells x2 53)):=Ext.alloc (Ext.alloc (Ext.refl _) _) _
 subst hx2
 have key:=fun W (h:Ext w W)=>zfD (.slice A fs.length c) fs 4 m.sq m.sf 130 W (hS.ext h) (hF.ext h) hl
 have key2:=fun W (u:Value) (b:List UInt8) (h:Ext w W) (hB:Bs W u b) (hb:b.length≤2000000)=>zq2 u b m.sf W (hS.ext h).tab hB hb
 have hmem:∀ b,zax fs (zak 4 m.sq m.sf)=some b→b.length≤2000000:=fun b h=>by
  obtain ⟨f,hf,rfl⟩:=zjf h;exact hbl f hf
 obtain ⟨R,hR⟩:∃ R,zb3 fs m=R:=⟨_,rfl⟩;rw[hR];unfold zb3 at hR;obtain ⟨rb,hrb⟩:∃ r,zax fs (zak 4 m.sq m.sf)=r:=⟨_,rfl⟩;rw[hrb] at key hR hmem;obtain ⟨m0,m1⟩:=zdk hb1;have Hm:=zhd hb1;have Hr:=zhd hb2;have HX:=zhd hX;have Key:=zhd key;have Key2:=zhd key2;have Hmem:=zhd hmem;clear hb1 hX key key2 hF hS hbl hmem hrb
 go_enter Tryz.func63,Tryz.ntmps63
 by_cases hq:m.sq=0
 ·rw[if_pos hq] at hR
  subst hR
  have hqb:(m.sq==0)=true:=by simpa using hq
  clear hq Key Key2;go_wp2_with fail
  refine (zlx _).mono ?_
  rintro e w1 ⟨rfl,hE1⟩;have Hr1:=zhd (hb2.ext hE1);have HE1:=zhd (Ext.trans HX.out hE1);obtain ⟨f0,f1,f2,f3,f4⟩:=zdQ Hr1.out;obtain ⟨g0,g1,g2,g3,g4⟩:=zac Hr1.out;clear hb2 m0 m1;go_wp2_with fail
  refine bodyPost_ret (zfR _ _ _ _ rfl (zcB Hr1.out _ _ _ _ _) rfl) rfl ?_
  exact ⟨rfl,zcD HE1.out (by omega) _ _ _ _ _⟩
 ·rw[if_neg hq] at hR
  have hqb:(m.sq==0)=false:=by simpa using hq
  have HR:=zhd hR;clear hR hb2 hq;go_wp2_with fail
  refine wp_region_held_drew (S:=fun W=>W.cell? ⟨w.heap.size,0,none⟩=some (.int .i64 m.sq)∧W.cell? ⟨w.heap.size,1,none⟩=some (.int .i64 m.sf)) (by kernel_rfl) ⟨m0,m1⟩ (fun _=>?_)
  clear m0 m1;refine tkN 0 rfl ?_;refine tkN 1 rfl ?_;refine tkN 2 rfl ?_;refine tkN 3 rfl ?_;refine tkN 4 rfl ?_;refine tkN 5 rfl ?_;refine tkN 7 rfl ?_;refine tkN 8 rfl ?_
  refine AllReadyH.two (i:=6) (j:=13) rfl rfl (by kernel_rfl) (by rfl) (by rfl) (fun K hK=>?_) (fun K hK=>?_)
  ·go_simp
   refine (Key.out _ (Ext.drew HX.out)).mono ?_
   rintro e w2 ⟨h2,hE2'⟩;have hE2:=Ext.trans (Ext.drew (Ext.refl _)) hE2';have E2:=Ext.trans HX.out hE2
   cases rb with
   | none =>
    obtain rfl:=h2
    obtain rfl:none=R:=HR.out
    exact ⟨rfl,rfl,E2⟩
   | some b =>
    obtain ⟨v2,rfl,hB2⟩:=h2;have hm2:=Hm.out.ext hE2;have hr2:=Hr.out.ext hE2;clear hE2';obtain ⟨m0,m1⟩:=zdk hm2
    refine shK hK _ _ ⟨m0,m1⟩ (fun _=>?_)
    refine AllReadyH.two (i:=9) (j:=13) rfl rfl (by kernel_rfl) (by rfl) (by rfl) (fun K hK=>?_) (fun K hK=>?_)
    ·go_simp
     refine (Key2.out _ _ b E2 hB2 (Hmem.out b rfl)).mono ?_
     rintro e w3 h3;obtain ⟨s,ev,rfl,hcs,hE3⟩:=zgI h3;have hm3:=hm2.ext hE3;have hr3:=hr2.ext hE3;have E3:=Ext.trans E2 hE3;clear m0 m1 h3;obtain ⟨m0,m1⟩:=zdk hm3
     refine shK hK _ _ ⟨m0,m1⟩ (fun _=>?_)
     refine tkN 10 rfl ?_;refine tkN 11 rfl ?_;refine tkN 12 rfl ?_
     refine ar1 13 rfl (fun K hK=>?_)
     go_simp
     have hm4:=hm3.alloc (.cells #[.int .i64 0,.int .i64 0,.int .i64 0,.int .i64 0,.bool false] 53);have hz4:=Blk.new w3 53 #[.int .i64 0,.int .i64 0,.int .i64 0,.int .i64 0,.bool false];clear m0 m1;obtain ⟨m0,m1⟩:=zdk hm4
     refine shK hK _ _ ⟨m0,m1⟩ (fun _=>?_)
     obtain ⟨f0,f1,f2,f3,f4⟩:=zdQ hz4
     refine ar1 14 rfl (fun K hK=>?_)
     go_simp
     have HBz:Hid (Blk (w3.alloc (.cells #[.int .i64 s.idx,.int .i64 s.term,.int .i64 s.sum,.int .i64 s.lvl,.bool s.fin] 53)) w3.heap.size 53 #[.int .i64 s.idx,.int .i64 s.term,.int .i64 s.sum,.int .i64 s.lvl,.bool s.fin]):=zhd (Blk.new w3 _ _)
     have HBr:=zhd (hr3.alloc (.cells #[.int .i64 s.idx,.int .i64 s.term,.int .i64 s.sum,.int .i64 s.lvl,.bool s.fin] 53));have HE:=zhd (Ext.trans E3 (Ext.alloc (Ext.refl w3) (.cells #[.int .i64 s.idx,.int .i64 s.term,.int .i64 s.sum,.int .i64 s.lvl,.bool s.fin] 53)));have hm5:=hm3.alloc (.cells #[.int .i64 s.idx,.int .i64 s.term,.int .i64 s.sum,.int .i64 s.lvl,.bool s.fin] 53);clear m0 m1 f0 f1 f2 f3 f4 hz4 hm4
     exact mcSStatea0
    ·go_simp
     have hz2':=Blk.new w2 53 #[.int .i64 0,.int .i64 0,.int .i64 0,.int .i64 0,.bool false]
     have hA:Ext w2 (w2.alloc (.cells #[.int .i64 0,.int .i64 0,.int .i64 0,.int .i64 0,.bool false] 53)):=Ext.alloc (Ext.refl _) _
     have hm2':=hm2.ext hA;have hr2':=hr2.ext hA;have E2':=Ext.trans E2 hA;have hB2':=Bs.ext hB2 hA
     have hbz:w.heap.size+2≤w2.heap.size:=by have:=hr2.lt;omega
     clear m0 m1;obtain ⟨m0,m1⟩:=zdk hm2'
     refine shK hK _ _ ⟨m0,m1⟩ (fun _=>?_)
     refine ar1 9 rfl (fun K hK=>?_)
     go_simp
     refine (Key2.out _ _ b E2' hB2' (Hmem.out b rfl)).mono ?_
     rintro e w3 h3;obtain ⟨s,ev,rfl,hcs,hE3⟩:=zgI h3;have hm3:=hm2'.ext hE3;have hr3:=hr2'.ext hE3;have hz3:=hz2'.ext hE3;have E3:=Ext.trans E2' hE3;clear m0 m1 h3;obtain ⟨m0,m1⟩:=zdk hm3
     refine shK hK _ _ ⟨m0,m1⟩ (fun _=>?_)
     refine tkN 10 rfl ?_;refine tkN 11 rfl ?_;refine tkN 12 rfl ?_;obtain ⟨f0,f1,f2,f3,f4⟩:=zdQ hz3;obtain ⟨g0,g1,g2,g3,g4⟩:=zac hz3
     refine ar1 14 rfl (fun K hK=>?_)
     go_simp
     have hne:w.heap.size≠w2.heap.size:=by have:=hm2.lt;have:=hbz;omega
     have hne2:w.heap.size+1≠w2.heap.size:=by have:=hr2.lt;have:=hbz;omega
     have HBz:=zhd (zcB hz3 (.int .i64 s.idx) (.int .i64 s.term) (.int .i64 s.sum) (.int .i64 s.lvl) (.bool s.fin));have HBr:=zhd (zeP hr3 hne2 (.int .i64 s.idx) (.int .i64 s.term) (.int .i64 s.sum) (.int .i64 s.lvl) (.bool s.fin))
     have HE:=zhd (zcD E3 (show w.heap.size≤w2.heap.size by have:=hbz;omega) (.int .i64 s.idx) (.int .i64 s.term) (.int .i64 s.sum) (.int .i64 s.lvl) (.bool s.fin))
     have hm5:=zeP hm3 hne (.int .i64 s.idx) (.int .i64 s.term) (.int .i64 s.sum) (.int .i64 s.lvl) (.bool s.fin);clear m0 m1 f0 f1 f2 f3 f4 g0 g1 g2 g3 g4
     exact mcSStatea0
  ·go_simp
   have hA:Ext ((w.alloc (.cells #[.int .i64 m.sq,.int .i64 m.sf] 27)).alloc (.cells #[.int .i64 0,.int .i64 0,.int .i64 0,.int .i64 0,.bool false] 53)) (((w.alloc (.cells #[.int .i64 m.sq,.int .i64 m.sf] 27)).alloc (.cells #[.int .i64 0,.int .i64 0,.int .i64 0,.int .i64 0,.bool false] 53)).alloc (.cells #[.int .i64 0,.int .i64 0,.int .i64 0,.int .i64 0,.bool false] 53)).drew:=Ext.drew (Ext.alloc (Ext.refl _) _)
   have hz1:=(Blk.new ((w.alloc (.cells #[.int .i64 m.sq,.int .i64 m.sf] 27)).alloc (.cells #[.int .i64 0,.int .i64 0,.int .i64 0,.int .i64 0,.bool false] 53)) 53 #[.int .i64 0,.int .i64 0,.int .i64 0,.int .i64 0,.bool false]).ext (Ext.drew (Ext.refl _));rw[World.size_alloc,World.size_alloc] at hz1;have hm1:=Hm.out.ext hA;have hr1:=Hr.out.ext hA;have E1:=Ext.trans HX.out hA;obtain ⟨m0,m1⟩:=zdk hm1
   refine shK hK _ _ ⟨m0,m1⟩ (fun _=>?_)
   refine ar1 6 rfl (fun K hK=>?_)
   go_simp
   refine (Key.out _ E1).mono ?_
   rintro e w2 ⟨h2,hE2⟩;have E2:=Ext.trans E1 hE2
   cases rb with
   | none =>
    obtain rfl:=h2
    obtain rfl:none=R:=HR.out
    exact ⟨rfl,rfl,E2⟩
   | some b =>
    obtain ⟨v2,rfl,hB2⟩:=h2;have hm2:=hm1.ext hE2;have hr2:=hr1.ext hE2;have hz2:=hz1.ext hE2
    have hbz:w.heap.size+2≤w.heap.size+1+1:=by omega
    clear m0 m1;obtain ⟨m0,m1⟩:=zdk hm2
    refine shK hK _ _ ⟨m0,m1⟩ (fun _=>?_)
    refine ar1 9 rfl (fun K hK=>?_)
    go_simp
    refine (Key2.out _ _ b E2 hB2 (Hmem.out b rfl)).mono ?_
    rintro e w3 h3;obtain ⟨s,ev,rfl,hcs,hE3⟩:=zgI h3;have hm3:=hm2.ext hE3;have hr3:=hr2.ext hE3;have hz3:=hz2.ext hE3;have E3:=Ext.trans E2 hE3;clear m0 m1 h3;obtain ⟨m0,m1⟩:=zdk hm3
    refine shK hK _ _ ⟨m0,m1⟩ (fun _=>?_)
    refine tkN 10 rfl ?_;refine tkN 11 rfl ?_;refine tkN 12 rfl ?_;obtain ⟨f0,f1,f2,f3,f4⟩:=zdQ hz3;obtain ⟨g0,g1,g2,g3,g4⟩:=zac hz3
    refine ar1 14 rfl (fun K hK=>?_)
    go_simp
    have hne:w.heap.size≠w.heap.size+1+1:=by have:=hm2.lt;have:=hbz;omega
    have hne2:w.heap.size+1≠w.heap.size+1+1:=by have:=hr2.lt;have:=hbz;omega
    have HBz:=zhd (zcB hz3 (.int .i64 s.idx) (.int .i64 s.term) (.int .i64 s.sum) (.int .i64 s.lvl) (.bool s.fin));have HBr:=zhd (zeP hr3 hne2 (.int .i64 s.idx) (.int .i64 s.term) (.int .i64 s.sum) (.int .i64 s.lvl) (.bool s.fin))
    have HE:=zhd (zcD E3 (show w.heap.size≤w.heap.size+1+1 by have:=hbz;omega) (.int .i64 s.idx) (.int .i64 s.term) (.int .i64 s.sum) (.int .i64 s.lvl) (.bool s.fin))
    have hm5:=zeP hm3 hne (.int .i64 s.idx) (.int .i64 s.term) (.int .i64 s.sum) (.int .i64 s.lvl) (.bool s.fin);clear m0 m1 f0 f1 f2 f3 f4 g0 g1 g2 g3 g4
    exact mcSStatea0
theorem zfg:∀ (k:Nat) (acc:List Int) (bs:List UInt8),zad k acc bs=if (zad k [] bs).1=0 then (0,acc++(zad k [] bs).2.1,(zad k [] bs).2.2) else zad k [] bs
 | 0,acc,bs=>by simp[zad]
 | k+1,acc,bs=>by
  rw[zad,zad]
  by_cases h:(zbe bs).1=0
  ·rw[if_pos h,if_pos h,zfg k (acc++_),zfg k ([]++_)]
   by_cases h2:(zad k [] (zbe bs).2.2).1=0
   ·simp[h2]
   ·simp[h2]
  ·rw[if_neg h,if_neg h]
   simp[h]
theorem zgJ (b:Nat):∀ (a:Nat) (acc:List Int) (bs:List UInt8),zad (a+b) acc bs=if (zad a acc bs).1=0 then zad b (zad a acc bs).2.1 (zad a acc bs).2.2 else zad a acc bs
 | 0,acc,bs=>by simp[zad]
 | a+1,acc,bs=>by
  rw[show a+1+b=(a+b)+1 by omega,zad,zad]
  by_cases h:(zbe bs).1=0
  ·rw[if_pos h,if_pos h,zgJ b a]
  ·rw[if_neg h,if_neg h]
   simp[h]
def zhQ:List Int→List Sg4
 | a::b::c::d::l=>⟨a,b,c,d-1⟩::zhQ l
 | _=>[]
theorem zjx:∀ (k:Nat) (acc:List Sg4) (r:List UInt8),zcV k acc r=if (zad (4*k) [] r).1=0 then some (acc++zhQ (zad (4*k) [] r).2.1) else none
 | 0,acc,r=>by simp[zcV,zad,zhQ]
 | k+1,acc,r=>by
  have hadd:=zgJ (4*k) 4 [] r
  rw[show 4*(k+1)=4+4*k by omega,hadd]
  by_cases h:(zad 4 [] r).1=0
  ·rw[if_pos h]
   obtain ⟨e,l,r',hl⟩:∃ e l r',zad 4 [] r=(e,l,r'):=⟨_,_,_,rfl⟩;rw[hl] at h;dsimp only at h;subst h;obtain ⟨a,b,c,d,rfl⟩:=four (ziO hl).1;rw[zsv hl,zjx k,hl];dsimp only
   rw[zfg (4*k) [a,b,c,d]]
   by_cases h2:(zad (4*k) [] r').1=0
   ·simp[h2,zhQ]
   ·simp[h2]
  ·rw[if_neg h,zqx h,if_neg h]
theorem zsh {p:List UInt8} {a b c d e f:Int} {r:List UInt8} (hp:1≤p.length) (h6:zad 6 [] (p.drop 1)=(0,[a,b,c,d,e,f],r)) (h60:f≤60) :
  zfP p=if (zad (6+4*f.toNat) [] (p.drop 1)).1=0 then some ⟨a,b,c,d,e,zhQ ((zad (6+4*f.toNat) [] (p.drop 1)).2.1.drop 6)⟩ else none:=by
 unfold zfP
 rw[if_neg (by omega),h6,zt3 (show ¬ 60<[a,b,c,d,e,f].getD 5 0 by simpa using h60),zgJ (4*f.toNat) 6,h6]
 simp only[if_true]
 rw[zfg (4*f.toNat) [a,b,c,d,e,f]]
 show (zcV f.toNat [] r).map _=_
 rw[zjx]
 by_cases h2:(zad (4*f.toNat) [] r).1=0
 ·simp[h2]
 ·simp[h2]
theorem zj7 {p:List UInt8} {e:Int} {l:List Int} {r:List UInt8} (h6:zad 6 [] (p.drop 1)=(e,l,r)) (h:e≠0∨60<l.getD 5 0):zfP p=none:=by
 unfold zfP
 split
 ·rfl
 ·rw[h6]
  by_cases he:e=0
  ·subst he
   exact zt2 (h.resolve_left (by simp))
  ·exact zsj he
def zdu (m:Mf) (k:Nat) (u:Value):Prop:=u=.int .i64 0∨u=.int .i64 m.sq∨∃ s∈m.segs.take k,u=.int .i64 s.seq
theorem zlk {a b:Int} (h:Value.int .i64 a=.int .i64 b):a=b:=by injection h
theorem zt8 (m:Mf) (k:Nat) (n:Int):zdu m k (.int .i64 n)↔n=0∨n=m.sq∨∃ s∈m.segs.take k,s.seq=n:=by
 unfold zdu
 constructor
 ·rintro (h | h | ⟨s,hs,h⟩)
  ·exact .inl (zlk h)
  ·exact .inr (.inl (zlk h))
  ·exact .inr (.inr ⟨s,hs,(zlk h).symm⟩)
 ·rintro (rfl | rfl | ⟨s,hs,rfl⟩)
  ·exact .inl rfl
  ·exact .inr (.inl rfl)
  ·exact .inr (.inr ⟨s,hs,rfl⟩)
theorem zlV {m:Mf} {i:Nat} (hi:i<m.segs.length):zbz m i m.segs[i]=true ↔
  (zbD m.next m.segs[i].seq m.segs[i].fmt=true∧¬ zdu m i (.int .i64 m.segs[i].seq))∧(1≤m.segs[i].first∧m.segs[i].first≤1073741820) ∧
  ((m.segs[i].count = -1∧i+1=m.segs.length)∨(1≤m.segs[i].count∧m.segs[i].count≤4))∧(i=0∨∃ p,m.segs[i-1]?=some p∧m.segs[i].first=p.first+p.count):=by
 rw[zt8];unfold zbz inB
 have hp:∃ p,m.segs[i-1]?=some p:=⟨_,List.getElem?_eq_getElem (show i-1<m.segs.length by omega)⟩
 obtain ⟨p,hp⟩:=hp;rw[hp]
 generalize m.segs[i]=s at *
 simp only[Bool.and_eq_true,decide_eq_true_eq,List.all_eq_true,Bool.or_eq_true]
 constructor
 ·rintro ⟨⟨⟨⟨⟨h1,h2⟩,h3⟩,h4⟩,h5⟩,h6⟩
  refine ⟨⟨h1,?_⟩,h3,?_,?_⟩
  ·rintro (h | h | ⟨t,ht,h⟩)
   ·have:=(zeT h1).1;omega
   ·exact h2 h
   ·exact h4 t ht h
  ·rcases h6 with h | h
   ·exact .inr h
   ·exact .inl h
  ·rcases h5 with h | h
   ·exact .inl h
   ·exact .inr ⟨p,rfl,h⟩
 ·rintro ⟨⟨h1,h2⟩,h3,h4,h5⟩
  refine ⟨⟨⟨⟨⟨h1,fun h=>h2 (.inr (.inl h))⟩,h3⟩,fun t ht h=>h2 (.inr (.inr ⟨t,ht,h⟩))⟩,?_⟩,?_⟩
  ·rcases h5 with h | ⟨p',h,h'⟩
   ·exact .inl h
   ·cases h
    exact .inr h'
  ·rcases h4 with h | h
   ·exact .inr h
   ·exact .inl h
theorem zlU {m:Mf} {i:Nat} (hi:i<m.segs.length) (u:Value):zdu m (i+1) u↔zdu m i u∨u=.int .i64 m.segs[i].seq:=by
 unfold zdu;rw[List.take_succ_eq_append_getElem hi];simp only[List.mem_append,List.mem_singleton]
 constructor
 ·rintro (h | h | ⟨s,h | rfl,h'⟩)
  ·exact .inl (.inl h)
  ·exact .inl (.inr (.inl h))
  ·exact .inl (.inr (.inr ⟨s,h,h'⟩))
  ·exact .inr h'
 ·rintro ((h | h | ⟨s,h,h'⟩) | h)
  ·exact .inl h
  ·exact .inr (.inl h)
  ·exact .inr (.inr ⟨s,.inl h,h'⟩)
  ·exact .inr (.inr ⟨_,.inr rfl,h⟩)
end Go.Proofs.YtgonhdeochgkoaaGreatDoor

namespace Go.Mv
open Go.RowKit
theorem Moves.blk {M:Nat→Obj→Prop} {A B:World} (h:Moves M A B) {b:Nat} {t:TypeId} {cs:Array Value} (hb:Blk A b t cs) (hM:¬ M b (.cells cs t (0,0))):Blk B b t cs:=h.same b _ hb hM
theorem Moves.blkF {n:Nat} {A B:World} (h:Moves (zab (fun _ _=>False) n) A B) {b:Nat} {t:TypeId} {cs:Array Value} (hb:Blk A b t cs):Blk B b t cs:=h.blk hb (by rintro (h | ⟨_,h⟩);exact h;cases h)
theorem Moves.belowF {n:Nat} {A B w:World} (h:Moves (zab (fun _ _=>False) n) A B) (he:Ext w A) (hn:w.heap.size≤n):Ext w B:=h.belowOf he (by rintro k o hk (h | h);exact h;omega) (Nat.le_refl _)
end Go.Mv
namespace Go.Proofs.YtgonhdeochgkoaaGreatDoor
open Go.RowKit Go.Mv Go.Shelf
attribute [local go_sem] Oper.semAt_some
theorem zfE {W:World} {b:Nat} {t:TypeId} {cs:Array Value} (h:Blk W b t cs) {D:Nat} {o:Obj} (hD:W.heap[D]?=some o) (hc:o.isCells=false) (o':Obj):Blk (W.putObj D o') b t cs:=by
 refine (World.putObj_heap_other (fun e=>?_)).trans h
 subst e
 rw[show W.heap[b]?=_ from h] at hD;cases hD;cases hc
attribute [local go_sem] Oper.semAt_some
def zch (l:List Sg4):List Int:=l.flatMap fun s=>[s.seq,s.fmt,s.first,s.count]
theorem zgC (l:List Sg4):(zch l).length=4*l.length:=by
 induction l with
 | nil=>rfl
 | cons s l ih=>rw[show zch (s::l)=s.seq::s.fmt::s.first::s.count::zch l from rfl];simp[ih];omega
theorem zno (es:List Sg4) (i:Nat) (h:i<es.length):(zch es).drop (i*4)=es[i].seq::es[i].fmt::es[i].first::es[i].count::(zch es).drop (i*4+4):=by
 induction es generalizing i with
 | nil=>simp at h
 | cons e es ih =>
  rw[show zch (e::es)=e.seq::e.fmt::e.first::e.count::zch es from rfl]
  cases i with
  | zero=>rfl
  | succ i =>
   have:=ih i (by simpa using h)
   rw[show (i+1)*4=i*4+1+1+1+1 from by omega]
   simpa using this
theorem zt1 {wo:World} {b off n c:Nat} {es:List Sg4} (h:Is wo (.slice (some ⟨b,off,none⟩) n c) (zch es)) (i:Nat) (hi:i<es.length) :
  Is wo (.slice (some ⟨b,off+i*4,none⟩) 4 4) [es[i].seq,es[i].fmt,es[i].first,es[i].count]:=by
 have hl:=zgC es;obtain ⟨h0,A,c',e,h1,h2,h3⟩:=h
 cases e
 obtain ⟨b',off',e',hc⟩:=h3 (by omega)
 cases e'
 refine ⟨by simp,_,4,rfl,Nat.le_refl _,by simp[maxLen],fun _=>⟨b,off+i*4,rfl,fun j u hu=>?_⟩⟩
 have hd:=zno es i hi
 have hj:j<4:=by
  have:=(List.getElem?_eq_some_iff.1 hu).1
  simpa using this
 rw[Nat.add_assoc]
 refine hc (i*4+j) u ?_
 rw[←hu,←List.getElem?_drop,←List.map_drop,hd]
 match j,hj with
 | 0,_=>rfl
 | 1,_=>rfl
 | 2,_=>rfl
 | 3,_=>rfl
theorem zji (wo W0:World) (v:Value) (es:List Sg4) (hes:Is wo v (zch es)) (hlen:es.length≤2000000) (bs bn:Nat) (hB1:Boxed W0 bs 96 v) (hB2:Boxed W0 bn 3 (.int .i64 4)) :
  Seq Tryz.prog 140 #[.pointer (some ⟨bs,0,none⟩),.pointer (some ⟨bn,0,none⟩)]
   (fun (e:Sg4) av _=>∃ b off,av = #[.slice (some ⟨b,off,none⟩) 4 4]∧Is wo (.slice (some ⟨b,off,none⟩) 4 4) [e.seq,e.fmt,e.first,e.count]) (fun k o=>(k=bs∧o.ty=some 96)∨(k=bn∧o.ty=some 3)) (fun _ _=>False) es W0:=by
 intro l J Jx hJ hJx hY h0;have hL:=zgC es;obtain ⟨A,c,rfl,h1,h2⟩:=SlR.open_ hes
 rw[hL] at *
 refine (callsIn_wd (ro:=none) (n:=9)).1 ?_
 refine callsIn_of_wp Tryz.func140 rfl trivial ?_ rfl
 simp only[Tryz.ntmps140,List.size_toArray,List.length_cons,List.length_nil,Nat.reduceAdd,Nat.reduceSub,Array.replicate_succ,Array.replicate_zero,List.push_toArray,List.append_toArray,List.nil_append,List.cons_append];have Hes:=zhd hes;clear hL hes
 gi_wp2
 gi_loopw [4] (fun j W=>∃ (i:Nat),j=.int .i64 (i*4:Nat)∧i≤es.length∧Hid (J (es.take i) W)∧Boxed W bs 96 (.slice A (4*es.length) c)∧Boxed W bn 3 (.int .i64 4)∧W0.heap.size≤W.heap.size) (fun j _=>4*es.length+5-(intOf j).toNat)
 case atStart=>exact ⟨0,rfl,Nat.zero_le _,h0,hB1,hB2,Nat.le_refl _⟩
 case round =>
  obtain ⟨i,rfl,hk,HJ,b1,b2,hsz⟩:=hrel;have c1:=b1.cell;have c2:=b2.cell
  by_cases hlt:i<es.length
  ·have hes':=Hes.out
   obtain ⟨hx,b,off,rfl,hc⟩:=Is.at_ hes' (by rw[zgC];omega);clear hc hx;have hp:=zt1 hes' i hlt;have Hp:=zhd hp
   have hkk:(i*4:Nat)<4*es.length:=by omega
   have hk3:(i*4:Nat)+4≤4*es.length:=by omega
   have htk:es.take (i+1)=es.take i++[es[i]]:=List.take_succ_eq_append_getElem hlt
   have Htk:=zhd htk
   have hsp:es=es.take i++es[i]::es.drop (i+1):=by rw[←List.drop_eq_getElem_cons hlt,List.take_append_drop]
   have Hsp:=zhd hsp;clear hp htk hsp hes'
   have hi3:((i*4:Nat):Int)=(i:Int)*4:=by omega
   obtain ⟨k,hkd⟩:∃ k,i*4=k:=⟨_,rfl⟩;have Hkd:=zhd hkd;rw[hkd] at hkk hk3 Hp;simp only[hkd];clear hi3 hkd
   gi_wp2
   gi_region
   have hmin:min (4:Int) ((4*es.length-k:Nat):Int)=4:=by omega
   have hk4:((k:Int)+4).toNat-k=4:=by omega
   have HMIN:=zhd hmin;have HK4:=zhd hk4;clear hmin hk4;have hy:=hY (es.take i) es[i] (es.drop (i+1)) Hsp.out wr.drew #[.slice (some ⟨b,off+k,none⟩) 4 4] (hJ _ _ _ HJ.out (Moves.refl.drew)) hsz ⟨b,off+k,rfl,Hp.out⟩;have Hy:=zhd hy
   have b1':Boxed wr.drew bs 96 (.slice (some ⟨b,off,none⟩) (4*es.length) c):=b1
   have b2':Boxed wr.drew bn 3 (.int .i64 4):=b2
   clear hy hY
   gi_wp2
   rw[HMIN.out,HK4.out]
   refine zbf Hy.out ?_
   rintro e W' ⟨hk',⟨rfl,hj⟩ | ⟨rfl,hj⟩⟩
   ·refine ⟨true,rfl,?_⟩
    have d1:Boxed W' bs 96 (.slice (some ⟨b,off,none⟩) (4*es.length) c):=hk'.boxed b1' (.inl (.inl ⟨rfl,rfl⟩))
    have d2:Boxed W' bn 3 (.int .i64 4):=hk'.boxed b2' (.inl (.inr ⟨rfl,rfl⟩))
    have e2:=d2.cell
    have hs':W0.heap.size≤W'.heap.size:=Nat.le_trans hsz hk'.size
    have HJ3:=zhd hj;clear hj hk' c1 c2
    gi_wp2
    refine ⟨⟨i+1,?_,by omega,?_,d1,d2,hs'⟩,by simp[intOf];omega⟩
    ·have:=Hkd.out
     rw[show (i+1)*4=k+4 from by omega];go_num
    ·show J _ _;rw[Htk.out];exact HJ3.out
   ·refine ⟨false,rfl,?_⟩
    have HJ3:=zhd hj;clear hj hk' c1 c2
    gi_wp2
    refine bodyPost_ret (results_none rfl _ _ _) rfl ?_
    refine ⟨⟨_,rfl⟩,.inr ⟨es.take (i+1),?_,?_⟩⟩
    ·exact List.take_prefix _ _
    ·rw[Htk.out];exact HJ3.out
  ·have hC:es.take i=es:=List.take_of_length_le (by omega)
   have hi3:4*es.length≤i*4:=by omega
   have hi4:¬ (((i*4:Nat):Int)<((4*es.length:Nat):Int)):=by omega
   obtain ⟨k,hkd⟩:∃ k,i*4=k:=⟨_,rfl⟩;have HC2:=zhd hC
   have hk6:k≤4*es.length:=by omega
   rw[hkd] at hi3;simp only[hkd];clear hC hi4 hkd
   gi_wp2
   refine bodyPost_end (results_none rfl _ _ _) rfl ?_
   exact ⟨⟨_,rfl⟩,.inl (by have:=HJ.out;rw[HC2.out] at this;exact this)⟩
theorem zjd (A:Option Addr) (n c:Nat) (w:World):Calls Tryz.prog 104 #[.slice A n c,.int .i64 4] w fun e w' =>
  e=.returned (.func (.func 140) #[] #[.pointer (some ⟨w.heap.size,0,none⟩),.pointer (some ⟨w.heap.size+1,0,none⟩)]) ∧
  (w.alloc (.cells #[.slice A n c] 96)).alloc (.cells #[.int .i64 4] 3)=w':=by
 go_enter Tryz.func104,Tryz.ntmps104
 go_wp2
 go_ret
 exact ⟨rfl,rfl⟩
end Go.Proofs.YtgonhdeochgkoaaGreatDoor
