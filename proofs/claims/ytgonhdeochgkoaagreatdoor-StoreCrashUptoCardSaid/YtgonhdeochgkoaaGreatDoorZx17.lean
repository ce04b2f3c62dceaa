/- Merged -/
import Derived.Test.YtgonhdeochgkoaaGreatDoorZx12
import Derived.Test.YtgonhdeochgkoaaGreatDoorZx16
set_option linter.all false
set_option maxHeartbeats 8000000
set_option maxRecDepth 100000
open List renaming not_mem_nil→P0,mem_cons→P1,take_succ_eq_append_getElem→P2,all_eq_true→P3,length_nil→P4,getElem?_eq_getElem→P5,getElem_cons_zero→P6,getElem_cons_succ→P7,mem_flatMap→P8,mem_append→P9
open Go.Region renaming wanted→Pa,ready→Pb
open Option renaming isSome→Pc,getD→Pd
open Go.World renaming ownsRow_nil→Pe
open Nat renaming zero_add→Pf,reduceAdd→Pg,add_zero→Ph
open Bool renaming and_eq_true→Pi,or_eq_true→Pj
namespace Go.Proofs.YtgonhdeochgkoaaGreatDoor
open Go.RowKit Go.Mv
def zaX (l:List Sg4):List Int:=l.flatMap fun s=>[s.seq,s.fmt,s.first,s.count+1]
def zbD (m:Mf):List Int:=[m.next,m.term,m.vote,m.sq,m.sf,(m.segs.length:Int)]++zaX m.segs
def zbs (m:Mf):Option (List UInt8):=if zax m then some (zaH rT (77::zaj (zbD m))) else none
def ztA (w:World) (r:Option (List UInt8)) (e:Ending) (w':World):Prop:=(∃ v,e=.returned (.tuple #[v,.int .i64 (if r.isSome then 0 else 2)])∧OwnB w' w.heap.size v (r.getD []))∧Ext w w'
theorem zdV (l:List Sg4):(zaX l).length=4*l.length:=by
 induction l with
 | nil=>rfl
 | cons e l ih=>simp only[zaX,List.flatMap_cons,xL,xC,P4] at ih ⊢;omega
theorem zjf (l:List Sg4) (k:Nat) (h:k<l.length):zaX (l.take (k+1))=zaX (l.take k)++[l[k].seq,l[k].fmt,l[k].first,l[k].count+1]:=by
 rw[P2 h];unfold zaX;rw[List.flatMap_append];rfl
theorem zd8 {m:Mf} (h:zax m=true):(1≤m.next∧m.next≤1073741824)∧(0≤m.term∧m.term≤1073741824)∧(0≤m.vote∧m.vote≤5)∧m.segs.length≤60∧((m.sq=0∧m.sf=0)∨(1≤m.sq∧m.sq≤m.next-1∧(m.sf=1∨m.sf=2))) ∧
  ∀ i (hi:i<m.segs.length),zbv m i m.segs[i]=true:=by
 unfold zax zcr zcI at h;simp only[Pi,Pj,decide_eq_true_eq,inB_b] at h;obtain ⟨⟨⟨⟨⟨h1,h2⟩,h3⟩,h4⟩,h5⟩,h6⟩:=h
 refine ⟨h1,h2,h3,h4,?_,fun i hi=>?_⟩
 ·rcases h5 with h5 | h5
  ·exact .inl h5
  ·exact .inr (zeF h5)
 ·obtain ⟨s,hs,ho⟩:=zhs h6 i hi
  rw[P5 hi] at hs
  cases hs
  exact ho
theorem zgY {m:Mf} (h:zax m=true):zav (zbD m)=true:=by
 obtain ⟨h1,h2,h3,h4,h5,h6⟩:=zd8 h;unfold zav;rw[P3];intro x hx;rw[numB_true];unfold zbD at hx
 rcases P9.1 hx with hx | hx
 ·simp only[P1,P0,or_false] at hx
  rcases hx with rfl | rfl | rfl | rfl | rfl | rfl <;> omega
 ·obtain ⟨s,hs,hx⟩:=P8.1 hx
  obtain ⟨i,hi,rfl⟩:=List.mem_iff_getElem.1 hs;obtain ⟨k1,_,k3,_,k5⟩:=ziK (h6 i hi);have k0:=zeF k1;simp only[P1,P0,or_false] at hx
  rcases hx with rfl | rfl | rfl | rfl <;> omega
def OwnI (w:World) (base:Nat) (v:Value) (l:List Int):Prop:=w.ownsRow base 3 1 v l.length (l.map iv)
theorem OwnI.is {w:World} {base:Nat} {v:Value} {l:List Int} (h:OwnI w base v l):Is w v l:=xW h
theorem OwnI.ext {w w':World} {base:Nat} {v:Value} {l:List Int} (h:OwnI w base v l) (he:Ext w w'):OwnI w' base v l:=zaf h he
theorem zno {ops:Array Oper} {rest:List Oper} {o:Oper} {a:Act} {w:World} {Q:Exit→Act→World→Prop} (Jq:o.guard=none) (s x:Operand)
  (ho:o.op=.call { callee:=.builtin .append,args:=#[s,x],argTypes:=#[96,96] })
  (base:Nat) (v:Value) (bs:List Int) (hs:a.eval s=v) (K5:OwnI w base v bs) (vx:Value) (cs:List Int) (hx:a.eval x=vx) (hr:Is w vx cs)
  (Js:bs.length+cs.length≤40000000) (H4:base≤w.heap.size)
  (h:∀ A c w',OwnI w' base (.slice A (bs.length+cs.length) c) (bs++cs)→zgP base w w'→wpList Tryz.prog ops Q rest (a.put o.dst (.slice A (bs.length+cs.length) c)) w'):wpList Tryz.prog ops Q (o::rest) a w:=by
 obtain ⟨i0,hi,Ky,Kz,KA⟩:=info_parts zfL
 refine zbd _ Jq s x 96 ho base 3 i0 (.int .i64 0) 1 8 Tryz.underlying96 hi Ky Kz KA rfl (by decide) v bs.length (bs.map iv) hs K5 vx cs.length (cs.map iv) hx hr (zrt _) (by unfold maxLen;omega) (by omega) H4 ?_
 intro v' w' h1 h2;obtain ⟨A,c,rfl,_,_⟩:=xO (xW h1)
 refine h A c w' ?_ (fun W0 hE hb=>Ext.grownOwn hE (zai K5 hb) h2)
 unfold OwnI;rw[xL,List.map_append]
 exact h1
theorem zl8 (m:Mf) (v:Value) (w:World) (hS:Sgs w v m.segs) :
  Calls Tryz.prog 14 #[.agg #[.int .i64 m.next,.int .i64 m.term,.int .i64 m.vote,.int .i64 m.sq,.int .i64 m.sf,v]] w (ztA w (zbs m)):=by
 obtain ⟨A,c,rfl,KT,JO⟩:=hS.open_;have HA:=Blk.new w 30 #[.int .i64 m.next,.int .i64 m.term,.int .i64 m.vote,.int .i64 m.sq,.int .i64 m.sf,.slice A m.segs.length c]
 have hX:Ext w (w.alloc (.cells #[.int .i64 m.next,.int .i64 m.term,.int .i64 m.vote,.int .i64 m.sq,.int .i64 m.sf,.slice A m.segs.length c] 30)):=xA (xR _) _
 obtain ⟨m0,m1,m2,m3,m4,m5⟩:=zan HA;have HS:=zhd hS;have Hc:=zk0 m (.slice A m.segs.length c) _ (hS.ext hX);have Hn:=zhd Hc;clear Hc hS
 go_enter Tryz.func14,Tryz.ntmps14
 go_wp2_with fail
 refine Hn.out.mono ?_
 rintro e w1 ⟨rfl,Ht⟩;have E1:=xT hX Ht;have Hh:=zhd E1;have Hb:=zhd (HA.ext Ht);clear HA hX Ht m0 m1 m2 m3 m4 m5 Hn
 cases hck:zax m with
 | false =>
  have hr:zbs m=none:=by unfold zbs;rw[hck];rfl
  go_wp2_with fail
  go_ret2
  rw[hr]
  exact ⟨⟨_,rfl,Pe _ _ _ _⟩,Hh.out⟩
 | true =>
 have hr:zbs m=some (zaH rT (77::zaj (zbD m))):=by unfold zbs;rw[hck];rfl
 have Hr:=zhd hr;have KH:=zhd hck;obtain ⟨_,_,_,Jr,_,_⟩:=zd8 hck;obtain ⟨m0,m1,m2,m3,m4,m5⟩:=zan Hb.out;clear hr hck E1;go_wp2_with fail;have HU:=zgY KH.out;have Kp:=zhd HU;have hO:=zaV w1 ([m.next,m.term,m.vote,m.sq,m.sf,(m.segs.length:Int)].map iv) 3 6 rfl (by simp[maxLen]) (xN _);have HO:=zhd hO
 have KL:Ext w1 (w1.alloc (.cells #[.int .i64 m.next,.int .i64 m.term,.int .i64 m.vote,.int .i64 m.sq,.int .i64 m.sf,.int .i64 (m.segs.length:Int)] 3)):=xA (xR _) _
 have KD:=zhd KL;obtain ⟨H0,Kc⟩:∃ H0,[m.next,m.term,m.vote,m.sq,m.sf,(m.segs.length:Int)]=H0:=⟨_,rfl⟩
 have Kd:H0.length=6:=by rw[←Kc];rfl
 have KX:zbD m=H0++zaX m.segs:=by rw[←Kc];rfl
 have J7:=zhd Kc;have K9:=zhd KX;clear hO KL KX Kc HU m0 m1 m2 m3 m4 m5
 go_loopw [4,5] (fun vl x W=>∃ (j:Nat) (a':Option Addr) (c':Nat),j≤m.segs.length∧x=.int .i64 j∧vl=.slice a' (6+4*j) c'∧Hid (OwnI W w1.heap.size (.slice a' (6+4*j) c') (H0++zaX (m.segs.take j)))∧Ext w1 W) (fun _ x _=>m.segs.length-(intOf x).toNat)
 case atStart =>
  refine ⟨0,_,_,by omega,rfl,rfl,zhd ?_,KD.out⟩
  have:=HO.out
  unfold OwnI
  rw[List.take_zero,show zaX []=[] from rfl,List.append_nil,Kd,←J7.out]
  exact this
 case round =>
  obtain ⟨j,a',c',hj,rfl,rfl,Ha,He⟩:=hrel;have Ho:=zhd He;have HE:=zhd (xT Hh.out He);obtain ⟨_,_,_,_,_,M5⟩:=zan (Hb.out.ext He);clear He
  have H4:w1.heap.size≤wr.heap.size:=Ho.out.size
  by_cases hlt:j<m.segs.length
  ·obtain ⟨_,b,J4,rfl,Hl⟩:=(HS.out.ext HE.out).at_ (by omega)
   obtain ⟨s0,s1,s2,s3⟩:=Hl j hlt;have J3:=zjf m.segs j hlt;have J2:=(zd8 KH.out).2.2.2.2.2 j hlt
   generalize m.segs[j]=s at *
   have Jp:IntKind.i64.wrap (s.count+1)=s.count+1:=by
    obtain ⟨_,_,_,_,h5⟩:=ziK J2
    rw[IntKind.wrap_i64];omega
   have Jc:=zhd J3;clear Hl J3 J2
   have JS:(j:Int)<(m.segs.length:Int):=by omega
   have KR:=Blk.new wr 74 #[.int .i64 s.seq,.int .i64 s.fmt,.int .i64 s.first,.int .i64 s.count]
   have Jo:Ext wr (wr.alloc (.cells #[.int .i64 s.seq,.int .i64 s.fmt,.int .i64 s.first,.int .i64 s.count] 74)):=xA (xR _) _
   obtain ⟨k0,k1,k2,k3⟩:=zay KR
   have hI:Is ((wr.alloc (.cells #[.int .i64 s.seq,.int .i64 s.fmt,.int .i64 s.first,.int .i64 s.count] 74)).alloc (.cells #[.int .i64 s.seq,.int .i64 s.fmt,.int .i64 s.first,.int .i64 (s.count+1)] 3)) (.slice (some ⟨wr.heap.size+1,0,none⟩) 4 4) [s.seq,s.fmt,s.first,s.count+1]:=by
    have:=zaV (wr.alloc (.cells #[.int .i64 s.seq,.int .i64 s.fmt,.int .i64 s.first,.int .i64 s.count] 74)) ([s.seq,s.fmt,s.first,s.count+1].map iv) 3 4 rfl (by simp[maxLen]) (xN _)
    rw[xS] at this
    exact xW this
   have HI:=zhd hI
   have KN:Ext wr ((wr.alloc (.cells #[.int .i64 s.seq,.int .i64 s.fmt,.int .i64 s.first,.int .i64 s.count] 74)).alloc (.cells #[.int .i64 s.seq,.int .i64 s.fmt,.int .i64 s.first,.int .i64 (s.count+1)] 3)):=xA Jo _
   have Km:=zhd KN;obtain ⟨P,hP⟩:∃ P,H0++zaX (m.segs.take j)=P:=⟨_,rfl⟩
   have KM:P.length=6+4*j:=by rw[←hP,xL,Kd,zdV,List.length_take];omega
   rw[hP] at Ha;have HP:=zhd hP;clear KR hI KN hP
   go_wp2_with (at_builtin;refine zno rfl (.tmp 40) (.tmp 50) rfl w1.heap.size _ P rfl (Ha.out.ext Km.out) _ [s.seq,s.fmt,s.first,s.count+1] rfl HI.out (by rw[KM];simp;omega) (Nat.le_trans H4 Km.out.size) ?_;intro A3 c3 w3 K0 Jk;rw[KM] at K0 ⊢;have Kr:=Jk w1 (xT Ho.out Km.out) (xN _))
   go_roundw
   case rel =>
    refine ⟨j+1,_,_,by omega,by go_num,rfl,zhd ?_,Kr⟩
    rw[Jc.out,←List.append_assoc,HP.out]
    exact K0
   case measure=>simp[intOf];omega
  ·obtain rfl:j=m.segs.length:=by omega
   have Ke:=Ha.out;rw[List.take_length,←K9.out] at Ke;have JI:=zhd Ke
   have Ju:(zbD m).length≤2000000:=by rw[K9.out,xL,Kd,zdV];omega
   have Hc:=zog _ _ _ Ke.is Kp.out Ju;have Hn:=zhd Hc;have JC:=zcu (zbD m)
   have Jv:(zbD m).length≤246:=by rw[K9.out,xL,Kd,zdV];omega
   clear Ke Hc Ha HO KD K9 HS;go_wp2_with fail
   refine Hn.out.mono ?_
   rintro e w3 ⟨v3,rfl,K0,Kr⟩
   have hb3:Bs w3 v3 (zaj (zbD m)):=xW K0
   obtain ⟨A3,c3,rfl,_,_⟩:=xO hb3;have KB:=zhd hb3;have X3:=zhd (xT HE.out Kr);obtain ⟨L,hL⟩:∃ L,zaj (zbD m)=L:=⟨_,rfl⟩
   have JN:L.length≤2000:=by rw[←hL];omega
   have HL:=zhd hL;rw[hL] at KB
   have HV:(zaj (zbD m)).length=L.length:=by rw[hL]
   rw[HV] at *
   clear hb3 K0 hL JC HV Hn
   go_wp2_with (at_builtin;refine zc9 rfl (.tmp 57) (.tmp 58) rfl w3.heap.size _ [77] rfl (zaV w3 [.int .u8 77] 5 1 rfl (by simp[maxLen]) (xN _)) _ L rfl (KB.out.ext (xA (xR _) _)) (by simp;omega) (by simp) ?_;intro A4 c4 w4 Jw Jl;have KK:Ext w3 w4:=Jl w3 (xA (xR _) _) (xN _))
   refine (zku _ _ _ Jw.bs (by simp;omega)).mono ?_
   rintro e w5 ⟨A5,c5,rfl,Hw,Hd⟩
   have hr:zbs m=some (zaH rT ([77]++L)):=by rw[Hr.out,HL.out];rfl
   go_wp2_with fail
   go_ret2
   rw[hr]
   exact ⟨⟨_,rfl,zai Hw (xT X3.out KK).size⟩,xT X3.out (xT KK Hd)⟩
end Go.Proofs.YtgonhdeochgkoaaGreatDoor

namespace Go.Mv
open Go.RowKit
theorem mcMan5a0 {P:Prop} (h:P:=by
 go_wp2_with fail
 refine HT.out.mono ?_
 rintro e w2 ⟨vl,vr,rfl,_,_,Hu⟩;have H9:=zhd (HM.out.ext Hu);obtain ⟨f0,f1,f2,f3,f4,f5⟩:=zeQ H9.out;obtain ⟨g0,g1,g2,g3,g4,g5⟩:=zan H9.out;clear Hf
 dsimp only at *
 go_wp2_with fail
 refine bodyPost_ret (zcO _ _ _ _ _ rfl rfl (zby H9.out _ _ _ _ _ _) rfl) rfl ?_
 exact zdc _ _ _ rfl (zbM (xT Hh.out Hu) (xN _) _ _ _ _ _ _)):P:=h
section
variable {P:Program} {ops:Array Oper} {Q:Exit→Act→World→Prop} {md:Region.Mode} {S:World→Prop}
theorem ziO {i:Nat} {o:Oper} {v:Value} {a:Act} {w w':World} {K:Act→World→Prop} (hi:ops.toList[i]?=some o) (hw:Pa o (yielded ops a.tmps)=true) (h:(execOp a.eval o).run P w=.ok (.value v) w') (hK:K (a.put o.dst v) w'):wpOp P ops Q i K a w:=by
 unfold Go.wpOp
 simp only[show ops[i]?=some o by simpa using hi,hw,if_true,Oper.wp,h,Oper.upon]
 exact .inl hK
theorem zhB {i j:Nat} {oi oj:Oper} {vi vj:Value} {fuel:Nat} {listed:Array Bool} {a:Act} {w w':World} (hi:ops.toList[i]?=some oi) (hj:ops.toList[j]?=some oj)
  (hr:Pb md ops listed=[i,j]) (J0:Pb md ops (listed.setIfInBounds i true)=[j]) (J1:Pb md ops (listed.setIfInBounds j true)=[i])
  (wi:Pa oi (yielded ops a.tmps)=true) (wj:Pa oj (yielded ops a.tmps)=true) (wj':Pa oj (yielded ops (a.put oi.dst vi).tmps)=true) (wi':Pa oi (yielded ops (a.put oj.dst vj).tmps)=true)
  (hL:(listed.setIfInBounds j true).setIfInBounds i true=(listed.setIfInBounds i true).setIfInBounds j true) (hA:(a.put oj.dst vj).put oi.dst vi=(a.put oi.dst vi).put oj.dst vj)
  (hS:S w) (Ks:S w') (h1:(execOp a.eval oi).run P w=.ok (.value vi) w) (h2:(execOp (a.put oi.dst vi).eval oj).run P w=.ok (.value vj) w')
  (h3:(execOp a.eval oj).run P w=.ok (.value vj) w') (h4:(execOp (a.put oj.dst vj).eval oi).run P w'=.ok (.value vi) w')
  (h:wpAnyH P md ops Q S fuel ((listed.setIfInBounds i true).setIfInBounds j true) ((a.put oi.dst vi).put oj.dst vj) w'):wpAnyH P md ops Q S (fuel+2) listed a w:=by
 refine ⟨(fun e=>absurd (hr.symm.trans e) (by simp)),fun k hk=>?_⟩
 rw[hr] at hk
 rcases (by simpa using hk:k=i∨k=j) with rfl | rfl
 ·refine ziO hi wi h1 ⟨hS,(fun e=>absurd (J0.symm.trans e) (by simp)),fun k hk=>?_⟩
  rw[J0] at hk
  obtain rfl:k=j:=by simpa using hk
  exact ziO hj wj' h2 ⟨Ks,h⟩
 ·refine ziO hj wj h3 ⟨Ks,(fun e=>absurd (J1.symm.trans e) (by simp)),fun k hk=>?_⟩
  rw[J1] at hk
  obtain rfl:k=i:=by simpa using hk
  exact ziO hi wi' h4 ⟨Ks,by rw[hL,hA];exact h⟩
end
theorem zrw {W:World} {base base' size size' n n' m b J4 c:Nat} {e e':TypeId} {xs xs':List Value} {v':Value} (Kw:e≠e') (h:W.ownsRow base e size (.slice (some ⟨b,J4,none⟩) n c) m xs) (h':W.ownsRow base' e' size' v' n' xs'):some b≠v'.ownBlock:=by
 rcases h.2 with ⟨hv,_⟩ | ⟨g,cap,cur,hv,_,hg,_⟩
 ·cases hv
 ·rcases h'.2 with ⟨rfl,_⟩ | ⟨g',cap',cur',rfl,_,hg',_⟩
  ·intro e1;cases e1
  ·intro e1
   cases hv
   have:b=g':=by simpa [Value.ownBlock] using e1
   subst this;rw[hg] at hg'
   cases hg'
   exact Kw rfl
theorem zmL {W W':World} {base base' size size' n n':Nat} {e e':TypeId} {xs xs':List Value} {v v':Value} (Kw:e≠e') (h:W.ownsRow base e size v n xs) (h':W.ownsRow base' e' size' v' n' xs') (hg:W.grownBy W' v'.ownBlock):W'.ownsRow base e size v n xs:=by
 have h0:=h
 rcases h.2 with ⟨rfl,rfl⟩ | ⟨g,cap,cur,rfl,_,_,_⟩
 ·exact ⟨h.1,.inl ⟨rfl,rfl⟩⟩
 ·exact h0.kept hg (.inr (zrw Kw h0 h'))
end Go.Mv
namespace Go.Proofs.YtgonhdeochgkoaaGreatDoor
open Go.RowKit Go.Mv
theorem zkT (l:List Sg4):∀ u∈zaF l,u.oneCell'=true:=by
 intro u hu;obtain ⟨s,_,hu⟩:=P8.1 hu;simp only[Sg4.cells,P1,P0,or_false] at hu
 rcases hu with rfl | rfl | rfl | rfl <;> rfl
theorem zjF (W:World) (es:List Sg4) (n:Nat) (hn:n=es.length) (hm:n≤maxLen):SlR (W.alloc (.cells (zaF es).toArray 74)) 4 (.slice (some ⟨W.heap.size,0,none⟩) n n) n (zaF es):=by
 subst hn
 refine ⟨zje es,_,es.length,rfl,xN _,hm,fun _=>⟨W.heap.size,0,rfl,fun j u hu=>?_⟩⟩
 rw[Pf]
 exact (Blk.new W 74 (zaF es).toArray).cell j (by simpa using hu)
def zb6:Nat→List Sg4→List UInt8→Option (List Sg4)
 | 0,H1,_=>some H1
 | k+1,H1,r=>if (zae 4 [] r).1=0 then zb6 k (H1++[⟨(zae 4 [] r).2.1.getD 0 0,(zae 4 [] r).2.1.getD 1 0,(zae 4 [] r).2.1.getD 2 0,(zae 4 [] r).2.1.getD 3 0-1⟩]) (zae 4 [] r).2.2 else none
def zfx:Int×List Int×List UInt8→Option Mf
 | (e,l,r)=>if e≠0 then none else if 60<l.getD 5 0 then none else (zb6 (l.getD 5 0).toNat [] r).map fun s=>⟨l.getD 0 0,l.getD 1 0,l.getD 2 0,l.getD 3 0,l.getD 4 0,s⟩
def zdS (p:List UInt8):Option Mf:=if p.length<1 then none else zfx (zae 6 [] (p.drop 1))
def zbe (b:List UInt8):Option Mf:=match zaM rT b with
 | none=>none
 | some p=>match zdS p with
  | none=>none
  | some m=>if zbs m=some b then some m else none
def mf0:Mf:=⟨0,0,0,0,0,[]⟩
def OwnS (w:World) (base:Nat) (v:Value) (l:List Sg4):Prop:=w.ownsRow base 74 4 v l.length (zaF l)
theorem OwnS.sgs {w:World} {base:Nat} {v:Value} {l:List Sg4} (h:OwnS w base v l):Sgs w v l:=xW h
def zl3 (w:World) (r:Option Mf) (e:Ending) (w':World):Prop :=
 ∃ v,e=.returned (.tuple #[.agg #[.int .i64 (r.getD mf0).next,.int .i64 (r.getD mf0).term,.int .i64 (r.getD mf0).vote,.int .i64 (r.getD mf0).sq,.int .i64 (r.getD mf0).sf,v],.int .i64 (if r.isSome then 0 else 11)])∧OwnS w' w.heap.size v (r.getD mf0).segs∧Ext w w'
theorem ziH:Tryz.prog.underlying 30=some (.struct (Tryz.prog.fieldsOf 30)):=by kernel_rfl
theorem zcO (tmps:Array Value) (W:World) (b:Nat) (cs:Array Value) (u:Value) (h4:tmps.getD 2 undef=.pointer (some ⟨b,0,none⟩)) (h5:tmps.getD 3 undef=u) (hb:Blk W b 30 cs) (hs:cs.size=6):(results Tryz.f17 tmps).run Tryz.prog W=.ok (.tuple #[.agg cs,u]) W:=by
 have hl:=hb.load (P:=Tryz.prog) ziH rfl (by rw[hs];kernel_rfl)
 have Jh:tmps[2]?.getD undef=.pointer (some ⟨b,0,none⟩):=by simpa using h4
 have Ji:tmps[3]?.getD undef=u:=by simpa using h5
 simp[results,Tryz.results17,Jh,Ji,asAddr,hl]
theorem zeQ {W:World} {b:Nat} {t:TypeId} {cs:Array Value} (h:Blk W b t cs):W.frozen? ⟨b,0,none⟩=false∧W.frozen? ⟨b,1,none⟩=false∧W.frozen? ⟨b,2,none⟩=false∧W.frozen? ⟨b,3,none⟩=false∧W.frozen? ⟨b,4,none⟩=false∧W.frozen? ⟨b,5,none⟩=false :=
 ⟨h.frozen 0,h.frozen 1,h.frozen 2,h.frozen 3,h.frozen 4,h.frozen 5⟩
theorem zby {W:World} {b:Nat} {t:TypeId} {a v u x y z:Value} (h:Blk W b t #[a,v,u,x,y,z]) (a' v' u' x' y' z':Value):Blk ((((((W.setCell ⟨b,0,none⟩ a').setCell ⟨b,1,none⟩ v').setCell ⟨b,2,none⟩ u').setCell ⟨b,3,none⟩ x').setCell ⟨b,4,none⟩ y').setCell ⟨b,5,none⟩ z') b t #[a',v',u',x',y',z'] :=
 (((((h.set 0 a').set 1 v').set 2 u').set 3 x').set 4 y').set 5 z'
theorem zbM {w W:World} (h:Ext w W) {b:Nat} (hb:w.heap.size≤b) (a' v' u' x' y' z':Value):Ext w ((((((W.setCell ⟨b,0,none⟩ a').setCell ⟨b,1,none⟩ v').setCell ⟨b,2,none⟩ u').setCell ⟨b,3,none⟩ x').setCell ⟨b,4,none⟩ y').setCell ⟨b,5,none⟩ z') :=
 (((((Below.setCell h hb a').setCell hb v').setCell hb u').setCell hb x').setCell hb y').setCell hb z'
theorem ztd {W:World} {b:Nat} {t:TypeId} {a v u x y z:Value} (hB:Blk W b t #[a,v,u,x,y,z]) {e:TypeId} (HH:t≠e) {base size k:Nat} {vv:Value} {xs:List Value} (hr:W.ownsRow base e size vv k xs) (a' v' u' x' y' z':Value):((((((W.setCell ⟨b,0,none⟩ a').setCell ⟨b,1,none⟩ v').setCell ⟨b,2,none⟩ u').setCell ⟨b,3,none⟩ x').setCell ⟨b,4,none⟩ y').setCell ⟨b,5,none⟩ z').ownsRow base e size vv k xs:=by
 have r1:=hr.kept (zab _ b 0 a') (.inr (hB.not_row HH hr).symm);have b1:=hB.set 0 a';have r2:=r1.kept (zab _ b 1 v') (.inr (b1.not_row HH r1).symm);have b2:=b1.set 1 v';have r3:=r2.kept (zab _ b 2 u') (.inr (b2.not_row HH r2).symm);have b3:=b2.set 2 u';have r4:=r3.kept (zab _ b 3 x') (.inr (b3.not_row HH r3).symm);have b4:=b3.set 3 x';have r5:=r4.kept (zab _ b 4 y') (.inr (b4.not_row HH r4).symm);have b5:=b4.set 4 y'
 exact r5.kept (zab _ b 5 z') (.inr (b5.not_row HH r5).symm)
theorem zdc (w W:World) (v:Value) (hv:v=.slice none 0 0) (hE:Ext w W):zl3 w none (.returned (.tuple #[.agg #[.int .i64 0,.int .i64 0,.int .i64 0,.int .i64 0,.int .i64 0,v],.int .i64 11])) W:=by
 subst hv;exact ⟨_,rfl,Pe _ _ _ _,hE⟩
theorem six {l:List Int} (h:l.length=6):∃ a b c d e f,l=[a,b,c,d,e,f]:=by
 match l,h with
 | [a,b,c,d,e,f],_=>exact ⟨a,b,c,d,e,f,rfl⟩
theorem four {l:List Int} (h:l.length=4):∃ a b c d,l=[a,b,c,d]:=by
 match l,h with
 | [a,b,c,d],_=>exact ⟨a,b,c,d,rfl⟩
theorem zfe {k:Nat} {bs:List UInt8} {l:List Int} {r:List UInt8} (h:zae k [] bs=(0,l,r)):l.length=k∧(∀ x∈l,0≤x∧x≤1073741824)∧r.length≤bs.length:=by
 obtain ⟨l',rfl,h1,h2,rfl⟩:=zfB _ _ _ _ _ h
 refine ⟨h1,fun x hx=>?_,by simp⟩
 unfold zav at h2;rw[P3] at h2
 exact numB_true.1 (h2 x (by simpa using hx))
theorem zlh {e:Int} {l:List Int} {r:List UInt8} (h:e≠0):zfx (e,l,r)=none:=if_pos h
theorem zmT {l:List Int} {r:List UInt8} (h:60<l.getD 5 0):zfx (0,l,r)=none:=by unfold zfx;simp only[ne_eq,not_true_eq_false,if_false];rw[if_pos h]
theorem zmU {l:List Int} {r:List UInt8} (h:¬ 60<l.getD 5 0):zfx (0,l,r)=(zb6 (l.getD 5 0).toNat [] r).map fun s=>⟨l.getD 0 0,l.getD 1 0,l.getD 2 0,l.getD 3 0,l.getD 4 0,s⟩:=by unfold zfx;simp only[ne_eq,not_true_eq_false,if_false];rw[if_neg h]
theorem zkx {k:Nat} {H1:List Sg4} {r:List UInt8} (h:(zae 4 [] r).1≠0):zb6 (k+1) H1 r=none:=by rw[zb6,if_neg h]
theorem zlp {k:Nat} {H1:List Sg4} {r r':List UInt8} {a b c d:Int} (h:zae 4 [] r=(0,[a,b,c,d],r')):zb6 (k+1) H1 r=zb6 k (H1++[⟨a,b,c,d-1⟩]) r':=by rw[zb6,h];rfl
theorem zjC:(Tryz.prog.info? 74).map (fun i=>(i.zero,i.size,i.bytes))=some (some (.agg #[.int .i64 0,.int .i64 0,.int .i64 0,.int .i64 0]),4,32):=by kernel_rfl
theorem zk4 (v:Value) (bs:List UInt8) (w:World) (hB:Bs w v bs) (hl:bs.length≤2000000):Calls Tryz.prog 17 #[v] w (zl3 w (zbe bs)):=by
 obtain ⟨A,c,rfl,h1,h2⟩:=xO hB;have HA:=Blk.new w 30 #[.int .i64 0,.int .i64 0,.int .i64 0,.int .i64 0,.int .i64 0,.slice none 0 0]
 have hX:Ext w (w.alloc (.cells #[.int .i64 0,.int .i64 0,.int .i64 0,.int .i64 0,.int .i64 0,.slice none 0 0] 30)):=xA (xR _) _
 have Kv:=zmZ _ bs _ (hB.ext hX) hl;obtain ⟨R,hR⟩:∃ R,zbe bs=R:=⟨_,rfl⟩;have Kf:=hR;unfold zbe at Kf;rw[hR]
 have H6:∀ p,zaM rT bs=some p→p.length≤2000000:=fun p h=>by
  have:=zh1 h;omega
 obtain ⟨r,hr⟩:∃ r,zaM rT bs=r:=⟨_,rfl⟩;rw[hr] at Kv Kf H6;have KI:=zhd Kv;have HR:=zhd Kf;have HB:=zhd hB;clear Kv hr hR Kf hB
 go_enter Tryz.func17,Tryz.ntmps17
 go_wp2_with fail
 refine KI.out.mono ?_
 rintro e w1 ⟨⟨v1,rfl,HY⟩,Ht⟩;have Hf:=HA.ext Ht;have E1:=xT hX Ht;have Hh:=zhd E1;have HM:=zhd Hf;clear HA hX Ht E1
 cases r with
 | none =>
  obtain rfl:none=R:=HR.out
  obtain ⟨f0,f1,f2,f3,f4,f5⟩:=zeQ Hf;obtain ⟨g0,g1,g2,g3,g4,g5⟩:=zan Hf;clear Hf
  dsimp only[Pc]
  go_wp2_with fail
  refine bodyPost_ret (zcO _ _ _ _ _ rfl rfl (zby HM.out _ _ _ _ _ _) rfl) rfl ?_
  exact zdc _ _ _ rfl (zbM Hh.out (xN _) _ _ _ _ _ _)
 | some p =>
  have hp:=H6 p rfl;clear H6
  dsimp only[Pc,Pd] at HY HR ⊢
  obtain ⟨A1,c1,rfl,h3,h4⟩:=xO HY.bs
  by_cases hp1:p.length<1
  ·have HF:zdS p=none:=by unfold zdS;rw[if_pos hp1]
   obtain rfl:none=R:=by rw[←HR.out,HF]
   obtain ⟨f0,f1,f2,f3,f4,f5⟩:=zeQ Hf;obtain ⟨g0,g1,g2,g3,g4,g5⟩:=zan Hf
   have Jx:(p.length:Int)<1:=by omega
   clear Hf HF;go_wp2_with fail
   refine bodyPost_ret (zcO _ _ _ _ _ rfl rfl (zby HM.out _ _ _ _ _ _) rfl) rfl ?_
   exact zdc _ _ _ rfl (zbM Hh.out (xN _) _ _ _ _ _ _)
  obtain ⟨_,b1,Hy,rfl,_⟩:=Bs.at_ HY.bs (by omega)
  have Jx:¬ (p.length:Int)<1:=by omega
  have Hv:=Bs.cut HY.bs 1 (by omega) rfl
  have KU:(p.drop 1).length=p.length-1:=by simp
  obtain ⟨Q,hQ⟩:∃ Q,p.drop 1=Q:=⟨_,rfl⟩
  have HF:zdS p=zfx (zae 6 [] Q):=by unfold zdS;rw[if_neg hp1,hQ]
  rw[hQ] at Hv KU;obtain ⟨⟨er,ls,rs⟩,hq⟩:∃ q,zae 6 [] Q=q:=⟨_,rfl⟩;rw[hq] at HF
  have HJ:Hid ((match zfx (er,ls,rs) with | none=>none | some m=>if zbs m=some bs then some m else none)=R):=zhd (by rw[←HF];exact HR.out)
  have Hq:=zhd hq;have HN:=zhd Hv
  have HQ:er≠0→none=R:=fun h=>by rw[←HJ.out,zlh h]
  have Hp:=zhd HQ;clear HF Hv hQ HR HQ
  by_cases KT:c1=1
  ·have Jm:Q=[]:=List.eq_nil_of_length_eq_zero (by omega)
   subst Jm
   have Kh:er≠0:=by
    intro h;subst h;obtain ⟨l',_,k2,_,k3⟩:=zfB _ _ _ _ _ hq;have k4:=congrArg List.length k3;have k5:=zin l'
    simp at k4
    omega
   have hT:Calls Tryz.prog 57 #[.slice (some ⟨b1,Hy,none⟩) 0 0,.int .i64 6] w1 (zgw w1 (er,ls,rs)):=by
    have:=zfR _ [] 6 (by omega) w1 (SlR.empty (A:=some ⟨b1,Hy,none⟩) (c:=0) _ 1 (by simp)) (by simp)
    rw[hq] at this
    exact this
   have HT:=zhd hT
   have Jy:p.length=1:=by simp at KU;omega
   obtain rfl:=Hp.out Kh
   clear hT hq HJ;subst KT
   rw[Jy] at *
   exact mcMan5a0
  have hT:Calls Tryz.prog 57 #[.slice (some ⟨b1,Hy+1,none⟩) (p.length-1) (c1-1),.int .i64 6] w1 (zgw w1 (er,ls,rs)):=by
   have:=zfR _ Q 6 (by omega) _ HN.out (by omega)
   rw[hq] at this
   exact this
  have HT:=zhd hT;clear hT hq
  by_cases Kh:er=0
  case neg =>
   obtain rfl:=Hp.out Kh
   exact mcMan5a0
  subst Kh;obtain ⟨KW,HX,JU⟩:=zfe Hq.out;obtain ⟨x0,x1,x2,x3,x4,x5,rfl⟩:=six KW;simp only[P1,P0,or_false,forall_eq_or_imp,forall_eq] at HX;obtain ⟨n0,n1,n2,n3,n4,n5⟩:=HX;clear Hp KW Hf;go_wp2_with fail
  refine HT.out.mono ?_
  rintro e w2 ⟨vl,vr,rfl,HZ,KY,Hu⟩;have H9:=zhd (HM.out.ext Hu);have Kk:=zhd (xT Hh.out Hu)
  dsimp only at HZ KY ⊢
  obtain ⟨Al,cl,rfl,_,_⟩:=xO (xW HZ);obtain ⟨_,bl,K6,rfl,H6⟩:=Is.at_ (l:=[x0,x1,x2,x3,x4,x5]) (xW HZ) (by simp);have c0:=H6 0 (by simp);have c1:=H6 1 (by simp);have c2:=H6 2 (by simp);have c3:=H6 3 (by simp);have c4:=H6 4 (by simp);have c5:=H6 5 (by simp);simp only[P6,P7,Ph] at c0 c1 c2 c3 c4 c5
  simp only[xC,P4,Pf,Pg] at *
  by_cases Kb:60<x5
  ·have hR:none=R:=by rw[←HJ.out,zmT (by simpa using Kb)]
   subst hR;obtain ⟨f0,f1,f2,f3,f4,f5⟩:=zeQ H9.out;obtain ⟨g0,g1,g2,g3,g4,g5⟩:=zan H9.out;go_wp2_with fail
   refine bodyPost_ret (zcO _ _ _ _ _ rfl rfl (zby H9.out _ _ _ _ _ _) rfl) rfl ?_
   exact zdc _ _ _ rfl (zbM (xT Hh.out Hu) (xN _) _ _ _ _ _ _)
  have K7:Hid ((match (zb6 x5.toNat [] rs).map (fun s=>(⟨x0,x1,x2,x3,x4,s⟩:Mf)) with | none=>none | some m=>if zbs m=some bs then some m else none)=R):=zhd (by rw[←HJ.out,zmU (by simpa using Kb)];rfl)
  clear HJ;go_wp2_with fail;have JK:=zhd HZ;clear H6 HZ KI HT HN HY Hq HM Hu
  refine wp_region_held_drew (S:=fun W=>W.cell? ⟨bl,K6,none⟩=some (.int .i64 x0)∧W.cell? ⟨bl,K6+1,none⟩=some (.int .i64 x1)∧W.cell? ⟨bl,K6+2,none⟩=some (.int .i64 x2)∧W.cell? ⟨bl,K6+3,none⟩=some (.int .i64 x3)∧W.cell? ⟨bl,K6+4,none⟩=some (.int .i64 x4)) (by kernel_rfl) ⟨c0,c1,c2,c3,c4⟩ (fun hHeld=>?_)
  refine tkN 0 rfl ?_;refine tkN 1 rfl ?_;refine tkN 2 rfl ?_;refine tkN 3 rfl ?_;refine tkN 4 rfl ?_;refine tkN 5 rfl ?_;refine tkN 6 rfl ?_;refine tkN 7 rfl ?_;refine tkN 8 rfl ?_;refine tkN 9 rfl ?_;refine tkN 10 rfl ?_;refine tkN 11 rfl ?_;refine tkN 12 rfl ?_;refine tkN 13 rfl ?_;refine tkN 14 rfl ?_;refine tkN 15 rfl ?_;refine tkN 16 rfl ?_
  refine ar1 17 rfl (fun K hK=>?_)
  go_simp
  have X3:Ext w2 (w2.drew.alloc (.cells #[.int .i64 0,.int .i64 0,.int .i64 0,.int .i64 0,.int .i64 0,.slice none 0 0] 30)):=xA (xD (xR _)) _
  refine shK hK _ _ ⟨X3.cell c0,X3.cell c1,X3.cell c2,X3.cell c3,X3.cell c4⟩ (fun hHeld=>?_)
  refine ar1 18 rfl (fun K hK=>?_)
  go_simp
  have X4:Ext w2 (w2.alloc (.cells #[.int .i64 x0,.int .i64 x1,.int .i64 x2,.int .i64 x3,.int .i64 x4,.slice none 0 0] 30)).drew:=xD (xA (xR _) _)
  have KP:Blk (w2.alloc (.cells #[.int .i64 x0,.int .i64 x1,.int .i64 x2,.int .i64 x3,.int .i64 x4,.slice none 0 0] 30)).drew w2.heap.size 30 #[.int .i64 x0,.int .i64 x1,.int .i64 x2,.int .i64 x3,.int .i64 x4,.slice none 0 0]:=(Blk.new w2 _ _).ext (xD (xR _))
  refine shK hK _ _ ⟨X4.cell c0,X4.cell c1,X4.cell c2,X4.cell c3,X4.cell c4⟩ (fun hHeld=>?_)
  refine wpAnyH_done (by kernel_rfl) ?_ _
  generalize Jn:(w2.alloc (.cells #[.int .i64 x0,.int .i64 x1,.int .i64 x2,.int .i64 x3,.int .i64 x4,.slice none 0 0] 30)).drew=w4 at *
  clear Jn X3;have KF:=zhd X4;have J9:=zhd KP;clear X4 KP
  have Jt:x5.toNat≤60:=by omega
  have JB:rs.length≤2000000:=by omega
  go_wp2_with fail
  go_loopw [7,10] (fun vt x W=>∃ (j:Nat) (H1:List Sg4) (rest:List UInt8) (u:Value) (vt':Value),j≤x5.toNat∧x=.int .i64 j∧vt=vt'∧Hid (H1.length=j)∧rest.length≤rs.length∧Hid (Bs W vt' rest)∧Hid (zb6 x5.toNat [] rs=zb6 (x5.toNat-j) H1 rest) ∧
   Hid (Blk W w2.heap.size 30 #[.int .i64 x0,.int .i64 x1,.int .i64 x2,.int .i64 x3,.int .i64 x4,u])∧Hid (W.ownsRow w2.heap.size 74 4 u H1.length (zaF H1))∧Ext w2 W) (fun _ x _=>x5.toNat-(intOf x).toNat)
  case atStart =>
   exact ⟨0,[],rs,_,_,by omega,rfl,rfl,rfl,xN _,zhd ((xW KY:Bs w2 vr rs).ext KF.out),zhd rfl,J9,zhd (Pe _ _ _ _),KF.out⟩
  case round =>
   obtain ⟨j,H1,rest,u,vt,hj,rfl,rfl,HL,JA,J5,HG,K8,HO,He⟩:=hrel;have HE:=zhd (xT Kk.out He);have Ho:=zhd He;have JH:=He.cell c5
   have KO:H1.length≤60:=by have:=HL.out;omega
   clear He c0 c1 c2 c3 c4 c5
   by_cases hlt:j<x5.toNat
   ·obtain ⟨k,hk⟩:∃ k,x5.toNat-j=k+1:=⟨x5.toNat-j-1,by omega⟩
    have hG:=HG.out;rw[hk] at hG;have Kt:=zfR u7 rest 4 (by omega) wr J5.out (by omega);obtain ⟨⟨e4,l4,r4⟩,HD⟩:∃ q,zae 4 [] rest=q:=⟨_,rfl⟩;rw[HD] at Kt
    have Kl:Hid (Calls Tryz.prog 57 #[u7,.int .i64 4] wr (zgw wr (e4,l4,r4))):=zhd Kt
    have JR:(j:Int)<x5:=by omega
    have Hj:=zhd hj;clear Kt HG
    by_cases he4:e4=0
    case neg =>
     have hR:none=R:=by rw[←K7.out,hG,zkx (by rw[HD];exact he4)];rfl
     clear hG HD K7;subst hR;go_wp2_with fail
     refine Kl.out.mono ?_
     rintro e w5 ⟨JE,JF,rfl,_,_,Hd⟩;have Kn:=zhd (H9.out.ext (xT Ho.out Hd));obtain ⟨f0,f1,f2,f3,f4,f5⟩:=zeQ Kn.out;obtain ⟨g0,g1,g2,g3,g4,g5⟩:=zan Kn.out
     dsimp only at *
     go_wp2_with fail
     refine bodyPost_ret (zcO _ _ _ _ _ rfl rfl (zby Kn.out _ _ _ _ _ _) rfl) rfl ?_
     exact zdc _ _ _ rfl (zbM (xT HE.out Hd) (xN _) _ _ _ _ _ _)
    subst he4;obtain ⟨KV,Hm,JT⟩:=zfe HD;obtain ⟨y0,y1,y2,y3,rfl⟩:=four KV;simp only[P1,P0,or_false,forall_eq_or_imp,forall_eq] at Hm;obtain ⟨q0,q1,q2,q3⟩:=Hm;rw[zlp HD] at hG;have HG:=zhd hG
    have JV:IntKind.i64.wrap (y3-1)=y3-1:=by rw[IntKind.wrap_i64];omega
    clear KV HD hG;go_wp2_with fail
    refine Kl.out.mono ?_
    rintro e w5 ⟨JE,JF,rfl,Hw,K3,Hd⟩
    dsimp only at Hw K3 ⊢
    obtain ⟨JG,JM,rfl,_,_⟩:=xO (xW Hw);obtain ⟨_,Ka,Kj,rfl,H7⟩:=Is.at_ (l:=[y0,y1,y2,y3]) (xW Hw) (by simp);have d0:=H7 0 (by simp);have d1:=H7 1 (by simp);have d2:=H7 2 (by simp);have d3:=H7 3 (by simp);simp only[P6,P7,Ph] at d0 d1 d2 d3
    simp only[xC,P4,Pf,Pg] at *
    obtain ⟨Au,cu,rfl,_,_⟩:=xO (xW HO.out);have Hs:=zhd (K8.out.ext Hd);obtain ⟨_,_,_,_,_,g5⟩:=zan Hs.out;have Hz:=zhd (zaf HO.out Hd);have KJ:=zhd Hw;have KC:=zhd Hd;clear H7 Hw Hd HO K8 Kl;go_wp2_with fail
    refine wp_region_held_drew (S:=fun W=>W.cell? ⟨Ka,Kj,none⟩=some (.int .i64 y0)∧W.cell? ⟨Ka,Kj+1,none⟩=some (.int .i64 y1)∧W.cell? ⟨Ka,Kj+2,none⟩=some (.int .i64 y2)∧W.cell? ⟨Ka,Kj+3,none⟩=some (.int .i64 y3)) (by kernel_rfl) ⟨d0,d1,d2,d3⟩ (fun hHeld=>?_)
    refine tkN 0 rfl ?_;refine tkN 2 rfl ?_;refine tkN 3 rfl ?_;refine tkN 4 rfl ?_;refine tkN 5 rfl ?_;refine tkN 6 rfl ?_;refine tkN 7 rfl ?_;refine tkN 8 rfl ?_;refine tkN 9 rfl ?_;refine tkN 10 rfl ?_;refine tkN 11 rfl ?_;refine tkN 12 rfl ?_;refine tkN 13 rfl ?_;refine tkN 14 rfl ?_;refine tkN 15 rfl ?_
    have X6:Ext w5 (w5.alloc (.cells #[.int .i64 y0,.int .i64 y1,.int .i64 y2,.int .i64 (y3-1)] 74)).drew:=xD (xA (xR _) _)
    have Jf:w5.drew.cell? ⟨w2.heap.size,5,none⟩=some (.slice Au H1.length cu):=g5
    have Jg:=X6.cell g5
    refine zhB (i:=1) (j:=16) (vi:=.slice Au H1.length cu) (vj:=.slice (some ⟨w5.heap.size,0,none⟩) 1 1) (w':=(w5.alloc (.cells #[.int .i64 y0,.int .i64 y1,.int .i64 y2,.int .i64 (y3-1)] 74)).drew) rfl rfl (by kernel_rfl) (by kernel_rfl) (by kernel_rfl) (by rfl) (by rfl) (by rfl) (by rfl) (by rfl) (by rfl) hHeld ⟨X6.cell d0,X6.cell d1,X6.cell d2,X6.cell d3⟩ ?h1 ?h2 ?h3 ?h4 ?h5
    case h1=>go_simp
    case h2=>go_simp
    case h3=>go_simp
    case h4=>go_simp
    case' h5=>skip
    try simp only[Act.put,sA,sZ,sS]
    have KZ:SlR (w5.alloc (.cells #[.int .i64 y0,.int .i64 y1,.int .i64 y2,.int .i64 (y3-1)] 74)).drew 4 (.slice (some ⟨w5.heap.size,0,none⟩) 1 1) 1 (zaF [⟨y0,y1,y2,y3-1⟩]):=SlR.ext (zjF w5 [⟨y0,y1,y2,y3-1⟩] 1 rfl (by simp[maxLen])) (xD (xR _))
    have H2:=zhd X6;have Jb:=zhd KZ
    have H5:w2.heap.size≤(w5.alloc (.cells #[.int .i64 y0,.int .i64 y1,.int .i64 y2,.int .i64 (y3-1)] 74)).drew.heap.size:=(xT Ho.out (xT KC.out X6)).size
    obtain ⟨i0,hi,Ky,Kz,KA⟩:=info_parts zjC;clear KZ X6 Jf Jg
    refine ar1 17 rfl (fun K hK=>?_)
    refine zcK _ (.tmp 78) (.tmp 93) 28 (by rfl) w2.heap.size 74 i0 _ 4 32 Tryz.underlying28 hi Ky Kz KA rfl (by decide) (.slice Au H1.length cu) H1.length (zaF H1) (by rfl) (zaf Hz.out H2.out) _ 1 (zaF [⟨y0,y1,y2,y3-1⟩]) (by rfl) Jb.out (zkT _) (by unfold maxLen;omega) (by omega) H5 ?_
    intro v7 w7 Ki Hg;have H8:=zrw (by decide) (zaf KJ.out H2.out) (zaf Hz.out H2.out);have H3:=(Hs.out.ext H2.out).kept Hg ((Hs.out.ext H2.out).not_row (by decide) (zaf Hz.out H2.out))
    have E7:Ext w2 w7:=Ext.grownOwn (xT Ho.out (xT KC.out H2.out)) (zaf Hz.out H2.out) Hg
    refine shK hK _ _ ⟨zar Hg (H2.out.cell d0) H8,zar Hg (H2.out.cell d1) H8,zar Hg (H2.out.cell d2) H8,zar Hg (H2.out.cell d3) H8⟩ (fun hHeld=>?_)
    have Jd:=H3.frozen 5
    have Je:w7.cell? ⟨w2.heap.size,5,none⟩=some (.slice Au H1.length cu):=H3.cell 5 rfl
    have Hx:=zmL (by decide) (zaf K3 H2.out) (zaf Hz.out H2.out) Hg;have K1:=zmL (by decide) (zaf KJ.out H2.out) (zaf Hz.out H2.out) Hg;have HW:=H3.not_row (by decide) K1;have k0:=hHeld.1;have k1:=hHeld.2.1;have k2:=hHeld.2.2.1;have k3:=hHeld.2.2.2;obtain ⟨A7,c7,rfl,_,_⟩:=xO (xW Ki);refine tkN 18 rfl ?_
    refine ar1 19 rfl (fun K hK=>?_)
    go_simp
    have E8:Ext w2 (w7.setCell ⟨w2.heap.size,5,none⟩ (.slice A7 (H1.length+1) c7)):=Below.setCell (p:=⟨w2.heap.size,5,none⟩) E7 (xN _) _
    have KQ:=H3.set 5 (.slice A7 (H1.length+1) c7);have K2:=Ki.kept (zab _ w2.heap.size 5 (.slice A7 (H1.length+1) c7)) (.inr (H3.not_row (by decide) Ki).symm);have K4:=Hx.kept (zab _ w2.heap.size 5 (.slice A7 (H1.length+1) c7)) (.inr (H3.not_row (by decide) Hx).symm)
    refine shK hK _ _ ⟨zar (zab _ w2.heap.size 5 (.slice A7 (H1.length+1) c7)) k0 HW.symm,zar (zab _ w2.heap.size 5 (.slice A7 (H1.length+1) c7)) k1 HW.symm,zar (zab _ w2.heap.size 5 (.slice A7 (H1.length+1) c7)) k2 HW.symm,zar (zab _ w2.heap.size 5 (.slice A7 (H1.length+1) c7)) k3 HW.symm⟩ (fun hHeld=>?_)
    refine wpAnyH_done (by kernel_rfl) ?_ _;have J6:=zhd E8;have Hi:=zhd KQ;have Ja:=zhd K2;have Kq:=zhd K4;clear E8 KQ K2 K4 hHeld HW k0 k1 k2 k3 K1 Hx Je Jd E7 H3 H8 Hg Ki H5;go_wp2_with fail
    go_roundw
    case rel =>
     refine ⟨j+1,H1++[⟨y0,y1,y2,y3-1⟩],r4,_,_,by omega,by go_num,rfl,zhd (by simp[HL.out]),by omega,zhd (xW Kq.out),?_,Hi,?_,J6.out⟩
     ·rw[show x5.toNat-(j+1)=k by omega];exact HG
     ·rw[show zaF (H1++[⟨y0,y1,y2,y3-1⟩])=zaF H1++zaF [⟨y0,y1,y2,y3-1⟩] by simp[zaF],xL];exact Ja
    case measure=>simp[intOf];omega
   ·obtain rfl:j=x5.toNat:=by omega
    have hG:=HG.out;rw[Nat.sub_self,zb6] at hG
    have KE:Hid ((if zbs ⟨x0,x1,x2,x3,x4,H1⟩=some bs then some ⟨x0,x1,x2,x3,x4,H1⟩ else none)=R):=zhd (by rw[←K7.out,hG];rfl)
    have Kg:Sgs wr u H1:=xW HO.out
    obtain ⟨Au,cu,rfl,_,_⟩:=Kg.open_;have Hc:=zl8 ⟨x0,x1,x2,x3,x4,H1⟩ (.slice Au H1.length cu) wr Kg;obtain ⟨p0,p1,p2,p3,p4,p5⟩:=zan K8.out;have Jj:=HB.out.ext HE.out;have JJ:=zhd Kg;obtain ⟨pr,Kx⟩:∃ pr,zbs ⟨x0,x1,x2,x3,x4,H1⟩=pr:=⟨_,rfl⟩;rw[Kx] at Hc
    have HK:Hid ((if pr=some bs then some ⟨x0,x1,x2,x3,x4,H1⟩ else none)=R):=zhd (by rw[←Kx];exact KE.out)
    have Hn:=zhd Hc
    have JW:((x5.toNat:Nat):Int)=x5:=by omega
    have JD:¬ (((x5.toNat:Nat):Int)<x5):=by omega
    clear hG KE Kg Hc Kx HG K7;go_wp2_with fail
    refine Hn.out.mono ?_
    rintro e w8 ⟨⟨v8,rfl,K2⟩,Hk⟩;have Hi:=zhd (H9.out.ext (xT Ho.out Hk));have Ko:=zhd (K8.out.ext Hk);obtain ⟨f0,f1,f2,f3,f4,f5⟩:=zeQ Hi.out;obtain ⟨g0,g1,g2,g3,g4,g5⟩:=zan Hi.out;obtain ⟨t0,t1,t2,t3,t4,t5⟩:=zan Ko.out;have J8:=zhd (zaf HO.out Hk);have JL:=zhd (xT HE.out Hk);clear p0 p1 p2 p3 p4 p5
    cases pr with
    | none =>
     obtain rfl:none=R:=HK.out
     dsimp only[Pc]
     go_wp2_with fail
     refine bodyPost_ret (zcO _ _ _ _ _ rfl rfl (zby Hi.out _ _ _ _ _ _) rfl) rfl ?_
     exact zdc _ _ _ rfl (zbM (xT HE.out Hk) (xN _) _ _ _ _ _ _)
    | some q =>
     dsimp only[Pc,Pd] at K2 ⊢
     have JP:=za7 (P:=Tryz.prog) w8 38 9 5 Tryz.underlying38 Tryz.underlying5 Tryz.underlying9 K2.bs;have JQ:=za7 (P:=Tryz.prog) w8 38 9 5 Tryz.underlying38 Tryz.underlying5 Tryz.underlying9 (Jj.ext Hk)
     by_cases hqb:q=bs
     ·obtain rfl:some _=R:=by rw[←HK.out,if_pos (by rw[hqb])]
      subst hqb;clear HK;go_wp2_with fail
      refine bodyPost_ret (zcO _ _ _ _ _ rfl rfl (zby Hi.out _ _ _ _ _ _) rfl) rfl ?_
      exact ⟨_,rfl,zai (ztd Hi.out (by decide) J8.out _ _ _ _ _ _) (by first | exact xN _ | exact Kk.out.size | (have:=Kk.out.size;omega)),zbM (xT HE.out Hk) (xN _) _ _ _ _ _ _⟩
     ·obtain rfl:none=R:=by rw[←HK.out,if_neg (by simpa using hqb)]
      have Jz:(q==bs)=false:=by simpa using hqb
      clear HK;go_wp2_with fail
      refine bodyPost_ret (zcO _ _ _ _ _ rfl rfl (zby Hi.out _ _ _ _ _ _) rfl) rfl ?_
      exact zdc _ _ _ rfl (zbM (xT HE.out Hk) (xN _) _ _ _ _ _ _)
end Go.Proofs.YtgonhdeochgkoaaGreatDoor

namespace Go.Mv
open Go.RowKit
theorem Moves.blk {M:Nat→Obj→Prop} {A B:World} (h:Moves M A B) {b:Nat} {t:TypeId} {cs:Array Value} (hb:Blk A b t cs) (hM:¬ M b (.cells cs t (0,0))):Blk B b t cs:=h.same b _ hb hM
theorem Moves.blkF {n:Nat} {A B:World} (h:Moves (zad (fun _ _=>False) n) A B) {b:Nat} {t:TypeId} {cs:Array Value} (hb:Blk A b t cs):Blk B b t cs:=h.blk hb (by rintro (h | ⟨_,h⟩);exact h;cases h)
theorem Moves.belowF {n:Nat} {A B w:World} (h:Moves (zad (fun _ _=>False) n) A B) (he:Ext w A) (hn:w.heap.size≤n):Ext w B:=h.belowOf he (by rintro k o hk (h | h);exact h;omega) (xN _)
end Go.Mv
namespace Go.Proofs.YtgonhdeochgkoaaGreatDoor
open Go.RowKit Go.Mv Go.Shelf
attribute [local go_sem] Oper.semAt_some
theorem zfk {W:World} {b:Nat} {t:TypeId} {cs:Array Value} (h:Blk W b t cs) {D:Nat} {o:Obj} (hD:W.heap[D]?=some o) (hc:o.isCells=false) (o':Obj):Blk (W.putObj D o') b t cs:=by
 refine (World.putObj_heap_other (fun e=>?_)).trans h
 subst e
 rw[show W.heap[b]?=_ from h] at hD;cases hD;cases hc
open Go.RowKit Go.Mv
theorem zeW:∀ (k:Nat) (H1:List Int) (bs:List UInt8),zae k H1 bs=if (zae k [] bs).1=0 then (0,H1++(zae k [] bs).2.1,(zae k [] bs).2.2) else zae k [] bs
 | 0,H1,bs=>by simp[zae]
 | k+1,H1,bs=>by
  rw[zae,zae]
  by_cases h:(zaK bs).1=0
  ·rw[if_pos h,if_pos h,zeW k (H1++_),zeW k ([]++_)]
   by_cases h2:(zae k [] (zaK bs).2.2).1=0
   ·simp[h2]
   ·simp[h2]
  ·rw[if_neg h,if_neg h]
   simp[h]
theorem zgr (b:Nat):∀ (a:Nat) (H1:List Int) (bs:List UInt8),zae (a+b) H1 bs=if (zae a H1 bs).1=0 then zae b (zae a H1 bs).2.1 (zae a H1 bs).2.2 else zae a H1 bs
 | 0,H1,bs=>by simp[zae]
 | a+1,H1,bs=>by
  rw[show a+1+b=(a+b)+1 by omega,zae,zae]
  by_cases h:(zaK bs).1=0
  ·rw[if_pos h,if_pos h,zgr b a]
  ·rw[if_neg h,if_neg h]
   simp[h]
def zhr:List Int→List Sg4
 | a::b::c::d::l=>⟨a,b,c,d-1⟩::zhr l
 | _=>[]
theorem zjd:∀ (k:Nat) (H1:List Sg4) (r:List UInt8),zb6 k H1 r=if (zae (4*k) [] r).1=0 then some (H1++zhr (zae (4*k) [] r).2.1) else none
 | 0,H1,r=>by simp[zb6,zae,zhr]
 | k+1,H1,r=>by
  have Ku:=zgr (4*k) 4 [] r
  rw[show 4*(k+1)=4+4*k by omega,Ku]
  by_cases h:(zae 4 [] r).1=0
  ·rw[if_pos h]
   obtain ⟨e,l,r',hl⟩:∃ e l r',zae 4 [] r=(e,l,r'):=⟨_,_,_,rfl⟩;rw[hl] at h;dsimp only at h;subst h;obtain ⟨a,b,c,d,rfl⟩:=four (zfe hl).1;rw[zlp hl,zjd k,hl];dsimp only
   rw[zeW (4*k) [a,b,c,d]]
   by_cases h2:(zae (4*k) [] r').1=0
   ·simp[h2,zhr]
   ·simp[h2]
  ·rw[if_neg h,zkx h,if_neg h]
theorem zrG {p:List UInt8} {a b c d e f:Int} {r:List UInt8} (hp:1≤p.length) (h6:zae 6 [] (p.drop 1)=(0,[a,b,c,d,e,f],r)) (Kb:f≤60) :
  zdS p=if (zae (6+4*f.toNat) [] (p.drop 1)).1=0 then some ⟨a,b,c,d,e,zhr ((zae (6+4*f.toNat) [] (p.drop 1)).2.1.drop 6)⟩ else none:=by
 unfold zdS
 rw[if_neg (by omega),h6,zmU (show ¬ 60<[a,b,c,d,e,f].getD 5 0 by simpa using Kb),zgr (4*f.toNat) 6,h6]
 simp only[if_true]
 rw[zeW (4*f.toNat) [a,b,c,d,e,f]]
 show (zb6 f.toNat [] r).map _=_
 rw[zjd]
 by_cases h2:(zae (4*f.toNat) [] r).1=0
 ·simp[h2]
 ·simp[h2]
theorem zjK {p:List UInt8} {e:Int} {l:List Int} {r:List UInt8} (h6:zae 6 [] (p.drop 1)=(e,l,r)) (h:e≠0∨60<l.getD 5 0):zdS p=none:=by
 unfold zdS
 split
 ·rfl
 ·rw[h6]
  by_cases he:e=0
  ·subst he
   exact zmT (h.resolve_left (by simp))
  ·exact zlh he
def zdu (m:Mf) (k:Nat) (u:Value):Prop:=u=.int .i64 0∨u=.int .i64 m.sq∨∃ s∈m.segs.take k,u=.int .i64 s.seq
theorem zkR {a b:Int} (h:Value.int .i64 a=.int .i64 b):a=b:=by injection h
theorem ztl (m:Mf) (k:Nat) (n:Int):zdu m k (.int .i64 n)↔n=0∨n=m.sq∨∃ s∈m.segs.take k,s.seq=n:=by
 unfold zdu
 constructor
 ·rintro (h | h | ⟨s,hs,h⟩)
  ·exact .inl (zkR h)
  ·exact .inr (.inl (zkR h))
  ·exact .inr (.inr ⟨s,hs,(zkR h).symm⟩)
 ·rintro (rfl | rfl | ⟨s,hs,rfl⟩)
  ·exact .inl rfl
  ·exact .inr (.inl rfl)
  ·exact .inr (.inr ⟨s,hs,rfl⟩)
theorem zlo {m:Mf} {i:Nat} (hi:i<m.segs.length):zbv m i m.segs[i]=true ↔
  (zbC m.next m.segs[i].seq m.segs[i].fmt=true∧¬ zdu m i (.int .i64 m.segs[i].seq))∧(1≤m.segs[i].first∧m.segs[i].first≤1073741820) ∧
  ((m.segs[i].count = -1∧i+1=m.segs.length)∨(1≤m.segs[i].count∧m.segs[i].count≤4))∧(i=0∨∃ p,m.segs[i-1]?=some p∧m.segs[i].first=p.first+p.count):=by
 rw[ztl];unfold zbv inB
 have hp:∃ p,m.segs[i-1]?=some p:=⟨_,P5 (show i-1<m.segs.length by omega)⟩
 obtain ⟨p,hp⟩:=hp;rw[hp]
 generalize m.segs[i]=s at *
 simp only[Pi,decide_eq_true_eq,P3,Pj]
 constructor
 ·rintro ⟨⟨⟨⟨⟨h1,h2⟩,h3⟩,h4⟩,h5⟩,h6⟩
  refine ⟨⟨h1,?_⟩,h3,?_,?_⟩
  ·rintro (h | h | ⟨t,ht,h⟩)
   ·have:=(zeF h1).1;omega
   ·exact h2 h
   ·exact h4 t ht h
  ·rcases h6 with h | h
   ·exact .inr h
   ·exact .inl h
  ·rcases h5 with h | h
   ·exact .inl h
   ·exact .inr ⟨p,rfl,h⟩
 ·rintro ⟨⟨h1,h2⟩,h3,h4,h5⟩
  refine ⟨⟨⟨⟨⟨h1,fun h=>h2 (.inr (.inl h))⟩,h3⟩,fun t ht h=>h2 (.inr (.inr ⟨t,ht,h⟩))⟩,?_⟩,?_⟩
  ·rcases h5 with h | ⟨p',h,h'⟩
   ·exact .inl h
   ·cases h
    exact .inr h'
  ·rcases h4 with h | h
   ·exact .inr h
   ·exact .inl h
theorem zln {m:Mf} {i:Nat} (hi:i<m.segs.length) (u:Value):zdu m (i+1) u↔zdu m i u∨u=.int .i64 m.segs[i].seq:=by
 unfold zdu;rw[P2 hi];simp only[P9,List.mem_singleton]
 constructor
 ·rintro (h | h | ⟨s,h | rfl,h'⟩)
  ·exact .inl (.inl h)
  ·exact .inl (.inr (.inl h))
  ·exact .inl (.inr (.inr ⟨s,h,h'⟩))
  ·exact .inr h'
 ·rintro ((h | h | ⟨s,h,h'⟩) | h)
  ·exact .inl h
  ·exact .inr (.inl h)
  ·exact .inr (.inr ⟨s,.inl h,h'⟩)
  ·exact .inr (.inr ⟨_,.inr rfl,h⟩)
end Go.Proofs.YtgonhdeochgkoaaGreatDoor
