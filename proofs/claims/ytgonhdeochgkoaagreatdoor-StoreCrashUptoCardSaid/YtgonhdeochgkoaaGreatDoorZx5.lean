/- Merged -/
import Derived.Test.YtgonhdeochgkoaaGreatDoorZx4
import Derived.Laws.Bits64
set_option linter.all false
set_option maxHeartbeats 8000000
set_option maxRecDepth 100000
open UInt8 renaming ofNat→P0
open List renaming take_of_length_le→P1,append_toArray→P2,cons_append→P3,size_toArray→P4,push_toArray→P5,getElem?_eq_some_iff→P6,length_nil→P7,append_assoc→P8,take_append_drop→P9,length_drop→Pa,drop_eq_getElem_cons→Pb,take_succ_eq_append_getElem→Pc,length_take→Pd,eq_nil_of_length_eq_zero→Pe,getElem?_cons_succ→Pf,getElem?_map→Pg,take_prefix→Ph,length_map→Pi,map→Pj
open Array renaming replicate_zero→Pk,replicate_succ→Pl
open BitVec renaming ofInt→Pm,ofInt_natCast→Pn,toNat_ofNat→Po
open Go.Oper renaming semAt_some→Pp
open Nat renaming reduceSub→Pq,reduceAdd→Pr,xor_lt_two_pow→Ps,mod_eq_of_lt→Pt,le_trans→Pu,zero_le→Pv,zero_mul→Pw,add_comm→Px,one_mul→Py,add_mul→Pz
open Go.World renaming block_lt_of_cell?→Q0
open Go.Boxed renaming new→Q1
open Go.IntKind renaming u32→Q2,wrap_u32→Q3
namespace Go.Proofs.YtgonhdeochgkoaaGreatDoor
open Go.RowKit Go.Mv Go.Shelf
theorem mcChaina0 {P:Prop} (h:P:=by
 rintro l H4 x H0 a' W hx hl hr ⟨v,hv,Hl,hB⟩ H7 rfl;have Hw:=zhd Hl;obtain ⟨va,vb,rfl,_,_⟩:=Hl;have hc:=hv.cell;have hf:=hv.frozen
 gi_wp2_with (refine ⟨trivial,?_⟩;gi_at_call 252;refine (callsIn_wd.2 (zl4 _ _ Hw.out _ _)).mono ?_;rintro e w' ⟨v',rfl,Kz,rfl⟩;have HV:=zhd Kz;obtain ⟨c1,c2,rfl,_,_⟩:=Kz)
 refine ⟨Kept.refl.setCell (fun o ho hc=>?_) _,_,hv.set _,by rw[zi0];exact HV.out,hB.setCell (p:=⟨w.heap.size,0,none⟩) (xN _) _⟩
 rintro (h | h)
 ·exact h.1 rfl
 ·rw[hc] at h;cases h.2):P:=h
attribute [local go_sem] Pp
theorem zrR {α:Type} (l:List α) (m:Nat) (h:m<l.length) (R:List α):l++R=l.take m++l[m]::(l.drop (m+1)++R):=by
 have e:=P9 m l;rw[Pb h] at e
 calc l++R=(l.take m++l[m]::l.drop (m+1))++R:=by rw[e]
  _=_:=by rw[P8,P3]
def Hold (wo W:World):Prop:=∀ p u,wo.cell? p=some u→W.cell? p=some u
theorem Hold.kept {wo W W':World} {bz n:Nat} (h:Hold wo W) (HF:wo.heap.size≤bz) (hk:Kept (zad (fun k o=>k≠bz∧o.isCells=true) n) W W'):Hold wo W':=by
 intro p u hp;have H2:=Q0 wo p hp;obtain ⟨o,ho,hc⟩:=cells_of_cell (h p u hp)
 exact hk.cell (h p u hp) (fun o' Ks=>by rw[ho] at Ks;cases Ks;exact .inl ⟨by omega,hc⟩)
theorem zj4 (wo W0:World) (vp:Value) (bss:List (List UInt8)) (hP:Parts wo vp bss) (hE:Hold wo W0) (bz B:Nat) (HF:wo.heap.size≤bz) (hB:Boxed W0 B 180 vp) :
  Seq Tryz.prog 255 #[.pointer (some ⟨B,0,none⟩)]
   (fun (d:UInt8) av _=>av = #[bv d]) (fun k o=>k≠bz∧o.isCells=true) (fun _ _=>False) bss.flatten W0:=by
 intro l J Jx hJ Kd hY h0;obtain ⟨vs,Jk,K6,Jl⟩:=hP;obtain ⟨A,c,rfl,h1,h2⟩:=xO K6
 have JH:vs.length≤bss.length:=by omega
 have JI:bss.length≤vs.length:=by omega
 have Kh:=hB.cell;clear Jk hB
 refine (callsIn_wd (ro:=none) (n:=9)).1 ?_
 refine callsIn_of_wp Tryz.func255 rfl trivial ?_ rfl
 simp only[Tryz.ntmps255,P4,xC,P7,Pr,Pq,Pl,Pk,P5,P2,xI,P3]
 gi_wp2
 gi_loopw [9] (fun j W=>∃ k:Nat,k≤bss.length∧j=.int .i64 k∧Hid (J (bss.take k).flatten W)∧Hid (Hold wo W)∧W0.heap.size≤W.heap.size) (fun j _=>bss.length-(intOf j).toNat)
 case atStart=>exact ⟨0,Pv _,rfl,h0,hE,xN _⟩
 case round =>
  obtain ⟨k,hk,rfl,HJ,HH,H7⟩:=hrel
  by_cases H2:k<bss.length
  ·obtain ⟨_,ba,H3,rfl,hc⟩:=SlR.at_ K6 (by omega)
   have Kp:k<vs.length:=by omega
   have HS:=hc k vs[k] (List.getElem?_eq_getElem Kp);have HO:=Jl k Kp H2;obtain ⟨A',c',KA,h3,h4⟩:=xO HO;rw[KA] at HS HO;have HA:=HH.out _ _ HS;have HX:=zh6 bss k H2
   have Kl:bss.flatten=(bss.take k).flatten++(bss[k]++(bss.drop (k+1)).flatten):=by
    conv=>lhs;rw[←P9 (k+1) bss,List.flatten_append,HX,P8]
   have J6:=zhd HX;have J4:=zhd Kl
   generalize bss[k]=bk at *
   clear hc KA HX Kl HS
   gi_wp2
   gi_loopw [15] (fun j W=>∃ m:Nat,m≤bk.length∧j=.int .i64 m∧Hid (J ((bss.take k).flatten++bk.take m) W)∧Hid (Hold wo W)∧W0.heap.size≤W.heap.size) (fun j _=>bk.length-(intOf j).toNat)
   case atStart=>exact ⟨0,Pv _,rfl,by show J _ _;rw[List.take_zero,List.append_nil];exact HJ.out,HH,H7⟩
   case round =>
    obtain ⟨m,hm,rfl,HQ,HK,Hu⟩:=hrel
    by_cases hlt2:m<bk.length
    ·obtain ⟨_,b2,Jn,e2,Ki⟩:=Bs.at_ HO (by omega)
     cases e2
     have Kk:=HK.out _ _ (Ki m hlt2)
     have Hc:bk.take (m+1)=bk.take m++[bk[m]]:=Pc hlt2
     have Hs:bss.flatten=((bss.take k).flatten++bk.take m)++bk[m]::(bk.drop (m+1)++(bss.drop (k+1)).flatten):=by
      rw[J4.out,zrR bk m hlt2,P8]
     have hy:=hY _ _ _ Hs _ #[bv bk[m]] HQ.out Hu rfl;have Hv:=zhd Hc;have HM:=zhd Hs
     generalize bk[m]=bm at *
     have key:∀ (o:Oper) (a:Act) (next:Act→World→Prop) (Q:Exit→Act→World→Prop) (W:World),
       Mv.YieldsAt Tryz.prog l #[bv bm] W (fun e W'=>Kept (zad (fun k o=>k≠bz∧o.isCells=true) W0.heap.size) W W'∧((e=.returned (.bool true)∧J ((bss.take k).flatten++bk.take m++[bm]) W')∨(e=.returned (.bool false)∧Jx ((bss.take k).flatten++bk.take m++[bm]) W')))→Hold wo W→W0.heap.size≤W.heap.size →
       (∀ W':World,J ((bss.take k).flatten++bk.take (m+1)) W'→Hold wo W'→W0.heap.size≤W'.heap.size→next (a.put o.dst (.bool true)) W') →
       (∀ W':World,Jx ((bss.take k).flatten++bk.take (m+1)) W'→next (a.put o.dst (.bool false)) W') →
       o.uponIn (Wd none) 9 Tryz.prog a next Q ((Instr.yield l #[bv bm]).run Tryz.prog W):=by
      intro o a next Q W hy HG hs h1 h2
      refine zbb hy ?_
      rintro e W' ⟨H1,⟨rfl,hj⟩ | ⟨rfl,hj⟩⟩
      ·refine ⟨true,rfl,h1 W' ?_ (HG.kept HF H1) (Pu hs H1.size)⟩
       rw[Hv.out,←P8];exact hj
      ·refine ⟨false,rfl,h2 W' ?_⟩
       rw[Hv.out,←P8];exact hj
     have Ho:=zhd key;have Hy:=zhd hy
     have Hb:(bss.take k).flatten++bk.take (m+1) <+: bss.flatten:=by
      rw[HM.out,Hv.out];exact ⟨bk.drop (m+1)++(bss.drop (k+1)).flatten,by simp⟩
     have Hq:=zhd Hb;clear Ki Hc Hs key hy hY Hb
     gi_wp2
     refine Ho.out _ _ _ _ _ Hy.out HK.out Hu ?_ ?_
     ·intro W' hj HG hs
      have Hj:=zhd hj;have Hh:=zhd HG;clear hj HG Kk HA Kh
      gi_wp2
      exact ⟨⟨m+1,by omega,by go_num,Hj,Hh,hs⟩,by simp[intOf];omega⟩
     ·intro W' hj
      have Hj:=zhd hj;clear hj Kk HA Kh
      gi_wp2
      refine bodyPost_ret (results_none rfl _ _ _) rfl ?_
      exact ⟨⟨_,rfl⟩,.inr ⟨_,Hq.out,Hj.out⟩⟩
    ·have hq:=HQ.out
     rw[P1 (show bk.length≤m from by omega),←J6.out] at hq
     have J0:=zhd hq;clear hq
     gi_wp2
     exact ⟨⟨k+1,by omega,by go_num,J0,HK,Hu⟩,by simp[intOf];omega⟩
  ·have hj:=HJ.out
   rw[P1 (show bss.length≤k from by omega)] at hj
   have KY:=zhd hj;clear hj
   gi_wp2
   refine bodyPost_end (results_none rfl _ _ _) rfl ?_
   exact ⟨⟨_,rfl⟩,.inl KY.out⟩
attribute [local go_sem] Pp
theorem zeK (P:Program) (w:World) (a:Addr) (m:Mode) (x y:Nat):(store a (.complex .f64 x y) m).run P w=stored P w a (.complex .f64 x y) m:=run_store P w a _ m rfl
attribute [local go_sem] zeK
theorem zkf (A:Option Addr) (n c:Nat) (w:World):Calls Tryz.prog 251 #[.slice A n c] w fun e w'=>e=.returned (.func (.func 255) #[] #[.pointer (some ⟨w.heap.size,0,none⟩)])∧w.alloc (.cells #[.slice A n c] 180)=w':=by
 go_enter Tryz.func251,Tryz.ntmps251
 go_wp2
 go_ret
 exact ⟨rfl,rfl⟩
def zjW (v:Value) (bs:List UInt8) (w:World) (e:Ending) (w':World):Prop:=∃ v',e=.returned v'∧PtV v' (zaL (ptV v) bs)∧Ext w w'
def ChI (w:World) (p0:Nat×Nat) (H4:List UInt8) (X:World):Prop:=∃ v,Boxed X w.heap.size 201 v∧PtV v (zaL p0 H4)∧Below w.heap.size w X
theorem zhL (a b:Nat) (vp:Value) (bss:List (List UInt8)) (w:World) (h:Parts w vp bss) :
  Calls Tryz.prog 247 #[.complex .f64 a b,vp] w (zjW (.complex .f64 a b) bss.flatten w):=by
 obtain ⟨A,c,rfl,h1,h2⟩:∃ A c,vp=.slice A bss.length c∧bss.length≤c∧c≤9223372036854775807:=by obtain ⟨vs,_,hs,_⟩:=h;exact xO hs
 have hG:=zhd (fun w=>zkK a b w)
 have HP:=zhd h;clear h
 cases hok:((zaR a).isSome&&(zaR b).isSome)
 ·rw[hok] at hG
  have hz:PtV (.complex .f64 0 0) (ptV (.complex .f64 a b)):=by rw[zuo hok];exact PtV.zero
  unfold zjW
  generalize ptV (.complex .f64 a b)=p0 at *
  have Hz:=zhd hz;clear hok hz
  refine (callsIn_wd (ro:=none) (n:=9)).1 ?_
  refine callsIn_of_wp_marks Tryz.func247 rfl trivial ?_ rfl
  simp only[Tryz.ntmps247,P4,xC,P7,Pr,Pq,Pl,Pk,P5,P2,xI,P3]
  gi_wp2_with (first
   | (refine ⟨trivial,?_⟩;gi_at_call 250;refine (callsIn_wd.2 (hG.out _)).mono ?_;rintro e w' ⟨rfl,rfl⟩)
   | (refine ⟨trivial,?_⟩;gi_at_call 251;refine (callsIn_wd.2 (zkf _ _ _ _)).mono ?_;rintro e w' ⟨rfl,rfl⟩))
  have q2:Boxed ((w.alloc (.cells #[.complex .f64 0 0] 201)).alloc (.cells #[.slice A bss.length c] 180)) (w.heap.size+1) 180 (.slice A bss.length c):=by
   have:=Q1 (w.alloc (.cells #[.complex .f64 0 0] 201)) 180 (.slice A bss.length c)
   rwa [xS] at this
  have Hi:Ext w ((w.alloc (.cells #[.complex .f64 0 0] 201)).alloc (.cells #[.slice A bss.length c] 180)):=xA (xA (xR _) _) _
  have h0:ChI w p0 [] ((w.alloc (.cells #[.complex .f64 0 0] 201)).alloc (.cells #[.slice A bss.length c] 180)):=⟨_,(Q1 w _ _).alloc _,Hz.out,Hi⟩
  have Kv:((w.alloc (.cells #[.complex .f64 0 0] 201)).alloc (.cells #[.slice A bss.length c] 180)).heap.size=w.heap.size+2:=by simp
  generalize (w.alloc (.cells #[.complex .f64 0 0] 201)).alloc (.cells #[.slice A bss.length c] 180)=w2 at *
  refine zbN (a:=⟨_,_⟩) rfl (enters_of Tryz.func255 (by kernel_rfl) rfl)
   (fun W1 hb _=>zj4 w W1 _ bss HP.out (fun p u hc=>Ext.cell (xT Hi hb) hc) w.heap.size (w.heap.size+1) (xN _) (q2.kept (row:=none) (Ext.grown hb none) (by simp)))
   (fun k o h=>h.elim) (fun k o h=>h.2) (fun x av W h=>by rw[h];rfl)
   (ChI w p0) (fun _ _ _=>False) ?hI (fun _ _ _ _ h _=>h) h0
   (fun x a' _=>a'=⟨#[.complex .f64 a b,.slice A bss.length c,.pointer (some ⟨w.heap.size,0,none⟩),undef,.complex .f64 0 0,.int .u8 x.toNat,.complex .f64 a b,.bool false,.bool true,.slice A bss.length c,.func (.func 255) #[] #[.pointer (some ⟨w.heap.size+1,0,none⟩)],.int .u8 x.toNat,undef,undef,undef,undef],[]⟩)
   (fun _ _ _ _ h _=>h) ?assign ?body ?done ?stop
  case hI =>
   rintro s X Y ⟨v,hv,hr,hB⟩ hm
   refine ⟨v,hm.boxed hv ?_,hr,hm.belowOf hB ?_ (xN _)⟩
   ·rintro (h | h)
    ·exact h
    ·cases h.2
   ·rintro k o hk (h | h)
    ·exact h
    ·have:=h.1;omega
  case assign =>
   rintro l H4 x H0 W av K' hx hi H7 rfl hK;simp only[bv]
   gi_wp2
   exact hK _ _ Kept.refl hi rfl
  case body =>
   exact mcChaina0
  case done =>
   rintro D W hD ⟨v,hv,Hl,hB⟩ hK;have Hw:=zhd Hl;obtain ⟨va,vb,rfl,_,_⟩:=Hl;have hc:=hv.cell
   gi_wp2
   refine zbc hK _ (results_tmp rfl _ _ _) ?_
   exact ⟨_,rfl,Hw.out,zaq hB (by omega) _⟩
  case stop =>
   rintro D c H4 W _ _ h _
   exact h.elim
 ·rw[hok] at hG
  have hz:PtV (.complex .f64 a b) (ptV (.complex .f64 a b)):=zrx hok
  unfold zjW
  generalize ptV (.complex .f64 a b)=p0 at *
  have Hz:=zhd hz;clear hok hz
  refine (callsIn_wd (ro:=none) (n:=9)).1 ?_
  refine callsIn_of_wp_marks Tryz.func247 rfl trivial ?_ rfl
  simp only[Tryz.ntmps247,P4,xC,P7,Pr,Pq,Pl,Pk,P5,P2,xI,P3]
  gi_wp2_with (first
   | (refine ⟨trivial,?_⟩;gi_at_call 250;refine (callsIn_wd.2 (hG.out _)).mono ?_;rintro e w' ⟨rfl,rfl⟩)
   | (refine ⟨trivial,?_⟩;gi_at_call 251;refine (callsIn_wd.2 (zkf _ _ _ _)).mono ?_;rintro e w' ⟨rfl,rfl⟩))
  have q2:Boxed ((w.alloc (.cells #[.complex .f64 a b] 201)).alloc (.cells #[.slice A bss.length c] 180)) (w.heap.size+1) 180 (.slice A bss.length c):=by
   have:=Q1 (w.alloc (.cells #[.complex .f64 a b] 201)) 180 (.slice A bss.length c)
   rwa [xS] at this
  have Hi:Ext w ((w.alloc (.cells #[.complex .f64 a b] 201)).alloc (.cells #[.slice A bss.length c] 180)):=xA (xA (xR _) _) _
  have h0:ChI w p0 [] ((w.alloc (.cells #[.complex .f64 a b] 201)).alloc (.cells #[.slice A bss.length c] 180)):=⟨_,(Q1 w _ _).alloc _,Hz.out,Hi⟩
  have Kv:((w.alloc (.cells #[.complex .f64 a b] 201)).alloc (.cells #[.slice A bss.length c] 180)).heap.size=w.heap.size+2:=by simp
  generalize (w.alloc (.cells #[.complex .f64 a b] 201)).alloc (.cells #[.slice A bss.length c] 180)=w2 at *
  refine zbN (a:=⟨_,_⟩) rfl (enters_of Tryz.func255 (by kernel_rfl) rfl)
   (fun W1 hb _=>zj4 w W1 _ bss HP.out (fun p u hc=>Ext.cell (xT Hi hb) hc) w.heap.size (w.heap.size+1) (xN _) (q2.kept (row:=none) (Ext.grown hb none) (by simp)))
   (fun k o h=>h.elim) (fun k o h=>h.2) (fun x av W h=>by rw[h];rfl)
   (ChI w p0) (fun _ _ _=>False) ?hI (fun _ _ _ _ h _=>h) h0
   (fun x a' _=>a'=⟨#[.complex .f64 a b,.slice A bss.length c,.pointer (some ⟨w.heap.size,0,none⟩),undef,.complex .f64 0 0,.int .u8 x.toNat,.complex .f64 a b,.bool true,.bool false,.slice A bss.length c,.func (.func 255) #[] #[.pointer (some ⟨w.heap.size+1,0,none⟩)],.int .u8 x.toNat,undef,undef,undef,undef],[]⟩)
   (fun _ _ _ _ h _=>h) ?assign ?body ?done ?stop
  case hI =>
   rintro s X Y ⟨v,hv,hr,hB⟩ hm
   refine ⟨v,hm.boxed hv ?_,hr,hm.belowOf hB ?_ (xN _)⟩
   ·rintro (h | h)
    ·exact h
    ·cases h.2
   ·rintro k o hk (h | h)
    ·exact h
    ·have:=h.1;omega
  case assign =>
   rintro l H4 x H0 W av K' hx hi H7 rfl hK;simp only[bv]
   gi_wp2
   exact hK _ _ Kept.refl hi rfl
  case body =>
   exact mcChaina0
  case done =>
   rintro D W hD ⟨v,hv,Hl,hB⟩ hK;have Hw:=zhd Hl;obtain ⟨va,vb,rfl,_,_⟩:=Hl;have hc:=hv.cell
   gi_wp2
   refine zbc hK _ (results_tmp rfl _ _ _) ?_
   exact ⟨_,rfl,Hw.out,zaq hB (by omega) _⟩
  case stop =>
   rintro D c H4 W _ _ h _
   exact h.elim
theorem mcCrca0 {P:Prop} (h:P:=by
 rw[Kf]
 refine Ho.out _ _ _ _ ?_ ?_
 ·intro W' hj hh hb hs
  have Hj:=zhd hj;have Hh:=zhd hh;clear c1 Kj hj hh HD
  gi_wp2
  refine wpIn_goto ?_
  try simp only[Exit.then]
  refine zag (by simp) ⟨?_,?_⟩
  ·rw[show ((i:Int)+1)=((i+1:Nat):Int) from rfl]
   exact ⟨i+1,_,_,_,_,_,_,_,_,_,_,_,_,_,_,_,_,_,_,_,_,_,⟨by have:=K9.out;omega,Hj,Hh,hb,hs⟩,rfl⟩
  ·have:=K9.out
   simp[intOf];omega
 ·intro W' hj
  have Hj:=zhd hj;clear c1 Kj hj HD
  gi_wp2
  refine zfM ?_
  refine bodyPost_end (results_none rfl _ _ _) rfl ?_
  exact ⟨⟨_,rfl⟩,.inr ⟨_,Hq.out,Hj.out⟩⟩):P:=h
attribute [local go_sem] Pp
structure Tab where
 l:List Nat
 lt:∀ i,l.getD i 0<4294967296
variable {T:Tab}
def TabW (T:Tab) (w:World):Prop:=∀ i,i<16→w.cell? ⟨1,i,none⟩=some (.int .u32 ((T.l.getD i 0:Nat):Int))
theorem TabW.ext {w w':World} (h:TabW T w) (hE:Ext w w'):TabW T w':=fun i hi=>hE.cell (h i hi)
theorem TabW.hold {w w':World} (h:TabW T w) (hE:Hold w w'):TabW T w':=fun i hi=>hE _ _ (h i hi)
def zbZ (T:Tab) (s h:Nat):Nat:=T.l.getD ((s ^^^ h) % 16) 0 ^^^ (s / 16)
def crcTab:List Nat:=[0,274646895,549293790,820201905,1098587580,1361435347,1640403810,1905808397,2197175160,2460548119,2722870694,2987750089,3280807620,3553878443,3811616794,4084100981]
theorem zqF (i:Nat):crcTab.getD i 0<4294967296:=by
 by_cases h:i<16
 ·have:∀ j,j<16→crcTab.getD j 0<4294967296:=by decide
  exact this i h
 ·rw[List.getD_eq_getElem?_getD,List.getElem?_eq_none (by simp[crcTab];omega)];decide
def rT:Tab:=⟨crcTab,zqF⟩
theorem zrX (i:Nat):T.l.getD i 0<4294967296:=T.lt i
theorem zjQ {s:Nat} (h:Nat) (hs:s<4294967296):zbZ T s h<4294967296:=by
 have:zbZ T s h<2^32:=Ps (zrX _) (by omega)
 simpa using this
theorem zdx (a b:Nat) (ha:a<4294967296) (hb:b<4294967296):bits .xor .u32 (a:Int) (b:Int)=((a ^^^ b:Nat):Int):=by
 have hx:a ^^^ b<2^32:=Ps (by omega) (by omega)
 have h1:(Pm 32 (a:Int)).toNat=a:=by
  rw[Pn,Po];exact Pt (by omega)
 have h2:(Pm 32 (b:Int)).toNat=b:=by
  rw[Pn,Po];exact Pt (by omega)
 show Q2.wrap ((Pm 32 (a:Int) ^^^ Pm 32 (b:Int)).toNat:Int)=_
 rw[BitVec.toNat_xor,h1,h2,Q3];omega
theorem zme (a:Nat) (ha:a<4294967296):bits .and .u32 (a:Int) 15=((a % 16:Nat):Int):=by
 have h1:(Pm 32 (a:Int)).toNat=a:=by
  rw[Pn,Po];exact Pt (by omega)
 have h2:(Pm 32 (15:Int)).toNat=15:=rfl
 show Q2.wrap ((Pm 32 (a:Int) &&& Pm 32 (15:Int)).toNat:Int)=_
 rw[BitVec.toNat_and,h1,h2,Q3,show (15:Nat)=2^4-1 from rfl,Nat.and_two_pow_sub_one_eq_mod]
 omega
theorem zsl (s h:Nat) (hs:s<4294967296) (hh:h<256) (w:World) (hT:TabW T w):Calls Tryz.prog 189 #[.int .u32 s,.int .u8 h] w fun e w'=>e=.returned (.int .u32 (zbZ T s h))∧w=w':=by
 have hx:=zdx s h hs (by omega)
 have KB:s ^^^ h<2^32:=Ps (by omega) (by omega)
 have ha:=zme (s ^^^ h) KB;obtain ⟨i,hi⟩:∃ i,(s ^^^ h) % 16=i:=⟨_,rfl⟩
 have K0:i<16:=by omega
 rw[hi] at ha;have hc:=hT i K0;obtain ⟨t,ht⟩:∃ t,T.l.getD i 0=t:=⟨_,rfl⟩
 have Ky:t<4294967296:=by rw[←ht];exact zrX i
 rw[ht] at hc
 have Kx:zbZ T s h=t ^^^ (s / 16):=by unfold zbZ;rw[hi,ht]
 have JJ:bits .xor .u32 (t:Int) ((s:Int) / 16)=((t ^^^ (s / 16):Nat):Int):=by simpa using zdx t (s / 16) Ky (by omega)
 have Jc:=zhd Kx
 have i1:(i:Int)<16:=by omega
 clear Kx hi KB
 go_enter Tryz.func189,Tryz.ntmps189
 go_wp2_with fail;go_ret
 exact ⟨zgF (by rw[Jc.out]),rfl⟩
def zaP (bs:List UInt8):List UInt8:=bs.flatMap fun b=>[P0 (b.toNat % 16),P0 (b.toNat / 16)]
theorem zgj (bs:List UInt8):(zaP bs).length=2*bs.length:=by
 induction bs with
 | nil=>rfl
 | cons b bs ih=>rw[show zaP (b::bs)=P0 (b.toNat % 16)::P0 (b.toNat / 16)::zaP bs from rfl];simp[ih];omega
theorem zpq (bs:List UInt8):∀ (j:Nat) (hj:j<bs.length),(zaP bs)[2*j]?=some (P0 (bs[j].toNat % 16))∧(zaP bs)[2*j+1]?=some (P0 (bs[j].toNat / 16)):=by
 induction bs with
 | nil=>intro j hj;simp at hj
 | cons b bs ih =>
  intro j hj
  rw[show zaP (b::bs)=P0 (b.toNat % 16)::P0 (b.toNat / 16)::zaP bs from rfl]
  cases j with
  | zero=>exact ⟨rfl,rfl⟩
  | succ j =>
   obtain ⟨h0,h1⟩:=ih j (by simpa using hj)
   rw[show 2*(j+1)=2*j+1+1 from by omega]
   simp only[Pf,List.getElem_cons_succ]
   exact ⟨h0,h1⟩
theorem zmv (bs:List UInt8) (j p:Nat) (hj:j<bs.length) (hp:p=0∨p=1):∃ H0,zaP bs=(zaP bs).take (2*j+p)++P0 (bs[j].toNat / 16^p % 16)::H0:=by
 have hl:=zgj bs;obtain ⟨h0,h1⟩:=zpq bs j hj
 have H2:2*j+p<(zaP bs).length:=by omega
 have hb:=bs[j].toNat_lt
 have he:(zaP bs)[2*j+p]=P0 (bs[j].toNat / 16^p % 16):=by
  rcases hp with rfl | rfl
  ·obtain ⟨_,e⟩:=P6.1 h0
   simpa using e
  ·obtain ⟨_,e⟩:=P6.1 h1
   rw[e]
   congr 1
   omega
 refine ⟨(zaP bs).drop (2*j+p+1),?_⟩
 rw[←he]
 conv=>lhs;rw[←P9 (2*j+p) (zaP bs),Pb H2]
theorem znT (bs:List UInt8) (i:Nat) (d:UInt8) (H0:List UInt8) (hi:i≤(zaP bs).length) (h:zaP bs=(zaP bs).take i++d::H0):(zaP bs).take (i+1)=(zaP bs).take i++[d]:=by
 have hl:((zaP bs).take i).length=i:=by rw[Pd];omega
 conv=>lhs;rw[h]
 rw[List.take_append,hl,P1 (by omega),show i+1-i=1 from by omega]
 rfl
theorem zfM {L:List Nat} {J:Nat→Act→World→Prop} {Q:Exit→Act→World→Prop} {a:Act} {w:World} (h:Q .normal a w):Exit.jumps L J Q .normal a w:=h
def HvR (bs:List UInt8) (A:Option Addr) (c l B N:Nat) (wo:World) (J:List UInt8→World→Prop) (a:Act) (w:World):Prop :=
 ∃ (i:Nat) (u4 u5 u6 u7 u8 u9 KF KH KI KJ KK KL KM KN KO KP KQ KR KT KU KV:Value),(i≤2*bs.length∧Hid (J ((zaP bs).take i) w)∧Hid (Hold wo w)∧Boxed w B 38 (.slice A bs.length c)∧N≤w.heap.size) ∧
  a=⟨#[.func (.yield l) #[] #[],.pointer (some ⟨B,0,none⟩),undef,.int .i64 i,u4,u5,u6,u7,u8,u9,KF,KH,KI,KJ,KK,KL,KM,KN,KO,KP,KQ,KR,KT,KU,KV],[]⟩
theorem znS (wo W0:World) (v:Value) (bs:List UInt8) (hP:Bs wo v bs) (Ht:bs.length≤2000000) (hE:Hold wo W0) (bz B:Nat) (HF:wo.heap.size≤bz) (Ji:B≠bz) (hB:Boxed W0 B 38 v) :
  Seq Tryz.prog 231 #[.pointer (some ⟨B,0,none⟩)] (fun (d:UInt8) av _=>av = #[bv d]) (fun k o=>k≠bz∧o.isCells=true) (fun _ _=>False) (zaP bs) W0:=by
 intro l J Jx hJ Kd hY h0;obtain ⟨A,c,rfl,h1,h2⟩:=xO hP
 refine (callsIn_wd (ro:=none) (n:=9)).1 ?_
 refine callsIn_of_wp Tryz.func231 rfl trivial ?_ rfl
 simp only[Tryz.ntmps231,P4,xC,P7,Pr,Pq,Pl,Pk,P5,P2,xI,P3]
 refine zgK 0 (HvR bs A c l B W0.heap.size wo J) (fun a _=>2*bs.length-(intOf (a.tmps.getD 3 undef)).toNat) rfl (fun l' h=>by cases l' <;> first | exact absurd rfl h | rfl) ?_ ?_
 ·gi_wp2
  exact ⟨0,_,_,_,_,_,_,_,_,_,_,_,_,_,_,_,_,_,_,_,_,_,⟨by omega,h0,hE,hB,xN _⟩,rfl⟩
 ·intro a w hR
  obtain ⟨i,u4,u5,u6,u7,u8,u9,KF,KH,KI,KJ,KK,KL,KM,KN,KO,KP,KQ,KR,KT,KU,KV,⟨hi,HJ,HH,HD,H7⟩,rfl⟩:=hR;have c1:=HD.cell
  by_cases H2:i<2*bs.length
  ·obtain ⟨j,p,K1,hp⟩:∃ j p,i=2*j+p∧(p=0∨p=1):=⟨i / 2,i % 2,by omega,by omega⟩
   have hj:j<bs.length:=by omega
   obtain ⟨_,b,H3,rfl,hc⟩:=Bs.at_ hP (by omega);have Kj:=HH.out _ _ (hc j hj);obtain ⟨H0,H5⟩:=zmv bs j p hj hp;have Hc:=znT bs _ _ H0 (by rw[zgj];omega) H5;rw[←K1] at H5 Hc;have hy:=hY _ _ _ H5 _ #[bv (P0 (bs[j].toNat / 16^p % 16))] HJ.out H7 rfl
   have Hb:(zaP bs).take (i+1) <+: zaP bs:=Ph _ _
   have hq:=bs[j].toNat_lt
   generalize bs[j].toNat=q at *
   have Jt:(i:Int)<2*(bs.length:Int):=by omega
   have Ju:(j:Int)<(bs.length:Int):=by omega
   have hd:(i:Int) / 2=(j:Int):=by omega
   have HU:i / 2=j:=by omega
   have key:∀ (o:Oper) (a:Act) (next:Act→World→Prop) (Q:Exit→Act→World→Prop),
     (∀ W':World,J ((zaP bs).take (i+1)) W'→Hold wo W'→Boxed W' B 38 (.slice (some ⟨b,H3,none⟩) bs.length c)→W0.heap.size≤W'.heap.size→next (a.put o.dst (.bool true)) W') →
     (∀ W':World,Jx ((zaP bs).take (i+1)) W'→next (a.put o.dst (.bool false)) W') →
     o.uponIn (Wd none) 9 Tryz.prog a next Q ((Instr.yield l #[bv (P0 (q / 16^p % 16))]).run Tryz.prog w):=by
    intro o a next Q h1 h2
    refine zbb hy ?_
    rintro e W' ⟨H1,⟨rfl,hj⟩ | ⟨rfl,hj⟩⟩
    ·refine ⟨true,rfl,h1 W' (by rw[Hc];exact hj) (HH.out.kept HF H1) (H1.boxed HD (.inl ⟨Ji,rfl⟩)) (Pu H7 H1.size)⟩
    ·refine ⟨false,rfl,h2 W' (by rw[Hc];exact hj)⟩
   have Ho:=zhd key;have K8:=zhd K1;have Hq:=zhd Hb;have K9:=zhd H2;clear hc hY hy key H5 Hc Hb K1 hB hE h0
   rcases hp with rfl | rfl
   ·have ha:bits .and .i64 (i:Int) 1=0:=(bits_mask .i64 62 (by decide) zei 1 (by decide) _ (by omega) (by omega)).trans (by have:=K8.out;omega)
    have hv:bits .and .u8 (q:Int) 15=((q % 16:Nat):Int):=(bits_mask .u8 8 (by decide) wraps_u8 4 (by decide) _ (by omega) (by omega)).trans (by simp)
    gi_wp2
    have Kf:Value.int .u8 ((q:Int) % 16)=bv (P0 (q / 16^0 % 16)):=by rw[zgW];congr 1;omega
    exact mcCrca0
   ·have ha:bits .and .i64 (i:Int) 1=1:=(bits_mask .i64 62 (by decide) zei 1 (by decide) _ (by omega) (by omega)).trans (by have:=K8.out;omega)
    have hv:bits .and .u8 ((q:Int) / 16) 15=((q / 16:Nat):Int):=(bits_mask .u8 8 (by decide) wraps_u8 4 (by decide) _ (by omega) (by omega)).trans (by omega)
    gi_wp2
    have Kf:Value.int .u8 ((q:Int) / 16)=bv (P0 (q / 16^1 % 16)):=by rw[zgW];congr 1;omega
    exact mcCrca0
  ·obtain rfl:i=2*bs.length:=by omega
   have Hx:(zaP bs).take (2*bs.length)=zaP bs:=P1 (by rw[zgj];exact xN _)
   have K3:=HJ.out;rw[Hx] at K3;have KZ:=zhd K3;clear K3 Hx hY h0
   gi_wp2
   refine ⟨fun f h=>(by cases h),?_⟩
   gi_wp2
   refine zfM ?_
   refine bodyPost_end (results_none rfl _ _ _) rfl ?_
   exact ⟨⟨_,rfl⟩,.inl KZ.out⟩
theorem zpr (A:Option Addr) (n c:Nat) (w:World):Calls Tryz.prog 188 #[.slice A n c] w fun e w'=>e=.returned (.func (.func 231) #[] #[.pointer (some ⟨w.heap.size,0,none⟩)])∧w.alloc (.cells #[.slice A n c] 38)=w':=by
 go_enter Tryz.func188,Tryz.ntmps188
 go_wp2
 go_ret
 exact ⟨rfl,rfl⟩
def zhj (T:Tab) (s:Nat) (bs:List UInt8):Nat:=(zaP bs).foldl (fun a h=>zbZ T a h.toNat) s
def zce (T:Tab) (s:Nat) (bs:List UInt8):Nat:=4294967295 ^^^ zhj T (4294967295 ^^^ s) bs
theorem zfv (s:Nat) (h:s<4294967296):4294967295 ^^^ s<4294967296:=by
 have:4294967295 ^^^ s<2^32:=Ps (by omega) (by omega)
 simpa using this
theorem ziJ (s:Nat) (h:s<4294967296):bits .xor .u32 Q2.max (s:Int)=((4294967295 ^^^ s:Nat):Int):=zdx 4294967295 s (by decide) h
theorem zjz (hs:List UInt8) (s:Nat) (h:s<4294967296):hs.foldl (fun a h=>zbZ T a h.toNat) s<4294967296:=by
 induction hs generalizing s with
 | nil=>exact h
 | cons x hs ih=>exact ih _ (zjQ _ h)
def NxI (T:Tab) (w:World) (s0:Nat) (H4:List UInt8) (X:World):Prop:=Boxed X w.heap.size 142 (.int .u32 ((H4.foldl (fun a h=>zbZ T a h.toNat) s0:Nat):Int))∧Below w.heap.size w X
theorem znD (s:Nat) (hs:s<4294967296) (v:Value) (bs:List UInt8) (w:World) (h:Bs w v bs) (Ht:bs.length≤2000000) (hT:TabW T w) :
  Calls Tryz.prog 163 #[.int .u32 s,v] w fun e w'=>e=.returned (.int .u32 (zce T s bs))∧Ext w w':=by
 obtain ⟨A,c,rfl,h1,h2⟩:=xO h;have HP:=zhd h;have HT:=zhd hT;clear h hT;have hn:=ziJ s hs;have Kr:=zfv s hs;unfold zce zhj
 generalize 4294967295 ^^^ s=s0 at *
 refine (callsIn_wd (ro:=none) (n:=9)).1 ?_
 refine callsIn_of_wp_marks Tryz.func163 rfl trivial ?_ rfl
 simp only[Tryz.ntmps163,P4,xC,P7,Pr,Pq,Pl,Pk,P5,P2,xI,P3]
 gi_wp2_with (refine ⟨trivial,?_⟩;gi_at_call 188;refine (callsIn_wd.2 (zpr _ _ _ _)).mono ?_;rintro e w' ⟨rfl,rfl⟩)
 clear hn
 have q2:Boxed ((w.alloc (.cells #[.int .u32 s0] 142)).alloc (.cells #[.slice A bs.length c] 38)) (w.heap.size+1) 38 (.slice A bs.length c):=by
  have:=Q1 (w.alloc (.cells #[.int .u32 s0] 142)) 38 (.slice A bs.length c)
  rwa [xS] at this
 have Hi:Ext w ((w.alloc (.cells #[.int .u32 s0] 142)).alloc (.cells #[.slice A bs.length c] 38)):=xA (xA (xR _) _) _
 have h0:NxI T w s0 [] ((w.alloc (.cells #[.int .u32 s0] 142)).alloc (.cells #[.slice A bs.length c] 38)):=⟨(Q1 w _ _).alloc _,Hi⟩
 have Kv:((w.alloc (.cells #[.int .u32 s0] 142)).alloc (.cells #[.slice A bs.length c] 38)).heap.size=w.heap.size+2:=by simp
 generalize (w.alloc (.cells #[.int .u32 s0] 142)).alloc (.cells #[.slice A bs.length c] 38)=w2 at *
 refine zbN (a:=⟨_,_⟩) rfl (enters_of Tryz.func231 (by kernel_rfl) rfl)
  (fun W1 hb _=>znS w W1 _ bs HP.out Ht (fun p u hc=>Ext.cell (xT Hi hb) hc) w.heap.size (w.heap.size+1) (xN _) (by omega) (q2.kept (row:=none) (Ext.grown hb none) (by simp)))
  (fun k o h=>h.elim) (fun k o h=>h.2) (fun x av W h=>by rw[h];rfl)
  (NxI T w s0) (fun _ _ _=>False) ?hI (fun _ _ _ _ h _=>h) h0
  (fun x a' _=>a'=⟨#[.int .u32 s,.slice A bs.length c,.pointer (some ⟨w.heap.size,0,none⟩),undef,.int .u32 0,.int .u8 x.toNat,.int .u32 s,.int .u32 s0,.slice A bs.length c,.func (.func 231) #[] #[.pointer (some ⟨w.heap.size+1,0,none⟩)],.int .u8 x.toNat,undef,undef,undef,undef,undef],[]⟩)
  (fun _ _ _ _ h _=>h) ?assign ?body ?done ?stop
 case hI =>
  rintro s X Y ⟨hv,hB⟩ hm
  refine ⟨hm.boxed hv ?_,hm.belowOf hB ?_ (xN _)⟩
  ·rintro (h | h)
   ·exact h
   ·cases h.2
  ·rintro k o hk (h | h)
   ·exact h
   ·have:=h.1;omega
 case assign =>
  rintro l H4 x H0 W av K' hx hi H7 rfl hK;simp only[bv]
  gi_wp2
  exact hK _ _ Kept.refl hi rfl
 case body =>
  rintro l H4 x H0 a' W hx hl hr ⟨hv,hB⟩ H7 rfl;have hc:=hv.cell;have hf:=hv.frozen;have Hg:=zjz (T:=T) H4 s0 Kr;have Jp:=zhd hB
  have Km:(H4++[x]).foldl (fun a h=>zbZ T a h.toNat) s0=zbZ T (H4.foldl (fun a h=>zbZ T a h.toNat) s0) x.toNat:=by rw[List.foldl_append];rfl
  have J5:=zhd Km
  have Ke:TabW T W:=HT.out.ext hB
  have J1:=zhd Ke;clear Km Ke
  generalize H4.foldl (fun a h=>zbZ T a h.toNat) s0=sm at *
  gi_wp2_with (refine ⟨trivial,?_⟩;gi_at_call 189;refine (callsIn_wd.2 (zsl sm x.toNat Hg x.toNat_lt W J1.out)).mono ?_;rintro e w' ⟨rfl,rfl⟩)
  refine ⟨Kept.refl.setCell (fun o ho hc=>?_) _,by show Boxed _ _ _ _;rw[J5.out];exact hv.set _,hB.setCell (p:=⟨w.heap.size,0,none⟩) (xN _) _⟩
  rintro (h | h)
  ·exact h.1 rfl
  ·rw[hc] at h;cases h.2
 case done =>
  rintro D W hD ⟨hv,hB⟩ hK;have hc:=hv.cell;have Hg:=zjz (T:=T) (zaP bs) s0 Kr
  obtain ⟨sm,K7⟩:∃ sm,(zaP bs).foldl (fun a h=>zbZ T a h.toNat) s0=sm:=⟨_,rfl⟩
  rw[K7] at Hg hc;have Ja:=zhd K7;have JE:=ziJ sm Hg;clear K7 hv
  gi_wp2
  refine zbc hK (.int .u32 ((4294967295 ^^^ sm:Nat):Int)) (by simp[results,Tryz.results163,go_sem]) ?_
  exact ⟨by rw[Ja.out],zaq hB (by omega) _⟩
 case stop =>
  rintro D c H4 W _ _ h _
  exact h.elim
open Go.RowKit Go.Mv
set_option maxRecDepth 100000 in
theorem zog (v:Value) (l:List Int) (w:World) (h:Is w v l) (hn:zav l=true) (hl:l.length≤2000000):Calls Tryz.prog 54 #[v] w (ziA w l):=by
 obtain ⟨A,c,rfl,h1,h2⟩:=xO h;obtain ⟨i0,hi,KC,KD,KE⟩:=info_parts zb8;have Hn:=zhd hn
 go_enter Tryz.func54,Tryz.ntmps54
 go_wp2_with (go_at_call 97;refine (zih _ _ _ h).mono ?_;rintro e w' ⟨rfl,rfl⟩)
 clear hn
 go_loopw [4,5] (fun vb i wr=>∃ k:Nat,k≤l.length∧i=.int .i64 k∧wr.ownsRow w.heap.size 5 1 vb (zaj (l.take k)).length ((zaj (l.take k)).map bv)∧Ext w wr) (fun _ i _=>l.length-(intOf i).toNat)
 case atStart=>exact ⟨0,Pv _,rfl,World.ownsRow_nil _ _ _ _,xR _⟩
 case round =>
  obtain ⟨k,hk,rfl,Hf,hB⟩:=hrel
  by_cases H2:k<l.length
  ·obtain ⟨_,b,H3,rfl,hc⟩:=Is.at_ (h.ext hB) (by omega)
   have Kg:=hc k H2;clear hc;obtain ⟨HI,Kq⟩:=zhk Hn.out H2;obtain ⟨N,hN⟩:=Int.eq_ofNat_of_zero_le HI;rw[hN] at Kg Kq;have HN:=zhd hN;clear hN HI;have K6:=zcu (l.take k)
   have Ky:(l.take k).length≤k:=List.length_take_le _ _
   have Jr:b<wr.heap.size:=Q0 wr _ Kg
   have Ku:zbO N=hiB 5 (N / 128)++[P0 (N % 128)]:=zim N (by omega)
   have J9:=zhd Ku;clear Ku;go_wp2_with fail;obtain ⟨wo,rfl⟩:∃ wo:World,wo=wr:=⟨_,rfl⟩
   go_loopw [6,7] (fun ds m KW=>∃ (f mm:Nat) (H6:List UInt8),mm<128^f∧f≤5∧mm≤1073741824∧m=.int .i64 mm∧H6.length+f=6∧Hid (zbO N=hiB f mm++H6)∧KW.ownsRow wo.heap.size 5 1 ds H6.length (H6.map bv)∧Ext wo KW) (fun _ m _=>(intOf m).toNat)
   case atStart =>
    refine ⟨5,N / 128,[P0 (N % 128)],by omega,by omega,by omega,by simp,rfl,J9.out,?_,(xR _).alloc _⟩
    have h:=zaV wo [.int .u8 ((N:Int) % 128)] 5 1 rfl (by simp[maxLen]) (xN _)
    have hm:Pj bv [P0 (N % 128)]=[.int .u8 ((N:Int) % 128)]:=by simp[bv];omega
    rw[hm];exact h
   case round =>
    obtain ⟨f,mm,H6,K4,Js,JB,rfl,JG,Hd,HW,H8⟩:=hrel;obtain ⟨g,Kc,rfl,Jq,Jf,Jg⟩:=zdq HW (by omega)
    by_cases hmm:mm=0
    ·subst hmm
     rw[zeG,xI] at Hd
     go_wp2_with (at_builtin;refine wpList_append_own _ rfl (.tmp 40) (.tmp 41) 38 rfl w.heap.size 5 i0 (.int .u8 0) 1 1 Tryz.underlying38 hi KC KD KE rfl (by decide) _ _ _ rfl (zaf Hf H8) ⟨g,0,none⟩ H6.length Kc (H6.map bv) rfl (by simp) (HW.cells rfl) (zcP _) (by simp[maxLen];omega) (by omega) (by have:=hB.size;have:=H8.size;omega) ?_;intro v' w1 Ha H9 _)
     go_roundw
     case rel =>
      refine ⟨k+1,by omega,by go_num,?_,Ext.grownOwn (xT hB H8) (zaf Hf H8) H9⟩
      have hN:=HN.out;rw[zjh H2,hN,Int.toNat_natCast,Hd.out]
      simpa using Ha
     case measure=>simp[intOf];omega
    ·obtain ⟨f',rfl⟩:∃ f',f=f'+1:=⟨f-1,by cases f with | zero=>simp at K4;omega | succ f=>omega⟩
     have HU:zbO N=hiB f' (mm / 128)++(P0 (mm % 128+128)::H6):=by
      have:=Hd.out
      rw[hiB,if_neg hmm] at this
      simpa using this
     have J2:=zhd HU
     have HB:mm / 128<128^f':=by
      rw[Nat.div_lt_iff_lt_mul (by decide)]
      rw[Nat.pow_succ] at K4;exact K4
     have J8:=zhd HB;clear HU HB
     go_wp2_with (at_builtin;refine wpList_append_own _ rfl (.tmp 37) (.tmp 38) 38 rfl wo.heap.size 5 i0 (.int .u8 0) 1 1 Tryz.underlying38 hi KC KD KE rfl (by decide) (.slice (some ⟨wr.heap.size,0,none⟩) 1 1) 1 [.int .u8 ((mm:Int) % 128+128)] rfl (zaV wr [.int .u8 ((mm:Int) % 128+128)] 5 1 rfl (by simp[maxLen]) H8.size) ⟨g,0,none⟩ H6.length Kc (H6.map bv) rfl (by simp) ((HW.alloc _).cells rfl) (zcP _) (by simp[maxLen];omega) (by omega) (by have:=hB.size;have:=H8.size;simp;omega) ?_;intro v' w1 Ha H9 _)
     go_roundw
     case rel =>
      refine ⟨f',mm / 128,P0 (mm % 128+128)::H6,J8.out,by omega,by omega,by simp,by simp;omega,J2.out,?_,?_⟩
      ·have e:Pj bv (P0 (mm % 128+128)::H6)=[.int .u8 ((mm:Int) % 128+128)]++H6.map bv:=by simp[bv];omega
       rw[e]
       simpa [Px] using Ha
      ·refine (Below.grown (xA H8 _) H9 (by have:=H8.size;simp;omega) (fun k ek=>?_))
       have:wr.heap.size=k:=by simpa [Value.ownBlock] using ek
       have:=H8.size;omega
     case measure=>simp[intOf];omega
  ·have H1:l.take k=l:=P1 (by omega)
   rw[H1] at Hf;clear H1;go_wp2_with fail
   go_ret2
   exact ⟨_,rfl,Hf,hB⟩
def zcN (first:Int):Int×List UInt8:=if zaE first=true∧first≠0 then (0,2::zaj [first]) else (2,[])
theorem zq6 (first:Int):(zcN first).2.length≤6:=by
 unfold zcN
 split
 ·have:=zcu [first];simp at *;omega
 ·simp
theorem zu1 {W:World} {va vb:Value} {a b:List UInt8} (ha:Bs W va a) (hb:Bs W vb b):Parts (W.alloc (.cells #[va,vb] 38)) (.slice (some ⟨W.heap.size,0,none⟩) 2 2) [a,b]:=by
 refine ⟨[va,vb],rfl,xW (zaV W [va,vb] 38 2 rfl (by simp[maxLen]) (xN _)),fun i hi Je=>?_⟩
 match i,hi with
 | 0,_=>exact Bs.ext ha (xA (xR _) _)
 | 1,_=>exact Bs.ext hb (xA (xR _) _)
theorem zmN {W:World} {va:Value} {a:List UInt8} (ha:Bs W va a):Parts (W.alloc (.cells #[va] 38)) (.slice (some ⟨W.heap.size,0,none⟩) 1 1) [a]:=by
 refine ⟨[va],rfl,xW (zaV W [va] 38 1 rfl (by simp[maxLen]) (xN _)),fun i hi Je=>?_⟩
 match i,hi with
 | 0,_=>exact Bs.ext ha (xA (xR _) _)
def zmo (e:Ent):List UInt8:=zaj [e.t,e.k,e.v]
def ziD (es:List Ent):Bool:=decide (0<es.length∧es.length≤4)&&zc0 es
def zbx (es:List Ent):List UInt8:=P0 es.length::es.flatMap zmo
def zkL (p:Nat×Nat) (es:List Ent):List UInt8:=zbx es++zbp (zaL p (zbx es))
theorem zun {e:Ent} (h:e.ok=true):zav [e.t,e.k,e.v]=true:=by
 have:=okB_true.1 h
 unfold Ent.okP at this;simp only[zav,List.all_cons,List.all_nil,Bool.and_true,Bool.and_eq_true,numB_true];omega
def zht:Value→Nat
 | .slice _ n _=>n
 | _=>0
attribute [local go_sem] Pp zeK
theorem Hold.moves {wo W W':World} {M:Nat→Obj→Prop} (h:Hold wo W) (hm:Moves M W W') (hM:∀ k o,k<wo.heap.size→o.isCells=true→¬ M k o):Hold wo W':=by
 intro q u hq;have H2:=Q0 wo q hq
 exact hm.cell (h q u hq) (fun o _ hc=>hM _ o H2 hc)
attribute [local go_sem] Pp
theorem zpe (vp:Value) (bss:List (List UInt8)) (w:World) (h:Parts w vp bss):Calls Tryz.prog 247 #[.complex .f64 0 0,vp] w fun e w'=>∃ v',e=.returned v'∧PtV v' (zaL (0,0) bss.flatten)∧Ext w w':=by
 have hz:=PtV.zero.pt
 have:=zhL 0 0 vp bss w h
 unfold zjW at this;rw[hz] at this
 exact this
attribute [local go_sem] Pp
def zbf (n:Nat) (bs:List UInt8):List (List UInt8) :=
 if h:bs=[]∨n=0 then [] else bs.take n::zbf n (bs.drop n)
termination_by bs.length
decreasing_by
 have:0<bs.length:=List.length_pos_iff.2 (fun e=>h (.inl e))
 have:n≠0:=fun e=>h (.inr e)
 simp;omega
theorem zfn (n:Nat):zbf n []=[]:=by rw[zbf];simp
theorem zeR (n:Nat) (bs:List UInt8) (hn:0<n) (h:0<bs.length):zbf n bs=bs.take n::zbf n (bs.drop n):=by
 rw[zbf,dif_neg]
 rintro (e | e)
 ·rw[e] at h;simp at h
 ·omega
theorem zqE (n:Nat) (hn:0<n):∀ (i:Nat) (bs:List UInt8),(i*n<bs.length→(zbf n bs)[i]?=some ((bs.drop (i*n)).take n))∧(bs.length≤i*n→(zbf n bs).length≤i):=by
 intro i
 induction i with
 | zero =>
  intro bs
  refine ⟨fun h=>?_,fun h=>?_⟩
  ·rw[zeR n bs hn (by omega),Pw]
   rfl
  ·have:bs=[]:=Pe (by omega)
   rw[this,zfn]
   exact xN _
 | succ i ih =>
  intro bs
  have hm:(i+1)*n=n+i*n:=by rw[Pz,Py,Px]
  rcases Nat.eq_zero_or_pos bs.length with h0 | h0
  ·have:bs=[]:=Pe h0
   subst this
   exact ⟨fun h=>by simp at h,fun _=>by rw[zfn];simp⟩
  ·obtain ⟨h1,h2⟩:=ih (bs.drop n)
   rw[Pa] at h1 h2;rw[zeR n bs hn h0,hm]
   refine ⟨fun h=>?_,fun h=>?_⟩
   ·rw[Pf,h1 (by omega),List.drop_drop]
   ·have:=h2 (by omega)
    rw[xC];omega
theorem zem {wo:World} {b H3 m c:Nat} {bs:List UInt8} (h:Bs wo (.slice (some ⟨b,H3,none⟩) m c) bs) (k n:Nat) (hk:k+n≤bs.length):Bs wo (.slice (some ⟨b,H3+k,none⟩) n n) ((bs.drop k).take n):=by
 obtain ⟨h0,A,c',e,h1,h2,h3⟩:=h
 cases e
 unfold Bs
 have hl:((bs.drop k).take n).length=n:=by rw[Pd,Pa];omega
 rw[hl]
 refine ⟨by rw[Pi,hl];omega,_,n,rfl,xN _,by omega,fun hn=>?_⟩
 obtain ⟨b',Jm,e',hc⟩:=h3 (by omega)
 cases e'
 refine ⟨b,H3+k,rfl,fun j u hu=>?_⟩
 rw[Nat.add_assoc]
 refine hc (k+j) u ?_
 rw[←hu,Pg,Pg,List.getElem?_take,List.getElem?_drop]
 have hj:j<n:=by
  have:=(P6.1 hu).1
  rw[Pi,hl] at this
  exact this
 rw[if_pos hj]
theorem zgZ (n:Nat) (HI:0<n) (JF:n≤8) (wo W0:World) (v:Value) (bs:List UInt8) (HR:Bs wo v bs) (Ht:bs.length≤2000000) (bx bn:Nat) (Jd:Boxed W0 bx 38 v) (H8:Boxed W0 bn 3 (.int .i64 n)) :
  Seq Tryz.prog 198 #[.pointer (some ⟨bx,0,none⟩),.pointer (some ⟨bn,0,none⟩)]
   (fun (p:List UInt8) av _=>∃ b H3,av = #[.slice (some ⟨b,H3,none⟩) p.length p.length]∧Bs wo (.slice (some ⟨b,H3,none⟩) p.length p.length) p∧0<p.length∧p.length≤n) (fun k o=>(k=bx∧o.ty=some 38)∨(k=bn∧o.ty=some 3)) (fun _ _=>False) (zbf n bs) W0:=by
 intro l J Jx hJ Kd hY h0;obtain ⟨A,c,rfl,h1,h2⟩:=xO HR
 refine (callsIn_wd (ro:=none) (n:=9)).1 ?_
 refine callsIn_of_wp Tryz.func198 rfl trivial ?_ rfl
 simp only[Tryz.ntmps198,P4,xC,P7,Pr,Pq,Pl,Pk,P5,P2,xI,P3];have J3:=zhd HR;clear HR
 gi_wp2
 gi_loopw [4] (fun j W=>∃ (i k:Nat),j=.int .i64 k∧Hid (i*n=k)∧k≤bs.length+n∧Hid (J ((zbf n bs).take i) W)∧Boxed W bx 38 (.slice A bs.length c)∧Boxed W bn 3 (.int .i64 n)∧W0.heap.size≤W.heap.size) (fun j _=>bs.length+16-(intOf j).toNat)
 case atStart=>exact ⟨0,0,rfl,by show 0*n=0;rw[Pw],by omega,h0,Jd,H8,xN _⟩
 case round =>
  obtain ⟨i,k,rfl,Hk,Jw,HJ,b1,b2,H7⟩:=hrel;have c1:=b1.cell;have c2:=b2.cell;obtain ⟨HE,He⟩:=zqE n HI i bs;rw[Hk.out] at HE He
  by_cases H2:k<bs.length
  ·have Hr:=J3.out
   obtain ⟨hx,b,H3,rfl,hc⟩:=Bs.at_ Hr (by omega);clear hc hx;obtain ⟨m,hm⟩:∃ m,min n (bs.length-k)=m:=⟨_,rfl⟩
   have JD:m≤n:=by omega
   have JA:0<m:=by omega
   have Jh:k+m≤bs.length:=by omega
   obtain ⟨p,hp⟩:∃ p,(bs.drop k).take n=p:=⟨_,rfl⟩
   have Hg:p.length=m:=by rw[←hp,Pd,Pa,hm]
   have K5:=zem Hr k m Jh
   have Kt:(bs.drop k).take m=p:=by
    rw[←hp]
    rcases Nat.le_total n (bs.length-k) with h | h
    ·rw[show m=n from by omega]
    ·rw[P1 (by rw[Pa];omega),P1 (by rw[Pa];omega)]
   rw[Kt] at K5;have Hp:=zhd K5;have HZ:=HE H2;rw[hp] at HZ;obtain ⟨K2,HY⟩:=P6.1 HZ
   have Hc:(zbf n bs).take (i+1)=(zbf n bs).take i++[p]:=by rw[Pc K2,HY]
   have Hv:=zhd Hc
   have Kw:zbf n bs=(zbf n bs).take i++p::(zbf n bs).drop (i+1):=by rw[←HY,←Pb K2,P9]
   have Jb:=zhd Kw
   have Ko:(i+1)*n=k+n:=by have:=Hk.out;rw[Pz,Py,this]
   have J7:=zhd Ko;have Hm:=zhd hm;clear Hc Kw Hr HE He HZ K2 HY Kt K5 hp Ko hm
   gi_wp2
   gi_region
   have Kn:(if bs.length-k<n then ((bs.length-k:Nat):Int) else (n:Int))=(m:Int):=by have:=Hm.out;split <;> omega
   rw[Kn];clear Kn
   have hy:=hY ((zbf n bs).take i) p ((zbf n bs).drop (i+1)) Jb.out wr.drew #[.slice (some ⟨b,H3+k,none⟩) p.length p.length] (hJ _ _ _ HJ.out (Moves.refl.drew)) H7 ⟨b,H3+k,rfl,by rw[Hg];exact Hp.out,by omega,by omega⟩
   rw[Hg] at hy;have Hy:=zhd hy;have Jo:=zhd Hg
   have Ka:Boxed wr.drew bx 38 (.slice (some ⟨b,H3,none⟩) bs.length c):=b1
   have Kb:Boxed wr.drew bn 3 (.int .i64 n):=b2
   have Jy:(k:Int)+(m:Int)≤(bs.length:Int):=by omega
   have JC:(k:Int)+(m:Int)≤(c:Int):=by omega
   clear hy hY Hg c1 c2;have c1:=Ka.cell;have c2:=Kb.cell
   gi_wp2
   refine zbb Hy.out ?_
   rintro e W' ⟨H1,⟨rfl,hj⟩ | ⟨rfl,hj⟩⟩
   ·refine ⟨true,rfl,?_⟩
    have d1:Boxed W' bx 38 (.slice (some ⟨b,H3,none⟩) bs.length c):=H1.boxed Ka (.inl (.inl ⟨rfl,rfl⟩))
    have d2:Boxed W' bn 3 (.int .i64 n):=H1.boxed Kb (.inl (.inr ⟨rfl,rfl⟩))
    have e2:=d2.cell
    have Jj:W0.heap.size≤W'.heap.size:=Pu H7 H1.size
    have HL:=zhd hj
    have Jz:(k:Int)+(n:Int)≤4000000:=by omega
    clear hj H1 c1 c2
    gi_wp2
    refine ⟨⟨i+1,k+n,by go_num,J7.out,by omega,?_,d1,d2,Jj⟩,by simp[intOf];omega⟩
    show J _ _;rw[Hv.out];exact HL.out
   ·refine ⟨false,rfl,?_⟩
    have HL:=zhd hj;clear hj H1 c1 c2
    gi_wp2
    refine bodyPost_ret (results_none rfl _ _ _) rfl ?_
    refine ⟨⟨_,rfl⟩,.inr ⟨(zbf n bs).take (i+1),?_,?_⟩⟩
    ·exact Ph _ _
    ·rw[Hv.out];exact HL.out
  ·have hC:(zbf n bs).take i=zbf n bs:=P1 (He (by omega))
   have KX:=zhd hC
   have Jv:¬ ((k:Int)<(bs.length:Int)):=by omega
   clear hC HE He
   gi_wp2
   refine bodyPost_end (results_none rfl _ _ _) rfl ?_
   exact ⟨⟨_,rfl⟩,.inl (by have:=HJ.out;rw[KX.out] at this;exact this)⟩
theorem zgN (A:Option Addr) (m c n:Nat) (hn:0<n) (w:World):Calls Tryz.prog 168 #[.slice A m c,.int .i64 n] w fun e w' =>
  e=.returned (.func (.func 198) #[] #[.pointer (some ⟨w.heap.size,0,none⟩),.pointer (some ⟨w.heap.size+1,0,none⟩)]) ∧
  (w.alloc (.cells #[.slice A m c] 38)).alloc (.cells #[.int .i64 n] 3)=w':=by
 have Kq:¬ ((n:Int)<1):=by omega
 go_enter Tryz.func168,Tryz.ntmps168
 go_wp2
 go_ret
 exact ⟨rfl,rfl⟩
end Go.Proofs.YtgonhdeochgkoaaGreatDoor
