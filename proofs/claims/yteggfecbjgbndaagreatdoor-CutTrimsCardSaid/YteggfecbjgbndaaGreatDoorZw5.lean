/- Merged -/
import Derived.Test.YteggfecbjgbndaaGreatDoorZw4
import Derived.Laws.Bits64
set_option linter.all false
set_option maxHeartbeats 8000000
set_option maxRecDepth 100000
open Go.Value renaming slice→C,int→G,pointer→I,bool→O
open Go.Obj renaming cells→E
open Go.Proofs.Tryz renaming prog→F
open Go.Mv renaming zhd→H
open Option renaming some→K,none→M
open UInt8 renaming ofNat→P0
open List renaming take_of_length_le→P1,take_succ_eq_append_getElem→P2,append_assoc→P3,cons_append→P4,append_toArray→P5,size_toArray→P6,push_toArray→P7,length_nil→P8,take_append_drop→P9,foldl_append→Pa,getElem?_eq_some_iff→Pb,drop_eq_getElem_cons→Pc,getElem?_eq_getElem→Pd,flatMap_append→Pe,append_nil→Pf,take_zero→Pg,map→Ph
open Array renaming replicate_zero→Pi,replicate_succ→Pj
open BitVec renaming ofInt→Pk,ofInt_natCast→Pl,toNat_ofNat→Pm
open Nat renaming xor_lt_two_pow→Pn,reduceSub→Po,reduceAdd→Pp,zero_le→Pq,mod_eq_of_lt→Pr,le_trans→Ps
open Go.Oper renaming semAt_some→Pu
open Go.Boxed renaming new→Pv
open Go.IntKind renaming u32→Pw,wrap_u32→Px
namespace Go.Mv
open Go.RowKit
def zas (p:Nat×Nat) (bs:List UInt8):Nat×Nat:=bs.foldl zcc p
theorem zgd (p:Nat×Nat) (bs:List UInt8) (b:UInt8):zas p (bs++[b])=zcc (zas p bs) b:=by unfold zas;rw[Pa];rfl
theorem PtV.pt {v:Value} {p:Nat×Nat} (h:PtV v p):ptV v=p:=by
 obtain ⟨a,b,rfl,ha,hb⟩:=h
 unfold ptV;simp only[ha,hb]
theorem PtV.zero:PtV (.complex .f64 0 0) (0,0):=⟨0,0,rfl,zhi zdD (by decide) (fun h=>by cases h),zhi zdD (by decide) (fun h=>by cases h)⟩
theorem zkP {a b:Nat} (h:((zax a).isSome&&(zax b).isSome)=true):PtV (.complex .f64 a b) (ptV (.complex .f64 a b)):=by
 obtain ⟨x,ha⟩:∃ x,zax a=K x:=by cases h:zax a <;> simp_all
 obtain ⟨y,hb⟩:∃ y,zax b=K y:=by cases h:zax b <;> simp_all
 have e:ptV (.complex .f64 a b)=(x,y):=by unfold ptV;simp only[ha,hb]
 rw[e];exact ⟨a,b,rfl,ha,hb⟩
theorem zov {a b:Nat} (h:((zax a).isSome&&(zax b).isSome)=false):ptV (.complex .f64 a b)=(0,0):=by
 unfold ptV
 cases ha:zax a <;> cases hb:zax b <;> simp_all
end Go.Mv
namespace Go.Proofs.YteggfecbjgbndaaGreatDoor
open Go.RowKit Go.Mv
def zlI (v:Value) (bs:List UInt8) (w:World) (e:Ending) (w':World):Prop:=∃ v',e=.returned v'∧PtV v' (zas (ptV v) bs)∧w=w'
theorem zfE (a b:Nat) (vp:Value) (bss:List (List UInt8)) (w:World) (h:Parts w vp bss) :
  Calls F 218 #[.complex .f64 a b,vp] w (zlI (.complex .f64 a b) bss.flatten w):=by
 obtain ⟨vs,K5,Hq,K6⟩:=h;obtain ⟨A,c,rfl,h1,h2⟩:=xO Hq
 have J1:vs.length≤bss.length:=by omega
 have J2:bss.length≤vs.length:=by omega
 clear K5
 have hG:=H (fun w=>zll a b w)
 have hz:=H PtV.zero
 have Hm:∃ z0:Value,PtV z0 (ptV (.complex .f64 a b))∧z0=if ((zax a).isSome&&(zax b).isSome)=true then .complex .f64 a b else .complex .f64 0 0:=by
  split
  ·rename_i h;exact ⟨_,zkP h,rfl⟩
  ·rename_i h
   refine ⟨_,?_,rfl⟩
   rw[zov (by simpa using h)];exact PtV.zero
 obtain ⟨z0,HM,Hr⟩:=Hm;unfold zlI
 generalize ptV (.complex .f64 a b)=p0 at *
 cases hok:((zax a).isSome&&(zax b).isSome)
 all_goals
  rw[hok] at Hr;simp only[if_true,if_false,Bool.false_eq_true] at Hr;subst Hr;rw[hok] at hG;clear hok
  go_enter Tryz.func218,Tryz.ntmps218
  go_wp2_with (go_at_call 266;refine (hG.out _).mono ?_;rintro e w' ⟨rfl,rfl⟩)
  clear hG
  go_loop [0,5] (fun z i=>∃ k:Nat,k≤bss.length∧i=.int .i64 k∧Hid (PtV z (zas p0 (bss.take k).flatten))) (fun _ i=>bss.length-(intOf i).toNat)
  case atStart=>exact ⟨0,Pq _,rfl,HM⟩
  case round =>
   obtain ⟨k,hk,rfl,HP⟩:=hrel
   by_cases H2:k<bss.length
   ·obtain ⟨_,ba,HO,rfl,hc⟩:=SlR.at_ Hq (by omega)
    have HA:k<vs.length:=by omega
    have Hw:=hc k vs[k] (Pd HA);have Hk:=K6 k HA H2;obtain ⟨A',c',HE,h3,h4⟩:=xO Hk;rw[HE] at Hw Hk;have Hp:=zfW bss k H2;have HW:=H Hp
    generalize bss[k]=bk at *
    clear hc HE Hp;go_wp2_with fail
    go_loop [0,6] (fun z j=>∃ m:Nat,m≤bk.length∧j=.int .i64 m∧Hid (PtV z (zas p0 ((bss.take k).flatten++bk.take m)))) (fun _ j=>bk.length-(intOf j).toNat)
    case atStart=>exact ⟨0,Pq _,rfl,by show PtV _ _;rw[Pg,Pf];exact HP.out⟩
    case round =>
     obtain ⟨m,hm,rfl,HQ⟩:=hrel
     by_cases hlt2:m<bk.length
     ·obtain ⟨_,b2,K7,e2,Hv⟩:=Bs.at_ Hk (by omega)
      cases e2
      have HX:=Hv m hlt2
      have H9:bk.take (m+1)=bk.take m++[bk[m]]:=P2 hlt2
      have Ht:=H H9
      generalize KV:bk[m]=bm at *
      clear Hv H9 KV
      go_wp2_with (go_at_call 267;refine (znW _ _ HQ.out _ _).mono ?_;rintro e w' ⟨v',rfl,HL,rfl⟩)
      have HV:=H HL
      go_round
      case rel=>exact ⟨m+1,by omega,by go_num,by show PtV _ _;rw[Ht.out,←P3,zgd];exact HV.out⟩
      case measure=>simp[intOf];omega
     ·have hq:=HQ.out
      rw[P1 (show bk.length≤m from by omega),←HW.out] at hq
      have HS:=H hq;clear hq;go_wp2_with fail
      go_round
      case rel=>exact ⟨k+1,by omega,by go_num,HS⟩
      case measure=>simp[intOf];omega
   ·have H5:bss.take k=bss:=P1 (by omega)
    rw[H5] at HP;clear H5;go_wp2_with fail;go_ret
    exact ⟨_,rfl,HP.out,rfl⟩
open Go.RowKit Go.Mv Go.Shelf
theorem mcChaina0 {P:Prop} (h:P:=by
 rintro l H1 x H0 a' W hx hl hr ⟨v,hv,Hf,hB⟩ Hc rfl;have Hs:=H Hf;obtain ⟨va,vb,rfl,_,_⟩:=Hf;have hc:=hv.cell;have hf:=hv.frozen
 gi_wp2_with (refine ⟨trivial,?_⟩;gi_at_call 304;refine (callsIn_wd.2 (zlL _ _ Hs.out _ _)).mono ?_;rintro e w' ⟨v',rfl,HL,rfl⟩;have HV:=H HL;obtain ⟨c1,c2,rfl,_,_⟩:=HL)
 refine ⟨Kept.refl.setCell (fun o ho hc=>?_) _,_,hv.set _,by rw[zgd];exact HV.out,hB.setCell (p:=⟨w.heap.size,0,M⟩) (xN _) _⟩
 rintro (h | h)
 ·exact h.1 rfl
 ·rw[hc] at h;cases h.2):P:=h
attribute [local go_sem] Pu
theorem zrI {α:Type} (l:List α) (m:Nat) (h:m<l.length) (R:List α):l++R=l.take m++l[m]::(l.drop (m+1)++R):=by
 have e:=P9 m l;rw[Pc h] at e
 calc l++R=(l.take m++l[m]::l.drop (m+1))++R:=by rw[e]
  _=_:=by rw[P3,P4]
def Hold (wo W:World):Prop:=∀ p u,wo.cell? p=K u→W.cell? p=K u
theorem Hold.kept {wo W W':World} {bz n:Nat} (h:Hold wo W) (HG:wo.heap.size≤bz) (hk:Kept (zac (fun k o=>k≠bz∧o.isCells=true) n) W W'):Hold wo W':=by
 intro p u hp;have H2:=World.block_lt_of_cell? wo p hp;obtain ⟨o,ho,hc⟩:=cells_of_cell (h p u hp)
 exact hk.cell (h p u hp) (fun o' Kk=>by rw[ho] at Kk;cases Kk;exact .inl ⟨by omega,hc⟩)
theorem zjx (wo W0:World) (vp:Value) (bss:List (List UInt8)) (hP:Parts wo vp bss) (hE:Hold wo W0) (bz B:Nat) (HG:wo.heap.size≤bz) (hB:Boxed W0 B 243 vp) :
  Seq F 307 #[I (K ⟨B,0,M⟩)]
   (fun (d:UInt8) av _=>av = #[bv d]) (fun k o=>k≠bz∧o.isCells=true) (fun _ _=>False) bss.flatten W0:=by
 intro l J Jx hJ KU hY h0;obtain ⟨vs,K5,Hq,K6⟩:=hP;obtain ⟨A,c,rfl,h1,h2⟩:=xO Hq
 have J1:vs.length≤bss.length:=by omega
 have J2:bss.length≤vs.length:=by omega
 have Ke:=hB.cell;clear K5 hB
 refine (callsIn_wd (ro:=none) (n:=9)).1 ?_
 refine callsIn_of_wp Tryz.func307 rfl trivial ?_ rfl
 simp only[Tryz.ntmps307,P6,xC,P8,Pp,Po,Pj,Pi,P7,P5,xI,P4]
 gi_wp2
 gi_loopw [9] (fun j W=>∃ k:Nat,k≤bss.length∧j=.int .i64 k∧Hid (J (bss.take k).flatten W)∧Hid (Hold wo W)∧W0.heap.size≤W.heap.size) (fun j _=>bss.length-(intOf j).toNat)
 case atStart=>exact ⟨0,Pq _,rfl,h0,hE,xN _⟩
 case round =>
  obtain ⟨k,hk,rfl,HJ,HH,Hc⟩:=hrel
  by_cases H2:k<bss.length
  ·obtain ⟨_,ba,HO,rfl,hc⟩:=SlR.at_ Hq (by omega)
   have HA:k<vs.length:=by omega
   have Hw:=hc k vs[k] (Pd HA);have Hk:=K6 k HA H2;obtain ⟨A',c',HE,h3,h4⟩:=xO Hk;rw[HE] at Hw Hk;have Hx:=HH.out _ _ Hw;have Hp:=zfW bss k H2
   have Kg:bss.flatten=(bss.take k).flatten++(bss[k]++(bss.drop (k+1)).flatten):=by
    conv=>lhs;rw[←P9 (k+1) bss,List.flatten_append,Hp,P3]
   have HW:=H Hp;have KN:=H Kg
   generalize bss[k]=bk at *
   clear hc HE Hp Kg Hw
   gi_wp2
   gi_loopw [15] (fun j W=>∃ m:Nat,m≤bk.length∧j=.int .i64 m∧Hid (J ((bss.take k).flatten++bk.take m) W)∧Hid (Hold wo W)∧W0.heap.size≤W.heap.size) (fun j _=>bk.length-(intOf j).toNat)
   case atStart=>exact ⟨0,Pq _,rfl,by show J _ _;rw[Pg,Pf];exact HJ.out,HH,Hc⟩
   case round =>
    obtain ⟨m,hm,rfl,HQ,HR,Ho⟩:=hrel
    by_cases hlt2:m<bk.length
    ·obtain ⟨_,b2,K7,e2,Hv⟩:=Bs.at_ Hk (by omega)
     cases e2
     have HX:=HR.out _ _ (Hv m hlt2)
     have H9:bk.take (m+1)=bk.take m++[bk[m]]:=P2 hlt2
     have Hl:bss.flatten=((bss.take k).flatten++bk.take m)++bk[m]::(bk.drop (m+1)++(bss.drop (k+1)).flatten):=by
      rw[KN.out,zrI bk m hlt2,P3]
     have hy:=hY _ _ _ Hl _ #[bv bk[m]] HQ.out Ho rfl;have Ht:=H H9;have HU:=H Hl
     generalize bk[m]=bm at *
     have key:∀ (o:Oper) (a:Act) (next:Act→World→Prop) (Q:Exit→Act→World→Prop) (W:World),
       Mv.YieldsAt F l #[bv bm] W (fun e W'=>Kept (zac (fun k o=>k≠bz∧o.isCells=true) W0.heap.size) W W'∧((e=.returned (O true)∧J ((bss.take k).flatten++bk.take m++[bm]) W')∨(e=.returned (O false)∧Jx ((bss.take k).flatten++bk.take m++[bm]) W')))→Hold wo W→W0.heap.size≤W.heap.size →
       (∀ W':World,J ((bss.take k).flatten++bk.take (m+1)) W'→Hold wo W'→W0.heap.size≤W'.heap.size→next (a.put o.dst (O true)) W') →
       (∀ W':World,Jx ((bss.take k).flatten++bk.take (m+1)) W'→next (a.put o.dst (O false)) W') →
       o.uponIn (Wd none) 9 F a next Q ((Instr.yield l #[bv bm]).run F W):=by
      intro o a next Q W hy HI hs h1 h2
      refine zbh hy ?_
      rintro e W' ⟨H5,⟨rfl,hj⟩ | ⟨rfl,hj⟩⟩
      ·refine ⟨true,rfl,h1 W' ?_ (HI.kept HG H5) (Ps hs H5.size)⟩
       rw[Ht.out,←P3];exact hj
      ·refine ⟨false,rfl,h2 W' ?_⟩
       rw[Ht.out,←P3];exact hj
     have Hg:=H key;have Hy:=H hy
     have H8:(bss.take k).flatten++bk.take (m+1) <+: bss.flatten:=by
      rw[HU.out,Ht.out];exact ⟨bk.drop (m+1)++(bss.drop (k+1)).flatten,by simp⟩
     have Hi:=H H8;clear Hv H9 Hl key hy hY H8
     gi_wp2
     refine Hg.out _ _ _ _ _ Hy.out HR.out Ho ?_ ?_
     ·intro W' hj HI hs
      have Hj:=H hj;have Hh:=H HI;clear hj HI HX Hx Ke
      gi_wp2
      exact ⟨⟨m+1,by omega,by go_num,Hj,Hh,hs⟩,by simp[intOf];omega⟩
     ·intro W' hj
      have Hj:=H hj;clear hj HX Hx Ke
      gi_wp2
      refine bodyPost_ret (results_none rfl _ _ _) rfl ?_
      exact ⟨⟨_,rfl⟩,.inr ⟨_,Hi.out,Hj.out⟩⟩
    ·have hq:=HQ.out
     rw[P1 (show bk.length≤m from by omega),←HW.out] at hq
     have HS:=H hq;clear hq
     gi_wp2
     exact ⟨⟨k+1,by omega,by go_num,HS,HR,Ho⟩,by simp[intOf];omega⟩
  ·have hj:=HJ.out
   rw[P1 (show bss.length≤k from by omega)] at hj
   have KJ:=H hj;clear hj
   gi_wp2
   refine bodyPost_end (results_none rfl _ _ _) rfl ?_
   exact ⟨⟨_,rfl⟩,.inl KJ.out⟩
attribute [local go_sem] Pu
theorem zew (P:Program) (w:World) (a:Addr) (m:Mode) (x y:Nat):(store a (.complex .f64 x y) m).run P w=stored P w a (.complex .f64 x y) m:=run_store P w a _ m rfl
attribute [local go_sem] zew
theorem zjI (A:Option Addr) (n c:Nat) (w:World):Calls F 303 #[C A n c] w fun e w'=>e=.returned (.func (.func 307) #[] #[I (K ⟨w.heap.size,0,M⟩)])∧w.alloc (E #[C A n c] 243)=w':=by
 go_enter Tryz.func303,Tryz.ntmps303
 go_wp2
 go_ret
 exact ⟨rfl,rfl⟩
def zlH (v:Value) (bs:List UInt8) (w:World) (e:Ending) (w':World):Prop:=∃ v',e=.returned v'∧PtV v' (zas (ptV v) bs)∧Ext w w'
def ChI (w:World) (p0:Nat×Nat) (H1:List UInt8) (X:World):Prop:=∃ v,Boxed X w.heap.size 212 v∧PtV v (zas p0 H1)∧Below w.heap.size w X
theorem zqn (a b:Nat) (vp:Value) (bss:List (List UInt8)) (w:World) (h:Parts w vp bss) :
  Calls F 297 #[.complex .f64 a b,vp] w (zlH (.complex .f64 a b) bss.flatten w):=by
 obtain ⟨A,c,rfl,h1,h2⟩:∃ A c,vp=C A bss.length c∧bss.length≤c∧c≤9223372036854775807:=by obtain ⟨vs,_,hs,_⟩:=h;exact xO hs
 have hG:=H (fun w=>zka a b w)
 have HP:=H h;clear h
 cases hok:((zax a).isSome&&(zax b).isSome)
 ·rw[hok] at hG
  have hz:PtV (.complex .f64 0 0) (ptV (.complex .f64 a b)):=by rw[zov hok];exact PtV.zero
  unfold zlH
  generalize ptV (.complex .f64 a b)=p0 at *
  have Hz:=H hz;clear hok hz
  refine (callsIn_wd (ro:=none) (n:=9)).1 ?_
  refine callsIn_of_wp_marks Tryz.func297 rfl trivial ?_ rfl
  simp only[Tryz.ntmps297,P6,xC,P8,Pp,Po,Pj,Pi,P7,P5,xI,P4]
  gi_wp2_with (first
   | (refine ⟨trivial,?_⟩;gi_at_call 302;refine (callsIn_wd.2 (hG.out _)).mono ?_;rintro e w' ⟨rfl,rfl⟩)
   | (refine ⟨trivial,?_⟩;gi_at_call 303;refine (callsIn_wd.2 (zjI _ _ _ _)).mono ?_;rintro e w' ⟨rfl,rfl⟩))
  have q2:Boxed ((w.alloc (E #[.complex .f64 0 0] 212)).alloc (E #[C A bss.length c] 243)) (w.heap.size+1) 243 (C A bss.length c):=by
   have:=Pv (w.alloc (E #[.complex .f64 0 0] 212)) 243 (C A bss.length c)
   rwa [xS] at this
  have He:Ext w ((w.alloc (E #[.complex .f64 0 0] 212)).alloc (E #[C A bss.length c] 243)):=xA (xA (xR _) _) _
  have h0:ChI w p0 [] ((w.alloc (E #[.complex .f64 0 0] 212)).alloc (E #[C A bss.length c] 243)):=⟨_,(Pv w _ _).alloc _,Hz.out,He⟩
  have Km:((w.alloc (E #[.complex .f64 0 0] 212)).alloc (E #[C A bss.length c] 243)).heap.size=w.heap.size+2:=by simp
  generalize (w.alloc (E #[.complex .f64 0 0] 212)).alloc (E #[C A bss.length c] 243)=w2 at *
  refine zcy (a:=⟨_,_⟩) rfl (enters_of Tryz.func307 (by kernel_rfl) rfl)
   (fun W1 hb _=>zjx w W1 _ bss HP.out (fun p u hc=>Ext.cell (xT He hb) hc) w.heap.size (w.heap.size+1) (xN _) (q2.kept (row:=none) (Ext.grown hb none) (by simp)))
   (fun k o h=>h.elim) (fun k o h=>h.2) (fun x av W h=>by rw[h];rfl)
   (ChI w p0) (fun _ _ _=>False) ?hI (fun _ _ _ _ h _=>h) h0
   (fun x a' _=>a'=⟨#[.complex .f64 a b,C A bss.length c,I (K ⟨w.heap.size,0,M⟩),undef,.complex .f64 0 0,G .u8 x.toNat,.complex .f64 a b,O false,O true,C A bss.length c,.func (.func 307) #[] #[I (K ⟨w.heap.size+1,0,M⟩)],G .u8 x.toNat,undef,undef,undef,undef],[]⟩)
   (fun _ _ _ _ h _=>h) ?assign ?body ?done ?stop
  case hI =>
   rintro s X Y ⟨v,hv,hr,hB⟩ hm
   refine ⟨v,hm.boxed hv ?_,hr,hm.belowOf hB ?_ (xN _)⟩
   ·rintro (h | h)
    ·exact h
    ·cases h.2
   ·rintro k o hk (h | h)
    ·exact h
    ·have:=h.1;omega
  case assign =>
   rintro l H1 x H0 W av K' hx hi Hc rfl hK;simp only[bv]
   gi_wp2
   exact hK _ _ Kept.refl hi rfl
  case body =>
   exact mcChaina0
  case done =>
   rintro D W hD ⟨v,hv,Hf,hB⟩ hK;have Hs:=H Hf;obtain ⟨va,vb,rfl,_,_⟩:=Hf;have hc:=hv.cell
   gi_wp2
   refine zbO hK _ (results_tmp rfl _ _ _) ?_
   exact ⟨_,rfl,Hs.out,zaN hB (by omega) _⟩
  case stop =>
   rintro D c H1 W _ _ h _
   exact h.elim
 ·rw[hok] at hG
  have hz:PtV (.complex .f64 a b) (ptV (.complex .f64 a b)):=zkP hok
  unfold zlH
  generalize ptV (.complex .f64 a b)=p0 at *
  have Hz:=H hz;clear hok hz
  refine (callsIn_wd (ro:=none) (n:=9)).1 ?_
  refine callsIn_of_wp_marks Tryz.func297 rfl trivial ?_ rfl
  simp only[Tryz.ntmps297,P6,xC,P8,Pp,Po,Pj,Pi,P7,P5,xI,P4]
  gi_wp2_with (first
   | (refine ⟨trivial,?_⟩;gi_at_call 302;refine (callsIn_wd.2 (hG.out _)).mono ?_;rintro e w' ⟨rfl,rfl⟩)
   | (refine ⟨trivial,?_⟩;gi_at_call 303;refine (callsIn_wd.2 (zjI _ _ _ _)).mono ?_;rintro e w' ⟨rfl,rfl⟩))
  have q2:Boxed ((w.alloc (E #[.complex .f64 a b] 212)).alloc (E #[C A bss.length c] 243)) (w.heap.size+1) 243 (C A bss.length c):=by
   have:=Pv (w.alloc (E #[.complex .f64 a b] 212)) 243 (C A bss.length c)
   rwa [xS] at this
  have He:Ext w ((w.alloc (E #[.complex .f64 a b] 212)).alloc (E #[C A bss.length c] 243)):=xA (xA (xR _) _) _
  have h0:ChI w p0 [] ((w.alloc (E #[.complex .f64 a b] 212)).alloc (E #[C A bss.length c] 243)):=⟨_,(Pv w _ _).alloc _,Hz.out,He⟩
  have Km:((w.alloc (E #[.complex .f64 a b] 212)).alloc (E #[C A bss.length c] 243)).heap.size=w.heap.size+2:=by simp
  generalize (w.alloc (E #[.complex .f64 a b] 212)).alloc (E #[C A bss.length c] 243)=w2 at *
  refine zcy (a:=⟨_,_⟩) rfl (enters_of Tryz.func307 (by kernel_rfl) rfl)
   (fun W1 hb _=>zjx w W1 _ bss HP.out (fun p u hc=>Ext.cell (xT He hb) hc) w.heap.size (w.heap.size+1) (xN _) (q2.kept (row:=none) (Ext.grown hb none) (by simp)))
   (fun k o h=>h.elim) (fun k o h=>h.2) (fun x av W h=>by rw[h];rfl)
   (ChI w p0) (fun _ _ _=>False) ?hI (fun _ _ _ _ h _=>h) h0
   (fun x a' _=>a'=⟨#[.complex .f64 a b,C A bss.length c,I (K ⟨w.heap.size,0,M⟩),undef,.complex .f64 0 0,G .u8 x.toNat,.complex .f64 a b,O true,O false,C A bss.length c,.func (.func 307) #[] #[I (K ⟨w.heap.size+1,0,M⟩)],G .u8 x.toNat,undef,undef,undef,undef],[]⟩)
   (fun _ _ _ _ h _=>h) ?assign ?body ?done ?stop
  case hI =>
   rintro s X Y ⟨v,hv,hr,hB⟩ hm
   refine ⟨v,hm.boxed hv ?_,hr,hm.belowOf hB ?_ (xN _)⟩
   ·rintro (h | h)
    ·exact h
    ·cases h.2
   ·rintro k o hk (h | h)
    ·exact h
    ·have:=h.1;omega
  case assign =>
   rintro l H1 x H0 W av K' hx hi Hc rfl hK;simp only[bv]
   gi_wp2
   exact hK _ _ Kept.refl hi rfl
  case body =>
   exact mcChaina0
  case done =>
   rintro D W hD ⟨v,hv,Hf,hB⟩ hK;have Hs:=H Hf;obtain ⟨va,vb,rfl,_,_⟩:=Hf;have hc:=hv.cell
   gi_wp2
   refine zbO hK _ (results_tmp rfl _ _ _) ?_
   exact ⟨_,rfl,Hs.out,zaN hB (by omega) _⟩
  case stop =>
   rintro D c H1 W _ _ h _
   exact h.elim
theorem mcCrca0 {P:Prop} (h:P:=by
 rw[Kc]
 refine Hg.out _ _ _ _ ?_ ?_
 ·intro W' hj hh hb hs
  have Hj:=H hj;have Hh:=H hh;clear c1 Kf hj hh HF
  gi_wp2
  refine wpIn_goto ?_
  try simp only[Exit.then]
  refine zar (by simp) ⟨?_,?_⟩
  ·rw[show ((i:Int)+1)=((i+1:Nat):Int) from rfl]
   exact ⟨i+1,_,_,_,_,_,_,_,_,_,_,_,_,_,_,_,_,_,_,_,_,_,⟨by have:=K9.out;omega,Hj,Hh,hb,hs⟩,rfl⟩
  ·have:=K9.out
   simp[intOf];omega
 ·intro W' hj
  have Hj:=H hj;clear c1 Kf hj HF
  gi_wp2
  refine zfx ?_
  refine bodyPost_end (results_none rfl _ _ _) rfl ?_
  exact ⟨⟨_,rfl⟩,.inr ⟨_,Hi.out,Hj.out⟩⟩):P:=h
attribute [local go_sem] Pu
structure Tab where
 l:List Nat
 lt:∀ i,l.getD i 0<4294967296
variable {T:Tab}
def TabW (T:Tab) (w:World):Prop:=∀ i,i<16→w.cell? ⟨1,i,M⟩=K (.int .u32 ((T.l.getD i 0:Nat):Int))
theorem TabW.ext {w w':World} (h:TabW T w) (hE:Ext w w'):TabW T w':=fun i hi=>hE.cell (h i hi)
def zbQ (T:Tab) (s h:Nat):Nat:=T.l.getD ((s ^^^ h) % 16) 0 ^^^ (s / 16)
def crcTab:List Nat:=[0,274646895,549293790,820201905,1098587580,1361435347,1640403810,1905808397,2197175160,2460548119,2722870694,2987750089,3280807620,3553878443,3811616794,4084100981]
theorem zqL (i:Nat):crcTab.getD i 0<4294967296:=by
 by_cases h:i<16
 ·have:∀ j,j<16→crcTab.getD j 0<4294967296:=by decide
  exact this i h
 ·rw[List.getD_eq_getElem?_getD,List.getElem?_eq_none (by simp[crcTab];omega)];decide
def rT:Tab:=⟨crcTab,zqL⟩
theorem zrN (i:Nat):T.l.getD i 0<4294967296:=T.lt i
theorem zji {s:Nat} (h:Nat) (hs:s<4294967296):zbQ T s h<4294967296:=by
 have:zbQ T s h<2^32:=Pn (zrN _) (by omega)
 simpa using this
theorem zdl (a b:Nat) (ha:a<4294967296) (hb:b<4294967296):bits .xor .u32 (a:Int) (b:Int)=((a ^^^ b:Nat):Int):=by
 have hx:a ^^^ b<2^32:=Pn (by omega) (by omega)
 have h1:(Pk 32 (a:Int)).toNat=a:=by
  rw[Pl,Pm];exact Pr (by omega)
 have h2:(Pk 32 (b:Int)).toNat=b:=by
  rw[Pl,Pm];exact Pr (by omega)
 show Pw.wrap ((Pk 32 (a:Int) ^^^ Pk 32 (b:Int)).toNat:Int)=_
 rw[BitVec.toNat_xor,h1,h2,Px];omega
theorem zlU (a:Nat) (ha:a<4294967296):bits .and .u32 (a:Int) 15=((a % 16:Nat):Int):=by
 have h1:(Pk 32 (a:Int)).toNat=a:=by
  rw[Pl,Pm];exact Pr (by omega)
 have h2:(Pk 32 (15:Int)).toNat=15:=rfl
 show Pw.wrap ((Pk 32 (a:Int) &&& Pk 32 (15:Int)).toNat:Int)=_
 rw[BitVec.toNat_and,h1,h2,Px,show (15:Nat)=2^4-1 from rfl,Nat.and_two_pow_sub_one_eq_mod]
 omega
theorem zsd (s h:Nat) (hs:s<4294967296) (hh:h<256) (w:World) (hT:TabW T w):Calls F 233 #[.int .u32 s,G .u8 h] w fun e w'=>e=.returned (.int .u32 (zbQ T s h))∧w=w':=by
 have hx:=zdl s h hs (by omega)
 have Kp:s ^^^ h<2^32:=Pn (by omega) (by omega)
 have ha:=zlU (s ^^^ h) Kp;obtain ⟨i,hi⟩:∃ i,(s ^^^ h) % 16=i:=⟨_,rfl⟩
 have K0:i<16:=by omega
 rw[hi] at ha;have hc:=hT i K0;obtain ⟨t,ht⟩:∃ t,T.l.getD i 0=t:=⟨_,rfl⟩
 have Ko:t<4294967296:=by rw[←ht];exact zrN i
 rw[ht] at hc
 have Kn:zbQ T s h=t ^^^ (s / 16):=by unfold zbQ;rw[hi,ht]
 have Jc:bits .xor .u32 (t:Int) ((s:Int) / 16)=((t ^^^ (s / 16):Nat):Int):=by simpa using zdl t (s / 16) Ko (by omega)
 have KT:=H Kn
 have i1:(i:Int)<16:=by omega
 clear Kn hi Kp
 go_enter Tryz.func233,Tryz.ntmps233
 go_wp2_with fail;go_ret
 exact ⟨zgG (by rw[KT.out]),rfl⟩
def zaJ (bs:List UInt8):List UInt8:=bs.flatMap fun b=>[P0 (b.toNat % 16),P0 (b.toNat / 16)]
theorem zgj (bs:List UInt8):(zaJ bs).length=2*bs.length:=by
 induction bs with
 | nil=>rfl
 | cons b bs ih=>rw[show zaJ (b::bs)=P0 (b.toNat % 16)::P0 (b.toNat / 16)::zaJ bs from rfl];simp[ih];omega
theorem zpq (bs:List UInt8):∀ (j:Nat) (hj:j<bs.length),(zaJ bs)[2*j]?=K (P0 (bs[j].toNat % 16))∧(zaJ bs)[2*j+1]?=K (P0 (bs[j].toNat / 16)):=by
 induction bs with
 | nil=>intro j hj;simp at hj
 | cons b bs ih =>
  intro j hj
  rw[show zaJ (b::bs)=P0 (b.toNat % 16)::P0 (b.toNat / 16)::zaJ bs from rfl]
  cases j with
  | zero=>exact ⟨rfl,rfl⟩
  | succ j =>
   obtain ⟨h0,h1⟩:=ih j (by simpa using hj)
   rw[show 2*(j+1)=2*j+1+1 from by omega]
   simp only[List.getElem?_cons_succ,List.getElem_cons_succ]
   exact ⟨h0,h1⟩
theorem zma (bs:List UInt8) (j p:Nat) (hj:j<bs.length) (hp:p=0∨p=1):∃ H0,zaJ bs=(zaJ bs).take (2*j+p)++P0 (bs[j].toNat / 16^p % 16)::H0:=by
 have hl:=zgj bs;obtain ⟨h0,h1⟩:=zpq bs j hj
 have H2:2*j+p<(zaJ bs).length:=by omega
 have hb:=bs[j].toNat_lt
 have he:(zaJ bs)[2*j+p]=P0 (bs[j].toNat / 16^p % 16):=by
  rcases hp with rfl | rfl
  ·obtain ⟨_,e⟩:=Pb.1 h0
   simpa using e
  ·obtain ⟨_,e⟩:=Pb.1 h1
   rw[e]
   congr 1
   omega
 refine ⟨(zaJ bs).drop (2*j+p+1),?_⟩
 rw[←he]
 conv=>lhs;rw[←P9 (2*j+p) (zaJ bs),Pc H2]
theorem znC (bs:List UInt8) (i:Nat) (d:UInt8) (H0:List UInt8) (hi:i≤(zaJ bs).length) (h:zaJ bs=(zaJ bs).take i++d::H0):(zaJ bs).take (i+1)=(zaJ bs).take i++[d]:=by
 have hl:((zaJ bs).take i).length=i:=by rw[List.length_take];omega
 conv=>lhs;rw[h]
 rw[List.take_append,hl,P1 (by omega),show i+1-i=1 from by omega]
 rfl
theorem zfx {L:List Nat} {J:Nat→Act→World→Prop} {Q:Exit→Act→World→Prop} {a:Act} {w:World} (h:Q .normal a w):Exit.jumps L J Q .normal a w:=h
def HvR (bs:List UInt8) (A:Option Addr) (c l B N:Nat) (wo:World) (J:List UInt8→World→Prop) (a:Act) (w:World):Prop :=
 ∃ (i:Nat) (u4 u5 u6 u7 u8 u9 Kr Ks Kt Ku Kv Kw Kx Ky Kz KA KC KD KE KF KH:Value),(i≤2*bs.length∧Hid (J ((zaJ bs).take i) w)∧Hid (Hold wo w)∧Boxed w B 33 (C A bs.length c)∧N≤w.heap.size) ∧
  a=⟨#[.func (.yield l) #[] #[],I (K ⟨B,0,M⟩),undef,.int .i64 i,u4,u5,u6,u7,u8,u9,Kr,Ks,Kt,Ku,Kv,Kw,Kx,Ky,Kz,KA,KC,KD,KE,KF,KH],[]⟩
theorem znB (wo W0:World) (v:Value) (bs:List UInt8) (hP:Bs wo v bs) (HB:bs.length≤2000000) (hE:Hold wo W0) (bz B:Nat) (HG:wo.heap.size≤bz) (J0:B≠bz) (hB:Boxed W0 B 33 v) :
  Seq F 278 #[I (K ⟨B,0,M⟩)] (fun (d:UInt8) av _=>av = #[bv d]) (fun k o=>k≠bz∧o.isCells=true) (fun _ _=>False) (zaJ bs) W0:=by
 intro l J Jx hJ KU hY h0;obtain ⟨A,c,rfl,h1,h2⟩:=xO hP
 refine (callsIn_wd (ro:=none) (n:=9)).1 ?_
 refine callsIn_of_wp Tryz.func278 rfl trivial ?_ rfl
 simp only[Tryz.ntmps278,P6,xC,P8,Pp,Po,Pj,Pi,P7,P5,xI,P4]
 refine zgL 0 (HvR bs A c l B W0.heap.size wo J) (fun a _=>2*bs.length-(intOf (a.tmps.getD 3 undef)).toNat) rfl (fun l' h=>by cases l' <;> first | exact absurd rfl h | rfl) ?_ ?_
 ·gi_wp2
  exact ⟨0,_,_,_,_,_,_,_,_,_,_,_,_,_,_,_,_,_,_,_,_,_,⟨by omega,h0,hE,hB,xN _⟩,rfl⟩
 ·intro a w hR
  obtain ⟨i,u4,u5,u6,u7,u8,u9,Kr,Ks,Kt,Ku,Kv,Kw,Kx,Ky,Kz,KA,KC,KD,KE,KF,KH,⟨hi,HJ,HH,HF,Hc⟩,rfl⟩:=hR;have c1:=HF.cell
  by_cases H2:i<2*bs.length
  ·obtain ⟨j,p,K1,hp⟩:∃ j p,i=2*j+p∧(p=0∨p=1):=⟨i / 2,i % 2,by omega,by omega⟩
   have hj:j<bs.length:=by omega
   obtain ⟨_,b,HO,rfl,hc⟩:=Bs.at_ hP (by omega);have Kf:=HH.out _ _ (hc j hj);obtain ⟨H0,H3⟩:=zma bs j p hj hp;have H9:=znC bs _ _ H0 (by rw[zgj];omega) H3;rw[←K1] at H3 H9;have hy:=hY _ _ _ H3 _ #[bv (P0 (bs[j].toNat / 16^p % 16))] HJ.out Hc rfl
   have H8:(zaJ bs).take (i+1) <+: zaJ bs:=List.take_prefix _ _
   have hq:=bs[j].toNat_lt
   generalize bs[j].toNat=q at *
   have J7:(i:Int)<2*(bs.length:Int):=by omega
   have J8:(j:Int)<(bs.length:Int):=by omega
   have hd:(i:Int) / 2=(j:Int):=by omega
   have HY:i / 2=j:=by omega
   have key:∀ (o:Oper) (a:Act) (next:Act→World→Prop) (Q:Exit→Act→World→Prop),
     (∀ W':World,J ((zaJ bs).take (i+1)) W'→Hold wo W'→Boxed W' B 33 (C (K ⟨b,HO,M⟩) bs.length c)→W0.heap.size≤W'.heap.size→next (a.put o.dst (O true)) W') →
     (∀ W':World,Jx ((zaJ bs).take (i+1)) W'→next (a.put o.dst (O false)) W') →
     o.uponIn (Wd none) 9 F a next Q ((Instr.yield l #[bv (P0 (q / 16^p % 16))]).run F w):=by
    intro o a next Q h1 h2
    refine zbh hy ?_
    rintro e W' ⟨H5,⟨rfl,hj⟩ | ⟨rfl,hj⟩⟩
    ·refine ⟨true,rfl,h1 W' (by rw[H9];exact hj) (HH.out.kept HG H5) (H5.boxed HF (.inl ⟨J0,rfl⟩)) (Ps Hc H5.size)⟩
    ·refine ⟨false,rfl,h2 W' (by rw[H9];exact hj)⟩
   have Hg:=H key;have K8:=H K1;have Hi:=H H8;have K9:=H H2;clear hc hY hy key H3 H9 H8 K1 hB hE h0
   rcases hp with rfl | rfl
   ·have ha:bits .and .i64 (i:Int) 1=0:=(bits_mask .i64 62 (by decide) zeS 1 (by decide) _ (by omega) (by omega)).trans (by have:=K8.out;omega)
    have hv:bits .and .u8 (q:Int) 15=((q % 16:Nat):Int):=(bits_mask .u8 8 (by decide) wraps_u8 4 (by decide) _ (by omega) (by omega)).trans (by simp)
    gi_wp2
    have Kc:G .u8 ((q:Int) % 16)=bv (P0 (q / 16^0 % 16)):=by rw[zgR];congr 1;omega
    exact mcCrca0
   ·have ha:bits .and .i64 (i:Int) 1=1:=(bits_mask .i64 62 (by decide) zeS 1 (by decide) _ (by omega) (by omega)).trans (by have:=K8.out;omega)
    have hv:bits .and .u8 ((q:Int) / 16) 15=((q / 16:Nat):Int):=(bits_mask .u8 8 (by decide) wraps_u8 4 (by decide) _ (by omega) (by omega)).trans (by omega)
    gi_wp2
    have Kc:G .u8 ((q:Int) / 16)=bv (P0 (q / 16^1 % 16)):=by rw[zgR];congr 1;omega
    exact mcCrca0
  ·obtain rfl:i=2*bs.length:=by omega
   have Hu:(zaJ bs).take (2*bs.length)=zaJ bs:=P1 (by rw[zgj];exact xN _)
   have K2:=HJ.out;rw[Hu] at K2;have KK:=H K2;clear K2 Hu hY h0
   gi_wp2
   refine ⟨fun f h=>(by cases h),?_⟩
   gi_wp2
   refine zfx ?_
   refine bodyPost_end (results_none rfl _ _ _) rfl ?_
   exact ⟨⟨_,rfl⟩,.inl KK.out⟩
theorem zpr (A:Option Addr) (n c:Nat) (w:World):Calls F 232 #[C A n c] w fun e w'=>e=.returned (.func (.func 278) #[] #[I (K ⟨w.heap.size,0,M⟩)])∧w.alloc (E #[C A n c] 33)=w':=by
 go_enter Tryz.func232,Tryz.ntmps232
 go_wp2
 go_ret
 exact ⟨rfl,rfl⟩
def zg7 (T:Tab) (s:Nat) (bs:List UInt8):Nat:=(zaJ bs).foldl (fun a h=>zbQ T a h.toNat) s
def zcb (T:Tab) (s:Nat) (bs:List UInt8):Nat:=4294967295 ^^^ zg7 T (4294967295 ^^^ s) bs
theorem ze5 (s:Nat) (h:s<4294967296):4294967295 ^^^ s<4294967296:=by
 have:4294967295 ^^^ s<2^32:=Pn (by omega) (by omega)
 simpa using this
theorem zir (s:Nat) (h:s<4294967296):bits .xor .u32 Pw.max (s:Int)=((4294967295 ^^^ s:Nat):Int):=zdl 4294967295 s (by decide) h
theorem zi7 (hs:List UInt8) (s:Nat) (h:s<4294967296):hs.foldl (fun a h=>zbQ T a h.toNat) s<4294967296:=by
 induction hs generalizing s with
 | nil=>exact h
 | cons x hs ih=>exact ih _ (zji _ h)
def NxI (T:Tab) (w:World) (s0:Nat) (H1:List UInt8) (X:World):Prop:=Boxed X w.heap.size 190 (.int .u32 ((H1.foldl (fun a h=>zbQ T a h.toNat) s0:Nat):Int))∧Below w.heap.size w X
theorem znu (s:Nat) (hs:s<4294967296) (v:Value) (bs:List UInt8) (w:World) (h:Bs w v bs) (HB:bs.length≤2000000) (hT:TabW T w) :
  Calls F 202 #[.int .u32 s,v] w fun e w'=>e=.returned (.int .u32 (zcb T s bs))∧Ext w w':=by
 obtain ⟨A,c,rfl,h1,h2⟩:=xO h;have HP:=H h;have HT:=H hT;clear h hT;have hn:=zir s hs;have Kj:=ze5 s hs;unfold zcb zg7
 generalize 4294967295 ^^^ s=s0 at *
 refine (callsIn_wd (ro:=none) (n:=9)).1 ?_
 refine callsIn_of_wp_marks Tryz.func202 rfl trivial ?_ rfl
 simp only[Tryz.ntmps202,P6,xC,P8,Pp,Po,Pj,Pi,P7,P5,xI,P4]
 gi_wp2_with (refine ⟨trivial,?_⟩;gi_at_call 232;refine (callsIn_wd.2 (zpr _ _ _ _)).mono ?_;rintro e w' ⟨rfl,rfl⟩)
 clear hn
 have q2:Boxed ((w.alloc (E #[.int .u32 s0] 190)).alloc (E #[C A bs.length c] 33)) (w.heap.size+1) 33 (C A bs.length c):=by
  have:=Pv (w.alloc (E #[.int .u32 s0] 190)) 33 (C A bs.length c)
  rwa [xS] at this
 have He:Ext w ((w.alloc (E #[.int .u32 s0] 190)).alloc (E #[C A bs.length c] 33)):=xA (xA (xR _) _) _
 have h0:NxI T w s0 [] ((w.alloc (E #[.int .u32 s0] 190)).alloc (E #[C A bs.length c] 33)):=⟨(Pv w _ _).alloc _,He⟩
 have Km:((w.alloc (E #[.int .u32 s0] 190)).alloc (E #[C A bs.length c] 33)).heap.size=w.heap.size+2:=by simp
 generalize (w.alloc (E #[.int .u32 s0] 190)).alloc (E #[C A bs.length c] 33)=w2 at *
 refine zcy (a:=⟨_,_⟩) rfl (enters_of Tryz.func278 (by kernel_rfl) rfl)
  (fun W1 hb _=>znB w W1 _ bs HP.out HB (fun p u hc=>Ext.cell (xT He hb) hc) w.heap.size (w.heap.size+1) (xN _) (by omega) (q2.kept (row:=none) (Ext.grown hb none) (by simp)))
  (fun k o h=>h.elim) (fun k o h=>h.2) (fun x av W h=>by rw[h];rfl)
  (NxI T w s0) (fun _ _ _=>False) ?hI (fun _ _ _ _ h _=>h) h0
  (fun x a' _=>a'=⟨#[.int .u32 s,C A bs.length c,I (K ⟨w.heap.size,0,M⟩),undef,.int .u32 0,G .u8 x.toNat,.int .u32 s,.int .u32 s0,C A bs.length c,.func (.func 278) #[] #[I (K ⟨w.heap.size+1,0,M⟩)],G .u8 x.toNat,undef,undef,undef,undef,undef],[]⟩)
  (fun _ _ _ _ h _=>h) ?assign ?body ?done ?stop
 case hI =>
  rintro s X Y ⟨hv,hB⟩ hm
  refine ⟨hm.boxed hv ?_,hm.belowOf hB ?_ (xN _)⟩
  ·rintro (h | h)
   ·exact h
   ·cases h.2
  ·rintro k o hk (h | h)
   ·exact h
   ·have:=h.1;omega
 case assign =>
  rintro l H1 x H0 W av K' hx hi Hc rfl hK;simp only[bv]
  gi_wp2
  exact hK _ _ Kept.refl hi rfl
 case body =>
  rintro l H1 x H0 a' W hx hl hr ⟨hv,hB⟩ Hc rfl;have hc:=hv.cell;have hf:=hv.frozen;have HK:=zi7 (T:=T) H1 s0 Kj;have J3:=H hB
  have Kh:(H1++[x]).foldl (fun a h=>zbQ T a h.toNat) s0=zbQ T (H1.foldl (fun a h=>zbQ T a h.toNat) s0) x.toNat:=by rw[Pa];rfl
  have KO:=H Kh
  have Kb:TabW T W:=HT.out.ext hB
  have KL:=H Kb;clear Kh Kb
  generalize H1.foldl (fun a h=>zbQ T a h.toNat) s0=sm at *
  gi_wp2_with (refine ⟨trivial,?_⟩;gi_at_call 233;refine (callsIn_wd.2 (zsd sm x.toNat HK x.toNat_lt W KL.out)).mono ?_;rintro e w' ⟨rfl,rfl⟩)
  refine ⟨Kept.refl.setCell (fun o ho hc=>?_) _,by show Boxed _ _ _ _;rw[KO.out];exact hv.set _,hB.setCell (p:=⟨w.heap.size,0,M⟩) (xN _) _⟩
  rintro (h | h)
  ·exact h.1 rfl
  ·rw[hc] at h;cases h.2
 case done =>
  rintro D W hD ⟨hv,hB⟩ hK;have hc:=hv.cell;have HK:=zi7 (T:=T) (zaJ bs) s0 Kj
  obtain ⟨sm,K4⟩:∃ sm,(zaJ bs).foldl (fun a h=>zbQ T a h.toNat) s0=sm:=⟨_,rfl⟩
  rw[K4] at HK hc;have KR:=H K4;have Ja:=zir sm HK;clear K4 hv
  gi_wp2
  refine zbO hK (.int .u32 ((4294967295 ^^^ sm:Nat):Int)) (by simp[results,Tryz.results202,go_sem]) ?_
  exact ⟨by rw[KR.out],zaN hB (by omega) _⟩
 case stop =>
  rintro D c H1 W _ _ h _
  exact h.elim
theorem zgo (v:Value) (l:List Int) (w:World) (h:Is w v l) (hn:zau l=true) (hl:l.length≤2000000):Calls F 121 #[v] w (zgy w l):=by
 obtain ⟨A,c,rfl,h1,h2⟩:=xO h;obtain ⟨i0,hi,HM,Hr,Kq⟩:=info_parts zb0;have Hn:=H hn
 go_enter Tryz.func121,Tryz.ntmps121
 go_wp2_with (go_at_call 183;refine (zd4 _ _ _ h).mono ?_;rintro e w' ⟨rfl,rfl⟩)
 clear hn
 go_loopw [4,5] (fun vb i wr=>∃ k:Nat,k≤l.length∧i=.int .i64 k∧wr.ownsRow w.heap.size 5 1 vb (zao (l.take k)).length ((zao (l.take k)).map bv)∧Ext w wr) (fun _ i _=>l.length-(intOf i).toNat)
 case atStart=>exact ⟨0,Pq _,rfl,World.ownsRow_nil _ _ _ _,xR _⟩
 case round =>
  obtain ⟨k,hk,rfl,Hb,hB⟩:=hrel
  by_cases H2:k<l.length
  ·obtain ⟨_,b,HO,rfl,hc⟩:=Is.at_ (h.ext hB) (by omega)
   have Kd:=hc k H2;clear hc;obtain ⟨Ki,KZ⟩:=ze6 Hn.out H2;obtain ⟨N,hN⟩:=Int.eq_ofNat_of_zero_le Ki;rw[hN] at Kd KZ;have HN:=H hN;clear hN Ki;have Hq:=zcj (l.take k)
   have Ko:(l.take k).length≤k:=List.length_take_le _ _
   have J5:b<wr.heap.size:=World.block_lt_of_cell? wr _ Kd
   have Kl:zbC N=hiB 5 (N / 128)++[P0 (N % 128)]:=zh4 N (by omega)
   have KQ:=H Kl;clear Kl;go_wp2_with fail;obtain ⟨wo,rfl⟩:∃ wo:World,wo=wr:=⟨_,rfl⟩
   go_loopw [6,7] (fun ds m KI=>∃ (f mm:Nat) (H4:List UInt8),mm<128^f∧f≤5∧mm≤1073741824∧m=.int .i64 mm∧H4.length+f=6∧Hid (zbC N=hiB f mm++H4)∧KI.ownsRow wo.heap.size 5 1 ds H4.length (H4.map bv)∧Ext wo KI) (fun _ m _=>(intOf m).toNat)
   case atStart =>
    refine ⟨5,N / 128,[P0 (N % 128)],by omega,by omega,by omega,by simp,rfl,KQ.out,?_,(xR _).alloc _⟩
    have h:=zaG wo [G .u8 ((N:Int) % 128)] 5 1 rfl (by simp[maxLen]) (xN _)
    have hm:Ph bv [P0 (N % 128)]=[G .u8 ((N:Int) % 128)]:=by simp[bv];omega
    rw[hm];exact h
   case round =>
    obtain ⟨f,mm,H4,K3,J6,J9,rfl,Jb,Hd,HZ,Ha⟩:=hrel;obtain ⟨g,Ka,rfl,J4,KX,KY⟩:=zdL HZ (by omega)
    by_cases hmm:mm=0
    ·subst hmm
     rw[zep,xI] at Hd
     go_wp2_with (at_builtin;refine wpList_append_own _ rfl (.tmp 40) (.tmp 41) 33 rfl w.heap.size 5 i0 (G .u8 0) 1 1 Tryz.underlying33 hi HM Hr Kq rfl (by decide) _ _ _ rfl (zab Hb Ha) ⟨g,0,M⟩ H4.length Ka (H4.map bv) rfl (by simp) (HZ.cells rfl) (zbI _) (by simp[maxLen];omega) (by omega) (by have:=hB.size;have:=Ha.size;omega) ?_;intro v' w1 H7 H6 _)
     go_roundw
     case rel =>
      refine ⟨k+1,by omega,by go_num,?_,Ext.grownOwn (xT hB Ha) (zab Hb Ha) H6⟩
      have hN:=HN.out;rw[ziW H2,hN,Int.toNat_natCast,Hd.out]
      simpa using H7
     case measure=>simp[intOf];omega
    ·obtain ⟨f',rfl⟩:∃ f',f=f'+1:=⟨f-1,by cases f with | zero=>simp at K3;omega | succ f=>omega⟩
     have HY:zbC N=hiB f' (mm / 128)++(P0 (mm % 128+128)::H4):=by
      have:=Hd.out
      rw[hiB,if_neg hmm] at this
      simpa using this
     have KM:=H HY
     have HD:mm / 128<128^f':=by
      rw[Nat.div_lt_iff_lt_mul (by decide)]
      rw[Nat.pow_succ] at K3;exact K3
     have KP:=H HD;clear HY HD
     go_wp2_with (at_builtin;refine wpList_append_own _ rfl (.tmp 37) (.tmp 38) 33 rfl wo.heap.size 5 i0 (G .u8 0) 1 1 Tryz.underlying33 hi HM Hr Kq rfl (by decide) (C (K ⟨wr.heap.size,0,M⟩) 1 1) 1 [G .u8 ((mm:Int) % 128+128)] rfl (zaG wr [G .u8 ((mm:Int) % 128+128)] 5 1 rfl (by simp[maxLen]) Ha.size) ⟨g,0,M⟩ H4.length Ka (H4.map bv) rfl (by simp) ((HZ.alloc _).cells rfl) (zbI _) (by simp[maxLen];omega) (by omega) (by have:=hB.size;have:=Ha.size;simp;omega) ?_;intro v' w1 H7 H6 _)
     go_roundw
     case rel =>
      refine ⟨f',mm / 128,P0 (mm % 128+128)::H4,KP.out,by omega,by omega,by simp,by simp;omega,KM.out,?_,?_⟩
      ·have e:Ph bv (P0 (mm % 128+128)::H4)=[G .u8 ((mm:Int) % 128+128)]++H4.map bv:=by simp[bv];omega
       rw[e]
       simpa [Nat.add_comm] using H7
      ·refine (Below.grown (xA Ha _) H6 (by have:=Ha.size;simp;omega) (fun k ek=>?_))
       have:wr.heap.size=k:=by simpa [Value.ownBlock] using ek
       have:=Ha.size;omega
     case measure=>simp[intOf];omega
  ·have H5:l.take k=l:=P1 (by omega)
   rw[H5] at Hb;clear H5;go_wp2_with fail
   go_ret2
   exact ⟨_,rfl,Hb,hB⟩
def zcP (first:Int):Int×List UInt8:=if zaD first=true∧first≠0 then (0,2::zao [first]) else (2,[])
theorem zuJ {W:World} {va vb:Value} {a b:List UInt8} (ha:Bs W va a) (hb:Bs W vb b):Parts (W.alloc (E #[va,vb] 33)) (C (K ⟨W.heap.size,0,M⟩) 2 2) [a,b]:=by
 refine ⟨[va,vb],rfl,xW (zaG W [va,vb] 33 2 rfl (by simp[maxLen]) (xN _)),fun i hi KW=>?_⟩
 match i,hi with
 | 0,_=>exact Bs.ext ha (xA (xR _) _)
 | 1,_=>exact Bs.ext hb (xA (xR _) _)
theorem zjR {W:World} {va:Value} {a:List UInt8} (ha:Bs W va a):Parts (W.alloc (E #[va] 33)) (C (K ⟨W.heap.size,0,M⟩) 1 1) [a]:=by
 refine ⟨[va],rfl,xW (zaG W [va] 33 1 rfl (by simp[maxLen]) (xN _)),fun i hi KW=>?_⟩
 match i,hi with
 | 0,_=>exact Bs.ext ha (xA (xR _) _)
def zdf (e:Ent):List UInt8:=zao [e.t,e.k,e.v]
def zeA (es:List Ent):Bool:=decide (0<es.length∧es.length≤4)&&zcA es
def zaL (es:List Ent):List UInt8:=P0 es.length::es.flatMap zdf
def zdm (p:Nat×Nat) (es:List Ent):List UInt8:=zaL es++zaT (zas p (zaL es))
theorem zl3 (e:Ent):(zdf e).length≤15:=by have:=zcj [e.t,e.k,e.v];simpa [zdf] using this
theorem zkF (es:List Ent):(es.flatMap zdf).length≤15*es.length:=by
 induction es with
 | nil=>simp
 | cons e es ih=>have:=zl3 e;rw[List.flatMap_cons,xL,xC];omega
theorem zos {e:Ent} (h:e.ok=true):zau [e.t,e.k,e.v]=true:=by
 have:=okB_true.1 h
 unfold Ent.okP at this;simp only[zau,List.all_cons,List.all_nil,Bool.and_true,Bool.and_eq_true,numB_true];omega
theorem zsj {es:List Ent} (h:zcA es=true) (k:Nat) (hk:k<es.length):es[k].ok=true:=by
 unfold zcA at h
 exact List.all_eq_true.1 h _ (List.getElem_mem hk)
theorem ztP (es:List Ent) (k:Nat) (h:k<es.length):(es.take (k+1)).flatMap zdf=(es.take k).flatMap zdf++zdf es[k]:=by
 rw[P2 h,Pe];simp
def zuk (p:Nat×Nat) (es:List Ent) (w:World) (e:Ending) (w':World):Prop :=
 ∃ v vz,e=.returned (.tuple #[v,vz,.int .i64 0])∧PtV vz (zas p (zaL es))∧w'.ownsRow w.heap.size 5 1 v (zdm p es).length ((zdm p es).map bv)∧Ext w w'
def ztz (w:World) (e:Ending) (w':World):Prop:=e=.returned (.tuple #[C none 0 0,.complex .f64 0 0,.int .i64 2])∧Ext w w'
attribute [local go_sem] Pu
def zcH (n:Nat):List UInt8:=zaP 8 n false 4
def zbr (l:List Int):List UInt8:=l.flatMap fun n=>zcH n.toNat
theorem znv (n:Nat) (k:Nat):(zaP 8 n false k).length=k+1:=by
 induction k with
 | zero=>simp[zaP]
 | succ k ih=>rw[zaP,if_neg (by simp)];simp[ih]
theorem zcZ (n:Nat):(zcH n).length=5:=znv n 4
theorem zhV (l:List Int):(zbr l).length=5*l.length:=by
 induction l with
 | nil=>rfl
 | cons n l ih=>rw[show zbr (n::l)=zcH n.toNat++zbr l from rfl,xL,zcZ,ih,xC];omega
theorem zpD {l:List Int} {k:Nat} (h:k<l.length):zbr (l.take (k+1))=zbr (l.take k)++zcH l[k].toNat:=by
 rw[P2 h];unfold zbr;rw[Pe];simp
def zuq (w:World) (l:List Int) (e:Ending) (w':World):Prop:=∃ v',e=.returned (.tuple #[v',.int .i64 0])∧w'.ownsRow w.heap.size 5 1 v' (zbr l).length ((zbr l).map bv)∧Ext w w'
def beN (l:List UInt8):Nat:=l.foldl (fun a b=>a*256+b.toNat) 0
theorem zsn (l:List UInt8) (b:UInt8):beN (l++[b])=beN l*256+b.toNat:=by unfold beN;rw[Pa];rfl
def zah (bs:List UInt8):Int×Nat×List UInt8:=if bs.length<5 then (10,0,[]) else if beN (bs.take 5)≤1073741824 then (0,beN (bs.take 5),bs.drop 5) else (11,0,[])
theorem zsm (n:Nat) (h:n≤1073741824):beN (zcH n)=n:=by
 simp[zcH,zaP,beN]
 omega
theorem zmV (n:Nat) (h:n≤1073741824) (r:List UInt8):zah (zcH n++r)=(0,n,r):=by
 unfold zah;have hl:=zcZ n
 rw[if_neg (by rw[xL,hl];omega),List.take_left' hl,List.drop_left' hl,zsm n h,if_pos h]
end Go.Proofs.YteggfecbjgbndaaGreatDoor
