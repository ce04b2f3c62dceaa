/- Merged -/
import Derived.Test.YteggfecbjgbndaaGreatDoorZw8
set_option linter.all false
set_option maxHeartbeats 8000000
set_option maxRecDepth 100000
open Go.Value renaming int→B,slice→E,pointer→M,bool→O,agg→V
open Go.Obj renaming cells→C
open Go.IntKind renaming i64→F,u8→U
open Option renaming none→G,some→I
open Go.Proofs.Tryz renaming prog→L
open Go.Mv renaming zhd→T
open UInt8 renaming ofNat→P0
open Go.World renaming block_lt_of_cell?→P1
open List renaming eq_nil_of_length_eq_zero→P2,flatMap_cons→P3,cons_append→P4,getElem?_append_right→P5,getD_eq_getElem?_getD→P6,getElem?_cons_succ→P7,append_toArray→P8,size_toArray→P9,push_toArray→Pa,length_nil→Pb,append_nil→Pc
open Go.Mv.Ext renaming grown→Pd,cell→Pe
open Go.Oper renaming semAt_some→Pf,wp→Pg
open Go.Boxed renaming new→Ph
open Nat renaming eq_zero_or_pos→Pi,strongRecOn→Pj,reduceSub→Pk,reduceAdd→Pl,le_trans→Pm
open Array renaming replicate_zero→Pn,replicate_succ→Po
namespace Go.Proofs.YteggfecbjgbndaaGreatDoor
open Go.RowKit Go.Mv Go.Shelf
theorem mcPiecesIta0 {P:Prop} (h:P:=by
 obtain ⟨R,hy,hR⟩:=Fin.out W5 He
 refine zbh hy ?_
 rintro e W6 hr
 obtain ⟨k2,⟨rfl,hI⟩ | ⟨rfl,hj⟩⟩:=hR _ _ hr
 ·refine ⟨true,rfl,?_⟩
  have K2:=T k2;have Ko:=T hI;clear k2 hI hr hR hy;refine rnF 5 ?_
  refine wpAnyIn_done (by kernel_rfl) (zea ?_) _
  simp only[Act.put,sA,sZ,sS]
  gi_wp2
  exact ⟨K2.out,Ko.out⟩
 ·refine ⟨false,rfl,?_⟩
  have K2:=T k2;have Kp:=T hj;clear k2 hj hr hR hy;refine rnF 5 ?_
  refine wpAnyIn_done (by kernel_rfl) (zea ?_) _
  simp only[Act.put,sA,sZ,sS]
  gi_wp2
  exact ⟨K2.out,rfl,Kp.out⟩):P:=h
attribute [local go_sem] Pf zew
def zgk (z:Nat×Nat) (ps:List (List UInt8)):Nat×Nat:=ps.foldl zas z
def zbV (z:Nat×Nat):List (List UInt8)→List (List UInt8×(Nat×Nat))
 | []=>[]
 | p::ps=>(p,zas z p)::zbV (zas z p) ps
def zdu (x:List UInt8×(Nat×Nat)):List UInt8:=x.1++zaT x.2
theorem zrv (z:Nat×Nat) (ps:List (List UInt8)) (p:List UInt8):zgk z (ps++[p])=zas (zgk z ps) p:=by unfold zgk;rw[List.foldl_append];rfl
theorem ze7 (a b:List (List UInt8)):∀ (z:Nat×Nat),zbV z (a++b)=zbV z a++zbV (zgk z a) b:=by
 induction a with
 | nil=>intro z;rfl
 | cons x a ih=>intro z;rw[P4,zbV,ih,zbV];rfl
theorem znL (z:Nat×Nat) (t:List UInt8):(zbV z (zaO 4 t)).flatMap zdu=zaH z t:=by
 generalize hn:t.length=n
 induction n using Pj generalizing z t with
 | _ n ih =>
  rcases Pi t.length with h | h
  ·have:t=[]:=P2 h
   subst this;rw[zd8,zdM];rfl
  ·rw[zdJ 4 t (by decide) h,zbV,P3,ih (t.drop 4).length (by rw[List.length_drop];omega) _ (t.drop 4) rfl,zdv z t h]
   unfold zdu;rw[List.append_assoc]
def PcK (bo:Nat) (k:Nat) (o:Obj):Prop:=o.isCells=true∧k≠bo
def PcM (n0:Nat) (k:Nat) (o:Obj):Prop:=n0≤k∧o.ty=I 212
def PcI (wo:World) (N l:Nat) (z:Nat×Nat) (J:List (List UInt8×(Nat×Nat))→World→Prop) (ps:List (List UInt8)) (W:World):Prop :=
 ∃ zv,J (zbV z ps) W∧Boxed W (N+1) 212 zv∧PtV zv (zgk z ps)∧Boxed W N 333 (.func (.yield l) #[] #[])∧Hold wo W∧N≤W.heap.size
theorem znM (wo W0:World) (v:Value) (t:List UInt8) (ht:Bs wo v t) (Ha:t.length≤2000000) (hH:Hold wo W0) (bt bo n0:Nat) (Ky:Boxed W0 bt 33 v) (Jb:n0≤W0.heap.size) (Jc:wo.heap.size≤n0) (J7:wo.heap.size≤bo) (KF:bo<W0.heap.size) :
  Seq L 296 #[M (I ⟨bt,0,G⟩)]
   (fun (x:List UInt8×(Nat×Nat)) av W=>∃ u,av = #[u,.agg ((zaT x.2).map bv).toArray]∧Bs W u x.1∧x.1.length≤4) (PcK bo) (PcM n0) (zbV (0,0) (zaO 4 t)) W0:=by
 intro l J Jx hJ Ka hY h0;obtain ⟨A,c,rfl,h1,h2⟩:=xO ht;have c1:=Ky.cell
 have Kc:bt<W0.heap.size:=P1 W0 _ c1
 refine (callsIn_wd (ro:=none) (n:=9)).1 ?_
 refine callsIn_of_wp_marks Tryz.func296 rfl trivial ?_ rfl
 simp only[Tryz.ntmps296,P9,xC,Pb,Pl,Pk,Po,Pn,Pa,P8,xI,P4]
 gi_wp2_with (refine ⟨trivial,?_⟩;gi_at_call 205;refine (callsIn_wd.2 (zoF _ _ _ 4 (by decide) _)).mono ?_;rintro e w' ⟨rfl,rfl⟩)
 have q0:Boxed ((((W0.alloc (C #[.func (.yield l) #[] #[]] 333)).alloc (C #[.complex .f64 0 0] 212)).alloc (C #[E A t.length c] 33)).alloc (C #[B F 4] 3)) W0.heap.size 333 (.func (.yield l) #[] #[]):=(((Ph W0 _ _).alloc _).alloc _).alloc _
 have qz:Boxed ((((W0.alloc (C #[.func (.yield l) #[] #[]] 333)).alloc (C #[.complex .f64 0 0] 212)).alloc (C #[E A t.length c] 33)).alloc (C #[B F 4] 3)) (W0.heap.size+1) 212 (.complex .f64 0 0):=by
  have:=Ph (W0.alloc (C #[.func (.yield l) #[] #[]] 333)) 212 (.complex .f64 0 0)
  rw[xS] at this
  exact (this.alloc _).alloc _
 have q1:Boxed ((((W0.alloc (C #[.func (.yield l) #[] #[]] 333)).alloc (C #[.complex .f64 0 0] 212)).alloc (C #[E A t.length c] 33)).alloc (C #[B F 4] 3)) (W0.heap.size+1+1) 33 (E A t.length c):=by
  have:=Ph ((W0.alloc (C #[.func (.yield l) #[] #[]] 333)).alloc (C #[.complex .f64 0 0] 212)) 33 (E A t.length c)
  rw[xS,xS] at this
  exact this.alloc _
 have q2:Boxed ((((W0.alloc (C #[.func (.yield l) #[] #[]] 333)).alloc (C #[.complex .f64 0 0] 212)).alloc (C #[E A t.length c] 33)).alloc (C #[B F 4] 3)) (W0.heap.size+1+1+1) 3 (B F 4):=by
  have:=Ph (((W0.alloc (C #[.func (.yield l) #[] #[]] 333)).alloc (C #[.complex .f64 0 0] 212)).alloc (C #[E A t.length c] 33)) 3 (B F 4)
  rwa [xS,xS,xS] at this
 have Hc:Ext W0 ((((W0.alloc (C #[.func (.yield l) #[] #[]] 333)).alloc (C #[.complex .f64 0 0] 212)).alloc (C #[E A t.length c] 33)).alloc (C #[B F 4] 3)):=xA (xA (xA (xA (xR _) _) _) _) _
 have KM:Moves (zac (PcM n0) W0.heap.size) W0 ((((W0.alloc (C #[.func (.yield l) #[] #[]] 333)).alloc (C #[.complex .f64 0 0] 212)).alloc (C #[E A t.length c] 33)).alloc (C #[B F 4] 3)):=(((Moves.refl.alloc _).alloc _).alloc _).alloc _
 have KR:((((W0.alloc (C #[.func (.yield l) #[] #[]] 333)).alloc (C #[.complex .f64 0 0] 212)).alloc (C #[E A t.length c] 33)).alloc (C #[B F 4] 3)).heap.size=W0.heap.size+4:=by simp
 have KA:=hJ _ _ _ h0 KM
 generalize ((((W0.alloc (C #[.func (.yield l) #[] #[]] 333)).alloc (C #[.complex .f64 0 0] 212)).alloc (C #[E A t.length c] 33)).alloc (C #[B F 4] 3))=w2 at *
 have Kz:Hold wo w2:=fun q u hq=>Pe Hc (hH q u hq)
 refine zcy (a:=⟨_,_⟩) rfl (enters_of Tryz.func236 (by kernel_rfl) rfl)
  (fun W1 hb _=>zo9 4 (by decide) (by decide) wo W1 _ t ht Ha (W0.heap.size+1+1) (W0.heap.size+1+1+1) (q1.kept (row:=none) (Pd hb none) (by simp)) (q2.kept (row:=none) (Pd hb none) (by simp)))
  (fun k o h=>h.elim) (fun k o h=>by rcases h with h | h <;> exact zce h.2) (fun x av W h=>by obtain ⟨_,_,rfl,_⟩:=h;rfl)
  (PcI wo W0.heap.size l (0,0) J) (fun cd ps W=>cd=Code.ret∧Jx (zbV (0,0) ps) W) ?hI ?hIx ⟨_,KA,qz,PtV.zero,q0,Kz,by omega⟩
  (fun x a' _=>∃ b' H2,Bs wo (E (I ⟨b',H2,G⟩) x.length x.length) x∧x.length≤4∧a'=⟨#[.func (.yield l) #[] #[],M (I ⟨bt,0,G⟩),M (I ⟨W0.heap.size,0,G⟩),M (I ⟨W0.heap.size+1,0,G⟩),E (I ⟨b',H2,G⟩) x.length x.length,E A t.length c,.func (.func 236) #[] #[M (I ⟨W0.heap.size+1+1,0,G⟩),M (I ⟨W0.heap.size+1+1+1,0,G⟩)],E (I ⟨b',H2,G⟩) x.length x.length,undef,undef,undef,undef,undef,undef,undef,undef,undef,undef],[]⟩)
  (fun _ _ _ _ h _=>h) ?assign ?body ?done ?stop
 case hI =>
  rintro cs X Y ⟨zv,hj,hb,hp,hy,hh,hs⟩ hm
  have KL:Moves (zac (PcM n0) W0.heap.size) X Y:=hm.weaken (fun k o h=>by rcases h with h | h;exact h.elim;exact .inr ⟨by omega,h.2⟩)
  refine ⟨zv,hJ _ _ _ hj KL,hm.boxed hb ?_,hp,hm.boxed hy ?_,hh.moves hm ?_,Pm hs hm.size⟩
  ·rintro (h | h)
   ·exact h
   ·cases h.2
  ·rintro (h | h)
   ·exact h
   ·cases h.2
  ·rintro k o _ hc (h | h)
   ·exact h
   ·rw[hc] at h;cases h.2
 case hIx =>
  rintro cd cs X Y ⟨rfl,hj⟩ hm
  exact ⟨rfl,Ka _ _ _ hj (hm.weaken (fun k o h=>by rcases h with h | h;exact h.elim;exact .inr ⟨by omega,h.2⟩))⟩
 case assign =>
  rintro l' H0 x Hb W av K' hx hi K5 ⟨b',H2,rfl,hu,_,Hd⟩ hK
  gi_wp2
  exact hK _ _ Kept.refl hi ⟨b',H2,hu,Hd,rfl⟩
 case body =>
  rintro l' H0 x Hb a' W hx Ja hr ⟨zv,hj,hb,hp,hy,hh,hs⟩ K5 ⟨b',H2,hu,Hd,rfl⟩;have KQ:=hp.pt;obtain ⟨z1,z2,rfl,Kl,Km⟩:=hp
  have K6:Bs W (E (I ⟨b',H2,G⟩) x.length x.length) x:=SlR.keep hu hh
  have KZ:=T K6;have cb:=hb.cell
  have J8:W0.heap.size+1<W.heap.size:=P1 W _ cb
  have HI:=T (show PcI wo W0.heap.size l (0,0) J H0 W from ⟨_,hj,hb,⟨z1,z2,rfl,Kl,Km⟩,hy,hh,hs⟩)
  have H5:=zjR K6;have HP:=T H5;clear K6 Kl Km H5
  gi_wp2_with (refine ⟨trivial,?_⟩;gi_at_call 297;refine (callsIn_wd.2 (zqn z1 z2 _ _ _ HP.out)).mono ?_;rintro e W2 ⟨Je,rfl,HL,hE⟩;rw[show [x].flatten=x from by simp,KQ] at HL;have Kq:=T HL;have K4:=HL.pt;obtain ⟨y1,y2,rfl,_,_⟩:=HL;have H7:Ext W W2:=xT (xA (xR _) _) hE;have HV:Boxed W2 (W0.heap.size+1) 212 (.complex .f64 z1 z2):=hb.kept (row:=none) (Pd H7 none) (by simp);have KW:Boxed W2 W0.heap.size 333 (.func (.yield l) #[] #[]):=hy.kept (row:=none) (Pd H7 none) (by simp);have J0:=HV.cell;have J4:=HV.frozen)
  have hb3:Boxed (W2.setCell ⟨W0.heap.size+1,0,G⟩ (.complex .f64 y1 y2)) (W0.heap.size+1) 212 (.complex .f64 y1 y2):=HV.set _
  have Kk:Boxed (W2.setCell ⟨W0.heap.size+1,0,G⟩ (.complex .f64 y1 y2)) W0.heap.size 333 (.func (.yield l) #[] #[]):=KW.other (by omega) _
  have K9:=hb3.cell;have HO:=Kk.cell
  have Ke:Moves (zac (PcM n0) W0.heap.size) W (W2.setCell ⟨W0.heap.size+1,0,G⟩ (.complex .f64 y1 y2)) :=
   (Moves.refl.below H7 (xN _)).setCell (fun o ho _=>.inl ⟨by show n0≤W0.heap.size+1;omega,by rw[show W.heap[W0.heap.size+1]?=_ from hb] at ho;cases ho;rfl⟩) _
  have k1:Kept (zac (fun k o=>(k=W0.heap.size+1+1∧o.ty=I 33)∨(k=W0.heap.size+1+1+1∧o.ty=I 3)) w2.heap.size) W (W2.setCell ⟨W0.heap.size+1,0,G⟩ (.complex .f64 y1 y2)) :=
   (Kept.refl.below H7 (xN _)).setCell (fun o ho hc=>by
    rintro ((⟨h,_⟩ | ⟨h,_⟩) | ⟨h,_⟩)
    ·have:W0.heap.size+1=W0.heap.size+1+1:=h
     omega
    ·have:W0.heap.size+1=W0.heap.size+1+1+1:=h
     omega
    ·have:w2.heap.size≤W0.heap.size+1:=h
     omega) _
  have KJ:Hold wo (W2.setCell ⟨W0.heap.size+1,0,G⟩ (.complex .f64 y1 y2)):=fun q u hq=>by
   have HX:=P1 wo q hq
   exact (World.cell?_setCell_other _ _ _ _ (fun e=>by rw[←e] at HX;have:W0.heap.size+1<wo.heap.size:=HX;omega)).trans (Pe H7 (hh q u hq))
  have Kd:zbV (0,0) (zaO 4 t)=zbV (0,0) H0++(x,zas (zgk (0,0) H0) x)::zbV (zas (zgk (0,0) H0) x) Hb:=by rw[hx,ze7,zbV]
  have KD:(W2.setCell ⟨W0.heap.size+1,0,G⟩ (.complex .f64 y1 y2)).heap.size=W2.heap.size:=by simp[World.setCell]
  have fin:∀ W5:World,Ext (W2.setCell ⟨W0.heap.size+1,0,G⟩ (.complex .f64 y1 y2)) W5→∃ R:Ending→World→Prop,Mv.YieldsAt L l #[E (I ⟨b',H2,G⟩) x.length x.length,.agg ((zaT (zas (zgk (0,0) H0) x)).map bv).toArray] W5 R∧(∀ e W6,R e W6→Kept (zac (fun k o=>(k=W0.heap.size+1+1∧o.ty=I 33)∨(k=W0.heap.size+1+1+1∧o.ty=I 3)) w2.heap.size) W W6 ∧
    ((e=.returned (O true)∧PcI wo W0.heap.size l (0,0) J (H0++[x]) W6)∨(e=.returned (O false)∧Jx (zbV (0,0) (H0++[x])) W6))):=by
   intro W5 H6;have KC:=hJ _ _ _ hj (Ke.below H6 (xN _))
   have HD:W0.heap.size≤W5.heap.size:=by have:=H7.size;have:=H6.size;omega
   have HW:Hold wo W5:=fun q u hq=>Pe H6 (KJ q u hq)
   have KE:Boxed W5 (W0.heap.size+1) 212 (.complex .f64 y1 y2):=hb3.kept (row:=none) (Pd H6 none) (by simp)
   have KX:Boxed W5 W0.heap.size 333 (.func (.yield l) #[] #[]):=Kk.kept (row:=none) (Pd H6 none) (by simp)
   have KY:=hY _ _ _ Kd W5 #[E (I ⟨b',H2,G⟩) x.length x.length,.agg ((zaT (zas (zgk (0,0) H0) x)).map bv).toArray] KC HD ⟨_,rfl,SlR.keep hu HW,Hd⟩;have k5:=k1.below H6 (xN _)
   refine ⟨_,KY,?_⟩
   rintro e W6 ⟨Hw,KK⟩
   have k2:=k5.trans (Hw.mono (fun k o h=>by
    rcases h with (⟨h,ht⟩ | ⟨h,ht⟩) | ⟨h,ht⟩
    ·exact .inl ⟨zce ht,by omega⟩
    ·exact .inl ⟨zce ht,by omega⟩
    ·exact .inr ⟨by omega,ht⟩))
   refine ⟨k2,?_⟩
   rcases KK with ⟨rfl,hj4⟩ | ⟨rfl,hj4⟩
   ·refine .inl ⟨rfl,(.complex .f64 y1 y2),by rw[ze7];exact hj4,Hw.boxed KE (.inl ⟨rfl,by omega⟩),by rw[zrv];exact Kq.out,Hw.boxed KX (.inl ⟨rfl,by omega⟩),?_,Pm HD Hw.size⟩
    intro q u hq;have HX:=P1 wo q hq;obtain ⟨o,ho,hc⟩:=cells_of_cell (HW q u hq)
    exact Hw.cell (HW q u hq) (fun o' Kf=>by rw[ho] at Kf;cases Kf;exact .inl ⟨hc,by omega⟩)
   ·exact .inr ⟨rfl,by rw[ze7];exact hj4⟩
  have Fin:=T fin
  have hf:∀ Wx:World,Calls L 298 #[(.complex .f64 y1 y2)] Wx fun e w'=>e=.returned (.agg ((zaT (zas (zgk (0,0) H0) x)).map bv).toArray)∧Ext Wx w':=by
   intro Wx
   have:=zr4 y1 y2 Wx
   unfold zgN at this;rw[K4] at this
   exact this
  have HF:=T hf
  have Hr:Ext (W2.setCell ⟨W0.heap.size+1,0,G⟩ (.complex .f64 y1 y2)) (W2.setCell ⟨W0.heap.size+1,0,G⟩ (.complex .f64 y1 y2)).drew:=xD (xR _)
  clear fin hf k1 Ke Kd hx hJ hY
  refine zeV (by kernel_rfl) (by kernel_rfl) ?_
  refine tkF 1 ?_
  refine zlv (Read4 (⟨W0.heap.size+1,0,G⟩,.complex .f64 y1 y2) (⟨W0.heap.size+1,0,G⟩,.complex .f64 y1 y2) (⟨W0.heap.size,0,G⟩,.func (.yield l) #[] #[]) (⟨W0.heap.size,0,G⟩,.func (.yield l) #[] #[])) [3,4,5] (i:=2) (v:=?v2) rfl rfl (by kernel_rfl) (by kernel_rfl) (by kernel_rfl) (by kernel_rfl) (by kernel_rfl) (fun _ _ _ h=>h) (fun w o hw=>hw.alloc o) (⟨K9,K9,HO,HO⟩) (zuh rfl (fun w hw=>?h2) (fun w=>rfl)) ?r2
  case h2=>obtain ⟨g0,g1,g2,g3⟩:=hw;dsimp only at g0 g1 g2 g3;go_simp;try with_reducible rfl
  refine zqj (i:=0) (j:=3) (vi:=?va3) (f:=298) (args:=?vb3) (wi:=?wa3) (wj:=?wb3) (by kernel_rfl) rfl rfl rfl rfl rfl ?ha3 ?hb3 ?ra3 ?rb3
  case ha3=>go_simp;try (first | with_reducible rfl | (refine ⟨?_,?_⟩ <;> with_reducible rfl))
  case hb3=>go_simp;try (first | with_reducible rfl | (refine ⟨?_,?_⟩ <;> with_reducible rfl))
  case' ra3=>skip
  case' rb3=>skip
  ·refine (HF.out _).mono ?_
   rintro e W5 ⟨rfl,H6⟩;have He:=xT Hr H6;have J3:=He.cell HO
   refine ⟨_,rfl,?_⟩
   refine rnF 0 ?_
   refine zie (i:=4) rfl (by kernel_rfl) rfl rfl ?h5 ?r5
   case h5=>first | (intro f hf;exact trivial) | (intro f hf;cases hf)
   case' r5=>go_simp
   exact mcPiecesIta0
  ·skip
   refine zid (i:=3) (f:=298) (args:=?b10) (w':=?w10) (by kernel_rfl) rfl rfl ?h10 ?r10
   case h10=>go_simp;try (first | with_reducible rfl | (refine ⟨?_,?_⟩ <;> with_reducible rfl))
   refine (HF.out _).mono ?_
   rintro e W5 ⟨rfl,H6⟩;have He:=xT Hr H6
   refine ⟨_,rfl,?_⟩
   refine zie (i:=4) rfl (by kernel_rfl) rfl rfl ?h11 ?r11
   case h11=>first | (intro f hf;exact trivial) | (intro f hf;cases hf)
   case' r11=>go_simp
   exact mcPiecesIta0
 case done =>
  rintro D W hD ⟨zv,hj,hb,hp,hy,hh,hs⟩ hK
  have HY:Moves (zac (PcM n0) W0.heap.size) W (W.putObj D (.deferred none)):=Moves.refl.putObj (fun o ho=>.inr ⟨by omega,by rw[hK] at ho;cases ho;rfl⟩) _
  have HJ:=T (hJ _ _ _ hj HY);clear hj
  gi_wp2
  refine zi5 hK _ (results_none rfl _ _ _) ?_
  exact ⟨⟨_,rfl⟩,.inl HJ.out⟩
 case stop =>
  rintro D cd H0 W hD K3 ⟨rfl,hj⟩ hK
  have HY:Moves (zac (PcM n0) W0.heap.size) W (W.putObj D (.deferred none)):=Moves.refl.putObj (fun o ho=>.inr ⟨by omega,by rw[hK] at ho;cases ho;rfl⟩) _
  have HJ:=T (Ka _ _ _ hj HY)
  have HK:zbV (0,0) H0 <+: zbV (0,0) (zaO 4 t):=by
   obtain ⟨r,hr⟩:=K3
   rw[←hr,ze7];exact ⟨_,rfl⟩
  have HN:=T HK;clear hj HK
  gi_wp2
  refine zbO hK _ (results_none rfl _ _ _) ?_
  exact ⟨⟨_,rfl⟩,.inr ⟨_,HN.out,HJ.out⟩⟩
attribute [local go_sem] Pf
theorem zuK {W:World} {va vb vc:Value} {a b c:List UInt8} (ha:Bs W va a) (hb:Bs W vb b) (hc:Bs W vc c):Parts (W.alloc (C #[va,vb,vc] 33)) (E (I ⟨W.heap.size,0,G⟩) 3 3) [a,b,c]:=by
 refine ⟨[va,vb,vc],rfl,xW (zaG W [va,vb,vc] 33 3 rfl (by simp[maxLen]) (xN _)),fun i hi J9=>?_⟩
 match i,hi with
 | 0,_=>exact Bs.ext ha (xA (xR _) _)
 | 1,_=>exact Bs.ext hb (xA (xR _) _)
 | 2,_=>exact Bs.ext hc (xA (xR _) _)
theorem zn2 (A:Option Addr) (n c:Nat) (w:World):Calls L 282 #[E A n c] w fun e w'=>e=.returned (.func (.func 296) #[] #[M (I ⟨w.heap.size,0,G⟩)])∧w.alloc (C #[E A n c] 33)=w':=by
 go_enter Tryz.func282,Tryz.ntmps282
 go_wp2
 go_ret
 exact ⟨rfl,rfl⟩
def PsI (w:World) (H0:List (List UInt8×(Nat×Nat))) (X:World):Prop:=∃ v,Boxed X w.heap.size 33 v∧X.ownsRow w.heap.size 5 1 v (H0.flatMap zdu).length ((H0.flatMap zdu).map bv)∧Below w.heap.size w X
theorem zoJ (v:Value) (t:List UInt8) (w:World) (ht:Bs w v t) (Ha:t.length≤100000):Calls L 243 #[v] w (zhx w (zaH (0,0) t)):=by
 obtain ⟨A,c,rfl,h1,h2⟩:=xO ht
 refine (callsIn_wd (ro:=none) (n:=9)).1 ?_
 refine callsIn_of_wp_marks Tryz.func243 rfl trivial ?_ rfl
 simp only[Tryz.ntmps243,P9,xC,Pb,Pl,Pk,Po,Pn,Pa,P8,xI,P4];have HH:=znL (0,0) t;have HE:=zeD (0,0) t
 gi_wp2_with (refine ⟨trivial,?_⟩;gi_at_call 282;refine (callsIn_wd.2 (zn2 _ _ _ _)).mono ?_;rintro e w' ⟨rfl,rfl⟩)
 have qb:Boxed ((w.alloc (C #[E none 0 0] 33)).alloc (C #[E A t.length c] 33)) w.heap.size 33 (E none 0 0):=(Ph w _ _).alloc _
 have qt:Boxed ((w.alloc (C #[E none 0 0] 33)).alloc (C #[E A t.length c] 33)) (w.heap.size+1) 33 (E A t.length c):=by
  have:=Ph (w.alloc (C #[E none 0 0] 33)) 33 (E A t.length c)
  rwa [xS] at this
 have Hc:Ext w ((w.alloc (C #[E none 0 0] 33)).alloc (C #[E A t.length c] 33)):=xA (xA (xR _) _) _
 have KR:((w.alloc (C #[E none 0 0] 33)).alloc (C #[E A t.length c] 33)).heap.size=w.heap.size+2:=by simp
 have h0:PsI w [] ((w.alloc (C #[E none 0 0] 33)).alloc (C #[E A t.length c] 33)):=⟨_,qb,World.ownsRow_nil _ _ _ _,Hc⟩
 generalize (w.alloc (C #[E none 0 0] 33)).alloc (C #[E A t.length c] 33)=w2 at *
 refine zcy (a:=⟨_,_⟩) rfl (enters_of Tryz.func296 (by kernel_rfl) rfl)
  (fun W1 hb hs=>znM w W1 _ t ht (by omega) (fun q u hc=>Pe (xT Hc hb) hc) (w.heap.size+1) w.heap.size w2.heap.size (qt.kept (row:=none) (Pd hb none) (by simp)) hb.size (by omega) (xN _) (by have:=hb.size;omega))
  (fun k o h=>zce h.2) (fun k o h=>h.1) (fun x av W h=>by obtain ⟨u,rfl,_⟩:=h;rfl)
  (PsI w) (fun _ _ _=>False) ?hI (fun _ _ _ _ h _=>h) h0
  (fun x a' W=>∃ u q,Bs W u x.1∧x.1.length≤4∧Bs W (E (I ⟨q,0,G⟩) 4 4) (zaT x.2)∧a'=⟨#[E A t.length c,undef,M (I ⟨w.heap.size,0,G⟩),u,M (I ⟨q,0,G⟩),E A t.length c,.func (.func 296) #[] #[M (I ⟨w.heap.size+1,0,G⟩)],u,.agg ((zaT x.2).map bv).toArray,undef,undef,undef,undef,undef,undef],[]⟩)
  ?hAx ?assign ?body ?done ?stop
 case hI =>
  rintro s X Y ⟨v1,hv,hr,hB⟩ hm
  refine ⟨v1,hm.boxed hv ?_,hm.ownsRow hr ?_,hm.belowOf hB ?_ (xN _)⟩
  ·rintro (h | h)
   ·cases h.2
   ·cases h.2
  ·rintro k J1 _ (h | h)
   ·cases h.2
   ·cases h.2
  ·rintro k o hk (h | h)
   ·have:=h.1;omega
   ·have:=h.1;omega
 case hAx =>
  rintro x a' X Y ⟨u,q,hu,Hd,hq,rfl⟩ hm
  refine ⟨u,q,SlR.keep hu (fun q t hq=>hm.cell hq (fun o ho hc=>?_)),Hd,SlR.keep hq (fun q t hq=>hm.cell hq (fun o ho hc=>?_)),rfl⟩
  all_goals
   rintro (h | h)
   ·exact h
   ·rw[hc] at h;cases h.2
 case assign =>
  rintro l H0 x Hb W av K' hx hi K5 ⟨u,rfl,hu,Hd⟩ hK;obtain ⟨f0,f1,f2,f3,hf⟩:=zq4 x.2;rw[hf];have Hx:=T hx;have Hf:=T hf;clear hx hf;simp only[List.map_cons,List.map_nil,bv];obtain ⟨v1,hv,hr,hB⟩:=hi
  have Hi:Hid (PsI w H0 (W.alloc (C #[B U (f0.toNat:Int),B U (f1.toNat:Int),B U (f2.toNat:Int),B U (f3.toNat:Int)] 188))):=⟨v1,hv.alloc _,hr.alloc _,Below.alloc hB hB.size _⟩
  have Kb:Bs (W.alloc (C #[B U (f0.toNat:Int),B U (f1.toNat:Int),B U (f2.toNat:Int),B U (f3.toNat:Int)] 188)) (E (I ⟨W.heap.size,0,G⟩) 4 4) (zaT x.2):=by
   rw[Hf.out]
   exact zdZ (cs:=[f0,f1,f2,f3].map bv) (Blk.new W _ _) rfl (by simp[maxLen])
  have Kn:=T Kb
  have HU:Hid (Bs (W.alloc (C #[B U (f0.toNat:Int),B U (f1.toNat:Int),B U (f2.toNat:Int),B U (f3.toNat:Int)] 188)) u x.1):=Bs.ext hu (xA (xR _) _)
  clear Kb hu hv hr hB
  gi_wp2
  exact hK _ _ (Kept.refl.alloc _) Hi.out ⟨u,W.heap.size,HU.out,Hd,Kn.out,by rw[Hf.out];rfl⟩
 case body =>
  rintro l H0 x Hb a' W hx hl hr ⟨v1,hv,H1,hB⟩ K5 ⟨u,q,hu,Hd,hq,rfl⟩
  have Ki:(H0.flatMap zdu).length+(x.1.length+4)≤40000000:=by
   have:=congrArg (fun l=>(List.flatMap zdu l).length) hx
   simp only[HH,List.flatMap_append,P3,xL,zdu,zdn] at this;omega
  have Hs:(H0++[x]).flatMap zdu=H0.flatMap zdu++(x.1++zaT x.2):=by simp[zdu]
  have Kr:=T Hs;clear Hs hx HH HE
  generalize H0.flatMap zdu=Q at *
  obtain ⟨A1,H8,rfl,_,_⟩:=xO (xW H1);have Kj:=hu;obtain ⟨A2,Kv,rfl,_,_⟩:=xO hu;have hc:=hv.cell
  have Jd:Boxed W.drew w.heap.size 33 (E A1 Q.length H8):=hv
  have Kh:Parts (W.drew.alloc (C #[E A1 Q.length H8,E A2 x.1.length Kv,E (I ⟨q,0,G⟩) 4 4] 33)) (E (I ⟨W.heap.size,0,G⟩) 3 3) [Q,x.1,zaT x.2]:=zuK (W:=W.drew) (Bs.ext (xW H1:Bs W (E A1 Q.length H8) Q) (xD (xR _))) (Bs.ext Kj (xD (xR _))) (Bs.ext hq (xD (xR _)))
  have Hu:[Q,x.1,zaT x.2].flatten=Q++(x.1++zaT x.2):=by simp
  have Kt:=T Kh;have Hj:=T Hu
  have Hv:(zaT x.2).length=4:=zdn _
  have HQ:=T hB;clear Kh Hu hu Kj hq H1 hB
  gi_wp2
  refine zeV (by kernel_rfl) (by kernel_rfl) ?_
  refine tkF 1 ?_;refine tkF 2 ?_;refine rnF 0 ?_;refine rnF 3 ?_
  refine zid (i:=4) (f:=239) (args:=?b5) (w':=?w5) (by kernel_rfl) rfl rfl ?h5 ?r5
  case h5=>go_simp;try (first | with_reducible rfl | (refine ⟨?_,?_⟩ <;> with_reducible rfl))
  have Hg:=zjn _ _ _ Kt.out (by rw[Hj.out,xL,xL,Hv];omega);rw[Hj.out] at Hg
  refine Hg.mono ?_
  rintro e w1 ⟨v',rfl,Kg,H9⟩;obtain ⟨A3,K8,rfl,_,_⟩:=xO (xW Kg)
  have H7:Ext W w1:=xT (xA (xD (xR _)) _) H9
  have HM:Boxed w1 w.heap.size 33 (E A1 Q.length H8):=hv.kept (row:=none) (Pd H7 none) (by simp)
  have J2:=HM.cell;have J5:=HM.frozen
  refine ⟨_,rfl,?_⟩
  clear Hg;refine skF 5 ?_
  refine wpAnyIn_done (by kernel_rfl) (zea ?_) _
  simp only[Act.put,sA,sZ,sS]
  gi_wp2
  have Hh:(Q++(x.1++zaT x.2)).length=Q.length+(x.1.length+4):=by rw[xL,xL,Hv]
  have HA:w1.ownsRow w.heap.size 5 1 (E A3 (Q.length+(x.1.length+4)) K8) (Q++(x.1++zaT x.2)).length ((Q++(x.1++zaT x.2)).map bv):=by
   have h:=zaf Kg (base':=w.heap.size) (by have:=HQ.out.size;simp;omega)
   rw[Hh] at h ⊢
   exact h
  refine ⟨(Kept.refl.below H7 (xN _)).setCell (fun o ho _=>?_) _,_,HM.set _,?_,?_⟩
  ·rintro (⟨_,h⟩ | ⟨h,_⟩)
   ·exact h rfl
   ·have:w2.heap.size≤w.heap.size:=h
    omega
  ·rw[Kr.out]
   exact HA.kept (grownBy_setCell' w1 w.heap.size (E A3 (Q.length+(x.1.length+4)) K8)) (.inr (HM.not_row (by decide) HA).symm)
  ·exact (Below.trans HQ.out (H7.mono HQ.out.size)).setCell (p:=⟨w.heap.size,0,G⟩) (xN _) _
 case done =>
  rintro D W hD ⟨v1,hv,H1,hB⟩ hK;rw[HH] at H1;obtain ⟨q,hq⟩:∃ q,zaH (0,0) t=q:=⟨_,rfl⟩;rw[hq] at H1;have Hq:=T hq;clear HH hq HE;obtain ⟨A1,H8,rfl,_,_⟩:=xO (xW H1);have hc:=hv.cell;have hf:=hv.frozen
  gi_wp2
  have HB:=H1.kept (grownBy_setCell' W w.heap.size (E A1 q.length H8)) (.inr (hv.not_row (by decide) H1).symm);have KU:=hv.set (E A1 q.length H8);have HS:=zaA hK rfl ⟨w.heap.size,0,G⟩ (E A1 q.length H8);have KH:=zcL KU.cell HS rfl (.deferred none)
  refine zbO HS (E A1 q.length H8) (by simp[results,Tryz.results243,go_sem,KH]) ⟨_,rfl,by rw[Hq.out];exact ownsRow_putObj HB (.deferred none) HS rfl,?_⟩
  exact zaN (hB.setCell (p:=⟨w.heap.size,0,G⟩) (xN _) _) (by omega) _
 case stop =>
  rintro D c H0 W _ _ h _
  exact h.elim
end Go.Proofs.YteggfecbjgbndaaGreatDoor

namespace Go.Mv
open Go.RowKit
section
variable {P:Program} {ops:Array Oper} {Q:Exit→Act→World→Prop} {md:Region.Mode} {S:World→Prop}
theorem AllReadyH.two {fuel:Nat} {listed:Array Bool} {a:Act} {w:World} {i j:Nat} {o o2:Oper} (ho:ops.toList[i]?=I o) (KO:ops.toList[j]?=I o2) (hr:Region.ready md ops listed=[i,j]) (hw:Region.wanted o (yielded ops a.tmps)=true) (KV:Region.wanted o2 (yielded ops a.tmps)=true)
  (h:∀ K':Act→World→Prop,Shut (∀ a w,S w→(S w→wpAnyH P md ops Q S fuel (listed.setIfInBounds i true) a w)→K' a w)→Pg P o a w K' Q)
  (h2:∀ K':Act→World→Prop,Shut (∀ a w,S w→(S w→wpAnyH P md ops Q S fuel (listed.setIfInBounds j true) a w)→K' a w)→Pg P o2 a w K' Q):wpAnyH P md ops Q S (fuel+1) listed a w :=
 wpAnyH_ready hr (by simp) (AllReadyH.cons (by simpa using ho) (fun K hK=>by rw[if_pos hw];exact h K hK) (AllReadyH.cons (by simpa using KO) (fun K hK=>by rw[if_pos KV];exact h2 K hK) AllReadyH.nil))
end
end Go.Mv
namespace Go.Proofs.YteggfecbjgbndaaGreatDoor
open Go.RowKit Go.Mv
theorem is5 (W:World) (a b c d e:Int):Is (W.alloc (C #[B F a,B F b,B F c,B F d,B F e] 3)) (E (I ⟨W.heap.size,0,G⟩) 5 5) [a,b,c,d,e] :=
 xW (zaG W [B F a,B F b,B F c,B F d,B F e] 3 5 rfl (by simp[maxLen]) (xN _))
theorem ztH (s:Sta) (w:World) (h:s.ok=true):Calls L 242 #[V #[B F s.idx,B F s.term,B F s.sum,B F s.lvl,O s.fin]] w (zgy w s.ints):=by
 have H:=T h;have Hn:=T (Sta.nums h)
 have Hi:Hid (s.ints=[s.idx,s.term,s.sum,s.lvl,s.finI]):=rfl
 clear h;have hb:=Blk.new w 41 #[B F s.idx,B F s.term,B F s.sum,B F s.lvl,O s.fin]
 go_enter Tryz.func242,Tryz.ntmps242
 go_wp2_with fail
 refine (zdV s _).mono ?_
 rw[H.out];rintro e w1 ⟨rfl,H9⟩;go_wp2_with fail
 have hX:Ext w (w.alloc (C #[B F s.idx,B F s.term,B F s.sum,B F s.lvl,O s.fin] 41)):=xA (xR _) _
 refine wp_region_held_drew (S:=fun w'=>w'.cell? ⟨w.heap.size,0,G⟩=I (B F s.idx)∧w'.cell? ⟨w.heap.size,1,G⟩=I (B F s.term)∧w'.cell? ⟨w.heap.size,2,G⟩=I (B F s.sum)∧w'.cell? ⟨w.heap.size,3,G⟩=I (B F s.lvl)∧w'.cell? ⟨w.heap.size,4,G⟩=I (O s.fin)) (by kernel_rfl) (zaa (hb.ext (xD H9))) (fun _=>?_)
 refine tkN 0 ?_;refine tkN 1 ?_;refine tkN 2 ?_;refine tkN 3 ?_;refine tkN 4 ?_;refine tkN 5 ?_;refine tkN 6 ?_;refine tkN 7 ?_;refine tkN 8 ?_
 refine ar1 9 (fun K hK=>?_)
 go_simp
 refine (zq3 s _).mono ?_
 rintro e w2 ⟨rfl,Hc⟩
 have H3:Ext (w.alloc (C #[B F s.idx,B F s.term,B F s.sum,B F s.lvl,O s.fin] 41)) w2:=xT (xD H9) Hc
 try (go_wp2_with fail)
 refine shK hK _ _ (zaa (hb.ext H3)) (fun _=>?_)
 refine ar1 10 (fun K hK=>?_)
 go_simp
 refine shK hK _ _ (zaa (hb.ext (xA H3 _))) (fun _=>?_)
 refine ar1 11 (fun K hK=>?_)
 go_simp
 refine (zlQ _ _ _ (is5 w2 s.idx s.term s.sum s.lvl s.finI) (by rw[←Hi.out];exact Hn.out) (by simp)).mono ?_
 rw[←Hi.out];rintro e w4 ⟨v,rfl,ho,HR⟩
 try (go_wp2_with fail)
 have Ho:=xT (xA H3 (C #[B F s.idx,B F s.term,B F s.sum,B F s.lvl,B F s.finI] 3)) HR
 refine shK hK _ _ (zaa (hb.ext Ho)) (fun _=>?_)
 refine tkN 12 ?_;refine tkN 13 ?_;refine tkN 14 ?_;refine tkN 15 ?_;refine wdD ?_;go_wp2_with fail
 go_ret2
 exact ⟨v,rfl,zaf ho (xT hX (xA H3 _)).size,xT hX Ho⟩
theorem zvi (W:World) (a b c:Int):Is (W.alloc (C #[B F a,B F b,B F c] 3)) (E (I ⟨W.heap.size,0,G⟩) 3 3) [a,b,c] :=
 xW (zaG W [B F a,B F b,B F c] 3 3 rfl (by simp[maxLen]) (xN _))
def zfD (s:Sta):List UInt8:=zaY rT (1::(zbr [s.idx,s.term,s.sum]++[P0 s.lvl.toNat,P0 s.finI.toNat]))
theorem bs2 (W:World) (a b:UInt8):Bs (W.alloc (C #[bv a,bv b] 5)) (E (I ⟨W.heap.size,0,G⟩) 2 2) [a,b] :=
 xW (zaG W [bv a,bv b] 5 2 rfl (by simp[maxLen]) (xN _))
def zbb (s:Sta):List UInt8:=2::P0 (((zao s.ints).length+3) / 4)::zaH (0,0) (zao s.ints)
theorem zrw (s:Sta) (w:World) (h:s.ok=true):Calls L 241 #[V #[B F s.idx,B F s.term,B F s.sum,B F s.lvl,O s.fin]] w fun e w'=>∃ A c,e=.returned (E A (zbb s).length c)∧OwnB w' w.heap.size (E A (zbb s).length c) (zbb s)∧Ext w w':=by
 obtain ⟨t,ht⟩:∃ t,zao s.ints=t:=⟨_,rfl⟩
 have Hz:t.length≤25:=by subst ht;exact zcj s.ints
 have Ks:=T h;have Ht:=T ht
 have Hl:Hid (t.length≤25):=Hz
 obtain ⟨yn,K7⟩:∃ x,P0 ((t.length+3) / 4)=x:=⟨_,rfl⟩
 have Hy:Hid (wrap64 ((wrap64 ((t.length:Int)+3)).tdiv 4) % 256=(yn.toNat:Int)):=by
  have e1:wrap64 ((t.length:Int)+3)=((t.length+3:Nat):Int):=by unfold wrap64;omega
  have e2:((t.length+3:Nat):Int).tdiv 4=(((t.length+3) / 4:Nat):Int):=rfl
  have e3:wrap64 (((t.length+3) / 4:Nat):Int)=(((t.length+3) / 4:Nat):Int):=by unfold wrap64;omega
  rw[Hid,e1,e2,e3,←K7]
  simp
 have HN:Hid (zbb s=[2,yn]++zaH (0,0) t):=by rw[Hid,zbb,ht,K7];rfl
 clear h ht Hz K7
 have hX:Ext w (w.alloc (C #[B F s.idx,B F s.term,B F s.sum,B F s.lvl,O s.fin] 41)):=xA (xR _) _
 go_enter Tryz.func241,Tryz.ntmps241
 go_wp2_with fail
 refine (ztH s _ Ks.out).mono ?_
 rintro e w1 ⟨v,rfl,ho,H9⟩;rw[Ht.out] at ho;obtain ⟨Av,cv,rfl,-,-⟩:=xO (xW ho);go_wp2_with fail;rw[Hy.out]
 have Hk:Ext w w1:=xT hX H9
 have HZ:=zaG w1 [bv 2,bv yn] 5 2 rfl (by simp[maxLen]) Hk.size
 have K1:OwnB (w1.alloc (C #[bv 2,bv yn] 5)) w.heap.size (E (I ⟨w1.heap.size,0,G⟩) 2 2) [2,yn]:=HZ
 refine (zoJ _ t _ (Bs.ext (xW ho) (xA (xR _) _)) (by have:=Hl.out;omega)).mono ?_
 rintro e w3 ⟨v3,rfl,K0,HG⟩
 have Hp:Ext w w3:=xT (xA Hk _) HG
 have Ki:=zeD (0,0) t
 have Ku:Hid ((zaH (0,0) t).length≤100):=by have:=Hl.out;rw[Hid];omega
 clear Ki
 go_wp2_with (
  refine zaX rfl (.tmp 15) (.tmp 17) rfl w.heap.size _ [2,yn] rfl (OwnB.ext K1 HG) _ (zaH (0,0) t) rfl (xW K0) (by have:=Ku.out;simp;omega) Hp.size ?_
  intro A4 c4 w4 KP KI)
 go_ret;have HR:=KI w Hp (xN _)
 have e1:zbb s=[2,yn]++zaH (0,0) t:=HN.out
 have e2:(zbb s).length=([2,yn]:List UInt8).length+(zaH (0,0) t).length:=by rw[e1,xL]
 rw[e2,e1]
 exact ⟨A4,c4,rfl,KP,HR⟩
theorem ziD (P:Program) (w:World) (a:Addr) (m:Mode):(store a .nilFunc m).run P w=stored P w a .nilFunc m:=run_store P w a _ m rfl
theorem zkn (P:Program) (w:World) (a:Addr) (m:Mode) (f:Fn) (x y:Array Value):(store a (.func f x y) m).run P w=stored P w a (.func f x y) m:=run_store P w a _ m rfl
attribute [local go_sem] ziD zkn
def ztx:Value:=V #[.nilFunc,.func (.func 237) #[] #[],.func (.func 241) #[] #[]]
theorem zs3 (w:World):Calls L 206 #[] w fun e w'=>e=.returned ztx∧Ext w w':=by
 go_enter Tryz.func206,Tryz.ntmps206
 go_wp2
 refine bodyPost_ret (results_cell_row rfl _ _ _ 250 _ _ _ rfl (heap_alloc_new _ _) Tryz.underlying250 rfl (by kernel_rfl)) rfl ⟨rfl,xA (xR _) _⟩
theorem zs4 (w:World):(Instr.index 250 (V #[.nilFunc,.func (.func 237) #[] #[],.func (.func 241) #[] #[]]) (B F 2)).run L w=.ok (.func (.func 241) #[] #[]) w:=by kernel_rfl
def zoK (w:World) (l:List UInt8) (e:Ending) (w':World):Prop:=∃ A c,e=.returned (.tuple #[E A l.length c,B F 0])∧OwnB w' w.heap.size (E A l.length c) l∧Ext w w'
theorem ztD (s:Sta) (w:World) (h:s.ok=true) (hT:TabW rT w):Calls L 151 #[V #[B F s.idx,B F s.term,B F s.sum,B F s.lvl,O s.fin],B F 2] w (zoK w (zbb s)):=by
 have J6:=zs4;have H:=T h;have HT:=T hT;clear h hT;have hb:=Blk.new w 41 #[B F s.idx,B F s.term,B F s.sum,B F s.lvl,O s.fin]
 have hX:Ext w (w.alloc (C #[B F s.idx,B F s.term,B F s.sum,B F s.lvl,O s.fin] 41)):=xA (xR _) _
 go_enter Tryz.func151,Tryz.ntmps151
 go_wp2_with fail
 refine (zdV s _).mono ?_
 rw[H.out];rintro e w1 ⟨rfl,H9⟩;go_wp2_with fail
 refine wp_region_held_drew (S:=fun w'=>w'.cell? ⟨w.heap.size,0,G⟩=I (B F s.idx)∧w'.cell? ⟨w.heap.size,1,G⟩=I (B F s.term)∧w'.cell? ⟨w.heap.size,2,G⟩=I (B F s.sum)∧w'.cell? ⟨w.heap.size,3,G⟩=I (B F s.lvl)∧w'.cell? ⟨w.heap.size,4,G⟩=I (O s.fin)) (by kernel_rfl) (zaa (hb.ext (xD H9))) (fun _=>?_)
 refine tkN 1 ?_;refine tkN 3 ?_
 refine ar1 0 (fun K hK=>?_)
 go_simp
 refine (zs3 _).mono ?_
 rintro e w2 ⟨rfl,Hc⟩;unfold ztx
 try (go_wp2_with fail)
 have H3:Ext (w.alloc (C #[B F s.idx,B F s.term,B F s.sum,B F s.lvl,O s.fin] 41)) w2:=xT (xD H9) Hc
 refine shK hK _ _ (zaa (hb.ext H3)) (fun _=>?_)
 refine tkN 2 ?_
 refine ar1 4 (fun K hK=>?_)
 go_simp
 refine (zrw s _ H.out).mono ?_
 rintro e w3 ⟨A3,c3,rfl,K0,HG⟩
 try (go_wp2_with fail)
 have Hm:=xT H3 HG
 refine shK hK _ _ (zaa (hb.ext Hm)) (fun _=>?_)
 refine tkN 5 ?_;refine tkN 6 ?_;refine wdD ?_;go_wp2_with fail
 go_ret2
 exact ⟨A3,c3,rfl,zaf K0 (xT hX H3).size,xT hX Hm⟩
open Go.RowKit Go.Mv Go.Shelf
attribute [local go_sem] Pf
def zcT:Nat→List Int→List UInt8→Option (List Int)
 | 0,H4,_=>some H4
 | k+1,H4,b=>if (zah (b.take 5)).1=0 then zcT k (H4++[((zah (b.take 5)).2.1:Int)]) (b.drop 5) else none
def zhZ (b:List UInt8):Option (List Int):=if b.length=22 then (zcT 3 [] (b.drop 1)).map (·++[((b.getD 16 0).toNat:Int),((b.getD 17 0).toNat:Int)]) else none
attribute [local go_sem] Pf
def zcw (b:List UInt8):List UInt8:=(zaO 8 (b.drop 2)).flatMap fun p=>p.take (p.length-4)
def zmz (b:List UInt8):Option (List Int):=if b.length<2 then none else if (zap 5 [] (zcw b)).1=0 then some (zap 5 [] (zcw b)).2.1 else none
def zgV (p:List UInt8):List UInt8:=p.take (p.length-4)
theorem zpa:∀ (b:List UInt8),((zaO 8 b).flatMap zgV).length≤b.length:=by
 intro b
 generalize hn:b.length=n
 induction n using Pj generalizing b with
 | _ n ih =>
  subst hn
  rcases Pi b.length with h | h
  ·rw[P2 h,zd8];simp
  ·rw[zdJ 8 b (by omega) h,P3,xL]
   have h1:=ih (b.drop 8).length (by simp;omega) (b.drop 8) rfl
   have h2:(zgV (b.take 8)).length≤(b.take 8).length:=by unfold zgV;simp
   have h3:(b.take 8).length+(b.drop 8).length=b.length:=by rw[←xL,List.take_append_drop]
   omega
def zpM (b:List UInt8) (f:Int):Option (List Int):=if f=2 then zmz b else zhZ b
theorem znD (l:List Int) (h:zau l=true):∀ (H4:List Int) (r:List UInt8),zcT l.length H4 (zbr l++r)=I (H4++l):=by
 induction l with
 | nil=>intro H4 r;simp[zcT]
 | cons n l ih =>
  intro H4 r
  have hn:0≤n∧n≤1073741824:=ze6 (k:=0) h (by simp)
  have hl:zau l=true:=by
   simp[zau] at h ⊢
   exact h.2
  have e1:zbr (n::l)++r=zcH n.toNat++(zbr l++r):=by simp[zbr]
  have e2:(zcH n.toNat++(zbr l++r)).take 5=zcH n.toNat:=by rw[List.take_append_of_le_length (by rw[zcZ];omega),←zcZ n.toNat,List.take_length]
  have e3:(zcH n.toNat++(zbr l++r)).drop 5=zbr l++r:=by rw[←zcZ n.toNat,List.drop_left]
  have e4:=zmV n.toNat (by omega) [];rw[Pc] at e4;rw[e1,xC,zcT,e2,e4,e3];dsimp only;rw[if_pos rfl,ih hl,Int.toNat_of_nonneg hn.1]
  simp
theorem zkQ (s:Sta) (h:s.ok=true):zhZ (zfD s)=I s.ints:=by
 obtain ⟨h1,h2,h3,h4⟩:=Sta.okP h
 have hn:zau [s.idx,s.term,s.sum]=true:=by simp[zau,h1,h2,h3]
 obtain ⟨u,hu,KT⟩:∃ u,zfD s=1::(zbr [s.idx,s.term,s.sum]++([P0 s.lvl.toNat,P0 s.finI.toNat]++u))∧u.length=4:=by
  refine ⟨_,?_,zfX (zcb rT 0 (1::(zbr [s.idx,s.term,s.sum]++[P0 s.lvl.toNat,P0 s.finI.toNat])))⟩
  unfold zfD zaY
  simp
 have Hh:(zbr [s.idx,s.term,s.sum]).length=15:=by rw[zhV];rfl
 have Ha:(zfD s).length=22:=by rw[hu];simp[Hh,KT]
 have key:zcT 3 [] (zbr [s.idx,s.term,s.sum]++([P0 s.lvl.toNat,P0 s.finI.toNat]++u))=I ([]++[s.idx,s.term,s.sum]):=znD [s.idx,s.term,s.sum] hn [] ([P0 s.lvl.toNat,P0 s.finI.toNat]++u)
 have Kw:(zfD s).getD 16 0=P0 s.lvl.toNat:=by
  rw[hu,P6,P7,P5 (by rw[Hh];omega),Hh];rfl
 have Kx:(zfD s).getD 17 0=P0 s.finI.toNat:=by
  rw[hu,P6,P7,P5 (by rw[Hh];omega),Hh];rfl
 unfold zhZ;rw[if_pos Ha,Kw,Kx];rw[hu]
 show ((zcT 3 [] (zbr [s.idx,s.term,s.sum]++([P0 s.lvl.toNat,P0 s.finI.toNat]++u))).map _)=_
 rw[key]
 have el:((P0 s.lvl.toNat).toNat:Int)=s.lvl:=by rcases h4 with e | e <;> rw[e] <;> rfl
 have ef:((P0 s.finI.toNat).toNat:Int)=s.finI:=by rcases s.finP with e | e <;> rw[e] <;> rfl
 rw[el,ef];rfl
theorem zk6 (b:List UInt8):(zaO 8 b).flatMap (fun p=>p.take (p.length-4))=zgs b:=by
 generalize hn:b.length=n
 induction n using Pj generalizing b with
 | _ n ih =>
  rcases Pi b.length with h | h
  ·have:b=[]:=P2 h
   subst this;rw[zd8,zjk];rfl
  ·rw[zdJ 8 b (by omega) h,zic b h,P3,ih (b.drop 8).length (by simp;omega) (b.drop 8) rfl]
theorem zrx (s:Sta) (h:s.ok=true):zmz (zbb s)=I s.ints:=by
 have e1:zcw (zbb s)=zao s.ints:=by
  unfold zcw zbb;rw[zk6]
  exact zj3 (0,0) _
 have e2:zap 5 [] (zao s.ints)=(0,[]++s.ints,[]):=by
  have:=zgr s.ints (Sta.nums h) [] []
  rw[Pc] at this
  exact this
 unfold zmz;rw[if_neg (by unfold zbb;simp),e1,e2];rfl
def zfa (l:List Int):Sta:=⟨l.getD 0 0,l.getD 1 0,l.getD 2 0,l.getD 3 0,l.getD 4 0==1⟩
theorem zfb (s:Sta):zfa s.ints=s:=by
 obtain ⟨i,t,u,l,b⟩:=s
 cases b <;> rfl
def zeu (s:Sta) (f:Int):Option (List UInt8):=if s.ok=true then (if f=1 then some (zfD s) else if f=2 then some (zbb s) else none) else none
def zu9 (w:World) (r:Option (List UInt8)) (e:Ending) (w':World):Prop:=match r with | some l=>zoK w l e w' | none=>zi0 w e w'
theorem zn6 (k:Nat):∀ (H4:List Int) (bs:List UInt8),(zap k H4 bs).1=0→(zap k H4 bs).2.1.length=H4.length+k:=by
 induction k with
 | zero=>intro H4 bs _;rfl
 | succ k ih =>
  intro H4 bs h
  unfold zap at h ⊢
  split at h
  ·rename_i h0
   rw[if_pos h0,ih _ _ h]
   simp;omega
  ·rename_i h0
   exact absurd h h0
def zeE (b:List UInt8) (f:Int):Option Sta :=
 match zpM b f with
 | none=>none
 | some l=>match zeu (zfa l) f with
  | none=>none
  | some c=>if b=c then some (zfa l) else none
def staZ:Sta:=⟨0,0,0,0,false⟩
def zuR (w:World) (r:Option Sta) (e:Ending) (w':World):Prop :=
 (match r with
 | some s=>e=.returned (.tuple #[V #[B F s.idx,B F s.term,B F s.sum,B F s.lvl,O s.fin],B F 0])
 | none=>e=.returned (.tuple #[V #[B F 0,B F 0,B F 0,B F 0,O false],B F 11]))∧Ext w w'
theorem zbJ {W:World} {b:Nat} {t:TypeId} {cs:Array Value} (h:Blk W b t cs):W.frozen? ⟨b,0,G⟩=false∧W.frozen? ⟨b,1,G⟩=false∧W.frozen? ⟨b,2,G⟩=false∧W.frozen? ⟨b,3,G⟩=false∧W.frozen? ⟨b,4,G⟩=false :=
 ⟨h.frozen 0,h.frozen 1,h.frozen 2,h.frozen 3,h.frozen 4⟩
theorem za2 {W:World} {b:Nat} {t:TypeId} {a v u x y:Value} (h:Blk W b t #[a,v,u,x,y]) (a' v' u' x' y':Value):Blk (((((W.setCell ⟨b,0,G⟩ a').setCell ⟨b,1,G⟩ v').setCell ⟨b,2,G⟩ u').setCell ⟨b,3,G⟩ x').setCell ⟨b,4,G⟩ y') b t #[a',v',u',x',y'] :=
 ((((h.set 0 a').set 1 v').set 2 u').set 3 x').set 4 y'
theorem za3 {w W:World} (h:Ext w W) {b:Nat} (hb:w.heap.size≤b) (a' v' u' x' y':Value):Ext w (((((W.setCell ⟨b,0,G⟩ a').setCell ⟨b,1,G⟩ v').setCell ⟨b,2,G⟩ u').setCell ⟨b,3,G⟩ x').setCell ⟨b,4,G⟩ y') :=
 ((((Below.setCell h hb a').setCell hb v').setCell hb u').setCell hb x').setCell hb y'
theorem zhH {W:World} {b q k:Nat} {z:Value} (h:W.cell? ⟨q,k,G⟩=I z) (KN:b≠q) (a' v' u' x' y':Value):(((((W.setCell ⟨b,0,G⟩ a').setCell ⟨b,1,G⟩ v').setCell ⟨b,2,G⟩ u').setCell ⟨b,3,G⟩ x').setCell ⟨b,4,G⟩ y').cell? ⟨q,k,G⟩=I z:=by
 have hn:some q≠some b:=fun e=>KN (by cases e;rfl)
 exact zbw (zad _ b 4 y') (zbw (zad _ b 3 x') (zbw (zad _ b 2 u') (zbw (zad _ b 1 v') (zbw (zad _ b 0 a') h hn) hn) hn) hn) hn
theorem zvf {l:List Int} (h:l.length=5):∃ a b c d e,l=[a,b,c,d,e]:=by
 match l,h with
 | [a,b,c,d,e],_=>exact ⟨a,b,c,d,e,rfl⟩
theorem zs2 (s:Sta):(zbb s).length=2+((zao s.ints).length+((zao s.ints).length+3) / 4*4):=by
 unfold zbb;rw[xC,xC,zeD];omega
theorem zjY {b:List UInt8} {f:Int} {s:Sta} (h:zeE b f=I s):s.ok=true∧((f=1∧b=zfD s)∨(f=2∧b=zbb s))∧zeu s f=I b:=by
 unfold zeE at h
 cases hr:zpM b f with
 | none=>rw[hr] at h;cases h
 | some l =>
  rw[hr] at h;dsimp only at h
  cases hp:zeu (zfa l) f with
  | none=>rw[hp] at h;cases h
  | some c =>
   rw[hp] at h;dsimp only at h
   split at h
   ·rename_i hbc
    cases h
    have HK:=hp;unfold zeu at hp
    split at hp
    ·rename_i hok
     refine ⟨hok,?_,by rw[HK,hbc]⟩
     split at hp
     ·rename_i h1;cases hp;exact .inl ⟨h1,hbc⟩
     ·split at hp
      ·rename_i h2;cases hp;exact .inr ⟨h2,hbc⟩
      ·cases hp
    ·cases hp
   ·cases h
theorem zrQ {b:List UInt8} {f:Int} {s:Sta} (h:zeu s f=I b):zeE b f=I s:=by
 have h0:=h;unfold zeu at h
 split at h
 ·rename_i hok
  unfold zeE zpM
  split at h
  ·rename_i h1
   cases h
   subst h1;rw[if_neg (by decide),zkQ s hok];dsimp only;rw[zfb,h0];dsimp only;rw[if_pos rfl]
  ·split at h
   ·rename_i h1 h2
    cases h
    subst h2;rw[if_pos rfl,zrx s hok];dsimp only;rw[zfb,h0];dsimp only;rw[if_pos rfl]
   ·cases h
 ·cases h
def sW:Sta:=⟨0,0,0,1,false⟩
theorem zth:zao sW.ints=[0,0,0,1,0]:=by decide
theorem zuQ:(zbb sW).length=15:=by rw[zs2,zth];rfl
end Go.Proofs.YteggfecbjgbndaaGreatDoor
