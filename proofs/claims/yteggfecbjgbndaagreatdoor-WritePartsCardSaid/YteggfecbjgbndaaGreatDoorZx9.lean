/- Merged -/
import Derived.Test.YteggfecbjgbndaaGreatDoorZx7
import Derived.Test.YteggfecbjgbndaaGreatDoorZx8
import Derived.StillTailTactics
import Derived.Laws.Rows
set_option linter.all false
set_option maxHeartbeats 8000000
set_option maxRecDepth 100000
open List renaming length->L
open Go.Value renaming slice->E,int->F
open Option renaming none->G,some->I
open Go.IntKind renaming i64->H
open Go.Obj renaming cells->J
open Go.Mv renaming aN->K
open Go.World renaming block_lt_of_cell?->P0,ownsRow_nil->P1,cell?_of_block->P2,cell?->P3
open Array renaming getElem?_eq_some_iff->P4
open Go.Mv.Ext renaming grown->P5
open Go.Boxed renaming new->P6,kept->P7
open List renaming eq_nil_of_length_eq_zero->P8,length_take->P9,length->Pa
namespace Go.Proofs.YteggfecbjgbndaaGreatDoor
open Go.RowKit Go.Mv Go.Shelf
theorem mcTakena0{P:Prop}(h:P:=by
 gi_wp2;have Ha:(w1.setCell ⟨w.heap.size,0,G⟩ (E none 0 0)).cell? ⟨w.heap.size,0,G⟩=I (E none 0 0):=(Hd.set _).cell;refine fp (.tuple #[E none 0 0,F H 0]) (by simp[results,Tryz.results371,go_sem,Ha]) ?_;rw[Hb.out,if_neg (λh=>HX.out h.1)];exact⟨_,rfl,P1 _ _ _ _,Below.setCell (p:=⟨w.heap.size,0,G⟩) Hj (xN _) _⟩):P:=h
attribute [local go_sem] Oper.semAt_some
theorem ic:(Tryz.prog.info? 54).map (λi=>(i.zero,i.size,i.bytes))=I (some (.agg #[F H 0,F H 0,F H 0]),3,24):=by kernel_rfl
def fP(bs:List UInt8):List Ent×Nat:=match dO bs with | none=>([],0) | some x=>(x.1,L bs-L x.2)
def N1(w:World)(r:List Ent×Nat)(e:Ending)(w':World):Prop:=∃v,e=.returned (.tuple #[v,F H r.2])/\w'.ownsRow w.heap.size 54 3 v r.1.length (ax r.1)/\Ext w w'
theorem is3{w:World}{b f a c d:_}(h:Is w (E (I ⟨b,f,G⟩) 3 3) [a,c,d]):w.cell? ⟨b,f,G⟩=I (F H a)/\w.cell? ⟨b,f+1,G⟩=I (F H c)/\w.cell? ⟨b,f+2,G⟩=I (F H d):=by
 obtain⟨_,A,c',e,_,_,h3⟩:=h;cases e;obtain⟨f,H0,e',hc⟩:=h3 (by simp);cases e';exact⟨hc 0 _ rfl,hc 1 _ rfl,hc 2 _ rfl⟩
theorem PF{w:World}{b e:Nat}{a c d:Int}(g:w.cell? ⟨b,e,G⟩=I (F H a))(h1:w.cell? ⟨b,e+1,G⟩=I (F H c))(h2:w.cell? ⟨b,e+2,G⟩=I (F H d)):Is w (E (I ⟨b,e,G⟩) 3 3) [a,c,d]:=by
 refine⟨rfl,_,3,rfl,xN _,by simp[maxLen],λ_=>⟨b,e,rfl,λj u f=>?_⟩⟩;match j with
 |0=>cases f;exact g
 |1=>cases f;exact h1
 |2=>cases f;exact h2
 |j+3=>simp at f
theorem ra(l:List Int):L l<=L (aF l):=by
 induction l with
 |nil=>exact xN _
 |cons n l ih=>
  have h:=(zm n.toNat).1;rw[show aF (n::l)=cO n.toNat++aF l from rfl,xL,xC];omega
def TkI(w e:World)(d:List Ent)(X:World):Prop:=
 ∃v,Boxed X w.heap.size 42 v/\X.ownsRow e.heap.size 54 3 v d.length (ax d)/\Below w.heap.size w X/\(∀p u,p.block≠w.heap.size->e.cell? p=I u->X.cell? p=I u)
theorem MN(v:Value)(bs:List UInt8)(w:World)(Hz:Bs w v bs)(hl:L bs<=140737488355328):Calls Tryz.prog 371 #[v] w (N1 w (fP bs)):=by
 obtain⟨A,c,rfl,h1,h2⟩:=xO Hz;refine(callsIn_wd (ro:=none) (n:=9)).1 ?_;refine callsIn_of_wp_marks Tryz.func371 rfl trivial ?_ rfl;simp only[Tryz.ntmps371,List.size_toArray,xC,List.length_nil,Nat.reduceAdd,Nat.reduceSub,Array.replicate_succ,Array.replicate_zero,List.push_toArray,List.append_toArray,xI,List.cons_append];by_cases h0:L bs=0
 ·have hb:bs=[]:=P8 h0;subst hb;gi_wp2;have Ha:(w.alloc (J #[E none 0 0] 42)).cell? ⟨w.heap.size,0,G⟩=I (E none 0 0):=(P6 w _ _).cell;refine fp (.tuple #[E none 0 0,F H 0]) (by simp[results,Tryz.results371,go_sem,Ha]) ?_;exact⟨_,rfl,P1 _ _ _ _,(xA (xR _) _)⟩
 obtain⟨_,b,U,rfl,hc⟩:=Bs.at_ Hz (by omega);have K1:w.cell? ⟨b,U,G⟩=I (F .u8 (bs[0].toNat:Int)):=hc 0 (by omega);obtain⟨x,l,rfl⟩:∃x l,bs=x::l:=by cases bs with | nil=>exact absurd rfl h0 | cons x l=>exact⟨x,l,rfl⟩
 simp only[List.getElem_cons_zero]at K1;have Kc:b<w.heap.size:=P0 w _ K1;have K7:=K Hz;have e0:((L l:Int)+1==0)=false:=by simp;omega
 clear hc Hz h0;simp only[xC]at *;have hx:=x.toNat_lt;by_cases hx0:x.toNat=0\/4<x.toNat
 ·have ht:fP (x::l)=([],0):=by unfold fP;rw[dO,if_pos hx0]
  have Ht:=K ht;clear ht;gi_wp2
  all_goals
   have Ha:(w.alloc (J #[E none 0 0] 42)).cell? ⟨w.heap.size,0,G⟩=I (E none 0 0):=(P6 w _ _).cell;refine fp (.tuple #[E none 0 0,F H 0]) (by simp[results,Tryz.results371,go_sem,Ha]) ?_;rw[Ht.out];exact⟨_,rfl,P1 _ _ _ _,(xA (xR _) _)⟩
 ·have Ku:0<x.toNat:=by omega
  have Kv:x.toNat<=4:=by omega
  have e1:((x.toNat:Int)==0)=false:=by simp;omega
  have HK:=K7.out;have HT:Hid (∀(W:World) (u:Value),Bs W u l->Calls Tryz.prog 79 #[u,F H (3*(x.toNat:Int))] W (ir W (ao (3*x.toNat) [] l))):=by
   intro W u R;have:=iN u l (3*x.toNat) (hm:=by omega) W R (by omega);rwa[show((3*x.toNat:Nat):Int)=3*(x.toNat:Int)from by omega]at this
  have Hb:Hid (fP (x::l)=if(ao (3*x.toNat) [] l).1=0/\bQ (dx (ao (3*x.toNat) [] l).2.1)=true then(dx (ao (3*x.toNat) [] l).2.1,L l+1-L (ao (3*x.toNat) [] l).2.2)else([],0)):=by
   show _=_;unfold fP;rw[dO,if_neg hx0];by_cases h:(ao (3*x.toNat) [] l).1=0/\bQ (dx (ao (3*x.toNat) [] l).2.1)=true
   ·rw[if_pos h,if_pos h];rfl
   rw[if_neg h,if_neg h]
  have HG:=K (mQ (3*x.toNat) [] l);generalize ao (3*x.toNat) [] l=tk at *;obtain⟨er,li,r⟩:=tk;dsimp only at *;have HA:Boxed (w.alloc (J #[E none 0 0] 42)) w.heap.size 42 (E none 0 0):=P6 w _ _;have HL:Ext w (w.alloc (J #[E none 0 0] 42)).drew:=xD (xA (xR _) _);clear hx0;gi_wp2;have Hs:∀W:World,Ext w W->Bs W (E (I ⟨b,U+1,G⟩) l.length (c-1)) l:=by
   intro W hE;have h:=Bs.cut (HK.ext hE) 1 (by simp) rfl;simpa using h
  have Hn:=K Hs;clear Hs;have K5:IntKind.i64.wrap (x.toNat:Int)=(x.toNat:Int):=IntWalk.i64_in _ (by omega);have K6:IntKind.i64.wrap (3*(x.toNat:Int))=3*(x.toNat:Int):=IntWalk.i64_in _ (by omega);have Hd:(1:Int)<=(L l:Int)+1:=by omega
  have Hm:(1:Int)<=(c:Int):=by omega
  have HZ:(0:Int)<=(L l:Int):=by omega
  have K0:(0:Int)<(L l:Int)+1:=by omega
  by_cases hc1:c=1
  ·obtain rfl:l=[]:=P8 (by omega);have He:er≠0:=by
    rintro rfl;obtain⟨l',_,h4,_,h5⟩:=HG li r rfl;have h6:=ra l';have h7:=congrArg Pa h5;simp at h7;omega
   have e6:(er != 0)=true:=by simpa using He
   have HX:=K He;clear He;subst hc1;refine mc ?_;refine aC 0 ?_;refine aC 1 ?_;refine aC 2 ?_;refine aC 3 ?_;refine bT 4 ?_;refine bT 5 ?_;refine bT 6 ?_;refine lv (i:=7) (f:=79) (args:=?b8) (w':=?w8) (by kernel_rfl) rfl rfl ?h8 ?r8
   case h8=>go_simp;try(first|with_reducible rfl | (refine⟨?_,?_⟩<;>with_reducible rfl))
   have Kd:Bs (w.alloc (J #[E none 0 0] 42)).drew (E (I ⟨b,U,G⟩) 0 0) []:=SlR.empty _ 1 (by simp);have Hr:=HT ((w.alloc (J #[E none 0 0] 42)).drew) _ Kd;refine Hr.mono ?_;rintro e w1⟨vl,vr,rfl,HE,HS,Hq⟩;refine⟨_,rfl,?_⟩;refine bT 8 ?_;refine aC 9 ?_;refine aC 10 ?_;refine aC 11 ?_;refine aC 12 ?_;refine aC 13 ?_;refine aC 14 ?_;refine wpAnyIn_done (by kernel_rfl) (eV ?_) _;simp only[Act.put,sA,sZ,sS];have Hd:Boxed w1 w.heap.size 42 (E none 0 0):=P7 (W:=(w.alloc (J #[E none 0 0] 42)).drew) (row:=none) HA (P5 Hq none) (by simp);have Hj:Ext w w1:=xT HL Hq;have cb:=Hd.cell;have fb:=Hd.frozen;clear Hr K5 K6 Hm HZ K0 HA;exact mcTakena0
  ·have Ks:1<c:=by omega
   refine mc ?_;refine aC 0 ?_;refine aC 1 ?_;refine aC 2 ?_;refine aC 3 ?_;refine bT 4 ?_;refine bT 5 ?_;refine bT 6 ?_;refine lv (i:=7) (f:=79) (args:=?b24) (w':=?w24) (by kernel_rfl) rfl rfl ?h24 ?r24
   case h24=>go_simp;try(first|with_reducible rfl | (refine⟨?_,?_⟩<;>with_reducible rfl))
   have Hr:=HT ((w.alloc (J #[E none 0 0] 42)).drew) _ (Hn _ HL);refine Hr.mono ?_;rintro e w1⟨vl,vr,rfl,HE,HS,Hq⟩;refine⟨_,rfl,?_⟩;refine bT 8 ?_;refine aC 9 ?_;refine aC 10 ?_;refine aC 11 ?_;refine aC 12 ?_;refine aC 13 ?_;refine aC 14 ?_;refine wpAnyIn_done (by kernel_rfl) (eV ?_) _;simp only[Act.put,sA,sZ,sS];dsimp only at HE HS;have Hd:Boxed w1 w.heap.size 42 (E none 0 0):=P7 (W:=(w.alloc (J #[E none 0 0] 42)).drew) (row:=none) HA (P5 Hq none) (by simp);have Hj:Ext w w1:=xT HL Hq;obtain⟨Z,cl,rfl,_,_⟩:=xO (xW HE);obtain⟨Ar,cr,rfl,_,_⟩:=xO (xW HS);have cb:=Hd.cell;have fb:=Hd.frozen;have Kb:w.heap.size<w1.heap.size:=P0 w1 _ cb;clear Hr K5 K6 Hm HZ K0 HA;by_cases He:er=0
   ·subst He;have HO:Is w1 (E Z li.length cl) li:=xW HE;obtain⟨l',HR,h4,_,_⟩:=HG li r rfl;rw[xI]at HR;subst HR;obtain⟨h7,h8⟩:=qG x.toNat li h4;obtain⟨es,HD⟩:∃es,dx li=es:=⟨_,rfl⟩;rw[HD]at Hb h7 h8;have Kq:L r<=L l:=by rename_i hq;rw[hq,xL];omega
    rename_i hq1 hq2;subst h7;have Km:=K (lr es);have H8:=K h8;have Ke:L es<=4:=by omega
    clear HG h4 HD HT Hn hq1 hq2 h8;gi_wp2_with (refine⟨trivial,?_⟩;gi_at_call 80;refine(callsIn_wd.2 (FZ _ _ _ _)).mono ?_;rintro e w' ⟨rfl,rfl⟩)
    have q1:Boxed ((w1.alloc (J #[E Z (bd es).length cl] 64)).alloc (J #[F H 3] 3)) w1.heap.size 64 (E Z (bd es).length cl):=(P6 w1 _ _).alloc _;have q2:Boxed ((w1.alloc (J #[E Z (bd es).length cl] 64)).alloc (J #[F H 3] 3)) (w1.heap.size+1) 3 (F H 3):=by
     have:=P6 (w1.alloc (J #[E Z (bd es).length cl] 64)) 3 (F H 3);rwa[xS]at this
    have HM:Ext w1 ((w1.alloc (J #[E Z (bd es).length cl] 64)).alloc (J #[F H 3] 3)):=xA (xA (xR _) _) _;generalize(w1.alloc (J #[E Z (bd es).length cl] 64)).alloc (J #[F H 3] 3)=w2 at *;have Hm:Boxed w2 w.heap.size 42 (E none 0 0):=Hd.kept (row:=none) (P5 HM none) (by simp);have HP:Is w2 (E Z (bd es).length cl) (bd es):=HO.ext HM;have HN:Ext w w2:=xT Hj HM;have h0:TkI w w2 [] w2:=⟨_,Hm,P1 _ _ _ _,HN,λ_ _ _ h=>h⟩;have Kr:w.heap.size<w2.heap.size:=P0 w2 _ Hm.cell;clear cb fb;refine mB (λT hT=>?_);refine dV (a:=⟨T,[]⟩) (by subst hT;rfl) (enters_of Tryz.func149 (by kernel_rfl) rfl)
     (λW1 hb hs=>FM w2 W1 _ es HP (by omega) w1.heap.size (w1.heap.size+1) (q1.kept (row:=none) (P5 hb none) (by simp)) (q2.kept (row:=none) (P5 hb none) (by simp)))
     (λk o h=>h.elim) (λk o h=>by rcases h with h | h<;>exact eE h.2) (λx av W h=>by obtain⟨_,_,rfl,_⟩:=h;rfl)
     (TkI w w2) (λ_ _ _=>False) ?hI (λ_ _ _ _ h _=>h) h0
     (λe a' W=>∃b U,Is W (E (I ⟨b,U,G⟩) 3 3) [e.t,e.k,e.v]/\b≠w.heap.size/\a'=⟨(T.setIfInBounds 39 (E (I ⟨b,U,G⟩) 3 3)).setIfInBounds 7 (E (I ⟨b,U,G⟩) 3 3),[]⟩)
     ?hAx ?assign ?body ?done (λ_ _ _ _ _ _ h _=>h.elim)
    case hI=>
     rintro s X Y⟨v,S,hr,O,Q⟩hm;refine⟨v,hm.boxed S ?_,hm.ownsRow hr ?_,hm.belowOf O ?_ (xN _),λp u hp hc=>hm.cell (Q p u hp hc) ?_⟩
     ·rintro(h | h)
      ·exact h
      cases h.2
     ·rintro k HY _(h | h)
      ·exact h
      cases h.2
     ·rintro k o hk(h | h)
      ·exact h
      have:=h.1;omega
     rintro o _ hc(h | h)
     ·exact h
     rw[hc]at h;cases h.2
    case hAx=>
     rintro e a' X Y⟨b,U,R,Hf,rfl⟩hm;refine⟨b,U,SlR.keep R (λq t hq=>hm.cell hq (λo _ hc=>?_)),Hf,rfl⟩;rintro(h | h)
     ·exact h
     rw[hc]at h;cases h.2
    case assign=>
     rintro l' d e HW W av K' hx hi Kg⟨g,H0,rfl,R⟩hK;obtain⟨v,S,H3,O,Q⟩:=hi;obtain⟨K3,HU,K4⟩:=is3 R;have H7:g≠w.heap.size:=by
      rintro rfl;have:=FH Hm HU;omega
     have Ki:Is W (E (I ⟨g,H0,G⟩) 3 3) [e.t,e.k,e.v]:=PF (Q _ _ H7 K3) (Q _ _ H7 HU) (Q _ _ H7 K4);have Hi:Hid (TkI w w2 d W):=⟨v,S,H3,O,Q⟩;have Hx:=K hx;clear hx K3 HU K4 Q;subst hT;gi_wp2;exact hK _ _ Kept.refl Hi ⟨g,H0,Ki,H7,rfl⟩
    case body=>
     rintro l' d e HW a' W hx HR hr⟨v,S,H3,O,Q⟩Kg⟨g,H0,R,H7,rfl⟩;have Hx:=K hx;have Kt:L d<=3:=by have:=congrArg Pa hx;simp at this;omega
     obtain⟨y,z,rfl,_,_⟩:=xO (xW H3);obtain⟨C,M,N⟩:=is3 R;have gN:=S.cell;have H4:W.drew.ownsRow w2.heap.size 54 3 (E y d.length z) d.length (ax d):=H3;have HV:Boxed W.drew w.heap.size 42 (E y d.length z):=S;obtain⟨i0,hi,Kj,Kk,Kl⟩:=info_parts ic;have Hu:SlR (W.drew.alloc (J #[F H e.t,F H e.k,F H e.v] 54)) 3 (E (I ⟨W.heap.size,0,G⟩) 1 1) 1 (ax [e]):=by
      refine⟨rfl,_,1,rfl,xN _,by simp[maxLen],λ_=>⟨W.heap.size,0,rfl,λj u R=>?_⟩⟩;have hh:=heap_alloc_new W.drew (J #[F H e.t,F H e.k,F H e.v] 54);have Kf:(W.drew.alloc (J #[F H e.t,F H e.k,F H e.v] 54)).heap[W.heap.size]?=I (J #[F H e.t,F H e.k,F H e.v] 54):=hh;rw[Nat.zero_add];simp only[P3,Kf];have:#[F H e.t,F H e.k,F H e.v][j]?=I u:=by simpa[ax,Ent.cells]using R
      simpa using this
     obtain⟨va,wa,Hw,Hk,H9⟩:=ep (P:=Tryz.prog) (W.drew.alloc (J #[F H e.t,F H e.k,F H e.v] 54)) w2.heap.size 42 42 54 i0 _ 3 24 Tryz.underlying42 hi Kj Kk Kl rfl (by decide)
      (E y d.length z) d.length (ax d) (H4.alloc _) _ 1 (ax [e]) Hu (by intro u R;simp[ax,Ent.cells]at R;rcases R with rfl | rfl | rfl<;>rfl) (by unfold maxLen;omega) (by omega) (by simp;omega)
     obtain⟨Aa,ca,rfl,_,_⟩:=xO (xW Hk);have HH:=K Q;have HJ:=K Hw;have Ho:=K Hk;have H6:=K H9;have HF:Boxed wa w.heap.size 42 (E y d.length z):=(HV.alloc _).kept H9 (HV.not_row (e:=54) (by decide) H4);have Ko:=HF.cell;have Kp:=HF.frozen;clear hx Q Hw Hk H9 Hu H3 S;subst hT;gi_wp2;refine nE (by kernel_rfl) (by kernel_rfl) ?_;refine aC 1 ?_;refine aC 2 ?_;refine aC 4 ?_;refine aC 5 ?_;refine aC 7 ?_;refine aC 8 ?_;refine mi (Read4 (⟨g,H0,G⟩,F H e.t) (⟨g,H0+1,G⟩,F H e.k) (⟨g,H0+2,G⟩,F H e.v) (⟨w.heap.size,0,G⟩,E y d.length z)) [10,11,12,13] (i:=3) (v:=?v39) rfl rfl (by kernel_rfl) (by kernel_rfl) (by kernel_rfl) (by kernel_rfl) (by kernel_rfl) (λ_ _ _ h=>h) (λw o B=>B.alloc o) (⟨C,M,N,gN⟩) (np rfl (λw B=>?h39) (λw=>rfl)) ?r39
     case h39=>obtain⟨C,M,N,g3⟩:=B;dsimp only at C M N g3;go_simp;try with_reducible rfl
     refine mi (Read4 (⟨g,H0,G⟩,F H e.t) (⟨g,H0+1,G⟩,F H e.k) (⟨g,H0+2,G⟩,F H e.v) (⟨w.heap.size,0,G⟩,E y d.length z)) [10,11,12,13] (i:=6) (v:=?v40) rfl rfl (by kernel_rfl) (by kernel_rfl) (by kernel_rfl) (by kernel_rfl) (by kernel_rfl) (λ_ _ _ h=>h) (λw o B=>B.alloc o) (⟨C,M,N,gN⟩) (np rfl (λw B=>?h40) (λw=>rfl)) ?r40
     case h40=>obtain⟨C,M,N,g3⟩:=B;dsimp only at C M N g3;go_simp;try with_reducible rfl
     refine mi (Read4 (⟨g,H0,G⟩,F H e.t) (⟨g,H0+1,G⟩,F H e.k) (⟨g,H0+2,G⟩,F H e.v) (⟨w.heap.size,0,G⟩,E y d.length z)) [10,11,12,13] (i:=9) (v:=?v41) rfl rfl (by kernel_rfl) (by kernel_rfl) (by kernel_rfl) (by kernel_rfl) (by kernel_rfl) (λ_ _ _ h=>h) (λw o B=>B.alloc o) (⟨C,M,N,gN⟩) (np rfl (λw B=>?h41) (λw=>rfl)) ?r41
     case h41=>obtain⟨C,M,N,g3⟩:=B;dsimp only at C M N g3;go_simp;try with_reducible rfl
     refine aC 10 ?_;refine mi (Read4 (⟨g,H0,G⟩,F H e.t) (⟨g,H0+1,G⟩,F H e.k) (⟨g,H0+2,G⟩,F H e.v) (⟨w.heap.size,0,G⟩,E y d.length z)) [12,13] (i:=0) (v:=?v43) rfl rfl (by kernel_rfl) (by kernel_rfl) (by kernel_rfl) (by kernel_rfl) (by kernel_rfl) (λ_ _ _ h=>h) (λw o B=>B.alloc o) (⟨C,M,N,gN⟩) (np rfl (λw B=>?h43) (λw=>rfl)) ?r43
     case h43=>obtain⟨C,M,N,g3⟩:=B;dsimp only at C M N g3;go_simp;try with_reducible rfl
     refine bT 11 ?_;refine nI (i:=12) rfl (by kernel_rfl) rfl rfl (nK _ _ _ rfl) (nH (v:=E y d.length z) (vx:=E (I ⟨W.heap.size,0,G⟩) 1 1) (.tmp 40) (.tmp 51) 42 rfl (by simp[Act.eval,Act.put]) (by simp[Act.eval,Act.put]) HJ) ?_;refine iG 13 ?_;refine wpAnyIn_done (by kernel_rfl) (eV ?_) _;simp only[Act.put,sA,sZ,sS];gi_wp2;have hk:Kept (am (λk o=>(k=w1.heap.size/\o.ty=I 64)\/(k=w1.heap.size+1/\o.ty=I 3)) w2.heap.size) W.drew (wa.setCell ⟨w.heap.size,0,G⟩ (E Aa (L d+1) ca)):=by
      refine Kept.appended _ HV H4 H6 ?_ ?_
      ·rintro((⟨_,h⟩|⟨_,h⟩)| ⟨_,h⟩)<;>cases h
      rintro k HY _((⟨_,h⟩|⟨_,h⟩)| ⟨_,h⟩)<;>cases h
     refine⟨Kept.trans (Kept.refl.drew) hk,_,HF.set _,?_,?_,?_⟩
     ·have h:=Ho.kept (grownBy_setCell' wa w.heap.size (E Aa (L d+1) ca)) (.inr (HF.not_row (by decide) Ho).symm);have ec:ax (d++[e])=ax d++ax [e]:=by simp[ax]
      rw[ec,xL];exact h
     ·refine(((O.drew).alloc (by have:=O.size;exact this) _).grown H6 (by have:=O.size;simp;omega) (λk ek=>?_)).setCell (p:=⟨w.heap.size,0,G⟩) (xN _) _;have:=(H4.lt k ek).1;omega
     intro p u hp hq;have K2:=P0 w2 p hq;have h1:(W.drew.alloc (J #[F H e.t,F H e.k,F H e.v] 54)).cell? p=I u:=iQ (show W.drew.cell? p=I u from HH p u hp hq) _;have h2:wa.cell? p=I u:=by
      refine(P2 (H6.block p.block (by simp;omega) (λek=>?_))).trans h1;have:=(H4.lt p.block ek.symm).1;omega
     exact(World.cell?_setCell_other _ _ _ _ (λe=>hp (by rw[<-e]))).trans h2
    case done=>
     rintro D W hD⟨v,S,H3,O,Q⟩hK;subst hT;obtain⟨y,z,rfl,_,_⟩:=xO (xW H3);have HD:Es W (E y es.length z) es:=xW H3;have HB:=K (Ng _ es W HD);have gN:=S.cell;have Hy:((L l:Int)+1-(L r:Int))=((L l+1-L r:Nat):Int):=by omega
     have K8:=K Hy;have Hp:D<W.heap.size:=(P4.1 hK).1;clear Q Hy;cases V:bQ es
     ·rw[V]at HB Hb;have H5:=Hb.out;rw[if_neg (by simp)]at H5;have HI:=K H5;clear Hb H5 V;gi_wp2_with (refine⟨trivial,?_⟩;gi_at_call 361;refine(callsIn_wd.2 HB).mono ?_;rintro e w3⟨rfl,Hc⟩;have Hh:=S.kept (row:=none) (P5 Hc none) (by simp);have Ka:=Hh.cell;have K9:=Hh.frozen)
      have HQ:w3.heap[D]?=I (.deferred (some [])):=(Hc.block D Hp).trans hK;have Hl:=dK HQ rfl ⟨w.heap.size,0,G⟩ (E none 0 0);have Ha:=fL (Hh.set (E none 0 0)).cell Hl rfl (.deferred none);refine dh Hl (.tuple #[E none 0 0,F H 0]) (by simp[results,Tryz.results371,go_sem,Ha]) ?_;rw[HI.out];exact⟨_,rfl,P1 _ _ _ _,cp ((O.trans (Hc.mono O.size)).setCell (p:=⟨w.heap.size,0,G⟩) (xN _) _) _⟩
     rw[V]at HB Hb;have H5:=Hb.out;rw[if_pos (by simp)]at H5;have HI:=K H5;clear Hb H5 V;gi_wp2_with (refine⟨trivial,?_⟩;gi_at_call 361;refine(callsIn_wd.2 HB).mono ?_;rintro e w3⟨rfl,Hc⟩;have Hh:=S.kept (row:=none) (P5 Hc none) (by simp);have Ka:=Hh.cell;have K9:=Hh.frozen)
     have HQ:w3.heap[D]?=I (.deferred (some [])):=(Hc.block D Hp).trans hK;have Hl:=dK HQ rfl ⟨w.heap.size,0,G⟩ (E y es.length z);have Ha:=fL (Hh.set (E y es.length z)).cell Hl rfl (.deferred none);refine dh Hl (.tuple #[E y es.length z,F H (L l+1-L r:Nat)]) (by simp[results,Tryz.results371,go_sem,Ha,K8.out]) ?_;rw[HI.out];have Hg:=ai H3 Hc;have Hv:=Hg.kept (grownBy_setCell' w3 w.heap.size (E y es.length z)) (.inr (Hh.not_row (by decide) Hg).symm);exact⟨_,rfl,ay (ownsRow_putObj Hv (.deferred none) Hl rfl) (by omega),cp ((O.trans (Hc.mono O.size)).setCell (p:=⟨w.heap.size,0,G⟩) (xN _) _) _⟩
   ·have e6:(er != 0)=true:=by simpa using He
    have HX:=K He;clear He;exact mcTakena0
end Go.Proofs.YteggfecbjgbndaaGreatDoor

namespace Go.Mv
open Go.RowKit
variable {xs:List Value} {b c m n size:Nat} {A:Option Addr} {row:Option Nat} {t:TypeId} {a u v:Value} {W w:World}
def Blk(W:World)(b:Nat)(t:TypeId)(cs:Array Value):Prop:=W.heap[b]?=I (J cs t (0,0))
section
variable {W W':World} {b:Nat} {t:TypeId} {cs:Array Value}
theorem Blk.lt(h:Blk W b t cs):b<W.heap.size:=(P4.1 h).1
theorem Blk.cell(h:Blk W b t cs)(k:Nat)(d:cs[k]?=I v):W.cell? ⟨b,k,G⟩=I v:=by simp[P3,show W.heap[b]?=_ from h,d]
theorem Blk.frozen(h:Blk W b t cs)(k:Nat):W.frozen? ⟨b,k,G⟩=false:=by simp[World.frozen?,show W.heap[b]?=_ from h]
theorem Blk.new(W:World)(t:TypeId)(cs:Array Value):Blk (W.alloc (J cs t)) W.heap.size t cs:=World.alloc_heap_new W _
theorem Blk.kept(h:Blk W b t cs)(hg:W.grownBy W' row)(d:some b≠row):Blk W' b t cs:=(hg.block b h.lt d).trans h
theorem Blk.ext(h:Blk W b t cs)(he:Ext W W'):Blk W' b t cs:=(he.block b h.lt).trans h
theorem Blk.alloc(h:Blk W b t cs)(o:Obj):Blk (W.alloc o) b t cs:=h.ext (xA (xR _) o)
theorem Blk.set(h:Blk W b t cs)(k:Nat)(u:Value):Blk (W.setCell ⟨b,k,G⟩ u) b t (cs.setIfInBounds k u):=by
 obtain⟨d,hk⟩:=P4.1 h;show(W.heap.modify b _)[b]?=_;rw[Array.getElem?_eq_getElem (by rw[Array.size_modify];exact d),Array.getElem_modify_self,hk];rfl
theorem Blk.other(h:Blk W b t cs){d:Nat}(e:b≠d)(k:Nat)(u:Value):Blk (W.setCell ⟨d,k,G⟩ u) b t cs:=
 (Below.heap_setCell W ⟨d,k,G⟩ u b e).trans h
theorem Blk.not_row(h:Blk W b t cs){e:TypeId}(d:t≠e){base k:Nat}(f:W.ownsRow base e size v k xs):some b≠v.ownBlock:=by
 intro e';obtain⟨g,hc⟩:=lm f e'.symm;rw[show W.heap[b]?=_ from h]at hc;cases hc;exact d rfl
theorem Blk.load{P:Program}{ty:TypeId}{d:TypeDesc}(h:Blk W b t cs)(f:P.underlying ty=I d)(e:(match d with | .struct _ | .array _ _=>true | _=>false)=true)(hi:(P.info? ty).map (·.size)=I cs.size):
  (loadVar ty ⟨b,0,G⟩).run P W=.ok (.agg cs) W:=run_loadVar_row W b t ty cs (0,0) d h f e hi
end
theorem au(h:Blk W b t #[a,v,u]):W.cell? ⟨b,0,G⟩=I a/\W.cell? ⟨b,1,G⟩=I v/\W.cell? ⟨b,2,G⟩=I u/\W.frozen? ⟨b,0,G⟩=false/\W.frozen? ⟨b,1,G⟩=false/\W.frozen? ⟨b,2,G⟩=false:=
 ⟨h.cell 0 rfl,h.cell 1 rfl,h.cell 2 rfl,h.frozen 0,h.frozen 1,h.frozen 2⟩
theorem blk4{x:Value}(h:Blk W b t #[a,v,u,x]):W.cell? ⟨b,0,G⟩=I a/\W.cell? ⟨b,1,G⟩=I v/\W.cell? ⟨b,2,G⟩=I u/\W.cell? ⟨b,3,G⟩=I x/\W.frozen? ⟨b,0,G⟩=false/\W.frozen? ⟨b,1,G⟩=false/\W.frozen? ⟨b,2,G⟩=false/\W.frozen? ⟨b,3,G⟩=false:=
 ⟨h.cell 0 rfl,h.cell 1 rfl,h.cell 2 rfl,h.cell 3 rfl,h.frozen 0,h.frozen 1,h.frozen 2,h.frozen 3⟩
theorem bV(h:Blk W b t #[a,v,u])(d f e:Value):Blk (((W.setCell ⟨b,0,G⟩ d).setCell ⟨b,1,G⟩ f).setCell ⟨b,2,G⟩ e) b t #[d,f,e]:=
 ((h.set 0 d).set 1 f).set 2 e
theorem ar(W:World)(b k:Nat)(v:Value):W.grownBy (W.setCell ⟨b,k,G⟩ v) (some b):=
 ⟨rfl,rfl,rfl,by simp[World.setCell],λj _ d=>Below.heap_setCell _ _ _ j (λe=>d (by rw[e]))⟩
theorem pK{A B C:World}(h:A.grownBy B row)(k:B.grownBy C row):A.grownBy C row:=
 ⟨k.os.trans h.os,k.tape.trans h.tape,k.output.trans h.output,Nat.le_trans h.size k.size,λj e d=>(k.block j (Nat.lt_of_lt_of_le e h.size) d).trans (h.block j e d)⟩
theorem fZ{cs:List Value}(h:Blk W b t cs.toArray)(hn:L cs=n)(hl:n<=maxLen):SlR W 1 (E (I ⟨b,0,G⟩) n n) n cs:=by
 refine⟨by omega,_,n,rfl,xN _,hl,λ_=>⟨b,0,rfl,λj u d=>?_⟩⟩;rw[Nat.zero_add];exact h.cell j (by simpa using d)
theorem cg{W':World}(hg:W.grownBy W' row){p:Addr}(h:W.cell? p=I u)(d:some p.block≠row):W'.cell? p=I u:=
 (P2 (hg.block p.block (P0 W p h) d)).trans h
theorem SlR.keepB{w':World}{d:Nat}(h:SlR w size (E (I ⟨b,d,G⟩) m c) n xs)(hk:∀o u,w.cell? ⟨b,o,G⟩=I u->w'.cell? ⟨b,o,G⟩=I u):
  SlR w' size (E (I ⟨b,d,G⟩) m c) n xs:=by
 obtain⟨hl,A,c',e,h1,h2,h3⟩:=h;cases e;refine⟨hl,_,c,rfl,h1,h2,λhn=>?_⟩;obtain⟨f,H0,e',hc⟩:=h3 hn;cases e';exact⟨b,d,rfl,λj u d=>hk _ _ (hc j u d)⟩
theorem SlR.take1(h:SlR w 1 (E A m c) n xs)(k:Nat)(hk:k<=n):SlR w 1 (E A k c) k (xs.take k):=by
 obtain⟨hl,A',c',e,h1,h2,h3⟩:=h;cases e;refine⟨by rw[P9,hl];omega,_,c,rfl,by omega,h2,λhn=>?_⟩;obtain⟨f,H0,e',hc⟩:=h3 (by omega);cases e';refine⟨f,H0,rfl,λj u d=>hc j u ?_⟩;rw[List.getElem?_take]at d;split at d
 ·exact d
 ·cases d
theorem Bs.take{bs:List UInt8}(h:Bs w (E A m c) bs)(k:Nat)(hk:k<=L bs):Bs w (E A k c) (bs.take k):=by
 have:=SlR.take1 h k hk;unfold Bs;rw[P9,Nat.min_eq_left hk,List.map_take];exact this
theorem SlR.capd{c':Nat}(h:SlR w size (E A m c) n xs)(h1:n<=c')(h2:c'<=9223372036854775807):SlR w size (E A m c') n xs:=by
 obtain⟨hl,A',Kn,e,_,_,h3⟩:=h;cases e;exact⟨hl,A,c',rfl,h1,by simpa[maxLen]using h2,h3⟩
end Go.Mv
