/- Merged -/
import Derived.Test.YteggfecbjgbndaaGreatDoorZy6
import Derived.Test.YteggfecbjgbndaaGreatDoorZy7
import Derived.StillTailTactics
set_option linter.all false
set_option maxHeartbeats 8000000
set_option maxRecDepth 100000
open List renaming length->J
open Go.Value renaming slice->B,int->C
open Go.IntKind renaming i64->E
open Option renaming none->F,some->H
open Go.Obj renaming cells->G
open Go.Mv renaming aN->I
open Go.World renaming block_lt_of_cell?->P0,ownsRow_nil->P1
open Go.Mv.Ext renaming grown->P2
open Go.Boxed renaming new->P3,kept->P4
open List renaming eq_nil_of_length_eq_zero->P5,length->P6
namespace Go.Proofs.YteggfecbjgbndaaGreatDoor
open Go.RowKit Go.Mv Go.Shelf
theorem mcTakena0{P:Prop}(h:P:=by
 gi_wp2;have Ha:(w1.setCell ⟨w.heap.size,0,F⟩ (B none 0 0)).cell? ⟨w.heap.size,0,F⟩=H (B none 0 0):=(Hd.set _).cell;refine fp (.tuple #[B none 0 0,C E 0]) (by simp[results,Tryz.results371,go_sem,Ha]) ?_;rw[Hb.out,if_neg (λh=>HW.out h.1)];exact⟨_,rfl,P1 _ _ _ _,Below.setCell (p:=⟨w.heap.size,0,F⟩) Hh (xN _) _⟩):P:=h
attribute [local go_sem] Oper.semAt_some
theorem ic:(Tryz.prog.info? 54).map (λi=>(i.zero,i.size,i.bytes))=H (some (.agg #[C E 0,C E 0,C E 0]),3,24):=by kernel_rfl
def fP(bs:List UInt8):List Ent×Nat:=match dO bs with | none=>([],0) | some x=>(x.1,J bs-J x.2)
def N1(w:World)(r:List Ent×Nat)(e:Ending)(w':World):Prop:=∃v,e=.returned (.tuple #[v,C E r.2])/\w'.ownsRow w.heap.size 54 3 v r.1.length (ax r.1)/\Ext w w'
theorem is3{w:World}{b f a c d:_}(h:Is w (B (H ⟨b,f,F⟩) 3 3) [a,c,d]):w.cell? ⟨b,f,F⟩=H (C E a)/\w.cell? ⟨b,f+1,F⟩=H (C E c)/\w.cell? ⟨b,f+2,F⟩=H (C E d):=by
 obtain⟨_,A,c',e,_,_,h3⟩:=h;cases e;obtain⟨f,f,e',hc⟩:=h3 (by simp);cases e';exact⟨hc 0 _ rfl,hc 1 _ rfl,hc 2 _ rfl⟩
theorem PF{w:World}{b e:Nat}{a c d:Int}(g:w.cell? ⟨b,e,F⟩=H (C E a))(h1:w.cell? ⟨b,e+1,F⟩=H (C E c))(h2:w.cell? ⟨b,e+2,F⟩=H (C E d)):Is w (B (H ⟨b,e,F⟩) 3 3) [a,c,d]:=by
 refine⟨rfl,_,3,rfl,xN _,by simp[maxLen],λ_=>⟨b,e,rfl,λj u f=>?_⟩⟩;match j with
 |0=>cases f;exact g
 |1=>cases f;exact h1
 |2=>cases f;exact h2
 |j+3=>simp at f
theorem ra(l:List Int):J l<=J (aF l):=by
 induction l with
 |nil=>exact xN _
 |cons n l ih=>
  have h:=(zm n.toNat).1;rw[show aF (n::l)=cO n.toNat++aF l from rfl,xL,xC];omega
def TkI(w a:World)(H1:List Ent)(X:World):Prop:=
 ∃v,Boxed X w.heap.size 42 v/\X.ownsRow a.heap.size 54 3 v H1.length (ax H1)/\Below w.heap.size w X/\(∀p u,p.block≠w.heap.size->a.cell? p=H u->X.cell? p=H u)
theorem MN(v:Value)(bs:List UInt8)(w:World)(Hy:Bs w v bs)(hl:J bs<=140737488355328):Calls Tryz.prog 371 #[v] w (N1 w (fP bs)):=by
 obtain⟨A,c,rfl,h1,h2⟩:=xO Hy;refine(callsIn_wd (ro:=none) (n:=9)).1 ?_;refine callsIn_of_wp_marks Tryz.func371 rfl trivial ?_ rfl;simp only[Tryz.ntmps371,List.size_toArray,xC,List.length_nil,Nat.reduceAdd,Nat.reduceSub,Array.replicate_succ,Array.replicate_zero,List.push_toArray,List.append_toArray,xI,List.cons_append];by_cases h0:J bs=0
 ·have hb:bs=[]:=P5 h0;subst hb;gi_wp2;have Ha:(w.alloc (G #[B none 0 0] 42)).cell? ⟨w.heap.size,0,F⟩=H (B none 0 0):=(P3 w _ _).cell;refine fp (.tuple #[B none 0 0,C E 0]) (by simp[results,Tryz.results371,go_sem,Ha]) ?_;exact⟨_,rfl,P1 _ _ _ _,(xA (xR _) _)⟩
 obtain⟨_,b,S,rfl,hc⟩:=Bs.at_ Hy (by omega);have HY:w.cell? ⟨b,S,F⟩=H (C .u8 (bs[0].toNat:Int)):=hc 0 (by omega);obtain⟨x,l,rfl⟩:∃x l,bs=x::l:=by cases bs with | nil=>exact absurd rfl h0 | cons x l=>exact⟨x,l,rfl⟩
 simp only[List.getElem_cons_zero]at HY;have K9:b<w.heap.size:=P0 w _ HY;have K3:=I Hy;have e0:((J l:Int)+1==0)=false:=by simp;omega
 clear hc Hy h0;simp only[xC]at *;have hx:=x.toNat_lt;by_cases hx0:x.toNat=0\/4<x.toNat
 ·have ht:fP (x::l)=([],0):=by unfold fP;rw[dO,if_pos hx0]
  have Ht:=I ht;clear ht;gi_wp2
  all_goals
   have Ha:(w.alloc (G #[B none 0 0] 42)).cell? ⟨w.heap.size,0,F⟩=H (B none 0 0):=(P3 w _ _).cell;refine fp (.tuple #[B none 0 0,C E 0]) (by simp[results,Tryz.results371,go_sem,Ha]) ?_;rw[Ht.out];exact⟨_,rfl,P1 _ _ _ _,(xA (xR _) _)⟩
 ·have Kr:0<x.toNat:=by omega
  have Ks:x.toNat<=4:=by omega
  have e1:((x.toNat:Int)==0)=false:=by simp;omega
  have HJ:=K3.out;have HT:Hid (∀(W:World) (u:Value),Bs W u l->Calls Tryz.prog 79 #[u,C E (3*(x.toNat:Int))] W (ir W (ao (3*x.toNat) [] l))):=by
   intro W u Q;have:=iN u l (3*x.toNat) (by omega) W Q (by omega);rwa[show((3*x.toNat:Nat):Int)=3*(x.toNat:Int)from by omega]at this
  have Hb:Hid (fP (x::l)=if(ao (3*x.toNat) [] l).1=0/\bQ (dx (ao (3*x.toNat) [] l).2.1)=true then(dx (ao (3*x.toNat) [] l).2.1,J l+1-J (ao (3*x.toNat) [] l).2.2)else([],0)):=by
   show _=_;unfold fP;rw[dO,if_neg hx0];by_cases h:(ao (3*x.toNat) [] l).1=0/\bQ (dx (ao (3*x.toNat) [] l).2.1)=true
   ·rw[if_pos h,if_pos h];rfl
   rw[if_neg h,if_neg h]
  have HF:=I (mQ (3*x.toNat) [] l);generalize ao (3*x.toNat) [] l=tk at *;obtain⟨er,li,r⟩:=tk;dsimp only at *;have Hz:Boxed (w.alloc (G #[B none 0 0] 42)) w.heap.size 42 (B none 0 0):=P3 w _ _;have HK:Ext w (w.alloc (G #[B none 0 0] 42)).drew:=xD (xA (xR _) _);clear hx0;gi_wp2;have Hr:∀W:World,Ext w W->Bs W (B (H ⟨b,S+1,F⟩) l.length (c-1)) l:=by
   intro W hE;have h:=Bs.cut (HJ.ext hE) 1 (by simp) rfl;simpa using h
  have Hm:=I Hr;clear Hr;have K1:IntKind.i64.wrap (x.toNat:Int)=(x.toNat:Int):=IntWalk.i64_in _ (by omega);have K2:IntKind.i64.wrap (3*(x.toNat:Int))=3*(x.toNat:Int):=IntWalk.i64_in _ (by omega);have Hd:(1:Int)<=(J l:Int)+1:=by omega
  have Hl:(1:Int)<=(c:Int):=by omega
  have hb3:(0:Int)<=(J l:Int):=by omega
  have HX:(0:Int)<(J l:Int)+1:=by omega
  by_cases hc1:c=1
  ·obtain rfl:l=[]:=P5 (by omega);have He:er≠0:=by
    rintro rfl;obtain⟨l',_,h4,_,h5⟩:=HF li r rfl;have h6:=ra l';have h7:=congrArg P6 h5;simp at h7;omega
   have e6:(er != 0)=true:=by simpa using He
   have HW:=I He;clear He;subst hc1;refine mc ?_;refine aC 0 ?_;refine aC 1 ?_;refine aC 2 ?_;refine aC 3 ?_;refine bT 4 ?_;refine bT 5 ?_;refine bT 6 ?_;refine lv (i:=7) (f:=79) (args:=?b8) (w':=?w8) (by kernel_rfl) rfl rfl ?h8 ?r8
   case h8=>go_simp;try(first|with_reducible rfl | (refine⟨?_,?_⟩<;>with_reducible rfl))
   have Ka:Bs (w.alloc (G #[B none 0 0] 42)).drew (B (H ⟨b,S,F⟩) 0 0) []:=SlR.empty _ 1 (by simp);have Hq:=HT ((w.alloc (G #[B none 0 0] 42)).drew) _ Ka;refine Hq.mono ?_;rintro e w1⟨vl,vr,rfl,HD,HR,Hp⟩;refine⟨_,rfl,?_⟩;refine bT 8 ?_;refine aC 9 ?_;refine aC 10 ?_;refine aC 11 ?_;refine aC 12 ?_;refine aC 13 ?_;refine aC 14 ?_;refine wpAnyIn_done (by kernel_rfl) (eV ?_) _;simp only[Act.put,sA,sZ,sS];have Hd:Boxed w1 w.heap.size 42 (B none 0 0):=P4 (W:=(w.alloc (G #[B none 0 0] 42)).drew) (row:=none) Hz (P2 Hp none) (by simp);have Hh:Ext w w1:=xT HK Hp;have cb:=Hd.cell;have fb:=Hd.frozen;clear Hq K1 K2 Hl hb3 HX Hz;exact mcTakena0
  ·have Ko:1<c:=by omega
   refine mc ?_;refine aC 0 ?_;refine aC 1 ?_;refine aC 2 ?_;refine aC 3 ?_;refine bT 4 ?_;refine bT 5 ?_;refine bT 6 ?_;refine lv (i:=7) (f:=79) (args:=?b24) (w':=?w24) (by kernel_rfl) rfl rfl ?h24 ?r24
   case h24=>go_simp;try(first|with_reducible rfl | (refine⟨?_,?_⟩<;>with_reducible rfl))
   have Hq:=HT ((w.alloc (G #[B none 0 0] 42)).drew) _ (Hm _ HK);refine Hq.mono ?_;rintro e w1⟨vl,vr,rfl,HD,HR,Hp⟩;refine⟨_,rfl,?_⟩;refine bT 8 ?_;refine aC 9 ?_;refine aC 10 ?_;refine aC 11 ?_;refine aC 12 ?_;refine aC 13 ?_;refine aC 14 ?_;refine wpAnyIn_done (by kernel_rfl) (eV ?_) _;simp only[Act.put,sA,sZ,sS];dsimp only at HD HR;have Hd:Boxed w1 w.heap.size 42 (B none 0 0):=P4 (W:=(w.alloc (G #[B none 0 0] 42)).drew) (row:=none) Hz (P2 Hp none) (by simp);have Hh:Ext w w1:=xT HK Hp;obtain⟨V,cl,rfl,_,_⟩:=xO (xW HD);obtain⟨Ar,cr,rfl,_,_⟩:=xO (xW HR);have cb:=Hd.cell;have fb:=Hd.frozen;have K8:w.heap.size<w1.heap.size:=P0 w1 _ cb;clear Hq K1 K2 Hl hb3 HX Hz;by_cases He:er=0
   ·subst He;have HN:Is w1 (B V li.length cl) li:=xW HD;obtain⟨l',HQ,h4,_,_⟩:=HF li r rfl;rw[xI]at HQ;subst HQ;obtain⟨h7,h8⟩:=qG x.toNat li h4;obtain⟨es,HA⟩:∃es,dx li=es:=⟨_,rfl⟩;rw[HA]at Hb h7 h8;have Km:J r<=J l:=by rename_i hq;rw[hq,xL];omega
    rename_i hq1 hq2;subst h7;have Kj:=I (lr es);have H8:=I h8;have Kb:J es<=4:=by omega
    clear HF h4 HA HT Hm hq1 hq2 h8;gi_wp2_with (refine⟨trivial,?_⟩;gi_at_call 80;refine(callsIn_wd.2 (FZ _ _ _ _)).mono ?_;rintro e w' ⟨rfl,rfl⟩)
    have q1:Boxed ((w1.alloc (G #[B V (bd es).length cl] 64)).alloc (G #[C E 3] 3)) w1.heap.size 64 (B V (bd es).length cl):=(P3 w1 _ _).alloc _;have q2:Boxed ((w1.alloc (G #[B V (bd es).length cl] 64)).alloc (G #[C E 3] 3)) (w1.heap.size+1) 3 (C E 3):=by
     have:=P3 (w1.alloc (G #[B V (bd es).length cl] 64)) 3 (C E 3);rwa[xS]at this
    have HL:Ext w1 ((w1.alloc (G #[B V (bd es).length cl] 64)).alloc (G #[C E 3] 3)):=xA (xA (xR _) _) _;generalize(w1.alloc (G #[B V (bd es).length cl] 64)).alloc (G #[C E 3] 3)=w2 at *;have Hl:Boxed w2 w.heap.size 42 (B none 0 0):=Hd.kept (row:=none) (P2 HL none) (by simp);have HO:Is w2 (B V (bd es).length cl) (bd es):=HN.ext HL;have HM:Ext w w2:=xT Hh HL;have h0:TkI w w2 [] w2:=⟨_,Hl,P1 _ _ _ _,HM,λ_ _ _ h=>h⟩;have Kn:w.heap.size<w2.heap.size:=P0 w2 _ Hl.cell;clear cb fb;refine mB (λT hT=>?_);refine dV (a:=⟨T,[]⟩) (by subst hT;rfl) (enters_of Tryz.func149 (by kernel_rfl) rfl)
     (λW1 hb hs=>FM w2 W1 _ es HO (by omega) w1.heap.size (w1.heap.size+1) (q1.kept (row:=none) (P2 hb none) (by simp)) (q2.kept (row:=none) (P2 hb none) (by simp)))
     (λk o h=>h.elim) (λk o h=>by rcases h with h | h<;>exact eE h.2) (λx av W h=>by obtain⟨_,_,rfl,_⟩:=h;rfl)
     (TkI w w2) (λ_ _ _=>False) ?hI (λ_ _ _ _ h _=>h) h0
     (λe a' W=>∃b S,Is W (B (H ⟨b,S,F⟩) 3 3) [e.t,e.k,e.v]/\b≠w.heap.size/\a'=⟨(T.setIfInBounds 39 (B (H ⟨b,S,F⟩) 3 3)).setIfInBounds 7 (B (H ⟨b,S,F⟩) 3 3),[]⟩)
     ?hAx ?assign ?body ?done (λ_ _ _ _ _ _ h _=>h.elim)
    case hI=>
     rintro s X Y⟨v,R,hr,N,O⟩hm;refine⟨v,hm.boxed R ?_,hm.ownsRow hr ?_,hm.belowOf N ?_ (xN _),λp u hp hc=>hm.cell (O p u hp hc) ?_⟩
     ·rintro(h | h)
      ·exact h
      cases h.2
     ·rintro k K5 _(h | h)
      ·exact h
      cases h.2
     ·rintro k o hk(h | h)
      ·exact h
      have:=h.1;omega
     rintro o _ hc(h | h)
     ·exact h
     rw[hc]at h;cases h.2
    case hAx=>
     rintro e a' X Y⟨b,S,Q,Kd,rfl⟩hm;refine⟨b,S,SlR.keep Q (λq t hq=>hm.cell hq (λo _ hc=>?_)),Kd,rfl⟩;rintro(h | h)
     ·exact h
     rw[hc]at h;cases h.2
    case assign=>
     rintro l' H1 e HV W av K' hx hi Ke⟨d,m,rfl,Q⟩hK;obtain⟨v,R,H3,N,O⟩:=hi;obtain⟨HZ,HS,K0⟩:=is3 Q;have H7:d≠w.heap.size:=by
      rintro rfl;have:=FH Hl HS;omega
     have Kf:Is W (B (H ⟨d,m,F⟩) 3 3) [e.t,e.k,e.v]:=PF (O _ _ H7 HZ) (O _ _ H7 HS) (O _ _ H7 K0);have Hi:Hid (TkI w w2 H1 W):=⟨v,R,H3,N,O⟩;have Hx:=I hx;clear hx HZ HS K0 O;subst hT;gi_wp2;exact hK _ _ Kept.refl Hi ⟨d,m,Kf,H7,rfl⟩
    case body=>
     rintro l' H1 e HV a' W hx HQ hr⟨v,R,H3,N,O⟩Ke⟨d,m,Q,H7,rfl⟩;have Hx:=I hx;have Kq:J H1<=3:=by have:=congrArg P6 hx;simp at this;omega
     obtain⟨g,y,rfl,_,_⟩:=xO (xW H3);obtain⟨K,L,M⟩:=is3 Q;have gN:=R.cell;have H4:W.drew.ownsRow w2.heap.size 54 3 (B g H1.length y) H1.length (ax H1):=H3;have HU:Boxed W.drew w.heap.size 42 (B g H1.length y):=R;obtain⟨i0,hi,Kg,Kh,Ki⟩:=info_parts ic;have Hs:SlR (W.drew.alloc (G #[C E e.t,C E e.k,C E e.v] 54)) 3 (B (H ⟨W.heap.size,0,F⟩) 1 1) 1 (ax [e]):=by
      refine⟨rfl,_,1,rfl,xN _,by simp[maxLen],λ_=>⟨W.heap.size,0,rfl,λj u Q=>?_⟩⟩;have hh:=heap_alloc_new W.drew (G #[C E e.t,C E e.k,C E e.v] 54);have Kc:(W.drew.alloc (G #[C E e.t,C E e.k,C E e.v] 54)).heap[W.heap.size]?=H (G #[C E e.t,C E e.k,C E e.v] 54):=hh;rw[Nat.zero_add];simp only[World.cell?,Kc];have:#[C E e.t,C E e.k,C E e.v][j]?=H u:=by simpa[ax,Ent.cells]using Q
      simpa using this
     obtain⟨va,wa,Hv,Hj,H9⟩:=ep (P:=Tryz.prog) (W.drew.alloc (G #[C E e.t,C E e.k,C E e.v] 54)) w2.heap.size 42 42 54 i0 _ 3 24 Tryz.underlying42 hi Kg Kh Ki rfl (by decide)
      (B g H1.length y) H1.length (ax H1) (H4.alloc _) _ 1 (ax [e]) Hs (by intro u Q;simp[ax,Ent.cells]at Q;rcases Q with rfl | rfl | rfl<;>rfl) (by unfold maxLen;omega) (by omega) (by simp;omega)
     obtain⟨Aa,ca,rfl,_,_⟩:=xO (xW Hj);have HH:=I O;have HI:=I Hv;have Hn:=I Hj;have H6:=I H9;have HE:Boxed wa w.heap.size 42 (B g H1.length y):=(HU.alloc _).kept H9 (HU.not_row (e:=54) (by decide) H4);have Kk:=HE.cell;have Kl:=HE.frozen;clear hx O Hv Hj H9 Hs H3 R;subst hT;gi_wp2;refine nE ?_;refine aC 1 ?_;refine aC 2 ?_;refine aC 4 ?_;refine aC 5 ?_;refine aC 7 ?_;refine aC 8 ?_;refine mi (Read4 (⟨d,m,F⟩,C E e.t) (⟨d,m+1,F⟩,C E e.k) (⟨d,m+2,F⟩,C E e.v) (⟨w.heap.size,0,F⟩,B g H1.length y)) [10,11,12,13] (i:=3) (v:=?v39) rfl rfl (by kernel_rfl) (by kernel_rfl) (by kernel_rfl) (by kernel_rfl) (by kernel_rfl) (λ_ _ _ h=>h) (λw o z=>z.alloc o) (⟨K,L,M,gN⟩) (np rfl (λw z=>?h39) (λw=>rfl)) ?r39
     case h39=>obtain⟨K,L,M,g3⟩:=z;dsimp only at K L M g3;go_simp;try with_reducible rfl
     refine mi (Read4 (⟨d,m,F⟩,C E e.t) (⟨d,m+1,F⟩,C E e.k) (⟨d,m+2,F⟩,C E e.v) (⟨w.heap.size,0,F⟩,B g H1.length y)) [10,11,12,13] (i:=6) (v:=?v40) rfl rfl (by kernel_rfl) (by kernel_rfl) (by kernel_rfl) (by kernel_rfl) (by kernel_rfl) (λ_ _ _ h=>h) (λw o z=>z.alloc o) (⟨K,L,M,gN⟩) (np rfl (λw z=>?h40) (λw=>rfl)) ?r40
     case h40=>obtain⟨K,L,M,g3⟩:=z;dsimp only at K L M g3;go_simp;try with_reducible rfl
     refine mi (Read4 (⟨d,m,F⟩,C E e.t) (⟨d,m+1,F⟩,C E e.k) (⟨d,m+2,F⟩,C E e.v) (⟨w.heap.size,0,F⟩,B g H1.length y)) [10,11,12,13] (i:=9) (v:=?v41) rfl rfl (by kernel_rfl) (by kernel_rfl) (by kernel_rfl) (by kernel_rfl) (by kernel_rfl) (λ_ _ _ h=>h) (λw o z=>z.alloc o) (⟨K,L,M,gN⟩) (np rfl (λw z=>?h41) (λw=>rfl)) ?r41
     case h41=>obtain⟨K,L,M,g3⟩:=z;dsimp only at K L M g3;go_simp;try with_reducible rfl
     refine aC 10 ?_;refine mi (Read4 (⟨d,m,F⟩,C E e.t) (⟨d,m+1,F⟩,C E e.k) (⟨d,m+2,F⟩,C E e.v) (⟨w.heap.size,0,F⟩,B g H1.length y)) [12,13] (i:=0) (v:=?v43) rfl rfl (by kernel_rfl) (by kernel_rfl) (by kernel_rfl) (by kernel_rfl) (by kernel_rfl) (λ_ _ _ h=>h) (λw o z=>z.alloc o) (⟨K,L,M,gN⟩) (np rfl (λw z=>?h43) (λw=>rfl)) ?r43
     case h43=>obtain⟨K,L,M,g3⟩:=z;dsimp only at K L M g3;go_simp;try with_reducible rfl
     refine bT 11 ?_;refine nI (i:=12) rfl (by kernel_rfl) rfl rfl (nK _ _ _ rfl) (nH (v:=B g H1.length y) (vx:=B (H ⟨W.heap.size,0,F⟩) 1 1) (.tmp 40) (.tmp 51) 42 rfl (by simp[Act.eval,Act.put]) (by simp[Act.eval,Act.put]) HI.out) ?_;refine iG 13 ?_;refine wpAnyIn_done (by kernel_rfl) (eV ?_) _;simp only[Act.put,sA,sZ,sS];gi_wp2;have hk:Kept (am (λk o=>(k=w1.heap.size/\o.ty=H 64)\/(k=w1.heap.size+1/\o.ty=H 3)) w2.heap.size) W.drew (wa.setCell ⟨w.heap.size,0,F⟩ (B Aa (J H1+1) ca)):=by
      refine Kept.appended _ HU H4 H6.out ?_ ?_
      ·rintro((⟨_,h⟩|⟨_,h⟩)| ⟨_,h⟩)<;>cases h
      rintro k K5 _((⟨_,h⟩|⟨_,h⟩)| ⟨_,h⟩)<;>cases h
     refine⟨Kept.trans (Kept.refl.drew) hk,_,HE.set _,?_,?_,?_⟩
     ·have h:=Hn.kept (grownBy_setCell' wa w.heap.size (B Aa (J H1+1) ca)) (.inr (HE.not_row (by decide) Hn.out).symm);have ec:ax (H1++[e])=ax H1++ax [e]:=by simp[ax]
      rw[ec,xL];exact h
     ·refine(((N.drew).alloc (by have:=N.size;exact this) _).grown H6 (by have:=N.size;simp;omega) (λk ek=>?_)).setCell (p:=⟨w.heap.size,0,F⟩) (xN _) _;have:=(H4.lt k ek).1;omega
     intro p u hp hq;have Kp:=P0 w2 p hq;have h1:(W.drew.alloc (G #[C E e.t,C E e.k,C E e.v] 54)).cell? p=H u:=iQ (show W.drew.cell? p=H u from HH p u hp hq) _;have h2:wa.cell? p=H u:=by
      refine(World.cell?_of_block (H6.block p.block (by simp;omega) (λek=>?_))).trans h1;have:=(H4.lt p.block ek.symm).1;omega
     exact(World.cell?_setCell_other _ _ _ _ (λe=>hp (by rw[<-e]))).trans h2
    case done=>
     rintro D W hD⟨v,R,H3,N,O⟩hK;subst hT;obtain⟨g,y,rfl,_,_⟩:=xO (xW H3);have HA:Es W (B g es.length y) es:=xW H3;have HB:=I (Ng _ es W HA);have gN:=R.cell;have Hw:((J l:Int)+1-(J r:Int))=((J l+1-J r:Nat):Int):=by omega
     have K4:=I Hw;have Ho:D<W.heap.size:=(Array.getElem?_eq_some_iff.1 hK).1;clear O Hw;cases U:bQ es
     ·rw[U]at HB Hb;have H5:=Hb.out;rw[if_neg (by simp)]at H5;have HG:=I H5;clear Hb H5 U;gi_wp2_with (refine⟨trivial,?_⟩;gi_at_call 361;refine(callsIn_wd.2 HB.out).mono ?_;rintro e w3⟨rfl,Z⟩;have Hg:=R.kept (row:=none) (P2 Z none) (by simp);have K7:=Hg.cell;have K6:=Hg.frozen)
      have HP:w3.heap[D]?=H (.deferred (some [])):=(Z.block D Ho).trans hK;have Hk:=dK HP rfl ⟨w.heap.size,0,F⟩ (B none 0 0);have Ha:=fL (Hg.set (B none 0 0)).cell Hk rfl (.deferred none);refine dh Hk (.tuple #[B none 0 0,C E 0]) (by simp[results,Tryz.results371,go_sem,Ha]) ?_;rw[HG.out];exact⟨_,rfl,P1 _ _ _ _,cp ((N.trans (Z.mono N.size)).setCell (p:=⟨w.heap.size,0,F⟩) (xN _) _) _⟩
     rw[U]at HB Hb;have H5:=Hb.out;rw[if_pos (by simp)]at H5;have HG:=I H5;clear Hb H5 U;gi_wp2_with (refine⟨trivial,?_⟩;gi_at_call 361;refine(callsIn_wd.2 HB.out).mono ?_;rintro e w3⟨rfl,Z⟩;have Hg:=R.kept (row:=none) (P2 Z none) (by simp);have K7:=Hg.cell;have K6:=Hg.frozen)
     have HP:w3.heap[D]?=H (.deferred (some [])):=(Z.block D Ho).trans hK;have Hk:=dK HP rfl ⟨w.heap.size,0,F⟩ (B g es.length y);have Ha:=fL (Hg.set (B g es.length y)).cell Hk rfl (.deferred none);refine dh Hk (.tuple #[B g es.length y,C E (J l+1-J r:Nat)]) (by simp[results,Tryz.results371,go_sem,Ha,K4.out]) ?_;rw[HG.out];have Hf:=ai H3 Z;have Hu:=Hf.kept (grownBy_setCell' w3 w.heap.size (B g es.length y)) (.inr (Hg.not_row (by decide) Hf).symm);exact⟨_,rfl,ay (ownsRow_putObj Hu (.deferred none) Hk rfl) (by omega),cp ((N.trans (Z.mono N.size)).setCell (p:=⟨w.heap.size,0,F⟩) (xN _) _) _⟩
   ·have e6:(er != 0)=true:=by simpa using He
    have HW:=I He;clear He;exact mcTakena0
