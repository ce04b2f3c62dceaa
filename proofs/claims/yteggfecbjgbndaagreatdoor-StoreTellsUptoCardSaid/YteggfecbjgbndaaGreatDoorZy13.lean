/- Merged -/
import Derived.Test.YteggfecbjgbndaaGreatDoorZy11
set_option linter.all false
set_option maxHeartbeats 8000000
set_option maxRecDepth 100000
open Go.Proofs.Tryz
open List renaming length->Z
open Go.Value renaming int->B,slice->F,bool->L,pointer->O,agg->V
open Go.IntKind renaming i64->C,u8->U
open Go.Obj renaming cells->E
open Option renaming none->G,some->I
open Go.Proofs.Tryz renaming prog->M
open Go.Mv renaming aN->T
open Go.World renaming block_lt_of_cell?->P0
open Go.Mv.Bs renaming ext->P1
open Go.Mv.Ext renaming grown->P2,cell->P3
open Go.Boxed renaming new->P4
open UInt8 renaming ofNat->P5
open List renaming cons_append->P6,append_toArray->P7,size_toArray->P8,push_toArray->P9,flatMap_cons->Pa,length_nil->Pb
open Bool renaming eq_iff_iff->Pc
open Array renaming replicate_zero->Pd,replicate_succ->Pe
open Nat renaming reduceSub->Pf,reduceAdd->Pg,le_trans->Ph
namespace Go.Proofs.YteggfecbjgbndaaGreatDoor
open Go.RowKit Go.Mv
variable {P:Prop}
theorem mcStatea0(h:P:=by
 refine ab 0 ?_;refine ab 1 ?_;refine ab 2 ?_;refine ab 3 ?_;refine ag 4 ?_;refine ag 5 ?_;refine ag 6 ?_;refine ab 7 ?_;refine ab 8 ?_;refine aq ?_;go_wp2_with fail;go_ret;refine⟨ret_bool ?_,xT hX (xD (xR _))⟩;rw[Hf.out];simp_all
 try(intro h;omega)):P:=h
theorem mcStatea1(h:P:=by
 try(go_wp2_with fail)
 refine af hK _ _ (ae (hb.ext Hm)) (λ_=>?_);refine ab 6 ?_;refine ab 7 ?_;refine ab 8 ?_;refine aq ?_;go_wp2_with fail;go_ret;refine⟨ret_bool ?_,xT hX Hm⟩;rw[Hf.out];simp_all
 try(intro h;omega)):P:=h
theorem mcStatea2(h:P:=by
 have HV:=T Hs;clear Hs h0;go_enter Tryz.func154,Tryz.ntmps154
 go_wp2_with (go_at_call 207;refine(tK _ _).mono ?_;rintro e w1⟨rfl,rfl⟩)
 all_goals
  go_ret;refine⟨ret_bool ?_,xA (xR _) _⟩;rw[HV.out];simp_all
  try(intro h;omega)):P:=h
theorem fN:Tryz.prog.underlying 41=I (.struct (Tryz.prog.fieldsOf 41)):=by kernel_rfl
theorem Og:Tryz.prog.stoodInHeld 41=false:=by kernel_rfl
theorem rB:Tryz.prog.eqGuardType Tryz.prog.depth 41=false:=by kernel_rfl
def fg(a b:Sta):Bool:=a.idx==b.idx&&a.term==b.term&&a.sum==b.sum&&a.lvl==b.lvl&&a.fin==b.fin
theorem MJ(a b:Sta):fg a b=true↔a=b:=by
 cases a;cases b;simp[fg,and_assoc]
theorem rg(a b:Sta)(W:World):(Op.equalIn 10000 41 (V #[B C a.idx,B C a.term,B C a.sum,B C a.lvl,L a.fin]) (V #[B C b.idx,B C b.term,B C b.sum,B C b.lvl,L b.fin])).run M W=.ok (fg a b) W:=by
 rw[run_equalIn_struct W 9999 41 _ _ fN Og];unfold fg;cases c:(a.idx==b.idx)<;>cases h1:(a.term==b.term)<;>cases h2:(a.sum==b.sum)<;>cases h3:(a.lvl==b.lvl)<;>cases h4:(a.fin==b.fin)<;>simp[go_sem,c,h1,h2,h3,h4]
theorem Fd(n:Int)(w:World):Calls M 161 #[B C n] w λe w'=>e=.returned (L (aB n))/\w=w':=by
 by_cases a:n<0
 ·go_enter func161,ntmps161
  go_wp2;go_ret;exact⟨ret_bool (by simp[aB];omega),rfl⟩
 ·have a:0<=n:=by omega
  go_enter func161,ntmps161
  go_wp2;go_ret;exact⟨ret_bool (by simp[aB];omega),rfl⟩
theorem yM(w:World):Calls M 83 #[] w λe w'=>e=.returned (V #[B C 0,B C 0,B C 0,B C 1,L false])/\Ext w w':=by
 go_enter func83,ntmps83
 go_wp2;refine bodyPost_ret (results_cell_row rfl _ _ _ 41 _ _ _ rfl (heap_alloc_new _ _) fN rfl (by kernel_rfl)) rfl ⟨rfl,xA (xR _) _⟩
theorem nX(w:World):Calls M 92 #[] w λe w'=>e=.returned (V #[B C 0,B C 0,B C 0,B C 1,L false])/\Ext w w':=by
 go_enter func92,ntmps92
 go_wp2;refine bodyPost_ret (results_cell_row rfl _ _ _ 41 _ _ _ rfl (heap_alloc_new _ _) fN rfl (by kernel_rfl)) rfl ⟨rfl,xA (xR _) _⟩
theorem qA(s:Sta)(w:World):Calls M 240 #[V #[B C s.idx,B C s.term,B C s.sum,B C s.lvl,L s.fin]] w λe w'=>e=.returned (B C s.finI)/\Ext w w':=by
 cases hf:s.fin
 ·have h:s.finI=0:=by unfold Sta.finI;rw[hf];rfl
  go_enter func240,ntmps240
  go_wp2;go_ret;exact⟨by rw[h];rfl,xA (xR _) _⟩
 ·have h:s.finI=1:=by unfold Sta.finI;rw[hf];rfl
  go_enter func240,ntmps240
  go_wp2;go_ret;exact⟨by rw[h];rfl,xA (xR _) _⟩
theorem ae{W:World}{b:Nat}{t:TypeId}{a v u x y:Value}(h:Blk W b t #[a,v,u,x,y]):W.cell? ⟨b,0,G⟩=I a/\W.cell? ⟨b,1,G⟩=I v/\W.cell? ⟨b,2,G⟩=I u/\W.cell? ⟨b,3,G⟩=I x/\W.cell? ⟨b,4,G⟩=I y:=
 ⟨h.cell 0 rfl,h.cell 1 rfl,h.cell 2 rfl,h.cell 3 rfl,h.cell 4 rfl⟩
theorem ik (s:Sta) (w:World):Calls M 154 #[V #[B C s.idx,B C s.term,B C s.sum,B C s.lvl,L s.fin]] w fun e w'=>e=.returned (L s.ok)/\Ext w w':=by
 have hX:Ext w (w.alloc (E #[B C s.idx,B C s.term,B C s.sum,B C s.lvl,L s.fin] 41)):=xA (xR _) _
 have hb:=Blk.new w 41 #[B C s.idx,B C s.term,B C s.sum,B C s.lvl,L s.fin]
 by_cases h0:s.idx=0
 ·have e0:(s.idx==0)=true:=by rw[h0];rfl
  have Hr:=rg s ⟨0,0,0,1,false⟩;have KM:=rB
  have Hs:s.ok=fg s ⟨0,0,0,1,false⟩:=by
   unfold Sta.ok fg;rw[if_pos h0,h0];rw[Pc]
   simp[and_assoc]
  have HV:=T Hs;clear Hs h0;dsimp only at Hr
  go_enter func154,ntmps154
  go_wp2_with fail
  go_region_held3 (fun w'=>w'.cell? ⟨w.heap.size,0,G⟩=I (B C s.idx)/\w'.cell? ⟨w.heap.size,1,G⟩=I (B C s.term)/\w'.cell? ⟨w.heap.size,2,G⟩=I (B C s.sum)/\w'.cell? ⟨w.heap.size,3,G⟩=I (B C s.lvl)/\w'.cell? ⟨w.heap.size,4,G⟩=I (L s.fin)) (first | go_keep | (refine ⟨?_,?_,?_,?_,?_⟩ <;> assumption))
   (first | (go_at_call 83;refine (yM _).mono ?_;rintro e w1 ⟨rfl,H8⟩;have Hm:Ext (w.alloc (E #[B C s.idx,B C s.term,B C s.sum,B C s.lvl,L s.fin] 41)) w1:=xT (xD (xR _)) H8;obtain ⟨g0,g1,g2,g3,g4⟩:=ae (hb.ext Hm)))
  go_wp2_with fail;go_ret
  exact ⟨by rw[HV.out];rfl,xT hX Hm⟩
 ·have e0:(s.idx==0)=false:=by rw[beq_eq_false_iff_ne];exact h0
  cases hf:s.fin with
  | true =>
   have Hs:s.ok=((s.lvl==2)&&aB s.idx&&decide (0<s.term)&&aB s.term&&aB s.sum):=by
    unfold Sta.ok;rw[if_neg h0,if_pos hf]
    congr 4
   exact mcStatea2
  | false =>
   have Hs:s.ok=(decide (s.lvl=1\/s.lvl=2)&&aB s.idx&&decide (0<s.term)&&aB s.term&&aB s.sum):=by
    unfold Sta.ok
    rw[if_neg h0,if_neg (by rw[hf];simp)]
   exact mcStatea2
def po(s:Sta):Bool:=aB s.idx&&aB s.term&&aB s.sum&&((s.term==0)==(s.idx==0))&&(s.lvl==1||s.lvl==2)&&(!s.fin||s.lvl==2)&&(decide (0<s.idx)||fg s ⟨0,0,0,1,false⟩)
theorem NC(s:Sta):po s=s.ok:=by
 obtain⟨i,t,u,l,b⟩:=s;unfold po Sta.ok fg;dsimp only;by_cases a:i=0
 ·subst a;rw[if_pos rfl,Pc];simp only[Bool.and_eq_true,Bool.or_eq_true,beq_iff_eq,decide_eq_true_eq,Bool.not_eq_true',aB];constructor
  ·rintro⟨_,h⟩;rcases h with h | ⟨⟨⟨⟨_,h1⟩,h2⟩,h3⟩,h4⟩
   ·omega
   exact⟨h1,h2,h3,h4⟩
  rintro⟨rfl,rfl,rfl,rfl⟩;simp
 ·rw[if_neg a];have e1:(i==0)=false:=by simpa using a
  have d:aB i=true->decide (0<i)=true:=λh=>decide_eq_true (by have:=numB_true.1 h;omega);cases hn:aB i with
  |false=>simp
  |true=>
   cases a:aB t with
   |false=>simp
   |true=>
    have e:=numB_true.1 a;by_cases c:t=0
    ·subst c;simp[e1]
    ·have e2:(t==0)=false:=by simpa using c
     have e3:decide (0<t)=true:=decide_eq_true (by omega);rw[e1,e2,e3,d hn];cases a:aB u with
     |false=>simp
     |true=>
      cases b
      ·simp;rw[Pc];simp
      ·by_cases a:l=2
       ·simp[a]
       ·simp[a]
theorem IA(i t u l:Int)(b:Bool)(w:World):Calls M 94 #[V #[B C i,B C t,B C u,B C l,L b]] w λe w'=>e=.returned (L (po ⟨i,t,u,l,b⟩))/\Ext w w':=by
 have hX:Ext w (w.alloc (E #[B C i,B C t,B C u,B C l,L b] 41)):=xA (xR _) _;have hb:=Blk.new w 41 #[B C i,B C t,B C u,B C l,L b];have Hf:Hid (po ⟨i,t,u,l,b⟩=(aB i&&aB t&&aB u&&((t==0)==(i==0))&&(l==1||l==2)&&(!b||l==2)&&(decide (0<i)||fg ⟨i,t,u,l,b⟩ ⟨0,0,0,1,false⟩))):=rfl;have d:=rg ⟨i,t,u,l,b⟩ ⟨0,0,0,1,false⟩;have f:=rB;dsimp only at d;go_enter func94,ntmps94
 go_wp2_with (go_at_call 161;refine(Fd _ _).mono ?_;rintro e a⟨rfl,rfl⟩)
 all_goals try(go_ret;refine⟨ret_bool ?_,xA (xR _) _⟩;rw[Hf.out];simp_all;done)
 ·subst l;obtain rfl:b=false:=by simp_all
  by_cases c:0<i
  ·skip;refine wp_region_held_drew (S:=(λw'=>w'.cell? ⟨w.heap.size,0,G⟩=I (B C i)/\w'.cell? ⟨w.heap.size,1,G⟩=I (B C t)/\w'.cell? ⟨w.heap.size,2,G⟩=I (B C u)/\w'.cell? ⟨w.heap.size,3,G⟩=I (B C 1)/\w'.cell? ⟨w.heap.size,4,G⟩=I (L false))) (by kernel_rfl) (ae (hb.ext (xD (xR _)))) (λ_=>?_);exact mcStatea0
  skip;refine wp_region_held_drew (S:=(λw'=>w'.cell? ⟨w.heap.size,0,G⟩=I (B C i)/\w'.cell? ⟨w.heap.size,1,G⟩=I (B C t)/\w'.cell? ⟨w.heap.size,2,G⟩=I (B C u)/\w'.cell? ⟨w.heap.size,3,G⟩=I (B C 1)/\w'.cell? ⟨w.heap.size,4,G⟩=I (L false))) (by kernel_rfl) (ae (hb.ext (xD (xR _)))) (λ_=>?_);refine ab 0 ?_;refine ab 1 ?_;refine ab 2 ?_;refine ab 3 ?_;refine ab 4 ?_;refine ah 5 (λK hK=>?_);go_simp;refine(nX _).mono ?_;rintro e a⟨rfl,H8⟩;have Hm:Ext (w.alloc (E #[B C i,B C t,B C u,B C 1,L false] 41)) a:=xT (xD (xR _)) H8;exact mcStatea1
 ·try subst l
  try subst b
  by_cases c:0<i
  ·skip;refine wp_region_held_drew (S:=(λw'=>w'.cell? ⟨w.heap.size,0,G⟩=I (B C i)/\w'.cell? ⟨w.heap.size,1,G⟩=I (B C t)/\w'.cell? ⟨w.heap.size,2,G⟩=I (B C u)/\w'.cell? ⟨w.heap.size,3,G⟩=I (B C 2)/\w'.cell? ⟨w.heap.size,4,G⟩=I (L true))) (by kernel_rfl) (ae (hb.ext (xD (xR _)))) (λ_=>?_);exact mcStatea0
  skip;refine wp_region_held_drew (S:=(λw'=>w'.cell? ⟨w.heap.size,0,G⟩=I (B C i)/\w'.cell? ⟨w.heap.size,1,G⟩=I (B C t)/\w'.cell? ⟨w.heap.size,2,G⟩=I (B C u)/\w'.cell? ⟨w.heap.size,3,G⟩=I (B C 2)/\w'.cell? ⟨w.heap.size,4,G⟩=I (L true))) (by kernel_rfl) (ae (hb.ext (xD (xR _)))) (λ_=>?_);refine ab 0 ?_;refine ab 1 ?_;refine ab 2 ?_;refine ab 3 ?_;refine ab 4 ?_;refine ah 5 (λK hK=>?_);go_simp;refine(nX _).mono ?_;rintro e a⟨rfl,H8⟩;have Hm:Ext (w.alloc (E #[B C i,B C t,B C u,B C 2,L true] 41)) a:=xT (xD (xR _)) H8;exact mcStatea1
 ·subst l;obtain rfl:b=false:=by simp_all
  by_cases c:0<i
  ·skip;refine wp_region_held_drew (S:=(λw'=>w'.cell? ⟨w.heap.size,0,G⟩=I (B C i)/\w'.cell? ⟨w.heap.size,1,G⟩=I (B C t)/\w'.cell? ⟨w.heap.size,2,G⟩=I (B C u)/\w'.cell? ⟨w.heap.size,3,G⟩=I (B C 2)/\w'.cell? ⟨w.heap.size,4,G⟩=I (L false))) (by kernel_rfl) (ae (hb.ext (xD (xR _)))) (λ_=>?_);exact mcStatea0
  ·skip;refine wp_region_held_drew (S:=(λw'=>w'.cell? ⟨w.heap.size,0,G⟩=I (B C i)/\w'.cell? ⟨w.heap.size,1,G⟩=I (B C t)/\w'.cell? ⟨w.heap.size,2,G⟩=I (B C u)/\w'.cell? ⟨w.heap.size,3,G⟩=I (B C 2)/\w'.cell? ⟨w.heap.size,4,G⟩=I (L false))) (by kernel_rfl) (ae (hb.ext (xD (xR _)))) (λ_=>?_);refine ab 0 ?_;refine ab 1 ?_;refine ab 2 ?_;refine ab 3 ?_;refine ab 4 ?_;refine ah 5 (λK hK=>?_);go_simp;refine(nX _).mono ?_;rintro e a⟨rfl,H8⟩;have Hm:Ext (w.alloc (E #[B C i,B C t,B C u,B C 2,L false] 41)) a:=xT (xD (xR _)) H8;exact mcStatea1
theorem qJ(s:Sta)(w:World):Calls M 94 #[V #[B C s.idx,B C s.term,B C s.sum,B C s.lvl,L s.fin]] w λe w'=>e=.returned (L s.ok)/\Ext w w':=by
 rw[<-NC s];exact IA s.idx s.term s.sum s.lvl s.fin w
open Go.RowKit Go.Mv Go.Shelf
theorem mcPiecesIta0(h:P:=by
 obtain⟨R,hy,hR⟩:=Fin W5 Ho;refine ew hy ?_;rintro e W6 hr;obtain⟨k2,⟨rfl,hI⟩|⟨rfl,hj⟩⟩:=hR _ _ hr
 ·refine⟨true,rfl,?_⟩;have K2:=T k2;have Kt:=T hI;refine bT 5 ?_;refine wpAnyIn_done (by kernel_rfl) (eV ?_) _;simp only[Act.put,sA,sZ,sS];gi_wp2;exact⟨K2.out,Kt.out⟩
 ·refine⟨false,rfl,?_⟩;have K2:=T k2;have Ku:=T hj;refine bT 5 ?_;refine wpAnyIn_done (by kernel_rfl) (eV ?_) _;simp only[Act.put,sA,sZ,sS];gi_wp2;exact⟨K2.out,rfl,Ku.out⟩):P:=h
attribute [local go_sem] Oper.semAt_some pN
def fE(z:Nat×Nat)(a:List (List UInt8)):Nat×Nat:=a.foldl aD z
def dt(z:Nat×Nat):List (List UInt8)->List (List UInt8×(Nat×Nat))
 |[]=>[]
 |p::ps=>(p,aD z p)::dt (aD z p) ps
def fc(x:List UInt8×(Nat×Nat)):List UInt8:=x.1++aW x.2
theorem LC(z:Nat×Nat)(a:List (List UInt8))(p:List UInt8):fE z (a++[p])=aD (fE z a) p:=by unfold fE;rw[List.foldl_append];rfl
theorem nW(a b:List (List UInt8)):∀(z:Nat×Nat),dt z (a++b)=dt z a++dt (fE z a) b:=by
 induction a with
 |nil=>intro z;rfl
 |cons x a ih=>intro z;rw[P6,dt,ih,dt];rfl
theorem Fj(z:Nat×Nat)(t:List UInt8):(dt z (bg 4 t)).flatMap fc=bA z t:=by
 generalize hn:Z t=n;induction n using Nat.strongRecOn generalizing z t with
 |_ n ih=>
  rcases Nat.eq_zero_or_pos (Z t)with h | h
  ·have:t=[]:=List.eq_nil_of_length_eq_zero h;subst this;rw[mw,mF];rfl
  ·rw[mD 4 t (by decide) h,dt,Pa,ih (t.drop 4).length (by rw[List.length_drop];omega) _ (t.drop 4) rfl,mh z t h];unfold fc;rw[List.append_assoc]
def PcK(a:Nat)(k:Nat)(o:Obj):Prop:=o.isCells=true/\k≠a
def PcM(a:Nat)(k:Nat)(o:Obj):Prop:=a<=k/\o.ty=I 212
def PcI(c:World)(N l:Nat)(z:Nat×Nat)(J:List (List UInt8×(Nat×Nat))->World->Prop)(a:List (List UInt8))(W:World):Prop:=
 ∃b,J (dt z a) W/\Boxed W (N+1) 212 b/\PtV b (fE z a)/\Boxed W N 333 (.func (.yield l) #[] #[])/\Hold c W/\N<=W.heap.size
theorem Fk(m b:World)(v:Value)(t:List UInt8)(U:Bs m v t)(HD:Z t<=2000000)(hH:Hold m b)(bt bo N:Nat)(KA:Boxed b bt 33 v)(Jf:N<=b.heap.size)(Jg:m.heap.size<=N)(Jb:m.heap.size<=bo)(KK:bo<b.heap.size):
  Seq M 296 #[O (I ⟨bt,0,G⟩)]
   (λ(x:List UInt8×(Nat×Nat)) av W=>∃u,av = #[u,.agg ((aW x.2).map bv).toArray]/\Bs W u x.1/\Z x.1<=4) (PcK bo) (PcM N) (dt (0,0) (bg 4 t)) b:=by
 intro l J Jx hJ Ke hY h0;obtain⟨A,c,rfl,h1,h2⟩:=xO U;have c1:=KA.cell;have Kg:bt<b.heap.size:=P0 b _ c1;refine(callsIn_wd (ro:=none) (n:=9)).1 ?_;refine callsIn_of_wp_marks func296 rfl trivial ?_ rfl;simp only[ntmps296,P8,xC,Pb,Pg,Pf,Pe,Pd,P9,P7,xI,P6];gi_wp2_with (refine⟨trivial,?_⟩;gi_at_call 205;refine(callsIn_wd.2 (qg _ _ _ 4 (by decide) _)).mono ?_;rintro e w' ⟨rfl,rfl⟩)
 have q0:Boxed ((((b.alloc (E #[.func (.yield l) #[] #[]] 333)).alloc (E #[.complex .f64 0 0] 212)).alloc (E #[F A t.length c] 33)).alloc (E #[B C 4] 3)) b.heap.size 333 (.func (.yield l) #[] #[]):=(((P4 b _ _).alloc _).alloc _).alloc _;have qz:Boxed ((((b.alloc (E #[.func (.yield l) #[] #[]] 333)).alloc (E #[.complex .f64 0 0] 212)).alloc (E #[F A t.length c] 33)).alloc (E #[B C 4] 3)) (b.heap.size+1) 212 (.complex .f64 0 0):=by
  have:=P4 (b.alloc (E #[.func (.yield l) #[] #[]] 333)) 212 (.complex .f64 0 0);rw[xS]at this;exact(this.alloc _).alloc _
 have q1:Boxed ((((b.alloc (E #[.func (.yield l) #[] #[]] 333)).alloc (E #[.complex .f64 0 0] 212)).alloc (E #[F A t.length c] 33)).alloc (E #[B C 4] 3)) (b.heap.size+1+1) 33 (F A t.length c):=by
  have:=P4 ((b.alloc (E #[.func (.yield l) #[] #[]] 333)).alloc (E #[.complex .f64 0 0] 212)) 33 (F A t.length c);rw[xS,xS]at this;exact this.alloc _
 have q2:Boxed ((((b.alloc (E #[.func (.yield l) #[] #[]] 333)).alloc (E #[.complex .f64 0 0] 212)).alloc (E #[F A t.length c] 33)).alloc (E #[B C 4] 3)) (b.heap.size+1+1+1) 3 (B C 4):=by
  have:=P4 (((b.alloc (E #[.func (.yield l) #[] #[]] 333)).alloc (E #[.complex .f64 0 0] 212)).alloc (E #[F A t.length c] 33)) 3 (B C 4);rwa[xS,xS,xS]at this
 have Hd:Ext b ((((b.alloc (E #[.func (.yield l) #[] #[]] 333)).alloc (E #[.complex .f64 0 0] 212)).alloc (E #[F A t.length c] 33)).alloc (E #[B C 4] 3)):=xA (xA (xA (xA (xR _) _) _) _) _;have KT:Moves (am (PcM N) b.heap.size) b ((((b.alloc (E #[.func (.yield l) #[] #[]] 333)).alloc (E #[.complex .f64 0 0] 212)).alloc (E #[F A t.length c] 33)).alloc (E #[B C 4] 3)):=(((Moves.refl.alloc _).alloc _).alloc _).alloc _;have KX:((((b.alloc (E #[.func (.yield l) #[] #[]] 333)).alloc (E #[.complex .f64 0 0] 212)).alloc (E #[F A t.length c] 33)).alloc (E #[B C 4] 3)).heap.size=b.heap.size+4:=by simp
 have KF:=hJ _ _ _ h0 KT;generalize((((b.alloc (E #[.func (.yield l) #[] #[]] 333)).alloc (E #[.complex .f64 0 0] 212)).alloc (E #[F A t.length c] 33)).alloc (E #[B C 4] 3))=w2 at *;have KE:Hold m w2:=λq u z=>P3 Hd (hH q u z);refine dV (a:=⟨_,_⟩) rfl (enters_of func236 (by kernel_rfl) rfl)
  (λW1 hb _=>tp 4 (by decide) (by decide) m W1 _ t U HD (b.heap.size+1+1) (b.heap.size+1+1+1) (q1.kept (row:=none) (P2 hb none) (by simp)) (q2.kept (row:=none) (P2 hb none) (by simp)))
  (λk o h=>h.elim) (λk o h=>by rcases h with h | h<;>exact eE h.2) (λx av W h=>by obtain⟨_,_,rfl,_⟩:=h;rfl)
  (PcI m b.heap.size l (0,0) J) (λcd ps W=>cd=Code.ret/\Jx (dt (0,0) ps) W) ?hI ?hIx ⟨_,KF,qz,PtV.zero,q0,KE,by omega⟩
  (λx a' _=>∃K H,Bs m (F (I ⟨K,H,G⟩) x.length (Z x)) x/\Z x<=4/\a'=⟨#[.func (.yield l) #[] #[],O (I ⟨bt,0,G⟩),O (I ⟨b.heap.size,0,G⟩),O (I ⟨b.heap.size+1,0,G⟩),F (I ⟨K,H,G⟩) x.length (Z x),F A t.length c,.func (.func 236) #[] #[O (I ⟨b.heap.size+1+1,0,G⟩),O (I ⟨b.heap.size+1+1+1,0,G⟩)],F (I ⟨K,H,G⟩) x.length (Z x),undef,undef,undef,undef,undef,undef,undef,undef,undef,undef],[]⟩)
  (λ_ _ _ _ h _=>h) ?assign ?body ?done ?stop
 case hI=>
  rintro cs X Y⟨zv,hj,hb,hp,hy,hh,hs⟩hm;have KR:Moves (am (PcM N) b.heap.size) X Y:=hm.weaken (λk o h=>by rcases h with h | h;exact h.elim;exact .inr ⟨by omega,h.2⟩);refine⟨zv,hJ _ _ _ hj KR,hm.boxed hb ?_,hp,hm.boxed hy ?_,hh.moves hm ?_,Ph hs hm.size⟩
  ·rintro(h | h)
   ·exact h
   cases h.2
  ·rintro(h | h)
   ·exact h
   cases h.2
  rintro k o _ hc(h | h)
  ·exact h
  rw[hc]at h;cases h.2
 case hIx=>
  rintro cd cs X Y⟨rfl,hj⟩hm;exact⟨rfl,Ke _ _ _ hj (hm.weaken (λk o h=>by rcases h with h | h;exact h.elim;exact .inr ⟨by omega,h.2⟩))⟩
 case assign=>
  rintro l' H1 x Hk W av X hx hi K7⟨K,H,rfl,hu,_,Hl⟩V;gi_wp2;exact V _ _ Kept.refl hi ⟨K,H,hu,Hl,rfl⟩
 case body=>
  rintro l' H1 x Hk a' W hx X hr⟨zv,hj,hb,hp,hy,hh,hs⟩K7⟨K,H,hu,Hl,rfl⟩;have KW:=hp.pt;obtain⟨z1,z2,rfl,Y,Kr⟩:=hp;have X:Bs W (F (I ⟨K,H,G⟩) x.length (Z x)) x:=SlR.keep hu hh;have J3:=T X;have cb:=hb.cell;have Jc:b.heap.size+1<W.heap.size:=P0 W _ cb;have HI:=T (show PcI m b.heap.size l (0,0) J H1 W from⟨_,hj,hb,⟨z1,z2,rfl,Y,Kr⟩,hy,hh,hs⟩);have Y:=lU X;have X:=T Y;gi_wp2_with (refine⟨trivial,?_⟩;gi_at_call 297;refine(callsIn_wd.2 (qI z1 z2 _ _ _ X.out)).mono ?_;rintro e p⟨X,rfl,HO,hE⟩;rw[show[x].flatten=x from by simp,KW]at HO;have Kv:=T HO;have K6:=HO.pt;obtain⟨d,g,rfl,_,_⟩:=HO;have H7:Ext W p:=xT (xA (xR _) _) hE;have X:Boxed p (b.heap.size+1) 212 (.complex .f64 z1 z2):=hb.kept (row:=none) (P2 H7 none) (by simp);have Y:Boxed p b.heap.size 333 (.func (.yield l) #[] #[]):=hy.kept (row:=none) (P2 H7 none) (by simp);have J4:=X.cell;have J8:=X.frozen)
  have hb3:Boxed (p.setCell ⟨b.heap.size+1,0,G⟩ (.complex .f64 d g)) (b.heap.size+1) 212 (.complex .f64 d g):=X.set _;have Kp:Boxed (p.setCell ⟨b.heap.size+1,0,G⟩ (.complex .f64 d g)) b.heap.size 333 (.func (.yield l) #[] #[]):=Y.other (by omega) _;have Kd:=hb3.cell;have HW:=Kp.cell;have Ki:Moves (am (PcM N) b.heap.size) W (p.setCell ⟨b.heap.size+1,0,G⟩ (.complex .f64 d g)):=
   (Moves.refl.below H7 (xN _)).setCell (λo s _=>.inl ⟨by show N<=b.heap.size+1;omega,by rw[show W.heap[b.heap.size+1]?=_ from hb]at s;cases s;rfl⟩) _
  have k1:Kept (am (λk o=>(k=b.heap.size+1+1/\o.ty=I 33)\/(k=b.heap.size+1+1+1/\o.ty=I 3)) w2.heap.size) W (p.setCell ⟨b.heap.size+1,0,G⟩ (.complex .f64 d g)):=
   (Kept.refl.below H7 (xN _)).setCell (λo s hc=>by
    rintro((⟨h,_⟩|⟨h,_⟩)| ⟨h,_⟩)
    ·have:b.heap.size+1=b.heap.size+1+1:=h;omega
    ·have:b.heap.size+1=b.heap.size+1+1+1:=h;omega
    have:w2.heap.size<=b.heap.size+1:=h;omega) _
  have KN:Hold m (p.setCell ⟨b.heap.size+1,0,G⟩ (.complex .f64 d g)):=λq u z=>by
   have K3:=P0 m q z;exact(World.cell?_setCell_other _ _ _ _ (λe=>by rw[<-e]at K3;have:b.heap.size+1<m.heap.size:=K3;omega)).trans (P3 H7 (hh q u z))
  have X:dt (0,0) (bg 4 t)=dt (0,0) H1++(x,aD (fE (0,0) H1) x)::dt (aD (fE (0,0) H1) x) Hk:=by rw[hx,nW,dt]
  have Y:(p.setCell ⟨b.heap.size+1,0,G⟩ (.complex .f64 d g)).heap.size=p.heap.size:=by simp[World.setCell]
  have fin:∀W5:World,Ext (p.setCell ⟨b.heap.size+1,0,G⟩ (.complex .f64 d g)) W5->∃R:Ending->World->Prop,Mv.YieldsAt M l #[F (I ⟨K,H,G⟩) x.length (Z x),.agg ((aW (aD (fE (0,0) H1) x)).map bv).toArray] W5 R/\(∀e W6,R e W6->Kept (am (λk o=>(k=b.heap.size+1+1/\o.ty=I 33)\/(k=b.heap.size+1+1+1/\o.ty=I 3)) w2.heap.size) W W6 /\
    ((e=.returned (L true)/\PcI m b.heap.size l (0,0) J (H1++[x]) W6)\/(e=.returned (L false)/\Jx (dt (0,0) (H1++[x])) W6))):=by
   intro W5 y;have Y:=hJ _ _ _ hj (Ki.below y (xN _));have HK:b.heap.size<=W5.heap.size:=by have:=H7.size;have:=y.size;omega
   have K1:Hold m W5:=λq u z=>P3 y (KN q u z);have KJ:Boxed W5 (b.heap.size+1) 212 (.complex .f64 d g):=hb3.kept (row:=none) (P2 y none) (by simp);have J1:Boxed W5 b.heap.size 333 (.func (.yield l) #[] #[]):=Kp.kept (row:=none) (P2 y none) (by simp);have J:=hY _ _ _ X W5 #[F (I ⟨K,H,G⟩) x.length (Z x),.agg ((aW (aD (fE (0,0) H1) x)).map bv).toArray] Y HK ⟨_,rfl,SlR.keep hu K1,Hl⟩;have K:=k1.below y (xN _);refine⟨_,J,?_⟩;rintro e W6⟨HB,H⟩;have k2:=K.trans (HB.mono (λk o h=>by
    rcases h with(⟨h,U⟩|⟨h,U⟩) | ⟨h,U⟩
    ·exact .inl ⟨eE U,by omega⟩
    ·exact .inl ⟨eE U,by omega⟩
    exact .inr ⟨by omega,U⟩))
   refine⟨k2,?_⟩;rcases H with⟨rfl,hj4⟩|⟨rfl,hj4⟩
   ·refine .inl ⟨rfl,(.complex .f64 d g),by rw[nW];exact hj4,HB.boxed KJ (.inl ⟨rfl,by omega⟩),by rw[LC];exact Kv.out,HB.boxed J1 (.inl ⟨rfl,by omega⟩),?_,Ph HK HB.size⟩;intro q u z;have K3:=P0 m q z;obtain⟨o,s,hc⟩:=cells_of_cell (K1 q u z);exact HB.cell (K1 q u z) (λm Kj=>by rw[s]at Kj;cases Kj;exact .inl ⟨hc,by omega⟩)
   exact .inr ⟨rfl,by rw[nW];exact hj4⟩
  have Fin:=T fin;have hf:∀m:World,Calls M 298 #[(.complex .f64 d g)] m λe w'=>e=.returned (.agg ((aW (aD (fE (0,0) H1) x)).map bv).toArray)/\Ext m w':=by
   intro m;have:=AJ d g m;unfold i7 at this;rw[K6]at this;exact this
  have HF:=T hf;have Hw:Ext (p.setCell ⟨b.heap.size+1,0,G⟩ (.complex .f64 d g)) (p.setCell ⟨b.heap.size+1,0,G⟩ (.complex .f64 d g)).drew:=xD (xR _);refine nE ?_;refine aC 1 ?_;refine mi (Read4 (⟨b.heap.size+1,0,G⟩,.complex .f64 d g) (⟨b.heap.size+1,0,G⟩,.complex .f64 d g) (⟨b.heap.size,0,G⟩,.func (.yield l) #[] #[]) (⟨b.heap.size,0,G⟩,.func (.yield l) #[] #[])) [3,4,5] (i:=2) (v:=?v2) rfl rfl (by kernel_rfl) (by kernel_rfl) (by kernel_rfl) (by kernel_rfl) (by kernel_rfl) (λ_ _ _ h=>h) (λw o d=>d.alloc o) (⟨Kd,Kd,HW,HW⟩) (np rfl (λw d=>?h2) (λw=>rfl)) ?r2
  case h2=>obtain⟨g,m,p,z⟩:=d;dsimp only at g m p z;go_simp;try with_reducible rfl
  refine Iu (i:=0) (j:=3) (vi:=?va3) (f:=298) (args:=?vb3) (wi:=?wa3) (wj:=?wb3) (by kernel_rfl) rfl rfl rfl rfl rfl ?ha3 ?hb3 ?ra3 ?rb3
  case ha3=>go_simp;try(first|with_reducible rfl | (refine⟨?_,?_⟩<;>with_reducible rfl))
  case hb3=>go_simp;try(first|with_reducible rfl | (refine⟨?_,?_⟩<;>with_reducible rfl))
  case' ra3=>skip
  case' rb3=>skip
  ·refine(HF _).mono ?_;rintro e W5⟨rfl,y⟩;have Ho:=xT Hw y;have d:=Ho.cell HW;refine⟨_,rfl,?_⟩;refine bT 0 ?_;refine yl (i:=4) rfl (by kernel_rfl) rfl rfl ?h5 ?r5
   case h5=>first | (intro f hf;exact trivial) | (intro f hf;cases hf)
   case' r5=>go_simp
   exact mcPiecesIta0
  skip;refine lv (i:=3) (f:=298) (args:=?b10) (w':=?w10) (by kernel_rfl) rfl rfl ?h10 ?r10
  case h10=>go_simp;try(first|with_reducible rfl | (refine⟨?_,?_⟩<;>with_reducible rfl))
  refine(HF _).mono ?_;rintro e W5⟨rfl,y⟩;have Ho:=xT Hw y;refine⟨_,rfl,?_⟩;refine yl (i:=4) rfl (by kernel_rfl) rfl rfl ?h11 ?r11
  case h11=>first | (intro f hf;exact trivial) | (intro f hf;cases hf)
  case' r11=>go_simp
  exact mcPiecesIta0
 case done=>
  rintro D W hD⟨zv,hj,hb,hp,hy,hh,hs⟩V;have K4:Moves (am (PcM N) b.heap.size) W (W.putObj D (.deferred none)):=Moves.refl.putObj (λo s=>.inr ⟨by omega,by rw[V]at s;cases s;rfl⟩) _;have HJ:=T (hJ _ _ _ hj K4);gi_wp2;refine rO V _ (results_none rfl _ _ _) ?_;exact⟨⟨_,rfl⟩,.inl HJ.out⟩
 case stop=>
  rintro D cd H1 W hD K5⟨rfl,hj⟩V;have K4:Moves (am (PcM N) b.heap.size) W (W.putObj D (.deferred none)):=Moves.refl.putObj (λo s=>.inr ⟨by omega,by rw[V]at s;cases s;rfl⟩) _;have HJ:=T (Ke _ _ _ hj K4);have b:dt (0,0) H1 <+: dt (0,0) (bg 4 t):=by
   obtain⟨r,hr⟩:=K5;rw[<-hr,nW];exact⟨_,rfl⟩
  have Kw:=T b;gi_wp2;refine dh V _ (results_none rfl _ _ _) ?_;exact⟨⟨_,rfl⟩,.inr ⟨_,Kw.out,HJ.out⟩⟩
attribute [local go_sem] Oper.semAt_some
theorem pd{W:World}{d e f:Value}{a b c:List UInt8}(g:Bs W d a)(hb:Bs W e b)(hc:Bs W f c):Parts (W.alloc (E #[d,e,f] 33)) (F (I ⟨W.heap.size,0,G⟩) 3 3) [a,b,c]:=by
 refine⟨[d,e,f],rfl,xW (be W [d,e,f] 33 3 (xN _)),λi d e=>?_⟩;match i,d with
 |0,_=>exact P1 g (xA (xR _) _)
 |1,_=>exact P1 hb (xA (xR _) _)
 |2,_=>exact P1 hc (xA (xR _) _)
theorem EI(A:Option Addr)(n c:Nat)(w:World):Calls M 282 #[F A n c] w λe w'=>e=.returned (.func (.func 296) #[] #[O (I ⟨w.heap.size,0,G⟩)])/\w.alloc (E #[F A n c] 33)=w':=by
 go_enter func282,ntmps282
 go_wp2;go_ret;exact⟨rfl,rfl⟩
def PsI(w:World)(H1:List (List UInt8×(Nat×Nat)))(X:World):Prop:=∃v,Boxed X w.heap.size 33 v/\X.ownsRow w.heap.size 5 1 v (H1.flatMap fc).length ((H1.flatMap fc).map bv)/\Below w.heap.size w X
theorem F3(v:Value)(t:List UInt8)(w:World)(C:Bs w v t)(z:Z t<=100000):Calls M 243 #[v] w (nw w (bA (0,0) t)):=by
 obtain⟨A,c,rfl,h1,h2⟩:=xO C;refine(callsIn_wd (ro:=none) (n:=9)).1 ?_;refine callsIn_of_wp_marks func243 rfl trivial ?_ rfl;simp only[ntmps243,P8,xC,Pb,Pg,Pf,Pe,Pd,P9,P7,xI,P6];have HN:=Fj (0,0) t;have z:=qm (0,0) t;gi_wp2_with (refine⟨trivial,?_⟩;gi_at_call 282;refine(callsIn_wd.2 (EI _ _ _ _)).mono ?_;rintro e w' ⟨rfl,rfl⟩)
 have qb:Boxed ((w.alloc (E #[F none 0 0] 33)).alloc (E #[F A t.length c] 33)) w.heap.size 33 (F none 0 0):=(P4 w _ _).alloc _;have qt:Boxed ((w.alloc (E #[F none 0 0] 33)).alloc (E #[F A t.length c] 33)) (w.heap.size+1) 33 (F A t.length c):=by
  have:=P4 (w.alloc (E #[F none 0 0] 33)) 33 (F A t.length c);rwa[xS]at this
 have z:Ext w ((w.alloc (E #[F none 0 0] 33)).alloc (E #[F A t.length c] 33)):=xA (xA (xR _) _) _;have KX:((w.alloc (E #[F none 0 0] 33)).alloc (E #[F A t.length c] 33)).heap.size=w.heap.size+2:=by simp
 have J:PsI w [] ((w.alloc (E #[F none 0 0] 33)).alloc (E #[F A t.length c] 33)):=⟨_,qb,World.ownsRow_nil _ _ _ _,z⟩;generalize(w.alloc (E #[F none 0 0] 33)).alloc (E #[F A t.length c] 33)=w2 at *;refine dV (a:=⟨_,_⟩) rfl (enters_of func296 (by kernel_rfl) rfl)
  (λW1 hb hs=>Fk w W1 _ t C (by omega) (λq u hc=>P3 (xT z hb) hc) (w.heap.size+1) w.heap.size w2.heap.size (qt.kept (row:=none) (P2 hb none) (by simp)) hb.size (by omega) (xN _) (by have:=hb.size;omega))
  (λk o h=>eE h.2) (λk o h=>h.1) (λx H W h=>by obtain⟨u,rfl,_⟩:=h;rfl)
  (PsI w) (λ_ _ _=>False) ?hI (λ_ _ _ _ h _=>h) J
  (λx a' W=>∃u q,Bs W u x.1/\Z x.1<=4/\Bs W (F (I ⟨q,0,G⟩) 4 4) (aW x.2)/\a'=⟨#[F A t.length c,undef,O (I ⟨w.heap.size,0,G⟩),u,O (I ⟨q,0,G⟩),F A t.length c,.func (.func 296) #[] #[O (I ⟨w.heap.size+1,0,G⟩)],u,.agg ((aW x.2).map bv).toArray,undef,undef,undef,undef,undef,undef],[]⟩)
  ?hAx ?assign ?body ?done ?stop
 case hI=>
  rintro s X Y⟨y,b,K,m⟩hm;refine⟨y,hm.boxed b ?_,hm.ownsRow K ?_,hm.belowOf m ?_ (xN _)⟩
  ·rintro(h | h)
   ·cases h.2
   cases h.2
  ·rintro k z _(h | h)
   ·cases h.2
   cases h.2
  rintro k o z(h | h)
  ·have:=h.1;omega
  have:=h.1;omega
 case hAx=>
  rintro x a' X Y⟨u,q,r,Hl,d,rfl⟩hm;refine⟨u,q,SlR.keep r (λq t d=>hm.cell d (λo ho hc=>?_)),Hl,SlR.keep d (λq t d=>hm.cell d (λo ho hc=>?_)),rfl⟩
  all_goals
   rintro(h | h)
   ·exact h
   rw[hc]at h;cases h.2
 case assign=>
  rintro l H1 x Hk W H z hx hi K7⟨u,rfl,r,Hl⟩R;obtain⟨z,C,H,J,hf⟩:=LX x.2;rw[hf];have X:=T hx;have X:=T hf;simp only[List.map_cons,List.map_nil,bv];obtain⟨y,b,K,m⟩:=hi;have Hi:Hid (PsI w H1 (W.alloc (E #[B U (z.toNat:Int),B U (C.toNat:Int),B U (H.toNat:Int),B U (J.toNat:Int)] 188))):=⟨y,b.alloc _,K.alloc _,Below.alloc m m.size _⟩;have Y:Bs (W.alloc (E #[B U (z.toNat:Int),B U (C.toNat:Int),B U (H.toNat:Int),B U (J.toNat:Int)] 188)) (F (I ⟨W.heap.size,0,G⟩) 4 4) (aW x.2):=by
   rw[X.out];exact fZ (cs:=[z,C,H,J].map bv) (Blk.new W _ _) rfl (by simp[maxLen])
  have Ks:=T Y;have Y:Hid (Bs (W.alloc (E #[B U (z.toNat:Int),B U (C.toNat:Int),B U (H.toNat:Int),B U (J.toNat:Int)] 188)) u x.1):=P1 r (xA (xR _) _);gi_wp2;exact R _ _ (Kept.refl.alloc _) Hi ⟨u,W.heap.size,Y.out,Hl,Ks.out,by rw[X.out];rfl⟩
 case body=>
  rintro l H1 x Hk a' W hx hl K⟨y,b,H3,m⟩K7⟨u,q,r,Hl,d,rfl⟩;have z:Z (H1.flatMap fc)+(Z x.1+4)<=40000000:=by
   have:=congrArg (λl=>Z (List.flatMap fc l)) hx;simp only[HN,List.flatMap_append,Pa,xL,fc,iM]at this;omega
  have z:(H1++[x]).flatMap fc=H1.flatMap fc++(x.1++aW x.2):=by simp[fc]
  have HR:=T z;generalize H1.flatMap fc=Q at *;obtain⟨g,j,rfl,_,_⟩:=xO (xW H3);have Ko:=r;obtain⟨A2,Kz,rfl,_,_⟩:=xO r;have hc:=b.cell;have r:Boxed W.drew w.heap.size 33 (F g Q.length j):=b;have z:Parts (W.drew.alloc (E #[F g Q.length j,F A2 x.1.length Kz,F (I ⟨q,0,G⟩) 4 4] 33)) (F (I ⟨W.heap.size,0,G⟩) 3 3) [Q,x.1,aW x.2]:=pd (W:=W.drew) (P1 (xW H3:Bs W (F g Q.length j) Q) (xD (xR _))) (P1 Ko (xD (xR _))) (P1 d (xD (xR _)));have r:[Q,x.1,aW x.2].flatten=Q++(x.1++aW x.2):=by simp
  have C:=T z;have z:=T r;have HA:Z (aW x.2)=4:=iM _;have N:=T m;gi_wp2;refine nE ?_;refine aC 1 ?_;refine aC 2 ?_;refine bT 0 ?_;refine bT 3 ?_;refine lv (i:=4) (f:=239) (args:=?b5) (w':=?w5) (by kernel_rfl) rfl rfl ?h5 ?r5
  case h5=>go_simp;try(first|with_reducible rfl | (refine⟨?_,?_⟩<;>with_reducible rfl))
  have r:=pG _ _ _ C (by rw[z.out,xL,xL,HA];omega);rw[z.out]at r;refine r.mono ?_;rintro e L⟨r,rfl,Kk,H8⟩;obtain⟨V,Kc,rfl,_,_⟩:=xO (xW Kk);have z:Ext W L:=xT (xA (xD (xR _)) _) H8;have r:Boxed L w.heap.size 33 (F g Q.length j):=b.kept (row:=none) (P2 z none) (by simp);have C:=r.cell;have C:=r.frozen;refine⟨_,rfl,?_⟩;refine iG 5 ?_;refine wpAnyIn_done (by kernel_rfl) (eV ?_) _;simp only[Act.put,sA,sZ,sS];gi_wp2;have H:Z (Q++(x.1++aW x.2))=Z Q+(Z x.1+4):=by rw[xL,xL,HA]
  have C:L.ownsRow w.heap.size 5 1 (F V (Z Q+(Z x.1+4)) Kc) (Q++(x.1++aW x.2)).length ((Q++(x.1++aW x.2)).map bv):=by
   have h:=ay Kk (base':=w.heap.size) (by have:=N.size;simp;omega);rw[H]at h⊢;exact h
  refine⟨(Kept.refl.below z (xN _)).setCell (λo ho _=>?_) _,_,r.set _,?_,?_⟩
  ·rintro(⟨_,h⟩|⟨h,_⟩)
   ·exact h rfl
   have:w2.heap.size<=w.heap.size:=h;omega
  ·rw[HR.out];exact C.kept (grownBy_setCell' L w.heap.size (F V (Z Q+(Z x.1+4)) Kc)) (.inr (r.not_row (by decide) C).symm)
  exact(Below.trans N (z.mono N.size)).setCell (p:=⟨w.heap.size,0,G⟩) (xN _) _
 case done=>
  rintro D W hD⟨y,b,H3,m⟩R;rw[HN]at H3;obtain⟨q,d⟩:∃q,bA (0,0) t=q:=⟨_,rfl⟩;rw[d]at H3;have Hq:=T d;obtain⟨g,j,rfl,_,_⟩:=xO (xW H3);have hc:=b.cell;have hf:=b.frozen;gi_wp2;have d:=H3.kept (grownBy_setCell' W w.heap.size (F g q.length j)) (.inr (b.not_row (by decide) H3).symm);have y:=b.set (F g q.length j);have b:=dK R rfl ⟨w.heap.size,0,G⟩ (F g q.length j);have r:=fL y.cell b rfl (.deferred none);refine dh b (F g q.length j) (by simp[results,results243,go_sem,r]) ⟨_,rfl,by rw[Hq.out];exact ownsRow_putObj d (.deferred none) b rfl,?_⟩;exact cp (m.setCell (p:=⟨w.heap.size,0,G⟩) (xN _) _) _
 case stop=>
  rintro D c H1 W _ _ h _;exact h.elim
end Go.Proofs.YteggfecbjgbndaaGreatDoor

namespace Go.Mv
open Go.RowKit
theorem mcTexta0{P:Prop}(h:P:=by
 simp only[n9]at hp;refine(pG _ [[1],aP [s.idx,s.term,s.sum],[xl,xf]] _ hp (by rw[HR.out];omega)).mono ?_;rintro e w6⟨vc,rfl,Kl,KC⟩;rw[Kb.out]at Kl;try(go_wp2_with fail)
 have Hj:=xT (xA H7 (E #[F (I ⟨_,0,G⟩) 1 1,F Av (aP [s.idx,s.term,s.sum]).length cv,F (I ⟨_,0,G⟩) 2 2] 33)) KC;refine af hK _ _ (ae (hb.ext Hj)) (λ_=>?_);refine ah 11 (λK hK=>?_);go_simp;refine(sR _ _ _ (xW Kl) (by rw[HS.out];omega) (by rw[HS.out];omega) (HT.ext (xT hX Hj))).mono ?_;rintro e w7⟨A7,c7,rfl,KV,KD⟩;try(go_wp2_with fail)
 have Hv:=xT Hj KD;refine af hK _ _ (ae (hb.ext Hv)) (λ_=>?_);refine ab 12 ?_;refine aq ?_;go_wp2_with fail;go_ret;have K0:OwnB w7 w.heap.size (F A7 (bh rT (1::(aP [s.idx,s.term,s.sum]++[xl,xf]))).length c7) (bh rT (1::(aP [s.idx,s.term,s.sum]++[xl,xf]))):=ay KV (xT hX Hj).size;rw[Ky.out];exact⟨A7,c7,rfl,K0,xT hX Hv⟩):P:=h
section
variable {P:Program} {ops:Array Oper} {Q:Exit->Act->World->Prop} {md:Region.Mode} {S:World->Prop}
theorem AllReadyH.two{fuel:Nat}{b:Array Bool}{a:Act}{w:World}{i j:Nat}{o d:Oper}(g:ops.toList[i]?=I o)(e:ops.toList[j]?=I d)(k:Region.ready md ops b=[i,j])(l:Region.wanted o (yielded ops a.tmps)=true)(f:Region.wanted d (yielded ops a.tmps)=true)(h:∀c:Act->World->Prop,Shut (∀a w,S w->(S w->wpAnyH P md ops Q S fuel (b.setIfInBounds i true) a w)->c a w)->Oper.wp P o a w c Q)(h2:∀c:Act->World->Prop,Shut (∀a w,S w->(S w->wpAnyH P md ops Q S fuel (b.setIfInBounds j true) a w)->c a w)->Oper.wp P d a w c Q):wpAnyH P md ops Q S (fuel+1) b a w:=
 wpAnyH_ready k (by simp) (AllReadyH.cons (by simpa using g) (λK b=>by rw[if_pos l];exact h K b) (AllReadyH.cons (by simpa using e) (λK b=>by rw[if_pos f];exact h2 K b) AllReadyH.nil))
end
end Go.Mv
namespace Go.Proofs.YteggfecbjgbndaaGreatDoor
open Go.RowKit Go.Mv
theorem n9(w:World)(o:Obj):(w.alloc o).heap.size=w.heap.size+1:=by
 show(w.heap.push o).size=_;simp
theorem is5(W:World)(a b c d e:Int):Is (W.alloc (E #[B C a,B C b,B C c,B C d,B C e] 3)) (F (I ⟨W.heap.size,0,G⟩) 5 5) [a,b,c,d,e]:=
 xW (be W [B C a,B C b,B C c,B C d,B C e] 3 5 (xN _))
theorem Nf(s:Sta)(w:World)(h:s.ok=true):Calls M 242 #[V #[B C s.idx,B C s.term,B C s.sum,B C s.lvl,L s.fin]] w (nu w s.ints):=by
 have H:=T h;have i:=T (Sta.nums h);have c:Hid (s.ints=[s.idx,s.term,s.sum,s.lvl,s.finI]):=rfl;have hb:=Blk.new w 41 #[B C s.idx,B C s.term,B C s.sum,B C s.lvl,L s.fin];go_enter func242,ntmps242
 go_wp2_with fail
 refine(ik s _).mono ?_;rw[H.out];rintro e g⟨rfl,H8⟩;go_wp2_with fail
 have d:Ext w (w.alloc (E #[B C s.idx,B C s.term,B C s.sum,B C s.lvl,L s.fin] 41)):=xA (xR _) _;refine wp_region_held_drew (S:=λw'=>w'.cell? ⟨w.heap.size,0,G⟩=I (B C s.idx)/\w'.cell? ⟨w.heap.size,1,G⟩=I (B C s.term)/\w'.cell? ⟨w.heap.size,2,G⟩=I (B C s.sum)/\w'.cell? ⟨w.heap.size,3,G⟩=I (B C s.lvl)/\w'.cell? ⟨w.heap.size,4,G⟩=I (L s.fin)) (by kernel_rfl) (ae (hb.ext (xD H8))) (λ_=>?_);refine ab 0 ?_;refine ab 1 ?_;refine ab 2 ?_;refine ab 3 ?_;refine ab 4 ?_;refine ab 5 ?_;refine ab 6 ?_;refine ab 7 ?_;refine ab 8 ?_;refine ah 9 (λK a=>?_);go_simp;refine(qA s _).mono ?_;rintro e f⟨rfl,g⟩;have b:Ext (w.alloc (E #[B C s.idx,B C s.term,B C s.sum,B C s.lvl,L s.fin] 41)) f:=xT (xD H8) g;try(go_wp2_with fail)
 refine af a _ _ (ae (hb.ext b)) (λ_=>?_);refine ah 10 (λK a=>?_);go_simp;refine af a _ _ (ae (hb.ext (xA b _))) (λ_=>?_);refine ah 11 (λK a=>?_);go_simp;refine(AQ _ _ _ (is5 f s.idx s.term s.sum s.lvl s.finI) (by rw[<-c.out];exact i.out) (by simp)).mono ?_;rw[<-c.out];rintro e c⟨v,rfl,g,f⟩;try(go_wp2_with fail)
 have c:=xT (xA b (E #[B C s.idx,B C s.term,B C s.sum,B C s.lvl,B C s.finI] 3)) f;refine af a _ _ (ae (hb.ext c)) (λ_=>?_);refine ab 12 ?_;refine ab 13 ?_;refine ab 14 ?_;refine ab 15 ?_;refine aq ?_;go_wp2_with fail
 go_ret2;exact⟨v,rfl,ay g (xT d (xA b _)).size,xT d c⟩
theorem Ct(W:World)(a b c:Int):Is (W.alloc (E #[B C a,B C b,B C c] 3)) (F (I ⟨W.heap.size,0,G⟩) 3 3) [a,b,c]:=
 xW (be W [B C a,B C b,B C c] 3 3 (xN _))
def dS(s:Sta):List UInt8:=bh rT (1::(aP [s.idx,s.term,s.sum]++[P5 s.lvl.toNat,P5 s.finI.toNat]))
theorem sP(W:World)(a:UInt8)(n:Nat)(h:n=a.toNat):Bs (W.alloc (E #[B U n] 5)) (F (I ⟨W.heap.size,0,G⟩) 1 1) [a]:=by
 subst h;exact xW (be W [bv a] 5 1 (xN _))
theorem bs2(W:World)(a b:UInt8):Bs (W.alloc (E #[bv a,bv b] 5)) (F (I ⟨W.heap.size,0,G⟩) 2 2) [a,b]:=
 xW (be W [bv a,bv b] 5 2 (xN _))
theorem LD(s:Sta)(w:World)(h:s.ok=true)(z:TabW rT w):Calls M 237 #[V #[B C s.idx,B C s.term,B C s.sum,B C s.lvl,L s.fin]] w λe w'=>∃A c,e=.returned (F A (dS s).length c)/\OwnB w' w.heap.size (F A (dS s).length c) (dS s)/\Ext w w':=by
 have HT:=T z;have y:Hid (aG [s.idx,s.term,s.sum]=true):=by
  obtain⟨h1,h2,h3,_⟩:=Sta.okP h;exact by simp[Hid,aG,h1,h2,h3]
 obtain⟨xl,t⟩:∃x,P5 s.lvl.toNat=x:=⟨_,rfl⟩;obtain⟨xf,r⟩:∃x,P5 s.finI.toNat=x:=⟨_,rfl⟩;have z:IntKind.u8.wrap s.lvl=(xl.toNat:Int):=by subst t;rcases(Sta.okP h).2.2.2 with e | e<;>rw[e]<;>rfl
 have z:IntKind.u8.wrap s.finI=(xf.toNat:Int):=by subst r;rcases s.finP with e | e<;>rw[e]<;>rfl
 have Ky:Hid (dS s=bh rT (1::(aP [s.idx,s.term,s.sum]++[xl,xf]))):=by subst t;subst r;rfl
 have Kb:Hid (([[1],aP [s.idx,s.term,s.sum],[xl,xf]]:List (List UInt8)).flatten=1::(aP [s.idx,s.term,s.sum]++[xl,xf])):=by simp[Hid]
 have HS:Hid (Z (1::(aP [s.idx,s.term,s.sum]++[xl,xf]))=18):=by simp[Hid,mK]
 have HR:Hid (Z ([[1],aP [s.idx,s.term,s.sum],[xl,xf]]:List (List UInt8)).flatten=18):=by rw[Hid,Kb.out];exact HS.out
 have hb:=Blk.new w 41 #[B C s.idx,B C s.term,B C s.sum,B C s.lvl,L s.fin];have hX:Ext w (w.alloc (E #[B C s.idx,B C s.term,B C s.sum,B C s.lvl,L s.fin] 41)):=xA (xR _) _;obtain⟨r,r,r,r,r⟩:=ae hb;go_enter func237,ntmps237
 go_wp2_with fail;have r:=Ct (w.alloc (E #[B C s.idx,B C s.term,B C s.sum,B C s.lvl,L s.fin] 41)) s.idx s.term s.sum;rw[n9]at r;refine(M7 _ _ _ r y (by simp)).mono ?_;rintro e n⟨v,rfl,o,H8⟩;obtain⟨Av,cv,rfl,-,-⟩:=xO (xW o);go_wp2_with fail
 have a:Ext (w.alloc (E #[B C s.idx,B C s.term,B C s.sum,B C s.lvl,L s.fin] 41)) n:=xT (xA (xR _) _) H8;refine wp_region_held_drew (S:=λw'=>w'.cell? ⟨w.heap.size,0,G⟩=I (B C s.idx)/\w'.cell? ⟨w.heap.size,1,G⟩=I (B C s.term)/\w'.cell? ⟨w.heap.size,2,G⟩=I (B C s.sum)/\w'.cell? ⟨w.heap.size,3,G⟩=I (B C s.lvl)/\w'.cell? ⟨w.heap.size,4,G⟩=I (L s.fin)) (by kernel_rfl) (ae (hb.ext (xD a))) (λ_=>?_);refine ab 1 ?_;refine ab 2 ?_;refine ab 3 ?_;refine ab 4 ?_;refine ab 5 ?_;refine AllReadyH.two (i:=0) (j:=6) rfl rfl (by kernel_rfl) (by rfl) (by rfl) (λK hK=>?_) (λK hK=>?_)
 ·go_simp;refine af hK _ _ (ae (hb.ext (xD (xA a _)))) (λ_=>?_);refine ah 6 (λK hK=>?_);go_simp;refine(qA s _).mono ?_;rintro e b⟨rfl,q⟩;try(go_wp2_with fail)
  have d:Ext (n.alloc (E #[B U 1] 5)) b:=xT (xD (xR _)) q;refine af hK _ _ (ae (hb.ext (xT (xA a _) d))) (λ_=>?_);refine ab 7 ?_;have k:=P1 (sP n 1 1 rfl) d;have f:=xT (xA (xR n) (E #[B U 1] 5)) d;refine ah 8 (λK hK=>?_);go_simp;refine af hK _ _ (ae (hb.ext (xA (xT a f) _))) (λ_=>?_);have l:=bs2 b xl xf;have p:=P1 k (xA (xR _) (E #[bv xl,bv xf] 5));have g:=xA f (E #[bv xl,bv xf] 5);have m:Bs (b.alloc (E #[bv xl,bv xf] 5)) (F Av (aP [s.idx,s.term,s.sum]).length cv) (aP [s.idx,s.term,s.sum]):=P1 (xW o) g;have H7:=xT a g;refine ah 9 (λK hK=>?_);go_simp;refine af hK _ _ (ae (hb.ext (xA H7 _))) (λ_=>?_);refine ah 10 (λK hK=>?_);go_simp;have hp:=pd p m l;exact mcTexta0
 ·go_simp;refine(qA s _).mono ?_;rintro e b⟨rfl,q⟩;try(go_wp2_with fail)
  have d:Ext n b:=xT (xD (xR _)) q;refine af hK _ _ (ae (hb.ext (xT a d))) (λ_=>?_);refine ab 7 ?_;refine AllReadyH.two (i:=0) (j:=8) rfl rfl (by kernel_rfl) (by rfl) (by rfl) (λK hK=>?_) (λK hK=>?_)
  ·go_simp;refine af hK _ _ (ae (hb.ext (xA (xT a d) _))) (λ_=>?_);have k:=sP b 1 1 rfl;refine ah 8 (λK hK=>?_);go_simp;have f:=xA d (E #[B U 1] 5);refine af hK _ _ (ae (hb.ext (xA (xT a f) _))) (λ_=>?_);have l:=bs2 (b.alloc (E #[B U 1] 5)) xl xf;rw[n9]at l;have p:=P1 k (xA (xR _) (E #[bv xl,bv xf] 5));have g:=xA f (E #[bv xl,bv xf] 5);have m:Bs ((b.alloc (E #[B U 1] 5)).alloc (E #[bv xl,bv xf] 5)) (F Av (aP [s.idx,s.term,s.sum]).length cv) (aP [s.idx,s.term,s.sum]):=P1 (xW o) g;have H7:=xT a g;refine ah 9 (λK hK=>?_);go_simp;refine af hK _ _ (ae (hb.ext (xA H7 _))) (λ_=>?_);refine ah 10 (λK hK=>?_);go_simp;have hp:=pd p m l;exact mcTexta0
  ·go_simp;refine af hK _ _ (ae (hb.ext (xA (xT a d) _))) (λ_=>?_);have l:=bs2 b xl xf;refine ah 0 (λK hK=>?_);go_simp;have f:=xA d (E #[bv xl,bv xf] 5);refine af hK _ _ (ae (hb.ext (xA (xT a f) _))) (λ_=>?_);have k:=sP (b.alloc (E #[bv xl,bv xf] 5)) 1 1 rfl;rw[n9]at k;have d:=P1 l (xA (xR _) (E #[B U 1] 5));have g:=xA f (E #[B U 1] 5);have m:Bs ((b.alloc (E #[bv xl,bv xf] 5)).alloc (E #[B U 1] 5)) (F Av (aP [s.idx,s.term,s.sum]).length cv) (aP [s.idx,s.term,s.sum]):=P1 (xW o) g;have H7:=xT a g;refine ah 9 (λK hK=>?_);go_simp;refine af hK _ _ (ae (hb.ext (xA H7 _))) (λ_=>?_);refine ah 10 (λK hK=>?_);go_simp;have hp:=pd k m d;exact mcTexta0
