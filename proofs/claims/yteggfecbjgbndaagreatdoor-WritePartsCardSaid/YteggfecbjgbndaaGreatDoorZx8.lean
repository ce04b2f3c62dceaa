/- Merged -/
import Derived.Test.YteggfecbjgbndaaGreatDoorZx6
import Derived.OrdersIn
import Derived.TacticsIn
import Derived.RangeFuncCalls
import Derived.OrdersHeld
set_option linter.all false
set_option maxHeartbeats 8000000
set_option maxRecDepth 100000
open Go.Proofs.Tryz
open List renaming length->Z
open Go.Obj renaming cells->B
open Option renaming some->E,none->L
open Go.Value renaming slice->G,pointer->I,int->O
open Go.Proofs.Tryz renaming prog->U
open Go.Mv renaming aN->V
open Go.World renaming block_lt_of_cell?->P0,ownsRow_nil->P1
open Go.Region renaming wanted->P2,ready->P3,binds->P4,noSelect->P5,free->P6,Mode->P7
open Go.Oper renaming semAt_none->P8,uponIn->P9,wpIn->Pa,semAt_some->Pb
open Array renaming replicate->Pc,getElem?_eq_none->Pd,replicate_zero->Pe,replicate_succ->Pf,range->Pg
open Go.Sem renaming run_bind->Ph,run_pure->Pi
open Go.Boxed renaming new->Pj
open Go.Mv.Ext renaming grown->Pk,cell->Pl
open List renaming all_eq_true->Pm,append_toArray->Pn,size_toArray->Po,push_toArray->Pp,cons_append->Pq,length_nil->Pr,range->Ps
open Bool renaming and_eq_true->Pu
open Go.Code renaming region->Pv
open Nat renaming le_trans->Pw,reduceSub->Px,reduceAdd->Py,lt_or_ge->Pz
open Go.Instr renaming fill->Q0,buildSlice->Q1,loadAt->Q2
namespace Go.Mv
open Go.RowKit
variable {a:Act} {tl:List Nat} {fuel i j:Nat} {o oi:Oper} {v:Value} {W w w':World} {C:World->Prop}
theorem mcRounda0{P:Prop}(h:P:=by
 have hi:=fD H9;refine wpAnyIn_all hr (by simp) (λj hj=>?_);have e:j=i:=by simpa using hj
 subst e;unfold wpOpIn;have HY:∀f,o.about P w a.eval=E f->F.fn f:=λf hf=>by rw[H8]at hf;cases hf
 have hw:P2 o (yielded ops a.tmps)=true:=by simp[P2,hg]
 simp only[hi,hw,if_true,Pa,H2,P8,H1,P9];exact⟨HY,h⟩):P:=h
section
variable {F:Fence} {n:Nat} {P:Program} {ops:Array Oper} {Q:Exit->Act->World->Prop} {md:P7}
def ni(ops:Array Oper):Bool:=ops.all λo=>match o.op with | .defer _=>false | _=>true
theorem Dr(h:ni ops=true)(d:ops[j]?=E o)(c:Call):o.op≠.defer c:=by
 intro b;have:=Array.all_eq_true_iff_forall_mem.1 h o (Array.mem_of_getElem? d);simp[b]at this
theorem DX(l:Nat)(e:ni ops=true)(d:F.round=none){K:Act->World->Prop}(h:wpOpIn F n P ops Q i K a w):wpOpIn (F.inRound l) n P ops Q i K a w:=by
 unfold wpOpIn at *;cases b:ops[i]? with
 |none=>simpa[b]using h
 |some o=>
  simp only[b]at h⊢;split
  ·rename_i c;simp only[c,if_true]at h;unfold Pa at *;refine⟨h.1,?_⟩;have h:=h.2;rw[d,P8]at h;rw[Fence.inRound_round,Pb l _ o (Dr e b)];exact h
  ·rename_i c;simp only[c]at h;exact h
theorem tG(l:Nat)(c:ni ops=true)(b:F.round=none):∀(fuel:Nat) (H0:Array Bool) (a:Act) (w:World),wpAnyIn F n P md ops Q fuel H0 a w->wpAnyIn (F.inRound l) n P md ops Q fuel H0 a w:=by
 intro fuel;induction fuel with
 |zero=>intro H0 a w h;exact h
 |succ fuel ih=>
  intro H0 a w h;exact⟨h.1,λi hi=>DX l c b (wpOpIn_mono (λa w=>ih _ a w) (h.2 i hi))⟩
def NoP(Q:Exit->Act->World->Prop):Exit->Act->World->Prop
 |.panic _,_,_=>False
 |e,a,w=>Q e a w
theorem NoP.imp{Q:Exit->Act->World->Prop}(e:Exit)(a:Act)(w:World)(h:NoP Q e a w):Q e a w:=by
 cases e<;>first | exact h | exact h.elim
theorem nE{l c:Nat}(hm:P.follows .mixedOrders=true)(b:ni ops=true)(h:wpAnyIn (Wd none) n P .any ops (NoP Q) ops.size (Pc ops.size false) a w.drew):(Pv c ops true).wpIn (Wd (some l)) n P Q a w:=
 wpIn_mono (wpIn_region_any (F:=(Wd none).inRound l) hm (tG l b rfl _ _ _ _ h)) NoP.imp
theorem mc{id:Nat}(h:wpAnyIn (Wd none) n P .any ops (NoP Q) ops.size (Pc ops.size false) a w.drew)(hm:P.follows .mixedOrders=true:=by kernel_rfl):(Pv id ops true).wpIn (Wd none) n P Q a w:=
 wpIn_mono (wpIn_region_any hm h) NoP.imp
theorem eV{Q:Exit->Act->World->Prop}(h:Q .normal a w):NoP Q .normal a w:=h
theorem fp{fn:Func}{tmps:Array Value}{R:Ending->World->Prop}(v:Value)(b:(results fn tmps).run P W=.ok v W)(c:R (.returned v) W):bodyPostM (Wd none) n P fn R .ret ⟨tmps,[]⟩ W:=⟨v,b,c⟩
theorem mB{c:Code}{b:Array Value}{d:List Deferred}(h:∀T:Array Value,T=b->c.wpIn F n P Q ⟨T,d⟩ W):c.wpIn F n P Q ⟨b,d⟩ W:=h b rfl
def Read4(p q r s:Addr×Value)(W:World):Prop:=W.cell? p.1=E p.2/\W.cell? q.1=E q.2/\W.cell? r.1=E r.2/\W.cell? s.1=E s.2
theorem iQ{p:Addr}(h:W.cell? p=E v)(o:Obj):(W.alloc o).cell? p=E v:=
 (Below.cell ((Below.refl W.heap.size W).alloc (xN _) o) (P0 W p h)).trans h
theorem Read4.alloc{p q r s:Addr×Value}(h:Read4 p q r s W)(o:Obj):Read4 p q r s (W.alloc o):=⟨iQ h.1 o,iQ h.2.1 o,iQ h.2.2.1 o,iQ h.2.2.2 o⟩
theorem nH(s x:Operand)(t:TypeId)(d:o.op=.call { callee:=.builtin .append,args:=#[s,x],argTypes:=#[t,t] }){v vx b:Value}(hs:a.eval s=v)(hx:a.eval x=vx)(c:(Builtin.append_ #[t,t] o.type #[v,vx]).run P w=.ok b w'):(execOp a.eval o).run P w=.ok (.value b) w':=by
 unfold execOp;simp only[d,resolve,invoke,builtin,Ph,Pi,Result.andThen_ok,List.map_toArray,List.map_cons,List.map_nil,hs,hx,c]
theorem nK(s x:Operand)(t:TypeId)(b:o.op=.call { callee:=.builtin .append,args:=#[s,x],argTypes:=#[t,t] }):o.about P w a.eval=none:=by
 simp[Oper.about,b,resolve,Target.leads,go_sem]
theorem fM(n:Nat)(T:Array Value)(h:T.size=n):T=((Ps n).map λi=>T.getD i undef).toArray:=by
 apply Array.ext
 ·simp[h]
 ·intro i h1 h2;simp[h1]
theorem FH{b:Nat}{t:TypeId}(h:Boxed W b t v){k:Nat}{u:Value}(hc:W.cell? ⟨b,k,L⟩=E u):k=0:=by
 have c:W.heap[b]?=E (B #[v] t (0,0)):=h;cases k with
 |zero=>rfl
 |succ k=>simp[World.cell?,c]at hc
theorem fD(h:ops.toList[i]?=E oi):ops[i]?=E oi:=by simpa using h
def YieldsC(P:Program)(ops:Array Oper)(C:World->Prop)(o:Oper)(v:Value)(a:Act):Prop:=
 P2 o (yielded ops a.tmps)=true/\(∀w,C w->(execOp a.eval o).run P w=.ok (.value v) w)/\∀w,o.about P w a.eval=none
def o7(P:Program)(C:World->Prop)(o:Oper):Prop:=∀(ρ:Operand->Value) (w:World),C w->∀r w',(execOp ρ o).run P w=.ok r w'->(∃v,r=.value v)/\C w'
theorem YieldsC.wpOpIn(b:F.round=none)(hi:ops[i]?=E o)(e:YieldsC P ops C o v a){K:Act->World->Prop}{w:World}(d:C w)(h:K (a.put o.dst v) w):wpOpIn F n P ops Q i K a w:=by
 unfold Go.wpOpIn;obtain⟨h1,h2,h3⟩:=e;have c:∀f,o.about P w a.eval=E f->F.fn f:=λf hf=>by rw[h3 w]at hf;cases hf
 simp only[hi,h1,if_true,Pa,b,P8,h2 w d,P9];exact⟨c,h⟩
theorem YieldsC.of_same{b:Act}(c:YieldsC P ops C o v a)(he:execOp b.eval o=execOp a.eval o)(d:P2 o (yielded ops b.tmps)=P2 o (yielded ops a.tmps))(hb:∀w,o.about P w b.eval=o.about P w a.eval):YieldsC P ops C o v b:=
 ⟨d.trans c.1,λw h=>by rw[he];exact c.2.1 w h,λw=>by rw[hb w];exact c.2.2 w⟩
theorem EP{d:Oper}(g:F.round=none)(t:ops[j]?=E d)(m:oi.apart ops d=true)(q:∀cs b,oi.op≠.select cs b)(J7:∀cs b,d.op≠.select cs b)(p:o7 P C d)(s:∀c a w,Q (.panic c) (a.put oi.dst v) w->Q (.panic c) a w){K:Act->World->Prop}{a:Act}{w:World}(l:C w)(e:YieldsC P ops C oi v a)(h:wpOpIn F n P ops Q j K (a.put oi.dst v) w):
  wpOpIn F n P ops Q j (λk w'=>(YieldsC P ops C oi v k/\C w')/\K (k.put oi.dst v) w') a w:=by
 obtain⟨h1,h2,h3⟩:=Oper.apart_spec m;have keep:∀(a:Act),YieldsC P ops C oi v a->∀u,YieldsC P ops C oi v (a.put d.dst u):=λa e u=>
  e.of_same (execOp_put oi q a d.dst u h3) (wanted_put oi a d.dst u h3) (λw=>about_put oi w a d.dst u h3)
 unfold wpOpIn at *;simp only[t]at *;rw[wanted_put d a oi.dst v h1,about_put d w a oi.dst v h1]at h;split
 ·rename_i f;simp only[f,if_true]at h;unfold Pa at *;rw[about_put d w a oi.dst v h1]at h;refine⟨h.1,?_⟩;have h:=h.2;rw[g,P8,execOp_put d J7 a oi.dst v h1]at h;rw[g,P8];have hk:=p a.eval w l;generalize(execOp a.eval d).run P w=r at *;cases r with
  |ok x w'=>
   obtain⟨⟨u,rfl⟩,KI⟩:=hk _ _ rfl;simp only[P9]at h⊢;exact⟨⟨keep a e u,KI⟩,by rw[<-Act.put_comm a v u h2];exact h⟩
  |halt x w'=>
   cases x<;>simp only[P9]at h⊢
   case panic u=>exact s _ _ _ h
 ·rename_i f;simp only[f]at h;exact⟨h.1,⟨keep a e _,l⟩,by rw[<-Act.put_comm a v undef h2];exact h.2⟩
def px(md:P7)(ops:Array Oper)(i:Nat)(tl:List Nat):Bool:=
 tl.all λj=>match ops[j]? with
  |some oj=>oj.after.any λe=>P4 md e&&(e.on==i||tl.contains e.on)
  |none=>false
theorem MK{H0:Array Bool}(f:px md ops i tl=true)(hi:H0.getD i true=false)(hl:∀k∈tl,H0.getD k true=false)(m:j∈P3 md ops H0):j ∉ tl:=by
 intro HQ;obtain⟨Hk,g,g,l⟩:=mem_ready.1 m;simp only[px,Pm]at f;have h1:=f j HQ;simp only[g]at h1;obtain⟨e,he,hb⟩:=Array.any_eq_true'.1 h1;simp only[Pu,Bool.or_eq_true,beq_iff_eq,List.contains_iff_mem]at hb;have h2:=l e he hb.1;have d:∀k,H0.getD k true=false->H0.getD k false=true->False:=by
  intro k a b;rcases Pz k H0.size with c | c
  ·simp[c]at a b;rw[a]at b;cases b
  simp[Pd c]at b
 rcases hb.2 with h | h
 ·rw[h]at h2;exact d _ hi h2
 ·exact d _ (hl _ h) h2
theorem CV(tl:List Nat)(B:px md ops i tl=true)(r:F.round=none)(hi:ops[i]?=E oi)(x:∀(j:Nat) (o:Oper) cs b,ops[j]?=E o->o.op≠.select cs b)(J:∀c a w,Q (.panic c) (a.put oi.dst v) w->Q (.panic c) a w):
  ∀(fuel:Nat) (H0:Array Bool) (a:Act) (w:World),(∀k∈tl,H0.getD k true=false) ->
   (∀j g,ops[j]?=E g->j≠i->j ∉ tl->H0.getD j true=false->(∀e∈g.after,P4 md e=true->e.on≠i)->oi.apart ops g=true/\o7 P C g) ->
   i∈P3 md ops H0->C w->YieldsC P ops C oi v a ->
   wpAnyIn F n P md ops Q fuel (H0.setIfInBounds i true) (a.put oi.dst v) w->wpAnyIn F n P md ops Q (fuel+1) H0 a w:=by
 intro fuel;induction fuel with
 |zero=>
  intro H0 a w _ _ f p q H;refine⟨λh=>(by rw[h]at f;cases f),λj l=>?_⟩;by_cases d:j=i
  ·subst d;exact q.wpOpIn r hi p H
  have:=ready_mono l d;rw[H.1]at this;cases this
 |succ fuel ih=>
  intro H0 a w A y f p q H;refine⟨λh=>(by rw[h]at f;cases f),λj l=>?_⟩;by_cases d:j=i
  ·subst d;exact q.wpOpIn r hi p H
  ·have h1:=H.2 j (ready_mono l d);have HQ:j ∉ tl:=MK B (mem_ready.1 f).1 A l;obtain⟨Hk,g,s,B⟩:=mem_ready.1 l;have I:∀e∈g.after,P4 md e=true->e.on≠i:=λe he hb G=>by
    have h1:=B e he hb;have l:=(mem_ready.1 f).1;rw[G]at h1;rcases Pz i H0.size with t | t
    ·simp[t]at l h1;rw[l]at h1;cases h1
    simp[Pd t]at h1
   obtain⟨l,t⟩:=y j g s d HQ Hk I;have h2:=EP r s l (λcs b=>x i oi cs b hi) (λcs b=>x j g cs b s) t J p q h1;have D:∀k ok,ops[k]?=E ok->k≠i->k ∉ tl->(H0.setIfInBounds j true).getD k true=false ->
     (∀e∈ok.after,P4 md e=true->e.on≠i)->oi.apart ops ok=true/\o7 P C ok:=λk ok hk l p z g=>by
    refine y k ok hk l p ?_ g;by_cases m:j=k
    ·subst m;exact Hk
    rw[getD_set_ne true m]at z;exact z
   have l:∀k∈tl,(H0.setIfInBounds j true).getD k true=false:=λk hk=>by
    have g:j≠k:=λe=>HQ (by rw[e];exact hk);rw[getD_set_ne true g];exact A k hk
   refine wpOpIn_mono (λg w' h3=>ih (H0.setIfInBounds j true) g w' l D (ready_mono f (Ne.symm d)) h3.1.2 h3.1.1 ?_) h2;rw[Array.setIfInBounds_comm _ _ d];exact h3.2
def SameW{α:Type}(P:Program)(s:Sem α):Prop:=∀w r w',s.run P w=.ok r w'->w'=w
def eO{α:Type}(P:Program)(s:Sem α):Prop:=∀w r w',s.run P w=.ok r w'->w'=w\/∃o,w'=w.alloc o
theorem fo{α β:Type}{s:Sem α}{f:α->Sem β}(h1:SameW P s)(h2:∀a,SameW P (f a)):SameW P (s >>= f):=by
 intro w r w' h;rw[Ph]at h;cases hs:s.run P w with
 |ok a w1=>
  rw[hs]at h;rw[h1 _ _ _ hs]at h;exact h2 a _ _ _ h
 |halt x w1=>rw[hs]at h;cases h
theorem lz{α β:Type}{s:Sem α}{f:α->Sem β}(h1:SameW P s)(h2:∀a,eO P (f a)):eO P (s >>= f):=by
 intro w r w' h;rw[Ph]at h;cases hs:s.run P w with
 |ok a w1=>
  rw[hs]at h;rw[h1 _ _ _ hs]at h;exact h2 a _ _ _ h
 |halt x w1=>rw[hs]at h;cases h
theorem FW{α β:Type}{s:Sem α}{f:α->Sem β}(h1:eO P s)(h2:∀a,SameW P (f a)):eO P (s >>= f):=by
 intro w r w' h;rw[Ph]at h;cases hs:s.run P w with
 |ok a w1=>
  rw[hs]at h;have:=h2 a _ _ _ h;subst this;exact h1 _ _ _ hs
 |halt x w1=>rw[hs]at h;cases h
theorem eW{α:Type}(a:α):SameW P (pure a:Sem α):=by
 intro w r w' h;rw[Pi]at h;cases h;rfl
theorem SameW.grow{α:Type}{s:Sem α}(h:SameW P s):eO P s:=λw r w' b=>.inl (h w r w' b)
theorem z8(a:Addr)(m:Mode):SameW P (load a m):=by
 intro w r w' h;rw[run_load]at h;split at h
 ·cases h;rfl
 ·split at h<;>cases h<;>rfl
theorem ms{α:Type}(m:String):SameW P (stuck m:Sem α):=by
 intro w r w' h;simp[go_sem]at h
theorem yj:SameW P program:=by
 intro w r w' h;simp[go_sem]at h;exact h.2.symm
theorem tF(t:TypeId):SameW P (typeInfo t):=by
 unfold typeInfo;refine fo yj (λp=>?_);split
 ·exact eW _
 ·exact ms _
theorem tf(t:TypeId):SameW P (underlying t):=by
 unfold underlying;refine fo yj (λp=>?_);split
 ·exact eW _
 ·exact ms _
theorem tP(t:TypeId):SameW P (sizeOf t):=by unfold sizeOf;exact fo (tF t) (λ_=>eW _)
theorem I9(t:TypeId):SameW P (isAgg t):=by
 unfold isAgg;refine fo (tf t) (λd=>?_);split<;>exact eW _
theorem CE(a:Addr)(n:Nat):∀(i:Nat) (b:Array Value),SameW P (loadCellsFrom a i n b):=by
 induction n with
 |zero=>intro i b;exact eW _
 |succ n ih=>intro i b;exact fo (z8 _ _) (λv=>ih _ _)
theorem Eo(t:TypeId)(a:Addr):SameW P (loadVar t a):=by
 unfold loadVar;refine fo (I9 t) (λb=>?_);cases b
 ·exact z8 _ _
 ·exact fo (tP t) (λn=>fo (CE _ _ _ _) (λ_=>eW _))
theorem EE(t:TypeId)(v:Value):SameW P (Q2 t v):=by
 unfold Q2;refine fo ?_ (λa=>Eo t a);unfold Instr.sureAddr;split
 ·exact eW _
 ·exact ms _
def oZ(o:Oper):Bool:=
 match o.op with
 |.move _=>true
 |.load _ _=>true
 |.buildSlice _ _ _=>true
 |_=>false
def mX(ops:Array Oper)(H0:Array Bool)(i:Nat)(tl:List Nat):Bool:=
 tl.all (λk=>!H0.getD k true)&&(Ps ops.size).all λj=>j==i||tl.contains j||H0.getD j true||match ops[j]? with
   |some oj=>oZ oj
   |none=>true
theorem Dc{H0:Array Bool}(h:mX ops H0 i tl=true)(j:Nat)(c:Oper)(b:ops[j]?=E c)(d:j≠i)(f:j ∉ tl)(e:H0.getD j true=false):oZ c=true:=by
 simp only[mX,Pu,Pm,List.mem_range]at h;have h1:=h.2 j (Array.getElem?_eq_some_iff.1 b).1;simpa[b,d,f,e]using h1
theorem DJ{H0:Array Bool}(h:mX ops H0 i tl=true):∀k∈tl,H0.getD k true=false:=by
 simp only[mX,Pu,Pm]at h;intro k hk;simpa using h.1 k hk
theorem L0(t:TypeId):SameW P (zeroValue t):=by
 unfold zeroValue;refine fo (tF t) (λi=>?_);split
 ·exact eW _
 ·intro w r w' h;simp[go_sem]at h
theorem EV(t:TypeId)(cs:Array Value):eO P (newRow t cs):=by
 intro w r w' h;simp[newRow,go_sem]at h;exact .inr ⟨_,h.2.symm⟩
theorem NF{α:Type}{c:Prop}[Decidable c]{s t:Sem α}(h1:eO P s)(h2:eO P t):eO P (if c then s else t):=by split<;>assumption
theorem CZ (t:TypeId) (n:Nat) (ps:Array (Nat×Value)):eO P (Q1 t n ps):=by
 unfold Q1;refine lz (tf t) (fun d=>?_);split
 ·refine lz (tP _) (fun size=>?_);have hu:∀ {α:Type} (u:Unsupported),SameW P (unsupported u:Sem α):=by
   intro α u w r w' h;simp[go_sem] at h
  have Hf:∀ (zero:Array Value) (e:TypeId),eO P (do
    let some cells:=Q0 (fun i=>some (i*size,size)) ((Pg (n*size)).map (zero[· % zero.size]!)) ps.toList | stuck "buildSlice: a part of the wrong size"
    pure (Value.slice (some (<-newRow e cells)) n n)):=by
   intro zero e;split
   ·exact FW (EV _ _) (fun _=>eW _)
   exact (ms _).grow
  rename_i elem;have Hy:eO P (if n*size=0 then (do
    let zero <-(pure #[]:Sem (Array Value))
    match Q0 (fun i=>some (i*size,size)) ((Pg (n*size)).map (zero[· % zero.size]!)) ps.toList with
     | some cells=>do
      let a <-newRow elem cells
      pure (Value.slice (some a) n n)
     | _=>stuck "buildSlice: a part of the wrong size")
   else (do
    let v <-zeroValue elem
    let zero <-(pure v.cells:Sem (Array Value))
    match Q0 (fun i=>some (i*size,size)) ((Pg (n*size)).map (zero[· % zero.size]!)) ps.toList with
     | some cells=>do
      let a <-newRow elem cells
      pure (Value.slice (some a) n n)
     | _=>stuck "buildSlice: a part of the wrong size")):=by
   split
   ·exact lz (eW _) (fun z=>Hf z elem)
   exact lz (L0 _) (fun v=>lz (eW _) (fun z=>Hf z elem))
  exact NF (lz (hu _) (fun _=>Hy)) Hy
 ·exact (ms _).grow
theorem Bd{s:Sem Value}{r:Next}(h:(do pure (Next.value (<-s)):Sem Next).run P w=.ok r w'):∃v,r=.value v/\s.run P w=.ok v w':=by
 rw[Ph]at h;cases hs:s.run P w with
 |ok a w1=>rw[hs]at h;cases h;exact⟨a,rfl,rfl⟩
 |halt x w1=>rw[hs]at h;cases h
theorem FI(e:∀w o,C w->C (w.alloc o))(h:oZ o=true):o7 P C o:=by
 intro ρ w d r w' b;unfold oZ at h;unfold execOp at b;split at h
 ·rename_i x c;simp only[c,Pi]at b;cases b;exact⟨⟨_,rfl⟩,d⟩
 ·rename_i t x c;simp only[c]at b;obtain⟨v,rfl,hs⟩:=Bd b;rw[EE _ _ _ _ _ hs];exact⟨⟨_,rfl⟩,d⟩
 ·rename_i t n g c;simp only[c]at b;obtain⟨v,rfl,hs⟩:=Bd b;refine⟨⟨_,rfl⟩,?_⟩;rcases CZ _ _ _ _ _ _ hs with rfl | ⟨f,rfl⟩
  ·exact d
  exact e _ _ d
 ·cases h
theorem mi(C:World->Prop)(tl:List Nat){H0:Array Bool}(b:F.round=none)(hi:ops.toList[i]?=E oi)(hs:P5 ops=true)(hf:P6 md ops H0 i=true)(e:px md ops i tl=true)(Kn:mX ops H0 i tl=true)(p:(P3 md ops H0).contains i=true)(d:∀c a w,Q (.panic c) (a.put oi.dst v) w->Q (.panic c) a w)(l:∀w o,C w->C (w.alloc o))(m:C w)(q:YieldsC P ops C oi v a)(h:wpAnyIn F n P md ops Q fuel (H0.setIfInBounds i true) (a.put oi.dst v) w):wpAnyIn F n P md ops Q (fuel+1) H0 a w:=
 CV tl e b (fD hi) (Region.noSelect_spec hs) d fuel H0 a w (DJ Kn) (λj f e b k d g=>⟨Region.free_spec (fD hi) hf j f e b d g,FI l (Dc Kn j f e b k d)⟩) (by simpa using p) m q h
theorem C4{H0:Array Bool}(b:F.round=none)(hi:ops.toList[i]?=E oi)(hs:P5 ops=true)(hf:P6 md ops H0 i=true)(e:(P3 md ops H0).contains i=true)(d:∀c a w,Q (.panic c) (a.put oi.dst v) w->Q (.panic c) a w)(f:YieldsFenced P ops oi v a)(h:wpAnyIn F n P md ops Q fuel (H0.setIfInBounds i true) (a.put oi.dst v) w):wpAnyIn F n P md ops Q (fuel+1) H0 a w:=
 wpAnyIn_take b (fD hi) hs hf e d f h
theorem On(hg:o.guard=none)(b:∀w,(execOp a.eval o).run P w=.ok (.value v) w)(c:∀w,o.about P w a.eval=none):YieldsFenced P ops o v a:=
 ⟨.inl ⟨by simp[P2,hg],b⟩,c⟩
theorem aC(i:Nat){H0:Array Bool}(h:wpAnyIn F n P md ops Q fuel (H0.setIfInBounds i true) (a.put oi.dst v) w)(hi:ops.toList[i]?=some oi:=by exact rfl)(H2:F.round=none:=by exact rfl)(hg:oi.guard=none:=by exact rfl)(H1:∀w,(execOp a.eval oi).run P w=.ok (.value v) w:=by (intro w;go_simp;try with_reducible rfl))(H8:∀w,oi.about P w a.eval=none:=by exact λw=>rfl)(hs:Region.noSelect ops=true:=by kernel_rfl)(hf:Region.free md ops H0 i=true:=by kernel_rfl)(hr:(Region.ready md ops H0).contains i=true:=by kernel_rfl)(hQ:∀c a w,Q (.panic c) (a.put oi.dst v) w->Q (.panic c) a w:=by exact λ_ _ _ h=>h):wpAnyIn F n P md ops Q (fuel+1) H0 a w:=
 C4 H2 hi hs hf hr hQ (On hg H1 H8) h
theorem np(hg:o.guard=none)(b:∀w,C w->(execOp a.eval o).run P w=.ok (.value v) w)(c:∀w,o.about P w a.eval=none):YieldsC P ops C o v a:=
 ⟨by simp[P2,hg],b,c⟩
theorem nI{H0:Array Bool}(H2:F.round=none)(hr:P3 md ops H0=[i])(H9:ops.toList[i]?=E o)(hg:o.guard=none)(H8:o.about P w a.eval=none)(H1:(execOp a.eval o).run P w=.ok (.value v) w')(h:wpAnyIn F n P md ops Q fuel (H0.setIfInBounds i true) (a.put o.dst v) w'):wpAnyIn F n P md ops Q (fuel+1) H0 a w:=by
 exact mcRounda0
theorem bT(i:Nat){H0:Array Bool}(h:wpAnyIn F n P md ops Q fuel (H0.setIfInBounds i true) (a.put o.dst v) w')(H9:ops.toList[i]?=some o:=by exact rfl)(H2:F.round=none:=by exact rfl)(hr:Region.ready md ops H0=[i]:=by kernel_rfl)(hg:o.guard=none:=by exact rfl)(H8:o.about P w a.eval=none:=by exact rfl)(H1:(execOp a.eval o).run P w=.ok (.value v) w':=by (go_simp;try(first|with_reducible rfl | (refine⟨?_,?_⟩<;>with_reducible rfl)))):wpAnyIn F n P md ops Q (fuel+1) H0 a w:=nI H2 hr H9 hg H8 H1 h
theorem DU{H0:Array Bool}(H2:F.round=none)(hr:P3 md ops H0=[i])(H9:ops.toList[i]?=E o)(hg:o.guard=none)(H8:o.about P w a.eval=none)(H1:(execOp a.eval o).run P w=.ok .skip w')(h:wpAnyIn F n P md ops Q fuel (H0.setIfInBounds i true) (a.put o.dst undef) w'):wpAnyIn F n P md ops Q (fuel+1) H0 a w:=by
 exact mcRounda0
theorem iG(i:Nat){H0:Array Bool}(h:wpAnyIn F n P md ops Q fuel (H0.setIfInBounds i true) (a.put o.dst undef) w')(H9:ops.toList[i]?=some o:=by exact rfl)(H2:F.round=none:=by exact rfl)(hr:Region.ready md ops H0=[i]:=by kernel_rfl)(hg:o.guard=none:=by exact rfl)(H8:o.about P w a.eval=none:=by exact rfl)(H1:(execOp a.eval o).run P w=.ok .skip w':=by (go_simp;try(first|with_reducible rfl | (refine⟨?_,?_⟩<;>with_reducible rfl)))):wpAnyIn F n P md ops Q (fuel+1) H0 a w:=DU H2 hr H9 hg H8 H1 h
theorem lv{f:FuncId}{args:Array Value}{H0:Array Bool}(g:P3 md ops H0=[i])(d:ops.toList[i]?=E o)(hg:o.guard=none)(c:(execOp a.eval o).run P w=.ok (.enter f args) w')(h:Calls P f args w' λe b=>∃v,e=.returned v/\wpAnyIn (Wd none) n P md ops Q fuel (H0.setIfInBounds i true) (a.put o.dst v) b):wpAnyIn (Wd none) n P md ops Q (fuel+1) H0 a w:=by
 have hi:=fD d;refine wpAnyIn_all g (by simp) (λj d=>?_);have e:j=i:=by simpa using d
 subst e;unfold wpOpIn;have d:P2 o (yielded ops a.tmps)=true:=by simp[P2,hg]
 simp only[hi,d,if_true,Pa,P8,c,P9];refine⟨λ_ _=>trivial,λh=>by simp[Fence.wide]at h,(callsIn_wd.2 h).mono ?_⟩;rintro e b⟨v,rfl,h⟩;exact h
theorem yV{b:Oper}{vi vj:Value}{H0:Array Bool}{wi wj:World}(h:F.round=none)(z:P3 md ops H0=[i,j])(l:ops.toList[i]?=E oi)(s:ops.toList[j]?=E b)(t:oi.guard=none)(x:b.guard=none)(e:oi.about P w a.eval=none)(g:b.about P w a.eval=none)(c:(execOp a.eval oi).run P w=.ok (.value vi) wi)(d:(execOp a.eval b).run P w=.ok (.value vj) wj)(h1:wpAnyIn F n P md ops Q fuel (H0.setIfInBounds i true) (a.put oi.dst vi) wi)(h2:wpAnyIn F n P md ops Q fuel (H0.setIfInBounds j true) (a.put b.dst vj) wj):wpAnyIn F n P md ops Q (fuel+1) H0 a w:=by
 have hi:=fD l;have y:=fD s;refine wpAnyIn_all z (by simp) (λk hk=>?_);have m:∀f,oi.about P w a.eval=E f->F.fn f:=λf hf=>by rw[e]at hf;cases hf
 have p:∀f,b.about P w a.eval=E f->F.fn f:=λf hf=>by rw[g]at hf;cases hf
 have q:P2 oi (yielded ops a.tmps)=true:=by simp[P2,t]
 have r:P2 b (yielded ops a.tmps)=true:=by simp[P2,x]
 rcases(by simpa using hk:k=i\/k=j)with rfl | rfl
 ·unfold wpOpIn;simp only[hi,q,if_true,Pa,h,P8,c,P9];exact⟨m,h1⟩
 ·unfold wpOpIn;simp only[y,r,if_true,Pa,h,P8,d,P9];exact⟨p,h2⟩
end
end Go.Mv

namespace Go.Proofs.YteggfecbjgbndaaGreatDoor
open Go.RowKit Go.Mv Go.Shelf
attribute [local go_sem] Pb pN
def zzG(d:World)(N l c:Nat)(p:Nat×Nat)(J:List (List UInt8)->World->Prop)(cs:List (List Ent))(W:World):Prop:=
 ∃b,J (zwM p cs) W/\Boxed W c 212 b/\PtV b (zw8 p cs)/\Boxed W N 287 (.func (.yield l) #[] #[])/\Hold d W/\N<=W.heap.size
theorem Hold.moves{b W W':World}{M:Nat->Obj->Prop}(h:Hold b W)(hm:Moves M W W')(e:∀k o,k<b.heap.size->o.isCells=true->¬M k o):Hold b W':=by
 intro q u c;have d:=P0 b q c;exact hm.cell (h q u c) (λo _ hc=>e _ o d hc)
def BkK(b c:Nat)(k:Nat)(o:Obj):Prop:=o.isCells=true/\k≠b/\(k<c\/o.ty≠some 5)
theorem zyL(g d:World)(v:Value)(es:List Ent)(Ho:Es g v es)(ha:bQ es=true)(H7:Z es<=2000000)(hH:Hold g d)(p:Nat×Nat)(z:Value)(hz:PtV z p)(R f bo:Nat)(HM:Boxed d R 42 v)(Ht:Boxed d f 212 z)(HO:g.heap.size<=R)(Kk:g.heap.size<=f)(Jf:g.heap.size<=bo)(KQ:bo<d.heap.size)(J2:bo≠R)(J3:bo≠f):
  Seq U 368 #[I (E ⟨R,0,L⟩),I (E ⟨f,0,L⟩)]
   (λ(b:List UInt8) av W=>∃u,av = #[u]/\Bs W u b) (BkK bo g.heap.size) (λk o=>k=f/\o.ty=E 212) (zwM p (zwR es)) d:=by
 intro l J Jx hJ Kj hY h0;obtain⟨A,c,rfl,h1,h2⟩:=xO Ho;have c1:=HM.cell;have K1:R<d.heap.size:=P0 d _ c1;refine(callsIn_wd (ro:=none) (n:=9)).1 ?_;refine callsIn_of_wp_marks func368 rfl trivial ?_ rfl;simp only[ntmps368,Po,xC,Pr,Py,Px,Pf,Pe,Pp,Pn,xI,Pq];gi_wp2_with (refine⟨trivial,?_⟩;gi_at_call 369;refine(callsIn_wd.2 (zzb _ _ _ _)).mono ?_;rintro e w' ⟨rfl,rfl⟩)
 have q0:Boxed (((d.alloc (B #[.func (.yield l) #[] #[]] 287)).alloc (B #[G A es.length c] 42)).alloc (B #[.int .i64 4] 3)) d.heap.size 287 (.func (.yield l) #[] #[]):=((Pj d _ _).alloc _).alloc _;have q1:Boxed (((d.alloc (B #[.func (.yield l) #[] #[]] 287)).alloc (B #[G A es.length c] 42)).alloc (B #[.int .i64 4] 3)) (d.heap.size+1) 42 (G A es.length c):=by
  have:=Pj (d.alloc (B #[.func (.yield l) #[] #[]] 287)) 42 (G A es.length c);rw[xS]at this;exact this.alloc _
 have q2:Boxed (((d.alloc (B #[.func (.yield l) #[] #[]] 287)).alloc (B #[G A es.length c] 42)).alloc (B #[.int .i64 4] 3)) (d.heap.size+1+1) 3 (.int .i64 4):=by
  have:=Pj ((d.alloc (B #[.func (.yield l) #[] #[]] 287)).alloc (B #[G A es.length c] 42)) 3 (.int .i64 4);rwa[xS,xS]at this
 have Hc:Ext d (((d.alloc (B #[.func (.yield l) #[] #[]] 287)).alloc (B #[G A es.length c] 42)).alloc (B #[.int .i64 4] 3)):=xA (xA (xA (xR _) _) _) _;have J1:Moves (am (λk o=>k=f/\o.ty=E 212) d.heap.size) d (((d.alloc (B #[.func (.yield l) #[] #[]] 287)).alloc (B #[G A es.length c] 42)).alloc (B #[.int .i64 4] 3)):=((Moves.refl.alloc _).alloc _).alloc _;have J5:(((d.alloc (B #[.func (.yield l) #[] #[]] 287)).alloc (B #[G A es.length c] 42)).alloc (B #[.int .i64 4] 3)).heap.size=d.heap.size+3:=by simp
 have K3:Boxed (((d.alloc (B #[.func (.yield l) #[] #[]] 287)).alloc (B #[G A es.length c] 42)).alloc (B #[.int .i64 4] 3)) f 212 z:=((Ht.alloc _).alloc _).alloc _;have KM:=hJ _ _ _ h0 J1;have Kl:f<d.heap.size:=P0 d _ Ht.cell;generalize((d.alloc (B #[.func (.yield l) #[] #[]] 287)).alloc (B #[G A es.length c] 42)).alloc (B #[.int .i64 4] 3)=w2 at *;have KL:Hold g w2:=λq u M=>Pl Hc (hH q u M);refine dV (a:=⟨_,_⟩) rfl (enters_of func373 (by kernel_rfl) rfl)
  (λW1 hb _=>zy2 g W1 _ es Ho H7 (d.heap.size+1) (d.heap.size+1+1) (q1.kept (row:=none) (Pk hb none) (by simp)) (q2.kept (row:=none) (Pk hb none) (by simp)))
  (λk o h=>h.elim) (λk o h=>by rcases h with h | h<;>exact eE h.2) (λx av W h=>by obtain⟨u,rfl,_⟩:=h;rfl)
  (zzG g d.heap.size l f p J) (λcd cs W=>cd=Code.ret/\Jx (zwM p cs) W) ?hI ?hIx ⟨z,KM,K3,hz,q0,KL,by omega⟩
  (λx a' _=>∃u,Es g u x/\a'=⟨#[.func (.yield l) #[] #[],I (E ⟨R,0,L⟩),I (E ⟨f,0,L⟩),I (E ⟨d.heap.size,0,L⟩),u,undef,undef,undef,G A es.length c,.func (.func 373) #[] #[I (E ⟨d.heap.size+1,0,L⟩),I (E ⟨d.heap.size+1+1,0,L⟩)],u,undef,undef,undef,undef,undef,undef,undef,undef,undef,undef,undef,undef],[]⟩)
  (λ_ _ _ _ h _=>h) ?assign ?body ?done ?stop
 case hI=>
  rintro cs X Y⟨zv,r,hb,hp,hy,T,hs⟩hm;have z:Moves (am (λk o=>k=f/\o.ty=E 212) d.heap.size) X Y:=hm.weaken (λk o h=>by rcases h with h | h;exact h.elim;exact .inr ⟨by omega,h.2⟩);refine⟨zv,hJ _ _ _ r z,hm.boxed hb ?_,hp,hm.boxed hy ?_,T.moves hm ?_,Pw hs hm.size⟩
  ·rintro(h | h)
   ·exact h
   cases h.2
  ·rintro(h | h)
   ·exact h
   cases h.2
  rintro k o _ hc(h | h)
  ·exact h
  rw[hc]at h;cases h.2
 case hIx=>
  rintro cd cs X Y⟨rfl,r⟩hm;exact⟨rfl,Kj _ _ _ r (hm.weaken (λk o h=>by rcases h with h | h;exact h.elim;exact .inr ⟨by omega,h.2⟩))⟩
 case assign=>
  rintro l' H4 x Hd W av z hx hi Ka⟨u,rfl,hu⟩N;gi_wp2;exact N _ _ Kept.refl hi ⟨u,hu,rfl⟩
 case body=>
  rintro l' H4 x Hd a' W hx z z⟨zv,r,hb,hp,hy,T,hs⟩Ka⟨u,hu,rfl⟩;have Kv:=hp.pt;obtain⟨z1,z2,rfl,_,_⟩:=hp;have Kx:Es W u x:=SlR.keep hu T;obtain⟨A',c',rfl,_,_⟩:=xO hu;have R:fh x=true:=zy3 es ha x (by rw[hx];simp);have z:=V (zzH z1 z2 _ x W Kx R);rw[Kv]at z;have R:=hb.cell;have X:f<W.heap.size:=P0 W _ R;have R:=V (show zzG g d.heap.size l f p J H4 W from⟨_,r,hb,⟨z1,z2,rfl,by assumption,by assumption⟩,hy,T,hs⟩);gi_wp2;refine⟨trivial,(callsIn_wd.2 z).mono ?_⟩;rintro e K⟨v2,z,rfl,Hs,Ks,hE⟩;have HS:=V Hs;obtain⟨y,H,rfl,_,_⟩:=Hs;have HN:Boxed K f 212 (.complex .f64 z1 z2):=hb.kept (row:=none) (Pk hE none) (by simp);have z:Boxed K d.heap.size 287 (.func (.yield l) #[] #[]):=hy.kept (row:=none) (Pk hE none) (by simp);have R:=HN.cell;have R:=HN.frozen;have Ky:=z.other (show d.heap.size≠f by omega) (.complex .f64 y H);have z:=Ky.cell;gi_wp2;have Kq:Moves (am (λk o=>k=f/\o.ty=E 212) d.heap.size) W (K.setCell ⟨f,0,L⟩ (.complex .f64 y H)):=
   (Moves.refl.below hE (xN _)).setCell (λo m _=>.inl ⟨rfl,by rw[show W.heap[f]?=_ from hb]at m;cases m;rfl⟩) _
  have R:=hJ _ _ _ r Kq;have z:zwM p (zwR es)=zwM p H4++dI (zw8 p H4) x::zwM (aD (zw8 p H4) (bp x)) Hd:=by rw[hx,zw2];rfl
  have X:Bs (K.setCell ⟨f,0,L⟩ (.complex .f64 y H)) v2 (dI (zw8 p H4) x):=xW (Ks.kept (grownBy_setCell' K f (.complex .f64 y H)) (.inr (HN.not_row (by decide) Ks).symm));have HE:d.heap.size<=(K.setCell ⟨f,0,L⟩ (.complex .f64 y H)).heap.size:=Pw hs Kq.size;have Y:=hY _ _ _ z _ #[v2] R HE ⟨v2,rfl,X⟩;have KP:=HN.set (.complex .f64 y H);have R:Kept (am (λk o=>(k=d.heap.size+1/\o.ty=E 42)\/(k=d.heap.size+1+1/\o.ty=E 3)) w2.heap.size) W (K.setCell ⟨f,0,L⟩ (.complex .f64 y H)):=
   (Kept.refl.below hE (xN _)).setCell (λo m hc=>by
    rintro((⟨h,_⟩|⟨h,_⟩)| ⟨h,_⟩)
    ·have:f=d.heap.size+1:=h;omega
    ·have:f=d.heap.size+1+1:=h;omega
    have:w2.heap.size<=f:=h;omega) _
  have Ko:Hold g (K.setCell ⟨f,0,L⟩ (.complex .f64 y H)):=λq u M=>by
   have Hp:=P0 g q M;exact(World.cell?_setCell_other _ _ _ _ (λe=>by rw[<-e]at Hp;have:f<g.heap.size:=Hp;omega)).trans (Pl hE (T q u M))
  refine ew Y ?_;rintro e W4⟨Hl,z⟩;have k2:=R.trans (Hl.mono (λk o h=>by
   rcases h with(⟨h,s⟩|⟨h,s⟩) | ⟨h,s⟩
   ·exact .inl ⟨eE s,by omega,.inr (by rw[s];decide)⟩
   ·exact .inl ⟨eE s,by omega,.inr (by rw[s];decide)⟩
   exact .inr ⟨by omega,s⟩))
  rcases z with⟨rfl,O⟩|⟨rfl,O⟩
  ·refine⟨true,rfl,?_⟩;have Kz:Hid (zzG g d.heap.size l f p J (H4++[x]) W4):=by
    refine⟨.complex .f64 y H,?_,Hl.boxed KP (.inl ⟨rfl,by omega,.inr (by simp[Obj.ty])⟩),?_,Hl.boxed Ky (.inl ⟨rfl,by omega,.inr (by simp[Obj.ty])⟩),?_,Pw HE Hl.size⟩
    ·rw[zw2];exact O
    ·rw[zyM];exact HS.out
    intro q u M;have Hp:=P0 g q M;obtain⟨o,m,hc⟩:=cells_of_cell (Ko q u M);exact Hl.cell (Ko q u M) (λg Kr=>by rw[m]at Kr;cases Kr;exact .inl ⟨hc,by omega,.inl Hp⟩)
   have g:=V k2;gi_wp2;exact⟨g.out,Kz.out⟩
  refine⟨false,rfl,?_⟩;have y:Hid (Jx (zwM p (H4++[x])) W4):=by show Jx _ _;rw[zw2];exact O
  have g:=V k2;gi_wp2;exact⟨g.out,rfl,y.out⟩
 case done=>
  rintro D W hD⟨zv,r,hb,hp,hy,T,hs⟩N;have K4:Moves (am (λk o=>k=f/\o.ty=E 212) d.heap.size) W (W.putObj D (.deferred none)):=Moves.refl.putObj (λo m=>.inr ⟨by omega,by rw[N]at m;cases m;rfl⟩) _;have HJ:=V (hJ _ _ _ r K4);gi_wp2;refine rO N _ (results_none rfl _ _ _) ?_;exact⟨⟨_,rfl⟩,.inl HJ⟩
 case stop=>
  rintro D cd H4 W hD K8⟨rfl,r⟩N;have K4:Moves (am (λk o=>k=f/\o.ty=E 212) d.heap.size) W (W.putObj D (.deferred none)):=Moves.refl.putObj (λo m=>.inr ⟨by omega,by rw[N]at m;cases m;rfl⟩) _;have HJ:=V (Kj _ _ _ r K4);have f:zwM p H4 <+: zwM p (zwR es):=by
   obtain⟨t,s⟩:=K8;rw[<-s,zw2];exact⟨_,rfl⟩
  have d:=V f;gi_wp2;refine dh N _ (results_none rfl _ _ _) ?_;exact⟨⟨_,rfl⟩,.inr ⟨_,d.out,HJ.out⟩⟩
attribute [local go_sem] Pb
def AlI(N:Nat)(w:World)(H4:List (List UInt8))(X:World):Prop:=∃v,Boxed X w.heap.size 33 v/\X.ownsRow w.heap.size 5 1 v H4.flatten.length (H4.flatten.map bv)/\Below N w X
theorem yaf(d w:World)(v:Value)(es:List Ent)(Ho:Es d v es)(ha:bQ es=true)(H7:Z es<=2000000)(hH:Hold d w)(p:Nat×Nat)(z:Value)(hz:PtV z p)(f g:Nat)(HM:Boxed w f 42 v)(Ht:Boxed w g 212 z)(HO:d.heap.size<=f)(Kk:d.heap.size<=g)(A:d.heap.size<=w.heap.size):
  Calls U 362 #[.func (.func 368) #[] #[I (E ⟨f,0,L⟩),I (E ⟨g,0,L⟩)]] w
   λe w'=>∃v',e=.returned v'/\w'.ownsRow w.heap.size 5 1 v' (zwQ p es).length ((zwQ p es).map bv)/\Below d.heap.size w w':=by
 refine(callsIn_wd (ro:=none) (n:=9)).1 ?_;refine callsIn_of_wp_marks func362 rfl trivial ?_ rfl;simp only[ntmps362,Po,xC,Pr,Py,Px,Pf,Pe,Pp,Pn,xI,Pq];obtain⟨i0,hi,Kd,Ke,Kf⟩:=info_parts dC;have K1:f<w.heap.size:=P0 w _ HM.cell;have KT:g<w.heap.size:=P0 w _ Ht.cell;have HK:=zxJ p es;gi_wp2;have Hc:Ext w (w.alloc (B #[G none 0 0] 33)):=xA (xR _) _;have h0:AlI d.heap.size w [] (w.alloc (B #[G none 0 0] 33)):=⟨_,Pj w _ _,P1 _ _ _ _,Hc.mono A⟩;have J5:(w.alloc (B #[G none 0 0] 33)).heap.size=w.heap.size+1:=by simp
 have c1:Boxed (w.alloc (B #[G none 0 0] 33)) f 42 v:=HM.alloc _;have c2:Boxed (w.alloc (B #[G none 0 0] 33)) g 212 z:=Ht.alloc _;generalize w.alloc (B #[G none 0 0] 33)=w2 at *;have HP:=zx9 p es;refine dV (a:=⟨_,_⟩) rfl (enters_of func368 (by kernel_rfl) rfl)
  (λW1 hb hs=>zyL d W1 _ es Ho ha H7 (λq u hc=>Pl (xT Hc hb) (hH q u hc)) p z hz f g w.heap.size
    (c1.kept (row:=none) (Pk hb none) (by simp)) (c2.kept (row:=none) (Pk hb none) (by simp)) HO Kk A (by omega) (by omega) (by omega))
  (λk o h=>eE h.2) (λk o h=>h.1) (λx av W h=>by obtain⟨u,rfl,_⟩:=h;rfl)
  (AlI d.heap.size w) (λ_ _ _=>False) ?hI (λ_ _ _ _ h _=>h) h0
  (λx a' W=>∃u,Bs W u x/\a'=⟨#[.func (.func 368) #[] #[I (E ⟨f,0,L⟩),I (E ⟨g,0,L⟩)],undef,I (E ⟨w.heap.size,0,L⟩),u,.func (.func 368) #[] #[I (E ⟨f,0,L⟩),I (E ⟨g,0,L⟩)],u,undef,undef,undef,undef],[]⟩)
  ?hAx ?assign ?body ?done ?stop
 case hI=>
  rintro s X Y⟨v1,b,hr,H⟩hm;refine⟨v1,hm.boxed b ?_,hm.ownsRow hr ?_,hm.belowOf H ?_ A⟩
  ·rintro(h | h)
   ·have:=h.1;omega
   cases h.2
  ·rintro k KH _(h | h)
   ·cases h.2
   cases h.2
  rintro k o hk(h | h)
  ·have:=h.1;omega
  have:=h.1;omega
 case hAx=>
  rintro x a' X Y⟨u,y,rfl⟩hm;refine⟨u,SlR.keep y (λq t N=>hm.cell N (λo _ hc=>?_)),rfl⟩;rintro(h | h)
  ·exact h
  rw[hc]at h;cases h.2
 case assign=>
  rintro l H4 x Hd W av d hx hi Ka⟨u,rfl,y⟩hK;gi_wp2;exact hK _ _ Kept.refl hi ⟨u,y,rfl⟩
 case stop=>
  rintro D c H4 W _ _ h _;exact h.elim
 case body=>
  rintro l H4 x Hd a' W hx hl hr⟨v1,b,H3,H⟩Ka⟨u,y,rfl⟩;have d:Z H4.flatten+Z x<=40000000:=by
   have:=congrArg (λt=>Z (List.flatten t)) hx;simp only[HP,List.flatten_append,List.flatten_cons,xL]at this;omega
  have d:(H4++[x]).flatten=H4.flatten++x:=by simp
  have KD:=V d;have Hx:=V hx;generalize H4.flatten=q at *;obtain⟨m,r,rfl,_,_⟩:=xO (xW H3);have J8:=y;obtain⟨d,d,rfl,_,_⟩:=xO y;have hc:=b.cell;have Hg:=b.not_row (e:=5) (by decide) H3;gi_wp2_with (gi_at_builtin;refine lk _ rfl (.tmp 6) (.tmp 7) 33 rfl w.heap.size 5 i0 (O .u8 0) 1 1 underlying33 hi Kd Ke Kf rfl (by decide) (G m q.length r) q.length _ rfl H3 _ x.length _ rfl J8 (de _) (by unfold maxLen;omega) (by omega) (by omega) ?_;intro v' w1 T R;obtain⟨A3,KF,rfl,_,_⟩:=xO (xW T);have J:=b.kept R Hg;have d:=J.cell;have d:=J.frozen)
  refine⟨(Kept.refl.grown R (λk o K M=>?_)).setCell (λo M _=>?_) _,_,J.set _,?_,?_⟩
  ·obtain⟨KH,Km⟩:=lm H3 K;rw[M]at Km;cases Km;rintro(⟨_,_,h⟩|⟨_,h⟩)
   ·rcases h with h | h
    ·have:=(H3.lt k K).1;omega
    exact h rfl
   cases h
  ·rw[show W.heap[w.heap.size]?=_ from b]at M;cases M;rintro(⟨_,h,_⟩|⟨_,h⟩)
   ·exact h rfl
   cases h
  ·have h:=T.kept (grownBy_setCell' w1 w.heap.size (G A3 (Z q+Z x) KF)) (.inr (J.not_row (by decide) T).symm);rw[KD.out];simpa using h
  refine(H.grown R (by omega) (λk K=>?_)).setCell (p:=⟨w.heap.size,0,L⟩) A _;have:=(H3.lt k K).1;omega
 case done=>
  rintro D W hD⟨v1,b,H3,H⟩hK;rw[HP]at H3;obtain⟨q,N⟩:∃q,zwQ p es=q:=⟨_,rfl⟩;rw[N]at H3;have Hq:=V N;obtain⟨m,r,rfl,_,_⟩:=xO (xW H3);have hc:=b.cell;have hf:=b.frozen;gi_wp2;have d:=H3.kept (grownBy_setCell' W w.heap.size (G m q.length r)) (.inr (b.not_row (by decide) H3).symm);have f:=b.set (G m q.length r);have b:=dK hK rfl ⟨w.heap.size,0,L⟩ (G m q.length r);have g:=fL f.cell b rfl (.deferred none);refine dh b (G m q.length r) (by simp[results,results362,go_sem,g]) ⟨_,rfl,by rw[Hq.out];exact ownsRow_putObj d (.deferred none) b rfl,?_⟩;exact cp (H.setCell (p:=⟨w.heap.size,0,L⟩) A _) _
open Go.RowKit Go.Mv
theorem ybl(w:World)(v:Value)(es:List Ent)(f:Es w v es)(g:bQ es=true)(d:Z es<=2000000)(p:Nat×Nat)(z1 z2:Nat)(h:PtV (.complex .f64 z1 z2) p):
  Calls U 362 #[.func (.func 368) #[] #[I (E ⟨w.heap.size+1,0,L⟩),I (E ⟨w.heap.size,0,L⟩)]] ((w.alloc (B #[.complex .f64 z1 z2] 212)).alloc (B #[v] 42))
   λe w'=>∃c,e=.returned c/\w'.ownsRow w.heap.size 5 1 c (zwQ p es).length ((zwQ p es).map bv)/\Ext w w':=by
 have b:Ext w ((w.alloc (B #[.complex .f64 z1 z2] 212)).alloc (B #[v] 42)):=xA (xA (xR _) _) _;have k:Boxed ((w.alloc (B #[.complex .f64 z1 z2] 212)).alloc (B #[v] 42)) (w.heap.size+1) 42 v:=by
  have:=Pj (w.alloc (B #[.complex .f64 z1 z2] 212)) 42 v;rwa[xS]at this
 have l:Boxed ((w.alloc (B #[.complex .f64 z1 z2] 212)).alloc (B #[v] 42)) w.heap.size 212 (.complex .f64 z1 z2):=(Pj w _ _).alloc _;refine(yaf w _ v es f g d (λq u d=>Pl b d) p _ h _ _ k l (by omega) (xN _) b.size).mono ?_;rintro e w' ⟨c,rfl,f,d⟩;exact⟨c,rfl,ay f b.size,Below.trans b d⟩
theorem FK(c:Value)(b:List (List UInt8))(w:World)(h:Parts w c b):Calls U 297 #[.complex .f64 0 0,c] w λe w'=>∃d,e=.returned d/\PtV d (aD (0,0) b.flatten)/\Ext w w':=by
 have d:=PtV.zero.pt;have:=qI 0 0 c b w h;unfold o6 at this;rw[d]at this;exact this
theorem zzJ(first:Int)(v:Value)(es:List Ent)(w:World)(h:Es w v es)(J:Z es<=2000000):Calls U 357 #[.int .i64 first,v] w (zxh w (zyq first es)):=by
 obtain⟨A,c,rfl,h1,h2⟩:=xO h;have f:=V (λw=>zzK first w);have k:=V (λw (h:Es w (G A es.length c) es)=>Ng _ es w h);have H:=V h;have z:=L3 first;unfold zxh at f;unfold zyq
 rcases x:cK first with⟨p,d⟩
 have p:=zzo first;rw[x]at f z p;dsimp only at f z p
 rcases p with rfl | rfl
 ·cases t:bQ es
  ·rw[t]at k;rw[if_neg (by simp)];unfold zxh;go_enter func357,ntmps357
   go_wp2_with (first
    |(go_at_call 360;refine(f _).mono ?_;rintro e m⟨B,rfl,g,b⟩)
    |(go_at_call 361;refine(k _ (Es.ext H b)).mono ?_;rintro e D⟨rfl,l⟩))
   go_ret2;exact⟨_,rfl,P1 _ _ _ _,xT b l⟩
  rw[t]at k;rw[if_pos (by simp)];have L:=V t;unfold zxh;obtain⟨i0,hi,T,X,Kf⟩:=info_parts dC;go_enter func357,ntmps357
  go_wp2_with (first
   |(go_at_call 360;refine(f _).mono ?_;rintro e m⟨B,rfl,g,b⟩;obtain⟨I,Y,rfl,_,_⟩:=xO (xW g))
   |(go_at_call 361;refine(k _ (Es.ext H b)).mono ?_;rintro e D⟨rfl,l⟩)
   | (go_at_call 297
      have hb:Bs D (G I d.length Y) d:=xW (ai g l);have k:=lU hb;refine(FK _ _ _ k).mono ?_;rintro e E⟨k,rfl,q,N⟩;rw[show[d].flatten=d from by simp]at q;have K:=V q;obtain⟨z1,z2,rfl,_,_⟩:=q)
   |(go_at_call 363;refine(zy1 _ _ _ _ _ _).mono ?_;rintro e w' ⟨rfl,rfl⟩)
   | (go_at_call 362
      have y:Ext m E:=xT (xA l _) N;refine(ybl E _ es (Es.ext H (xT b y)) L J _ _ _ K).mono ?_;rintro e w4⟨k,rfl,r,R⟩;have l:=zxJ (aD (0,0) d) es;obtain⟨s,k⟩:∃s,zwQ (aD (0,0) d) es=s:=⟨_,rfl⟩;rw[k]at l r;have M:=V k;obtain⟨k,k,rfl,_,_⟩:=xO (xW r);have k:Ext m w4:=xT y R;have l:=ai g k)
   | (at_builtin
      refine dT _ rfl (.tmp 19) (.tmp 25) 33 rfl w.heap.size 5 i0 (O .u8 0) 1 1 underlying33 hi T X Kf rfl (by decide) _ d.length _ rfl l _ s.length _ rfl (xW r) (de _) (by unfold maxLen;omega) (by omega) (xT b k).size ?_;intro d d p d))
  go_ret2;refine⟨_,rfl,?_,Ext.grownOwn (xT b k) l d⟩;dsimp only;rw[M.out];simpa using p
 ·rw[if_neg (by simp)];unfold zxh;go_enter func357,ntmps357
  go_wp2_with (go_at_call 360;refine(f _).mono ?_;rintro e m⟨B,rfl,g,b⟩)
  go_ret2;exact⟨_,rfl,P1 _ _ _ _,b⟩
end Go.Proofs.YteggfecbjgbndaaGreatDoor

namespace Go.Mv
open Go.RowKit
variable {a:Act} {w:World}
section
variable {n:Nat} {P:Program} {ops:Array Oper} {Q:Exit->Act->World->Prop} {md:P7} {S:World->Prop}
def NoQ(Q:Exit->Act->World->Prop):Exit->Act->World->Prop
 |.normal,a,w=>Q .normal a w
 |_,_,_=>False
theorem NoQ.imp{Q:Exit->Act->World->Prop}(e:Exit)(a:Act)(w:World)(h:NoQ Q e a w):Q e a w:=by
 cases e<;>first | exact h | exact h.elim
theorem mC(h:Q .normal a w):NoQ Q .normal a w:=h
theorem BP{o:Oper}{K:Act->World->Prop}{r:Result Next}(h:o.upon P a K Q r):o.uponIn (Wd none) n P a K Q r:=by
 cases r with
 |ok x w=>
  cases x with
  |value v=>exact h
  |skip=>exact h
  |defer d=>exact h
  |enter f args=>exact⟨λh=>by simp[Fence.wide]at h,callsIn_wd.2 h⟩
  |row row args=>exact⟨λh=>by simp[Fence.wide]at h,λc cs _=>let ⟨v,w',r,s⟩:=h c cs;⟨v,w',r,stepsIn_wide.2 s⟩⟩
  |_=>exact h.elim
 |halt x w=>
  cases x<;>first | exact h | exact h.elim
theorem Ok{i:Nat}{K:Act->World->Prop}(h:wpOp P ops (NoQ Q) i K a w):wpOpIn (Wd none) n P ops (NoQ Q) i K a w:=by
 unfold wpOp at h;unfold wpOpIn;cases c:ops[i]? with
 |none=>rw[c]at h;exact h
 |some o=>
  rw[c]at h;dsimp only at h⊢;split
  ·rename_i b;rw[if_pos b]at h;rcases h with h | ⟨_,_,_,h⟩
   ·refine⟨λ_ _=>trivial,?_⟩;rw[show(Wd none).round=none from rfl,P8];exact BP h
   exact h.elim
  ·rename_i b;rw[if_neg b]at h;exact⟨λ_ _=>trivial,h⟩
theorem rF:∀(fuel:Nat) (H0:Array Bool) (a:Act) (w:World),wpAny P md ops (NoQ Q) fuel H0 a w->wpAnyIn (Wd none) n P md ops (NoQ Q) fuel H0 a w
 |0,_,_,_,h=>h
 |fuel+1,H0,a,w,h=>⟨h.1,λi hi=>wpOpIn_mono (λa w=>rF fuel _ a w) (Ok (h.2 i hi))⟩
theorem sV{l d:Nat}(hm:P.follows .mixedOrders=true)(c:ni ops=true)(b:S w.drew)(h:S w.drew->wpAnyH P .any ops (NoQ Q) S ops.size (Pc ops.size false) a w.drew):(Pv d ops true).wpIn (Wd (some l)) n P Q a w:=
 wpIn_mono (wpIn_region_any (F:=(Wd none).inRound l) hm (tG l c rfl _ _ _ _ (rF _ _ _ _ (wpAny_of_held _ _ _ _ (h b))))) NoQ.imp
theorem mq{c:Nat}(hm:P.follows .mixedOrders=true)(b:S w.drew)(h:S w.drew->wpAnyH P .any ops (NoQ Q) S ops.size (Pc ops.size false) a w.drew):(Pv c ops true).wpIn (Wd none) n P Q a w:=
 wpIn_mono (wpIn_region_any hm (rF _ _ _ _ (wpAny_of_held _ _ _ _ (h b)))) NoQ.imp
end
end Go.Mv
