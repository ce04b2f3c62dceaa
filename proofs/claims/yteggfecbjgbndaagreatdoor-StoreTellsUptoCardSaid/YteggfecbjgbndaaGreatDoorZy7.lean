/- Merged -/
import Derived.Test.YteggfecbjgbndaaGreatDoorZy1
import Derived.OrdersIn
import Derived.TacticsIn
import Derived.RangeFuncCalls
import Derived.Laws.Rows
import Derived.OrdersHeld
set_option linter.all false
set_option maxHeartbeats 8000000
set_option maxRecDepth 100000
open Option renaming some->E,none->L
open Go.Value renaming slice->N
open Go.Region renaming wanted->P0,ready->P1,binds->P2,Mode->P3,noSelect->P4,free->P5
open Go.Oper renaming semAt_none->P6,uponIn->P7,wpIn->P8
open Array renaming getElem?_eq_some_iff->P9,replicate->Pa,getElem?_eq_none->Pb,range->Pc
open Go.World renaming putObj_heap_other->Pd,alloc_heap_new->Pe,block_lt_of_cell?->Pf,putObj_heap_same->Pg,cell?->Ph
open Go.Sem renaming run_bind->Pi,run_pure->Pj
open Go.Fence renaming wide->Pk
open List renaming all_eq_true->Pl,length_take->Pm,range->Pn
open Bool renaming and_eq_true->Po
open Go.Code renaming region->Pp
open Go.Instr renaming fill->Pq,buildSlice->Pr,loadAt->Ps
namespace Go.Mv
open Go.RowKit
variable {a:Act} {K:Act->World->Prop} {Q:Exit->Act->World->Prop} {tl:List Nat} {xs:List Value} {b c fuel i id j m n size:Nat} {o oi oj:Oper} {A:Option Addr} {row:Option Nat} {t:TypeId} {u v:Value} {W w w':World} {C:World->Prop}
theorem mcRounda0{P:Prop}(h:P:=by
 have hi:=fD H8;refine wpAnyIn_all hr (by simp) (λj hj=>?_);have e:j=i:=by simpa using hj
 subst e;unfold wpOpIn;have HI:∀f,o.about P w a.eval=E f->F.fn f:=λf hf=>by rw[H6]at hf;cases hf
 have hw:P0 o (yielded ops a.tmps)=true:=by simp[P0,hg]
 simp only[hi,hw,if_true,P8,H2,P6,H1,P7];exact⟨HI,h⟩):P:=h
section
variable {F:Fence} {n:Nat} {P:Program} {ops:Array Oper} {Q:Exit->Act->World->Prop} {md:P3}
def ni(ops:Array Oper):Bool:=ops.all λo=>match o.op with | .defer _=>false | _=>true
theorem Dr(h:ni ops=true)(e:ops[j]?=E o)(c:Call):o.op≠.defer c:=by
 intro d;have:=Array.all_eq_true_iff_forall_mem.1 h o (Array.mem_of_getElem? e);simp[d]at this
theorem DX(l:Nat)(hd:ni ops=true)(f:F.round=none)(h:wpOpIn F n P ops Q i K a w):wpOpIn (F.inRound l) n P ops Q i K a w:=by
 unfold wpOpIn at *;cases d:ops[i]? with
 |none=>simpa[d]using h
 |some o=>
  simp only[d]at h⊢;split
  ·rename_i e;simp only[e,if_true]at h;unfold P8 at *;refine⟨h.1,?_⟩;have h:=h.2;rw[f,P6]at h;rw[Fence.inRound_round,Oper.semAt_some l _ o (Dr hd d)];exact h
  ·rename_i e;simp only[e]at h;exact h
theorem tG(l:Nat)(hd:ni ops=true)(e:F.round=none):∀(fuel:Nat) (d:Array Bool) (a:Act) (w:World),wpAnyIn F n P md ops Q fuel d a w->wpAnyIn (F.inRound l) n P md ops Q fuel d a w:=by
 intro fuel;induction fuel with
 |zero=>intro d a w h;exact h
 |succ fuel ih=>
  intro d a w h;exact⟨h.1,λi d=>DX l hd e (wpOpIn_mono (λa w=>ih _ a w) (h.2 i d))⟩
def NoP(Q:Exit->Act->World->Prop):Exit->Act->World->Prop
 |.panic _,_,_=>False
 |e,a,w=>Q e a w
theorem NoP.imp(e:Exit)(a:Act)(w:World)(h:NoP Q e a w):Q e a w:=by
 cases e<;>first | exact h | exact h.elim
theorem nE{l:Nat}(h:wpAnyIn (Wd none) n P .any ops (NoP Q) ops.size (Pa ops.size false) a w.drew)(hm:P.follows .mixedOrders=true:=by kernel_rfl)(hd:ni ops=true:=by kernel_rfl):(Pp id ops true).wpIn (Wd (some l)) n P Q a w:=
 wpIn_mono (wpIn_region_any (F:=(Wd none).inRound l) hm (tG l hd rfl _ _ _ _ h)) NoP.imp
theorem mc(h:wpAnyIn (Wd none) n P .any ops (NoP Q) ops.size (Pa ops.size false) a w.drew)(hm:P.follows .mixedOrders=true:=by kernel_rfl):(Pp id ops true).wpIn (Wd none) n P Q a w:=
 wpIn_mono (wpIn_region_any hm h) NoP.imp
theorem eV(h:Q .normal a w):NoP Q .normal a w:=h
theorem fp{fn:Func}{tmps:Array Value}{R:Ending->World->Prop}(v:Value)(d:(results fn tmps).run P W=.ok v W)(e:R (.returned v) W):bodyPostM (Wd none) n P fn R .ret ⟨tmps,[]⟩ W:=⟨v,d,e⟩
theorem mB{c:Code}{d:Array Value}{e:List Deferred}(h:∀T:Array Value,T=d->c.wpIn F n P Q ⟨T,e⟩ W):c.wpIn F n P Q ⟨d,e⟩ W:=h d rfl
def Read4(p q r s:Addr×Value)(W:World):Prop:=W.cell? p.1=E p.2/\W.cell? q.1=E q.2/\W.cell? r.1=E r.2/\W.cell? s.1=E s.2
theorem iQ{p:Addr}(h:W.cell? p=E v)(o:Obj):(W.alloc o).cell? p=E v:=
 (Below.cell ((Below.refl W.heap.size W).alloc (xN _) o) (Pf W p h)).trans h
theorem Read4.alloc{p q r s:Addr×Value}(h:Read4 p q r s W)(o:Obj):Read4 p q r s (W.alloc o):=⟨iQ h.1 o,iQ h.2.1 o,iQ h.2.2.1 o,iQ h.2.2.2 o⟩
theorem nH(s x:Operand)(t:TypeId)(e:o.op=.call { callee:=.builtin .append,args:=#[s,x],argTypes:=#[t,t] }){v vx d:Value}(hs:a.eval s=v)(hx:a.eval x=vx)(H1:(Builtin.append_ #[t,t] o.type #[v,vx]).run P w=.ok d w'):(execOp a.eval o).run P w=.ok (.value d) w':=by
 unfold execOp;simp only[e,resolve,invoke,builtin,Pi,Pj,Result.andThen_ok,List.map_toArray,List.map_cons,List.map_nil,hs,hx,H1]
theorem nK(s x:Operand)(t:TypeId)(d:o.op=.call { callee:=.builtin .append,args:=#[s,x],argTypes:=#[t,t] }):o.about P w a.eval=none:=by
 simp[Oper.about,d,resolve,Target.leads,go_sem]
theorem fM(n:Nat)(T:Array Value)(h:T.size=n):T=((Pn n).map λi=>T.getD i undef).toArray:=by
 apply Array.ext
 ·simp[h]
 ·intro i h1 h2;simp[h1]
theorem FH(h:Boxed W b t v){k:Nat}(hc:W.cell? ⟨b,k,L⟩=E u):k=0:=by
 have d:W.heap[b]?=E (.cells #[v] t (0,0)):=h;cases k with
 |zero=>rfl
 |succ k=>simp[Ph,d]at hc
theorem fD(h:ops.toList[i]?=E oi):ops[i]?=E oi:=by simpa using h
def YieldsC(P:Program)(ops:Array Oper)(C:World->Prop)(o:Oper)(v:Value)(a:Act):Prop:=
 P0 o (yielded ops a.tmps)=true/\(∀w,C w->(execOp a.eval o).run P w=.ok (.value v) w)/\∀w,o.about P w a.eval=none
def o7(P:Program)(C:World->Prop)(o:Oper):Prop:=∀(ρ:Operand->Value) (w:World),C w->∀r w',(execOp ρ o).run P w=.ok r w'->(∃v,r=.value v)/\C w'
theorem YieldsC.wpOpIn(d:F.round=none)(k:ops[i]?=E o)(l:YieldsC P ops C o v a){K:Act->World->Prop}{w:World}(g:C w)(h:K (a.put o.dst v) w):wpOpIn F n P ops Q i K a w:=by
 unfold Go.wpOpIn;obtain⟨h1,h2,h3⟩:=l;have e:∀f,o.about P w a.eval=E f->F.fn f:=λf hf=>by rw[h3 w]at hf;cases hf
 simp only[k,h1,if_true,P8,d,P6,h2 w g,P7];exact⟨e,h⟩
theorem YieldsC.of_same{a':Act}(d:YieldsC P ops C o v a)(he:execOp a'.eval o=execOp a.eval o)(e:P0 o (yielded ops a'.tmps)=P0 o (yielded ops a.tmps))(hb:∀w,o.about P w a'.eval=o.about P w a.eval):YieldsC P ops C o v a':=
 ⟨e.trans d.1,λw h=>by rw[he];exact d.2.1 w h,λw=>by rw[hb w];exact d.2.2 w⟩
theorem EP(f:F.round=none)(z:ops[j]?=E oj)(k:oi.apart ops oj=true)(q:∀cs b,oi.op≠.select cs b)(s:∀cs b,oj.op≠.select cs b)(l:o7 P C oj)(y:∀c a w,Q (.panic c) (a.put oi.dst v) w->Q (.panic c) a w){K:Act->World->Prop}{a:Act}{w:World}(g:C w)(d:YieldsC P ops C oi v a)(h:wpOpIn F n P ops Q j K (a.put oi.dst v) w):
  wpOpIn F n P ops Q j (λa' w'=>(YieldsC P ops C oi v a'/\C w')/\K (a'.put oi.dst v) w') a w:=by
 obtain⟨h1,h2,h3⟩:=Oper.apart_spec k;have keep:∀(a:Act),YieldsC P ops C oi v a->∀u,YieldsC P ops C oi v (a.put oj.dst u):=λa d u=>
  d.of_same (execOp_put oi q a oj.dst u h3) (wanted_put oi a oj.dst u h3) (λw=>about_put oi w a oj.dst u h3)
 unfold wpOpIn at *;simp only[z]at *;rw[wanted_put oj a oi.dst v h1,about_put oj w a oi.dst v h1]at h;split
 ·rename_i e;simp only[e,if_true]at h;unfold P8 at *;rw[about_put oj w a oi.dst v h1]at h;refine⟨h.1,?_⟩;have h:=h.2;rw[f,P6,execOp_put oj s a oi.dst v h1]at h;rw[f,P6];have B:=l a.eval w g;generalize(execOp a.eval oj).run P w=r at *;cases r with
  |ok x w'=>
   obtain⟨⟨u,rfl⟩,p⟩:=B _ _ rfl;simp only[P7]at h⊢;exact⟨⟨keep a d u,p⟩,by rw[<-Act.put_comm a v u h2];exact h⟩
  |halt x w'=>
   cases x<;>simp only[P7]at h⊢
   case panic u=>exact y _ _ _ h
 ·rename_i e;simp only[e]at h;exact⟨h.1,⟨keep a d _,g⟩,by rw[<-Act.put_comm a v undef h2];exact h.2⟩
def px(md:P3)(ops:Array Oper)(i:Nat)(tl:List Nat):Bool:=
 tl.all λj=>match ops[j]? with
  |some oj=>oj.after.any λe=>P2 md e&&(e.on==i||tl.contains e.on)
  |none=>false
theorem MK{d:Array Bool}(l:px md ops i tl=true)(s:d.getD i true=false)(hl:∀k∈tl,d.getD k true=false)(x:j∈P1 md ops d):j ∉ tl:=by
 intro p;obtain⟨q,oj,r,q⟩:=mem_ready.1 x;simp only[px,Pl]at l;have h1:=l j p;simp only[r]at h1;obtain⟨e,he,hb⟩:=Array.any_eq_true'.1 h1;simp only[Po,Bool.or_eq_true,beq_iff_eq,List.contains_iff_mem]at hb;have h2:=q e he hb.1;have g:∀k,d.getD k true=false->d.getD k false=true->False:=by
  intro k a b;rcases Nat.lt_or_ge k d.size with f | f
  ·simp[f]at a b;rw[a]at b;cases b
  simp[Pb f]at b
 rcases hb.2 with h | h
 ·rw[h]at h2;exact g _ s h2
 ·exact g _ (hl _ h) h2
theorem CV(tl:List Nat)(L:px md ops i tl=true)(x:F.round=none)(B:ops[i]?=E oi)(J:∀(j:Nat) (o:Oper) cs b,ops[j]?=E o->o.op≠.select cs b)(R:∀c a w,Q (.panic c) (a.put oi.dst v) w->Q (.panic c) a w):
  ∀(fuel:Nat) (f:Array Bool) (a:Act) (w:World),(∀k∈tl,f.getD k true=false) ->
   (∀j oj,ops[j]?=E oj->j≠i->j ∉ tl->f.getD j true=false->(∀e∈oj.after,P2 md e=true->e.on≠i)->oi.apart ops oj=true/\o7 P C oj) ->
   i∈P1 md ops f->C w->YieldsC P ops C oi v a ->
   wpAnyIn F n P md ops Q fuel (f.setIfInBounds i true) (a.put oi.dst v) w->wpAnyIn F n P md ops Q (fuel+1) f a w:=by
 intro fuel;induction fuel with
 |zero=>
  intro f a w _ _ g q s H;refine⟨λh=>(by rw[h]at g;cases g),λj l=>?_⟩;by_cases d:j=i
  ·subst d;exact s.wpOpIn x B q H
  have:=ready_mono l d;rw[H.1]at this;cases this
 |succ fuel ih=>
  intro f a w K3 G g q s H;refine⟨λh=>(by rw[h]at g;cases g),λj l=>?_⟩;by_cases d:j=i
  ·subst d;exact s.wpOpIn x B q H
  ·have h1:=H.2 j (ready_mono l d);have D:j ∉ tl:=MK L (mem_ready.1 g).1 K3 l;obtain⟨I,oj,y,N⟩:=mem_ready.1 l;have M:∀e∈oj.after,P2 md e=true->e.on≠i:=λe he hb L=>by
    have h1:=N e he hb;have l:=(mem_ready.1 g).1;rw[L]at h1;rcases Nat.lt_or_ge i f.size with z | z
    ·simp[z]at l h1;rw[l]at h1;cases h1
    simp[Pb z]at h1
   obtain⟨l,z⟩:=G j oj y d D I M;have h2:=EP x y l (λcs b=>J i oi cs b B) (λcs b=>J j oj cs b y) z R q s h1;have O:∀k ok,ops[k]?=E ok->k≠i->k ∉ tl->(f.setIfInBounds j true).getD k true=false ->
     (∀e∈ok.after,P2 md e=true->e.on≠i)->oi.apart ops ok=true/\o7 P C ok:=λk ok r q s Hl l=>by
    refine G k ok r q s ?_ l;by_cases p:j=k
    ·subst p;exact I
    rw[getD_set_ne true p]at Hl;exact Hl
   have p:∀k∈tl,(f.setIfInBounds j true).getD k true=false:=λk r=>by
    have l:j≠k:=λe=>D (by rw[e];exact r);rw[getD_set_ne true l];exact K3 k r
   refine wpOpIn_mono (λa' w' h3=>ih (f.setIfInBounds j true) a' w' p O (ready_mono g (Ne.symm d)) h3.1.2 h3.1.1 ?_) h2;rw[Array.setIfInBounds_comm _ _ d];exact h3.2
def SameW{α:Type}(P:Program)(s:Sem α):Prop:=∀w r w',s.run P w=.ok r w'->w'=w
def eO{α:Type}(P:Program)(s:Sem α):Prop:=∀w r w',s.run P w=.ok r w'->w'=w\/∃o,w'=w.alloc o
theorem fo{α β:Type}{s:Sem α}{f:α->Sem β}(h1:SameW P s)(h2:∀a,SameW P (f a)):SameW P (s >>= f):=by
 intro w r w' h;rw[Pi]at h;cases hs:s.run P w with
 |ok a w1=>
  rw[hs]at h;rw[h1 _ _ _ hs]at h;exact h2 a _ _ _ h
 |halt x w1=>rw[hs]at h;cases h
theorem lz{α β:Type}{s:Sem α}{f:α->Sem β}(h1:SameW P s)(h2:∀a,eO P (f a)):eO P (s >>= f):=by
 intro w r w' h;rw[Pi]at h;cases hs:s.run P w with
 |ok a w1=>
  rw[hs]at h;rw[h1 _ _ _ hs]at h;exact h2 a _ _ _ h
 |halt x w1=>rw[hs]at h;cases h
theorem FW{α β:Type}{s:Sem α}{f:α->Sem β}(h1:eO P s)(h2:∀a,SameW P (f a)):eO P (s >>= f):=by
 intro w r w' h;rw[Pi]at h;cases hs:s.run P w with
 |ok a w1=>
  rw[hs]at h;have:=h2 a _ _ _ h;subst this;exact h1 _ _ _ hs
 |halt x w1=>rw[hs]at h;cases h
theorem eW{α:Type}(a:α):SameW P (pure a:Sem α):=by
 intro w r w' h;rw[Pj]at h;cases h;rfl
theorem SameW.grow{α:Type}{s:Sem α}(h:SameW P s):eO P s:=λw r w' d=>.inl (h w r w' d)
theorem z8(a:Addr)(m:Mode):SameW P (load a m):=by
 intro w r w' h;rw[run_load]at h;split at h
 ·cases h;rfl
 ·split at h<;>cases h<;>rfl
theorem ms{α:Type}(m:String):SameW P (stuck m:Sem α):=by
 intro w r w' h;simp[go_sem]at h
theorem yj:SameW P program:=by
 intro w r w' h;simp[go_sem]at h;exact h.2.symm
theorem tF(t:TypeId):SameW P (typeInfo t):=by
 unfold typeInfo;refine fo yj (λp=>?_);split
 ·exact eW _
 ·exact ms _
theorem tf(t:TypeId):SameW P (underlying t):=by
 unfold underlying;refine fo yj (λp=>?_);split
 ·exact eW _
 ·exact ms _
theorem tP(t:TypeId):SameW P (sizeOf t):=by unfold sizeOf;exact fo (tF t) (λ_=>eW _)
theorem I9(t:TypeId):SameW P (isAgg t):=by
 unfold isAgg;refine fo (tf t) (λd=>?_);split<;>exact eW _
theorem CE(a:Addr)(n:Nat):∀(i:Nat) (d:Array Value),SameW P (loadCellsFrom a i n d):=by
 induction n with
 |zero=>intro i d;exact eW _
 |succ n ih=>intro i d;exact fo (z8 _ _) (λv=>ih _ _)
theorem Eo(t:TypeId)(a:Addr):SameW P (loadVar t a):=by
 unfold loadVar;refine fo (I9 t) (λb=>?_);cases b
 ·exact z8 _ _
 ·exact fo (tP t) (λn=>fo (CE _ _ _ _) (λ_=>eW _))
theorem EE(t:TypeId)(v:Value):SameW P (Ps t v):=by
 unfold Ps;refine fo ?_ (λa=>Eo t a);unfold Instr.sureAddr;split
 ·exact eW _
 ·exact ms _
def oZ(o:Oper):Bool:=
 match o.op with
 |.move _=>true
 |.load _ _=>true
 |.buildSlice _ _ _=>true
 |_=>false
def mX(ops:Array Oper)(d:Array Bool)(i:Nat)(tl:List Nat):Bool:=
 tl.all (λk=>!d.getD k true)&&(Pn ops.size).all λj=>j==i||tl.contains j||d.getD j true||match ops[j]? with
   |some oj=>oZ oj
   |none=>true
theorem Dc{d:Array Bool}(h:mX ops d i tl=true)(j:Nat)(oj:Oper)(e:ops[j]?=E oj)(f:j≠i)(g:j ∉ tl)(Hl:d.getD j true=false):oZ oj=true:=by
 simp only[mX,Po,Pl,List.mem_range]at h;have h1:=h.2 j (P9.1 e).1;simpa[e,f,g,Hl]using h1
theorem DJ{d:Array Bool}(h:mX ops d i tl=true):∀k∈tl,d.getD k true=false:=by
 simp only[mX,Po,Pl]at h;intro k d;simpa using h.1 k d
theorem L0(t:TypeId):SameW P (zeroValue t):=by
 unfold zeroValue;refine fo (tF t) (λi=>?_);split
 ·exact eW _
 ·intro w r w' h;simp[go_sem]at h
theorem EV(t:TypeId)(cs:Array Value):eO P (newRow t cs):=by
 intro w r w' h;simp[newRow,go_sem]at h;exact .inr ⟨_,h.2.symm⟩
theorem NF{α:Type}{c:Prop}[Decidable c]{s t:Sem α}(h1:eO P s)(h2:eO P t):eO P (if c then s else t):=by split<;>assumption
theorem CZ (t:TypeId) (n:Nat) (ps:Array (Nat×Value)):eO P (Pr t n ps):=by
 unfold Pr;refine lz (tf t) (fun d=>?_);split
 ·refine lz (tP _) (fun size=>?_);have hu:∀ {α:Type} (u:Unsupported),SameW P (unsupported u:Sem α):=by
   intro α u w r w' h;simp[go_sem] at h
  have Hd:∀ (zero:Array Value) (e:TypeId),eO P (do
    let some cells:=Pq (fun i=>some (i*size,size)) ((Pc (n*size)).map (zero[· % zero.size]!)) ps.toList | stuck "buildSlice: a part of the wrong size"
    pure (Value.slice (some (<-newRow e cells)) n n)):=by
   intro zero e;split
   ·exact FW (EV _ _) (fun _=>eW _)
   exact (ms _).grow
  rename_i elem;have Hu:eO P (if n*size=0 then (do
    let zero <-(pure #[]:Sem (Array Value))
    match Pq (fun i=>some (i*size,size)) ((Pc (n*size)).map (zero[· % zero.size]!)) ps.toList with
     | some cells=>do
      let a <-newRow elem cells
      pure (Value.slice (some a) n n)
     | _=>stuck "buildSlice: a part of the wrong size")
   else (do
    let v <-zeroValue elem
    let zero <-(pure v.cells:Sem (Array Value))
    match Pq (fun i=>some (i*size,size)) ((Pc (n*size)).map (zero[· % zero.size]!)) ps.toList with
     | some cells=>do
      let a <-newRow elem cells
      pure (Value.slice (some a) n n)
     | _=>stuck "buildSlice: a part of the wrong size")):=by
   split
   ·exact lz (eW _) (fun z=>Hd z elem)
   exact lz (L0 _) (fun v=>lz (eW _) (fun z=>Hd z elem))
  exact NF (lz (hu _) (fun _=>Hu)) Hu
 ·exact (ms _).grow
theorem Bd{s:Sem Value}{r:Next}(h:(do pure (Next.value (<-s)):Sem Next).run P w=.ok r w'):∃v,r=.value v/\s.run P w=.ok v w':=by
 rw[Pi]at h;cases hs:s.run P w with
 |ok a w1=>rw[hs]at h;cases h;exact⟨a,rfl,rfl⟩
 |halt x w1=>rw[hs]at h;cases h
theorem FI(g:∀w o,C w->C (w.alloc o))(h:oZ o=true):o7 P C o:=by
 intro ρ w f r w' d;unfold oZ at h;unfold execOp at d;split at h
 ·rename_i x e;simp only[e,Pj]at d;cases d;exact⟨⟨_,rfl⟩,f⟩
 ·rename_i t x e;simp only[e]at d;obtain⟨v,rfl,hs⟩:=Bd d;rw[EE _ _ _ _ _ hs];exact⟨⟨_,rfl⟩,f⟩
 ·rename_i t n l e;simp only[e]at d;obtain⟨v,rfl,hs⟩:=Bd d;refine⟨⟨_,rfl⟩,?_⟩;rcases CZ _ _ _ _ _ _ hs with rfl | ⟨k,rfl⟩
  ·exact f
  exact g _ _ f
 ·cases h
theorem mi(C:World->Prop)(tl:List Nat){d:Array Bool}(g:F.round=none)(f:ops.toList[i]?=E oi)(hs:P4 ops=true)(hf:P5 md ops d i=true)(l:px md ops i tl=true)(e:mX ops d i tl=true)(q:(P1 md ops d).contains i=true)(k:∀c a w,Q (.panic c) (a.put oi.dst v) w->Q (.panic c) a w)(Kb:∀w o,C w->C (w.alloc o))(p:C w)(r:YieldsC P ops C oi v a)(h:wpAnyIn F n P md ops Q fuel (d.setIfInBounds i true) (a.put oi.dst v) w):wpAnyIn F n P md ops Q (fuel+1) d a w:=
 CV tl l g (fD f) (Region.noSelect_spec hs) k fuel d a w (DJ e) (λj oj g d k Hl l=>⟨Region.free_spec (fD f) hf j oj g d Hl l,FI Kb (Dc e j oj g d k Hl)⟩) (by simpa using q) p r h
theorem C4{d:Array Bool}(e:F.round=none)(g:ops.toList[i]?=E oi)(hs:P4 ops=true)(hf:P5 md ops d i=true)(k:(P1 md ops d).contains i=true)(f:∀c a w,Q (.panic c) (a.put oi.dst v) w->Q (.panic c) a w)(l:YieldsFenced P ops oi v a)(h:wpAnyIn F n P md ops Q fuel (d.setIfInBounds i true) (a.put oi.dst v) w):wpAnyIn F n P md ops Q (fuel+1) d a w:=
 wpAnyIn_take e (fD g) hs hf k f l h
theorem On(hg:o.guard=none)(H1:∀w,(execOp a.eval o).run P w=.ok (.value v) w)(d:∀w,o.about P w a.eval=none):YieldsFenced P ops o v a:=
 ⟨.inl ⟨by simp[P0,hg],H1⟩,d⟩
theorem aC(i:Nat){H0:Array Bool}(h:wpAnyIn F n P md ops Q fuel (H0.setIfInBounds i true) (a.put oi.dst v) w)(hi:ops.toList[i]?=some oi:=by exact rfl)(H2:F.round=none:=by exact rfl)(hg:oi.guard=none:=by exact rfl)(H1:∀w,(execOp a.eval oi).run P w=.ok (.value v) w:=by (intro w;go_simp;try with_reducible rfl))(H6:∀w,oi.about P w a.eval=none:=by exact λw=>rfl)(hs:Region.noSelect ops=true:=by kernel_rfl)(hf:Region.free md ops H0 i=true:=by kernel_rfl)(hr:(Region.ready md ops H0).contains i=true:=by kernel_rfl)(hQ:∀c a w,Q (.panic c) (a.put oi.dst v) w->Q (.panic c) a w:=by exact λ_ _ _ h=>h):wpAnyIn F n P md ops Q (fuel+1) H0 a w:=
 C4 H2 hi hs hf hr hQ (On hg H1 H6) h
theorem np(hg:o.guard=none)(H1:∀w,C w->(execOp a.eval o).run P w=.ok (.value v) w)(d:∀w,o.about P w a.eval=none):YieldsC P ops C o v a:=
 ⟨by simp[P0,hg],H1,d⟩
theorem nI{d:Array Bool}(H2:F.round=none)(hr:P1 md ops d=[i])(H8:ops.toList[i]?=E o)(hg:o.guard=none)(H6:o.about P w a.eval=none)(H1:(execOp a.eval o).run P w=.ok (.value v) w')(h:wpAnyIn F n P md ops Q fuel (d.setIfInBounds i true) (a.put o.dst v) w'):wpAnyIn F n P md ops Q (fuel+1) d a w:=by
 exact mcRounda0
theorem bT(i:Nat){H0:Array Bool}(h:wpAnyIn F n P md ops Q fuel (H0.setIfInBounds i true) (a.put o.dst v) w')(H8:ops.toList[i]?=some o:=by exact rfl)(H2:F.round=none:=by exact rfl)(hr:Region.ready md ops H0=[i]:=by kernel_rfl)(hg:o.guard=none:=by exact rfl)(H6:o.about P w a.eval=none:=by exact rfl)(H1:(execOp a.eval o).run P w=.ok (.value v) w':=by (go_simp;try(first|with_reducible rfl | (refine⟨?_,?_⟩<;>with_reducible rfl)))):wpAnyIn F n P md ops Q (fuel+1) H0 a w:=nI H2 hr H8 hg H6 H1 h
theorem DU{d:Array Bool}(H2:F.round=none)(hr:P1 md ops d=[i])(H8:ops.toList[i]?=E o)(hg:o.guard=none)(H6:o.about P w a.eval=none)(H1:(execOp a.eval o).run P w=.ok .skip w')(h:wpAnyIn F n P md ops Q fuel (d.setIfInBounds i true) (a.put o.dst undef) w'):wpAnyIn F n P md ops Q (fuel+1) d a w:=by
 exact mcRounda0
theorem iG(i:Nat){H0:Array Bool}(h:wpAnyIn F n P md ops Q fuel (H0.setIfInBounds i true) (a.put o.dst undef) w')(H8:ops.toList[i]?=some o:=by exact rfl)(H2:F.round=none:=by exact rfl)(hr:Region.ready md ops H0=[i]:=by kernel_rfl)(hg:o.guard=none:=by exact rfl)(H6:o.about P w a.eval=none:=by exact rfl)(H1:(execOp a.eval o).run P w=.ok .skip w':=by (go_simp;try(first|with_reducible rfl | (refine⟨?_,?_⟩<;>with_reducible rfl)))):wpAnyIn F n P md ops Q (fuel+1) H0 a w:=DU H2 hr H8 hg H6 H1 h
theorem lv{f:FuncId}{args:Array Value}{d:Array Bool}(l:P1 md ops d=[i])(H8:ops.toList[i]?=E o)(hg:o.guard=none)(H1:(execOp a.eval o).run P w=.ok (.enter f args) w')(h:Calls P f args w' λe g=>∃v,e=.returned v/\wpAnyIn (Wd none) n P md ops Q fuel (d.setIfInBounds i true) (a.put o.dst v) g):wpAnyIn (Wd none) n P md ops Q (fuel+1) d a w:=by
 have k:=fD H8;refine wpAnyIn_all l (by simp) (λj d=>?_);have e:j=i:=by simpa using d
 subst e;unfold wpOpIn;have d:P0 o (yielded ops a.tmps)=true:=by simp[P0,hg]
 simp only[k,d,if_true,P8,P6,H1,P7];refine⟨λ_ _=>trivial,λh=>by simp[Pk]at h,(callsIn_wd.2 h).mono ?_⟩;rintro e g⟨v,rfl,h⟩;exact h
theorem yV{vi vj:Value}{g:Array Bool}{wi wj:World}(p:F.round=none)(I:P1 md ops g=[i,j])(H8:ops.toList[i]?=E oi)(r:ops.toList[j]?=E oj)(z:oi.guard=none)(B:oj.guard=none)(h:oi.about P w a.eval=none)(l:oj.about P w a.eval=none)(d:(execOp a.eval oi).run P w=.ok (.value vi) wi)(e:(execOp a.eval oj).run P w=.ok (.value vj) wj)(h1:wpAnyIn F n P md ops Q fuel (g.setIfInBounds i true) (a.put oi.dst vi) wi)(h2:wpAnyIn F n P md ops Q fuel (g.setIfInBounds j true) (a.put oj.dst vj) wj):wpAnyIn F n P md ops Q (fuel+1) g a w:=by
 have D:=fD H8;have G:=fD r;refine wpAnyIn_all I (by simp) (λk H=>?_);have y:∀f,oi.about P w a.eval=E f->F.fn f:=λf hf=>by rw[h]at hf;cases hf
 have q:∀f,oj.about P w a.eval=E f->F.fn f:=λf hf=>by rw[l]at hf;cases hf
 have s:P0 oi (yielded ops a.tmps)=true:=by simp[P0,z]
 have x:P0 oj (yielded ops a.tmps)=true:=by simp[P0,B]
 rcases(by simpa using H:k=i\/k=j)with rfl | rfl
 ·unfold wpOpIn;simp only[D,s,if_true,P8,p,P6,d,P7];exact⟨y,h1⟩
 ·unfold wpOpIn;simp only[G,x,if_true,P8,p,P6,e,P7];exact⟨q,h2⟩
end
open Go.RowKit
def Blk(W:World)(b:Nat)(t:TypeId)(cs:Array Value):Prop:=W.heap[b]?=E (.cells cs t (0,0))
section
variable {W W':World} {b:Nat} {t:TypeId} {cs:Array Value}
theorem Blk.lt(h:Blk W b t cs):b<W.heap.size:=(P9.1 h).1
theorem Blk.cell(h:Blk W b t cs)(k:Nat)(d:cs[k]?=E v):W.cell? ⟨b,k,L⟩=E v:=by simp[Ph,show W.heap[b]?=_ from h,d]
theorem Blk.frozen(h:Blk W b t cs)(k:Nat):W.frozen? ⟨b,k,L⟩=false:=by simp[World.frozen?,show W.heap[b]?=_ from h]
theorem Blk.new(W:World)(t:TypeId)(cs:Array Value):Blk (W.alloc (.cells cs t)) W.heap.size t cs:=Pe W _
theorem Blk.kept(h:Blk W b t cs)(hg:W.grownBy W' row)(d:some b≠row):Blk W' b t cs:=(hg.block b h.lt d).trans h
theorem Blk.ext(h:Blk W b t cs)(he:Ext W W'):Blk W' b t cs:=(he.block b h.lt).trans h
theorem Blk.alloc(h:Blk W b t cs)(o:Obj):Blk (W.alloc o) b t cs:=h.ext (xA (xR _) o)
theorem Blk.set(h:Blk W b t cs)(k:Nat)(u:Value):Blk (W.setCell ⟨b,k,L⟩ u) b t (cs.setIfInBounds k u):=by
 obtain⟨d,e⟩:=P9.1 h;show(W.heap.modify b _)[b]?=_;rw[Array.getElem?_eq_getElem (by rw[Array.size_modify];exact d),Array.getElem_modify_self,e];rfl
theorem Blk.other(h:Blk W b t cs){d:Nat}(e:b≠d)(k:Nat)(u:Value):Blk (W.setCell ⟨d,k,L⟩ u) b t cs:=
 (Below.heap_setCell W ⟨d,k,L⟩ u b e).trans h
theorem Blk.not_row(h:Blk W b t cs){e:TypeId}(d:t≠e){base k:Nat}(f:W.ownsRow base e size v k xs):some b≠v.ownBlock:=by
 intro e';obtain⟨g,hc⟩:=lm f e'.symm;rw[show W.heap[b]?=_ from h]at hc;cases hc;exact d rfl
theorem Blk.load{P:Program}{ty:TypeId}{d:TypeDesc}(h:Blk W b t cs)(f:P.underlying ty=E d)(hd:(match d with | .struct _ | .array _ _=>true | _=>false)=true)(e:(P.info? ty).map (·.size)=E cs.size):
  (loadVar ty ⟨b,0,L⟩).run P W=.ok (.agg cs) W:=run_loadVar_row W b t ty cs (0,0) d h f hd e
end
theorem au{a:Value}(h:Blk W b t #[a,v,u]):W.cell? ⟨b,0,L⟩=E a/\W.cell? ⟨b,1,L⟩=E v/\W.cell? ⟨b,2,L⟩=E u/\W.frozen? ⟨b,0,L⟩=false/\W.frozen? ⟨b,1,L⟩=false/\W.frozen? ⟨b,2,L⟩=false:=
 ⟨h.cell 0 rfl,h.cell 1 rfl,h.cell 2 rfl,h.frozen 0,h.frozen 1,h.frozen 2⟩
theorem blk4{a x:Value}(h:Blk W b t #[a,v,u,x]):W.cell? ⟨b,0,L⟩=E a/\W.cell? ⟨b,1,L⟩=E v/\W.cell? ⟨b,2,L⟩=E u/\W.cell? ⟨b,3,L⟩=E x/\W.frozen? ⟨b,0,L⟩=false/\W.frozen? ⟨b,1,L⟩=false/\W.frozen? ⟨b,2,L⟩=false/\W.frozen? ⟨b,3,L⟩=false:=
 ⟨h.cell 0 rfl,h.cell 1 rfl,h.cell 2 rfl,h.cell 3 rfl,h.frozen 0,h.frozen 1,h.frozen 2,h.frozen 3⟩
theorem bV{a:Value}(h:Blk W b t #[a,v,u])(a' e d:Value):Blk (((W.setCell ⟨b,0,L⟩ a').setCell ⟨b,1,L⟩ e).setCell ⟨b,2,L⟩ d) b t #[a',e,d]:=
 ((h.set 0 a').set 1 e).set 2 d
theorem ar(W:World)(b k:Nat)(v:Value):W.grownBy (W.setCell ⟨b,k,L⟩ v) (some b):=
 ⟨rfl,rfl,rfl,by simp[World.setCell],λj _ d=>Below.heap_setCell _ _ _ j (λe=>d (by rw[e]))⟩
theorem pK{A B C:World}(h:A.grownBy B row)(k:B.grownBy C row):A.grownBy C row:=
 ⟨k.os.trans h.os,k.tape.trans h.tape,k.output.trans h.output,Nat.le_trans h.size k.size,λj e d=>(k.block j (Nat.lt_of_lt_of_le e h.size) d).trans (h.block j e d)⟩
theorem fZ{cs:List Value}(h:Blk W b t cs.toArray)(hn:cs.length=n)(hl:n<=maxLen):SlR W 1 (N (E ⟨b,0,L⟩) n n) n cs:=by
 refine⟨by omega,_,n,rfl,xN _,hl,λ_=>⟨b,0,rfl,λj u d=>?_⟩⟩;rw[Nat.zero_add];exact h.cell j (by simpa using d)
theorem cg{W':World}(hg:W.grownBy W' row){p:Addr}(h:W.cell? p=E u)(d:some p.block≠row):W'.cell? p=E u:=
 (World.cell?_of_block (hg.block p.block (Pf W p h) d)).trans h
theorem SlR.keepB{d:Nat}(h:SlR w size (N (E ⟨b,d,L⟩) m c) n xs)(f:∀o u,w.cell? ⟨b,o,L⟩=E u->w'.cell? ⟨b,o,L⟩=E u):
  SlR w' size (N (E ⟨b,d,L⟩) m c) n xs:=by
 obtain⟨hl,A,c',e,h1,h2,h3⟩:=h;cases e;refine⟨hl,_,c,rfl,h1,h2,λhn=>?_⟩;obtain⟨g,g,e',hc⟩:=h3 hn;cases e';exact⟨b,d,rfl,λj u d=>f _ _ (hc j u d)⟩
theorem SlR.take1(h:SlR w 1 (N A m c) n xs)(k:Nat)(l:k<=n):SlR w 1 (N A k c) k (xs.take k):=by
 obtain⟨hl,A',c',e,h1,h2,h3⟩:=h;cases e;refine⟨by rw[Pm,hl];omega,_,c,rfl,by omega,h2,λhn=>?_⟩;obtain⟨g,f,e',hc⟩:=h3 (by omega);cases e';refine⟨g,f,rfl,λj u d=>hc j u ?_⟩;rw[List.getElem?_take]at d;split at d
 ·exact d
 ·cases d
theorem Bs.take{bs:List UInt8}(h:Bs w (N A m c) bs)(k:Nat)(d:k<=bs.length):Bs w (N A k c) (bs.take k):=by
 have:=SlR.take1 h k d;unfold Bs;rw[Pm,Nat.min_eq_left d,List.map_take];exact this
theorem SlR.capd{c':Nat}(h:SlR w size (N A m c) n xs)(h1:n<=c')(h2:c'<=9223372036854775807):SlR w size (N A m c') n xs:=by
 obtain⟨hl,A',Kp,e,_,_,h3⟩:=h;cases e;exact⟨hl,A,c',rfl,h1,by simpa[maxLen]using h2,h3⟩
open Go.RowKit
section
variable {F:Fence} {n:Nat} {P:Program} {ops:Array Oper} {Q:Exit->Act->World->Prop} {md:P3}
theorem yl{d:Array Bool}(g:F.round=none)(p:P1 md ops d=[i])(H8:ops.toList[i]?=E o)(hg:o.guard=none)(k:∀f,o.about P w a.eval=E f->F.fn f)(h:o.uponIn F n P a (λa' w'=>wpAnyIn F n P md ops Q fuel (d.setIfInBounds i true) a' w') Q ((execOp a.eval o).run P w)):wpAnyIn F n P md ops Q (fuel+1) d a w:=by
 have l:=fD H8;refine wpAnyIn_all p (by simp) (λj d=>?_);have e:j=i:=by simpa using d
 subst e;unfold wpOpIn;have d:P0 o (yielded ops a.tmps)=true:=by simp[P0,hg]
 simp only[l,d,if_true,P8,g,P6];exact⟨k,h⟩
theorem Iu{vi:Value}{f:FuncId}{args:Array Value}{l:Array Bool}{wi wj:World}(I:P1 md ops l=[i,j])(H8:ops.toList[i]?=E oi)(r:ops.toList[j]?=E oj)(z:oi.guard=none)(B:oj.guard=none)(p:oi.about P w a.eval=none)(d:(execOp a.eval oi).run P w=.ok (.value vi) wi)(g:(execOp a.eval oj).run P w=.ok (.enter f args) wj)(h1:wpAnyIn (Wd none) n P md ops Q fuel (l.setIfInBounds i true) (a.put oi.dst vi) wi)(h2:Calls P f args wj λe q=>∃v,e=.returned v/\wpAnyIn (Wd none) n P md ops Q fuel (l.setIfInBounds j true) (a.put oj.dst v) q):wpAnyIn (Wd none) n P md ops Q (fuel+1) l a w:=by
 have D:=fD H8;have G:=fD r;refine wpAnyIn_all I (by simp) (λk H=>?_);have y:∀f,oi.about P w a.eval=E f->(Wd none).fn f:=λf hf=>by rw[p]at hf;cases hf
 have s:P0 oi (yielded ops a.tmps)=true:=by simp[P0,z]
 have x:P0 oj (yielded ops a.tmps)=true:=by simp[P0,B]
 rcases(by simpa using H:k=i\/k=j)with rfl | rfl
 ·unfold wpOpIn;simp only[D,s,if_true,P8,P6,d,P7];exact⟨y,h1⟩
 ·unfold wpOpIn;simp only[G,x,if_true,P8,P6,g,P7];refine⟨λ_ _=>trivial,λh=>by simp[Pk]at h,(callsIn_wd.2 h2).mono ?_⟩;rintro e q⟨v,rfl,h⟩;exact h
end
open Go.RowKit
section
variable {n:Nat} {P:Program} {ops:Array Oper} {Q:Exit->Act->World->Prop} {md:P3} {S:World->Prop}
def NoQ(Q:Exit->Act->World->Prop):Exit->Act->World->Prop
 |.normal,a,w=>Q .normal a w
 |_,_,_=>False
theorem NoQ.imp(e:Exit)(a:Act)(w:World)(h:NoQ Q e a w):Q e a w:=by
 cases e<;>first | exact h | exact h.elim
theorem mC(h:Q .normal a w):NoQ Q .normal a w:=h
theorem BP{r:Result Next}(h:o.upon P a K Q r):o.uponIn (Wd none) n P a K Q r:=by
 cases r with
 |ok x w=>
  cases x with
  |value v=>exact h
  |skip=>exact h
  |defer d=>exact h
  |enter f args=>exact⟨λh=>by simp[Pk]at h,callsIn_wd.2 h⟩
  |row row args=>exact⟨λh=>by simp[Pk]at h,λc cs _=>let ⟨v,w',r,s⟩:=h c cs;⟨v,w',r,stepsIn_wide.2 s⟩⟩
  |_=>exact h.elim
 |halt x w=>
  cases x<;>first | exact h | exact h.elim
theorem Ok(h:wpOp P ops (NoQ Q) i K a w):wpOpIn (Wd none) n P ops (NoQ Q) i K a w:=by
 unfold wpOp at h;unfold wpOpIn;cases e:ops[i]? with
 |none=>rw[e]at h;exact h
 |some o=>
  rw[e]at h;dsimp only at h⊢;split
  ·rename_i d;rw[if_pos d]at h;rcases h with h | ⟨_,_,_,h⟩
   ·refine⟨λ_ _=>trivial,?_⟩;rw[show(Wd none).round=none from rfl,P6];exact BP h
   exact h.elim
  ·rename_i d;rw[if_neg d]at h;exact⟨λ_ _=>trivial,h⟩
theorem rF:∀(fuel:Nat) (d:Array Bool) (a:Act) (w:World),wpAny P md ops (NoQ Q) fuel d a w->wpAnyIn (Wd none) n P md ops (NoQ Q) fuel d a w
 |0,_,_,_,h=>h
 |fuel+1,d,a,w,h=>⟨h.1,λi d=>wpOpIn_mono (λa w=>rF fuel _ a w) (Ok (h.2 i d))⟩
theorem sV{l:Nat}(hm:P.follows .mixedOrders=true)(hd:ni ops=true)(d:S w.drew)(h:S w.drew->wpAnyH P .any ops (NoQ Q) S ops.size (Pa ops.size false) a w.drew):(Pp id ops true).wpIn (Wd (some l)) n P Q a w:=
 wpIn_mono (wpIn_region_any (F:=(Wd none).inRound l) hm (tG l hd rfl _ _ _ _ (rF _ _ _ _ (wpAny_of_held _ _ _ _ (h d))))) NoQ.imp
theorem mq(hm:P.follows .mixedOrders=true)(d:S w.drew)(h:S w.drew->wpAnyH P .any ops (NoQ Q) S ops.size (Pa ops.size false) a w.drew):(Pp id ops true).wpIn (Wd none) n P Q a w:=
 wpIn_mono (wpIn_region_any hm (rF _ _ _ _ (wpAny_of_held _ _ _ _ (h d)))) NoQ.imp
end
open Go.RowKit
def KG(G:Nat->Prop)(k:Nat)(o:Obj):Prop:=o.isCells=true/\¬G k
def Cl(P:Program)(gf:Nat)(lb:Array Value){α:Type}(Rp:α->Array Value->World->Prop)(M:Nat->Obj->Prop)(xs:List α)(pn:Option (List PanicEntry))(Gok:(Nat->Prop)->Prop)(d:World):Prop:=
 ∀(l:Nat) (J:(Nat->Prop)->List α->World->Prop),
  (∀G s A B,J G s A->Moves (am M d.heap.size) A B->J G s B)->(∀G s A,J G s A->∀k,G k->k<A.heap.size) ->
  (∀G f x g,xs=f++x::g->∀(W:World) (av:Array Value),J G f W->d.heap.size<=W.heap.size->Rp x av W->YieldsAt P l av W λe W'=>
    e=.returned (.bool true)/\Kept (am (KG G) d.heap.size) W W'/\∃g,(∀k,g k->G k\/W.heap.size<=k)/\J g (f++[x]) W') ->
  ∀f,Gok f->J f [] d ->
  Calls P gf (#[.func (.yield l) #[] #[]]++lb) d λe W'=>∃G,J G xs W'/\((pn=none/\∃v,e=.returned v)\/∃c,pn=E c/\e=.panicked c)
def Oc(K:Nat->Obj->Prop)(I:World->Prop)(W:World):Exit->Act->World->Prop
 |.normal,_,W'=>Kept K W W'/\I W'
 |_,_,_=>False
theorem MS{P:Program}{α:Type}{g:Operand}{L:Array Tmp}{assign body:Code}{gf:Nat}{lb:Array Value}(hg:a.eval g=.func (.func gf) #[] lb)(eg:∀args w,(callFunc gf args).run P w=.ok (.enter gf args) w){Rp:α->Array Value->World->Prop}{M:Nat->Obj->Prop}{xs:List α}{pn:Option (List PanicEntry)}{Gok:(Nat->Prop)->Prop}(hseq:∀W1,Below w.heap.size w W1->W1.heap.size=w.heap.size+2->Cl P gf lb Rp M xs pn Gok W1)(hMc:∀k o,M k o->o.isCells=true)(hps:∀x y W,Rp x y W->y.size=L.size)(I:(Nat->Prop)->List α->World->Prop)(hI:∀G s A B,I G s A->Moves (am M w.heap.size) A B->I G s B)(hbd:∀G s A,I G s A->∀k,G k->k<A.heap.size)(G0:Nat->Prop)(K7:Gok G0)(h0:I G0 [] w)(D:α->Act->World->Prop)(hAx:∀x a' A B,D x a' A->Moves (am (λ_ _=>False) w.heap.size) A B->D x a' B)(Ha:∀(G:Nat->Prop) (l:Nat) (q:List α) (x:α) (O:List α) (W:World) (y:Array Value) (K':Act->World->Prop),xs=q++x::O->I G q W->w.heap.size<=W.heap.size->Rp x y W ->
    (∀a' W',Kept (am (KG G) w.heap.size) W W'->I G q W'->D x a' W'->K' a' W') ->
    assign.wpIn (Wd (some l)) n P (Exit.then K' (λ_ _ _=>False)) { tmps:=(L.zip y).foldl (λt (p,v)=>t.setIfInBounds p v) a.tmps,defers:=[] } W)(Hq:∀(G:Nat->Prop) (l:Nat) (q:List α) (x:α) (O:List α) (a':Act) (W:World),xs=q++x::O->w.heap.size<=l->(∃r,W.heap[l]?=E (.loop r))->I G q W->w.heap.size<=W.heap.size->D x a' W ->
    body.wpIn (Wd (some l)) n P (Oc (am (KG G) w.heap.size) (λW'=>∃N,(∀k,N k->G k\/W.heap.size<=k)/\I N (q++[x]) W') W) a' W)(Hr:∀G D W,pn=none->w.heap.size<=D->I G xs W->W.heap[D]?=E (.deferred (some []))->Q .normal { a with defers:={ target:=.collected D,args:=#[] }::a.defers } W)(HT:∀G D c W,pn=E c->w.heap.size<=D->I G xs W->W.heap[D]?=E (.deferred (some []))->Q (.panic c) { a with defers:={ target:=.collected D,args:=#[] }::a.defers } W):
  (Code.rangeFunc g L assign body).wpIn (Wd none) n P Q a w:=by
 refine wpIn_rangeFunc ?_;intro fn _;obtain⟨H,H3⟩:∃H:LoopState->Option Code->Loop,H=λst D=>{ state:=st,pending:=D,fn,tmps:=a.tmps,params:=L,assign,body,defers:=w.heap.size }:=⟨_,rfl⟩;obtain⟨W1,D⟩:∃W1,(w.alloc (.deferred (some []))).alloc (.loop { state:=.ready,pending:=none,fn,tmps:=a.tmps,params:=L,assign,body,defers:=w.heap.size })=W1:=⟨_,rfl⟩;have Kd:Below w.heap.size w W1:=by rw[<-D];exact((Below.refl _ w).alloc (xN _) _).alloc (by simp) _
 have Kk:W1.heap.size=w.heap.size+2:=by rw[<-D];simp
 have HZ:W1.heap[w.heap.size+1]?=E (.loop { state:=.ready,pending:=none,fn,tmps:=a.tmps,params:=L,assign,body,defers:=w.heap.size }):=by
  rw[<-D];have:=Pe (w.alloc (.deferred (some []))) (.loop { state:=.ready,pending:=none,fn,tmps:=a.tmps,params:=L,assign,body,defers:=w.heap.size });rwa[xS]at this
 have K8:W1.heap[w.heap.size]?=E (.deferred (some [])):=by
  rw[<-D];exact(Below.heap_alloc _ _ _ (by simp)).trans (Pe w _)
 have Kj:Moves (am M w.heap.size) w W1:=by rw[<-D];exact(Moves.refl.alloc _).alloc _
 have H9:(Instr.enterLoop fn a.tmps L assign body none).run P w=.ok (w.heap.size+1,[{ target:=.collected w.heap.size,args:=#[] }]) W1:=by
  rw[<-D];exact run_enterLoop_outer _ _ _ _ _
 have Hh:W1.heap[w.heap.size+1]?=E (.loop (H .ready none)):=by rw[H3];exact HZ
 obtain⟨l,hl⟩:∃l,w.heap.size+1=l:=⟨_,rfl⟩;rw[hl]at HZ Hh H9;have HE:w.heap.size<=l:=by omega
 obtain⟨X,HA⟩:∃X:World->Prop,X=λW=>W.heap[w.heap.size]?=E (.deferred (some [])):=⟨_,rfl⟩;have hX:∀A B,X A->(∀k o,A.heap[k]?=E o->w.heap.size<=k->k<W1.heap.size->k≠l->o.isCells=false->B.heap[k]?=E o)->X B:=by
  subst HA;intro A B hx d;exact d _ _ hx (xN _) (by omega) (by omega) rfl
 have Ka:X W1:=by rw[HA];exact K8
 have K0:∀W,X W->W.heap[w.heap.size]?=E (.deferred (some [])):=by rw[HA];exact λ_ h=>h
 have K9:∀(G:Nat->Prop) k o,KG G k o->∀r,o≠.loop r:=λG k o h r e=>by rw[e]at h;cases h.1
 -- the record's own turns
 have put:∀(A:World) (o z:Obj),A.heap[l]?=E o->o.isCells=false->Moves (am (λ_ _=>False) w.heap.size) A (A.putObj l z):=λA o z J hc=>
  Moves.refl.putObj (λD h₁=>by rw[J]at h₁;cases h₁;exact .inr ⟨HE,hc⟩) z
 have cj:∀G s A o z,I G s A->A.heap[l]?=E o->o.isCells=false->I G s (A.putObj l z):=λG s A o z U J hc=>
  hI G s _ _ U ((put A o z J hc).weaken (λk o h=>by rcases h with h | h;exact h.elim;exact .inr h))
 have HP:l<W1.heap.size:=(P9.1 Hh).1;have Hm:∀A z,X A->X (A.putObj l z):=λA z hx=>hX A _ hx (λk o d _ _ z _=>(Pd z).trans d);have He:∀ {K':Nat->Obj->Prop} (A B:World),X A->Kept (am K' w.heap.size) A B->X B:=λA B hx d=>
  hX A B hx (λk o J hn _ _ hc=>d.same k o J (.inr ⟨hn,hc⟩))
 have Hf:∀(A B:World) (k:Nat) (o:Obj),A.heap[k]?=E o->k<W1.heap.size->o.isCells=false->Moves (am M W1.heap.size) A B->B.heap[k]?=E o:=λA B k o J d hc hm=>
  hm.same k o J (λh=>by
   rcases h with h | h
   ·have:=hMc k o h;rw[hc]at this;cases this
   omega)
 have D:∀(A B:World),X A->Moves (am M W1.heap.size) A B->X B:=λA B hx hm=>
  hX A B hx (λk o J _ z _ hc=>Hf A B k o J z hc hm)
 have z:∀(A B:World),Moves (am M W1.heap.size) A B->Moves (am M w.heap.size) A B:=λA B hm=>
  hm.weaken (λk o h=>by rcases h with h | h;exact .inl h;exact .inr ⟨by omega,h.2⟩)
 refine⟨l,[{ target:=.collected w.heap.size,args:=#[] }],W1,{ target:=.fn (.func gf) lb,args:=#[.func (.yield l) #[] #[]] },W1,gf,#[.func (.yield l) #[] #[]]++lb,W1,H9,?_,λ_ _=>trivial,?_,λh=>by simp[Pk]at h,?_⟩
 ·simp only[resolve,hg];simp[go_sem]
 ·simp[invoke,go_sem,eg]
 ·refine callsIn_wd.2 ?_;refine(hseq W1 Kd Kk l
   (λG q W=>I G q W/\W.heap[l]?=E (.loop (H .ready none))/\X W)
   (λG s A B hs hm=>⟨hI G s A B hs.1 (z A B hm),Hf A B l _ hs.2.1 HP rfl hm,D A B hs.2.2 hm⟩)
   (λG s A hs k d=>hbd G s A hs.1 k d)
   ?_ G0 K7 ⟨hI _ _ _ _ h0 Kj,Hh,Ka⟩).mono ?_
  · -- ONE ROUND
   rintro G q x O B W y⟨U,HN,hx⟩z z;have D:=run_yield (P:=P) (args:=y) HN (by rw[H3];exact hps x y W z);rw[H3]at D;refine⟨fn,_,assign,body,D,?_⟩;have D:=roundIn_of_wpIn (F:=Wd (some l)) (n:=n) (P:=P) (l:=l) (f:=fn) (w:=W) (assign:=assign) (body:=body) (tmps:=(L.zip y).foldl (λt (p,v)=>t.setIfInBounds p v) a.tmps)
    (R:=λe W'=>e=.returned (.bool true)/\Kept (am (KG G) W1.heap.size) W W'/\∃N,(∀k,N k->G k\/W.heap.size<=k)/\I N (q++[x]) W'/\W'.heap[l]?=E (.loop (H .ready none))/\X W')
    trivial (Ha G l q x O W y _ B U (by omega) z ?_)
   ·exact⟨trivial,λc cs _=>D.2 c cs (room_wide _)⟩
   ·intro a' z T J I;have y:=T.same l _ HN (.inr ⟨HE,rfl⟩);have Ko:=He W z hx T;have D:l<z.heap.size:=(P9.1 y).1;refine⟨_,run_beginRound y (by rw[H3]),?_⟩;have Y:(z.putObj l (.loop { H .ready none with state:=.busy })).heap[l]?=E (.loop { H .ready none with state:=.busy }):=Pg D;refine wpIn_mono (Hq G l q x O a' _ B HE ⟨_,Y⟩ (cj _ _ _ _ _ J y rfl) (by simp;have:=T.size;omega) (hAx x a' _ _ I (put _ _ _ y rfl))) ?_;rintro e a3 q V;cases e with
    |normal=>
     obtain⟨Z,N,K6,Ke⟩:=V;have HM:=Z.same l _ Y (.inr ⟨HE,rfl⟩);have H1:=run_endRound (P:=P) none HM;rw[H3]at H1;refine⟨_,_,H1,rfl,⟨?_,?_⟩,N,λk d=>?_,?_,?_,?_⟩
     ·have h1:=T.size;have h2:=Z.size;simp at h2⊢;omega
     ·intro k o d hK;have HY:am (KG G) w.heap.size k o:=by
       rcases hK with h | h
       ·exact .inl h
       exact .inr ⟨by omega,h.2⟩
      by_cases e:k=l
      ·subst e;rw[HN]at d;cases d;rcases hK with h | h
       ·exact absurd rfl (K9 _ _ _ h _)
       omega
      have h1:=T.same k o d HY;have h2:=Z.same k o ((Pd e).trans h1) HY;exact(Pd e).trans h2
     ·rcases K6 k d with h | h
      ·exact .inl h
      right
      have:=T.size;simp at h;omega
     ·have:=cj _ _ _ _ (.loop (H .ready none)) Ke HM rfl;rw[H3]at this;exact this
     ·have:=Pg (o:=.loop (H .ready none)) (P9.1 HM).1;rw[H3]at this⊢;exact this
     exact Hm _ _ (He _ _ (Hm _ _ Ko) Z)
    |ret=>exact V.elim
    |exit id=>exact V.elim
    |goto t=>exact V.elim
    |panic ch=>exact V.elim
    |outgrown=>exact V.elim
  · -- BEHIND THE ITERATOR
   rintro e d⟨G,⟨U,Y,hx⟩,(⟨hpn,v,rfl⟩|⟨c,hpn,rfl⟩)⟩
   ·exact⟨none,_,by have:=run_endLoop (P:=P) Y (by rw[H3];simp);rw[H3]at this;exact this,Hr G _ _ hpn (xN _) (cj _ _ _ _ _ U Y rfl) (K0 _ (Hm _ _ hx))⟩
   ·exact HT G _ c _ hpn (xN _) U (K0 _ hx)
end Go.Mv
