/- Merged: Round Blk Round2 HeldIn LibG -/
import Derived.Test.YtgonhdeochgkoaaGreatDoorZt1
import Derived.OrdersIn
import Derived.TacticsIn
import Derived.RangeFuncCalls
import Derived.Laws.Rows
import Derived.OrdersHeld
set_option linter.all false
set_option maxHeartbeats 8000000
set_option maxRecDepth 100000
namespace Go.Mv
open Go.RowKit
section
variable {F:Fence} {n:Nat} {P:Program} {ops:Array Oper} {Q:Exit→Act→World→Prop} {md:Region.Mode}
def zgU (ops:Array Oper):Bool:=ops.all fun o=>match o.op with | .defer _=>false | _=>true
theorem znd (h:zgU ops=true) {j:Nat} {o:Oper} (ho:ops[j]?=some o) (c:Call):o.op≠.defer c:=by
 intro heq
 have:=Array.all_eq_true_iff_forall_mem.1 h o (Array.mem_of_getElem? ho)
 simp[heq] at this
theorem znT (l:Nat) (hd:zgU ops=true) (hro:F.round=none) {i:Nat} {K:Act→World→Prop} {a:Act} {w:World} (h:wpOpIn F n P ops Q i K a w):wpOpIn (F.inRound l) n P ops Q i K a w:=by
 unfold wpOpIn at *
 cases ho:ops[i]? with
 | none=>simpa [ho] using h
 | some o =>
  simp only[ho] at h ⊢
  split
  ·rename_i hw
   simp only[hw,if_true] at h
   unfold Oper.wpIn at *
   refine ⟨h.1,?_⟩
   have h:=h.2;rw[hro,Oper.semAt_none] at h;rw[Fence.inRound_round,Oper.semAt_some l _ o (znd hd ho)]
   exact h
  ·rename_i hw
   simp only[hw] at h
   exact h
theorem zh6 (l:Nat) (hd:zgU ops=true) (hro:F.round=none):∀ (fuel:Nat) (listed:Array Bool) (a:Act) (w:World),wpAnyIn F n P md ops Q fuel listed a w→wpAnyIn (F.inRound l) n P md ops Q fuel listed a w:=by
 intro fuel
 induction fuel with
 | zero=>intro listed a w h;exact h
 | succ fuel ih =>
  intro listed a w h
  exact ⟨h.1,fun i hi=>znT l hd hro (wpOpIn_mono (fun a w=>ih _ a w) (h.2 i hi))⟩
def NoP (Q:Exit→Act→World→Prop):Exit→Act→World→Prop
 | .panic _,_,_=>False
 | e,a,w=>Q e a w
theorem NoP.imp {Q:Exit→Act→World→Prop} (e:Exit) (a:Act) (w:World) (h:NoP Q e a w):Q e a w:=by
 cases e <;> first | exact h | exact h.elim
theorem zcv {l id:Nat} {a:Act} {w:World} (hm:P.follows .mixedOrders=true) (hd:zgU ops=true)
  (h:wpAnyIn (Wd none) n P .any ops (NoP Q) ops.size (Array.replicate ops.size false) a w.drew):(Code.region id ops true).wpIn (Wd (some l)) n P Q a w :=
 wpIn_mono (wpIn_region_any (F:=(Wd none).inRound l) hm (zh6 l hd rfl _ _ _ _ h)) NoP.imp
theorem zcL {id:Nat} {a:Act} {w:World} (hm:P.follows .mixedOrders=true)
  (h:wpAnyIn (Wd none) n P .any ops (NoP Q) ops.size (Array.replicate ops.size false) a w.drew):(Code.region id ops true).wpIn (Wd none) n P Q a w :=
 wpIn_mono (wpIn_region_any hm h) NoP.imp
theorem zbv {Q:Exit→Act→World→Prop} {a:Act} {w:World} (h:Q .normal a w):NoP Q .normal a w:=h
theorem zcH {fn:Func} {tmps:Array Value} {R:Ending→World→Prop} {W:World} (v:Value) (hres:(results fn tmps).run P W=.ok v W) (hR:R (.returned v) W):bodyPostM (Wd none) n P fn R .ret ⟨tmps,[]⟩ W:=⟨v,hres,hR⟩
theorem zdU {c:Code} {tm:Array Value} {ds:List Deferred} {W:World} (h:∀ T:Array Value,T=tm→c.wpIn F n P Q ⟨T,ds⟩ W):c.wpIn F n P Q ⟨tm,ds⟩ W:=h tm rfl
def Read4 (p q r s:Addr×Value) (W:World):Prop:=W.cell? p.1=some p.2∧W.cell? q.1=some q.2∧W.cell? r.1=some r.2∧W.cell? s.1=some s.2
theorem zdf {W:World} {p:Addr} {v:Value} (h:W.cell? p=some v) (o:Obj):(W.alloc o).cell? p=some v :=
 (Below.cell ((Below.refl W.heap.size W).alloc (Nat.le_refl _) o) (World.block_lt_of_cell? W p h)).trans h
theorem Read4.alloc {p q r s:Addr×Value} {W:World} (h:Read4 p q r s W) (o:Obj):Read4 p q r s (W.alloc o):=⟨zdf h.1 o,zdf h.2.1 o,zdf h.2.2.1 o,zdf h.2.2.2 o⟩
theorem zdo {o:Oper} {a:Act} {w w':World} (s x:Operand) (t:TypeId) (ho:o.op=.call { callee:=.builtin .append,args:=#[s,x],argTypes:=#[t,t] })
  {v vx v':Value} (hs:a.eval s=v) (hx:a.eval x=vx) (hrun:(Builtin.append_ #[t,t] o.type #[v,vx]).run P w=.ok v' w'):(execOp a.eval o).run P w=.ok (.value v') w':=by
 unfold execOp;simp only[ho,resolve,invoke,builtin,Sem.run_bind,Sem.run_pure,Result.andThen_ok,List.map_toArray,List.map_cons,List.map_nil,hs,hx,hrun]
theorem zc4 {o:Oper} {a:Act} {w:World} (s x:Operand) (t:TypeId) (ho:o.op=.call { callee:=.builtin .append,args:=#[s,x],argTypes:=#[t,t] }):o.about P w a.eval=none:=by
 simp[Oper.about,ho,resolve,Target.leads,go_sem]
theorem zdi (n:Nat) (T:Array Value) (h:T.size=n):T=((List.range n).map fun i=>T.getD i undef).toArray:=by
 apply Array.ext
 ·simp[h]
 ·intro i h1 h2
  simp[h1]
theorem zpI {W:World} {b:Nat} {t:TypeId} {v:Value} (h:Boxed W b t v) {k:Nat} {u:Value} (hc:W.cell? ⟨b,k,none⟩=some u):k=0:=by
 have h':W.heap[b]?=some (.cells #[v] t (0,0)):=h
 cases k with
 | zero=>rfl
 | succ k=>simp[World.cell?,h'] at hc
theorem zf5 {i:Nat} {oi:Oper} (h:ops.toList[i]?=some oi):ops[i]?=some oi:=by simpa using h
def YieldsC (P:Program) (ops:Array Oper) (C:World→Prop) (o:Oper) (v:Value) (a:Act):Prop :=
 Region.wanted o (yielded ops a.tmps)=true∧(∀ w,C w→(execOp a.eval o).run P w=.ok (.value v) w)∧∀ w,o.about P w a.eval=none
def zkl (P:Program) (C:World→Prop) (o:Oper):Prop:=∀ (ρ:Operand→Value) (w:World),C w→∀ r w',(execOp ρ o).run P w=.ok r w'→(∃ v,r=.value v)∧C w'
theorem YieldsC.wpOpIn {C:World→Prop} {i:Nat} {o:Oper} {v:Value} {a:Act} (hro:F.round=none) (hi:ops[i]?=some o) (hy:YieldsC P ops C o v a)
  {K:Act→World→Prop} {w:World} (hC:C w) (h:K (a.put o.dst v) w):wpOpIn F n P ops Q i K a w:=by
 unfold Go.wpOpIn;obtain ⟨h1,h2,h3⟩:=hy
 have hab:∀ f,o.about P w a.eval=some f→F.fn f:=fun f hf=>by rw[h3 w] at hf;cases hf
 simp only[hi,h1,if_true,Oper.wpIn,hro,Oper.semAt_none,h2 w hC,Oper.uponIn]
 exact ⟨hab,h⟩
theorem YieldsC.of_same {C:World→Prop} {o:Oper} {v:Value} {a a':Act} (hy:YieldsC P ops C o v a) (he:execOp a'.eval o=execOp a.eval o)
  (hw:Region.wanted o (yielded ops a'.tmps)=Region.wanted o (yielded ops a.tmps)) (hb:∀ w,o.about P w a'.eval=o.about P w a.eval):YieldsC P ops C o v a' :=
 ⟨hw.trans hy.1,fun w h=>by rw[he];exact hy.2.1 w h,fun w=>by rw[hb w];exact hy.2.2 w⟩
theorem zoZ {C:World→Prop} {j:Nat} {oi oj:Oper} {v:Value} (hro:F.round=none) (hj:ops[j]?=some oj) (hap:oi.apart ops oj=true)
  (hsi:∀ cs b,oi.op≠.select cs b) (hsj:∀ cs b,oj.op≠.select cs b) (hkeep:zkl P C oj)
  (hQ:∀ c a w,Q (.panic c) (a.put oi.dst v) w→Q (.panic c) a w) {K:Act→World→Prop} {a:Act} {w:World} (hC:C w)
  (hy:YieldsC P ops C oi v a) (h:wpOpIn F n P ops Q j K (a.put oi.dst v) w) :
  wpOpIn F n P ops Q j (fun a' w'=>(YieldsC P ops C oi v a'∧C w')∧K (a'.put oi.dst v) w') a w:=by
 obtain ⟨h1,h2,h3⟩:=Oper.apart_spec hap
 have keep:∀ (a:Act),YieldsC P ops C oi v a→∀ u,YieldsC P ops C oi v (a.put oj.dst u):=fun a hy u =>
  hy.of_same (execOp_put oi hsi a oj.dst u h3) (wanted_put oi a oj.dst u h3) (fun w=>about_put oi w a oj.dst u h3)
 unfold wpOpIn at *
 simp only[hj] at *
 rw[wanted_put oj a oi.dst v h1,about_put oj w a oi.dst v h1] at h
 split
 ·rename_i hw
  simp only[hw,if_true] at h
  unfold Oper.wpIn at *
  rw[about_put oj w a oi.dst v h1] at h
  refine ⟨h.1,?_⟩
  have h:=h.2;rw[hro,Oper.semAt_none,execOp_put oj hsj a oi.dst v h1] at h;rw[hro,Oper.semAt_none];have hk:=hkeep a.eval w hC
  generalize (execOp a.eval oj).run P w=r at *
  cases r with
  | ok x w' =>
   obtain ⟨⟨u,rfl⟩,hC'⟩:=hk _ _ rfl
   simp only[Oper.uponIn] at h ⊢
   exact ⟨⟨keep a hy u,hC'⟩,by rw[←Act.put_comm a v u h2];exact h⟩
  | halt x w' =>
   cases x <;> simp only[Oper.uponIn] at h ⊢
   case panic u=>exact hQ _ _ _ h
 ·rename_i hw
  simp only[hw] at h
  exact ⟨h.1,⟨keep a hy _,hC⟩,by rw[←Act.put_comm a v undef h2];exact h.2⟩
def zmx (md:Region.Mode) (ops:Array Oper) (i:Nat) (tl:List Nat):Bool :=
 tl.all fun j=>match ops[j]? with
  | some oj=>oj.after.any fun e=>Region.binds md e&&(e.on==i||tl.contains e.on)
  | none=>false
theorem zsL {i:Nat} {tl:List Nat} {listed:Array Bool} (ht:zmx md ops i tl=true) (hi:listed.getD i true=false) (hl:∀ k∈tl,listed.getD k true=false) {j:Nat} (hj:j∈Region.ready md ops listed):j ∉ tl:=by
 intro hjt;obtain ⟨hjun,oj,hoj,hall⟩:=mem_ready.1 hj;simp only[zmx,List.all_eq_true] at ht;have h1:=ht j hjt;simp only[hoj] at h1;obtain ⟨e,he,hb⟩:=Array.any_eq_true'.1 h1;simp only[Bool.and_eq_true,Bool.or_eq_true,beq_iff_eq,List.contains_iff_mem] at hb;have h2:=hall e he hb.1
 have hno:∀ k,listed.getD k true=false→listed.getD k false=true→False:=by
  intro k a b
  rcases Nat.lt_or_ge k listed.size with h' | h'
  ·simp[h'] at a b;rw[a] at b;cases b
  ·simp[Array.getElem?_eq_none h'] at b
 rcases hb.2 with h | h
 ·rw[h] at h2;exact hno _ hi h2
 ·exact hno _ (hl _ h) h2
theorem zls {C:World→Prop} {i:Nat} {oi:Oper} {v:Value} (tl:List Nat) (ht:zmx md ops i tl=true) (hro:F.round=none) (hi:ops[i]?=some oi) (hsel:∀ (j:Nat) (o:Oper) cs b,ops[j]?=some o→o.op≠.select cs b)
  (hQ:∀ c a w,Q (.panic c) (a.put oi.dst v) w→Q (.panic c) a w) :
  ∀ (fuel:Nat) (listed:Array Bool) (a:Act) (w:World),(∀ k∈tl,listed.getD k true=false) →
   (∀ j oj,ops[j]?=some oj→j≠i→j ∉ tl→listed.getD j true=false→(∀ e∈oj.after,Region.binds md e=true→e.on≠i)→oi.apart ops oj=true∧zkl P C oj) →
   i∈Region.ready md ops listed→C w→YieldsC P ops C oi v a →
   wpAnyIn F n P md ops Q fuel (listed.setIfInBounds i true) (a.put oi.dst v) w→wpAnyIn F n P md ops Q (fuel+1) listed a w:=by
 intro fuel
 induction fuel with
 | zero =>
  intro listed a w _ _ hr hC hy H
  refine ⟨fun h=>(by rw[h] at hr;cases hr),fun j hj=>?_⟩
  by_cases hji:j=i
  ·subst hji;exact hy.wpOpIn hro hi hC H
  ·have:=ready_mono hj hji
   rw[H.1] at this
   cases this
 | succ fuel ih =>
  intro listed a w htl hfree hr hC hy H
  refine ⟨fun h=>(by rw[h] at hr;cases hr),fun j hj=>?_⟩
  by_cases hji:j=i
  ·subst hji;exact hy.wpOpIn hro hi hC H
  ·have h1:=H.2 j (ready_mono hj hji)
   have hjt:j ∉ tl:=zsL ht (mem_ready.1 hr).1 htl hj
   obtain ⟨hjun,oj,hoj,hall⟩:=mem_ready.1 hj
   have hnot:∀ e∈oj.after,Region.binds md e=true→e.on≠i:=fun e he hb heq=>by
    have h1:=hall e he hb;have h0:=(mem_ready.1 hr).1;rw[heq] at h1
    rcases Nat.lt_or_ge i listed.size with h' | h'
    ·simp[h'] at h0 h1;rw[h0] at h1;cases h1
    ·simp[Array.getElem?_eq_none h'] at h1
   obtain ⟨hap,hkp⟩:=hfree j oj hoj hji hjt hjun hnot
   have h2:=zoZ hro hoj hap (fun cs b=>hsel i oi cs b hi) (fun cs b=>hsel j oj cs b hoj) hkp hQ hC hy h1
   have hfree':∀ k ok,ops[k]?=some ok→k≠i→k ∉ tl→(listed.setIfInBounds j true).getD k true=false →
     (∀ e∈ok.after,Region.binds md e=true→e.on≠i)→oi.apart ops ok=true∧zkl P C ok:=fun k ok hk hki hkt hun hno=>by
    refine hfree k ok hk hki hkt ?_ hno
    by_cases hjk:j=k
    ·subst hjk;exact hjun
    ·rw[getD_set_ne true hjk] at hun;exact hun
   have htl':∀ k∈tl,(listed.setIfInBounds j true).getD k true=false:=fun k hk=>by
    have hne:j≠k:=fun e=>hjt (by rw[e];exact hk)
    rw[getD_set_ne true hne];exact htl k hk
   refine wpOpIn_mono (fun a' w' h3=>ih (listed.setIfInBounds j true) a' w' htl' hfree' (ready_mono hr (Ne.symm hji)) h3.1.2 h3.1.1 ?_) h2
   rw[Array.setIfInBounds_comm _ _ hji]
   exact h3.2
def SameW {α:Type} (P:Program) (s:Sem α):Prop:=∀ w r w',s.run P w=.ok r w'→w'=w
def zd7 {α:Type} (P:Program) (s:Sem α):Prop:=∀ w r w',s.run P w=.ok r w'→w'=w∨∃ o,w'=w.alloc o
theorem zcy {α β:Type} {s:Sem α} {f:α→Sem β} (h1:SameW P s) (h2:∀ a,SameW P (f a)):SameW P (s >>= f):=by
 intro w r w' h;rw[Sem.run_bind] at h
 cases hs:s.run P w with
 | ok a w1 =>
  rw[hs] at h;rw[h1 _ _ _ hs] at h
  exact h2 a _ _ _ h
 | halt x w1=>rw[hs] at h;cases h
theorem zeq {α β:Type} {s:Sem α} {f:α→Sem β} (h1:SameW P s) (h2:∀ a,zd7 P (f a)):zd7 P (s >>= f):=by
 intro w r w' h;rw[Sem.run_bind] at h
 cases hs:s.run P w with
 | ok a w1 =>
  rw[hs] at h;rw[h1 _ _ _ hs] at h
  exact h2 a _ _ _ h
 | halt x w1=>rw[hs] at h;cases h
theorem zpX {α β:Type} {s:Sem α} {f:α→Sem β} (h1:zd7 P s) (h2:∀ a,SameW P (f a)):zd7 P (s >>= f):=by
 intro w r w' h;rw[Sem.run_bind] at h
 cases hs:s.run P w with
 | ok a w1 =>
  rw[hs] at h
  have:=h2 a _ _ _ h
  subst this
  exact h1 _ _ _ hs
 | halt x w1=>rw[hs] at h;cases h
theorem zcp {α:Type} (a:α):SameW P (pure a:Sem α):=by
 intro w r w' h;rw[Sem.run_pure] at h
 cases h;rfl
theorem SameW.grow {α:Type} {s:Sem α} (h:SameW P s):zd7 P s:=fun w r w' h'=>.inl (h w r w' h')
theorem zlT (a:Addr) (m:Mode):SameW P (load a m):=by
 intro w r w' h;rw[run_load] at h
 split at h
 ·cases h;rfl
 ·split at h <;> cases h <;> rfl
theorem zeE {α:Type} (m:String):SameW P (stuck m:Sem α):=by
 intro w r w' h
 simp[go_sem] at h
theorem ziJ:SameW P program:=by
 intro w r w' h
 simp[go_sem] at h
 exact h.2.symm
theorem zh5 (t:TypeId):SameW P (typeInfo t):=by
 unfold typeInfo
 refine zcy ziJ (fun p=>?_)
 split
 ·exact zcp _
 ·exact zeE _
theorem zgq (t:TypeId):SameW P (underlying t):=by
 unfold underlying
 refine zcy ziJ (fun p=>?_)
 split
 ·exact zcp _
 ·exact zeE _
theorem zjw (t:TypeId):SameW P (sizeOf t):=by unfold sizeOf;exact zcy (zh5 t) (fun _=>zcp _)
theorem zqu (t:TypeId):SameW P (isAgg t):=by
 unfold isAgg
 refine zcy (zgq t) (fun d=>?_)
 split <;> exact zcp _
theorem ziI (a:Addr) (n:Nat):∀ (i:Nat) (acc:Array Value),SameW P (loadCellsFrom a i n acc):=by
 induction n with
 | zero=>intro i acc;exact zcp _
 | succ n ih=>intro i acc;exact zcy (zlT _ _) (fun v=>ih _ _)
theorem znx (t:TypeId) (a:Addr):SameW P (loadVar t a):=by
 unfold loadVar
 refine zcy (zqu t) (fun b=>?_)
 cases b
 ·exact zlT _ _
 ·exact zcy (zjw t) (fun n=>zcy (ziI _ _ _ _) (fun _=>zcp _))
theorem zoM (t:TypeId) (v:Value):SameW P (Instr.loadAt t v):=by
 unfold Instr.loadAt
 refine zcy ?_ (fun a=>znx t a)
 unfold Instr.sureAddr
 split
 ·exact zcp _
 ·exact zeE _
def zku (o:Oper):Bool :=
 match o.op with
 | .move _=>true
 | .load _ _=>true
 | .buildSlice _ _ _=>true
 | _=>false
def zf0 (ops:Array Oper) (listed:Array Bool) (i:Nat) (tl:List Nat):Bool :=
 tl.all (fun k=>!listed.getD k true)&&(List.range ops.size).all fun j=>j==i||tl.contains j||listed.getD j true||match ops[j]? with
   | some oj=>zku oj
   | none=>true
theorem zme {i:Nat} {tl:List Nat} {listed:Array Bool} (h:zf0 ops listed i tl=true) (j:Nat) (oj:Oper)
  (hj:ops[j]?=some oj) (hne:j≠i) (hnt:j ∉ tl) (hun:listed.getD j true=false):zku oj=true:=by
 simp only[zf0,Bool.and_eq_true,List.all_eq_true,List.mem_range] at h;have h1:=h.2 j (Array.getElem?_eq_some_iff.1 hj).1
 simpa [hj,hne,hnt,hun] using h1
theorem zn7 {i:Nat} {tl:List Nat} {listed:Array Bool} (h:zf0 ops listed i tl=true):∀ k∈tl,listed.getD k true=false:=by
 simp only[zf0,Bool.and_eq_true,List.all_eq_true] at h;intro k hk
 simpa using h.1 k hk
theorem zrI (t:TypeId):SameW P (zeroValue t):=by
 unfold zeroValue
 refine zcy (zh5 t) (fun i=>?_)
 split
 ·exact zcp _
 ·intro w r w' h
  simp[go_sem] at h
theorem zol (t:TypeId) (cs:Array Value):zd7 P (newRow t cs):=by
 intro w r w' h
 simp[newRow,go_sem] at h
 exact .inr ⟨_,h.2.symm⟩
theorem ztD {α:Type} {c:Prop} [Decidable c] {s t:Sem α} (h1:zd7 P s) (h2:zd7 P t):zd7 P (if c then s else t):=by split <;> assumption
theorem zkJ (t:TypeId) (n:Nat) (ps:Array (Nat×Value)):zd7 P (Instr.buildSlice t n ps):=by
 unfold Instr.buildSlice
 refine zeq (zgq t) (fun d=>?_)
 split
 ·refine zeq (zjw _) (fun size=>?_)
  have hu:∀ {α:Type} (u:Unsupported),SameW P (unsupported u:Sem α):=by
   intro α u w r w' h
   simp[go_sem] at h
  have hlast:∀ (zero:Array Value) (e:TypeId),zd7 P (do
    let some cells:=Instr.fill (fun i=>some (i*size,size)) ((Array.range (n*size)).map (zero[· % zero.size]!)) ps.toList | stuck "buildSlice: a part of the wrong size"
    pure (Value.slice (some (←newRow e cells)) n n)):=by
   intro zero e
   split
   ·exact zpX (zol _ _) (fun _=>zcp _)
   ·exact (zeE _).grow
  rename_i elem
  have hmid:zd7 P (if n*size=0 then (do
    let zero ←(pure #[]:Sem (Array Value))
    match Instr.fill (fun i=>some (i*size,size)) ((Array.range (n*size)).map (zero[· % zero.size]!)) ps.toList with
     | some cells=>do
      let a ←newRow elem cells
      pure (Value.slice (some a) n n)
     | _=>stuck "buildSlice: a part of the wrong size")
   else (do
    let v ←zeroValue elem
    let zero ←(pure v.cells:Sem (Array Value))
    match Instr.fill (fun i=>some (i*size,size)) ((Array.range (n*size)).map (zero[· % zero.size]!)) ps.toList with
     | some cells=>do
      let a ←newRow elem cells
      pure (Value.slice (some a) n n)
     | _=>stuck "buildSlice: a part of the wrong size")):=by
   split
   ·exact zeq (zcp _) (fun z=>hlast z elem)
   ·exact zeq (zrI _) (fun v=>zeq (zcp _) (fun z=>hlast z elem))
  exact ztD (zeq (hu _) (fun _=>hmid)) hmid
 ·exact (zeE _).grow
theorem znN {s:Sem Value} {w w':World} {r:Next} (h:(do pure (Next.value (←s)):Sem Next).run P w=.ok r w'):∃ v,r=.value v∧s.run P w=.ok v w':=by
 rw[Sem.run_bind] at h
 cases hs:s.run P w with
 | ok a w1=>rw[hs] at h;cases h;exact ⟨a,rfl,rfl⟩
 | halt x w1=>rw[hs] at h;cases h
theorem zpL {C:World→Prop} (hC:∀ w o,C w→C (w.alloc o)) {o:Oper} (h:zku o=true):zkl P C o:=by
 intro ρ w hw r w' hr;unfold zku at h;unfold execOp at hr
 split at h
 ·rename_i x ho
  simp only[ho,Sem.run_pure] at hr
  cases hr;exact ⟨⟨_,rfl⟩,hw⟩
 ·rename_i t x ho
  simp only[ho] at hr;obtain ⟨v,rfl,hs⟩:=znN hr;rw[zoM _ _ _ _ _ hs]
  exact ⟨⟨_,rfl⟩,hw⟩
 ·rename_i t n ps ho
  simp only[ho] at hr;obtain ⟨v,rfl,hs⟩:=znN hr
  refine ⟨⟨_,rfl⟩,?_⟩
  rcases zkJ _ _ _ _ _ _ hs with rfl | ⟨o',rfl⟩
  ·exact hw
  ·exact hC _ _ hw
 ·cases h
theorem zdm (C:World→Prop) (tl:List Nat) {i:Nat} {oi:Oper} {v:Value} {fuel:Nat} {listed:Array Bool} {a:Act} {w:World} (hro:F.round=none) (hi:ops.toList[i]?=some oi)
  (hs:Region.noSelect ops=true) (hf:Region.free md ops listed i=true) (ht:zmx md ops i tl=true) (hcm:zf0 ops listed i tl=true) (hr:(Region.ready md ops listed).contains i=true)
  (hQ:∀ c a w,Q (.panic c) (a.put oi.dst v) w→Q (.panic c) a w) (hal:∀ w o,C w→C (w.alloc o)) (hC:C w) (hy:YieldsC P ops C oi v a)
  (h:wpAnyIn F n P md ops Q fuel (listed.setIfInBounds i true) (a.put oi.dst v) w):wpAnyIn F n P md ops Q (fuel+1) listed a w :=
 zls tl ht hro (zf5 hi) (Region.noSelect_spec hs) hQ fuel listed a w (zn7 hcm) (fun j oj hj hne hnt hun hno=>⟨Region.free_spec (zf5 hi) hf j oj hj hne hun hno,zpL hal (zme hcm j oj hj hne hnt hun)⟩) (by simpa using hr) hC hy h
theorem zmn {i:Nat} {oi:Oper} {v:Value} {fuel:Nat} {listed:Array Bool} {a:Act} {w:World} (hro:F.round=none) (hi:ops.toList[i]?=some oi)
  (hs:Region.noSelect ops=true) (hf:Region.free md ops listed i=true) (hr:(Region.ready md ops listed).contains i=true)
  (hQ:∀ c a w,Q (.panic c) (a.put oi.dst v) w→Q (.panic c) a w) (hy:YieldsFenced P ops oi v a)
  (h:wpAnyIn F n P md ops Q fuel (listed.setIfInBounds i true) (a.put oi.dst v) w):wpAnyIn F n P md ops Q (fuel+1) listed a w :=
 wpAnyIn_take hro (zf5 hi) hs hf hr hQ hy h
theorem zvu {o:Oper} {v:Value} {a:Act} (hg:o.guard=none) (hrun:∀ w,(execOp a.eval o).run P w=.ok (.value v) w) (hab:∀ w,o.about P w a.eval=none):YieldsFenced P ops o v a :=
 ⟨.inl ⟨by simp[Region.wanted,hg],hrun⟩,hab⟩
theorem tkF (i:Nat) {oi:Oper} {v:Value} {fuel:Nat} {listed:Array Bool} {a:Act} {w:World} (hro:F.round=none) (hi:ops.toList[i]?=some oi) (hg:oi.guard=none)
  (h:wpAnyIn F n P md ops Q fuel (listed.setIfInBounds i true) (a.put oi.dst v) w) (hrun:∀ w,(execOp a.eval oi).run P w=.ok (.value v) w:=by (intro w;go_simp;try with_reducible rfl)) (hab:∀ w,oi.about P w a.eval=none:=by exact fun w=>rfl) (hs:Region.noSelect ops=true:=by kernel_rfl) (hf:Region.free md ops listed i=true:=by kernel_rfl) (hr:(Region.ready md ops listed).contains i=true:=by kernel_rfl)
  (hQ:∀ c a w,Q (.panic c) (a.put oi.dst v) w→Q (.panic c) a w:=by exact fun _ _ _ h=>h):wpAnyIn F n P md ops Q (fuel+1) listed a w :=
 zmn hro hi hs hf hr hQ (zvu hg hrun hab) h
theorem zg3 {C:World→Prop} {o:Oper} {v:Value} {a:Act} (hg:o.guard=none) (hrun:∀ w,C w→(execOp a.eval o).run P w=.ok (.value v) w) (hab:∀ w,o.about P w a.eval=none):YieldsC P ops C o v a :=
 ⟨by simp[Region.wanted,hg],hrun,hab⟩
theorem zan {i:Nat} {o:Oper} {v:Value} {fuel:Nat} {listed:Array Bool} {a:Act} {w w':World} (hro:F.round=none) (hr:Region.ready md ops listed=[i]) (hi0:ops.toList[i]?=some o) (hg:o.guard=none)
  (hab:o.about P w a.eval=none) (hrun:(execOp a.eval o).run P w=.ok (.value v) w') (h:wpAnyIn F n P md ops Q fuel (listed.setIfInBounds i true) (a.put o.dst v) w'):wpAnyIn F n P md ops Q (fuel+1) listed a w:=by
 have hi:=zf5 hi0
 refine wpAnyIn_all hr (by simp) (fun j hj=>?_)
 have e:j=i:=by simpa using hj
 subst e;unfold wpOpIn
 have hab':∀ f,o.about P w a.eval=some f→F.fn f:=fun f hf=>by rw[hab] at hf;cases hf
 have hw:Region.wanted o (yielded ops a.tmps)=true:=by simp[Region.wanted,hg]
 simp only[hi,hw,if_true,Oper.wpIn,hro,Oper.semAt_none,hrun,Oper.uponIn]
 exact ⟨hab',h⟩
theorem zbR {i:Nat} {o:Oper} {fuel:Nat} {listed:Array Bool} {a:Act} {w w':World} (hro:F.round=none) (hr:Region.ready md ops listed=[i]) (hi0:ops.toList[i]?=some o) (hg:o.guard=none)
  (hab:o.about P w a.eval=none) (hrun:(execOp a.eval o).run P w=.ok .skip w') (h:wpAnyIn F n P md ops Q fuel (listed.setIfInBounds i true) (a.put o.dst undef) w'):wpAnyIn F n P md ops Q (fuel+1) listed a w:=by
 have hi:=zf5 hi0
 refine wpAnyIn_all hr (by simp) (fun j hj=>?_)
 have e:j=i:=by simpa using hj
 subst e;unfold wpOpIn
 have hab':∀ f,o.about P w a.eval=some f→F.fn f:=fun f hf=>by rw[hab] at hf;cases hf
 have hw:Region.wanted o (yielded ops a.tmps)=true:=by simp[Region.wanted,hg]
 simp only[hi,hw,if_true,Oper.wpIn,hro,Oper.semAt_none,hrun,Oper.uponIn]
 exact ⟨hab',h⟩
theorem zc8 {i:Nat} {o:Oper} {f:FuncId} {args:Array Value} {fuel:Nat} {listed:Array Bool} {a:Act} {w w':World} (hr:Region.ready md ops listed=[i]) (hi0:ops.toList[i]?=some o) (hg:o.guard=none)
  (hrun:(execOp a.eval o).run P w=.ok (.enter f args) w') (h:Calls P f args w' fun e w2=>∃ v,e=.returned v∧wpAnyIn (Wd none) n P md ops Q fuel (listed.setIfInBounds i true) (a.put o.dst v) w2):wpAnyIn (Wd none) n P md ops Q (fuel+1) listed a w:=by
 have hi:=zf5 hi0
 refine wpAnyIn_all hr (by simp) (fun j hj=>?_)
 have e:j=i:=by simpa using hj
 subst e;unfold wpOpIn
 have hw:Region.wanted o (yielded ops a.tmps)=true:=by simp[Region.wanted,hg]
 simp only[hi,hw,if_true,Oper.wpIn,Oper.semAt_none,hrun,Oper.uponIn]
 refine ⟨fun _ _=>trivial,fun h=>by simp[Fence.wide] at h,(callsIn_wd.2 h).mono ?_⟩
 rintro e w2 ⟨v,rfl,h⟩
 exact h
theorem zk6 {i j:Nat} {oi oj:Oper} {vi vj:Value} {fuel:Nat} {listed:Array Bool} {a:Act} {w wi wj:World} (hro:F.round=none) (hr:Region.ready md ops listed=[i,j]) (hi0:ops.toList[i]?=some oi) (hj0:ops.toList[j]?=some oj) (gi:oi.guard=none) (gj:oj.guard=none)
  (abi:oi.about P w a.eval=none) (abj:oj.about P w a.eval=none) (runi:(execOp a.eval oi).run P w=.ok (.value vi) wi) (runj:(execOp a.eval oj).run P w=.ok (.value vj) wj)
  (h1:wpAnyIn F n P md ops Q fuel (listed.setIfInBounds i true) (a.put oi.dst vi) wi) (h2:wpAnyIn F n P md ops Q fuel (listed.setIfInBounds j true) (a.put oj.dst vj) wj):wpAnyIn F n P md ops Q (fuel+1) listed a w:=by
 have hi:=zf5 hi0;have hj:=zf5 hj0
 refine wpAnyIn_all hr (by simp) (fun k hk=>?_)
 have abi':∀ f,oi.about P w a.eval=some f→F.fn f:=fun f hf=>by rw[abi] at hf;cases hf
 have abj':∀ f,oj.about P w a.eval=some f→F.fn f:=fun f hf=>by rw[abj] at hf;cases hf
 have wi':Region.wanted oi (yielded ops a.tmps)=true:=by simp[Region.wanted,gi]
 have wj':Region.wanted oj (yielded ops a.tmps)=true:=by simp[Region.wanted,gj]
 rcases (by simpa using hk:k=i∨k=j) with rfl | rfl
 ·unfold wpOpIn
  simp only[hi,wi',if_true,Oper.wpIn,hro,Oper.semAt_none,runi,Oper.uponIn]
  exact ⟨abi',h1⟩
 ·unfold wpOpIn
  simp only[hj,wj',if_true,Oper.wpIn,hro,Oper.semAt_none,runj,Oper.uponIn]
  exact ⟨abj',h2⟩
end
open Go.RowKit
def Blk (W:World) (b:Nat) (t:TypeId) (cs:Array Value):Prop:=W.heap[b]?=some (.cells cs t (0,0))
section
variable {W W':World} {b:Nat} {t:TypeId} {cs:Array Value}
theorem Blk.lt (h:Blk W b t cs):b<W.heap.size:=(Array.getElem?_eq_some_iff.1 h).1
theorem Blk.cell (h:Blk W b t cs) (k:Nat) {v:Value} (hv:cs[k]?=some v):W.cell? ⟨b,k,none⟩=some v:=by simp[World.cell?,show W.heap[b]?=_ from h,hv]
theorem Blk.frozen (h:Blk W b t cs) (k:Nat):W.frozen? ⟨b,k,none⟩=false:=by simp[World.frozen?,show W.heap[b]?=_ from h]
theorem Blk.new (W:World) (t:TypeId) (cs:Array Value):Blk (W.alloc (.cells cs t)) W.heap.size t cs:=World.alloc_heap_new W _
theorem Blk.kept {row:Option Nat} (h:Blk W b t cs) (hg:W.grownBy W' row) (hne:some b≠row):Blk W' b t cs:=(hg.block b h.lt hne).trans h
theorem Blk.ext (h:Blk W b t cs) (he:Ext W W'):Blk W' b t cs:=(he.block b h.lt).trans h
theorem Blk.alloc (h:Blk W b t cs) (o:Obj):Blk (W.alloc o) b t cs:=h.ext (Ext.alloc (Ext.refl _) o)
theorem Blk.set (h:Blk W b t cs) (k:Nat) (u:Value):Blk (W.setCell ⟨b,k,none⟩ u) b t (cs.setIfInBounds k u):=by
 obtain ⟨hlt,hk⟩:=Array.getElem?_eq_some_iff.1 h
 show (W.heap.modify b _)[b]?=_
 rw[Array.getElem?_eq_getElem (by rw[Array.size_modify];exact hlt),Array.getElem_modify_self,hk]
 rfl
theorem Blk.other (h:Blk W b t cs) {b':Nat} (hne:b≠b') (k:Nat) (u:Value):Blk (W.setCell ⟨b',k,none⟩ u) b t cs :=
 (Below.heap_setCell W ⟨b',k,none⟩ u b hne).trans h
theorem Blk.not_row (h:Blk W b t cs) {e:TypeId} (hte:t≠e) {base size k:Nat} {v:Value} {xs:List Value} (hr:W.ownsRow base e size v k xs):some b≠v.ownBlock:=by
 intro e';obtain ⟨cur,hc⟩:=zcs hr e'.symm
 rw[show W.heap[b]?=_ from h] at hc
 cases hc
 exact hte rfl
theorem Blk.load {P:Program} {ty:TypeId} {d:TypeDesc} (h:Blk W b t cs) (hu:P.underlying ty=some d) (hd:(match d with | .struct _ | .array _ _=>true | _=>false)=true) (hi:(P.info? ty).map (·.size)=some cs.size) :
  (loadVar ty ⟨b,0,none⟩).run P W=.ok (.agg cs) W:=run_loadVar_row W b t ty cs (0,0) d h hu hd hi
end
theorem za7 {W:World} {b:Nat} {t:TypeId} {a v u:Value} (h:Blk W b t #[a,v,u]):W.cell? ⟨b,0,none⟩=some a∧W.cell? ⟨b,1,none⟩=some v∧W.cell? ⟨b,2,none⟩=some u∧W.frozen? ⟨b,0,none⟩=false∧W.frozen? ⟨b,1,none⟩=false∧W.frozen? ⟨b,2,none⟩=false :=
 ⟨h.cell 0 rfl,h.cell 1 rfl,h.cell 2 rfl,h.frozen 0,h.frozen 1,h.frozen 2⟩
theorem blk4 {W:World} {b:Nat} {t:TypeId} {a v u x:Value} (h:Blk W b t #[a,v,u,x]):W.cell? ⟨b,0,none⟩=some a∧W.cell? ⟨b,1,none⟩=some v∧W.cell? ⟨b,2,none⟩=some u∧W.cell? ⟨b,3,none⟩=some x∧W.frozen? ⟨b,0,none⟩=false∧W.frozen? ⟨b,1,none⟩=false∧W.frozen? ⟨b,2,none⟩=false∧W.frozen? ⟨b,3,none⟩=false :=
 ⟨h.cell 0 rfl,h.cell 1 rfl,h.cell 2 rfl,h.cell 3 rfl,h.frozen 0,h.frozen 1,h.frozen 2,h.frozen 3⟩
theorem zbo {W:World} {b:Nat} {t:TypeId} {a v u:Value} (h:Blk W b t #[a,v,u]) (a' v' u':Value):Blk (((W.setCell ⟨b,0,none⟩ a').setCell ⟨b,1,none⟩ v').setCell ⟨b,2,none⟩ u') b t #[a',v',u'] :=
 ((h.set 0 a').set 1 v').set 2 u'
theorem zaa (W:World) (b k:Nat) (v:Value):W.grownBy (W.setCell ⟨b,k,none⟩ v) (some b) :=
 ⟨rfl,rfl,rfl,by simp[World.setCell],fun j _ hj=>Below.heap_setCell _ _ _ j (fun e=>hj (by rw[e]))⟩
theorem zfB {A B C:World} {row:Option Nat} (h:A.grownBy B row) (k:B.grownBy C row):A.grownBy C row :=
 ⟨k.os.trans h.os,k.tape.trans h.tape,k.output.trans h.output,Nat.le_trans h.size k.size,fun j hj hne=>(k.block j (Nat.lt_of_lt_of_le hj h.size) hne).trans (h.block j hj hne)⟩
theorem zdC {W:World} {b:Nat} {t:TypeId} {cs:List Value} (h:Blk W b t cs.toArray) {n:Nat} (hn:cs.length=n) (hl:n≤maxLen):SlR W 1 (.slice (some ⟨b,0,none⟩) n n) n cs:=by
 refine ⟨by omega,_,n,rfl,Nat.le_refl _,hl,fun _=>⟨b,0,rfl,fun j u hu=>?_⟩⟩
 rw[Nat.zero_add]
 exact h.cell j (by simpa using hu)
theorem zaB {W W':World} {row:Option Nat} (hg:W.grownBy W' row) {p:Addr} {u:Value} (h:W.cell? p=some u) (hr:some p.block≠row):W'.cell? p=some u :=
 (World.cell?_of_block (hg.block p.block (World.block_lt_of_cell? W p h) hr)).trans h
theorem SlR.keepB {w w':World} {size b off m c n:Nat} {xs:List Value} (h:SlR w size (.slice (some ⟨b,off,none⟩) m c) n xs) (hk:∀ o u,w.cell? ⟨b,o,none⟩=some u→w'.cell? ⟨b,o,none⟩=some u) :
  SlR w' size (.slice (some ⟨b,off,none⟩) m c) n xs:=by
 obtain ⟨hl,A,c',e,h1,h2,h3⟩:=h
 cases e
 refine ⟨hl,_,c,rfl,h1,h2,fun hn=>?_⟩
 obtain ⟨b',off',e',hc⟩:=h3 hn
 cases e'
 exact ⟨b,off,rfl,fun j u hu=>hk _ _ (hc j u hu)⟩
theorem SlR.take1 {w:World} {A:Option Addr} {m c n:Nat} {xs:List Value} (h:SlR w 1 (.slice A m c) n xs) (k:Nat) (hk:k≤n):SlR w 1 (.slice A k c) k (xs.take k):=by
 obtain ⟨hl,A',c',e,h1,h2,h3⟩:=h
 cases e
 refine ⟨by rw[List.length_take,hl];omega,_,c,rfl,by omega,h2,fun hn=>?_⟩
 obtain ⟨b',off',e',hc⟩:=h3 (by omega)
 cases e'
 refine ⟨b',off',rfl,fun j u hu=>hc j u ?_⟩
 rw[List.getElem?_take] at hu
 split at hu
 ·exact hu
 ·cases hu
theorem Bs.take {w:World} {A:Option Addr} {m c:Nat} {bs:List UInt8} (h:Bs w (.slice A m c) bs) (k:Nat) (hk:k≤bs.length):Bs w (.slice A k c) (bs.take k):=by
 have:=SlR.take1 h k hk
 unfold Bs;rw[List.length_take,Nat.min_eq_left hk,List.map_take]
 exact this
theorem SlR.capd {w:World} {A:Option Addr} {m c c' size n:Nat} {xs:List Value} (h:SlR w size (.slice A m c) n xs) (h1:n≤c') (h2:c'≤9223372036854775807):SlR w size (.slice A m c') n xs:=by
 obtain ⟨hl,A',c'',e,_,_,h3⟩:=h
 cases e
 exact ⟨hl,A,c',rfl,h1,by simpa [maxLen] using h2,h3⟩
open Go.RowKit
section
variable {F:Fence} {n:Nat} {P:Program} {ops:Array Oper} {Q:Exit→Act→World→Prop} {md:Region.Mode}
theorem ziR {i:Nat} {o:Oper} {fuel:Nat} {listed:Array Bool} {a:Act} {w:World} (hro:F.round=none) (hr:Region.ready md ops listed=[i]) (hi0:ops.toList[i]?=some o) (hg:o.guard=none)
  (hab:∀ f,o.about P w a.eval=some f→F.fn f) (h:o.uponIn F n P a (fun a' w'=>wpAnyIn F n P md ops Q fuel (listed.setIfInBounds i true) a' w') Q ((execOp a.eval o).run P w)):wpAnyIn F n P md ops Q (fuel+1) listed a w:=by
 have hi:=zf5 hi0
 refine wpAnyIn_all hr (by simp) (fun j hj=>?_)
 have e:j=i:=by simpa using hj
 subst e;unfold wpOpIn
 have hw:Region.wanted o (yielded ops a.tmps)=true:=by simp[Region.wanted,hg]
 simp only[hi,hw,if_true,Oper.wpIn,hro,Oper.semAt_none]
 exact ⟨hab,h⟩
theorem zqO {i j:Nat} {oi oj:Oper} {vi:Value} {f:FuncId} {args:Array Value} {fuel:Nat} {listed:Array Bool} {a:Act} {w wi wj:World} (hr:Region.ready md ops listed=[i,j]) (hi0:ops.toList[i]?=some oi) (hj0:ops.toList[j]?=some oj) (gi:oi.guard=none) (gj:oj.guard=none)
  (abi:oi.about P w a.eval=none) (runi:(execOp a.eval oi).run P w=.ok (.value vi) wi) (runj:(execOp a.eval oj).run P w=.ok (.enter f args) wj)
  (h1:wpAnyIn (Wd none) n P md ops Q fuel (listed.setIfInBounds i true) (a.put oi.dst vi) wi)
  (h2:Calls P f args wj fun e w2=>∃ v,e=.returned v∧wpAnyIn (Wd none) n P md ops Q fuel (listed.setIfInBounds j true) (a.put oj.dst v) w2):wpAnyIn (Wd none) n P md ops Q (fuel+1) listed a w:=by
 have hi:=zf5 hi0;have hj:=zf5 hj0
 refine wpAnyIn_all hr (by simp) (fun k hk=>?_)
 have abi':∀ f,oi.about P w a.eval=some f→(Wd none).fn f:=fun f hf=>by rw[abi] at hf;cases hf
 have wi':Region.wanted oi (yielded ops a.tmps)=true:=by simp[Region.wanted,gi]
 have wj':Region.wanted oj (yielded ops a.tmps)=true:=by simp[Region.wanted,gj]
 rcases (by simpa using hk:k=i∨k=j) with rfl | rfl
 ·unfold wpOpIn
  simp only[hi,wi',if_true,Oper.wpIn,Oper.semAt_none,runi,Oper.uponIn]
  exact ⟨abi',h1⟩
 ·unfold wpOpIn
  simp only[hj,wj',if_true,Oper.wpIn,Oper.semAt_none,runj,Oper.uponIn]
  refine ⟨fun _ _=>trivial,fun h=>by simp[Fence.wide] at h,(callsIn_wd.2 h2).mono ?_⟩
  rintro e w2 ⟨v,rfl,h⟩
  exact h
end
open Go.RowKit
section
variable {n:Nat} {P:Program} {ops:Array Oper} {Q:Exit→Act→World→Prop} {md:Region.Mode} {S:World→Prop}
def NoQ (Q:Exit→Act→World→Prop):Exit→Act→World→Prop
 | .normal,a,w=>Q .normal a w
 | _,_,_=>False
theorem NoQ.imp {Q:Exit→Act→World→Prop} (e:Exit) (a:Act) (w:World) (h:NoQ Q e a w):Q e a w:=by
 cases e <;> first | exact h | exact h.elim
theorem zdW {a:Act} {w:World} (h:Q .normal a w):NoQ Q .normal a w:=h
theorem zpl {o:Oper} {a:Act} {K:Act→World→Prop} {r:Result Next} (h:o.upon P a K Q r):o.uponIn (Wd none) n P a K Q r:=by
 cases r with
 | ok x w =>
  cases x with
  | value v=>exact h
  | skip=>exact h
  | defer d=>exact h
  | enter f args=>exact ⟨fun h=>by simp[Fence.wide] at h,callsIn_wd.2 h⟩
  | row row args=>exact ⟨fun h=>by simp[Fence.wide] at h,fun c cs _=>let ⟨v,w',r,s⟩:=h c cs;⟨v,w',r,stepsIn_wide.2 s⟩⟩
  | _=>exact h.elim
 | halt x w =>
  cases x <;> first | exact h | exact h.elim
theorem zvr {i:Nat} {K:Act→World→Prop} {a:Act} {w:World} (h:wpOp P ops (NoQ Q) i K a w):wpOpIn (Wd none) n P ops (NoQ Q) i K a w:=by
 unfold wpOp at h;unfold wpOpIn
 cases ho:ops[i]? with
 | none=>rw[ho] at h;exact h
 | some o =>
  rw[ho] at h
  dsimp only at h ⊢
  split
  ·rename_i hw
   rw[if_pos hw] at h
   rcases h with h | ⟨_,_,_,h⟩
   ·refine ⟨fun _ _=>trivial,?_⟩
    rw[show (Wd none).round=none from rfl,Oper.semAt_none]
    exact zpl h
   ·exact h.elim
  ·rename_i hw
   rw[if_neg hw] at h
   exact ⟨fun _ _=>trivial,h⟩
theorem zkg:∀ (fuel:Nat) (listed:Array Bool) (a:Act) (w:World),wpAny P md ops (NoQ Q) fuel listed a w→wpAnyIn (Wd none) n P md ops (NoQ Q) fuel listed a w
 | 0,_,_,_,h=>h
 | fuel+1,listed,a,w,h=>⟨h.1,fun i hi=>wpOpIn_mono (fun a w=>zkg fuel _ a w) (zvr (h.2 i hi))⟩
theorem zgt {l id:Nat} {a:Act} {w:World} (hm:P.follows .mixedOrders=true) (hd:zgU ops=true) (hS:S w.drew)
  (h:S w.drew→wpAnyH P .any ops (NoQ Q) S ops.size (Array.replicate ops.size false) a w.drew):(Code.region id ops true).wpIn (Wd (some l)) n P Q a w :=
 wpIn_mono (wpIn_region_any (F:=(Wd none).inRound l) hm (zh6 l hd rfl _ _ _ _ (zkg _ _ _ _ (wpAny_of_held _ _ _ _ (h hS))))) NoQ.imp
theorem zc9 {id:Nat} {a:Act} {w:World} (hm:P.follows .mixedOrders=true) (hS:S w.drew)
  (h:S w.drew→wpAnyH P .any ops (NoQ Q) S ops.size (Array.replicate ops.size false) a w.drew):(Code.region id ops true).wpIn (Wd none) n P Q a w :=
 wpIn_mono (wpIn_region_any hm (zkg _ _ _ _ (wpAny_of_held _ _ _ _ (h hS)))) NoQ.imp
end
open Go.RowKit
def KG (G:Nat→Prop) (k:Nat) (o:Obj):Prop:=o.isCells=true∧¬ G k
def zvC (P:Program) (gf:Nat) (lb:Array Value) {α:Type} (Rp:α→Array Value→World→Prop) (M:Nat→Obj→Prop) (xs:List α) (pn:Option (List PanicEntry)) (Gok:(Nat→Prop)→Prop) (W0:World):Prop :=
 ∀ (l:Nat) (J:(Nat→Prop)→List α→World→Prop),
  (∀ G s A B,J G s A→Moves (zab M W0.heap.size) A B→J G s B)→(∀ G s A,J G s A→∀ k,G k→k<A.heap.size) →
  (∀ G pre x post,xs=pre++x::post→∀ (W:World) (av:Array Value),J G pre W→W0.heap.size≤W.heap.size→Rp x av W→YieldsAt P l av W fun e W' =>
    e=.returned (.bool true)∧Kept (zab (KG G) W0.heap.size) W W'∧∃ G',(∀ k,G' k→G k∨W.heap.size≤k)∧J G' (pre++[x]) W') →
  ∀ G0,Gok G0→J G0 [] W0 →
  Calls P gf (#[.func (.yield l) #[] #[]]++lb) W0 fun e W'=>∃ G,J G xs W'∧((pn=none∧∃ v,e=.returned v)∨∃ c,pn=some c∧e=.panicked c)
def zvf (K:Nat→Obj→Prop) (I:World→Prop) (W:World):Exit→Act→World→Prop
 | .normal,_,W'=>Kept K W W'∧I W'
 | _,_,_=>False
theorem zsT {P:Program} {α:Type} {n:Nat} {g:Operand} {ps:Array Tmp} {assign body:Code} {Q:Exit→Act→World→Prop} {a:Act} {w:World}
  {gf:Nat} {lb:Array Value} (hg:a.eval g=.func (.func gf) #[] lb) (eg:∀ args w,(callFunc gf args).run P w=.ok (.enter gf args) w)
  {Rp:α→Array Value→World→Prop} {M:Nat→Obj→Prop} {xs:List α} {pn:Option (List PanicEntry)} {Gok:(Nat→Prop)→Prop}
  (hseq:∀ W1,Below w.heap.size w W1→W1.heap.size=w.heap.size+2→zvC P gf lb Rp M xs pn Gok W1)
  (hMc:∀ k o,M k o→o.isCells=true) (hps:∀ x av W,Rp x av W→av.size=ps.size)
  (I:(Nat→Prop)→List α→World→Prop)
  (hI:∀ G s A B,I G s A→Moves (zab M w.heap.size) A B→I G s B) (hbd:∀ G s A,I G s A→∀ k,G k→k<A.heap.size) (G0:Nat→Prop) (hG0:Gok G0) (h0:I G0 [] w)
  (Ax:α→Act→World→Prop) (hAx:∀ x a' A B,Ax x a' A→Moves (zab (fun _ _=>False) w.heap.size) A B→Ax x a' B)
  (hassign:∀ (G:Nat→Prop) (l:Nat) (pre:List α) (x:α) (post:List α) (W:World) (av:Array Value) (K':Act→World→Prop),xs=pre++x::post→I G pre W→w.heap.size≤W.heap.size→Rp x av W →
    (∀ a' W',Kept (zab (KG G) w.heap.size) W W'→I G pre W'→Ax x a' W'→K' a' W') →
    assign.wpIn (Wd (some l)) n P (Exit.then K' (fun _ _ _=>False)) { tmps:=(ps.zip av).foldl (fun t (p,v)=>t.setIfInBounds p v) a.tmps,defers:=[] } W)
  (hbody:∀ (G:Nat→Prop) (l:Nat) (pre:List α) (x:α) (post:List α) (a':Act) (W:World),xs=pre++x::post→w.heap.size≤l→(∃ r,W.heap[l]?=some (.loop r))→I G pre W→w.heap.size≤W.heap.size→Ax x a' W →
    body.wpIn (Wd (some l)) n P (zvf (zab (KG G) w.heap.size) (fun W'=>∃ G',(∀ k,G' k→G k∨W.heap.size≤k)∧I G' (pre++[x]) W') W) a' W)
  (hdone:∀ G D W,pn=none→w.heap.size≤D→I G xs W→W.heap[D]?=some (.deferred (some []))→Q .normal { a with defers:={ target:=.collected D,args:=#[] }::a.defers } W)
  (hpan:∀ G D c W,pn=some c→w.heap.size≤D→I G xs W→W.heap[D]?=some (.deferred (some []))→Q (.panic c) { a with defers:={ target:=.collected D,args:=#[] }::a.defers } W) :
  (Code.rangeFunc g ps assign body).wpIn (Wd none) n P Q a w:=by
 refine wpIn_rangeFunc ?_
 intro fn _
 obtain ⟨rec,hrec⟩:∃ rec:LoopState→Option Code→Loop,rec=fun st pe=>{ state:=st,pending:=pe,fn,tmps:=a.tmps,params:=ps,assign,body,defers:=w.heap.size }:=⟨_,rfl⟩
 obtain ⟨W1,hW1⟩:∃ W1,(w.alloc (.deferred (some []))).alloc (.loop { state:=.ready,pending:=none,fn,tmps:=a.tmps,params:=ps,assign,body,defers:=w.heap.size })=W1:=⟨_,rfl⟩
 have hb1:Below w.heap.size w W1:=by rw[←hW1];exact ((Below.refl _ w).alloc (Nat.le_refl _) _).alloc (by simp) _
 have hs1:W1.heap.size=w.heap.size+2:=by rw[←hW1];simp
 have hL1:W1.heap[w.heap.size+1]?=some (.loop { state:=.ready,pending:=none,fn,tmps:=a.tmps,params:=ps,assign,body,defers:=w.heap.size }):=by
  rw[←hW1];have:=World.alloc_heap_new (w.alloc (.deferred (some []))) (.loop { state:=.ready,pending:=none,fn,tmps:=a.tmps,params:=ps,assign,body,defers:=w.heap.size });rwa [World.size_alloc] at this
 have hK1:W1.heap[w.heap.size]?=some (.deferred (some [])):=by
  rw[←hW1];exact (Below.heap_alloc _ _ _ (by simp)).trans (World.alloc_heap_new w _)
 have hm1:Moves (zab M w.heap.size) w W1:=by rw[←hW1];exact (Moves.refl.alloc _).alloc _
 have henter:(Instr.enterLoop fn a.tmps ps assign body none).run P w=.ok (w.heap.size+1,[{ target:=.collected w.heap.size,args:=#[] }]) W1:=by
  rw[←hW1];exact run_enterLoop_outer _ _ _ _ _
 have hL1':W1.heap[w.heap.size+1]?=some (.loop (rec .ready none)):=by rw[hrec];exact hL1
 obtain ⟨l,hl⟩:∃ l,w.heap.size+1=l:=⟨_,rfl⟩;rw[hl] at hL1 hL1' henter
 have hl0:w.heap.size≤l:=by omega
 obtain ⟨X,hXd⟩:∃ X:World→Prop,X=fun W=>W.heap[w.heap.size]?=some (.deferred (some [])):=⟨_,rfl⟩
 have hX:∀ A B,X A→(∀ k o,A.heap[k]?=some o→w.heap.size≤k→k<W1.heap.size→k≠l→o.isCells=false→B.heap[k]?=some o)→X B:=by
  subst hXd;intro A B hx hk
  exact hk _ _ hx (Nat.le_refl _) (by omega) (by omega) rfl
 have hX1:X W1:=by rw[hXd];exact hK1
 have hXo:∀ W,X W→W.heap[w.heap.size]?=some (.deferred (some [])):=by rw[hXd];exact fun _ h=>h
 clear hXd
 have hKc:∀ (G:Nat→Prop) k o,KG G k o→∀ r,o≠.loop r:=fun G k o h r e=>by rw[e] at h;cases h.1
 -- the record's own turns
 have put:∀ (A:World) (o o':Obj),A.heap[l]?=some o→o.isCells=false→Moves (zab (fun _ _=>False) w.heap.size) A (A.putObj l o'):=fun A o o' ho hc =>
  Moves.refl.putObj (fun o₁ h₁=>by rw[ho] at h₁;cases h₁;exact .inr ⟨hl0,hc⟩) o'
 have zbL:∀ G s A o o',I G s A→A.heap[l]?=some o→o.isCells=false→I G s (A.putObj l o'):=fun G s A o o' hi ho hc =>
  hI G s _ _ hi ((put A o o' ho hc).weaken (fun k o h=>by rcases h with h | h;exact h.elim;exact .inr h))
 have hlt1:l<W1.heap.size:=(Array.getElem?_eq_some_iff.1 hL1').1
 have putX:∀ A o',X A→X (A.putObj l o'):=fun A o' hx=>hX A _ hx (fun k o hk _ _ hne _=>(World.putObj_heap_other hne).trans hk)
 have keepX:∀ {K':Nat→Obj→Prop} (A B:World),X A→Kept (zab K' w.heap.size) A B→X B:=fun A B hx hk =>
  hX A B hx (fun k o ho hn _ _ hc=>hk.same k o ho (.inr ⟨hn,hc⟩))
 have moveO:∀ (A B:World) (k:Nat) (o:Obj),A.heap[k]?=some o→k<W1.heap.size→o.isCells=false→Moves (zab M W1.heap.size) A B→B.heap[k]?=some o:=fun A B k o ho hk hc hm =>
  hm.same k o ho (fun h=>by
   rcases h with h | h
   ·have:=hMc k o h;rw[hc] at this;cases this
   ·omega)
 have moveX:∀ (A B:World),X A→Moves (zab M W1.heap.size) A B→X B:=fun A B hx hm =>
  hX A B hx (fun k o ho _ hlt _ hc=>moveO A B k o ho hlt hc hm)
 have moveI:∀ (A B:World),Moves (zab M W1.heap.size) A B→Moves (zab M w.heap.size) A B:=fun A B hm =>
  hm.weaken (fun k o h=>by rcases h with h | h;exact .inl h;exact .inr ⟨by omega,h.2⟩)
 refine ⟨l,[{ target:=.collected w.heap.size,args:=#[] }],W1,{ target:=.fn (.func gf) lb,args:=#[.func (.yield l) #[] #[]] },W1,gf,#[.func (.yield l) #[] #[]]++lb,W1,henter,?_,fun _ _=>trivial,?_,fun h=>by simp[Fence.wide] at h,?_⟩
 ·simp only[resolve,hg]
  simp[go_sem]
 ·simp[invoke,go_sem,eg]
 ·refine callsIn_wd.2 ?_
  refine (hseq W1 hb1 hs1 l
   (fun G pre W=>I G pre W∧W.heap[l]?=some (.loop (rec .ready none))∧X W)
   (fun G s A B hs hm=>⟨hI G s A B hs.1 (moveI A B hm),moveO A B l _ hs.2.1 hlt1 rfl hm,moveX A B hs.2.2 hm⟩)
   (fun G s A hs k hk=>hbd G s A hs.1 k hk)
   ?_ G0 hG0 ⟨hI _ _ _ _ h0 hm1,hL1',hX1⟩).mono ?_
  · -- ONE ROUND
   rintro G pre x post hxs W av ⟨hi,hlr,hx⟩ hsz hrp;have hy:=run_yield (P:=P) (args:=av) hlr (by rw[hrec];exact hps x av W hrp);rw[hrec] at hy
   refine ⟨fn,_,assign,body,hy,?_⟩
   clear hy
   have rd:=roundIn_of_wpIn (F:=Wd (some l)) (n:=n) (P:=P) (l:=l) (f:=fn) (w:=W) (assign:=assign) (body:=body) (tmps:=(ps.zip av).foldl (fun t (p,v)=>t.setIfInBounds p v) a.tmps)
    (R:=fun e W'=>e=.returned (.bool true)∧Kept (zab (KG G) W1.heap.size) W W'∧∃ G',(∀ k,G' k→G k∨W.heap.size≤k)∧I G' (pre++[x]) W'∧W'.heap[l]?=some (.loop (rec .ready none))∧X W')
    trivial (hassign G l pre x post W av _ hxs hi (by omega) hrp ?_)
   ·exact ⟨trivial,fun c cs _=>rd.2 c cs (room_wide _)⟩
   ·intro a' Wa hka hia hax
    have hla:=hka.same l _ hlr (.inr ⟨hl0,rfl⟩);have hxa:=keepX W Wa hx hka
    have hlta:l<Wa.heap.size:=(Array.getElem?_eq_some_iff.1 hla).1
    refine ⟨_,run_beginRound hla (by rw[hrec]),?_⟩
    have hl2:(Wa.putObj l (.loop { rec .ready none with state:=.busy })).heap[l]?=some (.loop { rec .ready none with state:=.busy }):=World.putObj_heap_same hlta
    refine wpIn_mono (hbody G l pre x post a' _ hxs hl0 ⟨_,hl2⟩ (zbL _ _ _ _ _ hia hla rfl) (by simp;have:=hka.size;omega) (hAx x a' _ _ hax (put _ _ _ hla rfl))) ?_
    rintro e a3 W3 hp
    cases e with
    | normal =>
     obtain ⟨hk3,G',hG',hi3⟩:=hp;have hl3:=hk3.same l _ hl2 (.inr ⟨hl0,rfl⟩);have hrun:=run_endRound (P:=P) none hl3;rw[hrec] at hrun
     refine ⟨_,_,hrun,rfl,⟨?_,?_⟩,G',fun k hk=>?_,?_,?_,?_⟩
     ·have h1:=hka.size;have h2:=hk3.size;simp at h2 ⊢;omega
     ·intro k o hk hK
      have hKw:zab (KG G) w.heap.size k o:=by
       rcases hK with h | h
       ·exact .inl h
       ·exact .inr ⟨by omega,h.2⟩
      by_cases e:k=l
      ·subst e
       rw[hlr] at hk;cases hk
       rcases hK with h | h
       ·exact absurd rfl (hKc _ _ _ h _)
       ·omega
      ·have h1:=hka.same k o hk hKw
       have h2:=hk3.same k o ((World.putObj_heap_other e).trans h1) hKw
       exact (World.putObj_heap_other e).trans h2
     ·rcases hG' k hk with h | h
      ·exact .inl h
      ·right
       have:=hka.size
       simp at h
       omega
     ·have:=zbL _ _ _ _ (.loop (rec .ready none)) hi3 hl3 rfl
      rw[hrec] at this
      exact this
     ·have:=World.putObj_heap_same (o:=.loop (rec .ready none)) (Array.getElem?_eq_some_iff.1 hl3).1
      rw[hrec] at this ⊢
      exact this
     ·exact putX _ _ (keepX _ _ (putX _ _ hxa) hk3)
    | ret=>exact hp.elim
    | exit id=>exact hp.elim
    | goto t=>exact hp.elim
    | panic ch=>exact hp.elim
    | outgrown=>exact hp.elim
  · -- BEHIND THE ITERATOR
   rintro e W2 ⟨G,⟨hi,hl2,hx⟩,(⟨hpn,v,rfl⟩ | ⟨c,hpn,rfl⟩)⟩
   ·exact ⟨none,_,by have:=run_endLoop (P:=P) hl2 (by rw[hrec];simp);rw[hrec] at this;exact this,hdone G _ _ hpn (Nat.le_refl _) (zbL _ _ _ _ _ hi hl2 rfl) (hXo _ (putX _ _ hx))⟩
   ·exact hpan G _ c _ hpn (Nat.le_refl _) hi (hXo _ hx)
end Go.Mv
