/- Merged -/
import Derived.Test.YteggfecbjgbndaaGreatDoorZw1
import Derived.OrdersIn
import Derived.TacticsIn
import Derived.RangeFuncCalls
import Derived.Laws.Rows
import Derived.OrdersHeld
set_option linter.all false
set_option maxHeartbeats 8000000
set_option maxRecDepth 100000
open Option renaming some→B,none→D
open Go.Value renaming slice→E
open Go.Region renaming wanted→P0,ready→P1,binds→P2,Mode→P3,noSelect→P4,free→P5
open Go.Oper renaming semAt_none→P6,uponIn→P7,wpIn→P8
open Array renaming getElem?_eq_some_iff→P9,getElem?_eq_none→Pa,range→Pb,replicate→Pc
open Go.Sem renaming run_bind→Pd,run_pure→Pe
open List renaming all_eq_true→Pf,length_take→Pg,range→Ph
open Bool renaming and_eq_true→Pi
open Go.Instr renaming fill→Pj,buildSlice→Pk,loadAt→Pl
namespace Go.Mv
open Go.RowKit
theorem mcRounda0 {P:Prop} (h:P:=by
 have hi:=zha H4
 refine wpAnyIn_all hr (by simp) (fun j hj=>?_)
 have e:j=i:=by simpa using hj
 subst e;unfold wpOpIn
 have Hk:∀ f,o.about P w a.eval=B f→F.fn f:=fun f hf=>by rw[H3] at hf;cases hf
 have hw:P0 o (yielded ops a.tmps)=true:=by simp[P0,hg]
 simp only[hi,hw,if_true,P8,H2,P6,H1,P7]
 exact ⟨Hk,h⟩):P:=h
section
variable {F:Fence} {n:Nat} {P:Program} {ops:Array Oper} {Q:Exit→Act→World→Prop} {md:P3}
def ziq (ops:Array Oper):Bool:=ops.all fun o=>match o.op with | .defer _=>false | _=>true
theorem zml (h:ziq ops=true) {j:Nat} {o:Oper} (ho:ops[j]?=B o) (c:Call):o.op≠.defer c:=by
 intro Hm
 have:=Array.all_eq_true_iff_forall_mem.1 h o (Array.mem_of_getElem? ho)
 simp[Hm] at this
theorem zm9 (l:Nat) (hd:ziq ops=true) (H2:F.round=none) {i:Nat} {K:Act→World→Prop} {a:Act} {w:World} (h:wpOpIn F n P ops Q i K a w):wpOpIn (F.inRound l) n P ops Q i K a w:=by
 unfold wpOpIn at *
 cases ho:ops[i]? with
 | none=>simpa [ho] using h
 | some o =>
  simp only[ho] at h ⊢
  split
  ·rename_i hw
   simp only[hw,if_true] at h
   unfold P8 at *
   refine ⟨h.1,?_⟩
   have h:=h.2;rw[H2,P6] at h;rw[Fence.inRound_round,Oper.semAt_some l _ o (zml hd ho)]
   exact h
  ·rename_i hw
   simp only[hw] at h
   exact h
theorem zlu (l:Nat) (hd:ziq ops=true) (H2:F.round=none):∀ (fuel:Nat) (H0:Array Bool) (a:Act) (w:World),wpAnyIn F n P md ops Q fuel H0 a w→wpAnyIn (F.inRound l) n P md ops Q fuel H0 a w:=by
 intro fuel
 induction fuel with
 | zero=>intro H0 a w h;exact h
 | succ fuel ih =>
  intro H0 a w h
  exact ⟨h.1,fun i hi=>zm9 l hd H2 (wpOpIn_mono (fun a w=>ih _ a w) (h.2 i hi))⟩
def NoP (Q:Exit→Act→World→Prop):Exit→Act→World→Prop
 | .panic _,_,_=>False
 | e,a,w=>Q e a w
theorem NoP.imp {Q:Exit→Act→World→Prop} (e:Exit) (a:Act) (w:World) (h:NoP Q e a w):Q e a w:=by
 cases e <;> first | exact h | exact h.elim
theorem zeV {l id:Nat} {a:Act} {w:World} (hm:P.follows .mixedOrders=true) (hd:ziq ops=true)
  (h:wpAnyIn (Wd none) n P .any ops (NoP Q) ops.size (Pc ops.size false) a w.drew):(Code.region id ops true).wpIn (Wd (some l)) n P Q a w :=
 wpIn_mono (wpIn_region_any (F:=(Wd none).inRound l) hm (zlu l hd rfl _ _ _ _ h)) NoP.imp
theorem zea {Q:Exit→Act→World→Prop} {a:Act} {w:World} (h:Q .normal a w):NoP Q .normal a w:=h
theorem ztb {fn:Func} {tmps:Array Value} {R:Ending→World→Prop} {W:World} (v:Value) (Hp:(results fn tmps).run P W=.ok v W) (hR:R (.returned v) W):bodyPostM (Wd none) n P fn R .ret ⟨tmps,[]⟩ W:=⟨v,Hp,hR⟩
theorem zpm {c:Code} {tm:Array Value} {ds:List Deferred} {W:World} (h:∀ T:Array Value,T=tm→c.wpIn F n P Q ⟨T,ds⟩ W):c.wpIn F n P Q ⟨tm,ds⟩ W:=h tm rfl
def Read4 (p q r s:Addr×Value) (W:World):Prop:=W.cell? p.1=B p.2∧W.cell? q.1=B q.2∧W.cell? r.1=B r.2∧W.cell? s.1=B s.2
theorem zeZ {W:World} {p:Addr} {v:Value} (h:W.cell? p=B v) (o:Obj):(W.alloc o).cell? p=B v :=
 (Below.cell ((Below.refl W.heap.size W).alloc (xN _) o) (World.block_lt_of_cell? W p h)).trans h
theorem Read4.alloc {p q r s:Addr×Value} {W:World} (h:Read4 p q r s W) (o:Obj):Read4 p q r s (W.alloc o):=⟨zeZ h.1 o,zeZ h.2.1 o,zeZ h.2.2.1 o,zeZ h.2.2.2 o⟩
theorem zdo (n:Nat) (T:Array Value) (h:T.size=n):T=((Ph n).map fun i=>T.getD i undef).toArray:=by
 apply Array.ext
 ·simp[h]
 ·intro i h1 h2
  simp[h1]
theorem zha {i:Nat} {oi:Oper} (h:ops.toList[i]?=B oi):ops[i]?=B oi:=by simpa using h
def YieldsC (P:Program) (ops:Array Oper) (C:World→Prop) (o:Oper) (v:Value) (a:Act):Prop :=
 P0 o (yielded ops a.tmps)=true∧(∀ w,C w→(execOp a.eval o).run P w=.ok (.value v) w)∧∀ w,o.about P w a.eval=none
def zjo (P:Program) (C:World→Prop) (o:Oper):Prop:=∀ (ρ:Operand→Value) (w:World),C w→∀ r w',(execOp ρ o).run P w=.ok r w'→(∃ v,r=.value v)∧C w'
theorem YieldsC.wpOpIn {C:World→Prop} {i:Nat} {o:Oper} {v:Value} {a:Act} (H2:F.round=none) (hi:ops[i]?=B o) (hy:YieldsC P ops C o v a)
  {K:Act→World→Prop} {w:World} (hC:C w) (h:K (a.put o.dst v) w):wpOpIn F n P ops Q i K a w:=by
 unfold Go.wpOpIn;obtain ⟨h1,h2,h3⟩:=hy
 have H3:∀ f,o.about P w a.eval=B f→F.fn f:=fun f hf=>by rw[h3 w] at hf;cases hf
 simp only[hi,h1,if_true,P8,H2,P6,h2 w hC,P7]
 exact ⟨H3,h⟩
theorem YieldsC.of_same {C:World→Prop} {o:Oper} {v:Value} {a a':Act} (hy:YieldsC P ops C o v a) (he:execOp a'.eval o=execOp a.eval o)
  (hw:P0 o (yielded ops a'.tmps)=P0 o (yielded ops a.tmps)) (hb:∀ w,o.about P w a'.eval=o.about P w a.eval):YieldsC P ops C o v a' :=
 ⟨hw.trans hy.1,fun w h=>by rw[he];exact hy.2.1 w h,fun w=>by rw[hb w];exact hy.2.2 w⟩
theorem zoa {C:World→Prop} {j:Nat} {oi oj:Oper} {v:Value} (H2:F.round=none) (hj:ops[j]?=B oj) (Hl:oi.apart ops oj=true)
  (HB:∀ cs b,oi.op≠.select cs b) (HD:∀ cs b,oj.op≠.select cs b) (Hd:zjo P C oj)
  (hQ:∀ c a w,Q (.panic c) (a.put oi.dst v) w→Q (.panic c) a w) {K:Act→World→Prop} {a:Act} {w:World} (hC:C w)
  (hy:YieldsC P ops C oi v a) (h:wpOpIn F n P ops Q j K (a.put oi.dst v) w) :
  wpOpIn F n P ops Q j (fun a' w'=>(YieldsC P ops C oi v a'∧C w')∧K (a'.put oi.dst v) w') a w:=by
 obtain ⟨h1,h2,h3⟩:=Oper.apart_spec Hl
 have keep:∀ (a:Act),YieldsC P ops C oi v a→∀ u,YieldsC P ops C oi v (a.put oj.dst u):=fun a hy u =>
  hy.of_same (execOp_put oi HB a oj.dst u h3) (wanted_put oi a oj.dst u h3) (fun w=>about_put oi w a oj.dst u h3)
 unfold wpOpIn at *
 simp only[hj] at *
 rw[wanted_put oj a oi.dst v h1,about_put oj w a oi.dst v h1] at h
 split
 ·rename_i hw
  simp only[hw,if_true] at h
  unfold P8 at *
  rw[about_put oj w a oi.dst v h1] at h
  refine ⟨h.1,?_⟩
  have h:=h.2;rw[H2,P6,execOp_put oj HD a oi.dst v h1] at h;rw[H2,P6];have hk:=Hd a.eval w hC
  generalize (execOp a.eval oj).run P w=r at *
  cases r with
  | ok x w' =>
   obtain ⟨⟨u,rfl⟩,Hu⟩:=hk _ _ rfl
   simp only[P7] at h ⊢
   exact ⟨⟨keep a hy u,Hu⟩,by rw[←Act.put_comm a v u h2];exact h⟩
  | halt x w' =>
   cases x <;> simp only[P7] at h ⊢
   case panic u=>exact hQ _ _ _ h
 ·rename_i hw
  simp only[hw] at h
  exact ⟨h.1,⟨keep a hy _,hC⟩,by rw[←Act.put_comm a v undef h2];exact h.2⟩
def zlG (md:P3) (ops:Array Oper) (i:Nat) (tl:List Nat):Bool :=
 tl.all fun j=>match ops[j]? with
  | some oj=>oj.after.any fun e=>P2 md e&&(e.on==i||tl.contains e.on)
  | none=>false
theorem zrO {i:Nat} {tl:List Nat} {H0:Array Bool} (ht:zlG md ops i tl=true) (hi:H0.getD i true=false) (hl:∀ k∈tl,H0.getD k true=false) {j:Nat} (hj:j∈P1 md ops H0):j ∉ tl:=by
 intro Hh;obtain ⟨Ha,oj,Hf,H8⟩:=mem_ready.1 hj;simp only[zlG,Pf] at ht;have h1:=ht j Hh;simp only[Hf] at h1;obtain ⟨e,he,hb⟩:=Array.any_eq_true'.1 h1;simp only[Pi,Bool.or_eq_true,beq_iff_eq,List.contains_iff_mem] at hb;have h2:=H8 e he hb.1
 have Hc:∀ k,H0.getD k true=false→H0.getD k false=true→False:=by
  intro k a b
  rcases Nat.lt_or_ge k H0.size with h' | h'
  ·simp[h'] at a b;rw[a] at b;cases b
  ·simp[Pa h'] at b
 rcases hb.2 with h | h
 ·rw[h] at h2;exact Hc _ hi h2
 ·exact Hc _ (hl _ h) h2
theorem zkq {C:World→Prop} {i:Nat} {oi:Oper} {v:Value} (tl:List Nat) (ht:zlG md ops i tl=true) (H2:F.round=none) (hi:ops[i]?=B oi) (Hg:∀ (j:Nat) (o:Oper) cs b,ops[j]?=B o→o.op≠.select cs b)
  (hQ:∀ c a w,Q (.panic c) (a.put oi.dst v) w→Q (.panic c) a w) :
  ∀ (fuel:Nat) (H0:Array Bool) (a:Act) (w:World),(∀ k∈tl,H0.getD k true=false) →
   (∀ j oj,ops[j]?=B oj→j≠i→j ∉ tl→H0.getD j true=false→(∀ e∈oj.after,P2 md e=true→e.on≠i)→oi.apart ops oj=true∧zjo P C oj) →
   i∈P1 md ops H0→C w→YieldsC P ops C oi v a →
   wpAnyIn F n P md ops Q fuel (H0.setIfInBounds i true) (a.put oi.dst v) w→wpAnyIn F n P md ops Q (fuel+1) H0 a w:=by
 intro fuel
 induction fuel with
 | zero =>
  intro H0 a w _ _ hr hC hy H
  refine ⟨fun h=>(by rw[h] at hr;cases hr),fun j hj=>?_⟩
  by_cases hji:j=i
  ·subst hji;exact hy.wpOpIn H2 hi hC H
  ·have:=ready_mono hj hji
   rw[H.1] at this
   cases this
 | succ fuel ih =>
  intro H0 a w Ht H6 hr hC hy H
  refine ⟨fun h=>(by rw[h] at hr;cases hr),fun j hj=>?_⟩
  by_cases hji:j=i
  ·subst hji;exact hy.wpOpIn H2 hi hC H
  ·have h1:=H.2 j (ready_mono hj hji)
   have Hh:j ∉ tl:=zrO ht (mem_ready.1 hr).1 Ht hj
   obtain ⟨Ha,oj,Hf,H8⟩:=mem_ready.1 hj
   have Hn:∀ e∈oj.after,P2 md e=true→e.on≠i:=fun e he hb Hm=>by
    have h1:=H8 e he hb;have h0:=(mem_ready.1 hr).1;rw[Hm] at h1
    rcases Nat.lt_or_ge i H0.size with h' | h'
    ·simp[h'] at h0 h1;rw[h0] at h1;cases h1
    ·simp[Pa h'] at h1
   obtain ⟨Hl,Hy⟩:=H6 j oj Hf hji Hh Ha Hn
   have h2:=zoa H2 Hf Hl (fun cs b=>Hg i oi cs b hi) (fun cs b=>Hg j oj cs b Hf) Hy hQ hC hy h1
   have H9:∀ k ok,ops[k]?=B ok→k≠i→k ∉ tl→(H0.setIfInBounds j true).getD k true=false →
     (∀ e∈ok.after,P2 md e=true→e.on≠i)→oi.apart ops ok=true∧zjo P C ok:=fun k ok hk Hx Hz Hb Hc=>by
    refine H6 k ok hk Hx Hz ?_ Hc
    by_cases hjk:j=k
    ·subst hjk;exact Ha
    ·rw[getD_set_ne true hjk] at Hb;exact Hb
   have Hq:∀ k∈tl,(H0.setIfInBounds j true).getD k true=false:=fun k hk=>by
    have H5:j≠k:=fun e=>Hh (by rw[e];exact hk)
    rw[getD_set_ne true H5];exact Ht k hk
   refine wpOpIn_mono (fun a' w' h3=>ih (H0.setIfInBounds j true) a' w' Hq H9 (ready_mono hr (Ne.symm hji)) h3.1.2 h3.1.1 ?_) h2
   rw[Array.setIfInBounds_comm _ _ hji]
   exact h3.2
def SameW {α:Type} (P:Program) (s:Sem α):Prop:=∀ w r w',s.run P w=.ok r w'→w'=w
def zdP {α:Type} (P:Program) (s:Sem α):Prop:=∀ w r w',s.run P w=.ok r w'→w'=w∨∃ o,w'=w.alloc o
theorem zck {α β:Type} {s:Sem α} {f:α→Sem β} (h1:SameW P s) (h2:∀ a,SameW P (f a)):SameW P (s >>= f):=by
 intro w r w' h;rw[Pd] at h
 cases hs:s.run P w with
 | ok a w1 =>
  rw[hs] at h;rw[h1 _ _ _ hs] at h
  exact h2 a _ _ _ h
 | halt x w1=>rw[hs] at h;cases h
theorem zd1 {α β:Type} {s:Sem α} {f:α→Sem β} (h1:SameW P s) (h2:∀ a,zdP P (f a)):zdP P (s >>= f):=by
 intro w r w' h;rw[Pd] at h
 cases hs:s.run P w with
 | ok a w1 =>
  rw[hs] at h;rw[h1 _ _ _ hs] at h
  exact h2 a _ _ _ h
 | halt x w1=>rw[hs] at h;cases h
theorem zpo {α β:Type} {s:Sem α} {f:α→Sem β} (h1:zdP P s) (h2:∀ a,SameW P (f a)):zdP P (s >>= f):=by
 intro w r w' h;rw[Pd] at h
 cases hs:s.run P w with
 | ok a w1 =>
  rw[hs] at h
  have:=h2 a _ _ _ h
  subst this
  exact h1 _ _ _ hs
 | halt x w1=>rw[hs] at h;cases h
theorem zb7 {α:Type} (a:α):SameW P (pure a:Sem α):=by
 intro w r w' h;rw[Pe] at h
 cases h;rfl
theorem SameW.grow {α:Type} {s:Sem α} (h:SameW P s):zdP P s:=fun w r w' h'=>.inl (h w r w' h')
theorem zkU (a:Addr) (m:Mode):SameW P (load a m):=by
 intro w r w' h;rw[run_load] at h
 split at h
 ·cases h;rfl
 ·split at h <;> cases h <;> rfl
theorem zee {α:Type} (m:String):SameW P (stuck m:Sem α):=by
 intro w r w' h
 simp[go_sem] at h
theorem zh3:SameW P program:=by
 intro w r w' h
 simp[go_sem] at h
 exact h.2.symm
theorem zhs (t:TypeId):SameW P (typeInfo t):=by
 unfold typeInfo
 refine zck zh3 (fun p=>?_)
 split
 ·exact zb7 _
 ·exact zee _
theorem zf4 (t:TypeId):SameW P (underlying t):=by
 unfold underlying
 refine zck zh3 (fun p=>?_)
 split
 ·exact zb7 _
 ·exact zee _
theorem ziS (t:TypeId):SameW P (sizeOf t):=by unfold sizeOf;exact zck (zhs t) (fun _=>zb7 _)
theorem zpW (t:TypeId):SameW P (isAgg t):=by
 unfold isAgg
 refine zck (zf4 t) (fun d=>?_)
 split <;> exact zb7 _
theorem zh2 (a:Addr) (n:Nat):∀ (i:Nat) (Hj:Array Value),SameW P (loadCellsFrom a i n Hj):=by
 induction n with
 | zero=>intro i Hj;exact zb7 _
 | succ n ih=>intro i Hj;exact zck (zkU _ _) (fun v=>ih _ _)
theorem zmK (t:TypeId) (a:Addr):SameW P (loadVar t a):=by
 unfold loadVar
 refine zck (zpW t) (fun b=>?_)
 cases b
 ·exact zkU _ _
 ·exact zck (ziS t) (fun n=>zck (zh2 _ _ _ _) (fun _=>zb7 _))
theorem znZ (t:TypeId) (v:Value):SameW P (Pl t v):=by
 unfold Pl
 refine zck ?_ (fun a=>zmK t a)
 unfold Instr.sureAddr
 split
 ·exact zb7 _
 ·exact zee _
def zjA (o:Oper):Bool :=
 match o.op with
 | .move _=>true
 | .load _ _=>true
 | .buildSlice _ _ _=>true
 | _=>false
def zfq (ops:Array Oper) (H0:Array Bool) (i:Nat) (tl:List Nat):Bool :=
 tl.all (fun k=>!H0.getD k true)&&(Ph ops.size).all fun j=>j==i||tl.contains j||H0.getD j true||match ops[j]? with
   | some oj=>zjA oj
   | none=>true
theorem zlg {i:Nat} {tl:List Nat} {H0:Array Bool} (h:zfq ops H0 i tl=true) (j:Nat) (oj:Oper)
  (hj:ops[j]?=B oj) (H5:j≠i) (Ho:j ∉ tl) (Hb:H0.getD j true=false):zjA oj=true:=by
 simp only[zfq,Pi,Pf,List.mem_range] at h;have h1:=h.2 j (P9.1 hj).1
 simpa [hj,H5,Ho,Hb] using h1
theorem znr {i:Nat} {tl:List Nat} {H0:Array Bool} (h:zfq ops H0 i tl=true):∀ k∈tl,H0.getD k true=false:=by
 simp only[zfq,Pi,Pf] at h;intro k hk
 simpa using h.1 k hk
theorem zra (t:TypeId):SameW P (zeroValue t):=by
 unfold zeroValue
 refine zck (zhs t) (fun i=>?_)
 split
 ·exact zb7 _
 ·intro w r w' h
  simp[go_sem] at h
theorem znA (t:TypeId) (cs:Array Value):zdP P (newRow t cs):=by
 intro w r w' h
 simp[newRow,go_sem] at h
 exact .inr ⟨_,h.2.symm⟩
theorem zsJ {α:Type} {c:Prop} [Decidable c] {s t:Sem α} (h1:zdP P s) (h2:zdP P t):zdP P (if c then s else t):=by split <;> assumption
theorem zjK (t:TypeId) (n:Nat) (ps:Array (Nat×Value)):zdP P (Pk t n ps):=by
 unfold Pk
 refine zd1 (zf4 t) (fun d=>?_)
 split
 ·refine zd1 (ziS _) (fun size=>?_)
  have hu:∀ {α:Type} (u:Unsupported),SameW P (unsupported u:Sem α):=by
   intro α u w r w' h
   simp[go_sem] at h
  have H7:∀ (zero:Array Value) (e:TypeId),zdP P (do
    let some cells:=Pj (fun i=>some (i*size,size)) ((Pb (n*size)).map (zero[· % zero.size]!)) ps.toList | stuck "buildSlice: a part of the wrong size"
    pure (Value.slice (some (←newRow e cells)) n n)):=by
   intro zero e
   split
   ·exact zpo (znA _ _) (fun _=>zb7 _)
   ·exact (zee _).grow
  rename_i elem
  have He:zdP P (if n*size=0 then (do
    let zero ←(pure #[]:Sem (Array Value))
    match Pj (fun i=>some (i*size,size)) ((Pb (n*size)).map (zero[· % zero.size]!)) ps.toList with
     | some cells=>do
      let a ←newRow elem cells
      pure (Value.slice (some a) n n)
     | _=>stuck "buildSlice: a part of the wrong size")
   else (do
    let v ←zeroValue elem
    let zero ←(pure v.cells:Sem (Array Value))
    match Pj (fun i=>some (i*size,size)) ((Pb (n*size)).map (zero[· % zero.size]!)) ps.toList with
     | some cells=>do
      let a ←newRow elem cells
      pure (Value.slice (some a) n n)
     | _=>stuck "buildSlice: a part of the wrong size")):=by
   split
   ·exact zd1 (zb7 _) (fun z=>H7 z elem)
   ·exact zd1 (zra _) (fun v=>zd1 (zb7 _) (fun z=>H7 z elem))
  exact zsJ (zd1 (hu _) (fun _=>He)) He
 ·exact (zee _).grow
theorem zm1 {s:Sem Value} {w w':World} {r:Next} (h:(do pure (Next.value (←s)):Sem Next).run P w=.ok r w'):∃ v,r=.value v∧s.run P w=.ok v w':=by
 rw[Pd] at h
 cases hs:s.run P w with
 | ok a w1=>rw[hs] at h;cases h;exact ⟨a,rfl,rfl⟩
 | halt x w1=>rw[hs] at h;cases h
theorem zo8 {C:World→Prop} (hC:∀ w o,C w→C (w.alloc o)) {o:Oper} (h:zjA o=true):zjo P C o:=by
 intro ρ w hw r w' hr;unfold zjA at h;unfold execOp at hr
 split at h
 ·rename_i x ho
  simp only[ho,Pe] at hr
  cases hr;exact ⟨⟨_,rfl⟩,hw⟩
 ·rename_i t x ho
  simp only[ho] at hr;obtain ⟨v,rfl,hs⟩:=zm1 hr;rw[znZ _ _ _ _ _ hs]
  exact ⟨⟨_,rfl⟩,hw⟩
 ·rename_i t n ps ho
  simp only[ho] at hr;obtain ⟨v,rfl,hs⟩:=zm1 hr
  refine ⟨⟨_,rfl⟩,?_⟩
  rcases zjK _ _ _ _ _ _ hs with rfl | ⟨o',rfl⟩
  ·exact hw
  ·exact hC _ _ hw
 ·cases h
theorem zlv (C:World→Prop) (tl:List Nat) {i:Nat} {oi:Oper} {v:Value} {fuel:Nat} {H0:Array Bool} {a:Act} {w:World} (H2:F.round=none) (hi:ops.toList[i]?=B oi)
  (hs:P4 ops=true) (hf:P5 md ops H0 i=true) (ht:zlG md ops i tl=true) (Hs:zfq ops H0 i tl=true) (hr:(P1 md ops H0).contains i=true)
  (hQ:∀ c a w,Q (.panic c) (a.put oi.dst v) w→Q (.panic c) a w) (Hv:∀ w o,C w→C (w.alloc o)) (hC:C w) (hy:YieldsC P ops C oi v a)
  (h:wpAnyIn F n P md ops Q fuel (H0.setIfInBounds i true) (a.put oi.dst v) w):wpAnyIn F n P md ops Q (fuel+1) H0 a w :=
 zkq tl ht H2 (zha hi) (Region.noSelect_spec hs) hQ fuel H0 a w (znr Hs) (fun j oj hj H5 Ho Hb Hc=>⟨Region.free_spec (zha hi) hf j oj hj H5 Hb Hc,zo8 Hv (zlg Hs j oj hj H5 Ho Hb)⟩) (by simpa using hr) hC hy h
theorem zlw {i:Nat} {oi:Oper} {v:Value} {fuel:Nat} {H0:Array Bool} {a:Act} {w:World} (H2:F.round=none) (hi:ops.toList[i]?=B oi)
  (hs:P4 ops=true) (hf:P5 md ops H0 i=true) (hr:(P1 md ops H0).contains i=true)
  (hQ:∀ c a w,Q (.panic c) (a.put oi.dst v) w→Q (.panic c) a w) (hy:YieldsFenced P ops oi v a)
  (h:wpAnyIn F n P md ops Q fuel (H0.setIfInBounds i true) (a.put oi.dst v) w):wpAnyIn F n P md ops Q (fuel+1) H0 a w :=
 wpAnyIn_take H2 (zha hi) hs hf hr hQ hy h
theorem zui {o:Oper} {v:Value} {a:Act} (hg:o.guard=none) (H1:∀ w,(execOp a.eval o).run P w=.ok (.value v) w) (H3:∀ w,o.about P w a.eval=none):YieldsFenced P ops o v a :=
 ⟨.inl ⟨by simp[P0,hg],H1⟩,H3⟩
theorem tkF (i:Nat) {oi:Oper} {v:Value} {fuel:Nat} {H0:Array Bool} {a:Act} {w:World}
  (h:wpAnyIn F n P md ops Q fuel (H0.setIfInBounds i true) (a.put oi.dst v) w) (hi:ops.toList[i]?=some oi:=by exact rfl) (H2:F.round=none:=by exact rfl) (hg:oi.guard=none:=by exact rfl) (H1:∀ w,(execOp a.eval oi).run P w=.ok (.value v) w:=by (intro w;go_simp;try with_reducible rfl)) (H3:∀ w,oi.about P w a.eval=none:=by exact fun w=>rfl) (hs:Region.noSelect ops=true:=by kernel_rfl) (hf:Region.free md ops H0 i=true:=by kernel_rfl) (hr:(Region.ready md ops H0).contains i=true:=by kernel_rfl)
  (hQ:∀ c a w,Q (.panic c) (a.put oi.dst v) w→Q (.panic c) a w:=by exact fun _ _ _ h=>h):wpAnyIn F n P md ops Q (fuel+1) H0 a w :=
 zlw H2 hi hs hf hr hQ (zui hg H1 H3) h
theorem zuh {C:World→Prop} {o:Oper} {v:Value} {a:Act} (hg:o.guard=none) (H1:∀ w,C w→(execOp a.eval o).run P w=.ok (.value v) w) (H3:∀ w,o.about P w a.eval=none):YieldsC P ops C o v a :=
 ⟨by simp[P0,hg],H1,H3⟩
theorem zn9 {i:Nat} {o:Oper} {v:Value} {fuel:Nat} {H0:Array Bool} {a:Act} {w w':World} (H2:F.round=none) (hr:P1 md ops H0=[i]) (H4:ops.toList[i]?=B o) (hg:o.guard=none)
  (H3:o.about P w a.eval=none) (H1:(execOp a.eval o).run P w=.ok (.value v) w') (h:wpAnyIn F n P md ops Q fuel (H0.setIfInBounds i true) (a.put o.dst v) w'):wpAnyIn F n P md ops Q (fuel+1) H0 a w:=by
 exact mcRounda0
theorem rnF (i:Nat) {o:Oper} {v:Value} {fuel:Nat} {H0:Array Bool} {a:Act} {w w':World} (h:wpAnyIn F n P md ops Q fuel (H0.setIfInBounds i true) (a.put o.dst v) w') (H4:ops.toList[i]?=some o:=by exact rfl) (H2:F.round=none:=by exact rfl) (hr:Region.ready md ops H0=[i]:=by kernel_rfl) (hg:o.guard=none:=by exact rfl)
  (H3:o.about P w a.eval=none:=by exact rfl) (H1:(execOp a.eval o).run P w=.ok (.value v) w':=by (go_simp;try (first | with_reducible rfl | (refine ⟨?_,?_⟩ <;> with_reducible rfl)))):wpAnyIn F n P md ops Q (fuel+1) H0 a w:=zn9 H2 hr H4 hg H3 H1 h
theorem zm3 {i:Nat} {o:Oper} {fuel:Nat} {H0:Array Bool} {a:Act} {w w':World} (H2:F.round=none) (hr:P1 md ops H0=[i]) (H4:ops.toList[i]?=B o) (hg:o.guard=none)
  (H3:o.about P w a.eval=none) (H1:(execOp a.eval o).run P w=.ok .skip w') (h:wpAnyIn F n P md ops Q fuel (H0.setIfInBounds i true) (a.put o.dst undef) w'):wpAnyIn F n P md ops Q (fuel+1) H0 a w:=by
 exact mcRounda0
theorem skF (i:Nat) {o:Oper} {fuel:Nat} {H0:Array Bool} {a:Act} {w w':World} (h:wpAnyIn F n P md ops Q fuel (H0.setIfInBounds i true) (a.put o.dst undef) w') (H4:ops.toList[i]?=some o:=by exact rfl) (H2:F.round=none:=by exact rfl) (hr:Region.ready md ops H0=[i]:=by kernel_rfl) (hg:o.guard=none:=by exact rfl)
  (H3:o.about P w a.eval=none:=by exact rfl) (H1:(execOp a.eval o).run P w=.ok .skip w':=by (go_simp;try (first | with_reducible rfl | (refine ⟨?_,?_⟩ <;> with_reducible rfl)))):wpAnyIn F n P md ops Q (fuel+1) H0 a w:=zm3 H2 hr H4 hg H3 H1 h
theorem zid {i:Nat} {o:Oper} {f:FuncId} {args:Array Value} {fuel:Nat} {H0:Array Bool} {a:Act} {w w':World} (hr:P1 md ops H0=[i]) (H4:ops.toList[i]?=B o) (hg:o.guard=none)
  (H1:(execOp a.eval o).run P w=.ok (.enter f args) w') (h:Calls P f args w' fun e w2=>∃ v,e=.returned v∧wpAnyIn (Wd none) n P md ops Q fuel (H0.setIfInBounds i true) (a.put o.dst v) w2):wpAnyIn (Wd none) n P md ops Q (fuel+1) H0 a w:=by
 have hi:=zha H4
 refine wpAnyIn_all hr (by simp) (fun j hj=>?_)
 have e:j=i:=by simpa using hj
 subst e;unfold wpOpIn
 have hw:P0 o (yielded ops a.tmps)=true:=by simp[P0,hg]
 simp only[hi,hw,if_true,P8,P6,H1,P7]
 refine ⟨fun _ _=>trivial,fun h=>by simp[Fence.wide] at h,(callsIn_wd.2 h).mono ?_⟩
 rintro e w2 ⟨v,rfl,h⟩
 exact h
end
open Go.RowKit
def Blk (W:World) (b:Nat) (t:TypeId) (cs:Array Value):Prop:=W.heap[b]?=B (.cells cs t (0,0))
section
variable {W W':World} {b:Nat} {t:TypeId} {cs:Array Value}
theorem Blk.lt (h:Blk W b t cs):b<W.heap.size:=(P9.1 h).1
theorem Blk.cell (h:Blk W b t cs) (k:Nat) {v:Value} (hv:cs[k]?=B v):W.cell? ⟨b,k,D⟩=B v:=by simp[World.cell?,show W.heap[b]?=_ from h,hv]
theorem Blk.frozen (h:Blk W b t cs) (k:Nat):W.frozen? ⟨b,k,D⟩=false:=by simp[World.frozen?,show W.heap[b]?=_ from h]
theorem Blk.new (W:World) (t:TypeId) (cs:Array Value):Blk (W.alloc (.cells cs t)) W.heap.size t cs:=World.alloc_heap_new W _
theorem Blk.kept {row:Option Nat} (h:Blk W b t cs) (hg:W.grownBy W' row) (H5:some b≠row):Blk W' b t cs:=(hg.block b h.lt H5).trans h
theorem Blk.ext (h:Blk W b t cs) (he:Ext W W'):Blk W' b t cs:=(he.block b h.lt).trans h
theorem Blk.alloc (h:Blk W b t cs) (o:Obj):Blk (W.alloc o) b t cs:=h.ext (xA (xR _) o)
theorem Blk.set (h:Blk W b t cs) (k:Nat) (u:Value):Blk (W.setCell ⟨b,k,D⟩ u) b t (cs.setIfInBounds k u):=by
 obtain ⟨HA,hk⟩:=P9.1 h
 show (W.heap.modify b _)[b]?=_
 rw[Array.getElem?_eq_getElem (by rw[Array.size_modify];exact HA),Array.getElem_modify_self,hk]
 rfl
theorem Blk.other (h:Blk W b t cs) {b':Nat} (H5:b≠b') (k:Nat) (u:Value):Blk (W.setCell ⟨b',k,D⟩ u) b t cs :=
 (Below.heap_setCell W ⟨b',k,D⟩ u b H5).trans h
theorem Blk.not_row (h:Blk W b t cs) {e:TypeId} (HE:t≠e) {base size k:Nat} {v:Value} {xs:List Value} (hr:W.ownsRow base e size v k xs):some b≠v.ownBlock:=by
 intro e';obtain ⟨HI,hc⟩:=zdS hr e'.symm
 rw[show W.heap[b]?=_ from h] at hc
 cases hc
 exact HE rfl
theorem Blk.load {P:Program} {ty:TypeId} {d:TypeDesc} (h:Blk W b t cs) (hu:P.underlying ty=B d) (hd:(match d with | .struct _ | .array _ _=>true | _=>false)=true) (hi:(P.info? ty).map (·.size)=B cs.size) :
  (loadVar ty ⟨b,0,D⟩).run P W=.ok (.agg cs) W:=run_loadVar_row W b t ty cs (0,0) d h hu hd hi
end
theorem zba {W:World} {b:Nat} {t:TypeId} {a v u:Value} (h:Blk W b t #[a,v,u]):W.cell? ⟨b,0,D⟩=B a∧W.cell? ⟨b,1,D⟩=B v∧W.cell? ⟨b,2,D⟩=B u∧W.frozen? ⟨b,0,D⟩=false∧W.frozen? ⟨b,1,D⟩=false∧W.frozen? ⟨b,2,D⟩=false :=
 ⟨h.cell 0 rfl,h.cell 1 rfl,h.cell 2 rfl,h.frozen 0,h.frozen 1,h.frozen 2⟩
theorem blk4 {W:World} {b:Nat} {t:TypeId} {a v u x:Value} (h:Blk W b t #[a,v,u,x]):W.cell? ⟨b,0,D⟩=B a∧W.cell? ⟨b,1,D⟩=B v∧W.cell? ⟨b,2,D⟩=B u∧W.cell? ⟨b,3,D⟩=B x∧W.frozen? ⟨b,0,D⟩=false∧W.frozen? ⟨b,1,D⟩=false∧W.frozen? ⟨b,2,D⟩=false∧W.frozen? ⟨b,3,D⟩=false :=
 ⟨h.cell 0 rfl,h.cell 1 rfl,h.cell 2 rfl,h.cell 3 rfl,h.frozen 0,h.frozen 1,h.frozen 2,h.frozen 3⟩
theorem zbL {W:World} {b:Nat} {t:TypeId} {a v u:Value} (h:Blk W b t #[a,v,u]) (a' v' u':Value):Blk (((W.setCell ⟨b,0,D⟩ a').setCell ⟨b,1,D⟩ v').setCell ⟨b,2,D⟩ u') b t #[a',v',u'] :=
 ((h.set 0 a').set 1 v').set 2 u'
theorem zad (W:World) (b k:Nat) (v:Value):W.grownBy (W.setCell ⟨b,k,D⟩ v) (some b) :=
 ⟨rfl,rfl,rfl,by simp[World.setCell],fun j _ hj=>Below.heap_setCell _ _ _ j (fun e=>hj (by rw[e]))⟩
theorem zdZ {W:World} {b:Nat} {t:TypeId} {cs:List Value} (h:Blk W b t cs.toArray) {n:Nat} (hn:cs.length=n) (hl:n≤maxLen):SlR W 1 (E (B ⟨b,0,D⟩) n n) n cs:=by
 refine ⟨by omega,_,n,rfl,xN _,hl,fun _=>⟨b,0,rfl,fun j u hu=>?_⟩⟩
 rw[Nat.zero_add]
 exact h.cell j (by simpa using hu)
theorem zbw {W W':World} {row:Option Nat} (hg:W.grownBy W' row) {p:Addr} {u:Value} (h:W.cell? p=B u) (hr:some p.block≠row):W'.cell? p=B u :=
 (World.cell?_of_block (hg.block p.block (World.block_lt_of_cell? W p h) hr)).trans h
theorem SlR.take1 {w:World} {A:Option Addr} {m c n:Nat} {xs:List Value} (h:SlR w 1 (E A m c) n xs) (k:Nat) (hk:k≤n):SlR w 1 (E A k c) k (xs.take k):=by
 obtain ⟨hl,A',c',e,h1,h2,h3⟩:=h
 cases e
 refine ⟨by rw[Pg,hl];omega,_,c,rfl,by omega,h2,fun hn=>?_⟩
 obtain ⟨b',Hr,e',hc⟩:=h3 (by omega)
 cases e'
 refine ⟨b',Hr,rfl,fun j u hu=>hc j u ?_⟩
 rw[List.getElem?_take] at hu
 split at hu
 ·exact hu
 ·cases hu
theorem Bs.take {w:World} {A:Option Addr} {m c:Nat} {bs:List UInt8} (h:Bs w (E A m c) bs) (k:Nat) (hk:k≤bs.length):Bs w (E A k c) (bs.take k):=by
 have:=SlR.take1 h k hk
 unfold Bs;rw[Pg,Nat.min_eq_left hk,List.map_take]
 exact this
theorem SlR.capd {w:World} {A:Option Addr} {m c c' size n:Nat} {xs:List Value} (h:SlR w size (E A m c) n xs) (h1:n≤c') (h2:c'≤9223372036854775807):SlR w size (E A m c') n xs:=by
 obtain ⟨hl,A',HH,e,_,_,h3⟩:=h
 cases e
 exact ⟨hl,A,c',rfl,h1,by simpa [maxLen] using h2,h3⟩
open Go.RowKit
section
variable {F:Fence} {n:Nat} {P:Program} {ops:Array Oper} {Q:Exit→Act→World→Prop} {md:P3}
theorem zie {i:Nat} {o:Oper} {fuel:Nat} {H0:Array Bool} {a:Act} {w:World} (H2:F.round=none) (hr:P1 md ops H0=[i]) (H4:ops.toList[i]?=B o) (hg:o.guard=none)
  (H3:∀ f,o.about P w a.eval=B f→F.fn f) (h:o.uponIn F n P a (fun a' w'=>wpAnyIn F n P md ops Q fuel (H0.setIfInBounds i true) a' w') Q ((execOp a.eval o).run P w)):wpAnyIn F n P md ops Q (fuel+1) H0 a w:=by
 have hi:=zha H4
 refine wpAnyIn_all hr (by simp) (fun j hj=>?_)
 have e:j=i:=by simpa using hj
 subst e;unfold wpOpIn
 have hw:P0 o (yielded ops a.tmps)=true:=by simp[P0,hg]
 simp only[hi,hw,if_true,P8,H2,P6]
 exact ⟨H3,h⟩
theorem zqj {i j:Nat} {oi oj:Oper} {vi:Value} {f:FuncId} {args:Array Value} {fuel:Nat} {H0:Array Bool} {a:Act} {w wi wj:World} (hr:P1 md ops H0=[i,j]) (H4:ops.toList[i]?=B oi) (Hw:ops.toList[j]?=B oj) (gi:oi.guard=none) (gj:oj.guard=none)
  (abi:oi.about P w a.eval=none) (runi:(execOp a.eval oi).run P w=.ok (.value vi) wi) (runj:(execOp a.eval oj).run P w=.ok (.enter f args) wj)
  (h1:wpAnyIn (Wd none) n P md ops Q fuel (H0.setIfInBounds i true) (a.put oi.dst vi) wi)
  (h2:Calls P f args wj fun e w2=>∃ v,e=.returned v∧wpAnyIn (Wd none) n P md ops Q fuel (H0.setIfInBounds j true) (a.put oj.dst v) w2):wpAnyIn (Wd none) n P md ops Q (fuel+1) H0 a w:=by
 have hi:=zha H4;have hj:=zha Hw
 refine wpAnyIn_all hr (by simp) (fun k hk=>?_)
 have Hi:∀ f,oi.about P w a.eval=B f→(Wd none).fn f:=fun f hf=>by rw[abi] at hf;cases hf
 have HF:P0 oi (yielded ops a.tmps)=true:=by simp[P0,gi]
 have HG:P0 oj (yielded ops a.tmps)=true:=by simp[P0,gj]
 rcases (by simpa using hk:k=i∨k=j) with rfl | rfl
 ·unfold wpOpIn
  simp only[hi,HF,if_true,P8,P6,runi,P7]
  exact ⟨Hi,h1⟩
 ·unfold wpOpIn
  simp only[hj,HG,if_true,P8,P6,runj,P7]
  refine ⟨fun _ _=>trivial,fun h=>by simp[Fence.wide] at h,(callsIn_wd.2 h2).mono ?_⟩
  rintro e w2 ⟨v,rfl,h⟩
  exact h
end
open Go.RowKit
section
variable {n:Nat} {P:Program} {ops:Array Oper} {Q:Exit→Act→World→Prop} {md:P3} {S:World→Prop}
def NoQ (Q:Exit→Act→World→Prop):Exit→Act→World→Prop
 | .normal,a,w=>Q .normal a w
 | _,_,_=>False
theorem NoQ.imp {Q:Exit→Act→World→Prop} (e:Exit) (a:Act) (w:World) (h:NoQ Q e a w):Q e a w:=by
 cases e <;> first | exact h | exact h.elim
theorem ze4 {a:Act} {w:World} (h:Q .normal a w):NoQ Q .normal a w:=h
theorem zoB {o:Oper} {a:Act} {K:Act→World→Prop} {r:Result Next} (h:o.upon P a K Q r):o.uponIn (Wd none) n P a K Q r:=by
 cases r with
 | ok x w =>
  cases x with
  | value v=>exact h
  | skip=>exact h
  | defer d=>exact h
  | enter f args=>exact ⟨fun h=>by simp[Fence.wide] at h,callsIn_wd.2 h⟩
  | row row args=>exact ⟨fun h=>by simp[Fence.wide] at h,fun c cs _=>let ⟨v,w',r,s⟩:=h c cs;⟨v,w',r,stepsIn_wide.2 s⟩⟩
  | _=>exact h.elim
 | halt x w =>
  cases x <;> first | exact h | exact h.elim
theorem zuf {i:Nat} {K:Act→World→Prop} {a:Act} {w:World} (h:wpOp P ops (NoQ Q) i K a w):wpOpIn (Wd none) n P ops (NoQ Q) i K a w:=by
 unfold wpOp at h;unfold wpOpIn
 cases ho:ops[i]? with
 | none=>rw[ho] at h;exact h
 | some o =>
  rw[ho] at h
  dsimp only at h ⊢
  split
  ·rename_i hw
   rw[if_pos hw] at h
   rcases h with h | ⟨_,_,_,h⟩
   ·refine ⟨fun _ _=>trivial,?_⟩
    rw[show (Wd none).round=none from rfl,P6]
    exact zoB h
   ·exact h.elim
  ·rename_i hw
   rw[if_neg hw] at h
   exact ⟨fun _ _=>trivial,h⟩
theorem zm4:∀ (fuel:Nat) (H0:Array Bool) (a:Act) (w:World),wpAny P md ops (NoQ Q) fuel H0 a w→wpAnyIn (Wd none) n P md ops (NoQ Q) fuel H0 a w
 | 0,_,_,_,h=>h
 | fuel+1,H0,a,w,h=>⟨h.1,fun i hi=>wpOpIn_mono (fun a w=>zm4 fuel _ a w) (zuf (h.2 i hi))⟩
theorem zcW {id:Nat} {a:Act} {w:World} (hm:P.follows .mixedOrders=true) (hS:S w.drew)
  (h:S w.drew→wpAnyH P .any ops (NoQ Q) S ops.size (Pc ops.size false) a w.drew):(Code.region id ops true).wpIn (Wd none) n P Q a w :=
 wpIn_mono (wpIn_region_any hm (zm4 _ _ _ _ (wpAny_of_held _ _ _ _ (h hS)))) NoQ.imp
end
end Go.Mv
