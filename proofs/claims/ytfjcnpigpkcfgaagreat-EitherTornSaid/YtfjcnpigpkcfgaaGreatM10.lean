/-
  Plain laws over any program: a region that draws its order, inside a round of a range over a function; a read in such a region taken first, where what it reads lies still.
  The walk of two.blocks' iterator.
  The walk of two.all over two.blocks' iterator.
-/
import Derived.Test.YtfjcnpigpkcfgaaGreatM9
import Derived.OrdersIn
import Derived.WalkKit
import Derived.TacticsIn
import Derived.RangeFuncCalls
set_option linter.all false
namespace Go.Mv
open Go.RowKit
section
variable {F : Fence} {n : Nat} {P : Program} {ops : Array Oper} {Q : Exit → Act → World → Prop} {md : Region.Mode}

def noDefer (ops : Array Oper) : Bool := ops.all fun o => match o.op with | .defer _ => false | _ => true
theorem noDefer_spec (h : noDefer ops = true) {j : Nat} {o : Oper} (ho : ops[j]? = some o) (c : Call) : o.op ≠ .defer c := by
  intro heq
  have := Array.all_eq_true_iff_forall_mem.1 h o (Array.mem_of_getElem? ho)
  simp [heq] at this

theorem wpOpIn_round (l : Nat) (hd : noDefer ops = true) (hro : F.round = none) {i : Nat} {K : Act → World → Prop} {a : Act} {w : World} (h : wpOpIn F n P ops Q i K a w) : wpOpIn (F.inRound l) n P ops Q i K a w := by
  unfold wpOpIn at *
  cases ho : ops[i]? with
  | none => simpa [ho] using h
  | some o =>
    simp only [ho] at h ⊢
    split
    · rename_i hw
      simp only [hw, if_true] at h
      unfold Oper.wpIn at *
      refine ⟨h.1, ?_⟩
      have h := h.2
      rw [hro, Oper.semAt_none] at h
      rw [Fence.inRound_round, Oper.semAt_some l _ o (noDefer_spec hd ho)]
      exact h
    · rename_i hw
      simp only [hw] at h
      exact h

theorem wpAnyIn_round (l : Nat) (hd : noDefer ops = true) (hro : F.round = none) : ∀ (fuel : Nat) (listed : Array Bool) (a : Act) (w : World), wpAnyIn F n P md ops Q fuel listed a w → wpAnyIn (F.inRound l) n P md ops Q fuel listed a w := by
  intro fuel
  induction fuel with
  | zero => intro listed a w h; exact h
  | succ fuel ih =>
    intro listed a w h
    exact ⟨h.1, fun i hi => wpOpIn_round l hd hro (wpOpIn_mono (fun a w => ih _ a w) (h.2 i hi))⟩

/-- As Q; nothing panics. -/
def NoP (Q : Exit → Act → World → Prop) : Exit → Act → World → Prop
  | .panic _, _, _ => False
  | e, a, w => Q e a w
theorem NoP.imp {Q : Exit → Act → World → Prop} (e : Exit) (a : Act) (w : World) (h : NoP Q e a w) : Q e a w := by
  cases e <;> first | exact h | exact h.elim
/-- A region in a round, as elsewhere. -/
theorem wpIn_region_round {l id : Nat} {a : Act} {w : World} (hm : P.follows .mixedOrders = true) (hd : noDefer ops = true)
    (h : wpAnyIn (Wd none) n P .any ops (NoP Q) ops.size (Array.replicate ops.size false) a w.drew) : (Code.region id ops true).wpIn (Wd (some l)) n P Q a w :=
  wpIn_mono (wpIn_region_any (F := (Wd none).inRound l) hm (wpAnyIn_round l hd rfl _ _ _ _ h)) NoP.imp
/-- A region outside of rounds. -/
theorem wpIn_region_none {id : Nat} {a : Act} {w : World} (hm : P.follows .mixedOrders = true)
    (h : wpAnyIn (Wd none) n P .any ops (NoP Q) ops.size (Array.replicate ops.size false) a w.drew) : (Code.region id ops true).wpIn (Wd none) n P Q a w :=
  wpIn_mono (wpIn_region_any hm h) NoP.imp
theorem noP_normal {Q : Exit → Act → World → Prop} {a : Act} {w : World} (h : Q .normal a w) : NoP Q .normal a w := h
theorem ret_none {fn : Func} {tmps : Array Value} {R : Ending → World → Prop} {W : World} (v : Value) (hres : (results fn tmps).run P W = .ok v W) (hR : R (.returned v) W) : bodyPostM (Wd none) n P fn R .ret ⟨tmps, []⟩ W := ⟨v, hres, hR⟩
theorem frame_name {c : Code} {tm : Array Value} {ds : List Deferred} {W : World} (h : ∀ T : Array Value, T = tm → c.wpIn F n P Q ⟨T, ds⟩ W) : c.wpIn F n P Q ⟨tm, ds⟩ W := h tm rfl
/-- Four cells. -/
def Read4 (p q r s : Addr × Value) (W : World) : Prop := W.cell? p.1 = some p.2 ∧ W.cell? q.1 = some q.2 ∧ W.cell? r.1 = some r.2 ∧ W.cell? s.1 = some s.2
theorem cell_alloc {W : World} {p : Addr} {v : Value} (h : W.cell? p = some v) (o : Obj) : (W.alloc o).cell? p = some v :=
  (Below.cell ((Below.refl W.heap.size W).alloc (Nat.le_refl _) o) (World.block_lt_of_cell? W p h)).trans h
theorem Read4.alloc {p q r s : Addr × Value} {W : World} (h : Read4 p q r s W) (o : Obj) : Read4 p q r s (W.alloc o) := ⟨cell_alloc h.1 o, cell_alloc h.2.1 o, cell_alloc h.2.2.1 o, cell_alloc h.2.2.2 o⟩
theorem exec_append {o : Oper} {a : Act} {w w' : World} (s x : Operand) (t : TypeId) (ho : o.op = .call { callee := .builtin .append, args := #[s, x], argTypes := #[t, t] })
    {v vx v' : Value} (hs : a.eval s = v) (hx : a.eval x = vx) (hrun : (Builtin.append_ #[t, t] o.type #[v, vx]).run P w = .ok v' w') : (execOp a.eval o).run P w = .ok (.value v') w' := by
  unfold execOp
  simp only [ho, resolve, invoke, builtin, Sem.run_bind, Sem.run_pure, Result.andThen_ok, List.map_toArray, List.map_cons, List.map_nil, hs, hx, hrun]
theorem about_append {o : Oper} {a : Act} {w : World} (s x : Operand) (t : TypeId) (ho : o.op = .call { callee := .builtin .append, args := #[s, x], argTypes := #[t, t] }) : o.about P w a.eval = none := by
  simp [Oper.about, ho, resolve, Target.leads, go_sem]
theorem frame_of (n : Nat) (T : Array Value) (h : T.size = n) : T = ((List.range n).map fun i => T.getD i undef).toArray := by
  apply Array.ext
  · simp [h]
  · intro i h1 h2
    simp [h1]
theorem boxed_only {W : World} {b : Nat} {t : TypeId} {v : Value} (h : Boxed W b t v) {k : Nat} {u : Value} (hc : W.cell? ⟨b, k, none⟩ = some u) : k = 0 := by
  have h' : W.heap[b]? = some (.cells #[v] t (0, 0)) := h
  cases k with
  | zero => rfl
  | succ k => simp [World.cell?, h'] at hc
theorem opAt {i : Nat} {oi : Oper} (h : ops.toList[i]? = some oi) : ops[i]? = some oi := by simpa using h

/-- 'Yields', in whatever world C tells of. -/
def YieldsC (P : Program) (ops : Array Oper) (C : World → Prop) (o : Oper) (v : Value) (a : Act) : Prop :=
  Region.wanted o (yielded ops a.tmps) = true ∧ (∀ w, C w → (execOp a.eval o).run P w = .ok (.value v) w) ∧ ∀ w, o.about P w a.eval = none
/-- C outlives the operation. -/
def KeepsC (P : Program) (C : World → Prop) (o : Oper) : Prop := ∀ (ρ : Operand → Value) (w : World), C w → ∀ r w', (execOp ρ o).run P w = .ok r w' → (∃ v, r = .value v) ∧ C w'

theorem YieldsC.wpOpIn {C : World → Prop} {i : Nat} {o : Oper} {v : Value} {a : Act} (hro : F.round = none) (hi : ops[i]? = some o) (hy : YieldsC P ops C o v a)
    {K : Act → World → Prop} {w : World} (hC : C w) (h : K (a.put o.dst v) w) : wpOpIn F n P ops Q i K a w := by
  unfold Go.wpOpIn
  obtain ⟨h1, h2, h3⟩ := hy
  have hab : ∀ f, o.about P w a.eval = some f → F.fn f := fun f hf => by rw [h3 w] at hf; cases hf
  simp only [hi, h1, if_true, Oper.wpIn, hro, Oper.semAt_none, h2 w hC, Oper.uponIn]
  exact ⟨hab, h⟩
theorem YieldsC.of_same {C : World → Prop} {o : Oper} {v : Value} {a a' : Act} (hy : YieldsC P ops C o v a) (he : execOp a'.eval o = execOp a.eval o)
    (hw : Region.wanted o (yielded ops a'.tmps) = Region.wanted o (yielded ops a.tmps)) (hb : ∀ w, o.about P w a'.eval = o.about P w a.eval) : YieldsC P ops C o v a' :=
  ⟨hw.trans hy.1, fun w h => by rw [he]; exact hy.2.1 w h, fun w => by rw [hb w]; exact hy.2.2 w⟩

theorem wpOpIn_putC {C : World → Prop} {j : Nat} {oi oj : Oper} {v : Value} (hro : F.round = none) (hj : ops[j]? = some oj) (hap : oi.apart ops oj = true)
    (hsi : ∀ cs b, oi.op ≠ .select cs b) (hsj : ∀ cs b, oj.op ≠ .select cs b) (hkeep : KeepsC P C oj)
    (hQ : ∀ c a w, Q (.panic c) (a.put oi.dst v) w → Q (.panic c) a w) {K : Act → World → Prop} {a : Act} {w : World} (hC : C w)
    (hy : YieldsC P ops C oi v a) (h : wpOpIn F n P ops Q j K (a.put oi.dst v) w) :
    wpOpIn F n P ops Q j (fun a' w' => (YieldsC P ops C oi v a' ∧ C w') ∧ K (a'.put oi.dst v) w') a w := by
  obtain ⟨h1, h2, h3⟩ := Oper.apart_spec hap
  have keep : ∀ (a : Act), YieldsC P ops C oi v a → ∀ u, YieldsC P ops C oi v (a.put oj.dst u) := fun a hy u =>
    hy.of_same (execOp_put oi hsi a oj.dst u h3) (wanted_put oi a oj.dst u h3) (fun w => about_put oi w a oj.dst u h3)
  unfold wpOpIn at *
  simp only [hj] at *
  rw [wanted_put oj a oi.dst v h1, about_put oj w a oi.dst v h1] at h
  split
  · rename_i hw
    simp only [hw, if_true] at h
    unfold Oper.wpIn at *
    rw [about_put oj w a oi.dst v h1] at h
    refine ⟨h.1, ?_⟩
    have h := h.2
    rw [hro, Oper.semAt_none, execOp_put oj hsj a oi.dst v h1] at h
    rw [hro, Oper.semAt_none]
    have hk := hkeep a.eval w hC
    generalize (execOp a.eval oj).run P w = r at *
    cases r with
    | ok x w' =>
      obtain ⟨⟨u, rfl⟩, hC'⟩ := hk _ _ rfl
      simp only [Oper.uponIn] at h ⊢
      exact ⟨⟨keep a hy u, hC'⟩, by rw [← Act.put_comm a v u h2]; exact h⟩
    | halt x w' =>
      cases x <;> simp only [Oper.uponIn] at h ⊢
      case panic u => exact hQ _ _ _ h
  · rename_i hw
    simp only [hw] at h
    exact ⟨h.1, ⟨keep a hy _, hC⟩, by rw [← Act.put_comm a v undef h2]; exact h.2⟩

/-- The operations of tl come behind i. -/
def tailB (md : Region.Mode) (ops : Array Oper) (i : Nat) (tl : List Nat) : Bool :=
  tl.all fun j => match ops[j]? with
    | some oj => oj.after.any fun e => Region.binds md e && (e.on == i || tl.contains e.on)
    | none => false
theorem tailB_not {i : Nat} {tl : List Nat} {listed : Array Bool} (ht : tailB md ops i tl = true) (hi : listed.getD i true = false) (hl : ∀ k ∈ tl, listed.getD k true = false) {j : Nat} (hj : j ∈ Region.ready md ops listed) : j ∉ tl := by
  intro hjt
  obtain ⟨hjun, oj, hoj, hall⟩ := mem_ready.1 hj
  simp only [tailB, List.all_eq_true] at ht
  have h1 := ht j hjt
  simp only [hoj] at h1
  obtain ⟨e, he, hb⟩ := Array.any_eq_true'.1 h1
  simp only [Bool.and_eq_true, Bool.or_eq_true, beq_iff_eq, List.contains_iff_mem] at hb
  have h2 := hall e he hb.1
  have hno : ∀ k, listed.getD k true = false → listed.getD k false = true → False := by
    intro k a b
    rcases Nat.lt_or_ge k listed.size with h' | h'
    · simp [h'] at a b; rw [a] at b; cases b
    · simp [Array.getElem?_eq_none h'] at b
  rcases hb.2 with h | h
  · rw [h] at h2; exact hno _ hi h2
  · exact hno _ (hl _ h) h2

theorem wpAnyIn_firstC {C : World → Prop} {i : Nat} {oi : Oper} {v : Value} (tl : List Nat) (ht : tailB md ops i tl = true) (hro : F.round = none) (hi : ops[i]? = some oi) (hsel : ∀ (j : Nat) (o : Oper) cs b, ops[j]? = some o → o.op ≠ .select cs b)
    (hQ : ∀ c a w, Q (.panic c) (a.put oi.dst v) w → Q (.panic c) a w) :
    ∀ (fuel : Nat) (listed : Array Bool) (a : Act) (w : World), (∀ k ∈ tl, listed.getD k true = false) →
      (∀ j oj, ops[j]? = some oj → j ≠ i → j ∉ tl → listed.getD j true = false → (∀ e ∈ oj.after, Region.binds md e = true → e.on ≠ i) → oi.apart ops oj = true ∧ KeepsC P C oj) →
      i ∈ Region.ready md ops listed → C w → YieldsC P ops C oi v a →
      wpAnyIn F n P md ops Q fuel (listed.setIfInBounds i true) (a.put oi.dst v) w → wpAnyIn F n P md ops Q (fuel + 1) listed a w := by
  intro fuel
  induction fuel with
  | zero =>
    intro listed a w _ _ hr hC hy H
    refine ⟨fun h => (by rw [h] at hr; cases hr), fun j hj => ?_⟩
    by_cases hji : j = i
    · subst hji; exact hy.wpOpIn hro hi hC H
    · have := ready_mono hj hji
      rw [H.1] at this
      cases this
  | succ fuel ih =>
    intro listed a w htl hfree hr hC hy H
    refine ⟨fun h => (by rw [h] at hr; cases hr), fun j hj => ?_⟩
    by_cases hji : j = i
    · subst hji; exact hy.wpOpIn hro hi hC H
    · have h1 := H.2 j (ready_mono hj hji)
      have hjt : j ∉ tl := tailB_not ht (mem_ready.1 hr).1 htl hj
      obtain ⟨hjun, oj, hoj, hall⟩ := mem_ready.1 hj
      have hnot : ∀ e ∈ oj.after, Region.binds md e = true → e.on ≠ i := fun e he hb heq => by
        have h1 := hall e he hb
        have h0 := (mem_ready.1 hr).1
        rw [heq] at h1
        rcases Nat.lt_or_ge i listed.size with h' | h'
        · simp [h'] at h0 h1; rw [h0] at h1; cases h1
        · simp [Array.getElem?_eq_none h'] at h1
      obtain ⟨hap, hkp⟩ := hfree j oj hoj hji hjt hjun hnot
      have h2 := wpOpIn_putC hro hoj hap (fun cs b => hsel i oi cs b hi) (fun cs b => hsel j oj cs b hoj) hkp hQ hC hy h1
      have hfree' : ∀ k ok, ops[k]? = some ok → k ≠ i → k ∉ tl → (listed.setIfInBounds j true).getD k true = false →
          (∀ e ∈ ok.after, Region.binds md e = true → e.on ≠ i) → oi.apart ops ok = true ∧ KeepsC P C ok := fun k ok hk hki hkt hun hno => by
        refine hfree k ok hk hki hkt ?_ hno
        by_cases hjk : j = k
        · subst hjk; exact hjun
        · rw [getD_set_ne true hjk] at hun; exact hun
      have htl' : ∀ k ∈ tl, (listed.setIfInBounds j true).getD k true = false := fun k hk => by
        have hne : j ≠ k := fun e => hjt (by rw [e]; exact hk)
        rw [getD_set_ne true hne]; exact htl k hk
      refine wpOpIn_mono (fun a' w' h3 => ih (listed.setIfInBounds j true) a' w' htl' hfree' (ready_mono hr (Ne.symm hji)) h3.1.2 h3.1.1 ?_) h2
      rw [Array.setIfInBounds_comm _ _ hji]
      exact h3.2

/-- A run leaves the world alone; or lays a block alone. -/
def SameW {α : Type} (P : Program) (s : Sem α) : Prop := ∀ w r w', s.run P w = .ok r w' → w' = w
def GrowW {α : Type} (P : Program) (s : Sem α) : Prop := ∀ w r w', s.run P w = .ok r w' → w' = w ∨ ∃ o, w' = w.alloc o
theorem same_bind {α β : Type} {s : Sem α} {f : α → Sem β} (h1 : SameW P s) (h2 : ∀ a, SameW P (f a)) : SameW P (s >>= f) := by
  intro w r w' h
  rw [Sem.run_bind] at h
  cases hs : s.run P w with
  | ok a w1 =>
    rw [hs] at h
    rw [h1 _ _ _ hs] at h
    exact h2 a _ _ _ h
  | halt x w1 => rw [hs] at h; cases h
theorem grow_bind {α β : Type} {s : Sem α} {f : α → Sem β} (h1 : SameW P s) (h2 : ∀ a, GrowW P (f a)) : GrowW P (s >>= f) := by
  intro w r w' h
  rw [Sem.run_bind] at h
  cases hs : s.run P w with
  | ok a w1 =>
    rw [hs] at h
    rw [h1 _ _ _ hs] at h
    exact h2 a _ _ _ h
  | halt x w1 => rw [hs] at h; cases h
theorem grow_bind2 {α β : Type} {s : Sem α} {f : α → Sem β} (h1 : GrowW P s) (h2 : ∀ a, SameW P (f a)) : GrowW P (s >>= f) := by
  intro w r w' h
  rw [Sem.run_bind] at h
  cases hs : s.run P w with
  | ok a w1 =>
    rw [hs] at h
    have := h2 a _ _ _ h
    subst this
    exact h1 _ _ _ hs
  | halt x w1 => rw [hs] at h; cases h
theorem same_pure {α : Type} (a : α) : SameW P (pure a : Sem α) := by
  intro w r w' h
  rw [Sem.run_pure] at h
  cases h; rfl
theorem same_halt {α : Type} {s : Sem α} (h : ∀ w, ∃ x w1, s.run P w = .halt x w1) : SameW P s := by
  intro w r w' h'
  obtain ⟨x, w1, e⟩ := h w
  rw [e] at h'; cases h'
theorem SameW.grow {α : Type} {s : Sem α} (h : SameW P s) : GrowW P s := fun w r w' h' => .inl (h w r w' h')
theorem same_load (a : Addr) (m : Mode) : SameW P (load a m) := by
  intro w r w' h
  rw [run_load] at h
  split at h
  · cases h; rfl
  · split at h <;> cases h <;> rfl
theorem same_stuck {α : Type} (m : String) : SameW P (stuck m : Sem α) := by
  intro w r w' h
  simp [go_sem] at h
theorem same_program : SameW P program := by
  intro w r w' h
  simp [go_sem] at h
  exact h.2.symm
theorem same_typeInfo (t : TypeId) : SameW P (typeInfo t) := by
  unfold typeInfo
  refine same_bind same_program (fun p => ?_)
  split
  · exact same_pure _
  · exact same_stuck _
theorem same_underlying (t : TypeId) : SameW P (underlying t) := by
  unfold underlying
  refine same_bind same_program (fun p => ?_)
  split
  · exact same_pure _
  · exact same_stuck _
theorem same_sizeOf (t : TypeId) : SameW P (sizeOf t) := by unfold sizeOf; exact same_bind (same_typeInfo t) (fun _ => same_pure _)
theorem same_isAgg (t : TypeId) : SameW P (isAgg t) := by
  unfold isAgg
  refine same_bind (same_underlying t) (fun d => ?_)
  split <;> exact same_pure _
theorem same_loadCellsFrom (a : Addr) (n : Nat) : ∀ (i : Nat) (acc : Array Value), SameW P (loadCellsFrom a i n acc) := by
  induction n with
  | zero => intro i acc; exact same_pure _
  | succ n ih => intro i acc; exact same_bind (same_load _ _) (fun v => ih _ _)
theorem same_loadVar (t : TypeId) (a : Addr) : SameW P (loadVar t a) := by
  unfold loadVar
  refine same_bind (same_isAgg t) (fun b => ?_)
  cases b
  · exact same_load _ _
  · exact same_bind (same_sizeOf t) (fun n => same_bind (same_loadCellsFrom _ _ _ _) (fun _ => same_pure _))
theorem same_loadAt (t : TypeId) (v : Value) : SameW P (Instr.loadAt t v) := by
  unfold Instr.loadAt
  refine same_bind ?_ (fun a => same_loadVar t a)
  unfold Instr.sureAddr
  split
  · exact same_pure _
  · exact same_stuck _
/-- The kinds of operations that yield a value, and do nothing to the world but lay a new block. -/
def calmOp (o : Oper) : Bool :=
  match o.op with
  | .move _ => true
  | .load _ _ => true
  | .buildSlice _ _ _ => true
  | _ => false
def calmFrom (ops : Array Oper) (listed : Array Bool) (i : Nat) (tl : List Nat) : Bool :=
  tl.all (fun k => !listed.getD k true) && (List.range ops.size).all fun j => j == i || tl.contains j || listed.getD j true || match ops[j]? with
      | some oj => calmOp oj
      | none => true
theorem calmFrom_spec {i : Nat} {tl : List Nat} {listed : Array Bool} (h : calmFrom ops listed i tl = true) (j : Nat) (oj : Oper)
    (hj : ops[j]? = some oj) (hne : j ≠ i) (hnt : j ∉ tl) (hun : listed.getD j true = false) : calmOp oj = true := by
  simp only [calmFrom, Bool.and_eq_true, List.all_eq_true, List.mem_range] at h
  have h1 := h.2 j (Array.getElem?_eq_some_iff.1 hj).1
  simpa [hj, hne, hnt, hun] using h1
theorem calmFrom_tl {i : Nat} {tl : List Nat} {listed : Array Bool} (h : calmFrom ops listed i tl = true) : ∀ k ∈ tl, listed.getD k true = false := by
  simp only [calmFrom, Bool.and_eq_true, List.all_eq_true] at h
  intro k hk
  simpa using h.1 k hk
theorem grow_zero (t : TypeId) : SameW P (zeroValue t) := by
  unfold zeroValue
  refine same_bind (same_typeInfo t) (fun i => ?_)
  split
  · exact same_pure _
  · intro w r w' h
    simp [go_sem] at h
theorem grow_newRow (t : TypeId) (cs : Array Value) : GrowW P (newRow t cs) := by
  intro w r w' h
  simp [newRow, go_sem] at h
  exact .inr ⟨_, h.2.symm⟩
theorem grow_ite {α : Type} {c : Prop} [Decidable c] {s t : Sem α} (h1 : GrowW P s) (h2 : GrowW P t) : GrowW P (if c then s else t) := by split <;> assumption
theorem grow_buildSlice (t : TypeId) (n : Nat) (ps : Array (Nat × Value)) : GrowW P (Instr.buildSlice t n ps) := by
  unfold Instr.buildSlice
  refine grow_bind (same_underlying t) (fun d => ?_)
  split
  · refine grow_bind (same_sizeOf _) (fun size => ?_)
    have hu : ∀ {α : Type} (u : Unsupported), SameW P (unsupported u : Sem α) := by
      intro α u w r w' h
      simp [go_sem] at h
    have hlast : ∀ (zero : Array Value) (e : TypeId), GrowW P (do
        let some cells := Instr.fill (fun i => some (i * size, size)) ((Array.range (n * size)).map (zero[· % zero.size]!)) ps.toList | stuck "buildSlice: a part of the wrong size"
        pure (Value.slice (some (← newRow e cells)) n n)) := by
      intro zero e
      split
      · exact grow_bind2 (grow_newRow _ _) (fun _ => same_pure _)
      · exact (same_stuck _).grow
    rename_i elem
    have hmid : GrowW P (if n * size = 0 then (do
        let zero ← (pure #[] : Sem (Array Value))
        match Instr.fill (fun i => some (i * size, size)) ((Array.range (n * size)).map (zero[· % zero.size]!)) ps.toList with
          | some cells => do
            let a ← newRow elem cells
            pure (Value.slice (some a) n n)
          | _ => stuck "buildSlice: a part of the wrong size")
      else (do
        let v ← zeroValue elem
        let zero ← (pure v.cells : Sem (Array Value))
        match Instr.fill (fun i => some (i * size, size)) ((Array.range (n * size)).map (zero[· % zero.size]!)) ps.toList with
          | some cells => do
            let a ← newRow elem cells
            pure (Value.slice (some a) n n)
          | _ => stuck "buildSlice: a part of the wrong size")) := by
      split
      · exact grow_bind (same_pure _) (fun z => hlast z elem)
      · exact grow_bind (grow_zero _) (fun v => grow_bind (same_pure _) (fun z => hlast z elem))
    exact grow_ite (grow_bind (hu _) (fun _ => hmid)) hmid
  · exact (same_stuck _).grow
theorem val_bind {s : Sem Value} {w w' : World} {r : Next} (h : (do pure (Next.value (← s)) : Sem Next).run P w = .ok r w') : ∃ v, r = .value v ∧ s.run P w = .ok v w' := by
  rw [Sem.run_bind] at h
  cases hs : s.run P w with
  | ok a w1 => rw [hs] at h; cases h; exact ⟨a, rfl, rfl⟩
  | halt x w1 => rw [hs] at h; cases h
theorem calm_keeps {C : World → Prop} (hC : ∀ w o, C w → C (w.alloc o)) {o : Oper} (h : calmOp o = true) : KeepsC P C o := by
  intro ρ w hw r w' hr
  unfold calmOp at h
  unfold execOp at hr
  split at h
  · rename_i x ho
    simp only [ho, Sem.run_pure] at hr
    cases hr; exact ⟨⟨_, rfl⟩, hw⟩
  · rename_i t x ho
    simp only [ho] at hr
    obtain ⟨v, rfl, hs⟩ := val_bind hr
    rw [same_loadAt _ _ _ _ _ hs]
    exact ⟨⟨_, rfl⟩, hw⟩
  · rename_i t n ps ho
    simp only [ho] at hr
    obtain ⟨v, rfl, hs⟩ := val_bind hr
    refine ⟨⟨_, rfl⟩, ?_⟩
    rcases grow_buildSlice _ _ _ _ _ _ hs with rfl | ⟨o', rfl⟩
    · exact hw
    · exact hC _ _ hw
  · cases h
/-- A read taken first: the others ahead of it keep C. -/
theorem wpAnyIn_takeC (C : World → Prop) (tl : List Nat) {i : Nat} {oi : Oper} {v : Value} {fuel : Nat} {listed : Array Bool} {a : Act} {w : World} (hro : F.round = none) (hi : ops.toList[i]? = some oi)
    (hs : Region.noSelect ops = true) (hf : Region.free md ops listed i = true) (ht : tailB md ops i tl = true) (hcm : calmFrom ops listed i tl = true) (hr : (Region.ready md ops listed).contains i = true)
    (hQ : ∀ c a w, Q (.panic c) (a.put oi.dst v) w → Q (.panic c) a w) (hal : ∀ w o, C w → C (w.alloc o)) (hC : C w) (hy : YieldsC P ops C oi v a)
    (h : wpAnyIn F n P md ops Q fuel (listed.setIfInBounds i true) (a.put oi.dst v) w) : wpAnyIn F n P md ops Q (fuel + 1) listed a w :=
  wpAnyIn_firstC tl ht hro (opAt hi) (Region.noSelect_spec hs) hQ fuel listed a w (calmFrom_tl hcm) (fun j oj hj hne hnt hun hno => ⟨Region.free_spec (opAt hi) hf j oj hj hne hun hno, calm_keeps hal (calmFrom_spec hcm j oj hj hne hnt hun)⟩) (by simpa using hr) hC hy h
theorem wpAnyIn_takeF {i : Nat} {oi : Oper} {v : Value} {fuel : Nat} {listed : Array Bool} {a : Act} {w : World} (hro : F.round = none) (hi : ops.toList[i]? = some oi)
    (hs : Region.noSelect ops = true) (hf : Region.free md ops listed i = true) (hr : (Region.ready md ops listed).contains i = true)
    (hQ : ∀ c a w, Q (.panic c) (a.put oi.dst v) w → Q (.panic c) a w) (hy : YieldsFenced P ops oi v a)
    (h : wpAnyIn F n P md ops Q fuel (listed.setIfInBounds i true) (a.put oi.dst v) w) : wpAnyIn F n P md ops Q (fuel + 1) listed a w :=
  wpAnyIn_take hro (opAt hi) hs hf hr hQ hy h
theorem yieldsF {o : Oper} {v : Value} {a : Act} (hg : o.guard = none) (hrun : ∀ w, (execOp a.eval o).run P w = .ok (.value v) w) (hab : ∀ w, o.about P w a.eval = none) : YieldsFenced P ops o v a :=
  ⟨.inl ⟨by simp [Region.wanted, hg], hrun⟩, hab⟩
theorem yieldsC {C : World → Prop} {o : Oper} {v : Value} {a : Act} (hg : o.guard = none) (hrun : ∀ w, C w → (execOp a.eval o).run P w = .ok (.value v) w) (hab : ∀ w, o.about P w a.eval = none) : YieldsC P ops C o v a :=
  ⟨by simp [Region.wanted, hg], hrun, hab⟩
/-- The one that may come up. -/
theorem wpAnyIn_run {i : Nat} {o : Oper} {v : Value} {fuel : Nat} {listed : Array Bool} {a : Act} {w w' : World} (hro : F.round = none) (hr : Region.ready md ops listed = [i]) (hi0 : ops.toList[i]? = some o) (hg : o.guard = none)
    (hab : o.about P w a.eval = none) (hrun : (execOp a.eval o).run P w = .ok (.value v) w') (h : wpAnyIn F n P md ops Q fuel (listed.setIfInBounds i true) (a.put o.dst v) w') : wpAnyIn F n P md ops Q (fuel + 1) listed a w := by
  have hi := opAt hi0
  refine wpAnyIn_all hr (by simp) (fun j hj => ?_)
  have e : j = i := by simpa using hj
  subst e
  unfold wpOpIn
  have hab' : ∀ f, o.about P w a.eval = some f → F.fn f := fun f hf => by rw [hab] at hf; cases hf
  have hw : Region.wanted o (yielded ops a.tmps) = true := by simp [Region.wanted, hg]
  simp only [hi, hw, if_true, Oper.wpIn, hro, Oper.semAt_none, hrun, Oper.uponIn]
  exact ⟨hab', h⟩
theorem wpAnyIn_skip {i : Nat} {o : Oper} {fuel : Nat} {listed : Array Bool} {a : Act} {w w' : World} (hro : F.round = none) (hr : Region.ready md ops listed = [i]) (hi0 : ops.toList[i]? = some o) (hg : o.guard = none)
    (hab : o.about P w a.eval = none) (hrun : (execOp a.eval o).run P w = .ok .skip w') (h : wpAnyIn F n P md ops Q fuel (listed.setIfInBounds i true) (a.put o.dst undef) w') : wpAnyIn F n P md ops Q (fuel + 1) listed a w := by
  have hi := opAt hi0
  refine wpAnyIn_all hr (by simp) (fun j hj => ?_)
  have e : j = i := by simpa using hj
  subst e
  unfold wpOpIn
  have hab' : ∀ f, o.about P w a.eval = some f → F.fn f := fun f hf => by rw [hab] at hf; cases hf
  have hw : Region.wanted o (yielded ops a.tmps) = true := by simp [Region.wanted, hg]
  simp only [hi, hw, if_true, Oper.wpIn, hro, Oper.semAt_none, hrun, Oper.uponIn]
  exact ⟨hab', h⟩
/-- A call, the one that may come up. -/
theorem wpAnyIn_call {i : Nat} {o : Oper} {f : FuncId} {args : Array Value} {fuel : Nat} {listed : Array Bool} {a : Act} {w w' : World} (hr : Region.ready md ops listed = [i]) (hi0 : ops.toList[i]? = some o) (hg : o.guard = none)
    (hrun : (execOp a.eval o).run P w = .ok (.enter f args) w') (h : Calls P f args w' fun e w2 => ∃ v, e = .returned v ∧ wpAnyIn (Wd none) n P md ops Q fuel (listed.setIfInBounds i true) (a.put o.dst v) w2) : wpAnyIn (Wd none) n P md ops Q (fuel + 1) listed a w := by
  have hi := opAt hi0
  refine wpAnyIn_all hr (by simp) (fun j hj => ?_)
  have e : j = i := by simpa using hj
  subst e
  unfold wpOpIn
  have hw : Region.wanted o (yielded ops a.tmps) = true := by simp [Region.wanted, hg]
  simp only [hi, hw, if_true, Oper.wpIn, Oper.semAt_none, hrun, Oper.uponIn]
  refine ⟨fun _ _ => trivial, fun h => by simp [Fence.wide] at h, (callsIn_wd.2 h).mono ?_⟩
  rintro e w2 ⟨v, rfl, h⟩
  exact h
/-- Two that may come up. -/
theorem wpAnyIn_or {i j : Nat} {oi oj : Oper} {vi vj : Value} {fuel : Nat} {listed : Array Bool} {a : Act} {w wi wj : World} (hro : F.round = none) (hr : Region.ready md ops listed = [i, j]) (hi0 : ops.toList[i]? = some oi) (hj0 : ops.toList[j]? = some oj) (gi : oi.guard = none) (gj : oj.guard = none)
    (abi : oi.about P w a.eval = none) (abj : oj.about P w a.eval = none) (runi : (execOp a.eval oi).run P w = .ok (.value vi) wi) (runj : (execOp a.eval oj).run P w = .ok (.value vj) wj)
    (h1 : wpAnyIn F n P md ops Q fuel (listed.setIfInBounds i true) (a.put oi.dst vi) wi) (h2 : wpAnyIn F n P md ops Q fuel (listed.setIfInBounds j true) (a.put oj.dst vj) wj) : wpAnyIn F n P md ops Q (fuel + 1) listed a w := by
  have hi := opAt hi0
  have hj := opAt hj0
  refine wpAnyIn_all hr (by simp) (fun k hk => ?_)
  have abi' : ∀ f, oi.about P w a.eval = some f → F.fn f := fun f hf => by rw [abi] at hf; cases hf
  have abj' : ∀ f, oj.about P w a.eval = some f → F.fn f := fun f hf => by rw [abj] at hf; cases hf
  have wi' : Region.wanted oi (yielded ops a.tmps) = true := by simp [Region.wanted, gi]
  have wj' : Region.wanted oj (yielded ops a.tmps) = true := by simp [Region.wanted, gj]
  rcases (by simpa using hk : k = i ∨ k = j) with rfl | rfl
  · unfold wpOpIn
    simp only [hi, wi', if_true, Oper.wpIn, hro, Oper.semAt_none, runi, Oper.uponIn]
    exact ⟨abi', h1⟩
  · unfold wpOpIn
    simp only [hj, wj', if_true, Oper.wpIn, hro, Oper.semAt_none, runj, Oper.uponIn]
    exact ⟨abj', h2⟩
end
end Go.Mv

namespace Go.Proofs.YtfjcnpigpkcfgaaGreat
open Go.RowKit Go.Mv Go.Shelf
attribute [local go_sem] Oper.semAt_some run_store_c128
set_option maxRecDepth 100000

def Bk1I (wo : World) (N l bz : Nat) (p : Nat × Nat) (J : List (List UInt8) → World → Prop) (cs : List (List Ent)) (W : World) : Prop :=
  ∃ zv, J (blockList p cs) W ∧ Boxed W bz 67 zv ∧ PtV zv (chunkP p cs) ∧ Boxed W N 147 (.func (.yield l) #[] #[]) ∧ Hold wo W ∧ N ≤ W.heap.size
theorem Hold.moves {wo W W' : World} {M : Nat → Obj → Prop} (h : Hold wo W) (hm : Moves M W W') (hM : ∀ k o, k < wo.heap.size → o.isCells = true → ¬ M k o) : Hold wo W' := by
  intro q u hq
  have hlt := World.block_lt_of_cell? wo q hq
  exact hm.cell (h q u hq) (fun o _ hc => hM _ o hlt hc)
/-- What the consumer of blocks keeps: all cells but its box, and but new rows of bytes. -/
def BkK (bo n0 : Nat) (k : Nat) (o : Obj) : Prop := o.isCells = true ∧ k ≠ bo ∧ (k < n0 ∨ o.ty ≠ some 5)

set_option maxHeartbeats 1000000 in
theorem blocks1_seq (wo W0 : World) (v : Value) (es : List Ent) (hes : Es wo v es) (ha : allOk es = true) (hlen : es.length ≤ 1000000) (hH : Hold wo W0) (p : Nat × Nat) (z : Value) (hz : PtV z p)
    (bl bz bo : Nat) (hB1 : Boxed W0 bl 22 v) (hB2 : Boxed W0 bz 67 z) (hbl : wo.heap.size ≤ bl) (hbz : wo.heap.size ≤ bz) (hbo : wo.heap.size ≤ bo) (hbo2 : bo < W0.heap.size) (hne1 : bo ≠ bl) (hne2 : bo ≠ bz) :
    Seq Tryz.prog 136 #[.pointer (some ⟨bl, 0, none⟩), .pointer (some ⟨bz, 0, none⟩)]
      (fun (b : List UInt8) av W => ∃ u, av = #[u] ∧ Bs W u b) (BkK bo wo.heap.size) (fun k o => k = bz ∧ o.ty = some 67) (blockList p (chunks4 es)) W0 := by
  intro l J Jx hJ hJx hY h0
  obtain ⟨A, c, rfl, h1, h2⟩ := SlR.open_ hes
  have c1 := hB1.cell
  have hblt : bl < W0.heap.size := World.block_lt_of_cell? W0 _ c1
  refine (callsIn_wd (ro := none) (n := 9)).1 ?_
  refine callsIn_of_wp_marks Tryz.func136 rfl trivial ?_ rfl
  simp only [Tryz.ntmps136, List.size_toArray, List.length_cons, List.length_nil, Nat.reduceAdd, Nat.reduceSub, Array.replicate_succ, Array.replicate_zero, List.push_toArray, List.append_toArray, List.nil_append, List.cons_append]
  gi_wp2_with (refine ⟨trivial, ?_⟩; gi_at_call 137; refine (callsIn_wd.2 (Chunk_any _ _ _ _)).mono ?_; rintro e w' ⟨rfl, rfl⟩)
  have q0 : Boxed (((W0.alloc (.cells #[.func (.yield l) #[] #[]] 147)).alloc (.cells #[.slice A es.length c] 22)).alloc (.cells #[.int .i64 4] 3)) W0.heap.size 147 (.func (.yield l) #[] #[]) := ((Boxed.new W0 _ _).alloc _).alloc _
  have q1 : Boxed (((W0.alloc (.cells #[.func (.yield l) #[] #[]] 147)).alloc (.cells #[.slice A es.length c] 22)).alloc (.cells #[.int .i64 4] 3)) (W0.heap.size + 1) 22 (.slice A es.length c) := by
    have := Boxed.new (W0.alloc (.cells #[.func (.yield l) #[] #[]] 147)) 22 (.slice A es.length c)
    rw [World.size_alloc] at this
    exact this.alloc _
  have q2 : Boxed (((W0.alloc (.cells #[.func (.yield l) #[] #[]] 147)).alloc (.cells #[.slice A es.length c] 22)).alloc (.cells #[.int .i64 4] 3)) (W0.heap.size + 1 + 1) 3 (.int .i64 4) := by
    have := Boxed.new ((W0.alloc (.cells #[.func (.yield l) #[] #[]] 147)).alloc (.cells #[.slice A es.length c] 22)) 3 (.int .i64 4)
    rwa [World.size_alloc, World.size_alloc] at this
  have hE2 : Ext W0 (((W0.alloc (.cells #[.func (.yield l) #[] #[]] 147)).alloc (.cells #[.slice A es.length c] 22)).alloc (.cells #[.int .i64 4] 3)) := Ext.alloc (Ext.alloc (Ext.alloc (Ext.refl _) _) _) _
  have hm2 : Moves (orOther (fun k o => k = bz ∧ o.ty = some 67) W0.heap.size) W0 (((W0.alloc (.cells #[.func (.yield l) #[] #[]] 147)).alloc (.cells #[.slice A es.length c] 22)).alloc (.cells #[.int .i64 4] 3)) := ((Moves.refl.alloc _).alloc _).alloc _
  have hs2 : (((W0.alloc (.cells #[.func (.yield l) #[] #[]] 147)).alloc (.cells #[.slice A es.length c] 22)).alloc (.cells #[.int .i64 4] 3)).heap.size = W0.heap.size + 3 := by simp
  have hbz2 : Boxed (((W0.alloc (.cells #[.func (.yield l) #[] #[]] 147)).alloc (.cells #[.slice A es.length c] 22)).alloc (.cells #[.int .i64 4] 3)) bz 67 z := ((hB2.alloc _).alloc _).alloc _
  have hJ0 := hJ _ _ _ h0 hm2
  have hbzlt : bz < W0.heap.size := World.block_lt_of_cell? W0 _ hB2.cell
  generalize ((W0.alloc (.cells #[.func (.yield l) #[] #[]] 147)).alloc (.cells #[.slice A es.length c] 22)).alloc (.cells #[.int .i64 4] 3) = w2 at *
  have hH2 : Hold wo w2 := fun q u hq => Ext.cell hE2 (hH q u hq)
  refine wp_range (a := ⟨_, _⟩) rfl (enters_of Tryz.func148 (by kernel_rfl) rfl)
    (fun W1 hb _ => chunk1_seq wo W1 _ es hes hlen (W0.heap.size + 1) (W0.heap.size + 1 + 1) (q1.kept (row := none) (Ext.grown hb none) (by simp)) (q2.kept (row := none) (Ext.grown hb none) (by simp)))
    (fun k o h => h.elim) (fun k o h => by rcases h with h | h <;> exact isCells_of_ty h.2) (fun x av W h => by obtain ⟨u, rfl, _⟩ := h; rfl)
    (Bk1I wo W0.heap.size l bz p J) (fun cd cs W => cd = Code.ret ∧ Jx (blockList p cs) W) ?hI ?hIx ⟨z, hJ0, hbz2, hz, q0, hH2, by omega⟩
    (fun x a' _ => ∃ u, Es wo u x ∧ a' = ⟨#[.func (.yield l) #[] #[], .pointer (some ⟨bl, 0, none⟩), .pointer (some ⟨bz, 0, none⟩), .pointer (some ⟨W0.heap.size, 0, none⟩), u, undef, undef, undef, .slice A es.length c, .func (.func 148) #[] #[.pointer (some ⟨W0.heap.size + 1, 0, none⟩), .pointer (some ⟨W0.heap.size + 1 + 1, 0, none⟩)], u, undef, undef, undef, undef, undef, undef, undef, undef, undef, undef, undef, undef], []⟩)
    (fun _ _ _ _ h _ => h) ?assign ?body ?done ?stop
  case hI =>
    rintro cs X Y ⟨zv, hj, hb, hp, hy, hh, hs⟩ hm
    have hm' : Moves (orOther (fun k o => k = bz ∧ o.ty = some 67) W0.heap.size) X Y := hm.weaken (fun k o h => by rcases h with h | h; exact h.elim; exact .inr ⟨by omega, h.2⟩)
    refine ⟨zv, hJ _ _ _ hj hm', hm.boxed hb ?_, hp, hm.boxed hy ?_, hh.moves hm ?_, Nat.le_trans hs hm.size⟩
    · rintro (h | h)
      · exact h
      · cases h.2
    · rintro (h | h)
      · exact h
      · cases h.2
    · rintro k o _ hc (h | h)
      · exact h
      · rw [hc] at h; cases h.2
  case hIx =>
    rintro cd cs X Y ⟨rfl, hj⟩ hm
    exact ⟨rfl, hJx _ _ _ hj (hm.weaken (fun k o h => by rcases h with h | h; exact h.elim; exact .inr ⟨by omega, h.2⟩))⟩
  case assign =>
    rintro l' pre x post W av K' hx hi hsz ⟨u, rfl, hu⟩ hK
    gi_wp2
    exact hK _ _ Kept.refl hi ⟨u, hu, rfl⟩
  case body =>
    rintro l' pre x post a' W hx hl' hr ⟨zv, hj, hb, hp, hy, hh, hs⟩ hsz ⟨u, hu, rfl⟩
    have hpt := hp.pt
    obtain ⟨z1, z2, rfl, _, _⟩ := hp
    have hux : Es W u x := SlR.keep hu hh
    obtain ⟨A', c', rfl, _, _⟩ := SlR.open_ hu
    have hok : blkOk x = true := chunks4_ok es ha x (by rw [hx]; simp)
    have HB := Lib.hid (Block_ok z1 z2 _ x W hux hok)
    rw [hpt] at HB
    have cb := hb.cell
    have hbw : bz < W.heap.size := World.block_lt_of_cell? W _ cb
    have HI := Lib.hid (show Bk1I wo W0.heap.size l bz p J pre W from ⟨_, hj, hb, ⟨z1, z2, rfl, by assumption, by assumption⟩, hy, hh, hs⟩)
    clear hux hpt
    gi_wp2
    refine ⟨trivial, (callsIn_wd.2 HB.out).mono ?_⟩
    rintro e W2 ⟨v2, vz2, rfl, hpz, ho2, hE⟩
    have HPZ := Lib.hid hpz
    obtain ⟨y1, y2, rfl, _, _⟩ := hpz
    have hb2 : Boxed W2 bz 67 (.complex .f64 z1 z2) := hb.kept (row := none) (Ext.grown hE none) (by simp)
    have hy2 : Boxed W2 W0.heap.size 147 (.func (.yield l) #[] #[]) := hy.kept (row := none) (Ext.grown hE none) (by simp)
    have cb2 := hb2.cell
    have fb2 := hb2.frozen
    have hy3 := hy2.other (show W0.heap.size ≠ bz by omega) (.complex .f64 y1 y2)
    have cy3 := hy3.cell
    gi_wp2
    have hmv : Moves (orOther (fun k o => k = bz ∧ o.ty = some 67) W0.heap.size) W (W2.setCell ⟨bz, 0, none⟩ (.complex .f64 y1 y2)) :=
      (Moves.refl.below hE (Nat.le_refl _)).setCell (fun o ho _ => .inl ⟨rfl, by rw [show W.heap[bz]? = _ from hb] at ho; cases ho; rfl⟩) _
    have hJ3 := hJ _ _ _ hj hmv
    have heq : blockList p (chunks4 es) = blockList p pre ++ blkS (chunkP p pre) x :: blockList (chainP (chunkP p pre) (blkBody x)) post := by rw [hx, blockList_app]; rfl
    have hbs : Bs (W2.setCell ⟨bz, 0, none⟩ (.complex .f64 y1 y2)) v2 (blkS (chunkP p pre) x) := SlR.of_own (ho2.kept (grownBy_setCell' W2 bz (.complex .f64 y1 y2)) (.inr (hb2.not_row (by decide) ho2).symm))
    have hsW3 : W0.heap.size ≤ (W2.setCell ⟨bz, 0, none⟩ (.complex .f64 y1 y2)).heap.size := Nat.le_trans hs hmv.size
    have hyy := hY _ _ _ heq _ #[v2] hJ3 hsW3 ⟨v2, rfl, hbs⟩
    have hb3 := hb2.set (.complex .f64 y1 y2)
    have k1 : Kept (orOther (fun k o => (k = W0.heap.size + 1 ∧ o.ty = some 22) ∨ (k = W0.heap.size + 1 + 1 ∧ o.ty = some 3)) w2.heap.size) W (W2.setCell ⟨bz, 0, none⟩ (.complex .f64 y1 y2)) :=
      (Kept.refl.below hE (Nat.le_refl _)).setCell (fun o ho hc => by
        rintro ((⟨h, _⟩ | ⟨h, _⟩) | ⟨h, _⟩)
        · have : bz = W0.heap.size + 1 := h
          omega
        · have : bz = W0.heap.size + 1 + 1 := h
          omega
        · have : w2.heap.size ≤ bz := h
          omega) _
    have hh3 : Hold wo (W2.setCell ⟨bz, 0, none⟩ (.complex .f64 y1 y2)) := fun q u hq => by
      have hlt := World.block_lt_of_cell? wo q hq
      exact (World.cell?_setCell_other _ _ _ _ (fun e => by rw [← e] at hlt; have : bz < wo.heap.size := hlt; omega)).trans (Ext.cell hE (hh q u hq))
    refine uponIn_yield hyy ?_
    rintro e W4 ⟨hk', hjj⟩
    have k2 := k1.trans (hk'.mono (fun k o h => by
      rcases h with (⟨h, ht⟩ | ⟨h, ht⟩) | ⟨h, ht⟩
      · exact .inl ⟨isCells_of_ty ht, by omega, .inr (by rw [ht]; decide)⟩
      · exact .inl ⟨isCells_of_ty ht, by omega, .inr (by rw [ht]; decide)⟩
      · exact .inr ⟨by omega, ht⟩))
    rcases hjj with ⟨rfl, hj4⟩ | ⟨rfl, hj4⟩
    · refine ⟨true, rfl, ?_⟩
      have HI4 : Hid (Bk1I wo W0.heap.size l bz p J (pre ++ [x]) W4) := by
        refine ⟨.complex .f64 y1 y2, ?_, hk'.boxed hb3 (.inl ⟨rfl, by omega, .inr (by simp [Obj.ty])⟩), ?_, hk'.boxed hy3 (.inl ⟨rfl, by omega, .inr (by simp [Obj.ty])⟩), ?_, Nat.le_trans hsW3 hk'.size⟩
        · rw [blockList_app]; exact hj4
        · rw [chunkP_snoc]; exact HPZ.out
        · intro q u hq
          have hlt := World.block_lt_of_cell? wo q hq
          obtain ⟨o, ho, hc⟩ := cells_of_cell (hh3 q u hq)
          exact hk'.cell (hh3 q u hq) (fun o' ho' => by rw [ho] at ho'; cases ho'; exact .inl ⟨hc, by omega, .inl hlt⟩)
      have K2 := Lib.hid k2
      clear hyy hj4 hk' k2 k1 cb2 cy3
      gi_wp2
      exact ⟨K2.out, HI4.out⟩
    · refine ⟨false, rfl, ?_⟩
      have HJ4 : Hid (Jx (blockList p (pre ++ [x])) W4) := by show Jx _ _; rw [blockList_app]; exact hj4
      have K2 := Lib.hid k2
      clear hyy hj4 hk' k2 k1 cb2 cy3
      gi_wp2
      exact ⟨K2.out, rfl, HJ4.out⟩
  case done =>
    rintro D W hD ⟨zv, hj, hb, hp, hy, hh, hs⟩ hK
    have hmD : Moves (orOther (fun k o => k = bz ∧ o.ty = some 67) W0.heap.size) W (W.putObj D (.deferred none)) := Moves.refl.putObj (fun o ho => .inr ⟨by omega, by rw [hK] at ho; cases ho; rfl⟩) _
    have HJ := Lib.hid (hJ _ _ _ hj hmD)
    clear hj
    gi_wp2
    refine end_mark hK _ (results_none rfl _ _ _) ?_
    exact ⟨⟨_, rfl⟩, .inl HJ.out⟩
  case stop =>
    rintro D cd pre W hD hpre ⟨rfl, hj⟩ hK
    have hmD : Moves (orOther (fun k o => k = bz ∧ o.ty = some 67) W0.heap.size) W (W.putObj D (.deferred none)) := Moves.refl.putObj (fun o ho => .inr ⟨by omega, by rw [hK] at ho; cases ho; rfl⟩) _
    have HJ := Lib.hid (hJx _ _ _ hj hmD)
    have hp2 : blockList p pre <+: blockList p (chunks4 es) := by
      obtain ⟨t, ht⟩ := hpre
      rw [← ht, blockList_app]; exact ⟨_, rfl⟩
    have Hp2 := Lib.hid hp2
    clear hj hp2
    gi_wp2
    refine ret_mark hK _ (results_none rfl _ _ _) ?_
    exact ⟨⟨_, rfl⟩, .inr ⟨_, Hp2.out, HJ.out⟩⟩
end Go.Proofs.YtfjcnpigpkcfgaaGreat

namespace Go.Proofs.YtfjcnpigpkcfgaaGreat
open Go.RowKit Go.Mv Go.Shelf
attribute [local go_sem] Oper.semAt_some
set_option maxRecDepth 100000

def AlI (N : Nat) (w : World) (pre : List (List UInt8)) (X : World) : Prop := ∃ v, Boxed X w.heap.size 23 v ∧ X.ownsRow w.heap.size 5 1 v pre.flatten.length (pre.flatten.map bv) ∧ Below N w X

set_option maxHeartbeats 1000000 in
theorem all_any (wo w : World) (v : Value) (es : List Ent) (hes : Es wo v es) (ha : allOk es = true) (hlen : es.length ≤ 1000000) (hH : Hold wo w) (p : Nat × Nat) (z : Value) (hz : PtV z p)
    (bl bz : Nat) (hB1 : Boxed w bl 22 v) (hB2 : Boxed w bz 67 z) (hbl : wo.heap.size ≤ bl) (hbz : wo.heap.size ≤ bz) (hwo : wo.heap.size ≤ w.heap.size) :
    Calls Tryz.prog 127 #[.func (.func 136) #[] #[.pointer (some ⟨bl, 0, none⟩), .pointer (some ⟨bz, 0, none⟩)]] w
      fun e w' => ∃ v', e = .returned v' ∧ w'.ownsRow w.heap.size 5 1 v' (blocksS p es).length ((blocksS p es).map bv) ∧ Below wo.heap.size w w' := by
  refine (callsIn_wd (ro := none) (n := 9)).1 ?_
  refine callsIn_of_wp_marks Tryz.func127 rfl trivial ?_ rfl
  simp only [Tryz.ntmps127, List.size_toArray, List.length_cons, List.length_nil, Nat.reduceAdd, Nat.reduceSub, Array.replicate_succ, Array.replicate_zero, List.push_toArray, List.append_toArray, List.nil_append, List.cons_append]
  obtain ⟨i0, hi, hz0, hz1, hz2⟩ := info_parts info_u8
  have hblt : bl < w.heap.size := World.block_lt_of_cell? w _ hB1.cell
  have hbzt : bz < w.heap.size := World.block_lt_of_cell? w _ hB2.cell
  have htot := blocksS_len p es
  gi_wp2
  have hE2 : Ext w (w.alloc (.cells #[.slice none 0 0] 23)) := Ext.alloc (Ext.refl _) _
  have h0 : AlI wo.heap.size w [] (w.alloc (.cells #[.slice none 0 0] 23)) := ⟨_, Boxed.new w _ _, World.ownsRow_nil _ _ _ _, hE2.mono hwo⟩
  have hs2 : (w.alloc (.cells #[.slice none 0 0] 23)).heap.size = w.heap.size + 1 := by simp
  have c1 : Boxed (w.alloc (.cells #[.slice none 0 0] 23)) bl 22 v := hB1.alloc _
  have c2 : Boxed (w.alloc (.cells #[.slice none 0 0] 23)) bz 67 z := hB2.alloc _
  generalize w.alloc (.cells #[.slice none 0 0] 23) = w2 at *
  have hfl := blockList_flat p es
  refine wp_range (a := ⟨_, _⟩) rfl (enters_of Tryz.func136 (by kernel_rfl) rfl)
    (fun W1 hb hs => blocks1_seq wo W1 _ es hes ha hlen (fun q u hc => Ext.cell (Ext.trans hE2 hb) (hH q u hc)) p z hz bl bz w.heap.size
      (c1.kept (row := none) (Ext.grown hb none) (by simp)) (c2.kept (row := none) (Ext.grown hb none) (by simp)) hbl hbz hwo (by omega) (by omega) (by omega))
    (fun k o h => isCells_of_ty h.2) (fun k o h => h.1) (fun x av W h => by obtain ⟨u, rfl, _⟩ := h; rfl)
    (AlI wo.heap.size w) (fun _ _ _ => False) ?hI (fun _ _ _ _ h _ => h) h0
    (fun x a' W => ∃ u, Bs W u x ∧ a' = ⟨#[.func (.func 136) #[] #[.pointer (some ⟨bl, 0, none⟩), .pointer (some ⟨bz, 0, none⟩)], undef, .pointer (some ⟨w.heap.size, 0, none⟩), u, .func (.func 136) #[] #[.pointer (some ⟨bl, 0, none⟩), .pointer (some ⟨bz, 0, none⟩)], u, undef, undef, undef, undef], []⟩)
    ?hAx ?assign ?body ?done ?stop
  case hI =>
    rintro s X Y ⟨v1, hv, hr, hB⟩ hm
    refine ⟨v1, hm.boxed hv ?_, hm.ownsRow hr ?_, hm.belowOf hB ?_ hwo⟩
    · rintro (h | h)
      · have := h.1; omega
      · cases h.2
    · rintro k cur _ (h | h)
      · cases h.2
      · cases h.2
    · rintro k o hk (h | h)
      · have := h.1; omega
      · have := h.1; omega
  case hAx =>
    rintro x a' X Y ⟨u, hu, rfl⟩ hm
    refine ⟨u, SlR.keep hu (fun q t hq => hm.cell hq (fun o _ hc => ?_)), rfl⟩
    rintro (h | h)
    · exact h
    · rw [hc] at h; cases h.2
  case assign =>
    rintro l pre x post W av K' hx hi hsz ⟨u, rfl, hu⟩ hK
    gi_wp2
    exact hK _ _ Kept.refl hi ⟨u, hu, rfl⟩
  case stop =>
    rintro D c pre W _ _ h _
    exact h.elim
  case body =>
    rintro l pre x post a' W hx hl hr ⟨v1, hv, hrow, hB⟩ hsz ⟨u, hu, rfl⟩
    have hpl : pre.flatten.length + x.length ≤ 20000000 := by
      have := congrArg (fun t => (List.flatten t).length) hx
      simp only [hfl, List.flatten_append, List.flatten_cons, List.length_append] at this
      omega
    have hfl2 : (pre ++ [x]).flatten = pre.flatten ++ x := by simp
    have Hfl := Lib.hid hfl2
    clear hfl2
    have Hx := Lib.hid hx
    clear hx hfl htot
    generalize pre.flatten = q at *
    obtain ⟨A1, cc1, rfl, _, _⟩ := SlR.open_ (SlR.of_own hrow)
    have hu0 := hu
    obtain ⟨A2, cc2, rfl, _, _⟩ := SlR.open_ hu
    have hc := hv.cell
    have hne := hv.not_row (e := 5) (by decide) hrow
    gi_wp2_with (gi_at_builtin; refine wpListIn_append_sl _ rfl (.tmp 6) (.tmp 7) 23 rfl w.heap.size 5 i0 (.int .u8 0) 1 1 Tryz.underlying23 hi hz0 hz1 hz2 rfl (by decide) (.slice A1 q.length cc1) q.length _ rfl hrow _ x.length _ rfl hu0 (one_bv _) (by unfold maxLen; omega) (by omega) (by omega) ?_; intro v' w1 hown' hgrow; obtain ⟨A3, cc3, rfl, _, _⟩ := SlR.open_ (SlR.of_own hown'); have hv1 := hv.kept hgrow hne; have hc1 := hv1.cell; have hf1 := hv1.frozen)
    refine ⟨(Kept.refl.grown hgrow (fun k o ek ho => ?_)).setCell (fun o ho _ => ?_) _, _, hv1.set _, ?_, ?_⟩
    · obtain ⟨cur, hc'⟩ := ownsRow_cells hrow ek
      rw [ho] at hc'; cases hc'
      rintro (⟨_, _, h⟩ | ⟨_, h⟩)
      · rcases h with h | h
        · have := (hrow.lt k ek).1
          omega
        · exact h rfl
      · cases h
    · rw [show W.heap[w.heap.size]? = _ from hv] at ho; cases ho
      rintro (⟨_, h, _⟩ | ⟨_, h⟩)
      · exact h rfl
      · cases h
    · have h := hown'.kept (grownBy_setCell' w1 w.heap.size (.slice A3 (q.length + x.length) cc3)) (.inr (hv1.not_row (by decide) hown').symm)
      rw [Hfl.out]
      simpa using h
    · refine (hB.grown hgrow (by omega) (fun k ek => ?_)).setCell (p := ⟨w.heap.size, 0, none⟩) hwo _
      have := (hrow.lt k ek).1
      omega
  case done =>
    rintro D W hD ⟨v1, hv, hrow, hB⟩ hK
    rw [hfl] at hrow
    obtain ⟨q, hq⟩ : ∃ q, blocksS p es = q := ⟨_, rfl⟩
    rw [hq] at hrow
    have Hq := Lib.hid hq
    clear hfl hq htot
    obtain ⟨A1, cc1, rfl, _, _⟩ := SlR.open_ (SlR.of_own hrow)
    have hc := hv.cell
    have hf := hv.frozen
    gi_wp2
    have hrow2 := hrow.kept (grownBy_setCell' W w.heap.size (.slice A1 q.length cc1)) (.inr (hv.not_row (by decide) hrow).symm)
    have hv2 := hv.set (.slice A1 q.length cc1)
    have hK2 := heap_setCell_obj hK rfl ⟨w.heap.size, 0, none⟩ (.slice A1 q.length cc1)
    have hcd := cell_putObj hv2.cell hK2 rfl (.deferred none)
    refine ret_mark hK2 (.slice A1 q.length cc1) (by simp [results, Tryz.results127, go_sem, hcd]) ⟨_, rfl, by rw [Hq.out]; exact ownsRow_putObj hrow2 (.deferred none) hK2 rfl, ?_⟩
    exact below_putObj (hB.setCell (p := ⟨w.heap.size, 0, none⟩) hwo _) (by omega) _
end Go.Proofs.YtfjcnpigpkcfgaaGreat
