/-
  Plain laws over any program: a region that draws its order, inside a round of a range over a function; a read in such a region taken first, where what it reads lies still.
-/
import Derived.OrdersIn
import Derived.WalkKit
import Derived.TacticsIn
import Derived.RangeFuncCalls
import Derived.Test.YtibbbdifkopebaaMem
set_option linter.all false
namespace Go.Mv
open Go.RowKit
section
variable {F : Fence} {n : Nat} {P : Program} {ops : Array Oper} {Q : Exit → Act → World → Prop} {md : Region.Mode}

def noDefer (ops : Array Oper) : Bool := ops.all fun o => match o.op with | .defer _ => false | _ => true
theorem noDefer_spec (h : noDefer ops = true) {j : Nat} {o : Oper} (ho : ops[j]? = some o) (c : Call) : o.op ≠ .defer c := by
  intro heq
  have := Array.all_eq_true_iff_forall_mem.1 h o (Array.mem_of_getElem? ho)
  simp [heq] at this

theorem wpOpIn_round (l : Nat) (hd : noDefer ops = true) (hro : F.round = none) {i : Nat} {K : Act → World → Prop} {a : Act} {w : World} (h : wpOpIn F n P ops Q i K a w) : wpOpIn (F.inRound l) n P ops Q i K a w := by
  unfold wpOpIn at *
  cases ho : ops[i]? with
  | none => simpa [ho] using h
  | some o =>
    simp only [ho] at h ⊢
    split
    · rename_i hw
      simp only [hw, if_true] at h
      unfold Oper.wpIn at *
      refine ⟨h.1, ?_⟩
      have h := h.2
      rw [hro, Oper.semAt_none] at h
      rw [Fence.inRound_round, Oper.semAt_some l _ o (noDefer_spec hd ho)]
      exact h
    · rename_i hw
      simp only [hw] at h
      exact h

theorem wpAnyIn_round (l : Nat) (hd : noDefer ops = true) (hro : F.round = none) : ∀ (fuel : Nat) (listed : Array Bool) (a : Act) (w : World), wpAnyIn F n P md ops Q fuel listed a w → wpAnyIn (F.inRound l) n P md ops Q fuel listed a w := by
  intro fuel
  induction fuel with
  | zero => intro listed a w h; exact h
  | succ fuel ih =>
    intro listed a w h
    exact ⟨h.1, fun i hi => wpOpIn_round l hd hro (wpOpIn_mono (fun a w => ih _ a w) (h.2 i hi))⟩

/-- As Q; nothing panics. -/
def NoP (Q : Exit → Act → World → Prop) : Exit → Act → World → Prop
  | .panic _, _, _ => False
  | e, a, w => Q e a w
theorem NoP.imp {Q : Exit → Act → World → Prop} (e : Exit) (a : Act) (w : World) (h : NoP Q e a w) : Q e a w := by
  cases e <;> first | exact h | exact h.elim
/-- A region in a round, as elsewhere. -/
theorem wpIn_region_round {l id : Nat} {a : Act} {w : World} (hm : P.follows .mixedOrders = true) (hd : noDefer ops = true)
    (h : wpAnyIn (Wd none) n P .any ops (NoP Q) ops.size (Array.replicate ops.size false) a w.drew) : (Code.region id ops true).wpIn (Wd (some l)) n P Q a w :=
  wpIn_mono (wpIn_region_any (F := (Wd none).inRound l) hm (wpAnyIn_round l hd rfl _ _ _ _ h)) NoP.imp
/-- A region outside of rounds. -/
theorem wpIn_region_none {id : Nat} {a : Act} {w : World} (hm : P.follows .mixedOrders = true)
    (h : wpAnyIn (Wd none) n P .any ops (NoP Q) ops.size (Array.replicate ops.size false) a w.drew) : (Code.region id ops true).wpIn (Wd none) n P Q a w :=
  wpIn_mono (wpIn_region_any hm h) NoP.imp
theorem noP_normal {Q : Exit → Act → World → Prop} {a : Act} {w : World} (h : Q .normal a w) : NoP Q .normal a w := h
theorem ret_none {fn : Func} {tmps : Array Value} {R : Ending → World → Prop} {W : World} (v : Value) (hres : (results fn tmps).run P W = .ok v W) (hR : R (.returned v) W) : bodyPostM (Wd none) n P fn R .ret ⟨tmps, []⟩ W := ⟨v, hres, hR⟩
theorem frame_name {c : Code} {tm : Array Value} {ds : List Deferred} {W : World} (h : ∀ T : Array Value, T = tm → c.wpIn F n P Q ⟨T, ds⟩ W) : c.wpIn F n P Q ⟨tm, ds⟩ W := h tm rfl
/-- Four cells. -/
def Read4 (p q r s : Addr × Value) (W : World) : Prop := W.cell? p.1 = some p.2 ∧ W.cell? q.1 = some q.2 ∧ W.cell? r.1 = some r.2 ∧ W.cell? s.1 = some s.2
theorem cell_alloc {W : World} {p : Addr} {v : Value} (h : W.cell? p = some v) (o : Obj) : (W.alloc o).cell? p = some v :=
  (Below.cell ((Below.refl W.heap.size W).alloc (Nat.le_refl _) o) (World.block_lt_of_cell? W p h)).trans h
theorem Read4.alloc {p q r s : Addr × Value} {W : World} (h : Read4 p q r s W) (o : Obj) : Read4 p q r s (W.alloc o) := ⟨cell_alloc h.1 o, cell_alloc h.2.1 o, cell_alloc h.2.2.1 o, cell_alloc h.2.2.2 o⟩
theorem exec_append {o : Oper} {a : Act} {w w' : World} (s x : Operand) (t : TypeId) (ho : o.op = .call { callee := .builtin .append, args := #[s, x], argTypes := #[t, t] })
    {v vx v' : Value} (hs : a.eval s = v) (hx : a.eval x = vx) (hrun : (Builtin.append_ #[t, t] o.type #[v, vx]).run P w = .ok v' w') : (execOp a.eval o).run P w = .ok (.value v') w' := by
  unfold execOp
  simp only [ho, resolve, invoke, builtin, Sem.run_bind, Sem.run_pure, Result.andThen_ok, List.map_toArray, List.map_cons, List.map_nil, hs, hx, hrun]
theorem about_append {o : Oper} {a : Act} {w : World} (s x : Operand) (t : TypeId) (ho : o.op = .call { callee := .builtin .append, args := #[s, x], argTypes := #[t, t] }) : o.about P w a.eval = none := by
  simp [Oper.about, ho, resolve, Target.leads, go_sem]
theorem frame_of (n : Nat) (T : Array Value) (h : T.size = n) : T = ((List.range n).map fun i => T.getD i undef).toArray := by
  apply Array.ext
  · simp [h]
  · intro i h1 h2
    simp [h1]
theorem boxed_only {W : World} {b : Nat} {t : TypeId} {v : Value} (h : Boxed W b t v) {k : Nat} {u : Value} (hc : W.cell? ⟨b, k, none⟩ = some u) : k = 0 := by
  have h' : W.heap[b]? = some (.cells #[v] t (0, 0)) := h
  cases k with
  | zero => rfl
  | succ k => simp [World.cell?, h'] at hc
theorem opAt {i : Nat} {oi : Oper} (h : ops.toList[i]? = some oi) : ops[i]? = some oi := by simpa using h

/-- 'Yields', in whatever world C tells of. -/
def YieldsC (P : Program) (ops : Array Oper) (C : World → Prop) (o : Oper) (v : Value) (a : Act) : Prop :=
  Region.wanted o (yielded ops a.tmps) = true ∧ (∀ w, C w → (execOp a.eval o).run P w = .ok (.value v) w) ∧ ∀ w, o.about P w a.eval = none
/-- C outlives the operation. -/
def KeepsC (P : Program) (C : World → Prop) (o : Oper) : Prop := ∀ (ρ : Operand → Value) (w : World), C w → ∀ r w', (execOp ρ o).run P w = .ok r w' → (∃ v, r = .value v) ∧ C w'

theorem YieldsC.wpOpIn {C : World → Prop} {i : Nat} {o : Oper} {v : Value} {a : Act} (hro : F.round = none) (hi : ops[i]? = some o) (hy : YieldsC P ops C o v a)
    {K : Act → World → Prop} {w : World} (hC : C w) (h : K (a.put o.dst v) w) : wpOpIn F n P ops Q i K a w := by
  unfold Go.wpOpIn
  obtain ⟨h1, h2, h3⟩ := hy
  have hab : ∀ f, o.about P w a.eval = some f → F.fn f := fun f hf => by rw [h3 w] at hf; cases hf
  simp only [hi, h1, if_true, Oper.wpIn, hro, Oper.semAt_none, h2 w hC, Oper.uponIn]
  exact ⟨hab, h⟩
theorem YieldsC.of_same {C : World → Prop} {o : Oper} {v : Value} {a a' : Act} (hy : YieldsC P ops C o v a) (he : execOp a'.eval o = execOp a.eval o)
    (hw : Region.wanted o (yielded ops a'.tmps) = Region.wanted o (yielded ops a.tmps)) (hb : ∀ w, o.about P w a'.eval = o.about P w a.eval) : YieldsC P ops C o v a' :=
  ⟨hw.trans hy.1, fun w h => by rw [he]; exact hy.2.1 w h, fun w => by rw [hb w]; exact hy.2.2 w⟩

theorem wpOpIn_putC {C : World → Prop} {j : Nat} {oi oj : Oper} {v : Value} (hro : F.round = none) (hj : ops[j]? = some oj) (hap : oi.apart ops oj = true)
    (hsi : ∀ cs b, oi.op ≠ .select cs b) (hsj : ∀ cs b, oj.op ≠ .select cs b) (hkeep : KeepsC P C oj)
    (hQ : ∀ c a w, Q (.panic c) (a.put oi.dst v) w → Q (.panic c) a w) {K : Act → World → Prop} {a : Act} {w : World} (hC : C w)
    (hy : YieldsC P ops C oi v a) (h : wpOpIn F n P ops Q j K (a.put oi.dst v) w) :
    wpOpIn F n P ops Q j (fun a' w' => (YieldsC P ops C oi v a' ∧ C w') ∧ K (a'.put oi.dst v) w') a w := by
  obtain ⟨h1, h2, h3⟩ := Oper.apart_spec hap
  have keep : ∀ (a : Act), YieldsC P ops C oi v a → ∀ u, YieldsC P ops C oi v (a.put oj.dst u) := fun a hy u =>
    hy.of_same (execOp_put oi hsi a oj.dst u h3) (wanted_put oi a oj.dst u h3) (fun w => about_put oi w a oj.dst u h3)
  unfold wpOpIn at *
  simp only [hj] at *
  rw [wanted_put oj a oi.dst v h1, about_put oj w a oi.dst v h1] at h
  split
  · rename_i hw
    simp only [hw, if_true] at h
    unfold Oper.wpIn at *
    rw [about_put oj w a oi.dst v h1] at h
    refine ⟨h.1, ?_⟩
    have h := h.2
    rw [hro, Oper.semAt_none, execOp_put oj hsj a oi.dst v h1] at h
    rw [hro, Oper.semAt_none]
    have hk := hkeep a.eval w hC
    generalize (execOp a.eval oj).run P w = r at *
    cases r with
    | ok x w' =>
      obtain ⟨⟨u, rfl⟩, hC'⟩ := hk _ _ rfl
      simp only [Oper.uponIn] at h ⊢
      exact ⟨⟨keep a hy u, hC'⟩, by rw [← Act.put_comm a v u h2]; exact h⟩
    | halt x w' =>
      cases x <;> simp only [Oper.uponIn] at h ⊢
      case panic u => exact hQ _ _ _ h
  · rename_i hw
    simp only [hw] at h
    exact ⟨h.1, ⟨keep a hy _, hC⟩, by rw [← Act.put_comm a v undef h2]; exact h.2⟩

/-- The operations of tl come behind i. -/
def tailB (md : Region.Mode) (ops : Array Oper) (i : Nat) (tl : List Nat) : Bool :=
  tl.all fun j => match ops[j]? with
    | some oj => oj.after.any fun e => Region.binds md e && (e.on == i || tl.contains e.on)
    | none => false
theorem tailB_not {i : Nat} {tl : List Nat} {listed : Array Bool} (ht : tailB md ops i tl = true) (hi : listed.getD i true = false) (hl : ∀ k ∈ tl, listed.getD k true = false) {j : Nat} (hj : j ∈ Region.ready md ops listed) : j ∉ tl := by
  intro hjt
  obtain ⟨hjun, oj, hoj, hall⟩ := mem_ready.1 hj
  simp only [tailB, List.all_eq_true] at ht
  have h1 := ht j hjt
  simp only [hoj] at h1
  obtain ⟨e, he, hb⟩ := Array.any_eq_true'.1 h1
  simp only [Bool.and_eq_true, Bool.or_eq_true, beq_iff_eq, List.contains_iff_mem] at hb
  have h2 := hall e he hb.1
  have hno : ∀ k, listed.getD k true = false → listed.getD k false = true → False := by
    intro k a b
    rcases Nat.lt_or_ge k listed.size with h' | h'
    · simp [h'] at a b; rw [a] at b; cases b
    · simp [Array.getElem?_eq_none h'] at b
  rcases hb.2 with h | h
  · rw [h] at h2; exact hno _ hi h2
  · exact hno _ (hl _ h) h2

theorem wpAnyIn_firstC {C : World → Prop} {i : Nat} {oi : Oper} {v : Value} (tl : List Nat) (ht : tailB md ops i tl = true) (hro : F.round = none) (hi : ops[i]? = some oi) (hsel : ∀ (j : Nat) (o : Oper) cs b, ops[j]? = some o → o.op ≠ .select cs b)
    (hQ : ∀ c a w, Q (.panic c) (a.put oi.dst v) w → Q (.panic c) a w) :
    ∀ (fuel : Nat) (listed : Array Bool) (a : Act) (w : World), (∀ k ∈ tl, listed.getD k true = false) →
      (∀ j oj, ops[j]? = some oj → j ≠ i → j ∉ tl → listed.getD j true = false → (∀ e ∈ oj.after, Region.binds md e = true → e.on ≠ i) → oi.apart ops oj = true ∧ KeepsC P C oj) →
      i ∈ Region.ready md ops listed → C w → YieldsC P ops C oi v a →
      wpAnyIn F n P md ops Q fuel (listed.setIfInBounds i true) (a.put oi.dst v) w → wpAnyIn F n P md ops Q (fuel + 1) listed a w := by
  intro fuel
  induction fuel with
  | zero =>
    intro listed a w _ _ hr hC hy H
    refine ⟨fun h => (by rw [h] at hr; cases hr), fun j hj => ?_⟩
    by_cases hji : j = i
    · subst hji; exact hy.wpOpIn hro hi hC H
    · have := ready_mono hj hji
      rw [H.1] at this
      cases this
  | succ fuel ih =>
    intro listed a w htl hfree hr hC hy H
    refine ⟨fun h => (by rw [h] at hr; cases hr), fun j hj => ?_⟩
    by_cases hji : j = i
    · subst hji; exact hy.wpOpIn hro hi hC H
    · have h1 := H.2 j (ready_mono hj hji)
      have hjt : j ∉ tl := tailB_not ht (mem_ready.1 hr).1 htl hj
      obtain ⟨hjun, oj, hoj, hall⟩ := mem_ready.1 hj
      have hnot : ∀ e ∈ oj.after, Region.binds md e = true → e.on ≠ i := fun e he hb heq => by
        have h1 := hall e he hb
        have h0 := (mem_ready.1 hr).1
        rw [heq] at h1
        rcases Nat.lt_or_ge i listed.size with h' | h'
        · simp [h'] at h0 h1; rw [h0] at h1; cases h1
        · simp [Array.getElem?_eq_none h'] at h1
      obtain ⟨hap, hkp⟩ := hfree j oj hoj hji hjt hjun hnot
      have h2 := wpOpIn_putC hro hoj hap (fun cs b => hsel i oi cs b hi) (fun cs b => hsel j oj cs b hoj) hkp hQ hC hy h1
      have hfree' : ∀ k ok, ops[k]? = some ok → k ≠ i → k ∉ tl → (listed.setIfInBounds j true).getD k true = false →
          (∀ e ∈ ok.after, Region.binds md e = true → e.on ≠ i) → oi.apart ops ok = true ∧ KeepsC P C ok := fun k ok hk hki hkt hun hno => by
        refine hfree k ok hk hki hkt ?_ hno
        by_cases hjk : j = k
        · subst hjk; exact hjun
        · rw [getD_set_ne true hjk] at hun; exact hun
      have htl' : ∀ k ∈ tl, (listed.setIfInBounds j true).getD k true = false := fun k hk => by
        have hne : j ≠ k := fun e => hjt (by rw [e]; exact hk)
        rw [getD_set_ne true hne]; exact htl k hk
      refine wpOpIn_mono (fun a' w' h3 => ih (listed.setIfInBounds j true) a' w' htl' hfree' (ready_mono hr (Ne.symm hji)) h3.1.2 h3.1.1 ?_) h2
      rw [Array.setIfInBounds_comm _ _ hji]
      exact h3.2

/-- A run leaves the world alone; or lays a block alone. -/
def SameW {α : Type} (P : Program) (s : Sem α) : Prop := ∀ w r w', s.run P w = .ok r w' → w' = w
def GrowW {α : Type} (P : Program) (s : Sem α) : Prop := ∀ w r w', s.run P w = .ok r w' → w' = w ∨ ∃ o, w' = w.alloc o
theorem same_bind {α β : Type} {s : Sem α} {f : α → Sem β} (h1 : SameW P s) (h2 : ∀ a, SameW P (f a)) : SameW P (s >>= f) := by
  intro w r w' h
  rw [Sem.run_bind] at h
  cases hs : s.run P w with
  | ok a w1 =>
    rw [hs] at h
    rw [h1 _ _ _ hs] at h
    exact h2 a _ _ _ h
  | halt x w1 => rw [hs] at h; cases h
theorem grow_bind {α β : Type} {s : Sem α} {f : α → Sem β} (h1 : SameW P s) (h2 : ∀ a, GrowW P (f a)) : GrowW P (s >>= f) := by
  intro w r w' h
  rw [Sem.run_bind] at h
  cases hs : s.run P w with
  | ok a w1 =>
    rw [hs] at h
    rw [h1 _ _ _ hs] at h
    exact h2 a _ _ _ h
  | halt x w1 => rw [hs] at h; cases h
theorem grow_bind2 {α β : Type} {s : Sem α} {f : α → Sem β} (h1 : GrowW P s) (h2 : ∀ a, SameW P (f a)) : GrowW P (s >>= f) := by
  intro w r w' h
  rw [Sem.run_bind] at h
  cases hs : s.run P w with
  | ok a w1 =>
    rw [hs] at h
    have := h2 a _ _ _ h
    subst this
    exact h1 _ _ _ hs
  | halt x w1 => rw [hs] at h; cases h
theorem same_pure {α : Type} (a : α) : SameW P (pure a : Sem α) := by
  intro w r w' h
  rw [Sem.run_pure] at h
  cases h; rfl
theorem same_halt {α : Type} {s : Sem α} (h : ∀ w, ∃ x w1, s.run P w = .halt x w1) : SameW P s := by
  intro w r w' h'
  obtain ⟨x, w1, e⟩ := h w
  rw [e] at h'; cases h'
theorem SameW.grow {α : Type} {s : Sem α} (h : SameW P s) : GrowW P s := fun w r w' h' => .inl (h w r w' h')
theorem same_load (a : Addr) (m : Mode) : SameW P (load a m) := by
  intro w r w' h
  rw [run_load] at h
  split at h
  · cases h; rfl
  · split at h <;> cases h <;> rfl
theorem same_stuck {α : Type} (m : String) : SameW P (stuck m : Sem α) := by
  intro w r w' h
  simp [go_sem] at h
theorem same_program : SameW P program := by
  intro w r w' h
  simp [go_sem] at h
  exact h.2.symm
theorem same_typeInfo (t : TypeId) : SameW P (typeInfo t) := by
  unfold typeInfo
  refine same_bind same_program (fun p => ?_)
  split
  · exact same_pure _
  · exact same_stuck _
theorem same_underlying (t : TypeId) : SameW P (underlying t) := by
  unfold underlying
  refine same_bind same_program (fun p => ?_)
  split
  · exact same_pure _
  · exact same_stuck _
theorem same_sizeOf (t : TypeId) : SameW P (sizeOf t) := by unfold sizeOf; exact same_bind (same_typeInfo t) (fun _ => same_pure _)
theorem same_isAgg (t : TypeId) : SameW P (isAgg t) := by
  unfold isAgg
  refine same_bind (same_underlying t) (fun d => ?_)
  split <;> exact same_pure _
theorem same_loadCellsFrom (a : Addr) (n : Nat) : ∀ (i : Nat) (acc : Array Value), SameW P (loadCellsFrom a i n acc) := by
  induction n with
  | zero => intro i acc; exact same_pure _
  | succ n ih => intro i acc; exact same_bind (same_load _ _) (fun v => ih _ _)
theorem same_loadVar (t : TypeId) (a : Addr) : SameW P (loadVar t a) := by
  unfold loadVar
  refine same_bind (same_isAgg t) (fun b => ?_)
  cases b
  · exact same_load _ _
  · exact same_bind (same_sizeOf t) (fun n => same_bind (same_loadCellsFrom _ _ _ _) (fun _ => same_pure _))
theorem same_loadAt (t : TypeId) (v : Value) : SameW P (Instr.loadAt t v) := by
  unfold Instr.loadAt
  refine same_bind ?_ (fun a => same_loadVar t a)
  unfold Instr.sureAddr
  split
  · exact same_pure _
  · exact same_stuck _
/-- The kinds of operations that yield a value, and do nothing to the world but lay a new block. -/
def calmOp (o : Oper) : Bool :=
  match o.op with
  | .move _ => true
  | .load _ _ => true
  | .buildSlice _ _ _ => true
  | _ => false
def calmFrom (ops : Array Oper) (listed : Array Bool) (i : Nat) (tl : List Nat) : Bool :=
  tl.all (fun k => !listed.getD k true) && (List.range ops.size).all fun j => j == i || tl.contains j || listed.getD j true || match ops[j]? with
      | some oj => calmOp oj
      | none => true
theorem calmFrom_spec {i : Nat} {tl : List Nat} {listed : Array Bool} (h : calmFrom ops listed i tl = true) (j : Nat) (oj : Oper)
    (hj : ops[j]? = some oj) (hne : j ≠ i) (hnt : j ∉ tl) (hun : listed.getD j true = false) : calmOp oj = true := by
  simp only [calmFrom, Bool.and_eq_true, List.all_eq_true, List.mem_range] at h
  have h1 := h.2 j (Array.getElem?_eq_some_iff.1 hj).1
  simpa [hj, hne, hnt, hun] using h1
theorem calmFrom_tl {i : Nat} {tl : List Nat} {listed : Array Bool} (h : calmFrom ops listed i tl = true) : ∀ k ∈ tl, listed.getD k true = false := by
  simp only [calmFrom, Bool.and_eq_true, List.all_eq_true] at h
  intro k hk
  simpa using h.1 k hk
theorem grow_zero (t : TypeId) : SameW P (zeroValue t) := by
  unfold zeroValue
  refine same_bind (same_typeInfo t) (fun i => ?_)
  split
  · exact same_pure _
  · intro w r w' h
    simp [go_sem] at h
theorem grow_newRow (t : TypeId) (cs : Array Value) : GrowW P (newRow t cs) := by
  intro w r w' h
  simp [newRow, go_sem] at h
  exact .inr ⟨_, h.2.symm⟩
theorem grow_ite {α : Type} {c : Prop} [Decidable c] {s t : Sem α} (h1 : GrowW P s) (h2 : GrowW P t) : GrowW P (if c then s else t) := by split <;> assumption
theorem grow_buildSlice (t : TypeId) (n : Nat) (ps : Array (Nat × Value)) : GrowW P (Instr.buildSlice t n ps) := by
  unfold Instr.buildSlice
  refine grow_bind (same_underlying t) (fun d => ?_)
  split
  · refine grow_bind (same_sizeOf _) (fun size => ?_)
    have hu : ∀ {α : Type} (u : Unsupported), SameW P (unsupported u : Sem α) := by
      intro α u w r w' h
      simp [go_sem] at h
    have hlast : ∀ (zero : Array Value) (e : TypeId), GrowW P (do
        let some cells := Instr.fill (fun i => some (i * size, size)) ((Array.range (n * size)).map (zero[· % zero.size]!)) ps.toList | stuck "buildSlice: a part of the wrong size"
        pure (Value.slice (some (← newRow e cells)) n n)) := by
      intro zero e
      split
      · exact grow_bind2 (grow_newRow _ _) (fun _ => same_pure _)
      · exact (same_stuck _).grow
    rename_i elem
    have hmid : GrowW P (if n * size = 0 then (do
        let zero ← (pure #[] : Sem (Array Value))
        match Instr.fill (fun i => some (i * size, size)) ((Array.range (n * size)).map (zero[· % zero.size]!)) ps.toList with
          | some cells => do
            let a ← newRow elem cells
            pure (Value.slice (some a) n n)
          | _ => stuck "buildSlice: a part of the wrong size")
      else (do
        let v ← zeroValue elem
        let zero ← (pure v.cells : Sem (Array Value))
        match Instr.fill (fun i => some (i * size, size)) ((Array.range (n * size)).map (zero[· % zero.size]!)) ps.toList with
          | some cells => do
            let a ← newRow elem cells
            pure (Value.slice (some a) n n)
          | _ => stuck "buildSlice: a part of the wrong size")) := by
      split
      · exact grow_bind (same_pure _) (fun z => hlast z elem)
      · exact grow_bind (grow_zero _) (fun v => grow_bind (same_pure _) (fun z => hlast z elem))
    exact grow_ite (grow_bind (hu _) (fun _ => hmid)) hmid
  · exact (same_stuck _).grow
theorem val_bind {s : Sem Value} {w w' : World} {r : Next} (h : (do pure (Next.value (← s)) : Sem Next).run P w = .ok r w') : ∃ v, r = .value v ∧ s.run P w = .ok v w' := by
  rw [Sem.run_bind] at h
  cases hs : s.run P w with
  | ok a w1 => rw [hs] at h; cases h; exact ⟨a, rfl, rfl⟩
  | halt x w1 => rw [hs] at h; cases h
theorem calm_keeps {C : World → Prop} (hC : ∀ w o, C w → C (w.alloc o)) {o : Oper} (h : calmOp o = true) : KeepsC P C o := by
  intro ρ w hw r w' hr
  unfold calmOp at h
  unfold execOp at hr
  split at h
  · rename_i x ho
    simp only [ho, Sem.run_pure] at hr
    cases hr; exact ⟨⟨_, rfl⟩, hw⟩
  · rename_i t x ho
    simp only [ho] at hr
    obtain ⟨v, rfl, hs⟩ := val_bind hr
    rw [same_loadAt _ _ _ _ _ hs]
    exact ⟨⟨_, rfl⟩, hw⟩
  · rename_i t n ps ho
    simp only [ho] at hr
    obtain ⟨v, rfl, hs⟩ := val_bind hr
    refine ⟨⟨_, rfl⟩, ?_⟩
    rcases grow_buildSlice _ _ _ _ _ _ hs with rfl | ⟨o', rfl⟩
    · exact hw
    · exact hC _ _ hw
  · cases h
/-- A read taken first: the others ahead of it keep C. -/
theorem wpAnyIn_takeC (C : World → Prop) (tl : List Nat) {i : Nat} {oi : Oper} {v : Value} {fuel : Nat} {listed : Array Bool} {a : Act} {w : World} (hro : F.round = none) (hi : ops.toList[i]? = some oi)
    (hs : Region.noSelect ops = true) (hf : Region.free md ops listed i = true) (ht : tailB md ops i tl = true) (hcm : calmFrom ops listed i tl = true) (hr : (Region.ready md ops listed).contains i = true)
    (hQ : ∀ c a w, Q (.panic c) (a.put oi.dst v) w → Q (.panic c) a w) (hal : ∀ w o, C w → C (w.alloc o)) (hC : C w) (hy : YieldsC P ops C oi v a)
    (h : wpAnyIn F n P md ops Q fuel (listed.setIfInBounds i true) (a.put oi.dst v) w) : wpAnyIn F n P md ops Q (fuel + 1) listed a w :=
  wpAnyIn_firstC tl ht hro (opAt hi) (Region.noSelect_spec hs) hQ fuel listed a w (calmFrom_tl hcm) (fun j oj hj hne hnt hun hno => ⟨Region.free_spec (opAt hi) hf j oj hj hne hun hno, calm_keeps hal (calmFrom_spec hcm j oj hj hne hnt hun)⟩) (by simpa using hr) hC hy h
theorem wpAnyIn_takeF {i : Nat} {oi : Oper} {v : Value} {fuel : Nat} {listed : Array Bool} {a : Act} {w : World} (hro : F.round = none) (hi : ops.toList[i]? = some oi)
    (hs : Region.noSelect ops = true) (hf : Region.free md ops listed i = true) (hr : (Region.ready md ops listed).contains i = true)
    (hQ : ∀ c a w, Q (.panic c) (a.put oi.dst v) w → Q (.panic c) a w) (hy : YieldsFenced P ops oi v a)
    (h : wpAnyIn F n P md ops Q fuel (listed.setIfInBounds i true) (a.put oi.dst v) w) : wpAnyIn F n P md ops Q (fuel + 1) listed a w :=
  wpAnyIn_take hro (opAt hi) hs hf hr hQ hy h
theorem yieldsF {o : Oper} {v : Value} {a : Act} (hg : o.guard = none) (hrun : ∀ w, (execOp a.eval o).run P w = .ok (.value v) w) (hab : ∀ w, o.about P w a.eval = none) : YieldsFenced P ops o v a :=
  ⟨.inl ⟨by simp [Region.wanted, hg], hrun⟩, hab⟩
theorem yieldsC {C : World → Prop} {o : Oper} {v : Value} {a : Act} (hg : o.guard = none) (hrun : ∀ w, C w → (execOp a.eval o).run P w = .ok (.value v) w) (hab : ∀ w, o.about P w a.eval = none) : YieldsC P ops C o v a :=
  ⟨by simp [Region.wanted, hg], hrun, hab⟩
/-- The one that may come up. -/
theorem wpAnyIn_run {i : Nat} {o : Oper} {v : Value} {fuel : Nat} {listed : Array Bool} {a : Act} {w w' : World} (hro : F.round = none) (hr : Region.ready md ops listed = [i]) (hi0 : ops.toList[i]? = some o) (hg : o.guard = none)
    (hab : o.about P w a.eval = none) (hrun : (execOp a.eval o).run P w = .ok (.value v) w') (h : wpAnyIn F n P md ops Q fuel (listed.setIfInBounds i true) (a.put o.dst v) w') : wpAnyIn F n P md ops Q (fuel + 1) listed a w := by
  have hi := opAt hi0
  refine wpAnyIn_all hr (by simp) (fun j hj => ?_)
  have e : j = i := by simpa using hj
  subst e
  unfold wpOpIn
  have hab' : ∀ f, o.about P w a.eval = some f → F.fn f := fun f hf => by rw [hab] at hf; cases hf
  have hw : Region.wanted o (yielded ops a.tmps) = true := by simp [Region.wanted, hg]
  simp only [hi, hw, if_true, Oper.wpIn, hro, Oper.semAt_none, hrun, Oper.uponIn]
  exact ⟨hab', h⟩
theorem wpAnyIn_skip {i : Nat} {o : Oper} {fuel : Nat} {listed : Array Bool} {a : Act} {w w' : World} (hro : F.round = none) (hr : Region.ready md ops listed = [i]) (hi0 : ops.toList[i]? = some o) (hg : o.guard = none)
    (hab : o.about P w a.eval = none) (hrun : (execOp a.eval o).run P w = .ok .skip w') (h : wpAnyIn F n P md ops Q fuel (listed.setIfInBounds i true) (a.put o.dst undef) w') : wpAnyIn F n P md ops Q (fuel + 1) listed a w := by
  have hi := opAt hi0
  refine wpAnyIn_all hr (by simp) (fun j hj => ?_)
  have e : j = i := by simpa using hj
  subst e
  unfold wpOpIn
  have hab' : ∀ f, o.about P w a.eval = some f → F.fn f := fun f hf => by rw [hab] at hf; cases hf
  have hw : Region.wanted o (yielded ops a.tmps) = true := by simp [Region.wanted, hg]
  simp only [hi, hw, if_true, Oper.wpIn, hro, Oper.semAt_none, hrun, Oper.uponIn]
  exact ⟨hab', h⟩
/-- A call, the one that may come up. -/
theorem wpAnyIn_call {i : Nat} {o : Oper} {f : FuncId} {args : Array Value} {fuel : Nat} {listed : Array Bool} {a : Act} {w w' : World} (hr : Region.ready md ops listed = [i]) (hi0 : ops.toList[i]? = some o) (hg : o.guard = none)
    (hrun : (execOp a.eval o).run P w = .ok (.enter f args) w') (h : Calls P f args w' fun e w2 => ∃ v, e = .returned v ∧ wpAnyIn (Wd none) n P md ops Q fuel (listed.setIfInBounds i true) (a.put o.dst v) w2) : wpAnyIn (Wd none) n P md ops Q (fuel + 1) listed a w := by
  have hi := opAt hi0
  refine wpAnyIn_all hr (by simp) (fun j hj => ?_)
  have e : j = i := by simpa using hj
  subst e
  unfold wpOpIn
  have hw : Region.wanted o (yielded ops a.tmps) = true := by simp [Region.wanted, hg]
  simp only [hi, hw, if_true, Oper.wpIn, Oper.semAt_none, hrun, Oper.uponIn]
  refine ⟨fun _ _ => trivial, fun h => by simp [Fence.wide] at h, (callsIn_wd.2 h).mono ?_⟩
  rintro e w2 ⟨v, rfl, h⟩
  exact h
/-- Two that may come up. -/
theorem wpAnyIn_or {i j : Nat} {oi oj : Oper} {vi vj : Value} {fuel : Nat} {listed : Array Bool} {a : Act} {w wi wj : World} (hro : F.round = none) (hr : Region.ready md ops listed = [i, j]) (hi0 : ops.toList[i]? = some oi) (hj0 : ops.toList[j]? = some oj) (gi : oi.guard = none) (gj : oj.guard = none)
    (abi : oi.about P w a.eval = none) (abj : oj.about P w a.eval = none) (runi : (execOp a.eval oi).run P w = .ok (.value vi) wi) (runj : (execOp a.eval oj).run P w = .ok (.value vj) wj)
    (h1 : wpAnyIn F n P md ops Q fuel (listed.setIfInBounds i true) (a.put oi.dst vi) wi) (h2 : wpAnyIn F n P md ops Q fuel (listed.setIfInBounds j true) (a.put oj.dst vj) wj) : wpAnyIn F n P md ops Q (fuel + 1) listed a w := by
  have hi := opAt hi0
  have hj := opAt hj0
  refine wpAnyIn_all hr (by simp) (fun k hk => ?_)
  have abi' : ∀ f, oi.about P w a.eval = some f → F.fn f := fun f hf => by rw [abi] at hf; cases hf
  have abj' : ∀ f, oj.about P w a.eval = some f → F.fn f := fun f hf => by rw [abj] at hf; cases hf
  have wi' : Region.wanted oi (yielded ops a.tmps) = true := by simp [Region.wanted, gi]
  have wj' : Region.wanted oj (yielded ops a.tmps) = true := by simp [Region.wanted, gj]
  rcases (by simpa using hk : k = i ∨ k = j) with rfl | rfl
  · unfold wpOpIn
    simp only [hi, wi', if_true, Oper.wpIn, hro, Oper.semAt_none, runi, Oper.uponIn]
    exact ⟨abi', h1⟩
  · unfold wpOpIn
    simp only [hj, wj', if_true, Oper.wpIn, hro, Oper.semAt_none, runj, Oper.uponIn]
    exact ⟨abj', h2⟩
end
end Go.Mv
