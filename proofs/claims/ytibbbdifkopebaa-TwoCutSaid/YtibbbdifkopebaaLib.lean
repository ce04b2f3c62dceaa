/-
  Plain laws over any program, used by every walk of this seat: a range over a function whose iterator may keep cells of its own.
-/
import Derived.RangeFuncNested
import Derived.RangeFuncLeaves
import Derived.WalkKit
set_option linter.all false
namespace Go
/-- The element type of a block of cells. -/
def Obj.ty : Obj → Option TypeId
  | .cells _ t _ => some t
  | _ => none
end Go
namespace Go.Mv
open Go.RowKit

/-- The fence without a bound, in a round or in none. -/
abbrev Wd (ro : Option Nat) : Fence := { Fence.wide with round := ro }

theorem callsIn_wd {P : Program} {ro : Option Nat} {n : Nat} {f : FuncId} {args : Array Value} {w : World} {R : Ending → World → Prop} :
    CallsIn (Wd ro) n P f args w R ↔ Calls P f args w R :=
  (callsIn_wide (n := n) (P := P) (f := f) (args := args) (w := w) (R := R))

theorem roundIn_wd {P : Program} {ro : Option Nat} {n m : Nat} {l : Nat} {f : FuncId} {tmps : Array Value} {assign body : Code} {w : World} {R : Ending → World → Prop}
    (h : RoundIn Fence.wide m P l f tmps assign body w R) : RoundIn (Wd ro) n P l f tmps assign body w R :=
  ⟨trivial, fun c cs _ => h.2 c cs (room_wide _)⟩

/-- What a round keeps: the blocks of K. -/
structure Kept (K : Nat → Obj → Prop) (A B : World) : Prop where
  size : A.heap.size ≤ B.heap.size
  same : ∀ (k : Nat) (o : Obj), A.heap[k]? = some o → K k o → B.heap[k]? = some o

/-- What an iterator may turn between two rounds: the blocks of M; new blocks. -/
structure Moves (M : Nat → Obj → Prop) (A B : World) : Prop where
  os : B.os = A.os
  tape : B.tape = A.tape
  output : B.output = A.output
  size : A.heap.size ≤ B.heap.size
  same : ∀ (k : Nat) (o : Obj), A.heap[k]? = some o → ¬ M k o → B.heap[k]? = some o

theorem isCells_of_ty {o : Obj} {t : TypeId} (h : o.ty = some t) : o.isCells = true := by cases o <;> simp_all [Obj.ty, Obj.isCells]
theorem ty_none {o : Obj} (h : o.isCells = false) : o.ty = none := by cases o <;> simp_all [Obj.ty, Obj.isCells]

/-- The blocks of M, and what is no cells from n on. -/
def orOther (M : Nat → Obj → Prop) (n : Nat) : Nat → Obj → Prop := fun k o => M k o ∨ (n ≤ k ∧ o.isCells = false)

theorem heap_setCell_cells {W : World} {a : Addr} {v : Value} {o : Obj} (h : W.heap[a.block]? = some o) (hc : o.isCells = false) : (W.setCell a v).heap[a.block]? = some o := by
  obtain ⟨hlt, hk'⟩ := Array.getElem?_eq_some_iff.1 h
  show (W.heap.modify a.block _)[a.block]? = some o
  rw [Array.getElem?_eq_getElem (by rw [Array.size_modify]; exact hlt), Array.getElem_modify_self, hk']
  cases o <;> first | rfl | (simp [Obj.isCells] at hc)

section
variable {K M M' : Nat → Obj → Prop} {n : Nat} {A B C : World}
theorem Kept.refl : Kept K A A := ⟨Nat.le_refl _, fun _ _ h _ => h⟩
theorem Kept.trans (h : Kept K A B) (k : Kept K B C) : Kept K A C := ⟨Nat.le_trans h.size k.size, fun i o hi ho => k.same i o (h.same i o hi ho) ho⟩
theorem Kept.alloc (h : Kept K A B) (o : Obj) : Kept K A (B.alloc o) :=
  h.trans ⟨by simp, fun k _ hk _ => (Below.heap_alloc B o k (Array.getElem?_eq_some_iff.1 hk).1).trans hk⟩
theorem Kept.drew (h : Kept K A B) : Kept K A B.drew := ⟨h.size, h.same⟩
theorem Kept.setCell (h : Kept K A B) {a : Addr} (ha : ∀ o, A.heap[a.block]? = some o → o.isCells = true → ¬ K a.block o) (v : Value) : Kept K A (B.setCell a v) :=
  ⟨Nat.le_trans h.size (by simp [World.setCell]), fun k o hk ho => by
    have hk2 := h.same k o hk ho
    by_cases e : k = a.block
    · subst e
      cases hc : o.isCells with
      | true => exact absurd ho (ha o hk hc)
      | false => exact heap_setCell_cells hk2 hc
    · exact (Below.heap_setCell B a v k e).trans hk2⟩
theorem Kept.below {N : Nat} (h : Kept K A B) (hb : Below N B C) (hN : B.heap.size ≤ N) : Kept K A C :=
  h.trans ⟨hb.size, fun k _ hk _ => (hb.block k (Nat.lt_of_lt_of_le (Array.getElem?_eq_some_iff.1 hk).1 hN)).trans hk⟩
theorem Kept.grown {row : Option Nat} (h : Kept K A B) (hg : B.grownBy C row) (hr : ∀ k o, row = some k → A.heap[k]? = some o → ¬ K k o) : Kept K A C :=
  ⟨Nat.le_trans h.size hg.size, fun k o hk ho => by
    have hk2 := h.same k o hk ho
    refine (hg.block k (Array.getElem?_eq_some_iff.1 hk2).1 (fun e => ?_)).trans hk2
    exact hr k o e.symm hk ho⟩
theorem Kept.mono {K' : Nat → Obj → Prop} (h : Kept K A B) (hK : ∀ k o, K' k o → K k o) : Kept K' A B := ⟨h.size, fun k o hk ho => h.same k o hk (hK k o ho)⟩
theorem Kept.cell (h : Kept K A B) {p : Addr} {v : Value} (hc : A.cell? p = some v) (hp : ∀ o, A.heap[p.block]? = some o → K p.block o) : B.cell? p = some v := by
  obtain ⟨o, ho, _⟩ := cells_of_cell hc
  exact (World.cell?_of_block ((h.same _ o ho (hp o ho)).trans ho.symm)).trans hc

theorem Moves.refl : Moves M A A := ⟨rfl, rfl, rfl, Nat.le_refl _, fun _ _ h _ => h⟩
theorem Moves.trans (h : Moves M A B) (k : Moves M B C) : Moves M A C :=
  ⟨k.os.trans h.os, k.tape.trans h.tape, k.output.trans h.output, Nat.le_trans h.size k.size, fun i o hi hm => k.same i o (h.same i o hi hm) hm⟩
theorem Moves.alloc (h : Moves M A B) (o : Obj) : Moves M A (B.alloc o) :=
  h.trans ⟨rfl, rfl, rfl, by simp, fun k _ hk _ => (Below.heap_alloc B o k (Array.getElem?_eq_some_iff.1 hk).1).trans hk⟩
theorem Moves.drew (h : Moves M A B) : Moves M A B.drew := ⟨h.os, h.tape, h.output, h.size, h.same⟩
theorem Moves.setCell (h : Moves M A B) {a : Addr} (ha : ∀ o, A.heap[a.block]? = some o → o.isCells = true → M a.block o) (v : Value) : Moves M A (B.setCell a v) :=
  ⟨h.os, h.tape, h.output, Nat.le_trans h.size (by simp [World.setCell]), fun k o hk hm => by
    have hk2 := h.same k o hk hm
    by_cases e : k = a.block
    · subst e
      cases hc : o.isCells with
      | true => exact absurd (ha o hk hc) hm
      | false => exact heap_setCell_cells hk2 hc
    · exact (Below.heap_setCell B a v k e).trans hk2⟩
theorem Moves.putObj (h : Moves M A B) {l : Nat} (hl : ∀ o, A.heap[l]? = some o → M l o) (o' : Obj) : Moves M A (B.putObj l o') :=
  ⟨h.os, h.tape, h.output, Nat.le_trans h.size (by simp), fun k o₁ hk hm =>
    (World.putObj_heap_other (fun e => by subst e; exact hm (hl _ hk))).trans (h.same k o₁ hk hm)⟩
theorem Moves.below {N : Nat} (h : Moves M A B) (hb : Below N B C) (hN : B.heap.size ≤ N) : Moves M A C :=
  h.trans ⟨hb.os, hb.tape, hb.output, hb.size, fun k _ hk _ => (hb.block k (Nat.lt_of_lt_of_le (Array.getElem?_eq_some_iff.1 hk).1 hN)).trans hk⟩
theorem Moves.weaken (h : Moves M A B) (hM : ∀ k o, M k o → M' k o) : Moves M' A B :=
  ⟨h.os, h.tape, h.output, h.size, fun k o hk hm => h.same k o hk (fun e => hm (hM k o e))⟩
theorem Moves.cell (h : Moves M A B) {p : Addr} {v : Value} (hc : A.cell? p = some v) (hp : ∀ o, A.heap[p.block]? = some o → o.isCells = true → ¬ M p.block o) : B.cell? p = some v := by
  obtain ⟨o, ho, hcells⟩ := cells_of_cell hc
  exact (World.cell?_of_block ((h.same _ _ ho (hp o ho hcells)).trans ho.symm)).trans hc
theorem Moves.belowOf {N : Nat} {w : World} (h : Moves M A B) (hb : Below N w A) (hM : ∀ k o, k < N → ¬ M k o) (hw : N ≤ w.heap.size) : Below N w B :=
  ⟨h.os.trans hb.os, h.tape.trans hb.tape, h.output.trans hb.output, Nat.le_trans hb.size h.size, fun k hk => by
    have e : w.heap[k]? = some w.heap[k] := Array.getElem?_eq_getElem (by omega)
    exact (h.same k _ ((hb.block k hk).trans e) (hM k _ hk)).trans e.symm⟩
theorem Moves.boxed (h : Moves M A B) {b : Nat} {t : TypeId} {v : Value} (hb : Boxed A b t v) (hM : ¬ M b (.cells #[v] t (0, 0))) : Boxed B b t v := h.same b _ hb hM
theorem Kept.boxed (h : Kept K A B) {b : Nat} {t : TypeId} {v : Value} (hb : Boxed A b t v) (hK : K b (.cells #[v] t (0, 0))) : Boxed B b t v := h.same b _ hb hK
theorem Moves.ownsRow (h : Moves M A B) {base : Nat} {e : TypeId} {size : Nat} {v : Value} {m : Nat} {xs : List Value} (ho : A.ownsRow base e size v m xs)
    (hM : ∀ k cur, v.ownBlock = some k → ¬ M k (.cells cur e (0, 0))) : B.ownsRow base e size v m xs := by
  refine ⟨ho.1, ?_⟩
  rcases ho.2 with hn | ⟨g, cap, cur, rfl, hb, hgg, rest⟩
  · exact .inl hn
  · exact .inr ⟨g, cap, cur, rfl, hb, h.same _ _ hgg (hM g cur rfl), rest⟩
end

/-- A call of yield: its run, and the round's contract. -/
def YieldsAt (P : Program) (l : Nat) (args : Array Value) (W : World) (R : Ending → World → Prop) : Prop :=
  ∃ fn tmps assign body, (Instr.yield l args).run P W = .ok (.round l fn tmps assign body) W ∧ RoundIn Fence.wide 0 P l fn tmps assign body W R

/-- AN ITERATOR's CONTRACT, in the world W0 in which it is called: it yields the data xs, one after the other, as 'Rp' represents them; it turns the blocks of M alone (and its own); it wants of a round that the blocks of K be kept. -/
def Seq (P : Program) (gf : Nat) (lb : Array Value) {α : Type} (Rp : α → Array Value → World → Prop) (K M : Nat → Obj → Prop) (xs : List α) (W0 : World) : Prop :=
  ∀ (l : Nat) (J Jx : List α → World → Prop),
    (∀ s A B, J s A → Moves (orOther M W0.heap.size) A B → J s B) → (∀ s A B, Jx s A → Moves (orOther M W0.heap.size) A B → Jx s B) →
    (∀ pre x post, xs = pre ++ x :: post → ∀ (W : World) (av : Array Value), J pre W → W0.heap.size ≤ W.heap.size → Rp x av W → YieldsAt P l av W fun e W' =>
      Kept (orOther K W0.heap.size) W W' ∧ ((e = .returned (.bool true) ∧ J (pre ++ [x]) W') ∨ (e = .returned (.bool false) ∧ Jx (pre ++ [x]) W'))) →
    J [] W0 →
    Calls P gf (#[.func (.yield l) #[] #[]] ++ lb) W0 fun e W' => (∃ v, e = .returned v) ∧ (J xs W' ∨ ∃ pre, pre <+: xs ∧ Jx pre W')

/-- HOW THE BODY OF A ROUND MAY BE LEFT. -/
def rdPost {α : Type} (K : Nat → Obj → Prop) (I : List α → World → Prop) (Ix : Code → List α → World → Prop) (xs : List α) (W : World) : Exit → Act → World → Prop
  | .normal, _, W' => Kept K W W' ∧ I xs W'
  | .ret, _, W' => Kept K W W' ∧ Ix .ret xs W'
  | .exit id, _, W' => Kept K W W' ∧ Ix (.exit id) xs W'
  | .goto t, _, W' => Kept K W W' ∧ Ix (.goto t) xs W'
  | .panic _, _, _ => False
  | .outgrown, _, _ => False

/-- What both laws share: behind 'enterLoop' the record l lies in W1, ready; the rest of W1 is w's, or the new block for deferred calls. -/
theorem range_core {P : Program} {α : Type} {ro : Option Nat} {n : Nat} {g : Operand} {ps : Array Tmp} {assign body : Code} {Q : Exit → Act → World → Prop} {a : Act} {w : World}
    {gf : Nat} {lb : Array Value} (hg : a.eval g = .func (.func gf) #[] lb) (eg : ∀ args w, (callFunc gf args).run P w = .ok (.enter gf args) w)
    {Rp : α → Array Value → World → Prop} {K M : Nat → Obj → Prop} {xs : List α}
    (hMc : ∀ k o, M k o → o.isCells = true) (hKc : ∀ k o, K k o → o.isCells = true) (hps : ∀ x av W, Rp x av W → av.size = ps.size)
    (I : List α → World → Prop) (Ix : Code → List α → World → Prop)
    (hI : ∀ s A B, I s A → Moves (orOther M w.heap.size) A B → I s B) (hIx : ∀ c s A B, Ix c s A → Moves (orOther M w.heap.size) A B → Ix c s B)
    (Ax : α → Act → World → Prop) (hAx : ∀ x a' A B, Ax x a' A → Moves (orOther (fun _ _ => False) w.heap.size) A B → Ax x a' B)
    (hassign : ∀ (l : Nat) (pre : List α) (x : α) (post : List α) (W : World) (av : Array Value) (K' : Act → World → Prop), xs = pre ++ x :: post → I pre W → w.heap.size ≤ W.heap.size → Rp x av W →
      (∀ a' W', Kept (orOther K w.heap.size) W W' → I pre W' → Ax x a' W' → K' a' W') →
      assign.wpIn (Wd (some l)) n P (Exit.then K' (fun _ _ _ => False)) { tmps := (ps.zip av).foldl (fun t (p, v) => t.setIfInBounds p v) a.tmps, defers := [] } W)
    (hbody : ∀ (l : Nat) (pre : List α) (x : α) (post : List α) (a' : Act) (W : World), xs = pre ++ x :: post → w.heap.size ≤ l → (∃ r, W.heap[l]? = some (.loop r)) → I pre W → w.heap.size ≤ W.heap.size → Ax x a' W →
      body.wpIn (Wd (some l)) n P (rdPost (orOther K w.heap.size) I Ix (pre ++ [x]) W) a' W)
    {fn : FuncId} {l : Nat} {mark : List Deferred} {W1 : World} {dfs : Nat} (hl0 : w.heap.size ≤ l)
    (hseq : Seq P gf lb Rp K M xs W1) (hW1 : w.heap.size ≤ W1.heap.size)
    (henter : (Instr.enterLoop fn a.tmps ps assign body ro).run P w = .ok (l, mark) W1)
    (hL1 : W1.heap[l]? = some (.loop { state := .ready, pending := none, fn, tmps := a.tmps, params := ps, assign, body, defers := dfs }))
    (hI1 : I [] W1)
    (X : World → Prop) (hX : ∀ A B, X A → (∀ k o, A.heap[k]? = some o → w.heap.size ≤ k → k < W1.heap.size → k ≠ l → o.isCells = false → B.heap[k]? = some o) → X B) (hX1 : X W1)
    (hdone : ∀ W, I xs W → X W → Q .normal { a with defers := mark ++ a.defers } W)
    (hstop : ∀ c pre W, pre <+: xs → Ix c pre W → X W → c.wpIn (Wd ro) n P Q { a with defers := mark ++ a.defers } W) :
    ∃ (l : Nat) (mark : List Deferred) (w₁ : World) (d : Deferred) (w₁' : World) (f : FuncId) (args : Array Value) (w₂ : World),
      (Instr.enterLoop fn a.tmps ps assign body ro).run P w = .ok (l, mark) w₁ ∧
      (resolve a.eval (rangeCall g l) 0).run P w₁ = .ok d w₁' ∧
      (∀ f', Target.leads P w₁' d.target d.args = some f' → (Wd ro).fn f') ∧
      (invoke d.target d.args).run P w₁' = .ok (.enter f args) w₂ ∧
      ((Wd ro).depth.isSome = true → 1 ≤ n) ∧
      CallsIn (Wd ro) (n - 1) P f args w₂ (rangePost (Wd ro) n P l Q { a with defers := mark ++ a.defers }) := by
  obtain ⟨rec, hrec⟩ : ∃ rec : LoopState → Option Code → Loop, rec = fun st pe => { state := st, pending := pe, fn, tmps := a.tmps, params := ps, assign, body, defers := dfs } := ⟨_, rfl⟩
  have hL1' : W1.heap[l]? = some (.loop (rec .ready none)) := by rw [hrec]; exact hL1
  -- the record's own turns
  have put : ∀ (A : World) (o o' : Obj), A.heap[l]? = some o → o.isCells = false → Moves (orOther (fun _ _ => False) w.heap.size) A (A.putObj l o') := fun A o o' ho hc =>
    Moves.refl.putObj (fun o₁ h₁ => by rw [ho] at h₁; cases h₁; exact .inr ⟨hl0, hc⟩) o'
  have putI : ∀ s A o o', I s A → A.heap[l]? = some o → o.isCells = false → I s (A.putObj l o') := fun s A o o' hi ho hc =>
    hI s _ _ hi ((put A o o' ho hc).weaken (fun k o h => by rcases h with h | h; exact h.elim; exact .inr h))
  have putIx : ∀ c s A o o', Ix c s A → A.heap[l]? = some o → o.isCells = false → Ix c s (A.putObj l o') := fun c s A o o' hi ho hc =>
    hIx c s _ _ hi ((put A o o' ho hc).weaken (fun k o h => by rcases h with h | h; exact h.elim; exact .inr h))
  have hlt1 : l < W1.heap.size := (Array.getElem?_eq_some_iff.1 hL1').1
  have putX : ∀ A o', X A → X (A.putObj l o') := fun A o' hx => hX A _ hx (fun k o hk _ _ hne _ => (World.putObj_heap_other hne).trans hk)
  have keepX : ∀ {K' : Nat → Obj → Prop} (A B : World), X A → Kept (orOther K' w.heap.size) A B → X B := fun A B hx hk =>
    hX A B hx (fun k o ho hn _ _ hc => hk.same k o ho (.inr ⟨hn, hc⟩))
  have moveO : ∀ (A B : World) (k : Nat) (o : Obj), A.heap[k]? = some o → k < W1.heap.size → o.isCells = false → Moves (orOther M W1.heap.size) A B → B.heap[k]? = some o := fun A B k o ho hk hc hm =>
    hm.same k o ho (fun h => by
      rcases h with h | h
      · have := hMc k o h; rw [hc] at this; cases this
      · omega)
  have moveX : ∀ (A B : World), X A → Moves (orOther M W1.heap.size) A B → X B := fun A B hx hm =>
    hX A B hx (fun k o ho _ hlt _ hc => moveO A B k o ho hlt hc hm)
  have moveI : ∀ (A B : World), Moves (orOther M W1.heap.size) A B → Moves (orOther M w.heap.size) A B := fun A B hm =>
    hm.weaken (fun k o h => by rcases h with h | h; exact .inl h; exact .inr ⟨by omega, h.2⟩)
  refine ⟨l, mark, W1, { target := .fn (.func gf) lb, args := #[.func (.yield l) #[] #[]] }, W1, gf, #[.func (.yield l) #[] #[]] ++ lb, W1, henter, ?_, fun _ _ => trivial, ?_, fun h => by simp [Fence.wide] at h, ?_⟩
  · simp only [resolve, hg]
    simp [go_sem]
  · simp [invoke, go_sem, eg]
  · refine callsIn_wd.2 ?_
    refine (hseq l
      (fun pre W => I pre W ∧ W.heap[l]? = some (.loop (rec .ready none)) ∧ X W)
      (fun pre W => ∃ c, Ix c pre W ∧ W.heap[l]? = some (.loop (rec .done (some c))) ∧ X W)
      (fun s A B hs hm => ⟨hI s A B hs.1 (moveI A B hm), moveO A B l _ hs.2.1 hlt1 rfl hm, moveX A B hs.2.2 hm⟩)
      (fun s A B hs hm => by
        obtain ⟨c, hc, hl, hx⟩ := hs
        exact ⟨c, hIx c s A B hc (moveI A B hm), moveO A B l _ hl hlt1 rfl hm, moveX A B hx hm⟩)
      ?_ ⟨hI1, hL1', hX1⟩).mono ?_
    · -- ONE ROUND
      rintro pre x post hxs W av ⟨hi, hl, hx⟩ hsz hrp
      have hy := run_yield (P := P) (args := av) hl (by rw [hrec]; exact hps x av W hrp)
      rw [hrec] at hy
      refine ⟨fn, _, assign, body, hy, ?_⟩
      clear hy
      have rd := roundIn_of_wpIn (F := Wd (some l)) (n := n) (P := P) (l := l) (f := fn) (w := W) (assign := assign) (body := body) (tmps := (ps.zip av).foldl (fun t (p, v) => t.setIfInBounds p v) a.tmps)
        (R := fun e W' => Kept (orOther K W1.heap.size) W W' ∧ ((e = .returned (.bool true) ∧ I (pre ++ [x]) W' ∧ W'.heap[l]? = some (.loop (rec .ready none)) ∧ X W') ∨
          (e = .returned (.bool false) ∧ ∃ c, Ix c (pre ++ [x]) W' ∧ W'.heap[l]? = some (.loop (rec .done (some c))) ∧ X W')))
        trivial (hassign l pre x post W av _ hxs hi (by omega) hrp ?_)
      · exact ⟨trivial, fun c cs _ => rd.2 c cs (room_wide _)⟩
      · intro a' Wa hka hia hax
        have hla := hka.same l _ hl (.inr ⟨hl0, rfl⟩)
        have hxa := keepX W Wa hx hka
        have hlta : l < Wa.heap.size := (Array.getElem?_eq_some_iff.1 hla).1
        refine ⟨_, run_beginRound hla (by rw [hrec]), ?_⟩
        have hl2 : (Wa.putObj l (.loop { rec .ready none with state := .busy })).heap[l]? = some (.loop { rec .ready none with state := .busy }) := World.putObj_heap_same hlta
        refine wpIn_mono (hbody l pre x post a' _ hxs hl0 ⟨_, hl2⟩ (putI _ _ _ _ hia hla rfl) (by simp; have := hka.size; omega) (hAx x a' _ _ hax (put _ _ _ hla rfl))) ?_
        -- what is known behind the body
        have fin : ∀ (jump : Option Code) (W3 : World), Kept (orOther K w.heap.size) (Wa.putObj l (.loop { rec .ready none with state := .busy })) W3 →
            (Instr.endRound l jump).run P W3 = .ok (.bool jump.isNone) (W3.putObj l (.loop (rec (if jump.isNone then .ready else .done) jump))) ∧
            W3.heap[l]? = some (.loop { rec .ready none with state := .busy }) ∧
            (W3.putObj l (.loop (rec (if jump.isNone then .ready else .done) jump))).heap[l]? = some (.loop (rec (if jump.isNone then .ready else .done) jump)) ∧
            X (W3.putObj l (.loop (rec (if jump.isNone then .ready else .done) jump))) ∧
            Kept (orOther K W1.heap.size) W (W3.putObj l (.loop (rec (if jump.isNone then .ready else .done) jump))) := fun jump W3 hk3 => by
          have hl3 := hk3.same l _ hl2 (.inr ⟨hl0, rfl⟩)
          have hrun := run_endRound (P := P) jump hl3
          rw [hrec] at hrun ⊢
          refine ⟨hrun, by rw [hrec] at hl3; exact hl3, World.putObj_heap_same (Array.getElem?_eq_some_iff.1 hl3).1, putX _ _ (keepX _ _ (putX _ _ hxa) hk3), ⟨?_, ?_⟩⟩
          · have h1 := hka.size; have h2 := hk3.size; simp at h2 ⊢; omega
          · intro k o hk hK
            have hKw : orOther K w.heap.size k o := by
              rcases hK with h | h
              · exact .inl h
              · exact .inr ⟨by omega, h.2⟩
            by_cases e : k = l
            · subst e
              rw [hl] at hk; cases hk
              rcases hK with h | h
              · have := hKc _ _ h; cases this
              · omega
            · have h1 := hka.same k o hk hKw
              have h2 := hk3.same k o ((World.putObj_heap_other e).trans h1) hKw
              exact (World.putObj_heap_other e).trans h2
        rintro e a3 W3 hp
        cases e with
        | normal =>
          obtain ⟨hk3, hi3⟩ := hp
          obtain ⟨hr, hl3, hl4, hx4, hk4⟩ := fin none W3 hk3
          exact ⟨_, _, hr, hk4, .inl ⟨rfl, putI _ _ _ _ hi3 hl3 rfl, hl4, hx4⟩⟩
        | ret =>
          obtain ⟨hk3, hi3⟩ := hp
          obtain ⟨hr, hl3, hl4, hx4, hk4⟩ := fin (some .ret) W3 hk3
          exact ⟨_, _, hr, hk4, .inr ⟨rfl, .ret, putIx _ _ _ _ _ hi3 hl3 rfl, hl4, hx4⟩⟩
        | exit id =>
          obtain ⟨hk3, hi3⟩ := hp
          obtain ⟨hr, hl3, hl4, hx4, hk4⟩ := fin (some (.exit id)) W3 hk3
          exact ⟨_, _, hr, hk4, .inr ⟨rfl, .exit id, putIx _ _ _ _ _ hi3 hl3 rfl, hl4, hx4⟩⟩
        | goto t =>
          obtain ⟨hk3, hi3⟩ := hp
          obtain ⟨hr, hl3, hl4, hx4, hk4⟩ := fin (some (.goto t)) W3 hk3
          exact ⟨_, _, hr, hk4, .inr ⟨rfl, .goto t, putIx _ _ _ _ _ hi3 hl3 rfl, hl4, hx4⟩⟩
        | panic ch => exact hp.elim
        | outgrown => exact hp.elim
    · -- BEHIND THE ITERATOR
      rintro e W2 ⟨⟨v, rfl⟩, (⟨hi, hl, hx⟩ | ⟨pre, hpre, c, hi, hl, hx⟩)⟩
      · exact ⟨none, _, by have := run_endLoop (P := P) hl (by rw [hrec]; simp); rw [hrec] at this; exact this, hdone _ (putI _ _ _ _ hi hl rfl) (putX _ _ hx)⟩
      · exact ⟨some c, _, by have := run_endLoop (P := P) hl (by rw [hrec]; simp); rw [hrec] at this; exact this, hstop c pre _ hpre (putIx _ _ _ _ _ hi hl rfl) (putX _ _ hx)⟩

/-- **A RANGE OVER A FUNCTION, in no round.** -/
theorem wp_range {P : Program} {α : Type} {n : Nat} {g : Operand} {ps : Array Tmp} {assign body : Code} {Q : Exit → Act → World → Prop} {a : Act} {w : World}
    {gf : Nat} {lb : Array Value} (hg : a.eval g = .func (.func gf) #[] lb) (eg : ∀ args w, (callFunc gf args).run P w = .ok (.enter gf args) w)
    {Rp : α → Array Value → World → Prop} {K M : Nat → Obj → Prop} {xs : List α}
    (hseq : ∀ W1, Below w.heap.size w W1 → W1.heap.size = w.heap.size + 2 → Seq P gf lb Rp K M xs W1)
    (hMc : ∀ k o, M k o → o.isCells = true) (hKc : ∀ k o, K k o → o.isCells = true) (hps : ∀ x av W, Rp x av W → av.size = ps.size)
    (I : List α → World → Prop) (Ix : Code → List α → World → Prop)
    (hI : ∀ s A B, I s A → Moves (orOther M w.heap.size) A B → I s B) (hIx : ∀ c s A B, Ix c s A → Moves (orOther M w.heap.size) A B → Ix c s B) (h0 : I [] w)
    (Ax : α → Act → World → Prop) (hAx : ∀ x a' A B, Ax x a' A → Moves (orOther (fun _ _ => False) w.heap.size) A B → Ax x a' B)
    (hassign : ∀ (l : Nat) (pre : List α) (x : α) (post : List α) (W : World) (av : Array Value) (K' : Act → World → Prop), xs = pre ++ x :: post → I pre W → w.heap.size ≤ W.heap.size → Rp x av W →
      (∀ a' W', Kept (orOther K w.heap.size) W W' → I pre W' → Ax x a' W' → K' a' W') →
      assign.wpIn (Wd (some l)) n P (Exit.then K' (fun _ _ _ => False)) { tmps := (ps.zip av).foldl (fun t (p, v) => t.setIfInBounds p v) a.tmps, defers := [] } W)
    (hbody : ∀ (l : Nat) (pre : List α) (x : α) (post : List α) (a' : Act) (W : World), xs = pre ++ x :: post → w.heap.size ≤ l → (∃ r, W.heap[l]? = some (.loop r)) → I pre W → w.heap.size ≤ W.heap.size → Ax x a' W →
      body.wpIn (Wd (some l)) n P (rdPost (orOther K w.heap.size) I Ix (pre ++ [x]) W) a' W)
    (hdone : ∀ D W, w.heap.size ≤ D → I xs W → W.heap[D]? = some (.deferred (some [])) → Q .normal { a with defers := { target := .collected D, args := #[] } :: a.defers } W)
    (hstop : ∀ D c pre W, w.heap.size ≤ D → pre <+: xs → Ix c pre W → W.heap[D]? = some (.deferred (some [])) → c.wpIn (Wd none) n P Q { a with defers := { target := .collected D, args := #[] } :: a.defers } W) :
    (Code.rangeFunc g ps assign body).wpIn (Wd none) n P Q a w := by
  refine wpIn_rangeFunc ?_
  intro fn _
  obtain ⟨W1, hW1⟩ : ∃ W1, (w.alloc (.deferred (some []))).alloc (.loop { state := .ready, pending := none, fn, tmps := a.tmps, params := ps, assign, body, defers := w.heap.size }) = W1 := ⟨_, rfl⟩
  have hb1 : Below w.heap.size w W1 := by rw [← hW1]; exact ((Below.refl _ w).alloc (Nat.le_refl _) _).alloc (by simp) _
  have hs1 : W1.heap.size = w.heap.size + 2 := by rw [← hW1]; simp
  have hL1 : W1.heap[w.heap.size + 1]? = some (.loop { state := .ready, pending := none, fn, tmps := a.tmps, params := ps, assign, body, defers := w.heap.size }) := by
    rw [← hW1]; have := World.alloc_heap_new (w.alloc (.deferred (some []))) (.loop { state := .ready, pending := none, fn, tmps := a.tmps, params := ps, assign, body, defers := w.heap.size }); rwa [World.size_alloc] at this
  have hK1 : W1.heap[w.heap.size]? = some (.deferred (some [])) := by
    rw [← hW1]; exact (Below.heap_alloc _ _ _ (by simp)).trans (World.alloc_heap_new w _)
  have hm1 : Moves (orOther M w.heap.size) w W1 := by rw [← hW1]; exact (Moves.refl.alloc _).alloc _
  refine range_core (fn := fn) (mark := [{ target := .collected w.heap.size, args := #[] }]) (l := w.heap.size + 1) (W1 := W1) (dfs := w.heap.size) hg eg hMc hKc hps I Ix hI hIx Ax hAx hassign hbody (by omega) (hseq W1 hb1 hs1) (by omega) ?_ hL1 (hI _ _ _ h0 hm1)
    (fun W => W.heap[w.heap.size]? = some (.deferred (some []))) ?_ hK1 (fun W hi hx => hdone _ W (Nat.le_refl _) hi hx) (fun c pre W hp hi hx => hstop _ c pre W (Nat.le_refl _) hp hi hx)
  · rw [← hW1]; exact run_enterLoop_outer _ _ _ _ _
  · intro A B hx hk
    exact hk _ _ hx (Nat.le_refl _) (by omega) (by omega) rfl

/-- **A RANGE OVER A FUNCTION within a round of loop l₀.** -/
theorem wp_range_in {P : Program} {α : Type} {n : Nat} {g : Operand} {ps : Array Tmp} {assign body : Code} {Q : Exit → Act → World → Prop} {a : Act} {w : World} {l₀ : Nat} (hr₀ : ∃ r₀, w.heap[l₀]? = some (.loop r₀))
    {gf : Nat} {lb : Array Value} (hg : a.eval g = .func (.func gf) #[] lb) (eg : ∀ args w, (callFunc gf args).run P w = .ok (.enter gf args) w)
    {Rp : α → Array Value → World → Prop} {K M : Nat → Obj → Prop} {xs : List α}
    (hseq : ∀ W1, Below w.heap.size w W1 → W1.heap.size = w.heap.size + 1 → Seq P gf lb Rp K M xs W1)
    (hMc : ∀ k o, M k o → o.isCells = true) (hKc : ∀ k o, K k o → o.isCells = true) (hps : ∀ x av W, Rp x av W → av.size = ps.size)
    (I : List α → World → Prop) (Ix : Code → List α → World → Prop)
    (hI : ∀ s A B, I s A → Moves (orOther M w.heap.size) A B → I s B) (hIx : ∀ c s A B, Ix c s A → Moves (orOther M w.heap.size) A B → Ix c s B) (h0 : I [] w)
    (Ax : α → Act → World → Prop) (hAx : ∀ x a' A B, Ax x a' A → Moves (orOther (fun _ _ => False) w.heap.size) A B → Ax x a' B)
    (hassign : ∀ (l : Nat) (pre : List α) (x : α) (post : List α) (W : World) (av : Array Value) (K' : Act → World → Prop), xs = pre ++ x :: post → I pre W → w.heap.size ≤ W.heap.size → Rp x av W →
      (∀ a' W', Kept (orOther K w.heap.size) W W' → I pre W' → Ax x a' W' → K' a' W') →
      assign.wpIn (Wd (some l)) n P (Exit.then K' (fun _ _ _ => False)) { tmps := (ps.zip av).foldl (fun t (p, v) => t.setIfInBounds p v) a.tmps, defers := [] } W)
    (hbody : ∀ (l : Nat) (pre : List α) (x : α) (post : List α) (a' : Act) (W : World), xs = pre ++ x :: post → w.heap.size ≤ l → (∃ r, W.heap[l]? = some (.loop r)) → I pre W → w.heap.size ≤ W.heap.size → Ax x a' W →
      body.wpIn (Wd (some l)) n P (rdPost (orOther K w.heap.size) I Ix (pre ++ [x]) W) a' W)
    (hdone : ∀ W, I xs W → Q .normal a W)
    (hstop : ∀ c pre W, pre <+: xs → Ix c pre W → c.wpIn (Wd (some l₀)) n P Q a W) :
    (Code.rangeFunc g ps assign body).wpIn (Wd (some l₀)) n P Q a w := by
  obtain ⟨r₀, hr₀⟩ := hr₀
  refine wpIn_rangeFunc ?_
  intro fn _
  obtain ⟨W1, hW1⟩ : ∃ W1, w.alloc (.loop { state := .ready, pending := none, fn, tmps := a.tmps, params := ps, assign, body, defers := r₀.defers }) = W1 := ⟨_, rfl⟩
  have hb1 : Below w.heap.size w W1 := by rw [← hW1]; exact (Below.refl _ w).alloc (Nat.le_refl _) _
  have hs1 : W1.heap.size = w.heap.size + 1 := by rw [← hW1]; simp
  have hL1 : W1.heap[w.heap.size]? = some (.loop { state := .ready, pending := none, fn, tmps := a.tmps, params := ps, assign, body, defers := r₀.defers }) := by
    rw [← hW1]; exact World.alloc_heap_new w _
  have hm1 : Moves (orOther M w.heap.size) w W1 := by rw [← hW1]; exact Moves.refl.alloc _
  refine range_core (fn := fn) (mark := []) (l := w.heap.size) (W1 := W1) (dfs := r₀.defers) hg eg hMc hKc hps I Ix hI hIx Ax hAx hassign hbody (by omega) (hseq W1 hb1 hs1) (by omega) ?_ hL1 (hI _ _ _ h0 hm1)
    (fun _ => True) (fun _ _ _ _ => trivial) trivial (fun W hi _ => hdone W hi) (fun c pre W hp hi _ => hstop c pre W hp hi)
  rw [← hW1]; exact run_enterLoop_inner hr₀ _ _ _ _ _

theorem heap_setCell_obj {W : World} {D : Nat} {o : Obj} (h : W.heap[D]? = some o) (hc : o.isCells = false) (a : Addr) (v : Value) : (W.setCell a v).heap[D]? = some o := by
  by_cases e : D = a.block
  · subst e; exact heap_setCell_cells h hc
  · exact (Below.heap_setCell W a v D e).trans h

/-- A return out of a function that has held one range over a function. -/
theorem ret_mark {P : Program} {n : Nat} {fn : Func} {tmps : Array Value} {R : Ending → World → Prop} {D : Nat} {W : World} (hK : W.heap[D]? = some (.deferred (some []))) (v : Value)
    (hres : (results fn tmps).run P (W.putObj D (.deferred none)) = .ok v (W.putObj D (.deferred none))) (hR : R (.returned v) (W.putObj D (.deferred none))) :
    bodyPostM (Wd none) n P fn R .ret ⟨tmps, [{ target := .collected D, args := #[] }]⟩ W :=
  ⟨by simp, .inl ⟨_, _, rfl, run_takeDeferred hK, ⟨_, hres, hR⟩⟩⟩
theorem end_mark {P : Program} {n : Nat} {fn : Func} {tmps : Array Value} {R : Ending → World → Prop} {D : Nat} {W : World} (hK : W.heap[D]? = some (.deferred (some []))) (v : Value)
    (hres : (results fn tmps).run P (W.putObj D (.deferred none)) = .ok v (W.putObj D (.deferred none))) (hR : R (.returned v) (W.putObj D (.deferred none))) :
    bodyPostM (Wd none) n P fn R .normal ⟨tmps, [{ target := .collected D, args := #[] }]⟩ W :=
  ⟨by simp, .inl ⟨_, _, rfl, run_takeDeferred hK, ⟨_, hres, hR⟩⟩⟩
/-- What lies behind that last step. -/
theorem Moves.closed {M : Nat → Obj → Prop} {A B : World} (h : Moves M A B) {D : Nat} (hD : ∀ o, A.heap[D]? = some o → o.isCells = false → M D o) {o : Obj} (ho : B.heap[D]? = some o) (hc : o.isCells = false) : Moves M A (B.putObj D (.deferred none)) :=
  ⟨h.os, h.tape, h.output, Nat.le_trans h.size (by simp), fun k o₁ hk hm => by
    have hk2 := h.same k o₁ hk hm
    refine (World.putObj_heap_other (fun e => ?_)).trans hk2
    subst e
    rw [ho] at hk2; cases hk2
    exact hm (hD _ hk hc)⟩
theorem below_putObj {N : Nat} {w W : World} (h : Below N w W) {D : Nat} (hD : N ≤ D) (o : Obj) : Below N w (W.putObj D o) :=
  ⟨h.os, h.tape, h.output, Nat.le_trans h.size (by simp), fun k hk => (World.putObj_heap_other (by omega)).trans (h.block k hk)⟩
theorem boxed_putObj {W : World} {b : Nat} {t : TypeId} {v : Value} (h : Boxed W b t v) {D : Nat} {o : Obj} (hD : W.heap[D]? = some o) (hc : o.isCells = false) (o' : Obj) : Boxed (W.putObj D o') b t v := by
  refine (World.putObj_heap_other (fun e => ?_)).trans h
  subst e
  rw [show W.heap[b]? = _ from h] at hD; cases hD; cases hc
theorem cell_putObj {W : World} {p : Addr} {v : Value} (h : W.cell? p = some v) {D : Nat} {o : Obj} (hD : W.heap[D]? = some o) (hc : o.isCells = false) (o' : Obj) : (W.putObj D o').cell? p = some v := by
  obtain ⟨o₁, ho, hcells⟩ := cells_of_cell h
  refine (World.cell?_of_block (World.putObj_heap_other (fun e => ?_))).trans h
  rw [e, hD] at ho; cases ho; rw [hc] at hcells; cases hcells
end Go.Mv
