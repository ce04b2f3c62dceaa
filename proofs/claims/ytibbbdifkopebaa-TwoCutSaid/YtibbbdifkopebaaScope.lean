/-
  A plain law over any program: a scope with labels, inside the fence; with the fenced walk's words for it.
-/
import Derived.Test.YtibbbdifkopebaaLib
import Derived.ScopeJumps
import Derived.OwnWalkIn
import Derived.TacticsInMore
import Derived.LoopNIn
import Derived.LoopIn
import Derived.Shelf.Abstract
import Derived.Shelf.RegionOpen
set_option linter.all false
namespace Go
/-- As Q; by a goto to a label of L: J of it; by any other goto: as Q. -/
def Exit.jumps (L : List Nat) (J : Nat → Act → World → Prop) (Q : Exit → Act → World → Prop) : Exit → Act → World → Prop
  | .goto l, a, w => (l ∈ L ∧ J l a w) ∨ (l ∉ L ∧ Q (.goto l) a w)
  | e, a, w => Q e a w
end Go
namespace Go.Mv
open Go.RowKit


section
variable {F : Fence} {n : Nat} {P : Program} {a : Act} {w : World} {Q : Exit → Act → World → Prop}
theorem jumps_goto {L : List Nat} {J : Nat → Act → World → Prop} {l : Nat} (h : l ∈ L) (hj : J l a w) : Exit.jumps L J Q (.goto l) a w := .inl ⟨h, hj⟩
theorem jumps_ret {L : List Nat} {J : Nat → Act → World → Prop} (h : Q .ret a w) : Exit.jumps L J Q .ret a w := h
theorem jumps_out {L : List Nat} {J : Nat → Act → World → Prop} {l : Nat} (h : l ∉ L) (hq : Q (.goto l) a w) : Exit.jumps L J Q (.goto l) a w := .inr ⟨h, hq⟩

theorem wpIn_scope_jumps {c : Code} (L : List Nat) (J : Nat → Act → World → Prop) (μ : Nat → Act → World → Nat) (hL : ∀ l, l ∉ L → findLabel c l = none) (hS : ∀ l, l ∈ L → (findLabel c l).isSome = true)
    (first : c.wpIn F n P (Exit.jumps L J Q) a w)
    (pass : ∀ l rest, l ∈ L → findLabel c l = some rest → ∀ a w, J l a w → rest.wpIn F n P (Exit.jumps L (fun l' a' w' => J l' a' w' ∧ μ l' a' w' < μ l a w) Q) a w) : (Code.scope c).wpIn F n P Q a w := by
  intro b k cs hro hb hr
  have hin : ∀ l rest, findLabel c l = some rest → gotoIn l (.inScope c :: k) = some (.code rest :: .inScope c :: k) := fun l rest hf => by simp [gotoIn, hf]
  have hout : ∀ l, findLabel c l = none → gotoIn l (.inScope c :: k) = gotoIn l k := fun l hf => by simp [gotoIn, hf]
  have hx : ∀ id, exitTo id (.inScope c :: k) = exitTo id k := fun id => by simp [exitTo]
  have sIn : ∀ {a w}, StepsIn (Machine.fenced P F) P (lone (b.atR a (.inScope c :: k)) cs w) (lone (b.atR a k) cs w) := fun {a w} =>
    .one (fenced_calm (fr := b.atR a (.inScope c :: k)) hb hr rfl) (step_lone_go (by simp [stepG, stepG.exec, Frame.atR]))
  have s0 : ∀ {a w}, StepsIn (Machine.fenced P F) P (lone (b.atR a (.code (.scope c) :: k)) cs w) (lone (b.atR a (.code c :: .inScope c :: k)) cs w) := fun {a w} =>
    .one (fenced_calm (fr := b.atR a (.code (.scope c) :: k)) hb hr rfl) (step_lone_go (by simp [stepG, stepG.exec, Frame.atR]))
  have plainOut : ∀ {m : Machine} {e : Exit} {a₁ : Act} {w₁ : World}, (∀ l, e ≠ .goto l) → ArrivesIn (Machine.fenced P F) P m b (.inScope c :: k) cs e a₁ w₁ → ArrivesIn (Machine.fenced P F) P m b k cs e a₁ w₁ := by
    intro m e a₁ w₁ hne harr
    cases e with
    | normal => exact StepsIn.trans harr sIn
    | exit id => exact ⟨fun k' hk => harr.1 k' (by rw [hx]; exact hk), fun hr' hk => harr.2 hr' (by rw [hx]; exact hk)⟩
    | goto l => exact absurd rfl (hne l)
    | ret => exact harr
    | panic ch => exact harr
    | outgrown => exact harr
  have gotoOut : ∀ {m : Machine} {l : Nat} {a₁ : Act} {w₁ : World}, l ∉ L → ArrivesIn (Machine.fenced P F) P m b (.inScope c :: k) cs (.goto l) a₁ w₁ → ArrivesIn (Machine.fenced P F) P m b k cs (.goto l) a₁ w₁ := by
    intro m l a₁ w₁ hl harr
    have e := hout l (hL l hl)
    exact ⟨fun k' hk => harr.1 k' (by rw [e]; exact hk), fun hr' hk => harr.2 hr' (by rw [e]; exact hk)⟩
  have key : ∀ j l rest a w, l ∈ L → findLabel c l = some rest → μ l a w = j → J l a w → ∃ e a' w', Q e a' w' ∧ ArrivesIn (Machine.fenced P F) P (lone (b.atR a (.code rest :: .inScope c :: k)) cs w) b k cs e a' w' := by
    intro j
    induction j using Nat.strongRecOn with
    | _ j ih =>
      intro l rest a w hl hf hn hJ
      obtain ⟨e, a₁, w₁, hq, harr⟩ := pass l rest hl hf a w hJ b (.inScope c :: k) cs hro hb hr
      cases e with
      | goto l' =>
        rcases hq with ⟨hl', hJ', hlt⟩ | ⟨hl', hq⟩
        · obtain ⟨rest', hf'⟩ := Option.isSome_iff_exists.1 (hS l' hl')
          obtain ⟨e₂, a₂, w₂, hq₂, harr₂⟩ := ih _ (by omega) l' rest' a₁ w₁ hl' hf' rfl hJ'
          exact ⟨e₂, a₂, w₂, hq₂, .of_steps (harr.1 _ (hin l' rest' hf')) harr₂⟩
        · exact ⟨_, a₁, w₁, hq, gotoOut hl' harr⟩
      | normal => exact ⟨.normal, a₁, w₁, hq, plainOut (by simp) harr⟩
      | exit id => exact ⟨.exit id, a₁, w₁, hq, plainOut (by simp) harr⟩
      | ret => exact ⟨_, a₁, w₁, hq, plainOut (by simp) harr⟩
      | panic ch => exact ⟨_, a₁, w₁, hq, plainOut (by simp) harr⟩
      | outgrown => exact ⟨_, a₁, w₁, hq, plainOut (by simp) harr⟩
  obtain ⟨e, a₁, w₁, hq, harr⟩ := first b (.inScope c :: k) cs hro hb hr
  cases e with
  | goto l' =>
    rcases hq with ⟨hl', hJ'⟩ | ⟨hl', hq⟩
    · obtain ⟨rest', hf'⟩ := Option.isSome_iff_exists.1 (hS l' hl')
      obtain ⟨e₂, a₂, w₂, hq₂, harr₂⟩ := key _ l' rest' a₁ w₁ hl' hf' rfl hJ'
      exact ⟨e₂, a₂, w₂, hq₂, .of_steps (s0.trans (harr.1 _ (hin l' rest' hf'))) harr₂⟩
    · exact ⟨_, a₁, w₁, hq, .of_steps s0 (gotoOut hl' harr)⟩
  | normal => exact ⟨.normal, a₁, w₁, hq, .of_steps s0 (plainOut (by simp) harr)⟩
  | exit id => exact ⟨.exit id, a₁, w₁, hq, .of_steps s0 (plainOut (by simp) harr)⟩
  | ret => exact ⟨_, a₁, w₁, hq, .of_steps s0 (plainOut (by simp) harr)⟩
  | panic ch => exact ⟨_, a₁, w₁, hq, .of_steps s0 (plainOut (by simp) harr)⟩
  | outgrown => exact ⟨_, a₁, w₁, hq, .of_steps s0 (plainOut (by simp) harr)⟩

/-- ONE label. -/
theorem wpIn_scope_one {c rest : Code} (l : Nat) (J : Act → World → Prop) (μ : Act → World → Nat) (hf : findLabel c l = some rest) (hL : ∀ l', l' ≠ l → findLabel c l' = none)
    (first : c.wpIn F n P (Exit.jumps [l] (fun _ => J) Q) a w)
    (pass : ∀ a w, J a w → rest.wpIn F n P (Exit.jumps [l] (fun _ a' w' => J a' w' ∧ μ a' w' < μ a w) Q) a w) : (Code.scope c).wpIn F n P Q a w :=
  wpIn_scope_jumps [l] (fun _ => J) (fun _ => μ) (fun l' h => hL l' (by simpa using h)) (fun l' h => by have e : l' = l := (by simpa using h); rw [e, hf]; rfl) first
    (fun l' rest' h hf' a w hJ => by
      have e : l' = l := by simpa using h
      rw [e, hf] at hf'
      cases hf'
      exact pass a w hJ)

/-- ONE label, to which the run comes from ahead. -/
theorem wpIn_scope_seq {x rest : Code} (l : Nat) (J : Act → World → Prop) (μ : Act → World → Nat) (hf : findLabel (Code.seq x (Code.seq (Code.label l) rest)) l = some (Code.seq Code.skip rest)) (hL : ∀ l', l' ≠ l → findLabel (Code.seq x (Code.seq (Code.label l) rest)) l' = none)
    (first : x.wpIn F n P (Exit.then J (fun _ _ _ => False)) a w)
    (pass : ∀ a w, J a w → rest.wpIn F n P (Exit.jumps [l] (fun _ a' w' => J a' w' ∧ μ a' w' < μ a w) Q) a w) : (Code.scope (Code.seq x (Code.seq (Code.label l) rest))).wpIn F n P Q a w := by
  have drop : ∀ e a w a₀ w₀, Exit.jumps [l] (fun _ a' w' => J a' w' ∧ μ a' w' < μ a₀ w₀) Q e a w → Exit.jumps [l] (fun _ => J) Q e a w := by
    intro e a w a₀ w₀ h
    cases e with
    | goto l' => rcases h with ⟨h1, h2, _⟩ | h; exact .inl ⟨h1, h2⟩; exact .inr h
    | normal => exact h
    | exit id => exact h
    | ret => exact h
    | panic ch => exact h
    | outgrown => exact h
  refine wpIn_scope_one l J μ hf hL (wpIn_seq (wpIn_mono first ?_)) (fun a w h => wpIn_seq (wpIn_skip (pass a w h)))
  intro e a w h
  cases e with
  | normal => exact wpIn_seq (wpIn_label (wpIn_mono (pass a w h) (fun e a' w' h' => drop e a' w' a w h')))
  | goto l' => exact h.elim
  | exit id => exact h.elim
  | ret => exact h.elim
  | panic ch => exact h.elim
  | outgrown => exact h.elim

/-- ONE label, wherever it stands: in the walk from ahead the code behind it is met by 'hrest'. -/
theorem wpIn_scope_lab {c rest : Code} (l : Nat) (J : Act → World → Prop) (μ : Act → World → Nat) (hf : findLabel c l = some (Code.seq Code.skip rest)) (hL : ∀ l', l' ≠ l → findLabel c l' = none)
    (first : (∀ a w, J a w → rest.wpIn F n P (Exit.jumps [l] (fun _ => J) Q) a w) → c.wpIn F n P (Exit.jumps [l] (fun _ => J) Q) a w)
    (pass : ∀ a w, J a w → rest.wpIn F n P (Exit.jumps [l] (fun _ a' w' => J a' w' ∧ μ a' w' < μ a w) Q) a w) : (Code.scope c).wpIn F n P Q a w := by
  refine wpIn_scope_one l J μ hf hL (first (fun a w h => wpIn_mono (pass a w h) ?_)) (fun a w h => wpIn_seq (wpIn_skip (pass a w h)))
  intro e a' w' h
  cases e with
  | goto l' => rcases h with ⟨h1, h2, _⟩ | h; exact .inl ⟨h1, h2⟩; exact .inr h
  | normal => exact h
  | exit id => exact h
  | ret => exact h
  | panic ch => exact h
  | outgrown => exact h

/-- A call of yield in an iterator's walk. -/
theorem uponIn_yield {ro : Option Nat} {o : Oper} {a : Act} {next : Act → World → Prop} {Q : Exit → Act → World → Prop} {l : Nat} {av : Array Value} {W : World} {R : Ending → World → Prop}
    (hy : YieldsAt P l av W R) (h : ∀ e W', R e W' → ∃ b, e = .returned (.bool b) ∧ next (a.put o.dst (.bool b)) W') :
    o.uponIn (Wd ro) n P a next Q ((Instr.yield l av).run P W) := by
  obtain ⟨fn, tmps, assign, body, hrun, hR⟩ := hy
  rw [hrun]
  refine ⟨fun h => by simp [Fence.wide] at h, (roundIn_wd (n := n - 1) hR).mono ?_⟩
  intro e W' hr
  obtain ⟨b, rfl, hn⟩ := h e W' hr
  exact hn
end
end Go.Mv
