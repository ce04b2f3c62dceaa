/- Merged: Append Scope Digits Short Bytes -/
import Derived.Test.YtmecffckghkahaaGreatDoorShadowSays1
import Derived.OwnWalkIn
import Derived.TacticsInMore
import Derived.ScopeJumps
import Derived.LoopNIn
import Derived.LoopIn
import Derived.Shelf.Abstract
import Derived.Shelf.RegionOpen
import Derived.Test.YtmecffckghkahaaGreatDoorRows
import Derived.WalkSpells
import Derived.WalkLawsBesides
set_option linter.all false
set_option maxHeartbeats 8000000
namespace Go
def Exit.jumps (L : List Nat) (J : Nat → Act → World → Prop) (Q : Exit → Act → World → Prop) : Exit → Act → World → Prop
 | .goto l, a, w => (l ∈ L ∧ J l a w) ∨ (l ∉ L ∧ Q (.goto l) a w)
 | e, a, w => Q e a w
end Go
namespace Go.Mv
open Go.RowKit
section
variable {P : Program} (w : World)
theorem run_append_of_nil (base : Nat) (t ty e : TypeId) (i : TypeInfo) (size : Nat) (ht : P.underlying t = some (.slice e)) (hi : P.info? e = some i)
  (v : Value) (n : Nat) (xs : List Value) (hown : w.ownsRow base e size v n xs) (c : Nat) : (Builtin.append_ #[t, t] ty #[v, .slice none 0 c]).run P w = .ok v w := by
 rcases hown.2 with ⟨rfl, rfl⟩ | ⟨g, cap, cur, rfl, _, _, hnc, _⟩
 ·simp [Builtin.append_, run_underlying ht, sizeOf, typeInfo, hi, Builtin.lenOf, Builtin.firstCells]
 ·simp [Builtin.append_, run_underlying ht, sizeOf, typeInfo, hi, Builtin.lenOf, Builtin.firstCells, hnc, storeCells]
theorem run_append_sl (base : Nat) (t ty e : TypeId) (i : TypeInfo) (z : Value) (size bytes : Nat) (ht : P.underlying t = some (.slice e)) (hi : P.info? e = some i) (hz : i.zero = some z)
  (hsize : i.size = size) (hby : i.bytes = bytes) (hzs : z.cells.size = size) (hsz : 0 < size)
  (v : Value) (n : Nat) (xs : List Value) (hown : w.ownsRow base e size v n xs)
  (vx : Value) (m : Nat) (news : List Value) (hr : SlR w size vx m news) (h1 : ∀ u ∈ news, u.oneCell' = true)
  (h63 : n + m ≤ maxLen) (hbytes : (n + m) * bytes ≤ 140737488355328) (hbase : base ≤ w.heap.size) :
  ∃ v' w', (Builtin.append_ #[t, t] ty #[v, vx]).run P w = .ok v' w' ∧ w'.ownsRow base e size v' (n + m) (xs ++ news) ∧ w.grownBy w' v.ownBlock := by
 obtain ⟨hl, A, c, rfl, _, _, hc⟩ := hr
 rcases Nat.eq_zero_or_pos m with h0 | h0
 ·subst h0
  have hn : news = [] := List.eq_nil_of_length_eq_zero (by simpa using hl)
  subst hn
  cases A with
  | none => exact ⟨v, w, run_append_of_nil w base t ty e i size ht hi v n xs hown c, by simpa using hown, ⟨rfl, rfl, rfl, Nat.le_refl _, fun _ _ _ => rfl⟩⟩
  | some ad =>
   obtain ⟨v', w', hrun, h2, h3, _⟩ := run_append_own (P := P) w base t ty e i z size bytes ht hi hz hsize hby hzs hsz v n xs hown ad 0 c [] hl (by simp) h1 h63 hbytes hbase
   exact ⟨v', w', hrun, h2, h3⟩
 ·obtain ⟨b, off, rfl, hcell⟩ := hc h0
  have hadd : ∀ j, (⟨b, off, none⟩ : Addr).add j = ⟨b, off + j, none⟩ := by intro j; unfold Addr.add; split <;> simp_all
  obtain ⟨v', w', hrun, h2, h3, _⟩ := run_append_own (P := P) w base t ty e i z size bytes ht hi hz hsize hby hzs hsz v n xs hown ⟨b, off, none⟩ m c news hl (fun j u hu => by rw [hadd]; exact hcell j u hu) h1 h63 hbytes hbase
  exact ⟨v', w', hrun, h2, h3⟩
theorem wpList_append_sl {ops : Array Oper} {rest : List Oper} {o : Oper} {a : Act} {Q : Exit → Act → World → Prop} (hgd : o.guard = none) (s x : Operand) (t : TypeId)
  (ho : o.op = .call { callee := .builtin .append, args := #[s, x], argTypes := #[t, t] })
  (base : Nat) (e : TypeId) (i : TypeInfo) (z : Value) (size bytes : Nat) (ht : P.underlying t = some (.slice e)) (hi : P.info? e = some i) (hz : i.zero = some z)
  (hsize : i.size = size) (hby : i.bytes = bytes) (hzs : z.cells.size = size) (hsz : 0 < size)
  (v : Value) (n : Nat) (xs : List Value) (hs : a.eval s = v) (hown : w.ownsRow base e size v n xs)
  (vx : Value) (m : Nat) (news : List Value) (hx : a.eval x = vx) (hr : SlR w size vx m news) (h1 : ∀ u ∈ news, u.oneCell' = true)
  (h63 : n + m ≤ maxLen) (hbytes : (n + m) * bytes ≤ 140737488355328) (hbase : base ≤ w.heap.size)
  (h : ∀ v' w', w'.ownsRow base e size v' (n + m) (xs ++ news) → w.grownBy w' v.ownBlock → wpList P ops Q rest (a.put o.dst v') w') : wpList P ops Q (o :: rest) a w := by
 refine wpList_plain hgd fun K hK => ?_
 obtain ⟨v', w', hrun, h2, h3⟩ := run_append_sl (P := P) w base t o.type e i z size bytes ht hi hz hsize hby hzs hsz v n xs hown vx m news hr h1 h63 hbytes hbase
 unfold Oper.wp execOp
 simp only [ho, resolve, invoke, builtin, Sem.run_bind, Sem.run_pure, Result.andThen_ok, List.map_toArray, List.map_cons, List.map_nil, hs, hx, hrun]
 exact hK _ _ (h v' w' h2 h3)
theorem wpListIn_append_sl {F : Fence} {nf : Nat} {ops : Array Oper} {rest : List Oper} {o : Oper} {a : Act} {Q : Exit → Act → World → Prop} (hgd : o.guard = none) (s x : Operand) (t : TypeId)
  (ho : o.op = .call { callee := .builtin .append, args := #[s, x], argTypes := #[t, t] })
  (base : Nat) (e : TypeId) (i : TypeInfo) (z : Value) (size bytes : Nat) (ht : P.underlying t = some (.slice e)) (hi : P.info? e = some i) (hz : i.zero = some z)
  (hsize : i.size = size) (hby : i.bytes = bytes) (hzs : z.cells.size = size) (hsz : 0 < size)
  (v : Value) (n : Nat) (xs : List Value) (hs : a.eval s = v) (hown : w.ownsRow base e size v n xs)
  (vx : Value) (m : Nat) (news : List Value) (hx : a.eval x = vx) (hr : SlR w size vx m news) (h1 : ∀ u ∈ news, u.oneCell' = true)
  (h63 : n + m ≤ maxLen) (hbytes : (n + m) * bytes ≤ 140737488355328) (hbase : base ≤ w.heap.size)
  (h : ∀ v' w', w'.ownsRow base e size v' (n + m) (xs ++ news) → w.grownBy w' v.ownBlock → wpListIn F nf P ops Q rest (a.put o.dst v') w') : wpListIn F nf P ops Q (o :: rest) a w := by
 refine wpListIn_plain hgd fun K hK => ?_
 obtain ⟨v', w', hrun, h2, h3⟩ := run_append_sl (P := P) w base t o.type e i z size bytes ht hi hz hsize hby hzs hsz v n xs hown vx m news hr h1 h63 hbytes hbase
 have hsem : o.semAt F.round a.eval = execOp a.eval o := by
  cases hr : F.round with
  | none => rw [Oper.semAt_none]
  | some l => exact Oper.semAt_some l _ o (by rw [ho]; intro c hc; cases hc)
 unfold Oper.wpIn
 refine ⟨?_, ?_⟩
 ·intro f hf
  simp [Oper.about, ho, resolve, Target.leads, go_sem] at hf
 ·rw [hsem]
  unfold execOp
  simp only [ho, resolve, invoke, builtin, Sem.run_bind, Sem.run_pure, Result.andThen_ok, List.map_toArray, List.map_cons, List.map_nil, hs, hx, hrun]
  exact hK _ _ (h v' w' h2 h3)
end
open Go.RowKit
section
variable {F : Fence} {n : Nat} {P : Program} {a : Act} {w : World} {Q : Exit → Act → World → Prop}
theorem jumps_goto {L : List Nat} {J : Nat → Act → World → Prop} {l : Nat} (h : l ∈ L) (hj : J l a w) : Exit.jumps L J Q (.goto l) a w := .inl ⟨h, hj⟩
theorem jumps_ret {L : List Nat} {J : Nat → Act → World → Prop} (h : Q .ret a w) : Exit.jumps L J Q .ret a w := h
theorem wpIn_scope_jumps {c : Code} (L : List Nat) (J : Nat → Act → World → Prop) (μ : Nat → Act → World → Nat) (hL : ∀ l, l ∉ L → findLabel c l = none) (hS : ∀ l, l ∈ L → (findLabel c l).isSome = true)
  (first : c.wpIn F n P (Exit.jumps L J Q) a w)
  (pass : ∀ l rest, l ∈ L → findLabel c l = some rest → ∀ a w, J l a w → rest.wpIn F n P (Exit.jumps L (fun l' a' w' => J l' a' w' ∧ μ l' a' w' < μ l a w) Q) a w) : (Code.scope c).wpIn F n P Q a w := by
 intro b k cs hro hb hr
 have hin : ∀ l rest, findLabel c l = some rest → gotoIn l (.inScope c :: k) = some (.code rest :: .inScope c :: k) := fun l rest hf => by simp [gotoIn, hf]
 have hout : ∀ l, findLabel c l = none → gotoIn l (.inScope c :: k) = gotoIn l k := fun l hf => by simp [gotoIn, hf]
 have hx : ∀ id, exitTo id (.inScope c :: k) = exitTo id k := fun id => by simp [exitTo]
 have sIn : ∀ {a w}, StepsIn (Machine.fenced P F) P (lone (b.atR a (.inScope c :: k)) cs w) (lone (b.atR a k) cs w) := fun {a w} =>
  .one (fenced_calm (fr := b.atR a (.inScope c :: k)) hb hr rfl) (step_lone_go (by simp [stepG, stepG.exec, Frame.atR]))
 have s0 : ∀ {a w}, StepsIn (Machine.fenced P F) P (lone (b.atR a (.code (.scope c) :: k)) cs w) (lone (b.atR a (.code c :: .inScope c :: k)) cs w) := fun {a w} =>
  .one (fenced_calm (fr := b.atR a (.code (.scope c) :: k)) hb hr rfl) (step_lone_go (by simp [stepG, stepG.exec, Frame.atR]))
 have plainOut : ∀ {m : Machine} {e : Exit} {a₁ : Act} {w₁ : World}, (∀ l, e ≠ .goto l) → ArrivesIn (Machine.fenced P F) P m b (.inScope c :: k) cs e a₁ w₁ → ArrivesIn (Machine.fenced P F) P m b k cs e a₁ w₁ := by
  intro m e a₁ w₁ hne harr
  cases e with
  | normal => exact StepsIn.trans harr sIn
  | exit id => exact ⟨fun k' hk => harr.1 k' (by rw [hx]; exact hk), fun hr' hk => harr.2 hr' (by rw [hx]; exact hk)⟩
  | goto l => exact absurd rfl (hne l)
  | ret => exact harr
  | panic ch => exact harr
  | outgrown => exact harr
 have gotoOut : ∀ {m : Machine} {l : Nat} {a₁ : Act} {w₁ : World}, l ∉ L → ArrivesIn (Machine.fenced P F) P m b (.inScope c :: k) cs (.goto l) a₁ w₁ → ArrivesIn (Machine.fenced P F) P m b k cs (.goto l) a₁ w₁ := by
  intro m l a₁ w₁ hl harr
  have e := hout l (hL l hl)
  exact ⟨fun k' hk => harr.1 k' (by rw [e]; exact hk), fun hr' hk => harr.2 hr' (by rw [e]; exact hk)⟩
 have key : ∀ j l rest a w, l ∈ L → findLabel c l = some rest → μ l a w = j → J l a w → ∃ e a' w', Q e a' w' ∧ ArrivesIn (Machine.fenced P F) P (lone (b.atR a (.code rest :: .inScope c :: k)) cs w) b k cs e a' w' := by
  intro j
  induction j using Nat.strongRecOn with
  | _ j ih =>
   intro l rest a w hl hf hn hJ
   obtain ⟨e, a₁, w₁, hq, harr⟩ := pass l rest hl hf a w hJ b (.inScope c :: k) cs hro hb hr
   cases e with
   | goto l' =>
    rcases hq with ⟨hl', hJ', hlt⟩ | ⟨hl', hq⟩
    ·obtain ⟨rest', hf'⟩ := Option.isSome_iff_exists.1 (hS l' hl')
     obtain ⟨e₂, a₂, w₂, hq₂, harr₂⟩ := ih _ (by omega) l' rest' a₁ w₁ hl' hf' rfl hJ'
     exact ⟨e₂, a₂, w₂, hq₂, .of_steps (harr.1 _ (hin l' rest' hf')) harr₂⟩
    ·exact ⟨_, a₁, w₁, hq, gotoOut hl' harr⟩
   | normal => exact ⟨.normal, a₁, w₁, hq, plainOut (by simp) harr⟩
   | exit id => exact ⟨.exit id, a₁, w₁, hq, plainOut (by simp) harr⟩
   | ret => exact ⟨_, a₁, w₁, hq, plainOut (by simp) harr⟩
   | panic ch => exact ⟨_, a₁, w₁, hq, plainOut (by simp) harr⟩
   | outgrown => exact ⟨_, a₁, w₁, hq, plainOut (by simp) harr⟩
 obtain ⟨e, a₁, w₁, hq, harr⟩ := first b (.inScope c :: k) cs hro hb hr
 cases e with
 | goto l' =>
  rcases hq with ⟨hl', hJ'⟩ | ⟨hl', hq⟩
  ·obtain ⟨rest', hf'⟩ := Option.isSome_iff_exists.1 (hS l' hl')
   obtain ⟨e₂, a₂, w₂, hq₂, harr₂⟩ := key _ l' rest' a₁ w₁ hl' hf' rfl hJ'
   exact ⟨e₂, a₂, w₂, hq₂, .of_steps (s0.trans (harr.1 _ (hin l' rest' hf'))) harr₂⟩
  ·exact ⟨_, a₁, w₁, hq, .of_steps s0 (gotoOut hl' harr)⟩
 | normal => exact ⟨.normal, a₁, w₁, hq, .of_steps s0 (plainOut (by simp) harr)⟩
 | exit id => exact ⟨.exit id, a₁, w₁, hq, .of_steps s0 (plainOut (by simp) harr)⟩
 | ret => exact ⟨_, a₁, w₁, hq, .of_steps s0 (plainOut (by simp) harr)⟩
 | panic ch => exact ⟨_, a₁, w₁, hq, .of_steps s0 (plainOut (by simp) harr)⟩
 | outgrown => exact ⟨_, a₁, w₁, hq, .of_steps s0 (plainOut (by simp) harr)⟩
theorem wpIn_scope_one {c rest : Code} (l : Nat) (J : Act → World → Prop) (μ : Act → World → Nat) (hf : findLabel c l = some rest) (hL : ∀ l', l' ≠ l → findLabel c l' = none)
  (first : c.wpIn F n P (Exit.jumps [l] (fun _ => J) Q) a w)
  (pass : ∀ a w, J a w → rest.wpIn F n P (Exit.jumps [l] (fun _ a' w' => J a' w' ∧ μ a' w' < μ a w) Q) a w) : (Code.scope c).wpIn F n P Q a w :=
 wpIn_scope_jumps [l] (fun _ => J) (fun _ => μ) (fun l' h => hL l' (by simpa using h)) (fun l' h => by have e : l' = l := (by simpa using h); rw [e, hf]; rfl) first
  (fun l' rest' h hf' a w hJ => by
    have e : l' = l := by simpa using h
    rw [e, hf] at hf'
    cases hf'
    exact pass a w hJ)
theorem wpIn_scope_seq {x rest : Code} (l : Nat) (J : Act → World → Prop) (μ : Act → World → Nat) (hf : findLabel (Code.seq x (Code.seq (Code.label l) rest)) l = some (Code.seq Code.skip rest)) (hL : ∀ l', l' ≠ l → findLabel (Code.seq x (Code.seq (Code.label l) rest)) l' = none)
  (first : x.wpIn F n P (Exit.then J (fun _ _ _ => False)) a w)
  (pass : ∀ a w, J a w → rest.wpIn F n P (Exit.jumps [l] (fun _ a' w' => J a' w' ∧ μ a' w' < μ a w) Q) a w) : (Code.scope (Code.seq x (Code.seq (Code.label l) rest))).wpIn F n P Q a w := by
 have drop : ∀ e a w a₀ w₀, Exit.jumps [l] (fun _ a' w' => J a' w' ∧ μ a' w' < μ a₀ w₀) Q e a w → Exit.jumps [l] (fun _ => J) Q e a w := by
  intro e a w a₀ w₀ h
  cases e with
  | goto l' => rcases h with ⟨h1, h2, _⟩ | h; exact .inl ⟨h1, h2⟩; exact .inr h
  | normal => exact h
  | exit id => exact h
  | ret => exact h
  | panic ch => exact h
  | outgrown => exact h
 refine wpIn_scope_one l J μ hf hL (wpIn_seq (wpIn_mono first ?_)) (fun a w h => wpIn_seq (wpIn_skip (pass a w h)))
 intro e a w h
 cases e with
 | normal => exact wpIn_seq (wpIn_label (wpIn_mono (pass a w h) (fun e a' w' h' => drop e a' w' a w h')))
 | goto l' => exact h.elim
 | exit id => exact h.elim
 | ret => exact h.elim
 | panic ch => exact h.elim
 | outgrown => exact h.elim
theorem wpIn_scope_lab {c rest : Code} (l : Nat) (J : Act → World → Prop) (μ : Act → World → Nat) (hf : findLabel c l = some (Code.seq Code.skip rest)) (hL : ∀ l', l' ≠ l → findLabel c l' = none)
  (first : (∀ a w, J a w → rest.wpIn F n P (Exit.jumps [l] (fun _ => J) Q) a w) → c.wpIn F n P (Exit.jumps [l] (fun _ => J) Q) a w)
  (pass : ∀ a w, J a w → rest.wpIn F n P (Exit.jumps [l] (fun _ a' w' => J a' w' ∧ μ a' w' < μ a w) Q) a w) : (Code.scope c).wpIn F n P Q a w := by
 refine wpIn_scope_one l J μ hf hL (first (fun a w h => wpIn_mono (pass a w h) ?_)) (fun a w h => wpIn_seq (wpIn_skip (pass a w h)))
 intro e a' w' h
 cases e with
 | goto l' => rcases h with ⟨h1, h2, _⟩ | h; exact .inl ⟨h1, h2⟩; exact .inr h
 | normal => exact h
 | exit id => exact h
 | ret => exact h
 | panic ch => exact h
 | outgrown => exact h
theorem uponIn_yield {ro : Option Nat} {o : Oper} {a : Act} {next : Act → World → Prop} {Q : Exit → Act → World → Prop} {l : Nat} {av : Array Value} {W : World} {R : Ending → World → Prop}
  (hy : YieldsAt P l av W R) (h : ∀ e W', R e W' → ∃ b, e = .returned (.bool b) ∧ next (a.put o.dst (.bool b)) W') :
  o.uponIn (Wd ro) n P a next Q ((Instr.yield l av).run P W) := by
 obtain ⟨fn, tmps, assign, body, hrun, hR⟩ := hy
 rw [hrun]
 refine ⟨fun h => by simp [Fence.wide] at h, (roundIn_wd (n := n - 1) hR).mono ?_⟩
 intro e W' hr
 obtain ⟨b, rfl, hn⟩ := h e W' hr
 exact hn
end
end Go.Mv

namespace Go.Proofs.YtmecffckghkahaaGreatDoor
open Go.RowKit Go.Mv Go.Shelf
attribute [local go_sem] Oper.semAt_some
def digRec (bits n : Nat) : Bool → Nat → List UInt8
 | _, 0 => [UInt8.ofNat (n % 2 ^ bits)]
 | fewer, k + 1 => if n / 2 ^ (bits * (k + 1)) = 0 ∧ fewer = true then digRec bits n fewer k else UInt8.ofNat (n / 2 ^ (bits * (k + 1)) % 2 ^ bits) :: digRec bits n false k
theorem wraps_i64 (n : Int) (h₀ : 0 ≤ n) (h₁ : n < 2 ^ 62) : IntKind.i64.wrap n = n := by rw [IntKind.wrap_i64]; omega
theorem i64_and127 (x : Int) (h₀ : 0 ≤ x) (h₁ : x < 4611686018427387904) : bits .and .i64 x 127 = x % 128 := bits_mask .i64 62 (by decide) wraps_i64 7 (by decide) x h₀ h₁
theorem i64_and255 (x : Int) (h₀ : 0 ≤ x) (h₁ : x < 4611686018427387904) : bits .and .i64 x 255 = x % 256 := bits_mask .i64 62 (by decide) wraps_i64 8 (by decide) x h₀ h₁
theorem bv_ofNat (n : Nat) : bv (UInt8.ofNat n) = .int .u8 ((n : Int) % 256) := by simp [bv]
theorem dig7 (d : Nat) (hd : d ≤ 1073741824) : Value.int .u8 (bits .and .i64 (d : Int) 127 % 256) = bv (UInt8.ofNat (d % 2 ^ 7)) := by
 rw [i64_and127 _ (by omega) (by omega), bv_ofNat]; simp
theorem dig8 (d : Nat) (hd : d ≤ 1073741824) : Value.int .u8 (bits .and .i64 (d : Int) 255 % 256) = bv (UInt8.ofNat (d % 2 ^ 8)) := by
 rw [i64_and255 _ (by omega) (by omega), bv_ofNat]; simp
theorem dig7z (d : Nat) (hd : d = 0) : Value.int .u8 (bits .and .i64 0 127 % 256) = bv (UInt8.ofNat (d % 2 ^ 7)) := by
 have := dig7 d (by omega); rw [hd] at this ⊢; exact this
theorem dig8z (d : Nat) (hd : d = 0) : Value.int .u8 (bits .and .i64 0 255 % 256) = bv (UInt8.ofNat (d % 2 ^ 8)) := by
 have := dig8 d (by omega); rw [hd] at this ⊢; exact this
theorem digRec_head (bits n : Nat) (fw : Bool) (k : Nat) (h : ¬ (n / 2 ^ (bits * k) = 0 ∧ fw = true ∧ 0 < k)) :
  ∃ post, digRec bits n fw k = UInt8.ofNat (n / 2 ^ (bits * k) % 2 ^ bits) :: post ∧ (0 < k → post = digRec bits n false (k - 1)) ∧ (k = 0 → post = []) := by
 cases k with
 | zero => exact ⟨[], by simp [digRec], fun h => absurd h (by omega), fun _ => rfl⟩
 | succ k =>
  refine ⟨digRec bits n false k, ?_, fun _ => rfl, fun h => absurd h (by omega)⟩
  rw [digRec, if_neg]
  intro ⟨h1, h2⟩
  exact h ⟨h1, h2, by omega⟩
def DgR (bits n many : Nat) (fewer : Bool) (bm bn bb bf l N : Nat) (J : List UInt8 → World → Prop) (a : Act) (w : World) : Prop :=
 ∃ (k : Nat) (pre : List UInt8) (fw : Bool) (u7 u8 u9 u10 u11 u12 u13 u14 u15 u16 u17 u18 u19 u20 u21 u22 u23 u24 u25 u26 u27 u28 u29 u30 u31 u32 u33 u34 u35 u36 u37 u38 u39 u40 : Value),
   (k < many ∧ Hid (digRec bits n fewer (many - 1) = pre ++ digRec bits n fw k) ∧ J pre w ∧ Boxed w bn 3 (.int .i64 n) ∧ Boxed w bb 3 (.int .i64 bits) ∧ Boxed w bf 4 (.bool fw) ∧ N ≤ w.heap.size) ∧
   a = ⟨#[.func (.yield l) #[] #[], .pointer (some ⟨bm, 0, none⟩), .pointer (some ⟨bn, 0, none⟩), .pointer (some ⟨bb, 0, none⟩), .pointer (some ⟨bf, 0, none⟩), undef, .int .i64 k, u7, u8, u9, u10, u11, u12, u13, u14, u15, u16, u17, u18, u19, u20, u21, u22, u23, u24, u25, u26, u27, u28, u29, u30, u31, u32, u33, u34, u35, u36, u37, u38, u39, u40], []⟩
set_option maxRecDepth 100000 in
theorem digits1_seq (bits n many : Nat) (fewer : Bool) (hb : bits = 7 ∨ bits = 8) (hn : n ≤ 1073741824) (hm : 1 ≤ many) (hm' : many ≤ 5) (bm bn bb bf : Nat) (hne : bf ≠ bn) (hne2 : bf ≠ bb) (W0 : World)
  (hB1 : Boxed W0 bm 3 (.int .i64 many)) (hB2 : Boxed W0 bn 3 (.int .i64 n)) (hB3 : Boxed W0 bb 3 (.int .i64 bits)) (hB4 : Boxed W0 bf 4 (.bool fewer)) :
  Seq Tryz.prog 140 #[.pointer (some ⟨bm, 0, none⟩), .pointer (some ⟨bn, 0, none⟩), .pointer (some ⟨bb, 0, none⟩), .pointer (some ⟨bf, 0, none⟩)]
   (fun (d : UInt8) av _ => av = #[bv d]) (fun k o => ((k = bn ∨ k = bb) ∧ o.ty = some 3) ∨ (k = bf ∧ o.ty = some 4)) (fun k o => k = bf ∧ o.ty = some 4) (digRec bits n fewer (many - 1)) W0 := by
 intro l J Jx hJ hJx hY h0
 refine (callsIn_wd (ro := none) (n := 9)).1 ?_
 refine callsIn_of_wp Tryz.func140 rfl trivial ?_ rfl
 simp only [Tryz.ntmps140, List.size_toArray, List.length_cons, List.length_nil, Nat.reduceAdd, Nat.reduceSub, Array.replicate_succ, Array.replicate_zero, List.push_toArray, List.append_toArray, List.nil_append, List.cons_append]
 refine wpIn_scope_seq 0 (DgR bits n many fewer bm bn bb bf l W0.heap.size J) (fun a _ => (intOf (a.tmps.getD 6 undef)).toNat) rfl (fun l' h => by cases l' <;> first | exact absurd rfl h | rfl) ?_ ?_
 ·have hc1 := hB1.cell
  gi_wp2
  have e : ((many : Int) - 1) = ((many - 1 : Nat) : Int) := by omega
  rw [e]
  exact ⟨many - 1, [], fewer, _, _, _, _, _, _, _, _, _, _, _, _, _, _, _, _, _, _, _, _, _, _, _, _, _, _, _, _, _, _, _, _, _, _, ⟨by omega, rfl, h0, hB2, hB3, hB4, Nat.le_refl _⟩, rfl⟩
 ·intro a w hR
  obtain ⟨k, pre, fw, u7, u8, u9, u10, u11, u12, u13, u14, u15, u16, u17, u18, u19, u20, u21, u22, u23, u24, u25, u26, u27, u28, u29, u30, u31, u32, u33, u34, u35, u36, u37, u38, u39, u40, ⟨hk, HD, hJp, b1, b2, b3, hsz⟩, rfl⟩ := hR
  have c1 := b1.cell
  have c2 := b2.cell
  have c3 := b3.cell
  have f3 := b3.frozen
  clear hB1 hB2 hB3 hB4 h0
  have hmv : Moves (orOther (fun k o => k = bf ∧ o.ty = some 4) W0.heap.size) w (w.setCell ⟨bf, 0, none⟩ (.bool false)) :=
   Moves.refl.setCell (fun o ho _ => .inl ⟨rfl, by rw [show w.heap[bf]? = _ from b3] at ho; cases ho; rfl⟩) _
  have hJ1 := hJ _ _ _ hJp hmv
  have b1' : Boxed (w.setCell ⟨bf, 0, none⟩ (.bool false)) bn 3 (.int .i64 n) := b1.other (Ne.symm hne) _
  have b2' : Boxed (w.setCell ⟨bf, 0, none⟩ (.bool false)) bb 3 (.int .i64 bits) := b2.other (Ne.symm hne2) _
  have b3' : Boxed (w.setCell ⟨bf, 0, none⟩ (.bool false)) bf 4 (.bool false) := b3.set _
  have hsz' : W0.heap.size ≤ (w.setCell ⟨bf, 0, none⟩ (.bool false)).heap.size := by simpa [World.setCell] using hsz
  have hdle : n / 2 ^ (bits * k) ≤ 1073741824 := Nat.le_trans (Nat.div_le_self _ _) hn
  by_cases hskip : n / 2 ^ (bits * k) = 0 ∧ fw = true ∧ 0 < k
  ·obtain ⟨hd0, rfl, hk0⟩ := hskip
   have hz : ((n : Int) / 2 ^ (bits * k)) = 0 := by exact_mod_cast hd0
   have HD0 := Lib.hid hd0
   have hk1 : decide (0 < k) = true := by simpa using hk0
   clear hd0
   rcases hb with rfl | rfl
   all_goals
    gi_wp2
    refine wpIn_goto ?_
    simp only [Exit.then]
    refine jumps_goto (by simp) ⟨?_, ?_⟩
    ·rw [show ((k : Int) - 1) = ((k - 1 : Nat) : Int) from by omega]
     refine ⟨k - 1, pre, true, _, _, _, _, _, _, _, _, _, _, _, _, _, _, _, _, _, _, _, _, _, _, _, _, _, _, _, _, _, _, _, _, _, _, ⟨by omega, ?_, hJp, b1, b2, b3, hsz⟩, rfl⟩
     have hD := HD.out
     rw [show k = (k - 1) + 1 from by omega, digRec, if_pos ⟨by rw [show k - 1 + 1 = k from by omega]; exact HD0.out, rfl⟩] at hD
     exact hD
    ·simp [intOf]; omega
  ·obtain ⟨post, hp, hp1, hp2⟩ := digRec_head bits n fw k hskip
   have hD := HD.out
   rw [hp] at hD
   have hy := hY pre _ post hD _ #[bv (UInt8.ofNat (n / 2 ^ (bits * k) % 2 ^ bits))] hJ1 hsz' rfl
   have HP1 := Lib.hid hp1
   have HP2 := Lib.hid hp2
   have HDD := Lib.hid hD
   have Hskip := Lib.hid hskip
   clear hp hD HD hp1 hp2 hskip hY
   have key : ∀ (o : Oper) (a : Act) (next : Act → World → Prop) (Q : Exit → Act → World → Prop),
     (∀ W' : World, J (pre ++ [UInt8.ofNat (n / 2 ^ (bits * k) % 2 ^ bits)]) W' → Boxed W' bn 3 (.int .i64 n) → Boxed W' bb 3 (.int .i64 bits) → Boxed W' bf 4 (.bool false) → W0.heap.size ≤ W'.heap.size → next (a.put o.dst (.bool true)) W') →
     (∀ W' : World, Jx (pre ++ [UInt8.ofNat (n / 2 ^ (bits * k) % 2 ^ bits)]) W' → next (a.put o.dst (.bool false)) W') →
     o.uponIn (Wd none) 9 Tryz.prog a next Q ((Instr.yield l #[bv (UInt8.ofNat (n / 2 ^ (bits * k) % 2 ^ bits))]).run Tryz.prog (w.setCell ⟨bf, 0, none⟩ (.bool false))) := by
    intro o a next Q h1 h2
    refine uponIn_yield hy ?_
    rintro e W' ⟨hk', ⟨rfl, hj⟩ | ⟨rfl, hj⟩⟩
    ·exact ⟨true, rfl, h1 W' hj (hk'.boxed b1' (.inl (.inl ⟨.inl rfl, rfl⟩))) (hk'.boxed b2' (.inl (.inl ⟨.inr rfl, rfl⟩))) (hk'.boxed b3' (.inl (.inr ⟨rfl, rfl⟩))) (Nat.le_trans hsz' hk'.size)⟩
    ·exact ⟨false, rfl, h2 W' hj⟩
   have Hkey := Lib.hid key
   have hpre : pre ++ [UInt8.ofNat (n / 2 ^ (bits * k) % 2 ^ bits)] <+: digRec bits n fewer (many - 1) := by
    rw [HDD.out]; exact ⟨post, by simp⟩
   clear key hy
   have fin : ∀ W' : World, J (pre ++ [UInt8.ofNat (n / 2 ^ (bits * k) % 2 ^ bits)]) W' → k = 0 → J (digRec bits n fewer (many - 1)) W' := by
    intro W' hj h0
    rw [HDD.out, HP2.out h0]; exact hj
   have Hfin := Lib.hid fin
   have Hpre := Lib.hid hpre
   have nxt : 0 < k → digRec bits n fewer (many - 1) = (pre ++ [UInt8.ofNat (n / 2 ^ (bits * k) % 2 ^ bits)]) ++ digRec bits n false (k - 1) := by
    intro h0
    rw [HDD.out, HP1.out h0]; simp
   have Hnxt := Lib.hid nxt
   clear fin hpre nxt
   rcases hb with rfl | rfl
   ·have e1 : ((n : Int) / 2 ^ (7 * k)) = ((n / 2 ^ (7 * k) : Nat) : Int) := by simp
    have E1 := Lib.hid e1
    clear e1
    gi_wp2
    all_goals first
     | (exfalso; refine Hskip.out ⟨?_, by assumption, by assumption⟩; exact_mod_cast (by assumption : ((n : Int) / 2 ^ (7 * k)) = 0))
     | (rw [dig7z (n / 2 ^ (7 * k)) (by exact_mod_cast (by assumption : ((n : Int) / 2 ^ (7 * k)) = 0))])
     | (rw [E1.out, dig7 _ hdle])
    all_goals refine Hkey.out _ _ _ _ ?_ ?_
    all_goals intro W' hj
    all_goals (try intro bb1 bb2 bb3 hs)
    all_goals clear c1 c2 c3 f3 b1 b2 b3 b1' b2' b3'
    all_goals gi_wp2
    all_goals first
     | (refine jumps_ret ?_
        refine bodyPost_ret (results_none rfl _ _ _) rfl ?_
        exact ⟨⟨_, rfl⟩, .inr ⟨_, Hpre.out, hj⟩⟩)
     | (refine jumps_ret ?_
        refine bodyPost_ret (results_none rfl _ _ _) rfl ?_
        exact ⟨⟨_, rfl⟩, .inl (Hfin.out _ hj (by have h : ((k : Int) == 0) = true := (by assumption); simpa using h))⟩)
     | (have hk0 : 0 < k := (by have h : ((k : Int) == 0) = false := (by assumption); simp at h; omega)
        refine wpIn_goto ?_
        refine jumps_goto (by simp) ⟨?_, ?_⟩
        ·rw [show ((k : Int) - 1) = ((k - 1 : Nat) : Int) from by omega]
         exact ⟨k - 1, _, false, _, _, _, _, _, _, _, _, _, _, _, _, _, _, _, _, _, _, _, _, _, _, _, _, _, _, _, _, _, _, _, _, _, _, ⟨by omega, Hnxt.out hk0, hj, bb1, bb2, bb3, hs⟩, rfl⟩
        ·simp [intOf]; omega)
   ·have e1 : ((n : Int) / 2 ^ (8 * k)) = ((n / 2 ^ (8 * k) : Nat) : Int) := by simp
    have E1 := Lib.hid e1
    clear e1
    gi_wp2
    all_goals first
     | (exfalso; refine Hskip.out ⟨?_, by assumption, by assumption⟩; exact_mod_cast (by assumption : ((n : Int) / 2 ^ (8 * k)) = 0))
     | (rw [dig8z (n / 2 ^ (8 * k)) (by exact_mod_cast (by assumption : ((n : Int) / 2 ^ (8 * k)) = 0))])
     | (rw [E1.out, dig8 _ hdle])
    all_goals refine Hkey.out _ _ _ _ ?_ ?_
    all_goals intro W' hj
    all_goals (try intro bb1 bb2 bb3 hs)
    all_goals clear c1 c2 c3 f3 b1 b2 b3 b1' b2' b3'
    all_goals gi_wp2
    all_goals first
     | (refine jumps_ret ?_
        refine bodyPost_ret (results_none rfl _ _ _) rfl ?_
        exact ⟨⟨_, rfl⟩, .inr ⟨_, Hpre.out, hj⟩⟩)
     | (refine jumps_ret ?_
        refine bodyPost_ret (results_none rfl _ _ _) rfl ?_
        exact ⟨⟨_, rfl⟩, .inl (Hfin.out _ hj (by have h : ((k : Int) == 0) = true := (by assumption); simpa using h))⟩)
     | (have hk0 : 0 < k := (by have h : ((k : Int) == 0) = false := (by assumption); simp at h; omega)
        refine wpIn_goto ?_
        refine jumps_goto (by simp) ⟨?_, ?_⟩
        ·rw [show ((k : Int) - 1) = ((k - 1 : Nat) : Int) from by omega]
         exact ⟨k - 1, _, false, _, _, _, _, _, _, _, _, _, _, _, _, _, _, _, _, _, _, _, _, _, _, _, _, _, _, _, _, _, _, _, _, _, _, ⟨by omega, Hnxt.out hk0, hj, bb1, bb2, bb3, hs⟩, rfl⟩
        ·simp [intOf]; omega)
def digW (w : World) (n bits many : Nat) (fewer : Bool) : World :=
 (((w.alloc (.cells #[.int .i64 n] 3)).alloc (.cells #[.int .i64 bits] 3)).alloc (.cells #[.int .i64 many] 3)).alloc (.cells #[.bool fewer] 4)
def digF (N : Nat) : Value := .func (.func 140) #[] #[.pointer (some ⟨N + 2, 0, none⟩), .pointer (some ⟨N, 0, none⟩), .pointer (some ⟨N + 1, 0, none⟩), .pointer (some ⟨N + 3, 0, none⟩)]
theorem digits_any (n bits many : Nat) (fewer : Bool) (w : World) :
  Calls Tryz.prog 128 #[.int .i64 n, .int .i64 bits, .int .i64 many, .bool fewer] w fun e w' => e = .returned (digF w.heap.size) ∧ digW w n bits many fewer = w' := by
 go_enter Tryz.func128, Tryz.ntmps128
 go_wp2
 go_ret
 exact ⟨rfl, rfl⟩
theorem digW_boxes (w : World) (n bits many : Nat) (fewer : Bool) : (digW w n bits many fewer).heap.size = w.heap.size + 4 ∧
  Boxed (digW w n bits many fewer) w.heap.size 3 (.int .i64 n) ∧ Boxed (digW w n bits many fewer) (w.heap.size + 1) 3 (.int .i64 bits) ∧
  Boxed (digW w n bits many fewer) (w.heap.size + 2) 3 (.int .i64 many) ∧ Boxed (digW w n bits many fewer) (w.heap.size + 3) 4 (.bool fewer) ∧ Ext w (digW w n bits many fewer) := by
 have h1 := Boxed.new w 3 (.int .i64 n)
 have h2 := Boxed.new (w.alloc (.cells #[.int .i64 n] 3)) 3 (.int .i64 bits)
 have h3 := Boxed.new ((w.alloc (.cells #[.int .i64 n] 3)).alloc (.cells #[.int .i64 bits] 3)) 3 (.int .i64 many)
 have h4 := Boxed.new (((w.alloc (.cells #[.int .i64 n] 3)).alloc (.cells #[.int .i64 bits] 3)).alloc (.cells #[.int .i64 many] 3)) 4 (.bool fewer)
 simp only [World.size_alloc] at h2 h3 h4
 exact ⟨by simp [digW], ((h1.alloc _).alloc _).alloc _, (h2.alloc _).alloc _, h3.alloc _, h4, (((Ext.refl w).alloc _).alloc _).alloc _ |>.alloc _⟩
open Go.RowKit Go.Mv Go.Shelf
attribute [local go_sem] Oper.semAt_some
theorem info_u8 : (Tryz.prog.info? 5).map (fun i => (i.zero, i.size, i.bytes)) = some (some (.int .u8 0), 1, 1) := by kernel_rfl
theorem u8_or128' (d : UInt8) : bits .or .u8 (d.toNat : Int) 128 = ((d ||| 128).toNat : Int) := by
 have h := (bits_nat .u8 8 (by decide) wraps_u8 d.toNat 128 d.toNat_lt (by decide)).2
 have e : ((128 : Nat) : Int) = 128 := rfl
 rw [e] at h
 rw [h]
 simp
theorem u8_and127' (d : UInt8) : bits .and .u8 (d.toNat : Int) 127 = ((d &&& 127).toNat : Int) := by
 have h := (bits_nat .u8 8 (by decide) wraps_u8 d.toNat 127 d.toNat_lt (by decide)).1
 have e : ((127 : Nat) : Int) = 127 := rfl
 rw [e] at h
 rw [h]
 simp
def OwnPost (base : Nat) (w : World) (bs : List UInt8) (e : Ending) (w' : World) : Prop :=
 ∃ v', e = .returned v' ∧ w'.ownsRow base 5 1 v' bs.length (bs.map bv) ∧ Below base w w'
def ShI (base N : Nat) (w : World) (bs pre : List UInt8) (X : World) : Prop :=
 ∃ v, Boxed X N 43 v ∧ X.ownsRow base 5 1 v (bs ++ pre.map (· ||| 128)).length ((bs ++ pre.map (· ||| 128)).map bv) ∧ Below base w X
theorem digRec_len (bits n : Nat) (fw : Bool) (k : Nat) : 1 ≤ (digRec bits n fw k).length ∧ (digRec bits n fw k).length ≤ k + 1 := by
 induction k generalizing fw with
 | zero => simp [digRec]
 | succ k ih =>
  rw [digRec]
  split
  ·have := ih fw; omega
  ·have := ih false; simp; omega
theorem digRec_last (bits n : Nat) (fw : Bool) (k : Nat) : ∃ hi, digRec bits n fw k = hi ++ [UInt8.ofNat (n % 2 ^ bits)] := by
 induction k generalizing fw with
 | zero => exact ⟨[], rfl⟩
 | succ k ih =>
  rw [digRec]
  split
  ·exact ih fw
  ·obtain ⟨hi, h⟩ := ih false
   exact ⟨_ :: hi, by rw [h]; rfl⟩
def short1 (n : Nat) : List UInt8 := (digRec 7 n true 4).dropLast.map (· ||| 128) ++ [UInt8.ofNat (n % 128)]
set_option maxRecDepth 100000 in
theorem Short1_any (bs : List UInt8) (n : Nat) (hn : n ≤ 1073741824) (vb : Value) (base : Nat) (w : World) (hown : w.ownsRow base 5 1 vb bs.length (bs.map bv)) (hbase : base ≤ w.heap.size) (hlen : bs.length + 5 ≤ 1099511627776) :
  Calls Tryz.prog 142 #[vb, .int .i64 n] w (OwnPost base w (bs ++ short1 n)) := by
 obtain ⟨A, cc, rfl, _, _⟩ := SlR.open_ (SlR.of_own hown)
 refine (callsIn_wd (ro := none) (n := 9)).1 ?_
 refine callsIn_of_wp_marks Tryz.func142 rfl trivial ?_ rfl
 simp only [Tryz.ntmps142, List.size_toArray, List.length_cons, List.length_nil, Nat.reduceAdd, Nat.reduceSub, Array.replicate_succ, Array.replicate_zero, List.push_toArray, List.append_toArray, List.nil_append, List.cons_append]
 gi_wp2_with (refine ⟨trivial, ?_⟩; gi_at_call 128; refine (callsIn_wd.2 (digits_any n 7 5 true _)).mono ?_; rintro e w' ⟨rfl, rfl⟩)
 have hN : w.heap.size + 5 = (digW (w.alloc (Obj.cells #[Value.slice A bs.length cc] 43)) n 7 5 true).heap.size := by rw [(digW_boxes _ n 7 5 true).1]; simp
 obtain ⟨_, q1, q2, q3, q4, qe⟩ := digW_boxes (w.alloc (Obj.cells #[Value.slice A bs.length cc] 43)) n 7 5 true
 generalize digW (w.alloc (Obj.cells #[Value.slice A bs.length cc] 43)) n 7 5 true = w2 at *
 simp only [World.size_alloc] at q1 q2 q3 q4
 have h0 : ShI base w.heap.size w bs [] w2 := by
  refine ⟨_, (Boxed.new w _ _).kept (W' := w2) (row := none) (Ext.grown qe none) (by simp), ?_, ?_⟩
  ·have h1 := hown.alloc (Obj.cells #[Value.slice A bs.length cc] 43)
   simpa using h1.kept (w' := w2) (row := none) (Ext.grown qe none) (by cases A <;> simp [Value.ownBlock])
  ·exact (((Below.refl base w).alloc hbase _).trans (qe.mono (by simp; omega)))
 refine wp_range (a := ⟨_, _⟩) rfl (enters_of Tryz.func140 (by kernel_rfl) rfl)
  (fun W1 hb _ => digits1_seq 7 n 5 true (.inl rfl) hn (by omega) (by omega) (w.heap.size + 1 + 2) (w.heap.size + 1) (w.heap.size + 1 + 1) (w.heap.size + 1 + 3) (by omega) (by omega) W1
    (q3.kept (row := none) (Ext.grown hb none) (by simp)) (q1.kept (row := none) (Ext.grown hb none) (by simp))
    (q2.kept (row := none) (Ext.grown hb none) (by simp)) (q4.kept (row := none) (Ext.grown hb none) (by simp)))
  (fun k o h => isCells_of_ty h.2) (fun k o h => by rcases h with h | h <;> exact isCells_of_ty h.2) (fun x av W h => by rw [h]; rfl)
  (ShI base w.heap.size w bs) (fun _ _ _ => False) ?hI (fun _ _ _ _ h _ => h) h0
  (fun x a' _ => a' = ⟨#[.slice A bs.length cc, .int .i64 n, .pointer (some ⟨w.heap.size, 0, none⟩), undef, .slice none 0 0, .int .u8 x.toNat, .int .i64 n, digF (w.heap.size + 1), .int .u8 x.toNat, undef, undef, undef, undef, undef, undef, undef, undef, undef, undef, undef, undef, undef, undef], []⟩)
  (fun _ _ _ _ h _ => h) ?assign ?body ?done ?stop
 case hI =>
  rintro s X Y ⟨v, hv, hr, hB⟩ hm
  refine ⟨v, hm.boxed hv ?_, hm.ownsRow hr ?_, hm.belowOf hB ?_ hbase⟩
  ·rintro (h | h)
   ·have := h.1; omega
   ·cases h.2
  ·rintro k cur _ (h | h)
   ·cases h.2
   ·cases h.2
  ·rintro k o hk (h | h)
   ·have := h.1; omega
   ·have := h.1; omega
 case assign =>
  rintro l pre x post W av K' hx hi hsz rfl hK
  simp only [bv]
  gi_wp2
  exact hK _ _ Kept.refl hi rfl
 case body =>
  rintro l pre x post a' W hx hl hr ⟨v, hv, hrow, hB⟩ hsz rfl
  have hm : (bs ++ List.map (fun x => x ||| 128) pre).length = bs.length + pre.length := by simp
  rw [hm] at hrow
  obtain ⟨A', c', rfl, _, _⟩ := SlR.open_ (SlR.of_own hrow)
  have hpl : pre.length ≤ 4 := by
   have := congrArg List.length hx
   have := digRec_len 7 n true 4
   simp at *; omega
  obtain ⟨i0, hi, hz0, hz1, hz2⟩ := info_parts info_u8
  have hc := hv.cell
  have hx8 := u8_or128' x
  have hne := hv.not_row (e := 5) (by decide) hrow
  gi_wp2_with (gi_at_builtin; refine wpListIn_append_own _ rfl (.tmp 9) (.tmp 12) 43 rfl base 5 i0 (.int .u8 0) 1 1 Tryz.underlying43 hi hz0 hz1 hz2 rfl (by decide) (.slice A' (bs.length + pre.length) c') (bs.length + pre.length) ((bs ++ List.map (fun x => x ||| 128) pre).map bv) rfl (hrow.alloc _) ⟨W.heap.size, 0, none⟩ 1 1 [.int .u8 ((x ||| 128).toNat : Int)] rfl rfl (cell_one_new _ _ _) (by simp [Value.oneCell']) (by simp [maxLen]; omega) (by simp; omega) (by have := hB.size; simp; omega) ?_; intro v' w1 hown' hgrow _; obtain ⟨g', cap', rfl, _, _, _⟩ := ownsRow_pos hown' (by omega); have hv1 := (hv.alloc _).kept hgrow hne; have hc1 := hv1.cell; have hf1 := hv1.frozen)
  refine ⟨Kept.appended _ hv hrow hgrow ?_ ?_, _, hv1.set _, ?_, ?_⟩
  ·rintro ((⟨_, h⟩ | ⟨_, h⟩) | ⟨_, h⟩) <;> cases h
  ·rintro k cur _ ((⟨_, h⟩ | ⟨_, h⟩) | ⟨_, h⟩) <;> cases h
  ·have h := hown'.kept (grownBy_setCell' w1 w.heap.size (.slice (some ⟨g', 0, none⟩) (bs.length + pre.length + 1) cap')) (.inr (hv1.not_row (by decide) hown').symm)
   simpa [bv, Nat.add_assoc] using h
  ·refine (((hB.alloc (by have := hB.size; omega) _).grown hgrow (by have := hB.size; simp; omega) (fun k ek => ?_)).setCell (p := ⟨w.heap.size, 0, none⟩) hbase _)
   exact (hrow.lt k ek).1
 case done =>
  rintro D W hD ⟨v, hv, hrow, hB⟩ hK
  obtain ⟨hi, hdd⟩ := digRec_last 7 n true 4
  have hsp : bs ++ short1 n = bs ++ hi.map (· ||| 128) ++ [UInt8.ofNat (n % 128)] := by simp [short1, hdd]
  have hlo : (UInt8.ofNat (n % 2 ^ 7) ||| 128) &&& 127 = UInt8.ofNat (n % 128) := by
   have h1 : n % 2 ^ 7 < 128 := Nat.mod_lt _ (by decide)
   have h2 : ∀ m : Nat, m < 128 → (UInt8.ofNat m ||| 128) &&& 127 = UInt8.ofNat m := by decide
   exact h2 _ h1
  have hm : bs ++ List.map (fun x => x ||| 128) (digRec 7 n true (5 - 1)) = (bs ++ hi.map (· ||| 128)) ++ [UInt8.ofNat (n % 2 ^ 7) ||| 128] := by simp [hdd]
  rw [hm] at hrow
  generalize bs ++ hi.map (· ||| 128) = ys at *
  generalize UInt8.ofNat (n % 2 ^ 7) ||| 128 = z at *
  have hyl : (ys ++ [z]).length = ys.length + 1 := by simp
  rw [hyl] at hrow
  obtain ⟨g, cap, rfl, hbg, hle1, hle2⟩ := ownsRow_pos hrow (by omega)
  have hc := hv.cell
  have hf := hrow.frozenAt ys.length
  have hcl : W.cell? ⟨g, ys.length, none⟩ = some (.int .u8 z.toNat) := by rw [hrow.cellAt ys.length (by omega)]; simp [bv]
  have h127 := u8_and127' z
  have Hlo := Lib.hid hlo
  have Hsp := Lib.hid hsp
  have hN' : w.heap.size ≤ w2.heap.size := by omega
  clear hlo hsp hm hyl hdd h0 hown q1 q2 q3 q4 qe hN
  have hne : w.heap.size ≠ g := fun e => hv.not_row (e := 5) (by decide) hrow (by rw [e]; rfl)
  have hc2 : (W.setCell ⟨g, ys.length, none⟩ (.int .u8 ((z.toNat &&& 127 : Nat) : Int))).cell? ⟨w.heap.size, 0, none⟩ = some (.slice (some ⟨g, 0, none⟩) (ys.length + 1) cap) :=
   (World.cell?_setCell_other _ _ _ _ (fun e => hne (by injection e with e1; exact e1.symm))).trans hc
  gi_wp2
  have hst := (hrow.stored ys.length (.int .u8 ((z.toNat &&& 127 : Nat) : Int))).1
  have hKK := heap_setCell_obj hK rfl ⟨g, ys.length, none⟩ (.int .u8 ((z.toNat &&& 127 : Nat) : Int))
  refine ret_mark hKK _ (results_tmp rfl _ _ _) ⟨_, rfl, ?_, ?_⟩
  ·have h := ownsRow_putObj hst (.deferred none) hKK rfl
   have e : (List.map bv (ys ++ [z])).set ys.length (.int .u8 ((z.toNat &&& 127 : Nat) : Int)) = List.map bv (ys ++ [UInt8.ofNat (n % 128)]) := by
    rw [← Hlo.out]; simp [bv]
   rw [e] at h
   rw [Hsp.out]
   simpa using h
  ·exact below_putObj (hB.setCell (p := ⟨g, ys.length, none⟩) hbg _) (by omega) _
 case stop =>
  rintro D c pre W _ _ h _
  exact h.elim
end Go.Proofs.YtmecffckghkahaaGreatDoor

namespace Go.Mv
open Go.RowKit
theorem run_append_make_nil {P : Program} (w : World) (t ti ty e : TypeId) (i : TypeInfo) (z : Value) (ht : P.underlying t = some (.slice e)) (hti : P.underlying ti = some (.int .i64)) (hi : P.info? e = some i) (hz : i.zero = some z)
  (hzc : z.cells.size = 1) (hs : i.size = 1) (hb : i.bytes = 1) (n : Nat) (h0 : 0 < n) (h47 : n ≤ 140737488355328) :
  ∃ cap w1, (Builtin.append_ #[t, ti] ty #[.slice none 0 0, .int .i64 n]).run P w = .ok (.slice (some ⟨w.heap.size, 0, none⟩) n cap) w1 ∧ n ≤ cap ∧ cap ≤ 9223372036854775807 ∧
   w1.ownsRow w.heap.size e 1 (.slice (some ⟨w.heap.size, 0, none⟩) 0 cap) 0 [] ∧ Ext w w1 := by
 have hge := grownCap_ge w n 0 e
 have hcm : grownCap w n 0 e ≤ maxLen := grownCap_le_maxLen w n 0 e (by simp [maxLen]; omega)
 have hw : IntKind.i64.wrap (n : Int) = n := by rw [IntKind.wrap_i64]; omega
 have hn : n ≠ 0 := by omega
 have h1 : ¬ ((n : Int) < 0) := by omega
 have h2 : ¬ (281474976710656 < (n : Int)) := by omega
 have h3 : ¬ (9223372036854775807 < (n : Int)) := by omega
 have h48' : ¬ (281474976710656 < Builtin.nextslicecap n 0) := by rw [nextslicecap_zero h0]; omega
 refine ⟨grownCap w n 0 e, w.drew.alloc (.cells (Builtin.zeroCells z.cells n ++ Builtin.zeroCells z.cells (grownCap w n 0 e - n)) e), ?_, hge, by simpa [maxLen] using hcm, ?_, ?_⟩
 ·simp [Builtin.append_, run_underlying ht, run_underlying hti, sizeOf, typeInfo, zeroValue, hi, hz, hs, hb, hw, h1, h2, asInt, asIntOf, Builtin.firstCells, hn, h3, h48', Question.forced, newRow, grownCap]
 ·refine ⟨by simp, .inr ⟨w.heap.size, grownCap w n 0 e, _, rfl, Nat.le_refl _, heap_alloc_new w.drew _, Nat.zero_le _, hcm, ?_, by simp⟩⟩
  simp [size_zeroCells, hzc]; omega
 ·exact Ext.alloc (Ext.drew (Ext.refl w)) _
theorem wpList_append_make_nil {P : Program} (w : World) {ops : Array Oper} {rest : List Oper} {o : Oper} {a : Act} {Q : Exit → Act → World → Prop} (hgd : o.guard = none) (s x : Operand) (t ti : TypeId)
  (ho : o.op = .call { callee := .builtin .append, args := #[s, x], argTypes := #[t, ti] })
  (e : TypeId) (i : TypeInfo) (z : Value) (ht : P.underlying t = some (.slice e)) (hti : P.underlying ti = some (.int .i64)) (hi : P.info? e = some i) (hz : i.zero = some z)
  (hzc : z.cells.size = 1) (hs : i.size = 1) (hb : i.bytes = 1) (n : Nat) (h0 : 0 < n) (h47 : n ≤ 140737488355328) (hsv : a.eval s = .slice none 0 0) (hxv : a.eval x = .int .i64 n)
  (h : ∀ cap w1, n ≤ cap → cap ≤ 9223372036854775807 → w1.ownsRow w.heap.size e 1 (.slice (some ⟨w.heap.size, 0, none⟩) 0 cap) 0 [] → Ext w w1 → wpList P ops Q rest (a.put o.dst (.slice (some ⟨w.heap.size, 0, none⟩) n cap)) w1) :
  wpList P ops Q (o :: rest) a w := by
 refine wpList_plain hgd fun K hK => ?_
 obtain ⟨cap, w1, hrun, h1, h2, h3, h4⟩ := run_append_make_nil (P := P) w t ti o.type e i z ht hti hi hz hzc hs hb n h0 h47
 unfold Oper.wp execOp
 simp only [ho, resolve, invoke, builtin, Sem.run_bind, Sem.run_pure, Result.andThen_ok, List.map_toArray, List.map_cons, List.map_nil, hsv, hxv, hrun]
 exact hK _ _ (h cap w1 h1 h2 h3 h4)
theorem run_convert_sl {P : Program} (w : World) (src dst e : TypeId) (hs : P.underlying src = some (.slice e)) (he : P.underlying e = some (.int .u8)) (hd : P.underlying dst = some .string) {v : Value} {bs : List UInt8} (h : Bs w v bs) :
  (convert src dst v).run P w = .ok (.string ⟨bs.toArray⟩) w := by
 obtain ⟨_, A, c, rfl, _, _, hc⟩ := h
 cases A with
 | none =>
  have hb : bs = [] := by
   cases bs with
   | nil => rfl
   | cons b l => obtain ⟨_, _, e, _⟩ := hc (by simp); cases e
  subst hb
  exact run_convert_bytes_nil w src e hs he 0 c dst hd
 | some a =>
  rcases Nat.eq_zero_or_pos bs.length with h0 | h0
  ·have hb : bs = [] := List.eq_nil_of_length_eq_zero h0
   subst hb
   exact run_convert_bytes_back w src dst e a c [] hs he hd (by simp)
  ·obtain ⟨b, off, e', hcell⟩ := hc h0
   cases e'
   refine run_convert_bytes_back w src dst e ⟨b, off, none⟩ c bs hs he hd (fun j hj => ?_)
   have hadd : (⟨b, off, none⟩ : Addr).add j = ⟨b, off + j, none⟩ := by unfold Addr.add; split <;> simp_all
   rw [hadd]
   exact hcell j _ (by simp [List.getElem?_eq_getElem hj, bv])
end Go.Mv
namespace Go.Proofs.YtmecffckghkahaaGreatDoor
open Go.RowKit Go.Mv
def CloneP (w : World) (bs : List UInt8) (e : Ending) (w' : World) : Prop := ∃ v', e = .returned v' ∧ w'.ownsRow w.heap.size 5 1 v' bs.length (bs.map bv) ∧ Ext w w'
theorem Clone_any (v : Value) (bs : List UInt8) (w : World) (h : Bs w v bs) (hl : bs.length ≤ 140737488355328) : Calls Tryz.prog 123 #[v] w (CloneP w bs) := by
 obtain ⟨A, c, rfl, h1, h2⟩ := SlR.open_ h
 obtain ⟨i0, hi, hz0, hz1, hz2⟩ := info_parts info_u8
 have hnil := fun (W : World) => Lib.run_eql_slice_nil (P := Tryz.prog) W
 cases A with
 | none =>
  have hb : bs = [] := by
   cases hbs : bs with
   | nil => rfl
   | cons b l =>
    have := (SlR.at_ h (by rw [hbs]; simp)).2
    obtain ⟨_, _, e, _⟩ := this
    cases e
  subst hb
  go_enter Tryz.func123, Tryz.ntmps123
  go_wp2
  go_ret
  exact ⟨_, rfl, World.ownsRow_nil _ _ _ _, Ext.refl _⟩
 | some a =>
  go_enter Tryz.func123, Tryz.ntmps123
  go_wp2_with (at_builtin; refine wpList_append_sl _ rfl (.tmp 5) (.tmp 6) 43 rfl w.heap.size 5 i0 (.int .u8 0) 1 1 Tryz.underlying43 hi hz0 hz1 hz2 rfl (by decide) (.slice (some ⟨w.heap.size, 0, none⟩) 0 0) 0 [] rfl (own_new w [] 5 0 rfl (by simp [maxLen]) (Nat.le_refl _)) _ bs.length (bs.map bv) rfl (SlR.ext h ((Ext.refl w).alloc _)) (one_bv _) (by simp [maxLen]; omega) (by omega) (by simp) ?_; intro v' w1 hown' hgrow)
  go_ret
  refine ⟨_, rfl, by simpa using hown', ?_⟩
  refine Below.grown (Ext.alloc (Ext.refl w) _) hgrow (by simp) (fun k ek => ?_)
  have : w.heap.size = k := by simpa [Value.ownBlock] using ek
  omega
set_option maxRecDepth 100000 in
theorem Grow_nil (n : Nat) (w : World) (hl : n ≤ 140737488355328) : Calls Tryz.prog 132 #[.slice none 0 0, .int .i64 n] w (CloneP w []) := by
 obtain ⟨i0, hi, hz0, hz1, hz2⟩ := info_parts info_u8
 by_cases h0 : n = 0
 ·subst h0
  go_enter Tryz.func132, Tryz.ntmps132
  go_wp2
  go_ret
  exact ⟨_, rfl, World.ownsRow_nil _ _ _ _, Ext.refl _⟩
 ·go_enter Tryz.func132, Tryz.ntmps132
  go_wp2_with (at_builtin; refine wpList_append_make_nil _ rfl (.tmp 20) (.tmp 21) 43 3 rfl 5 i0 (.int .u8 0) Tryz.underlying43 Tryz.underlying3 hi hz0 rfl hz1 hz2 n (by omega) hl rfl rfl ?_; intro cap w1 hle hle2 hown hE)
  go_ret
  exact ⟨_, rfl, hown, hE⟩
end Go.Proofs.YtmecffckghkahaaGreatDoor
