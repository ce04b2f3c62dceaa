/-
  Plain laws on floats: bits that read as an integer; the operations on such bits are exact.
  Plain laws over any program, used by every walk of this seat: a range over a function whose iterator may keep cells of its own.
-/
import Derived.WalkLawsBesides
import Derived.Laws.FloatArith
import Derived.Laws.ComplexArith
import Derived.RangeFuncNested
import Derived.RangeFuncLeaves
import Derived.WalkKit
set_option linter.all false
namespace Go
/-- The element type of a block of cells. -/
def Obj.ty : Obj → Option TypeId
  | .cells _ t _ => some t
  | _ => none
end Go
namespace Go.Mv
open Go.RowKit

/-- An integer of a sign and a size. -/
def sval (s : Bool) (n : Nat) : Int := if s then -(n : Int) else n
/-- The number 'M * 2 ^ i' is the integer n. -/
def Rep (M : Nat) (i : Int) (n : Nat) : Prop := ∃ b : Nat, i = -(b : Int) ∧ M = n * 2 ^ b
theorem rep_zero (b : Nat) : Rep 0 (-(b : Int)) 0 := ⟨b, rfl, (Nat.zero_mul _).symm⟩
/-- The bits x read as the integer ±n. -/
def Fl (x : Nat) (s : Bool) (n : Nat) : Prop := ∃ M i, Ieee.double.read x = .number s M i ∧ Rep M i n

def rung (n : Nat) : Nat := if n = 0 then 0 else (n.log2 + 1022) * 4503599627370496 + n * 2 ^ (52 - n.log2)
def fb (s : Bool) (n : Nat) : Nat := if s then 9223372036854775808 + rung n else rung n

theorem log2_mul_pow (n k : Nat) (h : n ≠ 0) : (n * 2 ^ k).log2 = n.log2 + k := by
  induction k with
  | zero => simp
  | succ k ih =>
    rw [Nat.pow_succ, ← Nat.mul_assoc, Nat.mul_comm _ 2, Nat.log2_two_mul (by have := Nat.two_pow_pos k; exact Nat.mul_ne_zero h (by omega)), ih]; omega
theorem signed_eq (s : Bool) (m k : Nat) : Ieee.signed s m k = sval s (m * 2 ^ k) := by
  unfold Ieee.signed sval; rw [Nat.shiftLeft_eq]
theorem sval_mul (s : Bool) (m k : Nat) : sval s (m * k) = sval s m * k := by
  unfold sval; split <;> simp [Int.neg_mul]
theorem sval_natAbs (s : Bool) (n : Nat) : (sval s n).natAbs = n := by unfold sval; split <;> simp

theorem cut_exact (way : Ieee.Toward) (s : Bool) (q v : Nat) : way.cut s (q * 2 ^ v) v = q := by
  unfold Ieee.Toward.cut
  dsimp only
  rw [Nat.shiftLeft_eq, Nat.one_mul]
  rcases Nat.eq_zero_or_pos q with rfl | hq
  · cases way <;> simp
    all_goals (rw [Nat.zero_mod, Nat.zero_div]; simp)
  · have hm : min v ((q * 2 ^ v).log2 + 2) = v := by rw [log2_mul_pow q v (by omega)]; omega
    have hp := Nat.two_pow_pos v
    rw [hm, Nat.mul_div_cancel _ hp, Nat.mul_mod_left]
    cases way <;> simp

theorem rung_lt (n : Nat) (hn : n < 9007199254740992) : rung n < 9218868437227405312 ∧ (n ≠ 0 → n.log2 ≤ 52 ∧ 4503599627370496 ≤ n * 2 ^ (52 - n.log2) ∧ n * 2 ^ (52 - n.log2) < 9007199254740992) := by
  unfold rung
  split
  · rename_i h; exact ⟨by decide, fun h' => absurd h h'⟩
  · rename_i h0
    have hl : n.log2 < 53 := (Nat.log2_lt h0).2 (by simpa using hn)
    have h1 : n < 2 ^ (n.log2 + 1) := Nat.lt_log2_self
    have h2 : 2 ^ n.log2 ≤ n := Nat.log2_self_le h0
    have e1 : 2 ^ n.log2 * 2 ^ (52 - n.log2) = 4503599627370496 := by rw [← Nat.pow_add, show n.log2 + (52 - n.log2) = 52 from by omega]
    have e2 : 2 ^ (n.log2 + 1) * 2 ^ (52 - n.log2) = 9007199254740992 := by rw [← Nat.pow_add, show n.log2 + 1 + (52 - n.log2) = 53 from by omega]
    have a1 : 2 ^ n.log2 * 2 ^ (52 - n.log2) ≤ n * 2 ^ (52 - n.log2) := Nat.mul_le_mul_right _ h2
    have a2 : n * 2 ^ (52 - n.log2) < 2 ^ (n.log2 + 1) * 2 ^ (52 - n.log2) := Nat.mul_lt_mul_of_pos_right h1 (Nat.two_pow_pos _)
    rw [e1] at a1
    rw [e2] at a2
    exact ⟨by omega, fun _ => ⟨by omega, a1, a2⟩⟩

theorem nearest_exact (s : Bool) {M : Nat} {i : Int} {n : Nat} (h : Rep M i n) (hn : n < 9007199254740992) : Ieee.double.nearest s M i = fb s n := by
  obtain ⟨b, rfl, rfl⟩ := h
  unfold Ieee.Format.nearest
  have hr := rung_lt n hn
  have hlp : Ieee.double.leastPlace = -1074 := by decide
  have hfb : (Ieee.double.fractionBits : Int) = 52 := by decide
  have hbin : Ieee.double.binade = 4503599627370496 := by decide
  have hinf : Ieee.double.infRung = 9218868437227405312 := by decide
  have hsw : Ieee.double.signWeight = 9223372036854775808 := by decide
  by_cases h0 : n = 0
  · subst h0
    simp [fb, rung, Ieee.Format.word, hsw]
  · have hne : n * 2 ^ b ≠ 0 := Nat.mul_ne_zero h0 (by have := Nat.two_pow_pos b; omega)
    rw [if_neg hne]
    dsimp only
    obtain ⟨h1, h2⟩ := hr
    obtain ⟨hl, ha1, ha2⟩ := h2 h0
    rw [log2_mul_pow n b h0, hlp, hfb, hbin, hinf]
    have hmax : max (-(b : Int) + ((n.log2 + b : Nat) : Int) - 52) (-1074) = (n.log2 : Int) - 52 := by omega
    rw [hmax]
    have hcut : (n * 2 ^ b) <<< (-(b : Int) - ((n.log2 : Int) - 52)).toNat = (n * 2 ^ (52 - n.log2)) * 2 ^ ((n.log2 : Int) - 52 - -(b : Int)).toNat := by
      rw [Nat.shiftLeft_eq, Nat.mul_assoc, Nat.mul_assoc, ← Nat.pow_add, ← Nat.pow_add]
      congr 2
      omega
    rw [hcut, cut_exact]
    have hk : ((n.log2 : Int) - 52 - -1074).toNat = n.log2 + 1022 := by omega
    rw [hk]
    have hrr : rung n = (n.log2 + 1022) * 4503599627370496 + n * 2 ^ (52 - n.log2) := by unfold rung; rw [if_neg h0]
    rw [← hrr, Nat.min_eq_left (by omega)]
    unfold fb Ieee.Format.word
    rw [hsw]

theorem read_fb (s : Bool) (n : Nat) (hn : n < 9007199254740992) : Fl (fb s n) s n := by
  obtain ⟨h1, h2⟩ := rung_lt n hn
  have hlp : Ieee.double.leastPlace = -1074 := by decide
  have hbin : Ieee.double.binade = 4503599627370496 := by decide
  have hinf : Ieee.double.infRung = 9218868437227405312 := by decide
  have hsw : Ieee.double.signWeight = 9223372036854775808 := by decide
  have e1 : (fb s n / 9223372036854775808 % 2 == 1) = s := by
    unfold fb; cases s <;> simp <;> omega
  have e2 : fb s n % 9223372036854775808 = rung n := by
    unfold fb; cases s <;> simp <;> omega
  unfold Fl Ieee.Format.read
  dsimp only
  rw [hlp, hbin, hinf, hsw, e1, e2]
  by_cases h0 : n = 0
  · subst h0
    exact ⟨0, -1074, by simp [rung], rep_zero 1074⟩
  · obtain ⟨hl, ha1, ha2⟩ := h2 h0
    have hrr : rung n = (n.log2 + 1022) * 4503599627370496 + n * 2 ^ (52 - n.log2) := by unfold rung; rw [if_neg h0]
    rw [if_neg (by omega), if_pos (by omega)]
    refine ⟨_, _, rfl, 52 - n.log2, ?_, ?_⟩ <;> omega

theorem fl_lt {x : Nat} {s : Bool} {n : Nat} : Fl x s n → ∃ b : Nat, Ieee.double.read x = .number s (n * 2 ^ b) (-(b : Int)) := by
  rintro ⟨M, i, h, b, rfl, rfl⟩; exact ⟨b, h⟩

theorem order_num (s t : Bool) (M N b c : Nat) : (Ieee.Datum.number s M (-(b : Int))).order (.number t N (-(c : Int))) = some (compare (sval s (M * 2 ^ c)) (sval t (N * 2 ^ b))) := by
  unfold Ieee.Datum.order
  dsimp only
  rw [signed_eq, signed_eq]
  have hmul : ∀ (p : Nat) (u v : Int), 0 < p → compare (u * p) (v * p) = compare u v := by
    intro p u v hp
    simp only [compare, compareOfLessAndEq]
    have hp' : (0 : Int) < p := by omega
    have e1 : (u * p < v * p) = (u < v) := by rw [Int.mul_lt_mul_right hp']
    have e2 : (u * p = v * p) = (u = v) := by rw [Int.mul_eq_mul_right_iff (by omega)]
    simp only [e1, e2]
  congr 1
  rcases Nat.le_total b c with hbc | hbc
  · have e1 : (-(b : Int) - min (-(b : Int)) (-(c : Int))).toNat = c - b := by omega
    have e2 : (-(c : Int) - min (-(b : Int)) (-(c : Int))).toNat = 0 := by omega
    rw [e1, e2, ← hmul (2 ^ b) _ _ (Nat.two_pow_pos _), ← sval_mul, ← sval_mul, Nat.mul_assoc, ← Nat.pow_add, show c - b + b = c from by omega]
    simp
  · have e1 : (-(b : Int) - min (-(b : Int)) (-(c : Int))).toNat = 0 := by omega
    have e2 : (-(c : Int) - min (-(b : Int)) (-(c : Int))).toNat = b - c := by omega
    rw [e1, e2, ← hmul (2 ^ c) _ _ (Nat.two_pow_pos _), ← sval_mul, ← sval_mul, Nat.mul_assoc N, ← Nat.pow_add, show b - c + c = b from by omega]
    simp

theorem order_fl {x y : Nat} {s t : Bool} {n m : Nat} (hx : Fl x s n) (hy : Fl y t m) : Ieee.double.order x y = some (compare (sval s n) (sval t m)) := by
  obtain ⟨b, hb⟩ := fl_lt hx
  obtain ⟨c, hc⟩ := fl_lt hy
  unfold Ieee.Format.order
  rw [hb, hc, order_num, Nat.mul_assoc, Nat.mul_assoc, Nat.mul_comm (2 ^ c), sval_mul, sval_mul]
  congr 1
  have hp : (0 : Int) < ((2 ^ b * 2 ^ c : Nat) : Int) := by have := Nat.mul_pos (Nat.two_pow_pos b) (Nat.two_pow_pos c); omega
  simp only [compare, compareOfLessAndEq]
  have e1 : (sval s n * ((2 ^ b * 2 ^ c : Nat) : Int) < sval t m * ((2 ^ b * 2 ^ c : Nat) : Int)) = (sval s n < sval t m) := by rw [Int.mul_lt_mul_right hp]
  have e2 : (sval s n * ((2 ^ b * 2 ^ c : Nat) : Int) = sval t m * ((2 ^ b * 2 ^ c : Nat) : Int)) = (sval s n = sval t m) := by rw [Int.mul_eq_mul_right_iff (by omega)]
  simp only [e1, e2]

theorem cmp_lt (a b : Int) : (some (compare a b) == some Ordering.lt) = decide (a < b) := by
  rw [Bool.eq_iff_iff]; simp only [compare, compareOfLessAndEq]; split <;> (try split) <;> simp_all
theorem cmp_eq (a b : Int) : (some (compare a b) == some Ordering.eq) = decide (a = b) := by
  rw [Bool.eq_iff_iff]; simp only [compare, compareOfLessAndEq]; split <;> (try split) <;> simp_all <;> omega
theorem cmp_gt (a b : Int) : (some (compare a b) == some Ordering.gt) = decide (b < a) := by
  rw [Bool.eq_iff_iff]; simp only [compare, compareOfLessAndEq]; split <;> (try split) <;> simp_all <;> omega

theorem sum_exact {x y : Nat} {s t : Bool} {n m : Nat} (hx : Fl x s n) (hy : Fl y t m) (h : (sval s n + sval t m).natAbs < 9007199254740992) :
    Ieee.double.add x y = some (fb (if sval s n + sval t m = 0 then s && t else decide (sval s n + sval t m < 0)) (sval s n + sval t m).natAbs) := by
  obtain ⟨b, hb⟩ := fl_lt hx
  obtain ⟨c, hc⟩ := fl_lt hy
  unfold Ieee.Format.add
  rw [hb, hc]
  unfold Ieee.Datum.sum
  dsimp only
  rw [signed_eq, signed_eq, Nat.mul_assoc, Nat.mul_assoc, ← Nat.pow_add, ← Nat.pow_add]
  obtain ⟨d, hd⟩ : ∃ d : Nat, min (-(b : Int)) (-(c : Int)) = -(d : Int) := ⟨max b c, by omega⟩
  rw [hd]
  have e1 : b + (-(b : Int) - -(d : Int)).toNat = d := by omega
  have e2 : c + (-(c : Int) - -(d : Int)).toNat = d := by omega
  rw [e1, e2, sval_mul, sval_mul, ← Int.add_mul]
  generalize sval s n + sval t m = z at *
  have hp : (0 : Int) < ((2 ^ d : Nat) : Int) := by have := Nat.two_pow_pos d; omega
  have z0 : (z * ((2 ^ d : Nat) : Int) = 0) = (z = 0) := by
    rw [eq_iff_iff]; constructor
    · intro h'; rcases Int.mul_eq_zero.1 h' with h' | h' <;> omega
    · intro h'; rw [h']; simp
  have z1 : (z * ((2 ^ d : Nat) : Int) < 0) = (z < 0) := by
    have := Int.mul_lt_mul_right (a := ((2 ^ d : Nat) : Int)) (b := z) (c := 0) hp
    rw [Int.zero_mul] at this
    exact propext this
  simp only [Option.map_some, Ieee.Format.write, z0, z1, Int.natAbs_mul]
  congr 1
  exact nearest_exact _ ⟨d, rfl, by simp⟩ h

theorem opposite_fl {x : Nat} {s : Bool} {n : Nat} (h : Fl x s n) : ∃ b : Nat, (Ieee.double.read x).opposite = .number (!s) (n * 2 ^ b) (-(b : Int)) := by
  obtain ⟨b, hb⟩ := fl_lt h
  exact ⟨b, by rw [hb]; rfl⟩
theorem sub_exact {x y : Nat} {s t : Bool} {n m : Nat} (hx : Fl x s n) (hy : Fl y t m) (h : (sval s n - sval t m).natAbs < 9007199254740992) :
    Ieee.double.sub x y = some (fb (if sval s n - sval t m = 0 then s && !t else decide (sval s n - sval t m < 0)) (sval s n - sval t m).natAbs) := by
  obtain ⟨b, hb⟩ := fl_lt hx
  obtain ⟨c, hc⟩ := opposite_fl hy
  have e0 : sval s n - sval t m = sval s n + sval (!t) m := by unfold sval; cases t <;> simp <;> omega
  rw [e0] at h ⊢
  unfold Ieee.Format.sub
  rw [hb, hc]
  unfold Ieee.Datum.sum
  dsimp only
  rw [signed_eq, signed_eq, Nat.mul_assoc, Nat.mul_assoc, ← Nat.pow_add, ← Nat.pow_add]
  obtain ⟨d, hd⟩ : ∃ d : Nat, min (-(b : Int)) (-(c : Int)) = -(d : Int) := ⟨max b c, by omega⟩
  rw [hd]
  have e1 : b + (-(b : Int) - -(d : Int)).toNat = d := by omega
  have e2 : c + (-(c : Int) - -(d : Int)).toNat = d := by omega
  rw [e1, e2, sval_mul, sval_mul, ← Int.add_mul]
  generalize sval s n + sval (!t) m = z at *
  have hp : (0 : Int) < ((2 ^ d : Nat) : Int) := by have := Nat.two_pow_pos d; omega
  have z0 : (z * ((2 ^ d : Nat) : Int) = 0) = (z = 0) := by
    rw [eq_iff_iff]; constructor
    · intro h'; rcases Int.mul_eq_zero.1 h' with h' | h' <;> omega
    · intro h'; rw [h']; simp
  have z1 : (z * ((2 ^ d : Nat) : Int) < 0) = (z < 0) := by
    have := Int.mul_lt_mul_right (a := ((2 ^ d : Nat) : Int)) (b := z) (c := 0) hp
    rw [Int.zero_mul] at this
    exact propext this
  simp only [Option.map_some, Ieee.Format.write, z0, z1, Int.natAbs_mul]
  congr 1
  exact nearest_exact _ ⟨d, rfl, by simp⟩ h

theorem mul_exact {x y : Nat} {s t : Bool} {n m : Nat} (hx : Fl x s n) (hy : Fl y t m) (h : n * m < 9007199254740992) : Ieee.double.mul x y = some (fb (s ^^ t) (n * m)) := by
  obtain ⟨b, hb⟩ := fl_lt hx
  obtain ⟨c, hc⟩ := fl_lt hy
  unfold Ieee.Format.mul
  rw [hb, hc]
  simp only [Ieee.Datum.product, Option.map_some, Ieee.Format.write]
  congr 1
  refine nearest_exact _ ⟨b + c, by omega, ?_⟩ h
  rw [Nat.pow_add]
  simp only [Nat.mul_left_comm, Nat.mul_assoc, Nat.mul_comm]

theorem ofInt_nat (n : Nat) (h : n < 9007199254740992) : floatOfInt .f64 (n : Int) = fb false n := by
  unfold floatOfInt FloatKind.nearest FloatKind.encode
  have e : ((n : Int) < 0) = False := by simp
  simp only [FloatKind.format, Ieee.Format.write, Int.natAbs_natCast]
  rw [show decide ((n : Int) < 0) = false from by simp]
  exact nearest_exact _ ⟨0, by simp, by simp⟩ h

theorem fl_zero : Fl 0 false 0 := read_fb false 0 (by decide)
end Go.Mv

namespace Go.Mv
open Go.RowKit

/-- The fence without a bound, in a round or in none. -/
abbrev Wd (ro : Option Nat) : Fence := { Fence.wide with round := ro }

theorem callsIn_wd {P : Program} {ro : Option Nat} {n : Nat} {f : FuncId} {args : Array Value} {w : World} {R : Ending → World → Prop} :
    CallsIn (Wd ro) n P f args w R ↔ Calls P f args w R :=
  (callsIn_wide (n := n) (P := P) (f := f) (args := args) (w := w) (R := R))

theorem roundIn_wd {P : Program} {ro : Option Nat} {n m : Nat} {l : Nat} {f : FuncId} {tmps : Array Value} {assign body : Code} {w : World} {R : Ending → World → Prop}
    (h : RoundIn Fence.wide m P l f tmps assign body w R) : RoundIn (Wd ro) n P l f tmps assign body w R :=
  ⟨trivial, fun c cs _ => h.2 c cs (room_wide _)⟩

/-- What a round keeps: the blocks of K. -/
structure Kept (K : Nat → Obj → Prop) (A B : World) : Prop where
  size : A.heap.size ≤ B.heap.size
  same : ∀ (k : Nat) (o : Obj), A.heap[k]? = some o → K k o → B.heap[k]? = some o

/-- What an iterator may turn between two rounds: the blocks of M; new blocks. -/
structure Moves (M : Nat → Obj → Prop) (A B : World) : Prop where
  os : B.os = A.os
  tape : B.tape = A.tape
  output : B.output = A.output
  size : A.heap.size ≤ B.heap.size
  same : ∀ (k : Nat) (o : Obj), A.heap[k]? = some o → ¬ M k o → B.heap[k]? = some o

theorem isCells_of_ty {o : Obj} {t : TypeId} (h : o.ty = some t) : o.isCells = true := by cases o <;> simp_all [Obj.ty, Obj.isCells]
theorem ty_none {o : Obj} (h : o.isCells = false) : o.ty = none := by cases o <;> simp_all [Obj.ty, Obj.isCells]

/-- The blocks of M, and what is no cells from n on. -/
def orOther (M : Nat → Obj → Prop) (n : Nat) : Nat → Obj → Prop := fun k o => M k o ∨ (n ≤ k ∧ o.isCells = false)

theorem heap_setCell_cells {W : World} {a : Addr} {v : Value} {o : Obj} (h : W.heap[a.block]? = some o) (hc : o.isCells = false) : (W.setCell a v).heap[a.block]? = some o := by
  obtain ⟨hlt, hk'⟩ := Array.getElem?_eq_some_iff.1 h
  show (W.heap.modify a.block _)[a.block]? = some o
  rw [Array.getElem?_eq_getElem (by rw [Array.size_modify]; exact hlt), Array.getElem_modify_self, hk']
  cases o <;> first | rfl | (simp [Obj.isCells] at hc)

section
variable {K M M' : Nat → Obj → Prop} {n : Nat} {A B C : World}
theorem Kept.refl : Kept K A A := ⟨Nat.le_refl _, fun _ _ h _ => h⟩
theorem Kept.trans (h : Kept K A B) (k : Kept K B C) : Kept K A C := ⟨Nat.le_trans h.size k.size, fun i o hi ho => k.same i o (h.same i o hi ho) ho⟩
theorem Kept.alloc (h : Kept K A B) (o : Obj) : Kept K A (B.alloc o) :=
  h.trans ⟨by simp, fun k _ hk _ => (Below.heap_alloc B o k (Array.getElem?_eq_some_iff.1 hk).1).trans hk⟩
theorem Kept.drew (h : Kept K A B) : Kept K A B.drew := ⟨h.size, h.same⟩
theorem Kept.setCell (h : Kept K A B) {a : Addr} (ha : ∀ o, A.heap[a.block]? = some o → o.isCells = true → ¬ K a.block o) (v : Value) : Kept K A (B.setCell a v) :=
  ⟨Nat.le_trans h.size (by simp [World.setCell]), fun k o hk ho => by
    have hk2 := h.same k o hk ho
    by_cases e : k = a.block
    · subst e
      cases hc : o.isCells with
      | true => exact absurd ho (ha o hk hc)
      | false => exact heap_setCell_cells hk2 hc
    · exact (Below.heap_setCell B a v k e).trans hk2⟩
theorem Kept.below {N : Nat} (h : Kept K A B) (hb : Below N B C) (hN : B.heap.size ≤ N) : Kept K A C :=
  h.trans ⟨hb.size, fun k _ hk _ => (hb.block k (Nat.lt_of_lt_of_le (Array.getElem?_eq_some_iff.1 hk).1 hN)).trans hk⟩
theorem Kept.grown {row : Option Nat} (h : Kept K A B) (hg : B.grownBy C row) (hr : ∀ k o, row = some k → A.heap[k]? = some o → ¬ K k o) : Kept K A C :=
  ⟨Nat.le_trans h.size hg.size, fun k o hk ho => by
    have hk2 := h.same k o hk ho
    refine (hg.block k (Array.getElem?_eq_some_iff.1 hk2).1 (fun e => ?_)).trans hk2
    exact hr k o e.symm hk ho⟩
theorem Kept.mono {K' : Nat → Obj → Prop} (h : Kept K A B) (hK : ∀ k o, K' k o → K k o) : Kept K' A B := ⟨h.size, fun k o hk ho => h.same k o hk (hK k o ho)⟩
theorem Kept.cell (h : Kept K A B) {p : Addr} {v : Value} (hc : A.cell? p = some v) (hp : ∀ o, A.heap[p.block]? = some o → K p.block o) : B.cell? p = some v := by
  obtain ⟨o, ho, _⟩ := cells_of_cell hc
  exact (World.cell?_of_block ((h.same _ o ho (hp o ho)).trans ho.symm)).trans hc

theorem Moves.refl : Moves M A A := ⟨rfl, rfl, rfl, Nat.le_refl _, fun _ _ h _ => h⟩
theorem Moves.trans (h : Moves M A B) (k : Moves M B C) : Moves M A C :=
  ⟨k.os.trans h.os, k.tape.trans h.tape, k.output.trans h.output, Nat.le_trans h.size k.size, fun i o hi hm => k.same i o (h.same i o hi hm) hm⟩
theorem Moves.alloc (h : Moves M A B) (o : Obj) : Moves M A (B.alloc o) :=
  h.trans ⟨rfl, rfl, rfl, by simp, fun k _ hk _ => (Below.heap_alloc B o k (Array.getElem?_eq_some_iff.1 hk).1).trans hk⟩
theorem Moves.drew (h : Moves M A B) : Moves M A B.drew := ⟨h.os, h.tape, h.output, h.size, h.same⟩
theorem Moves.setCell (h : Moves M A B) {a : Addr} (ha : ∀ o, A.heap[a.block]? = some o → o.isCells = true → M a.block o) (v : Value) : Moves M A (B.setCell a v) :=
  ⟨h.os, h.tape, h.output, Nat.le_trans h.size (by simp [World.setCell]), fun k o hk hm => by
    have hk2 := h.same k o hk hm
    by_cases e : k = a.block
    · subst e
      cases hc : o.isCells with
      | true => exact absurd (ha o hk hc) hm
      | false => exact heap_setCell_cells hk2 hc
    · exact (Below.heap_setCell B a v k e).trans hk2⟩
theorem Moves.putObj (h : Moves M A B) {l : Nat} (hl : ∀ o, A.heap[l]? = some o → M l o) (o' : Obj) : Moves M A (B.putObj l o') :=
  ⟨h.os, h.tape, h.output, Nat.le_trans h.size (by simp), fun k o₁ hk hm =>
    (World.putObj_heap_other (fun e => by subst e; exact hm (hl _ hk))).trans (h.same k o₁ hk hm)⟩
theorem Moves.below {N : Nat} (h : Moves M A B) (hb : Below N B C) (hN : B.heap.size ≤ N) : Moves M A C :=
  h.trans ⟨hb.os, hb.tape, hb.output, hb.size, fun k _ hk _ => (hb.block k (Nat.lt_of_lt_of_le (Array.getElem?_eq_some_iff.1 hk).1 hN)).trans hk⟩
theorem Moves.weaken (h : Moves M A B) (hM : ∀ k o, M k o → M' k o) : Moves M' A B :=
  ⟨h.os, h.tape, h.output, h.size, fun k o hk hm => h.same k o hk (fun e => hm (hM k o e))⟩
theorem Moves.cell (h : Moves M A B) {p : Addr} {v : Value} (hc : A.cell? p = some v) (hp : ∀ o, A.heap[p.block]? = some o → o.isCells = true → ¬ M p.block o) : B.cell? p = some v := by
  obtain ⟨o, ho, hcells⟩ := cells_of_cell hc
  exact (World.cell?_of_block ((h.same _ _ ho (hp o ho hcells)).trans ho.symm)).trans hc
theorem Moves.belowOf {N : Nat} {w : World} (h : Moves M A B) (hb : Below N w A) (hM : ∀ k o, k < N → ¬ M k o) (hw : N ≤ w.heap.size) : Below N w B :=
  ⟨h.os.trans hb.os, h.tape.trans hb.tape, h.output.trans hb.output, Nat.le_trans hb.size h.size, fun k hk => by
    have e : w.heap[k]? = some w.heap[k] := Array.getElem?_eq_getElem (by omega)
    exact (h.same k _ ((hb.block k hk).trans e) (hM k _ hk)).trans e.symm⟩
theorem Moves.boxed (h : Moves M A B) {b : Nat} {t : TypeId} {v : Value} (hb : Boxed A b t v) (hM : ¬ M b (.cells #[v] t (0, 0))) : Boxed B b t v := h.same b _ hb hM
theorem Kept.boxed (h : Kept K A B) {b : Nat} {t : TypeId} {v : Value} (hb : Boxed A b t v) (hK : K b (.cells #[v] t (0, 0))) : Boxed B b t v := h.same b _ hb hK
theorem Moves.ownsRow (h : Moves M A B) {base : Nat} {e : TypeId} {size : Nat} {v : Value} {m : Nat} {xs : List Value} (ho : A.ownsRow base e size v m xs)
    (hM : ∀ k cur, v.ownBlock = some k → ¬ M k (.cells cur e (0, 0))) : B.ownsRow base e size v m xs := by
  refine ⟨ho.1, ?_⟩
  rcases ho.2 with hn | ⟨g, cap, cur, rfl, hb, hgg, rest⟩
  · exact .inl hn
  · exact .inr ⟨g, cap, cur, rfl, hb, h.same _ _ hgg (hM g cur rfl), rest⟩
end

/-- A call of yield: its run, and the round's contract. -/
def YieldsAt (P : Program) (l : Nat) (args : Array Value) (W : World) (R : Ending → World → Prop) : Prop :=
  ∃ fn tmps assign body, (Instr.yield l args).run P W = .ok (.round l fn tmps assign body) W ∧ RoundIn Fence.wide 0 P l fn tmps assign body W R

/-- AN ITERATOR's CONTRACT, in the world W0 in which it is called: it yields the data xs, one after the other, as 'Rp' represents them; it turns the blocks of M alone (and its own); it wants of a round that the blocks of K be kept. -/
def Seq (P : Program) (gf : Nat) (lb : Array Value) {α : Type} (Rp : α → Array Value → World → Prop) (K M : Nat → Obj → Prop) (xs : List α) (W0 : World) : Prop :=
  ∀ (l : Nat) (J Jx : List α → World → Prop),
    (∀ s A B, J s A → Moves (orOther M W0.heap.size) A B → J s B) → (∀ s A B, Jx s A → Moves (orOther M W0.heap.size) A B → Jx s B) →
    (∀ pre x post, xs = pre ++ x :: post → ∀ (W : World) (av : Array Value), J pre W → W0.heap.size ≤ W.heap.size → Rp x av W → YieldsAt P l av W fun e W' =>
      Kept (orOther K W0.heap.size) W W' ∧ ((e = .returned (.bool true) ∧ J (pre ++ [x]) W') ∨ (e = .returned (.bool false) ∧ Jx (pre ++ [x]) W'))) →
    J [] W0 →
    Calls P gf (#[.func (.yield l) #[] #[]] ++ lb) W0 fun e W' => (∃ v, e = .returned v) ∧ (J xs W' ∨ ∃ pre, pre <+: xs ∧ Jx pre W')

/-- HOW THE BODY OF A ROUND MAY BE LEFT. -/
def rdPost {α : Type} (K : Nat → Obj → Prop) (I : List α → World → Prop) (Ix : Code → List α → World → Prop) (xs : List α) (W : World) : Exit → Act → World → Prop
  | .normal, _, W' => Kept K W W' ∧ I xs W'
  | .ret, _, W' => Kept K W W' ∧ Ix .ret xs W'
  | .exit id, _, W' => Kept K W W' ∧ Ix (.exit id) xs W'
  | .goto t, _, W' => Kept K W W' ∧ Ix (.goto t) xs W'
  | .panic _, _, _ => False
  | .outgrown, _, _ => False

/-- What both laws share: behind 'enterLoop' the record l lies in W1, ready; the rest of W1 is w's, or the new block for deferred calls. -/
theorem range_core {P : Program} {α : Type} {ro : Option Nat} {n : Nat} {g : Operand} {ps : Array Tmp} {assign body : Code} {Q : Exit → Act → World → Prop} {a : Act} {w : World}
    {gf : Nat} {lb : Array Value} (hg : a.eval g = .func (.func gf) #[] lb) (eg : ∀ args w, (callFunc gf args).run P w = .ok (.enter gf args) w)
    {Rp : α → Array Value → World → Prop} {K M : Nat → Obj → Prop} {xs : List α}
    (hMc : ∀ k o, M k o → o.isCells = true) (hKc : ∀ k o, K k o → o.isCells = true) (hps : ∀ x av W, Rp x av W → av.size = ps.size)
    (I : List α → World → Prop) (Ix : Code → List α → World → Prop)
    (hI : ∀ s A B, I s A → Moves (orOther M w.heap.size) A B → I s B) (hIx : ∀ c s A B, Ix c s A → Moves (orOther M w.heap.size) A B → Ix c s B)
    (Ax : α → Act → World → Prop) (hAx : ∀ x a' A B, Ax x a' A → Moves (orOther (fun _ _ => False) w.heap.size) A B → Ax x a' B)
    (hassign : ∀ (l : Nat) (pre : List α) (x : α) (post : List α) (W : World) (av : Array Value) (K' : Act → World → Prop), xs = pre ++ x :: post → I pre W → w.heap.size ≤ W.heap.size → Rp x av W →
      (∀ a' W', Kept (orOther K w.heap.size) W W' → I pre W' → Ax x a' W' → K' a' W') →
      assign.wpIn (Wd (some l)) n P (Exit.then K' (fun _ _ _ => False)) { tmps := (ps.zip av).foldl (fun t (p, v) => t.setIfInBounds p v) a.tmps, defers := [] } W)
    (hbody : ∀ (l : Nat) (pre : List α) (x : α) (post : List α) (a' : Act) (W : World), xs = pre ++ x :: post → w.heap.size ≤ l → (∃ r, W.heap[l]? = some (.loop r)) → I pre W → w.heap.size ≤ W.heap.size → Ax x a' W →
      body.wpIn (Wd (some l)) n P (rdPost (orOther K w.heap.size) I Ix (pre ++ [x]) W) a' W)
    {fn : FuncId} {l : Nat} {mark : List Deferred} {W1 : World} {dfs : Nat} (hl0 : w.heap.size ≤ l)
    (hseq : Seq P gf lb Rp K M xs W1) (hW1 : w.heap.size ≤ W1.heap.size)
    (henter : (Instr.enterLoop fn a.tmps ps assign body ro).run P w = .ok (l, mark) W1)
    (hL1 : W1.heap[l]? = some (.loop { state := .ready, pending := none, fn, tmps := a.tmps, params := ps, assign, body, defers := dfs }))
    (hI1 : I [] W1)
    (X : World → Prop) (hX : ∀ A B, X A → (∀ k o, A.heap[k]? = some o → w.heap.size ≤ k → k < W1.heap.size → k ≠ l → o.isCells = false → B.heap[k]? = some o) → X B) (hX1 : X W1)
    (hdone : ∀ W, I xs W → X W → Q .normal { a with defers := mark ++ a.defers } W)
    (hstop : ∀ c pre W, pre <+: xs → Ix c pre W → X W → c.wpIn (Wd ro) n P Q { a with defers := mark ++ a.defers } W) :
    ∃ (l : Nat) (mark : List Deferred) (w₁ : World) (d : Deferred) (w₁' : World) (f : FuncId) (args : Array Value) (w₂ : World),
      (Instr.enterLoop fn a.tmps ps assign body ro).run P w = .ok (l, mark) w₁ ∧
      (resolve a.eval (rangeCall g l) 0).run P w₁ = .ok d w₁' ∧
      (∀ f', Target.leads P w₁' d.target d.args = some f' → (Wd ro).fn f') ∧
      (invoke d.target d.args).run P w₁' = .ok (.enter f args) w₂ ∧
      ((Wd ro).depth.isSome = true → 1 ≤ n) ∧
      CallsIn (Wd ro) (n - 1) P f args w₂ (rangePost (Wd ro) n P l Q { a with defers := mark ++ a.defers }) := by
  obtain ⟨rec, hrec⟩ : ∃ rec : LoopState → Option Code → Loop, rec = fun st pe => { state := st, pending := pe, fn, tmps := a.tmps, params := ps, assign, body, defers := dfs } := ⟨_, rfl⟩
  have hL1' : W1.heap[l]? = some (.loop (rec .ready none)) := by rw [hrec]; exact hL1
  -- the record's own turns
  have put : ∀ (A : World) (o o' : Obj), A.heap[l]? = some o → o.isCells = false → Moves (orOther (fun _ _ => False) w.heap.size) A (A.putObj l o') := fun A o o' ho hc =>
    Moves.refl.putObj (fun o₁ h₁ => by rw [ho] at h₁; cases h₁; exact .inr ⟨hl0, hc⟩) o'
  have putI : ∀ s A o o', I s A → A.heap[l]? = some o → o.isCells = false → I s (A.putObj l o') := fun s A o o' hi ho hc =>
    hI s _ _ hi ((put A o o' ho hc).weaken (fun k o h => by rcases h with h | h; exact h.elim; exact .inr h))
  have putIx : ∀ c s A o o', Ix c s A → A.heap[l]? = some o → o.isCells = false → Ix c s (A.putObj l o') := fun c s A o o' hi ho hc =>
    hIx c s _ _ hi ((put A o o' ho hc).weaken (fun k o h => by rcases h with h | h; exact h.elim; exact .inr h))
  have hlt1 : l < W1.heap.size := (Array.getElem?_eq_some_iff.1 hL1').1
  have putX : ∀ A o', X A → X (A.putObj l o') := fun A o' hx => hX A _ hx (fun k o hk _ _ hne _ => (World.putObj_heap_other hne).trans hk)
  have keepX : ∀ {K' : Nat → Obj → Prop} (A B : World), X A → Kept (orOther K' w.heap.size) A B → X B := fun A B hx hk =>
    hX A B hx (fun k o ho hn _ _ hc => hk.same k o ho (.inr ⟨hn, hc⟩))
  have moveO : ∀ (A B : World) (k : Nat) (o : Obj), A.heap[k]? = some o → k < W1.heap.size → o.isCells = false → Moves (orOther M W1.heap.size) A B → B.heap[k]? = some o := fun A B k o ho hk hc hm =>
    hm.same k o ho (fun h => by
      rcases h with h | h
      · have := hMc k o h; rw [hc] at this; cases this
      · omega)
  have moveX : ∀ (A B : World), X A → Moves (orOther M W1.heap.size) A B → X B := fun A B hx hm =>
    hX A B hx (fun k o ho _ hlt _ hc => moveO A B k o ho hlt hc hm)
  have moveI : ∀ (A B : World), Moves (orOther M W1.heap.size) A B → Moves (orOther M w.heap.size) A B := fun A B hm =>
    hm.weaken (fun k o h => by rcases h with h | h; exact .inl h; exact .inr ⟨by omega, h.2⟩)
  refine ⟨l, mark, W1, { target := .fn (.func gf) lb, args := #[.func (.yield l) #[] #[]] }, W1, gf, #[.func (.yield l) #[] #[]] ++ lb, W1, henter, ?_, fun _ _ => trivial, ?_, fun h => by simp [Fence.wide] at h, ?_⟩
  · simp only [resolve, hg]
    simp [go_sem]
  · simp [invoke, go_sem, eg]
  · refine callsIn_wd.2 ?_
    refine (hseq l
      (fun pre W => I pre W ∧ W.heap[l]? = some (.loop (rec .ready none)) ∧ X W)
      (fun pre W => ∃ c, Ix c pre W ∧ W.heap[l]? = some (.loop (rec .done (some c))) ∧ X W)
      (fun s A B hs hm => ⟨hI s A B hs.1 (moveI A B hm), moveO A B l _ hs.2.1 hlt1 rfl hm, moveX A B hs.2.2 hm⟩)
      (fun s A B hs hm => by
        obtain ⟨c, hc, hl, hx⟩ := hs
        exact ⟨c, hIx c s A B hc (moveI A B hm), moveO A B l _ hl hlt1 rfl hm, moveX A B hx hm⟩)
      ?_ ⟨hI1, hL1', hX1⟩).mono ?_
    · -- ONE ROUND
      rintro pre x post hxs W av ⟨hi, hl, hx⟩ hsz hrp
      have hy := run_yield (P := P) (args := av) hl (by rw [hrec]; exact hps x av W hrp)
      rw [hrec] at hy
      refine ⟨fn, _, assign, body, hy, ?_⟩
      clear hy
      have rd := roundIn_of_wpIn (F := Wd (some l)) (n := n) (P := P) (l := l) (f := fn) (w := W) (assign := assign) (body := body) (tmps := (ps.zip av).foldl (fun t (p, v) => t.setIfInBounds p v) a.tmps)
        (R := fun e W' => Kept (orOther K W1.heap.size) W W' ∧ ((e = .returned (.bool true) ∧ I (pre ++ [x]) W' ∧ W'.heap[l]? = some (.loop (rec .ready none)) ∧ X W') ∨
          (e = .returned (.bool false) ∧ ∃ c, Ix c (pre ++ [x]) W' ∧ W'.heap[l]? = some (.loop (rec .done (some c))) ∧ X W')))
        trivial (hassign l pre x post W av _ hxs hi (by omega) hrp ?_)
      · exact ⟨trivial, fun c cs _ => rd.2 c cs (room_wide _)⟩
      · intro a' Wa hka hia hax
        have hla := hka.same l _ hl (.inr ⟨hl0, rfl⟩)
        have hxa := keepX W Wa hx hka
        have hlta : l < Wa.heap.size := (Array.getElem?_eq_some_iff.1 hla).1
        refine ⟨_, run_beginRound hla (by rw [hrec]), ?_⟩
        have hl2 : (Wa.putObj l (.loop { rec .ready none with state := .busy })).heap[l]? = some (.loop { rec .ready none with state := .busy }) := World.putObj_heap_same hlta
        refine wpIn_mono (hbody l pre x post a' _ hxs hl0 ⟨_, hl2⟩ (putI _ _ _ _ hia hla rfl) (by simp; have := hka.size; omega) (hAx x a' _ _ hax (put _ _ _ hla rfl))) ?_
        -- what is known behind the body
        have fin : ∀ (jump : Option Code) (W3 : World), Kept (orOther K w.heap.size) (Wa.putObj l (.loop { rec .ready none with state := .busy })) W3 →
            (Instr.endRound l jump).run P W3 = .ok (.bool jump.isNone) (W3.putObj l (.loop (rec (if jump.isNone then .ready else .done) jump))) ∧
            W3.heap[l]? = some (.loop { rec .ready none with state := .busy }) ∧
            (W3.putObj l (.loop (rec (if jump.isNone then .ready else .done) jump))).heap[l]? = some (.loop (rec (if jump.isNone then .ready else .done) jump)) ∧
            X (W3.putObj l (.loop (rec (if jump.isNone then .ready else .done) jump))) ∧
            Kept (orOther K W1.heap.size) W (W3.putObj l (.loop (rec (if jump.isNone then .ready else .done) jump))) := fun jump W3 hk3 => by
          have hl3 := hk3.same l _ hl2 (.inr ⟨hl0, rfl⟩)
          have hrun := run_endRound (P := P) jump hl3
          rw [hrec] at hrun ⊢
          refine ⟨hrun, by rw [hrec] at hl3; exact hl3, World.putObj_heap_same (Array.getElem?_eq_some_iff.1 hl3).1, putX _ _ (keepX _ _ (putX _ _ hxa) hk3), ⟨?_, ?_⟩⟩
          · have h1 := hka.size; have h2 := hk3.size; simp at h2 ⊢; omega
          · intro k o hk hK
            have hKw : orOther K w.heap.size k o := by
              rcases hK with h | h
              · exact .inl h
              · exact .inr ⟨by omega, h.2⟩
            by_cases e : k = l
            · subst e
              rw [hl] at hk; cases hk
              rcases hK with h | h
              · have := hKc _ _ h; cases this
              · omega
            · have h1 := hka.same k o hk hKw
              have h2 := hk3.same k o ((World.putObj_heap_other e).trans h1) hKw
              exact (World.putObj_heap_other e).trans h2
        rintro e a3 W3 hp
        cases e with
        | normal =>
          obtain ⟨hk3, hi3⟩ := hp
          obtain ⟨hr, hl3, hl4, hx4, hk4⟩ := fin none W3 hk3
          exact ⟨_, _, hr, hk4, .inl ⟨rfl, putI _ _ _ _ hi3 hl3 rfl, hl4, hx4⟩⟩
        | ret =>
          obtain ⟨hk3, hi3⟩ := hp
          obtain ⟨hr, hl3, hl4, hx4, hk4⟩ := fin (some .ret) W3 hk3
          exact ⟨_, _, hr, hk4, .inr ⟨rfl, .ret, putIx _ _ _ _ _ hi3 hl3 rfl, hl4, hx4⟩⟩
        | exit id =>
          obtain ⟨hk3, hi3⟩ := hp
          obtain ⟨hr, hl3, hl4, hx4, hk4⟩ := fin (some (.exit id)) W3 hk3
          exact ⟨_, _, hr, hk4, .inr ⟨rfl, .exit id, putIx _ _ _ _ _ hi3 hl3 rfl, hl4, hx4⟩⟩
        | goto t =>
          obtain ⟨hk3, hi3⟩ := hp
          obtain ⟨hr, hl3, hl4, hx4, hk4⟩ := fin (some (.goto t)) W3 hk3
          exact ⟨_, _, hr, hk4, .inr ⟨rfl, .goto t, putIx _ _ _ _ _ hi3 hl3 rfl, hl4, hx4⟩⟩
        | panic ch => exact hp.elim
        | outgrown => exact hp.elim
    · -- BEHIND THE ITERATOR
      rintro e W2 ⟨⟨v, rfl⟩, (⟨hi, hl, hx⟩ | ⟨pre, hpre, c, hi, hl, hx⟩)⟩
      · exact ⟨none, _, by have := run_endLoop (P := P) hl (by rw [hrec]; simp); rw [hrec] at this; exact this, hdone _ (putI _ _ _ _ hi hl rfl) (putX _ _ hx)⟩
      · exact ⟨some c, _, by have := run_endLoop (P := P) hl (by rw [hrec]; simp); rw [hrec] at this; exact this, hstop c pre _ hpre (putIx _ _ _ _ _ hi hl rfl) (putX _ _ hx)⟩

/-- **A RANGE OVER A FUNCTION, in no round.** -/
theorem wp_range {P : Program} {α : Type} {n : Nat} {g : Operand} {ps : Array Tmp} {assign body : Code} {Q : Exit → Act → World → Prop} {a : Act} {w : World}
    {gf : Nat} {lb : Array Value} (hg : a.eval g = .func (.func gf) #[] lb) (eg : ∀ args w, (callFunc gf args).run P w = .ok (.enter gf args) w)
    {Rp : α → Array Value → World → Prop} {K M : Nat → Obj → Prop} {xs : List α}
    (hseq : ∀ W1, Below w.heap.size w W1 → W1.heap.size = w.heap.size + 2 → Seq P gf lb Rp K M xs W1)
    (hMc : ∀ k o, M k o → o.isCells = true) (hKc : ∀ k o, K k o → o.isCells = true) (hps : ∀ x av W, Rp x av W → av.size = ps.size)
    (I : List α → World → Prop) (Ix : Code → List α → World → Prop)
    (hI : ∀ s A B, I s A → Moves (orOther M w.heap.size) A B → I s B) (hIx : ∀ c s A B, Ix c s A → Moves (orOther M w.heap.size) A B → Ix c s B) (h0 : I [] w)
    (Ax : α → Act → World → Prop) (hAx : ∀ x a' A B, Ax x a' A → Moves (orOther (fun _ _ => False) w.heap.size) A B → Ax x a' B)
    (hassign : ∀ (l : Nat) (pre : List α) (x : α) (post : List α) (W : World) (av : Array Value) (K' : Act → World → Prop), xs = pre ++ x :: post → I pre W → w.heap.size ≤ W.heap.size → Rp x av W →
      (∀ a' W', Kept (orOther K w.heap.size) W W' → I pre W' → Ax x a' W' → K' a' W') →
      assign.wpIn (Wd (some l)) n P (Exit.then K' (fun _ _ _ => False)) { tmps := (ps.zip av).foldl (fun t (p, v) => t.setIfInBounds p v) a.tmps, defers := [] } W)
    (hbody : ∀ (l : Nat) (pre : List α) (x : α) (post : List α) (a' : Act) (W : World), xs = pre ++ x :: post → w.heap.size ≤ l → (∃ r, W.heap[l]? = some (.loop r)) → I pre W → w.heap.size ≤ W.heap.size → Ax x a' W →
      body.wpIn (Wd (some l)) n P (rdPost (orOther K w.heap.size) I Ix (pre ++ [x]) W) a' W)
    (hdone : ∀ D W, w.heap.size ≤ D → I xs W → W.heap[D]? = some (.deferred (some [])) → Q .normal { a with defers := { target := .collected D, args := #[] } :: a.defers } W)
    (hstop : ∀ D c pre W, w.heap.size ≤ D → pre <+: xs → Ix c pre W → W.heap[D]? = some (.deferred (some [])) → c.wpIn (Wd none) n P Q { a with defers := { target := .collected D, args := #[] } :: a.defers } W) :
    (Code.rangeFunc g ps assign body).wpIn (Wd none) n P Q a w := by
  refine wpIn_rangeFunc ?_
  intro fn _
  obtain ⟨W1, hW1⟩ : ∃ W1, (w.alloc (.deferred (some []))).alloc (.loop { state := .ready, pending := none, fn, tmps := a.tmps, params := ps, assign, body, defers := w.heap.size }) = W1 := ⟨_, rfl⟩
  have hb1 : Below w.heap.size w W1 := by rw [← hW1]; exact ((Below.refl _ w).alloc (Nat.le_refl _) _).alloc (by simp) _
  have hs1 : W1.heap.size = w.heap.size + 2 := by rw [← hW1]; simp
  have hL1 : W1.heap[w.heap.size + 1]? = some (.loop { state := .ready, pending := none, fn, tmps := a.tmps, params := ps, assign, body, defers := w.heap.size }) := by
    rw [← hW1]; have := World.alloc_heap_new (w.alloc (.deferred (some []))) (.loop { state := .ready, pending := none, fn, tmps := a.tmps, params := ps, assign, body, defers := w.heap.size }); rwa [World.size_alloc] at this
  have hK1 : W1.heap[w.heap.size]? = some (.deferred (some [])) := by
    rw [← hW1]; exact (Below.heap_alloc _ _ _ (by simp)).trans (World.alloc_heap_new w _)
  have hm1 : Moves (orOther M w.heap.size) w W1 := by rw [← hW1]; exact (Moves.refl.alloc _).alloc _
  refine range_core (fn := fn) (mark := [{ target := .collected w.heap.size, args := #[] }]) (l := w.heap.size + 1) (W1 := W1) (dfs := w.heap.size) hg eg hMc hKc hps I Ix hI hIx Ax hAx hassign hbody (by omega) (hseq W1 hb1 hs1) (by omega) ?_ hL1 (hI _ _ _ h0 hm1)
    (fun W => W.heap[w.heap.size]? = some (.deferred (some []))) ?_ hK1 (fun W hi hx => hdone _ W (Nat.le_refl _) hi hx) (fun c pre W hp hi hx => hstop _ c pre W (Nat.le_refl _) hp hi hx)
  · rw [← hW1]; exact run_enterLoop_outer _ _ _ _ _
  · intro A B hx hk
    exact hk _ _ hx (Nat.le_refl _) (by omega) (by omega) rfl

/-- **A RANGE OVER A FUNCTION within a round of loop l₀.** -/
theorem wp_range_in {P : Program} {α : Type} {n : Nat} {g : Operand} {ps : Array Tmp} {assign body : Code} {Q : Exit → Act → World → Prop} {a : Act} {w : World} {l₀ : Nat} (hr₀ : ∃ r₀, w.heap[l₀]? = some (.loop r₀))
    {gf : Nat} {lb : Array Value} (hg : a.eval g = .func (.func gf) #[] lb) (eg : ∀ args w, (callFunc gf args).run P w = .ok (.enter gf args) w)
    {Rp : α → Array Value → World → Prop} {K M : Nat → Obj → Prop} {xs : List α}
    (hseq : ∀ W1, Below w.heap.size w W1 → W1.heap.size = w.heap.size + 1 → Seq P gf lb Rp K M xs W1)
    (hMc : ∀ k o, M k o → o.isCells = true) (hKc : ∀ k o, K k o → o.isCells = true) (hps : ∀ x av W, Rp x av W → av.size = ps.size)
    (I : List α → World → Prop) (Ix : Code → List α → World → Prop)
    (hI : ∀ s A B, I s A → Moves (orOther M w.heap.size) A B → I s B) (hIx : ∀ c s A B, Ix c s A → Moves (orOther M w.heap.size) A B → Ix c s B) (h0 : I [] w)
    (Ax : α → Act → World → Prop) (hAx : ∀ x a' A B, Ax x a' A → Moves (orOther (fun _ _ => False) w.heap.size) A B → Ax x a' B)
    (hassign : ∀ (l : Nat) (pre : List α) (x : α) (post : List α) (W : World) (av : Array Value) (K' : Act → World → Prop), xs = pre ++ x :: post → I pre W → w.heap.size ≤ W.heap.size → Rp x av W →
      (∀ a' W', Kept (orOther K w.heap.size) W W' → I pre W' → Ax x a' W' → K' a' W') →
      assign.wpIn (Wd (some l)) n P (Exit.then K' (fun _ _ _ => False)) { tmps := (ps.zip av).foldl (fun t (p, v) => t.setIfInBounds p v) a.tmps, defers := [] } W)
    (hbody : ∀ (l : Nat) (pre : List α) (x : α) (post : List α) (a' : Act) (W : World), xs = pre ++ x :: post → w.heap.size ≤ l → (∃ r, W.heap[l]? = some (.loop r)) → I pre W → w.heap.size ≤ W.heap.size → Ax x a' W →
      body.wpIn (Wd (some l)) n P (rdPost (orOther K w.heap.size) I Ix (pre ++ [x]) W) a' W)
    (hdone : ∀ W, I xs W → Q .normal a W)
    (hstop : ∀ c pre W, pre <+: xs → Ix c pre W → c.wpIn (Wd (some l₀)) n P Q a W) :
    (Code.rangeFunc g ps assign body).wpIn (Wd (some l₀)) n P Q a w := by
  obtain ⟨r₀, hr₀⟩ := hr₀
  refine wpIn_rangeFunc ?_
  intro fn _
  obtain ⟨W1, hW1⟩ : ∃ W1, w.alloc (.loop { state := .ready, pending := none, fn, tmps := a.tmps, params := ps, assign, body, defers := r₀.defers }) = W1 := ⟨_, rfl⟩
  have hb1 : Below w.heap.size w W1 := by rw [← hW1]; exact (Below.refl _ w).alloc (Nat.le_refl _) _
  have hs1 : W1.heap.size = w.heap.size + 1 := by rw [← hW1]; simp
  have hL1 : W1.heap[w.heap.size]? = some (.loop { state := .ready, pending := none, fn, tmps := a.tmps, params := ps, assign, body, defers := r₀.defers }) := by
    rw [← hW1]; exact World.alloc_heap_new w _
  have hm1 : Moves (orOther M w.heap.size) w W1 := by rw [← hW1]; exact Moves.refl.alloc _
  refine range_core (fn := fn) (mark := []) (l := w.heap.size) (W1 := W1) (dfs := r₀.defers) hg eg hMc hKc hps I Ix hI hIx Ax hAx hassign hbody (by omega) (hseq W1 hb1 hs1) (by omega) ?_ hL1 (hI _ _ _ h0 hm1)
    (fun _ => True) (fun _ _ _ _ => trivial) trivial (fun W hi _ => hdone W hi) (fun c pre W hp hi _ => hstop c pre W hp hi)
  rw [← hW1]; exact run_enterLoop_inner hr₀ _ _ _ _ _

theorem heap_setCell_obj {W : World} {D : Nat} {o : Obj} (h : W.heap[D]? = some o) (hc : o.isCells = false) (a : Addr) (v : Value) : (W.setCell a v).heap[D]? = some o := by
  by_cases e : D = a.block
  · subst e; exact heap_setCell_cells h hc
  · exact (Below.heap_setCell W a v D e).trans h

/-- A return out of a function that has held one range over a function. -/
theorem ret_mark {P : Program} {n : Nat} {fn : Func} {tmps : Array Value} {R : Ending → World → Prop} {D : Nat} {W : World} (hK : W.heap[D]? = some (.deferred (some []))) (v : Value)
    (hres : (results fn tmps).run P (W.putObj D (.deferred none)) = .ok v (W.putObj D (.deferred none))) (hR : R (.returned v) (W.putObj D (.deferred none))) :
    bodyPostM (Wd none) n P fn R .ret ⟨tmps, [{ target := .collected D, args := #[] }]⟩ W :=
  ⟨by simp, .inl ⟨_, _, rfl, run_takeDeferred hK, ⟨_, hres, hR⟩⟩⟩
theorem end_mark {P : Program} {n : Nat} {fn : Func} {tmps : Array Value} {R : Ending → World → Prop} {D : Nat} {W : World} (hK : W.heap[D]? = some (.deferred (some []))) (v : Value)
    (hres : (results fn tmps).run P (W.putObj D (.deferred none)) = .ok v (W.putObj D (.deferred none))) (hR : R (.returned v) (W.putObj D (.deferred none))) :
    bodyPostM (Wd none) n P fn R .normal ⟨tmps, [{ target := .collected D, args := #[] }]⟩ W :=
  ⟨by simp, .inl ⟨_, _, rfl, run_takeDeferred hK, ⟨_, hres, hR⟩⟩⟩
/-- What lies behind that last step. -/
theorem Moves.closed {M : Nat → Obj → Prop} {A B : World} (h : Moves M A B) {D : Nat} (hD : ∀ o, A.heap[D]? = some o → o.isCells = false → M D o) {o : Obj} (ho : B.heap[D]? = some o) (hc : o.isCells = false) : Moves M A (B.putObj D (.deferred none)) :=
  ⟨h.os, h.tape, h.output, Nat.le_trans h.size (by simp), fun k o₁ hk hm => by
    have hk2 := h.same k o₁ hk hm
    refine (World.putObj_heap_other (fun e => ?_)).trans hk2
    subst e
    rw [ho] at hk2; cases hk2
    exact hm (hD _ hk hc)⟩
theorem below_putObj {N : Nat} {w W : World} (h : Below N w W) {D : Nat} (hD : N ≤ D) (o : Obj) : Below N w (W.putObj D o) :=
  ⟨h.os, h.tape, h.output, Nat.le_trans h.size (by simp), fun k hk => (World.putObj_heap_other (by omega)).trans (h.block k hk)⟩
theorem boxed_putObj {W : World} {b : Nat} {t : TypeId} {v : Value} (h : Boxed W b t v) {D : Nat} {o : Obj} (hD : W.heap[D]? = some o) (hc : o.isCells = false) (o' : Obj) : Boxed (W.putObj D o') b t v := by
  refine (World.putObj_heap_other (fun e => ?_)).trans h
  subst e
  rw [show W.heap[b]? = _ from h] at hD; cases hD; cases hc
theorem cell_putObj {W : World} {p : Addr} {v : Value} (h : W.cell? p = some v) {D : Nat} {o : Obj} (hD : W.heap[D]? = some o) (hc : o.isCells = false) (o' : Obj) : (W.putObj D o').cell? p = some v := by
  obtain ⟨o₁, ho, hcells⟩ := cells_of_cell h
  refine (World.cell?_of_block (World.putObj_heap_other (fun e => ?_))).trans h
  rw [e, hD] at ho; cases ho; rw [hc] at hcells; cases hcells
end Go.Mv
