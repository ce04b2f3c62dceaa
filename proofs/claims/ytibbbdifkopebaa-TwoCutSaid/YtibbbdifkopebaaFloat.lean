/-
  Plain laws on floats: bits that read as an integer; the operations on such bits are exact.
-/
import Derived.WalkLawsBesides
import Derived.Laws.FloatArith
import Derived.Laws.ComplexArith
set_option linter.all false
namespace Go.Mv
open Go.RowKit

/-- An integer of a sign and a size. -/
def sval (s : Bool) (n : Nat) : Int := if s then -(n : Int) else n
/-- The number 'M * 2 ^ i' is the integer n. -/
def Rep (M : Nat) (i : Int) (n : Nat) : Prop := ∃ b : Nat, i = -(b : Int) ∧ M = n * 2 ^ b
theorem rep_zero (b : Nat) : Rep 0 (-(b : Int)) 0 := ⟨b, rfl, (Nat.zero_mul _).symm⟩
/-- The bits x read as the integer ±n. -/
def Fl (x : Nat) (s : Bool) (n : Nat) : Prop := ∃ M i, Ieee.double.read x = .number s M i ∧ Rep M i n

def rung (n : Nat) : Nat := if n = 0 then 0 else (n.log2 + 1022) * 4503599627370496 + n * 2 ^ (52 - n.log2)
def fb (s : Bool) (n : Nat) : Nat := if s then 9223372036854775808 + rung n else rung n

theorem log2_mul_pow (n k : Nat) (h : n ≠ 0) : (n * 2 ^ k).log2 = n.log2 + k := by
  induction k with
  | zero => simp
  | succ k ih =>
    rw [Nat.pow_succ, ← Nat.mul_assoc, Nat.mul_comm _ 2, Nat.log2_two_mul (by have := Nat.two_pow_pos k; exact Nat.mul_ne_zero h (by omega)), ih]; omega
theorem signed_eq (s : Bool) (m k : Nat) : Ieee.signed s m k = sval s (m * 2 ^ k) := by
  unfold Ieee.signed sval; rw [Nat.shiftLeft_eq]
theorem sval_mul (s : Bool) (m k : Nat) : sval s (m * k) = sval s m * k := by
  unfold sval; split <;> simp [Int.neg_mul]
theorem sval_natAbs (s : Bool) (n : Nat) : (sval s n).natAbs = n := by unfold sval; split <;> simp

theorem cut_exact (way : Ieee.Toward) (s : Bool) (q v : Nat) : way.cut s (q * 2 ^ v) v = q := by
  unfold Ieee.Toward.cut
  dsimp only
  rw [Nat.shiftLeft_eq, Nat.one_mul]
  rcases Nat.eq_zero_or_pos q with rfl | hq
  · cases way <;> simp
    all_goals (rw [Nat.zero_mod, Nat.zero_div]; simp)
  · have hm : min v ((q * 2 ^ v).log2 + 2) = v := by rw [log2_mul_pow q v (by omega)]; omega
    have hp := Nat.two_pow_pos v
    rw [hm, Nat.mul_div_cancel _ hp, Nat.mul_mod_left]
    cases way <;> simp

theorem rung_lt (n : Nat) (hn : n < 9007199254740992) : rung n < 9218868437227405312 ∧ (n ≠ 0 → n.log2 ≤ 52 ∧ 4503599627370496 ≤ n * 2 ^ (52 - n.log2) ∧ n * 2 ^ (52 - n.log2) < 9007199254740992) := by
  unfold rung
  split
  · rename_i h; exact ⟨by decide, fun h' => absurd h h'⟩
  · rename_i h0
    have hl : n.log2 < 53 := (Nat.log2_lt h0).2 (by simpa using hn)
    have h1 : n < 2 ^ (n.log2 + 1) := Nat.lt_log2_self
    have h2 : 2 ^ n.log2 ≤ n := Nat.log2_self_le h0
    have e1 : 2 ^ n.log2 * 2 ^ (52 - n.log2) = 4503599627370496 := by rw [← Nat.pow_add, show n.log2 + (52 - n.log2) = 52 from by omega]
    have e2 : 2 ^ (n.log2 + 1) * 2 ^ (52 - n.log2) = 9007199254740992 := by rw [← Nat.pow_add, show n.log2 + 1 + (52 - n.log2) = 53 from by omega]
    have a1 : 2 ^ n.log2 * 2 ^ (52 - n.log2) ≤ n * 2 ^ (52 - n.log2) := Nat.mul_le_mul_right _ h2
    have a2 : n * 2 ^ (52 - n.log2) < 2 ^ (n.log2 + 1) * 2 ^ (52 - n.log2) := Nat.mul_lt_mul_of_pos_right h1 (Nat.two_pow_pos _)
    rw [e1] at a1
    rw [e2] at a2
    exact ⟨by omega, fun _ => ⟨by omega, a1, a2⟩⟩

theorem nearest_exact (s : Bool) {M : Nat} {i : Int} {n : Nat} (h : Rep M i n) (hn : n < 9007199254740992) : Ieee.double.nearest s M i = fb s n := by
  obtain ⟨b, rfl, rfl⟩ := h
  unfold Ieee.Format.nearest
  have hr := rung_lt n hn
  have hlp : Ieee.double.leastPlace = -1074 := by decide
  have hfb : (Ieee.double.fractionBits : Int) = 52 := by decide
  have hbin : Ieee.double.binade = 4503599627370496 := by decide
  have hinf : Ieee.double.infRung = 9218868437227405312 := by decide
  have hsw : Ieee.double.signWeight = 9223372036854775808 := by decide
  by_cases h0 : n = 0
  · subst h0
    simp [fb, rung, Ieee.Format.word, hsw]
  · have hne : n * 2 ^ b ≠ 0 := Nat.mul_ne_zero h0 (by have := Nat.two_pow_pos b; omega)
    rw [if_neg hne]
    dsimp only
    obtain ⟨h1, h2⟩ := hr
    obtain ⟨hl, ha1, ha2⟩ := h2 h0
    rw [log2_mul_pow n b h0, hlp, hfb, hbin, hinf]
    have hmax : max (-(b : Int) + ((n.log2 + b : Nat) : Int) - 52) (-1074) = (n.log2 : Int) - 52 := by omega
    rw [hmax]
    have hcut : (n * 2 ^ b) <<< (-(b : Int) - ((n.log2 : Int) - 52)).toNat = (n * 2 ^ (52 - n.log2)) * 2 ^ ((n.log2 : Int) - 52 - -(b : Int)).toNat := by
      rw [Nat.shiftLeft_eq, Nat.mul_assoc, Nat.mul_assoc, ← Nat.pow_add, ← Nat.pow_add]
      congr 2
      omega
    rw [hcut, cut_exact]
    have hk : ((n.log2 : Int) - 52 - -1074).toNat = n.log2 + 1022 := by omega
    rw [hk]
    have hrr : rung n = (n.log2 + 1022) * 4503599627370496 + n * 2 ^ (52 - n.log2) := by unfold rung; rw [if_neg h0]
    rw [← hrr, Nat.min_eq_left (by omega)]
    unfold fb Ieee.Format.word
    rw [hsw]

theorem read_fb (s : Bool) (n : Nat) (hn : n < 9007199254740992) : Fl (fb s n) s n := by
  obtain ⟨h1, h2⟩ := rung_lt n hn
  have hlp : Ieee.double.leastPlace = -1074 := by decide
  have hbin : Ieee.double.binade = 4503599627370496 := by decide
  have hinf : Ieee.double.infRung = 9218868437227405312 := by decide
  have hsw : Ieee.double.signWeight = 9223372036854775808 := by decide
  have e1 : (fb s n / 9223372036854775808 % 2 == 1) = s := by
    unfold fb; cases s <;> simp <;> omega
  have e2 : fb s n % 9223372036854775808 = rung n := by
    unfold fb; cases s <;> simp <;> omega
  unfold Fl Ieee.Format.read
  dsimp only
  rw [hlp, hbin, hinf, hsw, e1, e2]
  by_cases h0 : n = 0
  · subst h0
    exact ⟨0, -1074, by simp [rung], rep_zero 1074⟩
  · obtain ⟨hl, ha1, ha2⟩ := h2 h0
    have hrr : rung n = (n.log2 + 1022) * 4503599627370496 + n * 2 ^ (52 - n.log2) := by unfold rung; rw [if_neg h0]
    rw [if_neg (by omega), if_pos (by omega)]
    refine ⟨_, _, rfl, 52 - n.log2, ?_, ?_⟩ <;> omega

theorem fl_lt {x : Nat} {s : Bool} {n : Nat} : Fl x s n → ∃ b : Nat, Ieee.double.read x = .number s (n * 2 ^ b) (-(b : Int)) := by
  rintro ⟨M, i, h, b, rfl, rfl⟩; exact ⟨b, h⟩

theorem order_num (s t : Bool) (M N b c : Nat) : (Ieee.Datum.number s M (-(b : Int))).order (.number t N (-(c : Int))) = some (compare (sval s (M * 2 ^ c)) (sval t (N * 2 ^ b))) := by
  unfold Ieee.Datum.order
  dsimp only
  rw [signed_eq, signed_eq]
  have hmul : ∀ (p : Nat) (u v : Int), 0 < p → compare (u * p) (v * p) = compare u v := by
    intro p u v hp
    simp only [compare, compareOfLessAndEq]
    have hp' : (0 : Int) < p := by omega
    have e1 : (u * p < v * p) = (u < v) := by rw [Int.mul_lt_mul_right hp']
    have e2 : (u * p = v * p) = (u = v) := by rw [Int.mul_eq_mul_right_iff (by omega)]
    simp only [e1, e2]
  congr 1
  rcases Nat.le_total b c with hbc | hbc
  · have e1 : (-(b : Int) - min (-(b : Int)) (-(c : Int))).toNat = c - b := by omega
    have e2 : (-(c : Int) - min (-(b : Int)) (-(c : Int))).toNat = 0 := by omega
    rw [e1, e2, ← hmul (2 ^ b) _ _ (Nat.two_pow_pos _), ← sval_mul, ← sval_mul, Nat.mul_assoc, ← Nat.pow_add, show c - b + b = c from by omega]
    simp
  · have e1 : (-(b : Int) - min (-(b : Int)) (-(c : Int))).toNat = 0 := by omega
    have e2 : (-(c : Int) - min (-(b : Int)) (-(c : Int))).toNat = b - c := by omega
    rw [e1, e2, ← hmul (2 ^ c) _ _ (Nat.two_pow_pos _), ← sval_mul, ← sval_mul, Nat.mul_assoc N, ← Nat.pow_add, show b - c + c = b from by omega]
    simp

theorem order_fl {x y : Nat} {s t : Bool} {n m : Nat} (hx : Fl x s n) (hy : Fl y t m) : Ieee.double.order x y = some (compare (sval s n) (sval t m)) := by
  obtain ⟨b, hb⟩ := fl_lt hx
  obtain ⟨c, hc⟩ := fl_lt hy
  unfold Ieee.Format.order
  rw [hb, hc, order_num, Nat.mul_assoc, Nat.mul_assoc, Nat.mul_comm (2 ^ c), sval_mul, sval_mul]
  congr 1
  have hp : (0 : Int) < ((2 ^ b * 2 ^ c : Nat) : Int) := by have := Nat.mul_pos (Nat.two_pow_pos b) (Nat.two_pow_pos c); omega
  simp only [compare, compareOfLessAndEq]
  have e1 : (sval s n * ((2 ^ b * 2 ^ c : Nat) : Int) < sval t m * ((2 ^ b * 2 ^ c : Nat) : Int)) = (sval s n < sval t m) := by rw [Int.mul_lt_mul_right hp]
  have e2 : (sval s n * ((2 ^ b * 2 ^ c : Nat) : Int) = sval t m * ((2 ^ b * 2 ^ c : Nat) : Int)) = (sval s n = sval t m) := by rw [Int.mul_eq_mul_right_iff (by omega)]
  simp only [e1, e2]

theorem cmp_lt (a b : Int) : (some (compare a b) == some Ordering.lt) = decide (a < b) := by
  rw [Bool.eq_iff_iff]; simp only [compare, compareOfLessAndEq]; split <;> (try split) <;> simp_all
theorem cmp_eq (a b : Int) : (some (compare a b) == some Ordering.eq) = decide (a = b) := by
  rw [Bool.eq_iff_iff]; simp only [compare, compareOfLessAndEq]; split <;> (try split) <;> simp_all <;> omega
theorem cmp_gt (a b : Int) : (some (compare a b) == some Ordering.gt) = decide (b < a) := by
  rw [Bool.eq_iff_iff]; simp only [compare, compareOfLessAndEq]; split <;> (try split) <;> simp_all <;> omega

theorem sum_exact {x y : Nat} {s t : Bool} {n m : Nat} (hx : Fl x s n) (hy : Fl y t m) (h : (sval s n + sval t m).natAbs < 9007199254740992) :
    Ieee.double.add x y = some (fb (if sval s n + sval t m = 0 then s && t else decide (sval s n + sval t m < 0)) (sval s n + sval t m).natAbs) := by
  obtain ⟨b, hb⟩ := fl_lt hx
  obtain ⟨c, hc⟩ := fl_lt hy
  unfold Ieee.Format.add
  rw [hb, hc]
  unfold Ieee.Datum.sum
  dsimp only
  rw [signed_eq, signed_eq, Nat.mul_assoc, Nat.mul_assoc, ← Nat.pow_add, ← Nat.pow_add]
  obtain ⟨d, hd⟩ : ∃ d : Nat, min (-(b : Int)) (-(c : Int)) = -(d : Int) := ⟨max b c, by omega⟩
  rw [hd]
  have e1 : b + (-(b : Int) - -(d : Int)).toNat = d := by omega
  have e2 : c + (-(c : Int) - -(d : Int)).toNat = d := by omega
  rw [e1, e2, sval_mul, sval_mul, ← Int.add_mul]
  generalize sval s n + sval t m = z at *
  have hp : (0 : Int) < ((2 ^ d : Nat) : Int) := by have := Nat.two_pow_pos d; omega
  have z0 : (z * ((2 ^ d : Nat) : Int) = 0) = (z = 0) := by
    rw [eq_iff_iff]; constructor
    · intro h'; rcases Int.mul_eq_zero.1 h' with h' | h' <;> omega
    · intro h'; rw [h']; simp
  have z1 : (z * ((2 ^ d : Nat) : Int) < 0) = (z < 0) := by
    have := Int.mul_lt_mul_right (a := ((2 ^ d : Nat) : Int)) (b := z) (c := 0) hp
    rw [Int.zero_mul] at this
    exact propext this
  simp only [Option.map_some, Ieee.Format.write, z0, z1, Int.natAbs_mul]
  congr 1
  exact nearest_exact _ ⟨d, rfl, by simp⟩ h

theorem opposite_fl {x : Nat} {s : Bool} {n : Nat} (h : Fl x s n) : ∃ b : Nat, (Ieee.double.read x).opposite = .number (!s) (n * 2 ^ b) (-(b : Int)) := by
  obtain ⟨b, hb⟩ := fl_lt h
  exact ⟨b, by rw [hb]; rfl⟩
theorem sub_exact {x y : Nat} {s t : Bool} {n m : Nat} (hx : Fl x s n) (hy : Fl y t m) (h : (sval s n - sval t m).natAbs < 9007199254740992) :
    Ieee.double.sub x y = some (fb (if sval s n - sval t m = 0 then s && !t else decide (sval s n - sval t m < 0)) (sval s n - sval t m).natAbs) := by
  obtain ⟨b, hb⟩ := fl_lt hx
  obtain ⟨c, hc⟩ := opposite_fl hy
  have e0 : sval s n - sval t m = sval s n + sval (!t) m := by unfold sval; cases t <;> simp <;> omega
  rw [e0] at h ⊢
  unfold Ieee.Format.sub
  rw [hb, hc]
  unfold Ieee.Datum.sum
  dsimp only
  rw [signed_eq, signed_eq, Nat.mul_assoc, Nat.mul_assoc, ← Nat.pow_add, ← Nat.pow_add]
  obtain ⟨d, hd⟩ : ∃ d : Nat, min (-(b : Int)) (-(c : Int)) = -(d : Int) := ⟨max b c, by omega⟩
  rw [hd]
  have e1 : b + (-(b : Int) - -(d : Int)).toNat = d := by omega
  have e2 : c + (-(c : Int) - -(d : Int)).toNat = d := by omega
  rw [e1, e2, sval_mul, sval_mul, ← Int.add_mul]
  generalize sval s n + sval (!t) m = z at *
  have hp : (0 : Int) < ((2 ^ d : Nat) : Int) := by have := Nat.two_pow_pos d; omega
  have z0 : (z * ((2 ^ d : Nat) : Int) = 0) = (z = 0) := by
    rw [eq_iff_iff]; constructor
    · intro h'; rcases Int.mul_eq_zero.1 h' with h' | h' <;> omega
    · intro h'; rw [h']; simp
  have z1 : (z * ((2 ^ d : Nat) : Int) < 0) = (z < 0) := by
    have := Int.mul_lt_mul_right (a := ((2 ^ d : Nat) : Int)) (b := z) (c := 0) hp
    rw [Int.zero_mul] at this
    exact propext this
  simp only [Option.map_some, Ieee.Format.write, z0, z1, Int.natAbs_mul]
  congr 1
  exact nearest_exact _ ⟨d, rfl, by simp⟩ h

theorem mul_exact {x y : Nat} {s t : Bool} {n m : Nat} (hx : Fl x s n) (hy : Fl y t m) (h : n * m < 9007199254740992) : Ieee.double.mul x y = some (fb (s ^^ t) (n * m)) := by
  obtain ⟨b, hb⟩ := fl_lt hx
  obtain ⟨c, hc⟩ := fl_lt hy
  unfold Ieee.Format.mul
  rw [hb, hc]
  simp only [Ieee.Datum.product, Option.map_some, Ieee.Format.write]
  congr 1
  refine nearest_exact _ ⟨b + c, by omega, ?_⟩ h
  rw [Nat.pow_add]
  simp only [Nat.mul_left_comm, Nat.mul_assoc, Nat.mul_comm]

theorem ofInt_nat (n : Nat) (h : n < 9007199254740992) : floatOfInt .f64 (n : Int) = fb false n := by
  unfold floatOfInt FloatKind.nearest FloatKind.encode
  have e : ((n : Int) < 0) = False := by simp
  simp only [FloatKind.format, Ieee.Format.write, Int.natAbs_natCast]
  rw [show decide ((n : Int) < 0) = false from by simp]
  exact nearest_exact _ ⟨0, by simp, by simp⟩ h

theorem fl_zero : Fl 0 false 0 := read_fb false 0 (by decide)
end Go.Mv
