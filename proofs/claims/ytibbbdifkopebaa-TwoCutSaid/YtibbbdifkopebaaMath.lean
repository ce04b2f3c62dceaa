/-
  The walks of math's functions at bits that read as integers.
-/
import Derived.Test.YtibbbdifkopebaaFloat
import Derived.Test.YtibbbdifkopebaaBytes
import Derived.Laws.Externs
import Derived.Laws.BitsAll
import Derived.WalkSpells
set_option linter.all false
namespace Go.Mv
open Go.RowKit
theorem andNot_sign (x : Nat) (h : x < 18446744073709551616) : bits .andNot .u64 (x : Int) 9223372036854775808 = ((x % 9223372036854775808 : Nat) : Int) := by
  have := u64_andNot_nat x 9223372036854775808 h (by decide)
  rw [show ((9223372036854775808 : Nat) : Int) = 9223372036854775808 from rfl] at this
  rw [this, show (18446744073709551615 - 9223372036854775808 : Nat) = 2 ^ 63 - 1 from rfl, Nat.and_two_pow_sub_one_eq_mod]
theorem andNot_exp (x : Nat) (h : x < 9223372036854775808) : bits .andNot .u64 (x : Int) 9218868437227405312 = ((x % 4503599627370496 : Nat) : Int) := by
  have := u64_andNot_nat x 9218868437227405312 (by omega) (by decide)
  rw [show ((9218868437227405312 : Nat) : Int) = 9218868437227405312 from rfl] at this
  rw [this]
  congr 1
  have hle : x &&& (18446744073709551615 - 9218868437227405312) ≤ x := Nat.and_le_left
  rw [← Nat.mod_eq_of_lt (Nat.lt_of_le_of_lt hle h), show (9223372036854775808 : Nat) = 2 ^ 63 from rfl, Nat.and_mod_two_pow, Nat.mod_eq_of_lt (by omega : x < 2 ^ 63), show (18446744073709551615 - 9218868437227405312 : Nat) % 2 ^ 63 = 2 ^ 52 - 1 from rfl, Nat.and_two_pow_sub_one_eq_mod]
theorem fb_lt (s : Bool) (n : Nat) (hn : n < 9007199254740992) : fb s n < 18446744073709551616 := by
  have := (rung_lt n hn).1
  unfold fb; split <;> omega
theorem fb_mod (s : Bool) (n : Nat) (hn : n < 9007199254740992) : fb s n % 9223372036854775808 = fb false n := by
  have := (rung_lt n hn).1
  unfold fb; cases s <;> simp <;> omega
theorem fb_pos (n : Nat) (hn : n < 9007199254740992) : fb false n < 9218868437227405312 := (rung_lt n hn).1
theorem order_max (n : Nat) (hn : n < 9007199254740992) : (FloatKind.f64.format.order (fb false n) 9218868437227405311 == some .gt) = false := by
  show (Ieee.double.order _ _ == _) = _
  obtain ⟨b, hb⟩ := fl_lt (read_fb false n hn)
  have hm : Ieee.double.read 9218868437227405311 = .number false 9007199254740991 971 := by decide
  unfold Ieee.Format.order
  rw [hb, hm]
  unfold Ieee.Datum.order
  dsimp only
  have e0 : min (-(b : Int)) 971 = -(b : Int) := by omega
  rw [e0, cmp_gt, signed_eq, signed_eq]
  have e1 : (-(b : Int) - -(b : Int)).toNat = 0 := by omega
  have e2 : (971 - -(b : Int)).toNat = b + 971 := by omega
  rw [e1, e2]
  obtain ⟨q, hq⟩ : ∃ q, q = 971 := ⟨_, rfl⟩
  rw [← hq]
  have h1 : 2 ^ b * 2 ≤ 2 ^ (b + q) := by rw [← Nat.pow_succ]; exact Nat.pow_le_pow_right (by decide) (by omega)
  have h2 : n * 2 ^ b ≤ 9007199254740991 * 2 ^ b := Nat.mul_le_mul_right _ (by omega)
  have h3 : 9007199254740991 * 2 ^ b ≤ 9007199254740991 * 2 ^ (b + q) := Nat.mul_le_mul_left _ (by omega)
  unfold sval
  simp only [Bool.false_eq_true, if_false, Nat.pow_zero, Nat.mul_one, decide_eq_false_iff_not]
  omega
theorem order_small (n : Nat) (h0 : 0 < n) (hn : n < 9007199254740992) : (FloatKind.f64.format.order (fb false n) 4503599627370496 == some .lt) = false := by
  show (Ieee.double.order _ _ == _) = _
  obtain ⟨b, hb⟩ := fl_lt (read_fb false n hn)
  obtain ⟨q, hq, hq'⟩ : ∃ q : Nat, -(q : Int) = -1074 ∧ 52 ≤ q := ⟨1074, rfl, by decide⟩
  have hm : Ieee.double.read 4503599627370496 = .number false (2 ^ 52) (-(q : Int)) := by rw [hq]; decide
  unfold Ieee.Format.order
  rw [hb, hm, order_num, cmp_lt]
  have h1 : 2 ^ 52 * 2 ^ b ≤ 2 ^ q * 2 ^ b := Nat.mul_le_mul_right _ (Nat.pow_le_pow_right (by decide) hq')
  have h2 : 1 * (2 ^ b * 2 ^ q) ≤ n * (2 ^ b * 2 ^ q) := Nat.mul_le_mul_right _ h0
  have h3 : 2 ^ q * 2 ^ b = 2 ^ b * 2 ^ q := Nat.mul_comm _ _
  rw [Nat.mul_assoc]
  unfold sval
  simp only [Bool.false_eq_true, if_false, decide_eq_false_iff_not]
  omega
theorem order_self {x : Nat} {s : Bool} {n : Nat} (h : Fl x s n) : (FloatKind.f64.format.order x x != some .eq) = false := by
  show (Ieee.double.order _ _ != _) = _
  rw [order_fl h h]
  simp only [bne, cmp_eq]; simp
theorem order_zero (s : Bool) {n : Nat} (h0 : 0 < n) {x : Nat} (h : Fl x s n) : (FloatKind.f64.format.order x 0 == some .eq) = false := by
  show (Ieee.double.order _ _ == _) = _
  rw [order_fl h fl_zero, cmp_eq]
  unfold sval; cases s <;> simp <;> omega
/-- The bits of a number from 1 on, split. -/
theorem fb_split (n : Nat) (h0 : 0 < n) (hn : n < 9007199254740992) : ∃ f, f < 4503599627370496 ∧ n.log2 ≤ 52 ∧ fb false n = (n.log2 + 1023) * 4503599627370496 + f ∧ 4503599627370496 + f = n * 2 ^ (52 - n.log2) := by
  obtain ⟨_, h⟩ := rung_lt n hn
  obtain ⟨h1, h2, h3⟩ := h (by omega)
  refine ⟨n * 2 ^ (52 - n.log2) - 4503599627370496, by omega, h1, ?_, by omega⟩
  show rung n = _
  unfold rung
  rw [if_neg (by omega)]
  omega
end Go.Mv
namespace Go.Proofs.Ytibbbdifkopebaa
open Go.RowKit Go.Mv

theorem run_f64bits (b : Nat) (w : World) : (callFunc 90 #[.float .f64 b]).run Try.prog w = .ok (.value (.int .u64 b)) w := by
  rw [run_callFunc_extern (P := Try.prog) (hf := Try.func90) (e := Extern.MathFloatBits.float64bits) (hname := by kernel_rfl) (hb := rfl) (hn := by kernel_rfl) (he := by kernel_rfl)]; rfl
theorem run_f64frombits (n : Int) (w : World) : (callFunc 91 #[.int .u64 n]).run Try.prog w = .ok (.value (.float .f64 n.toNat)) w := by
  rw [run_callFunc_extern (P := Try.prog) (hf := Try.func91) (e := Extern.MathFloatBits.float64frombits) (hname := by kernel_rfl) (hb := rfl) (hn := by kernel_rfl) (he := by kernel_rfl)]; rfl
theorem run_archTrunc (x : Nat) (s : Bool) (M : Nat) (i : Int) (h : Ieee.double.read x = .number s M i) (w : World) : (callFunc 82 #[.float .f64 x]).run Try.prog w = .ok (.value (.float .f64 (Ieee.double.write ((Ieee.Datum.number s M i).integral .zero)))) w := by
  rw [run_callFunc_extern (P := Try.prog) (hf := Try.func82) (e := Extern.MathFloor.toIntegral "math.archTrunc" .zero) (hname := by kernel_rfl) (hb := rfl) (hn := by kernel_rfl) (he := by kernel_rfl)]
  have h2 : FloatKind.f64.decode x = .number s M i := h
  conv in (Extern.MathFloor.toIntegral _ _ _) => whnf
  simp only [h2]
  rfl
attribute [local go_sem] run_f64bits run_f64frombits

theorem Abs_any (x : Nat) (hx : x < 18446744073709551616) (w : World) : Calls Try.prog 88 #[.float .f64 x] w fun e w' => e = .returned (.float .f64 (x % 9223372036854775808)) ∧ w = w' := by
  have h := andNot_sign x hx
  go_enter Try.func88, Try.ntmps88
  go_wp2
  go_ret
  exact ⟨rfl, rfl⟩

theorem IsInf_any (s : Bool) (n : Nat) (hn : n < 9007199254740992) (w : World) : Calls Try.prog 92 #[.float .f64 (fb s n), .int .i64 0] w fun e w' => e = .returned (.bool false) ∧ w = w' := by
  have h := order_max n hn
  have hl := fb_lt s n hn
  have hm := fb_mod s n hn
  go_enter Try.func92, Try.ntmps92
  go_wp2_with (go_at_call 88; refine (Abs_any _ hl _).mono ?_; rintro e w' ⟨rfl, rfl⟩)
  go_ret
  refine ⟨?_, rfl⟩
  exact rfl

theorem IsNaN_any (x : Nat) (s : Bool) (n : Nat) (hx : Fl x s n) (w : World) : Calls Try.prog 93 #[.float .f64 x] w fun e w' => e = .returned (.bool false) ∧ w = w' := by
  have h := order_self hx
  go_enter Try.func93, Try.ntmps93
  go_wp2
  go_ret
  exact ⟨rfl, rfl⟩

theorem normalize_any (n : Nat) (h0 : 0 < n) (hn : n < 9007199254740992) (w : World) : Calls Try.prog 101 #[.float .f64 (fb false n)] w fun e w' => e = .returned (.tuple #[.float .f64 (fb false n), .int .i64 0]) ∧ w = w' := by
  have h := order_small n h0 hn
  have hl := fb_lt false n hn
  have hm := fb_mod false n hn
  go_enter Try.func101, Try.ntmps101
  go_wp2_with (go_at_call 88; refine (Abs_any _ hl _).mono ?_; rintro e w' ⟨rfl, rfl⟩)
  go_ret2
  exact ⟨rfl, rfl⟩

/-- What Frexp gives of a number from 1 on. -/
def frB (n : Nat) : Nat := 4602678819172646912 + fb false n % 4503599627370496
def frE (n : Nat) : Int := (fb false n / 4503599627370496 : Nat) - 1022

set_option maxHeartbeats 400000 in
theorem frexp_any (n : Nat) (h0 : 0 < n) (hn : n < 9007199254740992) (w : World) : Calls Try.prog 98 #[.float .f64 (fb false n)] w fun e w' => e = .returned (.tuple #[.float .f64 (frB n), .int .i64 (frE n)]) ∧ w = w' := by
  have hz := order_zero false h0 (read_fb false n hn)
  have hF := Lib.hid (read_fb false n hn)
  have hl := fb_pos n hn
  have hfr : frB n = 4602678819172646912 + fb false n % 4503599627370496 := rfl
  have hfe : frE n = (fb false n / 4503599627370496 : Nat) - 1022 := rfl
  have Hfr := Lib.hid hfr
  have Hfe := Lib.hid hfe
  clear hfr hfe
  have hI := Lib.hid (fun w => IsInf_any false n hn w)
  have hN := Lib.hid (fun w => IsNaN_any _ false n hF.out w)
  have hM := Lib.hid (fun w => normalize_any n h0 hn w)
  generalize fb false n = x at *
  have ha : bits .and .u64 ((x / 4503599627370496 : Nat) : Int) 2047 = ((x / 4503599627370496 : Nat) : Int) := by
    have := bits_mask .u64 63 (by decide) (fun n h1 h2 => by rw [IntKind.wrap_u64]; omega) 11 (by decide) ((x / 4503599627370496 : Nat) : Int) (by omega) (by omega)
    rw [show ((2 : Int) ^ 11 - 1) = 2047 from rfl] at this
    rw [this]; omega
  have hb : bits .andNot .u64 (x : Int) 9218868437227405312 = ((x % 4503599627370496 : Nat) : Int) := andNot_exp x (by omega)
  have hc : bits .or .u64 ((x % 4503599627370496 : Nat) : Int) 4602678819172646912 = ((4602678819172646912 + x % 4503599627370496 : Nat) : Int) := by
    rw [show (4602678819172646912 : Int) = ((4602678819172646912 : Nat) : Int) from rfl, u64_or_nat _ _ (by omega) (by decide), Nat.or_comm, show (4602678819172646912 : Nat) = 2 ^ 52 * 1022 from rfl, ← Nat.two_pow_add_eq_or_of_lt (by omega)]
  simp only [Int.natCast_ediv, Int.natCast_emod, Int.natCast_add, Int.cast_ofNat_Int] at ha hb hc
  go_enter Try.func98, Try.ntmps98
  go_wp2_with (first
    | (go_at_call 92; refine (hI.out _).mono ?_; rintro e w' ⟨rfl, rfl⟩)
    | (go_at_call 93; refine (hN.out _).mono ?_; rintro e w' ⟨rfl, rfl⟩)
    | (go_at_call 101; refine (hM.out _).mono ?_; rintro e w' ⟨rfl, rfl⟩))
  go_ret2
  refine ⟨?_, rfl⟩
  rw [Hfr.out, Hfe.out]
  show Ending.returned (.tuple #[.float .f64 (4602678819172646912 + x % 4503599627370496), .int .i64 ((x : Int) / 4503599627370496 - 1023 + 1)]) = _
  rw [show ((x : Int) / 4503599627370496 - 1023 + 1) = ((x / 4503599627370496 : Nat) : Int) - 1022 from by omega]

theorem Frexp_any (n : Nat) (h0 : 0 < n) (hn : n < 9007199254740992) (w : World) : Calls Try.prog 95 #[.float .f64 (fb false n)] w fun e w' => e = .returned (.tuple #[.float .f64 (frB n), .int .i64 (frE n)]) ∧ w = w' := by
  have hM := Lib.hid (fun w => frexp_any n h0 hn w)
  go_enter Try.func95, Try.ntmps95
  go_wp2_with (go_at_call 98; refine (hM.out _).mono ?_; rintro e w' ⟨rfl, rfl⟩)
  go_ret2
  exact ⟨rfl, rfl⟩
end Go.Proofs.Ytibbbdifkopebaa
