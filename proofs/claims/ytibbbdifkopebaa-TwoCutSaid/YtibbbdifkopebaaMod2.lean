/-
  The walk of math.mod at negative numbers, at -0; math.Mod.
-/
import Derived.Test.YtibbbdifkopebaaMod
set_option linter.all false
namespace Go.Proofs.Ytibbbdifkopebaa
open Go.RowKit Go.Mv
theorem unOp_neg_float (x : Nat) : Op.unary .neg (.float .f64 x) = pure (.float .f64 (Op.negFloat .f64 x)) := rfl
attribute [local go_sem] run_f64bits run_f64frombits unOp_neg_float

set_option maxRecDepth 100000 in
set_option maxHeartbeats 1000000 in
theorem mod_neg (n : Nat) (h0 : 0 < n) (hn : n < 131072) (w : World) : Calls Try.prog 85 #[.float .f64 (fb true n), .float .f64 4666727020758040576] w fun e w' => e = .returned (.float .f64 (fb true (n % 10007))) ∧ w = w' := by
  have hc : fb false 10007 = 4666727020758040576 := by decide
  have hce : frE 10007 = 14 := by decide
  have hI := Lib.hid (fun w => IsInf_any true n (by omega) w)
  have hN := Lib.hid (fun w => IsNaN_any _ true n (read_fb true n (by omega)) w)
  have hN2 := Lib.hid (fun w => IsNaN_any _ false 10007 (read_fb false 10007 (by decide)) w)
  have hF2 := Lib.hid (fun w => Frexp_any 10007 (by decide) (by decide) w)
  have hz := order_zero false (n := 10007) (by decide) (read_fb false 10007 (by decide))
  rw [hce] at hF2
  rw [hc] at hN2 hF2 hz
  have hx0 : (FloatKind.f64.format.order (fb true n) 0 == some .lt) = true := by
    show (Ieee.double.order _ _ == _) = _
    rw [order_fl (read_fb true n (by omega)) fl_zero, cmp_lt]; unfold sval; simp; omega
  have hneg := negFloat_fb true n (by omega)
  have hneg2 := negFloat_fb false (n % 10007) (by omega)
  rw [Bool.not_true] at hneg
  rw [Bool.not_false] at hneg2
  go_enter Try.func85, Try.ntmps85
  go_wp2_with (first
    | (go_at_call 92; refine (hI.out _).mono ?_; rintro e w' ⟨rfl, rfl⟩)
    | (go_at_call 93; refine (hN.out _).mono ?_; rintro e w' ⟨rfl, rfl⟩)
    | (go_at_call 93; refine (hN2.out _).mono ?_; rintro e w' ⟨rfl, rfl⟩)
    | (go_at_call 88; refine (Abs_any _ (by decide) _).mono ?_; rintro e w' ⟨rfl, rfl⟩)
    | (go_at_call 95; refine (hF2.out _).mono ?_; rintro e w' ⟨rfl, rfl⟩))
  go_loop [7] (fun r => ∃ k : Nat, k ≤ n ∧ Hid (k % 10007 = n % 10007) ∧ r = .float .f64 (fb false k)) (fun r => fbits r)
  case atStart => exact ⟨n, Nat.le_refl _, rfl, rfl⟩
  case round =>
    obtain ⟨k, hk, Hk, rfl⟩ := hrel
    have hge := geStep k (by omega)
    by_cases h10 : 10007 ≤ k
    · obtain ⟨t, q, hq, hq2, ht, he⟩ := modStep k h10 (by omega)
      have hF := Lib.hid (fun w => Frexp_any k (by omega) (by omega) w)
      rw [he] at hF
      have hsub := subStep k (10007 * 2 ^ q) hq2 (by omega) w
      rw [decide_eq_true h10] at hge
      have hk1 : 1 ≤ 10007 * 2 ^ q := by have := Nat.two_pow_pos q; omega
      have hm := fb_mono (k - 10007 * 2 ^ q) k (by omega) (by omega)
      have hmod : (k - 10007 * 2 ^ q) % 10007 = n % 10007 := by rw [← Hk.out]; exact Nat.sub_mul_mod hq2
      have Hm := Lib.hid hm
      have Hmod := Lib.hid hmod
      clear hm hmod he
      cases t
      all_goals
        simp only [if_true, if_false, Bool.false_eq_true] at hF
        go_wp2_with (first
          | (go_at_call 95; refine (hF.out _).mono ?_; rintro e w' ⟨rfl, rfl⟩)
          | (go_at_call 96; refine (Ldexp_any _ q hq (by omega) _).mono ?_; rintro e w' ⟨rfl, rfl⟩))
        go_round
        case rel => exact ⟨k - 10007 * 2 ^ q, by omega, Hmod.out, rfl⟩
        case measure => exact Hm.out
    · rw [decide_eq_false h10] at hge
      have hk2 : k = n % 10007 := by rw [← Hk.out, Nat.mod_eq_of_lt (by omega)]
      rw [← hk2] at hneg2
      have Hk2 := Lib.hid hk2
      clear hk2
      go_wp2_with fail
      go_ret
      refine ⟨?_, rfl⟩
      rw [← Hk2.out, ← hneg2]
      rfl

set_option maxRecDepth 100000 in
set_option maxHeartbeats 1000000 in
theorem mod_nzero (w : World) : Calls Try.prog 85 #[.float .f64 (fb true 0), .float .f64 4666727020758040576] w fun e w' => e = .returned (.float .f64 (fb true 0)) ∧ w = w' := by
  have hc : fb false 10007 = 4666727020758040576 := by decide
  have hce : frE 10007 = 14 := by decide
  have hI := Lib.hid (fun w => IsInf_any true 0 (by decide) w)
  have hN := Lib.hid (fun w => IsNaN_any _ true 0 (read_fb true 0 (by decide)) w)
  have hN2 := Lib.hid (fun w => IsNaN_any _ false 10007 (read_fb false 10007 (by decide)) w)
  have hF2 := Lib.hid (fun w => Frexp_any 10007 (by decide) (by decide) w)
  have hz := order_zero false (n := 10007) (by decide) (read_fb false 10007 (by decide))
  rw [hce] at hF2
  rw [hc] at hN2 hF2 hz
  have hx0 : (FloatKind.f64.format.order (fb true 0) 0 == some .lt) = false := by
    show (Ieee.double.order _ _ == _) = _
    rw [order_fl (read_fb true 0 (by decide)) fl_zero, cmp_lt]; unfold sval; simp
  have hge : (FloatKind.f64.format.order (fb true 0) 4666727020758040576 == some .gt || FloatKind.f64.format.order (fb true 0) 4666727020758040576 == some .eq) = false := by
    rw [← hc]
    show (Ieee.double.order _ _ == _ || Ieee.double.order _ _ == _) = _
    rw [order_fl (read_fb true 0 (by decide)) (read_fb false 10007 (by decide)), cmp_gt, cmp_eq]
    unfold sval
    simp
  go_enter Try.func85, Try.ntmps85
  go_wp2_with (first
    | (go_at_call 92; refine (hI.out _).mono ?_; rintro e w' ⟨rfl, rfl⟩)
    | (go_at_call 93; refine (hN.out _).mono ?_; rintro e w' ⟨rfl, rfl⟩)
    | (go_at_call 93; refine (hN2.out _).mono ?_; rintro e w' ⟨rfl, rfl⟩)
    | (go_at_call 88; refine (Abs_any _ (by decide) _).mono ?_; rintro e w' ⟨rfl, rfl⟩)
    | (go_at_call 95; refine (hF2.out _).mono ?_; rintro e w' ⟨rfl, rfl⟩))
  go_loop [7] (fun r => r = .float .f64 (fb true 0)) (fun r => fbits r)
  case atStart => rfl
  case round =>
    obtain rfl := hrel
    go_wp2_with fail
    go_ret
    exact ⟨rfl, rfl⟩

theorem Mod_any (s : Bool) (n : Nat) (hn : n < 131072) (w : World) : Calls Try.prog 69 #[.float .f64 (fb s n), .float .f64 4666727020758040576] w fun e w' => e = .returned (.float .f64 (fb s (n % 10007))) ∧ w = w' := by
  have hM : Hid (∀ w, Calls Try.prog 85 #[.float .f64 (fb s n), .float .f64 4666727020758040576] w fun e w' => e = .returned (.float .f64 (fb s (n % 10007))) ∧ w = w') := by
    intro w
    cases s
    · exact mod_pos n hn w
    · rcases Nat.eq_zero_or_pos n with rfl | h0
      · exact mod_nzero w
      · exact mod_neg n h0 hn w
  go_enter Try.func69, Try.ntmps69
  go_wp2_with (go_at_call 85; refine (hM.out _).mono ?_; rintro e w' ⟨rfl, rfl⟩)
  go_ret
  exact ⟨rfl, rfl⟩
end Go.Proofs.Ytibbbdifkopebaa
