/-
  The walks of math.Trunc, gauss.Right, moultref02.part, moultref02.Right.
-/
import Derived.Test.YtibbbdifkopebaaPoint
set_option linter.all false
namespace Go.Proofs.Ytibbbdifkopebaa
open Go.RowKit Go.Mv
set_option maxRecDepth 100000

theorem Trunc_any (x : Nat) (s : Bool) (M b : Nat) (hr : Ieee.double.read x = .number s M (-(b : Int))) (hn : M / 2 ^ b < 10007) (w : World) : Calls Try.prog 66 #[.float .f64 x] w fun e w' => e = .returned (.float .f64 (fb s (M / 2 ^ b))) ∧ w = w' := by
  have h := run_archTrunc x s M _ hr w
  rw [integral_zero] at h
  have h2 : Ieee.double.write (.number s (M / 2 ^ b) 0) = fb s (M / 2 ^ b) := nearest_exact s ⟨0, rfl, by simp⟩ (by omega)
  rw [h2] at h
  go_enter Try.func66, Try.ntmps66
  go_wp2
  go_ret
  exact ⟨rfl, rfl⟩

theorem Right1_any (x : Nat) (w : World) : Calls Try.prog 65 #[.float .f64 x] w fun e w' => e = .returned (.bool (ptOf x).isSome) ∧ w = w' := by
  have key := right_case x
  unfold ge0 ltR at key
  rcases key with ⟨h1, h2⟩ | ⟨h1, h2, h3⟩ | ⟨h1, h2, s, M, b, hr, hs, hn, hp⟩
  · rw [h2]
    go_enter Try.func65, Try.ntmps65
    go_wp2_with fail
    go_ret
    exact ⟨rfl, rfl⟩
  · rw [h3]
    go_enter Try.func65, Try.ntmps65
    go_wp2_with fail
    go_ret
    exact ⟨rfl, rfl⟩
  · have ho := order_whole x s s M b hr hs hs hn
    have hp2 : (ptOf x).isSome = decide (M % 2 ^ b = 0) := by rw [hp]; split <;> simp_all
    have hT := Lib.hid (fun w => Trunc_any x s M b hr hn w)
    rw [hp2, ← ho]
    clear hp2 ho hp hr hs hn
    go_enter Try.func65, Try.ntmps65
    go_wp2_with (go_at_call 66; refine (hT.out _).mono ?_; rintro e w' ⟨rfl, rfl⟩)
    go_ret
    exact ⟨rfl, rfl⟩

set_option maxHeartbeats 400000 in
theorem Right_c (a b : Nat) (w : World) : Calls Try.prog 49 #[.complex .f64 a b] w fun e w' => e = .returned (.bool ((ptOf a).isSome && (ptOf b).isSome)) ∧ w = w' := by
  cases ha : (ptOf a).isSome
  all_goals
    go_enter Try.func49, Try.ntmps49
    go_wp2_with (go_at_call 65; refine (Right1_any _ _).mono ?_; rintro e w' ⟨rfl, rfl⟩)
    go_ret
    exact ⟨rfl, rfl⟩

def PartP (x : Nat) (w : World) (e : Ending) (w' : World) : Prop := ∃ n : Int, e = .returned (.tuple #[.int .i64 n, .bool (ptOf x).isSome]) ∧ (∀ m, ptOf x = some m → n = m) ∧ w = w'

theorem part_any (x : Nat) (w : World) : Calls Try.prog 40 #[.float .f64 x] w (PartP x w) := by
  have key := right_case x
  unfold ge0 ltR at key
  rcases key with ⟨h1, h2⟩ | ⟨h1, h2, h3⟩ | ⟨h1, h2, s, M, b, hr, hs, hn, hp⟩
  · unfold PartP
    rw [h2]
    go_enter Try.func40, Try.ntmps40
    go_wp2_with fail
    go_ret2
    exact ⟨0, rfl, (fun m h => by cases h), rfl⟩
  · unfold PartP
    rw [h3]
    go_enter Try.func40, Try.ntmps40
    go_wp2_with fail
    go_ret2
    exact ⟨0, rfl, (fun m h => by cases h), rfl⟩
  · have ho := order_whole x s false M b hr hs (fun h => by cases h) hn
    have hp2 : (ptOf x).isSome = decide (M % 2 ^ b = 0) := by rw [hp]; split <;> simp_all
    have hp3 : ∀ m, ptOf x = some m → ((M / 2 ^ b : Nat) : Int) = m := by
      intro m hm; rw [hp] at hm; split at hm <;> cases hm; rfl
    have hi : floatToIntVal .f64 x .i64 = some ((M / 2 ^ b : Nat) : Int) := by
      unfold floatToIntVal FloatKind.decode
      rw [show FloatKind.f64.format = Ieee.double from rfl, hr]
      unfold Ieee.Datum.toInt
      rw [integral_zero]
      have hs0 : s = true → M / 2 ^ b = 0 := fun h => by rw [hs h]; simp
      clear hp ho hp2 hp3 hr hs
      generalize M / 2 ^ b = n at *
      have e : Ieee.signed s (n) 0 = (n : Int) := by
        rw [signed_eq, Nat.pow_zero, Nat.mul_one]
        cases s
        · rfl
        · rw [hs0 rfl]; unfold sval; simp
      dsimp only
      rw [e]
      have : IntKind.i64.min ≤ (n : Int) ∧ (n : Int) ≤ IntKind.i64.max := by
        rw [show IntKind.i64.min = -9223372036854775808 from rfl, show IntKind.i64.max = 9223372036854775807 from rfl]; omega
      simp only [this, and_self, if_true]
    have hci := run_convert_float_int (P := Try.prog) w 22 3 .f64 .i64 x _ (by kernel_rfl) Try.underlying3 hi
    have hof := ofInt_nat (M / 2 ^ b) (by omega)
    have Hp3 := Lib.hid hp3
    unfold PartP
    rw [hp2, ← ho]
    clear hp2 ho hp hr hs hi hp3
    generalize M / 2 ^ b = n at *
    go_enter Try.func40, Try.ntmps40
    go_wp2_with fail
    go_ret2
    exact ⟨n, rfl, Hp3.out, rfl⟩

set_option maxHeartbeats 400000 in
theorem refRightC_any (a b : Nat) (w : World) : Calls Try.prog 24 #[.complex .f64 a b] w fun e w' => e = .returned (.bool ((ptOf a).isSome && (ptOf b).isSome)) ∧ w = w' := by
  cases ha : (ptOf a).isSome
  all_goals
    go_enter Try.func24, Try.ntmps24
    go_wp2_with (go_at_call 40; refine (part_any _ _).mono ?_; rintro e w' ⟨n1, rfl, _, rfl⟩)
    go_ret
    exact ⟨rfl, rfl⟩
end Go.Proofs.Ytibbbdifkopebaa
