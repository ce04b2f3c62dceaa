/-
  Points: what bits are a point's part; the walks of gauss.Right, moultref02.part, moultref02.Right.
  The walks of math.Trunc, gauss.Right, moultref02.part, moultref02.Right.
  The walks of gauss.Next, moultref02.Next at points.
  The walks of gauss.Bytes, moultref02.Bytes.
  The walks of slices.Concat of bytes, bytes.Equal.
  Plain laws over any program: a map with integer keys that a call makes by a literal, and a look-up in it.
-/
import Derived.Test.YtfjcnpigpkcfgaaGreatM3
import Derived.RangeFuncRecord
import Derived.MapKept
import Derived.WalkKit
set_option linter.all false
namespace Go.Mv
open Go.RowKit

/-- A point's part, as a whole number. -/
def ptOf (x : Nat) : Option Nat :=
  match Ieee.double.read x with
  | .number s M i => if i ≤ 0 ∧ (s = false ∨ M = 0) ∧ M / 2 ^ (-i).toNat < 10007 ∧ M % 2 ^ (-i).toNat = 0 then some (M / 2 ^ (-i).toNat) else none
  | _ => none

theorem ptOf_fl {x n : Nat} (h : ptOf x = some n) : n < 10007 ∧ ∃ s, (s = true → n = 0) ∧ Fl x s n := by
  unfold ptOf at h
  split at h
  · rename_i s M i hr
    split at h
    · rename_i hc
      obtain ⟨h1, h2, h3, h4⟩ := hc
      cases h
      refine ⟨h3, s, ?_, M, i, hr, (-i).toNat, by omega, ?_⟩
      · intro hs; rcases h2 with h2 | h2
        · rw [h2] at hs; cases hs
        · rw [h2]; simp
      · have := Nat.div_add_mod M (2 ^ (-i).toNat); rw [h4, Nat.add_zero, Nat.mul_comm] at this; exact this.symm
    · cases h
  · cases h

theorem read_place (x : Nat) {s : Bool} {M : Nat} {i : Int} (h : Ieee.double.read x = .number s M i) : i ≤ 0 ∨ 4503599627370496 ≤ M := by
  have hlp : Ieee.double.leastPlace = -1074 := by decide
  have hbin : Ieee.double.binade = 4503599627370496 := by decide
  unfold Ieee.Format.read at h
  dsimp only at h
  rw [hlp, hbin] at h
  split at h
  · injection h with h1 h2 h3; left; omega
  · split at h
    · injection h with h1 h2 h3; right; omega
    · split at h <;> cases h

theorem cut_zero (s : Bool) (M b : Nat) : Ieee.Toward.zero.cut s M b = M / 2 ^ b := by
  unfold Ieee.Toward.cut
  dsimp only
  rw [Nat.shiftLeft_eq, Nat.one_mul]
  simp only [Bool.toNat_false, Nat.add_zero]
  rcases Nat.le_total b (M.log2 + 2) with h | h
  · rw [Nat.min_eq_left h]
  · rw [Nat.min_eq_right h]
    have h1 : M < 2 ^ (M.log2 + 1) := Nat.lt_log2_self
    have h2 : 2 ^ (M.log2 + 1) ≤ 2 ^ (M.log2 + 2) := Nat.pow_le_pow_right (by decide) (by omega)
    have h3 : 2 ^ (M.log2 + 2) ≤ 2 ^ b := Nat.pow_le_pow_right (by decide) h
    rw [Nat.div_eq_of_lt (by omega), Nat.div_eq_of_lt (by omega)]

theorem integral_zero (s : Bool) (M b : Nat) : (Ieee.Datum.number s M (-(b : Int))).integral .zero = .number s (M / 2 ^ b) 0 := by
  unfold Ieee.Datum.integral
  dsimp only
  rw [show (-(b : Int)).toNat = 0 from by omega, Nat.shiftLeft_zero, show (- -(b : Int)).toNat = b from by omega, cut_zero]

def ge0 (x : Nat) : Bool := FloatKind.f64.format.order x 0 == some .gt || FloatKind.f64.format.order x 0 == some .eq
def ltR (x : Nat) : Bool := FloatKind.f64.format.order x 4666727020758040576 == some .lt

theorem order_whole (x : Nat) (s t : Bool) (M b : Nat) (hr : Ieee.double.read x = .number s M (-(b : Int))) (hs : s = true → M = 0) (ht : t = true → M = 0) (hn : M / 2 ^ b < 10007) :
    (FloatKind.f64.format.order (fb t (M / 2 ^ b)) x == some .eq) = decide (M % 2 ^ b = 0) := by
  obtain ⟨c, hc⟩ := fl_lt (read_fb t (M / 2 ^ b) (by omega))
  show (Ieee.double.order _ _ == _) = _
  unfold Ieee.Format.order
  rw [hr, hc, order_num, cmp_eq]
  have e1 : sval s (M * 2 ^ c) = ((M * 2 ^ c : Nat) : Int) := by
    cases s
    · rfl
    · rw [hs rfl]; unfold sval; simp
  have e2 : sval t (M / 2 ^ b * 2 ^ c * 2 ^ b) = ((M / 2 ^ b * 2 ^ c * 2 ^ b : Nat) : Int) := by
    cases t
    · rfl
    · rw [ht rfl]; unfold sval; simp
  rw [e1, e2, Bool.eq_iff_iff, decide_eq_true_iff, decide_eq_true_iff]
  have h1 := Nat.div_add_mod M (2 ^ b)
  have hp := Nat.two_pow_pos c
  have e3 : M / 2 ^ b * 2 ^ c * 2 ^ b = (2 ^ b * (M / 2 ^ b)) * 2 ^ c := by
    rw [Nat.mul_right_comm, Nat.mul_comm (M / 2 ^ b)]
  rw [e3]
  constructor
  · intro h
    have h' : (2 ^ b * (M / 2 ^ b)) * 2 ^ c = M * 2 ^ c := by exact_mod_cast h
    have := Nat.eq_of_mul_eq_mul_right hp h'
    omega
  · intro h
    rw [h, Nat.add_zero] at h1
    rw [h1]

theorem right_case (x : Nat) : (ge0 x = false ∧ ptOf x = none) ∨ (ge0 x = true ∧ ltR x = false ∧ ptOf x = none) ∨
    (ge0 x = true ∧ ltR x = true ∧ ∃ s M b, Ieee.double.read x = .number s M (-((b : Nat) : Int)) ∧ (s = true → M = 0) ∧ M / 2 ^ b < 10007 ∧ ptOf x = if M % 2 ^ b = 0 then some (M / 2 ^ b) else none) := by
  have hz : Ieee.double.read 0 = .number false 0 (-((1074 : Nat) : Int)) := by
    obtain ⟨M, i, h, _⟩ := fl_zero
    have : Ieee.double.read 0 = .number false 0 (-1074) := by decide
    exact this
  have hR : Ieee.double.read 4666727020758040576 = .number false (10007 * 549755813888) (-((39 : Nat) : Int)) := by decide
  have hge : ge0 x = (((Ieee.double.read x).order (Ieee.double.read 0) == some .gt) || ((Ieee.double.read x).order (Ieee.double.read 0) == some .eq)) := rfl
  have hlt : ltR x = ((Ieee.double.read x).order (Ieee.double.read 4666727020758040576) == some .lt) := rfl
  rw [hz] at hge
  rw [hR] at hlt
  cases hr : Ieee.double.read x with
  | nan s t =>
    left
    rw [hr] at hge
    exact ⟨hge, by unfold ptOf; rw [hr]⟩
  | infinity s =>
    rw [hr] at hge hlt
    cases s
    · exact .inr (.inl ⟨hge, hlt, by unfold ptOf; rw [hr]⟩)
    · exact .inl ⟨hge, by unfold ptOf; rw [hr]⟩
  | number s M i =>
    by_cases hi : i ≤ 0
    · obtain ⟨b, rfl⟩ : ∃ b : Nat, i = -(b : Int) := ⟨(-i).toNat, by omega⟩
      have hpt : ptOf x = if (-(b : Int)) ≤ 0 ∧ (s = false ∨ M = 0) ∧ M / 2 ^ b < 10007 ∧ M % 2 ^ b = 0 then some (M / 2 ^ b) else none := by
        unfold ptOf; rw [hr]; simp only [Int.neg_neg, Int.toNat_natCast]
      rw [hr, order_num, cmp_gt, cmp_eq, Nat.zero_mul, show sval false 0 = 0 from rfl] at hge
      obtain ⟨q, hq⟩ : ∃ q, q = 1074 := ⟨_, rfl⟩
      rw [← hq] at hge
      clear hq hz
      rw [hr, order_num, cmp_lt] at hlt
      have hp := Nat.two_pow_pos q
      have hpb := Nat.two_pow_pos b
      by_cases hs : s = false ∨ M = 0
      · have hsv : ∀ p, sval s (M * p) = ((M * p : Nat) : Int) := by
          intro p
          rcases hs with rfl | rfl
          · rfl
          · unfold sval; split <;> simp
        rw [hsv] at hge hlt
        have hge' : ge0 x = true := by
          rw [hge]; simp only [Bool.or_eq_true, decide_eq_true_iff]
          have : 0 ≤ ((M * 2 ^ q : Nat) : Int) := Int.natCast_nonneg _
          omega
        have hlt' : ltR x = decide (M / 2 ^ b < 10007) := by
          rw [hlt, show sval false (10007 * 549755813888 * 2 ^ b) = ((10007 * 549755813888 * 2 ^ b : Nat) : Int) from rfl, Bool.eq_iff_iff, decide_eq_true_iff, decide_eq_true_iff, Int.ofNat_lt, Nat.div_lt_iff_lt_mul hpb, Nat.mul_right_comm, show (2 ^ 39 : Nat) = 549755813888 from rfl]
          omega
        by_cases hM : M / 2 ^ b < 10007
        · right; right
          refine ⟨hge', by rw [hlt']; simpa using hM, s, M, b, rfl, ?_, hM, ?_⟩
          · intro h; rcases hs with h' | h'
            · rw [h'] at h; cases h
            · exact h'
          · rw [hpt]
            by_cases hmod : M % 2 ^ b = 0
            · rw [if_pos ⟨by omega, hs, hM, hmod⟩, if_pos hmod]
            · rw [if_neg (fun h => hmod h.2.2.2), if_neg hmod]
        · right; left
          refine ⟨hge', by rw [hlt']; simpa using hM, ?_⟩
          rw [hpt, if_neg (fun h => hM h.2.2.1)]
      · left
        have hst : s = true := by
          cases s with
          | true => rfl
          | false => exact absurd (.inl rfl) hs
        have hM0 : M ≠ 0 := fun h => hs (.inr h)
        subst hst
        refine ⟨?_, by rw [hpt, if_neg (fun h => hs h.2.1)]⟩
        have : 0 < M * 2 ^ q := Nat.mul_pos (by omega) hp
        rw [hge]; unfold sval
        simp only [if_true, Bool.or_eq_false_iff, decide_eq_false_iff_not]
        omega
    · have hM : 4503599627370496 ≤ M := by rcases read_place x hr with h | h <;> omega
      have hpt : ptOf x = none := by unfold ptOf; rw [hr]; simp only []; rw [if_neg (fun h => hi h.1)]
      have hM1 : 0 < M := by omega
      cases s
      · right; left
        refine ⟨?_, ?_, hpt⟩
        · rw [hge, hr]
          unfold Ieee.Datum.order
          dsimp only
          rw [cmp_gt, cmp_eq, signed_eq, signed_eq, Nat.zero_mul, show sval false 0 = 0 from rfl, show ∀ n, sval false n = (n : Int) from fun _ => rfl]
          simp only [Bool.or_eq_true, decide_eq_true_iff]
          have := Int.natCast_nonneg (M * 2 ^ (i - min i (-((1074 : Nat) : Int))).toNat)
          generalize M * 2 ^ (i - min i (-((1074 : Nat) : Int))).toNat = p at *
          clear hge hlt
          omega
        · rw [hlt, hr]
          unfold Ieee.Datum.order
          dsimp only
          rw [cmp_lt, signed_eq, signed_eq, show ∀ n, sval false n = (n : Int) from fun _ => rfl, show ∀ n, sval false n = (n : Int) from fun _ => rfl, decide_eq_false_iff_not]
          have e1 : min i (-((39 : Nat) : Int)) = -39 := by omega
          rw [e1, show (-((39 : Nat) : Int) - -39).toNat = 0 from rfl]
          have h1 : 2 ^ 39 ≤ 2 ^ (i - -39).toNat := Nat.pow_le_pow_right (by decide) (by omega)
          have h2 : 4503599627370496 * 2 ^ 39 ≤ M * 2 ^ (i - -39).toNat := Nat.mul_le_mul hM h1
          omega
      · left
        refine ⟨?_, hpt⟩
        rw [hge, hr]
        unfold Ieee.Datum.order
        dsimp only
        rw [cmp_gt, cmp_eq, signed_eq, signed_eq, Nat.zero_mul, show sval false 0 = 0 from rfl, show ∀ n, sval true n = -(n : Int) from fun _ => rfl]
        have : 0 < M * 2 ^ (i - min i (-((1074 : Nat) : Int))).toNat := Nat.mul_pos hM1 (Nat.two_pow_pos _)
        simp only [Bool.or_eq_false_iff, decide_eq_false_iff_not]
        generalize M * 2 ^ (i - min i (-((1074 : Nat) : Int))).toNat = p at *
        clear hge hlt
        omega
end Go.Mv

namespace Go.Proofs.YtfjcnpigpkcfgaaGreat
open Go.RowKit Go.Mv
set_option maxRecDepth 100000

theorem Trunc_any (x : Nat) (s : Bool) (M b : Nat) (hr : Ieee.double.read x = .number s M (-(b : Int))) (hn : M / 2 ^ b < 10007) (w : World) : Calls Tryz.prog 150 #[.float .f64 x] w fun e w' => e = .returned (.float .f64 (fb s (M / 2 ^ b))) ∧ w = w' := by
  have h := run_archTrunc x s M _ hr w
  rw [integral_zero] at h
  have h2 : Ieee.double.write (.number s (M / 2 ^ b) 0) = fb s (M / 2 ^ b) := nearest_exact s ⟨0, rfl, by simp⟩ (by omega)
  rw [h2] at h
  go_enter Tryz.func150, Tryz.ntmps150
  go_wp2
  go_ret
  exact ⟨rfl, rfl⟩

theorem Right1_any (x : Nat) (w : World) : Calls Tryz.prog 149 #[.float .f64 x] w fun e w' => e = .returned (.bool (ptOf x).isSome) ∧ w = w' := by
  have key := right_case x
  unfold ge0 ltR at key
  rcases key with ⟨h1, h2⟩ | ⟨h1, h2, h3⟩ | ⟨h1, h2, s, M, b, hr, hs, hn, hp⟩
  · rw [h2]
    go_enter Tryz.func149, Tryz.ntmps149
    go_wp2_with fail
    go_ret
    exact ⟨rfl, rfl⟩
  · rw [h3]
    go_enter Tryz.func149, Tryz.ntmps149
    go_wp2_with fail
    go_ret
    exact ⟨rfl, rfl⟩
  · have ho := order_whole x s s M b hr hs hs hn
    have hp2 : (ptOf x).isSome = decide (M % 2 ^ b = 0) := by rw [hp]; split <;> simp_all
    have hT := Lib.hid (fun w => Trunc_any x s M b hr hn w)
    rw [hp2, ← ho]
    clear hp2 ho hp hr hs hn
    go_enter Tryz.func149, Tryz.ntmps149
    go_wp2_with (go_at_call 150; refine (hT.out _).mono ?_; rintro e w' ⟨rfl, rfl⟩)
    go_ret
    exact ⟨rfl, rfl⟩

set_option maxHeartbeats 400000 in
theorem Right_c (a b : Nat) (w : World) : Calls Tryz.prog 139 #[.complex .f64 a b] w fun e w' => e = .returned (.bool ((ptOf a).isSome && (ptOf b).isSome)) ∧ w = w' := by
  cases ha : (ptOf a).isSome
  all_goals
    go_enter Tryz.func139, Tryz.ntmps139
    go_wp2_with (go_at_call 149; refine (Right1_any _ _).mono ?_; rintro e w' ⟨rfl, rfl⟩)
    go_ret
    exact ⟨rfl, rfl⟩

def PartP (x : Nat) (w : World) (e : Ending) (w' : World) : Prop := ∃ n : Int, e = .returned (.tuple #[.int .i64 n, .bool (ptOf x).isSome]) ∧ (∀ m, ptOf x = some m → n = m) ∧ w = w'

theorem part_any (x : Nat) (w : World) : Calls Tryz.prog 59 #[.float .f64 x] w (PartP x w) := by
  have key := right_case x
  unfold ge0 ltR at key
  rcases key with ⟨h1, h2⟩ | ⟨h1, h2, h3⟩ | ⟨h1, h2, s, M, b, hr, hs, hn, hp⟩
  · unfold PartP
    rw [h2]
    go_enter Tryz.func59, Tryz.ntmps59
    go_wp2_with fail
    go_ret2
    exact ⟨0, rfl, (fun m h => by cases h), rfl⟩
  · unfold PartP
    rw [h3]
    go_enter Tryz.func59, Tryz.ntmps59
    go_wp2_with fail
    go_ret2
    exact ⟨0, rfl, (fun m h => by cases h), rfl⟩
  · have ho := order_whole x s false M b hr hs (fun h => by cases h) hn
    have hp2 : (ptOf x).isSome = decide (M % 2 ^ b = 0) := by rw [hp]; split <;> simp_all
    have hp3 : ∀ m, ptOf x = some m → ((M / 2 ^ b : Nat) : Int) = m := by
      intro m hm; rw [hp] at hm; split at hm <;> cases hm; rfl
    have hi : floatToIntVal .f64 x .i64 = some ((M / 2 ^ b : Nat) : Int) := by
      unfold floatToIntVal FloatKind.decode
      rw [show FloatKind.f64.format = Ieee.double from rfl, hr]
      unfold Ieee.Datum.toInt
      rw [integral_zero]
      have hs0 : s = true → M / 2 ^ b = 0 := fun h => by rw [hs h]; simp
      clear hp ho hp2 hp3 hr hs
      generalize M / 2 ^ b = n at *
      have e : Ieee.signed s (n) 0 = (n : Int) := by
        rw [signed_eq, Nat.pow_zero, Nat.mul_one]
        cases s
        · rfl
        · rw [hs0 rfl]; unfold sval; simp
      dsimp only
      rw [e]
      have : IntKind.i64.min ≤ (n : Int) ∧ (n : Int) ≤ IntKind.i64.max := by
        rw [show IntKind.i64.min = -9223372036854775808 from rfl, show IntKind.i64.max = 9223372036854775807 from rfl]; omega
      simp only [this, and_self, if_true]
    have hci := run_convert_float_int (P := Tryz.prog) w 96 3 .f64 .i64 x _ (by kernel_rfl) Tryz.underlying3 hi
    have hof := ofInt_nat (M / 2 ^ b) (by omega)
    have Hp3 := Lib.hid hp3
    unfold PartP
    rw [hp2, ← ho]
    clear hp2 ho hp hr hs hi hp3
    generalize M / 2 ^ b = n at *
    go_enter Tryz.func59, Tryz.ntmps59
    go_wp2_with fail
    go_ret2
    exact ⟨n, rfl, Hp3.out, rfl⟩

set_option maxHeartbeats 400000 in
theorem refRightC_any (a b : Nat) (w : World) : Calls Tryz.prog 51 #[.complex .f64 a b] w fun e w' => e = .returned (.bool ((ptOf a).isSome && (ptOf b).isSome)) ∧ w = w' := by
  cases ha : (ptOf a).isSome
  all_goals
    go_enter Tryz.func51, Tryz.ntmps51
    go_wp2_with (go_at_call 59; refine (part_any _ _).mono ?_; rintro e w' ⟨n1, rfl, _, rfl⟩)
    go_ret
    exact ⟨rfl, rfl⟩
end Go.Proofs.YtfjcnpigpkcfgaaGreat

namespace Go.Mv
open Go.RowKit

/-- The next point. -/
def nextP (p : Nat × Nat) (b : UInt8) : Nat × Nat := ((3 * p.1 + 50035 - 5 * p.2 + b.toNat + 1) % 10007, (5 * p.1 + 3 * p.2) % 10007)
/-- The value is that point. -/
def PtV (v : Value) (p : Nat × Nat) : Prop := ∃ a b, v = .complex .f64 a b ∧ ptOf a = some p.1 ∧ ptOf b = some p.2

theorem ptOf_of_fl {x n : Nat} {s : Bool} (h : Fl x s n) (hn : n < 10007) (hs : s = true → n = 0) : ptOf x = some n := by
  obtain ⟨b, hb⟩ := fl_lt h
  have hp := Nat.two_pow_pos b
  unfold ptOf
  rw [hb]
  simp only [Int.neg_neg, Int.toNat_natCast, Nat.mul_div_cancel _ hp, Nat.mul_mod_left]
  rw [if_pos]
  refine ⟨by omega, ?_, hn, by trivial⟩
  cases s
  · exact .inl rfl
  · right; rw [hs rfl]; simp
theorem ptOf_fb (s : Bool) (n : Nat) (hn : n < 10007) (hs : s = true → n = 0) : ptOf (fb s n) = some n := ptOf_of_fl (read_fb s n (by omega)) hn hs
theorem sval_pt {s : Bool} {n : Nat} (hs : s = true → n = 0) (k : Nat) : sval s (n * k) = ((n * k : Nat) : Int) := by
  cases s
  · rfl
  · rw [hs rfl]; unfold sval; simp
theorem sval_lit (z : Int) (h : Bool) : sval (if z = 0 then h else decide (z < 0)) z.natAbs = z := by
  unfold sval
  by_cases h0 : z = 0
  · subst h0; simp
  · rw [if_neg h0]
    by_cases h1 : z < 0
    · rw [decide_eq_true h1]; simp; omega
    · rw [decide_eq_false h1]; simp; omega

theorem nextBits {a b x y : Nat} (hx : x < 10007) (hy : y < 10007) {s t : Bool} (hs : s = true → x = 0) (ht : t = true → y = 0) (ha : Fl a s x) (hb : Fl b t y) (B : Nat) (hB : B < 256) :
    ∃ R I σ τ, cMulBits a b 4613937818241073152 4617315517961601024 = some (R, I) ∧
      cSumBits .add .f64 R I (fb false (B + 1)) 0 = some (fb σ ((3 : Int) * x - 5 * y + B + 1).natAbs, fb τ (5 * x + 3 * y)) ∧ sval σ ((3 : Int) * x - 5 * y + B + 1).natAbs = (3 : Int) * x - 5 * y + B + 1 ∧ sval τ (5 * x + 3 * y) = ((5 * x + 3 * y : Nat) : Int) := by
  have h3 : Fl 4613937818241073152 false 3 := by have := read_fb false 3 (by decide); rwa [show fb false 3 = 4613937818241073152 from by decide] at this
  have h5 : Fl 4617315517961601024 false 5 := by have := read_fb false 5 (by decide); rwa [show fb false 5 = 4617315517961601024 from by decide] at this
  have m1 := mul_exact ha h3 (by omega)
  have m2 := mul_exact hb h5 (by omega)
  have m3 := mul_exact ha h5 (by omega)
  have m4 := mul_exact hb h3 (by omega)
  rw [Bool.xor_false] at m1 m2 m3 m4
  have v1 := sval_pt hs 3
  have v2 := sval_pt ht 5
  have v3 := sval_pt hs 5
  have v4 := sval_pt ht 3
  have r1 := sub_exact (read_fb s (x * 3) (by omega)) (read_fb t (y * 5) (by omega)) (by rw [v1, v2]; omega)
  have i1 := sum_exact (read_fb s (x * 5) (by omega)) (read_fb t (y * 3) (by omega)) (by rw [v3, v4]; omega)
  rw [v1, v2] at r1
  rw [v3, v4] at i1
  have e1 : (((x * 3 : Nat) : Int) - ((y * 5 : Nat) : Int)) = 3 * (x : Int) - 5 * y := by omega
  have e2 : (((x * 5 : Nat) : Int) + ((y * 3 : Nat) : Int)) = ((5 * x + 3 * y : Nat) : Int) := by omega
  rw [e1] at r1
  rw [e2] at i1
  generalize hσ : (if (3 * (x : Int) - 5 * y) = 0 then s && !t else decide (3 * (x : Int) - 5 * y < 0)) = σ1 at r1
  generalize hτ : (if (((5 * x + 3 * y : Nat) : Int)) = 0 then s && t else decide (((5 * x + 3 * y : Nat) : Int) < 0)) = τ1 at i1
  have w1 : sval σ1 (3 * (x : Int) - 5 * y).natAbs = 3 * (x : Int) - 5 * y := by rw [← hσ]; exact sval_lit _ _
  have w2 : sval τ1 (((5 * x + 3 * y : Nat) : Int)).natAbs = ((5 * x + 3 * y : Nat) : Int) := by rw [← hτ]; exact sval_lit _ _
  have r2 := sum_exact (read_fb σ1 (3 * (x : Int) - 5 * y).natAbs (by omega)) (read_fb false (B + 1) (by omega)) (by rw [w1]; unfold sval; simp; omega)
  have i2 := sum_exact (read_fb τ1 (((5 * x + 3 * y : Nat) : Int)).natAbs (by omega)) fl_zero (by rw [w2]; unfold sval; simp; omega)
  rw [w1] at r2
  rw [w2] at i2
  have e3 : (3 * (x : Int) - 5 * y + sval false (B + 1)) = 3 * (x : Int) - 5 * y + B + 1 := by unfold sval; simp; omega
  have e4 : (((5 * x + 3 * y : Nat) : Int) + sval false 0) = ((5 * x + 3 * y : Nat) : Int) := by unfold sval; simp
  rw [e3] at r2
  rw [e4] at i2
  generalize hσ2 : (if (3 * (x : Int) - 5 * y + B + 1) = 0 then σ1 && false else decide (3 * (x : Int) - 5 * y + B + 1 < 0)) = σ2 at r2
  generalize hτ2 : (if (((5 * x + 3 * y : Nat) : Int)) = 0 then τ1 && false else decide (((5 * x + 3 * y : Nat) : Int) < 0)) = τ2 at i2
  have w3 : sval σ2 (3 * (x : Int) - 5 * y + B + 1).natAbs = 3 * (x : Int) - 5 * y + B + 1 := by rw [← hσ2]; exact sval_lit _ _
  have w4 : sval τ2 (((5 * x + 3 * y : Nat) : Int)).natAbs = ((5 * x + 3 * y : Nat) : Int) := by rw [← hτ2]; exact sval_lit _ _
  simp only [Int.natAbs_natCast] at i1 i2 w4
  refine ⟨fb σ1 (3 * (x : Int) - 5 * y).natAbs, fb τ1 (5 * x + 3 * y), σ2, τ2, ?_, ?_, w3, w4⟩
  · unfold cMulBits floatBits
    simp only [show FloatKind.f64.format = Ieee.double from rfl, m1, m2, m3, m4, r1, i1, Option.bind_some]
  · unfold cSumBits floatBits
    simp only [show FloatKind.f64.format = Ieee.double from rfl, r2, i2, Option.bind_some]
theorem tmod_twice (z : Int) (h1 : -100000 < z) (h2 : z < 100000) : (wrap64 (z.tmod 10007 + 10007)).tmod 10007 = z % 10007 := by
  have key : z.tmod 10007 = if 0 ≤ z then z % 10007 else -((-z) % 10007) := by
    split
    · rename_i h; exact Int.tmod_eq_emod_of_nonneg h
    · rename_i h
      have := Int.neg_tmod (a := -z) (b := 10007)
      rw [Int.neg_neg] at this
      rw [this, Int.tmod_eq_emod_of_nonneg (by omega)]
  have hw : wrap64 (z.tmod 10007 + 10007) = z.tmod 10007 + 10007 := by
    rw [key]; unfold wrap64; split <;> omega
  rw [hw, Int.tmod_eq_emod_of_nonneg (by rw [key]; split <;> omega), key]
  split <;> omega
end Go.Mv
namespace Go.Proofs.YtfjcnpigpkcfgaaGreat
open Go.RowKit Go.Mv
set_option maxRecDepth 100000

def Next1P (s : Bool) (n : Nat) (w : World) (e : Ending) (w' : World) : Prop := ∃ r, e = .returned (.float .f64 r) ∧ ptOf r = some ((sval s n) % 10007).toNat ∧ w = w'

theorem Next1_any (s : Bool) (n : Nat) (hn : n < 131072) (w : World) : Calls Tryz.prog 152 #[.float .f64 (fb s n)] w (Next1P s n w) := by
  have hc : fb false 10007 = 4666727020758040576 := by decide
  have hlt : (FloatKind.f64.format.order (fb s (n % 10007)) 0 == some .lt) = decide (sval s (n % 10007) < 0) := by
    show (Ieee.double.order _ _ == _) = _
    rw [order_fl (read_fb s _ (by omega)) fl_zero, cmp_lt]; rfl
  have hM := Lib.hid (fun w => Mod_any s n hn w)
  by_cases h : s = true ∧ 0 < n % 10007
  · obtain ⟨rfl, h0⟩ := h
    have hs := sum_exact (read_fb true (n % 10007) (by omega)) (read_fb false 10007 (by decide)) (by unfold sval; simp; omega)
    have e : sval true (n % 10007) + sval false 10007 = ((10007 - n % 10007 : Nat) : Int) := by unfold sval; simp; omega
    rw [e, Int.natAbs_natCast, if_neg (by omega), hc, show decide (((10007 - n % 10007 : Nat) : Int) < 0) = false from by simp] at hs
    have ha := run_float_arith (P := Tryz.prog) w .add 96 .f64 (fb true (n % 10007)) 4666727020758040576 _ hs
    have ht : decide (sval true (n % 10007) < 0) = true := by unfold sval; simp; omega
    rw [ht] at hlt
    have hr : ptOf (fb false (10007 - n % 10007)) = some ((sval true n) % 10007).toNat := by
      rw [ptOf_fb false _ (by omega) (fun h => by cases h)]
      congr 1; unfold sval; simp only [if_true]; omega
    have Hr := Lib.hid hr
    clear hr hs e ht
    go_enter Tryz.func152, Tryz.ntmps152
    go_wp2_with (go_at_call 153; refine (hM.out _).mono ?_; rintro e w' ⟨rfl, rfl⟩)
    go_ret
    exact ⟨_, rfl, Hr.out, rfl⟩
  · have ht : decide (sval s (n % 10007) < 0) = false := by
      unfold sval; cases s
      · simp; omega
      · simp at h ⊢; omega
    rw [ht] at hlt
    have hr : ptOf (fb s (n % 10007)) = some ((sval s n) % 10007).toNat := by
      rw [ptOf_fb s _ (by omega) (fun hs => by by_cases h0 : 0 < n % 10007; exact absurd ⟨hs, h0⟩ h; omega)]
      congr 1; unfold sval; cases s
      · simp only [Bool.false_eq_true, if_false]; omega
      · simp only [if_true]; simp at h; omega
    have Hr := Lib.hid hr
    clear hr ht h
    go_enter Tryz.func152, Tryz.ntmps152
    go_wp2_with (go_at_call 153; refine (hM.out _).mono ?_; rintro e w' ⟨rfl, rfl⟩)
    go_ret
    exact ⟨_, rfl, Hr.out, rfl⟩

def NextP (p : Nat × Nat) (w : World) (e : Ending) (w' : World) : Prop := ∃ v, e = .returned v ∧ PtV v p ∧ w = w'

set_option maxHeartbeats 1000000 in
theorem Next_any (v : Value) (p : Nat × Nat) (hv : PtV v p) (c : UInt8) (w : World) : Calls Tryz.prog 141 #[v, .int .u8 c.toNat] w (NextP (nextP p c) w) := by
  obtain ⟨a, b, rfl, ha, hb⟩ := hv
  obtain ⟨x, y⟩ := p
  obtain ⟨hx, s, hs, hfa⟩ := ptOf_fl ha
  obtain ⟨hy, t, ht, hfb⟩ := ptOf_fl hb
  dsimp only at ha hb hx hy hs ht hfa hfb
  have hB := c.toNat_lt
  obtain ⟨R, I, σ, τ, hmul, hsum, hσ, hτ⟩ := nextBits hx hy hs ht hfa hfb c.toNat hB
  have k1 := run_complex_mul (P := Tryz.prog) w 67 _ _ _ _ _ _ hmul
  have k2 := run_complex_sum (P := Tryz.prog) w .add (.inl rfl) 67 .f64 _ _ _ _ _ _ hsum
  have ho := ofInt_nat c.toNat (by omega)
  have hone : Ieee.double.add (fb false c.toNat) 4607182418800017408 = some (fb false (c.toNat + 1)) := by
    have := sum_exact (read_fb false c.toNat (by omega)) (read_fb false 1 (by decide)) (by unfold sval; simp; omega)
    have e : sval false c.toNat + sval false 1 = ((c.toNat + 1 : Nat) : Int) := by unfold sval; simp
    rw [e, Int.natAbs_natCast, if_neg (by omega), show decide (((c.toNat + 1 : Nat) : Int) < 0) = false from by simp; omega, show fb false 1 = 4607182418800017408 from by decide] at this
    exact this
  have k3 := run_float_arith (P := Tryz.prog) w .add 96 .f64 (fb false c.toNat) 4607182418800017408 _ hone
  have hn1 : ((3 : Int) * x - 5 * y + c.toNat + 1).natAbs < 131072 := by omega
  have hn2 : 5 * x + 3 * y < 131072 := by omega
  have hR : Hid (((sval σ ((3 : Int) * x - 5 * y + c.toNat + 1).natAbs) % 10007).toNat = (nextP (x, y) c).1) := by
    show _ = _
    rw [hσ]; unfold nextP; simp only []; omega
  have hI : Hid (((sval τ (5 * x + 3 * y)) % 10007).toNat = (nextP (x, y) c).2) := by
    show _ = _
    rw [hτ]; unfold nextP; simp only []; omega
  clear hmul hsum hσ hτ hone hfa hfb hs ht
  generalize ((3 : Int) * x - 5 * y + c.toNat + 1).natAbs = n1 at *
  generalize 5 * x + 3 * y = n2 at *
  generalize c.toNat = B at *
  have hok : ((ptOf a).isSome && (ptOf b).isSome) = true := by rw [ha, hb]; rfl
  have hG := Lib.hid (fun w => Right_c a b w)
  rw [hok] at hG
  clear ha hb hok
  go_enter Tryz.func141, Tryz.ntmps141
  go_wp2_with (first
    | (go_at_call 139; refine (hG.out _).mono ?_; rintro e w' ⟨rfl, rfl⟩)
    | (go_at_call 152; refine (Next1_any _ _ (by assumption) _).mono ?_; rintro e w' ⟨r, rfl, hr, rfl⟩))
  go_ret
  refine ⟨_, rfl, ⟨_, _, rfl, ?_, ?_⟩, rfl⟩
  · rw [← hR.out]; assumption
  · rw [← hI.out]; assumption

theorem part_pt (x n : Nat) (h : ptOf x = some n) (w : World) : Calls Tryz.prog 59 #[.float .f64 x] w fun e w' => e = .returned (.tuple #[.int .i64 n, .bool true]) ∧ w = w' := by
  refine (part_any x w).mono ?_
  rintro e w' ⟨m, rfl, hn, rfl⟩
  exact ⟨by rw [hn n h, h]; rfl, rfl⟩

set_option maxHeartbeats 1000000 in
theorem refNext_any (v : Value) (p : Nat × Nat) (hv : PtV v p) (c : UInt8) (w : World) : Calls Tryz.prog 52 #[v, .int .u8 c.toNat] w (NextP (nextP p c) w) := by
  obtain ⟨a, b, rfl, ha, hb⟩ := hv
  obtain ⟨x, y⟩ := p
  obtain ⟨hx, s, hs, hfa⟩ := ptOf_fl ha
  obtain ⟨hy, t, ht, hfb⟩ := ptOf_fl hb
  dsimp only at ha hb hx hy
  have hB := c.toNat_lt
  have ho1 := Lib.hid (ofInt_nat (nextP (x, y) c).1 (by unfold nextP; simp only []; omega))
  have ho2 := Lib.hid (ofInt_nat (nextP (x, y) c).2 (by unfold nextP; simp only []; omega))
  clear hfa hfb hs ht
  go_enter Tryz.func52, Tryz.ntmps52
  go_wp2_with (go_at_call 59; refine (part_pt _ _ (by assumption) _).mono ?_; rintro e w' ⟨rfl, rfl⟩)
  go_ret
  have e1 : (wrap64 ((3 * (x : Int) - 5 * y + c.toNat + 1).tmod 10007 + 10007)).tmod 10007 = ((nextP (x, y) c).1 : Int) := by
    rw [tmod_twice _ (by omega) (by omega)]
    unfold nextP; simp only []; omega
  have e2 : ((5 * (x : Int) + 3 * y) % 10007) = ((nextP (x, y) c).2 : Int) := by unfold nextP; simp only []; omega
  refine ⟨.complex .f64 (fb false (nextP (x, y) c).1) (fb false (nextP (x, y) c).2), ?_, ⟨_, _, rfl, ptOf_fb _ _ ?_ ?_, ptOf_fb _ _ ?_ ?_⟩, rfl⟩
  · rw [← ho1.out, ← ho2.out, ← e1, ← e2]; rfl
  · unfold nextP; simp only []; omega
  · exact fun h => by cases h
  · unfold nextP; simp only []; omega
  · exact fun h => by cases h
end Go.Proofs.YtfjcnpigpkcfgaaGreat

namespace Go.Mv
open Go.RowKit
theorem f2i_pt {a x : Nat} (h : ptOf a = some x) : floatToIntVal .f64 a .i64 = some (x : Int) := by
  obtain ⟨hx, s, hs, hf⟩ := ptOf_fl h
  obtain ⟨b, hb⟩ := fl_lt hf
  unfold floatToIntVal FloatKind.decode
  rw [show FloatKind.f64.format = Ieee.double from rfl, hb]
  unfold Ieee.Datum.toInt
  rw [integral_zero, Nat.mul_div_cancel _ (Nat.two_pow_pos b)]
  have e : Ieee.signed s x 0 = (x : Int) := by
    rw [signed_eq, Nat.pow_zero, Nat.mul_one]
    cases s
    · rfl
    · rw [hs rfl]; unfold sval; simp
  dsimp only
  rw [e]
  have : IntKind.i64.min ≤ (x : Int) ∧ (x : Int) ≤ IntKind.i64.max := by
    rw [show IntKind.i64.min = -9223372036854775808 from rfl, show IntKind.i64.max = 9223372036854775807 from rfl]; omega
  simp only [this, and_self, if_true]
/-- A point's four bytes. -/
def fourB (p : Nat × Nat) : List UInt8 := [UInt8.ofNat (p.1 / 256), UInt8.ofNat p.1, UInt8.ofNat (p.2 / 256), UInt8.ofNat p.2]
/-- Whatever is no point is 0. -/
def ptV (v : Value) : Nat × Nat :=
  match v with
  | .complex .f64 a b => match ptOf a, ptOf b with
    | some x, some y => (x, y)
    | _, _ => (0, 0)
  | _ => (0, 0)
end Go.Mv
namespace Go.Proofs.YtfjcnpigpkcfgaaGreat
open Go.RowKit Go.Mv
set_option maxRecDepth 100000

def FourP (v : Value) (w : World) (e : Ending) (w' : World) : Prop := e = .returned (.agg ((fourB (ptV v)).map bv).toArray) ∧ Ext w w'
theorem four_pt {a b x y : Nat} (ha : ptOf a = some x) (hb : ptOf b = some y) : (fourB (ptV (.complex .f64 a b))).map bv = [.int .u8 ((x : Int) / 256), .int .u8 ((x : Int) % 256), .int .u8 ((y : Int) / 256), .int .u8 ((y : Int) % 256)] := by
  have hx := (ptOf_fl ha).1
  have hy := (ptOf_fl hb).1
  have e : ptV (.complex .f64 a b) = (x, y) := by unfold ptV; simp only [ha, hb]
  rw [e]
  simp [fourB, bv]
  omega
theorem four_no {a b : Nat} (h : ((ptOf a).isSome && (ptOf b).isSome) = false) : (fourB (ptV (.complex .f64 a b))).map bv = [.int .u8 0, .int .u8 0, .int .u8 0, .int .u8 0] := by
  have e : ptV (.complex .f64 a b) = (0, 0) := by
    unfold ptV
    cases ha : ptOf a <;> cases hb : ptOf b <;> simp_all
  rw [e]
  simp [fourB, bv]

set_option maxHeartbeats 400000 in
theorem Four_any (a b : Nat) (w : World) : Calls Tryz.prog 144 #[.complex .f64 a b] w (FourP (.complex .f64 a b) w) := by
  have hG := Lib.hid (fun w => Right_c a b w)
  cases hok : ((ptOf a).isSome && (ptOf b).isSome)
  · have hf := four_no hok
    unfold FourP
    rw [hf]
    rw [hok] at hG
    clear hok hf
    go_enter Tryz.func144, Tryz.ntmps144
    go_wp2_with (go_at_call 139; refine (hG.out _).mono ?_; rintro e w' ⟨rfl, rfl⟩)
    refine bodyPost_ret (results_cell_row rfl _ _ _ 92 _ _ _ rfl (heap_alloc_new _ _) Tryz.underlying92 rfl (by kernel_rfl)) rfl ⟨rfl, Ext.alloc (Ext.refl _) _⟩
  · obtain ⟨x, ha⟩ : ∃ x, ptOf a = some x := by cases h : ptOf a <;> simp_all
    obtain ⟨y, hb⟩ : ∃ y, ptOf b = some y := by cases h : ptOf b <;> simp_all
    have hf := four_pt ha hb
    have hx := (ptOf_fl ha).1
    have hy := (ptOf_fl hb).1
    unfold FourP
    rw [hf]
    rw [hok] at hG
    have i1 := fun w => run_convert_float_int (P := Tryz.prog) w 96 3 .f64 .i64 a _ (by kernel_rfl) Tryz.underlying3 (f2i_pt ha)
    have i2 := fun w => run_convert_float_int (P := Tryz.prog) w 96 3 .f64 .i64 b _ (by kernel_rfl) Tryz.underlying3 (f2i_pt hb)
    clear hok ha hb hf
    go_enter Tryz.func144, Tryz.ntmps144
    go_wp2_with (go_at_call 139; refine (hG.out _).mono ?_; rintro e w' ⟨rfl, rfl⟩)
    refine bodyPost_ret (results_cell_row rfl _ _ _ 92 _ _ _ rfl (heap_alloc_new _ _) Tryz.underlying92 rfl (by kernel_rfl)) rfl ⟨rfl, Ext.alloc (Ext.refl _) _⟩

set_option maxHeartbeats 400000 in
theorem refFour_any (a b : Nat) (w : World) : Calls Tryz.prog 58 #[.complex .f64 a b] w (FourP (.complex .f64 a b) w) := by
  by_cases hok : ((ptOf a).isSome && (ptOf b).isSome) = true
  · obtain ⟨x, ha⟩ : ∃ x, ptOf a = some x := by cases h : ptOf a <;> simp_all
    obtain ⟨y, hb⟩ : ∃ y, ptOf b = some y := by cases h : ptOf b <;> simp_all
    have hf := four_pt ha hb
    have hx := (ptOf_fl ha).1
    have hy := (ptOf_fl hb).1
    unfold FourP
    rw [hf]
    clear hok hf
    go_enter Tryz.func58, Tryz.ntmps58
    go_wp2_with (go_at_call 59; refine (part_pt _ _ (by assumption) _).mono ?_; rintro e w' ⟨rfl, rfl⟩)
    refine bodyPost_ret (results_cell_row rfl _ _ _ 92 _ _ _ rfl (heap_alloc_new _ _) Tryz.underlying92 rfl (by kernel_rfl)) rfl ⟨rfl, Ext.alloc (Ext.refl _) _⟩
  · have hok2 : ((ptOf a).isSome && (ptOf b).isSome) = false := by simpa using hok
    have hf := four_no hok2
    unfold FourP
    rw [hf]
    clear hf hok
    cases ha : (ptOf a).isSome
    · go_enter Tryz.func58, Tryz.ntmps58
      go_wp2_with (go_at_call 59; refine (part_any _ _).mono ?_; rintro e w' ⟨n, rfl, _, rfl⟩)
      refine bodyPost_ret (results_cell_row rfl _ _ _ 92 _ _ _ rfl (heap_alloc_new _ _) Tryz.underlying92 rfl (by kernel_rfl)) rfl ⟨rfl, Ext.alloc (Ext.refl _) _⟩
    · rw [ha, Bool.true_and] at hok2
      go_enter Tryz.func58, Tryz.ntmps58
      go_wp2_with (go_at_call 59; refine (part_any _ _).mono ?_; rintro e w' ⟨n, rfl, _, rfl⟩)
      refine bodyPost_ret (results_cell_row rfl _ _ _ 92 _ _ _ rfl (heap_alloc_new _ _) Tryz.underlying92 rfl (by kernel_rfl)) rfl ⟨rfl, Ext.alloc (Ext.refl _) _⟩
end Go.Proofs.YtfjcnpigpkcfgaaGreat

namespace Go.Proofs.YtfjcnpigpkcfgaaGreat
open Go.RowKit Go.Mv

set_option maxHeartbeats 400000 in
theorem bytesEqual_any (va vb : Value) (a b : List UInt8) (w : World) (ha : Bs w va a) (hb : Bs w vb b) :
    Calls Tryz.prog 117 #[va, vb] w fun e w' => e = .returned (.bool (decide (a = b))) ∧ w = w' := by
  obtain ⟨A, ca, rfl, h1, h2⟩ := SlR.open_ ha
  obtain ⟨B, cb, rfl, h3, h4⟩ := SlR.open_ hb
  have hca := run_convert_sl (P := Tryz.prog) w 23 9 5 Tryz.underlying23 Tryz.underlying5 Tryz.underlying9 ha
  have hcb := run_convert_sl (P := Tryz.prog) w 23 9 5 Tryz.underlying23 Tryz.underlying5 Tryz.underlying9 hb
  go_enter Tryz.func117, Tryz.ntmps117
  go_wp2
  go_ret
  exact ⟨ret_bool (by rw [Bool.eq_iff_iff]; simp), rfl⟩

/-- A slice of slices of bytes. -/
def Parts (w : World) (v : Value) (bss : List (List UInt8)) : Prop := ∃ vs : List Value, vs.length = bss.length ∧ SlR w 1 v bss.length vs ∧ ∀ i (h : i < vs.length) (h' : i < bss.length), Bs w vs[i] bss[i]
theorem Parts.ext {w w' : World} {v : Value} {bss : List (List UInt8)} (h : Parts w v bss) (he : Ext w w') : Parts w' v bss := by
  obtain ⟨vs, hl, h1, h2⟩ := h
  exact ⟨vs, hl, h1.ext he, fun i hi hi' => (h2 i hi hi').ext he⟩
theorem flat_take (bss : List (List UInt8)) (k : Nat) (h : k < bss.length) : (bss.take (k + 1)).flatten = (bss.take k).flatten ++ bss[k] := by
  rw [List.take_succ_eq_append_getElem h, List.flatten_append, List.flatten_cons, List.flatten_nil, List.append_nil]
theorem flat_take_le (bss : List (List UInt8)) (k : Nat) : (bss.take k).flatten.length ≤ bss.flatten.length := by
  conv => rhs; rw [← List.take_append_drop k bss, List.flatten_append]
  simp

set_option maxRecDepth 100000 in
set_option maxHeartbeats 1000000 in
theorem Concat_any (v : Value) (bss : List (List UInt8)) (w : World) (h : Parts w v bss) (hl : bss.flatten.length ≤ 70368744177664) :
    Calls Tryz.prog 133 #[v] w (CloneP w bss.flatten) := by
  obtain ⟨vs, hvl, hsl, hvs⟩ := h
  obtain ⟨A, c, rfl, h1, h2⟩ := SlR.open_ hsl
  obtain ⟨i0, hi, hz0, hz1, hz2⟩ := info_parts info_u8
  have Hvl := Lib.hid hvl
  have hv1 : vs.length ≤ bss.length := by omega
  have hv2 : bss.length ≤ vs.length := by omega
  clear hvl
  go_enter Tryz.func133, Tryz.ntmps133
  go_wp2_with fail
  go_loop [3, 11] (fun sz i => ∃ k m : Nat, k ≤ bss.length ∧ i = .int .i64 k ∧ sz = .int .i64 m ∧ Hid (m = (bss.take k).flatten.length)) (fun _ i => bss.length - (intOf i).toNat)
  case atStart => exact ⟨0, 0, Nat.zero_le _, rfl, rfl, rfl⟩
  case round =>
    obtain ⟨k, m, hk, rfl, rfl, Hm⟩ := hrel
    by_cases hlt : k < bss.length
    · obtain ⟨_, b, off, rfl, hc⟩ := SlR.at_ hsl (by omega)
      have hkv : k < vs.length := by omega
      have hck := hc k vs[k] (List.getElem?_eq_getElem hkv)
      obtain ⟨A', c', hvk, h3, h4⟩ := SlR.open_ (hvs k hkv hlt)
      rw [hvk] at hck
      have hle := flat_take_le bss (k + 1)
      have hft := flat_take bss k hlt
      rw [hft, List.length_append, ← Hm.out] at hle
      have Hft := Lib.hid hft
      generalize hq : bss.flatten.length = q at hle hl
      clear hc hvk hft hq
      go_wp2_with fail
      go_round
      case rel => exact ⟨k + 1, m + bss[k].length, by omega, by go_num, by go_num, by show _ = _; rw [Hft.out, List.length_append, ← Hm.out]⟩
      case measure => simp [intOf]; omega
    · have hm := Hm.out
      rw [List.take_of_length_le (by omega)] at hm
      have hm2 : m ≤ 70368744177664 := by omega
      clear hm
      go_wp2_with (go_at_call 146; refine (Grow_nil _ _ (by omega)).mono ?_; rintro e w1 ⟨v1, rfl, hown1, hE1⟩)
      go_loopw [6, 27] (fun ns i wr => ∃ k : Nat, k ≤ bss.length ∧ i = .int .i64 k ∧ wr.ownsRow w.heap.size 5 1 ns (bss.take k).flatten.length ((bss.take k).flatten.map bv) ∧ Ext w wr) (fun _ i _ => bss.length - (intOf i).toNat)
      case atStart => exact ⟨0, Nat.zero_le _, rfl, hown1, hE1⟩
      case round =>
        obtain ⟨k, hk, rfl, hown, hE⟩ := hrel
        by_cases hlt : k < bss.length
        · obtain ⟨_, b, off, rfl, hc⟩ := SlR.at_ (SlR.ext hsl hE) (by omega)
          have hkv : k < vs.length := by omega
          have hck := hc k vs[k] (List.getElem?_eq_getElem hkv)
          have hbk := (hvs k hkv hlt).ext hE
          obtain ⟨A', c', hvk, h3, h4⟩ := SlR.open_ hbk
          rw [hvk] at hck hbk
          have hle := flat_take_le bss (k + 1)
          have hft := flat_take bss k hlt
          rw [hft, List.length_append] at hle
          have Hft := Lib.hid hft
          clear hc hvk hft
          go_wp2_with (at_builtin; refine wpList_append_sl _ rfl (.tmp 31) (.tmp 32) 23 rfl w.heap.size 5 i0 (.int .u8 0) 1 1 Tryz.underlying23 hi hz0 hz1 hz2 rfl (by decide) _ _ _ rfl hown _ bss[k].length (bss[k].map bv) rfl hbk (one_bv _) (by unfold maxLen; omega) (by omega) hE.size ?_; intro v' w1 hown' hgrow)
          go_roundw
          case rel =>
            refine ⟨k + 1, by omega, by go_num, ?_, Ext.grownOwn hE hown hgrow⟩
            rw [Hft.out]
            simpa using hown'
          case measure => simp [intOf]; omega
        · have hk' : bss.take k = bss := List.take_of_length_le (by omega)
          rw [hk'] at hown
          clear hk'
          go_wp2_with fail
          go_ret
          exact ⟨_, rfl, hown, hE⟩
end Go.Proofs.YtfjcnpigpkcfgaaGreat

namespace Go.Mv
open Go.RowKit
variable {P : Program}

theorem run_checkKey_int {K : TypeId} (w : World) (k : IntKind) (n : Int) (b : Bool) (hK : P.underlying K = some (.int k)) :
    (Instr.checkKey b 10000 K (.int k n)).run P w = .ok () w :=
  MapKept.run_checkKey (k := .int k n) hK (show k = k from rfl) b 9999

theorem run_findKey_now {K : TypeId} (w : World) (k : IntKind) (n : Int) (es : List MapEntry) (r : Option (Nat × Value)) (hK : P.underlying K = some (.int k))
    (hf : Instr.findNow (.int k) (.int k n) es 0 = some r) : (Instr.findKey K (.int k n) es).run P w = .ok r w := by
  simp [Instr.findKey, run_underlying hK, go_sem, hf]

theorem putObj_alloc (w : World) (o o' : Obj) : (w.alloc o).putObj w.heap.size o' = w.alloc o' := by
  have h : (w.heap.push o).setIfInBounds w.heap.size o' = w.heap.push o' := by
    apply Array.ext_getElem?
    intro i
    rw [Array.getElem?_setIfInBounds, Array.getElem?_push, Array.getElem?_push]
    split <;> rename_i h
    · subst h; simp
    · rw [if_neg (fun e => h e.symm), if_neg (fun e => h e.symm)]
  show ({ (w.alloc o) with heap := (w.heap.push o).setIfInBounds w.heap.size o' } : World) = { w with heap := w.heap.push o' }
  rw [h]
  rfl

theorem run_insert_new (w : World) {T K E : TypeId} (k : IntKind) (hT : P.underlying T = some (.map K E)) (hK : P.underlying K = some (.int k)) (es : Array MapEntry) (c : Nat) (n : Int) (v : Value)
    (hn : Instr.findNow (.int k) (.int k n) es.toList 0 = some none) :
    (Instr.mapUpdate T (.map (some w.heap.size)) (.int k n) v).run P (w.alloc (.map es c)) = .ok () (w.alloc (.map (es.push { key := .int k n, val := v, born := c }) (c + 1))) := by
  have hget : (getObj w.heap.size).run P (w.alloc (.map es c)) = .ok (.map es c) (w.alloc (.map es c)) := MapKept.run_getObj_map (World.alloc_heap_new _ _)
  have hset : ∀ o, (setObj w.heap.size o).run P (w.alloc (.map es c)) = .ok () ((w.alloc (.map es c)).putObj w.heap.size o) := fun o => MapKept.run_setObj_map o (World.alloc_heap_new _ _)
  unfold Instr.mapUpdate
  simp only [Sem.run_bind, run_underlying hT, Result.andThen_ok, hget, run_checkKey_int _ k n false hK, run_findKey_now _ k n es.toList none hK hn, hset, putObj_alloc]

theorem run_lookup_ok (w : World) {T K E : TypeId} (k : IntKind) (hT : P.underlying T = some (.map K E)) (hK : P.underlying K = some (.int k)) {r : Nat} (es : Array MapEntry) (c : Nat) (n : Int) (z : Value)
    (hz : (zeroValue E).run P w = .ok z w) (hr : w.heap[r]? = some (.map es c)) (f : Option (Nat × Value)) (hf : Instr.findNow (.int k) (.int k n) es.toList 0 = some f) :
    (Instr.lookup T (.map (some r)) (.int k n) true).run P w = .ok (.tuple #[(f.map (·.2)).getD z, .bool f.isSome]) w := by
  have hget : (getObj r).run P w = .ok (.map es c) w := MapKept.run_getObj_map hr
  unfold Instr.lookup
  cases f with
  | none => simp [Sem.run_bind, run_underlying hT, hget, run_checkKey_int _ k n _ hK, run_findKey_now _ k n es.toList none hK hf, hz, go_sem]
  | some p => simp [Sem.run_bind, run_underlying hT, hget, run_checkKey_int _ k n _ hK, run_findKey_now _ k n es.toList (some p) hK hf, go_sem]

theorem run_lookup_one (w : World) {T K E : TypeId} (k : IntKind) (hT : P.underlying T = some (.map K E)) (hK : P.underlying K = some (.int k)) {r : Nat} (es : Array MapEntry) (c : Nat) (n : Int) (z : Value)
    (hz : (zeroValue E).run P w = .ok z w) (hr : w.heap[r]? = some (.map es c)) (f : Option (Nat × Value)) (hf : Instr.findNow (.int k) (.int k n) es.toList 0 = some f) :
    (Instr.lookup T (.map (some r)) (.int k n) false).run P w = .ok ((f.map (·.2)).getD z) w := by
  have hget : (getObj r).run P w = .ok (.map es c) w := MapKept.run_getObj_map hr
  unfold Instr.lookup
  cases f with
  | none => simp [Sem.run_bind, run_underlying hT, hget, run_checkKey_int _ k n _ hK, run_findKey_now _ k n es.toList none hK hf, hz, go_sem]
  | some p => simp [Sem.run_bind, run_underlying hT, hget, run_checkKey_int _ k n _ hK, run_findKey_now _ k n es.toList (some p) hK hf, go_sem]
end Go.Mv
