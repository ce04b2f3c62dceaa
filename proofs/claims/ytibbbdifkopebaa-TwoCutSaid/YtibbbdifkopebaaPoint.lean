/-
  Points: what bits are a point's part; the walks of gauss.Right, moultref02.part, moultref02.Right.
-/
import Derived.Test.YtibbbdifkopebaaMod2
set_option linter.all false
namespace Go.Mv
open Go.RowKit

/-- A point's part, as a whole number. -/
def ptOf (x : Nat) : Option Nat :=
  match Ieee.double.read x with
  | .number s M i => if i ≤ 0 ∧ (s = false ∨ M = 0) ∧ M / 2 ^ (-i).toNat < 10007 ∧ M % 2 ^ (-i).toNat = 0 then some (M / 2 ^ (-i).toNat) else none
  | _ => none

theorem ptOf_fl {x n : Nat} (h : ptOf x = some n) : n < 10007 ∧ ∃ s, (s = true → n = 0) ∧ Fl x s n := by
  unfold ptOf at h
  split at h
  · rename_i s M i hr
    split at h
    · rename_i hc
      obtain ⟨h1, h2, h3, h4⟩ := hc
      cases h
      refine ⟨h3, s, ?_, M, i, hr, (-i).toNat, by omega, ?_⟩
      · intro hs; rcases h2 with h2 | h2
        · rw [h2] at hs; cases hs
        · rw [h2]; simp
      · have := Nat.div_add_mod M (2 ^ (-i).toNat); rw [h4, Nat.add_zero, Nat.mul_comm] at this; exact this.symm
    · cases h
  · cases h

theorem read_place (x : Nat) {s : Bool} {M : Nat} {i : Int} (h : Ieee.double.read x = .number s M i) : i ≤ 0 ∨ 4503599627370496 ≤ M := by
  have hlp : Ieee.double.leastPlace = -1074 := by decide
  have hbin : Ieee.double.binade = 4503599627370496 := by decide
  unfold Ieee.Format.read at h
  dsimp only at h
  rw [hlp, hbin] at h
  split at h
  · injection h with h1 h2 h3; left; omega
  · split at h
    · injection h with h1 h2 h3; right; omega
    · split at h <;> cases h

theorem cut_zero (s : Bool) (M b : Nat) : Ieee.Toward.zero.cut s M b = M / 2 ^ b := by
  unfold Ieee.Toward.cut
  dsimp only
  rw [Nat.shiftLeft_eq, Nat.one_mul]
  simp only [Bool.toNat_false, Nat.add_zero]
  rcases Nat.le_total b (M.log2 + 2) with h | h
  · rw [Nat.min_eq_left h]
  · rw [Nat.min_eq_right h]
    have h1 : M < 2 ^ (M.log2 + 1) := Nat.lt_log2_self
    have h2 : 2 ^ (M.log2 + 1) ≤ 2 ^ (M.log2 + 2) := Nat.pow_le_pow_right (by decide) (by omega)
    have h3 : 2 ^ (M.log2 + 2) ≤ 2 ^ b := Nat.pow_le_pow_right (by decide) h
    rw [Nat.div_eq_of_lt (by omega), Nat.div_eq_of_lt (by omega)]

theorem integral_zero (s : Bool) (M b : Nat) : (Ieee.Datum.number s M (-(b : Int))).integral .zero = .number s (M / 2 ^ b) 0 := by
  unfold Ieee.Datum.integral
  dsimp only
  rw [show (-(b : Int)).toNat = 0 from by omega, Nat.shiftLeft_zero, show (- -(b : Int)).toNat = b from by omega, cut_zero]

def ge0 (x : Nat) : Bool := FloatKind.f64.format.order x 0 == some .gt || FloatKind.f64.format.order x 0 == some .eq
def ltR (x : Nat) : Bool := FloatKind.f64.format.order x 4666727020758040576 == some .lt

theorem order_whole (x : Nat) (s t : Bool) (M b : Nat) (hr : Ieee.double.read x = .number s M (-(b : Int))) (hs : s = true → M = 0) (ht : t = true → M = 0) (hn : M / 2 ^ b < 10007) :
    (FloatKind.f64.format.order (fb t (M / 2 ^ b)) x == some .eq) = decide (M % 2 ^ b = 0) := by
  obtain ⟨c, hc⟩ := fl_lt (read_fb t (M / 2 ^ b) (by omega))
  show (Ieee.double.order _ _ == _) = _
  unfold Ieee.Format.order
  rw [hr, hc, order_num, cmp_eq]
  have e1 : sval s (M * 2 ^ c) = ((M * 2 ^ c : Nat) : Int) := by
    cases s
    · rfl
    · rw [hs rfl]; unfold sval; simp
  have e2 : sval t (M / 2 ^ b * 2 ^ c * 2 ^ b) = ((M / 2 ^ b * 2 ^ c * 2 ^ b : Nat) : Int) := by
    cases t
    · rfl
    · rw [ht rfl]; unfold sval; simp
  rw [e1, e2, Bool.eq_iff_iff, decide_eq_true_iff, decide_eq_true_iff]
  have h1 := Nat.div_add_mod M (2 ^ b)
  have hp := Nat.two_pow_pos c
  have e3 : M / 2 ^ b * 2 ^ c * 2 ^ b = (2 ^ b * (M / 2 ^ b)) * 2 ^ c := by
    rw [Nat.mul_right_comm, Nat.mul_comm (M / 2 ^ b)]
  rw [e3]
  constructor
  · intro h
    have h' : (2 ^ b * (M / 2 ^ b)) * 2 ^ c = M * 2 ^ c := by exact_mod_cast h
    have := Nat.eq_of_mul_eq_mul_right hp h'
    omega
  · intro h
    rw [h, Nat.add_zero] at h1
    rw [h1]

theorem right_case (x : Nat) : (ge0 x = false ∧ ptOf x = none) ∨ (ge0 x = true ∧ ltR x = false ∧ ptOf x = none) ∨
    (ge0 x = true ∧ ltR x = true ∧ ∃ s M b, Ieee.double.read x = .number s M (-((b : Nat) : Int)) ∧ (s = true → M = 0) ∧ M / 2 ^ b < 10007 ∧ ptOf x = if M % 2 ^ b = 0 then some (M / 2 ^ b) else none) := by
  have hz : Ieee.double.read 0 = .number false 0 (-((1074 : Nat) : Int)) := by
    obtain ⟨M, i, h, _⟩ := fl_zero
    have : Ieee.double.read 0 = .number false 0 (-1074) := by decide
    exact this
  have hR : Ieee.double.read 4666727020758040576 = .number false (10007 * 549755813888) (-((39 : Nat) : Int)) := by decide
  have hge : ge0 x = (((Ieee.double.read x).order (Ieee.double.read 0) == some .gt) || ((Ieee.double.read x).order (Ieee.double.read 0) == some .eq)) := rfl
  have hlt : ltR x = ((Ieee.double.read x).order (Ieee.double.read 4666727020758040576) == some .lt) := rfl
  rw [hz] at hge
  rw [hR] at hlt
  cases hr : Ieee.double.read x with
  | nan s t =>
    left
    rw [hr] at hge
    exact ⟨hge, by unfold ptOf; rw [hr]⟩
  | infinity s =>
    rw [hr] at hge hlt
    cases s
    · exact .inr (.inl ⟨hge, hlt, by unfold ptOf; rw [hr]⟩)
    · exact .inl ⟨hge, by unfold ptOf; rw [hr]⟩
  | number s M i =>
    by_cases hi : i ≤ 0
    · obtain ⟨b, rfl⟩ : ∃ b : Nat, i = -(b : Int) := ⟨(-i).toNat, by omega⟩
      have hpt : ptOf x = if (-(b : Int)) ≤ 0 ∧ (s = false ∨ M = 0) ∧ M / 2 ^ b < 10007 ∧ M % 2 ^ b = 0 then some (M / 2 ^ b) else none := by
        unfold ptOf; rw [hr]; simp only [Int.neg_neg, Int.toNat_natCast]
      rw [hr, order_num, cmp_gt, cmp_eq, Nat.zero_mul, show sval false 0 = 0 from rfl] at hge
      obtain ⟨q, hq⟩ : ∃ q, q = 1074 := ⟨_, rfl⟩
      rw [← hq] at hge
      clear hq hz
      rw [hr, order_num, cmp_lt] at hlt
      have hp := Nat.two_pow_pos q
      have hpb := Nat.two_pow_pos b
      by_cases hs : s = false ∨ M = 0
      · have hsv : ∀ p, sval s (M * p) = ((M * p : Nat) : Int) := by
          intro p
          rcases hs with rfl | rfl
          · rfl
          · unfold sval; split <;> simp
        rw [hsv] at hge hlt
        have hge' : ge0 x = true := by
          rw [hge]; simp only [Bool.or_eq_true, decide_eq_true_iff]
          have : 0 ≤ ((M * 2 ^ q : Nat) : Int) := Int.natCast_nonneg _
          omega
        have hlt' : ltR x = decide (M / 2 ^ b < 10007) := by
          rw [hlt, show sval false (10007 * 549755813888 * 2 ^ b) = ((10007 * 549755813888 * 2 ^ b : Nat) : Int) from rfl, Bool.eq_iff_iff, decide_eq_true_iff, decide_eq_true_iff, Int.ofNat_lt, Nat.div_lt_iff_lt_mul hpb, Nat.mul_right_comm, show (2 ^ 39 : Nat) = 549755813888 from rfl]
          omega
        by_cases hM : M / 2 ^ b < 10007
        · right; right
          refine ⟨hge', by rw [hlt']; simpa using hM, s, M, b, rfl, ?_, hM, ?_⟩
          · intro h; rcases hs with h' | h'
            · rw [h'] at h; cases h
            · exact h'
          · rw [hpt]
            by_cases hmod : M % 2 ^ b = 0
            · rw [if_pos ⟨by omega, hs, hM, hmod⟩, if_pos hmod]
            · rw [if_neg (fun h => hmod h.2.2.2), if_neg hmod]
        · right; left
          refine ⟨hge', by rw [hlt']; simpa using hM, ?_⟩
          rw [hpt, if_neg (fun h => hM h.2.2.1)]
      · left
        have hst : s = true := by
          cases s with
          | true => rfl
          | false => exact absurd (.inl rfl) hs
        have hM0 : M ≠ 0 := fun h => hs (.inr h)
        subst hst
        refine ⟨?_, by rw [hpt, if_neg (fun h => hs h.2.1)]⟩
        have : 0 < M * 2 ^ q := Nat.mul_pos (by omega) hp
        rw [hge]; unfold sval
        simp only [if_true, Bool.or_eq_false_iff, decide_eq_false_iff_not]
        omega
    · have hM : 4503599627370496 ≤ M := by rcases read_place x hr with h | h <;> omega
      have hpt : ptOf x = none := by unfold ptOf; rw [hr]; simp only []; rw [if_neg (fun h => hi h.1)]
      have hM1 : 0 < M := by omega
      cases s
      · right; left
        refine ⟨?_, ?_, hpt⟩
        · rw [hge, hr]
          unfold Ieee.Datum.order
          dsimp only
          rw [cmp_gt, cmp_eq, signed_eq, signed_eq, Nat.zero_mul, show sval false 0 = 0 from rfl, show ∀ n, sval false n = (n : Int) from fun _ => rfl]
          simp only [Bool.or_eq_true, decide_eq_true_iff]
          have := Int.natCast_nonneg (M * 2 ^ (i - min i (-((1074 : Nat) : Int))).toNat)
          generalize M * 2 ^ (i - min i (-((1074 : Nat) : Int))).toNat = p at *
          clear hge hlt
          omega
        · rw [hlt, hr]
          unfold Ieee.Datum.order
          dsimp only
          rw [cmp_lt, signed_eq, signed_eq, show ∀ n, sval false n = (n : Int) from fun _ => rfl, show ∀ n, sval false n = (n : Int) from fun _ => rfl, decide_eq_false_iff_not]
          have e1 : min i (-((39 : Nat) : Int)) = -39 := by omega
          rw [e1, show (-((39 : Nat) : Int) - -39).toNat = 0 from rfl]
          have h1 : 2 ^ 39 ≤ 2 ^ (i - -39).toNat := Nat.pow_le_pow_right (by decide) (by omega)
          have h2 : 4503599627370496 * 2 ^ 39 ≤ M * 2 ^ (i - -39).toNat := Nat.mul_le_mul hM h1
          omega
      · left
        refine ⟨?_, hpt⟩
        rw [hge, hr]
        unfold Ieee.Datum.order
        dsimp only
        rw [cmp_gt, cmp_eq, signed_eq, signed_eq, Nat.zero_mul, show sval false 0 = 0 from rfl, show ∀ n, sval true n = -(n : Int) from fun _ => rfl]
        have : 0 < M * 2 ^ (i - min i (-((1074 : Nat) : Int))).toNat := Nat.mul_pos hM1 (Nat.two_pow_pos _)
        simp only [Bool.or_eq_false_iff, decide_eq_false_iff_not]
        generalize M * 2 ^ (i - min i (-((1074 : Nat) : Int))).toNat = p at *
        clear hge hlt
        omega
end Go.Mv
