/-
  The walks of gauss.Next, moultref02.Next at points.
-/
import Derived.Test.YtibbbdifkopebaaRight
set_option linter.all false
namespace Go.Mv
open Go.RowKit

/-- The next point. -/
def nextP (p : Nat × Nat) (b : UInt8) : Nat × Nat := ((3 * p.1 + 50035 - 5 * p.2 + b.toNat + 1) % 10007, (5 * p.1 + 3 * p.2) % 10007)
/-- The value is that point. -/
def PtV (v : Value) (p : Nat × Nat) : Prop := ∃ a b, v = .complex .f64 a b ∧ ptOf a = some p.1 ∧ ptOf b = some p.2

theorem ptOf_of_fl {x n : Nat} {s : Bool} (h : Fl x s n) (hn : n < 10007) (hs : s = true → n = 0) : ptOf x = some n := by
  obtain ⟨b, hb⟩ := fl_lt h
  have hp := Nat.two_pow_pos b
  unfold ptOf
  rw [hb]
  simp only [Int.neg_neg, Int.toNat_natCast, Nat.mul_div_cancel _ hp, Nat.mul_mod_left]
  rw [if_pos]
  refine ⟨by omega, ?_, hn, by trivial⟩
  cases s
  · exact .inl rfl
  · right; rw [hs rfl]; simp
theorem ptOf_fb (s : Bool) (n : Nat) (hn : n < 10007) (hs : s = true → n = 0) : ptOf (fb s n) = some n := ptOf_of_fl (read_fb s n (by omega)) hn hs
theorem sval_pt {s : Bool} {n : Nat} (hs : s = true → n = 0) (k : Nat) : sval s (n * k) = ((n * k : Nat) : Int) := by
  cases s
  · rfl
  · rw [hs rfl]; unfold sval; simp
theorem sval_lit (z : Int) (h : Bool) : sval (if z = 0 then h else decide (z < 0)) z.natAbs = z := by
  unfold sval
  by_cases h0 : z = 0
  · subst h0; simp
  · rw [if_neg h0]
    by_cases h1 : z < 0
    · rw [decide_eq_true h1]; simp; omega
    · rw [decide_eq_false h1]; simp; omega

theorem nextBits {a b x y : Nat} (hx : x < 10007) (hy : y < 10007) {s t : Bool} (hs : s = true → x = 0) (ht : t = true → y = 0) (ha : Fl a s x) (hb : Fl b t y) (B : Nat) (hB : B < 256) :
    ∃ R I σ τ, cMulBits a b 4613937818241073152 4617315517961601024 = some (R, I) ∧
      cSumBits .add .f64 R I (fb false (B + 1)) 0 = some (fb σ ((3 : Int) * x - 5 * y + B + 1).natAbs, fb τ (5 * x + 3 * y)) ∧ sval σ ((3 : Int) * x - 5 * y + B + 1).natAbs = (3 : Int) * x - 5 * y + B + 1 ∧ sval τ (5 * x + 3 * y) = ((5 * x + 3 * y : Nat) : Int) := by
  have h3 : Fl 4613937818241073152 false 3 := by have := read_fb false 3 (by decide); rwa [show fb false 3 = 4613937818241073152 from by decide] at this
  have h5 : Fl 4617315517961601024 false 5 := by have := read_fb false 5 (by decide); rwa [show fb false 5 = 4617315517961601024 from by decide] at this
  have m1 := mul_exact ha h3 (by omega)
  have m2 := mul_exact hb h5 (by omega)
  have m3 := mul_exact ha h5 (by omega)
  have m4 := mul_exact hb h3 (by omega)
  rw [Bool.xor_false] at m1 m2 m3 m4
  have v1 := sval_pt hs 3
  have v2 := sval_pt ht 5
  have v3 := sval_pt hs 5
  have v4 := sval_pt ht 3
  have r1 := sub_exact (read_fb s (x * 3) (by omega)) (read_fb t (y * 5) (by omega)) (by rw [v1, v2]; omega)
  have i1 := sum_exact (read_fb s (x * 5) (by omega)) (read_fb t (y * 3) (by omega)) (by rw [v3, v4]; omega)
  rw [v1, v2] at r1
  rw [v3, v4] at i1
  have e1 : (((x * 3 : Nat) : Int) - ((y * 5 : Nat) : Int)) = 3 * (x : Int) - 5 * y := by omega
  have e2 : (((x * 5 : Nat) : Int) + ((y * 3 : Nat) : Int)) = ((5 * x + 3 * y : Nat) : Int) := by omega
  rw [e1] at r1
  rw [e2] at i1
  generalize hσ : (if (3 * (x : Int) - 5 * y) = 0 then s && !t else decide (3 * (x : Int) - 5 * y < 0)) = σ1 at r1
  generalize hτ : (if (((5 * x + 3 * y : Nat) : Int)) = 0 then s && t else decide (((5 * x + 3 * y : Nat) : Int) < 0)) = τ1 at i1
  have w1 : sval σ1 (3 * (x : Int) - 5 * y).natAbs = 3 * (x : Int) - 5 * y := by rw [← hσ]; exact sval_lit _ _
  have w2 : sval τ1 (((5 * x + 3 * y : Nat) : Int)).natAbs = ((5 * x + 3 * y : Nat) : Int) := by rw [← hτ]; exact sval_lit _ _
  have r2 := sum_exact (read_fb σ1 (3 * (x : Int) - 5 * y).natAbs (by omega)) (read_fb false (B + 1) (by omega)) (by rw [w1]; unfold sval; simp; omega)
  have i2 := sum_exact (read_fb τ1 (((5 * x + 3 * y : Nat) : Int)).natAbs (by omega)) fl_zero (by rw [w2]; unfold sval; simp; omega)
  rw [w1] at r2
  rw [w2] at i2
  have e3 : (3 * (x : Int) - 5 * y + sval false (B + 1)) = 3 * (x : Int) - 5 * y + B + 1 := by unfold sval; simp; omega
  have e4 : (((5 * x + 3 * y : Nat) : Int) + sval false 0) = ((5 * x + 3 * y : Nat) : Int) := by unfold sval; simp
  rw [e3] at r2
  rw [e4] at i2
  generalize hσ2 : (if (3 * (x : Int) - 5 * y + B + 1) = 0 then σ1 && false else decide (3 * (x : Int) - 5 * y + B + 1 < 0)) = σ2 at r2
  generalize hτ2 : (if (((5 * x + 3 * y : Nat) : Int)) = 0 then τ1 && false else decide (((5 * x + 3 * y : Nat) : Int) < 0)) = τ2 at i2
  have w3 : sval σ2 (3 * (x : Int) - 5 * y + B + 1).natAbs = 3 * (x : Int) - 5 * y + B + 1 := by rw [← hσ2]; exact sval_lit _ _
  have w4 : sval τ2 (((5 * x + 3 * y : Nat) : Int)).natAbs = ((5 * x + 3 * y : Nat) : Int) := by rw [← hτ2]; exact sval_lit _ _
  simp only [Int.natAbs_natCast] at i1 i2 w4
  refine ⟨fb σ1 (3 * (x : Int) - 5 * y).natAbs, fb τ1 (5 * x + 3 * y), σ2, τ2, ?_, ?_, w3, w4⟩
  · unfold cMulBits floatBits
    simp only [show FloatKind.f64.format = Ieee.double from rfl, m1, m2, m3, m4, r1, i1, Option.bind_some]
  · unfold cSumBits floatBits
    simp only [show FloatKind.f64.format = Ieee.double from rfl, r2, i2, Option.bind_some]
theorem tmod_twice (z : Int) (h1 : -100000 < z) (h2 : z < 100000) : (wrap64 (z.tmod 10007 + 10007)).tmod 10007 = z % 10007 := by
  have key : z.tmod 10007 = if 0 ≤ z then z % 10007 else -((-z) % 10007) := by
    split
    · rename_i h; exact Int.tmod_eq_emod_of_nonneg h
    · rename_i h
      have := Int.neg_tmod (a := -z) (b := 10007)
      rw [Int.neg_neg] at this
      rw [this, Int.tmod_eq_emod_of_nonneg (by omega)]
  have hw : wrap64 (z.tmod 10007 + 10007) = z.tmod 10007 + 10007 := by
    rw [key]; unfold wrap64; split <;> omega
  rw [hw, Int.tmod_eq_emod_of_nonneg (by rw [key]; split <;> omega), key]
  split <;> omega
end Go.Mv
namespace Go.Proofs.Ytibbbdifkopebaa
open Go.RowKit Go.Mv
set_option maxRecDepth 100000

def Next1P (s : Bool) (n : Nat) (w : World) (e : Ending) (w' : World) : Prop := ∃ r, e = .returned (.float .f64 r) ∧ ptOf r = some ((sval s n) % 10007).toNat ∧ w = w'

theorem Next1_any (s : Bool) (n : Nat) (hn : n < 131072) (w : World) : Calls Try.prog 68 #[.float .f64 (fb s n)] w (Next1P s n w) := by
  have hc : fb false 10007 = 4666727020758040576 := by decide
  have hlt : (FloatKind.f64.format.order (fb s (n % 10007)) 0 == some .lt) = decide (sval s (n % 10007) < 0) := by
    show (Ieee.double.order _ _ == _) = _
    rw [order_fl (read_fb s _ (by omega)) fl_zero, cmp_lt]; rfl
  have hM := Lib.hid (fun w => Mod_any s n hn w)
  by_cases h : s = true ∧ 0 < n % 10007
  · obtain ⟨rfl, h0⟩ := h
    have hs := sum_exact (read_fb true (n % 10007) (by omega)) (read_fb false 10007 (by decide)) (by unfold sval; simp; omega)
    have e : sval true (n % 10007) + sval false 10007 = ((10007 - n % 10007 : Nat) : Int) := by unfold sval; simp; omega
    rw [e, Int.natAbs_natCast, if_neg (by omega), hc, show decide (((10007 - n % 10007 : Nat) : Int) < 0) = false from by simp] at hs
    have ha := run_float_arith (P := Try.prog) w .add 22 .f64 (fb true (n % 10007)) 4666727020758040576 _ hs
    have ht : decide (sval true (n % 10007) < 0) = true := by unfold sval; simp; omega
    rw [ht] at hlt
    have hr : ptOf (fb false (10007 - n % 10007)) = some ((sval true n) % 10007).toNat := by
      rw [ptOf_fb false _ (by omega) (fun h => by cases h)]
      congr 1; unfold sval; simp only [if_true]; omega
    have Hr := Lib.hid hr
    clear hr hs e ht
    go_enter Try.func68, Try.ntmps68
    go_wp2_with (go_at_call 69; refine (hM.out _).mono ?_; rintro e w' ⟨rfl, rfl⟩)
    go_ret
    exact ⟨_, rfl, Hr.out, rfl⟩
  · have ht : decide (sval s (n % 10007) < 0) = false := by
      unfold sval; cases s
      · simp; omega
      · simp at h ⊢; omega
    rw [ht] at hlt
    have hr : ptOf (fb s (n % 10007)) = some ((sval s n) % 10007).toNat := by
      rw [ptOf_fb s _ (by omega) (fun hs => by by_cases h0 : 0 < n % 10007; exact absurd ⟨hs, h0⟩ h; omega)]
      congr 1; unfold sval; cases s
      · simp only [Bool.false_eq_true, if_false]; omega
      · simp only [if_true]; simp at h; omega
    have Hr := Lib.hid hr
    clear hr ht h
    go_enter Try.func68, Try.ntmps68
    go_wp2_with (go_at_call 69; refine (hM.out _).mono ?_; rintro e w' ⟨rfl, rfl⟩)
    go_ret
    exact ⟨_, rfl, Hr.out, rfl⟩

def NextP (p : Nat × Nat) (w : World) (e : Ending) (w' : World) : Prop := ∃ v, e = .returned v ∧ PtV v p ∧ w = w'

set_option maxHeartbeats 1000000 in
theorem Next_any (v : Value) (p : Nat × Nat) (hv : PtV v p) (c : UInt8) (w : World) : Calls Try.prog 51 #[v, .int .u8 c.toNat] w (NextP (nextP p c) w) := by
  obtain ⟨a, b, rfl, ha, hb⟩ := hv
  obtain ⟨x, y⟩ := p
  obtain ⟨hx, s, hs, hfa⟩ := ptOf_fl ha
  obtain ⟨hy, t, ht, hfb⟩ := ptOf_fl hb
  dsimp only at ha hb hx hy hs ht hfa hfb
  have hB := c.toNat_lt
  obtain ⟨R, I, σ, τ, hmul, hsum, hσ, hτ⟩ := nextBits hx hy hs ht hfa hfb c.toNat hB
  have k1 := run_complex_mul (P := Try.prog) w 30 _ _ _ _ _ _ hmul
  have k2 := run_complex_sum (P := Try.prog) w .add (.inl rfl) 30 .f64 _ _ _ _ _ _ hsum
  have ho := ofInt_nat c.toNat (by omega)
  have hone : Ieee.double.add (fb false c.toNat) 4607182418800017408 = some (fb false (c.toNat + 1)) := by
    have := sum_exact (read_fb false c.toNat (by omega)) (read_fb false 1 (by decide)) (by unfold sval; simp; omega)
    have e : sval false c.toNat + sval false 1 = ((c.toNat + 1 : Nat) : Int) := by unfold sval; simp
    rw [e, Int.natAbs_natCast, if_neg (by omega), show decide (((c.toNat + 1 : Nat) : Int) < 0) = false from by simp; omega, show fb false 1 = 4607182418800017408 from by decide] at this
    exact this
  have k3 := run_float_arith (P := Try.prog) w .add 22 .f64 (fb false c.toNat) 4607182418800017408 _ hone
  have hn1 : ((3 : Int) * x - 5 * y + c.toNat + 1).natAbs < 131072 := by omega
  have hn2 : 5 * x + 3 * y < 131072 := by omega
  have hR : Hid (((sval σ ((3 : Int) * x - 5 * y + c.toNat + 1).natAbs) % 10007).toNat = (nextP (x, y) c).1) := by
    show _ = _
    rw [hσ]; unfold nextP; simp only []; omega
  have hI : Hid (((sval τ (5 * x + 3 * y)) % 10007).toNat = (nextP (x, y) c).2) := by
    show _ = _
    rw [hτ]; unfold nextP; simp only []; omega
  clear hmul hsum hσ hτ hone hfa hfb hs ht
  generalize ((3 : Int) * x - 5 * y + c.toNat + 1).natAbs = n1 at *
  generalize 5 * x + 3 * y = n2 at *
  generalize c.toNat = B at *
  have hok : ((ptOf a).isSome && (ptOf b).isSome) = true := by rw [ha, hb]; rfl
  have hG := Lib.hid (fun w => Right_c a b w)
  rw [hok] at hG
  clear ha hb hok
  go_enter Try.func51, Try.ntmps51
  go_wp2_with (first
    | (go_at_call 49; refine (hG.out _).mono ?_; rintro e w' ⟨rfl, rfl⟩)
    | (go_at_call 68; refine (Next1_any _ _ (by assumption) _).mono ?_; rintro e w' ⟨r, rfl, hr, rfl⟩))
  go_ret
  refine ⟨_, rfl, ⟨_, _, rfl, ?_, ?_⟩, rfl⟩
  · rw [← hR.out]; assumption
  · rw [← hI.out]; assumption

theorem part_pt (x n : Nat) (h : ptOf x = some n) (w : World) : Calls Try.prog 40 #[.float .f64 x] w fun e w' => e = .returned (.tuple #[.int .i64 n, .bool true]) ∧ w = w' := by
  refine (part_any x w).mono ?_
  rintro e w' ⟨m, rfl, hn, rfl⟩
  exact ⟨by rw [hn n h, h]; rfl, rfl⟩

set_option maxHeartbeats 1000000 in
theorem refNext_any (v : Value) (p : Nat × Nat) (hv : PtV v p) (c : UInt8) (w : World) : Calls Try.prog 52 #[v, .int .u8 c.toNat] w (NextP (nextP p c) w) := by
  obtain ⟨a, b, rfl, ha, hb⟩ := hv
  obtain ⟨x, y⟩ := p
  obtain ⟨hx, s, hs, hfa⟩ := ptOf_fl ha
  obtain ⟨hy, t, ht, hfb⟩ := ptOf_fl hb
  dsimp only at ha hb hx hy
  have hB := c.toNat_lt
  have ho1 := Lib.hid (ofInt_nat (nextP (x, y) c).1 (by unfold nextP; simp only []; omega))
  have ho2 := Lib.hid (ofInt_nat (nextP (x, y) c).2 (by unfold nextP; simp only []; omega))
  clear hfa hfb hs ht
  go_enter Try.func52, Try.ntmps52
  go_wp2_with (go_at_call 40; refine (part_pt _ _ (by assumption) _).mono ?_; rintro e w' ⟨rfl, rfl⟩)
  go_ret
  have e1 : (wrap64 ((3 * (x : Int) - 5 * y + c.toNat + 1).tmod 10007 + 10007)).tmod 10007 = ((nextP (x, y) c).1 : Int) := by
    rw [tmod_twice _ (by omega) (by omega)]
    unfold nextP; simp only []; omega
  have e2 : ((5 * (x : Int) + 3 * y) % 10007) = ((nextP (x, y) c).2 : Int) := by unfold nextP; simp only []; omega
  refine ⟨.complex .f64 (fb false (nextP (x, y) c).1) (fb false (nextP (x, y) c).2), ?_, ⟨_, _, rfl, ptOf_fb _ _ ?_ ?_, ptOf_fb _ _ ?_ ?_⟩, rfl⟩
  · rw [← ho1.out, ← ho2.out, ← e1, ← e2]; rfl
  · unfold nextP; simp only []; omega
  · exact fun h => by cases h
  · unfold nextP; simp only []; omega
  · exact fun h => by cases h
end Go.Proofs.Ytibbbdifkopebaa
