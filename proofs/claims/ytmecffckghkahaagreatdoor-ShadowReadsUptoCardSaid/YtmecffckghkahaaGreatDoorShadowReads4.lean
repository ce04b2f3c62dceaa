/- Merged: Next Four Concat Maps Entry Entry2 -/
import Derived.Test.YtmecffckghkahaaGreatDoorShadowReads3
import Derived.RangeFuncRecord
import Derived.MapKept
import Derived.WalkKit
import Derived.Test.YtmecffckghkahaaGreatDoorRows
import Derived.WalkSpells
import Derived.WalkLawsBesides
import Derived.Deep.RegionHeld3
import Derived.Lib.Hide
set_option linter.all false
set_option maxHeartbeats 8000000
namespace Go.Mv
open Go.RowKit
def nextP (p : Nat × Nat) (b : UInt8) : Nat × Nat := ((3 * p.1 + 50035 - 5 * p.2 + b.toNat + 1) % 10007, (5 * p.1 + 3 * p.2) % 10007)
def PtV (v : Value) (p : Nat × Nat) : Prop := ∃ a b, v = .complex .f64 a b ∧ ptOf a = some p.1 ∧ ptOf b = some p.2
theorem ptOf_of_fl {x n : Nat} {s : Bool} (h : Fl x s n) (hn : n < 10007) (hs : s = true → n = 0) : ptOf x = some n := by
 obtain ⟨b, hb⟩ := fl_lt h
 have hp := Nat.two_pow_pos b
 unfold ptOf
 rw [hb]
 simp only [Int.neg_neg, Int.toNat_natCast, Nat.mul_div_cancel _ hp, Nat.mul_mod_left]
 rw [if_pos]
 refine ⟨by omega, ?_, hn, by trivial⟩
 cases s
 ·exact .inl rfl
 ·right; rw [hs rfl]; simp
theorem ptOf_fb (s : Bool) (n : Nat) (hn : n < 10007) (hs : s = true → n = 0) : ptOf (fb s n) = some n := ptOf_of_fl (read_fb s n (by omega)) hn hs
theorem sval_pt {s : Bool} {n : Nat} (hs : s = true → n = 0) (k : Nat) : sval s (n * k) = ((n * k : Nat) : Int) := by
 cases s
 ·rfl
 ·rw [hs rfl]; unfold sval; simp
theorem sval_lit (z : Int) (h : Bool) : sval (if z = 0 then h else decide (z < 0)) z.natAbs = z := by
 unfold sval
 by_cases h0 : z = 0
 ·subst h0; simp
 ·rw [if_neg h0]
  by_cases h1 : z < 0
  ·rw [decide_eq_true h1]; simp; omega
  ·rw [decide_eq_false h1]; simp; omega
theorem nextBits {a b x y : Nat} (hx : x < 10007) (hy : y < 10007) {s t : Bool} (hs : s = true → x = 0) (ht : t = true → y = 0) (ha : Fl a s x) (hb : Fl b t y) (B : Nat) (hB : B < 256) :
  ∃ R I σ τ, cMulBits a b 4613937818241073152 4617315517961601024 = some (R, I) ∧
   cSumBits .add .f64 R I (fb false (B + 1)) 0 = some (fb σ ((3 : Int) * x - 5 * y + B + 1).natAbs, fb τ (5 * x + 3 * y)) ∧ sval σ ((3 : Int) * x - 5 * y + B + 1).natAbs = (3 : Int) * x - 5 * y + B + 1 ∧ sval τ (5 * x + 3 * y) = ((5 * x + 3 * y : Nat) : Int) := by
 have h3 : Fl 4613937818241073152 false 3 := by have := read_fb false 3 (by decide); rwa [show fb false 3 = 4613937818241073152 from by decide] at this
 have h5 : Fl 4617315517961601024 false 5 := by have := read_fb false 5 (by decide); rwa [show fb false 5 = 4617315517961601024 from by decide] at this
 have m1 := mul_exact ha h3 (by omega)
 have m2 := mul_exact hb h5 (by omega)
 have m3 := mul_exact ha h5 (by omega)
 have m4 := mul_exact hb h3 (by omega)
 rw [Bool.xor_false] at m1 m2 m3 m4
 have v1 := sval_pt hs 3
 have v2 := sval_pt ht 5
 have v3 := sval_pt hs 5
 have v4 := sval_pt ht 3
 have r1 := sub_exact (read_fb s (x * 3) (by omega)) (read_fb t (y * 5) (by omega)) (by rw [v1, v2]; omega)
 have i1 := sum_exact (read_fb s (x * 5) (by omega)) (read_fb t (y * 3) (by omega)) (by rw [v3, v4]; omega)
 rw [v1, v2] at r1
 rw [v3, v4] at i1
 have e1 : (((x * 3 : Nat) : Int) - ((y * 5 : Nat) : Int)) = 3 * (x : Int) - 5 * y := by omega
 have e2 : (((x * 5 : Nat) : Int) + ((y * 3 : Nat) : Int)) = ((5 * x + 3 * y : Nat) : Int) := by omega
 rw [e1] at r1
 rw [e2] at i1
 generalize hσ : (if (3 * (x : Int) - 5 * y) = 0 then s && !t else decide (3 * (x : Int) - 5 * y < 0)) = σ1 at r1
 generalize hτ : (if (((5 * x + 3 * y : Nat) : Int)) = 0 then s && t else decide (((5 * x + 3 * y : Nat) : Int) < 0)) = τ1 at i1
 have w1 : sval σ1 (3 * (x : Int) - 5 * y).natAbs = 3 * (x : Int) - 5 * y := by rw [← hσ]; exact sval_lit _ _
 have w2 : sval τ1 (((5 * x + 3 * y : Nat) : Int)).natAbs = ((5 * x + 3 * y : Nat) : Int) := by rw [← hτ]; exact sval_lit _ _
 have r2 := sum_exact (read_fb σ1 (3 * (x : Int) - 5 * y).natAbs (by omega)) (read_fb false (B + 1) (by omega)) (by rw [w1]; unfold sval; simp; omega)
 have i2 := sum_exact (read_fb τ1 (((5 * x + 3 * y : Nat) : Int)).natAbs (by omega)) fl_zero (by rw [w2]; unfold sval; simp; omega)
 rw [w1] at r2
 rw [w2] at i2
 have e3 : (3 * (x : Int) - 5 * y + sval false (B + 1)) = 3 * (x : Int) - 5 * y + B + 1 := by unfold sval; simp; omega
 have e4 : (((5 * x + 3 * y : Nat) : Int) + sval false 0) = ((5 * x + 3 * y : Nat) : Int) := by unfold sval; simp
 rw [e3] at r2
 rw [e4] at i2
 generalize hσ2 : (if (3 * (x : Int) - 5 * y + B + 1) = 0 then σ1 && false else decide (3 * (x : Int) - 5 * y + B + 1 < 0)) = σ2 at r2
 generalize hτ2 : (if (((5 * x + 3 * y : Nat) : Int)) = 0 then τ1 && false else decide (((5 * x + 3 * y : Nat) : Int) < 0)) = τ2 at i2
 have w3 : sval σ2 (3 * (x : Int) - 5 * y + B + 1).natAbs = 3 * (x : Int) - 5 * y + B + 1 := by rw [← hσ2]; exact sval_lit _ _
 have w4 : sval τ2 (((5 * x + 3 * y : Nat) : Int)).natAbs = ((5 * x + 3 * y : Nat) : Int) := by rw [← hτ2]; exact sval_lit _ _
 simp only [Int.natAbs_natCast] at i1 i2 w4
 refine ⟨fb σ1 (3 * (x : Int) - 5 * y).natAbs, fb τ1 (5 * x + 3 * y), σ2, τ2, ?_, ?_, w3, w4⟩
 ·unfold cMulBits floatBits
  simp only [show FloatKind.f64.format = Ieee.double from rfl, m1, m2, m3, m4, r1, i1, Option.bind_some]
 ·unfold cSumBits floatBits
  simp only [show FloatKind.f64.format = Ieee.double from rfl, r2, i2, Option.bind_some]
theorem tmod_twice (z : Int) (h1 : -100000 < z) (h2 : z < 100000) : (wrap64 (z.tmod 10007 + 10007)).tmod 10007 = z % 10007 := by
 have key : z.tmod 10007 = if 0 ≤ z then z % 10007 else -((-z) % 10007) := by
  split
  ·rename_i h; exact Int.tmod_eq_emod_of_nonneg h
  ·rename_i h
   have := Int.neg_tmod (a := -z) (b := 10007)
   rw [Int.neg_neg] at this
   rw [this, Int.tmod_eq_emod_of_nonneg (by omega)]
 have hw : wrap64 (z.tmod 10007 + 10007) = z.tmod 10007 + 10007 := by
  rw [key]; unfold wrap64; split <;> omega
 rw [hw, Int.tmod_eq_emod_of_nonneg (by rw [key]; split <;> omega), key]
 split <;> omega
end Go.Mv
namespace Go.Proofs.YtmecffckghkahaaGreatDoor
open Go.RowKit Go.Mv
set_option maxRecDepth 100000
def Next1P (s : Bool) (n : Nat) (w : World) (e : Ending) (w' : World) : Prop := ∃ r, e = .returned (.float .f64 r) ∧ ptOf r = some ((sval s n) % 10007).toNat ∧ w = w'
theorem Next1_any (s : Bool) (n : Nat) (hn : n < 131072) (w : World) : Calls Tryz.prog 157 #[.float .f64 (fb s n)] w (Next1P s n w) := by
 have hc : fb false 10007 = 4666727020758040576 := by decide
 have hlt : (FloatKind.f64.format.order (fb s (n % 10007)) 0 == some .lt) = decide (sval s (n % 10007) < 0) := by
  show (Ieee.double.order _ _ == _) = _
  rw [order_fl (read_fb s _ (by omega)) fl_zero, cmp_lt]; rfl
 have hM := Lib.hid (fun w => Mod_any s n hn w)
 by_cases h : s = true ∧ 0 < n % 10007
 ·obtain ⟨rfl, h0⟩ := h
  have hs := sum_exact (read_fb true (n % 10007) (by omega)) (read_fb false 10007 (by decide)) (by unfold sval; simp; omega)
  have e : sval true (n % 10007) + sval false 10007 = ((10007 - n % 10007 : Nat) : Int) := by unfold sval; simp; omega
  rw [e, Int.natAbs_natCast, if_neg (by omega), hc, show decide (((10007 - n % 10007 : Nat) : Int) < 0) = false from by simp] at hs
  have ha := run_float_arith (P := Tryz.prog) w .add 183 .f64 (fb true (n % 10007)) 4666727020758040576 _ hs
  have ht : decide (sval true (n % 10007) < 0) = true := by unfold sval; simp; omega
  rw [ht] at hlt
  have hr : ptOf (fb false (10007 - n % 10007)) = some ((sval true n) % 10007).toNat := by
   rw [ptOf_fb false _ (by omega) (fun h => by cases h)]
   congr 1; unfold sval; simp only [if_true]; omega
  have Hr := Lib.hid hr
  clear hr hs e ht
  go_enter Tryz.func157, Tryz.ntmps157
  go_wp2_with (go_at_call 158; refine (hM.out _).mono ?_; rintro e w' ⟨rfl, rfl⟩)
  go_ret
  exact ⟨_, rfl, Hr.out, rfl⟩
 ·have ht : decide (sval s (n % 10007) < 0) = false := by
   unfold sval; cases s
   ·simp; omega
   ·simp at h ⊢; omega
  rw [ht] at hlt
  have hr : ptOf (fb s (n % 10007)) = some ((sval s n) % 10007).toNat := by
   rw [ptOf_fb s _ (by omega) (fun hs => by by_cases h0 : 0 < n % 10007; exact absurd ⟨hs, h0⟩ h; omega)]
   congr 1; unfold sval; cases s
   ·simp only [Bool.false_eq_true, if_false]; omega
   ·simp only [if_true]; simp at h; omega
  have Hr := Lib.hid hr
  clear hr ht h
  go_enter Tryz.func157, Tryz.ntmps157
  go_wp2_with (go_at_call 158; refine (hM.out _).mono ?_; rintro e w' ⟨rfl, rfl⟩)
  go_ret
  exact ⟨_, rfl, Hr.out, rfl⟩
def NextP (p : Nat × Nat) (w : World) (e : Ending) (w' : World) : Prop := ∃ v, e = .returned v ∧ PtV v p ∧ w = w'
theorem Next_any (v : Value) (p : Nat × Nat) (hv : PtV v p) (c : UInt8) (w : World) : Calls Tryz.prog 152 #[v, .int .u8 c.toNat] w (NextP (nextP p c) w) := by
 obtain ⟨a, b, rfl, ha, hb⟩ := hv
 obtain ⟨x, y⟩ := p
 obtain ⟨hx, s, hs, hfa⟩ := ptOf_fl ha
 obtain ⟨hy, t, ht, hfb⟩ := ptOf_fl hb
 dsimp only at ha hb hx hy hs ht hfa hfb
 have hB := c.toNat_lt
 obtain ⟨R, I, σ, τ, hmul, hsum, hσ, hτ⟩ := nextBits hx hy hs ht hfa hfb c.toNat hB
 have k1 := run_complex_mul (P := Tryz.prog) w 162 _ _ _ _ _ _ hmul
 have k2 := run_complex_sum (P := Tryz.prog) w .add (.inl rfl) 162 .f64 _ _ _ _ _ _ hsum
 have ho := ofInt_nat c.toNat (by omega)
 have hone : Ieee.double.add (fb false c.toNat) 4607182418800017408 = some (fb false (c.toNat + 1)) := by
  have := sum_exact (read_fb false c.toNat (by omega)) (read_fb false 1 (by decide)) (by unfold sval; simp; omega)
  have e : sval false c.toNat + sval false 1 = ((c.toNat + 1 : Nat) : Int) := by unfold sval; simp
  rw [e, Int.natAbs_natCast, if_neg (by omega), show decide (((c.toNat + 1 : Nat) : Int) < 0) = false from by simp; omega, show fb false 1 = 4607182418800017408 from by decide] at this
  exact this
 have k3 := run_float_arith (P := Tryz.prog) w .add 183 .f64 (fb false c.toNat) 4607182418800017408 _ hone
 have hn1 : ((3 : Int) * x - 5 * y + c.toNat + 1).natAbs < 131072 := by omega
 have hn2 : 5 * x + 3 * y < 131072 := by omega
 have hR : Hid (((sval σ ((3 : Int) * x - 5 * y + c.toNat + 1).natAbs) % 10007).toNat = (nextP (x, y) c).1) := by
  show _ = _
  rw [hσ]; unfold nextP; simp only []; omega
 have hI : Hid (((sval τ (5 * x + 3 * y)) % 10007).toNat = (nextP (x, y) c).2) := by
  show _ = _
  rw [hτ]; unfold nextP; simp only []; omega
 clear hmul hsum hσ hτ hone hfa hfb hs ht
 generalize ((3 : Int) * x - 5 * y + c.toNat + 1).natAbs = n1 at *
 generalize 5 * x + 3 * y = n2 at *
 generalize c.toNat = B at *
 have hok : ((ptOf a).isSome && (ptOf b).isSome) = true := by rw [ha, hb]; rfl
 have hG := Lib.hid (fun w => Right_c a b w)
 rw [hok] at hG
 clear ha hb hok
 go_enter Tryz.func152, Tryz.ntmps152
 go_wp2_with (first
  | (go_at_call 150; refine (hG.out _).mono ?_; rintro e w' ⟨rfl, rfl⟩)
  | (go_at_call 157; refine (Next1_any _ _ (by assumption) _).mono ?_; rintro e w' ⟨r, rfl, hr, rfl⟩))
 go_ret
 refine ⟨_, rfl, ⟨_, _, rfl, ?_, ?_⟩, rfl⟩
 ·rw [← hR.out]; assumption
 ·rw [← hI.out]; assumption
theorem part_pt (x n : Nat) (h : ptOf x = some n) (w : World) : Calls Tryz.prog 120 #[.float .f64 x] w fun e w' => e = .returned (.tuple #[.int .i64 n, .bool true]) ∧ w = w' := by
 refine (part_any x w).mono ?_
 rintro e w' ⟨m, rfl, hn, rfl⟩
 exact ⟨by rw [hn n h, h]; rfl, rfl⟩
theorem refNext_any (v : Value) (p : Nat × Nat) (hv : PtV v p) (c : UInt8) (w : World) : Calls Tryz.prog 119 #[v, .int .u8 c.toNat] w (NextP (nextP p c) w) := by
 obtain ⟨a, b, rfl, ha, hb⟩ := hv
 obtain ⟨x, y⟩ := p
 obtain ⟨hx, s, hs, hfa⟩ := ptOf_fl ha
 obtain ⟨hy, t, ht, hfb⟩ := ptOf_fl hb
 dsimp only at ha hb hx hy
 have hB := c.toNat_lt
 have ho1 := Lib.hid (ofInt_nat (nextP (x, y) c).1 (by unfold nextP; simp only []; omega))
 have ho2 := Lib.hid (ofInt_nat (nextP (x, y) c).2 (by unfold nextP; simp only []; omega))
 clear hfa hfb hs ht
 go_enter Tryz.func119, Tryz.ntmps119
 go_wp2_with (go_at_call 120; refine (part_pt _ _ (by assumption) _).mono ?_; rintro e w' ⟨rfl, rfl⟩)
 go_ret
 have e1 : (wrap64 ((3 * (x : Int) - 5 * y + c.toNat + 1).tmod 10007 + 10007)).tmod 10007 = ((nextP (x, y) c).1 : Int) := by
  rw [tmod_twice _ (by omega) (by omega)]
  unfold nextP; simp only []; omega
 have e2 : ((5 * (x : Int) + 3 * y) % 10007) = ((nextP (x, y) c).2 : Int) := by unfold nextP; simp only []; omega
 refine ⟨.complex .f64 (fb false (nextP (x, y) c).1) (fb false (nextP (x, y) c).2), ?_, ⟨_, _, rfl, ptOf_fb _ _ ?_ ?_, ptOf_fb _ _ ?_ ?_⟩, rfl⟩
 ·rw [← ho1.out, ← ho2.out, ← e1, ← e2]; rfl
 ·unfold nextP; simp only []; omega
 ·exact fun h => by cases h
 ·unfold nextP; simp only []; omega
 ·exact fun h => by cases h
end Go.Proofs.YtmecffckghkahaaGreatDoor

namespace Go.Mv
open Go.RowKit
theorem f2i_pt {a x : Nat} (h : ptOf a = some x) : floatToIntVal .f64 a .i64 = some (x : Int) := by
 obtain ⟨hx, s, hs, hf⟩ := ptOf_fl h
 obtain ⟨b, hb⟩ := fl_lt hf
 unfold floatToIntVal FloatKind.decode
 rw [show FloatKind.f64.format = Ieee.double from rfl, hb]
 unfold Ieee.Datum.toInt
 rw [integral_zero, Nat.mul_div_cancel _ (Nat.two_pow_pos b)]
 have e : Ieee.signed s x 0 = (x : Int) := by
  rw [signed_eq, Nat.pow_zero, Nat.mul_one]
  cases s
  ·rfl
  ·rw [hs rfl]; unfold sval; simp
 dsimp only
 rw [e]
 have : IntKind.i64.min ≤ (x : Int) ∧ (x : Int) ≤ IntKind.i64.max := by
  rw [show IntKind.i64.min = -9223372036854775808 from rfl, show IntKind.i64.max = 9223372036854775807 from rfl]; omega
 simp only [this, and_self, if_true]
def fourB (p : Nat × Nat) : List UInt8 := [UInt8.ofNat (p.1 / 256), UInt8.ofNat p.1, UInt8.ofNat (p.2 / 256), UInt8.ofNat p.2]
def ptV (v : Value) : Nat × Nat :=
 match v with
 | .complex .f64 a b => match ptOf a, ptOf b with
  | some x, some y => (x, y)
  | _, _ => (0, 0)
 | _ => (0, 0)
end Go.Mv
namespace Go.Proofs.YtmecffckghkahaaGreatDoor
open Go.RowKit Go.Mv
set_option maxRecDepth 100000
def FourP (v : Value) (w : World) (e : Ending) (w' : World) : Prop := e = .returned (.agg ((fourB (ptV v)).map bv).toArray) ∧ Ext w w'
theorem four_pt {a b x y : Nat} (ha : ptOf a = some x) (hb : ptOf b = some y) : (fourB (ptV (.complex .f64 a b))).map bv = [.int .u8 ((x : Int) / 256), .int .u8 ((x : Int) % 256), .int .u8 ((y : Int) / 256), .int .u8 ((y : Int) % 256)] := by
 have hx := (ptOf_fl ha).1
 have hy := (ptOf_fl hb).1
 have e : ptV (.complex .f64 a b) = (x, y) := by unfold ptV; simp only [ha, hb]
 rw [e]
 simp [fourB, bv]
 omega
theorem four_no {a b : Nat} (h : ((ptOf a).isSome && (ptOf b).isSome) = false) : (fourB (ptV (.complex .f64 a b))).map bv = [.int .u8 0, .int .u8 0, .int .u8 0, .int .u8 0] := by
 have e : ptV (.complex .f64 a b) = (0, 0) := by
  unfold ptV
  cases ha : ptOf a <;> cases hb : ptOf b <;> simp_all
 rw [e]
 simp [fourB, bv]
theorem Four_any (a b : Nat) (w : World) : Calls Tryz.prog 145 #[.complex .f64 a b] w (FourP (.complex .f64 a b) w) := by
 have hG := Lib.hid (fun w => Right_c a b w)
 cases hok : ((ptOf a).isSome && (ptOf b).isSome)
 ·have hf := four_no hok
  unfold FourP
  rw [hf]
  rw [hok] at hG
  clear hok hf
  go_enter Tryz.func145, Tryz.ntmps145
  go_wp2_with (go_at_call 150; refine (hG.out _).mono ?_; rintro e w' ⟨rfl, rfl⟩)
  refine bodyPost_ret (results_cell_row rfl _ _ _ 111 _ _ _ rfl (heap_alloc_new _ _) Tryz.underlying111 rfl (by kernel_rfl)) rfl ⟨rfl, Ext.alloc (Ext.refl _) _⟩
 ·obtain ⟨x, ha⟩ : ∃ x, ptOf a = some x := by cases h : ptOf a <;> simp_all
  obtain ⟨y, hb⟩ : ∃ y, ptOf b = some y := by cases h : ptOf b <;> simp_all
  have hf := four_pt ha hb
  have hx := (ptOf_fl ha).1
  have hy := (ptOf_fl hb).1
  unfold FourP
  rw [hf]
  rw [hok] at hG
  have i1 := fun w => run_convert_float_int (P := Tryz.prog) w 183 3 .f64 .i64 a _ (by kernel_rfl) Tryz.underlying3 (f2i_pt ha)
  have i2 := fun w => run_convert_float_int (P := Tryz.prog) w 183 3 .f64 .i64 b _ (by kernel_rfl) Tryz.underlying3 (f2i_pt hb)
  clear hok ha hb hf
  go_enter Tryz.func145, Tryz.ntmps145
  go_wp2_with (go_at_call 150; refine (hG.out _).mono ?_; rintro e w' ⟨rfl, rfl⟩)
  refine bodyPost_ret (results_cell_row rfl _ _ _ 111 _ _ _ rfl (heap_alloc_new _ _) Tryz.underlying111 rfl (by kernel_rfl)) rfl ⟨rfl, Ext.alloc (Ext.refl _) _⟩
theorem refFour_any (a b : Nat) (w : World) : Calls Tryz.prog 97 #[.complex .f64 a b] w (FourP (.complex .f64 a b) w) := by
 by_cases hok : ((ptOf a).isSome && (ptOf b).isSome) = true
 ·obtain ⟨x, ha⟩ : ∃ x, ptOf a = some x := by cases h : ptOf a <;> simp_all
  obtain ⟨y, hb⟩ : ∃ y, ptOf b = some y := by cases h : ptOf b <;> simp_all
  have hf := four_pt ha hb
  have hx := (ptOf_fl ha).1
  have hy := (ptOf_fl hb).1
  unfold FourP
  rw [hf]
  clear hok hf
  go_enter Tryz.func97, Tryz.ntmps97
  go_wp2_with (go_at_call 120; refine (part_pt _ _ (by assumption) _).mono ?_; rintro e w' ⟨rfl, rfl⟩)
  refine bodyPost_ret (results_cell_row rfl _ _ _ 111 _ _ _ rfl (heap_alloc_new _ _) Tryz.underlying111 rfl (by kernel_rfl)) rfl ⟨rfl, Ext.alloc (Ext.refl _) _⟩
 ·have hok2 : ((ptOf a).isSome && (ptOf b).isSome) = false := by simpa using hok
  have hf := four_no hok2
  unfold FourP
  rw [hf]
  clear hf hok
  cases ha : (ptOf a).isSome
  ·go_enter Tryz.func97, Tryz.ntmps97
   go_wp2_with (go_at_call 120; refine (part_any _ _).mono ?_; rintro e w' ⟨n, rfl, _, rfl⟩)
   refine bodyPost_ret (results_cell_row rfl _ _ _ 111 _ _ _ rfl (heap_alloc_new _ _) Tryz.underlying111 rfl (by kernel_rfl)) rfl ⟨rfl, Ext.alloc (Ext.refl _) _⟩
  ·rw [ha, Bool.true_and] at hok2
   go_enter Tryz.func97, Tryz.ntmps97
   go_wp2_with (go_at_call 120; refine (part_any _ _).mono ?_; rintro e w' ⟨n, rfl, _, rfl⟩)
   refine bodyPost_ret (results_cell_row rfl _ _ _ 111 _ _ _ rfl (heap_alloc_new _ _) Tryz.underlying111 rfl (by kernel_rfl)) rfl ⟨rfl, Ext.alloc (Ext.refl _) _⟩
open Go.RowKit Go.Mv
theorem bytesEqual_any (va vb : Value) (a b : List UInt8) (w : World) (ha : Bs w va a) (hb : Bs w vb b) :
  Calls Tryz.prog 35 #[va, vb] w fun e w' => e = .returned (.bool (decide (a = b))) ∧ w = w' := by
 obtain ⟨A, ca, rfl, h1, h2⟩ := SlR.open_ ha
 obtain ⟨B, cb, rfl, h3, h4⟩ := SlR.open_ hb
 have hca := run_convert_sl (P := Tryz.prog) w 43 9 5 Tryz.underlying43 Tryz.underlying5 Tryz.underlying9 ha
 have hcb := run_convert_sl (P := Tryz.prog) w 43 9 5 Tryz.underlying43 Tryz.underlying5 Tryz.underlying9 hb
 go_enter Tryz.func35, Tryz.ntmps35
 go_wp2
 go_ret
 exact ⟨ret_bool (by rw [Bool.eq_iff_iff]; simp), rfl⟩
def Parts (w : World) (v : Value) (bss : List (List UInt8)) : Prop := ∃ vs : List Value, vs.length = bss.length ∧ SlR w 1 v bss.length vs ∧ ∀ i (h : i < vs.length) (h' : i < bss.length), Bs w vs[i] bss[i]
theorem flat_take (bss : List (List UInt8)) (k : Nat) (h : k < bss.length) : (bss.take (k + 1)).flatten = (bss.take k).flatten ++ bss[k] := by
 rw [List.take_succ_eq_append_getElem h, List.flatten_append, List.flatten_cons, List.flatten_nil, List.append_nil]
theorem flat_take_le (bss : List (List UInt8)) (k : Nat) : (bss.take k).flatten.length ≤ bss.flatten.length := by
 conv => rhs; rw [← List.take_append_drop k bss, List.flatten_append]
 simp
set_option maxRecDepth 100000 in
theorem Concat_any (v : Value) (bss : List (List UInt8)) (w : World) (h : Parts w v bss) (hl : bss.flatten.length ≤ 70368744177664) :
  Calls Tryz.prog 108 #[v] w (CloneP w bss.flatten) := by
 obtain ⟨vs, hvl, hsl, hvs⟩ := h
 obtain ⟨A, c, rfl, h1, h2⟩ := SlR.open_ hsl
 obtain ⟨i0, hi, hz0, hz1, hz2⟩ := info_parts info_u8
 have Hvl := Lib.hid hvl
 have hv1 : vs.length ≤ bss.length := by omega
 have hv2 : bss.length ≤ vs.length := by omega
 clear hvl
 go_enter Tryz.func108, Tryz.ntmps108
 go_wp2_with fail
 go_loop [3, 11] (fun sz i => ∃ k m : Nat, k ≤ bss.length ∧ i = .int .i64 k ∧ sz = .int .i64 m ∧ Hid (m = (bss.take k).flatten.length)) (fun _ i => bss.length - (intOf i).toNat)
 case atStart => exact ⟨0, 0, Nat.zero_le _, rfl, rfl, rfl⟩
 case round =>
  obtain ⟨k, m, hk, rfl, rfl, Hm⟩ := hrel
  by_cases hlt : k < bss.length
  ·obtain ⟨_, b, off, rfl, hc⟩ := SlR.at_ hsl (by omega)
   have hkv : k < vs.length := by omega
   have hck := hc k vs[k] (List.getElem?_eq_getElem hkv)
   obtain ⟨A', c', hvk, h3, h4⟩ := SlR.open_ (hvs k hkv hlt)
   rw [hvk] at hck
   have hle := flat_take_le bss (k + 1)
   have hft := flat_take bss k hlt
   rw [hft, List.length_append, ← Hm.out] at hle
   have Hft := Lib.hid hft
   generalize hq : bss.flatten.length = q at hle hl
   clear hc hvk hft hq
   go_wp2_with fail
   go_round
   case rel => exact ⟨k + 1, m + bss[k].length, by omega, by go_num, by go_num, by show _ = _; rw [Hft.out, List.length_append, ← Hm.out]⟩
   case measure => simp [intOf]; omega
  ·have hm := Hm.out
   rw [List.take_of_length_le (by omega)] at hm
   have hm2 : m ≤ 70368744177664 := by omega
   clear hm
   go_wp2_with (go_at_call 132; refine (Grow_nil _ _ (by omega)).mono ?_; rintro e w1 ⟨v1, rfl, hown1, hE1⟩)
   go_loopw [6, 27] (fun ns i wr => ∃ k : Nat, k ≤ bss.length ∧ i = .int .i64 k ∧ wr.ownsRow w.heap.size 5 1 ns (bss.take k).flatten.length ((bss.take k).flatten.map bv) ∧ Ext w wr) (fun _ i _ => bss.length - (intOf i).toNat)
   case atStart => exact ⟨0, Nat.zero_le _, rfl, hown1, hE1⟩
   case round =>
    obtain ⟨k, hk, rfl, hown, hE⟩ := hrel
    by_cases hlt : k < bss.length
    ·obtain ⟨_, b, off, rfl, hc⟩ := SlR.at_ (SlR.ext hsl hE) (by omega)
     have hkv : k < vs.length := by omega
     have hck := hc k vs[k] (List.getElem?_eq_getElem hkv)
     have hbk := (hvs k hkv hlt).ext hE
     obtain ⟨A', c', hvk, h3, h4⟩ := SlR.open_ hbk
     rw [hvk] at hck hbk
     have hle := flat_take_le bss (k + 1)
     have hft := flat_take bss k hlt
     rw [hft, List.length_append] at hle
     have Hft := Lib.hid hft
     clear hc hvk hft
     go_wp2_with (at_builtin; refine wpList_append_sl _ rfl (.tmp 31) (.tmp 32) 43 rfl w.heap.size 5 i0 (.int .u8 0) 1 1 Tryz.underlying43 hi hz0 hz1 hz2 rfl (by decide) _ _ _ rfl hown _ bss[k].length (bss[k].map bv) rfl hbk (one_bv _) (by unfold maxLen; omega) (by omega) hE.size ?_; intro v' w1 hown' hgrow)
     go_roundw
     case rel =>
      refine ⟨k + 1, by omega, by go_num, ?_, Ext.grownOwn hE hown hgrow⟩
      rw [Hft.out]
      simpa using hown'
     case measure => simp [intOf]; omega
    ·have hk' : bss.take k = bss := List.take_of_length_le (by omega)
     rw [hk'] at hown
     clear hk'
     go_wp2_with fail
     go_ret
     exact ⟨_, rfl, hown, hE⟩
end Go.Proofs.YtmecffckghkahaaGreatDoor

namespace Go.Mv
open Go.RowKit
variable {P : Program}
theorem run_checkKey_int {K : TypeId} (w : World) (k : IntKind) (n : Int) (b : Bool) (hK : P.underlying K = some (.int k)) :
  (Instr.checkKey b 10000 K (.int k n)).run P w = .ok () w :=
 MapKept.run_checkKey (k := .int k n) hK (show k = k from rfl) b 9999
theorem run_findKey_now {K : TypeId} (w : World) (k : IntKind) (n : Int) (es : List MapEntry) (r : Option (Nat × Value)) (hK : P.underlying K = some (.int k))
  (hf : Instr.findNow (.int k) (.int k n) es 0 = some r) : (Instr.findKey K (.int k n) es).run P w = .ok r w := by
 simp [Instr.findKey, run_underlying hK, go_sem, hf]
theorem putObj_alloc (w : World) (o o' : Obj) : (w.alloc o).putObj w.heap.size o' = w.alloc o' := by
 have h : (w.heap.push o).setIfInBounds w.heap.size o' = w.heap.push o' := by
  apply Array.ext_getElem?
  intro i
  rw [Array.getElem?_setIfInBounds, Array.getElem?_push, Array.getElem?_push]
  split <;> rename_i h
  ·subst h; simp
  ·rw [if_neg (fun e => h e.symm), if_neg (fun e => h e.symm)]
 show ({ (w.alloc o) with heap := (w.heap.push o).setIfInBounds w.heap.size o' } : World) = { w with heap := w.heap.push o' }
 rw [h]
 rfl
theorem run_insert_new (w : World) {T K E : TypeId} (k : IntKind) (hT : P.underlying T = some (.map K E)) (hK : P.underlying K = some (.int k)) (es : Array MapEntry) (c : Nat) (n : Int) (v : Value)
  (hn : Instr.findNow (.int k) (.int k n) es.toList 0 = some none) :
  (Instr.mapUpdate T (.map (some w.heap.size)) (.int k n) v).run P (w.alloc (.map es c)) = .ok () (w.alloc (.map (es.push { key := .int k n, val := v, born := c }) (c + 1))) := by
 have hget : (getObj w.heap.size).run P (w.alloc (.map es c)) = .ok (.map es c) (w.alloc (.map es c)) := MapKept.run_getObj_map (World.alloc_heap_new _ _)
 have hset : ∀ o, (setObj w.heap.size o).run P (w.alloc (.map es c)) = .ok () ((w.alloc (.map es c)).putObj w.heap.size o) := fun o => MapKept.run_setObj_map o (World.alloc_heap_new _ _)
 unfold Instr.mapUpdate
 simp only [Sem.run_bind, run_underlying hT, Result.andThen_ok, hget, run_checkKey_int _ k n false hK, run_findKey_now _ k n es.toList none hK hn, hset, putObj_alloc]
theorem run_lookup_ok (w : World) {T K E : TypeId} (k : IntKind) (hT : P.underlying T = some (.map K E)) (hK : P.underlying K = some (.int k)) {r : Nat} (es : Array MapEntry) (c : Nat) (n : Int) (z : Value)
  (hz : (zeroValue E).run P w = .ok z w) (hr : w.heap[r]? = some (.map es c)) (f : Option (Nat × Value)) (hf : Instr.findNow (.int k) (.int k n) es.toList 0 = some f) :
  (Instr.lookup T (.map (some r)) (.int k n) true).run P w = .ok (.tuple #[(f.map (·.2)).getD z, .bool f.isSome]) w := by
 have hget : (getObj r).run P w = .ok (.map es c) w := MapKept.run_getObj_map hr
 unfold Instr.lookup
 cases f with
 | none => simp [Sem.run_bind, run_underlying hT, hget, run_checkKey_int _ k n _ hK, run_findKey_now _ k n es.toList none hK hf, hz, go_sem]
 | some p => simp [Sem.run_bind, run_underlying hT, hget, run_checkKey_int _ k n _ hK, run_findKey_now _ k n es.toList (some p) hK hf, go_sem]
theorem run_lookup_one (w : World) {T K E : TypeId} (k : IntKind) (hT : P.underlying T = some (.map K E)) (hK : P.underlying K = some (.int k)) {r : Nat} (es : Array MapEntry) (c : Nat) (n : Int) (z : Value)
  (hz : (zeroValue E).run P w = .ok z w) (hr : w.heap[r]? = some (.map es c)) (f : Option (Nat × Value)) (hf : Instr.findNow (.int k) (.int k n) es.toList 0 = some f) :
  (Instr.lookup T (.map (some r)) (.int k n) false).run P w = .ok ((f.map (·.2)).getD z) w := by
 have hget : (getObj r).run P w = .ok (.map es c) w := MapKept.run_getObj_map hr
 unfold Instr.lookup
 cases f with
 | none => simp [Sem.run_bind, run_underlying hT, hget, run_checkKey_int _ k n _ hK, run_findKey_now _ k n es.toList none hK hf, hz, go_sem]
 | some p => simp [Sem.run_bind, run_underlying hT, hget, run_checkKey_int _ k n _ hK, run_findKey_now _ k n es.toList (some p) hK hf, go_sem]
end Go.Mv

namespace Go.Proofs.YtmecffckghkahaaGreatDoor
open Go.RowKit Go.Mv
def numB (n : Int) : Bool := decide (0 ≤ n ∧ n ≤ 1073741824)
theorem refnumber_any (n : Int) (w : World) :
  Calls Tryz.prog 65 #[.int .i64 n] w fun e w' => e = .returned (.bool (numB n)) ∧ w = w' := by
 by_cases h0 : 0 ≤ n
 ·by_cases h1 : n ≤ 1073741824
  ·go_enter Tryz.func65, Tryz.ntmps65
   go_wp2
   go_ret
   exact ⟨by simp [numB, h0, h1], rfl⟩
  ·go_enter Tryz.func65, Tryz.ntmps65
   go_wp2
   go_ret
   exact ⟨by simp [numB, h0, h1], rfl⟩
 ·go_enter Tryz.func65, Tryz.ntmps65
  go_wp2
  go_ret
  exact ⟨by simp [numB]; omega, rfl⟩
theorem number_any (n : Int) (w : World) :
  Calls Tryz.prog 104 #[.int .i64 n] w fun e w' => e = .returned (.bool (numB n)) ∧ w = w' := by
 by_cases h0 : 0 ≤ n
 ·by_cases h1 : n ≤ 1073741824
  ·go_enter Tryz.func104, Tryz.ntmps104
   go_wp2
   go_ret
   exact ⟨by simp [numB, h0, h1], rfl⟩
  ·go_enter Tryz.func104, Tryz.ntmps104
   go_wp2
   go_ret
   exact ⟨by simp [numB, h0, h1], rfl⟩
 ·go_enter Tryz.func104, Tryz.ntmps104
  go_wp2
  go_ret
  exact ⟨by simp [numB]; omega, rfl⟩
theorem ret_bool {a b : Bool} (h : a = b) : Ending.returned (.bool a) = .returned (.bool b) := by rw [h]
structure Ent where
 t : Int
 k : Int
 v : Int
deriving DecidableEq
def Ent.cells (e : Ent) : List Value := [.int .i64 e.t, .int .i64 e.k, .int .i64 e.v]
def Ent.okP (t k v : Int) : Prop := 1 ≤ t ∧ t ≤ 1073741824 ∧ 0 ≤ k ∧ k < 5 ∧ 0 ≤ v ∧ v ≤ 1073741824 ∧ (k = 1 ∨ v = 0)
instance (t k v : Int) : Decidable (Ent.okP t k v) := by unfold Ent.okP; infer_instance
def okB (t k v : Int) : Bool := decide (Ent.okP t k v)
def Ent.ok (e : Ent) : Bool := okB e.t e.k e.v
theorem okB_true {t k v : Int} : okB t k v = true ↔ Ent.okP t k v := by simp [okB]
theorem numB_true {n : Int} : numB n = true ↔ (0 ≤ n ∧ n ≤ 1073741824) := by simp [numB]
theorem refRight_any (t k v : Int) (w : World) :
  Calls Tryz.prog 43 #[.agg #[.int .i64 t, .int .i64 k, .int .i64 v]] w fun e w' => e = .returned (.bool (okB t k v)) ∧ Below w.heap.size w w' := by
 go_enter Tryz.func43, Tryz.ntmps43
 go_wp2_with (go_at_call 65; refine (refnumber_any _ _).mono ?_; rintro e w' ⟨rfl, rfl⟩)
 all_goals go_ret
 all_goals refine ⟨ret_bool ?_, (Below.refl _ _).alloc (Nat.le_refl _) _⟩
 all_goals (try simp only [numB_true] at *)
 all_goals (rw [Bool.eq_iff_iff, okB_true]; unfold Ent.okP; simp; try omega)
def deedsMap : Array MapEntry := #[{ key := .int .i64 0, val := .func (.func 206) #[] #[], born := 0 }, { key := .int .i64 1, val := .func (.func 207) #[] #[], born := 1 },
 { key := .int .i64 2, val := .func (.func 208) #[] #[], born := 2 }, { key := .int .i64 3, val := .func (.func 209) #[] #[], born := 3 },
 { key := .int .i64 4, val := .func (.func 210) #[] #[], born := 4 }]
theorem insD (w : World) (es : Array MapEntry) (c : Nat) (n : Int) (v : Value) (hn : Instr.findNow (.int .i64) (.int .i64 n) es.toList 0 = some none) :
  (Instr.mapUpdate 244 (.map (some w.heap.size)) (.int .i64 n) v).run Tryz.prog (w.alloc (.map es c)) = .ok () (w.alloc (.map (es.push { key := .int .i64 n, val := v, born := c }) (c + 1))) :=
 run_insert_new w .i64 Tryz.underlying244 Tryz.underlying3 es c n v hn
set_option maxRecDepth 100000 in
theorem deeds_any (w : World) :
  Calls Tryz.prog 204 #[] w fun e w' => e = .returned (.map (some w.heap.size)) ∧ w.alloc (.map deedsMap 5) = w' := by
 have hmm := @run_makeMap Tryz.prog
 have h0 := insD w #[] 0 0 (.func (.func 206) #[] #[]) rfl
 have h1 := insD w #[{ key := .int .i64 0, val := .func (.func 206) #[] #[], born := 0 }] 1 1 (.func (.func 207) #[] #[]) rfl
 have h2 := insD w #[{ key := .int .i64 0, val := .func (.func 206) #[] #[], born := 0 }, { key := .int .i64 1, val := .func (.func 207) #[] #[], born := 1 }] 2 2 (.func (.func 208) #[] #[]) rfl
 have h3 := insD w #[{ key := .int .i64 0, val := .func (.func 206) #[] #[], born := 0 }, { key := .int .i64 1, val := .func (.func 207) #[] #[], born := 1 }, { key := .int .i64 2, val := .func (.func 208) #[] #[], born := 2 }] 3 3 (.func (.func 209) #[] #[]) rfl
 have h4 := insD w #[{ key := .int .i64 0, val := .func (.func 206) #[] #[], born := 0 }, { key := .int .i64 1, val := .func (.func 207) #[] #[], born := 1 }, { key := .int .i64 2, val := .func (.func 208) #[] #[], born := 2 }, { key := .int .i64 3, val := .func (.func 209) #[] #[], born := 3 }] 4 4 (.func (.func 210) #[] #[]) rfl
 simp only [List.push_toArray, List.nil_append, List.cons_append, Nat.reduceAdd] at h0 h1 h2 h3 h4
 go_enter Tryz.func204, Tryz.ntmps204
 go_wp2
 go_ret
 exact ⟨rfl, rfl⟩
theorem deedsMap_find (k : Int) : ∃ f, Instr.findNow (.int .i64) (.int .i64 k) deedsMap.toList 0 = some f ∧ f.isSome = decide (0 ≤ k ∧ k < 5) := by
 by_cases h0 : k = 0
 ·subst h0; exact ⟨_, rfl, rfl⟩
 by_cases h1 : k = 1
 ·subst h1; exact ⟨_, rfl, rfl⟩
 by_cases h2 : k = 2
 ·subst h2; exact ⟨_, rfl, rfl⟩
 by_cases h3 : k = 3
 ·subst h3; exact ⟨_, rfl, rfl⟩
 by_cases h4 : k = 4
 ·subst h4; exact ⟨_, rfl, rfl⟩
 refine ⟨none, ?_, ?_⟩
 ·have e0 : (k == 0) = false := by simp [h0]
  have e1 : (k == 1) = false := by simp [h1]
  have e2 : (k == 2) = false := by simp [h2]
  have e3 : (k == 3) = false := by simp [h3]
  have e4 : (k == 4) = false := by simp [h4]
  simp [deedsMap, Instr.findNow, Instr.sameNow, e0, e1, e2, e3, e4]
 ·simp; omega
def kindB (k : Int) : Bool := decide (0 ≤ k ∧ k < 5)
theorem deedsMap_lookup (k : Int) : ∃ v, ∀ (W : World) (r : Nat), W.heap[r]? = some (.map deedsMap 5) →
  (Instr.lookup 244 (.map (some r)) (.int .i64 k) true).run Tryz.prog W = .ok (.tuple #[v, .bool (kindB k)]) W := by
 obtain ⟨f, hf, hb⟩ := deedsMap_find k
 refine ⟨(f.map (·.2)).getD .nilFunc, fun W r h => ?_⟩
 have := run_lookup_ok (P := Tryz.prog) W .i64 Tryz.underlying244 Tryz.underlying3 deedsMap 5 k .nilFunc (by kernel_rfl) h f hf
 rw [this, hb]; rfl
set_option maxRecDepth 100000 in
theorem Right_any (t k v : Int) (w : World) :
  Calls Tryz.prog 201 #[.agg #[.int .i64 t, .int .i64 k, .int .i64 v]] w fun e w' => e = .returned (.bool (okB t k v)) ∧ Below w.heap.size w w' := by
 obtain ⟨fv, hl⟩ := deedsMap_lookup k
 have hl1 := hl (((w.alloc (.cells #[.int .i64 t, .int .i64 k, .int .i64 v] 100)).alloc (.map deedsMap 5)).drew) (w.heap.size + 1) (by
  have := World.alloc_heap_new (w.alloc (.cells #[.int .i64 t, .int .i64 k, .int .i64 v] 100)) (.map deedsMap 5)
  rwa [World.size_alloc] at this)
 clear hl
 go_enter Tryz.func201, Tryz.ntmps201
 go_wp2_with fail
 go_region_held3 (fun w' => w'.cell? ⟨w.heap.size, 0, none⟩ = some (.int .i64 t) ∧ w'.cell? ⟨w.heap.size, 1, none⟩ = some (.int .i64 k) ∧ w'.cell? ⟨w.heap.size, 2, none⟩ = some (.int .i64 v)) (first | go_keep)
  (first | (go_at_call 204; refine (deeds_any _).mono ?_; rintro e w' ⟨rfl, rfl⟩))
 go_wp2_with (go_at_call 104; refine (number_any _ _).mono ?_; rintro e w' ⟨rfl, rfl⟩)
 all_goals go_ret
 all_goals refine ⟨ret_bool ?_, (((Below.refl _ _).alloc (Nat.le_refl _) _).alloc (by simp) _).drew⟩
 all_goals (try simp only [numB_true, kindB, decide_eq_true_eq] at *)
 all_goals (rw [Bool.eq_iff_iff, okB_true]; unfold Ent.okP; simp [kindB]; try omega)
open Go.RowKit Go.Mv
def entCells (es : List Ent) : List Value := es.flatMap Ent.cells
def Es (w : World) (v : Value) (es : List Ent) : Prop := SlR w 3 v es.length (entCells es)
theorem Es.ext {w w' : World} {v : Value} {es : List Ent} (h : Es w v es) (he : Ext w w') : Es w' v es := SlR.ext h he
theorem entCells_at (es : List Ent) (k : Nat) (h : k < es.length) (i : Nat) (hi : i < 3) : (entCells es)[k * 3 + i]? = es[k].cells[i]? := by
 induction es generalizing k with
 | nil => simp at h
 | cons e es ih =>
  rw [show entCells (e :: es) = e.cells ++ entCells es from rfl]
  have hl : e.cells.length = 3 := rfl
  cases k with
  | zero => rw [List.getElem?_append_left (by omega)]; simp
  | succ k =>
   rw [List.getElem?_append_right (by omega), hl, show (k + 1) * 3 + i - 3 = k * 3 + i from by omega]
   simpa using ih k (by simpa using h)
theorem Es.at_ {w : World} {A : Option Addr} {m c : Nat} {es : List Ent} (h : Es w (.slice A m c) es) (hn : 0 < es.length) : m = es.length ∧ ∃ b off, A = some ⟨b, off, none⟩ ∧ ∀ (k : Nat) (hk : k < es.length),
  w.cell? ⟨b, off + k * 3, none⟩ = some (.int .i64 es[k].t) ∧ w.cell? ⟨b, off + k * 3 + 1, none⟩ = some (.int .i64 es[k].k) ∧ w.cell? ⟨b, off + k * 3 + 2, none⟩ = some (.int .i64 es[k].v) := by
 obtain ⟨rfl, b, off, rfl, hc⟩ := SlR.at_ h hn
 refine ⟨rfl, b, off, rfl, fun k hk => ⟨?_, ?_, ?_⟩⟩
 ·exact hc (k * 3) _ (entCells_at es k hk 0 (by omega))
 ·exact hc (k * 3 + 1) _ (entCells_at es k hk 1 (by omega))
 ·exact hc (k * 3 + 2) _ (entCells_at es k hk 2 (by omega))
theorem badOne_any (t k v : Int) (w : World) :
  Calls Tryz.prog 222 #[.agg #[.int .i64 t, .int .i64 k, .int .i64 v]] w fun e w' => e = .returned (.bool (!okB t k v)) ∧ Below w.heap.size w w' := by
 go_enter Tryz.func222, Tryz.ntmps222
 go_wp2_with (go_at_call 201; refine (Right_any _ _ _ _).mono ?_; rintro e w' ⟨rfl, hb⟩)
 go_ret
 exact ⟨rfl, ((Below.refl _ _).alloc (Nat.le_refl _) _).trans (hb.mono (by simp))⟩
def badAt : List Ent → Nat → Int
 | [], _ => -1
 | e :: es, i => if e.ok then badAt es (i + 1) else i
theorem IndexFunc_any (v : Value) (es : List Ent) (w : World) (h : Es w v es) :
  Calls Tryz.prog 227 #[v, .func (.func 222) #[] #[]] w fun e w' => e = .returned (.int .i64 (badAt es 0)) ∧ Below w.heap.size w w' := by
 obtain ⟨A, c, rfl, h1, h2⟩ := SlR.open_ h
 have hm := SlR.len_le h
 unfold maxLen at hm
 go_enter Tryz.func227, Tryz.ntmps227
 go_wp2_with fail
 go_loopw [8] (fun i wr => ∃ k : Nat, k ≤ es.length ∧ i = .int .i64 k ∧ Hid (badAt es 0 = badAt (es.drop k) k) ∧ Below w.heap.size w wr) (fun i _ => es.length - (intOf i).toNat)
 case atStart => exact ⟨0, Nat.zero_le _, rfl, rfl, Below.refl _ _⟩
 case round =>
  obtain ⟨k, hk, rfl, Hb, hB⟩ := hrel
  by_cases hlt : k < es.length
  ·obtain ⟨_, b, off, rfl, hc⟩ := Es.at_ (h.ext hB) (by omega)
   obtain ⟨hc0, hc1, hc2⟩ := hc k hlt
   clear hc
   go_wp2_with (go_at_call 222; refine (badOne_any _ _ _ _).mono ?_; rintro e w' ⟨rfl, hb⟩)
   ·go_ret
    have hne : es[k].ok = false := by simpa [Ent.ok] using (by assumption : (!okB es[k].t es[k].k es[k].v) = true)
    refine ⟨ret_int ?_, hB.trans (hb.mono hB.size)⟩
    rw [Hb.out, List.drop_eq_getElem_cons hlt, badAt, hne]
    simp
   ·go_roundw
    case rel =>
     have hok : es[k].ok = true := by simpa [Ent.ok] using (by assumption : (!okB es[k].t es[k].k es[k].v) = false)
     exact ⟨k + 1, by omega, by go_num, by rw [Hb.out, List.drop_eq_getElem_cons hlt, badAt, hok]; simp [Hid], hB.trans (hb.mono hB.size)⟩
    case measure => simp [intOf]; omega
  ·go_wp2_with fail
   go_ret
   refine ⟨ret_int ?_, hB⟩
   rw [Hb.out, List.drop_of_length_le (by omega)]
   rfl
def allOk (es : List Ent) : Bool := es.all Ent.ok
theorem badAt_nonneg (es : List Ent) (i : Nat) : (0 ≤ badAt es i ↔ allOk es = false) ∧ -1 ≤ badAt es i := by
 induction es generalizing i with
 | nil => simp [badAt, allOk]
 | cons e es ih =>
  have := ih (i + 1)
  cases h : e.ok <;> simp [badAt, allOk, h] at this ⊢ <;> first | omega | simpa [allOk] using this | skip
theorem ContainsFunc_any (v : Value) (es : List Ent) (w : World) (h : Es w v es) :
  Calls Tryz.prog 221 #[v, .func (.func 222) #[] #[]] w fun e w' => e = .returned (.bool (!allOk es)) ∧ Below w.heap.size w w' := by
 obtain ⟨h1, h2⟩ := badAt_nonneg es 0
 have H1 := Lib.hid h1
 clear h1
 go_enter Tryz.func221, Tryz.ntmps221
 go_wp2_with (go_at_call 227; refine (IndexFunc_any _ _ _ h).mono ?_; rintro e w' ⟨rfl, hb⟩)
 go_ret
 refine ⟨ret_bool ?_, hb⟩
 have := H1.out
 cases h : allOk es <;> simp [h] at this ⊢ <;> omega
theorem bad_any (v : Value) (es : List Ent) (w : World) (h : Es w v es) :
  Calls Tryz.prog 217 #[v] w fun e w' => e = .returned (.bool (!allOk es)) ∧ Below w.heap.size w w' := by
 go_enter Tryz.func217, Tryz.ntmps217
 go_wp2_with (go_at_call 221; refine (ContainsFunc_any _ _ _ h).mono ?_; rintro e w' ⟨rfl, hb⟩)
 go_ret
 exact ⟨rfl, hb⟩
theorem allOk_take {es : List Ent} {k : Nat} (hlt : k < es.length) (h : allOk (es.take k) = true) : allOk (es.take (k + 1)) = es[k].ok := by
 rw [List.take_succ_eq_append_getElem hlt]
 simp only [allOk, List.all_append] at h ⊢
 rw [h]; simp
theorem allOk_false {es : List Ent} {k : Nat} (hlt : k < es.length) (h : es[k].ok = false) : allOk es = false := by
 simp only [allOk, List.all_eq_false]
 exact ⟨es[k], List.getElem_mem hlt, by simp [h]⟩
theorem fine_any (v : Value) (es : List Ent) (w : World) (h : Es w v es) :
  Calls Tryz.prog 146 #[v] w fun e w' => e = .returned (.bool (allOk es)) ∧ Below w.heap.size w w' := by
 obtain ⟨A, c, rfl, h1, h2⟩ := SlR.open_ h
 have hm := SlR.len_le h
 unfold maxLen at hm
 go_enter Tryz.func146, Tryz.ntmps146
 go_wp2_with fail
 go_loopw [3] (fun i wr => ∃ k : Nat, k ≤ es.length ∧ i = .int .i64 k ∧ Hid (allOk (es.take k) = true) ∧ Below w.heap.size w wr) (fun i _ => es.length - (intOf i).toNat)
 case atStart => exact ⟨0, Nat.zero_le _, rfl, rfl, Below.refl _ _⟩
 case round =>
  obtain ⟨k, hk, rfl, Hb, hB⟩ := hrel
  by_cases hlt : k < es.length
  ·obtain ⟨_, b, off, rfl, hc⟩ := Es.at_ (h.ext hB) (by omega)
   obtain ⟨hc0, hc1, hc2⟩ := hc k hlt
   clear hc
   go_wp2_with (go_at_call 43; refine (refRight_any _ _ _ _).mono ?_; rintro e w' ⟨rfl, hb⟩)
   ·go_ret
    have hne : es[k].ok = false := by simpa [Ent.ok] using (by assumption : (!okB es[k].t es[k].k es[k].v) = true)
    exact ⟨ret_bool (allOk_false hlt hne).symm, hB.trans (hb.mono hB.size)⟩
   ·go_roundw
    case rel =>
     have hok : es[k].ok = true := by simpa [Ent.ok] using (by assumption : (!okB es[k].t es[k].k es[k].v) = false)
     exact ⟨k + 1, by omega, by go_num, (allOk_take hlt Hb.out).trans hok, hB.trans (hb.mono hB.size)⟩
    case measure => simp [intOf]; omega
  ·go_wp2_with fail
   go_ret
   refine ⟨ret_bool ?_, hB⟩
   have := Hb.out
   rw [List.take_of_length_le (by omega)] at this
   exact this.symm
end Go.Proofs.YtmecffckghkahaaGreatDoor
