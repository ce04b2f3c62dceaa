/-
  The walks of gauss.Bytes, moultref02.Bytes.
-/
import Derived.Test.YtibbbdifkopebaaNext
set_option linter.all false
namespace Go.Mv
open Go.RowKit
theorem f2i_pt {a x : Nat} (h : ptOf a = some x) : floatToIntVal .f64 a .i64 = some (x : Int) := by
  obtain ⟨hx, s, hs, hf⟩ := ptOf_fl h
  obtain ⟨b, hb⟩ := fl_lt hf
  unfold floatToIntVal FloatKind.decode
  rw [show FloatKind.f64.format = Ieee.double from rfl, hb]
  unfold Ieee.Datum.toInt
  rw [integral_zero, Nat.mul_div_cancel _ (Nat.two_pow_pos b)]
  have e : Ieee.signed s x 0 = (x : Int) := by
    rw [signed_eq, Nat.pow_zero, Nat.mul_one]
    cases s
    · rfl
    · rw [hs rfl]; unfold sval; simp
  dsimp only
  rw [e]
  have : IntKind.i64.min ≤ (x : Int) ∧ (x : Int) ≤ IntKind.i64.max := by
    rw [show IntKind.i64.min = -9223372036854775808 from rfl, show IntKind.i64.max = 9223372036854775807 from rfl]; omega
  simp only [this, and_self, if_true]
/-- A point's four bytes. -/
def fourB (p : Nat × Nat) : List UInt8 := [UInt8.ofNat (p.1 / 256), UInt8.ofNat p.1, UInt8.ofNat (p.2 / 256), UInt8.ofNat p.2]
/-- Whatever is no point is 0. -/
def ptV (v : Value) : Nat × Nat :=
  match v with
  | .complex .f64 a b => match ptOf a, ptOf b with
    | some x, some y => (x, y)
    | _, _ => (0, 0)
  | _ => (0, 0)
end Go.Mv
namespace Go.Proofs.Ytibbbdifkopebaa
open Go.RowKit Go.Mv
set_option maxRecDepth 100000

def FourP (v : Value) (w : World) (e : Ending) (w' : World) : Prop := e = .returned (.agg ((fourB (ptV v)).map bv).toArray) ∧ Ext w w'
theorem four_pt {a b x y : Nat} (ha : ptOf a = some x) (hb : ptOf b = some y) : (fourB (ptV (.complex .f64 a b))).map bv = [.int .u8 ((x : Int) / 256), .int .u8 ((x : Int) % 256), .int .u8 ((y : Int) / 256), .int .u8 ((y : Int) % 256)] := by
  have hx := (ptOf_fl ha).1
  have hy := (ptOf_fl hb).1
  have e : ptV (.complex .f64 a b) = (x, y) := by unfold ptV; simp only [ha, hb]
  rw [e]
  simp [fourB, bv]
  omega
theorem four_no {a b : Nat} (h : ((ptOf a).isSome && (ptOf b).isSome) = false) : (fourB (ptV (.complex .f64 a b))).map bv = [.int .u8 0, .int .u8 0, .int .u8 0, .int .u8 0] := by
  have e : ptV (.complex .f64 a b) = (0, 0) := by
    unfold ptV
    cases ha : ptOf a <;> cases hb : ptOf b <;> simp_all
  rw [e]
  simp [fourB, bv]

set_option maxHeartbeats 400000 in
theorem Four_any (a b : Nat) (w : World) : Calls Try.prog 31 #[.complex .f64 a b] w (FourP (.complex .f64 a b) w) := by
  have hG := Lib.hid (fun w => Right_c a b w)
  cases hok : ((ptOf a).isSome && (ptOf b).isSome)
  · have hf := four_no hok
    unfold FourP
    rw [hf]
    rw [hok] at hG
    clear hok hf
    go_enter Try.func31, Try.ntmps31
    go_wp2_with (go_at_call 49; refine (hG.out _).mono ?_; rintro e w' ⟨rfl, rfl⟩)
    refine bodyPost_ret (results_cell_row rfl _ _ _ 50 _ _ _ rfl (heap_alloc_new _ _) Try.underlying50 rfl (by kernel_rfl)) rfl ⟨rfl, Ext.alloc (Ext.refl _) _⟩
  · obtain ⟨x, ha⟩ : ∃ x, ptOf a = some x := by cases h : ptOf a <;> simp_all
    obtain ⟨y, hb⟩ : ∃ y, ptOf b = some y := by cases h : ptOf b <;> simp_all
    have hf := four_pt ha hb
    have hx := (ptOf_fl ha).1
    have hy := (ptOf_fl hb).1
    unfold FourP
    rw [hf]
    rw [hok] at hG
    have i1 := fun w => run_convert_float_int (P := Try.prog) w 22 3 .f64 .i64 a _ (by kernel_rfl) Try.underlying3 (f2i_pt ha)
    have i2 := fun w => run_convert_float_int (P := Try.prog) w 22 3 .f64 .i64 b _ (by kernel_rfl) Try.underlying3 (f2i_pt hb)
    clear hok ha hb hf
    go_enter Try.func31, Try.ntmps31
    go_wp2_with (go_at_call 49; refine (hG.out _).mono ?_; rintro e w' ⟨rfl, rfl⟩)
    refine bodyPost_ret (results_cell_row rfl _ _ _ 50 _ _ _ rfl (heap_alloc_new _ _) Try.underlying50 rfl (by kernel_rfl)) rfl ⟨rfl, Ext.alloc (Ext.refl _) _⟩

set_option maxHeartbeats 400000 in
theorem refFour_any (a b : Nat) (w : World) : Calls Try.prog 25 #[.complex .f64 a b] w (FourP (.complex .f64 a b) w) := by
  by_cases hok : ((ptOf a).isSome && (ptOf b).isSome) = true
  · obtain ⟨x, ha⟩ : ∃ x, ptOf a = some x := by cases h : ptOf a <;> simp_all
    obtain ⟨y, hb⟩ : ∃ y, ptOf b = some y := by cases h : ptOf b <;> simp_all
    have hf := four_pt ha hb
    have hx := (ptOf_fl ha).1
    have hy := (ptOf_fl hb).1
    unfold FourP
    rw [hf]
    clear hok hf
    go_enter Try.func25, Try.ntmps25
    go_wp2_with (go_at_call 40; refine (part_pt _ _ (by assumption) _).mono ?_; rintro e w' ⟨rfl, rfl⟩)
    refine bodyPost_ret (results_cell_row rfl _ _ _ 50 _ _ _ rfl (heap_alloc_new _ _) Try.underlying50 rfl (by kernel_rfl)) rfl ⟨rfl, Ext.alloc (Ext.refl _) _⟩
  · have hok2 : ((ptOf a).isSome && (ptOf b).isSome) = false := by simpa using hok
    have hf := four_no hok2
    unfold FourP
    rw [hf]
    clear hf hok
    cases ha : (ptOf a).isSome
    · go_enter Try.func25, Try.ntmps25
      go_wp2_with (go_at_call 40; refine (part_any _ _).mono ?_; rintro e w' ⟨n, rfl, _, rfl⟩)
      refine bodyPost_ret (results_cell_row rfl _ _ _ 50 _ _ _ rfl (heap_alloc_new _ _) Try.underlying50 rfl (by kernel_rfl)) rfl ⟨rfl, Ext.alloc (Ext.refl _) _⟩
    · rw [ha, Bool.true_and] at hok2
      go_enter Try.func25, Try.ntmps25
      go_wp2_with (go_at_call 40; refine (part_any _ _).mono ?_; rintro e w' ⟨n, rfl, _, rfl⟩)
      refine bodyPost_ret (results_cell_row rfl _ _ _ 50 _ _ _ rfl (heap_alloc_new _ _) Try.underlying50 rfl (by kernel_rfl)) rfl ⟨rfl, Ext.alloc (Ext.refl _) _⟩
end Go.Proofs.Ytibbbdifkopebaa
