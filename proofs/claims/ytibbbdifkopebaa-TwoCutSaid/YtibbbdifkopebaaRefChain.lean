/-
  The walk of moultref02.Chain.
-/
import Derived.Test.YtibbbdifkopebaaFour
import Derived.Test.YtibbbdifkopebaaTake
set_option linter.all false
namespace Go.Mv
open Go.RowKit
/-- The point behind bytes. -/
def chainP (p : Nat × Nat) (bs : List UInt8) : Nat × Nat := bs.foldl nextP p
theorem chainP_snoc (p : Nat × Nat) (bs : List UInt8) (b : UInt8) : chainP p (bs ++ [b]) = nextP (chainP p bs) b := by unfold chainP; rw [List.foldl_append]; rfl
theorem chainP_append (p : Nat × Nat) (a b : List UInt8) : chainP p (a ++ b) = chainP (chainP p a) b := by unfold chainP; rw [List.foldl_append]
theorem PtV.pt {v : Value} {p : Nat × Nat} (h : PtV v p) : ptV v = p := by
  obtain ⟨a, b, rfl, ha, hb⟩ := h
  unfold ptV; simp only [ha, hb]
theorem PtV.zero : PtV (.complex .f64 0 0) (0, 0) := ⟨0, 0, rfl, ptOf_of_fl fl_zero (by decide) (fun h => by cases h), ptOf_of_fl fl_zero (by decide) (fun h => by cases h)⟩
theorem ptV_right {a b : Nat} (h : ((ptOf a).isSome && (ptOf b).isSome) = true) : PtV (.complex .f64 a b) (ptV (.complex .f64 a b)) := by
  obtain ⟨x, ha⟩ : ∃ x, ptOf a = some x := by cases h : ptOf a <;> simp_all
  obtain ⟨y, hb⟩ : ∃ y, ptOf b = some y := by cases h : ptOf b <;> simp_all
  have e : ptV (.complex .f64 a b) = (x, y) := by unfold ptV; simp only [ha, hb]
  rw [e]; exact ⟨a, b, rfl, ha, hb⟩
theorem ptV_not {a b : Nat} (h : ((ptOf a).isSome && (ptOf b).isSome) = false) : ptV (.complex .f64 a b) = (0, 0) := by
  unfold ptV
  cases ha : ptOf a <;> cases hb : ptOf b <;> simp_all
end Go.Mv
namespace Go.Proofs.Ytibbbdifkopebaa
open Go.RowKit Go.Mv
set_option maxRecDepth 100000

def ChainP (v : Value) (bs : List UInt8) (w : World) (e : Ending) (w' : World) : Prop := ∃ v', e = .returned v' ∧ PtV v' (chainP (ptV v) bs) ∧ w = w'

set_option maxHeartbeats 1000000 in
theorem refChain_any (a b : Nat) (vp : Value) (bss : List (List UInt8)) (w : World) (h : Parts w vp bss) :
    Calls Try.prog 33 #[.complex .f64 a b, vp] w (ChainP (.complex .f64 a b) bss.flatten w) := by
  obtain ⟨vs, hvl, hsl, hvs⟩ := h
  obtain ⟨A, c, rfl, h1, h2⟩ := SlR.open_ hsl
  have hv1 : vs.length ≤ bss.length := by omega
  have hv2 : bss.length ≤ vs.length := by omega
  clear hvl
  have hG := Lib.hid (fun w => refRightC_any a b w)
  have hz := Lib.hid PtV.zero
  have hstart : ∃ z0 : Value, PtV z0 (ptV (.complex .f64 a b)) ∧ z0 = if ((ptOf a).isSome && (ptOf b).isSome) = true then .complex .f64 a b else .complex .f64 0 0 := by
    split
    · rename_i h; exact ⟨_, ptV_right h, rfl⟩
    · rename_i h
      refine ⟨_, ?_, rfl⟩
      rw [ptV_not (by simpa using h)]; exact PtV.zero
  obtain ⟨z0, hz0, hz1⟩ := hstart
  unfold ChainP
  generalize ptV (.complex .f64 a b) = p0 at *
  cases hok : ((ptOf a).isSome && (ptOf b).isSome)
  all_goals
    rw [hok] at hz1
    simp only [if_true, if_false, Bool.false_eq_true] at hz1
    subst hz1
    rw [hok] at hG
    clear hok
    go_enter Try.func33, Try.ntmps33
    go_wp2_with (go_at_call 24; refine (hG.out _).mono ?_; rintro e w' ⟨rfl, rfl⟩)
    clear hG
    go_loop [0, 5] (fun z i => ∃ k : Nat, k ≤ bss.length ∧ i = .int .i64 k ∧ Hid (PtV z (chainP p0 (bss.take k).flatten))) (fun _ i => bss.length - (intOf i).toNat)
    case atStart => exact ⟨0, Nat.zero_le _, rfl, hz0⟩
    case round =>
      obtain ⟨k, hk, rfl, HP⟩ := hrel
      by_cases hlt : k < bss.length
      · obtain ⟨_, ba, off, rfl, hc⟩ := SlR.at_ hsl (by omega)
        have hkv : k < vs.length := by omega
        have hck := hc k vs[k] (List.getElem?_eq_getElem hkv)
        have hbk := hvs k hkv hlt
        obtain ⟨A', c', hvk, h3, h4⟩ := SlR.open_ hbk
        rw [hvk] at hck hbk
        have hft := flat_take bss k hlt
        have Hft := Lib.hid hft
        generalize bss[k] = bk at *
        clear hc hvk hft
        go_wp2_with fail
        go_loop [0, 6] (fun z j => ∃ m : Nat, m ≤ bk.length ∧ j = .int .i64 m ∧ Hid (PtV z (chainP p0 ((bss.take k).flatten ++ bk.take m)))) (fun _ j => bk.length - (intOf j).toNat)
        case atStart => exact ⟨0, Nat.zero_le _, rfl, by show PtV _ _; rw [List.take_zero, List.append_nil]; exact HP.out⟩
        case round =>
          obtain ⟨m, hm, rfl, HQ⟩ := hrel
          by_cases hlt2 : m < bk.length
          · obtain ⟨_, b2, off2, e2, hc2⟩ := Bs.at_ hbk (by omega)
            cases e2
            have hcm := hc2 m hlt2
            have htk : bk.take (m + 1) = bk.take m ++ [bk[m]] := List.take_succ_eq_append_getElem hlt2
            have Htk := Lib.hid htk
            generalize hbm : bk[m] = bm at *
            clear hc2 htk hbm
            go_wp2_with (go_at_call 52; refine (refNext_any _ _ HQ.out _ _).mono ?_; rintro e w' ⟨v', rfl, hv', rfl⟩)
            have HV := Lib.hid hv'
            go_round
            case rel => exact ⟨m + 1, by omega, by go_num, by show PtV _ _; rw [Htk.out, ← List.append_assoc, chainP_snoc]; exact HV.out⟩
            case measure => simp [intOf]; omega
          · have hq := HQ.out
            rw [List.take_of_length_le (show bk.length ≤ m from by omega), ← Hft.out] at hq
            have HQ' := Lib.hid hq
            clear hq
            go_wp2_with fail
            go_round
            case rel => exact ⟨k + 1, by omega, by go_num, HQ'⟩
            case measure => simp [intOf]; omega
      · have hk' : bss.take k = bss := List.take_of_length_le (by omega)
        rw [hk'] at HP
        clear hk'
        go_wp2_with fail
        go_ret
        exact ⟨_, rfl, HP.out, rfl⟩
end Go.Proofs.Ytibbbdifkopebaa
