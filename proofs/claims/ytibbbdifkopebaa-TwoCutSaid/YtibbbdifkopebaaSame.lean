/-
  The walk of moultref06.Same: the same entries?
-/
import Derived.Test.YtibbbdifkopebaaEntry2
import Derived.Deep.QuietTactic
import Derived.BigQuiet
set_option linter.all false
namespace Go.Proofs.Ytibbbdifkopebaa
open Go.RowKit Go.Mv

theorem entUnder : Try.prog.underlying 45 = some (.struct (Try.prog.fieldsOf 45)) := by kernel_rfl
theorem entHeld : Try.prog.stoodInHeld 45 = false := by kernel_rfl
theorem entGuard : Try.prog.eqGuardType Try.prog.depth 45 = false := by kernel_rfl
theorem entEq_run (a b : Ent) (W : World) : (Op.equalIn 10000 45 (.agg #[.int .i64 a.t, .int .i64 a.k, .int .i64 a.v]) (.agg #[.int .i64 b.t, .int .i64 b.k, .int .i64 b.v])).run Try.prog W = .ok (decide (a = b)) W := by
  have e : decide (a = b) = (a.t == b.t && a.k == b.k && a.v == b.v) := by
    rw [Bool.eq_iff_iff]
    cases a; cases b
    simp [and_assoc]
  rw [run_equalIn_struct W 9999 45 _ _ entUnder entHeld, e]
  cases h0 : (a.t == b.t) <;> cases h1 : (a.k == b.k) <;> cases h2 : (a.v == b.v) <;> simp [go_sem, h0, h1, h2]

def sameEs (a b : List Ent) : Bool := decide (a = b)

set_option maxRecDepth 100000 in
set_option maxHeartbeats 400000 in
theorem Same_any (va vb : Value) (a b : List Ent) (w : World) (ha : Es w va a) (hb : Es w vb b) :
    Calls Try.prog 22 #[va, vb] w fun e w' => e = .returned (.bool (decide (a = b))) ∧ Below w.heap.size w w' := by
  obtain ⟨A, ca, rfl, h1, h2⟩ := SlR.open_ ha
  obtain ⟨B, cb, rfl, h3, h4⟩ := SlR.open_ hb
  have hma := SlR.len_le ha
  have hmb := SlR.len_le hb
  unfold maxLen at hma hmb
  by_cases hl : a.length = b.length
  case neg =>
    go_enter Try.func22, Try.ntmps22
    have hne : ((a.length : Int) != (b.length : Int)) = true := by simp; omega
    have Hn := Lib.hid hl
    clear hl
    go_wp2
    go_ret
    refine ⟨ret_bool ?_, Below.refl _ _⟩
    simp; intro e; exact Hn.out (by rw [e])
  case pos =>
    have hne : ((a.length : Int) != (b.length : Int)) = false := by simp; omega
    have Hl := Lib.hid hl
    have hle : b.length ≤ a.length := by omega
    have hle' : a.length ≤ b.length := by omega
    clear hl
    go_enter Try.func22, Try.ntmps22
    go_wp2_with fail
    go_loopw [5] (fun i wr => ∃ k : Nat, k ≤ a.length ∧ i = .int .i64 k ∧ Hid (a.take k = b.take k) ∧ Below w.heap.size w wr) (fun i _ => a.length - (intOf i).toNat)
    case atStart => exact ⟨0, Nat.zero_le _, rfl, rfl, Below.refl _ _⟩
    case round =>
      obtain ⟨k, hk, rfl, Hb, hB⟩ := hrel
      by_cases hlt : k < a.length
      · obtain ⟨_, ba, offa, rfl, hca⟩ := Es.at_ (ha.ext hB) (by omega)
        obtain ⟨_, bb, offb, rfl, hcb⟩ := Es.at_ (hb.ext hB) (by omega)
        obtain ⟨ha0, ha1, ha2⟩ := hca k hlt
        obtain ⟨hb0, hb1, hb2⟩ := hcb k (by omega)
        clear hca hcb
        have hk0 : (0 : Int) ≤ (k : Int) := by omega
        have hk1 : (k : Int) < (a.length : Int) := by omega
        have hk2 : (k : Int) < (b.length : Int) := by omega
        have heq := entEq_run a[k] b[k]
        have hgd := entGuard
        have hcase : ∃ d, decide (a[k] = b[k]) = d := ⟨_, rfl⟩
        obtain ⟨d, hd⟩ := hcase
        have Hd := Lib.hid hd
        rw [hd] at heq
        clear hd
        go_wp2_with fail
        go_quiet (fail)
        clear heq hgd
        cases d
        · go_wp2_with fail
          go_ret
          refine ⟨ret_bool ?_, bdrewN hB _⟩
          have hd := Hd.out
          symm
          simp only [decide_eq_false_iff_not] at hd ⊢
          intro e; subst e; exact hd rfl
        · go_wp2_with fail
          go_roundw
          case rel =>
            have hd : a[k] = b[k] := by simpa using Hd.out
            refine ⟨k + 1, by omega, by go_num, ?_, bdrewN hB _⟩
            show List.take (k + 1) a = List.take (k + 1) b
            rw [List.take_succ_eq_append_getElem hlt, List.take_succ_eq_append_getElem (by omega), Hb.out, hd]
          case measure => simp [intOf]; omega
      · go_wp2_with fail
        go_ret
        refine ⟨ret_bool ?_, hB⟩
        have := Hb.out
        rw [List.take_of_length_le (by omega), List.take_of_length_le (by omega)] at this
        simpa using this
end Go.Proofs.Ytibbbdifkopebaa
