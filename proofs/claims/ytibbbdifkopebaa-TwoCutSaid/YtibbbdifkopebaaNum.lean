/-
  The walks of num.Is, num.put, num.Short, moultref01.Is.
-/
import Derived.Test.YtibbbdifkopebaaShort
import Derived.Test.YtibbbdifkopebaaEntry2
set_option linter.all false
namespace Go.Proofs.Ytibbbdifkopebaa
open Go.RowKit Go.Mv

def allNum (l : List Int) : Bool := l.all numB
def shorts (l : List Int) : List UInt8 := l.flatMap fun n => short1 n.toNat

theorem Is.at_ {w : World} {A : Option Addr} {m c : Nat} {l : List Int} (h : Is w (.slice A m c) l) (hn : 0 < l.length) : m = l.length ∧ ∃ b off, A = some ⟨b, off, none⟩ ∧ ∀ (k : Nat) (hk : k < l.length), w.cell? ⟨b, off + k, none⟩ = some (.int .i64 l[k]) := by
  obtain ⟨rfl, b, off, rfl, hc⟩ := SlR.at_ h hn
  exact ⟨rfl, b, off, rfl, fun k hk => hc k _ (by simp [List.getElem?_eq_getElem hk, iv])⟩

set_option maxHeartbeats 400000 in
theorem IsOne_any (n : Int) (w : World) :
    Calls Try.prog 76 #[.int .i64 n] w fun e w' => e = .returned (.bool (!numB n)) ∧ w = w' := by
  by_cases h0 : n < 0
  · go_enter Try.func76, Try.ntmps76
    go_wp2
    go_ret
    exact ⟨ret_bool (by simp [numB]; omega), rfl⟩
  · by_cases h1 : n > 1073741824
    · go_enter Try.func76, Try.ntmps76
      go_wp2
      go_ret
      exact ⟨ret_bool (by simp [numB]; omega), rfl⟩
    · go_enter Try.func76, Try.ntmps76
      go_wp2
      go_ret
      exact ⟨ret_bool (by simp [numB]; omega), rfl⟩

/-- The place of the first number that is none; -1. -/
def noneAt : List Int → Nat → Int
  | [], _ => -1
  | n :: l, i => if numB n then noneAt l (i + 1) else i

set_option maxHeartbeats 400000 in
theorem IndexFuncI_any (v : Value) (l : List Int) (w : World) (h : Is w v l) :
    Calls Try.prog 87 #[v, .func (.func 76) #[] #[]] w fun e w' => e = .returned (.int .i64 (noneAt l 0)) ∧ w = w' := by
  obtain ⟨A, c, rfl, h1, h2⟩ := SlR.open_ h
  have hm := SlR.len_le h
  unfold maxLen at hm
  go_enter Try.func87, Try.ntmps87
  go_wp2_with fail
  go_loop [8] (fun i => ∃ k : Nat, k ≤ l.length ∧ i = .int .i64 k ∧ Hid (noneAt l 0 = noneAt (l.drop k) k)) (fun i => l.length - (intOf i).toNat)
  case atStart => exact ⟨0, Nat.zero_le _, rfl, rfl⟩
  case round =>
    obtain ⟨k, hk, rfl, Hb⟩ := hrel
    by_cases hlt : k < l.length
    · obtain ⟨_, b, off, rfl, hc⟩ := Is.at_ h (by omega)
      have hc0 := hc k hlt
      clear hc
      go_wp2_with (go_at_call 76; refine (IsOne_any _ _).mono ?_; rintro e w' ⟨rfl, rfl⟩)
      · go_ret
        have hne : numB l[k] = false := by simpa using (by assumption : (!numB l[k]) = true)
        refine ⟨ret_int ?_, rfl⟩
        rw [Hb.out, List.drop_eq_getElem_cons hlt, noneAt, hne]
        simp
      · go_round
        case rel =>
          have hok : numB l[k] = true := by simpa using (by assumption : (!numB l[k]) = false)
          exact ⟨k + 1, by omega, by go_num, by rw [Hb.out, List.drop_eq_getElem_cons hlt, noneAt, hok]; simp [Hid]⟩
        case measure => simp [intOf]; omega
    · go_wp2_with fail
      go_ret
      refine ⟨ret_int ?_, rfl⟩
      rw [Hb.out, List.drop_of_length_le (by omega)]
      rfl

theorem noneAt_nonneg (l : List Int) (i : Nat) : (0 ≤ noneAt l i ↔ allNum l = false) ∧ -1 ≤ noneAt l i := by
  induction l generalizing i with
  | nil => simp [noneAt, allNum]
  | cons e es ih =>
    have := ih (i + 1)
    cases h : numB e <;> simp [noneAt, allNum, h] at this ⊢ <;> first | omega | simpa [allNum] using this | skip

set_option maxHeartbeats 400000 in
theorem ContainsFuncI_any (v : Value) (l : List Int) (w : World) (h : Is w v l) :
    Calls Try.prog 75 #[v, .func (.func 76) #[] #[]] w fun e w' => e = .returned (.bool (!allNum l)) ∧ w = w' := by
  obtain ⟨h1, h2⟩ := noneAt_nonneg l 0
  have H1 := Lib.hid h1
  clear h1
  go_enter Try.func75, Try.ntmps75
  go_wp2_with (go_at_call 87; refine (IndexFuncI_any _ _ _ h).mono ?_; rintro e w' ⟨rfl, rfl⟩)
  go_ret
  refine ⟨ret_bool ?_, rfl⟩
  have := H1.out
  cases h : allNum l <;> simp [h] at this ⊢ <;> omega

set_option maxHeartbeats 400000 in
theorem Is_any (v : Value) (l : List Int) (w : World) (h : Is w v l) :
    Calls Try.prog 60 #[v] w fun e w' => e = .returned (.bool (allNum l)) ∧ w = w' := by
  go_enter Try.func60, Try.ntmps60
  go_wp2_with (go_at_call 75; refine (ContainsFuncI_any _ _ _ h).mono ?_; rintro e w' ⟨rfl, rfl⟩)
  go_ret
  exact ⟨ret_bool (by simp), rfl⟩

theorem allNum_false {l : List Int} {k : Nat} (hlt : k < l.length) (h : numB l[k] = false) : allNum l = false := by
  simp only [allNum, List.all_eq_false]
  exact ⟨l[k], List.getElem_mem hlt, by simp [h]⟩
theorem allNum_take {l : List Int} {k : Nat} (hlt : k < l.length) (h : allNum (l.take k) = true) : allNum (l.take (k + 1)) = numB l[k] := by
  rw [List.take_succ_eq_append_getElem hlt]
  simp only [allNum, List.all_append] at h ⊢
  rw [h]; simp

set_option maxHeartbeats 400000 in
theorem refIs_any (v : Value) (l : List Int) (w : World) (h : Is w v l) :
    Calls Try.prog 45 #[v] w fun e w' => e = .returned (.bool (allNum l)) ∧ w = w' := by
  obtain ⟨A, c, rfl, h1, h2⟩ := SlR.open_ h
  have hm := SlR.len_le h
  unfold maxLen at hm
  go_enter Try.func45, Try.ntmps45
  go_wp2_with fail
  go_loop [3] (fun i => ∃ k : Nat, k ≤ l.length ∧ i = .int .i64 k ∧ Hid (allNum (l.take k) = true)) (fun i => l.length - (intOf i).toNat)
  case atStart => exact ⟨0, Nat.zero_le _, rfl, rfl⟩
  case round =>
    obtain ⟨k, hk, rfl, Hb⟩ := hrel
    by_cases hlt : k < l.length
    · obtain ⟨_, b, off, rfl, hc⟩ := Is.at_ h (by omega)
      have hc0 := hc k hlt
      clear hc
      by_cases h0 : l[k] < 0
      · go_wp2_with fail
        go_ret
        exact ⟨ret_bool (allNum_false hlt (by simp [numB]; omega)).symm, rfl⟩
      · by_cases h1 : 1073741824 < l[k]
        · go_wp2_with fail
          go_ret
          exact ⟨ret_bool (allNum_false hlt (by simp [numB]; omega)).symm, rfl⟩
        · go_wp2_with fail
          go_round
          case rel => exact ⟨k + 1, by omega, by go_num, (allNum_take hlt Hb.out).trans (by simp [numB]; omega)⟩
          case measure => simp [intOf]; omega
    · go_wp2_with fail
      go_ret
      refine ⟨ret_bool ?_, rfl⟩
      have := Hb.out
      rw [List.take_of_length_le (by omega)] at this
      exact this.symm
end Go.Proofs.Ytibbbdifkopebaa
