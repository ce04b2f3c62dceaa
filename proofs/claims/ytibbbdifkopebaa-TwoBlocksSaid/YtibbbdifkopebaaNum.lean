/-
  The walks of num.Is, num.put, num.Short, moultref01.Is.
  Plain facts on numbers' short bytes.
  The walks of num.put, num.Short, moultref01.Short: numbers' short bytes.
-/
import Derived.Test.YtibbbdifkopebaaShort
import Derived.Test.YtibbbdifkopebaaEntry2
set_option linter.all false
namespace Go.Proofs.Ytibbbdifkopebaa
open Go.RowKit Go.Mv

def allNum (l : List Int) : Bool := l.all numB
def shorts (l : List Int) : List UInt8 := l.flatMap fun n => short1 n.toNat

theorem Is.at_ {w : World} {A : Option Addr} {m c : Nat} {l : List Int} (h : Is w (.slice A m c) l) (hn : 0 < l.length) : m = l.length ∧ ∃ b off, A = some ⟨b, off, none⟩ ∧ ∀ (k : Nat) (hk : k < l.length), w.cell? ⟨b, off + k, none⟩ = some (.int .i64 l[k]) := by
  obtain ⟨rfl, b, off, rfl, hc⟩ := SlR.at_ h hn
  exact ⟨rfl, b, off, rfl, fun k hk => hc k _ (by simp [List.getElem?_eq_getElem hk, iv])⟩

set_option maxHeartbeats 400000 in
theorem IsOne_any (n : Int) (w : World) :
    Calls Try.prog 76 #[.int .i64 n] w fun e w' => e = .returned (.bool (!numB n)) ∧ w = w' := by
  by_cases h0 : n < 0
  · go_enter Try.func76, Try.ntmps76
    go_wp2
    go_ret
    exact ⟨ret_bool (by simp [numB]; omega), rfl⟩
  · by_cases h1 : n > 1073741824
    · go_enter Try.func76, Try.ntmps76
      go_wp2
      go_ret
      exact ⟨ret_bool (by simp [numB]; omega), rfl⟩
    · go_enter Try.func76, Try.ntmps76
      go_wp2
      go_ret
      exact ⟨ret_bool (by simp [numB]; omega), rfl⟩

/-- The place of the first number that is none; -1. -/
def noneAt : List Int → Nat → Int
  | [], _ => -1
  | n :: l, i => if numB n then noneAt l (i + 1) else i

set_option maxHeartbeats 400000 in
theorem IndexFuncI_any (v : Value) (l : List Int) (w : World) (h : Is w v l) :
    Calls Try.prog 87 #[v, .func (.func 76) #[] #[]] w fun e w' => e = .returned (.int .i64 (noneAt l 0)) ∧ w = w' := by
  obtain ⟨A, c, rfl, h1, h2⟩ := SlR.open_ h
  have hm := SlR.len_le h
  unfold maxLen at hm
  go_enter Try.func87, Try.ntmps87
  go_wp2_with fail
  go_loop [8] (fun i => ∃ k : Nat, k ≤ l.length ∧ i = .int .i64 k ∧ Hid (noneAt l 0 = noneAt (l.drop k) k)) (fun i => l.length - (intOf i).toNat)
  case atStart => exact ⟨0, Nat.zero_le _, rfl, rfl⟩
  case round =>
    obtain ⟨k, hk, rfl, Hb⟩ := hrel
    by_cases hlt : k < l.length
    · obtain ⟨_, b, off, rfl, hc⟩ := Is.at_ h (by omega)
      have hc0 := hc k hlt
      clear hc
      go_wp2_with (go_at_call 76; refine (IsOne_any _ _).mono ?_; rintro e w' ⟨rfl, rfl⟩)
      · go_ret
        have hne : numB l[k] = false := by simpa using (by assumption : (!numB l[k]) = true)
        refine ⟨ret_int ?_, rfl⟩
        rw [Hb.out, List.drop_eq_getElem_cons hlt, noneAt, hne]
        simp
      · go_round
        case rel =>
          have hok : numB l[k] = true := by simpa using (by assumption : (!numB l[k]) = false)
          exact ⟨k + 1, by omega, by go_num, by rw [Hb.out, List.drop_eq_getElem_cons hlt, noneAt, hok]; simp [Hid]⟩
        case measure => simp [intOf]; omega
    · go_wp2_with fail
      go_ret
      refine ⟨ret_int ?_, rfl⟩
      rw [Hb.out, List.drop_of_length_le (by omega)]
      rfl

theorem noneAt_nonneg (l : List Int) (i : Nat) : (0 ≤ noneAt l i ↔ allNum l = false) ∧ -1 ≤ noneAt l i := by
  induction l generalizing i with
  | nil => simp [noneAt, allNum]
  | cons e es ih =>
    have := ih (i + 1)
    cases h : numB e <;> simp [noneAt, allNum, h] at this ⊢ <;> first | omega | simpa [allNum] using this | skip

set_option maxHeartbeats 400000 in
theorem ContainsFuncI_any (v : Value) (l : List Int) (w : World) (h : Is w v l) :
    Calls Try.prog 75 #[v, .func (.func 76) #[] #[]] w fun e w' => e = .returned (.bool (!allNum l)) ∧ w = w' := by
  obtain ⟨h1, h2⟩ := noneAt_nonneg l 0
  have H1 := Lib.hid h1
  clear h1
  go_enter Try.func75, Try.ntmps75
  go_wp2_with (go_at_call 87; refine (IndexFuncI_any _ _ _ h).mono ?_; rintro e w' ⟨rfl, rfl⟩)
  go_ret
  refine ⟨ret_bool ?_, rfl⟩
  have := H1.out
  cases h : allNum l <;> simp [h] at this ⊢ <;> omega

set_option maxHeartbeats 400000 in
theorem Is_any (v : Value) (l : List Int) (w : World) (h : Is w v l) :
    Calls Try.prog 60 #[v] w fun e w' => e = .returned (.bool (allNum l)) ∧ w = w' := by
  go_enter Try.func60, Try.ntmps60
  go_wp2_with (go_at_call 75; refine (ContainsFuncI_any _ _ _ h).mono ?_; rintro e w' ⟨rfl, rfl⟩)
  go_ret
  exact ⟨ret_bool (by simp), rfl⟩

theorem allNum_false {l : List Int} {k : Nat} (hlt : k < l.length) (h : numB l[k] = false) : allNum l = false := by
  simp only [allNum, List.all_eq_false]
  exact ⟨l[k], List.getElem_mem hlt, by simp [h]⟩
theorem allNum_take {l : List Int} {k : Nat} (hlt : k < l.length) (h : allNum (l.take k) = true) : allNum (l.take (k + 1)) = numB l[k] := by
  rw [List.take_succ_eq_append_getElem hlt]
  simp only [allNum, List.all_append] at h ⊢
  rw [h]; simp

set_option maxHeartbeats 400000 in
theorem refIs_any (v : Value) (l : List Int) (w : World) (h : Is w v l) :
    Calls Try.prog 45 #[v] w fun e w' => e = .returned (.bool (allNum l)) ∧ w = w' := by
  obtain ⟨A, c, rfl, h1, h2⟩ := SlR.open_ h
  have hm := SlR.len_le h
  unfold maxLen at hm
  go_enter Try.func45, Try.ntmps45
  go_wp2_with fail
  go_loop [3] (fun i => ∃ k : Nat, k ≤ l.length ∧ i = .int .i64 k ∧ Hid (allNum (l.take k) = true)) (fun i => l.length - (intOf i).toNat)
  case atStart => exact ⟨0, Nat.zero_le _, rfl, rfl⟩
  case round =>
    obtain ⟨k, hk, rfl, Hb⟩ := hrel
    by_cases hlt : k < l.length
    · obtain ⟨_, b, off, rfl, hc⟩ := Is.at_ h (by omega)
      have hc0 := hc k hlt
      clear hc
      by_cases h0 : l[k] < 0
      · go_wp2_with fail
        go_ret
        exact ⟨ret_bool (allNum_false hlt (by simp [numB]; omega)).symm, rfl⟩
      · by_cases h1 : 1073741824 < l[k]
        · go_wp2_with fail
          go_ret
          exact ⟨ret_bool (allNum_false hlt (by simp [numB]; omega)).symm, rfl⟩
        · go_wp2_with fail
          go_round
          case rel => exact ⟨k + 1, by omega, by go_num, (allNum_take hlt Hb.out).trans (by simp [numB]; omega)⟩
          case measure => simp [intOf]; omega
    · go_wp2_with fail
      go_ret
      refine ⟨ret_bool ?_, rfl⟩
      have := Hb.out
      rw [List.take_of_length_le (by omega)] at this
      exact this.symm
end Go.Proofs.Ytibbbdifkopebaa

namespace Go.Proofs.Ytibbbdifkopebaa
open Go.RowKit Go.Mv

/-- The digits ahead of the last one, each with its highest bit set. -/
def hiB : Nat → Nat → List UInt8
  | 0, _ => []
  | f + 1, m => if m = 0 then [] else hiB f (m / 128) ++ [UInt8.ofNat (m % 128 + 128)]

theorem or128 (m : Nat) : UInt8.ofNat (m % 128) ||| 128 = UInt8.ofNat (m % 128 + 128) := by
  have h2 : ∀ m : Nat, m < 128 → UInt8.ofNat m ||| 128 = UInt8.ofNat (m + 128) := by decide
  exact h2 _ (Nat.mod_lt _ (by decide))

theorem hiB_zero (f : Nat) : hiB f 0 = [] := by cases f <;> simp [hiB]

theorem short1_eq (n : Nat) (hn : n ≤ 1073741824) : short1 n = hiB 5 (n / 128) ++ [UInt8.ofNat (n % 128)] := by
  unfold short1
  congr 1
  have d2 : n / 128 / 128 = n / 16384 := by omega
  have d3 : n / 16384 / 128 = n / 2097152 := by omega
  have d4 : n / 2097152 / 128 = n / 268435456 := by omega
  have d5 : n / 268435456 / 128 = 0 := by omega
  by_cases h4 : n / 268435456 = 0
  · by_cases h3 : n / 2097152 = 0
    · by_cases h2 : n / 16384 = 0
      · by_cases h1 : n / 128 = 0
        · simp [digRec, hiB, h1, h2, h3, h4]
        · simp [digRec, hiB, d2, d3, d4, d5, h1, h2, h3, h4, or128]
      · have h1 : n / 128 ≠ 0 := by omega
        simp [digRec, hiB, d2, d3, d4, d5, h1, h2, h3, h4, or128]
    · have h1 : n / 128 ≠ 0 := by omega
      have h2 : n / 16384 ≠ 0 := by omega
      simp [digRec, hiB, d2, d3, d4, d5, h1, h2, h3, h4, or128]
  · have h1 : n / 128 ≠ 0 := by omega
    have h2 : n / 16384 ≠ 0 := by omega
    have h3 : n / 2097152 ≠ 0 := by omega
    simp [digRec, hiB, d2, d3, d4, d5, h1, h2, h3, h4, or128]
end Go.Proofs.Ytibbbdifkopebaa

namespace Go.Proofs.Ytibbbdifkopebaa
open Go.RowKit Go.Mv

def ShortOk (w : World) (l : List Int) (e : Ending) (w' : World) : Prop :=
  ∃ v, e = .returned (.tuple #[v, .int .i64 0]) ∧ w'.ownsRow w.heap.size 5 1 v (shorts l).length ((shorts l).map bv) ∧ Ext w w'
def ShortBad (w : World) (e : Ending) (w' : World) : Prop := e = .returned (.tuple #[.slice none 0 0, .int .i64 2]) ∧ Ext w w'

theorem short1_len (n : Nat) : 1 ≤ (short1 n).length ∧ (short1 n).length ≤ 5 := by
  have := digRec_len 7 n true 4
  simp [short1]; omega
theorem shorts_len (l : List Int) : (shorts l).length ≤ 5 * l.length := by
  induction l with
  | nil => simp [shorts]
  | cons n l ih => have := (short1_len n.toNat).2; simp [shorts] at ih ⊢; omega
theorem shorts_take {l : List Int} {k : Nat} (h : k < l.length) : shorts (l.take (k + 1)) = shorts (l.take k) ++ short1 l[k].toNat := by
  rw [List.take_succ_eq_append_getElem h]; unfold shorts; rw [List.flatMap_append]; simp
theorem num_of_all {l : List Int} (h : allNum l = true) {k : Nat} (hk : k < l.length) : 0 ≤ l[k] ∧ l[k] ≤ 1073741824 := by
  have := List.all_eq_true.1 h l[k] (List.getElem_mem hk)
  simpa [numB] using this

set_option maxRecDepth 100000 in
set_option maxHeartbeats 400000 in
theorem put_bad (v : Value) (l : List Int) (w : World) (h : Is w v l) (hn : allNum l = false) (f : Value) :
    Calls Try.prog 41 #[v, f] w (ShortBad w) := by
  go_enter Try.func41, Try.ntmps41
  go_wp2_with (go_at_call 60; refine (Is_any _ _ _ h).mono ?_; rintro e w' ⟨rfl, rfl⟩)
  go_ret2
  exact ⟨rfl, Ext.refl _⟩

set_option maxRecDepth 100000 in
set_option maxHeartbeats 400000 in
theorem putShort_ok (v : Value) (l : List Int) (w : World) (h : Is w v l) (hn : allNum l = true) (hl : l.length ≤ 1000000) :
    Calls Try.prog 41 #[v, .func (.func 42) #[] #[]] w (ShortOk w l) := by
  obtain ⟨A, c, rfl, h1, h2⟩ := SlR.open_ h
  have Hn := Lib.hid hn
  go_enter Try.func41, Try.ntmps41
  go_wp2_with (go_at_call 60; refine (Is_any _ _ _ h).mono ?_; rintro e w' ⟨rfl, rfl⟩)
  clear hn
  go_loopw [4, 13] (fun vb i wr => ∃ k : Nat, k ≤ l.length ∧ i = .int .i64 k ∧ wr.ownsRow w.heap.size 5 1 vb (shorts (l.take k)).length ((shorts (l.take k)).map bv) ∧ Ext w wr) (fun _ i _ => l.length - (intOf i).toNat)
  case atStart => exact ⟨0, Nat.zero_le _, rfl, World.ownsRow_nil _ _ _ _, Ext.refl _⟩
  case round =>
    obtain ⟨k, hk, rfl, hown, hB⟩ := hrel
    by_cases hlt : k < l.length
    · obtain ⟨_, b, off, rfl, hc⟩ := Is.at_ (h.ext hB) (by omega)
      have hc0 := hc k hlt
      clear hc
      obtain ⟨hn0, hn1⟩ := num_of_all Hn.out hlt
      have hsl := shorts_len (l.take k)
      have htl : (l.take k).length ≤ k := List.length_take_le _ _
      have key := Short1_any (shorts (l.take k)) l[k].toNat (by omega) _ w.heap.size wr hown hB.size (by omega)
      rw [Int.toNat_of_nonneg hn0] at key
      have Key := Lib.hid key
      clear key
      go_wp2_with (go_at_call 42; refine Key.out.mono ?_; rintro e w1 ⟨v', rfl, hown', hB'⟩)
      go_roundw
      case rel => exact ⟨k + 1, by omega, by go_num, by rw [shorts_take hlt]; exact hown', Below.trans hB hB'⟩
      case measure => simp [intOf]; omega
    · have hk' : l.take k = l := List.take_of_length_le (by omega)
      rw [hk'] at hown
      clear hk'
      go_wp2_with fail
      go_ret2
      exact ⟨_, rfl, hown, hB⟩

set_option maxHeartbeats 400000 in
theorem Short_bad (v : Value) (l : List Int) (w : World) (h : Is w v l) (hn : allNum l = false) : Calls Try.prog 26 #[v] w (ShortBad w) := by
  go_enter Try.func26, Try.ntmps26
  go_wp2_with (go_at_call 41; refine (put_bad _ _ _ h hn _).mono ?_; rintro e w' ⟨rfl, hb⟩)
  go_ret2
  exact ⟨rfl, hb⟩

set_option maxHeartbeats 400000 in
theorem Short_ok (v : Value) (l : List Int) (w : World) (h : Is w v l) (hn : allNum l = true) (hl : l.length ≤ 1000000) : Calls Try.prog 26 #[v] w (ShortOk w l) := by
  go_enter Try.func26, Try.ntmps26
  go_wp2_with (go_at_call 41; refine (putShort_ok _ _ _ h hn hl).mono ?_; rintro e w' ⟨v', rfl, ho, hb⟩)
  go_ret2
  exact ⟨_, rfl, ho, hb⟩
end Go.Proofs.Ytibbbdifkopebaa
