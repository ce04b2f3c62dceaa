/-
  The walks of num.put, num.Short, moultref01.Short: numbers' short bytes.
-/
import Derived.Test.YtibbbdifkopebaaNumLaw
set_option linter.all false
namespace Go.Proofs.Ytibbbdifkopebaa
open Go.RowKit Go.Mv

def ShortOk (w : World) (l : List Int) (e : Ending) (w' : World) : Prop :=
  ∃ v, e = .returned (.tuple #[v, .int .i64 0]) ∧ w'.ownsRow w.heap.size 5 1 v (shorts l).length ((shorts l).map bv) ∧ Ext w w'
def ShortBad (w : World) (e : Ending) (w' : World) : Prop := e = .returned (.tuple #[.slice none 0 0, .int .i64 2]) ∧ Ext w w'

theorem short1_len (n : Nat) : 1 ≤ (short1 n).length ∧ (short1 n).length ≤ 5 := by
  have := digRec_len 7 n true 4
  simp [short1]; omega
theorem shorts_len (l : List Int) : (shorts l).length ≤ 5 * l.length := by
  induction l with
  | nil => simp [shorts]
  | cons n l ih => have := (short1_len n.toNat).2; simp [shorts] at ih ⊢; omega
theorem shorts_take {l : List Int} {k : Nat} (h : k < l.length) : shorts (l.take (k + 1)) = shorts (l.take k) ++ short1 l[k].toNat := by
  rw [List.take_succ_eq_append_getElem h]; unfold shorts; rw [List.flatMap_append]; simp
theorem num_of_all {l : List Int} (h : allNum l = true) {k : Nat} (hk : k < l.length) : 0 ≤ l[k] ∧ l[k] ≤ 1073741824 := by
  have := List.all_eq_true.1 h l[k] (List.getElem_mem hk)
  simpa [numB] using this

set_option maxRecDepth 100000 in
set_option maxHeartbeats 400000 in
theorem put_bad (v : Value) (l : List Int) (w : World) (h : Is w v l) (hn : allNum l = false) (f : Value) :
    Calls Try.prog 41 #[v, f] w (ShortBad w) := by
  go_enter Try.func41, Try.ntmps41
  go_wp2_with (go_at_call 60; refine (Is_any _ _ _ h).mono ?_; rintro e w' ⟨rfl, rfl⟩)
  go_ret2
  exact ⟨rfl, Ext.refl _⟩

set_option maxRecDepth 100000 in
set_option maxHeartbeats 400000 in
theorem putShort_ok (v : Value) (l : List Int) (w : World) (h : Is w v l) (hn : allNum l = true) (hl : l.length ≤ 1000000) :
    Calls Try.prog 41 #[v, .func (.func 42) #[] #[]] w (ShortOk w l) := by
  obtain ⟨A, c, rfl, h1, h2⟩ := SlR.open_ h
  have Hn := Lib.hid hn
  go_enter Try.func41, Try.ntmps41
  go_wp2_with (go_at_call 60; refine (Is_any _ _ _ h).mono ?_; rintro e w' ⟨rfl, rfl⟩)
  clear hn
  go_loopw [4, 13] (fun vb i wr => ∃ k : Nat, k ≤ l.length ∧ i = .int .i64 k ∧ wr.ownsRow w.heap.size 5 1 vb (shorts (l.take k)).length ((shorts (l.take k)).map bv) ∧ Ext w wr) (fun _ i _ => l.length - (intOf i).toNat)
  case atStart => exact ⟨0, Nat.zero_le _, rfl, World.ownsRow_nil _ _ _ _, Ext.refl _⟩
  case round =>
    obtain ⟨k, hk, rfl, hown, hB⟩ := hrel
    by_cases hlt : k < l.length
    · obtain ⟨_, b, off, rfl, hc⟩ := Is.at_ (h.ext hB) (by omega)
      have hc0 := hc k hlt
      clear hc
      obtain ⟨hn0, hn1⟩ := num_of_all Hn.out hlt
      have hsl := shorts_len (l.take k)
      have htl : (l.take k).length ≤ k := List.length_take_le _ _
      have key := Short1_any (shorts (l.take k)) l[k].toNat (by omega) _ w.heap.size wr hown hB.size (by omega)
      rw [Int.toNat_of_nonneg hn0] at key
      have Key := Lib.hid key
      clear key
      go_wp2_with (go_at_call 42; refine Key.out.mono ?_; rintro e w1 ⟨v', rfl, hown', hB'⟩)
      go_roundw
      case rel => exact ⟨k + 1, by omega, by go_num, by rw [shorts_take hlt]; exact hown', Below.trans hB hB'⟩
      case measure => simp [intOf]; omega
    · have hk' : l.take k = l := List.take_of_length_le (by omega)
      rw [hk'] at hown
      clear hk'
      go_wp2_with fail
      go_ret2
      exact ⟨_, rfl, hown, hB⟩

set_option maxHeartbeats 400000 in
theorem Short_bad (v : Value) (l : List Int) (w : World) (h : Is w v l) (hn : allNum l = false) : Calls Try.prog 26 #[v] w (ShortBad w) := by
  go_enter Try.func26, Try.ntmps26
  go_wp2_with (go_at_call 41; refine (put_bad _ _ _ h hn _).mono ?_; rintro e w' ⟨rfl, hb⟩)
  go_ret2
  exact ⟨rfl, hb⟩

set_option maxHeartbeats 400000 in
theorem Short_ok (v : Value) (l : List Int) (w : World) (h : Is w v l) (hn : allNum l = true) (hl : l.length ≤ 1000000) : Calls Try.prog 26 #[v] w (ShortOk w l) := by
  go_enter Try.func26, Try.ntmps26
  go_wp2_with (go_at_call 41; refine (putShort_ok _ _ _ h hn hl).mono ?_; rintro e w' ⟨v', rfl, ho, hb⟩)
  go_ret2
  exact ⟨_, rfl, ho, hb⟩
end Go.Proofs.Ytibbbdifkopebaa
