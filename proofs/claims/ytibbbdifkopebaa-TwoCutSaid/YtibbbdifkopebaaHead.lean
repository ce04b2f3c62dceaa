/-
  The walks of two.Head, moultref08.Head.
-/
import Derived.Test.YtibbbdifkopebaaConcat
import Derived.Test.YtibbbdifkopebaaRefShort
set_option linter.all false
namespace Go.Proofs.Ytibbbdifkopebaa
open Go.RowKit Go.Mv
/-- An error and bytes. -/
def headS (first : Int) : Int × List UInt8 := if numB first = true ∧ first ≠ 0 then (0, 2 :: shorts [first]) else (2, [])
theorem headS_len (first : Int) : (headS first).2.length ≤ 6 := by
  unfold headS
  split
  · have := shorts_len [first]; simp at *; omega
  · simp
set_option maxRecDepth 100000

theorem parts2 {W : World} {va vb : Value} {a b : List UInt8} (ha : Bs W va a) (hb : Bs W vb b) : Parts (W.alloc (.cells #[va, vb] 24)) (.slice (some ⟨W.heap.size, 0, none⟩) 2 2) [a, b] := by
  refine ⟨[va, vb], rfl, SlR.of_own (own_new W [va, vb] 24 2 rfl (by simp [maxLen]) (Nat.le_refl _)), fun i hi hi' => ?_⟩
  match i, hi with
  | 0, _ => exact Bs.ext ha (Ext.alloc (Ext.refl _) _)
  | 1, _ => exact Bs.ext hb (Ext.alloc (Ext.refl _) _)
theorem parts1 {W : World} {va : Value} {a : List UInt8} (ha : Bs W va a) : Parts (W.alloc (.cells #[va] 24)) (.slice (some ⟨W.heap.size, 0, none⟩) 1 1) [a] := by
  refine ⟨[va], rfl, SlR.of_own (own_new W [va] 24 1 rfl (by simp [maxLen]) (Nat.le_refl _)), fun i hi hi' => ?_⟩
  match i, hi with
  | 0, _ => exact Bs.ext ha (Ext.alloc (Ext.refl _) _)
/-- What a call tells that gives bytes and an error. -/
def ResP (w : World) (r : Int × List UInt8) (e : Ending) (w' : World) : Prop := ∃ v, e = .returned (.tuple #[v, .int .i64 r.1]) ∧ w'.ownsRow w.heap.size 5 1 v r.2.length (r.2.map bv) ∧ Ext w w'

set_option maxHeartbeats 1000000 in
theorem Head_any (first : Int) (w : World) : Calls Try.prog 9 #[.int .i64 first] w (ResP w (headS first)) := by
  have hIs : Is (w.alloc (.cells #[.int .i64 first] 3)) (.slice (some ⟨w.heap.size, 0, none⟩) 1 1) [first] := SlR.of_own (own_new w [.int .i64 first] 3 1 rfl (by simp [maxLen]) (Nat.le_refl _))
  by_cases hn : numB first = true
  · have hall : allNum [first] = true := by simp [allNum, hn]
    have hS := Lib.hid (Short_ok _ _ _ hIs hall (by simp))
    by_cases h0 : first = 0
    · have hh : headS first = (2, []) := by unfold headS; rw [if_neg (fun h => h.2 h0)]
      unfold ResP
      rw [hh]
      subst h0
      clear hh hall hIs hn
      go_enter Try.func9, Try.ntmps9
      go_wp2_with (go_at_call 26; refine hS.out.mono ?_; rintro e w1 ⟨v1, rfl, ho1, hE1⟩)
      go_ret2
      exact ⟨_, rfl, World.ownsRow_nil _ _ _ _, Ext.trans (Ext.alloc (Ext.refl _) _) hE1⟩
    · have hh : headS first = (0, 2 :: shorts [first]) := by unfold headS; rw [if_pos ⟨hn, h0⟩]
      have hl := shorts_len [first]
      unfold ResP
      rw [hh]
      have e0 : (first == 0) = false := by simpa using h0
      obtain ⟨bs, hbs⟩ : ∃ bs, shorts [first] = bs := ⟨_, rfl⟩
      rw [hbs] at hl ⊢
      have Hbs := Lib.hid hbs
      clear hbs
      clear hh hall hIs hn h0
      go_enter Try.func9, Try.ntmps9
      go_wp2_with (first
        | (go_at_call 26; refine hS.out.mono ?_; rintro e w1 ⟨v1, rfl, ho1, hE1⟩; rw [Hbs.out] at ho1; obtain ⟨A, c, rfl, _, _⟩ := SlR.open_ (SlR.of_own ho1))
        | (go_at_call 27
           have h2 : Bs (w1.alloc (.cells #[.int .u8 2] 5)) (.slice (some ⟨w1.heap.size, 0, none⟩) 1 1) [2] := SlR.of_own (own_new w1 [.int .u8 2] 5 1 rfl (by simp [maxLen]) (Nat.le_refl _))
           have h3 : Bs w1 (.slice A bs.length c) bs := SlR.of_own ho1
           have h4 : Bs (w1.alloc (.cells #[.int .u8 2] 5)) (.slice A bs.length c) bs := Bs.ext h3 (Ext.alloc (Ext.refl _) _)
           have h5 := parts2 h2 h4
           rw [World.size_alloc] at h5
           have h6 : [[2], bs].flatten.length ≤ 70368744177664 := by simp; simp at hl; omega
           refine (Concat_any _ _ _ h5 h6).mono ?_
           rintro e w2 ⟨v2, rfl, ho2, hE2⟩))
      go_ret2
      have hE3 : Ext w w2 := Ext.trans (Ext.alloc (Ext.alloc (Ext.trans (Ext.alloc (Ext.refl _) _) hE1) _) _) hE2
      refine ⟨_, rfl, ?_, hE3⟩
      have hb : w.heap.size ≤ ((w1.alloc (.cells #[.int .u8 2] 5)).alloc (.cells #[.slice (some ⟨w1.heap.size, 0, none⟩) 1 1, .slice A bs.length c] 24)).heap.size := by have := hE1.size; simp at *; omega
      simpa using own_base ho2 hb
  · have hall : allNum [first] = false := by simp [allNum, hn]
    have hS := Lib.hid (Short_bad _ _ _ hIs hall)
    have hh : headS first = (2, []) := by unfold headS; rw [if_neg (fun h => hn h.1)]
    unfold ResP
    rw [hh]
    clear hh hall hIs hn
    go_enter Try.func9, Try.ntmps9
    go_wp2_with (go_at_call 26; refine hS.out.mono ?_; rintro e w1 ⟨rfl, hE1⟩)
    go_ret2
    exact ⟨_, rfl, World.ownsRow_nil _ _ _ _, Ext.trans (Ext.alloc (Ext.refl _) _) hE1⟩
end Go.Proofs.Ytibbbdifkopebaa
