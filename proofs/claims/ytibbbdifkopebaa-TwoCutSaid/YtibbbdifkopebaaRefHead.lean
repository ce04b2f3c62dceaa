/-
  The walk of moultref08.Head.
-/
import Derived.Test.YtibbbdifkopebaaHead
set_option linter.all false
namespace Go.Proofs.Ytibbbdifkopebaa
open Go.RowKit Go.Mv
set_option maxRecDepth 100000

set_option maxHeartbeats 1000000 in
theorem refHead_any (first : Int) (w : World) : Calls Try.prog 10 #[.int .i64 first] w (ResP w (headS first)) := by
  have hIs : Is (w.alloc (.cells #[.int .i64 first] 3)) (.slice (some ⟨w.heap.size, 0, none⟩) 1 1) [first] := SlR.of_own (own_new w [.int .i64 first] 3 1 rfl (by simp [maxLen]) (Nat.le_refl _))
  by_cases hn : numB first = true
  · have hall : allNum [first] = true := by simp [allNum, hn]
    have hS := Lib.hid (refShort_ok _ _ _ hIs hall (by simp))
    have hn2 : 0 ≤ first ∧ first ≤ 1073741824 := by simpa [numB] using hn
    by_cases h0 : first < 1
    · have hh : headS first = (2, []) := by unfold headS; rw [if_neg (fun h => h.2 (by omega))]
      unfold ResP
      rw [hh]
      clear hh hall hIs hn
      go_enter Try.func10, Try.ntmps10
      go_wp2_with (go_at_call 28; refine hS.out.mono ?_; rintro e w1 ⟨v1, rfl, ho1, hE1⟩)
      go_ret2
      exact ⟨_, rfl, World.ownsRow_nil _ _ _ _, Ext.trans (Ext.alloc (Ext.refl _) _) hE1⟩
    · have hh : headS first = (0, 2 :: shorts [first]) := by unfold headS; rw [if_pos ⟨hn, by omega⟩]
      have hl := shorts_len [first]
      unfold ResP
      rw [hh]
      obtain ⟨bs, hbs⟩ : ∃ bs, shorts [first] = bs := ⟨_, rfl⟩
      rw [hbs] at hl ⊢
      have hl2 : bs.length ≤ 5 := by simpa using hl
      have Hbs := Lib.hid hbs
      obtain ⟨i0, hi, hz0, hz1, hz2⟩ := info_parts info_u8
      clear hbs hl hh hall hIs hn
      go_enter Try.func10, Try.ntmps10
      go_wp2_with (first
        | (go_at_call 28; refine hS.out.mono ?_; rintro e w1 ⟨v1, rfl, ho1, hE1⟩; rw [Hbs.out] at ho1; obtain ⟨A, c, rfl, _, _⟩ := SlR.open_ (SlR.of_own ho1))
        | (at_builtin
           have hE2 : Ext w (w1.alloc (.cells #[.int .u8 2] 5)) := Ext.alloc (Ext.trans (Ext.alloc (Ext.refl _) _) hE1) _
           have hb1 : w.heap.size ≤ w1.heap.size := by have := hE1.size; simp at this; omega
           have hon : (w1.alloc (.cells #[.int .u8 2] 5)).ownsRow w.heap.size 5 1 (.slice (some ⟨w1.heap.size, 0, none⟩) 1 1) 1 [.int .u8 2] := own_new w1 [.int .u8 2] 5 1 rfl (by simp [maxLen]) hb1
           have h4 : SlR (w1.alloc (.cells #[.int .u8 2] 5)) 1 (.slice A bs.length c) bs.length (bs.map bv) := SlR.ext (SlR.of_own ho1) (Ext.alloc (Ext.refl _) _)
           refine wpList_append_sl _ rfl (.tmp 18) (.tmp 19) 24 rfl w.heap.size 5 i0 (.int .u8 0) 1 1 Try.underlying24 hi hz0 hz1 hz2 rfl (by decide) _ 1 [.int .u8 2] rfl hon _ bs.length (bs.map bv) rfl h4 (one_bv _) (by unfold maxLen; omega) (by omega) hE2.size ?_
           intro v' w2 hown' hgrow))
      go_ret2
      refine ⟨v', rfl, ?_, Ext.grownOwn hE2 hon hgrow⟩
      rw [show 1 + bs.length = (2 :: bs).length from by simp; omega] at hown'
      exact hown'
  · have hall : allNum [first] = false := by simp [allNum, hn]
    have hS := Lib.hid (refShort_bad _ _ _ hIs hall)
    have hh : headS first = (2, []) := by unfold headS; rw [if_neg (fun h => hn h.1)]
    unfold ResP
    rw [hh]
    clear hh hall hIs hn
    by_cases h0 : first < 1
    all_goals
      go_enter Try.func10, Try.ntmps10
      go_wp2_with (go_at_call 28; refine hS.out.mono ?_; rintro e w1 ⟨rfl, hE1⟩)
      go_ret2
      exact ⟨_, rfl, World.ownsRow_nil _ _ _ _, Ext.trans (Ext.alloc (Ext.refl _) _) hE1⟩
end Go.Proofs.Ytibbbdifkopebaa
