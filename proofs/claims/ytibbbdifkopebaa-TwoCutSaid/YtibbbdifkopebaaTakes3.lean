/-
  The walk of moultref01.Takes.
-/
import Derived.Test.YtibbbdifkopebaaTakes2
set_option linter.all false
namespace Go.Proofs.Ytibbbdifkopebaa
open Go.RowKit Go.Mv

set_option maxRecDepth 100000 in
set_option maxHeartbeats 1000000 in
theorem refTakes_any (v : Value) (bs : List UInt8) (many : Nat) (hm : many ≤ 1000000) (w : World) (hBs : Bs w v bs) (hl : bs.length ≤ 140737488355328) : Calls Try.prog 74 #[v, .int .i64 many] w (TakesP w (takesGo many [] bs)) := by
  obtain ⟨i0, hi, hz0, hz1, hz2⟩ := info_parts info_int
  go_enter Try.func74, Try.ntmps74
  obtain ⟨j0, hj, hy0, hy1, hy2⟩ := info_parts info_u8
  have hon : (w.alloc (.cells #[] 5)).ownsRow w.heap.size 5 1 (.slice (some ⟨w.heap.size, 0, none⟩) 0 0) 0 [] := own_new w [] 5 0 rfl (by simp [maxLen]) (Nat.le_refl _)
  have hE0 : Ext w (w.alloc (.cells #[] 5)) := Ext.alloc (Ext.refl _) _
  go_wp2_with (at_builtin; refine wpList_append_sl _ rfl (.tmp 13) (.tmp 14) 24 rfl w.heap.size 5 j0 (.int .u8 0) 1 1 Try.underlying24 hj hy0 hy1 hy2 rfl (by decide) (.slice (some ⟨w.heap.size, 0, none⟩) 0 0) 0 [] rfl hon v bs.length (bs.map bv) rfl (SlR.ext hBs hE0) (one_bv _) (by unfold maxLen; omega) (by omega) hE0.size ?_; intro v1 w1 ho1 hgrow1)
  have hE1 : Ext w w1 := Ext.grownOwn hE0 hon hgrow1
  go_loopw [7, 8, 9] (fun vr vl i wr => ∃ (k : Nat) (acc : List Int) (rest : List UInt8), k ≤ many ∧ i = .int .i64 k ∧ acc.length ≤ k ∧ rest.length ≤ bs.length ∧ Hid (takesGo many [] bs = takesGo (many - k) acc rest) ∧
      wr.ownsRow w.heap.size 3 1 vl acc.length (acc.map iv) ∧ wr.ownsRow w.heap.size 5 1 vr rest.length (rest.map bv) ∧ Ext w wr) (fun _ _ i _ => many - (intOf i).toNat)
  case atStart => exact ⟨0, [], bs, Nat.zero_le _, rfl, by simp, Nat.le_refl _, rfl, World.ownsRow_nil _ _ _ _, by simpa using ho1, hE1⟩
  case round =>
    
    obtain ⟨k, acc, rest, hk, rfl, hacc, hrest, HT, hown, hbr, hE⟩ := hrel
    by_cases hlt : k < many
    · have hT := HT.out
      rw [show many - k = (many - k - 1) + 1 from by omega, takesGo] at hT
      have hrr := takeS_rest rest
      have key := refTake_any _ rest wr (SlR.of_own hbr) (by omega)
      rcases hts : takeS rest with ⟨er, n, r2⟩
      rw [hts] at hT hrr key
      simp only at hT hrr
      by_cases her : er = 0
      · subst her
        simp only [if_true] at hT
        have HT2 := Lib.hid hT
        have Key := Lib.hid key
        clear hT HT key hts
        go_wp2_with (first
          | (go_at_call 58; refine Key.out.mono ?_; rintro e w2 ⟨v2, rfl, hb2, hE2⟩)
          | (at_builtin; refine wpList_append_sl _ rfl (.tmp 30) (.tmp 32) 68 rfl w.heap.size 3 i0 (.int .i64 0) 1 8 Try.underlying68 hi hz0 hz1 hz2 rfl (by decide) _ acc.length (acc.map iv) rfl (own_ext hown (Ext.alloc hE2 _)) (.slice (some ⟨w2.heap.size, 0, none⟩) 1 1) 1 [.int .i64 n] rfl (SlR.of_own (own_new w2 [.int .i64 n] 3 1 rfl (by simp [maxLen]) (Nat.le_refl _))) (by simp [Value.oneCell']) (by unfold maxLen; omega) (by omega) (by have := hE.size; have := hE2.size; simp; omega) ?_; intro v' w3 hown' hgrow))
        go_roundw
        case rel =>
          have hE3 : Ext w w3 := Ext.grownOwn (Ext.alloc (Ext.trans hE hE2) _) (own_ext hown (Ext.alloc hE2 _)) hgrow
          refine ⟨k + 1, acc ++ [(n : Int)], r2, by omega, by go_num, by simp; omega, by omega, ?_, by simpa [iv] using hown', ?_, hE3⟩
          · show _ = _; rw [HT2.out, show many - (k + 1) = many - k - 1 from by omega]
          · have hb3 : (w2.alloc (.cells #[.int .i64 n] 3)).ownsRow w.heap.size 5 1 v2 r2.length (r2.map bv) := own_ext (own_base hb2 hE.size) (Ext.alloc (Ext.refl _) _)
            have ho3 : (w2.alloc (.cells #[.int .i64 n] 3)).ownsRow w.heap.size 3 1 _ acc.length (acc.map iv) := own_ext hown (Ext.alloc hE2 _)
            exact hb3.kept hgrow (own_apart hb3 ho3 (by decide))
        case measure => simp [intOf]; omega
      · have hne : ((er : Int) != 0) = true := by simp [her]
        rw [if_neg her] at hT
        have HT2 := Lib.hid hT
        have Key := Lib.hid key
        clear hT HT key hts
        go_wp2_with (go_at_call 58; refine Key.out.mono ?_; rintro e w2 ⟨v2, rfl, hb2, hE2⟩)
        go_ret3
        exact ⟨_, _, by rw [HT2.out]; rfl, by rw [HT2.out]; exact World.ownsRow_nil _ _ _ _, by rw [HT2.out]; exact World.ownsRow_nil _ _ _ _, Ext.trans hE hE2⟩
    · have hT := HT.out
      rw [show many - k = 0 from by omega, takesGo] at hT
      have HT2 := Lib.hid hT
      clear hT HT
      go_wp2_with fail
      go_ret3
      exact ⟨_, _, by rw [HT2.out]; rfl, by rw [HT2.out]; exact hown, by rw [HT2.out]; exact hbr, hE⟩
end Go.Proofs.Ytibbbdifkopebaa
