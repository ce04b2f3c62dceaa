/-
  The walks of num.Takes, moultref01.Takes.
-/
import Derived.Test.YtibbbdifkopebaaTakes
set_option linter.all false
namespace Go.Proofs.Ytibbbdifkopebaa
open Go.RowKit Go.Mv

/-- So many numbers taken off bytes, behind those that have come. -/
def takesGo : Nat → List Int → List UInt8 → Int × List Int × List UInt8
  | 0, acc, bs => (0, acc, bs)
  | k + 1, acc, bs => if (takeS bs).1 = 0 then takesGo k (acc ++ [((takeS bs).2.1 : Int)]) (takeS bs).2.2 else ((takeS bs).1, [], [])
def TakesP (w : World) (r : Int × List Int × List UInt8) (e : Ending) (w' : World) : Prop :=
  ∃ vl vr, e = .returned (.tuple #[vl, vr, .int .i64 r.1]) ∧ w'.ownsRow w.heap.size 3 1 vl r.2.1.length (r.2.1.map iv) ∧ w'.ownsRow w.heap.size 5 1 vr r.2.2.length (r.2.2.map bv) ∧ Ext w w'

theorem takeGo_rest (f n : Nat) (l : List UInt8) : (takeGo f n l).2.2.length ≤ l.length := by
  induction f generalizing n l with
  | zero => simp [takeGo]
  | succ f ih =>
    cases l with
    | nil => simp [takeGo]
    | cons b l =>
      simp only [takeGo]
      split
      · have := ih (n * 128 + b.toNat % 128) l; simp; omega
      · split <;> simp
theorem takeS_rest (l : List UInt8) : (takeS l).2.2.length ≤ l.length := by
  unfold takeS; split
  · simp
  · exact takeGo_rest _ _ _
theorem info_int : (Try.prog.info? 3).map (fun i => (i.zero, i.size, i.bytes)) = some (some (.int .i64 0), 1, 8) := by kernel_rfl

set_option maxRecDepth 100000 in
set_option maxHeartbeats 1000000 in
theorem Takes_any (v : Value) (bs : List UInt8) (many : Nat) (hm : many ≤ 1000000) (w : World) (hBs : Bs w v bs) (hl : bs.length ≤ 140737488355328) : Calls Try.prog 72 #[v, .int .i64 many] w (TakesP w (takesGo many [] bs)) := by
  obtain ⟨i0, hi, hz0, hz1, hz2⟩ := info_parts info_int
  go_enter Try.func72, Try.ntmps72
  go_wp2_with (go_at_call 71; refine (Clone_any _ _ _ hBs hl).mono ?_; rintro e w1 ⟨v1, rfl, ho1, hE1⟩)
  go_loopw [4, 5, 6, 11] (fun vl vr er i wr => ∃ (k : Nat) (acc : List Int) (rest : List UInt8), k ≤ many ∧ i = .int .i64 k ∧ er = .int .i64 0 ∧ acc.length ≤ k ∧ rest.length ≤ bs.length ∧ Hid (takesGo many [] bs = takesGo (many - k) acc rest) ∧
      wr.ownsRow w.heap.size 3 1 vl acc.length (acc.map iv) ∧ wr.ownsRow w.heap.size 5 1 vr rest.length (rest.map bv) ∧ Ext w wr) (fun _ _ _ i _ => many - (intOf i).toNat)
  case atStart => exact ⟨0, [], bs, Nat.zero_le _, rfl, rfl, by simp, Nat.le_refl _, rfl, World.ownsRow_nil _ _ _ _, ho1, hE1⟩
  case round =>
    
    obtain ⟨k, acc, rest, hk, rfl, rfl, hacc, hrest, HT, hown, hbr, hE⟩ := hrel
    by_cases hlt : k < many
    · have hT := HT.out
      rw [show many - k = (many - k - 1) + 1 from by omega, takesGo] at hT
      have hrr := takeS_rest rest
      have key := Take_any _ rest wr (SlR.of_own hbr) (by omega)
      rcases hts : takeS rest with ⟨er, n, r2⟩
      rw [hts] at hT hrr key
      simp only at hT hrr
      by_cases her : er = 0
      · subst her
        simp only [if_true] at hT
        have HT2 := Lib.hid hT
        have Key := Lib.hid key
        clear hT HT key hts
        go_wp2_with (first
          | (go_at_call 55; refine Key.out.mono ?_; rintro e w2 ⟨v2, rfl, hb2, hE2⟩)
          | (at_builtin; refine wpList_append_sl _ rfl (.tmp 22) (.tmp 24) 68 rfl w.heap.size 3 i0 (.int .i64 0) 1 8 Try.underlying68 hi hz0 hz1 hz2 rfl (by decide) _ acc.length (acc.map iv) rfl (own_ext hown (Ext.alloc hE2 _)) (.slice (some ⟨w2.heap.size, 0, none⟩) 1 1) 1 [.int .i64 n] rfl (SlR.of_own (own_new w2 [.int .i64 n] 3 1 rfl (by simp [maxLen]) (Nat.le_refl _))) (by simp [Value.oneCell']) (by unfold maxLen; omega) (by omega) (by have := hE.size; have := hE2.size; simp; omega) ?_; intro v' w3 hown' hgrow))
        go_roundw
        case rel =>
          have hE3 : Ext w w3 := Ext.grownOwn (Ext.alloc (Ext.trans hE hE2) _) (own_ext hown (Ext.alloc hE2 _)) hgrow
          refine ⟨k + 1, acc ++ [(n : Int)], r2, by omega, by go_num, rfl, by simp; omega, by omega, ?_, by simpa [iv] using hown', ?_, hE3⟩
          · show _ = _; rw [HT2.out, show many - (k + 1) = many - k - 1 from by omega]
          · have hb3 : (w2.alloc (.cells #[.int .i64 n] 3)).ownsRow w.heap.size 5 1 v2 r2.length (r2.map bv) := own_ext (own_base hb2 hE.size) (Ext.alloc (Ext.refl _) _)
            have ho3 : (w2.alloc (.cells #[.int .i64 n] 3)).ownsRow w.heap.size 3 1 _ acc.length (acc.map iv) := own_ext hown (Ext.alloc hE2 _)
            exact hb3.kept hgrow (own_apart hb3 ho3 (by decide))
        case measure => simp [intOf]; omega
      · have hne : ((er : Int) != 0) = true := by simp [her]
        rw [if_neg her] at hT
        have HT2 := Lib.hid hT
        have Key := Lib.hid key
        clear hT HT key hts
        go_wp2_with (go_at_call 55; refine Key.out.mono ?_; rintro e w2 ⟨v2, rfl, hb2, hE2⟩)
        go_ret3
        exact ⟨_, _, by rw [HT2.out]; rfl, by rw [HT2.out]; exact World.ownsRow_nil _ _ _ _, by rw [HT2.out]; exact World.ownsRow_nil _ _ _ _, Ext.trans hE hE2⟩
    · have hT := HT.out
      rw [show many - k = 0 from by omega, takesGo] at hT
      have HT2 := Lib.hid hT
      clear hT HT
      go_wp2_with fail
      go_ret3
      exact ⟨_, _, by rw [HT2.out]; rfl, by rw [HT2.out]; exact hown, by rw [HT2.out]; exact hbr, hE⟩
end Go.Proofs.Ytibbbdifkopebaa
