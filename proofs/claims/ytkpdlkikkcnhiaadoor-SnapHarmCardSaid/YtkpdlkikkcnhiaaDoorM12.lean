/-
  The walks of snap.Text, snap.puts$1, snap.puts$2.
  The walk of snap.puts$2.
  The walks of snap.puts, snap.Put.
-/
import Derived.Test.YtkpdlkikkcnhiaaDoorM11
set_option linter.all false
namespace Go.Mv
open Go.RowKit
section
variable {P : Program} {ops : Array Oper} {Q : Exit → Act → World → Prop} {md : Region.Mode} {S : World → Prop}
/-- In a held region, two that may come up. -/
theorem AllReadyH.two {fuel : Nat} {listed : Array Bool} {a : Act} {w : World} {i j : Nat} {o o2 : Oper} (ho : ops.toList[i]? = some o) (ho2 : ops.toList[j]? = some o2) (hr : Region.ready md ops listed = [i, j]) (hw : Region.wanted o (yielded ops a.tmps) = true) (hw2 : Region.wanted o2 (yielded ops a.tmps) = true)
    (h : ∀ K' : Act → World → Prop, Shut (∀ a w, S w → (S w → wpAnyH P md ops Q S fuel (listed.setIfInBounds i true) a w) → K' a w) → Oper.wp P o a w K' Q)
    (h2 : ∀ K' : Act → World → Prop, Shut (∀ a w, S w → (S w → wpAnyH P md ops Q S fuel (listed.setIfInBounds j true) a w) → K' a w) → Oper.wp P o2 a w K' Q) : wpAnyH P md ops Q S (fuel + 1) listed a w :=
  wpAnyH_ready hr (by simp) (AllReadyH.cons (by simpa using ho) (fun K hK => by rw [if_pos hw]; exact h K hK) (AllReadyH.cons (by simpa using ho2) (fun K hK => by rw [if_pos hw2]; exact h2 K hK) AllReadyH.nil))
end
end Go.Mv
namespace Go.Proofs.YtkpdlkikkcnhiaaDoor
open Go.RowKit Go.Mv
set_option maxRecDepth 100000

def staC5 (W : World) (b : Nat) (s : Sta) : Prop := W.cell? ⟨b, 0, none⟩ = some (.int .i64 s.idx) ∧ W.cell? ⟨b, 1, none⟩ = some (.int .i64 s.term) ∧ W.cell? ⟨b, 2, none⟩ = some (.int .i64 s.sum) ∧ W.cell? ⟨b, 3, none⟩ = some (.int .i64 s.lvl) ∧ W.cell? ⟨b, 4, none⟩ = some (.bool s.fin)
theorem sz_alloc (w : World) (o : Obj) : (w.alloc o).heap.size = w.heap.size + 1 := by
  show (w.heap.push o).size = _
  simp
theorem is5 (W : World) (a b c d e : Int) : Is (W.alloc (.cells #[.int .i64 a, .int .i64 b, .int .i64 c, .int .i64 d, .int .i64 e] 3)) (.slice (some ⟨W.heap.size, 0, none⟩) 5 5) [a, b, c, d, e] :=
  SlR.of_own (own_new W [.int .i64 a, .int .i64 b, .int .i64 c, .int .i64 d, .int .i64 e] 3 5 rfl (by simp [maxLen]) (Nat.le_refl _))

theorem Text_bad (s : Sta) (w : World) (h : s.ok = false) : Calls Tryd.prog 29 #[.agg #[.int .i64 s.idx, .int .i64 s.term, .int .i64 s.sum, .int .i64 s.lvl, .bool s.fin]] w (ShortBad w) := by
  have H := Lib.hid h
  clear h
  go_enter Tryd.func29, Tryd.ntmps29
  go_wp2_with fail
  refine (Fine_any s _).mono ?_
  rw [H.out]
  rintro e w1 ⟨rfl, hE1⟩
  go_wp2_with fail
  go_ret2
  exact ⟨rfl, Ext.trans (Ext.alloc (Ext.refl _) _) hE1⟩
set_option maxHeartbeats 1000000 in
theorem Text_ok (s : Sta) (w : World) (h : s.ok = true) : Calls Tryd.prog 29 #[.agg #[.int .i64 s.idx, .int .i64 s.term, .int .i64 s.sum, .int .i64 s.lvl, .bool s.fin]] w (ShortOk w s.ints) := by
  have H := Lib.hid h
  have Hn := Lib.hid (Sta.nums h)
  have Hi : Hid (s.ints = [s.idx, s.term, s.sum, s.lvl, s.finI]) := rfl
  clear h
  have hb := Blk.new w 23 #[.int .i64 s.idx, .int .i64 s.term, .int .i64 s.sum, .int .i64 s.lvl, .bool s.fin]
  go_enter Tryd.func29, Tryd.ntmps29
  go_wp2_with fail
  refine (Fine_any s _).mono ?_
  rw [H.out]
  rintro e w1 ⟨rfl, hE1⟩
  go_wp2_with fail
  have hX : Ext w (w.alloc (.cells #[.int .i64 s.idx, .int .i64 s.term, .int .i64 s.sum, .int .i64 s.lvl, .bool s.fin] 23)) := Ext.alloc (Ext.refl _) _
  refine wp_region_held_drew (S := fun w' => w'.cell? ⟨w.heap.size, 0, none⟩ = some (.int .i64 s.idx) ∧ w'.cell? ⟨w.heap.size, 1, none⟩ = some (.int .i64 s.term) ∧ w'.cell? ⟨w.heap.size, 2, none⟩ = some (.int .i64 s.sum) ∧ w'.cell? ⟨w.heap.size, 3, none⟩ = some (.int .i64 s.lvl) ∧ w'.cell? ⟨w.heap.size, 4, none⟩ = some (.bool s.fin)) (by kernel_rfl) (blk5 (hb.ext (Ext.drew hE1))) (fun hHeld => ?_)
  refine wpAnyH_takeL (i := 0) (v := ?v1_0) rfl (by kernel_rfl) (by kernel_rfl) (by kernel_rfl) (fun _ _ _ h => h) (by rfl) (by assumption) (fun w hw => ?h1_0) ?r1_0
  case h1_0 => (try dsimp only at hw); go_simp; try with_reducible rfl
  case' r1_0 => skip
  try simp only [Act.put, List.setIfInBounds_toArray, List.set_cons_zero, List.set_cons_succ]
  refine wpAnyH_takeL (i := 1) (v := ?v1_1) rfl (by kernel_rfl) (by kernel_rfl) (by kernel_rfl) (fun _ _ _ h => h) (by rfl) (by assumption) (fun w hw => ?h1_1) ?r1_1
  case h1_1 => (try dsimp only at hw); go_simp; try with_reducible rfl
  case' r1_1 => skip
  try simp only [Act.put, List.setIfInBounds_toArray, List.set_cons_zero, List.set_cons_succ]
  refine wpAnyH_takeL (i := 2) (v := ?v1_2) rfl (by kernel_rfl) (by kernel_rfl) (by kernel_rfl) (fun _ _ _ h => h) (by rfl) (by assumption) (fun w hw => ?h1_2) ?r1_2
  case h1_2 => (try dsimp only at hw); go_simp; try with_reducible rfl
  case' r1_2 => skip
  try simp only [Act.put, List.setIfInBounds_toArray, List.set_cons_zero, List.set_cons_succ]
  refine wpAnyH_takeL (i := 3) (v := ?v1_3) rfl (by kernel_rfl) (by kernel_rfl) (by kernel_rfl) (fun _ _ _ h => h) (by rfl) (by assumption) (fun w hw => ?h1_3) ?r1_3
  case h1_3 => (try dsimp only at hw); go_simp; try with_reducible rfl
  case' r1_3 => skip
  try simp only [Act.put, List.setIfInBounds_toArray, List.set_cons_zero, List.set_cons_succ]
  refine wpAnyH_takeL (i := 4) (v := ?v1_4) rfl (by kernel_rfl) (by kernel_rfl) (by kernel_rfl) (fun _ _ _ h => h) (by rfl) (by assumption) (fun w hw => ?h1_4) ?r1_4
  case h1_4 => (try dsimp only at hw); go_simp; try with_reducible rfl
  case' r1_4 => skip
  try simp only [Act.put, List.setIfInBounds_toArray, List.set_cons_zero, List.set_cons_succ]
  refine wpAnyH_takeL (i := 5) (v := ?v1_5) rfl (by kernel_rfl) (by kernel_rfl) (by kernel_rfl) (fun _ _ _ h => h) (by rfl) (by assumption) (fun w hw => ?h1_5) ?r1_5
  case h1_5 => (try dsimp only at hw); go_simp; try with_reducible rfl
  case' r1_5 => skip
  try simp only [Act.put, List.setIfInBounds_toArray, List.set_cons_zero, List.set_cons_succ]
  refine wpAnyH_takeL (i := 6) (v := ?v1_6) rfl (by kernel_rfl) (by kernel_rfl) (by kernel_rfl) (fun _ _ _ h => h) (by rfl) (by assumption) (fun w hw => ?h1_6) ?r1_6
  case h1_6 => (try dsimp only at hw); go_simp; try with_reducible rfl
  case' r1_6 => skip
  try simp only [Act.put, List.setIfInBounds_toArray, List.set_cons_zero, List.set_cons_succ]
  refine wpAnyH_takeL (i := 7) (v := ?v1_7) rfl (by kernel_rfl) (by kernel_rfl) (by kernel_rfl) (fun _ _ _ h => h) (by rfl) (by assumption) (fun w hw => ?h1_7) ?r1_7
  case h1_7 => (try dsimp only at hw); go_simp; try with_reducible rfl
  case' r1_7 => skip
  try simp only [Act.put, List.setIfInBounds_toArray, List.set_cons_zero, List.set_cons_succ]
  refine wpAnyH_takeL (i := 8) (v := ?v1_8) rfl (by kernel_rfl) (by kernel_rfl) (by kernel_rfl) (fun _ _ _ h => h) (by rfl) (by assumption) (fun w hw => ?h1_8) ?r1_8
  case h1_8 => (try dsimp only at hw); go_simp; try with_reducible rfl
  case' r1_8 => skip
  try simp only [Act.put, List.setIfInBounds_toArray, List.set_cons_zero, List.set_cons_succ]
  refine AllReadyH.one (i := 9) rfl (by kernel_rfl) (by rfl) (fun K hK => ?_)
  go_simp
  refine (final_any s _).mono ?_
  rintro e w2 ⟨rfl, hE2⟩
  have hE02 : Ext (w.alloc (.cells #[.int .i64 s.idx, .int .i64 s.term, .int .i64 s.sum, .int .i64 s.lvl, .bool s.fin] 23)) w2 := Ext.trans (Ext.drew hE1) hE2
  try (go_wp2_with fail)
  refine hK.out _ _ (blk5 (hb.ext hE02)) (fun hHeld => ?_)
  clear hK K
  try simp only [Act.put, List.setIfInBounds_toArray, List.set_cons_zero, List.set_cons_succ]
  refine AllReadyH.one (i := 10) rfl (by kernel_rfl) (by rfl) (fun K hK => ?_)
  go_simp
  refine hK.out _ _ (blk5 (hb.ext (Ext.alloc hE02 _))) (fun hHeld => ?_)
  clear hK K
  try simp only [Act.put, List.setIfInBounds_toArray, List.set_cons_zero, List.set_cons_succ]
  refine AllReadyH.one (i := 11) rfl (by kernel_rfl) (by rfl) (fun K hK => ?_)
  go_simp
  refine (Short_ok _ _ _ (is5 w2 s.idx s.term s.sum s.lvl s.finI) (by rw [← Hi.out]; exact Hn.out) (by simp)).mono ?_
  rw [← Hi.out]
  rintro e w4 ⟨v, rfl, ho, hE4⟩
  try (go_wp2_with fail)
  have hE04 := Ext.trans (Ext.alloc hE02 (.cells #[.int .i64 s.idx, .int .i64 s.term, .int .i64 s.sum, .int .i64 s.lvl, .int .i64 s.finI] 3)) hE4
  refine hK.out _ _ (blk5 (hb.ext hE04)) (fun hHeld => ?_)
  clear hK K
  try simp only [Act.put, List.setIfInBounds_toArray, List.set_cons_zero, List.set_cons_succ]
  refine wpAnyH_takeL (i := 12) (v := ?v8_12) rfl (by kernel_rfl) (by kernel_rfl) (by kernel_rfl) (fun _ _ _ h => h) (by rfl) (by assumption) (fun w hw => ?h8_12) ?r8_12
  case h8_12 => (try dsimp only at hw); go_simp; try with_reducible rfl
  case' r8_12 => skip
  try simp only [Act.put, List.setIfInBounds_toArray, List.set_cons_zero, List.set_cons_succ]
  refine wpAnyH_takeL (i := 13) (v := ?v8_13) rfl (by kernel_rfl) (by kernel_rfl) (by kernel_rfl) (fun _ _ _ h => h) (by rfl) (by assumption) (fun w hw => ?h8_13) ?r8_13
  case h8_13 => (try dsimp only at hw); go_simp; try with_reducible rfl
  case' r8_13 => skip
  try simp only [Act.put, List.setIfInBounds_toArray, List.set_cons_zero, List.set_cons_succ]
  refine wpAnyH_takeL (i := 14) (v := ?v8_14) rfl (by kernel_rfl) (by kernel_rfl) (by kernel_rfl) (fun _ _ _ h => h) (by rfl) (by assumption) (fun w hw => ?h8_14) ?r8_14
  case h8_14 => (try dsimp only at hw); go_simp; try with_reducible rfl
  case' r8_14 => skip
  try simp only [Act.put, List.setIfInBounds_toArray, List.set_cons_zero, List.set_cons_succ]
  refine wpAnyH_takeL (i := 15) (v := ?v8_15) rfl (by kernel_rfl) (by kernel_rfl) (by kernel_rfl) (fun _ _ _ h => h) (by rfl) (by assumption) (fun w hw => ?h8_15) ?r8_15
  case h8_15 => (try dsimp only at hw); go_simp; try with_reducible rfl
  case' r8_15 => skip
  try simp only [Act.put, List.setIfInBounds_toArray, List.set_cons_zero, List.set_cons_succ]
  refine wpAnyH_done (by kernel_rfl) ?_ _
  go_wp2_with fail
  go_ret2
  exact ⟨v, rfl, own_base ho (Ext.trans hX (Ext.alloc hE02 _)).size, Ext.trans hX hE04⟩

theorem is3i (W : World) (a b c : Int) : Is (W.alloc (.cells #[.int .i64 a, .int .i64 b, .int .i64 c] 3)) (.slice (some ⟨W.heap.size, 0, none⟩) 3 3) [a, b, c] :=
  SlR.of_own (own_new W [.int .i64 a, .int .i64 b, .int .i64 c] 3 3 rfl (by simp [maxLen]) (Nat.le_refl _))
/-- The first writing of a state. -/
def put1 (s : Sta) : List UInt8 := crcPut (1 :: (longs [s.idx, s.term, s.sum] ++ [UInt8.ofNat s.lvl.toNat, UInt8.ofNat s.finI.toNat]))
theorem bs1 (W : World) (a : UInt8) (n : Nat) (h : n = a.toNat) : Bs (W.alloc (.cells #[.int .u8 n] 5)) (.slice (some ⟨W.heap.size, 0, none⟩) 1 1) [a] := by
  subst h
  exact SlR.of_own (own_new W [bv a] 5 1 rfl (by simp [maxLen]) (Nat.le_refl _))
theorem bs2 (W : World) (a b : UInt8) : Bs (W.alloc (.cells #[bv a, bv b] 5)) (.slice (some ⟨W.heap.size, 0, none⟩) 2 2) [a, b] :=
  SlR.of_own (own_new W [bv a, bv b] 5 2 rfl (by simp [maxLen]) (Nat.le_refl _))
set_option maxHeartbeats 1000000 in
theorem puts1_any (s : Sta) (w : World) (h : s.ok = true) (hT : TabW w) : Calls Tryd.prog 24 #[.agg #[.int .i64 s.idx, .int .i64 s.term, .int .i64 s.sum, .int .i64 s.lvl, .bool s.fin]] w fun e w' => ∃ A c, e = .returned (.slice A (put1 s).length c) ∧ OwnB w' w.heap.size (.slice A (put1 s).length c) (put1 s) ∧ Ext w w' := by
  have HT := Lib.hid hT
  have Hn : Hid (allNum [s.idx, s.term, s.sum] = true) := by
    obtain ⟨h1, h2, h3, _⟩ := Sta.okP h
    exact by simp [Hid, allNum, h1, h2, h3]
  obtain ⟨xl, hxl⟩ : ∃ x, UInt8.ofNat s.lvl.toNat = x := ⟨_, rfl⟩
  obtain ⟨xf, hxf⟩ : ∃ x, UInt8.ofNat s.finI.toNat = x := ⟨_, rfl⟩
  have hwl : IntKind.u8.wrap s.lvl = (xl.toNat : Int) := by subst hxl; rcases (Sta.okP h).2.2.2 with e | e <;> rw [e] <;> rfl
  have hwf : IntKind.u8.wrap s.finI = (xf.toNat : Int) := by subst hxf; rcases s.finP with e | e <;> rw [e] <;> rfl
  have Hps : Hid (put1 s = crcPut (1 :: (longs [s.idx, s.term, s.sum] ++ [xl, xf]))) := by subst hxl; subst hxf; rfl
  have Hfe : Hid (([[1], longs [s.idx, s.term, s.sum], [xl, xf]] : List (List UInt8)).flatten = 1 :: (longs [s.idx, s.term, s.sum] ++ [xl, xf])) := by simp [Hid]
  have Hfm : Hid ((1 :: (longs [s.idx, s.term, s.sum] ++ [xl, xf])).length = 18) := by simp [Hid, longs_len]
  have Hfl : Hid (([[1], longs [s.idx, s.term, s.sum], [xl, xf]] : List (List UInt8)).flatten.length = 18) := by rw [Hid, Hfe.out]; exact Hfm.out
  clear h hT hxl hxf
  have hb := Blk.new w 23 #[.int .i64 s.idx, .int .i64 s.term, .int .i64 s.sum, .int .i64 s.lvl, .bool s.fin]
  have hX : Ext w (w.alloc (.cells #[.int .i64 s.idx, .int .i64 s.term, .int .i64 s.sum, .int .i64 s.lvl, .bool s.fin] 23)) := Ext.alloc (Ext.refl _) _
  obtain ⟨g0, g1, g2, g3, g4⟩ := blk5 hb
  go_enter Tryd.func24, Tryd.ntmps24
  go_wp2_with fail
  have hi3 := is3i (w.alloc (.cells #[.int .i64 s.idx, .int .i64 s.term, .int .i64 s.sum, .int .i64 s.lvl, .bool s.fin] 23)) s.idx s.term s.sum
  rw [sz_alloc] at hi3
  refine (Long_ok _ _ _ hi3 Hn.out (by simp)).mono ?_
  rintro e w1 ⟨v, rfl, ho, hE1⟩
  obtain ⟨Av, cv, rfl, -, -⟩ := SlR.open_ (SlR.of_own ho)
  go_wp2_with fail
  have hE01 : Ext (w.alloc (.cells #[.int .i64 s.idx, .int .i64 s.term, .int .i64 s.sum, .int .i64 s.lvl, .bool s.fin] 23)) w1 := Ext.trans (Ext.alloc (Ext.refl _) _) hE1
  clear g0 g1 g2 g3 g4
  refine wp_region_held_drew (S := fun w' => w'.cell? ⟨w.heap.size, 0, none⟩ = some (.int .i64 s.idx) ∧ w'.cell? ⟨w.heap.size, 1, none⟩ = some (.int .i64 s.term) ∧ w'.cell? ⟨w.heap.size, 2, none⟩ = some (.int .i64 s.sum) ∧ w'.cell? ⟨w.heap.size, 3, none⟩ = some (.int .i64 s.lvl) ∧ w'.cell? ⟨w.heap.size, 4, none⟩ = some (.bool s.fin)) (by kernel_rfl) (blk5 (hb.ext (Ext.drew hE01))) (fun hHeld => ?_)
  refine wpAnyH_takeL (i := 1) (v := ?v10_1) rfl (by kernel_rfl) (by kernel_rfl) (by kernel_rfl) (fun _ _ _ h => h) (by rfl) (by assumption) (fun w hw => ?h10_1) ?r10_1
  case h10_1 => (try dsimp only at hw); go_simp; try with_reducible rfl
  case' r10_1 => skip
  try simp only [Act.put, List.setIfInBounds_toArray, List.set_cons_zero, List.set_cons_succ]
  refine wpAnyH_takeL (i := 2) (v := ?v10_2) rfl (by kernel_rfl) (by kernel_rfl) (by kernel_rfl) (fun _ _ _ h => h) (by rfl) (by assumption) (fun w hw => ?h10_2) ?r10_2
  case h10_2 => (try dsimp only at hw); go_simp; try with_reducible rfl
  case' r10_2 => skip
  try simp only [Act.put, List.setIfInBounds_toArray, List.set_cons_zero, List.set_cons_succ]
  refine wpAnyH_takeL (i := 3) (v := ?v10_3) rfl (by kernel_rfl) (by kernel_rfl) (by kernel_rfl) (fun _ _ _ h => h) (by rfl) (by assumption) (fun w hw => ?h10_3) ?r10_3
  case h10_3 => (try dsimp only at hw); go_simp; try with_reducible rfl
  case' r10_3 => skip
  try simp only [Act.put, List.setIfInBounds_toArray, List.set_cons_zero, List.set_cons_succ]
  refine wpAnyH_takeL (i := 4) (v := ?v10_4) rfl (by kernel_rfl) (by kernel_rfl) (by kernel_rfl) (fun _ _ _ h => h) (by rfl) (by assumption) (fun w hw => ?h10_4) ?r10_4
  case h10_4 => (try dsimp only at hw); go_simp; try with_reducible rfl
  case' r10_4 => skip
  try simp only [Act.put, List.setIfInBounds_toArray, List.set_cons_zero, List.set_cons_succ]
  refine wpAnyH_takeL (i := 5) (v := ?v10_5) rfl (by kernel_rfl) (by kernel_rfl) (by kernel_rfl) (fun _ _ _ h => h) (by rfl) (by assumption) (fun w hw => ?h10_5) ?r10_5
  case h10_5 => (try dsimp only at hw); go_simp; try with_reducible rfl
  case' r10_5 => skip
  try simp only [Act.put, List.setIfInBounds_toArray, List.set_cons_zero, List.set_cons_succ]
  refine AllReadyH.two (i := 0) (j := 6) rfl rfl (by kernel_rfl) (by rfl) (by rfl) (fun K hK => ?_) (fun K hK => ?_)
  · go_simp
    refine hK.out _ _ (blk5 (hb.ext (Ext.drew (Ext.alloc hE01 _)))) (fun hHeld => ?_)
    clear hK K
    try simp only [Act.put, List.setIfInBounds_toArray, List.set_cons_zero, List.set_cons_succ]
    refine AllReadyH.one (i := 6) rfl (by kernel_rfl) (by rfl) (fun K hK => ?_)
    go_simp
    refine (final_any s _).mono ?_
    rintro e w2 ⟨rfl, hE2⟩
    try (go_wp2_with fail)
    have hE12 : Ext (w1.alloc (.cells #[.int .u8 1] 5)) w2 := Ext.trans (Ext.drew (Ext.refl _)) hE2
    refine hK.out _ _ (blk5 (hb.ext (Ext.trans (Ext.alloc hE01 _) hE12))) (fun hHeld => ?_)
    clear hK K
    try simp only [Act.put, List.setIfInBounds_toArray, List.set_cons_zero, List.set_cons_succ]
    refine wpAnyH_takeL (i := 7) (v := ?v14_7) rfl (by kernel_rfl) (by kernel_rfl) (by kernel_rfl) (fun _ _ _ h => h) (by rfl) (by assumption) (fun w hw => ?h14_7) ?r14_7
    case h14_7 => (try dsimp only at hw); go_simp; try with_reducible rfl
    case' r14_7 => skip
    try simp only [Act.put, List.setIfInBounds_toArray, List.set_cons_zero, List.set_cons_succ]
    have hq16 := Bs.ext (bs1 w1 1 1 rfl) hE12
    have hE13 := Ext.trans (Ext.alloc (Ext.refl w1) (.cells #[.int .u8 1] 5)) hE12
    refine AllReadyH.one (i := 8) rfl (by kernel_rfl) (by rfl) (fun K hK => ?_)
    go_simp
    refine hK.out _ _ (blk5 (hb.ext (Ext.alloc (Ext.trans hE01 hE13) _))) (fun hHeld => ?_)
    clear hK K
    try simp only [Act.put, List.setIfInBounds_toArray, List.set_cons_zero, List.set_cons_succ]
    have hq24 := bs2 w2 xl xf
    have hq16' := Bs.ext hq16 (Ext.alloc (Ext.refl _) (.cells #[bv xl, bv xf] 5))
    have hE14 := Ext.alloc hE13 (.cells #[bv xl, bv xf] 5)
    have hvv : Bs (w2.alloc (.cells #[bv xl, bv xf] 5)) (.slice Av (longs [s.idx, s.term, s.sum]).length cv) (longs [s.idx, s.term, s.sum]) := Bs.ext (SlR.of_own ho) hE14
    have hEW := Ext.trans hE01 hE14
    refine AllReadyH.one (i := 9) rfl (by kernel_rfl) (by rfl) (fun K hK => ?_)
    go_simp
    refine hK.out _ _ (blk5 (hb.ext (Ext.alloc hEW _))) (fun hHeld => ?_)
    clear hK K
    try simp only [Act.put, List.setIfInBounds_toArray, List.set_cons_zero, List.set_cons_succ]
    refine AllReadyH.one (i := 10) rfl (by kernel_rfl) (by rfl) (fun K hK => ?_)
    go_simp
    have hp := parts3 hq16' hvv hq24
    simp only [sz_alloc] at hp
    refine (Concat_any _ [[1], longs [s.idx, s.term, s.sum], [xl, xf]] _ hp (by rw [Hfl.out]; omega)).mono ?_
    rintro e w6 ⟨vc, rfl, hoc, hE6⟩
    rw [Hfe.out] at hoc
    try (go_wp2_with fail)
    have hE06 := Ext.trans (Ext.alloc hEW (.cells #[.slice (some ⟨_, 0, none⟩) 1 1, .slice Av (longs [s.idx, s.term, s.sum]).length cv, .slice (some ⟨_, 0, none⟩) 2 2] 24)) hE6
    refine hK.out _ _ (blk5 (hb.ext hE06)) (fun hHeld => ?_)
    clear hK K
    try simp only [Act.put, List.setIfInBounds_toArray, List.set_cons_zero, List.set_cons_succ]
    refine AllReadyH.one (i := 11) rfl (by kernel_rfl) (by rfl) (fun K hK => ?_)
    go_simp
    refine (crcPut_any _ _ _ (SlR.of_own hoc) (by rw [Hfm.out]; omega) (by rw [Hfm.out]; omega) (HT.out.ext (Ext.trans hX hE06))).mono ?_
    rintro e w7 ⟨A7, c7, rfl, ho7, hE7⟩
    try (go_wp2_with fail)
    have hE07 := Ext.trans hE06 hE7
    refine hK.out _ _ (blk5 (hb.ext hE07)) (fun hHeld => ?_)
    clear hK K
    try simp only [Act.put, List.setIfInBounds_toArray, List.set_cons_zero, List.set_cons_succ]
    refine wpAnyH_takeL (i := 12) (v := ?v23_12) rfl (by kernel_rfl) (by kernel_rfl) (by kernel_rfl) (fun _ _ _ h => h) (by rfl) (by assumption) (fun w hw => ?h23_12) ?r23_12
    case h23_12 => (try dsimp only at hw); go_simp; try with_reducible rfl
    case' r23_12 => skip
    try simp only [Act.put, List.setIfInBounds_toArray, List.set_cons_zero, List.set_cons_succ]
    refine wpAnyH_done (by kernel_rfl) ?_ _
    go_wp2_with fail
    go_ret
    have hfin : OwnB w7 w.heap.size (.slice A7 (crcPut (1 :: (longs [s.idx, s.term, s.sum] ++ [xl, xf]))).length c7) (crcPut (1 :: (longs [s.idx, s.term, s.sum] ++ [xl, xf]))) := own_base ho7 (Ext.trans hX hE06).size
    rw [Hps.out]
    exact ⟨A7, c7, rfl, hfin, Ext.trans hX hE07⟩
  · go_simp
    refine (final_any s _).mono ?_
    rintro e w2 ⟨rfl, hE2⟩
    try (go_wp2_with fail)
    have hE12 : Ext w1 w2 := Ext.trans (Ext.drew (Ext.refl _)) hE2
    refine hK.out _ _ (blk5 (hb.ext (Ext.trans hE01 hE12))) (fun hHeld => ?_)
    clear hK K
    try simp only [Act.put, List.setIfInBounds_toArray, List.set_cons_zero, List.set_cons_succ]
    refine wpAnyH_takeL (i := 7) (v := ?v26_7) rfl (by kernel_rfl) (by kernel_rfl) (by kernel_rfl) (fun _ _ _ h => h) (by rfl) (by assumption) (fun w hw => ?h26_7) ?r26_7
    case h26_7 => (try dsimp only at hw); go_simp; try with_reducible rfl
    case' r26_7 => skip
    try simp only [Act.put, List.setIfInBounds_toArray, List.set_cons_zero, List.set_cons_succ]
    refine AllReadyH.two (i := 0) (j := 8) rfl rfl (by kernel_rfl) (by rfl) (by rfl) (fun K hK => ?_) (fun K hK => ?_)
    · go_simp
      refine hK.out _ _ (blk5 (hb.ext (Ext.alloc (Ext.trans hE01 hE12) _))) (fun hHeld => ?_)
      clear hK K
      try simp only [Act.put, List.setIfInBounds_toArray, List.set_cons_zero, List.set_cons_succ]
      have hq16 := bs1 w2 1 1 rfl
      refine AllReadyH.one (i := 8) rfl (by kernel_rfl) (by rfl) (fun K hK => ?_)
      go_simp
      have hE13 := Ext.alloc hE12 (.cells #[.int .u8 1] 5)
      refine hK.out _ _ (blk5 (hb.ext (Ext.alloc (Ext.trans hE01 hE13) _))) (fun hHeld => ?_)
      clear hK K
      try simp only [Act.put, List.setIfInBounds_toArray, List.set_cons_zero, List.set_cons_succ]
      have hq24 := bs2 (w2.alloc (.cells #[.int .u8 1] 5)) xl xf
      rw [sz_alloc] at hq24
      have hq16' := Bs.ext hq16 (Ext.alloc (Ext.refl _) (.cells #[bv xl, bv xf] 5))
      have hE14 := Ext.alloc hE13 (.cells #[bv xl, bv xf] 5)
      have hvv : Bs ((w2.alloc (.cells #[.int .u8 1] 5)).alloc (.cells #[bv xl, bv xf] 5)) (.slice Av (longs [s.idx, s.term, s.sum]).length cv) (longs [s.idx, s.term, s.sum]) := Bs.ext (SlR.of_own ho) hE14
      have hEW := Ext.trans hE01 hE14
      refine AllReadyH.one (i := 9) rfl (by kernel_rfl) (by rfl) (fun K hK => ?_)
      go_simp
      refine hK.out _ _ (blk5 (hb.ext (Ext.alloc hEW _))) (fun hHeld => ?_)
      clear hK K
      try simp only [Act.put, List.setIfInBounds_toArray, List.set_cons_zero, List.set_cons_succ]
      refine AllReadyH.one (i := 10) rfl (by kernel_rfl) (by rfl) (fun K hK => ?_)
      go_simp
      have hp := parts3 hq16' hvv hq24
      simp only [sz_alloc] at hp
      refine (Concat_any _ [[1], longs [s.idx, s.term, s.sum], [xl, xf]] _ hp (by rw [Hfl.out]; omega)).mono ?_
      rintro e w6 ⟨vc, rfl, hoc, hE6⟩
      rw [Hfe.out] at hoc
      try (go_wp2_with fail)
      have hE06 := Ext.trans (Ext.alloc hEW (.cells #[.slice (some ⟨_, 0, none⟩) 1 1, .slice Av (longs [s.idx, s.term, s.sum]).length cv, .slice (some ⟨_, 0, none⟩) 2 2] 24)) hE6
      refine hK.out _ _ (blk5 (hb.ext hE06)) (fun hHeld => ?_)
      clear hK K
      try simp only [Act.put, List.setIfInBounds_toArray, List.set_cons_zero, List.set_cons_succ]
      refine AllReadyH.one (i := 11) rfl (by kernel_rfl) (by rfl) (fun K hK => ?_)
      go_simp
      refine (crcPut_any _ _ _ (SlR.of_own hoc) (by rw [Hfm.out]; omega) (by rw [Hfm.out]; omega) (HT.out.ext (Ext.trans hX hE06))).mono ?_
      rintro e w7 ⟨A7, c7, rfl, ho7, hE7⟩
      try (go_wp2_with fail)
      have hE07 := Ext.trans hE06 hE7
      refine hK.out _ _ (blk5 (hb.ext hE07)) (fun hHeld => ?_)
      clear hK K
      try simp only [Act.put, List.setIfInBounds_toArray, List.set_cons_zero, List.set_cons_succ]
      refine wpAnyH_takeL (i := 12) (v := ?v36_12) rfl (by kernel_rfl) (by kernel_rfl) (by kernel_rfl) (fun _ _ _ h => h) (by rfl) (by assumption) (fun w hw => ?h36_12) ?r36_12
      case h36_12 => (try dsimp only at hw); go_simp; try with_reducible rfl
      case' r36_12 => skip
      try simp only [Act.put, List.setIfInBounds_toArray, List.set_cons_zero, List.set_cons_succ]
      refine wpAnyH_done (by kernel_rfl) ?_ _
      go_wp2_with fail
      go_ret
      have hfin : OwnB w7 w.heap.size (.slice A7 (crcPut (1 :: (longs [s.idx, s.term, s.sum] ++ [xl, xf]))).length c7) (crcPut (1 :: (longs [s.idx, s.term, s.sum] ++ [xl, xf]))) := own_base ho7 (Ext.trans hX hE06).size
      rw [Hps.out]
      exact ⟨A7, c7, rfl, hfin, Ext.trans hX hE07⟩
    · go_simp
      refine hK.out _ _ (blk5 (hb.ext (Ext.alloc (Ext.trans hE01 hE12) _))) (fun hHeld => ?_)
      clear hK K
      try simp only [Act.put, List.setIfInBounds_toArray, List.set_cons_zero, List.set_cons_succ]
      have hq24 := bs2 w2 xl xf
      refine AllReadyH.one (i := 0) rfl (by kernel_rfl) (by rfl) (fun K hK => ?_)
      go_simp
      have hE13 := Ext.alloc hE12 (.cells #[bv xl, bv xf] 5)
      refine hK.out _ _ (blk5 (hb.ext (Ext.alloc (Ext.trans hE01 hE13) _))) (fun hHeld => ?_)
      clear hK K
      try simp only [Act.put, List.setIfInBounds_toArray, List.set_cons_zero, List.set_cons_succ]
      have hq16 := bs1 (w2.alloc (.cells #[bv xl, bv xf] 5)) 1 1 rfl
      rw [sz_alloc] at hq16
      have hq24' := Bs.ext hq24 (Ext.alloc (Ext.refl _) (.cells #[.int .u8 1] 5))
      have hE14 := Ext.alloc hE13 (.cells #[.int .u8 1] 5)
      have hvv : Bs ((w2.alloc (.cells #[bv xl, bv xf] 5)).alloc (.cells #[.int .u8 1] 5)) (.slice Av (longs [s.idx, s.term, s.sum]).length cv) (longs [s.idx, s.term, s.sum]) := Bs.ext (SlR.of_own ho) hE14
      have hEW := Ext.trans hE01 hE14
      refine AllReadyH.one (i := 9) rfl (by kernel_rfl) (by rfl) (fun K hK => ?_)
      go_simp
      refine hK.out _ _ (blk5 (hb.ext (Ext.alloc hEW _))) (fun hHeld => ?_)
      clear hK K
      try simp only [Act.put, List.setIfInBounds_toArray, List.set_cons_zero, List.set_cons_succ]
      refine AllReadyH.one (i := 10) rfl (by kernel_rfl) (by rfl) (fun K hK => ?_)
      go_simp
      have hp := parts3 hq16 hvv hq24'
      simp only [sz_alloc] at hp
      refine (Concat_any _ [[1], longs [s.idx, s.term, s.sum], [xl, xf]] _ hp (by rw [Hfl.out]; omega)).mono ?_
      rintro e w6 ⟨vc, rfl, hoc, hE6⟩
      rw [Hfe.out] at hoc
      try (go_wp2_with fail)
      have hE06 := Ext.trans (Ext.alloc hEW (.cells #[.slice (some ⟨_, 0, none⟩) 1 1, .slice Av (longs [s.idx, s.term, s.sum]).length cv, .slice (some ⟨_, 0, none⟩) 2 2] 24)) hE6
      refine hK.out _ _ (blk5 (hb.ext hE06)) (fun hHeld => ?_)
      clear hK K
      try simp only [Act.put, List.setIfInBounds_toArray, List.set_cons_zero, List.set_cons_succ]
      refine AllReadyH.one (i := 11) rfl (by kernel_rfl) (by rfl) (fun K hK => ?_)
      go_simp
      refine (crcPut_any _ _ _ (SlR.of_own hoc) (by rw [Hfm.out]; omega) (by rw [Hfm.out]; omega) (HT.out.ext (Ext.trans hX hE06))).mono ?_
      rintro e w7 ⟨A7, c7, rfl, ho7, hE7⟩
      try (go_wp2_with fail)
      have hE07 := Ext.trans hE06 hE7
      refine hK.out _ _ (blk5 (hb.ext hE07)) (fun hHeld => ?_)
      clear hK K
      try simp only [Act.put, List.setIfInBounds_toArray, List.set_cons_zero, List.set_cons_succ]
      refine wpAnyH_takeL (i := 12) (v := ?v47_12) rfl (by kernel_rfl) (by kernel_rfl) (by kernel_rfl) (fun _ _ _ h => h) (by rfl) (by assumption) (fun w hw => ?h47_12) ?r47_12
      case h47_12 => (try dsimp only at hw); go_simp; try with_reducible rfl
      case' r47_12 => skip
      try simp only [Act.put, List.setIfInBounds_toArray, List.set_cons_zero, List.set_cons_succ]
      refine wpAnyH_done (by kernel_rfl) ?_ _
      go_wp2_with fail
      go_ret
      have hfin : OwnB w7 w.heap.size (.slice A7 (crcPut (1 :: (longs [s.idx, s.term, s.sum] ++ [xl, xf]))).length c7) (crcPut (1 :: (longs [s.idx, s.term, s.sum] ++ [xl, xf]))) := own_base ho7 (Ext.trans hX hE06).size
      rw [Hps.out]
      exact ⟨A7, c7, rfl, hfin, Ext.trans hX hE07⟩
end Go.Proofs.YtkpdlkikkcnhiaaDoor

namespace Go.Proofs.YtkpdlkikkcnhiaaDoor
open Go.RowKit Go.Mv
set_option maxRecDepth 100000
/-- The second writing of a state. -/
def put2 (s : Sta) : List UInt8 := 2 :: UInt8.ofNat (((shorts s.ints).length + 3) / 4) :: piecesS (0, 0) (shorts s.ints)
set_option maxHeartbeats 1000000 in
theorem puts2_any (s : Sta) (w : World) (h : s.ok = true) : Calls Tryd.prog 28 #[.agg #[.int .i64 s.idx, .int .i64 s.term, .int .i64 s.sum, .int .i64 s.lvl, .bool s.fin]] w fun e w' => ∃ A c, e = .returned (.slice A (put2 s).length c) ∧ OwnB w' w.heap.size (.slice A (put2 s).length c) (put2 s) ∧ Ext w w' := by
  obtain ⟨t, ht⟩ : ∃ t, shorts s.ints = t := ⟨_, rfl⟩
  have hl25 : t.length ≤ 25 := by subst ht; exact shorts_len s.ints
  have Hok := Lib.hid h
  have Ht := Lib.hid ht
  have Hl : Hid (t.length ≤ 25) := hl25
  obtain ⟨yn, hyn⟩ : ∃ x, UInt8.ofNat ((t.length + 3) / 4) = x := ⟨_, rfl⟩
  have Hy : Hid (wrap64 ((wrap64 ((t.length : Int) + 3)).tdiv 4) % 256 = (yn.toNat : Int)) := by
    have e1 : wrap64 ((t.length : Int) + 3) = ((t.length + 3 : Nat) : Int) := by unfold wrap64; omega
    have e2 : ((t.length + 3 : Nat) : Int).tdiv 4 = (((t.length + 3) / 4 : Nat) : Int) := rfl
    have e3 : wrap64 (((t.length + 3) / 4 : Nat) : Int) = (((t.length + 3) / 4 : Nat) : Int) := by unfold wrap64; omega
    rw [Hid, e1, e2, e3, ← hyn]
    simp
  have Hp2 : Hid (put2 s = [2, yn] ++ piecesS (0, 0) t) := by rw [Hid, put2, ht, hyn]; rfl
  clear h ht hl25 hyn
  have hX : Ext w (w.alloc (.cells #[.int .i64 s.idx, .int .i64 s.term, .int .i64 s.sum, .int .i64 s.lvl, .bool s.fin] 23)) := Ext.alloc (Ext.refl _) _
  go_enter Tryd.func28, Tryd.ntmps28
  go_wp2_with fail
  refine (Text_ok s _ Hok.out).mono ?_
  rintro e w1 ⟨v, rfl, ho, hE1⟩
  rw [Ht.out] at ho
  obtain ⟨Av, cv, rfl, -, -⟩ := SlR.open_ (SlR.of_own ho)
  go_wp2_with fail
  rw [Hy.out]
  have hE01 : Ext w w1 := Ext.trans hX hE1
  have ho16 := own_new w1 [bv 2, bv yn] 5 2 rfl (by simp [maxLen]) hE01.size
  have hp16 : OwnB (w1.alloc (.cells #[bv 2, bv yn] 5)) w.heap.size (.slice (some ⟨w1.heap.size, 0, none⟩) 2 2) [2, yn] := ho16
  refine (Pieces_any _ t _ (Bs.ext (SlR.of_own ho) (Ext.alloc (Ext.refl _) _)) (by have := Hl.out; omega)).mono ?_
  rintro e w3 ⟨v3, rfl, ho3, hE3⟩
  have hE23 : Ext w w3 := Ext.trans (Ext.alloc hE01 _) hE3
  have hpl := piecesS_len (0, 0) t
  have Hpl : Hid ((piecesS (0, 0) t).length ≤ 100) := by have := Hl.out; rw [Hid]; omega
  clear hpl
  go_wp2_with (
    refine wpList_app_b rfl (.tmp 15) (.tmp 17) rfl w.heap.size _ [2, yn] rfl (OwnB.ext hp16 hE3) _ (piecesS (0, 0) t) rfl (SlR.of_own ho3) (by have := Hpl.out; simp; omega) hE23.size ?_
    intro A4 c4 w4 ho4 hg4)
  go_ret
  have hE4 := hg4 w hE23 (Nat.le_refl _)
  have e1 : put2 s = [2, yn] ++ piecesS (0, 0) t := Hp2.out
  have e2 : (put2 s).length = ([2, yn] : List UInt8).length + (piecesS (0, 0) t).length := by rw [e1, List.length_append]
  rw [e2, e1]
  exact ⟨A4, c4, rfl, ho4, hE4⟩
end Go.Proofs.YtkpdlkikkcnhiaaDoor

namespace Go.Proofs.YtkpdlkikkcnhiaaDoor
open Go.RowKit Go.Mv
set_option maxRecDepth 100000
theorem run_store_nilFunc (P : Program) (w : World) (a : Addr) (m : Mode) : (store a .nilFunc m).run P w = stored P w a .nilFunc m := run_store P w a _ m rfl
theorem run_store_func (P : Program) (w : World) (a : Addr) (m : Mode) (f : Fn) (x y : Array Value) : (store a (.func f x y) m).run P w = stored P w a (.func f x y) m := run_store P w a _ m rfl
attribute [local go_sem] run_store_nilFunc run_store_func
def putsA : Value := .agg #[.nilFunc, .func (.func 24) #[] #[], .func (.func 28) #[] #[]]
theorem puts_any (w : World) : Calls Tryd.prog 15 #[] w fun e w' => e = .returned putsA ∧ Ext w w' := by
  go_enter Tryd.func15, Tryd.ntmps15
  go_wp2
  refine bodyPost_ret (results_cell_row rfl _ _ _ 39 _ _ _ rfl (heap_alloc_new _ _) Tryd.underlying39 rfl (by kernel_rfl)) rfl ⟨rfl, Ext.alloc (Ext.refl _) _⟩

theorem puts_at1 (w : World) : (Instr.index 39 (.agg #[.nilFunc, .func (.func 24) #[] #[], .func (.func 28) #[] #[]]) (.int .i64 1)).run Tryd.prog w = .ok (.func (.func 24) #[] #[]) w := by kernel_rfl
theorem puts_at2 (w : World) : (Instr.index 39 (.agg #[.nilFunc, .func (.func 24) #[] #[], .func (.func 28) #[] #[]]) (.int .i64 2)).run Tryd.prog w = .ok (.func (.func 28) #[] #[]) w := by kernel_rfl
def PutP (w : World) (l : List UInt8) (e : Ending) (w' : World) : Prop := ∃ A c, e = .returned (.tuple #[.slice A l.length c, .int .i64 0]) ∧ OwnB w' w.heap.size (.slice A l.length c) l ∧ Ext w w'
theorem Put_bad (s : Sta) (f : Int) (w : World) (h : s.ok = false ∨ f < 1 ∨ 2 < f) : Calls Tryd.prog 7 #[.agg #[.int .i64 s.idx, .int .i64 s.term, .int .i64 s.sum, .int .i64 s.lvl, .bool s.fin], .int .i64 f] w (ShortBad w) := by
  have H := Lib.hid h
  clear h
  obtain ⟨ok, hok⟩ : ∃ x, s.ok = x := ⟨_, rfl⟩
  cases ok
  · clear H
    have H := Lib.hid hok
    clear hok
    go_enter Tryd.func7, Tryd.ntmps7
    go_wp2_with fail
    refine (Fine_any s _).mono ?_
    rw [H.out]
    rintro e w1 ⟨rfl, hE1⟩
    go_wp2_with fail
    go_ret2
    exact ⟨rfl, Ext.trans (Ext.alloc (Ext.refl _) _) hE1⟩
  · rw [hok] at H
    have Ho := Lib.hid hok
    clear hok
    by_cases h1 : f < 1
    · clear H
      go_enter Tryd.func7, Tryd.ntmps7
      go_wp2_with fail
      refine (Fine_any s _).mono ?_
      rw [Ho.out]
      rintro e w1 ⟨rfl, hE1⟩
      go_wp2_with fail
      go_ret2
      exact ⟨rfl, Ext.trans (Ext.alloc (Ext.refl _) _) hE1⟩
    · have h2 : 2 < f := by rcases H.out with q | q | q; cases q; exact absurd q h1; exact q
      clear H
      go_enter Tryd.func7, Tryd.ntmps7
      go_wp2_with fail
      refine (Fine_any s _).mono ?_
      rw [Ho.out]
      rintro e w1 ⟨rfl, hE1⟩
      go_wp2_with fail
      go_ret2
      exact ⟨rfl, Ext.trans (Ext.alloc (Ext.refl _) _) hE1⟩

set_option maxHeartbeats 1000000 in
theorem Put_ok1 (s : Sta) (w : World) (h : s.ok = true) (hT : TabW w) : Calls Tryd.prog 7 #[.agg #[.int .i64 s.idx, .int .i64 s.term, .int .i64 s.sum, .int .i64 s.lvl, .bool s.fin], .int .i64 1] w (PutP w (put1 s)) := by
  have hat := puts_at1
  have H := Lib.hid h
  have HT := Lib.hid hT
  clear h hT
  have hb := Blk.new w 23 #[.int .i64 s.idx, .int .i64 s.term, .int .i64 s.sum, .int .i64 s.lvl, .bool s.fin]
  have hX : Ext w (w.alloc (.cells #[.int .i64 s.idx, .int .i64 s.term, .int .i64 s.sum, .int .i64 s.lvl, .bool s.fin] 23)) := Ext.alloc (Ext.refl _) _
  go_enter Tryd.func7, Tryd.ntmps7
  go_wp2_with fail
  refine (Fine_any s _).mono ?_
  rw [H.out]
  rintro e w1 ⟨rfl, hE1⟩
  go_wp2_with fail
  refine wp_region_held_drew (S := fun w' => w'.cell? ⟨w.heap.size, 0, none⟩ = some (.int .i64 s.idx) ∧ w'.cell? ⟨w.heap.size, 1, none⟩ = some (.int .i64 s.term) ∧ w'.cell? ⟨w.heap.size, 2, none⟩ = some (.int .i64 s.sum) ∧ w'.cell? ⟨w.heap.size, 3, none⟩ = some (.int .i64 s.lvl) ∧ w'.cell? ⟨w.heap.size, 4, none⟩ = some (.bool s.fin)) (by kernel_rfl) (blk5 (hb.ext (Ext.drew hE1))) (fun hHeld => ?_)
  refine wpAnyH_takeL (i := 1) (v := ?v1_1) rfl (by kernel_rfl) (by kernel_rfl) (by kernel_rfl) (fun _ _ _ h => h) (by rfl) (by assumption) (fun w hw => ?h1_1) ?r1_1
  case h1_1 => (try dsimp only at hw); go_simp; try with_reducible rfl
  case' r1_1 => skip
  try simp only [Act.put, List.setIfInBounds_toArray, List.set_cons_zero, List.set_cons_succ]
  refine wpAnyH_takeL (i := 3) (v := ?v2_3) rfl (by kernel_rfl) (by kernel_rfl) (by kernel_rfl) (fun _ _ _ h => h) (by rfl) (by assumption) (fun w hw => ?h2_3) ?r2_3
  case h2_3 => (try dsimp only at hw); go_simp; try with_reducible rfl
  case' r2_3 => skip
  try simp only [Act.put, List.setIfInBounds_toArray, List.set_cons_zero, List.set_cons_succ]
  refine AllReadyH.one (i := 0) rfl (by kernel_rfl) (by rfl) (fun K hK => ?_)
  go_simp
  refine (puts_any _).mono ?_
  rintro e w2 ⟨rfl, hE2⟩
  unfold putsA
  try (go_wp2_with fail)
  have hE02 : Ext (w.alloc (.cells #[.int .i64 s.idx, .int .i64 s.term, .int .i64 s.sum, .int .i64 s.lvl, .bool s.fin] 23)) w2 := Ext.trans (Ext.drew hE1) hE2
  refine hK.out _ _ (blk5 (hb.ext hE02)) (fun hHeld => ?_)
  clear hK K
  try simp only [Act.put, List.setIfInBounds_toArray, List.set_cons_zero, List.set_cons_succ]
  refine wpAnyH_takeL (i := 2) (v := ?v5_2) rfl (by kernel_rfl) (by kernel_rfl) (by kernel_rfl) (fun _ _ _ h => h) (by rfl) (by assumption) (fun w hw => ?h5_2) ?r5_2
  case h5_2 => (try dsimp only at hw); go_simp; try with_reducible rfl
  case' r5_2 => skip
  try simp only [Act.put, List.setIfInBounds_toArray, List.set_cons_zero, List.set_cons_succ]
  refine AllReadyH.one (i := 4) rfl (by kernel_rfl) (by rfl) (fun K hK => ?_)
  go_simp
  refine (puts1_any s _ H.out (HT.out.ext (Ext.trans hX hE02))).mono ?_
  rintro e w3 ⟨A3, c3, rfl, ho3, hE3⟩
  try (go_wp2_with fail)
  have hE03 := Ext.trans hE02 hE3
  refine hK.out _ _ (blk5 (hb.ext hE03)) (fun hHeld => ?_)
  clear hK K
  try simp only [Act.put, List.setIfInBounds_toArray, List.set_cons_zero, List.set_cons_succ]
  refine wpAnyH_takeL (i := 5) (v := ?v8_5) rfl (by kernel_rfl) (by kernel_rfl) (by kernel_rfl) (fun _ _ _ h => h) (by rfl) (by assumption) (fun w hw => ?h8_5) ?r8_5
  case h8_5 => (try dsimp only at hw); go_simp; try with_reducible rfl
  case' r8_5 => skip
  try simp only [Act.put, List.setIfInBounds_toArray, List.set_cons_zero, List.set_cons_succ]
  refine wpAnyH_takeL (i := 6) (v := ?v8_6) rfl (by kernel_rfl) (by kernel_rfl) (by kernel_rfl) (fun _ _ _ h => h) (by rfl) (by assumption) (fun w hw => ?h8_6) ?r8_6
  case h8_6 => (try dsimp only at hw); go_simp; try with_reducible rfl
  case' r8_6 => skip
  try simp only [Act.put, List.setIfInBounds_toArray, List.set_cons_zero, List.set_cons_succ]
  refine wpAnyH_done (by kernel_rfl) ?_ _
  go_wp2_with fail
  go_ret2
  exact ⟨A3, c3, rfl, own_base ho3 (Ext.trans hX hE02).size, Ext.trans hX hE03⟩

set_option maxHeartbeats 1000000 in
theorem Put_ok2 (s : Sta) (w : World) (h : s.ok = true) (hT : TabW w) : Calls Tryd.prog 7 #[.agg #[.int .i64 s.idx, .int .i64 s.term, .int .i64 s.sum, .int .i64 s.lvl, .bool s.fin], .int .i64 2] w (PutP w (put2 s)) := by
  have hat := puts_at2
  have H := Lib.hid h
  have HT := Lib.hid hT
  clear h hT
  have hb := Blk.new w 23 #[.int .i64 s.idx, .int .i64 s.term, .int .i64 s.sum, .int .i64 s.lvl, .bool s.fin]
  have hX : Ext w (w.alloc (.cells #[.int .i64 s.idx, .int .i64 s.term, .int .i64 s.sum, .int .i64 s.lvl, .bool s.fin] 23)) := Ext.alloc (Ext.refl _) _
  go_enter Tryd.func7, Tryd.ntmps7
  go_wp2_with fail
  refine (Fine_any s _).mono ?_
  rw [H.out]
  rintro e w1 ⟨rfl, hE1⟩
  go_wp2_with fail
  refine wp_region_held_drew (S := fun w' => w'.cell? ⟨w.heap.size, 0, none⟩ = some (.int .i64 s.idx) ∧ w'.cell? ⟨w.heap.size, 1, none⟩ = some (.int .i64 s.term) ∧ w'.cell? ⟨w.heap.size, 2, none⟩ = some (.int .i64 s.sum) ∧ w'.cell? ⟨w.heap.size, 3, none⟩ = some (.int .i64 s.lvl) ∧ w'.cell? ⟨w.heap.size, 4, none⟩ = some (.bool s.fin)) (by kernel_rfl) (blk5 (hb.ext (Ext.drew hE1))) (fun hHeld => ?_)
  refine wpAnyH_takeL (i := 1) (v := ?v10_1) rfl (by kernel_rfl) (by kernel_rfl) (by kernel_rfl) (fun _ _ _ h => h) (by rfl) (by assumption) (fun w hw => ?h10_1) ?r10_1
  case h10_1 => (try dsimp only at hw); go_simp; try with_reducible rfl
  case' r10_1 => skip
  try simp only [Act.put, List.setIfInBounds_toArray, List.set_cons_zero, List.set_cons_succ]
  refine wpAnyH_takeL (i := 3) (v := ?v11_3) rfl (by kernel_rfl) (by kernel_rfl) (by kernel_rfl) (fun _ _ _ h => h) (by rfl) (by assumption) (fun w hw => ?h11_3) ?r11_3
  case h11_3 => (try dsimp only at hw); go_simp; try with_reducible rfl
  case' r11_3 => skip
  try simp only [Act.put, List.setIfInBounds_toArray, List.set_cons_zero, List.set_cons_succ]
  refine AllReadyH.one (i := 0) rfl (by kernel_rfl) (by rfl) (fun K hK => ?_)
  go_simp
  refine (puts_any _).mono ?_
  rintro e w2 ⟨rfl, hE2⟩
  unfold putsA
  try (go_wp2_with fail)
  have hE02 : Ext (w.alloc (.cells #[.int .i64 s.idx, .int .i64 s.term, .int .i64 s.sum, .int .i64 s.lvl, .bool s.fin] 23)) w2 := Ext.trans (Ext.drew hE1) hE2
  refine hK.out _ _ (blk5 (hb.ext hE02)) (fun hHeld => ?_)
  clear hK K
  try simp only [Act.put, List.setIfInBounds_toArray, List.set_cons_zero, List.set_cons_succ]
  refine wpAnyH_takeL (i := 2) (v := ?v14_2) rfl (by kernel_rfl) (by kernel_rfl) (by kernel_rfl) (fun _ _ _ h => h) (by rfl) (by assumption) (fun w hw => ?h14_2) ?r14_2
  case h14_2 => (try dsimp only at hw); go_simp; try with_reducible rfl
  case' r14_2 => skip
  try simp only [Act.put, List.setIfInBounds_toArray, List.set_cons_zero, List.set_cons_succ]
  refine AllReadyH.one (i := 4) rfl (by kernel_rfl) (by rfl) (fun K hK => ?_)
  go_simp
  refine (puts2_any s _ H.out).mono ?_
  rintro e w3 ⟨A3, c3, rfl, ho3, hE3⟩
  try (go_wp2_with fail)
  have hE03 := Ext.trans hE02 hE3
  refine hK.out _ _ (blk5 (hb.ext hE03)) (fun hHeld => ?_)
  clear hK K
  try simp only [Act.put, List.setIfInBounds_toArray, List.set_cons_zero, List.set_cons_succ]
  refine wpAnyH_takeL (i := 5) (v := ?v17_5) rfl (by kernel_rfl) (by kernel_rfl) (by kernel_rfl) (fun _ _ _ h => h) (by rfl) (by assumption) (fun w hw => ?h17_5) ?r17_5
  case h17_5 => (try dsimp only at hw); go_simp; try with_reducible rfl
  case' r17_5 => skip
  try simp only [Act.put, List.setIfInBounds_toArray, List.set_cons_zero, List.set_cons_succ]
  refine wpAnyH_takeL (i := 6) (v := ?v17_6) rfl (by kernel_rfl) (by kernel_rfl) (by kernel_rfl) (fun _ _ _ h => h) (by rfl) (by assumption) (fun w hw => ?h17_6) ?r17_6
  case h17_6 => (try dsimp only at hw); go_simp; try with_reducible rfl
  case' r17_6 => skip
  try simp only [Act.put, List.setIfInBounds_toArray, List.set_cons_zero, List.set_cons_succ]
  refine wpAnyH_done (by kernel_rfl) ?_ _
  go_wp2_with fail
  go_ret2
  exact ⟨A3, c3, rfl, own_base ho3 (Ext.trans hX hE02).size, Ext.trans hX hE03⟩
end Go.Proofs.YtkpdlkikkcnhiaaDoor
