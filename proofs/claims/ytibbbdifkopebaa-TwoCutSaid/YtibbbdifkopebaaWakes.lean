/-
  The walk of moultlaw08.wakes.
-/
import Derived.Test.YtibbbdifkopebaaLaw
set_option linter.all false
namespace Go.Proofs.Ytibbbdifkopebaa
open Go.RowKit Go.Mv
set_option maxRecDepth 100000

theorem own_empty (W : World) (base : Nat) (hb : base ≤ W.heap.size) : (W.alloc (.cells #[] 5)).ownsRow base 5 1 (.slice (some ⟨W.heap.size, 0, none⟩) 0 0) 0 [] := own_new W [] 5 0 rfl (by simp [maxLen]) hb
theorem new_bytes (W : World) (l : List UInt8) (n : Nat) (hn : n = l.length) (hm : n ≤ maxLen) : Bs (W.alloc (.cells (l.map bv).toArray 5)) (.slice (some ⟨W.heap.size, 0, none⟩) n n) l := by
  subst hn
  exact SlR.of_own (own_new W (l.map bv) 5 l.length (by simp) hm (Nat.le_refl _))
theorem new_ents (W : World) (es : List Ent) (n : Nat) (hn : n = es.length) (hm : n ≤ maxLen) : Es (W.alloc (.cells (entCells es).toArray 45)) (.slice (some ⟨W.heap.size, 0, none⟩) n n) es := by
  subst hn
  refine ⟨entCells_len es, _, es.length, rfl, Nat.le_refl _, hm, fun _ => ⟨W.heap.size, 0, rfl, fun j u hu => ?_⟩⟩
  rw [Nat.zero_add]
  exact (Blk.new W 45 (entCells es).toArray).cell j (by simpa using hu)

set_option maxHeartbeats 1000000 in
theorem wakes_any (w : World) : Calls Try.prog 8 #[] w fun e w' => e = .returned (.bool true) ∧ Ext w w' := by
  obtain ⟨i0, hi, hz0, hz1, hz2⟩ := info_parts info_u8
  obtain ⟨B, M, q1, q2, hfile, hBl, hMl, hp9, hmore, hpm, hmore9⟩ := wakes_plain
  have H9 := Lib.hid hp9
  obtain ⟨k, hk⟩ : ∃ k, B.length + M.length = k := ⟨_, rfl⟩
  rw [hk] at hpm
  have HM := Lib.hid hpm
  clear hk
  have HMO := Lib.hid hmore
  have HMO9 := Lib.hid hmore9
  have HF := Lib.hid hfile
  clear hp9 hpm hmore hmore9 hfile
  go_enter Try.func8, Try.ntmps8
  go_wp2_with fail
  refine (Head_any 1 w).mono ?_
  rw [head_1]
  rintro e w1 ⟨v1, rfl, ho1, hE1⟩
  obtain ⟨A1, c1, rfl, _, _⟩ := SlR.open_ (SlR.of_own ho1)
  go_wp2_with fail
  refine (File_any 300 _ w12 _ (new_ents w1 w12 2 rfl (by simp [maxLen])) (by simp [w12])).mono ?_
  rw [HF.out]
  rintro e w2 ⟨v2, rfl, ho2, hE2⟩
  dsimp only at ho2
  obtain ⟨AB, cB, rfl, _, _⟩ := SlR.open_ (SlR.of_own ho2)
  have HB : Hid (∀ W, Ext w2 W → Bs W (.slice AB B.length cB) B) := fun W hE => SlR.of_own (own_ext ho2 hE)
  have hEw2 : Ext w w2 := Ext.trans (Ext.trans hE1 (Ext.alloc (Ext.refl _) _)) hE2
  go_wp2_with (first
    | (at_builtin; refine wpList_append_sl _ rfl (.tmp 30) (.tmp 31) 24 rfl w2.heap.size 5 i0 (.int .u8 0) 1 1 Try.underlying24 hi hz0 hz1 hz2 rfl (by decide) _ 0 [] rfl (own_empty w2 w2.heap.size (Nat.le_refl _)) _ B.length _ rfl (HB.out _ (Ext.alloc (Ext.refl _) _)) (one_bv _) (by unfold maxLen; omega) (by omega) (by simp) ?_; intro v3 w3 hown3 hgrow3; have hE3 : Ext w2 w3 := Ext.grownOwn (Ext.alloc (Ext.refl _) _) (own_empty w2 w2.heap.size (Nat.le_refl _)) hgrow3; simp only [Nat.zero_add, List.nil_append] at hown3; obtain ⟨A3, c3, rfl, _, _⟩ := SlR.open_ (SlR.of_own hown3))
    | (at_builtin; refine wpList_append_sl _ rfl (.tmp 32) (.tmp 33) 24 rfl w2.heap.size 5 i0 (.int .u8 0) 1 1 Try.underlying24 hi hz0 hz1 hz2 rfl (by decide) _ B.length (B.map bv) rfl (hown3.alloc _) _ 1 _ rfl (new_bytes w3 [9] 1 rfl (by simp [maxLen])) (one_bv _) (by unfold maxLen; omega) (by omega) (by have := hE3.size; simp; omega) ?_; intro v4 w4 hown4 hgrow4; have hE4 : Ext w2 w4 := Ext.grownOwn (Ext.alloc hE3 _) (hown3.alloc _) hgrow4; obtain ⟨A4, c4, rfl, _, _⟩ := SlR.open_ (SlR.of_own hown4)))
  have hb9 : Bs w4 (.slice A4 (B.length + 1) c4) (B ++ [9]) := by
    have := SlR.of_own hown4
    unfold Bs
    rw [List.length_append, List.map_append]
    exact this
  refine (Scan_any _ (B ++ [9]) w4 hb9 (by simp; omega)).mono ?_
  rw [H9.out]
  rintro e w5 ⟨vs, rfl, ho5, hE5⟩
  have ho5' : w5.ownsRow w4.heap.size 45 3 vs 2 (entCells w12) := ho5
  obtain ⟨As, cs, rfl, _, _⟩ := SlR.open_ (SlR.of_own ho5')
  dsimp only
  clear ho5
  go_wp2_with fail
  -- More
  have hE6 : Ext w2 (w5.alloc (.cells #[.int .i64 300, .slice As 2 cs, .int .i64 B.length] 36)) := Ext.alloc (Ext.trans hE4 hE5) _
  have hb5 : Blk (w5.alloc (.cells #[.int .i64 300, .slice As 2 cs, .int .i64 B.length] 36)) w5.heap.size 36 #[.int .i64 300, .slice As 2 cs, .int .i64 B.length] := Blk.new w5 _ _
  have hent := new_ents (w5.alloc (.cells #[.int .i64 300, .slice As 2 cs, .int .i64 B.length] 36)) [⟨3, 0, 0⟩] 1 rfl (by simp [maxLen])
  rw [World.size_alloc] at hent
  have hmo := More_any _ _ B [⟨3, 0, 0⟩] _ (HB.out _ (Ext.alloc hE6 (.cells (entCells [⟨3, 0, 0⟩]).toArray 45))) (by omega) hent (by simp)
  refine hmo.mono ?_
  rw [HMO.out]
  rintro e w6 ⟨v6, rfl, ho6, hE7⟩
  dsimp only at ho6
  obtain ⟨A6, c6, rfl, _, _⟩ := SlR.open_ (SlR.of_own ho6)
  have hX6 : Ext (w5.alloc (.cells #[.int .i64 300, .slice As 2 cs, .int .i64 B.length] 36)) w6 := Ext.trans (Ext.alloc (Ext.refl _) _) hE7
  have hE8 : Ext w2 w6 := Ext.trans hE6 hX6
  clear hmo hent
  go_wp2_with (first
    | (at_builtin; refine wpList_append_sl _ rfl (.tmp 46) (.tmp 47) 24 rfl w6.heap.size 5 i0 (.int .u8 0) 1 1 Try.underlying24 hi hz0 hz1 hz2 rfl (by decide) _ 0 [] rfl (own_empty w6 w6.heap.size (Nat.le_refl _)) _ B.length _ rfl (HB.out _ (Ext.alloc hE8 _)) (one_bv _) (by unfold maxLen; omega) (by omega) (by simp) ?_; intro v7 w7 hown7 hgrow7; have hX7 : Ext w6 w7 := Ext.grownOwn (Ext.alloc (Ext.refl _) _) (own_empty w6 w6.heap.size (Nat.le_refl _)) hgrow7; simp only [Nat.zero_add, List.nil_append] at hown7; obtain ⟨A7, c7, rfl, _, _⟩ := SlR.open_ (SlR.of_own hown7))
    | (at_builtin; refine wpList_append_sl _ rfl (.tmp 48) (.tmp 49) 24 rfl w6.heap.size 5 i0 (.int .u8 0) 1 1 Try.underlying24 hi hz0 hz1 hz2 rfl (by decide) _ B.length (B.map bv) rfl hown7 _ M.length _ rfl (SlR.of_own (own_ext ho6 hX7)) (one_bv _) (by unfold maxLen; omega) (by omega) hX7.size ?_; intro v8 w8 hown8 hgrow8; have hX8 : Ext w6 w8 := Ext.grownOwn hX7 hown7 hgrow8; obtain ⟨A8, c8, rfl, _, _⟩ := SlR.open_ (SlR.of_own hown8)))
  have hb8 : Bs w8 (.slice A8 (B.length + M.length) c8) (B ++ M) := by
    have := SlR.of_own hown8
    unfold Bs
    rw [List.length_append, List.map_append]
    exact this
  refine (Scan_any _ (B ++ M) w8 hb8 (by simp; omega)).mono ?_
  rw [HM.out]
  rintro e w9 ⟨vt, rfl, ho9, hE11⟩
  have ho9' : w9.ownsRow w8.heap.size 45 3 vt 3 (entCells (w12 ++ [⟨3, 0, 0⟩])) := ho9
  obtain ⟨A9, c9, rfl, _, _⟩ := SlR.open_ (SlR.of_own ho9')
  dsimp only
  clear ho9
  have hG0 : Ext w2 (w9.alloc (.cells #[.int .i64 300, .slice A9 3 c9, .int .i64 k] 36)) := Ext.alloc (Ext.trans (Ext.trans hE8 hX8) hE11) _
  have hb9' : Blk (w9.alloc (.cells #[.int .i64 300, .slice A9 3 c9, .int .i64 k] 36)) w9.heap.size 36 #[.int .i64 300, .slice A9 3 c9, .int .i64 k] := Blk.new w9 _ _
  have hF9 : Ext (w5.alloc (.cells #[.int .i64 300, .slice As 2 cs, .int .i64 B.length] 36)) (w9.alloc (.cells #[.int .i64 300, .slice A9 3 c9, .int .i64 k] 36)) := Ext.alloc (Ext.trans hX6 (Ext.trans hX8 hE11)) _
  have ob10 := own_empty (w9.alloc (.cells #[.int .i64 300, .slice A9 3 c9, .int .i64 k] 36)) (w9.alloc (.cells #[.int .i64 300, .slice A9 3 c9, .int .i64 k] 36)).heap.size (Nat.le_refl _)
  rw [World.size_alloc] at ob10
  go_wp2_with (first
    | (at_builtin; refine wpList_append_sl _ rfl (.tmp 55) (.tmp 56) 24 rfl (w9.heap.size + 1) 5 i0 (.int .u8 0) 1 1 Try.underlying24 hi hz0 hz1 hz2 rfl (by decide) _ 0 [] rfl ob10 _ B.length _ rfl (HB.out _ (Ext.alloc hG0 _)) (one_bv _) (by unfold maxLen; omega) (by omega) (by simp) ?_; intro v10 w10 hown10 hgrow10; have hX10 : Ext (w9.alloc (.cells #[.int .i64 300, .slice A9 3 c9, .int .i64 k] 36)) w10 := Ext.grownOwn (Ext.alloc (Ext.refl _) _) (own_empty (w9.alloc (.cells #[.int .i64 300, .slice A9 3 c9, .int .i64 k] 36)) (w9.alloc (.cells #[.int .i64 300, .slice A9 3 c9, .int .i64 k] 36)).heap.size (Nat.le_refl _)) (by rw [World.size_alloc]; exact hgrow10); simp only [Nat.zero_add, List.nil_append] at hown10; obtain ⟨A10, c10, rfl, _, _⟩ := SlR.open_ (SlR.of_own hown10))
    | (at_builtin; refine wpList_append_sl _ rfl (.tmp 57) (.tmp 58) 24 rfl (w9.heap.size + 1) 5 i0 (.int .u8 0) 1 1 Try.underlying24 hi hz0 hz1 hz2 rfl (by decide) _ B.length (B.map bv) rfl (hown10.alloc _) _ 1 _ rfl (new_bytes w10 [9] 1 rfl (by simp [maxLen])) (one_bv _) (by unfold maxLen; omega) (by omega) (by have := hX10.size; simp at this ⊢; omega) ?_; intro v11 w11 hown11 hgrow11; have hX11 : Ext (w9.alloc (.cells #[.int .i64 300, .slice A9 3 c9, .int .i64 k] 36)) w11 := Ext.grownOwn (Ext.alloc hX10 _) ((by rw [World.size_alloc]; exact hown10 : w10.ownsRow (w9.alloc (.cells #[.int .i64 300, .slice A9 3 c9, .int .i64 k] 36)).heap.size 5 1 _ B.length (B.map bv)).alloc _) hgrow11; obtain ⟨A11, c11, rfl, _, _⟩ := SlR.open_ (SlR.of_own hown11)))
  have hbn : Bs w11 (.slice A11 (B.length + 1) c11) (B ++ [9]) := by
    have := SlR.of_own hown11
    unfold Bs
    rw [List.length_append, List.map_append]
    exact this
  have hent := new_ents w11 [⟨3, 0, 0⟩] 1 rfl (by simp [maxLen])
  have hmo := More_any _ _ (B ++ [9]) [⟨3, 0, 0⟩] _ (Bs.ext hbn (Ext.alloc (Ext.refl _) (.cells (entCells [⟨3, 0, 0⟩]).toArray 45))) (by simp; omega) hent (by simp)
  refine hmo.mono ?_
  rw [HMO9.out]
  rintro e w12' ⟨v12, rfl, ho12, hE14⟩
  have ho12' : w12'.ownsRow (w11.alloc (.cells (entCells [⟨3, 0, 0⟩]).toArray 45)).heap.size 5 1 v12 0 [] := ho12
  obtain ⟨A12, c12, rfl, _, _⟩ := SlR.open_ (SlR.of_own ho12')
  dsimp only
  clear hmo hent ho12
  go_wp2_with fail
  refine (Block_bad _ _ [] _ (SlR.nil _ 3) rfl).mono ?_
  rintro e w13 ⟨rfl, hE15⟩
  go_wp2_with fail
  have h11 := new_bytes w13 [1, 1] 2 rfl (by simp [maxLen])
  refine (Scan_any _ [1, 1] _ h11 (by simp)).mono ?_
  rw [look_11]
  rintro e w14 ⟨vu, rfl, ho14, hE16⟩
  have ho14' : w14.ownsRow (w13.alloc (.cells ([1, 1].map bv).toArray 5)).heap.size 45 3 vu 0 [] := ho14
  obtain ⟨A14, c14, rfl, _, _⟩ := SlR.open_ (SlR.of_own ho14')
  dsimp only
  clear ho14
  have hF14 : Ext (w9.alloc (.cells #[.int .i64 300, .slice A9 3 c9, .int .i64 k] 36)) w14 := Ext.trans hX11 (Ext.trans (Ext.alloc (Ext.refl _) _) (Ext.trans hE14 (Ext.trans hE15 (Ext.trans (Ext.alloc (Ext.refl _) _) hE16))))
  have hF15 : Ext (w5.alloc (.cells #[.int .i64 300, .slice As 2 cs, .int .i64 B.length] 36)) (w14.alloc (.cells #[.int .i64 0, .slice A14 0 c14, .int .i64 0] 36)) := Ext.alloc (Ext.trans hF9 hF14) _
  have hbA := hb5.ext hF15
  have hbB := (hb9'.ext hF14).alloc (.cells #[.int .i64 0, .slice A14 0 c14, .int .i64 0] 36)
  obtain ⟨p0, p1, p2, _, _, _⟩ := blk3 hbA
  obtain ⟨q0, q1', q2', _, _, _⟩ := blk3 hbB
  have hlog : Es w5 (.slice As w12.length cs) w12 := SlR.of_own ho5'
  obtain ⟨_, bl, ol, rfl, hcl⟩ := Es.at_ (Es.ext hlog (Ext.trans (Ext.alloc (Ext.refl _) _) hF15)) (by decide)
  have hc7 : (w14.alloc (.cells #[.int .i64 0, .slice A14 0 c14, .int .i64 0] 36)).cell? ⟨bl, ol + 1 * 3 + 2, none⟩ = some (.int .i64 7) := (hcl 1 (by decide)).2.2
  have hX2 : Ext w2 (w14.alloc (.cells #[.int .i64 0, .slice A14 0 c14, .int .i64 0] 36)) := Ext.trans hE6 hF15
  have h21 : Bs ((w14.alloc (.cells #[.int .i64 0, .slice A14 0 c14, .int .i64 0] 36)).alloc (.cells ([2, 1].map bv).toArray 5)) (.slice A1 2 c1) [2, 1] := SlR.of_own (own_ext ho1 (Ext.alloc (Ext.trans (Ext.trans (Ext.alloc (Ext.refl _) _) hE2) hX2) _))
  have h22 := new_bytes (w14.alloc (.cells #[.int .i64 0, .slice A14 0 c14, .int .i64 0] 36)) [2, 1] 2 rfl (by simp [maxLen])
  rw [World.size_alloc] at h22
  have hS := same_any _ _ _ _ _ h21 h22
  rw [show decide (([2, 1] : List UInt8) = [2, 1]) = true from by decide] at hS
  have HS := Lib.hid hS
  clear hS
  have hEnd : Ext w ((w14.alloc (.cells #[.int .i64 0, .slice A14 0 c14, .int .i64 0] 36)).alloc (.cells ([2, 1].map bv).toArray 5)) := Ext.alloc (Ext.trans hEw2 hX2) _
  have hc7' := cell_alloc hc7 (.cells ([2, 1].map bv).toArray 5)
  have hbA' := hbA.alloc (.cells ([2, 1].map bv).toArray 5)
  have hbB' := hbB.alloc (.cells ([2, 1].map bv).toArray 5)
  clear hcl h21 h22 hbA hbB
  go_wp2_with (go_at_call 11; refine HS.out.mono ?_; rintro e w15 ⟨rfl, hE17⟩; obtain ⟨s0, s1, s2, _, _, _⟩ := blk3 (hbA'.ext hE17); obtain ⟨t0, t1, t2, _, _, _⟩ := blk3 (hbB'.ext hE17); have s7 := hE17.cell hc7')
  go_ret
  exact ⟨rfl, Ext.trans hEnd hE17⟩
end Go.Proofs.Ytibbbdifkopebaa
