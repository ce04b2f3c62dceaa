/-
  The walk of moultlaw08.TwoBlocks.
-/
import Derived.Test.YtibbbdifkopebaaApp
import Derived.Test.YtibbbdifkopebaaHarmP
import Derived.Test.YtibbbdifkopebaaOrder
set_option linter.all false
namespace Go.Proofs.Ytibbbdifkopebaa
open Go.RowKit Go.Mv
set_option maxRecDepth 100000

theorem ownB_empty1 (W : World) (o : Obj) : OwnB ((W.alloc o).alloc (.cells #[] 5)) (W.heap.size + 1) (.slice (some ⟨W.heap.size + 1, 0, none⟩) 0 0) [] := by
  have := ownB_empty (W.alloc o)
  rwa [World.size_alloc] at this

theorem tblk_plain {a c : Nat} (a1 : 1 ≤ a) (a2 : a ≤ 1073741824) (c1 : 1 ≤ c) (c2 : c ≤ 1073741824) {l : List Ent} (hl : allOk l = true) (h0 : l.length ≠ 0) (h4 : l.length ≤ 4) :
    ∃ (X Y K F : List UInt8) (pa pc pz : Nat × Nat) (u1 u2 : Nat) (q1 q2 : Nat × Nat), fileS (a : Int) [] = (0, X) ∧ fileS (c : Int) [] = (0, Y) ∧ endS X = (0, pa) ∧ endS Y = (0, pc) ∧ X.length ≤ 6 ∧ Y.length ≤ 6 ∧ blkOk l = true ∧ blkS pa l = K ∧
      chainP pa (blkBody l) = pz ∧ 8 ≤ K.length ∧ K.length ≤ 65 ∧ K.drop (K.length - 4) = F ∧ fourB pz = F ∧ lookS (X ++ K) = ⟨0, a, l, u1, q1⟩ ∧ lookS (Y ++ K) = ⟨0, c, if pa = pc then l else [], u2, q2⟩ := by
  have ha := headS_okC a1 a2
  have hc := headS_okC c1 c2
  have hok : blkOk l = true := (blkOk_iff l).2 ⟨⟨by omega, h4⟩, hl⟩
  have hA := look_put ha (es := []) rfl (blkS (endQ (a : Int) []) l)
  have hC := look_put hc (es := []) rfl (blkS (endQ (a : Int) []) l)
  have iA : InP (endQ (a : Int) []) := chunkP_in (chainP_in ⟨by decide, by decide⟩ _) _
  have iC : InP (endQ (c : Int) []) := chunkP_in (chainP_in ⟨by decide, by decide⟩ _) _
  rw [blocks_plain iA iA hok, if_pos rfl] at hA
  rw [blocks_plain iA iC hok] at hC
  have l1 := file_len (a : Int) []
  have l2 := file_len (c : Int) []
  have l3 := blkS_len (endQ (a : Int) []) l
  have l4 := blkBody_len l
  have l5 : (blkS (endQ (a : Int) []) l).length = (blkBody l).length + 4 := by unfold blkS; rw [List.length_append]; rfl
  have l6 : 3 * l.length + 1 ≤ (blkBody l).length := by
    have h : 3 * l.length ≤ (l.flatMap entS).length := by
      clear l4 l5 l3 hok hl h0 h4 hA hC
      induction l with
      | nil => exact Nat.le_refl _
      | cons e es ih =>
        have h2 : 3 ≤ (entS e).length := shorts_ge [e.t, e.k, e.v]
        rw [List.flatMap_cons, List.length_append, List.length_cons]
        omega
    unfold blkBody
    rw [List.length_cons]
    omega
  rw [List.nil_append] at hA hC
  refine ⟨(fileS (a : Int) []).2, (fileS (c : Int) []).2, blkS (endQ (a : Int) []) l, fourB (chainP (endQ (a : Int) []) (blkBody l)), endQ (a : Int) [], endQ (c : Int) [], chainP (endQ (a : Int) []) (blkBody l), _, _, _, _, file_eta ha rfl, file_eta hc rfl, end_put ha rfl, end_put hc rfl, l1, l2, hok, rfl, rfl, by omega, by omega, ?_, rfl, hA, hC⟩
  rw [l5, Nat.add_sub_cancel]
  unfold blkS
  rw [List.drop_left]

set_option maxHeartbeats 1000000 in
theorem Tblk_early (a c : Int) (Al : Option Addr) (N cl : Nat) (w : World) (hg : ¬ (1 ≤ a ∧ a ≤ 1073741824 ∧ 1 ≤ c ∧ c ≤ 1073741824 ∧ N ≠ 0 ∧ N ≤ 4)) :
    Calls Try.prog 7 #[.int .i64 a, .int .i64 c, .slice Al N cl] w fun e w' => e = .returned (.bool true) ∧ Ext w w' := by
  by_cases a1 : a < 1
  · clear hg
    go_enter Try.func7, Try.ntmps7
    go_wp2_with (go_at_call 8; refine (wakes_any _).mono ?_; rintro e w1 ⟨rfl, hE⟩)
    all_goals (go_ret; exact ⟨rfl, hE⟩)
  by_cases a2 : c < 1
  · clear hg
    go_enter Try.func7, Try.ntmps7
    go_wp2_with (go_at_call 8; refine (wakes_any _).mono ?_; rintro e w1 ⟨rfl, hE⟩)
    all_goals (go_ret; exact ⟨rfl, hE⟩)
  obtain ⟨m, hm⟩ : ∃ m, max a c = m := ⟨_, rfl⟩
  by_cases a3 : 1073741824 < m
  · clear hg
    go_enter Try.func7, Try.ntmps7
    go_wp2_with (go_at_call 8; refine (wakes_any _).mono ?_; rintro e w1 ⟨rfl, hE⟩)
    all_goals (go_ret; exact ⟨rfl, hE⟩)
  by_cases a4 : N = 0
  · clear hg
    subst a4
    go_enter Try.func7, Try.ntmps7
    go_wp2_with (go_at_call 8; refine (wakes_any _).mono ?_; rintro e w1 ⟨rfl, hE⟩)
    all_goals (go_ret; exact ⟨rfl, hE⟩)
  have b4 : ((N : Int) == 0) = false := by rw [beq_eq_false_iff_ne]; omega
  by_cases a5 : 4 < (N : Int)
  · clear hg
    go_enter Try.func7, Try.ntmps7
    go_wp2_with (go_at_call 8; refine (wakes_any _).mono ?_; rintro e w1 ⟨rfl, hE⟩)
    all_goals (go_ret; exact ⟨rfl, hE⟩)
  exact absurd ⟨by omega, by omega, by omega, by omega, a4, by omega⟩ hg

set_option maxHeartbeats 4000000 in
theorem Tblk_main1 (f g : Nat) (hd : (g : Int) ≤ (f : Int)) (Al : Option Addr) (cl : Nat) (l : List Ent) (w : World) (HL : Hid (Es w (.slice Al l.length cl) l)) (hcl : l.length ≤ cl ∧ cl ≤ 9223372036854775807) (g1 : 1 ≤ (f : Int)) (g2 : (f : Int) ≤ 1073741824) (g3 : 1 ≤ (g : Int)) (g4 : (g : Int) ≤ 1073741824) (g5 : l.length ≠ 0) (g6 : l.length ≤ 4) :
    Calls Try.prog 7 #[.int .i64 f, .int .i64 g, .slice Al l.length cl] w fun e w' => e = .returned (.bool true) ∧ Ext w w' := by
  obtain ⟨hcl1, hcl2⟩ := hcl
  obtain ⟨mx, hm⟩ : ∃ mx : Int, max (f : Int) g = mx := ⟨_, rfl⟩
  have hmx : mx ≤ 1073741824 := by omega
  have g5' : ((l.length : Int) == 0) = false := by rw [beq_eq_false_iff_ne]; omega
  go_enter Try.func7, Try.ntmps7
  go_wp2_with fail
  go_loopw [7] (fun i wr => ∃ k : Nat, k ≤ l.length ∧ i = .int .i64 k ∧ Hid (allOk (l.take k) = true) ∧ Ext w wr) (fun i _ => l.length - (intOf i).toNat)
  case atStart => exact ⟨0, Nat.zero_le _, rfl, rfl, Ext.refl _⟩
  case round =>
    obtain ⟨k, hk, rfl, Hb, hB⟩ := hrel
    by_cases hlt : k < l.length
    · obtain ⟨_, b, off, rfl, hc⟩ := Es.at_ (HL.out.ext hB) (by omega)
      obtain ⟨hc0, hc1, hc2⟩ := hc k hlt
      clear hc
      go_wp2_with (first
        | (go_at_call 23; refine (refRight_any _ _ _ _).mono ?_; rintro e w' ⟨rfl, hb⟩)
        | (go_at_call 8; refine (wakes_any _).mono ?_; rintro e w'' ⟨rfl, hE⟩))
      · go_ret
        exact ⟨rfl, Ext.trans hB (Ext.trans hb hE)⟩
      · go_roundw
        case rel =>
          have hok : l[k].ok = true := by simpa [Ent.ok] using (by assumption : (!okB l[k].t l[k].k l[k].v) = false)
          exact ⟨k + 1, by omega, by go_num, (allOk_take hlt Hb.out).trans hok, Ext.trans hB hb⟩
        case measure => simp [intOf]; omega
    · have hok : allOk l = true := by
        have := Hb.out
        rwa [List.take_of_length_le (by omega)] at this
      obtain ⟨X, Y, KB, F, pa, pc, pz, u1, u2, q1, q2, hX, hY, hEX, hEY, hXl, hYl, hbo, hK, hpz, hK8, hK65, hKd, hF, hk1, hk2⟩ := tblk_plain (a := f) (c := g) (by omega) (by omega) (by omega) (by omega) hok g5 g6
      have HX := Lib.hid hX
      have HY := Lib.hid hY
      have HEX := Lib.hid hEX
      have HEY := Lib.hid hEY
      have Hbo := Lib.hid hbo
      have HK := Lib.hid hK
      have Hpz := Lib.hid hpz
      have HKd := Lib.hid hKd
      have HF := Lib.hid hF
      have HK1 := Lib.hid hk1
      have HK2 := Lib.hid hk2
      clear hX hY hEX hEY hbo hK hpz hKd hF hk1 hk2 hok hm
      have hEr : Ext w wr := hB
      go_wp2_with fail
      refine (File_any f _ [] wr (SlR.nil _ 3) (by simp)).mono ?_
      rw [HX.out]
      rintro e w1 ⟨v1, rfl, ho1, hE1⟩
      have ho1' : OwnB w1 wr.heap.size v1 X := ho1
      obtain ⟨A1, c1, rfl, _, _⟩ := SlR.open_ ho1'.bs
      dsimp only
      clear ho1
      go_wp2_with fail
      refine (File_any g _ [] w1 (SlR.nil _ 3) (by simp)).mono ?_
      rw [HY.out]
      rintro e w2 ⟨v2, rfl, ho2, hE2⟩
      have ho2' : OwnB w2 w1.heap.size v2 Y := ho2
      obtain ⟨A2, c2, rfl, _, _⟩ := SlR.open_ ho2'.bs
      dsimp only
      clear ho2
      go_wp2_with fail
      refine (End_any _ X w2 (ho1'.ext hE2).bs (by omega)).mono ?_
      rw [HEX.out]
      rintro e w3 ⟨vz, rfl, hpz, hE3⟩
      have hpt := hpz.pt
      obtain ⟨z1, z2, rfl, hz1, hz2⟩ := hpz
      dsimp only at hz1 hz2 hpt ⊢
      go_wp2_with fail
      have hE3' : Ext w2 w3 := hE3
      refine (End_any _ Y w3 (ho2'.ext hE3').bs (by omega)).mono ?_
      rw [HEY.out]
      rintro e w4 ⟨vy, rfl, hpy, hE4⟩
      obtain ⟨y1, y2, rfl, hy1, hy2⟩ := hpy
      dsimp only at hy1 hy2 ⊢
      have hE4' : Ext w3 w4 := hE4
      have hEw4 : Ext w w4 := Ext.trans hEr (Ext.trans hE1 (Ext.trans hE2 (Ext.trans hE3' hE4')))
      clear hE3 hE4
      go_wp2_with fail
      refine (Block_ok z1 z2 _ l w4 (HL.out.ext hEw4) Hbo.out).mono ?_
      rw [hpt]
      rintro e w5 ⟨v5, vp, rfl, hpp, ho5, hE5⟩
      rw [HK.out] at ho5
      rw [Hpz.out] at hpp
      have hptp := hpp.pt
      obtain ⟨p1, p2, rfl, hp1, hp2⟩ := hpp
      have ho5' : OwnB w5 w4.heap.size v5 KB := ho5
      obtain ⟨g5b, c5, rfl, hg5, _, _⟩ := ownsRow_pos ho5 (by omega)
      dsimp only
      clear ho5
      have hK8' : ¬ ((KB.length : Int) < 8) := by omega
      go_wp2_with fail
      obtain ⟨f0, f1, f2, f3, hf4⟩ : ∃ f0 f1 f2 f3 : UInt8, fourB pz = [f0, f1, f2, f3] := ⟨_, _, _, _, rfl⟩
      have hFF : F = [f0, f1, f2, f3] := by rw [← HF.out, hf4]
      have HFF := Lib.hid hFF
      have h4c : Calls Try.prog 25 #[.complex .f64 p1 p2] w5 fun e w' => e = .returned (.agg #[.int .u8 (f0.toNat : Int), .int .u8 (f1.toNat : Int), .int .u8 (f2.toNat : Int), .int .u8 (f3.toNat : Int)]) ∧ Ext w5 w' := by
        refine (refFour_any p1 p2 w5).mono ?_
        rintro e w' ⟨rfl, hE⟩
        exact ⟨by rw [hptp, hf4]; rfl, hE⟩
      refine h4c.mono ?_
      clear h4c hf4 hFF
      rintro e w6 ⟨rfl, hE6⟩
      have hE6' : Ext w5 w6 := hE6
      have hX6 : Ext w6 (w6.alloc (.cells #[.int .u8 (f0.toNat : Int), .int .u8 (f1.toNat : Int), .int .u8 (f2.toNat : Int), .int .u8 (f3.toNat : Int)] 50)) := Ext.alloc (Ext.refl _) _
      have hEw6 : Ext w (w6.alloc (.cells #[.int .u8 (f0.toNat : Int), .int .u8 (f1.toNat : Int), .int .u8 (f2.toNat : Int), .int .u8 (f3.toNat : Int)] 50)) := Ext.trans hEw4 (Ext.trans hE5 (Ext.trans hE6' hX6))
      have hX6s : OwnB (w6.alloc (.cells #[.int .u8 (f0.toNat : Int), .int .u8 (f1.toNat : Int), .int .u8 (f2.toNat : Int), .int .u8 (f3.toNat : Int)] 50)) wr.heap.size (.slice A1 X.length c1) X := ho1'.ext (Ext.trans hE2 (Ext.trans hE3' (Ext.trans hE4' (Ext.trans hE5 (Ext.trans hE6' hX6)))))
      have hY6s : OwnB (w6.alloc (.cells #[.int .u8 (f0.toNat : Int), .int .u8 (f1.toNat : Int), .int .u8 (f2.toNat : Int), .int .u8 (f3.toNat : Int)] 50)) w1.heap.size (.slice A2 Y.length c2) Y := ho2'.ext (Ext.trans hE3' (Ext.trans hE4' (Ext.trans hE5 (Ext.trans hE6' hX6))))
      have hK6s : OwnB (w6.alloc (.cells #[.int .u8 (f0.toNat : Int), .int .u8 (f1.toNat : Int), .int .u8 (f2.toNat : Int), .int .u8 (f3.toNat : Int)] 50)) w4.heap.size (.slice (some ⟨g5b, 0, none⟩) KB.length c5) KB := ho5'.ext (Ext.trans hE6' hX6)
      have hbx := Blk.new w6 50 #[.int .u8 (f0.toNat : Int), .int .u8 (f1.toNat : Int), .int .u8 (f2.toNat : Int), .int .u8 (f3.toNat : Int)]
      clear hE6 hE1 hE2 hE3' hE4' hE5 hE6' hX6 ho1' ho2' ho5' hEw4
      go_wp2_with (first
        | (at_builtin; refine wpList_app_b rfl (.tmp 113) (.tmp 114) rfl (w6.heap.size + 1) _ [] rfl (ownB_empty1 w6 _) _ X rfl (hX6s.ext (Ext.alloc (Ext.refl _) _)).bs (by simp; omega) (by simp) ?_; intro A7 c7 w7 ho7 hG7; have hE7 : Ext (w6.alloc (.cells #[.int .u8 (f0.toNat : Int), .int .u8 (f1.toNat : Int), .int .u8 (f2.toNat : Int), .int .u8 (f3.toNat : Int)] 50)) w7 := hG7 _ (Ext.alloc (Ext.refl _) _) (by simp); simp only [List.length_nil, Nat.zero_add, List.nil_append] at ho7 ⊢)
        | (at_builtin; refine wpList_app_b rfl (.tmp 115) (.tmp 116) rfl (w6.heap.size + 1) _ X rfl ho7 _ KB rfl (hK6s.ext hE7).bs (by omega) (by have := hE7.size; simpa using this) ?_; intro A8 c8 w8 ho8 hG8; have hE8 : Ext (w6.alloc (.cells #[.int .u8 (f0.toNat : Int), .int .u8 (f1.toNat : Int), .int .u8 (f2.toNat : Int), .int .u8 (f3.toNat : Int)] 50)) w8 := hG8 _ hE7 (by simp)))
      refine (Scan_any _ (X ++ KB) w8 ho8.bs (by rw [List.length_append]; omega)).mono ?_
      rw [HK1.out]
      rintro e w9 ⟨v9, rfl, ho9, hE9⟩
      have ho9' : OwnE w9 w8.heap.size v9 l := ho9
      obtain ⟨A9, c9, rfl, _, _⟩ := SlR.open_ ho9'.es
      dsimp only
      clear ho9
      have hX9 : Ext w9 (w9.alloc (.cells #[.int .i64 f, .slice A9 l.length c9, .int .i64 u1] 36)) := Ext.alloc (Ext.refl _) _
      have hb9 := Blk.new w9 36 #[.int .i64 f, .slice A9 l.length c9, .int .i64 u1]
      have hE69 : Ext (w6.alloc (.cells #[.int .u8 (f0.toNat : Int), .int .u8 (f1.toNat : Int), .int .u8 (f2.toNat : Int), .int .u8 (f3.toNat : Int)] 50)) (w9.alloc (.cells #[.int .i64 f, .slice A9 l.length c9, .int .i64 u1] 36)) := Ext.trans hE8 (Ext.trans hE9 hX9)
      have hY9s := hY6s.ext hE69
      have hK9s := hK6s.ext hE69
      have hbx9 := hbx.ext hE69
      have ho9x := ho9'.ext hX9
      clear hG7 hG8 hE7 hE8 hE9 ho9' ho7 ho8
      go_wp2_with (first
        | (at_builtin; refine wpList_app_b rfl (.tmp 122) (.tmp 123) rfl (w9.heap.size + 1) _ [] rfl (ownB_empty1 w9 _) _ Y rfl (hY9s.ext (Ext.alloc (Ext.refl _) _)).bs (by simp; omega) (by simp) ?_; intro A10 c10 w10 ho10 hG10; have hE10 : Ext (w9.alloc (.cells #[.int .i64 f, .slice A9 l.length c9, .int .i64 u1] 36)) w10 := hG10 _ (Ext.alloc (Ext.refl _) _) (by simp); simp only [List.length_nil, Nat.zero_add, List.nil_append] at ho10 ⊢)
        | (at_builtin; refine wpList_app_b rfl (.tmp 124) (.tmp 125) rfl (w9.heap.size + 1) _ Y rfl ho10 _ KB rfl (hK9s.ext hE10).bs (by omega) (by have := hE10.size; simpa using this) ?_; intro A11 c11 w11 ho11 hG11; have hE11 : Ext (w9.alloc (.cells #[.int .i64 f, .slice A9 l.length c9, .int .i64 u1] 36)) w11 := hG11 _ hE10 (by simp)))
      refine (Scan_any _ (Y ++ KB) w11 ho11.bs (by rw [List.length_append]; omega)).mono ?_
      rw [HK2.out]
      obtain ⟨lg, hlg⟩ : ∃ lg, (if pa = pc then l else []) = lg := ⟨_, rfl⟩
      rw [hlg]
      have Hlg := Lib.hid hlg
      clear hlg
      rintro e w12 ⟨v12, rfl, ho12, hE12⟩
      have ho12' : OwnE w12 w11.heap.size v12 lg := ho12
      obtain ⟨A12, c12, rfl, _, _⟩ := SlR.open_ ho12'.es
      dsimp only
      clear ho12
      have hX12 : Ext w12 (w12.alloc (.cells #[.int .i64 g, .slice A12 lg.length c12, .int .i64 u2] 36)) := Ext.alloc (Ext.refl _) _
      have hb12 := Blk.new w12 36 #[.int .i64 g, .slice A12 lg.length c12, .int .i64 u2]
      have hE912 : Ext (w9.alloc (.cells #[.int .i64 f, .slice A9 l.length c9, .int .i64 u1] 36)) (w12.alloc (.cells #[.int .i64 g, .slice A12 lg.length c12, .int .i64 u2] 36)) := Ext.trans hE11 (Ext.trans hE12 hX12)
      have hb9' := hb9.ext hE912
      have hbx12 := hbx9.ext hE912
      have hK12s := hK9s.ext hE912
      have ho9y := ho9x.ext hE912
      have hEw12 : Ext w (w12.alloc (.cells #[.int .i64 g, .slice A12 lg.length c12, .int .i64 u2] 36)) := Ext.trans hEw6 (Ext.trans hE69 hE912)
      clear hG10 hG11 hE10 hE11 hE12 ho12' ho10 ho11 hb9 hbx9 hK9s ho9x hX6s hY6s hK6s hbx hY9s
      go_wp2_with fail
      obtain ⟨n4, hn4⟩ : ∃ n4, KB.length - 4 = n4 := ⟨_, rfl⟩
      have hk4 : (KB.length : Int) - 4 = (n4 : Int) := by omega
      have hk5 : KB.length = n4 + 4 := by omega
      have hcs : ∃ B1 B2 B3 : Bool, (FloatKind.f64.format.order z1 y1 == some .eq) = B1 ∧ (FloatKind.f64.format.order z2 y2 == some .eq) = B2 ∧ decide (0 < lg.length) = B3 ∧ ((B1 = true ∧ B2 = true ∧ B3 = true) ∨ (B1 = false ∧ B2 = false ∧ B3 = false) ∨ (B1 = true ∧ B2 = false ∧ B3 = false) ∨ (B1 = false ∧ B2 = true ∧ B3 = false)) := by
        refine ⟨_, _, _, order_pt hz1 hy1, order_pt hz2 hy2, rfl, ?_⟩
        have hl3 := Hlg.out
        by_cases hpp : pa = pc
        · rw [if_pos hpp] at hl3
          subst hl3 hpp
          exact .inl ⟨by simp, by simp, decide_eq_true (by omega)⟩
        · rw [if_neg hpp] at hl3
          subst hl3
          right
          by_cases e1 : pa.1 = pc.1
          · by_cases e2 : pa.2 = pc.2
            · exact absurd (Prod.ext e1 e2) hpp
            · simp [e1, e2]
          · by_cases e2 : pa.2 = pc.2
            · simp [e1, e2]
            · simp [e1, e2]
      obtain ⟨B1, B2, B3, k1, k2, k3, hBB⟩ := hcs
      have kk : (B3 == (B1 && B2)) = true := by rcases hBB with ⟨rfl, rfl, rfl⟩ | ⟨rfl, rfl, rfl⟩ | ⟨rfl, rfl, rfl⟩ | ⟨rfl, rfl, rfl⟩ <;> rfl
      clear hBB
      have hgo : ∀ W', Ext (w12.alloc (.cells #[.int .i64 g, .slice A12 lg.length c12, .int .i64 u2] 36)) W' → W'.cell? ⟨w9.heap.size, 1, none⟩ = some (.slice A9 l.length c9) ∧ W'.cell? ⟨w12.heap.size, 1, none⟩ = some (.slice A12 lg.length c12) := fun W' h => by
        obtain ⟨_, q1, _, _, _, _⟩ := blk3 (hb9'.ext h)
        obtain ⟨_, r1, _, _, _, _⟩ := blk3 (hb12.ext h)
        exact ⟨q1, r1⟩
      have hR := refRightC_any p1 p2
      rw [hp1, hp2] at hR
      simp only [Option.isSome_some, Bool.and_self] at hR
      have HR := Lib.hid hR
      have hKc : ∀ W, Ext (w12.alloc (.cells #[.int .i64 g, .slice A12 lg.length c12, .int .i64 u2] 36)) W → Bs W (.slice (some ⟨g5b, n4, none⟩) (KB.length - n4) (c5 - n4)) F := by
        intro W hE
        have h := Bs.cut (hK12s.ext hE).bs n4 (by omega) rfl
        rw [Nat.zero_add, ← hn4, HKd.out, hn4] at h
        exact h
      have HKC := Lib.hid hKc
      have hFb : ∀ W, Ext (w12.alloc (.cells #[.int .i64 g, .slice A12 lg.length c12, .int .i64 u2] 36)) W → Bs W (.slice (some ⟨w6.heap.size, 0, none⟩) 4 4) F := by
        intro W hE
        rw [HFF.out]
        exact blk_slice (cs := [f0, f1, f2, f3].map bv) (hbx12.ext hE) rfl (by simp [maxLen])
      have HFB := Lib.hid hFb
      have hw1 : IntKind.i64.wrap (n4 : Int) = (n4 : Int) := IntWalk.i64_in _ (by omega)
      have b1 : (0 : Int) ≤ (n4 : Int) := by omega
      have b2 : (n4 : Int) ≤ (KB.length : Int) := by omega
      have b3 : (KB.length : Int) ≤ (c5 : Int) := by omega
      have b4 : (n4 : Int) ≤ (c5 : Int) := by omega
      have b5 : ¬ (c5 = n4) := by omega
      clear hR hKc hFb hz1 hz2 hy1 hy2 hp1 hp2 hk5
      refine wp_region_held_drew (S := fun W' => W'.cell? ⟨w9.heap.size, 1, none⟩ = some (.slice A9 l.length c9) ∧ W'.cell? ⟨w12.heap.size, 1, none⟩ = some (.slice A12 lg.length c12)) (by kernel_rfl) (hgo _ (Ext.drew (Ext.refl _))) (fun hHeld => ?_)
      refine wpAnyH_takeL (i := 0) (v := ?v1_0) rfl (by kernel_rfl) (by kernel_rfl) (by kernel_rfl) (fun _ _ _ h => h) (by rfl) (by assumption) (fun w hw => ?h1_0) ?r1_0
      case h1_0 => (try dsimp only at hw); go_simp; try with_reducible rfl
      case' r1_0 => skip
      try simp only [Act.put, List.setIfInBounds_toArray, List.set_cons_zero, List.set_cons_succ]
      refine AllReadyH.one (i := 1) rfl (by kernel_rfl) (by rfl) (fun K hK => ?_)
      go_simp
      refine (HR.out _).mono ?_
      rintro e w13 ⟨rfl, rfl⟩
      have hE13 : Ext (w12.alloc (.cells #[.int .i64 g, .slice A12 lg.length c12, .int .i64 u2] 36)) (World.drew (w12.alloc (.cells #[.int .i64 g, .slice A12 lg.length c12, .int .i64 u2] 36))) := Ext.drew (Ext.refl _)
      have hS13 := hgo _ hE13
      try (go_wp2_with fail)
      refine hK.out _ _ hS13 (fun hHeld => ?_)
      clear hK K
      try simp only [Act.put, List.setIfInBounds_toArray, List.set_cons_zero, List.set_cons_succ]
      refine wpAnyH_takeL (i := 2) (v := ?v4_2) rfl (by kernel_rfl) (by kernel_rfl) (by kernel_rfl) (fun _ _ _ h => h) (by rfl) (by assumption) (fun w hw => ?h4_2) ?r4_2
      case h4_2 => (try dsimp only at hw); go_simp; try with_reducible rfl
      case' r4_2 => skip
      try simp only [Act.put, List.setIfInBounds_toArray, List.set_cons_zero, List.set_cons_succ]
      refine wpAnyH_takeL (i := 3) (v := ?v4_3) rfl (by kernel_rfl) (by kernel_rfl) (by kernel_rfl) (fun _ _ _ h => h) (by rfl) (by assumption) (fun w hw => ?h4_3) ?r4_3
      case h4_3 => (try dsimp only at hw); go_simp; try with_reducible rfl
      case' r4_3 => skip
      try simp only [Act.put, List.setIfInBounds_toArray, List.set_cons_zero, List.set_cons_succ]
      refine wpAnyH_takeL (i := 4) (v := ?v4_4) rfl (by kernel_rfl) (by kernel_rfl) (by kernel_rfl) (fun _ _ _ h => h) (by rfl) (by assumption) (fun w hw => ?h4_4) ?r4_4
      case h4_4 => (try dsimp only at hw); go_simp; try with_reducible rfl
      case' r4_4 => skip
      try simp only [Act.put, List.setIfInBounds_toArray, List.set_cons_zero, List.set_cons_succ]
      refine wpAnyH_takeL (i := 5) (v := ?v4_5) rfl (by kernel_rfl) (by kernel_rfl) (by kernel_rfl) (fun _ _ _ h => h) (by rfl) (by assumption) (fun w hw => ?h4_5) ?r4_5
      case h4_5 => (try dsimp only at hw); go_simp; try with_reducible rfl
      case' r4_5 => skip
      try simp only [Act.put, List.setIfInBounds_toArray, List.set_cons_zero, List.set_cons_succ]
      refine wpAnyH_takeL (i := 6) (v := ?v4_6) rfl (by kernel_rfl) (by kernel_rfl) (by kernel_rfl) (fun _ _ _ h => h) (by rfl) (by assumption) (fun w hw => ?h4_6) ?r4_6
      case h4_6 => (try dsimp only at hw); go_simp; try with_reducible rfl
      case' r4_6 => skip
      try simp only [Act.put, List.setIfInBounds_toArray, List.set_cons_zero, List.set_cons_succ]
      refine wpAnyH_takeL (i := 7) (v := ?v4_7) rfl (by kernel_rfl) (by kernel_rfl) (by kernel_rfl) (fun _ _ _ h => h) (by rfl) (by assumption) (fun w hw => ?h4_7) ?r4_7
      case h4_7 => (try dsimp only at hw); go_simp; try with_reducible rfl
      case' r4_7 => skip
      try simp only [Act.put, List.setIfInBounds_toArray, List.set_cons_zero, List.set_cons_succ]
      refine wpAnyH_takeL (i := 8) (v := ?v4_8) rfl (by kernel_rfl) (by kernel_rfl) (by kernel_rfl) (fun _ _ _ h => h) (by rfl) (by assumption) (fun w hw => ?h4_8) ?r4_8
      case h4_8 => (try dsimp only at hw); go_simp; try with_reducible rfl
      case' r4_8 => skip
      try simp only [Act.put, List.setIfInBounds_toArray, List.set_cons_zero, List.set_cons_succ]
      refine AllReadyH.one (i := 9) rfl (by kernel_rfl) (by rfl) (fun K hK => ?_)
      go_simp
      refine (same_any _ _ F F _ (HKC.out _ (Ext.drew (Ext.refl _))) (HFB.out _ (Ext.drew (Ext.refl _)))).mono ?_
      rw [show decide (F = F) = true from by simp]
      rintro e w13 ⟨rfl, hE13⟩
      have hE13' : Ext (w12.alloc (.cells #[.int .i64 g, .slice A12 lg.length c12, .int .i64 u2] 36)) w13 := Ext.trans (Ext.drew (Ext.refl _)) hE13
      have hS13 := hgo _ hE13'
      try (go_wp2_with fail)
      refine hK.out _ _ hS13 (fun hHeld => ?_)
      clear hK K
      try simp only [Act.put, List.setIfInBounds_toArray, List.set_cons_zero, List.set_cons_succ]
      refine wpAnyH_takeL (i := 10) (v := ?v7_10) rfl (by kernel_rfl) (by kernel_rfl) (by kernel_rfl) (fun _ _ _ h => h) (by rfl) (by assumption) (fun w hw => ?h7_10) ?r7_10
      case h7_10 => (try dsimp only at hw); go_simp; try with_reducible rfl
      case' r7_10 => skip
      try simp only [Act.put, List.setIfInBounds_toArray, List.set_cons_zero, List.set_cons_succ]
      refine wpAnyH_takeL (i := 11) (v := ?v7_11) rfl (by kernel_rfl) (by kernel_rfl) (by kernel_rfl) (fun _ _ _ h => h) (by rfl) (by assumption) (fun w hw => ?h7_11) ?r7_11
      case h7_11 => (try dsimp only at hw); go_simp; try with_reducible rfl
      case' r7_11 => skip
      try simp only [Act.put, List.setIfInBounds_toArray, List.set_cons_zero, List.set_cons_succ]
      refine wpAnyH_takeL (i := 12) (v := ?v7_12) rfl (by kernel_rfl) (by kernel_rfl) (by kernel_rfl) (fun _ _ _ h => h) (by rfl) (by assumption) (fun w hw => ?h7_12) ?r7_12
      case h7_12 => (try dsimp only at hw); go_simp; try with_reducible rfl
      case' r7_12 => skip
      try simp only [Act.put, List.setIfInBounds_toArray, List.set_cons_zero, List.set_cons_succ]
      refine wpAnyH_takeL (i := 13) (v := ?v7_13) rfl (by kernel_rfl) (by kernel_rfl) (by kernel_rfl) (fun _ _ _ h => h) (by rfl) (by assumption) (fun w hw => ?h7_13) ?r7_13
      case h7_13 => (try dsimp only at hw); go_simp; try with_reducible rfl
      case' r7_13 => skip
      try simp only [Act.put, List.setIfInBounds_toArray, List.set_cons_zero, List.set_cons_succ]
      refine wpAnyH_takeL (i := 14) (v := ?v7_14) rfl (by kernel_rfl) (by kernel_rfl) (by kernel_rfl) (fun _ _ _ h => h) (by rfl) (by assumption) (fun w hw => ?h7_14) ?r7_14
      case h7_14 => (try dsimp only at hw); go_simp; try with_reducible rfl
      case' r7_14 => skip
      try simp only [Act.put, List.setIfInBounds_toArray, List.set_cons_zero, List.set_cons_succ]
      refine wpAnyH_takeL (i := 15) (v := ?v7_15) rfl (by kernel_rfl) (by kernel_rfl) (by kernel_rfl) (fun _ _ _ h => h) (by rfl) (by assumption) (fun w hw => ?h7_15) ?r7_15
      case h7_15 => (try dsimp only at hw); go_simp; try with_reducible rfl
      case' r7_15 => skip
      try simp only [Act.put, List.setIfInBounds_toArray, List.set_cons_zero, List.set_cons_succ]
      refine wpAnyH_takeL (i := 16) (v := ?v7_16) rfl (by kernel_rfl) (by kernel_rfl) (by kernel_rfl) (fun _ _ _ h => h) (by rfl) (by assumption) (fun w hw => ?h7_16) ?r7_16
      case h7_16 => (try dsimp only at hw); go_simp; try with_reducible rfl
      case' r7_16 => skip
      try simp only [Act.put, List.setIfInBounds_toArray, List.set_cons_zero, List.set_cons_succ]
      refine wpAnyH_takeL (i := 17) (v := ?v7_17) rfl (by kernel_rfl) (by kernel_rfl) (by kernel_rfl) (fun _ _ _ h => h) (by rfl) (by assumption) (fun w hw => ?h7_17) ?r7_17
      case h7_17 => (try dsimp only at hw); go_simp; try with_reducible rfl
      case' r7_17 => skip
      try simp only [Act.put, List.setIfInBounds_toArray, List.set_cons_zero, List.set_cons_succ]
      refine wpAnyH_takeL (i := 18) (v := ?v7_18) rfl (by kernel_rfl) (by kernel_rfl) (by kernel_rfl) (fun _ _ _ h => h) (by rfl) (by assumption) (fun w hw => ?h7_18) ?r7_18
      case h7_18 => (try dsimp only at hw); go_simp; try with_reducible rfl
      case' r7_18 => skip
      try simp only [Act.put, List.setIfInBounds_toArray, List.set_cons_zero, List.set_cons_succ]
      refine wpAnyH_takeL (i := 19) (v := ?v7_19) rfl (by kernel_rfl) (by kernel_rfl) (by kernel_rfl) (fun _ _ _ h => h) (by rfl) (by assumption) (fun w hw => ?h7_19) ?r7_19
      case h7_19 => (try dsimp only at hw); go_simp; try with_reducible rfl
      case' r7_19 => skip
      try simp only [Act.put, List.setIfInBounds_toArray, List.set_cons_zero, List.set_cons_succ]
      refine wpAnyH_takeL (i := 20) (v := ?v7_20) rfl (by kernel_rfl) (by kernel_rfl) (by kernel_rfl) (fun _ _ _ h => h) (by rfl) (by assumption) (fun w hw => ?h7_20) ?r7_20
      case h7_20 => (try dsimp only at hw); go_simp; try with_reducible rfl
      case' r7_20 => skip
      try simp only [Act.put, List.setIfInBounds_toArray, List.set_cons_zero, List.set_cons_succ]
      refine wpAnyH_takeL (i := 21) (v := ?v7_21) rfl (by kernel_rfl) (by kernel_rfl) (by kernel_rfl) (fun _ _ _ h => h) (by rfl) (by assumption) (fun w hw => ?h7_21) ?r7_21
      case h7_21 => (try dsimp only at hw); go_simp; try with_reducible rfl
      case' r7_21 => skip
      try simp only [Act.put, List.setIfInBounds_toArray, List.set_cons_zero, List.set_cons_succ]
      refine wpAnyH_takeL (i := 22) (v := ?v7_22) rfl (by kernel_rfl) (by kernel_rfl) (by kernel_rfl) (fun _ _ _ h => h) (by rfl) (by assumption) (fun w hw => ?h7_22) ?r7_22
      case h7_22 => (try dsimp only at hw); go_simp; try with_reducible rfl
      case' r7_22 => skip
      try simp only [Act.put, List.setIfInBounds_toArray, List.set_cons_zero, List.set_cons_succ]
      refine AllReadyH.one (i := 23) rfl (by kernel_rfl) (by rfl) (fun K hK => ?_)
      go_simp
      have hS := Same_any _ _ _ _ _ (ho9y.ext hE13').es (HL.out.ext (Ext.trans hEw12 hE13'))
      rw [show decide (l = l) = true from by simp] at hS
      refine hS.mono ?_
      clear hS
      rintro e w14 ⟨rfl, hE14⟩
      have hE14' : Ext (w12.alloc (.cells #[.int .i64 g, .slice A12 lg.length c12, .int .i64 u2] 36)) w14 := Ext.trans hE13' hE14
      have hS14 := hgo _ hE14'
      try (go_wp2_with fail)
      refine hK.out _ _ hS14 (fun hHeld => ?_)
      clear hK K
      try simp only [Act.put, List.setIfInBounds_toArray, List.set_cons_zero, List.set_cons_succ]
      refine wpAnyH_takeL (i := 24) (v := ?v10_24) rfl (by kernel_rfl) (by kernel_rfl) (by kernel_rfl) (fun _ _ _ h => h) (by rfl) (by assumption) (fun w hw => ?h10_24) ?r10_24
      case h10_24 => (try dsimp only at hw); go_simp; try with_reducible rfl
      case' r10_24 => skip
      try simp only [Act.put, List.setIfInBounds_toArray, List.set_cons_zero, List.set_cons_succ]
      refine wpAnyH_takeL (i := 25) (v := ?v10_25) rfl (by kernel_rfl) (by kernel_rfl) (by kernel_rfl) (fun _ _ _ h => h) (by rfl) (by assumption) (fun w hw => ?h10_25) ?r10_25
      case h10_25 => (try dsimp only at hw); go_simp; try with_reducible rfl
      case' r10_25 => skip
      try simp only [Act.put, List.setIfInBounds_toArray, List.set_cons_zero, List.set_cons_succ]
      refine wpAnyH_takeL (i := 26) (v := ?v10_26) rfl (by kernel_rfl) (by kernel_rfl) (by kernel_rfl) (fun _ _ _ h => h) (by rfl) (by assumption) (fun w hw => ?h10_26) ?r10_26
      case h10_26 => (try dsimp only at hw); go_simp; try with_reducible rfl
      case' r10_26 => skip
      try simp only [Act.put, List.setIfInBounds_toArray, List.set_cons_zero, List.set_cons_succ]
      refine wpAnyH_takeL (i := 27) (v := ?v10_27) rfl (by kernel_rfl) (by kernel_rfl) (by kernel_rfl) (fun _ _ _ h => h) (by rfl) (by assumption) (fun w hw => ?h10_27) ?r10_27
      case h10_27 => (try dsimp only at hw); go_simp; try with_reducible rfl
      case' r10_27 => skip
      try simp only [Act.put, List.setIfInBounds_toArray, List.set_cons_zero, List.set_cons_succ]
      refine wpAnyH_takeL (i := 28) (v := ?v10_28) rfl (by kernel_rfl) (by kernel_rfl) (by kernel_rfl) (fun _ _ _ h => h) (by rfl) (by assumption) (fun w hw => ?h10_28) ?r10_28
      case h10_28 => (try dsimp only at hw); go_simp; try with_reducible rfl
      case' r10_28 => skip
      try simp only [Act.put, List.setIfInBounds_toArray, List.set_cons_zero, List.set_cons_succ]
      refine wpAnyH_takeL (i := 29) (v := ?v10_29) rfl (by kernel_rfl) (by kernel_rfl) (by kernel_rfl) (fun _ _ _ h => h) (by rfl) (by assumption) (fun w hw => ?h10_29) ?r10_29
      case h10_29 => (try dsimp only at hw); go_simp; try with_reducible rfl
      case' r10_29 => skip
      try simp only [Act.put, List.setIfInBounds_toArray, List.set_cons_zero, List.set_cons_succ]
      refine wpAnyH_takeL (i := 30) (v := ?v10_30) rfl (by kernel_rfl) (by kernel_rfl) (by kernel_rfl) (fun _ _ _ h => h) (by rfl) (by assumption) (fun w hw => ?h10_30) ?r10_30
      case h10_30 => (try dsimp only at hw); go_simp; try with_reducible rfl
      case' r10_30 => skip
      try simp only [Act.put, List.setIfInBounds_toArray, List.set_cons_zero, List.set_cons_succ]
      refine wpAnyH_takeL (i := 31) (v := ?v10_31) rfl (by kernel_rfl) (by kernel_rfl) (by kernel_rfl) (fun _ _ _ h => h) (by rfl) (by assumption) (fun w hw => ?h10_31) ?r10_31
      case h10_31 => (try dsimp only at hw); go_simp; try with_reducible rfl
      case' r10_31 => skip
      try simp only [Act.put, List.setIfInBounds_toArray, List.set_cons_zero, List.set_cons_succ]
      refine wpAnyH_takeL (i := 32) (v := ?v10_32) rfl (by kernel_rfl) (by kernel_rfl) (by kernel_rfl) (fun _ _ _ h => h) (by rfl) (by assumption) (fun w hw => ?h10_32) ?r10_32
      case h10_32 => (try dsimp only at hw); go_simp; try with_reducible rfl
      case' r10_32 => skip
      try simp only [Act.put, List.setIfInBounds_toArray, List.set_cons_zero, List.set_cons_succ]
      refine wpAnyH_takeL (i := 33) (v := ?v10_33) rfl (by kernel_rfl) (by kernel_rfl) (by kernel_rfl) (fun _ _ _ h => h) (by rfl) (by assumption) (fun w hw => ?h10_33) ?r10_33
      case h10_33 => (try dsimp only at hw); go_simp; try with_reducible rfl
      case' r10_33 => skip
      try simp only [Act.put, List.setIfInBounds_toArray, List.set_cons_zero, List.set_cons_succ]
      refine wpAnyH_takeL (i := 34) (v := ?v10_34) rfl (by kernel_rfl) (by kernel_rfl) (by kernel_rfl) (fun _ _ _ h => h) (by rfl) (by assumption) (fun w hw => ?h10_34) ?r10_34
      case h10_34 => (try dsimp only at hw); go_simp; try with_reducible rfl
      case' r10_34 => skip
      try simp only [Act.put, List.setIfInBounds_toArray, List.set_cons_zero, List.set_cons_succ]
      refine wpAnyH_takeL (i := 35) (v := ?v10_35) rfl (by kernel_rfl) (by kernel_rfl) (by kernel_rfl) (fun _ _ _ h => h) (by rfl) (by assumption) (fun w hw => ?h10_35) ?r10_35
      case h10_35 => (try dsimp only at hw); go_simp; try with_reducible rfl
      case' r10_35 => skip
      try simp only [Act.put, List.setIfInBounds_toArray, List.set_cons_zero, List.set_cons_succ]
      refine AllReadyH.one (i := 36) rfl (by kernel_rfl) (by rfl) (fun K hK => ?_)
      go_simp
      refine (wakes_any _).mono ?_
      rintro e w15 ⟨rfl, hE15⟩
      have hE15' : Ext (w12.alloc (.cells #[.int .i64 g, .slice A12 lg.length c12, .int .i64 u2] 36)) w15 := Ext.trans hE14' hE15
      have hS15 := hgo _ hE15'
      try (go_wp2_with fail)
      refine hK.out _ _ hS15 (fun hHeld => ?_)
      clear hK K
      try simp only [Act.put, List.setIfInBounds_toArray, List.set_cons_zero, List.set_cons_succ]
      refine wpAnyH_takeL (i := 37) (v := ?v13_37) rfl (by kernel_rfl) (by kernel_rfl) (by kernel_rfl) (fun _ _ _ h => h) (by rfl) (by assumption) (fun w hw => ?h13_37) ?r13_37
      case h13_37 => (try dsimp only at hw); go_simp; try with_reducible rfl
      case' r13_37 => skip
      try simp only [Act.put, List.setIfInBounds_toArray, List.set_cons_zero, List.set_cons_succ]
      refine wpAnyH_takeL (i := 38) (v := ?v13_38) rfl (by kernel_rfl) (by kernel_rfl) (by kernel_rfl) (fun _ _ _ h => h) (by rfl) (by assumption) (fun w hw => ?h13_38) ?r13_38
      case h13_38 => (try dsimp only at hw); go_simp; try with_reducible rfl
      case' r13_38 => skip
      try simp only [Act.put, List.setIfInBounds_toArray, List.set_cons_zero, List.set_cons_succ]
      refine wpAnyH_done (by kernel_rfl) ?_ _
      go_wp2_with fail
      go_ret
      exact ⟨rfl, Ext.trans hEw12 hE15'⟩

set_option maxHeartbeats 4000000 in
theorem Tblk_main2 (f g : Nat) (hd : (f : Int) < (g : Int)) (Al : Option Addr) (cl : Nat) (l : List Ent) (w : World) (HL : Hid (Es w (.slice Al l.length cl) l)) (hcl : l.length ≤ cl ∧ cl ≤ 9223372036854775807) (g1 : 1 ≤ (f : Int)) (g2 : (f : Int) ≤ 1073741824) (g3 : 1 ≤ (g : Int)) (g4 : (g : Int) ≤ 1073741824) (g5 : l.length ≠ 0) (g6 : l.length ≤ 4) :
    Calls Try.prog 7 #[.int .i64 f, .int .i64 g, .slice Al l.length cl] w fun e w' => e = .returned (.bool true) ∧ Ext w w' := by
  obtain ⟨hcl1, hcl2⟩ := hcl
  obtain ⟨mx, hm⟩ : ∃ mx : Int, max (f : Int) g = mx := ⟨_, rfl⟩
  have hmx : mx ≤ 1073741824 := by omega
  have g5' : ((l.length : Int) == 0) = false := by rw [beq_eq_false_iff_ne]; omega
  go_enter Try.func7, Try.ntmps7
  go_wp2_with fail
  go_loopw [7] (fun i wr => ∃ k : Nat, k ≤ l.length ∧ i = .int .i64 k ∧ Hid (allOk (l.take k) = true) ∧ Ext w wr) (fun i _ => l.length - (intOf i).toNat)
  case atStart => exact ⟨0, Nat.zero_le _, rfl, rfl, Ext.refl _⟩
  case round =>
    obtain ⟨k, hk, rfl, Hb, hB⟩ := hrel
    by_cases hlt : k < l.length
    · obtain ⟨_, b, off, rfl, hc⟩ := Es.at_ (HL.out.ext hB) (by omega)
      obtain ⟨hc0, hc1, hc2⟩ := hc k hlt
      clear hc
      go_wp2_with (first
        | (go_at_call 23; refine (refRight_any _ _ _ _).mono ?_; rintro e w' ⟨rfl, hb⟩)
        | (go_at_call 8; refine (wakes_any _).mono ?_; rintro e w'' ⟨rfl, hE⟩))
      · go_ret
        exact ⟨rfl, Ext.trans hB (Ext.trans hb hE)⟩
      · go_roundw
        case rel =>
          have hok : l[k].ok = true := by simpa [Ent.ok] using (by assumption : (!okB l[k].t l[k].k l[k].v) = false)
          exact ⟨k + 1, by omega, by go_num, (allOk_take hlt Hb.out).trans hok, Ext.trans hB hb⟩
        case measure => simp [intOf]; omega
    · have hok : allOk l = true := by
        have := Hb.out
        rwa [List.take_of_length_le (by omega)] at this
      obtain ⟨X, Y, KB, F, pa, pc, pz, u1, u2, q1, q2, hX, hY, hEX, hEY, hXl, hYl, hbo, hK, hpz, hK8, hK65, hKd, hF, hk1, hk2⟩ := tblk_plain (a := f) (c := g) (by omega) (by omega) (by omega) (by omega) hok g5 g6
      have HX := Lib.hid hX
      have HY := Lib.hid hY
      have HEX := Lib.hid hEX
      have HEY := Lib.hid hEY
      have Hbo := Lib.hid hbo
      have HK := Lib.hid hK
      have Hpz := Lib.hid hpz
      have HKd := Lib.hid hKd
      have HF := Lib.hid hF
      have HK1 := Lib.hid hk1
      have HK2 := Lib.hid hk2
      clear hX hY hEX hEY hbo hK hpz hKd hF hk1 hk2 hok hm
      have hEr : Ext w wr := hB
      go_wp2_with fail
      refine (File_any f _ [] wr (SlR.nil _ 3) (by simp)).mono ?_
      rw [HX.out]
      rintro e w1 ⟨v1, rfl, ho1, hE1⟩
      have ho1' : OwnB w1 wr.heap.size v1 X := ho1
      obtain ⟨A1, c1, rfl, _, _⟩ := SlR.open_ ho1'.bs
      dsimp only
      clear ho1
      go_wp2_with fail
      refine (File_any g _ [] w1 (SlR.nil _ 3) (by simp)).mono ?_
      rw [HY.out]
      rintro e w2 ⟨v2, rfl, ho2, hE2⟩
      have ho2' : OwnB w2 w1.heap.size v2 Y := ho2
      obtain ⟨A2, c2, rfl, _, _⟩ := SlR.open_ ho2'.bs
      dsimp only
      clear ho2
      go_wp2_with fail
      refine (End_any _ X w2 (ho1'.ext hE2).bs (by omega)).mono ?_
      rw [HEX.out]
      rintro e w3 ⟨vz, rfl, hpz, hE3⟩
      have hpt := hpz.pt
      obtain ⟨z1, z2, rfl, hz1, hz2⟩ := hpz
      dsimp only at hz1 hz2 hpt ⊢
      go_wp2_with fail
      have hE3' : Ext w2 w3 := hE3
      refine (End_any _ Y w3 (ho2'.ext hE3').bs (by omega)).mono ?_
      rw [HEY.out]
      rintro e w4 ⟨vy, rfl, hpy, hE4⟩
      obtain ⟨y1, y2, rfl, hy1, hy2⟩ := hpy
      dsimp only at hy1 hy2 ⊢
      have hE4' : Ext w3 w4 := hE4
      have hEw4 : Ext w w4 := Ext.trans hEr (Ext.trans hE1 (Ext.trans hE2 (Ext.trans hE3' hE4')))
      clear hE3 hE4
      go_wp2_with fail
      refine (Block_ok z1 z2 _ l w4 (HL.out.ext hEw4) Hbo.out).mono ?_
      rw [hpt]
      rintro e w5 ⟨v5, vp, rfl, hpp, ho5, hE5⟩
      rw [HK.out] at ho5
      rw [Hpz.out] at hpp
      have hptp := hpp.pt
      obtain ⟨p1, p2, rfl, hp1, hp2⟩ := hpp
      have ho5' : OwnB w5 w4.heap.size v5 KB := ho5
      obtain ⟨g5b, c5, rfl, hg5, _, _⟩ := ownsRow_pos ho5 (by omega)
      dsimp only
      clear ho5
      have hK8' : ¬ ((KB.length : Int) < 8) := by omega
      go_wp2_with fail
      obtain ⟨f0, f1, f2, f3, hf4⟩ : ∃ f0 f1 f2 f3 : UInt8, fourB pz = [f0, f1, f2, f3] := ⟨_, _, _, _, rfl⟩
      have hFF : F = [f0, f1, f2, f3] := by rw [← HF.out, hf4]
      have HFF := Lib.hid hFF
      have h4c : Calls Try.prog 25 #[.complex .f64 p1 p2] w5 fun e w' => e = .returned (.agg #[.int .u8 (f0.toNat : Int), .int .u8 (f1.toNat : Int), .int .u8 (f2.toNat : Int), .int .u8 (f3.toNat : Int)]) ∧ Ext w5 w' := by
        refine (refFour_any p1 p2 w5).mono ?_
        rintro e w' ⟨rfl, hE⟩
        exact ⟨by rw [hptp, hf4]; rfl, hE⟩
      refine h4c.mono ?_
      clear h4c hf4 hFF
      rintro e w6 ⟨rfl, hE6⟩
      have hE6' : Ext w5 w6 := hE6
      have hX6 : Ext w6 (w6.alloc (.cells #[.int .u8 (f0.toNat : Int), .int .u8 (f1.toNat : Int), .int .u8 (f2.toNat : Int), .int .u8 (f3.toNat : Int)] 50)) := Ext.alloc (Ext.refl _) _
      have hEw6 : Ext w (w6.alloc (.cells #[.int .u8 (f0.toNat : Int), .int .u8 (f1.toNat : Int), .int .u8 (f2.toNat : Int), .int .u8 (f3.toNat : Int)] 50)) := Ext.trans hEw4 (Ext.trans hE5 (Ext.trans hE6' hX6))
      have hX6s : OwnB (w6.alloc (.cells #[.int .u8 (f0.toNat : Int), .int .u8 (f1.toNat : Int), .int .u8 (f2.toNat : Int), .int .u8 (f3.toNat : Int)] 50)) wr.heap.size (.slice A1 X.length c1) X := ho1'.ext (Ext.trans hE2 (Ext.trans hE3' (Ext.trans hE4' (Ext.trans hE5 (Ext.trans hE6' hX6)))))
      have hY6s : OwnB (w6.alloc (.cells #[.int .u8 (f0.toNat : Int), .int .u8 (f1.toNat : Int), .int .u8 (f2.toNat : Int), .int .u8 (f3.toNat : Int)] 50)) w1.heap.size (.slice A2 Y.length c2) Y := ho2'.ext (Ext.trans hE3' (Ext.trans hE4' (Ext.trans hE5 (Ext.trans hE6' hX6))))
      have hK6s : OwnB (w6.alloc (.cells #[.int .u8 (f0.toNat : Int), .int .u8 (f1.toNat : Int), .int .u8 (f2.toNat : Int), .int .u8 (f3.toNat : Int)] 50)) w4.heap.size (.slice (some ⟨g5b, 0, none⟩) KB.length c5) KB := ho5'.ext (Ext.trans hE6' hX6)
      have hbx := Blk.new w6 50 #[.int .u8 (f0.toNat : Int), .int .u8 (f1.toNat : Int), .int .u8 (f2.toNat : Int), .int .u8 (f3.toNat : Int)]
      clear hE6 hE1 hE2 hE3' hE4' hE5 hE6' hX6 ho1' ho2' ho5' hEw4
      go_wp2_with (first
        | (at_builtin; refine wpList_app_b rfl (.tmp 113) (.tmp 114) rfl (w6.heap.size + 1) _ [] rfl (ownB_empty1 w6 _) _ X rfl (hX6s.ext (Ext.alloc (Ext.refl _) _)).bs (by simp; omega) (by simp) ?_; intro A7 c7 w7 ho7 hG7; have hE7 : Ext (w6.alloc (.cells #[.int .u8 (f0.toNat : Int), .int .u8 (f1.toNat : Int), .int .u8 (f2.toNat : Int), .int .u8 (f3.toNat : Int)] 50)) w7 := hG7 _ (Ext.alloc (Ext.refl _) _) (by simp); simp only [List.length_nil, Nat.zero_add, List.nil_append] at ho7 ⊢)
        | (at_builtin; refine wpList_app_b rfl (.tmp 115) (.tmp 116) rfl (w6.heap.size + 1) _ X rfl ho7 _ KB rfl (hK6s.ext hE7).bs (by omega) (by have := hE7.size; simpa using this) ?_; intro A8 c8 w8 ho8 hG8; have hE8 : Ext (w6.alloc (.cells #[.int .u8 (f0.toNat : Int), .int .u8 (f1.toNat : Int), .int .u8 (f2.toNat : Int), .int .u8 (f3.toNat : Int)] 50)) w8 := hG8 _ hE7 (by simp)))
      refine (Scan_any _ (X ++ KB) w8 ho8.bs (by rw [List.length_append]; omega)).mono ?_
      rw [HK1.out]
      rintro e w9 ⟨v9, rfl, ho9, hE9⟩
      have ho9' : OwnE w9 w8.heap.size v9 l := ho9
      obtain ⟨A9, c9, rfl, _, _⟩ := SlR.open_ ho9'.es
      dsimp only
      clear ho9
      have hX9 : Ext w9 (w9.alloc (.cells #[.int .i64 f, .slice A9 l.length c9, .int .i64 u1] 36)) := Ext.alloc (Ext.refl _) _
      have hb9 := Blk.new w9 36 #[.int .i64 f, .slice A9 l.length c9, .int .i64 u1]
      have hE69 : Ext (w6.alloc (.cells #[.int .u8 (f0.toNat : Int), .int .u8 (f1.toNat : Int), .int .u8 (f2.toNat : Int), .int .u8 (f3.toNat : Int)] 50)) (w9.alloc (.cells #[.int .i64 f, .slice A9 l.length c9, .int .i64 u1] 36)) := Ext.trans hE8 (Ext.trans hE9 hX9)
      have hY9s := hY6s.ext hE69
      have hK9s := hK6s.ext hE69
      have hbx9 := hbx.ext hE69
      have ho9x := ho9'.ext hX9
      clear hG7 hG8 hE7 hE8 hE9 ho9' ho7 ho8
      go_wp2_with (first
        | (at_builtin; refine wpList_app_b rfl (.tmp 122) (.tmp 123) rfl (w9.heap.size + 1) _ [] rfl (ownB_empty1 w9 _) _ Y rfl (hY9s.ext (Ext.alloc (Ext.refl _) _)).bs (by simp; omega) (by simp) ?_; intro A10 c10 w10 ho10 hG10; have hE10 : Ext (w9.alloc (.cells #[.int .i64 f, .slice A9 l.length c9, .int .i64 u1] 36)) w10 := hG10 _ (Ext.alloc (Ext.refl _) _) (by simp); simp only [List.length_nil, Nat.zero_add, List.nil_append] at ho10 ⊢)
        | (at_builtin; refine wpList_app_b rfl (.tmp 124) (.tmp 125) rfl (w9.heap.size + 1) _ Y rfl ho10 _ KB rfl (hK9s.ext hE10).bs (by omega) (by have := hE10.size; simpa using this) ?_; intro A11 c11 w11 ho11 hG11; have hE11 : Ext (w9.alloc (.cells #[.int .i64 f, .slice A9 l.length c9, .int .i64 u1] 36)) w11 := hG11 _ hE10 (by simp)))
      refine (Scan_any _ (Y ++ KB) w11 ho11.bs (by rw [List.length_append]; omega)).mono ?_
      rw [HK2.out]
      obtain ⟨lg, hlg⟩ : ∃ lg, (if pa = pc then l else []) = lg := ⟨_, rfl⟩
      rw [hlg]
      have Hlg := Lib.hid hlg
      clear hlg
      rintro e w12 ⟨v12, rfl, ho12, hE12⟩
      have ho12' : OwnE w12 w11.heap.size v12 lg := ho12
      obtain ⟨A12, c12, rfl, _, _⟩ := SlR.open_ ho12'.es
      dsimp only
      clear ho12
      have hX12 : Ext w12 (w12.alloc (.cells #[.int .i64 g, .slice A12 lg.length c12, .int .i64 u2] 36)) := Ext.alloc (Ext.refl _) _
      have hb12 := Blk.new w12 36 #[.int .i64 g, .slice A12 lg.length c12, .int .i64 u2]
      have hE912 : Ext (w9.alloc (.cells #[.int .i64 f, .slice A9 l.length c9, .int .i64 u1] 36)) (w12.alloc (.cells #[.int .i64 g, .slice A12 lg.length c12, .int .i64 u2] 36)) := Ext.trans hE11 (Ext.trans hE12 hX12)
      have hb9' := hb9.ext hE912
      have hbx12 := hbx9.ext hE912
      have hK12s := hK9s.ext hE912
      have ho9y := ho9x.ext hE912
      have hEw12 : Ext w (w12.alloc (.cells #[.int .i64 g, .slice A12 lg.length c12, .int .i64 u2] 36)) := Ext.trans hEw6 (Ext.trans hE69 hE912)
      clear hG10 hG11 hE10 hE11 hE12 ho12' ho10 ho11 hb9 hbx9 hK9s ho9x hX6s hY6s hK6s hbx hY9s
      go_wp2_with fail
      obtain ⟨n4, hn4⟩ : ∃ n4, KB.length - 4 = n4 := ⟨_, rfl⟩
      have hk4 : (KB.length : Int) - 4 = (n4 : Int) := by omega
      have hk5 : KB.length = n4 + 4 := by omega
      have hcs : ∃ B1 B2 B3 : Bool, (FloatKind.f64.format.order z1 y1 == some .eq) = B1 ∧ (FloatKind.f64.format.order z2 y2 == some .eq) = B2 ∧ decide (0 < lg.length) = B3 ∧ ((B1 = true ∧ B2 = true ∧ B3 = true) ∨ (B1 = false ∧ B2 = false ∧ B3 = false) ∨ (B1 = true ∧ B2 = false ∧ B3 = false) ∨ (B1 = false ∧ B2 = true ∧ B3 = false)) := by
        refine ⟨_, _, _, order_pt hz1 hy1, order_pt hz2 hy2, rfl, ?_⟩
        have hl3 := Hlg.out
        by_cases hpp : pa = pc
        · rw [if_pos hpp] at hl3
          subst hl3 hpp
          exact .inl ⟨by simp, by simp, decide_eq_true (by omega)⟩
        · rw [if_neg hpp] at hl3
          subst hl3
          right
          by_cases e1 : pa.1 = pc.1
          · by_cases e2 : pa.2 = pc.2
            · exact absurd (Prod.ext e1 e2) hpp
            · simp [e1, e2]
          · by_cases e2 : pa.2 = pc.2
            · simp [e1, e2]
            · simp [e1, e2]
      obtain ⟨B1, B2, B3, k1, k2, k3, hBB⟩ := hcs
      have kk : (B3 == (B1 && B2)) = true := by rcases hBB with ⟨rfl, rfl, rfl⟩ | ⟨rfl, rfl, rfl⟩ | ⟨rfl, rfl, rfl⟩ | ⟨rfl, rfl, rfl⟩ <;> rfl
      clear hBB
      have hgo : ∀ W', Ext (w12.alloc (.cells #[.int .i64 g, .slice A12 lg.length c12, .int .i64 u2] 36)) W' → W'.cell? ⟨w9.heap.size, 1, none⟩ = some (.slice A9 l.length c9) ∧ W'.cell? ⟨w12.heap.size, 1, none⟩ = some (.slice A12 lg.length c12) := fun W' h => by
        obtain ⟨_, q1, _, _, _, _⟩ := blk3 (hb9'.ext h)
        obtain ⟨_, r1, _, _, _, _⟩ := blk3 (hb12.ext h)
        exact ⟨q1, r1⟩
      have hR := refRightC_any p1 p2
      rw [hp1, hp2] at hR
      simp only [Option.isSome_some, Bool.and_self] at hR
      have HR := Lib.hid hR
      have hKc : ∀ W, Ext (w12.alloc (.cells #[.int .i64 g, .slice A12 lg.length c12, .int .i64 u2] 36)) W → Bs W (.slice (some ⟨g5b, n4, none⟩) (KB.length - n4) (c5 - n4)) F := by
        intro W hE
        have h := Bs.cut (hK12s.ext hE).bs n4 (by omega) rfl
        rw [Nat.zero_add, ← hn4, HKd.out, hn4] at h
        exact h
      have HKC := Lib.hid hKc
      have hFb : ∀ W, Ext (w12.alloc (.cells #[.int .i64 g, .slice A12 lg.length c12, .int .i64 u2] 36)) W → Bs W (.slice (some ⟨w6.heap.size, 0, none⟩) 4 4) F := by
        intro W hE
        rw [HFF.out]
        exact blk_slice (cs := [f0, f1, f2, f3].map bv) (hbx12.ext hE) rfl (by simp [maxLen])
      have HFB := Lib.hid hFb
      have hw1 : IntKind.i64.wrap (n4 : Int) = (n4 : Int) := IntWalk.i64_in _ (by omega)
      have b1 : (0 : Int) ≤ (n4 : Int) := by omega
      have b2 : (n4 : Int) ≤ (KB.length : Int) := by omega
      have b3 : (KB.length : Int) ≤ (c5 : Int) := by omega
      have b4 : (n4 : Int) ≤ (c5 : Int) := by omega
      have b5 : ¬ (c5 = n4) := by omega
      clear hR hKc hFb hz1 hz2 hy1 hy2 hp1 hp2 hk5
      refine wp_region_held_drew (S := fun W' => W'.cell? ⟨w9.heap.size, 1, none⟩ = some (.slice A9 l.length c9) ∧ W'.cell? ⟨w12.heap.size, 1, none⟩ = some (.slice A12 lg.length c12)) (by kernel_rfl) (hgo _ (Ext.drew (Ext.refl _))) (fun hHeld => ?_)
      refine wpAnyH_takeL (i := 0) (v := ?v15_0) rfl (by kernel_rfl) (by kernel_rfl) (by kernel_rfl) (fun _ _ _ h => h) (by rfl) (by assumption) (fun w hw => ?h15_0) ?r15_0
      case h15_0 => (try dsimp only at hw); go_simp; try with_reducible rfl
      case' r15_0 => skip
      try simp only [Act.put, List.setIfInBounds_toArray, List.set_cons_zero, List.set_cons_succ]
      refine AllReadyH.one (i := 1) rfl (by kernel_rfl) (by rfl) (fun K hK => ?_)
      go_simp
      refine (HR.out _).mono ?_
      rintro e w13 ⟨rfl, rfl⟩
      have hE13 : Ext (w12.alloc (.cells #[.int .i64 g, .slice A12 lg.length c12, .int .i64 u2] 36)) (World.drew (w12.alloc (.cells #[.int .i64 g, .slice A12 lg.length c12, .int .i64 u2] 36))) := Ext.drew (Ext.refl _)
      have hS13 := hgo _ hE13
      try (go_wp2_with fail)
      refine hK.out _ _ hS13 (fun hHeld => ?_)
      clear hK K
      try simp only [Act.put, List.setIfInBounds_toArray, List.set_cons_zero, List.set_cons_succ]
      refine wpAnyH_takeL (i := 2) (v := ?v18_2) rfl (by kernel_rfl) (by kernel_rfl) (by kernel_rfl) (fun _ _ _ h => h) (by rfl) (by assumption) (fun w hw => ?h18_2) ?r18_2
      case h18_2 => (try dsimp only at hw); go_simp; try with_reducible rfl
      case' r18_2 => skip
      try simp only [Act.put, List.setIfInBounds_toArray, List.set_cons_zero, List.set_cons_succ]
      refine wpAnyH_takeL (i := 3) (v := ?v18_3) rfl (by kernel_rfl) (by kernel_rfl) (by kernel_rfl) (fun _ _ _ h => h) (by rfl) (by assumption) (fun w hw => ?h18_3) ?r18_3
      case h18_3 => (try dsimp only at hw); go_simp; try with_reducible rfl
      case' r18_3 => skip
      try simp only [Act.put, List.setIfInBounds_toArray, List.set_cons_zero, List.set_cons_succ]
      refine wpAnyH_takeL (i := 4) (v := ?v18_4) rfl (by kernel_rfl) (by kernel_rfl) (by kernel_rfl) (fun _ _ _ h => h) (by rfl) (by assumption) (fun w hw => ?h18_4) ?r18_4
      case h18_4 => (try dsimp only at hw); go_simp; try with_reducible rfl
      case' r18_4 => skip
      try simp only [Act.put, List.setIfInBounds_toArray, List.set_cons_zero, List.set_cons_succ]
      refine wpAnyH_takeL (i := 5) (v := ?v18_5) rfl (by kernel_rfl) (by kernel_rfl) (by kernel_rfl) (fun _ _ _ h => h) (by rfl) (by assumption) (fun w hw => ?h18_5) ?r18_5
      case h18_5 => (try dsimp only at hw); go_simp; try with_reducible rfl
      case' r18_5 => skip
      try simp only [Act.put, List.setIfInBounds_toArray, List.set_cons_zero, List.set_cons_succ]
      refine wpAnyH_takeL (i := 6) (v := ?v18_6) rfl (by kernel_rfl) (by kernel_rfl) (by kernel_rfl) (fun _ _ _ h => h) (by rfl) (by assumption) (fun w hw => ?h18_6) ?r18_6
      case h18_6 => (try dsimp only at hw); go_simp; try with_reducible rfl
      case' r18_6 => skip
      try simp only [Act.put, List.setIfInBounds_toArray, List.set_cons_zero, List.set_cons_succ]
      refine wpAnyH_takeL (i := 7) (v := ?v18_7) rfl (by kernel_rfl) (by kernel_rfl) (by kernel_rfl) (fun _ _ _ h => h) (by rfl) (by assumption) (fun w hw => ?h18_7) ?r18_7
      case h18_7 => (try dsimp only at hw); go_simp; try with_reducible rfl
      case' r18_7 => skip
      try simp only [Act.put, List.setIfInBounds_toArray, List.set_cons_zero, List.set_cons_succ]
      refine wpAnyH_takeL (i := 8) (v := ?v18_8) rfl (by kernel_rfl) (by kernel_rfl) (by kernel_rfl) (fun _ _ _ h => h) (by rfl) (by assumption) (fun w hw => ?h18_8) ?r18_8
      case h18_8 => (try dsimp only at hw); go_simp; try with_reducible rfl
      case' r18_8 => skip
      try simp only [Act.put, List.setIfInBounds_toArray, List.set_cons_zero, List.set_cons_succ]
      refine AllReadyH.one (i := 9) rfl (by kernel_rfl) (by rfl) (fun K hK => ?_)
      go_simp
      refine (same_any _ _ F F _ (HKC.out _ (Ext.drew (Ext.refl _))) (HFB.out _ (Ext.drew (Ext.refl _)))).mono ?_
      rw [show decide (F = F) = true from by simp]
      rintro e w13 ⟨rfl, hE13⟩
      have hE13' : Ext (w12.alloc (.cells #[.int .i64 g, .slice A12 lg.length c12, .int .i64 u2] 36)) w13 := Ext.trans (Ext.drew (Ext.refl _)) hE13
      have hS13 := hgo _ hE13'
      try (go_wp2_with fail)
      refine hK.out _ _ hS13 (fun hHeld => ?_)
      clear hK K
      try simp only [Act.put, List.setIfInBounds_toArray, List.set_cons_zero, List.set_cons_succ]
      refine wpAnyH_takeL (i := 10) (v := ?v21_10) rfl (by kernel_rfl) (by kernel_rfl) (by kernel_rfl) (fun _ _ _ h => h) (by rfl) (by assumption) (fun w hw => ?h21_10) ?r21_10
      case h21_10 => (try dsimp only at hw); go_simp; try with_reducible rfl
      case' r21_10 => skip
      try simp only [Act.put, List.setIfInBounds_toArray, List.set_cons_zero, List.set_cons_succ]
      refine wpAnyH_takeL (i := 11) (v := ?v21_11) rfl (by kernel_rfl) (by kernel_rfl) (by kernel_rfl) (fun _ _ _ h => h) (by rfl) (by assumption) (fun w hw => ?h21_11) ?r21_11
      case h21_11 => (try dsimp only at hw); go_simp; try with_reducible rfl
      case' r21_11 => skip
      try simp only [Act.put, List.setIfInBounds_toArray, List.set_cons_zero, List.set_cons_succ]
      refine wpAnyH_takeL (i := 12) (v := ?v21_12) rfl (by kernel_rfl) (by kernel_rfl) (by kernel_rfl) (fun _ _ _ h => h) (by rfl) (by assumption) (fun w hw => ?h21_12) ?r21_12
      case h21_12 => (try dsimp only at hw); go_simp; try with_reducible rfl
      case' r21_12 => skip
      try simp only [Act.put, List.setIfInBounds_toArray, List.set_cons_zero, List.set_cons_succ]
      refine wpAnyH_takeL (i := 13) (v := ?v21_13) rfl (by kernel_rfl) (by kernel_rfl) (by kernel_rfl) (fun _ _ _ h => h) (by rfl) (by assumption) (fun w hw => ?h21_13) ?r21_13
      case h21_13 => (try dsimp only at hw); go_simp; try with_reducible rfl
      case' r21_13 => skip
      try simp only [Act.put, List.setIfInBounds_toArray, List.set_cons_zero, List.set_cons_succ]
      refine wpAnyH_takeL (i := 14) (v := ?v21_14) rfl (by kernel_rfl) (by kernel_rfl) (by kernel_rfl) (fun _ _ _ h => h) (by rfl) (by assumption) (fun w hw => ?h21_14) ?r21_14
      case h21_14 => (try dsimp only at hw); go_simp; try with_reducible rfl
      case' r21_14 => skip
      try simp only [Act.put, List.setIfInBounds_toArray, List.set_cons_zero, List.set_cons_succ]
      refine wpAnyH_takeL (i := 15) (v := ?v21_15) rfl (by kernel_rfl) (by kernel_rfl) (by kernel_rfl) (fun _ _ _ h => h) (by rfl) (by assumption) (fun w hw => ?h21_15) ?r21_15
      case h21_15 => (try dsimp only at hw); go_simp; try with_reducible rfl
      case' r21_15 => skip
      try simp only [Act.put, List.setIfInBounds_toArray, List.set_cons_zero, List.set_cons_succ]
      refine wpAnyH_takeL (i := 16) (v := ?v21_16) rfl (by kernel_rfl) (by kernel_rfl) (by kernel_rfl) (fun _ _ _ h => h) (by rfl) (by assumption) (fun w hw => ?h21_16) ?r21_16
      case h21_16 => (try dsimp only at hw); go_simp; try with_reducible rfl
      case' r21_16 => skip
      try simp only [Act.put, List.setIfInBounds_toArray, List.set_cons_zero, List.set_cons_succ]
      refine wpAnyH_takeL (i := 17) (v := ?v21_17) rfl (by kernel_rfl) (by kernel_rfl) (by kernel_rfl) (fun _ _ _ h => h) (by rfl) (by assumption) (fun w hw => ?h21_17) ?r21_17
      case h21_17 => (try dsimp only at hw); go_simp; try with_reducible rfl
      case' r21_17 => skip
      try simp only [Act.put, List.setIfInBounds_toArray, List.set_cons_zero, List.set_cons_succ]
      refine wpAnyH_takeL (i := 18) (v := ?v21_18) rfl (by kernel_rfl) (by kernel_rfl) (by kernel_rfl) (fun _ _ _ h => h) (by rfl) (by assumption) (fun w hw => ?h21_18) ?r21_18
      case h21_18 => (try dsimp only at hw); go_simp; try with_reducible rfl
      case' r21_18 => skip
      try simp only [Act.put, List.setIfInBounds_toArray, List.set_cons_zero, List.set_cons_succ]
      refine wpAnyH_takeL (i := 19) (v := ?v21_19) rfl (by kernel_rfl) (by kernel_rfl) (by kernel_rfl) (fun _ _ _ h => h) (by rfl) (by assumption) (fun w hw => ?h21_19) ?r21_19
      case h21_19 => (try dsimp only at hw); go_simp; try with_reducible rfl
      case' r21_19 => skip
      try simp only [Act.put, List.setIfInBounds_toArray, List.set_cons_zero, List.set_cons_succ]
      refine wpAnyH_takeL (i := 20) (v := ?v21_20) rfl (by kernel_rfl) (by kernel_rfl) (by kernel_rfl) (fun _ _ _ h => h) (by rfl) (by assumption) (fun w hw => ?h21_20) ?r21_20
      case h21_20 => (try dsimp only at hw); go_simp; try with_reducible rfl
      case' r21_20 => skip
      try simp only [Act.put, List.setIfInBounds_toArray, List.set_cons_zero, List.set_cons_succ]
      refine wpAnyH_takeL (i := 21) (v := ?v21_21) rfl (by kernel_rfl) (by kernel_rfl) (by kernel_rfl) (fun _ _ _ h => h) (by rfl) (by assumption) (fun w hw => ?h21_21) ?r21_21
      case h21_21 => (try dsimp only at hw); go_simp; try with_reducible rfl
      case' r21_21 => skip
      try simp only [Act.put, List.setIfInBounds_toArray, List.set_cons_zero, List.set_cons_succ]
      refine wpAnyH_takeL (i := 22) (v := ?v21_22) rfl (by kernel_rfl) (by kernel_rfl) (by kernel_rfl) (fun _ _ _ h => h) (by rfl) (by assumption) (fun w hw => ?h21_22) ?r21_22
      case h21_22 => (try dsimp only at hw); go_simp; try with_reducible rfl
      case' r21_22 => skip
      try simp only [Act.put, List.setIfInBounds_toArray, List.set_cons_zero, List.set_cons_succ]
      refine AllReadyH.one (i := 23) rfl (by kernel_rfl) (by rfl) (fun K hK => ?_)
      go_simp
      have hS := Same_any _ _ _ _ _ (ho9y.ext hE13').es (HL.out.ext (Ext.trans hEw12 hE13'))
      rw [show decide (l = l) = true from by simp] at hS
      refine hS.mono ?_
      clear hS
      rintro e w14 ⟨rfl, hE14⟩
      have hE14' : Ext (w12.alloc (.cells #[.int .i64 g, .slice A12 lg.length c12, .int .i64 u2] 36)) w14 := Ext.trans hE13' hE14
      have hS14 := hgo _ hE14'
      try (go_wp2_with fail)
      refine hK.out _ _ hS14 (fun hHeld => ?_)
      clear hK K
      try simp only [Act.put, List.setIfInBounds_toArray, List.set_cons_zero, List.set_cons_succ]
      refine wpAnyH_takeL (i := 24) (v := ?v24_24) rfl (by kernel_rfl) (by kernel_rfl) (by kernel_rfl) (fun _ _ _ h => h) (by rfl) (by assumption) (fun w hw => ?h24_24) ?r24_24
      case h24_24 => (try dsimp only at hw); go_simp; try with_reducible rfl
      case' r24_24 => skip
      try simp only [Act.put, List.setIfInBounds_toArray, List.set_cons_zero, List.set_cons_succ]
      refine wpAnyH_takeL (i := 25) (v := ?v24_25) rfl (by kernel_rfl) (by kernel_rfl) (by kernel_rfl) (fun _ _ _ h => h) (by rfl) (by assumption) (fun w hw => ?h24_25) ?r24_25
      case h24_25 => (try dsimp only at hw); go_simp; try with_reducible rfl
      case' r24_25 => skip
      try simp only [Act.put, List.setIfInBounds_toArray, List.set_cons_zero, List.set_cons_succ]
      refine wpAnyH_takeL (i := 26) (v := ?v24_26) rfl (by kernel_rfl) (by kernel_rfl) (by kernel_rfl) (fun _ _ _ h => h) (by rfl) (by assumption) (fun w hw => ?h24_26) ?r24_26
      case h24_26 => (try dsimp only at hw); go_simp; try with_reducible rfl
      case' r24_26 => skip
      try simp only [Act.put, List.setIfInBounds_toArray, List.set_cons_zero, List.set_cons_succ]
      refine wpAnyH_takeL (i := 27) (v := ?v24_27) rfl (by kernel_rfl) (by kernel_rfl) (by kernel_rfl) (fun _ _ _ h => h) (by rfl) (by assumption) (fun w hw => ?h24_27) ?r24_27
      case h24_27 => (try dsimp only at hw); go_simp; try with_reducible rfl
      case' r24_27 => skip
      try simp only [Act.put, List.setIfInBounds_toArray, List.set_cons_zero, List.set_cons_succ]
      refine wpAnyH_takeL (i := 28) (v := ?v24_28) rfl (by kernel_rfl) (by kernel_rfl) (by kernel_rfl) (fun _ _ _ h => h) (by rfl) (by assumption) (fun w hw => ?h24_28) ?r24_28
      case h24_28 => (try dsimp only at hw); go_simp; try with_reducible rfl
      case' r24_28 => skip
      try simp only [Act.put, List.setIfInBounds_toArray, List.set_cons_zero, List.set_cons_succ]
      refine wpAnyH_takeL (i := 29) (v := ?v24_29) rfl (by kernel_rfl) (by kernel_rfl) (by kernel_rfl) (fun _ _ _ h => h) (by rfl) (by assumption) (fun w hw => ?h24_29) ?r24_29
      case h24_29 => (try dsimp only at hw); go_simp; try with_reducible rfl
      case' r24_29 => skip
      try simp only [Act.put, List.setIfInBounds_toArray, List.set_cons_zero, List.set_cons_succ]
      refine wpAnyH_takeL (i := 30) (v := ?v24_30) rfl (by kernel_rfl) (by kernel_rfl) (by kernel_rfl) (fun _ _ _ h => h) (by rfl) (by assumption) (fun w hw => ?h24_30) ?r24_30
      case h24_30 => (try dsimp only at hw); go_simp; try with_reducible rfl
      case' r24_30 => skip
      try simp only [Act.put, List.setIfInBounds_toArray, List.set_cons_zero, List.set_cons_succ]
      refine wpAnyH_takeL (i := 31) (v := ?v24_31) rfl (by kernel_rfl) (by kernel_rfl) (by kernel_rfl) (fun _ _ _ h => h) (by rfl) (by assumption) (fun w hw => ?h24_31) ?r24_31
      case h24_31 => (try dsimp only at hw); go_simp; try with_reducible rfl
      case' r24_31 => skip
      try simp only [Act.put, List.setIfInBounds_toArray, List.set_cons_zero, List.set_cons_succ]
      refine wpAnyH_takeL (i := 32) (v := ?v24_32) rfl (by kernel_rfl) (by kernel_rfl) (by kernel_rfl) (fun _ _ _ h => h) (by rfl) (by assumption) (fun w hw => ?h24_32) ?r24_32
      case h24_32 => (try dsimp only at hw); go_simp; try with_reducible rfl
      case' r24_32 => skip
      try simp only [Act.put, List.setIfInBounds_toArray, List.set_cons_zero, List.set_cons_succ]
      refine wpAnyH_takeL (i := 33) (v := ?v24_33) rfl (by kernel_rfl) (by kernel_rfl) (by kernel_rfl) (fun _ _ _ h => h) (by rfl) (by assumption) (fun w hw => ?h24_33) ?r24_33
      case h24_33 => (try dsimp only at hw); go_simp; try with_reducible rfl
      case' r24_33 => skip
      try simp only [Act.put, List.setIfInBounds_toArray, List.set_cons_zero, List.set_cons_succ]
      refine wpAnyH_takeL (i := 34) (v := ?v24_34) rfl (by kernel_rfl) (by kernel_rfl) (by kernel_rfl) (fun _ _ _ h => h) (by rfl) (by assumption) (fun w hw => ?h24_34) ?r24_34
      case h24_34 => (try dsimp only at hw); go_simp; try with_reducible rfl
      case' r24_34 => skip
      try simp only [Act.put, List.setIfInBounds_toArray, List.set_cons_zero, List.set_cons_succ]
      refine wpAnyH_takeL (i := 35) (v := ?v24_35) rfl (by kernel_rfl) (by kernel_rfl) (by kernel_rfl) (fun _ _ _ h => h) (by rfl) (by assumption) (fun w hw => ?h24_35) ?r24_35
      case h24_35 => (try dsimp only at hw); go_simp; try with_reducible rfl
      case' r24_35 => skip
      try simp only [Act.put, List.setIfInBounds_toArray, List.set_cons_zero, List.set_cons_succ]
      refine AllReadyH.one (i := 36) rfl (by kernel_rfl) (by rfl) (fun K hK => ?_)
      go_simp
      refine (wakes_any _).mono ?_
      rintro e w15 ⟨rfl, hE15⟩
      have hE15' : Ext (w12.alloc (.cells #[.int .i64 g, .slice A12 lg.length c12, .int .i64 u2] 36)) w15 := Ext.trans hE14' hE15
      have hS15 := hgo _ hE15'
      try (go_wp2_with fail)
      refine hK.out _ _ hS15 (fun hHeld => ?_)
      clear hK K
      try simp only [Act.put, List.setIfInBounds_toArray, List.set_cons_zero, List.set_cons_succ]
      refine wpAnyH_takeL (i := 37) (v := ?v27_37) rfl (by kernel_rfl) (by kernel_rfl) (by kernel_rfl) (fun _ _ _ h => h) (by rfl) (by assumption) (fun w hw => ?h27_37) ?r27_37
      case h27_37 => (try dsimp only at hw); go_simp; try with_reducible rfl
      case' r27_37 => skip
      try simp only [Act.put, List.setIfInBounds_toArray, List.set_cons_zero, List.set_cons_succ]
      refine wpAnyH_takeL (i := 38) (v := ?v27_38) rfl (by kernel_rfl) (by kernel_rfl) (by kernel_rfl) (fun _ _ _ h => h) (by rfl) (by assumption) (fun w hw => ?h27_38) ?r27_38
      case h27_38 => (try dsimp only at hw); go_simp; try with_reducible rfl
      case' r27_38 => skip
      try simp only [Act.put, List.setIfInBounds_toArray, List.set_cons_zero, List.set_cons_succ]
      refine wpAnyH_done (by kernel_rfl) ?_ _
      go_wp2_with fail
      go_ret
      exact ⟨rfl, Ext.trans hEw12 hE15'⟩

theorem Tblk_any (a c : Int) (vl : Value) (l : List Ent) (w : World) (hl : Es w vl l) :
    Calls Try.prog 7 #[.int .i64 a, .int .i64 c, vl] w fun e w' => e = .returned (.bool true) ∧ Ext w w' := by
  obtain ⟨Al, cl, rfl, h1, h2⟩ := SlR.open_ hl
  by_cases hg : 1 ≤ a ∧ a ≤ 1073741824 ∧ 1 ≤ c ∧ c ≤ 1073741824 ∧ l.length ≠ 0 ∧ l.length ≤ 4
  case neg => exact Tblk_early _ _ _ _ _ _ hg
  obtain ⟨g1, g2, g3, g4, g5, g6⟩ := hg
  obtain ⟨f, rfl⟩ : ∃ f : Nat, a = f := ⟨a.toNat, by omega⟩
  obtain ⟨g, rfl⟩ : ∃ g : Nat, c = g := ⟨c.toNat, by omega⟩
  rcases Int.lt_or_le (f : Int) g with hd | hd
  · exact Tblk_main2 f g hd Al cl l w hl ⟨h1, h2⟩ g1 g2 g3 g4 g5 g6
  · exact Tblk_main1 f g hd Al cl l w hl ⟨h1, h2⟩ g1 g2 g3 g4 g5 g6
end Go.Proofs.Ytibbbdifkopebaa
