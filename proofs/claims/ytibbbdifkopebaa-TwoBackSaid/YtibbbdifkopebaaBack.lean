/-
  The walk of moultlaw08.TwoBack.
-/
import Derived.Test.YtibbbdifkopebaaApp
import Derived.Test.YtibbbdifkopebaaBackP
set_option linter.all false
namespace Go.Proofs.Ytibbbdifkopebaa
open Go.RowKit Go.Mv
set_option maxRecDepth 100000

set_option maxHeartbeats 1000000 in
theorem Back_any (first : Int) (vl vm vb : Value) (l m : List Ent) (bh : List UInt8) (w : World) (hl : Es w vl l) (hm : Es w vm m) (hb : Bs w vb bh) :
    Calls Try.prog 4 #[.int .i64 first, vl, vm, vb] w fun e w' => e = .returned (.bool true) ∧ Ext w w' := by
  obtain ⟨Al, cl, rfl, _, _⟩ := SlR.open_ hl
  obtain ⟨Am, cm, rfl, _, _⟩ := SlR.open_ hm
  obtain ⟨Ab, cb, rfl, _, _⟩ := SlR.open_ hb
  have HL := Lib.hid hl
  have HM := Lib.hid hm
  have HB := Lib.hid hb
  clear hl hm hb
  by_cases hg : 1 ≤ first ∧ first ≤ 1073741824 ∧ l.length ≤ 20 ∧ m.length ≤ 20 ∧ bh.length ≤ 40
  case neg =>
    go_enter Try.func4, Try.ntmps4
    go_wp2_with (go_at_call 8; refine (wakes_any _).mono ?_; rintro e w1 ⟨rfl, hE⟩)
    all_goals first | (go_ret; exact ⟨rfl, hE⟩) | (exfalso; apply hg; clear hg; simp at *; omega)
  case pos =>
    obtain ⟨g1, g2, g3, g4, g5⟩ := hg
    obtain ⟨f, rfl⟩ : ∃ f : Nat, first = f := ⟨first.toNat, by omega⟩
    go_enter Try.func4, Try.ntmps4
    go_wp2_with (first
      | (at_builtin; refine wpList_app_e rfl (.tmp 42) (.tmp 43) rfl w.heap.size _ [] rfl (ownE_empty w) _ l rfl (Es.ext HL.out (Ext.alloc (Ext.refl _) _)) (by simp; omega) (by simp) ?_; intro A1 c1 w1 ho1 hG1; have hE1 : Ext w w1 := hG1 w (Ext.alloc (Ext.refl _) _) (Nat.le_refl _); simp only [List.length_nil, Nat.zero_add, List.nil_append] at ho1 ⊢)
      | (at_builtin; refine wpList_app_e rfl (.tmp 44) (.tmp 45) rfl w.heap.size _ l rfl ho1 _ m rfl (Es.ext HM.out hE1) (by omega) hE1.size ?_; intro A2 c2 w2 ho2 hG2; have hE2 : Ext w w2 := hG2 w hE1 (Nat.le_refl _)))
    obtain ⟨all, hall⟩ : ∃ all, l ++ m = all := ⟨_, rfl⟩
    have hallLen : l.length + m.length = all.length := by rw [← hall, List.length_append]
    rw [hall, hallLen] at ho2
    rw [hallLen]
    go_loopw [10] (fun i wr => ∃ k : Nat, k ≤ all.length ∧ i = .int .i64 k ∧ Hid (allOk (all.take k) = true) ∧ Ext w2 wr) (fun i _ => all.length - (intOf i).toNat)
    case atStart => exact ⟨0, Nat.zero_le _, rfl, rfl, Ext.refl _⟩
    case round =>
      obtain ⟨k, hk, rfl, Hb, hB⟩ := hrel
      by_cases hlt : k < all.length
      · obtain ⟨_, b, off, rfl, hc⟩ := Es.at_ (ho2.es.ext hB) (by omega)
        obtain ⟨hc0, hc1, hc2⟩ := hc k hlt
        clear hc
        go_wp2_with (first
          | (go_at_call 23; refine (refRight_any _ _ _ _).mono ?_; rintro e w' ⟨rfl, hb⟩)
          | (go_at_call 8; refine (wakes_any _).mono ?_; rintro e w'' ⟨rfl, hE⟩))
        · go_ret
          exact ⟨rfl, Ext.trans hE2 (Ext.trans hB (Ext.trans hb hE))⟩
        · go_roundw
          case rel =>
            have hok : all[k].ok = true := by simpa [Ent.ok] using (by assumption : (!okB all[k].t all[k].k all[k].v) = false)
            exact ⟨k + 1, by omega, by go_num, (allOk_take hlt Hb.out).trans hok, Ext.trans hB hb⟩
          case measure => simp [intOf]; omega
      · have hok : allOk all = true := by
          have := Hb.out
          rwa [List.take_of_length_le (by omega)] at this
        have hlm : allOk l = true ∧ allOk m = true := by
          rw [← hall] at hok
          simpa [allOk, List.all_append] using hok
        obtain ⟨B, M, q2, q3, X, n, hfile, hmore, hBl, hMl, hlook, hend, hlook2, hX, hn⟩ := back_plain (f := f) (by omega) (by omega) hlm.1 hlm.2 bh
        obtain ⟨wh, hwh⟩ : ∃ wh, B ++ M = wh := ⟨_, rfl⟩
        have hwl : B.length + M.length = wh.length := by rw [← hwh, List.length_append]
        rw [hall] at hlook hlook2
        rw [hwh, hwl] at hlook hlook2
        rw [hwh] at hend
        have Hwh := Lib.hid hwh
        have HF := Lib.hid hfile
        have HMO := Lib.hid hmore
        have HK := Lib.hid hlook
        have HEN := Lib.hid hend
        have HK2 := Lib.hid hlook2
        have HX := Lib.hid hX
        clear hwh hfile hmore hlook hend hlook2 hX hok hlm hall
        have hEr : Ext w wr := Ext.trans hE2 hB
        have hoA : OwnE wr w.heap.size (.slice A2 all.length c2) all := ho2.ext hB
        go_wp2_with fail
        refine (File_any f _ l wr (Es.ext HL.out hEr) (by omega)).mono ?_
        rw [HF.out]
        rintro e w3 ⟨v3, rfl, ho3, hE3⟩
        have ho3' : OwnB w3 wr.heap.size v3 B := ho3
        obtain ⟨A3, c3, rfl, _, _⟩ := SlR.open_ (SlR.of_own ho3)
        dsimp only
        clear ho3
        go_wp2_with fail
        refine (More_any _ _ B m w3 ho3'.bs (by omega) (Es.ext HM.out (Ext.trans hEr hE3)) (by omega)).mono ?_
        rw [HMO.out]
        rintro e w4 ⟨v4, rfl, ho4, hE4⟩
        have ho4' : OwnB w4 w3.heap.size v4 M := ho4
        obtain ⟨A4, c4, rfl, _, _⟩ := SlR.open_ (SlR.of_own ho4)
        dsimp only
        clear ho4
        have hF4 : Ext wr w4 := Ext.trans hE3 hE4
        go_wp2_with (first
          | (at_builtin; refine wpList_app_b rfl (.tmp 78) (.tmp 79) rfl w4.heap.size _ [] rfl (ownB_empty w4) _ B rfl (ho3'.ext (Ext.alloc hE4 _)).bs (by simp; omega) (by simp) ?_; intro A5 c5 w5 ho5 hG5; have hE5 : Ext w4 w5 := hG5 w4 (Ext.alloc (Ext.refl _) _) (Nat.le_refl _); simp only [List.length_nil, Nat.zero_add, List.nil_append] at ho5 ⊢)
          | (at_builtin; refine wpList_app_b rfl (.tmp 80) (.tmp 81) rfl w4.heap.size _ B rfl ho5 _ M rfl (ho4'.ext hE5).bs (by omega) hE5.size ?_; intro A6 c6 w6 ho6 hG6; have hE6 : Ext w4 w6 := hG6 w4 hE5 (Nat.le_refl _)))
        rw [Hwh.out, hwl] at ho6
        have hwl2 : wh.length ≤ 900 := by omega
        refine (Scan_any _ wh w6 ho6.bs (by omega)).mono ?_
        rw [HK.out]
        rintro e w7 ⟨v7, rfl, ho7, hE7⟩
        have ho7' : OwnE w7 w6.heap.size v7 all := ho7
        obtain ⟨A7, c7, rfl, _, _⟩ := SlR.open_ ho7'.es
        dsimp only
        clear ho7 hG1 hG2 hG5 hG6
        have hF7 : Ext wr w7 := Ext.trans hF4 (Ext.trans hE6 hE7)
        have hX8 : Ext w7 (w7.alloc (.cells #[.int .i64 f, .slice A7 all.length c7, .int .i64 wh.length] 36)) := Ext.alloc (Ext.refl _) _
        have hb8 : Blk (w7.alloc (.cells #[.int .i64 f, .slice A7 all.length c7, .int .i64 wh.length] 36)) w7.heap.size 36 #[.int .i64 f, .slice A7 all.length c7, .int .i64 wh.length] := Blk.new w7 _ _
        obtain ⟨p0, p1, p2, _, _, _⟩ := blk3 hb8
        go_wp2_with fail
        have hS := Same_any _ _ _ _ _ (ho7'.ext hX8).es (hoA.ext (Ext.trans hF7 hX8)).es
        rw [show decide (all = all) = true from by simp] at hS
        refine hS.mono ?_
        clear hS
        rintro e w9 ⟨rfl, hE9⟩
        have hE9' : Ext (w7.alloc (.cells #[.int .i64 f, .slice A7 all.length c7, .int .i64 wh.length] 36)) w9 := hE9
        have hb9 := hb8.ext hE9'
        have hX9 : Ext w7 w9 := Ext.trans hX8 hE9'
        have hb69 : Bs w9 (.slice A6 wh.length c6) wh := (ho6.ext (Ext.trans hE7 hX9)).bs
        clear hE9 p0 p1 p2 hb8 hX8
        go_wp2_with fail
        refine (End_any _ wh w9 hb69 (by omega)).mono ?_
        rw [HEN.out]
        rintro e w10 ⟨vz, rfl, hpz, hE10⟩
        have hE10' : Ext w9 w10 := hE10
        obtain ⟨z1, z2, rfl, hz1, hz2⟩ := hpz
        dsimp only
        have hb10 := hb9.ext hE10'
        have hX10 : Ext w7 w10 := Ext.trans hX9 hE10'
        have hb610 : Bs w10 (.slice A6 wh.length c6) wh := hb69.ext hE10'
        have hEw10 : Ext w w10 := Ext.trans hEr (Ext.trans hF7 hX10)
        clear hE10 hb9 hb69
        go_wp2_with (first
          | (at_builtin; refine wpList_app_b rfl (.tmp 116) (.tmp 117) rfl w10.heap.size _ [] rfl (ownB_empty w10) _ wh rfl (hb610.ext (Ext.alloc (Ext.refl _) _)) (by simp; omega) (by simp) ?_; intro A11 c11 w11 ho11 hG11; have hE11 : Ext w10 w11 := hG11 w10 (Ext.alloc (Ext.refl _) _) (Nat.le_refl _); simp only [List.length_nil, Nat.zero_add, List.nil_append] at ho11 ⊢)
          | (at_builtin; refine wpList_app_b rfl (.tmp 118) (.tmp 119) rfl w10.heap.size _ wh rfl ho11 _ bh rfl (HB.out.ext (Ext.trans hEw10 hE11)) (by omega) hE11.size ?_; intro A12 c12 w12 ho12 hG12; have hE12 : Ext w10 w12 := hG12 w10 hE11 (Nat.le_refl _)))
        rw [← List.length_append] at ho12
        have hll : wh.length + bh.length = (wh ++ bh).length := by rw [List.length_append]
        rw [hll]
        refine (Scan_any _ (wh ++ bh) w12 ho12.bs (by omega)).mono ?_
        rw [HK2.out]
        rintro e w13 ⟨v13, rfl, ho13, hE13⟩
        have ho13' : OwnE w13 w12.heap.size v13 (all ++ X) := ho13
        obtain ⟨A13, c13, rfl, _, _⟩ := SlR.open_ ho13'.es
        dsimp only
        clear ho13 hG11 hG12 hll
        have hb13 := hb10.ext (Ext.trans hE12 hE13)
        have hb14 : Blk (set3 w13 w7.heap.size (.int .i64 f) (.slice A13 (all ++ X).length c13) (.int .i64 ((wh.length + n : Nat) : Int))) w7.heap.size 36 #[.int .i64 f, .slice A13 (all ++ X).length c13, .int .i64 ((wh.length + n : Nat) : Int)] := blk_set3 hb13 _ _ _
        have hX14 : Ext w7 (set3 w13 w7.heap.size (.int .i64 f) (.slice A13 (all ++ X).length c13) (.int .i64 ((wh.length + n : Nat) : Int))) := ext_set3 (Ext.trans hX10 (Ext.trans hE12 hE13)) (Nat.le_refl _) _ _ _
        have ho14 : OwnE (set3 w13 w7.heap.size (.int .i64 f) (.slice A13 (all ++ X).length c13) (.int .i64 ((wh.length + n : Nat) : Int))) w12.heap.size (.slice A13 (all ++ X).length c13) (all ++ X) := own_set3 hb13 (by decide) ho13' _ _ _
        have hoA14 := (hoA.ext (Ext.trans hF7 hX14)).es
        have hEw14 : Ext w (set3 w13 w7.heap.size (.int .i64 f) (.slice A13 (all ++ X).length c13) (.int .i64 ((wh.length + n : Nat) : Int))) := Ext.trans hEr (Ext.trans hF7 hX14)
        have htk : Es (set3 w13 w7.heap.size (.int .i64 f) (.slice A13 (all ++ X).length c13) (.int .i64 ((wh.length + n : Nat) : Int))) (.slice A13 all.length c13) all := by
          have h := Es.take ho14.es all.length (by simp)
          rwa [List.take_left] at h
        obtain ⟨_, _, _, _, _, _⟩ := blk3 hb13
        obtain ⟨p0, p1, p2, _, _, _⟩ := blk3 hb14
        unfold set3 at *
        rw [List.length_append] at *
        go_wp2_with fail
        have hS := Same_any _ _ _ _ _ htk hoA14
        rw [show decide (all = all) = true from by simp] at hS
        refine hS.mono ?_
        clear hS
        rintro e w15 ⟨rfl, hE15⟩
        have hb15 := hb14.ext hE15
        obtain ⟨r0, r1, r2, _, _, _⟩ := blk3 hb15
        have hEw15 : Ext w w15 := Ext.trans hEw14 hE15
        clear hE15 p0 p1 p2 hb14 hb13 htk hoA14 ho14 hX14
        have hR := refRightC_any z1 z2
        rw [hz1, hz2] at hR
        have HR := Lib.hid hR
        clear hR
        by_cases hn0 : n = 0
        · have hX0 := HX.out hn0
          subst hX0 hn0
          go_wp2_with (first
            | (go_at_call 24; refine (HR.out _).mono ?_; rintro e w16 ⟨rfl, rfl⟩)
            | (go_at_call 8; refine (wakes_any _).mono ?_; rintro e w17 ⟨rfl, hE17⟩))
          go_ret
          exact ⟨rfl, Ext.trans hEw15 hE17⟩
        · have hne : ¬ ((wh.length : Int) + n = wh.length) := by omega
          go_wp2_with (first
            | (go_at_call 24; refine (HR.out _).mono ?_; rintro e w16 ⟨rfl, rfl⟩)
            | (go_at_call 8; refine (wakes_any _).mono ?_; rintro e w17 ⟨rfl, hE17⟩))
          go_ret
          exact ⟨rfl, Ext.trans hEw15 hE17⟩
end Go.Proofs.Ytibbbdifkopebaa
