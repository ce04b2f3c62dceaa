/-
  The walk of moultlaw08.TwoCut.
-/
import Derived.Test.YtibbbdifkopebaaApp
import Derived.Test.YtibbbdifkopebaaCutP
set_option linter.all false
namespace Go.Proofs.Ytibbbdifkopebaa
open Go.RowKit Go.Mv
set_option maxRecDepth 100000

set_option maxHeartbeats 4000000 in
theorem Cut_any (first : Int) (vl : Value) (left : Int) (l : List Ent) (w : World) (hl : Es w vl l) :
    Calls Try.prog 5 #[.int .i64 first, vl, .int .i64 left] w fun e w' => e = .returned (.bool true) ∧ Ext w w' := by
  obtain ⟨Al, cl, rfl, _, _⟩ := SlR.open_ hl
  have HL := Lib.hid hl
  clear hl
  by_cases hg : 1 ≤ first ∧ first ≤ 1073741824 ∧ l.length ≤ 20
  case neg =>
    go_enter Try.func5, Try.ntmps5
    go_wp2_with (go_at_call 8; refine (wakes_any _).mono ?_; rintro e w1 ⟨rfl, hE⟩)
    all_goals first | (go_ret; exact ⟨rfl, hE⟩) | (exfalso; apply hg; clear hg; simp at *; omega)
  case pos =>
    obtain ⟨g1, g2, g3⟩ := hg
    obtain ⟨f, rfl⟩ : ∃ f : Nat, first = f := ⟨first.toNat, by omega⟩
    go_enter Try.func5, Try.ntmps5
    go_wp2_with fail
    go_loopw [7] (fun i wr => ∃ k : Nat, k ≤ l.length ∧ i = .int .i64 k ∧ Hid (allOk (l.take k) = true) ∧ Ext w wr) (fun i _ => l.length - (intOf i).toNat)
    case atStart => exact ⟨0, Nat.zero_le _, rfl, rfl, Ext.refl _⟩
    case round =>
      obtain ⟨k, hk, rfl, Hb, hB⟩ := hrel
      by_cases hlt : k < l.length
      · obtain ⟨_, b, off, rfl, hc⟩ := Es.at_ (HL.out.ext hB) (by omega)
        obtain ⟨hc0, hc1, hc2⟩ := hc k hlt
        clear hc
        go_wp2_with (first
          | (go_at_call 23; refine (refRight_any _ _ _ _).mono ?_; rintro e w' ⟨rfl, hb⟩)
          | (go_at_call 8; refine (wakes_any _).mono ?_; rintro e w'' ⟨rfl, hE⟩))
        · go_ret
          exact ⟨rfl, Ext.trans hB (Ext.trans hb hE)⟩
        · go_roundw
          case rel =>
            have hok : l[k].ok = true := by simpa [Ent.ok] using (by assumption : (!okB l[k].t l[k].k l[k].v) = false)
            exact ⟨k + 1, by omega, by go_num, (allOk_take hlt Hb.out).trans hok, Ext.trans hB hb⟩
          case measure => simp [intOf]; omega
      · have hok : allOk l = true := by
          have := Hb.out
          rwa [List.take_of_length_le (by omega)] at this
        obtain ⟨B, H, hfile, hhead, hH0, hBl, hHB, hH6, hcut⟩ := cut_plain (f := f) (by omega) (by omega) hok
        have HF := Lib.hid hfile
        have HH := Lib.hid hhead
        have HC := Lib.hid hcut
        have Hok := Lib.hid hok
        clear hfile hhead hcut hok
        obtain ⟨j, hj, hjl⟩ := left_mod left B.length (by omega) (by omega)
        have hBn : ¬ ((B.length : Int) = 0) := by omega
        go_wp2_with fail
        refine (File_any f _ l wr (Es.ext HL.out hB) (by omega)).mono ?_
        rw [HF.out]
        rintro e w3 ⟨v3, rfl, ho3, hE3⟩
        have ho3' : OwnB w3 wr.heap.size v3 B := ho3
        obtain ⟨A3, c3, rfl, _, _⟩ := SlR.open_ ho3'.bs
        dsimp only
        clear ho3
        have hjc : (j : Int) ≤ c3 := by omega
        go_wp2_with fail
        obtain ⟨hc1, hc2⟩ := HC.out j (by omega)
        have hbt := Bs.take ho3'.bs j (by omega)
        have hEw3 : Ext w w3 := Ext.trans hB hE3
        by_cases hjH : j < H.length
        · refine (Scan_any _ _ w3 hbt (by rw [List.length_take]; omega)).mono ?_
          rw [hc1 hjH]
          clear hc1 hc2 hbt
          rintro e w4 ⟨v4, rfl, ho4, hE4⟩
          have ho4' : OwnE w4 w3.heap.size v4 [] := ho4
          obtain ⟨A4, c4, rfl, _, _⟩ := SlR.open_ ho4'.es
          dsimp only
          clear ho4
          go_wp2_with fail
          refine (Head_any f _).mono ?_
          rw [HH.out]
          rintro e w5 ⟨v5, rfl, ho5, hE5⟩
          have ho5' := ho5
          obtain ⟨A5, c5, rfl, _, _⟩ := SlR.open_ (SlR.of_own ho5)
          dsimp only
          clear ho5
          obtain ⟨p0, p1, p2, _, _, _⟩ := blk3 ((Blk.new w4 36 #[.int .i64 0, .slice A4 0 c4, .int .i64 0]).ext hE5)
          have hEw5 : Ext w w5 := Ext.trans (Ext.alloc (Ext.trans hEw3 hE4) _) hE5
          go_wp2_with (go_at_call 8; refine (wakes_any _).mono ?_; rintro e w6 ⟨rfl, hE6⟩)
          go_ret
          exact ⟨rfl, Ext.trans hEw5 hE6⟩
        · obtain ⟨n, u, q, q', hn, hn4, huj, hlk, hfl, hlk2⟩ := hc2 (by omega)
          have hnj : u ≤ B.length := by omega
          refine (Scan_any _ _ w3 hbt (by rw [List.length_take]; omega)).mono ?_
          rw [hlk]
          have HFN := Lib.hid hfl
          have HK2 := Lib.hid hlk2
          clear hc1 hc2 hbt hlk hfl hlk2
          rintro e w4 ⟨v4, rfl, ho4, hE4⟩
          have ho4' : OwnE w4 w3.heap.size v4 (l.take n) := ho4
          have hln : (l.take n).length = n := by rw [List.length_take]; omega
          obtain ⟨A4, c4, rfl, _, _⟩ := SlR.open_ ho4'.es
          dsimp only
          clear ho4
          rw [hln] at ho4' ⊢
          go_wp2_with fail
          refine (Head_any f _).mono ?_
          rw [HH.out]
          rintro e w5 ⟨v5, rfl, ho5, hE5⟩
          have ho5' := ho5
          obtain ⟨A5, c5, rfl, _, _⟩ := SlR.open_ (SlR.of_own ho5)
          dsimp only
          clear ho5
          have hb5 := (Blk.new w4 36 #[.int .i64 f, .slice A4 n c4, .int .i64 u]).ext hE5
          obtain ⟨p0, p1, p2, _, _, _⟩ := blk3 hb5
          have hE45 : Ext w4 w5 := Ext.trans (Ext.alloc (Ext.refl _) _) hE5
          have hEw5 : Ext w w5 := Ext.trans (Ext.trans hEw3 hE4) hE45
          have hltn := Es.take (HL.out.ext hEw5) n hn
          have hncl : (n : Int) ≤ cl := by omega
          go_wp2_with fail
          have hS := Same_any _ _ _ _ _ (ho4'.ext (Ext.drew hE45)).es (Es.ext hltn (Ext.drew (Ext.refl _)))
          rw [show decide (l.take n = l.take n) = true from by simp] at hS
          have HS := Lib.hid hS
          clear hS
          have k1 : decide ((j : Int) < (u : Int)) = false := by rw [decide_eq_false_iff_not]; omega
          have k2 : decide ((u : Int) < 0) = false := by rw [decide_eq_false_iff_not]; omega
          have k3 : decide ((l.length : Int) < (n : Int)) = false := by rw [decide_eq_false_iff_not]; omega
          have n1 : ¬ (j < u) := by omega
          have n3 : ¬ (l.length < n) := by omega
          have i1 : ¬ ((j : Int) < (u : Int)) := by omega
          have i2 : ¬ ((u : Int) < 0) := by omega
          have i3 : ¬ ((l.length : Int) < (n : Int)) := by omega
          have hn4' : ((n : Int).tmod 4 != 0) = false ∨ (((n : Int).tmod 4 != 0) = true ∧ ((n : Int) != (l.length : Int)) = false) := by
            cases h : ((n : Int).tmod 4 != 0) with
            | false => exact .inl rfl
            | true =>
              right
              refine ⟨rfl, ?_⟩
              rw [Int.tmod_eq_emod_of_nonneg (by omega)] at h
              simp at h ⊢
              omega
          have hgo : ∀ W', Ext w5 W' → W'.cell? ⟨w4.heap.size, 0, none⟩ = some (.int .i64 f) ∧ W'.cell? ⟨w4.heap.size, 1, none⟩ = some (.slice A4 n c4) ∧ W'.cell? ⟨w4.heap.size, 2, none⟩ = some (.int .i64 u) := fun W' h => by
            obtain ⟨q0, q1, q2, _, _, _⟩ := blk3 (hb5.ext h)
            exact ⟨q0, q1, q2⟩
          rcases hn4' with hm | ⟨hm, hm2⟩
          · refine wp_region_held_drew (S := fun w' => w'.cell? ⟨w4.heap.size, 0, none⟩ = some (.int .i64 f) ∧ w'.cell? ⟨w4.heap.size, 1, none⟩ = some (.slice A4 n c4) ∧ w'.cell? ⟨w4.heap.size, 2, none⟩ = some (.int .i64 u)) (by kernel_rfl) (hgo _ (Ext.drew (Ext.refl _))) (fun hHeld => ?_)
            refine wpAnyH_takeL (i := 0) (v := ?v1_0) rfl (by kernel_rfl) (by kernel_rfl) (by kernel_rfl) (fun _ _ _ h => h) (by rfl) (by assumption) (fun w hw => ?h1_0) ?r1_0
            case h1_0 => (try dsimp only at hw); go_simp; try with_reducible rfl
            case' r1_0 => skip
            try simp only [Act.put, List.setIfInBounds_toArray, List.set_cons_zero, List.set_cons_succ]
            refine wpAnyH_takeL (i := 1) (v := ?v1_1) rfl (by kernel_rfl) (by kernel_rfl) (by kernel_rfl) (fun _ _ _ h => h) (by rfl) (by assumption) (fun w hw => ?h1_1) ?r1_1
            case h1_1 => (try dsimp only at hw); go_simp; try with_reducible rfl
            case' r1_1 => skip
            try simp only [Act.put, List.setIfInBounds_toArray, List.set_cons_zero, List.set_cons_succ]
            refine wpAnyH_takeL (i := 2) (v := ?v1_2) rfl (by kernel_rfl) (by kernel_rfl) (by kernel_rfl) (fun _ _ _ h => h) (by rfl) (by assumption) (fun w hw => ?h1_2) ?r1_2
            case h1_2 => (try dsimp only at hw); go_simp; try with_reducible rfl
            case' r1_2 => skip
            try simp only [Act.put, List.setIfInBounds_toArray, List.set_cons_zero, List.set_cons_succ]
            refine wpAnyH_takeL (i := 3) (v := ?v1_3) rfl (by kernel_rfl) (by kernel_rfl) (by kernel_rfl) (fun _ _ _ h => h) (by rfl) (by assumption) (fun w hw => ?h1_3) ?r1_3
            case h1_3 => (try dsimp only at hw); go_simp; try with_reducible rfl
            case' r1_3 => skip
            try simp only [Act.put, List.setIfInBounds_toArray, List.set_cons_zero, List.set_cons_succ]
            refine wpAnyH_takeL (i := 4) (v := ?v1_4) rfl (by kernel_rfl) (by kernel_rfl) (by kernel_rfl) (fun _ _ _ h => h) (by rfl) (by assumption) (fun w hw => ?h1_4) ?r1_4
            case h1_4 => (try dsimp only at hw); go_simp; try with_reducible rfl
            case' r1_4 => skip
            try simp only [Act.put, List.setIfInBounds_toArray, List.set_cons_zero, List.set_cons_succ]
            refine wpAnyH_takeL (i := 5) (v := ?v1_5) rfl (by kernel_rfl) (by kernel_rfl) (by kernel_rfl) (fun _ _ _ h => h) (by rfl) (by assumption) (fun w hw => ?h1_5) ?r1_5
            case h1_5 => (try dsimp only at hw); go_simp; try with_reducible rfl
            case' r1_5 => skip
            try simp only [Act.put, List.setIfInBounds_toArray, List.set_cons_zero, List.set_cons_succ]
            refine wpAnyH_takeL (i := 6) (v := ?v1_6) rfl (by kernel_rfl) (by kernel_rfl) (by kernel_rfl) (fun _ _ _ h => h) (by rfl) (by assumption) (fun w hw => ?h1_6) ?r1_6
            case h1_6 => (try dsimp only at hw); go_simp; try with_reducible rfl
            case' r1_6 => skip
            try simp only [Act.put, List.setIfInBounds_toArray, List.set_cons_zero, List.set_cons_succ]
            refine wpAnyH_takeL (i := 7) (v := ?v1_7) rfl (by kernel_rfl) (by kernel_rfl) (by kernel_rfl) (fun _ _ _ h => h) (by rfl) (by assumption) (fun w hw => ?h1_7) ?r1_7
            case h1_7 => (try dsimp only at hw); go_simp; try with_reducible rfl
            case' r1_7 => skip
            try simp only [Act.put, List.setIfInBounds_toArray, List.set_cons_zero, List.set_cons_succ]
            refine wpAnyH_takeL (i := 8) (v := ?v1_8) rfl (by kernel_rfl) (by kernel_rfl) (by kernel_rfl) (fun _ _ _ h => h) (by rfl) (by assumption) (fun w hw => ?h1_8) ?r1_8
            case h1_8 => (try dsimp only at hw); go_simp; try with_reducible rfl
            case' r1_8 => skip
            try simp only [Act.put, List.setIfInBounds_toArray, List.set_cons_zero, List.set_cons_succ]
            refine wpAnyH_takeL (i := 9) (v := ?v1_9) rfl (by kernel_rfl) (by kernel_rfl) (by kernel_rfl) (fun _ _ _ h => h) (by rfl) (by assumption) (fun w hw => ?h1_9) ?r1_9
            case h1_9 => (try dsimp only at hw); go_simp; try with_reducible rfl
            case' r1_9 => skip
            try simp only [Act.put, List.setIfInBounds_toArray, List.set_cons_zero, List.set_cons_succ]
            refine wpAnyH_takeL (i := 10) (v := ?v1_10) rfl (by kernel_rfl) (by kernel_rfl) (by kernel_rfl) (fun _ _ _ h => h) (by rfl) (by assumption) (fun w hw => ?h1_10) ?r1_10
            case h1_10 => (try dsimp only at hw); go_simp; try with_reducible rfl
            case' r1_10 => skip
            try simp only [Act.put, List.setIfInBounds_toArray, List.set_cons_zero, List.set_cons_succ]
            refine wpAnyH_takeL (i := 11) (v := ?v1_11) rfl (by kernel_rfl) (by kernel_rfl) (by kernel_rfl) (fun _ _ _ h => h) (by rfl) (by assumption) (fun w hw => ?h1_11) ?r1_11
            case h1_11 => (try dsimp only at hw); go_simp; try with_reducible rfl
            case' r1_11 => skip
            try simp only [Act.put, List.setIfInBounds_toArray, List.set_cons_zero, List.set_cons_succ]
            refine wpAnyH_takeL (i := 12) (v := ?v1_12) rfl (by kernel_rfl) (by kernel_rfl) (by kernel_rfl) (fun _ _ _ h => h) (by rfl) (by assumption) (fun w hw => ?h1_12) ?r1_12
            case h1_12 => (try dsimp only at hw); go_simp; try with_reducible rfl
            case' r1_12 => skip
            try simp only [Act.put, List.setIfInBounds_toArray, List.set_cons_zero, List.set_cons_succ]
            refine wpAnyH_takeL (i := 13) (v := ?v1_13) rfl (by kernel_rfl) (by kernel_rfl) (by kernel_rfl) (fun _ _ _ h => h) (by rfl) (by assumption) (fun w hw => ?h1_13) ?r1_13
            case h1_13 => (try dsimp only at hw); go_simp; try with_reducible rfl
            case' r1_13 => skip
            try simp only [Act.put, List.setIfInBounds_toArray, List.set_cons_zero, List.set_cons_succ]
            refine wpAnyH_takeL (i := 14) (v := ?v1_14) rfl (by kernel_rfl) (by kernel_rfl) (by kernel_rfl) (fun _ _ _ h => h) (by rfl) (by assumption) (fun w hw => ?h1_14) ?r1_14
            case h1_14 => (try dsimp only at hw); go_simp; try with_reducible rfl
            case' r1_14 => skip
            try simp only [Act.put, List.setIfInBounds_toArray, List.set_cons_zero, List.set_cons_succ]
            refine wpAnyH_takeL (i := 15) (v := ?v1_15) rfl (by kernel_rfl) (by kernel_rfl) (by kernel_rfl) (fun _ _ _ h => h) (by rfl) (by assumption) (fun w hw => ?h1_15) ?r1_15
            case h1_15 => (try dsimp only at hw); go_simp; try with_reducible rfl
            case' r1_15 => skip
            try simp only [Act.put, List.setIfInBounds_toArray, List.set_cons_zero, List.set_cons_succ]
            refine wpAnyH_takeL (i := 16) (v := ?v1_16) rfl (by kernel_rfl) (by kernel_rfl) (by kernel_rfl) (fun _ _ _ h => h) (by rfl) (by assumption) (fun w hw => ?h1_16) ?r1_16
            case h1_16 => (try dsimp only at hw); go_simp; try with_reducible rfl
            case' r1_16 => skip
            try simp only [Act.put, List.setIfInBounds_toArray, List.set_cons_zero, List.set_cons_succ]
            refine wpAnyH_takeL (i := 17) (v := ?v1_17) rfl (by kernel_rfl) (by kernel_rfl) (by kernel_rfl) (fun _ _ _ h => h) (by rfl) (by assumption) (fun w hw => ?h1_17) ?r1_17
            case h1_17 => (try dsimp only at hw); go_simp; try with_reducible rfl
            case' r1_17 => skip
            try simp only [Act.put, List.setIfInBounds_toArray, List.set_cons_zero, List.set_cons_succ]
            refine wpAnyH_takeL (i := 18) (v := ?v1_18) rfl (by kernel_rfl) (by kernel_rfl) (by kernel_rfl) (fun _ _ _ h => h) (by rfl) (by assumption) (fun w hw => ?h1_18) ?r1_18
            case h1_18 => (try dsimp only at hw); go_simp; try with_reducible rfl
            case' r1_18 => skip
            try simp only [Act.put, List.setIfInBounds_toArray, List.set_cons_zero, List.set_cons_succ]
            refine wpAnyH_takeL (i := 19) (v := ?v1_19) rfl (by kernel_rfl) (by kernel_rfl) (by kernel_rfl) (fun _ _ _ h => h) (by rfl) (by assumption) (fun w hw => ?h1_19) ?r1_19
            case h1_19 => (try dsimp only at hw); go_simp; try with_reducible rfl
            case' r1_19 => skip
            try simp only [Act.put, List.setIfInBounds_toArray, List.set_cons_zero, List.set_cons_succ]
            refine wpAnyH_takeL (i := 20) (v := ?v1_20) rfl (by kernel_rfl) (by kernel_rfl) (by kernel_rfl) (fun _ _ _ h => h) (by rfl) (by assumption) (fun w hw => ?h1_20) ?r1_20
            case h1_20 => (try dsimp only at hw); go_simp; try with_reducible rfl
            case' r1_20 => skip
            try simp only [Act.put, List.setIfInBounds_toArray, List.set_cons_zero, List.set_cons_succ]
            refine wpAnyH_takeL (i := 21) (v := ?v1_21) rfl (by kernel_rfl) (by kernel_rfl) (by kernel_rfl) (fun _ _ _ h => h) (by rfl) (by assumption) (fun w hw => ?h1_21) ?r1_21
            case h1_21 => (try dsimp only at hw); go_simp; try with_reducible rfl
            case' r1_21 => skip
            try simp only [Act.put, List.setIfInBounds_toArray, List.set_cons_zero, List.set_cons_succ]
            refine wpAnyH_takeL (i := 22) (v := ?v1_22) rfl (by kernel_rfl) (by kernel_rfl) (by kernel_rfl) (fun _ _ _ h => h) (by rfl) (by assumption) (fun w hw => ?h1_22) ?r1_22
            case h1_22 => (try dsimp only at hw); go_simp; try with_reducible rfl
            case' r1_22 => skip
            try simp only [Act.put, List.setIfInBounds_toArray, List.set_cons_zero, List.set_cons_succ]
            refine wpAnyH_takeL (i := 23) (v := ?v1_23) rfl (by kernel_rfl) (by kernel_rfl) (by kernel_rfl) (fun _ _ _ h => h) (by rfl) (by assumption) (fun w hw => ?h1_23) ?r1_23
            case h1_23 => (try dsimp only at hw); go_simp; try with_reducible rfl
            case' r1_23 => skip
            try simp only [Act.put, List.setIfInBounds_toArray, List.set_cons_zero, List.set_cons_succ]
            refine wpAnyH_takeL (i := 24) (v := ?v1_24) rfl (by kernel_rfl) (by kernel_rfl) (by kernel_rfl) (fun _ _ _ h => h) (by rfl) (by assumption) (fun w hw => ?h1_24) ?r1_24
            case h1_24 => (try dsimp only at hw); go_simp; try with_reducible rfl
            case' r1_24 => skip
            try simp only [Act.put, List.setIfInBounds_toArray, List.set_cons_zero, List.set_cons_succ]
            refine wpAnyH_takeL (i := 25) (v := ?v1_25) rfl (by kernel_rfl) (by kernel_rfl) (by kernel_rfl) (fun _ _ _ h => h) (by rfl) (by assumption) (fun w hw => ?h1_25) ?r1_25
            case h1_25 => (try dsimp only at hw); go_simp; try with_reducible rfl
            case' r1_25 => skip
            try simp only [Act.put, List.setIfInBounds_toArray, List.set_cons_zero, List.set_cons_succ]
            refine wpAnyH_takeL (i := 26) (v := ?v1_26) rfl (by kernel_rfl) (by kernel_rfl) (by kernel_rfl) (fun _ _ _ h => h) (by rfl) (by assumption) (fun w hw => ?h1_26) ?r1_26
            case h1_26 => (try dsimp only at hw); go_simp; try with_reducible rfl
            case' r1_26 => skip
            try simp only [Act.put, List.setIfInBounds_toArray, List.set_cons_zero, List.set_cons_succ]
            refine wpAnyH_takeL (i := 27) (v := ?v1_27) rfl (by kernel_rfl) (by kernel_rfl) (by kernel_rfl) (fun _ _ _ h => h) (by rfl) (by assumption) (fun w hw => ?h1_27) ?r1_27
            case h1_27 => (try dsimp only at hw); go_simp; try with_reducible rfl
            case' r1_27 => skip
            try simp only [Act.put, List.setIfInBounds_toArray, List.set_cons_zero, List.set_cons_succ]
            refine wpAnyH_takeL (i := 28) (v := ?v1_28) rfl (by kernel_rfl) (by kernel_rfl) (by kernel_rfl) (fun _ _ _ h => h) (by rfl) (by assumption) (fun w hw => ?h1_28) ?r1_28
            case h1_28 => (try dsimp only at hw); go_simp; try with_reducible rfl
            case' r1_28 => skip
            try simp only [Act.put, List.setIfInBounds_toArray, List.set_cons_zero, List.set_cons_succ]
            refine wpAnyH_takeL (i := 29) (v := ?v1_29) rfl (by kernel_rfl) (by kernel_rfl) (by kernel_rfl) (fun _ _ _ h => h) (by rfl) (by assumption) (fun w hw => ?h1_29) ?r1_29
            case h1_29 => (try dsimp only at hw); go_simp; try with_reducible rfl
            case' r1_29 => skip
            try simp only [Act.put, List.setIfInBounds_toArray, List.set_cons_zero, List.set_cons_succ]
            refine wpAnyH_takeL (i := 30) (v := ?v1_30) rfl (by kernel_rfl) (by kernel_rfl) (by kernel_rfl) (fun _ _ _ h => h) (by rfl) (by assumption) (fun w hw => ?h1_30) ?r1_30
            case h1_30 => (try dsimp only at hw); go_simp; try with_reducible rfl
            case' r1_30 => skip
            try simp only [Act.put, List.setIfInBounds_toArray, List.set_cons_zero, List.set_cons_succ]
            refine AllReadyH.one (i := 31) rfl (by kernel_rfl) (by rfl) (fun K hK => ?_)
            go_simp
            refine HS.out.mono ?_
            rintro e w6 ⟨rfl, hE6⟩
            have hE6' : Ext w5 w6 := Ext.trans (Ext.drew (Ext.refl _)) hE6
            have hS6 := hgo w6 hE6'
            try (go_wp2_with fail)
            refine hK.out _ _ hS6 (fun hHeld => ?_)
            clear hK K
            try simp only [Act.put, List.setIfInBounds_toArray, List.set_cons_zero, List.set_cons_succ]
            refine wpAnyH_takeL (i := 32) (v := ?v4_32) rfl (by kernel_rfl) (by kernel_rfl) (by kernel_rfl) (fun _ _ _ h => h) (by rfl) (by assumption) (fun w hw => ?h4_32) ?r4_32
            case h4_32 => (try dsimp only at hw); go_simp; try with_reducible rfl
            case' r4_32 => skip
            try simp only [Act.put, List.setIfInBounds_toArray, List.set_cons_zero, List.set_cons_succ]
            refine wpAnyH_takeL (i := 33) (v := ?v4_33) rfl (by kernel_rfl) (by kernel_rfl) (by kernel_rfl) (fun _ _ _ h => h) (by rfl) (by assumption) (fun w hw => ?h4_33) ?r4_33
            case h4_33 => (try dsimp only at hw); go_simp; try with_reducible rfl
            case' r4_33 => skip
            try simp only [Act.put, List.setIfInBounds_toArray, List.set_cons_zero, List.set_cons_succ]
            refine wpAnyH_takeL (i := 34) (v := ?v4_34) rfl (by kernel_rfl) (by kernel_rfl) (by kernel_rfl) (fun _ _ _ h => h) (by rfl) (by assumption) (fun w hw => ?h4_34) ?r4_34
            case h4_34 => (try dsimp only at hw); go_simp; try with_reducible rfl
            case' r4_34 => skip
            try simp only [Act.put, List.setIfInBounds_toArray, List.set_cons_zero, List.set_cons_succ]
            refine wpAnyH_takeL (i := 35) (v := ?v4_35) rfl (by kernel_rfl) (by kernel_rfl) (by kernel_rfl) (fun _ _ _ h => h) (by rfl) (by assumption) (fun w hw => ?h4_35) ?r4_35
            case h4_35 => (try dsimp only at hw); go_simp; try with_reducible rfl
            case' r4_35 => skip
            try simp only [Act.put, List.setIfInBounds_toArray, List.set_cons_zero, List.set_cons_succ]
            refine wpAnyH_takeL (i := 36) (v := ?v4_36) rfl (by kernel_rfl) (by kernel_rfl) (by kernel_rfl) (fun _ _ _ h => h) (by rfl) (by assumption) (fun w hw => ?h4_36) ?r4_36
            case h4_36 => (try dsimp only at hw); go_simp; try with_reducible rfl
            case' r4_36 => skip
            try simp only [Act.put, List.setIfInBounds_toArray, List.set_cons_zero, List.set_cons_succ]
            refine wpAnyH_takeL (i := 37) (v := ?v4_37) rfl (by kernel_rfl) (by kernel_rfl) (by kernel_rfl) (fun _ _ _ h => h) (by rfl) (by assumption) (fun w hw => ?h4_37) ?r4_37
            case h4_37 => (try dsimp only at hw); go_simp; try with_reducible rfl
            case' r4_37 => skip
            try simp only [Act.put, List.setIfInBounds_toArray, List.set_cons_zero, List.set_cons_succ]
            refine wpAnyH_takeL (i := 38) (v := ?v4_38) rfl (by kernel_rfl) (by kernel_rfl) (by kernel_rfl) (fun _ _ _ h => h) (by rfl) (by assumption) (fun w hw => ?h4_38) ?r4_38
            case h4_38 => (try dsimp only at hw); go_simp; try with_reducible rfl
            case' r4_38 => skip
            try simp only [Act.put, List.setIfInBounds_toArray, List.set_cons_zero, List.set_cons_succ]
            refine wpAnyH_skipL (i := 39) rfl (by kernel_rfl) (by kernel_rfl) (by kernel_rfl) (fun _ _ _ h => h) (by rfl) (by assumption) ?_
            try simp only [Act.put, List.setIfInBounds_toArray, List.set_cons_zero, List.set_cons_succ]
            refine wpAnyH_skipL (i := 40) rfl (by kernel_rfl) (by kernel_rfl) (by kernel_rfl) (fun _ _ _ h => h) (by rfl) (by assumption) ?_
            try simp only [Act.put, List.setIfInBounds_toArray, List.set_cons_zero, List.set_cons_succ]
            refine wpAnyH_skipL (i := 41) rfl (by kernel_rfl) (by kernel_rfl) (by kernel_rfl) (fun _ _ _ h => h) (by rfl) (by assumption) ?_
            try simp only [Act.put, List.setIfInBounds_toArray, List.set_cons_zero, List.set_cons_succ]
            refine wpAnyH_skipL (i := 42) rfl (by kernel_rfl) (by kernel_rfl) (by kernel_rfl) (fun _ _ _ h => h) (by rfl) (by assumption) ?_
            try simp only [Act.put, List.setIfInBounds_toArray, List.set_cons_zero, List.set_cons_succ]
            refine wpAnyH_takeL (i := 43) (v := ?v6_43) rfl (by kernel_rfl) (by kernel_rfl) (by kernel_rfl) (fun _ _ _ h => h) (by rfl) (by assumption) (fun w hw => ?h6_43) ?r6_43
            case h6_43 => (try dsimp only at hw); go_simp; try with_reducible rfl
            case' r6_43 => skip
            try simp only [Act.put, List.setIfInBounds_toArray, List.set_cons_zero, List.set_cons_succ]
            refine wpAnyH_takeL (i := 44) (v := ?v6_44) rfl (by kernel_rfl) (by kernel_rfl) (by kernel_rfl) (fun _ _ _ h => h) (by rfl) (by assumption) (fun w hw => ?h6_44) ?r6_44
            case h6_44 => (try dsimp only at hw); go_simp; try with_reducible rfl
            case' r6_44 => skip
            try simp only [Act.put, List.setIfInBounds_toArray, List.set_cons_zero, List.set_cons_succ]
            refine wpAnyH_done (by kernel_rfl) ?_ _
            clear hgo hHeld hS6
            obtain ⟨p0, p1, p2, _, _, _⟩ := blk3 (hb5.ext hE6')
            have hE36 : Ext w3 w6 := Ext.trans hE4 (Ext.trans hE45 hE6')
            have hEw6 : Ext w w6 := Ext.trans hEw3 hE36
            have hul : (B.take u).length = u := by rw [List.length_take]; omega
            go_wp2_with fail
            refine (Scan_any _ (B.take u) w6 (Bs.take (ho3'.ext hE36).bs u hnj) (by omega)).mono ?_
            rw [HK2.out]
            rintro e w7 ⟨v7, rfl, ho7, hE7⟩
            have ho7' : OwnE w7 w6.heap.size v7 (l.take n) := ho7
            obtain ⟨A7, c7, rfl, _, _⟩ := SlR.open_ ho7'.es
            dsimp only
            clear ho7
            rw [hln] at ho7' ⊢
            go_wp2_with fail
            have hX8 : Ext w7 (w7.alloc (.cells #[.int .i64 f, .slice A7 n c7, .int .i64 u] 36)) := Ext.alloc (Ext.refl _) _
            have hb8 := Blk.new w7 36 #[.int .i64 f, .slice A7 n c7, .int .i64 u]
            refine (File_any f _ (l.take n) _ (Es.take (HL.out.ext (Ext.trans hEw6 (Ext.trans hE7 hX8))) n hn) (by rw [hln]; omega)).mono ?_
            rw [HFN.out]
            rintro e w9 ⟨v9, rfl, ho9, hE9⟩
            have ho9' : OwnB w9 (w7.alloc (.cells #[.int .i64 f, .slice A7 n c7, .int .i64 u] 36)).heap.size v9 (B.take u) := ho9
            obtain ⟨A9, c9, rfl, _, _⟩ := SlR.open_ ho9'.bs
            dsimp only
            clear ho9
            rw [hul] at ho9' ⊢
            have hE49 : Ext w6 w9 := Ext.trans hE7 (Ext.trans hX8 hE9)
            have hb9a := hb5.ext (Ext.trans hE6' hE49)
            have hb9b := hb8.ext hE9
            obtain ⟨p0, p1, p2, _, _, _⟩ := blk3 hb9a
            obtain ⟨q0, q1, q2, _, _, _⟩ := blk3 hb9b
            go_wp2_with fail
            have hS := Same_any _ _ _ _ _ (ho4'.ext (Ext.trans hE45 (Ext.trans hE6' hE49))).es (ho7'.ext (Ext.trans hX8 hE9)).es
            rw [show decide (l.take n = l.take n) = true from by simp] at hS
            refine hS.mono ?_
            clear hS
            rintro e w10 ⟨rfl, hE10⟩
            have hE10' : Ext w9 w10 := hE10
            clear hE10
            obtain ⟨r0, r1, r2, _, _, _⟩ := blk3 (hb9a.ext hE10')
            have hsm := same_any _ _ _ _ _ (ho9'.ext hE10').bs (Bs.take (ho3'.ext (Ext.trans hE36 (Ext.trans hE49 hE10'))).bs u hnj)
            rw [show decide (B.take u = B.take u) = true from by simp] at hsm
            have HSM := Lib.hid hsm
            clear hsm
            go_wp2_with (first
              | (go_at_call 11; refine HSM.out.mono ?_; rintro e w11 ⟨rfl, hE11⟩)
              | (go_at_call 8; refine (wakes_any _).mono ?_; rintro e w12 ⟨rfl, hE12⟩))
            go_ret
            exact ⟨rfl, Ext.trans hEw6 (Ext.trans hE49 (Ext.trans hE10' (Ext.trans hE11 hE12)))⟩
          · refine wp_region_held_drew (S := fun w' => w'.cell? ⟨w4.heap.size, 0, none⟩ = some (.int .i64 f) ∧ w'.cell? ⟨w4.heap.size, 1, none⟩ = some (.slice A4 n c4) ∧ w'.cell? ⟨w4.heap.size, 2, none⟩ = some (.int .i64 u)) (by kernel_rfl) (hgo _ (Ext.drew (Ext.refl _))) (fun hHeld => ?_)
            refine wpAnyH_takeL (i := 0) (v := ?v8_0) rfl (by kernel_rfl) (by kernel_rfl) (by kernel_rfl) (fun _ _ _ h => h) (by rfl) (by assumption) (fun w hw => ?h8_0) ?r8_0
            case h8_0 => (try dsimp only at hw); go_simp; try with_reducible rfl
            case' r8_0 => skip
            try simp only [Act.put, List.setIfInBounds_toArray, List.set_cons_zero, List.set_cons_succ]
            refine wpAnyH_takeL (i := 1) (v := ?v8_1) rfl (by kernel_rfl) (by kernel_rfl) (by kernel_rfl) (fun _ _ _ h => h) (by rfl) (by assumption) (fun w hw => ?h8_1) ?r8_1
            case h8_1 => (try dsimp only at hw); go_simp; try with_reducible rfl
            case' r8_1 => skip
            try simp only [Act.put, List.setIfInBounds_toArray, List.set_cons_zero, List.set_cons_succ]
            refine wpAnyH_takeL (i := 2) (v := ?v8_2) rfl (by kernel_rfl) (by kernel_rfl) (by kernel_rfl) (fun _ _ _ h => h) (by rfl) (by assumption) (fun w hw => ?h8_2) ?r8_2
            case h8_2 => (try dsimp only at hw); go_simp; try with_reducible rfl
            case' r8_2 => skip
            try simp only [Act.put, List.setIfInBounds_toArray, List.set_cons_zero, List.set_cons_succ]
            refine wpAnyH_takeL (i := 3) (v := ?v8_3) rfl (by kernel_rfl) (by kernel_rfl) (by kernel_rfl) (fun _ _ _ h => h) (by rfl) (by assumption) (fun w hw => ?h8_3) ?r8_3
            case h8_3 => (try dsimp only at hw); go_simp; try with_reducible rfl
            case' r8_3 => skip
            try simp only [Act.put, List.setIfInBounds_toArray, List.set_cons_zero, List.set_cons_succ]
            refine wpAnyH_takeL (i := 4) (v := ?v8_4) rfl (by kernel_rfl) (by kernel_rfl) (by kernel_rfl) (fun _ _ _ h => h) (by rfl) (by assumption) (fun w hw => ?h8_4) ?r8_4
            case h8_4 => (try dsimp only at hw); go_simp; try with_reducible rfl
            case' r8_4 => skip
            try simp only [Act.put, List.setIfInBounds_toArray, List.set_cons_zero, List.set_cons_succ]
            refine wpAnyH_takeL (i := 5) (v := ?v8_5) rfl (by kernel_rfl) (by kernel_rfl) (by kernel_rfl) (fun _ _ _ h => h) (by rfl) (by assumption) (fun w hw => ?h8_5) ?r8_5
            case h8_5 => (try dsimp only at hw); go_simp; try with_reducible rfl
            case' r8_5 => skip
            try simp only [Act.put, List.setIfInBounds_toArray, List.set_cons_zero, List.set_cons_succ]
            refine wpAnyH_takeL (i := 6) (v := ?v8_6) rfl (by kernel_rfl) (by kernel_rfl) (by kernel_rfl) (fun _ _ _ h => h) (by rfl) (by assumption) (fun w hw => ?h8_6) ?r8_6
            case h8_6 => (try dsimp only at hw); go_simp; try with_reducible rfl
            case' r8_6 => skip
            try simp only [Act.put, List.setIfInBounds_toArray, List.set_cons_zero, List.set_cons_succ]
            refine wpAnyH_takeL (i := 7) (v := ?v8_7) rfl (by kernel_rfl) (by kernel_rfl) (by kernel_rfl) (fun _ _ _ h => h) (by rfl) (by assumption) (fun w hw => ?h8_7) ?r8_7
            case h8_7 => (try dsimp only at hw); go_simp; try with_reducible rfl
            case' r8_7 => skip
            try simp only [Act.put, List.setIfInBounds_toArray, List.set_cons_zero, List.set_cons_succ]
            refine wpAnyH_takeL (i := 8) (v := ?v8_8) rfl (by kernel_rfl) (by kernel_rfl) (by kernel_rfl) (fun _ _ _ h => h) (by rfl) (by assumption) (fun w hw => ?h8_8) ?r8_8
            case h8_8 => (try dsimp only at hw); go_simp; try with_reducible rfl
            case' r8_8 => skip
            try simp only [Act.put, List.setIfInBounds_toArray, List.set_cons_zero, List.set_cons_succ]
            refine wpAnyH_takeL (i := 9) (v := ?v8_9) rfl (by kernel_rfl) (by kernel_rfl) (by kernel_rfl) (fun _ _ _ h => h) (by rfl) (by assumption) (fun w hw => ?h8_9) ?r8_9
            case h8_9 => (try dsimp only at hw); go_simp; try with_reducible rfl
            case' r8_9 => skip
            try simp only [Act.put, List.setIfInBounds_toArray, List.set_cons_zero, List.set_cons_succ]
            refine wpAnyH_takeL (i := 10) (v := ?v8_10) rfl (by kernel_rfl) (by kernel_rfl) (by kernel_rfl) (fun _ _ _ h => h) (by rfl) (by assumption) (fun w hw => ?h8_10) ?r8_10
            case h8_10 => (try dsimp only at hw); go_simp; try with_reducible rfl
            case' r8_10 => skip
            try simp only [Act.put, List.setIfInBounds_toArray, List.set_cons_zero, List.set_cons_succ]
            refine wpAnyH_takeL (i := 11) (v := ?v8_11) rfl (by kernel_rfl) (by kernel_rfl) (by kernel_rfl) (fun _ _ _ h => h) (by rfl) (by assumption) (fun w hw => ?h8_11) ?r8_11
            case h8_11 => (try dsimp only at hw); go_simp; try with_reducible rfl
            case' r8_11 => skip
            try simp only [Act.put, List.setIfInBounds_toArray, List.set_cons_zero, List.set_cons_succ]
            refine wpAnyH_takeL (i := 12) (v := ?v8_12) rfl (by kernel_rfl) (by kernel_rfl) (by kernel_rfl) (fun _ _ _ h => h) (by rfl) (by assumption) (fun w hw => ?h8_12) ?r8_12
            case h8_12 => (try dsimp only at hw); go_simp; try with_reducible rfl
            case' r8_12 => skip
            try simp only [Act.put, List.setIfInBounds_toArray, List.set_cons_zero, List.set_cons_succ]
            refine wpAnyH_takeL (i := 13) (v := ?v8_13) rfl (by kernel_rfl) (by kernel_rfl) (by kernel_rfl) (fun _ _ _ h => h) (by rfl) (by assumption) (fun w hw => ?h8_13) ?r8_13
            case h8_13 => (try dsimp only at hw); go_simp; try with_reducible rfl
            case' r8_13 => skip
            try simp only [Act.put, List.setIfInBounds_toArray, List.set_cons_zero, List.set_cons_succ]
            refine wpAnyH_takeL (i := 14) (v := ?v8_14) rfl (by kernel_rfl) (by kernel_rfl) (by kernel_rfl) (fun _ _ _ h => h) (by rfl) (by assumption) (fun w hw => ?h8_14) ?r8_14
            case h8_14 => (try dsimp only at hw); go_simp; try with_reducible rfl
            case' r8_14 => skip
            try simp only [Act.put, List.setIfInBounds_toArray, List.set_cons_zero, List.set_cons_succ]
            refine wpAnyH_takeL (i := 15) (v := ?v8_15) rfl (by kernel_rfl) (by kernel_rfl) (by kernel_rfl) (fun _ _ _ h => h) (by rfl) (by assumption) (fun w hw => ?h8_15) ?r8_15
            case h8_15 => (try dsimp only at hw); go_simp; try with_reducible rfl
            case' r8_15 => skip
            try simp only [Act.put, List.setIfInBounds_toArray, List.set_cons_zero, List.set_cons_succ]
            refine wpAnyH_takeL (i := 16) (v := ?v8_16) rfl (by kernel_rfl) (by kernel_rfl) (by kernel_rfl) (fun _ _ _ h => h) (by rfl) (by assumption) (fun w hw => ?h8_16) ?r8_16
            case h8_16 => (try dsimp only at hw); go_simp; try with_reducible rfl
            case' r8_16 => skip
            try simp only [Act.put, List.setIfInBounds_toArray, List.set_cons_zero, List.set_cons_succ]
            refine wpAnyH_takeL (i := 17) (v := ?v8_17) rfl (by kernel_rfl) (by kernel_rfl) (by kernel_rfl) (fun _ _ _ h => h) (by rfl) (by assumption) (fun w hw => ?h8_17) ?r8_17
            case h8_17 => (try dsimp only at hw); go_simp; try with_reducible rfl
            case' r8_17 => skip
            try simp only [Act.put, List.setIfInBounds_toArray, List.set_cons_zero, List.set_cons_succ]
            refine wpAnyH_takeL (i := 18) (v := ?v8_18) rfl (by kernel_rfl) (by kernel_rfl) (by kernel_rfl) (fun _ _ _ h => h) (by rfl) (by assumption) (fun w hw => ?h8_18) ?r8_18
            case h8_18 => (try dsimp only at hw); go_simp; try with_reducible rfl
            case' r8_18 => skip
            try simp only [Act.put, List.setIfInBounds_toArray, List.set_cons_zero, List.set_cons_succ]
            refine wpAnyH_takeL (i := 19) (v := ?v8_19) rfl (by kernel_rfl) (by kernel_rfl) (by kernel_rfl) (fun _ _ _ h => h) (by rfl) (by assumption) (fun w hw => ?h8_19) ?r8_19
            case h8_19 => (try dsimp only at hw); go_simp; try with_reducible rfl
            case' r8_19 => skip
            try simp only [Act.put, List.setIfInBounds_toArray, List.set_cons_zero, List.set_cons_succ]
            refine wpAnyH_takeL (i := 20) (v := ?v8_20) rfl (by kernel_rfl) (by kernel_rfl) (by kernel_rfl) (fun _ _ _ h => h) (by rfl) (by assumption) (fun w hw => ?h8_20) ?r8_20
            case h8_20 => (try dsimp only at hw); go_simp; try with_reducible rfl
            case' r8_20 => skip
            try simp only [Act.put, List.setIfInBounds_toArray, List.set_cons_zero, List.set_cons_succ]
            refine wpAnyH_takeL (i := 21) (v := ?v8_21) rfl (by kernel_rfl) (by kernel_rfl) (by kernel_rfl) (fun _ _ _ h => h) (by rfl) (by assumption) (fun w hw => ?h8_21) ?r8_21
            case h8_21 => (try dsimp only at hw); go_simp; try with_reducible rfl
            case' r8_21 => skip
            try simp only [Act.put, List.setIfInBounds_toArray, List.set_cons_zero, List.set_cons_succ]
            refine wpAnyH_takeL (i := 22) (v := ?v8_22) rfl (by kernel_rfl) (by kernel_rfl) (by kernel_rfl) (fun _ _ _ h => h) (by rfl) (by assumption) (fun w hw => ?h8_22) ?r8_22
            case h8_22 => (try dsimp only at hw); go_simp; try with_reducible rfl
            case' r8_22 => skip
            try simp only [Act.put, List.setIfInBounds_toArray, List.set_cons_zero, List.set_cons_succ]
            refine wpAnyH_takeL (i := 23) (v := ?v8_23) rfl (by kernel_rfl) (by kernel_rfl) (by kernel_rfl) (fun _ _ _ h => h) (by rfl) (by assumption) (fun w hw => ?h8_23) ?r8_23
            case h8_23 => (try dsimp only at hw); go_simp; try with_reducible rfl
            case' r8_23 => skip
            try simp only [Act.put, List.setIfInBounds_toArray, List.set_cons_zero, List.set_cons_succ]
            refine wpAnyH_takeL (i := 24) (v := ?v8_24) rfl (by kernel_rfl) (by kernel_rfl) (by kernel_rfl) (fun _ _ _ h => h) (by rfl) (by assumption) (fun w hw => ?h8_24) ?r8_24
            case h8_24 => (try dsimp only at hw); go_simp; try with_reducible rfl
            case' r8_24 => skip
            try simp only [Act.put, List.setIfInBounds_toArray, List.set_cons_zero, List.set_cons_succ]
            refine wpAnyH_takeL (i := 25) (v := ?v8_25) rfl (by kernel_rfl) (by kernel_rfl) (by kernel_rfl) (fun _ _ _ h => h) (by rfl) (by assumption) (fun w hw => ?h8_25) ?r8_25
            case h8_25 => (try dsimp only at hw); go_simp; try with_reducible rfl
            case' r8_25 => skip
            try simp only [Act.put, List.setIfInBounds_toArray, List.set_cons_zero, List.set_cons_succ]
            refine wpAnyH_takeL (i := 26) (v := ?v8_26) rfl (by kernel_rfl) (by kernel_rfl) (by kernel_rfl) (fun _ _ _ h => h) (by rfl) (by assumption) (fun w hw => ?h8_26) ?r8_26
            case h8_26 => (try dsimp only at hw); go_simp; try with_reducible rfl
            case' r8_26 => skip
            try simp only [Act.put, List.setIfInBounds_toArray, List.set_cons_zero, List.set_cons_succ]
            refine wpAnyH_takeL (i := 27) (v := ?v8_27) rfl (by kernel_rfl) (by kernel_rfl) (by kernel_rfl) (fun _ _ _ h => h) (by rfl) (by assumption) (fun w hw => ?h8_27) ?r8_27
            case h8_27 => (try dsimp only at hw); go_simp; try with_reducible rfl
            case' r8_27 => skip
            try simp only [Act.put, List.setIfInBounds_toArray, List.set_cons_zero, List.set_cons_succ]
            refine wpAnyH_takeL (i := 28) (v := ?v8_28) rfl (by kernel_rfl) (by kernel_rfl) (by kernel_rfl) (fun _ _ _ h => h) (by rfl) (by assumption) (fun w hw => ?h8_28) ?r8_28
            case h8_28 => (try dsimp only at hw); go_simp; try with_reducible rfl
            case' r8_28 => skip
            try simp only [Act.put, List.setIfInBounds_toArray, List.set_cons_zero, List.set_cons_succ]
            refine wpAnyH_takeL (i := 29) (v := ?v8_29) rfl (by kernel_rfl) (by kernel_rfl) (by kernel_rfl) (fun _ _ _ h => h) (by rfl) (by assumption) (fun w hw => ?h8_29) ?r8_29
            case h8_29 => (try dsimp only at hw); go_simp; try with_reducible rfl
            case' r8_29 => skip
            try simp only [Act.put, List.setIfInBounds_toArray, List.set_cons_zero, List.set_cons_succ]
            refine wpAnyH_takeL (i := 30) (v := ?v8_30) rfl (by kernel_rfl) (by kernel_rfl) (by kernel_rfl) (fun _ _ _ h => h) (by rfl) (by assumption) (fun w hw => ?h8_30) ?r8_30
            case h8_30 => (try dsimp only at hw); go_simp; try with_reducible rfl
            case' r8_30 => skip
            try simp only [Act.put, List.setIfInBounds_toArray, List.set_cons_zero, List.set_cons_succ]
            refine AllReadyH.one (i := 31) rfl (by kernel_rfl) (by rfl) (fun K hK => ?_)
            go_simp
            refine HS.out.mono ?_
            rintro e w6 ⟨rfl, hE6⟩
            have hE6' : Ext w5 w6 := Ext.trans (Ext.drew (Ext.refl _)) hE6
            have hS6 := hgo w6 hE6'
            try (go_wp2_with fail)
            refine hK.out _ _ hS6 (fun hHeld => ?_)
            clear hK K
            try simp only [Act.put, List.setIfInBounds_toArray, List.set_cons_zero, List.set_cons_succ]
            refine wpAnyH_takeL (i := 32) (v := ?v11_32) rfl (by kernel_rfl) (by kernel_rfl) (by kernel_rfl) (fun _ _ _ h => h) (by rfl) (by assumption) (fun w hw => ?h11_32) ?r11_32
            case h11_32 => (try dsimp only at hw); go_simp; try with_reducible rfl
            case' r11_32 => skip
            try simp only [Act.put, List.setIfInBounds_toArray, List.set_cons_zero, List.set_cons_succ]
            refine wpAnyH_takeL (i := 33) (v := ?v11_33) rfl (by kernel_rfl) (by kernel_rfl) (by kernel_rfl) (fun _ _ _ h => h) (by rfl) (by assumption) (fun w hw => ?h11_33) ?r11_33
            case h11_33 => (try dsimp only at hw); go_simp; try with_reducible rfl
            case' r11_33 => skip
            try simp only [Act.put, List.setIfInBounds_toArray, List.set_cons_zero, List.set_cons_succ]
            refine wpAnyH_takeL (i := 34) (v := ?v11_34) rfl (by kernel_rfl) (by kernel_rfl) (by kernel_rfl) (fun _ _ _ h => h) (by rfl) (by assumption) (fun w hw => ?h11_34) ?r11_34
            case h11_34 => (try dsimp only at hw); go_simp; try with_reducible rfl
            case' r11_34 => skip
            try simp only [Act.put, List.setIfInBounds_toArray, List.set_cons_zero, List.set_cons_succ]
            refine wpAnyH_takeL (i := 35) (v := ?v11_35) rfl (by kernel_rfl) (by kernel_rfl) (by kernel_rfl) (fun _ _ _ h => h) (by rfl) (by assumption) (fun w hw => ?h11_35) ?r11_35
            case h11_35 => (try dsimp only at hw); go_simp; try with_reducible rfl
            case' r11_35 => skip
            try simp only [Act.put, List.setIfInBounds_toArray, List.set_cons_zero, List.set_cons_succ]
            refine wpAnyH_takeL (i := 36) (v := ?v11_36) rfl (by kernel_rfl) (by kernel_rfl) (by kernel_rfl) (fun _ _ _ h => h) (by rfl) (by assumption) (fun w hw => ?h11_36) ?r11_36
            case h11_36 => (try dsimp only at hw); go_simp; try with_reducible rfl
            case' r11_36 => skip
            try simp only [Act.put, List.setIfInBounds_toArray, List.set_cons_zero, List.set_cons_succ]
            refine wpAnyH_takeL (i := 37) (v := ?v11_37) rfl (by kernel_rfl) (by kernel_rfl) (by kernel_rfl) (fun _ _ _ h => h) (by rfl) (by assumption) (fun w hw => ?h11_37) ?r11_37
            case h11_37 => (try dsimp only at hw); go_simp; try with_reducible rfl
            case' r11_37 => skip
            try simp only [Act.put, List.setIfInBounds_toArray, List.set_cons_zero, List.set_cons_succ]
            refine wpAnyH_takeL (i := 38) (v := ?v11_38) rfl (by kernel_rfl) (by kernel_rfl) (by kernel_rfl) (fun _ _ _ h => h) (by rfl) (by assumption) (fun w hw => ?h11_38) ?r11_38
            case h11_38 => (try dsimp only at hw); go_simp; try with_reducible rfl
            case' r11_38 => skip
            try simp only [Act.put, List.setIfInBounds_toArray, List.set_cons_zero, List.set_cons_succ]
            refine wpAnyH_takeL (i := 39) (v := ?v11_39) rfl (by kernel_rfl) (by kernel_rfl) (by kernel_rfl) (fun _ _ _ h => h) (by rfl) (by assumption) (fun w hw => ?h11_39) ?r11_39
            case h11_39 => (try dsimp only at hw); go_simp; try with_reducible rfl
            case' r11_39 => skip
            try simp only [Act.put, List.setIfInBounds_toArray, List.set_cons_zero, List.set_cons_succ]
            refine wpAnyH_takeL (i := 40) (v := ?v11_40) rfl (by kernel_rfl) (by kernel_rfl) (by kernel_rfl) (fun _ _ _ h => h) (by rfl) (by assumption) (fun w hw => ?h11_40) ?r11_40
            case h11_40 => (try dsimp only at hw); go_simp; try with_reducible rfl
            case' r11_40 => skip
            try simp only [Act.put, List.setIfInBounds_toArray, List.set_cons_zero, List.set_cons_succ]
            refine wpAnyH_takeL (i := 41) (v := ?v11_41) rfl (by kernel_rfl) (by kernel_rfl) (by kernel_rfl) (fun _ _ _ h => h) (by rfl) (by assumption) (fun w hw => ?h11_41) ?r11_41
            case h11_41 => (try dsimp only at hw); go_simp; try with_reducible rfl
            case' r11_41 => skip
            try simp only [Act.put, List.setIfInBounds_toArray, List.set_cons_zero, List.set_cons_succ]
            refine wpAnyH_takeL (i := 42) (v := ?v11_42) rfl (by kernel_rfl) (by kernel_rfl) (by kernel_rfl) (fun _ _ _ h => h) (by rfl) (by assumption) (fun w hw => ?h11_42) ?r11_42
            case h11_42 => (try dsimp only at hw); go_simp; try with_reducible rfl
            case' r11_42 => skip
            try simp only [Act.put, List.setIfInBounds_toArray, List.set_cons_zero, List.set_cons_succ]
            refine wpAnyH_takeL (i := 43) (v := ?v11_43) rfl (by kernel_rfl) (by kernel_rfl) (by kernel_rfl) (fun _ _ _ h => h) (by rfl) (by assumption) (fun w hw => ?h11_43) ?r11_43
            case h11_43 => (try dsimp only at hw); go_simp; try with_reducible rfl
            case' r11_43 => skip
            try simp only [Act.put, List.setIfInBounds_toArray, List.set_cons_zero, List.set_cons_succ]
            refine wpAnyH_takeL (i := 44) (v := ?v11_44) rfl (by kernel_rfl) (by kernel_rfl) (by kernel_rfl) (fun _ _ _ h => h) (by rfl) (by assumption) (fun w hw => ?h11_44) ?r11_44
            case h11_44 => (try dsimp only at hw); go_simp; try with_reducible rfl
            case' r11_44 => skip
            try simp only [Act.put, List.setIfInBounds_toArray, List.set_cons_zero, List.set_cons_succ]
            refine wpAnyH_done (by kernel_rfl) ?_ _
            clear hgo hHeld hS6
            obtain ⟨p0, p1, p2, _, _, _⟩ := blk3 (hb5.ext hE6')
            have hE36 : Ext w3 w6 := Ext.trans hE4 (Ext.trans hE45 hE6')
            have hEw6 : Ext w w6 := Ext.trans hEw3 hE36
            have hul : (B.take u).length = u := by rw [List.length_take]; omega
            go_wp2_with fail
            refine (Scan_any _ (B.take u) w6 (Bs.take (ho3'.ext hE36).bs u hnj) (by omega)).mono ?_
            rw [HK2.out]
            rintro e w7 ⟨v7, rfl, ho7, hE7⟩
            have ho7' : OwnE w7 w6.heap.size v7 (l.take n) := ho7
            obtain ⟨A7, c7, rfl, _, _⟩ := SlR.open_ ho7'.es
            dsimp only
            clear ho7
            rw [hln] at ho7' ⊢
            go_wp2_with fail
            have hX8 : Ext w7 (w7.alloc (.cells #[.int .i64 f, .slice A7 n c7, .int .i64 u] 36)) := Ext.alloc (Ext.refl _) _
            have hb8 := Blk.new w7 36 #[.int .i64 f, .slice A7 n c7, .int .i64 u]
            refine (File_any f _ (l.take n) _ (Es.take (HL.out.ext (Ext.trans hEw6 (Ext.trans hE7 hX8))) n hn) (by rw [hln]; omega)).mono ?_
            rw [HFN.out]
            rintro e w9 ⟨v9, rfl, ho9, hE9⟩
            have ho9' : OwnB w9 (w7.alloc (.cells #[.int .i64 f, .slice A7 n c7, .int .i64 u] 36)).heap.size v9 (B.take u) := ho9
            obtain ⟨A9, c9, rfl, _, _⟩ := SlR.open_ ho9'.bs
            dsimp only
            clear ho9
            rw [hul] at ho9' ⊢
            have hE49 : Ext w6 w9 := Ext.trans hE7 (Ext.trans hX8 hE9)
            have hb9a := hb5.ext (Ext.trans hE6' hE49)
            have hb9b := hb8.ext hE9
            obtain ⟨p0, p1, p2, _, _, _⟩ := blk3 hb9a
            obtain ⟨q0, q1, q2, _, _, _⟩ := blk3 hb9b
            go_wp2_with fail
            have hS := Same_any _ _ _ _ _ (ho4'.ext (Ext.trans hE45 (Ext.trans hE6' hE49))).es (ho7'.ext (Ext.trans hX8 hE9)).es
            rw [show decide (l.take n = l.take n) = true from by simp] at hS
            refine hS.mono ?_
            clear hS
            rintro e w10 ⟨rfl, hE10⟩
            have hE10' : Ext w9 w10 := hE10
            clear hE10
            obtain ⟨r0, r1, r2, _, _, _⟩ := blk3 (hb9a.ext hE10')
            have hsm := same_any _ _ _ _ _ (ho9'.ext hE10').bs (Bs.take (ho3'.ext (Ext.trans hE36 (Ext.trans hE49 hE10'))).bs u hnj)
            rw [show decide (B.take u = B.take u) = true from by simp] at hsm
            have HSM := Lib.hid hsm
            clear hsm
            go_wp2_with (first
              | (go_at_call 11; refine HSM.out.mono ?_; rintro e w11 ⟨rfl, hE11⟩)
              | (go_at_call 8; refine (wakes_any _).mono ?_; rintro e w12 ⟨rfl, hE12⟩))
            go_ret
            exact ⟨rfl, Ext.trans hEw6 (Ext.trans hE49 (Ext.trans hE10' (Ext.trans hE11 hE12)))⟩
end Go.Proofs.Ytibbbdifkopebaa
