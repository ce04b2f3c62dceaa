/-
  The walk of moultlaw10.EitherTorn.
  Whatever the input, the call of EitherTorn returns true, and each of its arguments reads behind the call as it read before. No condition besides the row's own.
-/
import Derived.Test.YtfjcnpigpkcfgaaGreatM18
import Derived.Test.YtfjcnpigpkcfgaaGreatRows
import Derived.HandedShaped
import Derived.WalkKit
set_option linter.all false
namespace Go.Proofs.YtfjcnpigpkcfgaaGreat
open Go.RowKit Go.Mv
set_option maxRecDepth 100000
variable {T : Tab}

theorem left_mod1 (left : Int) (n : Nat) (hn : n ≤ 100000) : ∃ j : Nat, (wrap64 (wrap64 (left.tmod ((n : Int) + 1) + n) + 1)).tmod ((n : Int) + 1) = j ∧ j ≤ n := by
  obtain ⟨j, h1, h2⟩ := left_mod left (n + 1) (by omega) (by omega)
  have hc : ((n + 1 : Nat) : Int) = (n : Int) + 1 := by omega
  rw [hc] at h1
  have h3 := Int.natAbs_tmod left ((n : Int) + 1)
  have h4 := Nat.mod_lt left.natAbs (show 0 < ((n : Int) + 1).natAbs by omega)
  rw [← h3] at h4
  generalize left.tmod ((n : Int) + 1) = t at *
  have e1 : wrap64 (t + n) = t + n := by unfold wrap64; omega
  have e2 : wrap64 (t + ((n : Int) + 1)) = t + n + 1 := by unfold wrap64; omega
  have e3 : wrap64 (t + n + 1) = t + n + 1 := by unfold wrap64; omega
  rw [e1, e3, ← e2]
  exact ⟨j, h1, by omega⟩

set_option maxHeartbeats 4000000 in
theorem Torn_any (first : Int) (vl : Value) (m left : Int) (l : List Ent) (w : World) (hT : TabW T w) (hl : Es w vl l) :
    Calls Tryz.prog 6 #[.int .i64 first, vl, .int .i64 m, .int .i64 left] w fun e w' => e = .returned (.bool true) ∧ Ext w w' := by
  obtain ⟨Al, cl, rfl, _, _⟩ := SlR.open_ hl
  have HL := Lib.hid hl
  have HT := Lib.hid hT
  clear hl hT
  by_cases hg : 1 ≤ first ∧ first ≤ 1073741824 ∧ l.length ≤ 20 ∧ 1 ≤ m ∧ m ≤ 2
  case neg =>
    go_enter Tryz.func6, Tryz.ntmps6
    go_wp2_with (go_at_call 7; refine (wakes10_any _ HT.out).mono ?_; rintro e w1 ⟨rfl, hE⟩)
    all_goals first | (go_ret; exact ⟨rfl, hE⟩) | (exfalso; apply hg; clear hg; simp at *; omega)
  case pos =>
    obtain ⟨g1, g2, g3, g4, g5⟩ := hg
    obtain ⟨f, rfl⟩ : ∃ f : Nat, first = f := ⟨first.toNat, by omega⟩
    go_enter Tryz.func6, Tryz.ntmps6
    go_wp2_with fail
    go_loopw [9] (fun i wr => ∃ k : Nat, k ≤ l.length ∧ i = .int .i64 k ∧ Hid (allOk (l.take k) = true) ∧ Ext w wr) (fun i _ => l.length - (intOf i).toNat)
    case atStart => exact ⟨0, Nat.zero_le _, rfl, rfl, Ext.refl _⟩
    case round =>
      obtain ⟨k, hk, rfl, Hb, hB⟩ := hrel
      by_cases hlt : k < l.length
      · obtain ⟨_, b, off, rfl, hc⟩ := Es.at_ (HL.out.ext hB) (by omega)
        obtain ⟨hc0, hc1, hc2⟩ := hc k hlt
        clear hc
        go_wp2_with (first
          | (go_at_call 22; refine (refRight_any _ _ _ _).mono ?_; rintro e w' ⟨rfl, hb⟩)
          | (go_at_call 7; refine (wakes10_any _ (HT.out.ext (Ext.trans hB hb))).mono ?_; rintro e w'' ⟨rfl, hE⟩))
        · go_ret
          exact ⟨rfl, Ext.trans hB (Ext.trans hb hE)⟩
        · go_roundw
          case rel =>
            have hok : l[k].ok = true := by simpa [Ent.ok] using (by assumption : (!okB l[k].t l[k].k l[k].v) = false)
            exact ⟨k + 1, by omega, by go_num, (allOk_take hlt Hb.out).trans hok, Ext.trans hB hb⟩
          case measure => simp [intOf]; omega
      · have hok : allOk l = true := by
          have := Hb.out
          rwa [List.take_of_length_le (by omega)] at this
        obtain ⟨b, p1, sb, lb, _⟩ := sg_file (T := T) (show m = 1 ∨ m = 2 by omega) (f := f) (by omega) (by omega) hok
        have P1 := Lib.hid p1
        have SB := Lib.hid sb
        clear p1 sb hok Hb
        go_wp2_with fail
        refine (File_to P1.out _ wr (HT.out.ext hB) (HL.out.ext hB) (by omega)).mono ?_
        rintro e w1 ⟨A1, c1, rfl, ho1, hE1⟩
        have E1 := Ext.trans hB hE1
        have hbl : b.length ≤ 406 := by omega
        have hne : ¬ ((b.length : Int) + 1 = 0) := by omega
        obtain ⟨j, hj, hjl⟩ := left_mod1 left b.length (by omega)
        have hjc : (j : Int) ≤ c1 := by
          obtain ⟨A', c', e, h1, h2⟩ := SlR.open_ ho1.bs
          cases e
          omega
        have HBT : Hid (∀ k, k ≤ b.length → ∀ W, Ext w1 W → Bs W (.slice A1 k c1) (b.take k)) := fun k hk W hE => Bs.take (ho1.ext hE).bs k hk
        have hjn : (b.take j).length ≤ 406 := by rw [List.length_take]; omega
        have HT1 : Hid (∀ W, Ext w1 W → TabW T W) := fun W hE => HT.out.ext (Ext.trans E1 hE)
        rcases sg_torn SB.out P1.out j hjl with ⟨hs, hwh⟩ | ⟨n, u, q, hn, hu1, huj, hful, hs, hsg⟩
        · have Q1 := Lib.hid hs
          have Q2 := Lib.hid (more_not (k := []) (whole_err hs))
          have Q3 := Lib.hid (turn_not (T := T) (m := m) (t := 3 - m) (by omega) (by omega) (whole_err hs))
          have Q4 := Lib.hid hwh
          have hlog : (wholeE T (b.take j) m).log.length ≤ 100000 := by rw [whole_err hs]; simp
          have QL := Lib.hid hlog
          clear hs hwh hlog
          go_wp2_with fail
          refine (Scan_to Q1.out _ _ (HT1.out _ (Ext.refl _)) (HBT.out j hjl _ (Ext.refl _)) (by omega)).mono ?_
          rintro e w2 ⟨A2, c2, rfl, ho2, hE2⟩
          have X2 : Ext w1 (w2.alloc (.cells #[.int .i64 ((0 : Nat) : Int), .slice A2 ([] : List Ent).length c2, .int .i64 ((0 : Nat) : Int)] 29)) := Ext.alloc hE2 _
          go_wp2_with fail
          refine (More_to Q2.out _ _ _ (HT1.out _ X2) (HBT.out j hjl _ X2) (by omega) (SlR.nil _ 3) (by simp)).mono ?_
          rintro e w3 ⟨A3, c3, rfl, ho3, hE3⟩
          have X3 := Ext.trans X2 hE3
          go_wp2_with fail
          refine (Turn_to Q3.out _ _ (HT1.out _ X3) (HBT.out j hjl _ X3) (by omega) QL.out).mono ?_
          rintro e w4 ⟨A4, c4, rfl, ho4, hE4⟩
          have X4 := Ext.trans X3 hE4
          clear ho2 ho3 ho4 hE2 X2 hE3 X3 hE4
          go_wp2_with fail
          refine (Which_to Q4.out _ _ (HT1.out _ X4) (HBT.out j hjl _ X4) (by omega)).mono ?_
          rintro e w5 ⟨rfl, hE5⟩
          have X5 := Ext.trans X4 hE5
          go_wp2_with fail
          refine (wakes10_any _ (HT1.out _ X5)).mono ?_
          rintro e w6 ⟨rfl, hE6⟩
          go_wp2_with fail
          go_ret
          exact ⟨rfl, Ext.trans E1 (Ext.trans X5 hE6)⟩
        · have hjt : (b.take j).length = j := by rw [List.length_take]; omega
          obtain ⟨er, M, D, r1, r2, r3, hfin⟩ : ∃ (er : Int) (M D : List UInt8), moreE T (b.take j) m [] = (er, M) ∧ turnE T (b.take j) m (3 - m) = (er, D) ∧ (wholeE T (b.take j) m).log.length ≤ 100000 ∧ ((j = b.length ∧ u = j ∧ er = 0) ∨ (j ≠ b.length ∧ u = j ∧ er = 0) ∨ (j ≠ b.length ∧ u ≠ j ∧ er = 11)) := by
            by_cases he : u = j
            · subst he
              obtain ⟨M, hM, _⟩ := sg_more (k := []) hsg rfl
              obtain ⟨D, hD, _⟩ := sg_file (T := T) (show 3 - m = 1 ∨ 3 - m = 2 by omega) (f := f) (by omega) (by omega) hsg.2.2.1
              refine ⟨0, M, D, hM, by rw [sg_turn hsg (by omega)]; exact hD, log_len hsg _ (by rw [List.length_take]; omega), ?_⟩
              by_cases hb : u = b.length
              · exact .inl ⟨hb, rfl, rfl⟩
              · exact .inr (.inl ⟨hb, rfl, rfl⟩)
            · have hw := whole_short hs (by omega)
              exact ⟨11, [], [], more_not hw, turn_not (by omega) (by omega) hw, by rw [hw]; simp, .inr (.inr ⟨fun e => he (hful e), he, rfl⟩)⟩
          have Q1 := Lib.hid hs
          have Q2 := Lib.hid r1
          have Q3 := Lib.hid r2
          have QL := Lib.hid r3
          have Q5 := Lib.hid (sg_alike hsg hsg)
          have hln : (l.take n).length = n := by rw [List.length_take]; omega
          clear hs r1 r2 r3 hsg hful
          go_wp2_with fail
          refine (Scan_to Q1.out _ _ (HT1.out _ (Ext.refl _)) (HBT.out j hjl _ (Ext.refl _)) (by omega)).mono ?_
          rintro e w2 ⟨A2, c2, rfl, ho2, hE2⟩
          rw [hln] at ho2 ⊢
          have hb2 := Blk.new w2 29 #[.int .i64 (f : Int), .slice A2 n c2, .int .i64 (u : Int)]
          have X2 : Ext w1 (w2.alloc (.cells #[.int .i64 (f : Int), .slice A2 n c2, .int .i64 (u : Int)] 29)) := Ext.alloc hE2 _
          have ho2' := ho2.ext (Ext.alloc (Ext.refl _) (.cells #[.int .i64 (f : Int), .slice A2 n c2, .int .i64 (u : Int)] 29))
          go_wp2_with fail
          refine (More_to Q2.out _ _ _ (HT1.out _ X2) (HBT.out j hjl _ X2) (by omega) (SlR.nil _ 3) (by simp)).mono ?_
          rintro e w3 ⟨A3, c3, rfl, ho3, hE3⟩
          have X3 := Ext.trans X2 hE3
          go_wp2_with fail
          refine (Turn_to Q3.out _ _ (HT1.out _ X3) (HBT.out j hjl _ X3) (by omega) QL.out).mono ?_
          rintro e w4 ⟨A4, c4, rfl, ho4, hE4⟩
          have X4 := Ext.trans X3 hE4
          have hb4 := hb2.ext (Ext.trans hE3 hE4)
          have HO : Hid (∀ W, Ext w4 W → Es W (.slice A2 n c2) (l.take n)) := fun W hE => (ho2'.ext (Ext.trans hE3 (Ext.trans hE4 hE))).es
          have HLT : Hid (∀ W, Ext w4 W → Es W (.slice Al n cl) (l.take n)) := fun W hE => Es.take (HL.out.ext (Ext.trans E1 (Ext.trans X4 hE))) n hn
          have hncl : (n : Int) ≤ cl := by omega
          clear ho2 ho2' ho3 ho4 hE2 X2 hE3 X3 hE4 hb2 Q1 Q2 Q3 QL P1 SB HT HL
          generalize w2.heap.size = n2 at *
          obtain ⟨p0, p1, p2, _, _, _⟩ := blk3 hb4
          have hgo : ∀ W', Ext w4 W' → W'.cell? ⟨n2, 0, none⟩ = some (.int .i64 (f : Int)) ∧ W'.cell? ⟨n2, 1, none⟩ = some (.slice A2 n c2) ∧ W'.cell? ⟨n2, 2, none⟩ = some (.int .i64 (u : Int)) := fun W' h => by
            obtain ⟨q0, q1, q2, _, _, _⟩ := blk3 (hb4.ext h)
            exact ⟨q0, q1, q2⟩
          have HGO := Lib.hid hgo
          clear hgo
          have k1 : decide ((j : Int) < (u : Int)) = false := by rw [decide_eq_false_iff_not]; omega
          have k2 : decide ((u : Int) < 1) = false := by rw [decide_eq_false_iff_not]; omega
          have k3 : decide ((l.length : Int) < (n : Int)) = false := by rw [decide_eq_false_iff_not]; omega
          have n1 : ¬ (j < u) := by omega
          have n4 : ¬ (u = 0) := by omega
          have n5 : ¬ ((u : Int) = 0) := by omega
          have n6 : ¬ (u < 1) := by omega
          have n7 : ¬ ((u : Int) ≤ 0) := by omega
          have k4 : decide (u = 0) = false := decide_eq_false n4
          have k6 : decide (u < 1) = false := decide_eq_false n6
          have k5 : decide ((u : Int) = 0) = false := decide_eq_false n5
          have n3 : ¬ (l.length < n) := by omega
          have i1 : ¬ ((j : Int) < (u : Int)) := by omega
          have i2 : ¬ ((u : Int) < 1) := by omega
          have i3 : ¬ ((l.length : Int) < (n : Int)) := by omega
          have hS := Same_any _ _ _ _ _ (HO.out _ (Ext.drew (Ext.refl _))) (HLT.out _ (Ext.drew (Ext.refl _)))
          rw [decide_eq_true rfl] at hS
          have HS := Lib.hid hS
          clear hS
          have hub : u ≤ b.length := by omega
          have hut : (b.take u).length ≤ 406 := by rw [List.length_take]; omega
          have huc : (u : Int) ≤ c1 := by omega
          clear hb4 HO HLT
          go_wp2_with fail
          rcases hfin with ⟨z1, z2, rfl⟩ | ⟨z1, z2, rfl⟩ | ⟨z1, z2, rfl⟩
          · subst z2
            subst z1
            refine wp_region_held_drew (S := (fun w' => w'.cell? ⟨n2, 0, none⟩ = some (.int .i64 (f : Int)) ∧ w'.cell? ⟨n2, 1, none⟩ = some (.slice A2 n c2) ∧ w'.cell? ⟨n2, 2, none⟩ = some (.int .i64 (b.length : Int)))) (by kernel_rfl) (HGO.out _ (Ext.drew (Ext.refl _))) (fun hHeld => ?_)
            refine wpAnyH_takeL (i := 0) (v := ?v1_0) rfl (by kernel_rfl) (by kernel_rfl) (by kernel_rfl) (fun _ _ _ h => h) (by rfl) (by assumption) (fun w hw => ?h1_0) ?r1_0
            case h1_0 => (try dsimp only at hw); go_simp; try with_reducible rfl
            case' r1_0 => skip
            try simp only [Act.put, List.setIfInBounds_toArray, List.set_cons_zero, List.set_cons_succ]
            refine wpAnyH_takeL (i := 1) (v := ?v1_1) rfl (by kernel_rfl) (by kernel_rfl) (by kernel_rfl) (fun _ _ _ h => h) (by rfl) (by assumption) (fun w hw => ?h1_1) ?r1_1
            case h1_1 => (try dsimp only at hw); go_simp; try with_reducible rfl
            case' r1_1 => skip
            try simp only [Act.put, List.setIfInBounds_toArray, List.set_cons_zero, List.set_cons_succ]
            refine wpAnyH_takeL (i := 2) (v := ?v1_2) rfl (by kernel_rfl) (by kernel_rfl) (by kernel_rfl) (fun _ _ _ h => h) (by rfl) (by assumption) (fun w hw => ?h1_2) ?r1_2
            case h1_2 => (try dsimp only at hw); go_simp; try with_reducible rfl
            case' r1_2 => skip
            try simp only [Act.put, List.setIfInBounds_toArray, List.set_cons_zero, List.set_cons_succ]
            refine wpAnyH_takeL (i := 3) (v := ?v1_3) rfl (by kernel_rfl) (by kernel_rfl) (by kernel_rfl) (fun _ _ _ h => h) (by rfl) (by assumption) (fun w hw => ?h1_3) ?r1_3
            case h1_3 => (try dsimp only at hw); go_simp; try with_reducible rfl
            case' r1_3 => skip
            try simp only [Act.put, List.setIfInBounds_toArray, List.set_cons_zero, List.set_cons_succ]
            refine wpAnyH_takeL (i := 4) (v := ?v1_4) rfl (by kernel_rfl) (by kernel_rfl) (by kernel_rfl) (fun _ _ _ h => h) (by rfl) (by assumption) (fun w hw => ?h1_4) ?r1_4
            case h1_4 => (try dsimp only at hw); go_simp; try with_reducible rfl
            case' r1_4 => skip
            try simp only [Act.put, List.setIfInBounds_toArray, List.set_cons_zero, List.set_cons_succ]
            refine wpAnyH_takeL (i := 5) (v := ?v1_5) rfl (by kernel_rfl) (by kernel_rfl) (by kernel_rfl) (fun _ _ _ h => h) (by rfl) (by assumption) (fun w hw => ?h1_5) ?r1_5
            case h1_5 => (try dsimp only at hw); go_simp; try with_reducible rfl
            case' r1_5 => skip
            try simp only [Act.put, List.setIfInBounds_toArray, List.set_cons_zero, List.set_cons_succ]
            refine wpAnyH_takeL (i := 6) (v := ?v1_6) rfl (by kernel_rfl) (by kernel_rfl) (by kernel_rfl) (fun _ _ _ h => h) (by rfl) (by assumption) (fun w hw => ?h1_6) ?r1_6
            case h1_6 => (try dsimp only at hw); go_simp; try with_reducible rfl
            case' r1_6 => skip
            try simp only [Act.put, List.setIfInBounds_toArray, List.set_cons_zero, List.set_cons_succ]
            refine wpAnyH_takeL (i := 7) (v := ?v1_7) rfl (by kernel_rfl) (by kernel_rfl) (by kernel_rfl) (fun _ _ _ h => h) (by rfl) (by assumption) (fun w hw => ?h1_7) ?r1_7
            case h1_7 => (try dsimp only at hw); go_simp; try with_reducible rfl
            case' r1_7 => skip
            try simp only [Act.put, List.setIfInBounds_toArray, List.set_cons_zero, List.set_cons_succ]
            refine wpAnyH_takeL (i := 8) (v := ?v1_8) rfl (by kernel_rfl) (by kernel_rfl) (by kernel_rfl) (fun _ _ _ h => h) (by rfl) (by assumption) (fun w hw => ?h1_8) ?r1_8
            case h1_8 => (try dsimp only at hw); go_simp; try with_reducible rfl
            case' r1_8 => skip
            try simp only [Act.put, List.setIfInBounds_toArray, List.set_cons_zero, List.set_cons_succ]
            refine wpAnyH_takeL (i := 9) (v := ?v1_9) rfl (by kernel_rfl) (by kernel_rfl) (by kernel_rfl) (fun _ _ _ h => h) (by rfl) (by assumption) (fun w hw => ?h1_9) ?r1_9
            case h1_9 => (try dsimp only at hw); go_simp; try with_reducible rfl
            case' r1_9 => skip
            try simp only [Act.put, List.setIfInBounds_toArray, List.set_cons_zero, List.set_cons_succ]
            refine wpAnyH_takeL (i := 10) (v := ?v1_10) rfl (by kernel_rfl) (by kernel_rfl) (by kernel_rfl) (fun _ _ _ h => h) (by rfl) (by assumption) (fun w hw => ?h1_10) ?r1_10
            case h1_10 => (try dsimp only at hw); go_simp; try with_reducible rfl
            case' r1_10 => skip
            try simp only [Act.put, List.setIfInBounds_toArray, List.set_cons_zero, List.set_cons_succ]
            refine wpAnyH_takeL (i := 11) (v := ?v1_11) rfl (by kernel_rfl) (by kernel_rfl) (by kernel_rfl) (fun _ _ _ h => h) (by rfl) (by assumption) (fun w hw => ?h1_11) ?r1_11
            case h1_11 => (try dsimp only at hw); go_simp; try with_reducible rfl
            case' r1_11 => skip
            try simp only [Act.put, List.setIfInBounds_toArray, List.set_cons_zero, List.set_cons_succ]
            refine wpAnyH_takeL (i := 12) (v := ?v1_12) rfl (by kernel_rfl) (by kernel_rfl) (by kernel_rfl) (fun _ _ _ h => h) (by rfl) (by assumption) (fun w hw => ?h1_12) ?r1_12
            case h1_12 => (try dsimp only at hw); go_simp; try with_reducible rfl
            case' r1_12 => skip
            try simp only [Act.put, List.setIfInBounds_toArray, List.set_cons_zero, List.set_cons_succ]
            refine wpAnyH_takeL (i := 13) (v := ?v1_13) rfl (by kernel_rfl) (by kernel_rfl) (by kernel_rfl) (fun _ _ _ h => h) (by rfl) (by assumption) (fun w hw => ?h1_13) ?r1_13
            case h1_13 => (try dsimp only at hw); go_simp; try with_reducible rfl
            case' r1_13 => skip
            try simp only [Act.put, List.setIfInBounds_toArray, List.set_cons_zero, List.set_cons_succ]
            refine wpAnyH_takeL (i := 14) (v := ?v1_14) rfl (by kernel_rfl) (by kernel_rfl) (by kernel_rfl) (fun _ _ _ h => h) (by rfl) (by assumption) (fun w hw => ?h1_14) ?r1_14
            case h1_14 => (try dsimp only at hw); go_simp; try with_reducible rfl
            case' r1_14 => skip
            try simp only [Act.put, List.setIfInBounds_toArray, List.set_cons_zero, List.set_cons_succ]
            refine wpAnyH_takeL (i := 15) (v := ?v1_15) rfl (by kernel_rfl) (by kernel_rfl) (by kernel_rfl) (fun _ _ _ h => h) (by rfl) (by assumption) (fun w hw => ?h1_15) ?r1_15
            case h1_15 => (try dsimp only at hw); go_simp; try with_reducible rfl
            case' r1_15 => skip
            try simp only [Act.put, List.setIfInBounds_toArray, List.set_cons_zero, List.set_cons_succ]
            refine wpAnyH_takeL (i := 16) (v := ?v1_16) rfl (by kernel_rfl) (by kernel_rfl) (by kernel_rfl) (fun _ _ _ h => h) (by rfl) (by assumption) (fun w hw => ?h1_16) ?r1_16
            case h1_16 => (try dsimp only at hw); go_simp; try with_reducible rfl
            case' r1_16 => skip
            try simp only [Act.put, List.setIfInBounds_toArray, List.set_cons_zero, List.set_cons_succ]
            refine wpAnyH_takeL (i := 17) (v := ?v1_17) rfl (by kernel_rfl) (by kernel_rfl) (by kernel_rfl) (fun _ _ _ h => h) (by rfl) (by assumption) (fun w hw => ?h1_17) ?r1_17
            case h1_17 => (try dsimp only at hw); go_simp; try with_reducible rfl
            case' r1_17 => skip
            try simp only [Act.put, List.setIfInBounds_toArray, List.set_cons_zero, List.set_cons_succ]
            refine wpAnyH_takeL (i := 18) (v := ?v1_18) rfl (by kernel_rfl) (by kernel_rfl) (by kernel_rfl) (fun _ _ _ h => h) (by rfl) (by assumption) (fun w hw => ?h1_18) ?r1_18
            case h1_18 => (try dsimp only at hw); go_simp; try with_reducible rfl
            case' r1_18 => skip
            try simp only [Act.put, List.setIfInBounds_toArray, List.set_cons_zero, List.set_cons_succ]
            refine wpAnyH_takeL (i := 19) (v := ?v1_19) rfl (by kernel_rfl) (by kernel_rfl) (by kernel_rfl) (fun _ _ _ h => h) (by rfl) (by assumption) (fun w hw => ?h1_19) ?r1_19
            case h1_19 => (try dsimp only at hw); go_simp; try with_reducible rfl
            case' r1_19 => skip
            try simp only [Act.put, List.setIfInBounds_toArray, List.set_cons_zero, List.set_cons_succ]
            refine wpAnyH_takeL (i := 20) (v := ?v1_20) rfl (by kernel_rfl) (by kernel_rfl) (by kernel_rfl) (fun _ _ _ h => h) (by rfl) (by assumption) (fun w hw => ?h1_20) ?r1_20
            case h1_20 => (try dsimp only at hw); go_simp; try with_reducible rfl
            case' r1_20 => skip
            try simp only [Act.put, List.setIfInBounds_toArray, List.set_cons_zero, List.set_cons_succ]
            refine wpAnyH_takeL (i := 21) (v := ?v1_21) rfl (by kernel_rfl) (by kernel_rfl) (by kernel_rfl) (fun _ _ _ h => h) (by rfl) (by assumption) (fun w hw => ?h1_21) ?r1_21
            case h1_21 => (try dsimp only at hw); go_simp; try with_reducible rfl
            case' r1_21 => skip
            try simp only [Act.put, List.setIfInBounds_toArray, List.set_cons_zero, List.set_cons_succ]
            refine wpAnyH_takeL (i := 22) (v := ?v1_22) rfl (by kernel_rfl) (by kernel_rfl) (by kernel_rfl) (fun _ _ _ h => h) (by rfl) (by assumption) (fun w hw => ?h1_22) ?r1_22
            case h1_22 => (try dsimp only at hw); go_simp; try with_reducible rfl
            case' r1_22 => skip
            try simp only [Act.put, List.setIfInBounds_toArray, List.set_cons_zero, List.set_cons_succ]
            refine wpAnyH_takeL (i := 23) (v := ?v1_23) rfl (by kernel_rfl) (by kernel_rfl) (by kernel_rfl) (fun _ _ _ h => h) (by rfl) (by assumption) (fun w hw => ?h1_23) ?r1_23
            case h1_23 => (try dsimp only at hw); go_simp; try with_reducible rfl
            case' r1_23 => skip
            try simp only [Act.put, List.setIfInBounds_toArray, List.set_cons_zero, List.set_cons_succ]
            refine wpAnyH_takeL (i := 24) (v := ?v1_24) rfl (by kernel_rfl) (by kernel_rfl) (by kernel_rfl) (fun _ _ _ h => h) (by rfl) (by assumption) (fun w hw => ?h1_24) ?r1_24
            case h1_24 => (try dsimp only at hw); go_simp; try with_reducible rfl
            case' r1_24 => skip
            try simp only [Act.put, List.setIfInBounds_toArray, List.set_cons_zero, List.set_cons_succ]
            refine wpAnyH_takeL (i := 25) (v := ?v1_25) rfl (by kernel_rfl) (by kernel_rfl) (by kernel_rfl) (fun _ _ _ h => h) (by rfl) (by assumption) (fun w hw => ?h1_25) ?r1_25
            case h1_25 => (try dsimp only at hw); go_simp; try with_reducible rfl
            case' r1_25 => skip
            try simp only [Act.put, List.setIfInBounds_toArray, List.set_cons_zero, List.set_cons_succ]
            refine wpAnyH_takeL (i := 26) (v := ?v1_26) rfl (by kernel_rfl) (by kernel_rfl) (by kernel_rfl) (fun _ _ _ h => h) (by rfl) (by assumption) (fun w hw => ?h1_26) ?r1_26
            case h1_26 => (try dsimp only at hw); go_simp; try with_reducible rfl
            case' r1_26 => skip
            try simp only [Act.put, List.setIfInBounds_toArray, List.set_cons_zero, List.set_cons_succ]
            refine wpAnyH_takeL (i := 27) (v := ?v1_27) rfl (by kernel_rfl) (by kernel_rfl) (by kernel_rfl) (fun _ _ _ h => h) (by rfl) (by assumption) (fun w hw => ?h1_27) ?r1_27
            case h1_27 => (try dsimp only at hw); go_simp; try with_reducible rfl
            case' r1_27 => skip
            try simp only [Act.put, List.setIfInBounds_toArray, List.set_cons_zero, List.set_cons_succ]
            refine wpAnyH_takeL (i := 28) (v := ?v1_28) rfl (by kernel_rfl) (by kernel_rfl) (by kernel_rfl) (fun _ _ _ h => h) (by rfl) (by assumption) (fun w hw => ?h1_28) ?r1_28
            case h1_28 => (try dsimp only at hw); go_simp; try with_reducible rfl
            case' r1_28 => skip
            try simp only [Act.put, List.setIfInBounds_toArray, List.set_cons_zero, List.set_cons_succ]
            refine wpAnyH_takeL (i := 29) (v := ?v1_29) rfl (by kernel_rfl) (by kernel_rfl) (by kernel_rfl) (fun _ _ _ h => h) (by rfl) (by assumption) (fun w hw => ?h1_29) ?r1_29
            case h1_29 => (try dsimp only at hw); go_simp; try with_reducible rfl
            case' r1_29 => skip
            try simp only [Act.put, List.setIfInBounds_toArray, List.set_cons_zero, List.set_cons_succ]
            refine wpAnyH_takeL (i := 30) (v := ?v1_30) rfl (by kernel_rfl) (by kernel_rfl) (by kernel_rfl) (fun _ _ _ h => h) (by rfl) (by assumption) (fun w hw => ?h1_30) ?r1_30
            case h1_30 => (try dsimp only at hw); go_simp; try with_reducible rfl
            case' r1_30 => skip
            try simp only [Act.put, List.setIfInBounds_toArray, List.set_cons_zero, List.set_cons_succ]
            refine AllReadyH.one (i := 31) rfl (by kernel_rfl) (by rfl) (fun K hK => ?_)
            go_simp
            refine HS.out.mono ?_
            rintro e w6 ⟨rfl, hE6⟩
            have X6 : Ext w4 w6 := Ext.trans (Ext.drew (Ext.refl _)) hE6
            have hS6 := HGO.out w6 X6
            try (go_wp2_with fail)
            refine hK.out _ _ hS6 (fun hHeld => ?_)
            clear hK K
            try simp only [Act.put, List.setIfInBounds_toArray, List.set_cons_zero, List.set_cons_succ]
            refine wpAnyH_takeL (i := 32) (v := ?v4_32) rfl (by kernel_rfl) (by kernel_rfl) (by kernel_rfl) (fun _ _ _ h => h) (by rfl) (by assumption) (fun w hw => ?h4_32) ?r4_32
            case h4_32 => (try dsimp only at hw); go_simp; try with_reducible rfl
            case' r4_32 => skip
            try simp only [Act.put, List.setIfInBounds_toArray, List.set_cons_zero, List.set_cons_succ]
            refine wpAnyH_takeL (i := 33) (v := ?v4_33) rfl (by kernel_rfl) (by kernel_rfl) (by kernel_rfl) (fun _ _ _ h => h) (by rfl) (by assumption) (fun w hw => ?h4_33) ?r4_33
            case h4_33 => (try dsimp only at hw); go_simp; try with_reducible rfl
            case' r4_33 => skip
            try simp only [Act.put, List.setIfInBounds_toArray, List.set_cons_zero, List.set_cons_succ]
            refine wpAnyH_takeL (i := 34) (v := ?v4_34) rfl (by kernel_rfl) (by kernel_rfl) (by kernel_rfl) (fun _ _ _ h => h) (by rfl) (by assumption) (fun w hw => ?h4_34) ?r4_34
            case h4_34 => (try dsimp only at hw); go_simp; try with_reducible rfl
            case' r4_34 => skip
            try simp only [Act.put, List.setIfInBounds_toArray, List.set_cons_zero, List.set_cons_succ]
            refine wpAnyH_takeL (i := 35) (v := ?v4_35) rfl (by kernel_rfl) (by kernel_rfl) (by kernel_rfl) (fun _ _ _ h => h) (by rfl) (by assumption) (fun w hw => ?h4_35) ?r4_35
            case h4_35 => (try dsimp only at hw); go_simp; try with_reducible rfl
            case' r4_35 => skip
            try simp only [Act.put, List.setIfInBounds_toArray, List.set_cons_zero, List.set_cons_succ]
            refine wpAnyH_takeL (i := 36) (v := ?v4_36) rfl (by kernel_rfl) (by kernel_rfl) (by kernel_rfl) (fun _ _ _ h => h) (by rfl) (by assumption) (fun w hw => ?h4_36) ?r4_36
            case h4_36 => (try dsimp only at hw); go_simp; try with_reducible rfl
            case' r4_36 => skip
            try simp only [Act.put, List.setIfInBounds_toArray, List.set_cons_zero, List.set_cons_succ]
            refine wpAnyH_takeL (i := 37) (v := ?v4_37) rfl (by kernel_rfl) (by kernel_rfl) (by kernel_rfl) (fun _ _ _ h => h) (by rfl) (by assumption) (fun w hw => ?h4_37) ?r4_37
            case h4_37 => (try dsimp only at hw); go_simp; try with_reducible rfl
            case' r4_37 => skip
            try simp only [Act.put, List.setIfInBounds_toArray, List.set_cons_zero, List.set_cons_succ]
            refine wpAnyH_takeL (i := 38) (v := ?v4_38) rfl (by kernel_rfl) (by kernel_rfl) (by kernel_rfl) (fun _ _ _ h => h) (by rfl) (by assumption) (fun w hw => ?h4_38) ?r4_38
            case h4_38 => (try dsimp only at hw); go_simp; try with_reducible rfl
            case' r4_38 => skip
            try simp only [Act.put, List.setIfInBounds_toArray, List.set_cons_zero, List.set_cons_succ]
            refine wpAnyH_takeL (i := 39) (v := ?v4_39) rfl (by kernel_rfl) (by kernel_rfl) (by kernel_rfl) (fun _ _ _ h => h) (by rfl) (by assumption) (fun w hw => ?h4_39) ?r4_39
            case h4_39 => (try dsimp only at hw); go_simp; try with_reducible rfl
            case' r4_39 => skip
            try simp only [Act.put, List.setIfInBounds_toArray, List.set_cons_zero, List.set_cons_succ]
            refine wpAnyH_takeL (i := 40) (v := ?v4_40) rfl (by kernel_rfl) (by kernel_rfl) (by kernel_rfl) (fun _ _ _ h => h) (by rfl) (by assumption) (fun w hw => ?h4_40) ?r4_40
            case h4_40 => (try dsimp only at hw); go_simp; try with_reducible rfl
            case' r4_40 => skip
            try simp only [Act.put, List.setIfInBounds_toArray, List.set_cons_zero, List.set_cons_succ]
            refine wpAnyH_takeL (i := 41) (v := ?v4_41) rfl (by kernel_rfl) (by kernel_rfl) (by kernel_rfl) (fun _ _ _ h => h) (by rfl) (by assumption) (fun w hw => ?h4_41) ?r4_41
            case h4_41 => (try dsimp only at hw); go_simp; try with_reducible rfl
            case' r4_41 => skip
            try simp only [Act.put, List.setIfInBounds_toArray, List.set_cons_zero, List.set_cons_succ]
            refine wpAnyH_takeL (i := 42) (v := ?v4_42) rfl (by kernel_rfl) (by kernel_rfl) (by kernel_rfl) (fun _ _ _ h => h) (by rfl) (by assumption) (fun w hw => ?h4_42) ?r4_42
            case h4_42 => (try dsimp only at hw); go_simp; try with_reducible rfl
            case' r4_42 => skip
            try simp only [Act.put, List.setIfInBounds_toArray, List.set_cons_zero, List.set_cons_succ]
            refine wpAnyH_takeL (i := 43) (v := ?v4_43) rfl (by kernel_rfl) (by kernel_rfl) (by kernel_rfl) (fun _ _ _ h => h) (by rfl) (by assumption) (fun w hw => ?h4_43) ?r4_43
            case h4_43 => (try dsimp only at hw); go_simp; try with_reducible rfl
            case' r4_43 => skip
            try simp only [Act.put, List.setIfInBounds_toArray, List.set_cons_zero, List.set_cons_succ]
            refine wpAnyH_takeL (i := 44) (v := ?v4_44) rfl (by kernel_rfl) (by kernel_rfl) (by kernel_rfl) (fun _ _ _ h => h) (by rfl) (by assumption) (fun w hw => ?h4_44) ?r4_44
            case h4_44 => (try dsimp only at hw); go_simp; try with_reducible rfl
            case' r4_44 => skip
            try simp only [Act.put, List.setIfInBounds_toArray, List.set_cons_zero, List.set_cons_succ]
            refine wpAnyH_takeL (i := 45) (v := ?v4_45) rfl (by kernel_rfl) (by kernel_rfl) (by kernel_rfl) (fun _ _ _ h => h) (by rfl) (by assumption) (fun w hw => ?h4_45) ?r4_45
            case h4_45 => (try dsimp only at hw); go_simp; try with_reducible rfl
            case' r4_45 => skip
            try simp only [Act.put, List.setIfInBounds_toArray, List.set_cons_zero, List.set_cons_succ]
            refine wpAnyH_done (by kernel_rfl) ?_ _
            clear hHeld HS hE6
            obtain ⟨p0, p1, p2⟩ := hS6
            go_wp2_with fail
            refine wp_region_held_drew (S := (fun w' => w'.cell? ⟨n2, 0, none⟩ = some (.int .i64 (f : Int)) ∧ w'.cell? ⟨n2, 1, none⟩ = some (.slice A2 n c2) ∧ w'.cell? ⟨n2, 2, none⟩ = some (.int .i64 (b.length : Int)))) (by kernel_rfl) (HGO.out _ (Ext.trans X6 (Ext.drew (Ext.refl _)))) (fun hHeld => ?_)
            refine wpAnyH_takeL (i := 0) (v := ?v6_0) rfl (by kernel_rfl) (by kernel_rfl) (by kernel_rfl) (fun _ _ _ h => h) (by rfl) (by assumption) (fun w hw => ?h6_0) ?r6_0
            case h6_0 => (try dsimp only at hw); go_simp; try with_reducible rfl
            case' r6_0 => skip
            try simp only [Act.put, List.setIfInBounds_toArray, List.set_cons_zero, List.set_cons_succ]
            refine wpAnyH_takeL (i := 1) (v := ?v6_1) rfl (by kernel_rfl) (by kernel_rfl) (by kernel_rfl) (fun _ _ _ h => h) (by rfl) (by assumption) (fun w hw => ?h6_1) ?r6_1
            case h6_1 => (try dsimp only at hw); go_simp; try with_reducible rfl
            case' r6_1 => skip
            try simp only [Act.put, List.setIfInBounds_toArray, List.set_cons_zero, List.set_cons_succ]
            refine wpAnyH_takeL (i := 2) (v := ?v6_2) rfl (by kernel_rfl) (by kernel_rfl) (by kernel_rfl) (fun _ _ _ h => h) (by rfl) (by assumption) (fun w hw => ?h6_2) ?r6_2
            case h6_2 => (try dsimp only at hw); go_simp; try with_reducible rfl
            case' r6_2 => skip
            try simp only [Act.put, List.setIfInBounds_toArray, List.set_cons_zero, List.set_cons_succ]
            refine wpAnyH_takeL (i := 3) (v := ?v6_3) rfl (by kernel_rfl) (by kernel_rfl) (by kernel_rfl) (fun _ _ _ h => h) (by rfl) (by assumption) (fun w hw => ?h6_3) ?r6_3
            case h6_3 => (try dsimp only at hw); go_simp; try with_reducible rfl
            case' r6_3 => skip
            try simp only [Act.put, List.setIfInBounds_toArray, List.set_cons_zero, List.set_cons_succ]
            refine wpAnyH_takeL (i := 4) (v := ?v6_4) rfl (by kernel_rfl) (by kernel_rfl) (by kernel_rfl) (fun _ _ _ h => h) (by rfl) (by assumption) (fun w hw => ?h6_4) ?r6_4
            case h6_4 => (try dsimp only at hw); go_simp; try with_reducible rfl
            case' r6_4 => skip
            try simp only [Act.put, List.setIfInBounds_toArray, List.set_cons_zero, List.set_cons_succ]
            refine wpAnyH_takeL (i := 5) (v := ?v6_5) rfl (by kernel_rfl) (by kernel_rfl) (by kernel_rfl) (fun _ _ _ h => h) (by rfl) (by assumption) (fun w hw => ?h6_5) ?r6_5
            case h6_5 => (try dsimp only at hw); go_simp; try with_reducible rfl
            case' r6_5 => skip
            try simp only [Act.put, List.setIfInBounds_toArray, List.set_cons_zero, List.set_cons_succ]
            refine wpAnyH_takeL (i := 6) (v := ?v6_6) rfl (by kernel_rfl) (by kernel_rfl) (by kernel_rfl) (fun _ _ _ h => h) (by rfl) (by assumption) (fun w hw => ?h6_6) ?r6_6
            case h6_6 => (try dsimp only at hw); go_simp; try with_reducible rfl
            case' r6_6 => skip
            try simp only [Act.put, List.setIfInBounds_toArray, List.set_cons_zero, List.set_cons_succ]
            refine wpAnyH_takeL (i := 7) (v := ?v6_7) rfl (by kernel_rfl) (by kernel_rfl) (by kernel_rfl) (fun _ _ _ h => h) (by rfl) (by assumption) (fun w hw => ?h6_7) ?r6_7
            case h6_7 => (try dsimp only at hw); go_simp; try with_reducible rfl
            case' r6_7 => skip
            try simp only [Act.put, List.setIfInBounds_toArray, List.set_cons_zero, List.set_cons_succ]
            refine wpAnyH_takeL (i := 8) (v := ?v6_8) rfl (by kernel_rfl) (by kernel_rfl) (by kernel_rfl) (fun _ _ _ h => h) (by rfl) (by assumption) (fun w hw => ?h6_8) ?r6_8
            case h6_8 => (try dsimp only at hw); go_simp; try with_reducible rfl
            case' r6_8 => skip
            try simp only [Act.put, List.setIfInBounds_toArray, List.set_cons_zero, List.set_cons_succ]
            refine wpAnyH_takeL (i := 9) (v := ?v6_9) rfl (by kernel_rfl) (by kernel_rfl) (by kernel_rfl) (fun _ _ _ h => h) (by rfl) (by assumption) (fun w hw => ?h6_9) ?r6_9
            case h6_9 => (try dsimp only at hw); go_simp; try with_reducible rfl
            case' r6_9 => skip
            try simp only [Act.put, List.setIfInBounds_toArray, List.set_cons_zero, List.set_cons_succ]
            refine wpAnyH_takeL (i := 10) (v := ?v6_10) rfl (by kernel_rfl) (by kernel_rfl) (by kernel_rfl) (fun _ _ _ h => h) (by rfl) (by assumption) (fun w hw => ?h6_10) ?r6_10
            case h6_10 => (try dsimp only at hw); go_simp; try with_reducible rfl
            case' r6_10 => skip
            try simp only [Act.put, List.setIfInBounds_toArray, List.set_cons_zero, List.set_cons_succ]
            refine wpAnyH_takeL (i := 11) (v := ?v6_11) rfl (by kernel_rfl) (by kernel_rfl) (by kernel_rfl) (fun _ _ _ h => h) (by rfl) (by assumption) (fun w hw => ?h6_11) ?r6_11
            case h6_11 => (try dsimp only at hw); go_simp; try with_reducible rfl
            case' r6_11 => skip
            try simp only [Act.put, List.setIfInBounds_toArray, List.set_cons_zero, List.set_cons_succ]
            refine wpAnyH_takeL (i := 12) (v := ?v6_12) rfl (by kernel_rfl) (by kernel_rfl) (by kernel_rfl) (fun _ _ _ h => h) (by rfl) (by assumption) (fun w hw => ?h6_12) ?r6_12
            case h6_12 => (try dsimp only at hw); go_simp; try with_reducible rfl
            case' r6_12 => skip
            try simp only [Act.put, List.setIfInBounds_toArray, List.set_cons_zero, List.set_cons_succ]
            refine wpAnyH_skipL (i := 13) rfl (by kernel_rfl) (by kernel_rfl) (by kernel_rfl) (fun _ _ _ h => h) (by rfl) (by assumption) ?_
            try simp only [Act.put, List.setIfInBounds_toArray, List.set_cons_zero, List.set_cons_succ]
            refine wpAnyH_skipL (i := 14) rfl (by kernel_rfl) (by kernel_rfl) (by kernel_rfl) (fun _ _ _ h => h) (by rfl) (by assumption) ?_
            try simp only [Act.put, List.setIfInBounds_toArray, List.set_cons_zero, List.set_cons_succ]
            refine wpAnyH_skipL (i := 15) rfl (by kernel_rfl) (by kernel_rfl) (by kernel_rfl) (fun _ _ _ h => h) (by rfl) (by assumption) ?_
            try simp only [Act.put, List.setIfInBounds_toArray, List.set_cons_zero, List.set_cons_succ]
            refine wpAnyH_skipL (i := 16) rfl (by kernel_rfl) (by kernel_rfl) (by kernel_rfl) (fun _ _ _ h => h) (by rfl) (by assumption) ?_
            try simp only [Act.put, List.setIfInBounds_toArray, List.set_cons_zero, List.set_cons_succ]
            refine wpAnyH_skipL (i := 17) rfl (by kernel_rfl) (by kernel_rfl) (by kernel_rfl) (fun _ _ _ h => h) (by rfl) (by assumption) ?_
            try simp only [Act.put, List.setIfInBounds_toArray, List.set_cons_zero, List.set_cons_succ]
            refine wpAnyH_skipL (i := 18) rfl (by kernel_rfl) (by kernel_rfl) (by kernel_rfl) (fun _ _ _ h => h) (by rfl) (by assumption) ?_
            try simp only [Act.put, List.setIfInBounds_toArray, List.set_cons_zero, List.set_cons_succ]
            refine wpAnyH_takeL (i := 19) (v := ?v8_19) rfl (by kernel_rfl) (by kernel_rfl) (by kernel_rfl) (fun _ _ _ h => h) (by rfl) (by assumption) (fun w hw => ?h8_19) ?r8_19
            case h8_19 => (try dsimp only at hw); go_simp; try with_reducible rfl
            case' r8_19 => skip
            try simp only [Act.put, List.setIfInBounds_toArray, List.set_cons_zero, List.set_cons_succ]
            refine wpAnyH_takeL (i := 20) (v := ?v8_20) rfl (by kernel_rfl) (by kernel_rfl) (by kernel_rfl) (fun _ _ _ h => h) (by rfl) (by assumption) (fun w hw => ?h8_20) ?r8_20
            case h8_20 => (try dsimp only at hw); go_simp; try with_reducible rfl
            case' r8_20 => skip
            try simp only [Act.put, List.setIfInBounds_toArray, List.set_cons_zero, List.set_cons_succ]
            refine wpAnyH_takeL (i := 21) (v := ?v8_21) rfl (by kernel_rfl) (by kernel_rfl) (by kernel_rfl) (fun _ _ _ h => h) (by rfl) (by assumption) (fun w hw => ?h8_21) ?r8_21
            case h8_21 => (try dsimp only at hw); go_simp; try with_reducible rfl
            case' r8_21 => skip
            try simp only [Act.put, List.setIfInBounds_toArray, List.set_cons_zero, List.set_cons_succ]
            refine wpAnyH_takeL (i := 22) (v := ?v8_22) rfl (by kernel_rfl) (by kernel_rfl) (by kernel_rfl) (fun _ _ _ h => h) (by rfl) (by assumption) (fun w hw => ?h8_22) ?r8_22
            case h8_22 => (try dsimp only at hw); go_simp; try with_reducible rfl
            case' r8_22 => skip
            try simp only [Act.put, List.setIfInBounds_toArray, List.set_cons_zero, List.set_cons_succ]
            refine wpAnyH_takeL (i := 23) (v := ?v8_23) rfl (by kernel_rfl) (by kernel_rfl) (by kernel_rfl) (fun _ _ _ h => h) (by rfl) (by assumption) (fun w hw => ?h8_23) ?r8_23
            case h8_23 => (try dsimp only at hw); go_simp; try with_reducible rfl
            case' r8_23 => skip
            try simp only [Act.put, List.setIfInBounds_toArray, List.set_cons_zero, List.set_cons_succ]
            refine wpAnyH_takeL (i := 24) (v := ?v8_24) rfl (by kernel_rfl) (by kernel_rfl) (by kernel_rfl) (fun _ _ _ h => h) (by rfl) (by assumption) (fun w hw => ?h8_24) ?r8_24
            case h8_24 => (try dsimp only at hw); go_simp; try with_reducible rfl
            case' r8_24 => skip
            try simp only [Act.put, List.setIfInBounds_toArray, List.set_cons_zero, List.set_cons_succ]
            refine wpAnyH_takeL (i := 25) (v := ?v8_25) rfl (by kernel_rfl) (by kernel_rfl) (by kernel_rfl) (fun _ _ _ h => h) (by rfl) (by assumption) (fun w hw => ?h8_25) ?r8_25
            case h8_25 => (try dsimp only at hw); go_simp; try with_reducible rfl
            case' r8_25 => skip
            try simp only [Act.put, List.setIfInBounds_toArray, List.set_cons_zero, List.set_cons_succ]
            refine wpAnyH_takeL (i := 26) (v := ?v8_26) rfl (by kernel_rfl) (by kernel_rfl) (by kernel_rfl) (fun _ _ _ h => h) (by rfl) (by assumption) (fun w hw => ?h8_26) ?r8_26
            case h8_26 => (try dsimp only at hw); go_simp; try with_reducible rfl
            case' r8_26 => skip
            try simp only [Act.put, List.setIfInBounds_toArray, List.set_cons_zero, List.set_cons_succ]
            refine wpAnyH_takeL (i := 27) (v := ?v8_27) rfl (by kernel_rfl) (by kernel_rfl) (by kernel_rfl) (fun _ _ _ h => h) (by rfl) (by assumption) (fun w hw => ?h8_27) ?r8_27
            case h8_27 => (try dsimp only at hw); go_simp; try with_reducible rfl
            case' r8_27 => skip
            try simp only [Act.put, List.setIfInBounds_toArray, List.set_cons_zero, List.set_cons_succ]
            refine wpAnyH_takeL (i := 28) (v := ?v8_28) rfl (by kernel_rfl) (by kernel_rfl) (by kernel_rfl) (fun _ _ _ h => h) (by rfl) (by assumption) (fun w hw => ?h8_28) ?r8_28
            case h8_28 => (try dsimp only at hw); go_simp; try with_reducible rfl
            case' r8_28 => skip
            try simp only [Act.put, List.setIfInBounds_toArray, List.set_cons_zero, List.set_cons_succ]
            refine wpAnyH_takeL (i := 29) (v := ?v8_29) rfl (by kernel_rfl) (by kernel_rfl) (by kernel_rfl) (fun _ _ _ h => h) (by rfl) (by assumption) (fun w hw => ?h8_29) ?r8_29
            case h8_29 => (try dsimp only at hw); go_simp; try with_reducible rfl
            case' r8_29 => skip
            try simp only [Act.put, List.setIfInBounds_toArray, List.set_cons_zero, List.set_cons_succ]
            refine wpAnyH_takeL (i := 30) (v := ?v8_30) rfl (by kernel_rfl) (by kernel_rfl) (by kernel_rfl) (fun _ _ _ h => h) (by rfl) (by assumption) (fun w hw => ?h8_30) ?r8_30
            case h8_30 => (try dsimp only at hw); go_simp; try with_reducible rfl
            case' r8_30 => skip
            try simp only [Act.put, List.setIfInBounds_toArray, List.set_cons_zero, List.set_cons_succ]
            refine wpAnyH_takeL (i := 31) (v := ?v8_31) rfl (by kernel_rfl) (by kernel_rfl) (by kernel_rfl) (fun _ _ _ h => h) (by rfl) (by assumption) (fun w hw => ?h8_31) ?r8_31
            case h8_31 => (try dsimp only at hw); go_simp; try with_reducible rfl
            case' r8_31 => skip
            try simp only [Act.put, List.setIfInBounds_toArray, List.set_cons_zero, List.set_cons_succ]
            refine AllReadyH.one (i := 32) rfl (by kernel_rfl) (by rfl) (fun K hK => ?_)
            go_simp
            refine (Alike_to Q5.out _ _ _ (HT1.out _ (Ext.trans X4 (Ext.trans X6 (Ext.drew (Ext.refl _))))) (HBT.out _ hub _ (Ext.trans X4 (Ext.trans X6 (Ext.drew (Ext.refl _))))) (HBT.out _ hub _ (Ext.trans X4 (Ext.trans X6 (Ext.drew (Ext.refl _))))) (by omega) (by omega)).mono ?_
            rintro e w7 ⟨rfl, hE7⟩
            have X7 : Ext w4 w7 := Ext.trans X6 (Ext.trans (Ext.drew (Ext.refl _)) hE7)
            have hS7 := HGO.out w7 X7
            try (go_wp2_with fail)
            refine hK.out _ _ hS7 (fun hHeld => ?_)
            clear hK K
            try simp only [Act.put, List.setIfInBounds_toArray, List.set_cons_zero, List.set_cons_succ]
            refine wpAnyH_takeL (i := 33) (v := ?v11_33) rfl (by kernel_rfl) (by kernel_rfl) (by kernel_rfl) (fun _ _ _ h => h) (by rfl) (by assumption) (fun w hw => ?h11_33) ?r11_33
            case h11_33 => (try dsimp only at hw); go_simp; try with_reducible rfl
            case' r11_33 => skip
            try simp only [Act.put, List.setIfInBounds_toArray, List.set_cons_zero, List.set_cons_succ]
            refine wpAnyH_takeL (i := 34) (v := ?v11_34) rfl (by kernel_rfl) (by kernel_rfl) (by kernel_rfl) (fun _ _ _ h => h) (by rfl) (by assumption) (fun w hw => ?h11_34) ?r11_34
            case h11_34 => (try dsimp only at hw); go_simp; try with_reducible rfl
            case' r11_34 => skip
            try simp only [Act.put, List.setIfInBounds_toArray, List.set_cons_zero, List.set_cons_succ]
            refine AllReadyH.one (i := 35) rfl (by kernel_rfl) (by rfl) (fun K hK => ?_)
            go_simp
            refine (wakes10_any _ (HT1.out _ (Ext.trans X4 X7))).mono ?_
            rintro e w8 ⟨rfl, hE8⟩
            have X8 : Ext w4 w8 := Ext.trans X7 hE8
            have hS8 := HGO.out w8 X8
            try (go_wp2_with fail)
            refine hK.out _ _ hS8 (fun hHeld => ?_)
            clear hK K
            try simp only [Act.put, List.setIfInBounds_toArray, List.set_cons_zero, List.set_cons_succ]
            refine wpAnyH_takeL (i := 36) (v := ?v14_36) rfl (by kernel_rfl) (by kernel_rfl) (by kernel_rfl) (fun _ _ _ h => h) (by rfl) (by assumption) (fun w hw => ?h14_36) ?r14_36
            case h14_36 => (try dsimp only at hw); go_simp; try with_reducible rfl
            case' r14_36 => skip
            try simp only [Act.put, List.setIfInBounds_toArray, List.set_cons_zero, List.set_cons_succ]
            refine wpAnyH_takeL (i := 37) (v := ?v14_37) rfl (by kernel_rfl) (by kernel_rfl) (by kernel_rfl) (fun _ _ _ h => h) (by rfl) (by assumption) (fun w hw => ?h14_37) ?r14_37
            case h14_37 => (try dsimp only at hw); go_simp; try with_reducible rfl
            case' r14_37 => skip
            try simp only [Act.put, List.setIfInBounds_toArray, List.set_cons_zero, List.set_cons_succ]
            refine wpAnyH_done (by kernel_rfl) ?_ _
            clear hHeld
            go_wp2_with fail
            go_ret
            exact ⟨rfl, Ext.trans E1 (Ext.trans X4 X8)⟩
          · subst z2
            have m1 : ((u : Int) == (b.length : Int)) = false := by simp; omega
            have m2 : ¬ ((u : Int) = (b.length : Int)) := by omega
            have m3 : decide ((u : Int) = (b.length : Int)) = false := decide_eq_false m2
            have m4 : decide (u = b.length) = false := decide_eq_false z1
            clear huj
            refine wp_region_held_drew (S := (fun w' => w'.cell? ⟨n2, 0, none⟩ = some (.int .i64 (f : Int)) ∧ w'.cell? ⟨n2, 1, none⟩ = some (.slice A2 n c2) ∧ w'.cell? ⟨n2, 2, none⟩ = some (.int .i64 (u : Int)))) (by kernel_rfl) (HGO.out _ (Ext.drew (Ext.refl _))) (fun hHeld => ?_)
            refine wpAnyH_takeL (i := 0) (v := ?v16_0) rfl (by kernel_rfl) (by kernel_rfl) (by kernel_rfl) (fun _ _ _ h => h) (by rfl) (by assumption) (fun w hw => ?h16_0) ?r16_0
            case h16_0 => (try dsimp only at hw); go_simp; try with_reducible rfl
            case' r16_0 => skip
            try simp only [Act.put, List.setIfInBounds_toArray, List.set_cons_zero, List.set_cons_succ]
            refine wpAnyH_takeL (i := 1) (v := ?v16_1) rfl (by kernel_rfl) (by kernel_rfl) (by kernel_rfl) (fun _ _ _ h => h) (by rfl) (by assumption) (fun w hw => ?h16_1) ?r16_1
            case h16_1 => (try dsimp only at hw); go_simp; try with_reducible rfl
            case' r16_1 => skip
            try simp only [Act.put, List.setIfInBounds_toArray, List.set_cons_zero, List.set_cons_succ]
            refine wpAnyH_takeL (i := 2) (v := ?v16_2) rfl (by kernel_rfl) (by kernel_rfl) (by kernel_rfl) (fun _ _ _ h => h) (by rfl) (by assumption) (fun w hw => ?h16_2) ?r16_2
            case h16_2 => (try dsimp only at hw); go_simp; try with_reducible rfl
            case' r16_2 => skip
            try simp only [Act.put, List.setIfInBounds_toArray, List.set_cons_zero, List.set_cons_succ]
            refine wpAnyH_takeL (i := 3) (v := ?v16_3) rfl (by kernel_rfl) (by kernel_rfl) (by kernel_rfl) (fun _ _ _ h => h) (by rfl) (by assumption) (fun w hw => ?h16_3) ?r16_3
            case h16_3 => (try dsimp only at hw); go_simp; try with_reducible rfl
            case' r16_3 => skip
            try simp only [Act.put, List.setIfInBounds_toArray, List.set_cons_zero, List.set_cons_succ]
            refine wpAnyH_takeL (i := 4) (v := ?v16_4) rfl (by kernel_rfl) (by kernel_rfl) (by kernel_rfl) (fun _ _ _ h => h) (by rfl) (by assumption) (fun w hw => ?h16_4) ?r16_4
            case h16_4 => (try dsimp only at hw); go_simp; try with_reducible rfl
            case' r16_4 => skip
            try simp only [Act.put, List.setIfInBounds_toArray, List.set_cons_zero, List.set_cons_succ]
            refine wpAnyH_takeL (i := 5) (v := ?v16_5) rfl (by kernel_rfl) (by kernel_rfl) (by kernel_rfl) (fun _ _ _ h => h) (by rfl) (by assumption) (fun w hw => ?h16_5) ?r16_5
            case h16_5 => (try dsimp only at hw); go_simp; try with_reducible rfl
            case' r16_5 => skip
            try simp only [Act.put, List.setIfInBounds_toArray, List.set_cons_zero, List.set_cons_succ]
            refine wpAnyH_takeL (i := 6) (v := ?v16_6) rfl (by kernel_rfl) (by kernel_rfl) (by kernel_rfl) (fun _ _ _ h => h) (by rfl) (by assumption) (fun w hw => ?h16_6) ?r16_6
            case h16_6 => (try dsimp only at hw); go_simp; try with_reducible rfl
            case' r16_6 => skip
            try simp only [Act.put, List.setIfInBounds_toArray, List.set_cons_zero, List.set_cons_succ]
            refine wpAnyH_takeL (i := 7) (v := ?v16_7) rfl (by kernel_rfl) (by kernel_rfl) (by kernel_rfl) (fun _ _ _ h => h) (by rfl) (by assumption) (fun w hw => ?h16_7) ?r16_7
            case h16_7 => (try dsimp only at hw); go_simp; try with_reducible rfl
            case' r16_7 => skip
            try simp only [Act.put, List.setIfInBounds_toArray, List.set_cons_zero, List.set_cons_succ]
            refine wpAnyH_takeL (i := 8) (v := ?v16_8) rfl (by kernel_rfl) (by kernel_rfl) (by kernel_rfl) (fun _ _ _ h => h) (by rfl) (by assumption) (fun w hw => ?h16_8) ?r16_8
            case h16_8 => (try dsimp only at hw); go_simp; try with_reducible rfl
            case' r16_8 => skip
            try simp only [Act.put, List.setIfInBounds_toArray, List.set_cons_zero, List.set_cons_succ]
            refine wpAnyH_takeL (i := 9) (v := ?v16_9) rfl (by kernel_rfl) (by kernel_rfl) (by kernel_rfl) (fun _ _ _ h => h) (by rfl) (by assumption) (fun w hw => ?h16_9) ?r16_9
            case h16_9 => (try dsimp only at hw); go_simp; try with_reducible rfl
            case' r16_9 => skip
            try simp only [Act.put, List.setIfInBounds_toArray, List.set_cons_zero, List.set_cons_succ]
            refine wpAnyH_takeL (i := 10) (v := ?v16_10) rfl (by kernel_rfl) (by kernel_rfl) (by kernel_rfl) (fun _ _ _ h => h) (by rfl) (by assumption) (fun w hw => ?h16_10) ?r16_10
            case h16_10 => (try dsimp only at hw); go_simp; try with_reducible rfl
            case' r16_10 => skip
            try simp only [Act.put, List.setIfInBounds_toArray, List.set_cons_zero, List.set_cons_succ]
            refine wpAnyH_takeL (i := 11) (v := ?v16_11) rfl (by kernel_rfl) (by kernel_rfl) (by kernel_rfl) (fun _ _ _ h => h) (by rfl) (by assumption) (fun w hw => ?h16_11) ?r16_11
            case h16_11 => (try dsimp only at hw); go_simp; try with_reducible rfl
            case' r16_11 => skip
            try simp only [Act.put, List.setIfInBounds_toArray, List.set_cons_zero, List.set_cons_succ]
            refine wpAnyH_takeL (i := 12) (v := ?v16_12) rfl (by kernel_rfl) (by kernel_rfl) (by kernel_rfl) (fun _ _ _ h => h) (by rfl) (by assumption) (fun w hw => ?h16_12) ?r16_12
            case h16_12 => (try dsimp only at hw); go_simp; try with_reducible rfl
            case' r16_12 => skip
            try simp only [Act.put, List.setIfInBounds_toArray, List.set_cons_zero, List.set_cons_succ]
            refine wpAnyH_takeL (i := 13) (v := ?v16_13) rfl (by kernel_rfl) (by kernel_rfl) (by kernel_rfl) (fun _ _ _ h => h) (by rfl) (by assumption) (fun w hw => ?h16_13) ?r16_13
            case h16_13 => (try dsimp only at hw); go_simp; try with_reducible rfl
            case' r16_13 => skip
            try simp only [Act.put, List.setIfInBounds_toArray, List.set_cons_zero, List.set_cons_succ]
            refine wpAnyH_takeL (i := 14) (v := ?v16_14) rfl (by kernel_rfl) (by kernel_rfl) (by kernel_rfl) (fun _ _ _ h => h) (by rfl) (by assumption) (fun w hw => ?h16_14) ?r16_14
            case h16_14 => (try dsimp only at hw); go_simp; try with_reducible rfl
            case' r16_14 => skip
            try simp only [Act.put, List.setIfInBounds_toArray, List.set_cons_zero, List.set_cons_succ]
            refine wpAnyH_takeL (i := 15) (v := ?v16_15) rfl (by kernel_rfl) (by kernel_rfl) (by kernel_rfl) (fun _ _ _ h => h) (by rfl) (by assumption) (fun w hw => ?h16_15) ?r16_15
            case h16_15 => (try dsimp only at hw); go_simp; try with_reducible rfl
            case' r16_15 => skip
            try simp only [Act.put, List.setIfInBounds_toArray, List.set_cons_zero, List.set_cons_succ]
            refine wpAnyH_takeL (i := 16) (v := ?v16_16) rfl (by kernel_rfl) (by kernel_rfl) (by kernel_rfl) (fun _ _ _ h => h) (by rfl) (by assumption) (fun w hw => ?h16_16) ?r16_16
            case h16_16 => (try dsimp only at hw); go_simp; try with_reducible rfl
            case' r16_16 => skip
            try simp only [Act.put, List.setIfInBounds_toArray, List.set_cons_zero, List.set_cons_succ]
            refine wpAnyH_takeL (i := 17) (v := ?v16_17) rfl (by kernel_rfl) (by kernel_rfl) (by kernel_rfl) (fun _ _ _ h => h) (by rfl) (by assumption) (fun w hw => ?h16_17) ?r16_17
            case h16_17 => (try dsimp only at hw); go_simp; try with_reducible rfl
            case' r16_17 => skip
            try simp only [Act.put, List.setIfInBounds_toArray, List.set_cons_zero, List.set_cons_succ]
            refine wpAnyH_takeL (i := 18) (v := ?v16_18) rfl (by kernel_rfl) (by kernel_rfl) (by kernel_rfl) (fun _ _ _ h => h) (by rfl) (by assumption) (fun w hw => ?h16_18) ?r16_18
            case h16_18 => (try dsimp only at hw); go_simp; try with_reducible rfl
            case' r16_18 => skip
            try simp only [Act.put, List.setIfInBounds_toArray, List.set_cons_zero, List.set_cons_succ]
            refine wpAnyH_takeL (i := 19) (v := ?v16_19) rfl (by kernel_rfl) (by kernel_rfl) (by kernel_rfl) (fun _ _ _ h => h) (by rfl) (by assumption) (fun w hw => ?h16_19) ?r16_19
            case h16_19 => (try dsimp only at hw); go_simp; try with_reducible rfl
            case' r16_19 => skip
            try simp only [Act.put, List.setIfInBounds_toArray, List.set_cons_zero, List.set_cons_succ]
            refine wpAnyH_takeL (i := 20) (v := ?v16_20) rfl (by kernel_rfl) (by kernel_rfl) (by kernel_rfl) (fun _ _ _ h => h) (by rfl) (by assumption) (fun w hw => ?h16_20) ?r16_20
            case h16_20 => (try dsimp only at hw); go_simp; try with_reducible rfl
            case' r16_20 => skip
            try simp only [Act.put, List.setIfInBounds_toArray, List.set_cons_zero, List.set_cons_succ]
            refine wpAnyH_takeL (i := 21) (v := ?v16_21) rfl (by kernel_rfl) (by kernel_rfl) (by kernel_rfl) (fun _ _ _ h => h) (by rfl) (by assumption) (fun w hw => ?h16_21) ?r16_21
            case h16_21 => (try dsimp only at hw); go_simp; try with_reducible rfl
            case' r16_21 => skip
            try simp only [Act.put, List.setIfInBounds_toArray, List.set_cons_zero, List.set_cons_succ]
            refine wpAnyH_takeL (i := 22) (v := ?v16_22) rfl (by kernel_rfl) (by kernel_rfl) (by kernel_rfl) (fun _ _ _ h => h) (by rfl) (by assumption) (fun w hw => ?h16_22) ?r16_22
            case h16_22 => (try dsimp only at hw); go_simp; try with_reducible rfl
            case' r16_22 => skip
            try simp only [Act.put, List.setIfInBounds_toArray, List.set_cons_zero, List.set_cons_succ]
            refine wpAnyH_takeL (i := 23) (v := ?v16_23) rfl (by kernel_rfl) (by kernel_rfl) (by kernel_rfl) (fun _ _ _ h => h) (by rfl) (by assumption) (fun w hw => ?h16_23) ?r16_23
            case h16_23 => (try dsimp only at hw); go_simp; try with_reducible rfl
            case' r16_23 => skip
            try simp only [Act.put, List.setIfInBounds_toArray, List.set_cons_zero, List.set_cons_succ]
            refine wpAnyH_takeL (i := 24) (v := ?v16_24) rfl (by kernel_rfl) (by kernel_rfl) (by kernel_rfl) (fun _ _ _ h => h) (by rfl) (by assumption) (fun w hw => ?h16_24) ?r16_24
            case h16_24 => (try dsimp only at hw); go_simp; try with_reducible rfl
            case' r16_24 => skip
            try simp only [Act.put, List.setIfInBounds_toArray, List.set_cons_zero, List.set_cons_succ]
            refine wpAnyH_takeL (i := 25) (v := ?v16_25) rfl (by kernel_rfl) (by kernel_rfl) (by kernel_rfl) (fun _ _ _ h => h) (by rfl) (by assumption) (fun w hw => ?h16_25) ?r16_25
            case h16_25 => (try dsimp only at hw); go_simp; try with_reducible rfl
            case' r16_25 => skip
            try simp only [Act.put, List.setIfInBounds_toArray, List.set_cons_zero, List.set_cons_succ]
            refine wpAnyH_takeL (i := 26) (v := ?v16_26) rfl (by kernel_rfl) (by kernel_rfl) (by kernel_rfl) (fun _ _ _ h => h) (by rfl) (by assumption) (fun w hw => ?h16_26) ?r16_26
            case h16_26 => (try dsimp only at hw); go_simp; try with_reducible rfl
            case' r16_26 => skip
            try simp only [Act.put, List.setIfInBounds_toArray, List.set_cons_zero, List.set_cons_succ]
            refine wpAnyH_takeL (i := 27) (v := ?v16_27) rfl (by kernel_rfl) (by kernel_rfl) (by kernel_rfl) (fun _ _ _ h => h) (by rfl) (by assumption) (fun w hw => ?h16_27) ?r16_27
            case h16_27 => (try dsimp only at hw); go_simp; try with_reducible rfl
            case' r16_27 => skip
            try simp only [Act.put, List.setIfInBounds_toArray, List.set_cons_zero, List.set_cons_succ]
            refine wpAnyH_takeL (i := 28) (v := ?v16_28) rfl (by kernel_rfl) (by kernel_rfl) (by kernel_rfl) (fun _ _ _ h => h) (by rfl) (by assumption) (fun w hw => ?h16_28) ?r16_28
            case h16_28 => (try dsimp only at hw); go_simp; try with_reducible rfl
            case' r16_28 => skip
            try simp only [Act.put, List.setIfInBounds_toArray, List.set_cons_zero, List.set_cons_succ]
            refine wpAnyH_takeL (i := 29) (v := ?v16_29) rfl (by kernel_rfl) (by kernel_rfl) (by kernel_rfl) (fun _ _ _ h => h) (by rfl) (by assumption) (fun w hw => ?h16_29) ?r16_29
            case h16_29 => (try dsimp only at hw); go_simp; try with_reducible rfl
            case' r16_29 => skip
            try simp only [Act.put, List.setIfInBounds_toArray, List.set_cons_zero, List.set_cons_succ]
            refine wpAnyH_takeL (i := 30) (v := ?v16_30) rfl (by kernel_rfl) (by kernel_rfl) (by kernel_rfl) (fun _ _ _ h => h) (by rfl) (by assumption) (fun w hw => ?h16_30) ?r16_30
            case h16_30 => (try dsimp only at hw); go_simp; try with_reducible rfl
            case' r16_30 => skip
            try simp only [Act.put, List.setIfInBounds_toArray, List.set_cons_zero, List.set_cons_succ]
            refine AllReadyH.one (i := 31) rfl (by kernel_rfl) (by rfl) (fun K hK => ?_)
            go_simp
            refine HS.out.mono ?_
            rintro e w6 ⟨rfl, hE6⟩
            have X6 : Ext w4 w6 := Ext.trans (Ext.drew (Ext.refl _)) hE6
            have hS6 := HGO.out w6 X6
            try (go_wp2_with fail)
            refine hK.out _ _ hS6 (fun hHeld => ?_)
            clear hK K
            try simp only [Act.put, List.setIfInBounds_toArray, List.set_cons_zero, List.set_cons_succ]
            refine wpAnyH_takeL (i := 32) (v := ?v19_32) rfl (by kernel_rfl) (by kernel_rfl) (by kernel_rfl) (fun _ _ _ h => h) (by rfl) (by assumption) (fun w hw => ?h19_32) ?r19_32
            case h19_32 => (try dsimp only at hw); go_simp; try with_reducible rfl
            case' r19_32 => skip
            try simp only [Act.put, List.setIfInBounds_toArray, List.set_cons_zero, List.set_cons_succ]
            refine wpAnyH_takeL (i := 33) (v := ?v19_33) rfl (by kernel_rfl) (by kernel_rfl) (by kernel_rfl) (fun _ _ _ h => h) (by rfl) (by assumption) (fun w hw => ?h19_33) ?r19_33
            case h19_33 => (try dsimp only at hw); go_simp; try with_reducible rfl
            case' r19_33 => skip
            try simp only [Act.put, List.setIfInBounds_toArray, List.set_cons_zero, List.set_cons_succ]
            refine wpAnyH_takeL (i := 34) (v := ?v19_34) rfl (by kernel_rfl) (by kernel_rfl) (by kernel_rfl) (fun _ _ _ h => h) (by rfl) (by assumption) (fun w hw => ?h19_34) ?r19_34
            case h19_34 => (try dsimp only at hw); go_simp; try with_reducible rfl
            case' r19_34 => skip
            try simp only [Act.put, List.setIfInBounds_toArray, List.set_cons_zero, List.set_cons_succ]
            refine wpAnyH_takeL (i := 35) (v := ?v19_35) rfl (by kernel_rfl) (by kernel_rfl) (by kernel_rfl) (fun _ _ _ h => h) (by rfl) (by assumption) (fun w hw => ?h19_35) ?r19_35
            case h19_35 => (try dsimp only at hw); go_simp; try with_reducible rfl
            case' r19_35 => skip
            try simp only [Act.put, List.setIfInBounds_toArray, List.set_cons_zero, List.set_cons_succ]
            refine wpAnyH_takeL (i := 36) (v := ?v19_36) rfl (by kernel_rfl) (by kernel_rfl) (by kernel_rfl) (fun _ _ _ h => h) (by rfl) (by assumption) (fun w hw => ?h19_36) ?r19_36
            case h19_36 => (try dsimp only at hw); go_simp; try with_reducible rfl
            case' r19_36 => skip
            try simp only [Act.put, List.setIfInBounds_toArray, List.set_cons_zero, List.set_cons_succ]
            refine wpAnyH_takeL (i := 37) (v := ?v19_37) rfl (by kernel_rfl) (by kernel_rfl) (by kernel_rfl) (fun _ _ _ h => h) (by rfl) (by assumption) (fun w hw => ?h19_37) ?r19_37
            case h19_37 => (try dsimp only at hw); go_simp; try with_reducible rfl
            case' r19_37 => skip
            try simp only [Act.put, List.setIfInBounds_toArray, List.set_cons_zero, List.set_cons_succ]
            refine wpAnyH_takeL (i := 38) (v := ?v19_38) rfl (by kernel_rfl) (by kernel_rfl) (by kernel_rfl) (fun _ _ _ h => h) (by rfl) (by assumption) (fun w hw => ?h19_38) ?r19_38
            case h19_38 => (try dsimp only at hw); go_simp; try with_reducible rfl
            case' r19_38 => skip
            try simp only [Act.put, List.setIfInBounds_toArray, List.set_cons_zero, List.set_cons_succ]
            refine wpAnyH_takeL (i := 39) (v := ?v19_39) rfl (by kernel_rfl) (by kernel_rfl) (by kernel_rfl) (fun _ _ _ h => h) (by rfl) (by assumption) (fun w hw => ?h19_39) ?r19_39
            case h19_39 => (try dsimp only at hw); go_simp; try with_reducible rfl
            case' r19_39 => skip
            try simp only [Act.put, List.setIfInBounds_toArray, List.set_cons_zero, List.set_cons_succ]
            refine wpAnyH_skipL (i := 40) rfl (by kernel_rfl) (by kernel_rfl) (by kernel_rfl) (fun _ _ _ h => h) (by rfl) (by assumption) ?_
            try simp only [Act.put, List.setIfInBounds_toArray, List.set_cons_zero, List.set_cons_succ]
            refine wpAnyH_skipL (i := 41) rfl (by kernel_rfl) (by kernel_rfl) (by kernel_rfl) (fun _ _ _ h => h) (by rfl) (by assumption) ?_
            try simp only [Act.put, List.setIfInBounds_toArray, List.set_cons_zero, List.set_cons_succ]
            refine wpAnyH_skipL (i := 42) rfl (by kernel_rfl) (by kernel_rfl) (by kernel_rfl) (fun _ _ _ h => h) (by rfl) (by assumption) ?_
            try simp only [Act.put, List.setIfInBounds_toArray, List.set_cons_zero, List.set_cons_succ]
            refine wpAnyH_skipL (i := 43) rfl (by kernel_rfl) (by kernel_rfl) (by kernel_rfl) (fun _ _ _ h => h) (by rfl) (by assumption) ?_
            try simp only [Act.put, List.setIfInBounds_toArray, List.set_cons_zero, List.set_cons_succ]
            refine wpAnyH_takeL (i := 44) (v := ?v21_44) rfl (by kernel_rfl) (by kernel_rfl) (by kernel_rfl) (fun _ _ _ h => h) (by rfl) (by assumption) (fun w hw => ?h21_44) ?r21_44
            case h21_44 => (try dsimp only at hw); go_simp; try with_reducible rfl
            case' r21_44 => skip
            try simp only [Act.put, List.setIfInBounds_toArray, List.set_cons_zero, List.set_cons_succ]
            refine wpAnyH_takeL (i := 45) (v := ?v21_45) rfl (by kernel_rfl) (by kernel_rfl) (by kernel_rfl) (fun _ _ _ h => h) (by rfl) (by assumption) (fun w hw => ?h21_45) ?r21_45
            case h21_45 => (try dsimp only at hw); go_simp; try with_reducible rfl
            case' r21_45 => skip
            try simp only [Act.put, List.setIfInBounds_toArray, List.set_cons_zero, List.set_cons_succ]
            refine wpAnyH_done (by kernel_rfl) ?_ _
            clear hHeld HS hE6
            obtain ⟨p0, p1, p2⟩ := hS6
            go_wp2_with fail
            refine wp_region_held_drew (S := (fun w' => w'.cell? ⟨n2, 0, none⟩ = some (.int .i64 (f : Int)) ∧ w'.cell? ⟨n2, 1, none⟩ = some (.slice A2 n c2) ∧ w'.cell? ⟨n2, 2, none⟩ = some (.int .i64 (u : Int)))) (by kernel_rfl) (HGO.out _ (Ext.trans X6 (Ext.drew (Ext.refl _)))) (fun hHeld => ?_)
            refine wpAnyH_takeL (i := 0) (v := ?v23_0) rfl (by kernel_rfl) (by kernel_rfl) (by kernel_rfl) (fun _ _ _ h => h) (by rfl) (by assumption) (fun w hw => ?h23_0) ?r23_0
            case h23_0 => (try dsimp only at hw); go_simp; try with_reducible rfl
            case' r23_0 => skip
            try simp only [Act.put, List.setIfInBounds_toArray, List.set_cons_zero, List.set_cons_succ]
            refine wpAnyH_takeL (i := 1) (v := ?v23_1) rfl (by kernel_rfl) (by kernel_rfl) (by kernel_rfl) (fun _ _ _ h => h) (by rfl) (by assumption) (fun w hw => ?h23_1) ?r23_1
            case h23_1 => (try dsimp only at hw); go_simp; try with_reducible rfl
            case' r23_1 => skip
            try simp only [Act.put, List.setIfInBounds_toArray, List.set_cons_zero, List.set_cons_succ]
            refine wpAnyH_takeL (i := 2) (v := ?v23_2) rfl (by kernel_rfl) (by kernel_rfl) (by kernel_rfl) (fun _ _ _ h => h) (by rfl) (by assumption) (fun w hw => ?h23_2) ?r23_2
            case h23_2 => (try dsimp only at hw); go_simp; try with_reducible rfl
            case' r23_2 => skip
            try simp only [Act.put, List.setIfInBounds_toArray, List.set_cons_zero, List.set_cons_succ]
            refine wpAnyH_takeL (i := 3) (v := ?v23_3) rfl (by kernel_rfl) (by kernel_rfl) (by kernel_rfl) (fun _ _ _ h => h) (by rfl) (by assumption) (fun w hw => ?h23_3) ?r23_3
            case h23_3 => (try dsimp only at hw); go_simp; try with_reducible rfl
            case' r23_3 => skip
            try simp only [Act.put, List.setIfInBounds_toArray, List.set_cons_zero, List.set_cons_succ]
            refine wpAnyH_takeL (i := 4) (v := ?v23_4) rfl (by kernel_rfl) (by kernel_rfl) (by kernel_rfl) (fun _ _ _ h => h) (by rfl) (by assumption) (fun w hw => ?h23_4) ?r23_4
            case h23_4 => (try dsimp only at hw); go_simp; try with_reducible rfl
            case' r23_4 => skip
            try simp only [Act.put, List.setIfInBounds_toArray, List.set_cons_zero, List.set_cons_succ]
            refine wpAnyH_takeL (i := 5) (v := ?v23_5) rfl (by kernel_rfl) (by kernel_rfl) (by kernel_rfl) (fun _ _ _ h => h) (by rfl) (by assumption) (fun w hw => ?h23_5) ?r23_5
            case h23_5 => (try dsimp only at hw); go_simp; try with_reducible rfl
            case' r23_5 => skip
            try simp only [Act.put, List.setIfInBounds_toArray, List.set_cons_zero, List.set_cons_succ]
            refine wpAnyH_takeL (i := 6) (v := ?v23_6) rfl (by kernel_rfl) (by kernel_rfl) (by kernel_rfl) (fun _ _ _ h => h) (by rfl) (by assumption) (fun w hw => ?h23_6) ?r23_6
            case h23_6 => (try dsimp only at hw); go_simp; try with_reducible rfl
            case' r23_6 => skip
            try simp only [Act.put, List.setIfInBounds_toArray, List.set_cons_zero, List.set_cons_succ]
            refine wpAnyH_takeL (i := 7) (v := ?v23_7) rfl (by kernel_rfl) (by kernel_rfl) (by kernel_rfl) (fun _ _ _ h => h) (by rfl) (by assumption) (fun w hw => ?h23_7) ?r23_7
            case h23_7 => (try dsimp only at hw); go_simp; try with_reducible rfl
            case' r23_7 => skip
            try simp only [Act.put, List.setIfInBounds_toArray, List.set_cons_zero, List.set_cons_succ]
            refine wpAnyH_takeL (i := 8) (v := ?v23_8) rfl (by kernel_rfl) (by kernel_rfl) (by kernel_rfl) (fun _ _ _ h => h) (by rfl) (by assumption) (fun w hw => ?h23_8) ?r23_8
            case h23_8 => (try dsimp only at hw); go_simp; try with_reducible rfl
            case' r23_8 => skip
            try simp only [Act.put, List.setIfInBounds_toArray, List.set_cons_zero, List.set_cons_succ]
            refine wpAnyH_takeL (i := 9) (v := ?v23_9) rfl (by kernel_rfl) (by kernel_rfl) (by kernel_rfl) (fun _ _ _ h => h) (by rfl) (by assumption) (fun w hw => ?h23_9) ?r23_9
            case h23_9 => (try dsimp only at hw); go_simp; try with_reducible rfl
            case' r23_9 => skip
            try simp only [Act.put, List.setIfInBounds_toArray, List.set_cons_zero, List.set_cons_succ]
            refine wpAnyH_takeL (i := 10) (v := ?v23_10) rfl (by kernel_rfl) (by kernel_rfl) (by kernel_rfl) (fun _ _ _ h => h) (by rfl) (by assumption) (fun w hw => ?h23_10) ?r23_10
            case h23_10 => (try dsimp only at hw); go_simp; try with_reducible rfl
            case' r23_10 => skip
            try simp only [Act.put, List.setIfInBounds_toArray, List.set_cons_zero, List.set_cons_succ]
            refine wpAnyH_takeL (i := 11) (v := ?v23_11) rfl (by kernel_rfl) (by kernel_rfl) (by kernel_rfl) (fun _ _ _ h => h) (by rfl) (by assumption) (fun w hw => ?h23_11) ?r23_11
            case h23_11 => (try dsimp only at hw); go_simp; try with_reducible rfl
            case' r23_11 => skip
            try simp only [Act.put, List.setIfInBounds_toArray, List.set_cons_zero, List.set_cons_succ]
            refine wpAnyH_takeL (i := 12) (v := ?v23_12) rfl (by kernel_rfl) (by kernel_rfl) (by kernel_rfl) (fun _ _ _ h => h) (by rfl) (by assumption) (fun w hw => ?h23_12) ?r23_12
            case h23_12 => (try dsimp only at hw); go_simp; try with_reducible rfl
            case' r23_12 => skip
            try simp only [Act.put, List.setIfInBounds_toArray, List.set_cons_zero, List.set_cons_succ]
            refine wpAnyH_skipL (i := 13) rfl (by kernel_rfl) (by kernel_rfl) (by kernel_rfl) (fun _ _ _ h => h) (by rfl) (by assumption) ?_
            try simp only [Act.put, List.setIfInBounds_toArray, List.set_cons_zero, List.set_cons_succ]
            refine wpAnyH_skipL (i := 14) rfl (by kernel_rfl) (by kernel_rfl) (by kernel_rfl) (fun _ _ _ h => h) (by rfl) (by assumption) ?_
            try simp only [Act.put, List.setIfInBounds_toArray, List.set_cons_zero, List.set_cons_succ]
            refine wpAnyH_skipL (i := 15) rfl (by kernel_rfl) (by kernel_rfl) (by kernel_rfl) (fun _ _ _ h => h) (by rfl) (by assumption) ?_
            try simp only [Act.put, List.setIfInBounds_toArray, List.set_cons_zero, List.set_cons_succ]
            refine wpAnyH_skipL (i := 16) rfl (by kernel_rfl) (by kernel_rfl) (by kernel_rfl) (fun _ _ _ h => h) (by rfl) (by assumption) ?_
            try simp only [Act.put, List.setIfInBounds_toArray, List.set_cons_zero, List.set_cons_succ]
            refine wpAnyH_skipL (i := 17) rfl (by kernel_rfl) (by kernel_rfl) (by kernel_rfl) (fun _ _ _ h => h) (by rfl) (by assumption) ?_
            try simp only [Act.put, List.setIfInBounds_toArray, List.set_cons_zero, List.set_cons_succ]
            refine wpAnyH_skipL (i := 18) rfl (by kernel_rfl) (by kernel_rfl) (by kernel_rfl) (fun _ _ _ h => h) (by rfl) (by assumption) ?_
            try simp only [Act.put, List.setIfInBounds_toArray, List.set_cons_zero, List.set_cons_succ]
            refine wpAnyH_takeL (i := 19) (v := ?v25_19) rfl (by kernel_rfl) (by kernel_rfl) (by kernel_rfl) (fun _ _ _ h => h) (by rfl) (by assumption) (fun w hw => ?h25_19) ?r25_19
            case h25_19 => (try dsimp only at hw); go_simp; try with_reducible rfl
            case' r25_19 => skip
            try simp only [Act.put, List.setIfInBounds_toArray, List.set_cons_zero, List.set_cons_succ]
            refine wpAnyH_takeL (i := 20) (v := ?v25_20) rfl (by kernel_rfl) (by kernel_rfl) (by kernel_rfl) (fun _ _ _ h => h) (by rfl) (by assumption) (fun w hw => ?h25_20) ?r25_20
            case h25_20 => (try dsimp only at hw); go_simp; try with_reducible rfl
            case' r25_20 => skip
            try simp only [Act.put, List.setIfInBounds_toArray, List.set_cons_zero, List.set_cons_succ]
            refine wpAnyH_takeL (i := 21) (v := ?v25_21) rfl (by kernel_rfl) (by kernel_rfl) (by kernel_rfl) (fun _ _ _ h => h) (by rfl) (by assumption) (fun w hw => ?h25_21) ?r25_21
            case h25_21 => (try dsimp only at hw); go_simp; try with_reducible rfl
            case' r25_21 => skip
            try simp only [Act.put, List.setIfInBounds_toArray, List.set_cons_zero, List.set_cons_succ]
            refine wpAnyH_takeL (i := 22) (v := ?v25_22) rfl (by kernel_rfl) (by kernel_rfl) (by kernel_rfl) (fun _ _ _ h => h) (by rfl) (by assumption) (fun w hw => ?h25_22) ?r25_22
            case h25_22 => (try dsimp only at hw); go_simp; try with_reducible rfl
            case' r25_22 => skip
            try simp only [Act.put, List.setIfInBounds_toArray, List.set_cons_zero, List.set_cons_succ]
            refine wpAnyH_takeL (i := 23) (v := ?v25_23) rfl (by kernel_rfl) (by kernel_rfl) (by kernel_rfl) (fun _ _ _ h => h) (by rfl) (by assumption) (fun w hw => ?h25_23) ?r25_23
            case h25_23 => (try dsimp only at hw); go_simp; try with_reducible rfl
            case' r25_23 => skip
            try simp only [Act.put, List.setIfInBounds_toArray, List.set_cons_zero, List.set_cons_succ]
            refine wpAnyH_takeL (i := 24) (v := ?v25_24) rfl (by kernel_rfl) (by kernel_rfl) (by kernel_rfl) (fun _ _ _ h => h) (by rfl) (by assumption) (fun w hw => ?h25_24) ?r25_24
            case h25_24 => (try dsimp only at hw); go_simp; try with_reducible rfl
            case' r25_24 => skip
            try simp only [Act.put, List.setIfInBounds_toArray, List.set_cons_zero, List.set_cons_succ]
            refine wpAnyH_takeL (i := 25) (v := ?v25_25) rfl (by kernel_rfl) (by kernel_rfl) (by kernel_rfl) (fun _ _ _ h => h) (by rfl) (by assumption) (fun w hw => ?h25_25) ?r25_25
            case h25_25 => (try dsimp only at hw); go_simp; try with_reducible rfl
            case' r25_25 => skip
            try simp only [Act.put, List.setIfInBounds_toArray, List.set_cons_zero, List.set_cons_succ]
            refine wpAnyH_takeL (i := 26) (v := ?v25_26) rfl (by kernel_rfl) (by kernel_rfl) (by kernel_rfl) (fun _ _ _ h => h) (by rfl) (by assumption) (fun w hw => ?h25_26) ?r25_26
            case h25_26 => (try dsimp only at hw); go_simp; try with_reducible rfl
            case' r25_26 => skip
            try simp only [Act.put, List.setIfInBounds_toArray, List.set_cons_zero, List.set_cons_succ]
            refine wpAnyH_takeL (i := 27) (v := ?v25_27) rfl (by kernel_rfl) (by kernel_rfl) (by kernel_rfl) (fun _ _ _ h => h) (by rfl) (by assumption) (fun w hw => ?h25_27) ?r25_27
            case h25_27 => (try dsimp only at hw); go_simp; try with_reducible rfl
            case' r25_27 => skip
            try simp only [Act.put, List.setIfInBounds_toArray, List.set_cons_zero, List.set_cons_succ]
            refine wpAnyH_takeL (i := 28) (v := ?v25_28) rfl (by kernel_rfl) (by kernel_rfl) (by kernel_rfl) (fun _ _ _ h => h) (by rfl) (by assumption) (fun w hw => ?h25_28) ?r25_28
            case h25_28 => (try dsimp only at hw); go_simp; try with_reducible rfl
            case' r25_28 => skip
            try simp only [Act.put, List.setIfInBounds_toArray, List.set_cons_zero, List.set_cons_succ]
            refine wpAnyH_takeL (i := 29) (v := ?v25_29) rfl (by kernel_rfl) (by kernel_rfl) (by kernel_rfl) (fun _ _ _ h => h) (by rfl) (by assumption) (fun w hw => ?h25_29) ?r25_29
            case h25_29 => (try dsimp only at hw); go_simp; try with_reducible rfl
            case' r25_29 => skip
            try simp only [Act.put, List.setIfInBounds_toArray, List.set_cons_zero, List.set_cons_succ]
            refine wpAnyH_takeL (i := 30) (v := ?v25_30) rfl (by kernel_rfl) (by kernel_rfl) (by kernel_rfl) (fun _ _ _ h => h) (by rfl) (by assumption) (fun w hw => ?h25_30) ?r25_30
            case h25_30 => (try dsimp only at hw); go_simp; try with_reducible rfl
            case' r25_30 => skip
            try simp only [Act.put, List.setIfInBounds_toArray, List.set_cons_zero, List.set_cons_succ]
            refine wpAnyH_takeL (i := 31) (v := ?v25_31) rfl (by kernel_rfl) (by kernel_rfl) (by kernel_rfl) (fun _ _ _ h => h) (by rfl) (by assumption) (fun w hw => ?h25_31) ?r25_31
            case h25_31 => (try dsimp only at hw); go_simp; try with_reducible rfl
            case' r25_31 => skip
            try simp only [Act.put, List.setIfInBounds_toArray, List.set_cons_zero, List.set_cons_succ]
            refine AllReadyH.one (i := 32) rfl (by kernel_rfl) (by rfl) (fun K hK => ?_)
            go_simp
            refine (Alike_to Q5.out _ _ _ (HT1.out _ (Ext.trans X4 (Ext.trans X6 (Ext.drew (Ext.refl _))))) (HBT.out _ hub _ (Ext.trans X4 (Ext.trans X6 (Ext.drew (Ext.refl _))))) (HBT.out _ hub _ (Ext.trans X4 (Ext.trans X6 (Ext.drew (Ext.refl _))))) (by omega) (by omega)).mono ?_
            rintro e w7 ⟨rfl, hE7⟩
            have X7 : Ext w4 w7 := Ext.trans X6 (Ext.trans (Ext.drew (Ext.refl _)) hE7)
            have hS7 := HGO.out w7 X7
            try (go_wp2_with fail)
            refine hK.out _ _ hS7 (fun hHeld => ?_)
            clear hK K
            try simp only [Act.put, List.setIfInBounds_toArray, List.set_cons_zero, List.set_cons_succ]
            refine wpAnyH_takeL (i := 33) (v := ?v28_33) rfl (by kernel_rfl) (by kernel_rfl) (by kernel_rfl) (fun _ _ _ h => h) (by rfl) (by assumption) (fun w hw => ?h28_33) ?r28_33
            case h28_33 => (try dsimp only at hw); go_simp; try with_reducible rfl
            case' r28_33 => skip
            try simp only [Act.put, List.setIfInBounds_toArray, List.set_cons_zero, List.set_cons_succ]
            refine wpAnyH_takeL (i := 34) (v := ?v28_34) rfl (by kernel_rfl) (by kernel_rfl) (by kernel_rfl) (fun _ _ _ h => h) (by rfl) (by assumption) (fun w hw => ?h28_34) ?r28_34
            case h28_34 => (try dsimp only at hw); go_simp; try with_reducible rfl
            case' r28_34 => skip
            try simp only [Act.put, List.setIfInBounds_toArray, List.set_cons_zero, List.set_cons_succ]
            refine AllReadyH.one (i := 35) rfl (by kernel_rfl) (by rfl) (fun K hK => ?_)
            go_simp
            refine (wakes10_any _ (HT1.out _ (Ext.trans X4 X7))).mono ?_
            rintro e w8 ⟨rfl, hE8⟩
            have X8 : Ext w4 w8 := Ext.trans X7 hE8
            have hS8 := HGO.out w8 X8
            try (go_wp2_with fail)
            refine hK.out _ _ hS8 (fun hHeld => ?_)
            clear hK K
            try simp only [Act.put, List.setIfInBounds_toArray, List.set_cons_zero, List.set_cons_succ]
            refine wpAnyH_takeL (i := 36) (v := ?v31_36) rfl (by kernel_rfl) (by kernel_rfl) (by kernel_rfl) (fun _ _ _ h => h) (by rfl) (by assumption) (fun w hw => ?h31_36) ?r31_36
            case h31_36 => (try dsimp only at hw); go_simp; try with_reducible rfl
            case' r31_36 => skip
            try simp only [Act.put, List.setIfInBounds_toArray, List.set_cons_zero, List.set_cons_succ]
            refine wpAnyH_takeL (i := 37) (v := ?v31_37) rfl (by kernel_rfl) (by kernel_rfl) (by kernel_rfl) (fun _ _ _ h => h) (by rfl) (by assumption) (fun w hw => ?h31_37) ?r31_37
            case h31_37 => (try dsimp only at hw); go_simp; try with_reducible rfl
            case' r31_37 => skip
            try simp only [Act.put, List.setIfInBounds_toArray, List.set_cons_zero, List.set_cons_succ]
            refine wpAnyH_done (by kernel_rfl) ?_ _
            clear hHeld
            go_wp2_with fail
            go_ret
            exact ⟨rfl, Ext.trans E1 (Ext.trans X4 X8)⟩
          · have m1 : ((j : Int) == (b.length : Int)) = false := by simp; omega
            have m2 : ¬ ((j : Int) = (b.length : Int)) := by omega
            have m3 : decide ((j : Int) = (b.length : Int)) = false := decide_eq_false m2
            have m4 : decide (j = b.length) = false := decide_eq_false z1
            have m5 : ((u : Int) == (j : Int)) = false := by simp; omega
            have m6 : ¬ ((u : Int) = (j : Int)) := by omega
            have m7 : decide ((u : Int) = (j : Int)) = false := decide_eq_false m6
            have m8 : decide (u = j) = false := decide_eq_false z2
            refine wp_region_held_drew (S := (fun w' => w'.cell? ⟨n2, 0, none⟩ = some (.int .i64 (f : Int)) ∧ w'.cell? ⟨n2, 1, none⟩ = some (.slice A2 n c2) ∧ w'.cell? ⟨n2, 2, none⟩ = some (.int .i64 (u : Int)))) (by kernel_rfl) (HGO.out _ (Ext.drew (Ext.refl _))) (fun hHeld => ?_)
            refine wpAnyH_takeL (i := 0) (v := ?v33_0) rfl (by kernel_rfl) (by kernel_rfl) (by kernel_rfl) (fun _ _ _ h => h) (by rfl) (by assumption) (fun w hw => ?h33_0) ?r33_0
            case h33_0 => (try dsimp only at hw); go_simp; try with_reducible rfl
            case' r33_0 => skip
            try simp only [Act.put, List.setIfInBounds_toArray, List.set_cons_zero, List.set_cons_succ]
            refine wpAnyH_takeL (i := 1) (v := ?v33_1) rfl (by kernel_rfl) (by kernel_rfl) (by kernel_rfl) (fun _ _ _ h => h) (by rfl) (by assumption) (fun w hw => ?h33_1) ?r33_1
            case h33_1 => (try dsimp only at hw); go_simp; try with_reducible rfl
            case' r33_1 => skip
            try simp only [Act.put, List.setIfInBounds_toArray, List.set_cons_zero, List.set_cons_succ]
            refine wpAnyH_takeL (i := 2) (v := ?v33_2) rfl (by kernel_rfl) (by kernel_rfl) (by kernel_rfl) (fun _ _ _ h => h) (by rfl) (by assumption) (fun w hw => ?h33_2) ?r33_2
            case h33_2 => (try dsimp only at hw); go_simp; try with_reducible rfl
            case' r33_2 => skip
            try simp only [Act.put, List.setIfInBounds_toArray, List.set_cons_zero, List.set_cons_succ]
            refine wpAnyH_takeL (i := 3) (v := ?v33_3) rfl (by kernel_rfl) (by kernel_rfl) (by kernel_rfl) (fun _ _ _ h => h) (by rfl) (by assumption) (fun w hw => ?h33_3) ?r33_3
            case h33_3 => (try dsimp only at hw); go_simp; try with_reducible rfl
            case' r33_3 => skip
            try simp only [Act.put, List.setIfInBounds_toArray, List.set_cons_zero, List.set_cons_succ]
            refine wpAnyH_takeL (i := 4) (v := ?v33_4) rfl (by kernel_rfl) (by kernel_rfl) (by kernel_rfl) (fun _ _ _ h => h) (by rfl) (by assumption) (fun w hw => ?h33_4) ?r33_4
            case h33_4 => (try dsimp only at hw); go_simp; try with_reducible rfl
            case' r33_4 => skip
            try simp only [Act.put, List.setIfInBounds_toArray, List.set_cons_zero, List.set_cons_succ]
            refine wpAnyH_takeL (i := 5) (v := ?v33_5) rfl (by kernel_rfl) (by kernel_rfl) (by kernel_rfl) (fun _ _ _ h => h) (by rfl) (by assumption) (fun w hw => ?h33_5) ?r33_5
            case h33_5 => (try dsimp only at hw); go_simp; try with_reducible rfl
            case' r33_5 => skip
            try simp only [Act.put, List.setIfInBounds_toArray, List.set_cons_zero, List.set_cons_succ]
            refine wpAnyH_takeL (i := 6) (v := ?v33_6) rfl (by kernel_rfl) (by kernel_rfl) (by kernel_rfl) (fun _ _ _ h => h) (by rfl) (by assumption) (fun w hw => ?h33_6) ?r33_6
            case h33_6 => (try dsimp only at hw); go_simp; try with_reducible rfl
            case' r33_6 => skip
            try simp only [Act.put, List.setIfInBounds_toArray, List.set_cons_zero, List.set_cons_succ]
            refine wpAnyH_takeL (i := 7) (v := ?v33_7) rfl (by kernel_rfl) (by kernel_rfl) (by kernel_rfl) (fun _ _ _ h => h) (by rfl) (by assumption) (fun w hw => ?h33_7) ?r33_7
            case h33_7 => (try dsimp only at hw); go_simp; try with_reducible rfl
            case' r33_7 => skip
            try simp only [Act.put, List.setIfInBounds_toArray, List.set_cons_zero, List.set_cons_succ]
            refine wpAnyH_takeL (i := 8) (v := ?v33_8) rfl (by kernel_rfl) (by kernel_rfl) (by kernel_rfl) (fun _ _ _ h => h) (by rfl) (by assumption) (fun w hw => ?h33_8) ?r33_8
            case h33_8 => (try dsimp only at hw); go_simp; try with_reducible rfl
            case' r33_8 => skip
            try simp only [Act.put, List.setIfInBounds_toArray, List.set_cons_zero, List.set_cons_succ]
            refine wpAnyH_takeL (i := 9) (v := ?v33_9) rfl (by kernel_rfl) (by kernel_rfl) (by kernel_rfl) (fun _ _ _ h => h) (by rfl) (by assumption) (fun w hw => ?h33_9) ?r33_9
            case h33_9 => (try dsimp only at hw); go_simp; try with_reducible rfl
            case' r33_9 => skip
            try simp only [Act.put, List.setIfInBounds_toArray, List.set_cons_zero, List.set_cons_succ]
            refine wpAnyH_takeL (i := 10) (v := ?v33_10) rfl (by kernel_rfl) (by kernel_rfl) (by kernel_rfl) (fun _ _ _ h => h) (by rfl) (by assumption) (fun w hw => ?h33_10) ?r33_10
            case h33_10 => (try dsimp only at hw); go_simp; try with_reducible rfl
            case' r33_10 => skip
            try simp only [Act.put, List.setIfInBounds_toArray, List.set_cons_zero, List.set_cons_succ]
            refine wpAnyH_takeL (i := 11) (v := ?v33_11) rfl (by kernel_rfl) (by kernel_rfl) (by kernel_rfl) (fun _ _ _ h => h) (by rfl) (by assumption) (fun w hw => ?h33_11) ?r33_11
            case h33_11 => (try dsimp only at hw); go_simp; try with_reducible rfl
            case' r33_11 => skip
            try simp only [Act.put, List.setIfInBounds_toArray, List.set_cons_zero, List.set_cons_succ]
            refine wpAnyH_takeL (i := 12) (v := ?v33_12) rfl (by kernel_rfl) (by kernel_rfl) (by kernel_rfl) (fun _ _ _ h => h) (by rfl) (by assumption) (fun w hw => ?h33_12) ?r33_12
            case h33_12 => (try dsimp only at hw); go_simp; try with_reducible rfl
            case' r33_12 => skip
            try simp only [Act.put, List.setIfInBounds_toArray, List.set_cons_zero, List.set_cons_succ]
            refine wpAnyH_takeL (i := 13) (v := ?v33_13) rfl (by kernel_rfl) (by kernel_rfl) (by kernel_rfl) (fun _ _ _ h => h) (by rfl) (by assumption) (fun w hw => ?h33_13) ?r33_13
            case h33_13 => (try dsimp only at hw); go_simp; try with_reducible rfl
            case' r33_13 => skip
            try simp only [Act.put, List.setIfInBounds_toArray, List.set_cons_zero, List.set_cons_succ]
            refine wpAnyH_takeL (i := 14) (v := ?v33_14) rfl (by kernel_rfl) (by kernel_rfl) (by kernel_rfl) (fun _ _ _ h => h) (by rfl) (by assumption) (fun w hw => ?h33_14) ?r33_14
            case h33_14 => (try dsimp only at hw); go_simp; try with_reducible rfl
            case' r33_14 => skip
            try simp only [Act.put, List.setIfInBounds_toArray, List.set_cons_zero, List.set_cons_succ]
            refine wpAnyH_takeL (i := 15) (v := ?v33_15) rfl (by kernel_rfl) (by kernel_rfl) (by kernel_rfl) (fun _ _ _ h => h) (by rfl) (by assumption) (fun w hw => ?h33_15) ?r33_15
            case h33_15 => (try dsimp only at hw); go_simp; try with_reducible rfl
            case' r33_15 => skip
            try simp only [Act.put, List.setIfInBounds_toArray, List.set_cons_zero, List.set_cons_succ]
            refine wpAnyH_takeL (i := 16) (v := ?v33_16) rfl (by kernel_rfl) (by kernel_rfl) (by kernel_rfl) (fun _ _ _ h => h) (by rfl) (by assumption) (fun w hw => ?h33_16) ?r33_16
            case h33_16 => (try dsimp only at hw); go_simp; try with_reducible rfl
            case' r33_16 => skip
            try simp only [Act.put, List.setIfInBounds_toArray, List.set_cons_zero, List.set_cons_succ]
            refine wpAnyH_takeL (i := 17) (v := ?v33_17) rfl (by kernel_rfl) (by kernel_rfl) (by kernel_rfl) (fun _ _ _ h => h) (by rfl) (by assumption) (fun w hw => ?h33_17) ?r33_17
            case h33_17 => (try dsimp only at hw); go_simp; try with_reducible rfl
            case' r33_17 => skip
            try simp only [Act.put, List.setIfInBounds_toArray, List.set_cons_zero, List.set_cons_succ]
            refine wpAnyH_takeL (i := 18) (v := ?v33_18) rfl (by kernel_rfl) (by kernel_rfl) (by kernel_rfl) (fun _ _ _ h => h) (by rfl) (by assumption) (fun w hw => ?h33_18) ?r33_18
            case h33_18 => (try dsimp only at hw); go_simp; try with_reducible rfl
            case' r33_18 => skip
            try simp only [Act.put, List.setIfInBounds_toArray, List.set_cons_zero, List.set_cons_succ]
            refine wpAnyH_takeL (i := 19) (v := ?v33_19) rfl (by kernel_rfl) (by kernel_rfl) (by kernel_rfl) (fun _ _ _ h => h) (by rfl) (by assumption) (fun w hw => ?h33_19) ?r33_19
            case h33_19 => (try dsimp only at hw); go_simp; try with_reducible rfl
            case' r33_19 => skip
            try simp only [Act.put, List.setIfInBounds_toArray, List.set_cons_zero, List.set_cons_succ]
            refine wpAnyH_takeL (i := 20) (v := ?v33_20) rfl (by kernel_rfl) (by kernel_rfl) (by kernel_rfl) (fun _ _ _ h => h) (by rfl) (by assumption) (fun w hw => ?h33_20) ?r33_20
            case h33_20 => (try dsimp only at hw); go_simp; try with_reducible rfl
            case' r33_20 => skip
            try simp only [Act.put, List.setIfInBounds_toArray, List.set_cons_zero, List.set_cons_succ]
            refine wpAnyH_takeL (i := 21) (v := ?v33_21) rfl (by kernel_rfl) (by kernel_rfl) (by kernel_rfl) (fun _ _ _ h => h) (by rfl) (by assumption) (fun w hw => ?h33_21) ?r33_21
            case h33_21 => (try dsimp only at hw); go_simp; try with_reducible rfl
            case' r33_21 => skip
            try simp only [Act.put, List.setIfInBounds_toArray, List.set_cons_zero, List.set_cons_succ]
            refine wpAnyH_takeL (i := 22) (v := ?v33_22) rfl (by kernel_rfl) (by kernel_rfl) (by kernel_rfl) (fun _ _ _ h => h) (by rfl) (by assumption) (fun w hw => ?h33_22) ?r33_22
            case h33_22 => (try dsimp only at hw); go_simp; try with_reducible rfl
            case' r33_22 => skip
            try simp only [Act.put, List.setIfInBounds_toArray, List.set_cons_zero, List.set_cons_succ]
            refine wpAnyH_takeL (i := 23) (v := ?v33_23) rfl (by kernel_rfl) (by kernel_rfl) (by kernel_rfl) (fun _ _ _ h => h) (by rfl) (by assumption) (fun w hw => ?h33_23) ?r33_23
            case h33_23 => (try dsimp only at hw); go_simp; try with_reducible rfl
            case' r33_23 => skip
            try simp only [Act.put, List.setIfInBounds_toArray, List.set_cons_zero, List.set_cons_succ]
            refine wpAnyH_takeL (i := 24) (v := ?v33_24) rfl (by kernel_rfl) (by kernel_rfl) (by kernel_rfl) (fun _ _ _ h => h) (by rfl) (by assumption) (fun w hw => ?h33_24) ?r33_24
            case h33_24 => (try dsimp only at hw); go_simp; try with_reducible rfl
            case' r33_24 => skip
            try simp only [Act.put, List.setIfInBounds_toArray, List.set_cons_zero, List.set_cons_succ]
            refine wpAnyH_takeL (i := 25) (v := ?v33_25) rfl (by kernel_rfl) (by kernel_rfl) (by kernel_rfl) (fun _ _ _ h => h) (by rfl) (by assumption) (fun w hw => ?h33_25) ?r33_25
            case h33_25 => (try dsimp only at hw); go_simp; try with_reducible rfl
            case' r33_25 => skip
            try simp only [Act.put, List.setIfInBounds_toArray, List.set_cons_zero, List.set_cons_succ]
            refine wpAnyH_takeL (i := 26) (v := ?v33_26) rfl (by kernel_rfl) (by kernel_rfl) (by kernel_rfl) (fun _ _ _ h => h) (by rfl) (by assumption) (fun w hw => ?h33_26) ?r33_26
            case h33_26 => (try dsimp only at hw); go_simp; try with_reducible rfl
            case' r33_26 => skip
            try simp only [Act.put, List.setIfInBounds_toArray, List.set_cons_zero, List.set_cons_succ]
            refine wpAnyH_takeL (i := 27) (v := ?v33_27) rfl (by kernel_rfl) (by kernel_rfl) (by kernel_rfl) (fun _ _ _ h => h) (by rfl) (by assumption) (fun w hw => ?h33_27) ?r33_27
            case h33_27 => (try dsimp only at hw); go_simp; try with_reducible rfl
            case' r33_27 => skip
            try simp only [Act.put, List.setIfInBounds_toArray, List.set_cons_zero, List.set_cons_succ]
            refine wpAnyH_takeL (i := 28) (v := ?v33_28) rfl (by kernel_rfl) (by kernel_rfl) (by kernel_rfl) (fun _ _ _ h => h) (by rfl) (by assumption) (fun w hw => ?h33_28) ?r33_28
            case h33_28 => (try dsimp only at hw); go_simp; try with_reducible rfl
            case' r33_28 => skip
            try simp only [Act.put, List.setIfInBounds_toArray, List.set_cons_zero, List.set_cons_succ]
            refine wpAnyH_takeL (i := 29) (v := ?v33_29) rfl (by kernel_rfl) (by kernel_rfl) (by kernel_rfl) (fun _ _ _ h => h) (by rfl) (by assumption) (fun w hw => ?h33_29) ?r33_29
            case h33_29 => (try dsimp only at hw); go_simp; try with_reducible rfl
            case' r33_29 => skip
            try simp only [Act.put, List.setIfInBounds_toArray, List.set_cons_zero, List.set_cons_succ]
            refine wpAnyH_takeL (i := 30) (v := ?v33_30) rfl (by kernel_rfl) (by kernel_rfl) (by kernel_rfl) (fun _ _ _ h => h) (by rfl) (by assumption) (fun w hw => ?h33_30) ?r33_30
            case h33_30 => (try dsimp only at hw); go_simp; try with_reducible rfl
            case' r33_30 => skip
            try simp only [Act.put, List.setIfInBounds_toArray, List.set_cons_zero, List.set_cons_succ]
            refine AllReadyH.one (i := 31) rfl (by kernel_rfl) (by rfl) (fun K hK => ?_)
            go_simp
            refine HS.out.mono ?_
            rintro e w6 ⟨rfl, hE6⟩
            have X6 : Ext w4 w6 := Ext.trans (Ext.drew (Ext.refl _)) hE6
            have hS6 := HGO.out w6 X6
            try (go_wp2_with fail)
            refine hK.out _ _ hS6 (fun hHeld => ?_)
            clear hK K
            try simp only [Act.put, List.setIfInBounds_toArray, List.set_cons_zero, List.set_cons_succ]
            refine wpAnyH_takeL (i := 32) (v := ?v36_32) rfl (by kernel_rfl) (by kernel_rfl) (by kernel_rfl) (fun _ _ _ h => h) (by rfl) (by assumption) (fun w hw => ?h36_32) ?r36_32
            case h36_32 => (try dsimp only at hw); go_simp; try with_reducible rfl
            case' r36_32 => skip
            try simp only [Act.put, List.setIfInBounds_toArray, List.set_cons_zero, List.set_cons_succ]
            refine wpAnyH_takeL (i := 33) (v := ?v36_33) rfl (by kernel_rfl) (by kernel_rfl) (by kernel_rfl) (fun _ _ _ h => h) (by rfl) (by assumption) (fun w hw => ?h36_33) ?r36_33
            case h36_33 => (try dsimp only at hw); go_simp; try with_reducible rfl
            case' r36_33 => skip
            try simp only [Act.put, List.setIfInBounds_toArray, List.set_cons_zero, List.set_cons_succ]
            refine wpAnyH_takeL (i := 34) (v := ?v36_34) rfl (by kernel_rfl) (by kernel_rfl) (by kernel_rfl) (fun _ _ _ h => h) (by rfl) (by assumption) (fun w hw => ?h36_34) ?r36_34
            case h36_34 => (try dsimp only at hw); go_simp; try with_reducible rfl
            case' r36_34 => skip
            try simp only [Act.put, List.setIfInBounds_toArray, List.set_cons_zero, List.set_cons_succ]
            refine wpAnyH_takeL (i := 35) (v := ?v36_35) rfl (by kernel_rfl) (by kernel_rfl) (by kernel_rfl) (fun _ _ _ h => h) (by rfl) (by assumption) (fun w hw => ?h36_35) ?r36_35
            case h36_35 => (try dsimp only at hw); go_simp; try with_reducible rfl
            case' r36_35 => skip
            try simp only [Act.put, List.setIfInBounds_toArray, List.set_cons_zero, List.set_cons_succ]
            refine wpAnyH_takeL (i := 36) (v := ?v36_36) rfl (by kernel_rfl) (by kernel_rfl) (by kernel_rfl) (fun _ _ _ h => h) (by rfl) (by assumption) (fun w hw => ?h36_36) ?r36_36
            case h36_36 => (try dsimp only at hw); go_simp; try with_reducible rfl
            case' r36_36 => skip
            try simp only [Act.put, List.setIfInBounds_toArray, List.set_cons_zero, List.set_cons_succ]
            refine wpAnyH_takeL (i := 37) (v := ?v36_37) rfl (by kernel_rfl) (by kernel_rfl) (by kernel_rfl) (fun _ _ _ h => h) (by rfl) (by assumption) (fun w hw => ?h36_37) ?r36_37
            case h36_37 => (try dsimp only at hw); go_simp; try with_reducible rfl
            case' r36_37 => skip
            try simp only [Act.put, List.setIfInBounds_toArray, List.set_cons_zero, List.set_cons_succ]
            refine wpAnyH_takeL (i := 38) (v := ?v36_38) rfl (by kernel_rfl) (by kernel_rfl) (by kernel_rfl) (fun _ _ _ h => h) (by rfl) (by assumption) (fun w hw => ?h36_38) ?r36_38
            case h36_38 => (try dsimp only at hw); go_simp; try with_reducible rfl
            case' r36_38 => skip
            try simp only [Act.put, List.setIfInBounds_toArray, List.set_cons_zero, List.set_cons_succ]
            refine wpAnyH_takeL (i := 39) (v := ?v36_39) rfl (by kernel_rfl) (by kernel_rfl) (by kernel_rfl) (fun _ _ _ h => h) (by rfl) (by assumption) (fun w hw => ?h36_39) ?r36_39
            case h36_39 => (try dsimp only at hw); go_simp; try with_reducible rfl
            case' r36_39 => skip
            try simp only [Act.put, List.setIfInBounds_toArray, List.set_cons_zero, List.set_cons_succ]
            refine wpAnyH_skipL (i := 40) rfl (by kernel_rfl) (by kernel_rfl) (by kernel_rfl) (fun _ _ _ h => h) (by rfl) (by assumption) ?_
            try simp only [Act.put, List.setIfInBounds_toArray, List.set_cons_zero, List.set_cons_succ]
            refine wpAnyH_skipL (i := 41) rfl (by kernel_rfl) (by kernel_rfl) (by kernel_rfl) (fun _ _ _ h => h) (by rfl) (by assumption) ?_
            try simp only [Act.put, List.setIfInBounds_toArray, List.set_cons_zero, List.set_cons_succ]
            refine wpAnyH_skipL (i := 42) rfl (by kernel_rfl) (by kernel_rfl) (by kernel_rfl) (fun _ _ _ h => h) (by rfl) (by assumption) ?_
            try simp only [Act.put, List.setIfInBounds_toArray, List.set_cons_zero, List.set_cons_succ]
            refine wpAnyH_skipL (i := 43) rfl (by kernel_rfl) (by kernel_rfl) (by kernel_rfl) (fun _ _ _ h => h) (by rfl) (by assumption) ?_
            try simp only [Act.put, List.setIfInBounds_toArray, List.set_cons_zero, List.set_cons_succ]
            refine wpAnyH_takeL (i := 44) (v := ?v38_44) rfl (by kernel_rfl) (by kernel_rfl) (by kernel_rfl) (fun _ _ _ h => h) (by rfl) (by assumption) (fun w hw => ?h38_44) ?r38_44
            case h38_44 => (try dsimp only at hw); go_simp; try with_reducible rfl
            case' r38_44 => skip
            try simp only [Act.put, List.setIfInBounds_toArray, List.set_cons_zero, List.set_cons_succ]
            refine wpAnyH_takeL (i := 45) (v := ?v38_45) rfl (by kernel_rfl) (by kernel_rfl) (by kernel_rfl) (fun _ _ _ h => h) (by rfl) (by assumption) (fun w hw => ?h38_45) ?r38_45
            case h38_45 => (try dsimp only at hw); go_simp; try with_reducible rfl
            case' r38_45 => skip
            try simp only [Act.put, List.setIfInBounds_toArray, List.set_cons_zero, List.set_cons_succ]
            refine wpAnyH_done (by kernel_rfl) ?_ _
            clear hHeld HS hE6
            obtain ⟨p0, p1, p2⟩ := hS6
            go_wp2_with fail
            refine wp_region_held_drew (S := (fun w' => w'.cell? ⟨n2, 0, none⟩ = some (.int .i64 (f : Int)) ∧ w'.cell? ⟨n2, 1, none⟩ = some (.slice A2 n c2) ∧ w'.cell? ⟨n2, 2, none⟩ = some (.int .i64 (u : Int)))) (by kernel_rfl) (HGO.out _ (Ext.trans X6 (Ext.drew (Ext.refl _)))) (fun hHeld => ?_)
            refine wpAnyH_takeL (i := 0) (v := ?v40_0) rfl (by kernel_rfl) (by kernel_rfl) (by kernel_rfl) (fun _ _ _ h => h) (by rfl) (by assumption) (fun w hw => ?h40_0) ?r40_0
            case h40_0 => (try dsimp only at hw); go_simp; try with_reducible rfl
            case' r40_0 => skip
            try simp only [Act.put, List.setIfInBounds_toArray, List.set_cons_zero, List.set_cons_succ]
            refine wpAnyH_takeL (i := 1) (v := ?v40_1) rfl (by kernel_rfl) (by kernel_rfl) (by kernel_rfl) (fun _ _ _ h => h) (by rfl) (by assumption) (fun w hw => ?h40_1) ?r40_1
            case h40_1 => (try dsimp only at hw); go_simp; try with_reducible rfl
            case' r40_1 => skip
            try simp only [Act.put, List.setIfInBounds_toArray, List.set_cons_zero, List.set_cons_succ]
            refine wpAnyH_takeL (i := 2) (v := ?v40_2) rfl (by kernel_rfl) (by kernel_rfl) (by kernel_rfl) (fun _ _ _ h => h) (by rfl) (by assumption) (fun w hw => ?h40_2) ?r40_2
            case h40_2 => (try dsimp only at hw); go_simp; try with_reducible rfl
            case' r40_2 => skip
            try simp only [Act.put, List.setIfInBounds_toArray, List.set_cons_zero, List.set_cons_succ]
            refine wpAnyH_takeL (i := 3) (v := ?v40_3) rfl (by kernel_rfl) (by kernel_rfl) (by kernel_rfl) (fun _ _ _ h => h) (by rfl) (by assumption) (fun w hw => ?h40_3) ?r40_3
            case h40_3 => (try dsimp only at hw); go_simp; try with_reducible rfl
            case' r40_3 => skip
            try simp only [Act.put, List.setIfInBounds_toArray, List.set_cons_zero, List.set_cons_succ]
            refine wpAnyH_takeL (i := 4) (v := ?v40_4) rfl (by kernel_rfl) (by kernel_rfl) (by kernel_rfl) (fun _ _ _ h => h) (by rfl) (by assumption) (fun w hw => ?h40_4) ?r40_4
            case h40_4 => (try dsimp only at hw); go_simp; try with_reducible rfl
            case' r40_4 => skip
            try simp only [Act.put, List.setIfInBounds_toArray, List.set_cons_zero, List.set_cons_succ]
            refine wpAnyH_takeL (i := 5) (v := ?v40_5) rfl (by kernel_rfl) (by kernel_rfl) (by kernel_rfl) (fun _ _ _ h => h) (by rfl) (by assumption) (fun w hw => ?h40_5) ?r40_5
            case h40_5 => (try dsimp only at hw); go_simp; try with_reducible rfl
            case' r40_5 => skip
            try simp only [Act.put, List.setIfInBounds_toArray, List.set_cons_zero, List.set_cons_succ]
            refine wpAnyH_takeL (i := 6) (v := ?v40_6) rfl (by kernel_rfl) (by kernel_rfl) (by kernel_rfl) (fun _ _ _ h => h) (by rfl) (by assumption) (fun w hw => ?h40_6) ?r40_6
            case h40_6 => (try dsimp only at hw); go_simp; try with_reducible rfl
            case' r40_6 => skip
            try simp only [Act.put, List.setIfInBounds_toArray, List.set_cons_zero, List.set_cons_succ]
            refine wpAnyH_takeL (i := 7) (v := ?v40_7) rfl (by kernel_rfl) (by kernel_rfl) (by kernel_rfl) (fun _ _ _ h => h) (by rfl) (by assumption) (fun w hw => ?h40_7) ?r40_7
            case h40_7 => (try dsimp only at hw); go_simp; try with_reducible rfl
            case' r40_7 => skip
            try simp only [Act.put, List.setIfInBounds_toArray, List.set_cons_zero, List.set_cons_succ]
            refine wpAnyH_takeL (i := 8) (v := ?v40_8) rfl (by kernel_rfl) (by kernel_rfl) (by kernel_rfl) (fun _ _ _ h => h) (by rfl) (by assumption) (fun w hw => ?h40_8) ?r40_8
            case h40_8 => (try dsimp only at hw); go_simp; try with_reducible rfl
            case' r40_8 => skip
            try simp only [Act.put, List.setIfInBounds_toArray, List.set_cons_zero, List.set_cons_succ]
            refine wpAnyH_takeL (i := 9) (v := ?v40_9) rfl (by kernel_rfl) (by kernel_rfl) (by kernel_rfl) (fun _ _ _ h => h) (by rfl) (by assumption) (fun w hw => ?h40_9) ?r40_9
            case h40_9 => (try dsimp only at hw); go_simp; try with_reducible rfl
            case' r40_9 => skip
            try simp only [Act.put, List.setIfInBounds_toArray, List.set_cons_zero, List.set_cons_succ]
            refine wpAnyH_takeL (i := 10) (v := ?v40_10) rfl (by kernel_rfl) (by kernel_rfl) (by kernel_rfl) (fun _ _ _ h => h) (by rfl) (by assumption) (fun w hw => ?h40_10) ?r40_10
            case h40_10 => (try dsimp only at hw); go_simp; try with_reducible rfl
            case' r40_10 => skip
            try simp only [Act.put, List.setIfInBounds_toArray, List.set_cons_zero, List.set_cons_succ]
            refine wpAnyH_takeL (i := 11) (v := ?v40_11) rfl (by kernel_rfl) (by kernel_rfl) (by kernel_rfl) (fun _ _ _ h => h) (by rfl) (by assumption) (fun w hw => ?h40_11) ?r40_11
            case h40_11 => (try dsimp only at hw); go_simp; try with_reducible rfl
            case' r40_11 => skip
            try simp only [Act.put, List.setIfInBounds_toArray, List.set_cons_zero, List.set_cons_succ]
            refine wpAnyH_takeL (i := 12) (v := ?v40_12) rfl (by kernel_rfl) (by kernel_rfl) (by kernel_rfl) (fun _ _ _ h => h) (by rfl) (by assumption) (fun w hw => ?h40_12) ?r40_12
            case h40_12 => (try dsimp only at hw); go_simp; try with_reducible rfl
            case' r40_12 => skip
            try simp only [Act.put, List.setIfInBounds_toArray, List.set_cons_zero, List.set_cons_succ]
            refine wpAnyH_takeL (i := 13) (v := ?v40_13) rfl (by kernel_rfl) (by kernel_rfl) (by kernel_rfl) (fun _ _ _ h => h) (by rfl) (by assumption) (fun w hw => ?h40_13) ?r40_13
            case h40_13 => (try dsimp only at hw); go_simp; try with_reducible rfl
            case' r40_13 => skip
            try simp only [Act.put, List.setIfInBounds_toArray, List.set_cons_zero, List.set_cons_succ]
            refine wpAnyH_takeL (i := 14) (v := ?v40_14) rfl (by kernel_rfl) (by kernel_rfl) (by kernel_rfl) (fun _ _ _ h => h) (by rfl) (by assumption) (fun w hw => ?h40_14) ?r40_14
            case h40_14 => (try dsimp only at hw); go_simp; try with_reducible rfl
            case' r40_14 => skip
            try simp only [Act.put, List.setIfInBounds_toArray, List.set_cons_zero, List.set_cons_succ]
            refine wpAnyH_takeL (i := 15) (v := ?v40_15) rfl (by kernel_rfl) (by kernel_rfl) (by kernel_rfl) (fun _ _ _ h => h) (by rfl) (by assumption) (fun w hw => ?h40_15) ?r40_15
            case h40_15 => (try dsimp only at hw); go_simp; try with_reducible rfl
            case' r40_15 => skip
            try simp only [Act.put, List.setIfInBounds_toArray, List.set_cons_zero, List.set_cons_succ]
            refine wpAnyH_takeL (i := 16) (v := ?v40_16) rfl (by kernel_rfl) (by kernel_rfl) (by kernel_rfl) (fun _ _ _ h => h) (by rfl) (by assumption) (fun w hw => ?h40_16) ?r40_16
            case h40_16 => (try dsimp only at hw); go_simp; try with_reducible rfl
            case' r40_16 => skip
            try simp only [Act.put, List.setIfInBounds_toArray, List.set_cons_zero, List.set_cons_succ]
            refine wpAnyH_takeL (i := 17) (v := ?v40_17) rfl (by kernel_rfl) (by kernel_rfl) (by kernel_rfl) (fun _ _ _ h => h) (by rfl) (by assumption) (fun w hw => ?h40_17) ?r40_17
            case h40_17 => (try dsimp only at hw); go_simp; try with_reducible rfl
            case' r40_17 => skip
            try simp only [Act.put, List.setIfInBounds_toArray, List.set_cons_zero, List.set_cons_succ]
            refine wpAnyH_takeL (i := 18) (v := ?v40_18) rfl (by kernel_rfl) (by kernel_rfl) (by kernel_rfl) (fun _ _ _ h => h) (by rfl) (by assumption) (fun w hw => ?h40_18) ?r40_18
            case h40_18 => (try dsimp only at hw); go_simp; try with_reducible rfl
            case' r40_18 => skip
            try simp only [Act.put, List.setIfInBounds_toArray, List.set_cons_zero, List.set_cons_succ]
            refine wpAnyH_takeL (i := 19) (v := ?v40_19) rfl (by kernel_rfl) (by kernel_rfl) (by kernel_rfl) (fun _ _ _ h => h) (by rfl) (by assumption) (fun w hw => ?h40_19) ?r40_19
            case h40_19 => (try dsimp only at hw); go_simp; try with_reducible rfl
            case' r40_19 => skip
            try simp only [Act.put, List.setIfInBounds_toArray, List.set_cons_zero, List.set_cons_succ]
            refine wpAnyH_takeL (i := 20) (v := ?v40_20) rfl (by kernel_rfl) (by kernel_rfl) (by kernel_rfl) (fun _ _ _ h => h) (by rfl) (by assumption) (fun w hw => ?h40_20) ?r40_20
            case h40_20 => (try dsimp only at hw); go_simp; try with_reducible rfl
            case' r40_20 => skip
            try simp only [Act.put, List.setIfInBounds_toArray, List.set_cons_zero, List.set_cons_succ]
            refine wpAnyH_takeL (i := 21) (v := ?v40_21) rfl (by kernel_rfl) (by kernel_rfl) (by kernel_rfl) (fun _ _ _ h => h) (by rfl) (by assumption) (fun w hw => ?h40_21) ?r40_21
            case h40_21 => (try dsimp only at hw); go_simp; try with_reducible rfl
            case' r40_21 => skip
            try simp only [Act.put, List.setIfInBounds_toArray, List.set_cons_zero, List.set_cons_succ]
            refine wpAnyH_takeL (i := 22) (v := ?v40_22) rfl (by kernel_rfl) (by kernel_rfl) (by kernel_rfl) (fun _ _ _ h => h) (by rfl) (by assumption) (fun w hw => ?h40_22) ?r40_22
            case h40_22 => (try dsimp only at hw); go_simp; try with_reducible rfl
            case' r40_22 => skip
            try simp only [Act.put, List.setIfInBounds_toArray, List.set_cons_zero, List.set_cons_succ]
            refine wpAnyH_takeL (i := 23) (v := ?v40_23) rfl (by kernel_rfl) (by kernel_rfl) (by kernel_rfl) (fun _ _ _ h => h) (by rfl) (by assumption) (fun w hw => ?h40_23) ?r40_23
            case h40_23 => (try dsimp only at hw); go_simp; try with_reducible rfl
            case' r40_23 => skip
            try simp only [Act.put, List.setIfInBounds_toArray, List.set_cons_zero, List.set_cons_succ]
            refine wpAnyH_takeL (i := 24) (v := ?v40_24) rfl (by kernel_rfl) (by kernel_rfl) (by kernel_rfl) (fun _ _ _ h => h) (by rfl) (by assumption) (fun w hw => ?h40_24) ?r40_24
            case h40_24 => (try dsimp only at hw); go_simp; try with_reducible rfl
            case' r40_24 => skip
            try simp only [Act.put, List.setIfInBounds_toArray, List.set_cons_zero, List.set_cons_succ]
            refine wpAnyH_takeL (i := 25) (v := ?v40_25) rfl (by kernel_rfl) (by kernel_rfl) (by kernel_rfl) (fun _ _ _ h => h) (by rfl) (by assumption) (fun w hw => ?h40_25) ?r40_25
            case h40_25 => (try dsimp only at hw); go_simp; try with_reducible rfl
            case' r40_25 => skip
            try simp only [Act.put, List.setIfInBounds_toArray, List.set_cons_zero, List.set_cons_succ]
            refine wpAnyH_takeL (i := 26) (v := ?v40_26) rfl (by kernel_rfl) (by kernel_rfl) (by kernel_rfl) (fun _ _ _ h => h) (by rfl) (by assumption) (fun w hw => ?h40_26) ?r40_26
            case h40_26 => (try dsimp only at hw); go_simp; try with_reducible rfl
            case' r40_26 => skip
            try simp only [Act.put, List.setIfInBounds_toArray, List.set_cons_zero, List.set_cons_succ]
            refine wpAnyH_takeL (i := 27) (v := ?v40_27) rfl (by kernel_rfl) (by kernel_rfl) (by kernel_rfl) (fun _ _ _ h => h) (by rfl) (by assumption) (fun w hw => ?h40_27) ?r40_27
            case h40_27 => (try dsimp only at hw); go_simp; try with_reducible rfl
            case' r40_27 => skip
            try simp only [Act.put, List.setIfInBounds_toArray, List.set_cons_zero, List.set_cons_succ]
            refine wpAnyH_takeL (i := 28) (v := ?v40_28) rfl (by kernel_rfl) (by kernel_rfl) (by kernel_rfl) (fun _ _ _ h => h) (by rfl) (by assumption) (fun w hw => ?h40_28) ?r40_28
            case h40_28 => (try dsimp only at hw); go_simp; try with_reducible rfl
            case' r40_28 => skip
            try simp only [Act.put, List.setIfInBounds_toArray, List.set_cons_zero, List.set_cons_succ]
            refine wpAnyH_takeL (i := 29) (v := ?v40_29) rfl (by kernel_rfl) (by kernel_rfl) (by kernel_rfl) (fun _ _ _ h => h) (by rfl) (by assumption) (fun w hw => ?h40_29) ?r40_29
            case h40_29 => (try dsimp only at hw); go_simp; try with_reducible rfl
            case' r40_29 => skip
            try simp only [Act.put, List.setIfInBounds_toArray, List.set_cons_zero, List.set_cons_succ]
            refine wpAnyH_takeL (i := 30) (v := ?v40_30) rfl (by kernel_rfl) (by kernel_rfl) (by kernel_rfl) (fun _ _ _ h => h) (by rfl) (by assumption) (fun w hw => ?h40_30) ?r40_30
            case h40_30 => (try dsimp only at hw); go_simp; try with_reducible rfl
            case' r40_30 => skip
            try simp only [Act.put, List.setIfInBounds_toArray, List.set_cons_zero, List.set_cons_succ]
            refine wpAnyH_takeL (i := 31) (v := ?v40_31) rfl (by kernel_rfl) (by kernel_rfl) (by kernel_rfl) (fun _ _ _ h => h) (by rfl) (by assumption) (fun w hw => ?h40_31) ?r40_31
            case h40_31 => (try dsimp only at hw); go_simp; try with_reducible rfl
            case' r40_31 => skip
            try simp only [Act.put, List.setIfInBounds_toArray, List.set_cons_zero, List.set_cons_succ]
            refine AllReadyH.one (i := 32) rfl (by kernel_rfl) (by rfl) (fun K hK => ?_)
            go_simp
            refine (Alike_to Q5.out _ _ _ (HT1.out _ (Ext.trans X4 (Ext.trans X6 (Ext.drew (Ext.refl _))))) (HBT.out _ hub _ (Ext.trans X4 (Ext.trans X6 (Ext.drew (Ext.refl _))))) (HBT.out _ hub _ (Ext.trans X4 (Ext.trans X6 (Ext.drew (Ext.refl _))))) (by omega) (by omega)).mono ?_
            rintro e w7 ⟨rfl, hE7⟩
            have X7 : Ext w4 w7 := Ext.trans X6 (Ext.trans (Ext.drew (Ext.refl _)) hE7)
            have hS7 := HGO.out w7 X7
            try (go_wp2_with fail)
            refine hK.out _ _ hS7 (fun hHeld => ?_)
            clear hK K
            try simp only [Act.put, List.setIfInBounds_toArray, List.set_cons_zero, List.set_cons_succ]
            refine wpAnyH_takeL (i := 33) (v := ?v43_33) rfl (by kernel_rfl) (by kernel_rfl) (by kernel_rfl) (fun _ _ _ h => h) (by rfl) (by assumption) (fun w hw => ?h43_33) ?r43_33
            case h43_33 => (try dsimp only at hw); go_simp; try with_reducible rfl
            case' r43_33 => skip
            try simp only [Act.put, List.setIfInBounds_toArray, List.set_cons_zero, List.set_cons_succ]
            refine wpAnyH_takeL (i := 34) (v := ?v43_34) rfl (by kernel_rfl) (by kernel_rfl) (by kernel_rfl) (fun _ _ _ h => h) (by rfl) (by assumption) (fun w hw => ?h43_34) ?r43_34
            case h43_34 => (try dsimp only at hw); go_simp; try with_reducible rfl
            case' r43_34 => skip
            try simp only [Act.put, List.setIfInBounds_toArray, List.set_cons_zero, List.set_cons_succ]
            refine AllReadyH.one (i := 35) rfl (by kernel_rfl) (by rfl) (fun K hK => ?_)
            go_simp
            refine (wakes10_any _ (HT1.out _ (Ext.trans X4 X7))).mono ?_
            rintro e w8 ⟨rfl, hE8⟩
            have X8 : Ext w4 w8 := Ext.trans X7 hE8
            have hS8 := HGO.out w8 X8
            try (go_wp2_with fail)
            refine hK.out _ _ hS8 (fun hHeld => ?_)
            clear hK K
            try simp only [Act.put, List.setIfInBounds_toArray, List.set_cons_zero, List.set_cons_succ]
            refine wpAnyH_takeL (i := 36) (v := ?v46_36) rfl (by kernel_rfl) (by kernel_rfl) (by kernel_rfl) (fun _ _ _ h => h) (by rfl) (by assumption) (fun w hw => ?h46_36) ?r46_36
            case h46_36 => (try dsimp only at hw); go_simp; try with_reducible rfl
            case' r46_36 => skip
            try simp only [Act.put, List.setIfInBounds_toArray, List.set_cons_zero, List.set_cons_succ]
            refine wpAnyH_takeL (i := 37) (v := ?v46_37) rfl (by kernel_rfl) (by kernel_rfl) (by kernel_rfl) (fun _ _ _ h => h) (by rfl) (by assumption) (fun w hw => ?h46_37) ?r46_37
            case h46_37 => (try dsimp only at hw); go_simp; try with_reducible rfl
            case' r46_37 => skip
            try simp only [Act.put, List.setIfInBounds_toArray, List.set_cons_zero, List.set_cons_succ]
            refine wpAnyH_done (by kernel_rfl) ?_ _
            clear hHeld
            go_wp2_with fail
            go_ret
            exact ⟨rfl, Ext.trans E1 (Ext.trans X4 X8)⟩
end Go.Proofs.YtfjcnpigpkcfgaaGreat

namespace Go.Proofs.YtfjcnpigpkcfgaaGreat.eitherTorn
open Go.ChangeShapes Go.WideShapes Go.ChangeAt Go.RowKit Go.Deep Go.Mv

set_option maxRecDepth 100000 in
theorem lifted (os : Os) (started : os.Started) (H : Type) (enc : TypeId × Value → H) :
    ReturnsInHanded {} Tryz.checked os 6 .any (Rows.eitherTornSpec.pre6 enc Tryz.prog Tryz.f6 Rows.eitherTornRow.domain false) (Rows.eitherTornSpec.post enc Tryz.prog Tryz.f6 false true false false) := by
  refine returnsInHanded_of_change_shaped (C := Tryz.checked) own started (by kernel_rfl) Tryz.func6
    (ChangeSpec.witness6 (enc := enc) (C := Tryz.checked) false ⟨#[], #[.int .i64 0, .slice none 0 0, .int .i64 0, .int .i64 0], []⟩ 8 (by kernel_rfl) (by kernel_rfl) (by kernel_rfl) (by kernel_rfl)) ?_
  intro W base args ds gs before hval0 hW hcnd _ hsh _
  obtain ⟨tb, hT⟩ := tab_of_shape hsh
  have hval : ∀ (j : Nat) t v, Tryz.f6.params[j]? = some t → args[j]? = some v → Value.okWide Tryz.prog W .any base t v := hval0
  have hW' := hW
  obtain ⟨p, q, hA0, hV, rfl, hfz, hnd⟩ := hW
  have hA : DataW.TrodAll enc Tryz.prog W 0 (fun _ => true) true Tryz.f6.params.toList args.toList ds p := hA0
  rw [Tryz.params6] at hA hval
  obtain ⟨v0, vs0, d0, ds0, p0, q0, hargs, rfl, rfl, h0, r0⟩ := trodAll_cons hA
  obtain ⟨v1, vs1, d1, ds1, p1, q1, rfl, rfl, rfl, h1, r1⟩ := trodAll_cons r0
  obtain ⟨v2, vs2, d2, ds2, p2, q2, rfl, rfl, rfl, h2, r2⟩ := trodAll_cons r1
  obtain ⟨v3, vs3, d3, ds3, p3, q3, rfl, rfl, rfl, h3, r3⟩ := trodAll_cons r2
  obtain ⟨rfl, rfl, rfl⟩ := trodAll_nil r3
  obtain rfl : args = #[v0, v1, v2, v3] := by cases args; simp_all
  obtain ⟨rfl, rfl⟩ := trodVars_none hV
  obtain ⟨a0, rfl, rfl, rfl, w0⟩ := open_int Tryz.underlying3 (hval 0 3 v0 rfl rfl) h0
  obtain ⟨l1, hl1⟩ := es_of_trod (hval 1 22 v1 rfl rfl) h1
  obtain ⟨a2, rfl, rfl, rfl, w2⟩ := open_int Tryz.underlying3 (hval 2 3 v2 rfl rfl) h2
  obtain ⟨a3, rfl, rfl, rfl, w3⟩ := open_int Tryz.underlying3 (hval 3 3 v3 rfl rfl) h3
  clear hA0 hval0
  simp only [List.append_nil, List.nil_append] at hW'
  refine (Torn_any a0 v1 a2 a3 l1 W hT hl1).mono fun e W' ⟨he, hE⟩ => ?_
  subst he
  exact ⟨_, rfl, post_of_below (pa := _) (pv := []) hW' (fun _ _ _ => trodAll_cons_mk (shut_bool Tryz.underlying4 _) trodAll_mk0)
    (fun sp hsp => (trodAll_cons_mk (shut_int Tryz.underlying3 w0) (trodAll_cons_mk (WideElems.Trod_stays laidOut (by kernel_rfl) (of_decide_eq_true (by kernel_rfl)) h1 (fun x hx => hE.same (hW'.lt x (by simp [hx]))) (fun x hx => hsp x (by simp [hx]))) (trodAll_cons_mk (shut_int Tryz.underlying3 w2) (trodAll_cons_mk (shut_int Tryz.underlying3 w3) trodAll_mk0))))) (fun _ _ => rfl) (by simp) hE (ok_one (by kernel_rfl) rfl (okWide_bool_mk Tryz.underlying4 _))⟩

theorem over : Rows.eitherTornRow.holds Tryz.pinned (OpenSpec.ofChange Rows.eitherTornSpec) :=
  OpenClaim.holds_of_wide 6 Tryz.f6 rfl rfl rfl rfl rfl rfl rfl ⟨rfl, rfl, rfl, rfl, rfl⟩ rfl rfl rfl rfl rfl (by kernel_rfl) Tryz.func6 (by kernel_rfl)
    (of_decide_eq_true (by kernel_rfl)) (by unfold Func.isWrapper; first | (rw [if_pos (by decide +kernel)]; kernel_rfl) | (rw [if_neg (by decide +kernel)]; exact ⟨rfl, rfl⟩))
    (fun os started H enc _ => lifted os started H enc)

theorem proved : Rows.EitherTornSaid := over
#print axioms proved
end Go.Proofs.YtfjcnpigpkcfgaaGreat.eitherTorn
