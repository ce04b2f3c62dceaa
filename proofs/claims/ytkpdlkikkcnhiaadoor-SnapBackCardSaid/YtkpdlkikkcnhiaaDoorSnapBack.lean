/-
  The walk of moultlaw09.SnapBack.
  Whatever the input, the call of SnapBack returns true, and each of its arguments reads behind the call as it read before, where the listed table reads as listed; and the card that ties that to the program's text. No condition besides the row's own.
-/
import Derived.Test.YtkpdlkikkcnhiaaDoorM15
import Derived.Test.YtkpdlkikkcnhiaaDoorRows
import Derived.Test.YtkpdlkikkcnhiaaDoorCards
import Derived.Test.YtkpdlkikkcnhiaaDoorTie
import Derived.WalkKit
import Derived.SevenTiedAt
set_option linter.all false
namespace Go.Proofs.YtkpdlkikkcnhiaaDoor
open Go.RowKit Go.Mv
set_option maxRecDepth 100000

theorem heqS (s : Sta) (W : World) : (Op.equalIn 10000 23 (.agg #[.int .i64 s.idx, .int .i64 s.term, .int .i64 s.sum, .int .i64 s.lvl, .bool s.fin]) (.agg #[.int .i64 s.idx, .int .i64 s.term, .int .i64 s.sum, .int .i64 s.lvl, .bool s.fin])).run Tryd.prog W = .ok true W := by
  have := staEq_run s s W
  rw [(staEq_iff s s).2 rfl] at this
  exact this
theorem again_put {s : Sta} {f t : Int} {b : List UInt8} (h : putR s f = some b) : againR b f t = match putR s t with | none => (2, []) | some c => (0, c) := by
  unfold againR
  rw [takeR_put h]
  rfl

set_option maxHeartbeats 1000000 in
theorem SBack_any (s : Sta) (f t : Int) (w : World) (hT : TabW w) :
    Calls Tryd.prog 3 #[.agg #[.int .i64 s.idx, .int .i64 s.term, .int .i64 s.sum, .int .i64 s.lvl, .bool s.fin], .int .i64 f, .int .i64 t] w fun e w' => e = .returned (.bool true) ∧ Ext w w' := by
  have HT := Lib.hid hT
  clear hT
  have hb := Blk.new w 23 #[.int .i64 s.idx, .int .i64 s.term, .int .i64 s.sum, .int .i64 s.lvl, .bool s.fin]
  have hX : Ext w (w.alloc (.cells #[.int .i64 s.idx, .int .i64 s.term, .int .i64 s.sum, .int .i64 s.lvl, .bool s.fin] 23)) := Ext.alloc (Ext.refl _) _
  have hgd := staGuard
  cases hp : putR s f with
  | none =>
    have Hp := Lib.hid hp
    have hcase : s.ok = false ∨ (s.ok = true ∧ f ≠ 1 ∧ f ≠ 2) := by
      unfold putR at hp
      split at hp
      · rename_i h
        split at hp
        · cases hp
        · split at hp
          · cases hp
          · exact .inr ⟨h, by assumption, by assumption⟩
      · rename_i h
        exact .inl (by simpa using h)
    clear hp
    rcases hcase with hok | ⟨hok, hf1, hf2⟩
    all_goals
      have Hok := Lib.hid hok
      clear hok
    · go_enter Tryd.func3, Tryd.ntmps3
      go_wp2_with fail
      refine (Put_none Hp.out _ (HT.out.ext hX)).mono ?_
      rintro e w1 ⟨rfl, hE1⟩
      have E1 := Ext.trans hX hE1
      obtain ⟨g0, g1, g2, g3, g4⟩ := blk5 (hb.ext hE1)
      go_wp2_with fail
      refine (Fine6_any s w1).mono ?_
      rw [Hok.out]
      rintro e w2 ⟨rfl, hE2⟩
      have E2 := Ext.trans E1 hE2
      go_wp2_with fail
      refine (wakes9_any _ (HT.out.ext E2)).mono ?_
      rintro e w3 ⟨rfl, hE3⟩
      go_wp2_with fail
      go_ret
      exact ⟨rfl, Ext.trans E2 hE3⟩
    · have f1 : (f != 1) = true := by simpa using hf1
      have f2 : (f != 2) = true := by simpa using hf2
      clear hf1 hf2
      go_enter Tryd.func3, Tryd.ntmps3
      go_wp2_with fail
      refine (Put_none Hp.out _ (HT.out.ext hX)).mono ?_
      rintro e w1 ⟨rfl, hE1⟩
      have E1 := Ext.trans hX hE1
      obtain ⟨g0, g1, g2, g3, g4⟩ := blk5 (hb.ext hE1)
      go_wp2_with fail
      refine (Fine6_any s w1).mono ?_
      rw [Hok.out]
      rintro e w2 ⟨rfl, hE2⟩
      have E2 := Ext.trans E1 hE2
      go_wp2_with fail
      refine (wakes9_any _ (HT.out.ext E2)).mono ?_
      rintro e w3 ⟨rfl, hE3⟩
      go_wp2_with fail
      go_ret
      exact ⟨rfl, Ext.trans E2 hE3⟩
  | some b =>
    obtain ⟨hok, hf⟩ := putR_two hp
    have hf' : f = 1 ∨ f = 2 := by rcases hf with h | h; exact .inl h.1; exact .inr h.1
    have hbl := (putR_len hp).2
    have htk := takeR_put hp
    have hag := again_put (t := t) hp
    have heq := heqS s
    have Hp := Lib.hid hp
    have Hok := Lib.hid hok
    have Htk := Lib.hid htk
    clear hp hok htk hf
    cases hq : putR s t with
    | none =>
      rw [hq] at hag
      have Hag : Hid (againR b f t = (2, [])) := hag
      have ht : t ≠ 1 ∧ t ≠ 2 := by
        unfold putR at hq
        rw [if_pos Hok.out] at hq
        split at hq
        · cases hq
        · split at hq
          · cases hq
          · exact ⟨by assumption, by assumption⟩
      have t1 : (t != 1) = true := by simpa using ht.1
      have t2 : (t != 2) = true := by simpa using ht.2
      clear ht hag hq
      rcases hf' with rfl | rfl
      all_goals
        go_enter Tryd.func3, Tryd.ntmps3
        go_wp2_with fail
        refine (Put_some Hp.out _ (HT.out.ext hX)).mono ?_
        rintro e w1 ⟨A1, c1, rfl, ho1, hE1⟩
        have E1 := Ext.trans hX hE1
        have hB1 : Bs w1 (.slice A1 b.length c1) b := SlR.of_own ho1
        obtain ⟨g0, g1, g2, g3, g4⟩ := blk5 (hb.ext hE1)
        have hb1 := hb.ext hE1
        go_wp2_with fail
        refine (Fine6_any s w1).mono ?_
        rw [Hok.out]
        rintro e w2 ⟨rfl, hE2⟩
        have E2 := Ext.trans E1 hE2
        go_wp2_with fail
        refine (Take_to Htk.out _ _ (HT.out.ext E2) (hB1.ext hE2) (by omega)).mono ?_
        rintro e w3 ⟨rfl, hE3⟩
        have hb3 := Blk.new w3 23 #[.int .i64 s.idx, .int .i64 s.term, .int .i64 s.sum, .int .i64 s.lvl, .bool s.fin]
        have E23 : Ext w2 (w3.alloc (.cells #[.int .i64 s.idx, .int .i64 s.term, .int .i64 s.sum, .int .i64 s.lvl, .bool s.fin] 23)) := Ext.alloc hE3 _
        have E3 := Ext.trans E2 E23
        obtain ⟨p0, p1, p2, p3, p4⟩ := blk5 hb3
        clear g0 g1 g2 g3 g4
        obtain ⟨g0, g1, g2, g3, g4⟩ := blk5 (hb1.ext (Ext.trans hE2 E23))
        go_wp2_with fail
        refine (Again_to Hag.out _ _ (HT.out.ext E3) (hB1.ext (Ext.trans hE2 E23)) (by omega)).mono ?_
        rintro e w4 ⟨A4, c4, rfl, -, hE4⟩
        have E4 := Ext.trans E3 hE4
        go_wp2_with fail
        refine (wakes9_any _ (HT.out.ext E4)).mono ?_
        rintro e w5 ⟨rfl, hE5⟩
        go_wp2_with fail
        go_ret
        exact ⟨rfl, Ext.trans E4 hE5⟩
    | some c =>
      rw [hq] at hag
      have Hag : Hid (againR b f t = (0, c)) := hag
      have ht' : t = 1 ∨ t = 2 := by rcases (putR_two hq).2 with h | h; exact .inl h.1; exact .inr h.1
      have hcl := (putR_len hq).2
      have Htk2 := Lib.hid (takeR_put hq)
      have hag2 := again_put (t := f) hq
      rw [Hp.out] at hag2
      have Hag2 : Hid (againR c t f = (0, b)) := hag2
      clear hag hq hag2
      have f12 : ((f != 1) && (f != 2)) = false := by rcases hf' with rfl | rfl <;> rfl
      have t12 : ((t != 1) && (t != 2)) = false := by rcases ht' with rfl | rfl <;> rfl
      rcases hf' with rfl | rfl <;> rcases ht' with rfl | rfl
      all_goals
        clear f12 t12
        go_enter Tryd.func3, Tryd.ntmps3
        go_wp2_with fail
        refine (Put_some Hp.out _ (HT.out.ext hX)).mono ?_
        rintro e w1 ⟨A1, c1, rfl, ho1, hE1⟩
        have E1 := Ext.trans hX hE1
        have hB1 : Bs w1 (.slice A1 b.length c1) b := SlR.of_own ho1
        obtain ⟨g0, g1, g2, g3, g4⟩ := blk5 (hb.ext hE1)
        have hb1 := hb.ext hE1
        go_wp2_with fail
        refine (Fine6_any s w1).mono ?_
        rw [Hok.out]
        rintro e w2 ⟨rfl, hE2⟩
        have E2 := Ext.trans E1 hE2
        go_wp2_with fail
        refine (Take_to Htk.out _ _ (HT.out.ext E2) (hB1.ext hE2) (by omega)).mono ?_
        rintro e w3 ⟨rfl, hE3⟩
        have hb3 := Blk.new w3 23 #[.int .i64 s.idx, .int .i64 s.term, .int .i64 s.sum, .int .i64 s.lvl, .bool s.fin]
        have E23 : Ext w2 (w3.alloc (.cells #[.int .i64 s.idx, .int .i64 s.term, .int .i64 s.sum, .int .i64 s.lvl, .bool s.fin] 23)) := Ext.alloc hE3 _
        have E3 := Ext.trans E2 E23
        obtain ⟨p0, p1, p2, p3, p4⟩ := blk5 hb3
        clear g0 g1 g2 g3 g4
        obtain ⟨g0, g1, g2, g3, g4⟩ := blk5 (hb1.ext (Ext.trans hE2 E23))
        go_wp2_with fail
        have E13 := Ext.trans hE2 E23
        refine (Again_to Hag.out _ _ (HT.out.ext E3) (hB1.ext E13) (by omega)).mono ?_
        rintro e w4 ⟨A4, c4, rfl, ho4, hE4⟩
        have E4 := Ext.trans E3 hE4
        have E14 := Ext.trans E13 hE4
        have hB4 : Bs w4 (.slice A4 c.length c4) c := SlR.of_own ho4
        clear p0 p1 p2 p3 p4 g0 g1 g2 g3 g4 hb3 ho4 ho1
        go_wp2_with fail
        refine (Take_to Htk2.out _ _ (HT.out.ext E4) hB4 (by omega)).mono ?_
        rintro e w5 ⟨rfl, hE5⟩
        have hb5 := Blk.new w5 23 #[.int .i64 s.idx, .int .i64 s.term, .int .i64 s.sum, .int .i64 s.lvl, .bool s.fin]
        have E45 : Ext w4 (w5.alloc (.cells #[.int .i64 s.idx, .int .i64 s.term, .int .i64 s.sum, .int .i64 s.lvl, .bool s.fin] 23)) := Ext.alloc hE5 _
        have E5 := Ext.trans E4 E45
        have E15 := Ext.trans E14 E45
        go_wp2_with fail
        refine (Again_to Hag2.out _ _ (HT.out.ext E5) (hB4.ext E45) (by omega)).mono ?_
        rintro e w6 ⟨A6, c6, rfl, ho6, hE6⟩
        have E6 := Ext.trans E5 hE6
        obtain ⟨p0, p1, p2, p3, p4⟩ := blk5 (hb5.ext hE6)
        obtain ⟨g0, g1, g2, g3, g4⟩ := blk5 (hb1.ext (Ext.trans E15 hE6))
        have hS := same9_any _ _ _ _ w6 (SlR.of_own ho6) (hB1.ext (Ext.trans E15 hE6))
        rw [decide_eq_true rfl] at hS
        have HS := Lib.hid hS
        clear hS ho6
        go_wp2_with fail
        refine HS.out.mono ?_
        rintro e w7 ⟨rfl, hE7⟩
        have E7 := Ext.trans E6 hE7
        go_wp2_with fail
        refine (wakes9_any _ (HT.out.ext E7)).mono ?_
        rintro e w8 ⟨rfl, hE8⟩
        go_wp2_with fail
        go_ret
        exact ⟨rfl, Ext.trans E7 hE8⟩
end Go.Proofs.YtkpdlkikkcnhiaaDoor

namespace Go.Proofs.YtkpdlkikkcnhiaaDoor.snapBack
open Go.ChangeShapes Go.WideShapes Go.ChangeAt Go.RowKit Go.Deep Go.Mv Go.WideElems

set_option maxRecDepth 100000 in
theorem lifted (os : Os) (started : os.Started) (H : Type) (enc : TypeId × Value → H) :
    ReturnsInHanded {} Tryd.checked os 3 .any (fun w args => (Rows.snapBackSpec.pre enc Tryd.prog Tryd.f3 [] false w args ∧ laidMetH Tryd.prog laidL w) ∧ sizedMet enc Tryd.prog Tryd.f3 (OpenSpec.ofChange Rows.snapBackSpec) false w args)
      (Rows.snapBackSpec.post enc Tryd.prog Tryd.f3 false true false false) := by
  refine returnsInHanded_of_change_and (C := Tryd.checked) (X := fun w _ => laidMetH Tryd.prog laidL w) (fun _ _ _ hh h => h.of_heap hh) own started (by kernel_rfl) Tryd.func3
    (ChangeSpec.witness_shaped (enc := enc) (C := Tryd.checked) (os := os) (X := fun w _ => laidMetH Tryd.prog laidL w) false (World.doorLaid Tryd.prog 400 os) #[.agg #[.int .i64 0, .int .i64 0, .int .i64 0, .int .i64 0, .bool false], .int .i64 0, .int .i64 0] 8 rfl (World.shaped_of_RefB (by kernel_rfl) (by kernel_rfl)) (by kernel_rfl) (by kernel_rfl) (by kernel_rfl) (door_met os _)) ?_
  intro W base args ds gs before hval0 hW _ _ hL _
  have hval : ∀ (j : Nat) t v, Tryd.f3.params[j]? = some t → args[j]? = some v → Value.okWide Tryd.prog W .any base t v := hval0
  have hW' := hW
  have hT := tabW_of_laid hL
  obtain ⟨p, q, hA0, hV, rfl, hfz, hnd⟩ := hW
  have hA : DataW.TrodAll enc Tryd.prog W 0 (fun _ => true) true Tryd.f3.params.toList args.toList ds p := hA0
  rw [Tryd.params3] at hA hval
  obtain ⟨v0, vs0, d0, ds0, p0, q0, hargs, rfl, rfl, h0, r0⟩ := trodAll_cons hA
  obtain ⟨v1, vs1, d1, ds1, p1, q1, rfl, rfl, rfl, h1, r1⟩ := trodAll_cons r0
  obtain ⟨v2, vs2, d2, ds2, p2, q2, rfl, rfl, rfl, h2, r2⟩ := trodAll_cons r1
  obtain ⟨rfl, rfl, rfl⟩ := trodAll_nil r2
  obtain rfl : args = #[v0, v1, v2] := by cases args; simp_all
  obtain ⟨rfl, rfl⟩ := trodVars_none hV
  obtain ⟨s0, rfl⟩ := sta_of_trod (hval 0 23 v0 rfl rfl) h0
  obtain ⟨a1, rfl, rfl, rfl, w1⟩ := open_int Tryd.underlying3 (hval 1 3 v1 rfl rfl) h1
  obtain ⟨a2, rfl, rfl, rfl, w2⟩ := open_int Tryd.underlying3 (hval 2 3 v2 rfl rfl) h2
  clear hA0 hval0
  simp only [List.append_nil, List.nil_append] at hW'
  refine (SBack_any s0 a1 a2 W hT).mono fun e W' ⟨he, hE⟩ => ?_
  subst he
  exact ⟨_, rfl, post_of_below (pa := _) (pv := []) hW' (fun _ _ _ => trodAll_cons_mk (shut_bool Tryd.underlying4 _) trodAll_mk0)
    (fun sp hsp => (trodAll_cons_mk (WideElems.Trod_stays laidOut (by kernel_rfl) (of_decide_eq_true (by kernel_rfl)) h0 (fun x hx => hE.same (hW'.lt x (by simp [hx]))) (fun x hx => hsp x (by simp [hx]))) (trodAll_cons_mk (shut_int Tryd.underlying3 w1) (trodAll_cons_mk (shut_int Tryd.underlying3 w2) trodAll_mk0)))) (fun _ _ => rfl) (by simp) hE (ok_one (by kernel_rfl) rfl (okWide_bool_mk Tryd.underlying4 _))⟩

theorem over : Rows.snapBackRow.holds Tryd.pinned (OpenSpec.ofChange Rows.snapBackSpec) :=
  OpenClaim.holds_of_wide 3 Tryd.f3 rfl rfl rfl rfl rfl rfl rfl ⟨rfl, rfl, rfl, rfl, rfl⟩ rfl rfl rfl rfl rfl (by kernel_rfl) Tryd.func3 (by kernel_rfl)
    (of_decide_eq_true (by kernel_rfl)) (by unfold Func.isWrapper; first | (rw [if_pos (by decide +kernel)]; kernel_rfl) | (rw [if_neg (by decide +kernel)]; exact ⟨rfl, rfl⟩))
    (fun os started H enc _ => lifted os started H enc)

theorem proved : Rows.SnapBackCardSaid :=
  Claim7.holds_tied_plain_at .later [] [.data] true Rows.snapBackCard.stood.harness false
    over (fun _ h => by cases h) (by kernel_rfl) (fun _ h => by cases h) snapBack_row_tie rfl ⟨rfl, rfl⟩ (by kernel_rfl) rfl
    (fun f fn hf hfn => by
      obtain rfl : f = 3 := Option.some.inj ((show Tryd.prog.funcNamed "moult/moultlaw09.SnapBack" = some 3 by kernel_rfl).symm.trans hf) |>.symm
      obtain rfl : fn = Tryd.f3 := (Option.some.inj (Tryd.func3.symm.trans hfn)).symm
      exact ⟨by kernel_rfl, fun j t ht => by
        rw [Tryd.params3] at ht
        have hm : t ∈ [23, 3, 3] := by simpa using Array.mem_of_getElem? ht
        have hall : ([23, 3, 3].all fun u => !Tryd.prog.wantsStandIn u) = true := by kernel_rfl
        exact (show Tryd.prog.wantsStandIn t = false by simpa using List.all_eq_true.1 hall t hm)⟩)
    (by kernel_rfl)
#print axioms proved
end Go.Proofs.YtkpdlkikkcnhiaaDoor.snapBack
