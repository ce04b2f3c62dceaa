/-
  The walk of moultlaw09.SnapOnly.
  Whatever the input, the call of SnapOnly returns true, and each of its arguments reads behind the call as it read before, where the listed table reads as listed; and the card that ties that to the program's text. No condition besides the row's own.
-/
import Derived.Test.YtkpdlkikkcnhiaaDoorM15
import Derived.Test.YtkpdlkikkcnhiaaDoorRows
import Derived.Test.YtkpdlkikkcnhiaaDoorCards
import Derived.Test.YtkpdlkikkcnhiaaDoorTie
import Derived.WalkKit
import Derived.SevenTiedAt
set_option linter.all false
namespace Go.Proofs.YtkpdlkikkcnhiaaDoor
open Go.RowKit Go.Mv
set_option maxRecDepth 100000

theorem heqZ (W : World) : (Op.equalIn 10000 23 (.agg #[.int .i64 0, .int .i64 0, .int .i64 0, .int .i64 0, .bool false]) (.agg #[.int .i64 0, .int .i64 0, .int .i64 0, .int .i64 0, .bool false])).run Tryd.prog W = .ok true W := staEq_run staZ staZ W

set_option maxHeartbeats 1000000 in
theorem Only_any (v : Value) (f : Int) (bs : List UInt8) (w : World) (hT : TabW w) (hB : Bs w v bs) :
    Calls Tryd.prog 5 #[v, .int .i64 f] w fun e w' => e = .returned (.bool true) ∧ Ext w w' := by
  obtain ⟨A, c, rfl, h1, h2⟩ := SlR.open_ hB
  have HB := Lib.hid hB
  have HT := Lib.hid hT
  clear hB hT
  by_cases hl : 200 < bs.length
  · go_enter Tryd.func5, Tryd.ntmps5
    go_wp2_with fail
    refine (wakes9_any _ HT.out).mono ?_
    rintro e w1 ⟨rfl, hE⟩
    go_wp2_with fail
    go_ret
    exact ⟨rfl, hE⟩
  · have hgd := staGuard
    cases hr : takeR bs f with
    | none =>
      have Hr := Lib.hid hr
      clear hr
      have heq := heqZ
      go_enter Tryd.func5, Tryd.ntmps5
      go_wp2_with fail
      refine (Take_no Hr.out _ _ HT.out HB.out (by omega)).mono ?_
      rintro e w1 ⟨rfl, hE1⟩
      have hb := Blk.new w1 23 #[.int .i64 0, .int .i64 0, .int .i64 0, .int .i64 0, .bool false]
      have E1 : Ext w (w1.alloc (.cells #[.int .i64 0, .int .i64 0, .int .i64 0, .int .i64 0, .bool false] 23)) := Ext.alloc hE1 _
      obtain ⟨g0, g1, g2, g3, g4⟩ := blk5 hb
      go_wp2_with fail
      refine (wakes9_any _ (HT.out.ext E1)).mono ?_
      rintro e w2 ⟨rfl, hE2⟩
      go_wp2_with fail
      go_ret
      exact ⟨rfl, Ext.trans E1 hE2⟩
    | some s =>
      obtain ⟨hok, _, hput⟩ := takeR_some hr
      have Hr := Lib.hid hr
      have Hok := Lib.hid hok
      have Hput := Lib.hid hput
      clear hr hok hput
      go_enter Tryd.func5, Tryd.ntmps5
      go_wp2_with fail
      refine (Take_to Hr.out _ _ HT.out HB.out (by omega)).mono ?_
      rintro e w1 ⟨rfl, hE1⟩
      have hb := Blk.new w1 23 #[.int .i64 s.idx, .int .i64 s.term, .int .i64 s.sum, .int .i64 s.lvl, .bool s.fin]
      have E1 : Ext w (w1.alloc (.cells #[.int .i64 s.idx, .int .i64 s.term, .int .i64 s.sum, .int .i64 s.lvl, .bool s.fin] 23)) := Ext.alloc hE1 _
      go_wp2_with fail
      refine (Put_some Hput.out _ (HT.out.ext E1)).mono ?_
      rintro e w2 ⟨A2, c2, rfl, ho2, hE2⟩
      have E2 := Ext.trans E1 hE2
      have hS := same9_any _ _ _ _ w2 (SlR.of_own ho2) (HB.out.ext E2)
      rw [decide_eq_true rfl] at hS
      have HS := Lib.hid hS
      have hb2 := hb.ext hE2
      clear hS ho2 hb
      go_wp2_with fail
      refine HS.out.mono ?_
      rintro e w3 ⟨rfl, hE3⟩
      have E3 := Ext.trans E2 hE3
      obtain ⟨g0, g1, g2, g3, g4⟩ := blk5 (hb2.ext hE3)
      go_wp2_with fail
      refine (Fine6_any s w3).mono ?_
      rw [Hok.out]
      rintro e w4 ⟨rfl, hE4⟩
      have E4 := Ext.trans E3 hE4
      go_wp2_with fail
      refine (wakes9_any _ (HT.out.ext E4)).mono ?_
      rintro e w5 ⟨rfl, hE5⟩
      go_wp2_with fail
      go_ret
      exact ⟨rfl, Ext.trans E4 hE5⟩
end Go.Proofs.YtkpdlkikkcnhiaaDoor

namespace Go.Proofs.YtkpdlkikkcnhiaaDoor.snapOnly
open Go.ChangeShapes Go.WideShapes Go.ChangeAt Go.RowKit Go.Deep Go.Mv Go.WideElems

set_option maxRecDepth 100000 in
theorem lifted (os : Os) (started : os.Started) (H : Type) (enc : TypeId × Value → H) :
    ReturnsInHanded {} Tryd.checked os 5 .any (fun w args => (Rows.snapOnlySpec.pre enc Tryd.prog Tryd.f5 [] false w args ∧ laidMetH Tryd.prog laidL w) ∧ sizedMet enc Tryd.prog Tryd.f5 (OpenSpec.ofChange Rows.snapOnlySpec) false w args)
      (Rows.snapOnlySpec.post enc Tryd.prog Tryd.f5 false true false false) := by
  refine returnsInHanded_of_change_and (C := Tryd.checked) (X := fun w _ => laidMetH Tryd.prog laidL w) (fun _ _ _ hh h => h.of_heap hh) own started (by kernel_rfl) Tryd.func5
    (ChangeSpec.witness_shaped (enc := enc) (C := Tryd.checked) (os := os) (X := fun w _ => laidMetH Tryd.prog laidL w) false (World.doorLaid Tryd.prog 400 os) #[.slice none 0 0, .int .i64 0] 8 rfl (World.shaped_of_RefB (by kernel_rfl) (by kernel_rfl)) (by kernel_rfl) (by kernel_rfl) (by kernel_rfl) (door_met os _)) ?_
  intro W base args ds gs before hval0 hW _ _ hL _
  have hval : ∀ (j : Nat) t v, Tryd.f5.params[j]? = some t → args[j]? = some v → Value.okWide Tryd.prog W .any base t v := hval0
  have hW' := hW
  have hT := tabW_of_laid hL
  obtain ⟨p, q, hA0, hV, rfl, hfz, hnd⟩ := hW
  have hA : DataW.TrodAll enc Tryd.prog W 0 (fun _ => true) true Tryd.f5.params.toList args.toList ds p := hA0
  rw [Tryd.params5] at hA hval
  obtain ⟨v0, vs0, d0, ds0, p0, q0, hargs, rfl, rfl, h0, r0⟩ := trodAll_cons hA
  obtain ⟨v1, vs1, d1, ds1, p1, q1, rfl, rfl, rfl, h1, r1⟩ := trodAll_cons r0
  obtain ⟨rfl, rfl, rfl⟩ := trodAll_nil r1
  obtain rfl : args = #[v0, v1] := by cases args; simp_all
  obtain ⟨rfl, rfl⟩ := trodVars_none hV
  obtain ⟨l0, hl0⟩ := bs_of_trod (hval 0 24 v0 rfl rfl) h0
  obtain ⟨a1, rfl, rfl, rfl, w1⟩ := open_int Tryd.underlying3 (hval 1 3 v1 rfl rfl) h1
  clear hA0 hval0
  simp only [List.append_nil, List.nil_append] at hW'
  refine (Only_any v0 a1 l0 W hT hl0).mono fun e W' ⟨he, hE⟩ => ?_
  subst he
  exact ⟨_, rfl, post_of_below (pa := _) (pv := []) hW' (fun _ _ _ => trodAll_cons_mk (shut_bool Tryd.underlying4 _) trodAll_mk0)
    (fun sp hsp => (trodAll_cons_mk (WideElems.Trod_stays laidOut (by kernel_rfl) (of_decide_eq_true (by kernel_rfl)) h0 (fun x hx => hE.same (hW'.lt x (by simp [hx]))) (fun x hx => hsp x (by simp [hx]))) (trodAll_cons_mk (shut_int Tryd.underlying3 w1) trodAll_mk0))) (fun _ _ => rfl) (by simp) hE (ok_one (by kernel_rfl) rfl (okWide_bool_mk Tryd.underlying4 _))⟩

theorem over : Rows.snapOnlyRow.holds Tryd.pinned (OpenSpec.ofChange Rows.snapOnlySpec) :=
  OpenClaim.holds_of_wide 5 Tryd.f5 rfl rfl rfl rfl rfl rfl rfl ⟨rfl, rfl, rfl, rfl, rfl⟩ rfl rfl rfl rfl rfl (by kernel_rfl) Tryd.func5 (by kernel_rfl)
    (of_decide_eq_true (by kernel_rfl)) (by unfold Func.isWrapper; first | (rw [if_pos (by decide +kernel)]; kernel_rfl) | (rw [if_neg (by decide +kernel)]; exact ⟨rfl, rfl⟩))
    (fun os started H enc _ => lifted os started H enc)

theorem proved : Rows.SnapOnlyCardSaid :=
  Claim7.holds_tied_plain_at .later [] [.data] true Rows.snapOnlyCard.stood.harness false
    over (fun _ h => by cases h) (by kernel_rfl) (fun _ h => by cases h) snapOnly_row_tie rfl ⟨rfl, rfl⟩ (by kernel_rfl) rfl
    (fun f fn hf hfn => by
      obtain rfl : f = 5 := Option.some.inj ((show Tryd.prog.funcNamed "moult/moultlaw09.SnapOnly" = some 5 by kernel_rfl).symm.trans hf) |>.symm
      obtain rfl : fn = Tryd.f5 := (Option.some.inj (Tryd.func5.symm.trans hfn)).symm
      exact ⟨by kernel_rfl, fun j t ht => by
        rw [Tryd.params5] at ht
        have hm : t ∈ [24, 3] := by simpa using Array.mem_of_getElem? ht
        have hall : ([24, 3].all fun u => !Tryd.prog.wantsStandIn u) = true := by kernel_rfl
        exact (show Tryd.prog.wantsStandIn t = false by simpa using List.all_eq_true.1 hall t hm)⟩)
    (by kernel_rfl)
#print axioms proved
end Go.Proofs.YtkpdlkikkcnhiaaDoor.snapOnly
