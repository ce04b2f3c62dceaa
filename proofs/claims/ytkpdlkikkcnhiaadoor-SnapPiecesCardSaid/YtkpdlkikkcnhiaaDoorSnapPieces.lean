/-
  The walk of moultlaw09.SnapPieces.
  Whatever the input, the call of SnapPieces returns true, and each of its arguments reads behind the call as it read before, where the listed table reads as listed; and the card that ties that to the program's text. No condition besides the row's own.
-/
import Derived.Test.YtkpdlkikkcnhiaaDoorM15
import Derived.Test.YtkpdlkikkcnhiaaDoorRows
import Derived.Test.YtkpdlkikkcnhiaaDoorCards
import Derived.Test.YtkpdlkikkcnhiaaDoorTie
import Derived.WalkKit
import Derived.SevenTiedAt
set_option linter.all false
namespace Go.Proofs.YtkpdlkikkcnhiaaDoor
open Go.RowKit Go.Mv
set_option maxRecDepth 100000

theorem pieces_take4 (z : Nat × Nat) (t : List UInt8) : (piecesS z t).take (t.take 4).length = t.take 4 := by
  rcases Nat.eq_zero_or_pos t.length with h | h
  · have : t = [] := List.eq_nil_of_length_eq_zero h
    subst this; rw [piecesS_nil]; rfl
  · rw [piecesS_cons z t h, List.take_left]
theorem pieces_drop8 (z : Nat × Nat) (t : List UInt8) : ∃ z', (piecesS z t).drop 8 = piecesS z' (t.drop 4) := by
  rcases Nat.eq_zero_or_pos t.length with h | h
  · have : t = [] := List.eq_nil_of_length_eq_zero h
    subst this
    exact ⟨z, by rw [piecesS_nil]; simp [piecesS_nil]⟩
  · refine ⟨chainP z (t.take 4), ?_⟩
    by_cases h4 : 4 ≤ t.length
    · have h8 : (t.take 4 ++ fourB (chainP z (t.take 4))).length = 8 := by rw [List.length_append, List.length_take, fourB_len]; omega
      rw [piecesS_cons z t h, ← List.append_assoc, List.drop_left' h8]
    · have hl := piecesS_len z t
      rw [List.drop_of_length_le (l := t) (by omega), piecesS_nil, List.drop_of_length_le (by omega)]
theorem pieces_dropk (t : List UInt8) (k : Nat) : ∃ z', (piecesS (0, 0) t).drop (8 * k) = piecesS z' (t.drop (4 * k)) := by
  induction k with
  | zero => exact ⟨(0, 0), rfl⟩
  | succ k ih =>
    obtain ⟨z, hz⟩ := ih
    obtain ⟨z', hz'⟩ := pieces_drop8 z (t.drop (4 * k))
    refine ⟨z', ?_⟩
    rw [show 8 * (k + 1) = 8 * k + 8 from by omega, show 4 * (k + 1) = 4 * k + 4 from by omega, ← List.drop_drop, hz, hz', List.drop_drop]

theorem Bs.len_eq {w : World} {A : Option Addr} {n m c : Nat} {r : List UInt8} (h : Bs w (.slice A n c) r) (e : m = n) : Bs w (.slice A m c) r := by rw [e]; exact h
set_option maxHeartbeats 1000000 in
theorem SPieces_any (vt vm : Value) (t m : List UInt8) (w : World) (hT : TabW w) (ht : Bs w vt t) (hm : Bs w vm m) :
    Calls Tryd.prog 6 #[vt, vm] w fun e w' => e = .returned (.bool true) ∧ Ext w w' := by
  obtain ⟨At, ct, rfl, _, _⟩ := SlR.open_ ht
  obtain ⟨Am, cm, rfl, _, _⟩ := SlR.open_ hm
  have Ht := Lib.hid ht
  have Hm := Lib.hid hm
  have HT := Lib.hid hT
  clear ht hm hT
  by_cases hg : t.length ≤ 100 ∧ m.length ≤ 100
  case neg =>
    have hg' : 100 < t.length ∨ (¬ 100 < t.length ∧ 100 < m.length) := by omega
    clear hg
    rcases hg' with h1 | ⟨h1, h2⟩
    all_goals
      go_enter Tryd.func6, Tryd.ntmps6
      go_wp2_with fail
      refine (wakes9_any _ HT.out).mono ?_
      rintro e w1 ⟨rfl, hE⟩
      go_wp2_with fail
      go_ret
      exact ⟨rfl, hE⟩
  case pos =>
    obtain ⟨g1, g2⟩ := hg
    have hlen := piecesS_len (0, 0) t
    have htk := pieces_dropk t
    have hp := Pieces_any _ t w Ht.out (by omega)
    obtain ⟨P, hP⟩ : ∃ P, piecesS (0, 0) t = P := ⟨_, rfl⟩
    rw [hP] at hlen htk hp
    have HP := Lib.hid hP
    have Htk := Lib.hid htk
    have Hp := Lib.hid hp
    clear hP htk hp
    go_enter Tryd.func6, Tryd.ntmps6
    go_wp2_with fail
    refine Hp.out.mono ?_
    rintro e w1 ⟨vp, rfl, ho1, hE1⟩
    have ho1' : OwnB w1 w.heap.size vp P := ho1
    obtain ⟨Ap, cp, rfl, _, hcp⟩ := SlR.open_ (SlR.of_own ho1')
    dsimp only
    clear ho1
    go_wp2_with fail
    have Hlen := Lib.hid hlen
    have hpl : P.length ≤ 300 := by omega
    clear hlen
    go_loopw [6, 7] (fun vb i wr => ∃ k : Nat, 4 * k ≤ t.length + 3 ∧ i = .int .i64 ((8 * k : Nat) : Int) ∧ OwnB wr w1.heap.size vb (t.take (4 * k)) ∧ Ext w1 wr) (fun _ i _ => P.length + 8 - (intOf i).toNat)
    case atStart => exact ⟨0, by omega, rfl, World.ownsRow_nil _ _ _ _, Ext.refl _⟩
    case round =>
      obtain ⟨k, hk, rfl, hob, hEr⟩ := hrel
      have hl := Hlen.out
      by_cases hlt : 4 * k < t.length
      · obtain ⟨r, hr⟩ : ∃ r, (t.drop (4 * k)).take 4 = r := ⟨_, rfl⟩
        have hrl : r.length = min 4 (t.length - 4 * k) := by rw [← hr, List.length_take, List.length_drop]
        obtain ⟨z, hz⟩ := Htk.out k
        have hrP : (P.drop (8 * k)).take r.length = r := by
          rw [hz, ← hr]
          exact pieces_take4 z (t.drop (4 * k))
        have htk1 : t.take (4 * (k + 1)) = t.take (4 * k) ++ r := by
          rw [← hr, show 4 * (k + 1) = 4 * k + 4 from by omega, List.take_add]
        have hpos : 8 * k < P.length := by omega
        obtain ⟨_, b, off, rfl, hc⟩ := Bs.at_ (SlR.of_own (own_ext ho1' hEr)) (by omega)
        have hBr : Bs wr (.slice (some ⟨b, off + 8 * k, none⟩) r.length r.length) r := by
          have h := bytes_part (SlR.of_own (own_ext ho1' hEr)) (8 * k) r.length (by omega)
          rw [hrP] at h
          exact h
        obtain ⟨n, hn⟩ : ∃ n, 8 * k = n := ⟨_, rfl⟩
        rw [hn] at hpos hBr
        have HBr : Hid (Bs wr (.slice (some ⟨b, off + n, none⟩) r.length (cp - n)) r) := SlR.capd hBr (by omega) (by omega)
        have Hob := Lib.hid hob
        have Htk1 := Lib.hid htk1
        have Hn := Lib.hid hn
        have Hhk := Lib.hid hk
        have Hhl := Lib.hid hl
        have Hlt := Lib.hid hlt
        have Hhrl := Lib.hid hrl
        obtain ⟨A6, c6, rfl, _, _⟩ := SlR.open_ (SlR.of_own hob)
        have hrr : (r.length = 4 ∧ n + 8 ≤ P.length) ∨ (r.length < 4 ∧ P.length = n + r.length + 4) := by omega
        obtain ⟨rl, hrl2⟩ : ∃ rl, r.length = rl := ⟨_, rfl⟩
        obtain ⟨Q, hQ⟩ : ∃ Q, t.take (4 * k) = Q := ⟨_, rfl⟩
        have hQl : Q.length ≤ 100 := by rw [← hQ, List.length_take]; omega
        have HQ := Lib.hid hQ
        rw [hQ] at Hob
        rw [hQ]
        have hbase : w1.heap.size ≤ wr.heap.size := hEr.size
        simp only [hn]
        clear hz hrP htk1 hBr hc hr hob hlt hk hl hrl hn hQ
        rw [hrl2] at hrr HBr
        rcases hrr with ⟨hr4, hn8⟩ | ⟨hr4, hn8⟩
        · have hmn : ¬ ((P.length : Int) - 4 < (n : Int) + 4) := by omega
          go_wp2_with (at_builtin; refine wpList_app_b rfl (.tmp 37) (.tmp 46) rfl w1.heap.size _ Q rfl Hob.out _ r rfl (Bs.len_eq HBr.out (by omega)) (by omega) hbase ?_; intro A9 c9 w9 ho9 hG9)
          have hE9 : Ext w1 w9 := hG9 w1 hEr (Nat.le_refl _)
          refine ⟨⟨k + 1, ?_, ?_, ?_, hE9⟩, ?_⟩
          · have h1 := Hlt.out; omega
          · have h1 := Hn.out
            congr 1
            omega
          · rw [Htk1.out, HQ.out]
            have h2 : Q.length + r.length = Q.length + 4 := by omega
            rw [h2] at ho9
            exact ho9
          · simp [intOf]; omega
        · have hmn : (P.length : Int) - 4 < (n : Int) + 4 := by omega
          have hmn2 : ((P.length : Int) - 4).toNat - n = rl := by omega
          go_wp2_with (at_builtin; refine wpList_app_b rfl (.tmp 37) (.tmp 46) rfl w1.heap.size _ Q rfl Hob.out _ r rfl (Bs.len_eq HBr.out (by omega)) (by omega) hbase ?_; intro A9 c9 w9 ho9 hG9)
          have hE9 : Ext w1 w9 := hG9 w1 hEr (Nat.le_refl _)
          refine ⟨⟨k + 1, ?_, ?_, ?_, hE9⟩, ?_⟩
          · have h1 := Hlt.out; omega
          · have h1 := Hn.out
            congr 1
            omega
          · rw [Htk1.out, HQ.out]
            have h2 : Q.length + r.length = Q.length + rl := by omega
            rw [h2] at ho9
            exact ho9
          · simp [intOf]; omega
      · obtain ⟨n, hn⟩ : ∃ n, 8 * k = n := ⟨_, rfl⟩
        have hge : ¬ (n < P.length) := by omega
        have htt : t.take (4 * k) = t := List.take_of_length_le (by omega)
        rw [htt] at hob
        simp only [hn]
        clear hlt hk hl htt hn
        obtain ⟨A6, c6, rfl, _, _⟩ := SlR.open_ (SlR.of_own hob)
        have hEwr := Ext.trans hE1 hEr
        have hS := same9_any _ _ _ _ wr (SlR.of_own hob) (Ht.out.ext hEwr)
        rw [decide_eq_true rfl] at hS
        have HS := Lib.hid hS
        have Hob := Lib.hid hob
        clear hS hob
        go_wp2_with fail
        refine HS.out.mono ?_
        rintro e w3 ⟨rfl, hE3⟩
        have E3 := Ext.trans hEwr hE3
        go_wp2_with (first
          | (at_builtin; refine wpList_app_b rfl (.tmp 52) (.tmp 53) rfl w3.heap.size _ [] rfl (ownB_empty w3) _ t rfl (Ht.out.ext (Ext.alloc E3 _)) (by simp; omega) (by simp) ?_; intro A5 c5 w5 ho5 hG5; have hE5 : Ext w3 w5 := hG5 w3 (Ext.alloc (Ext.refl _) _) (Nat.le_refl _); simp only [List.length_nil, Nat.zero_add, List.nil_append] at ho5 ⊢)
          | (at_builtin; refine wpList_app_b rfl (.tmp 54) (.tmp 55) rfl w3.heap.size _ t rfl ho5 _ m rfl (Hm.out.ext (Ext.trans E3 hE5)) (by omega) hE5.size ?_; intro A6 c6 w6 ho6 hG6; have hE6 : Ext w3 w6 := hG6 w3 hE5 (Nat.le_refl _)))
        have hq := Pieces_any _ (t ++ m) w6 (SlR.of_own ho6) (by rw [List.length_append]; omega)
        have F6 : Ext w1 w6 := Ext.trans hEr (Ext.trans hE3 hE6)
        have hBp := Bs.ext (SlR.of_own ho1') F6
        by_cases h4 : t.length % 4 = 0
        · have h44 : (t.length : Int) % 4 = 0 := by omega
          obtain ⟨z', hz'⟩ := pieces_app (t.length / 4) (0, 0) t m (by omega)
          rw [HP.out] at hz'
          obtain ⟨X, hX⟩ : ∃ X, piecesS z' m = X := ⟨_, rfl⟩
          rw [hz', hX] at hq
          have Hq := Lib.hid hq
          clear hq hz' hX h4 ho6 ho5 hG5 hG6
          refine Hq.out.mono ?_
          rintro e w7 ⟨v7, rfl, ho7, hE7⟩
          have ho7' : OwnB w7 w6.heap.size v7 (P ++ X) := ho7
          obtain ⟨A7, c7, rfl, _, _⟩ := SlR.open_ (SlR.of_own ho7')
          have hB7 : Bs w7 (.slice A7 P.length c7) P := by
            have h := Bs.take (SlR.of_own ho7') P.length (by rw [List.length_append]; omega)
            rw [List.take_left] at h
            exact h
          have hS := same9_any _ _ _ _ w7 hB7 (hBp.ext hE7)
          rw [decide_eq_true rfl] at hS
          have HS2 := Lib.hid hS
          have E7 : Ext w w7 := Ext.trans (Ext.trans hE1 F6) hE7
          have hL : (P ++ X).length = P.length + X.length := List.length_append
          dsimp only
          clear hS ho7 ho7'
          go_wp2_with fail
          refine HS2.out.mono ?_
          rintro e w8 ⟨rfl, hE8⟩
          have E8 := Ext.trans E7 hE8
          go_wp2_with fail
          refine (wakes9_any _ (HT.out.ext E8)).mono ?_
          rintro e w9 ⟨rfl, hE9⟩
          go_wp2_with fail
          go_ret
          exact ⟨rfl, Ext.trans E8 hE9⟩
        · have h44 : (t.length : Int) % 4 ≠ 0 := by omega
          have Hq := Lib.hid hq
          clear hq ho6 ho5 hG5 hG6
          refine Hq.out.mono ?_
          rintro e w7 ⟨v7, rfl, ho7, hE7⟩
          obtain ⟨A7, c7, rfl, _, _⟩ := SlR.open_ (SlR.of_own ho7)
          have E7 : Ext w w7 := Ext.trans (Ext.trans hE1 F6) hE7
          dsimp only
          clear ho7
          go_wp2_with fail
          refine (wakes9_any _ (HT.out.ext E7)).mono ?_
          rintro e w9 ⟨rfl, hE9⟩
          go_wp2_with fail
          go_ret
          exact ⟨rfl, Ext.trans E7 hE9⟩
end Go.Proofs.YtkpdlkikkcnhiaaDoor

namespace Go.Proofs.YtkpdlkikkcnhiaaDoor.snapPieces
open Go.ChangeShapes Go.WideShapes Go.ChangeAt Go.RowKit Go.Deep Go.Mv Go.WideElems

set_option maxRecDepth 100000 in
theorem lifted (os : Os) (started : os.Started) (H : Type) (enc : TypeId × Value → H) :
    ReturnsInHanded {} Tryd.checked os 6 .any (fun w args => (Rows.snapPiecesSpec.pre enc Tryd.prog Tryd.f6 [] false w args ∧ laidMetH Tryd.prog laidL w) ∧ sizedMet enc Tryd.prog Tryd.f6 (OpenSpec.ofChange Rows.snapPiecesSpec) false w args)
      (Rows.snapPiecesSpec.post enc Tryd.prog Tryd.f6 false true false false) := by
  refine returnsInHanded_of_change_and (C := Tryd.checked) (X := fun w _ => laidMetH Tryd.prog laidL w) (fun _ _ _ hh h => h.of_heap hh) own started (by kernel_rfl) Tryd.func6
    (ChangeSpec.witness_shaped (enc := enc) (C := Tryd.checked) (os := os) (X := fun w _ => laidMetH Tryd.prog laidL w) false (World.doorLaid Tryd.prog 400 os) #[.slice none 0 0, .slice none 0 0] 8 rfl (World.shaped_of_RefB (by kernel_rfl) (by kernel_rfl)) (by kernel_rfl) (by kernel_rfl) (by kernel_rfl) (door_met os _)) ?_
  intro W base args ds gs before hval0 hW _ _ hL _
  have hval : ∀ (j : Nat) t v, Tryd.f6.params[j]? = some t → args[j]? = some v → Value.okWide Tryd.prog W .any base t v := hval0
  have hW' := hW
  have hT := tabW_of_laid hL
  obtain ⟨p, q, hA0, hV, rfl, hfz, hnd⟩ := hW
  have hA : DataW.TrodAll enc Tryd.prog W 0 (fun _ => true) true Tryd.f6.params.toList args.toList ds p := hA0
  rw [Tryd.params6] at hA hval
  obtain ⟨v0, vs0, d0, ds0, p0, q0, hargs, rfl, rfl, h0, r0⟩ := trodAll_cons hA
  obtain ⟨v1, vs1, d1, ds1, p1, q1, rfl, rfl, rfl, h1, r1⟩ := trodAll_cons r0
  obtain ⟨rfl, rfl, rfl⟩ := trodAll_nil r1
  obtain rfl : args = #[v0, v1] := by cases args; simp_all
  obtain ⟨rfl, rfl⟩ := trodVars_none hV
  obtain ⟨l0, hl0⟩ := bs_of_trod (hval 0 24 v0 rfl rfl) h0
  obtain ⟨l1, hl1⟩ := bs_of_trod (hval 1 24 v1 rfl rfl) h1
  clear hA0 hval0
  simp only [List.append_nil, List.nil_append] at hW'
  refine (SPieces_any v0 v1 l0 l1 W hT hl0 hl1).mono fun e W' ⟨he, hE⟩ => ?_
  subst he
  exact ⟨_, rfl, post_of_below (pa := _) (pv := []) hW' (fun _ _ _ => trodAll_cons_mk (shut_bool Tryd.underlying4 _) trodAll_mk0)
    (fun sp hsp => (trodAll_cons_mk (WideElems.Trod_stays laidOut (by kernel_rfl) (of_decide_eq_true (by kernel_rfl)) h0 (fun x hx => hE.same (hW'.lt x (by simp [hx]))) (fun x hx => hsp x (by simp [hx]))) (trodAll_cons_mk (WideElems.Trod_stays laidOut (by kernel_rfl) (of_decide_eq_true (by kernel_rfl)) h1 (fun x hx => hE.same (hW'.lt x (by simp [hx]))) (fun x hx => hsp x (by simp [hx]))) trodAll_mk0))) (fun _ _ => rfl) (by simp) hE (ok_one (by kernel_rfl) rfl (okWide_bool_mk Tryd.underlying4 _))⟩

theorem over : Rows.snapPiecesRow.holds Tryd.pinned (OpenSpec.ofChange Rows.snapPiecesSpec) :=
  OpenClaim.holds_of_wide 6 Tryd.f6 rfl rfl rfl rfl rfl rfl rfl ⟨rfl, rfl, rfl, rfl, rfl⟩ rfl rfl rfl rfl rfl (by kernel_rfl) Tryd.func6 (by kernel_rfl)
    (of_decide_eq_true (by kernel_rfl)) (by unfold Func.isWrapper; first | (rw [if_pos (by decide +kernel)]; kernel_rfl) | (rw [if_neg (by decide +kernel)]; exact ⟨rfl, rfl⟩))
    (fun os started H enc _ => lifted os started H enc)

theorem proved : Rows.SnapPiecesCardSaid :=
  Claim7.holds_tied_plain_at .later [] [.data] true Rows.snapPiecesCard.stood.harness false
    over (fun _ h => by cases h) (by kernel_rfl) (fun _ h => by cases h) snapPieces_row_tie rfl ⟨rfl, rfl⟩ (by kernel_rfl) rfl
    (fun f fn hf hfn => by
      obtain rfl : f = 6 := Option.some.inj ((show Tryd.prog.funcNamed "moult/moultlaw09.SnapPieces" = some 6 by kernel_rfl).symm.trans hf) |>.symm
      obtain rfl : fn = Tryd.f6 := (Option.some.inj (Tryd.func6.symm.trans hfn)).symm
      exact ⟨by kernel_rfl, fun j t ht => by
        rw [Tryd.params6] at ht
        have hm : t ∈ [24, 24] := by simpa using Array.mem_of_getElem? ht
        have hall : ([24, 24].all fun u => !Tryd.prog.wantsStandIn u) = true := by kernel_rfl
        exact (show Tryd.prog.wantsStandIn t = false by simpa using List.all_eq_true.1 hall t hm)⟩)
    (by kernel_rfl)
#print axioms proved
end Go.Proofs.YtkpdlkikkcnhiaaDoor.snapPieces
