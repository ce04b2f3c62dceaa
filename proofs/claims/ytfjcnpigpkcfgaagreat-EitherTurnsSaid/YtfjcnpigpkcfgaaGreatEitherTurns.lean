/-
  The walk of moultlaw10.EitherTurns.
  Whatever the input, the call of EitherTurns returns true, and each of its arguments reads behind the call as it read before. No condition besides the row's own.
-/
import Derived.Test.YtfjcnpigpkcfgaaGreatM18
import Derived.Test.YtfjcnpigpkcfgaaGreatRows
import Derived.HandedShaped
import Derived.WalkKit
set_option linter.all false
namespace Go.Proofs.YtfjcnpigpkcfgaaGreat
open Go.RowKit Go.Mv
set_option maxRecDepth 100000
variable {T : Tab}

theorem turns_plain (T : Tab) {m t : Int} (hm : m = 1 ∨ m = 2) (ht : t = 1 ∨ t = 2) {f : Nat} (h1 : 1 ≤ f) (h2 : f ≤ 1073741824) {l : List Ent} (hl : allOk l = true) (h30 : l.length ≤ 30) :
    ∃ (b c : List UInt8) (q : Nat × Nat), fileE T m f l = (0, b) ∧ b.length ≤ 606 ∧ c.length ≤ 606 ∧ turnE T b m t = (0, c) ∧ turnE T c t m = (0, b) ∧ scanE T c t = ⟨0, f, l, c.length, q⟩ ∧ scanE T b (3 - m) = ⟨11, 0, [], 0, (0, 0)⟩ ∧ whichE T c = t ∧
      alikeE T b m c t = true ∧ (m = t → b = c) ∧ (wholeE T b m).log.length ≤ 30 ∧ (wholeE T c t).log.length ≤ 30 := by
  obtain ⟨b, hb, sb, lb, _⟩ := sg_file (T := T) hm h1 h2 hl
  obtain ⟨c, hc, sc, lc, _⟩ := sg_file (T := T) ht h1 h2 hl
  obtain ⟨q, hq⟩ := sg_scan sc
  refine ⟨b, c, q, hb, by omega, by omega, by rw [sg_turn sb ht]; exact hc, by rw [sg_turn sc hm]; exact hb, hq, sg_other sb, sg_which sc, sg_alike sb sc, ?_, log_len sb 30 h30, log_len sc 30 h30⟩
  rintro rfl
  rw [hb] at hc
  injection hc

set_option maxHeartbeats 2000000 in
theorem Turns_any (first : Int) (vl : Value) (m t : Int) (l : List Ent) (w : World) (hT : TabW T w) (hl : Es w vl l) :
    Calls Tryz.prog 4 #[.int .i64 first, vl, .int .i64 m, .int .i64 t] w fun e w' => e = .returned (.bool true) ∧ Ext w w' := by
  obtain ⟨Al, cl, rfl, _, _⟩ := SlR.open_ hl
  have HL := Lib.hid hl
  have HT := Lib.hid hT
  clear hl hT
  by_cases hg : 1 ≤ first ∧ first ≤ 1073741824 ∧ l.length ≤ 30 ∧ 1 ≤ m ∧ m ≤ 2 ∧ 1 ≤ t ∧ t ≤ 2
  case neg =>
    go_enter Tryz.func4, Tryz.ntmps4
    go_wp2_with (go_at_call 7; refine (wakes10_any _ HT.out).mono ?_; rintro e w1 ⟨rfl, hE⟩)
    all_goals first | (go_ret; exact ⟨rfl, hE⟩) | (exfalso; apply hg; clear hg; simp at *; omega)
  case pos =>
    obtain ⟨g1, g2, g3, g4, g5, g6, g7⟩ := hg
    obtain ⟨f, rfl⟩ : ∃ f : Nat, first = f := ⟨first.toNat, by omega⟩
    go_enter Tryz.func4, Tryz.ntmps4
    go_wp2_with fail
    go_loopw [9] (fun i wr => ∃ k : Nat, k ≤ l.length ∧ i = .int .i64 k ∧ Hid (allOk (l.take k) = true) ∧ Ext w wr) (fun i _ => l.length - (intOf i).toNat)
    case atStart => exact ⟨0, Nat.zero_le _, rfl, rfl, Ext.refl _⟩
    case round =>
      obtain ⟨k, hk, rfl, Hb, hB⟩ := hrel
      by_cases hlt : k < l.length
      · obtain ⟨_, b, off, rfl, hc⟩ := Es.at_ (HL.out.ext hB) (by omega)
        obtain ⟨hc0, hc1, hc2⟩ := hc k hlt
        clear hc
        go_wp2_with (first
          | (go_at_call 22; refine (refRight_any _ _ _ _).mono ?_; rintro e w' ⟨rfl, hb⟩)
          | (go_at_call 7; refine (wakes10_any _ (HT.out.ext (Ext.trans hB hb))).mono ?_; rintro e w'' ⟨rfl, hE⟩))
        · go_ret
          exact ⟨rfl, Ext.trans hB (Ext.trans hb hE)⟩
        · go_roundw
          case rel =>
            have hok : l[k].ok = true := by simpa [Ent.ok] using (by assumption : (!okB l[k].t l[k].k l[k].v) = false)
            exact ⟨k + 1, by omega, by go_num, (allOk_take hlt Hb.out).trans hok, Ext.trans hB hb⟩
          case measure => simp [intOf]; omega
      · have hok : allOk l = true := by
          have := Hb.out
          rwa [List.take_of_length_le (by omega)] at this
        obtain ⟨b, c, q, p1, lb, lc, p2, p3, p4, p5, p6, p7, p8, b1, b2⟩ := turns_plain T (m := m) (t := t) (f := f) (by omega) (by omega) (by omega) (by omega) hok g3
        have P1 := Lib.hid p1
        have P2 := Lib.hid p2
        have P3 := Lib.hid p3
        have P4 := Lib.hid p4
        have P5 := Lib.hid p5
        have P6 := Lib.hid p6
        have P7 := Lib.hid p7
        have P8 := Lib.hid p8
        have B1 := Lib.hid b1
        have B2 := Lib.hid b2
        clear p1 p2 p3 p4 p5 p6 p7 p8 b1 b2 hok Hb
        go_wp2_with fail
        refine (File_to P1.out _ wr (HT.out.ext hB) (HL.out.ext hB) (by omega)).mono ?_
        rintro e w1 ⟨A1, c1, rfl, ho1, hE1⟩
        have E1 := Ext.trans hB hE1
        go_wp2_with fail
        refine (Turn_to P2.out _ _ (HT.out.ext E1) ho1.bs (by omega) (by have := B1.out; omega)).mono ?_
        rintro e w2 ⟨A2, c2, rfl, ho2, hE2⟩
        have E2 := Ext.trans E1 hE2
        go_wp2_with fail
        refine (Turn_to P3.out _ _ (HT.out.ext E2) ho2.bs (by omega) (by have := B2.out; omega)).mono ?_
        rintro e w3 ⟨A3, c3, rfl, ho3, hE3⟩
        have E3 := Ext.trans E2 hE3
        go_wp2_with fail
        refine (Scan_to P4.out _ _ (HT.out.ext E3) (ho2.ext hE3).bs (by omega)).mono ?_
        rintro e w4 ⟨A4, c4, rfl, ho4, hE4⟩
        have E4 := Ext.trans E3 hE4
        have hb4 := Blk.new w4 29 #[.int .i64 (f : Int), .slice A4 l.length c4, .int .i64 (c.length : Int)]
        have X4 : Ext w4 (w4.alloc (.cells #[.int .i64 (f : Int), .slice A4 l.length c4, .int .i64 (c.length : Int)] 29)) := Ext.alloc (Ext.refl _) _
        go_wp2_with fail
        refine (Scan_to P5.out _ _ (HT.out.ext (Ext.trans E4 X4)) (ho1.ext (Ext.trans hE2 (Ext.trans hE3 (Ext.trans hE4 X4)))).bs (by omega)).mono ?_
        rintro e w5 ⟨A5, c5, rfl, ho5, hE5⟩
        have X5 : Ext w4 w5 := Ext.trans X4 hE5
        have X6 : Ext w5 (w5.alloc (.cells #[.int .i64 ((0 : Nat) : Int), .slice A5 ([] : List Ent).length c5, .int .i64 ((0 : Nat) : Int)] 29)) := Ext.alloc (Ext.refl _) _
        have hb6 := (hb4.ext hE5).ext X6
        have E6 := Ext.trans E4 (Ext.trans X5 X6)
        have HB6 : Hid (∀ W, Ext (w5.alloc (.cells #[.int .i64 ((0 : Nat) : Int), .slice A5 ([] : List Ent).length c5, .int .i64 ((0 : Nat) : Int)] 29)) W → Bs W (.slice A1 b.length c1) b ∧ Bs W (.slice A2 c.length c2) c ∧ Bs W (.slice A3 b.length c3) b ∧ Es W (.slice A4 l.length c4) l ∧ TabW T W ∧ Ext w W) := fun W hE =>
          ⟨(ho1.ext (Ext.trans hE2 (Ext.trans hE3 (Ext.trans hE4 (Ext.trans X5 (Ext.trans X6 hE)))))).bs, (ho2.ext (Ext.trans hE3 (Ext.trans hE4 (Ext.trans X5 (Ext.trans X6 hE))))).bs, (ho3.ext (Ext.trans hE4 (Ext.trans X5 (Ext.trans X6 hE)))).bs, (ho4.ext (Ext.trans X5 (Ext.trans X6 hE))).es, HT.out.ext (Ext.trans E6 hE), Ext.trans E6 hE⟩
        simp only [List.length_nil] at HB6 hb6 ⊢
        clear ho1 ho2 ho3 ho4 ho5 hE1 hE2 hE3 hE4 hE5 E1 E2 E3 E4 X4 X5 X6 E6 hb4 P1 P2 P3 P4 P5 B1 B2 HT hB
        have hmt : (m = t ∧ b = c) ∨ m ≠ t := by
          by_cases h : m = t
          · exact .inl ⟨h, P8.out h⟩
          · exact .inr h
        clear P8
        generalize w4.heap.size = n4 at *
        obtain ⟨q1, q2, q3, q4, q5, q6⟩ := HB6.out _ (Ext.refl _)
        have hS := same10_any _ _ _ _ _ q1 q3
        rw [decide_eq_true rfl] at hS
        have HS := Lib.hid hS
        clear hS q1 q2 q3 q4 q5 q6
        go_wp2_with fail
        refine HS.out.mono ?_
        rintro e w7 ⟨rfl, hE7⟩
        obtain ⟨t0, t1, t2, _, _, _⟩ := blk3 (hb6.ext hE7)
        clear HS hb6
        have hS := Same_any _ _ _ _ _ (HB6.out _ hE7).2.2.2.1 (HL.out.ext (HB6.out _ hE7).2.2.2.2.2)
        rw [decide_eq_true rfl] at hS
        have HS := Lib.hid hS
        clear hS
        go_wp2_with fail
        refine HS.out.mono ?_
        rintro e w8 ⟨rfl, hE8⟩
        have X8 := Ext.trans hE7 hE8
        clear hE7 hE8 HS t0 t1 t2
        go_wp2_with fail
        refine (Which_to P6.out _ _ (HB6.out _ X8).2.2.2.2.1 (HB6.out _ X8).2.1 (by omega)).mono ?_
        rintro e w9 ⟨rfl, hE9⟩
        have X9 := Ext.trans X8 hE9
        clear X8 hE9
        go_wp2_with fail
        refine (Alike_to P7.out _ _ _ (HB6.out _ X9).2.2.2.2.1 (HB6.out _ X9).1 (HB6.out _ X9).2.1 (by omega) (by omega)).mono ?_
        rintro e w10 ⟨rfl, hE10⟩
        have X10 := Ext.trans X9 hE10
        clear X9 hE10
        rcases hmt with ⟨rfl, rfl⟩ | hmt
        · have hS := same10_any _ _ _ _ _ (HB6.out _ X10).1 (HB6.out _ X10).2.1
          rw [decide_eq_true rfl] at hS
          have HS := Lib.hid hS
          clear hS
          go_wp2_with fail
          refine HS.out.mono ?_
          rintro e w11 ⟨rfl, hE11⟩
          have X11 := Ext.trans X10 hE11
          go_wp2_with fail
          refine (wakes10_any _ (HB6.out _ X11).2.2.2.2.1).mono ?_
          rintro e w12 ⟨rfl, hE12⟩
          go_wp2_with fail
          go_ret
          exact ⟨rfl, Ext.trans (HB6.out _ X11).2.2.2.2.2 hE12⟩
        · go_wp2_with fail
          refine (wakes10_any _ (HB6.out _ X10).2.2.2.2.1).mono ?_
          rintro e w12 ⟨rfl, hE12⟩
          go_wp2_with fail
          go_ret
          exact ⟨rfl, Ext.trans (HB6.out _ X10).2.2.2.2.2 hE12⟩
end Go.Proofs.YtfjcnpigpkcfgaaGreat

namespace Go.Proofs.YtfjcnpigpkcfgaaGreat.eitherTurns
open Go.ChangeShapes Go.WideShapes Go.ChangeAt Go.RowKit Go.Deep Go.Mv

set_option maxRecDepth 100000 in
theorem lifted (os : Os) (started : os.Started) (H : Type) (enc : TypeId × Value → H) :
    ReturnsInHanded {} Tryz.checked os 4 .any (Rows.eitherTurnsSpec.pre6 enc Tryz.prog Tryz.f4 Rows.eitherTurnsRow.domain false) (Rows.eitherTurnsSpec.post enc Tryz.prog Tryz.f4 false true false false) := by
  refine returnsInHanded_of_change_shaped (C := Tryz.checked) own started (by kernel_rfl) Tryz.func4
    (ChangeSpec.witness6 (enc := enc) (C := Tryz.checked) false ⟨#[], #[.int .i64 0, .slice none 0 0, .int .i64 0, .int .i64 0], []⟩ 8 (by kernel_rfl) (by kernel_rfl) (by kernel_rfl) (by kernel_rfl)) ?_
  intro W base args ds gs before hval0 hW hcnd _ hsh _
  obtain ⟨tb, hT⟩ := tab_of_shape hsh
  have hval : ∀ (j : Nat) t v, Tryz.f4.params[j]? = some t → args[j]? = some v → Value.okWide Tryz.prog W .any base t v := hval0
  have hW' := hW
  obtain ⟨p, q, hA0, hV, rfl, hfz, hnd⟩ := hW
  have hA : DataW.TrodAll enc Tryz.prog W 0 (fun _ => true) true Tryz.f4.params.toList args.toList ds p := hA0
  rw [Tryz.params4] at hA hval
  obtain ⟨v0, vs0, d0, ds0, p0, q0, hargs, rfl, rfl, h0, r0⟩ := trodAll_cons hA
  obtain ⟨v1, vs1, d1, ds1, p1, q1, rfl, rfl, rfl, h1, r1⟩ := trodAll_cons r0
  obtain ⟨v2, vs2, d2, ds2, p2, q2, rfl, rfl, rfl, h2, r2⟩ := trodAll_cons r1
  obtain ⟨v3, vs3, d3, ds3, p3, q3, rfl, rfl, rfl, h3, r3⟩ := trodAll_cons r2
  obtain ⟨rfl, rfl, rfl⟩ := trodAll_nil r3
  obtain rfl : args = #[v0, v1, v2, v3] := by cases args; simp_all
  obtain ⟨rfl, rfl⟩ := trodVars_none hV
  obtain ⟨a0, rfl, rfl, rfl, w0⟩ := open_int Tryz.underlying3 (hval 0 3 v0 rfl rfl) h0
  obtain ⟨l1, hl1⟩ := es_of_trod (hval 1 22 v1 rfl rfl) h1
  obtain ⟨a2, rfl, rfl, rfl, w2⟩ := open_int Tryz.underlying3 (hval 2 3 v2 rfl rfl) h2
  obtain ⟨a3, rfl, rfl, rfl, w3⟩ := open_int Tryz.underlying3 (hval 3 3 v3 rfl rfl) h3
  clear hA0 hval0
  simp only [List.append_nil, List.nil_append] at hW'
  refine (Turns_any a0 v1 a2 a3 l1 W hT hl1).mono fun e W' ⟨he, hE⟩ => ?_
  subst he
  exact ⟨_, rfl, post_of_below (pa := _) (pv := []) hW' (fun _ _ _ => trodAll_cons_mk (shut_bool Tryz.underlying4 _) trodAll_mk0)
    (fun sp hsp => (trodAll_cons_mk (shut_int Tryz.underlying3 w0) (trodAll_cons_mk (WideElems.Trod_stays laidOut (by kernel_rfl) (of_decide_eq_true (by kernel_rfl)) h1 (fun x hx => hE.same (hW'.lt x (by simp [hx]))) (fun x hx => hsp x (by simp [hx]))) (trodAll_cons_mk (shut_int Tryz.underlying3 w2) (trodAll_cons_mk (shut_int Tryz.underlying3 w3) trodAll_mk0))))) (fun _ _ => rfl) (by simp) hE (ok_one (by kernel_rfl) rfl (okWide_bool_mk Tryz.underlying4 _))⟩

theorem over : Rows.eitherTurnsRow.holds Tryz.pinned (OpenSpec.ofChange Rows.eitherTurnsSpec) :=
  OpenClaim.holds_of_wide 4 Tryz.f4 rfl rfl rfl rfl rfl rfl rfl ⟨rfl, rfl, rfl, rfl, rfl⟩ rfl rfl rfl rfl rfl (by kernel_rfl) Tryz.func4 (by kernel_rfl)
    (of_decide_eq_true (by kernel_rfl)) (by unfold Func.isWrapper; first | (rw [if_pos (by decide +kernel)]; kernel_rfl) | (rw [if_neg (by decide +kernel)]; exact ⟨rfl, rfl⟩))
    (fun os started H enc _ => lifted os started H enc)

theorem proved : Rows.EitherTurnsSaid := over
#print axioms proved
end Go.Proofs.YtfjcnpigpkcfgaaGreat.eitherTurns
