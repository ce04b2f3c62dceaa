/-
  The walk of moultlaw10.EitherMore.
  A slice of slices of entries as it came in.
  Whatever the input, the call of EitherMore returns true, and each of its arguments reads behind the call as it read before. No condition besides the row's own.
-/
import Derived.Test.YtfjcnpigpkcfgaaGreatM18
import Derived.Test.YtfjcnpigpkcfgaaGreatRows
import Derived.HandedShaped
import Derived.WalkKit
set_option linter.all false
namespace Go.Proofs.YtfjcnpigpkcfgaaGreat
open Go.RowKit Go.Mv
set_option maxRecDepth 100000
variable {T : Tab}

/-- A slice of slices of entries. -/
def Ps (W : World) (v : Value) (ps : List (List Ent)) : Prop := ∃ vs : List Value, SlR W 1 v ps.length vs ∧ ∀ (i : Nat) (hi : i < ps.length), ∃ u, vs[i]? = some u ∧ Es W u ps[i]
theorem Ps.ext {w w' : World} {v : Value} {ps : List (List Ent)} (h : Ps w v ps) (hE : Ext w w') : Ps w' v ps := by
  obtain ⟨vs, h1, h2⟩ := h
  refine ⟨vs, h1.ext hE, fun i hi => ?_⟩
  obtain ⟨u, h3, h4⟩ := h2 i hi
  exact ⟨u, h3, h4.ext hE⟩
theorem Ps.at_ {W : World} {A : Option Addr} {n c : Nat} {ps : List (List Ent)} (h : Ps W (.slice A n c) ps) {i : Nat} (hi : i < ps.length) : ∃ b off, A = some ⟨b, off, none⟩ ∧ ∃ B d, W.cell? ⟨b, off + i, none⟩ = some (.slice B ps[i].length d) ∧ Es W (.slice B ps[i].length d) ps[i] := by
  obtain ⟨vs, h1, h2⟩ := h
  obtain ⟨u, h3, h4⟩ := h2 i hi
  obtain ⟨_, b, off, rfl, hc⟩ := SlR.at_ h1 (by omega)
  obtain ⟨B, d, rfl, _, _⟩ := SlR.open_ h4
  exact ⟨b, off, rfl, B, d, hc i _ h3, h4⟩

theorem wpList_app_g {ops : Array Oper} {rest : List Oper} {o : Oper} {a : Act} {w : World} {Q : Exit → Act → World → Prop} (hgd : o.guard = none) (s x : Operand)
    (ho : o.op = .call { callee := .builtin .append, args := #[s, x], argTypes := #[22, 22] })
    (base : Nat) (v : Value) (bs : List Ent) (hs : a.eval s = v) (hown : OwnE w base v bs) (vx : Value) (cs : List Ent) (hx : a.eval x = vx) (hr : Es w vx cs)
    (hlen : bs.length + cs.length ≤ 1000000) (hbase : base ≤ w.heap.size)
    (h : ∀ A c w', OwnE w' base (.slice A (bs.length + cs.length) c) (bs ++ cs) → Grows base w w' → w.grownBy w' v.ownBlock → wpList Tryz.prog ops Q rest (a.put o.dst (.slice A (bs.length + cs.length) c)) w') : wpList Tryz.prog ops Q (o :: rest) a w := by
  obtain ⟨i0, hi, hz0, hz1, hz2⟩ := info_parts info_ent
  refine wpList_append_sl _ hgd s x 22 ho base 41 i0 _ 3 24 Tryz.underlying22 hi hz0 hz1 hz2 rfl (by decide) v bs.length (entCells bs) hs hown vx cs.length (entCells cs) hx hr (one_ents _) (by unfold maxLen; omega) (by omega) hbase ?_
  intro v' w' h1 h2
  obtain ⟨A, c, rfl, _, _⟩ := SlR.open_ (SlR.of_own h1)
  refine h A c w' ?_ (fun W0 hE hb => Ext.grownOwn hE (own_base hown hb) h2) h2
  unfold OwnE
  rw [List.length_append, show entCells (bs ++ cs) = entCells bs ++ entCells cs from by simp [entCells]]
  exact h1

set_option maxHeartbeats 4000000 in
theorem MoreLaw_any (first : Int) (vp : Value) (m : Int) (ps : List (List Ent)) (w : World) (hT : TabW T w) (hp : Ps w vp ps) (hvp : ∃ A c, vp = .slice A ps.length c ∧ ps.length ≤ c ∧ c ≤ 9223372036854775807) :
    Calls Tryz.prog 5 #[.int .i64 first, vp, .int .i64 m] w fun e w' => e = .returned (.bool true) ∧ Ext w w' := by
  obtain ⟨Ap, cp, rfl, hcp1, hcp2⟩ := hvp
  have HP := Lib.hid hp
  have HT := Lib.hid hT
  clear hp hT
  by_cases hg : 1 ≤ first ∧ first ≤ 1073741824 ∧ ps.length ≤ 6 ∧ 1 ≤ m ∧ m ≤ 2
  case neg =>
    go_enter Tryz.func5, Tryz.ntmps5
    go_wp2_with (go_at_call 7; refine (wakes10_any _ HT.out).mono ?_; rintro e w1 ⟨rfl, hE⟩)
    all_goals first | (go_ret; exact ⟨rfl, hE⟩) | (exfalso; apply hg; clear hg; simp at *; omega)
  case pos =>
    obtain ⟨g1, g2, g3, g4, g5⟩ := hg
    obtain ⟨f, rfl⟩ : ∃ f : Nat, first = f := ⟨first.toNat, by omega⟩
    obtain ⟨b0, p1, sb, lb, _⟩ := sg_file (T := T) (show m = 1 ∨ m = 2 by omega) (f := f) (by omega) (by omega) (l := []) rfl
    have P1 := Lib.hid p1
    have SB := Lib.hid sb
    clear p1 sb
    go_enter Tryz.func5, Tryz.ntmps5
    go_wp2_with fail
    refine (File_to P1.out _ _ HT.out (SlR.nil _ 3) (by simp)).mono ?_
    rintro e w1 ⟨A1, c1, rfl, ho1, hE1⟩
    go_wp2_with fail
    go_loopw [7, 9, 10] (fun vb va i wr => ∃ (k : Nat) (b : List UInt8), k ≤ ps.length ∧ i = .int .i64 k ∧ Hid (Sg T m b f (ps.take k).flatten) ∧ b.length ≤ 6 + 100 * k ∧ (ps.take k).flatten.length ≤ 5 * k ∧ Bs wr vb b ∧ OwnE wr w.heap.size va (ps.take k).flatten ∧ Ext w wr) (fun _ _ i _ => ps.length - (intOf i).toNat)
    case atStart => exact ⟨0, b0, Nat.zero_le _, rfl, SB.out, by simpa using lb, by simp, ho1.bs, World.ownsRow_nil _ _ _ _, hE1⟩
    case round =>
      obtain ⟨k, b, hk, rfl, Hsg, hbl, hall, hB, hO, hE⟩ := hrel
      obtain ⟨al, hal⟩ : ∃ al, (ps.take k).flatten = al := ⟨_, rfl⟩
      rw [hal] at Hsg hall hO
      have HAL := Lib.hid hal
      clear hal
      by_cases hlt : k < ps.length
      · obtain ⟨bp, op_, rfl, Bk, dk, hck, hek⟩ := (HP.out.ext hE).at_ hlt
        obtain ⟨x, hx⟩ : ∃ x, ps[k] = x := ⟨_, rfl⟩
        rw [hx] at hck hek
        have HX := Lib.hid hx
        have HEK := Lib.hid hek
        clear hx hek
        go_wp2_with fail
        go_loopw [11] (fun i wr2 => ∃ j : Nat, j ≤ x.length ∧ j ≤ 6 ∧ i = .int .i64 j ∧ Hid (allOk (x.take j) = true) ∧ Ext wr wr2) (fun i _ => 6 - (intOf i).toNat)
        case atStart => exact ⟨0, Nat.zero_le _, by omega, rfl, rfl, Ext.refl _⟩
        case round =>
          obtain ⟨j, hj1, hj2, rfl, Hb, hB2⟩ := hrel
          have hck2 := hB2.cell hck
          by_cases hjl : j < x.length ∧ j ≤ 5
          · obtain ⟨hja, hjb⟩ := hjl
            obtain ⟨_, be, oe, rfl, hc⟩ := Es.at_ (HEK.out.ext hB2) (by omega)
            obtain ⟨hc0, hc1, hc2⟩ := hc j hja
            clear hc
            go_wp2_with (first
              | (go_at_call 22; refine (refRight_any _ _ _ _).mono ?_; rintro e w' ⟨rfl, hb⟩)
              | (go_at_call 7; refine (wakes10_any _ (HT.out.ext (Ext.trans hE (Ext.trans hB2 hb)))).mono ?_; rintro e w'' ⟨rfl, hE9⟩))
            · go_ret
              exact ⟨rfl, Ext.trans hE (Ext.trans hB2 (Ext.trans hb hE9))⟩
            · go_roundw
              case rel =>
                have hok : x[j].ok = true := by simpa [Ent.ok] using (by assumption : (!okB x[j].t x[j].k x[j].v) = false)
                exact ⟨j + 1, by omega, by omega, by go_num, (allOk_take hja Hb.out).trans hok, Ext.trans hB2 hb⟩
              case measure => simp [intOf]; omega
          · by_cases h5 : 5 < x.length
            · go_wp2_with (go_at_call 7; refine (wakes10_any _ (HT.out.ext (Ext.trans hE hB2))).mono ?_; rintro e w'' ⟨rfl, hE9⟩)
              all_goals (go_ret; exact ⟨rfl, Ext.trans hE (Ext.trans hB2 hE9)⟩)
            · have hok : allOk x = true := by
                have := Hb.out
                rwa [List.take_of_length_le (by omega)] at this
              obtain ⟨M, hM, sM, lM⟩ := sg_more Hsg.out hok
              have HM := Lib.hid hM
              have SM := Lib.hid sM
              have hfl : (ps.take (k + 1)).flatten = al ++ x := by
                rw [List.take_succ_eq_append_getElem hlt, List.flatten_append, HX.out, HAL.out]
                simp
              have HFL := Lib.hid hfl
              obtain ⟨Ab, cb, rfl, _, _⟩ := SlR.open_ hB
              have hlk : al.length ≤ 30 := by omega
              clear hM sM hok hfl Hb
              go_wp2_with fail
              refine (More_to HM.out _ _ _ (HT.out.ext (Ext.trans hE hB2)) (hB.ext hB2) (by omega) (HEK.out.ext hB2) (by omega)).mono ?_
              rintro e w5 ⟨A5, c5, rfl, ho5, hE5⟩
              have X5 := Ext.trans hB2 hE5
              have hck5 := X5.cell hck
              go_wp2_with (first
                | (at_builtin; refine wpList_app_b rfl (.tmp 94) (.tmp 95) rfl w5.heap.size _ [] rfl (ownB_empty w5) _ b rfl (hB.ext (Ext.trans X5 (Ext.alloc (Ext.refl _) _))) (by simp; omega) (by simp) ?_; intro A6 c6 w6 ho6 hG6; have hE6 : Ext w5 w6 := hG6 w5 (Ext.alloc (Ext.refl _) _) (Nat.le_refl _); simp only [List.length_nil, Nat.zero_add, List.nil_append] at ho6 ⊢)
                | (at_builtin; refine wpList_app_b rfl (.tmp 96) (.tmp 97) rfl w5.heap.size _ b rfl ho6 _ M rfl (ho5.ext hE6).bs (by omega) hE6.size ?_; intro A7 c7 w7 ho7 hG7; have hE7 : Ext w5 w7 := hG7 w5 hE6 (Nat.le_refl _); have hck7 := hE7.cell hck5)
                | (at_builtin; refine wpList_app_g rfl (.tmp 99) (.tmp 103) rfl w.heap.size _ _ rfl (hO.ext (Ext.trans X5 hE7)) _ x rfl (HEK.out.ext (Ext.trans X5 hE7)) (by omega) (Ext.trans hE (Ext.trans X5 hE7)).size ?_; intro A8 c8 w8 ho8 hG8 hgr8; have hE8 : Ext w w8 := hG8 w (Ext.trans hE (Ext.trans X5 hE7)) (Nat.le_refl _)))
              go_roundw
              case rel =>
                have ho7' : OwnB w8 w5.heap.size (.slice A7 (b.length + M.length) c7) (b ++ M) := by
                  have h7 := ho7
                  unfold OwnB at h7 ⊢
                  cases hk7 : (Value.slice A7 (b.length + M.length) c7).ownBlock with
                  | none => exact h7.kept hgr8 (.inl hk7)
                  | some k7 =>
                    refine h7.kept hgr8 (.inr fun e => ?_)
                    rw [hk7] at e
                    have a1 := (h7.lt _ hk7).1
                    have a2 := ((hO.ext X5).lt _ e.symm).2
                    omega
                refine ⟨k + 1, b ++ M, by omega, by go_num, ?_, by rw [List.length_append]; omega, ?_, ho7'.bs, ?_, hE8⟩
                · rw [HFL.out]; exact SM.out
                · rw [HFL.out, List.length_append]; omega
                · rw [HFL.out]; exact ho8
              case measure => simp [intOf]; omega
      · obtain ⟨q, hq⟩ := sg_scan Hsg.out
        obtain ⟨D, hD, sD, lD, _⟩ := sg_file (T := T) (show 3 - m = 1 ∨ 3 - m = 2 by omega) (f := f) (by omega) (by omega) Hsg.out.2.2.1
        have hal30 : al.length ≤ 30 := by omega
        have Q1 := Lib.hid hq
        have Q2 := Lib.hid (show turnE T b m (3 - m) = (0, D) by rw [sg_turn Hsg.out (by omega)]; exact hD)
        have Q3 := Lib.hid hD
        have QL := Lib.hid (log_len Hsg.out 30 hal30)
        obtain ⟨Ab, cb, rfl, _, _⟩ := SlR.open_ hB
        obtain ⟨Aa, ca, rfl, _, _⟩ := SlR.open_ hO.es
        clear hq hD sD Hsg HAL
        go_wp2_with fail
        refine (Scan_to Q1.out _ _ (HT.out.ext hE) hB (by omega)).mono ?_
        rintro e w2 ⟨A2, c2, rfl, ho2, hE2⟩
        have hb2 := Blk.new w2 29 #[.int .i64 (f : Int), .slice A2 al.length c2, .int .i64 (b.length : Int)]
        have Y2 : Ext w2 (w2.alloc (.cells #[.int .i64 (f : Int), .slice A2 al.length c2, .int .i64 (b.length : Int)] 29)) := Ext.alloc (Ext.refl _) _
        have X2 := Ext.trans hE2 Y2
        go_wp2_with fail
        refine (Turn_to Q2.out _ _ (HT.out.ext (Ext.trans hE X2)) (hB.ext X2) (by omega) (by have := QL.out; omega)).mono ?_
        rintro e w3 ⟨A3, c3, rfl, ho3, hE3⟩
        have X3 := Ext.trans X2 hE3
        go_wp2_with fail
        refine (File_to Q3.out _ _ (HT.out.ext (Ext.trans hE X3)) (hO.ext X3).es (by omega)).mono ?_
        rintro e w4 ⟨A4, c4, rfl, ho4, hE4⟩
        have X4 := Ext.trans X3 hE4
        have hb4 := hb2.ext (Ext.trans hE3 hE4)
        obtain ⟨t0, t1, t2, _, _, _⟩ := blk3 hb4
        have hS := Same_any _ _ _ _ _ (ho2.ext (Ext.trans Y2 (Ext.trans hE3 hE4))).es (hO.ext X4).es
        rw [decide_eq_true rfl] at hS
        have HS := Lib.hid hS
        clear hS hb2 hb4
        generalize w2.heap.size = n2 at *
        go_wp2_with fail
        refine HS.out.mono ?_
        rintro e w5 ⟨rfl, hE5⟩
        have X5 : Ext wr w5 := Ext.trans X4 hE5
        have hS := same10_any _ _ _ _ _ (ho3.ext (Ext.trans hE4 hE5)).bs (ho4.ext hE5).bs
        rw [decide_eq_true rfl] at hS
        have HS2 := Lib.hid hS
        clear hS t0 t1 t2
        go_wp2_with fail
        refine HS2.out.mono ?_
        rintro e w6 ⟨rfl, hE6⟩
        have X6 := Ext.trans hE (Ext.trans X5 hE6)
        go_wp2_with fail
        refine (wakes10_any _ (HT.out.ext X6)).mono ?_
        rintro e w7 ⟨rfl, hE7⟩
        go_wp2_with fail
        go_ret
        exact ⟨rfl, Ext.trans X6 hE7⟩
end Go.Proofs.YtfjcnpigpkcfgaaGreat

namespace Go.Proofs.YtfjcnpigpkcfgaaGreat
open Go.ChangeShapes Go.WideShapes Go.ChangeAt Go.RowKit Go.Deep Go.Mv
set_option maxRecDepth 100000
section
variable {H : Type} {enc : TypeId × Value → H} {W : World} {base : Nat} {v : Value} {d : DataW H} {p : List MemPlace}
theorem es_of_cells {fuel n0 : Nat} {fp : Nat → Bool} {bb : Bool} {ks : List Value} (hf' : DataW.trod enc Tryz.prog W n0 fp bb fuel 22 ks = some (d, p)) : ∃ u es, ks = [u] ∧ Es W u es := by
  rcases open_slice Tryz.underlying22 hf' with ⟨hcs, _⟩ | ⟨a, len, cap, m, n, D, Pl, hcs, hb, hl, hm, hmm, hx, hi⟩
  · exact ⟨_, [], hcs, SlR.nil _ 3⟩
  · subst hcs
    have hmc : len ≤ m := by rw [hmm]; split <;> omega
    have each : ∀ i, i < len → ∃ e : Ent, W.cell? (a.add (i * 3)) = some (.int .i64 e.t) ∧ W.cell? (a.add (i * 3 + 1)) = some (.int .i64 e.k) ∧ W.cell? (a.add (i * 3 + 2)) = some (.int .i64 e.v) := by
      intro i hil
      obtain ⟨cs, h1, h2⟩ := hi i (by omega)
      rw [cellsEnt] at h1
      obtain ⟨_, hcl, hcell⟩ := World.cells?_some h1
      obtain ⟨xs, n', _, _, _, hxl, hf⟩ := DataW.trod_struct Tryz.underlying41 h2
      match cs, hcl with
      | [c0, c1, c2], _ =>
        have g0 := hf 0 _ rfl
        have g1 := hf 1 _ rfl
        have g2 := hf 2 _ rfl
        have hxl' : xs.length = 3 := hxl
        match xs, hxl' with
        | [x0, x1, x2], _ =>
          obtain ⟨n0, e0, _, _⟩ := DataW.trod_int Tryz.underlying3 g0
          obtain ⟨n1, e1, _, _⟩ := DataW.trod_int Tryz.underlying3 g1
          obtain ⟨n2, e2, _, _⟩ := DataW.trod_int Tryz.underlying3 g2
          have k0 : c0 = .int .i64 n0 := by have h : List.take (Tryz.prog.cellsOf 3) [c0, c1, c2] = [Value.int .i64 n0] := e0; rw [cellsInt] at h; simpa using h
          have k1 : c1 = .int .i64 n1 := by have h : List.take (Tryz.prog.cellsOf 3) [c1, c2] = [Value.int .i64 n1] := e1; rw [cellsInt] at h; simpa using h
          have k2 : c2 = .int .i64 n2 := by have h : List.take (Tryz.prog.cellsOf 3) [c2] = [Value.int .i64 n2] := e2; rw [cellsInt] at h; simpa using h
          subst k0 k1 k2
          have q0 := hcell 0 (by omega)
          have q1 := hcell 1 (by omega)
          have q2 := hcell 2 (by omega)
          rw [Go.Deep.add_add] at q0 q1 q2
          exact ⟨⟨n0, n1, n2⟩, by simpa using q0, by simpa using q1, by simpa using q2⟩
    obtain ⟨E, hE⟩ := choose_lt (α := Ent) (p := fun i e => W.cell? (a.add (i * 3)) = some (.int .i64 e.t) ∧ W.cell? (a.add (i * 3 + 1)) = some (.int .i64 e.k) ∧ W.cell? (a.add (i * 3 + 2)) = some (.int .i64 e.v)) each
    refine ⟨_, (List.range len).map E, rfl, ?_⟩
    unfold Es
    rw [List.length_map, List.length_range]
    refine slr_of_cells (by rw [entCells_len]; simp) hl hm (by decide) (fun j u hu => ?_)
    have hj := (List.getElem?_eq_some_iff.1 hu).1
    rw [entCells_len, List.length_map, List.length_range] at hj
    have hq : j / 3 < ((List.range len).map E).length := by rw [List.length_map, List.length_range]; omega
    have hat := entCells_at ((List.range len).map E) (j / 3) hq (j % 3) (Nat.mod_lt _ (by decide))
    rw [show j / 3 * 3 + j % 3 = j from by omega, hu] at hat
    simp only [List.getElem_map, List.getElem_range] at hat
    obtain ⟨h0, h1, h2⟩ := hE (j / 3) (by omega)
    have hr : j % 3 = 0 ∨ j % 3 = 1 ∨ j % 3 = 2 := by omega
    rcases hr with hr | hr | hr
    · rw [hr] at hat
      cases hat
      have h := h0; rw [show j / 3 * 3 = j from by omega] at h; exact h
    · rw [hr] at hat
      cases hat
      have h := h1; rw [show j / 3 * 3 + 1 = j from by omega] at h; exact h
    · rw [hr] at hat
      cases hat
      have h := h2; rw [show j / 3 * 3 + 2 = j from by omega] at h; exact h
theorem parts_of_trod (hv : Value.okWide Tryz.prog W .any base 44 v) (h : DataW.Trod enc Tryz.prog W 0 (fun _ => true) true 44 v d p) : ∃ ps : List (List Ent), Ps W v ps ∧ ∃ A c, v = .slice A ps.length c ∧ ps.length ≤ c ∧ c ≤ 9223372036854775807 := by
  obtain ⟨a0, len, cap, rfl⟩ := okWide_slice Tryz.underlying44 hv
  obtain ⟨fuel, hf⟩ := h
  have hf' : DataW.trod enc Tryz.prog W 0 (fun _ => true) true fuel 44 [.slice a0 len cap] = some (d, p) := by simpa [Value.cells] using hf
  have c1 : (Tryz.prog).cellsOf 22 = 1 := by kernel_rfl
  rcases open_slice Tryz.underlying44 hf' with ⟨hcs, _⟩ | ⟨a, len', cap', m, n, D, Pl, hcs, hb, hl, hm, hmm, hx, hi⟩
  · cases hcs; exact ⟨[], ⟨[], SlR.nil _ 1, fun i hi => absurd hi (by simp)⟩, none, 0, rfl, Nat.le_refl _, by omega⟩
  · cases hcs
    have hmc : len ≤ m := by rw [hmm]; split <;> omega
    have each : ∀ i, i < len → ∃ y : Value × List Ent, W.cell? (a.add i) = some y.1 ∧ Es W y.1 y.2 := by
      intro i hil
      obtain ⟨cs, h1, h2⟩ := hi i (by omega)
      rw [c1] at h1
      obtain ⟨_, hcl, hcell⟩ := World.cells?_some h1
      obtain ⟨u, es, rfl, he⟩ := es_of_cells h2
      have q0 := hcell 0 (by omega)
      rw [Go.Deep.add_add] at q0
      exact ⟨(u, es), by simpa using q0, he⟩
    obtain ⟨E, hE⟩ := choose_lt (α := Value × List Ent) (p := fun i y => W.cell? (a.add i) = some y.1 ∧ Es W y.1 y.2) each
    refine ⟨(List.range len).map fun i => (E i).2, ⟨(List.range len).map fun i => (E i).1, ?_, fun i hi => ?_⟩, some a, cap, by simp, by simpa using hl, by simpa [maxLen] using hm⟩
    · rw [List.length_map, List.length_range]
      refine slr_of_cells (by simp) hl hm (by decide) (fun j u hu => ?_)
      have hj := (List.getElem?_eq_some_iff.1 hu).1
      rw [List.length_map, List.length_range] at hj
      rw [List.getElem?_map, List.getElem?_range hj] at hu
      cases hu
      exact (hE j hj).1
    · rw [List.length_map, List.length_range] at hi
      exact ⟨(E i).1, by rw [List.getElem?_map, List.getElem?_range hi]; rfl, by simpa using (hE i hi).2⟩
end
end Go.Proofs.YtfjcnpigpkcfgaaGreat

namespace Go.Proofs.YtfjcnpigpkcfgaaGreat.eitherMore
open Go.ChangeShapes Go.WideShapes Go.ChangeAt Go.RowKit Go.Deep Go.Mv

set_option maxRecDepth 100000 in
theorem lifted (os : Os) (started : os.Started) (H : Type) (enc : TypeId × Value → H) :
    ReturnsInHanded {} Tryz.checked os 5 .any (Rows.eitherMoreSpec.pre6 enc Tryz.prog Tryz.f5 Rows.eitherMoreRow.domain false) (Rows.eitherMoreSpec.post enc Tryz.prog Tryz.f5 false true false false) := by
  refine returnsInHanded_of_change_shaped (C := Tryz.checked) own started (by kernel_rfl) Tryz.func5
    (ChangeSpec.witness6 (enc := enc) (C := Tryz.checked) false ⟨#[], #[.int .i64 0, .slice none 0 0, .int .i64 0], []⟩ 8 (by kernel_rfl) (by kernel_rfl) (by kernel_rfl) (by kernel_rfl)) ?_
  intro W base args ds gs before hval0 hW hcnd _ hsh _
  obtain ⟨tb, hT⟩ := tab_of_shape hsh
  have hval : ∀ (j : Nat) t v, Tryz.f5.params[j]? = some t → args[j]? = some v → Value.okWide Tryz.prog W .any base t v := hval0
  have hW' := hW
  obtain ⟨p, q, hA0, hV, rfl, hfz, hnd⟩ := hW
  have hA : DataW.TrodAll enc Tryz.prog W 0 (fun _ => true) true Tryz.f5.params.toList args.toList ds p := hA0
  rw [Tryz.params5] at hA hval
  obtain ⟨v0, vs0, d0, ds0, p0, q0, hargs, rfl, rfl, h0, r0⟩ := trodAll_cons hA
  obtain ⟨v1, vs1, d1, ds1, p1, q1, rfl, rfl, rfl, h1, r1⟩ := trodAll_cons r0
  obtain ⟨v2, vs2, d2, ds2, p2, q2, rfl, rfl, rfl, h2, r2⟩ := trodAll_cons r1
  obtain ⟨rfl, rfl, rfl⟩ := trodAll_nil r2
  obtain rfl : args = #[v0, v1, v2] := by cases args; simp_all
  obtain ⟨rfl, rfl⟩ := trodVars_none hV
  obtain ⟨a0, rfl, rfl, rfl, w0⟩ := open_int Tryz.underlying3 (hval 0 3 v0 rfl rfl) h0
  obtain ⟨l1, hl1, hv1⟩ := parts_of_trod (hval 1 44 v1 rfl rfl) h1
  obtain ⟨a2, rfl, rfl, rfl, w2⟩ := open_int Tryz.underlying3 (hval 2 3 v2 rfl rfl) h2
  clear hA0 hval0
  simp only [List.append_nil, List.nil_append] at hW'
  refine (MoreLaw_any a0 v1 a2 l1 W hT hl1 hv1).mono fun e W' ⟨he, hE⟩ => ?_
  subst he
  exact ⟨_, rfl, post_of_below (pa := _) (pv := []) hW' (fun _ _ _ => trodAll_cons_mk (shut_bool Tryz.underlying4 _) trodAll_mk0)
    (fun sp hsp => (trodAll_cons_mk (shut_int Tryz.underlying3 w0) (trodAll_cons_mk (WideElems.Trod_stays laidOut (by kernel_rfl) (of_decide_eq_true (by kernel_rfl)) h1 (fun x hx => hE.same (hW'.lt x (by simp [hx]))) (fun x hx => hsp x (by simp [hx]))) (trodAll_cons_mk (shut_int Tryz.underlying3 w2) trodAll_mk0)))) (fun _ _ => rfl) (by simp) hE (ok_one (by kernel_rfl) rfl (okWide_bool_mk Tryz.underlying4 _))⟩

theorem over : Rows.eitherMoreRow.holds Tryz.pinned (OpenSpec.ofChange Rows.eitherMoreSpec) :=
  OpenClaim.holds_of_wide 5 Tryz.f5 rfl rfl rfl rfl rfl rfl rfl ⟨rfl, rfl, rfl, rfl, rfl⟩ rfl rfl rfl rfl rfl (by kernel_rfl) Tryz.func5 (by kernel_rfl)
    (of_decide_eq_true (by kernel_rfl)) (by unfold Func.isWrapper; first | (rw [if_pos (by decide +kernel)]; kernel_rfl) | (rw [if_neg (by decide +kernel)]; exact ⟨rfl, rfl⟩))
    (fun os started H enc _ => lifted os started H enc)

theorem proved : Rows.EitherMoreSaid := over
#print axioms proved
end Go.Proofs.YtfjcnpigpkcfgaaGreat.eitherMore
