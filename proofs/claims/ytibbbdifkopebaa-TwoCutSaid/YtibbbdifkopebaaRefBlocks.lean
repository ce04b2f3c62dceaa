/-
  The walk of moultref08.blocks.
-/
import Derived.Test.YtibbbdifkopebaaRefBlock
set_option linter.all false
namespace Go.Proofs.Ytibbbdifkopebaa
open Go.RowKit Go.Mv
set_option maxRecDepth 100000

/-- Entries' blocks behind a point. -/
def blocksS (p : Nat × Nat) (es : List Ent) : List UInt8 :=
  if h : es = [] then [] else blkS p (es.take 4) ++ blocksS (chainP p (blkBody (es.take 4))) (es.drop 4)
termination_by es.length
decreasing_by
  have : 0 < es.length := List.length_pos_iff.2 h
  simp; omega
theorem blocksS_nil (p : Nat × Nat) : blocksS p [] = [] := by rw [blocksS]; simp
theorem blocksS_cons (p : Nat × Nat) (es : List Ent) (h : 0 < es.length) : blocksS p es = blkS p (es.take 4) ++ blocksS (chainP p (blkBody (es.take 4))) (es.drop 4) := by
  rw [blocksS, dif_neg (fun e => by rw [e] at h; simp at h)]
theorem blkS_len (p : Nat × Nat) (es : List Ent) : (blkS p es).length ≤ 5 + 15 * es.length := by
  have := entsS_len es
  unfold blkS blkBody fourB
  rw [List.length_append, List.length_cons]
  simp only [List.length_cons, List.length_nil]
  omega
theorem blocksS_len (p : Nat × Nat) (es : List Ent) : (blocksS p es).length ≤ 20 * es.length := by
  generalize hn : es.length = n
  induction n using Nat.strongRecOn generalizing p es with
  | _ n ih =>
    rcases Nat.eq_zero_or_pos es.length with h | h
    · have : es = [] := List.eq_nil_of_length_eq_zero h
      subst this; rw [blocksS_nil]; simp
    · rw [blocksS_cons p es h, List.length_append]
      have h1 := blkS_len p (es.take 4)
      have h2 := ih (es.drop 4).length (by simp; omega) (chainP p (blkBody (es.take 4))) (es.drop 4) rfl
      rw [List.length_take] at h1
      rw [List.length_drop] at h2
      omega
theorem entCells_take (es : List Ent) (n : Nat) : entCells (es.take n) = (entCells es).take (n * 3) := by
  induction n generalizing es with
  | zero => simp [entCells]
  | succ n ih =>
    cases es with
    | nil => simp [entCells]
    | cons e es =>
      rw [List.take_succ_cons, show entCells (e :: es.take n) = e.cells ++ entCells (es.take n) from rfl, show entCells (e :: es) = e.cells ++ entCells es from rfl, ih,
        show (n + 1) * 3 = e.cells.length + n * 3 from by simp [Ent.cells]; omega, List.take_length_add_append]
theorem entCells_drop (es : List Ent) (n : Nat) : entCells (es.drop n) = (entCells es).drop (n * 3) := by
  induction n generalizing es with
  | zero => simp [entCells]
  | succ n ih =>
    cases es with
    | nil => simp [entCells]
    | cons e es =>
      rw [List.drop_succ_cons, show entCells (e :: es) = e.cells ++ entCells es from rfl, ih,
        show (n + 1) * 3 = e.cells.length + n * 3 from by simp [Ent.cells]; omega, List.drop_length_add_append]
theorem Es.take {w : World} {A : Option Addr} {m c : Nat} {es : List Ent} (h : Es w (.slice A m c) es) (n : Nat) (hn : n ≤ es.length) : Es w (.slice A n c) (es.take n) := by
  obtain ⟨hl, A', c', e, h1, h2, h3⟩ := h
  cases e
  unfold Es
  rw [List.length_take, Nat.min_eq_left hn, entCells_take]
  refine ⟨by rw [List.length_take, hl]; omega, A, c, rfl, by omega, h2, fun h0 => ?_⟩
  obtain ⟨b, off, rfl, hc⟩ := h3 (by omega)
  refine ⟨b, off, rfl, fun j u hu => hc j u ?_⟩
  rw [List.getElem?_take] at hu
  split at hu
  · exact hu
  · cases hu
theorem Es.drop {w : World} {b off m c : Nat} {es : List Ent} (h : Es w (.slice (some ⟨b, off, none⟩) m c) es) (n : Nat) (hn : n ≤ es.length) : Es w (.slice (some ⟨b, off + n * 3, none⟩) (m - n) (c - n)) (es.drop n) := by
  obtain ⟨hl, A', c', e, h1, h2, h3⟩ := h
  cases e
  unfold Es
  rw [List.length_drop, entCells_drop]
  refine ⟨by rw [List.length_drop, hl]; omega, _, _, rfl, by omega, by omega, fun h0 => ?_⟩
  obtain ⟨b', off', e', hc⟩ := h3 (by omega)
  cases e'
  refine ⟨b, off + n * 3, rfl, fun j u hu => ?_⟩
  rw [Nat.add_assoc]
  exact hc (n * 3 + j) u (by rw [← hu, List.getElem?_drop])
theorem Es.drop0 {w : World} {A : Option Addr} {es : List Ent} {n m c : Nat} (hn : es.length ≤ n) (hm : m = 0) (hc : c ≤ 9223372036854775807) : Es w (.slice A m c) (es.drop n) := by
  subst hm
  rw [List.drop_of_length_le hn]
  exact SlR.empty w 3 (by simpa [maxLen] using hc)
theorem allOk_td {es : List Ent} (h : allOk es = true) (n : Nat) : allOk (es.take n) = true ∧ allOk (es.drop n) = true := by
  unfold allOk at *
  rw [List.all_eq_true] at h
  exact ⟨List.all_eq_true.2 fun x hx => h x (List.mem_of_mem_take hx), List.all_eq_true.2 fun x hx => h x (List.mem_of_mem_drop hx)⟩
def sliceLen : Value → Nat
  | .slice _ n _ => n
  | _ => 0

set_option maxHeartbeats 1000000 in
theorem refBlocks_any (z v : Value) (p : Nat × Nat) (es : List Ent) (w : World) (hz : PtV z p) (h : Es w v es) (ha : allOk es = true) (hlen : es.length ≤ 1000000) :
    Calls Try.prog 36 #[z, v] w (CloneP w (blocksS p es)) := by
  obtain ⟨i0, hi, hz0, hz1, hz2⟩ := info_parts info_u8
  have hall := blocksS_len p es
  go_enter Try.func36, Try.ntmps36
  go_wp2_with fail
  go_loopw [0, 1, 5] (fun zz lv ov wr => ∃ (rest : List Ent) (pre : List UInt8) (q : Nat × Nat), Hid (PtV zz q) ∧ Hid (Es w lv rest) ∧ Hid (allOk rest = true) ∧ Hid (blocksS p es = pre ++ blocksS q rest) ∧ wr.ownsRow w.heap.size 5 1 ov pre.length (pre.map bv) ∧ Ext w wr) (fun _ lv _ _ => sliceLen lv)
  case atStart => exact ⟨es, [], p, hz, h, ha, rfl, World.ownsRow_nil _ _ _ _, Ext.refl _⟩
  case round =>
    obtain ⟨rest, pre, q, Hz, He, Ha, Hb, hown, hE⟩ := hrel
    have hes := Es.ext He.out hE
    obtain ⟨A, c, rfl, h1, h2⟩ := SlR.open_ He.out
    have hpre : pre.length ≤ 20 * es.length := by
      have := congrArg List.length Hb.out
      rw [List.length_append] at this
      omega
    by_cases h0 : 0 < rest.length
    · obtain ⟨_, b, off, rfl, hc⟩ := Es.at_ hes h0
      have hbc := blocksS_cons q rest h0
      have hok : blkOk (rest.take 4) = true := by
        simp [blkOk, (allOk_td Ha.out 4).1]; omega
      have hb2 := Hb.out
      rw [hbc] at hb2
      have Hb2 := Lib.hid hb2
      have hk := blkS_len q (rest.take 4)
      obtain ⟨za, zb, rfl, hza, hzb⟩ := Hz.out
      clear hc hbc hb2
      have hpt : ptV (.complex .f64 za zb) = q := PtV.pt ⟨za, zb, rfl, hza, hzb⟩
      have hlk : (rest.take 4).length ≤ 4 := by rw [List.length_take]; omega
      clear hza hzb
      by_cases hle : rest.length ≤ 4
      · have hmin : min (rest.length : Int) 4 = rest.length := by omega
        have htk : Es wr (.slice (some ⟨b, off, none⟩) rest.length c) (rest.take 4) := by rw [List.take_of_length_le (by omega)]; exact hes
        by_cases hc4 : c = rest.length
        · subst hc4
          have HC := Lib.hid (refBlock_ok za zb (.slice (some ⟨b, off, none⟩) rest.length rest.length) (rest.take 4) wr htk hok)
          have HD := Lib.hid (Es.drop0 (w := w) (A := some ⟨b, off, none⟩) (es := rest) (n := 4) (m := 0) (c := 0) (by omega) (by omega) (by omega))
          rw [hpt] at HC
          go_wp2_with (first
            | (go_at_call 13
               refine (HC.out).mono ?_
               rintro e w2 ⟨v2, vz, rfl, hpz, ho2, hE2⟩
               have HPZ := Lib.hid hpz
               obtain ⟨z1, z2, rfl, _, _⟩ := hpz
               obtain ⟨A2, c2, rfl, _, _⟩ := SlR.open_ (SlR.of_own ho2)
               have hon := own_ext hown hE2)
            | (at_builtin
               refine wpList_append_sl _ rfl (.tmp 25) (.tmp 26) 24 rfl w.heap.size 5 i0 (.int .u8 0) 1 1 Try.underlying24 hi hz0 hz1 hz2 rfl (by decide) _ pre.length _ rfl hon _ (blkS q (rest.take 4)).length _ rfl (SlR.of_own ho2) (one_bv _) (by unfold maxLen; omega) (by omega) (Ext.trans hE hE2).size ?_
               intro v' w3 hown' hgrow))
          go_roundw
          case rel =>
            refine ⟨rest.drop 4, pre ++ blkS q (rest.take 4), chainP q (blkBody (rest.take 4)), HPZ, HD, (allOk_td Ha.out 4).2, ?_, by simpa using hown', Ext.grownOwn (Ext.trans hE hE2) hon hgrow⟩
            show _ = _; rw [Hb2.out, List.append_assoc]
          case measure => simp [sliceLen]; omega
        · have hc5 : rest.length < c := by omega
          have HC := Lib.hid (refBlock_ok za zb (.slice (some ⟨b, off, none⟩) rest.length c) (rest.take 4) wr htk hok)
          have HD := Lib.hid (Es.drop0 (w := w) (A := some ⟨b, off + rest.length * 3, none⟩) (es := rest) (n := 4) (m := 0) (c := c - rest.length) (by omega) (by omega) (by omega))
          rw [hpt] at HC
          go_wp2_with (first
            | (go_at_call 13
               refine (HC.out).mono ?_
               rintro e w2 ⟨v2, vz, rfl, hpz, ho2, hE2⟩
               have HPZ := Lib.hid hpz
               obtain ⟨z1, z2, rfl, _, _⟩ := hpz
               obtain ⟨A2, c2, rfl, _, _⟩ := SlR.open_ (SlR.of_own ho2)
               have hon := own_ext hown hE2)
            | (at_builtin
               refine wpList_append_sl _ rfl (.tmp 25) (.tmp 26) 24 rfl w.heap.size 5 i0 (.int .u8 0) 1 1 Try.underlying24 hi hz0 hz1 hz2 rfl (by decide) _ pre.length _ rfl hon _ (blkS q (rest.take 4)).length _ rfl (SlR.of_own ho2) (one_bv _) (by unfold maxLen; omega) (by omega) (Ext.trans hE hE2).size ?_
               intro v' w3 hown' hgrow))
          go_roundw
          case rel =>
            refine ⟨rest.drop 4, pre ++ blkS q (rest.take 4), chainP q (blkBody (rest.take 4)), HPZ, HD, (allOk_td Ha.out 4).2, ?_, by simpa using hown', Ext.grownOwn (Ext.trans hE hE2) hon hgrow⟩
            show _ = _; rw [Hb2.out, List.append_assoc]
          case measure => simp [sliceLen]; omega
      · have hmin : min (rest.length : Int) 4 = 4 := by omega
        have hc5 : 4 < c := by omega
        have h4 : 4 ≤ rest.length := by omega
        have h4s : 4 < rest.length := by omega
        have HC := Lib.hid (refBlock_ok za zb (.slice (some ⟨b, off, none⟩) 4 c) (rest.take 4) wr (Es.take hes 4 h4) hok)
        have HD := Lib.hid (Es.drop He.out 4 h4)
        rw [hpt] at HC
        go_wp2_with (first
          | (go_at_call 13
             refine (HC.out).mono ?_
             rintro e w2 ⟨v2, vz, rfl, hpz, ho2, hE2⟩
             have HPZ := Lib.hid hpz
             obtain ⟨z1, z2, rfl, _, _⟩ := hpz
             obtain ⟨A2, c2, rfl, _, _⟩ := SlR.open_ (SlR.of_own ho2)
             have hon := own_ext hown hE2)
          | (at_builtin
             refine wpList_append_sl _ rfl (.tmp 25) (.tmp 26) 24 rfl w.heap.size 5 i0 (.int .u8 0) 1 1 Try.underlying24 hi hz0 hz1 hz2 rfl (by decide) _ pre.length _ rfl hon _ (blkS q (rest.take 4)).length _ rfl (SlR.of_own ho2) (one_bv _) (by unfold maxLen; omega) (by omega) (Ext.trans hE hE2).size ?_
             intro v' w3 hown' hgrow))
        go_roundw
        case rel =>
          refine ⟨rest.drop 4, pre ++ blkS q (rest.take 4), chainP q (blkBody (rest.take 4)), HPZ, HD, (allOk_td Ha.out 4).2, ?_, by simpa using hown', Ext.grownOwn (Ext.trans hE hE2) hon hgrow⟩
          show _ = _; rw [Hb2.out, List.append_assoc]
        case measure => simp [sliceLen]; omega
    · have hr : rest = [] := List.eq_nil_of_length_eq_zero (by omega)
      have hb2 := Hb.out
      rw [hr, blocksS_nil, List.append_nil] at hb2
      have Hb2 := Lib.hid hb2
      have hr0 : rest.length = 0 := by omega
      clear hr hb2
      go_wp2_with fail
      go_ret
      refine ⟨_, rfl, ?_, hE⟩
      rw [Hb2.out]
      exact hown
end Go.Proofs.Ytibbbdifkopebaa
