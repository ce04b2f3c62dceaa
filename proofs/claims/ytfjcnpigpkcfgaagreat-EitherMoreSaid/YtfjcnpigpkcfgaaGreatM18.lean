/-
  Plain laws: segments of either format, more behind them, turned, torn.
  The walks of moultlaw10.same and moultlaw10.wakes.
  The walk of moultlaw10.wakes.
  What the world's shape tells of crc's table: sixteen numbers, whatever they are.
  The rows' arguments: entries and bytes as they came in; the row's last step.
-/
import Derived.Test.YtfjcnpigpkcfgaaGreatM17
import GoSem.Claims
import Derived.ProofKit
import Derived.OpenShut
import Derived.Carry
import Derived.Deep.Slices
import Derived.ChangeSlices
import Derived.ChangeSame
import Derived.WideKeyArgs
set_option linter.all false
namespace Go.Proofs.YtfjcnpigpkcfgaaGreat
open Go.RowKit Go.Mv
variable {T : Tab}

theorem allOk_app {l k : List Ent} (h : allOk l = true) (g : allOk k = true) : allOk (l ++ k) = true := by
  unfold allOk at *
  rw [List.all_append, h, g]; rfl
theorem putL_app (l k : List Ent) : putL T (l ++ k) = putL T l ++ putL T k := by unfold putL; rw [List.flatMap_append]
theorem sg_known {m : Int} {b : List UInt8} {f : Nat} {l : List Ent} (h : Sg T m b f l) : m = 1 ∨ m = 2 := by
  obtain ⟨_, _, _, ⟨h, _⟩ | ⟨h, _⟩⟩ := h
  · exact .inl h
  · exact .inr h
theorem sg_more {m : Int} {b : List UInt8} {f : Nat} {l k : List Ent} (h : Sg T m b f l) (hk : allOk k = true) : ∃ M, moreE T b m k = (0, M) ∧ Sg T m (b ++ M) f (l ++ k) ∧ M.length ≤ 20 * k.length := by
  obtain ⟨q, hw⟩ := sg_whole h
  obtain ⟨h1, h2, hl, ⟨rfl, rfl⟩ | ⟨rfl, r, q', hb, hs⟩⟩ := h
  · refine ⟨putL T k, ?_, ⟨h1, h2, allOk_app hl hk, .inl ⟨rfl, ?_⟩⟩, ?_⟩
    · unfold moreE
      rw [hw, if_pos rfl, if_pos rfl]
      unfold put1S
      rw [if_pos hk]
    · rw [putL_app, List.append_assoc]
    · rw [putL_len]; omega
  · have hlk := look2_of h1 h2 hb hs
    have hend : endS b = (0, q') := by
      unfold endS
      rw [hlk]
      dsimp only
      rw [if_pos ⟨rfl, rfl⟩]
    refine ⟨blocksS q' k, ?_, ⟨h1, h2, allOk_app hl hk, .inr ⟨rfl, r ++ blocksS q' k, chunkP q' (chunks4 k), by rw [hb, List.append_assoc], ?_⟩⟩, blocksS_len _ _⟩
    · unfold moreE
      rw [hw, if_pos rfl, if_neg (by decide)]
      unfold moreS
      rw [hend]
      dsimp only
      rw [if_pos rfl, if_pos hk]
    · have hsb := scan_blocks q' k hk []
      rw [scan_nil, List.append_nil, List.append_nil] at hsb
      rw [scan_app hs, hsb]
theorem sg_turn {m t : Int} {b : List UInt8} {f : Nat} {l : List Ent} (h : Sg T m b f l) (ht : t = 1 ∨ t = 2) : turnE T b m t = fileE T t f l := by
  obtain ⟨q, hw⟩ := sg_whole h
  unfold turnE
  rw [if_pos ⟨sg_known h, ht⟩, hw]
  rfl
theorem look1_not {b : List UInt8} (h : b.getD 0 0 ≠ 1) : look1S T b = ⟨11, 0, [], 0, (0, 0)⟩ := by
  unfold look1S
  rw [if_pos (.inr h)]
theorem headS_first {f : Nat} (h1 : 1 ≤ f) (h2 : f ≤ 1073741824) : (headS (f : Int)).2 = 2 :: shorts [(f : Int)] := by
  unfold headS; rw [if_pos ⟨by rw [numB_true]; omega, by omega⟩]
theorem headT_two {b r : List UInt8} {f : Nat} (h : headT b = some (f, r)) : b.getD 0 0 = 2 := by
  obtain ⟨h1, h2⟩ := (headT_iff _ _ _).1 h
  have : (headS (f : Int)).2 = 2 :: shorts [(f : Int)] := by
    unfold headS at h1 ⊢
    split
    · rfl
    · rename_i hn; rw [if_neg hn] at h1; cases h1
  rw [h2, this]
  rfl
theorem look2_not {b : List UInt8} (h : b.getD 0 0 ≠ 2) : lookS b = ⟨11, 0, [], 0, (0, 0)⟩ := by
  refine look_none ?_
  cases hd : headT b with
  | none => rfl
  | some x => exact absurd (headT_two (f := x.1) (r := x.2) hd) h
theorem sg_byte {m : Int} {b : List UInt8} {f : Nat} {l : List Ent} (h : Sg T m b f l) : ((b.getD 0 0).toNat : Int) = m := by
  obtain ⟨h1, h2, hl, ⟨rfl, rfl⟩ | ⟨rfl, r, q, hb, hs⟩⟩ := h
  · rfl
  · rw [hb, headS_first h1 h2]; rfl
/-- Bytes that begin with another number are none of a format. -/
theorem scan_byte {m : Int} (hm : m = 1 ∨ m = 2) {b : List UInt8} (h : ((b.getD 0 0).toNat : Int) ≠ m) : scanE T b m = ⟨11, 0, [], 0, (0, 0)⟩ := by
  rcases hm with rfl | rfl
  · exact look1_not (fun e => h (by rw [e]; rfl))
  · exact look2_not (fun e => h (by rw [e]; rfl))
theorem sg_other {m : Int} {b : List UInt8} {f : Nat} {l : List Ent} (h : Sg T m b f l) : scanE T b (3 - m) = ⟨11, 0, [], 0, (0, 0)⟩ := by
  have hk := sg_known h
  have hb := sg_byte h
  exact scan_byte (by omega) (by omega)
theorem which_of {m : Int} (hm : m = 1 ∨ m = 2) {b : List UInt8} (h : (scanE T b m).err = 0) (ho : (scanE T b (3 - m)).err = 11) : whichE T b = m := by
  unfold whichE headF
  rw [if_pos rfl]
  rcases hm with rfl | rfl
  · rw [h]; rfl
  · have e : (3 : Int) - 2 = 1 := rfl
    rw [e] at ho
    rw [ho, h]; rfl
theorem which_none {b : List UInt8} (h1 : (scanE T b 1).err = 11) (h2 : (scanE T b 2).err = 11) : whichE T b = 0 := by
  unfold whichE headF
  rw [if_pos rfl, h1, h2]; rfl
theorem sg_which {m : Int} {b : List UInt8} {f : Nat} {l : List Ent} (h : Sg T m b f l) : whichE T b = m := by
  obtain ⟨q, hq⟩ := sg_scan h
  exact which_of (sg_known h) (by rw [hq]) (by rw [sg_other h])
theorem sg_alike {m n : Int} {b c : List UInt8} {f : Nat} {l : List Ent} (h : Sg T m b f l) (g : Sg T n c f l) : alikeE T b m c n = true := by
  obtain ⟨q, hw⟩ := sg_whole h
  obtain ⟨q', hw'⟩ := sg_whole g
  unfold alikeE
  rw [hw, hw']
  simp
theorem sg_unlike {m n : Int} {b c : List UInt8} {f f' : Nat} {l l' : List Ent} (h : Sg T m b f l) (g : Sg T n c f' l') (hn : f ≠ f') : alikeE T b m c n = false := by
  obtain ⟨q, hw⟩ := sg_whole h
  obtain ⟨q', hw'⟩ := sg_whole g
  unfold alikeE
  rw [hw, hw']
  simp [hn]
theorem sg_of_file {m : Int} (hm : m = 1 ∨ m = 2) {f : Nat} (h1 : 1 ≤ f) (h2 : f ≤ 1073741824) {l : List Ent} (hl : allOk l = true) {b : List UInt8} (hb : fileE T m f l = (0, b)) : Sg T m b f l := by
  obtain ⟨b', h, g, _⟩ := sg_file (T := T) hm h1 h2 hl
  rw [hb] at h
  cases h
  exact g
theorem putL_split (l : List Ent) (n j : Nat) (hn : n ≤ l.length) (hj : j < 15) (hr : 15 * n + j ≤ 15 * l.length) : ∃ X : List UInt8, X.length = j ∧ (putL T l).take (15 * n + j) = putL T (l.take n) ++ X := by
  have e : putL T l = putL T (l.take n) ++ putL T (l.drop n) := by rw [← putL_app, List.take_append_drop]
  refine ⟨(putL T (l.drop n)).take j, ?_, ?_⟩
  · rw [List.length_take, putL_len, List.length_drop]; omega
  · have hlen : (putL T (l.take n)).length = 15 * n := by rw [putL_len, List.length_take]; omega
    rw [e, ← hlen, List.take_append, List.take_of_length_le (Nat.le_add_right _ _), Nat.add_sub_cancel_left]
/-- What is left of a segment that is cut off. -/
theorem sg_torn {m : Int} {f : Nat} {l : List Ent} {b : List UInt8} (h : Sg T m b f l) (hb : fileE T m f l = (0, b)) (k : Nat) (hk : k ≤ b.length) :
    (scanE T (b.take k) m = ⟨11, 0, [], 0, (0, 0)⟩ ∧ whichE T (b.take k) = 0) ∨
    (∃ n u q, n ≤ l.length ∧ 1 ≤ u ∧ u ≤ k ∧ (k = b.length → u = k) ∧ scanE T (b.take k) m = ⟨0, f, l.take n, u, q⟩ ∧ Sg T m (b.take u) f (l.take n)) := by
  have hm := sg_known h
  have hby := sg_byte h
  have hscan := sg_scan h
  have hoth : (scanE T (b.take k) (3 - m)).err = 11 := by
    rcases Nat.eq_zero_or_pos k with rfl | h0
    · rw [scan_byte (by omega) (by simp; omega)]
    · rw [scan_byte (by omega)]
      have : (b.take k).getD 0 0 = b.getD 0 0 := by
        rw [List.getD_eq_getElem?_getD, List.getD_eq_getElem?_getD, List.getElem?_take, if_pos h0]
      rw [this]
      omega
  have hwn : (scanE T (b.take k) m).err = 11 → whichE T (b.take k) = 0 := by
    intro he
    rcases hm with rfl | rfl
    · exact which_none he hoth
    · exact which_none hoth he
  obtain ⟨h1, h2, hl, ⟨rfl, hbe⟩ | ⟨rfl, _⟩⟩ := h
  · by_cases h6 : k < 6
    · left
      have e : scanE T (b.take k) 1 = ⟨11, 0, [], 0, (0, 0)⟩ := by
        show look1S T _ = _
        unfold look1S
        rw [if_pos (.inl (by rw [List.length_take]; omega))]
      exact ⟨e, hwn (by rw [e])⟩
    · right
      have hbl : b.length = 6 + 15 * l.length := by rw [hbe, List.length_append, putL_len, List.length_cons, long1_len]
      obtain ⟨n, j, hj, rfl⟩ : ∃ n j, j < 15 ∧ k = 6 + (15 * n + j) := ⟨(k - 6) / 15, (k - 6) % 15, Nat.mod_lt _ (by decide), by omega⟩
      obtain ⟨X, hX, hsp⟩ := putL_split (T := T) l n j (by omega) hj (by omega)
      have htk : b.take (6 + (15 * n + j)) = (1 :: long1 f) ++ (putL T (l.take n) ++ X) := by
        have hh : (1 :: long1 f).length = 6 := by simp [long1_len]
        rw [hbe, ← hsp, ← hh, List.take_append, List.take_of_length_le (by omega), Nat.add_sub_cancel_left]
      have htu : b.take (6 + 15 * n) = (1 :: long1 f) ++ putL T (l.take n) := by
        have hh : ((1 :: long1 f) ++ putL T (l.take n)).length = 6 + 15 * n := by rw [List.length_append, putL_len, List.length_take, List.length_cons, long1_len]; omega
        have : b.take (6 + 15 * n) = (b.take (6 + (15 * n + j))).take (6 + 15 * n) := by rw [List.take_take, Nat.min_eq_left (by omega)]
        rw [this, htk, ← List.append_assoc]
        exact List.take_left' hh
      have hlk := look1_put (T := T) h1 h2 (l.take n) X (by omega) (allOk_take_of n hl)
      rw [List.length_take, Nat.min_eq_left (by omega)] at hlk
      refine ⟨n, 6 + 15 * n, (0, 0), by omega, by omega, by omega, by omega, ?_, ?_⟩
      · rw [htk]; exact hlk
      · rw [htu]; exact ⟨h1, h2, allOk_take_of n hl, .inl ⟨rfl, rfl⟩⟩
  · obtain ⟨B, H, g1, g2, g3, g4, g5, g6, g7⟩ := cut_plain h1 h2 hl
    have hf2 : fileE T 2 f l = fileS f l := rfl
    rw [hf2, g1] at hb
    cases hb
    obtain ⟨c1, c2⟩ := g7 k hk
    by_cases hlt : k < H.length
    · left
      have e : scanE T (b.take k) 2 = ⟨11, 0, [], 0, (0, 0)⟩ := c1 hlt
      exact ⟨e, hwn (by rw [e])⟩
    · right
      obtain ⟨n, u, q, q', a1, a2, a3, a4, a5, a6⟩ := c2 (by omega)
      have hsg : Sg T 2 (b.take u) f (l.take n) := sg_of_file (.inr rfl) h1 h2 (allOk_take_of n hl) a5
      refine ⟨n, u, q, a1, ?_, a3, ?_, a4, hsg⟩
      · rcases Nat.eq_zero_or_pos u with rfl | h0
        · have := sg_byte hsg
          rw [List.take_zero] at this
          exact absurd this (by decide)
        · exact h0
      · rintro rfl
        obtain ⟨q2, hq2⟩ := hscan
        rw [List.take_length] at a4
        have e : scanE T b 2 = lookS b := rfl
        rw [e, a4] at hq2
        injection hq2
theorem whole_err {b : List UInt8} {m : Int} (h : scanE T b m = ⟨11, 0, [], 0, (0, 0)⟩) : wholeE T b m = ⟨11, 0, [], 0, (0, 0)⟩ := by
  unfold wholeE
  rw [h, if_neg (by decide)]
theorem whole_short {b : List UInt8} {m : Int} {f u : Nat} {l : List Ent} {q : Nat × Nat} (h : scanE T b m = ⟨0, f, l, u, q⟩) (hu : u ≠ b.length) : wholeE T b m = ⟨11, 0, [], 0, (0, 0)⟩ := by
  unfold wholeE
  rw [h, if_pos rfl, if_neg hu]
theorem more_not {b : List UInt8} {m : Int} {k : List Ent} (h : wholeE T b m = ⟨11, 0, [], 0, (0, 0)⟩) : moreE T b m k = (11, []) := by
  unfold moreE
  rw [h, if_neg (by decide)]
theorem turn_not {b : List UInt8} {m t : Int} (hm : m = 1 ∨ m = 2) (ht : t = 1 ∨ t = 2) (h : wholeE T b m = ⟨11, 0, [], 0, (0, 0)⟩) : turnE T b m t = (11, []) := by
  unfold turnE
  rw [if_pos ⟨hm, ht⟩, h, if_neg (by decide)]
end Go.Proofs.YtfjcnpigpkcfgaaGreat

namespace Go.Proofs.YtfjcnpigpkcfgaaGreat
open Go.RowKit Go.Mv
set_option maxRecDepth 100000
variable {T : Tab}

theorem same10_any (va vb : Value) (a b : List UInt8) (w : World) (ha : Bs w va a) (hb : Bs w vb b) :
    Calls Tryz.prog 12 #[va, vb] w fun e w' => e = .returned (.bool (decide (a = b))) ∧ Ext w w' := by
  obtain ⟨A, ca, rfl, h1, h2⟩ := SlR.open_ ha
  obtain ⟨B, cb, rfl, h3, h4⟩ := SlR.open_ hb
  have hca := run_convert_sl (P := Tryz.prog) w 23 9 5 Tryz.underlying23 Tryz.underlying5 Tryz.underlying9 ha
  have hcb := run_convert_sl (P := Tryz.prog) w 23 9 5 Tryz.underlying23 Tryz.underlying5 Tryz.underlying9 hb
  go_enter Tryz.func12, Tryz.ntmps12
  go_wp2
  go_ret
  exact ⟨ret_bool (by rw [Bool.eq_iff_iff]; simp), Ext.refl _⟩

/-- Bytes and an error are returned. -/
def RB (w : World) (k : Int) (c : List UInt8) (e : Ending) (w' : World) : Prop := ∃ A cc, e = .returned (.tuple #[.slice A c.length cc, .int .i64 k]) ∧ OwnB w' w.heap.size (.slice A c.length cc) c ∧ Ext w w'
def SB (w : World) (k : Int) (f : Nat) (l : List Ent) (u : Nat) (e : Ending) (w' : World) : Prop := ∃ A cc, e = .returned (.tuple #[.agg #[.int .i64 f, .slice A l.length cc, .int .i64 u], .int .i64 k]) ∧ OwnE w' w.heap.size (.slice A l.length cc) l ∧ Ext w w'
theorem File_to {m first k : Int} {l : List Ent} {c : List UInt8} (h : fileE T m first l = (k, c)) (v : Value) (w : World) (hT : TabW T w) (hE : Es w v l) (hl : l.length ≤ 100000) : Calls Tryz.prog 8 #[.int .i64 m, .int .i64 first, v] w (RB w k c) := by
  have := FileE_any m first v l w hT hE hl
  rw [h] at this
  exact this
theorem More_to {m k : Int} {b c : List UInt8} {l : List Ent} (h : moreE T b m l = (k, c)) (u v : Value) (w : World) (hT : TabW T w) (hB : Bs w u b) (hb : b.length ≤ 1000000) (hE : Es w v l) (hl : l.length ≤ 100000) : Calls Tryz.prog 14 #[u, .int .i64 m, v] w (RB w k c) := by
  have := MoreE_any u v b m l w hT hB hb hE hl
  rw [h] at this
  exact this
theorem Turn_to {m t k : Int} {b c : List UInt8} (h : turnE T b m t = (k, c)) (u : Value) (w : World) (hT : TabW T w) (hB : Bs w u b) (hb : b.length ≤ 1000000) (hl : (wholeE T b m).log.length ≤ 100000) : Calls Tryz.prog 16 #[u, .int .i64 m, .int .i64 t] w (RB w k c) := by
  have := TurnE_any u b m t w hT hB hb hl
  rw [h] at this
  exact this
theorem Scan_to {m k : Int} {b : List UInt8} {f : Nat} {l : List Ent} {u : Nat} {q : Nat × Nat} (h : scanE T b m = ⟨k, f, l, u, q⟩) (v : Value) (w : World) (hT : TabW T w) (hB : Bs w v b) (hb : b.length ≤ 1000000) : Calls Tryz.prog 10 #[v, .int .i64 m] w (SB w k f l u) := by
  have := ScanE_any v b m w hB hb hT
  rw [h] at this
  refine this.mono ?_
  rintro e w' ⟨x, rfl, ho, hE⟩
  have ho' : OwnE w' w.heap.size x l := ho
  obtain ⟨A, cc, rfl, _, _⟩ := SlR.open_ ho'.es
  exact ⟨A, cc, rfl, ho', hE⟩
theorem Which_to {k : Int} {b : List UInt8} (h : whichE T b = k) (v : Value) (w : World) (hT : TabW T w) (hB : Bs w v b) (hb : b.length ≤ 1000000) : Calls Tryz.prog 18 #[v] w fun e w' => e = .returned (.int .i64 k) ∧ Ext w w' := by
  have := Which_any v b w hB hb hT
  rw [h] at this
  exact this
theorem Alike_to {f g : Int} {a b : List UInt8} {r : Bool} (h : alikeE T a f b g = r) (u v : Value) (w : World) (hT : TabW T w) (ha : Bs w u a) (hb : Bs w v b) (hal : a.length ≤ 1000000) (hbl : b.length ≤ 1000000) : Calls Tryz.prog 20 #[u, .int .i64 f, v, .int .i64 g] w fun e w' => e = .returned (.bool r) ∧ Ext w w' := by
  have := AlikeE_any u v a b f g w hT ha hb hal hbl
  rw [h] at this
  exact this

def eW3 : List Ent := [⟨3, 0, 0⟩]
def eW4 : List Ent := [⟨4, 0, 0⟩]
theorem eW3_ok : allOk eW3 = true := by decide
theorem eW4_ok : allOk eW4 = true := by decide
theorem log_len {m : Int} {b : List UInt8} {f : Nat} {l : List Ent} (h : Sg T m b f l) (n : Nat) (hl : l.length ≤ n) : (wholeE T b m).log.length ≤ n := by
  obtain ⟨q, hq⟩ := sg_whole h
  rw [hq]
  exact hl
theorem wakes10_plain (T : Tab) : ∃ (C M D : List UInt8) (u : Nat) (q : Nat × Nat), fileE T 2 9 eW3 = (0, C) ∧ C.length ≤ 26 ∧ moreE T C 2 eW4 = (0, M) ∧ M.length ≤ 20 ∧ scanE T (C ++ M) 2 = ⟨0, 9, eW3 ++ eW4, u, q⟩ ∧ turnE T C 2 1 = (0, D) ∧ D.length ≤ 26 ∧
    turnE T (C ++ [7]) 2 1 = (11, []) ∧ alikeE T C 2 D 1 = true ∧ alikeE T [1, 0, 0, 0, 0, 1] 1 D 1 = false ∧ whichE T D = 1 ∧ whichE T C = 2 ∧ (wholeE T C 2).log.length ≤ 1 ∧ (wholeE T (C ++ [7]) 2).log.length ≤ 1 := by
  obtain ⟨C, hC, sC, lC, _⟩ := sg_file (T := T) (.inr rfl : (2 : Int) = 1 ∨ (2 : Int) = 2) (f := 9) (by decide) (by decide) eW3_ok
  obtain ⟨D, hD, sD, lD, _⟩ := sg_file (T := T) (.inl rfl : (1 : Int) = 1 ∨ (1 : Int) = 2) (f := 9) (by decide) (by decide) eW3_ok
  obtain ⟨M, hM, sM, lM⟩ := sg_more sC eW4_ok
  obtain ⟨q, hq⟩ := sg_scan sM
  have hB : Sg T 1 [1, 0, 0, 0, 0, 1] 1 [] := ⟨by decide, by decide, rfl, .inl ⟨rfl, rfl⟩⟩
  have h7 : wholeE T (C ++ [7]) 2 = ⟨11, 0, [], 0, (0, 0)⟩ := by
    obtain ⟨h1, h2, _, ⟨h, _⟩ | ⟨_, r, q', hb, hs⟩⟩ := sC
    · exact absurd h (by decide)
    · have e7 : scanS q' [7] = ([], q', [7]) := scanS_none rfl
      have hs7 := scan_app hs [7]
      rw [e7, List.append_nil] at hs7
      have hd : headT (C ++ [7]) = some (9, r ++ [7]) := (headT_iff _ _ _).2 ⟨headS_ok h1 h2, by rw [hb, List.append_assoc]⟩
      have hk : scanE T (C ++ [7]) 2 = ⟨0, 9, eW3, C.length, q'⟩ := by
        show lookS _ = _
        unfold lookS
        rw [hd]
        dsimp only
        rw [hs7]
        simp
      exact whole_short hk (by simp)
  exact ⟨C, M, D, _, q, hC, lC, hM, lM, hq, (by rw [sg_turn sC (.inl rfl)]; exact hD), lD, turn_not (.inr rfl) (.inl rfl) h7, sg_alike sC sD, sg_unlike hB sD (by decide), sg_which sD, sg_which sC, log_len sC 1 (by decide), (by rw [h7]; decide)⟩
theorem w_first : turnE T [2, 1] 2 1 = (0, [1, 0, 0, 0, 0, 1]) ∧ (wholeE T [2, 1] 2).log.length ≤ 1 := by
  have h : Sg T 2 [2, 1] 1 [] := ⟨by decide, by decide, rfl, .inr ⟨rfl, [], _, rfl, scanS_none rfl⟩⟩
  refine ⟨?_, log_len h 1 (by decide)⟩
  rw [sg_turn h (.inl rfl)]
  rfl
theorem w_nil : whichE T [] = 0 := which_none (by rw [scan_byte (.inl rfl) (by decide)]) (by rw [scan_byte (.inr rfl) (by decide)])
theorem w_three : fileE T 3 1 [] = (2, []) := rfl
end Go.Proofs.YtfjcnpigpkcfgaaGreat

namespace Go.Proofs.YtfjcnpigpkcfgaaGreat
open Go.RowKit Go.Mv
set_option maxRecDepth 100000
variable {T : Tab}

set_option maxHeartbeats 2000000 in
theorem wakes10_any (w : World) (hT : TabW T w) : Calls Tryz.prog 7 #[] w fun e w' => e = .returned (.bool true) ∧ Ext w w' := by
  have HT := Lib.hid hT
  clear hT
  obtain ⟨C, M, D, u, q, pC, lC, pM, lM, pS, pD, lD, p7, pA, pN, pW1, pW2, g1, g2⟩ := wakes10_plain T
  obtain ⟨pF, g3⟩ := w_first (T := T)
  have P1 := Lib.hid pF
  have P2 := Lib.hid pC
  have P3 := Lib.hid pM
  have P4 := Lib.hid pS
  have P5 := Lib.hid pD
  have P6 := Lib.hid p7
  have P7 := Lib.hid pA
  have P8 := Lib.hid pN
  have P9 := Lib.hid pW1
  have P10 := Lib.hid pW2
  have G1 := Lib.hid g1
  have G2 := Lib.hid g2
  have G3 := Lib.hid g3
  clear pF pC pM pS pD p7 pA pN pW1 pW2 g1 g2 g3
  go_enter Tryz.func7, Tryz.ntmps7
  go_wp2_with fail
  refine (Turn_to P1.out _ _ (HT.out.ext (Ext.alloc (Ext.refl _) _)) (new_bytes w [2, 1] 2 rfl (by simp [maxLen])) (by simp) (by have := G3.out; omega)).mono ?_
  rintro e w1 ⟨A1, c1, rfl, ho1, hE1⟩
  have E1 : Ext w w1 := Ext.trans (Ext.alloc (Ext.refl _) _) hE1
  dsimp only [List.length_cons, List.length_nil, Nat.zero_add, Nat.reduceAdd] at ho1 ⊢
  go_wp2_with fail
  refine (File_to P2.out _ _ (HT.out.ext (Ext.alloc E1 _)) (new_ents w1 eW3 1 rfl (by simp [maxLen])) (by decide)).mono ?_
  rintro e w2 ⟨A2, c2, rfl, ho2, hE2⟩
  have E2 : Ext w1 w2 := Ext.trans (Ext.alloc (Ext.refl _) _) hE2
  go_wp2_with fail
  refine (More_to P3.out _ _ _ (HT.out.ext (Ext.alloc (Ext.trans E1 E2) _)) (ho2.ext (Ext.alloc (Ext.refl _) _)).bs (by omega) (new_ents w2 eW4 1 rfl (by simp [maxLen])) (by decide)).mono ?_
  rintro e w3' ⟨A3, c3, rfl, ho3, hE3⟩
  have E3 : Ext w2 w3' := Ext.trans (Ext.alloc (Ext.refl _) _) hE3
  go_wp2_with (first
    | (at_builtin; refine wpList_app_b rfl (.tmp 34) (.tmp 35) rfl w3'.heap.size _ [] rfl (ownB_empty w3') _ C rfl (ho2.ext (Ext.alloc E3 _)).bs (by simp; omega) (by simp) ?_; intro A4 c4 w4 ho4 hG4; have hE4 : Ext w3' w4 := hG4 w3' (Ext.alloc (Ext.refl _) _) (Nat.le_refl _); simp only [List.length_nil, Nat.zero_add, List.nil_append] at ho4 ⊢)
    | (at_builtin; refine wpList_app_b rfl (.tmp 36) (.tmp 37) rfl w3'.heap.size _ C rfl ho4 _ M rfl (ho3.ext hE4).bs (by omega) hE4.size ?_; intro A5 c5 w5 ho5 hG5; have hE5 : Ext w3' w5 := hG5 w3' hE4 (Nat.le_refl _)))
  refine (Scan_to P4.out _ _ (HT.out.ext (Ext.trans (Ext.trans E1 E2) (Ext.trans E3 hE5))) ho5.bs (by rw [List.length_append]; omega)).mono ?_
  rintro e w6 ⟨A6, c6, rfl, ho6, hE6⟩
  have hs6 : (eW3 ++ eW4).length = 2 := rfl
  rw [hs6] at ho6 ⊢
  have F3 : Ext w w3' := Ext.trans (Ext.trans E1 E2) E3
  have hb7 : Blk (w6.alloc (.cells #[.int .i64 ((9 : Nat) : Int), .slice A6 2 c6, .int .i64 u] 29)) w6.heap.size 29 #[.int .i64 ((9 : Nat) : Int), .slice A6 2 c6, .int .i64 u] := Blk.new w6 _ _
  have E7 : Ext w3' (w6.alloc (.cells #[.int .i64 ((9 : Nat) : Int), .slice A6 2 c6, .int .i64 u] 29)) := Ext.alloc (Ext.trans hE5 hE6) _
  go_wp2_with fail
  refine (Turn_to P5.out _ _ (HT.out.ext (Ext.trans F3 E7)) (ho2.ext (Ext.trans E3 E7)).bs (by omega) (by have := G1.out; omega)).mono ?_
  rintro e w8 ⟨A8, c8, rfl, ho8, hE8⟩
  have E8 := Ext.trans E7 hE8
  go_wp2_with (first
    | (at_builtin; refine wpList_app_b rfl (.tmp 48) (.tmp 49) rfl w8.heap.size _ [] rfl (ownB_empty w8) _ C rfl (ho2.ext (Ext.alloc (Ext.trans E3 E8) _)).bs (by simp; omega) (by simp) ?_; intro A9 c9 w9 ho9 hG9; have hE9 : Ext w8 w9 := hG9 w8 (Ext.alloc (Ext.refl _) _) (Nat.le_refl _); simp only [List.length_nil, Nat.zero_add, List.nil_append] at ho9 ⊢)
    | (at_builtin; refine wpList_app_b rfl (.tmp 50) (.tmp 51) rfl w8.heap.size _ C rfl (ho9.ext (Ext.alloc (Ext.refl _) _)) _ [7] rfl (new_bytes w9 [7] 1 rfl (by simp [maxLen])) (by simp; omega) (by have := hE9.size; simp; omega) ?_; intro A10 c10 w10 ho10 hG10; have hE10 : Ext w8 w10 := hG10 w8 (Ext.alloc hE9 _) (Nat.le_refl _)))
  refine (Turn_to P6.out _ _ (HT.out.ext (Ext.trans F3 (Ext.trans E8 hE10))) (by have := ho10.bs; exact this) (by simp; omega) (by have := G2.out; omega)).mono ?_
  rintro e w11 ⟨A11, c11, rfl, ho11, hE11⟩
  have E11 : Ext w8 w11 := Ext.trans hE10 hE11
  go_wp2_with fail
  refine (File_to (w_three (T := T)) _ _ (HT.out.ext (Ext.trans F3 (Ext.trans E8 E11))) (SlR.nil _ 3) (by decide)).mono ?_
  rintro e w12 ⟨A12, c12, rfl, ho12, hE12⟩
  have E12 : Ext w8 w12 := Ext.trans E11 hE12
  have HB1 : Hid (∀ W, Ext w12 W → Bs W (.slice A1 6 c1) [1, 0, 0, 0, 0, 1]) := fun W hE => (ho1.ext (Ext.trans E2 (Ext.trans E3 (Ext.trans E8 (Ext.trans E12 hE))))).bs
  have HC : Hid (∀ W, Ext w12 W → Bs W (.slice A2 C.length c2) C) := fun W hE => (ho2.ext (Ext.trans E3 (Ext.trans E8 (Ext.trans E12 hE)))).bs
  have HD : Hid (∀ W, Ext w12 W → Bs W (.slice A8 D.length c8) D) := fun W hE => (ho8.ext (Ext.trans E12 hE)).bs
  have F12 : Ext w w12 := Ext.trans F3 (Ext.trans E8 E12)
  have HTT : Hid (∀ W, Ext w12 W → TabW T W) := fun W hE => HT.out.ext (Ext.trans F12 hE)
  have hb12 := hb7.ext (Ext.trans hE8 E12)
  generalize w6.heap.size = n6 at *
  clear ho1 ho2 ho3 ho4 ho5 ho6 ho8 ho9 ho10 ho11 ho12 hG4 hG5 hG9 hG10 hE1 E1 hE2 E2 hE3 E3 hE4 hE5 hE6 F3 hb7 E7 hE8 E8 hE9 hE10 hE11 E11 hE12 E12 HT P1 P2 P3 P4 P5 P6 G1 G2 G3 hs6
  have X0 : Ext w12 (w12.alloc (.cells ([1, 0, 0, 0, 0, 1].map bv).toArray 5)) := Ext.alloc (Ext.refl _) _
  have hS := same10_any _ _ _ _ _ (HB1.out _ X0) (new_bytes w12 [1, 0, 0, 0, 0, 1] 6 rfl (by simp [maxLen]))
  rw [show decide (([1, 0, 0, 0, 0, 1] : List UInt8) = [1, 0, 0, 0, 0, 1]) = true from by decide] at hS
  have HS := Lib.hid hS
  clear hS
  go_wp2_with fail
  refine HS.out.mono ?_
  rintro e w13 ⟨rfl, hE13⟩
  have X13 := Ext.trans X0 hE13
  obtain ⟨t0, t1, t2, _, _, _⟩ := blk3 (hb12.ext X13)
  clear hb12 hE13 HS X0
  go_wp2_with fail
  refine (Alike_to P7.out _ _ _ (HTT.out _ X13) (HC.out _ X13) (HD.out _ X13) (by omega) (by omega)).mono ?_
  rintro e w14 ⟨rfl, hE14⟩
  have X14 := Ext.trans X13 hE14
  clear t0 t1 t2 hE14 X13 P7
  go_wp2_with fail
  refine (Alike_to P8.out _ _ _ (HTT.out _ X14) (HB1.out _ X14) (HD.out _ X14) (by decide) (by omega)).mono ?_
  rintro e w15 ⟨rfl, hE15⟩
  have X15 := Ext.trans X14 hE15
  clear hE15 X14 P8
  go_wp2_with fail
  refine (Which_to P9.out _ _ (HTT.out _ X15) (HD.out _ X15) (by omega)).mono ?_
  rintro e w16 ⟨rfl, hE16⟩
  have X16 := Ext.trans X15 hE16
  clear hE16 X15 P9
  go_wp2_with fail
  refine (Which_to P10.out _ _ (HTT.out _ X16) (HC.out _ X16) (by omega)).mono ?_
  rintro e w17 ⟨rfl, hE17⟩
  have X17 := Ext.trans X16 hE17
  clear hE17 X16 P10
  go_wp2_with fail
  refine (Which_to (w_nil (T := T)) _ _ (HTT.out _ X17) (SlR.nil _ 1) (by decide)).mono ?_
  rintro e w18 ⟨rfl, hE18⟩
  have X18 := Ext.trans X17 hE18
  clear hE18 X17
  go_wp2_with fail
  go_ret
  exact ⟨rfl, Ext.trans F12 X18⟩
end Go.Proofs.YtfjcnpigpkcfgaaGreat

namespace Go.Proofs.YtfjcnpigpkcfgaaGreat
open Go.RowKit Go.Mv
set_option maxRecDepth 100000

def valN : Option Value → Nat
  | some (.int _ n) => n.toNat
  | _ => 0
theorem tab_of_shape {W : World} (h : W.ShapedOpen Tryz.prog) : ∃ T, TabW T W := by
  obtain ⟨cs, hh, hs, hr⟩ := h.1 0 #[.int .u32 0, .int .u32 0, .int .u32 0, .int .u32 0, .int .u32 0, .int .u32 0, .int .u32 0, .int .u32 0, .int .u32 0, .int .u32 0, .int .u32 0, .int .u32 0, .int .u32 0, .int .u32 0, .int .u32 0, .int .u32 0] 140 (of_decide_eq_true (by kernel_rfl)) (by kernel_rfl)
  obtain ⟨ts, hts, _, hall⟩ := hr (by kernel_rfl)
  have hc : (Tryz.prog).cellTypes (Tryz.prog).depth 140 = some (List.replicate 16 100) := by kernel_rfl
  rw [hc] at hts
  cases hts
  have hsz : cs.size = 16 := hs
  have key : ∀ i, i < 16 → ∃ n : Nat, n < 4294967296 ∧ cs[i]? = some (.int .u32 (n : Int)) := by
    intro i hi
    have h1 : i < cs.size := by omega
    obtain ⟨u, hu', hok⟩ := hall i cs[i] (by simp [h1])
    have hu : u = 100 := by
      rw [List.length_replicate, Nat.mod_eq_of_lt hi, List.getElem?_replicate, if_pos hi] at hu'
      injection hu' with e
      exact e.symm
    subst hu
    unfold Cell.ok at hok
    rw [Tryz.underlying100] at hok
    have hget : cs[i]? = some cs[i] := by simp [h1]
    cases hv : cs[i] <;> rw [hv] at hok <;> simp at hok
    case int k' n =>
      obtain ⟨rfl, hn⟩ := hok
      rw [hget, hv]
      have hr : 0 ≤ n ∧ n < 4294967296 := by
        obtain ⟨a, b⟩ := hn
        have e1 : IntKind.u32.min = 0 := by decide
        have e2 : IntKind.u32.max = 4294967295 := by decide
        omega
      exact ⟨n.toNat, by omega, by rw [Int.toNat_of_nonneg hr.1]⟩
  let l : List Nat := (List.range 16).map fun i => valN cs[i]?
  have hl : ∀ i (hi : i < 16), ∃ n : Nat, n < 4294967296 ∧ cs[i]? = some (.int .u32 (n : Int)) ∧ l.getD i 0 = n := by
    intro i hi
    obtain ⟨n, h1, h2⟩ := key i hi
    refine ⟨n, h1, h2, ?_⟩
    simp [l, List.getD_eq_getElem?_getD, List.getElem?_map, List.getElem?_range hi, h2, valN]
  refine ⟨⟨l, fun i => ?_⟩, fun i hi => ?_⟩
  · by_cases hi : i < 16
    · obtain ⟨n, h1, _, h3⟩ := hl i hi
      rw [h3]; exact h1
    · have : l.getD i 0 = 0 := by
        rw [List.getD_eq_getElem?_getD, List.getElem?_eq_none (by simp [l]; omega)]; rfl
      rw [this]; decide
  · obtain ⟨n, _, h2, h3⟩ := hl i hi
    show W.cell? _ = some (.int .u32 ((l.getD i 0 : Nat) : Int))
    rw [h3, ← h2]
    simp [World.cell?, hh]
end Go.Proofs.YtfjcnpigpkcfgaaGreat

namespace Go.Proofs.YtfjcnpigpkcfgaaGreat
open Go.ChangeShapes Go.WideShapes Go.ChangeAt Go.RowKit Go.Deep Go.Mv
set_option maxRecDepth 100000

theorem own : ownKnob Tryz.prog.godebug = none := by kernel_rfl
theorem laidOut : laidOutB Tryz.prog = true := by kernel_rfl
theorem cellsEnt : Tryz.prog.cellsOf 41 = 3 := by kernel_rfl
theorem cellsInt : Tryz.prog.cellsOf 3 = 1 := by kernel_rfl
theorem cellsU8 : Tryz.prog.cellsOf 5 = 1 := by kernel_rfl

instance : Inhabited Ent := ⟨⟨0, 0, 0⟩⟩

theorem slr_of_cells {w : World} {a : Addr} {size n c : Nat} {xs : List Value} (hl : xs.length = n * size) (h1 : n ≤ c) (h2 : c ≤ maxLen) (hs : 0 < size) (h : ∀ j u, xs[j]? = some u → w.cell? (a.add j) = some u) : SlR w size (.slice (some a) n c) n xs := by
  refine ⟨hl, _, c, rfl, h1, h2, fun hn => ?_⟩
  obtain ⟨b, off, sp⟩ := a
  have h0 : 0 < xs.length := by rw [hl]; exact Nat.mul_pos hn hs
  have hc := h 0 xs[0] (List.getElem?_eq_getElem h0)
  cases sp with
  | none =>
    refine ⟨b, off, rfl, fun j u hu => ?_⟩
    have := h j u hu
    rwa [show (⟨b, off, none⟩ : Addr).add j = ⟨b, off + j, none⟩ from by unfold Addr.add; split <;> simp_all] at this
  | some k =>
    exfalso
    unfold World.cell? Addr.add at hc
    simp at hc
    split at hc <;> simp_all

section
variable {H : Type} {enc : TypeId × Value → H} {W : World} {base : Nat} {v : Value} {d : DataW H} {p : List MemPlace}
theorem es_of_trod (hv : Value.okWide Tryz.prog W .any base 22 v) (h : DataW.Trod enc Tryz.prog W 0 (fun _ => true) true 22 v d p) : ∃ es, Es W v es := by
  obtain ⟨a0, len, cap, rfl⟩ := okWide_slice Tryz.underlying22 hv
  obtain ⟨fuel, hf⟩ := h
  have hf' : DataW.trod enc Tryz.prog W 0 (fun _ => true) true fuel 22 [.slice a0 len cap] = some (d, p) := by simpa [Value.cells] using hf
  rcases open_slice Tryz.underlying22 hf' with ⟨hcs, _⟩ | ⟨a, len', cap', m, n, D, Pl, hcs, hb, hl, hm, hmm, hx, hi⟩
  · cases hcs; exact ⟨[], SlR.nil _ 3⟩
  · cases hcs
    have hmc : m = cap := by simpa using hmm
    have each : ∀ i, i < len → ∃ e : Ent, W.cell? (a.add (i * 3)) = some (.int .i64 e.t) ∧ W.cell? (a.add (i * 3 + 1)) = some (.int .i64 e.k) ∧ W.cell? (a.add (i * 3 + 2)) = some (.int .i64 e.v) := by
      intro i hil
      obtain ⟨cs, h1, h2⟩ := hi i (by omega)
      rw [cellsEnt] at h1
      obtain ⟨_, hcl, hcell⟩ := World.cells?_some h1
      obtain ⟨xs, n', _, _, _, hxl, hf⟩ := DataW.trod_struct Tryz.underlying41 h2
      match cs, hcl with
      | [c0, c1, c2], _ =>
        have g0 := hf 0 _ rfl
        have g1 := hf 1 _ rfl
        have g2 := hf 2 _ rfl
        have hxl' : xs.length = 3 := hxl
        match xs, hxl' with
        | [x0, x1, x2], _ =>
          obtain ⟨n0, e0, _, _⟩ := DataW.trod_int Tryz.underlying3 g0
          obtain ⟨n1, e1, _, _⟩ := DataW.trod_int Tryz.underlying3 g1
          obtain ⟨n2, e2, _, _⟩ := DataW.trod_int Tryz.underlying3 g2
          have k0 : c0 = .int .i64 n0 := by have h : List.take (Tryz.prog.cellsOf 3) [c0, c1, c2] = [Value.int .i64 n0] := e0; rw [cellsInt] at h; simpa using h
          have k1 : c1 = .int .i64 n1 := by have h : List.take (Tryz.prog.cellsOf 3) [c1, c2] = [Value.int .i64 n1] := e1; rw [cellsInt] at h; simpa using h
          have k2 : c2 = .int .i64 n2 := by have h : List.take (Tryz.prog.cellsOf 3) [c2] = [Value.int .i64 n2] := e2; rw [cellsInt] at h; simpa using h
          subst k0 k1 k2
          have q0 := hcell 0 (by omega)
          have q1 := hcell 1 (by omega)
          have q2 := hcell 2 (by omega)
          rw [Go.Deep.add_add] at q0 q1 q2
          exact ⟨⟨n0, n1, n2⟩, by simpa using q0, by simpa using q1, by simpa using q2⟩
    obtain ⟨E, hE⟩ := choose_lt (α := Ent) (p := fun i e => W.cell? (a.add (i * 3)) = some (.int .i64 e.t) ∧ W.cell? (a.add (i * 3 + 1)) = some (.int .i64 e.k) ∧ W.cell? (a.add (i * 3 + 2)) = some (.int .i64 e.v)) each
    refine ⟨(List.range len).map E, ?_⟩
    unfold Es
    rw [List.length_map, List.length_range]
    refine slr_of_cells (by rw [entCells_len]; simp) hl hm (by decide) (fun j u hu => ?_)
    have hj := (List.getElem?_eq_some_iff.1 hu).1
    rw [entCells_len, List.length_map, List.length_range] at hj
    have hq : j / 3 < ((List.range len).map E).length := by rw [List.length_map, List.length_range]; omega
    have hat := entCells_at ((List.range len).map E) (j / 3) hq (j % 3) (Nat.mod_lt _ (by decide))
    rw [show j / 3 * 3 + j % 3 = j from by omega, hu] at hat
    simp only [List.getElem_map, List.getElem_range] at hat
    obtain ⟨h0, h1, h2⟩ := hE (j / 3) (by omega)
    have hr : j % 3 = 0 ∨ j % 3 = 1 ∨ j % 3 = 2 := by omega
    rcases hr with hr | hr | hr
    · rw [hr] at hat
      cases hat
      have h := h0; rw [show j / 3 * 3 = j from by omega] at h; exact h
    · rw [hr] at hat
      cases hat
      have h := h1; rw [show j / 3 * 3 + 1 = j from by omega] at h; exact h
    · rw [hr] at hat
      cases hat
      have h := h2; rw [show j / 3 * 3 + 2 = j from by omega] at h; exact h

theorem bs_of_trod (hv : Value.okWide Tryz.prog W .any base 23 v) (h : DataW.Trod enc Tryz.prog W 0 (fun _ => true) true 23 v d p) : ∃ bs, Bs W v bs := by
  obtain ⟨a0, len, cap, rfl⟩ := okWide_slice Tryz.underlying23 hv
  obtain ⟨fuel, hf⟩ := h
  have hf' : DataW.trod enc Tryz.prog W 0 (fun _ => true) true fuel 23 [.slice a0 len cap] = some (d, p) := by simpa [Value.cells] using hf
  rcases open_ints Tryz.underlying23 Tryz.underlying5 cellsU8 hf' with ⟨hcs, _⟩ | ⟨a, len', cap', zs, hcs, hb, hl, hm, hz, hx, hcell, hw⟩
  · cases hcs; exact ⟨[], SlR.nil _ 1⟩
  · cases hcs
    have hzc : zs.length = cap := by simpa using hz
    refine ⟨(zs.take len).map (fun n => UInt8.ofNat n.toNat), ?_⟩
    unfold Bs
    rw [List.length_map, List.length_take, Nat.min_eq_left (by omega)]
    refine slr_of_cells (by simp; omega) hl hm (by decide) (fun j u hu => ?_)
    have hj := (List.getElem?_eq_some_iff.1 hu).1
    simp only [List.length_map, List.length_take, Nat.lt_min] at hj
    rw [hcell j (by omega), ← hu]
    have hwf := hw (zs[j]'(by omega)) (List.getElem_mem _)
    have hr : 0 ≤ zs[j]'(by omega) ∧ zs[j]'(by omega) ≤ 255 := by simpa [Lit.wf, IntKind.min, IntKind.max, IntKind.signed, IntKind.bits] using hwf
    have h1 : zs.getD j 0 = zs[j]'(by omega) := by simp [List.getD, List.getElem?_eq_getElem (show j < zs.length by omega)]
    rw [h1]
    have h2 : ((List.map (fun n : Int => UInt8.ofNat n.toNat) (zs.take len)).map bv)[j]? = some (bv (UInt8.ofNat (zs[j]'(by omega)).toNat)) := by
      simp [List.getElem?_map, List.getElem?_take, hj.1, List.getElem?_eq_getElem (show j < zs.length by omega)]
    rw [h2]
    simp [bv]
    omega
end
section
variable {H : Type} {enc : TypeId × Value → H} {P : Program}
theorem post_of_below {f : Func} {s : ChangeSpec} {apart fresh handsOn again : Bool} {W W' : World} {args : Array Value} {v : Value} {ds gs : List (DataW H)} {before pa pv : List MemPlace}
    (hW : DataW.Whole enc P f.params.toList s.vars apart W args.toList ds gs before)
    (hres : ∀ (b : Nat) (sp : Nat → Bool) (hd : Bool), DataW.TrodAll enc P W' b sp hd f.resultTypes.toList (v.resultList f.resultTypes.size) (s.fn H (ds ++ gs)).results [])
    (hargs : ∀ sp : Nat → Bool, (∀ p ∈ before, sp p.block = true) → DataW.TrodAll enc P W' 0 sp true f.params.toList args.toList (s.fn H (ds ++ gs)).args pa)
    (hvars : ∀ sp : Nat → Bool, (∀ p ∈ before, sp p.block = true) → DataW.TrodVars enc P W' sp s.vars (s.fn H (ds ++ gs)).vars pv)
    (hps : before = pa ++ pv) (hb : Below W.heap.size W W')
    (hok : ∀ (j : Nat) (t : TypeId) (r : Value), f.resultTypes[j]? = some t → (v.resultList f.resultTypes.size)[j]? = some r → Value.okWide P W' .any 0 t r) :
    s.post enc P f apart fresh handsOn again W args v W' := by
  have hlt : ∀ p ∈ before, p.block < W.heap.size := fun p hp => hW.lt p hp
  have hold : ∀ p ∈ before, (fun b => decide (b < W.heap.size)) p.block = true := fun p hp => by simpa using hlt p hp
  refine ⟨ds, gs, before, [], pa, pv, hW, hres _ _ _, hargs _ hold, hvars _ hold, World.keptBut_mono (fun p hp => ⟨hp, ?_⟩) (hb.frame (· ∈ before)), fun _ => ?_⟩
  · rw [hps, List.mem_append] at hp
    exact Or.inr hp
  · obtain ⟨_, _, _, _, _, hz, hn⟩ := hW
    refine ⟨hok, _, _, ([] ++ pa) ++ pv, ⟨[] ++ pa, pv, trodAll_append (hargs _ (fun _ _ => rfl)) (hres _ _ _), hvars _ (fun _ _ => rfl), rfl, ?_, ?_⟩, ?_⟩
    · intro b off hp
      have hin : MemPlace.cell b off ∈ before := by rw [hps]; simpa using hp
      rw [hb.frozen (hlt _ hin)]
      exact hz b off hin
    · intro ha
      have := hn ha
      rw [hps] at this
      simpa using this
    · intro p hp _
      rw [hps]
      simpa using hp
end
end Go.Proofs.YtfjcnpigpkcfgaaGreat
