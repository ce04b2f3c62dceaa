/-
  The walk of moultref08.Head.
  The walk of two.Block.
  The walk of moultref08.Block.
  The walk of moultref08.blocks.
  The walk of moultref08.File.
  The walk of slices.Chunk's iterator over entries, by fours.
  The walks of slices.Chunk over entries, two.blocks (the calls that make the iterators).
-/
import Derived.Test.YtfjcnpigpkcfgaaGreatM7
import Derived.Deep.RegionHeld3
set_option linter.all false
namespace Go.Proofs.YtfjcnpigpkcfgaaGreat
open Go.RowKit Go.Mv
set_option maxRecDepth 100000

set_option maxHeartbeats 1000000 in
theorem refHead_any (first : Int) (w : World) : Calls Tryz.prog 38 #[.int .i64 first] w (ResP w (headS first)) := by
  have hIs : Is (w.alloc (.cells #[.int .i64 first] 3)) (.slice (some ⟨w.heap.size, 0, none⟩) 1 1) [first] := SlR.of_own (own_new w [.int .i64 first] 3 1 rfl (by simp [maxLen]) (Nat.le_refl _))
  by_cases hn : numB first = true
  · have hall : allNum [first] = true := by simp [allNum, hn]
    have hS := Lib.hid (refShort_ok _ _ _ hIs hall (by simp))
    have hn2 : 0 ≤ first ∧ first ≤ 1073741824 := by simpa [numB] using hn
    by_cases h0 : first < 1
    · have hh : headS first = (2, []) := by unfold headS; rw [if_neg (fun h => h.2 (by omega))]
      unfold ResP
      rw [hh]
      clear hh hall hIs hn
      go_enter Tryz.func38, Tryz.ntmps38
      go_wp2_with (go_at_call 49; refine hS.out.mono ?_; rintro e w1 ⟨v1, rfl, ho1, hE1⟩)
      go_ret2
      exact ⟨_, rfl, World.ownsRow_nil _ _ _ _, Ext.trans (Ext.alloc (Ext.refl _) _) hE1⟩
    · have hh : headS first = (0, 2 :: shorts [first]) := by unfold headS; rw [if_pos ⟨hn, by omega⟩]
      have hl := shorts_len [first]
      unfold ResP
      rw [hh]
      obtain ⟨bs, hbs⟩ : ∃ bs, shorts [first] = bs := ⟨_, rfl⟩
      rw [hbs] at hl ⊢
      have hl2 : bs.length ≤ 5 := by simpa using hl
      have Hbs := Lib.hid hbs
      obtain ⟨i0, hi, hz0, hz1, hz2⟩ := info_parts info_u8
      clear hbs hl hh hall hIs hn
      go_enter Tryz.func38, Tryz.ntmps38
      go_wp2_with (first
        | (go_at_call 49; refine hS.out.mono ?_; rintro e w1 ⟨v1, rfl, ho1, hE1⟩; rw [Hbs.out] at ho1; obtain ⟨A, c, rfl, _, _⟩ := SlR.open_ (SlR.of_own ho1))
        | (at_builtin
           have hE2 : Ext w (w1.alloc (.cells #[.int .u8 2] 5)) := Ext.alloc (Ext.trans (Ext.alloc (Ext.refl _) _) hE1) _
           have hb1 : w.heap.size ≤ w1.heap.size := by have := hE1.size; simp at this; omega
           have hon : (w1.alloc (.cells #[.int .u8 2] 5)).ownsRow w.heap.size 5 1 (.slice (some ⟨w1.heap.size, 0, none⟩) 1 1) 1 [.int .u8 2] := own_new w1 [.int .u8 2] 5 1 rfl (by simp [maxLen]) hb1
           have h4 : SlR (w1.alloc (.cells #[.int .u8 2] 5)) 1 (.slice A bs.length c) bs.length (bs.map bv) := SlR.ext (SlR.of_own ho1) (Ext.alloc (Ext.refl _) _)
           refine wpList_append_sl _ rfl (.tmp 18) (.tmp 19) 23 rfl w.heap.size 5 i0 (.int .u8 0) 1 1 Tryz.underlying23 hi hz0 hz1 hz2 rfl (by decide) _ 1 [.int .u8 2] rfl hon _ bs.length (bs.map bv) rfl h4 (one_bv _) (by unfold maxLen; omega) (by omega) hE2.size ?_
           intro v' w2 hown' hgrow))
      go_ret2
      refine ⟨v', rfl, ?_, Ext.grownOwn hE2 hon hgrow⟩
      rw [show 1 + bs.length = (2 :: bs).length from by simp; omega] at hown'
      exact hown'
  · have hall : allNum [first] = false := by simp [allNum, hn]
    have hS := Lib.hid (refShort_bad _ _ _ hIs hall)
    have hh : headS first = (2, []) := by unfold headS; rw [if_neg (fun h => hn h.1)]
    unfold ResP
    rw [hh]
    clear hh hall hIs hn
    by_cases h0 : first < 1
    all_goals
      go_enter Tryz.func38, Tryz.ntmps38
      go_wp2_with (go_at_call 49; refine hS.out.mono ?_; rintro e w1 ⟨rfl, hE1⟩)
      go_ret2
      exact ⟨_, rfl, World.ownsRow_nil _ _ _ _, Ext.trans (Ext.alloc (Ext.refl _) _) hE1⟩
end Go.Proofs.YtfjcnpigpkcfgaaGreat

namespace Go.Proofs.YtfjcnpigpkcfgaaGreat
open Go.RowKit Go.Mv
set_option maxRecDepth 100000

def entS (e : Ent) : List UInt8 := shorts [e.t, e.k, e.v]
def blkOk (es : List Ent) : Bool := decide (0 < es.length ∧ es.length ≤ 4) && allOk es
/-- A block without its four last bytes; a block. -/
def blkBody (es : List Ent) : List UInt8 := UInt8.ofNat es.length :: es.flatMap entS
def blkS (p : Nat × Nat) (es : List Ent) : List UInt8 := blkBody es ++ fourB (chainP p (blkBody es))
theorem entS_len (e : Ent) : (entS e).length ≤ 15 := by have := shorts_len [e.t, e.k, e.v]; simpa [entS] using this
theorem entsS_len (es : List Ent) : (es.flatMap entS).length ≤ 15 * es.length := by
  induction es with
  | nil => simp
  | cons e es ih => have := entS_len e; rw [List.flatMap_cons, List.length_append, List.length_cons]; omega
theorem ok_nums {e : Ent} (h : e.ok = true) : allNum [e.t, e.k, e.v] = true := by
  have := okB_true.1 h
  unfold Ent.okP at this
  simp only [allNum, List.all_cons, List.all_nil, Bool.and_true, Bool.and_eq_true, numB_true]
  omega
theorem allOk_at {es : List Ent} (h : allOk es = true) (k : Nat) (hk : k < es.length) : es[k].ok = true := by
  unfold allOk at h
  exact List.all_eq_true.1 h _ (List.getElem_mem hk)
theorem fm_take (es : List Ent) (k : Nat) (h : k < es.length) : (es.take (k + 1)).flatMap entS = (es.take k).flatMap entS ++ entS es[k] := by
  rw [List.take_succ_eq_append_getElem h, List.flatMap_append]; simp

def BlkOkP (p : Nat × Nat) (es : List Ent) (w : World) (e : Ending) (w' : World) : Prop :=
  ∃ v vz, e = .returned (.tuple #[v, vz, .int .i64 0]) ∧ PtV vz (chainP p (blkBody es)) ∧ w'.ownsRow w.heap.size 5 1 v (blkS p es).length ((blkS p es).map bv) ∧ Ext w w'
def BlkBadP (w : World) (e : Ending) (w' : World) : Prop := e = .returned (.tuple #[.slice none 0 0, .complex .f64 0 0, .int .i64 2]) ∧ Ext w w'

set_option maxHeartbeats 1000000 in
theorem Block_bad (z v : Value) (es : List Ent) (w : World) (h : Es w v es) (hb : blkOk es = false) : Calls Tryz.prog 138 #[z, v] w (BlkBadP w) := by
  obtain ⟨A, c, rfl, h1, h2⟩ := SlR.open_ h
  have hB := Lib.hid (fun w (h : Es w (.slice A es.length c) es) => bad_any _ es w h)
  have H := Lib.hid h
  by_cases hl : 0 < es.length ∧ es.length ≤ 4
  · have ha : allOk es = false := by simpa [blkOk, hl] using hb
    obtain ⟨hl1, hl2⟩ := hl
    have e0 : ((es.length : Int) == 0) = false := by rw [beq_eq_false_iff_ne]; omega
    clear hb h
    go_enter Tryz.func138, Tryz.ntmps138
    go_wp2_with (go_at_call 126; refine (hB.out _ H.out).mono ?_; rintro e w' ⟨rfl, hE⟩)
    go_ret3
    exact ⟨rfl, hE⟩
  · clear hb h
    by_cases e0 : es.length = 0
    · have e1 : ((es.length : Int) == 0) = true := by rw [beq_iff_eq]; omega
      go_enter Tryz.func138, Tryz.ntmps138
      go_wp2_with fail
      go_ret3
      exact ⟨rfl, Ext.refl _⟩
    · have e1 : ((es.length : Int) == 0) = false := by rw [beq_eq_false_iff_ne]; omega
      have h4 : 4 < es.length := by omega
      clear e0 hl
      go_enter Tryz.func138, Tryz.ntmps138
      go_wp2_with fail
      go_ret3
      exact ⟨rfl, Ext.refl _⟩

set_option maxHeartbeats 1000000 in
theorem Block_ok (za zb : Nat) (v : Value) (es : List Ent) (w : World) (h : Es w v es) (hb : blkOk es = true) : Calls Tryz.prog 138 #[.complex .f64 za zb, v] w (BlkOkP (ptV (.complex .f64 za zb)) es w) := by
  obtain ⟨A, c, rfl, h1, h2⟩ := SlR.open_ h
  have hB := Lib.hid (fun w (h : Es w (.slice A es.length c) es) => bad_any _ es w h)
  have H := Lib.hid h
  have hl : (0 < es.length ∧ es.length ≤ 4) ∧ allOk es = true := by simpa [blkOk] using hb
  obtain ⟨⟨hl1, hl2⟩, ha⟩ := hl
  have e0 : ((es.length : Int) == 0) = false := by rw [beq_eq_false_iff_ne]; omega
  obtain ⟨i0, hi, hz0, hz1, hz2⟩ := info_parts info_u8
  have Ha := Lib.hid ha
  rw [ha] at hB
  clear hb h ha
  go_enter Tryz.func138, Tryz.ntmps138
  go_wp2_with (go_at_call 126; refine (hB.out _ H.out).mono ?_; rintro e w1 ⟨rfl, hE1⟩)
  go_loopw [7, 31] (fun vb i wr => ∃ k : Nat, k ≤ es.length ∧ i = .int .i64 k ∧ wr.ownsRow w.heap.size 5 1 vb (1 + ((es.take k).flatMap entS).length) (.int .u8 es.length :: ((es.take k).flatMap entS).map bv) ∧ Ext w wr) (fun _ i _ => es.length - (intOf i).toNat)
  case atStart =>
    refine ⟨0, Nat.zero_le _, rfl, ?_, Ext.alloc hE1 _⟩
    have := own_new w1 [.int .u8 (es.length : Int)] 5 1 rfl (by simp [maxLen]) hE1.size
    simpa using this
  case round =>
    obtain ⟨k, hk, rfl, hown, hE⟩ := hrel
    by_cases hlt : k < es.length
    · have hes := Es.ext H.out hE
      obtain ⟨_, b, off, rfl, hc⟩ := Es.at_ hes (by omega)
      obtain ⟨hc0, hc1, hc2⟩ := hc k hlt
      have hok := ok_nums (allOk_at Ha.out k hlt)
      have hbl : b < wr.heap.size := World.block_lt_of_cell? wr _ hc0
      have hfm := fm_take es k hlt
      obtain ⟨bs, hbs⟩ : ∃ bs, shorts [es[k].t, es[k].k, es[k].v] = bs := ⟨_, rfl⟩
      rw [show entS es[k] = bs from hbs] at hfm
      have hbl2 : bs.length ≤ 15 := by rw [← hbs]; exact entS_len es[k]
      have hpl : ((es.take k).flatMap entS).length ≤ 60 := by
        have := entsS_len (es.take k)
        rw [List.length_take] at this
        omega
      have Hfm := Lib.hid hfm
      have Hbs := Lib.hid hbs
      have Hok := Lib.hid hok
      clear hfm hbs hc hok
      generalize es[k].t = et at *
      generalize es[k].k = ek at *
      generalize es[k].v = ev at *
      generalize (es.take k).flatMap entS = pre at *
      obtain ⟨gb, cb, rfl, _, _, _⟩ := ownsRow_pos hown (by omega)
      go_wp2_with (first
        | (go_at_call 132
           have hIs : Is ((wr.alloc (.cells #[.int .i64 et, .int .i64 ek, .int .i64 ev] 41)).alloc (.cells #[.int .i64 et, .int .i64 ek, .int .i64 ev] 3)) (.slice (some ⟨wr.heap.size + 1, 0, none⟩) 3 3) [et, ek, ev] := by
             have h := own_new (wr.alloc (.cells #[.int .i64 et, .int .i64 ek, .int .i64 ev] 41)) [.int .i64 et, .int .i64 ek, .int .i64 ev] 3 3 rfl (by simp [maxLen]) (Nat.le_refl _)
             rw [World.size_alloc] at h
             exact SlR.of_own h
           refine (Short_ok _ _ _ hIs Hok.out (by simp)).mono ?_
           rintro e w2 ⟨v2, rfl, ho2, hE2⟩
           rw [Hbs.out] at ho2
           obtain ⟨A2, c2, rfl, _, _⟩ := SlR.open_ (SlR.of_own ho2))
        | (at_builtin
           have hE3 : Ext wr w2 := Ext.trans (Ext.alloc (Ext.alloc (Ext.refl _) _) _) hE2
           have hon := own_ext hown hE3
           refine wpList_append_sl _ rfl (.tmp 46) (.tmp 47) 23 rfl w.heap.size 5 i0 (.int .u8 0) 1 1 Tryz.underlying23 hi hz0 hz1 hz2 rfl (by decide) _ (1 + pre.length) _ rfl hon _ bs.length (bs.map bv) rfl (SlR.of_own ho2) (one_bv _) (by unfold maxLen; omega) (by omega) (Ext.trans hE hE3).size ?_
           intro v' w3 hown' hgrow))
      go_roundw
      case rel =>
        refine ⟨k + 1, by omega, by go_num, ?_, Ext.grownOwn (Ext.trans hE hE3) hon hgrow⟩
        rw [Hfm.out]
        simpa [Nat.add_assoc] using hown'
      case measure => simp [intOf]; omega
    · have htk : es.take k = es := List.take_of_length_le (by omega)
      rw [htk] at hown
      obtain ⟨body, hbody⟩ : ∃ body, blkBody es = body := ⟨_, rfl⟩
      have hbl : body.length = 1 + (es.flatMap entS).length := by rw [← hbody]; unfold blkBody; simp; omega
      have hbl2 : body.length ≤ 61 := by have := entsS_len es; omega
      have hbl1 : 0 < body.length := by omega
      have hcells : (.int .u8 (es.length : Int) : Value) :: (es.flatMap entS).map bv = body.map bv := by
        rw [← hbody]; unfold blkBody
        rw [List.map_cons]
        congr 1
        simp [bv]; omega
      rw [hcells, ← hbl] at hown
      have Hbody := Lib.hid hbody
      clear htk hcells hbody hbl
      obtain ⟨gb, cb, rfl, _, _, _⟩ := ownsRow_pos hown hbl1
      go_wp2_with (first
        | (go_at_call 129
           have hbs : Bs wr (.slice (some ⟨gb, 0, none⟩) body.length cb) body := SlR.of_own hown
           have hp : Parts (wr.alloc (.cells #[.slice (some ⟨gb, 0, none⟩) body.length cb] 23)) (.slice (some ⟨wr.heap.size, 0, none⟩) 1 1) [body] := parts1 hbs
           refine (Chain_any za zb _ _ _ hp).mono ?_
           rintro e w2 ⟨vz, rfl, hpz, hE2⟩
           rw [show [body].flatten = body from by simp] at hpz
           have HPZ := Lib.hid hpz
           have hpt := hpz.pt
           obtain ⟨a1, b1, rfl, _, _⟩ := hpz
           obtain ⟨f0, f1, f2, f3, hf⟩ : ∃ f0 f1 f2 f3 : UInt8, fourB (chainP (ptV (.complex .f64 za zb)) body) = [f0, f1, f2, f3] := ⟨_, _, _, _, rfl⟩
           have HF : Hid (∀ W, Calls Tryz.prog 144 #[.complex .f64 a1 b1] W fun e w' => e = .returned (.agg #[.int .u8 f0.toNat, .int .u8 f1.toNat, .int .u8 f2.toNat, .int .u8 f3.toNat]) ∧ Ext W w') := by
             intro W
             refine (Four_any a1 b1 W).mono ?_
             rintro e w' ⟨rfl, hE⟩
             exact ⟨by rw [hpt, hf]; rfl, hE⟩
           have Hf := Lib.hid hf
           clear hf hpt)
        | (go_at_call 144; refine (HF.out _).mono ?_; rintro e w3 ⟨rfl, hE3⟩)
        | (at_builtin
           have hE5 : Ext wr (w3.alloc (.cells #[.int .u8 f0.toNat, .int .u8 f1.toNat, .int .u8 f2.toNat, .int .u8 f3.toNat] 92)) := Ext.alloc (Ext.trans (Ext.trans (Ext.alloc (Ext.refl _) _) hE2) hE3) _
           have hon := own_ext hown hE5
           have h4 : SlR (w3.alloc (.cells #[.int .u8 f0.toNat, .int .u8 f1.toNat, .int .u8 f2.toNat, .int .u8 f3.toNat] 92)) 1 (.slice (some ⟨w3.heap.size, 0, none⟩) 4 4) 4 ([f0, f1, f2, f3].map bv) := SlR.of_own (own_new w3 ([f0, f1, f2, f3].map bv) 92 4 rfl (by simp [maxLen]) (Nat.le_refl _))
           refine wpList_append_sl _ rfl (.tmp 56) (.tmp 57) 23 rfl w.heap.size 5 i0 (.int .u8 0) 1 1 Tryz.underlying23 hi hz0 hz1 hz2 rfl (by decide) _ body.length _ rfl hon _ 4 _ rfl h4 (one_bv _) (by unfold maxLen; omega) (by omega) (Ext.trans hE hE5).size ?_
           intro v' w4 hown' hgrow))
      go_ret3
      refine ⟨v', .complex .f64 a1 b1, rfl, ?_, ?_, Ext.grownOwn (Ext.trans hE hE5) hon hgrow⟩
      · rw [Hbody.out]; exact HPZ.out
      · unfold blkS
        rw [Hbody.out, Hf.out]
        simpa using hown'
end Go.Proofs.YtfjcnpigpkcfgaaGreat

namespace Go.Proofs.YtfjcnpigpkcfgaaGreat
open Go.RowKit Go.Mv
set_option maxRecDepth 100000

set_option maxHeartbeats 1000000 in
theorem refBlock_bad (z v : Value) (es : List Ent) (w : World) (h : Es w v es) (hb : blkOk es = false) : Calls Tryz.prog 50 #[z, v] w (BlkBadP w) := by
  obtain ⟨A, c, rfl, h1, h2⟩ := SlR.open_ h
  have hB := Lib.hid (fun w (h : Es w (.slice A es.length c) es) => fine_any _ es w h)
  have H := Lib.hid h
  by_cases hl : 0 < es.length ∧ es.length ≤ 4
  · have ha : allOk es = false := by simpa [blkOk, hl] using hb
    obtain ⟨hl1, hl2⟩ := hl
    have e0 : ((es.length : Int) == 0) = false := by rw [beq_eq_false_iff_ne]; omega
    clear hb h
    go_enter Tryz.func50, Tryz.ntmps50
    go_wp2_with (go_at_call 39; refine (hB.out _ H.out).mono ?_; rintro e w' ⟨rfl, hE⟩)
    go_ret3
    exact ⟨rfl, hE⟩
  · clear hb h
    by_cases e0 : es.length = 0
    · have e1 : ((es.length : Int) == 0) = true := by rw [beq_iff_eq]; omega
      go_enter Tryz.func50, Tryz.ntmps50
      go_wp2_with fail
      go_ret3
      exact ⟨rfl, Ext.refl _⟩
    · have e1 : ((es.length : Int) == 0) = false := by rw [beq_eq_false_iff_ne]; omega
      have h4 : 4 < es.length := by omega
      clear e0 hl
      go_enter Tryz.func50, Tryz.ntmps50
      go_wp2_with fail
      go_ret3
      exact ⟨rfl, Ext.refl _⟩

set_option maxHeartbeats 1000000 in
theorem refBlock_ok (za zb : Nat) (v : Value) (es : List Ent) (w : World) (h : Es w v es) (hb : blkOk es = true) : Calls Tryz.prog 50 #[.complex .f64 za zb, v] w (BlkOkP (ptV (.complex .f64 za zb)) es w) := by
  obtain ⟨A, c, rfl, h1, h2⟩ := SlR.open_ h
  have hB := Lib.hid (fun w (h : Es w (.slice A es.length c) es) => fine_any _ es w h)
  have H := Lib.hid h
  have hl : (0 < es.length ∧ es.length ≤ 4) ∧ allOk es = true := by simpa [blkOk] using hb
  obtain ⟨⟨hl1, hl2⟩, ha⟩ := hl
  have e0 : ((es.length : Int) == 0) = false := by rw [beq_eq_false_iff_ne]; omega
  obtain ⟨i0, hi, hz0, hz1, hz2⟩ := info_parts info_u8
  have Ha := Lib.hid ha
  rw [ha] at hB
  clear hb h ha
  go_enter Tryz.func50, Tryz.ntmps50
  go_wp2_with (go_at_call 39; refine (hB.out _ H.out).mono ?_; rintro e w1 ⟨rfl, hE1⟩)
  go_loopw [7, 8] (fun vb i wr => ∃ k : Nat, k ≤ es.length ∧ i = .int .i64 k ∧ wr.ownsRow w.heap.size 5 1 vb (1 + ((es.take k).flatMap entS).length) (.int .u8 es.length :: ((es.take k).flatMap entS).map bv) ∧ Ext w wr) (fun _ i _ => es.length - (intOf i).toNat)
  case atStart =>
    refine ⟨0, Nat.zero_le _, rfl, ?_, Ext.alloc hE1 _⟩
    have := own_new w1 [.int .u8 (es.length : Int)] 5 1 rfl (by simp [maxLen]) hE1.size
    simpa using this
  case round =>
    obtain ⟨k, hk, rfl, hown, hE⟩ := hrel
    by_cases hlt : k < es.length
    · have hes := Es.ext H.out hE
      obtain ⟨_, b, off, rfl, hc⟩ := Es.at_ hes (by omega)
      obtain ⟨hc0, hc1, hc2⟩ := hc k hlt
      have hok := ok_nums (allOk_at Ha.out k hlt)
      have hbl : b < wr.heap.size := World.block_lt_of_cell? wr _ hc0
      have hfm := fm_take es k hlt
      obtain ⟨bs, hbs⟩ : ∃ bs, shorts [es[k].t, es[k].k, es[k].v] = bs := ⟨_, rfl⟩
      rw [show entS es[k] = bs from hbs] at hfm
      have hbl2 : bs.length ≤ 15 := by rw [← hbs]; exact entS_len es[k]
      have hpl : ((es.take k).flatMap entS).length ≤ 60 := by
        have := entsS_len (es.take k)
        rw [List.length_take] at this
        omega
      have Hfm := Lib.hid hfm
      have Hbs := Lib.hid hbs
      have Hok := Lib.hid hok
      clear hfm hbs hc hok
      generalize es[k].t = et at *
      generalize es[k].k = ek at *
      generalize es[k].v = ev at *
      generalize (es.take k).flatMap entS = pre at *
      obtain ⟨gb, cb, rfl, _, _, _⟩ := ownsRow_pos hown (by omega)
      go_wp2_with fail
      have hIs : Is (wr.alloc (.cells #[.int .i64 et, .int .i64 ek, .int .i64 ev] 3)).drew (.slice (some ⟨wr.heap.size, 0, none⟩) 3 3) [et, ek, ev] := SlR.of_own (own_new wr.drew [.int .i64 et, .int .i64 ek, .int .i64 ev] 3 3 rfl (by simp [maxLen]) (Nat.le_refl _))
      have HC := Lib.hid (refShort_ok _ _ _ hIs Hok.out (by simp))
      clear hIs
      go_region_held3 (fun w' => w'.cell? ⟨b, off + k * 3, none⟩ = some (.int .i64 et) ∧ w'.cell? ⟨b, off + k * 3 + 1, none⟩ = some (.int .i64 ek) ∧ w'.cell? ⟨b, off + k * 3 + 2, none⟩ = some (.int .i64 ev)) (first | go_keep | (refine ⟨?_, ?_, ?_⟩ <;> assumption))
        (first | (go_at_call 49; refine HC.out.mono ?_; rintro e w2 ⟨v2, rfl, ho2, hE2⟩; rw [Hbs.out] at ho2; have hE3 : Ext wr w2 := Ext.trans (Ext.drew (Ext.alloc (Ext.refl wr) _)) hE2; have g0 := Ext.cell hE3 hc0; have g1 := Ext.cell hE3 hc1; have g2 := Ext.cell hE3 hc2; obtain ⟨A2, c2, rfl, _, _⟩ := SlR.open_ (SlR.of_own ho2)))
      have hon := own_ext hown hE3
      go_wp2_with (at_builtin; refine wpList_append_sl _ rfl (.tmp 55) (.tmp 56) 23 rfl w.heap.size 5 i0 (.int .u8 0) 1 1 Tryz.underlying23 hi hz0 hz1 hz2 rfl (by decide) (.slice (some ⟨gb, 0, none⟩) (1 + pre.length) cb) (1 + pre.length) _ rfl hon (.slice A2 bs.length c2) bs.length (bs.map bv) rfl (SlR.of_own ho2) (one_bv _) (by unfold maxLen; omega) (by omega) (Ext.trans hE hE3).size ?_; intro v' w3 hown' hgrow)
      go_roundw
      case rel =>
        refine ⟨k + 1, by omega, by go_num, ?_, Ext.grownOwn (Ext.trans hE hE3) hon hgrow⟩
        rw [Hfm.out]
        simpa [Nat.add_assoc] using hown'
      case measure => simp [intOf]; omega
    · have htk : es.take k = es := List.take_of_length_le (by omega)
      rw [htk] at hown
      obtain ⟨body, hbody⟩ : ∃ body, blkBody es = body := ⟨_, rfl⟩
      have hbl : body.length = 1 + (es.flatMap entS).length := by rw [← hbody]; unfold blkBody; simp; omega
      have hbl2 : body.length ≤ 61 := by have := entsS_len es; omega
      have hbl1 : 0 < body.length := by omega
      have hcells : (.int .u8 (es.length : Int) : Value) :: (es.flatMap entS).map bv = body.map bv := by
        rw [← hbody]; unfold blkBody
        rw [List.map_cons]
        congr 1
        simp [bv]; omega
      rw [hcells, ← hbl] at hown
      have Hbody := Lib.hid hbody
      clear htk hcells hbody hbl
      obtain ⟨gb, cb, rfl, _, _, _⟩ := ownsRow_pos hown hbl1
      go_wp2_with (first
        | (go_at_call 41
           have hbs : Bs wr (.slice (some ⟨gb, 0, none⟩) body.length cb) body := SlR.of_own hown
           have hp : Parts (wr.alloc (.cells #[.slice (some ⟨gb, 0, none⟩) body.length cb] 23)) (.slice (some ⟨wr.heap.size, 0, none⟩) 1 1) [body] := parts1 hbs
           refine (refChain_any za zb _ _ _ hp).mono ?_
           rintro e w2 ⟨vz, rfl, hpz, rfl⟩
           rw [show [body].flatten = body from by simp] at hpz
           have HPZ := Lib.hid hpz
           have hpt := hpz.pt
           obtain ⟨a1, b1, rfl, _, _⟩ := hpz
           obtain ⟨f0, f1, f2, f3, hf⟩ : ∃ f0 f1 f2 f3 : UInt8, fourB (chainP (ptV (.complex .f64 za zb)) body) = [f0, f1, f2, f3] := ⟨_, _, _, _, rfl⟩
           have HF : Hid (∀ W, Calls Tryz.prog 58 #[.complex .f64 a1 b1] W fun e w' => e = .returned (.agg #[.int .u8 f0.toNat, .int .u8 f1.toNat, .int .u8 f2.toNat, .int .u8 f3.toNat]) ∧ Ext W w') := by
             intro W
             refine (refFour_any a1 b1 W).mono ?_
             rintro e w' ⟨rfl, hE⟩
             exact ⟨by rw [hpt, hf]; rfl, hE⟩
           have Hf := Lib.hid hf
           clear hf hpt)
        | (go_at_call 58; refine (HF.out _).mono ?_; rintro e w3 ⟨rfl, hE3⟩)
        | (at_builtin
           have hE5 : Ext wr ((w3.alloc (.cells #[.int .u8 f0.toNat, .int .u8 f1.toNat, .int .u8 f2.toNat, .int .u8 f3.toNat] 92)).alloc (.cells #[.int .u8 f0.toNat, .int .u8 f1.toNat, .int .u8 f2.toNat, .int .u8 f3.toNat] 5)) := Ext.alloc (Ext.alloc (Ext.trans (Ext.alloc (Ext.refl _) _) hE3) _) _
           have hon := own_ext hown hE5
           have h4 : SlR ((w3.alloc (.cells #[.int .u8 f0.toNat, .int .u8 f1.toNat, .int .u8 f2.toNat, .int .u8 f3.toNat] 92)).alloc (.cells #[.int .u8 f0.toNat, .int .u8 f1.toNat, .int .u8 f2.toNat, .int .u8 f3.toNat] 5)) 1 (.slice (some ⟨w3.heap.size + 1, 0, none⟩) 4 4) 4 ([f0, f1, f2, f3].map bv) := by
             have h := own_new (w3.alloc (.cells #[.int .u8 f0.toNat, .int .u8 f1.toNat, .int .u8 f2.toNat, .int .u8 f3.toNat] 92)) ([f0, f1, f2, f3].map bv) 5 4 rfl (by simp [maxLen]) (Nat.le_refl _)
             rw [World.size_alloc] at h
             exact SlR.of_own h
           refine wpList_append_sl _ rfl (.tmp 64) (.tmp 73) 23 rfl w.heap.size 5 i0 (.int .u8 0) 1 1 Tryz.underlying23 hi hz0 hz1 hz2 rfl (by decide) _ body.length _ rfl hon _ 4 _ rfl h4 (one_bv _) (by unfold maxLen; omega) (by omega) (Ext.trans hE hE5).size ?_
           intro v' w4 hown' hgrow))
      go_ret3
      refine ⟨v', .complex .f64 a1 b1, rfl, ?_, ?_, Ext.grownOwn (Ext.trans hE hE5) hon hgrow⟩
      · rw [Hbody.out]; exact HPZ.out
      · unfold blkS
        rw [Hbody.out, Hf.out]
        simpa using hown'
end Go.Proofs.YtfjcnpigpkcfgaaGreat

namespace Go.Proofs.YtfjcnpigpkcfgaaGreat
open Go.RowKit Go.Mv
set_option maxRecDepth 100000

/-- Entries' blocks behind a point. -/
def blocksS (p : Nat × Nat) (es : List Ent) : List UInt8 :=
  if h : es = [] then [] else blkS p (es.take 4) ++ blocksS (chainP p (blkBody (es.take 4))) (es.drop 4)
termination_by es.length
decreasing_by
  have : 0 < es.length := List.length_pos_iff.2 h
  simp; omega
theorem blocksS_nil (p : Nat × Nat) : blocksS p [] = [] := by rw [blocksS]; simp
theorem blocksS_cons (p : Nat × Nat) (es : List Ent) (h : 0 < es.length) : blocksS p es = blkS p (es.take 4) ++ blocksS (chainP p (blkBody (es.take 4))) (es.drop 4) := by
  rw [blocksS, dif_neg (fun e => by rw [e] at h; simp at h)]
theorem blkS_len (p : Nat × Nat) (es : List Ent) : (blkS p es).length ≤ 5 + 15 * es.length := by
  have := entsS_len es
  unfold blkS blkBody fourB
  rw [List.length_append, List.length_cons]
  simp only [List.length_cons, List.length_nil]
  omega
theorem blocksS_len (p : Nat × Nat) (es : List Ent) : (blocksS p es).length ≤ 20 * es.length := by
  generalize hn : es.length = n
  induction n using Nat.strongRecOn generalizing p es with
  | _ n ih =>
    rcases Nat.eq_zero_or_pos es.length with h | h
    · have : es = [] := List.eq_nil_of_length_eq_zero h
      subst this; rw [blocksS_nil]; simp
    · rw [blocksS_cons p es h, List.length_append]
      have h1 := blkS_len p (es.take 4)
      have h2 := ih (es.drop 4).length (by simp; omega) (chainP p (blkBody (es.take 4))) (es.drop 4) rfl
      rw [List.length_take] at h1
      rw [List.length_drop] at h2
      omega
theorem entCells_take (es : List Ent) (n : Nat) : entCells (es.take n) = (entCells es).take (n * 3) := by
  induction n generalizing es with
  | zero => simp [entCells]
  | succ n ih =>
    cases es with
    | nil => simp [entCells]
    | cons e es =>
      rw [List.take_succ_cons, show entCells (e :: es.take n) = e.cells ++ entCells (es.take n) from rfl, show entCells (e :: es) = e.cells ++ entCells es from rfl, ih,
        show (n + 1) * 3 = e.cells.length + n * 3 from by simp [Ent.cells]; omega, List.take_length_add_append]
theorem entCells_drop (es : List Ent) (n : Nat) : entCells (es.drop n) = (entCells es).drop (n * 3) := by
  induction n generalizing es with
  | zero => simp [entCells]
  | succ n ih =>
    cases es with
    | nil => simp [entCells]
    | cons e es =>
      rw [List.drop_succ_cons, show entCells (e :: es) = e.cells ++ entCells es from rfl, ih,
        show (n + 1) * 3 = e.cells.length + n * 3 from by simp [Ent.cells]; omega, List.drop_length_add_append]
theorem Es.take {w : World} {A : Option Addr} {m c : Nat} {es : List Ent} (h : Es w (.slice A m c) es) (n : Nat) (hn : n ≤ es.length) : Es w (.slice A n c) (es.take n) := by
  obtain ⟨hl, A', c', e, h1, h2, h3⟩ := h
  cases e
  unfold Es
  rw [List.length_take, Nat.min_eq_left hn, entCells_take]
  refine ⟨by rw [List.length_take, hl]; omega, A, c, rfl, by omega, h2, fun h0 => ?_⟩
  obtain ⟨b, off, rfl, hc⟩ := h3 (by omega)
  refine ⟨b, off, rfl, fun j u hu => hc j u ?_⟩
  rw [List.getElem?_take] at hu
  split at hu
  · exact hu
  · cases hu
theorem Es.drop {w : World} {b off m c : Nat} {es : List Ent} (h : Es w (.slice (some ⟨b, off, none⟩) m c) es) (n : Nat) (hn : n ≤ es.length) : Es w (.slice (some ⟨b, off + n * 3, none⟩) (m - n) (c - n)) (es.drop n) := by
  obtain ⟨hl, A', c', e, h1, h2, h3⟩ := h
  cases e
  unfold Es
  rw [List.length_drop, entCells_drop]
  refine ⟨by rw [List.length_drop, hl]; omega, _, _, rfl, by omega, by omega, fun h0 => ?_⟩
  obtain ⟨b', off', e', hc⟩ := h3 (by omega)
  cases e'
  refine ⟨b, off + n * 3, rfl, fun j u hu => ?_⟩
  rw [Nat.add_assoc]
  exact hc (n * 3 + j) u (by rw [← hu, List.getElem?_drop])
theorem Es.drop0 {w : World} {A : Option Addr} {es : List Ent} {n m c : Nat} (hn : es.length ≤ n) (hm : m = 0) (hc : c ≤ 9223372036854775807) : Es w (.slice A m c) (es.drop n) := by
  subst hm
  rw [List.drop_of_length_le hn]
  exact SlR.empty w 3 (by simpa [maxLen] using hc)
theorem allOk_td {es : List Ent} (h : allOk es = true) (n : Nat) : allOk (es.take n) = true ∧ allOk (es.drop n) = true := by
  unfold allOk at *
  rw [List.all_eq_true] at h
  exact ⟨List.all_eq_true.2 fun x hx => h x (List.mem_of_mem_take hx), List.all_eq_true.2 fun x hx => h x (List.mem_of_mem_drop hx)⟩
def sliceLen : Value → Nat
  | .slice _ n _ => n
  | _ => 0

set_option maxHeartbeats 1000000 in
theorem refBlocks_any (z v : Value) (p : Nat × Nat) (es : List Ent) (w : World) (hz : PtV z p) (h : Es w v es) (ha : allOk es = true) (hlen : es.length ≤ 1000000) :
    Calls Tryz.prog 40 #[z, v] w (CloneP w (blocksS p es)) := by
  obtain ⟨i0, hi, hz0, hz1, hz2⟩ := info_parts info_u8
  have hall := blocksS_len p es
  go_enter Tryz.func40, Tryz.ntmps40
  go_wp2_with fail
  go_loopw [0, 1, 5] (fun zz lv ov wr => ∃ (rest : List Ent) (pre : List UInt8) (q : Nat × Nat), Hid (PtV zz q) ∧ Hid (Es w lv rest) ∧ Hid (allOk rest = true) ∧ Hid (blocksS p es = pre ++ blocksS q rest) ∧ wr.ownsRow w.heap.size 5 1 ov pre.length (pre.map bv) ∧ Ext w wr) (fun _ lv _ _ => sliceLen lv)
  case atStart => exact ⟨es, [], p, hz, h, ha, rfl, World.ownsRow_nil _ _ _ _, Ext.refl _⟩
  case round =>
    obtain ⟨rest, pre, q, Hz, He, Ha, Hb, hown, hE⟩ := hrel
    have hes := Es.ext He.out hE
    obtain ⟨A, c, rfl, h1, h2⟩ := SlR.open_ He.out
    have hpre : pre.length ≤ 20 * es.length := by
      have := congrArg List.length Hb.out
      rw [List.length_append] at this
      omega
    by_cases h0 : 0 < rest.length
    · obtain ⟨_, b, off, rfl, hc⟩ := Es.at_ hes h0
      have hbc := blocksS_cons q rest h0
      have hok : blkOk (rest.take 4) = true := by
        simp [blkOk, (allOk_td Ha.out 4).1]; omega
      have hb2 := Hb.out
      rw [hbc] at hb2
      have Hb2 := Lib.hid hb2
      have hk := blkS_len q (rest.take 4)
      obtain ⟨za, zb, rfl, hza, hzb⟩ := Hz.out
      clear hc hbc hb2
      have hpt : ptV (.complex .f64 za zb) = q := PtV.pt ⟨za, zb, rfl, hza, hzb⟩
      have hlk : (rest.take 4).length ≤ 4 := by rw [List.length_take]; omega
      clear hza hzb
      by_cases hle : rest.length ≤ 4
      · have hmin : min (rest.length : Int) 4 = rest.length := by omega
        have htk : Es wr (.slice (some ⟨b, off, none⟩) rest.length c) (rest.take 4) := by rw [List.take_of_length_le (by omega)]; exact hes
        by_cases hc4 : c = rest.length
        · subst hc4
          have HC := Lib.hid (refBlock_ok za zb (.slice (some ⟨b, off, none⟩) rest.length rest.length) (rest.take 4) wr htk hok)
          have HD := Lib.hid (Es.drop0 (w := w) (A := some ⟨b, off, none⟩) (es := rest) (n := 4) (m := 0) (c := 0) (by omega) (by omega) (by omega))
          rw [hpt] at HC
          go_wp2_with (first
            | (go_at_call 50
               refine (HC.out).mono ?_
               rintro e w2 ⟨v2, vz, rfl, hpz, ho2, hE2⟩
               have HPZ := Lib.hid hpz
               obtain ⟨z1, z2, rfl, _, _⟩ := hpz
               obtain ⟨A2, c2, rfl, _, _⟩ := SlR.open_ (SlR.of_own ho2)
               have hon := own_ext hown hE2)
            | (at_builtin
               refine wpList_append_sl _ rfl (.tmp 25) (.tmp 26) 23 rfl w.heap.size 5 i0 (.int .u8 0) 1 1 Tryz.underlying23 hi hz0 hz1 hz2 rfl (by decide) _ pre.length _ rfl hon _ (blkS q (rest.take 4)).length _ rfl (SlR.of_own ho2) (one_bv _) (by unfold maxLen; omega) (by omega) (Ext.trans hE hE2).size ?_
               intro v' w3 hown' hgrow))
          go_roundw
          case rel =>
            refine ⟨rest.drop 4, pre ++ blkS q (rest.take 4), chainP q (blkBody (rest.take 4)), HPZ, HD, (allOk_td Ha.out 4).2, ?_, by simpa using hown', Ext.grownOwn (Ext.trans hE hE2) hon hgrow⟩
            show _ = _; rw [Hb2.out, List.append_assoc]
          case measure => simp [sliceLen]; omega
        · have hc5 : rest.length < c := by omega
          have HC := Lib.hid (refBlock_ok za zb (.slice (some ⟨b, off, none⟩) rest.length c) (rest.take 4) wr htk hok)
          have HD := Lib.hid (Es.drop0 (w := w) (A := some ⟨b, off + rest.length * 3, none⟩) (es := rest) (n := 4) (m := 0) (c := c - rest.length) (by omega) (by omega) (by omega))
          rw [hpt] at HC
          go_wp2_with (first
            | (go_at_call 50
               refine (HC.out).mono ?_
               rintro e w2 ⟨v2, vz, rfl, hpz, ho2, hE2⟩
               have HPZ := Lib.hid hpz
               obtain ⟨z1, z2, rfl, _, _⟩ := hpz
               obtain ⟨A2, c2, rfl, _, _⟩ := SlR.open_ (SlR.of_own ho2)
               have hon := own_ext hown hE2)
            | (at_builtin
               refine wpList_append_sl _ rfl (.tmp 25) (.tmp 26) 23 rfl w.heap.size 5 i0 (.int .u8 0) 1 1 Tryz.underlying23 hi hz0 hz1 hz2 rfl (by decide) _ pre.length _ rfl hon _ (blkS q (rest.take 4)).length _ rfl (SlR.of_own ho2) (one_bv _) (by unfold maxLen; omega) (by omega) (Ext.trans hE hE2).size ?_
               intro v' w3 hown' hgrow))
          go_roundw
          case rel =>
            refine ⟨rest.drop 4, pre ++ blkS q (rest.take 4), chainP q (blkBody (rest.take 4)), HPZ, HD, (allOk_td Ha.out 4).2, ?_, by simpa using hown', Ext.grownOwn (Ext.trans hE hE2) hon hgrow⟩
            show _ = _; rw [Hb2.out, List.append_assoc]
          case measure => simp [sliceLen]; omega
      · have hmin : min (rest.length : Int) 4 = 4 := by omega
        have hc5 : 4 < c := by omega
        have h4 : 4 ≤ rest.length := by omega
        have h4s : 4 < rest.length := by omega
        have HC := Lib.hid (refBlock_ok za zb (.slice (some ⟨b, off, none⟩) 4 c) (rest.take 4) wr (Es.take hes 4 h4) hok)
        have HD := Lib.hid (Es.drop He.out 4 h4)
        rw [hpt] at HC
        go_wp2_with (first
          | (go_at_call 50
             refine (HC.out).mono ?_
             rintro e w2 ⟨v2, vz, rfl, hpz, ho2, hE2⟩
             have HPZ := Lib.hid hpz
             obtain ⟨z1, z2, rfl, _, _⟩ := hpz
             obtain ⟨A2, c2, rfl, _, _⟩ := SlR.open_ (SlR.of_own ho2)
             have hon := own_ext hown hE2)
          | (at_builtin
             refine wpList_append_sl _ rfl (.tmp 25) (.tmp 26) 23 rfl w.heap.size 5 i0 (.int .u8 0) 1 1 Tryz.underlying23 hi hz0 hz1 hz2 rfl (by decide) _ pre.length _ rfl hon _ (blkS q (rest.take 4)).length _ rfl (SlR.of_own ho2) (one_bv _) (by unfold maxLen; omega) (by omega) (Ext.trans hE hE2).size ?_
             intro v' w3 hown' hgrow))
        go_roundw
        case rel =>
          refine ⟨rest.drop 4, pre ++ blkS q (rest.take 4), chainP q (blkBody (rest.take 4)), HPZ, HD, (allOk_td Ha.out 4).2, ?_, by simpa using hown', Ext.grownOwn (Ext.trans hE hE2) hon hgrow⟩
          show _ = _; rw [Hb2.out, List.append_assoc]
        case measure => simp [sliceLen]; omega
    · have hr : rest = [] := List.eq_nil_of_length_eq_zero (by omega)
      have hb2 := Hb.out
      rw [hr, blocksS_nil, List.append_nil] at hb2
      have Hb2 := Lib.hid hb2
      have hr0 : rest.length = 0 := by omega
      clear hr hb2
      go_wp2_with fail
      go_ret
      refine ⟨_, rfl, ?_, hE⟩
      rw [Hb2.out]
      exact hown
end Go.Proofs.YtfjcnpigpkcfgaaGreat

namespace Go.Proofs.YtfjcnpigpkcfgaaGreat
open Go.RowKit Go.Mv
set_option maxRecDepth 100000

/-- A segment. -/
def fileS (first : Int) (es : List Ent) : Int × List UInt8 :=
  if (headS first).1 = 0 ∧ allOk es = true then (0, (headS first).2 ++ blocksS (chainP (0, 0) (headS first).2) es) else (2, [])
theorem headS_err (first : Int) : (headS first).1 = 0 ∨ (headS first).1 = 2 := by unfold headS; split <;> simp

def ChainZ (bs : List UInt8) (w : World) (e : Ending) (w' : World) : Prop := ∃ v', e = .returned v' ∧ PtV v' (chainP (0, 0) bs) ∧ w = w'
theorem refChain_zero (vp : Value) (bss : List (List UInt8)) (w : World) (h : Parts w vp bss) : Calls Tryz.prog 41 #[.complex .f64 0 0, vp] w (ChainZ bss.flatten w) := by
  have hz := PtV.zero.pt
  have := refChain_any 0 0 vp bss w h
  unfold ChainP at this
  rw [hz] at this
  exact this

set_option maxHeartbeats 1000000 in
theorem refFile_any (first : Int) (v : Value) (es : List Ent) (w : World) (h : Es w v es) (hlen : es.length ≤ 1000000) : Calls Tryz.prog 26 #[.int .i64 first, v] w (ResP w (fileS first es)) := by
  obtain ⟨A, c, rfl, h1, h2⟩ := SlR.open_ h
  have HH := Lib.hid (fun w => refHead_any first w)
  have HF := Lib.hid (fun w (h : Es w (.slice A es.length c) es) => fine_any _ es w h)
  have H := Lib.hid h
  have hhl := headS_len first
  unfold ResP at HH
  unfold fileS
  rcases hhd : headS first with ⟨er, hd⟩
  have herr := headS_err first
  rw [hhd] at HH hhl herr
  dsimp only at HH hhl herr
  clear hhd h
  rcases herr with rfl | rfl
  · cases ha : allOk es
    · rw [ha] at HF
      rw [if_neg (by simp)]
      unfold ResP
      clear ha
      go_enter Tryz.func26, Tryz.ntmps26
      go_wp2_with (first
        | (go_at_call 38; refine (HH.out _).mono ?_; rintro e w1 ⟨v1, rfl, ho1, hE1⟩)
        | (go_at_call 39; refine (HF.out _ (Es.ext H.out hE1)).mono ?_; rintro e w2 ⟨rfl, hE2⟩))
      go_ret2
      exact ⟨_, rfl, World.ownsRow_nil _ _ _ _, Ext.trans hE1 hE2⟩
    · rw [ha] at HF
      rw [if_pos (by simp)]
      have Ha := Lib.hid ha
      unfold ResP
      clear ha
      obtain ⟨i0, hi, hz0, hz1, hz2⟩ := info_parts info_u8
      go_enter Tryz.func26, Tryz.ntmps26
      go_wp2_with (first
        | (go_at_call 38; refine (HH.out _).mono ?_; rintro e w1 ⟨v1, rfl, ho1, hE1⟩; obtain ⟨A1, c1, rfl, _, _⟩ := SlR.open_ (SlR.of_own ho1))
        | (go_at_call 39; refine (HF.out _ (Es.ext H.out hE1)).mono ?_; rintro e w2 ⟨rfl, hE2⟩)
        | (go_at_call 41
           have hb : Bs w2 (.slice A1 hd.length c1) hd := SlR.of_own (own_ext ho1 hE2)
           have hp := parts1 hb
           refine (refChain_zero _ _ _ hp).mono ?_
           rintro e w3 ⟨vz, rfl, hpz, rfl⟩
           rw [show [hd].flatten = hd from by simp] at hpz
           have HPZ := Lib.hid hpz
           obtain ⟨z1, z2, rfl, _, _⟩ := hpz)
        | (go_at_call 40
           have hE3 : Ext w1 (w2.alloc (.cells #[.slice A1 hd.length c1] 23)) := Ext.alloc hE2 _
           refine (refBlocks_any _ _ _ es _ HPZ.out (Es.ext H.out (Ext.trans hE1 hE3)) Ha.out hlen).mono ?_
           rintro e w4 ⟨v4, rfl, ho4, hE4⟩
           have hbl := blocksS_len (chainP (0, 0) hd) es
           obtain ⟨bb, hbb⟩ : ∃ bb, blocksS (chainP (0, 0) hd) es = bb := ⟨_, rfl⟩
           rw [hbb] at hbl ho4
           have Hbb := Lib.hid hbb
           clear hbb
           obtain ⟨A4, c4, rfl, _, _⟩ := SlR.open_ (SlR.of_own ho4)
           have hE5 : Ext w1 w4 := Ext.trans hE3 hE4
           have hon := own_ext ho1 hE5)
        | (at_builtin
           refine wpList_append_sl _ rfl (.tmp 20) (.tmp 25) 23 rfl w.heap.size 5 i0 (.int .u8 0) 1 1 Tryz.underlying23 hi hz0 hz1 hz2 rfl (by decide) _ hd.length _ rfl hon _ bb.length _ rfl (SlR.of_own ho4) (one_bv _) (by unfold maxLen; omega) (by omega) (Ext.trans hE1 hE5).size ?_
           intro v' w5 hown' hgrow))
      go_ret2
      refine ⟨_, rfl, ?_, Ext.grownOwn (Ext.trans hE1 hE5) hon hgrow⟩
      dsimp only
      rw [Hbb.out]
      simpa using hown'
  · rw [if_neg (by simp)]
    unfold ResP
    go_enter Tryz.func26, Tryz.ntmps26
    go_wp2_with (go_at_call 38; refine (HH.out _).mono ?_; rintro e w1 ⟨v1, rfl, ho1, hE1⟩)
    go_ret2
    exact ⟨_, rfl, World.ownsRow_nil _ _ _ _, hE1⟩
end Go.Proofs.YtfjcnpigpkcfgaaGreat

namespace Go.Proofs.YtfjcnpigpkcfgaaGreat
open Go.RowKit Go.Mv Go.Shelf
attribute [local go_sem] Oper.semAt_some
set_option maxRecDepth 100000

theorem Es.cap {w : World} {A : Option Addr} {m c c' : Nat} {es : List Ent} (h : Es w (.slice A m c) es) (h1 : es.length ≤ c') (h2 : c' ≤ 9223372036854775807) : Es w (.slice A m c') es := by
  obtain ⟨hl, A', c'', e, _, _, h3⟩ := h
  cases e
  exact ⟨hl, A, c', rfl, h1, by simpa [maxLen] using h2, h3⟩
def chunks4 (es : List Ent) : List (List Ent) :=
  if h : es = [] then [] else es.take 4 :: chunks4 (es.drop 4)
termination_by es.length
decreasing_by
  have : 0 < es.length := List.length_pos_iff.2 h
  simp; omega
theorem chunks4_nil : chunks4 [] = [] := by rw [chunks4]; simp
theorem chunks4_cons (es : List Ent) (h : 0 < es.length) : chunks4 es = es.take 4 :: chunks4 (es.drop 4) := by
  rw [chunks4, dif_neg (fun e => by rw [e] at h; simp at h)]

set_option maxHeartbeats 1000000 in
theorem chunk1_seq (wo W0 : World) (v : Value) (es : List Ent) (hes : Es wo v es) (hlen : es.length ≤ 1000000) (bs bn : Nat) (hB1 : Boxed W0 bs 22 v) (hB2 : Boxed W0 bn 3 (.int .i64 4)) :
    Seq Tryz.prog 148 #[.pointer (some ⟨bs, 0, none⟩), .pointer (some ⟨bn, 0, none⟩)]
      (fun (part : List Ent) av _ => ∃ u, av = #[u] ∧ Es wo u part) (fun k o => (k = bs ∧ o.ty = some 22) ∨ (k = bn ∧ o.ty = some 3)) (fun _ _ => False) (chunks4 es) W0 := by
  intro l J Jx hJ hJx hY h0
  obtain ⟨A, c, rfl, h1, h2⟩ := SlR.open_ hes
  refine (callsIn_wd (ro := none) (n := 9)).1 ?_
  refine callsIn_of_wp Tryz.func148 rfl trivial ?_ rfl
  simp only [Tryz.ntmps148, List.size_toArray, List.length_cons, List.length_nil, Nat.reduceAdd, Nat.reduceSub, Array.replicate_succ, Array.replicate_zero, List.push_toArray, List.append_toArray, List.nil_append, List.cons_append]
  gi_wp2
  gi_loopw [4] (fun j W => ∃ (k : Nat) (done : List (List Ent)), j = .int .i64 k ∧ k ≤ es.length + 3 ∧ Hid (chunks4 es = done ++ chunks4 (es.drop k)) ∧ Hid (J done W) ∧ Boxed W bs 22 (.slice A es.length c) ∧ Boxed W bn 3 (.int .i64 4) ∧ W0.heap.size ≤ W.heap.size) (fun j _ => es.length + 4 - (intOf j).toNat)
  case atStart => exact ⟨0, [], rfl, Nat.zero_le _, rfl, h0, hB1, hB2, Nat.le_refl _⟩
  case round =>
    obtain ⟨k, done, rfl, hk, HC, HJ, b1, b2, hsz⟩ := hrel
    have c1 := b1.cell
    have c2 := b2.cell
    by_cases hlt : k < es.length
    · obtain ⟨_, b, off, rfl, hc⟩ := Es.at_ hes (by omega)
      clear hc
      gi_wp2
      gi_region
      have hif : (if ((es.length - k : Nat) : Int) < 4 then ((es.length - k : Nat) : Int) else 4) = ((min (es.length - k) 4 : Nat) : Int) := by split <;> omega
      rw [hif]
      have hN1 : min (es.length - k) 4 ≤ 4 := by omega
      have hN2 : k + min (es.length - k) 4 ≤ es.length := by omega
      have hN3 : 0 < min (es.length - k) 4 := by omega
      have hpart : (es.drop k).take 4 = (es.drop k).take (min (es.length - k) 4) := by
        rcases Nat.le_total (es.length - k) 4 with h | h
        · rw [Nat.min_eq_left h, List.take_of_length_le (by simp; omega), List.take_of_length_le (by simp)]
        · rw [Nat.min_eq_right h]
      have hcc := chunks4_cons (es.drop k) (by simp; omega)
      rw [List.drop_drop] at hcc
      have hC := HC.out
      rw [hcc, hpart] at hC
      generalize min (es.length - k) 4 = N at *
      have HC2 := Lib.hid hC
      have HJ2 := Lib.hid (hJ _ _ _ HJ.out (Moves.refl.drew))
      clear hC hcc hpart hif
      have hpe : Es wo (.slice (some ⟨b, off + k * 3, none⟩) N N) ((es.drop k).take N) := by
        refine Es.cap (Es.take (Es.drop hes k (by omega)) N (by rw [List.length_drop]; omega)) ?_ (by omega)
        rw [List.length_take, List.length_drop]; omega
      have hy := hY done _ _ HC2.out wr.drew #[.slice (some ⟨b, off + k * 3, none⟩) N N] HJ2.out hsz ⟨_, rfl, hpe⟩
      have Hy := Lib.hid hy
      have b1' : Boxed wr.drew bs 22 (.slice (some ⟨b, off, none⟩) es.length c) := b1
      have b2' : Boxed wr.drew bn 3 (.int .i64 4) := b2
      have hpre : done ++ [(es.drop k).take N] <+: chunks4 es := by
        rw [HC2.out]; exact ⟨_, by rw [List.append_assoc]; rfl⟩
      have Hpre := Lib.hid hpre
      clear hpe hy hY hpre
      gi_wp2
      refine uponIn_yield Hy.out ?_
      rintro e W' ⟨hk', ⟨rfl, hj⟩ | ⟨rfl, hj⟩⟩
      · refine ⟨true, rfl, ?_⟩
        have d1 : Boxed W' bs 22 (.slice (some ⟨b, off, none⟩) es.length c) := hk'.boxed b1' (.inl (.inl ⟨rfl, rfl⟩))
        have d2 : Boxed W' bn 3 (.int .i64 4) := hk'.boxed b2' (.inl (.inr ⟨rfl, rfl⟩))
        have e2 := d2.cell
        have hs' : W0.heap.size ≤ W'.heap.size := Nat.le_trans hsz hk'.size
        have HJ3 := Lib.hid hj
        clear hj hk' c1 c2
        gi_wp2
        refine ⟨⟨k + 4, _, by go_num, by omega, ?_, HJ3, d1, d2, hs'⟩, by simp [intOf]; omega⟩
        show _ = _; rw [HC2.out, List.append_assoc]; rfl
      · refine ⟨false, rfl, ?_⟩
        have HJ3 := Lib.hid hj
        clear hj hk' c1 c2
        gi_wp2
        refine bodyPost_ret (results_none rfl _ _ _) rfl ?_
        exact ⟨⟨_, rfl⟩, .inr ⟨_, Hpre.out, HJ3.out⟩⟩
    · have hC := HC.out
      rw [List.drop_of_length_le (by omega), chunks4_nil, List.append_nil] at hC
      have HC2 := Lib.hid hC
      clear hC
      gi_wp2
      refine bodyPost_end (results_none rfl _ _ _) rfl ?_
      exact ⟨⟨_, rfl⟩, .inl (by rw [HC2.out]; exact HJ.out)⟩
end Go.Proofs.YtfjcnpigpkcfgaaGreat

namespace Go.Proofs.YtfjcnpigpkcfgaaGreat
open Go.RowKit Go.Mv Go.Shelf
set_option maxRecDepth 100000

theorem Chunk_any (A : Option Addr) (n c : Nat) (w : World) : Calls Tryz.prog 137 #[.slice A n c, .int .i64 4] w fun e w' =>
    e = .returned (.func (.func 148) #[] #[.pointer (some ⟨w.heap.size, 0, none⟩), .pointer (some ⟨w.heap.size + 1, 0, none⟩)]) ∧
    (w.alloc (.cells #[.slice A n c] 22)).alloc (.cells #[.int .i64 4] 3) = w' := by
  go_enter Tryz.func137, Tryz.ntmps137
  go_wp2
  go_ret
  exact ⟨rfl, rfl⟩

theorem blocks_any (za zb : Nat) (A : Option Addr) (n c : Nat) (w : World) : Calls Tryz.prog 128 #[.complex .f64 za zb, .slice A n c] w fun e w' =>
    e = .returned (.func (.func 136) #[] #[.pointer (some ⟨w.heap.size + 1, 0, none⟩), .pointer (some ⟨w.heap.size, 0, none⟩)]) ∧
    (w.alloc (.cells #[.complex .f64 za zb] 67)).alloc (.cells #[.slice A n c] 22) = w' := by
  go_enter Tryz.func128, Tryz.ntmps128
  go_wp2
  go_ret
  exact ⟨rfl, rfl⟩

/-- The blocks behind a point, one by one. -/
def blockList (p : Nat × Nat) : List (List Ent) → List (List UInt8)
  | [] => []
  | c :: cs => blkS p c :: blockList (chainP p (blkBody c)) cs
theorem blockList_flat (p : Nat × Nat) (es : List Ent) : (blockList p (chunks4 es)).flatten = blocksS p es := by
  generalize hn : es.length = n
  induction n using Nat.strongRecOn generalizing p es with
  | _ n ih =>
    rcases Nat.eq_zero_or_pos es.length with h | h
    · have : es = [] := List.eq_nil_of_length_eq_zero h
      subst this; rw [chunks4_nil, blocksS_nil]; rfl
    · rw [chunks4_cons es h, blocksS_cons p es h, blockList, List.flatten_cons, ih (es.drop 4).length (by simp; omega) _ _ rfl]
/-- The point behind the first parts. -/
def chunkP (p : Nat × Nat) (cs : List (List Ent)) : Nat × Nat := cs.foldl (fun q c => chainP q (blkBody c)) p
theorem chunkP_snoc (p : Nat × Nat) (cs : List (List Ent)) (c : List Ent) : chunkP p (cs ++ [c]) = chainP (chunkP p cs) (blkBody c) := by unfold chunkP; rw [List.foldl_append]; rfl
theorem blockList_app (p : Nat × Nat) (a b : List (List Ent)) : blockList p (a ++ b) = blockList p a ++ blockList (chunkP p a) b := by
  induction a generalizing p with
  | nil => rfl
  | cons x a ih => rw [List.cons_append, blockList, blockList, ih]; rfl
theorem chunks4_ok (es : List Ent) (h : allOk es = true) : ∀ c ∈ chunks4 es, blkOk c = true := by
  generalize hn : es.length = n
  induction n using Nat.strongRecOn generalizing es with
  | _ n ih =>
    rcases Nat.eq_zero_or_pos es.length with h0 | h0
    · have : es = [] := List.eq_nil_of_length_eq_zero h0
      subst this; rw [chunks4_nil]; intro c hc; cases hc
    · rw [chunks4_cons es h0]
      intro c hc
      rcases List.mem_cons.1 hc with rfl | hc
      · simp [blkOk, (allOk_td h 4).1]; omega
      · exact ih (es.drop 4).length (by simp; omega) (es.drop 4) (allOk_td h 4).2 rfl c hc
end Go.Proofs.YtfjcnpigpkcfgaaGreat
