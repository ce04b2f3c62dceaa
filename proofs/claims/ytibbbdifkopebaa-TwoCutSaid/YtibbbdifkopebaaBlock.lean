/-
  The walk of two.Block.
-/
import Derived.Test.YtibbbdifkopebaaChain
import Derived.Test.YtibbbdifkopebaaRefHead
import Derived.Test.YtibbbdifkopebaaEntry2
set_option linter.all false
namespace Go.Proofs.Ytibbbdifkopebaa
open Go.RowKit Go.Mv
set_option maxRecDepth 100000

def entS (e : Ent) : List UInt8 := shorts [e.t, e.k, e.v]
def blkOk (es : List Ent) : Bool := decide (0 < es.length ∧ es.length ≤ 4) && allOk es
/-- A block without its four last bytes; a block. -/
def blkBody (es : List Ent) : List UInt8 := UInt8.ofNat es.length :: es.flatMap entS
def blkS (p : Nat × Nat) (es : List Ent) : List UInt8 := blkBody es ++ fourB (chainP p (blkBody es))
theorem entS_len (e : Ent) : (entS e).length ≤ 15 := by have := shorts_len [e.t, e.k, e.v]; simpa [entS] using this
theorem entsS_len (es : List Ent) : (es.flatMap entS).length ≤ 15 * es.length := by
  induction es with
  | nil => simp
  | cons e es ih => have := entS_len e; rw [List.flatMap_cons, List.length_append, List.length_cons]; omega
theorem ok_nums {e : Ent} (h : e.ok = true) : allNum [e.t, e.k, e.v] = true := by
  have := okB_true.1 h
  unfold Ent.okP at this
  simp only [allNum, List.all_cons, List.all_nil, Bool.and_true, Bool.and_eq_true, numB_true]
  omega
theorem allOk_at {es : List Ent} (h : allOk es = true) (k : Nat) (hk : k < es.length) : es[k].ok = true := by
  unfold allOk at h
  exact List.all_eq_true.1 h _ (List.getElem_mem hk)
theorem fm_take (es : List Ent) (k : Nat) (h : k < es.length) : (es.take (k + 1)).flatMap entS = (es.take k).flatMap entS ++ entS es[k] := by
  rw [List.take_succ_eq_append_getElem h, List.flatMap_append]; simp

def BlkOkP (p : Nat × Nat) (es : List Ent) (w : World) (e : Ending) (w' : World) : Prop :=
  ∃ v vz, e = .returned (.tuple #[v, vz, .int .i64 0]) ∧ PtV vz (chainP p (blkBody es)) ∧ w'.ownsRow w.heap.size 5 1 v (blkS p es).length ((blkS p es).map bv) ∧ Ext w w'
def BlkBadP (w : World) (e : Ending) (w' : World) : Prop := e = .returned (.tuple #[.slice none 0 0, .complex .f64 0 0, .int .i64 2]) ∧ Ext w w'

set_option maxHeartbeats 1000000 in
theorem Block_bad (z v : Value) (es : List Ent) (w : World) (h : Es w v es) (hb : blkOk es = false) : Calls Try.prog 12 #[z, v] w (BlkBadP w) := by
  obtain ⟨A, c, rfl, h1, h2⟩ := SlR.open_ h
  have hB := Lib.hid (fun w (h : Es w (.slice A es.length c) es) => bad_any _ es w h)
  have H := Lib.hid h
  by_cases hl : 0 < es.length ∧ es.length ≤ 4
  · have ha : allOk es = false := by simpa [blkOk, hl] using hb
    obtain ⟨hl1, hl2⟩ := hl
    have e0 : ((es.length : Int) == 0) = false := by rw [beq_eq_false_iff_ne]; omega
    clear hb h
    go_enter Try.func12, Try.ntmps12
    go_wp2_with (go_at_call 29; refine (hB.out _ H.out).mono ?_; rintro e w' ⟨rfl, hE⟩)
    go_ret3
    exact ⟨rfl, hE⟩
  · clear hb h
    by_cases e0 : es.length = 0
    · have e1 : ((es.length : Int) == 0) = true := by rw [beq_iff_eq]; omega
      go_enter Try.func12, Try.ntmps12
      go_wp2_with fail
      go_ret3
      exact ⟨rfl, Ext.refl _⟩
    · have e1 : ((es.length : Int) == 0) = false := by rw [beq_eq_false_iff_ne]; omega
      have h4 : 4 < es.length := by omega
      clear e0 hl
      go_enter Try.func12, Try.ntmps12
      go_wp2_with fail
      go_ret3
      exact ⟨rfl, Ext.refl _⟩

set_option maxHeartbeats 1000000 in
theorem Block_ok (za zb : Nat) (v : Value) (es : List Ent) (w : World) (h : Es w v es) (hb : blkOk es = true) : Calls Try.prog 12 #[.complex .f64 za zb, v] w (BlkOkP (ptV (.complex .f64 za zb)) es w) := by
  obtain ⟨A, c, rfl, h1, h2⟩ := SlR.open_ h
  have hB := Lib.hid (fun w (h : Es w (.slice A es.length c) es) => bad_any _ es w h)
  have H := Lib.hid h
  have hl : (0 < es.length ∧ es.length ≤ 4) ∧ allOk es = true := by simpa [blkOk] using hb
  obtain ⟨⟨hl1, hl2⟩, ha⟩ := hl
  have e0 : ((es.length : Int) == 0) = false := by rw [beq_eq_false_iff_ne]; omega
  obtain ⟨i0, hi, hz0, hz1, hz2⟩ := info_parts info_u8
  have Ha := Lib.hid ha
  rw [ha] at hB
  clear hb h ha
  go_enter Try.func12, Try.ntmps12
  go_wp2_with (go_at_call 29; refine (hB.out _ H.out).mono ?_; rintro e w1 ⟨rfl, hE1⟩)
  go_loopw [7, 31] (fun vb i wr => ∃ k : Nat, k ≤ es.length ∧ i = .int .i64 k ∧ wr.ownsRow w.heap.size 5 1 vb (1 + ((es.take k).flatMap entS).length) (.int .u8 es.length :: ((es.take k).flatMap entS).map bv) ∧ Ext w wr) (fun _ i _ => es.length - (intOf i).toNat)
  case atStart =>
    refine ⟨0, Nat.zero_le _, rfl, ?_, Ext.alloc hE1 _⟩
    have := own_new w1 [.int .u8 (es.length : Int)] 5 1 rfl (by simp [maxLen]) hE1.size
    simpa using this
  case round =>
    obtain ⟨k, hk, rfl, hown, hE⟩ := hrel
    by_cases hlt : k < es.length
    · have hes := Es.ext H.out hE
      obtain ⟨_, b, off, rfl, hc⟩ := Es.at_ hes (by omega)
      obtain ⟨hc0, hc1, hc2⟩ := hc k hlt
      have hok := ok_nums (allOk_at Ha.out k hlt)
      have hbl : b < wr.heap.size := World.block_lt_of_cell? wr _ hc0
      have hfm := fm_take es k hlt
      obtain ⟨bs, hbs⟩ : ∃ bs, shorts [es[k].t, es[k].k, es[k].v] = bs := ⟨_, rfl⟩
      rw [show entS es[k] = bs from hbs] at hfm
      have hbl2 : bs.length ≤ 15 := by rw [← hbs]; exact entS_len es[k]
      have hpl : ((es.take k).flatMap entS).length ≤ 60 := by
        have := entsS_len (es.take k)
        rw [List.length_take] at this
        omega
      have Hfm := Lib.hid hfm
      have Hbs := Lib.hid hbs
      have Hok := Lib.hid hok
      clear hfm hbs hc hok
      generalize es[k].t = et at *
      generalize es[k].k = ek at *
      generalize es[k].v = ev at *
      generalize (es.take k).flatMap entS = pre at *
      obtain ⟨gb, cb, rfl, _, _, _⟩ := ownsRow_pos hown (by omega)
      go_wp2_with (first
        | (go_at_call 26
           have hIs : Is ((wr.alloc (.cells #[.int .i64 et, .int .i64 ek, .int .i64 ev] 45)).alloc (.cells #[.int .i64 et, .int .i64 ek, .int .i64 ev] 3)) (.slice (some ⟨wr.heap.size + 1, 0, none⟩) 3 3) [et, ek, ev] := by
             have h := own_new (wr.alloc (.cells #[.int .i64 et, .int .i64 ek, .int .i64 ev] 45)) [.int .i64 et, .int .i64 ek, .int .i64 ev] 3 3 rfl (by simp [maxLen]) (Nat.le_refl _)
             rw [World.size_alloc] at h
             exact SlR.of_own h
           refine (Short_ok _ _ _ hIs Hok.out (by simp)).mono ?_
           rintro e w2 ⟨v2, rfl, ho2, hE2⟩
           rw [Hbs.out] at ho2
           obtain ⟨A2, c2, rfl, _, _⟩ := SlR.open_ (SlR.of_own ho2))
        | (at_builtin
           have hE3 : Ext wr w2 := Ext.trans (Ext.alloc (Ext.alloc (Ext.refl _) _) _) hE2
           have hon := own_ext hown hE3
           refine wpList_append_sl _ rfl (.tmp 46) (.tmp 47) 24 rfl w.heap.size 5 i0 (.int .u8 0) 1 1 Try.underlying24 hi hz0 hz1 hz2 rfl (by decide) _ (1 + pre.length) _ rfl hon _ bs.length (bs.map bv) rfl (SlR.of_own ho2) (one_bv _) (by unfold maxLen; omega) (by omega) (Ext.trans hE hE3).size ?_
           intro v' w3 hown' hgrow))
      go_roundw
      case rel =>
        refine ⟨k + 1, by omega, by go_num, ?_, Ext.grownOwn (Ext.trans hE hE3) hon hgrow⟩
        rw [Hfm.out]
        simpa [Nat.add_assoc] using hown'
      case measure => simp [intOf]; omega
    · have htk : es.take k = es := List.take_of_length_le (by omega)
      rw [htk] at hown
      obtain ⟨body, hbody⟩ : ∃ body, blkBody es = body := ⟨_, rfl⟩
      have hbl : body.length = 1 + (es.flatMap entS).length := by rw [← hbody]; unfold blkBody; simp; omega
      have hbl2 : body.length ≤ 61 := by have := entsS_len es; omega
      have hbl1 : 0 < body.length := by omega
      have hcells : (.int .u8 (es.length : Int) : Value) :: (es.flatMap entS).map bv = body.map bv := by
        rw [← hbody]; unfold blkBody
        rw [List.map_cons]
        congr 1
        simp [bv]; omega
      rw [hcells, ← hbl] at hown
      have Hbody := Lib.hid hbody
      clear htk hcells hbody hbl
      obtain ⟨gb, cb, rfl, _, _, _⟩ := ownsRow_pos hown hbl1
      go_wp2_with (first
        | (go_at_call 30
           have hbs : Bs wr (.slice (some ⟨gb, 0, none⟩) body.length cb) body := SlR.of_own hown
           have hp : Parts (wr.alloc (.cells #[.slice (some ⟨gb, 0, none⟩) body.length cb] 24)) (.slice (some ⟨wr.heap.size, 0, none⟩) 1 1) [body] := parts1 hbs
           refine (Chain_any za zb _ _ _ hp).mono ?_
           rintro e w2 ⟨vz, rfl, hpz, hE2⟩
           rw [show [body].flatten = body from by simp] at hpz
           have HPZ := Lib.hid hpz
           have hpt := hpz.pt
           obtain ⟨a1, b1, rfl, _, _⟩ := hpz
           obtain ⟨f0, f1, f2, f3, hf⟩ : ∃ f0 f1 f2 f3 : UInt8, fourB (chainP (ptV (.complex .f64 za zb)) body) = [f0, f1, f2, f3] := ⟨_, _, _, _, rfl⟩
           have HF : Hid (∀ W, Calls Try.prog 31 #[.complex .f64 a1 b1] W fun e w' => e = .returned (.agg #[.int .u8 f0.toNat, .int .u8 f1.toNat, .int .u8 f2.toNat, .int .u8 f3.toNat]) ∧ Ext W w') := by
             intro W
             refine (Four_any a1 b1 W).mono ?_
             rintro e w' ⟨rfl, hE⟩
             exact ⟨by rw [hpt, hf]; rfl, hE⟩
           have Hf := Lib.hid hf
           clear hf hpt)
        | (go_at_call 31; refine (HF.out _).mono ?_; rintro e w3 ⟨rfl, hE3⟩)
        | (at_builtin
           have hE5 : Ext wr (w3.alloc (.cells #[.int .u8 f0.toNat, .int .u8 f1.toNat, .int .u8 f2.toNat, .int .u8 f3.toNat] 50)) := Ext.alloc (Ext.trans (Ext.trans (Ext.alloc (Ext.refl _) _) hE2) hE3) _
           have hon := own_ext hown hE5
           have h4 : SlR (w3.alloc (.cells #[.int .u8 f0.toNat, .int .u8 f1.toNat, .int .u8 f2.toNat, .int .u8 f3.toNat] 50)) 1 (.slice (some ⟨w3.heap.size, 0, none⟩) 4 4) 4 ([f0, f1, f2, f3].map bv) := SlR.of_own (own_new w3 ([f0, f1, f2, f3].map bv) 50 4 rfl (by simp [maxLen]) (Nat.le_refl _))
           refine wpList_append_sl _ rfl (.tmp 56) (.tmp 57) 24 rfl w.heap.size 5 i0 (.int .u8 0) 1 1 Try.underlying24 hi hz0 hz1 hz2 rfl (by decide) _ body.length _ rfl hon _ 4 _ rfl h4 (one_bv _) (by unfold maxLen; omega) (by omega) (Ext.trans hE hE5).size ?_
           intro v' w4 hown' hgrow))
      go_ret3
      refine ⟨v', .complex .f64 a1 b1, rfl, ?_, ?_, Ext.grownOwn (Ext.trans hE hE5) hon hgrow⟩
      · rw [Hbody.out]; exact HPZ.out
      · unfold blkS
        rw [Hbody.out, Hf.out]
        simpa using hown'
end Go.Proofs.Ytibbbdifkopebaa
