/-
  The walk of moultref08.Block.
-/
import Derived.Test.YtibbbdifkopebaaBlock
import Derived.Deep.RegionHeld3
set_option linter.all false
namespace Go.Proofs.Ytibbbdifkopebaa
open Go.RowKit Go.Mv
set_option maxRecDepth 100000

set_option maxHeartbeats 1000000 in
theorem refBlock_bad (z v : Value) (es : List Ent) (w : World) (h : Es w v es) (hb : blkOk es = false) : Calls Try.prog 13 #[z, v] w (BlkBadP w) := by
  obtain ⟨A, c, rfl, h1, h2⟩ := SlR.open_ h
  have hB := Lib.hid (fun w (h : Es w (.slice A es.length c) es) => fine_any _ es w h)
  have H := Lib.hid h
  by_cases hl : 0 < es.length ∧ es.length ≤ 4
  · have ha : allOk es = false := by simpa [blkOk, hl] using hb
    obtain ⟨hl1, hl2⟩ := hl
    have e0 : ((es.length : Int) == 0) = false := by rw [beq_eq_false_iff_ne]; omega
    clear hb h
    go_enter Try.func13, Try.ntmps13
    go_wp2_with (go_at_call 32; refine (hB.out _ H.out).mono ?_; rintro e w' ⟨rfl, hE⟩)
    go_ret3
    exact ⟨rfl, hE⟩
  · clear hb h
    by_cases e0 : es.length = 0
    · have e1 : ((es.length : Int) == 0) = true := by rw [beq_iff_eq]; omega
      go_enter Try.func13, Try.ntmps13
      go_wp2_with fail
      go_ret3
      exact ⟨rfl, Ext.refl _⟩
    · have e1 : ((es.length : Int) == 0) = false := by rw [beq_eq_false_iff_ne]; omega
      have h4 : 4 < es.length := by omega
      clear e0 hl
      go_enter Try.func13, Try.ntmps13
      go_wp2_with fail
      go_ret3
      exact ⟨rfl, Ext.refl _⟩

set_option maxHeartbeats 1000000 in
theorem refBlock_ok (za zb : Nat) (v : Value) (es : List Ent) (w : World) (h : Es w v es) (hb : blkOk es = true) : Calls Try.prog 13 #[.complex .f64 za zb, v] w (BlkOkP (ptV (.complex .f64 za zb)) es w) := by
  obtain ⟨A, c, rfl, h1, h2⟩ := SlR.open_ h
  have hB := Lib.hid (fun w (h : Es w (.slice A es.length c) es) => fine_any _ es w h)
  have H := Lib.hid h
  have hl : (0 < es.length ∧ es.length ≤ 4) ∧ allOk es = true := by simpa [blkOk] using hb
  obtain ⟨⟨hl1, hl2⟩, ha⟩ := hl
  have e0 : ((es.length : Int) == 0) = false := by rw [beq_eq_false_iff_ne]; omega
  obtain ⟨i0, hi, hz0, hz1, hz2⟩ := info_parts info_u8
  have Ha := Lib.hid ha
  rw [ha] at hB
  clear hb h ha
  go_enter Try.func13, Try.ntmps13
  go_wp2_with (go_at_call 32; refine (hB.out _ H.out).mono ?_; rintro e w1 ⟨rfl, hE1⟩)
  go_loopw [7, 8] (fun vb i wr => ∃ k : Nat, k ≤ es.length ∧ i = .int .i64 k ∧ wr.ownsRow w.heap.size 5 1 vb (1 + ((es.take k).flatMap entS).length) (.int .u8 es.length :: ((es.take k).flatMap entS).map bv) ∧ Ext w wr) (fun _ i _ => es.length - (intOf i).toNat)
  case atStart =>
    refine ⟨0, Nat.zero_le _, rfl, ?_, Ext.alloc hE1 _⟩
    have := own_new w1 [.int .u8 (es.length : Int)] 5 1 rfl (by simp [maxLen]) hE1.size
    simpa using this
  case round =>
    obtain ⟨k, hk, rfl, hown, hE⟩ := hrel
    by_cases hlt : k < es.length
    · have hes := Es.ext H.out hE
      obtain ⟨_, b, off, rfl, hc⟩ := Es.at_ hes (by omega)
      obtain ⟨hc0, hc1, hc2⟩ := hc k hlt
      have hok := ok_nums (allOk_at Ha.out k hlt)
      have hbl : b < wr.heap.size := World.block_lt_of_cell? wr _ hc0
      have hfm := fm_take es k hlt
      obtain ⟨bs, hbs⟩ : ∃ bs, shorts [es[k].t, es[k].k, es[k].v] = bs := ⟨_, rfl⟩
      rw [show entS es[k] = bs from hbs] at hfm
      have hbl2 : bs.length ≤ 15 := by rw [← hbs]; exact entS_len es[k]
      have hpl : ((es.take k).flatMap entS).length ≤ 60 := by
        have := entsS_len (es.take k)
        rw [List.length_take] at this
        omega
      have Hfm := Lib.hid hfm
      have Hbs := Lib.hid hbs
      have Hok := Lib.hid hok
      clear hfm hbs hc hok
      generalize es[k].t = et at *
      generalize es[k].k = ek at *
      generalize es[k].v = ev at *
      generalize (es.take k).flatMap entS = pre at *
      obtain ⟨gb, cb, rfl, _, _, _⟩ := ownsRow_pos hown (by omega)
      go_wp2_with fail
      have hIs : Is (wr.alloc (.cells #[.int .i64 et, .int .i64 ek, .int .i64 ev] 3)).drew (.slice (some ⟨wr.heap.size, 0, none⟩) 3 3) [et, ek, ev] := SlR.of_own (own_new wr.drew [.int .i64 et, .int .i64 ek, .int .i64 ev] 3 3 rfl (by simp [maxLen]) (Nat.le_refl _))
      have HC := Lib.hid (refShort_ok _ _ _ hIs Hok.out (by simp))
      clear hIs
      go_region_held3 (fun w' => w'.cell? ⟨b, off + k * 3, none⟩ = some (.int .i64 et) ∧ w'.cell? ⟨b, off + k * 3 + 1, none⟩ = some (.int .i64 ek) ∧ w'.cell? ⟨b, off + k * 3 + 2, none⟩ = some (.int .i64 ev)) (first | go_keep | (refine ⟨?_, ?_, ?_⟩ <;> assumption))
        (first | (go_at_call 28; refine HC.out.mono ?_; rintro e w2 ⟨v2, rfl, ho2, hE2⟩; rw [Hbs.out] at ho2; have hE3 : Ext wr w2 := Ext.trans (Ext.drew (Ext.alloc (Ext.refl wr) _)) hE2; have g0 := Ext.cell hE3 hc0; have g1 := Ext.cell hE3 hc1; have g2 := Ext.cell hE3 hc2; obtain ⟨A2, c2, rfl, _, _⟩ := SlR.open_ (SlR.of_own ho2)))
      have hon := own_ext hown hE3
      go_wp2_with (at_builtin; refine wpList_append_sl _ rfl (.tmp 55) (.tmp 56) 24 rfl w.heap.size 5 i0 (.int .u8 0) 1 1 Try.underlying24 hi hz0 hz1 hz2 rfl (by decide) (.slice (some ⟨gb, 0, none⟩) (1 + pre.length) cb) (1 + pre.length) _ rfl hon (.slice A2 bs.length c2) bs.length (bs.map bv) rfl (SlR.of_own ho2) (one_bv _) (by unfold maxLen; omega) (by omega) (Ext.trans hE hE3).size ?_; intro v' w3 hown' hgrow)
      go_roundw
      case rel =>
        refine ⟨k + 1, by omega, by go_num, ?_, Ext.grownOwn (Ext.trans hE hE3) hon hgrow⟩
        rw [Hfm.out]
        simpa [Nat.add_assoc] using hown'
      case measure => simp [intOf]; omega
    · have htk : es.take k = es := List.take_of_length_le (by omega)
      rw [htk] at hown
      obtain ⟨body, hbody⟩ : ∃ body, blkBody es = body := ⟨_, rfl⟩
      have hbl : body.length = 1 + (es.flatMap entS).length := by rw [← hbody]; unfold blkBody; simp; omega
      have hbl2 : body.length ≤ 61 := by have := entsS_len es; omega
      have hbl1 : 0 < body.length := by omega
      have hcells : (.int .u8 (es.length : Int) : Value) :: (es.flatMap entS).map bv = body.map bv := by
        rw [← hbody]; unfold blkBody
        rw [List.map_cons]
        congr 1
        simp [bv]; omega
      rw [hcells, ← hbl] at hown
      have Hbody := Lib.hid hbody
      clear htk hcells hbody hbl
      obtain ⟨gb, cb, rfl, _, _, _⟩ := ownsRow_pos hown hbl1
      go_wp2_with (first
        | (go_at_call 33
           have hbs : Bs wr (.slice (some ⟨gb, 0, none⟩) body.length cb) body := SlR.of_own hown
           have hp : Parts (wr.alloc (.cells #[.slice (some ⟨gb, 0, none⟩) body.length cb] 24)) (.slice (some ⟨wr.heap.size, 0, none⟩) 1 1) [body] := parts1 hbs
           refine (refChain_any za zb _ _ _ hp).mono ?_
           rintro e w2 ⟨vz, rfl, hpz, rfl⟩
           rw [show [body].flatten = body from by simp] at hpz
           have HPZ := Lib.hid hpz
           have hpt := hpz.pt
           obtain ⟨a1, b1, rfl, _, _⟩ := hpz
           obtain ⟨f0, f1, f2, f3, hf⟩ : ∃ f0 f1 f2 f3 : UInt8, fourB (chainP (ptV (.complex .f64 za zb)) body) = [f0, f1, f2, f3] := ⟨_, _, _, _, rfl⟩
           have HF : Hid (∀ W, Calls Try.prog 25 #[.complex .f64 a1 b1] W fun e w' => e = .returned (.agg #[.int .u8 f0.toNat, .int .u8 f1.toNat, .int .u8 f2.toNat, .int .u8 f3.toNat]) ∧ Ext W w') := by
             intro W
             refine (refFour_any a1 b1 W).mono ?_
             rintro e w' ⟨rfl, hE⟩
             exact ⟨by rw [hpt, hf]; rfl, hE⟩
           have Hf := Lib.hid hf
           clear hf hpt)
        | (go_at_call 25; refine (HF.out _).mono ?_; rintro e w3 ⟨rfl, hE3⟩)
        | (at_builtin
           have hE5 : Ext wr ((w3.alloc (.cells #[.int .u8 f0.toNat, .int .u8 f1.toNat, .int .u8 f2.toNat, .int .u8 f3.toNat] 50)).alloc (.cells #[.int .u8 f0.toNat, .int .u8 f1.toNat, .int .u8 f2.toNat, .int .u8 f3.toNat] 5)) := Ext.alloc (Ext.alloc (Ext.trans (Ext.alloc (Ext.refl _) _) hE3) _) _
           have hon := own_ext hown hE5
           have h4 : SlR ((w3.alloc (.cells #[.int .u8 f0.toNat, .int .u8 f1.toNat, .int .u8 f2.toNat, .int .u8 f3.toNat] 50)).alloc (.cells #[.int .u8 f0.toNat, .int .u8 f1.toNat, .int .u8 f2.toNat, .int .u8 f3.toNat] 5)) 1 (.slice (some ⟨w3.heap.size + 1, 0, none⟩) 4 4) 4 ([f0, f1, f2, f3].map bv) := by
             have h := own_new (w3.alloc (.cells #[.int .u8 f0.toNat, .int .u8 f1.toNat, .int .u8 f2.toNat, .int .u8 f3.toNat] 50)) ([f0, f1, f2, f3].map bv) 5 4 rfl (by simp [maxLen]) (Nat.le_refl _)
             rw [World.size_alloc] at h
             exact SlR.of_own h
           refine wpList_append_sl _ rfl (.tmp 64) (.tmp 73) 24 rfl w.heap.size 5 i0 (.int .u8 0) 1 1 Try.underlying24 hi hz0 hz1 hz2 rfl (by decide) _ body.length _ rfl hon _ 4 _ rfl h4 (one_bv _) (by unfold maxLen; omega) (by omega) (Ext.trans hE hE5).size ?_
           intro v' w4 hown' hgrow))
      go_ret3
      refine ⟨v', .complex .f64 a1 b1, rfl, ?_, ?_, Ext.grownOwn (Ext.trans hE hE5) hon hgrow⟩
      · rw [Hbody.out]; exact HPZ.out
      · unfold blkS
        rw [Hbody.out, Hf.out]
        simpa using hown'
end Go.Proofs.Ytibbbdifkopebaa
