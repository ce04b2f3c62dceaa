/-
  The walk of moultref08.File.
-/
import Derived.Test.YtibbbdifkopebaaRefBlocks
set_option linter.all false
namespace Go.Proofs.Ytibbbdifkopebaa
open Go.RowKit Go.Mv
set_option maxRecDepth 100000

/-- A segment. -/
def fileS (first : Int) (es : List Ent) : Int × List UInt8 :=
  if (headS first).1 = 0 ∧ allOk es = true then (0, (headS first).2 ++ blocksS (chainP (0, 0) (headS first).2) es) else (2, [])
theorem headS_err (first : Int) : (headS first).1 = 0 ∨ (headS first).1 = 2 := by unfold headS; split <;> simp

def ChainZ (bs : List UInt8) (w : World) (e : Ending) (w' : World) : Prop := ∃ v', e = .returned v' ∧ PtV v' (chainP (0, 0) bs) ∧ w = w'
theorem refChain_zero (vp : Value) (bss : List (List UInt8)) (w : World) (h : Parts w vp bss) : Calls Try.prog 33 #[.complex .f64 0 0, vp] w (ChainZ bss.flatten w) := by
  have hz := PtV.zero.pt
  have := refChain_any 0 0 vp bss w h
  unfold ChainP at this
  rw [hz] at this
  exact this

set_option maxHeartbeats 1000000 in
theorem refFile_any (first : Int) (v : Value) (es : List Ent) (w : World) (h : Es w v es) (hlen : es.length ≤ 1000000) : Calls Try.prog 15 #[.int .i64 first, v] w (ResP w (fileS first es)) := by
  obtain ⟨A, c, rfl, h1, h2⟩ := SlR.open_ h
  have HH := Lib.hid (fun w => refHead_any first w)
  have HF := Lib.hid (fun w (h : Es w (.slice A es.length c) es) => fine_any _ es w h)
  have H := Lib.hid h
  have hhl := headS_len first
  unfold ResP at HH
  unfold fileS
  rcases hhd : headS first with ⟨er, hd⟩
  have herr := headS_err first
  rw [hhd] at HH hhl herr
  dsimp only at HH hhl herr
  clear hhd h
  rcases herr with rfl | rfl
  · cases ha : allOk es
    · rw [ha] at HF
      rw [if_neg (by simp)]
      unfold ResP
      clear ha
      go_enter Try.func15, Try.ntmps15
      go_wp2_with (first
        | (go_at_call 10; refine (HH.out _).mono ?_; rintro e w1 ⟨v1, rfl, ho1, hE1⟩)
        | (go_at_call 32; refine (HF.out _ (Es.ext H.out hE1)).mono ?_; rintro e w2 ⟨rfl, hE2⟩))
      go_ret2
      exact ⟨_, rfl, World.ownsRow_nil _ _ _ _, Ext.trans hE1 hE2⟩
    · rw [ha] at HF
      rw [if_pos (by simp)]
      have Ha := Lib.hid ha
      unfold ResP
      clear ha
      obtain ⟨i0, hi, hz0, hz1, hz2⟩ := info_parts info_u8
      go_enter Try.func15, Try.ntmps15
      go_wp2_with (first
        | (go_at_call 10; refine (HH.out _).mono ?_; rintro e w1 ⟨v1, rfl, ho1, hE1⟩; obtain ⟨A1, c1, rfl, _, _⟩ := SlR.open_ (SlR.of_own ho1))
        | (go_at_call 32; refine (HF.out _ (Es.ext H.out hE1)).mono ?_; rintro e w2 ⟨rfl, hE2⟩)
        | (go_at_call 33
           have hb : Bs w2 (.slice A1 hd.length c1) hd := SlR.of_own (own_ext ho1 hE2)
           have hp := parts1 hb
           refine (refChain_zero _ _ _ hp).mono ?_
           rintro e w3 ⟨vz, rfl, hpz, rfl⟩
           rw [show [hd].flatten = hd from by simp] at hpz
           have HPZ := Lib.hid hpz
           obtain ⟨z1, z2, rfl, _, _⟩ := hpz)
        | (go_at_call 36
           have hE3 : Ext w1 (w2.alloc (.cells #[.slice A1 hd.length c1] 24)) := Ext.alloc hE2 _
           refine (refBlocks_any _ _ _ es _ HPZ.out (Es.ext H.out (Ext.trans hE1 hE3)) Ha.out hlen).mono ?_
           rintro e w4 ⟨v4, rfl, ho4, hE4⟩
           have hbl := blocksS_len (chainP (0, 0) hd) es
           obtain ⟨bb, hbb⟩ : ∃ bb, blocksS (chainP (0, 0) hd) es = bb := ⟨_, rfl⟩
           rw [hbb] at hbl ho4
           have Hbb := Lib.hid hbb
           clear hbb
           obtain ⟨A4, c4, rfl, _, _⟩ := SlR.open_ (SlR.of_own ho4)
           have hE5 : Ext w1 w4 := Ext.trans hE3 hE4
           have hon := own_ext ho1 hE5)
        | (at_builtin
           refine wpList_append_sl _ rfl (.tmp 20) (.tmp 25) 24 rfl w.heap.size 5 i0 (.int .u8 0) 1 1 Try.underlying24 hi hz0 hz1 hz2 rfl (by decide) _ hd.length _ rfl hon _ bb.length _ rfl (SlR.of_own ho4) (one_bv _) (by unfold maxLen; omega) (by omega) (Ext.trans hE1 hE5).size ?_
           intro v' w5 hown' hgrow))
      go_ret2
      refine ⟨_, rfl, ?_, Ext.grownOwn (Ext.trans hE1 hE5) hon hgrow⟩
      dsimp only
      rw [Hbb.out]
      simpa using hown'
  · rw [if_neg (by simp)]
    unfold ResP
    go_enter Try.func15, Try.ntmps15
    go_wp2_with (go_at_call 10; refine (HH.out _).mono ?_; rintro e w1 ⟨v1, rfl, ho1, hE1⟩)
    go_ret2
    exact ⟨_, rfl, World.ownsRow_nil _ _ _ _, hE1⟩
end Go.Proofs.Ytibbbdifkopebaa
