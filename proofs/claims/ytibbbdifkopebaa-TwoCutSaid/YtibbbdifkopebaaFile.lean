/-
  The walk of two.File.
-/
import Derived.Test.YtibbbdifkopebaaAll
import Derived.Test.YtibbbdifkopebaaRefFile
set_option linter.all false
namespace Go.Proofs.Ytibbbdifkopebaa
open Go.RowKit Go.Mv
set_option maxRecDepth 100000

/-- two.all over two.blocks' iterator, in the world that two.blocks leaves. -/
theorem allOf (w : World) (v : Value) (es : List Ent) (hes : Es w v es) (ha : allOk es = true) (hlen : es.length ≤ 1000000) (p : Nat × Nat) (z1 z2 : Nat) (hz : PtV (.complex .f64 z1 z2) p) :
    Calls Try.prog 34 #[.func (.func 53) #[] #[.pointer (some ⟨w.heap.size + 1, 0, none⟩), .pointer (some ⟨w.heap.size, 0, none⟩)]] ((w.alloc (.cells #[.complex .f64 z1 z2] 30)).alloc (.cells #[v] 23))
      fun e w' => ∃ v', e = .returned v' ∧ w'.ownsRow w.heap.size 5 1 v' (blocksS p es).length ((blocksS p es).map bv) ∧ Ext w w' := by
  have hE : Ext w ((w.alloc (.cells #[.complex .f64 z1 z2] 30)).alloc (.cells #[v] 23)) := Ext.alloc (Ext.alloc (Ext.refl _) _) _
  have q1 : Boxed ((w.alloc (.cells #[.complex .f64 z1 z2] 30)).alloc (.cells #[v] 23)) (w.heap.size + 1) 23 v := by
    have := Boxed.new (w.alloc (.cells #[.complex .f64 z1 z2] 30)) 23 v
    rwa [World.size_alloc] at this
  have q2 : Boxed ((w.alloc (.cells #[.complex .f64 z1 z2] 30)).alloc (.cells #[v] 23)) w.heap.size 30 (.complex .f64 z1 z2) := (Boxed.new w _ _).alloc _
  refine (all_any w _ v es hes ha hlen (fun q u hq => Ext.cell hE hq) p _ hz _ _ q1 q2 (by omega) (Nat.le_refl _) hE.size).mono ?_
  rintro e w' ⟨v', rfl, hr, hB⟩
  exact ⟨v', rfl, own_base hr hE.size, Below.trans hE hB⟩

theorem chain_zero (vp : Value) (bss : List (List UInt8)) (w : World) (h : Parts w vp bss) : Calls Try.prog 30 #[.complex .f64 0 0, vp] w fun e w' => ∃ v', e = .returned v' ∧ PtV v' (chainP (0, 0) bss.flatten) ∧ Ext w w' := by
  have hz := PtV.zero.pt
  have := Chain_any 0 0 vp bss w h
  unfold ChainE at this
  rw [hz] at this
  exact this

set_option maxHeartbeats 1000000 in
theorem File_any (first : Int) (v : Value) (es : List Ent) (w : World) (h : Es w v es) (hlen : es.length ≤ 1000000) : Calls Try.prog 14 #[.int .i64 first, v] w (ResP w (fileS first es)) := by
  obtain ⟨A, c, rfl, h1, h2⟩ := SlR.open_ h
  have HH := Lib.hid (fun w => Head_any first w)
  have HF := Lib.hid (fun w (h : Es w (.slice A es.length c) es) => bad_any _ es w h)
  have H := Lib.hid h
  have hhl := headS_len first
  unfold ResP at HH
  unfold fileS
  rcases hhd : headS first with ⟨er, hd⟩
  have herr := headS_err first
  rw [hhd] at HH hhl herr
  dsimp only at HH hhl herr
  clear hhd h
  rcases herr with rfl | rfl
  · cases ha : allOk es
    · rw [ha] at HF
      rw [if_neg (by simp)]
      unfold ResP
      clear ha
      go_enter Try.func14, Try.ntmps14
      go_wp2_with (first
        | (go_at_call 9; refine (HH.out _).mono ?_; rintro e w1 ⟨v1, rfl, ho1, hE1⟩)
        | (go_at_call 29; refine (HF.out _ (Es.ext H.out hE1)).mono ?_; rintro e w2 ⟨rfl, hE2⟩))
      go_ret2
      exact ⟨_, rfl, World.ownsRow_nil _ _ _ _, Ext.trans hE1 hE2⟩
    · rw [ha] at HF
      rw [if_pos (by simp)]
      have Ha := Lib.hid ha
      unfold ResP
      clear ha
      obtain ⟨i0, hi, hz0, hz1, hz2⟩ := info_parts info_u8
      go_enter Try.func14, Try.ntmps14
      go_wp2_with (first
        | (go_at_call 9; refine (HH.out _).mono ?_; rintro e w1 ⟨v1, rfl, ho1, hE1⟩; obtain ⟨A1, c1, rfl, _, _⟩ := SlR.open_ (SlR.of_own ho1))
        | (go_at_call 29; refine (HF.out _ (Es.ext H.out hE1)).mono ?_; rintro e w2 ⟨rfl, hE2⟩)
        | (go_at_call 30
           have hb : Bs w2 (.slice A1 hd.length c1) hd := SlR.of_own (own_ext ho1 hE2)
           have hp := parts1 hb
           refine (chain_zero _ _ _ hp).mono ?_
           rintro e w3 ⟨vz, rfl, hpz, hE3⟩
           rw [show [hd].flatten = hd from by simp] at hpz
           have HPZ := Lib.hid hpz
           obtain ⟨z1, z2, rfl, _, _⟩ := hpz)
        | (go_at_call 35; refine (blocks_any _ _ _ _ _ _).mono ?_; rintro e w' ⟨rfl, rfl⟩)
        | (go_at_call 34
           have hE4 : Ext w1 w3 := Ext.trans (Ext.alloc hE2 _) hE3
           refine (allOf w3 _ es (Es.ext H.out (Ext.trans hE1 hE4)) Ha.out hlen _ _ _ HPZ.out).mono ?_
           rintro e w4 ⟨v4, rfl, ho4, hE5⟩
           have hbl := blocksS_len (chainP (0, 0) hd) es
           obtain ⟨bb, hbb⟩ : ∃ bb, blocksS (chainP (0, 0) hd) es = bb := ⟨_, rfl⟩
           rw [hbb] at hbl ho4
           have Hbb := Lib.hid hbb
           clear hbb
           obtain ⟨A4, c4, rfl, _, _⟩ := SlR.open_ (SlR.of_own ho4)
           have hE6 : Ext w1 w4 := Ext.trans hE4 hE5
           have hon := own_ext ho1 hE6)
        | (at_builtin
           refine wpList_append_sl _ rfl (.tmp 19) (.tmp 25) 24 rfl w.heap.size 5 i0 (.int .u8 0) 1 1 Try.underlying24 hi hz0 hz1 hz2 rfl (by decide) _ hd.length _ rfl hon _ bb.length _ rfl (SlR.of_own ho4) (one_bv _) (by unfold maxLen; omega) (by omega) (Ext.trans hE1 hE6).size ?_
           intro v' w5 hown' hgrow))
      go_ret2
      refine ⟨_, rfl, ?_, Ext.grownOwn (Ext.trans hE1 hE6) hon hgrow⟩
      dsimp only
      rw [Hbb.out]
      simpa using hown'
  · rw [if_neg (by simp)]
    unfold ResP
    go_enter Try.func14, Try.ntmps14
    go_wp2_with (go_at_call 9; refine (HH.out _).mono ?_; rintro e w1 ⟨v1, rfl, ho1, hE1⟩)
    go_ret2
    exact ⟨_, rfl, World.ownsRow_nil _ _ _ _, hE1⟩
end Go.Proofs.Ytibbbdifkopebaa
