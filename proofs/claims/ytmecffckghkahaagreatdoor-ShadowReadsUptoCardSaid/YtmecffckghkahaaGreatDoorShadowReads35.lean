/- Merged: ShR Lift -/
import Derived.Test.YtmecffckghkahaaGreatDoorShadowReads34
import Derived.ProofKit
import Derived.OpenShut
import Derived.Carry
import Derived.Deep.Slices
import Derived.ChangeSlices
import Derived.ChangeSame
import Derived.WideKeyArgs
set_option linter.all false
set_option maxHeartbeats 8000000
namespace Go.Proofs.YtmecffckghkahaaGreatDoor
open Go.RowKit Go.Mv Go.Shelf
set_option maxRecDepth 100000
theorem great_not {fs : List Fil} (h : greatS fs = false) : fs.length ≤ 40 ∧ ∀ f ∈ fs, f.2.length ≤ 2000 := by
 unfold greatS at h
 rw [Bool.or_eq_false_iff, decide_eq_false_iff_not, List.any_eq_false] at h
 obtain ⟨h1, h2⟩ := h
 refine ⟨by omega, fun f hf => ?_⟩
 rw [List.take_of_length_le (by omega)] at h2
 have := h2 f hf
 simp only [decide_eq_true_eq] at this
 omega
theorem tell_check {fs : List Fil} {t : Tup} {m : Mf} (h : tellS fs = ⟨0, t, m⟩) : checkM m = true := by
 obtain ⟨_, _, _, hm, _⟩ := tell_ok h
 exact (takeM_check hm).1
theorem len_wrap {n : Nat} (h : n ≤ 60) : wrap64 ((n : Int) + 1) = (n : Int) + 1 := by unfold wrap64; omega
theorem len_not {a b : Nat} (h : b ≤ a + 1) : ¬ ((a : Int) + 1 < (b : Int)) := by omega
theorem nat_not (a : Nat) : ¬ ((a : Int) < 0) := by omega
structure RdI (w1 w wr : World) (t : Tup) (g : Int) (A1 : Option Addr) (c1 : Nat) (b5 b6 : Nat) (v : Value) (n : Nat) (fs : List Fil) (m : Mf) (vs : Value) : Prop where
 e : Ext w wr
 e1 : Ext w1 wr
 fr : Fs wr v fs
 bt : Blk wr b5 27 #[.int .i64 t.s.idx, .int .i64 t.s.term, .int .i64 t.s.sum, .int .i64 t.s.lvl, .bool t.s.fin, .slice A1 t.log.length c1, .int .i64 t.term, .int .i64 t.vote]
 bm : Blk wr b6 32 #[.int .i64 m.next, .int .i64 m.term, .int .i64 m.vote, .int .i64 m.sq, .int .i64 m.sf, vs]
 sg : Sgs wr vs m.segs
 tl : tellS fs = ⟨0, t, m⟩
 nn : leftM m g = n
 ln : fs.length + 2 * n ≤ 200
 q : ∀ f ∈ fs, f.2.length ≤ 2000
theorem OwnS.ext {w w' : World} {base : Nat} {v : Value} {l : List Sg4} (h : OwnS w base v l) (he : Ext w w') : OwnS w' base v l := own_ext h he
theorem RdI.ext {w1 w wr W : World} {t : Tup} {g : Int} {A1 : Option Addr} {c1 b5 b6 : Nat} {v : Value} {n : Nat} {fs : List Fil} {m : Mf} {vs : Value} (h : RdI w1 w wr t g A1 c1 b5 b6 v n fs m vs) (hE : Ext wr W) : RdI w1 w W t g A1 c1 b5 b6 v n fs m vs :=
 ⟨h.e.trans hE, h.e1.trans hE, h.fr.ext hE, h.bt.ext hE, h.bm.ext hE, h.sg.ext hE, h.tl, h.nn, h.ln, h.q⟩
theorem cnt_ok {m : Mf} (h : checkM m = true) : ∀ s ∈ m.segs, s.count ≤ 100000 := by
 obtain ⟨_, _, _, _, _, h6⟩ := checkM_b h
 intro s hs
 obtain ⟨j, hj, rfl⟩ := List.mem_iff_getElem.1 hs
 have := (segOk_b (h6 j hj)).2.2.2.2
 omega
theorem shadT_of {fs : List Fil} {m : Mf} {k s f g : Int} (hg : g = 1 ∨ g = 2) : shadT fs g (findM m k s f) = shadM fs m k s f g := by
 unfold shadM
 rw [if_neg (by omega)]
theorem sameT_refl (t : Tup) : sameT t t = true := by
 unfold sameT
 simp [(staEq_iff t.s t.s).2 rfl]
theorem n_one {n : Nat} (h : 0 < n) (h2 : n ≤ 200) : wrap64 ((n : Int) - 1) = ((n - 1 : Nat) : Int) := by unfold wrap64; omega
theorem ShadReads_1 (v : Value) (fs : List Fil) (w : World) (hS : StW w) (hF : Fs w v fs) (hl : fs.length ≤ 2000000) (hbl : ∀ f ∈ fs, f.2.length ≤ 2000000) :
  Calls Tryz.prog 3 #[v, .bool false] w fun e w' => e = .returned (.bool true) ∧ Ext w w' := by
 obtain ⟨A, c, rfl, _, _⟩ := Fs.open_ hF
 have HS := Lib.hid hS
 have HF := Lib.hid hF
 obtain ⟨R, hR⟩ : ∃ R, tellS fs = R := ⟨_, rfl⟩
 have hrd := Read13_any _ fs w hS hF (by omega) hbl
 rw [hR] at hrd
 have HRD := Lib.hid hrd
 have HR := Lib.hid hR
 clear hS hF hrd hR
 go_enter Tryz.func3, Tryz.ntmps3
 go_wp2_with fail
 refine HRD.out.mono ?_
 rintro e w1 ⟨vl, vs, rfl, hes, hsg, e1⟩
 obtain ⟨A1, c1, rfl, _, _⟩ := SlR.open_ hes
 obtain ⟨A2, c2, rfl, _, _⟩ := hsg.open_
 have hbt : Blk ((w1.alloc (.cells #[.int .i64 R.t.s.idx, .int .i64 R.t.s.term, .int .i64 R.t.s.sum, .int .i64 R.t.s.lvl, .bool R.t.s.fin, .slice A1 R.t.log.length c1, .int .i64 R.t.term, .int .i64 R.t.vote] 27)).alloc (.cells #[.int .i64 R.m.next, .int .i64 R.m.term, .int .i64 R.m.vote, .int .i64 R.m.sq, .int .i64 R.m.sf, .slice A2 R.m.segs.length c2] 32)) w1.heap.size 27 #[.int .i64 R.t.s.idx, .int .i64 R.t.s.term, .int .i64 R.t.s.sum, .int .i64 R.t.s.lvl, .bool R.t.s.fin, .slice A1 R.t.log.length c1, .int .i64 R.t.term, .int .i64 R.t.vote] := (Blk.new w1 _ _).alloc _
 have hbm : Blk ((w1.alloc (.cells #[.int .i64 R.t.s.idx, .int .i64 R.t.s.term, .int .i64 R.t.s.sum, .int .i64 R.t.s.lvl, .bool R.t.s.fin, .slice A1 R.t.log.length c1, .int .i64 R.t.term, .int .i64 R.t.vote] 27)).alloc (.cells #[.int .i64 R.m.next, .int .i64 R.m.term, .int .i64 R.m.vote, .int .i64 R.m.sq, .int .i64 R.m.sf, .slice A2 R.m.segs.length c2] 32)) (w1.heap.size + 1) 32 #[.int .i64 R.m.next, .int .i64 R.m.term, .int .i64 R.m.vote, .int .i64 R.m.sq, .int .i64 R.m.sf, .slice A2 R.m.segs.length c2] := by
  have := Blk.new (w1.alloc (.cells #[.int .i64 R.t.s.idx, .int .i64 R.t.s.term, .int .i64 R.t.s.sum, .int .i64 R.t.s.lvl, .bool R.t.s.fin, .slice A1 R.t.log.length c1, .int .i64 R.t.term, .int .i64 R.t.vote] 27)) 32 #[.int .i64 R.m.next, .int .i64 R.m.term, .int .i64 R.m.vote, .int .i64 R.m.sq, .int .i64 R.m.sf, .slice A2 R.m.segs.length c2]
  rwa [World.size_alloc] at this
 have hX : Ext w1 ((w1.alloc (.cells #[.int .i64 R.t.s.idx, .int .i64 R.t.s.term, .int .i64 R.t.s.sum, .int .i64 R.t.s.lvl, .bool R.t.s.fin, .slice A1 R.t.log.length c1, .int .i64 R.t.term, .int .i64 R.t.vote] 27)).alloc (.cells #[.int .i64 R.m.next, .int .i64 R.m.term, .int .i64 R.m.vote, .int .i64 R.m.sq, .int .i64 R.m.sf, .slice A2 R.m.segs.length c2] 32)) := Ext.alloc (Ext.alloc (Ext.refl _) _) _
 have hgr := Great_any _ fs _ (HF.out.ext (Ext.trans e1 hX)) (by omega)
 have HBT := Lib.hid hbt
 have HBM := Lib.hid hbm
 have HX := Lib.hid hX
 have HGR := Lib.hid hgr
 have HES := Lib.hid hes
 have HSG := Lib.hid hsg
 have HE1 := Lib.hid e1
 clear hbt hbm hX hgr hes hsg e1
 rcases hg : greatS fs with _ | _
 ·rw [hg] at HGR
  by_cases he : R.err = 0
  ·obtain ⟨er, t, m⟩ := R
   have he : er = 0 := he
   subst he
   dsimp only at *
   obtain ⟨hl40, hq⟩ := great_not hg
   have HL := Lib.hid hl40
   have HQ := Lib.hid hq
   have hlm := left_le m 1
   obtain ⟨_, _, _, h60, _⟩ := checkM_b (tell_check HR.out)
   have HN := Lib.hid hlm
   have H60 := Lib.hid h60
   clear hl40 hq hg hbl hl
   go_wp2_with fail
   refine HGR.out.mono ?_
   rintro e w3 ⟨rfl, e3⟩
   have HE3 := Lib.hid e3
   have hbm3 := HBM.out.ext e3
   have hbt3 := HBT.out.ext e3
   obtain ⟨m0, m1, m2, m3, m4, m5⟩ := blk6 hbm3
   have HBM3 := Lib.hid hbm3
   have HBT3 := Lib.hid hbt3
   clear e3 hbm3 hbt3 HGR HBM HBT
   have hc := Left_any m 1 _ w3 (HSG.out.ext (Ext.trans HX.out HE3.out)) (by omega)
   have HC := Lib.hid hc
   clear hc h60 hlm
   go_wp2_with fail
   refine HC.out.mono ?_
   rintro e w4 ⟨rfl, e4⟩
   have hI : RdI w1 w w4 t 1 A1 c1 w1.heap.size (w1.heap.size + 1) (.slice A fs.length c) (leftM m 1) fs m (.slice A2 m.segs.length c2) := by
    have hX4 := Ext.trans (Ext.trans HX.out HE3.out) e4
    have hn := HN.out
    have h6 := H60.out
    have h4 := HL.out
    exact ⟨Ext.trans HE1.out hX4, hX4, HF.out.ext (Ext.trans HE1.out hX4), HBT3.out.ext e4, HBM3.out.ext e4, HSG.out.ext hX4, HR.out, rfl, by omega, HQ.out⟩
   have HI := Lib.hid hI
   have hn := HN.out
   obtain ⟨m0', m1', m2', m3', m4', m5'⟩ := blk6 hI.bm
   have hw : wrap64 (((m.segs.length : Nat) : Int) + 1) = ((m.segs.length : Nat) : Int) + 1 := len_wrap H60.out
   have hk1 : ¬ (((leftM m 1 : Nat) : Int) < 0) := nat_not _
   have hk2 : ¬ (((m.segs.length : Nat) : Int) + 1 < ((leftM m 1 : Nat) : Int)) := len_not hn
   clear e4 HC m0 m1 m2 m3 m4 m5 hI hn HBM3 HBT3 HE3 HRD HL HQ HN H60 HR
   generalize leftM m 1 = L at *
   go_wp2_with fail
   have HSZ := Lib.hid HE1.out.size
   go_loopw [0, 10] (fun v0 v10 wr => ∃ (n : Nat) (fs' : List Fil) (m' : Mf) (vs' : Value), v10 = .int .i64 n ∧ Hid (RdI w1 w wr t 1 A1 c1 w1.heap.size (w1.heap.size + 1) v0 n fs' m' vs')) (fun _ v10 _ => (intOf v10).toNat)
   case atStart => exact ⟨L, fs, m, _, rfl, HI⟩
   case round =>
    obtain ⟨n, fs', m', vs', rfl, HI⟩ := hrel
    obtain ⟨Af, cf, rfl, _, _⟩ := Fs.open_ HI.out.fr
    obtain ⟨Am, cm, rfl, _, _⟩ := HI.out.sg.open_
    clear hw hk1 hk2 m0' m1' m2' m3' m4' m5' HX HSG HE1 HF
    obtain ⟨m0, m1, m2, m3, m4, m5⟩ := blk6 HI.out.bm
    by_cases hn : 0 < n
    ·have hnx : ∃ k s f, nextM m' 1 = some (k, s, f) := by
      cases h : nextM m' 1 with
      | none => have := nextM_none.1 h; have := HI.out.nn; omega
      | some r => exact ⟨_, _, _, rfl⟩
     obtain ⟨k, s, f, hnx⟩ := hnx
     obtain ⟨hth, hfg⟩ := next_some hnx
     obtain ⟨b, nm, cc, p1, p2, p3, p4, p5, p6, p7, p8⟩ := tell_step (g := 1) HI.out.tl hth (by decide)
     have hck := tell_check HI.out.tl
     have hlf := turn_left hck hth hfg
     obtain ⟨o, ho⟩ : ∃ o, turnM m' k s f 1 = o := ⟨_, rfl⟩
     rw [ho] at p5 p7 hlf
     have HOO := Lib.hid ho
     have hnext := NextM_any m' 1 _ wr HI.out.sg
     rw [hnx] at hnext
     have N1 := Lib.hid hnext
     have P1 := Lib.hid p1
     have P2 := Lib.hid p2
     have P3 := Lib.hid p3
     have P4 := Lib.hid p4
     have P5 := Lib.hid p5
     have P6 := Lib.hid p6
     have P7 := Lib.hid p7
     have P8 := Lib.hid p8
     have CK := Lib.hid hck
     have LF := Lib.hid hlf
     clear ho hnx hth hfg p1 p2 p3 p4 p5 p6 p7 p8 hck hlf hnext
     go_wp2_with fail
     refine N1.out.mono ?_
     rintro e w5 ⟨rfl, e5⟩
     dsimp only [Option.getD_some, Option.isSome_some]
     have E5 := Ext.trans e5 (Ext.alloc (Ext.refl w5) (.cells #[.int .u8 k, .int .i64 s, .int .i64 f] 40))
     have hx := Blk.new w5 40 #[.int .u8 k, .int .i64 s, .int .i64 f]
     have HX := Lib.hid hx
     have HE := Lib.hid E5
     have HJ := Lib.hid (HI.out.ext E5)
     clear m0 m1 m2 m3 m4 m5 e5 E5
     obtain ⟨m0, m1, m2, m3, m4, m5⟩ := blk6 HJ.out.bm
     obtain ⟨x0, x1, x2, _, _, _⟩ := blk3 hx
     have hsh := Shad_ok _ _ fs' m' k s f 1 _ (HS.out.ext HJ.out.e) HJ.out.fr HJ.out.sg (by have := HJ.out.ln; omega) (fun f hf => Nat.le_trans (HJ.out.q f hf) (by decide)) (cnt_ok CK.out) (by decide)
     rw [shadT_of (by decide), P1.out] at hsh
     have HC := Lib.hid hsh
     clear hx hsh
     go_wp2_with fail
     refine HC.out.mono ?_
     rintro e w6 ⟨v6, rfl, ho6, e6⟩
     obtain ⟨A6, c6, rfl, _, _⟩ := SlR.open_ ho6.bs
     dsimp only at ho6 ⊢
     have HB := Lib.hid ho6.bs
     replace HJ := Lib.hid (HJ.out.ext e6)
     replace HE := Lib.hid (Ext.trans HE.out e6)
     replace HX := Lib.hid (HX.out.ext e6)
     clear e6 m0 m1 m2 m3 m4 m5 x0 x1 x2 ho6 HC
     obtain ⟨x0, x1, x2, _, _, _⟩ := blk3 HX.out
     go_wp2_with fail
     refine (Of_any k s f 1 w6).mono ?_
     rintro e w7 ⟨rfl, e7'⟩
     have e7 := Ext.trans e7' (Ext.alloc (Ext.refl w7) (.cells #[.int .u8 k, .int .i64 s, .int .i64 1] 40))
     have HY := Lib.hid (Blk.new w7 40 #[.int .u8 k, .int .i64 s, .int .i64 1])
     replace HJ := Lib.hid (HJ.out.ext e7)
     replace HE := Lib.hid (Ext.trans HE.out e7)
     replace HX := Lib.hid (HX.out.ext e7)
     replace HB := Lib.hid (HB.out.ext e7)
     clear e7 x0 x1 x2 e7'
     obtain ⟨y0, y1, y2, _, _, _⟩ := blk3 HY.out
     have hc := refName_any k s 1 _ (HS.out.ext HJ.out.e)
     rw [P4.out] at hc
     have HC := Lib.hid hc
     clear hc
     go_wp2_with fail
     refine HC.out.mono ?_
     rintro e w8 ⟨rfl, e8⟩
     dsimp only [Option.getD_some, Option.isSome_some, if_true, sv]
     replace HJ := Lib.hid (HJ.out.ext e8)
     replace HE := Lib.hid (Ext.trans HE.out e8)
     replace HX := Lib.hid (HX.out.ext e8)
     replace HY := Lib.hid (HY.out.ext e8)
     replace HB := Lib.hid (HB.out.ext e8)
     clear e8 y0 y1 y2 HC
     obtain ⟨m0, m1, m2, m3, m4, m5⟩ := blk6 HJ.out.bm
     obtain ⟨x0, x1, x2, _, _, _⟩ := blk3 HX.out
     obtain ⟨y0, y1, y2, _, _, _⟩ := blk3 HY.out
     have hc := Turned_any m' k s f 1 _ w8 HJ.out.sg (by have := (checkM_b CK.out).2.2.2.1; omega)
     rw [HOO.out] at hc
     have HC := Lib.hid hc
     clear hc
     go_wp2_with fail
     refine HC.out.mono ?_
     rintro e w9 ⟨v9, rfl, ho9, e9'⟩
     obtain ⟨A9, c9, rfl, _, _⟩ := (OwnS.sgs ho9).open_
     have e9 := Ext.trans e9' (Ext.alloc (Ext.refl w9) (.cells #[.int .i64 o.next, .int .i64 o.term, .int .i64 o.vote, .int .i64 o.sq, .int .i64 o.sf, .slice A9 o.segs.length c9] 32))
     have HO := Lib.hid (Blk.new w9 32 #[.int .i64 o.next, .int .i64 o.term, .int .i64 o.vote, .int .i64 o.sq, .int .i64 o.sf, .slice A9 o.segs.length c9])
     have HOS := Lib.hid (OwnS.ext ho9 (Ext.alloc (Ext.refl w9) (.cells #[.int .i64 o.next, .int .i64 o.term, .int .i64 o.vote, .int .i64 o.sq, .int .i64 o.sf, .slice A9 o.segs.length c9] 32)))
     replace HJ := Lib.hid (HJ.out.ext e9)
     replace HE := Lib.hid (Ext.trans HE.out e9)
     replace HX := Lib.hid (HX.out.ext e9)
     replace HY := Lib.hid (HY.out.ext e9)
     replace HB := Lib.hid (HB.out.ext e9)
     clear e9 m0 m1 m2 m3 m4 m5 x0 x1 x2 y0 y1 y2 e9' ho9 HC
     obtain ⟨o0, o1, o2, o3, o4, o5⟩ := blk6 HO.out
     have hc := PutM_any o _ _ HOS.out.sgs
     rw [P5.out] at hc
     have HC := Lib.hid hc
     clear hc
     go_wp2_with fail
     refine HC.out.mono ?_
     rintro e w10 ⟨⟨v10, rfl, ho10⟩, e10⟩
     dsimp only [Option.getD_some, Option.isSome_some, if_true] at ho10 ⊢
     obtain ⟨A10, c10, rfl, _, _⟩ := SlR.open_ ho10.bs
     have HM := Lib.hid ho10.bs
     replace HJ := Lib.hid (HJ.out.ext e10)
     replace HE := Lib.hid (Ext.trans HE.out e10)
     replace HX := Lib.hid (HX.out.ext e10)
     replace HY := Lib.hid (HY.out.ext e10)
     replace HB := Lib.hid (HB.out.ext e10)
     replace HO := Lib.hid (HO.out.ext e10)
     replace HOS := Lib.hid (HOS.out.ext e10)
     clear e10 o0 o1 o2 o3 o4 o5 ho10 HC
     go_wp2_with (at_builtin; refine wpList_app_f rfl (.tmp 126) (.tmp 127) rfl w10 (Ext.alloc (Ext.refl _) _) _ [([77], cc), (nm, b)] [sv [77], .slice A10 cc.length c10, sv nm, .slice A6 b.length c6] rfl (own_newF w10 _ 2 rfl (by decide) (Nat.le_refl _)) (FRow.two HM.out HB.out) _ fs' rfl HJ.out.fr (by have := HJ.out.ln; simp only [List.length_cons, List.length_nil]; omega) ?_; intro A11 c11 w11 hf11 e11)
     have HFN := Lib.hid hf11
     replace HJ := Lib.hid (HJ.out.ext e11)
     replace HE := Lib.hid (Ext.trans HE.out e11)
     replace HX := Lib.hid (HX.out.ext e11)
     replace HY := Lib.hid (HY.out.ext e11)
     replace HB := Lib.hid (HB.out.ext e11)
     replace HO := Lib.hid (HO.out.ext e11)
     replace HOS := Lib.hid (HOS.out.ext e11)
     replace HM := Lib.hid (HM.out.ext e11)
     clear e11  hf11
     obtain ⟨o0, o1, o2, o3, o4, o5⟩ := blk6 HO.out
     have hgl : ∀ f ∈ (([77], cc) :: (nm, b) :: fs' : List Fil), f.2.length ≤ 2000 := by
      intro f hf
      rcases List.mem_cons.1 hf with rfl | hf
      ·exact P6.out
      ·rcases List.mem_cons.1 hf with rfl | hf
       ·exact Nat.le_trans P3.out (by decide)
       ·exact HJ.out.q f hf
     have hrd := Read13_any _ (([77], cc) :: (nm, b) :: fs') w11 (HS.out.ext HJ.out.e) HFN.out (by have := HJ.out.ln; simp only [List.length_cons]; omega) (fun f hf => Nat.le_trans (hgl f hf) (by decide))
     rw [P7.out] at hrd
     have HC := Lib.hid hrd
     have HGL := Lib.hid hgl
     clear hrd hgl
     refine HC.out.mono ?_
     rintro e w12 ⟨vl, vs, rfl, hes, hsg, e12'⟩
     obtain ⟨A12, c12, rfl, _, _⟩ := SlR.open_ hes
     obtain ⟨B12, d12, rfl, _, _⟩ := hsg.open_
     dsimp only at hes hsg ⊢
     have hX : Ext w12 ((w12.alloc (.cells #[.int .i64 t.s.idx, .int .i64 t.s.term, .int .i64 t.s.sum, .int .i64 t.s.lvl, .bool t.s.fin, .slice A12 t.log.length c12, .int .i64 t.term, .int .i64 t.vote] 27)).alloc (.cells #[.int .i64 o.next, .int .i64 o.term, .int .i64 o.vote, .int .i64 o.sq, .int .i64 o.sf, .slice B12 o.segs.length d12] 32)) := Ext.alloc (Ext.alloc (Ext.refl _) _) _
     have e12 := Ext.trans e12' hX
     have HU := Lib.hid (show Blk ((w12.alloc (.cells #[.int .i64 t.s.idx, .int .i64 t.s.term, .int .i64 t.s.sum, .int .i64 t.s.lvl, .bool t.s.fin, .slice A12 t.log.length c12, .int .i64 t.term, .int .i64 t.vote] 27)).alloc (.cells #[.int .i64 o.next, .int .i64 o.term, .int .i64 o.vote, .int .i64 o.sq, .int .i64 o.sf, .slice B12 o.segs.length d12] 32)) w12.heap.size 27 #[.int .i64 t.s.idx, .int .i64 t.s.term, .int .i64 t.s.sum, .int .i64 t.s.lvl, .bool t.s.fin, .slice A12 t.log.length c12, .int .i64 t.term, .int .i64 t.vote] from (Blk.new w12 _ _).alloc _)
     have hp : Blk ((w12.alloc (.cells #[.int .i64 t.s.idx, .int .i64 t.s.term, .int .i64 t.s.sum, .int .i64 t.s.lvl, .bool t.s.fin, .slice A12 t.log.length c12, .int .i64 t.term, .int .i64 t.vote] 27)).alloc (.cells #[.int .i64 o.next, .int .i64 o.term, .int .i64 o.vote, .int .i64 o.sq, .int .i64 o.sf, .slice B12 o.segs.length d12] 32)) (w12.heap.size + 1) 32 #[.int .i64 o.next, .int .i64 o.term, .int .i64 o.vote, .int .i64 o.sq, .int .i64 o.sf, .slice B12 o.segs.length d12] := by
      have := Blk.new (w12.alloc (.cells #[.int .i64 t.s.idx, .int .i64 t.s.term, .int .i64 t.s.sum, .int .i64 t.s.lvl, .bool t.s.fin, .slice A12 t.log.length c12, .int .i64 t.term, .int .i64 t.vote] 27)) 32 #[.int .i64 o.next, .int .i64 o.term, .int .i64 o.vote, .int .i64 o.sq, .int .i64 o.sf, .slice B12 o.segs.length d12]
      rwa [World.size_alloc] at this
     have HP := Lib.hid hp
     have HUE := Lib.hid (SlR.ext hes hX)
     have HPE := Lib.hid (hsg.ext hX)
     replace HJ := Lib.hid (HJ.out.ext e12)
     replace HE := Lib.hid (Ext.trans HE.out e12)
     replace HX := Lib.hid (HX.out.ext e12)
     replace HY := Lib.hid (HY.out.ext e12)
     replace HB := Lib.hid (HB.out.ext e12)
     replace HO := Lib.hid (HO.out.ext e12)
     replace HOS := Lib.hid (HOS.out.ext e12)
     replace HFN := Lib.hid (HFN.out.ext e12)
     clear e12  e12' hX hp hes hsg HC
     obtain ⟨t0, t1, t2, t3, t4, t5, t6, t7⟩ := blk8 HJ.out.bt
     obtain ⟨q0, q1, q2, q3, q4, q5, q6, q7⟩ := blk8 HU.out
     have hc := SameT_any t t _ _ _ HUE.out (SlR.ext HES.out HJ.out.e1)
     rw [sameT_refl] at hc
     have HC := Lib.hid hc
     clear hc
     go_wp2_with fail
     refine HC.out.mono ?_
     rintro e w13 ⟨rfl, e13⟩
     replace HJ := Lib.hid (HJ.out.ext e13)
     replace HE := Lib.hid (Ext.trans HE.out e13)
     replace HX := Lib.hid (HX.out.ext e13)
     replace HY := Lib.hid (HY.out.ext e13)
     replace HB := Lib.hid (HB.out.ext e13)
     replace HO := Lib.hid (HO.out.ext e13)
     replace HOS := Lib.hid (HOS.out.ext e13)
     replace HFN := Lib.hid (HFN.out.ext e13)
     replace HU := Lib.hid (HU.out.ext e13)
     replace HP := Lib.hid (HP.out.ext e13)
     replace HPE := Lib.hid (HPE.out.ext e13)
     clear e13 t0 t1 t2 t3 t4 t5 t6 t7 q0 q1 q2 q3 q4 q5 q6 q7 HC
     obtain ⟨o0, o1, o2, o3, o4, o5⟩ := blk6 HO.out
     obtain ⟨p0, p1, p2, p3, p4, p5⟩ := blk6 HP.out
     have hc := SameM_any o o _ _ _ HPE.out HOS.out.sgs
     rw [show decide (o = o) = true from by simp] at hc
     have HC := Lib.hid hc
     clear hc
     go_wp2_with fail
     refine HC.out.mono ?_
     rintro e w14 ⟨rfl, e14⟩
     replace HJ := Lib.hid (HJ.out.ext e14)
     replace HE := Lib.hid (Ext.trans HE.out e14)
     replace HX := Lib.hid (HX.out.ext e14)
     replace HY := Lib.hid (HY.out.ext e14)
     replace HB := Lib.hid (HB.out.ext e14)
     replace HO := Lib.hid (HO.out.ext e14)
     replace HOS := Lib.hid (HOS.out.ext e14)
     replace HFN := Lib.hid (HFN.out.ext e14)
     clear e14 o0 o1 o2 o3 o4 o5 p0 p1 p2 p3 p4 p5 HC HU HP HPE HUE
     obtain ⟨o0, o1, o2, o3, o4, o5⟩ := blk6 HO.out
     have hlo : leftM o 1 = n - 1 := by have h1 := LF.out; have h2 := HJ.out.nn; omega
     have hn200 : n ≤ 200 := by have := HJ.out.ln; omega
     have hw1 := n_one hn hn200
     have hc := Left_any o 1 _ _ HOS.out.sgs (by have := (checkM_b (tell_check P7.out)).2.2.2.1; omega)
     rw [hlo] at hc
     have HC := Lib.hid hc
     have HLO := Lib.hid hlo
     clear hc hlo
     go_wp2_with fail
     refine HC.out.mono ?_
     rintro e w15 ⟨rfl, e15⟩
     replace HJ := Lib.hid (HJ.out.ext e15)
     replace HE := Lib.hid (Ext.trans HE.out e15)
     replace HX := Lib.hid (HX.out.ext e15)
     replace HY := Lib.hid (HY.out.ext e15)
     replace HB := Lib.hid (HB.out.ext e15)
     replace HO := Lib.hid (HO.out.ext e15)
     replace HOS := Lib.hid (HOS.out.ext e15)
     replace HFN := Lib.hid (HFN.out.ext e15)
     clear e15 o0 o1 o2 o3 o4 o5 HC
     obtain ⟨y0, y1, y2, _, _, _⟩ := blk3 HY.out
     have hc := Says_any _ _ (([77], cc) :: (nm, b) :: fs') k s 1 b _ (HS.out.ext HJ.out.e) HFN.out HB.out (by have := HJ.out.ln; simp only [List.length_cons]; omega)
     rw [P4.out, P8.out, show decide (some b = some b) = true from by simp] at hc
     have HC := Lib.hid hc
     clear hc
     go_wp2_with fail
     refine HC.out.mono ?_
     rintro e w16 ⟨rfl, e16⟩
     replace HJ := Lib.hid (HJ.out.ext e16)
     replace HE := Lib.hid (Ext.trans HE.out e16)
     replace HX := Lib.hid (HX.out.ext e16)
     replace HY := Lib.hid (HY.out.ext e16)
     replace HB := Lib.hid (HB.out.ext e16)
     replace HO := Lib.hid (HO.out.ext e16)
     replace HOS := Lib.hid (HOS.out.ext e16)
     replace HFN := Lib.hid (HFN.out.ext e16)
     clear e16 y0 y1 y2 HC
     obtain ⟨m0, m1, m2, m3, m4, m5⟩ := blk6 HJ.out.bm
     obtain ⟨o0, o1, o2, o3, o4, o5⟩ := blk6 HO.out
     obtain ⟨z0, z1, z2, z3, z4, z5⟩ := blk6f HJ.out.bm
     go_wp2_with fail
     go_roundw
     case rel =>
      refine ⟨n - 1, ([77], cc) :: (nm, b) :: fs', o, .slice A9 o.segs.length c9, by rw [show ((n - 1 : Nat) : Int) = (n : Int) - 1 from by omega], ?_⟩
      have hsz := HSZ.out
      exact ⟨ext_set6 HJ.out.e (by omega) _ _ _ _ _ _, ext_set6 HJ.out.e1 (by omega) _ _ _ _ _ _, Fs.set6 HJ.out.bm HFN.out _ _ _ _ _ _, blk_oth6 HJ.out.bt (by omega) _ _ _ _ _ _, blk_set6 HJ.out.bm _ _ _ _ _ _, OwnS.sgs (own_set6 HJ.out.bm (by decide) HOS.out _ _ _ _ _ _), P7.out, HLO.out, by have := HJ.out.ln; simp only [List.length_cons]; omega, HGL.out⟩
     case measure => simp [intOf]; omega
    ·have hn0 : n = 0 := by omega
     subst hn0
     have hnx := NextM_any m' 1 _ wr HI.out.sg
     rw [nextM_none.2 HI.out.nn] at hnx
     have HC := Lib.hid hnx
     clear hnx
     go_wp2_with fail
     refine HC.out.mono ?_
     rintro e w5 ⟨rfl, e5⟩
     dsimp only [Option.getD_none, Option.isSome_none]
     have E5 := Ext.trans HI.out.e (Ext.trans e5 (Ext.alloc (Ext.refl w5) (.cells #[.int .u8 0, .int .i64 0, .int .i64 0] 40)))
     have HE := Lib.hid E5
     clear e5 E5
     go_wp2_with fail
     refine (wakes17_any _ (HS.out.ext HE.out)).mono ?_
     rintro e w6 ⟨rfl, e6⟩
     have HE6 := Lib.hid (Ext.trans HE.out e6)
     clear e6
     go_wp2_with fail
     go_ret
     exact ⟨rfl, HE6.out⟩
  ·go_wp2_with fail
   refine HGR.out.mono ?_
   rintro e w3 ⟨rfl, e3⟩
   have HE3 := Lib.hid (Ext.trans (Ext.trans HE1.out HX.out) e3)
   clear e3
   go_wp2_with fail
   refine (wakes17_any _ (HS.out.ext HE3.out)).mono ?_
   rintro e w6 ⟨rfl, e6⟩
   have HE6 := Lib.hid (Ext.trans HE3.out e6)
   clear e6
   go_wp2_with fail
   go_ret
   exact ⟨rfl, HE6.out⟩
 ·rw [hg] at HGR
  go_wp2_with fail
  refine HGR.out.mono ?_
  rintro e w3 ⟨rfl, e3⟩
  have HE3 := Lib.hid (Ext.trans (Ext.trans HE1.out HX.out) e3)
  clear e3
  go_wp2_with fail
  refine (wakes17_any _ (HS.out.ext HE3.out)).mono ?_
  rintro e w6 ⟨rfl, e6⟩
  have HE6 := Lib.hid (Ext.trans HE3.out e6)
  clear e6
  go_wp2_with fail
  go_ret
  exact ⟨rfl, HE6.out⟩
theorem ShadReads_2 (v : Value) (fs : List Fil) (w : World) (hS : StW w) (hF : Fs w v fs) (hl : fs.length ≤ 2000000) (hbl : ∀ f ∈ fs, f.2.length ≤ 2000000) :
  Calls Tryz.prog 3 #[v, .bool true] w fun e w' => e = .returned (.bool true) ∧ Ext w w' := by
 obtain ⟨A, c, rfl, _, _⟩ := Fs.open_ hF
 have HS := Lib.hid hS
 have HF := Lib.hid hF
 obtain ⟨R, hR⟩ : ∃ R, tellS fs = R := ⟨_, rfl⟩
 have hrd := Read13_any _ fs w hS hF (by omega) hbl
 rw [hR] at hrd
 have HRD := Lib.hid hrd
 have HR := Lib.hid hR
 clear hS hF hrd hR
 go_enter Tryz.func3, Tryz.ntmps3
 go_wp2_with fail
 refine HRD.out.mono ?_
 rintro e w1 ⟨vl, vs, rfl, hes, hsg, e1⟩
 obtain ⟨A1, c1, rfl, _, _⟩ := SlR.open_ hes
 obtain ⟨A2, c2, rfl, _, _⟩ := hsg.open_
 have hbt : Blk ((w1.alloc (.cells #[.int .i64 R.t.s.idx, .int .i64 R.t.s.term, .int .i64 R.t.s.sum, .int .i64 R.t.s.lvl, .bool R.t.s.fin, .slice A1 R.t.log.length c1, .int .i64 R.t.term, .int .i64 R.t.vote] 27)).alloc (.cells #[.int .i64 R.m.next, .int .i64 R.m.term, .int .i64 R.m.vote, .int .i64 R.m.sq, .int .i64 R.m.sf, .slice A2 R.m.segs.length c2] 32)) w1.heap.size 27 #[.int .i64 R.t.s.idx, .int .i64 R.t.s.term, .int .i64 R.t.s.sum, .int .i64 R.t.s.lvl, .bool R.t.s.fin, .slice A1 R.t.log.length c1, .int .i64 R.t.term, .int .i64 R.t.vote] := (Blk.new w1 _ _).alloc _
 have hbm : Blk ((w1.alloc (.cells #[.int .i64 R.t.s.idx, .int .i64 R.t.s.term, .int .i64 R.t.s.sum, .int .i64 R.t.s.lvl, .bool R.t.s.fin, .slice A1 R.t.log.length c1, .int .i64 R.t.term, .int .i64 R.t.vote] 27)).alloc (.cells #[.int .i64 R.m.next, .int .i64 R.m.term, .int .i64 R.m.vote, .int .i64 R.m.sq, .int .i64 R.m.sf, .slice A2 R.m.segs.length c2] 32)) (w1.heap.size + 1) 32 #[.int .i64 R.m.next, .int .i64 R.m.term, .int .i64 R.m.vote, .int .i64 R.m.sq, .int .i64 R.m.sf, .slice A2 R.m.segs.length c2] := by
  have := Blk.new (w1.alloc (.cells #[.int .i64 R.t.s.idx, .int .i64 R.t.s.term, .int .i64 R.t.s.sum, .int .i64 R.t.s.lvl, .bool R.t.s.fin, .slice A1 R.t.log.length c1, .int .i64 R.t.term, .int .i64 R.t.vote] 27)) 32 #[.int .i64 R.m.next, .int .i64 R.m.term, .int .i64 R.m.vote, .int .i64 R.m.sq, .int .i64 R.m.sf, .slice A2 R.m.segs.length c2]
  rwa [World.size_alloc] at this
 have hX : Ext w1 ((w1.alloc (.cells #[.int .i64 R.t.s.idx, .int .i64 R.t.s.term, .int .i64 R.t.s.sum, .int .i64 R.t.s.lvl, .bool R.t.s.fin, .slice A1 R.t.log.length c1, .int .i64 R.t.term, .int .i64 R.t.vote] 27)).alloc (.cells #[.int .i64 R.m.next, .int .i64 R.m.term, .int .i64 R.m.vote, .int .i64 R.m.sq, .int .i64 R.m.sf, .slice A2 R.m.segs.length c2] 32)) := Ext.alloc (Ext.alloc (Ext.refl _) _) _
 have hgr := Great_any _ fs _ (HF.out.ext (Ext.trans e1 hX)) (by omega)
 have HBT := Lib.hid hbt
 have HBM := Lib.hid hbm
 have HX := Lib.hid hX
 have HGR := Lib.hid hgr
 have HES := Lib.hid hes
 have HSG := Lib.hid hsg
 have HE1 := Lib.hid e1
 clear hbt hbm hX hgr hes hsg e1
 rcases hg : greatS fs with _ | _
 ·rw [hg] at HGR
  by_cases he : R.err = 0
  ·obtain ⟨er, t, m⟩ := R
   have he : er = 0 := he
   subst he
   dsimp only at *
   obtain ⟨hl40, hq⟩ := great_not hg
   have HL := Lib.hid hl40
   have HQ := Lib.hid hq
   have hlm := left_le m 2
   obtain ⟨_, _, _, h60, _⟩ := checkM_b (tell_check HR.out)
   have HN := Lib.hid hlm
   have H60 := Lib.hid h60
   clear hl40 hq hg hbl hl
   go_wp2_with fail
   refine HGR.out.mono ?_
   rintro e w3 ⟨rfl, e3⟩
   have HE3 := Lib.hid e3
   have hbm3 := HBM.out.ext e3
   have hbt3 := HBT.out.ext e3
   obtain ⟨m0, m1, m2, m3, m4, m5⟩ := blk6 hbm3
   have HBM3 := Lib.hid hbm3
   have HBT3 := Lib.hid hbt3
   clear e3 hbm3 hbt3 HGR HBM HBT
   have hc := Left_any m 2 _ w3 (HSG.out.ext (Ext.trans HX.out HE3.out)) (by omega)
   have HC := Lib.hid hc
   clear hc h60 hlm
   go_wp2_with fail
   refine HC.out.mono ?_
   rintro e w4 ⟨rfl, e4⟩
   have hI : RdI w1 w w4 t 2 A1 c1 w1.heap.size (w1.heap.size + 1) (.slice A fs.length c) (leftM m 2) fs m (.slice A2 m.segs.length c2) := by
    have hX4 := Ext.trans (Ext.trans HX.out HE3.out) e4
    have hn := HN.out
    have h6 := H60.out
    have h4 := HL.out
    exact ⟨Ext.trans HE1.out hX4, hX4, HF.out.ext (Ext.trans HE1.out hX4), HBT3.out.ext e4, HBM3.out.ext e4, HSG.out.ext hX4, HR.out, rfl, by omega, HQ.out⟩
   have HI := Lib.hid hI
   have hn := HN.out
   obtain ⟨m0', m1', m2', m3', m4', m5'⟩ := blk6 hI.bm
   have hw : wrap64 (((m.segs.length : Nat) : Int) + 1) = ((m.segs.length : Nat) : Int) + 1 := len_wrap H60.out
   have hk1 : ¬ (((leftM m 2 : Nat) : Int) < 0) := nat_not _
   have hk2 : ¬ (((m.segs.length : Nat) : Int) + 1 < ((leftM m 2 : Nat) : Int)) := len_not hn
   clear e4 HC m0 m1 m2 m3 m4 m5 hI hn HBM3 HBT3 HE3 HRD HL HQ HN H60 HR
   generalize leftM m 2 = L at *
   go_wp2_with fail
   have HSZ := Lib.hid HE1.out.size
   go_loopw [0, 10] (fun v0 v10 wr => ∃ (n : Nat) (fs' : List Fil) (m' : Mf) (vs' : Value), v10 = .int .i64 n ∧ Hid (RdI w1 w wr t 2 A1 c1 w1.heap.size (w1.heap.size + 1) v0 n fs' m' vs')) (fun _ v10 _ => (intOf v10).toNat)
   case atStart => exact ⟨L, fs, m, _, rfl, HI⟩
   case round =>
    obtain ⟨n, fs', m', vs', rfl, HI⟩ := hrel
    obtain ⟨Af, cf, rfl, _, _⟩ := Fs.open_ HI.out.fr
    obtain ⟨Am, cm, rfl, _, _⟩ := HI.out.sg.open_
    clear hw hk1 hk2 m0' m1' m2' m3' m4' m5' HX HSG HE1 HF
    obtain ⟨m0, m1, m2, m3, m4, m5⟩ := blk6 HI.out.bm
    by_cases hn : 0 < n
    ·have hnx : ∃ k s f, nextM m' 2 = some (k, s, f) := by
      cases h : nextM m' 2 with
      | none => have := nextM_none.1 h; have := HI.out.nn; omega
      | some r => exact ⟨_, _, _, rfl⟩
     obtain ⟨k, s, f, hnx⟩ := hnx
     obtain ⟨hth, hfg⟩ := next_some hnx
     obtain ⟨b, nm, cc, p1, p2, p3, p4, p5, p6, p7, p8⟩ := tell_step (g := 2) HI.out.tl hth (by decide)
     have hck := tell_check HI.out.tl
     have hlf := turn_left hck hth hfg
     obtain ⟨o, ho⟩ : ∃ o, turnM m' k s f 2 = o := ⟨_, rfl⟩
     rw [ho] at p5 p7 hlf
     have HOO := Lib.hid ho
     have hnext := NextM_any m' 2 _ wr HI.out.sg
     rw [hnx] at hnext
     have N1 := Lib.hid hnext
     have P1 := Lib.hid p1
     have P2 := Lib.hid p2
     have P3 := Lib.hid p3
     have P4 := Lib.hid p4
     have P5 := Lib.hid p5
     have P6 := Lib.hid p6
     have P7 := Lib.hid p7
     have P8 := Lib.hid p8
     have CK := Lib.hid hck
     have LF := Lib.hid hlf
     clear ho hnx hth hfg p1 p2 p3 p4 p5 p6 p7 p8 hck hlf hnext
     go_wp2_with fail
     refine N1.out.mono ?_
     rintro e w5 ⟨rfl, e5⟩
     dsimp only [Option.getD_some, Option.isSome_some]
     have E5 := Ext.trans e5 (Ext.alloc (Ext.refl w5) (.cells #[.int .u8 k, .int .i64 s, .int .i64 f] 40))
     have hx := Blk.new w5 40 #[.int .u8 k, .int .i64 s, .int .i64 f]
     have HX := Lib.hid hx
     have HE := Lib.hid E5
     have HJ := Lib.hid (HI.out.ext E5)
     clear m0 m1 m2 m3 m4 m5 e5 E5
     obtain ⟨m0, m1, m2, m3, m4, m5⟩ := blk6 HJ.out.bm
     obtain ⟨x0, x1, x2, _, _, _⟩ := blk3 hx
     have hsh := Shad_ok _ _ fs' m' k s f 2 _ (HS.out.ext HJ.out.e) HJ.out.fr HJ.out.sg (by have := HJ.out.ln; omega) (fun f hf => Nat.le_trans (HJ.out.q f hf) (by decide)) (cnt_ok CK.out) (by decide)
     rw [shadT_of (by decide), P1.out] at hsh
     have HC := Lib.hid hsh
     clear hx hsh
     go_wp2_with fail
     refine HC.out.mono ?_
     rintro e w6 ⟨v6, rfl, ho6, e6⟩
     obtain ⟨A6, c6, rfl, _, _⟩ := SlR.open_ ho6.bs
     dsimp only at ho6 ⊢
     have HB := Lib.hid ho6.bs
     replace HJ := Lib.hid (HJ.out.ext e6)
     replace HE := Lib.hid (Ext.trans HE.out e6)
     replace HX := Lib.hid (HX.out.ext e6)
     clear e6 m0 m1 m2 m3 m4 m5 x0 x1 x2 ho6 HC
     obtain ⟨x0, x1, x2, _, _, _⟩ := blk3 HX.out
     go_wp2_with fail
     refine (Of_any k s f 2 w6).mono ?_
     rintro e w7 ⟨rfl, e7'⟩
     have e7 := Ext.trans e7' (Ext.alloc (Ext.refl w7) (.cells #[.int .u8 k, .int .i64 s, .int .i64 2] 40))
     have HY := Lib.hid (Blk.new w7 40 #[.int .u8 k, .int .i64 s, .int .i64 2])
     replace HJ := Lib.hid (HJ.out.ext e7)
     replace HE := Lib.hid (Ext.trans HE.out e7)
     replace HX := Lib.hid (HX.out.ext e7)
     replace HB := Lib.hid (HB.out.ext e7)
     clear e7 x0 x1 x2 e7'
     obtain ⟨y0, y1, y2, _, _, _⟩ := blk3 HY.out
     have hc := refName_any k s 2 _ (HS.out.ext HJ.out.e)
     rw [P4.out] at hc
     have HC := Lib.hid hc
     clear hc
     go_wp2_with fail
     refine HC.out.mono ?_
     rintro e w8 ⟨rfl, e8⟩
     dsimp only [Option.getD_some, Option.isSome_some, if_true, sv]
     replace HJ := Lib.hid (HJ.out.ext e8)
     replace HE := Lib.hid (Ext.trans HE.out e8)
     replace HX := Lib.hid (HX.out.ext e8)
     replace HY := Lib.hid (HY.out.ext e8)
     replace HB := Lib.hid (HB.out.ext e8)
     clear e8 y0 y1 y2 HC
     obtain ⟨m0, m1, m2, m3, m4, m5⟩ := blk6 HJ.out.bm
     obtain ⟨x0, x1, x2, _, _, _⟩ := blk3 HX.out
     obtain ⟨y0, y1, y2, _, _, _⟩ := blk3 HY.out
     have hc := Turned_any m' k s f 2 _ w8 HJ.out.sg (by have := (checkM_b CK.out).2.2.2.1; omega)
     rw [HOO.out] at hc
     have HC := Lib.hid hc
     clear hc
     go_wp2_with fail
     refine HC.out.mono ?_
     rintro e w9 ⟨v9, rfl, ho9, e9'⟩
     obtain ⟨A9, c9, rfl, _, _⟩ := (OwnS.sgs ho9).open_
     have e9 := Ext.trans e9' (Ext.alloc (Ext.refl w9) (.cells #[.int .i64 o.next, .int .i64 o.term, .int .i64 o.vote, .int .i64 o.sq, .int .i64 o.sf, .slice A9 o.segs.length c9] 32))
     have HO := Lib.hid (Blk.new w9 32 #[.int .i64 o.next, .int .i64 o.term, .int .i64 o.vote, .int .i64 o.sq, .int .i64 o.sf, .slice A9 o.segs.length c9])
     have HOS := Lib.hid (OwnS.ext ho9 (Ext.alloc (Ext.refl w9) (.cells #[.int .i64 o.next, .int .i64 o.term, .int .i64 o.vote, .int .i64 o.sq, .int .i64 o.sf, .slice A9 o.segs.length c9] 32)))
     replace HJ := Lib.hid (HJ.out.ext e9)
     replace HE := Lib.hid (Ext.trans HE.out e9)
     replace HX := Lib.hid (HX.out.ext e9)
     replace HY := Lib.hid (HY.out.ext e9)
     replace HB := Lib.hid (HB.out.ext e9)
     clear e9 m0 m1 m2 m3 m4 m5 x0 x1 x2 y0 y1 y2 e9' ho9 HC
     obtain ⟨o0, o1, o2, o3, o4, o5⟩ := blk6 HO.out
     have hc := PutM_any o _ _ HOS.out.sgs
     rw [P5.out] at hc
     have HC := Lib.hid hc
     clear hc
     go_wp2_with fail
     refine HC.out.mono ?_
     rintro e w10 ⟨⟨v10, rfl, ho10⟩, e10⟩
     dsimp only [Option.getD_some, Option.isSome_some, if_true] at ho10 ⊢
     obtain ⟨A10, c10, rfl, _, _⟩ := SlR.open_ ho10.bs
     have HM := Lib.hid ho10.bs
     replace HJ := Lib.hid (HJ.out.ext e10)
     replace HE := Lib.hid (Ext.trans HE.out e10)
     replace HX := Lib.hid (HX.out.ext e10)
     replace HY := Lib.hid (HY.out.ext e10)
     replace HB := Lib.hid (HB.out.ext e10)
     replace HO := Lib.hid (HO.out.ext e10)
     replace HOS := Lib.hid (HOS.out.ext e10)
     clear e10 o0 o1 o2 o3 o4 o5 ho10 HC
     go_wp2_with (at_builtin; refine wpList_app_f rfl (.tmp 126) (.tmp 127) rfl w10 (Ext.alloc (Ext.refl _) _) _ [([77], cc), (nm, b)] [sv [77], .slice A10 cc.length c10, sv nm, .slice A6 b.length c6] rfl (own_newF w10 _ 2 rfl (by decide) (Nat.le_refl _)) (FRow.two HM.out HB.out) _ fs' rfl HJ.out.fr (by have := HJ.out.ln; simp only [List.length_cons, List.length_nil]; omega) ?_; intro A11 c11 w11 hf11 e11)
     have HFN := Lib.hid hf11
     replace HJ := Lib.hid (HJ.out.ext e11)
     replace HE := Lib.hid (Ext.trans HE.out e11)
     replace HX := Lib.hid (HX.out.ext e11)
     replace HY := Lib.hid (HY.out.ext e11)
     replace HB := Lib.hid (HB.out.ext e11)
     replace HO := Lib.hid (HO.out.ext e11)
     replace HOS := Lib.hid (HOS.out.ext e11)
     replace HM := Lib.hid (HM.out.ext e11)
     clear e11  hf11
     obtain ⟨o0, o1, o2, o3, o4, o5⟩ := blk6 HO.out
     have hgl : ∀ f ∈ (([77], cc) :: (nm, b) :: fs' : List Fil), f.2.length ≤ 2000 := by
      intro f hf
      rcases List.mem_cons.1 hf with rfl | hf
      ·exact P6.out
      ·rcases List.mem_cons.1 hf with rfl | hf
       ·exact Nat.le_trans P3.out (by decide)
       ·exact HJ.out.q f hf
     have hrd := Read13_any _ (([77], cc) :: (nm, b) :: fs') w11 (HS.out.ext HJ.out.e) HFN.out (by have := HJ.out.ln; simp only [List.length_cons]; omega) (fun f hf => Nat.le_trans (hgl f hf) (by decide))
     rw [P7.out] at hrd
     have HC := Lib.hid hrd
     have HGL := Lib.hid hgl
     clear hrd hgl
     refine HC.out.mono ?_
     rintro e w12 ⟨vl, vs, rfl, hes, hsg, e12'⟩
     obtain ⟨A12, c12, rfl, _, _⟩ := SlR.open_ hes
     obtain ⟨B12, d12, rfl, _, _⟩ := hsg.open_
     dsimp only at hes hsg ⊢
     have hX : Ext w12 ((w12.alloc (.cells #[.int .i64 t.s.idx, .int .i64 t.s.term, .int .i64 t.s.sum, .int .i64 t.s.lvl, .bool t.s.fin, .slice A12 t.log.length c12, .int .i64 t.term, .int .i64 t.vote] 27)).alloc (.cells #[.int .i64 o.next, .int .i64 o.term, .int .i64 o.vote, .int .i64 o.sq, .int .i64 o.sf, .slice B12 o.segs.length d12] 32)) := Ext.alloc (Ext.alloc (Ext.refl _) _) _
     have e12 := Ext.trans e12' hX
     have HU := Lib.hid (show Blk ((w12.alloc (.cells #[.int .i64 t.s.idx, .int .i64 t.s.term, .int .i64 t.s.sum, .int .i64 t.s.lvl, .bool t.s.fin, .slice A12 t.log.length c12, .int .i64 t.term, .int .i64 t.vote] 27)).alloc (.cells #[.int .i64 o.next, .int .i64 o.term, .int .i64 o.vote, .int .i64 o.sq, .int .i64 o.sf, .slice B12 o.segs.length d12] 32)) w12.heap.size 27 #[.int .i64 t.s.idx, .int .i64 t.s.term, .int .i64 t.s.sum, .int .i64 t.s.lvl, .bool t.s.fin, .slice A12 t.log.length c12, .int .i64 t.term, .int .i64 t.vote] from (Blk.new w12 _ _).alloc _)
     have hp : Blk ((w12.alloc (.cells #[.int .i64 t.s.idx, .int .i64 t.s.term, .int .i64 t.s.sum, .int .i64 t.s.lvl, .bool t.s.fin, .slice A12 t.log.length c12, .int .i64 t.term, .int .i64 t.vote] 27)).alloc (.cells #[.int .i64 o.next, .int .i64 o.term, .int .i64 o.vote, .int .i64 o.sq, .int .i64 o.sf, .slice B12 o.segs.length d12] 32)) (w12.heap.size + 1) 32 #[.int .i64 o.next, .int .i64 o.term, .int .i64 o.vote, .int .i64 o.sq, .int .i64 o.sf, .slice B12 o.segs.length d12] := by
      have := Blk.new (w12.alloc (.cells #[.int .i64 t.s.idx, .int .i64 t.s.term, .int .i64 t.s.sum, .int .i64 t.s.lvl, .bool t.s.fin, .slice A12 t.log.length c12, .int .i64 t.term, .int .i64 t.vote] 27)) 32 #[.int .i64 o.next, .int .i64 o.term, .int .i64 o.vote, .int .i64 o.sq, .int .i64 o.sf, .slice B12 o.segs.length d12]
      rwa [World.size_alloc] at this
     have HP := Lib.hid hp
     have HUE := Lib.hid (SlR.ext hes hX)
     have HPE := Lib.hid (hsg.ext hX)
     replace HJ := Lib.hid (HJ.out.ext e12)
     replace HE := Lib.hid (Ext.trans HE.out e12)
     replace HX := Lib.hid (HX.out.ext e12)
     replace HY := Lib.hid (HY.out.ext e12)
     replace HB := Lib.hid (HB.out.ext e12)
     replace HO := Lib.hid (HO.out.ext e12)
     replace HOS := Lib.hid (HOS.out.ext e12)
     replace HFN := Lib.hid (HFN.out.ext e12)
     clear e12  e12' hX hp hes hsg HC
     obtain ⟨t0, t1, t2, t3, t4, t5, t6, t7⟩ := blk8 HJ.out.bt
     obtain ⟨q0, q1, q2, q3, q4, q5, q6, q7⟩ := blk8 HU.out
     have hc := SameT_any t t _ _ _ HUE.out (SlR.ext HES.out HJ.out.e1)
     rw [sameT_refl] at hc
     have HC := Lib.hid hc
     clear hc
     go_wp2_with fail
     refine HC.out.mono ?_
     rintro e w13 ⟨rfl, e13⟩
     replace HJ := Lib.hid (HJ.out.ext e13)
     replace HE := Lib.hid (Ext.trans HE.out e13)
     replace HX := Lib.hid (HX.out.ext e13)
     replace HY := Lib.hid (HY.out.ext e13)
     replace HB := Lib.hid (HB.out.ext e13)
     replace HO := Lib.hid (HO.out.ext e13)
     replace HOS := Lib.hid (HOS.out.ext e13)
     replace HFN := Lib.hid (HFN.out.ext e13)
     replace HU := Lib.hid (HU.out.ext e13)
     replace HP := Lib.hid (HP.out.ext e13)
     replace HPE := Lib.hid (HPE.out.ext e13)
     clear e13 t0 t1 t2 t3 t4 t5 t6 t7 q0 q1 q2 q3 q4 q5 q6 q7 HC
     obtain ⟨o0, o1, o2, o3, o4, o5⟩ := blk6 HO.out
     obtain ⟨p0, p1, p2, p3, p4, p5⟩ := blk6 HP.out
     have hc := SameM_any o o _ _ _ HPE.out HOS.out.sgs
     rw [show decide (o = o) = true from by simp] at hc
     have HC := Lib.hid hc
     clear hc
     go_wp2_with fail
     refine HC.out.mono ?_
     rintro e w14 ⟨rfl, e14⟩
     replace HJ := Lib.hid (HJ.out.ext e14)
     replace HE := Lib.hid (Ext.trans HE.out e14)
     replace HX := Lib.hid (HX.out.ext e14)
     replace HY := Lib.hid (HY.out.ext e14)
     replace HB := Lib.hid (HB.out.ext e14)
     replace HO := Lib.hid (HO.out.ext e14)
     replace HOS := Lib.hid (HOS.out.ext e14)
     replace HFN := Lib.hid (HFN.out.ext e14)
     clear e14 o0 o1 o2 o3 o4 o5 p0 p1 p2 p3 p4 p5 HC HU HP HPE HUE
     obtain ⟨o0, o1, o2, o3, o4, o5⟩ := blk6 HO.out
     have hlo : leftM o 2 = n - 1 := by have h1 := LF.out; have h2 := HJ.out.nn; omega
     have hn200 : n ≤ 200 := by have := HJ.out.ln; omega
     have hw1 := n_one hn hn200
     have hc := Left_any o 2 _ _ HOS.out.sgs (by have := (checkM_b (tell_check P7.out)).2.2.2.1; omega)
     rw [hlo] at hc
     have HC := Lib.hid hc
     have HLO := Lib.hid hlo
     clear hc hlo
     go_wp2_with fail
     refine HC.out.mono ?_
     rintro e w15 ⟨rfl, e15⟩
     replace HJ := Lib.hid (HJ.out.ext e15)
     replace HE := Lib.hid (Ext.trans HE.out e15)
     replace HX := Lib.hid (HX.out.ext e15)
     replace HY := Lib.hid (HY.out.ext e15)
     replace HB := Lib.hid (HB.out.ext e15)
     replace HO := Lib.hid (HO.out.ext e15)
     replace HOS := Lib.hid (HOS.out.ext e15)
     replace HFN := Lib.hid (HFN.out.ext e15)
     clear e15 o0 o1 o2 o3 o4 o5 HC
     obtain ⟨y0, y1, y2, _, _, _⟩ := blk3 HY.out
     have hc := Says_any _ _ (([77], cc) :: (nm, b) :: fs') k s 2 b _ (HS.out.ext HJ.out.e) HFN.out HB.out (by have := HJ.out.ln; simp only [List.length_cons]; omega)
     rw [P4.out, P8.out, show decide (some b = some b) = true from by simp] at hc
     have HC := Lib.hid hc
     clear hc
     go_wp2_with fail
     refine HC.out.mono ?_
     rintro e w16 ⟨rfl, e16⟩
     replace HJ := Lib.hid (HJ.out.ext e16)
     replace HE := Lib.hid (Ext.trans HE.out e16)
     replace HX := Lib.hid (HX.out.ext e16)
     replace HY := Lib.hid (HY.out.ext e16)
     replace HB := Lib.hid (HB.out.ext e16)
     replace HO := Lib.hid (HO.out.ext e16)
     replace HOS := Lib.hid (HOS.out.ext e16)
     replace HFN := Lib.hid (HFN.out.ext e16)
     clear e16 y0 y1 y2 HC
     obtain ⟨m0, m1, m2, m3, m4, m5⟩ := blk6 HJ.out.bm
     obtain ⟨o0, o1, o2, o3, o4, o5⟩ := blk6 HO.out
     obtain ⟨z0, z1, z2, z3, z4, z5⟩ := blk6f HJ.out.bm
     go_wp2_with fail
     go_roundw
     case rel =>
      refine ⟨n - 1, ([77], cc) :: (nm, b) :: fs', o, .slice A9 o.segs.length c9, by rw [show ((n - 1 : Nat) : Int) = (n : Int) - 1 from by omega], ?_⟩
      have hsz := HSZ.out
      exact ⟨ext_set6 HJ.out.e (by omega) _ _ _ _ _ _, ext_set6 HJ.out.e1 (by omega) _ _ _ _ _ _, Fs.set6 HJ.out.bm HFN.out _ _ _ _ _ _, blk_oth6 HJ.out.bt (by omega) _ _ _ _ _ _, blk_set6 HJ.out.bm _ _ _ _ _ _, OwnS.sgs (own_set6 HJ.out.bm (by decide) HOS.out _ _ _ _ _ _), P7.out, HLO.out, by have := HJ.out.ln; simp only [List.length_cons]; omega, HGL.out⟩
     case measure => simp [intOf]; omega
    ·have hn0 : n = 0 := by omega
     subst hn0
     have hnx := NextM_any m' 2 _ wr HI.out.sg
     rw [nextM_none.2 HI.out.nn] at hnx
     have HC := Lib.hid hnx
     clear hnx
     go_wp2_with fail
     refine HC.out.mono ?_
     rintro e w5 ⟨rfl, e5⟩
     dsimp only [Option.getD_none, Option.isSome_none]
     have E5 := Ext.trans HI.out.e (Ext.trans e5 (Ext.alloc (Ext.refl w5) (.cells #[.int .u8 0, .int .i64 0, .int .i64 0] 40)))
     have HE := Lib.hid E5
     clear e5 E5
     go_wp2_with fail
     refine (wakes17_any _ (HS.out.ext HE.out)).mono ?_
     rintro e w6 ⟨rfl, e6⟩
     have HE6 := Lib.hid (Ext.trans HE.out e6)
     clear e6
     go_wp2_with fail
     go_ret
     exact ⟨rfl, HE6.out⟩
  ·go_wp2_with fail
   refine HGR.out.mono ?_
   rintro e w3 ⟨rfl, e3⟩
   have HE3 := Lib.hid (Ext.trans (Ext.trans HE1.out HX.out) e3)
   clear e3
   go_wp2_with fail
   refine (wakes17_any _ (HS.out.ext HE3.out)).mono ?_
   rintro e w6 ⟨rfl, e6⟩
   have HE6 := Lib.hid (Ext.trans HE3.out e6)
   clear e6
   go_wp2_with fail
   go_ret
   exact ⟨rfl, HE6.out⟩
 ·rw [hg] at HGR
  go_wp2_with fail
  refine HGR.out.mono ?_
  rintro e w3 ⟨rfl, e3⟩
  have HE3 := Lib.hid (Ext.trans (Ext.trans HE1.out HX.out) e3)
  clear e3
  go_wp2_with fail
  refine (wakes17_any _ (HS.out.ext HE3.out)).mono ?_
  rintro e w6 ⟨rfl, e6⟩
  have HE6 := Lib.hid (Ext.trans HE3.out e6)
  clear e6
  go_wp2_with fail
  go_ret
  exact ⟨rfl, HE6.out⟩
theorem ShadReads_any (v : Value) (fs : List Fil) (two : Bool) (w : World) (hS : StW w) (hF : Fs w v fs) (hl : fs.length ≤ 2000000) (hbl : ∀ f ∈ fs, f.2.length ≤ 2000000) :
  Calls Tryz.prog 3 #[v, .bool two] w fun e w' => e = .returned (.bool true) ∧ Ext w w' := by
 cases two with
 | false => exact ShadReads_1 v fs w hS hF hl hbl
 | true => exact ShadReads_2 v fs w hS hF hl hbl
open Go.ChangeShapes Go.WideShapes Go.ChangeAt Go.RowKit Go.Deep Go.Mv
set_option maxRecDepth 100000
theorem own : ownKnob Tryz.prog.godebug = none := by kernel_rfl
theorem laidOut : laidOutB Tryz.prog = true := by kernel_rfl
theorem cellsU8 : Tryz.prog.cellsOf 5 = 1 := by kernel_rfl
instance : Inhabited Ent := ⟨⟨0, 0, 0⟩⟩
theorem slr_of_cells {w : World} {a : Addr} {size n c : Nat} {xs : List Value} (hl : xs.length = n * size) (h1 : n ≤ c) (h2 : c ≤ maxLen) (hs : 0 < size) (h : ∀ j u, xs[j]? = some u → w.cell? (a.add j) = some u) : SlR w size (.slice (some a) n c) n xs := by
 refine ⟨hl, _, c, rfl, h1, h2, fun hn => ?_⟩
 obtain ⟨b, off, sp⟩ := a
 have h0 : 0 < xs.length := by rw [hl]; exact Nat.mul_pos hn hs
 have hc := h 0 xs[0] (List.getElem?_eq_getElem h0)
 cases sp with
 | none =>
  refine ⟨b, off, rfl, fun j u hu => ?_⟩
  have := h j u hu
  rwa [show (⟨b, off, none⟩ : Addr).add j = ⟨b, off + j, none⟩ from by unfold Addr.add; split <;> simp_all] at this
 | some k =>
  exfalso
  unfold World.cell? Addr.add at hc
  simp at hc
  split at hc <;> simp_all
section
variable {H : Type} {enc : TypeId × Value → H} {W : World} {base : Nat} {v : Value} {d : DataW H} {p : List MemPlace}
end
section
variable {H : Type} {enc : TypeId × Value → H} {P : Program}
theorem post_of_below {f : Func} {s : ChangeSpec} {apart fresh handsOn again : Bool} {W W' : World} {args : Array Value} {v : Value} {ds gs : List (DataW H)} {before pa pv : List MemPlace}
  (hW : DataW.Whole enc P f.params.toList s.vars apart W args.toList ds gs before)
  (hres : ∀ (b : Nat) (sp : Nat → Bool) (hd : Bool), DataW.TrodAll enc P W' b sp hd f.resultTypes.toList (v.resultList f.resultTypes.size) (s.fn H (ds ++ gs)).results [])
  (hargs : ∀ sp : Nat → Bool, (∀ p ∈ before, sp p.block = true) → DataW.TrodAll enc P W' 0 sp true f.params.toList args.toList (s.fn H (ds ++ gs)).args pa)
  (hvars : ∀ sp : Nat → Bool, (∀ p ∈ before, sp p.block = true) → DataW.TrodVars enc P W' sp s.vars (s.fn H (ds ++ gs)).vars pv)
  (hps : before = pa ++ pv) (hb : Below W.heap.size W W')
  (hok : ∀ (j : Nat) (t : TypeId) (r : Value), f.resultTypes[j]? = some t → (v.resultList f.resultTypes.size)[j]? = some r → Value.okWide P W' .any 0 t r) :
  s.post enc P f apart fresh handsOn again W args v W' := by
 have hlt : ∀ p ∈ before, p.block < W.heap.size := fun p hp => hW.lt p hp
 have hold : ∀ p ∈ before, (fun b => decide (b < W.heap.size)) p.block = true := fun p hp => by simpa using hlt p hp
 refine ⟨ds, gs, before, [], pa, pv, hW, hres _ _ _, hargs _ hold, hvars _ hold, World.keptBut_mono (fun p hp => ⟨hp, ?_⟩) (hb.frame (· ∈ before)), fun _ => ?_⟩
 ·rw [hps, List.mem_append] at hp
  exact Or.inr hp
 ·obtain ⟨_, _, _, _, _, hz, hn⟩ := hW
  refine ⟨hok, _, _, ([] ++ pa) ++ pv, ⟨[] ++ pa, pv, trodAll_append (hargs _ (fun _ _ => rfl)) (hres _ _ _), hvars _ (fun _ _ => rfl), rfl, ?_, ?_⟩, ?_⟩
  ·intro b off hp
   have hin : MemPlace.cell b off ∈ before := by rw [hps]; simpa using hp
   rw [hb.frozen (hlt _ hin)]
   exact hz b off hin
  ·intro ha
   have := hn ha
   rw [hps] at this
   simpa using this
  ·intro p hp _
   rw [hps]
   simpa using hp
end
end Go.Proofs.YtmecffckghkahaaGreatDoor
