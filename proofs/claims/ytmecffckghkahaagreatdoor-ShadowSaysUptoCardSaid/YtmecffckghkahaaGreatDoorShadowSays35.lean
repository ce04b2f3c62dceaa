/- Merged: ShS -/
import Derived.Test.YtmecffckghkahaaGreatDoorShadowSays34
set_option linter.all false
set_option maxHeartbeats 8000000
namespace Go.Proofs.YtmecffckghkahaaGreatDoor
open Go.RowKit Go.Mv Go.Shelf
set_option maxRecDepth 100000
theorem own_newF' (w : World) (cs : List Value) (m : Nat) (hm : cs.length = m * 2) (hl : m ≤ maxLen) {base n : Nat} (hb : base ≤ w.heap.size) (hn : w.heap.size = n) : (w.alloc (.cells cs.toArray 52)).ownsRow base 52 2 (.slice (some ⟨n, 0, none⟩) m m) m cs := by
 subst hn
 exact own_newF w cs m hm hl hb
theorem ShadSays_1 (v : Value) (fs : List Fil) (which at_ y : Int) (w : World) (hS : StW w) (hF : Fs w v fs) (hl : fs.length ≤ 2000000) (hbl : ∀ f ∈ fs, f.2.length ≤ 2000000) (hy : (Lit.int .u8 y).wf = true) :
  Calls Tryz.prog 4 #[v, .int .i64 which, .int .i64 at_, .int .u8 y, .bool false] w fun e w' => e = .returned (.bool true) ∧ Ext w w' := by
 obtain ⟨A, c, rfl, _, _⟩ := Fs.open_ hF
 have hyr : 0 ≤ y ∧ y ≤ 255 := by simpa [Lit.wf, IntKind.min, IntKind.max, IntKind.signed, IntKind.bits] using hy
 obtain ⟨yb, rfl⟩ : ∃ yb : UInt8, y = (yb.toNat : Int) := ⟨UInt8.ofNat y.toNat, by rw [UInt8.toNat_ofNat']; omega⟩
 have HS := Lib.hid hS
 have HF := Lib.hid hF
 obtain ⟨R, hR⟩ : ∃ R, tellS fs = R := ⟨_, rfl⟩
 have hrd := Read13_any _ fs w hS hF (by omega) hbl
 rw [hR] at hrd
 have HRD := Lib.hid hrd
 have HR := Lib.hid hR
 clear hS hF hrd hR hy hyr
 go_enter Tryz.func4, Tryz.ntmps4
 go_wp2_with fail
 refine HRD.out.mono ?_
 rintro e w1 ⟨vl, vs, rfl, hes, hsg, e1⟩
 obtain ⟨A1, c1, rfl, _, _⟩ := SlR.open_ hes
 obtain ⟨A2, c2, rfl, _, _⟩ := hsg.open_
 have hbm : Blk ((w1.alloc (.cells #[.int .i64 R.t.s.idx, .int .i64 R.t.s.term, .int .i64 R.t.s.sum, .int .i64 R.t.s.lvl, .bool R.t.s.fin, .slice A1 R.t.log.length c1, .int .i64 R.t.term, .int .i64 R.t.vote] 27)).alloc (.cells #[.int .i64 R.m.next, .int .i64 R.m.term, .int .i64 R.m.vote, .int .i64 R.m.sq, .int .i64 R.m.sf, .slice A2 R.m.segs.length c2] 32)) (w1.heap.size + 1) 32 #[.int .i64 R.m.next, .int .i64 R.m.term, .int .i64 R.m.vote, .int .i64 R.m.sq, .int .i64 R.m.sf, .slice A2 R.m.segs.length c2] := by
  have := Blk.new (w1.alloc (.cells #[.int .i64 R.t.s.idx, .int .i64 R.t.s.term, .int .i64 R.t.s.sum, .int .i64 R.t.s.lvl, .bool R.t.s.fin, .slice A1 R.t.log.length c1, .int .i64 R.t.term, .int .i64 R.t.vote] 27)) 32 #[.int .i64 R.m.next, .int .i64 R.m.term, .int .i64 R.m.vote, .int .i64 R.m.sq, .int .i64 R.m.sf, .slice A2 R.m.segs.length c2]
  rwa [World.size_alloc] at this
 have hX : Ext w1 ((w1.alloc (.cells #[.int .i64 R.t.s.idx, .int .i64 R.t.s.term, .int .i64 R.t.s.sum, .int .i64 R.t.s.lvl, .bool R.t.s.fin, .slice A1 R.t.log.length c1, .int .i64 R.t.term, .int .i64 R.t.vote] 27)).alloc (.cells #[.int .i64 R.m.next, .int .i64 R.m.term, .int .i64 R.m.vote, .int .i64 R.m.sq, .int .i64 R.m.sf, .slice A2 R.m.segs.length c2] 32)) := Ext.alloc (Ext.alloc (Ext.refl _) _) _
 have hgr := Great_any _ fs _ (HF.out.ext (Ext.trans e1 hX)) (by omega)
 have HBM := Lib.hid hbm
 have HX := Lib.hid hX
 have HGR := Lib.hid hgr
 have HSG := Lib.hid hsg
 have HE1 := Lib.hid e1
 clear hbm hX hgr hes hsg e1
 rcases hg : greatS fs with _ | _
 ·rw [hg] at HGR
  by_cases he : R.err = 0
  ·obtain ⟨er, t, m⟩ := R
   have he : er = 0 := he
   subst he
   dsimp only at *
   have hck := tell_check HR.out
   obtain ⟨hl40, hq⟩ := great_not hg
   have HL := Lib.hid hl40
   have HQ := Lib.hid hq
   have h60 := (checkM_b hck).2.2.2.1
   have HCK := Lib.hid hck
   have H60 := Lib.hid h60
   clear hl40 hq hg hbl hl hck he HRD
   go_wp2_with fail
   refine HGR.out.mono ?_
   rintro e w3 ⟨rfl, e3⟩
   have HE := Lib.hid (Ext.trans HE1.out (Ext.trans HX.out e3))
   have HBM3 := Lib.hid (HBM.out.ext e3)
   have HSG3 := Lib.hid (HSG.out.ext (Ext.trans HX.out e3))
   obtain ⟨m0, m1, m2, m3, m4, m5⟩ := blk6 HBM3.out
   have hc := Keep_any m _ w3 HSG3.out (by omega)
   have HC := Lib.hid hc
   clear e3 HGR HBM HX HE1 HSG hc h60
   go_wp2_with fail
   refine HC.out.mono ?_
   rintro e w4 ⟨v4, rfl, ho4, e4⟩
   obtain ⟨N, hN⟩ : ∃ N, (thingM m).length = N := ⟨_, rfl⟩
   have hkl : (keepM m).length = N + 1 := by rw [keep_things, List.length_cons, hN]
   have hs4 := SlR.of_own ho4
   rw [hkl] at hs4
   obtain ⟨A4, c4, rfl, hc4, _⟩ := SlR.open_ hs4
   obtain ⟨_, bk, ok, rfl, hcells⟩ := SlR.at_ hs4 (Nat.succ_pos N)
   have HE := Lib.hid (Ext.trans HE.out e4)
   have HBM := Lib.hid (HBM3.out.ext e4)
   have HSG := Lib.hid (HSG3.out.ext e4)
   have hc1 : 1 ≤ N + 1 := by omega
   have hc2 : N + 1 ≤ c4 := hc4
   have HK := Lib.hid hcells
   clear m0 m1 m2 m3 m4 m5 HC e4 ho4 hs4 hc4 hcells HBM3 HSG3
   obtain ⟨m0, m1, m2, m3, m4, m5⟩ := blk6 HBM.out
   by_cases hN0 : N = 0
   ·subst hN0
    have hlf : leftM m 1 = 0 := thing_none (List.length_eq_zero_iff.1 hN)
    have hc := Left_any m 1 _ w4 HSG.out (by have := H60.out; omega)
    rw [hlf] at hc
    have HC := Lib.hid (show Calls Tryz.prog 8 _ w4 (fun e w' => e = .returned (.int .i64 0) ∧ Ext w4 w') from hc)
    clear hc hlf hkl hN
    go_wp2_with fail
    all_goals
     refine HC.out.mono ?_
     rintro e w5 ⟨rfl, e5⟩
     have HE5 := Lib.hid (Ext.trans HE.out e5)
     clear e5
     go_wp2_with fail
     refine (wakes17_any _ (HS.out.ext HE5.out)).mono ?_
     rintro e w6 ⟨rfl, e6⟩
     have HE6 := Lib.hid (Ext.trans HE5.out e6)
     clear e6
     go_wp2_with fail
     go_ret
     exact ⟨rfl, HE6.out⟩
   ·obtain ⟨j, hj, hjl⟩ := left_mod which N (by omega) (by have := thing_len m; have := H60.out; omega)
    have hn41 : ¬ c4 = 1 := by omega
    have hNz : ¬ ((N : Nat) : Int) = 0 := by omega
    have hjt : j < (thingM m).length := by omega
    obtain ⟨k, s, f, hx⟩ : ∃ k s f, (thingM m)[j] = (k, s, f) := ⟨_, _, _, rfl⟩
    have hth := thing_is (m := m) (x := (thingM m)[j]) (List.getElem_mem hjt)
    rw [hx] at hth
    have hcl : ∀ i u, (idC (k, s, f))[i]? = some u → w4.cell? ⟨bk, ok + 3 + j * 3 + i, none⟩ = some u := by
     intro i u hu
     have hi : i < 3 := (List.getElem?_eq_some_iff.1 hu).1
     have e1 : idCells (thingM m) = idCells ((thingM m).take j) ++ (idC (thingM m)[j] ++ idCells ((thingM m).drop (j + 1))) := by
      conv => lhs; rw [show thingM m = (thingM m).take j ++ (thingM m)[j] :: (thingM m).drop (j + 1) from by rw [List.getElem_cons_drop, List.take_append_drop]]
      unfold idCells
      rw [List.flatMap_append, List.flatMap_cons]
     have e0 : idCells (keepM m) = idC (1, 0, 0) ++ (idCells ((thingM m).take j) ++ (idC (k, s, f) ++ idCells ((thingM m).drop (j + 1)))) := by
      rw [keep_things, ← hx, ← e1]
      rfl
     have hl1 : (idCells ((thingM m).take j)).length = j * 3 := by rw [idCells_len, List.length_take]; omega
     have := HK.out (3 + (j * 3 + i)) u (by
      rw [e0, List.getElem?_append_right (by simp [idC]), List.getElem?_append_right (by simp [idC, hl1]), List.getElem?_append_left (by simp [idC, hl1]; omega)]
      rw [show 3 + (j * 3 + i) - (idC (1, 0, 0)).length - (idCells ((thingM m).take j)).length = i from by rw [hl1]; simp [idC]]
      exact hu)
     rw [show ok + 3 + j * 3 + i = ok + (3 + (j * 3 + i)) from by omega]
     exact this
    have x0 : w4.cell? ⟨bk, ok + 3 + j * 3, none⟩ = some (.int .u8 k) := hcl 0 _ rfl
    have x1 : w4.cell? ⟨bk, ok + 3 + j * 3 + 1, none⟩ = some (.int .i64 s) := hcl 1 _ rfl
    have x2 : w4.cell? ⟨bk, ok + 3 + j * 3 + 2, none⟩ = some (.int .i64 f) := hcl 2 _ rfl
    have HTH := Lib.hid hth
    clear hcl hx hjt hth hkl hN HK
    have E5 : Ext w4 (w4.alloc (.cells #[.int .u8 k, .int .i64 s, .int .i64 f] 40)) := Ext.alloc (Ext.refl _) _
    have HX := Lib.hid (Blk.new w4 40 #[.int .u8 k, .int .i64 s, .int .i64 f])
    replace HE := Lib.hid (Ext.trans HE.out E5)
    replace HBM := Lib.hid (HBM.out.ext E5)
    replace HSG := Lib.hid (HSG.out.ext E5)
    clear E5 m0 m1 m2 m3 m4 m5
    obtain ⟨m0, m1, m2, m3, m4, m5⟩ := blk6 HBM.out
    obtain ⟨z0, z1, z2, _, _, _⟩ := blk3 HX.out
    obtain ⟨hkk, ⟨hs1, hs2⟩, hff⟩ := isTh_ok HCK.out HTH.out
    obtain ⟨nm, hnm⟩ : ∃ nm, nameS k s 1 = some nm := ⟨_, name_thing hkk hs1 hs2 (by decide)⟩
    obtain ⟨b, nm', cc, p1, p2, p3, p4, _⟩ := tell_step (g := 1) HR.out HTH.out (by decide)
    have P1 := Lib.hid p1
    have P2 := Lib.hid p2
    have P3 := Lib.hid p3
    have NM := Lib.hid hnm
    have HFF := Lib.hid hff
    have hc := Shad_ok _ _ fs m k s f 1 _ (HS.out.ext HE.out) (HF.out.ext HE.out) HSG.out (by have := HL.out; omega) (fun f hf => Nat.le_trans (HQ.out f hf) (by decide)) (cnt_ok HCK.out) (by decide)
    rw [shadT_of (by decide), P1.out] at hc
    have HC := Lib.hid hc
    clear hc hkk hs1 hs2 hff hnm p1 p2 p3 p4
    go_wp2_with fail
    refine HC.out.mono ?_
    rintro e w6 ⟨v6, rfl, ho6, e6⟩
    obtain ⟨A6, c6, rfl, _, _⟩ := SlR.open_ ho6.bs
    dsimp only at ho6 ⊢
    have HB := Lib.hid ho6.bs
    have hbn : ¬ ((b.length : Nat) : Int) = 0 := by have := P2.out; omega
    obtain ⟨q, hq, hqb⟩ := left_mod at_ b.length (by have := P2.out; omega) (by have := P3.out; omega)
    have HJ := Lib.hid hq
    replace HE := Lib.hid (Ext.trans HE.out e6)
    replace HBM := Lib.hid (HBM.out.ext e6)
    replace HSG := Lib.hid (HSG.out.ext e6)
    replace HX := Lib.hid (HX.out.ext e6)
    clear e6 ho6 HC m0 m1 m2 m3 m4 m5 z0 z1 z2 x0 x1 x2 hj
    obtain ⟨z0, z1, z2, _, _, _⟩ := blk3 HX.out
    go_wp2_with fail
    refine (Of_any k s f 1 w6).mono ?_
    rintro e w7 ⟨rfl, e7⟩
    have hc := refName_any k s 1 w7 (HS.out.ext (Ext.trans HE.out e7))
    rw [NM.out] at hc
    have HC := Lib.hid hc
    have HE7 := Lib.hid e7
    clear hc e7 z0 z1 z2
    go_wp2_with fail
    refine HC.out.mono ?_
    rintro e w8 ⟨rfl, e8⟩
    dsimp only [Option.getD_some, Option.isSome_some, if_true, sv]
    have e68 := Ext.trans HE7.out e8
    replace HE := Lib.hid (Ext.trans HE.out e68)
    replace HBM := Lib.hid (HBM.out.ext e68)
    replace HSG := Lib.hid (HSG.out.ext e68)
    replace HX := Lib.hid (HX.out.ext e68)
    replace HB := Lib.hid (HB.out.ext e68)
    have hb1 := HB.out
    clear e68 e8 HE7 HC
    go_wp2_with (first
     | (at_builtin; refine wpList_app_b rfl (.tmp 89) (.tmp 90) rfl w8.heap.size _ [] rfl (ownB_empty w8) _ b rfl (hb1.ext (Ext.alloc (Ext.refl _) _)) (by have := P3.out; simp; omega) (by simp) ?_; intro A9 c9 w9 ho9 hG9; have e9 : Ext w8 w9 := hG9 w8 (Ext.alloc (Ext.refl _) _) (Nat.le_refl _); simp only [List.length_nil, Nat.zero_add, List.nil_append] at ho9 ⊢; have ho9' : OwnB w9 w8.heap.size (.slice A9 b.length c9) b := ho9; obtain ⟨q9, cap9, e9', hq9, _, _⟩ := ownsRow_pos ho9 (by omega); cases e9'; obtain ⟨hcell, hfz⟩ := OwnB.at_ ho9' q hqb; clear hG9)
     | (at_builtin; rw [bits_xor_u8]; have e10 : Ext w8 (w9.setCell ⟨q9, q, none⟩ (.int .u8 ((b[q] ^^^ yb).toNat : Int))) := Below.setCell (p := ⟨q9, q, none⟩) e9 hq9 _; refine wpList_app_f rfl (.tmp 114) (.tmp 115) rfl (w9.setCell ⟨q9, q, none⟩ (.int .u8 ((b[q] ^^^ yb).toNat : Int))) (Ext.alloc (Ext.refl _) _) _ [(nm, b.set q (b[q] ^^^ yb))] [sv nm, .slice (some ⟨q9, 0, none⟩) b.length c9] rfl (own_newF' _ _ 1 rfl (by decide) (Nat.le_refl _) (by simp only [World.size_setCell])) (FRow.one' (show Bs _ (.slice (some ⟨q9, 0, none⟩) b.length c9) (b.set q (b[q] ^^^ yb)) from SlR.of_own (ho9'.set q (b[q] ^^^ yb)))) _ fs rfl (HF.out.ext (Ext.trans HE.out e10)) (by have := HL.out; simp only [List.length_cons, List.length_nil]; omega) ?_; intro A11 c11 w11 hf11 e11'; have e11 := Ext.trans e10 e11'; clear e11' e10 hcell hfz ho9 ho9' e9 hq9))
    have HFN := Lib.hid hf11
    replace HE := Lib.hid (Ext.trans HE.out e11)
    replace HBM := Lib.hid (HBM.out.ext e11)
    replace HSG := Lib.hid (HSG.out.ext e11)
    replace HX := Lib.hid (HX.out.ext e11)
    replace HB := Lib.hid (HB.out.ext e11)
    clear e11 hf11 hb1
    obtain ⟨m0, m1, m2, m3, m4, m5⟩ := blk6 HBM.out
    obtain ⟨x0, x1, x2, _, _, _⟩ := blk3 HX.out
    have HTC := Lib.hid (turn_check HCK.out HTH.out (show (1 : Int) = 1 ∨ (1 : Int) = 2 by decide))
    have HFB := Lib.hid (show ∀ f ∈ ((nm, b.set q (b[q] ^^^ yb)) :: fs : List Fil), f.2.length ≤ 2000000 from by
     intro f hf
     rcases List.mem_cons.1 hf with rfl | hf
     ·have := P3.out; simp only [List.length_set]; omega
     ·exact Nat.le_trans (HQ.out f hf) (by decide))
    refine wp_region_held_drew (S := fun W => W.cell? ⟨w1.heap.size + 1, 0, none⟩ = some (.int .i64 m.next) ∧ W.cell? ⟨w1.heap.size + 1, 1, none⟩ = some (.int .i64 m.term) ∧ W.cell? ⟨w1.heap.size + 1, 2, none⟩ = some (.int .i64 m.vote) ∧ W.cell? ⟨w1.heap.size + 1, 3, none⟩ = some (.int .i64 m.sq) ∧ W.cell? ⟨w1.heap.size + 1, 4, none⟩ = some (.int .i64 m.sf) ∧ W.cell? ⟨w1.heap.size + 1, 5, none⟩ = some (.slice A2 m.segs.length c2) ∧ W.cell? ⟨w4.heap.size, 0, none⟩ = some (.int .u8 k) ∧ W.cell? ⟨w4.heap.size, 1, none⟩ = some (.int .i64 s) ∧ W.cell? ⟨w4.heap.size, 2, none⟩ = some (.int .i64 f)) (by kernel_rfl) ⟨m0, m1, m2, m3, m4, m5, x0, x1, x2⟩ (fun hHeld => ?_)
    refine tkL 0 rfl ?_
    try simp only [Act.put, sA, sZ, sS]
    refine tkL 1 rfl ?_
    try simp only [Act.put, sA, sZ, sS]
    refine tkL 2 rfl ?_
    try simp only [Act.put, sA, sZ, sS]
    refine tkL 3 rfl ?_
    try simp only [Act.put, sA, sZ, sS]
    refine tkL 5 rfl ?_
    try simp only [Act.put, sA, sZ, sS]
    refine tkL 6 rfl ?_
    try simp only [Act.put, sA, sZ, sS]
    refine tkL 8 rfl ?_
    try simp only [Act.put, sA, sZ, sS]
    refine tkL 9 rfl ?_
    try simp only [Act.put, sA, sZ, sS]
    refine AllReadyH.one (i := 4) rfl (by kernel_rfl) (by rfl) (fun K hK => ?_)
    go_simp
    refine (Turned_any m k s f 1 _ _ (HSG.out.ext (Ext.drew (Ext.refl _))) (by have := H60.out; omega)).mono ?_
    rintro e w12 ⟨v12, rfl, ho12, e12'⟩
    have e12 := Ext.trans (Ext.drew (Ext.refl _)) e12'
    obtain ⟨A12, c12, rfl, _, _⟩ := (OwnS.sgs ho12).open_
    have HO := Lib.hid (OwnS.sgs ho12)
    replace HE := Lib.hid (Ext.trans HE.out e12)
    replace HBM := Lib.hid (HBM.out.ext e12)
    replace HSG := Lib.hid (HSG.out.ext e12)
    replace HX := Lib.hid (HX.out.ext e12)
    replace HB := Lib.hid (HB.out.ext e12)
    replace HFN := Lib.hid (HFN.out.ext e12)
    clear e12 m0 m1 m2 m3 m4 m5 x0 x1 x2 e12' ho12
    obtain ⟨m0, m1, m2, m3, m4, m5⟩ := blk6 HBM.out
    obtain ⟨x0, x1, x2, _, _, _⟩ := blk3 HX.out
    refine hK.out _ _ ⟨m0, m1, m2, m3, m4, m5, x0, x1, x2⟩ (fun hHeld => ?_)
    clear hK K
    try simp only [Act.put, sA, sZ, sS]
    refine AllReadyH.one (i := 7) rfl (by kernel_rfl) (by rfl) (fun K hK => ?_)
    go_simp
    refine (Of_any k s f 1 _).mono ?_
    rintro e w13 ⟨rfl, e13⟩
    replace HE := Lib.hid (Ext.trans HE.out e13)
    replace HBM := Lib.hid (HBM.out.ext e13)
    replace HSG := Lib.hid (HSG.out.ext e13)
    replace HX := Lib.hid (HX.out.ext e13)
    replace HB := Lib.hid (HB.out.ext e13)
    replace HFN := Lib.hid (HFN.out.ext e13)
    replace HO := Lib.hid (HO.out.ext e13)
    clear e13 m0 m1 m2 m3 m4 m5 x0 x1 x2 
    obtain ⟨m0, m1, m2, m3, m4, m5⟩ := blk6 HBM.out
    obtain ⟨x0, x1, x2, _, _, _⟩ := blk3 HX.out
    refine hK.out _ _ ⟨m0, m1, m2, m3, m4, m5, x0, x1, x2⟩ (fun hHeld => ?_)
    clear hK K
    try simp only [Act.put, sA, sZ, sS]
    refine AllReadyH.one (i := 10) rfl (by kernel_rfl) (by rfl) (fun K hK => ?_)
    go_simp
    have hc := Shad_ok _ _ ((nm, b.set q (b[q] ^^^ yb)) :: fs) (turnM m k s f 1) k s 1 f _ (HS.out.ext HE.out) HFN.out HO.out (by have := HL.out; simp only [List.length_cons]; omega) HFB.out (cnt_ok HTC.out) HFF.out
    rw [shadT_of HFF.out] at hc
    refine hc.mono ?_
    clear hc
    rintro e w14 ⟨v14, rfl, ho14, e14⟩
    obtain ⟨r19, hr19⟩ : ∃ r, shadM ((nm, b.set q (b[q] ^^^ yb)) :: fs) (turnM m k s f 1) k s 1 f = r := ⟨_, rfl⟩
    rw [hr19] at ho14 ⊢
    have HR19 := Lib.hid hr19
    obtain ⟨A19, c19, rfl, _, _⟩ := SlR.open_ ho14.bs
    have HB19 := Lib.hid ho14.bs
    replace HE := Lib.hid (Ext.trans HE.out e14)
    replace HBM := Lib.hid (HBM.out.ext e14)
    replace HSG := Lib.hid (HSG.out.ext e14)
    replace HX := Lib.hid (HX.out.ext e14)
    replace HB := Lib.hid (HB.out.ext e14)
    replace HFN := Lib.hid (HFN.out.ext e14)
    clear e14 m0 m1 m2 m3 m4 m5 x0 x1 x2 ho14 hr19 HO
    obtain ⟨m0, m1, m2, m3, m4, m5⟩ := blk6 HBM.out
    obtain ⟨x0, x1, x2, _, _, _⟩ := blk3 HX.out
    refine hK.out _ _ ⟨m0, m1, m2, m3, m4, m5, x0, x1, x2⟩ (fun hHeld => ?_)
    clear hK K
    try simp only [Act.put, sA, sZ, sS]
    refine tkL 11 rfl ?_
    try simp only [Act.put, sA, sZ, sS]
    refine tkL 12 rfl ?_
    try simp only [Act.put, sA, sZ, sS]
    refine tkL 13 rfl ?_
    try simp only [Act.put, sA, sZ, sS]
    refine tkL 14 rfl ?_
    try simp only [Act.put, sA, sZ, sS]
    refine tkL 15 rfl ?_
    try simp only [Act.put, sA, sZ, sS]
    refine wpAnyH_done (by kernel_rfl) ?_ _
    by_cases hy0 : (yb.toNat : Int) = 0
    ·have hyz : yb = 0 := by
      apply UInt8.toNat_inj.1
      have h0 : yb.toNat = 0 := by omega
      rw [h0]; rfl
     have hset : b.set q (b[q] ^^^ yb) = b := by rw [hyz, UInt8.xor_zero, List.set_getElem_self]
     obtain ⟨⟨b', g1, g2⟩, g3⟩ := say_step HR.out HTH.out (show (1 : Int) = 1 ∨ (1 : Int) = 2 by decide) NM.out P1.out
     have G3 := Lib.hid (show shadM ((nm, b.set q (b[q] ^^^ yb)) :: fs) (turnM m k s f 1) k s 1 1 = (0, b) from by rw [hset]; exact g3)
     have hr := HR19.out
     rw [hset, g1] at hr
     subst hr
     dsimp only
     have hb1 : ¬ ((b'.length : Nat) : Int) ≤ 0 := by omega
     have hb2 : (0 : Int) < ((b'.length : Nat) : Int) := by omega
     have HSET := Lib.hid hset
     clear hyz hset g1 g2 g3 HR19 HB19
     go_wp2_with fail
     refine (Of_any k s f 1 _).mono ?_
     rintro e w15 ⟨rfl, e15⟩
     replace HE := Lib.hid (Ext.trans HE.out e15)
     replace HBM := Lib.hid (HBM.out.ext e15)
     replace HSG := Lib.hid (HSG.out.ext e15)
     replace HX := Lib.hid (HX.out.ext e15)
     replace HB := Lib.hid (HB.out.ext e15)
     replace HFN := Lib.hid (HFN.out.ext e15)
     clear e15 m0 m1 m2 m3 m4 m5 x0 x1 x2 
     obtain ⟨m0, m1, m2, m3, m4, m5⟩ := blk6 HBM.out
     obtain ⟨x0, x1, x2, _, _, _⟩ := blk3 HX.out
     have hc := Says_any _ _ ((nm, b.set q (b[q] ^^^ yb)) :: fs) k s 1 b _ (HS.out.ext HE.out) HFN.out HB.out (by have := HL.out; simp only [List.length_cons]; omega)
     rw [NM.out, bytesS_cons, if_pos rfl, HSET.out, show decide (some b = some b) = true from by simp] at hc
     have HC := Lib.hid hc
     clear hc
     go_wp2_with fail
     refine HC.out.mono ?_
     rintro e w16 ⟨rfl, e16⟩
     replace HE := Lib.hid (Ext.trans HE.out e16)
     replace HBM := Lib.hid (HBM.out.ext e16)
     replace HSG := Lib.hid (HSG.out.ext e16)
     replace HX := Lib.hid (HX.out.ext e16)
     replace HB := Lib.hid (HB.out.ext e16)
     replace HFN := Lib.hid (HFN.out.ext e16)
     clear e16 m0 m1 m2 m3 m4 m5 x0 x1 x2 HC
     obtain ⟨m0, m1, m2, m3, m4, m5⟩ := blk6 HBM.out
     obtain ⟨x0, x1, x2, _, _, _⟩ := blk3 HX.out
     go_wp2_with fail
     refine wp_region_held_drew (S := fun W => W.cell? ⟨w1.heap.size + 1, 0, none⟩ = some (.int .i64 m.next) ∧ W.cell? ⟨w1.heap.size + 1, 1, none⟩ = some (.int .i64 m.term) ∧ W.cell? ⟨w1.heap.size + 1, 2, none⟩ = some (.int .i64 m.vote) ∧ W.cell? ⟨w1.heap.size + 1, 3, none⟩ = some (.int .i64 m.sq) ∧ W.cell? ⟨w1.heap.size + 1, 4, none⟩ = some (.int .i64 m.sf) ∧ W.cell? ⟨w1.heap.size + 1, 5, none⟩ = some (.slice A2 m.segs.length c2) ∧ W.cell? ⟨w4.heap.size, 0, none⟩ = some (.int .u8 k) ∧ W.cell? ⟨w4.heap.size, 1, none⟩ = some (.int .i64 s) ∧ W.cell? ⟨w4.heap.size, 2, none⟩ = some (.int .i64 f)) (by kernel_rfl) ⟨m0, m1, m2, m3, m4, m5, x0, x1, x2⟩ (fun hHeld => ?_)
     refine tkL 0 rfl ?_
     try simp only [Act.put, sA, sZ, sS]
     refine tkL 1 rfl ?_
     try simp only [Act.put, sA, sZ, sS]
     refine tkL 2 rfl ?_
     try simp only [Act.put, sA, sZ, sS]
     refine tkL 3 rfl ?_
     try simp only [Act.put, sA, sZ, sS]
     refine tkL 5 rfl ?_
     try simp only [Act.put, sA, sZ, sS]
     refine tkL 6 rfl ?_
     try simp only [Act.put, sA, sZ, sS]
     refine tkL 8 rfl ?_
     try simp only [Act.put, sA, sZ, sS]
     refine AllReadyH.one (i := 4) rfl (by kernel_rfl) (by rfl) (fun K hK => ?_)
     go_simp
     refine (Turned_any m k s f 1 _ _ (HSG.out.ext (Ext.drew (Ext.refl _))) (by have := H60.out; omega)).mono ?_
     rintro e w12 ⟨v12, rfl, ho12, e12'⟩
     have e12 := Ext.trans (Ext.drew (Ext.refl _)) e12'
     obtain ⟨A12, c12, rfl, _, _⟩ := (OwnS.sgs ho12).open_
     have HO := Lib.hid (OwnS.sgs ho12)
     replace HE := Lib.hid (Ext.trans HE.out e12)
     replace HBM := Lib.hid (HBM.out.ext e12)
     replace HSG := Lib.hid (HSG.out.ext e12)
     replace HX := Lib.hid (HX.out.ext e12)
     replace HB := Lib.hid (HB.out.ext e12)
     replace HFN := Lib.hid (HFN.out.ext e12)
     clear e12 m0 m1 m2 m3 m4 m5 x0 x1 x2 e12' ho12
     obtain ⟨m0, m1, m2, m3, m4, m5⟩ := blk6 HBM.out
     obtain ⟨x0, x1, x2, _, _, _⟩ := blk3 HX.out
     refine hK.out _ _ ⟨m0, m1, m2, m3, m4, m5, x0, x1, x2⟩ (fun hHeld => ?_)
     clear hK K
     try simp only [Act.put, sA, sZ, sS]
     refine AllReadyH.one (i := 7) rfl (by kernel_rfl) (by rfl) (fun K hK => ?_)
     go_simp
     refine (Of_any k s f 1 _).mono ?_
     rintro e w13 ⟨rfl, e13⟩
     replace HE := Lib.hid (Ext.trans HE.out e13)
     replace HBM := Lib.hid (HBM.out.ext e13)
     replace HSG := Lib.hid (HSG.out.ext e13)
     replace HX := Lib.hid (HX.out.ext e13)
     replace HB := Lib.hid (HB.out.ext e13)
     replace HFN := Lib.hid (HFN.out.ext e13)
     replace HO := Lib.hid (HO.out.ext e13)
     clear e13 m0 m1 m2 m3 m4 m5 x0 x1 x2 
     obtain ⟨m0, m1, m2, m3, m4, m5⟩ := blk6 HBM.out
     obtain ⟨x0, x1, x2, _, _, _⟩ := blk3 HX.out
     refine hK.out _ _ ⟨m0, m1, m2, m3, m4, m5, x0, x1, x2⟩ (fun hHeld => ?_)
     clear hK K
     try simp only [Act.put, sA, sZ, sS]
     refine AllReadyH.one (i := 9) rfl (by kernel_rfl) (by rfl) (fun K hK => ?_)
     go_simp
     have hc := Shad_ok _ _ ((nm, b.set q (b[q] ^^^ yb)) :: fs) (turnM m k s f 1) k s 1 1 _ (HS.out.ext HE.out) HFN.out HO.out (by have := HL.out; simp only [List.length_cons]; omega) HFB.out (cnt_ok HTC.out) (show (1 : Int) = 1 ∨ (1 : Int) = 2 by decide)
     rw [shadT_of (show (1 : Int) = 1 ∨ (1 : Int) = 2 by decide)] at hc
     refine hc.mono ?_
     clear hc
     rintro e w14 ⟨v14, rfl, ho14, e14⟩
     obtain ⟨r24, hr24⟩ : ∃ r, shadM ((nm, b.set q (b[q] ^^^ yb)) :: fs) (turnM m k s f 1) k s 1 1 = r := ⟨_, rfl⟩
     rw [hr24] at ho14 ⊢
     have HR24 := Lib.hid hr24
     obtain ⟨A24, c24, rfl, _, _⟩ := SlR.open_ ho14.bs
     have HB24 := Lib.hid ho14.bs
     replace HE := Lib.hid (Ext.trans HE.out e14)
     replace HBM := Lib.hid (HBM.out.ext e14)
     replace HSG := Lib.hid (HSG.out.ext e14)
     replace HX := Lib.hid (HX.out.ext e14)
     replace HB := Lib.hid (HB.out.ext e14)
     replace HFN := Lib.hid (HFN.out.ext e14)
     clear e14 m0 m1 m2 m3 m4 m5 x0 x1 x2 ho14 hr24 HO
     obtain ⟨m0, m1, m2, m3, m4, m5⟩ := blk6 HBM.out
     obtain ⟨x0, x1, x2, _, _, _⟩ := blk3 HX.out
     refine hK.out _ _ ⟨m0, m1, m2, m3, m4, m5, x0, x1, x2⟩ (fun hHeld => ?_)
     clear hK K
     try simp only [Act.put, sA, sZ, sS]
     refine tkL 10 rfl ?_
     try simp only [Act.put, sA, sZ, sS]
     refine tkL 11 rfl ?_
     try simp only [Act.put, sA, sZ, sS]
     refine tkL 12 rfl ?_
     try simp only [Act.put, sA, sZ, sS]
     refine tkL 13 rfl ?_
     try simp only [Act.put, sA, sZ, sS]
     refine tkL 14 rfl ?_
     try simp only [Act.put, sA, sZ, sS]
     refine wpAnyH_done (by kernel_rfl) ?_ _
     have hr := HR24.out
     rw [G3.out] at hr
     subst hr
     have hc := same17_any _ _ _ _ _ HB24.out HB.out
     rw [show decide (b = b) = true from by simp] at hc
     have HC := Lib.hid hc
     clear hc
     dsimp only at HC ⊢
     go_wp2_with fail
     refine HC.out.mono ?_
     rintro e w17 ⟨rfl, e17⟩
     replace HE := Lib.hid (Ext.trans HE.out e17)
     clear e17 m0 m1 m2 m3 m4 m5 x0 x1 x2
     go_wp2_with fail
     refine (wakes17_any _ (HS.out.ext HE.out)).mono ?_
     rintro e w18 ⟨rfl, e18⟩
     have HE6 := Lib.hid (Ext.trans HE.out e18)
     clear e18
     go_wp2_with fail
     go_ret
     exact ⟨rfl, HE6.out⟩
    ·have hyz : yb ≠ 0 := by rintro rfl; exact hy0 rfl
     have hset : ¬ b.set q (b[q] ^^^ yb) = b := by
      intro h
      have h2 := List.getElem_set_self (l := b) (i := q) (a := b[q] ^^^ yb) (by simpa using hqb)
      simp only [h] at h2
      exact xor_ne _ _ hyz h2.symm
     have HSET := Lib.hid hset
     clear hyz hset HR19 HB19
     go_wp2_with fail
     refine (Of_any k s f 1 _).mono ?_
     rintro e w15 ⟨rfl, e15⟩
     replace HE := Lib.hid (Ext.trans HE.out e15)
     replace HBM := Lib.hid (HBM.out.ext e15)
     replace HSG := Lib.hid (HSG.out.ext e15)
     replace HX := Lib.hid (HX.out.ext e15)
     replace HB := Lib.hid (HB.out.ext e15)
     replace HFN := Lib.hid (HFN.out.ext e15)
     clear e15 m0 m1 m2 m3 m4 m5 x0 x1 x2 
     obtain ⟨m0, m1, m2, m3, m4, m5⟩ := blk6 HBM.out
     obtain ⟨x0, x1, x2, _, _, _⟩ := blk3 HX.out
     have hc := Says_any _ _ ((nm, b.set q (b[q] ^^^ yb)) :: fs) k s 1 b _ (HS.out.ext HE.out) HFN.out HB.out (by have := HL.out; simp only [List.length_cons]; omega)
     rw [NM.out, bytesS_cons, if_pos rfl, show decide (some (b.set q (b[q] ^^^ yb)) = some b) = false from by simpa using HSET.out] at hc
     have HC := Lib.hid hc
     clear hc
     go_wp2_with fail
     refine HC.out.mono ?_
     rintro e w16 ⟨rfl, e16⟩
     replace HE := Lib.hid (Ext.trans HE.out e16)
     clear e16 HC m0 m1 m2 m3 m4 m5 x0 x1 x2
     go_wp2_with fail
     refine (wakes17_any _ (HS.out.ext HE.out)).mono ?_
     rintro e w18 ⟨rfl, e18⟩
     have HE6 := Lib.hid (Ext.trans HE.out e18)
     clear e18
     go_wp2_with fail
     go_ret
     exact ⟨rfl, HE6.out⟩
  ·go_wp2_with fail
   refine HGR.out.mono ?_
   rintro e w3 ⟨rfl, e3⟩
   have HE3 := Lib.hid (Ext.trans (Ext.trans HE1.out HX.out) e3)
   clear e3
   go_wp2_with fail
   refine (wakes17_any _ (HS.out.ext HE3.out)).mono ?_
   rintro e w6 ⟨rfl, e6⟩
   have HE6 := Lib.hid (Ext.trans HE3.out e6)
   clear e6
   go_wp2_with fail
   go_ret
   exact ⟨rfl, HE6.out⟩
 ·rw [hg] at HGR
  go_wp2_with fail
  refine HGR.out.mono ?_
  rintro e w3 ⟨rfl, e3⟩
  have HE3 := Lib.hid (Ext.trans (Ext.trans HE1.out HX.out) e3)
  clear e3
  go_wp2_with fail
  refine (wakes17_any _ (HS.out.ext HE3.out)).mono ?_
  rintro e w6 ⟨rfl, e6⟩
  have HE6 := Lib.hid (Ext.trans HE3.out e6)
  clear e6
  go_wp2_with fail
  go_ret
  exact ⟨rfl, HE6.out⟩
theorem ShadSays_2 (v : Value) (fs : List Fil) (which at_ y : Int) (w : World) (hS : StW w) (hF : Fs w v fs) (hl : fs.length ≤ 2000000) (hbl : ∀ f ∈ fs, f.2.length ≤ 2000000) (hy : (Lit.int .u8 y).wf = true) :
  Calls Tryz.prog 4 #[v, .int .i64 which, .int .i64 at_, .int .u8 y, .bool true] w fun e w' => e = .returned (.bool true) ∧ Ext w w' := by
 obtain ⟨A, c, rfl, _, _⟩ := Fs.open_ hF
 have hyr : 0 ≤ y ∧ y ≤ 255 := by simpa [Lit.wf, IntKind.min, IntKind.max, IntKind.signed, IntKind.bits] using hy
 obtain ⟨yb, rfl⟩ : ∃ yb : UInt8, y = (yb.toNat : Int) := ⟨UInt8.ofNat y.toNat, by rw [UInt8.toNat_ofNat']; omega⟩
 have HS := Lib.hid hS
 have HF := Lib.hid hF
 obtain ⟨R, hR⟩ : ∃ R, tellS fs = R := ⟨_, rfl⟩
 have hrd := Read13_any _ fs w hS hF (by omega) hbl
 rw [hR] at hrd
 have HRD := Lib.hid hrd
 have HR := Lib.hid hR
 clear hS hF hrd hR hy hyr
 go_enter Tryz.func4, Tryz.ntmps4
 go_wp2_with fail
 refine HRD.out.mono ?_
 rintro e w1 ⟨vl, vs, rfl, hes, hsg, e1⟩
 obtain ⟨A1, c1, rfl, _, _⟩ := SlR.open_ hes
 obtain ⟨A2, c2, rfl, _, _⟩ := hsg.open_
 have hbm : Blk ((w1.alloc (.cells #[.int .i64 R.t.s.idx, .int .i64 R.t.s.term, .int .i64 R.t.s.sum, .int .i64 R.t.s.lvl, .bool R.t.s.fin, .slice A1 R.t.log.length c1, .int .i64 R.t.term, .int .i64 R.t.vote] 27)).alloc (.cells #[.int .i64 R.m.next, .int .i64 R.m.term, .int .i64 R.m.vote, .int .i64 R.m.sq, .int .i64 R.m.sf, .slice A2 R.m.segs.length c2] 32)) (w1.heap.size + 1) 32 #[.int .i64 R.m.next, .int .i64 R.m.term, .int .i64 R.m.vote, .int .i64 R.m.sq, .int .i64 R.m.sf, .slice A2 R.m.segs.length c2] := by
  have := Blk.new (w1.alloc (.cells #[.int .i64 R.t.s.idx, .int .i64 R.t.s.term, .int .i64 R.t.s.sum, .int .i64 R.t.s.lvl, .bool R.t.s.fin, .slice A1 R.t.log.length c1, .int .i64 R.t.term, .int .i64 R.t.vote] 27)) 32 #[.int .i64 R.m.next, .int .i64 R.m.term, .int .i64 R.m.vote, .int .i64 R.m.sq, .int .i64 R.m.sf, .slice A2 R.m.segs.length c2]
  rwa [World.size_alloc] at this
 have hX : Ext w1 ((w1.alloc (.cells #[.int .i64 R.t.s.idx, .int .i64 R.t.s.term, .int .i64 R.t.s.sum, .int .i64 R.t.s.lvl, .bool R.t.s.fin, .slice A1 R.t.log.length c1, .int .i64 R.t.term, .int .i64 R.t.vote] 27)).alloc (.cells #[.int .i64 R.m.next, .int .i64 R.m.term, .int .i64 R.m.vote, .int .i64 R.m.sq, .int .i64 R.m.sf, .slice A2 R.m.segs.length c2] 32)) := Ext.alloc (Ext.alloc (Ext.refl _) _) _
 have hgr := Great_any _ fs _ (HF.out.ext (Ext.trans e1 hX)) (by omega)
 have HBM := Lib.hid hbm
 have HX := Lib.hid hX
 have HGR := Lib.hid hgr
 have HSG := Lib.hid hsg
 have HE1 := Lib.hid e1
 clear hbm hX hgr hes hsg e1
 rcases hg : greatS fs with _ | _
 ·rw [hg] at HGR
  by_cases he : R.err = 0
  ·obtain ⟨er, t, m⟩ := R
   have he : er = 0 := he
   subst he
   dsimp only at *
   have hck := tell_check HR.out
   obtain ⟨hl40, hq⟩ := great_not hg
   have HL := Lib.hid hl40
   have HQ := Lib.hid hq
   have h60 := (checkM_b hck).2.2.2.1
   have HCK := Lib.hid hck
   have H60 := Lib.hid h60
   clear hl40 hq hg hbl hl hck he HRD
   go_wp2_with fail
   refine HGR.out.mono ?_
   rintro e w3 ⟨rfl, e3⟩
   have HE := Lib.hid (Ext.trans HE1.out (Ext.trans HX.out e3))
   have HBM3 := Lib.hid (HBM.out.ext e3)
   have HSG3 := Lib.hid (HSG.out.ext (Ext.trans HX.out e3))
   obtain ⟨m0, m1, m2, m3, m4, m5⟩ := blk6 HBM3.out
   have hc := Keep_any m _ w3 HSG3.out (by omega)
   have HC := Lib.hid hc
   clear e3 HGR HBM HX HE1 HSG hc h60
   go_wp2_with fail
   refine HC.out.mono ?_
   rintro e w4 ⟨v4, rfl, ho4, e4⟩
   obtain ⟨N, hN⟩ : ∃ N, (thingM m).length = N := ⟨_, rfl⟩
   have hkl : (keepM m).length = N + 1 := by rw [keep_things, List.length_cons, hN]
   have hs4 := SlR.of_own ho4
   rw [hkl] at hs4
   obtain ⟨A4, c4, rfl, hc4, _⟩ := SlR.open_ hs4
   obtain ⟨_, bk, ok, rfl, hcells⟩ := SlR.at_ hs4 (Nat.succ_pos N)
   have HE := Lib.hid (Ext.trans HE.out e4)
   have HBM := Lib.hid (HBM3.out.ext e4)
   have HSG := Lib.hid (HSG3.out.ext e4)
   have hc1 : 1 ≤ N + 1 := by omega
   have hc2 : N + 1 ≤ c4 := hc4
   have HK := Lib.hid hcells
   clear m0 m1 m2 m3 m4 m5 HC e4 ho4 hs4 hc4 hcells HBM3 HSG3
   obtain ⟨m0, m1, m2, m3, m4, m5⟩ := blk6 HBM.out
   by_cases hN0 : N = 0
   ·subst hN0
    have hlf : leftM m 2 = 0 := thing_none (List.length_eq_zero_iff.1 hN)
    have hc := Left_any m 2 _ w4 HSG.out (by have := H60.out; omega)
    rw [hlf] at hc
    have HC := Lib.hid (show Calls Tryz.prog 8 _ w4 (fun e w' => e = .returned (.int .i64 0) ∧ Ext w4 w') from hc)
    clear hc hlf hkl hN
    go_wp2_with fail
    all_goals
     refine HC.out.mono ?_
     rintro e w5 ⟨rfl, e5⟩
     have HE5 := Lib.hid (Ext.trans HE.out e5)
     clear e5
     go_wp2_with fail
     refine (wakes17_any _ (HS.out.ext HE5.out)).mono ?_
     rintro e w6 ⟨rfl, e6⟩
     have HE6 := Lib.hid (Ext.trans HE5.out e6)
     clear e6
     go_wp2_with fail
     go_ret
     exact ⟨rfl, HE6.out⟩
   ·obtain ⟨j, hj, hjl⟩ := left_mod which N (by omega) (by have := thing_len m; have := H60.out; omega)
    have hn41 : ¬ c4 = 1 := by omega
    have hNz : ¬ ((N : Nat) : Int) = 0 := by omega
    have hjt : j < (thingM m).length := by omega
    obtain ⟨k, s, f, hx⟩ : ∃ k s f, (thingM m)[j] = (k, s, f) := ⟨_, _, _, rfl⟩
    have hth := thing_is (m := m) (x := (thingM m)[j]) (List.getElem_mem hjt)
    rw [hx] at hth
    have hcl : ∀ i u, (idC (k, s, f))[i]? = some u → w4.cell? ⟨bk, ok + 3 + j * 3 + i, none⟩ = some u := by
     intro i u hu
     have hi : i < 3 := (List.getElem?_eq_some_iff.1 hu).1
     have e1 : idCells (thingM m) = idCells ((thingM m).take j) ++ (idC (thingM m)[j] ++ idCells ((thingM m).drop (j + 1))) := by
      conv => lhs; rw [show thingM m = (thingM m).take j ++ (thingM m)[j] :: (thingM m).drop (j + 1) from by rw [List.getElem_cons_drop, List.take_append_drop]]
      unfold idCells
      rw [List.flatMap_append, List.flatMap_cons]
     have e0 : idCells (keepM m) = idC (1, 0, 0) ++ (idCells ((thingM m).take j) ++ (idC (k, s, f) ++ idCells ((thingM m).drop (j + 1)))) := by
      rw [keep_things, ← hx, ← e1]
      rfl
     have hl1 : (idCells ((thingM m).take j)).length = j * 3 := by rw [idCells_len, List.length_take]; omega
     have := HK.out (3 + (j * 3 + i)) u (by
      rw [e0, List.getElem?_append_right (by simp [idC]), List.getElem?_append_right (by simp [idC, hl1]), List.getElem?_append_left (by simp [idC, hl1]; omega)]
      rw [show 3 + (j * 3 + i) - (idC (1, 0, 0)).length - (idCells ((thingM m).take j)).length = i from by rw [hl1]; simp [idC]]
      exact hu)
     rw [show ok + 3 + j * 3 + i = ok + (3 + (j * 3 + i)) from by omega]
     exact this
    have x0 : w4.cell? ⟨bk, ok + 3 + j * 3, none⟩ = some (.int .u8 k) := hcl 0 _ rfl
    have x1 : w4.cell? ⟨bk, ok + 3 + j * 3 + 1, none⟩ = some (.int .i64 s) := hcl 1 _ rfl
    have x2 : w4.cell? ⟨bk, ok + 3 + j * 3 + 2, none⟩ = some (.int .i64 f) := hcl 2 _ rfl
    have HTH := Lib.hid hth
    clear hcl hx hjt hth hkl hN HK
    have E5 : Ext w4 (w4.alloc (.cells #[.int .u8 k, .int .i64 s, .int .i64 f] 40)) := Ext.alloc (Ext.refl _) _
    have HX := Lib.hid (Blk.new w4 40 #[.int .u8 k, .int .i64 s, .int .i64 f])
    replace HE := Lib.hid (Ext.trans HE.out E5)
    replace HBM := Lib.hid (HBM.out.ext E5)
    replace HSG := Lib.hid (HSG.out.ext E5)
    clear E5 m0 m1 m2 m3 m4 m5
    obtain ⟨m0, m1, m2, m3, m4, m5⟩ := blk6 HBM.out
    obtain ⟨z0, z1, z2, _, _, _⟩ := blk3 HX.out
    obtain ⟨hkk, ⟨hs1, hs2⟩, hff⟩ := isTh_ok HCK.out HTH.out
    obtain ⟨nm, hnm⟩ : ∃ nm, nameS k s 2 = some nm := ⟨_, name_thing hkk hs1 hs2 (by decide)⟩
    obtain ⟨b, nm', cc, p1, p2, p3, p4, _⟩ := tell_step (g := 2) HR.out HTH.out (by decide)
    have P1 := Lib.hid p1
    have P2 := Lib.hid p2
    have P3 := Lib.hid p3
    have NM := Lib.hid hnm
    have HFF := Lib.hid hff
    have hc := Shad_ok _ _ fs m k s f 2 _ (HS.out.ext HE.out) (HF.out.ext HE.out) HSG.out (by have := HL.out; omega) (fun f hf => Nat.le_trans (HQ.out f hf) (by decide)) (cnt_ok HCK.out) (by decide)
    rw [shadT_of (by decide), P1.out] at hc
    have HC := Lib.hid hc
    clear hc hkk hs1 hs2 hff hnm p1 p2 p3 p4
    go_wp2_with fail
    refine HC.out.mono ?_
    rintro e w6 ⟨v6, rfl, ho6, e6⟩
    obtain ⟨A6, c6, rfl, _, _⟩ := SlR.open_ ho6.bs
    dsimp only at ho6 ⊢
    have HB := Lib.hid ho6.bs
    have hbn : ¬ ((b.length : Nat) : Int) = 0 := by have := P2.out; omega
    obtain ⟨q, hq, hqb⟩ := left_mod at_ b.length (by have := P2.out; omega) (by have := P3.out; omega)
    have HJ := Lib.hid hq
    replace HE := Lib.hid (Ext.trans HE.out e6)
    replace HBM := Lib.hid (HBM.out.ext e6)
    replace HSG := Lib.hid (HSG.out.ext e6)
    replace HX := Lib.hid (HX.out.ext e6)
    clear e6 ho6 HC m0 m1 m2 m3 m4 m5 z0 z1 z2 x0 x1 x2 hj
    obtain ⟨z0, z1, z2, _, _, _⟩ := blk3 HX.out
    go_wp2_with fail
    refine (Of_any k s f 2 w6).mono ?_
    rintro e w7 ⟨rfl, e7⟩
    have hc := refName_any k s 2 w7 (HS.out.ext (Ext.trans HE.out e7))
    rw [NM.out] at hc
    have HC := Lib.hid hc
    have HE7 := Lib.hid e7
    clear hc e7 z0 z1 z2
    go_wp2_with fail
    refine HC.out.mono ?_
    rintro e w8 ⟨rfl, e8⟩
    dsimp only [Option.getD_some, Option.isSome_some, if_true, sv]
    have e68 := Ext.trans HE7.out e8
    replace HE := Lib.hid (Ext.trans HE.out e68)
    replace HBM := Lib.hid (HBM.out.ext e68)
    replace HSG := Lib.hid (HSG.out.ext e68)
    replace HX := Lib.hid (HX.out.ext e68)
    replace HB := Lib.hid (HB.out.ext e68)
    have hb1 := HB.out
    clear e68 e8 HE7 HC
    go_wp2_with (first
     | (at_builtin; refine wpList_app_b rfl (.tmp 89) (.tmp 90) rfl w8.heap.size _ [] rfl (ownB_empty w8) _ b rfl (hb1.ext (Ext.alloc (Ext.refl _) _)) (by have := P3.out; simp; omega) (by simp) ?_; intro A9 c9 w9 ho9 hG9; have e9 : Ext w8 w9 := hG9 w8 (Ext.alloc (Ext.refl _) _) (Nat.le_refl _); simp only [List.length_nil, Nat.zero_add, List.nil_append] at ho9 ⊢; have ho9' : OwnB w9 w8.heap.size (.slice A9 b.length c9) b := ho9; obtain ⟨q9, cap9, e9', hq9, _, _⟩ := ownsRow_pos ho9 (by omega); cases e9'; obtain ⟨hcell, hfz⟩ := OwnB.at_ ho9' q hqb; clear hG9)
     | (at_builtin; rw [bits_xor_u8]; have e10 : Ext w8 (w9.setCell ⟨q9, q, none⟩ (.int .u8 ((b[q] ^^^ yb).toNat : Int))) := Below.setCell (p := ⟨q9, q, none⟩) e9 hq9 _; refine wpList_app_f rfl (.tmp 114) (.tmp 115) rfl (w9.setCell ⟨q9, q, none⟩ (.int .u8 ((b[q] ^^^ yb).toNat : Int))) (Ext.alloc (Ext.refl _) _) _ [(nm, b.set q (b[q] ^^^ yb))] [sv nm, .slice (some ⟨q9, 0, none⟩) b.length c9] rfl (own_newF' _ _ 1 rfl (by decide) (Nat.le_refl _) (by simp only [World.size_setCell])) (FRow.one' (show Bs _ (.slice (some ⟨q9, 0, none⟩) b.length c9) (b.set q (b[q] ^^^ yb)) from SlR.of_own (ho9'.set q (b[q] ^^^ yb)))) _ fs rfl (HF.out.ext (Ext.trans HE.out e10)) (by have := HL.out; simp only [List.length_cons, List.length_nil]; omega) ?_; intro A11 c11 w11 hf11 e11'; have e11 := Ext.trans e10 e11'; clear e11' e10 hcell hfz ho9 ho9' e9 hq9))
    have HFN := Lib.hid hf11
    replace HE := Lib.hid (Ext.trans HE.out e11)
    replace HBM := Lib.hid (HBM.out.ext e11)
    replace HSG := Lib.hid (HSG.out.ext e11)
    replace HX := Lib.hid (HX.out.ext e11)
    replace HB := Lib.hid (HB.out.ext e11)
    clear e11 hf11 hb1
    obtain ⟨m0, m1, m2, m3, m4, m5⟩ := blk6 HBM.out
    obtain ⟨x0, x1, x2, _, _, _⟩ := blk3 HX.out
    have HTC := Lib.hid (turn_check HCK.out HTH.out (show (2 : Int) = 1 ∨ (2 : Int) = 2 by decide))
    have HFB := Lib.hid (show ∀ f ∈ ((nm, b.set q (b[q] ^^^ yb)) :: fs : List Fil), f.2.length ≤ 2000000 from by
     intro f hf
     rcases List.mem_cons.1 hf with rfl | hf
     ·have := P3.out; simp only [List.length_set]; omega
     ·exact Nat.le_trans (HQ.out f hf) (by decide))
    refine wp_region_held_drew (S := fun W => W.cell? ⟨w1.heap.size + 1, 0, none⟩ = some (.int .i64 m.next) ∧ W.cell? ⟨w1.heap.size + 1, 1, none⟩ = some (.int .i64 m.term) ∧ W.cell? ⟨w1.heap.size + 1, 2, none⟩ = some (.int .i64 m.vote) ∧ W.cell? ⟨w1.heap.size + 1, 3, none⟩ = some (.int .i64 m.sq) ∧ W.cell? ⟨w1.heap.size + 1, 4, none⟩ = some (.int .i64 m.sf) ∧ W.cell? ⟨w1.heap.size + 1, 5, none⟩ = some (.slice A2 m.segs.length c2) ∧ W.cell? ⟨w4.heap.size, 0, none⟩ = some (.int .u8 k) ∧ W.cell? ⟨w4.heap.size, 1, none⟩ = some (.int .i64 s) ∧ W.cell? ⟨w4.heap.size, 2, none⟩ = some (.int .i64 f)) (by kernel_rfl) ⟨m0, m1, m2, m3, m4, m5, x0, x1, x2⟩ (fun hHeld => ?_)
    refine tkL 0 rfl ?_
    try simp only [Act.put, sA, sZ, sS]
    refine tkL 1 rfl ?_
    try simp only [Act.put, sA, sZ, sS]
    refine tkL 2 rfl ?_
    try simp only [Act.put, sA, sZ, sS]
    refine tkL 3 rfl ?_
    try simp only [Act.put, sA, sZ, sS]
    refine tkL 5 rfl ?_
    try simp only [Act.put, sA, sZ, sS]
    refine tkL 6 rfl ?_
    try simp only [Act.put, sA, sZ, sS]
    refine tkL 8 rfl ?_
    try simp only [Act.put, sA, sZ, sS]
    refine tkL 9 rfl ?_
    try simp only [Act.put, sA, sZ, sS]
    refine AllReadyH.one (i := 4) rfl (by kernel_rfl) (by rfl) (fun K hK => ?_)
    go_simp
    refine (Turned_any m k s f 2 _ _ (HSG.out.ext (Ext.drew (Ext.refl _))) (by have := H60.out; omega)).mono ?_
    rintro e w12 ⟨v12, rfl, ho12, e12'⟩
    have e12 := Ext.trans (Ext.drew (Ext.refl _)) e12'
    obtain ⟨A12, c12, rfl, _, _⟩ := (OwnS.sgs ho12).open_
    have HO := Lib.hid (OwnS.sgs ho12)
    replace HE := Lib.hid (Ext.trans HE.out e12)
    replace HBM := Lib.hid (HBM.out.ext e12)
    replace HSG := Lib.hid (HSG.out.ext e12)
    replace HX := Lib.hid (HX.out.ext e12)
    replace HB := Lib.hid (HB.out.ext e12)
    replace HFN := Lib.hid (HFN.out.ext e12)
    clear e12 m0 m1 m2 m3 m4 m5 x0 x1 x2 e12' ho12
    obtain ⟨m0, m1, m2, m3, m4, m5⟩ := blk6 HBM.out
    obtain ⟨x0, x1, x2, _, _, _⟩ := blk3 HX.out
    refine hK.out _ _ ⟨m0, m1, m2, m3, m4, m5, x0, x1, x2⟩ (fun hHeld => ?_)
    clear hK K
    try simp only [Act.put, sA, sZ, sS]
    refine AllReadyH.one (i := 7) rfl (by kernel_rfl) (by rfl) (fun K hK => ?_)
    go_simp
    refine (Of_any k s f 2 _).mono ?_
    rintro e w13 ⟨rfl, e13⟩
    replace HE := Lib.hid (Ext.trans HE.out e13)
    replace HBM := Lib.hid (HBM.out.ext e13)
    replace HSG := Lib.hid (HSG.out.ext e13)
    replace HX := Lib.hid (HX.out.ext e13)
    replace HB := Lib.hid (HB.out.ext e13)
    replace HFN := Lib.hid (HFN.out.ext e13)
    replace HO := Lib.hid (HO.out.ext e13)
    clear e13 m0 m1 m2 m3 m4 m5 x0 x1 x2 
    obtain ⟨m0, m1, m2, m3, m4, m5⟩ := blk6 HBM.out
    obtain ⟨x0, x1, x2, _, _, _⟩ := blk3 HX.out
    refine hK.out _ _ ⟨m0, m1, m2, m3, m4, m5, x0, x1, x2⟩ (fun hHeld => ?_)
    clear hK K
    try simp only [Act.put, sA, sZ, sS]
    refine AllReadyH.one (i := 10) rfl (by kernel_rfl) (by rfl) (fun K hK => ?_)
    go_simp
    have hc := Shad_ok _ _ ((nm, b.set q (b[q] ^^^ yb)) :: fs) (turnM m k s f 2) k s 2 f _ (HS.out.ext HE.out) HFN.out HO.out (by have := HL.out; simp only [List.length_cons]; omega) HFB.out (cnt_ok HTC.out) HFF.out
    rw [shadT_of HFF.out] at hc
    refine hc.mono ?_
    clear hc
    rintro e w14 ⟨v14, rfl, ho14, e14⟩
    obtain ⟨r19, hr19⟩ : ∃ r, shadM ((nm, b.set q (b[q] ^^^ yb)) :: fs) (turnM m k s f 2) k s 2 f = r := ⟨_, rfl⟩
    rw [hr19] at ho14 ⊢
    have HR19 := Lib.hid hr19
    obtain ⟨A19, c19, rfl, _, _⟩ := SlR.open_ ho14.bs
    have HB19 := Lib.hid ho14.bs
    replace HE := Lib.hid (Ext.trans HE.out e14)
    replace HBM := Lib.hid (HBM.out.ext e14)
    replace HSG := Lib.hid (HSG.out.ext e14)
    replace HX := Lib.hid (HX.out.ext e14)
    replace HB := Lib.hid (HB.out.ext e14)
    replace HFN := Lib.hid (HFN.out.ext e14)
    clear e14 m0 m1 m2 m3 m4 m5 x0 x1 x2 ho14 hr19 HO
    obtain ⟨m0, m1, m2, m3, m4, m5⟩ := blk6 HBM.out
    obtain ⟨x0, x1, x2, _, _, _⟩ := blk3 HX.out
    refine hK.out _ _ ⟨m0, m1, m2, m3, m4, m5, x0, x1, x2⟩ (fun hHeld => ?_)
    clear hK K
    try simp only [Act.put, sA, sZ, sS]
    refine tkL 11 rfl ?_
    try simp only [Act.put, sA, sZ, sS]
    refine tkL 12 rfl ?_
    try simp only [Act.put, sA, sZ, sS]
    refine tkL 13 rfl ?_
    try simp only [Act.put, sA, sZ, sS]
    refine tkL 14 rfl ?_
    try simp only [Act.put, sA, sZ, sS]
    refine tkL 15 rfl ?_
    try simp only [Act.put, sA, sZ, sS]
    refine wpAnyH_done (by kernel_rfl) ?_ _
    by_cases hy0 : (yb.toNat : Int) = 0
    ·have hyz : yb = 0 := by
      apply UInt8.toNat_inj.1
      have h0 : yb.toNat = 0 := by omega
      rw [h0]; rfl
     have hset : b.set q (b[q] ^^^ yb) = b := by rw [hyz, UInt8.xor_zero, List.set_getElem_self]
     obtain ⟨⟨b', g1, g2⟩, g3⟩ := say_step HR.out HTH.out (show (2 : Int) = 1 ∨ (2 : Int) = 2 by decide) NM.out P1.out
     have G3 := Lib.hid (show shadM ((nm, b.set q (b[q] ^^^ yb)) :: fs) (turnM m k s f 2) k s 2 2 = (0, b) from by rw [hset]; exact g3)
     have hr := HR19.out
     rw [hset, g1] at hr
     subst hr
     dsimp only
     have hb1 : ¬ ((b'.length : Nat) : Int) ≤ 0 := by omega
     have hb2 : (0 : Int) < ((b'.length : Nat) : Int) := by omega
     have HSET := Lib.hid hset
     clear hyz hset g1 g2 g3 HR19 HB19
     go_wp2_with fail
     refine (Of_any k s f 2 _).mono ?_
     rintro e w15 ⟨rfl, e15⟩
     replace HE := Lib.hid (Ext.trans HE.out e15)
     replace HBM := Lib.hid (HBM.out.ext e15)
     replace HSG := Lib.hid (HSG.out.ext e15)
     replace HX := Lib.hid (HX.out.ext e15)
     replace HB := Lib.hid (HB.out.ext e15)
     replace HFN := Lib.hid (HFN.out.ext e15)
     clear e15 m0 m1 m2 m3 m4 m5 x0 x1 x2 
     obtain ⟨m0, m1, m2, m3, m4, m5⟩ := blk6 HBM.out
     obtain ⟨x0, x1, x2, _, _, _⟩ := blk3 HX.out
     have hc := Says_any _ _ ((nm, b.set q (b[q] ^^^ yb)) :: fs) k s 2 b _ (HS.out.ext HE.out) HFN.out HB.out (by have := HL.out; simp only [List.length_cons]; omega)
     rw [NM.out, bytesS_cons, if_pos rfl, HSET.out, show decide (some b = some b) = true from by simp] at hc
     have HC := Lib.hid hc
     clear hc
     go_wp2_with fail
     refine HC.out.mono ?_
     rintro e w16 ⟨rfl, e16⟩
     replace HE := Lib.hid (Ext.trans HE.out e16)
     replace HBM := Lib.hid (HBM.out.ext e16)
     replace HSG := Lib.hid (HSG.out.ext e16)
     replace HX := Lib.hid (HX.out.ext e16)
     replace HB := Lib.hid (HB.out.ext e16)
     replace HFN := Lib.hid (HFN.out.ext e16)
     clear e16 m0 m1 m2 m3 m4 m5 x0 x1 x2 HC
     obtain ⟨m0, m1, m2, m3, m4, m5⟩ := blk6 HBM.out
     obtain ⟨x0, x1, x2, _, _, _⟩ := blk3 HX.out
     go_wp2_with fail
     refine wp_region_held_drew (S := fun W => W.cell? ⟨w1.heap.size + 1, 0, none⟩ = some (.int .i64 m.next) ∧ W.cell? ⟨w1.heap.size + 1, 1, none⟩ = some (.int .i64 m.term) ∧ W.cell? ⟨w1.heap.size + 1, 2, none⟩ = some (.int .i64 m.vote) ∧ W.cell? ⟨w1.heap.size + 1, 3, none⟩ = some (.int .i64 m.sq) ∧ W.cell? ⟨w1.heap.size + 1, 4, none⟩ = some (.int .i64 m.sf) ∧ W.cell? ⟨w1.heap.size + 1, 5, none⟩ = some (.slice A2 m.segs.length c2) ∧ W.cell? ⟨w4.heap.size, 0, none⟩ = some (.int .u8 k) ∧ W.cell? ⟨w4.heap.size, 1, none⟩ = some (.int .i64 s) ∧ W.cell? ⟨w4.heap.size, 2, none⟩ = some (.int .i64 f)) (by kernel_rfl) ⟨m0, m1, m2, m3, m4, m5, x0, x1, x2⟩ (fun hHeld => ?_)
     refine tkL 0 rfl ?_
     try simp only [Act.put, sA, sZ, sS]
     refine tkL 1 rfl ?_
     try simp only [Act.put, sA, sZ, sS]
     refine tkL 2 rfl ?_
     try simp only [Act.put, sA, sZ, sS]
     refine tkL 3 rfl ?_
     try simp only [Act.put, sA, sZ, sS]
     refine tkL 5 rfl ?_
     try simp only [Act.put, sA, sZ, sS]
     refine tkL 6 rfl ?_
     try simp only [Act.put, sA, sZ, sS]
     refine tkL 8 rfl ?_
     try simp only [Act.put, sA, sZ, sS]
     refine AllReadyH.one (i := 4) rfl (by kernel_rfl) (by rfl) (fun K hK => ?_)
     go_simp
     refine (Turned_any m k s f 2 _ _ (HSG.out.ext (Ext.drew (Ext.refl _))) (by have := H60.out; omega)).mono ?_
     rintro e w12 ⟨v12, rfl, ho12, e12'⟩
     have e12 := Ext.trans (Ext.drew (Ext.refl _)) e12'
     obtain ⟨A12, c12, rfl, _, _⟩ := (OwnS.sgs ho12).open_
     have HO := Lib.hid (OwnS.sgs ho12)
     replace HE := Lib.hid (Ext.trans HE.out e12)
     replace HBM := Lib.hid (HBM.out.ext e12)
     replace HSG := Lib.hid (HSG.out.ext e12)
     replace HX := Lib.hid (HX.out.ext e12)
     replace HB := Lib.hid (HB.out.ext e12)
     replace HFN := Lib.hid (HFN.out.ext e12)
     clear e12 m0 m1 m2 m3 m4 m5 x0 x1 x2 e12' ho12
     obtain ⟨m0, m1, m2, m3, m4, m5⟩ := blk6 HBM.out
     obtain ⟨x0, x1, x2, _, _, _⟩ := blk3 HX.out
     refine hK.out _ _ ⟨m0, m1, m2, m3, m4, m5, x0, x1, x2⟩ (fun hHeld => ?_)
     clear hK K
     try simp only [Act.put, sA, sZ, sS]
     refine AllReadyH.one (i := 7) rfl (by kernel_rfl) (by rfl) (fun K hK => ?_)
     go_simp
     refine (Of_any k s f 2 _).mono ?_
     rintro e w13 ⟨rfl, e13⟩
     replace HE := Lib.hid (Ext.trans HE.out e13)
     replace HBM := Lib.hid (HBM.out.ext e13)
     replace HSG := Lib.hid (HSG.out.ext e13)
     replace HX := Lib.hid (HX.out.ext e13)
     replace HB := Lib.hid (HB.out.ext e13)
     replace HFN := Lib.hid (HFN.out.ext e13)
     replace HO := Lib.hid (HO.out.ext e13)
     clear e13 m0 m1 m2 m3 m4 m5 x0 x1 x2 
     obtain ⟨m0, m1, m2, m3, m4, m5⟩ := blk6 HBM.out
     obtain ⟨x0, x1, x2, _, _, _⟩ := blk3 HX.out
     refine hK.out _ _ ⟨m0, m1, m2, m3, m4, m5, x0, x1, x2⟩ (fun hHeld => ?_)
     clear hK K
     try simp only [Act.put, sA, sZ, sS]
     refine AllReadyH.one (i := 9) rfl (by kernel_rfl) (by rfl) (fun K hK => ?_)
     go_simp
     have hc := Shad_ok _ _ ((nm, b.set q (b[q] ^^^ yb)) :: fs) (turnM m k s f 2) k s 2 2 _ (HS.out.ext HE.out) HFN.out HO.out (by have := HL.out; simp only [List.length_cons]; omega) HFB.out (cnt_ok HTC.out) (show (2 : Int) = 1 ∨ (2 : Int) = 2 by decide)
     rw [shadT_of (show (2 : Int) = 1 ∨ (2 : Int) = 2 by decide)] at hc
     refine hc.mono ?_
     clear hc
     rintro e w14 ⟨v14, rfl, ho14, e14⟩
     obtain ⟨r24, hr24⟩ : ∃ r, shadM ((nm, b.set q (b[q] ^^^ yb)) :: fs) (turnM m k s f 2) k s 2 2 = r := ⟨_, rfl⟩
     rw [hr24] at ho14 ⊢
     have HR24 := Lib.hid hr24
     obtain ⟨A24, c24, rfl, _, _⟩ := SlR.open_ ho14.bs
     have HB24 := Lib.hid ho14.bs
     replace HE := Lib.hid (Ext.trans HE.out e14)
     replace HBM := Lib.hid (HBM.out.ext e14)
     replace HSG := Lib.hid (HSG.out.ext e14)
     replace HX := Lib.hid (HX.out.ext e14)
     replace HB := Lib.hid (HB.out.ext e14)
     replace HFN := Lib.hid (HFN.out.ext e14)
     clear e14 m0 m1 m2 m3 m4 m5 x0 x1 x2 ho14 hr24 HO
     obtain ⟨m0, m1, m2, m3, m4, m5⟩ := blk6 HBM.out
     obtain ⟨x0, x1, x2, _, _, _⟩ := blk3 HX.out
     refine hK.out _ _ ⟨m0, m1, m2, m3, m4, m5, x0, x1, x2⟩ (fun hHeld => ?_)
     clear hK K
     try simp only [Act.put, sA, sZ, sS]
     refine tkL 10 rfl ?_
     try simp only [Act.put, sA, sZ, sS]
     refine tkL 11 rfl ?_
     try simp only [Act.put, sA, sZ, sS]
     refine tkL 12 rfl ?_
     try simp only [Act.put, sA, sZ, sS]
     refine tkL 13 rfl ?_
     try simp only [Act.put, sA, sZ, sS]
     refine tkL 14 rfl ?_
     try simp only [Act.put, sA, sZ, sS]
     refine wpAnyH_done (by kernel_rfl) ?_ _
     have hr := HR24.out
     rw [G3.out] at hr
     subst hr
     have hc := same17_any _ _ _ _ _ HB24.out HB.out
     rw [show decide (b = b) = true from by simp] at hc
     have HC := Lib.hid hc
     clear hc
     dsimp only at HC ⊢
     go_wp2_with fail
     refine HC.out.mono ?_
     rintro e w17 ⟨rfl, e17⟩
     replace HE := Lib.hid (Ext.trans HE.out e17)
     clear e17 m0 m1 m2 m3 m4 m5 x0 x1 x2
     go_wp2_with fail
     refine (wakes17_any _ (HS.out.ext HE.out)).mono ?_
     rintro e w18 ⟨rfl, e18⟩
     have HE6 := Lib.hid (Ext.trans HE.out e18)
     clear e18
     go_wp2_with fail
     go_ret
     exact ⟨rfl, HE6.out⟩
    ·have hyz : yb ≠ 0 := by rintro rfl; exact hy0 rfl
     have hset : ¬ b.set q (b[q] ^^^ yb) = b := by
      intro h
      have h2 := List.getElem_set_self (l := b) (i := q) (a := b[q] ^^^ yb) (by simpa using hqb)
      simp only [h] at h2
      exact xor_ne _ _ hyz h2.symm
     have HSET := Lib.hid hset
     clear hyz hset HR19 HB19
     go_wp2_with fail
     refine (Of_any k s f 2 _).mono ?_
     rintro e w15 ⟨rfl, e15⟩
     replace HE := Lib.hid (Ext.trans HE.out e15)
     replace HBM := Lib.hid (HBM.out.ext e15)
     replace HSG := Lib.hid (HSG.out.ext e15)
     replace HX := Lib.hid (HX.out.ext e15)
     replace HB := Lib.hid (HB.out.ext e15)
     replace HFN := Lib.hid (HFN.out.ext e15)
     clear e15 m0 m1 m2 m3 m4 m5 x0 x1 x2 
     obtain ⟨m0, m1, m2, m3, m4, m5⟩ := blk6 HBM.out
     obtain ⟨x0, x1, x2, _, _, _⟩ := blk3 HX.out
     have hc := Says_any _ _ ((nm, b.set q (b[q] ^^^ yb)) :: fs) k s 2 b _ (HS.out.ext HE.out) HFN.out HB.out (by have := HL.out; simp only [List.length_cons]; omega)
     rw [NM.out, bytesS_cons, if_pos rfl, show decide (some (b.set q (b[q] ^^^ yb)) = some b) = false from by simpa using HSET.out] at hc
     have HC := Lib.hid hc
     clear hc
     go_wp2_with fail
     refine HC.out.mono ?_
     rintro e w16 ⟨rfl, e16⟩
     replace HE := Lib.hid (Ext.trans HE.out e16)
     clear e16 HC m0 m1 m2 m3 m4 m5 x0 x1 x2
     go_wp2_with fail
     refine (wakes17_any _ (HS.out.ext HE.out)).mono ?_
     rintro e w18 ⟨rfl, e18⟩
     have HE6 := Lib.hid (Ext.trans HE.out e18)
     clear e18
     go_wp2_with fail
     go_ret
     exact ⟨rfl, HE6.out⟩
  ·go_wp2_with fail
   refine HGR.out.mono ?_
   rintro e w3 ⟨rfl, e3⟩
   have HE3 := Lib.hid (Ext.trans (Ext.trans HE1.out HX.out) e3)
   clear e3
   go_wp2_with fail
   refine (wakes17_any _ (HS.out.ext HE3.out)).mono ?_
   rintro e w6 ⟨rfl, e6⟩
   have HE6 := Lib.hid (Ext.trans HE3.out e6)
   clear e6
   go_wp2_with fail
   go_ret
   exact ⟨rfl, HE6.out⟩
 ·rw [hg] at HGR
  go_wp2_with fail
  refine HGR.out.mono ?_
  rintro e w3 ⟨rfl, e3⟩
  have HE3 := Lib.hid (Ext.trans (Ext.trans HE1.out HX.out) e3)
  clear e3
  go_wp2_with fail
  refine (wakes17_any _ (HS.out.ext HE3.out)).mono ?_
  rintro e w6 ⟨rfl, e6⟩
  have HE6 := Lib.hid (Ext.trans HE3.out e6)
  clear e6
  go_wp2_with fail
  go_ret
  exact ⟨rfl, HE6.out⟩
theorem ShadSays_any (v : Value) (fs : List Fil) (which at_ y : Int) (two : Bool) (w : World) (hS : StW w) (hF : Fs w v fs) (hl : fs.length ≤ 2000000) (hbl : ∀ f ∈ fs, f.2.length ≤ 2000000) (hy : (Lit.int .u8 y).wf = true) :
  Calls Tryz.prog 4 #[v, .int .i64 which, .int .i64 at_, .int .u8 y, .bool two] w fun e w' => e = .returned (.bool true) ∧ Ext w w' := by
 cases two with
 | false => exact ShadSays_1 v fs which at_ y w hS hF hl hbl hy
 | true => exact ShadSays_2 v fs which at_ y w hS hF hl hbl hy
end Go.Proofs.YtmecffckghkahaaGreatDoor
