/- Merged: RefScan Rone -/
import Derived.Test.YtmecffckghkahaaGreatDoorShadowSays20
set_option linter.all false
set_option maxHeartbeats 8000000
namespace Go.Proofs.YtmecffckghkahaaGreatDoor
open Go.RowKit Go.Mv
set_option maxRecDepth 100000
theorem refLook_res (tmps : Array Value) (W : World) (N : Nat) (a v u vz ve : Value) (h2 : tmps.getD 2 undef = .pointer (some ⟨N, 0, none⟩)) (h3 : tmps.getD 3 undef = vz) (h4 : tmps.getD 4 undef = ve) (hb : Blk W N 123 #[a, v, u]) :
  (results Tryz.f99 tmps).run Tryz.prog W = .ok (.tuple #[.agg #[a, v, u], vz, ve]) W := by
 obtain ⟨c0, c1, c2, _⟩ := blk3 hb
 simp only [Array.getD_eq_getD_getElem?] at h2 h3 h4
 simp [results, Tryz.results99, go_sem, h2, h3, h4, c0, c1, c2]
theorem look_step {bs : List UInt8} {k : Nat} {q : Nat × Nat} {es : List Ent} {r : List UInt8} (hk : k ≤ bs.length) (h : nextS q (bs.drop k) = some (es, r)) :
  ∃ nn, (bs.drop k).length - r.length = nn ∧ 0 < nn ∧ k + nn ≤ bs.length ∧ es.length ≤ nn ∧ es.length ≤ 4 ∧ bs.drop (k + nn) = r ∧
   scanS q (bs.drop k) = (es ++ (scanS (chainP q (blkBody es)) (bs.drop (k + nn))).1, (scanS (chainP q (blkBody es)) (bs.drop (k + nn))).2) := by
 obtain ⟨h1, h2⟩ := (nextS_iff _ _ _ _).1 h
 have hl := congrArg List.length h2
 have hbl := blkBody_len es
 have hbk : (blkS q es).length = (blkBody es).length + 4 := by unfold blkS; rw [List.length_append]; rfl
 rw [List.length_append, List.length_drop] at hl
 have hd : bs.drop (k + (blkS q es).length) = r := by rw [← List.drop_drop, h2, List.drop_left]
 refine ⟨(blkS q es).length, by rw [List.length_drop]; omega, by omega, by omega, by omega, ((blkOk_iff es).1 h1).1.2, hd, ?_⟩
 rw [hd]
 exact scanS_some h
def cellNat (W : World) (B : Nat) : Nat := match W.cell? ⟨B, 2, none⟩ with | some (.int _ k) => k.toNat | _ => 0
theorem refLook_any (v : Value) (bs : List UInt8) (w : World) (hBs : Bs w v bs) (hl : bs.length ≤ 2000000) : Calls Tryz.prog 99 #[v] w (LookP w (lookS bs)) := by
 obtain ⟨A, c, rfl, h1, h2⟩ := SlR.open_ hBs
 obtain ⟨i0, hi, hz0, hz1, hz2⟩ := info_parts info_ent
 have hE0 : Ext w (w.alloc (.cells #[.int .i64 0, .slice none 0 0, .int .i64 0] 123)) := Ext.alloc (Ext.refl _) _
 have hB0 : Blk (w.alloc (.cells #[.int .i64 0, .slice none 0 0, .int .i64 0] 123)) w.heap.size 123 #[.int .i64 0, .slice none 0 0, .int .i64 0] := Blk.new w _ _
 by_cases h0 : bs.length = 0
 ·obtain rfl : bs = [] := List.eq_nil_of_length_eq_zero h0
  obtain ⟨c0, c1, c2, f0, f1, f2⟩ := blk3 hB0
  go_enter Tryz.func99, Tryz.ntmps99
  go_wp2_with fail
  exact bodyPost_ret (refLook_res _ _ _ _ _ _ _ _ rfl rfl rfl hB0) rfl (blk_bad (look_none rfl) hE0)
 obtain ⟨_, b, off, rfl, hc⟩ := Bs.at_ hBs (by omega)
 have hc0 : w.cell? ⟨b, off, none⟩ = some (.int .u8 (bs[0].toNat : Int)) := hc 0 (by omega)
 obtain ⟨x, l, rfl⟩ : ∃ x l, bs = x :: l := by cases bs with | nil => exact absurd rfl h0 | cons x l => exact ⟨x, l, rfl⟩
 simp only [List.getElem_cons_zero] at hc0
 have hblt : b < w.heap.size := World.block_lt_of_cell? w _ hc0
 have HBs := Lib.hid hBs
 have e0 : ¬ ((l.length : Int) + 1 < 1) := by omega
 clear hc hBs h0
 simp only [List.length_cons] at *
 by_cases hx : x.toNat = 2
 case neg =>
  have e1 : ((x.toNat : Int) != 2) = true := by simp; omega
  obtain ⟨c0, c1, c2, f0, f1, f2⟩ := blk3 hB0
  have hN : Hid (headT (x :: l) = none) := by show _ = _; rw [headT, if_neg (fun h => hx (by rw [h.1]; rfl))]
  clear hx
  go_enter Tryz.func99, Tryz.ntmps99
  go_wp2_with fail
  exact bodyPost_ret (refLook_res _ _ _ _ _ _ _ _ rfl rfl rfl hB0) rfl (blk_bad (look_none hN.out) hE0)
 have hx2 : x = 2 := UInt8.toNat_inj.1 (by simpa using hx)
 subst hx2
 have HT : Hid (∀ (W : World) (u : Value), Bs W u l → Calls Tryz.prog 60 #[u] W (TakeP W (takeS l))) := fun W u hu => refTake_any u l W hu (by omega)
 have HH : Hid (headT (2 :: l) = if (takeS l).1 = 0 ∧ (takeS l).2.1 ≠ 0 then some (takeS l).2 else none) := by show _ = _; rw [headT]; simp
 have hrl := takeS_rest l
 have H10 : Hid (l = [] → (takeS l).1 ≠ 0) := by rintro rfl; decide
 rcases htk : takeS l with ⟨er, m, r⟩
 rw [htk] at HT HH hrl H10
 dsimp only at HH hrl H10
 clear htk hx
 have Hcut : Hid (∀ W : World, Ext w W → Bs W (.slice (some ⟨b, off + 1, none⟩) l.length (c - 1)) l) := by
  intro W hE
  have h := Bs.cut (HBs.out.ext hE) 1 (by simp) rfl
  simpa using h
 have hvs : ∃ vs : Value, (∀ W, Ext w W → Bs W vs l) ∧ vs = .slice (if c = 1 then some ⟨b, off, none⟩ else some ⟨b, off + 1, none⟩) l.length (c - 1) := by
  by_cases hc1 : c = 1
  ·obtain rfl : l = [] := List.eq_nil_of_length_eq_zero (by omega)
   exact ⟨_, fun W _ => SlR.empty W 1 (by omega), rfl⟩
  ·exact ⟨_, fun W hE => Hcut.out W hE, by rw [if_neg hc1]⟩
 obtain ⟨vs, hvs1, hvs2⟩ := hvs
 have HVS := Lib.hid hvs1
 have HV := Lib.hid hvs2
 have hb1 : (1 : Int) ≤ (l.length : Int) + 1 := by omega
 have hb2 : (1 : Int) ≤ (c : Int) := by omega
 clear hvs1 hvs2
 by_cases hbad : er = 0 ∧ m ≠ 0
 case neg =>
  have HH2 : Hid (headT (2 :: l) = none) := by show _ = _; rw [HH.out, if_neg hbad]
  by_cases her : er = 0
  ·subst her
   have hm : m = 0 := Decidable.byContradiction (fun h => hbad ⟨rfl, h⟩)
   subst hm
   clear hbad HH
   go_enter Tryz.func99, Tryz.ntmps99
   go_wp2_with (go_at_call 60; rw [← HV.out]; refine (HT.out _ _ (HVS.out _ hE0)).mono ?_; rintro e w1 ⟨v1, rfl, ho1, hE1⟩; have hB1 := hB0.ext hE1; obtain ⟨c0, c1, c2, f0, f1, f2⟩ := blk3 hB1)
   exact bodyPost_ret (refLook_res _ _ _ _ _ _ _ _ rfl rfl rfl (blk_set3 hB1 _ _ _)) rfl (blk_bad (look_none HH2.out) (ext_set3 (Ext.trans hE0 hE1) (Nat.le_refl _) _ _ _))
  ·have e6 : (er != 0) = true := by simpa using her
   clear hbad HH her
   go_enter Tryz.func99, Tryz.ntmps99
   go_wp2_with (go_at_call 60; rw [← HV.out]; refine (HT.out _ _ (HVS.out _ hE0)).mono ?_; rintro e w1 ⟨v1, rfl, ho1, hE1⟩; have hB1 := hB0.ext hE1; obtain ⟨c0, c1, c2, f0, f1, f2⟩ := blk3 hB1)
   exact bodyPost_ret (refLook_res _ _ _ _ _ _ _ _ rfl rfl rfl (blk_set3 hB1 _ _ _)) rfl (blk_bad (look_none HH2.out) (ext_set3 (Ext.trans hE0 hE1) (Nat.le_refl _) _ _ _))
 obtain ⟨rfl, hm⟩ := hbad
 have hm1 : ¬ ((m : Int) < 1) := by omega
 have HH2 : Hid (headT (2 :: l) = some (m, r)) := by show _ = _; rw [HH.out, if_pos ⟨rfl, hm⟩]
 obtain ⟨k0, hk0⟩ : ∃ k, l.length + 1 - r.length = k := ⟨_, rfl⟩
 have hk1 : k0 ≤ l.length + 1 := by omega
 have hsub : (l.length : Int) + 1 - (r.length : Int) = (k0 : Int) := by omega
 have hdr : (2 :: l).drop k0 = r := by
  have h := ((headT_iff _ _ _).1 HH2.out).2
  have hl2 := congrArg List.length h
  rw [List.length_cons, List.length_append] at hl2
  rw [h, show k0 = (headS (m : Int)).2.length from by omega, List.drop_left]
 have Hhd : Hid ((2 :: l).take k0 = (headS (m : Int)).2) := by
  have := (headT_len HH2.out).2
  simp only [List.length_cons] at this
  rw [hk0] at this
  exact this
 have hlk := look_some HH2.out
 rw [← hdr] at hlk
 have Hlk := Lib.hid hlk
 have Hdr := Lib.hid hdr
 have hkc : (k0 : Int) ≤ (c : Int) := by omega
 clear hm HH H10 hk0 hlk hdr
 go_enter Tryz.func99, Tryz.ntmps99
 go_wp2_with (first
  | (go_at_call 60; rw [← HV.out]; refine (HT.out _ _ (HVS.out _ hE0)).mono ?_; rintro e w1 ⟨v1, rfl, ho1, hE1⟩; have hB1 := hB0.ext hE1; obtain ⟨c0, c1, c2, f0, f1, f2⟩ := blk3 hB1; obtain ⟨Ar, cr, rfl, _, _⟩ := SlR.open_ (SlR.of_own ho1))
  | (go_at_call 96
     have hE2 : Ext w (w1.alloc (.cells #[.int .i64 m, .slice none 0 0, .int .i64 k0] 123)) := Ext.alloc (Ext.trans hE0 hE1) _
     have hbk := Bs.take (HBs.out.ext hE2) k0 (by simp; omega)
     rw [Hhd.out] at hbk
     have hp := parts1 hbk
     rw [World.size_alloc] at hp
     refine (refChain_zero _ _ _ hp).mono ?_
     rintro e w3 ⟨vz, rfl, hpz, rfl⟩
     rw [show [(headS (m : Int)).2].flatten = (headS (m : Int)).2 from by simp] at hpz
     have HPZ := Lib.hid hpz
     obtain ⟨z1, z2, rfl, _, _⟩ := hpz))
 have hBn : Blk ((w1.alloc (.cells #[.int .i64 m, .slice none 0 0, .int .i64 k0] 123)).alloc (.cells #[.slice (some ⟨b, off, none⟩) k0 c] 43)) w1.heap.size 123 #[.int .i64 m, .slice none 0 0, .int .i64 k0] := (Blk.new w1 _ _).alloc _
 have hRn : Blk ((w1.alloc (.cells #[.int .i64 m, .slice none 0 0, .int .i64 k0] 123)).alloc (.cells #[.slice (some ⟨b, off, none⟩) k0 c] 43)) w.heap.size 123 #[.int .i64 0, .slice none 0 0, .int .i64 0] := (hB1.alloc _).alloc _
 have hEn : Ext w ((w1.alloc (.cells #[.int .i64 m, .slice none 0 0, .int .i64 k0] 123)).alloc (.cells #[.slice (some ⟨b, off, none⟩) k0 c] 43)) := Ext.alloc hE2 _
 have hRB : w.heap.size < w1.heap.size := hB1.lt
 clear c0 c1 c2 f0 f1 f2 hB1 hE2 ho1 hp hbk hB0
 go_loopw [9] (fun zv wr => ∃ (log : List Ent) (k : Nat) (q : Nat × Nat) (vl : Value), Hid (PtV zv q) ∧ Hid (k ≤ l.length + 1 ∧ log.length ≤ k) ∧
   Hid (lookS (2 :: l) = ⟨0, m, log ++ (scanS q ((2 :: l).drop k)).1, (2 :: l).length - (scanS q ((2 :: l).drop k)).2.2.length, (scanS q ((2 :: l).drop k)).2.1⟩) ∧
   Hid (Blk wr w1.heap.size 123 #[.int .i64 m, vl, .int .i64 k]) ∧ Hid (Blk wr w.heap.size 123 #[.int .i64 0, .slice none 0 0, .int .i64 0]) ∧ wr.ownsRow w.heap.size 100 3 vl log.length (entCells log) ∧ Ext w wr) (fun _ wr => l.length + 1 - cellNat wr w1.heap.size)
 case atStart => exact ⟨[], k0, chainP (0, 0) (headS (m : Int)).2, .slice none 0 0, HPZ.out, ⟨hk1, Nat.zero_le _⟩, Hlk.out, hBn, hRn, World.ownsRow_nil _ _ _ _, hEn⟩
 case round =>
  clear hBn hRn hEn
  obtain ⟨log, k, q, vl, Hz, Hk, Hq, HBx, HRx, hown, hE⟩ := hrel
  have hz0' := Hz.out
  obtain ⟨z3, z4, rfl, _, _⟩ := hz0'
  obtain ⟨Av, cv, rfl, _, _⟩ := SlR.open_ (SlR.of_own hown)
  obtain ⟨c0, c1, c2, f0, f1, f2⟩ := blk3 HBx.out
  have hk := Hk.out.1
  have hlg := Hk.out.2
  have hki : (k : Int) ≤ (l.length : Int) + 1 := by omega
  have hkc2 : (k : Int) ≤ (c : Int) := by omega
  have hvs2 : ∃ vs2 : Value, Bs wr vs2 ((2 :: l).drop k) ∧ vs2 = .slice (if c = k then some ⟨b, off, none⟩ else some ⟨b, off + k, none⟩) (l.length + 1 - k) (c - k) := by
   by_cases hck : c = k
   ·exact ⟨_, Bs.cut0 (A := some ⟨b, off, none⟩) (n := l.length + 1) (k := k) (c := c - k) (bs := 2 :: l) (by simp; omega) (by simp) (by omega), by rw [if_pos hck]⟩
   ·exact ⟨_, Bs.cut (HBs.out.ext hE) k (by simp; omega) (by simp), by rw [if_neg hck]⟩
  obtain ⟨vs2, hvs2, hvs3⟩ := hvs2
  have HV2 := Lib.hid hvs3
  have hblk := refBlk_any z3 z4 q vs2 _ wr Hz.out hvs2 (by rw [List.length_drop, List.length_cons]; omega)
  clear hvs3 hvs2
  cases hn : nextS q ((2 :: l).drop k) with
  | none =>
   have hout : lookS (2 :: l) = ⟨0, m, log, k, q⟩ := by
    rw [Hq.out, scanS_none hn]
    simp only [List.append_nil, List.length_drop, List.length_cons]
    rw [show l.length + 1 - (l.length + 1 - k) = k from by omega]
   have Hout := Lib.hid hout
   unfold rblk at hblk
   rw [hn] at hblk
   have HBK := Lib.hid hblk
   clear hout hblk hn
   go_wp2_with (go_at_call 121; rw [← HV2.out]; refine HBK.out.mono ?_; rintro e w4 ⟨vl4, vz4, rfl, ho4, hp4, hE4⟩; obtain ⟨z5, z6, rfl, _, _⟩ := hp4; have hB4 := HBx.out.ext hE4; have hR4 := HRx.out.ext hE4; obtain ⟨d0, d1, d2, e0', e1', e2'⟩ := blk3 hB4; obtain ⟨r0, r1, r2, s0, s1, s2⟩ := blk3 hR4)
   refine bodyPost_ret (refLook_res _ _ _ _ _ _ _ _ rfl rfl rfl (blk_set3 hR4 _ _ _)) rfl ?_
   rw [Hout.out]
   exact ⟨_, _, rfl, own_set3 hR4 (by decide) (own_ext hown hE4) _ _ _, Hz.out, ext_set3 (Ext.trans hE hE4) (Nat.le_refl _) _ _ _⟩
  | some y =>
   obtain ⟨es, r'⟩ := y
   obtain ⟨nn, hnn, hn0, hkn, hen, hes4, hdr2, hsc⟩ := look_step (bs := 2 :: l) (k := k) (by simp; omega) hn
   rw [List.length_cons] at hkn
   unfold rblk at hblk
   rw [hn] at hblk
   dsimp only at hblk
   rw [hnn] at hblk
   have HBK := Lib.hid hblk
   have Hsc := Lib.hid hsc
   have Hn0 := Lib.hid hn0
   have hne : ((nn : Int) == 0) = false := by rw [beq_eq_false_iff_ne]; omega
   have hni : (k : Int) + (nn : Int) ≤ 2000000 := by omega
   clear hblk hn hsc hnn hdr2 hn0
   go_wp2_with (first
    | (go_at_call 121
       rw [← HV2.out]
       refine HBK.out.mono ?_
       rintro e w4 ⟨vl4, vz4, rfl, ho4, hp4, hE4⟩
       dsimp only at ho4
       have HP4 := Lib.hid hp4
       obtain ⟨z5, z6, rfl, _, _⟩ := hp4
       obtain ⟨A4, c4, rfl, _, _⟩ := SlR.open_ (SlR.of_own ho4)
       have hB4 := HBx.out.ext hE4
       have hR4 := HRx.out.ext hE4
       have hown4 := own_ext hown hE4
       obtain ⟨d0, d1, d2, e0', e1', e2'⟩ := blk3 hB4)
    | (at_builtin
       refine wpList_append_sl _ rfl (.tmp 65) (.tmp 66) 25 rfl w.heap.size 100 i0 _ 3 24 Tryz.underlying25 hi hz0 hz1 hz2 rfl (by decide) _ log.length (entCells log) rfl hown4 _ es.length (entCells es) rfl (SlR.of_own ho4) (one_ents _) (by unfold maxLen; omega) (by omega) (Ext.trans hE hE4).size ?_
       intro v5 w5 hown5 hgrow5
       obtain ⟨A5, cc5, rfl, _, _⟩ := SlR.open_ (SlR.of_own hown5)
       have hB5 := hB4.kept hgrow5 (hB4.not_row (by decide) hown4)
       have hR5 := hR4.kept hgrow5 (hR4.not_row (by decide) hown4)
       have hB6 := hB5.set 1 (.slice A5 (log.length + es.length) cc5)
       obtain ⟨m0, m1, m2, n0, n1, n2⟩ := blk3 hB5
       obtain ⟨p0, p1, p2, q0, q1, q2⟩ := blk3 hB6))
   go_roundw
   case rel =>
    have r1 := hown5.kept (grownBy_set w5 w1.heap.size 1 (.slice A5 (log.length + es.length) cc5)) (.inr (hB5.not_row (by decide) hown5).symm)
    have r2 := r1.kept (grownBy_set _ w1.heap.size 2 (.int .i64 ((k : Int) + nn))) (.inr (hB6.not_row (by decide) r1).symm)
    refine ⟨log ++ es, k + nn, chainP q (blkBody es), .slice A5 (log.length + es.length) cc5, HP4.out, ⟨hkn, by rw [List.length_append]; omega⟩, ?_, hB6.set 2 (.int .i64 ((k : Int) + nn)), (hR5.other (by omega) 1 _).other (by omega) 2 _, ?_, ?_⟩
    ·show _ = _
     rw [Hq.out, Hsc.out]
     dsimp only
     rw [List.append_assoc]
    ·rw [List.length_append, show entCells (log ++ es) = entCells log ++ entCells es from by simp [entCells]]
     exact r2
    ·exact Below.setCell (p := ⟨w1.heap.size, 2, none⟩) (Below.setCell (p := ⟨w1.heap.size, 1, none⟩) (Ext.grownOwn (Ext.trans hE hE4) hown4 hgrow5) (by show _ ≤ w1.heap.size; omega) _) (by show _ ≤ w1.heap.size; omega) _
   case measure =>
    have hm0 := (blk3 (hB6.set 2 (.int .i64 ((k : Int) + nn)))).2.2.1
    have := Hn0.out
    unfold cellNat
    rw [hm0, c2]
    dsimp only
    omega
theorem refLook_ext (v : Value) (bs : List UInt8) (w : World) (hBs : Bs w v bs) (hl : bs.length ≤ 2000000) : ∀ W, Ext w W → Calls Tryz.prog 99 #[v] W (LookP W (lookS bs)) := fun W hE => refLook_any v bs W (Bs.ext hBs hE) hl
theorem refScan_any (v : Value) (bs : List UInt8) (w : World) (hBs : Bs w v bs) (hl : bs.length ≤ 2000000) : Calls Tryz.prog 83 #[v] w (ScanP w (lookS bs)) := by
 have HL := Lib.hid (refLook_ext v bs w hBs hl)
 obtain ⟨A, c, rfl, _, _⟩ := SlR.open_ hBs
 clear hBs
 generalize lookS bs = R at *
 obtain ⟨er, first, log, used, pt⟩ := R
 go_enter Tryz.func83, Tryz.ntmps83
 go_wp2_with (go_at_call 99; refine (HL.out _ (Ext.alloc (Ext.refl _) _)).mono ?_; rintro e w1 ⟨vl, vz, rfl, ho1, hp, hE1⟩; dsimp only at ho1; obtain ⟨Av, cv, rfl, _, _⟩ := SlR.open_ (SlR.of_own ho1); obtain ⟨z1, z2, rfl, _, _⟩ := hp; have hB := ((Blk.new w 123 #[.int .i64 0, .slice none 0 0, .int .i64 0]).ext hE1).alloc (.cells #[.int .i64 first, .slice Av log.length cv, .int .i64 used] 123); obtain ⟨c0, c1, c2, f0, f1, f2⟩ := blk3 hB)
 have hb2 := blk_set3 hB (.int .i64 first) (.slice Av log.length cv) (.int .i64 used)
 have hrow := own_ext ho1 (Ext.alloc (Ext.refl w1) (.cells #[.int .i64 first, .slice Av log.length cv, .int .i64 used] 123))
 have r1 := hrow.kept (grownBy_set _ w.heap.size 0 (.int .i64 first)) (.inr (hB.not_row (by decide) hrow).symm)
 have b1 := hB.set 0 (.int .i64 first)
 have r2 := r1.kept (grownBy_set _ w.heap.size 1 (.slice Av log.length cv)) (.inr (b1.not_row (by decide) r1).symm)
 have b2 := b1.set 1 (.slice Av log.length cv)
 have r3 := r2.kept (grownBy_set _ w.heap.size 2 (.int .i64 used)) (.inr (b2.not_row (by decide) r2).symm)
 obtain ⟨g0, g1, g2, _, _, _⟩ := blk3 hb2
 refine bodyPost_ret (v := .tuple #[.agg #[.int .i64 first, .slice Av log.length cv, .int .i64 used], .int .i64 er]) (by simp [results, Tryz.results83, go_sem, g0, g1, g2]) rfl ⟨_, rfl, own_base r3 (by simp), ?_⟩
 exact Below.setCell (p := ⟨w.heap.size, 2, none⟩) (Below.setCell (p := ⟨w.heap.size, 1, none⟩) (Below.setCell (p := ⟨w.heap.size, 0, none⟩) (Ext.alloc (Ext.trans (Ext.alloc (Ext.refl _) _) hE1) _) (Nat.le_refl _) _) (Nat.le_refl _) _) (Nat.le_refl _) _
open Go.RowKit Go.Mv
set_option maxRecDepth 100000
theorem taken_res (tmps : Array Value) (W : World) (b : Nat) (cs : Array Value) (u : Value) (h2 : tmps.getD 2 undef = .pointer (some ⟨b, 0, none⟩)) (h3 : tmps.getD 3 undef = u) (hb : Blk W b 100 cs) (hs : cs.size = 3) : (results Tryz.f98 tmps).run Tryz.prog W = .ok (.tuple #[.agg cs, u]) W := by
 have hl := hb.load (P := Tryz.prog) entU rfl (by rw [hs]; kernel_rfl)
 have h2' : tmps[2]?.getD undef = .pointer (some ⟨b, 0, none⟩) := by simpa using h2
 have h3' : tmps[3]?.getD undef = u := by simpa using h3
 simp [results, Tryz.results98, h2', h3', asAddr, hl]
def TakenRP (w : World) (r : Option Ent) (e : Ending) (w' : World) : Prop := (match r with
 | some x => e = .returned (.tuple #[.agg #[.int .i64 x.t, .int .i64 x.k, .int .i64 x.v], .bool true])
 | none => ∃ a b c : Int, e = .returned (.tuple #[.agg #[.int .i64 a, .int .i64 b, .int .i64 c], .bool false])) ∧ Ext w w'
theorem refTaken_any (v : Value) (bs : List UInt8) (w : World) (hB : Bs w v bs) (hl : bs.length = 15) : Calls Tryz.prog 98 #[v] w (TakenRP w (take1S rT bs)) := by
 obtain ⟨A, c, rfl, h1, h2⟩ := SlR.open_ hB
 have hb0 := Blk.new w 100 #[.int .i64 0, .int .i64 0, .int .i64 0]
 have hX : Ext w (w.alloc (.cells #[.int .i64 0, .int .i64 0, .int .i64 0] 100)) := Ext.alloc (Ext.refl _) _
 have hct := refCTake_any _ bs _ (hB.ext hX) (by omega)
 have hlen : ∀ p, crcTakeS rT bs = some p → p.length = 11 := fun p h => by rw [crcTakeS_len h, hl]
 obtain ⟨R, hR⟩ : ∃ R, take1S rT bs = R := ⟨_, rfl⟩
 have hR' := hR
 unfold take1S at hR'
 rw [hR]
 obtain ⟨r, hr⟩ : ∃ r, crcTakeS rT bs = r := ⟨_, rfl⟩
 rw [hr] at hct hlen hR'
 rw [hl] at hct h1 ⊢
 have Hct := Lib.hid hct
 have HR := Lib.hid hR'
 clear hct hr hR hR' hB hl
 have hfin : ∀ (W : World) (a b c : Int), Ext w W → R = none → TakenRP w R (.returned (.tuple #[.agg #[.int .i64 a, .int .i64 b, .int .i64 c], .bool false])) W := by
  intro W a b c hE hn
  subst hn
  exact ⟨⟨a, b, c, rfl⟩, hE⟩
 have Hfin := Lib.hid hfin
 clear hfin
 cases r with
 | none =>
  have hn : R = none := HR.out.symm
  go_enter Tryz.func98, Tryz.ntmps98
  go_wp2_with fail
  refine Hct.out.mono ?_
  rintro e w1 ⟨⟨v1, rfl, ho1⟩, hE1⟩
  obtain ⟨g0, g1, g2, f0, f1, f2⟩ := blk3 (hb0.ext hE1)
  have hE01 := Ext.trans hX hE1
  have hb1 := hb0.ext hE1
  have Hn := Lib.hid hn
  clear hn
  go_wp2_with fail
  refine bodyPost_ret (taken_res _ _ _ _ _ rfl rfl (blk_set3 hb1 _ _ _) rfl) rfl ?_
  exact Hfin.out _ _ _ _ (ext_set3 hE01 (Nat.le_refl _) _ _ _) Hn.out
 | some p =>
  have hp := hlen p rfl
  clear hlen
  dsimp only at HR
  have key1 := fun (W : World) (u : Value) (h : Bs W u p) => refTakeLong_any u p W h (by omega)
  obtain ⟨q, hq⟩ : ∃ q, takeLongS p = q := ⟨_, rfl⟩
  have hrest : q.1 = 0 → q.2.2 = p.drop 5 := fun h => by rw [← hq] at h ⊢; exact takeLong_rest h
  have hlt : q.2.1 ≤ 1073741824 := by rw [← hq]; exact takeLong_lt
  rw [hq] at key1
  have HR1 := HR.out
  rw [hq] at HR1
  have HR2 := Lib.hid HR1
  have Key1 := Lib.hid key1
  have Hp := Lib.hid hp
  clear HR HR1 key1 hq hp
  obtain ⟨er, n, rest⟩ := q
  dsimp only at HR2 hrest hlt
  go_enter Tryz.func98, Tryz.ntmps98
  go_wp2_with fail
  refine Hct.out.mono ?_
  rintro e w1 ⟨⟨v1, rfl, ho1⟩, hE1⟩
  have ho1' : OwnB w1 (w.heap.size + 1) v1 p := by simpa using ho1
  obtain ⟨A1, c1, rfl, hc1, _⟩ := SlR.open_ (SlR.of_own ho1')
  have hb1 := hb0.ext hE1
  obtain ⟨g0, g1, g2, f0, f1, f2⟩ := blk3 hb1
  have hE01 := Ext.trans hX hE1
  have hBp : Bs w1 (.slice A1 p.length c1) p := ho1'.bs
  rw [Hp.out] at hBp hc1 ⊢
  clear ho1 ho1'
  go_wp2_with fail
  refine (Key1.out _ _ hBp).mono ?_
  rintro e w2 ⟨v2, rfl, ho2, hE2⟩
  dsimp only at ho2 ⊢
  have hE02 := Ext.trans hE01 hE2
  have hb2 := hb1.ext hE2
  obtain ⟨A2, c2, rfl, hc2, hc2'⟩ := SlR.open_ (SlR.of_own ho2)
  have hB2 : Bs w2 (.slice A2 rest.length c2) rest := SlR.of_own ho2
  clear ho2 hBp g0 g1 g2 f0 f1 f2
  obtain ⟨g0, g1, g2, f0, f1, f2⟩ := blk3 hb2
  by_cases her : er = 0
  case neg =>
   have hn : R = none := by rw [← HR2.out, if_neg her]
   have Hn := Lib.hid hn
   have hne : ((er : Int) != 0) = true := by simp [her]
   clear hn
   go_wp2_with fail
   refine bodyPost_ret (taken_res _ _ _ _ _ rfl rfl (blk_set3 hb2 _ _ _) rfl) rfl ?_
   exact Hfin.out _ _ _ _ (ext_set3 hE02 (Nat.le_refl _) _ _ _) Hn.out
  case pos =>
   subst her
   have hr5 := hrest rfl
   have hrl : rest.length = 6 := by rw [hr5, List.length_drop, Hp.out]
   have hne6 : ((rest.length : Int) != 6) = false := by rw [hrl]; rfl
   have h1r : (1 : Int) ≤ (rest.length : Int) := by omega
   have h0r : (0 : Int) < (rest.length : Int) := by omega
   obtain ⟨_, b2, o2, rfl, hcs⟩ := Bs.at_ hB2 (by omega)
   have hcs0 := hcs 0 (by omega)
   rw [Nat.add_zero] at hcs0
   have hgd : rest.getD 0 0 = rest[0] := by rw [List.getD_eq_getElem?_getD, List.getElem?_eq_getElem (by omega)]; rfl
   have HR3 := HR2.out
   rw [if_pos rfl, hgd] at HR3
   have hBd := Bs.cut hB2 1 (by omega) rfl
   have hq0 := rest[0].toNat_lt
   generalize rest[0].toNat = k0 at *
   have key2 := fun (W : World) (u : Value) (h : Bs W u (rest.drop 1)) => refTakeLong_any u (rest.drop 1) W h (by rw [List.length_drop]; omega)
   obtain ⟨q2, hq2⟩ : ∃ q, takeLongS (rest.drop 1) = q := ⟨_, rfl⟩
   rw [hq2] at key2 HR3
   obtain ⟨er2, n2, rest2⟩ := q2
   dsimp only at HR3
   have HR4 := Lib.hid HR3
   have Key2 := Lib.hid key2
   have HBd := Lib.hid hBd
   have e1c : (1 : Int) ≤ (c2 : Int) := by omega
   have hcne : ¬ (c2 = 1) := by omega
   have HLr := Lib.hid hrl
   clear hcs hr5 hrest key2 hq2 HR2 HR3 hBd hgd Key1 Hct hrl
   go_wp2_with fail
   first | (with_reducible refine (Key2.out _ _ HBd.out).mono ?_) | (trace_state; fail)
   rintro e w3 ⟨v3, rfl, ho3, hE3⟩
   dsimp only
   have hE03 := Ext.trans hE02 hE3
   have hb3 := hb2.ext hE3
   have hcs3 := hE3.cell hcs0
   have hbx := Blk.new w3 100 #[.int .i64 (n : Int), .int .i64 (k0 : Int), .int .i64 (n2 : Int)]
   have hE04 : Ext w (w3.alloc (.cells #[.int .i64 (n : Int), .int .i64 (k0 : Int), .int .i64 (n2 : Int)] 100)) := Ext.alloc hE03 _
   have hb4 := hb3.alloc (.cells #[.int .i64 (n : Int), .int .i64 (k0 : Int), .int .i64 (n2 : Int)] 100)
   clear ho3 hE3 g0 g1 g2 f0 f1 f2 hcs0
   by_cases her2 : er2 = 0
   case pos =>
    subst her2
    have HR5 := HR4.out
    rw [if_pos rfl] at HR5
    have HR6 := Lib.hid HR5
    clear HR4 HR5
    go_wp2_with fail
    obtain ⟨x0, x1, x2, _, _, _⟩ := blk3 hbx
    obtain ⟨_, _, _, y0, y1, y2⟩ := blk3 hb4
    refine wp_region_held_drew (S := fun W => W.cell? ⟨w3.heap.size, 0, none⟩ = some (.int .i64 (n : Int)) ∧ W.cell? ⟨w3.heap.size, 1, none⟩ = some (.int .i64 (k0 : Int)) ∧ W.cell? ⟨w3.heap.size, 2, none⟩ = some (.int .i64 (n2 : Int))) (by kernel_rfl) ⟨x0, x1, x2⟩ (fun hHeld => ?_)
    refine tkL 0 rfl ?_
    try simp only [Act.put, sA, sZ, sS]
    refine tkL 1 rfl ?_
    try simp only [Act.put, sA, sZ, sS]
    refine tkL 2 rfl ?_
    try simp only [Act.put, sA, sZ, sS]
    refine tkL 3 rfl ?_
    try simp only [Act.put, sA, sZ, sS]
    refine tkL 4 rfl ?_
    try simp only [Act.put, sA, sZ, sS]
    refine AllReadyH.one (i := 5) rfl (by kernel_rfl) (by rfl) (fun K hK => ?_)
    go_simp
    refine (refRight_any _ _ _ _).mono ?_
    rintro e w5 ⟨rfl, hE5⟩
    have hE45 : Ext (w3.alloc (.cells #[.int .i64 (n : Int), .int .i64 (k0 : Int), .int .i64 (n2 : Int)] 100)) w5 := Ext.trans (Ext.drew (Ext.refl _)) hE5
    have hE05 := Ext.trans hE04 hE45
    have hbx5 := hbx.ext hE45
    have hb5 := hb4.ext hE45
    obtain ⟨z0, z1, z2, _, _, _⟩ := blk3 hbx5
    refine hK.out _ _ ⟨z0, z1, z2⟩ (fun hHeld => ?_)
    clear hK K
    try simp only [Act.put, sA, sZ, sS]
    refine tkL 6 rfl ?_
    try simp only [Act.put, sA, sZ, sS]
    obtain ⟨y6, y7, y8, y0, y1, y2⟩ := blk3 hb5
    refine AllReadyH.one (i := 7) rfl (by kernel_rfl) (by rfl) (fun K hK => ?_)
    go_simp
    have hne : w3.heap.size ≠ w.heap.size := by have := hE03.size; have := hb3.lt; omega
    have hbx6 := ((hbx5.other hne 0 (.int .i64 (n : Int))).other hne 1 (.int .i64 (k0 : Int))).other hne 2 (.int .i64 (n2 : Int))
    obtain ⟨z0, z1, z2, _, _, _⟩ := blk3 hbx6
    refine hK.out _ _ ⟨z0, z1, z2⟩ (fun hHeld => ?_)
    clear hK K
    try simp only [Act.put, sA, sZ, sS]
    refine tkL 8 rfl ?_
    try simp only [Act.put, sA, sZ, sS]
    refine wpAnyH_done (by kernel_rfl) ?_ _
    go_wp2_with fail
    refine bodyPost_ret (taken_res _ _ _ _ _ rfl rfl (blk_set3 hb5 _ _ _) rfl) rfl ?_
    cases hok : okB (n : Int) (k0 : Int) (n2 : Int) with
    | true =>
     have hr := HR6.out
     rw [if_pos hok] at hr
     subst hr
     exact ⟨rfl, ext_set3 hE05 (Nat.le_refl _) _ _ _⟩
    | false =>
     have hr := HR6.out
     rw [if_neg (by rw [hok]; simp)] at hr
     exact Hfin.out _ _ _ _ (ext_set3 hE05 (Nat.le_refl _) _ _ _) hr.symm
   case neg =>
    have hn : R = none := by rw [← HR4.out, if_neg her2]
    have Hn := Lib.hid hn
    have hne2 : ((er2 : Int) == 0) = false := by simp [her2]
    clear hn HR4
    go_wp2_with fail
    obtain ⟨x0, x1, x2, _, _, _⟩ := blk3 hbx
    refine wp_region_held_drew (S := fun W => W.cell? ⟨w3.heap.size, 0, none⟩ = some (.int .i64 (n : Int)) ∧ W.cell? ⟨w3.heap.size, 1, none⟩ = some (.int .i64 (k0 : Int)) ∧ W.cell? ⟨w3.heap.size, 2, none⟩ = some (.int .i64 (n2 : Int))) (by kernel_rfl) ⟨x0, x1, x2⟩ (fun hHeld => ?_)
    refine tkL 0 rfl ?_
    try simp only [Act.put, sA, sZ, sS]
    refine tkL 1 rfl ?_
    try simp only [Act.put, sA, sZ, sS]
    refine tkL 2 rfl ?_
    try simp only [Act.put, sA, sZ, sS]
    refine tkL 3 rfl ?_
    try simp only [Act.put, sA, sZ, sS]
    refine wpAnyH_skipL (i := 4) rfl (by kernel_rfl) (by kernel_rfl) (by kernel_rfl) (fun _ _ _ h => h) (by rfl) (by assumption) ?_
    try simp only [Act.put, sA, sZ, sS]
    refine wpAnyH_skipL (i := 5) rfl (by kernel_rfl) (by kernel_rfl) (by kernel_rfl) (fun _ _ _ h => h) (by rfl) (by assumption) ?_
    try simp only [Act.put, sA, sZ, sS]
    refine tkL 6 rfl ?_
    try simp only [Act.put, sA, sZ, sS]
    have hD : Ext (w3.alloc (.cells #[.int .i64 (n : Int), .int .i64 (k0 : Int), .int .i64 (n2 : Int)] 100)) (w3.alloc (.cells #[.int .i64 (n : Int), .int .i64 (k0 : Int), .int .i64 (n2 : Int)] 100)).drew := Ext.drew (Ext.refl _)
    have hbx5 := hbx.ext hD
    have hb5 := hb4.ext hD
    have hE05 := Ext.trans hE04 hD
    obtain ⟨y6, y7, y8, y0, y1, y2⟩ := blk3 hb4
    refine AllReadyH.one (i := 7) rfl (by kernel_rfl) (by rfl) (fun K hK => ?_)
    go_simp
    have hne : w3.heap.size ≠ w.heap.size := by have := hE03.size; have := hb3.lt; omega
    have hbx6 := ((hbx5.other hne 0 (.int .i64 (n : Int))).other hne 1 (.int .i64 (k0 : Int))).other hne 2 (.int .i64 (n2 : Int))
    obtain ⟨z0, z1, z2, _, _, _⟩ := blk3 hbx6
    refine hK.out _ _ ⟨z0, z1, z2⟩ (fun hHeld => ?_)
    clear hK K
    try simp only [Act.put, sA, sZ, sS]
    refine tkL 8 rfl ?_
    try simp only [Act.put, sA, sZ, sS]
    refine wpAnyH_done (by kernel_rfl) ?_ _
    go_wp2_with fail
    refine bodyPost_ret (taken_res _ _ _ _ _ rfl rfl (blk_set3 hb5 _ _ _) rfl) rfl ?_
    exact Hfin.out _ _ _ _ (ext_set3 hE05 (Nat.le_refl _) _ _ _) Hn.out
theorem wpList_app_k {ops : Array Oper} {rest : List Oper} {o : Oper} {a : Act} {w : World} {Q : Exit → Act → World → Prop} (hgd : o.guard = none) (s x : Operand)
  (ho : o.op = .call { callee := .builtin .append, args := #[s, x], argTypes := #[25, 25] })
  (base : Nat) (v : Value) (bs : List Ent) (hs : a.eval s = v) (hown : OwnE w base v bs) (vx : Value) (cs : List Ent) (hx : a.eval x = vx) (hr : Es w vx cs)
  (hlen : bs.length + cs.length ≤ 2000000) (hbase : base ≤ w.heap.size)
  (h : ∀ A c w', OwnE w' base (.slice A (bs.length + cs.length) c) (bs ++ cs) → Grows base w w' → w.grownBy w' v.ownBlock → wpList Tryz.prog ops Q rest (a.put o.dst (.slice A (bs.length + cs.length) c)) w') : wpList Tryz.prog ops Q (o :: rest) a w := by
 obtain ⟨i0, hi, hz0, hz1, hz2⟩ := info_parts info_ent
 refine wpList_append_sl _ hgd s x 25 ho base 100 i0 _ 3 24 Tryz.underlying25 hi hz0 hz1 hz2 rfl (by decide) v bs.length (entCells bs) hs hown vx cs.length (entCells cs) hx hr (one_ents _) (by unfold maxLen; omega) (by omega) hbase ?_
 intro v' w' h1 h2
 obtain ⟨A, c, rfl, _, _⟩ := SlR.open_ (SlR.of_own h1)
 refine h A c w' ?_ (fun W0 hE hb => Ext.grownOwn hE (own_base hown hb) h2) h2
 unfold OwnE
 rw [List.length_append, show entCells (bs ++ cs) = entCells bs ++ entCells cs from by simp [entCells]]
 exact h1
theorem scan7_res (tmps : Array Value) (W : World) (b : Nat) (cs : Array Value) (u : Value) (h2 : tmps.getD 2 undef = .pointer (some ⟨b, 0, none⟩)) (h3 : tmps.getD 3 undef = u) (hb : Blk W b 123 cs) (hs : cs.size = 3) : (results Tryz.f82 tmps).run Tryz.prog W = .ok (.tuple #[.agg cs, u]) W := by
 have hl := hb.load (P := Tryz.prog) scanU rfl (by rw [hs]; kernel_rfl)
 have h2' : tmps[2]?.getD undef = .pointer (some ⟨b, 0, none⟩) := by simpa using h2
 have h3' : tmps[3]?.getD undef = u := by simpa using h3
 simp [results, Tryz.results82, h2', h3', asAddr, hl]
theorem refScan7_bad (v : Value) (bs : List UInt8) (w : World) (hB : Bs w v bs) (hl : bs.length ≤ 2000000) (h : (look1S rT bs).err = 11) : Calls Tryz.prog 82 #[v] w (ScanP w (look1S rT bs)) := by
 obtain ⟨A, c, rfl, h1, h2⟩ := SlR.open_ hB
 have hb0 := Blk.new w 123 #[.int .i64 0, .slice none 0 0, .int .i64 0]
 have hX : Ext w (w.alloc (.cells #[.int .i64 0, .slice none 0 0, .int .i64 0] 123)) := Ext.alloc (Ext.refl _) _
 have hr : look1S rT bs = ⟨11, 0, [], 0, (0, 0)⟩ := by
  unfold look1S at h ⊢
  split
  ·rfl
  ·rename_i hd
   rw [if_neg hd] at h
   split
   ·rename_i h2; rw [if_pos h2] at h; cases h
   ·rfl
 have Hr := Lib.hid hr
 have hfin : ∀ (W : World), Ext w W → ScanP w (look1S rT bs) (.returned (.tuple #[.agg #[.int .i64 0, .slice none 0 0, .int .i64 0], .int .i64 11])) W := by
  intro W hE
  rw [Hr.out]
  exact ⟨_, rfl, World.ownsRow_nil _ _ _ _, hE⟩
 have Hfin := Lib.hid hfin
 clear hr hfin
 obtain ⟨g0, g1, g2, f0, f1, f2⟩ := blk3 hb0
 by_cases h6 : bs.length < 6
 ·have e6 : ((bs.length : Int) < 6) := by omega
  clear h hB
  go_enter Tryz.func82, Tryz.ntmps82
  go_wp2_with fail
  refine bodyPost_ret (scan7_res _ _ _ _ _ rfl rfl (Blk.new w _ _) rfl) rfl ?_
  exact Hfin.out _ hX
 ·obtain ⟨_, b, off, rfl, hc⟩ := Bs.at_ hB (by omega)
  have hc0 := hX.cell (hc 0 (by omega))
  rw [Nat.add_zero] at hc0
  have e6 : ¬ ((bs.length : Int) < 6) := by omega
  by_cases hb1 : bs[0] = 1
  case neg =>
   have hne : ((bs[0].toNat : Int) != 1) = true := by
    have : bs[0].toNat ≠ 1 := fun e => hb1 (UInt8.toNat_inj.1 e)
    simp; omega
   generalize bs[0].toNat = q at *
   clear h hB hc
   go_enter Tryz.func82, Tryz.ntmps82
   go_wp2_with fail
   refine bodyPost_ret (scan7_res _ _ _ _ _ rfl rfl (Blk.new w _ _) rfl) rfl ?_
   exact Hfin.out _ hX
  case pos =>
   have hne : ((bs[0].toNat : Int) != 1) = false := by rw [hb1]; rfl
   have hp := bytes_part hB 1 5 (by omega)
   have hpl : ((bs.drop 1).take 5).length = 5 := by rw [List.length_take, List.length_drop]; omega
   have hgd : bs.getD 0 0 = 1 := by rw [List.getD_eq_getElem?_getD, List.getElem?_eq_getElem (by omega)]; exact hb1
   unfold look1S at h
   rw [if_neg (by rintro (h9 | h9); · omega
                  ·exact h9 hgd)] at h
   obtain ⟨p, hpp⟩ : ∃ p, (bs.drop 1).take 5 = p := ⟨_, rfl⟩
   rw [hpp] at h hp hpl
   have key := fun (W : World) (u : Value) (h : Bs W u p) => refTakeLong_any u p W h (by omega)
   obtain ⟨q, hq⟩ : ∃ q, takeLongS p = q := ⟨_, rfl⟩
   rw [hq] at h key
   obtain ⟨er, n, rest⟩ := q
   dsimp only at h
   have hbad : er ≠ 0 ∨ n = 0 := by
    by_cases he : er = 0
    ·by_cases hn : n = 0
     ·exact .inr hn
     ·rw [if_pos ⟨he, hn⟩] at h; cases h
    ·exact .inl he
   have Key := Lib.hid key
   have hp2 : Bs w (.slice (some ⟨b, off + 1, none⟩) 5 (c - 1)) p := SlR.capd hp (by rw [hpl]; omega) (by omega)
   have Hp := Lib.hid hp2
   have e5 : (6 : Int) ≤ (c : Int) := by omega
   generalize bs[0].toNat = q at *
   clear h hB hc key hq hp hp2 hpp hgd hb1
   go_enter Tryz.func82, Tryz.ntmps82
   go_wp2_with fail
   first | (with_reducible refine (Key.out _ _ (Hp.out.ext hX)).mono ?_) | (trace_state; fail)
   rintro e w1 ⟨v1, rfl, ho1, hE1⟩
   dsimp only
   have hb1 := hb0.ext hE1
   have hE01 := Ext.trans hX hE1
   clear g0 g1 g2 f0 f1 f2 ho1
   obtain ⟨g0, g1, g2, f0, f1, f2⟩ := blk3 hb1
   by_cases he : er = 0
   ·subst he
    obtain rfl : n = 0 := by rcases hbad with h | h; exact absurd rfl h; exact h
    go_wp2_with fail
    refine bodyPost_ret (scan7_res _ _ _ _ _ rfl rfl (blk_set3 hb1 _ _ _) rfl) rfl ?_
    exact Hfin.out _ (ext_set3 hE01 (Nat.le_refl _) _ _ _)
   ·have hne2 : ((er : Int) != 0) = true := by simp [he]
    go_wp2_with fail
    refine bodyPost_ret (scan7_res _ _ _ _ _ rfl rfl (blk_set3 hb1 _ _ _) rfl) rfl ?_
    exact Hfin.out _ (ext_set3 hE01 (Nat.le_refl _) _ _ _)
theorem look1_ok {bs : List UInt8} (h : (look1S rT bs).err ≠ 11) : ¬ bs.length < 6 ∧ bs.getD 0 0 = 1 ∧ (takeLongS ((bs.drop 1).take 5)).1 = 0 ∧ (takeLongS ((bs.drop 1).take 5)).2.1 ≠ 0 ∧
  look1S rT bs = ⟨0, (takeLongS ((bs.drop 1).take 5)).2.1, (recsP rT (bs.drop 6) 6).map (·.2), lastP 6 (recsP rT (bs.drop 6) 6), (0, 0)⟩ := by
 unfold look1S at h ⊢
 by_cases h1 : bs.length < 6 ∨ bs.getD 0 0 ≠ 1
 ·rw [if_pos h1] at h; exact absurd rfl h
 ·rw [if_neg h1] at h ⊢
  by_cases h2 : (takeLongS ((bs.drop 1).take 5)).1 = 0 ∧ (takeLongS ((bs.drop 1).take 5)).2.1 ≠ 0
  ·rw [if_pos h2]
   exact ⟨fun h => h1 (.inl h), Classical.byContradiction fun h => h1 (.inr h), h2.1, h2.2, rfl⟩
  ·rw [if_neg h2] at h; exact absurd rfl h
theorem refScan7_ok (v : Value) (bs : List UInt8) (w : World) (hB : Bs w v bs) (hl : bs.length ≤ 2000000) (h : (look1S rT bs).err ≠ 11) : Calls Tryz.prog 82 #[v] w (ScanP w (look1S rT bs)) := by
 obtain ⟨A, c, rfl, h1, h2⟩ := SlR.open_ hB
 have hb0 := Blk.new w 123 #[.int .i64 0, .slice none 0 0, .int .i64 0]
 have hX : Ext w (w.alloc (.cells #[.int .i64 0, .slice none 0 0, .int .i64 0] 123)) := Ext.alloc (Ext.refl _) _
 obtain ⟨h6, hb1, ht1, ht2, hr⟩ := look1_ok h
 obtain ⟨_, b, off, rfl, hc⟩ := Bs.at_ hB (by omega)
 have hc0 := hX.cell (hc 0 (by omega))
 rw [Nat.add_zero] at hc0
 have e6 : ¬ ((bs.length : Int) < 6) := by omega
 have hne : ((bs[0].toNat : Int) != 1) = false := by
  rw [List.getD_eq_getElem?_getD, List.getElem?_eq_getElem (by omega)] at hb1
  rw [show bs[0] = 1 from hb1]; rfl
 have hp := bytes_part hB 1 5 (by omega)
 have hpl : ((bs.drop 1).take 5).length = 5 := by rw [List.length_take, List.length_drop]; omega
 obtain ⟨p, hpp⟩ : ∃ p, (bs.drop 1).take 5 = p := ⟨_, rfl⟩
 rw [hpp] at ht1 ht2 hp hpl hr
 have key := fun (W : World) (u : Value) (h : Bs W u p) => refTakeLong_any u p W h (by omega)
 obtain ⟨q, hq⟩ : ∃ q, takeLongS p = q := ⟨_, rfl⟩
 have hnl : q.2.1 ≤ 1073741824 := by rw [← hq]; exact takeLong_lt
 rw [hq] at ht1 ht2 key hr
 obtain ⟨er, n, rest⟩ := q
 dsimp only at ht1 ht2 hr hnl
 subst ht1
 have hn1 : ¬ ((n : Int) < 1) := by omega
 have Key := Lib.hid key
 have hp2 : Bs w (.slice (some ⟨b, off + 1, none⟩) 5 (c - 1)) p := SlR.capd hp (by rw [hpl]; omega) (by omega)
 have Hp := Lib.hid hp2
 have HB := Lib.hid hB
 obtain ⟨L, hL⟩ : ∃ L, recsP rT (bs.drop 6) 6 = L := ⟨_, rfl⟩
 rw [hL] at hr
 have HL := Lib.hid hL
 have Hr := Lib.hid hr
 have e5 : (6 : Int) ≤ (c : Int) := by omega
 have Hc := Lib.hid hc
 clear hL hr hc
 generalize bs[0].toNat = q at *
 clear h hB key hq hp hp2 hpp hpl hb1 ht2
 go_enter Tryz.func82, Tryz.ntmps82
 go_wp2_with fail
 first | (with_reducible refine (Key.out _ _ (Hp.out.ext hX)).mono ?_) | (trace_state; fail)
 rintro e w1 ⟨v1, rfl, ho1, hE1⟩
 dsimp only
 have hb1 := hb0.ext hE1
 have hE01 := Ext.trans hX hE1
 have hbs : Blk (w1.alloc (.cells #[.int .i64 (n : Int), .slice none 0 0, .int .i64 6] 123)) w1.heap.size 123 #[.int .i64 (n : Int), .slice none 0 0, .int .i64 6] := Blk.new w1 _ _
 have hE02 : Ext w (w1.alloc (.cells #[.int .i64 (n : Int), .slice none 0 0, .int .i64 6] 123)) := Ext.alloc hE01 _
 have hb2 := hb1.alloc (.cells #[.int .i64 (n : Int), .slice none 0 0, .int .i64 6] 123)
 have hsz1 : w.heap.size < w1.heap.size := by have := hE1.size; simp at this; omega
 clear ho1
 go_wp2_with fail
 go_loopw [8, 9] (fun u8 u9 wr => ∃ (k : Nat) (pre : List (Nat × Ent)) (vl : Value), k ≤ bs.length ∧ Hid (L = pre ++ recsP rT (bs.drop k) k) ∧ Hid (lastP 6 pre = k) ∧ pre.length * 15 ≤ k ∧ Blk wr w1.heap.size 123 #[.int .i64 (n : Int), vl, .int .i64 k] ∧
   OwnE wr w.heap.size vl (pre.map (·.2)) ∧ Blk wr w.heap.size 123 #[.int .i64 0, .slice none 0 0, .int .i64 0] ∧ Ext w wr) (fun _ _ wr => bs.length + 30 - cellNat wr w1.heap.size)
 case atStart => exact ⟨6, [], _, by omega, HL.out.symm, rfl, by simp, hbs, World.ownsRow_nil _ _ _ _, hb2, hE02⟩
 case round =>
  obtain ⟨k, pre, vl, hk, Hpre, Hlast, hpl, hB1, hO, hB0, hE⟩ := hrel
  obtain ⟨g0, g1, g2, f0, f1, f2⟩ := blk3 hB1
  by_cases hlt : k + 15 ≤ bs.length
  ·have hpart := bytes_part HB.out k 15 hlt
   obtain ⟨p15, hp15⟩ : ∃ p, (bs.drop k).take 15 = p := ⟨_, rfl⟩
   have hpl15 : p15.length = 15 := by rw [← hp15, List.length_take, List.length_drop]; omega
   rw [hp15] at hpart
   have hnot : ¬ (bs.drop k).length < 15 := by rw [List.length_drop]; omega
   have hdd : (bs.drop k).drop 15 = bs.drop (k + 15) := by rw [List.drop_drop]
   have hBp : Bs wr (.slice (some ⟨b, off + k, none⟩) 15 (c - k)) p15 := (SlR.capd hpart (by rw [hpl15]; omega) (by omega)).ext hE
   have key := refTaken_any _ p15 wr hBp hpl15
   have hPP := Hpre.out
   have ec : (k : Int) + 15 ≤ (c : Int) := by omega
   cases ht : take1S rT p15 with
   | none =>
    rw [ht] at key
    rw [recsP_none hnot (by rw [hp15]; exact ht), List.append_nil] at hPP
    have HPP := Lib.hid hPP
    have Key := Lib.hid key
    clear key ht hBp hpart hp15 hdd hnot hPP Hpre Hc
    go_wp2_with fail
    first | (with_reducible refine Key.out.mono ?_) | (trace_state; fail)
    rintro e w5 ⟨⟨x0, x1, x2, rfl⟩, hE5⟩
    have hE56 : Ext wr (w5.alloc (.cells #[.int .i64 x0, .int .i64 x1, .int .i64 x2] 100)) := Ext.alloc hE5 _
    have hB16 := hB1.ext hE56
    have hB06 := hB0.ext hE56
    have hO6 := own_ext hO hE56
    have hE06 := Ext.trans hE hE56
    clear g0 g1 g2 f0 f1 f2
    obtain ⟨g0, g1, g2, f0, f1, f2⟩ := blk3 hB16
    obtain ⟨r0, r1, r2, s0, s1, s2⟩ := blk3 hB06
    obtain ⟨Al, cl, rfl, _, _⟩ := SlR.open_ (SlR.of_own hO)
    go_wp2_with fail
    refine bodyPost_ret (scan7_res _ _ _ _ _ rfl rfl (blk_set3 hB06 _ _ _) rfl) rfl ?_
    rw [Hr.out]
    refine ⟨.slice Al (pre.map (·.2)).length cl, ?_, ?_, ext_set3 hE06 (Nat.le_refl _) _ _ _⟩
    ·dsimp only; rw [HPP.out, Hlast.out, List.length_map]; rfl
    ·dsimp only; rw [HPP.out]; exact own_set3 hB06 (by decide) hO6 _ _ _
   | some x =>
    rw [ht] at key
    rw [recsP_some hnot (by rw [hp15]; exact ht), hdd] at hPP
    have HPP := Lib.hid hPP
    have Key := Lib.hid key
    have hPl : (pre.map (·.2)).length = pre.length := by rw [List.length_map]
    obtain ⟨P, hP⟩ : ∃ P, pre.map (·.2) = P := ⟨_, rfl⟩
    rw [hP] at hO hPl
    have HP := Lib.hid hP
    have HPl := Lib.hid hPl
    clear hP hPl
    clear key ht hBp hpart hp15 hdd hnot hPP Hpre Hc
    go_wp2_with fail
    first | (with_reducible refine Key.out.mono ?_) | (trace_state; fail)
    rintro e w5 ⟨rfl, hE5⟩
    have hE56 : Ext wr (w5.alloc (.cells #[.int .i64 x.t, .int .i64 x.k, .int .i64 x.v] 100)) := Ext.alloc hE5 _
    have hB16 := hB1.ext hE56
    have hbx := Blk.new w5 100 #[.int .i64 x.t, .int .i64 x.k, .int .i64 x.v]
    have hes := es_one (w5.alloc (.cells #[.int .i64 x.t, .int .i64 x.k, .int .i64 x.v] 100)) x
    rw [World.size_alloc] at hes
    have hE67 : Ext (w5.alloc (.cells #[.int .i64 x.t, .int .i64 x.k, .int .i64 x.v] 100)) ((w5.alloc (.cells #[.int .i64 x.t, .int .i64 x.k, .int .i64 x.v] 100)).alloc (.cells #[.int .i64 x.t, .int .i64 x.k, .int .i64 x.v] 100)) := Ext.alloc (Ext.refl _) _
    have hO7 := own_ext hO (Ext.trans hE56 hE67)
    have hE07 := Ext.trans hE (Ext.trans hE56 hE67)
    have hB17 := hB16.ext hE67
    have hB07 := hB0.ext (Ext.trans hE56 hE67)
    clear g0 g1 g2 f0 f1 f2
    obtain ⟨g0, g1, g2, f0, f1, f2⟩ := blk3 hB16
    obtain ⟨r0, r1, r2, _, _, _⟩ := blk3 hbx
    obtain ⟨Al, cl, rfl, _, _⟩ := SlR.open_ (SlR.of_own hO)
    have hml : P.length + [x].length ≤ 2000000 := by rw [HPl.out]; simp; omega
    go_wp2_with (at_builtin; refine wpList_app_k rfl (.tmp 57) (.tmp 59) rfl w.heap.size _ P rfl hO7 _ [x] rfl hes (by simp at hml ⊢; omega) hE07.size ?_; intro A8 c8 w8 ho8 hG8 hgr8; have hE8 : Ext w w8 := hG8 w hE07 (Nat.le_refl _); refine Hid.out ?_)
    refine Lib.hid ?_
    have hB18 := hB17.kept hgr8 (hB17.not_row (by decide) hO7)
    have hB08 := hB07.kept hgr8 (hB07.not_row (by decide) hO7)
    simp only [List.length_cons, List.length_nil, Nat.zero_add] at ho8 ⊢
    clear g0 g1 g2 f0 f1 f2 r0 r1 r2 hB17 hB07 hB16 hO7 hes hgr8 hG8
    obtain ⟨g0, g1, g2, f0, f1, f2⟩ := blk3 hB18
    go_wp2_with fail
    go_roundw
    case rel =>
     have hn1 := hB18.set 1 (.slice A8 (P.length + 1) c8)
     have hn2 := hn1.set 2 (.int .i64 ((k + 15 : Nat) : Int))
     have hne : w.heap.size ≠ w1.heap.size := by omega
     have r1 := ho8.kept (grownBy_set _ w1.heap.size 1 (.slice A8 (P.length + 1) c8)) (.inr (hB18.not_row (by decide) ho8).symm)
     have r2 := r1.kept (grownBy_set _ w1.heap.size 2 (.int .i64 ((k + 15 : Nat) : Int))) (.inr (hn1.not_row (by decide) r1).symm)
     refine ⟨k + 15, pre ++ [(k + 15, x)], _, hlt, ?_, ?_, ?_, hn2, ?_, (hB08.other hne 1 _).other hne 2 _, Below.setCell (p := ⟨w1.heap.size, 2, none⟩) (Below.setCell (p := ⟨w1.heap.size, 1, none⟩) hE8 (by show w.heap.size ≤ w1.heap.size; omega) _) (by show w.heap.size ≤ w1.heap.size; omega) _⟩
     ·show L = _; rw [HPP.out, List.append_assoc]; rfl
     ·exact lastP_snoc pre _ 6
     ·rw [List.length_append]; simp; omega
     ·rw [List.map_append, HP.out]; exact r2
    case measure =>
     have hn2 := (hB18.set 1 (.slice A8 (P.length + 1) c8)).set 2 (.int .i64 ((k + 15 : Nat) : Int))
     have e1 : cellNat wr w1.heap.size = k := by unfold cellNat; rw [hB1.cell 2 rfl]; simp
     have e2 : cellNat ((w8.setCell ⟨w1.heap.size, 1, none⟩ (.slice A8 (P.length + 1) c8)).setCell ⟨w1.heap.size, 2, none⟩ (.int .i64 ((k + 15 : Nat) : Int))) w1.heap.size = k + 15 := by unfold cellNat; rw [hn2.cell 2 rfl]; simp; omega
     have e3 : ((k : Int) + 15) = ((k + 15 : Nat) : Int) := by omega
     rw [e1, e3, e2]
     omega
  ·have hnil : recsP rT (bs.drop k) k = [] := recsP_short (by rw [List.length_drop]; omega)
   have hPP := Hpre.out
   rw [hnil, List.append_nil] at hPP
   have HPP := Lib.hid hPP
   have hki : ¬ ((k : Int) + 15 ≤ (bs.length : Int)) := by omega
   obtain ⟨r0, r1, r2, s0, s1, s2⟩ := blk3 hB0
   obtain ⟨Al, cl, rfl, _, _⟩ := SlR.open_ (SlR.of_own hO)
   clear hnil hPP Hpre
   go_wp2_with fail
   refine bodyPost_ret (scan7_res _ _ _ _ _ rfl rfl (blk_set3 hB0 _ _ _) rfl) rfl ?_
   rw [Hr.out]
   refine ⟨.slice Al (pre.map (·.2)).length cl, ?_, ?_, ext_set3 hE (Nat.le_refl _) _ _ _⟩
   ·dsimp only; rw [HPP.out, Hlast.out, List.length_map]; rfl
   ·dsimp only; rw [HPP.out]; exact own_set3 hB0 (by decide) hO _ _ _
theorem refScan7_any (v : Value) (bs : List UInt8) (w : World) (hB : Bs w v bs) (hl : bs.length ≤ 2000000) : Calls Tryz.prog 82 #[v] w (ScanP w (look1S rT bs)) := by
 by_cases h : (look1S rT bs).err = 11
 ·exact refScan7_bad v bs w hB hl h
 ·exact refScan7_ok v bs w hB hl h
theorem scan10_res (tmps : Array Value) (W : World) (b : Nat) (cs : Array Value) (u : Value) (h2 : tmps.getD 4 undef = .pointer (some ⟨b, 0, none⟩)) (h3 : tmps.getD 5 undef = u) (hb : Blk W b 123 cs) (hs : cs.size = 3) : (results Tryz.f64 tmps).run Tryz.prog W = .ok (.tuple #[.agg cs, u]) W := by
 have hl := hb.load (P := Tryz.prog) scanU rfl (by rw [hs]; kernel_rfl)
 have h2' : tmps[4]?.getD undef = .pointer (some ⟨b, 0, none⟩) := by simpa using h2
 have h3' : tmps[5]?.getD undef = u := by simpa using h3
 simp [results, Tryz.results64, h2', h3', asAddr, hl]
theorem refScan10_any (v : Value) (bs : List UInt8) (m : Int) (w : World) (hB : Bs w v bs) (hl : bs.length ≤ 2000000) : Calls Tryz.prog 64 #[v, .int .i64 m] w (ScanP w (scanE rT bs m)) := by
 have hb0 := Blk.new w 123 #[.int .i64 0, .slice none 0 0, .int .i64 0]
 have hX : Ext w (w.alloc (.cells #[.int .i64 0, .slice none 0 0, .int .i64 0] 123)) := Ext.alloc (Ext.refl _) _
 by_cases h1 : m = 1
 ·subst h1
  have hr : scanE rT bs 1 = look1S rT bs := rfl
  rw [hr]
  have key := refScan7_any v bs _ (hB.ext hX) hl
  obtain ⟨r, hr⟩ : ∃ r, look1S rT bs = r := ⟨_, rfl⟩
  rw [hr] at key ⊢
  have Key := Lib.hid key
  clear key hr
  go_enter Tryz.func64, Tryz.ntmps64
  go_wp2_with fail
  refine Key.out.mono ?_
  rintro e w1 ⟨vl, rfl, ho, hE⟩
  have hb1 := hb0.ext hE
  obtain ⟨g0, g1, g2, f0, f1, f2⟩ := blk3 hb1
  obtain ⟨A1, c1, rfl, _, _⟩ := SlR.open_ (SlR.of_own ho)
  go_wp2_with fail
  refine bodyPost_ret (scan10_res _ _ _ _ _ rfl rfl (blk_set3 hb1 _ _ _) rfl) rfl ?_
  exact ⟨_, rfl, own_set3 hb1 (by decide) (own_base ho hX.size) _ _ _, ext_set3 (Ext.trans hX hE) (Nat.le_refl _) _ _ _⟩
 ·by_cases h2 : m = 2
  ·subst h2
   have hr : scanE rT bs 2 = lookS bs := rfl
   rw [hr]
   have key := refScan_any v bs _ (hB.ext hX) hl
   obtain ⟨r, hr⟩ : ∃ r, lookS bs = r := ⟨_, rfl⟩
   rw [hr] at key ⊢
   have Key := Lib.hid key
   clear key hr
   go_enter Tryz.func64, Tryz.ntmps64
   go_wp2_with fail
   refine Key.out.mono ?_
   rintro e w1 ⟨vl, rfl, ho, hE⟩
   have hb1 := hb0.ext hE
   obtain ⟨g0, g1, g2, f0, f1, f2⟩ := blk3 hb1
   obtain ⟨A1, c1, rfl, _, _⟩ := SlR.open_ (SlR.of_own ho)
   go_wp2_with fail
   refine bodyPost_ret (scan10_res _ _ _ _ _ rfl rfl (blk_set3 hb1 _ _ _) rfl) rfl ?_
   exact ⟨_, rfl, own_set3 hb1 (by decide) (own_base ho hX.size) _ _ _, ext_set3 (Ext.trans hX hE) (Nat.le_refl _) _ _ _⟩
  ·have hr : scanE rT bs m = ⟨2, 0, [], 0, (0, 0)⟩ := by unfold scanE; rw [if_neg h1, if_neg h2]
   have Hr := Lib.hid hr
   clear hr
   obtain ⟨g0, g1, g2, f0, f1, f2⟩ := blk3 hb0
   go_enter Tryz.func64, Tryz.ntmps64
   go_wp2_with fail
   refine bodyPost_ret (scan10_res _ _ _ _ _ rfl rfl hb0 rfl) rfl ?_
   rw [Hr.out]
   exact ⟨_, rfl, World.ownsRow_nil _ _ _ _, hX⟩
end Go.Proofs.YtmecffckghkahaaGreatDoor
