/-
  The walks of moultref08.scan, Scan, End, More.
-/
import Derived.Test.YtibbbdifkopebaaRefBlk
set_option linter.all false
namespace Go.Proofs.Ytibbbdifkopebaa
open Go.RowKit Go.Mv
set_option maxRecDepth 100000

theorem refLook_res (tmps : Array Value) (W : World) (N : Nat) (a v u vz ve : Value) (h2 : tmps.getD 2 undef = .pointer (some ⟨N, 0, none⟩)) (h3 : tmps.getD 3 undef = vz) (h4 : tmps.getD 4 undef = ve) (hb : Blk W N 36 #[a, v, u]) :
    (results Try.f38 tmps).run Try.prog W = .ok (.tuple #[.agg #[a, v, u], vz, ve]) W := by
  obtain ⟨c0, c1, c2, _⟩ := blk3 hb
  simp only [Array.getD_eq_getD_getElem?] at h2 h3 h4
  simp [results, Try.results38, go_sem, h2, h3, h4, c0, c1, c2]
theorem look_step {bs : List UInt8} {k : Nat} {q : Nat × Nat} {es : List Ent} {r : List UInt8} (hk : k ≤ bs.length) (h : nextS q (bs.drop k) = some (es, r)) :
    ∃ nn, (bs.drop k).length - r.length = nn ∧ 0 < nn ∧ k + nn ≤ bs.length ∧ es.length ≤ nn ∧ es.length ≤ 4 ∧ bs.drop (k + nn) = r ∧
      scanS q (bs.drop k) = (es ++ (scanS (chainP q (blkBody es)) (bs.drop (k + nn))).1, (scanS (chainP q (blkBody es)) (bs.drop (k + nn))).2) := by
  obtain ⟨h1, h2⟩ := (nextS_iff _ _ _ _).1 h
  have hl := congrArg List.length h2
  have hbl := blkBody_len es
  have hbk : (blkS q es).length = (blkBody es).length + 4 := by unfold blkS; rw [List.length_append]; rfl
  rw [List.length_append, List.length_drop] at hl
  have hd : bs.drop (k + (blkS q es).length) = r := by rw [← List.drop_drop, h2, List.drop_left]
  refine ⟨(blkS q es).length, by rw [List.length_drop]; omega, by omega, by omega, by omega, ((blkOk_iff es).1 h1).1.2, hd, ?_⟩
  rw [hd]
  exact scanS_some h
def cellNat (W : World) (B : Nat) : Nat := match W.cell? ⟨B, 2, none⟩ with | some (.int _ k) => k.toNat | _ => 0

set_option maxHeartbeats 4000000 in
theorem refLook_any (v : Value) (bs : List UInt8) (w : World) (hBs : Bs w v bs) (hl : bs.length ≤ 1000000) : Calls Try.prog 38 #[v] w (LookP w (lookS bs)) := by
  obtain ⟨A, c, rfl, h1, h2⟩ := SlR.open_ hBs
  obtain ⟨i0, hi, hz0, hz1, hz2⟩ := info_parts info_ent
  have hE0 : Ext w (w.alloc (.cells #[.int .i64 0, .slice none 0 0, .int .i64 0] 36)) := Ext.alloc (Ext.refl _) _
  have hB0 : Blk (w.alloc (.cells #[.int .i64 0, .slice none 0 0, .int .i64 0] 36)) w.heap.size 36 #[.int .i64 0, .slice none 0 0, .int .i64 0] := Blk.new w _ _
  by_cases h0 : bs.length = 0
  · obtain rfl : bs = [] := List.eq_nil_of_length_eq_zero h0
    obtain ⟨c0, c1, c2, f0, f1, f2⟩ := blk3 hB0
    go_enter Try.func38, Try.ntmps38
    go_wp2_with fail
    exact bodyPost_ret (refLook_res _ _ _ _ _ _ _ _ rfl rfl rfl hB0) rfl (blk_bad (look_none rfl) hE0)
  obtain ⟨_, b, off, rfl, hc⟩ := Bs.at_ hBs (by omega)
  have hc0 : w.cell? ⟨b, off, none⟩ = some (.int .u8 (bs[0].toNat : Int)) := hc 0 (by omega)
  obtain ⟨x, l, rfl⟩ : ∃ x l, bs = x :: l := by cases bs with | nil => exact absurd rfl h0 | cons x l => exact ⟨x, l, rfl⟩
  simp only [List.getElem_cons_zero] at hc0
  have hblt : b < w.heap.size := World.block_lt_of_cell? w _ hc0
  have HBs := Lib.hid hBs
  have e0 : ¬ ((l.length : Int) + 1 < 1) := by omega
  clear hc hBs h0
  simp only [List.length_cons] at *
  by_cases hx : x.toNat = 2
  case neg =>
    have e1 : ((x.toNat : Int) != 2) = true := by simp; omega
    obtain ⟨c0, c1, c2, f0, f1, f2⟩ := blk3 hB0
    have hN : Hid (headT (x :: l) = none) := by show _ = _; rw [headT, if_neg (fun h => hx (by rw [h.1]; rfl))]
    clear hx
    go_enter Try.func38, Try.ntmps38
    go_wp2_with fail
    exact bodyPost_ret (refLook_res _ _ _ _ _ _ _ _ rfl rfl rfl hB0) rfl (blk_bad (look_none hN.out) hE0)
  have hx2 : x = 2 := UInt8.toNat_inj.1 (by simpa using hx)
  subst hx2
  have HT : Hid (∀ (W : World) (u : Value), Bs W u l → Calls Try.prog 58 #[u] W (TakeP W (takeS l))) := fun W u hu => refTake_any u l W hu (by omega)
  have HH : Hid (headT (2 :: l) = if (takeS l).1 = 0 ∧ (takeS l).2.1 ≠ 0 then some (takeS l).2 else none) := by show _ = _; rw [headT]; simp
  have hrl := takeS_rest l
  have H10 : Hid (l = [] → (takeS l).1 ≠ 0) := by rintro rfl; decide
  rcases htk : takeS l with ⟨er, m, r⟩
  rw [htk] at HT HH hrl H10
  dsimp only at HH hrl H10
  clear htk hx
  have Hcut : Hid (∀ W : World, Ext w W → Bs W (.slice (some ⟨b, off + 1, none⟩) l.length (c - 1)) l) := by
    intro W hE
    have h := Bs.cut (HBs.out.ext hE) 1 (by simp) rfl
    simpa using h
  have hvs : ∃ vs : Value, (∀ W, Ext w W → Bs W vs l) ∧ vs = .slice (if c = 1 then some ⟨b, off, none⟩ else some ⟨b, off + 1, none⟩) l.length (c - 1) := by
    by_cases hc1 : c = 1
    · obtain rfl : l = [] := List.eq_nil_of_length_eq_zero (by omega)
      exact ⟨_, fun W _ => SlR.empty W 1 (by omega), rfl⟩
    · exact ⟨_, fun W hE => Hcut.out W hE, by rw [if_neg hc1]⟩
  obtain ⟨vs, hvs1, hvs2⟩ := hvs
  have HVS := Lib.hid hvs1
  have HV := Lib.hid hvs2
  have hb1 : (1 : Int) ≤ (l.length : Int) + 1 := by omega
  have hb2 : (1 : Int) ≤ (c : Int) := by omega
  clear hvs1 hvs2
  by_cases hbad : er = 0 ∧ m ≠ 0
  case neg =>
    have HH2 : Hid (headT (2 :: l) = none) := by show _ = _; rw [HH.out, if_neg hbad]
    by_cases her : er = 0
    · subst her
      have hm : m = 0 := Decidable.byContradiction (fun h => hbad ⟨rfl, h⟩)
      subst hm
      clear hbad HH
      go_enter Try.func38, Try.ntmps38
      go_wp2_with (go_at_call 58; rw [← HV.out]; refine (HT.out _ _ (HVS.out _ hE0)).mono ?_; rintro e w1 ⟨v1, rfl, ho1, hE1⟩; have hB1 := hB0.ext hE1; obtain ⟨c0, c1, c2, f0, f1, f2⟩ := blk3 hB1)
      exact bodyPost_ret (refLook_res _ _ _ _ _ _ _ _ rfl rfl rfl (blk_set3 hB1 _ _ _)) rfl (blk_bad (look_none HH2.out) (ext_set3 (Ext.trans hE0 hE1) (Nat.le_refl _) _ _ _))
    · have e6 : (er != 0) = true := by simpa using her
      clear hbad HH her
      go_enter Try.func38, Try.ntmps38
      go_wp2_with (go_at_call 58; rw [← HV.out]; refine (HT.out _ _ (HVS.out _ hE0)).mono ?_; rintro e w1 ⟨v1, rfl, ho1, hE1⟩; have hB1 := hB0.ext hE1; obtain ⟨c0, c1, c2, f0, f1, f2⟩ := blk3 hB1)
      exact bodyPost_ret (refLook_res _ _ _ _ _ _ _ _ rfl rfl rfl (blk_set3 hB1 _ _ _)) rfl (blk_bad (look_none HH2.out) (ext_set3 (Ext.trans hE0 hE1) (Nat.le_refl _) _ _ _))
  obtain ⟨rfl, hm⟩ := hbad
  have hm1 : ¬ ((m : Int) < 1) := by omega
  have HH2 : Hid (headT (2 :: l) = some (m, r)) := by show _ = _; rw [HH.out, if_pos ⟨rfl, hm⟩]
  obtain ⟨k0, hk0⟩ : ∃ k, l.length + 1 - r.length = k := ⟨_, rfl⟩
  have hk1 : k0 ≤ l.length + 1 := by omega
  have hsub : (l.length : Int) + 1 - (r.length : Int) = (k0 : Int) := by omega
  have hdr : (2 :: l).drop k0 = r := by
    have h := ((headT_iff _ _ _).1 HH2.out).2
    have hl2 := congrArg List.length h
    rw [List.length_cons, List.length_append] at hl2
    rw [h, show k0 = (headS (m : Int)).2.length from by omega, List.drop_left]
  have Hhd : Hid ((2 :: l).take k0 = (headS (m : Int)).2) := by
    have := (headT_len HH2.out).2
    simp only [List.length_cons] at this
    rw [hk0] at this
    exact this
  have hlk := look_some HH2.out
  rw [← hdr] at hlk
  have Hlk := Lib.hid hlk
  have Hdr := Lib.hid hdr
  have hkc : (k0 : Int) ≤ (c : Int) := by omega
  clear hm HH H10 hk0 hlk hdr
  go_enter Try.func38, Try.ntmps38
  go_wp2_with (first
    | (go_at_call 58; rw [← HV.out]; refine (HT.out _ _ (HVS.out _ hE0)).mono ?_; rintro e w1 ⟨v1, rfl, ho1, hE1⟩; have hB1 := hB0.ext hE1; obtain ⟨c0, c1, c2, f0, f1, f2⟩ := blk3 hB1; obtain ⟨Ar, cr, rfl, _, _⟩ := SlR.open_ (SlR.of_own ho1))
    | (go_at_call 33
       have hE2 : Ext w (w1.alloc (.cells #[.int .i64 m, .slice none 0 0, .int .i64 k0] 36)) := Ext.alloc (Ext.trans hE0 hE1) _
       have hbk := Bs.take (HBs.out.ext hE2) k0 (by simp; omega)
       rw [Hhd.out] at hbk
       have hp := parts1 hbk
       rw [World.size_alloc] at hp
       refine (refChain_zero _ _ _ hp).mono ?_
       rintro e w3 ⟨vz, rfl, hpz, rfl⟩
       rw [show [(headS (m : Int)).2].flatten = (headS (m : Int)).2 from by simp] at hpz
       have HPZ := Lib.hid hpz
       obtain ⟨z1, z2, rfl, _, _⟩ := hpz))
  have hBn : Blk ((w1.alloc (.cells #[.int .i64 m, .slice none 0 0, .int .i64 k0] 36)).alloc (.cells #[.slice (some ⟨b, off, none⟩) k0 c] 24)) w1.heap.size 36 #[.int .i64 m, .slice none 0 0, .int .i64 k0] := (Blk.new w1 _ _).alloc _
  have hRn : Blk ((w1.alloc (.cells #[.int .i64 m, .slice none 0 0, .int .i64 k0] 36)).alloc (.cells #[.slice (some ⟨b, off, none⟩) k0 c] 24)) w.heap.size 36 #[.int .i64 0, .slice none 0 0, .int .i64 0] := (hB1.alloc _).alloc _
  have hEn : Ext w ((w1.alloc (.cells #[.int .i64 m, .slice none 0 0, .int .i64 k0] 36)).alloc (.cells #[.slice (some ⟨b, off, none⟩) k0 c] 24)) := Ext.alloc hE2 _
  have hRB : w.heap.size < w1.heap.size := hB1.lt
  clear c0 c1 c2 f0 f1 f2 hB1 hE2 ho1 hp hbk hB0
  go_loopw [9] (fun zv wr => ∃ (log : List Ent) (k : Nat) (q : Nat × Nat) (vl : Value), Hid (PtV zv q) ∧ Hid (k ≤ l.length + 1 ∧ log.length ≤ k) ∧
      Hid (lookS (2 :: l) = ⟨0, m, log ++ (scanS q ((2 :: l).drop k)).1, (2 :: l).length - (scanS q ((2 :: l).drop k)).2.2.length, (scanS q ((2 :: l).drop k)).2.1⟩) ∧
      Hid (Blk wr w1.heap.size 36 #[.int .i64 m, vl, .int .i64 k]) ∧ Hid (Blk wr w.heap.size 36 #[.int .i64 0, .slice none 0 0, .int .i64 0]) ∧ wr.ownsRow w.heap.size 45 3 vl log.length (entCells log) ∧ Ext w wr) (fun _ wr => l.length + 1 - cellNat wr w1.heap.size)
  case atStart => exact ⟨[], k0, chainP (0, 0) (headS (m : Int)).2, .slice none 0 0, HPZ.out, ⟨hk1, Nat.zero_le _⟩, Hlk.out, hBn, hRn, World.ownsRow_nil _ _ _ _, hEn⟩
  case round =>
    clear hBn hRn hEn
    obtain ⟨log, k, q, vl, Hz, Hk, Hq, HBx, HRx, hown, hE⟩ := hrel
    have hz0' := Hz.out
    obtain ⟨z3, z4, rfl, _, _⟩ := hz0'
    obtain ⟨Av, cv, rfl, _, _⟩ := SlR.open_ (SlR.of_own hown)
    obtain ⟨c0, c1, c2, f0, f1, f2⟩ := blk3 HBx.out
    have hk := Hk.out.1
    have hlg := Hk.out.2
    have hki : (k : Int) ≤ (l.length : Int) + 1 := by omega
    have hkc2 : (k : Int) ≤ (c : Int) := by omega
    have hvs2 : ∃ vs2 : Value, Bs wr vs2 ((2 :: l).drop k) ∧ vs2 = .slice (if c = k then some ⟨b, off, none⟩ else some ⟨b, off + k, none⟩) (l.length + 1 - k) (c - k) := by
      by_cases hck : c = k
      · exact ⟨_, Bs.cut0 (A := some ⟨b, off, none⟩) (n := l.length + 1) (k := k) (c := c - k) (bs := 2 :: l) (by simp; omega) (by simp) (by omega), by rw [if_pos hck]⟩
      · exact ⟨_, Bs.cut (HBs.out.ext hE) k (by simp; omega) (by simp), by rw [if_neg hck]⟩
    obtain ⟨vs2, hvs2, hvs3⟩ := hvs2
    have HV2 := Lib.hid hvs3
    have hblk := refBlk_any z3 z4 q vs2 _ wr Hz.out hvs2 (by rw [List.length_drop, List.length_cons]; omega)
    clear hvs3 hvs2
    cases hn : nextS q ((2 :: l).drop k) with
    | none =>
      have hout : lookS (2 :: l) = ⟨0, m, log, k, q⟩ := by
        rw [Hq.out, scanS_none hn]
        simp only [List.append_nil, List.length_drop, List.length_cons]
        rw [show l.length + 1 - (l.length + 1 - k) = k from by omega]
      have Hout := Lib.hid hout
      unfold rblk at hblk
      rw [hn] at hblk
      have HBK := Lib.hid hblk
      clear hout hblk hn
      go_wp2_with (go_at_call 59; rw [← HV2.out]; refine HBK.out.mono ?_; rintro e w4 ⟨vl4, vz4, rfl, ho4, hp4, hE4⟩; obtain ⟨z5, z6, rfl, _, _⟩ := hp4; have hB4 := HBx.out.ext hE4; have hR4 := HRx.out.ext hE4; obtain ⟨d0, d1, d2, e0', e1', e2'⟩ := blk3 hB4; obtain ⟨r0, r1, r2, s0, s1, s2⟩ := blk3 hR4)
      refine bodyPost_ret (refLook_res _ _ _ _ _ _ _ _ rfl rfl rfl (blk_set3 hR4 _ _ _)) rfl ?_
      rw [Hout.out]
      exact ⟨_, _, rfl, own_set3 hR4 (by decide) (own_ext hown hE4) _ _ _, Hz.out, ext_set3 (Ext.trans hE hE4) (Nat.le_refl _) _ _ _⟩
    | some y =>
      obtain ⟨es, r'⟩ := y
      obtain ⟨nn, hnn, hn0, hkn, hen, hes4, hdr2, hsc⟩ := look_step (bs := 2 :: l) (k := k) (by simp; omega) hn
      rw [List.length_cons] at hkn
      unfold rblk at hblk
      rw [hn] at hblk
      dsimp only at hblk
      rw [hnn] at hblk
      have HBK := Lib.hid hblk
      have Hsc := Lib.hid hsc
      have Hn0 := Lib.hid hn0
      have hne : ((nn : Int) == 0) = false := by rw [beq_eq_false_iff_ne]; omega
      have hni : (k : Int) + (nn : Int) ≤ 1000000 := by omega
      clear hblk hn hsc hnn hdr2 hn0
      go_wp2_with (first
        | (go_at_call 59
           rw [← HV2.out]
           refine HBK.out.mono ?_
           rintro e w4 ⟨vl4, vz4, rfl, ho4, hp4, hE4⟩
           dsimp only at ho4
           have HP4 := Lib.hid hp4
           obtain ⟨z5, z6, rfl, _, _⟩ := hp4
           obtain ⟨A4, c4, rfl, _, _⟩ := SlR.open_ (SlR.of_own ho4)
           have hB4 := HBx.out.ext hE4
           have hR4 := HRx.out.ext hE4
           have hown4 := own_ext hown hE4
           obtain ⟨d0, d1, d2, e0', e1', e2'⟩ := blk3 hB4)
        | (at_builtin
           refine wpList_append_sl _ rfl (.tmp 65) (.tmp 66) 23 rfl w.heap.size 45 i0 _ 3 24 Try.underlying23 hi hz0 hz1 hz2 rfl (by decide) _ log.length (entCells log) rfl hown4 _ es.length (entCells es) rfl (SlR.of_own ho4) (one_ents _) (by unfold maxLen; omega) (by omega) (Ext.trans hE hE4).size ?_
           intro v5 w5 hown5 hgrow5
           obtain ⟨A5, cc5, rfl, _, _⟩ := SlR.open_ (SlR.of_own hown5)
           have hB5 := hB4.kept hgrow5 (hB4.not_row (by decide) hown4)
           have hR5 := hR4.kept hgrow5 (hR4.not_row (by decide) hown4)
           have hB6 := hB5.set 1 (.slice A5 (log.length + es.length) cc5)
           obtain ⟨m0, m1, m2, n0, n1, n2⟩ := blk3 hB5
           obtain ⟨p0, p1, p2, q0, q1, q2⟩ := blk3 hB6))
      go_roundw
      case rel =>
        have r1 := hown5.kept (grownBy_set w5 w1.heap.size 1 (.slice A5 (log.length + es.length) cc5)) (.inr (hB5.not_row (by decide) hown5).symm)
        have r2 := r1.kept (grownBy_set _ w1.heap.size 2 (.int .i64 ((k : Int) + nn))) (.inr (hB6.not_row (by decide) r1).symm)
        refine ⟨log ++ es, k + nn, chainP q (blkBody es), .slice A5 (log.length + es.length) cc5, HP4.out, ⟨hkn, by rw [List.length_append]; omega⟩, ?_, hB6.set 2 (.int .i64 ((k : Int) + nn)), (hR5.other (by omega) 1 _).other (by omega) 2 _, ?_, ?_⟩
        · show _ = _
          rw [Hq.out, Hsc.out]
          dsimp only
          rw [List.append_assoc]
        · rw [List.length_append, show entCells (log ++ es) = entCells log ++ entCells es from by simp [entCells]]
          exact r2
        · exact Below.setCell (p := ⟨w1.heap.size, 2, none⟩) (Below.setCell (p := ⟨w1.heap.size, 1, none⟩) (Ext.grownOwn (Ext.trans hE hE4) hown4 hgrow5) (by show _ ≤ w1.heap.size; omega) _) (by show _ ≤ w1.heap.size; omega) _
      case measure =>
        have hm0 := (blk3 (hB6.set 2 (.int .i64 ((k : Int) + nn)))).2.2.1
        have := Hn0.out
        unfold cellNat
        rw [hm0, c2]
        dsimp only
        omega

theorem refLook_ext (v : Value) (bs : List UInt8) (w : World) (hBs : Bs w v bs) (hl : bs.length ≤ 1000000) : ∀ W, Ext w W → Calls Try.prog 38 #[v] W (LookP W (lookS bs)) := fun W hE => refLook_any v bs W (Bs.ext hBs hE) hl

set_option maxHeartbeats 1000000 in
theorem refScan_any (v : Value) (bs : List UInt8) (w : World) (hBs : Bs w v bs) (hl : bs.length ≤ 1000000) : Calls Try.prog 19 #[v] w (ScanP w (lookS bs)) := by
  have HL := Lib.hid (refLook_ext v bs w hBs hl)
  obtain ⟨A, c, rfl, _, _⟩ := SlR.open_ hBs
  clear hBs
  generalize lookS bs = R at *
  obtain ⟨er, first, log, used, pt⟩ := R
  go_enter Try.func19, Try.ntmps19
  go_wp2_with (go_at_call 38; refine (HL.out _ (Ext.alloc (Ext.refl _) _)).mono ?_; rintro e w1 ⟨vl, vz, rfl, ho1, hp, hE1⟩; dsimp only at ho1; obtain ⟨Av, cv, rfl, _, _⟩ := SlR.open_ (SlR.of_own ho1); obtain ⟨z1, z2, rfl, _, _⟩ := hp; have hB := ((Blk.new w 36 #[.int .i64 0, .slice none 0 0, .int .i64 0]).ext hE1).alloc (.cells #[.int .i64 first, .slice Av log.length cv, .int .i64 used] 36); obtain ⟨c0, c1, c2, f0, f1, f2⟩ := blk3 hB)
  have hb2 := blk_set3 hB (.int .i64 first) (.slice Av log.length cv) (.int .i64 used)
  have hrow := own_ext ho1 (Ext.alloc (Ext.refl w1) (.cells #[.int .i64 first, .slice Av log.length cv, .int .i64 used] 36))
  have r1 := hrow.kept (grownBy_set _ w.heap.size 0 (.int .i64 first)) (.inr (hB.not_row (by decide) hrow).symm)
  have b1 := hB.set 0 (.int .i64 first)
  have r2 := r1.kept (grownBy_set _ w.heap.size 1 (.slice Av log.length cv)) (.inr (b1.not_row (by decide) r1).symm)
  have b2 := b1.set 1 (.slice Av log.length cv)
  have r3 := r2.kept (grownBy_set _ w.heap.size 2 (.int .i64 used)) (.inr (b2.not_row (by decide) r2).symm)
  obtain ⟨g0, g1, g2, _, _, _⟩ := blk3 hb2
  refine bodyPost_ret (v := .tuple #[.agg #[.int .i64 first, .slice Av log.length cv, .int .i64 used], .int .i64 er]) (by simp [results, Try.results19, go_sem, g0, g1, g2]) rfl ⟨_, rfl, own_base r3 (by simp), ?_⟩
  exact Below.setCell (p := ⟨w.heap.size, 2, none⟩) (Below.setCell (p := ⟨w.heap.size, 1, none⟩) (Below.setCell (p := ⟨w.heap.size, 0, none⟩) (Ext.alloc (Ext.trans (Ext.alloc (Ext.refl _) _) hE1) _) (Nat.le_refl _) _) (Nat.le_refl _) _) (Nat.le_refl _) _

set_option maxHeartbeats 1000000 in
theorem refEnd_any (v : Value) (bs : List UInt8) (w : World) (hBs : Bs w v bs) (hl : bs.length ≤ 1000000) : Calls Try.prog 21 #[v] w (EndP w (endS bs)) := by
  have HL := Lib.hid (refLook_any v bs w hBs hl)
  obtain ⟨A, c, rfl, _, _⟩ := SlR.open_ hBs
  clear hBs
  unfold endS
  generalize lookS bs = R at *
  obtain ⟨er, first, log, used, pt⟩ := R
  dsimp only
  by_cases her : er = 0
  · subst her
    by_cases hu : used = bs.length
    · subst hu
      rw [if_pos ⟨rfl, rfl⟩]
      go_enter Try.func21, Try.ntmps21
      go_wp2_with (go_at_call 38; refine HL.out.mono ?_; rintro e w1 ⟨vl, vz, rfl, ho1, hp, hE1⟩; dsimp only at ho1 hp; have HP := Lib.hid hp; obtain ⟨Av, cv, rfl, _, _⟩ := SlR.open_ (SlR.of_own ho1); obtain ⟨z1, z2, rfl, _, _⟩ := hp)
      go_ret2
      exact ⟨_, rfl, HP.out, Ext.alloc hE1 _⟩
    · rw [if_neg (fun h => hu h.2)]
      have hne : ((used : Int) != (bs.length : Int)) = true := by simp; omega
      clear hu
      go_enter Try.func21, Try.ntmps21
      go_wp2_with (go_at_call 38; refine HL.out.mono ?_; rintro e w1 ⟨vl, vz, rfl, ho1, hp, hE1⟩; dsimp only at ho1 hp; have HP := Lib.hid hp; obtain ⟨Av, cv, rfl, _, _⟩ := SlR.open_ (SlR.of_own ho1); obtain ⟨z1, z2, rfl, _, _⟩ := hp)
      go_ret2
      exact ⟨_, rfl, PtV.zero, Ext.alloc hE1 _⟩
  · rw [if_neg (fun h => her h.1)]
    have e6 : (er != 0) = true := by simpa using her
    clear her
    go_enter Try.func21, Try.ntmps21
    go_wp2_with (go_at_call 38; refine HL.out.mono ?_; rintro e w1 ⟨vl, vz, rfl, ho1, hp, hE1⟩; dsimp only at ho1 hp; have HP := Lib.hid hp; obtain ⟨Av, cv, rfl, _, _⟩ := SlR.open_ (SlR.of_own ho1); obtain ⟨z1, z2, rfl, _, _⟩ := hp)
    go_ret2
    exact ⟨_, rfl, PtV.zero, Ext.alloc hE1 _⟩

set_option maxHeartbeats 1000000 in
theorem refMore_any (v vl : Value) (bs : List UInt8) (es : List Ent) (w : World) (hBs : Bs w v bs) (hl : bs.length ≤ 1000000) (h : Es w vl es) (hlen : es.length ≤ 1000000) : Calls Try.prog 17 #[v, vl] w (ResP w (moreS bs es)) := by
  have HE := Lib.hid (refEnd_any v bs w hBs hl)
  have HF := Lib.hid (fun w (h : Es w vl es) => fine_any _ es w h)
  have H := Lib.hid h
  obtain ⟨A, c, rfl, _, _⟩ := SlR.open_ hBs
  obtain ⟨A', c', rfl, _, _⟩ := SlR.open_ h
  clear hBs h
  unfold moreS ResP
  rcases hd : endS bs with ⟨er, pt⟩
  rw [hd] at HE
  have herr : er = 0 ∨ er = 11 := by
    have := congrArg Prod.fst hd
    unfold endS at this
    split at this
    · exact .inl this.symm
    · exact .inr this.symm
  clear hd
  dsimp only
  rcases herr with rfl | rfl
  · rw [if_pos rfl]
    cases ha : allOk es
    · rw [ha] at HF
      rw [if_neg (by simp)]
      clear ha
      go_enter Try.func17, Try.ntmps17
      go_wp2_with (first
        | (go_at_call 21; refine HE.out.mono ?_; rintro e w1 ⟨vz, rfl, hp, hE1⟩; obtain ⟨z1, z2, rfl, _, _⟩ := hp)
        | (go_at_call 32; refine (HF.out _ (Es.ext H.out hE1)).mono ?_; rintro e w2 ⟨rfl, hE2⟩))
      go_ret2
      exact ⟨_, rfl, World.ownsRow_nil _ _ _ _, Ext.trans hE1 hE2⟩
    · rw [ha] at HF
      rw [if_pos (by simp)]
      have Ha := Lib.hid ha
      clear ha
      go_enter Try.func17, Try.ntmps17
      go_wp2_with (first
        | (go_at_call 21; refine HE.out.mono ?_; rintro e w1 ⟨vz, rfl, hp, hE1⟩; have HP := Lib.hid hp; obtain ⟨z1, z2, rfl, _, _⟩ := hp)
        | (go_at_call 32; refine (HF.out _ (Es.ext H.out hE1)).mono ?_; rintro e w2 ⟨rfl, hE2⟩)
        | (go_at_call 36
           refine (refBlocks_any _ _ _ es _ HP.out (Es.ext H.out (Ext.trans hE1 hE2)) Ha.out hlen).mono ?_
           rintro e w4 ⟨v4, rfl, ho4, hE5⟩))
      go_ret2
      exact ⟨_, rfl, own_base ho4 (Ext.trans hE1 hE2).size, Ext.trans (Ext.trans hE1 hE2) hE5⟩
  · rw [if_neg (by decide)]
    go_enter Try.func17, Try.ntmps17
    go_wp2_with (go_at_call 21; refine HE.out.mono ?_; rintro e w1 ⟨vz, rfl, hp, hE1⟩; obtain ⟨z1, z2, rfl, _, _⟩ := hp)
    go_ret2
    exact ⟨_, rfl, World.ownsRow_nil _ _ _ _, hE1⟩
end Go.Proofs.Ytibbbdifkopebaa
