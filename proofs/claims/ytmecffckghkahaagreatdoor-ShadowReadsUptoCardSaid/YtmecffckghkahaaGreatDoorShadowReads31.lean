/- Merged: St1 St2 -/
import Derived.Test.YtmecffckghkahaaGreatDoorShadowReads30
import Derived.WalkLawsBesides
import Derived.Defers
import Derived.Recover
set_option linter.all false
set_option maxHeartbeats 8000000
namespace Go.Proofs.YtmecffckghkahaaGreatDoor
open Go.RowKit Go.Mv
set_option maxRecDepth 100000
def pan (e : Int) : Ending := .panicked [{ v := .iface 33 (.int .i64 e), recovered := false }]
theorem must_ok (e : Int) (w : World) : Calls Tryz.prog 90 #[.bool true, .int .i64 e] w fun en w' => en = .returned (.tuple #[]) ∧ w = w' := by
 go_enter Tryz.func90, Tryz.ntmps90
 go_wp2
 go_end0
 exact ⟨rfl, rfl⟩
theorem must_bad (e : Int) (w : World) : Calls Tryz.prog 90 #[.bool false, .int .i64 e] w fun en w' => en = pan e ∧ w = w' := by
 go_enter Tryz.func90, Tryz.ntmps90
 go_wp2
 exact ⟨rfl, rfl, rfl⟩
def SBytesP (w : World) (r : Option (List UInt8)) (e : Int) (en : Ending) (w' : World) : Prop := (match r with
 | some b => ∃ v, en = .returned v ∧ Bs w' v b
 | none => en = pan e) ∧ Ext w w'
theorem SBytes_any (v : Value) (fs : List Fil) (k s f e : Int) (w : World) (hS : StW w) (hF : Fs w v fs) (hl : fs.length ≤ 4000000) : Calls Tryz.prog 89 #[v, .agg #[.int .u8 k, .int .i64 s, .int .i64 f], .int .i64 e] w (SBytesP w (bytesS fs (nameS k s f)) e) := by
 obtain ⟨A, c, rfl, h1, h2⟩ := Fs.open_ hF
 have hX : Ext w (w.alloc (.cells #[.int .u8 k, .int .i64 s, .int .i64 f] 40)) := Ext.alloc (Ext.refl _) _
 have key := Find_any _ fs k s f _ (hS.ext hX) (hF.ext hX) hl
 obtain ⟨r, hr⟩ : ∃ r, nameS k s f = r := ⟨_, rfl⟩
 rw [hr] at key ⊢
 obtain ⟨m0, m1, m2⟩ := blkI (Blk.new w 40 #[.int .u8 k, .int .i64 s, .int .i64 f])
 have Key := Lib.hid key
 have HF := Lib.hid (hF.ext hX)
 have HX := Lib.hid hX
 clear key hF hX hS hr
 obtain ⟨R, hR⟩ : ∃ R, bytesS fs r = R := ⟨_, rfl⟩
 rw [hR]
 unfold bytesS at hR
 have HR := Lib.hid hR
 clear hR
 by_cases hneg : findS fs r < 0
 ·obtain rfl : none = R := by have := HR.out; rwa [if_pos hneg] at this
  obtain ⟨x, hx⟩ : ∃ x, findS fs r = x := ⟨_, rfl⟩
  rw [hx] at Key hneg
  go_enter Tryz.func89, Tryz.ntmps89
  go_wp2_with fail
  refine Key.out.mono ?_
  rintro e1 w1 ⟨rfl, hE1⟩
  have hx0 : ¬ (0 ≤ x) := by omega
  have HE := Lib.hid (Ext.trans HX.out hE1)
  go_wp2_with fail
  rw [decide_eq_false (show ¬ (0 ≤ x) by omega)]
  with_reducible refine (must_bad _ _).mono ?_
  rintro e2 w2 ⟨rfl, rfl⟩
  exact ⟨rfl, rfl, HE.out⟩
 ·obtain ⟨i, hi, hil⟩ := findS_lt fs r hneg
  have hR2 := HR.out
  rw [if_neg hneg, hi] at hR2
  rw [show ((i : Int).toNat) = i from by omega, List.getElem?_eq_getElem hil] at hR2
  obtain rfl : some fs[i].2 = R := hR2
  rw [hi] at Key
  obtain ⟨y, hy⟩ : ∃ y, fs[i].2 = y := ⟨_, rfl⟩
  rw [hy]
  have Hy := Lib.hid hy
  clear HR hneg hi hy
  go_enter Tryz.func89, Tryz.ntmps89
  go_wp2_with fail
  refine Key.out.mono ?_
  rintro e1 w1 ⟨rfl, hE1⟩
  have hE1 : Ext _ w1 := hE1
  have HE := Lib.hid (Ext.trans HX.out hE1)
  have hx0 : (0 : Int) ≤ (i : Int) := by omega
  obtain ⟨_, b, off, rfl, hc⟩ := (HF.out.ext hE1).at_ (by omega)
  obtain ⟨hc0, B2, d2, hc1, hB2⟩ := hc i hil
  have hlz : (i : Int) < (fs.length : Int) := by omega
  rw [Hy.out] at hB2 hc1
  have HB := Lib.hid hB2
  clear hc hB2 hc0 hE1
  go_wp2_with fail
  with_reducible refine (must_ok _ _).mono ?_
  rintro e2 w2 ⟨rfl, rfl⟩
  go_wp2_with fail
  go_ret
  exact ⟨⟨.slice B2 y.length d2, rfl, HB.out⟩, HE.out⟩
def SEntP (w : World) (r : Option (List Ent)) (en : Ending) (w' : World) : Prop := (match r with
 | some x => ∃ v, en = .returned v ∧ OwnE w' w.heap.size v x
 | none => en = pan 130) ∧ Ext w w'
theorem Sentries_none (v : Value) (fs : List Fil) (s : Sg4) (w : World) (hS : StW w) (hF : Fs w v fs) (hl : fs.length ≤ 4000000) (hn : bytesS fs (nameS 3 s.seq s.fmt) = none) :
  Calls Tryz.prog 70 #[v, .agg #[.int .i64 s.seq, .int .i64 s.fmt, .int .i64 s.first, .int .i64 s.count]] w fun en w' => en = pan 130 ∧ Ext w w' := by
 obtain ⟨A, c, rfl, h1, h2⟩ := Fs.open_ hF
 have hX : Ext w (w.alloc (.cells #[.int .i64 s.seq, .int .i64 s.fmt, .int .i64 s.first, .int .i64 s.count] 71)) := Ext.alloc (Ext.refl _) _
 have hb0 := Blk.new w 71 #[.int .i64 s.seq, .int .i64 s.fmt, .int .i64 s.first, .int .i64 s.count]
 have key := fun W (h : Ext w W) => SBytes_any (.slice A fs.length c) fs 3 s.seq s.fmt 130 W (hS.ext h) (hF.ext h) hl
 rw [hn] at key
 have Key := Lib.hid key
 have HX := Lib.hid hX
 have Hb0 := Lib.hid hb0
 obtain ⟨m0, m1, m2, m3⟩ := blk4c hb0
 clear hX hb0 key hF hS hn
 go_enter Tryz.func70, Tryz.ntmps70
 go_wp2_with fail
 refine wp_region_held_drew (S := fun W => W.cell? ⟨w.heap.size, 0, none⟩ = some (.int .i64 s.seq) ∧ W.cell? ⟨w.heap.size, 1, none⟩ = some (.int .i64 s.fmt)) (by kernel_rfl) ⟨m0, m1⟩ (fun hHeld => ?_)
 clear m0 m1 m2 m3
 refine tkL 0 rfl ?_
 try simp only [Act.put, sA, sZ, sS]
 refine tkL 1 rfl ?_
 try simp only [Act.put, sA, sZ, sS]
 refine tkL 2 rfl ?_
 try simp only [Act.put, sA, sZ, sS]
 refine tkL 3 rfl ?_
 try simp only [Act.put, sA, sZ, sS]
 refine tkL 4 rfl ?_
 try simp only [Act.put, sA, sZ, sS]
 refine tkL 5 rfl ?_
 try simp only [Act.put, sA, sZ, sS]
 refine tkL 7 rfl ?_
 try simp only [Act.put, sA, sZ, sS]
 refine tkL 8 rfl ?_
 try simp only [Act.put, sA, sZ, sS]
 refine AllReadyH.two (i := 6) (j := 13) rfl rfl (by kernel_rfl) (by rfl) (by rfl) (fun K hK => ?_) (fun K hK => ?_)
 ·go_simp
  refine (Key.out _ (Ext.drew HX.out)).mono ?_
  rintro e w2 ⟨rfl, hE2⟩
  exact ⟨rfl, rfl, Ext.trans HX.out (Ext.trans (Ext.drew (Ext.refl _)) hE2)⟩
 ·go_simp
  have hX2 : Ext w ((w.alloc (.cells #[.int .i64 s.seq, .int .i64 s.fmt, .int .i64 s.first, .int .i64 s.count] 71)).alloc (.cells #[.int .i64 0, .slice none 0 0, .int .i64 0] 123)).drew := Ext.drew (Ext.alloc HX.out _)
  obtain ⟨m0, m1, m2, m3⟩ := blk4c (Hb0.out.ext (Ext.drew (Ext.alloc (Ext.refl _) (.cells #[.int .i64 0, .slice none 0 0, .int .i64 0] 123))))
  refine hK.out _ _ ⟨m0, m1⟩ (fun hHeld => ?_)
  clear hK K
  try simp only [Act.put, sA, sZ, sS]
  refine AllReadyH.one (i := 6) rfl (by kernel_rfl) (by rfl) (fun K hK => ?_)
  go_simp
  refine (Key.out _ hX2).mono ?_
  rintro e w2 ⟨rfl, hE2⟩
  exact ⟨rfl, rfl, Ext.trans hX2 hE2⟩
def scanBad (s : Sg4) (r : LookR) : Bool := decide (r.err ≠ 0) || decide (r.first ≠ s.first) || cntBad r.log.length s.count
theorem entS13_scan {fs : List Fil} {s : Sg4} {b : List UInt8} (h : bytesS fs (nameS 3 s.seq s.fmt) = some b) : entS13 fs s = if scanBad s (scanE rT b s.fmt) then none else some (scanE rT b s.fmt).log := by
 unfold entS13 scanBad
 rw [h]
 dsimp only
 by_cases h1 : (scanE rT b s.fmt).err ≠ 0
 ·simp [h1]
 ·by_cases h2 : (scanE rT b s.fmt).first ≠ s.first
  ·simp [h1, h2]
  ·cases h3 : cntBad (scanE rT b s.fmt).log.length s.count <;> simp [h1, h2, h3]
theorem Sentries_some (v : Value) (fs : List Fil) (s : Sg4) (b : List UInt8) (w : World) (hS : StW w) (hF : Fs w v fs) (hl : fs.length ≤ 4000000) (hn : bytesS fs (nameS 3 s.seq s.fmt) = some b) (hbl : b.length ≤ 2000000) :
  Calls Tryz.prog 70 #[v, .agg #[.int .i64 s.seq, .int .i64 s.fmt, .int .i64 s.first, .int .i64 s.count]] w (SEntP w (entS13 fs s)) := by
 rw [entS13_scan hn]
 obtain ⟨A, c, rfl, h1, h2⟩ := Fs.open_ hF
 have hX : Ext w (w.alloc (.cells #[.int .i64 s.seq, .int .i64 s.fmt, .int .i64 s.first, .int .i64 s.count] 71)) := Ext.alloc (Ext.refl _) _
 have hb0 := Blk.new w 71 #[.int .i64 s.seq, .int .i64 s.fmt, .int .i64 s.first, .int .i64 s.count]
 have key := fun W (h : Ext w W) => SBytes_any (.slice A fs.length c) fs 3 s.seq s.fmt 130 W (hS.ext h) (hF.ext h) hl
 rw [hn] at key
 have key2 := fun W (u : Value) (h : Ext w W) (hB : Bs W u b) => ScanE_any (T := rT) u b s.fmt W hB hbl (hS.ext h).tab
 obtain ⟨r, hr⟩ : ∃ r, scanE rT b s.fmt = r := ⟨_, rfl⟩
 rw [hr] at key2 ⊢
 have Key := Lib.hid key
 have Key2 := Lib.hid key2
 have HX := Lib.hid hX
 have Hb0 := Lib.hid hb0
 obtain ⟨m0, m1, m2, m3⟩ := blk4c hb0
 obtain ⟨R, hR⟩ : ∃ R, (if scanBad s r then none else some r.log) = R := ⟨_, rfl⟩
 rw [hR]
 have HR := Lib.hid hR
 clear hX hb0 key key2 hF hS hn hr hbl hR
 go_enter Tryz.func70, Tryz.ntmps70
 go_wp2_with fail
 refine wp_region_held_drew (S := fun W => W.cell? ⟨w.heap.size, 0, none⟩ = some (.int .i64 s.seq) ∧ W.cell? ⟨w.heap.size, 1, none⟩ = some (.int .i64 s.fmt)) (by kernel_rfl) ⟨m0, m1⟩ (fun hHeld => ?_)
 clear m0 m1 m2 m3
 refine tkL 0 rfl ?_
 try simp only [Act.put, sA, sZ, sS]
 refine tkL 1 rfl ?_
 try simp only [Act.put, sA, sZ, sS]
 refine tkL 2 rfl ?_
 try simp only [Act.put, sA, sZ, sS]
 refine tkL 3 rfl ?_
 try simp only [Act.put, sA, sZ, sS]
 refine tkL 4 rfl ?_
 try simp only [Act.put, sA, sZ, sS]
 refine tkL 5 rfl ?_
 try simp only [Act.put, sA, sZ, sS]
 refine tkL 7 rfl ?_
 try simp only [Act.put, sA, sZ, sS]
 refine tkL 8 rfl ?_
 try simp only [Act.put, sA, sZ, sS]
 refine AllReadyH.two (i := 6) (j := 13) rfl rfl (by kernel_rfl) (by rfl) (by rfl) (fun K hK => ?_) (fun K hK => ?_)
 ·go_simp
  refine (Key.out _ (Ext.drew HX.out)).mono ?_
  rintro e w2 ⟨⟨v2, rfl, hB2⟩, hE2⟩
  have hE2 : Ext (w.alloc (.cells #[.int .i64 s.seq, .int .i64 s.fmt, .int .i64 s.first, .int .i64 s.count] 71)) w2 := Ext.trans (Ext.drew (Ext.refl _)) hE2
  have E2 := Ext.trans HX.out hE2
  have hb2 := Hb0.out.ext hE2
  obtain ⟨m0, m1, m2, m3⟩ := blk4c hb2
  refine hK.out _ _ ⟨m0, m1⟩ (fun hHeld => ?_)
  clear hK K
  try simp only [Act.put, sA, sZ, sS]
  refine AllReadyH.two (i := 9) (j := 13) rfl rfl (by kernel_rfl) (by rfl) (by rfl) (fun K hK => ?_) (fun K hK => ?_)
  ·go_simp
   refine (Key2.out _ _ E2 hB2).mono ?_
   rintro e w3 ⟨v3, rfl, ho3, hE3⟩
   obtain ⟨A3, c3, rfl, _, _⟩ := SlR.open_ (SlR.of_own ho3)
   have hb3 := hb2.ext hE3
   have E3 := Ext.trans E2 hE3
   clear m0 m1 m2 m3
   obtain ⟨m0, m1, m2, m3⟩ := blk4c hb3
   refine hK.out _ _ ⟨m0, m1⟩ (fun hHeld => ?_)
   clear hK K
   try simp only [Act.put, sA, sZ, sS]
   refine tkL 10 rfl ?_
   try simp only [Act.put, sA, sZ, sS]
   refine tkL 11 rfl ?_
   try simp only [Act.put, sA, sZ, sS]
   refine tkL 12 rfl ?_
   try simp only [Act.put, sA, sZ, sS]
   refine AllReadyH.one (i := 13) rfl (by kernel_rfl) (by rfl) (fun K hK => ?_)
   go_simp
   have hE4 : Ext w3 (w3.alloc (.cells #[.int .i64 0, .slice none 0 0, .int .i64 0] 123)) := Ext.alloc (Ext.refl _) _
   have hb4 := hb3.ext hE4
   have hz4 := Blk.new w3 123 #[.int .i64 0, .slice none 0 0, .int .i64 0]
   have E4 := Ext.trans E3 hE4
   have ho4 := own_ext ho3 hE4
   have hbs : w2.heap.size ≤ w3.heap.size := hE3.size
   have hw2 : w.heap.size ≤ w2.heap.size := E2.size
   clear m0 m1 m2 m3
   obtain ⟨m0, m1, m2, m3⟩ := blk4c hb4
   refine hK.out _ _ ⟨m0, m1⟩ (fun hHeld => ?_)
   clear hK K
   try simp only [Act.put, sA, sZ, sS]
   obtain ⟨g0, g1, g2, f0, f1, f2⟩ := blk3 hz4
   refine AllReadyH.one (i := 14) rfl (by kernel_rfl) (by rfl) (fun K hK => ?_)
   go_simp
   have HBz : Hid (Blk (w3.alloc (.cells #[.int .i64 r.first, .slice A3 r.log.length c3, .int .i64 r.used] 123)) w3.heap.size 123 #[.int .i64 r.first, .slice A3 r.log.length c3, .int .i64 r.used]) := Lib.hid (Blk.new w3 _ _)
   have HBs := Lib.hid (hb3.ext (Ext.alloc (Ext.refl w3) (.cells #[.int .i64 r.first, .slice A3 r.log.length c3, .int .i64 r.used] 123)))
   have HE := Lib.hid (Ext.trans E3 (Ext.alloc (Ext.refl w3) (.cells #[.int .i64 r.first, .slice A3 r.log.length c3, .int .i64 r.used] 123)))
   have HO : Hid (OwnE _ w.heap.size _ r.log) := Lib.hid (own_base (own_ext ho3 (Ext.alloc (Ext.refl w3) (.cells #[.int .i64 r.first, .slice A3 r.log.length c3, .int .i64 r.used] 123))) hw2)
   clear m0 m1 m2 m3 g0 g1 g2 f0 f1 f2 hb4 hz4 E4 ho4 hE4
   obtain ⟨m0, m1, m2, m3⟩ := blk4c HBs.out
   refine hK.out _ _ ⟨m0, m1⟩ (fun hHeld => ?_)
   clear hK K
   try simp only [Act.put, sA, sZ, sS]
   refine tkL 15 rfl ?_
   try simp only [Act.put, sA, sZ, sS]
   refine wpAnyH_done (by kernel_rfl) ?_ _
   clear hHeld m0 m1 m2 m3
   obtain ⟨g0, g1, g2, _, _, _⟩ := blk3 HBz.out
   obtain ⟨m0, m1, m2, m3⟩ := blk4c HBs.out
   by_cases he : r.err = 0
   case neg =>
    have heb : (r.err == 0) = false := by simpa using he
    obtain rfl : none = R := by rw [← HR.out, if_pos (by unfold scanBad; simp [he])]
    go_wp2_with fail
    with_reducible refine (must_bad _ _).mono ?_
    rintro e6 w6 ⟨rfl, rfl⟩
    exact ⟨rfl, rfl, HE.out⟩
   by_cases hf : (r.first : Int) = s.first
   case neg =>
    have heb : (r.err == 0) = true := by simpa using he
    clear he
    have hfb : ((r.first : Int) == s.first) = false := by simpa using hf
    obtain rfl : none = R := by rw [← HR.out, if_pos (by unfold scanBad; simp [hf])]
    go_wp2_with fail
    with_reducible refine (must_bad _ _).mono ?_
    rintro e6 w6 ⟨rfl, rfl⟩
    exact ⟨rfl, rfl, HE.out⟩
   have heb : (r.err == 0) = true := by simpa using he
   have hfb : ((r.first : Int) == s.first) = true := by simpa using hf
   have He := Lib.hid he
   have Hf := Lib.hid hf
   clear he hf
   go_wp2_with fail
   with_reducible refine (must_ok _ _).mono ?_
   rintro e6 w6 ⟨rfl, rfl⟩
   cases hcb : cntBad r.log.length s.count with
   | true =>
    obtain rfl : none = R := by rw [← HR.out, if_pos (by unfold scanBad; simp [hcb])]
    have hne : (((r.log.length : Nat) : Int) == s.count) = false := by
     unfold cntBad at hcb
     simp only [Bool.or_eq_true, Bool.and_eq_true, decide_eq_true_eq] at hcb
     simp; omega
    by_cases c1 : s.count = -1
    ·have c1b : (s.count == -1) = true := by simpa using c1
     have hn14 : r.log.length < 1 ∨ 4 < r.log.length := by
      unfold cntBad at hcb
      simp only [Bool.or_eq_true, Bool.and_eq_true, decide_eq_true_eq] at hcb
      omega
     clear c1
     by_cases n1 : r.log.length < 1
     ·have n1z : ¬ ((1 : Int) ≤ (r.log.length : Int)) := by omega
      clear n1 hn14
      go_wp2_with fail
      try rw [decide_eq_false (show ¬ ((r.log.length : Int) ≤ 4) by omega)]
      with_reducible refine (must_bad _ _).mono ?_
      rintro e6 w6 ⟨rfl, rfl⟩
      exact ⟨rfl, rfl, HE.out⟩
     ·have n1z : (1 : Int) ≤ (r.log.length : Int) := by omega
      have n4z : ¬ ((r.log.length : Int) ≤ 4) := by omega
      clear n1 hn14
      go_wp2_with fail
      try rw [decide_eq_false (show ¬ ((r.log.length : Int) ≤ 4) by omega)]
      with_reducible refine (must_bad _ _).mono ?_
      rintro e6 w6 ⟨rfl, rfl⟩
      exact ⟨rfl, rfl, HE.out⟩
    ·have c1b : (s.count == -1) = false := by simpa using c1
     clear c1
     go_wp2_with fail
     with_reducible refine (must_bad _ _).mono ?_
     rintro e6 w6 ⟨rfl, rfl⟩
     exact ⟨rfl, rfl, HE.out⟩
   | false =>
    obtain rfl : some r.log = R := by rw [← HR.out, if_neg (by unfold scanBad; simp [He.out, Hf.out, hcb])]
    by_cases ce : (r.log.length : Int) = s.count
    ·have hne : (((r.log.length : Nat) : Int) == s.count) = true := by simpa using ce
     clear ce
     go_wp2_with fail
     with_reducible refine (must_ok _ _).mono ?_
     rintro e6 w6 ⟨rfl, rfl⟩
     go_wp2_with fail
     go_ret
     exact ⟨⟨_, rfl, HO.out⟩, HE.out⟩
    ·have hne : (((r.log.length : Nat) : Int) == s.count) = false := by simpa using ce
     have hh : s.count = -1 ∧ 1 ≤ r.log.length ∧ r.log.length ≤ 4 := by
      unfold cntBad at hcb
      simp only [Bool.or_eq_false_iff, Bool.and_eq_false_iff, decide_eq_false_iff_not] at hcb
      omega
     have c1b : (s.count == -1) = true := by simpa using hh.1
     have n1z : (1 : Int) ≤ (r.log.length : Int) := by omega
     have n4z : (r.log.length : Int) ≤ 4 := by omega
     clear hh ce
     go_wp2_with fail
     with_reducible refine (must_ok _ _).mono ?_
     rintro e6 w6 ⟨rfl, rfl⟩
     go_wp2_with fail
     go_ret
     exact ⟨⟨_, rfl, HO.out⟩, HE.out⟩
  ·go_simp
   have hX3 : Ext w2 (w2.alloc (.cells #[.int .i64 0, .slice none 0 0, .int .i64 0] 123)) := Ext.alloc (Ext.refl _) _
   have hz3 := Blk.new w2 123 #[.int .i64 0, .slice none 0 0, .int .i64 0]
   have hb3 := hb2.ext hX3
   have E3 := Ext.trans E2 hX3
   have hw2 : w.heap.size ≤ (w2.alloc (.cells #[.int .i64 0, .slice none 0 0, .int .i64 0] 123)).heap.size := E3.size
   have hnz : w.heap.size ≠ w2.heap.size := by have := hb2.lt; omega
   have hbz : w.heap.size ≤ w2.heap.size := E2.size
   obtain ⟨m0, m1, m2, m3⟩ := blk4c hb3
   refine hK.out _ _ ⟨m0, m1⟩ (fun hHeld => ?_)
   clear hK K
   try simp only [Act.put, sA, sZ, sS]
   clear m0 m1 m2 m3
   refine AllReadyH.one (i := 9) rfl (by kernel_rfl) (by rfl) (fun K hK => ?_)
   go_simp
   refine (Key2.out _ _ E3 (hB2.ext hX3)).mono ?_
   rintro e w3 ⟨v3, rfl, ho3, hE3⟩
   obtain ⟨A3, c3, rfl, _, _⟩ := SlR.open_ (SlR.of_own ho3)
   have hb4 := hb3.ext hE3
   have hz4 := hz3.ext hE3
   have E4 := Ext.trans E3 hE3
   obtain ⟨m0, m1, m2, m3⟩ := blk4c hb4
   refine hK.out _ _ ⟨m0, m1⟩ (fun hHeld => ?_)
   clear hK K
   try simp only [Act.put, sA, sZ, sS]
   clear m0 m1 m2 m3
   refine tkL 10 rfl ?_
   try simp only [Act.put, sA, sZ, sS]
   refine tkL 11 rfl ?_
   try simp only [Act.put, sA, sZ, sS]
   refine tkL 12 rfl ?_
   try simp only [Act.put, sA, sZ, sS]
   obtain ⟨g0, g1, g2, f0, f1, f2⟩ := blk3 hz4
   refine AllReadyH.one (i := 14) rfl (by kernel_rfl) (by rfl) (fun K hK => ?_)
   go_simp
   show K _ (set3 w3 w2.heap.size (.int .i64 r.first) (.slice A3 r.log.length c3) (.int .i64 r.used))
   have HBz : Hid (Blk (set3 w3 w2.heap.size (.int .i64 r.first) (.slice A3 r.log.length c3) (.int .i64 r.used)) w2.heap.size 123 #[.int .i64 r.first, .slice A3 r.log.length c3, .int .i64 r.used]) := Lib.hid (blk_set3 hz4 _ _ _)
   have HBs : Hid (Blk (set3 w3 w2.heap.size (.int .i64 r.first) (.slice A3 r.log.length c3) (.int .i64 r.used)) w.heap.size 71 _) := Lib.hid (((hb4.other hnz 0 _).other hnz 1 _).other hnz 2 _)
   have HE : Hid (Ext w (set3 w3 w2.heap.size (.int .i64 r.first) (.slice A3 r.log.length c3) (.int .i64 r.used))) := Lib.hid (ext_set3 E4 hbz _ _ _)
   have HO : Hid (OwnE (set3 w3 w2.heap.size (.int .i64 r.first) (.slice A3 r.log.length c3) (.int .i64 r.used)) w.heap.size _ r.log) := Lib.hid (own_base (own_set3 hz4 (by decide) ho3 _ _ _) hw2)
   generalize set3 w3 w2.heap.size (.int .i64 r.first) (.slice A3 r.log.length c3) (.int .i64 r.used) = w5 at *
   clear g0 g1 g2 f0 f1 f2
   obtain ⟨m0, m1, m2, m3⟩ := blk4c HBs.out
   refine hK.out _ _ ⟨m0, m1⟩ (fun hHeld => ?_)
   clear hK K
   try simp only [Act.put, sA, sZ, sS]
   refine tkL 15 rfl ?_
   try simp only [Act.put, sA, sZ, sS]
   refine wpAnyH_done (by kernel_rfl) ?_ _
   clear hHeld m0 m1 m2 m3
   obtain ⟨g0, g1, g2, _, _, _⟩ := blk3 HBz.out
   obtain ⟨m0, m1, m2, m3⟩ := blk4c HBs.out
   by_cases he : r.err = 0
   case neg =>
    have heb : (r.err == 0) = false := by simpa using he
    obtain rfl : none = R := by rw [← HR.out, if_pos (by unfold scanBad; simp [he])]
    go_wp2_with fail
    with_reducible refine (must_bad _ _).mono ?_
    rintro e6 w6 ⟨rfl, rfl⟩
    exact ⟨rfl, rfl, HE.out⟩
   by_cases hf : (r.first : Int) = s.first
   case neg =>
    have heb : (r.err == 0) = true := by simpa using he
    clear he
    have hfb : ((r.first : Int) == s.first) = false := by simpa using hf
    obtain rfl : none = R := by rw [← HR.out, if_pos (by unfold scanBad; simp [hf])]
    go_wp2_with fail
    with_reducible refine (must_bad _ _).mono ?_
    rintro e6 w6 ⟨rfl, rfl⟩
    exact ⟨rfl, rfl, HE.out⟩
   have heb : (r.err == 0) = true := by simpa using he
   have hfb : ((r.first : Int) == s.first) = true := by simpa using hf
   have He := Lib.hid he
   have Hf := Lib.hid hf
   clear he hf
   go_wp2_with fail
   with_reducible refine (must_ok _ _).mono ?_
   rintro e6 w6 ⟨rfl, rfl⟩
   cases hcb : cntBad r.log.length s.count with
   | true =>
    obtain rfl : none = R := by rw [← HR.out, if_pos (by unfold scanBad; simp [hcb])]
    have hne : (((r.log.length : Nat) : Int) == s.count) = false := by
     unfold cntBad at hcb
     simp only [Bool.or_eq_true, Bool.and_eq_true, decide_eq_true_eq] at hcb
     simp; omega
    by_cases c1 : s.count = -1
    ·have c1b : (s.count == -1) = true := by simpa using c1
     have hn14 : r.log.length < 1 ∨ 4 < r.log.length := by
      unfold cntBad at hcb
      simp only [Bool.or_eq_true, Bool.and_eq_true, decide_eq_true_eq] at hcb
      omega
     clear c1
     by_cases n1 : r.log.length < 1
     ·have n1z : ¬ ((1 : Int) ≤ (r.log.length : Int)) := by omega
      clear n1 hn14
      go_wp2_with fail
      try rw [decide_eq_false (show ¬ ((r.log.length : Int) ≤ 4) by omega)]
      with_reducible refine (must_bad _ _).mono ?_
      rintro e6 w6 ⟨rfl, rfl⟩
      exact ⟨rfl, rfl, HE.out⟩
     ·have n1z : (1 : Int) ≤ (r.log.length : Int) := by omega
      have n4z : ¬ ((r.log.length : Int) ≤ 4) := by omega
      clear n1 hn14
      go_wp2_with fail
      try rw [decide_eq_false (show ¬ ((r.log.length : Int) ≤ 4) by omega)]
      with_reducible refine (must_bad _ _).mono ?_
      rintro e6 w6 ⟨rfl, rfl⟩
      exact ⟨rfl, rfl, HE.out⟩
    ·have c1b : (s.count == -1) = false := by simpa using c1
     clear c1
     go_wp2_with fail
     with_reducible refine (must_bad _ _).mono ?_
     rintro e6 w6 ⟨rfl, rfl⟩
     exact ⟨rfl, rfl, HE.out⟩
   | false =>
    obtain rfl : some r.log = R := by rw [← HR.out, if_neg (by unfold scanBad; simp [He.out, Hf.out, hcb])]
    by_cases ce : (r.log.length : Int) = s.count
    ·have hne : (((r.log.length : Nat) : Int) == s.count) = true := by simpa using ce
     clear ce
     go_wp2_with fail
     with_reducible refine (must_ok _ _).mono ?_
     rintro e6 w6 ⟨rfl, rfl⟩
     go_wp2_with fail
     go_ret
     exact ⟨⟨_, rfl, HO.out⟩, HE.out⟩
    ·have hne : (((r.log.length : Nat) : Int) == s.count) = false := by simpa using ce
     have hh : s.count = -1 ∧ 1 ≤ r.log.length ∧ r.log.length ≤ 4 := by
      unfold cntBad at hcb
      simp only [Bool.or_eq_false_iff, Bool.and_eq_false_iff, decide_eq_false_iff_not] at hcb
      omega
     have c1b : (s.count == -1) = true := by simpa using hh.1
     have n1z : (1 : Int) ≤ (r.log.length : Int) := by omega
     have n4z : (r.log.length : Int) ≤ 4 := by omega
     clear hh ce
     go_wp2_with fail
     with_reducible refine (must_ok _ _).mono ?_
     rintro e6 w6 ⟨rfl, rfl⟩
     go_wp2_with fail
     go_ret
     exact ⟨⟨_, rfl, HO.out⟩, HE.out⟩
 ·go_simp
  have hX1 : Ext (w.alloc (.cells #[.int .i64 s.seq, .int .i64 s.fmt, .int .i64 s.first, .int .i64 s.count] 71)) ((w.alloc (.cells #[.int .i64 s.seq, .int .i64 s.fmt, .int .i64 s.first, .int .i64 s.count] 71)).alloc (.cells #[.int .i64 0, .slice none 0 0, .int .i64 0] 123)).drew := Ext.drew (Ext.alloc (Ext.refl _) _)
  have hz1 := (Blk.new (w.alloc (.cells #[.int .i64 s.seq, .int .i64 s.fmt, .int .i64 s.first, .int .i64 s.count] 71)) 123 #[.int .i64 0, .slice none 0 0, .int .i64 0]).ext (Ext.drew (Ext.refl _))
  rw [World.size_alloc] at hz1
  have hb1 := Hb0.out.ext hX1
  have E1 := Ext.trans HX.out hX1
  have hnz : w.heap.size ≠ w.heap.size + 1 := by omega
  have hbz : w.heap.size ≤ w.heap.size + 1 := by omega
  obtain ⟨m0, m1, m2, m3⟩ := blk4c hb1
  refine hK.out _ _ ⟨m0, m1⟩ (fun hHeld => ?_)
  clear hK K
  try simp only [Act.put, sA, sZ, sS]
  clear m0 m1 m2 m3
  refine AllReadyH.one (i := 6) rfl (by kernel_rfl) (by rfl) (fun K hK => ?_)
  go_simp
  refine (Key.out _ E1).mono ?_
  rintro e w2 ⟨⟨v2, rfl, hB2⟩, hE2⟩
  have hb2 := hb1.ext hE2
  have hz2 := hz1.ext hE2
  have E2 := Ext.trans E1 hE2
  have hw2 : w.heap.size ≤ w2.heap.size := E2.size
  obtain ⟨m0, m1, m2, m3⟩ := blk4c hb2
  refine hK.out _ _ ⟨m0, m1⟩ (fun hHeld => ?_)
  clear hK K
  try simp only [Act.put, sA, sZ, sS]
  clear m0 m1 m2 m3
  refine AllReadyH.one (i := 9) rfl (by kernel_rfl) (by rfl) (fun K hK => ?_)
  go_simp
  refine (Key2.out _ _ E2 hB2).mono ?_
  rintro e w3 ⟨v3, rfl, ho3, hE3⟩
  obtain ⟨A3, c3, rfl, _, _⟩ := SlR.open_ (SlR.of_own ho3)
  have hb4 := hb2.ext hE3
  have hz4 := hz2.ext hE3
  have E4 := Ext.trans E2 hE3
  obtain ⟨m0, m1, m2, m3⟩ := blk4c hb4
  refine hK.out _ _ ⟨m0, m1⟩ (fun hHeld => ?_)
  clear hK K
  try simp only [Act.put, sA, sZ, sS]
  clear m0 m1 m2 m3
  refine tkL 10 rfl ?_
  try simp only [Act.put, sA, sZ, sS]
  refine tkL 11 rfl ?_
  try simp only [Act.put, sA, sZ, sS]
  refine tkL 12 rfl ?_
  try simp only [Act.put, sA, sZ, sS]
  obtain ⟨g0, g1, g2, f0, f1, f2⟩ := blk3 hz4
  refine AllReadyH.one (i := 14) rfl (by kernel_rfl) (by rfl) (fun K hK => ?_)
  go_simp
  show K _ (set3 w3 (w.heap.size + 1) (.int .i64 r.first) (.slice A3 r.log.length c3) (.int .i64 r.used))
  have HBz : Hid (Blk (set3 w3 (w.heap.size + 1) (.int .i64 r.first) (.slice A3 r.log.length c3) (.int .i64 r.used)) (w.heap.size + 1) 123 #[.int .i64 r.first, .slice A3 r.log.length c3, .int .i64 r.used]) := Lib.hid (blk_set3 hz4 _ _ _)
  have HBs : Hid (Blk (set3 w3 (w.heap.size + 1) (.int .i64 r.first) (.slice A3 r.log.length c3) (.int .i64 r.used)) w.heap.size 71 _) := Lib.hid (((hb4.other hnz 0 _).other hnz 1 _).other hnz 2 _)
  have HE : Hid (Ext w (set3 w3 (w.heap.size + 1) (.int .i64 r.first) (.slice A3 r.log.length c3) (.int .i64 r.used))) := Lib.hid (ext_set3 E4 hbz _ _ _)
  have HO : Hid (OwnE (set3 w3 (w.heap.size + 1) (.int .i64 r.first) (.slice A3 r.log.length c3) (.int .i64 r.used)) w.heap.size _ r.log) := Lib.hid (own_base (own_set3 hz4 (by decide) ho3 _ _ _) hw2)
  generalize set3 w3 (w.heap.size + 1) (.int .i64 r.first) (.slice A3 r.log.length c3) (.int .i64 r.used) = w5 at *
  clear g0 g1 g2 f0 f1 f2
  obtain ⟨m0, m1, m2, m3⟩ := blk4c HBs.out
  refine hK.out _ _ ⟨m0, m1⟩ (fun hHeld => ?_)
  clear hK K
  try simp only [Act.put, sA, sZ, sS]
  refine tkL 15 rfl ?_
  try simp only [Act.put, sA, sZ, sS]
  refine wpAnyH_done (by kernel_rfl) ?_ _
  clear hHeld m0 m1 m2 m3
  obtain ⟨g0, g1, g2, _, _, _⟩ := blk3 HBz.out
  obtain ⟨m0, m1, m2, m3⟩ := blk4c HBs.out
  by_cases he : r.err = 0
  case neg =>
   have heb : (r.err == 0) = false := by simpa using he
   obtain rfl : none = R := by rw [← HR.out, if_pos (by unfold scanBad; simp [he])]
   go_wp2_with fail
   with_reducible refine (must_bad _ _).mono ?_
   rintro e6 w6 ⟨rfl, rfl⟩
   exact ⟨rfl, rfl, HE.out⟩
  by_cases hf : (r.first : Int) = s.first
  case neg =>
   have heb : (r.err == 0) = true := by simpa using he
   have hfb : ((r.first : Int) == s.first) = false := by simpa using hf
   obtain rfl : none = R := by rw [← HR.out, if_pos (by unfold scanBad; simp [hf])]
   go_wp2_with fail
   with_reducible refine (must_bad _ _).mono ?_
   rintro e6 w6 ⟨rfl, rfl⟩
   exact ⟨rfl, rfl, HE.out⟩
  have heb : (r.err == 0) = true := by simpa using he
  have hfb : ((r.first : Int) == s.first) = true := by simpa using hf
  have He := Lib.hid he
  have Hf := Lib.hid hf
  clear he hf
  go_wp2_with fail
  with_reducible refine (must_ok _ _).mono ?_
  rintro e6 w6 ⟨rfl, rfl⟩
  cases hcb : cntBad r.log.length s.count with
  | true =>
   obtain rfl : none = R := by rw [← HR.out, if_pos (by unfold scanBad; simp [hcb])]
   have hne : (((r.log.length : Nat) : Int) == s.count) = false := by
    unfold cntBad at hcb
    simp only [Bool.or_eq_true, Bool.and_eq_true, decide_eq_true_eq] at hcb
    simp; omega
   by_cases c1 : s.count = -1
   ·have c1b : (s.count == -1) = true := by simpa using c1
    have hn14 : r.log.length < 1 ∨ 4 < r.log.length := by
     unfold cntBad at hcb
     simp only [Bool.or_eq_true, Bool.and_eq_true, decide_eq_true_eq] at hcb
     omega
    clear c1
    by_cases n1 : r.log.length < 1
    ·have n1z : ¬ ((1 : Int) ≤ (r.log.length : Int)) := by omega
     clear n1 hn14
     go_wp2_with fail
     try rw [decide_eq_false (show ¬ ((r.log.length : Int) ≤ 4) by omega)]
     with_reducible refine (must_bad _ _).mono ?_
     rintro e6 w6 ⟨rfl, rfl⟩
     exact ⟨rfl, rfl, HE.out⟩
    ·have n1z : (1 : Int) ≤ (r.log.length : Int) := by omega
     have n4z : ¬ ((r.log.length : Int) ≤ 4) := by omega
     clear n1 hn14
     go_wp2_with fail
     try rw [decide_eq_false (show ¬ ((r.log.length : Int) ≤ 4) by omega)]
     with_reducible refine (must_bad _ _).mono ?_
     rintro e6 w6 ⟨rfl, rfl⟩
     exact ⟨rfl, rfl, HE.out⟩
   ·have c1b : (s.count == -1) = false := by simpa using c1
    clear c1
    go_wp2_with fail
    with_reducible refine (must_bad _ _).mono ?_
    rintro e6 w6 ⟨rfl, rfl⟩
    exact ⟨rfl, rfl, HE.out⟩
  | false =>
   obtain rfl : some r.log = R := by rw [← HR.out, if_neg (by unfold scanBad; simp [He.out, Hf.out, hcb])]
   by_cases ce : (r.log.length : Int) = s.count
   ·have hne : (((r.log.length : Nat) : Int) == s.count) = true := by simpa using ce
    clear ce
    go_wp2_with fail
    with_reducible refine (must_ok _ _).mono ?_
    rintro e6 w6 ⟨rfl, rfl⟩
    go_wp2_with fail
    go_ret
    exact ⟨⟨_, rfl, HO.out⟩, HE.out⟩
   ·have hne : (((r.log.length : Nat) : Int) == s.count) = false := by simpa using ce
    have hh : s.count = -1 ∧ 1 ≤ r.log.length ∧ r.log.length ≤ 4 := by
     unfold cntBad at hcb
     simp only [Bool.or_eq_false_iff, Bool.and_eq_false_iff, decide_eq_false_iff_not] at hcb
     omega
    have c1b : (s.count == -1) = true := by simpa using hh.1
    have n1z : (1 : Int) ≤ (r.log.length : Int) := by omega
    have n4z : (r.log.length : Int) ≤ 4 := by omega
    clear hh ce
    go_wp2_with fail
    with_reducible refine (must_ok _ _).mono ?_
    rintro e6 w6 ⟨rfl, rfl⟩
    go_wp2_with fail
    go_ret
    exact ⟨⟨_, rfl, HO.out⟩, HE.out⟩
open Go.RowKit Go.Mv
set_option maxRecDepth 100000
theorem ta_iface (e : Int) (w : World) : (Instr.typeAssert (.iface 33 (.int .i64 e)) 20 33 true).run Tryz.prog w = .ok (.tuple #[.int .i64 e, .bool true]) w := by kernel_rfl
theorem ta_nil (w : World) : (Instr.typeAssert .nilIface 20 33 true).run Tryz.prog w = .ok (.tuple #[.int .i64 0, .bool false]) w := by kernel_rfl
theorem told1_pan (p : Addr) (y : Value) (e : Int) (older : List PanicEntry) (w : World) (hc : w.cell? p = some y) (hz : w.frozen? p = false) :
  CallsD Tryz.prog 87 #[.pointer (some p)] (.panicking ({ v := .iface 33 (.int .i64 e), recovered := false } :: older)) w fun en u' w' =>
   en = .returned (.tuple #[]) ∧ u' = .panicking ({ v := .iface 33 (.int .i64 e), recovered := true } :: older) ∧ w' = w.setCell p (.int .i64 e) := by
 refine callsD_of_wpS Tryz.func87 rfl fun c₀ cs hu => ?_
 have h1 := ta_iface e
 apply wpS_seq
 apply wpS_region
 simp [wpOpsS, go_sem, recoverD, hu, Tryz.ntmps87, Exit.thenS, h1]
 apply wpS_seq
 apply wpS_region
 simp [wpOpsS, go_sem, Exit.thenS, Array.replicate]
 refine wpS_cond (t := true) (by simp [Act.eval, Array.replicate]) ?_
 simp only [if_true]
 apply wpS_region
 simp [wpOpsS, go_sem, hc, hz, bodyPostS, results, Tryz.results87, Array.replicate]
theorem told1_idle (p : Addr) (w : World) :
  CallsD Tryz.prog 87 #[.pointer (some p)] .returning w fun en u' w' => en = .returned (.tuple #[]) ∧ u' = .returning ∧ w' = w := by
 refine callsD_of_wpS Tryz.func87 rfl fun c₀ cs hu => ?_
 have h1 := ta_nil
 apply wpS_seq
 apply wpS_region
 simp [wpOpsS, go_sem, recoverD, hu, Tryz.ntmps87, Exit.thenS, h1]
 apply wpS_seq
 apply wpS_region
 simp [wpOpsS, go_sem, Exit.thenS, Array.replicate]
 refine wpS_cond (t := false) (by simp [Act.eval, Array.replicate]) ?_
 simp only [Bool.false_eq_true, if_false]
 refine wpS_of_wp ?_
 cases c₀
 simp_all [wp_skip, bodyPostS, results, Tryz.results87]
def Ent1P (fs : List Fil) (s : Sg4) (b2 : Nat) (w : World) (en : Ending) (w' : World) : Prop := match entS13 fs s with
 | some x => en = .returned (.tuple #[]) ∧ ∃ w1 v, Ext w w1 ∧ OwnE w1 w.heap.size v x ∧ w' = w1.setCell ⟨b2, 0, none⟩ v
 | none => en = pan 130 ∧ Ext w w'
theorem Sentries_any (v : Value) (fs : List Fil) (s : Sg4) (w : World) (hS : StW w) (hF : Fs w v fs) (hl : fs.length ≤ 4000000) (hbl : ∀ f ∈ fs, f.2.length ≤ 2000000) :
  Calls Tryz.prog 70 #[v, .agg #[.int .i64 s.seq, .int .i64 s.fmt, .int .i64 s.first, .int .i64 s.count]] w (SEntP w (entS13 fs s)) := by
 cases hn : bytesS fs (nameS 3 s.seq s.fmt) with
 | none =>
  have : entS13 fs s = none := by unfold entS13; rw [hn]
  rw [this]
  exact (Sentries_none v fs s w hS hF hl hn).mono fun en w' h => ⟨h.1, h.2⟩
 | some b =>
  obtain ⟨f, hf, rfl⟩ := bytesS_mem hn
  exact Sentries_some v fs s _ w hS hF hl hn (hbl f hf)
theorem Ent1_any (v : Value) (fs : List Fil) (s : Sg4) (p0 p1 b2 : Nat) (old : Value) (w : World) (hS : StW w) (hF : Fs w v fs) (hl : fs.length ≤ 4000000) (hbl : ∀ f ∈ fs, f.2.length ≤ 2000000)
  (h0 : w.cell? ⟨p0, 0, none⟩ = some v) (h1 : Blk w p1 71 #[.int .i64 s.seq, .int .i64 s.fmt, .int .i64 s.first, .int .i64 s.count]) (h2 : Blk w b2 25 #[old]) :
  Calls Tryz.prog 69 #[.pointer (some ⟨p0, 0, none⟩), .pointer (some ⟨p1, 0, none⟩), .pointer (some ⟨b2, 0, none⟩)] w (Ent1P fs s b2 w) := by
 obtain ⟨A, c, rfl, _, _⟩ := Fs.open_ hF
 obtain ⟨m0, m1, m2, m3⟩ := blk4c h1
 have key := Sentries_any _ fs s w hS hF hl hbl
 unfold Ent1P
 obtain ⟨R, hR⟩ : ∃ R, entS13 fs s = R := ⟨_, rfl⟩
 rw [hR] at key ⊢
 have Key := Lib.hid key
 have H2 := Lib.hid h2
 clear key hR hS hF hbl h2 h1
 go_enter Tryz.func69, Tryz.ntmps69
 go_wp2_with fail
 refine Key.out.mono ?_
 rintro e w1 ⟨hr, hE1⟩
 cases R with
 | none =>
  obtain rfl := hr
  exact ⟨rfl, rfl, hE1⟩
 | some x =>
  obtain ⟨v1, rfl, ho⟩ := hr
  obtain ⟨A3, c3, rfl, _, _⟩ := SlR.open_ (SlR.of_own ho)
  have hb := H2.out.ext hE1
  have f0 := hb.frozen 0
  have g0 := hb.cell 0 rfl
  clear m0 m1 m2 m3 h0
  have Ho := Lib.hid ho
  clear ho
  go_wp2_with fail
  go_end0
  exact ⟨rfl, w1, hE1, _, Ho.out, rfl⟩
def ToldP (fs : List Fil) (s : Sg4) (b2 : Nat) (old : Value) (w : World) (en : Ending) (w' : World) : Prop := match entS13 fs s with
 | some x => en = .returned (.int .i64 0) ∧ (∃ v, OwnE w' w.heap.size v x ∧ Blk w' b2 25 #[v]) ∧ Grows b2 w w'
 | none => en = .returned (.int .i64 130) ∧ Blk w' b2 25 #[old] ∧ Ext w w'
theorem told_any (v : Value) (fs : List Fil) (s : Sg4) (p0 p1 b2 : Nat) (old : Value) (w : World) (hS : StW w) (hF : Fs w v fs) (hl : fs.length ≤ 4000000) (hbl : ∀ f ∈ fs, f.2.length ≤ 2000000)
  (h0 : w.cell? ⟨p0, 0, none⟩ = some v) (h1 : Blk w p1 71 #[.int .i64 s.seq, .int .i64 s.fmt, .int .i64 s.first, .int .i64 s.count]) (h2 : Blk w b2 25 #[old]) :
  Calls Tryz.prog 68 #[.func (.func 69) #[] #[.pointer (some ⟨p0, 0, none⟩), .pointer (some ⟨p1, 0, none⟩), .pointer (some ⟨b2, 0, none⟩)]] w (ToldP fs s b2 old w) := by
 have hmf : ∀ (fn : Fn) (first cap : Array Value) (w : World), (Instr.makeFunc fn first cap).run Tryz.prog w = .ok (.func fn first cap) w := fun _ _ _ _ => rfl
 have hX : Ext w (w.alloc (.cells #[.int .i64 0] 33)) := Ext.alloc (Ext.refl _) _
 have he := Blk.new w 33 #[.int .i64 0]
 have key := Ent1_any v fs s p0 p1 b2 old _ (hS.ext hX) (hF.ext hX) hl hbl (hX.cell h0) (h1.ext hX) (h2.ext hX)
 unfold ToldP
 unfold Ent1P at key
 obtain ⟨R, hR⟩ : ∃ R, entS13 fs s = R := ⟨_, rfl⟩
 rw [hR] at key ⊢
 have Key := Lib.hid key
 have H2 := Lib.hid h2
 have HX := Lib.hid hX
 have He := Lib.hid he
 clear key hR hS hF hbl h2 h1 h0 hX he
 go_enter_defers Tryz.func68, Tryz.ntmps68
 go_wp2_with fail
 refine Key.out.mono ?_
 rintro e w1 hr
 cases R with
 | none =>
  obtain ⟨rfl, hE1⟩ := hr
  have he1 := He.out.ext hE1
  have h21 := (H2.out.ext HX.out).ext hE1
  refine leaves_cons (f := 87) (args := #[.pointer (some ⟨w.heap.size, 0, none⟩)]) (by simp) (by simp [go_sem]) ?_
  refine (told1_pan ⟨w.heap.size, 0, none⟩ _ 130 [] _ (he1.cell 0 rfl) (he1.frozen 0)).mono ?_
  rintro e u' w2 ⟨rfl, rfl, rfl⟩
  have hne : b2 ≠ w.heap.size := by have := H2.out.lt; omega
  have hs := he1.set 0 (.int .i64 130)
  have hc := hs.cell 0 rfl
  simp [Leaves, settle, results, Tryz.results68, go_sem, hc]
  exact ⟨h21.other hne 0 _, Below.setCell (p := ⟨w.heap.size, 0, none⟩) (Ext.trans HX.out hE1) (Nat.le_refl _) _⟩
 | some x =>
  obtain ⟨rfl, w2, v2, hE2, ho, rfl⟩ := hr
  have hne : b2 ≠ w.heap.size := by have := H2.out.lt; omega
  have hb2 : Blk w2 b2 25 #[old] := (H2.out.ext HX.out).ext hE2
  have hb3 : Blk (w2.setCell ⟨b2, 0, none⟩ v2) b2 25 #[v2] := hb2.set 0 v2
  have he2 := He.out.ext hE2
  have he3 := he2.other hne.symm 0 v2
  have ho3 := ho.kept (grownBy_set _ b2 0 v2) (.inr (hb2.not_row (by decide) ho).symm)
  have HG : Hid (Grows b2 w (w2.setCell ⟨b2, 0, none⟩ v2)) := Lib.hid fun W0 hE hle => Below.setCell (p := ⟨b2, 0, none⟩) (Ext.trans hE (Ext.trans HX.out hE2)) hle v2
  obtain ⟨w3, hw3⟩ : ∃ w3, w2.setCell ⟨b2, 0, none⟩ v2 = w3 := ⟨_, rfl⟩
  rw [hw3] at hb3 he3 ho3 HG ⊢
  have f0 := he3.frozen 0
  have g0 := he3.cell 0 rfl
  have Hb3 := Lib.hid hb3
  have He3 := Lib.hid he3
  have Ho3 := Lib.hid ho3
  have Hne := Lib.hid hne
  clear hw3 hb2 hb3 he2 he3 ho3 ho hE2 hne
  go_wp2_with fail
  refine leaves_cons (f := 87) (args := #[.pointer (some ⟨w.heap.size, 0, none⟩)]) (by simp) (by simp [go_sem]) ?_
  refine (told1_idle ⟨w.heap.size, 0, none⟩ _).mono ?_
  rintro e u' w4 ⟨rfl, rfl, rfl⟩
  have hs := He3.out.set 0 (.int .i64 0)
  have hc : (w3.setCell ⟨w.heap.size, 0, none⟩ (.int .i64 0)).cell? ⟨w.heap.size, 0, none⟩ = some (.int .i64 0) := hs.cell 0 rfl
  have h1 := Hb3.out.other Hne.out 0 (.int .i64 0)
  have h2 := Ho3.out.kept (grownBy_set _ w.heap.size 0 (.int .i64 0)) (.inr (He3.out.not_row (by decide) Ho3.out).symm)
  have hbw : b2 < w.heap.size := H2.out.lt
  have h3 : Grows b2 w (w3.setCell ⟨w.heap.size, 0, none⟩ (.int .i64 0)) := fun W0 hE hle => Below.setCell (p := ⟨w.heap.size, 0, none⟩) (HG.out W0 hE hle) (by show W0.heap.size ≤ w.heap.size; omega) _
  generalize w3.setCell ⟨w.heap.size, 0, none⟩ (.int .i64 0) = w5 at *
  simp [Leaves, settle, results, Tryz.results68, go_sem, hc]
  exact ⟨⟨v2, own_base h2 (by simp), h1⟩, h3⟩
theorem sent_res (tmps : Array Value) (W : World) (b : Nat) (v u : Value) (h4 : tmps.getD 4 undef = .pointer (some ⟨b, 0, none⟩)) (h5 : tmps.getD 5 undef = u) (hb : Blk W b 25 #[v]) : (results Tryz.f48 tmps).run Tryz.prog W = .ok (.tuple #[v, u]) W := by
 have hc := hb.cell 0 rfl
 have h4' : tmps[4]?.getD undef = .pointer (some ⟨b, 0, none⟩) := by simpa using h4
 have h5' : tmps[5]?.getD undef = u := by simpa using h5
 have hu := Tryz.underlying25
 simp [results, Tryz.results48, h4', h5', asAddr, go_sem, hc, hu]
theorem SEntries_any (v : Value) (fs : List Fil) (s : Sg4) (w : World) (hS : StW w) (hF : Fs w v fs) (hl : fs.length ≤ 4000000) (hbl : ∀ f ∈ fs, f.2.length ≤ 2000000) :
  Calls Tryz.prog 48 #[v, .agg #[.int .i64 s.seq, .int .i64 s.fmt, .int .i64 s.first, .int .i64 s.count]] w (EntP w (entS13 fs s)) := by
 have hmf : ∀ (fn : Fn) (first cap : Array Value) (w : World), (Instr.makeFunc fn first cap).run Tryz.prog w = .ok (.func fn first cap) w := fun _ _ _ _ => rfl
 obtain ⟨A, c, rfl, _, _⟩ := Fs.open_ hF
 have hX1 : Ext w (w.alloc (.cells #[.slice A fs.length c] 22)) := Ext.alloc (Ext.refl _) _
 have hX2 : Ext (w.alloc (.cells #[.slice A fs.length c] 22)) ((w.alloc (.cells #[.slice A fs.length c] 22)).alloc (.cells #[.int .i64 s.seq, .int .i64 s.fmt, .int .i64 s.first, .int .i64 s.count] 71)) := Ext.alloc (Ext.refl _) _
 have hX3 : Ext ((w.alloc (.cells #[.slice A fs.length c] 22)).alloc (.cells #[.int .i64 s.seq, .int .i64 s.fmt, .int .i64 s.first, .int .i64 s.count] 71)) (((w.alloc (.cells #[.slice A fs.length c] 22)).alloc (.cells #[.int .i64 s.seq, .int .i64 s.fmt, .int .i64 s.first, .int .i64 s.count] 71)).alloc (.cells #[.slice none 0 0] 25)) := Ext.alloc (Ext.refl _) _
 have b0 := (Blk.new w 22 #[.slice A fs.length c]).ext (Ext.trans hX2 hX3)
 have b1 := (Blk.new (w.alloc (.cells #[.slice A fs.length c] 22)) 71 #[.int .i64 s.seq, .int .i64 s.fmt, .int .i64 s.first, .int .i64 s.count]).ext hX3
 have b2 := Blk.new ((w.alloc (.cells #[.slice A fs.length c] 22)).alloc (.cells #[.int .i64 s.seq, .int .i64 s.fmt, .int .i64 s.first, .int .i64 s.count] 71)) 25 #[.slice none 0 0]
 rw [World.size_alloc] at b1
 rw [World.size_alloc, World.size_alloc] at b2
 have hX := Ext.trans hX1 (Ext.trans hX2 hX3)
 have key := told_any (.slice A fs.length c) fs s w.heap.size (w.heap.size + 1) (w.heap.size + 1 + 1) _ _ (hS.ext hX) (hF.ext hX) hl hbl (b0.cell 0 rfl) b1 b2
 unfold ToldP at key
 unfold EntP
 obtain ⟨R, hR⟩ : ∃ R, entS13 fs s = R := ⟨_, rfl⟩
 rw [hR] at key ⊢
 have Key := Lib.hid key
 have HX := Lib.hid hX
 clear key hR hS hF hbl hX hX1 hX2 hX3 b0 b1 b2
 go_enter Tryz.func48, Tryz.ntmps48
 go_wp2_with fail
 refine Key.out.mono ?_
 rintro e w1 hr
 cases R with
 | none =>
  obtain ⟨rfl, hb, hE⟩ := hr
  have g0 := hb.cell 0 rfl
  have f0 := hb.frozen 0
  have Hb := Lib.hid hb
  have HE := Lib.hid (Ext.trans HX.out hE)
  clear hb hE
  go_wp2_with fail
  refine bodyPost_ret (sent_res _ _ _ _ _ rfl rfl (Hb.out.set 0 (.slice none 0 0))) rfl ?_
  exact ⟨_, rfl, World.ownsRow_nil _ _ _ _, Below.setCell (p := ⟨w.heap.size + 1 + 1, 0, none⟩) HE.out (by show w.heap.size ≤ w.heap.size + 1 + 1; omega) _⟩
 | some x =>
  obtain ⟨rfl, ⟨v1, ho, hb⟩, hG⟩ := hr
  have hE := hG w HX.out (by omega)
  obtain ⟨A3, c3, rfl, _, _⟩ := SlR.open_ (SlR.of_own ho)
  have g0 := hb.cell 0 rfl
  have f0 := hb.frozen 0
  have Hb := Lib.hid hb
  have HE := Lib.hid hE
  have Ho := Lib.hid ho
  clear hb hE ho hG
  go_wp2_with fail
  refine bodyPost_ret (sent_res _ _ _ _ _ rfl rfl (Hb.out.set 0 (.slice A3 x.length c3))) rfl ?_
  exact ⟨_, rfl, own_base (Ho.out.kept (grownBy_set _ _ 0 _) (.inr (Hb.out.not_row (by decide) Ho.out).symm)) (by have := HX.out.size; simpa using this), Below.setCell (p := ⟨w.heap.size + 1 + 1, 0, none⟩) HE.out (by show w.heap.size ≤ w.heap.size + 1 + 1; omega) _⟩
end Go.Proofs.YtmecffckghkahaaGreatDoor
