/- Merged: Rd1 Rd3 Rd2 Rd4 Rd5 Tup -/
import Derived.Test.YtmecffckghkahaaGreatDoorShadowSays26
import Derived.Deep.QuietTactic
import Derived.BigQuiet
set_option linter.all false
set_option maxHeartbeats 8000000
namespace Go.Proofs.YtmecffckghkahaaGreatDoor
open Go.RowKit Go.Mv
set_option maxRecDepth 100000
def bytesS (fs : List Fil) (r : Option (List UInt8)) : Option (List UInt8) := if findS fs r < 0 then none else (fs[(findS fs r).toNat]?).map (·.2)
def BytesP (w : World) (r : Option (List UInt8)) (e : Ending) (w' : World) : Prop := ∃ v, e = .returned (.tuple #[v, .bool r.isSome]) ∧ Bs w' v (r.getD []) ∧ Ext w w'
theorem findS_lt (fs : List Fil) (r : Option (List UInt8)) (h : ¬ findS fs r < 0) : ∃ i : Nat, findS fs r = (i : Int) ∧ i < fs.length := by
 unfold findS at h ⊢
 cases r with
 | none => exact absurd (show ((-1 : Int) < 0) by decide) h
 | some n =>
  dsimp only at h ⊢
  unfold placeS at h ⊢
  cases hf : fs.findIdx? (fun f => f.1 == n) with
  | none => rw [hf] at h; exact absurd (show ((-1 : Int) < 0) by decide) h
  | some i =>
   refine ⟨i, rfl, ?_⟩
   rw [List.findIdx?_eq_some_iff_getElem] at hf
   exact hf.1
theorem bytes13_any (v : Value) (fs : List Fil) (k s f : Int) (w : World) (hS : StW w) (hF : Fs w v fs) (hl : fs.length ≤ 4000000) : Calls Tryz.prog 20 #[v, .agg #[.int .u8 k, .int .i64 s, .int .i64 f]] w (BytesP w (bytesS fs (nameS k s f))) := by
 obtain ⟨A, c, rfl, h1, h2⟩ := Fs.open_ hF
 have hX : Ext w (w.alloc (.cells #[.int .u8 k, .int .i64 s, .int .i64 f] 40)) := Ext.alloc (Ext.refl _) _
 have key := refFind_any _ fs k s f _ (hS.ext hX) (hF.ext hX) hl
 obtain ⟨r, hr⟩ : ∃ r, nameS k s f = r := ⟨_, rfl⟩
 rw [hr] at key ⊢
 have hlt := findS_lt fs r
 obtain ⟨R, hR⟩ : ∃ R, bytesS fs r = R := ⟨_, rfl⟩
 rw [hR]
 unfold bytesS at hR
 have HR := Lib.hid hR
 have Hlt := Lib.hid hlt
 have Key := Lib.hid key
 have HF := Lib.hid hF
 have hb := Blk.new w 40 #[.int .u8 k, .int .i64 s, .int .i64 f]
 clear hlt hR key hF hS hr
 generalize findS fs r = at_ at *
 have Hlt : Hid (¬ at_ < 0 → ∃ i : Nat, at_ = (i : Int) ∧ i < fs.length) := Lib.hid (fun h => Hlt.out (by first | exact h | omega))
 go_enter Tryz.func20, Tryz.ntmps20
 go_wp2_with fail
 refine Key.out.mono ?_
 rintro e w1 ⟨rfl, hE1⟩
 have E1 := Ext.trans hX hE1
 by_cases hn : at_ < 0
 ·have : R = none := by rw [← HR.out, if_pos hn]
  subst this
  go_wp2_with fail
  go_ret2
  exact ⟨_, rfl, SlR.nil _ 1, E1⟩
 ·obtain ⟨i, rfl, hi⟩ := Hlt.out (by omega)
  have : R = some fs[i].2 := by rw [← HR.out, if_neg hn, Int.toNat_natCast, List.getElem?_eq_getElem hi]; rfl
  subst this
  obtain ⟨_, b, off, rfl, hc⟩ := (HF.out.ext E1).at_ (by omega)
  obtain ⟨_, B2, d2, hc1, hB2⟩ := hc i hi
  have HB2 := Lib.hid hB2
  have hiz : (i : Int) < (fs.length : Int) := by omega
  clear hc hB2 HR Hlt Key
  generalize fs[i].2 = bb at *
  go_wp2_with fail
  go_ret2
  exact ⟨_, rfl, HB2.out, E1⟩
open Go.RowKit Go.Mv
set_option maxRecDepth 100000
def stateS (fs : List Fil) (m : Mf) : Option Sta := if m.sq = 0 then some ⟨0, 0, 0, 1, false⟩ else match bytesS fs (nameS 4 m.sq m.sf) with | none => none | some b => takeR b m.sf
theorem state_res (tmps : Array Value) (W : World) (b : Nat) (cs : Array Value) (u : Value) (h4 : tmps.getD 4 undef = .pointer (some ⟨b, 0, none⟩)) (h5 : tmps.getD 5 undef = u) (hb : Blk W b 24 cs) (hs : cs.size = 5) : (results Tryz.f22 tmps).run Tryz.prog W = .ok (.tuple #[.agg cs, u]) W := by
 have hl := hb.load (P := Tryz.prog) staUnder rfl (by rw [hs]; kernel_rfl)
 have h4' : tmps[4]?.getD undef = .pointer (some ⟨b, 0, none⟩) := by simpa using h4
 have h5' : tmps[5]?.getD undef = u := by simpa using h5
 simp [results, Tryz.results22, h4', h5', asAddr, hl]
theorem bytesS_mem3 {fs : List Fil} {r : Option (List UInt8)} {b : List UInt8} (h : bytesS fs r = some b) : ∃ f ∈ fs, f.2 = b := by
 unfold bytesS at h
 split at h
 ·cases h
 ·cases hg : fs[(findS fs r).toNat]? with
  | none => rw [hg] at h; cases h
  | some f =>
   rw [hg] at h
   obtain rfl : f.2 = b := by simpa using h
   obtain ⟨hi, rfl⟩ := List.getElem?_eq_some_iff.1 hg
   exact ⟨_, List.getElem_mem hi, rfl⟩
theorem state13_any (v vs : Value) (fs : List Fil) (m : Mf) (w : World) (hS : StW w) (hF : Fs w v fs) (hG : Sgs w vs m.segs) (hl : fs.length ≤ 4000000) (hbl : ∀ f ∈ fs, f.2.length ≤ 2000000) :
  Calls Tryz.prog 22 #[v, .agg #[.int .i64 m.next, .int .i64 m.term, .int .i64 m.vote, .int .i64 m.sq, .int .i64 m.sf, vs]] w (RStP w (stateS fs m)) := by
 obtain ⟨A, c, rfl, _, _⟩ := Fs.open_ hF
 obtain ⟨B, d, rfl, _, _⟩ := hG.open_
 obtain ⟨x1, hx1⟩ : ∃ x : Array Value, #[.int .i64 m.next, .int .i64 m.term, .int .i64 m.vote, .int .i64 m.sq, .int .i64 m.sf, .slice B m.segs.length d] = x := ⟨_, rfl⟩
 obtain ⟨x2, hx2⟩ : ∃ x : Array Value, #[.int .i64 0, .int .i64 0, .int .i64 0, .int .i64 0, .bool false] = x := ⟨_, rfl⟩
 have hb0 := Blk.new w 32 x1
 have hb1 := hb0.alloc (.cells x2 24)
 have hb2 := Blk.new (w.alloc (.cells x1 32)) 24 x2
 rw [World.size_alloc] at hb2
 have hX : Ext w ((w.alloc (.cells x1 32)).alloc (.cells x2 24)) := Ext.alloc (Ext.alloc (Ext.refl _) _) _
 subst hx1 hx2
 have key := bytes13_any _ fs 4 m.sq m.sf _ (hS.ext hX) (hF.ext hX) hl
 obtain ⟨R, hR⟩ : ∃ R, stateS fs m = R := ⟨_, rfl⟩
 rw [hR]
 unfold stateS at hR
 have hmem : ∀ b, bytesS fs (nameS 4 m.sq m.sf) = some b → b.length ≤ 2000000 := fun b h => by
  obtain ⟨f, hf, rfl⟩ := bytesS_mem3 h; exact hbl f hf
 obtain ⟨rb, hrb⟩ : ∃ r, bytesS fs (nameS 4 m.sq m.sf) = r := ⟨_, rfl⟩
 rw [hrb] at key hR hmem
 obtain ⟨m0, m1, m2, m3, m4, m5⟩ := blk6 hb1
 have Hm := Lib.hid hb1
 have Hr := Lib.hid hb2
 have HX := Lib.hid hX
 have Key := Lib.hid key
 have Hmem := Lib.hid hmem
 clear hb0 hb1 hX key hF hS hG hbl hmem hrb
 go_enter Tryz.func22, Tryz.ntmps22
 by_cases hq : m.sq = 0
 ·rw [if_pos hq] at hR
  subst hR
  have hqb : (m.sq == 0) = true := by simpa using hq
  have hmm := Lib.hid hq
  clear hq Key
  go_wp2_with fail
  refine (First6_any _).mono ?_
  rintro e w1 ⟨rfl, hE1⟩
  have Hr1 := Lib.hid (hb2.ext hE1)
  have HE1 := Lib.hid (Ext.trans HX.out hE1)
  obtain ⟨f0, f1, f2, f3, f4⟩ := blk5f Hr1.out
  obtain ⟨g0, g1, g2, g3, g4⟩ := blk5 Hr1.out
  clear hb2 m0 m1 m2 m3 m4 m5
  go_wp2_with fail
  refine bodyPost_ret (state_res _ _ _ _ _ rfl rfl (blk_set5 Hr1.out _ _ _ _ _) rfl) rfl ?_
  exact ⟨rfl, ext_set5 HE1.out (by omega) _ _ _ _ _⟩
 ·rw [if_neg hq] at hR
  have hqb : (m.sq == 0) = false := by simpa using hq
  have HR := Lib.hid hR
  have Hq := Lib.hid hq
  clear hR hb2 hq
  go_wp2_with fail
  refine Key.out.mono ?_
  rintro e w1 ⟨v1, rfl, hB1, hE1⟩
  have Hr1 := Lib.hid (Hr.out.ext hE1)
  have Hm1 := Lib.hid (Hm.out.ext hE1)
  have HE1 := Lib.hid (Ext.trans HX.out hE1)
  obtain ⟨f0, f1, f2, f3, f4⟩ := blk5f Hr1.out
  obtain ⟨g0, g1, g2, g3, g4⟩ := blk5 Hr1.out
  obtain ⟨p0, p1, p2, p3, p4, p5⟩ := blk6 Hm1.out
  clear m0 m1 m2 m3 m4 m5 hE1
  cases rb with
  | none =>
   obtain rfl : none = R := HR.out
   dsimp only [Option.isSome]
   go_wp2_with fail
   refine bodyPost_ret (state_res _ _ _ _ _ rfl rfl (blk_set5 Hr1.out _ _ _ _ _) rfl) rfl ?_
   exact ⟨rfl, ext_set5 HE1.out (by omega) _ _ _ _ _⟩
  | some b =>
   have hbl := Hmem.out b rfl
   dsimp only [Option.isSome, Option.getD] at hB1 ⊢
   have key2 := RTake_any v1 b m.sf w1 hB1 hbl
   have HR2 : Hid (takeR b m.sf = R) := HR
   obtain ⟨r, hr⟩ : ∃ r, takeR b m.sf = r := ⟨_, rfl⟩
   rw [hr] at key2 HR2
   obtain rfl : r = R := HR2.out
   have Key2 := Lib.hid key2
   clear key2 hr HR hB1 HR2
   go_wp2_with fail
   refine Key2.out.mono ?_
   rintro e w2 ⟨h2, hE2⟩
   have Hr2 := Lib.hid (Hr1.out.ext hE2)
   have HE2 := Lib.hid (Ext.trans HE1.out hE2)
   clear f0 f1 f2 f3 f4 g0 g1 g2 g3 g4 p0 p1 p2 p3 p4 p5
   cases r with
   | none =>
    obtain rfl := h2
    have Hsb := Blk.new w2 24 #[.int .i64 0, .int .i64 0, .int .i64 0, .int .i64 0, .bool false]
    have hb3 := Hr2.out.alloc (.cells #[.int .i64 0, .int .i64 0, .int .i64 0, .int .i64 0, .bool false] 24)
    obtain ⟨f0, f1, f2, f3, f4⟩ := blk5f hb3
    obtain ⟨g0, g1, g2, g3, g4⟩ := blk5 hb3
    obtain ⟨p0, p1, p2, p3, p4⟩ := blk5 Hsb
    go_wp2_with fail
    refine bodyPost_ret (state_res _ _ _ _ _ rfl rfl (blk_set5 hb3 _ _ _ _ _) rfl) rfl ?_
    exact ⟨rfl, ext_set5 (Ext.alloc HE2.out _) (by omega) _ _ _ _ _⟩
   | some s =>
    obtain rfl := h2
    have Hsb := Blk.new w2 24 #[.int .i64 s.idx, .int .i64 s.term, .int .i64 s.sum, .int .i64 s.lvl, .bool s.fin]
    have hb3 := Hr2.out.alloc (.cells #[.int .i64 s.idx, .int .i64 s.term, .int .i64 s.sum, .int .i64 s.lvl, .bool s.fin] 24)
    obtain ⟨f0, f1, f2, f3, f4⟩ := blk5f hb3
    obtain ⟨g0, g1, g2, g3, g4⟩ := blk5 hb3
    obtain ⟨p0, p1, p2, p3, p4⟩ := blk5 Hsb
    go_wp2_with fail
    refine bodyPost_ret (state_res _ _ _ _ _ rfl rfl (blk_set5 hb3 _ _ _ _ _) rfl) rfl ?_
    exact ⟨rfl, ext_set5 (Ext.alloc HE2.out _) (by omega) _ _ _ _ _⟩
open Go.RowKit Go.Mv
set_option maxRecDepth 100000
def cntBad (n : Nat) (count : Int) : Bool := (decide (count = -1) && (decide (n < 1) || decide (4 < n))) || (decide (count ≠ -1) && decide ((n : Int) ≠ count))
def entS13 (fs : List Fil) (s : Sg4) : Option (List Ent) := match bytesS fs (nameS 3 s.seq s.fmt) with
 | none => none
 | some b => if (scanE rT b s.fmt).err ≠ 0 then none else if (scanE rT b s.fmt).first ≠ s.first then none else if cntBad (scanE rT b s.fmt).log.length s.count = true then none else some (scanE rT b s.fmt).log
def EntP (w : World) (r : Option (List Ent)) (e : Ending) (w' : World) : Prop := ∃ v, e = .returned (.tuple #[v, .int .i64 (if r.isSome then 0 else 130)]) ∧ OwnE w' w.heap.size v (r.getD []) ∧ Ext w w'
theorem bytesS_mem {fs : List Fil} {r : Option (List UInt8)} {b : List UInt8} (h : bytesS fs r = some b) : ∃ f ∈ fs, f.2 = b := by
 unfold bytesS at h
 split at h
 ·cases h
 ·cases hg : fs[(findS fs r).toNat]? with
  | none => rw [hg] at h; cases h
  | some f =>
   rw [hg] at h
   obtain rfl : f.2 = b := by simpa using h
   obtain ⟨hi, rfl⟩ := List.getElem?_eq_some_iff.1 hg
   exact ⟨_, List.getElem_mem hi, rfl⟩
theorem Entries13_any (v : Value) (fs : List Fil) (s : Sg4) (w : World) (hS : StW w) (hF : Fs w v fs) (hl : fs.length ≤ 4000000) (hbl : ∀ f ∈ fs, f.2.length ≤ 2000000) : Calls Tryz.prog 41 #[v, .agg #[.int .i64 s.seq, .int .i64 s.fmt, .int .i64 s.first, .int .i64 s.count]] w (EntP w (entS13 fs s)) := by
 obtain ⟨A, c, rfl, h1, h2⟩ := Fs.open_ hF
 have hX : Ext w (w.alloc (.cells #[.int .i64 s.seq, .int .i64 s.fmt, .int .i64 s.first, .int .i64 s.count] 71)) := Ext.alloc (Ext.refl _) _
 have hb0 := Blk.new w 71 #[.int .i64 s.seq, .int .i64 s.fmt, .int .i64 s.first, .int .i64 s.count]
 have key := bytes13_any _ fs 3 s.seq s.fmt _ (hS.ext hX) (hF.ext hX) hl
 obtain ⟨R, hR⟩ : ∃ R, entS13 fs s = R := ⟨_, rfl⟩
 rw [hR]
 unfold entS13 at hR
 have hmem : ∀ b, bytesS fs (nameS 3 s.seq s.fmt) = some b → b.length ≤ 2000000 := fun b h => by
  obtain ⟨f, hf, rfl⟩ := bytesS_mem h; exact hbl f hf
 obtain ⟨rb, hrb⟩ : ∃ r, bytesS fs (nameS 3 s.seq s.fmt) = r := ⟨_, rfl⟩
 rw [hrb] at key hR hmem
 have HR := Lib.hid hR
 have Key := Lib.hid key
 obtain ⟨m0, m1, m2, m3⟩ := blk4c hb0
 clear hR key hF hS hrb hbl
 go_enter Tryz.func41, Tryz.ntmps41
 go_wp2_with fail
 refine Key.out.mono ?_
 rintro e w1 ⟨v1, rfl, hB1, hE1⟩
 have E1 := Ext.trans hX hE1
 have hb1 := hb0.ext hE1
 obtain ⟨p0, p1, p2, p3⟩ := blk4c hb1
 have Hb1 := Lib.hid hb1
 have HE1 := Lib.hid E1
 clear m0 m1 m2 m3 hb0 hb1 hX hE1 E1
 cases rb with
 | none =>
  obtain rfl : none = R := HR.out
  dsimp only [Option.isSome]
  go_wp2_with fail
  go_ret2
  exact ⟨_, rfl, World.ownsRow_nil _ _ _ _, HE1.out⟩
 | some b =>
  have hbl := hmem b rfl
  dsimp only [Option.isSome, Option.getD] at hB1 ⊢
  have key2 := refScan10_any v1 b s.fmt w1 hB1 hbl
  have HR2 : Hid ((if (scanE rT b s.fmt).err ≠ 0 then none else if (scanE rT b s.fmt).first ≠ s.first then none else if cntBad (scanE rT b s.fmt).log.length s.count = true then none else some (scanE rT b s.fmt).log) = R) := HR
  obtain ⟨r, hr⟩ : ∃ r, scanE rT b s.fmt = r := ⟨_, rfl⟩
  rw [hr] at key2 HR2
  have Key2 := Lib.hid key2
  clear key2 hr hmem HR hB1
  go_wp2_with fail
  refine Key2.out.mono ?_
  rintro e w2 ⟨vl, rfl, ho2, hE2⟩
  generalize ((r.first : Nat) : Int) = rf at *
  have hes : Es w2 vl r.log := SlR.of_own ho2
  obtain ⟨Al, cl, rfl, _, _⟩ := SlR.open_ hes
  have Hes := Lib.hid ho2
  have hb2 := Hb1.out.ext hE2
  have hX3 : Ext w2 (w2.alloc (.cells #[.int .i64 rf, .slice Al r.log.length cl, .int .i64 r.used] 123)) := Ext.alloc (Ext.refl _) _
  obtain ⟨q0, q1, q2, q3⟩ := blk4c (hb2.ext hX3)
  have HE3 := Lib.hid (Ext.trans HE1.out (Ext.trans hE2 hX3))
  have HX3 := Lib.hid hX3
  have hsc := Blk.new w2 123 #[.int .i64 rf, .slice Al r.log.length cl, .int .i64 r.used]
  obtain ⟨u0, u1, u2, _, _, _⟩ := blk3 hsc
  clear p0 p1 p2 p3 hes ho2 hb2 hX3 hsc hE2
  by_cases he : r.err = 0
  case neg =>
   obtain rfl : none = R := by rw [← HR2.out, if_pos he]
   have heb : (r.err != 0) = true := by simpa using he
   go_wp2_with fail
   go_ret2
   exact ⟨_, rfl, World.ownsRow_nil _ _ _ _, HE3.out⟩
  have heb : (r.err != 0) = false := by simpa using he
  by_cases hf : rf = s.first
  case neg =>
   obtain rfl : none = R := by rw [← HR2.out, if_neg (fun h => h he), if_pos hf]
   go_wp2_with fail
   go_ret2
   exact ⟨_, rfl, World.ownsRow_nil _ _ _ _, HE3.out⟩
  have HR3 : Hid ((if cntBad r.log.length s.count = true then none else some r.log) = R) := Lib.hid (by have h := HR2.out; rw [if_neg (fun h => h he), if_neg (fun h => h hf)] at h; exact h)
  clear HR2
  subst hf
  by_cases c1 : s.count = -1
  ·have c1b : (s.count == -1) = true := by simpa using c1
   have c1c : (s.count != -1) = false := by simpa using c1
   by_cases n1 : r.log.length < 1
   ·have n1z : (r.log.length : Int) < 1 := by omega
    obtain rfl : none = R := by rw [← HR3.out, if_pos (by unfold cntBad; simp [c1]; left; simpa using n1)]
    clear HR3
    go_wp2_with fail
    go_ret2
    exact ⟨_, rfl, World.ownsRow_nil _ _ _ _, HE3.out⟩
   ·have n1z : ¬ (r.log.length : Int) < 1 := by omega
    by_cases n4 : 4 < r.log.length
    ·have n4z : (4 : Int) < (r.log.length : Int) := by omega
     obtain rfl : none = R := by rw [← HR3.out, if_pos (by unfold cntBad; simp [c1, n4])]
     clear HR3
     go_wp2_with fail
     go_ret2
     exact ⟨_, rfl, World.ownsRow_nil _ _ _ _, HE3.out⟩
    ·have n4z : ¬ (4 : Int) < (r.log.length : Int) := by omega
     obtain rfl : some r.log = R := by rw [← HR3.out, if_neg (by unfold cntBad; rw [decide_eq_false n1, decide_eq_false n4]; simp [c1])]
     clear HR3
     go_wp2_with fail
     go_ret2
     exact ⟨_, rfl, own_base (own_ext Hes.out HX3.out) HE1.out.size, HE3.out⟩
  ·have c1b : (s.count == -1) = false := by simpa using c1
   have c1c : (s.count != -1) = true := by simpa using c1
   by_cases ce : (r.log.length : Int) = s.count
   ·have ceb : ((r.log.length : Int) != s.count) = false := by simpa using ce
    obtain rfl : some r.log = R := by rw [← HR3.out, if_neg (by unfold cntBad; simp [c1, ce]; try omega)]
    clear HR3
    go_wp2_with fail
    go_ret2
    exact ⟨_, rfl, own_base (own_ext Hes.out HX3.out) HE1.out.size, HE3.out⟩
   ·have ceb : ((r.log.length : Int) != s.count) = true := by simpa using ce
    obtain rfl : none = R := by rw [← HR3.out, if_pos (by unfold cntBad; simp [c1, ce])]
    clear HR3
    go_wp2_with fail
    go_ret2
    exact ⟨_, rfl, World.ownsRow_nil _ _ _ _, HE3.out⟩
open Go.RowKit Go.Mv
set_option maxRecDepth 100000
theorem entS13_len {fs : List Fil} {s : Sg4} {x : List Ent} (h : entS13 fs s = some x) : (s.count = -1 → 1 ≤ x.length ∧ x.length ≤ 4) ∧ (s.count ≠ -1 → (x.length : Int) = s.count) := by
 unfold entS13 at h
 cases hb : bytesS fs (nameS 3 s.seq s.fmt) with
 | none => rw [hb] at h; cases h
 | some b =>
  rw [hb] at h
  dsimp only at h
  split at h
  ·cases h
  ·split at h
   ·cases h
   ·split at h
    ·cases h
    ·rename_i hc
     cases h
     unfold cntBad at hc
     simp only [Bool.or_eq_true, Bool.and_eq_true, decide_eq_true_eq] at hc
     constructor
     ·intro h1; omega
     ·intro h1; omega
def logGo (fs : List Fil) (index : Int) : List Sg4 → Int → List Ent → Option (Int × List Ent)
 | [], last, out => some (last, out)
 | s :: l, last, out => match entS13 fs s with
  | none => none
  | some x => logGo fs index l (if x.length = 0 then last else s.first + x.length - 1) (out ++ x.drop (index + 1 - s.first).toNat)
def logS (fs : List Fil) (m : Mf) (index : Int) : List Ent × Bool := match logGo fs index m.segs (index + 1) [] with
 | none => ([], false)
 | some (last, out) => (out, decide (index < last) && (match m.segs with | [] => true | s :: _ => decide (s.first ≤ index + 1)))
def LogP (w : World) (r : List Ent × Bool) (e : Ending) (w' : World) : Prop := ∃ v, e = .returned (.tuple #[v, .bool r.2]) ∧ OwnE w' w.heap.size v r.1 ∧ Ext w w'
theorem drop_step {x : List Ent} {first index : Int} {k : Nat} (hk : k < x.length) : (x.take (k + 1)).drop (index + 1 - first).toNat = (x.take k).drop (index + 1 - first).toNat ++ (if index < first + k then [x[k]] else []) := by
 rw [List.take_succ_eq_append_getElem hk]
 by_cases h : index < first + k
 ·rw [if_pos h, List.drop_append_of_le_length (by rw [List.length_take]; omega)]
 ·rw [if_neg h, List.append_nil, List.drop_of_length_le (by simp; omega), List.drop_of_length_le (by rw [List.length_take]; omega)]
open Go.RowKit Go.Mv
set_option maxRecDepth 100000
theorem log13_any (v vs : Value) (fs : List Fil) (m : Mf) (index : Int) (w : World) (hS : StW w) (hF : Fs w v fs) (hG : Sgs w vs m.segs) (hl : fs.length ≤ 4000000) (hbl : ∀ f ∈ fs, f.2.length ≤ 2000000)
  (hseg : ∀ s ∈ m.segs, 1 ≤ s.first ∧ s.first ≤ 1073741820 ∧ -1 ≤ s.count ∧ s.count ≤ 4) (hix : 0 ≤ index ∧ index ≤ 1073741824) (hn : m.segs.length ≤ 60) :
  Calls Tryz.prog 23 #[v, .agg #[.int .i64 m.next, .int .i64 m.term, .int .i64 m.vote, .int .i64 m.sq, .int .i64 m.sf, vs], .int .i64 index] w (LogP w (logS fs m index)) := by
 obtain ⟨A, c, rfl, _, _⟩ := Fs.open_ hF
 obtain ⟨B, d, rfl, _, _⟩ := hG.open_
 have hb0 := Blk.new w 32 #[.int .i64 m.next, .int .i64 m.term, .int .i64 m.vote, .int .i64 m.sq, .int .i64 m.sf, .slice B m.segs.length d]
 have hX : Ext w (w.alloc (.cells #[.int .i64 m.next, .int .i64 m.term, .int .i64 m.vote, .int .i64 m.sq, .int .i64 m.sf, .slice B m.segs.length d] 32)) := Ext.alloc (Ext.refl _) _
 have hsz : (w.alloc (.cells #[.int .i64 m.next, .int .i64 m.term, .int .i64 m.vote, .int .i64 m.sq, .int .i64 m.sf, .slice B m.segs.length d] 32)).heap.size = w.heap.size + 1 := by simp
 have hw1 : IntKind.i64.wrap (index + 1) = index + 1 := by rw [IntKind.wrap_i64]; omega
 obtain ⟨R, hR⟩ : ∃ R, logS fs m index = R := ⟨_, rfl⟩
 rw [hR]
 unfold logS at hR
 have HR := Lib.hid hR
 have HX := Lib.hid hX
 have Hb := Lib.hid hb0
 have HF := Lib.hid hF
 have HG := Lib.hid hG
 have HS := Lib.hid hS
 have Hbl := Lib.hid hbl
 have Hseg := Lib.hid hseg
 have Hix := Lib.hid hix
 obtain ⟨hix0, hix1⟩ := hix
 clear hR hX hb0 hF hG hS hbl hseg
 go_enter Tryz.func23, Tryz.ntmps23
 go_wp2_with fail
 go_loopw [8, 9, 10] (fun vo vl x W => ∃ (j : Nat) (Ao : Option Addr) (co : Nat) (out : List Ent) (last : Int), j ≤ m.segs.length ∧ x = .int .i64 j ∧ vo = .slice Ao out.length co ∧ vl = .int .i64 last ∧ Hid (logGo fs index m.segs (index + 1) [] = logGo fs index (m.segs.drop j) last out) ∧ Hid (out.length ≤ 4 * j) ∧ Hid (OwnE W (w.heap.size + 1) (.slice Ao out.length co) out) ∧ Ext (w.alloc (.cells #[.int .i64 m.next, .int .i64 m.term, .int .i64 m.vote, .int .i64 m.sq, .int .i64 m.sf, .slice B m.segs.length d] 32)) W) (fun _ _ x _ => m.segs.length - (intOf x).toNat)
 case atStart => exact ⟨0, none, 0, [], index + 1, by omega, rfl, rfl, rfl, Lib.hid rfl, Lib.hid (by simp), Lib.hid (World.ownsRow_nil _ _ _ _), Ext.refl _⟩
 case round =>
  rename World => wo
  obtain ⟨j, Ao, co, out, last, hj, rfl, rfl, rfl, HP, HOl, HO, hEr⟩ := hrel
  have HEr := Lib.hid hEr
  have HEw := Lib.hid (Ext.trans HX.out hEr)
  obtain ⟨_, _, _, _, _, M5⟩ := blk6 (Hb.out.ext hEr)
  by_cases hlt : j < m.segs.length
  ·obtain ⟨_, b, off, rfl, hcell⟩ := (HG.out.ext HEw.out).at_ (by omega)
   obtain ⟨s0, s1, s2, s3⟩ := hcell j hlt
   have hP := HP.out
   rw [List.drop_eq_getElem_cons hlt, logGo] at hP
   obtain ⟨k1, k2, k3, k4⟩ := Hseg.out _ (List.getElem_mem hlt)
   obtain ⟨s, hs⟩ : ∃ s, m.segs[j] = s := ⟨_, rfl⟩
   have t2 : w.cell? ⟨b, off + j * 4 + 2, none⟩ = some (.int .i64 s.first) := by
    obtain ⟨_, b1, off1, hb1, hc1⟩ := HG.out.at_ (by omega)
    cases hb1
    have := (hc1 j hlt).2.2.1
    rwa [hs] at this
   rw [hs] at s0 s1 s2 s3 hP k1 k2 k3 k4
   have key := Entries13_any (.slice A fs.length c) fs s wo (HS.out.ext HEw.out) (HF.out.ext HEw.out) hl Hbl.out
   obtain ⟨rx, hrx⟩ : ∃ r, entS13 fs s = r := ⟨_, rfl⟩
   rw [hrx] at key hP
   have hln := fun x (h : rx = some x) => entS13_len (hrx.trans h)
   have Hln := Lib.hid hln
   have Key := Lib.hid key
   have HP2 := Lib.hid hP
   have hjz : (j : Int) < (m.segs.length : Int) := by omega
   clear hcell hP key hrx hln HP hEr hs
   go_wp2_with fail
   refine Key.out.mono ?_
   rintro e w2 ⟨vx, rfl, hEs, hE2⟩
   have HE2 := Lib.hid hE2
   have HO2 := Lib.hid (own_ext HO.out hE2)
   have HEs := Lib.hid hEs
   have hM2 := hE2.cell M5
   obtain ⟨Ax, cx, rfl, _, _⟩ := SlR.open_ (SlR.of_own hEs)
   cases rx with
   | none =>
    have hR := HR.out
    rw [HP2.out] at hR
    obtain rfl : (([], false) : List Ent × Bool) = R := hR
    dsimp only [Option.isSome]
    go_wp2_with fail
    go_ret2
    exact ⟨_, rfl, World.ownsRow_nil _ _ _ _, Ext.trans HEw.out HE2.out⟩
   | some x =>
    obtain ⟨l1, l2⟩ := Hln.out x rfl
    dsimp only [Option.isSome, Option.getD] at HEs ⊢
    have hxl : x.length ≤ 4 := by
     by_cases h : s.count = -1
     ·exact (l1 h).2
     ·have := l2 h; omega
    have HP3 : Hid (logGo fs index m.segs (index + 1) [] = logGo fs index (m.segs.drop (j + 1)) (if x.length = 0 then last else s.first + x.length - 1) (out ++ x.drop (index + 1 - s.first).toNat)) := Lib.hid HP2.out
    have hsep : ∀ q, (Value.slice Ax x.length cx).ownBlock = some q → (Value.slice Ao out.length co).ownBlock ≠ some q := by
     intro q hq1 hq2
     rcases hEs.2 with ⟨h, _⟩ | ⟨g, cap, cur, h, hb, _⟩
     ·rw [show (Value.slice Ax x.length cx) = _ from h] at hq1; cases hq1
     ·rw [show (Value.slice Ax x.length cx) = _ from h] at hq1
      obtain rfl : g = q := by simpa [Value.ownBlock] using hq1
      rcases HO.out.2 with ⟨h2, _⟩ | ⟨g2, cap2, cur2, h2, _, hg2, _⟩
      ·rw [h2] at hq2; cases hq2
      ·rw [h2] at hq2
       obtain rfl : g2 = g := by simpa [Value.ownBlock] using hq2
       have := (Array.getElem?_eq_some_iff.1 hg2).1
       omega
    have Hsep := Lib.hid hsep
    have Hl12 := Lib.hid (And.intro k1 (And.intro k2 hxl))
    have HEs : Hid (OwnE w2 wo.heap.size (.slice Ax x.length cx) x) := Lib.hid hEs
    clear hsep HP2 Hln l1 l2 k3 k4 k1 k2 hEs s0 s1 s2 s3 M5 hE2
    go_wp2_with fail
    go_loopw [8, 9, 13] (fun vo vl y W => ∃ (k : Nat) (A2 : Option Addr) (c2 : Nat) (out2 : List Ent) (last2 : Int), k ≤ x.length ∧ y = .int .i64 k ∧ vo = .slice A2 out2.length c2 ∧ vl = .int .i64 last2 ∧ Hid (out2 = out ++ (x.take k).drop (index + 1 - s.first).toNat) ∧ Hid (last2 = if k = 0 then last else s.first + k - 1) ∧ Hid (OwnE W (w.heap.size + 1) (.slice A2 out2.length c2) out2) ∧ Hid (OwnE W wo.heap.size (.slice Ax x.length cx) x) ∧ Hid (∀ q, (Value.slice Ax x.length cx).ownBlock = some q → (Value.slice A2 out2.length c2).ownBlock ≠ some q) ∧ Ext (w.alloc (.cells #[.int .i64 m.next, .int .i64 m.term, .int .i64 m.vote, .int .i64 m.sq, .int .i64 m.sf, .slice (some ⟨b, off, none⟩) m.segs.length d] 32)) W) (fun _ _ y _ => x.length - (intOf y).toNat)
    case atStart => exact ⟨0, Ao, co, out, last, by omega, rfl, rfl, rfl, Lib.hid (by simp), Lib.hid rfl, HO2, HEs, Hsep, Ext.trans HEr.out HE2.out⟩
    case round =>
     obtain ⟨k, A2, c2, out2, last2, hk, rfl, rfl, rfl, Hout2, Hlast2, HOw, HXw, Hsp, hE3⟩ := hrel
     have HE3 := Lib.hid hE3
     have HXw2 := HXw
     have HEw3 := Lib.hid (Ext.trans HX.out hE3)
     obtain ⟨_, _, _, _, _, N5⟩ := blk6 (Hb.out.ext hE3)
     have T2 := HEw3.out.cell t2
     obtain ⟨q1, q2, q3⟩ := Hl12.out
     have hwk : IntKind.i64.wrap (s.first + (k : Int)) = s.first + (k : Int) := by rw [IntKind.wrap_i64]; omega
     have hwk1 : IntKind.i64.wrap ((k : Int) + 1) = ((k + 1 : Nat) : Int) := by rw [IntKind.wrap_i64]; omega
     by_cases hkl : k < x.length
     ·obtain ⟨_, bx, ox, rfl, hcx⟩ := Es.at_ (SlR.of_own HXw2.out) (by omega)
      clear HXw
      obtain ⟨d0, d1, d2⟩ := hcx k hkl
      have hds := drop_step (first := s.first) (index := index) hkl
      have hkz : (k : Int) < (x.length : Int) := by omega
      obtain ⟨e, he⟩ : ∃ e, x[k] = e := ⟨_, rfl⟩
      rw [he] at d0 d1 d2 hds
      have Hds := Lib.hid hds
      have Hq := Lib.hid q3
      clear he hds hcx t2 hE3 q1 q2 q3
      by_cases hgt : index < s.first + (k : Int)
      ·have hes := es_one wr e
       have hE7 : Ext wr (wr.alloc (.cells #[.int .i64 e.t, .int .i64 e.k, .int .i64 e.v] 100)) := Ext.alloc (Ext.refl _) _
       have hO7 := OwnE.ext HOw.out hE7
       have hX7 := OwnE.ext HXw2.out hE7
       obtain ⟨r1, r2⟩ : out2.length ≤ 244 ∧ w.heap.size + 1 ≤ wr.heap.size := by
        refine ⟨?_, ?_⟩
        ·have h1 := congrArg List.length Hout2.out
         rw [List.length_append, List.length_drop, List.length_take] at h1
         have h2 := HOl.out
         have h3 := Hq.out
         omega
        ·have h4 := HE3.out.size
         simp at h4
         omega
       have Hr1 := Lib.hid r1
       have Hr2 := Lib.hid r2
       clear r1 r2
       go_wp2_with (at_builtin; go_loud (refine wpList_app_kb rfl (.tmp 52) (.tmp 57) rfl (w.heap.size + 1) _ out2 rfl hO7 _ [e] rfl hes (by simp) (by show out2.length + 1 ≤ _; have := Hr1.out; omega) (by rw [World.size_alloc]; have := Hr2.out; omega) ?_); intro A8 c8 w8 ho8 hG8 hgr8 hbk8; refine Hid.out ?_)
       refine Lib.hid ?_
       have hgrow : Ext (w.alloc (.cells #[.int .i64 m.next, .int .i64 m.term, .int .i64 m.vote, .int .i64 m.sq, .int .i64 m.sf, .slice (some ⟨b, off, none⟩) m.segs.length d] 32)) w8 := hG8 _ (Ext.trans HE3.out hE7) (by rw [World.size_alloc]; omega)
       have HE8 := Lib.hid hgrow
       simp only [List.length_cons, List.length_nil, Nat.zero_add] at ho8 hbk8 ⊢
       clear hO7 hes hG8
       go_wp2_with fail
       go_roundw
       case rel =>
        have hbase := HXw2.out
        refine ⟨k + 1, A8, c8, out2 ++ [e], s.first + k, by omega, by go_num, by simp, rfl, ?_, ?_, ?_, ?_, ?_, hgrow⟩
        ·refine Lib.hid ?_
         rw [Hds.out, if_pos hgt, ← List.append_assoc, ← Hout2.out]
        ·refine Lib.hid ?_
         rw [if_neg (by omega)]; omega
        ·refine Lib.hid ?_
         rw [show (out2 ++ [e]).length = out2.length + 1 from by simp]; exact ho8
        ·refine Lib.hid ?_
         have hx7 := OwnE.ext HXw2.out (Ext.alloc (Ext.refl wr) (.cells #[.int .i64 e.t, .int .i64 e.k, .int .i64 e.v] 100))
         refine hx7.kept hgr8 (.inr fun hh => ?_)
         exact Hsp.out _ rfl hh.symm
        ·refine Lib.hid fun q hq1 hq2 => ?_
         rw [show (out2 ++ [e]).length = out2.length + 1 from by simp] at hq2
         rcases hbk8 with hh | hh
         ·rw [hh] at hq2; exact Hsp.out q hq1 hq2
         ·rw [hh, World.size_alloc] at hq2
          have := (HXw2.out.lt q hq1).2
          have : wr.heap.size + 1 = q := by simpa using hq2
          omega
       case measure => simp [intOf]; omega
      ·go_wp2_with fail
       go_roundw
       case rel =>
        refine ⟨k + 1, A2, c2, out2, s.first + k, by omega, by go_num, rfl, rfl, ?_, ?_, HOw, HXw2, Hsp, HE3.out⟩
        ·refine Lib.hid ?_
         rw [Hds.out, if_neg hgt, List.append_nil]; exact Hout2.out
        ·refine Lib.hid ?_
         rw [if_neg (by omega)]; omega
       case measure => simp [intOf]; omega
     ·obtain rfl : k = x.length := by omega
      go_wp2_with fail
      go_roundw
      case rel =>
       have ho := Hout2.out
       rw [List.take_length] at ho
       refine ⟨j + 1, A2, c2, out2, last2, by omega, by go_num, rfl, rfl, ?_, ?_, HOw, HE3.out⟩
       ·refine Lib.hid ?_
        rw [HP3.out, ho, Hlast2.out]
       ·refine Lib.hid ?_
        have h1 := HOl.out
        rw [ho, List.length_append, List.length_drop]; omega
      case measure => simp [intOf]; omega
  ·obtain rfl : j = m.segs.length := by omega
   have hR := HR.out
   rw [HP.out, List.drop_length, logGo] at hR
   obtain rfl := hR
   have HO2 := Lib.hid (own_base HO.out (Nat.le_succ w.heap.size))
   clear HP HR HO
   have hfin : ∀ W q, Ext wo W → LogP w (out, q) (.returned (.tuple #[.slice Ao out.length co, .bool q])) W := fun W q hE => ⟨_, rfl, own_ext HO2.out hE, Ext.trans HEw.out hE⟩
   have Hfin := Lib.hid hfin
   clear hfin
   by_cases hlast : index < last
   ·have hd : decide (index < last) = true := by simp; omega
    cases hsg : m.segs with
    | nil =>
     rw [hsg] at M5
     go_wp2_with fail
     go_quiet (fail)
     go_wp2_with fail
     go_ret2
     exact Hfin.out _ true (edrewN (Ext.refl _) _)
    | cons s l =>
     have hpos : 0 < m.segs.length := by rw [hsg]; simp
     obtain ⟨_, b, off, rfl, hcell⟩ := (HG.out.ext HEw.out).at_ hpos
     obtain ⟨_, _, s2, _⟩ := hcell 0 hpos
     have e0 : m.segs[0] = s := by simp [hsg]
     rw [e0] at s2
     have e1 : ((l.length : Int) + 1 == 0) = false := by simp; omega
     clear hcell
     go_wp2_with fail
     go_quiet (fail)
     go_wp2_with fail
     go_ret2
     exact Hfin.out _ (decide (s.first ≤ index + 1)) (edrewN (Ext.refl _) _)
   ·have hd : decide (index < last) = false := by simp; omega
    go_wp2_with fail
    go_quiet (fail)
    go_wp2_with fail
    go_ret2
    exact Hfin.out _ false (edrewN (Ext.refl _) _)
open Go.RowKit Go.Mv
set_option maxRecDepth 100000
def greatS (fs : List Fil) : Bool := decide (40 < fs.length) || (fs.take 41).any (fun f => decide (900 < f.2.length ∨ 60 < f.1.length))
theorem Great_any (v : Value) (fs : List Fil) (w : World) (hF : Fs w v fs) (hl : fs.length ≤ 4000000) : Calls Tryz.prog 6 #[v] w fun e w' => e = .returned (.bool (greatS fs)) ∧ Ext w w' := by
 obtain ⟨A, c, rfl, h1, h2⟩ := Fs.open_ hF
 obtain ⟨R, hR⟩ : ∃ R, greatS fs = R := ⟨_, rfl⟩
 rw [hR]
 have HR := Lib.hid hR
 have HF := Lib.hid hF
 clear hR hF
 go_enter Tryz.func6, Tryz.ntmps6
 go_wp2_with fail
 go_loopw [3] (fun i wr => ∃ j : Nat, j ≤ fs.length ∧ j ≤ 41 ∧ i = .int .i64 j ∧ Hid (∀ q (_ : q < j) (h2 : q < fs.length), fs[q].2.length ≤ 900 ∧ fs[q].1.length ≤ 60) ∧ w = wr) (fun i _ => fs.length - (intOf i).toNat)
 case atStart => exact ⟨0, by omega, by omega, rfl, Lib.hid fun q hq => by omega, rfl⟩
 case round =>
  obtain ⟨j, hj, hj2, rfl, Hn, rfl⟩ := hrel
  by_cases hlt : j < fs.length
  ·by_cases h40 : j ≤ 40
   ·obtain ⟨_, b, off, rfl, hc⟩ := HF.out.at_ (by omega)
    obtain ⟨hc0, B2, d2, hc1, hB2⟩ := hc j hlt
    have hlz : (j : Int) < (fs.length : Int) := by omega
    have hp : (900 < fs[j].2.length ∨ 60 < fs[j].1.length) → R = true := fun h => by
     rw [← HR.out]; unfold greatS
     rw [Bool.or_eq_true]; right
     rw [List.any_eq_true]
     exact ⟨fs[j], List.mem_take_iff_getElem.2 ⟨j, by omega, rfl⟩, by simpa using h⟩
    have hq : fs[j].2.length ≤ 900 ∧ fs[j].1.length ≤ 60 → ∀ q (_ : q < j + 1) (h2 : q < fs.length), fs[q].2.length ≤ 900 ∧ fs[q].1.length ≤ 60 := fun h q h3 h2 => by
     by_cases e : q = j
     ·subst e; exact h
     ·exact Hn.out q (by omega) h2
    have Hp := Lib.hid hp
    have Hq := Lib.hid hq
    clear hc hp hq HR Hn
    generalize fs[j].2.length = n2 at *
    generalize hx : fs[j].1 = x at *
    simp only [sv] at hc0
    clear hB2
    by_cases c1 : 900 < n2
    ·have := Hp.out (.inl c1)
     subst this
     have c1z : (900 : Int) < (n2 : Int) := by omega
     go_wp2_with fail
     go_ret
     exact ⟨rfl, Ext.refl _⟩
    ·have c1z : ¬ (900 : Int) < (n2 : Int) := by omega
     by_cases c2 : 60 < x.length
     ·have := Hp.out (.inr c2)
      subst this
      have c2z : (60 : Int) < (x.length : Int) := by omega
      go_wp2_with fail
      go_ret
      exact ⟨rfl, Ext.refl _⟩
     ·have c2z : ¬ (60 : Int) < (x.length : Int) := by omega
      have Hq2 := Lib.hid (Hq.out ⟨by omega, by omega⟩)
      go_wp2_with fail
      go_roundw
      case rel => exact ⟨j + 1, by omega, by omega, by go_num, Hq2, trivial⟩
      case measure => simp [intOf]; omega
   ·have hR : R = true := by rw [← HR.out]; unfold greatS; rw [decide_eq_true (by omega)]; rfl
    subst hR
    have hlz : (j : Int) < (fs.length : Int) := by omega
    have h40z : ¬ ((j : Int) ≤ 40) := by omega
    have hgz : (40 : Int) < (fs.length : Int) := by omega
    go_wp2_with fail
    go_ret
    exact ⟨ret_bool (by simp), Ext.refl _⟩
  ·obtain rfl : j = fs.length := by omega
   have hR : R = decide ((40 : Int) < (fs.length : Int)) := by
    rw [← HR.out]; unfold greatS
    have : ((fs.take 41).any (fun f => decide (900 < f.2.length ∨ 60 < f.1.length))) = false := by
     rw [List.any_eq_false]
     intro f hf
     obtain ⟨q, hq, rfl⟩ := List.mem_take_iff_getElem.1 hf
     have := Hn.out q (by omega) (by omega)
     simp; omega
    rw [this, Bool.or_false, Bool.eq_iff_iff]; simp; omega
   subst hR
   clear HR Hn
   go_wp2_with fail
   go_ret
   exact ⟨rfl, Ext.refl _⟩
structure Tup where
 s : Sta
 log : List Ent
 term : Int
 vote : Int
def headTu (t : Tup) : Bool := t.s.ok && decide (t.s.idx ≤ 1073740824) && decide (t.log.length ≤ 200) && decide (0 ≤ t.vote) && decide (t.vote ≤ 5)
def goT : Int → List Ent → Option Int
 | c, [] => some c
 | c, e :: l => if okB e.t e.k e.v && decide (c ≤ e.t) then goT e.t l else none
def rightT (t : Tup) : Bool := headTu t && (match goT t.s.term t.log with | none => false | some x => decide (x ≤ t.term) && decide (0 ≤ t.term) && decide (t.term ≤ 1073741824))
theorem blk8 {W : World} {b : Nat} {t : TypeId} {a v u x y z p q : Value} (h : Blk W b t #[a, v, u, x, y, z, p, q]) : W.cell? ⟨b, 0, none⟩ = some a ∧ W.cell? ⟨b, 1, none⟩ = some v ∧ W.cell? ⟨b, 2, none⟩ = some u ∧ W.cell? ⟨b, 3, none⟩ = some x ∧ W.cell? ⟨b, 4, none⟩ = some y ∧ W.cell? ⟨b, 5, none⟩ = some z ∧ W.cell? ⟨b, 6, none⟩ = some p ∧ W.cell? ⟨b, 7, none⟩ = some q :=
 ⟨h.cell 0 rfl, h.cell 1 rfl, h.cell 2 rfl, h.cell 3 rfl, h.cell 4 rfl, h.cell 5 rfl, h.cell 6 rfl, h.cell 7 rfl⟩
theorem RightT_any (t : Tup) (v : Value) (w : World) (hE : Es w v t.log) : Calls Tryz.prog 24 #[.agg #[.int .i64 t.s.idx, .int .i64 t.s.term, .int .i64 t.s.sum, .int .i64 t.s.lvl, .bool t.s.fin, v, .int .i64 t.term, .int .i64 t.vote]] w fun e w' => e = .returned (.bool (rightT t)) ∧ Ext w w' := by
 obtain ⟨A, c, rfl, hc1, hc2⟩ := SlR.open_ hE
 obtain ⟨s, l, tm, vt⟩ := t
 dsimp only at *
 obtain ⟨R, hR⟩ : ∃ R, rightT ⟨s, l, tm, vt⟩ = R := ⟨_, rfl⟩
 rw [hR]
 have hb0 := Blk.new w 27 #[.int .i64 s.idx, .int .i64 s.term, .int .i64 s.sum, .int .i64 s.lvl, .bool s.fin, .slice A l.length c, .int .i64 tm, .int .i64 vt]
 have hX : Ext w (w.alloc (.cells #[.int .i64 s.idx, .int .i64 s.term, .int .i64 s.sum, .int .i64 s.lvl, .bool s.fin, .slice A l.length c, .int .i64 tm, .int .i64 vt] 27)) := Ext.alloc (Ext.refl _) _
 obtain ⟨m0, m1, m2, m3, m4, m5, m6, m7⟩ := blk8 hb0
 have HX := Lib.hid hX
 have Hb := Lib.hid hb0
 have HE := Lib.hid hE
 have hbad : headTu ⟨s, l, tm, vt⟩ = false → false = R := fun h => by rw [← hR]; unfold rightT; rw [h]; rfl
 have Hbad := Lib.hid hbad
 have HR := Lib.hid hR
 clear hX hb0 hE hbad hR
 go_enter Tryz.func24, Tryz.ntmps24
 go_wp2_with fail
 refine (Fine6_any s _).mono ?_
 rintro e w1 ⟨rfl, hE1⟩
 have HE1 := Lib.hid (Ext.trans HX.out hE1)
 have Hb1 := Lib.hid (Hb.out.ext hE1)
 obtain ⟨p0, p1, p2, p3, p4, p5, p6, p7⟩ := blk8 Hb1.out
 clear m0 m1 m2 m3 m4 m5 m6 m7 hE1
 cases h1 : s.ok with
 | false =>
  obtain rfl := Hbad.out (by unfold headTu; simp [h1])
  go_wp2_with fail
  go_ret
  exact ⟨rfl, HE1.out⟩
 | true =>
 by_cases h2 : s.idx ≤ 1073740824
 case neg =>
  obtain rfl := Hbad.out (by unfold headTu; simp [h2])
  go_wp2_with fail
  go_ret
  exact ⟨rfl, HE1.out⟩
 by_cases h3 : (l.length : Int) ≤ 200
 case neg =>
  obtain rfl := Hbad.out (by unfold headTu; simp; omega)
  go_wp2_with fail
  go_ret
  exact ⟨rfl, HE1.out⟩
 by_cases h4 : 0 ≤ vt
 case neg =>
  obtain rfl := Hbad.out (by unfold headTu; simp [h4])
  go_wp2_with fail
  go_ret
  exact ⟨rfl, HE1.out⟩
 by_cases h5 : vt ≤ 5
 case neg =>
  obtain rfl := Hbad.out (by unfold headTu; simp [h5])
  go_wp2_with fail
  go_ret
  exact ⟨rfl, HE1.out⟩
 have hhead : headTu ⟨s, l, tm, vt⟩ = true := by unfold headTu; simp [h1, h2, h4, h5]; omega
 have HR2 : Hid ((match goT s.term l with | none => false | some x => decide (x ≤ tm) && decide (0 ≤ tm) && decide (tm ≤ 1073741824)) = R) := Lib.hid (by rw [← HR.out]; unfold rightT; rw [hhead]; simp)
 clear hhead Hbad HR
 go_wp2_with fail
 go_loopw [3, 4] (fun vc x W => ∃ (j : Nat) (cur : Int), j ≤ l.length ∧ x = .int .i64 j ∧ vc = .int .i64 cur ∧ Hid (goT s.term l = goT cur (l.drop j)) ∧ Ext w1 W) (fun _ x _ => l.length - (intOf x).toNat)
 case atStart => exact ⟨0, s.term, by omega, rfl, rfl, Lib.hid rfl, Ext.refl _⟩
 case round =>
  obtain ⟨j, cur, hj, rfl, rfl, HG, hEr⟩ := hrel
  have HEr := Lib.hid hEr
  have HEw := Lib.hid (Ext.trans HE1.out hEr)
  obtain ⟨_, _, _, _, _, g5, g6, _⟩ := blk8 (Hb1.out.ext hEr)
  clear p0 p1 p2 p3 p4 p5 p6 p7 hEr
  by_cases hlt : j < l.length
  ·obtain ⟨_, b, off, rfl, hc⟩ := Es.at_ (HE.out.ext HEw.out) (by omega)
   obtain ⟨k0, k1, k2⟩ := hc j hlt
   have hG := HG.out
   rw [List.drop_eq_getElem_cons hlt, goT] at hG
   have hlz : (j : Int) < (l.length : Int) := by omega
   clear hc HG
   generalize l[j] = e at *
   have HG := Lib.hid hG
   clear hG
   go_wp2_with fail
   refine (refRight_any _ _ _ _).mono ?_
   rintro e2 w5 ⟨rfl, hE5⟩
   have hE5 : Ext wr w5 := hE5
   have HE5 := Lib.hid hE5
   have g5' := hE5.cell g5
   have k0' := hE5.cell k0
   clear g5 k0 k1 k2 g6 hE5
   cases ho : okB e.t e.k e.v with
   | false =>
    have hR : R = false := by rw [← HR2.out, HG.out, ho]; rfl
    subst hR
    go_wp2_with fail
    go_ret
    exact ⟨rfl, Ext.trans HEw.out HE5.out⟩
   | true =>
    by_cases hcur : cur ≤ e.t
    ·have hG2 := HG.out
     rw [if_pos (by simp [ho, hcur])] at hG2
     have HG2 := Lib.hid hG2
     have hnl : ¬ (e.t < cur) := by omega
     clear hG2 HG
     go_wp2_with fail
     go_roundw
     case rel => exact ⟨j + 1, e.t, by omega, by go_num, rfl, HG2, Ext.trans HEr.out HE5.out⟩
     case measure => simp [intOf]; omega
    ·have hR : R = false := by rw [← HR2.out, HG.out, if_neg (by simp [hcur])]
     subst hR
     have hnl : e.t < cur := by omega
     go_wp2_with fail
     go_ret
     exact ⟨rfl, Ext.trans HEw.out HE5.out⟩
  ·obtain rfl : j = l.length := by omega
   have hR : R = (decide (cur ≤ tm) && decide (0 ≤ tm) && decide (tm ≤ 1073741824)) := by
    rw [← HR2.out, HG.out, List.drop_length]; rfl
   subst hR
   clear HR2 HG
   go_wp2_with fail
   all_goals go_ret
   all_goals (refine ⟨ret_bool ?_, HEw.out⟩; rw [Bool.eq_iff_iff]; simp; try omega)
end Go.Proofs.YtmecffckghkahaaGreatDoor
