/- Merged: SnapT SnapH Rcrc -/
import Derived.Test.YtmecffckghkahaaGreatDoorShadowSays17
set_option linter.all false
set_option maxHeartbeats 8000000
namespace Go.Proofs.YtmecffckghkahaaGreatDoor
open Go.RowKit Go.Mv
set_option maxRecDepth 100000
def putR (s : Sta) (f : Int) : Option (List UInt8) := if s.ok = true then (if f = 1 then some (put1 s) else if f = 2 then some (put2 s) else none) else none
def PutQ (w : World) (r : Option (List UInt8)) (e : Ending) (w' : World) : Prop := match r with | some l => PutP w l e w' | none => ShortBad w e w'
theorem Put_any (s : Sta) (f : Int) (w : World) (hT : TabW rT w) : Calls Tryz.prog 67 #[.agg #[.int .i64 s.idx, .int .i64 s.term, .int .i64 s.sum, .int .i64 s.lvl, .bool s.fin], .int .i64 f] w (PutQ w (putR s f)) := by
 unfold putR PutQ
 by_cases h : s.ok = true
 ·rw [if_pos h]
  by_cases h1 : f = 1
  ·subst h1; exact Put_ok1 s w h hT
  ·rw [if_neg h1]
   by_cases h2 : f = 2
   ·subst h2; exact Put_ok2 s w h hT
   ·rw [if_neg h2]; exact Put_bad s f w (by omega)
 ·rw [if_neg h]; exact Put_bad s f w (.inl (by simpa using h))
theorem takesGo_len (k : Nat) : ∀ (acc : List Int) (bs : List UInt8), (takesGo k acc bs).1 = 0 → (takesGo k acc bs).2.1.length = acc.length + k := by
 induction k with
 | zero => intro acc bs _; rfl
 | succ k ih =>
  intro acc bs h
  unfold takesGo at h ⊢
  split at h
  ·rename_i h0
   rw [if_pos h0, ih _ _ h]
   simp; omega
  ·rename_i h0
   exact absurd h h0
theorem longsGo_len (k : Nat) : ∀ (acc : List Int) (bs : List UInt8) (l : List Int), longsGo k acc bs = some l → l.length = acc.length + k := by
 induction k with
 | zero => intro acc bs l h; cases h; rfl
 | succ k ih =>
  intro acc bs l h
  unfold longsGo at h
  split at h
  ·rw [ih _ _ _ h]; simp; omega
  ·cases h
theorem readS_len {b : List UInt8} {f : Int} {l : List Int} (h : readS b f = some l) : l.length = 5 := by
 unfold readS at h
 split at h
 ·unfold read2S at h
  split at h
  ·cases h
  ·split at h
   ·rename_i h0
    cases h
    exact takesGo_len 5 [] _ h0
   ·cases h
 ·unfold read1S at h
  split at h
  ·cases hl : longsGo 3 [] (b.drop 1) with
   | none => rw [hl] at h; cases h
   | some l0 =>
    rw [hl] at h
    cases h
    have := longsGo_len 3 [] _ _ hl
    simp [this]
  ·cases h
def takeR (b : List UInt8) (f : Int) : Option Sta :=
 match readS b f with
 | none => none
 | some l => match putR (staOf l) f with
  | none => none
  | some c => if b = c then some (staOf l) else none
def staZ : Sta := ⟨0, 0, 0, 0, false⟩
def TakeR (w : World) (r : Option Sta) (e : Ending) (w' : World) : Prop :=
 (match r with
 | some s => e = .returned (.tuple #[.agg #[.int .i64 s.idx, .int .i64 s.term, .int .i64 s.sum, .int .i64 s.lvl, .bool s.fin], .int .i64 0])
 | none => e = .returned (.tuple #[.agg #[.int .i64 0, .int .i64 0, .int .i64 0, .int .i64 0, .bool false], .int .i64 11])) ∧ Ext w w'
theorem take_res (tmps : Array Value) (W : World) (b : Nat) (cs : Array Value) (u : Value) (h4 : tmps.getD 4 undef = .pointer (some ⟨b, 0, none⟩)) (h5 : tmps.getD 5 undef = u) (hb : Blk W b 24 cs) (hs : cs.size = 5) : (results Tryz.f66 tmps).run Tryz.prog W = .ok (.tuple #[.agg cs, u]) W := by
 have hl := hb.load (P := Tryz.prog) staUnder rfl (by rw [hs]; kernel_rfl)
 have h4' : tmps[4]?.getD undef = .pointer (some ⟨b, 0, none⟩) := by simpa using h4
 have h5' : tmps[5]?.getD undef = u := by simpa using h5
 simp [results, Tryz.results66, h4', h5', asAddr, hl]
theorem blk5f {W : World} {b : Nat} {t : TypeId} {cs : Array Value} (h : Blk W b t cs) : W.frozen? ⟨b, 0, none⟩ = false ∧ W.frozen? ⟨b, 1, none⟩ = false ∧ W.frozen? ⟨b, 2, none⟩ = false ∧ W.frozen? ⟨b, 3, none⟩ = false ∧ W.frozen? ⟨b, 4, none⟩ = false :=
 ⟨h.frozen 0, h.frozen 1, h.frozen 2, h.frozen 3, h.frozen 4⟩
theorem blk_set5 {W : World} {b : Nat} {t : TypeId} {a v u x y : Value} (h : Blk W b t #[a, v, u, x, y]) (a' v' u' x' y' : Value) : Blk (((((W.setCell ⟨b, 0, none⟩ a').setCell ⟨b, 1, none⟩ v').setCell ⟨b, 2, none⟩ u').setCell ⟨b, 3, none⟩ x').setCell ⟨b, 4, none⟩ y') b t #[a', v', u', x', y'] :=
 ((((h.set 0 a').set 1 v').set 2 u').set 3 x').set 4 y'
theorem ext_set5 {w W : World} (h : Ext w W) {b : Nat} (hb : w.heap.size ≤ b) (a' v' u' x' y' : Value) : Ext w (((((W.setCell ⟨b, 0, none⟩ a').setCell ⟨b, 1, none⟩ v').setCell ⟨b, 2, none⟩ u').setCell ⟨b, 3, none⟩ x').setCell ⟨b, 4, none⟩ y') :=
 ((((Below.setCell h hb a').setCell hb v').setCell hb u').setCell hb x').setCell hb y'
theorem Take_none (v : Value) (bs : List UInt8) (f : Int) (w : World) (hBs : Bs w v bs) (hl : bs.length ≤ 2000000) (hr : readS bs f = none) : Calls Tryz.prog 66 #[v, .int .i64 f] w (TakeR w none) := by
 have hb := Blk.new w 24 #[.int .i64 0, .int .i64 0, .int .i64 0, .int .i64 0, .bool false]
 have hX : Ext w (w.alloc (.cells #[.int .i64 0, .int .i64 0, .int .i64 0, .int .i64 0, .bool false] 24)) := Ext.alloc (Ext.refl _) _
 have key := read_any v bs f (w.alloc (.cells #[.int .i64 0, .int .i64 0, .int .i64 0, .int .i64 0, .bool false] 24)) (hBs.ext hX) hl
 rw [hr] at key
 have Key := Lib.hid key
 clear key hr hBs
 go_enter Tryz.func66, Tryz.ntmps66
 go_wp2_with fail
 refine Key.out.mono ?_
 rintro e w1 ⟨v1, rfl, -, hE1⟩
 obtain ⟨g0, g1, g2, g3, g4⟩ := blk5 (hb.ext hE1)
 have hb1 := hb.ext hE1
 obtain ⟨f0, f1, f2, f3, f4⟩ := blk5f hb1
 try simp only [Option.isSome]
 go_wp2_with fail
 refine bodyPost_ret (take_res _ _ _ _ _ rfl rfl (blk_set5 hb1 _ _ _ _ _) rfl) rfl ⟨rfl, ext_set5 (Ext.trans hX hE1) (Nat.le_refl _) _ _ _ _ _⟩
theorem cell_set5 {W : World} {b q k : Nat} {z : Value} (h : W.cell? ⟨q, k, none⟩ = some z) (hne : b ≠ q) (a' v' u' x' y' : Value) : (((((W.setCell ⟨b, 0, none⟩ a').setCell ⟨b, 1, none⟩ v').setCell ⟨b, 2, none⟩ u').setCell ⟨b, 3, none⟩ x').setCell ⟨b, 4, none⟩ y').cell? ⟨q, k, none⟩ = some z := by
 have hn : some q ≠ some b := fun e => hne (by cases e; rfl)
 exact cell_grown (grownBy_set _ b 4 y') (cell_grown (grownBy_set _ b 3 x') (cell_grown (grownBy_set _ b 2 u') (cell_grown (grownBy_set _ b 1 v') (cell_grown (grownBy_set _ b 0 a') h hn) hn) hn) hn) hn
theorem five {l : List Int} (h : l.length = 5) : ∃ a b c d e, l = [a, b, c, d, e] := by
 match l, h with
 | [a, b, c, d, e], _ => exact ⟨a, b, c, d, e, rfl⟩
theorem Take_some (v : Value) (bs : List UInt8) (f : Int) (w : World) (hT : TabW rT w) (hBs : Bs w v bs) (hl : bs.length ≤ 2000000) (l : List Int) (hr : readS bs f = some l) : Calls Tryz.prog 66 #[v, .int .i64 f] w (TakeR w (takeR bs f)) := by
 have hb := Blk.new w 24 #[.int .i64 0, .int .i64 0, .int .i64 0, .int .i64 0, .bool false]
 have hX : Ext w (w.alloc (.cells #[.int .i64 0, .int .i64 0, .int .i64 0, .int .i64 0, .bool false] 24)) := Ext.alloc (Ext.refl _) _
 have key := read_any v bs f (w.alloc (.cells #[.int .i64 0, .int .i64 0, .int .i64 0, .int .i64 0, .bool false] 24)) (hBs.ext hX) hl
 rw [hr] at key
 have Key := Lib.hid key
 obtain ⟨x0, x1, x2, x3, x4, rfl⟩ := five (readS_len hr)
 obtain ⟨s, hs⟩ : ∃ s : Sta, s = ⟨x0, x1, x2, x3, x4 == 1⟩ := ⟨_, rfl⟩
 have hr2 : takeR bs f = match putR s f with | none => none | some c => if bs = c then some s else none := by
  unfold takeR; rw [hr, hs]; rfl
 have Hr2 := Lib.hid hr2
 have Hs := Lib.hid hs
 clear hr2 hs
 have HBs := Lib.hid hBs
 have HT := Lib.hid hT
 clear key hr hBs hT
 go_enter Tryz.func66, Tryz.ntmps66
 go_wp2_with fail
 refine Key.out.mono ?_
 rintro e w1 ⟨v1, rfl, ho, hE1⟩
 obtain ⟨q, cap, rfl, hq, hq1, hq2⟩ := ownsRow_pos (ho _ rfl) (by simp)
 obtain ⟨_, q', off', e', hc⟩ := SlR.at_ (SlR.of_own (ho _ rfl)) (by simp)
 cases e'
 have hc0 := hc 0 _ rfl
 have hc1 := hc 1 _ rfl
 have hc2 := hc 2 _ rfl
 have hc3 := hc 3 _ rfl
 have hc4 := hc 4 _ rfl
 simp only [Nat.zero_add, iv] at hc0 hc1 hc2 hc3 hc4
 clear hc
 simp only [List.length_cons, List.length_nil, Nat.zero_add, Nat.reduceAdd] at hq1 ⊢
 have hb1 := hb.ext hE1
 try simp only [Option.isSome]
 go_wp2_with fail
 have hcs : w1.cell? ⟨q, 0, none⟩ = some (.int .i64 x0) ∧ w1.cell? ⟨q, 1, none⟩ = some (.int .i64 x1) ∧ w1.cell? ⟨q, 2, none⟩ = some (.int .i64 x2) ∧ w1.cell? ⟨q, 3, none⟩ = some (.int .i64 x3) ∧ w1.cell? ⟨q, 4, none⟩ = some (.int .i64 x4) := ⟨hc0, hc1, hc2, hc3, hc4⟩
 have hqw : w.heap.size ≠ q := by rw [World.size_alloc] at hq; omega
 clear hc0 hc1 hc2 hc3 hc4 ho
 refine wp_region_held_drew (S := fun w' => w'.cell? ⟨q, 0, none⟩ = some (.int .i64 x0) ∧ w'.cell? ⟨q, 1, none⟩ = some (.int .i64 x1) ∧ w'.cell? ⟨q, 2, none⟩ = some (.int .i64 x2) ∧ w'.cell? ⟨q, 3, none⟩ = some (.int .i64 x3) ∧ w'.cell? ⟨q, 4, none⟩ = some (.int .i64 x4)) (by kernel_rfl) hcs (fun hHeld => ?_)
 refine tkL 0 rfl ?_
 try simp only [Act.put, sA, sZ, sS]
 refine tkL 1 rfl ?_
 try simp only [Act.put, sA, sZ, sS]
 refine tkL 2 rfl ?_
 try simp only [Act.put, sA, sZ, sS]
 refine tkL 3 rfl ?_
 try simp only [Act.put, sA, sZ, sS]
 refine tkL 4 rfl ?_
 try simp only [Act.put, sA, sZ, sS]
 refine tkL 5 rfl ?_
 try simp only [Act.put, sA, sZ, sS]
 refine tkL 6 rfl ?_
 try simp only [Act.put, sA, sZ, sS]
 refine tkL 7 rfl ?_
 try simp only [Act.put, sA, sZ, sS]
 refine tkL 8 rfl ?_
 try simp only [Act.put, sA, sZ, sS]
 refine tkL 9 rfl ?_
 try simp only [Act.put, sA, sZ, sS]
 refine tkL 10 rfl ?_
 try simp only [Act.put, sA, sZ, sS]
 refine tkL 11 rfl ?_
 try simp only [Act.put, sA, sZ, sS]
 refine tkL 12 rfl ?_
 try simp only [Act.put, sA, sZ, sS]
 refine tkL 13 rfl ?_
 try simp only [Act.put, sA, sZ, sS]
 refine tkL 14 rfl ?_
 try simp only [Act.put, sA, sZ, sS]
 refine tkL 15 rfl ?_
 try simp only [Act.put, sA, sZ, sS]
 refine tkL 16 rfl ?_
 try simp only [Act.put, sA, sZ, sS]
 obtain ⟨g0, g1, g2, g3, g4⟩ := blk5 hb1
 obtain ⟨f0, f1, f2, f3, f4⟩ := blk5f hb1
 refine AllReadyH.one (i := 17) rfl (by kernel_rfl) (by rfl) (fun K hK => ?_)
 go_simp
 have hb2 := blk_set5 hb1 (.int .i64 x0) (.int .i64 x1) (.int .i64 x2) (.int .i64 x3) (.bool (x4 == 1))
 have hE2 := ext_set5 (Ext.trans hX hE1) (Nat.le_refl _) (.int .i64 x0) (.int .i64 x1) (.int .i64 x2) (.int .i64 x3) (.bool (x4 == 1))
 have k0 := cell_set5 hcs.1 hqw (.int .i64 x0) (.int .i64 x1) (.int .i64 x2) (.int .i64 x3) (.bool (x4 == 1))
 have k1 := cell_set5 hcs.2.1 hqw (.int .i64 x0) (.int .i64 x1) (.int .i64 x2) (.int .i64 x3) (.bool (x4 == 1))
 have k2 := cell_set5 hcs.2.2.1 hqw (.int .i64 x0) (.int .i64 x1) (.int .i64 x2) (.int .i64 x3) (.bool (x4 == 1))
 have k3 := cell_set5 hcs.2.2.2.1 hqw (.int .i64 x0) (.int .i64 x1) (.int .i64 x2) (.int .i64 x3) (.bool (x4 == 1))
 have k4 := cell_set5 hcs.2.2.2.2 hqw (.int .i64 x0) (.int .i64 x1) (.int .i64 x2) (.int .i64 x3) (.bool (x4 == 1))
 clear f0 f1 f2 f3 f4 g0 g1 g2 g3 g4 hHeld hb1 hcs
 generalize (((((w1.setCell ⟨w.heap.size, 0, none⟩ (.int .i64 x0)).setCell ⟨w.heap.size, 1, none⟩ (.int .i64 x1)).setCell ⟨w.heap.size, 2, none⟩ (.int .i64 x2)).setCell ⟨w.heap.size, 3, none⟩ (.int .i64 x3)).setCell ⟨w.heap.size, 4, none⟩ (.bool (x4 == 1))) = w1' at *
 have hcs2 : w1'.drew.cell? ⟨q, 0, none⟩ = some (.int .i64 x0) ∧ w1'.drew.cell? ⟨q, 1, none⟩ = some (.int .i64 x1) ∧ w1'.drew.cell? ⟨q, 2, none⟩ = some (.int .i64 x2) ∧ w1'.drew.cell? ⟨q, 3, none⟩ = some (.int .i64 x3) ∧ w1'.drew.cell? ⟨q, 4, none⟩ = some (.int .i64 x4) := ⟨k0, k1, k2, k3, k4⟩
 have hb2 : Blk w1'.drew w.heap.size 24 #[.int .i64 x0, .int .i64 x1, .int .i64 x2, .int .i64 x3, .bool (x4 == 1)] := hb2
 have hE2 : Ext w w1'.drew := Ext.drew hE2
 generalize w1'.drew = w2 at *
 refine hK.out _ _ hcs2 (fun hHeld => ?_)
 clear hK K
 try simp only [Act.put, sA, sZ, sS]
 refine wpAnyH_done (by kernel_rfl) ?_ _
 clear hHeld hcs2
 obtain ⟨g0, g1, g2, g3, g4⟩ := blk5 hb2
 obtain ⟨f0, f1, f2, f3, f4⟩ := blk5f hb2
 have key2 := Put_any s f w2 (HT.out.ext hE2)
 have Hs2 := Hs.out
 subst Hs2
 dsimp only at key2
 have HBs2 : Hid (Bs w2 v bs) := HBs.out.ext hE2
 obtain ⟨r, hrr⟩ : ∃ r, putR ⟨x0, x1, x2, x3, x4 == 1⟩ f = r := ⟨_, rfl⟩
 have hr2 := Hr2.out
 rw [hrr] at key2 hr2
 clear Hr2 hrr Hs
 cases r with
 | none =>
  have Key2 : Hid (Calls _ _ _ _ (ShortBad w2)) := key2
  have Hr2 : Hid (takeR bs f = none) := hr2
  clear key2 hr2
  go_wp2_with fail
  refine Key2.out.mono ?_
  rintro e w3 ⟨rfl, hE3⟩
  have hb3 := hb2.ext hE3
  clear f0 f1 f2 f3 f4 g0 g1 g2 g3 g4
  obtain ⟨g0, g1, g2, g3, g4⟩ := blk5 hb3
  obtain ⟨f0, f1, f2, f3, f4⟩ := blk5f hb3
  go_wp2_with fail
  refine bodyPost_ret (take_res _ _ _ _ _ rfl rfl (blk_set5 hb3 _ _ _ _ _) rfl) rfl ⟨by rw [Hr2.out]; exact rfl, ext_set5 (Ext.trans hE2 hE3) (Nat.le_refl _) _ _ _ _ _⟩
 | some cs =>
  have Key2 : Hid (Calls _ _ _ _ (PutP w2 cs)) := key2
  clear key2
  by_cases hbc : bs = cs
  ·have Hr2 : Hid (takeR bs f = some ⟨x0, x1, x2, x3, x4 == 1⟩) := by
    rw [Hid, hr2]; exact if_pos hbc
   have Hbc := Lib.hid hbc
   clear hr2 hbc
   go_wp2_with fail
   refine Key2.out.mono ?_
   rintro e w3 ⟨A3, c3, rfl, ho3, hE3⟩
   have hb3 := hb2.ext hE3
   have key3 := bytesEqual_any v (.slice A3 cs.length c3) bs cs w3 (HBs2.out.ext hE3) (SlR.of_own ho3)
   rw [decide_eq_true Hbc.out] at key3
   have Key3 := Lib.hid key3
   clear f0 f1 f2 f3 f4 g0 g1 g2 g3 g4 key3 ho3
   obtain ⟨g0, g1, g2, g3, g4⟩ := blk5 hb3
   obtain ⟨f0, f1, f2, f3, f4⟩ := blk5f hb3
   go_wp2_with fail
   refine Key3.out.mono ?_
   rintro e w4 ⟨rfl, rfl⟩
   go_wp2_with fail
   refine bodyPost_ret (take_res _ _ _ _ _ rfl rfl (blk_set5 hb3 _ _ _ _ _) rfl) rfl ⟨by rw [Hr2.out]; exact rfl, ext_set5 (Ext.trans hE2 hE3) (Nat.le_refl _) _ _ _ _ _⟩
  ·have Hr2 : Hid (takeR bs f = none) := by
    rw [Hid, hr2]; exact if_neg hbc
   have Hbc := Lib.hid hbc
   clear hr2 hbc
   go_wp2_with fail
   refine Key2.out.mono ?_
   rintro e w3 ⟨A3, c3, rfl, ho3, hE3⟩
   have hb3 := hb2.ext hE3
   have key3 := bytesEqual_any v (.slice A3 cs.length c3) bs cs w3 (HBs2.out.ext hE3) (SlR.of_own ho3)
   rw [decide_eq_false Hbc.out] at key3
   have Key3 := Lib.hid key3
   clear f0 f1 f2 f3 f4 g0 g1 g2 g3 g4 key3 ho3
   obtain ⟨g0, g1, g2, g3, g4⟩ := blk5 hb3
   obtain ⟨f0, f1, f2, f3, f4⟩ := blk5f hb3
   go_wp2_with fail
   refine Key3.out.mono ?_
   rintro e w4 ⟨rfl, rfl⟩
   go_wp2_with fail
   refine bodyPost_ret (take_res _ _ _ _ _ rfl rfl (blk_set5 hb3 _ _ _ _ _) rfl) rfl ⟨by rw [Hr2.out]; exact rfl, ext_set5 (Ext.trans hE2 hE3) (Nat.le_refl _) _ _ _ _ _⟩
theorem STake_any (v : Value) (bs : List UInt8) (f : Int) (w : World) (hT : TabW rT w) (hBs : Bs w v bs) (hl : bs.length ≤ 2000000) : Calls Tryz.prog 66 #[v, .int .i64 f] w (TakeR w (takeR bs f)) := by
 cases hr : readS bs f with
 | none =>
  have : takeR bs f = none := by unfold takeR; rw [hr]
  rw [this]
  exact Take_none v bs f w hBs hl hr
 | some l => exact Take_some v bs f w hT hBs hl l hr
def againR (b : List UInt8) (f t : Int) : Int × List UInt8 :=
 match takeR b f with
 | none => (11, [])
 | some s => match putR s t with
  | none => (2, [])
  | some c => (0, c)
def AgainP (w : World) (r : Int × List UInt8) (e : Ending) (w' : World) : Prop := ∃ v, e = .returned (.tuple #[v, .int .i64 r.1]) ∧ OwnB w' w.heap.size v r.2 ∧ Ext w w'
theorem Again_any (v : Value) (bs : List UInt8) (f t : Int) (w : World) (hT : TabW rT w) (hBs : Bs w v bs) (hl : bs.length ≤ 2000000) : Calls Tryz.prog 46 #[v, .int .i64 f, .int .i64 t] w (AgainP w (againR bs f t)) := by
 have key := STake_any v bs f w hT hBs hl
 cases hr : takeR bs f with
 | none =>
  have Ha : Hid (againR bs f t = (11, [])) := by rw [Hid]; unfold againR; rw [hr]
  rw [hr] at key
  have Key := Lib.hid key
  clear key hr hBs hT
  go_enter Tryz.func46, Tryz.ntmps46
  go_wp2_with fail
  refine Key.out.mono ?_
  rintro e w1 ⟨rfl, hE1⟩
  go_wp2_with fail
  go_ret2
  exact ⟨.slice none 0 0, by rw [Ha.out]; rfl, by rw [Ha.out]; exact World.ownsRow_nil _ _ _ _, Ext.alloc hE1 _⟩
 | some s =>
  have Ha : Hid (againR bs f t = match putR s t with | none => (2, []) | some c => (0, c)) := by rw [Hid]; unfold againR; rw [hr]
  rw [hr] at key
  have Key := Lib.hid key
  have HT := Lib.hid hT
  clear key hr hBs hT
  go_enter Tryz.func46, Tryz.ntmps46
  go_wp2_with fail
  refine Key.out.mono ?_
  rintro e w1 ⟨rfl, hE1⟩
  have hb := Blk.new w1 24 #[.int .i64 s.idx, .int .i64 s.term, .int .i64 s.sum, .int .i64 s.lvl, .bool s.fin]
  have hE2 : Ext w (w1.alloc (.cells #[.int .i64 s.idx, .int .i64 s.term, .int .i64 s.sum, .int .i64 s.lvl, .bool s.fin] 24)) := Ext.alloc hE1 _
  have key2 := Put_any s t _ (HT.out.ext hE2)
  have Key2 := Lib.hid key2
  clear key2
  go_wp2_with fail
  refine Key2.out.mono ?_
  rintro e w3 h3
  obtain ⟨r, hrr⟩ : ∃ r, putR s t = r := ⟨_, rfl⟩
  rw [hrr] at h3
  have ha := Ha.out
  rw [hrr] at ha
  cases r with
  | none =>
   obtain ⟨rfl, hE3⟩ := h3
   go_wp2_with fail
   go_ret2
   exact ⟨.slice none 0 0, by rw [ha]; rfl, by rw [ha]; exact World.ownsRow_nil _ _ _ _, Ext.trans hE2 hE3⟩
  | some cs =>
   obtain ⟨A3, c3, rfl, ho3, hE3⟩ := h3
   go_wp2_with fail
   go_ret2
   exact ⟨.slice A3 cs.length c3, by rw [ha]; rfl, by rw [ha]; exact own_base ho3 hE2.size, Ext.trans hE2 hE3⟩
open Go.RowKit Go.Mv
theorem put1_len (s : Sta) : (put1 s).length = 22 := by
 have hll : (longs [s.idx, s.term, s.sum]).length = 15 := by rw [longs_len]; rfl
 unfold put1 crcPut
 simp [hll, fourU_len]
theorem put2_len (s : Sta) : (put2 s).length = 2 + ((shorts s.ints).length + ((shorts s.ints).length + 3) / 4 * 4) := by
 unfold put2
 rw [List.length_cons, List.length_cons, piecesS_len]
 omega
theorem takeR_some {b : List UInt8} {f : Int} {s : Sta} (h : takeR b f = some s) : s.ok = true ∧ ((f = 1 ∧ b = put1 s) ∨ (f = 2 ∧ b = put2 s)) ∧ putR s f = some b := by
 unfold takeR at h
 cases hr : readS b f with
 | none => rw [hr] at h; cases h
 | some l =>
  rw [hr] at h
  dsimp only at h
  cases hp : putR (staOf l) f with
  | none => rw [hp] at h; cases h
  | some c =>
   rw [hp] at h
   dsimp only at h
   split at h
   ·rename_i hbc
    cases h
    have hp2 := hp
    unfold putR at hp
    split at hp
    ·rename_i hok
     refine ⟨hok, ?_, by rw [hp2, hbc]⟩
     split at hp
     ·rename_i h1; cases hp; exact .inl ⟨h1, hbc⟩
     ·split at hp
      ·rename_i h2; cases hp; exact .inr ⟨h2, hbc⟩
      ·cases hp
    ·cases hp
   ·cases h
theorem takeR_put {b : List UInt8} {f : Int} {s : Sta} (h : putR s f = some b) : takeR b f = some s := by
 have h0 := h
 unfold putR at h
 split at h
 ·rename_i hok
  unfold takeR readS
  split at h
  ·rename_i h1
   cases h
   subst h1
   rw [if_neg (by decide), read1_put s hok]
   dsimp only
   rw [staOf_ints, h0]
   dsimp only
   rw [if_pos rfl]
  ·split at h
   ·rename_i h1 h2
    cases h
    subst h2
    rw [if_pos rfl, read2_put s hok]
    dsimp only
    rw [staOf_ints, h0]
    dsimp only
    rw [if_pos rfl]
   ·cases h
 ·cases h
theorem putR_two {s : Sta} {f : Int} {b : List UInt8} (h : putR s f = some b) : s.ok = true ∧ ((f = 1 ∧ b = put1 s) ∨ (f = 2 ∧ b = put2 s)) := by
 obtain ⟨h1, h2, _⟩ := takeR_some (takeR_put h)
 exact ⟨h1, h2⟩
theorem putR_len {s : Sta} {f : Int} {b : List UInt8} (h : putR s f = some b) : 2 ≤ b.length ∧ b.length ≤ 100 := by
 obtain ⟨_, ⟨_, rfl⟩ | ⟨_, rfl⟩⟩ := putR_two h
 ·rw [put1_len]; omega
 ·have := shorts_len s.ints
  have h5 : s.ints.length = 5 := rfl
  rw [put2_len]; omega
end Go.Proofs.YtmecffckghkahaaGreatDoor

namespace Go.Mv
open Go.RowKit
theorem wp_append_sl {P : Program} (w : World) {o : Oper} {a : Act} {K : Act → World → Prop} {Q : Exit → Act → World → Prop} (s x : Operand) (t : TypeId)
  (ho : o.op = .call { callee := .builtin .append, args := #[s, x], argTypes := #[t, t] })
  (base : Nat) (e : TypeId) (i : TypeInfo) (z : Value) (size bytes : Nat) (ht : P.underlying t = some (.slice e)) (hi : P.info? e = some i) (hz : i.zero = some z)
  (hsize : i.size = size) (hby : i.bytes = bytes) (hzs : z.cells.size = size) (hsz : 0 < size)
  (v : Value) (n : Nat) (xs : List Value) (hs : a.eval s = v) (hown : w.ownsRow base e size v n xs)
  (vx : Value) (m : Nat) (news : List Value) (hx : a.eval x = vx) (hr : SlR w size vx m news) (h1 : ∀ u ∈ news, u.oneCell' = true)
  (h63 : n + m ≤ maxLen) (hbytes : (n + m) * bytes ≤ 140737488355328) (hbase : base ≤ w.heap.size)
  (h : ∀ v' w', w'.ownsRow base e size v' (n + m) (xs ++ news) → w.grownBy w' v.ownBlock → K (a.put o.dst v') w') : Oper.wp P o a w K Q := by
 obtain ⟨v', w', hrun, h2, h3⟩ := run_append_sl (P := P) w base t o.type e i z size bytes ht hi hz hsize hby hzs hsz v n xs hown vx m news hr h1 h63 hbytes hbase
 unfold Oper.wp execOp
 simp only [ho, resolve, invoke, builtin, Sem.run_bind, Sem.run_pure, Result.andThen_ok, List.map_toArray, List.map_cons, List.map_nil, hs, hx, hrun]
 exact h v' w' h2 h3
theorem wp_convert_sl {P : Program} (w : World) {o : Oper} {a : Act} {K : Act → World → Prop} {Q : Exit → Act → World → Prop} (src dst e : TypeId) (x : Operand) (ho : o.op = .convert src dst x)
  (hs : P.underlying src = some (.slice e)) (he : P.underlying e = some (.int .u8)) (hd : P.underlying dst = some .string) {v : Value} {bs : List UInt8} (hx : a.eval x = v) (hb : Bs w v bs)
  (h : K (a.put o.dst (.string ⟨bs.toArray⟩)) w) : Oper.wp P o a w K Q := by
 have hrun := run_convert_sl (P := P) w src dst e hs he hd hb
 unfold Oper.wp execOp
 simp only [ho, Sem.run_bind, Sem.run_pure, Result.andThen_ok, hx, hrun]
 exact h
end Go.Mv
namespace Go.Proofs.YtmecffckghkahaaGreatDoor
open Go.RowKit Go.Mv
set_option maxRecDepth 100000
def half1 (x : Nat) : Nat := if x % 2 = 1 then (x / 2) ^^^ 2197175160 else x / 2
theorem xor_half (a b : Nat) : (a ^^^ b) / 2 = (a / 2) ^^^ (b / 2) := by
 have := Nat.shiftRight_xor_distrib (a := a) (b := b) (i := 1)
 simpa [Nat.shiftRight_eq_div_pow] using this
theorem xor_div16 (a b : Nat) : (a ^^^ b) / 16 = (a / 16) ^^^ (b / 16) := by
 have := Nat.shiftRight_xor_distrib (a := a) (b := b) (i := 4)
 simpa [Nat.shiftRight_eq_div_pow] using this
theorem xor_mod2 (a b : Nat) : (a ^^^ b) % 2 = (a % 2) ^^^ (b % 2) := Nat.xor_mod_two_pow (n := 1)
theorem xor_m16 (a b : Nat) : (a ^^^ b) % 16 = (a % 16) ^^^ (b % 16) := Nat.xor_mod_two_pow (n := 4)
theorem half1_xor (a b : Nat) : half1 (a ^^^ b) = half1 a ^^^ half1 b := by
 unfold half1
 rw [xor_mod2, xor_half]
 have ha : a % 2 = 0 ∨ a % 2 = 1 := by omega
 have hb : b % 2 = 0 ∨ b % 2 = 1 := by omega
 rcases ha with ha | ha <;> rcases hb with hb | hb <;> rw [ha, hb] <;> simp
 ·rw [Nat.xor_assoc]
 ·rw [Nat.xor_assoc, Nat.xor_assoc, Nat.xor_comm (b / 2)]
 ·rw [Nat.xor_assoc, ← Nat.xor_assoc 2197175160, Nat.xor_comm 2197175160 (b / 2), Nat.xor_assoc, Nat.xor_self, Nat.xor_zero]
theorem half1_even (q : Nat) : half1 (2 * q) = q := by
 unfold half1
 rw [if_neg (by omega)]
 omega
theorem xor_split (x : Nat) : x = (16 * (x / 16)) ^^^ (x % 16) := by
 have h1 : ((16 * (x / 16)) ^^^ (x % 16)) / 16 = x / 16 := by
  rw [xor_div16, show x % 16 / 16 = 0 from by omega, Nat.xor_zero]; omega
 have h2 : ((16 * (x / 16)) ^^^ (x % 16)) % 16 = x % 16 := by
  rw [xor_m16, show 16 * (x / 16) % 16 = 0 from by omega, Nat.zero_xor]; omega
 omega
theorem half4 (x : Nat) : half1 (half1 (half1 (half1 x))) = crcTab.getD (x % 16) 0 ^^^ (x / 16) := by
 have key : ∀ r, r < 16 → half1 (half1 (half1 (half1 r))) = crcTab.getD r 0 := by decide
 conv => lhs; rw [xor_split x]
 rw [half1_xor, half1_xor, half1_xor, half1_xor, key _ (Nat.mod_lt _ (by decide)), show 16 * (x / 16) = 2 * (2 * (2 * (2 * (x / 16)))) from by omega, half1_even, half1_even, half1_even, half1_even, Nat.xor_comm]
theorem half4_step (s h : Nat) (hh : h < 16) : half1 (half1 (half1 (half1 (s ^^^ h)))) = stepN rT s h := by
 rw [half4, xor_div16, show h / 16 = 0 from by omega, Nat.xor_zero]
 rfl
theorem half1_lt {x : Nat} (h : x < 4294967296) : half1 x < 4294967296 := by
 unfold half1
 split
 ·have : (x / 2) ^^^ 2197175160 < 2 ^ 32 := Nat.xor_lt_two_pow (by omega) (by omega)
  simpa using this
 ·omega
def halfs : Nat → Nat → Nat
 | 0, x => x
 | k + 1, x => half1 (halfs k x)
theorem refStep_any (s h : Nat) (hs : s < 4294967296) (hh : h < 16) (w : World) : Calls Tryz.prog 95 #[.int .u32 s, .int .u8 h] w fun e w' => e = .returned (.int .u32 (stepN rT s h)) ∧ w = w' := by
 have hx := bits_xor_u32 s h hs (by omega)
 have hxl : s ^^^ h < 2 ^ 32 := Nat.xor_lt_two_pow (by omega) (by omega)
 have hst := half4_step s h hh
 obtain ⟨x, hx0⟩ : ∃ x, s ^^^ h = x := ⟨_, rfl⟩
 rw [hx0] at hx hxl hst
 have hmod : (h : Int) % 16 = (h : Int) := by omega
 have Hst : Hid (halfs 4 x = stepN rT s h) := hst
 clear hst hx0
 go_enter Tryz.func95, Tryz.ntmps95
 go_wp2_with fail
 go_loopw [0, 5, 6] (fun a i o wr => ∃ k y : Nat, k ≤ 4 ∧ a = .int .u32 y ∧ i = .int .i64 k ∧ Hid (halfs k x = y) ∧ y < 4294967296 ∧ w = wr) (fun _ i _ _ => 4 - (intOf i).toNat)
 case atStart => exact ⟨0, x, by omega, rfl, rfl, rfl, by omega, rfl⟩
 case round =>
  obtain ⟨k, y, hk, rfl, rfl, Hy, hyl, rfl⟩ := hrel
  by_cases hlt : k < 4
  ·by_cases ho : y % 2 = 1
   ·have h1 : ((y : Int) % 2 == 1) = true := by simp; omega
    have h1' : (y : Int) % 2 = 1 := by omega
    have hxx : bits .xor .u32 ((y : Int) / 2) 2197175160 = (((y / 2) ^^^ 2197175160 : Nat) : Int) := by simpa using bits_xor_u32 (y / 2) 2197175160 (by omega) (by decide)
    have hn : half1 y = (y / 2) ^^^ 2197175160 := by unfold half1; rw [if_pos ho]
    have hnl := half1_lt hyl
    rw [hn] at hnl
    have Hn := Lib.hid hn
    generalize (y / 2) ^^^ 2197175160 = z at *
    clear hn ho
    go_wp2_with fail
    go_roundw
    case rel => exact ⟨k + 1, z, by omega, rfl, by go_num, by show half1 (halfs k x) = z; rw [Hy.out]; exact Hn.out, hnl, trivial⟩
    case measure => simp [intOf]; omega
   ·have h1 : ((y : Int) % 2 == 1) = false := by simp; omega
    have h1' : (y : Int) % 2 = 0 := by omega
    have hn : half1 y = y / 2 := by unfold half1; rw [if_neg ho]
    have Hn := Lib.hid hn
    clear hn ho
    go_wp2_with fail
    go_roundw
    case rel => exact ⟨k + 1, y / 2, by omega, by go_num, by go_num, by show half1 (halfs k x) = y / 2; rw [Hy.out]; exact Hn.out, by omega, trivial⟩
    case measure => simp [intOf]; omega
  ·obtain rfl : k = 4 := by omega
   go_wp2_with fail
   go_ret
   exact ⟨by rw [← Hst.out, Hy.out]; rfl, rfl⟩
theorem nextU_snoc {T : Tab} (s : Nat) (a : List UInt8) (b : UInt8) : nextU T s (a ++ [b]) = stepN T (stepN T (nextU T s a) (b.toNat % 16)) (b.toNat / 16) := by
 have hb := b.toNat_lt
 have e1 : (UInt8.ofNat (b.toNat % 16)).toNat = b.toNat % 16 := by simp; omega
 have e2 : (UInt8.ofNat (b.toNat / 16)).toNat = b.toNat / 16 := by simp; omega
 unfold nextU halvesL
 rw [List.flatMap_append, List.foldl_append, List.flatMap_cons, List.flatMap_nil, List.append_nil, List.foldl_cons, List.foldl_cons, List.foldl_nil, e1, e2]
theorem refCNext_any (s : Nat) (hs : s < 4294967296) (v : Value) (bs : List UInt8) (w : World) (h : Bs w v bs) (hlen : bs.length ≤ 2000000) :
  Calls Tryz.prog 73 #[.int .u32 s, v] w fun e w' => e = .returned (.int .u32 (nextN rT s bs)) ∧ Ext w w' := by
 obtain ⟨A, c, rfl, h1, h2⟩ := SlR.open_ h
 have HP := Lib.hid h
 clear h
 have hn := not_u32 s hs
 have hnl := not_lt_u32 s hs
 unfold nextN
 generalize 4294967295 ^^^ s = s0 at *
 go_enter Tryz.func73, Tryz.ntmps73
 go_wp2_with fail
 go_loopw [0, 5] (fun a i wr => ∃ k y : Nat, k ≤ bs.length ∧ a = .int .u32 y ∧ i = .int .i64 k ∧ Hid (nextU rT s0 (bs.take k) = y) ∧ y < 4294967296 ∧ Ext w wr) (fun _ i _ => bs.length - (intOf i).toNat)
 case atStart => exact ⟨0, s0, by omega, rfl, rfl, rfl, hnl, Ext.refl _⟩
 case round =>
  obtain ⟨k, y, hk, rfl, rfl, Hy, hyl, hE⟩ := hrel
  by_cases hlt : k < bs.length
  ·obtain ⟨_, b, off, rfl, hc⟩ := Bs.at_ (HP.out.ext hE) (by omega)
   have hc0 := hc k hlt
   have hq := bs[k].toNat_lt
   have hst : nextU rT s0 (bs.take (k + 1)) = stepN rT (stepN rT y (bs[k].toNat % 16)) (bs[k].toNat / 16) := by
    rw [List.take_succ_eq_append_getElem hlt, nextU_snoc, Hy.out]
   have Hst := Lib.hid hst
   clear hc hst
   generalize bs[k].toNat = q at *
   have hl1 := stepN_lt (T := rT) (q % 16) hyl
   have hl2 := stepN_lt (T := rT) (q / 16) hl1
   have k1 := fun W => refStep_any y (q % 16) hyl (by omega) W
   have k2 := fun W => refStep_any (stepN rT y (q % 16)) (q / 16) hl1 (by omega) W
   obtain ⟨y1, hy1⟩ : ∃ y1, stepN rT y (q % 16) = y1 := ⟨_, rfl⟩
   rw [hy1] at k1 k2 hl2 Hst
   obtain ⟨y2, hy2⟩ : ∃ y2, stepN rT y1 (q / 16) = y2 := ⟨_, rfl⟩
   rw [hy2] at k2 hl2 Hst
   have e1 : (q : Int).tmod 16 = ((q % 16 : Nat) : Int) := by rw [Int.tmod_eq_emod_of_nonneg (by omega)]; omega
   have e2 : IntKind.u8.wrap ((q : Int) / 16) = ((q / 16 : Nat) : Int) := by rw [IntKind.wrap_u8]; omega
   have e3 : (q : Int).tdiv 16 = ((q / 16 : Nat) : Int) := by rw [Int.tdiv_eq_ediv_of_nonneg (by omega)]; omega
   have e4 : IntKind.u8.wrap ((q / 16 : Nat) : Int) = ((q / 16 : Nat) : Int) := by rw [IntKind.wrap_u8]; omega
   generalize q % 16 = q0 at *
   generalize q / 16 = q1 at *
   have K1 := Lib.hid k1
   have K2 := Lib.hid k2
   clear k1 k2 hy1 hy2 hl1
   go_wp2_with fail
   go_region_held3 (fun w' => w'.cell? ⟨b, off + k, none⟩ = some (.int .u8 q)) (first | go_keep | assumption)
    (first
      | (go_at_call 95; with_reducible refine (K1.out _).mono ?_; rintro e w2 ⟨rfl, rfl⟩)
      | (go_at_call 95; with_reducible refine (K2.out _).mono ?_; rintro e w3 ⟨rfl, rfl⟩))
   go_wp2_with fail
   go_roundw
   case rel => exact ⟨k + 1, y2, by omega, rfl, by go_num, Hst.out, hl2, Ext.drew hE⟩
   case measure => simp [intOf]; omega
  ·obtain rfl : k = bs.length := by omega
   have hy2 := Hy.out
   rw [List.take_length] at hy2
   have Hy2 := Lib.hid hy2
   have hn2 := not_u32 y hyl
   clear hy2 Hy
   go_wp2_with fail
   go_ret
   exact ⟨by rw [Hy2.out]; rfl, hE⟩
theorem refSum_any (p : Nat) (A : Option Addr) (c : Nat) (bs : List UInt8) (w : World) (hc : w.cell? ⟨p, 0, none⟩ = some (.slice A bs.length c)) (h : Bs w (.slice A bs.length c) bs) (hlen : bs.length ≤ 2000000) :
  Calls Tryz.prog 57 #[.slice (some ⟨p, 0, none⟩) 1 1] w fun e w' => e = .returned (.int .u32 (nextN rT 0 bs)) ∧ Ext w w' := by
 have HP := Lib.hid h
 clear h
 go_enter Tryz.func57, Tryz.ntmps57
 go_wp2_with fail
 go_loopw [3, 4] (fun s i wr => ∃ k sn : Nat, k ≤ 1 ∧ s = .int .u32 sn ∧ i = .int .i64 k ∧ Hid (sn = if k = 0 then 0 else nextN rT 0 bs) ∧ Ext w wr) (fun _ i _ => 1 - (intOf i).toNat)
 case atStart => exact ⟨0, 0, by omega, rfl, rfl, rfl, Ext.refl _⟩
 case round =>
  obtain ⟨k, sn, hk, rfl, rfl, Hs, hE⟩ := hrel
  have hc' := hE.cell hc
  by_cases hlt : k < 1
  ·obtain rfl : k = 0 := by omega
   obtain rfl : sn = 0 := Hs.out
   go_wp2_with (go_at_call 73; refine (refCNext_any 0 (by decide) _ bs wr (HP.out.ext hE) hlen).mono ?_; rintro e w1 ⟨rfl, hE1⟩)
   go_roundw
   case rel => exact ⟨1, nextN rT 0 bs, by omega, rfl, rfl, rfl, Ext.trans hE hE1⟩
   case measure => simp [intOf]
  ·obtain rfl : k = 1 := by omega
   obtain rfl : sn = nextN rT 0 bs := Hs.out
   go_wp2_with fail
   go_ret
   exact ⟨rfl, hE⟩
theorem refCFour_any (s : Nat) (hs : s < 4294967296) (w : World) : Calls Tryz.prog 56 #[.int .u32 s] w fun e w' => e = .returned (.agg ((fourU s).map bv).toArray) ∧ Ext w w' := by
 go_enter Tryz.func56, Tryz.ntmps56
 go_wp2_with fail
 refine bodyPost_ret (results_cell_row rfl _ _ _ 111 _ _ _ rfl (heap_alloc_new _ _) Tryz.underlying111 rfl (by kernel_rfl)) rfl ⟨?_, Ext.alloc (Ext.refl _) _⟩
 congr 3
 simp [fourU, bv]
 omega
theorem refPut_any (v : Value) (bs : List UInt8) (w : World) (h : Bs w v bs) (hl : bs.length ≤ 2000000) : Calls Tryz.prog 32 #[v] w fun e w' => ∃ A c, e = .returned (.slice A (crcPut rT bs).length c) ∧ OwnB w' w.heap.size (.slice A (crcPut rT bs).length c) (crcPut rT bs) ∧ Ext w w' := by
 obtain ⟨A, c, rfl, h1, h2⟩ := SlR.open_ h
 have HB := Lib.hid h
 have hsl := nextN_lt (T := rT) 0 bs (by decide)
 obtain ⟨sm, hsm⟩ : ∃ sm, nextN rT 0 bs = sm := ⟨_, rfl⟩
 rw [hsm] at hsl
 have hps : crcPut rT bs = bs ++ fourU sm := by unfold crcPut; rw [hsm]
 have Hps := Lib.hid hps
 have Hsm := Lib.hid hsm
 obtain ⟨i0, hi, hz0, hz1, hz2⟩ := info_parts info_u8
 obtain ⟨f0, f1, f2, f3, hf⟩ : ∃ f0 f1 f2 f3 : UInt8, fourU sm = [f0, f1, f2, f3] := ⟨_, _, _, _, rfl⟩
 have Hf := Lib.hid hf
 clear h hps hsm hf
 go_enter Tryz.func32, Tryz.ntmps32
 go_wp2_with fail
 have hE0 : Ext w (w.alloc (.cells #[.slice A bs.length c] 43)) := Ext.alloc (Ext.refl _) _
 refine (refSum_any w.heap.size A c bs _ (Boxed.new w _ _).cell (HB.out.ext hE0) (by omega)).mono ?_
 rw [Hsm.out]
 rintro e w1 ⟨rfl, hE1⟩
 go_wp2_with fail
 refine (refCFour_any sm hsl _).mono ?_
 rw [Hf.out]
 rintro e w2 ⟨rfl, hE2⟩
 simp only [List.map_cons, List.map_nil, bv]
 go_wp2_with fail
 have hE03 : Ext w (w2.alloc (.cells #[.int .u8 (f0.toNat : Int), .int .u8 (f1.toNat : Int), .int .u8 (f2.toNat : Int), .int .u8 (f3.toNat : Int)] 111)) := Ext.alloc (Ext.trans hE0 (Ext.trans hE1 hE2)) _
 have hb3 : Blk (w2.alloc (.cells #[.int .u8 (f0.toNat : Int), .int .u8 (f1.toNat : Int), .int .u8 (f2.toNat : Int), .int .u8 (f3.toNat : Int)] 111)) w2.heap.size 111 ([f0, f1, f2, f3].map bv).toArray := Blk.new w2 _ _
 have h4 : Bs (w2.alloc (.cells #[.int .u8 (f0.toNat : Int), .int .u8 (f1.toNat : Int), .int .u8 (f2.toNat : Int), .int .u8 (f3.toNat : Int)] 111)) (.slice (some ⟨w2.heap.size, 0, none⟩) 4 4) [f0, f1, f2, f3] := blk_slice hb3 rfl (by simp [maxLen])
 refine wp_region_held_drew (S := fun _ => True) (by kernel_rfl) trivial (fun hHeld => ?_)
 refine tkL 1 rfl ?_
 try simp only [Act.put, sA, sZ, sS]
 refine tkL 3 rfl ?_
 try simp only [Act.put, sA, sZ, sS]
 refine AllReadyH.one (i := 0) rfl (by kernel_rfl) (by rfl) (fun K hK => ?_)
 go_simp
 refine hK.out _ _ trivial (fun hHeld => ?_)
 clear hK K
 try simp only [Act.put, sA, sZ, sS]
 have hs3 : (w2.alloc (.cells #[.int .u8 (f0.toNat : Int), .int .u8 (f1.toNat : Int), .int .u8 (f2.toNat : Int), .int .u8 (f3.toNat : Int)] 111)).heap.size = w2.heap.size + 1 := by simp
 generalize hW3 : w2.alloc (.cells #[.int .u8 (f0.toNat : Int), .int .u8 (f1.toNat : Int), .int .u8 (f2.toNat : Int), .int .u8 (f3.toNat : Int)] 111) = w3 at *
 have hon0 := own_new w3 [] 5 0 rfl (by simp [maxLen]) hE03.size
 rw [hs3] at hon0
 have E34 : Ext w3 (w3.alloc (.cells #[] 5)).drew := Ext.drew (Ext.alloc (Ext.refl _) _)
 have hon := own_ext hon0 (Ext.drew (Ext.refl (w3.alloc (.cells #[] 5))))
 have X3 := Ext.trans hE03 E34
 refine AllReadyH.one (i := 2) rfl (by kernel_rfl) (by rfl) (fun K hK => ?_)
 refine wp_append_sl _ (.tmp 8) (.tmp 9) 43 (by rfl) w.heap.size 5 i0 (.int .u8 0) 1 1 Tryz.underlying43 hi hz0 hz1 hz2 rfl (by decide) _ 0 [] (by rfl) hon _ bs.length (bs.map bv) (by rfl) (HB.out.ext X3) (one_bv _) (by unfold maxLen; omega) (by omega) X3.size ?_
 intro v5 w5 ho5 hg5
 refine hK.out _ _ trivial (fun hHeld => ?_)
 clear hK K
 try simp only [Act.put, sA, sZ, sS]
 have X5 : Ext w w5 := Ext.grownOwn X3 hon hg5
 have E35 : Ext w3 w5 := by
  refine Below.grown E34 hg5 E34.size (fun k ek => ?_)
  have : w2.heap.size + 1 = k := by simpa [Value.ownBlock, Act.eval] using ek
  omega
 simp only [Nat.zero_add, List.nil_append] at ho5
 refine AllReadyH.one (i := 4) rfl (by kernel_rfl) (by rfl) (fun K hK => ?_)
 refine wp_append_sl _ (.tmp 10) (.tmp 11) 43 (by rfl) w.heap.size 5 i0 (.int .u8 0) 1 1 Tryz.underlying43 hi hz0 hz1 hz2 rfl (by decide) _ bs.length (bs.map bv) (by rfl) ho5 _ 4 ([f0, f1, f2, f3].map bv) (by rfl) (h4.ext E35) (one_bv _) (by unfold maxLen; omega) (by omega) X5.size ?_
 intro v6 w6 ho6 hg6
 refine hK.out _ _ trivial (fun hHeld => ?_)
 clear hK K
 try simp only [Act.put, sA, sZ, sS]
 have X6 : Ext w w6 := Ext.grownOwn X5 ho5 hg6
 refine tkL 5 rfl ?_
 try simp only [Act.put, sA, sZ, sS]
 refine wpAnyH_done (by kernel_rfl) ?_ _
 go_wp2_with fail
 go_ret
 have hll : (crcPut rT bs).length = bs.length + 4 := by unfold crcPut; rw [List.length_append, fourU_len]
 obtain ⟨A6, c6, rfl, _, _⟩ := SlR.open_ (SlR.of_own ho6)
 rw [hll]
 refine ⟨_, _, rfl, ?_, X6⟩
 show w6.ownsRow w.heap.size 5 1 _ (crcPut rT bs).length ((crcPut rT bs).map bv)
 rw [hll, Hps.out, Hf.out, List.map_append]
 exact ho6
def CTakeP (w : World) (r : Option (List UInt8)) (e : Ending) (w' : World) : Prop := (∃ v, e = .returned (.tuple #[v, .bool r.isSome]) ∧ OwnB w' w.heap.size v (r.getD [])) ∧ Ext w w'
theorem crcTakeS_short {T : Tab} {b : List UInt8} (h : b.length < 4) : crcTakeS T b = none := by
 unfold crcTakeS
 rw [if_neg]
 intro e
 have := congrArg List.length e
 rw [fourU_len, List.length_drop] at this
 omega
theorem crcTakeS_iff {T : Tab} {b : List UInt8} (h : 4 ≤ b.length) : crcTakeS T b = if crcPut T (b.take (b.length - 4)) = b then some (b.take (b.length - 4)) else none := by
 unfold crcTakeS crcPut
 by_cases e : fourU (nextN T 0 (b.take (b.length - 4))) = b.drop (b.length - 4)
 ·rw [if_pos e, if_pos (by rw [e, List.take_append_drop])]
 ·rw [if_neg e, if_neg]
  intro e2
  apply e
  have := congrArg (List.drop (b.length - 4)) e2
  rw [List.drop_append_of_le_length (by rw [List.length_take]; omega)] at this
  rw [← this, List.drop_of_length_le (by rw [List.length_take]; omega), List.nil_append]
theorem refCTake_any (v : Value) (bs : List UInt8) (w : World) (h : Bs w v bs) (hl : bs.length ≤ 2000000) : Calls Tryz.prog 37 #[v] w (CTakeP w (crcTakeS rT bs)) := by
 obtain ⟨A, c, rfl, h1, h2⟩ := SlR.open_ h
 by_cases h4 : bs.length < 4
 ·have hn : ((bs.length : Int) - 4 < 0) := by omega
  have Hr := Lib.hid (crcTakeS_short (T := rT) h4)
  clear h
  go_enter Tryz.func37, Tryz.ntmps37
  go_wp2_with fail
  refine wp_region_held_drew (S := fun _ => True) (by kernel_rfl) trivial (fun hHeld => ?_)
  refine tkL 0 rfl ?_
  try simp only [Act.put, sA, sZ, sS]
  refine tkL 1 rfl ?_
  try simp only [Act.put, sA, sZ, sS]
  refine tkL 2 rfl ?_
  try simp only [Act.put, sA, sZ, sS]
  refine wpAnyH_skipL (i := 3) rfl (by kernel_rfl) (by kernel_rfl) (by kernel_rfl) (fun _ _ _ h => h) (by rfl) (by assumption) ?_
  try simp only [Act.put, sA, sZ, sS]
  refine wpAnyH_skipL (i := 4) rfl (by kernel_rfl) (by kernel_rfl) (by kernel_rfl) (fun _ _ _ h => h) (by rfl) (by assumption) ?_
  try simp only [Act.put, sA, sZ, sS]
  refine wpAnyH_skipL (i := 5) rfl (by kernel_rfl) (by kernel_rfl) (by kernel_rfl) (fun _ _ _ h => h) (by rfl) (by assumption) ?_
  try simp only [Act.put, sA, sZ, sS]
  refine wpAnyH_skipL (i := 6) rfl (by kernel_rfl) (by kernel_rfl) (by kernel_rfl) (fun _ _ _ h => h) (by rfl) (by assumption) ?_
  try simp only [Act.put, sA, sZ, sS]
  refine wpAnyH_skipL (i := 7) rfl (by kernel_rfl) (by kernel_rfl) (by kernel_rfl) (fun _ _ _ h => h) (by rfl) (by assumption) ?_
  try simp only [Act.put, sA, sZ, sS]
  refine wpAnyH_skipL (i := 8) rfl (by kernel_rfl) (by kernel_rfl) (by kernel_rfl) (fun _ _ _ h => h) (by rfl) (by assumption) ?_
  try simp only [Act.put, sA, sZ, sS]
  refine wpAnyH_skipL (i := 9) rfl (by kernel_rfl) (by kernel_rfl) (by kernel_rfl) (fun _ _ _ h => h) (by rfl) (by assumption) ?_
  try simp only [Act.put, sA, sZ, sS]
  refine wpAnyH_skipL (i := 10) rfl (by kernel_rfl) (by kernel_rfl) (by kernel_rfl) (fun _ _ _ h => h) (by rfl) (by assumption) ?_
  try simp only [Act.put, sA, sZ, sS]
  refine tkL 11 rfl ?_
  try simp only [Act.put, sA, sZ, sS]
  refine wpAnyH_done (by kernel_rfl) ?_ _
  go_wp2_with fail
  go_ret2
  exact ⟨⟨_, by rw [Hr.out]; rfl, by rw [Hr.out]; exact World.ownsRow_nil _ _ _ _⟩, Ext.drew (Ext.refl _)⟩
 ·obtain ⟨_, b, off, rfl, _⟩ := Bs.at_ h (by omega)
  obtain ⟨n, hn⟩ : ∃ n, bs.length - 4 = n := ⟨_, rfl⟩
  have hbn : bs.length = n + 4 := by omega
  have hBp := Bs.take h n (by omega)
  have hr := crcTakeS_iff (T := rT) (b := bs) (by omega)
  rw [hn] at hr
  obtain ⟨p, hp⟩ : ∃ p, bs.take n = p := ⟨_, rfl⟩
  have hpl : p.length = n := by rw [← hp, List.length_take]; omega
  rw [hp] at hBp hr
  have HB := Lib.hid h
  have HBp := Lib.hid hBp
  have Hr := Lib.hid hr
  have Hpl := Lib.hid hpl
  have e1 : ¬ ((bs.length : Int) - 4 < 0) := by omega
  have e2 : (bs.length : Int) - 4 = (n : Int) := by omega
  have e3 : (n : Int) ≤ (c : Int) := by omega
  have e4 : ((n : Int) < 0) = False := by simp
  have e5 : decide ((n : Int) < 0) = false := by simp
  clear h hBp hr hp hpl
  go_enter Tryz.func37, Tryz.ntmps37
  go_wp2_with fail
  refine wp_region_held_drew (S := fun W => Ext w W) (by kernel_rfl) (Ext.drew (Ext.refl _)) (fun hHeld => ?_)
  refine tkL 0 rfl ?_
  try simp only [Act.put, sA, sZ, sS]
  refine tkL 1 rfl ?_
  try simp only [Act.put, sA, sZ, sS]
  refine tkL 2 rfl ?_
  try simp only [Act.put, sA, sZ, sS]
  refine tkL 3 rfl ?_
  try simp only [Act.put, sA, sZ, sS]
  refine tkL 4 rfl ?_
  try simp only [Act.put, sA, sZ, sS]
  refine tkL 5 rfl ?_
  try simp only [Act.put, sA, sZ, sS]
  refine tkL 8 rfl ?_
  try simp only [Act.put, sA, sZ, sS]
  refine wpAnyH_takeL (i := 9) (v := .string ⟨bs.toArray⟩) rfl (by kernel_rfl) (by kernel_rfl) (by kernel_rfl) (fun _ _ _ h => h) (by rfl) (by assumption) (fun w' hw => ?hc) ?rc
  case hc =>
   have hcv := run_convert_sl (P := Tryz.prog) w' 43 9 5 Tryz.underlying43 Tryz.underlying5 Tryz.underlying9 (HB.out.ext hw)
   rw [hbn] at hcv
   go_simp
   try with_reducible rfl
  case' rc => skip
  try simp only [Act.put, sA, sZ, sS]
  refine AllReadyH.one (i := 6) rfl (by kernel_rfl) (by rfl) (fun K hK => ?_)
  go_simp
  refine (refPut_any _ _ _ (HBp.out.ext (Ext.drew (Ext.refl _))) (by rw [Hpl.out]; omega)).mono ?_
  rintro e w2 ⟨A2, c2, rfl, ho2, hE2⟩
  try (go_wp2_with fail)
  have X2 : Ext w w2 := Ext.trans (Ext.drew (Ext.refl _)) hE2
  refine hK.out _ _ X2 (fun hHeld => ?_)
  clear hK K
  try simp only [Act.put, sA, sZ, sS]
  refine AllReadyH.one (i := 7) rfl (by kernel_rfl) (by rfl) (fun K hK => ?_)
  refine wp_convert_sl _ 43 9 5 (.tmp 14) (by rfl) Tryz.underlying43 Tryz.underlying5 Tryz.underlying9 (by rfl) ho2.bs ?_
  refine hK.out _ _ X2 (fun hHeld => ?_)
  clear hK K
  try simp only [Act.put, sA, sZ, sS]
  obtain ⟨q, hq⟩ : ∃ q, crcPut rT p = q := ⟨_, rfl⟩
  have Hr2 : Hid (crcTakeS rT bs = if q = bs then some p else none) := by rw [Hid, ← hq]; exact Hr.out
  rw [hq]
  clear hq ho2 Hr
  by_cases hqb : q = bs
  ·subst hqb
   have Hr3 : Hid (crcTakeS rT q = some p) := by rw [Hid, Hr2.out, if_pos rfl]
   clear Hr2
   refine tkL 10 rfl ?_
   try simp only [Act.put, sA, sZ, sS]
   refine tkL 11 rfl ?_
   try simp only [Act.put, sA, sZ, sS]
   refine wpAnyH_done (by kernel_rfl) ?_ _
   have hon : (w2.alloc (.cells #[] 5)).ownsRow w.heap.size 5 1 (.slice (some ⟨w2.heap.size, 0, none⟩) 0 0) 0 [] := own_new w2 [] 5 0 rfl (by simp [maxLen]) X2.size
   go_wp2_with (at_builtin; refine wpList_app_b rfl (.tmp 20) (.tmp 23) rfl w.heap.size _ [] rfl hon _ p rfl (HBp.out.ext (Ext.alloc X2 _)) (by have := Hpl.out; simp; omega) (by have := X2.size; simp; omega) ?_; intro A5 c5 w5 ho5 hG5; have hE5 : Ext w w5 := hG5 w (Ext.alloc X2 _) (Nat.le_refl _); simp only [List.length_nil, Nat.zero_add, List.nil_append] at ho5 ⊢)
   go_ret2
   exact ⟨⟨_, by rw [Hr3.out]; rfl, by rw [Hr3.out]; exact ho5⟩, hE5⟩
  ·have Hr3 : Hid (crcTakeS rT bs = none) := by rw [Hid, Hr2.out, if_neg hqb]
   have hqb2 : (q == bs) = false := by simpa using hqb
   clear Hr2
   refine tkL 10 rfl ?_
   try simp only [Act.put, sA, sZ, sS]
   refine tkL 11 rfl ?_
   try simp only [Act.put, sA, sZ, sS]
   refine wpAnyH_done (by kernel_rfl) ?_ _
   go_wp2_with fail
   go_ret2
   exact ⟨⟨_, by rw [Hr3.out]; rfl, by rw [Hr3.out]; exact World.ownsRow_nil _ _ _ _⟩, X2⟩
end Go.Proofs.YtmecffckghkahaaGreatDoor
