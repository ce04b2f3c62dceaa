/- Merged: Rd6 Sh3 -/
import Derived.Test.YtmecffckghkahaaGreatDoorShadowSays27
set_option linter.all false
set_option maxHeartbeats 8000000
namespace Go.Proofs.YtmecffckghkahaaGreatDoor
open Go.RowKit Go.Mv
set_option maxRecDepth 100000
def tup0 : Tup := ⟨staZ, [], 0, 0⟩
structure Rd where
 err : Int
 t : Tup
 m : Mf
def rdBad (e : Int) : Rd := ⟨e, tup0, mf0⟩
def tellS (fs : List Fil) : Rd := match bytesS fs (nameS 1 0 0) with
 | none => rdBad 42
 | some b => match takeM b with
  | none => rdBad 130
  | some m => match stateS fs m with
   | none => rdBad 130
   | some s => if (logS fs m s.idx).2 && rightT ⟨s, (logS fs m s.idx).1, m.term, m.vote⟩ then ⟨0, ⟨s, (logS fs m s.idx).1, m.term, m.vote⟩, m⟩ else rdBad 130
def TellP (w : World) (r : Rd) (e : Ending) (w' : World) : Prop := ∃ vl vs, e = .returned (.tuple #[.agg #[.int .i64 r.t.s.idx, .int .i64 r.t.s.term, .int .i64 r.t.s.sum, .int .i64 r.t.s.lvl, .bool r.t.s.fin, vl, .int .i64 r.t.term, .int .i64 r.t.vote], .agg #[.int .i64 r.m.next, .int .i64 r.m.term, .int .i64 r.m.vote, .int .i64 r.m.sq, .int .i64 r.m.sf, vs], .int .i64 r.err]) ∧ Es w' vl r.t.log ∧ Sgs w' vs r.m.segs ∧ Ext w w'
theorem takeM_check {b : List UInt8} {m : Mf} (h : takeM b = some m) : checkM m = true ∧ putM m = some b := by
 unfold takeM at h
 split at h
 ·cases h
 ·split at h
  ·cases h
  ·split at h
   ·rename_i hp
    cases h
    refine ⟨?_, hp⟩
    unfold putM at hp
    split at hp
    ·assumption
    ·cases hp
   ·cases h
theorem checkM_segs {m : Mf} (h : checkM m = true) : ∀ s ∈ m.segs, 1 ≤ s.first ∧ s.first ≤ 1073741820 ∧ -1 ≤ s.count ∧ s.count ≤ 4 := by
 intro s hs
 unfold checkM at h
 rw [Bool.and_eq_true] at h
 exact segsOk_prev h.2 s (by rw [List.take_length]; exact hs)
theorem stateS_idx {fs : List Fil} {m : Mf} {s : Sta} (h : stateS fs m = some s) : s.ok = true ∧ 0 ≤ s.idx ∧ s.idx ≤ 1073741824 := by
 have hok : s.ok = true := by
  unfold stateS at h
  split at h
  ·cases h; rfl
  ·split at h
   ·cases h
   ·exact (takeR_some h).1
 have := (Sta.okP hok).1
 unfold numB at this
 simp at this
 exact ⟨hok, this⟩
theorem blk8f {W : World} {b : Nat} {t : TypeId} {cs : Array Value} (h : Blk W b t cs) : W.frozen? ⟨b, 0, none⟩ = false ∧ W.frozen? ⟨b, 1, none⟩ = false ∧ W.frozen? ⟨b, 2, none⟩ = false ∧ W.frozen? ⟨b, 3, none⟩ = false ∧ W.frozen? ⟨b, 4, none⟩ = false ∧ W.frozen? ⟨b, 5, none⟩ = false ∧ W.frozen? ⟨b, 6, none⟩ = false ∧ W.frozen? ⟨b, 7, none⟩ = false :=
 ⟨h.frozen 0, h.frozen 1, h.frozen 2, h.frozen 3, h.frozen 4, h.frozen 5, h.frozen 6, h.frozen 7⟩
def set8 (W : World) (b : Nat) (a v u x y z p q : Value) : World := (((((((W.setCell ⟨b, 0, none⟩ a).setCell ⟨b, 1, none⟩ v).setCell ⟨b, 2, none⟩ u).setCell ⟨b, 3, none⟩ x).setCell ⟨b, 4, none⟩ y).setCell ⟨b, 5, none⟩ z).setCell ⟨b, 6, none⟩ p).setCell ⟨b, 7, none⟩ q
theorem blk_set8 {W : World} {b : Nat} {t : TypeId} {a v u x y z p q : Value} (h : Blk W b t #[a, v, u, x, y, z, p, q]) (a' v' u' x' y' z' p' q' : Value) : Blk (set8 W b a' v' u' x' y' z' p' q') b t #[a', v', u', x', y', z', p', q'] := by
 have h0 : Blk _ b t #[a', v, u, x, y, z, p, q] := h.set 0 a'
 have h1 : Blk _ b t #[a', v', u, x, y, z, p, q] := h0.set 1 v'
 have h2 : Blk _ b t #[a', v', u', x, y, z, p, q] := h1.set 2 u'
 have h3 : Blk _ b t #[a', v', u', x', y, z, p, q] := h2.set 3 x'
 have h4 : Blk _ b t #[a', v', u', x', y', z, p, q] := h3.set 4 y'
 have h5 : Blk _ b t #[a', v', u', x', y', z', p, q] := h4.set 5 z'
 have h6 : Blk _ b t #[a', v', u', x', y', z', p', q] := h5.set 6 p'
 have h7 : Blk _ b t #[a', v', u', x', y', z', p', q'] := h6.set 7 q'
 exact h7
theorem blk_oth8 {W : World} {b c : Nat} {t : TypeId} {cs : Array Value} (h : Blk W b t cs) (hne : b ≠ c) (a' v' u' x' y' z' p' q' : Value) : Blk (set8 W c a' v' u' x' y' z' p' q') b t cs :=
 (((((((h.other hne 0 a').other hne 1 v').other hne 2 u').other hne 3 x').other hne 4 y').other hne 5 z').other hne 6 p').other hne 7 q'
theorem ext_set8 {w W : World} (h : Ext w W) {b : Nat} (hb : w.heap.size ≤ b) (a' v' u' x' y' z' p' q' : Value) : Ext w (set8 W b a' v' u' x' y' z' p' q') :=
 (((((((Below.setCell h hb a').setCell hb v').setCell hb u').setCell hb x').setCell hb y').setCell hb z').setCell hb p').setCell hb q'
def set6 (W : World) (b : Nat) (a v u x y z : Value) : World := (((((W.setCell ⟨b, 0, none⟩ a).setCell ⟨b, 1, none⟩ v).setCell ⟨b, 2, none⟩ u).setCell ⟨b, 3, none⟩ x).setCell ⟨b, 4, none⟩ y).setCell ⟨b, 5, none⟩ z
theorem blk_oth6 {W : World} {b c : Nat} {t : TypeId} {cs : Array Value} (h : Blk W b t cs) (hne : b ≠ c) (a' v' u' x' y' z' : Value) : Blk (set6 W c a' v' u' x' y' z') b t cs :=
 (((((h.other hne 0 a').other hne 1 v').other hne 2 u').other hne 3 x').other hne 4 y').other hne 5 z'
theorem own_of8 {W : World} {b : Nat} {t : TypeId} {cs : Array Value} (hB : Blk W b t cs) {e : TypeId} (hte : t ≠ e) {base size k : Nat} {vv : Value} {xs : List Value} (hr : W.ownsRow base e size vv k xs) (a' v' u' x' y' z' p' q' : Value) : (set8 W b a' v' u' x' y' z' p' q').ownsRow base e size vv k xs := by
 have r0 := hr.kept (grownBy_set _ b 0 a') (.inr (hB.not_row hte hr).symm)
 have b0 := hB.set 0 a'
 have r1 := r0.kept (grownBy_set _ b 1 v') (.inr (b0.not_row hte r0).symm)
 have b1 := b0.set 1 v'
 have r2 := r1.kept (grownBy_set _ b 2 u') (.inr (b1.not_row hte r1).symm)
 have b2 := b1.set 2 u'
 have r3 := r2.kept (grownBy_set _ b 3 x') (.inr (b2.not_row hte r2).symm)
 have b3 := b2.set 3 x'
 have r4 := r3.kept (grownBy_set _ b 4 y') (.inr (b3.not_row hte r3).symm)
 have b4 := b3.set 4 y'
 have r5 := r4.kept (grownBy_set _ b 5 z') (.inr (b4.not_row hte r4).symm)
 have b5 := b4.set 5 z'
 have r6 := r5.kept (grownBy_set _ b 6 p') (.inr (b5.not_row hte r5).symm)
 have b6 := b5.set 6 p'
 have r7 := r6.kept (grownBy_set _ b 7 q') (.inr (b6.not_row hte r6).symm)
 have b7 := b6.set 7 q'
 exact r7
theorem own_of6 {W : World} {b : Nat} {t : TypeId} {cs : Array Value} (hB : Blk W b t cs) {e : TypeId} (hte : t ≠ e) {base size k : Nat} {vv : Value} {xs : List Value} (hr : W.ownsRow base e size vv k xs) (a' v' u' x' y' z' : Value) : (set6 W b a' v' u' x' y' z').ownsRow base e size vv k xs := by
 have r0 := hr.kept (grownBy_set _ b 0 a') (.inr (hB.not_row hte hr).symm)
 have b0 := hB.set 0 a'
 have r1 := r0.kept (grownBy_set _ b 1 v') (.inr (b0.not_row hte r0).symm)
 have b1 := b0.set 1 v'
 have r2 := r1.kept (grownBy_set _ b 2 u') (.inr (b1.not_row hte r1).symm)
 have b2 := b1.set 2 u'
 have r3 := r2.kept (grownBy_set _ b 3 x') (.inr (b2.not_row hte r2).symm)
 have b3 := b2.set 3 x'
 have r4 := r3.kept (grownBy_set _ b 4 y') (.inr (b3.not_row hte r3).symm)
 have b4 := b3.set 4 y'
 have r5 := r4.kept (grownBy_set _ b 5 z') (.inr (b4.not_row hte r4).symm)
 have b5 := b4.set 5 z'
 exact r5
theorem tupUnder : Tryz.prog.underlying 27 = some (.struct (Tryz.prog.fieldsOf 27)) := by kernel_rfl
theorem tell_res (tmps : Array Value) (W : World) (b c : Nat) (cs ds : Array Value) (u : Value) (h2 : tmps.getD 2 undef = .pointer (some ⟨b, 0, none⟩)) (h3 : tmps.getD 3 undef = .pointer (some ⟨c, 0, none⟩)) (h4 : tmps.getD 4 undef = u) (hb : Blk W b 27 cs) (hc : Blk W c 32 ds) (hs : cs.size = 8) (hd : ds.size = 6) : (results Tryz.f5 tmps).run Tryz.prog W = .ok (.tuple #[.agg cs, .agg ds, u]) W := by
 have hl := hb.load (P := Tryz.prog) tupUnder rfl (by rw [hs]; kernel_rfl)
 have hm := hc.load (P := Tryz.prog) mfUnder rfl (by rw [hd]; kernel_rfl)
 have h2' : tmps[2]?.getD undef = .pointer (some ⟨b, 0, none⟩) := by simpa using h2
 have h3' : tmps[3]?.getD undef = .pointer (some ⟨c, 0, none⟩) := by simpa using h3
 have h4' : tmps[4]?.getD undef = u := by simpa using h4
 simp [results, Tryz.results5, h2', h3', h4', asAddr, hl, hm]
theorem tell_bad (tmps : Array Value) (w W : World) (b c : Nat) (x0 x1 x2 x3 x4 x5 x6 x7 y0 y1 y2 y3 y4 y5 : Value) (er : Int) (R : Rd) (hR : rdBad er = R) (h2 : tmps.getD 2 undef = .pointer (some ⟨b, 0, none⟩)) (h3 : tmps.getD 3 undef = .pointer (some ⟨c, 0, none⟩)) (h4 : tmps.getD 4 undef = .int .i64 er)
  (hb : Blk W b 27 #[x0, x1, x2, x3, x4, x5, x6, x7]) (hc : Blk W c 32 #[y0, y1, y2, y3, y4, y5]) (hE : Ext w W) (hb0 : w.heap.size ≤ b) (hc0 : w.heap.size ≤ c) (hne : b ≠ c) :
  bodyPost Tryz.prog Tryz.f5 (TellP w R) .ret { tmps := tmps, defers := [] } (set6 (set8 W b (.int .i64 0) (.int .i64 0) (.int .i64 0) (.int .i64 0) (.bool false) (.slice none 0 0) (.int .i64 0) (.int .i64 0)) c (.int .i64 0) (.int .i64 0) (.int .i64 0) (.int .i64 0) (.int .i64 0) (.slice none 0 0)) := by
 refine bodyPost_ret (tell_res _ _ b c _ _ _ h2 h3 h4 (blk_oth6 (blk_set8 hb _ _ _ _ _ _ _ _) hne _ _ _ _ _ _) (blk_set6 (blk_oth8 hc hne.symm _ _ _ _ _ _ _ _) _ _ _ _ _ _) rfl rfl) rfl ?_
 subst hR
 exact ⟨_, _, rfl, SlR.nil _ 3, Sgs.nil _, ext_set6 (ext_set8 hE hb0 _ _ _ _ _ _ _ _) hc0 _ _ _ _ _ _⟩
theorem Read13_any (v : Value) (fs : List Fil) (w : World) (hS : StW w) (hF : Fs w v fs) (hl : fs.length ≤ 4000000) (hbl : ∀ f ∈ fs, f.2.length ≤ 2000000) :
  Calls Tryz.prog 5 #[v] w (TellP w (tellS fs)) := by
 obtain ⟨A, c, rfl, _, _⟩ := Fs.open_ hF
 obtain ⟨x1, hx1⟩ : ∃ x : Array Value, #[.int .i64 0, .int .i64 0, .int .i64 0, .int .i64 0, .bool false, .slice none 0 0, .int .i64 0, .int .i64 0] = x := ⟨_, rfl⟩
 obtain ⟨x2, hx2⟩ : ∃ x : Array Value, #[.int .i64 0, .int .i64 0, .int .i64 0, .int .i64 0, .int .i64 0, .slice none 0 0] = x := ⟨_, rfl⟩
 have hb0 := Blk.new w 27 x1
 have hb1 := hb0.alloc (.cells x2 32)
 have hb2 := Blk.new (w.alloc (.cells x1 27)) 32 x2
 rw [World.size_alloc] at hb2
 have hX : Ext w ((w.alloc (.cells x1 27)).alloc (.cells x2 32)) := Ext.alloc (Ext.alloc (Ext.refl _) _) _
 subst hx1 hx2
 have key := bytes13_any _ fs 1 0 0 _ (hS.ext hX) (hF.ext hX) hl
 obtain ⟨R, hR⟩ : ∃ R, tellS fs = R := ⟨_, rfl⟩
 rw [hR]
 unfold tellS at hR
 have hmem : ∀ b, bytesS fs (nameS 1 0 0) = some b → b.length ≤ 2000000 := fun b h => by
  obtain ⟨f, hf, rfl⟩ := bytesS_mem3 h; exact hbl f hf
 obtain ⟨rb, hrb⟩ : ∃ r, bytesS fs (nameS 1 0 0) = r := ⟨_, rfl⟩
 rw [hrb] at key hR hmem
 have HR := Lib.hid hR
 have Hm := Lib.hid hb1
 have Hr := Lib.hid hb2
 have HX := Lib.hid hX
 have Key := Lib.hid key
 have HS := Lib.hid hS
 have HF := Lib.hid hF
 have Hbl := Lib.hid hbl
 have Hmem := Lib.hid hmem
 clear hb0 hb1 hb2 hX key hF hS hbl hmem hrb hR
 go_enter Tryz.func5, Tryz.ntmps5
 go_wp2_with fail
 refine Key.out.mono ?_
 rintro e w1 ⟨v1, rfl, hB1, hE1⟩
 have HE1 := Lib.hid (Ext.trans HX.out hE1)
 have hT1 := Hm.out.ext hE1
 have hM1 := Hr.out.ext hE1
 have HT1 := Lib.hid hT1
 have HM1 := Lib.hid hM1
 cases rb with
 | none =>
  have hR : rdBad 42 = R := HR.out
  obtain ⟨f0, f1, f2, f3, f4, f5, f6, f7⟩ := blk8f hT1
  obtain ⟨d0, d1, d2, d3, d4, d5, d6, d7⟩ := blk8f hM1
  obtain ⟨g0, g1, g2, g3, g4, g5, g6, g7⟩ := blk8 hT1
  obtain ⟨c0, c1, c2, c3, c4, c5⟩ := blk6 hM1
  dsimp only [Option.isSome]
  go_wp2_with fail
  exact tell_bad _ w w1 w.heap.size (w.heap.size + 1) _ _ _ _ _ _ _ _ _ _ _ _ _ _ 42 R hR rfl rfl rfl HT1.out HM1.out HE1.out (by omega) (by omega) (by omega)
 | some b =>
  have hbl := Hmem.out b rfl
  dsimp only [Option.isSome, Option.getD] at hB1 ⊢
  have key2 := TakeM_any v1 b w1 hB1 hbl
  have HR2 := HR.out
  dsimp only at HR2
  obtain ⟨rm, hrm⟩ : ∃ r, takeM b = r := ⟨_, rfl⟩
  have hck : ∀ m, rm = some m → checkM m = true := fun m h => (takeM_check (hrm.trans h)).1
  rw [hrm] at key2 HR2
  have Hck := Lib.hid hck
  have HR3 := Lib.hid HR2
  have Key2 := Lib.hid key2
  clear key2 HR HR2 hrm hck hB1 hT1 hM1
  go_wp2_with fail
  refine Key2.out.mono ?_
  rintro e w2 ⟨vs, rfl, hO2, hE2⟩
  have hG2 := hO2.sgs
  obtain ⟨B, d, rfl, _, _⟩ := hG2.open_
  cases rm with
  | none =>
   have hR : rdBad 130 = R := HR3.out
   dsimp only [Option.isSome, Option.getD]
   obtain ⟨y, hy⟩ : ∃ y : Array Value, #[.int .i64 mf0.next, .int .i64 mf0.term, .int .i64 mf0.vote, .int .i64 mf0.sq, .int .i64 mf0.sf, .slice B mf0.segs.length d] = y := ⟨_, rfl⟩
   have hE3 : Ext w1 (w2.alloc (.cells y 32)) := Ext.alloc hE2 _
   have HE3 := Lib.hid (Ext.trans HE1.out hE3)
   have hT3 := HT1.out.ext hE3
   have hM3 := HM1.out.ext hE3
   subst hy
   have HT3 := Lib.hid hT3
   have HM3 := Lib.hid hM3
   obtain ⟨f0, f1, f2, f3, f4, f5, f6, f7⟩ := blk8f hT3
   obtain ⟨d0, d1, d2, d3, d4, d5, d6, d7⟩ := blk8f hM3
   obtain ⟨g0, g1, g2, g3, g4, g5, g6, g7⟩ := blk8 hT3
   obtain ⟨c0, c1, c2, c3, c4, c5⟩ := blk6 hM3
   clear hT3 hM3 hE3 hE2 hG2 hE1
   go_wp2_with fail
   exact tell_bad _ w _ w.heap.size (w.heap.size + 1) _ _ _ _ _ _ _ _ _ _ _ _ _ _ 130 R hR rfl rfl rfl HT3.out HM3.out HE3.out (by omega) (by omega) (by omega)
  | some m =>
   have hchk := Hck.out m rfl
   dsimp only [Option.isSome, Option.getD] at hG2 hO2 ⊢
   have HR4 := HR3.out
   dsimp only at HR4
   obtain ⟨y, hy⟩ : ∃ y : Array Value, #[.int .i64 m.next, .int .i64 m.term, .int .i64 m.vote, .int .i64 m.sq, .int .i64 m.sf, .slice B m.segs.length d] = y := ⟨_, rfl⟩
   have hE3 : Ext w1 (w2.alloc (.cells y 32)) := Ext.alloc hE2 _
   have HO3 : Hid (OwnS (w2.alloc (.cells y 32)) w1.heap.size (.slice B m.segs.length d) m.segs) := Lib.hid (own_ext hO2 (Ext.alloc (Ext.refl w2) _))
   have HG3 := Lib.hid (hG2.ext (Ext.alloc (Ext.refl w2) (.cells y 32)))
   have HE3 := Lib.hid (Ext.trans HE1.out hE3)
   have HT3 := Lib.hid (HT1.out.ext hE3)
   have HM3 := Lib.hid (HM1.out.ext hE3)
   have HQ3 := Lib.hid (Blk.new w2 32 y)
   have hsz2 : w.heap.size + 2 ≤ w2.heap.size := by
    have h1 := hE1.size
    have h2 := hE2.size
    simp at h1
    omega
   subst hy
   have key3 := state13_any _ _ fs m _ (HS.out.ext HE3.out) (HF.out.ext HE3.out) HG3.out hl Hbl.out
   obtain ⟨rs, hrs⟩ : ∃ r, stateS fs m = r := ⟨_, rfl⟩
   have hix : ∀ s, rs = some s → 0 ≤ s.idx ∧ s.idx ≤ 1073741824 := fun s h => (stateS_idx (hrs.trans h)).2
   rw [hrs] at key3 HR4
   have HR5 := Lib.hid HR4
   have Hix := Lib.hid hix
   have Key3 := Lib.hid key3
   have Hchk := Lib.hid hchk
   obtain ⟨q0, q1, q2, q3, q4, q5⟩ := blk6 HQ3.out
   clear HR3 HR4 hix key3 hrs hchk hE3 hE2 hE1 hG2 Key2 Hck
   go_wp2_with fail
   refine Key3.out.mono ?_
   rintro e w4 ⟨rfl, hE4⟩
   have hT4 := HT3.out.ext hE4
   have hM4 := HM3.out.ext hE4
   have hQ4 := HQ3.out.ext hE4
   have HE4 := Lib.hid (Ext.trans HE3.out hE4)
   have HG4 := Lib.hid (HG3.out.ext hE4)
   have HO4 := Lib.hid (own_ext HO3.out hE4)
   have hsz4 := hE4.size
   rw [World.size_alloc] at hsz4
   clear q0 q1 q2 q3 q4 q5 Key3
   cases rs with
   | none =>
    have hR : rdBad 130 = R := HR5.out
    obtain ⟨z, hz⟩ : ∃ z : Array Value, #[.int .i64 staZ.idx, .int .i64 staZ.term, .int .i64 staZ.sum, .int .i64 staZ.lvl, .bool staZ.fin] = z := ⟨_, rfl⟩
    have hE5 : Ext w4 (w4.alloc (.cells z 24)) := Ext.alloc (Ext.refl _) _
    have HE5 := Lib.hid (Ext.trans HE4.out hE5)
    have hT5 := hT4.ext hE5
    have hM5 := hM4.ext hE5
    subst hz
    have HT5 := Lib.hid hT5
    have HM5 := Lib.hid hM5
    obtain ⟨f0, f1, f2, f3, f4, f5, f6, f7⟩ := blk8f hT5
    obtain ⟨d0, d1, d2, d3, d4, d5, d6, d7⟩ := blk8f hM5
    obtain ⟨g0, g1, g2, g3, g4, g5, g6, g7⟩ := blk8 hT5
    obtain ⟨c0, c1, c2, c3, c4, c5⟩ := blk6 hM5
    clear hT5 hM5 hT4 hM4 hQ4 hE5 hE4
    dsimp only [Option.isSome, Option.getD]
    go_wp2_with fail
    exact tell_bad _ w _ w.heap.size (w.heap.size + 1) _ _ _ _ _ _ _ _ _ _ _ _ _ _ 130 R hR rfl rfl rfl HT5.out HM5.out HE5.out (by omega) (by omega) (by omega)
   | some s =>
    obtain ⟨ix0, ix1⟩ := Hix.out s rfl
    have HR6 := HR5.out
    dsimp only at HR6
    dsimp only [Option.isSome, Option.getD]
    obtain ⟨z, hz⟩ : ∃ z : Array Value, #[.int .i64 s.idx, .int .i64 s.term, .int .i64 s.sum, .int .i64 s.lvl, .bool s.fin] = z := ⟨_, rfl⟩
    have hE5 : Ext w4 (w4.alloc (.cells z 24)) := Ext.alloc (Ext.refl _) _
    have HE5 := Lib.hid (Ext.trans HE4.out hE5)
    have HT5 := Lib.hid (hT4.ext hE5)
    have HM5 := Lib.hid (hM4.ext hE5)
    have HQ5 := Lib.hid (hQ4.ext hE5)
    have HG5 := Lib.hid (HG4.out.ext hE5)
    have HO5 := Lib.hid (own_ext HO4.out hE5)
    have HZ5 := Lib.hid (Blk.new w4 24 z)
    subst hz
    obtain ⟨q0, q1, q2, q3, q4, q5⟩ := blk6 HQ5.out
    obtain ⟨z0, z1, z2, z3, z4⟩ := blk5 HZ5.out
    have hseg := checkM_segs Hchk.out
    have hn60 : m.segs.length ≤ 60 := (checkM_b Hchk.out).2.2.2.1
    have key4 := log13_any _ _ fs m s.idx _ (HS.out.ext HE5.out) (HF.out.ext HE5.out) HG5.out hl Hbl.out hseg ⟨ix0, ix1⟩ hn60
    obtain ⟨rl, hrl⟩ : ∃ r, logS fs m s.idx = r := ⟨_, rfl⟩
    rw [hrl] at key4 HR6
    obtain ⟨lg, ok⟩ := rl
    have HR7 := Lib.hid HR6
    have Key4 := Lib.hid key4
    clear hseg hn60 key4 hrl HR6 hT4 hM4 hQ4 hE5 hE4 ix0 ix1 HR5
    go_wp2_with fail
    refine Key4.out.mono ?_
    rintro e w6 ⟨vl, rfl, hLo, hE6⟩
    dsimp only at hLo ⊢
    have hL6 := OwnE.es hLo
    have hsz6 := hE6.size
    rw [World.size_alloc] at hsz6
    obtain ⟨Al, cl, rfl, _, _⟩ := SlR.open_ hL6
    obtain ⟨q0, q1, q2, q3, q4, q5⟩ := blk6 (HQ5.out.ext hE6)
    obtain ⟨z0, z1, z2, z3, z4⟩ := blk5 (HZ5.out.ext hE6)
    obtain ⟨y, hy⟩ : ∃ y : Array Value, #[.int .i64 s.idx, .int .i64 s.term, .int .i64 s.sum, .int .i64 s.lvl, .bool s.fin, .slice Al lg.length cl, .int .i64 m.term, .int .i64 m.vote] = y := ⟨_, rfl⟩
    have hE7 : Ext w6 (w6.alloc (.cells y 27)) := Ext.alloc (Ext.refl _) _
    have hE57 := Ext.trans hE6 hE7
    have HE7 := Lib.hid (Ext.trans HE5.out hE57)
    have HT7 := Lib.hid (HT5.out.ext hE57)
    have HM7 := Lib.hid (HM5.out.ext hE57)
    have HQ7 := Lib.hid (HQ5.out.ext hE57)
    have HG7 := Lib.hid (HG5.out.ext hE57)
    have HO7 := Lib.hid (own_ext HO5.out hE57)
    have HL7 := Lib.hid (Es.ext hL6 hE7)
    have HK7 := Lib.hid (OwnE.ext hLo hE7)
    have HY7 := Lib.hid (Blk.new w6 27 y)
    subst hy
    clear hE57 hE7 hE6 hL6 Key4
    have key5 := RightT_any ⟨s, lg, m.term, m.vote⟩ _ _ HL7.out
    obtain ⟨rr, hrr⟩ : ∃ r, rightT ⟨s, lg, m.term, m.vote⟩ = r := ⟨_, rfl⟩
    have HR8 := HR7.out
    rw [hrr] at key5 HR8
    have HR9 := Lib.hid HR8
    have Key5 := Lib.hid key5
    clear key5 HR8 HR7 hrr
    obtain ⟨t0, t1, t2, t3, t4, t5, t6, t7⟩ := blk8 HY7.out
    cases ok with
    | false =>
     have hR : rdBad 130 = R := HR9.out
     clear t0 t1 t2 t3 t4 t5 t6 t7
     obtain ⟨f0, f1, f2, f3, f4, f5, f6, f7⟩ := blk8f HT7.out
     obtain ⟨d0, d1, d2, d3, d4, d5, d6, d7⟩ := blk8f HM7.out
     obtain ⟨g0, g1, g2, g3, g4, g5, g6, g7⟩ := blk8 HT7.out
     obtain ⟨c0, c1, c2, c3, c4, c5⟩ := blk6 HM7.out
     go_wp2_with fail
     exact tell_bad _ w _ w.heap.size (w.heap.size + 1) _ _ _ _ _ _ _ _ _ _ _ _ _ _ 130 R hR rfl rfl rfl HT7.out HM7.out HE7.out (by omega) (by omega) (by omega)
    | true =>
     go_wp2_with fail
     refine Key5.out.mono ?_
     rintro e w8 ⟨rfl, hE8⟩
     have HT8 := Lib.hid (HT7.out.ext hE8)
     have HM8 := Lib.hid (HM7.out.ext hE8)
     have HQ8 := Lib.hid (HQ7.out.ext hE8)
     have HY8 := Lib.hid (HY7.out.ext hE8)
     have HE8 := Lib.hid (Ext.trans HE7.out hE8)
     have HK8 := Lib.hid (OwnE.ext HK7.out hE8)
     have HO8 := Lib.hid (own_ext HO7.out hE8)
     clear q0 q1 q2 q3 q4 q5 z0 z1 z2 z3 z4 t0 t1 t2 t3 t4 t5 t6 t7 hE8 Key5
     cases rr with
     | false =>
      have hR : rdBad 130 = R := HR9.out
      obtain ⟨f0, f1, f2, f3, f4, f5, f6, f7⟩ := blk8f HT8.out
      obtain ⟨d0, d1, d2, d3, d4, d5, d6, d7⟩ := blk8f HM8.out
      obtain ⟨g0, g1, g2, g3, g4, g5, g6, g7⟩ := blk8 HT8.out
      obtain ⟨c0, c1, c2, c3, c4, c5⟩ := blk6 HM8.out
      go_wp2_with fail
      exact tell_bad _ w _ w.heap.size (w.heap.size + 1) _ _ _ _ _ _ _ _ _ _ _ _ _ _ 130 R hR rfl rfl rfl HT8.out HM8.out HE8.out (by omega) (by omega) (by omega)
     | true =>
      obtain ⟨q0, q1, q2, q3, q4, q5⟩ := blk6 HQ8.out
      obtain ⟨t0, t1, t2, t3, t4, t5, t6, t7⟩ := blk8 HY8.out
      obtain ⟨f0, f1, f2, f3, f4, f5, f6, f7⟩ := blk8f HT8.out
      obtain ⟨d0, d1, d2, d3, d4, d5, d6, d7⟩ := blk8f HM8.out
      obtain ⟨g0, g1, g2, g3, g4, g5, g6, g7⟩ := blk8 HT8.out
      obtain ⟨c0, c1, c2, c3, c4, c5⟩ := blk6 HM8.out
      go_wp2_with fail
      have hR : (⟨0, ⟨s, lg, m.term, m.vote⟩, m⟩ : Rd) = R := HR9.out
      have hn6 : w6.heap.size ≠ w.heap.size := by omega
      have hn2 : w2.heap.size ≠ w.heap.size := by omega
      have hn61 : w6.heap.size ≠ w.heap.size + 1 := by omega
      have hn21 : w2.heap.size ≠ w.heap.size + 1 := by omega
      refine wp_region_held_drew (S := fun W => W.cell? ⟨w6.heap.size, 0, none⟩ = some (.int .i64 s.idx) ∧ W.cell? ⟨w6.heap.size, 1, none⟩ = some (.int .i64 s.term) ∧ W.cell? ⟨w6.heap.size, 2, none⟩ = some (.int .i64 s.sum) ∧ W.cell? ⟨w6.heap.size, 3, none⟩ = some (.int .i64 s.lvl) ∧ W.cell? ⟨w6.heap.size, 4, none⟩ = some (.bool s.fin) ∧ W.cell? ⟨w6.heap.size, 5, none⟩ = some (.slice Al lg.length cl) ∧ W.cell? ⟨w6.heap.size, 6, none⟩ = some (.int .i64 m.term) ∧ W.cell? ⟨w6.heap.size, 7, none⟩ = some (.int .i64 m.vote) ∧ W.cell? ⟨w2.heap.size, 0, none⟩ = some (.int .i64 m.next) ∧ W.cell? ⟨w2.heap.size, 1, none⟩ = some (.int .i64 m.term) ∧ W.cell? ⟨w2.heap.size, 2, none⟩ = some (.int .i64 m.vote) ∧ W.cell? ⟨w2.heap.size, 3, none⟩ = some (.int .i64 m.sq) ∧ W.cell? ⟨w2.heap.size, 4, none⟩ = some (.int .i64 m.sf) ∧ W.cell? ⟨w2.heap.size, 5, none⟩ = some (.slice B m.segs.length d)) (by kernel_rfl) ⟨t0, t1, t2, t3, t4, t5, t6, t7, q0, q1, q2, q3, q4, q5⟩ (fun hHeld => ?_)
      clear t0 t1 t2 t3 t4 t5 t6 t7 q0 q1 q2 q3 q4 q5
      refine tkL 0 rfl ?_
      try simp only [Act.put, sA, sZ, sS]
      refine tkL 1 rfl ?_
      try simp only [Act.put, sA, sZ, sS]
      refine AllReadyH.one (i := 2) rfl (by kernel_rfl) (by rfl) (fun K hK => ?_)
      go_simp
      show K _ (World.drew (set8 w8 w.heap.size (.int .i64 s.idx) (.int .i64 s.term) (.int .i64 s.sum) (.int .i64 s.lvl) (.bool s.fin) (.slice Al lg.length cl) (.int .i64 m.term) (.int .i64 m.vote)))
      have hD : Ext (set8 w8 w.heap.size (.int .i64 s.idx) (.int .i64 s.term) (.int .i64 s.sum) (.int .i64 s.lvl) (.bool s.fin) (.slice Al lg.length cl) (.int .i64 m.term) (.int .i64 m.vote)) (World.drew (set8 w8 w.heap.size (.int .i64 s.idx) (.int .i64 s.term) (.int .i64 s.sum) (.int .i64 s.lvl) (.bool s.fin) (.slice Al lg.length cl) (.int .i64 m.term) (.int .i64 m.vote))) := Ext.drew (Ext.refl _)
      have HY9 := Lib.hid ((blk_oth8 HY8.out hn6 (.int .i64 s.idx) (.int .i64 s.term) (.int .i64 s.sum) (.int .i64 s.lvl) (.bool s.fin) (.slice Al lg.length cl) (.int .i64 m.term) (.int .i64 m.vote)).ext hD)
      have HQ9 := Lib.hid ((blk_oth8 HQ8.out hn2 (.int .i64 s.idx) (.int .i64 s.term) (.int .i64 s.sum) (.int .i64 s.lvl) (.bool s.fin) (.slice Al lg.length cl) (.int .i64 m.term) (.int .i64 m.vote)).ext hD)
      have HM9 := Lib.hid ((blk_oth8 HM8.out (by omega : w.heap.size + 1 ≠ w.heap.size) (.int .i64 s.idx) (.int .i64 s.term) (.int .i64 s.sum) (.int .i64 s.lvl) (.bool s.fin) (.slice Al lg.length cl) (.int .i64 m.term) (.int .i64 m.vote)).ext hD)
      have HT9 := Lib.hid ((blk_set8 HT8.out (.int .i64 s.idx) (.int .i64 s.term) (.int .i64 s.sum) (.int .i64 s.lvl) (.bool s.fin) (.slice Al lg.length cl) (.int .i64 m.term) (.int .i64 m.vote)).ext hD)
      have HE9 := Lib.hid (Ext.trans (ext_set8 HE8.out (Nat.le_refl _) (.int .i64 s.idx) (.int .i64 s.term) (.int .i64 s.sum) (.int .i64 s.lvl) (.bool s.fin) (.slice Al lg.length cl) (.int .i64 m.term) (.int .i64 m.vote)) hD)
      have HK9 := Lib.hid (OwnE.ext (own_of8 HT8.out (by decide) HK8.out (.int .i64 s.idx) (.int .i64 s.term) (.int .i64 s.sum) (.int .i64 s.lvl) (.bool s.fin) (.slice Al lg.length cl) (.int .i64 m.term) (.int .i64 m.vote)) hD)
      have HO9 := Lib.hid (own_ext (own_of8 HT8.out (by decide) HO8.out (.int .i64 s.idx) (.int .i64 s.term) (.int .i64 s.sum) (.int .i64 s.lvl) (.bool s.fin) (.slice Al lg.length cl) (.int .i64 m.term) (.int .i64 m.vote)) hD)
      clear hD
      clear f0 f1 f2 f3 f4 f5 f6 f7 d0 d1 d2 d3 d4 d5 d6 d7 g0 g1 g2 g3 g4 g5 g6 g7 c0 c1 c2 c3 c4 c5
      generalize (World.drew (set8 w8 w.heap.size (.int .i64 s.idx) (.int .i64 s.term) (.int .i64 s.sum) (.int .i64 s.lvl) (.bool s.fin) (.slice Al lg.length cl) (.int .i64 m.term) (.int .i64 m.vote))) = w9 at *
      obtain ⟨t0, t1, t2, t3, t4, t5, t6, t7⟩ := blk8 HY9.out
      obtain ⟨q0, q1, q2, q3, q4, q5⟩ := blk6 HQ9.out
      refine hK.out _ _ ⟨t0, t1, t2, t3, t4, t5, t6, t7, q0, q1, q2, q3, q4, q5⟩ (fun hHeld => ?_)
      clear t0 t1 t2 t3 t4 t5 t6 t7 q0 q1 q2 q3 q4 q5
      clear hK K
      try simp only [Act.put, sA, sZ, sS]
      obtain ⟨d0, d1, d2, d3, d4, d5, d6, d7⟩ := blk8f HM9.out
      obtain ⟨c0, c1, c2, c3, c4, c5⟩ := blk6 HM9.out
      refine AllReadyH.one (i := 3) rfl (by kernel_rfl) (by rfl) (fun K hK => ?_)
      go_simp
      show K _ (set6 w9 (w.heap.size + 1) (.int .i64 m.next) (.int .i64 m.term) (.int .i64 m.vote) (.int .i64 m.sq) (.int .i64 m.sf) (.slice B m.segs.length d))
      have HY10 := Lib.hid (blk_oth6 HY9.out hn61 (.int .i64 m.next) (.int .i64 m.term) (.int .i64 m.vote) (.int .i64 m.sq) (.int .i64 m.sf) (.slice B m.segs.length d))
      have HQ10 := Lib.hid (blk_oth6 HQ9.out hn21 (.int .i64 m.next) (.int .i64 m.term) (.int .i64 m.vote) (.int .i64 m.sq) (.int .i64 m.sf) (.slice B m.segs.length d))
      have HT10 := Lib.hid (blk_oth6 HT9.out (by omega : w.heap.size ≠ w.heap.size + 1) (.int .i64 m.next) (.int .i64 m.term) (.int .i64 m.vote) (.int .i64 m.sq) (.int .i64 m.sf) (.slice B m.segs.length d))
      have HM10 : Hid (Blk (set6 w9 (w.heap.size + 1) (.int .i64 m.next) (.int .i64 m.term) (.int .i64 m.vote) (.int .i64 m.sq) (.int .i64 m.sf) (.slice B m.segs.length d)) (w.heap.size + 1) 32 #[.int .i64 m.next, .int .i64 m.term, .int .i64 m.vote, .int .i64 m.sq, .int .i64 m.sf, .slice B m.segs.length d]) := Lib.hid (blk_set6 HM9.out _ _ _ _ _ _)
      have HE10 := Lib.hid (ext_set6 HE9.out (Nat.le_succ w.heap.size) (.int .i64 m.next) (.int .i64 m.term) (.int .i64 m.vote) (.int .i64 m.sq) (.int .i64 m.sf) (.slice B m.segs.length d))
      have HE10 : Hid (Ext w (set6 w9 (w.heap.size + 1) (.int .i64 m.next) (.int .i64 m.term) (.int .i64 m.vote) (.int .i64 m.sq) (.int .i64 m.sf) (.slice B m.segs.length d))) := HE10
      have HK10 : Hid (OwnE (set6 w9 (w.heap.size + 1) (.int .i64 m.next) (.int .i64 m.term) (.int .i64 m.vote) (.int .i64 m.sq) (.int .i64 m.sf) (.slice B m.segs.length d)) _ _ lg) := Lib.hid (own_of6 HM9.out (by decide) HK9.out (.int .i64 m.next) (.int .i64 m.term) (.int .i64 m.vote) (.int .i64 m.sq) (.int .i64 m.sf) (.slice B m.segs.length d))
      have HO10 : Hid (OwnS (set6 w9 (w.heap.size + 1) (.int .i64 m.next) (.int .i64 m.term) (.int .i64 m.vote) (.int .i64 m.sq) (.int .i64 m.sf) (.slice B m.segs.length d)) _ _ m.segs) := Lib.hid (own_of6 HM9.out (by decide) HO9.out (.int .i64 m.next) (.int .i64 m.term) (.int .i64 m.vote) (.int .i64 m.sq) (.int .i64 m.sf) (.slice B m.segs.length d))
      clear c0 c1 c2 c3 c4 c5 d0 d1 d2 d3 d4 d5 d6 d7
      generalize (set6 w9 (w.heap.size + 1) (.int .i64 m.next) (.int .i64 m.term) (.int .i64 m.vote) (.int .i64 m.sq) (.int .i64 m.sf) (.slice B m.segs.length d)) = w10 at *
      obtain ⟨t0, t1, t2, t3, t4, t5, t6, t7⟩ := blk8 HY10.out
      obtain ⟨q0, q1, q2, q3, q4, q5⟩ := blk6 HQ10.out
      refine hK.out _ _ ⟨t0, t1, t2, t3, t4, t5, t6, t7, q0, q1, q2, q3, q4, q5⟩ (fun hHeld => ?_)
      clear t0 t1 t2 t3 t4 t5 t6 t7 q0 q1 q2 q3 q4 q5
      clear hK K
      try simp only [Act.put, sA, sZ, sS]
      refine tkL 4 rfl ?_
      try simp only [Act.put, sA, sZ, sS]
      refine wpAnyH_done (by kernel_rfl) ?_ _
      go_wp2_with fail
      refine bodyPost_ret (tell_res _ _ w.heap.size (w.heap.size + 1) _ _ _ rfl rfl rfl HT10.out HM10.out rfl rfl) rfl ?_
      subst hR
      exact ⟨_, _, rfl, OwnE.es HK10.out, OwnS.sgs HO10.out, HE10.out⟩
open Go.RowKit Go.Mv
set_option maxRecDepth 100000
theorem idGuard : Tryz.prog.eqGuardType Tryz.prog.depth 40 = false := by kernel_rfl
theorem idHeld : Tryz.prog.stoodInHeld 40 = false := by kernel_rfl
def idEq (k s f k' s' f' : Int) : Bool := k == k' && s == s' && f == f'
theorem idEq_iff {k s f k' s' f' : Int} : idEq k s f k' s' f' = true ↔ (k = k' ∧ s = s' ∧ f = f') := by
 simp [idEq, and_assoc]
theorem CloneS_any (v : Value) (l : List Sg4) (w : World) (h : Sgs w v l) (hl : l.length ≤ 1000000) : Calls Tryz.prog 51 #[v] w fun e w' => ∃ v', e = .returned v' ∧ OwnS w' w.heap.size v' l ∧ Ext w w' := by
 obtain ⟨A, c, rfl, h1, h2⟩ := SlR.open_ h
 obtain ⟨i0, hi, hz0, hz1, hz2⟩ := info_parts info_seg
 have hnil := fun (W : World) => Lib.run_eql_slice_nil (P := Tryz.prog) W
 cases A with
 | none =>
  have hb : l = [] := by
   cases hbs : l with
   | nil => rfl
   | cons b l' =>
    have := (SlR.at_ h (by rw [hbs]; simp)).2
    obtain ⟨_, _, e, _⟩ := this
    cases e
  subst hb
  go_enter Tryz.func51, Tryz.ntmps51
  go_wp2
  go_ret
  exact ⟨_, rfl, World.ownsRow_nil _ _ _ _, Ext.refl _⟩
 | some a =>
  have hown : (w.alloc (.cells #[] 71)).ownsRow w.heap.size 71 4 (.slice (some ⟨w.heap.size, 0, none⟩) 0 0) 0 [] := ⟨by simp, .inr ⟨w.heap.size, 0, #[], rfl, Nat.le_refl _, heap_alloc_new w _, Nat.le_refl _, by simp [maxLen], by simp, by simp⟩⟩
  go_enter Tryz.func51, Tryz.ntmps51
  go_wp2_with (at_builtin; go_loud (refine wpList_append_sl _ rfl (.tmp 5) (.tmp 6) 30 rfl w.heap.size 71 i0 _ 4 32 Tryz.underlying30 hi hz0 hz1 hz2 rfl (by decide) (.slice (some ⟨w.heap.size, 0, none⟩) 0 0) 0 [] rfl hown (.slice (some a) l.length c) l.length (sgCells l) rfl (h.ext (Ext.alloc (Ext.refl _) _)) (one_seg _) (by unfold maxLen; omega) (by omega) (by simp) ?_); intro v' w' hown' hgrow)
  go_ret
  refine ⟨_, rfl, by unfold OwnS; simpa using hown', ?_⟩
  refine Below.grown (Ext.alloc (Ext.refl w) _) hgrow (by simp) (fun k ek => ?_)
  have : w.heap.size = k := by simpa [Value.ownBlock] using ek
  omega
theorem idEq_run (k s f k' s' f' : Int) (W : World) : (Op.equalIn 10000 40 (.agg #[.int .u8 k, .int .i64 s, .int .i64 f]) (.agg #[.int .u8 k', .int .i64 s', .int .i64 f'])).run Tryz.prog W = .ok (idEq k s f k' s' f') W := by
 rw [run_equalIn_struct W 9999 40 _ _ identUnder idHeld]
 have hu := Tryz.underlying5
 unfold idEq
 cases h0 : (k == k')
 ·simp [go_sem, h0, hu]
 ·cases h1 : (s == s') <;> cases h2 : (f == f') <;> simp [go_sem, h0, h1, h2, hu]
theorem of_res (tmps : Array Value) (W : World) (b : Nat) (cs : Array Value) (h4 : tmps.getD 4 undef = .pointer (some ⟨b, 0, none⟩)) (hb : Blk W b 40 cs) (hs : cs.size = 3) : (results Tryz.f11 tmps).run Tryz.prog W = .ok (.agg cs) W := by
 have hl := hb.load (P := Tryz.prog) identUnder rfl (by rw [hs]; kernel_rfl)
 have h4' : tmps[4]?.getD undef = .pointer (some ⟨b, 0, none⟩) := by simpa using h4
 simp [results, Tryz.results11, h4', asAddr, hl]
theorem Of_any (k s f g : Int) (w : World) : Calls Tryz.prog 11 #[.agg #[.int .u8 k, .int .i64 s, .int .i64 f], .int .i64 g] w fun e w' => e = .returned (.agg #[.int .u8 k, .int .i64 s, .int .i64 g]) ∧ Ext w w' := by
 have hb0 := (Blk.new w 40 #[.int .u8 k, .int .i64 s, .int .i64 f]).alloc (.cells #[.int .u8 0, .int .i64 0, .int .i64 0] 40)
 have hb1 := Blk.new (w.alloc (.cells #[.int .u8 k, .int .i64 s, .int .i64 f] 40)) 40 #[.int .u8 0, .int .i64 0, .int .i64 0]
 rw [World.size_alloc] at hb1
 have hE : Ext w ((w.alloc (.cells #[.int .u8 k, .int .i64 s, .int .i64 f] 40)).alloc (.cells #[.int .u8 0, .int .i64 0, .int .i64 0] 40)) := Ext.alloc (Ext.alloc (Ext.refl _) _) _
 obtain ⟨g0, g1, g2, _, _, _⟩ := blk3 hb0
 obtain ⟨i0, i1, i2, z0, z1, z2⟩ := blk3 hb1
 go_enter Tryz.func11, Tryz.ntmps11
 go_wp2_with fail
 have hb2 := Blk.new (w.alloc (.cells #[.int .u8 k, .int .i64 s, .int .i64 f] 40)) 40 #[.int .u8 k, .int .i64 s, .int .i64 g]
 rw [World.size_alloc] at hb2
 refine bodyPost_ret (of_res _ _ _ _ rfl hb2 rfl) rfl ?_
 exact ⟨rfl, Ext.alloc (Ext.alloc (Ext.refl _) _) _⟩
theorem own_res (tmps : Array Value) (W : World) (b : Nat) (cs : Array Value) (h4 : tmps.getD 2 undef = .pointer (some ⟨b, 0, none⟩)) (hb : Blk W b 32 cs) (hs : cs.size = 6) : (results Tryz.f29 tmps).run Tryz.prog W = .ok (.agg cs) W := by
 have hl := hb.load (P := Tryz.prog) mfUnder rfl (by rw [hs]; kernel_rfl)
 have h4' : tmps[2]?.getD undef = .pointer (some ⟨b, 0, none⟩) := by simpa using h4
 simp [results, Tryz.results29, h4', asAddr, hl]
theorem OwnM_any (m : Mf) (v : Value) (w : World) (hS : Sgs w v m.segs) (hl : m.segs.length ≤ 1000000) : Calls Tryz.prog 29 #[.agg #[.int .i64 m.next, .int .i64 m.term, .int .i64 m.vote, .int .i64 m.sq, .int .i64 m.sf, v]] w fun e w' =>
  ∃ v', e = .returned (.agg #[.int .i64 m.next, .int .i64 m.term, .int .i64 m.vote, .int .i64 m.sq, .int .i64 m.sf, v']) ∧ OwnS w' w.heap.size v' m.segs ∧ Ext w w' := by
 obtain ⟨A, c, rfl, _, _⟩ := hS.open_
 have hb0 := (Blk.new w 32 #[.int .i64 m.next, .int .i64 m.term, .int .i64 m.vote, .int .i64 m.sq, .int .i64 m.sf, .slice A m.segs.length c]).alloc (.cells #[.int .i64 0, .int .i64 0, .int .i64 0, .int .i64 0, .int .i64 0, .slice none 0 0] 32)
 have hb1 := Blk.new (w.alloc (.cells #[.int .i64 m.next, .int .i64 m.term, .int .i64 m.vote, .int .i64 m.sq, .int .i64 m.sf, .slice A m.segs.length c] 32)) 32 #[.int .i64 0, .int .i64 0, .int .i64 0, .int .i64 0, .int .i64 0, .slice none 0 0]
 rw [World.size_alloc] at hb1
 have hE : Ext w ((w.alloc (.cells #[.int .i64 m.next, .int .i64 m.term, .int .i64 m.vote, .int .i64 m.sq, .int .i64 m.sf, .slice A m.segs.length c] 32)).alloc (.cells #[.int .i64 0, .int .i64 0, .int .i64 0, .int .i64 0, .int .i64 0, .slice none 0 0] 32)) := Ext.alloc (Ext.alloc (Ext.refl _) _) _
 have key := CloneS_any _ m.segs _ (hS.ext hE) hl
 obtain ⟨g0, g1, g2, g3, g4, g5⟩ := blk6 hb0
 have Key := Lib.hid key
 have Hb0 := Lib.hid hb0
 have Hb1 := Lib.hid hb1
 have HE := Lib.hid hE
 clear key hb0 hb1 hE hS
 go_enter Tryz.func29, Tryz.ntmps29
 go_wp2_with fail
 refine Key.out.mono ?_
 rintro e w1 ⟨v1, rfl, ho, hE1⟩
 obtain ⟨A1, c1, rfl, _, _⟩ := SlR.open_ (SlR.of_own ho)
 have h0 := Hb0.out.ext hE1
 have h1 := Hb1.out.ext hE1
 have HE1 := Lib.hid (Ext.trans HE.out hE1)
 have Ho := Lib.hid ho
 clear g0 g1 g2 g3 g4 g5 hE1 ho
 obtain ⟨g0, g1, g2, g3, g4, g5⟩ := blk6 h0
 obtain ⟨i0, i1, i2, i3, i4, i5⟩ := blk6 h1
 have z5 := h0.frozen 5
 obtain ⟨d0, d1, d2, d3, d4, d5, _, _⟩ := blk8f h1
 have H0 := Lib.hid h0
 have H1 := Lib.hid h1
 clear h0 h1
 go_wp2_with fail
 have hne : w.heap.size ≠ w.heap.size + 1 := by omega
 have q1 := H1.out.other hne.symm 5 (.slice A1 m.segs.length c1)
 have q2 := blk_set6 q1 (.int .i64 m.next) (.int .i64 m.term) (.int .i64 m.vote) (.int .i64 m.sq) (.int .i64 m.sf) (.slice A1 m.segs.length c1)
 refine bodyPost_ret (own_res _ _ _ _ rfl q2 rfl) rfl ?_
 refine ⟨_, rfl, ?_, ext_set6 (Below.setCell (p := ⟨w.heap.size, 5, none⟩) HE1.out (Nat.le_refl _) _) (Nat.le_succ w.heap.size) _ _ _ _ _ _⟩
 have r1 := Ho.out.kept (grownBy_set _ w.heap.size 5 (.slice A1 m.segs.length c1)) (.inr (H0.out.not_row (by decide) Ho.out).symm)
 exact own_base (own_of6 q1 (by decide) r1 _ _ _ _ _ _) (by have := HE.out.size; exact this)
theorem Says_any (v vb : Value) (fs : List Fil) (k s f : Int) (b : List UInt8) (w : World) (hS : StW w) (hF : Fs w v fs) (hB : Bs w vb b) (hl : fs.length ≤ 4000000) :
  Calls Tryz.prog 17 #[v, .agg #[.int .u8 k, .int .i64 s, .int .i64 f], vb] w fun e w' => e = .returned (.bool (decide (bytesS fs (nameS k s f) = some b))) ∧ Ext w w' := by
 obtain ⟨A, c, rfl, h1, h2⟩ := Fs.open_ hF
 obtain ⟨Ab, cb, rfl, _, _⟩ := SlR.open_ hB
 have hX : Ext w (w.alloc (.cells #[.int .u8 k, .int .i64 s, .int .i64 f] 40)) := Ext.alloc (Ext.refl _) _
 have key := Find_any _ fs k s f _ (hS.ext hX) (hF.ext hX) hl
 obtain ⟨r, hr⟩ : ∃ r, nameS k s f = r := ⟨_, rfl⟩
 rw [hr] at key ⊢
 obtain ⟨m0, m1, m2⟩ := blkI (Blk.new w 40 #[.int .u8 k, .int .i64 s, .int .i64 f])
 have Key := Lib.hid key
 have HF := Lib.hid (hF.ext hX)
 have HB := Lib.hid (SlR.ext hB hX)
 have HX := Lib.hid hX
 clear key hF hX hS hr hB
 obtain ⟨R, hR⟩ : ∃ R, decide (bytesS fs r = some b) = R := ⟨_, rfl⟩
 rw [hR]
 unfold bytesS at hR
 have HR := Lib.hid hR
 clear hR
 by_cases hneg : findS fs r < 0
 ·obtain rfl : false = R := by have := HR.out; rw [if_pos hneg] at this; rw [← this]; rfl
  obtain ⟨x, hx⟩ : ∃ x, findS fs r = x := ⟨_, rfl⟩
  rw [hx] at Key hneg
  go_enter Tryz.func17, Tryz.ntmps17
  go_wp2_with fail
  refine Key.out.mono ?_
  rintro e1 w1 ⟨rfl, hE1⟩
  have hx0 : ¬ (0 ≤ x) := by omega
  have HE := Lib.hid (Ext.trans HX.out hE1)
  go_wp2_with fail
  go_ret
  refine ⟨?_, HE.out⟩
  first | rfl | (simp; omega)
 ·obtain ⟨i, hi, hil⟩ := findS_lt fs r hneg
  have hR2 := HR.out
  rw [if_neg hneg, hi] at hR2
  rw [show ((i : Int).toNat) = i from by omega, List.getElem?_eq_getElem hil] at hR2
  obtain ⟨y, hy⟩ : ∃ y, fs[i].2 = y := ⟨_, rfl⟩
  obtain rfl : decide (y = b) = R := by rw [← hR2, ← hy]; simp
  have Hy := Lib.hid hy
  rw [hi] at Key
  clear HR hR2 hneg hi hy
  go_enter Tryz.func17, Tryz.ntmps17
  go_wp2_with fail
  refine Key.out.mono ?_
  rintro e1 w1 ⟨rfl, hE1⟩
  have hE1 : Ext _ w1 := hE1
  have HE := Lib.hid (Ext.trans HX.out hE1)
  have HB1 := Lib.hid (SlR.ext HB.out hE1)
  have hx0 : (0 : Int) ≤ (i : Int) := by omega
  obtain ⟨_, bb, off, rfl, hc⟩ := (HF.out.ext hE1).at_ (by omega)
  obtain ⟨hc0, B2, d2, hc1, hB2⟩ := hc i hil
  have hlz : (i : Int) < (fs.length : Int) := by omega
  rw [Hy.out] at hB2 hc1
  have HB2 := Lib.hid hB2
  clear hc hB2 hc0 hE1
  go_wp2_with fail
  refine (bytesEqual_any _ _ y b _ HB2.out HB1.out).mono ?_
  rintro e2 w2 ⟨rfl, rfl⟩
  go_wp2_with fail
  go_ret
  exact ⟨rfl, HE.out⟩
end Go.Proofs.YtmecffckghkahaaGreatDoor
