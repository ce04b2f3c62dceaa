/-
  The walk of two.look.
-/
import Derived.Test.YtfjcnpigpkcfgaaGreatM11
set_option linter.all false
namespace Go.Proofs.YtfjcnpigpkcfgaaGreat
open Go.RowKit Go.Mv Go.Shelf
set_option maxRecDepth 100000

def LookP (w : World) (r : LookR) (e : Ending) (w' : World) : Prop :=
  ∃ vl vz, e = .returned (.tuple #[.agg #[.int .i64 r.first, vl, .int .i64 r.used], vz, .int .i64 r.err]) ∧ w'.ownsRow w.heap.size 41 3 vl r.log.length (entCells r.log) ∧ PtV vz r.pt ∧ Ext w w'

structure LkI (w w1 : World) (bs : List UInt8) (first z1 z2 : Nat) (q : Nat × Nat) (log : List Ent) (vlog : Value) (Ar : Option Addr) (cr : Nat) (rest : List UInt8) (g : Array Value) (W : World) : Prop where
  pt : PtV (.complex .f64 z1 z2) q
  box : Blk W w.heap.size 29 #[.int .i64 first, vlog, .int .i64 (bs.length - rest.length : Nat)]
  four : Blk W (w.heap.size + 1) 92 g
  gsz : g.size = 4
  row : W.ownsRow w1.heap.size 41 3 vlog log.length (entCells log)
  rst : Bs w1 (.slice Ar rest.length cr) rest
  apart : ∀ b off, Ar = some ⟨b, off, none⟩ → 0 < rest.length → b ≠ w.heap.size ∧ b ≠ w.heap.size + 1
  hold : ∀ p u, p.block ≠ w.heap.size → p.block ≠ w.heap.size + 1 → w1.cell? p = some u → W.cell? p = some u
  ext : Ext w W
  sz : w1.heap.size ≤ W.heap.size
  lo : w.heap.size + 1 < w1.heap.size
  le : log.length + rest.length ≤ bs.length
  out : lookS bs = ⟨0, first, log ++ (scanS q rest).1, bs.length - (scanS q rest).2.2.length, (scanS q rest).2.1⟩

def LkR (w w1 : World) (bs : List UInt8) (first : Nat) (a : Act) (W : World) : Prop :=
  ∃ (z1 z2 : Nat) (q : Nat × Nat) (log : List Ent) (vlog : Value) (Ar : Option Addr) (cr : Nat) (rest : List UInt8) (g : Array Value), LkI w w1 bs first z1 z2 q log vlog Ar cr rest g W ∧ a.defers = [] ∧ a.tmps.size = 100 ∧
    a.tmps.getD 2 undef = .pointer (some ⟨w.heap.size, 0, none⟩) ∧ a.tmps.getD 3 undef = .complex .f64 z1 z2 ∧ a.tmps.getD 5 undef = .pointer (some ⟨w.heap.size + 1, 0, none⟩) ∧ a.tmps.getD 8 undef = .slice Ar rest.length cr

theorem look_res (tmps : Array Value) (W : World) (N : Nat) (a v u vz ve : Value) (h2 : tmps.getD 2 undef = .pointer (some ⟨N, 0, none⟩)) (h3 : tmps.getD 3 undef = vz) (h4 : tmps.getD 4 undef = ve) (hb : Blk W N 29 #[a, v, u]) :
    (results Tryz.f131 tmps).run Tryz.prog W = .ok (.tuple #[.agg #[a, v, u], vz, ve]) W := by
  obtain ⟨c0, c1, c2, _⟩ := blk3 hb
  simp only [Array.getD_eq_getD_getElem?] at h2 h3 h4
  simp [results, Tryz.results131, go_sem, h2, h3, h4, c0, c1, c2]
theorem look_none {bs : List UInt8} (h : headT bs = none) : lookS bs = ⟨11, 0, [], 0, (0, 0)⟩ := by unfold lookS; rw [h]
theorem look_some {bs : List UInt8} {first : Nat} {r : List UInt8} (h : headT bs = some (first, r)) : lookS bs = ⟨0, first, [] ++ (scanS (chainP (0, 0) (headS (first : Int)).2) r).1, bs.length - (scanS (chainP (0, 0) (headS (first : Int)).2) r).2.2.length, (scanS (chainP (0, 0) (headS (first : Int)).2) r).2.1⟩ := by unfold lookS; rw [h]; rfl
theorem blk_bad {w : World} {r : LookR} (h : r = ⟨11, 0, [], 0, (0, 0)⟩) {W : World} (hE : Ext w W) : LookP w r (.returned (.tuple #[.agg #[.int .i64 0, .slice none 0 0, .int .i64 0], .complex .f64 0 0, .int .i64 11])) W := by
  subst h
  exact ⟨_, _, rfl, World.ownsRow_nil _ _ _ _, PtV.zero, hE⟩

theorem blkBody_len (es : List Ent) : 1 + es.length ≤ (blkBody es).length := by
  have h : es.length ≤ (es.flatMap entS).length := by
    induction es with
    | nil => exact Nat.le_refl _
    | cons e es ih =>
      have h1 := shorts_ge [e.t, e.k, e.v]
      have h2 : 3 ≤ (entS e).length := h1
      rw [List.flatMap_cons, List.length_append, List.length_cons]
      omega
  unfold blkBody
  rw [List.length_cons]
  omega
theorem one_ents (es : List Ent) : ∀ u ∈ entCells es, u.oneCell' = true := by
  intro u hu
  obtain ⟨e, _, h⟩ := List.mem_flatMap.1 hu
  simp [Ent.cells] at h
  rcases h with rfl | rfl | rfl <;> rfl
theorem next_case (q : Nat × Nat) (rest : List UInt8) : (takenR rest = ([], 0) ∧ nextS q rest = none) ∨ ∃ es r, blkOk es = true ∧ takenR rest = (es, (blkBody es).length) ∧ rest = blkBody es ++ r ∧
    nextS q rest = (if 4 ≤ r.length ∧ r.take 4 = fourB (chainP q (blkBody es)) then some (es, r.drop 4) else none) := by
  cases h : takenS rest with
  | none => exact .inl ⟨by unfold takenR; rw [h], by unfold nextS; rw [h]⟩
  | some x =>
    obtain ⟨es, r⟩ := x
    obtain ⟨h1, h2⟩ := takenS_ok h
    refine .inr ⟨es, r, h1, ?_, h2, by unfold nextS; rw [h]⟩
    unfold takenR
    rw [h, h2]
    simp
theorem look_fin {w w1 W : World} {bs : List UInt8} {first z1 z2 u0 : Nat} {q : Nat × Nat} {log : List Ent} {vlog : Value} {rest : List UInt8} (hu : bs.length - rest.length = u0) (hpt : PtV (.complex .f64 z1 z2) q)
    (hb : Blk W w.heap.size 29 #[.int .i64 first, vlog, .int .i64 u0]) (hrow : W.ownsRow w1.heap.size 41 3 vlog log.length (entCells log)) (hlo : w.heap.size + 1 < w1.heap.size) (hE : Ext w W)
    (hn : nextS q rest = none) (hout : lookS bs = ⟨0, first, log ++ (scanS q rest).1, bs.length - (scanS q rest).2.2.length, (scanS q rest).2.1⟩) :
    LookP w (lookS bs) (.returned (.tuple #[.agg #[.int .i64 first, vlog, .int .i64 u0], .complex .f64 z1 z2, .int .i64 0]))
      (((W.setCell ⟨w.heap.size, 0, none⟩ (.int .i64 first)).setCell ⟨w.heap.size, 1, none⟩ vlog).setCell ⟨w.heap.size, 2, none⟩ (.int .i64 u0)) := by
  rw [hout, scanS_none hn]
  refine ⟨_, _, by dsimp only; rw [hu], ?_, hpt, Below.setCell (p := ⟨w.heap.size, 2, none⟩) (Below.setCell (p := ⟨w.heap.size, 1, none⟩) (Below.setCell (p := ⟨w.heap.size, 0, none⟩) hE (Nat.le_refl _) _) (Nat.le_refl _) _) (Nat.le_refl _) _⟩
  dsimp only
  rw [List.append_nil]
  have r1 := hrow.kept (grownBy_set W w.heap.size 0 (.int .i64 first)) (.inr (hb.not_row (by decide) hrow).symm)
  have b1 := hb.set 0 (.int .i64 first)
  have r2 := r1.kept (grownBy_set _ w.heap.size 1 vlog) (.inr (b1.not_row (by decide) r1).symm)
  have b2 := b1.set 1 vlog
  exact own_base (r2.kept (grownBy_set _ w.heap.size 2 _) (.inr (b2.not_row (by decide) r2).symm)) (by omega)
theorem LookP.drew {w : World} {r : LookR} {e : Ending} {W : World} (h : LookP w r e W) : LookP w r e W.drew := by
  obtain ⟨vl, vz, he, hr, hp, hE⟩ := h
  exact ⟨vl, vz, he, hr, hp, hE.drew⟩
theorem LkI.restW {w w1 : World} {bs : List UInt8} {first z1 z2 : Nat} {q : Nat × Nat} {log : List Ent} {vlog : Value} {Ar : Option Addr} {cr : Nat} {rest : List UInt8} {g : Array Value} {W : World} (hI : LkI w w1 bs first z1 z2 q log vlog Ar cr rest g W) :
    Bs W (.slice Ar rest.length cr) rest := by
  rcases Nat.eq_zero_or_pos rest.length with h0 | h0
  · obtain rfl : rest = [] := List.eq_nil_of_length_eq_zero h0
    obtain ⟨_, _, _, e, _, h, _⟩ := hI.rst
    cases e
    exact SlR.empty W 1 h
  · obtain ⟨_, b, off, rfl, _⟩ := Bs.at_ hI.rst h0
    have ha := hI.apart b off rfl h0
    exact SlR.keepB hI.rst (fun o u hc => hI.hold _ _ ha.1 ha.2 hc)

set_option maxHeartbeats 1000000 in
theorem look_any (v : Value) (bs : List UInt8) (w : World) (hBs : Bs w v bs) (hl : bs.length ≤ 1000000) : Calls Tryz.prog 131 #[v] w (LookP w (lookS bs)) := by
  obtain ⟨A, c, rfl, h1, h2⟩ := SlR.open_ hBs
  refine (callsIn_wd (ro := none) (n := 9)).1 ?_
  refine callsIn_of_wp Tryz.func131 rfl trivial ?_ rfl
  simp only [Tryz.ntmps131, List.size_toArray, List.length_cons, List.length_nil, Nat.reduceAdd, Nat.reduceSub, Array.replicate_succ, Array.replicate_zero, List.push_toArray, List.append_toArray, List.nil_append, List.cons_append]
  have hE0 : Ext w ((w.alloc (.cells #[.int .i64 0, .slice none 0 0, .int .i64 0] 29)).alloc (.cells #[.int .u8 0, .int .u8 0, .int .u8 0, .int .u8 0] 92)) := Ext.alloc (Ext.alloc (Ext.refl _) _) _
  have hB0 : Blk ((w.alloc (.cells #[.int .i64 0, .slice none 0 0, .int .i64 0] 29)).alloc (.cells #[.int .u8 0, .int .u8 0, .int .u8 0, .int .u8 0] 92)) w.heap.size 29 #[.int .i64 0, .slice none 0 0, .int .i64 0] := (Blk.new w _ _).alloc _
  have hF0 : Blk ((w.alloc (.cells #[.int .i64 0, .slice none 0 0, .int .i64 0] 29)).alloc (.cells #[.int .u8 0, .int .u8 0, .int .u8 0, .int .u8 0] 92)) (w.heap.size + 1) 92 #[.int .u8 0, .int .u8 0, .int .u8 0, .int .u8 0] := by
    have := Blk.new (w.alloc (.cells #[.int .i64 0, .slice none 0 0, .int .i64 0] 29)) 92 #[.int .u8 0, .int .u8 0, .int .u8 0, .int .u8 0]
    rwa [World.size_alloc] at this
  gi_wp2
  refine wpIn_scope_lab 0 (fun a W => ∃ w1 first, LkR w w1 bs first a W) (fun a _ => sliceLen (a.tmps.getD 8 undef)) rfl (fun l' h => by cases l' <;> first | exact absurd rfl h | rfl) ?_ ?_
  · intro hrest
    have Hrest := Lib.hid hrest
    clear hrest
    by_cases h0 : bs.length = 0
    · obtain rfl : bs = [] := List.eq_nil_of_length_eq_zero h0
      gi_wp2
      refine jumps_ret ?_
      exact bodyPost_ret (look_res _ _ _ _ _ _ _ _ rfl rfl rfl hB0) rfl (blk_bad (look_none rfl) hE0)
    obtain ⟨_, b, off, rfl, hc⟩ := Bs.at_ hBs (by omega)
    have hc0 : w.cell? ⟨b, off, none⟩ = some (.int .u8 (bs[0].toNat : Int)) := hc 0 (by omega)
    obtain ⟨x, l, rfl⟩ : ∃ x l, bs = x :: l := by cases bs with | nil => exact absurd rfl h0 | cons x l => exact ⟨x, l, rfl⟩
    simp only [List.getElem_cons_zero] at hc0
    have hblt : b < w.heap.size := World.block_lt_of_cell? w _ hc0
    have HBs := Lib.hid hBs
    have e0 : ((l.length : Int) + 1 == 0) = false := by simp; omega
    clear hc hBs h0
    simp only [List.length_cons] at *
    by_cases hx : x.toNat = 2
    · have hx2 : x = 2 := UInt8.toNat_inj.1 (by simpa using hx)
      subst hx2
      have HT : Hid (∀ (W : World) (u : Value), Bs W u l → Calls Tryz.prog 142 #[u] W (TakeP W (takeS l))) := fun W u hu => Take_any u l W hu (by omega)
      have HH : Hid (headT (2 :: l) = if (takeS l).1 = 0 ∧ (takeS l).2.1 ≠ 0 then some (takeS l).2 else none) := by show _ = _; rw [headT]; simp
      have hrl := takeS_rest l
      have H10 : Hid (l = [] → (takeS l).1 ≠ 0) := by rintro rfl; decide
      rcases htk : takeS l with ⟨er, m, r⟩
      rw [htk] at HT HH hrl H10
      dsimp only at HH hrl H10
      clear htk hx
      have Hcut : Hid (∀ W : World, Ext w W → Bs W (.slice (some ⟨b, off + 1, none⟩) l.length (c - 1)) l) := by
        intro W hE
        have h := Bs.cut (HBs.out.ext hE) 1 (by simp) rfl
        simpa using h
      by_cases hc1 : c = 1
      · obtain rfl : l = [] := List.eq_nil_of_length_eq_zero (by omega)
        have e6 : (er != 0) = true := by simpa using H10.out rfl
        have Her := Lib.hid (H10.out rfl)
        subst hc1
        gi_wp2_with (refine ⟨trivial, ?_⟩; gi_at_call 142; refine (callsIn_wd.2 (HT.out _ _ (SlR.empty _ 1 (by simp)))).mono ?_; rintro e w1 ⟨v1, rfl, ho1, hE1⟩; have hB1 := hB0.ext hE1; obtain ⟨c0, c1, c2, f0, f1, f2⟩ := blk3 hB1)
        refine jumps_ret ?_
        refine bodyPost_ret (look_res _ _ _ _ _ _ _ _ rfl rfl rfl (blk_set3 hB1 _ _ _)) rfl (blk_bad (look_none ?_) (Below.setCell (p := ⟨w.heap.size, 2, none⟩) (Below.setCell (p := ⟨w.heap.size, 1, none⟩) (Below.setCell (p := ⟨w.heap.size, 0, none⟩) (Ext.trans hE0 hE1) (Nat.le_refl _) _) (Nat.le_refl _) _) (Nat.le_refl _) _))
        rw [HH.out, if_neg (fun h => Her.out h.1)]
      · by_cases hbad : er = 0 ∧ m ≠ 0
        · obtain ⟨rfl, hm⟩ := hbad
          have e6 : ((m : Int) == 0) = false := by simp; omega
          have hsub : ((l.length : Int) + 1 - (r.length : Int)) = ((l.length + 1 - r.length : Nat) : Int) := by omega
          have HH2 : Hid (headT (2 :: l) = some (m, r)) := by show _ = _; rw [HH.out, if_pos ⟨rfl, hm⟩]
          obtain ⟨k, hk⟩ : ∃ k, l.length + 1 - r.length = k := ⟨_, rfl⟩
          have hk1 : k ≤ l.length + 1 := by omega
          rw [hk] at hsub
          have Hk := Lib.hid hk
          clear hk
          have Hhd : Hid ((2 :: l).take k = (headS (m : Int)).2) := by
            have := (headT_len HH2.out).2
            simp only [List.length_cons] at this
            rw [Hk.out] at this
            exact this
          have hhl := headS_len (m : Int)
          clear hm HH H10
          gi_wp2_with (first
            | (refine ⟨trivial, ?_⟩; gi_at_call 142; refine (callsIn_wd.2 (HT.out _ _ (Hcut.out _ hE0))).mono ?_; rintro e w1 ⟨v1, rfl, ho1, hE1⟩; have hB1 := hB0.ext hE1; have hF1 := hF0.ext hE1; obtain ⟨c0, c1, c2, f0, f1, f2⟩ := blk3 hB1; obtain ⟨Ar, cr, rfl, _, _⟩ := SlR.open_ (SlR.of_own ho1))
            | (refine ⟨trivial, ?_⟩; gi_at_call 129
               have hEw : Ext w ((w1.setCell ⟨w.heap.size, 0, none⟩ (.int .i64 m)).setCell ⟨w.heap.size, 2, none⟩ (.int .i64 k)) := Below.setCell (p := ⟨w.heap.size, 2, none⟩) (Below.setCell (p := ⟨w.heap.size, 0, none⟩) (Ext.trans hE0 hE1) (Nat.le_refl _) _) (Nat.le_refl _) _
               have hszw : ((w1.setCell ⟨w.heap.size, 0, none⟩ (.int .i64 m)).setCell ⟨w.heap.size, 2, none⟩ (.int .i64 k)).heap.size = w1.heap.size := by simp [World.setCell]
               have hbk := Bs.take (HBs.out.ext hEw) k (by simp; omega)
               rw [Hhd.out] at hbk
               have hp := parts1 hbk
               rw [hszw] at hp
               refine (callsIn_wd.2 (chain_zero _ _ _ hp)).mono ?_
               rintro e w3 ⟨vz, rfl, hpz, hE3⟩
               rw [show [(headS (m : Int)).2].flatten = (headS (m : Int)).2 from by simp] at hpz
               have HPZ := Lib.hid hpz
               obtain ⟨z1, z2, rfl, _, _⟩ := hpz))
          refine wpIn_label ?_
          gi_step
          gi_step
          have hE4 : Ext ((w1.setCell ⟨w.heap.size, 0, none⟩ (.int .i64 m)).setCell ⟨w.heap.size, 2, none⟩ (.int .i64 k)) w3 := Ext.trans (Ext.alloc (Ext.refl _) _) hE3
          refine Hrest.out _ _ ⟨w1, m, z1, z2, chainP (0, 0) (headS (m : Int)).2, [], .slice none 0 0, Ar, cr, r, _, ⟨HPZ.out, ?_, ((hF1.other (by omega) 0 _).other (by omega) 2 _).ext hE4, rfl, World.ownsRow_nil _ _ _ _, SlR.of_own ho1, ?_, ?_, Ext.trans hEw hE4, by rw [← hszw]; exact hE4.size, ?_, by simp; omega, look_some HH2.out⟩, rfl, rfl, rfl, rfl, rfl, rfl⟩
          · have := ((hB1.set 0 (.int .i64 m)).set 2 (.int .i64 k)).ext hE4
            rw [List.length_cons, Hk.out]
            exact this
          · intro b' off' e hp
            subst e
            have := (ho1.lt b' rfl).1
            simp at this
            omega
          · intro p u hp1 hp2 hc
            have h1 := (World.cell?_setCell_other w1 ⟨w.heap.size, 0, none⟩ p (.int .i64 m) (fun e => hp1 (by rw [← e]))).trans hc
            exact hE4.cell ((World.cell?_setCell_other _ ⟨w.heap.size, 2, none⟩ p (.int .i64 k) (fun e => hp1 (by rw [← e]))).trans h1)
          · have := hE1.size
            simp at this
            omega
        · by_cases her : er = 0
          · subst her
            have hm : m = 0 := Decidable.byContradiction (fun h => hbad ⟨rfl, h⟩)
            subst hm
            have HH2 : Hid (headT (2 :: l) = none) := by show _ = _; rw [HH.out, if_neg hbad]
            clear hbad HH
            gi_wp2_with (refine ⟨trivial, ?_⟩; gi_at_call 142; refine (callsIn_wd.2 (HT.out _ _ (Hcut.out _ hE0))).mono ?_; rintro e w1 ⟨v1, rfl, ho1, hE1⟩; have hB1 := hB0.ext hE1; obtain ⟨c0, c1, c2, f0, f1, f2⟩ := blk3 hB1)
            refine jumps_ret ?_
            exact bodyPost_ret (look_res _ _ _ _ _ _ _ _ rfl rfl rfl (blk_set3 hB1 _ _ _)) rfl (blk_bad (look_none HH2.out) (Below.setCell (p := ⟨w.heap.size, 2, none⟩) (Below.setCell (p := ⟨w.heap.size, 1, none⟩) (Below.setCell (p := ⟨w.heap.size, 0, none⟩) (Ext.trans hE0 hE1) (Nat.le_refl _) _) (Nat.le_refl _) _) (Nat.le_refl _) _))
          · have e6 : (er != 0) = true := by simpa using her
            have HH2 : Hid (headT (2 :: l) = none) := by show _ = _; rw [HH.out, if_neg hbad]
            clear hbad HH her
            gi_wp2_with (refine ⟨trivial, ?_⟩; gi_at_call 142; refine (callsIn_wd.2 (HT.out _ _ (Hcut.out _ hE0))).mono ?_; rintro e w1 ⟨v1, rfl, ho1, hE1⟩; have hB1 := hB0.ext hE1; obtain ⟨c0, c1, c2, f0, f1, f2⟩ := blk3 hB1)
            refine jumps_ret ?_
            exact bodyPost_ret (look_res _ _ _ _ _ _ _ _ rfl rfl rfl (blk_set3 hB1 _ _ _)) rfl (blk_bad (look_none HH2.out) (Below.setCell (p := ⟨w.heap.size, 2, none⟩) (Below.setCell (p := ⟨w.heap.size, 1, none⟩) (Below.setCell (p := ⟨w.heap.size, 0, none⟩) (Ext.trans hE0 hE1) (Nat.le_refl _) _) (Nat.le_refl _) _) (Nat.le_refl _) _))
    · have e1 : ((x.toNat : Int) != 2) = true := by simp; omega
      gi_wp2
      refine jumps_ret ?_
      exact bodyPost_ret (look_res _ _ _ _ _ _ _ _ rfl rfl rfl hB0) rfl (blk_bad (look_none (by rw [headT, if_neg (fun h => hx (by rw [h.1]; rfl))])) hE0)
  · rintro a W ⟨w1, first, hR⟩
    obtain ⟨z1, z2, q, log, vlog, Ar, cr, rest, g, hI, hd, hsz, h2, h3, h5, h8⟩ := hR
    obtain ⟨T, ds⟩ := a
    dsimp only at hd hsz h2 h3 h5 h8
    subst hd
    have hT := frame_of 100 T hsz
    generalize hU : (fun i => T.getD i undef) = U at hT
    have g2 : U 2 = .pointer (some ⟨w.heap.size, 0, none⟩) := by rw [← hU]; exact h2
    have g3 : U 3 = .complex .f64 z1 z2 := by rw [← hU]; exact h3
    have g5 : U 5 = .pointer (some ⟨w.heap.size + 1, 0, none⟩) := by rw [← hU]; exact h5
    have g8 : U 8 = .slice Ar rest.length cr := by rw [← hU]; exact h8
    have hT2 : T = #[U 0, U 1, .pointer (some ⟨w.heap.size, 0, none⟩), .complex .f64 z1 z2, U 4, .pointer (some ⟨w.heap.size + 1, 0, none⟩), U 6, U 7, .slice Ar rest.length cr, U 9, U 10, U 11, U 12, U 13, U 14, U 15, U 16, U 17, U 18, U 19, U 20, U 21, U 22, U 23, U 24, U 25, U 26, U 27, U 28, U 29, U 30, U 31, U 32, U 33, U 34, U 35, U 36, U 37, U 38, U 39, U 40, U 41, U 42, U 43, U 44, U 45, U 46, U 47, U 48, U 49, U 50, U 51, U 52, U 53, U 54, U 55, U 56, U 57, U 58, U 59, U 60, U 61, U 62, U 63, U 64, U 65, U 66, U 67, U 68, U 69, U 70, U 71, U 72, U 73, U 74, U 75, U 76, U 77, U 78, U 79, U 80, U 81, U 82, U 83, U 84, U 85, U 86, U 87, U 88, U 89, U 90, U 91, U 92, U 93, U 94, U 95, U 96, U 97, U 98, U 99] := by rw [hT]; show (#[U 0, U 1, U 2, U 3, U 4, U 5, U 6, U 7, U 8, U 9, U 10, U 11, U 12, U 13, U 14, U 15, U 16, U 17, U 18, U 19, U 20, U 21, U 22, U 23, U 24, U 25, U 26, U 27, U 28, U 29, U 30, U 31, U 32, U 33, U 34, U 35, U 36, U 37, U 38, U 39, U 40, U 41, U 42, U 43, U 44, U 45, U 46, U 47, U 48, U 49, U 50, U 51, U 52, U 53, U 54, U 55, U 56, U 57, U 58, U 59, U 60, U 61, U 62, U 63, U 64, U 65, U 66, U 67, U 68, U 69, U 70, U 71, U 72, U 73, U 74, U 75, U 76, U 77, U 78, U 79, U 80, U 81, U 82, U 83, U 84, U 85, U 86, U 87, U 88, U 89, U 90, U 91, U 92, U 93, U 94, U 95, U 96, U 97, U 98, U 99] : Array Value) = _; rw [g2, g3, g5, g8]
    clear hT hU hsz g2 h2 g3 h3 g5 h5 g8 h8
    subst hT2
    obtain ⟨Av, cv, rfl, _, _⟩ := SlR.open_ (SlR.of_own hI.row)
    have HI := Lib.hid hI
    have hrW := hI.restW
    have hB2 := hI.box
    have hrl : rest.length ≤ 1000000 := by have := hI.le; omega
    obtain ⟨u0, hu0⟩ : ∃ u0, bs.length - rest.length = u0 := ⟨_, rfl⟩
    rw [hu0] at hB2
    have hu1 : u0 ≤ 1000000 := by omega
    have hlogl : log.length ≤ 1000000 := by have := hI.le; omega
    have Hu := Lib.hid hu0
    clear hu0
    obtain ⟨hcap1, hcap2⟩ : rest.length ≤ cr ∧ cr ≤ 9223372036854775807 := by
      obtain ⟨_, _, _, e, h, h', _⟩ := hI.rst
      cases e
      exact ⟨h, by simpa [maxLen] using h'⟩
    have HT := Lib.hid (taken_any _ rest W hrW (by omega))
    rcases next_case q rest with ⟨ht, hn⟩ | ⟨es, r, hok, ht, hre, hn⟩
    · rw [ht] at HT
      have Hn := Lib.hid hn
      clear hI hn ht hrW
      gi_wp2_with (refine ⟨trivial, ?_⟩; gi_at_call 143; refine (callsIn_wd.2 HT.out).mono ?_; rintro e w2 ⟨v2, rfl, ho2, hE2⟩; have hB3 := hB2.ext hE2; obtain ⟨c0, c1, c2, f0, f1, f2⟩ := blk3 hB3)
      refine jumps_ret ?_
      exact bodyPost_ret (look_res _ _ _ _ _ _ _ _ rfl rfl rfl (blk_set3 hB3 _ _ _)) rfl (look_fin Hu.out HI.out.pt hB3 (own_ext HI.out.row hE2) HI.out.lo (Ext.trans HI.out.ext hE2) Hn.out HI.out.out)
    · rw [ht] at HT
      have hbl := blkBody_len es
      obtain ⟨body, hbody⟩ : ∃ body, blkBody es = body := ⟨_, rfl⟩
      rw [hbody] at hre hn hbl HT
      have hre' := congrArg List.length hre
      rw [List.length_append] at hre'
      have Hre := Lib.hid hre
      have hes4 : es.length ≤ 4 := by have := (blkOk_iff es).1 hok; omega
      obtain ⟨nb, hnb⟩ : ∃ nb, body.length = nb := ⟨_, rfl⟩
      rw [hnb] at HT hbl hre'
      have Hnb := Lib.hid hnb
      have Hbody := Lib.hid hbody
      have hnb1 : 0 < nb := by omega
      have e6 : ((nb : Int) == 0) = false := by simp; omega
      have Hlen := Lib.hid hre'
      have hcap3 : nb + r.length ≤ cr := by omega
      have hcap4 : nb + r.length ≤ 1000000 := by omega
      by_cases h4 : r.length < 4
      · have Hn : Hid (nextS q rest = none) := by show _ = _; rw [hn, if_neg (by omega)]
        have h4' : rest.length < nb + 4 := by omega
        clear hI hn ht hrW hre' hre hnb hbody
        gi_wp2_with (refine ⟨trivial, ?_⟩; gi_at_call 143; refine (callsIn_wd.2 HT.out).mono ?_; rintro e w2 ⟨v2, rfl, ho2, hE2⟩; have hB3 := hB2.ext hE2; obtain ⟨c0, c1, c2, f0, f1, f2⟩ := blk3 hB3)
        refine jumps_ret ?_
        exact bodyPost_ret (look_res _ _ _ _ _ _ _ _ rfl rfl rfl (blk_set3 hB3 _ _ _)) rfl (look_fin Hu.out HI.out.pt hB3 (own_ext HI.out.row hE2) HI.out.lo (Ext.trans HI.out.ext hE2) Hn.out HI.out.out)
      · have h4' : nb + 4 ≤ rest.length := by omega
        have Hbsn : Hid (∀ W', Ext W W' → Bs W' (.slice Ar nb cr) body) := by
          intro W' hE
          have := Bs.take (Bs.ext hrW hE) nb (by omega)
          rwa [Hre.out, ← Hnb.out, List.take_left, Hnb.out] at this
        obtain ⟨br, offr, hAr⟩ : ∃ br offr, Ar = some ⟨br, offr, none⟩ := by obtain ⟨_, br, offr, e, _⟩ := Bs.at_ hrW (by omega); exact ⟨br, offr, e⟩
        subst hAr
        have hF4 := hI.four
        obtain ⟨g0, g1, g2, g3, rfl⟩ : ∃ g0 g1 g2 g3, g = #[g0, g1, g2, g3] := by
          have := hI.gsz
          obtain ⟨l⟩ := g
          match l, this with
          | [g0, g1, g2, g3], _ => exact ⟨g0, g1, g2, g3, rfl⟩
        clear hI ht hrW hre' hre hnb hbody
        gi_wp2_with (first
          | (refine ⟨trivial, ?_⟩; gi_at_call 143; refine (callsIn_wd.2 HT.out).mono ?_; rintro e w2 ⟨v2, rfl, ho2, hE2⟩; have hB3 := hB2.ext hE2; obtain ⟨A2, cc2, rfl, _, _⟩ := SlR.open_ (SlR.of_own ho2))
          | (refine ⟨trivial, ?_⟩; gi_at_call 129
             have hp := parts1 (Hbsn.out w2 hE2)
             refine (callsIn_wd.2 (Chain_any z1 z2 _ _ _ hp)).mono ?_
             rintro e w3 ⟨vz, rfl, hpz, hE3⟩
             rw [show [body].flatten = body from by simp, HI.out.pt.pt] at hpz
             have HPZ := Lib.hid hpz
             have hpt := hpz.pt
             obtain ⟨a1, b1, rfl, _, _⟩ := hpz
             obtain ⟨f0, f1, f2, f3, hf⟩ : ∃ f0 f1 f2 f3 : UInt8, fourB (chainP q body) = [f0, f1, f2, f3] := ⟨_, _, _, _, rfl⟩
             have HF : Hid (∀ W, Calls Tryz.prog 144 #[.complex .f64 a1 b1] W fun e w' => e = .returned (.agg #[.int .u8 f0.toNat, .int .u8 f1.toNat, .int .u8 f2.toNat, .int .u8 f3.toNat]) ∧ Ext W w') := by
               intro W
               refine (Four_any a1 b1 W).mono ?_
               rintro e w' ⟨rfl, hE⟩
               exact ⟨by rw [hpt, hf]; rfl, hE⟩
             have Hf := Lib.hid hf
             clear hf hpt)
          | (refine ⟨trivial, ?_⟩; gi_at_call 144; refine (callsIn_wd.2 (HF.out _)).mono ?_; rintro e w4 ⟨rfl, hE4⟩
             have hE24 : Ext W w4 := Ext.trans (Ext.trans (Ext.alloc hE2 _) hE3) hE4
             have hB4 := hB2.ext hE24
             have hF5 := hF4.ext hE24
             obtain ⟨c0, c1, c2, c3, d0, d1, d2, d3⟩ := blk4 hF5))
        have hg4 : w4.grownBy ((((w4.setCell ⟨w.heap.size + 1, 0, none⟩ (.int .u8 f0.toNat)).setCell ⟨w.heap.size + 1, 1, none⟩ (.int .u8 f1.toNat)).setCell ⟨w.heap.size + 1, 2, none⟩ (.int .u8 f2.toNat)).setCell ⟨w.heap.size + 1, 3, none⟩ (.int .u8 f3.toNat)) (some (w.heap.size + 1)) :=
          grownBy_trans (grownBy_trans (grownBy_trans (grownBy_set _ _ _ _) (grownBy_set _ _ _ _)) (grownBy_set _ _ _ _)) (grownBy_set _ _ _ _)
        have hF6 : Blk ((((w4.setCell ⟨w.heap.size + 1, 0, none⟩ (.int .u8 f0.toNat)).setCell ⟨w.heap.size + 1, 1, none⟩ (.int .u8 f1.toNat)).setCell ⟨w.heap.size + 1, 2, none⟩ (.int .u8 f2.toNat)).setCell ⟨w.heap.size + 1, 3, none⟩ (.int .u8 f3.toNat)) (w.heap.size + 1) 92 ([f0, f1, f2, f3].map bv).toArray :=
          (((hF5.set 0 (.int .u8 f0.toNat)).set 1 (.int .u8 f1.toNat)).set 2 (.int .u8 f2.toNat)).set 3 (.int .u8 f3.toNat)
        generalize (((w4.setCell ⟨w.heap.size + 1, 0, none⟩ (.int .u8 f0.toNat)).setCell ⟨w.heap.size + 1, 1, none⟩ (.int .u8 f1.toNat)).setCell ⟨w.heap.size + 1, 2, none⟩ (.int .u8 f2.toNat)).setCell ⟨w.heap.size + 1, 3, none⟩ (.int .u8 f3.toNat) = W5 at *
        have hB6 : Blk W5 w.heap.size 29 #[.int .i64 first, .slice Av log.length cv, .int .i64 u0] := hB4.kept hg4 (by simp)
        have hap := HI.out.apart br offr rfl (by omega)
        have Hcell : Hid (∀ p u, p.block ≠ w.heap.size + 1 → W.cell? p = some u → W5.cell? p = some u) := fun p u hp hc => cell_grown hg4 (hE24.cell hc) (fun e => hp (by injection e))
        have hE5 : Ext w W5 := Below.grown (Ext.trans HI.out.ext hE24) hg4 (by have := HI.out.ext.size; have := hE24.size; omega) (fun k e => by injection e with e; omega)
        have hsz5 : W.heap.size ≤ W5.heap.size := Nat.le_trans hE24.size hg4.size
        have hrow5 : W5.ownsRow w1.heap.size 41 3 (.slice Av log.length cv) log.length (entCells log) := by
          have h := own_ext HI.out.row hE24
          exact h.kept hg4 (.inr (hF5.not_row (by decide) h).symm)
        have hro5 : W5.ownsRow W.heap.size 41 3 (.slice A2 es.length cc2) es.length (entCells es) := by
          have h := own_ext ho2 (Ext.trans (Ext.trans (Ext.alloc (Ext.refl _) _) hE3) hE4)
          exact h.kept hg4 (.inr (hF5.not_row (by decide) h).symm)
        have hr4 : Bs W5 (.slice (some ⟨br, offr + nb, none⟩) 4 (cr - nb)) (r.take 4) := by
          have h1 := Bs.cut HI.out.restW nb (by omega) rfl
          have h2 := Bs.take h1 4 (by rw [List.length_drop]; omega)
          rw [Hre.out, ← Hnb.out, List.drop_left, Hnb.out] at h2
          exact SlR.keepB h2 (fun o u hc => Hcell.out _ _ hap.2 hc)
        have hf4 : Bs W5 (.slice (some ⟨w.heap.size + 1, 0, none⟩) 4 4) [f0, f1, f2, f3] := blk_slice hF6 rfl (by simp [maxLen])
        have HQ := Lib.hid (bytesEqual_any _ _ _ _ W5.drew hf4 hr4)
        have hw1 : IntKind.i64.wrap ((nb : Int) + 4) = (nb : Int) + 4 := IntWalk.i64_in _ (by omega)
        have hw2 : ((nb : Int) + 4).toNat = nb + 4 := by omega
        have hw3 : (0 : Int) ≤ (nb : Int) := by omega
        have hw4 : (nb : Int) ≤ (nb : Int) + 4 := by omega
        have hw5 : (nb : Int) + 4 ≤ (rest.length : Int) := by omega
        have hw6 : ¬ cr = nb := by omega
        have hw7 : (nb : Int) + 4 ≤ (cr : Int) := by omega
        have hw8 : nb + 4 - nb = 4 := by omega
        have hw9 : (0 : Int) ≤ (nb : Int) + 4 := by omega
        cases hd : decide ([f0, f1, f2, f3] = r.take 4)
        · rw [hd] at HQ
          have Hn : Hid (nextS q rest = none) := by
            show _ = _
            rw [hn, if_neg]
            rintro ⟨_, h⟩
            rw [Hf.out] at h
            simp only [decide_eq_false_iff_not] at hd
            exact hd h.symm
          clear hd hn hr4 hf4 c0 c1 c2 c3 d0 d1 d2 d3
          refine wpIn_region_none (by kernel_rfl) ?_
          refine wpAnyIn_takeF (i := 0) (v := ?v2) rfl rfl (by kernel_rfl) (by kernel_rfl) (by kernel_rfl) (fun _ _ _ h => h) (yieldsF rfl (fun w => ?h2) (fun w => rfl)) ?r2
          case h2 => go_simp; try with_reducible rfl
          case' r2 => skip
          refine wpAnyIn_takeF (i := 1) (v := ?v3) rfl rfl (by kernel_rfl) (by kernel_rfl) (by kernel_rfl) (fun _ _ _ h => h) (yieldsF rfl (fun w => ?h3) (fun w => rfl)) ?r3
          case h3 => go_simp; try with_reducible rfl
          case' r3 => skip
          refine wpAnyIn_takeF (i := 2) (v := ?v4) rfl rfl (by kernel_rfl) (by kernel_rfl) (by kernel_rfl) (fun _ _ _ h => h) (yieldsF rfl (fun w => ?h4) (fun w => rfl)) ?r4
          case h4 => go_simp; try with_reducible rfl
          case' r4 => skip
          refine wpAnyIn_takeF (i := 3) (v := ?v5) rfl rfl (by kernel_rfl) (by kernel_rfl) (by kernel_rfl) (fun _ _ _ h => h) (yieldsF rfl (fun w => ?h5) (fun w => rfl)) ?r5
          case h5 => go_simp; try with_reducible rfl
          case' r5 => skip
          refine wpAnyIn_takeF (i := 4) (v := ?v6) rfl rfl (by kernel_rfl) (by kernel_rfl) (by kernel_rfl) (fun _ _ _ h => h) (yieldsF rfl (fun w => ?h6) (fun w => rfl)) ?r6
          case h6 => go_simp; try with_reducible rfl
          case' r6 => skip
          refine wpAnyIn_takeF (i := 5) (v := ?v7) rfl rfl (by kernel_rfl) (by kernel_rfl) (by kernel_rfl) (fun _ _ _ h => h) (yieldsF rfl (fun w => ?h7) (fun w => rfl)) ?r7
          case h7 => go_simp; try with_reducible rfl
          case' r7 => skip
          refine wpAnyIn_call (i := 6) (f := 117) (args := ?b8) (w' := ?w8) (by kernel_rfl) rfl rfl ?h8 ?r8
          case h8 => go_simp; try (first | with_reducible rfl | (refine ⟨?_, ?_⟩ <;> with_reducible rfl))
          case' r8 => skip
          refine HQ.out.mono ?_
          rintro e w6 ⟨rfl, rfl⟩
          refine ⟨_, rfl, ?_⟩
          refine wpAnyIn_run (i := 7) (v := ?v9) (w' := ?w9) rfl (by kernel_rfl) rfl rfl rfl ?h9 ?r9
          case h9 => go_simp; try (first | with_reducible rfl | (refine ⟨?_, ?_⟩ <;> with_reducible rfl))
          case' r9 => skip
          refine wpAnyIn_done (by kernel_rfl) (noP_normal ?_) _
          simp only [Act.put, List.setIfInBounds_toArray, List.set_cons_succ, List.set_cons_zero]
          obtain ⟨c0, c1, c2, d0, d1, d2⟩ := blk3 hB6
          clear hw1 hw2 hw3 hw4 hw5 hw6 hw7 hw8 hw9
          gi_wp2
          refine jumps_ret ?_
          exact bodyPost_ret (look_res _ _ _ _ _ _ _ _ rfl rfl rfl (blk_set3 hB6 _ _ _)) rfl (LookP.drew (look_fin Hu.out HI.out.pt hB6 hrow5 HI.out.lo hE5 Hn.out HI.out.out))
        · rw [hd] at HQ
          have Hn : Hid (nextS q rest = some (es, r.drop 4)) := by
            show _ = _
            rw [hn, if_pos]
            simp only [decide_eq_true_eq] at hd
            exact ⟨by omega, by rw [Hf.out, hd]⟩
          clear hd hn hr4 hf4 c0 c1 c2 c3 d0 d1 d2 d3
          refine wpIn_region_none (by kernel_rfl) ?_
          refine wpAnyIn_takeF (i := 0) (v := ?v11) rfl rfl (by kernel_rfl) (by kernel_rfl) (by kernel_rfl) (fun _ _ _ h => h) (yieldsF rfl (fun w => ?h11) (fun w => rfl)) ?r11
          case h11 => go_simp; try with_reducible rfl
          case' r11 => skip
          refine wpAnyIn_takeF (i := 1) (v := ?v12) rfl rfl (by kernel_rfl) (by kernel_rfl) (by kernel_rfl) (fun _ _ _ h => h) (yieldsF rfl (fun w => ?h12) (fun w => rfl)) ?r12
          case h12 => go_simp; try with_reducible rfl
          case' r12 => skip
          refine wpAnyIn_takeF (i := 2) (v := ?v13) rfl rfl (by kernel_rfl) (by kernel_rfl) (by kernel_rfl) (fun _ _ _ h => h) (yieldsF rfl (fun w => ?h13) (fun w => rfl)) ?r13
          case h13 => go_simp; try with_reducible rfl
          case' r13 => skip
          refine wpAnyIn_takeF (i := 3) (v := ?v14) rfl rfl (by kernel_rfl) (by kernel_rfl) (by kernel_rfl) (fun _ _ _ h => h) (yieldsF rfl (fun w => ?h14) (fun w => rfl)) ?r14
          case h14 => go_simp; try with_reducible rfl
          case' r14 => skip
          refine wpAnyIn_takeF (i := 4) (v := ?v15) rfl rfl (by kernel_rfl) (by kernel_rfl) (by kernel_rfl) (fun _ _ _ h => h) (yieldsF rfl (fun w => ?h15) (fun w => rfl)) ?r15
          case h15 => go_simp; try with_reducible rfl
          case' r15 => skip
          refine wpAnyIn_takeF (i := 5) (v := ?v16) rfl rfl (by kernel_rfl) (by kernel_rfl) (by kernel_rfl) (fun _ _ _ h => h) (yieldsF rfl (fun w => ?h16) (fun w => rfl)) ?r16
          case h16 => go_simp; try with_reducible rfl
          case' r16 => skip
          refine wpAnyIn_call (i := 6) (f := 117) (args := ?b17) (w' := ?w17) (by kernel_rfl) rfl rfl ?h17 ?r17
          case h17 => go_simp; try (first | with_reducible rfl | (refine ⟨?_, ?_⟩ <;> with_reducible rfl))
          case' r17 => skip
          refine HQ.out.mono ?_
          rintro e w6 ⟨rfl, rfl⟩
          refine ⟨_, rfl, ?_⟩
          refine wpAnyIn_run (i := 7) (v := ?v18) (w' := ?w18) rfl (by kernel_rfl) rfl rfl rfl ?h18 ?r18
          case h18 => go_simp; try (first | with_reducible rfl | (refine ⟨?_, ?_⟩ <;> with_reducible rfl))
          case' r18 => skip
          refine wpAnyIn_done (by kernel_rfl) (noP_normal ?_) _
          simp only [Act.put, List.setIfInBounds_toArray, List.set_cons_succ, List.set_cons_zero]
          gi_wp2
          obtain ⟨c0, c1, c2, d0, d1, d2⟩ := blk3 hB6
          have hx1 : IntKind.i64.wrap ((u0 : Int) + (nb : Int)) = (u0 : Int) + (nb : Int) := IntWalk.i64_in _ (by omega)
          have hx2 : IntKind.i64.wrap ((u0 : Int) + (nb : Int) + 4) = (u0 : Int) + (nb : Int) + 4 := IntWalk.i64_in _ (by omega)
          obtain ⟨i0, hi, hz0, hz1, hz2⟩ := info_parts info_ent
          have hb5 : w1.heap.size ≤ W5.heap.size := Nat.le_trans HI.out.sz hsz5
          obtain ⟨va, wa, hrun, hown, hgrow⟩ := run_append_sl (P := Tryz.prog) W5.drew.drew w1.heap.size 22 22 41 i0 _ 3 24 Tryz.underlying22 hi hz0 hz1 hz2 rfl (by decide)
            (.slice Av log.length cv) log.length (entCells log) hrow5 (.slice A2 es.length cc2) es.length (entCells es) (SlR.of_own hro5) (one_ents es) (by unfold maxLen; omega) (by omega) hb5
          obtain ⟨Aa, ca, rfl, _, _⟩ := SlR.open_ (SlR.of_own hown)
          have Hrun := Lib.hid hrun
          have Hown := Lib.hid hown
          have Hgrow := Lib.hid hgrow
          have hBa : Blk wa w.heap.size 29 #[.int .i64 first, .slice Av log.length cv, .int .i64 u0] := Blk.kept (W := W5.drew.drew) hB6 hgrow (hB6.not_row (by decide) hrow5)
          have hFa : Blk wa (w.heap.size + 1) 92 ([f0, f1, f2, f3].map bv).toArray := Blk.kept (W := W5.drew.drew) hF6 hgrow (hF6.not_row (by decide) hrow5)
          obtain ⟨e0, e1, e2, t0, t1, t2⟩ := blk3 hBa
          clear hrun hown hgrow
          have hle := HI.out.le
          have hrl4 : (r.drop 4).length = rest.length - (nb + 4) := by rw [List.length_drop]; have := Hlen.out; omega
          obtain ⟨AX, hAX⟩ : ∃ AX : Option Addr, (if cr = nb + 4 then some ⟨br, offr, none⟩ else some ⟨br, offr + (nb + 4), none⟩) = AX := ⟨_, rfl⟩
          have HAX := Lib.hid hAX
          clear hAX
          have Hfin : Hid (∀ T : Array Value, T.size = 100 → T.getD 2 undef = .pointer (some ⟨w.heap.size, 0, none⟩) → T.getD 3 undef = .complex .f64 a1 b1 → T.getD 5 undef = .pointer (some ⟨w.heap.size + 1, 0, none⟩) →
              T.getD 8 undef = .slice AX (rest.length - (nb + 4)) (cr - (nb + 4)) →
              ∃ w1 first, LkR w w1 bs first ⟨T, []⟩ ((wa.setCell ⟨w.heap.size, 1, none⟩ (.slice Aa (log.length + es.length) ca)).setCell ⟨w.heap.size, 2, none⟩ (.int .i64 ((u0 : Int) + nb + 4)))) := by
            intro T hT1 hT2 hT3 hT5 hT8
            have hAX := HAX.out
            subst hAX
            refine ⟨w1, first, a1, b1, chainP q body, log ++ es, .slice Aa (log.length + es.length) ca, _, cr - (nb + 4), r.drop 4, ([f0, f1, f2, f3].map bv).toArray, ⟨HPZ.out, ?_, (hFa.other (by omega) 1 _).other (by omega) 2 _, rfl, ?_, ?_, ?_, ?_, ?_, ?_, HI.out.lo, ?_, ?_⟩, rfl, hT1, hT2, hT3, hT5, by rw [hrl4]; exact hT8⟩
            · have hv : ((bs.length - (r.drop 4).length : Nat) : Int) = (u0 : Int) + nb + 4 := by
                have := Hu.out
                rw [hrl4]
                omega
              rw [hv]
              exact (hBa.set 1 (.slice Aa (log.length + es.length) ca)).set 2 (.int .i64 ((u0 : Int) + nb + 4))
            · have ec : entCells (log ++ es) = entCells log ++ entCells es := by simp [entCells]
              rw [ec, List.length_append]
              have r1 := Hown.out.kept (grownBy_set wa w.heap.size 1 (.slice Aa (log.length + es.length) ca)) (.inr (hBa.not_row (by decide) Hown.out).symm)
              have b1 := hBa.set 1 (.slice Aa (log.length + es.length) ca)
              exact r1.kept (grownBy_set _ w.heap.size 2 _) (.inr (b1.not_row (by decide) r1).symm)
            · by_cases h44 : r.length = 4
              · rw [show r.drop 4 = [] from List.drop_of_length_le (by omega)]
                exact SlR.empty w1 1 (by simp [maxLen]; omega)
              · rw [if_neg (by have := Hlen.out; omega)]
                have h := Bs.cut HI.out.rst (nb + 4) (by omega) rfl
                rw [hrl4]
                rw [show rest.drop (nb + 4) = r.drop 4 from by rw [Hre.out, ← Hnb.out]; simp] at h
                exact h
            · intro b off e hp
              split at e <;> (injection e with e; injection e with e1 _; rw [← e1]; exact hap)
            · intro p u hp1 hp2 hc
              have hlt := World.block_lt_of_cell? w1 p hc
              have k1 : W5.drew.drew.cell? p = some u := Hcell.out p u hp2 (HI.out.hold p u hp1 hp2 hc)
              have k2 := cell_grown Hgrow.out k1 (fun e => by have := (hrow5.lt _ e.symm).1; omega)
              have k3 := (World.cell?_setCell_other wa ⟨w.heap.size, 1, none⟩ p (.slice Aa (log.length + es.length) ca) (fun e => hp1 (by rw [← e]))).trans k2
              exact (World.cell?_setCell_other _ ⟨w.heap.size, 2, none⟩ p (.int .i64 ((u0 : Int) + nb + 4)) (fun e => hp1 (by rw [← e]))).trans k3
            · refine Below.setCell (p := ⟨w.heap.size, 2, none⟩) (Below.setCell (p := ⟨w.heap.size, 1, none⟩) (Below.grown ((hE5.drew).drew) Hgrow.out ?_ ?_) (Nat.le_refl _) _) (Nat.le_refl _) _
              · have := hE5.size; exact this
              · intro k ek
                have := (hrow5.lt _ ek).1
                have := HI.out.lo
                omega
            · have := Hgrow.out.size
              have h2 : W5.drew.drew.heap.size = W5.heap.size := rfl
              simp [World.setCell]
              omega
            · rw [List.length_append, hrl4]
              omega
            · rw [HI.out.out, scanS_some Hn.out, Hbody.out]
              simp [List.append_assoc]
          have hms : rest.length - (nb + 4) < rest.length := by omega
          refine wpIn_region_none (by kernel_rfl) ?_
          refine wpAnyIn_takeF (i := 0) (v := ?v20) rfl rfl (by kernel_rfl) (by kernel_rfl) (by kernel_rfl) (fun _ _ _ h => h) (yieldsF rfl (fun w => ?h20) (fun w => rfl)) ?r20
          case h20 => go_simp; try with_reducible rfl
          case' r20 => skip
          refine wpAnyIn_takeF (i := 2) (v := ?v21) rfl rfl (by kernel_rfl) (by kernel_rfl) (by kernel_rfl) (fun _ _ _ h => h) (yieldsF rfl (fun w => ?h21) (fun w => rfl)) ?r21
          case h21 => go_simp; try with_reducible rfl
          case' r21 => skip
          refine wpAnyIn_takeF (i := 4) (v := ?v22) rfl rfl (by kernel_rfl) (by kernel_rfl) (by kernel_rfl) (fun _ _ _ h => h) (yieldsF rfl (fun w => ?h22) (fun w => rfl)) ?r22
          case h22 => go_simp; try with_reducible rfl
          case' r22 => skip
          refine wpAnyIn_takeF (i := 6) (v := ?v23) rfl rfl (by kernel_rfl) (by kernel_rfl) (by kernel_rfl) (fun _ _ _ h => h) (yieldsF rfl (fun w => ?h23) (fun w => rfl)) ?r23
          case h23 => go_simp; try with_reducible rfl
          case' r23 => skip
          refine wpAnyIn_takeF (i := 9) (v := ?v24) rfl rfl (by kernel_rfl) (by kernel_rfl) (by kernel_rfl) (fun _ _ _ h => h) (yieldsF rfl (fun w => ?h24) (fun w => rfl)) ?r24
          case h24 => go_simp; try with_reducible rfl
          case' r24 => skip
          refine wpAnyIn_takeF (i := 10) (v := ?v25) rfl rfl (by kernel_rfl) (by kernel_rfl) (by kernel_rfl) (fun _ _ _ h => h) (yieldsF rfl (fun w => ?h25) (fun w => rfl)) ?r25
          case h25 => go_simp; try with_reducible rfl
          case' r25 => skip
          refine wpAnyIn_takeF (i := 11) (v := ?v26) rfl rfl (by kernel_rfl) (by kernel_rfl) (by kernel_rfl) (fun _ _ _ h => h) (yieldsF rfl (fun w => ?h26) (fun w => rfl)) ?r26
          case h26 => go_simp; try with_reducible rfl
          case' r26 => skip
          refine wpAnyIn_takeF (i := 12) (v := ?v27) rfl rfl (by kernel_rfl) (by kernel_rfl) (by kernel_rfl) (fun _ _ _ h => h) (yieldsF rfl (fun w => ?h27) (fun w => rfl)) ?r27
          case h27 => go_simp; try with_reducible rfl
          case' r27 => skip
          refine wpAnyIn_takeF (i := 13) (v := ?v28) rfl rfl (by kernel_rfl) (by kernel_rfl) (by kernel_rfl) (fun _ _ _ h => h) (yieldsF rfl (fun w => ?h28) (fun w => rfl)) ?r28
          case h28 => go_simp; try with_reducible rfl
          case' r28 => skip
          refine wpAnyIn_or (i := 1) (j := 5) (vi := .slice Av log.length cv) (vj := .int .i64 u0) (wi := W5.drew.drew) (wj := W5.drew.drew) rfl (by kernel_rfl) rfl rfl rfl rfl rfl rfl (by go_simp) (by go_simp) ?_ ?_
          · refine wpAnyIn_or (i := 3) (j := 5) (vi := .slice Aa (log.length + es.length) ca) (vj := .int .i64 u0) (wi := wa) (wj := W5.drew.drew) rfl (by kernel_rfl) rfl rfl rfl rfl (about_append _ _ _ rfl) rfl (exec_append (v := .slice Av log.length cv) (vx := .slice A2 es.length cc2) (.tmp 85) (.tmp 86) 22 rfl (by simp [Act.eval, Act.put]) (by simp [Act.eval, Act.put]) Hrun.out) (by go_simp) ?_ ?_
            · skip
              refine wpAnyIn_run (i := 5) (v := ?v29) (w' := ?w29) rfl (by kernel_rfl) rfl rfl rfl ?h29 ?r29
              case h29 => go_simp; try (first | with_reducible rfl | (refine ⟨?_, ?_⟩ <;> with_reducible rfl))
              case' r29 => skip
              refine wpAnyIn_takeF (i := 7) (v := ?v30) rfl rfl (by kernel_rfl) (by kernel_rfl) (by kernel_rfl) (fun _ _ _ h => h) (yieldsF rfl (fun w => ?h30) (fun w => rfl)) ?r30
              case h30 => go_simp; try with_reducible rfl
              case' r30 => skip
              refine wpAnyIn_takeF (i := 8) (v := ?v31) rfl rfl (by kernel_rfl) (by kernel_rfl) (by kernel_rfl) (fun _ _ _ h => h) (yieldsF rfl (fun w => ?h31) (fun w => rfl)) ?r31
              case h31 => go_simp; try with_reducible rfl
              case' r31 => skip
              refine wpAnyIn_run (i := 14) (v := ?v32) (w' := ?w32) rfl (by kernel_rfl) rfl rfl rfl ?h32 ?r32
              case h32 => go_simp; try (first | with_reducible rfl | (refine ⟨?_, ?_⟩ <;> with_reducible rfl))
              case' r32 => skip
              refine wpAnyIn_skip (i := 15) (w' := ?w33) rfl (by kernel_rfl) rfl rfl rfl ?h33 ?r33
              case h33 => go_simp; try (first | with_reducible rfl | (refine ⟨?_, ?_⟩ <;> with_reducible rfl))
              case' r33 => skip
              refine wpAnyIn_run (i := 16) (v := ?v34) (w' := ?w34) rfl (by kernel_rfl) rfl rfl rfl ?h34 ?r34
              case h34 => go_simp; try (first | with_reducible rfl | (refine ⟨?_, ?_⟩ <;> with_reducible rfl))
              case' r34 => skip
              refine wpAnyIn_skip (i := 17) (w' := ?w35) rfl (by kernel_rfl) rfl rfl rfl ?h35 ?r35
              case h35 => go_simp; try (first | with_reducible rfl | (refine ⟨?_, ?_⟩ <;> with_reducible rfl))
              case' r35 => skip
              refine wpAnyIn_run (i := 18) (v := ?v36) (w' := ?w36) rfl (by kernel_rfl) rfl rfl rfl ?h36 ?r36
              case h36 => go_simp; try (first | with_reducible rfl | (refine ⟨?_, ?_⟩ <;> with_reducible rfl))
              case' r36 => skip
              refine wpAnyIn_run (i := 19) (v := ?v37) (w' := ?w37) rfl (by kernel_rfl) rfl rfl rfl ?h37 ?r37
              case h37 => go_simp; try (first | with_reducible rfl | (refine ⟨?_, ?_⟩ <;> with_reducible rfl))
              case' r37 => skip
              refine wpAnyIn_done (by kernel_rfl) (noP_normal ?_) _
              simp only [Act.put, List.setIfInBounds_toArray, List.set_cons_succ, List.set_cons_zero]
              rw [HAX.out]
              gi_wp2
              refine wpIn_goto ?_
              try simp only [Exit.then]
              exact jumps_goto (by simp) ⟨Hfin.out _ rfl rfl rfl rfl rfl, by simp [sliceLen]; omega⟩
            · skip
              refine wpAnyIn_takeF (i := 7) (v := ?v39) rfl rfl (by kernel_rfl) (by kernel_rfl) (by kernel_rfl) (fun _ _ _ h => h) (yieldsF rfl (fun w => ?h39) (fun w => rfl)) ?r39
              case h39 => go_simp; try with_reducible rfl
              case' r39 => skip
              refine wpAnyIn_takeF (i := 8) (v := ?v40) rfl rfl (by kernel_rfl) (by kernel_rfl) (by kernel_rfl) (fun _ _ _ h => h) (yieldsF rfl (fun w => ?h40) (fun w => rfl)) ?r40
              case h40 => go_simp; try with_reducible rfl
              case' r40 => skip
              refine wpAnyIn_run (i := 3) (v := .slice Aa (log.length + es.length) ca) (w' := wa) rfl (by kernel_rfl) rfl rfl (about_append _ _ _ rfl) (exec_append (v := .slice Av log.length cv) (vx := .slice A2 es.length cc2) (.tmp 85) (.tmp 86) 22 rfl (by simp [Act.eval, Act.put]) (by simp [Act.eval, Act.put]) Hrun.out) ?_
              refine wpAnyIn_run (i := 14) (v := ?v41) (w' := ?w41) rfl (by kernel_rfl) rfl rfl rfl ?h41 ?r41
              case h41 => go_simp; try (first | with_reducible rfl | (refine ⟨?_, ?_⟩ <;> with_reducible rfl))
              case' r41 => skip
              refine wpAnyIn_skip (i := 15) (w' := ?w42) rfl (by kernel_rfl) rfl rfl rfl ?h42 ?r42
              case h42 => go_simp; try (first | with_reducible rfl | (refine ⟨?_, ?_⟩ <;> with_reducible rfl))
              case' r42 => skip
              refine wpAnyIn_run (i := 16) (v := ?v43) (w' := ?w43) rfl (by kernel_rfl) rfl rfl rfl ?h43 ?r43
              case h43 => go_simp; try (first | with_reducible rfl | (refine ⟨?_, ?_⟩ <;> with_reducible rfl))
              case' r43 => skip
              refine wpAnyIn_skip (i := 17) (w' := ?w44) rfl (by kernel_rfl) rfl rfl rfl ?h44 ?r44
              case h44 => go_simp; try (first | with_reducible rfl | (refine ⟨?_, ?_⟩ <;> with_reducible rfl))
              case' r44 => skip
              refine wpAnyIn_run (i := 18) (v := ?v45) (w' := ?w45) rfl (by kernel_rfl) rfl rfl rfl ?h45 ?r45
              case h45 => go_simp; try (first | with_reducible rfl | (refine ⟨?_, ?_⟩ <;> with_reducible rfl))
              case' r45 => skip
              refine wpAnyIn_run (i := 19) (v := ?v46) (w' := ?w46) rfl (by kernel_rfl) rfl rfl rfl ?h46 ?r46
              case h46 => go_simp; try (first | with_reducible rfl | (refine ⟨?_, ?_⟩ <;> with_reducible rfl))
              case' r46 => skip
              refine wpAnyIn_done (by kernel_rfl) (noP_normal ?_) _
              simp only [Act.put, List.setIfInBounds_toArray, List.set_cons_succ, List.set_cons_zero]
              rw [HAX.out]
              gi_wp2
              refine wpIn_goto ?_
              try simp only [Exit.then]
              exact jumps_goto (by simp) ⟨Hfin.out _ rfl rfl rfl rfl rfl, by simp [sliceLen]; omega⟩
          · skip
            refine wpAnyIn_takeF (i := 7) (v := ?v48) rfl rfl (by kernel_rfl) (by kernel_rfl) (by kernel_rfl) (fun _ _ _ h => h) (yieldsF rfl (fun w => ?h48) (fun w => rfl)) ?r48
            case h48 => go_simp; try with_reducible rfl
            case' r48 => skip
            refine wpAnyIn_takeF (i := 8) (v := ?v49) rfl rfl (by kernel_rfl) (by kernel_rfl) (by kernel_rfl) (fun _ _ _ h => h) (yieldsF rfl (fun w => ?h49) (fun w => rfl)) ?r49
            case h49 => go_simp; try with_reducible rfl
            case' r49 => skip
            refine wpAnyIn_run (i := 1) (v := ?v50) (w' := ?w50) rfl (by kernel_rfl) rfl rfl rfl ?h50 ?r50
            case h50 => go_simp; try (first | with_reducible rfl | (refine ⟨?_, ?_⟩ <;> with_reducible rfl))
            case' r50 => skip
            refine wpAnyIn_run (i := 3) (v := .slice Aa (log.length + es.length) ca) (w' := wa) rfl (by kernel_rfl) rfl rfl (about_append _ _ _ rfl) (exec_append (v := .slice Av log.length cv) (vx := .slice A2 es.length cc2) (.tmp 85) (.tmp 86) 22 rfl (by simp [Act.eval, Act.put]) (by simp [Act.eval, Act.put]) Hrun.out) ?_
            refine wpAnyIn_run (i := 14) (v := ?v51) (w' := ?w51) rfl (by kernel_rfl) rfl rfl rfl ?h51 ?r51
            case h51 => go_simp; try (first | with_reducible rfl | (refine ⟨?_, ?_⟩ <;> with_reducible rfl))
            case' r51 => skip
            refine wpAnyIn_skip (i := 15) (w' := ?w52) rfl (by kernel_rfl) rfl rfl rfl ?h52 ?r52
            case h52 => go_simp; try (first | with_reducible rfl | (refine ⟨?_, ?_⟩ <;> with_reducible rfl))
            case' r52 => skip
            refine wpAnyIn_run (i := 16) (v := ?v53) (w' := ?w53) rfl (by kernel_rfl) rfl rfl rfl ?h53 ?r53
            case h53 => go_simp; try (first | with_reducible rfl | (refine ⟨?_, ?_⟩ <;> with_reducible rfl))
            case' r53 => skip
            refine wpAnyIn_skip (i := 17) (w' := ?w54) rfl (by kernel_rfl) rfl rfl rfl ?h54 ?r54
            case h54 => go_simp; try (first | with_reducible rfl | (refine ⟨?_, ?_⟩ <;> with_reducible rfl))
            case' r54 => skip
            refine wpAnyIn_run (i := 18) (v := ?v55) (w' := ?w55) rfl (by kernel_rfl) rfl rfl rfl ?h55 ?r55
            case h55 => go_simp; try (first | with_reducible rfl | (refine ⟨?_, ?_⟩ <;> with_reducible rfl))
            case' r55 => skip
            refine wpAnyIn_run (i := 19) (v := ?v56) (w' := ?w56) rfl (by kernel_rfl) rfl rfl rfl ?h56 ?r56
            case h56 => go_simp; try (first | with_reducible rfl | (refine ⟨?_, ?_⟩ <;> with_reducible rfl))
            case' r56 => skip
            refine wpAnyIn_done (by kernel_rfl) (noP_normal ?_) _
            simp only [Act.put, List.setIfInBounds_toArray, List.set_cons_succ, List.set_cons_zero]
            rw [HAX.out]
            gi_wp2
            refine wpIn_goto ?_
            try simp only [Exit.then]
            exact jumps_goto (by simp) ⟨Hfin.out _ rfl rfl rfl rfl rfl, by simp [sliceLen]; omega⟩
end Go.Proofs.YtfjcnpigpkcfgaaGreat
