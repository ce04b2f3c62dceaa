/-
  The walk of one.take.
  The plain law of TwoCut.
  The walk of slices.Chunk's iterator over bytes.
  The walk of one.records' iterator.
-/
import Derived.Test.YtfjcnpigpkcfgaaGreatM14
set_option linter.all false
namespace Go.Proofs.YtfjcnpigpkcfgaaGreat
open Go.RowKit Go.Mv Go.Shelf
attribute [local go_sem] Oper.semAt_some
set_option maxRecDepth 100000
variable {T : Tab}

theorem entU : Tryz.prog.underlying 41 = some (.struct (Tryz.prog.fieldsOf 41)) := by kernel_rfl
theorem take1_res (tmps : Array Value) (W : World) (b : Nat) (cs : Array Value) (u : Value) (h2 : tmps.getD 2 undef = .pointer (some ⟨b, 0, none⟩)) (h3 : tmps.getD 3 undef = u) (hb : Blk W b 41 cs) (hs : cs.size = 3) : (results Tryz.f103 tmps).run Tryz.prog W = .ok (.tuple #[.agg cs, u]) W := by
  have hl := hb.load (P := Tryz.prog) entU rfl (by rw [hs]; kernel_rfl)
  have h2' : tmps[2]?.getD undef = .pointer (some ⟨b, 0, none⟩) := by simpa using h2
  have h3' : tmps[3]?.getD undef = u := by simpa using h3
  simp [results, Tryz.results103, h2', h3', asAddr, hl]
theorem blk3f {W : World} {b : Nat} {t : TypeId} {cs : Array Value} (h : Blk W b t cs) : W.frozen? ⟨b, 0, none⟩ = false ∧ W.frozen? ⟨b, 1, none⟩ = false ∧ W.frozen? ⟨b, 2, none⟩ = false := ⟨h.frozen 0, h.frozen 1, h.frozen 2⟩

theorem takeLong_rest {p : List UInt8} (h : (takeLongS p).1 = 0) : (takeLongS p).2.2 = p.drop 5 := by
  unfold takeLongS at h ⊢
  split at h
  · cases h
  · rename_i h5
    rw [if_neg h5]
    split at h
    · rename_i hb; rw [if_pos hb]
    · cases h
theorem takeLong_lt {p : List UInt8} : (takeLongS p).2.1 ≤ 1073741824 := by
  unfold takeLongS
  split
  · exact Nat.zero_le _
  · split
    · assumption
    · exact Nat.zero_le _
def TkJ (w : World) (r : Option Ent) (a : Act) (W : World) : Prop :=
  a.defers = [] ∧ a.tmps.size = 46 ∧ a.tmps.getD 2 undef = .pointer (some ⟨w.heap.size, 0, none⟩) ∧ (∃ x y z, Blk W w.heap.size 41 #[x, y, z]) ∧ Ext w W ∧ Hid (r = none)

set_option maxHeartbeats 1000000 in
theorem Take1_any (v : Value) (bs : List UInt8) (w : World) (hB : Bs w v bs) (hl : bs.length = 15) (hT : TabW T w) : Calls Tryz.prog 103 #[v] w (Take1P w (take1S T bs)) := by
  obtain ⟨A, c, rfl, h1, h2⟩ := SlR.open_ hB
  have hb0 := Blk.new w 41 #[.int .i64 0, .int .i64 0, .int .i64 0]
  have hX : Ext w (w.alloc (.cells #[.int .i64 0, .int .i64 0, .int .i64 0] 41)) := Ext.alloc (Ext.refl _) _
  have hct := crcTake_any (T := T) _ bs _ (hB.ext hX) (by omega) (by omega) (hT.ext hX)
  have hlen : ∀ p, crcTakeS T bs = some p → p.length = 11 := fun p h => by rw [crcTakeS_len h, hl]
  have hr0 : take1S T bs = take1S T bs := rfl
  obtain ⟨R, hR⟩ : ∃ R, take1S T bs = R := ⟨_, rfl⟩
  have hR' := hR
  unfold take1S at hR'
  rw [hR]
  refine (callsIn_wd (ro := none) (n := 9)).1 ?_
  refine callsIn_of_wp_marks Tryz.func103 rfl trivial ?_ rfl
  simp only [Tryz.ntmps103, List.size_toArray, List.length_cons, List.length_nil, Nat.reduceAdd, Nat.reduceSub, Array.replicate_succ, Array.replicate_zero, List.push_toArray, List.append_toArray, List.nil_append, List.cons_append]
  have Hct := Lib.hid hct
  have Hlen := Lib.hid hlen
  have HR := Lib.hid hR'
  have hw0 : w.heap.size < (w.alloc (.cells #[.int .i64 0, .int .i64 0, .int .i64 0] 41)).heap.size := by simp
  clear hct hlen hr0 hR hR' hB hT hl
  gi_wp2
  refine wpIn_scope_lab 0 (TkJ w R) (fun a _ => 0) rfl (fun l' h => by cases l' <;> first | exact absurd rfl h | rfl) ?_ ?_
  · intro hrest
    clear hrest
    cases hcr : crcTakeS T bs with
    | none =>
      rw [hcr] at Hct HR
      have HN : Hid (R = none) := HR.out.symm
      clear HR Hlen hcr
      gi_wp2_with (refine ⟨trivial, ?_⟩; gi_at_call 113; refine (callsIn_wd.2 Hct.out).mono ?_; rintro e w1 ⟨rfl, hE1⟩)
      refine wpIn_goto ?_
      simp only [Exit.then]
      refine jumps_goto (by simp) ?_
      exact ⟨rfl, rfl, rfl, ⟨_, _, _, hb0.ext hE1⟩, Ext.trans hX hE1, HN.out⟩
    | some p =>
      have hp := Hlen.out p hcr
      rw [hcr] at Hct HR
      clear Hlen hcr
      have key1 := fun (w' : World) (vv : Value) (h : Bs w' vv p) => TakeLong_any vv p w' h (by omega)
      have hrest := @takeLong_rest p
      rcases htl : takeLongS p with ⟨e1, t, rest⟩
      rw [htl] at key1 hrest
      have HR2 := HR.out
      simp only [htl] at HR2
      have Key1 := Lib.hid key1
      clear HR key1 htl
      by_cases he1 : e1 = 0
      · subst he1
        have hr6 : rest.length = 6 := by
          have h := hrest rfl
          dsimp only at h
          rw [h, List.length_drop, hp]
        simp only [if_true] at HR2
        obtain ⟨kb, hkb⟩ : ∃ kb, rest.getD 0 0 = kb := ⟨_, rfl⟩
        rw [hkb] at HR2
        have hk0 : rest[0]? = some kb := by
          rw [List.getElem?_eq_getElem (by omega), ← hkb]
          simp [List.getD_eq_getElem?_getD, List.getElem?_eq_getElem (show 0 < rest.length by omega)]
        obtain ⟨hk0l, hk0e⟩ := List.getElem?_eq_some_iff.1 hk0
        have key2 := fun (w' : World) (vv : Value) (h : Bs w' vv (rest.drop 1)) => TakeLong_any vv (rest.drop 1) w' h (by rw [List.length_drop]; omega)
        rcases htl2 : takeLongS (rest.drop 1) with ⟨e2, vn, rest2⟩
        rw [htl2] at key2
        simp only [htl2] at HR2
        have Key2 := Lib.hid key2
        have Hk0 := Lib.hid hk0e
        have Hr6 := Lib.hid hr6
        clear key2 htl2 hkb hk0 hrest hk0e hr6
        have hkw : IntKind.i64.wrap (kb.toNat : Int) = (kb.toNat : Int) := by
          have := kb.toNat_lt
          rw [IntKind.wrap_i64]; omega
        have HR3 := Lib.hid HR2
        have Hp := Lib.hid hp
        clear HR2 hp
        gi_wp2_with (refine ⟨trivial, ?_⟩; gi_at_call 113; refine (callsIn_wd.2 Hct.out).mono ?_; rintro e w1 ⟨⟨A1, c1, rfl, ho1⟩, hE1⟩; have hBp : Bs w1 (.slice A1 p.length c1) p := SlR.of_own ho1; have HBp := Lib.hid hBp; have HE1 := Lib.hid hE1; have hb1 := hb0.ext hE1; have hw1 : w.heap.size < w1.heap.size := hb1.lt; clear hBp ho1 hE1; obtain ⟨g0, g1, g2, f0, f1, f2⟩ := blk3 hb1)
        refine ⟨trivial, ?_⟩
        refine (callsIn_wd.2 (Key1.out w1 _ HBp.out)).mono ?_
        rintro e w2 ⟨vr, rfl, hvr, hE2⟩
        have hvr' : OwnB w2 w1.heap.size vr rest := hvr
        obtain ⟨q2, c2, hv2, hq2, hc21, hc22⟩ := ownsRow_pos hvr' (by rw [Hr6.out]; omega)
        rw [Hr6.out] at hv2 hc21
        subst hv2
        have hb2 := hb1.ext hE2
        have HE2 := Lib.hid hE2
        have Hvr := Lib.hid hvr'
        clear g0 g1 g2 f0 f1 f2 hvr hvr' hE2 hb1
        obtain ⟨g0, g1, g2, f0, f1, f2⟩ := blk3 hb2
        have hne : some q2 ≠ some w.heap.size := fun h => by cases h; omega
        have o1 : OwnB (w2.setCell ⟨w.heap.size, 0, none⟩ (.int .i64 t)) w1.heap.size (.slice (some ⟨q2, 0, none⟩) 6 c2) rest := World.ownsRow.kept Hvr.out (grownBy_set _ _ 0 _) (.inr hne)
        have o2 : OwnB ((w2.setCell ⟨w.heap.size, 0, none⟩ (.int .i64 t)).setCell ⟨w.heap.size, 1, none⟩ (.int .i64 kb.toNat)) w1.heap.size (.slice (some ⟨q2, 0, none⟩) 6 c2) rest := World.ownsRow.kept o1 (grownBy_set _ _ 1 _) (.inr hne)
        have hrc : (w2.setCell ⟨w.heap.size, 0, none⟩ (.int .i64 t)).cell? ⟨q2, 0, none⟩ = some (.int .u8 (kb.toNat : Int)) := by
          obtain ⟨_, b', off', e', hc⟩ := Bs.at_ (SlR.of_own o1) (by rw [Hr6.out]; omega)
          cases e'
          have := hc 0 hk0l
          rw [Hk0.out] at this
          exact this
        have hb3 := (hb2.set 0 (.int .i64 t)).set 1 (.int .i64 kb.toNat)
        have hE3 : Ext w ((w2.setCell ⟨w.heap.size, 0, none⟩ (.int .i64 t)).setCell ⟨w.heap.size, 1, none⟩ (.int .i64 kb.toNat)) := Below.setCell (p := ⟨w.heap.size, 1, none⟩) (Below.setCell (p := ⟨w.heap.size, 0, none⟩) (Ext.trans hX (Ext.trans HE1.out HE2.out)) (Nat.le_refl _) _) (Nat.le_refl _) _
        have hB5 : Bs ((w2.setCell ⟨w.heap.size, 0, none⟩ (.int .i64 t)).setCell ⟨w.heap.size, 1, none⟩ (.int .i64 kb.toNat)) (.slice (some ⟨q2, 0 + 1, none⟩) (6 - 1) (c2 - 1)) (rest.drop 1) := Bs.cut (SlR.of_own o2) 1 (by rw [Hr6.out]; omega) Hr6.out.symm
        have HB5 := Lib.hid hB5
        have Hb3 := Lib.hid hb3
        have HE3 := Lib.hid hE3
        clear hB5 hb3 hE3 o1 o2
        have hc20 : ¬ (c2 = 1) := by omega
        gi_wp2
        have hB5' : Bs ((w2.setCell ⟨w.heap.size, 0, none⟩ (.int .i64 t)).setCell ⟨w.heap.size, 1, none⟩ (.int .i64 kb.toNat)) (.slice (some ⟨q2, 1, none⟩) 5 (c2 - 1)) (rest.drop 1) := HB5.out
        have hb3' : Blk ((w2.setCell ⟨w.heap.size, 0, none⟩ (.int .i64 t)).setCell ⟨w.heap.size, 1, none⟩ (.int .i64 kb.toNat)) w.heap.size 41 #[.int .i64 t, .int .i64 kb.toNat, .int .i64 0] := Hb3.out
        have hE3' := HE3.out
        clear HB5 Hb3 HE3 g0 g1 g2 f0 f1 f2 hb2 HE2 hrc Hvr
        generalize (w2.setCell ⟨w.heap.size, 0, none⟩ (.int .i64 t)).setCell ⟨w.heap.size, 1, none⟩ (.int .i64 kb.toNat) = w3 at *
        have HE3 := Lib.hid hE3'
        have key := Key2.out w3 _ hB5'
        clear hE3' hB5'
        refine ⟨trivial, ?_⟩
        refine (callsIn_wd.2 key).mono ?_
        rintro e w4 ⟨vr2, rfl, -, hE4⟩
        have hb4 := hb3'.ext hE4
        have HE4 := Lib.hid (Ext.trans HE3.out hE4)
        clear key hE4 hb3'
        obtain ⟨g0, g1, g2, f0, f1, f2⟩ := blk3 hb4
        have hR := HR3.out
        clear HR3
        by_cases he2 : e2 = 0
        · subst he2
          simp only [if_true] at hR
          have hb5 := hb4.set 2 (.int .i64 vn)
          have hb5' : Blk (w4.setCell ⟨w.heap.size, 2, none⟩ (.int .i64 vn)) w.heap.size 41 #[.int .i64 t, .int .i64 kb.toNat, .int .i64 vn] := hb5
          have HE5 : Hid (Ext w (w4.setCell ⟨w.heap.size, 2, none⟩ (.int .i64 vn))) := Below.setCell (p := ⟨w.heap.size, 2, none⟩) HE4.out (Nat.le_refl _) _
          have hRt := Right_any t kb.toNat vn (w4.setCell ⟨w.heap.size, 2, none⟩ (.int .i64 vn))
          have Hb5 := Lib.hid hb5'
          clear hb5 hb5'
          cases hok : okB t kb.toNat vn with
          | true =>
            rw [hok] at hR hRt
            have HRt := Lib.hid hRt
            rw [if_pos rfl] at hR
            have HR4 := Lib.hid hR
            clear hR hRt hok
            gi_wp2
            refine ⟨trivial, ?_⟩
            refine (callsIn_wd.2 HRt.out).mono ?_
            rintro e w5 ⟨rfl, hE5⟩
            have hE5' : Ext (w4.setCell ⟨w.heap.size, 2, none⟩ (.int .i64 vn)) w5 := hE5
            have hb6 := Hb5.out.ext hE5'
            have HE6 := Lib.hid (Ext.trans HE5.out hE5')
            clear g0 g1 g2 f0 f1 f2 hE5 hE5' hb4
            obtain ⟨g0, g1, g2, f0, f1, f2⟩ := blk3 hb6
            gi_wp2
            refine jumps_ret ?_
            refine ret_none (.tuple #[.agg #[.int .i64 t, .int .i64 kb.toNat, .int .i64 vn], .bool true]) (take1_res _ _ _ _ _ rfl rfl (blk_set3 hb6 _ _ _) rfl) ?_
            rw [← HR4.out]
            refine ⟨rfl, ?_⟩
            exact ((Below.setCell HE6.out (p := ⟨w.heap.size, 0, none⟩) (Nat.le_refl _) _).setCell (p := ⟨w.heap.size, 1, none⟩) (Nat.le_refl _) _).setCell (p := ⟨w.heap.size, 2, none⟩) (Nat.le_refl _) _
          | false =>
            rw [hok] at hR hRt
            have HRt := Lib.hid hRt
            rw [if_neg (by decide)] at hR
            have HN : Hid (R = none) := hR.symm
            clear hR hRt hok
            gi_wp2
            refine ⟨trivial, ?_⟩
            refine (callsIn_wd.2 HRt.out).mono ?_
            rintro e w5 ⟨rfl, hE5⟩
            have hE5' : Ext (w4.setCell ⟨w.heap.size, 2, none⟩ (.int .i64 vn)) w5 := hE5
            have hb6 := Hb5.out.ext hE5'
            have HE6 := Lib.hid (Ext.trans HE5.out hE5')
            clear g0 g1 g2 f0 f1 f2 hE5 hE5' hb4
            gi_wp2
            refine wpIn_goto ?_
            simp only [Exit.then]
            refine jumps_goto (by simp) ?_
            exact ⟨rfl, rfl, rfl, ⟨_, _, _, hb6⟩, HE6.out, HN.out⟩
        · have hne2 : ((e2 : Int) != 0) = true := by simp [he2]
          rw [if_neg he2] at hR
          have HN : Hid (R = none) := hR.symm
          clear hR
          gi_wp2
          refine ⟨trivial, ?_⟩
          gi_wp2
          refine wpIn_goto ?_
          simp only [Exit.then]
          refine jumps_goto (by simp) ?_
          exact ⟨rfl, rfl, rfl, ⟨_, _, _, hb4.set 2 _⟩, Below.setCell (p := ⟨w.heap.size, 2, none⟩) HE4.out (Nat.le_refl _) _, HN.out⟩
      · have hne : ((e1 : Int) != 0) = true := by simp [he1]
        rw [if_neg he1] at HR2
        have HN : Hid (R = none) := HR2.symm
        have Hp := Lib.hid hp
        clear HR2 hrest hp
        gi_wp2_with (first
          | (refine ⟨trivial, ?_⟩; gi_at_call 113; refine (callsIn_wd.2 Hct.out).mono ?_; rintro e w1 ⟨⟨A1, c1, rfl, ho1⟩, hE1⟩; have hBp : Bs w1 (.slice A1 p.length c1) p := SlR.of_own ho1; have HBp := Lib.hid hBp; have HE1 := Lib.hid hE1; have hb1 := hb0.ext hE1; clear hBp ho1 hE1; obtain ⟨g0, g1, g2, f0, f1, f2⟩ := blk3 hb1)
          | (refine ⟨trivial, ?_⟩; gi_at_call 90; refine (callsIn_wd.2 (Key1.out w1 _ HBp.out)).mono ?_; rintro e w2 ⟨vr, rfl, -, hE2⟩; clear g0 g1 g2 f0 f1 f2; have hb2 := hb1.ext hE2; have HE2 := Lib.hid hE2; clear hE2; obtain ⟨g0, g1, g2, f0, f1, f2⟩ := blk3 hb2))
        refine wpIn_goto ?_
        simp only [Exit.then]
        refine jumps_goto (by simp) ?_
        exact ⟨rfl, rfl, rfl, ⟨_, _, _, hb2.set 0 _⟩, Below.setCell (p := ⟨w.heap.size, 0, none⟩) (Ext.trans hX (Ext.trans HE1.out HE2.out)) (Nat.le_refl _) _, HN.out⟩
  · rintro ⟨TT, df⟩ W ⟨hd, hsz, h2, ⟨x, y, z, hb⟩, hE, HN⟩
    cases hd
    dsimp only at hsz h2
    have hT := frame_of 46 TT hsz
    generalize hU : (fun i => TT.getD i undef) = U at hT
    have g2 : U 2 = .pointer (some ⟨w.heap.size, 0, none⟩) := by rw [← hU]; exact h2
    have hT2 : TT = #[U 0, U 1, .pointer (some ⟨w.heap.size, 0, none⟩), U 3, U 4, U 5, U 6, U 7, U 8, U 9, U 10, U 11, U 12, U 13, U 14, U 15, U 16, U 17, U 18, U 19, U 20, U 21, U 22, U 23, U 24, U 25, U 26, U 27, U 28, U 29, U 30, U 31, U 32, U 33, U 34, U 35, U 36, U 37, U 38, U 39, U 40, U 41, U 42, U 43, U 44, U 45] := by rw [hT]; show (#[U 0, U 1, U 2, U 3, U 4, U 5, U 6, U 7, U 8, U 9, U 10, U 11, U 12, U 13, U 14, U 15, U 16, U 17, U 18, U 19, U 20, U 21, U 22, U 23, U 24, U 25, U 26, U 27, U 28, U 29, U 30, U 31, U 32, U 33, U 34, U 35, U 36, U 37, U 38, U 39, U 40, U 41, U 42, U 43, U 44, U 45] : Array Value) = _; rw [g2]
    clear hT hU hsz g2 h2
    subst hT2
    obtain ⟨g0, g1, g2, f0, f1, f2⟩ := blk3 hb
    gi_wp2
    refine jumps_ret ?_
    refine ret_none (.tuple #[.agg #[.int .i64 0, .int .i64 0, .int .i64 0], .bool false]) (take1_res _ _ _ _ _ rfl rfl (blk_set3 hb _ _ _) rfl) ?_
    rw [HN.out]
    refine ⟨rfl, ?_⟩
    exact ((Below.setCell hE (p := ⟨w.heap.size, 0, none⟩) (Nat.le_refl _) _).setCell (p := ⟨w.heap.size, 1, none⟩) (Nat.le_refl _) _).setCell (p := ⟨w.heap.size, 2, none⟩) (Nat.le_refl _) _
end Go.Proofs.YtfjcnpigpkcfgaaGreat

namespace Go.Proofs.YtfjcnpigpkcfgaaGreat
open Go.RowKit Go.Mv

theorem headS_okC {f : Nat} (h1 : 1 ≤ f) (h2 : f ≤ 1073741824) : (headS (f : Int)).1 = 0 := by
  unfold headS
  rw [if_pos ⟨by rw [numB_true]; omega, by omega⟩]
theorem allOk_take_of {es : List Ent} (n : Nat) (h : allOk es = true) : allOk (es.take n) = true := by
  unfold allOk at *
  rw [List.all_eq_true] at *
  exact fun x hx => h x (List.mem_of_mem_take hx)
theorem allOk_drop_of {es : List Ent} (n : Nat) (h : allOk es = true) : allOk (es.drop n) = true := by
  unfold allOk at *
  rw [List.all_eq_true] at *
  exact fun x hx => h x (List.mem_of_mem_drop hx)
theorem blkOk_take4 {es : List Ent} (h0 : 0 < es.length) (h : allOk es = true) : blkOk (es.take 4) = true := by
  rw [blkOk_iff, List.length_take]
  exact ⟨by omega, allOk_take_of 4 h⟩

/-- Of blocks that are cut off the whole ones are scanned. -/
theorem cut_scan (es : List Ent) : ∀ (p : Nat × Nat) (k : Nat), allOk es = true → ∃ n, n ≤ es.length ∧ (n % 4 = 0 ∨ n = es.length) ∧ (scanS p ((blocksS p es).take k)).1 = es.take n ∧ (blocksS p es).take k = blocksS p (es.take n) ++ (scanS p ((blocksS p es).take k)).2.2 := by
  generalize hlen : es.length = N
  induction N using Nat.strongRecOn generalizing es with
  | _ N ih =>
    intro p k ha
    cases hn : nextS p ((blocksS p es).take k) with
    | none =>
      rw [scanS_none hn]
      exact ⟨0, Nat.zero_le _, .inl rfl, by simp, by simp [blocksS_nil]⟩
    | some x =>
      obtain ⟨es1, r⟩ := x
      rw [scanS_some hn]
      dsimp only
      obtain ⟨hok, hX⟩ := (nextS_iff _ _ _ _).1 hn
      have hall : blocksS p es = blkS p es1 ++ (r ++ (blocksS p es).drop k) := by
        rw [← List.append_assoc, ← hX, List.take_append_drop]
      have h0 : 0 < es.length := by
        rcases Nat.eq_zero_or_pos es.length with h | h
        · have : es = [] := List.eq_nil_of_length_eq_zero h
          subst this
          rw [blocksS_nil] at hX
          have := congrArg List.length hX
          simp [blkS, blkBody] at this
        · exact h
      have hnx : nextS p (blocksS p es) = some (es1, r ++ (blocksS p es).drop k) := (nextS_iff _ _ _ _).2 ⟨hok, hall⟩
      have hnx2 : nextS p (blocksS p es) = some (es.take 4, blocksS (chainP p (blkBody (es.take 4))) (es.drop 4)) := (nextS_iff _ _ _ _).2 ⟨blkOk_take4 h0 ha, blocksS_cons p es h0⟩
      rw [hnx] at hnx2
      injection hnx2 with h1
      injection h1 with h2 h3
      subst h2
      have hr : r = (blocksS (chainP p (blkBody (es.take 4))) (es.drop 4)).take r.length := by rw [← h3, List.take_left]
      obtain ⟨n, g1, g2, g3, g4⟩ := ih (es.drop 4).length (by rw [List.length_drop]; omega) (es.drop 4) rfl (chainP p (blkBody (es.take 4))) r.length (allOk_drop_of 4 ha)
      rw [← hr] at g3 g4
      rw [List.length_drop] at g1 g2
      refine ⟨(es.take 4).length + n, by rw [List.length_take]; omega, by rw [List.length_take]; omega, ?_, ?_⟩
      · rw [g3]
        by_cases h4 : 4 ≤ es.length
        · rw [List.length_take, Nat.min_eq_left h4, List.take_add]
        · rw [List.length_take, Nat.min_eq_right (by omega), List.take_of_length_le (show es.length ≤ 4 by omega), List.drop_of_length_le (by omega : es.length ≤ 4), List.take_of_length_le (show es.length ≤ es.length + n by omega)]
          simp
      · rw [hX]
        clear hr
        generalize (scanS (chainP p (blkBody (es.take 4))) r).2.2 = Z at g4 ⊢
        rw [g4]
        by_cases h4 : 4 ≤ es.length
        · have hp : 0 < (es.take (4 + n)).length := by rw [List.length_take]; omega
          rw [List.length_take, Nat.min_eq_left h4, blocksS_cons p (es.take (4 + n)) hp, List.take_take, Nat.min_eq_left (by omega), List.drop_take, show 4 + n - 4 = n from by omega]
          rw [List.append_assoc]
        · have hn0 : n = 0 := by omega
          subst hn0
          rw [List.length_take, Nat.min_eq_right (by omega), Nat.add_zero, List.take_of_length_le (Nat.le_refl _), List.take_zero, blocksS_nil]
          conv => rhs; rw [blocksS_cons p es h0]
          rw [List.drop_of_length_le (by omega : es.length ≤ 4), blocksS_nil]
          simp

theorem left_mod (left : Int) (n : Nat) (h0 : 0 < n) (hn : n ≤ 1000000) : ∃ j : Nat, (wrap64 (left.tmod n + n)).tmod n = j ∧ j < n := by
  have h1 := Int.natAbs_tmod left n
  have h2 := Nat.mod_lt left.natAbs (show 0 < (n : Int).natAbs by omega)
  rw [← h1] at h2
  generalize left.tmod n = t at *
  have h3 : wrap64 (t + n) = t + n := by unfold wrap64; omega
  rw [h3]
  have h4 : 0 ≤ t + n := by omega
  obtain ⟨x, hx⟩ : ∃ x : Nat, t + n = x := ⟨_, (Int.toNat_of_nonneg h4).symm⟩
  rw [hx]
  exact ⟨x % n, by rw [Int.tmod_eq_emod_of_nonneg (by omega)]; rfl, Nat.mod_lt _ h0⟩

theorem cut_plain {f : Nat} (h1 : 1 ≤ f) (h2 : f ≤ 1073741824) {l : List Ent} (hl : allOk l = true) :
    ∃ (B H : List UInt8), fileS (f : Int) l = (0, B) ∧ headS (f : Int) = (0, H) ∧ 0 < H.length ∧ B.length ≤ 6 + 20 * l.length ∧ H.length ≤ B.length ∧ H.length ≤ 6 ∧
      ∀ k, k ≤ B.length → (k < H.length → lookS (B.take k) = ⟨11, 0, [], 0, (0, 0)⟩) ∧
        (H.length ≤ k → ∃ n u q q', n ≤ l.length ∧ (n % 4 = 0 ∨ n = l.length) ∧ u ≤ k ∧ lookS (B.take k) = ⟨0, f, l.take n, u, q⟩ ∧ fileS (f : Int) (l.take n) = (0, B.take u) ∧ lookS (B.take u) = ⟨0, f, l.take n, u, q'⟩) := by
  have hh := headS_okC h1 h2
  have hfl := file_len (f : Int) l
  have hfile := file_ok hh hl
  rw [hfile] at hfl
  dsimp only at hfl
  have hHl := headS_len (f : Int)
  refine ⟨_, (headS (f : Int)).2, hfile, by rw [← hh], ?_, hfl, by rw [List.length_append]; omega, hHl, fun k hk => ⟨fun hlt => ?_, fun hge => ?_⟩⟩
  · unfold headS
    rw [if_pos ⟨by rw [numB_true]; omega, by omega⟩]
    simp
  · apply look_none
    cases hd : headT (((headS (f : Int)).2 ++ blocksS (chainP (0, 0) (headS (f : Int)).2) l).take k) with
    | none => rfl
    | some x =>
      exfalso
      obtain ⟨f', r⟩ := x
      obtain ⟨e1, e2⟩ := (headT_iff _ _ _).1 hd
      have e3 : headT ((headS (f : Int)).2 ++ blocksS (chainP (0, 0) (headS (f : Int)).2) l) = some (f', r ++ ((headS (f : Int)).2 ++ blocksS (chainP (0, 0) (headS (f : Int)).2) l).drop k) := by
        rw [headT_iff]
        exact ⟨e1, by rw [← List.append_assoc, ← e2, List.take_append_drop]⟩
      have e4 : headT ((headS (f : Int)).2 ++ blocksS (chainP (0, 0) (headS (f : Int)).2) l) = some (f, blocksS (chainP (0, 0) (headS (f : Int)).2) l) := by
        rw [headT_iff]; exact ⟨hh, rfl⟩
      rw [e3] at e4
      injection e4 with e5
      injection e5 with e6 e7
      subst e6
      have := congrArg List.length e2
      rw [List.length_take, List.length_append, List.length_append] at this
      omega
  · obtain ⟨j, rfl⟩ : ∃ j, k = (headS (f : Int)).2.length + j := ⟨k - (headS (f : Int)).2.length, by omega⟩
    obtain ⟨n, g1, g2, g3, g4⟩ := cut_scan l (chainP (0, 0) (headS (f : Int)).2) j hl
    have hfn := file_ok hh (allOk_take_of n hl)
    have hput := look_put hh (allOk_take_of n hl) []
    rw [hfn, List.append_nil, scan_nil] at hput
    dsimp only at hput
    have ht : ((headS (f : Int)).2 ++ blocksS (chainP (0, 0) (headS (f : Int)).2) l).take ((headS (f : Int)).2.length + j) = (headS (f : Int)).2 ++ (blocksS (chainP (0, 0) (headS (f : Int)).2) l).take j := by
      rw [List.take_append, List.take_of_length_le (by omega), Nat.add_sub_cancel_left]
    have hlen := congrArg List.length g4
    rw [List.length_append] at hlen
    have hut : ((headS (f : Int)).2 ++ blocksS (chainP (0, 0) (headS (f : Int)).2) l).take ((headS (f : Int)).2.length + (blocksS (chainP (0, 0) (headS (f : Int)).2) (l.take n)).length) = (headS (f : Int)).2 ++ blocksS (chainP (0, 0) (headS (f : Int)).2) (l.take n) := by
      have : blocksS (chainP (0, 0) (headS (f : Int)).2) l = blocksS (chainP (0, 0) (headS (f : Int)).2) (l.take n) ++ ((scanS (chainP (0, 0) (headS (f : Int)).2) ((blocksS (chainP (0, 0) (headS (f : Int)).2) l).take j)).2.2 ++ (blocksS (chainP (0, 0) (headS (f : Int)).2) l).drop j) := by
        rw [← List.append_assoc, ← g4, List.take_append_drop]
      rw [this, ← List.append_assoc, ← List.length_append, List.take_left]
    refine ⟨n, (headS (f : Int)).2.length + (blocksS (chainP (0, 0) (headS (f : Int)).2) (l.take n)).length, (scanS (chainP (0, 0) (headS (f : Int)).2) ((blocksS (chainP (0, 0) (headS (f : Int)).2) l).take j)).2.1, endQ (f : Int) (l.take n), g1, g2, ?_, ?_, ?_, ?_⟩
    · rw [List.length_take] at hlen; omega
    · rw [ht, look_some ((headT_iff _ _ _).2 ⟨hh, rfl⟩), g3]
      congr 1
      rw [List.length_append]
      omega
    · rw [hut]; exact hfn
    · rw [hut, hput]
      simp
end Go.Proofs.YtfjcnpigpkcfgaaGreat

namespace Go.Proofs.YtfjcnpigpkcfgaaGreat
open Go.RowKit Go.Mv Go.Shelf
attribute [local go_sem] Oper.semAt_some
set_option maxRecDepth 100000

/-- Bytes' parts, so many bytes each, the last one at most. -/
def chunkL (n : Nat) (bs : List UInt8) : List (List UInt8) :=
  if h : bs = [] ∨ n = 0 then [] else bs.take n :: chunkL n (bs.drop n)
termination_by bs.length
decreasing_by
  have : 0 < bs.length := List.length_pos_iff.2 (fun e => h (.inl e))
  have : n ≠ 0 := fun e => h (.inr e)
  simp; omega
theorem chunkL_nil (n : Nat) : chunkL n [] = [] := by rw [chunkL]; simp
theorem chunkL_cons (n : Nat) (bs : List UInt8) (hn : 0 < n) (h : 0 < bs.length) : chunkL n bs = bs.take n :: chunkL n (bs.drop n) := by
  rw [chunkL, dif_neg]
  rintro (e | e)
  · rw [e] at h; simp at h
  · omega
theorem chunkL_at (n : Nat) (hn : 0 < n) : ∀ (i : Nat) (bs : List UInt8), (i * n < bs.length → (chunkL n bs)[i]? = some ((bs.drop (i * n)).take n)) ∧ (bs.length ≤ i * n → (chunkL n bs).length ≤ i) := by
  intro i
  induction i with
  | zero =>
    intro bs
    refine ⟨fun h => ?_, fun h => ?_⟩
    · rw [chunkL_cons n bs hn (by omega), Nat.zero_mul]
      rfl
    · have : bs = [] := List.eq_nil_of_length_eq_zero (by omega)
      rw [this, chunkL_nil]
      exact Nat.le_refl _
  | succ i ih =>
    intro bs
    have hm : (i + 1) * n = n + i * n := by rw [Nat.add_mul, Nat.one_mul, Nat.add_comm]
    rcases Nat.eq_zero_or_pos bs.length with h0 | h0
    · have : bs = [] := List.eq_nil_of_length_eq_zero h0
      subst this
      exact ⟨fun h => by simp at h, fun _ => by rw [chunkL_nil]; simp⟩
    · obtain ⟨h1, h2⟩ := ih (bs.drop n)
      rw [List.length_drop] at h1 h2
      rw [chunkL_cons n bs hn h0, hm]
      refine ⟨fun h => ?_, fun h => ?_⟩
      · rw [List.getElem?_cons_succ, h1 (by omega), List.drop_drop]
      · have := h2 (by omega)
        rw [List.length_cons]
        omega
theorem bytes_part {wo : World} {b off m c : Nat} {bs : List UInt8} (h : Bs wo (.slice (some ⟨b, off, none⟩) m c) bs) (k n : Nat) (hk : k + n ≤ bs.length) : Bs wo (.slice (some ⟨b, off + k, none⟩) n n) ((bs.drop k).take n) := by
  obtain ⟨h0, A, c', e, h1, h2, h3⟩ := h
  cases e
  unfold Bs
  have hl : ((bs.drop k).take n).length = n := by rw [List.length_take, List.length_drop]; omega
  rw [hl]
  refine ⟨by rw [List.length_map, hl]; omega, _, n, rfl, Nat.le_refl _, by omega, fun hn => ?_⟩
  obtain ⟨b', off', e', hc⟩ := h3 (by omega)
  cases e'
  refine ⟨b, off + k, rfl, fun j u hu => ?_⟩
  rw [Nat.add_assoc]
  refine hc (k + j) u ?_
  rw [← hu, List.getElem?_map, List.getElem?_map, List.getElem?_take, List.getElem?_drop]
  have hj : j < n := by
    have := (List.getElem?_eq_some_iff.1 hu).1
    rw [List.length_map, hl] at this
    exact this
  rw [if_pos hj]

end Go.Proofs.YtfjcnpigpkcfgaaGreat

namespace Go.Proofs.YtfjcnpigpkcfgaaGreat
open Go.RowKit Go.Mv Go.Shelf
attribute [local go_sem] Oper.semAt_some
set_option maxRecDepth 100000
variable {T : Tab}

/-- Records' entries, each with where it ends. -/
def recsP (T : Tab) (b : List UInt8) (p : Nat) : List (Nat × Ent) :=
  if h : b.length < 15 then [] else
    match take1S T (b.take 15) with
    | none => []
    | some e => (p + 15, e) :: recsP T (b.drop 15) (p + 15)
termination_by b.length
decreasing_by
  simp; omega
theorem recsP_short {b : List UInt8} {p : Nat} (h : b.length < 15) : recsP T b p = [] := by rw [recsP, dif_pos h]
theorem recsP_none {b : List UInt8} {p : Nat} (h : ¬ b.length < 15) (hn : take1S T (b.take 15) = none) : recsP T b p = [] := by rw [recsP, dif_neg h, hn]
theorem recsP_some {b : List UInt8} {p : Nat} {e : Ent} (h : ¬ b.length < 15) (hn : take1S T (b.take 15) = some e) : recsP T b p = (p + 15, e) :: recsP T (b.drop 15) (p + 15) := by rw [recsP, dif_neg h, hn]

/-- What the one that goes over records has to keep. -/
def RcK (bo n0 : Nat) (k : Nat) (o : Obj) : Prop := o.isCells = true ∧ k ≠ bo ∧ (k < n0 ∨ o.ty ≠ some 41)
theorem Hold.keptR {wo W W' : World} {bo n0 n : Nat} (h : Hold wo W) (hbo : wo.heap.size ≤ bo) (hn0 : wo.heap.size ≤ n0) (hk : Kept (orOther (RcK bo n0) n) W W') : Hold wo W' := by
  intro p u hp
  have hlt := World.block_lt_of_cell? wo p hp
  have hc := h p u hp
  obtain ⟨o, ho, hcells⟩ := cells_of_cell hc
  refine hk.cell hc (fun o' ho' => .inl ?_)
  rw [ho] at ho'; cases ho'
  exact ⟨hcells, by omega, .inl (by omega)⟩

set_option maxHeartbeats 1000000 in
theorem records1_seq (wo W0 : World) (v : Value) (bs : List UInt8) (hbs : Bs wo v bs) (hlen : bs.length ≤ 1000000) (hH : Hold wo W0) (hT : TabW T wo) (B bo n0 : Nat) (hB : Boxed W0 B 23 v) (hBo : B ≠ bo) (h1 : wo.heap.size ≤ bo) (h2 : wo.heap.size ≤ n0) :
    Seq Tryz.prog 102 #[.pointer (some ⟨B, 0, none⟩)]
      (fun (x : Nat × Ent) av _ => av = #[.int .i64 x.1, .agg #[.int .i64 x.2.t, .int .i64 x.2.k, .int .i64 x.2.v]] ∧ x.1 ≤ bs.length) (RcK bo n0) (fun _ _ => False) (recsP T (bs.drop 6) 6) W0 := by
  intro l J Jx hJ hJx hY h0
  obtain ⟨A, c, rfl, hb1, hb2⟩ := SlR.open_ hbs
  refine (callsIn_wd (ro := none) (n := 9)).1 ?_
  refine callsIn_of_wp Tryz.func102 rfl trivial ?_ rfl
  simp only [Tryz.ntmps102, List.size_toArray, List.length_cons, List.length_nil, Nat.reduceAdd, Nat.reduceSub, Array.replicate_succ, Array.replicate_zero, List.push_toArray, List.append_toArray, List.nil_append, List.cons_append]
  have Hes := Lib.hid hbs
  have HTT := Lib.hid hT
  clear hbs hT
  obtain ⟨all, hall⟩ : ∃ all, recsP T (bs.drop 6) 6 = all := ⟨_, rfl⟩
  rw [hall] at hY ⊢
  have HA := Lib.hid hall
  clear hall
  gi_wp2
  gi_loopw [3] (fun j W => ∃ (k : Nat) (pre : List (Nat × Ent)), j = .int .i64 k ∧ k ≤ bs.length + 15 ∧ Hid (all = pre ++ recsP T (bs.drop k) k) ∧ Hid (J pre W) ∧ Hold wo W ∧ Boxed W B 23 (.slice A bs.length c) ∧ W0.heap.size ≤ W.heap.size) (fun j _ => bs.length + 30 - (intOf j).toNat)
  case atStart => exact ⟨6, [], rfl, by omega, HA.out.symm, h0, hH, hB, Nat.le_refl _⟩
  case round =>
    obtain ⟨k, pre, rfl, hkl, HP, HJ, HH, bB, hsz⟩ := hrel
    have c1 := bB.cell
    by_cases hlt : k + 15 ≤ bs.length
    · obtain ⟨_, b, off, rfl, hc⟩ := Bs.at_ Hes.out (by omega)
      have hpart := bytes_part Hes.out k 15 hlt
      obtain ⟨p, hp⟩ : ∃ p, (bs.drop k).take 15 = p := ⟨_, rfl⟩
      have hpl : p.length = 15 := by rw [← hp, List.length_take, List.length_drop]; omega
      rw [hp] at hpart
      have hnot : ¬ (bs.drop k).length < 15 := by rw [List.length_drop]; omega
      have hdd : (bs.drop k).drop 15 = bs.drop (k + 15) := by rw [List.drop_drop]
      have hBp : Bs wr (.slice (some ⟨b, off + k, none⟩) 15 (c - k)) p := SlR.keep (SlR.capd hpart (by rw [hpl]; omega) (by omega)) HH
      have hTr : TabW T wr := HTT.out.hold HH
      have key := Take1_any (T := T) _ p wr hBp hpl hTr
      have hPP := HP.out
      cases ht : take1S T p with
      | none =>
        rw [ht] at key
        rw [recsP_none hnot (by rw [hp]; exact ht), List.append_nil] at hPP
        subst hPP
        have Key := Lib.hid key
        have hkc : (k : Int) + 15 ≤ (c : Int) := by omega
        clear key ht hBp hpart hp hc hdd hnot hY
        gi_wp2
        refine ⟨trivial, ?_⟩
        refine (callsIn_wd.2 Key.out).mono ?_
        rintro e w1 ⟨rfl, hE1⟩
        have hJ1 := Lib.hid (hJ _ wr (w1.alloc (.cells #[.int .i64 0, .int .i64 0, .int .i64 0] 41)) HJ.out ((Moves.refl.below hE1 (Nat.le_refl _)).alloc _))
        clear hE1
        gi_wp2
        refine ⟨fun f h => (by cases h), ?_⟩
        gi_wp2
        refine bodyPost_ret (results_none rfl _ _ _) rfl ?_
        exact ⟨⟨_, rfl⟩, .inl hJ1.out⟩
      | some x =>
        rw [ht] at key
        rw [recsP_some hnot (by rw [hp]; exact ht), hdd] at hPP
        have Key := Lib.hid key
        have HPP := Lib.hid hPP
        have hkc : (k : Int) + 15 ≤ (c : Int) := by omega
        have Hno := Lib.hid hY
        clear key ht hBp hpart hp hc hdd hnot hY hPP
        gi_wp2
        refine ⟨trivial, ?_⟩
        refine (callsIn_wd.2 Key.out).mono ?_
        rintro e w1 ⟨rfl, hE1⟩
        have hb3 := Blk.new w1 41 #[.int .i64 x.t, .int .i64 x.k, .int .i64 x.v]
        have hX1 : Ext wr (w1.alloc (.cells #[.int .i64 x.t, .int .i64 x.k, .int .i64 x.v] 41)) := Ext.alloc hE1 _
        have hJ1 := hJ pre wr (w1.alloc (.cells #[.int .i64 x.t, .int .i64 x.k, .int .i64 x.v] 41)) HJ.out ((Moves.refl.below hE1 (Nat.le_refl _)).alloc _)
        have hsz1 : W0.heap.size ≤ (w1.alloc (.cells #[.int .i64 x.t, .int .i64 x.k, .int .i64 x.v] 41)).heap.size := Nat.le_trans hsz hX1.size
        have hB1 : Boxed (w1.alloc (.cells #[.int .i64 x.t, .int .i64 x.k, .int .i64 x.v] 41)) B 23 (.slice (some ⟨b, off, none⟩) bs.length c) := bB.kept (row := none) (Ext.grown hX1 none) (by simp)
        have hH1 : Hold wo (w1.alloc (.cells #[.int .i64 x.t, .int .i64 x.k, .int .i64 x.v] 41)) := fun q u hq => Ext.cell hX1 (HH q u hq)
        have hy := Hno.out pre (k + 15, x) _ HPP.out _ #[.int .i64 ((k + 15 : Nat) : Int), .agg #[.int .i64 x.t, .int .i64 x.k, .int .i64 x.v]] hJ1 hsz1 ⟨rfl, by show k + 15 ≤ bs.length; omega⟩
        have Hy := Lib.hid hy
        have HH1 := Lib.hid hH1
        obtain ⟨g0, g1, g2, f0, f1, f2⟩ := blk3 hb3
        clear hy hJ1 hE1 hH1 c1 hX1 hb3
        have c1 := hB1.cell
        gi_wp2
        refine uponIn_yield Hy.out ?_
        rintro e W' ⟨hk', ⟨rfl, hj⟩ | ⟨rfl, hj⟩⟩
        · refine ⟨true, rfl, ?_⟩
          have d1 : Boxed W' B 23 (.slice (some ⟨b, off, none⟩) bs.length c) := hk'.boxed hB1 (.inl ⟨rfl, hBo, .inr (by intro h; cases h)⟩)
          have e1 := d1.cell
          have hs' : W0.heap.size ≤ W'.heap.size := Nat.le_trans hsz1 hk'.size
          have HH2 := Lib.hid (Hold.keptR HH1.out h1 h2 hk')
          have HJ3 := Lib.hid hj
          have hsp : all = (pre ++ [(k + 15, x)]) ++ recsP T (bs.drop (k + 15)) (k + 15) := by rw [List.append_assoc]; exact HPP.out
          have Hsp := Lib.hid hsp
          clear hj hk' c1 g0 g1 g2 f0 f1 f2 hsp Hy
          gi_wp2
          exact ⟨⟨k + 15, pre ++ [(k + 15, x)], by go_num, by omega, Hsp.out, HJ3.out, HH2.out, d1, hs'⟩, by simp [intOf]; omega⟩
        · refine ⟨false, rfl, ?_⟩
          have HJ3 := Lib.hid hj
          clear hj hk' c1 g0 g1 g2 f0 f1 f2
          gi_wp2
          refine bodyPost_ret (results_none rfl _ _ _) rfl ?_
          refine ⟨⟨_, rfl⟩, .inr ⟨pre ++ [(k + 15, x)], ?_, HJ3.out⟩⟩
          exact ⟨recsP T (bs.drop (k + 15)) (k + 15), by rw [List.append_assoc]; exact HPP.out.symm⟩
    · have hnil : recsP T (bs.drop k) k = [] := recsP_short (by rw [List.length_drop]; omega)
      have hPP := HP.out
      rw [hnil, List.append_nil] at hPP
      subst hPP
      have hki : ¬ ((k : Int) + 15 ≤ (bs.length : Int)) := by omega
      clear hnil HP hY
      gi_wp2
      refine bodyPost_end (results_none rfl _ _ _) rfl ?_
      exact ⟨⟨_, rfl⟩, .inl HJ.out⟩
end Go.Proofs.YtfjcnpigpkcfgaaGreat
