/- Merged: One2 One3 CutP ChunkB One4 -/
import Derived.Test.YtmecffckghkahaaGreatDoorShadowSays12
set_option linter.all false
set_option maxHeartbeats 8000000
namespace Go.Proofs.YtmecffckghkahaaGreatDoor
open Go.RowKit Go.Mv
set_option maxRecDepth 100000
variable {T : Tab}
def crcTakeS (T : Tab) (b : List UInt8) : Option (List UInt8) := if fourU (nextN T 0 (b.take (b.length - 4))) = b.drop (b.length - 4) then some (b.take (b.length - 4)) else none
theorem crcTake_any (v : Value) (bs : List UInt8) (w : World) (h : Bs w v bs) (hl : 5 ≤ bs.length) (hl2 : bs.length ≤ 100000) (hT : TabW T w) : Calls Tryz.prog 205 #[v] w fun e w' =>
  (match crcTakeS T bs with
  | some p => ∃ A c, e = .returned (.tuple #[.slice A p.length c, .bool true]) ∧ OwnB w' w.heap.size (.slice A p.length c) p
  | none => e = .returned (.tuple #[.slice none 0 0, .bool false])) ∧ Ext w w' := by
 obtain ⟨A, c, rfl, h1, h2⟩ := SlR.open_ h
 obtain ⟨_, b, off, rfl, hc⟩ := Bs.at_ h (by omega)
 obtain ⟨n, hn⟩ : ∃ n, bs.length - 4 = n := ⟨_, rfl⟩
 have hbn : bs.length = n + 4 := by omega
 have hBp := Bs.take h n (by omega)
 have hBf := Bs.cut h n (by omega) rfl
 rw [show bs.length - n = 4 from by omega] at hBf
 have hn1 : 1 ≤ n := by omega
 have hn2 : n ≤ 100000 := by omega
 have hpl : (bs.take n).length = n := by rw [List.length_take]; omega
 have hfl : (bs.drop n).length = 4 := by rw [List.length_drop]; omega
 unfold crcTakeS
 rw [hn]
 obtain ⟨p, hp⟩ : ∃ p, bs.take n = p := ⟨_, rfl⟩
 obtain ⟨g, hg⟩ : ∃ g, bs.drop n = g := ⟨_, rfl⟩
 rw [hp] at hBp hpl ⊢
 rw [hg] at hBf hfl ⊢
 have hsl := nextN_lt (T := T) 0 p (by decide)
 obtain ⟨sm, hsm⟩ : ∃ sm, nextN T 0 p = sm := ⟨_, rfl⟩
 rw [hsm] at hsl ⊢
 have HT := Lib.hid hT
 have HBp := Lib.hid hBp
 have HBf := Lib.hid hBf
 have Hsm := Lib.hid hsm
 obtain ⟨f0, f1, f2, f3, hf⟩ : ∃ f0 f1 f2 f3 : UInt8, fourU sm = [f0, f1, f2, f3] := ⟨_, _, _, _, rfl⟩
 have Hf := Lib.hid hf
 rw [hf]
 have Hpl := Lib.hid hpl
 have Hfl := Lib.hid hfl
 rw [hbn] at h1 ⊢
 clear hc h hBp hBf hp hg hsm hT hn hl hl2 hfl hbn hf
 subst hpl
 have hnc : (p.length : Int) ≤ (c : Int) := by omega
 have hcne : ¬ (c = p.length) := by omega
 have hpp : (p.length : Int) ≤ (p.length : Int) + 4 := by omega
 have hX : Ext w (w.alloc (.cells #[.slice (some ⟨b, off, none⟩) p.length c] 43)) := Ext.alloc (Ext.refl _) _
 by_cases heq : [f0, f1, f2, f3] = g
 all_goals
  have Heq := Lib.hid heq
 ·rw [if_pos heq]
  clear heq
  go_enter Tryz.func205, Tryz.ntmps205
  go_wp2_with fail
  refine (crcSum_any (T := T) w.heap.size _ c p _ (Boxed.new w _ _).cell (HBp.out.ext hX) (by omega) (HT.out.ext hX)).mono ?_
  rw [Hsm.out]
  rintro e w1 ⟨rfl, hE1⟩
  have X1 := Ext.trans hX hE1
  go_wp2_with fail
  refine (crcFour_any sm hsl _).mono ?_
  rw [Hf.out]
  rintro e w2 ⟨rfl, hE2⟩
  simp only [List.map_cons, List.map_nil, bv]
  have X2 := Ext.trans X1 hE2
  have hb3 : Blk (w2.alloc (.cells #[.int .u8 (f0.toNat : Int), .int .u8 (f1.toNat : Int), .int .u8 (f2.toNat : Int), .int .u8 (f3.toNat : Int)] 111)) w2.heap.size 111 ([f0, f1, f2, f3].map bv).toArray := Blk.new w2 _ _
  have X3 : Ext w (w2.alloc (.cells #[.int .u8 (f0.toNat : Int), .int .u8 (f1.toNat : Int), .int .u8 (f2.toNat : Int), .int .u8 (f3.toNat : Int)] 111)) := Ext.alloc X2 _
  have h4 : Bs (w2.alloc (.cells #[.int .u8 (f0.toNat : Int), .int .u8 (f1.toNat : Int), .int .u8 (f2.toNat : Int), .int .u8 (f3.toNat : Int)] 111)) (.slice (some ⟨w2.heap.size, 0, none⟩) 4 4) [f0, f1, f2, f3] := blk_slice hb3 rfl (by simp [maxLen])
  go_wp2_with fail
  refine wp_region_held_drew (S := fun _ => True) (by kernel_rfl) trivial (fun hHeld => ?_)
  refine tkL 0 rfl ?_
  try simp only [Act.put, sA, sZ, sS]
  refine tkL 1 rfl ?_
  try simp only [Act.put, sA, sZ, sS]
  refine tkL 2 rfl ?_
  try simp only [Act.put, sA, sZ, sS]
  refine tkL 3 rfl ?_
  try simp only [Act.put, sA, sZ, sS]
  refine AllReadyH.one (i := 4) rfl (by kernel_rfl) (by rfl) (fun K hK => ?_)
  go_simp
  have hEq := bytesEqual_any _ _ _ _ _ (h4.ext (Ext.drew (Ext.refl _))) (HBf.out.ext (Ext.drew X3))
  refine hEq.mono ?_
  rw [decide_eq_true Heq.out]
  rintro e w4 ⟨rfl, rfl⟩
  try (go_wp2_with fail)
  refine hK.out _ _ trivial (fun hHeld => ?_)
  clear hK K
  try simp only [Act.put, sA, sZ, sS]
  refine tkL 5 rfl ?_
  try simp only [Act.put, sA, sZ, sS]
  refine wpAnyH_done (by kernel_rfl) ?_ _
  go_wp2_with fail
  refine (bclone_any _ p _ (HBp.out.ext (Ext.drew X3)) (by omega) (by omega)).mono ?_
  rintro e w5 ⟨A5, c5, rfl, ho5, hE5⟩
  go_wp2_with fail
  go_ret2
  exact ⟨⟨A5, c5, rfl, own_base ho5 (Ext.drew X3).size⟩, Ext.trans (Ext.drew X3) hE5⟩
 ·rw [if_neg heq]
  clear heq
  go_enter Tryz.func205, Tryz.ntmps205
  go_wp2_with fail
  refine (crcSum_any (T := T) w.heap.size _ c p _ (Boxed.new w _ _).cell (HBp.out.ext hX) (by omega) (HT.out.ext hX)).mono ?_
  rw [Hsm.out]
  rintro e w1 ⟨rfl, hE1⟩
  have X1 := Ext.trans hX hE1
  go_wp2_with fail
  refine (crcFour_any sm hsl _).mono ?_
  rw [Hf.out]
  rintro e w2 ⟨rfl, hE2⟩
  simp only [List.map_cons, List.map_nil, bv]
  have X2 := Ext.trans X1 hE2
  have hb3 : Blk (w2.alloc (.cells #[.int .u8 (f0.toNat : Int), .int .u8 (f1.toNat : Int), .int .u8 (f2.toNat : Int), .int .u8 (f3.toNat : Int)] 111)) w2.heap.size 111 ([f0, f1, f2, f3].map bv).toArray := Blk.new w2 _ _
  have X3 : Ext w (w2.alloc (.cells #[.int .u8 (f0.toNat : Int), .int .u8 (f1.toNat : Int), .int .u8 (f2.toNat : Int), .int .u8 (f3.toNat : Int)] 111)) := Ext.alloc X2 _
  have h4 : Bs (w2.alloc (.cells #[.int .u8 (f0.toNat : Int), .int .u8 (f1.toNat : Int), .int .u8 (f2.toNat : Int), .int .u8 (f3.toNat : Int)] 111)) (.slice (some ⟨w2.heap.size, 0, none⟩) 4 4) [f0, f1, f2, f3] := blk_slice hb3 rfl (by simp [maxLen])
  go_wp2_with fail
  refine wp_region_held_drew (S := fun _ => True) (by kernel_rfl) trivial (fun hHeld => ?_)
  refine tkL 0 rfl ?_
  try simp only [Act.put, sA, sZ, sS]
  refine tkL 1 rfl ?_
  try simp only [Act.put, sA, sZ, sS]
  refine tkL 2 rfl ?_
  try simp only [Act.put, sA, sZ, sS]
  refine tkL 3 rfl ?_
  try simp only [Act.put, sA, sZ, sS]
  refine AllReadyH.one (i := 4) rfl (by kernel_rfl) (by rfl) (fun K hK => ?_)
  go_simp
  have hEq := bytesEqual_any _ _ _ _ _ (h4.ext (Ext.drew (Ext.refl _))) (HBf.out.ext (Ext.drew X3))
  refine hEq.mono ?_
  rw [decide_eq_false Heq.out]
  rintro e w4 ⟨rfl, rfl⟩
  try (go_wp2_with fail)
  refine hK.out _ _ trivial (fun hHeld => ?_)
  clear hK K
  try simp only [Act.put, sA, sZ, sS]
  refine tkL 5 rfl ?_
  try simp only [Act.put, sA, sZ, sS]
  refine wpAnyH_done (by kernel_rfl) ?_ _
  go_wp2_with fail
  go_ret2
  exact ⟨rfl, Ext.drew X3⟩
def take1S (T : Tab) (b : List UInt8) : Option Ent :=
 match crcTakeS T b with
 | none => none
 | some p =>
  if (takeLongS p).1 = 0 then
   (if (takeLongS ((takeLongS p).2.2.drop 1)).1 = 0 then
     (if okB (takeLongS p).2.1 (((takeLongS p).2.2.getD 0 0).toNat : Int) (takeLongS ((takeLongS p).2.2.drop 1)).2.1 = true then some ⟨(takeLongS p).2.1, (((takeLongS p).2.2.getD 0 0).toNat : Int), (takeLongS ((takeLongS p).2.2.drop 1)).2.1⟩ else none)
   else none)
  else none
def Take1P (w : World) (r : Option Ent) (e : Ending) (w' : World) : Prop := (match r with
 | some x => e = .returned (.tuple #[.agg #[.int .i64 x.t, .int .i64 x.k, .int .i64 x.v], .bool true])
 | none => e = .returned (.tuple #[.agg #[.int .i64 0, .int .i64 0, .int .i64 0], .bool false])) ∧ Ext w w'
theorem crcTakeS_len {b p : List UInt8} (h : crcTakeS T b = some p) : p.length = b.length - 4 := by
 unfold crcTakeS at h
 split at h
 ·cases h; rw [List.length_take]; omega
 ·cases h
open Go.RowKit Go.Mv Go.Shelf
attribute [local go_sem] Oper.semAt_some
set_option maxRecDepth 100000
variable {T : Tab}
theorem entU : Tryz.prog.underlying 100 = some (.struct (Tryz.prog.fieldsOf 100)) := by kernel_rfl
theorem take1_res (tmps : Array Value) (W : World) (b : Nat) (cs : Array Value) (u : Value) (h2 : tmps.getD 2 undef = .pointer (some ⟨b, 0, none⟩)) (h3 : tmps.getD 3 undef = u) (hb : Blk W b 100 cs) (hs : cs.size = 3) : (results Tryz.f203 tmps).run Tryz.prog W = .ok (.tuple #[.agg cs, u]) W := by
 have hl := hb.load (P := Tryz.prog) entU rfl (by rw [hs]; kernel_rfl)
 have h2' : tmps[2]?.getD undef = .pointer (some ⟨b, 0, none⟩) := by simpa using h2
 have h3' : tmps[3]?.getD undef = u := by simpa using h3
 simp [results, Tryz.results203, h2', h3', asAddr, hl]
theorem takeLong_rest {p : List UInt8} (h : (takeLongS p).1 = 0) : (takeLongS p).2.2 = p.drop 5 := by
 unfold takeLongS at h ⊢
 split at h
 ·cases h
 ·rename_i h5
  rw [if_neg h5]
  split at h
  ·rename_i hb; rw [if_pos hb]
  ·cases h
theorem takeLong_lt {p : List UInt8} : (takeLongS p).2.1 ≤ 1073741824 := by
 unfold takeLongS
 split
 ·exact Nat.zero_le _
 ·split
  ·assumption
  ·exact Nat.zero_le _
def TkJ (w : World) (r : Option Ent) (a : Act) (W : World) : Prop :=
 a.defers = [] ∧ a.tmps.size = 46 ∧ a.tmps.getD 2 undef = .pointer (some ⟨w.heap.size, 0, none⟩) ∧ (∃ x y z, Blk W w.heap.size 100 #[x, y, z]) ∧ Ext w W ∧ Hid (r = none)
theorem Take1_any (v : Value) (bs : List UInt8) (w : World) (hB : Bs w v bs) (hl : bs.length = 15) (hT : TabW T w) : Calls Tryz.prog 203 #[v] w (Take1P w (take1S T bs)) := by
 obtain ⟨A, c, rfl, h1, h2⟩ := SlR.open_ hB
 have hb0 := Blk.new w 100 #[.int .i64 0, .int .i64 0, .int .i64 0]
 have hX : Ext w (w.alloc (.cells #[.int .i64 0, .int .i64 0, .int .i64 0] 100)) := Ext.alloc (Ext.refl _) _
 have hct := crcTake_any (T := T) _ bs _ (hB.ext hX) (by omega) (by omega) (hT.ext hX)
 have hlen : ∀ p, crcTakeS T bs = some p → p.length = 11 := fun p h => by rw [crcTakeS_len h, hl]
 have hr0 : take1S T bs = take1S T bs := rfl
 obtain ⟨R, hR⟩ : ∃ R, take1S T bs = R := ⟨_, rfl⟩
 have hR' := hR
 unfold take1S at hR'
 rw [hR]
 refine (callsIn_wd (ro := none) (n := 9)).1 ?_
 refine callsIn_of_wp_marks Tryz.func203 rfl trivial ?_ rfl
 simp only [Tryz.ntmps203, List.size_toArray, List.length_cons, List.length_nil, Nat.reduceAdd, Nat.reduceSub, Array.replicate_succ, Array.replicate_zero, List.push_toArray, List.append_toArray, List.nil_append, List.cons_append]
 have Hct := Lib.hid hct
 have Hlen := Lib.hid hlen
 have HR := Lib.hid hR'
 have hw0 : w.heap.size < (w.alloc (.cells #[.int .i64 0, .int .i64 0, .int .i64 0] 100)).heap.size := by simp
 clear hct hlen hr0 hR hR' hB hT hl
 gi_wp2
 refine wpIn_scope_lab 0 (TkJ w R) (fun a _ => 0) rfl (fun l' h => by cases l' <;> first | exact absurd rfl h | rfl) ?_ ?_
 ·intro hrest
  clear hrest
  cases hcr : crcTakeS T bs with
  | none =>
   rw [hcr] at Hct HR
   have HN : Hid (R = none) := HR.out.symm
   clear HR Hlen hcr
   gi_wp2_with (refine ⟨trivial, ?_⟩; gi_at_call 205; refine (callsIn_wd.2 Hct.out).mono ?_; rintro e w1 ⟨rfl, hE1⟩)
   refine wpIn_goto ?_
   simp only [Exit.then]
   refine jumps_goto (by simp) ?_
   exact ⟨rfl, rfl, rfl, ⟨_, _, _, hb0.ext hE1⟩, Ext.trans hX hE1, HN.out⟩
  | some p =>
   have hp := Hlen.out p hcr
   rw [hcr] at Hct HR
   clear Hlen hcr
   have key1 := fun (w' : World) (vv : Value) (h : Bs w' vv p) => TakeLong_any vv p w' h (by omega)
   have hrest := @takeLong_rest p
   rcases htl : takeLongS p with ⟨e1, t, rest⟩
   rw [htl] at key1 hrest
   have HR2 := HR.out
   simp only [htl] at HR2
   have Key1 := Lib.hid key1
   clear HR key1 htl
   by_cases he1 : e1 = 0
   ·subst he1
    have hr6 : rest.length = 6 := by
     have h := hrest rfl
     dsimp only at h
     rw [h, List.length_drop, hp]
    simp only [if_true] at HR2
    obtain ⟨kb, hkb⟩ : ∃ kb, rest.getD 0 0 = kb := ⟨_, rfl⟩
    rw [hkb] at HR2
    have hk0 : rest[0]? = some kb := by
     rw [List.getElem?_eq_getElem (by omega), ← hkb]
     simp [List.getD_eq_getElem?_getD, List.getElem?_eq_getElem (show 0 < rest.length by omega)]
    obtain ⟨hk0l, hk0e⟩ := List.getElem?_eq_some_iff.1 hk0
    have key2 := fun (w' : World) (vv : Value) (h : Bs w' vv (rest.drop 1)) => TakeLong_any vv (rest.drop 1) w' h (by rw [List.length_drop]; omega)
    rcases htl2 : takeLongS (rest.drop 1) with ⟨e2, vn, rest2⟩
    rw [htl2] at key2
    simp only [htl2] at HR2
    have Key2 := Lib.hid key2
    have Hk0 := Lib.hid hk0e
    have Hr6 := Lib.hid hr6
    clear key2 htl2 hkb hk0 hrest hk0e hr6
    have hkw : IntKind.i64.wrap (kb.toNat : Int) = (kb.toNat : Int) := by
     have := kb.toNat_lt
     rw [IntKind.wrap_i64]; omega
    have HR3 := Lib.hid HR2
    have Hp := Lib.hid hp
    clear HR2 hp
    gi_wp2_with (refine ⟨trivial, ?_⟩; gi_at_call 205; refine (callsIn_wd.2 Hct.out).mono ?_; rintro e w1 ⟨⟨A1, c1, rfl, ho1⟩, hE1⟩; have hBp : Bs w1 (.slice A1 p.length c1) p := SlR.of_own ho1; have HBp := Lib.hid hBp; have HE1 := Lib.hid hE1; have hb1 := hb0.ext hE1; have hw1 : w.heap.size < w1.heap.size := hb1.lt; clear hBp ho1 hE1; obtain ⟨g0, g1, g2, f0, f1, f2⟩ := blk3 hb1)
    refine ⟨trivial, ?_⟩
    refine (callsIn_wd.2 (Key1.out w1 _ HBp.out)).mono ?_
    rintro e w2 ⟨vr, rfl, hvr, hE2⟩
    have hvr' : OwnB w2 w1.heap.size vr rest := hvr
    obtain ⟨q2, c2, hv2, hq2, hc21, hc22⟩ := ownsRow_pos hvr' (by rw [Hr6.out]; omega)
    rw [Hr6.out] at hv2 hc21
    subst hv2
    have hb2 := hb1.ext hE2
    have HE2 := Lib.hid hE2
    have Hvr := Lib.hid hvr'
    clear g0 g1 g2 f0 f1 f2 hvr hvr' hE2 hb1
    obtain ⟨g0, g1, g2, f0, f1, f2⟩ := blk3 hb2
    have hne : some q2 ≠ some w.heap.size := fun h => by cases h; omega
    have o1 : OwnB (w2.setCell ⟨w.heap.size, 0, none⟩ (.int .i64 t)) w1.heap.size (.slice (some ⟨q2, 0, none⟩) 6 c2) rest := World.ownsRow.kept Hvr.out (grownBy_set _ _ 0 _) (.inr hne)
    have o2 : OwnB ((w2.setCell ⟨w.heap.size, 0, none⟩ (.int .i64 t)).setCell ⟨w.heap.size, 1, none⟩ (.int .i64 kb.toNat)) w1.heap.size (.slice (some ⟨q2, 0, none⟩) 6 c2) rest := World.ownsRow.kept o1 (grownBy_set _ _ 1 _) (.inr hne)
    have hrc : (w2.setCell ⟨w.heap.size, 0, none⟩ (.int .i64 t)).cell? ⟨q2, 0, none⟩ = some (.int .u8 (kb.toNat : Int)) := by
     obtain ⟨_, b', off', e', hc⟩ := Bs.at_ (SlR.of_own o1) (by rw [Hr6.out]; omega)
     cases e'
     have := hc 0 hk0l
     rw [Hk0.out] at this
     exact this
    have hb3 := (hb2.set 0 (.int .i64 t)).set 1 (.int .i64 kb.toNat)
    have hE3 : Ext w ((w2.setCell ⟨w.heap.size, 0, none⟩ (.int .i64 t)).setCell ⟨w.heap.size, 1, none⟩ (.int .i64 kb.toNat)) := Below.setCell (p := ⟨w.heap.size, 1, none⟩) (Below.setCell (p := ⟨w.heap.size, 0, none⟩) (Ext.trans hX (Ext.trans HE1.out HE2.out)) (Nat.le_refl _) _) (Nat.le_refl _) _
    have hB5 : Bs ((w2.setCell ⟨w.heap.size, 0, none⟩ (.int .i64 t)).setCell ⟨w.heap.size, 1, none⟩ (.int .i64 kb.toNat)) (.slice (some ⟨q2, 0 + 1, none⟩) (6 - 1) (c2 - 1)) (rest.drop 1) := Bs.cut (SlR.of_own o2) 1 (by rw [Hr6.out]; omega) Hr6.out.symm
    have HB5 := Lib.hid hB5
    have Hb3 := Lib.hid hb3
    have HE3 := Lib.hid hE3
    clear hB5 hb3 hE3 o1 o2
    have hc20 : ¬ (c2 = 1) := by omega
    gi_wp2
    have hB5' : Bs ((w2.setCell ⟨w.heap.size, 0, none⟩ (.int .i64 t)).setCell ⟨w.heap.size, 1, none⟩ (.int .i64 kb.toNat)) (.slice (some ⟨q2, 1, none⟩) 5 (c2 - 1)) (rest.drop 1) := HB5.out
    have hb3' : Blk ((w2.setCell ⟨w.heap.size, 0, none⟩ (.int .i64 t)).setCell ⟨w.heap.size, 1, none⟩ (.int .i64 kb.toNat)) w.heap.size 100 #[.int .i64 t, .int .i64 kb.toNat, .int .i64 0] := Hb3.out
    have hE3' := HE3.out
    clear HB5 Hb3 HE3 g0 g1 g2 f0 f1 f2 hb2 HE2 hrc Hvr
    generalize (w2.setCell ⟨w.heap.size, 0, none⟩ (.int .i64 t)).setCell ⟨w.heap.size, 1, none⟩ (.int .i64 kb.toNat) = w3 at *
    have HE3 := Lib.hid hE3'
    have key := Key2.out w3 _ hB5'
    clear hE3' hB5'
    refine ⟨trivial, ?_⟩
    refine (callsIn_wd.2 key).mono ?_
    rintro e w4 ⟨vr2, rfl, -, hE4⟩
    have hb4 := hb3'.ext hE4
    have HE4 := Lib.hid (Ext.trans HE3.out hE4)
    clear key hE4 hb3'
    obtain ⟨g0, g1, g2, f0, f1, f2⟩ := blk3 hb4
    have hR := HR3.out
    clear HR3
    by_cases he2 : e2 = 0
    ·subst he2
     simp only [if_true] at hR
     have hb5 := hb4.set 2 (.int .i64 vn)
     have hb5' : Blk (w4.setCell ⟨w.heap.size, 2, none⟩ (.int .i64 vn)) w.heap.size 100 #[.int .i64 t, .int .i64 kb.toNat, .int .i64 vn] := hb5
     have HE5 : Hid (Ext w (w4.setCell ⟨w.heap.size, 2, none⟩ (.int .i64 vn))) := Below.setCell (p := ⟨w.heap.size, 2, none⟩) HE4.out (Nat.le_refl _) _
     have hRt := Right_any t kb.toNat vn (w4.setCell ⟨w.heap.size, 2, none⟩ (.int .i64 vn))
     have Hb5 := Lib.hid hb5'
     clear hb5 hb5'
     cases hok : okB t kb.toNat vn with
     | true =>
      rw [hok] at hR hRt
      have HRt := Lib.hid hRt
      rw [if_pos rfl] at hR
      have HR4 := Lib.hid hR
      clear hR hRt hok
      gi_wp2
      refine ⟨trivial, ?_⟩
      refine (callsIn_wd.2 HRt.out).mono ?_
      rintro e w5 ⟨rfl, hE5⟩
      have hE5' : Ext (w4.setCell ⟨w.heap.size, 2, none⟩ (.int .i64 vn)) w5 := hE5
      have hb6 := Hb5.out.ext hE5'
      have HE6 := Lib.hid (Ext.trans HE5.out hE5')
      clear g0 g1 g2 f0 f1 f2 hE5 hE5' hb4
      obtain ⟨g0, g1, g2, f0, f1, f2⟩ := blk3 hb6
      gi_wp2
      refine jumps_ret ?_
      refine ret_none (.tuple #[.agg #[.int .i64 t, .int .i64 kb.toNat, .int .i64 vn], .bool true]) (take1_res _ _ _ _ _ rfl rfl (blk_set3 hb6 _ _ _) rfl) ?_
      rw [← HR4.out]
      refine ⟨rfl, ?_⟩
      exact ((Below.setCell HE6.out (p := ⟨w.heap.size, 0, none⟩) (Nat.le_refl _) _).setCell (p := ⟨w.heap.size, 1, none⟩) (Nat.le_refl _) _).setCell (p := ⟨w.heap.size, 2, none⟩) (Nat.le_refl _) _
     | false =>
      rw [hok] at hR hRt
      have HRt := Lib.hid hRt
      rw [if_neg (by decide)] at hR
      have HN : Hid (R = none) := hR.symm
      clear hR hRt hok
      gi_wp2
      refine ⟨trivial, ?_⟩
      refine (callsIn_wd.2 HRt.out).mono ?_
      rintro e w5 ⟨rfl, hE5⟩
      have hE5' : Ext (w4.setCell ⟨w.heap.size, 2, none⟩ (.int .i64 vn)) w5 := hE5
      have hb6 := Hb5.out.ext hE5'
      have HE6 := Lib.hid (Ext.trans HE5.out hE5')
      clear g0 g1 g2 f0 f1 f2 hE5 hE5' hb4
      gi_wp2
      refine wpIn_goto ?_
      simp only [Exit.then]
      refine jumps_goto (by simp) ?_
      exact ⟨rfl, rfl, rfl, ⟨_, _, _, hb6⟩, HE6.out, HN.out⟩
    ·have hne2 : ((e2 : Int) != 0) = true := by simp [he2]
     rw [if_neg he2] at hR
     have HN : Hid (R = none) := hR.symm
     clear hR
     gi_wp2
     refine ⟨trivial, ?_⟩
     gi_wp2
     refine wpIn_goto ?_
     simp only [Exit.then]
     refine jumps_goto (by simp) ?_
     exact ⟨rfl, rfl, rfl, ⟨_, _, _, hb4.set 2 _⟩, Below.setCell (p := ⟨w.heap.size, 2, none⟩) HE4.out (Nat.le_refl _) _, HN.out⟩
   ·have hne : ((e1 : Int) != 0) = true := by simp [he1]
    rw [if_neg he1] at HR2
    have HN : Hid (R = none) := HR2.symm
    have Hp := Lib.hid hp
    clear HR2 hrest hp
    gi_wp2_with (first
     | (refine ⟨trivial, ?_⟩; gi_at_call 205; refine (callsIn_wd.2 Hct.out).mono ?_; rintro e w1 ⟨⟨A1, c1, rfl, ho1⟩, hE1⟩; have hBp : Bs w1 (.slice A1 p.length c1) p := SlR.of_own ho1; have HBp := Lib.hid hBp; have HE1 := Lib.hid hE1; have hb1 := hb0.ext hE1; clear hBp ho1 hE1; obtain ⟨g0, g1, g2, f0, f1, f2⟩ := blk3 hb1)
     | (refine ⟨trivial, ?_⟩; gi_at_call 100; refine (callsIn_wd.2 (Key1.out w1 _ HBp.out)).mono ?_; rintro e w2 ⟨vr, rfl, -, hE2⟩; clear g0 g1 g2 f0 f1 f2; have hb2 := hb1.ext hE2; have HE2 := Lib.hid hE2; clear hE2; obtain ⟨g0, g1, g2, f0, f1, f2⟩ := blk3 hb2))
    refine wpIn_goto ?_
    simp only [Exit.then]
    refine jumps_goto (by simp) ?_
    exact ⟨rfl, rfl, rfl, ⟨_, _, _, hb2.set 0 _⟩, Below.setCell (p := ⟨w.heap.size, 0, none⟩) (Ext.trans hX (Ext.trans HE1.out HE2.out)) (Nat.le_refl _) _, HN.out⟩
 ·rintro ⟨TT, df⟩ W ⟨hd, hsz, h2, ⟨x, y, z, hb⟩, hE, HN⟩
  cases hd
  dsimp only at hsz h2
  have hT := frame_of 46 TT hsz
  generalize hU : (fun i => TT.getD i undef) = U at hT
  have g2 : U 2 = .pointer (some ⟨w.heap.size, 0, none⟩) := by rw [← hU]; exact h2
  have hT2 : TT = #[U 0, U 1, .pointer (some ⟨w.heap.size, 0, none⟩), U 3, U 4, U 5, U 6, U 7, U 8, U 9, U 10, U 11, U 12, U 13, U 14, U 15, U 16, U 17, U 18, U 19, U 20, U 21, U 22, U 23, U 24, U 25, U 26, U 27, U 28, U 29, U 30, U 31, U 32, U 33, U 34, U 35, U 36, U 37, U 38, U 39, U 40, U 41, U 42, U 43, U 44, U 45] := by rw [hT]; show (#[U 0, U 1, U 2, U 3, U 4, U 5, U 6, U 7, U 8, U 9, U 10, U 11, U 12, U 13, U 14, U 15, U 16, U 17, U 18, U 19, U 20, U 21, U 22, U 23, U 24, U 25, U 26, U 27, U 28, U 29, U 30, U 31, U 32, U 33, U 34, U 35, U 36, U 37, U 38, U 39, U 40, U 41, U 42, U 43, U 44, U 45] : Array Value) = _; rw [g2]
  clear hT hU hsz g2 h2
  subst hT2
  obtain ⟨g0, g1, g2, f0, f1, f2⟩ := blk3 hb
  gi_wp2
  refine jumps_ret ?_
  refine ret_none (.tuple #[.agg #[.int .i64 0, .int .i64 0, .int .i64 0], .bool false]) (take1_res _ _ _ _ _ rfl rfl (blk_set3 hb _ _ _) rfl) ?_
  rw [HN.out]
  refine ⟨rfl, ?_⟩
  exact ((Below.setCell hE (p := ⟨w.heap.size, 0, none⟩) (Nat.le_refl _) _).setCell (p := ⟨w.heap.size, 1, none⟩) (Nat.le_refl _) _).setCell (p := ⟨w.heap.size, 2, none⟩) (Nat.le_refl _) _
open Go.RowKit Go.Mv
theorem left_mod (left : Int) (n : Nat) (h0 : 0 < n) (hn : n ≤ 2000000) : ∃ j : Nat, (wrap64 (left.tmod n + n)).tmod n = j ∧ j < n := by
 have h1 := Int.natAbs_tmod left n
 have h2 := Nat.mod_lt left.natAbs (show 0 < (n : Int).natAbs by omega)
 rw [← h1] at h2
 generalize left.tmod n = t at *
 have h3 : wrap64 (t + n) = t + n := by unfold wrap64; omega
 rw [h3]
 have h4 : 0 ≤ t + n := by omega
 obtain ⟨x, hx⟩ : ∃ x : Nat, t + n = x := ⟨_, (Int.toNat_of_nonneg h4).symm⟩
 rw [hx]
 exact ⟨x % n, by rw [Int.tmod_eq_emod_of_nonneg (by omega)]; rfl, Nat.mod_lt _ h0⟩
open Go.RowKit Go.Mv Go.Shelf
attribute [local go_sem] Oper.semAt_some
set_option maxRecDepth 100000
def chunkL (n : Nat) (bs : List UInt8) : List (List UInt8) :=
 if h : bs = [] ∨ n = 0 then [] else bs.take n :: chunkL n (bs.drop n)
termination_by bs.length
decreasing_by
 have : 0 < bs.length := List.length_pos_iff.2 (fun e => h (.inl e))
 have : n ≠ 0 := fun e => h (.inr e)
 simp; omega
theorem chunkL_nil (n : Nat) : chunkL n [] = [] := by rw [chunkL]; simp
theorem chunkL_cons (n : Nat) (bs : List UInt8) (hn : 0 < n) (h : 0 < bs.length) : chunkL n bs = bs.take n :: chunkL n (bs.drop n) := by
 rw [chunkL, dif_neg]
 rintro (e | e)
 ·rw [e] at h; simp at h
 ·omega
theorem chunkL_at (n : Nat) (hn : 0 < n) : ∀ (i : Nat) (bs : List UInt8), (i * n < bs.length → (chunkL n bs)[i]? = some ((bs.drop (i * n)).take n)) ∧ (bs.length ≤ i * n → (chunkL n bs).length ≤ i) := by
 intro i
 induction i with
 | zero =>
  intro bs
  refine ⟨fun h => ?_, fun h => ?_⟩
  ·rw [chunkL_cons n bs hn (by omega), Nat.zero_mul]
   rfl
  ·have : bs = [] := List.eq_nil_of_length_eq_zero (by omega)
   rw [this, chunkL_nil]
   exact Nat.le_refl _
 | succ i ih =>
  intro bs
  have hm : (i + 1) * n = n + i * n := by rw [Nat.add_mul, Nat.one_mul, Nat.add_comm]
  rcases Nat.eq_zero_or_pos bs.length with h0 | h0
  ·have : bs = [] := List.eq_nil_of_length_eq_zero h0
   subst this
   exact ⟨fun h => by simp at h, fun _ => by rw [chunkL_nil]; simp⟩
  ·obtain ⟨h1, h2⟩ := ih (bs.drop n)
   rw [List.length_drop] at h1 h2
   rw [chunkL_cons n bs hn h0, hm]
   refine ⟨fun h => ?_, fun h => ?_⟩
   ·rw [List.getElem?_cons_succ, h1 (by omega), List.drop_drop]
   ·have := h2 (by omega)
    rw [List.length_cons]
    omega
theorem bytes_part {wo : World} {b off m c : Nat} {bs : List UInt8} (h : Bs wo (.slice (some ⟨b, off, none⟩) m c) bs) (k n : Nat) (hk : k + n ≤ bs.length) : Bs wo (.slice (some ⟨b, off + k, none⟩) n n) ((bs.drop k).take n) := by
 obtain ⟨h0, A, c', e, h1, h2, h3⟩ := h
 cases e
 unfold Bs
 have hl : ((bs.drop k).take n).length = n := by rw [List.length_take, List.length_drop]; omega
 rw [hl]
 refine ⟨by rw [List.length_map, hl]; omega, _, n, rfl, Nat.le_refl _, by omega, fun hn => ?_⟩
 obtain ⟨b', off', e', hc⟩ := h3 (by omega)
 cases e'
 refine ⟨b, off + k, rfl, fun j u hu => ?_⟩
 rw [Nat.add_assoc]
 refine hc (k + j) u ?_
 rw [← hu, List.getElem?_map, List.getElem?_map, List.getElem?_take, List.getElem?_drop]
 have hj : j < n := by
  have := (List.getElem?_eq_some_iff.1 hu).1
  rw [List.length_map, hl] at this
  exact this
 rw [if_pos hj]
theorem chunkB_seq (n : Nat) (hn0 : 0 < n) (hn8 : n ≤ 8) (wo W0 : World) (v : Value) (bs : List UInt8) (hbs : Bs wo v bs) (hlen : bs.length ≤ 2000000) (bx bn : Nat) (hB1 : Boxed W0 bx 43 v) (hB2 : Boxed W0 bn 3 (.int .i64 n)) :
  Seq Tryz.prog 124 #[.pointer (some ⟨bx, 0, none⟩), .pointer (some ⟨bn, 0, none⟩)]
   (fun (p : List UInt8) av _ => ∃ b off, av = #[.slice (some ⟨b, off, none⟩) p.length p.length] ∧ Bs wo (.slice (some ⟨b, off, none⟩) p.length p.length) p ∧ 0 < p.length ∧ p.length ≤ n) (fun k o => (k = bx ∧ o.ty = some 43) ∨ (k = bn ∧ o.ty = some 3)) (fun _ _ => False) (chunkL n bs) W0 := by
 intro l J Jx hJ hJx hY h0
 obtain ⟨A, c, rfl, h1, h2⟩ := SlR.open_ hbs
 refine (callsIn_wd (ro := none) (n := 9)).1 ?_
 refine callsIn_of_wp Tryz.func124 rfl trivial ?_ rfl
 simp only [Tryz.ntmps124, List.size_toArray, List.length_cons, List.length_nil, Nat.reduceAdd, Nat.reduceSub, Array.replicate_succ, Array.replicate_zero, List.push_toArray, List.append_toArray, List.nil_append, List.cons_append]
 have Hes := Lib.hid hbs
 clear hbs
 gi_wp2
 gi_loopw [4] (fun j W => ∃ (i k : Nat), j = .int .i64 k ∧ Hid (i * n = k) ∧ k ≤ bs.length + n ∧ Hid (J ((chunkL n bs).take i) W) ∧ Boxed W bx 43 (.slice A bs.length c) ∧ Boxed W bn 3 (.int .i64 n) ∧ W0.heap.size ≤ W.heap.size) (fun j _ => bs.length + 16 - (intOf j).toNat)
 case atStart => exact ⟨0, 0, rfl, by show 0 * n = 0; rw [Nat.zero_mul], by omega, h0, hB1, hB2, Nat.le_refl _⟩
 case round =>
  obtain ⟨i, k, rfl, Hk, hkl, HJ, b1, b2, hsz⟩ := hrel
  have c1 := b1.cell
  have c2 := b2.cell
  obtain ⟨hat, hend⟩ := chunkL_at n hn0 i bs
  rw [Hk.out] at hat hend
  by_cases hlt : k < bs.length
  ·have hes' := Hes.out
   obtain ⟨hx, b, off, rfl, hc⟩ := Bs.at_ hes' (by omega)
   clear hc hx
   obtain ⟨m, hm⟩ : ∃ m, min n (bs.length - k) = m := ⟨_, rfl⟩
   have hmn : m ≤ n := by omega
   have hm0 : 0 < m := by omega
   have hml : k + m ≤ bs.length := by omega
   obtain ⟨p, hp⟩ : ∃ p, (bs.drop k).take n = p := ⟨_, rfl⟩
   have hpl : p.length = m := by rw [← hp, List.length_take, List.length_drop, hm]
   have hpb := bytes_part hes' k m hml
   have hpe : (bs.drop k).take m = p := by
    rw [← hp]
    rcases Nat.le_total n (bs.length - k) with h | h
    ·rw [show m = n from by omega]
    ·rw [List.take_of_length_le (by rw [List.length_drop]; omega), List.take_of_length_le (by rw [List.length_drop]; omega)]
   rw [hpe] at hpb
   have Hp := Lib.hid hpb
   have hgi := hat hlt
   rw [hp] at hgi
   obtain ⟨hil, hge⟩ := List.getElem?_eq_some_iff.1 hgi
   have htk : (chunkL n bs).take (i + 1) = (chunkL n bs).take i ++ [p] := by rw [List.take_succ_eq_append_getElem hil, hge]
   have Htk := Lib.hid htk
   have hsp : chunkL n bs = (chunkL n bs).take i ++ p :: (chunkL n bs).drop (i + 1) := by rw [← hge, ← List.drop_eq_getElem_cons hil, List.take_append_drop]
   have Hsp := Lib.hid hsp
   have hk1 : (i + 1) * n = k + n := by have := Hk.out; rw [Nat.add_mul, Nat.one_mul, this]
   have Hk1 := Lib.hid hk1
   have Hm := Lib.hid hm
   clear htk hsp hes' hat hend hgi hil hge hpe hpb hp hk1 hm
   gi_wp2
   gi_region
   have hif : (if bs.length - k < n then ((bs.length - k : Nat) : Int) else (n : Int)) = (m : Int) := by have := Hm.out; split <;> omega
   rw [hif]
   clear hif
   have hy := hY ((chunkL n bs).take i) p ((chunkL n bs).drop (i + 1)) Hsp.out wr.drew #[.slice (some ⟨b, off + k, none⟩) p.length p.length] (hJ _ _ _ HJ.out (Moves.refl.drew)) hsz ⟨b, off + k, rfl, by rw [hpl]; exact Hp.out, by omega, by omega⟩
   rw [hpl] at hy
   have Hy := Lib.hid hy
   have Hpl := Lib.hid hpl
   have b1' : Boxed wr.drew bx 43 (.slice (some ⟨b, off, none⟩) bs.length c) := b1
   have b2' : Boxed wr.drew bn 3 (.int .i64 n) := b2
   have hkm : (k : Int) + (m : Int) ≤ (bs.length : Int) := by omega
   have hmc : (k : Int) + (m : Int) ≤ (c : Int) := by omega
   clear hy hY hpl c1 c2
   have c1 := b1'.cell
   have c2 := b2'.cell
   gi_wp2
   refine uponIn_yield Hy.out ?_
   rintro e W' ⟨hk', ⟨rfl, hj⟩ | ⟨rfl, hj⟩⟩
   ·refine ⟨true, rfl, ?_⟩
    have d1 : Boxed W' bx 43 (.slice (some ⟨b, off, none⟩) bs.length c) := hk'.boxed b1' (.inl (.inl ⟨rfl, rfl⟩))
    have d2 : Boxed W' bn 3 (.int .i64 n) := hk'.boxed b2' (.inl (.inr ⟨rfl, rfl⟩))
    have e2 := d2.cell
    have hs' : W0.heap.size ≤ W'.heap.size := Nat.le_trans hsz hk'.size
    have HJ3 := Lib.hid hj
    have hkn : (k : Int) + (n : Int) ≤ 4000000 := by omega
    clear hj hk' c1 c2
    gi_wp2
    refine ⟨⟨i + 1, k + n, by go_num, Hk1.out, by omega, ?_, d1, d2, hs'⟩, by simp [intOf]; omega⟩
    show J _ _; rw [Htk.out]; exact HJ3.out
   ·refine ⟨false, rfl, ?_⟩
    have HJ3 := Lib.hid hj
    clear hj hk' c1 c2
    gi_wp2
    refine bodyPost_ret (results_none rfl _ _ _) rfl ?_
    refine ⟨⟨_, rfl⟩, .inr ⟨(chunkL n bs).take (i + 1), ?_, ?_⟩⟩
    ·exact List.take_prefix _ _
    ·rw [Htk.out]; exact HJ3.out
  ·have hC : (chunkL n bs).take i = chunkL n bs := List.take_of_length_le (hend (by omega))
   have HC2 := Lib.hid hC
   have hki : ¬ ((k : Int) < (bs.length : Int)) := by omega
   clear hC hat hend
   gi_wp2
   refine bodyPost_end (results_none rfl _ _ _) rfl ?_
   exact ⟨⟨_, rfl⟩, .inl (by have := HJ.out; rw [HC2.out] at this; exact this)⟩
theorem ChunkB_any (A : Option Addr) (m c n : Nat) (hn : 0 < n) (w : World) : Calls Tryz.prog 101 #[.slice A m c, .int .i64 n] w fun e w' =>
  e = .returned (.func (.func 124) #[] #[.pointer (some ⟨w.heap.size, 0, none⟩), .pointer (some ⟨w.heap.size + 1, 0, none⟩)]) ∧
  (w.alloc (.cells #[.slice A m c] 43)).alloc (.cells #[.int .i64 n] 3) = w' := by
 have hn1 : ¬ ((n : Int) < 1) := by omega
 go_enter Tryz.func101, Tryz.ntmps101
 go_wp2
 go_ret
 exact ⟨rfl, rfl⟩
open Go.RowKit Go.Mv Go.Shelf
attribute [local go_sem] Oper.semAt_some
set_option maxRecDepth 100000
variable {T : Tab}
def recsP (T : Tab) (b : List UInt8) (p : Nat) : List (Nat × Ent) :=
 if h : b.length < 15 then [] else
  match take1S T (b.take 15) with
  | none => []
  | some e => (p + 15, e) :: recsP T (b.drop 15) (p + 15)
termination_by b.length
decreasing_by
 simp; omega
theorem recsP_short {b : List UInt8} {p : Nat} (h : b.length < 15) : recsP T b p = [] := by rw [recsP, dif_pos h]
theorem recsP_none {b : List UInt8} {p : Nat} (h : ¬ b.length < 15) (hn : take1S T (b.take 15) = none) : recsP T b p = [] := by rw [recsP, dif_neg h, hn]
theorem recsP_some {b : List UInt8} {p : Nat} {e : Ent} (h : ¬ b.length < 15) (hn : take1S T (b.take 15) = some e) : recsP T b p = (p + 15, e) :: recsP T (b.drop 15) (p + 15) := by rw [recsP, dif_neg h, hn]
def RcK (bo n0 : Nat) (k : Nat) (o : Obj) : Prop := o.isCells = true ∧ k ≠ bo ∧ (k < n0 ∨ o.ty ≠ some 100)
theorem Hold.keptR {wo W W' : World} {bo n0 n : Nat} (h : Hold wo W) (hbo : wo.heap.size ≤ bo) (hn0 : wo.heap.size ≤ n0) (hk : Kept (orOther (RcK bo n0) n) W W') : Hold wo W' := by
 intro p u hp
 have hlt := World.block_lt_of_cell? wo p hp
 have hc := h p u hp
 obtain ⟨o, ho, hcells⟩ := cells_of_cell hc
 refine hk.cell hc (fun o' ho' => .inl ?_)
 rw [ho] at ho'; cases ho'
 exact ⟨hcells, by omega, .inl (by omega)⟩
theorem records1_seq (wo W0 : World) (v : Value) (bs : List UInt8) (hbs : Bs wo v bs) (hlen : bs.length ≤ 2000000) (hH : Hold wo W0) (hT : TabW T wo) (B bo n0 : Nat) (hB : Boxed W0 B 43 v) (hBo : B ≠ bo) (h1 : wo.heap.size ≤ bo) (h2 : wo.heap.size ≤ n0) :
  Seq Tryz.prog 202 #[.pointer (some ⟨B, 0, none⟩)]
   (fun (x : Nat × Ent) av _ => av = #[.int .i64 x.1, .agg #[.int .i64 x.2.t, .int .i64 x.2.k, .int .i64 x.2.v]] ∧ x.1 ≤ bs.length) (RcK bo n0) (fun _ _ => False) (recsP T (bs.drop 6) 6) W0 := by
 intro l J Jx hJ hJx hY h0
 obtain ⟨A, c, rfl, hb1, hb2⟩ := SlR.open_ hbs
 refine (callsIn_wd (ro := none) (n := 9)).1 ?_
 refine callsIn_of_wp Tryz.func202 rfl trivial ?_ rfl
 simp only [Tryz.ntmps202, List.size_toArray, List.length_cons, List.length_nil, Nat.reduceAdd, Nat.reduceSub, Array.replicate_succ, Array.replicate_zero, List.push_toArray, List.append_toArray, List.nil_append, List.cons_append]
 have Hes := Lib.hid hbs
 have HTT := Lib.hid hT
 clear hbs hT
 obtain ⟨all, hall⟩ : ∃ all, recsP T (bs.drop 6) 6 = all := ⟨_, rfl⟩
 rw [hall] at hY ⊢
 have HA := Lib.hid hall
 clear hall
 gi_wp2
 gi_loopw [3] (fun j W => ∃ (k : Nat) (pre : List (Nat × Ent)), j = .int .i64 k ∧ k ≤ bs.length + 15 ∧ Hid (all = pre ++ recsP T (bs.drop k) k) ∧ Hid (J pre W) ∧ Hold wo W ∧ Boxed W B 43 (.slice A bs.length c) ∧ W0.heap.size ≤ W.heap.size) (fun j _ => bs.length + 30 - (intOf j).toNat)
 case atStart => exact ⟨6, [], rfl, by omega, HA.out.symm, h0, hH, hB, Nat.le_refl _⟩
 case round =>
  obtain ⟨k, pre, rfl, hkl, HP, HJ, HH, bB, hsz⟩ := hrel
  have c1 := bB.cell
  by_cases hlt : k + 15 ≤ bs.length
  ·obtain ⟨_, b, off, rfl, hc⟩ := Bs.at_ Hes.out (by omega)
   have hpart := bytes_part Hes.out k 15 hlt
   obtain ⟨p, hp⟩ : ∃ p, (bs.drop k).take 15 = p := ⟨_, rfl⟩
   have hpl : p.length = 15 := by rw [← hp, List.length_take, List.length_drop]; omega
   rw [hp] at hpart
   have hnot : ¬ (bs.drop k).length < 15 := by rw [List.length_drop]; omega
   have hdd : (bs.drop k).drop 15 = bs.drop (k + 15) := by rw [List.drop_drop]
   have hBp : Bs wr (.slice (some ⟨b, off + k, none⟩) 15 (c - k)) p := SlR.keep (SlR.capd hpart (by rw [hpl]; omega) (by omega)) HH
   have hTr : TabW T wr := HTT.out.hold HH
   have key := Take1_any (T := T) _ p wr hBp hpl hTr
   have hPP := HP.out
   cases ht : take1S T p with
   | none =>
    rw [ht] at key
    rw [recsP_none hnot (by rw [hp]; exact ht), List.append_nil] at hPP
    subst hPP
    have Key := Lib.hid key
    have hkc : (k : Int) + 15 ≤ (c : Int) := by omega
    clear key ht hBp hpart hp hc hdd hnot hY
    gi_wp2
    refine ⟨trivial, ?_⟩
    refine (callsIn_wd.2 Key.out).mono ?_
    rintro e w1 ⟨rfl, hE1⟩
    have hJ1 := Lib.hid (hJ _ wr (w1.alloc (.cells #[.int .i64 0, .int .i64 0, .int .i64 0] 100)) HJ.out ((Moves.refl.below hE1 (Nat.le_refl _)).alloc _))
    clear hE1
    gi_wp2
    refine ⟨fun f h => (by cases h), ?_⟩
    gi_wp2
    refine bodyPost_ret (results_none rfl _ _ _) rfl ?_
    exact ⟨⟨_, rfl⟩, .inl hJ1.out⟩
   | some x =>
    rw [ht] at key
    rw [recsP_some hnot (by rw [hp]; exact ht), hdd] at hPP
    have Key := Lib.hid key
    have HPP := Lib.hid hPP
    have hkc : (k : Int) + 15 ≤ (c : Int) := by omega
    have Hno := Lib.hid hY
    clear key ht hBp hpart hp hc hdd hnot hY hPP
    gi_wp2
    refine ⟨trivial, ?_⟩
    refine (callsIn_wd.2 Key.out).mono ?_
    rintro e w1 ⟨rfl, hE1⟩
    have hb3 := Blk.new w1 100 #[.int .i64 x.t, .int .i64 x.k, .int .i64 x.v]
    have hX1 : Ext wr (w1.alloc (.cells #[.int .i64 x.t, .int .i64 x.k, .int .i64 x.v] 100)) := Ext.alloc hE1 _
    have hJ1 := hJ pre wr (w1.alloc (.cells #[.int .i64 x.t, .int .i64 x.k, .int .i64 x.v] 100)) HJ.out ((Moves.refl.below hE1 (Nat.le_refl _)).alloc _)
    have hsz1 : W0.heap.size ≤ (w1.alloc (.cells #[.int .i64 x.t, .int .i64 x.k, .int .i64 x.v] 100)).heap.size := Nat.le_trans hsz hX1.size
    have hB1 : Boxed (w1.alloc (.cells #[.int .i64 x.t, .int .i64 x.k, .int .i64 x.v] 100)) B 43 (.slice (some ⟨b, off, none⟩) bs.length c) := bB.kept (row := none) (Ext.grown hX1 none) (by simp)
    have hH1 : Hold wo (w1.alloc (.cells #[.int .i64 x.t, .int .i64 x.k, .int .i64 x.v] 100)) := fun q u hq => Ext.cell hX1 (HH q u hq)
    have hy := Hno.out pre (k + 15, x) _ HPP.out _ #[.int .i64 ((k + 15 : Nat) : Int), .agg #[.int .i64 x.t, .int .i64 x.k, .int .i64 x.v]] hJ1 hsz1 ⟨rfl, by show k + 15 ≤ bs.length; omega⟩
    have Hy := Lib.hid hy
    have HH1 := Lib.hid hH1
    obtain ⟨g0, g1, g2, f0, f1, f2⟩ := blk3 hb3
    clear hy hJ1 hE1 hH1 c1 hX1 hb3
    have c1 := hB1.cell
    gi_wp2
    refine uponIn_yield Hy.out ?_
    rintro e W' ⟨hk', ⟨rfl, hj⟩ | ⟨rfl, hj⟩⟩
    ·refine ⟨true, rfl, ?_⟩
     have d1 : Boxed W' B 43 (.slice (some ⟨b, off, none⟩) bs.length c) := hk'.boxed hB1 (.inl ⟨rfl, hBo, .inr (by intro h; cases h)⟩)
     have e1 := d1.cell
     have hs' : W0.heap.size ≤ W'.heap.size := Nat.le_trans hsz1 hk'.size
     have HH2 := Lib.hid (Hold.keptR HH1.out h1 h2 hk')
     have HJ3 := Lib.hid hj
     have hsp : all = (pre ++ [(k + 15, x)]) ++ recsP T (bs.drop (k + 15)) (k + 15) := by rw [List.append_assoc]; exact HPP.out
     have Hsp := Lib.hid hsp
     clear hj hk' c1 g0 g1 g2 f0 f1 f2 hsp Hy
     gi_wp2
     exact ⟨⟨k + 15, pre ++ [(k + 15, x)], by go_num, by omega, Hsp.out, HJ3.out, HH2.out, d1, hs'⟩, by simp [intOf]; omega⟩
    ·refine ⟨false, rfl, ?_⟩
     have HJ3 := Lib.hid hj
     clear hj hk' c1 g0 g1 g2 f0 f1 f2
     gi_wp2
     refine bodyPost_ret (results_none rfl _ _ _) rfl ?_
     refine ⟨⟨_, rfl⟩, .inr ⟨pre ++ [(k + 15, x)], ?_, HJ3.out⟩⟩
     exact ⟨recsP T (bs.drop (k + 15)) (k + 15), by rw [List.append_assoc]; exact HPP.out.symm⟩
  ·have hnil : recsP T (bs.drop k) k = [] := recsP_short (by rw [List.length_drop]; omega)
   have hPP := HP.out
   rw [hnil, List.append_nil] at hPP
   subst hPP
   have hki : ¬ ((k : Int) + 15 ≤ (bs.length : Int)) := by omega
   clear hnil HP hY
   gi_wp2
   refine bodyPost_end (results_none rfl _ _ _) rfl ?_
   exact ⟨⟨_, rfl⟩, .inl HJ.out⟩
end Go.Proofs.YtmecffckghkahaaGreatDoor
