/-
  The walk of moultlaw08.TwoTells.
-/
import Derived.Test.YtibbbdifkopebaaApp
import Derived.Test.YtibbbdifkopebaaRefScan
import Derived.Test.YtibbbdifkopebaaOrder
set_option linter.all false
namespace Go.Proofs.Ytibbbdifkopebaa
open Go.RowKit Go.Mv
set_option maxRecDepth 100000

/-- A block: the error, the point behind, its bytes. -/
def blkR (p : Nat × Nat) (es : List Ent) : Int × (Nat × Nat) × List UInt8 := if blkOk es = true then (0, chainP p (blkBody es), blkS p es) else (2, (0, 0), [])
def BlkP (w : World) (r : Int × (Nat × Nat) × List UInt8) (e : Ending) (w' : World) : Prop :=
  ∃ v vz, e = .returned (.tuple #[v, vz, .int .i64 r.1]) ∧ PtV vz r.2.1 ∧ OwnB w' w.heap.size v r.2.2 ∧ Ext w w'
theorem BlkP.of {w : World} {p : Nat × Nat} {es : List Ent} {C : (Ending → World → Prop) → Prop} (hm : ∀ A B : Ending → World → Prop, C A → (∀ e w', A e w' → B e w') → C B) (h1 : blkOk es = true → C (BlkOkP p es w)) (h2 : blkOk es = false → C (BlkBadP w)) : C (BlkP w (blkR p es)) := by
  unfold blkR
  cases h : blkOk es
  · rw [if_neg (by simp)]
    refine hm _ _ (h2 h) ?_
    rintro e w' ⟨rfl, hE⟩
    exact ⟨_, _, rfl, PtV.zero, World.ownsRow_nil _ _ _ _, hE⟩
  · rw [if_pos rfl]
    refine hm _ _ (h1 h) ?_
    rintro e w' ⟨v, vz, rfl, hp, ho, hE⟩
    exact ⟨v, vz, rfl, hp, ho, hE⟩
theorem Blk_both (za zb : Nat) (v : Value) (es : List Ent) (w : World) (h : Es w v es) : Calls Try.prog 12 #[.complex .f64 za zb, v] w (BlkP w (blkR (ptV (.complex .f64 za zb)) es)) :=
  BlkP.of (C := Calls Try.prog 12 #[.complex .f64 za zb, v] w) (fun _ _ hA hB => hA.mono hB) (fun hb => Block_ok za zb v es w h hb) (fun hb => Block_bad _ v es w h hb)
theorem refBlk_both (za zb : Nat) (v : Value) (es : List Ent) (w : World) (h : Es w v es) : Calls Try.prog 13 #[.complex .f64 za zb, v] w (BlkP w (blkR (ptV (.complex .f64 za zb)) es)) :=
  BlkP.of (C := Calls Try.prog 13 #[.complex .f64 za zb, v] w) (fun _ _ hA hB => hA.mono hB) (fun hb => refBlock_ok za zb v es w h hb) (fun hb => refBlock_bad _ v es w h hb)
theorem blkR_len (p : Nat × Nat) (es : List Ent) : (blkR p es).2.2.length ≤ 65 := by
  unfold blkR
  split
  · rename_i h
    have h1 := ((blkOk_iff es).1 h).1
    have h2 := blkS_len p es
    dsimp only
    omega
  · simp
theorem moreS_len (b : List UInt8) (es : List Ent) : (moreS b es).2.length ≤ 20 * es.length := by
  unfold moreS
  split
  · split
    · exact blocksS_len _ _
    · simp
  · simp

set_option maxHeartbeats 1000000 in
theorem Tells_early (first : Int) (x y : Nat) (Al Ab : Option Addr) (N cl M cb : Nat) (w : World) (hg : ¬ (N ≤ 40 ∧ M ≤ 800)) :
    Calls Try.prog 3 #[.int .i64 first, .float .f64 x, .float .f64 y, .slice Al N cl, .slice Ab M cb] w fun e w' => e = .returned (.bool true) ∧ Ext w w' := by
  by_cases a1 : 40 < (N : Int)
  · clear hg
    go_enter Try.func3, Try.ntmps3
    go_wp2_with (go_at_call 8; refine (wakes_any _).mono ?_; rintro e w1 ⟨rfl, hE⟩)
    go_ret; exact ⟨rfl, hE⟩
  by_cases a2 : 800 < (M : Int)
  · clear hg
    go_enter Try.func3, Try.ntmps3
    go_wp2_with (go_at_call 8; refine (wakes_any _).mono ?_; rintro e w1 ⟨rfl, hE⟩)
    go_ret; exact ⟨rfl, hE⟩
  exact absurd ⟨by omega, by omega⟩ hg

set_option maxHeartbeats 4000000 in
theorem Tells_any (first : Int) (x y : Nat) (vl vb : Value) (l : List Ent) (b : List UInt8) (w : World) (hl : Es w vl l) (hb : Bs w vb b) :
    Calls Try.prog 3 #[.int .i64 first, .float .f64 x, .float .f64 y, vl, vb] w fun e w' => e = .returned (.bool true) ∧ Ext w w' := by
  obtain ⟨Al, cl, rfl, _, _⟩ := SlR.open_ hl
  obtain ⟨Ab, cb, rfl, _, _⟩ := SlR.open_ hb
  by_cases hg : l.length ≤ 40 ∧ b.length ≤ 800
  case neg => exact Tells_early _ _ _ _ _ _ _ _ _ _ hg
  obtain ⟨g1, g2⟩ := hg
  have HL := Lib.hid hl
  have HB := Lib.hid hb
  clear hl hb
  obtain ⟨⟨e1, H⟩, hhd⟩ : ∃ r, headS first = r := ⟨_, rfl⟩
  obtain ⟨⟨e2, p, K⟩, hbk⟩ : ∃ r, blkR (ptV (.complex .f64 x y)) l = r := ⟨_, rfl⟩
  obtain ⟨⟨e3, B⟩, hfl⟩ : ∃ r, fileS first l = r := ⟨_, rfl⟩
  obtain ⟨⟨e4, M⟩, hmo⟩ : ∃ r, moreS b l = r := ⟨_, rfl⟩
  obtain ⟨⟨e5, q⟩, hen⟩ : ∃ r, endS b = r := ⟨_, rfl⟩
  obtain ⟨⟨e6, fi, log, us, pt⟩, hlk⟩ : ∃ r, lookS b = r := ⟨_, rfl⟩
  have hHl := headS_len first
  have hKl := blkR_len (ptV (.complex .f64 x y)) l
  have hBl := file_len first l
  have hMl := moreS_len b l
  rw [hhd] at hHl
  rw [hbk] at hKl
  rw [hfl] at hBl
  rw [hmo] at hMl
  dsimp only at hHl hKl hBl hMl
  have Hhd := Lib.hid hhd
  have Hbk := Lib.hid hbk
  have Hfl := Lib.hid hfl
  have Hmo := Lib.hid hmo
  have Hen := Lib.hid hen
  have Hlk := Lib.hid hlk
  clear hhd hbk hfl hmo hen hlk
  go_enter Try.func3, Try.ntmps3
  go_wp2_with fail
  refine (Head_any first w).mono ?_
  rw [Hhd.out]
  rintro e w1 ⟨v1, rfl, ho1, hE1⟩
  have ho1' : OwnB w1 w.heap.size v1 H := ho1
  obtain ⟨A1, c1, rfl, _, _⟩ := SlR.open_ ho1'.bs
  dsimp only
  clear ho1
  go_wp2_with fail
  refine (refHead_any first w1).mono ?_
  rw [Hhd.out]
  rintro e w2 ⟨v2, rfl, ho2, hE2⟩
  have ho2' : OwnB w2 w1.heap.size v2 H := ho2
  obtain ⟨A2, c2, rfl, _, _⟩ := SlR.open_ ho2'.bs
  dsimp only
  clear ho2
  have hF2 : Ext w w2 := Ext.trans hE1 hE2
  go_wp2_with fail
  have hs1 := same_any _ _ _ _ w2 (ho1'.ext hE2).bs ho2'.bs
  rw [show decide (H = H) = true from by simp] at hs1
  refine hs1.mono ?_
  clear hs1
  rintro e w3 ⟨rfl, hE3⟩
  have hF3 : Ext w w3 := Ext.trans hF2 hE3
  clear hE1 hE2 hE3 hF2 ho1' ho2'
  go_wp2_with fail
  refine (Blk_both x y _ l w3 (HL.out.ext hF3)).mono ?_
  rw [Hbk.out]
  rintro e w4 ⟨v4, vz, rfl, hp1, ho4, hE4⟩
  obtain ⟨z1, z2, rfl, hz1, hz2⟩ := hp1
  have ho4' : OwnB w4 w3.heap.size v4 K := ho4
  obtain ⟨A4, c4, rfl, _, _⟩ := SlR.open_ ho4'.bs
  dsimp only at hz1 hz2 ⊢
  clear ho4
  have hF4 : Ext w w4 := Ext.trans hF3 hE4
  go_wp2_with fail
  refine (refBlk_both x y _ l w4 (HL.out.ext hF4)).mono ?_
  rw [Hbk.out]
  rintro e w5 ⟨v5, vy, rfl, hp2, ho5, hE5⟩
  obtain ⟨y1, y2, rfl, hy1, hy2⟩ := hp2
  have ho5' : OwnB w5 w4.heap.size v5 K := ho5
  obtain ⟨A5, c5, rfl, _, _⟩ := SlR.open_ ho5'.bs
  dsimp only at hy1 hy2 ⊢
  clear ho5
  have hF5 : Ext w w5 := Ext.trans hF4 hE5
  have ho4e := ho4'.ext hE5
  have k1 : (FloatKind.f64.format.order z1 y1 == some .eq) = true := by rw [order_pt hz1 hy1]; simp
  have k2 : (FloatKind.f64.format.order z2 y2 == some .eq) = true := by rw [order_pt hz2 hy2]; simp
  clear hE4 hE5 hF3 hF4 ho4' hz1 hz2 hy1 hy2
  go_wp2_with fail
  have hs1 := same_any _ _ _ _ w5 ho4e.bs ho5'.bs
  rw [show decide (K = K) = true from by simp] at hs1
  refine hs1.mono ?_
  clear hs1
  rintro e w6 ⟨rfl, hE6⟩
  have hF6 : Ext w w6 := Ext.trans hF5 hE6
  clear hE6 hF5 ho4e ho5'
  go_wp2_with fail
  clear k1 k2
  refine (File_any first _ l w6 (HL.out.ext hF6) (by omega)).mono ?_
  rw [Hfl.out]
  rintro e w7 ⟨v7, rfl, ho7, hE7⟩
  have ho7' : OwnB w7 w6.heap.size v7 B := ho7
  obtain ⟨A7, c7, rfl, _, _⟩ := SlR.open_ ho7'.bs
  dsimp only
  clear ho7
  have hF7 : Ext w w7 := Ext.trans hF6 hE7
  go_wp2_with fail
  refine (refFile_any first _ l w7 (HL.out.ext hF7) (by omega)).mono ?_
  rw [Hfl.out]
  rintro e w8 ⟨v8, rfl, ho8, hE8⟩
  have ho8' : OwnB w8 w7.heap.size v8 B := ho8
  obtain ⟨A8, c8, rfl, _, _⟩ := SlR.open_ ho8'.bs
  dsimp only
  clear ho8
  have hF8 : Ext w w8 := Ext.trans hF7 hE8
  go_wp2_with fail
  refine (More_any _ _ b l w8 (HB.out.ext hF8) (by omega) (HL.out.ext hF8) (by omega)).mono ?_
  rw [Hmo.out]
  rintro e w9 ⟨v9, rfl, ho9, hE9⟩
  have ho9' : OwnB w9 w8.heap.size v9 M := ho9
  obtain ⟨A9, c9, rfl, _, _⟩ := SlR.open_ ho9'.bs
  dsimp only
  clear ho9
  have hF9 : Ext w w9 := Ext.trans hF8 hE9
  go_wp2_with fail
  refine (refMore_any _ _ b l w9 (HB.out.ext hF9) (by omega) (HL.out.ext hF9) (by omega)).mono ?_
  rw [Hmo.out]
  rintro e w10 ⟨v10, rfl, ho10, hE10⟩
  have ho10' : OwnB w10 w9.heap.size v10 M := ho10
  obtain ⟨A10, c10, rfl, _, _⟩ := SlR.open_ ho10'.bs
  dsimp only
  clear ho10
  have hF10 : Ext w w10 := Ext.trans hF9 hE10
  have ho7e := ho7'.ext (Ext.trans hE8 (Ext.trans hE9 hE10))
  have ho8e := ho8'.ext (Ext.trans hE9 hE10)
  have ho9e := ho9'.ext hE10
  clear ho7' ho8' ho9' hE7 hE8 hE9 hE10 hF6 hF7 hF8 hF9
  go_wp2_with fail
  have hs1 := same_any _ _ _ _ w10 ho7e.bs ho8e.bs
  rw [show decide (B = B) = true from by simp] at hs1
  refine hs1.mono ?_
  clear hs1
  rintro e w11 ⟨rfl, hE11⟩
  have hF11 : Ext w w11 := Ext.trans hF10 hE11
  have hs2 := same_any _ _ _ _ w11 (ho9e.ext hE11).bs (ho10'.ext hE11).bs
  rw [show decide (M = M) = true from by simp] at hs2
  have HS2 := Lib.hid hs2
  clear hs2 hE11 hF10 ho7e ho8e ho9e ho10'
  go_wp2_with fail
  refine HS2.out.mono ?_
  clear HS2
  rintro e w12 ⟨rfl, hE12⟩
  have hF12 : Ext w w12 := Ext.trans hF11 hE12
  clear hE12 hF11
  go_wp2_with fail
  refine (Scan_any _ b w12 (HB.out.ext hF12) (by omega)).mono ?_
  rw [Hlk.out]
  rintro e w13 ⟨v13, rfl, ho13, hE13⟩
  have ho13' : OwnE w13 w12.heap.size v13 log := ho13
  obtain ⟨A13, c13, rfl, _, _⟩ := SlR.open_ ho13'.es
  dsimp only
  clear ho13
  have hF13 : Ext w w13 := Ext.trans hF12 hE13
  have hb13 := Blk.new w13 36 #[.int .i64 fi, .slice A13 log.length c13, .int .i64 us]
  have hX13 : Ext w13 (w13.alloc (.cells #[.int .i64 fi, .slice A13 log.length c13, .int .i64 us] 36)) := Ext.alloc (Ext.refl _) _
  go_wp2_with fail
  refine (refScan_any _ b _ (HB.out.ext (Ext.trans hF13 hX13)) (by omega)).mono ?_
  rw [Hlk.out]
  rintro e w14 ⟨v14, rfl, ho14, hE14⟩
  have ho14' : OwnE w14 _ v14 log := ho14
  obtain ⟨A14, c14, rfl, _, _⟩ := SlR.open_ ho14'.es
  dsimp only
  clear ho14
  have hF14 : Ext w w14 := Ext.trans hF13 (Ext.trans hX13 hE14)
  have hb14 := Blk.new w14 36 #[.int .i64 fi, .slice A14 log.length c14, .int .i64 us]
  have hX14 : Ext w14 (w14.alloc (.cells #[.int .i64 fi, .slice A14 log.length c14, .int .i64 us] 36)) := Ext.alloc (Ext.refl _) _
  go_wp2_with fail
  refine (End_any _ b _ (HB.out.ext (Ext.trans hF14 hX14)) (by omega)).mono ?_
  rw [Hen.out]
  rintro e w15 ⟨vz, rfl, hp1, hE15⟩
  obtain ⟨z3, z4, rfl, hz1, hz2⟩ := hp1
  dsimp only at hz1 hz2 ⊢
  have hE15' : Ext (w14.alloc (.cells #[.int .i64 fi, .slice A14 log.length c14, .int .i64 us] 36)) w15 := hE15
  have hF15 : Ext w w15 := Ext.trans hF14 (Ext.trans hX14 hE15')
  clear hE15
  go_wp2_with fail
  refine (refEnd_any _ b _ (HB.out.ext hF15) (by omega)).mono ?_
  rw [Hen.out]
  rintro e w16 ⟨vz, rfl, hp1, hE16⟩
  obtain ⟨y3, y4, rfl, hy1, hy2⟩ := hp1
  dsimp only at hy1 hy2 ⊢
  have hE16' : Ext w15 w16 := hE16
  have hF16 : Ext w w16 := Ext.trans hF15 hE16'
  clear hE16
  have k1 : (FloatKind.f64.format.order z3 y3 == some .eq) = true := by rw [order_pt hz1 hy1]; simp
  have k2 : (FloatKind.f64.format.order z4 y4 == some .eq) = true := by rw [order_pt hz2 hy2]; simp
  have hG14 : Ext w14 w16 := Ext.trans hX14 (Ext.trans hE15' hE16')
  have hc14 := hb14.ext (Ext.trans hE15' hE16')
  have hc13 := (hb13.ext hE14).ext hG14
  have hS := Same_any _ _ _ _ _ (ho13'.ext (Ext.trans hX13 (Ext.trans hE14 hG14))).es (ho14'.ext hG14).es
  rw [show decide (log = log) = true from by simp] at hS
  have HS := Lib.hid hS
  clear hS
  clear hz1 hz2 hy1 hy2
  have hgo : ∀ W', Ext w16 W' → W'.cell? ⟨w13.heap.size, 0, none⟩ = some (.int .i64 fi) ∧ W'.cell? ⟨w13.heap.size, 1, none⟩ = some (.slice A13 log.length c13) ∧ W'.cell? ⟨w13.heap.size, 2, none⟩ = some (.int .i64 us) ∧
      W'.cell? ⟨w14.heap.size, 0, none⟩ = some (.int .i64 fi) ∧ W'.cell? ⟨w14.heap.size, 1, none⟩ = some (.slice A14 log.length c14) ∧ W'.cell? ⟨w14.heap.size, 2, none⟩ = some (.int .i64 us) := fun W' h => by
    obtain ⟨q0, q1, q2, _, _, _⟩ := blk3 (hc13.ext h)
    obtain ⟨r0, r1, r2, _, _, _⟩ := blk3 (hc14.ext h)
    exact ⟨q0, q1, q2, r0, r1, r2⟩
  have HGO := Lib.hid hgo
  obtain ⟨a0, a1, a2, b0, b1, b2⟩ := hgo _ (Ext.refl _)
  clear hgo
  go_wp2_with fail
  refine HS.out.mono ?_
  rintro e w17 ⟨rfl, hE17⟩
  have hE17' : Ext w16 w17 := hE17
  clear a0 a1 a2 b0 b1 b2
  obtain ⟨a0, a1, a2, b0, b1, b2⟩ := HGO.out _ hE17'
  go_wp2_with (go_at_call 8; refine (wakes_any _).mono ?_; rintro e w18 ⟨rfl, hE18⟩)
  go_ret
  exact ⟨rfl, Ext.trans hF16 (Ext.trans hE17' hE18)⟩
end Go.Proofs.Ytibbbdifkopebaa
