/-
  The walk of moultref08.block.
-/
import Derived.Test.YtibbbdifkopebaaApp
import Derived.Test.YtibbbdifkopebaaRefFile
import Derived.Deep.RegionHeld3
import Derived.Deep.AppendLies
set_option linter.all false
namespace Go.Proofs.Ytibbbdifkopebaa
open Go.RowKit Go.Mv
set_option maxRecDepth 100000

/-- The block behind a point: its entries, the point behind it, how many bytes it has. -/
def rblk (p : Nat × Nat) (bs : List UInt8) : List Ent × (Nat × Nat) × Nat := match nextS p bs with | none => ([], (0, 0), 0) | some x => (x.1, chainP p (blkBody x.1), bs.length - x.2.length)
def RBlkP (w : World) (r : List Ent × (Nat × Nat) × Nat) (e : Ending) (w' : World) : Prop :=
  ∃ vl vz, e = .returned (.tuple #[vl, vz, .int .i64 r.2.2]) ∧ w'.ownsRow w.heap.size 45 3 vl r.1.length (entCells r.1) ∧ PtV vz r.2.1 ∧ Ext w w'
theorem RBlkP.none {w w' : World} {p : Nat × Nat} {bs : List UInt8} (h : nextS p bs = none) (hE : Ext w w') : RBlkP w (rblk p bs) (.returned (.tuple #[.slice none 0 0, .complex .f64 0 0, .int .i64 0])) w' := by
  unfold rblk; rw [h]
  exact ⟨_, _, rfl, World.ownsRow_nil _ _ _ _, PtV.zero, hE⟩
theorem nextS_taken {p : Nat × Nat} {bs : List UInt8} (h : takenS bs = none) : nextS p bs = none := by unfold nextS; rw [h]

theorem rblk_plain {p : Nat × Nat} {bs : List UInt8} {es : List Ent} {r : List UInt8} (h : takenS bs = some (es, r)) (h4 : 4 ≤ r.length) :
    ∃ nn, bs.length - r.length + 4 = nn ∧ r.length ≤ bs.length ∧ nn ≤ bs.length ∧ ((blkS p es = bs.take nn ∧ rblk p bs = (es, chainP p (blkBody es), nn)) ∨ (blkS p es ≠ bs.take nn ∧ nextS p bs = none)) := by
  obtain ⟨h1, h2⟩ := takenS_ok h
  have hl := congrArg List.length h2
  rw [List.length_append] at hl
  have ht : bs.take (bs.length - r.length + 4) = blkBody es ++ r.take 4 := by
    rw [hl, Nat.add_sub_cancel, h2, List.take_length_add_append]
  refine ⟨_, rfl, by omega, by omega, ?_⟩
  have hn : nextS p bs = if 4 ≤ r.length ∧ r.take 4 = fourB (chainP p (blkBody es)) then some (es, r.drop 4) else none := by unfold nextS; rw [h]
  by_cases hf : r.take 4 = fourB (chainP p (blkBody es))
  · rw [if_pos ⟨h4, hf⟩] at hn
    refine .inl ⟨by rw [ht, hf]; rfl, ?_⟩
    unfold rblk
    rw [hn]
    dsimp only
    rw [List.length_drop, show bs.length - (r.length - 4) = bs.length - r.length + 4 from by omega]
  · rw [if_neg (fun h => hf h.2)] at hn
    refine .inr ⟨fun e => hf ?_, hn⟩
    rw [ht] at e
    unfold blkS at e
    exact (List.append_cancel_left e).symm

theorem entInts_at (es : List Ent) : ∀ (k : Nat) (hk : k < es.length), (entInts es)[3 * k]? = some es[k].t ∧ (entInts es)[3 * k + 1]? = some es[k].k ∧ (entInts es)[3 * k + 2]? = some es[k].v := by
  induction es with
  | nil => intro k hk; simp at hk
  | cons e es ih =>
    intro k hk
    rw [show entInts (e :: es) = e.t :: e.k :: e.v :: entInts es from rfl]
    cases k with
    | zero => exact ⟨rfl, rfl, rfl⟩
    | succ k =>
      obtain ⟨h0, h1, h2⟩ := ih k (by simpa using hk)
      rw [show 3 * (k + 1) = 3 * k + 1 + 1 + 1 from by omega, show 3 * k + 1 + 1 + 1 + 1 = (3 * k + 1) + 1 + 1 + 1 from rfl, show 3 * k + 1 + 1 + 1 + 2 = (3 * k + 2) + 1 + 1 + 1 from rfl]
      simp only [List.getElem?_cons_succ, List.getElem_cons_succ]
      exact ⟨h0, h1, h2⟩

set_option maxHeartbeats 2000000 in
theorem refBlk_any (za zb : Nat) (p : Nat × Nat) (v : Value) (bs : List UInt8) (w : World) (hz : PtV (.complex .f64 za zb) p) (hBs : Bs w v bs) (hl : bs.length ≤ 1000000) : Calls Try.prog 59 #[.complex .f64 za zb, v] w (RBlkP w (rblk p bs)) := by
  obtain ⟨A, c, rfl, h1, h2⟩ := SlR.open_ hBs
  have hpt := hz.pt
  clear hz
  by_cases h0 : bs.length = 0
  · have hb : bs = [] := List.eq_nil_of_length_eq_zero h0
    subst hb
    have hN := Lib.hid (nextS_taken (p := p) (bs := []) rfl)
    go_enter Try.func59, Try.ntmps59
    go_wp2_with fail
    go_ret3
    exact RBlkP.none hN.out (Ext.refl _)
  obtain ⟨_, b, off, rfl, hc⟩ := Bs.at_ hBs (by omega)
  have hc0 : w.cell? ⟨b, off, none⟩ = some (.int .u8 (bs[0].toNat : Int)) := hc 0 (by omega)
  obtain ⟨x, l, rfl⟩ : ∃ x l, bs = x :: l := by cases bs with | nil => exact absurd rfl h0 | cons x l => exact ⟨x, l, rfl⟩
  simp only [List.getElem_cons_zero] at hc0
  have hblt : b < w.heap.size := World.block_lt_of_cell? w _ hc0
  have HBs := Lib.hid hBs
  have e0 : ¬ ((l.length : Int) + 1 < 1) := by omega
  clear hc hBs h0
  simp only [List.length_cons] at *
  have hx := x.toNat_lt
  by_cases hx0 : x.toNat = 0 ∨ 4 < x.toNat
  · have hN := Lib.hid (nextS_taken (p := p) (bs := x :: l) (by rw [takenS, if_pos hx0]))
    by_cases hx1 : x.toNat = 0
    · rw [hx1] at hc0
      go_enter Try.func59, Try.ntmps59
      go_wp2_with fail
      go_ret3
      exact RBlkP.none hN.out (Ext.refl _)
    · have hx4 : (4 : Int) < (x.toNat : Int) := by omega
      have hx5 : ¬ ((x.toNat : Int) < 1) := by omega
      go_enter Try.func59, Try.ntmps59
      go_wp2_with fail
      go_ret3
      exact RBlkP.none hN.out (Ext.refl _)
  have hx1 : ¬ ((x.toNat : Int) < 1) := by omega
  have hx4 : ¬ ((4 : Int) < (x.toNat : Int)) := by omega
  have HT : Hid (∀ (W : World) (u : Value), Bs W u l → Calls Try.prog 74 #[u, .int .i64 (3 * (x.toNat : Int))] W (TakesP W (takesGo (3 * x.toNat) [] l))) := by
    intro W u hu
    have := refTakes_any u l (3 * x.toNat) (by omega) W hu (by omega)
    rwa [show ((3 * x.toNat : Nat) : Int) = 3 * (x.toNat : Int) from by omega] at this
  have HTR : Hid (takenS (x :: l) = if (takesGo (3 * x.toNat) [] l).1 = 0 ∧ allOk (trip (takesGo (3 * x.toNat) [] l).2.1) = true then some (trip (takesGo (3 * x.toNat) [] l).2.1, (takesGo (3 * x.toNat) [] l).2.2) else none) := by
    show _ = _
    rw [takenS, if_neg hx0]
  have HOK := Lib.hid (takesGo_ok (3 * x.toNat) [] l)
  generalize takesGo (3 * x.toNat) [] l = tk at *
  obtain ⟨er, li, r⟩ := tk
  dsimp only at *
  have hcut : ∀ W : World, Ext w W → Bs W (.slice (some ⟨b, off + 1, none⟩) l.length (c - 1)) l := by
    intro W hE
    have h := Bs.cut (HBs.out.ext hE) 1 (by simp) rfl
    simpa using h
  have Hcut := Lib.hid hcut
  have hem : ∀ W : World, Bs W (.slice (some ⟨b, off, none⟩) 0 0) [] := fun W => SlR.empty W 1 (by simp)
  clear hcut hx0
  have hvs : ∃ vs : Value, (∀ W, Ext w W → Bs W vs l) ∧ vs = .slice (if c = 1 then some ⟨b, off, none⟩ else some ⟨b, off + 1, none⟩) l.length (c - 1) := by
    by_cases hc1 : c = 1
    · obtain rfl : l = [] := List.eq_nil_of_length_eq_zero (by omega)
      exact ⟨_, fun W _ => SlR.empty W 1 (by omega), rfl⟩
    · exact ⟨_, fun W hE => Hcut.out W hE, by rw [if_neg hc1]⟩
  obtain ⟨vs, hvs1, hvs2⟩ := hvs
  have HVS := Lib.hid hvs1
  have hb1 : (1 : Int) ≤ (l.length : Int) + 1 := by omega
  have hb2 : (1 : Int) ≤ (c : Int) := by omega
  have hw1 : IntKind.i64.wrap (x.toNat : Int) = (x.toNat : Int) := IntWalk.i64_in _ (by omega)
  have hw2 : IntKind.i64.wrap (3 * (x.toNat : Int)) = 3 * (x.toNat : Int) := IntWalk.i64_in _ (by omega)
  have HV := Lib.hid hvs2
  clear hvs1 hem hvs2
  go_enter Try.func59, Try.ntmps59
  go_wp2_with fail
  go_region_held3 (fun w' => w'.cell? ⟨b, off, none⟩ = some (.int .u8 (x.toNat : Int))) (first | go_keep | assumption)
    (first | (go_at_call 74; (try rw [hw1, hw2]); rw [← HV.out]; refine (HT.out _ _ (HVS.out _ (Ext.drew (Ext.refl _)))).mono ?_; rintro e w1 ⟨vl, vr, rfl, ho1, ho2, hE1⟩; have hE1' : Ext w w1 := Ext.trans (Ext.drew (Ext.refl _)) hE1; have g0 := Ext.cell hE1' hc0; dsimp only at ho1 ho2; obtain ⟨Al, cl, rfl, _, _⟩ := SlR.open_ (SlR.of_own ho1); obtain ⟨Ar, cr, rfl, _, _⟩ := SlR.open_ (SlR.of_own ho2)))
  by_cases her : er = 0
  case neg =>
    have e6 : (er != 0) = true := by simpa using her
    have Her := Lib.hid her
    clear her
    go_wp2_with fail
    go_ret3
    exact RBlkP.none (nextS_taken (by rw [HTR.out, if_neg (fun h => Her.out h.1)])) hE1'
  subst her
  by_cases hr4 : (r.length : Int) < 4
  · go_wp2_with fail
    go_ret3
    refine RBlkP.none ?_ hE1'
    unfold nextS
    rw [HTR.out]
    split
    · rfl
    · rename_i y hy
      split at hy
      · cases hy
        rw [if_neg (fun h => by have := h.1; dsimp only at this; omega)]
      · cases hy
  obtain ⟨l', hl', h4, hnum, hlr⟩ := HOK.out li r rfl
  rw [List.nil_append] at hl'
  subst hl'
  obtain ⟨h7, h8⟩ := ints_trip x.toNat li h4
  obtain ⟨es, hes⟩ : ∃ es, trip li = es := ⟨_, rfl⟩
  rw [hes] at HTR h7 h8
  have hlrl := congrArg List.length hlr
  rw [List.length_append] at hlrl
  have Hlr := Lib.hid hlr
  subst h7
  have HLi := entInts_len es
  have hes4 : es.length ≤ 4 := by omega
  have hes1 : 0 < es.length := by omega
  have hnx : (x.toNat : Int) = (es.length : Int) := by omega
  have HN := Lib.hid hnx
  have hxi : x.toNat = es.length := by omega
  have HX := Lib.hid hxi
  have Hlrl := Lib.hid hlrl
  clear HOK h4 hes HT hnum hlr h8 hnx hxi hlrl
  obtain ⟨i0, hi, hz0, hz1, hz2⟩ := info_parts info_ent
  have hIs : Is w1 (.slice Al (entInts es).length cl) (entInts es) := SlR.of_own ho1
  obtain ⟨_, bi, oi, rfl, hci⟩ := SlR.at_ hIs (by omega)
  have HCI : Hid (∀ k, (hk : k < es.length) → w1.cell? ⟨bi, oi + 3 * k, none⟩ = some (.int .i64 es[k].t) ∧ w1.cell? ⟨bi, oi + (3 * k + 1), none⟩ = some (.int .i64 es[k].k) ∧ w1.cell? ⟨bi, oi + (3 * k + 2), none⟩ = some (.int .i64 es[k].v)) := by
    intro k hk
    obtain ⟨e0, e1, e2⟩ := entInts_at es k hk
    exact ⟨hci _ _ (by rw [List.getElem?_map, e0]; rfl), hci _ _ (by rw [List.getElem?_map, e1]; rfl), hci _ _ (by rw [List.getElem?_map, e2]; rfl)⟩
  clear hci
  go_wp2_with fail
  go_loopw [10, 11] (fun vo i wr => ∃ k : Nat, Hid (k ≤ es.length) ∧ i = .int .i64 k ∧ wr.ownsRow w1.heap.size 45 3 vo k (entCells (es.take k)) ∧ Ext w1 wr) (fun _ i _ => x.toNat - (intOf i).toNat)
  case atStart => exact ⟨0, Nat.zero_le _, rfl, World.ownsRow_nil _ _ _ _, Ext.refl _⟩
  case round =>
    obtain ⟨k, Hk, rfl, hown, hE⟩ := hrel
    have g1 := Ext.cell hE g0
    by_cases hlt : (k : Int) < (x.toNat : Int)
    · have hkl : k < es.length := by have := HN.out; omega
      obtain ⟨q0, q1, q2⟩ := HCI.out k hkl
      have q0' := Ext.cell hE q0
      have q1' := Ext.cell hE q1
      have q2' := Ext.cell hE q2
      have hsn : entCells (es.take (k + 1)) = entCells (es.take k) ++ [.int .i64 es[k].t, .int .i64 es[k].k, .int .i64 es[k].v] := by
        rw [List.take_succ_eq_append_getElem hkl]
        show (es.take k ++ [es[k]]).flatMap Ent.cells = _
        rw [List.flatMap_append]
        rfl
      have Hsn := Lib.hid hsn
      clear hsn
      generalize es[k].t = et at *
      generalize es[k].k = ek at *
      generalize es[k].v = ev at *
      have hk4 : k < 4 := by omega
      obtain ⟨j0, hj0⟩ : ∃ j0, 3 * k = j0 := ⟨_, rfl⟩
      obtain ⟨j1, hj1⟩ : ∃ j1, 3 * k + 1 = j1 := ⟨_, rfl⟩
      obtain ⟨j2, hj2⟩ : ∃ j2, 3 * k + 2 = j2 := ⟨_, rfl⟩
      rw [hj0] at q0' q0
      rw [hj1] at q1' q1
      rw [hj2] at q2' q2
      have y0 : IntKind.i64.wrap (3 * (k : Int)) = (j0 : Int) := by rw [IntWalk.i64_in _ (by omega)]; omega
      have y1 : IntKind.i64.wrap ((j0 : Int) + 1) = (j1 : Int) := by rw [IntWalk.i64_in _ (by omega)]; omega
      have y2 : IntKind.i64.wrap ((j0 : Int) + 2) = (j2 : Int) := by rw [IntWalk.i64_in _ (by omega)]; omega
      have y3 : (j0 : Int) < 3 * (es.length : Int) := by omega
      have y4 : (j1 : Int) < 3 * (es.length : Int) := by omega
      have y5 : (j2 : Int) < 3 * (es.length : Int) := by omega
      clear hj0 hj1 hj2
      go_wp2_with fail
      refine wp_region_held_drew (S := fun w' => w'.cell? ⟨bi, oi + j0, none⟩ = some (.int .i64 et) ∧ w'.cell? ⟨bi, oi + j1, none⟩ = some (.int .i64 ek) ∧ w'.cell? ⟨bi, oi + j2, none⟩ = some (.int .i64 ev)) (by kernel_rfl) ⟨q0', q1', q2'⟩ (fun hHeld => ?_)
      refine wpAnyH_takeL (i := 0) (v := ?v1_0) rfl (by kernel_rfl) (by kernel_rfl) (by kernel_rfl) (fun _ _ _ h => h) (by rfl) (by assumption) (fun w hw => ?h1_0) ?r1_0
      case h1_0 => (try dsimp only at hw); go_simp; try with_reducible rfl
      case' r1_0 => skip
      try simp only [Act.put, List.setIfInBounds_toArray, List.set_cons_zero, List.set_cons_succ]
      refine wpAnyH_takeL (i := 1) (v := ?v1_1) rfl (by kernel_rfl) (by kernel_rfl) (by kernel_rfl) (fun _ _ _ h => h) (by rfl) (by assumption) (fun w hw => ?h1_1) ?r1_1
      case h1_1 => (try dsimp only at hw); go_simp; try with_reducible rfl
      case' r1_1 => skip
      try simp only [Act.put, List.setIfInBounds_toArray, List.set_cons_zero, List.set_cons_succ]
      refine wpAnyH_takeL (i := 2) (v := ?v1_2) rfl (by kernel_rfl) (by kernel_rfl) (by kernel_rfl) (fun _ _ _ h => h) (by rfl) (by assumption) (fun w hw => ?h1_2) ?r1_2
      case h1_2 => (try dsimp only at hw); go_simp; try with_reducible rfl
      case' r1_2 => skip
      try simp only [Act.put, List.setIfInBounds_toArray, List.set_cons_zero, List.set_cons_succ]
      refine wpAnyH_takeL (i := 3) (v := ?v1_3) rfl (by kernel_rfl) (by kernel_rfl) (by kernel_rfl) (fun _ _ _ h => h) (by rfl) (by assumption) (fun w hw => ?h1_3) ?r1_3
      case h1_3 => (try dsimp only at hw); go_simp; try with_reducible rfl
      case' r1_3 => skip
      try simp only [Act.put, List.setIfInBounds_toArray, List.set_cons_zero, List.set_cons_succ]
      refine wpAnyH_takeL (i := 4) (v := ?v1_4) rfl (by kernel_rfl) (by kernel_rfl) (by kernel_rfl) (fun _ _ _ h => h) (by rfl) (by assumption) (fun w hw => ?h1_4) ?r1_4
      case h1_4 => (try dsimp only at hw); go_simp; try with_reducible rfl
      case' r1_4 => skip
      try simp only [Act.put, List.setIfInBounds_toArray, List.set_cons_zero, List.set_cons_succ]
      refine wpAnyH_takeL (i := 5) (v := ?v1_5) rfl (by kernel_rfl) (by kernel_rfl) (by kernel_rfl) (fun _ _ _ h => h) (by rfl) (by assumption) (fun w hw => ?h1_5) ?r1_5
      case h1_5 => (try dsimp only at hw); go_simp; try with_reducible rfl
      case' r1_5 => skip
      try simp only [Act.put, List.setIfInBounds_toArray, List.set_cons_zero, List.set_cons_succ]
      refine wpAnyH_takeL (i := 6) (v := ?v1_6) rfl (by kernel_rfl) (by kernel_rfl) (by kernel_rfl) (fun _ _ _ h => h) (by rfl) (by assumption) (fun w hw => ?h1_6) ?r1_6
      case h1_6 => (try dsimp only at hw); go_simp; try with_reducible rfl
      case' r1_6 => skip
      try simp only [Act.put, List.setIfInBounds_toArray, List.set_cons_zero, List.set_cons_succ]
      refine wpAnyH_takeL (i := 7) (v := ?v1_7) rfl (by kernel_rfl) (by kernel_rfl) (by kernel_rfl) (fun _ _ _ h => h) (by rfl) (by assumption) (fun w hw => ?h1_7) ?r1_7
      case h1_7 => (try dsimp only at hw); go_simp; try with_reducible rfl
      case' r1_7 => skip
      try simp only [Act.put, List.setIfInBounds_toArray, List.set_cons_zero, List.set_cons_succ]
      refine wpAnyH_takeL (i := 8) (v := ?v1_8) rfl (by kernel_rfl) (by kernel_rfl) (by kernel_rfl) (fun _ _ _ h => h) (by rfl) (by assumption) (fun w hw => ?h1_8) ?r1_8
      case h1_8 => (try dsimp only at hw); go_simp; try with_reducible rfl
      case' r1_8 => skip
      try simp only [Act.put, List.setIfInBounds_toArray, List.set_cons_zero, List.set_cons_succ]
      refine wpAnyH_takeL (i := 9) (v := ?v1_9) rfl (by kernel_rfl) (by kernel_rfl) (by kernel_rfl) (fun _ _ _ h => h) (by rfl) (by assumption) (fun w hw => ?h1_9) ?r1_9
      case h1_9 => (try dsimp only at hw); go_simp; try with_reducible rfl
      case' r1_9 => skip
      try simp only [Act.put, List.setIfInBounds_toArray, List.set_cons_zero, List.set_cons_succ]
      refine wpAnyH_takeL (i := 10) (v := ?v1_10) rfl (by kernel_rfl) (by kernel_rfl) (by kernel_rfl) (fun _ _ _ h => h) (by rfl) (by assumption) (fun w hw => ?h1_10) ?r1_10
      case h1_10 => (try dsimp only at hw); go_simp; try with_reducible rfl
      case' r1_10 => skip
      try simp only [Act.put, List.setIfInBounds_toArray, List.set_cons_zero, List.set_cons_succ]
      refine wpAnyH_takeL (i := 11) (v := ?v1_11) rfl (by kernel_rfl) (by kernel_rfl) (by kernel_rfl) (fun _ _ _ h => h) (by rfl) (by assumption) (fun w hw => ?h1_11) ?r1_11
      case h1_11 => (try dsimp only at hw); go_simp; try with_reducible rfl
      case' r1_11 => skip
      try simp only [Act.put, List.setIfInBounds_toArray, List.set_cons_zero, List.set_cons_succ]
      refine wpAnyH_takeL (i := 12) (v := ?v1_12) rfl (by kernel_rfl) (by kernel_rfl) (by kernel_rfl) (fun _ _ _ h => h) (by rfl) (by assumption) (fun w hw => ?h1_12) ?r1_12
      case h1_12 => (try dsimp only at hw); go_simp; try with_reducible rfl
      case' r1_12 => skip
      try simp only [Act.put, List.setIfInBounds_toArray, List.set_cons_zero, List.set_cons_succ]
      refine wpAnyH_takeL (i := 13) (v := ?v1_13) rfl (by kernel_rfl) (by kernel_rfl) (by kernel_rfl) (fun _ _ _ h => h) (by rfl) (by assumption) (fun w hw => ?h1_13) ?r1_13
      case h1_13 => (try dsimp only at hw); go_simp; try with_reducible rfl
      case' r1_13 => skip
      try simp only [Act.put, List.setIfInBounds_toArray, List.set_cons_zero, List.set_cons_succ]
      refine wpAnyH_takeL (i := 14) (v := ?v1_14) rfl (by kernel_rfl) (by kernel_rfl) (by kernel_rfl) (fun _ _ _ h => h) (by rfl) (by assumption) (fun w hw => ?h1_14) ?r1_14
      case h1_14 => (try dsimp only at hw); go_simp; try with_reducible rfl
      case' r1_14 => skip
      try simp only [Act.put, List.setIfInBounds_toArray, List.set_cons_zero, List.set_cons_succ]
      refine wpAnyH_takeL (i := 15) (v := ?v1_15) rfl (by kernel_rfl) (by kernel_rfl) (by kernel_rfl) (fun _ _ _ h => h) (by rfl) (by assumption) (fun w hw => ?h1_15) ?r1_15
      case h1_15 => (try dsimp only at hw); go_simp; try with_reducible rfl
      case' r1_15 => skip
      try simp only [Act.put, List.setIfInBounds_toArray, List.set_cons_zero, List.set_cons_succ]
      refine wpAnyH_takeL (i := 16) (v := ?v1_16) rfl (by kernel_rfl) (by kernel_rfl) (by kernel_rfl) (fun _ _ _ h => h) (by rfl) (by assumption) (fun w hw => ?h1_16) ?r1_16
      case h1_16 => (try dsimp only at hw); go_simp; try with_reducible rfl
      case' r1_16 => skip
      try simp only [Act.put, List.setIfInBounds_toArray, List.set_cons_zero, List.set_cons_succ]
      refine wpAnyH_takeL (i := 17) (v := ?v1_17) rfl (by kernel_rfl) (by kernel_rfl) (by kernel_rfl) (fun _ _ _ h => h) (by rfl) (by assumption) (fun w hw => ?h1_17) ?r1_17
      case h1_17 => (try dsimp only at hw); go_simp; try with_reducible rfl
      case' r1_17 => skip
      try simp only [Act.put, List.setIfInBounds_toArray, List.set_cons_zero, List.set_cons_succ]
      refine wpAnyH_takeL (i := 18) (v := ?v1_18) rfl (by kernel_rfl) (by kernel_rfl) (by kernel_rfl) (fun _ _ _ h => h) (by rfl) (by assumption) (fun w hw => ?h1_18) ?r1_18
      case h1_18 => (try dsimp only at hw); go_simp; try with_reducible rfl
      case' r1_18 => skip
      try simp only [Act.put, List.setIfInBounds_toArray, List.set_cons_zero, List.set_cons_succ]
      refine AllReadyH.one (i := 19) rfl (by kernel_rfl) (by rfl) (fun K hK => ?_)
      go_simp
      have hEx : Ext wr (wr.drew.alloc (.cells #[.int .i64 et, .int .i64 ek, .int .i64 ev] 45)) := Ext.alloc (Ext.drew (Ext.refl _)) _
      refine hK.out _ _ ⟨Ext.cell hEx q0', Ext.cell hEx q1', Ext.cell hEx q2'⟩ (fun hHeld => ?_)
      clear hK K
      try simp only [Act.put, List.setIfInBounds_toArray, List.set_cons_zero, List.set_cons_succ]
      refine AllReadyH.one (i := 20) rfl (by kernel_rfl) (by rfl) (fun K hK => ?_)
      have hon := own_ext hown hEx
      refine wp_append_lies _ (.tmp 58) (.tmp 77) 23 (by rfl) w1.heap.size 45 i0 _ 3 24 Try.underlying23 hi hz0 hz1 hz2 rfl (by decide) _ k (entCells (es.take k)) (by rfl) hon ⟨wr.heap.size, 0, none⟩ 1 1 [.int .i64 et, .int .i64 ek, .int .i64 ev] (by rfl) rfl (World.news_of_block (heap_alloc_new _ _)) (by simp [Value.oneCell']) (by omega) (by unfold maxLen; omega) (by omega) (by have := hE.size; simp; omega) _ rfl ?_
      intro g' cap w3 hown' hgrow _ _
      have hE3 : Ext w1 w3 := Ext.grownOwn (Ext.trans hE hEx) hon hgrow
      refine hK.out _ _ ⟨Ext.cell hE3 q0, Ext.cell hE3 q1, Ext.cell hE3 q2⟩ (fun hHeld => ?_)
      clear hK K
      try simp only [Act.put, List.setIfInBounds_toArray, List.set_cons_zero, List.set_cons_succ]
      refine wpAnyH_takeL (i := 21) (v := ?v5_21) rfl (by kernel_rfl) (by kernel_rfl) (by kernel_rfl) (fun _ _ _ h => h) (by rfl) (by assumption) (fun w hw => ?h5_21) ?r5_21
      case h5_21 => (try dsimp only at hw); go_simp; try with_reducible rfl
      case' r5_21 => skip
      try simp only [Act.put, List.setIfInBounds_toArray, List.set_cons_zero, List.set_cons_succ]
      refine wpAnyH_done (by kernel_rfl) ?_ _
      go_wp2_with fail
      go_roundw
      case rel =>
        refine ⟨k + 1, by show _ ≤ _; omega, by go_num, ?_, hE3⟩
        rw [Hsn.out]
        exact hown'
      case measure => simp [intOf]; omega
    · have hke : k = es.length := by have h1 := Hk.out; have h2 := HN.out; omega
      subst hke
      rw [List.take_of_length_le (Nat.le_refl _)] at hown
      have hes' : Es wr u10 es := SlR.of_own hown
      have hEw : Ext w wr := Ext.trans hE1' hE
      obtain ⟨Ao, co, rfl, _, _⟩ := SlR.open_ hes'
      go_wp2_with fail
      have hrl : r.length ≤ l.length := by have := Hlrl.out; omega
      cases hok : blkOk es with
      | false =>
        have hnt : Hid (nextS p (x :: l) = none) := by
          show _ = _
          refine nextS_taken ?_
          rw [HTR.out, if_neg]
          rintro ⟨_, h⟩
          rw [(blkOk_iff es).2 ⟨⟨hes1, hes4⟩, h⟩] at hok
          cases hok
        refine (refBlock_bad _ _ es wr hes' hok).mono ?_
        rintro e w4 ⟨rfl, hE4⟩
        clear hok
        go_wp2_with fail
        refine wp_region_held_drew (S := fun _ => True) (by kernel_rfl) trivial (fun hHeld => ?_)
        refine wpAnyH_takeL (i := 0) (v := ?v7_0) rfl (by kernel_rfl) (by kernel_rfl) (by kernel_rfl) (fun _ _ _ h => h) (by rfl) (by assumption) (fun w hw => ?h7_0) ?r7_0
        case h7_0 => (try dsimp only at hw); go_simp; try with_reducible rfl
        case' r7_0 => skip
        try simp only [Act.put, List.setIfInBounds_toArray, List.set_cons_zero, List.set_cons_succ]
        refine wpAnyH_takeL (i := 1) (v := ?v7_1) rfl (by kernel_rfl) (by kernel_rfl) (by kernel_rfl) (fun _ _ _ h => h) (by rfl) (by assumption) (fun w hw => ?h7_1) ?r7_1
        case h7_1 => (try dsimp only at hw); go_simp; try with_reducible rfl
        case' r7_1 => skip
        try simp only [Act.put, List.setIfInBounds_toArray, List.set_cons_zero, List.set_cons_succ]
        refine wpAnyH_takeL (i := 2) (v := ?v7_2) rfl (by kernel_rfl) (by kernel_rfl) (by kernel_rfl) (fun _ _ _ h => h) (by rfl) (by assumption) (fun w hw => ?h7_2) ?r7_2
        case h7_2 => (try dsimp only at hw); go_simp; try with_reducible rfl
        case' r7_2 => skip
        try simp only [Act.put, List.setIfInBounds_toArray, List.set_cons_zero, List.set_cons_succ]
        refine wpAnyH_skipL (i := 3) rfl (by kernel_rfl) (by kernel_rfl) (by kernel_rfl) (fun _ _ _ h => h) (by rfl) (by assumption) ?_
        try simp only [Act.put, List.setIfInBounds_toArray, List.set_cons_zero, List.set_cons_succ]
        refine wpAnyH_skipL (i := 4) rfl (by kernel_rfl) (by kernel_rfl) (by kernel_rfl) (fun _ _ _ h => h) (by rfl) (by assumption) ?_
        try simp only [Act.put, List.setIfInBounds_toArray, List.set_cons_zero, List.set_cons_succ]
        refine wpAnyH_skipL (i := 5) rfl (by kernel_rfl) (by kernel_rfl) (by kernel_rfl) (fun _ _ _ h => h) (by rfl) (by assumption) ?_
        try simp only [Act.put, List.setIfInBounds_toArray, List.set_cons_zero, List.set_cons_succ]
        refine wpAnyH_skipL (i := 6) rfl (by kernel_rfl) (by kernel_rfl) (by kernel_rfl) (fun _ _ _ h => h) (by rfl) (by assumption) ?_
        try simp only [Act.put, List.setIfInBounds_toArray, List.set_cons_zero, List.set_cons_succ]
        refine wpAnyH_skipL (i := 7) rfl (by kernel_rfl) (by kernel_rfl) (by kernel_rfl) (fun _ _ _ h => h) (by rfl) (by assumption) ?_
        try simp only [Act.put, List.setIfInBounds_toArray, List.set_cons_zero, List.set_cons_succ]
        refine wpAnyH_skipL (i := 8) rfl (by kernel_rfl) (by kernel_rfl) (by kernel_rfl) (fun _ _ _ h => h) (by rfl) (by assumption) ?_
        try simp only [Act.put, List.setIfInBounds_toArray, List.set_cons_zero, List.set_cons_succ]
        refine wpAnyH_skipL (i := 9) rfl (by kernel_rfl) (by kernel_rfl) (by kernel_rfl) (fun _ _ _ h => h) (by rfl) (by assumption) ?_
        try simp only [Act.put, List.setIfInBounds_toArray, List.set_cons_zero, List.set_cons_succ]
        refine wpAnyH_takeL (i := 10) (v := ?v9_10) rfl (by kernel_rfl) (by kernel_rfl) (by kernel_rfl) (fun _ _ _ h => h) (by rfl) (by assumption) (fun w hw => ?h9_10) ?r9_10
        case h9_10 => (try dsimp only at hw); go_simp; try with_reducible rfl
        case' r9_10 => skip
        try simp only [Act.put, List.setIfInBounds_toArray, List.set_cons_zero, List.set_cons_succ]
        refine wpAnyH_done (by kernel_rfl) ?_ _
        go_wp2_with fail
        go_ret3
        exact RBlkP.none hnt.out (Ext.drew (Ext.trans hEw hE4))
      | true =>
        have htk : takenS (x :: l) = some (es, r) := by rw [HTR.out, if_pos (by simp [((blkOk_iff es).1 hok).2])]
        obtain ⟨nn, hnn, _, hnl, hcs⟩ := rblk_plain (p := p) htk (by omega)
        rw [List.length_cons] at hnn hnl
        have hni : (l.length : Int) + 1 - (r.length : Int) + 4 = (nn : Int) := by omega
        refine (refBlock_ok za zb _ es wr hes' hok).mono ?_
        rw [hpt]
        rintro e w4 ⟨v4, vz, rfl, hpz, ho4, hE4⟩
        clear hok htk hnn
        obtain ⟨KB, hKB⟩ : ∃ KB, blkS p es = KB := ⟨_, rfl⟩
        rw [hKB] at ho4 hcs
        have hbK : Bs w4 v4 KB := SlR.of_own ho4
        obtain ⟨A4, c4, rfl, _, _⟩ := SlR.open_ hbK
        obtain ⟨z3, z4, rfl, hz3, hz4⟩ := hpz
        have hbn : Bs w4 (.slice (some ⟨b, off, none⟩) nn c) ((x :: l).take nn) := Bs.take (HBs.out.ext (Ext.trans hEw hE4)) nn (by simpa using hnl)
        have hca := run_convert_sl (P := Try.prog) w4.drew 24 9 5 Try.underlying24 Try.underlying5 Try.underlying9 (SlR.ext hbK (Ext.drew (Ext.refl _)))
        have hcb := run_convert_sl (P := Try.prog) w4.drew 24 9 5 Try.underlying24 Try.underlying5 Try.underlying9 (SlR.ext hbn (Ext.drew (Ext.refl _)))
        have hnc : (nn : Int) ≤ (c : Int) := by omega
        have hE14 : Ext w w4 := Ext.trans hEw hE4
        have hoo : w4.ownsRow w1.heap.size 45 3 (.slice Ao es.length co) es.length (entCells es) := own_ext hown hE4
        rcases hcs with ⟨hq, hrb⟩ | ⟨hq, hrb⟩
        · have HRB := Lib.hid hrb
          rw [← hq] at hcb
          clear hrb hq hKB hbK hbn hes' hown
          go_wp2_with fail
          refine wp_region_held_drew (S := fun W => (convert 24 9 (.slice A4 KB.length c4)).run Try.prog W = .ok (.string ⟨KB.toArray⟩) W ∧ (convert 24 9 (.slice (some ⟨b, off, none⟩) nn c)).run Try.prog W = .ok (.string ⟨KB.toArray⟩) W) (by kernel_rfl) ⟨hca, hcb⟩ (fun hHeld => ?_)
          refine wpAnyH_takeL (i := 0) (v := ?v11_0) rfl (by kernel_rfl) (by kernel_rfl) (by kernel_rfl) (fun _ _ _ h => h) (by rfl) (by assumption) (fun w hw => ?h11_0) ?r11_0
          case h11_0 => (try dsimp only at hw); go_simp; try with_reducible rfl
          case' r11_0 => skip
          try simp only [Act.put, List.setIfInBounds_toArray, List.set_cons_zero, List.set_cons_succ]
          refine wpAnyH_takeL (i := 1) (v := ?v11_1) rfl (by kernel_rfl) (by kernel_rfl) (by kernel_rfl) (fun _ _ _ h => h) (by rfl) (by assumption) (fun w hw => ?h11_1) ?r11_1
          case h11_1 => (try dsimp only at hw); go_simp; try with_reducible rfl
          case' r11_1 => skip
          try simp only [Act.put, List.setIfInBounds_toArray, List.set_cons_zero, List.set_cons_succ]
          refine wpAnyH_takeL (i := 2) (v := ?v11_2) rfl (by kernel_rfl) (by kernel_rfl) (by kernel_rfl) (fun _ _ _ h => h) (by rfl) (by assumption) (fun w hw => ?h11_2) ?r11_2
          case h11_2 => (try dsimp only at hw); go_simp; try with_reducible rfl
          case' r11_2 => skip
          try simp only [Act.put, List.setIfInBounds_toArray, List.set_cons_zero, List.set_cons_succ]
          refine wpAnyH_takeL (i := 3) (v := ?v11_3) rfl (by kernel_rfl) (by kernel_rfl) (by kernel_rfl) (fun _ _ _ h => h) (by rfl) (by assumption) (fun w hw => ?h11_3) ?r11_3
          case h11_3 => (try dsimp only at hw); go_simp; try with_reducible rfl
          case' r11_3 => skip
          try simp only [Act.put, List.setIfInBounds_toArray, List.set_cons_zero, List.set_cons_succ]
          refine wpAnyH_takeL (i := 4) (v := ?v11_4) rfl (by kernel_rfl) (by kernel_rfl) (by kernel_rfl) (fun _ _ _ h => h) (by rfl) (by assumption) (fun w hw => ?h11_4) ?r11_4
          case h11_4 => (try dsimp only at hw); go_simp; try with_reducible rfl
          case' r11_4 => skip
          try simp only [Act.put, List.setIfInBounds_toArray, List.set_cons_zero, List.set_cons_succ]
          refine wpAnyH_takeL (i := 5) (v := ?v11_5) rfl (by kernel_rfl) (by kernel_rfl) (by kernel_rfl) (fun _ _ _ h => h) (by rfl) (by assumption) (fun w hw => ?h11_5) ?r11_5
          case h11_5 => (try dsimp only at hw); go_simp; try with_reducible rfl
          case' r11_5 => skip
          try simp only [Act.put, List.setIfInBounds_toArray, List.set_cons_zero, List.set_cons_succ]
          refine wpAnyH_takeL (i := 6) (v := ?v11_6) rfl (by kernel_rfl) (by kernel_rfl) (by kernel_rfl) (fun _ _ _ h => h) (by rfl) (by assumption) (fun w hw => ?h11_6) ?r11_6
          case h11_6 => (try dsimp only at hw); go_simp; try with_reducible rfl
          case' r11_6 => skip
          try simp only [Act.put, List.setIfInBounds_toArray, List.set_cons_zero, List.set_cons_succ]
          refine wpAnyH_takeL (i := 7) (v := ?v11_7) rfl (by kernel_rfl) (by kernel_rfl) (by kernel_rfl) (fun _ _ _ h => h) (by rfl) (by assumption) (fun w hw => ?h11_7) ?r11_7
          case h11_7 => (try dsimp only at hw); go_simp; try with_reducible rfl
          case' r11_7 => skip
          try simp only [Act.put, List.setIfInBounds_toArray, List.set_cons_zero, List.set_cons_succ]
          refine wpAnyH_takeL (i := 8) (v := ?v11_8) rfl (by kernel_rfl) (by kernel_rfl) (by kernel_rfl) (fun _ _ _ h => h) (by rfl) (by assumption) (fun w hw => ?h11_8) ?r11_8
          case h11_8 => (try dsimp only at hw); go_simp; try with_reducible rfl
          case' r11_8 => skip
          try simp only [Act.put, List.setIfInBounds_toArray, List.set_cons_zero, List.set_cons_succ]
          refine wpAnyH_takeL (i := 9) (v := ?v11_9) rfl (by kernel_rfl) (by kernel_rfl) (by kernel_rfl) (fun _ _ _ h => h) (by rfl) (by assumption) (fun w hw => ?h11_9) ?r11_9
          case h11_9 => (try dsimp only at hw); go_simp; try with_reducible rfl
          case' r11_9 => skip
          try simp only [Act.put, List.setIfInBounds_toArray, List.set_cons_zero, List.set_cons_succ]
          refine wpAnyH_takeL (i := 10) (v := ?v11_10) rfl (by kernel_rfl) (by kernel_rfl) (by kernel_rfl) (fun _ _ _ h => h) (by rfl) (by assumption) (fun w hw => ?h11_10) ?r11_10
          case h11_10 => (try dsimp only at hw); go_simp; try with_reducible rfl
          case' r11_10 => skip
          try simp only [Act.put, List.setIfInBounds_toArray, List.set_cons_zero, List.set_cons_succ]
          refine wpAnyH_done (by kernel_rfl) ?_ _
          go_wp2_with fail
          go_ret3
          rw [HRB.out]
          exact ⟨_, _, rfl, own_base (own_ext hoo (Ext.drew (Ext.refl _))) hE1'.size, ⟨_, _, rfl, hz3, hz4⟩, Ext.drew hE14⟩
        · have HRB := Lib.hid hrb
          obtain ⟨TB, hTB⟩ : ∃ TB, (x :: l).take nn = TB := ⟨_, rfl⟩
          rw [hTB] at hcb hq
          have hne : (KB == TB) = false := by rw [beq_eq_false_iff_ne]; exact hq
          clear hrb hKB hbK hbn hes' hown hTB
          go_wp2_with fail
          refine wp_region_held_drew (S := fun W => (convert 24 9 (.slice A4 KB.length c4)).run Try.prog W = .ok (.string ⟨KB.toArray⟩) W ∧ (convert 24 9 (.slice (some ⟨b, off, none⟩) nn c)).run Try.prog W = .ok (.string ⟨TB.toArray⟩) W) (by kernel_rfl) ⟨hca, hcb⟩ (fun hHeld => ?_)
          refine wpAnyH_takeL (i := 0) (v := ?v13_0) rfl (by kernel_rfl) (by kernel_rfl) (by kernel_rfl) (fun _ _ _ h => h) (by rfl) (by assumption) (fun w hw => ?h13_0) ?r13_0
          case h13_0 => (try dsimp only at hw); go_simp; try with_reducible rfl
          case' r13_0 => skip
          try simp only [Act.put, List.setIfInBounds_toArray, List.set_cons_zero, List.set_cons_succ]
          refine wpAnyH_takeL (i := 1) (v := ?v13_1) rfl (by kernel_rfl) (by kernel_rfl) (by kernel_rfl) (fun _ _ _ h => h) (by rfl) (by assumption) (fun w hw => ?h13_1) ?r13_1
          case h13_1 => (try dsimp only at hw); go_simp; try with_reducible rfl
          case' r13_1 => skip
          try simp only [Act.put, List.setIfInBounds_toArray, List.set_cons_zero, List.set_cons_succ]
          refine wpAnyH_takeL (i := 2) (v := ?v13_2) rfl (by kernel_rfl) (by kernel_rfl) (by kernel_rfl) (fun _ _ _ h => h) (by rfl) (by assumption) (fun w hw => ?h13_2) ?r13_2
          case h13_2 => (try dsimp only at hw); go_simp; try with_reducible rfl
          case' r13_2 => skip
          try simp only [Act.put, List.setIfInBounds_toArray, List.set_cons_zero, List.set_cons_succ]
          refine wpAnyH_takeL (i := 3) (v := ?v13_3) rfl (by kernel_rfl) (by kernel_rfl) (by kernel_rfl) (fun _ _ _ h => h) (by rfl) (by assumption) (fun w hw => ?h13_3) ?r13_3
          case h13_3 => (try dsimp only at hw); go_simp; try with_reducible rfl
          case' r13_3 => skip
          try simp only [Act.put, List.setIfInBounds_toArray, List.set_cons_zero, List.set_cons_succ]
          refine wpAnyH_takeL (i := 4) (v := ?v13_4) rfl (by kernel_rfl) (by kernel_rfl) (by kernel_rfl) (fun _ _ _ h => h) (by rfl) (by assumption) (fun w hw => ?h13_4) ?r13_4
          case h13_4 => (try dsimp only at hw); go_simp; try with_reducible rfl
          case' r13_4 => skip
          try simp only [Act.put, List.setIfInBounds_toArray, List.set_cons_zero, List.set_cons_succ]
          refine wpAnyH_takeL (i := 5) (v := ?v13_5) rfl (by kernel_rfl) (by kernel_rfl) (by kernel_rfl) (fun _ _ _ h => h) (by rfl) (by assumption) (fun w hw => ?h13_5) ?r13_5
          case h13_5 => (try dsimp only at hw); go_simp; try with_reducible rfl
          case' r13_5 => skip
          try simp only [Act.put, List.setIfInBounds_toArray, List.set_cons_zero, List.set_cons_succ]
          refine wpAnyH_takeL (i := 6) (v := ?v13_6) rfl (by kernel_rfl) (by kernel_rfl) (by kernel_rfl) (fun _ _ _ h => h) (by rfl) (by assumption) (fun w hw => ?h13_6) ?r13_6
          case h13_6 => (try dsimp only at hw); go_simp; try with_reducible rfl
          case' r13_6 => skip
          try simp only [Act.put, List.setIfInBounds_toArray, List.set_cons_zero, List.set_cons_succ]
          refine wpAnyH_takeL (i := 7) (v := ?v13_7) rfl (by kernel_rfl) (by kernel_rfl) (by kernel_rfl) (fun _ _ _ h => h) (by rfl) (by assumption) (fun w hw => ?h13_7) ?r13_7
          case h13_7 => (try dsimp only at hw); go_simp; try with_reducible rfl
          case' r13_7 => skip
          try simp only [Act.put, List.setIfInBounds_toArray, List.set_cons_zero, List.set_cons_succ]
          refine wpAnyH_takeL (i := 8) (v := ?v13_8) rfl (by kernel_rfl) (by kernel_rfl) (by kernel_rfl) (fun _ _ _ h => h) (by rfl) (by assumption) (fun w hw => ?h13_8) ?r13_8
          case h13_8 => (try dsimp only at hw); go_simp; try with_reducible rfl
          case' r13_8 => skip
          try simp only [Act.put, List.setIfInBounds_toArray, List.set_cons_zero, List.set_cons_succ]
          refine wpAnyH_takeL (i := 9) (v := ?v13_9) rfl (by kernel_rfl) (by kernel_rfl) (by kernel_rfl) (fun _ _ _ h => h) (by rfl) (by assumption) (fun w hw => ?h13_9) ?r13_9
          case h13_9 => (try dsimp only at hw); go_simp; try with_reducible rfl
          case' r13_9 => skip
          try simp only [Act.put, List.setIfInBounds_toArray, List.set_cons_zero, List.set_cons_succ]
          refine wpAnyH_takeL (i := 10) (v := ?v13_10) rfl (by kernel_rfl) (by kernel_rfl) (by kernel_rfl) (fun _ _ _ h => h) (by rfl) (by assumption) (fun w hw => ?h13_10) ?r13_10
          case h13_10 => (try dsimp only at hw); go_simp; try with_reducible rfl
          case' r13_10 => skip
          try simp only [Act.put, List.setIfInBounds_toArray, List.set_cons_zero, List.set_cons_succ]
          refine wpAnyH_done (by kernel_rfl) ?_ _
          go_wp2_with fail
          go_ret3
          exact RBlkP.none HRB.out (Ext.drew hE14)
end Go.Proofs.Ytibbbdifkopebaa
