/-
  The walk of two.taken.
-/
import Derived.Test.YtibbbdifkopebaaChunkI
import Derived.Test.YtibbbdifkopebaaRound
import Derived.Test.YtibbbdifkopebaaAll
import Derived.StillTailTactics
set_option linter.all false
namespace Go.Proofs.Ytibbbdifkopebaa
open Go.RowKit Go.Mv Go.Shelf
attribute [local go_sem] Oper.semAt_some
set_option maxRecDepth 100000

theorem info_ent : (Try.prog.info? 45).map (fun i => (i.zero, i.size, i.bytes)) = some (some (.agg #[.int .i64 0, .int .i64 0, .int .i64 0]), 3, 24) := by kernel_rfl

/-- A block's entries, and how many bytes they have. -/
def takenR (bs : List UInt8) : List Ent × Nat := match takenS bs with | none => ([], 0) | some x => (x.1, bs.length - x.2.length)
def TakenP (w : World) (r : List Ent × Nat) (e : Ending) (w' : World) : Prop := ∃ v, e = .returned (.tuple #[v, .int .i64 r.2]) ∧ w'.ownsRow w.heap.size 45 3 v r.1.length (entCells r.1) ∧ Ext w w'

theorem is3 {w : World} {b off a c d : _} (h : Is w (.slice (some ⟨b, off, none⟩) 3 3) [a, c, d]) : w.cell? ⟨b, off, none⟩ = some (.int .i64 a) ∧ w.cell? ⟨b, off + 1, none⟩ = some (.int .i64 c) ∧ w.cell? ⟨b, off + 2, none⟩ = some (.int .i64 d) := by
  obtain ⟨_, A, c', e, _, _, h3⟩ := h
  cases e
  obtain ⟨b', off', e', hc⟩ := h3 (by simp)
  cases e'
  exact ⟨hc 0 _ rfl, hc 1 _ rfl, hc 2 _ rfl⟩
theorem is3_mk {w : World} {b off : Nat} {a c d : Int} (h0 : w.cell? ⟨b, off, none⟩ = some (.int .i64 a)) (h1 : w.cell? ⟨b, off + 1, none⟩ = some (.int .i64 c)) (h2 : w.cell? ⟨b, off + 2, none⟩ = some (.int .i64 d)) : Is w (.slice (some ⟨b, off, none⟩) 3 3) [a, c, d] := by
  refine ⟨rfl, _, 3, rfl, Nat.le_refl _, by simp [maxLen], fun _ => ⟨b, off, rfl, fun j u hu => ?_⟩⟩
  match j with
  | 0 => cases hu; exact h0
  | 1 => cases hu; exact h1
  | 2 => cases hu; exact h2
  | j + 3 => simp at hu
theorem shorts_ge (l : List Int) : l.length ≤ (shorts l).length := by
  induction l with
  | nil => exact Nat.le_refl _
  | cons n l ih =>
    have h := (short1_len n.toNat).1
    rw [show shorts (n :: l) = short1 n.toNat ++ shorts l from rfl, List.length_append, List.length_cons]
    omega
def TkI (w wo : World) (pre : List Ent) (X : World) : Prop :=
  ∃ v, Boxed X w.heap.size 23 v ∧ X.ownsRow wo.heap.size 45 3 v pre.length (entCells pre) ∧ Below w.heap.size w X ∧ (∀ p u, p.block ≠ w.heap.size → wo.cell? p = some u → X.cell? p = some u)

set_option maxHeartbeats 1000000 in
theorem taken_any (v : Value) (bs : List UInt8) (w : World) (hBs : Bs w v bs) (hl : bs.length ≤ 140737488355328) : Calls Try.prog 56 #[v] w (TakenP w (takenR bs)) := by
  obtain ⟨A, c, rfl, h1, h2⟩ := SlR.open_ hBs
  refine (callsIn_wd (ro := none) (n := 9)).1 ?_
  refine callsIn_of_wp_marks Try.func56 rfl trivial ?_ rfl
  simp only [Try.ntmps56, List.size_toArray, List.length_cons, List.length_nil, Nat.reduceAdd, Nat.reduceSub, Array.replicate_succ, Array.replicate_zero, List.push_toArray, List.append_toArray, List.nil_append, List.cons_append]
  by_cases h0 : bs.length = 0
  · have hb : bs = [] := List.eq_nil_of_length_eq_zero h0
    subst hb
    gi_wp2
    have hcd : (w.alloc (.cells #[.slice none 0 0] 23)).cell? ⟨w.heap.size, 0, none⟩ = some (.slice none 0 0) := (Boxed.new w _ _).cell
    refine ret_none (.tuple #[.slice none 0 0, .int .i64 0]) (by simp [results, Try.results56, go_sem, hcd]) ?_
    exact ⟨_, rfl, World.ownsRow_nil _ _ _ _, (Ext.alloc (Ext.refl _) _)⟩
  obtain ⟨_, b, off, rfl, hc⟩ := Bs.at_ hBs (by omega)
  have hc0 : w.cell? ⟨b, off, none⟩ = some (.int .u8 (bs[0].toNat : Int)) := hc 0 (by omega)
  obtain ⟨x, l, rfl⟩ : ∃ x l, bs = x :: l := by cases bs with | nil => exact absurd rfl h0 | cons x l => exact ⟨x, l, rfl⟩
  simp only [List.getElem_cons_zero] at hc0
  have hblt : b < w.heap.size := World.block_lt_of_cell? w _ hc0
  have HBs := Lib.hid hBs
  have e0 : ((l.length : Int) + 1 == 0) = false := by simp; omega
  clear hc hBs h0
  simp only [List.length_cons] at *
  have hx := x.toNat_lt
  by_cases hx0 : x.toNat = 0 ∨ 4 < x.toNat
  · have ht : takenR (x :: l) = ([], 0) := by unfold takenR; rw [takenS, if_pos hx0]
    have Ht := Lib.hid ht
    clear ht
    gi_wp2
    all_goals
      have hcd : (w.alloc (.cells #[.slice none 0 0] 23)).cell? ⟨w.heap.size, 0, none⟩ = some (.slice none 0 0) := (Boxed.new w _ _).cell
      refine ret_none (.tuple #[.slice none 0 0, .int .i64 0]) (by simp [results, Try.results56, go_sem, hcd]) ?_
      rw [Ht.out]
      exact ⟨_, rfl, World.ownsRow_nil _ _ _ _, (Ext.alloc (Ext.refl _) _)⟩
  · have hx1 : 0 < x.toNat := by omega
    have hx4 : x.toNat ≤ 4 := by omega
    have e1 : ((x.toNat : Int) == 0) = false := by simp; omega
    have hBs' := HBs.out
    have HT : Hid (∀ (W : World) (u : Value), Bs W u l → Calls Try.prog 72 #[u, .int .i64 (3 * (x.toNat : Int))] W (TakesP W (takesGo (3 * x.toNat) [] l))) := by
      intro W u hu
      have := Takes_any u l (3 * x.toNat) (by omega) W hu (by omega)
      rwa [show ((3 * x.toNat : Nat) : Int) = 3 * (x.toNat : Int) from by omega] at this
    have HTR : Hid (takenR (x :: l) = if (takesGo (3 * x.toNat) [] l).1 = 0 ∧ allOk (trip (takesGo (3 * x.toNat) [] l).2.1) = true then (trip (takesGo (3 * x.toNat) [] l).2.1, l.length + 1 - (takesGo (3 * x.toNat) [] l).2.2.length) else ([], 0)) := by
      show _ = _
      unfold takenR
      rw [takenS, if_neg hx0]
      by_cases h : (takesGo (3 * x.toNat) [] l).1 = 0 ∧ allOk (trip (takesGo (3 * x.toNat) [] l).2.1) = true
      · rw [if_pos h, if_pos h]; rfl
      · rw [if_neg h, if_neg h]
    have HOK := Lib.hid (takesGo_ok (3 * x.toNat) [] l)
    generalize takesGo (3 * x.toNat) [] l = tk at *
    obtain ⟨er, li, r⟩ := tk
    dsimp only at *
    have hbx : Boxed (w.alloc (.cells #[.slice none 0 0] 23)) w.heap.size 23 (.slice none 0 0) := Boxed.new w _ _
    have hE0 : Ext w (w.alloc (.cells #[.slice none 0 0] 23)).drew := Ext.drew (Ext.alloc (Ext.refl _) _)
    clear hx0
    gi_wp2
    have hcut : ∀ W : World, Ext w W → Bs W (.slice (some ⟨b, off + 1, none⟩) l.length (c - 1)) l := by
      intro W hE
      have h := Bs.cut (hBs'.ext hE) 1 (by simp) rfl
      simpa using h
    have Hcut := Lib.hid hcut
    clear hcut
    have hw1 : IntKind.i64.wrap (x.toNat : Int) = (x.toNat : Int) := IntWalk.i64_in _ (by omega)
    have hw2 : IntKind.i64.wrap (3 * (x.toNat : Int)) = 3 * (x.toNat : Int) := IntWalk.i64_in _ (by omega)
    have hb1 : (1 : Int) ≤ (l.length : Int) + 1 := by omega
    have hb2 : (1 : Int) ≤ (c : Int) := by omega
    have hb3 : (0 : Int) ≤ (l.length : Int) := by omega
    have hb4 : (0 : Int) < (l.length : Int) + 1 := by omega
    by_cases hc1 : c = 1
    · obtain rfl : l = [] := List.eq_nil_of_length_eq_zero (by omega)
      have her : er ≠ 0 := by
        rintro rfl
        obtain ⟨l', _, h4, _, h5⟩ := HOK.out li r rfl
        have h6 := shorts_ge l'
        have h7 := congrArg List.length h5
        simp at h7
        omega
      have e6 : (er != 0) = true := by simpa using her
      have Her := Lib.hid her
      clear her
      subst hc1
      refine wpIn_region_none (by kernel_rfl) ?_
      refine wpAnyIn_takeF (i := 0) (v := ?v1) rfl rfl (by kernel_rfl) (by kernel_rfl) (by kernel_rfl) (fun _ _ _ h => h) (yieldsF rfl (fun w => ?h1) (fun w => rfl)) ?r1
      case h1 => go_simp; try with_reducible rfl
      case' r1 => skip
      refine wpAnyIn_takeF (i := 1) (v := ?v2) rfl rfl (by kernel_rfl) (by kernel_rfl) (by kernel_rfl) (fun _ _ _ h => h) (yieldsF rfl (fun w => ?h2) (fun w => rfl)) ?r2
      case h2 => go_simp; try with_reducible rfl
      case' r2 => skip
      refine wpAnyIn_takeF (i := 2) (v := ?v3) rfl rfl (by kernel_rfl) (by kernel_rfl) (by kernel_rfl) (fun _ _ _ h => h) (yieldsF rfl (fun w => ?h3) (fun w => rfl)) ?r3
      case h3 => go_simp; try with_reducible rfl
      case' r3 => skip
      refine wpAnyIn_takeF (i := 3) (v := ?v4) rfl rfl (by kernel_rfl) (by kernel_rfl) (by kernel_rfl) (fun _ _ _ h => h) (yieldsF rfl (fun w => ?h4) (fun w => rfl)) ?r4
      case h4 => go_simp; try with_reducible rfl
      case' r4 => skip
      refine wpAnyIn_run (i := 4) (v := ?v5) (w' := ?w5) rfl (by kernel_rfl) rfl rfl rfl ?h5 ?r5
      case h5 => go_simp; try (first | with_reducible rfl | (refine ⟨?_, ?_⟩ <;> with_reducible rfl))
      case' r5 => skip
      refine wpAnyIn_run (i := 5) (v := ?v6) (w' := ?w6) rfl (by kernel_rfl) rfl rfl rfl ?h6 ?r6
      case h6 => go_simp; try (first | with_reducible rfl | (refine ⟨?_, ?_⟩ <;> with_reducible rfl))
      case' r6 => skip
      refine wpAnyIn_run (i := 6) (v := ?v7) (w' := ?w7) rfl (by kernel_rfl) rfl rfl rfl ?h7 ?r7
      case h7 => go_simp; try (first | with_reducible rfl | (refine ⟨?_, ?_⟩ <;> with_reducible rfl))
      case' r7 => skip
      refine wpAnyIn_call (i := 7) (f := 72) (args := ?b8) (w' := ?w8) (by kernel_rfl) rfl rfl ?h8 ?r8
      case h8 => go_simp; try (first | with_reducible rfl | (refine ⟨?_, ?_⟩ <;> with_reducible rfl))
      case' r8 => skip
      have hem : Bs (w.alloc (.cells #[.slice none 0 0] 23)).drew (.slice (some ⟨b, off, none⟩) 0 0) [] := SlR.empty _ 1 (by simp)
      have hcc := HT.out ((w.alloc (.cells #[.slice none 0 0] 23)).drew) _ hem
      refine hcc.mono ?_
      rintro e w1 ⟨vl, vr, rfl, ho1, ho2, hE1⟩
      refine ⟨_, rfl, ?_⟩
      refine wpAnyIn_run (i := 8) (v := ?v9) (w' := ?w9) rfl (by kernel_rfl) rfl rfl rfl ?h9 ?r9
      case h9 => go_simp; try (first | with_reducible rfl | (refine ⟨?_, ?_⟩ <;> with_reducible rfl))
      case' r9 => skip
      refine wpAnyIn_takeF (i := 9) (v := ?v10) rfl rfl (by kernel_rfl) (by kernel_rfl) (by kernel_rfl) (fun _ _ _ h => h) (yieldsF rfl (fun w => ?h10) (fun w => rfl)) ?r10
      case h10 => go_simp; try with_reducible rfl
      case' r10 => skip
      refine wpAnyIn_takeF (i := 10) (v := ?v11) rfl rfl (by kernel_rfl) (by kernel_rfl) (by kernel_rfl) (fun _ _ _ h => h) (yieldsF rfl (fun w => ?h11) (fun w => rfl)) ?r11
      case h11 => go_simp; try with_reducible rfl
      case' r11 => skip
      refine wpAnyIn_takeF (i := 11) (v := ?v12) rfl rfl (by kernel_rfl) (by kernel_rfl) (by kernel_rfl) (fun _ _ _ h => h) (yieldsF rfl (fun w => ?h12) (fun w => rfl)) ?r12
      case h12 => go_simp; try with_reducible rfl
      case' r12 => skip
      refine wpAnyIn_takeF (i := 12) (v := ?v13) rfl rfl (by kernel_rfl) (by kernel_rfl) (by kernel_rfl) (fun _ _ _ h => h) (yieldsF rfl (fun w => ?h13) (fun w => rfl)) ?r13
      case h13 => go_simp; try with_reducible rfl
      case' r13 => skip
      refine wpAnyIn_takeF (i := 13) (v := ?v14) rfl rfl (by kernel_rfl) (by kernel_rfl) (by kernel_rfl) (fun _ _ _ h => h) (yieldsF rfl (fun w => ?h14) (fun w => rfl)) ?r14
      case h14 => go_simp; try with_reducible rfl
      case' r14 => skip
      refine wpAnyIn_takeF (i := 14) (v := ?v15) rfl rfl (by kernel_rfl) (by kernel_rfl) (by kernel_rfl) (fun _ _ _ h => h) (yieldsF rfl (fun w => ?h15) (fun w => rfl)) ?r15
      case h15 => go_simp; try with_reducible rfl
      case' r15 => skip
      refine wpAnyIn_done (by kernel_rfl) (noP_normal ?_) _
      have hb1 : Boxed w1 w.heap.size 23 (.slice none 0 0) := Boxed.kept (W := (w.alloc (.cells #[.slice none 0 0] 23)).drew) (row := none) hbx (Ext.grown hE1 none) (by simp)
      have hE1' : Ext w w1 := Ext.trans hE0 hE1
      have cb := hb1.cell
      have fb := hb1.frozen
      clear hcc hw1 hw2 hb2 hb3 hb4 hbx
      gi_wp2
      have hcd : (w1.setCell ⟨w.heap.size, 0, none⟩ (.slice none 0 0)).cell? ⟨w.heap.size, 0, none⟩ = some (.slice none 0 0) := (hb1.set _).cell
      refine ret_none (.tuple #[.slice none 0 0, .int .i64 0]) (by simp [results, Try.results56, go_sem, hcd]) ?_
      rw [HTR.out, if_neg (fun h => Her.out h.1)]
      exact ⟨_, rfl, World.ownsRow_nil _ _ _ _, Below.setCell (p := ⟨w.heap.size, 0, none⟩) hE1' (Nat.le_refl _) _⟩
    · have hc2 : 1 < c := by omega
      refine wpIn_region_none (by kernel_rfl) ?_
      refine wpAnyIn_takeF (i := 0) (v := ?v17) rfl rfl (by kernel_rfl) (by kernel_rfl) (by kernel_rfl) (fun _ _ _ h => h) (yieldsF rfl (fun w => ?h17) (fun w => rfl)) ?r17
      case h17 => go_simp; try with_reducible rfl
      case' r17 => skip
      refine wpAnyIn_takeF (i := 1) (v := ?v18) rfl rfl (by kernel_rfl) (by kernel_rfl) (by kernel_rfl) (fun _ _ _ h => h) (yieldsF rfl (fun w => ?h18) (fun w => rfl)) ?r18
      case h18 => go_simp; try with_reducible rfl
      case' r18 => skip
      refine wpAnyIn_takeF (i := 2) (v := ?v19) rfl rfl (by kernel_rfl) (by kernel_rfl) (by kernel_rfl) (fun _ _ _ h => h) (yieldsF rfl (fun w => ?h19) (fun w => rfl)) ?r19
      case h19 => go_simp; try with_reducible rfl
      case' r19 => skip
      refine wpAnyIn_takeF (i := 3) (v := ?v20) rfl rfl (by kernel_rfl) (by kernel_rfl) (by kernel_rfl) (fun _ _ _ h => h) (yieldsF rfl (fun w => ?h20) (fun w => rfl)) ?r20
      case h20 => go_simp; try with_reducible rfl
      case' r20 => skip
      refine wpAnyIn_run (i := 4) (v := ?v21) (w' := ?w21) rfl (by kernel_rfl) rfl rfl rfl ?h21 ?r21
      case h21 => go_simp; try (first | with_reducible rfl | (refine ⟨?_, ?_⟩ <;> with_reducible rfl))
      case' r21 => skip
      refine wpAnyIn_run (i := 5) (v := ?v22) (w' := ?w22) rfl (by kernel_rfl) rfl rfl rfl ?h22 ?r22
      case h22 => go_simp; try (first | with_reducible rfl | (refine ⟨?_, ?_⟩ <;> with_reducible rfl))
      case' r22 => skip
      refine wpAnyIn_run (i := 6) (v := ?v23) (w' := ?w23) rfl (by kernel_rfl) rfl rfl rfl ?h23 ?r23
      case h23 => go_simp; try (first | with_reducible rfl | (refine ⟨?_, ?_⟩ <;> with_reducible rfl))
      case' r23 => skip
      refine wpAnyIn_call (i := 7) (f := 72) (args := ?b24) (w' := ?w24) (by kernel_rfl) rfl rfl ?h24 ?r24
      case h24 => go_simp; try (first | with_reducible rfl | (refine ⟨?_, ?_⟩ <;> with_reducible rfl))
      case' r24 => skip
      have hcc := HT.out ((w.alloc (.cells #[.slice none 0 0] 23)).drew) _ (Hcut.out _ hE0)
      refine hcc.mono ?_
      rintro e w1 ⟨vl, vr, rfl, ho1, ho2, hE1⟩
      refine ⟨_, rfl, ?_⟩
      refine wpAnyIn_run (i := 8) (v := ?v25) (w' := ?w25) rfl (by kernel_rfl) rfl rfl rfl ?h25 ?r25
      case h25 => go_simp; try (first | with_reducible rfl | (refine ⟨?_, ?_⟩ <;> with_reducible rfl))
      case' r25 => skip
      refine wpAnyIn_takeF (i := 9) (v := ?v26) rfl rfl (by kernel_rfl) (by kernel_rfl) (by kernel_rfl) (fun _ _ _ h => h) (yieldsF rfl (fun w => ?h26) (fun w => rfl)) ?r26
      case h26 => go_simp; try with_reducible rfl
      case' r26 => skip
      refine wpAnyIn_takeF (i := 10) (v := ?v27) rfl rfl (by kernel_rfl) (by kernel_rfl) (by kernel_rfl) (fun _ _ _ h => h) (yieldsF rfl (fun w => ?h27) (fun w => rfl)) ?r27
      case h27 => go_simp; try with_reducible rfl
      case' r27 => skip
      refine wpAnyIn_takeF (i := 11) (v := ?v28) rfl rfl (by kernel_rfl) (by kernel_rfl) (by kernel_rfl) (fun _ _ _ h => h) (yieldsF rfl (fun w => ?h28) (fun w => rfl)) ?r28
      case h28 => go_simp; try with_reducible rfl
      case' r28 => skip
      refine wpAnyIn_takeF (i := 12) (v := ?v29) rfl rfl (by kernel_rfl) (by kernel_rfl) (by kernel_rfl) (fun _ _ _ h => h) (yieldsF rfl (fun w => ?h29) (fun w => rfl)) ?r29
      case h29 => go_simp; try with_reducible rfl
      case' r29 => skip
      refine wpAnyIn_takeF (i := 13) (v := ?v30) rfl rfl (by kernel_rfl) (by kernel_rfl) (by kernel_rfl) (fun _ _ _ h => h) (yieldsF rfl (fun w => ?h30) (fun w => rfl)) ?r30
      case h30 => go_simp; try with_reducible rfl
      case' r30 => skip
      refine wpAnyIn_takeF (i := 14) (v := ?v31) rfl rfl (by kernel_rfl) (by kernel_rfl) (by kernel_rfl) (fun _ _ _ h => h) (yieldsF rfl (fun w => ?h31) (fun w => rfl)) ?r31
      case h31 => go_simp; try with_reducible rfl
      case' r31 => skip
      refine wpAnyIn_done (by kernel_rfl) (noP_normal ?_) _
      dsimp only at ho1 ho2
      have hb1 : Boxed w1 w.heap.size 23 (.slice none 0 0) := Boxed.kept (W := (w.alloc (.cells #[.slice none 0 0] 23)).drew) (row := none) hbx (Ext.grown hE1 none) (by simp)
      have hE1' : Ext w w1 := Ext.trans hE0 hE1
      obtain ⟨Al, cl, rfl, _, _⟩ := SlR.open_ (SlR.of_own ho1)
      obtain ⟨Ar, cr, rfl, _, _⟩ := SlR.open_ (SlR.of_own ho2)
      have cb := hb1.cell
      have fb := hb1.frozen
      have hNlt : w.heap.size < w1.heap.size := World.block_lt_of_cell? w1 _ cb
      clear hcc hw1 hw2 hb2 hb3 hb4 hbx
      by_cases her : er = 0
      · subst her
        have hIs1 : Is w1 (.slice Al li.length cl) li := SlR.of_own ho1
        obtain ⟨l', hl', h4, _, _⟩ := HOK.out li r rfl
        rw [List.nil_append] at hl'
        subst hl'
        obtain ⟨h7, h8⟩ := ints_trip x.toNat li h4
        obtain ⟨es, hes⟩ : ∃ es, trip li = es := ⟨_, rfl⟩
        rw [hes] at HTR h7 h8
        have hLr : r.length ≤ l.length := by rename_i hq; rw [hq, List.length_append]; omega
        rename_i hq1 hq2
        subst h7
        have HLi := Lib.hid (entInts_len es)
        have H8 := Lib.hid h8
        have hes4 : es.length ≤ 4 := by omega
        clear HOK h4 hes HT Hcut hq1 hq2 h8
        gi_wp2_with (refine ⟨trivial, ?_⟩; gi_at_call 73; refine (callsIn_wd.2 (ChunkI_any _ _ _ _)).mono ?_; rintro e w' ⟨rfl, rfl⟩)
        have q1 : Boxed ((w1.alloc (.cells #[.slice Al (entInts es).length cl] 68)).alloc (.cells #[.int .i64 3] 3)) w1.heap.size 68 (.slice Al (entInts es).length cl) := (Boxed.new w1 _ _).alloc _
        have q2 : Boxed ((w1.alloc (.cells #[.slice Al (entInts es).length cl] 68)).alloc (.cells #[.int .i64 3] 3)) (w1.heap.size + 1) 3 (.int .i64 3) := by
          have := Boxed.new (w1.alloc (.cells #[.slice Al (entInts es).length cl] 68)) 3 (.int .i64 3)
          rwa [World.size_alloc] at this
        have hE2 : Ext w1 ((w1.alloc (.cells #[.slice Al (entInts es).length cl] 68)).alloc (.cells #[.int .i64 3] 3)) := Ext.alloc (Ext.alloc (Ext.refl _) _) _
        generalize (w1.alloc (.cells #[.slice Al (entInts es).length cl] 68)).alloc (.cells #[.int .i64 3] 3) = w2 at *
        have hb2 : Boxed w2 w.heap.size 23 (.slice none 0 0) := hb1.kept (row := none) (Ext.grown hE2 none) (by simp)
        have hIs2 : Is w2 (.slice Al (entInts es).length cl) (entInts es) := hIs1.ext hE2
        have hE2' : Ext w w2 := Ext.trans hE1' hE2
        have h0 : TkI w w2 [] w2 := ⟨_, hb2, World.ownsRow_nil _ _ _ _, hE2', fun _ _ _ h => h⟩
        have hN2 : w.heap.size < w2.heap.size := World.block_lt_of_cell? w2 _ hb2.cell
        clear cb fb
        refine frame_name (fun T hT => ?_)
        refine wp_range (a := ⟨T, []⟩) (by subst hT; rfl) (enters_of Try.func86 (by kernel_rfl) rfl)
          (fun W1 hb hs => chunk3_seq w2 W1 _ es hIs2 (by omega) w1.heap.size (w1.heap.size + 1) (q1.kept (row := none) (Ext.grown hb none) (by simp)) (q2.kept (row := none) (Ext.grown hb none) (by simp)))
          (fun k o h => h.elim) (fun k o h => by rcases h with h | h <;> exact isCells_of_ty h.2) (fun x av W h => by obtain ⟨_, _, rfl, _⟩ := h; rfl)
          (TkI w w2) (fun _ _ _ => False) ?hI (fun _ _ _ _ h _ => h) h0
          (fun e a' W => ∃ b off, Is W (.slice (some ⟨b, off, none⟩) 3 3) [e.t, e.k, e.v] ∧ b ≠ w.heap.size ∧ a' = ⟨(T.setIfInBounds 39 (.slice (some ⟨b, off, none⟩) 3 3)).setIfInBounds 7 (.slice (some ⟨b, off, none⟩) 3 3), []⟩)
          ?hAx ?assign ?body ?done (fun _ _ _ _ _ _ h _ => h.elim)
        case hI =>
          rintro s X Y ⟨v, hv, hr, hB, hH⟩ hm
          refine ⟨v, hm.boxed hv ?_, hm.ownsRow hr ?_, hm.belowOf hB ?_ (Nat.le_refl _), fun p u hp hc => hm.cell (hH p u hp hc) ?_⟩
          · rintro (h | h)
            · exact h
            · cases h.2
          · rintro k cur _ (h | h)
            · exact h
            · cases h.2
          · rintro k o hk (h | h)
            · exact h
            · have := h.1
              omega
          · rintro o _ hc (h | h)
            · exact h
            · rw [hc] at h; cases h.2
        case hAx =>
          rintro e a' X Y ⟨b, off, hu, hne, rfl⟩ hm
          refine ⟨b, off, SlR.keep hu (fun q t hq => hm.cell hq (fun o _ hc => ?_)), hne, rfl⟩
          rintro (h | h)
          · exact h
          · rw [hc] at h; cases h.2
        case assign =>
          rintro l' pre e post W av K' hx hi hsz ⟨b', off', rfl, hu⟩ hK
          obtain ⟨v, hv, hrow, hB, hH⟩ := hi
          obtain ⟨hu0, hu1, hu2⟩ := is3 hu
          have hbne : b' ≠ w.heap.size := by
            rintro rfl
            have := boxed_only hb2 hu1
            omega
          have huW : Is W (.slice (some ⟨b', off', none⟩) 3 3) [e.t, e.k, e.v] := is3_mk (hH _ _ hbne hu0) (hH _ _ hbne hu1) (hH _ _ hbne hu2)
          have Hi : Hid (TkI w w2 pre W) := ⟨v, hv, hrow, hB, hH⟩
          have Hx := Lib.hid hx
          clear hx hu0 hu1 hu2 hH
          subst hT
          gi_wp2
          exact hK _ _ Kept.refl Hi.out ⟨b', off', huW, hbne, rfl⟩
        case body =>
          rintro l' pre e post a' W hx hl' hr ⟨v, hv, hrow, hB, hH⟩ hsz ⟨b', off', hu, hbne, rfl⟩
          have Hx := Lib.hid hx
          have hpl : pre.length ≤ 3 := by have := congrArg List.length hx; simp at this; omega
          obtain ⟨Av, cv, rfl, _, _⟩ := SlR.open_ (SlR.of_own hrow)
          obtain ⟨g0, g1, g2⟩ := is3 hu
          have gN := hv.cell
          have hrow' : W.drew.ownsRow w2.heap.size 45 3 (.slice Av pre.length cv) pre.length (entCells pre) := hrow
          have hv' : Boxed W.drew w.heap.size 23 (.slice Av pre.length cv) := hv
          obtain ⟨i0, hi, hz0, hz1, hz2⟩ := info_parts info_ent
          have hnew : SlR (W.drew.alloc (.cells #[.int .i64 e.t, .int .i64 e.k, .int .i64 e.v] 45)) 3 (.slice (some ⟨W.heap.size, 0, none⟩) 1 1) 1 (entCells [e]) := by
            refine ⟨rfl, _, 1, rfl, Nat.le_refl _, by simp [maxLen], fun _ => ⟨W.heap.size, 0, rfl, fun j u hu => ?_⟩⟩
            have hh := heap_alloc_new W.drew (.cells #[.int .i64 e.t, .int .i64 e.k, .int .i64 e.v] 45)
            have hh' : (W.drew.alloc (.cells #[.int .i64 e.t, .int .i64 e.k, .int .i64 e.v] 45)).heap[W.heap.size]? = some (.cells #[.int .i64 e.t, .int .i64 e.k, .int .i64 e.v] 45) := hh
            rw [Nat.zero_add]
            simp only [World.cell?, hh']
            have : #[Value.int .i64 e.t, .int .i64 e.k, .int .i64 e.v][j]? = some u := by simpa [entCells, Ent.cells] using hu
            simpa using this
          obtain ⟨va, wa, hrun, hown, hgrow⟩ := run_append_sl (P := Try.prog) (W.drew.alloc (.cells #[.int .i64 e.t, .int .i64 e.k, .int .i64 e.v] 45)) w2.heap.size 23 23 45 i0 _ 3 24 Try.underlying23 hi hz0 hz1 hz2 rfl (by decide)
            (.slice Av pre.length cv) pre.length (entCells pre) (hrow'.alloc _) _ 1 (entCells [e]) hnew (by intro u hu; simp [entCells, Ent.cells] at hu; rcases hu with rfl | rfl | rfl <;> rfl) (by unfold maxLen; omega) (by omega) (by simp; omega)
          obtain ⟨Aa, ca, rfl, _, _⟩ := SlR.open_ (SlR.of_own hown)
          have HH := Lib.hid hH
          have Hrun := Lib.hid hrun
          have Hown := Lib.hid hown
          have Hgrow := Lib.hid hgrow
          have hva : Boxed wa w.heap.size 23 (.slice Av pre.length cv) := (hv'.alloc _).kept hgrow (hv'.not_row (e := 45) (by decide) hrow')
          have cva := hva.cell
          have fva := hva.frozen
          clear hx hH hrun hown hgrow hnew hrow hv
          subst hT
          gi_wp2
          refine wpIn_region_round (by kernel_rfl) (by kernel_rfl) ?_
          refine wpAnyIn_takeF (i := 1) (v := ?v33) rfl rfl (by kernel_rfl) (by kernel_rfl) (by kernel_rfl) (fun _ _ _ h => h) (yieldsF rfl (fun w => ?h33) (fun w => rfl)) ?r33
          case h33 => go_simp; try with_reducible rfl
          case' r33 => skip
          refine wpAnyIn_takeF (i := 2) (v := ?v34) rfl rfl (by kernel_rfl) (by kernel_rfl) (by kernel_rfl) (fun _ _ _ h => h) (yieldsF rfl (fun w => ?h34) (fun w => rfl)) ?r34
          case h34 => go_simp; try with_reducible rfl
          case' r34 => skip
          refine wpAnyIn_takeF (i := 4) (v := ?v35) rfl rfl (by kernel_rfl) (by kernel_rfl) (by kernel_rfl) (fun _ _ _ h => h) (yieldsF rfl (fun w => ?h35) (fun w => rfl)) ?r35
          case h35 => go_simp; try with_reducible rfl
          case' r35 => skip
          refine wpAnyIn_takeF (i := 5) (v := ?v36) rfl rfl (by kernel_rfl) (by kernel_rfl) (by kernel_rfl) (fun _ _ _ h => h) (yieldsF rfl (fun w => ?h36) (fun w => rfl)) ?r36
          case h36 => go_simp; try with_reducible rfl
          case' r36 => skip
          refine wpAnyIn_takeF (i := 7) (v := ?v37) rfl rfl (by kernel_rfl) (by kernel_rfl) (by kernel_rfl) (fun _ _ _ h => h) (yieldsF rfl (fun w => ?h37) (fun w => rfl)) ?r37
          case h37 => go_simp; try with_reducible rfl
          case' r37 => skip
          refine wpAnyIn_takeF (i := 8) (v := ?v38) rfl rfl (by kernel_rfl) (by kernel_rfl) (by kernel_rfl) (fun _ _ _ h => h) (yieldsF rfl (fun w => ?h38) (fun w => rfl)) ?r38
          case h38 => go_simp; try with_reducible rfl
          case' r38 => skip
          refine wpAnyIn_takeC (Read4 (⟨b', off', none⟩, .int .i64 e.t) (⟨b', off' + 1, none⟩, .int .i64 e.k) (⟨b', off' + 2, none⟩, .int .i64 e.v) (⟨w.heap.size, 0, none⟩, .slice Av pre.length cv)) [10, 11, 12, 13] (i := 3) (v := ?v39) rfl rfl (by kernel_rfl) (by kernel_rfl) (by kernel_rfl) (by kernel_rfl) (by kernel_rfl) (fun _ _ _ h => h) (fun w o hw => hw.alloc o) (⟨g0, g1, g2, gN⟩) (yieldsC rfl (fun w hw => ?h39) (fun w => rfl)) ?r39
          case h39 => obtain ⟨g0, g1, g2, g3⟩ := hw; dsimp only at g0 g1 g2 g3; go_simp; try with_reducible rfl
          case' r39 => skip
          refine wpAnyIn_takeC (Read4 (⟨b', off', none⟩, .int .i64 e.t) (⟨b', off' + 1, none⟩, .int .i64 e.k) (⟨b', off' + 2, none⟩, .int .i64 e.v) (⟨w.heap.size, 0, none⟩, .slice Av pre.length cv)) [10, 11, 12, 13] (i := 6) (v := ?v40) rfl rfl (by kernel_rfl) (by kernel_rfl) (by kernel_rfl) (by kernel_rfl) (by kernel_rfl) (fun _ _ _ h => h) (fun w o hw => hw.alloc o) (⟨g0, g1, g2, gN⟩) (yieldsC rfl (fun w hw => ?h40) (fun w => rfl)) ?r40
          case h40 => obtain ⟨g0, g1, g2, g3⟩ := hw; dsimp only at g0 g1 g2 g3; go_simp; try with_reducible rfl
          case' r40 => skip
          refine wpAnyIn_takeC (Read4 (⟨b', off', none⟩, .int .i64 e.t) (⟨b', off' + 1, none⟩, .int .i64 e.k) (⟨b', off' + 2, none⟩, .int .i64 e.v) (⟨w.heap.size, 0, none⟩, .slice Av pre.length cv)) [10, 11, 12, 13] (i := 9) (v := ?v41) rfl rfl (by kernel_rfl) (by kernel_rfl) (by kernel_rfl) (by kernel_rfl) (by kernel_rfl) (fun _ _ _ h => h) (fun w o hw => hw.alloc o) (⟨g0, g1, g2, gN⟩) (yieldsC rfl (fun w hw => ?h41) (fun w => rfl)) ?r41
          case h41 => obtain ⟨g0, g1, g2, g3⟩ := hw; dsimp only at g0 g1 g2 g3; go_simp; try with_reducible rfl
          case' r41 => skip
          refine wpAnyIn_takeF (i := 10) (v := ?v42) rfl rfl (by kernel_rfl) (by kernel_rfl) (by kernel_rfl) (fun _ _ _ h => h) (yieldsF rfl (fun w => ?h42) (fun w => rfl)) ?r42
          case h42 => go_simp; try with_reducible rfl
          case' r42 => skip
          refine wpAnyIn_takeC (Read4 (⟨b', off', none⟩, .int .i64 e.t) (⟨b', off' + 1, none⟩, .int .i64 e.k) (⟨b', off' + 2, none⟩, .int .i64 e.v) (⟨w.heap.size, 0, none⟩, .slice Av pre.length cv)) [12, 13] (i := 0) (v := ?v43) rfl rfl (by kernel_rfl) (by kernel_rfl) (by kernel_rfl) (by kernel_rfl) (by kernel_rfl) (fun _ _ _ h => h) (fun w o hw => hw.alloc o) (⟨g0, g1, g2, gN⟩) (yieldsC rfl (fun w hw => ?h43) (fun w => rfl)) ?r43
          case h43 => obtain ⟨g0, g1, g2, g3⟩ := hw; dsimp only at g0 g1 g2 g3; go_simp; try with_reducible rfl
          case' r43 => skip
          refine wpAnyIn_run (i := 11) (v := ?v44) (w' := ?w44) rfl (by kernel_rfl) rfl rfl rfl ?h44 ?r44
          case h44 => go_simp; try (first | with_reducible rfl | (refine ⟨?_, ?_⟩ <;> with_reducible rfl))
          case' r44 => skip
          refine wpAnyIn_run (i := 12) rfl (by kernel_rfl) rfl rfl (about_append _ _ _ rfl) (exec_append (v := .slice Av pre.length cv) (vx := .slice (some ⟨W.heap.size, 0, none⟩) 1 1) (.tmp 40) (.tmp 51) 23 rfl (by simp [Act.eval, Act.put]) (by simp [Act.eval, Act.put]) Hrun.out) ?_
          refine wpAnyIn_skip (i := 13) (w' := ?w45) rfl (by kernel_rfl) rfl rfl rfl ?h45 ?r45
          case h45 => go_simp; try (first | with_reducible rfl | (refine ⟨?_, ?_⟩ <;> with_reducible rfl))
          case' r45 => skip
          refine wpAnyIn_done (by kernel_rfl) (noP_normal ?_) _
          gi_wp2
          have hk : Kept (orOther (fun k o => (k = w1.heap.size ∧ o.ty = some 68) ∨ (k = w1.heap.size + 1 ∧ o.ty = some 3)) w2.heap.size) W.drew (wa.setCell ⟨w.heap.size, 0, none⟩ (.slice Aa (pre.length + 1) ca)) := by
            refine Kept.appended _ hv' hrow' Hgrow.out ?_ ?_
            · rintro ((⟨_, h⟩ | ⟨_, h⟩) | ⟨_, h⟩) <;> cases h
            · rintro k cur _ ((⟨_, h⟩ | ⟨_, h⟩) | ⟨_, h⟩) <;> cases h
          refine ⟨Kept.trans (Kept.refl.drew) hk, _, hva.set _, ?_, ?_, ?_⟩
          · have h := Hown.out.kept (grownBy_setCell' wa w.heap.size (.slice Aa (pre.length + 1) ca)) (.inr (hva.not_row (by decide) Hown.out).symm)
            have ec : entCells (pre ++ [e]) = entCells pre ++ entCells [e] := by simp [entCells]
            rw [ec, List.length_append]
            exact h
          · refine (((hB.drew).alloc (by have := hB.size; exact this) _).grown Hgrow.out (by have := hB.size; simp; omega) (fun k ek => ?_)).setCell (p := ⟨w.heap.size, 0, none⟩) (Nat.le_refl _) _
            have := (hrow'.lt k ek).1
            omega
          · intro p u hp hq
            have hlt := World.block_lt_of_cell? w2 p hq
            have h1 : (W.drew.alloc (.cells #[.int .i64 e.t, .int .i64 e.k, .int .i64 e.v] 45)).cell? p = some u := cell_alloc (show W.drew.cell? p = some u from HH.out p u hp hq) _
            have h2 : wa.cell? p = some u := by
              refine (World.cell?_of_block (Hgrow.out.block p.block (by simp; omega) (fun ek => ?_))).trans h1
              have := (hrow'.lt p.block ek.symm).1
              omega
            exact (World.cell?_setCell_other _ _ _ _ (fun e => hp (by rw [← e]))).trans h2
        case done =>
          rintro D W hD ⟨v, hv, hrow, hB, hH⟩ hK
          subst hT
          obtain ⟨Av, cv, rfl, _, _⟩ := SlR.open_ (SlR.of_own hrow)
          have hes : Es W (.slice Av es.length cv) es := SlR.of_own hrow
          have HB := Lib.hid (bad_any _ es W hes)
          have gN := hv.cell
          have hsz1 : ((l.length : Int) + 1 - (r.length : Int)) = ((l.length + 1 - r.length : Nat) : Int) := by omega
          have Hsz := Lib.hid hsz1
          have hDlt : D < W.heap.size := (Array.getElem?_eq_some_iff.1 hK).1
          clear hH hsz1
          cases hok : allOk es
          · rw [hok] at HB HTR
            have HTR' := HTR.out
            rw [if_neg (by simp)] at HTR'
            have HT2 := Lib.hid HTR'
            clear HTR HTR' hok
            gi_wp2_with (refine ⟨trivial, ?_⟩; gi_at_call 29; refine (callsIn_wd.2 HB.out).mono ?_; rintro e w3 ⟨rfl, hE3⟩; have hv3 := hv.kept (row := none) (Ext.grown hE3 none) (by simp); have gN3 := hv3.cell; have fN3 := hv3.frozen)
            have hK3 : w3.heap[D]? = some (.deferred (some [])) := (hE3.block D hDlt).trans hK
            have hK4 := heap_setCell_obj hK3 rfl ⟨w.heap.size, 0, none⟩ (.slice none 0 0)
            have hcd := cell_putObj (hv3.set (.slice none 0 0)).cell hK4 rfl (.deferred none)
            refine ret_mark hK4 (.tuple #[.slice none 0 0, .int .i64 0]) (by simp [results, Try.results56, go_sem, hcd]) ?_
            rw [HT2.out]
            exact ⟨_, rfl, World.ownsRow_nil _ _ _ _, below_putObj ((hB.trans (hE3.mono hB.size)).setCell (p := ⟨w.heap.size, 0, none⟩) (Nat.le_refl _) _) (by omega) _⟩
          · rw [hok] at HB HTR
            have HTR' := HTR.out
            rw [if_pos (by simp)] at HTR'
            have HT2 := Lib.hid HTR'
            clear HTR HTR' hok
            gi_wp2_with (refine ⟨trivial, ?_⟩; gi_at_call 29; refine (callsIn_wd.2 HB.out).mono ?_; rintro e w3 ⟨rfl, hE3⟩; have hv3 := hv.kept (row := none) (Ext.grown hE3 none) (by simp); have gN3 := hv3.cell; have fN3 := hv3.frozen)
            have hK3 : w3.heap[D]? = some (.deferred (some [])) := (hE3.block D hDlt).trans hK
            have hK4 := heap_setCell_obj hK3 rfl ⟨w.heap.size, 0, none⟩ (.slice Av es.length cv)
            have hcd := cell_putObj (hv3.set (.slice Av es.length cv)).cell hK4 rfl (.deferred none)
            refine ret_mark hK4 (.tuple #[.slice Av es.length cv, .int .i64 (l.length + 1 - r.length : Nat)]) (by simp [results, Try.results56, go_sem, hcd, Hsz.out]) ?_
            rw [HT2.out]
            have hrow3 := own_ext hrow hE3
            have hrow4 := hrow3.kept (grownBy_setCell' w3 w.heap.size (.slice Av es.length cv)) (.inr (hv3.not_row (by decide) hrow3).symm)
            exact ⟨_, rfl, own_base (ownsRow_putObj hrow4 (.deferred none) hK4 rfl) (by omega), below_putObj ((hB.trans (hE3.mono hB.size)).setCell (p := ⟨w.heap.size, 0, none⟩) (Nat.le_refl _) _) (by omega) _⟩
      · have e6 : (er != 0) = true := by simpa using her
        have Her := Lib.hid her
        clear her
        gi_wp2
        have hcd : (w1.setCell ⟨w.heap.size, 0, none⟩ (.slice none 0 0)).cell? ⟨w.heap.size, 0, none⟩ = some (.slice none 0 0) := (hb1.set _).cell
        refine ret_none (.tuple #[.slice none 0 0, .int .i64 0]) (by simp [results, Try.results56, go_sem, hcd]) ?_
        rw [HTR.out, if_neg (fun h => Her.out h.1)]
        exact ⟨_, rfl, World.ownsRow_nil _ _ _ _, Below.setCell (p := ⟨w.heap.size, 0, none⟩) hE1' (Nat.le_refl _) _⟩
end Go.Proofs.Ytibbbdifkopebaa
