/-
  The walk of two.taken.
  The walk of two.File.
  Plain laws over any program: a block of cells known whole.
-/
import Derived.Test.YtfjcnpigpkcfgaaGreatM10
import Derived.StillTailTactics
import Derived.Laws.Rows
set_option linter.all false
namespace Go.Proofs.YtfjcnpigpkcfgaaGreat
open Go.RowKit Go.Mv Go.Shelf
attribute [local go_sem] Oper.semAt_some
set_option maxRecDepth 100000

theorem info_ent : (Tryz.prog.info? 41).map (fun i => (i.zero, i.size, i.bytes)) = some (some (.agg #[.int .i64 0, .int .i64 0, .int .i64 0]), 3, 24) := by kernel_rfl

/-- A block's entries, and how many bytes they have. -/
def takenR (bs : List UInt8) : List Ent × Nat := match takenS bs with | none => ([], 0) | some x => (x.1, bs.length - x.2.length)
def TakenP (w : World) (r : List Ent × Nat) (e : Ending) (w' : World) : Prop := ∃ v, e = .returned (.tuple #[v, .int .i64 r.2]) ∧ w'.ownsRow w.heap.size 41 3 v r.1.length (entCells r.1) ∧ Ext w w'

theorem is3 {w : World} {b off a c d : _} (h : Is w (.slice (some ⟨b, off, none⟩) 3 3) [a, c, d]) : w.cell? ⟨b, off, none⟩ = some (.int .i64 a) ∧ w.cell? ⟨b, off + 1, none⟩ = some (.int .i64 c) ∧ w.cell? ⟨b, off + 2, none⟩ = some (.int .i64 d) := by
  obtain ⟨_, A, c', e, _, _, h3⟩ := h
  cases e
  obtain ⟨b', off', e', hc⟩ := h3 (by simp)
  cases e'
  exact ⟨hc 0 _ rfl, hc 1 _ rfl, hc 2 _ rfl⟩
theorem is3_mk {w : World} {b off : Nat} {a c d : Int} (h0 : w.cell? ⟨b, off, none⟩ = some (.int .i64 a)) (h1 : w.cell? ⟨b, off + 1, none⟩ = some (.int .i64 c)) (h2 : w.cell? ⟨b, off + 2, none⟩ = some (.int .i64 d)) : Is w (.slice (some ⟨b, off, none⟩) 3 3) [a, c, d] := by
  refine ⟨rfl, _, 3, rfl, Nat.le_refl _, by simp [maxLen], fun _ => ⟨b, off, rfl, fun j u hu => ?_⟩⟩
  match j with
  | 0 => cases hu; exact h0
  | 1 => cases hu; exact h1
  | 2 => cases hu; exact h2
  | j + 3 => simp at hu
theorem shorts_ge (l : List Int) : l.length ≤ (shorts l).length := by
  induction l with
  | nil => exact Nat.le_refl _
  | cons n l ih =>
    have h := (short1_len n.toNat).1
    rw [show shorts (n :: l) = short1 n.toNat ++ shorts l from rfl, List.length_append, List.length_cons]
    omega
def TkI (w wo : World) (pre : List Ent) (X : World) : Prop :=
  ∃ v, Boxed X w.heap.size 22 v ∧ X.ownsRow wo.heap.size 41 3 v pre.length (entCells pre) ∧ Below w.heap.size w X ∧ (∀ p u, p.block ≠ w.heap.size → wo.cell? p = some u → X.cell? p = some u)

set_option maxHeartbeats 1000000 in
theorem taken_any (v : Value) (bs : List UInt8) (w : World) (hBs : Bs w v bs) (hl : bs.length ≤ 140737488355328) : Calls Tryz.prog 143 #[v] w (TakenP w (takenR bs)) := by
  obtain ⟨A, c, rfl, h1, h2⟩ := SlR.open_ hBs
  refine (callsIn_wd (ro := none) (n := 9)).1 ?_
  refine callsIn_of_wp_marks Tryz.func143 rfl trivial ?_ rfl
  simp only [Tryz.ntmps143, List.size_toArray, List.length_cons, List.length_nil, Nat.reduceAdd, Nat.reduceSub, Array.replicate_succ, Array.replicate_zero, List.push_toArray, List.append_toArray, List.nil_append, List.cons_append]
  by_cases h0 : bs.length = 0
  · have hb : bs = [] := List.eq_nil_of_length_eq_zero h0
    subst hb
    gi_wp2
    have hcd : (w.alloc (.cells #[.slice none 0 0] 22)).cell? ⟨w.heap.size, 0, none⟩ = some (.slice none 0 0) := (Boxed.new w _ _).cell
    refine ret_none (.tuple #[.slice none 0 0, .int .i64 0]) (by simp [results, Tryz.results143, go_sem, hcd]) ?_
    exact ⟨_, rfl, World.ownsRow_nil _ _ _ _, (Ext.alloc (Ext.refl _) _)⟩
  obtain ⟨_, b, off, rfl, hc⟩ := Bs.at_ hBs (by omega)
  have hc0 : w.cell? ⟨b, off, none⟩ = some (.int .u8 (bs[0].toNat : Int)) := hc 0 (by omega)
  obtain ⟨x, l, rfl⟩ : ∃ x l, bs = x :: l := by cases bs with | nil => exact absurd rfl h0 | cons x l => exact ⟨x, l, rfl⟩
  simp only [List.getElem_cons_zero] at hc0
  have hblt : b < w.heap.size := World.block_lt_of_cell? w _ hc0
  have HBs := Lib.hid hBs
  have e0 : ((l.length : Int) + 1 == 0) = false := by simp; omega
  clear hc hBs h0
  simp only [List.length_cons] at *
  have hx := x.toNat_lt
  by_cases hx0 : x.toNat = 0 ∨ 4 < x.toNat
  · have ht : takenR (x :: l) = ([], 0) := by unfold takenR; rw [takenS, if_pos hx0]
    have Ht := Lib.hid ht
    clear ht
    gi_wp2
    all_goals
      have hcd : (w.alloc (.cells #[.slice none 0 0] 22)).cell? ⟨w.heap.size, 0, none⟩ = some (.slice none 0 0) := (Boxed.new w _ _).cell
      refine ret_none (.tuple #[.slice none 0 0, .int .i64 0]) (by simp [results, Tryz.results143, go_sem, hcd]) ?_
      rw [Ht.out]
      exact ⟨_, rfl, World.ownsRow_nil _ _ _ _, (Ext.alloc (Ext.refl _) _)⟩
  · have hx1 : 0 < x.toNat := by omega
    have hx4 : x.toNat ≤ 4 := by omega
    have e1 : ((x.toNat : Int) == 0) = false := by simp; omega
    have hBs' := HBs.out
    have HT : Hid (∀ (W : World) (u : Value), Bs W u l → Calls Tryz.prog 154 #[u, .int .i64 (3 * (x.toNat : Int))] W (TakesP W (takesGo (3 * x.toNat) [] l))) := by
      intro W u hu
      have := Takes_any u l (3 * x.toNat) (by omega) W hu (by omega)
      rwa [show ((3 * x.toNat : Nat) : Int) = 3 * (x.toNat : Int) from by omega] at this
    have HTR : Hid (takenR (x :: l) = if (takesGo (3 * x.toNat) [] l).1 = 0 ∧ allOk (trip (takesGo (3 * x.toNat) [] l).2.1) = true then (trip (takesGo (3 * x.toNat) [] l).2.1, l.length + 1 - (takesGo (3 * x.toNat) [] l).2.2.length) else ([], 0)) := by
      show _ = _
      unfold takenR
      rw [takenS, if_neg hx0]
      by_cases h : (takesGo (3 * x.toNat) [] l).1 = 0 ∧ allOk (trip (takesGo (3 * x.toNat) [] l).2.1) = true
      · rw [if_pos h, if_pos h]; rfl
      · rw [if_neg h, if_neg h]
    have HOK := Lib.hid (takesGo_ok (3 * x.toNat) [] l)
    generalize takesGo (3 * x.toNat) [] l = tk at *
    obtain ⟨er, li, r⟩ := tk
    dsimp only at *
    have hbx : Boxed (w.alloc (.cells #[.slice none 0 0] 22)) w.heap.size 22 (.slice none 0 0) := Boxed.new w _ _
    have hE0 : Ext w (w.alloc (.cells #[.slice none 0 0] 22)).drew := Ext.drew (Ext.alloc (Ext.refl _) _)
    clear hx0
    gi_wp2
    have hcut : ∀ W : World, Ext w W → Bs W (.slice (some ⟨b, off + 1, none⟩) l.length (c - 1)) l := by
      intro W hE
      have h := Bs.cut (hBs'.ext hE) 1 (by simp) rfl
      simpa using h
    have Hcut := Lib.hid hcut
    clear hcut
    have hw1 : IntKind.i64.wrap (x.toNat : Int) = (x.toNat : Int) := IntWalk.i64_in _ (by omega)
    have hw2 : IntKind.i64.wrap (3 * (x.toNat : Int)) = 3 * (x.toNat : Int) := IntWalk.i64_in _ (by omega)
    have hb1 : (1 : Int) ≤ (l.length : Int) + 1 := by omega
    have hb2 : (1 : Int) ≤ (c : Int) := by omega
    have hb3 : (0 : Int) ≤ (l.length : Int) := by omega
    have hb4 : (0 : Int) < (l.length : Int) + 1 := by omega
    by_cases hc1 : c = 1
    · obtain rfl : l = [] := List.eq_nil_of_length_eq_zero (by omega)
      have her : er ≠ 0 := by
        rintro rfl
        obtain ⟨l', _, h4, _, h5⟩ := HOK.out li r rfl
        have h6 := shorts_ge l'
        have h7 := congrArg List.length h5
        simp at h7
        omega
      have e6 : (er != 0) = true := by simpa using her
      have Her := Lib.hid her
      clear her
      subst hc1
      refine wpIn_region_none (by kernel_rfl) ?_
      refine wpAnyIn_takeF (i := 0) (v := ?v1) rfl rfl (by kernel_rfl) (by kernel_rfl) (by kernel_rfl) (fun _ _ _ h => h) (yieldsF rfl (fun w => ?h1) (fun w => rfl)) ?r1
      case h1 => go_simp; try with_reducible rfl
      case' r1 => skip
      refine wpAnyIn_takeF (i := 1) (v := ?v2) rfl rfl (by kernel_rfl) (by kernel_rfl) (by kernel_rfl) (fun _ _ _ h => h) (yieldsF rfl (fun w => ?h2) (fun w => rfl)) ?r2
      case h2 => go_simp; try with_reducible rfl
      case' r2 => skip
      refine wpAnyIn_takeF (i := 2) (v := ?v3) rfl rfl (by kernel_rfl) (by kernel_rfl) (by kernel_rfl) (fun _ _ _ h => h) (yieldsF rfl (fun w => ?h3) (fun w => rfl)) ?r3
      case h3 => go_simp; try with_reducible rfl
      case' r3 => skip
      refine wpAnyIn_takeF (i := 3) (v := ?v4) rfl rfl (by kernel_rfl) (by kernel_rfl) (by kernel_rfl) (fun _ _ _ h => h) (yieldsF rfl (fun w => ?h4) (fun w => rfl)) ?r4
      case h4 => go_simp; try with_reducible rfl
      case' r4 => skip
      refine wpAnyIn_run (i := 4) (v := ?v5) (w' := ?w5) rfl (by kernel_rfl) rfl rfl rfl ?h5 ?r5
      case h5 => go_simp; try (first | with_reducible rfl | (refine ⟨?_, ?_⟩ <;> with_reducible rfl))
      case' r5 => skip
      refine wpAnyIn_run (i := 5) (v := ?v6) (w' := ?w6) rfl (by kernel_rfl) rfl rfl rfl ?h6 ?r6
      case h6 => go_simp; try (first | with_reducible rfl | (refine ⟨?_, ?_⟩ <;> with_reducible rfl))
      case' r6 => skip
      refine wpAnyIn_run (i := 6) (v := ?v7) (w' := ?w7) rfl (by kernel_rfl) rfl rfl rfl ?h7 ?r7
      case h7 => go_simp; try (first | with_reducible rfl | (refine ⟨?_, ?_⟩ <;> with_reducible rfl))
      case' r7 => skip
      refine wpAnyIn_call (i := 7) (f := 154) (args := ?b8) (w' := ?w8) (by kernel_rfl) rfl rfl ?h8 ?r8
      case h8 => go_simp; try (first | with_reducible rfl | (refine ⟨?_, ?_⟩ <;> with_reducible rfl))
      case' r8 => skip
      have hem : Bs (w.alloc (.cells #[.slice none 0 0] 22)).drew (.slice (some ⟨b, off, none⟩) 0 0) [] := SlR.empty _ 1 (by simp)
      have hcc := HT.out ((w.alloc (.cells #[.slice none 0 0] 22)).drew) _ hem
      refine hcc.mono ?_
      rintro e w1 ⟨vl, vr, rfl, ho1, ho2, hE1⟩
      refine ⟨_, rfl, ?_⟩
      refine wpAnyIn_run (i := 8) (v := ?v9) (w' := ?w9) rfl (by kernel_rfl) rfl rfl rfl ?h9 ?r9
      case h9 => go_simp; try (first | with_reducible rfl | (refine ⟨?_, ?_⟩ <;> with_reducible rfl))
      case' r9 => skip
      refine wpAnyIn_takeF (i := 9) (v := ?v10) rfl rfl (by kernel_rfl) (by kernel_rfl) (by kernel_rfl) (fun _ _ _ h => h) (yieldsF rfl (fun w => ?h10) (fun w => rfl)) ?r10
      case h10 => go_simp; try with_reducible rfl
      case' r10 => skip
      refine wpAnyIn_takeF (i := 10) (v := ?v11) rfl rfl (by kernel_rfl) (by kernel_rfl) (by kernel_rfl) (fun _ _ _ h => h) (yieldsF rfl (fun w => ?h11) (fun w => rfl)) ?r11
      case h11 => go_simp; try with_reducible rfl
      case' r11 => skip
      refine wpAnyIn_takeF (i := 11) (v := ?v12) rfl rfl (by kernel_rfl) (by kernel_rfl) (by kernel_rfl) (fun _ _ _ h => h) (yieldsF rfl (fun w => ?h12) (fun w => rfl)) ?r12
      case h12 => go_simp; try with_reducible rfl
      case' r12 => skip
      refine wpAnyIn_takeF (i := 12) (v := ?v13) rfl rfl (by kernel_rfl) (by kernel_rfl) (by kernel_rfl) (fun _ _ _ h => h) (yieldsF rfl (fun w => ?h13) (fun w => rfl)) ?r13
      case h13 => go_simp; try with_reducible rfl
      case' r13 => skip
      refine wpAnyIn_takeF (i := 13) (v := ?v14) rfl rfl (by kernel_rfl) (by kernel_rfl) (by kernel_rfl) (fun _ _ _ h => h) (yieldsF rfl (fun w => ?h14) (fun w => rfl)) ?r14
      case h14 => go_simp; try with_reducible rfl
      case' r14 => skip
      refine wpAnyIn_takeF (i := 14) (v := ?v15) rfl rfl (by kernel_rfl) (by kernel_rfl) (by kernel_rfl) (fun _ _ _ h => h) (yieldsF rfl (fun w => ?h15) (fun w => rfl)) ?r15
      case h15 => go_simp; try with_reducible rfl
      case' r15 => skip
      refine wpAnyIn_done (by kernel_rfl) (noP_normal ?_) _
      simp only [Act.put, List.setIfInBounds_toArray, List.set_cons_succ, List.set_cons_zero]
      have hb1 : Boxed w1 w.heap.size 22 (.slice none 0 0) := Boxed.kept (W := (w.alloc (.cells #[.slice none 0 0] 22)).drew) (row := none) hbx (Ext.grown hE1 none) (by simp)
      have hE1' : Ext w w1 := Ext.trans hE0 hE1
      have cb := hb1.cell
      have fb := hb1.frozen
      clear hcc hw1 hw2 hb2 hb3 hb4 hbx
      gi_wp2
      have hcd : (w1.setCell ⟨w.heap.size, 0, none⟩ (.slice none 0 0)).cell? ⟨w.heap.size, 0, none⟩ = some (.slice none 0 0) := (hb1.set _).cell
      refine ret_none (.tuple #[.slice none 0 0, .int .i64 0]) (by simp [results, Tryz.results143, go_sem, hcd]) ?_
      rw [HTR.out, if_neg (fun h => Her.out h.1)]
      exact ⟨_, rfl, World.ownsRow_nil _ _ _ _, Below.setCell (p := ⟨w.heap.size, 0, none⟩) hE1' (Nat.le_refl _) _⟩
    · have hc2 : 1 < c := by omega
      refine wpIn_region_none (by kernel_rfl) ?_
      refine wpAnyIn_takeF (i := 0) (v := ?v17) rfl rfl (by kernel_rfl) (by kernel_rfl) (by kernel_rfl) (fun _ _ _ h => h) (yieldsF rfl (fun w => ?h17) (fun w => rfl)) ?r17
      case h17 => go_simp; try with_reducible rfl
      case' r17 => skip
      refine wpAnyIn_takeF (i := 1) (v := ?v18) rfl rfl (by kernel_rfl) (by kernel_rfl) (by kernel_rfl) (fun _ _ _ h => h) (yieldsF rfl (fun w => ?h18) (fun w => rfl)) ?r18
      case h18 => go_simp; try with_reducible rfl
      case' r18 => skip
      refine wpAnyIn_takeF (i := 2) (v := ?v19) rfl rfl (by kernel_rfl) (by kernel_rfl) (by kernel_rfl) (fun _ _ _ h => h) (yieldsF rfl (fun w => ?h19) (fun w => rfl)) ?r19
      case h19 => go_simp; try with_reducible rfl
      case' r19 => skip
      refine wpAnyIn_takeF (i := 3) (v := ?v20) rfl rfl (by kernel_rfl) (by kernel_rfl) (by kernel_rfl) (fun _ _ _ h => h) (yieldsF rfl (fun w => ?h20) (fun w => rfl)) ?r20
      case h20 => go_simp; try with_reducible rfl
      case' r20 => skip
      refine wpAnyIn_run (i := 4) (v := ?v21) (w' := ?w21) rfl (by kernel_rfl) rfl rfl rfl ?h21 ?r21
      case h21 => go_simp; try (first | with_reducible rfl | (refine ⟨?_, ?_⟩ <;> with_reducible rfl))
      case' r21 => skip
      refine wpAnyIn_run (i := 5) (v := ?v22) (w' := ?w22) rfl (by kernel_rfl) rfl rfl rfl ?h22 ?r22
      case h22 => go_simp; try (first | with_reducible rfl | (refine ⟨?_, ?_⟩ <;> with_reducible rfl))
      case' r22 => skip
      refine wpAnyIn_run (i := 6) (v := ?v23) (w' := ?w23) rfl (by kernel_rfl) rfl rfl rfl ?h23 ?r23
      case h23 => go_simp; try (first | with_reducible rfl | (refine ⟨?_, ?_⟩ <;> with_reducible rfl))
      case' r23 => skip
      refine wpAnyIn_call (i := 7) (f := 154) (args := ?b24) (w' := ?w24) (by kernel_rfl) rfl rfl ?h24 ?r24
      case h24 => go_simp; try (first | with_reducible rfl | (refine ⟨?_, ?_⟩ <;> with_reducible rfl))
      case' r24 => skip
      have hcc := HT.out ((w.alloc (.cells #[.slice none 0 0] 22)).drew) _ (Hcut.out _ hE0)
      refine hcc.mono ?_
      rintro e w1 ⟨vl, vr, rfl, ho1, ho2, hE1⟩
      refine ⟨_, rfl, ?_⟩
      refine wpAnyIn_run (i := 8) (v := ?v25) (w' := ?w25) rfl (by kernel_rfl) rfl rfl rfl ?h25 ?r25
      case h25 => go_simp; try (first | with_reducible rfl | (refine ⟨?_, ?_⟩ <;> with_reducible rfl))
      case' r25 => skip
      refine wpAnyIn_takeF (i := 9) (v := ?v26) rfl rfl (by kernel_rfl) (by kernel_rfl) (by kernel_rfl) (fun _ _ _ h => h) (yieldsF rfl (fun w => ?h26) (fun w => rfl)) ?r26
      case h26 => go_simp; try with_reducible rfl
      case' r26 => skip
      refine wpAnyIn_takeF (i := 10) (v := ?v27) rfl rfl (by kernel_rfl) (by kernel_rfl) (by kernel_rfl) (fun _ _ _ h => h) (yieldsF rfl (fun w => ?h27) (fun w => rfl)) ?r27
      case h27 => go_simp; try with_reducible rfl
      case' r27 => skip
      refine wpAnyIn_takeF (i := 11) (v := ?v28) rfl rfl (by kernel_rfl) (by kernel_rfl) (by kernel_rfl) (fun _ _ _ h => h) (yieldsF rfl (fun w => ?h28) (fun w => rfl)) ?r28
      case h28 => go_simp; try with_reducible rfl
      case' r28 => skip
      refine wpAnyIn_takeF (i := 12) (v := ?v29) rfl rfl (by kernel_rfl) (by kernel_rfl) (by kernel_rfl) (fun _ _ _ h => h) (yieldsF rfl (fun w => ?h29) (fun w => rfl)) ?r29
      case h29 => go_simp; try with_reducible rfl
      case' r29 => skip
      refine wpAnyIn_takeF (i := 13) (v := ?v30) rfl rfl (by kernel_rfl) (by kernel_rfl) (by kernel_rfl) (fun _ _ _ h => h) (yieldsF rfl (fun w => ?h30) (fun w => rfl)) ?r30
      case h30 => go_simp; try with_reducible rfl
      case' r30 => skip
      refine wpAnyIn_takeF (i := 14) (v := ?v31) rfl rfl (by kernel_rfl) (by kernel_rfl) (by kernel_rfl) (fun _ _ _ h => h) (yieldsF rfl (fun w => ?h31) (fun w => rfl)) ?r31
      case h31 => go_simp; try with_reducible rfl
      case' r31 => skip
      refine wpAnyIn_done (by kernel_rfl) (noP_normal ?_) _
      simp only [Act.put, List.setIfInBounds_toArray, List.set_cons_succ, List.set_cons_zero]
      dsimp only at ho1 ho2
      have hb1 : Boxed w1 w.heap.size 22 (.slice none 0 0) := Boxed.kept (W := (w.alloc (.cells #[.slice none 0 0] 22)).drew) (row := none) hbx (Ext.grown hE1 none) (by simp)
      have hE1' : Ext w w1 := Ext.trans hE0 hE1
      obtain ⟨Al, cl, rfl, _, _⟩ := SlR.open_ (SlR.of_own ho1)
      obtain ⟨Ar, cr, rfl, _, _⟩ := SlR.open_ (SlR.of_own ho2)
      have cb := hb1.cell
      have fb := hb1.frozen
      have hNlt : w.heap.size < w1.heap.size := World.block_lt_of_cell? w1 _ cb
      clear hcc hw1 hw2 hb2 hb3 hb4 hbx
      by_cases her : er = 0
      · subst her
        have hIs1 : Is w1 (.slice Al li.length cl) li := SlR.of_own ho1
        obtain ⟨l', hl', h4, _, _⟩ := HOK.out li r rfl
        rw [List.nil_append] at hl'
        subst hl'
        obtain ⟨h7, h8⟩ := ints_trip x.toNat li h4
        obtain ⟨es, hes⟩ : ∃ es, trip li = es := ⟨_, rfl⟩
        rw [hes] at HTR h7 h8
        have hLr : r.length ≤ l.length := by rename_i hq; rw [hq, List.length_append]; omega
        rename_i hq1 hq2
        subst h7
        have HLi := Lib.hid (entInts_len es)
        have H8 := Lib.hid h8
        have hes4 : es.length ≤ 4 := by omega
        clear HOK h4 hes HT Hcut hq1 hq2 h8
        gi_wp2_with (refine ⟨trivial, ?_⟩; gi_at_call 155; refine (callsIn_wd.2 (ChunkI_any _ _ _ _)).mono ?_; rintro e w' ⟨rfl, rfl⟩)
        have q1 : Boxed ((w1.alloc (.cells #[.slice Al (entInts es).length cl] 91)).alloc (.cells #[.int .i64 3] 3)) w1.heap.size 91 (.slice Al (entInts es).length cl) := (Boxed.new w1 _ _).alloc _
        have q2 : Boxed ((w1.alloc (.cells #[.slice Al (entInts es).length cl] 91)).alloc (.cells #[.int .i64 3] 3)) (w1.heap.size + 1) 3 (.int .i64 3) := by
          have := Boxed.new (w1.alloc (.cells #[.slice Al (entInts es).length cl] 91)) 3 (.int .i64 3)
          rwa [World.size_alloc] at this
        have hE2 : Ext w1 ((w1.alloc (.cells #[.slice Al (entInts es).length cl] 91)).alloc (.cells #[.int .i64 3] 3)) := Ext.alloc (Ext.alloc (Ext.refl _) _) _
        generalize (w1.alloc (.cells #[.slice Al (entInts es).length cl] 91)).alloc (.cells #[.int .i64 3] 3) = w2 at *
        have hb2 : Boxed w2 w.heap.size 22 (.slice none 0 0) := hb1.kept (row := none) (Ext.grown hE2 none) (by simp)
        have hIs2 : Is w2 (.slice Al (entInts es).length cl) (entInts es) := hIs1.ext hE2
        have hE2' : Ext w w2 := Ext.trans hE1' hE2
        have h0 : TkI w w2 [] w2 := ⟨_, hb2, World.ownsRow_nil _ _ _ _, hE2', fun _ _ _ h => h⟩
        have hN2 : w.heap.size < w2.heap.size := World.block_lt_of_cell? w2 _ hb2.cell
        clear cb fb
        refine frame_name (fun T hT => ?_)
        refine wp_range (a := ⟨T, []⟩) (by subst hT; rfl) (enters_of Tryz.func160 (by kernel_rfl) rfl)
          (fun W1 hb hs => chunk3_seq w2 W1 _ es hIs2 (by omega) w1.heap.size (w1.heap.size + 1) (q1.kept (row := none) (Ext.grown hb none) (by simp)) (q2.kept (row := none) (Ext.grown hb none) (by simp)))
          (fun k o h => h.elim) (fun k o h => by rcases h with h | h <;> exact isCells_of_ty h.2) (fun x av W h => by obtain ⟨_, _, rfl, _⟩ := h; rfl)
          (TkI w w2) (fun _ _ _ => False) ?hI (fun _ _ _ _ h _ => h) h0
          (fun e a' W => ∃ b off, Is W (.slice (some ⟨b, off, none⟩) 3 3) [e.t, e.k, e.v] ∧ b ≠ w.heap.size ∧ a' = ⟨(T.setIfInBounds 39 (.slice (some ⟨b, off, none⟩) 3 3)).setIfInBounds 7 (.slice (some ⟨b, off, none⟩) 3 3), []⟩)
          ?hAx ?assign ?body ?done (fun _ _ _ _ _ _ h _ => h.elim)
        case hI =>
          rintro s X Y ⟨v, hv, hr, hB, hH⟩ hm
          refine ⟨v, hm.boxed hv ?_, hm.ownsRow hr ?_, hm.belowOf hB ?_ (Nat.le_refl _), fun p u hp hc => hm.cell (hH p u hp hc) ?_⟩
          · rintro (h | h)
            · exact h
            · cases h.2
          · rintro k cur _ (h | h)
            · exact h
            · cases h.2
          · rintro k o hk (h | h)
            · exact h
            · have := h.1
              omega
          · rintro o _ hc (h | h)
            · exact h
            · rw [hc] at h; cases h.2
        case hAx =>
          rintro e a' X Y ⟨b, off, hu, hne, rfl⟩ hm
          refine ⟨b, off, SlR.keep hu (fun q t hq => hm.cell hq (fun o _ hc => ?_)), hne, rfl⟩
          rintro (h | h)
          · exact h
          · rw [hc] at h; cases h.2
        case assign =>
          rintro l' pre e post W av K' hx hi hsz ⟨b', off', rfl, hu⟩ hK
          obtain ⟨v, hv, hrow, hB, hH⟩ := hi
          obtain ⟨hu0, hu1, hu2⟩ := is3 hu
          have hbne : b' ≠ w.heap.size := by
            rintro rfl
            have := boxed_only hb2 hu1
            omega
          have huW : Is W (.slice (some ⟨b', off', none⟩) 3 3) [e.t, e.k, e.v] := is3_mk (hH _ _ hbne hu0) (hH _ _ hbne hu1) (hH _ _ hbne hu2)
          have Hi : Hid (TkI w w2 pre W) := ⟨v, hv, hrow, hB, hH⟩
          have Hx := Lib.hid hx
          clear hx hu0 hu1 hu2 hH
          subst hT
          gi_wp2
          exact hK _ _ Kept.refl Hi.out ⟨b', off', huW, hbne, rfl⟩
        case body =>
          rintro l' pre e post a' W hx hl' hr ⟨v, hv, hrow, hB, hH⟩ hsz ⟨b', off', hu, hbne, rfl⟩
          have Hx := Lib.hid hx
          have hpl : pre.length ≤ 3 := by have := congrArg List.length hx; simp at this; omega
          obtain ⟨Av, cv, rfl, _, _⟩ := SlR.open_ (SlR.of_own hrow)
          obtain ⟨g0, g1, g2⟩ := is3 hu
          have gN := hv.cell
          have hrow' : W.drew.ownsRow w2.heap.size 41 3 (.slice Av pre.length cv) pre.length (entCells pre) := hrow
          have hv' : Boxed W.drew w.heap.size 22 (.slice Av pre.length cv) := hv
          obtain ⟨i0, hi, hz0, hz1, hz2⟩ := info_parts info_ent
          have hnew : SlR (W.drew.alloc (.cells #[.int .i64 e.t, .int .i64 e.k, .int .i64 e.v] 41)) 3 (.slice (some ⟨W.heap.size, 0, none⟩) 1 1) 1 (entCells [e]) := by
            refine ⟨rfl, _, 1, rfl, Nat.le_refl _, by simp [maxLen], fun _ => ⟨W.heap.size, 0, rfl, fun j u hu => ?_⟩⟩
            have hh := heap_alloc_new W.drew (.cells #[.int .i64 e.t, .int .i64 e.k, .int .i64 e.v] 41)
            have hh' : (W.drew.alloc (.cells #[.int .i64 e.t, .int .i64 e.k, .int .i64 e.v] 41)).heap[W.heap.size]? = some (.cells #[.int .i64 e.t, .int .i64 e.k, .int .i64 e.v] 41) := hh
            rw [Nat.zero_add]
            simp only [World.cell?, hh']
            have : #[Value.int .i64 e.t, .int .i64 e.k, .int .i64 e.v][j]? = some u := by simpa [entCells, Ent.cells] using hu
            simpa using this
          obtain ⟨va, wa, hrun, hown, hgrow⟩ := run_append_sl (P := Tryz.prog) (W.drew.alloc (.cells #[.int .i64 e.t, .int .i64 e.k, .int .i64 e.v] 41)) w2.heap.size 22 22 41 i0 _ 3 24 Tryz.underlying22 hi hz0 hz1 hz2 rfl (by decide)
            (.slice Av pre.length cv) pre.length (entCells pre) (hrow'.alloc _) _ 1 (entCells [e]) hnew (by intro u hu; simp [entCells, Ent.cells] at hu; rcases hu with rfl | rfl | rfl <;> rfl) (by unfold maxLen; omega) (by omega) (by simp; omega)
          obtain ⟨Aa, ca, rfl, _, _⟩ := SlR.open_ (SlR.of_own hown)
          have HH := Lib.hid hH
          have Hrun := Lib.hid hrun
          have Hown := Lib.hid hown
          have Hgrow := Lib.hid hgrow
          have hva : Boxed wa w.heap.size 22 (.slice Av pre.length cv) := (hv'.alloc _).kept hgrow (hv'.not_row (e := 41) (by decide) hrow')
          have cva := hva.cell
          have fva := hva.frozen
          clear hx hH hrun hown hgrow hnew hrow hv
          subst hT
          gi_wp2
          refine wpIn_region_round (by kernel_rfl) (by kernel_rfl) ?_
          refine wpAnyIn_takeF (i := 1) (v := ?v33) rfl rfl (by kernel_rfl) (by kernel_rfl) (by kernel_rfl) (fun _ _ _ h => h) (yieldsF rfl (fun w => ?h33) (fun w => rfl)) ?r33
          case h33 => go_simp; try with_reducible rfl
          case' r33 => skip
          refine wpAnyIn_takeF (i := 2) (v := ?v34) rfl rfl (by kernel_rfl) (by kernel_rfl) (by kernel_rfl) (fun _ _ _ h => h) (yieldsF rfl (fun w => ?h34) (fun w => rfl)) ?r34
          case h34 => go_simp; try with_reducible rfl
          case' r34 => skip
          refine wpAnyIn_takeF (i := 4) (v := ?v35) rfl rfl (by kernel_rfl) (by kernel_rfl) (by kernel_rfl) (fun _ _ _ h => h) (yieldsF rfl (fun w => ?h35) (fun w => rfl)) ?r35
          case h35 => go_simp; try with_reducible rfl
          case' r35 => skip
          refine wpAnyIn_takeF (i := 5) (v := ?v36) rfl rfl (by kernel_rfl) (by kernel_rfl) (by kernel_rfl) (fun _ _ _ h => h) (yieldsF rfl (fun w => ?h36) (fun w => rfl)) ?r36
          case h36 => go_simp; try with_reducible rfl
          case' r36 => skip
          refine wpAnyIn_takeF (i := 7) (v := ?v37) rfl rfl (by kernel_rfl) (by kernel_rfl) (by kernel_rfl) (fun _ _ _ h => h) (yieldsF rfl (fun w => ?h37) (fun w => rfl)) ?r37
          case h37 => go_simp; try with_reducible rfl
          case' r37 => skip
          refine wpAnyIn_takeF (i := 8) (v := ?v38) rfl rfl (by kernel_rfl) (by kernel_rfl) (by kernel_rfl) (fun _ _ _ h => h) (yieldsF rfl (fun w => ?h38) (fun w => rfl)) ?r38
          case h38 => go_simp; try with_reducible rfl
          case' r38 => skip
          refine wpAnyIn_takeC (Read4 (⟨b', off', none⟩, .int .i64 e.t) (⟨b', off' + 1, none⟩, .int .i64 e.k) (⟨b', off' + 2, none⟩, .int .i64 e.v) (⟨w.heap.size, 0, none⟩, .slice Av pre.length cv)) [10, 11, 12, 13] (i := 3) (v := ?v39) rfl rfl (by kernel_rfl) (by kernel_rfl) (by kernel_rfl) (by kernel_rfl) (by kernel_rfl) (fun _ _ _ h => h) (fun w o hw => hw.alloc o) (⟨g0, g1, g2, gN⟩) (yieldsC rfl (fun w hw => ?h39) (fun w => rfl)) ?r39
          case h39 => obtain ⟨g0, g1, g2, g3⟩ := hw; dsimp only at g0 g1 g2 g3; go_simp; try with_reducible rfl
          case' r39 => skip
          refine wpAnyIn_takeC (Read4 (⟨b', off', none⟩, .int .i64 e.t) (⟨b', off' + 1, none⟩, .int .i64 e.k) (⟨b', off' + 2, none⟩, .int .i64 e.v) (⟨w.heap.size, 0, none⟩, .slice Av pre.length cv)) [10, 11, 12, 13] (i := 6) (v := ?v40) rfl rfl (by kernel_rfl) (by kernel_rfl) (by kernel_rfl) (by kernel_rfl) (by kernel_rfl) (fun _ _ _ h => h) (fun w o hw => hw.alloc o) (⟨g0, g1, g2, gN⟩) (yieldsC rfl (fun w hw => ?h40) (fun w => rfl)) ?r40
          case h40 => obtain ⟨g0, g1, g2, g3⟩ := hw; dsimp only at g0 g1 g2 g3; go_simp; try with_reducible rfl
          case' r40 => skip
          refine wpAnyIn_takeC (Read4 (⟨b', off', none⟩, .int .i64 e.t) (⟨b', off' + 1, none⟩, .int .i64 e.k) (⟨b', off' + 2, none⟩, .int .i64 e.v) (⟨w.heap.size, 0, none⟩, .slice Av pre.length cv)) [10, 11, 12, 13] (i := 9) (v := ?v41) rfl rfl (by kernel_rfl) (by kernel_rfl) (by kernel_rfl) (by kernel_rfl) (by kernel_rfl) (fun _ _ _ h => h) (fun w o hw => hw.alloc o) (⟨g0, g1, g2, gN⟩) (yieldsC rfl (fun w hw => ?h41) (fun w => rfl)) ?r41
          case h41 => obtain ⟨g0, g1, g2, g3⟩ := hw; dsimp only at g0 g1 g2 g3; go_simp; try with_reducible rfl
          case' r41 => skip
          refine wpAnyIn_takeF (i := 10) (v := ?v42) rfl rfl (by kernel_rfl) (by kernel_rfl) (by kernel_rfl) (fun _ _ _ h => h) (yieldsF rfl (fun w => ?h42) (fun w => rfl)) ?r42
          case h42 => go_simp; try with_reducible rfl
          case' r42 => skip
          refine wpAnyIn_takeC (Read4 (⟨b', off', none⟩, .int .i64 e.t) (⟨b', off' + 1, none⟩, .int .i64 e.k) (⟨b', off' + 2, none⟩, .int .i64 e.v) (⟨w.heap.size, 0, none⟩, .slice Av pre.length cv)) [12, 13] (i := 0) (v := ?v43) rfl rfl (by kernel_rfl) (by kernel_rfl) (by kernel_rfl) (by kernel_rfl) (by kernel_rfl) (fun _ _ _ h => h) (fun w o hw => hw.alloc o) (⟨g0, g1, g2, gN⟩) (yieldsC rfl (fun w hw => ?h43) (fun w => rfl)) ?r43
          case h43 => obtain ⟨g0, g1, g2, g3⟩ := hw; dsimp only at g0 g1 g2 g3; go_simp; try with_reducible rfl
          case' r43 => skip
          refine wpAnyIn_run (i := 11) (v := ?v44) (w' := ?w44) rfl (by kernel_rfl) rfl rfl rfl ?h44 ?r44
          case h44 => go_simp; try (first | with_reducible rfl | (refine ⟨?_, ?_⟩ <;> with_reducible rfl))
          case' r44 => skip
          refine wpAnyIn_run (i := 12) rfl (by kernel_rfl) rfl rfl (about_append _ _ _ rfl) (exec_append (v := .slice Av pre.length cv) (vx := .slice (some ⟨W.heap.size, 0, none⟩) 1 1) (.tmp 40) (.tmp 51) 22 rfl (by simp [Act.eval, Act.put]) (by simp [Act.eval, Act.put]) Hrun.out) ?_
          refine wpAnyIn_skip (i := 13) (w' := ?w45) rfl (by kernel_rfl) rfl rfl rfl ?h45 ?r45
          case h45 => go_simp; try (first | with_reducible rfl | (refine ⟨?_, ?_⟩ <;> with_reducible rfl))
          case' r45 => skip
          refine wpAnyIn_done (by kernel_rfl) (noP_normal ?_) _
          simp only [Act.put, List.setIfInBounds_toArray, List.set_cons_succ, List.set_cons_zero]
          gi_wp2
          have hk : Kept (orOther (fun k o => (k = w1.heap.size ∧ o.ty = some 91) ∨ (k = w1.heap.size + 1 ∧ o.ty = some 3)) w2.heap.size) W.drew (wa.setCell ⟨w.heap.size, 0, none⟩ (.slice Aa (pre.length + 1) ca)) := by
            refine Kept.appended _ hv' hrow' Hgrow.out ?_ ?_
            · rintro ((⟨_, h⟩ | ⟨_, h⟩) | ⟨_, h⟩) <;> cases h
            · rintro k cur _ ((⟨_, h⟩ | ⟨_, h⟩) | ⟨_, h⟩) <;> cases h
          refine ⟨Kept.trans (Kept.refl.drew) hk, _, hva.set _, ?_, ?_, ?_⟩
          · have h := Hown.out.kept (grownBy_setCell' wa w.heap.size (.slice Aa (pre.length + 1) ca)) (.inr (hva.not_row (by decide) Hown.out).symm)
            have ec : entCells (pre ++ [e]) = entCells pre ++ entCells [e] := by simp [entCells]
            rw [ec, List.length_append]
            exact h
          · refine (((hB.drew).alloc (by have := hB.size; exact this) _).grown Hgrow.out (by have := hB.size; simp; omega) (fun k ek => ?_)).setCell (p := ⟨w.heap.size, 0, none⟩) (Nat.le_refl _) _
            have := (hrow'.lt k ek).1
            omega
          · intro p u hp hq
            have hlt := World.block_lt_of_cell? w2 p hq
            have h1 : (W.drew.alloc (.cells #[.int .i64 e.t, .int .i64 e.k, .int .i64 e.v] 41)).cell? p = some u := cell_alloc (show W.drew.cell? p = some u from HH.out p u hp hq) _
            have h2 : wa.cell? p = some u := by
              refine (World.cell?_of_block (Hgrow.out.block p.block (by simp; omega) (fun ek => ?_))).trans h1
              have := (hrow'.lt p.block ek.symm).1
              omega
            exact (World.cell?_setCell_other _ _ _ _ (fun e => hp (by rw [← e]))).trans h2
        case done =>
          rintro D W hD ⟨v, hv, hrow, hB, hH⟩ hK
          subst hT
          obtain ⟨Av, cv, rfl, _, _⟩ := SlR.open_ (SlR.of_own hrow)
          have hes : Es W (.slice Av es.length cv) es := SlR.of_own hrow
          have HB := Lib.hid (bad_any _ es W hes)
          have gN := hv.cell
          have hsz1 : ((l.length : Int) + 1 - (r.length : Int)) = ((l.length + 1 - r.length : Nat) : Int) := by omega
          have Hsz := Lib.hid hsz1
          have hDlt : D < W.heap.size := (Array.getElem?_eq_some_iff.1 hK).1
          clear hH hsz1
          cases hok : allOk es
          · rw [hok] at HB HTR
            have HTR' := HTR.out
            rw [if_neg (by simp)] at HTR'
            have HT2 := Lib.hid HTR'
            clear HTR HTR' hok
            gi_wp2_with (refine ⟨trivial, ?_⟩; gi_at_call 126; refine (callsIn_wd.2 HB.out).mono ?_; rintro e w3 ⟨rfl, hE3⟩; have hv3 := hv.kept (row := none) (Ext.grown hE3 none) (by simp); have gN3 := hv3.cell; have fN3 := hv3.frozen)
            have hK3 : w3.heap[D]? = some (.deferred (some [])) := (hE3.block D hDlt).trans hK
            have hK4 := heap_setCell_obj hK3 rfl ⟨w.heap.size, 0, none⟩ (.slice none 0 0)
            have hcd := cell_putObj (hv3.set (.slice none 0 0)).cell hK4 rfl (.deferred none)
            refine ret_mark hK4 (.tuple #[.slice none 0 0, .int .i64 0]) (by simp [results, Tryz.results143, go_sem, hcd]) ?_
            rw [HT2.out]
            exact ⟨_, rfl, World.ownsRow_nil _ _ _ _, below_putObj ((hB.trans (hE3.mono hB.size)).setCell (p := ⟨w.heap.size, 0, none⟩) (Nat.le_refl _) _) (by omega) _⟩
          · rw [hok] at HB HTR
            have HTR' := HTR.out
            rw [if_pos (by simp)] at HTR'
            have HT2 := Lib.hid HTR'
            clear HTR HTR' hok
            gi_wp2_with (refine ⟨trivial, ?_⟩; gi_at_call 126; refine (callsIn_wd.2 HB.out).mono ?_; rintro e w3 ⟨rfl, hE3⟩; have hv3 := hv.kept (row := none) (Ext.grown hE3 none) (by simp); have gN3 := hv3.cell; have fN3 := hv3.frozen)
            have hK3 : w3.heap[D]? = some (.deferred (some [])) := (hE3.block D hDlt).trans hK
            have hK4 := heap_setCell_obj hK3 rfl ⟨w.heap.size, 0, none⟩ (.slice Av es.length cv)
            have hcd := cell_putObj (hv3.set (.slice Av es.length cv)).cell hK4 rfl (.deferred none)
            refine ret_mark hK4 (.tuple #[.slice Av es.length cv, .int .i64 (l.length + 1 - r.length : Nat)]) (by simp [results, Tryz.results143, go_sem, hcd, Hsz.out]) ?_
            rw [HT2.out]
            have hrow3 := own_ext hrow hE3
            have hrow4 := hrow3.kept (grownBy_setCell' w3 w.heap.size (.slice Av es.length cv)) (.inr (hv3.not_row (by decide) hrow3).symm)
            exact ⟨_, rfl, own_base (ownsRow_putObj hrow4 (.deferred none) hK4 rfl) (by omega), below_putObj ((hB.trans (hE3.mono hB.size)).setCell (p := ⟨w.heap.size, 0, none⟩) (Nat.le_refl _) _) (by omega) _⟩
      · have e6 : (er != 0) = true := by simpa using her
        have Her := Lib.hid her
        clear her
        gi_wp2
        have hcd : (w1.setCell ⟨w.heap.size, 0, none⟩ (.slice none 0 0)).cell? ⟨w.heap.size, 0, none⟩ = some (.slice none 0 0) := (hb1.set _).cell
        refine ret_none (.tuple #[.slice none 0 0, .int .i64 0]) (by simp [results, Tryz.results143, go_sem, hcd]) ?_
        rw [HTR.out, if_neg (fun h => Her.out h.1)]
        exact ⟨_, rfl, World.ownsRow_nil _ _ _ _, Below.setCell (p := ⟨w.heap.size, 0, none⟩) hE1' (Nat.le_refl _) _⟩
end Go.Proofs.YtfjcnpigpkcfgaaGreat

namespace Go.Proofs.YtfjcnpigpkcfgaaGreat
open Go.RowKit Go.Mv
set_option maxRecDepth 100000

/-- two.all over two.blocks' iterator, in the world that two.blocks leaves. -/
theorem allOf (w : World) (v : Value) (es : List Ent) (hes : Es w v es) (ha : allOk es = true) (hlen : es.length ≤ 1000000) (p : Nat × Nat) (z1 z2 : Nat) (hz : PtV (.complex .f64 z1 z2) p) :
    Calls Tryz.prog 127 #[.func (.func 136) #[] #[.pointer (some ⟨w.heap.size + 1, 0, none⟩), .pointer (some ⟨w.heap.size, 0, none⟩)]] ((w.alloc (.cells #[.complex .f64 z1 z2] 67)).alloc (.cells #[v] 22))
      fun e w' => ∃ v', e = .returned v' ∧ w'.ownsRow w.heap.size 5 1 v' (blocksS p es).length ((blocksS p es).map bv) ∧ Ext w w' := by
  have hE : Ext w ((w.alloc (.cells #[.complex .f64 z1 z2] 67)).alloc (.cells #[v] 22)) := Ext.alloc (Ext.alloc (Ext.refl _) _) _
  have q1 : Boxed ((w.alloc (.cells #[.complex .f64 z1 z2] 67)).alloc (.cells #[v] 22)) (w.heap.size + 1) 22 v := by
    have := Boxed.new (w.alloc (.cells #[.complex .f64 z1 z2] 67)) 22 v
    rwa [World.size_alloc] at this
  have q2 : Boxed ((w.alloc (.cells #[.complex .f64 z1 z2] 67)).alloc (.cells #[v] 22)) w.heap.size 67 (.complex .f64 z1 z2) := (Boxed.new w _ _).alloc _
  refine (all_any w _ v es hes ha hlen (fun q u hq => Ext.cell hE hq) p _ hz _ _ q1 q2 (by omega) (Nat.le_refl _) hE.size).mono ?_
  rintro e w' ⟨v', rfl, hr, hB⟩
  exact ⟨v', rfl, own_base hr hE.size, Below.trans hE hB⟩

theorem chain_zero (vp : Value) (bss : List (List UInt8)) (w : World) (h : Parts w vp bss) : Calls Tryz.prog 129 #[.complex .f64 0 0, vp] w fun e w' => ∃ v', e = .returned v' ∧ PtV v' (chainP (0, 0) bss.flatten) ∧ Ext w w' := by
  have hz := PtV.zero.pt
  have := Chain_any 0 0 vp bss w h
  unfold ChainE at this
  rw [hz] at this
  exact this

set_option maxHeartbeats 1000000 in
theorem File_any (first : Int) (v : Value) (es : List Ent) (w : World) (h : Es w v es) (hlen : es.length ≤ 1000000) : Calls Tryz.prog 122 #[.int .i64 first, v] w (ResP w (fileS first es)) := by
  obtain ⟨A, c, rfl, h1, h2⟩ := SlR.open_ h
  have HH := Lib.hid (fun w => Head_any first w)
  have HF := Lib.hid (fun w (h : Es w (.slice A es.length c) es) => bad_any _ es w h)
  have H := Lib.hid h
  have hhl := headS_len first
  unfold ResP at HH
  unfold fileS
  rcases hhd : headS first with ⟨er, hd⟩
  have herr := headS_err first
  rw [hhd] at HH hhl herr
  dsimp only at HH hhl herr
  clear hhd h
  rcases herr with rfl | rfl
  · cases ha : allOk es
    · rw [ha] at HF
      rw [if_neg (by simp)]
      unfold ResP
      clear ha
      go_enter Tryz.func122, Tryz.ntmps122
      go_wp2_with (first
        | (go_at_call 125; refine (HH.out _).mono ?_; rintro e w1 ⟨v1, rfl, ho1, hE1⟩)
        | (go_at_call 126; refine (HF.out _ (Es.ext H.out hE1)).mono ?_; rintro e w2 ⟨rfl, hE2⟩))
      go_ret2
      exact ⟨_, rfl, World.ownsRow_nil _ _ _ _, Ext.trans hE1 hE2⟩
    · rw [ha] at HF
      rw [if_pos (by simp)]
      have Ha := Lib.hid ha
      unfold ResP
      clear ha
      obtain ⟨i0, hi, hz0, hz1, hz2⟩ := info_parts info_u8
      go_enter Tryz.func122, Tryz.ntmps122
      go_wp2_with (first
        | (go_at_call 125; refine (HH.out _).mono ?_; rintro e w1 ⟨v1, rfl, ho1, hE1⟩; obtain ⟨A1, c1, rfl, _, _⟩ := SlR.open_ (SlR.of_own ho1))
        | (go_at_call 126; refine (HF.out _ (Es.ext H.out hE1)).mono ?_; rintro e w2 ⟨rfl, hE2⟩)
        | (go_at_call 129
           have hb : Bs w2 (.slice A1 hd.length c1) hd := SlR.of_own (own_ext ho1 hE2)
           have hp := parts1 hb
           refine (chain_zero _ _ _ hp).mono ?_
           rintro e w3 ⟨vz, rfl, hpz, hE3⟩
           rw [show [hd].flatten = hd from by simp] at hpz
           have HPZ := Lib.hid hpz
           obtain ⟨z1, z2, rfl, _, _⟩ := hpz)
        | (go_at_call 128; refine (blocks_any _ _ _ _ _ _).mono ?_; rintro e w' ⟨rfl, rfl⟩)
        | (go_at_call 127
           have hE4 : Ext w1 w3 := Ext.trans (Ext.alloc hE2 _) hE3
           refine (allOf w3 _ es (Es.ext H.out (Ext.trans hE1 hE4)) Ha.out hlen _ _ _ HPZ.out).mono ?_
           rintro e w4 ⟨v4, rfl, ho4, hE5⟩
           have hbl := blocksS_len (chainP (0, 0) hd) es
           obtain ⟨bb, hbb⟩ : ∃ bb, blocksS (chainP (0, 0) hd) es = bb := ⟨_, rfl⟩
           rw [hbb] at hbl ho4
           have Hbb := Lib.hid hbb
           clear hbb
           obtain ⟨A4, c4, rfl, _, _⟩ := SlR.open_ (SlR.of_own ho4)
           have hE6 : Ext w1 w4 := Ext.trans hE4 hE5
           have hon := own_ext ho1 hE6)
        | (at_builtin
           refine wpList_append_sl _ rfl (.tmp 19) (.tmp 25) 23 rfl w.heap.size 5 i0 (.int .u8 0) 1 1 Tryz.underlying23 hi hz0 hz1 hz2 rfl (by decide) _ hd.length _ rfl hon _ bb.length _ rfl (SlR.of_own ho4) (one_bv _) (by unfold maxLen; omega) (by omega) (Ext.trans hE1 hE6).size ?_
           intro v' w5 hown' hgrow))
      go_ret2
      refine ⟨_, rfl, ?_, Ext.grownOwn (Ext.trans hE1 hE6) hon hgrow⟩
      dsimp only
      rw [Hbb.out]
      simpa using hown'
  · rw [if_neg (by simp)]
    unfold ResP
    go_enter Tryz.func122, Tryz.ntmps122
    go_wp2_with (go_at_call 125; refine (HH.out _).mono ?_; rintro e w1 ⟨v1, rfl, ho1, hE1⟩)
    go_ret2
    exact ⟨_, rfl, World.ownsRow_nil _ _ _ _, hE1⟩
end Go.Proofs.YtfjcnpigpkcfgaaGreat

namespace Go.Mv
open Go.RowKit

/-- Block b holds these cells, and none is frozen. -/
def Blk (W : World) (b : Nat) (t : TypeId) (cs : Array Value) : Prop := W.heap[b]? = some (.cells cs t (0, 0))
section
variable {W W' : World} {b : Nat} {t : TypeId} {cs : Array Value}
theorem Blk.lt (h : Blk W b t cs) : b < W.heap.size := (Array.getElem?_eq_some_iff.1 h).1
theorem Blk.cell (h : Blk W b t cs) (k : Nat) {v : Value} (hv : cs[k]? = some v) : W.cell? ⟨b, k, none⟩ = some v := by simp [World.cell?, show W.heap[b]? = _ from h, hv]
theorem Blk.frozen (h : Blk W b t cs) (k : Nat) : W.frozen? ⟨b, k, none⟩ = false := by simp [World.frozen?, show W.heap[b]? = _ from h]
theorem Blk.new (W : World) (t : TypeId) (cs : Array Value) : Blk (W.alloc (.cells cs t)) W.heap.size t cs := World.alloc_heap_new W _
theorem Blk.kept {row : Option Nat} (h : Blk W b t cs) (hg : W.grownBy W' row) (hne : some b ≠ row) : Blk W' b t cs := (hg.block b h.lt hne).trans h
theorem Blk.ext (h : Blk W b t cs) (he : Ext W W') : Blk W' b t cs := (he.block b h.lt).trans h
theorem Blk.alloc (h : Blk W b t cs) (o : Obj) : Blk (W.alloc o) b t cs := h.ext (Ext.alloc (Ext.refl _) o)
theorem Blk.set (h : Blk W b t cs) (k : Nat) (u : Value) : Blk (W.setCell ⟨b, k, none⟩ u) b t (cs.setIfInBounds k u) := by
  obtain ⟨hlt, hk⟩ := Array.getElem?_eq_some_iff.1 h
  show (W.heap.modify b _)[b]? = _
  rw [Array.getElem?_eq_getElem (by rw [Array.size_modify]; exact hlt), Array.getElem_modify_self, hk]
  rfl
theorem Blk.other (h : Blk W b t cs) {b' : Nat} (hne : b ≠ b') (k : Nat) (u : Value) : Blk (W.setCell ⟨b', k, none⟩ u) b t cs :=
  (Below.heap_setCell W ⟨b', k, none⟩ u b hne).trans h
theorem Blk.not_row (h : Blk W b t cs) {e : TypeId} (hte : t ≠ e) {base size k : Nat} {v : Value} {xs : List Value} (hr : W.ownsRow base e size v k xs) : some b ≠ v.ownBlock := by
  intro e'
  obtain ⟨cur, hc⟩ := ownsRow_cells hr e'.symm
  rw [show W.heap[b]? = _ from h] at hc
  cases hc
  exact hte rfl
theorem Blk.boxed {v : Value} (h : Blk W b t #[v]) : Boxed W b t v := h
theorem Blk.load {P : Program} {ty : TypeId} {d : TypeDesc} (h : Blk W b t cs) (hu : P.underlying ty = some d) (hd : (match d with | .struct _ | .array _ _ => true | _ => false) = true) (hi : (P.info? ty).map (·.size) = some cs.size) :
    (loadVar ty ⟨b, 0, none⟩).run P W = .ok (.agg cs) W := run_loadVar_row W b t ty cs (0, 0) d h hu hd hi
end
theorem blk3 {W : World} {b : Nat} {t : TypeId} {a v u : Value} (h : Blk W b t #[a, v, u]) : W.cell? ⟨b, 0, none⟩ = some a ∧ W.cell? ⟨b, 1, none⟩ = some v ∧ W.cell? ⟨b, 2, none⟩ = some u ∧ W.frozen? ⟨b, 0, none⟩ = false ∧ W.frozen? ⟨b, 1, none⟩ = false ∧ W.frozen? ⟨b, 2, none⟩ = false :=
  ⟨h.cell 0 rfl, h.cell 1 rfl, h.cell 2 rfl, h.frozen 0, h.frozen 1, h.frozen 2⟩
theorem blk4 {W : World} {b : Nat} {t : TypeId} {a v u x : Value} (h : Blk W b t #[a, v, u, x]) : W.cell? ⟨b, 0, none⟩ = some a ∧ W.cell? ⟨b, 1, none⟩ = some v ∧ W.cell? ⟨b, 2, none⟩ = some u ∧ W.cell? ⟨b, 3, none⟩ = some x ∧ W.frozen? ⟨b, 0, none⟩ = false ∧ W.frozen? ⟨b, 1, none⟩ = false ∧ W.frozen? ⟨b, 2, none⟩ = false ∧ W.frozen? ⟨b, 3, none⟩ = false :=
  ⟨h.cell 0 rfl, h.cell 1 rfl, h.cell 2 rfl, h.cell 3 rfl, h.frozen 0, h.frozen 1, h.frozen 2, h.frozen 3⟩
theorem blk_set3 {W : World} {b : Nat} {t : TypeId} {a v u : Value} (h : Blk W b t #[a, v, u]) (a' v' u' : Value) : Blk (((W.setCell ⟨b, 0, none⟩ a').setCell ⟨b, 1, none⟩ v').setCell ⟨b, 2, none⟩ u') b t #[a', v', u'] :=
  ((h.set 0 a').set 1 v').set 2 u'
theorem grownBy_set (W : World) (b k : Nat) (v : Value) : W.grownBy (W.setCell ⟨b, k, none⟩ v) (some b) :=
  ⟨rfl, rfl, rfl, by simp [World.setCell], fun j _ hj => Below.heap_setCell _ _ _ j (fun e => hj (by rw [e]))⟩
theorem Below.grown2 {N : Nat} {w A B : World} {row : Option Nat} (h : Below N w A) (hg : A.grownBy B row) (hN : N ≤ A.heap.size) (hr : ∀ k, row = some k → N ≤ k) : Below N w B := h.grown hg hN hr
theorem grownBy_trans {A B C : World} {row : Option Nat} (h : A.grownBy B row) (k : B.grownBy C row) : A.grownBy C row :=
  ⟨k.os.trans h.os, k.tape.trans h.tape, k.output.trans h.output, Nat.le_trans h.size k.size, fun j hj hne => (k.block j (Nat.lt_of_lt_of_le hj h.size) hne).trans (h.block j hj hne)⟩
theorem blk_slice {W : World} {b : Nat} {t : TypeId} {cs : List Value} (h : Blk W b t cs.toArray) {n : Nat} (hn : cs.length = n) (hl : n ≤ maxLen) : SlR W 1 (.slice (some ⟨b, 0, none⟩) n n) n cs := by
  refine ⟨by omega, _, n, rfl, Nat.le_refl _, hl, fun _ => ⟨b, 0, rfl, fun j u hu => ?_⟩⟩
  rw [Nat.zero_add]
  exact h.cell j (by simpa using hu)
/-- Cells in other blocks. -/
theorem cell_grown {W W' : World} {row : Option Nat} (hg : W.grownBy W' row) {p : Addr} {u : Value} (h : W.cell? p = some u) (hr : some p.block ≠ row) : W'.cell? p = some u :=
  (World.cell?_of_block (hg.block p.block (World.block_lt_of_cell? W p h) hr)).trans h
/-- A slice that reads as a list, where its own block is kept. -/
theorem SlR.keepB {w w' : World} {size b off m c n : Nat} {xs : List Value} (h : SlR w size (.slice (some ⟨b, off, none⟩) m c) n xs) (hk : ∀ o u, w.cell? ⟨b, o, none⟩ = some u → w'.cell? ⟨b, o, none⟩ = some u) :
    SlR w' size (.slice (some ⟨b, off, none⟩) m c) n xs := by
  obtain ⟨hl, A, c', e, h1, h2, h3⟩ := h
  cases e
  refine ⟨hl, _, c, rfl, h1, h2, fun hn => ?_⟩
  obtain ⟨b', off', e', hc⟩ := h3 hn
  cases e'
  exact ⟨b, off, rfl, fun j u hu => hk _ _ (hc j u hu)⟩
/-- A slice cut at its end. -/
theorem SlR.take1 {w : World} {A : Option Addr} {m c n : Nat} {xs : List Value} (h : SlR w 1 (.slice A m c) n xs) (k : Nat) (hk : k ≤ n) : SlR w 1 (.slice A k c) k (xs.take k) := by
  obtain ⟨hl, A', c', e, h1, h2, h3⟩ := h
  cases e
  refine ⟨by rw [List.length_take, hl]; omega, _, c, rfl, by omega, h2, fun hn => ?_⟩
  obtain ⟨b', off', e', hc⟩ := h3 (by omega)
  cases e'
  refine ⟨b', off', rfl, fun j u hu => hc j u ?_⟩
  rw [List.getElem?_take] at hu
  split at hu
  · exact hu
  · cases hu
theorem Bs.take {w : World} {A : Option Addr} {m c : Nat} {bs : List UInt8} (h : Bs w (.slice A m c) bs) (k : Nat) (hk : k ≤ bs.length) : Bs w (.slice A k c) (bs.take k) := by
  have := SlR.take1 h k hk
  unfold Bs
  rw [List.length_take, Nat.min_eq_left hk, List.map_take]
  exact this
theorem SlR.capd {w : World} {A : Option Addr} {m c c' size n : Nat} {xs : List Value} (h : SlR w size (.slice A m c) n xs) (h1 : n ≤ c') (h2 : c' ≤ 9223372036854775807) : SlR w size (.slice A m c') n xs := by
  obtain ⟨hl, A', c'', e, _, _, h3⟩ := h
  cases e
  exact ⟨hl, A, c', rfl, h1, by simpa [maxLen] using h2, h3⟩
end Go.Mv
