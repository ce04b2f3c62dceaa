/-
  The walks of entry.Fine, moultref06.Fine: may a state be?
  The walk of slices.Chunk's iterator over bytes.
  Plain laws over any program: in a region that draws its order, an operation that yields; a value and a call, the two that may come up.
-/
import Derived.Test.YtkpdlkikkcnhiaaDoorM8
import Derived.Deep.RegionHeld3
set_option linter.all false
namespace Go.Proofs.YtkpdlkikkcnhiaaDoor
open Go.RowKit Go.Mv
set_option maxRecDepth 100000

def staC (s : Sta) : Array Value := #[.int .i64 s.idx, .int .i64 s.term, .int .i64 s.sum, .int .i64 s.lvl, .bool s.fin]
def staV (s : Sta) : Value := .agg (staC s)
theorem staUnder : Tryd.prog.underlying 23 = some (.struct (Tryd.prog.fieldsOf 23)) := by kernel_rfl
theorem staHeld : Tryd.prog.stoodInHeld 23 = false := by kernel_rfl
theorem staGuard : Tryd.prog.eqGuardType Tryd.prog.depth 23 = false := by kernel_rfl
def staEq (a b : Sta) : Bool := a.idx == b.idx && a.term == b.term && a.sum == b.sum && a.lvl == b.lvl && a.fin == b.fin
theorem staEq_iff (a b : Sta) : staEq a b = true ↔ a = b := by
  cases a; cases b
  simp [staEq, and_assoc]
theorem staEq_run (a b : Sta) (W : World) : (Op.equalIn 10000 23 (.agg #[.int .i64 a.idx, .int .i64 a.term, .int .i64 a.sum, .int .i64 a.lvl, .bool a.fin]) (.agg #[.int .i64 b.idx, .int .i64 b.term, .int .i64 b.sum, .int .i64 b.lvl, .bool b.fin])).run Tryd.prog W = .ok (staEq a b) W := by
  rw [run_equalIn_struct W 9999 23 _ _ staUnder staHeld]
  unfold staEq
  cases h0 : (a.idx == b.idx) <;> cases h1 : (a.term == b.term) <;> cases h2 : (a.sum == b.sum) <;> cases h3 : (a.lvl == b.lvl) <;> cases h4 : (a.fin == b.fin) <;> simp [go_sem, h0, h1, h2, h3, h4]

theorem number6_any (n : Int) (w : World) : Calls Tryd.prog 16 #[.int .i64 n] w fun e w' => e = .returned (.bool (numB n)) ∧ w = w' := by
  by_cases h0 : n < 0
  · go_enter Tryd.func16, Tryd.ntmps16
    go_wp2
    go_ret
    exact ⟨ret_bool (by simp [numB]; omega), rfl⟩
  · have h0' : 0 ≤ n := by omega
    go_enter Tryd.func16, Tryd.ntmps16
    go_wp2
    go_ret
    exact ⟨ret_bool (by simp [numB]; omega), rfl⟩
theorem First_any (w : World) : Calls Tryd.prog 22 #[] w fun e w' => e = .returned (.agg #[.int .i64 0, .int .i64 0, .int .i64 0, .int .i64 1, .bool false]) ∧ Ext w w' := by
  go_enter Tryd.func22, Tryd.ntmps22
  go_wp2
  refine bodyPost_ret (results_cell_row rfl _ _ _ 23 _ _ _ rfl (heap_alloc_new _ _) staUnder rfl (by kernel_rfl)) rfl ⟨rfl, Ext.alloc (Ext.refl _) _⟩
theorem First6_any (w : World) : Calls Tryd.prog 17 #[] w fun e w' => e = .returned (.agg #[.int .i64 0, .int .i64 0, .int .i64 0, .int .i64 1, .bool false]) ∧ Ext w w' := by
  go_enter Tryd.func17, Tryd.ntmps17
  go_wp2
  refine bodyPost_ret (results_cell_row rfl _ _ _ 23 _ _ _ rfl (heap_alloc_new _ _) staUnder rfl (by kernel_rfl)) rfl ⟨rfl, Ext.alloc (Ext.refl _) _⟩
theorem final_any (s : Sta) (w : World) : Calls Tryd.prog 27 #[.agg #[.int .i64 s.idx, .int .i64 s.term, .int .i64 s.sum, .int .i64 s.lvl, .bool s.fin]] w fun e w' => e = .returned (.int .i64 s.finI) ∧ Ext w w' := by
  cases hf : s.fin
  · have h : s.finI = 0 := by unfold Sta.finI; rw [hf]; rfl
    go_enter Tryd.func27, Tryd.ntmps27
    go_wp2
    go_ret
    exact ⟨by rw [h]; rfl, Ext.alloc (Ext.refl _) _⟩
  · have h : s.finI = 1 := by unfold Sta.finI; rw [hf]; rfl
    go_enter Tryd.func27, Tryd.ntmps27
    go_wp2
    go_ret
    exact ⟨by rw [h]; rfl, Ext.alloc (Ext.refl _) _⟩
theorem blk5 {W : World} {b : Nat} {t : TypeId} {a v u x y : Value} (h : Blk W b t #[a, v, u, x, y]) : W.cell? ⟨b, 0, none⟩ = some a ∧ W.cell? ⟨b, 1, none⟩ = some v ∧ W.cell? ⟨b, 2, none⟩ = some u ∧ W.cell? ⟨b, 3, none⟩ = some x ∧ W.cell? ⟨b, 4, none⟩ = some y :=
  ⟨h.cell 0 rfl, h.cell 1 rfl, h.cell 2 rfl, h.cell 3 rfl, h.cell 4 rfl⟩

set_option maxHeartbeats 1000000 in
theorem Fine_any (s : Sta) (w : World) : Calls Tryd.prog 14 #[.agg #[.int .i64 s.idx, .int .i64 s.term, .int .i64 s.sum, .int .i64 s.lvl, .bool s.fin]] w fun e w' => e = .returned (.bool s.ok) ∧ Ext w w' := by
  have hX : Ext w (w.alloc (.cells #[.int .i64 s.idx, .int .i64 s.term, .int .i64 s.sum, .int .i64 s.lvl, .bool s.fin] 23)) := Ext.alloc (Ext.refl _) _
  have hb := Blk.new w 23 #[.int .i64 s.idx, .int .i64 s.term, .int .i64 s.sum, .int .i64 s.lvl, .bool s.fin]
  by_cases h0 : s.idx = 0
  · have e0 : (s.idx == 0) = true := by rw [h0]; rfl
    have heq := staEq_run s ⟨0, 0, 0, 1, false⟩
    have hgd := staGuard
    have hok : s.ok = staEq s ⟨0, 0, 0, 1, false⟩ := by
      unfold Sta.ok staEq
      rw [if_pos h0, h0]
      rw [Bool.eq_iff_iff]
      simp [and_assoc]
    have Hok := Lib.hid hok
    clear hok h0
    dsimp only at heq
    go_enter Tryd.func14, Tryd.ntmps14
    go_wp2_with fail
    go_region_held3 (fun w' => w'.cell? ⟨w.heap.size, 0, none⟩ = some (.int .i64 s.idx) ∧ w'.cell? ⟨w.heap.size, 1, none⟩ = some (.int .i64 s.term) ∧ w'.cell? ⟨w.heap.size, 2, none⟩ = some (.int .i64 s.sum) ∧ w'.cell? ⟨w.heap.size, 3, none⟩ = some (.int .i64 s.lvl) ∧ w'.cell? ⟨w.heap.size, 4, none⟩ = some (.bool s.fin)) (first | go_keep | (refine ⟨?_, ?_, ?_, ?_, ?_⟩ <;> assumption))
      (first | (go_at_call 22; refine (First_any _).mono ?_; rintro e w1 ⟨rfl, hE1⟩; have hE' : Ext (w.alloc (.cells #[.int .i64 s.idx, .int .i64 s.term, .int .i64 s.sum, .int .i64 s.lvl, .bool s.fin] 23)) w1 := Ext.trans (Ext.drew (Ext.refl _)) hE1; obtain ⟨g0, g1, g2, g3, g4⟩ := blk5 (hb.ext hE')))
    go_wp2_with fail
    go_ret
    exact ⟨by rw [Hok.out]; rfl, Ext.trans hX hE'⟩
  · have e0 : (s.idx == 0) = false := by rw [beq_eq_false_iff_ne]; exact h0
    cases hf : s.fin with
    | true =>
      have hok : s.ok = ((s.lvl == 2) && numB s.idx && decide (0 < s.term) && numB s.term && numB s.sum) := by
        unfold Sta.ok
        rw [if_neg h0, if_pos hf]
        congr 4
      have Hok := Lib.hid hok
      clear hok h0
      go_enter Tryd.func14, Tryd.ntmps14
      go_wp2_with (go_at_call 23; refine (number_any _ _).mono ?_; rintro e w1 ⟨rfl, rfl⟩)
      all_goals
        go_ret
        refine ⟨ret_bool ?_, Ext.alloc (Ext.refl _) _⟩
        rw [Hok.out]
        simp_all
        try (intro h; omega)
    | false =>
      have hok : s.ok = (decide (s.lvl = 1 ∨ s.lvl = 2) && numB s.idx && decide (0 < s.term) && numB s.term && numB s.sum) := by
        unfold Sta.ok
        rw [if_neg h0, if_neg (by rw [hf]; simp)]
      have Hok := Lib.hid hok
      clear hok h0
      go_enter Tryd.func14, Tryd.ntmps14
      go_wp2_with (go_at_call 23; refine (number_any _ _).mono ?_; rintro e w1 ⟨rfl, rfl⟩)
      all_goals
        go_ret
        refine ⟨ret_bool ?_, Ext.alloc (Ext.refl _) _⟩
        rw [Hok.out]
        simp_all
        try (intro h; omega)

def fine6 (s : Sta) : Bool := numB s.idx && numB s.term && numB s.sum && ((s.term == 0) == (s.idx == 0)) && (s.lvl == 1 || s.lvl == 2) && (!s.fin || s.lvl == 2) && (decide (0 < s.idx) || staEq s ⟨0, 0, 0, 1, false⟩)
theorem fine6_ok (s : Sta) : fine6 s = s.ok := by
  obtain ⟨i, t, u, l, b⟩ := s
  unfold fine6 Sta.ok staEq
  dsimp only
  by_cases hi : i = 0
  · subst hi
    rw [if_pos rfl, Bool.eq_iff_iff]
    simp only [Bool.and_eq_true, Bool.or_eq_true, beq_iff_eq, decide_eq_true_eq, Bool.not_eq_true', numB]
    constructor
    · rintro ⟨_, h⟩
      rcases h with h | ⟨⟨⟨⟨_, h1⟩, h2⟩, h3⟩, h4⟩
      · omega
      · exact ⟨h1, h2, h3, h4⟩
    · rintro ⟨rfl, rfl, rfl, rfl⟩
      simp
  · rw [if_neg hi]
    have e1 : (i == 0) = false := by simpa using hi
    have hip : numB i = true → decide (0 < i) = true := fun h => decide_eq_true (by have := numB_true.1 h; omega)
    cases hn : numB i with
    | false => simp
    | true =>
      cases ht : numB t with
      | false => simp
      | true =>
        have h0 := numB_true.1 ht
        by_cases t0 : t = 0
        · subst t0
          simp [e1]
        · have e2 : (t == 0) = false := by simpa using t0
          have e3 : decide (0 < t) = true := decide_eq_true (by omega)
          rw [e1, e2, e3, hip hn]
          cases hu : numB u with
          | false => simp
          | true =>
            cases b
            · simp
              rw [Bool.eq_iff_iff]
              simp
            · by_cases l2 : l = 2
              · simp [l2]
              · simp [l2]

set_option maxHeartbeats 2000000 in
theorem Fine6_raw (i t u l : Int) (b : Bool) (w : World) : Calls Tryd.prog 8 #[.agg #[.int .i64 i, .int .i64 t, .int .i64 u, .int .i64 l, .bool b]] w fun e w' => e = .returned (.bool (fine6 ⟨i, t, u, l, b⟩)) ∧ Ext w w' := by
  have hX : Ext w (w.alloc (.cells #[.int .i64 i, .int .i64 t, .int .i64 u, .int .i64 l, .bool b] 23)) := Ext.alloc (Ext.refl _) _
  have hb := Blk.new w 23 #[.int .i64 i, .int .i64 t, .int .i64 u, .int .i64 l, .bool b]
  have Hf : Hid (fine6 ⟨i, t, u, l, b⟩ = (numB i && numB t && numB u && ((t == 0) == (i == 0)) && (l == 1 || l == 2) && (!b || l == 2) && (decide (0 < i) || staEq ⟨i, t, u, l, b⟩ ⟨0, 0, 0, 1, false⟩))) := rfl
  have heq := staEq_run ⟨i, t, u, l, b⟩ ⟨0, 0, 0, 1, false⟩
  have hgd := staGuard
  dsimp only at heq
  go_enter Tryd.func8, Tryd.ntmps8
  go_wp2_with (go_at_call 16; refine (number6_any _ _).mono ?_; rintro e w1 ⟨rfl, rfl⟩)
  all_goals try (go_ret; refine ⟨ret_bool ?_, Ext.alloc (Ext.refl _) _⟩; rw [Hf.out]; simp_all; done)
  · subst l
    obtain rfl : b = false := by simp_all
    by_cases hi : 0 < i
    · skip
      refine wp_region_held_drew (S := (fun w' => w'.cell? ⟨w.heap.size, 0, none⟩ = some (.int .i64 i) ∧ w'.cell? ⟨w.heap.size, 1, none⟩ = some (.int .i64 t) ∧ w'.cell? ⟨w.heap.size, 2, none⟩ = some (.int .i64 u) ∧ w'.cell? ⟨w.heap.size, 3, none⟩ = some (.int .i64 1) ∧ w'.cell? ⟨w.heap.size, 4, none⟩ = some (.bool false))) (by kernel_rfl) (blk5 (hb.ext (Ext.drew (Ext.refl _)))) (fun hHeld => ?_)
      refine wpAnyH_takeL (i := 0) (v := ?v1_0) rfl (by kernel_rfl) (by kernel_rfl) (by kernel_rfl) (fun _ _ _ h => h) (by rfl) (by assumption) (fun w hw => ?h1_0) ?r1_0
      case h1_0 => (try dsimp only at hw); go_simp; try with_reducible rfl
      case' r1_0 => skip
      try simp only [Act.put, List.setIfInBounds_toArray, List.set_cons_zero, List.set_cons_succ]
      refine wpAnyH_takeL (i := 1) (v := ?v1_1) rfl (by kernel_rfl) (by kernel_rfl) (by kernel_rfl) (fun _ _ _ h => h) (by rfl) (by assumption) (fun w hw => ?h1_1) ?r1_1
      case h1_1 => (try dsimp only at hw); go_simp; try with_reducible rfl
      case' r1_1 => skip
      try simp only [Act.put, List.setIfInBounds_toArray, List.set_cons_zero, List.set_cons_succ]
      refine wpAnyH_takeL (i := 2) (v := ?v1_2) rfl (by kernel_rfl) (by kernel_rfl) (by kernel_rfl) (fun _ _ _ h => h) (by rfl) (by assumption) (fun w hw => ?h1_2) ?r1_2
      case h1_2 => (try dsimp only at hw); go_simp; try with_reducible rfl
      case' r1_2 => skip
      try simp only [Act.put, List.setIfInBounds_toArray, List.set_cons_zero, List.set_cons_succ]
      refine wpAnyH_takeL (i := 3) (v := ?v1_3) rfl (by kernel_rfl) (by kernel_rfl) (by kernel_rfl) (fun _ _ _ h => h) (by rfl) (by assumption) (fun w hw => ?h1_3) ?r1_3
      case h1_3 => (try dsimp only at hw); go_simp; try with_reducible rfl
      case' r1_3 => skip
      try simp only [Act.put, List.setIfInBounds_toArray, List.set_cons_zero, List.set_cons_succ]
      refine wpAnyH_skipL (i := 4) rfl (by kernel_rfl) (by kernel_rfl) (by kernel_rfl) (fun _ _ _ h => h) (by rfl) (by assumption) ?_
      try simp only [Act.put, List.setIfInBounds_toArray, List.set_cons_zero, List.set_cons_succ]
      refine wpAnyH_skipL (i := 5) rfl (by kernel_rfl) (by kernel_rfl) (by kernel_rfl) (fun _ _ _ h => h) (by rfl) (by assumption) ?_
      try simp only [Act.put, List.setIfInBounds_toArray, List.set_cons_zero, List.set_cons_succ]
      refine wpAnyH_skipL (i := 6) rfl (by kernel_rfl) (by kernel_rfl) (by kernel_rfl) (fun _ _ _ h => h) (by rfl) (by assumption) ?_
      try simp only [Act.put, List.setIfInBounds_toArray, List.set_cons_zero, List.set_cons_succ]
      refine wpAnyH_takeL (i := 7) (v := ?v3_7) rfl (by kernel_rfl) (by kernel_rfl) (by kernel_rfl) (fun _ _ _ h => h) (by rfl) (by assumption) (fun w hw => ?h3_7) ?r3_7
      case h3_7 => (try dsimp only at hw); go_simp; try with_reducible rfl
      case' r3_7 => skip
      try simp only [Act.put, List.setIfInBounds_toArray, List.set_cons_zero, List.set_cons_succ]
      refine wpAnyH_takeL (i := 8) (v := ?v3_8) rfl (by kernel_rfl) (by kernel_rfl) (by kernel_rfl) (fun _ _ _ h => h) (by rfl) (by assumption) (fun w hw => ?h3_8) ?r3_8
      case h3_8 => (try dsimp only at hw); go_simp; try with_reducible rfl
      case' r3_8 => skip
      try simp only [Act.put, List.setIfInBounds_toArray, List.set_cons_zero, List.set_cons_succ]
      refine wpAnyH_done (by kernel_rfl) ?_ _
      go_wp2_with fail
      go_ret
      refine ⟨ret_bool ?_, Ext.trans hX (Ext.drew (Ext.refl _))⟩
      rw [Hf.out]
      simp_all
      try (intro h; omega)
    · skip
      refine wp_region_held_drew (S := (fun w' => w'.cell? ⟨w.heap.size, 0, none⟩ = some (.int .i64 i) ∧ w'.cell? ⟨w.heap.size, 1, none⟩ = some (.int .i64 t) ∧ w'.cell? ⟨w.heap.size, 2, none⟩ = some (.int .i64 u) ∧ w'.cell? ⟨w.heap.size, 3, none⟩ = some (.int .i64 1) ∧ w'.cell? ⟨w.heap.size, 4, none⟩ = some (.bool false))) (by kernel_rfl) (blk5 (hb.ext (Ext.drew (Ext.refl _)))) (fun hHeld => ?_)
      refine wpAnyH_takeL (i := 0) (v := ?v5_0) rfl (by kernel_rfl) (by kernel_rfl) (by kernel_rfl) (fun _ _ _ h => h) (by rfl) (by assumption) (fun w hw => ?h5_0) ?r5_0
      case h5_0 => (try dsimp only at hw); go_simp; try with_reducible rfl
      case' r5_0 => skip
      try simp only [Act.put, List.setIfInBounds_toArray, List.set_cons_zero, List.set_cons_succ]
      refine wpAnyH_takeL (i := 1) (v := ?v5_1) rfl (by kernel_rfl) (by kernel_rfl) (by kernel_rfl) (fun _ _ _ h => h) (by rfl) (by assumption) (fun w hw => ?h5_1) ?r5_1
      case h5_1 => (try dsimp only at hw); go_simp; try with_reducible rfl
      case' r5_1 => skip
      try simp only [Act.put, List.setIfInBounds_toArray, List.set_cons_zero, List.set_cons_succ]
      refine wpAnyH_takeL (i := 2) (v := ?v5_2) rfl (by kernel_rfl) (by kernel_rfl) (by kernel_rfl) (fun _ _ _ h => h) (by rfl) (by assumption) (fun w hw => ?h5_2) ?r5_2
      case h5_2 => (try dsimp only at hw); go_simp; try with_reducible rfl
      case' r5_2 => skip
      try simp only [Act.put, List.setIfInBounds_toArray, List.set_cons_zero, List.set_cons_succ]
      refine wpAnyH_takeL (i := 3) (v := ?v5_3) rfl (by kernel_rfl) (by kernel_rfl) (by kernel_rfl) (fun _ _ _ h => h) (by rfl) (by assumption) (fun w hw => ?h5_3) ?r5_3
      case h5_3 => (try dsimp only at hw); go_simp; try with_reducible rfl
      case' r5_3 => skip
      try simp only [Act.put, List.setIfInBounds_toArray, List.set_cons_zero, List.set_cons_succ]
      refine wpAnyH_takeL (i := 4) (v := ?v5_4) rfl (by kernel_rfl) (by kernel_rfl) (by kernel_rfl) (fun _ _ _ h => h) (by rfl) (by assumption) (fun w hw => ?h5_4) ?r5_4
      case h5_4 => (try dsimp only at hw); go_simp; try with_reducible rfl
      case' r5_4 => skip
      try simp only [Act.put, List.setIfInBounds_toArray, List.set_cons_zero, List.set_cons_succ]
      refine AllReadyH.one (i := 5) rfl (by kernel_rfl) (by rfl) (fun K hK => ?_)
      go_simp
      refine (First6_any _).mono ?_
      rintro e w1 ⟨rfl, hE1⟩
      have hE' : Ext (w.alloc (.cells #[.int .i64 i, .int .i64 t, .int .i64 u, .int .i64 1, .bool false] 23)) w1 := Ext.trans (Ext.drew (Ext.refl _)) hE1
      try (go_wp2_with fail)
      refine hK.out _ _ (blk5 (hb.ext hE')) (fun hHeld => ?_)
      clear hK K
      try simp only [Act.put, List.setIfInBounds_toArray, List.set_cons_zero, List.set_cons_succ]
      refine wpAnyH_takeL (i := 6) (v := ?v8_6) rfl (by kernel_rfl) (by kernel_rfl) (by kernel_rfl) (fun _ _ _ h => h) (by rfl) (by assumption) (fun w hw => ?h8_6) ?r8_6
      case h8_6 => (try dsimp only at hw); go_simp; try with_reducible rfl
      case' r8_6 => skip
      try simp only [Act.put, List.setIfInBounds_toArray, List.set_cons_zero, List.set_cons_succ]
      refine wpAnyH_takeL (i := 7) (v := ?v8_7) rfl (by kernel_rfl) (by kernel_rfl) (by kernel_rfl) (fun _ _ _ h => h) (by rfl) (by assumption) (fun w hw => ?h8_7) ?r8_7
      case h8_7 => (try dsimp only at hw); go_simp; try with_reducible rfl
      case' r8_7 => skip
      try simp only [Act.put, List.setIfInBounds_toArray, List.set_cons_zero, List.set_cons_succ]
      refine wpAnyH_takeL (i := 8) (v := ?v8_8) rfl (by kernel_rfl) (by kernel_rfl) (by kernel_rfl) (fun _ _ _ h => h) (by rfl) (by assumption) (fun w hw => ?h8_8) ?r8_8
      case h8_8 => (try dsimp only at hw); go_simp; try with_reducible rfl
      case' r8_8 => skip
      try simp only [Act.put, List.setIfInBounds_toArray, List.set_cons_zero, List.set_cons_succ]
      refine wpAnyH_done (by kernel_rfl) ?_ _
      go_wp2_with fail
      go_ret
      refine ⟨ret_bool ?_, Ext.trans hX hE'⟩
      rw [Hf.out]
      simp_all
      try (intro h; omega)
  · try subst l
    try subst b
    by_cases hi : 0 < i
    · skip
      refine wp_region_held_drew (S := (fun w' => w'.cell? ⟨w.heap.size, 0, none⟩ = some (.int .i64 i) ∧ w'.cell? ⟨w.heap.size, 1, none⟩ = some (.int .i64 t) ∧ w'.cell? ⟨w.heap.size, 2, none⟩ = some (.int .i64 u) ∧ w'.cell? ⟨w.heap.size, 3, none⟩ = some (.int .i64 2) ∧ w'.cell? ⟨w.heap.size, 4, none⟩ = some (.bool true))) (by kernel_rfl) (blk5 (hb.ext (Ext.drew (Ext.refl _)))) (fun hHeld => ?_)
      refine wpAnyH_takeL (i := 0) (v := ?v10_0) rfl (by kernel_rfl) (by kernel_rfl) (by kernel_rfl) (fun _ _ _ h => h) (by rfl) (by assumption) (fun w hw => ?h10_0) ?r10_0
      case h10_0 => (try dsimp only at hw); go_simp; try with_reducible rfl
      case' r10_0 => skip
      try simp only [Act.put, List.setIfInBounds_toArray, List.set_cons_zero, List.set_cons_succ]
      refine wpAnyH_takeL (i := 1) (v := ?v10_1) rfl (by kernel_rfl) (by kernel_rfl) (by kernel_rfl) (fun _ _ _ h => h) (by rfl) (by assumption) (fun w hw => ?h10_1) ?r10_1
      case h10_1 => (try dsimp only at hw); go_simp; try with_reducible rfl
      case' r10_1 => skip
      try simp only [Act.put, List.setIfInBounds_toArray, List.set_cons_zero, List.set_cons_succ]
      refine wpAnyH_takeL (i := 2) (v := ?v10_2) rfl (by kernel_rfl) (by kernel_rfl) (by kernel_rfl) (fun _ _ _ h => h) (by rfl) (by assumption) (fun w hw => ?h10_2) ?r10_2
      case h10_2 => (try dsimp only at hw); go_simp; try with_reducible rfl
      case' r10_2 => skip
      try simp only [Act.put, List.setIfInBounds_toArray, List.set_cons_zero, List.set_cons_succ]
      refine wpAnyH_takeL (i := 3) (v := ?v10_3) rfl (by kernel_rfl) (by kernel_rfl) (by kernel_rfl) (fun _ _ _ h => h) (by rfl) (by assumption) (fun w hw => ?h10_3) ?r10_3
      case h10_3 => (try dsimp only at hw); go_simp; try with_reducible rfl
      case' r10_3 => skip
      try simp only [Act.put, List.setIfInBounds_toArray, List.set_cons_zero, List.set_cons_succ]
      refine wpAnyH_skipL (i := 4) rfl (by kernel_rfl) (by kernel_rfl) (by kernel_rfl) (fun _ _ _ h => h) (by rfl) (by assumption) ?_
      try simp only [Act.put, List.setIfInBounds_toArray, List.set_cons_zero, List.set_cons_succ]
      refine wpAnyH_skipL (i := 5) rfl (by kernel_rfl) (by kernel_rfl) (by kernel_rfl) (fun _ _ _ h => h) (by rfl) (by assumption) ?_
      try simp only [Act.put, List.setIfInBounds_toArray, List.set_cons_zero, List.set_cons_succ]
      refine wpAnyH_skipL (i := 6) rfl (by kernel_rfl) (by kernel_rfl) (by kernel_rfl) (fun _ _ _ h => h) (by rfl) (by assumption) ?_
      try simp only [Act.put, List.setIfInBounds_toArray, List.set_cons_zero, List.set_cons_succ]
      refine wpAnyH_takeL (i := 7) (v := ?v12_7) rfl (by kernel_rfl) (by kernel_rfl) (by kernel_rfl) (fun _ _ _ h => h) (by rfl) (by assumption) (fun w hw => ?h12_7) ?r12_7
      case h12_7 => (try dsimp only at hw); go_simp; try with_reducible rfl
      case' r12_7 => skip
      try simp only [Act.put, List.setIfInBounds_toArray, List.set_cons_zero, List.set_cons_succ]
      refine wpAnyH_takeL (i := 8) (v := ?v12_8) rfl (by kernel_rfl) (by kernel_rfl) (by kernel_rfl) (fun _ _ _ h => h) (by rfl) (by assumption) (fun w hw => ?h12_8) ?r12_8
      case h12_8 => (try dsimp only at hw); go_simp; try with_reducible rfl
      case' r12_8 => skip
      try simp only [Act.put, List.setIfInBounds_toArray, List.set_cons_zero, List.set_cons_succ]
      refine wpAnyH_done (by kernel_rfl) ?_ _
      go_wp2_with fail
      go_ret
      refine ⟨ret_bool ?_, Ext.trans hX (Ext.drew (Ext.refl _))⟩
      rw [Hf.out]
      simp_all
      try (intro h; omega)
    · skip
      refine wp_region_held_drew (S := (fun w' => w'.cell? ⟨w.heap.size, 0, none⟩ = some (.int .i64 i) ∧ w'.cell? ⟨w.heap.size, 1, none⟩ = some (.int .i64 t) ∧ w'.cell? ⟨w.heap.size, 2, none⟩ = some (.int .i64 u) ∧ w'.cell? ⟨w.heap.size, 3, none⟩ = some (.int .i64 2) ∧ w'.cell? ⟨w.heap.size, 4, none⟩ = some (.bool true))) (by kernel_rfl) (blk5 (hb.ext (Ext.drew (Ext.refl _)))) (fun hHeld => ?_)
      refine wpAnyH_takeL (i := 0) (v := ?v14_0) rfl (by kernel_rfl) (by kernel_rfl) (by kernel_rfl) (fun _ _ _ h => h) (by rfl) (by assumption) (fun w hw => ?h14_0) ?r14_0
      case h14_0 => (try dsimp only at hw); go_simp; try with_reducible rfl
      case' r14_0 => skip
      try simp only [Act.put, List.setIfInBounds_toArray, List.set_cons_zero, List.set_cons_succ]
      refine wpAnyH_takeL (i := 1) (v := ?v14_1) rfl (by kernel_rfl) (by kernel_rfl) (by kernel_rfl) (fun _ _ _ h => h) (by rfl) (by assumption) (fun w hw => ?h14_1) ?r14_1
      case h14_1 => (try dsimp only at hw); go_simp; try with_reducible rfl
      case' r14_1 => skip
      try simp only [Act.put, List.setIfInBounds_toArray, List.set_cons_zero, List.set_cons_succ]
      refine wpAnyH_takeL (i := 2) (v := ?v14_2) rfl (by kernel_rfl) (by kernel_rfl) (by kernel_rfl) (fun _ _ _ h => h) (by rfl) (by assumption) (fun w hw => ?h14_2) ?r14_2
      case h14_2 => (try dsimp only at hw); go_simp; try with_reducible rfl
      case' r14_2 => skip
      try simp only [Act.put, List.setIfInBounds_toArray, List.set_cons_zero, List.set_cons_succ]
      refine wpAnyH_takeL (i := 3) (v := ?v14_3) rfl (by kernel_rfl) (by kernel_rfl) (by kernel_rfl) (fun _ _ _ h => h) (by rfl) (by assumption) (fun w hw => ?h14_3) ?r14_3
      case h14_3 => (try dsimp only at hw); go_simp; try with_reducible rfl
      case' r14_3 => skip
      try simp only [Act.put, List.setIfInBounds_toArray, List.set_cons_zero, List.set_cons_succ]
      refine wpAnyH_takeL (i := 4) (v := ?v14_4) rfl (by kernel_rfl) (by kernel_rfl) (by kernel_rfl) (fun _ _ _ h => h) (by rfl) (by assumption) (fun w hw => ?h14_4) ?r14_4
      case h14_4 => (try dsimp only at hw); go_simp; try with_reducible rfl
      case' r14_4 => skip
      try simp only [Act.put, List.setIfInBounds_toArray, List.set_cons_zero, List.set_cons_succ]
      refine AllReadyH.one (i := 5) rfl (by kernel_rfl) (by rfl) (fun K hK => ?_)
      go_simp
      refine (First6_any _).mono ?_
      rintro e w1 ⟨rfl, hE1⟩
      have hE' : Ext (w.alloc (.cells #[.int .i64 i, .int .i64 t, .int .i64 u, .int .i64 2, .bool true] 23)) w1 := Ext.trans (Ext.drew (Ext.refl _)) hE1
      try (go_wp2_with fail)
      refine hK.out _ _ (blk5 (hb.ext hE')) (fun hHeld => ?_)
      clear hK K
      try simp only [Act.put, List.setIfInBounds_toArray, List.set_cons_zero, List.set_cons_succ]
      refine wpAnyH_takeL (i := 6) (v := ?v17_6) rfl (by kernel_rfl) (by kernel_rfl) (by kernel_rfl) (fun _ _ _ h => h) (by rfl) (by assumption) (fun w hw => ?h17_6) ?r17_6
      case h17_6 => (try dsimp only at hw); go_simp; try with_reducible rfl
      case' r17_6 => skip
      try simp only [Act.put, List.setIfInBounds_toArray, List.set_cons_zero, List.set_cons_succ]
      refine wpAnyH_takeL (i := 7) (v := ?v17_7) rfl (by kernel_rfl) (by kernel_rfl) (by kernel_rfl) (fun _ _ _ h => h) (by rfl) (by assumption) (fun w hw => ?h17_7) ?r17_7
      case h17_7 => (try dsimp only at hw); go_simp; try with_reducible rfl
      case' r17_7 => skip
      try simp only [Act.put, List.setIfInBounds_toArray, List.set_cons_zero, List.set_cons_succ]
      refine wpAnyH_takeL (i := 8) (v := ?v17_8) rfl (by kernel_rfl) (by kernel_rfl) (by kernel_rfl) (fun _ _ _ h => h) (by rfl) (by assumption) (fun w hw => ?h17_8) ?r17_8
      case h17_8 => (try dsimp only at hw); go_simp; try with_reducible rfl
      case' r17_8 => skip
      try simp only [Act.put, List.setIfInBounds_toArray, List.set_cons_zero, List.set_cons_succ]
      refine wpAnyH_done (by kernel_rfl) ?_ _
      go_wp2_with fail
      go_ret
      refine ⟨ret_bool ?_, Ext.trans hX hE'⟩
      rw [Hf.out]
      simp_all
      try (intro h; omega)
  · subst l
    obtain rfl : b = false := by simp_all
    by_cases hi : 0 < i
    · skip
      refine wp_region_held_drew (S := (fun w' => w'.cell? ⟨w.heap.size, 0, none⟩ = some (.int .i64 i) ∧ w'.cell? ⟨w.heap.size, 1, none⟩ = some (.int .i64 t) ∧ w'.cell? ⟨w.heap.size, 2, none⟩ = some (.int .i64 u) ∧ w'.cell? ⟨w.heap.size, 3, none⟩ = some (.int .i64 2) ∧ w'.cell? ⟨w.heap.size, 4, none⟩ = some (.bool false))) (by kernel_rfl) (blk5 (hb.ext (Ext.drew (Ext.refl _)))) (fun hHeld => ?_)
      refine wpAnyH_takeL (i := 0) (v := ?v19_0) rfl (by kernel_rfl) (by kernel_rfl) (by kernel_rfl) (fun _ _ _ h => h) (by rfl) (by assumption) (fun w hw => ?h19_0) ?r19_0
      case h19_0 => (try dsimp only at hw); go_simp; try with_reducible rfl
      case' r19_0 => skip
      try simp only [Act.put, List.setIfInBounds_toArray, List.set_cons_zero, List.set_cons_succ]
      refine wpAnyH_takeL (i := 1) (v := ?v19_1) rfl (by kernel_rfl) (by kernel_rfl) (by kernel_rfl) (fun _ _ _ h => h) (by rfl) (by assumption) (fun w hw => ?h19_1) ?r19_1
      case h19_1 => (try dsimp only at hw); go_simp; try with_reducible rfl
      case' r19_1 => skip
      try simp only [Act.put, List.setIfInBounds_toArray, List.set_cons_zero, List.set_cons_succ]
      refine wpAnyH_takeL (i := 2) (v := ?v19_2) rfl (by kernel_rfl) (by kernel_rfl) (by kernel_rfl) (fun _ _ _ h => h) (by rfl) (by assumption) (fun w hw => ?h19_2) ?r19_2
      case h19_2 => (try dsimp only at hw); go_simp; try with_reducible rfl
      case' r19_2 => skip
      try simp only [Act.put, List.setIfInBounds_toArray, List.set_cons_zero, List.set_cons_succ]
      refine wpAnyH_takeL (i := 3) (v := ?v19_3) rfl (by kernel_rfl) (by kernel_rfl) (by kernel_rfl) (fun _ _ _ h => h) (by rfl) (by assumption) (fun w hw => ?h19_3) ?r19_3
      case h19_3 => (try dsimp only at hw); go_simp; try with_reducible rfl
      case' r19_3 => skip
      try simp only [Act.put, List.setIfInBounds_toArray, List.set_cons_zero, List.set_cons_succ]
      refine wpAnyH_skipL (i := 4) rfl (by kernel_rfl) (by kernel_rfl) (by kernel_rfl) (fun _ _ _ h => h) (by rfl) (by assumption) ?_
      try simp only [Act.put, List.setIfInBounds_toArray, List.set_cons_zero, List.set_cons_succ]
      refine wpAnyH_skipL (i := 5) rfl (by kernel_rfl) (by kernel_rfl) (by kernel_rfl) (fun _ _ _ h => h) (by rfl) (by assumption) ?_
      try simp only [Act.put, List.setIfInBounds_toArray, List.set_cons_zero, List.set_cons_succ]
      refine wpAnyH_skipL (i := 6) rfl (by kernel_rfl) (by kernel_rfl) (by kernel_rfl) (fun _ _ _ h => h) (by rfl) (by assumption) ?_
      try simp only [Act.put, List.setIfInBounds_toArray, List.set_cons_zero, List.set_cons_succ]
      refine wpAnyH_takeL (i := 7) (v := ?v21_7) rfl (by kernel_rfl) (by kernel_rfl) (by kernel_rfl) (fun _ _ _ h => h) (by rfl) (by assumption) (fun w hw => ?h21_7) ?r21_7
      case h21_7 => (try dsimp only at hw); go_simp; try with_reducible rfl
      case' r21_7 => skip
      try simp only [Act.put, List.setIfInBounds_toArray, List.set_cons_zero, List.set_cons_succ]
      refine wpAnyH_takeL (i := 8) (v := ?v21_8) rfl (by kernel_rfl) (by kernel_rfl) (by kernel_rfl) (fun _ _ _ h => h) (by rfl) (by assumption) (fun w hw => ?h21_8) ?r21_8
      case h21_8 => (try dsimp only at hw); go_simp; try with_reducible rfl
      case' r21_8 => skip
      try simp only [Act.put, List.setIfInBounds_toArray, List.set_cons_zero, List.set_cons_succ]
      refine wpAnyH_done (by kernel_rfl) ?_ _
      go_wp2_with fail
      go_ret
      refine ⟨ret_bool ?_, Ext.trans hX (Ext.drew (Ext.refl _))⟩
      rw [Hf.out]
      simp_all
      try (intro h; omega)
    · skip
      refine wp_region_held_drew (S := (fun w' => w'.cell? ⟨w.heap.size, 0, none⟩ = some (.int .i64 i) ∧ w'.cell? ⟨w.heap.size, 1, none⟩ = some (.int .i64 t) ∧ w'.cell? ⟨w.heap.size, 2, none⟩ = some (.int .i64 u) ∧ w'.cell? ⟨w.heap.size, 3, none⟩ = some (.int .i64 2) ∧ w'.cell? ⟨w.heap.size, 4, none⟩ = some (.bool false))) (by kernel_rfl) (blk5 (hb.ext (Ext.drew (Ext.refl _)))) (fun hHeld => ?_)
      refine wpAnyH_takeL (i := 0) (v := ?v23_0) rfl (by kernel_rfl) (by kernel_rfl) (by kernel_rfl) (fun _ _ _ h => h) (by rfl) (by assumption) (fun w hw => ?h23_0) ?r23_0
      case h23_0 => (try dsimp only at hw); go_simp; try with_reducible rfl
      case' r23_0 => skip
      try simp only [Act.put, List.setIfInBounds_toArray, List.set_cons_zero, List.set_cons_succ]
      refine wpAnyH_takeL (i := 1) (v := ?v23_1) rfl (by kernel_rfl) (by kernel_rfl) (by kernel_rfl) (fun _ _ _ h => h) (by rfl) (by assumption) (fun w hw => ?h23_1) ?r23_1
      case h23_1 => (try dsimp only at hw); go_simp; try with_reducible rfl
      case' r23_1 => skip
      try simp only [Act.put, List.setIfInBounds_toArray, List.set_cons_zero, List.set_cons_succ]
      refine wpAnyH_takeL (i := 2) (v := ?v23_2) rfl (by kernel_rfl) (by kernel_rfl) (by kernel_rfl) (fun _ _ _ h => h) (by rfl) (by assumption) (fun w hw => ?h23_2) ?r23_2
      case h23_2 => (try dsimp only at hw); go_simp; try with_reducible rfl
      case' r23_2 => skip
      try simp only [Act.put, List.setIfInBounds_toArray, List.set_cons_zero, List.set_cons_succ]
      refine wpAnyH_takeL (i := 3) (v := ?v23_3) rfl (by kernel_rfl) (by kernel_rfl) (by kernel_rfl) (fun _ _ _ h => h) (by rfl) (by assumption) (fun w hw => ?h23_3) ?r23_3
      case h23_3 => (try dsimp only at hw); go_simp; try with_reducible rfl
      case' r23_3 => skip
      try simp only [Act.put, List.setIfInBounds_toArray, List.set_cons_zero, List.set_cons_succ]
      refine wpAnyH_takeL (i := 4) (v := ?v23_4) rfl (by kernel_rfl) (by kernel_rfl) (by kernel_rfl) (fun _ _ _ h => h) (by rfl) (by assumption) (fun w hw => ?h23_4) ?r23_4
      case h23_4 => (try dsimp only at hw); go_simp; try with_reducible rfl
      case' r23_4 => skip
      try simp only [Act.put, List.setIfInBounds_toArray, List.set_cons_zero, List.set_cons_succ]
      refine AllReadyH.one (i := 5) rfl (by kernel_rfl) (by rfl) (fun K hK => ?_)
      go_simp
      refine (First6_any _).mono ?_
      rintro e w1 ⟨rfl, hE1⟩
      have hE' : Ext (w.alloc (.cells #[.int .i64 i, .int .i64 t, .int .i64 u, .int .i64 2, .bool false] 23)) w1 := Ext.trans (Ext.drew (Ext.refl _)) hE1
      try (go_wp2_with fail)
      refine hK.out _ _ (blk5 (hb.ext hE')) (fun hHeld => ?_)
      clear hK K
      try simp only [Act.put, List.setIfInBounds_toArray, List.set_cons_zero, List.set_cons_succ]
      refine wpAnyH_takeL (i := 6) (v := ?v26_6) rfl (by kernel_rfl) (by kernel_rfl) (by kernel_rfl) (fun _ _ _ h => h) (by rfl) (by assumption) (fun w hw => ?h26_6) ?r26_6
      case h26_6 => (try dsimp only at hw); go_simp; try with_reducible rfl
      case' r26_6 => skip
      try simp only [Act.put, List.setIfInBounds_toArray, List.set_cons_zero, List.set_cons_succ]
      refine wpAnyH_takeL (i := 7) (v := ?v26_7) rfl (by kernel_rfl) (by kernel_rfl) (by kernel_rfl) (fun _ _ _ h => h) (by rfl) (by assumption) (fun w hw => ?h26_7) ?r26_7
      case h26_7 => (try dsimp only at hw); go_simp; try with_reducible rfl
      case' r26_7 => skip
      try simp only [Act.put, List.setIfInBounds_toArray, List.set_cons_zero, List.set_cons_succ]
      refine wpAnyH_takeL (i := 8) (v := ?v26_8) rfl (by kernel_rfl) (by kernel_rfl) (by kernel_rfl) (fun _ _ _ h => h) (by rfl) (by assumption) (fun w hw => ?h26_8) ?r26_8
      case h26_8 => (try dsimp only at hw); go_simp; try with_reducible rfl
      case' r26_8 => skip
      try simp only [Act.put, List.setIfInBounds_toArray, List.set_cons_zero, List.set_cons_succ]
      refine wpAnyH_done (by kernel_rfl) ?_ _
      go_wp2_with fail
      go_ret
      refine ⟨ret_bool ?_, Ext.trans hX hE'⟩
      rw [Hf.out]
      simp_all
      try (intro h; omega)
theorem Fine6_any (s : Sta) (w : World) : Calls Tryd.prog 8 #[.agg #[.int .i64 s.idx, .int .i64 s.term, .int .i64 s.sum, .int .i64 s.lvl, .bool s.fin]] w fun e w' => e = .returned (.bool s.ok) ∧ Ext w w' := by
  rw [← fine6_ok s]
  exact Fine6_raw s.idx s.term s.sum s.lvl s.fin w
end Go.Proofs.YtkpdlkikkcnhiaaDoor

namespace Go.Proofs.YtkpdlkikkcnhiaaDoor
open Go.RowKit Go.Mv Go.Shelf
attribute [local go_sem] Oper.semAt_some
set_option maxRecDepth 100000

/-- Bytes' parts, so many bytes each, the last one at most. -/
def chunkL (n : Nat) (bs : List UInt8) : List (List UInt8) :=
  if h : bs = [] ∨ n = 0 then [] else bs.take n :: chunkL n (bs.drop n)
termination_by bs.length
decreasing_by
  have : 0 < bs.length := List.length_pos_iff.2 (fun e => h (.inl e))
  have : n ≠ 0 := fun e => h (.inr e)
  simp; omega
theorem chunkL_nil (n : Nat) : chunkL n [] = [] := by rw [chunkL]; simp
theorem chunkL_cons (n : Nat) (bs : List UInt8) (hn : 0 < n) (h : 0 < bs.length) : chunkL n bs = bs.take n :: chunkL n (bs.drop n) := by
  rw [chunkL, dif_neg]
  rintro (e | e)
  · rw [e] at h; simp at h
  · omega
theorem chunkL_at (n : Nat) (hn : 0 < n) : ∀ (i : Nat) (bs : List UInt8), (i * n < bs.length → (chunkL n bs)[i]? = some ((bs.drop (i * n)).take n)) ∧ (bs.length ≤ i * n → (chunkL n bs).length ≤ i) := by
  intro i
  induction i with
  | zero =>
    intro bs
    refine ⟨fun h => ?_, fun h => ?_⟩
    · rw [chunkL_cons n bs hn (by omega), Nat.zero_mul]
      rfl
    · have : bs = [] := List.eq_nil_of_length_eq_zero (by omega)
      rw [this, chunkL_nil]
      exact Nat.le_refl _
  | succ i ih =>
    intro bs
    have hm : (i + 1) * n = n + i * n := by rw [Nat.add_mul, Nat.one_mul, Nat.add_comm]
    rcases Nat.eq_zero_or_pos bs.length with h0 | h0
    · have : bs = [] := List.eq_nil_of_length_eq_zero h0
      subst this
      exact ⟨fun h => by simp at h, fun _ => by rw [chunkL_nil]; simp⟩
    · obtain ⟨h1, h2⟩ := ih (bs.drop n)
      rw [List.length_drop] at h1 h2
      rw [chunkL_cons n bs hn h0, hm]
      refine ⟨fun h => ?_, fun h => ?_⟩
      · rw [List.getElem?_cons_succ, h1 (by omega), List.drop_drop]
      · have := h2 (by omega)
        rw [List.length_cons]
        omega
theorem bytes_part {wo : World} {b off m c : Nat} {bs : List UInt8} (h : Bs wo (.slice (some ⟨b, off, none⟩) m c) bs) (k n : Nat) (hk : k + n ≤ bs.length) : Bs wo (.slice (some ⟨b, off + k, none⟩) n n) ((bs.drop k).take n) := by
  obtain ⟨h0, A, c', e, h1, h2, h3⟩ := h
  cases e
  unfold Bs
  have hl : ((bs.drop k).take n).length = n := by rw [List.length_take, List.length_drop]; omega
  rw [hl]
  refine ⟨by rw [List.length_map, hl]; omega, _, n, rfl, Nat.le_refl _, by omega, fun hn => ?_⟩
  obtain ⟨b', off', e', hc⟩ := h3 (by omega)
  cases e'
  refine ⟨b, off + k, rfl, fun j u hu => ?_⟩
  rw [Nat.add_assoc]
  refine hc (k + j) u ?_
  rw [← hu, List.getElem?_map, List.getElem?_map, List.getElem?_take, List.getElem?_drop]
  have hj : j < n := by
    have := (List.getElem?_eq_some_iff.1 hu).1
    rw [List.length_map, hl] at this
    exact this
  rw [if_pos hj]

set_option maxHeartbeats 1000000 in
theorem chunkB_seq (n : Nat) (hn0 : 0 < n) (hn8 : n ≤ 8) (wo W0 : World) (v : Value) (bs : List UInt8) (hbs : Bs wo v bs) (hlen : bs.length ≤ 1000000) (bx bn : Nat) (hB1 : Boxed W0 bx 24 v) (hB2 : Boxed W0 bn 3 (.int .i64 n)) :
    Seq Tryd.prog 46 #[.pointer (some ⟨bx, 0, none⟩), .pointer (some ⟨bn, 0, none⟩)]
      (fun (p : List UInt8) av _ => ∃ b off, av = #[.slice (some ⟨b, off, none⟩) p.length p.length] ∧ Bs wo (.slice (some ⟨b, off, none⟩) p.length p.length) p ∧ 0 < p.length ∧ p.length ≤ n) (fun k o => (k = bx ∧ o.ty = some 24) ∨ (k = bn ∧ o.ty = some 3)) (fun _ _ => False) (chunkL n bs) W0 := by
  intro l J Jx hJ hJx hY h0
  obtain ⟨A, c, rfl, h1, h2⟩ := SlR.open_ hbs
  refine (callsIn_wd (ro := none) (n := 9)).1 ?_
  refine callsIn_of_wp Tryd.func46 rfl trivial ?_ rfl
  simp only [Tryd.ntmps46, List.size_toArray, List.length_cons, List.length_nil, Nat.reduceAdd, Nat.reduceSub, Array.replicate_succ, Array.replicate_zero, List.push_toArray, List.append_toArray, List.nil_append, List.cons_append]
  have Hes := Lib.hid hbs
  clear hbs
  gi_wp2
  gi_loopw [4] (fun j W => ∃ (i k : Nat), j = .int .i64 k ∧ Hid (i * n = k) ∧ k ≤ bs.length + n ∧ Hid (J ((chunkL n bs).take i) W) ∧ Boxed W bx 24 (.slice A bs.length c) ∧ Boxed W bn 3 (.int .i64 n) ∧ W0.heap.size ≤ W.heap.size) (fun j _ => bs.length + 16 - (intOf j).toNat)
  case atStart => exact ⟨0, 0, rfl, by show 0 * n = 0; rw [Nat.zero_mul], by omega, h0, hB1, hB2, Nat.le_refl _⟩
  case round =>
    obtain ⟨i, k, rfl, Hk, hkl, HJ, b1, b2, hsz⟩ := hrel
    have c1 := b1.cell
    have c2 := b2.cell
    obtain ⟨hat, hend⟩ := chunkL_at n hn0 i bs
    rw [Hk.out] at hat hend
    by_cases hlt : k < bs.length
    · have hes' := Hes.out
      obtain ⟨hx, b, off, rfl, hc⟩ := Bs.at_ hes' (by omega)
      clear hc hx
      obtain ⟨m, hm⟩ : ∃ m, min n (bs.length - k) = m := ⟨_, rfl⟩
      have hmn : m ≤ n := by omega
      have hm0 : 0 < m := by omega
      have hml : k + m ≤ bs.length := by omega
      obtain ⟨p, hp⟩ : ∃ p, (bs.drop k).take n = p := ⟨_, rfl⟩
      have hpl : p.length = m := by rw [← hp, List.length_take, List.length_drop, hm]
      have hpb := bytes_part hes' k m hml
      have hpe : (bs.drop k).take m = p := by
        rw [← hp]
        rcases Nat.le_total n (bs.length - k) with h | h
        · rw [show m = n from by omega]
        · rw [List.take_of_length_le (by rw [List.length_drop]; omega), List.take_of_length_le (by rw [List.length_drop]; omega)]
      rw [hpe] at hpb
      have Hp := Lib.hid hpb
      have hgi := hat hlt
      rw [hp] at hgi
      obtain ⟨hil, hge⟩ := List.getElem?_eq_some_iff.1 hgi
      have htk : (chunkL n bs).take (i + 1) = (chunkL n bs).take i ++ [p] := by rw [List.take_succ_eq_append_getElem hil, hge]
      have Htk := Lib.hid htk
      have hsp : chunkL n bs = (chunkL n bs).take i ++ p :: (chunkL n bs).drop (i + 1) := by rw [← hge, ← List.drop_eq_getElem_cons hil, List.take_append_drop]
      have Hsp := Lib.hid hsp
      have hk1 : (i + 1) * n = k + n := by have := Hk.out; rw [Nat.add_mul, Nat.one_mul, this]
      have Hk1 := Lib.hid hk1
      have Hm := Lib.hid hm
      clear htk hsp hes' hat hend hgi hil hge hpe hpb hp hk1 hm
      gi_wp2
      gi_region
      have hif : (if bs.length - k < n then ((bs.length - k : Nat) : Int) else (n : Int)) = (m : Int) := by have := Hm.out; split <;> omega
      rw [hif]
      clear hif
      have hy := hY ((chunkL n bs).take i) p ((chunkL n bs).drop (i + 1)) Hsp.out wr.drew #[.slice (some ⟨b, off + k, none⟩) p.length p.length] (hJ _ _ _ HJ.out (Moves.refl.drew)) hsz ⟨b, off + k, rfl, by rw [hpl]; exact Hp.out, by omega, by omega⟩
      rw [hpl] at hy
      have Hy := Lib.hid hy
      have Hpl := Lib.hid hpl
      have b1' : Boxed wr.drew bx 24 (.slice (some ⟨b, off, none⟩) bs.length c) := b1
      have b2' : Boxed wr.drew bn 3 (.int .i64 n) := b2
      have hkm : (k : Int) + (m : Int) ≤ (bs.length : Int) := by omega
      have hmc : (k : Int) + (m : Int) ≤ (c : Int) := by omega
      clear hy hY hpl c1 c2
      have c1 := b1'.cell
      have c2 := b2'.cell
      gi_wp2
      refine uponIn_yield Hy.out ?_
      rintro e W' ⟨hk', ⟨rfl, hj⟩ | ⟨rfl, hj⟩⟩
      · refine ⟨true, rfl, ?_⟩
        have d1 : Boxed W' bx 24 (.slice (some ⟨b, off, none⟩) bs.length c) := hk'.boxed b1' (.inl (.inl ⟨rfl, rfl⟩))
        have d2 : Boxed W' bn 3 (.int .i64 n) := hk'.boxed b2' (.inl (.inr ⟨rfl, rfl⟩))
        have e2 := d2.cell
        have hs' : W0.heap.size ≤ W'.heap.size := Nat.le_trans hsz hk'.size
        have HJ3 := Lib.hid hj
        have hkn : (k : Int) + (n : Int) ≤ 2000000 := by omega
        clear hj hk' c1 c2
        gi_wp2
        refine ⟨⟨i + 1, k + n, by go_num, Hk1.out, by omega, ?_, d1, d2, hs'⟩, by simp [intOf]; omega⟩
        show J _ _; rw [Htk.out]; exact HJ3.out
      · refine ⟨false, rfl, ?_⟩
        have HJ3 := Lib.hid hj
        clear hj hk' c1 c2
        gi_wp2
        refine bodyPost_ret (results_none rfl _ _ _) rfl ?_
        refine ⟨⟨_, rfl⟩, .inr ⟨(chunkL n bs).take (i + 1), ?_, ?_⟩⟩
        · exact List.take_prefix _ _
        · rw [Htk.out]; exact HJ3.out
    · have hC : (chunkL n bs).take i = chunkL n bs := List.take_of_length_le (hend (by omega))
      have HC2 := Lib.hid hC
      have hki : ¬ ((k : Int) < (bs.length : Int)) := by omega
      clear hC hat hend
      gi_wp2
      refine bodyPost_end (results_none rfl _ _ _) rfl ?_
      exact ⟨⟨_, rfl⟩, .inl (by have := HJ.out; rw [HC2.out] at this; exact this)⟩

theorem ChunkB_any (A : Option Addr) (m c n : Nat) (hn : 0 < n) (w : World) : Calls Tryd.prog 31 #[.slice A m c, .int .i64 n] w fun e w' =>
    e = .returned (.func (.func 46) #[] #[.pointer (some ⟨w.heap.size, 0, none⟩), .pointer (some ⟨w.heap.size + 1, 0, none⟩)]) ∧
    (w.alloc (.cells #[.slice A m c] 24)).alloc (.cells #[.int .i64 n] 3) = w' := by
  have hn1 : ¬ ((n : Int) < 1) := by omega
  go_enter Tryd.func31, Tryd.ntmps31
  go_wp2
  go_ret
  exact ⟨rfl, rfl⟩
end Go.Proofs.YtkpdlkikkcnhiaaDoor

namespace Go.Mv
open Go.RowKit
section
variable {F : Fence} {n : Nat} {P : Program} {ops : Array Oper} {Q : Exit → Act → World → Prop} {md : Region.Mode}

/-- The one that may come up, whatever it is. -/
theorem wpAnyIn_upon {i : Nat} {o : Oper} {fuel : Nat} {listed : Array Bool} {a : Act} {w : World} (hro : F.round = none) (hr : Region.ready md ops listed = [i]) (hi0 : ops.toList[i]? = some o) (hg : o.guard = none)
    (hab : ∀ f, o.about P w a.eval = some f → F.fn f) (h : o.uponIn F n P a (fun a' w' => wpAnyIn F n P md ops Q fuel (listed.setIfInBounds i true) a' w') Q ((execOp a.eval o).run P w)) : wpAnyIn F n P md ops Q (fuel + 1) listed a w := by
  have hi := opAt hi0
  refine wpAnyIn_all hr (by simp) (fun j hj => ?_)
  have e : j = i := by simpa using hj
  subst e
  unfold wpOpIn
  have hw : Region.wanted o (yielded ops a.tmps) = true := by simp [Region.wanted, hg]
  simp only [hi, hw, if_true, Oper.wpIn, hro, Oper.semAt_none]
  exact ⟨hab, h⟩
/-- A value and a call, the two that may come up. -/
theorem wpAnyIn_vc {i j : Nat} {oi oj : Oper} {vi : Value} {f : FuncId} {args : Array Value} {fuel : Nat} {listed : Array Bool} {a : Act} {w wi wj : World} (hr : Region.ready md ops listed = [i, j]) (hi0 : ops.toList[i]? = some oi) (hj0 : ops.toList[j]? = some oj) (gi : oi.guard = none) (gj : oj.guard = none)
    (abi : oi.about P w a.eval = none) (runi : (execOp a.eval oi).run P w = .ok (.value vi) wi) (runj : (execOp a.eval oj).run P w = .ok (.enter f args) wj)
    (h1 : wpAnyIn (Wd none) n P md ops Q fuel (listed.setIfInBounds i true) (a.put oi.dst vi) wi)
    (h2 : Calls P f args wj fun e w2 => ∃ v, e = .returned v ∧ wpAnyIn (Wd none) n P md ops Q fuel (listed.setIfInBounds j true) (a.put oj.dst v) w2) : wpAnyIn (Wd none) n P md ops Q (fuel + 1) listed a w := by
  have hi := opAt hi0
  have hj := opAt hj0
  refine wpAnyIn_all hr (by simp) (fun k hk => ?_)
  have abi' : ∀ f, oi.about P w a.eval = some f → (Wd none).fn f := fun f hf => by rw [abi] at hf; cases hf
  have wi' : Region.wanted oi (yielded ops a.tmps) = true := by simp [Region.wanted, gi]
  have wj' : Region.wanted oj (yielded ops a.tmps) = true := by simp [Region.wanted, gj]
  rcases (by simpa using hk : k = i ∨ k = j) with rfl | rfl
  · unfold wpOpIn
    simp only [hi, wi', if_true, Oper.wpIn, Oper.semAt_none, runi, Oper.uponIn]
    exact ⟨abi', h1⟩
  · unfold wpOpIn
    simp only [hj, wj', if_true, Oper.wpIn, Oper.semAt_none, runj, Oper.uponIn]
    refine ⟨fun _ _ => trivial, fun h => by simp [Fence.wide] at h, (callsIn_wd.2 h2).mono ?_⟩
    rintro e w2 ⟨v, rfl, h⟩
    exact h
end
end Go.Mv
