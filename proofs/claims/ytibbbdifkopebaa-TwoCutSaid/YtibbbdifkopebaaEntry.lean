/-
  The walks of entry's and moultref06's functions: what an entry may be.
-/
import Derived.Test.YtibbbdifkopebaaRows
import Derived.Test.YtibbbdifkopebaaMaps
import Derived.WalkKit
import Derived.WalkSpells
import Derived.WalkLawsBesides
import Derived.Deep.RegionHeld3
import Derived.Lib.Hide
set_option linter.all false
namespace Go.Proofs.Ytibbbdifkopebaa
open Go.RowKit Go.Mv

def numB (n : Int) : Bool := decide (0 ≤ n ∧ n ≤ 1073741824)

set_option maxHeartbeats 400000 in
theorem refnumber_any (n : Int) (w : World) :
    Calls Try.prog 39 #[.int .i64 n] w fun e w' => e = .returned (.bool (numB n)) ∧ w = w' := by
  by_cases h0 : 0 ≤ n
  · by_cases h1 : n ≤ 1073741824
    · go_enter Try.func39, Try.ntmps39
      go_wp2
      go_ret
      exact ⟨by simp [numB, h0, h1], rfl⟩
    · go_enter Try.func39, Try.ntmps39
      go_wp2
      go_ret
      exact ⟨by simp [numB, h0, h1], rfl⟩
  · go_enter Try.func39, Try.ntmps39
    go_wp2
    go_ret
    exact ⟨by simp [numB]; omega, rfl⟩

set_option maxHeartbeats 400000 in
theorem number_any (n : Int) (w : World) :
    Calls Try.prog 64 #[.int .i64 n] w fun e w' => e = .returned (.bool (numB n)) ∧ w = w' := by
  by_cases h0 : 0 ≤ n
  · by_cases h1 : n ≤ 1073741824
    · go_enter Try.func64, Try.ntmps64
      go_wp2
      go_ret
      exact ⟨by simp [numB, h0, h1], rfl⟩
    · go_enter Try.func64, Try.ntmps64
      go_wp2
      go_ret
      exact ⟨by simp [numB, h0, h1], rfl⟩
  · go_enter Try.func64, Try.ntmps64
    go_wp2
    go_ret
    exact ⟨by simp [numB]; omega, rfl⟩

theorem ret_bool {a b : Bool} (h : a = b) : Ending.returned (.bool a) = .returned (.bool b) := by rw [h]

/-- An entry: term, kind, value. -/
structure Ent where
  t : Int
  k : Int
  v : Int
deriving DecidableEq
def Ent.val (e : Ent) : Value := .agg #[.int .i64 e.t, .int .i64 e.k, .int .i64 e.v]
def Ent.cells (e : Ent) : List Value := [.int .i64 e.t, .int .i64 e.k, .int .i64 e.v]
/-- May an entry be? -/
def Ent.okP (t k v : Int) : Prop := 1 ≤ t ∧ t ≤ 1073741824 ∧ 0 ≤ k ∧ k < 5 ∧ 0 ≤ v ∧ v ≤ 1073741824 ∧ (k = 1 ∨ v = 0)
instance (t k v : Int) : Decidable (Ent.okP t k v) := by unfold Ent.okP; infer_instance
def okB (t k v : Int) : Bool := decide (Ent.okP t k v)
def Ent.ok (e : Ent) : Bool := okB e.t e.k e.v

theorem okB_true {t k v : Int} : okB t k v = true ↔ Ent.okP t k v := by simp [okB]
theorem okB_false {t k v : Int} : okB t k v = false ↔ ¬ Ent.okP t k v := by simp [okB]
theorem numB_true {n : Int} : numB n = true ↔ (0 ≤ n ∧ n ≤ 1073741824) := by simp [numB]

set_option maxHeartbeats 400000 in
theorem refRight_any (t k v : Int) (w : World) :
    Calls Try.prog 23 #[.agg #[.int .i64 t, .int .i64 k, .int .i64 v]] w fun e w' => e = .returned (.bool (okB t k v)) ∧ Below w.heap.size w w' := by
  go_enter Try.func23, Try.ntmps23
  go_wp2_with (go_at_call 39; refine (refnumber_any _ _).mono ?_; rintro e w' ⟨rfl, rfl⟩)
  all_goals go_ret
  all_goals refine ⟨ret_bool ?_, (Below.refl _ _).alloc (Nat.le_refl _) _⟩
  all_goals (try simp only [numB_true] at *)
  all_goals (rw [Bool.eq_iff_iff, okB_true]; unfold Ent.okP; simp; try omega)

/-- The map of the kinds' deeds, as 'deeds' makes it. -/
def deedsMap : Array MapEntry := #[{ key := .int .i64 0, val := .func (.func 77) #[] #[], born := 0 }, { key := .int .i64 1, val := .func (.func 78) #[] #[], born := 1 },
  { key := .int .i64 2, val := .func (.func 79) #[] #[], born := 2 }, { key := .int .i64 3, val := .func (.func 80) #[] #[], born := 3 },
  { key := .int .i64 4, val := .func (.func 81) #[] #[], born := 4 }]

theorem insD (w : World) (es : Array MapEntry) (c : Nat) (n : Int) (v : Value) (hn : Instr.findNow (.int .i64) (.int .i64 n) es.toList 0 = some none) :
    (Instr.mapUpdate 93 (.map (some w.heap.size)) (.int .i64 n) v).run Try.prog (w.alloc (.map es c)) = .ok () (w.alloc (.map (es.push { key := .int .i64 n, val := v, born := c }) (c + 1))) :=
  run_insert_new w .i64 Try.underlying93 Try.underlying3 es c n v hn

set_option maxRecDepth 100000 in
set_option maxHeartbeats 400000 in
theorem deeds_any (w : World) :
    Calls Try.prog 63 #[] w fun e w' => e = .returned (.map (some w.heap.size)) ∧ w.alloc (.map deedsMap 5) = w' := by
  have hmm := @run_makeMap Try.prog
  have h0 := insD w #[] 0 0 (.func (.func 77) #[] #[]) rfl
  have h1 := insD w #[{ key := .int .i64 0, val := .func (.func 77) #[] #[], born := 0 }] 1 1 (.func (.func 78) #[] #[]) rfl
  have h2 := insD w #[{ key := .int .i64 0, val := .func (.func 77) #[] #[], born := 0 }, { key := .int .i64 1, val := .func (.func 78) #[] #[], born := 1 }] 2 2 (.func (.func 79) #[] #[]) rfl
  have h3 := insD w #[{ key := .int .i64 0, val := .func (.func 77) #[] #[], born := 0 }, { key := .int .i64 1, val := .func (.func 78) #[] #[], born := 1 }, { key := .int .i64 2, val := .func (.func 79) #[] #[], born := 2 }] 3 3 (.func (.func 80) #[] #[]) rfl
  have h4 := insD w #[{ key := .int .i64 0, val := .func (.func 77) #[] #[], born := 0 }, { key := .int .i64 1, val := .func (.func 78) #[] #[], born := 1 }, { key := .int .i64 2, val := .func (.func 79) #[] #[], born := 2 }, { key := .int .i64 3, val := .func (.func 80) #[] #[], born := 3 }] 4 4 (.func (.func 81) #[] #[]) rfl
  simp only [List.push_toArray, List.nil_append, List.cons_append, Nat.reduceAdd] at h0 h1 h2 h3 h4
  go_enter Try.func63, Try.ntmps63
  go_wp2
  go_ret
  exact ⟨rfl, rfl⟩

theorem deedsMap_find (k : Int) : ∃ f, Instr.findNow (.int .i64) (.int .i64 k) deedsMap.toList 0 = some f ∧ f.isSome = decide (0 ≤ k ∧ k < 5) := by
  by_cases h0 : k = 0
  · subst h0; exact ⟨_, rfl, rfl⟩
  by_cases h1 : k = 1
  · subst h1; exact ⟨_, rfl, rfl⟩
  by_cases h2 : k = 2
  · subst h2; exact ⟨_, rfl, rfl⟩
  by_cases h3 : k = 3
  · subst h3; exact ⟨_, rfl, rfl⟩
  by_cases h4 : k = 4
  · subst h4; exact ⟨_, rfl, rfl⟩
  refine ⟨none, ?_, ?_⟩
  · have e0 : (k == 0) = false := by simp [h0]
    have e1 : (k == 1) = false := by simp [h1]
    have e2 : (k == 2) = false := by simp [h2]
    have e3 : (k == 3) = false := by simp [h3]
    have e4 : (k == 4) = false := by simp [h4]
    simp [deedsMap, Instr.findNow, Instr.sameNow, e0, e1, e2, e3, e4]
  · simp; omega

def kindB (k : Int) : Bool := decide (0 ≤ k ∧ k < 5)

theorem deedsMap_lookup (k : Int) : ∃ v, ∀ (W : World) (r : Nat), W.heap[r]? = some (.map deedsMap 5) →
    (Instr.lookup 93 (.map (some r)) (.int .i64 k) true).run Try.prog W = .ok (.tuple #[v, .bool (kindB k)]) W := by
  obtain ⟨f, hf, hb⟩ := deedsMap_find k
  refine ⟨(f.map (·.2)).getD .nilFunc, fun W r h => ?_⟩
  have := run_lookup_ok (P := Try.prog) W .i64 Try.underlying93 Try.underlying3 deedsMap 5 k .nilFunc (by kernel_rfl) h f hf
  rw [this, hb]; rfl

set_option maxRecDepth 100000 in
set_option maxHeartbeats 400000 in
theorem Right_any (t k v : Int) (w : World) :
    Calls Try.prog 48 #[.agg #[.int .i64 t, .int .i64 k, .int .i64 v]] w fun e w' => e = .returned (.bool (okB t k v)) ∧ Below w.heap.size w w' := by
  obtain ⟨fv, hl⟩ := deedsMap_lookup k
  have hl1 := hl (((w.alloc (.cells #[.int .i64 t, .int .i64 k, .int .i64 v] 45)).alloc (.map deedsMap 5)).drew) (w.heap.size + 1) (by
    have := World.alloc_heap_new (w.alloc (.cells #[.int .i64 t, .int .i64 k, .int .i64 v] 45)) (.map deedsMap 5)
    rwa [World.size_alloc] at this)
  clear hl
  go_enter Try.func48, Try.ntmps48
  go_wp2_with fail
  go_region_held3 (fun w' => w'.cell? ⟨w.heap.size, 0, none⟩ = some (.int .i64 t) ∧ w'.cell? ⟨w.heap.size, 1, none⟩ = some (.int .i64 k) ∧ w'.cell? ⟨w.heap.size, 2, none⟩ = some (.int .i64 v)) (first | go_keep)
    (first | (go_at_call 63; refine (deeds_any _).mono ?_; rintro e w' ⟨rfl, rfl⟩))
  go_wp2_with (go_at_call 64; refine (number_any _ _).mono ?_; rintro e w' ⟨rfl, rfl⟩)
  all_goals go_ret
  all_goals refine ⟨ret_bool ?_, (((Below.refl _ _).alloc (Nat.le_refl _) _).alloc (by simp) _).drew⟩
  all_goals (try simp only [numB_true, kindB, decide_eq_true_eq] at *)
  all_goals (rw [Bool.eq_iff_iff, okB_true]; unfold Ent.okP; simp [kindB]; try omega)
end Go.Proofs.Ytibbbdifkopebaa
