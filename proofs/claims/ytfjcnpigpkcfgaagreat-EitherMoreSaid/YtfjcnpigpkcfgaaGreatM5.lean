/-
  The walks of entry's and moultref06's functions: what an entry may be.
  The walks of the functions over lists of entries: may all be; the same.
  The walks of num.Is, num.put, num.Short, moultref01.Is.
  Plain facts on numbers' short bytes.
  The walks of num.put, num.Short, moultref01.Short: numbers' short bytes.
-/
import Derived.Test.YtfjcnpigpkcfgaaGreatM4
import Derived.Test.YtfjcnpigpkcfgaaGreatRows
import Derived.WalkKit
import Derived.WalkSpells
import Derived.WalkLawsBesides
import Derived.Deep.RegionHeld3
import Derived.Lib.Hide
set_option linter.all false
namespace Go.Proofs.YtfjcnpigpkcfgaaGreat
open Go.RowKit Go.Mv

def numB (n : Int) : Bool := decide (0 ≤ n ∧ n ≤ 1073741824)

set_option maxHeartbeats 400000 in
theorem refnumber_any (n : Int) (w : World) :
    Calls Tryz.prog 36 #[.int .i64 n] w fun e w' => e = .returned (.bool (numB n)) ∧ w = w' := by
  by_cases h0 : 0 ≤ n
  · by_cases h1 : n ≤ 1073741824
    · go_enter Tryz.func36, Tryz.ntmps36
      go_wp2
      go_ret
      exact ⟨by simp [numB, h0, h1], rfl⟩
    · go_enter Tryz.func36, Tryz.ntmps36
      go_wp2
      go_ret
      exact ⟨by simp [numB, h0, h1], rfl⟩
  · go_enter Tryz.func36, Tryz.ntmps36
    go_wp2
    go_ret
    exact ⟨by simp [numB]; omega, rfl⟩

set_option maxHeartbeats 400000 in
theorem number_any (n : Int) (w : World) :
    Calls Tryz.prog 93 #[.int .i64 n] w fun e w' => e = .returned (.bool (numB n)) ∧ w = w' := by
  by_cases h0 : 0 ≤ n
  · by_cases h1 : n ≤ 1073741824
    · go_enter Tryz.func93, Tryz.ntmps93
      go_wp2
      go_ret
      exact ⟨by simp [numB, h0, h1], rfl⟩
    · go_enter Tryz.func93, Tryz.ntmps93
      go_wp2
      go_ret
      exact ⟨by simp [numB, h0, h1], rfl⟩
  · go_enter Tryz.func93, Tryz.ntmps93
    go_wp2
    go_ret
    exact ⟨by simp [numB]; omega, rfl⟩

theorem ret_bool {a b : Bool} (h : a = b) : Ending.returned (.bool a) = .returned (.bool b) := by rw [h]

/-- An entry: term, kind, value. -/
structure Ent where
  t : Int
  k : Int
  v : Int
deriving DecidableEq
def Ent.val (e : Ent) : Value := .agg #[.int .i64 e.t, .int .i64 e.k, .int .i64 e.v]
def Ent.cells (e : Ent) : List Value := [.int .i64 e.t, .int .i64 e.k, .int .i64 e.v]
/-- May an entry be? -/
def Ent.okP (t k v : Int) : Prop := 1 ≤ t ∧ t ≤ 1073741824 ∧ 0 ≤ k ∧ k < 5 ∧ 0 ≤ v ∧ v ≤ 1073741824 ∧ (k = 1 ∨ v = 0)
instance (t k v : Int) : Decidable (Ent.okP t k v) := by unfold Ent.okP; infer_instance
def okB (t k v : Int) : Bool := decide (Ent.okP t k v)
def Ent.ok (e : Ent) : Bool := okB e.t e.k e.v

theorem okB_true {t k v : Int} : okB t k v = true ↔ Ent.okP t k v := by simp [okB]
theorem okB_false {t k v : Int} : okB t k v = false ↔ ¬ Ent.okP t k v := by simp [okB]
theorem numB_true {n : Int} : numB n = true ↔ (0 ≤ n ∧ n ≤ 1073741824) := by simp [numB]

set_option maxHeartbeats 400000 in
theorem refRight_any (t k v : Int) (w : World) :
    Calls Tryz.prog 22 #[.agg #[.int .i64 t, .int .i64 k, .int .i64 v]] w fun e w' => e = .returned (.bool (okB t k v)) ∧ Below w.heap.size w w' := by
  go_enter Tryz.func22, Tryz.ntmps22
  go_wp2_with (go_at_call 36; refine (refnumber_any _ _).mono ?_; rintro e w' ⟨rfl, rfl⟩)
  all_goals go_ret
  all_goals refine ⟨ret_bool ?_, (Below.refl _ _).alloc (Nat.le_refl _) _⟩
  all_goals (try simp only [numB_true] at *)
  all_goals (rw [Bool.eq_iff_iff, okB_true]; unfold Ent.okP; simp; try omega)

/-- The map of the kinds' deeds, as 'deeds' makes it. -/
def deedsMap : Array MapEntry := #[{ key := .int .i64 0, val := .func (.func 104) #[] #[], born := 0 }, { key := .int .i64 1, val := .func (.func 105) #[] #[], born := 1 },
  { key := .int .i64 2, val := .func (.func 106) #[] #[], born := 2 }, { key := .int .i64 3, val := .func (.func 107) #[] #[], born := 3 },
  { key := .int .i64 4, val := .func (.func 108) #[] #[], born := 4 }]

theorem insD (w : World) (es : Array MapEntry) (c : Nat) (n : Int) (v : Value) (hn : Instr.findNow (.int .i64) (.int .i64 n) es.toList 0 = some none) :
    (Instr.mapUpdate 125 (.map (some w.heap.size)) (.int .i64 n) v).run Tryz.prog (w.alloc (.map es c)) = .ok () (w.alloc (.map (es.push { key := .int .i64 n, val := v, born := c }) (c + 1))) :=
  run_insert_new w .i64 Tryz.underlying125 Tryz.underlying3 es c n v hn

set_option maxRecDepth 100000 in
set_option maxHeartbeats 400000 in
theorem deeds_any (w : World) :
    Calls Tryz.prog 92 #[] w fun e w' => e = .returned (.map (some w.heap.size)) ∧ w.alloc (.map deedsMap 5) = w' := by
  have hmm := @run_makeMap Tryz.prog
  have h0 := insD w #[] 0 0 (.func (.func 104) #[] #[]) rfl
  have h1 := insD w #[{ key := .int .i64 0, val := .func (.func 104) #[] #[], born := 0 }] 1 1 (.func (.func 105) #[] #[]) rfl
  have h2 := insD w #[{ key := .int .i64 0, val := .func (.func 104) #[] #[], born := 0 }, { key := .int .i64 1, val := .func (.func 105) #[] #[], born := 1 }] 2 2 (.func (.func 106) #[] #[]) rfl
  have h3 := insD w #[{ key := .int .i64 0, val := .func (.func 104) #[] #[], born := 0 }, { key := .int .i64 1, val := .func (.func 105) #[] #[], born := 1 }, { key := .int .i64 2, val := .func (.func 106) #[] #[], born := 2 }] 3 3 (.func (.func 107) #[] #[]) rfl
  have h4 := insD w #[{ key := .int .i64 0, val := .func (.func 104) #[] #[], born := 0 }, { key := .int .i64 1, val := .func (.func 105) #[] #[], born := 1 }, { key := .int .i64 2, val := .func (.func 106) #[] #[], born := 2 }, { key := .int .i64 3, val := .func (.func 107) #[] #[], born := 3 }] 4 4 (.func (.func 108) #[] #[]) rfl
  simp only [List.push_toArray, List.nil_append, List.cons_append, Nat.reduceAdd] at h0 h1 h2 h3 h4
  go_enter Tryz.func92, Tryz.ntmps92
  go_wp2
  go_ret
  exact ⟨rfl, rfl⟩

theorem deedsMap_find (k : Int) : ∃ f, Instr.findNow (.int .i64) (.int .i64 k) deedsMap.toList 0 = some f ∧ f.isSome = decide (0 ≤ k ∧ k < 5) := by
  by_cases h0 : k = 0
  · subst h0; exact ⟨_, rfl, rfl⟩
  by_cases h1 : k = 1
  · subst h1; exact ⟨_, rfl, rfl⟩
  by_cases h2 : k = 2
  · subst h2; exact ⟨_, rfl, rfl⟩
  by_cases h3 : k = 3
  · subst h3; exact ⟨_, rfl, rfl⟩
  by_cases h4 : k = 4
  · subst h4; exact ⟨_, rfl, rfl⟩
  refine ⟨none, ?_, ?_⟩
  · have e0 : (k == 0) = false := by simp [h0]
    have e1 : (k == 1) = false := by simp [h1]
    have e2 : (k == 2) = false := by simp [h2]
    have e3 : (k == 3) = false := by simp [h3]
    have e4 : (k == 4) = false := by simp [h4]
    simp [deedsMap, Instr.findNow, Instr.sameNow, e0, e1, e2, e3, e4]
  · simp; omega

def kindB (k : Int) : Bool := decide (0 ≤ k ∧ k < 5)

theorem deedsMap_lookup (k : Int) : ∃ v, ∀ (W : World) (r : Nat), W.heap[r]? = some (.map deedsMap 5) →
    (Instr.lookup 125 (.map (some r)) (.int .i64 k) true).run Tryz.prog W = .ok (.tuple #[v, .bool (kindB k)]) W := by
  obtain ⟨f, hf, hb⟩ := deedsMap_find k
  refine ⟨(f.map (·.2)).getD .nilFunc, fun W r h => ?_⟩
  have := run_lookup_ok (P := Tryz.prog) W .i64 Tryz.underlying125 Tryz.underlying3 deedsMap 5 k .nilFunc (by kernel_rfl) h f hf
  rw [this, hb]; rfl

set_option maxRecDepth 100000 in
set_option maxHeartbeats 400000 in
theorem Right_any (t k v : Int) (w : World) :
    Calls Tryz.prog 87 #[.agg #[.int .i64 t, .int .i64 k, .int .i64 v]] w fun e w' => e = .returned (.bool (okB t k v)) ∧ Below w.heap.size w w' := by
  obtain ⟨fv, hl⟩ := deedsMap_lookup k
  have hl1 := hl (((w.alloc (.cells #[.int .i64 t, .int .i64 k, .int .i64 v] 41)).alloc (.map deedsMap 5)).drew) (w.heap.size + 1) (by
    have := World.alloc_heap_new (w.alloc (.cells #[.int .i64 t, .int .i64 k, .int .i64 v] 41)) (.map deedsMap 5)
    rwa [World.size_alloc] at this)
  clear hl
  go_enter Tryz.func87, Tryz.ntmps87
  go_wp2_with fail
  go_region_held3 (fun w' => w'.cell? ⟨w.heap.size, 0, none⟩ = some (.int .i64 t) ∧ w'.cell? ⟨w.heap.size, 1, none⟩ = some (.int .i64 k) ∧ w'.cell? ⟨w.heap.size, 2, none⟩ = some (.int .i64 v)) (first | go_keep)
    (first | (go_at_call 92; refine (deeds_any _).mono ?_; rintro e w' ⟨rfl, rfl⟩))
  go_wp2_with (go_at_call 93; refine (number_any _ _).mono ?_; rintro e w' ⟨rfl, rfl⟩)
  all_goals go_ret
  all_goals refine ⟨ret_bool ?_, (((Below.refl _ _).alloc (Nat.le_refl _) _).alloc (by simp) _).drew⟩
  all_goals (try simp only [numB_true, kindB, decide_eq_true_eq] at *)
  all_goals (rw [Bool.eq_iff_iff, okB_true]; unfold Ent.okP; simp [kindB]; try omega)
end Go.Proofs.YtfjcnpigpkcfgaaGreat

namespace Go.Proofs.YtfjcnpigpkcfgaaGreat
open Go.RowKit Go.Mv

/-- Entries as cells. -/
def entCells (es : List Ent) : List Value := es.flatMap Ent.cells
theorem entCells_len (es : List Ent) : (entCells es).length = es.length * 3 := by
  induction es with
  | nil => rfl
  | cons e es ih => simp [entCells, Ent.cells] at ih ⊢; omega
def Es (w : World) (v : Value) (es : List Ent) : Prop := SlR w 3 v es.length (entCells es)
theorem Es.ext {w w' : World} {v : Value} {es : List Ent} (h : Es w v es) (he : Ext w w') : Es w' v es := SlR.ext h he
theorem entCells_at (es : List Ent) (k : Nat) (h : k < es.length) (i : Nat) (hi : i < 3) : (entCells es)[k * 3 + i]? = es[k].cells[i]? := by
  induction es generalizing k with
  | nil => simp at h
  | cons e es ih =>
    rw [show entCells (e :: es) = e.cells ++ entCells es from rfl]
    have hl : e.cells.length = 3 := rfl
    cases k with
    | zero => rw [List.getElem?_append_left (by omega)]; simp
    | succ k =>
      rw [List.getElem?_append_right (by omega), hl, show (k + 1) * 3 + i - 3 = k * 3 + i from by omega]
      simpa using ih k (by simpa using h)
theorem Es.at_ {w : World} {A : Option Addr} {m c : Nat} {es : List Ent} (h : Es w (.slice A m c) es) (hn : 0 < es.length) : m = es.length ∧ ∃ b off, A = some ⟨b, off, none⟩ ∧ ∀ (k : Nat) (hk : k < es.length),
    w.cell? ⟨b, off + k * 3, none⟩ = some (.int .i64 es[k].t) ∧ w.cell? ⟨b, off + k * 3 + 1, none⟩ = some (.int .i64 es[k].k) ∧ w.cell? ⟨b, off + k * 3 + 2, none⟩ = some (.int .i64 es[k].v) := by
  obtain ⟨rfl, b, off, rfl, hc⟩ := SlR.at_ h hn
  refine ⟨rfl, b, off, rfl, fun k hk => ⟨?_, ?_, ?_⟩⟩
  · exact hc (k * 3) _ (entCells_at es k hk 0 (by omega))
  · exact hc (k * 3 + 1) _ (entCells_at es k hk 1 (by omega))
  · exact hc (k * 3 + 2) _ (entCells_at es k hk 2 (by omega))

set_option maxHeartbeats 400000 in
theorem badOne_any (t k v : Int) (w : World) :
    Calls Tryz.prog 135 #[.agg #[.int .i64 t, .int .i64 k, .int .i64 v]] w fun e w' => e = .returned (.bool (!okB t k v)) ∧ Below w.heap.size w w' := by
  go_enter Tryz.func135, Tryz.ntmps135
  go_wp2_with (go_at_call 87; refine (Right_any _ _ _ _).mono ?_; rintro e w' ⟨rfl, hb⟩)
  go_ret
  exact ⟨rfl, ((Below.refl _ _).alloc (Nat.le_refl _) _).trans (hb.mono (by simp))⟩

theorem bcell {W w1 : World} (hb : Below W.heap.size W w1) : (∀ b o, b < W.heap.size → w1.cell? ⟨b, o, none⟩ = W.cell? ⟨b, o, none⟩) ∧ (∀ b o, b < W.heap.size → w1.frozen? ⟨b, o, none⟩ = W.frozen? ⟨b, o, none⟩) :=
  ⟨fun b o h => hb.cell (p := ⟨b, o, none⟩) h, fun b o h => hb.frozen (p := ⟨b, o, none⟩) h⟩

/-- The place of the first entry that may not be; -1. -/
def badAt : List Ent → Nat → Int
  | [], _ => -1
  | e :: es, i => if e.ok then badAt es (i + 1) else i

set_option maxHeartbeats 400000 in
theorem IndexFunc_any (v : Value) (es : List Ent) (w : World) (h : Es w v es) :
    Calls Tryz.prog 147 #[v, .func (.func 135) #[] #[]] w fun e w' => e = .returned (.int .i64 (badAt es 0)) ∧ Below w.heap.size w w' := by
  obtain ⟨A, c, rfl, h1, h2⟩ := SlR.open_ h
  have hm := SlR.len_le h
  unfold maxLen at hm
  go_enter Tryz.func147, Tryz.ntmps147
  go_wp2_with fail
  go_loopw [8] (fun i wr => ∃ k : Nat, k ≤ es.length ∧ i = .int .i64 k ∧ Hid (badAt es 0 = badAt (es.drop k) k) ∧ Below w.heap.size w wr) (fun i _ => es.length - (intOf i).toNat)
  case atStart => exact ⟨0, Nat.zero_le _, rfl, rfl, Below.refl _ _⟩
  case round =>
    obtain ⟨k, hk, rfl, Hb, hB⟩ := hrel
    by_cases hlt : k < es.length
    · obtain ⟨_, b, off, rfl, hc⟩ := Es.at_ (h.ext hB) (by omega)
      obtain ⟨hc0, hc1, hc2⟩ := hc k hlt
      clear hc
      go_wp2_with (go_at_call 135; refine (badOne_any _ _ _ _).mono ?_; rintro e w' ⟨rfl, hb⟩)
      · go_ret
        have hne : es[k].ok = false := by simpa [Ent.ok] using (by assumption : (!okB es[k].t es[k].k es[k].v) = true)
        refine ⟨ret_int ?_, hB.trans (hb.mono hB.size)⟩
        rw [Hb.out, List.drop_eq_getElem_cons hlt, badAt, hne]
        simp
      · go_roundw
        case rel =>
          have hok : es[k].ok = true := by simpa [Ent.ok] using (by assumption : (!okB es[k].t es[k].k es[k].v) = false)
          exact ⟨k + 1, by omega, by go_num, by rw [Hb.out, List.drop_eq_getElem_cons hlt, badAt, hok]; simp [Hid], hB.trans (hb.mono hB.size)⟩
        case measure => simp [intOf]; omega
    · go_wp2_with fail
      go_ret
      refine ⟨ret_int ?_, hB⟩
      rw [Hb.out, List.drop_of_length_le (by omega)]
      rfl

def allOk (es : List Ent) : Bool := es.all Ent.ok
theorem badAt_nonneg (es : List Ent) (i : Nat) : (0 ≤ badAt es i ↔ allOk es = false) ∧ -1 ≤ badAt es i := by
  induction es generalizing i with
  | nil => simp [badAt, allOk]
  | cons e es ih =>
    have := ih (i + 1)
    cases h : e.ok <;> simp [badAt, allOk, h] at this ⊢ <;> first | omega | simpa [allOk] using this | skip

set_option maxHeartbeats 400000 in
theorem ContainsFunc_any (v : Value) (es : List Ent) (w : World) (h : Es w v es) :
    Calls Tryz.prog 134 #[v, .func (.func 135) #[] #[]] w fun e w' => e = .returned (.bool (!allOk es)) ∧ Below w.heap.size w w' := by
  obtain ⟨h1, h2⟩ := badAt_nonneg es 0
  have H1 := Lib.hid h1
  clear h1
  go_enter Tryz.func134, Tryz.ntmps134
  go_wp2_with (go_at_call 147; refine (IndexFunc_any _ _ _ h).mono ?_; rintro e w' ⟨rfl, hb⟩)
  go_ret
  refine ⟨ret_bool ?_, hb⟩
  have := H1.out
  cases h : allOk es <;> simp [h] at this ⊢ <;> omega

set_option maxHeartbeats 400000 in
theorem bad_any (v : Value) (es : List Ent) (w : World) (h : Es w v es) :
    Calls Tryz.prog 126 #[v] w fun e w' => e = .returned (.bool (!allOk es)) ∧ Below w.heap.size w w' := by
  go_enter Tryz.func126, Tryz.ntmps126
  go_wp2_with (go_at_call 134; refine (ContainsFunc_any _ _ _ h).mono ?_; rintro e w' ⟨rfl, hb⟩)
  go_ret
  exact ⟨rfl, hb⟩

theorem allOk_take {es : List Ent} {k : Nat} (hlt : k < es.length) (h : allOk (es.take k) = true) : allOk (es.take (k + 1)) = es[k].ok := by
  rw [List.take_succ_eq_append_getElem hlt]
  simp only [allOk, List.all_append] at h ⊢
  rw [h]; simp
theorem allOk_false {es : List Ent} {k : Nat} (hlt : k < es.length) (h : es[k].ok = false) : allOk es = false := by
  simp only [allOk, List.all_eq_false]
  exact ⟨es[k], List.getElem_mem hlt, by simp [h]⟩

set_option maxHeartbeats 400000 in
theorem fine_any (v : Value) (es : List Ent) (w : World) (h : Es w v es) :
    Calls Tryz.prog 39 #[v] w fun e w' => e = .returned (.bool (allOk es)) ∧ Below w.heap.size w w' := by
  obtain ⟨A, c, rfl, h1, h2⟩ := SlR.open_ h
  have hm := SlR.len_le h
  unfold maxLen at hm
  go_enter Tryz.func39, Tryz.ntmps39
  go_wp2_with fail
  go_loopw [3] (fun i wr => ∃ k : Nat, k ≤ es.length ∧ i = .int .i64 k ∧ Hid (allOk (es.take k) = true) ∧ Below w.heap.size w wr) (fun i _ => es.length - (intOf i).toNat)
  case atStart => exact ⟨0, Nat.zero_le _, rfl, rfl, Below.refl _ _⟩
  case round =>
    obtain ⟨k, hk, rfl, Hb, hB⟩ := hrel
    by_cases hlt : k < es.length
    · obtain ⟨_, b, off, rfl, hc⟩ := Es.at_ (h.ext hB) (by omega)
      obtain ⟨hc0, hc1, hc2⟩ := hc k hlt
      clear hc
      go_wp2_with (go_at_call 22; refine (refRight_any _ _ _ _).mono ?_; rintro e w' ⟨rfl, hb⟩)
      · go_ret
        have hne : es[k].ok = false := by simpa [Ent.ok] using (by assumption : (!okB es[k].t es[k].k es[k].v) = true)
        exact ⟨ret_bool (allOk_false hlt hne).symm, hB.trans (hb.mono hB.size)⟩
      · go_roundw
        case rel =>
          have hok : es[k].ok = true := by simpa [Ent.ok] using (by assumption : (!okB es[k].t es[k].k es[k].v) = false)
          exact ⟨k + 1, by omega, by go_num, (allOk_take hlt Hb.out).trans hok, hB.trans (hb.mono hB.size)⟩
        case measure => simp [intOf]; omega
    · go_wp2_with fail
      go_ret
      refine ⟨ret_bool ?_, hB⟩
      have := Hb.out
      rw [List.take_of_length_le (by omega)] at this
      exact this.symm
end Go.Proofs.YtfjcnpigpkcfgaaGreat

namespace Go.Proofs.YtfjcnpigpkcfgaaGreat
open Go.RowKit Go.Mv

def allNum (l : List Int) : Bool := l.all numB
def shorts (l : List Int) : List UInt8 := l.flatMap fun n => short1 n.toNat

theorem Is.at_ {w : World} {A : Option Addr} {m c : Nat} {l : List Int} (h : Is w (.slice A m c) l) (hn : 0 < l.length) : m = l.length ∧ ∃ b off, A = some ⟨b, off, none⟩ ∧ ∀ (k : Nat) (hk : k < l.length), w.cell? ⟨b, off + k, none⟩ = some (.int .i64 l[k]) := by
  obtain ⟨rfl, b, off, rfl, hc⟩ := SlR.at_ h hn
  exact ⟨rfl, b, off, rfl, fun k hk => hc k _ (by simp [List.getElem?_eq_getElem hk, iv])⟩

set_option maxHeartbeats 400000 in
theorem IsOne_any (n : Int) (w : World) :
    Calls Tryz.prog 112 #[.int .i64 n] w fun e w' => e = .returned (.bool (!numB n)) ∧ w = w' := by
  by_cases h0 : n < 0
  · go_enter Tryz.func112, Tryz.ntmps112
    go_wp2
    go_ret
    exact ⟨ret_bool (by simp [numB]; omega), rfl⟩
  · by_cases h1 : n > 1073741824
    · go_enter Tryz.func112, Tryz.ntmps112
      go_wp2
      go_ret
      exact ⟨ret_bool (by simp [numB]; omega), rfl⟩
    · go_enter Tryz.func112, Tryz.ntmps112
      go_wp2
      go_ret
      exact ⟨ret_bool (by simp [numB]; omega), rfl⟩

/-- The place of the first number that is none; -1. -/
def noneAt : List Int → Nat → Int
  | [], _ => -1
  | n :: l, i => if numB n then noneAt l (i + 1) else i

set_option maxHeartbeats 400000 in
theorem IndexFuncI_any (v : Value) (l : List Int) (w : World) (h : Is w v l) :
    Calls Tryz.prog 116 #[v, .func (.func 112) #[] #[]] w fun e w' => e = .returned (.int .i64 (noneAt l 0)) ∧ w = w' := by
  obtain ⟨A, c, rfl, h1, h2⟩ := SlR.open_ h
  have hm := SlR.len_le h
  unfold maxLen at hm
  go_enter Tryz.func116, Tryz.ntmps116
  go_wp2_with fail
  go_loop [8] (fun i => ∃ k : Nat, k ≤ l.length ∧ i = .int .i64 k ∧ Hid (noneAt l 0 = noneAt (l.drop k) k)) (fun i => l.length - (intOf i).toNat)
  case atStart => exact ⟨0, Nat.zero_le _, rfl, rfl⟩
  case round =>
    obtain ⟨k, hk, rfl, Hb⟩ := hrel
    by_cases hlt : k < l.length
    · obtain ⟨_, b, off, rfl, hc⟩ := Is.at_ h (by omega)
      have hc0 := hc k hlt
      clear hc
      go_wp2_with (go_at_call 112; refine (IsOne_any _ _).mono ?_; rintro e w' ⟨rfl, rfl⟩)
      · go_ret
        have hne : numB l[k] = false := by simpa using (by assumption : (!numB l[k]) = true)
        refine ⟨ret_int ?_, rfl⟩
        rw [Hb.out, List.drop_eq_getElem_cons hlt, noneAt, hne]
        simp
      · go_round
        case rel =>
          have hok : numB l[k] = true := by simpa using (by assumption : (!numB l[k]) = false)
          exact ⟨k + 1, by omega, by go_num, by rw [Hb.out, List.drop_eq_getElem_cons hlt, noneAt, hok]; simp [Hid]⟩
        case measure => simp [intOf]; omega
    · go_wp2_with fail
      go_ret
      refine ⟨ret_int ?_, rfl⟩
      rw [Hb.out, List.drop_of_length_le (by omega)]
      rfl

theorem noneAt_nonneg (l : List Int) (i : Nat) : (0 ≤ noneAt l i ↔ allNum l = false) ∧ -1 ≤ noneAt l i := by
  induction l generalizing i with
  | nil => simp [noneAt, allNum]
  | cons e es ih =>
    have := ih (i + 1)
    cases h : numB e <;> simp [noneAt, allNum, h] at this ⊢ <;> first | omega | simpa [allNum] using this | skip

set_option maxHeartbeats 400000 in
theorem ContainsFuncI_any (v : Value) (l : List Int) (w : World) (h : Is w v l) :
    Calls Tryz.prog 111 #[v, .func (.func 112) #[] #[]] w fun e w' => e = .returned (.bool (!allNum l)) ∧ w = w' := by
  obtain ⟨h1, h2⟩ := noneAt_nonneg l 0
  have H1 := Lib.hid h1
  clear h1
  go_enter Tryz.func111, Tryz.ntmps111
  go_wp2_with (go_at_call 116; refine (IndexFuncI_any _ _ _ h).mono ?_; rintro e w' ⟨rfl, rfl⟩)
  go_ret
  refine ⟨ret_bool ?_, rfl⟩
  have := H1.out
  cases h : allNum l <;> simp [h] at this ⊢ <;> omega

set_option maxHeartbeats 400000 in
theorem Is_any (v : Value) (l : List Int) (w : World) (h : Is w v l) :
    Calls Tryz.prog 100 #[v] w fun e w' => e = .returned (.bool (allNum l)) ∧ w = w' := by
  go_enter Tryz.func100, Tryz.ntmps100
  go_wp2_with (go_at_call 111; refine (ContainsFuncI_any _ _ _ h).mono ?_; rintro e w' ⟨rfl, rfl⟩)
  go_ret
  exact ⟨ret_bool (by simp), rfl⟩

theorem allNum_false {l : List Int} {k : Nat} (hlt : k < l.length) (h : numB l[k] = false) : allNum l = false := by
  simp only [allNum, List.all_eq_false]
  exact ⟨l[k], List.getElem_mem hlt, by simp [h]⟩
theorem allNum_take {l : List Int} {k : Nat} (hlt : k < l.length) (h : allNum (l.take k) = true) : allNum (l.take (k + 1)) = numB l[k] := by
  rw [List.take_succ_eq_append_getElem hlt]
  simp only [allNum, List.all_append] at h ⊢
  rw [h]; simp

set_option maxHeartbeats 400000 in
theorem refIs_any (v : Value) (l : List Int) (w : World) (h : Is w v l) :
    Calls Tryz.prog 53 #[v] w fun e w' => e = .returned (.bool (allNum l)) ∧ w = w' := by
  obtain ⟨A, c, rfl, h1, h2⟩ := SlR.open_ h
  have hm := SlR.len_le h
  unfold maxLen at hm
  go_enter Tryz.func53, Tryz.ntmps53
  go_wp2_with fail
  go_loop [3] (fun i => ∃ k : Nat, k ≤ l.length ∧ i = .int .i64 k ∧ Hid (allNum (l.take k) = true)) (fun i => l.length - (intOf i).toNat)
  case atStart => exact ⟨0, Nat.zero_le _, rfl, rfl⟩
  case round =>
    obtain ⟨k, hk, rfl, Hb⟩ := hrel
    by_cases hlt : k < l.length
    · obtain ⟨_, b, off, rfl, hc⟩ := Is.at_ h (by omega)
      have hc0 := hc k hlt
      clear hc
      by_cases h0 : l[k] < 0
      · go_wp2_with fail
        go_ret
        exact ⟨ret_bool (allNum_false hlt (by simp [numB]; omega)).symm, rfl⟩
      · by_cases h1 : 1073741824 < l[k]
        · go_wp2_with fail
          go_ret
          exact ⟨ret_bool (allNum_false hlt (by simp [numB]; omega)).symm, rfl⟩
        · go_wp2_with fail
          go_round
          case rel => exact ⟨k + 1, by omega, by go_num, (allNum_take hlt Hb.out).trans (by simp [numB]; omega)⟩
          case measure => simp [intOf]; omega
    · go_wp2_with fail
      go_ret
      refine ⟨ret_bool ?_, rfl⟩
      have := Hb.out
      rw [List.take_of_length_le (by omega)] at this
      exact this.symm
end Go.Proofs.YtfjcnpigpkcfgaaGreat

namespace Go.Proofs.YtfjcnpigpkcfgaaGreat
open Go.RowKit Go.Mv

/-- The digits ahead of the last one, each with its highest bit set. -/
def hiB : Nat → Nat → List UInt8
  | 0, _ => []
  | f + 1, m => if m = 0 then [] else hiB f (m / 128) ++ [UInt8.ofNat (m % 128 + 128)]

theorem or128 (m : Nat) : UInt8.ofNat (m % 128) ||| 128 = UInt8.ofNat (m % 128 + 128) := by
  have h2 : ∀ m : Nat, m < 128 → UInt8.ofNat m ||| 128 = UInt8.ofNat (m + 128) := by decide
  exact h2 _ (Nat.mod_lt _ (by decide))

theorem hiB_zero (f : Nat) : hiB f 0 = [] := by cases f <;> simp [hiB]

theorem short1_eq (n : Nat) (hn : n ≤ 1073741824) : short1 n = hiB 5 (n / 128) ++ [UInt8.ofNat (n % 128)] := by
  unfold short1
  congr 1
  have d2 : n / 128 / 128 = n / 16384 := by omega
  have d3 : n / 16384 / 128 = n / 2097152 := by omega
  have d4 : n / 2097152 / 128 = n / 268435456 := by omega
  have d5 : n / 268435456 / 128 = 0 := by omega
  by_cases h4 : n / 268435456 = 0
  · by_cases h3 : n / 2097152 = 0
    · by_cases h2 : n / 16384 = 0
      · by_cases h1 : n / 128 = 0
        · simp [digRec, hiB, h1, h2, h3, h4]
        · simp [digRec, hiB, d2, d3, d4, d5, h1, h2, h3, h4, or128]
      · have h1 : n / 128 ≠ 0 := by omega
        simp [digRec, hiB, d2, d3, d4, d5, h1, h2, h3, h4, or128]
    · have h1 : n / 128 ≠ 0 := by omega
      have h2 : n / 16384 ≠ 0 := by omega
      simp [digRec, hiB, d2, d3, d4, d5, h1, h2, h3, h4, or128]
  · have h1 : n / 128 ≠ 0 := by omega
    have h2 : n / 16384 ≠ 0 := by omega
    have h3 : n / 2097152 ≠ 0 := by omega
    simp [digRec, hiB, d2, d3, d4, d5, h1, h2, h3, h4, or128]
end Go.Proofs.YtfjcnpigpkcfgaaGreat

namespace Go.Proofs.YtfjcnpigpkcfgaaGreat
open Go.RowKit Go.Mv

def ShortOk (w : World) (l : List Int) (e : Ending) (w' : World) : Prop :=
  ∃ v, e = .returned (.tuple #[v, .int .i64 0]) ∧ w'.ownsRow w.heap.size 5 1 v (shorts l).length ((shorts l).map bv) ∧ Ext w w'
def ShortBad (w : World) (e : Ending) (w' : World) : Prop := e = .returned (.tuple #[.slice none 0 0, .int .i64 2]) ∧ Ext w w'

theorem short1_len (n : Nat) : 1 ≤ (short1 n).length ∧ (short1 n).length ≤ 5 := by
  have := digRec_len 7 n true 4
  simp [short1]; omega
theorem shorts_len (l : List Int) : (shorts l).length ≤ 5 * l.length := by
  induction l with
  | nil => simp [shorts]
  | cons n l ih => have := (short1_len n.toNat).2; simp [shorts] at ih ⊢; omega
theorem shorts_take {l : List Int} {k : Nat} (h : k < l.length) : shorts (l.take (k + 1)) = shorts (l.take k) ++ short1 l[k].toNat := by
  rw [List.take_succ_eq_append_getElem h]; unfold shorts; rw [List.flatMap_append]; simp
theorem num_of_all {l : List Int} (h : allNum l = true) {k : Nat} (hk : k < l.length) : 0 ≤ l[k] ∧ l[k] ≤ 1073741824 := by
  have := List.all_eq_true.1 h l[k] (List.getElem_mem hk)
  simpa [numB] using this

set_option maxRecDepth 100000 in
set_option maxHeartbeats 400000 in
theorem put_bad (v : Value) (l : List Int) (w : World) (h : Is w v l) (hn : allNum l = false) (f : Value) :
    Calls Tryz.prog 94 #[v, f] w (ShortBad w) := by
  go_enter Tryz.func94, Tryz.ntmps94
  go_wp2_with (go_at_call 100; refine (Is_any _ _ _ h).mono ?_; rintro e w' ⟨rfl, rfl⟩)
  go_ret2
  exact ⟨rfl, Ext.refl _⟩

set_option maxRecDepth 100000 in
set_option maxHeartbeats 400000 in
theorem putShort_ok (v : Value) (l : List Int) (w : World) (h : Is w v l) (hn : allNum l = true) (hl : l.length ≤ 1000000) :
    Calls Tryz.prog 94 #[v, .func (.func 145) #[] #[]] w (ShortOk w l) := by
  obtain ⟨A, c, rfl, h1, h2⟩ := SlR.open_ h
  have Hn := Lib.hid hn
  go_enter Tryz.func94, Tryz.ntmps94
  go_wp2_with (go_at_call 100; refine (Is_any _ _ _ h).mono ?_; rintro e w' ⟨rfl, rfl⟩)
  clear hn
  go_loopw [4, 13] (fun vb i wr => ∃ k : Nat, k ≤ l.length ∧ i = .int .i64 k ∧ wr.ownsRow w.heap.size 5 1 vb (shorts (l.take k)).length ((shorts (l.take k)).map bv) ∧ Ext w wr) (fun _ i _ => l.length - (intOf i).toNat)
  case atStart => exact ⟨0, Nat.zero_le _, rfl, World.ownsRow_nil _ _ _ _, Ext.refl _⟩
  case round =>
    obtain ⟨k, hk, rfl, hown, hB⟩ := hrel
    by_cases hlt : k < l.length
    · obtain ⟨_, b, off, rfl, hc⟩ := Is.at_ (h.ext hB) (by omega)
      have hc0 := hc k hlt
      clear hc
      obtain ⟨hn0, hn1⟩ := num_of_all Hn.out hlt
      have hsl := shorts_len (l.take k)
      have htl : (l.take k).length ≤ k := List.length_take_le _ _
      have key := Short1_any (shorts (l.take k)) l[k].toNat (by omega) _ w.heap.size wr hown hB.size (by omega)
      rw [Int.toNat_of_nonneg hn0] at key
      have Key := Lib.hid key
      clear key
      go_wp2_with (go_at_call 145; refine Key.out.mono ?_; rintro e w1 ⟨v', rfl, hown', hB'⟩)
      go_roundw
      case rel => exact ⟨k + 1, by omega, by go_num, by rw [shorts_take hlt]; exact hown', Below.trans hB hB'⟩
      case measure => simp [intOf]; omega
    · have hk' : l.take k = l := List.take_of_length_le (by omega)
      rw [hk'] at hown
      clear hk'
      go_wp2_with fail
      go_ret2
      exact ⟨_, rfl, hown, hB⟩

set_option maxHeartbeats 400000 in
theorem Short_bad (v : Value) (l : List Int) (w : World) (h : Is w v l) (hn : allNum l = false) : Calls Tryz.prog 132 #[v] w (ShortBad w) := by
  go_enter Tryz.func132, Tryz.ntmps132
  go_wp2_with (go_at_call 94; refine (put_bad _ _ _ h hn _).mono ?_; rintro e w' ⟨rfl, hb⟩)
  go_ret2
  exact ⟨rfl, hb⟩

set_option maxHeartbeats 400000 in
theorem Short_ok (v : Value) (l : List Int) (w : World) (h : Is w v l) (hn : allNum l = true) (hl : l.length ≤ 1000000) : Calls Tryz.prog 132 #[v] w (ShortOk w l) := by
  go_enter Tryz.func132, Tryz.ntmps132
  go_wp2_with (go_at_call 94; refine (putShort_ok _ _ _ h hn hl).mono ?_; rintro e w' ⟨v', rfl, ho, hb⟩)
  go_ret2
  exact ⟨_, rfl, ho, hb⟩
end Go.Proofs.YtfjcnpigpkcfgaaGreat
