/-
  The walks of the functions over lists of entries: may all be; the same.
-/
import Derived.Test.YtibbbdifkopebaaEntry
import Derived.Test.YtibbbdifkopebaaMem
set_option linter.all false
namespace Go.Proofs.Ytibbbdifkopebaa
open Go.RowKit Go.Mv

/-- Entries as cells. -/
def entCells (es : List Ent) : List Value := es.flatMap Ent.cells
theorem entCells_len (es : List Ent) : (entCells es).length = es.length * 3 := by
  induction es with
  | nil => rfl
  | cons e es ih => simp [entCells, Ent.cells] at ih ⊢; omega
def Es (w : World) (v : Value) (es : List Ent) : Prop := SlR w 3 v es.length (entCells es)
theorem Es.ext {w w' : World} {v : Value} {es : List Ent} (h : Es w v es) (he : Ext w w') : Es w' v es := SlR.ext h he
theorem entCells_at (es : List Ent) (k : Nat) (h : k < es.length) (i : Nat) (hi : i < 3) : (entCells es)[k * 3 + i]? = es[k].cells[i]? := by
  induction es generalizing k with
  | nil => simp at h
  | cons e es ih =>
    rw [show entCells (e :: es) = e.cells ++ entCells es from rfl]
    have hl : e.cells.length = 3 := rfl
    cases k with
    | zero => rw [List.getElem?_append_left (by omega)]; simp
    | succ k =>
      rw [List.getElem?_append_right (by omega), hl, show (k + 1) * 3 + i - 3 = k * 3 + i from by omega]
      simpa using ih k (by simpa using h)
theorem Es.at_ {w : World} {A : Option Addr} {m c : Nat} {es : List Ent} (h : Es w (.slice A m c) es) (hn : 0 < es.length) : m = es.length ∧ ∃ b off, A = some ⟨b, off, none⟩ ∧ ∀ (k : Nat) (hk : k < es.length),
    w.cell? ⟨b, off + k * 3, none⟩ = some (.int .i64 es[k].t) ∧ w.cell? ⟨b, off + k * 3 + 1, none⟩ = some (.int .i64 es[k].k) ∧ w.cell? ⟨b, off + k * 3 + 2, none⟩ = some (.int .i64 es[k].v) := by
  obtain ⟨rfl, b, off, rfl, hc⟩ := SlR.at_ h hn
  refine ⟨rfl, b, off, rfl, fun k hk => ⟨?_, ?_, ?_⟩⟩
  · exact hc (k * 3) _ (entCells_at es k hk 0 (by omega))
  · exact hc (k * 3 + 1) _ (entCells_at es k hk 1 (by omega))
  · exact hc (k * 3 + 2) _ (entCells_at es k hk 2 (by omega))

set_option maxHeartbeats 400000 in
theorem badOne_any (t k v : Int) (w : World) :
    Calls Try.prog 47 #[.agg #[.int .i64 t, .int .i64 k, .int .i64 v]] w fun e w' => e = .returned (.bool (!okB t k v)) ∧ Below w.heap.size w w' := by
  go_enter Try.func47, Try.ntmps47
  go_wp2_with (go_at_call 48; refine (Right_any _ _ _ _).mono ?_; rintro e w' ⟨rfl, hb⟩)
  go_ret
  exact ⟨rfl, ((Below.refl _ _).alloc (Nat.le_refl _) _).trans (hb.mono (by simp))⟩

theorem bcell {W w1 : World} (hb : Below W.heap.size W w1) : (∀ b o, b < W.heap.size → w1.cell? ⟨b, o, none⟩ = W.cell? ⟨b, o, none⟩) ∧ (∀ b o, b < W.heap.size → w1.frozen? ⟨b, o, none⟩ = W.frozen? ⟨b, o, none⟩) :=
  ⟨fun b o h => hb.cell (p := ⟨b, o, none⟩) h, fun b o h => hb.frozen (p := ⟨b, o, none⟩) h⟩

/-- The place of the first entry that may not be; -1. -/
def badAt : List Ent → Nat → Int
  | [], _ => -1
  | e :: es, i => if e.ok then badAt es (i + 1) else i

set_option maxHeartbeats 400000 in
theorem IndexFunc_any (v : Value) (es : List Ent) (w : World) (h : Es w v es) :
    Calls Try.prog 62 #[v, .func (.func 47) #[] #[]] w fun e w' => e = .returned (.int .i64 (badAt es 0)) ∧ Below w.heap.size w w' := by
  obtain ⟨A, c, rfl, h1, h2⟩ := SlR.open_ h
  have hm := SlR.len_le h
  unfold maxLen at hm
  go_enter Try.func62, Try.ntmps62
  go_wp2_with fail
  go_loopw [8] (fun i wr => ∃ k : Nat, k ≤ es.length ∧ i = .int .i64 k ∧ Hid (badAt es 0 = badAt (es.drop k) k) ∧ Below w.heap.size w wr) (fun i _ => es.length - (intOf i).toNat)
  case atStart => exact ⟨0, Nat.zero_le _, rfl, rfl, Below.refl _ _⟩
  case round =>
    obtain ⟨k, hk, rfl, Hb, hB⟩ := hrel
    by_cases hlt : k < es.length
    · obtain ⟨_, b, off, rfl, hc⟩ := Es.at_ (h.ext hB) (by omega)
      obtain ⟨hc0, hc1, hc2⟩ := hc k hlt
      clear hc
      go_wp2_with (go_at_call 47; refine (badOne_any _ _ _ _).mono ?_; rintro e w' ⟨rfl, hb⟩)
      · go_ret
        have hne : es[k].ok = false := by simpa [Ent.ok] using (by assumption : (!okB es[k].t es[k].k es[k].v) = true)
        refine ⟨ret_int ?_, hB.trans (hb.mono hB.size)⟩
        rw [Hb.out, List.drop_eq_getElem_cons hlt, badAt, hne]
        simp
      · go_roundw
        case rel =>
          have hok : es[k].ok = true := by simpa [Ent.ok] using (by assumption : (!okB es[k].t es[k].k es[k].v) = false)
          exact ⟨k + 1, by omega, by go_num, by rw [Hb.out, List.drop_eq_getElem_cons hlt, badAt, hok]; simp [Hid], hB.trans (hb.mono hB.size)⟩
        case measure => simp [intOf]; omega
    · go_wp2_with fail
      go_ret
      refine ⟨ret_int ?_, hB⟩
      rw [Hb.out, List.drop_of_length_le (by omega)]
      rfl

def allOk (es : List Ent) : Bool := es.all Ent.ok
theorem badAt_nonneg (es : List Ent) (i : Nat) : (0 ≤ badAt es i ↔ allOk es = false) ∧ -1 ≤ badAt es i := by
  induction es generalizing i with
  | nil => simp [badAt, allOk]
  | cons e es ih =>
    have := ih (i + 1)
    cases h : e.ok <;> simp [badAt, allOk, h] at this ⊢ <;> first | omega | simpa [allOk] using this | skip

set_option maxHeartbeats 400000 in
theorem ContainsFunc_any (v : Value) (es : List Ent) (w : World) (h : Es w v es) :
    Calls Try.prog 46 #[v, .func (.func 47) #[] #[]] w fun e w' => e = .returned (.bool (!allOk es)) ∧ Below w.heap.size w w' := by
  obtain ⟨h1, h2⟩ := badAt_nonneg es 0
  have H1 := Lib.hid h1
  clear h1
  go_enter Try.func46, Try.ntmps46
  go_wp2_with (go_at_call 62; refine (IndexFunc_any _ _ _ h).mono ?_; rintro e w' ⟨rfl, hb⟩)
  go_ret
  refine ⟨ret_bool ?_, hb⟩
  have := H1.out
  cases h : allOk es <;> simp [h] at this ⊢ <;> omega

set_option maxHeartbeats 400000 in
theorem bad_any (v : Value) (es : List Ent) (w : World) (h : Es w v es) :
    Calls Try.prog 29 #[v] w fun e w' => e = .returned (.bool (!allOk es)) ∧ Below w.heap.size w w' := by
  go_enter Try.func29, Try.ntmps29
  go_wp2_with (go_at_call 46; refine (ContainsFunc_any _ _ _ h).mono ?_; rintro e w' ⟨rfl, hb⟩)
  go_ret
  exact ⟨rfl, hb⟩

theorem allOk_take {es : List Ent} {k : Nat} (hlt : k < es.length) (h : allOk (es.take k) = true) : allOk (es.take (k + 1)) = es[k].ok := by
  rw [List.take_succ_eq_append_getElem hlt]
  simp only [allOk, List.all_append] at h ⊢
  rw [h]; simp
theorem allOk_false {es : List Ent} {k : Nat} (hlt : k < es.length) (h : es[k].ok = false) : allOk es = false := by
  simp only [allOk, List.all_eq_false]
  exact ⟨es[k], List.getElem_mem hlt, by simp [h]⟩

set_option maxHeartbeats 400000 in
theorem fine_any (v : Value) (es : List Ent) (w : World) (h : Es w v es) :
    Calls Try.prog 32 #[v] w fun e w' => e = .returned (.bool (allOk es)) ∧ Below w.heap.size w w' := by
  obtain ⟨A, c, rfl, h1, h2⟩ := SlR.open_ h
  have hm := SlR.len_le h
  unfold maxLen at hm
  go_enter Try.func32, Try.ntmps32
  go_wp2_with fail
  go_loopw [3] (fun i wr => ∃ k : Nat, k ≤ es.length ∧ i = .int .i64 k ∧ Hid (allOk (es.take k) = true) ∧ Below w.heap.size w wr) (fun i _ => es.length - (intOf i).toNat)
  case atStart => exact ⟨0, Nat.zero_le _, rfl, rfl, Below.refl _ _⟩
  case round =>
    obtain ⟨k, hk, rfl, Hb, hB⟩ := hrel
    by_cases hlt : k < es.length
    · obtain ⟨_, b, off, rfl, hc⟩ := Es.at_ (h.ext hB) (by omega)
      obtain ⟨hc0, hc1, hc2⟩ := hc k hlt
      clear hc
      go_wp2_with (go_at_call 23; refine (refRight_any _ _ _ _).mono ?_; rintro e w' ⟨rfl, hb⟩)
      · go_ret
        have hne : es[k].ok = false := by simpa [Ent.ok] using (by assumption : (!okB es[k].t es[k].k es[k].v) = true)
        exact ⟨ret_bool (allOk_false hlt hne).symm, hB.trans (hb.mono hB.size)⟩
      · go_roundw
        case rel =>
          have hok : es[k].ok = true := by simpa [Ent.ok] using (by assumption : (!okB es[k].t es[k].k es[k].v) = false)
          exact ⟨k + 1, by omega, by go_num, (allOk_take hlt Hb.out).trans hok, hB.trans (hb.mono hB.size)⟩
        case measure => simp [intOf]; omega
    · go_wp2_with fail
      go_ret
      refine ⟨ret_bool ?_, hB⟩
      have := Hb.out
      rw [List.take_of_length_le (by omega)] at this
      exact this.symm
end Go.Proofs.Ytibbbdifkopebaa
