/-
  Plain laws over any program: a map with integer keys that a call makes by a literal, and a look-up in it.
-/
import Derived.RangeFuncRecord
import Derived.MapKept
import Derived.WalkKit
set_option linter.all false
namespace Go.Mv
open Go.RowKit
variable {P : Program}

theorem run_checkKey_int {K : TypeId} (w : World) (k : IntKind) (n : Int) (b : Bool) (hK : P.underlying K = some (.int k)) :
    (Instr.checkKey b 10000 K (.int k n)).run P w = .ok () w :=
  MapKept.run_checkKey (k := .int k n) hK (show k = k from rfl) b 9999

theorem run_findKey_now {K : TypeId} (w : World) (k : IntKind) (n : Int) (es : List MapEntry) (r : Option (Nat × Value)) (hK : P.underlying K = some (.int k))
    (hf : Instr.findNow (.int k) (.int k n) es 0 = some r) : (Instr.findKey K (.int k n) es).run P w = .ok r w := by
  simp [Instr.findKey, run_underlying hK, go_sem, hf]

theorem putObj_alloc (w : World) (o o' : Obj) : (w.alloc o).putObj w.heap.size o' = w.alloc o' := by
  have h : (w.heap.push o).setIfInBounds w.heap.size o' = w.heap.push o' := by
    apply Array.ext_getElem?
    intro i
    rw [Array.getElem?_setIfInBounds, Array.getElem?_push, Array.getElem?_push]
    split <;> rename_i h
    · subst h; simp
    · rw [if_neg (fun e => h e.symm), if_neg (fun e => h e.symm)]
  show ({ (w.alloc o) with heap := (w.heap.push o).setIfInBounds w.heap.size o' } : World) = { w with heap := w.heap.push o' }
  rw [h]
  rfl

theorem run_insert_new (w : World) {T K E : TypeId} (k : IntKind) (hT : P.underlying T = some (.map K E)) (hK : P.underlying K = some (.int k)) (es : Array MapEntry) (c : Nat) (n : Int) (v : Value)
    (hn : Instr.findNow (.int k) (.int k n) es.toList 0 = some none) :
    (Instr.mapUpdate T (.map (some w.heap.size)) (.int k n) v).run P (w.alloc (.map es c)) = .ok () (w.alloc (.map (es.push { key := .int k n, val := v, born := c }) (c + 1))) := by
  have hget : (getObj w.heap.size).run P (w.alloc (.map es c)) = .ok (.map es c) (w.alloc (.map es c)) := MapKept.run_getObj_map (World.alloc_heap_new _ _)
  have hset : ∀ o, (setObj w.heap.size o).run P (w.alloc (.map es c)) = .ok () ((w.alloc (.map es c)).putObj w.heap.size o) := fun o => MapKept.run_setObj_map o (World.alloc_heap_new _ _)
  unfold Instr.mapUpdate
  simp only [Sem.run_bind, run_underlying hT, Result.andThen_ok, hget, run_checkKey_int _ k n false hK, run_findKey_now _ k n es.toList none hK hn, hset, putObj_alloc]

theorem run_lookup_ok (w : World) {T K E : TypeId} (k : IntKind) (hT : P.underlying T = some (.map K E)) (hK : P.underlying K = some (.int k)) {r : Nat} (es : Array MapEntry) (c : Nat) (n : Int) (z : Value)
    (hz : (zeroValue E).run P w = .ok z w) (hr : w.heap[r]? = some (.map es c)) (f : Option (Nat × Value)) (hf : Instr.findNow (.int k) (.int k n) es.toList 0 = some f) :
    (Instr.lookup T (.map (some r)) (.int k n) true).run P w = .ok (.tuple #[(f.map (·.2)).getD z, .bool f.isSome]) w := by
  have hget : (getObj r).run P w = .ok (.map es c) w := MapKept.run_getObj_map hr
  unfold Instr.lookup
  cases f with
  | none => simp [Sem.run_bind, run_underlying hT, hget, run_checkKey_int _ k n _ hK, run_findKey_now _ k n es.toList none hK hf, hz, go_sem]
  | some p => simp [Sem.run_bind, run_underlying hT, hget, run_checkKey_int _ k n _ hK, run_findKey_now _ k n es.toList (some p) hK hf, go_sem]

theorem run_lookup_one (w : World) {T K E : TypeId} (k : IntKind) (hT : P.underlying T = some (.map K E)) (hK : P.underlying K = some (.int k)) {r : Nat} (es : Array MapEntry) (c : Nat) (n : Int) (z : Value)
    (hz : (zeroValue E).run P w = .ok z w) (hr : w.heap[r]? = some (.map es c)) (f : Option (Nat × Value)) (hf : Instr.findNow (.int k) (.int k n) es.toList 0 = some f) :
    (Instr.lookup T (.map (some r)) (.int k n) false).run P w = .ok ((f.map (·.2)).getD z) w := by
  have hget : (getObj r).run P w = .ok (.map es c) w := MapKept.run_getObj_map hr
  unfold Instr.lookup
  cases f with
  | none => simp [Sem.run_bind, run_underlying hT, hget, run_checkKey_int _ k n _ hK, run_findKey_now _ k n es.toList none hK hf, hz, go_sem]
  | some p => simp [Sem.run_bind, run_underlying hT, hget, run_checkKey_int _ k n _ hK, run_findKey_now _ k n es.toList (some p) hK hf, go_sem]
end Go.Mv
