/-
  Plain laws over any program: a block of cells known whole.
-/
import Derived.Test.YtibbbdifkopebaaRound
import Derived.Laws.Rows
set_option linter.all false
namespace Go.Mv
open Go.RowKit

/-- Block b holds these cells, and none is frozen. -/
def Blk (W : World) (b : Nat) (t : TypeId) (cs : Array Value) : Prop := W.heap[b]? = some (.cells cs t (0, 0))
section
variable {W W' : World} {b : Nat} {t : TypeId} {cs : Array Value}
theorem Blk.lt (h : Blk W b t cs) : b < W.heap.size := (Array.getElem?_eq_some_iff.1 h).1
theorem Blk.cell (h : Blk W b t cs) (k : Nat) {v : Value} (hv : cs[k]? = some v) : W.cell? ⟨b, k, none⟩ = some v := by simp [World.cell?, show W.heap[b]? = _ from h, hv]
theorem Blk.frozen (h : Blk W b t cs) (k : Nat) : W.frozen? ⟨b, k, none⟩ = false := by simp [World.frozen?, show W.heap[b]? = _ from h]
theorem Blk.new (W : World) (t : TypeId) (cs : Array Value) : Blk (W.alloc (.cells cs t)) W.heap.size t cs := World.alloc_heap_new W _
theorem Blk.kept {row : Option Nat} (h : Blk W b t cs) (hg : W.grownBy W' row) (hne : some b ≠ row) : Blk W' b t cs := (hg.block b h.lt hne).trans h
theorem Blk.ext (h : Blk W b t cs) (he : Ext W W') : Blk W' b t cs := (he.block b h.lt).trans h
theorem Blk.alloc (h : Blk W b t cs) (o : Obj) : Blk (W.alloc o) b t cs := h.ext (Ext.alloc (Ext.refl _) o)
theorem Blk.set (h : Blk W b t cs) (k : Nat) (u : Value) : Blk (W.setCell ⟨b, k, none⟩ u) b t (cs.setIfInBounds k u) := by
  obtain ⟨hlt, hk⟩ := Array.getElem?_eq_some_iff.1 h
  show (W.heap.modify b _)[b]? = _
  rw [Array.getElem?_eq_getElem (by rw [Array.size_modify]; exact hlt), Array.getElem_modify_self, hk]
  rfl
theorem Blk.other (h : Blk W b t cs) {b' : Nat} (hne : b ≠ b') (k : Nat) (u : Value) : Blk (W.setCell ⟨b', k, none⟩ u) b t cs :=
  (Below.heap_setCell W ⟨b', k, none⟩ u b hne).trans h
theorem Blk.not_row (h : Blk W b t cs) {e : TypeId} (hte : t ≠ e) {base size k : Nat} {v : Value} {xs : List Value} (hr : W.ownsRow base e size v k xs) : some b ≠ v.ownBlock := by
  intro e'
  obtain ⟨cur, hc⟩ := ownsRow_cells hr e'.symm
  rw [show W.heap[b]? = _ from h] at hc
  cases hc
  exact hte rfl
theorem Blk.boxed {v : Value} (h : Blk W b t #[v]) : Boxed W b t v := h
theorem Blk.load {P : Program} {ty : TypeId} {d : TypeDesc} (h : Blk W b t cs) (hu : P.underlying ty = some d) (hd : (match d with | .struct _ | .array _ _ => true | _ => false) = true) (hi : (P.info? ty).map (·.size) = some cs.size) :
    (loadVar ty ⟨b, 0, none⟩).run P W = .ok (.agg cs) W := run_loadVar_row W b t ty cs (0, 0) d h hu hd hi
end
theorem blk3 {W : World} {b : Nat} {t : TypeId} {a v u : Value} (h : Blk W b t #[a, v, u]) : W.cell? ⟨b, 0, none⟩ = some a ∧ W.cell? ⟨b, 1, none⟩ = some v ∧ W.cell? ⟨b, 2, none⟩ = some u ∧ W.frozen? ⟨b, 0, none⟩ = false ∧ W.frozen? ⟨b, 1, none⟩ = false ∧ W.frozen? ⟨b, 2, none⟩ = false :=
  ⟨h.cell 0 rfl, h.cell 1 rfl, h.cell 2 rfl, h.frozen 0, h.frozen 1, h.frozen 2⟩
theorem blk4 {W : World} {b : Nat} {t : TypeId} {a v u x : Value} (h : Blk W b t #[a, v, u, x]) : W.cell? ⟨b, 0, none⟩ = some a ∧ W.cell? ⟨b, 1, none⟩ = some v ∧ W.cell? ⟨b, 2, none⟩ = some u ∧ W.cell? ⟨b, 3, none⟩ = some x ∧ W.frozen? ⟨b, 0, none⟩ = false ∧ W.frozen? ⟨b, 1, none⟩ = false ∧ W.frozen? ⟨b, 2, none⟩ = false ∧ W.frozen? ⟨b, 3, none⟩ = false :=
  ⟨h.cell 0 rfl, h.cell 1 rfl, h.cell 2 rfl, h.cell 3 rfl, h.frozen 0, h.frozen 1, h.frozen 2, h.frozen 3⟩
theorem blk_set3 {W : World} {b : Nat} {t : TypeId} {a v u : Value} (h : Blk W b t #[a, v, u]) (a' v' u' : Value) : Blk (((W.setCell ⟨b, 0, none⟩ a').setCell ⟨b, 1, none⟩ v').setCell ⟨b, 2, none⟩ u') b t #[a', v', u'] :=
  ((h.set 0 a').set 1 v').set 2 u'
theorem grownBy_set (W : World) (b k : Nat) (v : Value) : W.grownBy (W.setCell ⟨b, k, none⟩ v) (some b) :=
  ⟨rfl, rfl, rfl, by simp [World.setCell], fun j _ hj => Below.heap_setCell _ _ _ j (fun e => hj (by rw [e]))⟩
theorem Below.grown2 {N : Nat} {w A B : World} {row : Option Nat} (h : Below N w A) (hg : A.grownBy B row) (hN : N ≤ A.heap.size) (hr : ∀ k, row = some k → N ≤ k) : Below N w B := h.grown hg hN hr
theorem grownBy_trans {A B C : World} {row : Option Nat} (h : A.grownBy B row) (k : B.grownBy C row) : A.grownBy C row :=
  ⟨k.os.trans h.os, k.tape.trans h.tape, k.output.trans h.output, Nat.le_trans h.size k.size, fun j hj hne => (k.block j (Nat.lt_of_lt_of_le hj h.size) hne).trans (h.block j hj hne)⟩
theorem blk_slice {W : World} {b : Nat} {t : TypeId} {cs : List Value} (h : Blk W b t cs.toArray) {n : Nat} (hn : cs.length = n) (hl : n ≤ maxLen) : SlR W 1 (.slice (some ⟨b, 0, none⟩) n n) n cs := by
  refine ⟨by omega, _, n, rfl, Nat.le_refl _, hl, fun _ => ⟨b, 0, rfl, fun j u hu => ?_⟩⟩
  rw [Nat.zero_add]
  exact h.cell j (by simpa using hu)
/-- Cells in other blocks. -/
theorem cell_grown {W W' : World} {row : Option Nat} (hg : W.grownBy W' row) {p : Addr} {u : Value} (h : W.cell? p = some u) (hr : some p.block ≠ row) : W'.cell? p = some u :=
  (World.cell?_of_block (hg.block p.block (World.block_lt_of_cell? W p h) hr)).trans h
/-- A slice that reads as a list, where its own block is kept. -/
theorem SlR.keepB {w w' : World} {size b off m c n : Nat} {xs : List Value} (h : SlR w size (.slice (some ⟨b, off, none⟩) m c) n xs) (hk : ∀ o u, w.cell? ⟨b, o, none⟩ = some u → w'.cell? ⟨b, o, none⟩ = some u) :
    SlR w' size (.slice (some ⟨b, off, none⟩) m c) n xs := by
  obtain ⟨hl, A, c', e, h1, h2, h3⟩ := h
  cases e
  refine ⟨hl, _, c, rfl, h1, h2, fun hn => ?_⟩
  obtain ⟨b', off', e', hc⟩ := h3 hn
  cases e'
  exact ⟨b, off, rfl, fun j u hu => hk _ _ (hc j u hu)⟩
/-- A slice cut at its end. -/
theorem SlR.take1 {w : World} {A : Option Addr} {m c n : Nat} {xs : List Value} (h : SlR w 1 (.slice A m c) n xs) (k : Nat) (hk : k ≤ n) : SlR w 1 (.slice A k c) k (xs.take k) := by
  obtain ⟨hl, A', c', e, h1, h2, h3⟩ := h
  cases e
  refine ⟨by rw [List.length_take, hl]; omega, _, c, rfl, by omega, h2, fun hn => ?_⟩
  obtain ⟨b', off', e', hc⟩ := h3 (by omega)
  cases e'
  refine ⟨b', off', rfl, fun j u hu => hc j u ?_⟩
  rw [List.getElem?_take] at hu
  split at hu
  · exact hu
  · cases hu
theorem Bs.take {w : World} {A : Option Addr} {m c : Nat} {bs : List UInt8} (h : Bs w (.slice A m c) bs) (k : Nat) (hk : k ≤ bs.length) : Bs w (.slice A k c) (bs.take k) := by
  have := SlR.take1 h k hk
  unfold Bs
  rw [List.length_take, Nat.min_eq_left hk, List.map_take]
  exact this
theorem SlR.capd {w : World} {A : Option Addr} {m c c' size n : Nat} {xs : List Value} (h : SlR w size (.slice A m c) n xs) (h1 : n ≤ c') (h2 : c' ≤ 9223372036854775807) : SlR w size (.slice A m c') n xs := by
  obtain ⟨hl, A', c'', e, _, _, h3⟩ := h
  cases e
  exact ⟨hl, A, c', rfl, h1, by simpa [maxLen] using h2, h3⟩
end Go.Mv
