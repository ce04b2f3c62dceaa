/-
  The walks of slices.Chunk over entries, two.blocks (the calls that make the iterators).
-/
import Derived.Test.YtibbbdifkopebaaChunk
set_option linter.all false
namespace Go.Proofs.Ytibbbdifkopebaa
open Go.RowKit Go.Mv Go.Shelf
set_option maxRecDepth 100000

theorem Chunk_any (A : Option Addr) (n c : Nat) (w : World) : Calls Try.prog 54 #[.slice A n c, .int .i64 4] w fun e w' =>
    e = .returned (.func (.func 70) #[] #[.pointer (some ⟨w.heap.size, 0, none⟩), .pointer (some ⟨w.heap.size + 1, 0, none⟩)]) ∧
    (w.alloc (.cells #[.slice A n c] 23)).alloc (.cells #[.int .i64 4] 3) = w' := by
  go_enter Try.func54, Try.ntmps54
  go_wp2
  go_ret
  exact ⟨rfl, rfl⟩

theorem blocks_any (za zb : Nat) (A : Option Addr) (n c : Nat) (w : World) : Calls Try.prog 35 #[.complex .f64 za zb, .slice A n c] w fun e w' =>
    e = .returned (.func (.func 53) #[] #[.pointer (some ⟨w.heap.size + 1, 0, none⟩), .pointer (some ⟨w.heap.size, 0, none⟩)]) ∧
    (w.alloc (.cells #[.complex .f64 za zb] 30)).alloc (.cells #[.slice A n c] 23) = w' := by
  go_enter Try.func35, Try.ntmps35
  go_wp2
  go_ret
  exact ⟨rfl, rfl⟩

/-- The blocks behind a point, one by one. -/
def blockList (p : Nat × Nat) : List (List Ent) → List (List UInt8)
  | [] => []
  | c :: cs => blkS p c :: blockList (chainP p (blkBody c)) cs
theorem blockList_flat (p : Nat × Nat) (es : List Ent) : (blockList p (chunks4 es)).flatten = blocksS p es := by
  generalize hn : es.length = n
  induction n using Nat.strongRecOn generalizing p es with
  | _ n ih =>
    rcases Nat.eq_zero_or_pos es.length with h | h
    · have : es = [] := List.eq_nil_of_length_eq_zero h
      subst this; rw [chunks4_nil, blocksS_nil]; rfl
    · rw [chunks4_cons es h, blocksS_cons p es h, blockList, List.flatten_cons, ih (es.drop 4).length (by simp; omega) _ _ rfl]
/-- The point behind the first parts. -/
def chunkP (p : Nat × Nat) (cs : List (List Ent)) : Nat × Nat := cs.foldl (fun q c => chainP q (blkBody c)) p
theorem chunkP_snoc (p : Nat × Nat) (cs : List (List Ent)) (c : List Ent) : chunkP p (cs ++ [c]) = chainP (chunkP p cs) (blkBody c) := by unfold chunkP; rw [List.foldl_append]; rfl
theorem blockList_app (p : Nat × Nat) (a b : List (List Ent)) : blockList p (a ++ b) = blockList p a ++ blockList (chunkP p a) b := by
  induction a generalizing p with
  | nil => rfl
  | cons x a ih => rw [List.cons_append, blockList, blockList, ih]; rfl
theorem chunks4_ok (es : List Ent) (h : allOk es = true) : ∀ c ∈ chunks4 es, blkOk c = true := by
  generalize hn : es.length = n
  induction n using Nat.strongRecOn generalizing es with
  | _ n ih =>
    rcases Nat.eq_zero_or_pos es.length with h0 | h0
    · have : es = [] := List.eq_nil_of_length_eq_zero h0
      subst this; rw [chunks4_nil]; intro c hc; cases hc
    · rw [chunks4_cons es h0]
      intro c hc
      rcases List.mem_cons.1 hc with rfl | hc
      · simp [blkOk, (allOk_td h 4).1]; omega
      · exact ih (es.drop 4).length (by simp; omega) (es.drop 4) (allOk_td h 4).2 rfl c hc
end Go.Proofs.Ytibbbdifkopebaa
