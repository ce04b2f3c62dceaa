/-
  Plain facts on segments: what is put is scanned; what is cut off; a byte that is another one.
-/
import Derived.Test.YtibbbdifkopebaaScan
set_option linter.all false
namespace Go.Proofs.Ytibbbdifkopebaa
open Go.RowKit Go.Mv
set_option maxRecDepth 100000

theorem chunks4_flat (es : List Ent) : (chunks4 es).flatten = es := by
  generalize hn : es.length = n
  induction n using Nat.strongRecOn generalizing es with
  | _ n ih =>
    rcases Nat.eq_zero_or_pos es.length with h | h
    · have : es = [] := List.eq_nil_of_length_eq_zero h
      subst this; rw [chunks4_nil]; rfl
    · rw [chunks4_cons es h, List.flatten_cons, ih (es.drop 4).length (by simp; omega) _ rfl, List.take_append_drop]
/-- The point behind a segment. -/
def endQ (first : Int) (es : List Ent) : Nat × Nat := chunkP (chainP (0, 0) (headS first).2) (chunks4 es)
theorem file_ok {first : Int} {es : List Ent} (hf : (headS first).1 = 0) (ha : allOk es = true) : fileS first es = (0, (headS first).2 ++ blocksS (chainP (0, 0) (headS first).2) es) := by
  unfold fileS; rw [if_pos ⟨hf, ha⟩]
theorem scan_blocks (p : Nat × Nat) (es : List Ent) (ha : allOk es = true) (behind : List UInt8) : scanS p (blocksS p es ++ behind) = (es ++ (scanS (chunkP p (chunks4 es)) behind).1, (scanS (chunkP p (chunks4 es)) behind).2) := by
  rw [← blockList_flat, scanS_list p _ (chunks4_ok es ha), chunks4_flat]
theorem look_put {first : Nat} {es : List Ent} (hf : (headS (first : Int)).1 = 0) (ha : allOk es = true) (behind : List UInt8) :
    lookS ((fileS first es).2 ++ behind) = ⟨0, first, es ++ (scanS (endQ first es) behind).1, (fileS first es).2.length + behind.length - (scanS (endQ first es) behind).2.2.length, (scanS (endQ first es) behind).2.1⟩ := by
  have hh : headT ((fileS first es).2 ++ behind) = some (first, blocksS (chainP (0, 0) (headS (first : Int)).2) es ++ behind) := by
    rw [headT_iff, file_ok hf ha]
    exact ⟨hf, by rw [List.append_assoc]⟩
  rw [look_some hh, scan_blocks _ _ ha]
  rw [List.nil_append, List.length_append]
  rfl
theorem scan_nil (q : Nat × Nat) : scanS q [] = ([], q, []) := scanS_none rfl
theorem scan_nine (q : Nat × Nat) : scanS q [9] = ([], q, [9]) := scanS_none rfl
theorem end_put {first : Nat} {es : List Ent} (hf : (headS (first : Int)).1 = 0) (ha : allOk es = true) : endS (fileS first es).2 = (0, endQ first es) := by
  have h := look_put hf ha []
  rw [List.append_nil, scan_nil] at h
  unfold endS
  rw [h]
  dsimp only
  rw [if_pos ⟨rfl, by simp⟩]
theorem more_put {first : Nat} {es : List Ent} (hf : (headS (first : Int)).1 = 0) (ha : allOk es = true) (m : List Ent) (hm : allOk m = true) : moreS (fileS first es).2 m = (0, blocksS (endQ first es) m) := by
  unfold moreS
  rw [end_put hf ha]
  dsimp only
  rw [if_pos rfl, if_pos hm]
theorem more_nine {first : Nat} {es : List Ent} (hf : (headS (first : Int)).1 = 0) (ha : allOk es = true) (m : List Ent) : moreS ((fileS first es).2 ++ [9]) m = (11, []) := by
  have h := look_put hf ha [9]
  rw [scan_nine] at h
  unfold moreS endS
  rw [h]
  dsimp only
  rw [if_neg (by simp)]
theorem head_300 : (headS 300).1 = 0 := by unfold headS; rw [if_pos (by decide)]
theorem head_1 : headS 1 = (0, [2, 1]) := by rfl
theorem look_11 : lookS [1, 1] = ⟨11, 0, [], 0, (0, 0)⟩ := look_none rfl
theorem file_len (first : Int) (es : List Ent) : (fileS first es).2.length ≤ 6 + 20 * es.length := by
  unfold fileS
  split
  · have := headS_len first
    have := blocksS_len (chainP (0, 0) (headS first).2) es
    rw [List.length_append]; omega
  · simp
theorem file_eta {first : Int} {es : List Ent} (hf : (headS first).1 = 0) (ha : allOk es = true) : fileS first es = (0, (fileS first es).2) := by rw [file_ok hf ha]
def w12 : List Ent := [⟨1, 0, 0⟩, ⟨2, 1, 7⟩]
theorem wakes_plain : ∃ (B M : List UInt8) (q1 q2 : Nat × Nat), fileS 300 w12 = (0, B) ∧ B.length ≤ 46 ∧ M.length ≤ 20 ∧ lookS (B ++ [9]) = ⟨0, 300, w12, B.length, q1⟩ ∧ moreS B [⟨3, 0, 0⟩] = (0, M) ∧
    lookS (B ++ M) = ⟨0, 300, w12 ++ [⟨3, 0, 0⟩], B.length + M.length, q2⟩ ∧ moreS (B ++ [9]) [⟨3, 0, 0⟩] = (11, []) := by
  have h3 : (headS ((300 : Nat) : Int)).1 = 0 := head_300
  have hok : allOk w12 = true := by decide
  have hok3 : allOk [⟨3, 0, 0⟩] = true := by decide
  have hp9 := look_put h3 hok [9]
  have hpm := look_put h3 hok (blocksS (endQ ((300 : Nat) : Int) w12) [⟨3, 0, 0⟩])
  have hm3 := scan_blocks (endQ ((300 : Nat) : Int) w12) [⟨3, 0, 0⟩] hok3 []
  rw [List.append_nil, scan_nil] at hm3
  rw [hm3] at hpm
  rw [scan_nine] at hp9
  refine ⟨(fileS ((300 : Nat) : Int) w12).2, blocksS (endQ ((300 : Nat) : Int) w12) [⟨3, 0, 0⟩], endQ ((300 : Nat) : Int) w12, chunkP (endQ ((300 : Nat) : Int) w12) (chunks4 [⟨3, 0, 0⟩]), file_eta h3 hok, ?_, ?_, hp9.trans ?_, more_put h3 hok [⟨3, 0, 0⟩] hok3, hpm.trans ?_, more_nine h3 hok _⟩
  · have := file_len ((300 : Nat) : Int) w12
    exact this
  · exact blocksS_len _ _
  · simp
  · simp
end Go.Proofs.Ytibbbdifkopebaa
