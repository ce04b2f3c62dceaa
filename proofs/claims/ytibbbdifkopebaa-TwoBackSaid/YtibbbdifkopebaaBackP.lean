/-
  The plain law of TwoBack.
-/
import Derived.Test.YtibbbdifkopebaaLaw
set_option linter.all false
namespace Go.Proofs.Ytibbbdifkopebaa
open Go.RowKit Go.Mv

theorem scanS_used {q : Nat × Nat} {bs : List UInt8} (h : (scanS q bs).2.2.length = bs.length) : (scanS q bs).1 = [] := by
  cases hn : nextS q bs with
  | none => rw [scanS_none hn]
  | some x =>
    obtain ⟨es, r⟩ := x
    have h1 := nextS_len hn
    have h2 := scanS_len (chainP q (blkBody es)) r
    rw [scanS_some hn] at h
    dsimp only at h
    omega

theorem headS_ok {f : Nat} (h1 : 1 ≤ f) (h2 : f ≤ 1073741824) : (headS (f : Int)).1 = 0 := by
  unfold headS
  rw [if_pos ⟨by rw [numB_true]; omega, by omega⟩]

theorem back_plain {f : Nat} (h1 : 1 ≤ f) (h2 : f ≤ 1073741824) {l m : List Ent} (hl : allOk l = true) (hm : allOk m = true) (bh : List UInt8) :
    ∃ (B M : List UInt8) (q2 q3 : Nat × Nat) (X : List Ent) (n : Nat), fileS (f : Int) l = (0, B) ∧ moreS B m = (0, M) ∧ B.length ≤ 6 + 20 * l.length ∧ M.length ≤ 20 * m.length ∧
      lookS (B ++ M) = ⟨0, f, l ++ m, B.length + M.length, q2⟩ ∧ endS (B ++ M) = (0, q2) ∧ lookS (B ++ M ++ bh) = ⟨0, f, l ++ m ++ X, B.length + M.length + n, q3⟩ ∧ (n = 0 → X = []) ∧ n ≤ bh.length := by
  have hh := headS_ok h1 h2
  have hM := scan_blocks (endQ (f : Int) l) m hm
  have hlen := blocksS_len (endQ (f : Int) l) m
  have hmore := more_put hh hl m hm
  have hput := look_put hh hl
  have hfile := file_eta hh hl
  have hfl := file_len (f : Int) l
  generalize (fileS (f : Int) l).2 = B at *
  generalize blocksS (endQ (f : Int) l) m = M at *
  generalize endQ (f : Int) l = q at *
  generalize chunkP q (chunks4 m) = q2 at *
  have hr := scanS_len q2 bh
  have hu := @scanS_used q2 bh
  have hA := hput M
  have hB := hput (M ++ bh)
  have hM0 := hM []
  rw [scan_nil, List.append_nil] at hM0
  rw [hM0] at hA
  rw [hM bh] at hB
  rw [← List.append_assoc] at hB
  have hlk : lookS (B ++ M) = ⟨0, f, l ++ m, B.length + M.length, q2⟩ := by rw [hA]; simp
  refine ⟨B, M, q2, (scanS q2 bh).2.1, (scanS q2 bh).1, bh.length - (scanS q2 bh).2.2.length, hfile, hmore, hfl, hlen, hlk, ?_, ?_, fun hn => hu (by omega), by omega⟩
  · unfold endS
    rw [hlk]
    dsimp only
    rw [if_pos ⟨rfl, by simp⟩]
  · rw [hB]
    dsimp only
    rw [List.length_append, ← List.append_assoc]
    congr 1
    omega
end Go.Proofs.Ytibbbdifkopebaa
