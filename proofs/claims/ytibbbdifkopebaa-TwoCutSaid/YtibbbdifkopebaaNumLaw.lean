/-
  Plain facts on numbers' short bytes.
-/
import Derived.Test.YtibbbdifkopebaaNum
set_option linter.all false
namespace Go.Proofs.Ytibbbdifkopebaa
open Go.RowKit Go.Mv

/-- The digits ahead of the last one, each with its highest bit set. -/
def hiB : Nat → Nat → List UInt8
  | 0, _ => []
  | f + 1, m => if m = 0 then [] else hiB f (m / 128) ++ [UInt8.ofNat (m % 128 + 128)]

theorem or128 (m : Nat) : UInt8.ofNat (m % 128) ||| 128 = UInt8.ofNat (m % 128 + 128) := by
  have h2 : ∀ m : Nat, m < 128 → UInt8.ofNat m ||| 128 = UInt8.ofNat (m + 128) := by decide
  exact h2 _ (Nat.mod_lt _ (by decide))

theorem hiB_zero (f : Nat) : hiB f 0 = [] := by cases f <;> simp [hiB]

theorem short1_eq (n : Nat) (hn : n ≤ 1073741824) : short1 n = hiB 5 (n / 128) ++ [UInt8.ofNat (n % 128)] := by
  unfold short1
  congr 1
  have d2 : n / 128 / 128 = n / 16384 := by omega
  have d3 : n / 16384 / 128 = n / 2097152 := by omega
  have d4 : n / 2097152 / 128 = n / 268435456 := by omega
  have d5 : n / 268435456 / 128 = 0 := by omega
  by_cases h4 : n / 268435456 = 0
  · by_cases h3 : n / 2097152 = 0
    · by_cases h2 : n / 16384 = 0
      · by_cases h1 : n / 128 = 0
        · simp [digRec, hiB, h1, h2, h3, h4]
        · simp [digRec, hiB, d2, d3, d4, d5, h1, h2, h3, h4, or128]
      · have h1 : n / 128 ≠ 0 := by omega
        simp [digRec, hiB, d2, d3, d4, d5, h1, h2, h3, h4, or128]
    · have h1 : n / 128 ≠ 0 := by omega
      have h2 : n / 16384 ≠ 0 := by omega
      simp [digRec, hiB, d2, d3, d4, d5, h1, h2, h3, h4, or128]
  · have h1 : n / 128 ≠ 0 := by omega
    have h2 : n / 16384 ≠ 0 := by omega
    have h3 : n / 2097152 ≠ 0 := by omega
    simp [digRec, hiB, d2, d3, d4, d5, h1, h2, h3, h4, or128]
end Go.Proofs.Ytibbbdifkopebaa
