/-
  Points are compared as points.
-/
import Derived.Test.YtibbbdifkopebaaNext
set_option linter.all false
namespace Go.Proofs.Ytibbbdifkopebaa
open Go.RowKit Go.Mv

theorem order_pt {a b x y : Nat} (ha : ptOf a = some x) (hb : ptOf b = some y) : (FloatKind.f64.format.order a b == some .eq) = decide (x = y) := by
  obtain ⟨_, s, hs, h1⟩ := ptOf_fl ha
  obtain ⟨_, t, ht, h2⟩ := ptOf_fl hb
  show (Ieee.double.order a b == some .eq) = _
  have e1 : sval s x = (x : Int) := by have := sval_pt hs 1; simpa using this
  have e2 : sval t y = (y : Int) := by have := sval_pt ht 1; simpa using this
  rw [order_fl h1 h2, cmp_eq, e1, e2]
  exact decide_eq_decide.2 (by omega)
end Go.Proofs.Ytibbbdifkopebaa
