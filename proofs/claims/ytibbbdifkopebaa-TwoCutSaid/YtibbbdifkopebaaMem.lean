/-
  Plain words for memory: a slice that reads as a list of cells; bytes; integers.
-/
import Derived.WalkKit
import Derived.Laws.OwnMore
import Derived.Deep.AppendLies
import Derived.Deep.Draws
import Derived.Maps.AppendAt
import Derived.RegionTactic
import Derived.OwnWalk
import Derived.Lib.Hide
import Derived.Test.YtibbbdifkopebaaLib
set_option linter.all false
namespace Go.Mv
open Go.RowKit

/-- What lay in w lies in w' as it lay. -/
abbrev Ext (w w' : World) : Prop := Below w.heap.size w w'

theorem Ext.trans {a b c : World} (h : Ext a b) (k : Ext b c) : Ext a c := Below.trans h (k.mono h.size)
theorem Ext.refl (w : World) : Ext w w := Below.refl _ _
theorem Ext.alloc {a b : World} (h : Ext a b) (o : Obj) : Ext a (b.alloc o) := Below.alloc h h.size o
theorem Ext.drew {a b : World} (h : Ext a b) : Ext a b.drew := Below.drew h
theorem Ext.grown {a b : World} (h : Ext a b) (row : Option Nat) : a.grownBy b row := ⟨h.os, h.tape, h.output, h.size, fun k hk _ => h.block k hk⟩
theorem Ext.cell {a b : World} (h : Ext a b) {p : Addr} {v : Value} (hc : a.cell? p = some v) : b.cell? p = some v :=
  (Below.cell h (World.block_lt_of_cell? a p hc)).trans hc

/-- The slice v reads as n elements of 'size' cells each: the cells xs. -/
def SlR (w : World) (size : Nat) (v : Value) (n : Nat) (xs : List Value) : Prop :=
  xs.length = n * size ∧ ∃ A c, v = .slice A n c ∧ n ≤ c ∧ c ≤ maxLen ∧ (0 < n → ∃ b off, A = some ⟨b, off, none⟩ ∧ ∀ j u, xs[j]? = some u → w.cell? ⟨b, off + j, none⟩ = some u)

section
variable {w w' : World} {size : Nat} {v : Value} {n : Nat} {xs : List Value}
theorem SlR.keep (h : SlR w size v n xs) (hk : ∀ p u, w.cell? p = some u → w'.cell? p = some u) : SlR w' size v n xs := by
  obtain ⟨hl, A, c, rfl, h1, h2, h3⟩ := h
  refine ⟨hl, A, c, rfl, h1, h2, fun hn => ?_⟩
  obtain ⟨b, off, rfl, hc⟩ := h3 hn
  exact ⟨b, off, rfl, fun j u hu => hk _ _ (hc j u hu)⟩
theorem SlR.ext (h : SlR w size v n xs) (he : Ext w w') : SlR w' size v n xs := h.keep fun _ _ hc => he.cell hc
theorem SlR.nil (w : World) (size : Nat) : SlR w size (.slice none 0 0) 0 [] := ⟨by simp, none, 0, rfl, Nat.le_refl _, Nat.zero_le _, fun h => absurd h (by omega)⟩
theorem SlR.empty (w : World) (size : Nat) {A : Option Addr} {c : Nat} (hc : c ≤ maxLen) : SlR w size (.slice A 0 c) 0 [] := ⟨by simp, A, c, rfl, Nat.zero_le _, hc, fun h => absurd h (by omega)⟩
/-- The slice written out, at an address where it has an element. -/
theorem SlR.open_ (h : SlR w size v n xs) : ∃ A c, v = .slice A n c ∧ n ≤ c ∧ c ≤ 9223372036854775807 := by
  obtain ⟨_, A, c, rfl, h1, h2, _⟩ := h
  exact ⟨A, c, rfl, h1, by simpa [maxLen] using h2⟩
theorem SlR.at_ {A : Option Addr} {m c : Nat} (h : SlR w size (.slice A m c) n xs) (hn : 0 < n) : m = n ∧ ∃ b off, A = some ⟨b, off, none⟩ ∧ ∀ j u, xs[j]? = some u → w.cell? ⟨b, off + j, none⟩ = some u := by
  obtain ⟨_, A', c', hv, h1, h2, h3⟩ := h
  injection hv with e1 e2 e3
  subst e1 e2 e3
  exact ⟨rfl, h3 hn⟩
theorem SlR.len_le (h : SlR w size v n xs) : n ≤ maxLen := by obtain ⟨_, _, c, _, h1, h2, _⟩ := h; omega
theorem SlR.of_own {base : Nat} {e : TypeId} (h : w.ownsRow base e size v n xs) : SlR w size v n xs := by
  refine ⟨h.1, ?_⟩
  rcases h.2 with ⟨rfl, rfl⟩ | ⟨g, cap, cur, rfl, _, _, hnc, hcm, _⟩
  · exact ⟨none, 0, rfl, Nat.le_refl _, Nat.zero_le _, fun h => absurd h (by omega)⟩
  · refine ⟨some ⟨g, 0, none⟩, cap, rfl, hnc, hcm, fun _ => ⟨g, 0, rfl, fun j u hu => ?_⟩⟩
    have := h.cells (g := g) rfl j u hu
    rw [show (⟨g, 0, none⟩ : Addr).add j = ⟨g, 0 + j, none⟩ from by unfold Addr.add; split <;> simp_all] at this
    exact this
end

theorem bdrewN {B : Nat} {a w : World} (h : Below B a w) (n : Nat) : Below B a (w.drewN n) := ⟨h.os, h.tape, h.output, h.size, h.block⟩

/-- A slice cut at its beginning. -/
theorem SlR.drop1 {w : World} {b off c n : Nat} {xs : List Value} (h : SlR w 1 (.slice (some ⟨b, off, none⟩) n c) n xs) (k : Nat) (hk : k ≤ n) : SlR w 1 (.slice (some ⟨b, off + k, none⟩) (n - k) (c - k)) (n - k) (xs.drop k) := by
  obtain ⟨hl, A, c', e, h1, h2, h3⟩ := h
  cases e
  refine ⟨by rw [List.length_drop, hl]; omega, _, _, rfl, by omega, by omega, fun hn => ?_⟩
  obtain ⟨b', off', e', hc⟩ := h3 (by omega)
  cases e'
  refine ⟨b, off + k, rfl, fun j u hu => ?_⟩
  rw [Nat.add_assoc]
  exact hc (k + j) u (by rw [← hu, List.getElem?_drop])
theorem SlR.none_left {w : World} {size n k c : Nat} {A : Option Addr} {xs : List Value} (hn : n ≤ k) (hl : xs.length ≤ k * size) (hc : c ≤ maxLen) : SlR w size (.slice A (n - k) c) (n - k) (xs.drop (k * size)) := by
  rw [show n - k = 0 from by omega, List.drop_of_length_le hl]
  exact SlR.empty w size hc

/-- A byte; bytes. -/
def bv (b : UInt8) : Value := .int .u8 b.toNat
def Bs (w : World) (v : Value) (bs : List UInt8) : Prop := SlR w 1 v bs.length (bs.map bv)
def iv (n : Int) : Value := .int .i64 n
def Is (w : World) (v : Value) (l : List Int) : Prop := SlR w 1 v l.length (l.map iv)
theorem Bs.ext {w w' : World} {v : Value} {bs : List UInt8} (h : Bs w v bs) (he : Ext w w') : Bs w' v bs := SlR.ext h he
theorem Is.ext {w w' : World} {v : Value} {bs : List Int} (h : Is w v bs) (he : Ext w w') : Is w' v bs := SlR.ext h he

theorem own_ext {w w' : World} {base : Nat} {e : TypeId} {size : Nat} {v : Value} {n : Nat} {xs : List Value} (h : w.ownsRow base e size v n xs) (he : Ext w w') : w'.ownsRow base e size v n xs :=
  h.kept (Ext.grown he (some w.heap.size)) (.inr (fun e => by have := (h.lt _ e).2; omega))
theorem own_base {w : World} {base base' : Nat} {e : TypeId} {size : Nat} {v : Value} {n : Nat} {xs : List Value} (h : w.ownsRow base e size v n xs) (hb : base' ≤ base) : w.ownsRow base' e size v n xs := by
  refine ⟨h.1, ?_⟩
  rcases h.2 with hn | ⟨g, cap, cur, rfl, hg, rest⟩
  · exact .inl hn
  · exact .inr ⟨g, cap, cur, rfl, by omega, rest⟩
theorem own_new (w : World) (cs : List Value) (e : TypeId) (m : Nat) (hm : m = cs.length) (hl : m ≤ maxLen) {base : Nat} (hb : base ≤ w.heap.size) : (w.alloc (.cells cs.toArray e)).ownsRow base e 1 (.slice (some ⟨w.heap.size, 0, none⟩) m m) m cs := by
  subst hm
  exact ⟨by simp, .inr ⟨w.heap.size, cs.length, cs.toArray, rfl, hb, heap_alloc_new w _, Nat.le_refl _, hl, by simp, by simp⟩⟩
theorem Bs.cut {w : World} {b off c n : Nat} {bs : List UInt8} (h : Bs w (.slice (some ⟨b, off, none⟩) n c) bs) (k : Nat) (hk : k ≤ bs.length) (hn : n = bs.length) : Bs w (.slice (some ⟨b, off + k, none⟩) (n - k) (c - k)) (bs.drop k) := by
  subst hn
  have := SlR.drop1 h k hk
  unfold Bs
  rw [List.length_drop, ← List.map_drop] at *
  exact this
theorem Bs.cut0 {w : World} {A : Option Addr} {n k c : Nat} {bs : List UInt8} (hk : bs.length ≤ k) (hn : n = bs.length) (hc : c ≤ 9223372036854775807) : Bs w (.slice A (n - k) c) (bs.drop k) := by
  subst hn
  unfold Bs
  rw [show bs.length - k = 0 from by omega, List.drop_of_length_le hk]
  exact SlR.empty w 1 (by simpa [maxLen] using hc)
theorem one_bv (l : List UInt8) : ∀ u ∈ l.map bv, u.oneCell' = true := by
  intro u hu
  obtain ⟨b, _, rfl⟩ := List.mem_map.1 hu
  rfl
theorem one_iv (l : List Int) : ∀ u ∈ l.map iv, u.oneCell' = true := by
  intro u hu
  obtain ⟨b, _, rfl⟩ := List.mem_map.1 hu
  rfl
/-- Behind an append's law: what lay in an older world. -/
theorem Ext.grownOwn {w wr w1 : World} {e : TypeId} {size : Nat} {v : Value} {n : Nat} {xs : List Value} (h : Ext w wr) (hown : wr.ownsRow w.heap.size e size v n xs) (hg : wr.grownBy w1 v.ownBlock) : Ext w w1 :=
  Below.grown h hg h.size (fun k ek => (hown.lt k ek).1)
/-- A row of a call's own at a box, written out, where it has an element. -/
theorem ownsRow_pos {w : World} {base : Nat} {e : TypeId} {size : Nat} {v : Value} {n : Nat} {xs : List Value} (h : w.ownsRow base e size v n xs) (hn : 0 < n) : ∃ g cap, v = .slice (some ⟨g, 0, none⟩) n cap ∧ base ≤ g ∧ n ≤ cap ∧ cap ≤ 9223372036854775807 := by
  rcases h.2 with ⟨_, h0⟩ | ⟨g, cap, _, rfl, hb, _, h1, h2, _⟩
  · omega
  · exact ⟨g, cap, rfl, hb, h1, by simpa [maxLen] using h2⟩
theorem ownsRow_cells {w : World} {base : Nat} {e : TypeId} {size : Nat} {v : Value} {n : Nat} {xs : List Value} (h : w.ownsRow base e size v n xs) {k : Nat} (hk : v.ownBlock = some k) : ∃ cur, w.heap[k]? = some (.cells cur e (0, 0)) := by
  rcases h.2 with ⟨rfl, _⟩ | ⟨g, cap, cur, rfl, _, hg, _⟩
  · simp [Value.ownBlock] at hk
  · have : g = k := by simpa [Value.ownBlock] using hk
    subst this
    exact ⟨cur, hg⟩

/-- Two rows of different elements lie in different blocks. -/
theorem own_apart {w : World} {base base' : Nat} {e e' : TypeId} {size size' : Nat} {v v' : Value} {n n' : Nat} {xs xs' : List Value} (h : w.ownsRow base e size v n xs) (h' : w.ownsRow base' e' size' v' n' xs') (he : e ≠ e') : v.ownBlock = none ∨ v.ownBlock ≠ v'.ownBlock := by
  cases hk : v.ownBlock with
  | none => exact .inl rfl
  | some k =>
    refine .inr (fun e0 => ?_)
    obtain ⟨c, hc⟩ := ownsRow_cells h hk
    obtain ⟨c', hc'⟩ := ownsRow_cells h' e0.symm
    rw [hc] at hc'
    cases hc'
    exact he rfl

/-- 'out = append(out, ..)' at a box, behind the append's law. -/
theorem Kept.appended {K : Nat → Obj → Prop} {W w1 : World} {n₀ B : Nat} {t e : TypeId} {size : Nat} {v : Value} {k : Nat} {xs : List Value} {tmp : Obj} (u : Value)
    (hv : Boxed W B t v) (hrow : W.ownsRow n₀ e size v k xs) (hgrow : (W.alloc tmp).grownBy w1 v.ownBlock)
    (hKB : ¬ K B (.cells #[v] t (0, 0))) (hKe : ∀ k cur, v.ownBlock = some k → ¬ K k (.cells cur e (0, 0))) : Kept K W (w1.setCell ⟨B, 0, none⟩ u) := by
  refine ((Kept.refl.alloc tmp).grown hgrow (fun j o ej hj => ?_)).setCell (fun o ho _ => ?_) u
  · obtain ⟨cur, hc⟩ := ownsRow_cells hrow ej
    rw [hj] at hc; cases hc
    exact hKe j cur ej
  · rw [show W.heap[B]? = _ from hv] at ho; cases ho; exact hKB

theorem ret_bool {a b : Bool} (h : a = b) : Ending.returned (.bool a) = .returned (.bool b) := by rw [h]
theorem ret_int {k : IntKind} {a b : Int} (h : a = b) : Ending.returned (.int k a) = .returned (.int k b) := by rw [h]
end Go.Mv
