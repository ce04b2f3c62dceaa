/-
  Plain words for memory: a slice that reads as a list of cells; bytes; integers.
  Plain laws over any program: append onto a row of the call's own, the source whatever slice reads as a list (nil, empty or not).
  A plain law over any program: a scope with labels, inside the fence; with the fenced walk's words for it.
  The walk of num.digits' iterator.
-/
import Derived.Test.YtfjcnpigpkcfgaaGreatM1
import Derived.WalkKit
import Derived.Laws.OwnMore
import Derived.Deep.AppendLies
import Derived.Deep.Draws
import Derived.Maps.AppendAt
import Derived.RegionTactic
import Derived.OwnWalk
import Derived.Lib.Hide
import Derived.OwnWalkIn
import Derived.TacticsInMore
import Derived.ScopeJumps
import Derived.LoopNIn
import Derived.LoopIn
import Derived.Shelf.Abstract
import Derived.Shelf.RegionOpen
import Derived.Test.YtfjcnpigpkcfgaaGreatRows
import Derived.WalkSpells
import Derived.WalkLawsBesides
set_option linter.all false
namespace Go
/-- As Q; by a goto to a label of L: J of it; by any other goto: as Q. -/
def Exit.jumps (L : List Nat) (J : Nat → Act → World → Prop) (Q : Exit → Act → World → Prop) : Exit → Act → World → Prop
  | .goto l, a, w => (l ∈ L ∧ J l a w) ∨ (l ∉ L ∧ Q (.goto l) a w)
  | e, a, w => Q e a w
end Go
namespace Go.Mv
open Go.RowKit

/-- What lay in w lies in w' as it lay. -/
abbrev Ext (w w' : World) : Prop := Below w.heap.size w w'

theorem Ext.trans {a b c : World} (h : Ext a b) (k : Ext b c) : Ext a c := Below.trans h (k.mono h.size)
theorem Ext.refl (w : World) : Ext w w := Below.refl _ _
theorem Ext.alloc {a b : World} (h : Ext a b) (o : Obj) : Ext a (b.alloc o) := Below.alloc h h.size o
theorem Ext.drew {a b : World} (h : Ext a b) : Ext a b.drew := Below.drew h
theorem Ext.grown {a b : World} (h : Ext a b) (row : Option Nat) : a.grownBy b row := ⟨h.os, h.tape, h.output, h.size, fun k hk _ => h.block k hk⟩
theorem Ext.cell {a b : World} (h : Ext a b) {p : Addr} {v : Value} (hc : a.cell? p = some v) : b.cell? p = some v :=
  (Below.cell h (World.block_lt_of_cell? a p hc)).trans hc

/-- The slice v reads as n elements of 'size' cells each: the cells xs. -/
def SlR (w : World) (size : Nat) (v : Value) (n : Nat) (xs : List Value) : Prop :=
  xs.length = n * size ∧ ∃ A c, v = .slice A n c ∧ n ≤ c ∧ c ≤ maxLen ∧ (0 < n → ∃ b off, A = some ⟨b, off, none⟩ ∧ ∀ j u, xs[j]? = some u → w.cell? ⟨b, off + j, none⟩ = some u)

section
variable {w w' : World} {size : Nat} {v : Value} {n : Nat} {xs : List Value}
theorem SlR.keep (h : SlR w size v n xs) (hk : ∀ p u, w.cell? p = some u → w'.cell? p = some u) : SlR w' size v n xs := by
  obtain ⟨hl, A, c, rfl, h1, h2, h3⟩ := h
  refine ⟨hl, A, c, rfl, h1, h2, fun hn => ?_⟩
  obtain ⟨b, off, rfl, hc⟩ := h3 hn
  exact ⟨b, off, rfl, fun j u hu => hk _ _ (hc j u hu)⟩
theorem SlR.ext (h : SlR w size v n xs) (he : Ext w w') : SlR w' size v n xs := h.keep fun _ _ hc => he.cell hc
theorem SlR.nil (w : World) (size : Nat) : SlR w size (.slice none 0 0) 0 [] := ⟨by simp, none, 0, rfl, Nat.le_refl _, Nat.zero_le _, fun h => absurd h (by omega)⟩
theorem SlR.empty (w : World) (size : Nat) {A : Option Addr} {c : Nat} (hc : c ≤ maxLen) : SlR w size (.slice A 0 c) 0 [] := ⟨by simp, A, c, rfl, Nat.zero_le _, hc, fun h => absurd h (by omega)⟩
/-- The slice written out, at an address where it has an element. -/
theorem SlR.open_ (h : SlR w size v n xs) : ∃ A c, v = .slice A n c ∧ n ≤ c ∧ c ≤ 9223372036854775807 := by
  obtain ⟨_, A, c, rfl, h1, h2, _⟩ := h
  exact ⟨A, c, rfl, h1, by simpa [maxLen] using h2⟩
theorem SlR.at_ {A : Option Addr} {m c : Nat} (h : SlR w size (.slice A m c) n xs) (hn : 0 < n) : m = n ∧ ∃ b off, A = some ⟨b, off, none⟩ ∧ ∀ j u, xs[j]? = some u → w.cell? ⟨b, off + j, none⟩ = some u := by
  obtain ⟨_, A', c', hv, h1, h2, h3⟩ := h
  injection hv with e1 e2 e3
  subst e1 e2 e3
  exact ⟨rfl, h3 hn⟩
theorem SlR.len_le (h : SlR w size v n xs) : n ≤ maxLen := by obtain ⟨_, _, c, _, h1, h2, _⟩ := h; omega
theorem SlR.of_own {base : Nat} {e : TypeId} (h : w.ownsRow base e size v n xs) : SlR w size v n xs := by
  refine ⟨h.1, ?_⟩
  rcases h.2 with ⟨rfl, rfl⟩ | ⟨g, cap, cur, rfl, _, _, hnc, hcm, _⟩
  · exact ⟨none, 0, rfl, Nat.le_refl _, Nat.zero_le _, fun h => absurd h (by omega)⟩
  · refine ⟨some ⟨g, 0, none⟩, cap, rfl, hnc, hcm, fun _ => ⟨g, 0, rfl, fun j u hu => ?_⟩⟩
    have := h.cells (g := g) rfl j u hu
    rw [show (⟨g, 0, none⟩ : Addr).add j = ⟨g, 0 + j, none⟩ from by unfold Addr.add; split <;> simp_all] at this
    exact this
end

theorem bdrewN {B : Nat} {a w : World} (h : Below B a w) (n : Nat) : Below B a (w.drewN n) := ⟨h.os, h.tape, h.output, h.size, h.block⟩

/-- A slice cut at its beginning. -/
theorem SlR.drop1 {w : World} {b off c n : Nat} {xs : List Value} (h : SlR w 1 (.slice (some ⟨b, off, none⟩) n c) n xs) (k : Nat) (hk : k ≤ n) : SlR w 1 (.slice (some ⟨b, off + k, none⟩) (n - k) (c - k)) (n - k) (xs.drop k) := by
  obtain ⟨hl, A, c', e, h1, h2, h3⟩ := h
  cases e
  refine ⟨by rw [List.length_drop, hl]; omega, _, _, rfl, by omega, by omega, fun hn => ?_⟩
  obtain ⟨b', off', e', hc⟩ := h3 (by omega)
  cases e'
  refine ⟨b, off + k, rfl, fun j u hu => ?_⟩
  rw [Nat.add_assoc]
  exact hc (k + j) u (by rw [← hu, List.getElem?_drop])
theorem SlR.none_left {w : World} {size n k c : Nat} {A : Option Addr} {xs : List Value} (hn : n ≤ k) (hl : xs.length ≤ k * size) (hc : c ≤ maxLen) : SlR w size (.slice A (n - k) c) (n - k) (xs.drop (k * size)) := by
  rw [show n - k = 0 from by omega, List.drop_of_length_le hl]
  exact SlR.empty w size hc

/-- A byte; bytes. -/
def bv (b : UInt8) : Value := .int .u8 b.toNat
def Bs (w : World) (v : Value) (bs : List UInt8) : Prop := SlR w 1 v bs.length (bs.map bv)
def iv (n : Int) : Value := .int .i64 n
def Is (w : World) (v : Value) (l : List Int) : Prop := SlR w 1 v l.length (l.map iv)
theorem Bs.ext {w w' : World} {v : Value} {bs : List UInt8} (h : Bs w v bs) (he : Ext w w') : Bs w' v bs := SlR.ext h he
theorem Is.ext {w w' : World} {v : Value} {bs : List Int} (h : Is w v bs) (he : Ext w w') : Is w' v bs := SlR.ext h he

theorem own_ext {w w' : World} {base : Nat} {e : TypeId} {size : Nat} {v : Value} {n : Nat} {xs : List Value} (h : w.ownsRow base e size v n xs) (he : Ext w w') : w'.ownsRow base e size v n xs :=
  h.kept (Ext.grown he (some w.heap.size)) (.inr (fun e => by have := (h.lt _ e).2; omega))
theorem own_base {w : World} {base base' : Nat} {e : TypeId} {size : Nat} {v : Value} {n : Nat} {xs : List Value} (h : w.ownsRow base e size v n xs) (hb : base' ≤ base) : w.ownsRow base' e size v n xs := by
  refine ⟨h.1, ?_⟩
  rcases h.2 with hn | ⟨g, cap, cur, rfl, hg, rest⟩
  · exact .inl hn
  · exact .inr ⟨g, cap, cur, rfl, by omega, rest⟩
theorem own_new (w : World) (cs : List Value) (e : TypeId) (m : Nat) (hm : m = cs.length) (hl : m ≤ maxLen) {base : Nat} (hb : base ≤ w.heap.size) : (w.alloc (.cells cs.toArray e)).ownsRow base e 1 (.slice (some ⟨w.heap.size, 0, none⟩) m m) m cs := by
  subst hm
  exact ⟨by simp, .inr ⟨w.heap.size, cs.length, cs.toArray, rfl, hb, heap_alloc_new w _, Nat.le_refl _, hl, by simp, by simp⟩⟩
theorem Bs.cut {w : World} {b off c n : Nat} {bs : List UInt8} (h : Bs w (.slice (some ⟨b, off, none⟩) n c) bs) (k : Nat) (hk : k ≤ bs.length) (hn : n = bs.length) : Bs w (.slice (some ⟨b, off + k, none⟩) (n - k) (c - k)) (bs.drop k) := by
  subst hn
  have := SlR.drop1 h k hk
  unfold Bs
  rw [List.length_drop, ← List.map_drop] at *
  exact this
theorem Bs.cut0 {w : World} {A : Option Addr} {n k c : Nat} {bs : List UInt8} (hk : bs.length ≤ k) (hn : n = bs.length) (hc : c ≤ 9223372036854775807) : Bs w (.slice A (n - k) c) (bs.drop k) := by
  subst hn
  unfold Bs
  rw [show bs.length - k = 0 from by omega, List.drop_of_length_le hk]
  exact SlR.empty w 1 (by simpa [maxLen] using hc)
theorem one_bv (l : List UInt8) : ∀ u ∈ l.map bv, u.oneCell' = true := by
  intro u hu
  obtain ⟨b, _, rfl⟩ := List.mem_map.1 hu
  rfl
theorem one_iv (l : List Int) : ∀ u ∈ l.map iv, u.oneCell' = true := by
  intro u hu
  obtain ⟨b, _, rfl⟩ := List.mem_map.1 hu
  rfl
/-- Behind an append's law: what lay in an older world. -/
theorem Ext.grownOwn {w wr w1 : World} {e : TypeId} {size : Nat} {v : Value} {n : Nat} {xs : List Value} (h : Ext w wr) (hown : wr.ownsRow w.heap.size e size v n xs) (hg : wr.grownBy w1 v.ownBlock) : Ext w w1 :=
  Below.grown h hg h.size (fun k ek => (hown.lt k ek).1)
/-- A row of a call's own at a box, written out, where it has an element. -/
theorem ownsRow_pos {w : World} {base : Nat} {e : TypeId} {size : Nat} {v : Value} {n : Nat} {xs : List Value} (h : w.ownsRow base e size v n xs) (hn : 0 < n) : ∃ g cap, v = .slice (some ⟨g, 0, none⟩) n cap ∧ base ≤ g ∧ n ≤ cap ∧ cap ≤ 9223372036854775807 := by
  rcases h.2 with ⟨_, h0⟩ | ⟨g, cap, _, rfl, hb, _, h1, h2, _⟩
  · omega
  · exact ⟨g, cap, rfl, hb, h1, by simpa [maxLen] using h2⟩
theorem ownsRow_cells {w : World} {base : Nat} {e : TypeId} {size : Nat} {v : Value} {n : Nat} {xs : List Value} (h : w.ownsRow base e size v n xs) {k : Nat} (hk : v.ownBlock = some k) : ∃ cur, w.heap[k]? = some (.cells cur e (0, 0)) := by
  rcases h.2 with ⟨rfl, _⟩ | ⟨g, cap, cur, rfl, _, hg, _⟩
  · simp [Value.ownBlock] at hk
  · have : g = k := by simpa [Value.ownBlock] using hk
    subst this
    exact ⟨cur, hg⟩

/-- Two rows of different elements lie in different blocks. -/
theorem own_apart {w : World} {base base' : Nat} {e e' : TypeId} {size size' : Nat} {v v' : Value} {n n' : Nat} {xs xs' : List Value} (h : w.ownsRow base e size v n xs) (h' : w.ownsRow base' e' size' v' n' xs') (he : e ≠ e') : v.ownBlock = none ∨ v.ownBlock ≠ v'.ownBlock := by
  cases hk : v.ownBlock with
  | none => exact .inl rfl
  | some k =>
    refine .inr (fun e0 => ?_)
    obtain ⟨c, hc⟩ := ownsRow_cells h hk
    obtain ⟨c', hc'⟩ := ownsRow_cells h' e0.symm
    rw [hc] at hc'
    cases hc'
    exact he rfl

/-- 'out = append(out, ..)' at a box, behind the append's law. -/
theorem Kept.appended {K : Nat → Obj → Prop} {W w1 : World} {n₀ B : Nat} {t e : TypeId} {size : Nat} {v : Value} {k : Nat} {xs : List Value} {tmp : Obj} (u : Value)
    (hv : Boxed W B t v) (hrow : W.ownsRow n₀ e size v k xs) (hgrow : (W.alloc tmp).grownBy w1 v.ownBlock)
    (hKB : ¬ K B (.cells #[v] t (0, 0))) (hKe : ∀ k cur, v.ownBlock = some k → ¬ K k (.cells cur e (0, 0))) : Kept K W (w1.setCell ⟨B, 0, none⟩ u) := by
  refine ((Kept.refl.alloc tmp).grown hgrow (fun j o ej hj => ?_)).setCell (fun o ho _ => ?_) u
  · obtain ⟨cur, hc⟩ := ownsRow_cells hrow ej
    rw [hj] at hc; cases hc
    exact hKe j cur ej
  · rw [show W.heap[B]? = _ from hv] at ho; cases ho; exact hKB

theorem ret_bool {a b : Bool} (h : a = b) : Ending.returned (.bool a) = .returned (.bool b) := by rw [h]
theorem ret_int {k : IntKind} {a b : Int} (h : a = b) : Ending.returned (.int k a) = .returned (.int k b) := by rw [h]
end Go.Mv

namespace Go.Mv
open Go.RowKit
section
variable {P : Program} (w : World)

theorem run_append_of_nil (base : Nat) (t ty e : TypeId) (i : TypeInfo) (size : Nat) (ht : P.underlying t = some (.slice e)) (hi : P.info? e = some i)
    (v : Value) (n : Nat) (xs : List Value) (hown : w.ownsRow base e size v n xs) (c : Nat) : (Builtin.append_ #[t, t] ty #[v, .slice none 0 c]).run P w = .ok v w := by
  rcases hown.2 with ⟨rfl, rfl⟩ | ⟨g, cap, cur, rfl, _, _, hnc, _⟩
  · simp [Builtin.append_, run_underlying ht, sizeOf, typeInfo, hi, Builtin.lenOf, Builtin.firstCells]
  · simp [Builtin.append_, run_underlying ht, sizeOf, typeInfo, hi, Builtin.lenOf, Builtin.firstCells, hnc, storeCells]

theorem run_append_sl (base : Nat) (t ty e : TypeId) (i : TypeInfo) (z : Value) (size bytes : Nat) (ht : P.underlying t = some (.slice e)) (hi : P.info? e = some i) (hz : i.zero = some z)
    (hsize : i.size = size) (hby : i.bytes = bytes) (hzs : z.cells.size = size) (hsz : 0 < size)
    (v : Value) (n : Nat) (xs : List Value) (hown : w.ownsRow base e size v n xs)
    (vx : Value) (m : Nat) (news : List Value) (hr : SlR w size vx m news) (h1 : ∀ u ∈ news, u.oneCell' = true)
    (h63 : n + m ≤ maxLen) (hbytes : (n + m) * bytes ≤ 140737488355328) (hbase : base ≤ w.heap.size) :
    ∃ v' w', (Builtin.append_ #[t, t] ty #[v, vx]).run P w = .ok v' w' ∧ w'.ownsRow base e size v' (n + m) (xs ++ news) ∧ w.grownBy w' v.ownBlock := by
  obtain ⟨hl, A, c, rfl, _, _, hc⟩ := hr
  rcases Nat.eq_zero_or_pos m with h0 | h0
  · subst h0
    have hn : news = [] := List.eq_nil_of_length_eq_zero (by simpa using hl)
    subst hn
    cases A with
    | none => exact ⟨v, w, run_append_of_nil w base t ty e i size ht hi v n xs hown c, by simpa using hown, ⟨rfl, rfl, rfl, Nat.le_refl _, fun _ _ _ => rfl⟩⟩
    | some ad =>
      obtain ⟨v', w', hrun, h2, h3, _⟩ := run_append_own (P := P) w base t ty e i z size bytes ht hi hz hsize hby hzs hsz v n xs hown ad 0 c [] hl (by simp) h1 h63 hbytes hbase
      exact ⟨v', w', hrun, h2, h3⟩
  · obtain ⟨b, off, rfl, hcell⟩ := hc h0
    have hadd : ∀ j, (⟨b, off, none⟩ : Addr).add j = ⟨b, off + j, none⟩ := by intro j; unfold Addr.add; split <;> simp_all
    obtain ⟨v', w', hrun, h2, h3, _⟩ := run_append_own (P := P) w base t ty e i z size bytes ht hi hz hsize hby hzs hsz v n xs hown ⟨b, off, none⟩ m c news hl (fun j u hu => by rw [hadd]; exact hcell j u hu) h1 h63 hbytes hbase
    exact ⟨v', w', hrun, h2, h3⟩

theorem wpList_append_sl {ops : Array Oper} {rest : List Oper} {o : Oper} {a : Act} {Q : Exit → Act → World → Prop} (hgd : o.guard = none) (s x : Operand) (t : TypeId)
    (ho : o.op = .call { callee := .builtin .append, args := #[s, x], argTypes := #[t, t] })
    (base : Nat) (e : TypeId) (i : TypeInfo) (z : Value) (size bytes : Nat) (ht : P.underlying t = some (.slice e)) (hi : P.info? e = some i) (hz : i.zero = some z)
    (hsize : i.size = size) (hby : i.bytes = bytes) (hzs : z.cells.size = size) (hsz : 0 < size)
    (v : Value) (n : Nat) (xs : List Value) (hs : a.eval s = v) (hown : w.ownsRow base e size v n xs)
    (vx : Value) (m : Nat) (news : List Value) (hx : a.eval x = vx) (hr : SlR w size vx m news) (h1 : ∀ u ∈ news, u.oneCell' = true)
    (h63 : n + m ≤ maxLen) (hbytes : (n + m) * bytes ≤ 140737488355328) (hbase : base ≤ w.heap.size)
    (h : ∀ v' w', w'.ownsRow base e size v' (n + m) (xs ++ news) → w.grownBy w' v.ownBlock → wpList P ops Q rest (a.put o.dst v') w') : wpList P ops Q (o :: rest) a w := by
  refine wpList_plain hgd fun K hK => ?_
  obtain ⟨v', w', hrun, h2, h3⟩ := run_append_sl (P := P) w base t o.type e i z size bytes ht hi hz hsize hby hzs hsz v n xs hown vx m news hr h1 h63 hbytes hbase
  unfold Oper.wp execOp
  simp only [ho, resolve, invoke, builtin, Sem.run_bind, Sem.run_pure, Result.andThen_ok, List.map_toArray, List.map_cons, List.map_nil, hs, hx, hrun]
  exact hK _ _ (h v' w' h2 h3)

theorem wpListIn_append_sl {F : Fence} {nf : Nat} {ops : Array Oper} {rest : List Oper} {o : Oper} {a : Act} {Q : Exit → Act → World → Prop} (hgd : o.guard = none) (s x : Operand) (t : TypeId)
    (ho : o.op = .call { callee := .builtin .append, args := #[s, x], argTypes := #[t, t] })
    (base : Nat) (e : TypeId) (i : TypeInfo) (z : Value) (size bytes : Nat) (ht : P.underlying t = some (.slice e)) (hi : P.info? e = some i) (hz : i.zero = some z)
    (hsize : i.size = size) (hby : i.bytes = bytes) (hzs : z.cells.size = size) (hsz : 0 < size)
    (v : Value) (n : Nat) (xs : List Value) (hs : a.eval s = v) (hown : w.ownsRow base e size v n xs)
    (vx : Value) (m : Nat) (news : List Value) (hx : a.eval x = vx) (hr : SlR w size vx m news) (h1 : ∀ u ∈ news, u.oneCell' = true)
    (h63 : n + m ≤ maxLen) (hbytes : (n + m) * bytes ≤ 140737488355328) (hbase : base ≤ w.heap.size)
    (h : ∀ v' w', w'.ownsRow base e size v' (n + m) (xs ++ news) → w.grownBy w' v.ownBlock → wpListIn F nf P ops Q rest (a.put o.dst v') w') : wpListIn F nf P ops Q (o :: rest) a w := by
  refine wpListIn_plain hgd fun K hK => ?_
  obtain ⟨v', w', hrun, h2, h3⟩ := run_append_sl (P := P) w base t o.type e i z size bytes ht hi hz hsize hby hzs hsz v n xs hown vx m news hr h1 h63 hbytes hbase
  have hsem : o.semAt F.round a.eval = execOp a.eval o := by
    cases hr : F.round with
    | none => rw [Oper.semAt_none]
    | some l => exact Oper.semAt_some l _ o (by rw [ho]; intro c hc; cases hc)
  unfold Oper.wpIn
  refine ⟨?_, ?_⟩
  · intro f hf
    simp [Oper.about, ho, resolve, Target.leads, go_sem] at hf
  · rw [hsem]
    unfold execOp
    simp only [ho, resolve, invoke, builtin, Sem.run_bind, Sem.run_pure, Result.andThen_ok, List.map_toArray, List.map_cons, List.map_nil, hs, hx, hrun]
    exact hK _ _ (h v' w' h2 h3)
end
end Go.Mv

namespace Go.Mv
open Go.RowKit


section
variable {F : Fence} {n : Nat} {P : Program} {a : Act} {w : World} {Q : Exit → Act → World → Prop}
theorem jumps_goto {L : List Nat} {J : Nat → Act → World → Prop} {l : Nat} (h : l ∈ L) (hj : J l a w) : Exit.jumps L J Q (.goto l) a w := .inl ⟨h, hj⟩
theorem jumps_ret {L : List Nat} {J : Nat → Act → World → Prop} (h : Q .ret a w) : Exit.jumps L J Q .ret a w := h
theorem jumps_out {L : List Nat} {J : Nat → Act → World → Prop} {l : Nat} (h : l ∉ L) (hq : Q (.goto l) a w) : Exit.jumps L J Q (.goto l) a w := .inr ⟨h, hq⟩

theorem wpIn_scope_jumps {c : Code} (L : List Nat) (J : Nat → Act → World → Prop) (μ : Nat → Act → World → Nat) (hL : ∀ l, l ∉ L → findLabel c l = none) (hS : ∀ l, l ∈ L → (findLabel c l).isSome = true)
    (first : c.wpIn F n P (Exit.jumps L J Q) a w)
    (pass : ∀ l rest, l ∈ L → findLabel c l = some rest → ∀ a w, J l a w → rest.wpIn F n P (Exit.jumps L (fun l' a' w' => J l' a' w' ∧ μ l' a' w' < μ l a w) Q) a w) : (Code.scope c).wpIn F n P Q a w := by
  intro b k cs hro hb hr
  have hin : ∀ l rest, findLabel c l = some rest → gotoIn l (.inScope c :: k) = some (.code rest :: .inScope c :: k) := fun l rest hf => by simp [gotoIn, hf]
  have hout : ∀ l, findLabel c l = none → gotoIn l (.inScope c :: k) = gotoIn l k := fun l hf => by simp [gotoIn, hf]
  have hx : ∀ id, exitTo id (.inScope c :: k) = exitTo id k := fun id => by simp [exitTo]
  have sIn : ∀ {a w}, StepsIn (Machine.fenced P F) P (lone (b.atR a (.inScope c :: k)) cs w) (lone (b.atR a k) cs w) := fun {a w} =>
    .one (fenced_calm (fr := b.atR a (.inScope c :: k)) hb hr rfl) (step_lone_go (by simp [stepG, stepG.exec, Frame.atR]))
  have s0 : ∀ {a w}, StepsIn (Machine.fenced P F) P (lone (b.atR a (.code (.scope c) :: k)) cs w) (lone (b.atR a (.code c :: .inScope c :: k)) cs w) := fun {a w} =>
    .one (fenced_calm (fr := b.atR a (.code (.scope c) :: k)) hb hr rfl) (step_lone_go (by simp [stepG, stepG.exec, Frame.atR]))
  have plainOut : ∀ {m : Machine} {e : Exit} {a₁ : Act} {w₁ : World}, (∀ l, e ≠ .goto l) → ArrivesIn (Machine.fenced P F) P m b (.inScope c :: k) cs e a₁ w₁ → ArrivesIn (Machine.fenced P F) P m b k cs e a₁ w₁ := by
    intro m e a₁ w₁ hne harr
    cases e with
    | normal => exact StepsIn.trans harr sIn
    | exit id => exact ⟨fun k' hk => harr.1 k' (by rw [hx]; exact hk), fun hr' hk => harr.2 hr' (by rw [hx]; exact hk)⟩
    | goto l => exact absurd rfl (hne l)
    | ret => exact harr
    | panic ch => exact harr
    | outgrown => exact harr
  have gotoOut : ∀ {m : Machine} {l : Nat} {a₁ : Act} {w₁ : World}, l ∉ L → ArrivesIn (Machine.fenced P F) P m b (.inScope c :: k) cs (.goto l) a₁ w₁ → ArrivesIn (Machine.fenced P F) P m b k cs (.goto l) a₁ w₁ := by
    intro m l a₁ w₁ hl harr
    have e := hout l (hL l hl)
    exact ⟨fun k' hk => harr.1 k' (by rw [e]; exact hk), fun hr' hk => harr.2 hr' (by rw [e]; exact hk)⟩
  have key : ∀ j l rest a w, l ∈ L → findLabel c l = some rest → μ l a w = j → J l a w → ∃ e a' w', Q e a' w' ∧ ArrivesIn (Machine.fenced P F) P (lone (b.atR a (.code rest :: .inScope c :: k)) cs w) b k cs e a' w' := by
    intro j
    induction j using Nat.strongRecOn with
    | _ j ih =>
      intro l rest a w hl hf hn hJ
      obtain ⟨e, a₁, w₁, hq, harr⟩ := pass l rest hl hf a w hJ b (.inScope c :: k) cs hro hb hr
      cases e with
      | goto l' =>
        rcases hq with ⟨hl', hJ', hlt⟩ | ⟨hl', hq⟩
        · obtain ⟨rest', hf'⟩ := Option.isSome_iff_exists.1 (hS l' hl')
          obtain ⟨e₂, a₂, w₂, hq₂, harr₂⟩ := ih _ (by omega) l' rest' a₁ w₁ hl' hf' rfl hJ'
          exact ⟨e₂, a₂, w₂, hq₂, .of_steps (harr.1 _ (hin l' rest' hf')) harr₂⟩
        · exact ⟨_, a₁, w₁, hq, gotoOut hl' harr⟩
      | normal => exact ⟨.normal, a₁, w₁, hq, plainOut (by simp) harr⟩
      | exit id => exact ⟨.exit id, a₁, w₁, hq, plainOut (by simp) harr⟩
      | ret => exact ⟨_, a₁, w₁, hq, plainOut (by simp) harr⟩
      | panic ch => exact ⟨_, a₁, w₁, hq, plainOut (by simp) harr⟩
      | outgrown => exact ⟨_, a₁, w₁, hq, plainOut (by simp) harr⟩
  obtain ⟨e, a₁, w₁, hq, harr⟩ := first b (.inScope c :: k) cs hro hb hr
  cases e with
  | goto l' =>
    rcases hq with ⟨hl', hJ'⟩ | ⟨hl', hq⟩
    · obtain ⟨rest', hf'⟩ := Option.isSome_iff_exists.1 (hS l' hl')
      obtain ⟨e₂, a₂, w₂, hq₂, harr₂⟩ := key _ l' rest' a₁ w₁ hl' hf' rfl hJ'
      exact ⟨e₂, a₂, w₂, hq₂, .of_steps (s0.trans (harr.1 _ (hin l' rest' hf'))) harr₂⟩
    · exact ⟨_, a₁, w₁, hq, .of_steps s0 (gotoOut hl' harr)⟩
  | normal => exact ⟨.normal, a₁, w₁, hq, .of_steps s0 (plainOut (by simp) harr)⟩
  | exit id => exact ⟨.exit id, a₁, w₁, hq, .of_steps s0 (plainOut (by simp) harr)⟩
  | ret => exact ⟨_, a₁, w₁, hq, .of_steps s0 (plainOut (by simp) harr)⟩
  | panic ch => exact ⟨_, a₁, w₁, hq, .of_steps s0 (plainOut (by simp) harr)⟩
  | outgrown => exact ⟨_, a₁, w₁, hq, .of_steps s0 (plainOut (by simp) harr)⟩

/-- ONE label. -/
theorem wpIn_scope_one {c rest : Code} (l : Nat) (J : Act → World → Prop) (μ : Act → World → Nat) (hf : findLabel c l = some rest) (hL : ∀ l', l' ≠ l → findLabel c l' = none)
    (first : c.wpIn F n P (Exit.jumps [l] (fun _ => J) Q) a w)
    (pass : ∀ a w, J a w → rest.wpIn F n P (Exit.jumps [l] (fun _ a' w' => J a' w' ∧ μ a' w' < μ a w) Q) a w) : (Code.scope c).wpIn F n P Q a w :=
  wpIn_scope_jumps [l] (fun _ => J) (fun _ => μ) (fun l' h => hL l' (by simpa using h)) (fun l' h => by have e : l' = l := (by simpa using h); rw [e, hf]; rfl) first
    (fun l' rest' h hf' a w hJ => by
      have e : l' = l := by simpa using h
      rw [e, hf] at hf'
      cases hf'
      exact pass a w hJ)

/-- ONE label, to which the run comes from ahead. -/
theorem wpIn_scope_seq {x rest : Code} (l : Nat) (J : Act → World → Prop) (μ : Act → World → Nat) (hf : findLabel (Code.seq x (Code.seq (Code.label l) rest)) l = some (Code.seq Code.skip rest)) (hL : ∀ l', l' ≠ l → findLabel (Code.seq x (Code.seq (Code.label l) rest)) l' = none)
    (first : x.wpIn F n P (Exit.then J (fun _ _ _ => False)) a w)
    (pass : ∀ a w, J a w → rest.wpIn F n P (Exit.jumps [l] (fun _ a' w' => J a' w' ∧ μ a' w' < μ a w) Q) a w) : (Code.scope (Code.seq x (Code.seq (Code.label l) rest))).wpIn F n P Q a w := by
  have drop : ∀ e a w a₀ w₀, Exit.jumps [l] (fun _ a' w' => J a' w' ∧ μ a' w' < μ a₀ w₀) Q e a w → Exit.jumps [l] (fun _ => J) Q e a w := by
    intro e a w a₀ w₀ h
    cases e with
    | goto l' => rcases h with ⟨h1, h2, _⟩ | h; exact .inl ⟨h1, h2⟩; exact .inr h
    | normal => exact h
    | exit id => exact h
    | ret => exact h
    | panic ch => exact h
    | outgrown => exact h
  refine wpIn_scope_one l J μ hf hL (wpIn_seq (wpIn_mono first ?_)) (fun a w h => wpIn_seq (wpIn_skip (pass a w h)))
  intro e a w h
  cases e with
  | normal => exact wpIn_seq (wpIn_label (wpIn_mono (pass a w h) (fun e a' w' h' => drop e a' w' a w h')))
  | goto l' => exact h.elim
  | exit id => exact h.elim
  | ret => exact h.elim
  | panic ch => exact h.elim
  | outgrown => exact h.elim

/-- ONE label, wherever it stands: in the walk from ahead the code behind it is met by 'hrest'. -/
theorem wpIn_scope_lab {c rest : Code} (l : Nat) (J : Act → World → Prop) (μ : Act → World → Nat) (hf : findLabel c l = some (Code.seq Code.skip rest)) (hL : ∀ l', l' ≠ l → findLabel c l' = none)
    (first : (∀ a w, J a w → rest.wpIn F n P (Exit.jumps [l] (fun _ => J) Q) a w) → c.wpIn F n P (Exit.jumps [l] (fun _ => J) Q) a w)
    (pass : ∀ a w, J a w → rest.wpIn F n P (Exit.jumps [l] (fun _ a' w' => J a' w' ∧ μ a' w' < μ a w) Q) a w) : (Code.scope c).wpIn F n P Q a w := by
  refine wpIn_scope_one l J μ hf hL (first (fun a w h => wpIn_mono (pass a w h) ?_)) (fun a w h => wpIn_seq (wpIn_skip (pass a w h)))
  intro e a' w' h
  cases e with
  | goto l' => rcases h with ⟨h1, h2, _⟩ | h; exact .inl ⟨h1, h2⟩; exact .inr h
  | normal => exact h
  | exit id => exact h
  | ret => exact h
  | panic ch => exact h
  | outgrown => exact h

/-- A call of yield in an iterator's walk. -/
theorem uponIn_yield {ro : Option Nat} {o : Oper} {a : Act} {next : Act → World → Prop} {Q : Exit → Act → World → Prop} {l : Nat} {av : Array Value} {W : World} {R : Ending → World → Prop}
    (hy : YieldsAt P l av W R) (h : ∀ e W', R e W' → ∃ b, e = .returned (.bool b) ∧ next (a.put o.dst (.bool b)) W') :
    o.uponIn (Wd ro) n P a next Q ((Instr.yield l av).run P W) := by
  obtain ⟨fn, tmps, assign, body, hrun, hR⟩ := hy
  rw [hrun]
  refine ⟨fun h => by simp [Fence.wide] at h, (roundIn_wd (n := n - 1) hR).mono ?_⟩
  intro e W' hr
  obtain ⟨b, rfl, hn⟩ := h e W' hr
  exact hn
end
end Go.Mv

namespace Go.Proofs.YtfjcnpigpkcfgaaGreat
open Go.RowKit Go.Mv Go.Shelf
attribute [local go_sem] Oper.semAt_some

/-- A number's digits by 2^bits, from place k down; 'fewer': noughts ahead are left out, but one. -/
def digRec (bits n : Nat) : Bool → Nat → List UInt8
  | _, 0 => [UInt8.ofNat (n % 2 ^ bits)]
  | fewer, k + 1 => if n / 2 ^ (bits * (k + 1)) = 0 ∧ fewer = true then digRec bits n fewer k else UInt8.ofNat (n / 2 ^ (bits * (k + 1)) % 2 ^ bits) :: digRec bits n false k

theorem wraps_i64 (n : Int) (h₀ : 0 ≤ n) (h₁ : n < 2 ^ 62) : IntKind.i64.wrap n = n := by rw [IntKind.wrap_i64]; omega
theorem i64_and127 (x : Int) (h₀ : 0 ≤ x) (h₁ : x < 4611686018427387904) : bits .and .i64 x 127 = x % 128 := bits_mask .i64 62 (by decide) wraps_i64 7 (by decide) x h₀ h₁
theorem i64_and255 (x : Int) (h₀ : 0 ≤ x) (h₁ : x < 4611686018427387904) : bits .and .i64 x 255 = x % 256 := bits_mask .i64 62 (by decide) wraps_i64 8 (by decide) x h₀ h₁
theorem bv_ofNat (n : Nat) : bv (UInt8.ofNat n) = .int .u8 ((n : Int) % 256) := by simp [bv]
theorem dig7 (d : Nat) (hd : d ≤ 1073741824) : Value.int .u8 (bits .and .i64 (d : Int) 127 % 256) = bv (UInt8.ofNat (d % 2 ^ 7)) := by
  rw [i64_and127 _ (by omega) (by omega), bv_ofNat]; simp
theorem dig8 (d : Nat) (hd : d ≤ 1073741824) : Value.int .u8 (bits .and .i64 (d : Int) 255 % 256) = bv (UInt8.ofNat (d % 2 ^ 8)) := by
  rw [i64_and255 _ (by omega) (by omega), bv_ofNat]; simp
theorem dig7z (d : Nat) (hd : d = 0) : Value.int .u8 (bits .and .i64 0 127 % 256) = bv (UInt8.ofNat (d % 2 ^ 7)) := by
  have := dig7 d (by omega); rw [hd] at this ⊢; exact this
theorem dig8z (d : Nat) (hd : d = 0) : Value.int .u8 (bits .and .i64 0 255 % 256) = bv (UInt8.ofNat (d % 2 ^ 8)) := by
  have := dig8 d (by omega); rw [hd] at this ⊢; exact this
theorem digRec_head (bits n : Nat) (fw : Bool) (k : Nat) (h : ¬ (n / 2 ^ (bits * k) = 0 ∧ fw = true ∧ 0 < k)) :
    ∃ post, digRec bits n fw k = UInt8.ofNat (n / 2 ^ (bits * k) % 2 ^ bits) :: post ∧ (0 < k → post = digRec bits n false (k - 1)) ∧ (k = 0 → post = []) := by
  cases k with
  | zero => exact ⟨[], by simp [digRec], fun h => absurd h (by omega), fun _ => rfl⟩
  | succ k =>
    refine ⟨digRec bits n false k, ?_, fun _ => rfl, fun h => absurd h (by omega)⟩
    rw [digRec, if_neg]
    intro ⟨h1, h2⟩
    exact h ⟨h1, h2, by omega⟩

/-- What holds at the label. -/
def DgR (bits n many : Nat) (fewer : Bool) (bm bn bb bf l N : Nat) (J : List UInt8 → World → Prop) (a : Act) (w : World) : Prop :=
  ∃ (k : Nat) (pre : List UInt8) (fw : Bool) (u7 u8 u9 u10 u11 u12 u13 u14 u15 u16 u17 u18 u19 u20 u21 u22 u23 u24 u25 u26 u27 u28 u29 u30 u31 u32 u33 u34 u35 u36 u37 u38 u39 u40 : Value),
      (k < many ∧ Hid (digRec bits n fewer (many - 1) = pre ++ digRec bits n fw k) ∧ J pre w ∧ Boxed w bn 3 (.int .i64 n) ∧ Boxed w bb 3 (.int .i64 bits) ∧ Boxed w bf 4 (.bool fw) ∧ N ≤ w.heap.size) ∧
      a = ⟨#[.func (.yield l) #[] #[], .pointer (some ⟨bm, 0, none⟩), .pointer (some ⟨bn, 0, none⟩), .pointer (some ⟨bb, 0, none⟩), .pointer (some ⟨bf, 0, none⟩), undef, .int .i64 k, u7, u8, u9, u10, u11, u12, u13, u14, u15, u16, u17, u18, u19, u20, u21, u22, u23, u24, u25, u26, u27, u28, u29, u30, u31, u32, u33, u34, u35, u36, u37, u38, u39, u40], []⟩

set_option maxRecDepth 100000 in
set_option maxHeartbeats 1000000 in
theorem digits1_seq (bits n many : Nat) (fewer : Bool) (hb : bits = 7 ∨ bits = 8) (hn : n ≤ 1073741824) (hm : 1 ≤ many) (hm' : many ≤ 5) (bm bn bb bf : Nat) (hne : bf ≠ bn) (hne2 : bf ≠ bb) (W0 : World)
    (hB1 : Boxed W0 bm 3 (.int .i64 many)) (hB2 : Boxed W0 bn 3 (.int .i64 n)) (hB3 : Boxed W0 bb 3 (.int .i64 bits)) (hB4 : Boxed W0 bf 4 (.bool fewer)) :
    Seq Tryz.prog 109 #[.pointer (some ⟨bm, 0, none⟩), .pointer (some ⟨bn, 0, none⟩), .pointer (some ⟨bb, 0, none⟩), .pointer (some ⟨bf, 0, none⟩)]
      (fun (d : UInt8) av _ => av = #[bv d]) (fun k o => ((k = bn ∨ k = bb) ∧ o.ty = some 3) ∨ (k = bf ∧ o.ty = some 4)) (fun k o => k = bf ∧ o.ty = some 4) (digRec bits n fewer (many - 1)) W0 := by
  intro l J Jx hJ hJx hY h0
  refine (callsIn_wd (ro := none) (n := 9)).1 ?_
  refine callsIn_of_wp Tryz.func109 rfl trivial ?_ rfl
  simp only [Tryz.ntmps109, List.size_toArray, List.length_cons, List.length_nil, Nat.reduceAdd, Nat.reduceSub, Array.replicate_succ, Array.replicate_zero, List.push_toArray, List.append_toArray, List.nil_append, List.cons_append]
  refine wpIn_scope_seq 0 (DgR bits n many fewer bm bn bb bf l W0.heap.size J) (fun a _ => (intOf (a.tmps.getD 6 undef)).toNat) rfl (fun l' h => by cases l' <;> first | exact absurd rfl h | rfl) ?_ ?_
  · have hc1 := hB1.cell
    gi_wp2
    have e : ((many : Int) - 1) = ((many - 1 : Nat) : Int) := by omega
    rw [e]
    exact ⟨many - 1, [], fewer, _, _, _, _, _, _, _, _, _, _, _, _, _, _, _, _, _, _, _, _, _, _, _, _, _, _, _, _, _, _, _, _, _, _, ⟨by omega, rfl, h0, hB2, hB3, hB4, Nat.le_refl _⟩, rfl⟩
  · intro a w hR
    obtain ⟨k, pre, fw, u7, u8, u9, u10, u11, u12, u13, u14, u15, u16, u17, u18, u19, u20, u21, u22, u23, u24, u25, u26, u27, u28, u29, u30, u31, u32, u33, u34, u35, u36, u37, u38, u39, u40, ⟨hk, HD, hJp, b1, b2, b3, hsz⟩, rfl⟩ := hR
    have c1 := b1.cell
    have c2 := b2.cell
    have c3 := b3.cell
    have f3 := b3.frozen
    clear hB1 hB2 hB3 hB4 h0
    have hmv : Moves (orOther (fun k o => k = bf ∧ o.ty = some 4) W0.heap.size) w (w.setCell ⟨bf, 0, none⟩ (.bool false)) :=
      Moves.refl.setCell (fun o ho _ => .inl ⟨rfl, by rw [show w.heap[bf]? = _ from b3] at ho; cases ho; rfl⟩) _
    have hJ1 := hJ _ _ _ hJp hmv
    have b1' : Boxed (w.setCell ⟨bf, 0, none⟩ (.bool false)) bn 3 (.int .i64 n) := b1.other (Ne.symm hne) _
    have b2' : Boxed (w.setCell ⟨bf, 0, none⟩ (.bool false)) bb 3 (.int .i64 bits) := b2.other (Ne.symm hne2) _
    have b3' : Boxed (w.setCell ⟨bf, 0, none⟩ (.bool false)) bf 4 (.bool false) := b3.set _
    have hsz' : W0.heap.size ≤ (w.setCell ⟨bf, 0, none⟩ (.bool false)).heap.size := by simpa [World.setCell] using hsz
    have hdle : n / 2 ^ (bits * k) ≤ 1073741824 := Nat.le_trans (Nat.div_le_self _ _) hn
    by_cases hskip : n / 2 ^ (bits * k) = 0 ∧ fw = true ∧ 0 < k
    · obtain ⟨hd0, rfl, hk0⟩ := hskip
      have hz : ((n : Int) / 2 ^ (bits * k)) = 0 := by exact_mod_cast hd0
      have HD0 := Lib.hid hd0
      have hk1 : decide (0 < k) = true := by simpa using hk0
      clear hd0
      rcases hb with rfl | rfl
      all_goals
        gi_wp2
        refine wpIn_goto ?_
        simp only [Exit.then]
        refine jumps_goto (by simp) ⟨?_, ?_⟩
        · rw [show ((k : Int) - 1) = ((k - 1 : Nat) : Int) from by omega]
          refine ⟨k - 1, pre, true, _, _, _, _, _, _, _, _, _, _, _, _, _, _, _, _, _, _, _, _, _, _, _, _, _, _, _, _, _, _, _, _, _, _, ⟨by omega, ?_, hJp, b1, b2, b3, hsz⟩, rfl⟩
          have hD := HD.out
          rw [show k = (k - 1) + 1 from by omega, digRec, if_pos ⟨by rw [show k - 1 + 1 = k from by omega]; exact HD0.out, rfl⟩] at hD
          exact hD
        · simp [intOf]; omega
    · obtain ⟨post, hp, hp1, hp2⟩ := digRec_head bits n fw k hskip
      have hD := HD.out
      rw [hp] at hD
      have hy := hY pre _ post hD _ #[bv (UInt8.ofNat (n / 2 ^ (bits * k) % 2 ^ bits))] hJ1 hsz' rfl
      have HP1 := Lib.hid hp1
      have HP2 := Lib.hid hp2
      have HDD := Lib.hid hD
      have Hskip := Lib.hid hskip
      clear hp hD HD hp1 hp2 hskip hY
      have key : ∀ (o : Oper) (a : Act) (next : Act → World → Prop) (Q : Exit → Act → World → Prop),
          (∀ W' : World, J (pre ++ [UInt8.ofNat (n / 2 ^ (bits * k) % 2 ^ bits)]) W' → Boxed W' bn 3 (.int .i64 n) → Boxed W' bb 3 (.int .i64 bits) → Boxed W' bf 4 (.bool false) → W0.heap.size ≤ W'.heap.size → next (a.put o.dst (.bool true)) W') →
          (∀ W' : World, Jx (pre ++ [UInt8.ofNat (n / 2 ^ (bits * k) % 2 ^ bits)]) W' → next (a.put o.dst (.bool false)) W') →
          o.uponIn (Wd none) 9 Tryz.prog a next Q ((Instr.yield l #[bv (UInt8.ofNat (n / 2 ^ (bits * k) % 2 ^ bits))]).run Tryz.prog (w.setCell ⟨bf, 0, none⟩ (.bool false))) := by
        intro o a next Q h1 h2
        refine uponIn_yield hy ?_
        rintro e W' ⟨hk', ⟨rfl, hj⟩ | ⟨rfl, hj⟩⟩
        · exact ⟨true, rfl, h1 W' hj (hk'.boxed b1' (.inl (.inl ⟨.inl rfl, rfl⟩))) (hk'.boxed b2' (.inl (.inl ⟨.inr rfl, rfl⟩))) (hk'.boxed b3' (.inl (.inr ⟨rfl, rfl⟩))) (Nat.le_trans hsz' hk'.size)⟩
        · exact ⟨false, rfl, h2 W' hj⟩
      have Hkey := Lib.hid key
      have hpre : pre ++ [UInt8.ofNat (n / 2 ^ (bits * k) % 2 ^ bits)] <+: digRec bits n fewer (many - 1) := by
        rw [HDD.out]; exact ⟨post, by simp⟩
      clear key hy
      have fin : ∀ W' : World, J (pre ++ [UInt8.ofNat (n / 2 ^ (bits * k) % 2 ^ bits)]) W' → k = 0 → J (digRec bits n fewer (many - 1)) W' := by
        intro W' hj h0
        rw [HDD.out, HP2.out h0]; exact hj
      have Hfin := Lib.hid fin
      have Hpre := Lib.hid hpre
      have nxt : 0 < k → digRec bits n fewer (many - 1) = (pre ++ [UInt8.ofNat (n / 2 ^ (bits * k) % 2 ^ bits)]) ++ digRec bits n false (k - 1) := by
        intro h0
        rw [HDD.out, HP1.out h0]; simp
      have Hnxt := Lib.hid nxt
      clear fin hpre nxt
      rcases hb with rfl | rfl
      · have e1 : ((n : Int) / 2 ^ (7 * k)) = ((n / 2 ^ (7 * k) : Nat) : Int) := by simp
        have E1 := Lib.hid e1
        clear e1
        gi_wp2
        all_goals first
          | (exfalso; refine Hskip.out ⟨?_, by assumption, by assumption⟩; exact_mod_cast (by assumption : ((n : Int) / 2 ^ (7 * k)) = 0))
          | (rw [dig7z (n / 2 ^ (7 * k)) (by exact_mod_cast (by assumption : ((n : Int) / 2 ^ (7 * k)) = 0))])
          | (rw [E1.out, dig7 _ hdle])
        all_goals refine Hkey.out _ _ _ _ ?_ ?_
        all_goals intro W' hj
        all_goals (try intro bb1 bb2 bb3 hs)
        all_goals clear c1 c2 c3 f3 b1 b2 b3 b1' b2' b3'
        all_goals gi_wp2
        all_goals first
          | (refine jumps_ret ?_
             refine bodyPost_ret (results_none rfl _ _ _) rfl ?_
             exact ⟨⟨_, rfl⟩, .inr ⟨_, Hpre.out, hj⟩⟩)
          | (refine jumps_ret ?_
             refine bodyPost_ret (results_none rfl _ _ _) rfl ?_
             exact ⟨⟨_, rfl⟩, .inl (Hfin.out _ hj (by have h : ((k : Int) == 0) = true := (by assumption); simpa using h))⟩)
          | (have hk0 : 0 < k := (by have h : ((k : Int) == 0) = false := (by assumption); simp at h; omega)
             refine wpIn_goto ?_
             refine jumps_goto (by simp) ⟨?_, ?_⟩
             · rw [show ((k : Int) - 1) = ((k - 1 : Nat) : Int) from by omega]
               exact ⟨k - 1, _, false, _, _, _, _, _, _, _, _, _, _, _, _, _, _, _, _, _, _, _, _, _, _, _, _, _, _, _, _, _, _, _, _, _, _, ⟨by omega, Hnxt.out hk0, hj, bb1, bb2, bb3, hs⟩, rfl⟩
             · simp [intOf]; omega)
      · have e1 : ((n : Int) / 2 ^ (8 * k)) = ((n / 2 ^ (8 * k) : Nat) : Int) := by simp
        have E1 := Lib.hid e1
        clear e1
        gi_wp2
        all_goals first
          | (exfalso; refine Hskip.out ⟨?_, by assumption, by assumption⟩; exact_mod_cast (by assumption : ((n : Int) / 2 ^ (8 * k)) = 0))
          | (rw [dig8z (n / 2 ^ (8 * k)) (by exact_mod_cast (by assumption : ((n : Int) / 2 ^ (8 * k)) = 0))])
          | (rw [E1.out, dig8 _ hdle])
        all_goals refine Hkey.out _ _ _ _ ?_ ?_
        all_goals intro W' hj
        all_goals (try intro bb1 bb2 bb3 hs)
        all_goals clear c1 c2 c3 f3 b1 b2 b3 b1' b2' b3'
        all_goals gi_wp2
        all_goals first
          | (refine jumps_ret ?_
             refine bodyPost_ret (results_none rfl _ _ _) rfl ?_
             exact ⟨⟨_, rfl⟩, .inr ⟨_, Hpre.out, hj⟩⟩)
          | (refine jumps_ret ?_
             refine bodyPost_ret (results_none rfl _ _ _) rfl ?_
             exact ⟨⟨_, rfl⟩, .inl (Hfin.out _ hj (by have h : ((k : Int) == 0) = true := (by assumption); simpa using h))⟩)
          | (have hk0 : 0 < k := (by have h : ((k : Int) == 0) = false := (by assumption); simp at h; omega)
             refine wpIn_goto ?_
             refine jumps_goto (by simp) ⟨?_, ?_⟩
             · rw [show ((k : Int) - 1) = ((k - 1 : Nat) : Int) from by omega]
               exact ⟨k - 1, _, false, _, _, _, _, _, _, _, _, _, _, _, _, _, _, _, _, _, _, _, _, _, _, _, _, _, _, _, _, _, _, _, _, _, _, ⟨by omega, Hnxt.out hk0, hj, bb1, bb2, bb3, hs⟩, rfl⟩
             · simp [intOf]; omega)

/-- The world behind 'digits'. -/
def digW (w : World) (n bits many : Nat) (fewer : Bool) : World :=
  (((w.alloc (.cells #[.int .i64 n] 3)).alloc (.cells #[.int .i64 bits] 3)).alloc (.cells #[.int .i64 many] 3)).alloc (.cells #[.bool fewer] 4)
def digF (N : Nat) : Value := .func (.func 109) #[] #[.pointer (some ⟨N + 2, 0, none⟩), .pointer (some ⟨N, 0, none⟩), .pointer (some ⟨N + 1, 0, none⟩), .pointer (some ⟨N + 3, 0, none⟩)]

set_option maxHeartbeats 400000 in
theorem digits_any (n bits many : Nat) (fewer : Bool) (w : World) :
    Calls Tryz.prog 96 #[.int .i64 n, .int .i64 bits, .int .i64 many, .bool fewer] w fun e w' => e = .returned (digF w.heap.size) ∧ digW w n bits many fewer = w' := by
  go_enter Tryz.func96, Tryz.ntmps96
  go_wp2
  go_ret
  exact ⟨rfl, rfl⟩

theorem digW_boxes (w : World) (n bits many : Nat) (fewer : Bool) : (digW w n bits many fewer).heap.size = w.heap.size + 4 ∧
    Boxed (digW w n bits many fewer) w.heap.size 3 (.int .i64 n) ∧ Boxed (digW w n bits many fewer) (w.heap.size + 1) 3 (.int .i64 bits) ∧
    Boxed (digW w n bits many fewer) (w.heap.size + 2) 3 (.int .i64 many) ∧ Boxed (digW w n bits many fewer) (w.heap.size + 3) 4 (.bool fewer) ∧ Ext w (digW w n bits many fewer) := by
  have h1 := Boxed.new w 3 (.int .i64 n)
  have h2 := Boxed.new (w.alloc (.cells #[.int .i64 n] 3)) 3 (.int .i64 bits)
  have h3 := Boxed.new ((w.alloc (.cells #[.int .i64 n] 3)).alloc (.cells #[.int .i64 bits] 3)) 3 (.int .i64 many)
  have h4 := Boxed.new (((w.alloc (.cells #[.int .i64 n] 3)).alloc (.cells #[.int .i64 bits] 3)).alloc (.cells #[.int .i64 many] 3)) 4 (.bool fewer)
  simp only [World.size_alloc] at h2 h3 h4
  exact ⟨by simp [digW], ((h1.alloc _).alloc _).alloc _, (h2.alloc _).alloc _, h3.alloc _, h4, (((Ext.refl w).alloc _).alloc _).alloc _ |>.alloc _⟩
end Go.Proofs.YtfjcnpigpkcfgaaGreat
