/-
  Appending bytes and entries to a slice of one's own, as a whole; the worlds before stay.
-/
import Derived.Test.YtibbbdifkopebaaWakes
import Derived.Test.YtibbbdifkopebaaSame
import Derived.Test.YtibbbdifkopebaaRight
set_option linter.all false
namespace Go.Proofs.Ytibbbdifkopebaa
open Go.RowKit Go.Mv
set_option maxRecDepth 100000

def OwnB (w : World) (base : Nat) (v : Value) (bs : List UInt8) : Prop := w.ownsRow base 5 1 v bs.length (bs.map bv)
def OwnE (w : World) (base : Nat) (v : Value) (es : List Ent) : Prop := w.ownsRow base 45 3 v es.length (entCells es)
/-- What was laid below the base stays. -/
def Grows (base : Nat) (w w' : World) : Prop := ∀ W0, Ext W0 w → W0.heap.size ≤ base → Ext W0 w'
theorem OwnB.bs {w : World} {base : Nat} {v : Value} {l : List UInt8} (h : OwnB w base v l) : Bs w v l := SlR.of_own h
theorem OwnE.es {w : World} {base : Nat} {v : Value} {l : List Ent} (h : OwnE w base v l) : Es w v l := SlR.of_own h
theorem OwnB.ext {w w' : World} {base : Nat} {v : Value} {l : List UInt8} (h : OwnB w base v l) (he : Ext w w') : OwnB w' base v l := own_ext h he
theorem OwnE.ext {w w' : World} {base : Nat} {v : Value} {l : List Ent} (h : OwnE w base v l) (he : Ext w w') : OwnE w' base v l := own_ext h he
theorem ownB_empty (W : World) : OwnB (W.alloc (.cells #[] 5)) W.heap.size (.slice (some ⟨W.heap.size, 0, none⟩) 0 0) [] := own_new W [] 5 0 rfl (by simp [maxLen]) (Nat.le_refl _)
theorem ownE_empty (W : World) : OwnE (W.alloc (.cells #[] 45)) W.heap.size (.slice (some ⟨W.heap.size, 0, none⟩) 0 0) [] := by
  exact ⟨by simp [entCells], .inr ⟨W.heap.size, 0, #[], rfl, Nat.le_refl _, heap_alloc_new W _, Nat.le_refl _, by simp [maxLen], by simp, by simp [entCells]⟩⟩

theorem wpList_app_b {ops : Array Oper} {rest : List Oper} {o : Oper} {a : Act} {w : World} {Q : Exit → Act → World → Prop} (hgd : o.guard = none) (s x : Operand)
    (ho : o.op = .call { callee := .builtin .append, args := #[s, x], argTypes := #[24, 24] })
    (base : Nat) (v : Value) (bs : List UInt8) (hs : a.eval s = v) (hown : OwnB w base v bs) (vx : Value) (cs : List UInt8) (hx : a.eval x = vx) (hr : Bs w vx cs)
    (hlen : bs.length + cs.length ≤ 20000000) (hbase : base ≤ w.heap.size)
    (h : ∀ A c w', OwnB w' base (.slice A (bs.length + cs.length) c) (bs ++ cs) → Grows base w w' → wpList Try.prog ops Q rest (a.put o.dst (.slice A (bs.length + cs.length) c)) w') : wpList Try.prog ops Q (o :: rest) a w := by
  obtain ⟨i0, hi, hz0, hz1, hz2⟩ := info_parts info_u8
  refine wpList_append_sl _ hgd s x 24 ho base 5 i0 (.int .u8 0) 1 1 Try.underlying24 hi hz0 hz1 hz2 rfl (by decide) v bs.length (bs.map bv) hs hown vx cs.length (cs.map bv) hx hr (one_bv _) (by unfold maxLen; omega) (by omega) hbase ?_
  intro v' w' h1 h2
  obtain ⟨A, c, rfl, _, _⟩ := SlR.open_ (SlR.of_own h1)
  refine h A c w' ?_ (fun W0 hE hb => Ext.grownOwn hE (own_base hown hb) h2)
  unfold OwnB
  rw [List.length_append, List.map_append]
  exact h1

theorem wpList_app_e {ops : Array Oper} {rest : List Oper} {o : Oper} {a : Act} {w : World} {Q : Exit → Act → World → Prop} (hgd : o.guard = none) (s x : Operand)
    (ho : o.op = .call { callee := .builtin .append, args := #[s, x], argTypes := #[23, 23] })
    (base : Nat) (v : Value) (bs : List Ent) (hs : a.eval s = v) (hown : OwnE w base v bs) (vx : Value) (cs : List Ent) (hx : a.eval x = vx) (hr : Es w vx cs)
    (hlen : bs.length + cs.length ≤ 1000000) (hbase : base ≤ w.heap.size)
    (h : ∀ A c w', OwnE w' base (.slice A (bs.length + cs.length) c) (bs ++ cs) → Grows base w w' → wpList Try.prog ops Q rest (a.put o.dst (.slice A (bs.length + cs.length) c)) w') : wpList Try.prog ops Q (o :: rest) a w := by
  obtain ⟨i0, hi, hz0, hz1, hz2⟩ := info_parts info_ent
  refine wpList_append_sl _ hgd s x 23 ho base 45 i0 _ 3 24 Try.underlying23 hi hz0 hz1 hz2 rfl (by decide) v bs.length (entCells bs) hs hown vx cs.length (entCells cs) hx hr (one_ents _) (by unfold maxLen; omega) (by omega) hbase ?_
  intro v' w' h1 h2
  obtain ⟨A, c, rfl, _, _⟩ := SlR.open_ (SlR.of_own h1)
  refine h A c w' ?_ (fun W0 hE hb => Ext.grownOwn hE (own_base hown hb) h2)
  unfold OwnE
  rw [List.length_append, show entCells (bs ++ cs) = entCells bs ++ entCells cs from by simp [entCells]]
  exact h1
section
variable {P : Program} {ops : Array Oper} {Q : Exit → Act → World → Prop} {md : Region.Mode} {S : World → Prop}
theorem wpAnyH_takeL {i : Nat} {oi : Oper} {v : Value} {fuel : Nat} {listed : Array Bool} {a : Act} {w : World} (hi : ops.toList[i]? = some oi)
    (hs : Region.noSelect ops = true) (hf : Region.free md ops listed i = true) (hr : (Region.ready md ops listed).contains i = true)
    (hQ : ∀ c a w, Q (.panic c) (a.put oi.dst v) w → Q (.panic c) a w) (hw : Region.wanted oi (yielded ops a.tmps) = true) (hS : S w) (hy : ∀ w, S w → (execOp a.eval oi).run P w = .ok (.value v) w)
    (h : wpAnyH P md ops Q S fuel (listed.setIfInBounds i true) (a.put oi.dst v) w) : wpAnyH P md ops Q S (fuel + 1) listed a w :=
  wpAnyH_take (by simpa using hi) hs hf hr hQ (.inl ⟨hw, hy⟩) hS h
theorem wpAnyH_skipL {i : Nat} {oi : Oper} {fuel : Nat} {listed : Array Bool} {a : Act} {w : World} (hi : ops.toList[i]? = some oi)
    (hs : Region.noSelect ops = true) (hf : Region.free md ops listed i = true) (hr : (Region.ready md ops listed).contains i = true)
    (hQ : ∀ c a w, Q (.panic c) (a.put oi.dst undef) w → Q (.panic c) a w) (hw : Region.wanted oi (yielded ops a.tmps) = false) (hS : S w)
    (h : wpAnyH P md ops Q S fuel (listed.setIfInBounds i true) (a.put oi.dst undef) w) : wpAnyH P md ops Q S (fuel + 1) listed a w :=
  wpAnyH_take (by simpa using hi) hs hf hr hQ (.inr ⟨hw, rfl⟩) hS h
theorem AllReadyH.one {fuel : Nat} {listed : Array Bool} {a : Act} {w : World} {i : Nat} {o : Oper} (ho : ops.toList[i]? = some o) (hr : Region.ready md ops listed = [i]) (hw : Region.wanted o (yielded ops a.tmps) = true)
    (h : ∀ K' : Act → World → Prop, Shut (∀ a w, S w → (S w → wpAnyH P md ops Q S fuel (listed.setIfInBounds i true) a w) → K' a w) → Oper.wp P o a w K' Q) : wpAnyH P md ops Q S (fuel + 1) listed a w :=
  wpAnyH_ready hr (by simp) (AllReadyH.cons (by simpa using ho) (fun K hK => by rw [if_pos hw]; exact h K hK) AllReadyH.nil)
end
def set3 (W : World) (b : Nat) (a v u : Value) : World := ((W.setCell ⟨b, 0, none⟩ a).setCell ⟨b, 1, none⟩ v).setCell ⟨b, 2, none⟩ u
theorem own_set3 {W : World} {b : Nat} {t : TypeId} {a v u : Value} (hB : Blk W b t #[a, v, u]) {e : TypeId} (hte : t ≠ e) {base size k : Nat} {y : Value} {xs : List Value} (hr : W.ownsRow base e size y k xs) (a' v' u' : Value) : (set3 W b a' v' u').ownsRow base e size y k xs := by
  have r1 := hr.kept (grownBy_set _ b 0 a') (.inr (hB.not_row hte hr).symm)
  have b1 := hB.set 0 a'
  have r2 := r1.kept (grownBy_set _ b 1 v') (.inr (b1.not_row hte r1).symm)
  have b2 := b1.set 1 v'
  exact r2.kept (grownBy_set _ b 2 u') (.inr (b2.not_row hte r2).symm)
theorem ext_set3 {w W : World} (h : Ext w W) {b : Nat} (hle : w.heap.size ≤ b) (a v u : Value) : Ext w (set3 W b a v u) :=
  Below.setCell (p := ⟨b, 2, none⟩) (Below.setCell (p := ⟨b, 1, none⟩) (Below.setCell (p := ⟨b, 0, none⟩) h hle _) hle _) hle _
end Go.Proofs.Ytibbbdifkopebaa
