/-
  The walks of the library's functions over bytes: slices.Clone, slices.Grow (of nil), slices.Concat, bytes.Equal; moultlaw08.same.
-/
import Derived.Test.YtibbbdifkopebaaAppend
import Derived.Test.YtibbbdifkopebaaShort
import Derived.WalkSpells
import Derived.WalkLawsBesides
set_option linter.all false
namespace Go.Mv
open Go.RowKit
theorem run_append_make_nil {P : Program} (w : World) (t ti ty e : TypeId) (i : TypeInfo) (z : Value) (ht : P.underlying t = some (.slice e)) (hti : P.underlying ti = some (.int .i64)) (hi : P.info? e = some i) (hz : i.zero = some z)
    (hzc : z.cells.size = 1) (hs : i.size = 1) (hb : i.bytes = 1) (n : Nat) (h0 : 0 < n) (h47 : n ≤ 140737488355328) :
    ∃ cap w1, (Builtin.append_ #[t, ti] ty #[.slice none 0 0, .int .i64 n]).run P w = .ok (.slice (some ⟨w.heap.size, 0, none⟩) n cap) w1 ∧ n ≤ cap ∧ cap ≤ 9223372036854775807 ∧
      w1.ownsRow w.heap.size e 1 (.slice (some ⟨w.heap.size, 0, none⟩) 0 cap) 0 [] ∧ Ext w w1 := by
  have hge := grownCap_ge w n 0 e
  have hcm : grownCap w n 0 e ≤ maxLen := grownCap_le_maxLen w n 0 e (by simp [maxLen]; omega)
  have hw : IntKind.i64.wrap (n : Int) = n := by rw [IntKind.wrap_i64]; omega
  have hn : n ≠ 0 := by omega
  have h1 : ¬ ((n : Int) < 0) := by omega
  have h2 : ¬ (281474976710656 < (n : Int)) := by omega
  have h3 : ¬ (9223372036854775807 < (n : Int)) := by omega
  have h48' : ¬ (281474976710656 < Builtin.nextslicecap n 0) := by rw [nextslicecap_zero h0]; omega
  refine ⟨grownCap w n 0 e, w.drew.alloc (.cells (Builtin.zeroCells z.cells n ++ Builtin.zeroCells z.cells (grownCap w n 0 e - n)) e), ?_, hge, by simpa [maxLen] using hcm, ?_, ?_⟩
  · simp [Builtin.append_, run_underlying ht, run_underlying hti, sizeOf, typeInfo, zeroValue, hi, hz, hs, hb, hw, h1, h2, asInt, asIntOf, Builtin.firstCells, hn, h3, h48', Question.forced, newRow, grownCap]
  · refine ⟨by simp, .inr ⟨w.heap.size, grownCap w n 0 e, _, rfl, Nat.le_refl _, heap_alloc_new w.drew _, Nat.zero_le _, hcm, ?_, by simp⟩⟩
    simp [size_zeroCells, hzc]; omega
  · exact Ext.alloc (Ext.drew (Ext.refl w)) _
theorem wpList_append_make_nil {P : Program} (w : World) {ops : Array Oper} {rest : List Oper} {o : Oper} {a : Act} {Q : Exit → Act → World → Prop} (hgd : o.guard = none) (s x : Operand) (t ti : TypeId)
    (ho : o.op = .call { callee := .builtin .append, args := #[s, x], argTypes := #[t, ti] })
    (e : TypeId) (i : TypeInfo) (z : Value) (ht : P.underlying t = some (.slice e)) (hti : P.underlying ti = some (.int .i64)) (hi : P.info? e = some i) (hz : i.zero = some z)
    (hzc : z.cells.size = 1) (hs : i.size = 1) (hb : i.bytes = 1) (n : Nat) (h0 : 0 < n) (h47 : n ≤ 140737488355328) (hsv : a.eval s = .slice none 0 0) (hxv : a.eval x = .int .i64 n)
    (h : ∀ cap w1, n ≤ cap → cap ≤ 9223372036854775807 → w1.ownsRow w.heap.size e 1 (.slice (some ⟨w.heap.size, 0, none⟩) 0 cap) 0 [] → Ext w w1 → wpList P ops Q rest (a.put o.dst (.slice (some ⟨w.heap.size, 0, none⟩) n cap)) w1) :
    wpList P ops Q (o :: rest) a w := by
  refine wpList_plain hgd fun K hK => ?_
  obtain ⟨cap, w1, hrun, h1, h2, h3, h4⟩ := run_append_make_nil (P := P) w t ti o.type e i z ht hti hi hz hzc hs hb n h0 h47
  unfold Oper.wp execOp
  simp only [ho, resolve, invoke, builtin, Sem.run_bind, Sem.run_pure, Result.andThen_ok, List.map_toArray, List.map_cons, List.map_nil, hsv, hxv, hrun]
  exact hK _ _ (h cap w1 h1 h2 h3 h4)

/-- 'string(b)' of whatever slice reads as the bytes bs. -/
theorem run_convert_sl {P : Program} (w : World) (src dst e : TypeId) (hs : P.underlying src = some (.slice e)) (he : P.underlying e = some (.int .u8)) (hd : P.underlying dst = some .string) {v : Value} {bs : List UInt8} (h : Bs w v bs) :
    (convert src dst v).run P w = .ok (.string ⟨bs.toArray⟩) w := by
  obtain ⟨_, A, c, rfl, _, _, hc⟩ := h
  cases A with
  | none =>
    have hb : bs = [] := by
      cases bs with
      | nil => rfl
      | cons b l => obtain ⟨_, _, e, _⟩ := hc (by simp); cases e
    subst hb
    exact run_convert_bytes_nil w src e hs he 0 c dst hd
  | some a =>
    rcases Nat.eq_zero_or_pos bs.length with h0 | h0
    · have hb : bs = [] := List.eq_nil_of_length_eq_zero h0
      subst hb
      exact run_convert_bytes_back w src dst e a c [] hs he hd (by simp)
    · obtain ⟨b, off, e', hcell⟩ := hc h0
      cases e'
      refine run_convert_bytes_back w src dst e ⟨b, off, none⟩ c bs hs he hd (fun j hj => ?_)
      have hadd : (⟨b, off, none⟩ : Addr).add j = ⟨b, off + j, none⟩ := by unfold Addr.add; split <;> simp_all
      rw [hadd]
      exact hcell j _ (by simp [List.getElem?_eq_getElem hj, bv])
end Go.Mv
namespace Go.Proofs.Ytibbbdifkopebaa
open Go.RowKit Go.Mv

def CloneP (w : World) (bs : List UInt8) (e : Ending) (w' : World) : Prop := ∃ v', e = .returned v' ∧ w'.ownsRow w.heap.size 5 1 v' bs.length (bs.map bv) ∧ Ext w w'

set_option maxHeartbeats 400000 in
theorem Clone_any (v : Value) (bs : List UInt8) (w : World) (h : Bs w v bs) (hl : bs.length ≤ 140737488355328) : Calls Try.prog 71 #[v] w (CloneP w bs) := by
  obtain ⟨A, c, rfl, h1, h2⟩ := SlR.open_ h
  obtain ⟨i0, hi, hz0, hz1, hz2⟩ := info_parts info_u8
  have hnil := fun (W : World) => Lib.run_eql_slice_nil (P := Try.prog) W
  cases A with
  | none =>
    have hb : bs = [] := by
      cases hbs : bs with
      | nil => rfl
      | cons b l =>
        have := (SlR.at_ h (by rw [hbs]; simp)).2
        obtain ⟨_, _, e, _⟩ := this
        cases e
    subst hb
    go_enter Try.func71, Try.ntmps71
    go_wp2
    go_ret
    exact ⟨_, rfl, World.ownsRow_nil _ _ _ _, Ext.refl _⟩
  | some a =>
    go_enter Try.func71, Try.ntmps71
    go_wp2_with (at_builtin; refine wpList_append_sl _ rfl (.tmp 5) (.tmp 6) 24 rfl w.heap.size 5 i0 (.int .u8 0) 1 1 Try.underlying24 hi hz0 hz1 hz2 rfl (by decide) (.slice (some ⟨w.heap.size, 0, none⟩) 0 0) 0 [] rfl (own_new w [] 5 0 rfl (by simp [maxLen]) (Nat.le_refl _)) _ bs.length (bs.map bv) rfl (SlR.ext h ((Ext.refl w).alloc _)) (one_bv _) (by simp [maxLen]; omega) (by omega) (by simp) ?_; intro v' w1 hown' hgrow)
    go_ret
    refine ⟨_, rfl, by simpa using hown', ?_⟩
    refine Below.grown (Ext.alloc (Ext.refl w) _) hgrow (by simp) (fun k ek => ?_)
    have : w.heap.size = k := by simpa [Value.ownBlock] using ek
    omega

set_option maxRecDepth 100000 in
set_option maxHeartbeats 400000 in
theorem Grow_nil (n : Nat) (w : World) (hl : n ≤ 140737488355328) : Calls Try.prog 44 #[.slice none 0 0, .int .i64 n] w (CloneP w []) := by
  obtain ⟨i0, hi, hz0, hz1, hz2⟩ := info_parts info_u8
  by_cases h0 : n = 0
  · subst h0
    go_enter Try.func44, Try.ntmps44
    go_wp2
    go_ret
    exact ⟨_, rfl, World.ownsRow_nil _ _ _ _, Ext.refl _⟩
  · go_enter Try.func44, Try.ntmps44
    go_wp2_with (at_builtin; refine wpList_append_make_nil _ rfl (.tmp 20) (.tmp 21) 24 3 rfl 5 i0 (.int .u8 0) Try.underlying24 Try.underlying3 hi hz0 rfl hz1 hz2 n (by omega) hl rfl rfl ?_; intro cap w1 hle hle2 hown hE)
    go_ret
    exact ⟨_, rfl, hown, hE⟩

set_option maxHeartbeats 400000 in
theorem same_any (va vb : Value) (a b : List UInt8) (w : World) (ha : Bs w va a) (hb : Bs w vb b) :
    Calls Try.prog 11 #[va, vb] w fun e w' => e = .returned (.bool (decide (a = b))) ∧ Ext w w' := by
  obtain ⟨A, ca, rfl, h1, h2⟩ := SlR.open_ ha
  obtain ⟨B, cb, rfl, h3, h4⟩ := SlR.open_ hb
  have hca := run_convert_sl (P := Try.prog) w 24 9 5 Try.underlying24 Try.underlying5 Try.underlying9 ha
  have hcb := run_convert_sl (P := Try.prog) w 24 9 5 Try.underlying24 Try.underlying5 Try.underlying9 hb
  go_enter Try.func11, Try.ntmps11
  go_wp2
  go_ret
  exact ⟨ret_bool (by rw [Bool.eq_iff_iff]; simp), Ext.refl _⟩
end Go.Proofs.Ytibbbdifkopebaa
