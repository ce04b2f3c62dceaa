/-
  The rows' arguments: entries and bytes as they came in; the row's last step.
-/
import Derived.Test.YtibbbdifkopebaaEntry2
import Derived.ProofKit
import Derived.OpenShut
import Derived.Carry
import Derived.Deep.Slices
import Derived.ChangeSlices
import Derived.ChangeSame
import Derived.WideKeyArgs
set_option linter.all false
namespace Go.Proofs.Ytibbbdifkopebaa
open Go.ChangeShapes Go.WideShapes Go.ChangeAt Go.RowKit Go.Deep Go.Mv
set_option maxRecDepth 100000

theorem own : ownKnob Try.prog.godebug = none := by kernel_rfl
theorem laidOut : laidOutB Try.prog = true := by kernel_rfl
theorem cellsEnt : Try.prog.cellsOf 45 = 3 := by kernel_rfl
theorem cellsInt : Try.prog.cellsOf 3 = 1 := by kernel_rfl
theorem cellsU8 : Try.prog.cellsOf 5 = 1 := by kernel_rfl

instance : Inhabited Ent := ⟨⟨0, 0, 0⟩⟩

theorem slr_of_cells {w : World} {a : Addr} {size n c : Nat} {xs : List Value} (hl : xs.length = n * size) (h1 : n ≤ c) (h2 : c ≤ maxLen) (hs : 0 < size) (h : ∀ j u, xs[j]? = some u → w.cell? (a.add j) = some u) : SlR w size (.slice (some a) n c) n xs := by
  refine ⟨hl, _, c, rfl, h1, h2, fun hn => ?_⟩
  obtain ⟨b, off, sp⟩ := a
  have h0 : 0 < xs.length := by rw [hl]; exact Nat.mul_pos hn hs
  have hc := h 0 xs[0] (List.getElem?_eq_getElem h0)
  cases sp with
  | none =>
    refine ⟨b, off, rfl, fun j u hu => ?_⟩
    have := h j u hu
    rwa [show (⟨b, off, none⟩ : Addr).add j = ⟨b, off + j, none⟩ from by unfold Addr.add; split <;> simp_all] at this
  | some k =>
    exfalso
    unfold World.cell? Addr.add at hc
    simp at hc
    split at hc <;> simp_all

section
variable {H : Type} {enc : TypeId × Value → H} {W : World} {base : Nat} {v : Value} {d : DataW H} {p : List MemPlace}
theorem es_of_trod (hv : Value.okWide Try.prog W .any base 23 v) (h : DataW.Trod enc Try.prog W 0 (fun _ => true) true 23 v d p) : ∃ es, Es W v es := by
  obtain ⟨a0, len, cap, rfl⟩ := okWide_slice Try.underlying23 hv
  obtain ⟨fuel, hf⟩ := h
  have hf' : DataW.trod enc Try.prog W 0 (fun _ => true) true fuel 23 [.slice a0 len cap] = some (d, p) := by simpa [Value.cells] using hf
  rcases open_slice Try.underlying23 hf' with ⟨hcs, _⟩ | ⟨a, len', cap', m, n, D, Pl, hcs, hb, hl, hm, hmm, hx, hi⟩
  · cases hcs; exact ⟨[], SlR.nil _ 3⟩
  · cases hcs
    have hmc : m = cap := by simpa using hmm
    have each : ∀ i, i < len → ∃ e : Ent, W.cell? (a.add (i * 3)) = some (.int .i64 e.t) ∧ W.cell? (a.add (i * 3 + 1)) = some (.int .i64 e.k) ∧ W.cell? (a.add (i * 3 + 2)) = some (.int .i64 e.v) := by
      intro i hil
      obtain ⟨cs, h1, h2⟩ := hi i (by omega)
      rw [cellsEnt] at h1
      obtain ⟨_, hcl, hcell⟩ := World.cells?_some h1
      obtain ⟨xs, n', _, _, _, hxl, hf⟩ := DataW.trod_struct Try.underlying45 h2
      match cs, hcl with
      | [c0, c1, c2], _ =>
        have g0 := hf 0 _ rfl
        have g1 := hf 1 _ rfl
        have g2 := hf 2 _ rfl
        have hxl' : xs.length = 3 := hxl
        match xs, hxl' with
        | [x0, x1, x2], _ =>
          obtain ⟨n0, e0, _, _⟩ := DataW.trod_int Try.underlying3 g0
          obtain ⟨n1, e1, _, _⟩ := DataW.trod_int Try.underlying3 g1
          obtain ⟨n2, e2, _, _⟩ := DataW.trod_int Try.underlying3 g2
          have k0 : c0 = .int .i64 n0 := by have h : List.take (Try.prog.cellsOf 3) [c0, c1, c2] = [Value.int .i64 n0] := e0; rw [cellsInt] at h; simpa using h
          have k1 : c1 = .int .i64 n1 := by have h : List.take (Try.prog.cellsOf 3) [c1, c2] = [Value.int .i64 n1] := e1; rw [cellsInt] at h; simpa using h
          have k2 : c2 = .int .i64 n2 := by have h : List.take (Try.prog.cellsOf 3) [c2] = [Value.int .i64 n2] := e2; rw [cellsInt] at h; simpa using h
          subst k0 k1 k2
          have q0 := hcell 0 (by omega)
          have q1 := hcell 1 (by omega)
          have q2 := hcell 2 (by omega)
          rw [Go.Deep.add_add] at q0 q1 q2
          exact ⟨⟨n0, n1, n2⟩, by simpa using q0, by simpa using q1, by simpa using q2⟩
    obtain ⟨E, hE⟩ := choose_lt (α := Ent) (p := fun i e => W.cell? (a.add (i * 3)) = some (.int .i64 e.t) ∧ W.cell? (a.add (i * 3 + 1)) = some (.int .i64 e.k) ∧ W.cell? (a.add (i * 3 + 2)) = some (.int .i64 e.v)) each
    refine ⟨(List.range len).map E, ?_⟩
    unfold Es
    rw [List.length_map, List.length_range]
    refine slr_of_cells (by rw [entCells_len]; simp) hl hm (by decide) (fun j u hu => ?_)
    have hj := (List.getElem?_eq_some_iff.1 hu).1
    rw [entCells_len, List.length_map, List.length_range] at hj
    have hq : j / 3 < ((List.range len).map E).length := by rw [List.length_map, List.length_range]; omega
    have hat := entCells_at ((List.range len).map E) (j / 3) hq (j % 3) (Nat.mod_lt _ (by decide))
    rw [show j / 3 * 3 + j % 3 = j from by omega, hu] at hat
    simp only [List.getElem_map, List.getElem_range] at hat
    obtain ⟨h0, h1, h2⟩ := hE (j / 3) (by omega)
    have hr : j % 3 = 0 ∨ j % 3 = 1 ∨ j % 3 = 2 := by omega
    rcases hr with hr | hr | hr
    · rw [hr] at hat
      cases hat
      have h := h0; rw [show j / 3 * 3 = j from by omega] at h; exact h
    · rw [hr] at hat
      cases hat
      have h := h1; rw [show j / 3 * 3 + 1 = j from by omega] at h; exact h
    · rw [hr] at hat
      cases hat
      have h := h2; rw [show j / 3 * 3 + 2 = j from by omega] at h; exact h

theorem bs_of_trod (hv : Value.okWide Try.prog W .any base 24 v) (h : DataW.Trod enc Try.prog W 0 (fun _ => true) true 24 v d p) : ∃ bs, Bs W v bs := by
  obtain ⟨a0, len, cap, rfl⟩ := okWide_slice Try.underlying24 hv
  obtain ⟨fuel, hf⟩ := h
  have hf' : DataW.trod enc Try.prog W 0 (fun _ => true) true fuel 24 [.slice a0 len cap] = some (d, p) := by simpa [Value.cells] using hf
  rcases open_ints Try.underlying24 Try.underlying5 cellsU8 hf' with ⟨hcs, _⟩ | ⟨a, len', cap', zs, hcs, hb, hl, hm, hz, hx, hcell, hw⟩
  · cases hcs; exact ⟨[], SlR.nil _ 1⟩
  · cases hcs
    have hzc : zs.length = cap := by simpa using hz
    refine ⟨(zs.take len).map (fun n => UInt8.ofNat n.toNat), ?_⟩
    unfold Bs
    rw [List.length_map, List.length_take, Nat.min_eq_left (by omega)]
    refine slr_of_cells (by simp; omega) hl hm (by decide) (fun j u hu => ?_)
    have hj := (List.getElem?_eq_some_iff.1 hu).1
    simp only [List.length_map, List.length_take, Nat.lt_min] at hj
    rw [hcell j (by omega), ← hu]
    have hwf := hw (zs[j]'(by omega)) (List.getElem_mem _)
    have hr : 0 ≤ zs[j]'(by omega) ∧ zs[j]'(by omega) ≤ 255 := by simpa [Lit.wf, IntKind.min, IntKind.max, IntKind.signed, IntKind.bits] using hwf
    have h1 : zs.getD j 0 = zs[j]'(by omega) := by simp [List.getD, List.getElem?_eq_getElem (show j < zs.length by omega)]
    rw [h1]
    have h2 : ((List.map (fun n : Int => UInt8.ofNat n.toNat) (zs.take len)).map bv)[j]? = some (bv (UInt8.ofNat (zs[j]'(by omega)).toNat)) := by
      simp [List.getElem?_map, List.getElem?_take, hj.1, List.getElem?_eq_getElem (show j < zs.length by omega)]
    rw [h2]
    simp [bv]
    omega
end
section
variable {H : Type} {enc : TypeId × Value → H} {P : Program}
theorem post_of_below {f : Func} {s : ChangeSpec} {apart fresh handsOn again : Bool} {W W' : World} {args : Array Value} {v : Value} {ds gs : List (DataW H)} {before pa pv : List MemPlace}
    (hW : DataW.Whole enc P f.params.toList s.vars apart W args.toList ds gs before)
    (hres : ∀ (b : Nat) (sp : Nat → Bool) (hd : Bool), DataW.TrodAll enc P W' b sp hd f.resultTypes.toList (v.resultList f.resultTypes.size) (s.fn H (ds ++ gs)).results [])
    (hargs : ∀ sp : Nat → Bool, (∀ p ∈ before, sp p.block = true) → DataW.TrodAll enc P W' 0 sp true f.params.toList args.toList (s.fn H (ds ++ gs)).args pa)
    (hvars : ∀ sp : Nat → Bool, (∀ p ∈ before, sp p.block = true) → DataW.TrodVars enc P W' sp s.vars (s.fn H (ds ++ gs)).vars pv)
    (hps : before = pa ++ pv) (hb : Below W.heap.size W W')
    (hok : ∀ (j : Nat) (t : TypeId) (r : Value), f.resultTypes[j]? = some t → (v.resultList f.resultTypes.size)[j]? = some r → Value.okWide P W' .any 0 t r) :
    s.post enc P f apart fresh handsOn again W args v W' := by
  have hlt : ∀ p ∈ before, p.block < W.heap.size := fun p hp => hW.lt p hp
  have hold : ∀ p ∈ before, (fun b => decide (b < W.heap.size)) p.block = true := fun p hp => by simpa using hlt p hp
  refine ⟨ds, gs, before, [], pa, pv, hW, hres _ _ _, hargs _ hold, hvars _ hold, World.keptBut_mono (fun p hp => ⟨hp, ?_⟩) (hb.frame (· ∈ before)), fun _ => ?_⟩
  · rw [hps, List.mem_append] at hp
    exact Or.inr hp
  · obtain ⟨_, _, _, _, _, hz, hn⟩ := hW
    refine ⟨hok, _, _, ([] ++ pa) ++ pv, ⟨[] ++ pa, pv, trodAll_append (hargs _ (fun _ _ => rfl)) (hres _ _ _), hvars _ (fun _ _ => rfl), rfl, ?_, ?_⟩, ?_⟩
    · intro b off hp
      have hin : MemPlace.cell b off ∈ before := by rw [hps]; simpa using hp
      rw [hb.frozen (hlt _ hin)]
      exact hz b off hin
    · intro ha
      have := hn ha
      rw [hps] at this
      simpa using this
    · intro p hp _
      rw [hps]
      simpa using hp
end
end Go.Proofs.Ytibbbdifkopebaa
