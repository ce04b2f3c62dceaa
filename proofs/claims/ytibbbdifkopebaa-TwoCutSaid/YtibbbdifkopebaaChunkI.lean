/-
  The walk of slices.Chunk's iterator over integers, by threes.
-/
import Derived.Test.YtibbbdifkopebaaPlain
set_option linter.all false
namespace Go.Proofs.Ytibbbdifkopebaa
open Go.RowKit Go.Mv Go.Shelf
attribute [local go_sem] Oper.semAt_some
set_option maxRecDepth 100000

theorem entInts_drop (es : List Ent) (i : Nat) (h : i < es.length) : (entInts es).drop (i * 3) = es[i].t :: es[i].k :: es[i].v :: (entInts es).drop (i * 3 + 3) := by
  induction es generalizing i with
  | nil => simp at h
  | cons e es ih =>
    rw [show entInts (e :: es) = e.t :: e.k :: e.v :: entInts es from rfl]
    cases i with
    | zero => rfl
    | succ i =>
      have := ih i (by simpa using h)
      rw [show (i + 1) * 3 = i * 3 + 1 + 1 + 1 from by omega]
      simpa using this
theorem ints_part {wo : World} {b off n c : Nat} {es : List Ent} (h : Is wo (.slice (some ⟨b, off, none⟩) n c) (entInts es)) (i : Nat) (hi : i < es.length) :
    Is wo (.slice (some ⟨b, off + i * 3, none⟩) 3 3) [es[i].t, es[i].k, es[i].v] := by
  have hl := entInts_len es
  obtain ⟨h0, A, c', e, h1, h2, h3⟩ := h
  cases e
  obtain ⟨b', off', e', hc⟩ := h3 (by omega)
  cases e'
  refine ⟨by simp, _, 3, rfl, Nat.le_refl _, by simp [maxLen], fun _ => ⟨b, off + i * 3, rfl, fun j u hu => ?_⟩⟩
  have hd := entInts_drop es i hi
  have hj : j < 3 := by
    have := (List.getElem?_eq_some_iff.1 hu).1
    simpa using this
  rw [Nat.add_assoc]
  refine hc (i * 3 + j) u ?_
  rw [← hu, ← List.getElem?_drop, ← List.map_drop, hd]
  match j, hj with
  | 0, _ => rfl
  | 1, _ => rfl
  | 2, _ => rfl

set_option maxHeartbeats 1000000 in
theorem chunk3_seq (wo W0 : World) (v : Value) (es : List Ent) (hes : Is wo v (entInts es)) (hlen : es.length ≤ 1000000) (bs bn : Nat) (hB1 : Boxed W0 bs 68 v) (hB2 : Boxed W0 bn 3 (.int .i64 3)) :
    Seq Try.prog 86 #[.pointer (some ⟨bs, 0, none⟩), .pointer (some ⟨bn, 0, none⟩)]
      (fun (e : Ent) av _ => ∃ b off, av = #[.slice (some ⟨b, off, none⟩) 3 3] ∧ Is wo (.slice (some ⟨b, off, none⟩) 3 3) [e.t, e.k, e.v]) (fun k o => (k = bs ∧ o.ty = some 68) ∨ (k = bn ∧ o.ty = some 3)) (fun _ _ => False) es W0 := by
  intro l J Jx hJ hJx hY h0
  have hL := entInts_len es
  obtain ⟨A, c, rfl, h1, h2⟩ := SlR.open_ hes
  rw [hL] at *
  refine (callsIn_wd (ro := none) (n := 9)).1 ?_
  refine callsIn_of_wp Try.func86 rfl trivial ?_ rfl
  simp only [Try.ntmps86, List.size_toArray, List.length_cons, List.length_nil, Nat.reduceAdd, Nat.reduceSub, Array.replicate_succ, Array.replicate_zero, List.push_toArray, List.append_toArray, List.nil_append, List.cons_append]
  have Hes := Lib.hid hes
  clear hL hes
  gi_wp2
  gi_loopw [4] (fun j W => ∃ (i : Nat), j = .int .i64 (i * 3 : Nat) ∧ i ≤ es.length ∧ Hid (J (es.take i) W) ∧ Boxed W bs 68 (.slice A (3 * es.length) c) ∧ Boxed W bn 3 (.int .i64 3) ∧ W0.heap.size ≤ W.heap.size) (fun j _ => 3 * es.length + 4 - (intOf j).toNat)
  case atStart => exact ⟨0, rfl, Nat.zero_le _, h0, hB1, hB2, Nat.le_refl _⟩
  case round =>
    obtain ⟨i, rfl, hk, HJ, b1, b2, hsz⟩ := hrel
    have c1 := b1.cell
    have c2 := b2.cell
    by_cases hlt : i < es.length
    · have hes' := Hes.out
      obtain ⟨hx, b, off, rfl, hc⟩ := Is.at_ hes' (by rw [entInts_len]; omega)
      clear hc hx
      have hp := ints_part hes' i hlt
      have Hp := Lib.hid hp
      have hkk : (i * 3 : Nat) < 3 * es.length := by omega
      have hk3 : (i * 3 : Nat) + 3 ≤ 3 * es.length := by omega
      have htk : es.take (i + 1) = es.take i ++ [es[i]] := List.take_succ_eq_append_getElem hlt
      have Htk := Lib.hid htk
      have hsp : es = es.take i ++ es[i] :: es.drop (i + 1) := by rw [← List.drop_eq_getElem_cons hlt, List.take_append_drop]
      have Hsp := Lib.hid hsp
      clear hp htk hsp hes'
      have hi3 : ((i * 3 : Nat) : Int) = (i : Int) * 3 := by omega
      obtain ⟨k, hkd⟩ : ∃ k, i * 3 = k := ⟨_, rfl⟩
      have Hkd := Lib.hid hkd
      rw [hkd] at hkk hk3 Hp
      simp only [hkd]
      clear hi3 hkd
      gi_wp2
      gi_region
      have hif : (if ((3 * es.length - k : Nat) : Int) < 3 then ((3 * es.length - k : Nat) : Int) else 3) = 3 := by split <;> omega
      try rw [hif]
      clear hif
      have hy := hY (es.take i) es[i] (es.drop (i + 1)) Hsp.out wr.drew #[.slice (some ⟨b, off + k, none⟩) 3 3] (hJ _ _ _ HJ.out (Moves.refl.drew)) hsz ⟨b, off + k, rfl, Hp.out⟩
      have Hy := Lib.hid hy
      have b1' : Boxed wr.drew bs 68 (.slice (some ⟨b, off, none⟩) (3 * es.length) c) := b1
      have b2' : Boxed wr.drew bn 3 (.int .i64 3) := b2
      clear hy hY
      gi_wp2
      refine uponIn_yield Hy.out ?_
      rintro e W' ⟨hk', ⟨rfl, hj⟩ | ⟨rfl, hj⟩⟩
      · refine ⟨true, rfl, ?_⟩
        have d1 : Boxed W' bs 68 (.slice (some ⟨b, off, none⟩) (3 * es.length) c) := hk'.boxed b1' (.inl (.inl ⟨rfl, rfl⟩))
        have d2 : Boxed W' bn 3 (.int .i64 3) := hk'.boxed b2' (.inl (.inr ⟨rfl, rfl⟩))
        have e2 := d2.cell
        have hs' : W0.heap.size ≤ W'.heap.size := Nat.le_trans hsz hk'.size
        have HJ3 := Lib.hid hj
        clear hj hk' c1 c2
        gi_wp2
        refine ⟨⟨i + 1, ?_, by omega, ?_, d1, d2, hs'⟩, by simp [intOf]; omega⟩
        · have := Hkd.out
          rw [show (i + 1) * 3 = k + 3 from by omega]; go_num
        · show J _ _; rw [Htk.out]; exact HJ3.out
      · refine ⟨false, rfl, ?_⟩
        have HJ3 := Lib.hid hj
        clear hj hk' c1 c2
        gi_wp2
        refine bodyPost_ret (results_none rfl _ _ _) rfl ?_
        refine ⟨⟨_, rfl⟩, .inr ⟨es.take (i + 1), ?_, ?_⟩⟩
        · exact List.take_prefix _ _
        · rw [Htk.out]; exact HJ3.out
    · have hC : es.take i = es := List.take_of_length_le (by omega)
      have hi3 : 3 * es.length ≤ i * 3 := by omega
      have hi4 : ¬ (((i * 3 : Nat) : Int) < ((3 * es.length : Nat) : Int)) := by omega
      obtain ⟨k, hkd⟩ : ∃ k, i * 3 = k := ⟨_, rfl⟩
      have HC2 := Lib.hid hC
      have hk6 : k ≤ 3 * es.length := by omega
      rw [hkd] at hi3
      simp only [hkd]
      clear hC hi4 hkd
      gi_wp2
      refine bodyPost_end (results_none rfl _ _ _) rfl ?_
      exact ⟨⟨_, rfl⟩, .inl (by have := HJ.out; rw [HC2.out] at this; exact this)⟩

theorem ChunkI_any (A : Option Addr) (n c : Nat) (w : World) : Calls Try.prog 73 #[.slice A n c, .int .i64 3] w fun e w' =>
    e = .returned (.func (.func 86) #[] #[.pointer (some ⟨w.heap.size, 0, none⟩), .pointer (some ⟨w.heap.size + 1, 0, none⟩)]) ∧
    (w.alloc (.cells #[.slice A n c] 68)).alloc (.cells #[.int .i64 3] 3) = w' := by
  go_enter Try.func73, Try.ntmps73
  go_wp2
  go_ret
  exact ⟨rfl, rfl⟩
end Go.Proofs.Ytibbbdifkopebaa
