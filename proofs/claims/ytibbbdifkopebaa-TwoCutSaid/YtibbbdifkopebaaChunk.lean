/-
  The walk of slices.Chunk's iterator over entries, by fours.
-/
import Derived.Test.YtibbbdifkopebaaRefFile
set_option linter.all false
namespace Go.Proofs.Ytibbbdifkopebaa
open Go.RowKit Go.Mv Go.Shelf
attribute [local go_sem] Oper.semAt_some
set_option maxRecDepth 100000

theorem Es.cap {w : World} {A : Option Addr} {m c c' : Nat} {es : List Ent} (h : Es w (.slice A m c) es) (h1 : es.length ≤ c') (h2 : c' ≤ 9223372036854775807) : Es w (.slice A m c') es := by
  obtain ⟨hl, A', c'', e, _, _, h3⟩ := h
  cases e
  exact ⟨hl, A, c', rfl, h1, by simpa [maxLen] using h2, h3⟩
def chunks4 (es : List Ent) : List (List Ent) :=
  if h : es = [] then [] else es.take 4 :: chunks4 (es.drop 4)
termination_by es.length
decreasing_by
  have : 0 < es.length := List.length_pos_iff.2 h
  simp; omega
theorem chunks4_nil : chunks4 [] = [] := by rw [chunks4]; simp
theorem chunks4_cons (es : List Ent) (h : 0 < es.length) : chunks4 es = es.take 4 :: chunks4 (es.drop 4) := by
  rw [chunks4, dif_neg (fun e => by rw [e] at h; simp at h)]

set_option maxHeartbeats 1000000 in
theorem chunk1_seq (wo W0 : World) (v : Value) (es : List Ent) (hes : Es wo v es) (hlen : es.length ≤ 1000000) (bs bn : Nat) (hB1 : Boxed W0 bs 23 v) (hB2 : Boxed W0 bn 3 (.int .i64 4)) :
    Seq Try.prog 70 #[.pointer (some ⟨bs, 0, none⟩), .pointer (some ⟨bn, 0, none⟩)]
      (fun (part : List Ent) av _ => ∃ u, av = #[u] ∧ Es wo u part) (fun k o => (k = bs ∧ o.ty = some 23) ∨ (k = bn ∧ o.ty = some 3)) (fun _ _ => False) (chunks4 es) W0 := by
  intro l J Jx hJ hJx hY h0
  obtain ⟨A, c, rfl, h1, h2⟩ := SlR.open_ hes
  refine (callsIn_wd (ro := none) (n := 9)).1 ?_
  refine callsIn_of_wp Try.func70 rfl trivial ?_ rfl
  simp only [Try.ntmps70, List.size_toArray, List.length_cons, List.length_nil, Nat.reduceAdd, Nat.reduceSub, Array.replicate_succ, Array.replicate_zero, List.push_toArray, List.append_toArray, List.nil_append, List.cons_append]
  gi_wp2
  gi_loopw [4] (fun j W => ∃ (k : Nat) (done : List (List Ent)), j = .int .i64 k ∧ k ≤ es.length + 3 ∧ Hid (chunks4 es = done ++ chunks4 (es.drop k)) ∧ Hid (J done W) ∧ Boxed W bs 23 (.slice A es.length c) ∧ Boxed W bn 3 (.int .i64 4) ∧ W0.heap.size ≤ W.heap.size) (fun j _ => es.length + 4 - (intOf j).toNat)
  case atStart => exact ⟨0, [], rfl, Nat.zero_le _, rfl, h0, hB1, hB2, Nat.le_refl _⟩
  case round =>
    obtain ⟨k, done, rfl, hk, HC, HJ, b1, b2, hsz⟩ := hrel
    have c1 := b1.cell
    have c2 := b2.cell
    by_cases hlt : k < es.length
    · obtain ⟨_, b, off, rfl, hc⟩ := Es.at_ hes (by omega)
      clear hc
      gi_wp2
      gi_region
      have hif : (if ((es.length - k : Nat) : Int) < 4 then ((es.length - k : Nat) : Int) else 4) = ((min (es.length - k) 4 : Nat) : Int) := by split <;> omega
      rw [hif]
      have hN1 : min (es.length - k) 4 ≤ 4 := by omega
      have hN2 : k + min (es.length - k) 4 ≤ es.length := by omega
      have hN3 : 0 < min (es.length - k) 4 := by omega
      have hpart : (es.drop k).take 4 = (es.drop k).take (min (es.length - k) 4) := by
        rcases Nat.le_total (es.length - k) 4 with h | h
        · rw [Nat.min_eq_left h, List.take_of_length_le (by simp; omega), List.take_of_length_le (by simp)]
        · rw [Nat.min_eq_right h]
      have hcc := chunks4_cons (es.drop k) (by simp; omega)
      rw [List.drop_drop] at hcc
      have hC := HC.out
      rw [hcc, hpart] at hC
      generalize min (es.length - k) 4 = N at *
      have HC2 := Lib.hid hC
      have HJ2 := Lib.hid (hJ _ _ _ HJ.out (Moves.refl.drew))
      clear hC hcc hpart hif
      have hpe : Es wo (.slice (some ⟨b, off + k * 3, none⟩) N N) ((es.drop k).take N) := by
        refine Es.cap (Es.take (Es.drop hes k (by omega)) N (by rw [List.length_drop]; omega)) ?_ (by omega)
        rw [List.length_take, List.length_drop]; omega
      have hy := hY done _ _ HC2.out wr.drew #[.slice (some ⟨b, off + k * 3, none⟩) N N] HJ2.out hsz ⟨_, rfl, hpe⟩
      have Hy := Lib.hid hy
      have b1' : Boxed wr.drew bs 23 (.slice (some ⟨b, off, none⟩) es.length c) := b1
      have b2' : Boxed wr.drew bn 3 (.int .i64 4) := b2
      have hpre : done ++ [(es.drop k).take N] <+: chunks4 es := by
        rw [HC2.out]; exact ⟨_, by rw [List.append_assoc]; rfl⟩
      have Hpre := Lib.hid hpre
      clear hpe hy hY hpre
      gi_wp2
      refine uponIn_yield Hy.out ?_
      rintro e W' ⟨hk', ⟨rfl, hj⟩ | ⟨rfl, hj⟩⟩
      · refine ⟨true, rfl, ?_⟩
        have d1 : Boxed W' bs 23 (.slice (some ⟨b, off, none⟩) es.length c) := hk'.boxed b1' (.inl (.inl ⟨rfl, rfl⟩))
        have d2 : Boxed W' bn 3 (.int .i64 4) := hk'.boxed b2' (.inl (.inr ⟨rfl, rfl⟩))
        have e2 := d2.cell
        have hs' : W0.heap.size ≤ W'.heap.size := Nat.le_trans hsz hk'.size
        have HJ3 := Lib.hid hj
        clear hj hk' c1 c2
        gi_wp2
        refine ⟨⟨k + 4, _, by go_num, by omega, ?_, HJ3, d1, d2, hs'⟩, by simp [intOf]; omega⟩
        show _ = _; rw [HC2.out, List.append_assoc]; rfl
      · refine ⟨false, rfl, ?_⟩
        have HJ3 := Lib.hid hj
        clear hj hk' c1 c2
        gi_wp2
        refine bodyPost_ret (results_none rfl _ _ _) rfl ?_
        exact ⟨⟨_, rfl⟩, .inr ⟨_, Hpre.out, HJ3.out⟩⟩
    · have hC := HC.out
      rw [List.drop_of_length_le (by omega), chunks4_nil, List.append_nil] at hC
      have HC2 := Lib.hid hC
      clear hC
      gi_wp2
      refine bodyPost_end (results_none rfl _ _ _) rfl ?_
      exact ⟨⟨_, rfl⟩, .inl (by rw [HC2.out]; exact HJ.out)⟩
end Go.Proofs.Ytibbbdifkopebaa
