/-
  The plain law of TwoCut.
-/
import Derived.Test.YtibbbdifkopebaaLaw
set_option linter.all false
namespace Go.Proofs.Ytibbbdifkopebaa
open Go.RowKit Go.Mv

theorem headS_okC {f : Nat} (h1 : 1 ≤ f) (h2 : f ≤ 1073741824) : (headS (f : Int)).1 = 0 := by
  unfold headS
  rw [if_pos ⟨by rw [numB_true]; omega, by omega⟩]
theorem allOk_take_of {es : List Ent} (n : Nat) (h : allOk es = true) : allOk (es.take n) = true := by
  unfold allOk at *
  rw [List.all_eq_true] at *
  exact fun x hx => h x (List.mem_of_mem_take hx)
theorem allOk_drop_of {es : List Ent} (n : Nat) (h : allOk es = true) : allOk (es.drop n) = true := by
  unfold allOk at *
  rw [List.all_eq_true] at *
  exact fun x hx => h x (List.mem_of_mem_drop hx)
theorem blkOk_take4 {es : List Ent} (h0 : 0 < es.length) (h : allOk es = true) : blkOk (es.take 4) = true := by
  rw [blkOk_iff, List.length_take]
  exact ⟨by omega, allOk_take_of 4 h⟩

/-- Of blocks that are cut off the whole ones are scanned. -/
theorem cut_scan (es : List Ent) : ∀ (p : Nat × Nat) (k : Nat), allOk es = true → ∃ n, n ≤ es.length ∧ (n % 4 = 0 ∨ n = es.length) ∧ (scanS p ((blocksS p es).take k)).1 = es.take n ∧ (blocksS p es).take k = blocksS p (es.take n) ++ (scanS p ((blocksS p es).take k)).2.2 := by
  generalize hlen : es.length = N
  induction N using Nat.strongRecOn generalizing es with
  | _ N ih =>
    intro p k ha
    cases hn : nextS p ((blocksS p es).take k) with
    | none =>
      rw [scanS_none hn]
      exact ⟨0, Nat.zero_le _, .inl rfl, by simp, by simp [blocksS_nil]⟩
    | some x =>
      obtain ⟨es1, r⟩ := x
      rw [scanS_some hn]
      dsimp only
      obtain ⟨hok, hX⟩ := (nextS_iff _ _ _ _).1 hn
      have hall : blocksS p es = blkS p es1 ++ (r ++ (blocksS p es).drop k) := by
        rw [← List.append_assoc, ← hX, List.take_append_drop]
      have h0 : 0 < es.length := by
        rcases Nat.eq_zero_or_pos es.length with h | h
        · have : es = [] := List.eq_nil_of_length_eq_zero h
          subst this
          rw [blocksS_nil] at hX
          have := congrArg List.length hX
          simp [blkS, blkBody] at this
        · exact h
      have hnx : nextS p (blocksS p es) = some (es1, r ++ (blocksS p es).drop k) := (nextS_iff _ _ _ _).2 ⟨hok, hall⟩
      have hnx2 : nextS p (blocksS p es) = some (es.take 4, blocksS (chainP p (blkBody (es.take 4))) (es.drop 4)) := (nextS_iff _ _ _ _).2 ⟨blkOk_take4 h0 ha, blocksS_cons p es h0⟩
      rw [hnx] at hnx2
      injection hnx2 with h1
      injection h1 with h2 h3
      subst h2
      have hr : r = (blocksS (chainP p (blkBody (es.take 4))) (es.drop 4)).take r.length := by rw [← h3, List.take_left]
      obtain ⟨n, g1, g2, g3, g4⟩ := ih (es.drop 4).length (by rw [List.length_drop]; omega) (es.drop 4) rfl (chainP p (blkBody (es.take 4))) r.length (allOk_drop_of 4 ha)
      rw [← hr] at g3 g4
      rw [List.length_drop] at g1 g2
      refine ⟨(es.take 4).length + n, by rw [List.length_take]; omega, by rw [List.length_take]; omega, ?_, ?_⟩
      · rw [g3]
        by_cases h4 : 4 ≤ es.length
        · rw [List.length_take, Nat.min_eq_left h4, List.take_add]
        · rw [List.length_take, Nat.min_eq_right (by omega), List.take_of_length_le (show es.length ≤ 4 by omega), List.drop_of_length_le (by omega : es.length ≤ 4), List.take_of_length_le (show es.length ≤ es.length + n by omega)]
          simp
      · rw [hX]
        clear hr
        generalize (scanS (chainP p (blkBody (es.take 4))) r).2.2 = Z at g4 ⊢
        rw [g4]
        by_cases h4 : 4 ≤ es.length
        · have hp : 0 < (es.take (4 + n)).length := by rw [List.length_take]; omega
          rw [List.length_take, Nat.min_eq_left h4, blocksS_cons p (es.take (4 + n)) hp, List.take_take, Nat.min_eq_left (by omega), List.drop_take, show 4 + n - 4 = n from by omega]
          rw [List.append_assoc]
        · have hn0 : n = 0 := by omega
          subst hn0
          rw [List.length_take, Nat.min_eq_right (by omega), Nat.add_zero, List.take_of_length_le (Nat.le_refl _), List.take_zero, blocksS_nil]
          conv => rhs; rw [blocksS_cons p es h0]
          rw [List.drop_of_length_le (by omega : es.length ≤ 4), blocksS_nil]
          simp

theorem left_mod (left : Int) (n : Nat) (h0 : 0 < n) (hn : n ≤ 1000000) : ∃ j : Nat, (wrap64 (left.tmod n + n)).tmod n = j ∧ j < n := by
  have h1 := Int.natAbs_tmod left n
  have h2 := Nat.mod_lt left.natAbs (show 0 < (n : Int).natAbs by omega)
  rw [← h1] at h2
  generalize left.tmod n = t at *
  have h3 : wrap64 (t + n) = t + n := by unfold wrap64; omega
  rw [h3]
  have h4 : 0 ≤ t + n := by omega
  obtain ⟨x, hx⟩ : ∃ x : Nat, t + n = x := ⟨_, (Int.toNat_of_nonneg h4).symm⟩
  rw [hx]
  exact ⟨x % n, by rw [Int.tmod_eq_emod_of_nonneg (by omega)]; rfl, Nat.mod_lt _ h0⟩

theorem cut_plain {f : Nat} (h1 : 1 ≤ f) (h2 : f ≤ 1073741824) {l : List Ent} (hl : allOk l = true) :
    ∃ (B H : List UInt8), fileS (f : Int) l = (0, B) ∧ headS (f : Int) = (0, H) ∧ 0 < H.length ∧ B.length ≤ 6 + 20 * l.length ∧ H.length ≤ B.length ∧ H.length ≤ 6 ∧
      ∀ k, k ≤ B.length → (k < H.length → lookS (B.take k) = ⟨11, 0, [], 0, (0, 0)⟩) ∧
        (H.length ≤ k → ∃ n u q q', n ≤ l.length ∧ (n % 4 = 0 ∨ n = l.length) ∧ u ≤ k ∧ lookS (B.take k) = ⟨0, f, l.take n, u, q⟩ ∧ fileS (f : Int) (l.take n) = (0, B.take u) ∧ lookS (B.take u) = ⟨0, f, l.take n, u, q'⟩) := by
  have hh := headS_okC h1 h2
  have hfl := file_len (f : Int) l
  have hfile := file_ok hh hl
  rw [hfile] at hfl
  dsimp only at hfl
  have hHl := headS_len (f : Int)
  refine ⟨_, (headS (f : Int)).2, hfile, by rw [← hh], ?_, hfl, by rw [List.length_append]; omega, hHl, fun k hk => ⟨fun hlt => ?_, fun hge => ?_⟩⟩
  · unfold headS
    rw [if_pos ⟨by rw [numB_true]; omega, by omega⟩]
    simp
  · apply look_none
    cases hd : headT (((headS (f : Int)).2 ++ blocksS (chainP (0, 0) (headS (f : Int)).2) l).take k) with
    | none => rfl
    | some x =>
      exfalso
      obtain ⟨f', r⟩ := x
      obtain ⟨e1, e2⟩ := (headT_iff _ _ _).1 hd
      have e3 : headT ((headS (f : Int)).2 ++ blocksS (chainP (0, 0) (headS (f : Int)).2) l) = some (f', r ++ ((headS (f : Int)).2 ++ blocksS (chainP (0, 0) (headS (f : Int)).2) l).drop k) := by
        rw [headT_iff]
        exact ⟨e1, by rw [← List.append_assoc, ← e2, List.take_append_drop]⟩
      have e4 : headT ((headS (f : Int)).2 ++ blocksS (chainP (0, 0) (headS (f : Int)).2) l) = some (f, blocksS (chainP (0, 0) (headS (f : Int)).2) l) := by
        rw [headT_iff]; exact ⟨hh, rfl⟩
      rw [e3] at e4
      injection e4 with e5
      injection e5 with e6 e7
      subst e6
      have := congrArg List.length e2
      rw [List.length_take, List.length_append, List.length_append] at this
      omega
  · obtain ⟨j, rfl⟩ : ∃ j, k = (headS (f : Int)).2.length + j := ⟨k - (headS (f : Int)).2.length, by omega⟩
    obtain ⟨n, g1, g2, g3, g4⟩ := cut_scan l (chainP (0, 0) (headS (f : Int)).2) j hl
    have hfn := file_ok hh (allOk_take_of n hl)
    have hput := look_put hh (allOk_take_of n hl) []
    rw [hfn, List.append_nil, scan_nil] at hput
    dsimp only at hput
    have ht : ((headS (f : Int)).2 ++ blocksS (chainP (0, 0) (headS (f : Int)).2) l).take ((headS (f : Int)).2.length + j) = (headS (f : Int)).2 ++ (blocksS (chainP (0, 0) (headS (f : Int)).2) l).take j := by
      rw [List.take_append, List.take_of_length_le (by omega), Nat.add_sub_cancel_left]
    have hlen := congrArg List.length g4
    rw [List.length_append] at hlen
    have hut : ((headS (f : Int)).2 ++ blocksS (chainP (0, 0) (headS (f : Int)).2) l).take ((headS (f : Int)).2.length + (blocksS (chainP (0, 0) (headS (f : Int)).2) (l.take n)).length) = (headS (f : Int)).2 ++ blocksS (chainP (0, 0) (headS (f : Int)).2) (l.take n) := by
      have : blocksS (chainP (0, 0) (headS (f : Int)).2) l = blocksS (chainP (0, 0) (headS (f : Int)).2) (l.take n) ++ ((scanS (chainP (0, 0) (headS (f : Int)).2) ((blocksS (chainP (0, 0) (headS (f : Int)).2) l).take j)).2.2 ++ (blocksS (chainP (0, 0) (headS (f : Int)).2) l).drop j) := by
        rw [← List.append_assoc, ← g4, List.take_append_drop]
      rw [this, ← List.append_assoc, ← List.length_append, List.take_left]
    refine ⟨n, (headS (f : Int)).2.length + (blocksS (chainP (0, 0) (headS (f : Int)).2) (l.take n)).length, (scanS (chainP (0, 0) (headS (f : Int)).2) ((blocksS (chainP (0, 0) (headS (f : Int)).2) l).take j)).2.1, endQ (f : Int) (l.take n), g1, g2, ?_, ?_, ?_, ?_⟩
    · rw [List.length_take] at hlen; omega
    · rw [ht, look_some ((headT_iff _ _ _).2 ⟨hh, rfl⟩), g3]
      congr 1
      rw [List.length_append]
      omega
    · rw [hut]; exact hfn
    · rw [hut, hput]
      simp
end Go.Proofs.Ytibbbdifkopebaa
