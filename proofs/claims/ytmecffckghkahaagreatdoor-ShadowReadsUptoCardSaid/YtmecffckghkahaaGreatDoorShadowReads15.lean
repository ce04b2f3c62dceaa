/- Merged: SnapP State Round2 PiecesIt -/
import Derived.Test.YtmecffckghkahaaGreatDoorShadowReads14
import Derived.Deep.RegionHeld3
set_option linter.all false
set_option maxHeartbeats 8000000
namespace Go.Proofs.YtmecffckghkahaaGreatDoor
open Go.RowKit Go.Mv
structure Sta where
 idx : Int
 term : Int
 sum : Int
 lvl : Int
 fin : Bool
def Sta.ok (s : Sta) : Bool :=
 if s.idx = 0 then decide (s.term = 0 ∧ s.sum = 0 ∧ s.lvl = 1 ∧ s.fin = false)
 else (if s.fin = true then decide (s.lvl = 2) else decide (s.lvl = 1 ∨ s.lvl = 2)) && numB s.idx && decide (0 < s.term) && numB s.term && numB s.sum
def Sta.finI (s : Sta) : Int := if s.fin = true then 1 else 0
def Sta.ints (s : Sta) : List Int := [s.idx, s.term, s.sum, s.lvl, s.finI]
theorem Sta.okP {s : Sta} (h : s.ok = true) : numB s.idx = true ∧ numB s.term = true ∧ numB s.sum = true ∧ (s.lvl = 1 ∨ s.lvl = 2) := by
 unfold Sta.ok at h
 split at h
 ·rename_i h0
  have := of_decide_eq_true h
  obtain ⟨h1, h2, h3, h4⟩ := this
  rw [h0, h1, h2, h3]
  exact ⟨by decide, by decide, by decide, .inl rfl⟩
 ·simp only [Bool.and_eq_true] at h
  obtain ⟨⟨⟨⟨h1, h2⟩, h3⟩, h4⟩, h5⟩ := h
  refine ⟨h2, h4, h5, ?_⟩
  split at h1
  ·exact .inr (of_decide_eq_true h1)
  ·exact of_decide_eq_true h1
theorem Sta.finP (s : Sta) : s.finI = 0 ∨ s.finI = 1 := by unfold Sta.finI; split <;> simp
theorem Sta.nums {s : Sta} (h : s.ok = true) : allNum s.ints = true := by
 obtain ⟨h1, h2, h3, h4⟩ := Sta.okP h
 have h5 : numB s.lvl = true := by rcases h4 with e | e <;> rw [e] <;> decide
 have h6 : numB s.finI = true := by rcases s.finP with e | e <;> rw [e] <;> decide
 simp [allNum, Sta.ints, h1, h2, h3, h5, h6]
def piecesS (z : Nat × Nat) (t : List UInt8) : List UInt8 :=
 if h : t = [] then [] else t.take 4 ++ (fourB (chainP z (t.take 4)) ++ piecesS (chainP z (t.take 4)) (t.drop 4))
termination_by t.length
decreasing_by
 have : 0 < t.length := List.length_pos_iff.2 h
 simp; omega
theorem piecesS_nil (z : Nat × Nat) : piecesS z [] = [] := by rw [piecesS]; simp
theorem piecesS_cons (z : Nat × Nat) (t : List UInt8) (h : 0 < t.length) : piecesS z t = t.take 4 ++ (fourB (chainP z (t.take 4)) ++ piecesS (chainP z (t.take 4)) (t.drop 4)) := by
 rw [piecesS, dif_neg (fun e => by rw [e] at h; simp at h)]
theorem piecesS_len (z : Nat × Nat) (t : List UInt8) : (piecesS z t).length = t.length + (t.length + 3) / 4 * 4 := by
 generalize hn : t.length = n
 induction n using Nat.strongRecOn generalizing z t with
 | _ n ih =>
  rcases Nat.eq_zero_or_pos t.length with h | h
  ·have : t = [] := List.eq_nil_of_length_eq_zero h
   subst this
   rw [piecesS_nil]
   simp at hn
   subst hn
   rfl
  ·have h1 := ih (t.drop 4).length (by simp; omega) (chainP z (t.take 4)) (t.drop 4) rfl
   rw [piecesS_cons z t h, List.length_append, List.length_append, h1, fourB_len, List.length_take, List.length_drop]
   omega
def unpS (b : List UInt8) : List UInt8 :=
 if h : b = [] then [] else (b.take 8).take ((b.take 8).length - 4) ++ unpS (b.drop 8)
termination_by b.length
decreasing_by
 have : 0 < b.length := List.length_pos_iff.2 h
 simp; omega
theorem unpS_nil : unpS [] = [] := by rw [unpS]; simp
theorem unpS_cons (b : List UInt8) (h : 0 < b.length) : unpS b = (b.take 8).take ((b.take 8).length - 4) ++ unpS (b.drop 8) := by
 rw [unpS, dif_neg (fun e => by rw [e] at h; simp at h)]
theorem four_list (p : Nat × Nat) : ∃ a b c d, fourB p = [a, b, c, d] := ⟨_, _, _, _, rfl⟩
theorem pieces_great (z : Nat × Nat) (t X : List UInt8) (h : 4 ≤ t.length) : unpS (piecesS z t ++ X) = t.take 4 ++ unpS (piecesS (chainP z (t.take 4)) (t.drop 4) ++ X) := by
 have h4 : (t.take 4).length = 4 := by rw [List.length_take]; omega
 have h8 : (t.take 4 ++ fourB (chainP z (t.take 4))).length = 8 := by rw [List.length_append, h4, fourB_len]
 have e : piecesS z t ++ X = (t.take 4 ++ fourB (chainP z (t.take 4))) ++ (piecesS (chainP z (t.take 4)) (t.drop 4) ++ X) := by
  rw [piecesS_cons z t (by omega)]; simp only [List.append_assoc]
 rw [e, unpS_cons _ (by rw [List.length_append, h8]; omega), List.take_left' h8, List.drop_left' h8, h8, show 8 - 4 = 4 from rfl, List.take_left' h4]
theorem unp_pieces (z : Nat × Nat) (t : List UInt8) : unpS (piecesS z t) = t := by
 generalize hn : t.length = n
 induction n using Nat.strongRecOn generalizing z t with
 | _ n ih =>
  by_cases h4 : 4 ≤ t.length
  ·have h := pieces_great z t [] h4
   rw [List.append_nil, List.append_nil] at h
   rw [h, ih (t.drop 4).length (by rw [List.length_drop]; omega) _ (t.drop 4) rfl, List.take_append_drop]
  ·rcases Nat.eq_zero_or_pos t.length with h | h
   ·have : t = [] := List.eq_nil_of_length_eq_zero h
    subst this; rw [piecesS_nil, unpS_nil]
   ·have ht : t.take 4 = t := List.take_of_length_le (by omega)
    have hd : t.drop 4 = [] := List.drop_of_length_le (by omega)
    rw [piecesS_cons z t h, ht, hd, piecesS_nil, List.append_nil]
    have hl : (t ++ fourB (chainP z t)).length = t.length + 4 := by rw [List.length_append, fourB_len]
    rw [unpS_cons _ (by omega), List.take_of_length_le (l := t ++ fourB (chainP z t)) (i := 8) (by omega), hl, Nat.add_sub_cancel, List.take_left, List.drop_of_length_le (by omega), unpS_nil, List.append_nil]
open Go.RowKit Go.Mv
set_option maxRecDepth 100000
theorem staUnder : Tryz.prog.underlying 24 = some (.struct (Tryz.prog.fieldsOf 24)) := by kernel_rfl
theorem staHeld : Tryz.prog.stoodInHeld 24 = false := by kernel_rfl
theorem staGuard : Tryz.prog.eqGuardType Tryz.prog.depth 24 = false := by kernel_rfl
def staEq (a b : Sta) : Bool := a.idx == b.idx && a.term == b.term && a.sum == b.sum && a.lvl == b.lvl && a.fin == b.fin
theorem staEq_iff (a b : Sta) : staEq a b = true ↔ a = b := by
 cases a; cases b
 simp [staEq, and_assoc]
theorem staEq_run (a b : Sta) (W : World) : (Op.equalIn 10000 24 (.agg #[.int .i64 a.idx, .int .i64 a.term, .int .i64 a.sum, .int .i64 a.lvl, .bool a.fin]) (.agg #[.int .i64 b.idx, .int .i64 b.term, .int .i64 b.sum, .int .i64 b.lvl, .bool b.fin])).run Tryz.prog W = .ok (staEq a b) W := by
 rw [run_equalIn_struct W 9999 24 _ _ staUnder staHeld]
 unfold staEq
 cases h0 : (a.idx == b.idx) <;> cases h1 : (a.term == b.term) <;> cases h2 : (a.sum == b.sum) <;> cases h3 : (a.lvl == b.lvl) <;> cases h4 : (a.fin == b.fin) <;> simp [go_sem, h0, h1, h2, h3, h4]
theorem number6_any (n : Int) (w : World) : Calls Tryz.prog 65 #[.int .i64 n] w fun e w' => e = .returned (.bool (numB n)) ∧ w = w' := by
 by_cases h0 : n < 0
 ·go_enter Tryz.func65, Tryz.ntmps65
  go_wp2
  go_ret
  exact ⟨ret_bool (by simp [numB]; omega), rfl⟩
 ·have h0' : 0 ≤ n := by omega
  go_enter Tryz.func65, Tryz.ntmps65
  go_wp2
  go_ret
  exact ⟨ret_bool (by simp [numB]; omega), rfl⟩
theorem First_any (w : World) : Calls Tryz.prog 103 #[] w fun e w' => e = .returned (.agg #[.int .i64 0, .int .i64 0, .int .i64 0, .int .i64 1, .bool false]) ∧ Ext w w' := by
 go_enter Tryz.func103, Tryz.ntmps103
 go_wp2
 refine bodyPost_ret (results_cell_row rfl _ _ _ 24 _ _ _ rfl (heap_alloc_new _ _) staUnder rfl (by kernel_rfl)) rfl ⟨rfl, Ext.alloc (Ext.refl _) _⟩
theorem First6_any (w : World) : Calls Tryz.prog 39 #[] w fun e w' => e = .returned (.agg #[.int .i64 0, .int .i64 0, .int .i64 0, .int .i64 1, .bool false]) ∧ Ext w w' := by
 go_enter Tryz.func39, Tryz.ntmps39
 go_wp2
 refine bodyPost_ret (results_cell_row rfl _ _ _ 24 _ _ _ rfl (heap_alloc_new _ _) staUnder rfl (by kernel_rfl)) rfl ⟨rfl, Ext.alloc (Ext.refl _) _⟩
theorem final_any (s : Sta) (w : World) : Calls Tryz.prog 109 #[.agg #[.int .i64 s.idx, .int .i64 s.term, .int .i64 s.sum, .int .i64 s.lvl, .bool s.fin]] w fun e w' => e = .returned (.int .i64 s.finI) ∧ Ext w w' := by
 cases hf : s.fin
 ·have h : s.finI = 0 := by unfold Sta.finI; rw [hf]; rfl
  go_enter Tryz.func109, Tryz.ntmps109
  go_wp2
  go_ret
  exact ⟨by rw [h]; rfl, Ext.alloc (Ext.refl _) _⟩
 ·have h : s.finI = 1 := by unfold Sta.finI; rw [hf]; rfl
  go_enter Tryz.func109, Tryz.ntmps109
  go_wp2
  go_ret
  exact ⟨by rw [h]; rfl, Ext.alloc (Ext.refl _) _⟩
theorem blk5 {W : World} {b : Nat} {t : TypeId} {a v u x y : Value} (h : Blk W b t #[a, v, u, x, y]) : W.cell? ⟨b, 0, none⟩ = some a ∧ W.cell? ⟨b, 1, none⟩ = some v ∧ W.cell? ⟨b, 2, none⟩ = some u ∧ W.cell? ⟨b, 3, none⟩ = some x ∧ W.cell? ⟨b, 4, none⟩ = some y :=
 ⟨h.cell 0 rfl, h.cell 1 rfl, h.cell 2 rfl, h.cell 3 rfl, h.cell 4 rfl⟩
theorem Fine_any (s : Sta) (w : World) : Calls Tryz.prog 85 #[.agg #[.int .i64 s.idx, .int .i64 s.term, .int .i64 s.sum, .int .i64 s.lvl, .bool s.fin]] w fun e w' => e = .returned (.bool s.ok) ∧ Ext w w' := by
 have hX : Ext w (w.alloc (.cells #[.int .i64 s.idx, .int .i64 s.term, .int .i64 s.sum, .int .i64 s.lvl, .bool s.fin] 24)) := Ext.alloc (Ext.refl _) _
 have hb := Blk.new w 24 #[.int .i64 s.idx, .int .i64 s.term, .int .i64 s.sum, .int .i64 s.lvl, .bool s.fin]
 by_cases h0 : s.idx = 0
 ·have e0 : (s.idx == 0) = true := by rw [h0]; rfl
  have heq := staEq_run s ⟨0, 0, 0, 1, false⟩
  have hgd := staGuard
  have hok : s.ok = staEq s ⟨0, 0, 0, 1, false⟩ := by
   unfold Sta.ok staEq
   rw [if_pos h0, h0]
   rw [Bool.eq_iff_iff]
   simp [and_assoc]
  have Hok := Lib.hid hok
  clear hok h0
  dsimp only at heq
  go_enter Tryz.func85, Tryz.ntmps85
  go_wp2_with fail
  go_region_held3 (fun w' => w'.cell? ⟨w.heap.size, 0, none⟩ = some (.int .i64 s.idx) ∧ w'.cell? ⟨w.heap.size, 1, none⟩ = some (.int .i64 s.term) ∧ w'.cell? ⟨w.heap.size, 2, none⟩ = some (.int .i64 s.sum) ∧ w'.cell? ⟨w.heap.size, 3, none⟩ = some (.int .i64 s.lvl) ∧ w'.cell? ⟨w.heap.size, 4, none⟩ = some (.bool s.fin)) (first | go_keep | (refine ⟨?_, ?_, ?_, ?_, ?_⟩ <;> assumption))
   (first | (go_at_call 103; refine (First_any _).mono ?_; rintro e w1 ⟨rfl, hE1⟩; have hE' : Ext (w.alloc (.cells #[.int .i64 s.idx, .int .i64 s.term, .int .i64 s.sum, .int .i64 s.lvl, .bool s.fin] 24)) w1 := Ext.trans (Ext.drew (Ext.refl _)) hE1; obtain ⟨g0, g1, g2, g3, g4⟩ := blk5 (hb.ext hE')))
  go_wp2_with fail
  go_ret
  exact ⟨by rw [Hok.out]; rfl, Ext.trans hX hE'⟩
 ·have e0 : (s.idx == 0) = false := by rw [beq_eq_false_iff_ne]; exact h0
  cases hf : s.fin with
  | true =>
   have hok : s.ok = ((s.lvl == 2) && numB s.idx && decide (0 < s.term) && numB s.term && numB s.sum) := by
    unfold Sta.ok
    rw [if_neg h0, if_pos hf]
    congr 4
   have Hok := Lib.hid hok
   clear hok h0
   go_enter Tryz.func85, Tryz.ntmps85
   go_wp2_with (go_at_call 104; refine (number_any _ _).mono ?_; rintro e w1 ⟨rfl, rfl⟩)
   all_goals
    go_ret
    refine ⟨ret_bool ?_, Ext.alloc (Ext.refl _) _⟩
    rw [Hok.out]
    simp_all
    try (intro h; omega)
  | false =>
   have hok : s.ok = (decide (s.lvl = 1 ∨ s.lvl = 2) && numB s.idx && decide (0 < s.term) && numB s.term && numB s.sum) := by
    unfold Sta.ok
    rw [if_neg h0, if_neg (by rw [hf]; simp)]
   have Hok := Lib.hid hok
   clear hok h0
   go_enter Tryz.func85, Tryz.ntmps85
   go_wp2_with (go_at_call 104; refine (number_any _ _).mono ?_; rintro e w1 ⟨rfl, rfl⟩)
   all_goals
    go_ret
    refine ⟨ret_bool ?_, Ext.alloc (Ext.refl _) _⟩
    rw [Hok.out]
    simp_all
    try (intro h; omega)
def fine6 (s : Sta) : Bool := numB s.idx && numB s.term && numB s.sum && ((s.term == 0) == (s.idx == 0)) && (s.lvl == 1 || s.lvl == 2) && (!s.fin || s.lvl == 2) && (decide (0 < s.idx) || staEq s ⟨0, 0, 0, 1, false⟩)
theorem fine6_ok (s : Sta) : fine6 s = s.ok := by
 obtain ⟨i, t, u, l, b⟩ := s
 unfold fine6 Sta.ok staEq
 dsimp only
 by_cases hi : i = 0
 ·subst hi
  rw [if_pos rfl, Bool.eq_iff_iff]
  simp only [Bool.and_eq_true, Bool.or_eq_true, beq_iff_eq, decide_eq_true_eq, Bool.not_eq_true', numB]
  constructor
  ·rintro ⟨_, h⟩
   rcases h with h | ⟨⟨⟨⟨_, h1⟩, h2⟩, h3⟩, h4⟩
   ·omega
   ·exact ⟨h1, h2, h3, h4⟩
  ·rintro ⟨rfl, rfl, rfl, rfl⟩
   simp
 ·rw [if_neg hi]
  have e1 : (i == 0) = false := by simpa using hi
  have hip : numB i = true → decide (0 < i) = true := fun h => decide_eq_true (by have := numB_true.1 h; omega)
  cases hn : numB i with
  | false => simp
  | true =>
   cases ht : numB t with
   | false => simp
   | true =>
    have h0 := numB_true.1 ht
    by_cases t0 : t = 0
    ·subst t0
     simp [e1]
    ·have e2 : (t == 0) = false := by simpa using t0
     have e3 : decide (0 < t) = true := decide_eq_true (by omega)
     rw [e1, e2, e3, hip hn]
     cases hu : numB u with
     | false => simp
     | true =>
      cases b
      ·simp
       rw [Bool.eq_iff_iff]
       simp
      ·by_cases l2 : l = 2
       ·simp [l2]
       ·simp [l2]
theorem Fine6_raw (i t u l : Int) (b : Bool) (w : World) : Calls Tryz.prog 42 #[.agg #[.int .i64 i, .int .i64 t, .int .i64 u, .int .i64 l, .bool b]] w fun e w' => e = .returned (.bool (fine6 ⟨i, t, u, l, b⟩)) ∧ Ext w w' := by
 have hX : Ext w (w.alloc (.cells #[.int .i64 i, .int .i64 t, .int .i64 u, .int .i64 l, .bool b] 24)) := Ext.alloc (Ext.refl _) _
 have hb := Blk.new w 24 #[.int .i64 i, .int .i64 t, .int .i64 u, .int .i64 l, .bool b]
 have Hf : Hid (fine6 ⟨i, t, u, l, b⟩ = (numB i && numB t && numB u && ((t == 0) == (i == 0)) && (l == 1 || l == 2) && (!b || l == 2) && (decide (0 < i) || staEq ⟨i, t, u, l, b⟩ ⟨0, 0, 0, 1, false⟩))) := rfl
 have heq := staEq_run ⟨i, t, u, l, b⟩ ⟨0, 0, 0, 1, false⟩
 have hgd := staGuard
 dsimp only at heq
 go_enter Tryz.func42, Tryz.ntmps42
 go_wp2_with (go_at_call 65; refine (number6_any _ _).mono ?_; rintro e w1 ⟨rfl, rfl⟩)
 all_goals try (go_ret; refine ⟨ret_bool ?_, Ext.alloc (Ext.refl _) _⟩; rw [Hf.out]; simp_all; done)
 ·subst l
  obtain rfl : b = false := by simp_all
  by_cases hi : 0 < i
  ·skip
   refine wp_region_held_drew (S := (fun w' => w'.cell? ⟨w.heap.size, 0, none⟩ = some (.int .i64 i) ∧ w'.cell? ⟨w.heap.size, 1, none⟩ = some (.int .i64 t) ∧ w'.cell? ⟨w.heap.size, 2, none⟩ = some (.int .i64 u) ∧ w'.cell? ⟨w.heap.size, 3, none⟩ = some (.int .i64 1) ∧ w'.cell? ⟨w.heap.size, 4, none⟩ = some (.bool false))) (by kernel_rfl) (blk5 (hb.ext (Ext.drew (Ext.refl _)))) (fun hHeld => ?_)
   refine tkL 0 rfl ?_
   try simp only [Act.put, sA, sZ, sS]
   refine tkL 1 rfl ?_
   try simp only [Act.put, sA, sZ, sS]
   refine tkL 2 rfl ?_
   try simp only [Act.put, sA, sZ, sS]
   refine tkL 3 rfl ?_
   try simp only [Act.put, sA, sZ, sS]
   refine wpAnyH_skipL (i := 4) rfl (by kernel_rfl) (by kernel_rfl) (by kernel_rfl) (fun _ _ _ h => h) (by rfl) (by assumption) ?_
   try simp only [Act.put, sA, sZ, sS]
   refine wpAnyH_skipL (i := 5) rfl (by kernel_rfl) (by kernel_rfl) (by kernel_rfl) (fun _ _ _ h => h) (by rfl) (by assumption) ?_
   try simp only [Act.put, sA, sZ, sS]
   refine wpAnyH_skipL (i := 6) rfl (by kernel_rfl) (by kernel_rfl) (by kernel_rfl) (fun _ _ _ h => h) (by rfl) (by assumption) ?_
   try simp only [Act.put, sA, sZ, sS]
   refine tkL 7 rfl ?_
   try simp only [Act.put, sA, sZ, sS]
   refine tkL 8 rfl ?_
   try simp only [Act.put, sA, sZ, sS]
   refine wpAnyH_done (by kernel_rfl) ?_ _
   go_wp2_with fail
   go_ret
   refine ⟨ret_bool ?_, Ext.trans hX (Ext.drew (Ext.refl _))⟩
   rw [Hf.out]
   simp_all
   try (intro h; omega)
  ·skip
   refine wp_region_held_drew (S := (fun w' => w'.cell? ⟨w.heap.size, 0, none⟩ = some (.int .i64 i) ∧ w'.cell? ⟨w.heap.size, 1, none⟩ = some (.int .i64 t) ∧ w'.cell? ⟨w.heap.size, 2, none⟩ = some (.int .i64 u) ∧ w'.cell? ⟨w.heap.size, 3, none⟩ = some (.int .i64 1) ∧ w'.cell? ⟨w.heap.size, 4, none⟩ = some (.bool false))) (by kernel_rfl) (blk5 (hb.ext (Ext.drew (Ext.refl _)))) (fun hHeld => ?_)
   refine tkL 0 rfl ?_
   try simp only [Act.put, sA, sZ, sS]
   refine tkL 1 rfl ?_
   try simp only [Act.put, sA, sZ, sS]
   refine tkL 2 rfl ?_
   try simp only [Act.put, sA, sZ, sS]
   refine tkL 3 rfl ?_
   try simp only [Act.put, sA, sZ, sS]
   refine tkL 4 rfl ?_
   try simp only [Act.put, sA, sZ, sS]
   refine AllReadyH.one (i := 5) rfl (by kernel_rfl) (by rfl) (fun K hK => ?_)
   go_simp
   refine (First6_any _).mono ?_
   rintro e w1 ⟨rfl, hE1⟩
   have hE' : Ext (w.alloc (.cells #[.int .i64 i, .int .i64 t, .int .i64 u, .int .i64 1, .bool false] 24)) w1 := Ext.trans (Ext.drew (Ext.refl _)) hE1
   try (go_wp2_with fail)
   refine hK.out _ _ (blk5 (hb.ext hE')) (fun hHeld => ?_)
   clear hK K
   try simp only [Act.put, sA, sZ, sS]
   refine tkL 6 rfl ?_
   try simp only [Act.put, sA, sZ, sS]
   refine tkL 7 rfl ?_
   try simp only [Act.put, sA, sZ, sS]
   refine tkL 8 rfl ?_
   try simp only [Act.put, sA, sZ, sS]
   refine wpAnyH_done (by kernel_rfl) ?_ _
   go_wp2_with fail
   go_ret
   refine ⟨ret_bool ?_, Ext.trans hX hE'⟩
   rw [Hf.out]
   simp_all
   try (intro h; omega)
 ·try subst l
  try subst b
  by_cases hi : 0 < i
  ·skip
   refine wp_region_held_drew (S := (fun w' => w'.cell? ⟨w.heap.size, 0, none⟩ = some (.int .i64 i) ∧ w'.cell? ⟨w.heap.size, 1, none⟩ = some (.int .i64 t) ∧ w'.cell? ⟨w.heap.size, 2, none⟩ = some (.int .i64 u) ∧ w'.cell? ⟨w.heap.size, 3, none⟩ = some (.int .i64 2) ∧ w'.cell? ⟨w.heap.size, 4, none⟩ = some (.bool true))) (by kernel_rfl) (blk5 (hb.ext (Ext.drew (Ext.refl _)))) (fun hHeld => ?_)
   refine tkL 0 rfl ?_
   try simp only [Act.put, sA, sZ, sS]
   refine tkL 1 rfl ?_
   try simp only [Act.put, sA, sZ, sS]
   refine tkL 2 rfl ?_
   try simp only [Act.put, sA, sZ, sS]
   refine tkL 3 rfl ?_
   try simp only [Act.put, sA, sZ, sS]
   refine wpAnyH_skipL (i := 4) rfl (by kernel_rfl) (by kernel_rfl) (by kernel_rfl) (fun _ _ _ h => h) (by rfl) (by assumption) ?_
   try simp only [Act.put, sA, sZ, sS]
   refine wpAnyH_skipL (i := 5) rfl (by kernel_rfl) (by kernel_rfl) (by kernel_rfl) (fun _ _ _ h => h) (by rfl) (by assumption) ?_
   try simp only [Act.put, sA, sZ, sS]
   refine wpAnyH_skipL (i := 6) rfl (by kernel_rfl) (by kernel_rfl) (by kernel_rfl) (fun _ _ _ h => h) (by rfl) (by assumption) ?_
   try simp only [Act.put, sA, sZ, sS]
   refine tkL 7 rfl ?_
   try simp only [Act.put, sA, sZ, sS]
   refine tkL 8 rfl ?_
   try simp only [Act.put, sA, sZ, sS]
   refine wpAnyH_done (by kernel_rfl) ?_ _
   go_wp2_with fail
   go_ret
   refine ⟨ret_bool ?_, Ext.trans hX (Ext.drew (Ext.refl _))⟩
   rw [Hf.out]
   simp_all
   try (intro h; omega)
  ·skip
   refine wp_region_held_drew (S := (fun w' => w'.cell? ⟨w.heap.size, 0, none⟩ = some (.int .i64 i) ∧ w'.cell? ⟨w.heap.size, 1, none⟩ = some (.int .i64 t) ∧ w'.cell? ⟨w.heap.size, 2, none⟩ = some (.int .i64 u) ∧ w'.cell? ⟨w.heap.size, 3, none⟩ = some (.int .i64 2) ∧ w'.cell? ⟨w.heap.size, 4, none⟩ = some (.bool true))) (by kernel_rfl) (blk5 (hb.ext (Ext.drew (Ext.refl _)))) (fun hHeld => ?_)
   refine tkL 0 rfl ?_
   try simp only [Act.put, sA, sZ, sS]
   refine tkL 1 rfl ?_
   try simp only [Act.put, sA, sZ, sS]
   refine tkL 2 rfl ?_
   try simp only [Act.put, sA, sZ, sS]
   refine tkL 3 rfl ?_
   try simp only [Act.put, sA, sZ, sS]
   refine tkL 4 rfl ?_
   try simp only [Act.put, sA, sZ, sS]
   refine AllReadyH.one (i := 5) rfl (by kernel_rfl) (by rfl) (fun K hK => ?_)
   go_simp
   refine (First6_any _).mono ?_
   rintro e w1 ⟨rfl, hE1⟩
   have hE' : Ext (w.alloc (.cells #[.int .i64 i, .int .i64 t, .int .i64 u, .int .i64 2, .bool true] 24)) w1 := Ext.trans (Ext.drew (Ext.refl _)) hE1
   try (go_wp2_with fail)
   refine hK.out _ _ (blk5 (hb.ext hE')) (fun hHeld => ?_)
   clear hK K
   try simp only [Act.put, sA, sZ, sS]
   refine tkL 6 rfl ?_
   try simp only [Act.put, sA, sZ, sS]
   refine tkL 7 rfl ?_
   try simp only [Act.put, sA, sZ, sS]
   refine tkL 8 rfl ?_
   try simp only [Act.put, sA, sZ, sS]
   refine wpAnyH_done (by kernel_rfl) ?_ _
   go_wp2_with fail
   go_ret
   refine ⟨ret_bool ?_, Ext.trans hX hE'⟩
   rw [Hf.out]
   simp_all
   try (intro h; omega)
 ·subst l
  obtain rfl : b = false := by simp_all
  by_cases hi : 0 < i
  ·skip
   refine wp_region_held_drew (S := (fun w' => w'.cell? ⟨w.heap.size, 0, none⟩ = some (.int .i64 i) ∧ w'.cell? ⟨w.heap.size, 1, none⟩ = some (.int .i64 t) ∧ w'.cell? ⟨w.heap.size, 2, none⟩ = some (.int .i64 u) ∧ w'.cell? ⟨w.heap.size, 3, none⟩ = some (.int .i64 2) ∧ w'.cell? ⟨w.heap.size, 4, none⟩ = some (.bool false))) (by kernel_rfl) (blk5 (hb.ext (Ext.drew (Ext.refl _)))) (fun hHeld => ?_)
   refine tkL 0 rfl ?_
   try simp only [Act.put, sA, sZ, sS]
   refine tkL 1 rfl ?_
   try simp only [Act.put, sA, sZ, sS]
   refine tkL 2 rfl ?_
   try simp only [Act.put, sA, sZ, sS]
   refine tkL 3 rfl ?_
   try simp only [Act.put, sA, sZ, sS]
   refine wpAnyH_skipL (i := 4) rfl (by kernel_rfl) (by kernel_rfl) (by kernel_rfl) (fun _ _ _ h => h) (by rfl) (by assumption) ?_
   try simp only [Act.put, sA, sZ, sS]
   refine wpAnyH_skipL (i := 5) rfl (by kernel_rfl) (by kernel_rfl) (by kernel_rfl) (fun _ _ _ h => h) (by rfl) (by assumption) ?_
   try simp only [Act.put, sA, sZ, sS]
   refine wpAnyH_skipL (i := 6) rfl (by kernel_rfl) (by kernel_rfl) (by kernel_rfl) (fun _ _ _ h => h) (by rfl) (by assumption) ?_
   try simp only [Act.put, sA, sZ, sS]
   refine tkL 7 rfl ?_
   try simp only [Act.put, sA, sZ, sS]
   refine tkL 8 rfl ?_
   try simp only [Act.put, sA, sZ, sS]
   refine wpAnyH_done (by kernel_rfl) ?_ _
   go_wp2_with fail
   go_ret
   refine ⟨ret_bool ?_, Ext.trans hX (Ext.drew (Ext.refl _))⟩
   rw [Hf.out]
   simp_all
   try (intro h; omega)
  ·skip
   refine wp_region_held_drew (S := (fun w' => w'.cell? ⟨w.heap.size, 0, none⟩ = some (.int .i64 i) ∧ w'.cell? ⟨w.heap.size, 1, none⟩ = some (.int .i64 t) ∧ w'.cell? ⟨w.heap.size, 2, none⟩ = some (.int .i64 u) ∧ w'.cell? ⟨w.heap.size, 3, none⟩ = some (.int .i64 2) ∧ w'.cell? ⟨w.heap.size, 4, none⟩ = some (.bool false))) (by kernel_rfl) (blk5 (hb.ext (Ext.drew (Ext.refl _)))) (fun hHeld => ?_)
   refine tkL 0 rfl ?_
   try simp only [Act.put, sA, sZ, sS]
   refine tkL 1 rfl ?_
   try simp only [Act.put, sA, sZ, sS]
   refine tkL 2 rfl ?_
   try simp only [Act.put, sA, sZ, sS]
   refine tkL 3 rfl ?_
   try simp only [Act.put, sA, sZ, sS]
   refine tkL 4 rfl ?_
   try simp only [Act.put, sA, sZ, sS]
   refine AllReadyH.one (i := 5) rfl (by kernel_rfl) (by rfl) (fun K hK => ?_)
   go_simp
   refine (First6_any _).mono ?_
   rintro e w1 ⟨rfl, hE1⟩
   have hE' : Ext (w.alloc (.cells #[.int .i64 i, .int .i64 t, .int .i64 u, .int .i64 2, .bool false] 24)) w1 := Ext.trans (Ext.drew (Ext.refl _)) hE1
   try (go_wp2_with fail)
   refine hK.out _ _ (blk5 (hb.ext hE')) (fun hHeld => ?_)
   clear hK K
   try simp only [Act.put, sA, sZ, sS]
   refine tkL 6 rfl ?_
   try simp only [Act.put, sA, sZ, sS]
   refine tkL 7 rfl ?_
   try simp only [Act.put, sA, sZ, sS]
   refine tkL 8 rfl ?_
   try simp only [Act.put, sA, sZ, sS]
   refine wpAnyH_done (by kernel_rfl) ?_ _
   go_wp2_with fail
   go_ret
   refine ⟨ret_bool ?_, Ext.trans hX hE'⟩
   rw [Hf.out]
   simp_all
   try (intro h; omega)
theorem Fine6_any (s : Sta) (w : World) : Calls Tryz.prog 42 #[.agg #[.int .i64 s.idx, .int .i64 s.term, .int .i64 s.sum, .int .i64 s.lvl, .bool s.fin]] w fun e w' => e = .returned (.bool s.ok) ∧ Ext w w' := by
 rw [← fine6_ok s]
 exact Fine6_raw s.idx s.term s.sum s.lvl s.fin w
end Go.Proofs.YtmecffckghkahaaGreatDoor

namespace Go.Mv
open Go.RowKit
section
variable {F : Fence} {n : Nat} {P : Program} {ops : Array Oper} {Q : Exit → Act → World → Prop} {md : Region.Mode}
theorem wpAnyIn_upon {i : Nat} {o : Oper} {fuel : Nat} {listed : Array Bool} {a : Act} {w : World} (hro : F.round = none) (hr : Region.ready md ops listed = [i]) (hi0 : ops.toList[i]? = some o) (hg : o.guard = none)
  (hab : ∀ f, o.about P w a.eval = some f → F.fn f) (h : o.uponIn F n P a (fun a' w' => wpAnyIn F n P md ops Q fuel (listed.setIfInBounds i true) a' w') Q ((execOp a.eval o).run P w)) : wpAnyIn F n P md ops Q (fuel + 1) listed a w := by
 have hi := opAt hi0
 refine wpAnyIn_all hr (by simp) (fun j hj => ?_)
 have e : j = i := by simpa using hj
 subst e
 unfold wpOpIn
 have hw : Region.wanted o (yielded ops a.tmps) = true := by simp [Region.wanted, hg]
 simp only [hi, hw, if_true, Oper.wpIn, hro, Oper.semAt_none]
 exact ⟨hab, h⟩
theorem wpAnyIn_vc {i j : Nat} {oi oj : Oper} {vi : Value} {f : FuncId} {args : Array Value} {fuel : Nat} {listed : Array Bool} {a : Act} {w wi wj : World} (hr : Region.ready md ops listed = [i, j]) (hi0 : ops.toList[i]? = some oi) (hj0 : ops.toList[j]? = some oj) (gi : oi.guard = none) (gj : oj.guard = none)
  (abi : oi.about P w a.eval = none) (runi : (execOp a.eval oi).run P w = .ok (.value vi) wi) (runj : (execOp a.eval oj).run P w = .ok (.enter f args) wj)
  (h1 : wpAnyIn (Wd none) n P md ops Q fuel (listed.setIfInBounds i true) (a.put oi.dst vi) wi)
  (h2 : Calls P f args wj fun e w2 => ∃ v, e = .returned v ∧ wpAnyIn (Wd none) n P md ops Q fuel (listed.setIfInBounds j true) (a.put oj.dst v) w2) : wpAnyIn (Wd none) n P md ops Q (fuel + 1) listed a w := by
 have hi := opAt hi0
 have hj := opAt hj0
 refine wpAnyIn_all hr (by simp) (fun k hk => ?_)
 have abi' : ∀ f, oi.about P w a.eval = some f → (Wd none).fn f := fun f hf => by rw [abi] at hf; cases hf
 have wi' : Region.wanted oi (yielded ops a.tmps) = true := by simp [Region.wanted, gi]
 have wj' : Region.wanted oj (yielded ops a.tmps) = true := by simp [Region.wanted, gj]
 rcases (by simpa using hk : k = i ∨ k = j) with rfl | rfl
 ·unfold wpOpIn
  simp only [hi, wi', if_true, Oper.wpIn, Oper.semAt_none, runi, Oper.uponIn]
  exact ⟨abi', h1⟩
 ·unfold wpOpIn
  simp only [hj, wj', if_true, Oper.wpIn, Oper.semAt_none, runj, Oper.uponIn]
  refine ⟨fun _ _ => trivial, fun h => by simp [Fence.wide] at h, (callsIn_wd.2 h2).mono ?_⟩
  rintro e w2 ⟨v, rfl, h⟩
  exact h
end
end Go.Mv

namespace Go.Proofs.YtmecffckghkahaaGreatDoor
open Go.RowKit Go.Mv Go.Shelf
attribute [local go_sem] Oper.semAt_some run_store_c128
set_option maxRecDepth 100000
def ptsP (z : Nat × Nat) (ps : List (List UInt8)) : Nat × Nat := ps.foldl chainP z
def pieceL (z : Nat × Nat) : List (List UInt8) → List (List UInt8 × (Nat × Nat))
 | [] => []
 | p :: ps => (p, chainP z p) :: pieceL (chainP z p) ps
def pieceB (x : List UInt8 × (Nat × Nat)) : List UInt8 := x.1 ++ fourB x.2
theorem ptsP_snoc (z : Nat × Nat) (ps : List (List UInt8)) (p : List UInt8) : ptsP z (ps ++ [p]) = chainP (ptsP z ps) p := by unfold ptsP; rw [List.foldl_append]; rfl
theorem pieceL_app (a b : List (List UInt8)) : ∀ (z : Nat × Nat), pieceL z (a ++ b) = pieceL z a ++ pieceL (ptsP z a) b := by
 induction a with
 | nil => intro z; rfl
 | cons x a ih => intro z; rw [List.cons_append, pieceL, ih, pieceL]; rfl
theorem pieceL_flat (z : Nat × Nat) (t : List UInt8) : (pieceL z (chunkL 4 t)).flatMap pieceB = piecesS z t := by
 generalize hn : t.length = n
 induction n using Nat.strongRecOn generalizing z t with
 | _ n ih =>
  rcases Nat.eq_zero_or_pos t.length with h | h
  ·have : t = [] := List.eq_nil_of_length_eq_zero h
   subst this; rw [chunkL_nil, piecesS_nil]; rfl
  ·rw [chunkL_cons 4 t (by decide) h, pieceL, List.flatMap_cons, ih (t.drop 4).length (by rw [List.length_drop]; omega) _ (t.drop 4) rfl, piecesS_cons z t h]
   unfold pieceB
   rw [List.append_assoc]
def PcK (bo : Nat) (k : Nat) (o : Obj) : Prop := o.isCells = true ∧ k ≠ bo
def PcM (n0 : Nat) (k : Nat) (o : Obj) : Prop := n0 ≤ k ∧ o.ty = some 162
def PcI (wo : World) (N l : Nat) (z : Nat × Nat) (J : List (List UInt8 × (Nat × Nat)) → World → Prop) (ps : List (List UInt8)) (W : World) : Prop :=
 ∃ zv, J (pieceL z ps) W ∧ Boxed W (N + 1) 162 zv ∧ PtV zv (ptsP z ps) ∧ Boxed W N 200 (.func (.yield l) #[] #[]) ∧ Hold wo W ∧ N ≤ W.heap.size
theorem pieces1_seq (wo W0 : World) (v : Value) (t : List UInt8) (ht : Bs wo v t) (hlen : t.length ≤ 2000000) (hH : Hold wo W0) (bt bo n0 : Nat) (hB1 : Boxed W0 bt 43 v) (hn0 : n0 ≤ W0.heap.size) (hn1 : wo.heap.size ≤ n0) (hbo : wo.heap.size ≤ bo) (hbo2 : bo < W0.heap.size) :
  Seq Tryz.prog 143 #[.pointer (some ⟨bt, 0, none⟩)]
   (fun (x : List UInt8 × (Nat × Nat)) av W => ∃ u, av = #[u, .agg ((fourB x.2).map bv).toArray] ∧ Bs W u x.1 ∧ x.1.length ≤ 4) (PcK bo) (PcM n0) (pieceL (0, 0) (chunkL 4 t)) W0 := by
 intro l J Jx hJ hJx hY h0
 obtain ⟨A, c, rfl, h1, h2⟩ := SlR.open_ ht
 have c1 := hB1.cell
 have hbtlt : bt < W0.heap.size := World.block_lt_of_cell? W0 _ c1
 refine (callsIn_wd (ro := none) (n := 9)).1 ?_
 refine callsIn_of_wp_marks Tryz.func143 rfl trivial ?_ rfl
 simp only [Tryz.ntmps143, List.size_toArray, List.length_cons, List.length_nil, Nat.reduceAdd, Nat.reduceSub, Array.replicate_succ, Array.replicate_zero, List.push_toArray, List.append_toArray, List.nil_append, List.cons_append]
 gi_wp2_with (refine ⟨trivial, ?_⟩; gi_at_call 101; refine (callsIn_wd.2 (ChunkB_any _ _ _ 4 (by decide) _)).mono ?_; rintro e w' ⟨rfl, rfl⟩)
 have q0 : Boxed ((((W0.alloc (.cells #[.func (.yield l) #[] #[]] 200)).alloc (.cells #[.complex .f64 0 0] 162)).alloc (.cells #[.slice A t.length c] 43)).alloc (.cells #[.int .i64 4] 3)) W0.heap.size 200 (.func (.yield l) #[] #[]) := (((Boxed.new W0 _ _).alloc _).alloc _).alloc _
 have qz : Boxed ((((W0.alloc (.cells #[.func (.yield l) #[] #[]] 200)).alloc (.cells #[.complex .f64 0 0] 162)).alloc (.cells #[.slice A t.length c] 43)).alloc (.cells #[.int .i64 4] 3)) (W0.heap.size + 1) 162 (.complex .f64 0 0) := by
  have := Boxed.new (W0.alloc (.cells #[.func (.yield l) #[] #[]] 200)) 162 (.complex .f64 0 0)
  rw [World.size_alloc] at this
  exact (this.alloc _).alloc _
 have q1 : Boxed ((((W0.alloc (.cells #[.func (.yield l) #[] #[]] 200)).alloc (.cells #[.complex .f64 0 0] 162)).alloc (.cells #[.slice A t.length c] 43)).alloc (.cells #[.int .i64 4] 3)) (W0.heap.size + 1 + 1) 43 (.slice A t.length c) := by
  have := Boxed.new ((W0.alloc (.cells #[.func (.yield l) #[] #[]] 200)).alloc (.cells #[.complex .f64 0 0] 162)) 43 (.slice A t.length c)
  rw [World.size_alloc, World.size_alloc] at this
  exact this.alloc _
 have q2 : Boxed ((((W0.alloc (.cells #[.func (.yield l) #[] #[]] 200)).alloc (.cells #[.complex .f64 0 0] 162)).alloc (.cells #[.slice A t.length c] 43)).alloc (.cells #[.int .i64 4] 3)) (W0.heap.size + 1 + 1 + 1) 3 (.int .i64 4) := by
  have := Boxed.new (((W0.alloc (.cells #[.func (.yield l) #[] #[]] 200)).alloc (.cells #[.complex .f64 0 0] 162)).alloc (.cells #[.slice A t.length c] 43)) 3 (.int .i64 4)
  rwa [World.size_alloc, World.size_alloc, World.size_alloc] at this
 have hE2 : Ext W0 ((((W0.alloc (.cells #[.func (.yield l) #[] #[]] 200)).alloc (.cells #[.complex .f64 0 0] 162)).alloc (.cells #[.slice A t.length c] 43)).alloc (.cells #[.int .i64 4] 3)) := Ext.alloc (Ext.alloc (Ext.alloc (Ext.alloc (Ext.refl _) _) _) _) _
 have hm2 : Moves (orOther (PcM n0) W0.heap.size) W0 ((((W0.alloc (.cells #[.func (.yield l) #[] #[]] 200)).alloc (.cells #[.complex .f64 0 0] 162)).alloc (.cells #[.slice A t.length c] 43)).alloc (.cells #[.int .i64 4] 3)) := (((Moves.refl.alloc _).alloc _).alloc _).alloc _
 have hs2 : ((((W0.alloc (.cells #[.func (.yield l) #[] #[]] 200)).alloc (.cells #[.complex .f64 0 0] 162)).alloc (.cells #[.slice A t.length c] 43)).alloc (.cells #[.int .i64 4] 3)).heap.size = W0.heap.size + 4 := by simp
 have hJ0 := hJ _ _ _ h0 hm2
 generalize ((((W0.alloc (.cells #[.func (.yield l) #[] #[]] 200)).alloc (.cells #[.complex .f64 0 0] 162)).alloc (.cells #[.slice A t.length c] 43)).alloc (.cells #[.int .i64 4] 3)) = w2 at *
 have hH2 : Hold wo w2 := fun q u hq => Ext.cell hE2 (hH q u hq)
 refine wp_range (a := ⟨_, _⟩) rfl (enters_of Tryz.func124 (by kernel_rfl) rfl)
  (fun W1 hb _ => chunkB_seq 4 (by decide) (by decide) wo W1 _ t ht hlen (W0.heap.size + 1 + 1) (W0.heap.size + 1 + 1 + 1) (q1.kept (row := none) (Ext.grown hb none) (by simp)) (q2.kept (row := none) (Ext.grown hb none) (by simp)))
  (fun k o h => h.elim) (fun k o h => by rcases h with h | h <;> exact isCells_of_ty h.2) (fun x av W h => by obtain ⟨_, _, rfl, _⟩ := h; rfl)
  (PcI wo W0.heap.size l (0, 0) J) (fun cd ps W => cd = Code.ret ∧ Jx (pieceL (0, 0) ps) W) ?hI ?hIx ⟨_, hJ0, qz, PtV.zero, q0, hH2, by omega⟩
  (fun x a' _ => ∃ b' off', Bs wo (.slice (some ⟨b', off', none⟩) x.length x.length) x ∧ x.length ≤ 4 ∧ a' = ⟨#[.func (.yield l) #[] #[], .pointer (some ⟨bt, 0, none⟩), .pointer (some ⟨W0.heap.size, 0, none⟩), .pointer (some ⟨W0.heap.size + 1, 0, none⟩), .slice (some ⟨b', off', none⟩) x.length x.length, .slice A t.length c, .func (.func 124) #[] #[.pointer (some ⟨W0.heap.size + 1 + 1, 0, none⟩), .pointer (some ⟨W0.heap.size + 1 + 1 + 1, 0, none⟩)], .slice (some ⟨b', off', none⟩) x.length x.length, undef, undef, undef, undef, undef, undef, undef, undef, undef, undef], []⟩)
  (fun _ _ _ _ h _ => h) ?assign ?body ?done ?stop
 case hI =>
  rintro cs X Y ⟨zv, hj, hb, hp, hy, hh, hs⟩ hm
  have hm' : Moves (orOther (PcM n0) W0.heap.size) X Y := hm.weaken (fun k o h => by rcases h with h | h; exact h.elim; exact .inr ⟨by omega, h.2⟩)
  refine ⟨zv, hJ _ _ _ hj hm', hm.boxed hb ?_, hp, hm.boxed hy ?_, hh.moves hm ?_, Nat.le_trans hs hm.size⟩
  ·rintro (h | h)
   ·exact h
   ·cases h.2
  ·rintro (h | h)
   ·exact h
   ·cases h.2
  ·rintro k o _ hc (h | h)
   ·exact h
   ·rw [hc] at h; cases h.2
 case hIx =>
  rintro cd cs X Y ⟨rfl, hj⟩ hm
  exact ⟨rfl, hJx _ _ _ hj (hm.weaken (fun k o h => by rcases h with h | h; exact h.elim; exact .inr ⟨by omega, h.2⟩))⟩
 case assign =>
  rintro l' pre x post W av K' hx hi hsz ⟨b', off', rfl, hu, _, hx4⟩ hK
  gi_wp2
  exact hK _ _ Kept.refl hi ⟨b', off', hu, hx4, rfl⟩
 case body =>
  rintro l' pre x post a' W hx hl' hr ⟨zv, hj, hb, hp, hy, hh, hs⟩ hsz ⟨b', off', hu, hx4, rfl⟩
  have hpt := hp.pt
  obtain ⟨z1, z2, rfl, hz1, hz2⟩ := hp
  have hux : Bs W (.slice (some ⟨b', off', none⟩) x.length x.length) x := SlR.keep hu hh
  have HUX := Lib.hid hux
  have cb := hb.cell
  have hbw : W0.heap.size + 1 < W.heap.size := World.block_lt_of_cell? W _ cb
  have HI := Lib.hid (show PcI wo W0.heap.size l (0, 0) J pre W from ⟨_, hj, hb, ⟨z1, z2, rfl, hz1, hz2⟩, hy, hh, hs⟩)
  have hparts := parts1 hux
  have HP := Lib.hid hparts
  clear hux hz1 hz2 hparts
  gi_wp2_with (refine ⟨trivial, ?_⟩; gi_at_call 144; refine (callsIn_wd.2 (Chain_any z1 z2 _ _ _ HP.out)).mono ?_; rintro e W2 ⟨vz2, rfl, hpz, hE⟩; rw [show [x].flatten = x from by simp, hpt] at hpz; have HPZ := Lib.hid hpz; have hptz := hpz.pt; obtain ⟨y1, y2, rfl, _, _⟩ := hpz; have hEW : Ext W W2 := Ext.trans (Ext.alloc (Ext.refl _) _) hE; have hb2 : Boxed W2 (W0.heap.size + 1) 162 (.complex .f64 z1 z2) := hb.kept (row := none) (Ext.grown hEW none) (by simp); have hy2 : Boxed W2 W0.heap.size 200 (.func (.yield l) #[] #[]) := hy.kept (row := none) (Ext.grown hEW none) (by simp); have cb2 := hb2.cell; have fb2 := hb2.frozen)
  have hb3 : Boxed (W2.setCell ⟨W0.heap.size + 1, 0, none⟩ (.complex .f64 y1 y2)) (W0.heap.size + 1) 162 (.complex .f64 y1 y2) := hb2.set _
  have hy3 : Boxed (W2.setCell ⟨W0.heap.size + 1, 0, none⟩ (.complex .f64 y1 y2)) W0.heap.size 200 (.func (.yield l) #[] #[]) := hy2.other (by omega) _
  have cz3 := hb3.cell
  have cy3 := hy3.cell
  have hmv : Moves (orOther (PcM n0) W0.heap.size) W (W2.setCell ⟨W0.heap.size + 1, 0, none⟩ (.complex .f64 y1 y2)) :=
   (Moves.refl.below hEW (Nat.le_refl _)).setCell (fun o ho _ => .inl ⟨by show n0 ≤ W0.heap.size + 1; omega, by rw [show W.heap[W0.heap.size + 1]? = _ from hb] at ho; cases ho; rfl⟩) _
  have k1 : Kept (orOther (fun k o => (k = W0.heap.size + 1 + 1 ∧ o.ty = some 43) ∨ (k = W0.heap.size + 1 + 1 + 1 ∧ o.ty = some 3)) w2.heap.size) W (W2.setCell ⟨W0.heap.size + 1, 0, none⟩ (.complex .f64 y1 y2)) :=
   (Kept.refl.below hEW (Nat.le_refl _)).setCell (fun o ho hc => by
    rintro ((⟨h, _⟩ | ⟨h, _⟩) | ⟨h, _⟩)
    ·have : W0.heap.size + 1 = W0.heap.size + 1 + 1 := h
     omega
    ·have : W0.heap.size + 1 = W0.heap.size + 1 + 1 + 1 := h
     omega
    ·have : w2.heap.size ≤ W0.heap.size + 1 := h
     omega) _
  have hh3 : Hold wo (W2.setCell ⟨W0.heap.size + 1, 0, none⟩ (.complex .f64 y1 y2)) := fun q u hq => by
   have hlt := World.block_lt_of_cell? wo q hq
   exact (World.cell?_setCell_other _ _ _ _ (fun e => by rw [← e] at hlt; have : W0.heap.size + 1 < wo.heap.size := hlt; omega)).trans (Ext.cell hEW (hh q u hq))
  have heq : pieceL (0, 0) (chunkL 4 t) = pieceL (0, 0) pre ++ (x, chainP (ptsP (0, 0) pre) x) :: pieceL (chainP (ptsP (0, 0) pre) x) post := by rw [hx, pieceL_app, pieceL]
  have hW3s : (W2.setCell ⟨W0.heap.size + 1, 0, none⟩ (.complex .f64 y1 y2)).heap.size = W2.heap.size := by simp [World.setCell]
  have fin : ∀ W5 : World, Ext (W2.setCell ⟨W0.heap.size + 1, 0, none⟩ (.complex .f64 y1 y2)) W5 → ∃ R : Ending → World → Prop, Mv.YieldsAt Tryz.prog l #[.slice (some ⟨b', off', none⟩) x.length x.length, .agg ((fourB (chainP (ptsP (0, 0) pre) x)).map bv).toArray] W5 R ∧ (∀ e W6, R e W6 → Kept (orOther (fun k o => (k = W0.heap.size + 1 + 1 ∧ o.ty = some 43) ∨ (k = W0.heap.size + 1 + 1 + 1 ∧ o.ty = some 3)) w2.heap.size) W W6 ∧
    ((e = .returned (.bool true) ∧ PcI wo W0.heap.size l (0, 0) J (pre ++ [x]) W6) ∨ (e = .returned (.bool false) ∧ Jx (pieceL (0, 0) (pre ++ [x])) W6))) := by
   intro W5 hE5
   have hJ5 := hJ _ _ _ hj (hmv.below hE5 (Nat.le_refl _))
   have hsz5 : W0.heap.size ≤ W5.heap.size := by have := hEW.size; have := hE5.size; omega
   have hh5 : Hold wo W5 := fun q u hq => Ext.cell hE5 (hh3 q u hq)
   have hb5 : Boxed W5 (W0.heap.size + 1) 162 (.complex .f64 y1 y2) := hb3.kept (row := none) (Ext.grown hE5 none) (by simp)
   have hy5 : Boxed W5 W0.heap.size 200 (.func (.yield l) #[] #[]) := hy3.kept (row := none) (Ext.grown hE5 none) (by simp)
   have hyy := hY _ _ _ heq W5 #[.slice (some ⟨b', off', none⟩) x.length x.length, .agg ((fourB (chainP (ptsP (0, 0) pre) x)).map bv).toArray] hJ5 hsz5 ⟨_, rfl, SlR.keep hu hh5, hx4⟩
   have k5 := k1.below hE5 (Nat.le_refl _)
   refine ⟨_, hyy, ?_⟩
   rintro e W6 ⟨hk', hjj⟩
   have k2 := k5.trans (hk'.mono (fun k o h => by
    rcases h with (⟨h, ht⟩ | ⟨h, ht⟩) | ⟨h, ht⟩
    ·exact .inl ⟨isCells_of_ty ht, by omega⟩
    ·exact .inl ⟨isCells_of_ty ht, by omega⟩
    ·exact .inr ⟨by omega, ht⟩))
   refine ⟨k2, ?_⟩
   rcases hjj with ⟨rfl, hj4⟩ | ⟨rfl, hj4⟩
   ·refine .inl ⟨rfl, (.complex .f64 y1 y2), by rw [pieceL_app]; exact hj4, hk'.boxed hb5 (.inl ⟨rfl, by omega⟩), by rw [ptsP_snoc]; exact HPZ.out, hk'.boxed hy5 (.inl ⟨rfl, by omega⟩), ?_, Nat.le_trans hsz5 hk'.size⟩
    intro q u hq
    have hlt := World.block_lt_of_cell? wo q hq
    obtain ⟨o, ho, hc⟩ := cells_of_cell (hh5 q u hq)
    exact hk'.cell (hh5 q u hq) (fun o' ho' => by rw [ho] at ho'; cases ho'; exact .inl ⟨hc, by omega⟩)
   ·exact .inr ⟨rfl, by rw [pieceL_app]; exact hj4⟩
  have Fin := Lib.hid fin
  have hf : ∀ Wx : World, Calls Tryz.prog 145 #[(.complex .f64 y1 y2)] Wx fun e w' => e = .returned (.agg ((fourB (chainP (ptsP (0, 0) pre) x)).map bv).toArray) ∧ Ext Wx w' := by
   intro Wx
   have := Four_any y1 y2 Wx
   unfold FourP at this
   rw [hptz] at this
   exact this
  have HF := Lib.hid hf
  have hE33 : Ext (W2.setCell ⟨W0.heap.size + 1, 0, none⟩ (.complex .f64 y1 y2)) (W2.setCell ⟨W0.heap.size + 1, 0, none⟩ (.complex .f64 y1 y2)).drew := Ext.drew (Ext.refl _)
  clear fin hf k1 hmv heq hx hJ hY
  refine wpIn_region_round (by kernel_rfl) (by kernel_rfl) ?_
  refine tkF 1 rfl rfl rfl ?_
  refine wpAnyIn_takeC (Read4 (⟨W0.heap.size + 1, 0, none⟩, .complex .f64 y1 y2) (⟨W0.heap.size + 1, 0, none⟩, .complex .f64 y1 y2) (⟨W0.heap.size, 0, none⟩, .func (.yield l) #[] #[]) (⟨W0.heap.size, 0, none⟩, .func (.yield l) #[] #[])) [3, 4, 5] (i := 2) (v := ?v2) rfl rfl (by kernel_rfl) (by kernel_rfl) (by kernel_rfl) (by kernel_rfl) (by kernel_rfl) (fun _ _ _ h => h) (fun w o hw => hw.alloc o) (⟨cz3, cz3, cy3, cy3⟩) (yieldsC rfl (fun w hw => ?h2) (fun w => rfl)) ?r2
  case h2 => obtain ⟨g0, g1, g2, g3⟩ := hw; dsimp only at g0 g1 g2 g3; go_simp; try with_reducible rfl
  refine wpAnyIn_vc (i := 0) (j := 3) (vi := ?va3) (f := 145) (args := ?vb3) (wi := ?wa3) (wj := ?wb3) (by kernel_rfl) rfl rfl rfl rfl rfl ?ha3 ?hb3 ?ra3 ?rb3
  case ha3 => go_simp; try (first | with_reducible rfl | (refine ⟨?_, ?_⟩ <;> with_reducible rfl))
  case hb3 => go_simp; try (first | with_reducible rfl | (refine ⟨?_, ?_⟩ <;> with_reducible rfl))
  case' ra3 => skip
  case' rb3 => skip
  ·refine (HF.out _).mono ?_
   rintro e W5 ⟨rfl, hE5⟩
   have hE35 := Ext.trans hE33 hE5
   have cy5 := hE35.cell cy3
   refine ⟨_, rfl, ?_⟩
   refine wpAnyIn_run (i := 0) (v := ?v4) (w' := ?w4) rfl (by kernel_rfl) rfl rfl rfl ?h4 ?r4
   case h4 => go_simp; try (first | with_reducible rfl | (refine ⟨?_, ?_⟩ <;> with_reducible rfl))
   refine wpAnyIn_upon (i := 4) rfl (by kernel_rfl) rfl rfl ?h5 ?r5
   case h5 => first | (intro f hf; exact trivial) | (intro f hf; cases hf)
   case' r5 => go_simp
   obtain ⟨R, hy, hR⟩ := Fin.out W5 hE35
   refine uponIn_yield hy ?_
   rintro e W6 hr
   obtain ⟨k2, ⟨rfl, hI⟩ | ⟨rfl, hj⟩⟩ := hR _ _ hr
   ·refine ⟨true, rfl, ?_⟩
    have K2 := Lib.hid k2
    have HI6 := Lib.hid hI
    clear k2 hI hr hR hy
    refine wpAnyIn_run (i := 5) (v := ?v6) (w' := ?w6) rfl (by kernel_rfl) rfl rfl rfl ?h6 ?r6
    case h6 => go_simp; try (first | with_reducible rfl | (refine ⟨?_, ?_⟩ <;> with_reducible rfl))
    refine wpAnyIn_done (by kernel_rfl) (noP_normal ?_) _
    simp only [Act.put, sA, sZ, sS]
    gi_wp2
    exact ⟨K2.out, HI6.out⟩
   ·refine ⟨false, rfl, ?_⟩
    have K2 := Lib.hid k2
    have HJ6 := Lib.hid hj
    clear k2 hj hr hR hy
    refine wpAnyIn_run (i := 5) (v := ?v8) (w' := ?w8) rfl (by kernel_rfl) rfl rfl rfl ?h8 ?r8
    case h8 => go_simp; try (first | with_reducible rfl | (refine ⟨?_, ?_⟩ <;> with_reducible rfl))
    refine wpAnyIn_done (by kernel_rfl) (noP_normal ?_) _
    simp only [Act.put, sA, sZ, sS]
    gi_wp2
    exact ⟨K2.out, rfl, HJ6.out⟩
  ·skip
   refine wpAnyIn_call (i := 3) (f := 145) (args := ?b10) (w' := ?w10) (by kernel_rfl) rfl rfl ?h10 ?r10
   case h10 => go_simp; try (first | with_reducible rfl | (refine ⟨?_, ?_⟩ <;> with_reducible rfl))
   refine (HF.out _).mono ?_
   rintro e W5 ⟨rfl, hE5⟩
   have hE35 := Ext.trans hE33 hE5
   refine ⟨_, rfl, ?_⟩
   refine wpAnyIn_upon (i := 4) rfl (by kernel_rfl) rfl rfl ?h11 ?r11
   case h11 => first | (intro f hf; exact trivial) | (intro f hf; cases hf)
   case' r11 => go_simp
   obtain ⟨R, hy, hR⟩ := Fin.out W5 hE35
   refine uponIn_yield hy ?_
   rintro e W6 hr
   obtain ⟨k2, ⟨rfl, hI⟩ | ⟨rfl, hj⟩⟩ := hR _ _ hr
   ·refine ⟨true, rfl, ?_⟩
    have K2 := Lib.hid k2
    have HI6 := Lib.hid hI
    clear k2 hI hr hR hy
    refine wpAnyIn_run (i := 5) (v := ?v12) (w' := ?w12) rfl (by kernel_rfl) rfl rfl rfl ?h12 ?r12
    case h12 => go_simp; try (first | with_reducible rfl | (refine ⟨?_, ?_⟩ <;> with_reducible rfl))
    refine wpAnyIn_done (by kernel_rfl) (noP_normal ?_) _
    simp only [Act.put, sA, sZ, sS]
    gi_wp2
    exact ⟨K2.out, HI6.out⟩
   ·refine ⟨false, rfl, ?_⟩
    have K2 := Lib.hid k2
    have HJ6 := Lib.hid hj
    clear k2 hj hr hR hy
    refine wpAnyIn_run (i := 5) (v := ?v14) (w' := ?w14) rfl (by kernel_rfl) rfl rfl rfl ?h14 ?r14
    case h14 => go_simp; try (first | with_reducible rfl | (refine ⟨?_, ?_⟩ <;> with_reducible rfl))
    refine wpAnyIn_done (by kernel_rfl) (noP_normal ?_) _
    simp only [Act.put, sA, sZ, sS]
    gi_wp2
    exact ⟨K2.out, rfl, HJ6.out⟩
 case done =>
  rintro D W hD ⟨zv, hj, hb, hp, hy, hh, hs⟩ hK
  have hmD : Moves (orOther (PcM n0) W0.heap.size) W (W.putObj D (.deferred none)) := Moves.refl.putObj (fun o ho => .inr ⟨by omega, by rw [hK] at ho; cases ho; rfl⟩) _
  have HJ := Lib.hid (hJ _ _ _ hj hmD)
  clear hj
  gi_wp2
  refine end_mark hK _ (results_none rfl _ _ _) ?_
  exact ⟨⟨_, rfl⟩, .inl HJ.out⟩
 case stop =>
  rintro D cd pre W hD hpre ⟨rfl, hj⟩ hK
  have hmD : Moves (orOther (PcM n0) W0.heap.size) W (W.putObj D (.deferred none)) := Moves.refl.putObj (fun o ho => .inr ⟨by omega, by rw [hK] at ho; cases ho; rfl⟩) _
  have HJ := Lib.hid (hJx _ _ _ hj hmD)
  have hp2 : pieceL (0, 0) pre <+: pieceL (0, 0) (chunkL 4 t) := by
   obtain ⟨r, hr⟩ := hpre
   rw [← hr, pieceL_app]; exact ⟨_, rfl⟩
  have Hp2 := Lib.hid hp2
  clear hj hp2
  gi_wp2
  refine ret_mark hK _ (results_none rfl _ _ _) ?_
  exact ⟨⟨_, rfl⟩, .inr ⟨_, Hp2.out, HJ.out⟩⟩
end Go.Proofs.YtmecffckghkahaaGreatDoor
