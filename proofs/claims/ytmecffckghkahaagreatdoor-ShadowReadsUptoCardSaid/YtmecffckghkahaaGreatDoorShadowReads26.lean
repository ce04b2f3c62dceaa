/- Merged: Sh1 -/
import Derived.Test.YtmecffckghkahaaGreatDoorShadowReads25
set_option linter.all false
set_option maxHeartbeats 8000000
namespace Go.Mv
open Go.RowKit
section
variable {F : Fence} {n : Nat} {P : Program} {ops : Array Oper} {Q : Exit → Act → World → Prop} {md : Region.Mode}
theorem yieldsFG {o : Oper} {v : Value} {a : Act} (hw : Region.wanted o (yielded ops a.tmps) = true) (hrun : ∀ w, (execOp a.eval o).run P w = .ok (.value v) w) (hab : ∀ w, o.about P w a.eval = none) : YieldsFenced P ops o v a := ⟨.inl ⟨hw, hrun⟩, hab⟩
theorem yieldsN {o : Oper} {a : Act} (hw : Region.wanted o (yielded ops a.tmps) = false) (hab : ∀ w, o.about P w a.eval = none) : YieldsFenced P ops o undef a := ⟨.inr ⟨hw, rfl⟩, hab⟩
theorem yieldsCG {C : World → Prop} {o : Oper} {v : Value} {a : Act} (hw : Region.wanted o (yielded ops a.tmps) = true) (hrun : ∀ w, C w → (execOp a.eval o).run P w = .ok (.value v) w) (hab : ∀ w, o.about P w a.eval = none) : YieldsC P ops C o v a := ⟨hw, hrun, hab⟩
theorem wpAnyIn_uponG {i : Nat} {o : Oper} {fuel : Nat} {listed : Array Bool} {a : Act} {w : World} (hro : F.round = none) (hr : Region.ready md ops listed = [i]) (hi0 : ops.toList[i]? = some o) (hw : Region.wanted o (yielded ops a.tmps) = true)
  (hab : ∀ f, o.about P w a.eval = some f → F.fn f) (h : o.uponIn F n P a (fun a' w' => wpAnyIn F n P md ops Q fuel (listed.setIfInBounds i true) a' w') Q ((execOp a.eval o).run P w)) : wpAnyIn F n P md ops Q (fuel + 1) listed a w := by
 have hi := opAt hi0
 refine wpAnyIn_all hr (by simp) (fun j hj => ?_)
 have e : j = i := by simpa using hj
 subst e
 unfold wpOpIn
 simp only [hi, hw, if_true, Oper.wpIn, hro, Oper.semAt_none]
 exact ⟨hab, h⟩
theorem wpIn_seq_G {x y : Code} {a : Act} {w : World} (G : Act → World → Prop) (h1 : x.wpIn F n P (Exit.then G Q) a w) (h2 : ∀ a' w', G a' w' → y.wpIn F n P Q a' w') : (x.seq y).wpIn F n P Q a w := by
 refine wpIn_seq (wpIn_mono h1 ?_)
 intro e a' w' h
 cases e <;> first | exact h2 _ _ h | exact h
def Read6 (p q r s t u : Addr × Value) (W : World) : Prop := W.cell? p.1 = some p.2 ∧ W.cell? q.1 = some q.2 ∧ W.cell? r.1 = some r.2 ∧ W.cell? s.1 = some s.2 ∧ W.cell? t.1 = some t.2 ∧ W.cell? u.1 = some u.2
theorem Read6.alloc {p q r s t u : Addr × Value} {W : World} (h : Read6 p q r s t u W) (o : Obj) : Read6 p q r s t u (W.alloc o) :=
 ⟨cell_alloc h.1 o, cell_alloc h.2.1 o, cell_alloc h.2.2.1 o, cell_alloc h.2.2.2.1 o, cell_alloc h.2.2.2.2.1 o, cell_alloc h.2.2.2.2.2 o⟩
end
end Go.Mv
namespace Go.Proofs.YtmecffckghkahaaGreatDoor
open Go.RowKit Go.Mv Go.Shelf
attribute [local go_sem] Oper.semAt_some
set_option maxRecDepth 100000
structure Thg where
 k : Int
 s : Int
 f : Int
 sg : Sg4
 p : Addr
def Thg.val (t : Thg) : Value := .agg #[.int .u8 t.k, .int .i64 t.s, .int .i64 t.f, .int .i64 t.sg.seq, .int .i64 t.sg.fmt, .int .i64 t.sg.first, .int .i64 t.sg.count, .pointer (some t.p)]
def segThg (bs off i : Nat) (s : Sg4) : Thg := ⟨3, s.seq, s.fmt, s, ⟨bs, off + i * 4 + 1, none⟩⟩
def segThgs (bs off : Nat) : Nat → List Sg4 → List Thg
 | _, [] => []
 | i, s :: l => segThg bs off i s :: segThgs bs off (i + 1) l
def snapThg (m : Mf) (bm : Nat) : Thg := ⟨4, m.sq, m.sf, ⟨0, 0, 0, 0⟩, ⟨bm, 4, none⟩⟩
def thgs (m : Mf) (bm bs off : Nat) : List Thg := (if m.sq = 0 then [] else [snapThg m bm]) ++ segThgs bs off 0 m.segs
structure ThW (m : Mf) (A : Option Addr) (c bp bm bs off : Nat) (W : World) : Prop where
 p : W.cell? ⟨bp, 0, none⟩ = some (.pointer (some ⟨bm, 0, none⟩))
 sq : W.cell? ⟨bm, 3, none⟩ = some (.int .i64 m.sq)
 sf : W.cell? ⟨bm, 4, none⟩ = some (.int .i64 m.sf)
 sl : W.cell? ⟨bm, 5, none⟩ = some (.slice A m.segs.length c)
 at_ : 0 < m.segs.length → A = some ⟨bs, off, none⟩
 cells : ∀ (k : Nat) (hk : k < m.segs.length), W.cell? ⟨bs, off + k * 4, none⟩ = some (.int .i64 m.segs[k].seq) ∧ W.cell? ⟨bs, off + k * 4 + 1, none⟩ = some (.int .i64 m.segs[k].fmt) ∧ W.cell? ⟨bs, off + k * 4 + 2, none⟩ = some (.int .i64 m.segs[k].first) ∧ W.cell? ⟨bs, off + k * 4 + 3, none⟩ = some (.int .i64 m.segs[k].count)
 len : m.segs.length ≤ 9223372036854775807
def ThK (bp bm bs : Nat) (k : Nat) (o : Obj) : Prop := o.isCells = true ∧ (k = bp ∨ k = bm ∨ k = bs)
theorem ThW.keep {m : Mf} {A : Option Addr} {c bp bm bs off : Nat} {W W' : World} (h : ThW m A c bp bm bs off W) (hk : ∀ p u, (p.block = bp ∨ p.block = bm ∨ p.block = bs) → W.cell? p = some u → W'.cell? p = some u) : ThW m A c bp bm bs off W' :=
 ⟨hk _ _ (.inl rfl) h.p, hk _ _ (.inr (.inl rfl)) h.sq, hk _ _ (.inr (.inl rfl)) h.sf, hk _ _ (.inr (.inl rfl)) h.sl, h.at_, fun k hk' => ⟨hk _ _ (.inr (.inr rfl)) (h.cells k hk').1, hk _ _ (.inr (.inr rfl)) (h.cells k hk').2.1, hk _ _ (.inr (.inr rfl)) (h.cells k hk').2.2.1, hk _ _ (.inr (.inr rfl)) (h.cells k hk').2.2.2⟩, h.len⟩
theorem ThW.ext {m : Mf} {A : Option Addr} {c bp bm bs off : Nat} {W W' : World} (h : ThW m A c bp bm bs off W) (he : Ext W W') : ThW m A c bp bm bs off W' := h.keep fun _ _ _ hc => he.cell hc
theorem ThW.kept {m : Mf} {A : Option Addr} {c bp bm bs off n : Nat} {W W' : World} (h : ThW m A c bp bm bs off W) (hk : Kept (orOther (ThK bp bm bs) n) W W') : ThW m A c bp bm bs off W' :=
 h.keep fun p u hp hc => by
  obtain ⟨o, ho, hcells⟩ := cells_of_cell hc
  exact hk.cell hc (fun o' ho' => by rw [ho] at ho'; cases ho'; exact .inl ⟨hcells, hp⟩)
theorem things_any (p : Addr) (w : World) : Calls Tryz.prog 25 #[.pointer (some p)] w fun e w' => e = .returned (.func (.func 44) #[] #[.pointer (some ⟨w.heap.size, 0, none⟩)]) ∧ w.alloc (.cells #[.pointer (some p)] 75) = w' := by
 have hmf : ∀ (fn : Fn) (first cap : Array Value) (w : World), (Instr.makeFunc fn first cap).run Tryz.prog w = .ok (.func fn first cap) w := fun _ _ _ _ => rfl
 go_enter Tryz.func25, Tryz.ntmps25
 go_wp2
 go_ret
 exact ⟨rfl, rfl⟩
theorem things1_seq (m : Mf) (A : Option Addr) (c bp bm bs off : Nat) (W0 : World) (hT : ThW m A c bp bm bs off W0) :
  SeqT Tryz.prog 44 #[.pointer (some ⟨bp, 0, none⟩)] (fun (x : Thg) av _ => av = #[x.val]) (ThK bp bm bs) (fun _ _ => False) (thgs m bm bs off) W0 := by
 intro l J Jx hJ hJx hY h0
 refine (callsIn_wd (ro := none) (n := 9)).1 ?_
 refine callsIn_of_wp Tryz.func44 rfl trivial ?_ rfl
 simp only [Tryz.ntmps44, List.size_toArray, List.length_cons, List.length_nil, Nat.reduceAdd, Nat.reduceSub, Array.replicate_succ, Array.replicate_zero, List.push_toArray, List.append_toArray, List.nil_append, List.cons_append]
 obtain ⟨all, hall⟩ : ∃ all, thgs m bm bs off = all := ⟨_, rfl⟩
 rw [hall] at hY ⊢
 have HA := Lib.hid hall
 have HY := Lib.hid hY
 have HT := Lib.hid hT
 have HJm := Lib.hid hJ
 have HJ0 := Lib.hid h0
 clear hall hY hT hJ h0
 refine wpIn_seq_G (fun a' w' => a'.defers = [] ∧ a'.tmps.size = 61 ∧ a'.tmps.getD 0 undef = .func (.yield l) #[] #[] ∧ a'.tmps.getD 1 undef = .pointer (some ⟨bp, 0, none⟩) ∧ (∃ pre, all = pre ++ segThgs bs off 0 m.segs ∧ J pre w') ∧ ThW m A c bp bm bs off w' ∧ W0.heap.size ≤ w'.heap.size) ?_ ?_
 ·gi_wp2
  refine wpIn_region_none (by kernel_rfl) ?_
  have T1 := HT.out.ext (Ext.drew (Ext.refl W0))
  have HJ1 := Lib.hid (HJm.out _ _ _ HJ0.out (Moves.refl.drew : Moves (orOther (fun _ _ => False) W0.heap.size) W0 W0.drew))
  by_cases hq : m.sq = 0
  ·have hqb : (m.sq != 0) = false := by simpa using hq
   refine wpAnyIn_takeC2 (Read6 (⟨bp, 0, none⟩, .pointer (some ⟨bm, 0, none⟩)) (⟨bm, 3, none⟩, .int .i64 m.sq) (⟨bm, 4, none⟩, .int .i64 m.sf) (⟨bp, 0, none⟩, .pointer (some ⟨bm, 0, none⟩)) (⟨bp, 0, none⟩, .pointer (some ⟨bm, 0, none⟩)) (⟨bp, 0, none⟩, .pointer (some ⟨bm, 0, none⟩))) [1, 2, 3, 4, 5, 6, 7, 8, 9, 10, 11, 12, 13, 14, 15, 16, 17, 18, 19, 20, 21, 22, 23, 24, 25, 26, 27] (i := 0) (v := ?v1) rfl rfl (by kernel_rfl) (by kernel_rfl) (by kernel_rfl) (by kernel_rfl) (by kernel_rfl) (fun _ _ _ h => h) (fun w o hw => hw.alloc o) (⟨T1.p, T1.sq, T1.sf, T1.p, T1.p, T1.p⟩) (yieldsCG (by rfl) (fun w hw => ?h1) (fun w => rfl)) ?r1
   case h1 => obtain ⟨g0, g1, g2, g3, g4, g5⟩ := hw; dsimp only at g0 g1 g2 g3 g4 g5; go_simp; try with_reducible rfl
   try simp only [Act.put, sA, sZ, sS]
   refine wpAnyIn_takeF (i := 1) (v := ?v2_1) rfl rfl (by kernel_rfl) (by kernel_rfl) (by kernel_rfl) (fun _ _ _ h => h) (yieldsFG (by rfl) (fun w => ?h2_1) (fun w => rfl)) ?r2_1
   case h2_1 => go_simp; try with_reducible rfl
   try simp only [Act.put, sA, sZ, sS]
   refine wpAnyIn_takeF (i := 2) (v := ?v2_2) rfl rfl (by kernel_rfl) (by kernel_rfl) (by kernel_rfl) (fun _ _ _ h => h) (yieldsFG (by rfl) (fun w => ?h2_2) (fun w => rfl)) ?r2_2
   case h2_2 => go_simp; try with_reducible rfl
   try simp only [Act.put, sA, sZ, sS]
   refine wpAnyIn_takeF (i := 3) (v := ?v2_3) rfl rfl (by kernel_rfl) (by kernel_rfl) (by kernel_rfl) (fun _ _ _ h => h) (yieldsFG (by rfl) (fun w => ?h2_3) (fun w => rfl)) ?r2_3
   case h2_3 => go_simp; try with_reducible rfl
   try simp only [Act.put, sA, sZ, sS]
   refine wpAnyIn_takeC2 (Read6 (⟨bp, 0, none⟩, .pointer (some ⟨bm, 0, none⟩)) (⟨bm, 3, none⟩, .int .i64 m.sq) (⟨bm, 4, none⟩, .int .i64 m.sf) (⟨bp, 0, none⟩, .pointer (some ⟨bm, 0, none⟩)) (⟨bp, 0, none⟩, .pointer (some ⟨bm, 0, none⟩)) (⟨bp, 0, none⟩, .pointer (some ⟨bm, 0, none⟩))) [5, 6, 7, 8, 9, 10, 11, 12, 13, 14, 15, 16, 17, 18, 19, 20, 21, 22, 23, 24, 25, 26, 27] (i := 4) (v := ?v3) rfl rfl (by kernel_rfl) (by kernel_rfl) (by kernel_rfl) (by kernel_rfl) (by kernel_rfl) (fun _ _ _ h => h) (fun w o hw => hw.alloc o) (⟨T1.p, T1.sq, T1.sf, T1.p, T1.p, T1.p⟩) (yieldsCG (by rfl) (fun w hw => ?h3) (fun w => rfl)) ?r3
   case h3 => obtain ⟨g0, g1, g2, g3, g4, g5⟩ := hw; dsimp only at g0 g1 g2 g3 g4 g5; go_simp; try with_reducible rfl
   try simp only [Act.put, sA, sZ, sS]
   refine wpAnyIn_takeF (i := 5) (v := ?v4_5) rfl rfl (by kernel_rfl) (by kernel_rfl) (by kernel_rfl) (fun _ _ _ h => h) (yieldsFG (by rfl) (fun w => ?h4_5) (fun w => rfl)) ?r4_5
   case h4_5 => go_simp; try with_reducible rfl
   try simp only [Act.put, sA, sZ, sS]
   refine wpAnyIn_takeF (i := 6) (v := ?v4_6) rfl rfl (by kernel_rfl) (by kernel_rfl) (by kernel_rfl) (fun _ _ _ h => h) (yieldsFG (by rfl) (fun w => ?h4_6) (fun w => rfl)) ?r4_6
   case h4_6 => go_simp; try with_reducible rfl
   try simp only [Act.put, sA, sZ, sS]
   refine wpAnyIn_takeF (i := 7) (v := undef) rfl rfl (by kernel_rfl) (by kernel_rfl) (by kernel_rfl) (fun _ _ _ h => h) (yieldsN (by rfl) (fun w => rfl)) ?_
   try simp only [Act.put, sA, sZ, sS]
   refine wpAnyIn_takeF (i := 8) (v := undef) rfl rfl (by kernel_rfl) (by kernel_rfl) (by kernel_rfl) (fun _ _ _ h => h) (yieldsN (by rfl) (fun w => rfl)) ?_
   try simp only [Act.put, sA, sZ, sS]
   refine wpAnyIn_takeF (i := 9) (v := undef) rfl rfl (by kernel_rfl) (by kernel_rfl) (by kernel_rfl) (fun _ _ _ h => h) (yieldsN (by rfl) (fun w => rfl)) ?_
   try simp only [Act.put, sA, sZ, sS]
   refine wpAnyIn_takeF (i := 10) (v := undef) rfl rfl (by kernel_rfl) (by kernel_rfl) (by kernel_rfl) (fun _ _ _ h => h) (yieldsN (by rfl) (fun w => rfl)) ?_
   try simp only [Act.put, sA, sZ, sS]
   refine wpAnyIn_takeF (i := 11) (v := undef) rfl rfl (by kernel_rfl) (by kernel_rfl) (by kernel_rfl) (fun _ _ _ h => h) (yieldsN (by rfl) (fun w => rfl)) ?_
   try simp only [Act.put, sA, sZ, sS]
   refine wpAnyIn_takeF (i := 12) (v := undef) rfl rfl (by kernel_rfl) (by kernel_rfl) (by kernel_rfl) (fun _ _ _ h => h) (yieldsN (by rfl) (fun w => rfl)) ?_
   try simp only [Act.put, sA, sZ, sS]
   refine wpAnyIn_takeF (i := 13) (v := undef) rfl rfl (by kernel_rfl) (by kernel_rfl) (by kernel_rfl) (fun _ _ _ h => h) (yieldsN (by rfl) (fun w => rfl)) ?_
   try simp only [Act.put, sA, sZ, sS]
   refine wpAnyIn_takeF (i := 14) (v := undef) rfl rfl (by kernel_rfl) (by kernel_rfl) (by kernel_rfl) (fun _ _ _ h => h) (yieldsN (by rfl) (fun w => rfl)) ?_
   try simp only [Act.put, sA, sZ, sS]
   refine wpAnyIn_takeF (i := 15) (v := undef) rfl rfl (by kernel_rfl) (by kernel_rfl) (by kernel_rfl) (fun _ _ _ h => h) (yieldsN (by rfl) (fun w => rfl)) ?_
   try simp only [Act.put, sA, sZ, sS]
   refine wpAnyIn_takeF (i := 16) (v := undef) rfl rfl (by kernel_rfl) (by kernel_rfl) (by kernel_rfl) (fun _ _ _ h => h) (yieldsN (by rfl) (fun w => rfl)) ?_
   try simp only [Act.put, sA, sZ, sS]
   refine wpAnyIn_takeF (i := 17) (v := undef) rfl rfl (by kernel_rfl) (by kernel_rfl) (by kernel_rfl) (fun _ _ _ h => h) (yieldsN (by rfl) (fun w => rfl)) ?_
   try simp only [Act.put, sA, sZ, sS]
   refine wpAnyIn_takeF (i := 18) (v := undef) rfl rfl (by kernel_rfl) (by kernel_rfl) (by kernel_rfl) (fun _ _ _ h => h) (yieldsN (by rfl) (fun w => rfl)) ?_
   try simp only [Act.put, sA, sZ, sS]
   refine wpAnyIn_takeF (i := 19) (v := undef) rfl rfl (by kernel_rfl) (by kernel_rfl) (by kernel_rfl) (fun _ _ _ h => h) (yieldsN (by rfl) (fun w => rfl)) ?_
   try simp only [Act.put, sA, sZ, sS]
   refine wpAnyIn_takeF (i := 20) (v := undef) rfl rfl (by kernel_rfl) (by kernel_rfl) (by kernel_rfl) (fun _ _ _ h => h) (yieldsN (by rfl) (fun w => rfl)) ?_
   try simp only [Act.put, sA, sZ, sS]
   refine wpAnyIn_takeF (i := 21) (v := undef) rfl rfl (by kernel_rfl) (by kernel_rfl) (by kernel_rfl) (fun _ _ _ h => h) (yieldsN (by rfl) (fun w => rfl)) ?_
   try simp only [Act.put, sA, sZ, sS]
   refine wpAnyIn_takeF (i := 22) (v := undef) rfl rfl (by kernel_rfl) (by kernel_rfl) (by kernel_rfl) (fun _ _ _ h => h) (yieldsN (by rfl) (fun w => rfl)) ?_
   try simp only [Act.put, sA, sZ, sS]
   refine wpAnyIn_takeF (i := 23) (v := undef) rfl rfl (by kernel_rfl) (by kernel_rfl) (by kernel_rfl) (fun _ _ _ h => h) (yieldsN (by rfl) (fun w => rfl)) ?_
   try simp only [Act.put, sA, sZ, sS]
   refine wpAnyIn_takeF (i := 24) (v := undef) rfl rfl (by kernel_rfl) (by kernel_rfl) (by kernel_rfl) (fun _ _ _ h => h) (yieldsN (by rfl) (fun w => rfl)) ?_
   try simp only [Act.put, sA, sZ, sS]
   refine wpAnyIn_takeF (i := 25) (v := undef) rfl rfl (by kernel_rfl) (by kernel_rfl) (by kernel_rfl) (fun _ _ _ h => h) (yieldsN (by rfl) (fun w => rfl)) ?_
   try simp only [Act.put, sA, sZ, sS]
   refine wpAnyIn_takeF (i := 26) (v := undef) rfl rfl (by kernel_rfl) (by kernel_rfl) (by kernel_rfl) (fun _ _ _ h => h) (yieldsN (by rfl) (fun w => rfl)) ?_
   try simp only [Act.put, sA, sZ, sS]
   refine wpAnyIn_takeF (i := 27) (v := ?v6_27) rfl rfl (by kernel_rfl) (by kernel_rfl) (by kernel_rfl) (fun _ _ _ h => h) (yieldsFG (by rfl) (fun w => ?h6_27) (fun w => rfl)) ?r6_27
   case h6_27 => go_simp; try with_reducible rfl
   try simp only [Act.put, sA, sZ, sS]
   refine wpAnyIn_done (by kernel_rfl) (noP_normal ?_) _
   gi_wp2
   refine ⟨trivial, rfl, rfl, rfl, ⟨[], ?_, HJ1.out⟩, T1, Nat.le_refl _⟩
   rw [← HA.out]; unfold thgs; rw [if_pos hq]
  ·have hqb : (m.sq != 0) = true := by simpa using hq
   refine wpAnyIn_takeC2 (Read6 (⟨bp, 0, none⟩, .pointer (some ⟨bm, 0, none⟩)) (⟨bm, 3, none⟩, .int .i64 m.sq) (⟨bm, 4, none⟩, .int .i64 m.sf) (⟨bp, 0, none⟩, .pointer (some ⟨bm, 0, none⟩)) (⟨bp, 0, none⟩, .pointer (some ⟨bm, 0, none⟩)) (⟨bp, 0, none⟩, .pointer (some ⟨bm, 0, none⟩))) [1, 2, 3, 4, 5, 6, 7, 8, 9, 10, 11, 12, 13, 14, 15, 16, 17, 18, 19, 20, 21, 22, 23, 24, 25, 26, 27] (i := 0) (v := ?v7) rfl rfl (by kernel_rfl) (by kernel_rfl) (by kernel_rfl) (by kernel_rfl) (by kernel_rfl) (fun _ _ _ h => h) (fun w o hw => hw.alloc o) (⟨T1.p, T1.sq, T1.sf, T1.p, T1.p, T1.p⟩) (yieldsCG (by rfl) (fun w hw => ?h7) (fun w => rfl)) ?r7
   case h7 => obtain ⟨g0, g1, g2, g3, g4, g5⟩ := hw; dsimp only at g0 g1 g2 g3 g4 g5; go_simp; try with_reducible rfl
   try simp only [Act.put, sA, sZ, sS]
   refine wpAnyIn_takeF (i := 1) (v := ?v8_1) rfl rfl (by kernel_rfl) (by kernel_rfl) (by kernel_rfl) (fun _ _ _ h => h) (yieldsFG (by rfl) (fun w => ?h8_1) (fun w => rfl)) ?r8_1
   case h8_1 => go_simp; try with_reducible rfl
   try simp only [Act.put, sA, sZ, sS]
   refine wpAnyIn_takeF (i := 2) (v := ?v8_2) rfl rfl (by kernel_rfl) (by kernel_rfl) (by kernel_rfl) (fun _ _ _ h => h) (yieldsFG (by rfl) (fun w => ?h8_2) (fun w => rfl)) ?r8_2
   case h8_2 => go_simp; try with_reducible rfl
   try simp only [Act.put, sA, sZ, sS]
   refine wpAnyIn_takeF (i := 3) (v := ?v8_3) rfl rfl (by kernel_rfl) (by kernel_rfl) (by kernel_rfl) (fun _ _ _ h => h) (yieldsFG (by rfl) (fun w => ?h8_3) (fun w => rfl)) ?r8_3
   case h8_3 => go_simp; try with_reducible rfl
   try simp only [Act.put, sA, sZ, sS]
   refine wpAnyIn_takeC2 (Read6 (⟨bp, 0, none⟩, .pointer (some ⟨bm, 0, none⟩)) (⟨bm, 3, none⟩, .int .i64 m.sq) (⟨bm, 4, none⟩, .int .i64 m.sf) (⟨bp, 0, none⟩, .pointer (some ⟨bm, 0, none⟩)) (⟨bp, 0, none⟩, .pointer (some ⟨bm, 0, none⟩)) (⟨bp, 0, none⟩, .pointer (some ⟨bm, 0, none⟩))) [5, 6, 7, 8, 9, 10, 11, 12, 13, 14, 15, 16, 17, 18, 19, 20, 21, 22, 23, 24, 25, 26, 27] (i := 4) (v := ?v9) rfl rfl (by kernel_rfl) (by kernel_rfl) (by kernel_rfl) (by kernel_rfl) (by kernel_rfl) (fun _ _ _ h => h) (fun w o hw => hw.alloc o) (⟨T1.p, T1.sq, T1.sf, T1.p, T1.p, T1.p⟩) (yieldsCG (by rfl) (fun w hw => ?h9) (fun w => rfl)) ?r9
   case h9 => obtain ⟨g0, g1, g2, g3, g4, g5⟩ := hw; dsimp only at g0 g1 g2 g3 g4 g5; go_simp; try with_reducible rfl
   try simp only [Act.put, sA, sZ, sS]
   refine wpAnyIn_takeF (i := 5) (v := ?v10_5) rfl rfl (by kernel_rfl) (by kernel_rfl) (by kernel_rfl) (fun _ _ _ h => h) (yieldsFG (by rfl) (fun w => ?h10_5) (fun w => rfl)) ?r10_5
   case h10_5 => go_simp; try with_reducible rfl
   try simp only [Act.put, sA, sZ, sS]
   refine wpAnyIn_takeF (i := 6) (v := ?v10_6) rfl rfl (by kernel_rfl) (by kernel_rfl) (by kernel_rfl) (fun _ _ _ h => h) (yieldsFG (by rfl) (fun w => ?h10_6) (fun w => rfl)) ?r10_6
   case h10_6 => go_simp; try with_reducible rfl
   try simp only [Act.put, sA, sZ, sS]
   refine wpAnyIn_takeF (i := 7) (v := ?v10_7) rfl rfl (by kernel_rfl) (by kernel_rfl) (by kernel_rfl) (fun _ _ _ h => h) (yieldsFG (by rfl) (fun w => ?h10_7) (fun w => rfl)) ?r10_7
   case h10_7 => go_simp; try with_reducible rfl
   try simp only [Act.put, sA, sZ, sS]
   refine wpAnyIn_takeF (i := 19) (v := ?v10_19) rfl rfl (by kernel_rfl) (by kernel_rfl) (by kernel_rfl) (fun _ _ _ h => h) (yieldsFG (by rfl) (fun w => ?h10_19) (fun w => rfl)) ?r10_19
   case h10_19 => go_simp; try with_reducible rfl
   try simp only [Act.put, sA, sZ, sS]
   refine wpAnyIn_takeC2 (Read6 (⟨bp, 0, none⟩, .pointer (some ⟨bm, 0, none⟩)) (⟨bm, 3, none⟩, .int .i64 m.sq) (⟨bm, 4, none⟩, .int .i64 m.sf) (⟨bp, 0, none⟩, .pointer (some ⟨bm, 0, none⟩)) (⟨bp, 0, none⟩, .pointer (some ⟨bm, 0, none⟩)) (⟨bp, 0, none⟩, .pointer (some ⟨bm, 0, none⟩))) [9, 10, 11, 12, 18, 24, 25, 26, 27] (i := 8) (v := ?v11) rfl rfl (by kernel_rfl) (by kernel_rfl) (by kernel_rfl) (by kernel_rfl) (by kernel_rfl) (fun _ _ _ h => h) (fun w o hw => hw.alloc o) (⟨T1.p, T1.sq, T1.sf, T1.p, T1.p, T1.p⟩) (yieldsCG (by rfl) (fun w hw => ?h11) (fun w => rfl)) ?r11
   case h11 => obtain ⟨g0, g1, g2, g3, g4, g5⟩ := hw; dsimp only at g0 g1 g2 g3 g4 g5; go_simp; try with_reducible rfl
   try simp only [Act.put, sA, sZ, sS]
   refine wpAnyIn_takeF (i := 9) (v := ?v12_9) rfl rfl (by kernel_rfl) (by kernel_rfl) (by kernel_rfl) (fun _ _ _ h => h) (yieldsFG (by rfl) (fun w => ?h12_9) (fun w => rfl)) ?r12_9
   case h12_9 => go_simp; try with_reducible rfl
   try simp only [Act.put, sA, sZ, sS]
   refine wpAnyIn_takeF (i := 10) (v := ?v12_10) rfl rfl (by kernel_rfl) (by kernel_rfl) (by kernel_rfl) (fun _ _ _ h => h) (yieldsFG (by rfl) (fun w => ?h12_10) (fun w => rfl)) ?r12_10
   case h12_10 => go_simp; try with_reducible rfl
   try simp only [Act.put, sA, sZ, sS]
   refine wpAnyIn_takeF (i := 11) (v := ?v12_11) rfl rfl (by kernel_rfl) (by kernel_rfl) (by kernel_rfl) (fun _ _ _ h => h) (yieldsFG (by rfl) (fun w => ?h12_11) (fun w => rfl)) ?r12_11
   case h12_11 => go_simp; try with_reducible rfl
   try simp only [Act.put, sA, sZ, sS]
   refine wpAnyIn_takeC2 (Read6 (⟨bp, 0, none⟩, .pointer (some ⟨bm, 0, none⟩)) (⟨bm, 3, none⟩, .int .i64 m.sq) (⟨bm, 4, none⟩, .int .i64 m.sf) (⟨bp, 0, none⟩, .pointer (some ⟨bm, 0, none⟩)) (⟨bp, 0, none⟩, .pointer (some ⟨bm, 0, none⟩)) (⟨bp, 0, none⟩, .pointer (some ⟨bm, 0, none⟩))) [18, 24, 25, 26, 27] (i := 12) (v := ?v13) rfl rfl (by kernel_rfl) (by kernel_rfl) (by kernel_rfl) (by kernel_rfl) (by kernel_rfl) (fun _ _ _ h => h) (fun w o hw => hw.alloc o) (⟨T1.p, T1.sq, T1.sf, T1.p, T1.p, T1.p⟩) (yieldsCG (by rfl) (fun w hw => ?h13) (fun w => rfl)) ?r13
   case h13 => obtain ⟨g0, g1, g2, g3, g4, g5⟩ := hw; dsimp only at g0 g1 g2 g3 g4 g5; go_simp; try with_reducible rfl
   try simp only [Act.put, sA, sZ, sS]
   refine wpAnyIn_takeC2 (Read6 (⟨bp, 0, none⟩, .pointer (some ⟨bm, 0, none⟩)) (⟨bm, 3, none⟩, .int .i64 m.sq) (⟨bm, 4, none⟩, .int .i64 m.sf) (⟨bp, 0, none⟩, .pointer (some ⟨bm, 0, none⟩)) (⟨bp, 0, none⟩, .pointer (some ⟨bm, 0, none⟩)) (⟨bp, 0, none⟩, .pointer (some ⟨bm, 0, none⟩))) [14, 15, 16, 17, 18, 24, 25, 26, 27] (i := 13) (v := ?v14) rfl rfl (by kernel_rfl) (by kernel_rfl) (by kernel_rfl) (by kernel_rfl) (by kernel_rfl) (fun _ _ _ h => h) (fun w o hw => hw.alloc o) (⟨T1.p, T1.sq, T1.sf, T1.p, T1.p, T1.p⟩) (yieldsCG (by rfl) (fun w hw => ?h14) (fun w => rfl)) ?r14
   case h14 => obtain ⟨g0, g1, g2, g3, g4, g5⟩ := hw; dsimp only at g0 g1 g2 g3 g4 g5; go_simp; try with_reducible rfl
   try simp only [Act.put, sA, sZ, sS]
   refine wpAnyIn_takeF (i := 14) (v := ?v15_14) rfl rfl (by kernel_rfl) (by kernel_rfl) (by kernel_rfl) (fun _ _ _ h => h) (yieldsFG (by rfl) (fun w => ?h15_14) (fun w => rfl)) ?r15_14
   case h15_14 => go_simp; try with_reducible rfl
   try simp only [Act.put, sA, sZ, sS]
   refine wpAnyIn_takeF (i := 15) (v := ?v15_15) rfl rfl (by kernel_rfl) (by kernel_rfl) (by kernel_rfl) (fun _ _ _ h => h) (yieldsFG (by rfl) (fun w => ?h15_15) (fun w => rfl)) ?r15_15
   case h15_15 => go_simp; try with_reducible rfl
   try simp only [Act.put, sA, sZ, sS]
   refine wpAnyIn_takeF (i := 16) (v := ?v15_16) rfl rfl (by kernel_rfl) (by kernel_rfl) (by kernel_rfl) (fun _ _ _ h => h) (yieldsFG (by rfl) (fun w => ?h15_16) (fun w => rfl)) ?r15_16
   case h15_16 => go_simp; try with_reducible rfl
   try simp only [Act.put, sA, sZ, sS]
   refine wpAnyIn_takeC2 (Read6 (⟨bp, 0, none⟩, .pointer (some ⟨bm, 0, none⟩)) (⟨bm, 3, none⟩, .int .i64 m.sq) (⟨bm, 4, none⟩, .int .i64 m.sf) (⟨bp, 0, none⟩, .pointer (some ⟨bm, 0, none⟩)) (⟨bp, 0, none⟩, .pointer (some ⟨bm, 0, none⟩)) (⟨bp, 0, none⟩, .pointer (some ⟨bm, 0, none⟩))) [18, 24, 25, 26, 27] (i := 17) (v := ?v16) rfl rfl (by kernel_rfl) (by kernel_rfl) (by kernel_rfl) (by kernel_rfl) (by kernel_rfl) (fun _ _ _ h => h) (fun w o hw => hw.alloc o) (⟨T1.p, T1.sq, T1.sf, T1.p, T1.p, T1.p⟩) (yieldsCG (by rfl) (fun w hw => ?h16) (fun w => rfl)) ?r16
   case h16 => obtain ⟨g0, g1, g2, g3, g4, g5⟩ := hw; dsimp only at g0 g1 g2 g3 g4 g5; go_simp; try with_reducible rfl
   try simp only [Act.put, sA, sZ, sS]
   refine wpAnyIn_takeF (i := 18) (v := ?v17_18) rfl rfl (by kernel_rfl) (by kernel_rfl) (by kernel_rfl) (fun _ _ _ h => h) (yieldsFG (by rfl) (fun w => ?h17_18) (fun w => rfl)) ?r17_18
   case h17_18 => go_simp; try with_reducible rfl
   try simp only [Act.put, sA, sZ, sS]
   refine wpAnyIn_takeC2 (Read6 (⟨bp, 0, none⟩, .pointer (some ⟨bm, 0, none⟩)) (⟨bm, 3, none⟩, .int .i64 m.sq) (⟨bm, 4, none⟩, .int .i64 m.sf) (⟨bp, 0, none⟩, .pointer (some ⟨bm, 0, none⟩)) (⟨bp, 0, none⟩, .pointer (some ⟨bm, 0, none⟩)) (⟨bp, 0, none⟩, .pointer (some ⟨bm, 0, none⟩))) [21, 22, 23, 24, 25, 26, 27] (i := 20) (v := ?v18) rfl rfl (by kernel_rfl) (by kernel_rfl) (by kernel_rfl) (by kernel_rfl) (by kernel_rfl) (fun _ _ _ h => h) (fun w o hw => hw.alloc o) (⟨T1.p, T1.sq, T1.sf, T1.p, T1.p, T1.p⟩) (yieldsCG (by rfl) (fun w hw => ?h18) (fun w => rfl)) ?r18
   case h18 => obtain ⟨g0, g1, g2, g3, g4, g5⟩ := hw; dsimp only at g0 g1 g2 g3 g4 g5; go_simp; try with_reducible rfl
   try simp only [Act.put, sA, sZ, sS]
   refine wpAnyIn_takeF (i := 21) (v := ?v19_21) rfl rfl (by kernel_rfl) (by kernel_rfl) (by kernel_rfl) (fun _ _ _ h => h) (yieldsFG (by rfl) (fun w => ?h19_21) (fun w => rfl)) ?r19_21
   case h19_21 => go_simp; try with_reducible rfl
   try simp only [Act.put, sA, sZ, sS]
   refine wpAnyIn_takeF (i := 22) (v := ?v19_22) rfl rfl (by kernel_rfl) (by kernel_rfl) (by kernel_rfl) (fun _ _ _ h => h) (yieldsFG (by rfl) (fun w => ?h19_22) (fun w => rfl)) ?r19_22
   case h19_22 => go_simp; try with_reducible rfl
   try simp only [Act.put, sA, sZ, sS]
   refine wpAnyIn_takeF (i := 23) (v := ?v19_23) rfl rfl (by kernel_rfl) (by kernel_rfl) (by kernel_rfl) (fun _ _ _ h => h) (yieldsFG (by rfl) (fun w => ?h19_23) (fun w => rfl)) ?r19_23
   case h19_23 => go_simp; try with_reducible rfl
   try simp only [Act.put, sA, sZ, sS]
   refine wpAnyIn_takeF (i := 24) (v := ?v19_24) rfl rfl (by kernel_rfl) (by kernel_rfl) (by kernel_rfl) (fun _ _ _ h => h) (yieldsFG (by rfl) (fun w => ?h19_24) (fun w => rfl)) ?r19_24
   case h19_24 => go_simp; try with_reducible rfl
   try simp only [Act.put, sA, sZ, sS]
   have hal : all = [] ++ snapThg m bm :: segThgs bs off 0 m.segs := by rw [← HA.out]; unfold thgs; rw [if_neg hq]; rfl
   have hy := HY.out [] (snapThg m bm) _ hal W0.drew #[(snapThg m bm).val] HJ1.out (Nat.le_refl _) rfl
   have Hy := Lib.hid hy
   clear hy hqb
   refine wpAnyIn_uponG (i := 25) rfl (by kernel_rfl) rfl (by rfl) ?hu ?ru
   case hu => first | (intro f hf; exact trivial) | (intro f hf; cases hf)
   case' ru => go_simp
   refine uponIn_yield Hy.out ?_
   rintro e W' (⟨rfl, hk, hj⟩ | ⟨rfl, hk, hj⟩)
   ·refine ⟨true, rfl, ?_⟩
    try simp only [Act.put, sA, sZ, sS]
    have T2 := T1.kept hk
    have hsz2 : W0.heap.size ≤ W'.heap.size := hk.size
    have HJ2 := Lib.hid hj
    clear hk hj Hy
    refine wpAnyIn_takeF (i := 26) (v := ?v20_26) rfl rfl (by kernel_rfl) (by kernel_rfl) (by kernel_rfl) (fun _ _ _ h => h) (yieldsFG (by rfl) (fun w => ?h20_26) (fun w => rfl)) ?r20_26
    case h20_26 => go_simp; try with_reducible rfl
    try simp only [Act.put, sA, sZ, sS]
    refine wpAnyIn_takeF (i := 27) (v := ?v20_27) rfl rfl (by kernel_rfl) (by kernel_rfl) (by kernel_rfl) (fun _ _ _ h => h) (yieldsFG (by rfl) (fun w => ?h20_27) (fun w => rfl)) ?r20_27
    case h20_27 => go_simp; try with_reducible rfl
    try simp only [Act.put, sA, sZ, sS]
    refine wpAnyIn_done (by kernel_rfl) (noP_normal ?_) _
    gi_wp2
    exact ⟨trivial, rfl, rfl, rfl, ⟨[snapThg m bm], hal, HJ2.out⟩, T2, hsz2⟩
   ·refine ⟨false, rfl, ?_⟩
    try simp only [Act.put, sA, sZ, sS]
    have HJ2 := Lib.hid hj
    clear hk hj Hy
    refine wpAnyIn_takeF (i := 26) (v := ?v21_26) rfl rfl (by kernel_rfl) (by kernel_rfl) (by kernel_rfl) (fun _ _ _ h => h) (yieldsFG (by rfl) (fun w => ?h21_26) (fun w => rfl)) ?r21_26
    case h21_26 => go_simp; try with_reducible rfl
    try simp only [Act.put, sA, sZ, sS]
    refine wpAnyIn_takeF (i := 27) (v := ?v21_27) rfl rfl (by kernel_rfl) (by kernel_rfl) (by kernel_rfl) (fun _ _ _ h => h) (yieldsFG (by rfl) (fun w => ?h21_27) (fun w => rfl)) ?r21_27
    case h21_27 => go_simp; try with_reducible rfl
    try simp only [Act.put, sA, sZ, sS]
    refine wpAnyIn_done (by kernel_rfl) (noP_normal ?_) _
    gi_wp2
    refine bodyPost_ret (results_none rfl _ _ _) rfl ?_
    exact ⟨⟨_, rfl⟩, .inr ⟨[snapThg m bm], ⟨_, hal.symm⟩, HJ2.out⟩⟩
 ·rintro ⟨T, ds⟩ W ⟨rfl, hsz, h0, h1, ⟨pre0, hpre0, hJ0⟩, hTW, hW0⟩
  dsimp only at hsz h0 h1
  have hT := frame_of 61 T hsz
  generalize hU : (fun i => T.getD i undef) = U at hT
  have g0 : U 0 = .func (.yield l) #[] #[] := by rw [← hU]; exact h0
  have g1 : U 1 = .pointer (some ⟨bp, 0, none⟩) := by rw [← hU]; exact h1
  have hT2 : T = #[.func (.yield l) #[] #[], .pointer (some ⟨bp, 0, none⟩), U 2, U 3, U 4, U 5, U 6, U 7, U 8, U 9, U 10, U 11, U 12, U 13, U 14, U 15, U 16, U 17, U 18, U 19, U 20, U 21, U 22, U 23, U 24, U 25, U 26, U 27, U 28, U 29, U 30, U 31, U 32, U 33, U 34, U 35, U 36, U 37, U 38, U 39, U 40, U 41, U 42, U 43, U 44, U 45, U 46, U 47, U 48, U 49, U 50, U 51, U 52, U 53, U 54, U 55, U 56, U 57, U 58, U 59, U 60] := by rw [hT]; show (#[U 0, U 1, U 2, U 3, U 4, U 5, U 6, U 7, U 8, U 9, U 10, U 11, U 12, U 13, U 14, U 15, U 16, U 17, U 18, U 19, U 20, U 21, U 22, U 23, U 24, U 25, U 26, U 27, U 28, U 29, U 30, U 31, U 32, U 33, U 34, U 35, U 36, U 37, U 38, U 39, U 40, U 41, U 42, U 43, U 44, U 45, U 46, U 47, U 48, U 49, U 50, U 51, U 52, U 53, U 54, U 55, U 56, U 57, U 58, U 59, U 60] : Array Value) = _; rw [g0, g1]
  clear hT hU hsz g0 h0 g1 h1
  subst hT2
  have c0 := hTW.p
  have c5 := hTW.sl
  have HP0 := Lib.hid hpre0
  have HJ0 := Lib.hid hJ0
  clear hpre0 hJ0
  gi_wp2
  gi_loopw [38, 3, 4] (fun j u3 u4 W' => ∃ (k : Nat) (pre : List Thg), j = .int .i64 k ∧ k ≤ m.segs.length ∧ Hid (all = pre ++ segThgs bs off k (m.segs.drop k)) ∧ Hid (J pre W') ∧ ThW m A c bp bm bs off W' ∧ W0.heap.size ≤ W'.heap.size) (fun j _ _ _ => m.segs.length - (intOf j).toNat)
  case atStart => exact ⟨0, pre0, rfl, Nat.zero_le _, HP0, HJ0, hTW, hW0⟩
  case round =>
   obtain ⟨k, pre, rfl, hk, HP, HJ, hTr, hsz⟩ := hrel
   by_cases hlt : k < m.segs.length
   ·obtain rfl := hTr.at_ (by omega)
    obtain ⟨s0, s1, s2, s3⟩ := hTr.cells k hlt
    have hP := HP.out
    rw [List.drop_eq_getElem_cons hlt, segThgs] at hP
    obtain ⟨s, hs⟩ : ∃ s, m.segs[k] = s := ⟨_, rfl⟩
    rw [hs] at s0 s1 s2 s3 hP
    have HPs := Lib.hid hP
    have HTr := Lib.hid hTr
    have hkz : (k : Int) < (m.segs.length : Int) := by omega
    clear hs hP c0 c5 hTW hW0
    gi_wp2
    have hE1 : Ext wr ((wr.alloc (.cells #[.int .i64 s.seq, .int .i64 s.fmt, .int .i64 s.first, .int .i64 s.count] 71)).drew) := Ext.drew (Ext.alloc (Ext.refl _) _)
    have hbx : Blk ((wr.alloc (.cells #[.int .i64 s.seq, .int .i64 s.fmt, .int .i64 s.first, .int .i64 s.count] 71)).drew) wr.heap.size 71 #[.int .i64 s.seq, .int .i64 s.fmt, .int .i64 s.first, .int .i64 s.count] := (Blk.new wr _ _).ext (Ext.drew (Ext.refl _))
    obtain ⟨b0, b1, b2, b3⟩ := blk4c hbx
    have T1 := HTr.out.ext hE1
    have HJ1 := Lib.hid (HJm.out _ _ _ HJ.out ((Moves.refl.alloc _).drew : Moves (orOther (fun _ _ => False) W0.heap.size) wr ((wr.alloc (.cells #[.int .i64 s.seq, .int .i64 s.fmt, .int .i64 s.first, .int .i64 s.count] 71)).drew)))
    have hsz1 : W0.heap.size ≤ ((wr.alloc (.cells #[.int .i64 s.seq, .int .i64 s.fmt, .int .i64 s.first, .int .i64 s.count] 71)).drew).heap.size := Nat.le_trans hsz hE1.size
    have hy := HY.out pre (segThg bs off k s) _ HPs.out _ #[(segThg bs off k s).val] HJ1.out hsz1 rfl
    have Hy := Lib.hid hy
    clear hy s0 s1 s2 s3 hE1
    refine wpIn_region_none (by kernel_rfl) ?_
    refine wpAnyIn_takeF (i := 0) (v := ?v23_0) rfl rfl (by kernel_rfl) (by kernel_rfl) (by kernel_rfl) (fun _ _ _ h => h) (yieldsFG (by rfl) (fun w => ?h23_0) (fun w => rfl)) ?r23_0
    case h23_0 => go_simp; try with_reducible rfl
    try simp only [Act.put, sA, sZ, sS]
    refine wpAnyIn_takeF (i := 1) (v := ?v23_1) rfl rfl (by kernel_rfl) (by kernel_rfl) (by kernel_rfl) (fun _ _ _ h => h) (yieldsFG (by rfl) (fun w => ?h23_1) (fun w => rfl)) ?r23_1
    case h23_1 => go_simp; try with_reducible rfl
    try simp only [Act.put, sA, sZ, sS]
    refine wpAnyIn_takeF (i := 3) (v := ?v23_3) rfl rfl (by kernel_rfl) (by kernel_rfl) (by kernel_rfl) (fun _ _ _ h => h) (yieldsFG (by rfl) (fun w => ?h23_3) (fun w => rfl)) ?r23_3
    case h23_3 => go_simp; try with_reducible rfl
    try simp only [Act.put, sA, sZ, sS]
    refine wpAnyIn_takeF (i := 11) (v := ?v23_11) rfl rfl (by kernel_rfl) (by kernel_rfl) (by kernel_rfl) (fun _ _ _ h => h) (yieldsFG (by rfl) (fun w => ?h23_11) (fun w => rfl)) ?r23_11
    case h23_11 => go_simp; try with_reducible rfl
    try simp only [Act.put, sA, sZ, sS]
    refine wpAnyIn_takeC2 (Read6 (⟨wr.heap.size, 0, none⟩, .int .i64 s.seq) (⟨wr.heap.size, 1, none⟩, .int .i64 s.fmt) (⟨wr.heap.size, 2, none⟩, .int .i64 s.first) (⟨wr.heap.size, 3, none⟩, .int .i64 s.count) (⟨bp, 0, none⟩, .pointer (some ⟨bm, 0, none⟩)) (⟨bm, 5, none⟩, .slice (some ⟨bs, off, none⟩) m.segs.length c)) [5, 14, 15, 16] (i := 2) (v := ?v24) rfl rfl (by kernel_rfl) (by kernel_rfl) (by kernel_rfl) (by kernel_rfl) (by kernel_rfl) (fun _ _ _ h => h) (fun w o hw => hw.alloc o) (⟨b0, b1, b2, b3, T1.p, T1.sl⟩) (yieldsCG (by rfl) (fun w hw => ?h24) (fun w => rfl)) ?r24
    case h24 => obtain ⟨g0, g1, g2, g3, g4, g5⟩ := hw; dsimp only at g0 g1 g2 g3 g4 g5; go_simp; try with_reducible rfl
    try simp only [Act.put, sA, sZ, sS]
    refine wpAnyIn_takeC2 (Read6 (⟨wr.heap.size, 0, none⟩, .int .i64 s.seq) (⟨wr.heap.size, 1, none⟩, .int .i64 s.fmt) (⟨wr.heap.size, 2, none⟩, .int .i64 s.first) (⟨wr.heap.size, 3, none⟩, .int .i64 s.count) (⟨bp, 0, none⟩, .pointer (some ⟨bm, 0, none⟩)) (⟨bm, 5, none⟩, .slice (some ⟨bs, off, none⟩) m.segs.length c)) [5, 14, 15, 16] (i := 4) (v := ?v25) rfl rfl (by kernel_rfl) (by kernel_rfl) (by kernel_rfl) (by kernel_rfl) (by kernel_rfl) (fun _ _ _ h => h) (fun w o hw => hw.alloc o) (⟨b0, b1, b2, b3, T1.p, T1.sl⟩) (yieldsCG (by rfl) (fun w hw => ?h25) (fun w => rfl)) ?r25
    case h25 => obtain ⟨g0, g1, g2, g3, g4, g5⟩ := hw; dsimp only at g0 g1 g2 g3 g4 g5; go_simp; try with_reducible rfl
    try simp only [Act.put, sA, sZ, sS]
    refine wpAnyIn_takeF (i := 5) (v := ?v26_5) rfl rfl (by kernel_rfl) (by kernel_rfl) (by kernel_rfl) (fun _ _ _ h => h) (yieldsFG (by rfl) (fun w => ?h26_5) (fun w => rfl)) ?r26_5
    case h26_5 => go_simp; try with_reducible rfl
    try simp only [Act.put, sA, sZ, sS]
    refine wpAnyIn_takeC2 (Read6 (⟨wr.heap.size, 0, none⟩, .int .i64 s.seq) (⟨wr.heap.size, 1, none⟩, .int .i64 s.fmt) (⟨wr.heap.size, 2, none⟩, .int .i64 s.first) (⟨wr.heap.size, 3, none⟩, .int .i64 s.count) (⟨bp, 0, none⟩, .pointer (some ⟨bm, 0, none⟩)) (⟨bm, 5, none⟩, .slice (some ⟨bs, off, none⟩) m.segs.length c)) [14, 15, 16] (i := 6) (v := ?v27) rfl rfl (by kernel_rfl) (by kernel_rfl) (by kernel_rfl) (by kernel_rfl) (by kernel_rfl) (fun _ _ _ h => h) (fun w o hw => hw.alloc o) (⟨b0, b1, b2, b3, T1.p, T1.sl⟩) (yieldsCG (by rfl) (fun w hw => ?h27) (fun w => rfl)) ?r27
    case h27 => obtain ⟨g0, g1, g2, g3, g4, g5⟩ := hw; dsimp only at g0 g1 g2 g3 g4 g5; go_simp; try with_reducible rfl
    try simp only [Act.put, sA, sZ, sS]
    refine wpAnyIn_takeC2 (Read6 (⟨wr.heap.size, 0, none⟩, .int .i64 s.seq) (⟨wr.heap.size, 1, none⟩, .int .i64 s.fmt) (⟨wr.heap.size, 2, none⟩, .int .i64 s.first) (⟨wr.heap.size, 3, none⟩, .int .i64 s.count) (⟨bp, 0, none⟩, .pointer (some ⟨bm, 0, none⟩)) (⟨bm, 5, none⟩, .slice (some ⟨bs, off, none⟩) m.segs.length c)) [8, 9, 10, 12, 13, 14, 15, 16] (i := 7) (v := ?v28) rfl rfl (by kernel_rfl) (by kernel_rfl) (by kernel_rfl) (by kernel_rfl) (by kernel_rfl) (fun _ _ _ h => h) (fun w o hw => hw.alloc o) (⟨b0, b1, b2, b3, T1.p, T1.sl⟩) (yieldsCG (by rfl) (fun w hw => ?h28) (fun w => rfl)) ?r28
    case h28 => obtain ⟨g0, g1, g2, g3, g4, g5⟩ := hw; dsimp only at g0 g1 g2 g3 g4 g5; go_simp; try with_reducible rfl
    try simp only [Act.put, sA, sZ, sS]
    refine wpAnyIn_takeF (i := 8) (v := ?v29_8) rfl rfl (by kernel_rfl) (by kernel_rfl) (by kernel_rfl) (fun _ _ _ h => h) (yieldsFG (by rfl) (fun w => ?h29_8) (fun w => rfl)) ?r29_8
    case h29_8 => go_simp; try with_reducible rfl
    try simp only [Act.put, sA, sZ, sS]
    refine wpAnyIn_takeF (i := 9) (v := ?v29_9) rfl rfl (by kernel_rfl) (by kernel_rfl) (by kernel_rfl) (fun _ _ _ h => h) (yieldsFG (by rfl) (fun w => ?h29_9) (fun w => rfl)) ?r29_9
    case h29_9 => go_simp; try with_reducible rfl
    try simp only [Act.put, sA, sZ, sS]
    refine wpAnyIn_takeC2 (Read6 (⟨wr.heap.size, 0, none⟩, .int .i64 s.seq) (⟨wr.heap.size, 1, none⟩, .int .i64 s.fmt) (⟨wr.heap.size, 2, none⟩, .int .i64 s.first) (⟨wr.heap.size, 3, none⟩, .int .i64 s.count) (⟨bp, 0, none⟩, .pointer (some ⟨bm, 0, none⟩)) (⟨bm, 5, none⟩, .slice (some ⟨bs, off, none⟩) m.segs.length c)) [12, 13, 14, 15, 16] (i := 10) (v := ?v30) rfl rfl (by kernel_rfl) (by kernel_rfl) (by kernel_rfl) (by kernel_rfl) (by kernel_rfl) (fun _ _ _ h => h) (fun w o hw => hw.alloc o) (⟨b0, b1, b2, b3, T1.p, T1.sl⟩) (yieldsCG (by rfl) (fun w hw => ?h30) (fun w => rfl)) ?r30
    case h30 => obtain ⟨g0, g1, g2, g3, g4, g5⟩ := hw; dsimp only at g0 g1 g2 g3 g4 g5; go_simp; try with_reducible rfl
    try simp only [Act.put, sA, sZ, sS]
    refine wpAnyIn_takeF (i := 12) (v := ?v31_12) rfl rfl (by kernel_rfl) (by kernel_rfl) (by kernel_rfl) (fun _ _ _ h => h) (yieldsFG (by rfl) (fun w => ?h31_12) (fun w => rfl)) ?r31_12
    case h31_12 => go_simp; try with_reducible rfl
    try simp only [Act.put, sA, sZ, sS]
    refine wpAnyIn_takeF (i := 13) (v := ?v31_13) rfl rfl (by kernel_rfl) (by kernel_rfl) (by kernel_rfl) (fun _ _ _ h => h) (yieldsFG (by rfl) (fun w => ?h31_13) (fun w => rfl)) ?r31_13
    case h31_13 => go_simp; try with_reducible rfl
    try simp only [Act.put, sA, sZ, sS]
    refine wpAnyIn_takeF (i := 14) (v := ?v31_14) rfl rfl (by kernel_rfl) (by kernel_rfl) (by kernel_rfl) (fun _ _ _ h => h) (yieldsFG (by rfl) (fun w => ?h31_14) (fun w => rfl)) ?r31_14
    case h31_14 => go_simp; try with_reducible rfl
    try simp only [Act.put, sA, sZ, sS]
    refine wpAnyIn_uponG (i := 15) rfl (by kernel_rfl) rfl (by rfl) ?hu2 ?ru2
    case hu2 => first | (intro f hf; exact trivial) | (intro f hf; cases hf)
    case' ru2 => go_simp
    refine uponIn_yield Hy.out ?_
    rintro e W' (⟨rfl, hk', hj⟩ | ⟨rfl, hk', hj⟩)
    ·refine ⟨true, rfl, ?_⟩
     try simp only [Act.put, sA, sZ, sS]
     have T2 := T1.kept hk'
     have hsz2 : W0.heap.size ≤ W'.heap.size := Nat.le_trans hsz1 hk'.size
     have HJ2 := Lib.hid hj
     clear hk' hj Hy b0 b1 b2 b3 hbx T1
     refine wpAnyIn_takeF (i := 16) (v := ?v32_16) rfl rfl (by kernel_rfl) (by kernel_rfl) (by kernel_rfl) (fun _ _ _ h => h) (yieldsFG (by rfl) (fun w => ?h32_16) (fun w => rfl)) ?r32_16
     case h32_16 => go_simp; try with_reducible rfl
     try simp only [Act.put, sA, sZ, sS]
     refine wpAnyIn_done (by kernel_rfl) (noP_normal ?_) _
     gi_wp2
     have hl := T2.len
     have hw : wrap64 ((k : Int) + 1) = ((k + 1 : Nat) : Int) := by unfold wrap64; omega
     rw [hw]
     exact ⟨⟨k + 1, pre ++ [segThg bs off k s], rfl, by omega, Lib.hid (by rw [List.append_assoc]; exact HPs.out), HJ2, T2, hsz2⟩, by simp [intOf]; omega⟩
    ·refine ⟨false, rfl, ?_⟩
     try simp only [Act.put, sA, sZ, sS]
     have HJ2 := Lib.hid hj
     clear hk' hj Hy b0 b1 b2 b3 hbx T1
     refine wpAnyIn_takeF (i := 16) (v := ?v33_16) rfl rfl (by kernel_rfl) (by kernel_rfl) (by kernel_rfl) (fun _ _ _ h => h) (yieldsFG (by rfl) (fun w => ?h33_16) (fun w => rfl)) ?r33_16
     case h33_16 => go_simp; try with_reducible rfl
     try simp only [Act.put, sA, sZ, sS]
     refine wpAnyIn_done (by kernel_rfl) (noP_normal ?_) _
     gi_wp2
     refine bodyPost_ret (results_none rfl _ _ _) rfl ?_
     exact ⟨⟨_, rfl⟩, .inr ⟨pre ++ [segThg bs off k s], ⟨segThgs bs off (k + 1) (m.segs.drop (k + 1)), by rw [List.append_assoc]; exact HPs.out.symm⟩, HJ2.out⟩⟩
   ·obtain rfl : k = m.segs.length := by omega
    have hP := HP.out
    rw [List.drop_length, segThgs, List.append_nil] at hP
    subst hP
    clear HP
    gi_wp2
    refine bodyPost_end (results_none rfl _ _ _) rfl ?_
    exact ⟨⟨_, rfl⟩, .inl HJ.out⟩
end Go.Proofs.YtmecffckghkahaaGreatDoor
