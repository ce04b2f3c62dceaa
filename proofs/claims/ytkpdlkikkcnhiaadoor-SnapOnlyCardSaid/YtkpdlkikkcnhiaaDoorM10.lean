/-
  The walk of snap.pieces' iterator.
  The walk of snap.Pieces.
-/
import Derived.Test.YtkpdlkikkcnhiaaDoorM9
set_option linter.all false
namespace Go.Proofs.YtkpdlkikkcnhiaaDoor
open Go.RowKit Go.Mv Go.Shelf
attribute [local go_sem] Oper.semAt_some run_store_c128
set_option maxRecDepth 100000

/-- Pieces, each with the point behind it. -/
def ptsP (z : Nat × Nat) (ps : List (List UInt8)) : Nat × Nat := ps.foldl chainP z
def pieceL (z : Nat × Nat) : List (List UInt8) → List (List UInt8 × (Nat × Nat))
  | [] => []
  | p :: ps => (p, chainP z p) :: pieceL (chainP z p) ps
def pieceB (x : List UInt8 × (Nat × Nat)) : List UInt8 := x.1 ++ fourB x.2
theorem ptsP_snoc (z : Nat × Nat) (ps : List (List UInt8)) (p : List UInt8) : ptsP z (ps ++ [p]) = chainP (ptsP z ps) p := by unfold ptsP; rw [List.foldl_append]; rfl
theorem pieceL_app (a b : List (List UInt8)) : ∀ (z : Nat × Nat), pieceL z (a ++ b) = pieceL z a ++ pieceL (ptsP z a) b := by
  induction a with
  | nil => intro z; rfl
  | cons x a ih => intro z; rw [List.cons_append, pieceL, ih, pieceL]; rfl
theorem pieceL_flat (z : Nat × Nat) (t : List UInt8) : (pieceL z (chunkL 4 t)).flatMap pieceB = piecesS z t := by
  generalize hn : t.length = n
  induction n using Nat.strongRecOn generalizing z t with
  | _ n ih =>
    rcases Nat.eq_zero_or_pos t.length with h | h
    · have : t = [] := List.eq_nil_of_length_eq_zero h
      subst this; rw [chunkL_nil, piecesS_nil]; rfl
    · rw [chunkL_cons 4 t (by decide) h, pieceL, List.flatMap_cons, ih (t.drop 4).length (by rw [List.length_drop]; omega) _ (t.drop 4) rfl, piecesS_cons z t h]
      unfold pieceB
      rw [List.append_assoc]

/-- What the consumer of pieces keeps: all cells but its box. -/
def PcK (bo : Nat) (k : Nat) (o : Obj) : Prop := o.isCells = true ∧ k ≠ bo
def PcM (n0 : Nat) (k : Nat) (o : Obj) : Prop := n0 ≤ k ∧ o.ty = some 62
def PcI (wo : World) (N l : Nat) (z : Nat × Nat) (J : List (List UInt8 × (Nat × Nat)) → World → Prop) (ps : List (List UInt8)) (W : World) : Prop :=
  ∃ zv, J (pieceL z ps) W ∧ Boxed W (N + 1) 62 zv ∧ PtV zv (ptsP z ps) ∧ Boxed W N 61 (.func (.yield l) #[] #[]) ∧ Hold wo W ∧ N ≤ W.heap.size

set_option maxHeartbeats 1000000 in
theorem pieces1_seq (wo W0 : World) (v : Value) (t : List UInt8) (ht : Bs wo v t) (hlen : t.length ≤ 1000000) (hH : Hold wo W0) (bt bo n0 : Nat) (hB1 : Boxed W0 bt 24 v) (hn0 : n0 ≤ W0.heap.size) (hn1 : wo.heap.size ≤ n0) (hbo : wo.heap.size ≤ bo) (hbo2 : bo < W0.heap.size) :
    Seq Tryd.prog 33 #[.pointer (some ⟨bt, 0, none⟩)]
      (fun (x : List UInt8 × (Nat × Nat)) av W => ∃ u, av = #[u, .agg ((fourB x.2).map bv).toArray] ∧ Bs W u x.1 ∧ x.1.length ≤ 4) (PcK bo) (PcM n0) (pieceL (0, 0) (chunkL 4 t)) W0 := by
  intro l J Jx hJ hJx hY h0
  obtain ⟨A, c, rfl, h1, h2⟩ := SlR.open_ ht
  have c1 := hB1.cell
  have hbtlt : bt < W0.heap.size := World.block_lt_of_cell? W0 _ c1
  refine (callsIn_wd (ro := none) (n := 9)).1 ?_
  refine callsIn_of_wp_marks Tryd.func33 rfl trivial ?_ rfl
  simp only [Tryd.ntmps33, List.size_toArray, List.length_cons, List.length_nil, Nat.reduceAdd, Nat.reduceSub, Array.replicate_succ, Array.replicate_zero, List.push_toArray, List.append_toArray, List.nil_append, List.cons_append]
  gi_wp2_with (refine ⟨trivial, ?_⟩; gi_at_call 31; refine (callsIn_wd.2 (ChunkB_any _ _ _ 4 (by decide) _)).mono ?_; rintro e w' ⟨rfl, rfl⟩)
  have q0 : Boxed ((((W0.alloc (.cells #[.func (.yield l) #[] #[]] 61)).alloc (.cells #[.complex .f64 0 0] 62)).alloc (.cells #[.slice A t.length c] 24)).alloc (.cells #[.int .i64 4] 3)) W0.heap.size 61 (.func (.yield l) #[] #[]) := (((Boxed.new W0 _ _).alloc _).alloc _).alloc _
  have qz : Boxed ((((W0.alloc (.cells #[.func (.yield l) #[] #[]] 61)).alloc (.cells #[.complex .f64 0 0] 62)).alloc (.cells #[.slice A t.length c] 24)).alloc (.cells #[.int .i64 4] 3)) (W0.heap.size + 1) 62 (.complex .f64 0 0) := by
    have := Boxed.new (W0.alloc (.cells #[.func (.yield l) #[] #[]] 61)) 62 (.complex .f64 0 0)
    rw [World.size_alloc] at this
    exact (this.alloc _).alloc _
  have q1 : Boxed ((((W0.alloc (.cells #[.func (.yield l) #[] #[]] 61)).alloc (.cells #[.complex .f64 0 0] 62)).alloc (.cells #[.slice A t.length c] 24)).alloc (.cells #[.int .i64 4] 3)) (W0.heap.size + 1 + 1) 24 (.slice A t.length c) := by
    have := Boxed.new ((W0.alloc (.cells #[.func (.yield l) #[] #[]] 61)).alloc (.cells #[.complex .f64 0 0] 62)) 24 (.slice A t.length c)
    rw [World.size_alloc, World.size_alloc] at this
    exact this.alloc _
  have q2 : Boxed ((((W0.alloc (.cells #[.func (.yield l) #[] #[]] 61)).alloc (.cells #[.complex .f64 0 0] 62)).alloc (.cells #[.slice A t.length c] 24)).alloc (.cells #[.int .i64 4] 3)) (W0.heap.size + 1 + 1 + 1) 3 (.int .i64 4) := by
    have := Boxed.new (((W0.alloc (.cells #[.func (.yield l) #[] #[]] 61)).alloc (.cells #[.complex .f64 0 0] 62)).alloc (.cells #[.slice A t.length c] 24)) 3 (.int .i64 4)
    rwa [World.size_alloc, World.size_alloc, World.size_alloc] at this
  have hE2 : Ext W0 ((((W0.alloc (.cells #[.func (.yield l) #[] #[]] 61)).alloc (.cells #[.complex .f64 0 0] 62)).alloc (.cells #[.slice A t.length c] 24)).alloc (.cells #[.int .i64 4] 3)) := Ext.alloc (Ext.alloc (Ext.alloc (Ext.alloc (Ext.refl _) _) _) _) _
  have hm2 : Moves (orOther (PcM n0) W0.heap.size) W0 ((((W0.alloc (.cells #[.func (.yield l) #[] #[]] 61)).alloc (.cells #[.complex .f64 0 0] 62)).alloc (.cells #[.slice A t.length c] 24)).alloc (.cells #[.int .i64 4] 3)) := (((Moves.refl.alloc _).alloc _).alloc _).alloc _
  have hs2 : ((((W0.alloc (.cells #[.func (.yield l) #[] #[]] 61)).alloc (.cells #[.complex .f64 0 0] 62)).alloc (.cells #[.slice A t.length c] 24)).alloc (.cells #[.int .i64 4] 3)).heap.size = W0.heap.size + 4 := by simp
  have hJ0 := hJ _ _ _ h0 hm2
  generalize ((((W0.alloc (.cells #[.func (.yield l) #[] #[]] 61)).alloc (.cells #[.complex .f64 0 0] 62)).alloc (.cells #[.slice A t.length c] 24)).alloc (.cells #[.int .i64 4] 3)) = w2 at *
  have hH2 : Hold wo w2 := fun q u hq => Ext.cell hE2 (hH q u hq)
  refine wp_range (a := ⟨_, _⟩) rfl (enters_of Tryd.func46 (by kernel_rfl) rfl)
    (fun W1 hb _ => chunkB_seq 4 (by decide) (by decide) wo W1 _ t ht hlen (W0.heap.size + 1 + 1) (W0.heap.size + 1 + 1 + 1) (q1.kept (row := none) (Ext.grown hb none) (by simp)) (q2.kept (row := none) (Ext.grown hb none) (by simp)))
    (fun k o h => h.elim) (fun k o h => by rcases h with h | h <;> exact isCells_of_ty h.2) (fun x av W h => by obtain ⟨_, _, rfl, _⟩ := h; rfl)
    (PcI wo W0.heap.size l (0, 0) J) (fun cd ps W => cd = Code.ret ∧ Jx (pieceL (0, 0) ps) W) ?hI ?hIx ⟨_, hJ0, qz, PtV.zero, q0, hH2, by omega⟩
    (fun x a' _ => ∃ b' off', Bs wo (.slice (some ⟨b', off', none⟩) x.length x.length) x ∧ x.length ≤ 4 ∧ a' = ⟨#[.func (.yield l) #[] #[], .pointer (some ⟨bt, 0, none⟩), .pointer (some ⟨W0.heap.size, 0, none⟩), .pointer (some ⟨W0.heap.size + 1, 0, none⟩), .slice (some ⟨b', off', none⟩) x.length x.length, .slice A t.length c, .func (.func 46) #[] #[.pointer (some ⟨W0.heap.size + 1 + 1, 0, none⟩), .pointer (some ⟨W0.heap.size + 1 + 1 + 1, 0, none⟩)], .slice (some ⟨b', off', none⟩) x.length x.length, undef, undef, undef, undef, undef, undef, undef, undef, undef, undef], []⟩)
    (fun _ _ _ _ h _ => h) ?assign ?body ?done ?stop
  case hI =>
    rintro cs X Y ⟨zv, hj, hb, hp, hy, hh, hs⟩ hm
    have hm' : Moves (orOther (PcM n0) W0.heap.size) X Y := hm.weaken (fun k o h => by rcases h with h | h; exact h.elim; exact .inr ⟨by omega, h.2⟩)
    refine ⟨zv, hJ _ _ _ hj hm', hm.boxed hb ?_, hp, hm.boxed hy ?_, hh.moves hm ?_, Nat.le_trans hs hm.size⟩
    · rintro (h | h)
      · exact h
      · cases h.2
    · rintro (h | h)
      · exact h
      · cases h.2
    · rintro k o _ hc (h | h)
      · exact h
      · rw [hc] at h; cases h.2
  case hIx =>
    rintro cd cs X Y ⟨rfl, hj⟩ hm
    exact ⟨rfl, hJx _ _ _ hj (hm.weaken (fun k o h => by rcases h with h | h; exact h.elim; exact .inr ⟨by omega, h.2⟩))⟩
  case assign =>
    rintro l' pre x post W av K' hx hi hsz ⟨b', off', rfl, hu, _, hx4⟩ hK
    gi_wp2
    exact hK _ _ Kept.refl hi ⟨b', off', hu, hx4, rfl⟩
  case body =>
    rintro l' pre x post a' W hx hl' hr ⟨zv, hj, hb, hp, hy, hh, hs⟩ hsz ⟨b', off', hu, hx4, rfl⟩
    have hpt := hp.pt
    obtain ⟨z1, z2, rfl, hz1, hz2⟩ := hp
    have hux : Bs W (.slice (some ⟨b', off', none⟩) x.length x.length) x := SlR.keep hu hh
    have HUX := Lib.hid hux
    have cb := hb.cell
    have hbw : W0.heap.size + 1 < W.heap.size := World.block_lt_of_cell? W _ cb
    have HI := Lib.hid (show PcI wo W0.heap.size l (0, 0) J pre W from ⟨_, hj, hb, ⟨z1, z2, rfl, hz1, hz2⟩, hy, hh, hs⟩)
    have hparts := parts1 hux
    have HP := Lib.hid hparts
    clear hux hz1 hz2 hparts
    gi_wp2_with (refine ⟨trivial, ?_⟩; gi_at_call 34; refine (callsIn_wd.2 (Chain_any z1 z2 _ _ _ HP.out)).mono ?_; rintro e W2 ⟨vz2, rfl, hpz, hE⟩; rw [show [x].flatten = x from by simp, hpt] at hpz; have HPZ := Lib.hid hpz; have hptz := hpz.pt; obtain ⟨y1, y2, rfl, _, _⟩ := hpz; have hEW : Ext W W2 := Ext.trans (Ext.alloc (Ext.refl _) _) hE; have hb2 : Boxed W2 (W0.heap.size + 1) 62 (.complex .f64 z1 z2) := hb.kept (row := none) (Ext.grown hEW none) (by simp); have hy2 : Boxed W2 W0.heap.size 61 (.func (.yield l) #[] #[]) := hy.kept (row := none) (Ext.grown hEW none) (by simp); have cb2 := hb2.cell; have fb2 := hb2.frozen)
    have hb3 : Boxed (W2.setCell ⟨W0.heap.size + 1, 0, none⟩ (.complex .f64 y1 y2)) (W0.heap.size + 1) 62 (.complex .f64 y1 y2) := hb2.set _
    have hy3 : Boxed (W2.setCell ⟨W0.heap.size + 1, 0, none⟩ (.complex .f64 y1 y2)) W0.heap.size 61 (.func (.yield l) #[] #[]) := hy2.other (by omega) _
    have cz3 := hb3.cell
    have cy3 := hy3.cell
    have hmv : Moves (orOther (PcM n0) W0.heap.size) W (W2.setCell ⟨W0.heap.size + 1, 0, none⟩ (.complex .f64 y1 y2)) :=
      (Moves.refl.below hEW (Nat.le_refl _)).setCell (fun o ho _ => .inl ⟨by show n0 ≤ W0.heap.size + 1; omega, by rw [show W.heap[W0.heap.size + 1]? = _ from hb] at ho; cases ho; rfl⟩) _
    have k1 : Kept (orOther (fun k o => (k = W0.heap.size + 1 + 1 ∧ o.ty = some 24) ∨ (k = W0.heap.size + 1 + 1 + 1 ∧ o.ty = some 3)) w2.heap.size) W (W2.setCell ⟨W0.heap.size + 1, 0, none⟩ (.complex .f64 y1 y2)) :=
      (Kept.refl.below hEW (Nat.le_refl _)).setCell (fun o ho hc => by
        rintro ((⟨h, _⟩ | ⟨h, _⟩) | ⟨h, _⟩)
        · have : W0.heap.size + 1 = W0.heap.size + 1 + 1 := h
          omega
        · have : W0.heap.size + 1 = W0.heap.size + 1 + 1 + 1 := h
          omega
        · have : w2.heap.size ≤ W0.heap.size + 1 := h
          omega) _
    have hh3 : Hold wo (W2.setCell ⟨W0.heap.size + 1, 0, none⟩ (.complex .f64 y1 y2)) := fun q u hq => by
      have hlt := World.block_lt_of_cell? wo q hq
      exact (World.cell?_setCell_other _ _ _ _ (fun e => by rw [← e] at hlt; have : W0.heap.size + 1 < wo.heap.size := hlt; omega)).trans (Ext.cell hEW (hh q u hq))
    have heq : pieceL (0, 0) (chunkL 4 t) = pieceL (0, 0) pre ++ (x, chainP (ptsP (0, 0) pre) x) :: pieceL (chainP (ptsP (0, 0) pre) x) post := by rw [hx, pieceL_app, pieceL]
    have hW3s : (W2.setCell ⟨W0.heap.size + 1, 0, none⟩ (.complex .f64 y1 y2)).heap.size = W2.heap.size := by simp [World.setCell]
    have fin : ∀ W5 : World, Ext (W2.setCell ⟨W0.heap.size + 1, 0, none⟩ (.complex .f64 y1 y2)) W5 → ∃ R : Ending → World → Prop, Mv.YieldsAt Tryd.prog l #[.slice (some ⟨b', off', none⟩) x.length x.length, .agg ((fourB (chainP (ptsP (0, 0) pre) x)).map bv).toArray] W5 R ∧ (∀ e W6, R e W6 → Kept (orOther (fun k o => (k = W0.heap.size + 1 + 1 ∧ o.ty = some 24) ∨ (k = W0.heap.size + 1 + 1 + 1 ∧ o.ty = some 3)) w2.heap.size) W W6 ∧
        ((e = .returned (.bool true) ∧ PcI wo W0.heap.size l (0, 0) J (pre ++ [x]) W6) ∨ (e = .returned (.bool false) ∧ Jx (pieceL (0, 0) (pre ++ [x])) W6))) := by
      intro W5 hE5
      have hJ5 := hJ _ _ _ hj (hmv.below hE5 (Nat.le_refl _))
      have hsz5 : W0.heap.size ≤ W5.heap.size := by have := hEW.size; have := hE5.size; omega
      have hh5 : Hold wo W5 := fun q u hq => Ext.cell hE5 (hh3 q u hq)
      have hb5 : Boxed W5 (W0.heap.size + 1) 62 (.complex .f64 y1 y2) := hb3.kept (row := none) (Ext.grown hE5 none) (by simp)
      have hy5 : Boxed W5 W0.heap.size 61 (.func (.yield l) #[] #[]) := hy3.kept (row := none) (Ext.grown hE5 none) (by simp)
      have hyy := hY _ _ _ heq W5 #[.slice (some ⟨b', off', none⟩) x.length x.length, .agg ((fourB (chainP (ptsP (0, 0) pre) x)).map bv).toArray] hJ5 hsz5 ⟨_, rfl, SlR.keep hu hh5, hx4⟩
      have k5 := k1.below hE5 (Nat.le_refl _)
      refine ⟨_, hyy, ?_⟩
      rintro e W6 ⟨hk', hjj⟩
      have k2 := k5.trans (hk'.mono (fun k o h => by
        rcases h with (⟨h, ht⟩ | ⟨h, ht⟩) | ⟨h, ht⟩
        · exact .inl ⟨isCells_of_ty ht, by omega⟩
        · exact .inl ⟨isCells_of_ty ht, by omega⟩
        · exact .inr ⟨by omega, ht⟩))
      refine ⟨k2, ?_⟩
      rcases hjj with ⟨rfl, hj4⟩ | ⟨rfl, hj4⟩
      · refine .inl ⟨rfl, (.complex .f64 y1 y2), by rw [pieceL_app]; exact hj4, hk'.boxed hb5 (.inl ⟨rfl, by omega⟩), by rw [ptsP_snoc]; exact HPZ.out, hk'.boxed hy5 (.inl ⟨rfl, by omega⟩), ?_, Nat.le_trans hsz5 hk'.size⟩
        intro q u hq
        have hlt := World.block_lt_of_cell? wo q hq
        obtain ⟨o, ho, hc⟩ := cells_of_cell (hh5 q u hq)
        exact hk'.cell (hh5 q u hq) (fun o' ho' => by rw [ho] at ho'; cases ho'; exact .inl ⟨hc, by omega⟩)
      · exact .inr ⟨rfl, by rw [pieceL_app]; exact hj4⟩
    have Fin := Lib.hid fin
    have hf : ∀ Wx : World, Calls Tryd.prog 35 #[(.complex .f64 y1 y2)] Wx fun e w' => e = .returned (.agg ((fourB (chainP (ptsP (0, 0) pre) x)).map bv).toArray) ∧ Ext Wx w' := by
      intro Wx
      have := Four_any y1 y2 Wx
      unfold FourP at this
      rw [hptz] at this
      exact this
    have HF := Lib.hid hf
    have hE33 : Ext (W2.setCell ⟨W0.heap.size + 1, 0, none⟩ (.complex .f64 y1 y2)) (W2.setCell ⟨W0.heap.size + 1, 0, none⟩ (.complex .f64 y1 y2)).drew := Ext.drew (Ext.refl _)
    clear fin hf k1 hmv heq hx hJ hY
    refine wpIn_region_round (by kernel_rfl) (by kernel_rfl) ?_
    refine wpAnyIn_takeF (i := 1) (v := ?v1) rfl rfl (by kernel_rfl) (by kernel_rfl) (by kernel_rfl) (fun _ _ _ h => h) (yieldsF rfl (fun w => ?h1) (fun w => rfl)) ?r1
    case h1 => go_simp; try with_reducible rfl
    case' r1 => skip
    refine wpAnyIn_takeC (Read4 (⟨W0.heap.size + 1, 0, none⟩, .complex .f64 y1 y2) (⟨W0.heap.size + 1, 0, none⟩, .complex .f64 y1 y2) (⟨W0.heap.size, 0, none⟩, .func (.yield l) #[] #[]) (⟨W0.heap.size, 0, none⟩, .func (.yield l) #[] #[])) [3, 4, 5] (i := 2) (v := ?v2) rfl rfl (by kernel_rfl) (by kernel_rfl) (by kernel_rfl) (by kernel_rfl) (by kernel_rfl) (fun _ _ _ h => h) (fun w o hw => hw.alloc o) (⟨cz3, cz3, cy3, cy3⟩) (yieldsC rfl (fun w hw => ?h2) (fun w => rfl)) ?r2
    case h2 => obtain ⟨g0, g1, g2, g3⟩ := hw; dsimp only at g0 g1 g2 g3; go_simp; try with_reducible rfl
    case' r2 => skip
    refine wpAnyIn_vc (i := 0) (j := 3) (vi := ?va3) (f := 35) (args := ?vb3) (wi := ?wa3) (wj := ?wb3) (by kernel_rfl) rfl rfl rfl rfl rfl ?ha3 ?hb3 ?ra3 ?rb3
    case ha3 => go_simp; try (first | with_reducible rfl | (refine ⟨?_, ?_⟩ <;> with_reducible rfl))
    case hb3 => go_simp; try (first | with_reducible rfl | (refine ⟨?_, ?_⟩ <;> with_reducible rfl))
    case' ra3 => skip
    case' rb3 => skip
    · refine (HF.out _).mono ?_
      rintro e W5 ⟨rfl, hE5⟩
      have hE35 := Ext.trans hE33 hE5
      have cy5 := hE35.cell cy3
      refine ⟨_, rfl, ?_⟩
      refine wpAnyIn_run (i := 0) (v := ?v4) (w' := ?w4) rfl (by kernel_rfl) rfl rfl rfl ?h4 ?r4
      case h4 => go_simp; try (first | with_reducible rfl | (refine ⟨?_, ?_⟩ <;> with_reducible rfl))
      case' r4 => skip
      refine wpAnyIn_upon (i := 4) rfl (by kernel_rfl) rfl rfl ?h5 ?r5
      case h5 => first | (intro f hf; exact trivial) | (intro f hf; cases hf)
      case' r5 => go_simp
      obtain ⟨R, hy, hR⟩ := Fin.out W5 hE35
      refine uponIn_yield hy ?_
      rintro e W6 hr
      obtain ⟨k2, ⟨rfl, hI⟩ | ⟨rfl, hj⟩⟩ := hR _ _ hr
      · refine ⟨true, rfl, ?_⟩
        have K2 := Lib.hid k2
        have HI6 := Lib.hid hI
        clear k2 hI hr hR hy
        refine wpAnyIn_run (i := 5) (v := ?v6) (w' := ?w6) rfl (by kernel_rfl) rfl rfl rfl ?h6 ?r6
        case h6 => go_simp; try (first | with_reducible rfl | (refine ⟨?_, ?_⟩ <;> with_reducible rfl))
        case' r6 => skip
        refine wpAnyIn_done (by kernel_rfl) (noP_normal ?_) _
        simp only [Act.put, List.setIfInBounds_toArray, List.set_cons_succ, List.set_cons_zero]
        gi_wp2
        exact ⟨K2.out, HI6.out⟩
      · refine ⟨false, rfl, ?_⟩
        have K2 := Lib.hid k2
        have HJ6 := Lib.hid hj
        clear k2 hj hr hR hy
        refine wpAnyIn_run (i := 5) (v := ?v8) (w' := ?w8) rfl (by kernel_rfl) rfl rfl rfl ?h8 ?r8
        case h8 => go_simp; try (first | with_reducible rfl | (refine ⟨?_, ?_⟩ <;> with_reducible rfl))
        case' r8 => skip
        refine wpAnyIn_done (by kernel_rfl) (noP_normal ?_) _
        simp only [Act.put, List.setIfInBounds_toArray, List.set_cons_succ, List.set_cons_zero]
        gi_wp2
        exact ⟨K2.out, rfl, HJ6.out⟩
    · skip
      refine wpAnyIn_call (i := 3) (f := 35) (args := ?b10) (w' := ?w10) (by kernel_rfl) rfl rfl ?h10 ?r10
      case h10 => go_simp; try (first | with_reducible rfl | (refine ⟨?_, ?_⟩ <;> with_reducible rfl))
      case' r10 => skip
      refine (HF.out _).mono ?_
      rintro e W5 ⟨rfl, hE5⟩
      have hE35 := Ext.trans hE33 hE5
      refine ⟨_, rfl, ?_⟩
      refine wpAnyIn_upon (i := 4) rfl (by kernel_rfl) rfl rfl ?h11 ?r11
      case h11 => first | (intro f hf; exact trivial) | (intro f hf; cases hf)
      case' r11 => go_simp
      obtain ⟨R, hy, hR⟩ := Fin.out W5 hE35
      refine uponIn_yield hy ?_
      rintro e W6 hr
      obtain ⟨k2, ⟨rfl, hI⟩ | ⟨rfl, hj⟩⟩ := hR _ _ hr
      · refine ⟨true, rfl, ?_⟩
        have K2 := Lib.hid k2
        have HI6 := Lib.hid hI
        clear k2 hI hr hR hy
        refine wpAnyIn_run (i := 5) (v := ?v12) (w' := ?w12) rfl (by kernel_rfl) rfl rfl rfl ?h12 ?r12
        case h12 => go_simp; try (first | with_reducible rfl | (refine ⟨?_, ?_⟩ <;> with_reducible rfl))
        case' r12 => skip
        refine wpAnyIn_done (by kernel_rfl) (noP_normal ?_) _
        simp only [Act.put, List.setIfInBounds_toArray, List.set_cons_succ, List.set_cons_zero]
        gi_wp2
        exact ⟨K2.out, HI6.out⟩
      · refine ⟨false, rfl, ?_⟩
        have K2 := Lib.hid k2
        have HJ6 := Lib.hid hj
        clear k2 hj hr hR hy
        refine wpAnyIn_run (i := 5) (v := ?v14) (w' := ?w14) rfl (by kernel_rfl) rfl rfl rfl ?h14 ?r14
        case h14 => go_simp; try (first | with_reducible rfl | (refine ⟨?_, ?_⟩ <;> with_reducible rfl))
        case' r14 => skip
        refine wpAnyIn_done (by kernel_rfl) (noP_normal ?_) _
        simp only [Act.put, List.setIfInBounds_toArray, List.set_cons_succ, List.set_cons_zero]
        gi_wp2
        exact ⟨K2.out, rfl, HJ6.out⟩
  case done =>
    rintro D W hD ⟨zv, hj, hb, hp, hy, hh, hs⟩ hK
    have hmD : Moves (orOther (PcM n0) W0.heap.size) W (W.putObj D (.deferred none)) := Moves.refl.putObj (fun o ho => .inr ⟨by omega, by rw [hK] at ho; cases ho; rfl⟩) _
    have HJ := Lib.hid (hJ _ _ _ hj hmD)
    clear hj
    gi_wp2
    refine end_mark hK _ (results_none rfl _ _ _) ?_
    exact ⟨⟨_, rfl⟩, .inl HJ.out⟩
  case stop =>
    rintro D cd pre W hD hpre ⟨rfl, hj⟩ hK
    have hmD : Moves (orOther (PcM n0) W0.heap.size) W (W.putObj D (.deferred none)) := Moves.refl.putObj (fun o ho => .inr ⟨by omega, by rw [hK] at ho; cases ho; rfl⟩) _
    have HJ := Lib.hid (hJx _ _ _ hj hmD)
    have hp2 : pieceL (0, 0) pre <+: pieceL (0, 0) (chunkL 4 t) := by
      obtain ⟨r, hr⟩ := hpre
      rw [← hr, pieceL_app]; exact ⟨_, rfl⟩
    have Hp2 := Lib.hid hp2
    clear hj hp2
    gi_wp2
    refine ret_mark hK _ (results_none rfl _ _ _) ?_
    exact ⟨⟨_, rfl⟩, .inr ⟨_, Hp2.out, HJ.out⟩⟩
end Go.Proofs.YtkpdlkikkcnhiaaDoor

namespace Go.Proofs.YtkpdlkikkcnhiaaDoor
open Go.RowKit Go.Mv Go.Shelf
attribute [local go_sem] Oper.semAt_some
set_option maxRecDepth 100000

theorem parts3 {W : World} {va vb vc : Value} {a b c : List UInt8} (ha : Bs W va a) (hb : Bs W vb b) (hc : Bs W vc c) : Parts (W.alloc (.cells #[va, vb, vc] 24)) (.slice (some ⟨W.heap.size, 0, none⟩) 3 3) [a, b, c] := by
  refine ⟨[va, vb, vc], rfl, SlR.of_own (own_new W [va, vb, vc] 24 3 rfl (by simp [maxLen]) (Nat.le_refl _)), fun i hi hi' => ?_⟩
  match i, hi with
  | 0, _ => exact Bs.ext ha (Ext.alloc (Ext.refl _) _)
  | 1, _ => exact Bs.ext hb (Ext.alloc (Ext.refl _) _)
  | 2, _ => exact Bs.ext hc (Ext.alloc (Ext.refl _) _)

theorem spieces_any (A : Option Addr) (n c : Nat) (w : World) : Calls Tryd.prog 20 #[.slice A n c] w fun e w' => e = .returned (.func (.func 33) #[] #[.pointer (some ⟨w.heap.size, 0, none⟩)]) ∧ w.alloc (.cells #[.slice A n c] 24) = w' := by
  go_enter Tryd.func20, Tryd.ntmps20
  go_wp2
  go_ret
  exact ⟨rfl, rfl⟩

def PsI (w : World) (pre : List (List UInt8 × (Nat × Nat))) (X : World) : Prop := ∃ v, Boxed X w.heap.size 24 v ∧ X.ownsRow w.heap.size 5 1 v (pre.flatMap pieceB).length ((pre.flatMap pieceB).map bv) ∧ Below w.heap.size w X

set_option maxHeartbeats 1000000 in
theorem Pieces_any (v : Value) (t : List UInt8) (w : World) (ht : Bs w v t) (hlen : t.length ≤ 100000) : Calls Tryd.prog 13 #[v] w (CloneP w (piecesS (0, 0) t)) := by
  obtain ⟨A, c, rfl, h1, h2⟩ := SlR.open_ ht
  refine (callsIn_wd (ro := none) (n := 9)).1 ?_
  refine callsIn_of_wp_marks Tryd.func13 rfl trivial ?_ rfl
  simp only [Tryd.ntmps13, List.size_toArray, List.length_cons, List.length_nil, Nat.reduceAdd, Nat.reduceSub, Array.replicate_succ, Array.replicate_zero, List.push_toArray, List.append_toArray, List.nil_append, List.cons_append]
  have hfl := pieceL_flat (0, 0) t
  have htot := piecesS_len (0, 0) t
  gi_wp2_with (refine ⟨trivial, ?_⟩; gi_at_call 20; refine (callsIn_wd.2 (spieces_any _ _ _ _)).mono ?_; rintro e w' ⟨rfl, rfl⟩)
  have qb : Boxed ((w.alloc (.cells #[.slice none 0 0] 24)).alloc (.cells #[.slice A t.length c] 24)) w.heap.size 24 (.slice none 0 0) := (Boxed.new w _ _).alloc _
  have qt : Boxed ((w.alloc (.cells #[.slice none 0 0] 24)).alloc (.cells #[.slice A t.length c] 24)) (w.heap.size + 1) 24 (.slice A t.length c) := by
    have := Boxed.new (w.alloc (.cells #[.slice none 0 0] 24)) 24 (.slice A t.length c)
    rwa [World.size_alloc] at this
  have hE2 : Ext w ((w.alloc (.cells #[.slice none 0 0] 24)).alloc (.cells #[.slice A t.length c] 24)) := Ext.alloc (Ext.alloc (Ext.refl _) _) _
  have hs2 : ((w.alloc (.cells #[.slice none 0 0] 24)).alloc (.cells #[.slice A t.length c] 24)).heap.size = w.heap.size + 2 := by simp
  have h0 : PsI w [] ((w.alloc (.cells #[.slice none 0 0] 24)).alloc (.cells #[.slice A t.length c] 24)) := ⟨_, qb, World.ownsRow_nil _ _ _ _, hE2⟩
  generalize (w.alloc (.cells #[.slice none 0 0] 24)).alloc (.cells #[.slice A t.length c] 24) = w2 at *
  refine wp_range (a := ⟨_, _⟩) rfl (enters_of Tryd.func33 (by kernel_rfl) rfl)
    (fun W1 hb hs => pieces1_seq w W1 _ t ht (by omega) (fun q u hc => Ext.cell (Ext.trans hE2 hb) hc) (w.heap.size + 1) w.heap.size w2.heap.size (qt.kept (row := none) (Ext.grown hb none) (by simp)) hb.size (by omega) (Nat.le_refl _) (by have := hb.size; omega))
    (fun k o h => isCells_of_ty h.2) (fun k o h => h.1) (fun x av W h => by obtain ⟨u, rfl, _⟩ := h; rfl)
    (PsI w) (fun _ _ _ => False) ?hI (fun _ _ _ _ h _ => h) h0
    (fun x a' W => ∃ u q, Bs W u x.1 ∧ x.1.length ≤ 4 ∧ Bs W (.slice (some ⟨q, 0, none⟩) 4 4) (fourB x.2) ∧ a' = ⟨#[.slice A t.length c, undef, .pointer (some ⟨w.heap.size, 0, none⟩), u, .pointer (some ⟨q, 0, none⟩), .slice A t.length c, .func (.func 33) #[] #[.pointer (some ⟨w.heap.size + 1, 0, none⟩)], u, .agg ((fourB x.2).map bv).toArray, undef, undef, undef, undef, undef, undef], []⟩)
    ?hAx ?assign ?body ?done ?stop
  case hI =>
    rintro s X Y ⟨v1, hv, hr, hB⟩ hm
    refine ⟨v1, hm.boxed hv ?_, hm.ownsRow hr ?_, hm.belowOf hB ?_ (Nat.le_refl _)⟩
    · rintro (h | h)
      · cases h.2
      · cases h.2
    · rintro k cur _ (h | h)
      · cases h.2
      · cases h.2
    · rintro k o hk (h | h)
      · have := h.1; omega
      · have := h.1; omega
  case hAx =>
    rintro x a' X Y ⟨u, q, hu, hx4, hq, rfl⟩ hm
    refine ⟨u, q, SlR.keep hu (fun q t hq => hm.cell hq (fun o ho hc => ?_)), hx4, SlR.keep hq (fun q t hq => hm.cell hq (fun o ho hc => ?_)), rfl⟩
    all_goals
      rintro (h | h)
      · exact h
      · rw [hc] at h; cases h.2
  case assign =>
    rintro l pre x post W av K' hx hi hsz ⟨u, rfl, hu, hx4⟩ hK
    obtain ⟨f0, f1, f2, f3, hf⟩ := four_list x.2
    rw [hf]
    have Hx := Lib.hid hx
    have Hf := Lib.hid hf
    clear hx hf
    simp only [List.map_cons, List.map_nil, bv]
    obtain ⟨v1, hv, hr, hB⟩ := hi
    have Hi : Hid (PsI w pre (W.alloc (.cells #[.int .u8 (f0.toNat : Int), .int .u8 (f1.toNat : Int), .int .u8 (f2.toNat : Int), .int .u8 (f3.toNat : Int)] 49))) := ⟨v1, hv.alloc _, hr.alloc _, Below.alloc hB hB.size _⟩
    have hbn : Bs (W.alloc (.cells #[.int .u8 (f0.toNat : Int), .int .u8 (f1.toNat : Int), .int .u8 (f2.toNat : Int), .int .u8 (f3.toNat : Int)] 49)) (.slice (some ⟨W.heap.size, 0, none⟩) 4 4) (fourB x.2) := by
      rw [Hf.out]
      exact blk_slice (cs := [f0, f1, f2, f3].map bv) (Blk.new W _ _) rfl (by simp [maxLen])
    have HBN := Lib.hid hbn
    have HU : Hid (Bs (W.alloc (.cells #[.int .u8 (f0.toNat : Int), .int .u8 (f1.toNat : Int), .int .u8 (f2.toNat : Int), .int .u8 (f3.toNat : Int)] 49)) u x.1) := Bs.ext hu (Ext.alloc (Ext.refl _) _)
    clear hbn hu hv hr hB
    gi_wp2
    exact hK _ _ (Kept.refl.alloc _) Hi.out ⟨u, W.heap.size, HU.out, hx4, HBN.out, by rw [Hf.out]; rfl⟩
  case body =>
    rintro l pre x post a' W hx hl hr ⟨v1, hv, hrow, hB⟩ hsz ⟨u, q, hu, hx4, hq, rfl⟩
    have hpl : (pre.flatMap pieceB).length + (x.1.length + 4) ≤ 20000000 := by
      have := congrArg (fun l => (List.flatMap pieceB l).length) hx
      simp only [hfl, List.flatMap_append, List.flatMap_cons, List.length_append, pieceB, fourB_len] at this
      omega
    have hfl2 : (pre ++ [x]).flatMap pieceB = pre.flatMap pieceB ++ (x.1 ++ fourB x.2) := by simp [pieceB]
    have Hfl := Lib.hid hfl2
    clear hfl2 hx hfl htot
    generalize pre.flatMap pieceB = Q at *
    obtain ⟨A1, cc1, rfl, _, _⟩ := SlR.open_ (SlR.of_own hrow)
    have hu0 := hu
    obtain ⟨A2, cc2, rfl, _, _⟩ := SlR.open_ hu
    have hc := hv.cell
    have hv' : Boxed W.drew w.heap.size 24 (.slice A1 Q.length cc1) := hv
    have hp3 : Parts (W.drew.alloc (.cells #[.slice A1 Q.length cc1, .slice A2 x.1.length cc2, .slice (some ⟨q, 0, none⟩) 4 4] 24)) (.slice (some ⟨W.heap.size, 0, none⟩) 3 3) [Q, x.1, fourB x.2] := parts3 (W := W.drew) (Bs.ext (SlR.of_own hrow : Bs W (.slice A1 Q.length cc1) Q) (Ext.drew (Ext.refl _))) (Bs.ext hu0 (Ext.drew (Ext.refl _))) (Bs.ext hq (Ext.drew (Ext.refl _)))
    have hfl3 : [Q, x.1, fourB x.2].flatten = Q ++ (x.1 ++ fourB x.2) := by simp
    have Hp3 := Lib.hid hp3
    have Hfl3 := Lib.hid hfl3
    have hfl4 : (fourB x.2).length = 4 := fourB_len _
    have hB' := Lib.hid hB
    clear hp3 hfl3 hu hu0 hq hrow hB
    gi_wp2
    refine wpIn_region_round (by kernel_rfl) (by kernel_rfl) ?_
    refine wpAnyIn_takeF (i := 1) (v := ?v1) rfl rfl (by kernel_rfl) (by kernel_rfl) (by kernel_rfl) (fun _ _ _ h => h) (yieldsF rfl (fun w => ?h1) (fun w => rfl)) ?r1
    case h1 => go_simp; try with_reducible rfl
    case' r1 => skip
    refine wpAnyIn_takeF (i := 2) (v := ?v2) rfl rfl (by kernel_rfl) (by kernel_rfl) (by kernel_rfl) (fun _ _ _ h => h) (yieldsF rfl (fun w => ?h2) (fun w => rfl)) ?r2
    case h2 => go_simp; try with_reducible rfl
    case' r2 => skip
    refine wpAnyIn_run (i := 0) (v := ?v3) (w' := ?w3) rfl (by kernel_rfl) rfl rfl rfl ?h3 ?r3
    case h3 => go_simp; try (first | with_reducible rfl | (refine ⟨?_, ?_⟩ <;> with_reducible rfl))
    case' r3 => skip
    refine wpAnyIn_run (i := 3) (v := ?v4) (w' := ?w4) rfl (by kernel_rfl) rfl rfl rfl ?h4 ?r4
    case h4 => go_simp; try (first | with_reducible rfl | (refine ⟨?_, ?_⟩ <;> with_reducible rfl))
    case' r4 => skip
    refine wpAnyIn_call (i := 4) (f := 21) (args := ?b5) (w' := ?w5) (by kernel_rfl) rfl rfl ?h5 ?r5
    case h5 => go_simp; try (first | with_reducible rfl | (refine ⟨?_, ?_⟩ <;> with_reducible rfl))
    case' r5 => skip
    have hcat := Concat_any _ _ _ Hp3.out (by rw [Hfl3.out, List.length_append, List.length_append, hfl4]; omega)
    rw [Hfl3.out] at hcat
    refine hcat.mono ?_
    rintro e w1 ⟨v', rfl, ho1, hE1⟩
    obtain ⟨A3, cc3, rfl, _, _⟩ := SlR.open_ (SlR.of_own ho1)
    have hEW : Ext W w1 := Ext.trans (Ext.alloc (Ext.drew (Ext.refl _)) _) hE1
    have hv1 : Boxed w1 w.heap.size 24 (.slice A1 Q.length cc1) := hv.kept (row := none) (Ext.grown hEW none) (by simp)
    have cv1 := hv1.cell
    have fv1 := hv1.frozen
    refine ⟨_, rfl, ?_⟩
    clear hcat
    refine wpAnyIn_skip (i := 5) (w' := ?w6) rfl (by kernel_rfl) rfl rfl rfl ?h6 ?r6
    case h6 => go_simp; try (first | with_reducible rfl | (refine ⟨?_, ?_⟩ <;> with_reducible rfl))
    case' r6 => skip
    refine wpAnyIn_done (by kernel_rfl) (noP_normal ?_) _
    simp only [Act.put, List.setIfInBounds_toArray, List.set_cons_succ, List.set_cons_zero]
    gi_wp2
    have hll : (Q ++ (x.1 ++ fourB x.2)).length = Q.length + (x.1.length + 4) := by rw [List.length_append, List.length_append, hfl4]
    have ho1' : w1.ownsRow w.heap.size 5 1 (.slice A3 (Q.length + (x.1.length + 4)) cc3) (Q ++ (x.1 ++ fourB x.2)).length ((Q ++ (x.1 ++ fourB x.2)).map bv) := by
      have h := own_base ho1 (base' := w.heap.size) (by have := hB'.out.size; simp; omega)
      rw [hll] at h ⊢
      exact h
    refine ⟨(Kept.refl.below hEW (Nat.le_refl _)).setCell (fun o ho _ => ?_) _, _, hv1.set _, ?_, ?_⟩
    · rintro (⟨_, h⟩ | ⟨h, _⟩)
      · exact h rfl
      · have : w2.heap.size ≤ w.heap.size := h
        omega
    · rw [Hfl.out]
      exact ho1'.kept (grownBy_setCell' w1 w.heap.size (.slice A3 (Q.length + (x.1.length + 4)) cc3)) (.inr (hv1.not_row (by decide) ho1').symm)
    · exact (Below.trans hB'.out (hEW.mono hB'.out.size)).setCell (p := ⟨w.heap.size, 0, none⟩) (Nat.le_refl _) _
  case done =>
    rintro D W hD ⟨v1, hv, hrow, hB⟩ hK
    rw [hfl] at hrow
    obtain ⟨q, hq⟩ : ∃ q, piecesS (0, 0) t = q := ⟨_, rfl⟩
    rw [hq] at hrow
    have Hq := Lib.hid hq
    clear hfl hq htot
    obtain ⟨A1, cc1, rfl, _, _⟩ := SlR.open_ (SlR.of_own hrow)
    have hc := hv.cell
    have hf := hv.frozen
    gi_wp2
    have hrow2 := hrow.kept (grownBy_setCell' W w.heap.size (.slice A1 q.length cc1)) (.inr (hv.not_row (by decide) hrow).symm)
    have hv2 := hv.set (.slice A1 q.length cc1)
    have hK2 := heap_setCell_obj hK rfl ⟨w.heap.size, 0, none⟩ (.slice A1 q.length cc1)
    have hcd := cell_putObj hv2.cell hK2 rfl (.deferred none)
    refine ret_mark hK2 (.slice A1 q.length cc1) (by simp [results, Tryd.results13, go_sem, hcd]) ⟨_, rfl, by rw [Hq.out]; exact ownsRow_putObj hrow2 (.deferred none) hK2 rfl, ?_⟩
    exact below_putObj (hB.setCell (p := ⟨w.heap.size, 0, none⟩) (Nat.le_refl _) _) (by omega) _
  case stop =>
    rintro D c pre W _ _ h _
    exact h.elim
end Go.Proofs.YtkpdlkikkcnhiaaDoor
