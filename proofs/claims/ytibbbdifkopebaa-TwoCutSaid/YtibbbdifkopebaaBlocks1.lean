/-
  The walk of two.blocks' iterator.
-/
import Derived.Test.YtibbbdifkopebaaBlocksIt
set_option linter.all false
namespace Go.Proofs.Ytibbbdifkopebaa
open Go.RowKit Go.Mv Go.Shelf
attribute [local go_sem] Oper.semAt_some run_store_c128
set_option maxRecDepth 100000

def Bk1I (wo : World) (N l bz : Nat) (p : Nat × Nat) (J : List (List UInt8) → World → Prop) (cs : List (List Ent)) (W : World) : Prop :=
  ∃ zv, J (blockList p cs) W ∧ Boxed W bz 30 zv ∧ PtV zv (chunkP p cs) ∧ Boxed W N 79 (.func (.yield l) #[] #[]) ∧ Hold wo W ∧ N ≤ W.heap.size
theorem Hold.moves {wo W W' : World} {M : Nat → Obj → Prop} (h : Hold wo W) (hm : Moves M W W') (hM : ∀ k o, k < wo.heap.size → o.isCells = true → ¬ M k o) : Hold wo W' := by
  intro q u hq
  have hlt := World.block_lt_of_cell? wo q hq
  exact hm.cell (h q u hq) (fun o _ hc => hM _ o hlt hc)
/-- What the consumer of blocks keeps: all cells but its box, and but new rows of bytes. -/
def BkK (bo n0 : Nat) (k : Nat) (o : Obj) : Prop := o.isCells = true ∧ k ≠ bo ∧ (k < n0 ∨ o.ty ≠ some 5)

set_option maxHeartbeats 1000000 in
theorem blocks1_seq (wo W0 : World) (v : Value) (es : List Ent) (hes : Es wo v es) (ha : allOk es = true) (hlen : es.length ≤ 1000000) (hH : Hold wo W0) (p : Nat × Nat) (z : Value) (hz : PtV z p)
    (bl bz bo : Nat) (hB1 : Boxed W0 bl 23 v) (hB2 : Boxed W0 bz 30 z) (hbl : wo.heap.size ≤ bl) (hbz : wo.heap.size ≤ bz) (hbo : wo.heap.size ≤ bo) (hbo2 : bo < W0.heap.size) (hne1 : bo ≠ bl) (hne2 : bo ≠ bz) :
    Seq Try.prog 53 #[.pointer (some ⟨bl, 0, none⟩), .pointer (some ⟨bz, 0, none⟩)]
      (fun (b : List UInt8) av W => ∃ u, av = #[u] ∧ Bs W u b) (BkK bo wo.heap.size) (fun k o => k = bz ∧ o.ty = some 30) (blockList p (chunks4 es)) W0 := by
  intro l J Jx hJ hJx hY h0
  obtain ⟨A, c, rfl, h1, h2⟩ := SlR.open_ hes
  have c1 := hB1.cell
  have hblt : bl < W0.heap.size := World.block_lt_of_cell? W0 _ c1
  refine (callsIn_wd (ro := none) (n := 9)).1 ?_
  refine callsIn_of_wp_marks Try.func53 rfl trivial ?_ rfl
  simp only [Try.ntmps53, List.size_toArray, List.length_cons, List.length_nil, Nat.reduceAdd, Nat.reduceSub, Array.replicate_succ, Array.replicate_zero, List.push_toArray, List.append_toArray, List.nil_append, List.cons_append]
  gi_wp2_with (refine ⟨trivial, ?_⟩; gi_at_call 54; refine (callsIn_wd.2 (Chunk_any _ _ _ _)).mono ?_; rintro e w' ⟨rfl, rfl⟩)
  have q0 : Boxed (((W0.alloc (.cells #[.func (.yield l) #[] #[]] 79)).alloc (.cells #[.slice A es.length c] 23)).alloc (.cells #[.int .i64 4] 3)) W0.heap.size 79 (.func (.yield l) #[] #[]) := ((Boxed.new W0 _ _).alloc _).alloc _
  have q1 : Boxed (((W0.alloc (.cells #[.func (.yield l) #[] #[]] 79)).alloc (.cells #[.slice A es.length c] 23)).alloc (.cells #[.int .i64 4] 3)) (W0.heap.size + 1) 23 (.slice A es.length c) := by
    have := Boxed.new (W0.alloc (.cells #[.func (.yield l) #[] #[]] 79)) 23 (.slice A es.length c)
    rw [World.size_alloc] at this
    exact this.alloc _
  have q2 : Boxed (((W0.alloc (.cells #[.func (.yield l) #[] #[]] 79)).alloc (.cells #[.slice A es.length c] 23)).alloc (.cells #[.int .i64 4] 3)) (W0.heap.size + 1 + 1) 3 (.int .i64 4) := by
    have := Boxed.new ((W0.alloc (.cells #[.func (.yield l) #[] #[]] 79)).alloc (.cells #[.slice A es.length c] 23)) 3 (.int .i64 4)
    rwa [World.size_alloc, World.size_alloc] at this
  have hE2 : Ext W0 (((W0.alloc (.cells #[.func (.yield l) #[] #[]] 79)).alloc (.cells #[.slice A es.length c] 23)).alloc (.cells #[.int .i64 4] 3)) := Ext.alloc (Ext.alloc (Ext.alloc (Ext.refl _) _) _) _
  have hm2 : Moves (orOther (fun k o => k = bz ∧ o.ty = some 30) W0.heap.size) W0 (((W0.alloc (.cells #[.func (.yield l) #[] #[]] 79)).alloc (.cells #[.slice A es.length c] 23)).alloc (.cells #[.int .i64 4] 3)) := ((Moves.refl.alloc _).alloc _).alloc _
  have hs2 : (((W0.alloc (.cells #[.func (.yield l) #[] #[]] 79)).alloc (.cells #[.slice A es.length c] 23)).alloc (.cells #[.int .i64 4] 3)).heap.size = W0.heap.size + 3 := by simp
  have hbz2 : Boxed (((W0.alloc (.cells #[.func (.yield l) #[] #[]] 79)).alloc (.cells #[.slice A es.length c] 23)).alloc (.cells #[.int .i64 4] 3)) bz 30 z := ((hB2.alloc _).alloc _).alloc _
  have hJ0 := hJ _ _ _ h0 hm2
  have hbzlt : bz < W0.heap.size := World.block_lt_of_cell? W0 _ hB2.cell
  generalize ((W0.alloc (.cells #[.func (.yield l) #[] #[]] 79)).alloc (.cells #[.slice A es.length c] 23)).alloc (.cells #[.int .i64 4] 3) = w2 at *
  have hH2 : Hold wo w2 := fun q u hq => Ext.cell hE2 (hH q u hq)
  refine wp_range (a := ⟨_, _⟩) rfl (enters_of Try.func70 (by kernel_rfl) rfl)
    (fun W1 hb _ => chunk1_seq wo W1 _ es hes hlen (W0.heap.size + 1) (W0.heap.size + 1 + 1) (q1.kept (row := none) (Ext.grown hb none) (by simp)) (q2.kept (row := none) (Ext.grown hb none) (by simp)))
    (fun k o h => h.elim) (fun k o h => by rcases h with h | h <;> exact isCells_of_ty h.2) (fun x av W h => by obtain ⟨u, rfl, _⟩ := h; rfl)
    (Bk1I wo W0.heap.size l bz p J) (fun cd cs W => cd = Code.ret ∧ Jx (blockList p cs) W) ?hI ?hIx ⟨z, hJ0, hbz2, hz, q0, hH2, by omega⟩
    (fun x a' _ => ∃ u, Es wo u x ∧ a' = ⟨#[.func (.yield l) #[] #[], .pointer (some ⟨bl, 0, none⟩), .pointer (some ⟨bz, 0, none⟩), .pointer (some ⟨W0.heap.size, 0, none⟩), u, undef, undef, undef, .slice A es.length c, .func (.func 70) #[] #[.pointer (some ⟨W0.heap.size + 1, 0, none⟩), .pointer (some ⟨W0.heap.size + 1 + 1, 0, none⟩)], u, undef, undef, undef, undef, undef, undef, undef, undef, undef, undef, undef, undef], []⟩)
    (fun _ _ _ _ h _ => h) ?assign ?body ?done ?stop
  case hI =>
    rintro cs X Y ⟨zv, hj, hb, hp, hy, hh, hs⟩ hm
    have hm' : Moves (orOther (fun k o => k = bz ∧ o.ty = some 30) W0.heap.size) X Y := hm.weaken (fun k o h => by rcases h with h | h; exact h.elim; exact .inr ⟨by omega, h.2⟩)
    refine ⟨zv, hJ _ _ _ hj hm', hm.boxed hb ?_, hp, hm.boxed hy ?_, hh.moves hm ?_, Nat.le_trans hs hm.size⟩
    · rintro (h | h)
      · exact h
      · cases h.2
    · rintro (h | h)
      · exact h
      · cases h.2
    · rintro k o _ hc (h | h)
      · exact h
      · rw [hc] at h; cases h.2
  case hIx =>
    rintro cd cs X Y ⟨rfl, hj⟩ hm
    exact ⟨rfl, hJx _ _ _ hj (hm.weaken (fun k o h => by rcases h with h | h; exact h.elim; exact .inr ⟨by omega, h.2⟩))⟩
  case assign =>
    rintro l' pre x post W av K' hx hi hsz ⟨u, rfl, hu⟩ hK
    gi_wp2
    exact hK _ _ Kept.refl hi ⟨u, hu, rfl⟩
  case body =>
    rintro l' pre x post a' W hx hl' hr ⟨zv, hj, hb, hp, hy, hh, hs⟩ hsz ⟨u, hu, rfl⟩
    have hpt := hp.pt
    obtain ⟨z1, z2, rfl, _, _⟩ := hp
    have hux : Es W u x := SlR.keep hu hh
    obtain ⟨A', c', rfl, _, _⟩ := SlR.open_ hu
    have hok : blkOk x = true := chunks4_ok es ha x (by rw [hx]; simp)
    have HB := Lib.hid (Block_ok z1 z2 _ x W hux hok)
    rw [hpt] at HB
    have cb := hb.cell
    have hbw : bz < W.heap.size := World.block_lt_of_cell? W _ cb
    have HI := Lib.hid (show Bk1I wo W0.heap.size l bz p J pre W from ⟨_, hj, hb, ⟨z1, z2, rfl, by assumption, by assumption⟩, hy, hh, hs⟩)
    clear hux hpt
    gi_wp2
    refine ⟨trivial, (callsIn_wd.2 HB.out).mono ?_⟩
    rintro e W2 ⟨v2, vz2, rfl, hpz, ho2, hE⟩
    have HPZ := Lib.hid hpz
    obtain ⟨y1, y2, rfl, _, _⟩ := hpz
    have hb2 : Boxed W2 bz 30 (.complex .f64 z1 z2) := hb.kept (row := none) (Ext.grown hE none) (by simp)
    have hy2 : Boxed W2 W0.heap.size 79 (.func (.yield l) #[] #[]) := hy.kept (row := none) (Ext.grown hE none) (by simp)
    have cb2 := hb2.cell
    have fb2 := hb2.frozen
    have hy3 := hy2.other (show W0.heap.size ≠ bz by omega) (.complex .f64 y1 y2)
    have cy3 := hy3.cell
    gi_wp2
    have hmv : Moves (orOther (fun k o => k = bz ∧ o.ty = some 30) W0.heap.size) W (W2.setCell ⟨bz, 0, none⟩ (.complex .f64 y1 y2)) :=
      (Moves.refl.below hE (Nat.le_refl _)).setCell (fun o ho _ => .inl ⟨rfl, by rw [show W.heap[bz]? = _ from hb] at ho; cases ho; rfl⟩) _
    have hJ3 := hJ _ _ _ hj hmv
    have heq : blockList p (chunks4 es) = blockList p pre ++ blkS (chunkP p pre) x :: blockList (chainP (chunkP p pre) (blkBody x)) post := by rw [hx, blockList_app]; rfl
    have hbs : Bs (W2.setCell ⟨bz, 0, none⟩ (.complex .f64 y1 y2)) v2 (blkS (chunkP p pre) x) := SlR.of_own (ho2.kept (grownBy_setCell' W2 bz (.complex .f64 y1 y2)) (.inr (hb2.not_row (by decide) ho2).symm))
    have hsW3 : W0.heap.size ≤ (W2.setCell ⟨bz, 0, none⟩ (.complex .f64 y1 y2)).heap.size := Nat.le_trans hs hmv.size
    have hyy := hY _ _ _ heq _ #[v2] hJ3 hsW3 ⟨v2, rfl, hbs⟩
    have hb3 := hb2.set (.complex .f64 y1 y2)
    have k1 : Kept (orOther (fun k o => (k = W0.heap.size + 1 ∧ o.ty = some 23) ∨ (k = W0.heap.size + 1 + 1 ∧ o.ty = some 3)) w2.heap.size) W (W2.setCell ⟨bz, 0, none⟩ (.complex .f64 y1 y2)) :=
      (Kept.refl.below hE (Nat.le_refl _)).setCell (fun o ho hc => by
        rintro ((⟨h, _⟩ | ⟨h, _⟩) | ⟨h, _⟩)
        · have : bz = W0.heap.size + 1 := h
          omega
        · have : bz = W0.heap.size + 1 + 1 := h
          omega
        · have : w2.heap.size ≤ bz := h
          omega) _
    have hh3 : Hold wo (W2.setCell ⟨bz, 0, none⟩ (.complex .f64 y1 y2)) := fun q u hq => by
      have hlt := World.block_lt_of_cell? wo q hq
      exact (World.cell?_setCell_other _ _ _ _ (fun e => by rw [← e] at hlt; have : bz < wo.heap.size := hlt; omega)).trans (Ext.cell hE (hh q u hq))
    refine uponIn_yield hyy ?_
    rintro e W4 ⟨hk', hjj⟩
    have k2 := k1.trans (hk'.mono (fun k o h => by
      rcases h with (⟨h, ht⟩ | ⟨h, ht⟩) | ⟨h, ht⟩
      · exact .inl ⟨isCells_of_ty ht, by omega, .inr (by rw [ht]; decide)⟩
      · exact .inl ⟨isCells_of_ty ht, by omega, .inr (by rw [ht]; decide)⟩
      · exact .inr ⟨by omega, ht⟩))
    rcases hjj with ⟨rfl, hj4⟩ | ⟨rfl, hj4⟩
    · refine ⟨true, rfl, ?_⟩
      have HI4 : Hid (Bk1I wo W0.heap.size l bz p J (pre ++ [x]) W4) := by
        refine ⟨.complex .f64 y1 y2, ?_, hk'.boxed hb3 (.inl ⟨rfl, by omega, .inr (by simp [Obj.ty])⟩), ?_, hk'.boxed hy3 (.inl ⟨rfl, by omega, .inr (by simp [Obj.ty])⟩), ?_, Nat.le_trans hsW3 hk'.size⟩
        · rw [blockList_app]; exact hj4
        · rw [chunkP_snoc]; exact HPZ.out
        · intro q u hq
          have hlt := World.block_lt_of_cell? wo q hq
          obtain ⟨o, ho, hc⟩ := cells_of_cell (hh3 q u hq)
          exact hk'.cell (hh3 q u hq) (fun o' ho' => by rw [ho] at ho'; cases ho'; exact .inl ⟨hc, by omega, .inl hlt⟩)
      have K2 := Lib.hid k2
      clear hyy hj4 hk' k2 k1 cb2 cy3
      gi_wp2
      exact ⟨K2.out, HI4.out⟩
    · refine ⟨false, rfl, ?_⟩
      have HJ4 : Hid (Jx (blockList p (pre ++ [x])) W4) := by show Jx _ _; rw [blockList_app]; exact hj4
      have K2 := Lib.hid k2
      clear hyy hj4 hk' k2 k1 cb2 cy3
      gi_wp2
      exact ⟨K2.out, rfl, HJ4.out⟩
  case done =>
    rintro D W hD ⟨zv, hj, hb, hp, hy, hh, hs⟩ hK
    have hmD : Moves (orOther (fun k o => k = bz ∧ o.ty = some 30) W0.heap.size) W (W.putObj D (.deferred none)) := Moves.refl.putObj (fun o ho => .inr ⟨by omega, by rw [hK] at ho; cases ho; rfl⟩) _
    have HJ := Lib.hid (hJ _ _ _ hj hmD)
    clear hj
    gi_wp2
    refine end_mark hK _ (results_none rfl _ _ _) ?_
    exact ⟨⟨_, rfl⟩, .inl HJ.out⟩
  case stop =>
    rintro D cd pre W hD hpre ⟨rfl, hj⟩ hK
    have hmD : Moves (orOther (fun k o => k = bz ∧ o.ty = some 30) W0.heap.size) W (W.putObj D (.deferred none)) := Moves.refl.putObj (fun o ho => .inr ⟨by omega, by rw [hK] at ho; cases ho; rfl⟩) _
    have HJ := Lib.hid (hJx _ _ _ hj hmD)
    have hp2 : blockList p pre <+: blockList p (chunks4 es) := by
      obtain ⟨t, ht⟩ := hpre
      rw [← ht, blockList_app]; exact ⟨_, rfl⟩
    have Hp2 := Lib.hid hp2
    clear hj hp2
    gi_wp2
    refine ret_mark hK _ (results_none rfl _ _ _) ?_
    exact ⟨⟨_, rfl⟩, .inr ⟨_, Hp2.out, HJ.out⟩⟩
end Go.Proofs.Ytibbbdifkopebaa
