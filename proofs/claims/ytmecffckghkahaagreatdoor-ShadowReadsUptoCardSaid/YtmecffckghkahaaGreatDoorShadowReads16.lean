/- Merged: Pieces Text Puts2 Put -/
import Derived.Test.YtmecffckghkahaaGreatDoorShadowReads15
set_option linter.all false
set_option maxHeartbeats 8000000
namespace Go.Proofs.YtmecffckghkahaaGreatDoor
open Go.RowKit Go.Mv Go.Shelf
attribute [local go_sem] Oper.semAt_some
set_option maxRecDepth 100000
theorem parts3 {W : World} {va vb vc : Value} {a b c : List UInt8} (ha : Bs W va a) (hb : Bs W vb b) (hc : Bs W vc c) : Parts (W.alloc (.cells #[va, vb, vc] 43)) (.slice (some ⟨W.heap.size, 0, none⟩) 3 3) [a, b, c] := by
 refine ⟨[va, vb, vc], rfl, SlR.of_own (own_new W [va, vb, vc] 43 3 rfl (by simp [maxLen]) (Nat.le_refl _)), fun i hi hi' => ?_⟩
 match i, hi with
 | 0, _ => exact Bs.ext ha (Ext.alloc (Ext.refl _) _)
 | 1, _ => exact Bs.ext hb (Ext.alloc (Ext.refl _) _)
 | 2, _ => exact Bs.ext hc (Ext.alloc (Ext.refl _) _)
theorem spieces_any (A : Option Addr) (n c : Nat) (w : World) : Calls Tryz.prog 134 #[.slice A n c] w fun e w' => e = .returned (.func (.func 143) #[] #[.pointer (some ⟨w.heap.size, 0, none⟩)]) ∧ w.alloc (.cells #[.slice A n c] 43) = w' := by
 go_enter Tryz.func134, Tryz.ntmps134
 go_wp2
 go_ret
 exact ⟨rfl, rfl⟩
def PsI (w : World) (pre : List (List UInt8 × (Nat × Nat))) (X : World) : Prop := ∃ v, Boxed X w.heap.size 43 v ∧ X.ownsRow w.heap.size 5 1 v (pre.flatMap pieceB).length ((pre.flatMap pieceB).map bv) ∧ Below w.heap.size w X
theorem Pieces_any (v : Value) (t : List UInt8) (w : World) (ht : Bs w v t) (hlen : t.length ≤ 100000) : Calls Tryz.prog 112 #[v] w (CloneP w (piecesS (0, 0) t)) := by
 obtain ⟨A, c, rfl, h1, h2⟩ := SlR.open_ ht
 refine (callsIn_wd (ro := none) (n := 9)).1 ?_
 refine callsIn_of_wp_marks Tryz.func112 rfl trivial ?_ rfl
 simp only [Tryz.ntmps112, List.size_toArray, List.length_cons, List.length_nil, Nat.reduceAdd, Nat.reduceSub, Array.replicate_succ, Array.replicate_zero, List.push_toArray, List.append_toArray, List.nil_append, List.cons_append]
 have hfl := pieceL_flat (0, 0) t
 have htot := piecesS_len (0, 0) t
 gi_wp2_with (refine ⟨trivial, ?_⟩; gi_at_call 134; refine (callsIn_wd.2 (spieces_any _ _ _ _)).mono ?_; rintro e w' ⟨rfl, rfl⟩)
 have qb : Boxed ((w.alloc (.cells #[.slice none 0 0] 43)).alloc (.cells #[.slice A t.length c] 43)) w.heap.size 43 (.slice none 0 0) := (Boxed.new w _ _).alloc _
 have qt : Boxed ((w.alloc (.cells #[.slice none 0 0] 43)).alloc (.cells #[.slice A t.length c] 43)) (w.heap.size + 1) 43 (.slice A t.length c) := by
  have := Boxed.new (w.alloc (.cells #[.slice none 0 0] 43)) 43 (.slice A t.length c)
  rwa [World.size_alloc] at this
 have hE2 : Ext w ((w.alloc (.cells #[.slice none 0 0] 43)).alloc (.cells #[.slice A t.length c] 43)) := Ext.alloc (Ext.alloc (Ext.refl _) _) _
 have hs2 : ((w.alloc (.cells #[.slice none 0 0] 43)).alloc (.cells #[.slice A t.length c] 43)).heap.size = w.heap.size + 2 := by simp
 have h0 : PsI w [] ((w.alloc (.cells #[.slice none 0 0] 43)).alloc (.cells #[.slice A t.length c] 43)) := ⟨_, qb, World.ownsRow_nil _ _ _ _, hE2⟩
 generalize (w.alloc (.cells #[.slice none 0 0] 43)).alloc (.cells #[.slice A t.length c] 43) = w2 at *
 refine wp_range (a := ⟨_, _⟩) rfl (enters_of Tryz.func143 (by kernel_rfl) rfl)
  (fun W1 hb hs => pieces1_seq w W1 _ t ht (by omega) (fun q u hc => Ext.cell (Ext.trans hE2 hb) hc) (w.heap.size + 1) w.heap.size w2.heap.size (qt.kept (row := none) (Ext.grown hb none) (by simp)) hb.size (by omega) (Nat.le_refl _) (by have := hb.size; omega))
  (fun k o h => isCells_of_ty h.2) (fun k o h => h.1) (fun x av W h => by obtain ⟨u, rfl, _⟩ := h; rfl)
  (PsI w) (fun _ _ _ => False) ?hI (fun _ _ _ _ h _ => h) h0
  (fun x a' W => ∃ u q, Bs W u x.1 ∧ x.1.length ≤ 4 ∧ Bs W (.slice (some ⟨q, 0, none⟩) 4 4) (fourB x.2) ∧ a' = ⟨#[.slice A t.length c, undef, .pointer (some ⟨w.heap.size, 0, none⟩), u, .pointer (some ⟨q, 0, none⟩), .slice A t.length c, .func (.func 143) #[] #[.pointer (some ⟨w.heap.size + 1, 0, none⟩)], u, .agg ((fourB x.2).map bv).toArray, undef, undef, undef, undef, undef, undef], []⟩)
  ?hAx ?assign ?body ?done ?stop
 case hI =>
  rintro s X Y ⟨v1, hv, hr, hB⟩ hm
  refine ⟨v1, hm.boxed hv ?_, hm.ownsRow hr ?_, hm.belowOf hB ?_ (Nat.le_refl _)⟩
  ·rintro (h | h)
   ·cases h.2
   ·cases h.2
  ·rintro k cur _ (h | h)
   ·cases h.2
   ·cases h.2
  ·rintro k o hk (h | h)
   ·have := h.1; omega
   ·have := h.1; omega
 case hAx =>
  rintro x a' X Y ⟨u, q, hu, hx4, hq, rfl⟩ hm
  refine ⟨u, q, SlR.keep hu (fun q t hq => hm.cell hq (fun o ho hc => ?_)), hx4, SlR.keep hq (fun q t hq => hm.cell hq (fun o ho hc => ?_)), rfl⟩
  all_goals
   rintro (h | h)
   ·exact h
   ·rw [hc] at h; cases h.2
 case assign =>
  rintro l pre x post W av K' hx hi hsz ⟨u, rfl, hu, hx4⟩ hK
  obtain ⟨f0, f1, f2, f3, hf⟩ := four_list x.2
  rw [hf]
  have Hx := Lib.hid hx
  have Hf := Lib.hid hf
  clear hx hf
  simp only [List.map_cons, List.map_nil, bv]
  obtain ⟨v1, hv, hr, hB⟩ := hi
  have Hi : Hid (PsI w pre (W.alloc (.cells #[.int .u8 (f0.toNat : Int), .int .u8 (f1.toNat : Int), .int .u8 (f2.toNat : Int), .int .u8 (f3.toNat : Int)] 111))) := ⟨v1, hv.alloc _, hr.alloc _, Below.alloc hB hB.size _⟩
  have hbn : Bs (W.alloc (.cells #[.int .u8 (f0.toNat : Int), .int .u8 (f1.toNat : Int), .int .u8 (f2.toNat : Int), .int .u8 (f3.toNat : Int)] 111)) (.slice (some ⟨W.heap.size, 0, none⟩) 4 4) (fourB x.2) := by
   rw [Hf.out]
   exact blk_slice (cs := [f0, f1, f2, f3].map bv) (Blk.new W _ _) rfl (by simp [maxLen])
  have HBN := Lib.hid hbn
  have HU : Hid (Bs (W.alloc (.cells #[.int .u8 (f0.toNat : Int), .int .u8 (f1.toNat : Int), .int .u8 (f2.toNat : Int), .int .u8 (f3.toNat : Int)] 111)) u x.1) := Bs.ext hu (Ext.alloc (Ext.refl _) _)
  clear hbn hu hv hr hB
  gi_wp2
  exact hK _ _ (Kept.refl.alloc _) Hi.out ⟨u, W.heap.size, HU.out, hx4, HBN.out, by rw [Hf.out]; rfl⟩
 case body =>
  rintro l pre x post a' W hx hl hr ⟨v1, hv, hrow, hB⟩ hsz ⟨u, q, hu, hx4, hq, rfl⟩
  have hpl : (pre.flatMap pieceB).length + (x.1.length + 4) ≤ 40000000 := by
   have := congrArg (fun l => (List.flatMap pieceB l).length) hx
   simp only [hfl, List.flatMap_append, List.flatMap_cons, List.length_append, pieceB, fourB_len] at this
   omega
  have hfl2 : (pre ++ [x]).flatMap pieceB = pre.flatMap pieceB ++ (x.1 ++ fourB x.2) := by simp [pieceB]
  have Hfl := Lib.hid hfl2
  clear hfl2 hx hfl htot
  generalize pre.flatMap pieceB = Q at *
  obtain ⟨A1, cc1, rfl, _, _⟩ := SlR.open_ (SlR.of_own hrow)
  have hu0 := hu
  obtain ⟨A2, cc2, rfl, _, _⟩ := SlR.open_ hu
  have hc := hv.cell
  have hv' : Boxed W.drew w.heap.size 43 (.slice A1 Q.length cc1) := hv
  have hp3 : Parts (W.drew.alloc (.cells #[.slice A1 Q.length cc1, .slice A2 x.1.length cc2, .slice (some ⟨q, 0, none⟩) 4 4] 43)) (.slice (some ⟨W.heap.size, 0, none⟩) 3 3) [Q, x.1, fourB x.2] := parts3 (W := W.drew) (Bs.ext (SlR.of_own hrow : Bs W (.slice A1 Q.length cc1) Q) (Ext.drew (Ext.refl _))) (Bs.ext hu0 (Ext.drew (Ext.refl _))) (Bs.ext hq (Ext.drew (Ext.refl _)))
  have hfl3 : [Q, x.1, fourB x.2].flatten = Q ++ (x.1 ++ fourB x.2) := by simp
  have Hp3 := Lib.hid hp3
  have Hfl3 := Lib.hid hfl3
  have hfl4 : (fourB x.2).length = 4 := fourB_len _
  have hB' := Lib.hid hB
  clear hp3 hfl3 hu hu0 hq hrow hB
  gi_wp2
  refine wpIn_region_round (by kernel_rfl) (by kernel_rfl) ?_
  refine tkF 1 rfl rfl rfl ?_
  refine tkF 2 rfl rfl rfl ?_
  refine wpAnyIn_run (i := 0) (v := ?v3) (w' := ?w3) rfl (by kernel_rfl) rfl rfl rfl ?h3 ?r3
  case h3 => go_simp; try (first | with_reducible rfl | (refine ⟨?_, ?_⟩ <;> with_reducible rfl))
  refine wpAnyIn_run (i := 3) (v := ?v4) (w' := ?w4) rfl (by kernel_rfl) rfl rfl rfl ?h4 ?r4
  case h4 => go_simp; try (first | with_reducible rfl | (refine ⟨?_, ?_⟩ <;> with_reducible rfl))
  refine wpAnyIn_call (i := 4) (f := 108) (args := ?b5) (w' := ?w5) (by kernel_rfl) rfl rfl ?h5 ?r5
  case h5 => go_simp; try (first | with_reducible rfl | (refine ⟨?_, ?_⟩ <;> with_reducible rfl))
  have hcat := Concat_any _ _ _ Hp3.out (by rw [Hfl3.out, List.length_append, List.length_append, hfl4]; omega)
  rw [Hfl3.out] at hcat
  refine hcat.mono ?_
  rintro e w1 ⟨v', rfl, ho1, hE1⟩
  obtain ⟨A3, cc3, rfl, _, _⟩ := SlR.open_ (SlR.of_own ho1)
  have hEW : Ext W w1 := Ext.trans (Ext.alloc (Ext.drew (Ext.refl _)) _) hE1
  have hv1 : Boxed w1 w.heap.size 43 (.slice A1 Q.length cc1) := hv.kept (row := none) (Ext.grown hEW none) (by simp)
  have cv1 := hv1.cell
  have fv1 := hv1.frozen
  refine ⟨_, rfl, ?_⟩
  clear hcat
  refine wpAnyIn_skip (i := 5) (w' := ?w6) rfl (by kernel_rfl) rfl rfl rfl ?h6 ?r6
  case h6 => go_simp; try (first | with_reducible rfl | (refine ⟨?_, ?_⟩ <;> with_reducible rfl))
  refine wpAnyIn_done (by kernel_rfl) (noP_normal ?_) _
  simp only [Act.put, sA, sZ, sS]
  gi_wp2
  have hll : (Q ++ (x.1 ++ fourB x.2)).length = Q.length + (x.1.length + 4) := by rw [List.length_append, List.length_append, hfl4]
  have ho1' : w1.ownsRow w.heap.size 5 1 (.slice A3 (Q.length + (x.1.length + 4)) cc3) (Q ++ (x.1 ++ fourB x.2)).length ((Q ++ (x.1 ++ fourB x.2)).map bv) := by
   have h := own_base ho1 (base' := w.heap.size) (by have := hB'.out.size; simp; omega)
   rw [hll] at h ⊢
   exact h
  refine ⟨(Kept.refl.below hEW (Nat.le_refl _)).setCell (fun o ho _ => ?_) _, _, hv1.set _, ?_, ?_⟩
  ·rintro (⟨_, h⟩ | ⟨h, _⟩)
   ·exact h rfl
   ·have : w2.heap.size ≤ w.heap.size := h
    omega
  ·rw [Hfl.out]
   exact ho1'.kept (grownBy_setCell' w1 w.heap.size (.slice A3 (Q.length + (x.1.length + 4)) cc3)) (.inr (hv1.not_row (by decide) ho1').symm)
  ·exact (Below.trans hB'.out (hEW.mono hB'.out.size)).setCell (p := ⟨w.heap.size, 0, none⟩) (Nat.le_refl _) _
 case done =>
  rintro D W hD ⟨v1, hv, hrow, hB⟩ hK
  rw [hfl] at hrow
  obtain ⟨q, hq⟩ : ∃ q, piecesS (0, 0) t = q := ⟨_, rfl⟩
  rw [hq] at hrow
  have Hq := Lib.hid hq
  clear hfl hq htot
  obtain ⟨A1, cc1, rfl, _, _⟩ := SlR.open_ (SlR.of_own hrow)
  have hc := hv.cell
  have hf := hv.frozen
  gi_wp2
  have hrow2 := hrow.kept (grownBy_setCell' W w.heap.size (.slice A1 q.length cc1)) (.inr (hv.not_row (by decide) hrow).symm)
  have hv2 := hv.set (.slice A1 q.length cc1)
  have hK2 := heap_setCell_obj hK rfl ⟨w.heap.size, 0, none⟩ (.slice A1 q.length cc1)
  have hcd := cell_putObj hv2.cell hK2 rfl (.deferred none)
  refine ret_mark hK2 (.slice A1 q.length cc1) (by simp [results, Tryz.results112, go_sem, hcd]) ⟨_, rfl, by rw [Hq.out]; exact ownsRow_putObj hrow2 (.deferred none) hK2 rfl, ?_⟩
  exact below_putObj (hB.setCell (p := ⟨w.heap.size, 0, none⟩) (Nat.le_refl _) _) (by omega) _
 case stop =>
  rintro D c pre W _ _ h _
  exact h.elim
end Go.Proofs.YtmecffckghkahaaGreatDoor

namespace Go.Mv
open Go.RowKit
section
variable {P : Program} {ops : Array Oper} {Q : Exit → Act → World → Prop} {md : Region.Mode} {S : World → Prop}
theorem AllReadyH.two {fuel : Nat} {listed : Array Bool} {a : Act} {w : World} {i j : Nat} {o o2 : Oper} (ho : ops.toList[i]? = some o) (ho2 : ops.toList[j]? = some o2) (hr : Region.ready md ops listed = [i, j]) (hw : Region.wanted o (yielded ops a.tmps) = true) (hw2 : Region.wanted o2 (yielded ops a.tmps) = true)
  (h : ∀ K' : Act → World → Prop, Shut (∀ a w, S w → (S w → wpAnyH P md ops Q S fuel (listed.setIfInBounds i true) a w) → K' a w) → Oper.wp P o a w K' Q)
  (h2 : ∀ K' : Act → World → Prop, Shut (∀ a w, S w → (S w → wpAnyH P md ops Q S fuel (listed.setIfInBounds j true) a w) → K' a w) → Oper.wp P o2 a w K' Q) : wpAnyH P md ops Q S (fuel + 1) listed a w :=
 wpAnyH_ready hr (by simp) (AllReadyH.cons (by simpa using ho) (fun K hK => by rw [if_pos hw]; exact h K hK) (AllReadyH.cons (by simpa using ho2) (fun K hK => by rw [if_pos hw2]; exact h2 K hK) AllReadyH.nil))
end
end Go.Mv
namespace Go.Proofs.YtmecffckghkahaaGreatDoor
open Go.RowKit Go.Mv
set_option maxRecDepth 100000
theorem sz_alloc (w : World) (o : Obj) : (w.alloc o).heap.size = w.heap.size + 1 := by
 show (w.heap.push o).size = _
 simp
theorem is5 (W : World) (a b c d e : Int) : Is (W.alloc (.cells #[.int .i64 a, .int .i64 b, .int .i64 c, .int .i64 d, .int .i64 e] 3)) (.slice (some ⟨W.heap.size, 0, none⟩) 5 5) [a, b, c, d, e] :=
 SlR.of_own (own_new W [.int .i64 a, .int .i64 b, .int .i64 c, .int .i64 d, .int .i64 e] 3 5 rfl (by simp [maxLen]) (Nat.le_refl _))
theorem Text_ok (s : Sta) (w : World) (h : s.ok = true) : Calls Tryz.prog 111 #[.agg #[.int .i64 s.idx, .int .i64 s.term, .int .i64 s.sum, .int .i64 s.lvl, .bool s.fin]] w (ShortOk w s.ints) := by
 have H := Lib.hid h
 have Hn := Lib.hid (Sta.nums h)
 have Hi : Hid (s.ints = [s.idx, s.term, s.sum, s.lvl, s.finI]) := rfl
 clear h
 have hb := Blk.new w 24 #[.int .i64 s.idx, .int .i64 s.term, .int .i64 s.sum, .int .i64 s.lvl, .bool s.fin]
 go_enter Tryz.func111, Tryz.ntmps111
 go_wp2_with fail
 refine (Fine_any s _).mono ?_
 rw [H.out]
 rintro e w1 ⟨rfl, hE1⟩
 go_wp2_with fail
 have hX : Ext w (w.alloc (.cells #[.int .i64 s.idx, .int .i64 s.term, .int .i64 s.sum, .int .i64 s.lvl, .bool s.fin] 24)) := Ext.alloc (Ext.refl _) _
 refine wp_region_held_drew (S := fun w' => w'.cell? ⟨w.heap.size, 0, none⟩ = some (.int .i64 s.idx) ∧ w'.cell? ⟨w.heap.size, 1, none⟩ = some (.int .i64 s.term) ∧ w'.cell? ⟨w.heap.size, 2, none⟩ = some (.int .i64 s.sum) ∧ w'.cell? ⟨w.heap.size, 3, none⟩ = some (.int .i64 s.lvl) ∧ w'.cell? ⟨w.heap.size, 4, none⟩ = some (.bool s.fin)) (by kernel_rfl) (blk5 (hb.ext (Ext.drew hE1))) (fun hHeld => ?_)
 refine tkL 0 rfl ?_
 try simp only [Act.put, sA, sZ, sS]
 refine tkL 1 rfl ?_
 try simp only [Act.put, sA, sZ, sS]
 refine tkL 2 rfl ?_
 try simp only [Act.put, sA, sZ, sS]
 refine tkL 3 rfl ?_
 try simp only [Act.put, sA, sZ, sS]
 refine tkL 4 rfl ?_
 try simp only [Act.put, sA, sZ, sS]
 refine tkL 5 rfl ?_
 try simp only [Act.put, sA, sZ, sS]
 refine tkL 6 rfl ?_
 try simp only [Act.put, sA, sZ, sS]
 refine tkL 7 rfl ?_
 try simp only [Act.put, sA, sZ, sS]
 refine tkL 8 rfl ?_
 try simp only [Act.put, sA, sZ, sS]
 refine AllReadyH.one (i := 9) rfl (by kernel_rfl) (by rfl) (fun K hK => ?_)
 go_simp
 refine (final_any s _).mono ?_
 rintro e w2 ⟨rfl, hE2⟩
 have hE02 : Ext (w.alloc (.cells #[.int .i64 s.idx, .int .i64 s.term, .int .i64 s.sum, .int .i64 s.lvl, .bool s.fin] 24)) w2 := Ext.trans (Ext.drew hE1) hE2
 try (go_wp2_with fail)
 refine hK.out _ _ (blk5 (hb.ext hE02)) (fun hHeld => ?_)
 clear hK K
 try simp only [Act.put, sA, sZ, sS]
 refine AllReadyH.one (i := 10) rfl (by kernel_rfl) (by rfl) (fun K hK => ?_)
 go_simp
 refine hK.out _ _ (blk5 (hb.ext (Ext.alloc hE02 _))) (fun hHeld => ?_)
 clear hK K
 try simp only [Act.put, sA, sZ, sS]
 refine AllReadyH.one (i := 11) rfl (by kernel_rfl) (by rfl) (fun K hK => ?_)
 go_simp
 refine (Short_ok _ _ _ (is5 w2 s.idx s.term s.sum s.lvl s.finI) (by rw [← Hi.out]; exact Hn.out) (by simp)).mono ?_
 rw [← Hi.out]
 rintro e w4 ⟨v, rfl, ho, hE4⟩
 try (go_wp2_with fail)
 have hE04 := Ext.trans (Ext.alloc hE02 (.cells #[.int .i64 s.idx, .int .i64 s.term, .int .i64 s.sum, .int .i64 s.lvl, .int .i64 s.finI] 3)) hE4
 refine hK.out _ _ (blk5 (hb.ext hE04)) (fun hHeld => ?_)
 clear hK K
 try simp only [Act.put, sA, sZ, sS]
 refine tkL 12 rfl ?_
 try simp only [Act.put, sA, sZ, sS]
 refine tkL 13 rfl ?_
 try simp only [Act.put, sA, sZ, sS]
 refine tkL 14 rfl ?_
 try simp only [Act.put, sA, sZ, sS]
 refine tkL 15 rfl ?_
 try simp only [Act.put, sA, sZ, sS]
 refine wpAnyH_done (by kernel_rfl) ?_ _
 go_wp2_with fail
 go_ret2
 exact ⟨v, rfl, own_base ho (Ext.trans hX (Ext.alloc hE02 _)).size, Ext.trans hX hE04⟩
theorem is3i (W : World) (a b c : Int) : Is (W.alloc (.cells #[.int .i64 a, .int .i64 b, .int .i64 c] 3)) (.slice (some ⟨W.heap.size, 0, none⟩) 3 3) [a, b, c] :=
 SlR.of_own (own_new W [.int .i64 a, .int .i64 b, .int .i64 c] 3 3 rfl (by simp [maxLen]) (Nat.le_refl _))
def put1 (s : Sta) : List UInt8 := crcPut rT (1 :: (longs [s.idx, s.term, s.sum] ++ [UInt8.ofNat s.lvl.toNat, UInt8.ofNat s.finI.toNat]))
theorem bs1T (W : World) (a : UInt8) (n : Nat) (h : n = a.toNat) : Bs (W.alloc (.cells #[.int .u8 n] 5)) (.slice (some ⟨W.heap.size, 0, none⟩) 1 1) [a] := by
 subst h
 exact SlR.of_own (own_new W [bv a] 5 1 rfl (by simp [maxLen]) (Nat.le_refl _))
theorem bs2 (W : World) (a b : UInt8) : Bs (W.alloc (.cells #[bv a, bv b] 5)) (.slice (some ⟨W.heap.size, 0, none⟩) 2 2) [a, b] :=
 SlR.of_own (own_new W [bv a, bv b] 5 2 rfl (by simp [maxLen]) (Nat.le_refl _))
theorem puts1_any (s : Sta) (w : World) (h : s.ok = true) (hT : TabW rT w) : Calls Tryz.prog 105 #[.agg #[.int .i64 s.idx, .int .i64 s.term, .int .i64 s.sum, .int .i64 s.lvl, .bool s.fin]] w fun e w' => ∃ A c, e = .returned (.slice A (put1 s).length c) ∧ OwnB w' w.heap.size (.slice A (put1 s).length c) (put1 s) ∧ Ext w w' := by
 have HT := Lib.hid hT
 have Hn : Hid (allNum [s.idx, s.term, s.sum] = true) := by
  obtain ⟨h1, h2, h3, _⟩ := Sta.okP h
  exact by simp [Hid, allNum, h1, h2, h3]
 obtain ⟨xl, hxl⟩ : ∃ x, UInt8.ofNat s.lvl.toNat = x := ⟨_, rfl⟩
 obtain ⟨xf, hxf⟩ : ∃ x, UInt8.ofNat s.finI.toNat = x := ⟨_, rfl⟩
 have hwl : IntKind.u8.wrap s.lvl = (xl.toNat : Int) := by subst hxl; rcases (Sta.okP h).2.2.2 with e | e <;> rw [e] <;> rfl
 have hwf : IntKind.u8.wrap s.finI = (xf.toNat : Int) := by subst hxf; rcases s.finP with e | e <;> rw [e] <;> rfl
 have Hps : Hid (put1 s = crcPut rT (1 :: (longs [s.idx, s.term, s.sum] ++ [xl, xf]))) := by subst hxl; subst hxf; rfl
 have Hfe : Hid (([[1], longs [s.idx, s.term, s.sum], [xl, xf]] : List (List UInt8)).flatten = 1 :: (longs [s.idx, s.term, s.sum] ++ [xl, xf])) := by simp [Hid]
 have Hfm : Hid ((1 :: (longs [s.idx, s.term, s.sum] ++ [xl, xf])).length = 18) := by simp [Hid, longs_len]
 have Hfl : Hid (([[1], longs [s.idx, s.term, s.sum], [xl, xf]] : List (List UInt8)).flatten.length = 18) := by rw [Hid, Hfe.out]; exact Hfm.out
 clear h hT hxl hxf
 have hb := Blk.new w 24 #[.int .i64 s.idx, .int .i64 s.term, .int .i64 s.sum, .int .i64 s.lvl, .bool s.fin]
 have hX : Ext w (w.alloc (.cells #[.int .i64 s.idx, .int .i64 s.term, .int .i64 s.sum, .int .i64 s.lvl, .bool s.fin] 24)) := Ext.alloc (Ext.refl _) _
 obtain ⟨g0, g1, g2, g3, g4⟩ := blk5 hb
 go_enter Tryz.func105, Tryz.ntmps105
 go_wp2_with fail
 have hi3 := is3i (w.alloc (.cells #[.int .i64 s.idx, .int .i64 s.term, .int .i64 s.sum, .int .i64 s.lvl, .bool s.fin] 24)) s.idx s.term s.sum
 rw [sz_alloc] at hi3
 refine (Long_ok _ _ _ hi3 Hn.out (by simp)).mono ?_
 rintro e w1 ⟨v, rfl, ho, hE1⟩
 obtain ⟨Av, cv, rfl, -, -⟩ := SlR.open_ (SlR.of_own ho)
 go_wp2_with fail
 have hE01 : Ext (w.alloc (.cells #[.int .i64 s.idx, .int .i64 s.term, .int .i64 s.sum, .int .i64 s.lvl, .bool s.fin] 24)) w1 := Ext.trans (Ext.alloc (Ext.refl _) _) hE1
 clear g0 g1 g2 g3 g4
 refine wp_region_held_drew (S := fun w' => w'.cell? ⟨w.heap.size, 0, none⟩ = some (.int .i64 s.idx) ∧ w'.cell? ⟨w.heap.size, 1, none⟩ = some (.int .i64 s.term) ∧ w'.cell? ⟨w.heap.size, 2, none⟩ = some (.int .i64 s.sum) ∧ w'.cell? ⟨w.heap.size, 3, none⟩ = some (.int .i64 s.lvl) ∧ w'.cell? ⟨w.heap.size, 4, none⟩ = some (.bool s.fin)) (by kernel_rfl) (blk5 (hb.ext (Ext.drew hE01))) (fun hHeld => ?_)
 refine tkL 1 rfl ?_
 try simp only [Act.put, sA, sZ, sS]
 refine tkL 2 rfl ?_
 try simp only [Act.put, sA, sZ, sS]
 refine tkL 3 rfl ?_
 try simp only [Act.put, sA, sZ, sS]
 refine tkL 4 rfl ?_
 try simp only [Act.put, sA, sZ, sS]
 refine tkL 5 rfl ?_
 try simp only [Act.put, sA, sZ, sS]
 refine AllReadyH.two (i := 0) (j := 6) rfl rfl (by kernel_rfl) (by rfl) (by rfl) (fun K hK => ?_) (fun K hK => ?_)
 ·go_simp
  refine hK.out _ _ (blk5 (hb.ext (Ext.drew (Ext.alloc hE01 _)))) (fun hHeld => ?_)
  clear hK K
  try simp only [Act.put, sA, sZ, sS]
  refine AllReadyH.one (i := 6) rfl (by kernel_rfl) (by rfl) (fun K hK => ?_)
  go_simp
  refine (final_any s _).mono ?_
  rintro e w2 ⟨rfl, hE2⟩
  try (go_wp2_with fail)
  have hE12 : Ext (w1.alloc (.cells #[.int .u8 1] 5)) w2 := Ext.trans (Ext.drew (Ext.refl _)) hE2
  refine hK.out _ _ (blk5 (hb.ext (Ext.trans (Ext.alloc hE01 _) hE12))) (fun hHeld => ?_)
  clear hK K
  try simp only [Act.put, sA, sZ, sS]
  refine tkL 7 rfl ?_
  try simp only [Act.put, sA, sZ, sS]
  have hq16 := Bs.ext (bs1T w1 1 1 rfl) hE12
  have hE13 := Ext.trans (Ext.alloc (Ext.refl w1) (.cells #[.int .u8 1] 5)) hE12
  refine AllReadyH.one (i := 8) rfl (by kernel_rfl) (by rfl) (fun K hK => ?_)
  go_simp
  refine hK.out _ _ (blk5 (hb.ext (Ext.alloc (Ext.trans hE01 hE13) _))) (fun hHeld => ?_)
  clear hK K
  try simp only [Act.put, sA, sZ, sS]
  have hq24 := bs2 w2 xl xf
  have hq16' := Bs.ext hq16 (Ext.alloc (Ext.refl _) (.cells #[bv xl, bv xf] 5))
  have hE14 := Ext.alloc hE13 (.cells #[bv xl, bv xf] 5)
  have hvv : Bs (w2.alloc (.cells #[bv xl, bv xf] 5)) (.slice Av (longs [s.idx, s.term, s.sum]).length cv) (longs [s.idx, s.term, s.sum]) := Bs.ext (SlR.of_own ho) hE14
  have hEW := Ext.trans hE01 hE14
  refine AllReadyH.one (i := 9) rfl (by kernel_rfl) (by rfl) (fun K hK => ?_)
  go_simp
  refine hK.out _ _ (blk5 (hb.ext (Ext.alloc hEW _))) (fun hHeld => ?_)
  clear hK K
  try simp only [Act.put, sA, sZ, sS]
  refine AllReadyH.one (i := 10) rfl (by kernel_rfl) (by rfl) (fun K hK => ?_)
  go_simp
  have hp := parts3 hq16' hvv hq24
  simp only [sz_alloc] at hp
  refine (Concat_any _ [[1], longs [s.idx, s.term, s.sum], [xl, xf]] _ hp (by rw [Hfl.out]; omega)).mono ?_
  rintro e w6 ⟨vc, rfl, hoc, hE6⟩
  rw [Hfe.out] at hoc
  try (go_wp2_with fail)
  have hE06 := Ext.trans (Ext.alloc hEW (.cells #[.slice (some ⟨_, 0, none⟩) 1 1, .slice Av (longs [s.idx, s.term, s.sum]).length cv, .slice (some ⟨_, 0, none⟩) 2 2] 43)) hE6
  refine hK.out _ _ (blk5 (hb.ext hE06)) (fun hHeld => ?_)
  clear hK K
  try simp only [Act.put, sA, sZ, sS]
  refine AllReadyH.one (i := 11) rfl (by kernel_rfl) (by rfl) (fun K hK => ?_)
  go_simp
  refine (crcPut_any _ _ _ (SlR.of_own hoc) (by rw [Hfm.out]; omega) (by rw [Hfm.out]; omega) (HT.out.ext (Ext.trans hX hE06))).mono ?_
  rintro e w7 ⟨A7, c7, rfl, ho7, hE7⟩
  try (go_wp2_with fail)
  have hE07 := Ext.trans hE06 hE7
  refine hK.out _ _ (blk5 (hb.ext hE07)) (fun hHeld => ?_)
  clear hK K
  try simp only [Act.put, sA, sZ, sS]
  refine tkL 12 rfl ?_
  try simp only [Act.put, sA, sZ, sS]
  refine wpAnyH_done (by kernel_rfl) ?_ _
  go_wp2_with fail
  go_ret
  have hfin : OwnB w7 w.heap.size (.slice A7 (crcPut rT (1 :: (longs [s.idx, s.term, s.sum] ++ [xl, xf]))).length c7) (crcPut rT (1 :: (longs [s.idx, s.term, s.sum] ++ [xl, xf]))) := own_base ho7 (Ext.trans hX hE06).size
  rw [Hps.out]
  exact ⟨A7, c7, rfl, hfin, Ext.trans hX hE07⟩
 ·go_simp
  refine (final_any s _).mono ?_
  rintro e w2 ⟨rfl, hE2⟩
  try (go_wp2_with fail)
  have hE12 : Ext w1 w2 := Ext.trans (Ext.drew (Ext.refl _)) hE2
  refine hK.out _ _ (blk5 (hb.ext (Ext.trans hE01 hE12))) (fun hHeld => ?_)
  clear hK K
  try simp only [Act.put, sA, sZ, sS]
  refine tkL 7 rfl ?_
  try simp only [Act.put, sA, sZ, sS]
  refine AllReadyH.two (i := 0) (j := 8) rfl rfl (by kernel_rfl) (by rfl) (by rfl) (fun K hK => ?_) (fun K hK => ?_)
  ·go_simp
   refine hK.out _ _ (blk5 (hb.ext (Ext.alloc (Ext.trans hE01 hE12) _))) (fun hHeld => ?_)
   clear hK K
   try simp only [Act.put, sA, sZ, sS]
   have hq16 := bs1T w2 1 1 rfl
   refine AllReadyH.one (i := 8) rfl (by kernel_rfl) (by rfl) (fun K hK => ?_)
   go_simp
   have hE13 := Ext.alloc hE12 (.cells #[.int .u8 1] 5)
   refine hK.out _ _ (blk5 (hb.ext (Ext.alloc (Ext.trans hE01 hE13) _))) (fun hHeld => ?_)
   clear hK K
   try simp only [Act.put, sA, sZ, sS]
   have hq24 := bs2 (w2.alloc (.cells #[.int .u8 1] 5)) xl xf
   rw [sz_alloc] at hq24
   have hq16' := Bs.ext hq16 (Ext.alloc (Ext.refl _) (.cells #[bv xl, bv xf] 5))
   have hE14 := Ext.alloc hE13 (.cells #[bv xl, bv xf] 5)
   have hvv : Bs ((w2.alloc (.cells #[.int .u8 1] 5)).alloc (.cells #[bv xl, bv xf] 5)) (.slice Av (longs [s.idx, s.term, s.sum]).length cv) (longs [s.idx, s.term, s.sum]) := Bs.ext (SlR.of_own ho) hE14
   have hEW := Ext.trans hE01 hE14
   refine AllReadyH.one (i := 9) rfl (by kernel_rfl) (by rfl) (fun K hK => ?_)
   go_simp
   refine hK.out _ _ (blk5 (hb.ext (Ext.alloc hEW _))) (fun hHeld => ?_)
   clear hK K
   try simp only [Act.put, sA, sZ, sS]
   refine AllReadyH.one (i := 10) rfl (by kernel_rfl) (by rfl) (fun K hK => ?_)
   go_simp
   have hp := parts3 hq16' hvv hq24
   simp only [sz_alloc] at hp
   refine (Concat_any _ [[1], longs [s.idx, s.term, s.sum], [xl, xf]] _ hp (by rw [Hfl.out]; omega)).mono ?_
   rintro e w6 ⟨vc, rfl, hoc, hE6⟩
   rw [Hfe.out] at hoc
   try (go_wp2_with fail)
   have hE06 := Ext.trans (Ext.alloc hEW (.cells #[.slice (some ⟨_, 0, none⟩) 1 1, .slice Av (longs [s.idx, s.term, s.sum]).length cv, .slice (some ⟨_, 0, none⟩) 2 2] 43)) hE6
   refine hK.out _ _ (blk5 (hb.ext hE06)) (fun hHeld => ?_)
   clear hK K
   try simp only [Act.put, sA, sZ, sS]
   refine AllReadyH.one (i := 11) rfl (by kernel_rfl) (by rfl) (fun K hK => ?_)
   go_simp
   refine (crcPut_any _ _ _ (SlR.of_own hoc) (by rw [Hfm.out]; omega) (by rw [Hfm.out]; omega) (HT.out.ext (Ext.trans hX hE06))).mono ?_
   rintro e w7 ⟨A7, c7, rfl, ho7, hE7⟩
   try (go_wp2_with fail)
   have hE07 := Ext.trans hE06 hE7
   refine hK.out _ _ (blk5 (hb.ext hE07)) (fun hHeld => ?_)
   clear hK K
   try simp only [Act.put, sA, sZ, sS]
   refine tkL 12 rfl ?_
   try simp only [Act.put, sA, sZ, sS]
   refine wpAnyH_done (by kernel_rfl) ?_ _
   go_wp2_with fail
   go_ret
   have hfin : OwnB w7 w.heap.size (.slice A7 (crcPut rT (1 :: (longs [s.idx, s.term, s.sum] ++ [xl, xf]))).length c7) (crcPut rT (1 :: (longs [s.idx, s.term, s.sum] ++ [xl, xf]))) := own_base ho7 (Ext.trans hX hE06).size
   rw [Hps.out]
   exact ⟨A7, c7, rfl, hfin, Ext.trans hX hE07⟩
  ·go_simp
   refine hK.out _ _ (blk5 (hb.ext (Ext.alloc (Ext.trans hE01 hE12) _))) (fun hHeld => ?_)
   clear hK K
   try simp only [Act.put, sA, sZ, sS]
   have hq24 := bs2 w2 xl xf
   refine AllReadyH.one (i := 0) rfl (by kernel_rfl) (by rfl) (fun K hK => ?_)
   go_simp
   have hE13 := Ext.alloc hE12 (.cells #[bv xl, bv xf] 5)
   refine hK.out _ _ (blk5 (hb.ext (Ext.alloc (Ext.trans hE01 hE13) _))) (fun hHeld => ?_)
   clear hK K
   try simp only [Act.put, sA, sZ, sS]
   have hq16 := bs1T (w2.alloc (.cells #[bv xl, bv xf] 5)) 1 1 rfl
   rw [sz_alloc] at hq16
   have hq24' := Bs.ext hq24 (Ext.alloc (Ext.refl _) (.cells #[.int .u8 1] 5))
   have hE14 := Ext.alloc hE13 (.cells #[.int .u8 1] 5)
   have hvv : Bs ((w2.alloc (.cells #[bv xl, bv xf] 5)).alloc (.cells #[.int .u8 1] 5)) (.slice Av (longs [s.idx, s.term, s.sum]).length cv) (longs [s.idx, s.term, s.sum]) := Bs.ext (SlR.of_own ho) hE14
   have hEW := Ext.trans hE01 hE14
   refine AllReadyH.one (i := 9) rfl (by kernel_rfl) (by rfl) (fun K hK => ?_)
   go_simp
   refine hK.out _ _ (blk5 (hb.ext (Ext.alloc hEW _))) (fun hHeld => ?_)
   clear hK K
   try simp only [Act.put, sA, sZ, sS]
   refine AllReadyH.one (i := 10) rfl (by kernel_rfl) (by rfl) (fun K hK => ?_)
   go_simp
   have hp := parts3 hq16 hvv hq24'
   simp only [sz_alloc] at hp
   refine (Concat_any _ [[1], longs [s.idx, s.term, s.sum], [xl, xf]] _ hp (by rw [Hfl.out]; omega)).mono ?_
   rintro e w6 ⟨vc, rfl, hoc, hE6⟩
   rw [Hfe.out] at hoc
   try (go_wp2_with fail)
   have hE06 := Ext.trans (Ext.alloc hEW (.cells #[.slice (some ⟨_, 0, none⟩) 1 1, .slice Av (longs [s.idx, s.term, s.sum]).length cv, .slice (some ⟨_, 0, none⟩) 2 2] 43)) hE6
   refine hK.out _ _ (blk5 (hb.ext hE06)) (fun hHeld => ?_)
   clear hK K
   try simp only [Act.put, sA, sZ, sS]
   refine AllReadyH.one (i := 11) rfl (by kernel_rfl) (by rfl) (fun K hK => ?_)
   go_simp
   refine (crcPut_any _ _ _ (SlR.of_own hoc) (by rw [Hfm.out]; omega) (by rw [Hfm.out]; omega) (HT.out.ext (Ext.trans hX hE06))).mono ?_
   rintro e w7 ⟨A7, c7, rfl, ho7, hE7⟩
   try (go_wp2_with fail)
   have hE07 := Ext.trans hE06 hE7
   refine hK.out _ _ (blk5 (hb.ext hE07)) (fun hHeld => ?_)
   clear hK K
   try simp only [Act.put, sA, sZ, sS]
   refine tkL 12 rfl ?_
   try simp only [Act.put, sA, sZ, sS]
   refine wpAnyH_done (by kernel_rfl) ?_ _
   go_wp2_with fail
   go_ret
   have hfin : OwnB w7 w.heap.size (.slice A7 (crcPut rT (1 :: (longs [s.idx, s.term, s.sum] ++ [xl, xf]))).length c7) (crcPut rT (1 :: (longs [s.idx, s.term, s.sum] ++ [xl, xf]))) := own_base ho7 (Ext.trans hX hE06).size
   rw [Hps.out]
   exact ⟨A7, c7, rfl, hfin, Ext.trans hX hE07⟩
open Go.RowKit Go.Mv
set_option maxRecDepth 100000
def put2 (s : Sta) : List UInt8 := 2 :: UInt8.ofNat (((shorts s.ints).length + 3) / 4) :: piecesS (0, 0) (shorts s.ints)
theorem puts2_any (s : Sta) (w : World) (h : s.ok = true) : Calls Tryz.prog 110 #[.agg #[.int .i64 s.idx, .int .i64 s.term, .int .i64 s.sum, .int .i64 s.lvl, .bool s.fin]] w fun e w' => ∃ A c, e = .returned (.slice A (put2 s).length c) ∧ OwnB w' w.heap.size (.slice A (put2 s).length c) (put2 s) ∧ Ext w w' := by
 obtain ⟨t, ht⟩ : ∃ t, shorts s.ints = t := ⟨_, rfl⟩
 have hl25 : t.length ≤ 25 := by subst ht; exact shorts_len s.ints
 have Hok := Lib.hid h
 have Ht := Lib.hid ht
 have Hl : Hid (t.length ≤ 25) := hl25
 obtain ⟨yn, hyn⟩ : ∃ x, UInt8.ofNat ((t.length + 3) / 4) = x := ⟨_, rfl⟩
 have Hy : Hid (wrap64 ((wrap64 ((t.length : Int) + 3)).tdiv 4) % 256 = (yn.toNat : Int)) := by
  have e1 : wrap64 ((t.length : Int) + 3) = ((t.length + 3 : Nat) : Int) := by unfold wrap64; omega
  have e2 : ((t.length + 3 : Nat) : Int).tdiv 4 = (((t.length + 3) / 4 : Nat) : Int) := rfl
  have e3 : wrap64 (((t.length + 3) / 4 : Nat) : Int) = (((t.length + 3) / 4 : Nat) : Int) := by unfold wrap64; omega
  rw [Hid, e1, e2, e3, ← hyn]
  simp
 have Hp2 : Hid (put2 s = [2, yn] ++ piecesS (0, 0) t) := by rw [Hid, put2, ht, hyn]; rfl
 clear h ht hl25 hyn
 have hX : Ext w (w.alloc (.cells #[.int .i64 s.idx, .int .i64 s.term, .int .i64 s.sum, .int .i64 s.lvl, .bool s.fin] 24)) := Ext.alloc (Ext.refl _) _
 go_enter Tryz.func110, Tryz.ntmps110
 go_wp2_with fail
 refine (Text_ok s _ Hok.out).mono ?_
 rintro e w1 ⟨v, rfl, ho, hE1⟩
 rw [Ht.out] at ho
 obtain ⟨Av, cv, rfl, -, -⟩ := SlR.open_ (SlR.of_own ho)
 go_wp2_with fail
 rw [Hy.out]
 have hE01 : Ext w w1 := Ext.trans hX hE1
 have ho16 := own_new w1 [bv 2, bv yn] 5 2 rfl (by simp [maxLen]) hE01.size
 have hp16 : OwnB (w1.alloc (.cells #[bv 2, bv yn] 5)) w.heap.size (.slice (some ⟨w1.heap.size, 0, none⟩) 2 2) [2, yn] := ho16
 refine (Pieces_any _ t _ (Bs.ext (SlR.of_own ho) (Ext.alloc (Ext.refl _) _)) (by have := Hl.out; omega)).mono ?_
 rintro e w3 ⟨v3, rfl, ho3, hE3⟩
 have hE23 : Ext w w3 := Ext.trans (Ext.alloc hE01 _) hE3
 have hpl := piecesS_len (0, 0) t
 have Hpl : Hid ((piecesS (0, 0) t).length ≤ 100) := by have := Hl.out; rw [Hid]; omega
 clear hpl
 go_wp2_with (
  refine wpList_app_b rfl (.tmp 15) (.tmp 17) rfl w.heap.size _ [2, yn] rfl (OwnB.ext hp16 hE3) _ (piecesS (0, 0) t) rfl (SlR.of_own ho3) (by have := Hpl.out; simp; omega) hE23.size ?_
  intro A4 c4 w4 ho4 hg4)
 go_ret
 have hE4 := hg4 w hE23 (Nat.le_refl _)
 have e1 : put2 s = [2, yn] ++ piecesS (0, 0) t := Hp2.out
 have e2 : (put2 s).length = ([2, yn] : List UInt8).length + (piecesS (0, 0) t).length := by rw [e1, List.length_append]
 rw [e2, e1]
 exact ⟨A4, c4, rfl, ho4, hE4⟩
open Go.RowKit Go.Mv
set_option maxRecDepth 100000
theorem run_store_nilFunc (P : Program) (w : World) (a : Addr) (m : Mode) : (store a .nilFunc m).run P w = stored P w a .nilFunc m := run_store P w a _ m rfl
theorem run_store_func (P : Program) (w : World) (a : Addr) (m : Mode) (f : Fn) (x y : Array Value) : (store a (.func f x y) m).run P w = stored P w a (.func f x y) m := run_store P w a _ m rfl
attribute [local go_sem] run_store_nilFunc run_store_func
def putsA : Value := .agg #[.nilFunc, .func (.func 105) #[] #[], .func (.func 110) #[] #[]]
theorem puts_any (w : World) : Calls Tryz.prog 86 #[] w fun e w' => e = .returned putsA ∧ Ext w w' := by
 go_enter Tryz.func86, Tryz.ntmps86
 go_wp2
 refine bodyPost_ret (results_cell_row rfl _ _ _ 147 _ _ _ rfl (heap_alloc_new _ _) Tryz.underlying147 rfl (by kernel_rfl)) rfl ⟨rfl, Ext.alloc (Ext.refl _) _⟩
theorem puts_at1 (w : World) : (Instr.index 147 (.agg #[.nilFunc, .func (.func 105) #[] #[], .func (.func 110) #[] #[]]) (.int .i64 1)).run Tryz.prog w = .ok (.func (.func 105) #[] #[]) w := by kernel_rfl
theorem puts_at2 (w : World) : (Instr.index 147 (.agg #[.nilFunc, .func (.func 105) #[] #[], .func (.func 110) #[] #[]]) (.int .i64 2)).run Tryz.prog w = .ok (.func (.func 110) #[] #[]) w := by kernel_rfl
def PutP (w : World) (l : List UInt8) (e : Ending) (w' : World) : Prop := ∃ A c, e = .returned (.tuple #[.slice A l.length c, .int .i64 0]) ∧ OwnB w' w.heap.size (.slice A l.length c) l ∧ Ext w w'
theorem Put_bad (s : Sta) (f : Int) (w : World) (h : s.ok = false ∨ f < 1 ∨ 2 < f) : Calls Tryz.prog 67 #[.agg #[.int .i64 s.idx, .int .i64 s.term, .int .i64 s.sum, .int .i64 s.lvl, .bool s.fin], .int .i64 f] w (ShortBad w) := by
 have H := Lib.hid h
 clear h
 obtain ⟨ok, hok⟩ : ∃ x, s.ok = x := ⟨_, rfl⟩
 cases ok
 ·clear H
  have H := Lib.hid hok
  clear hok
  go_enter Tryz.func67, Tryz.ntmps67
  go_wp2_with fail
  refine (Fine_any s _).mono ?_
  rw [H.out]
  rintro e w1 ⟨rfl, hE1⟩
  go_wp2_with fail
  go_ret2
  exact ⟨rfl, Ext.trans (Ext.alloc (Ext.refl _) _) hE1⟩
 ·rw [hok] at H
  have Ho := Lib.hid hok
  clear hok
  by_cases h1 : f < 1
  ·clear H
   go_enter Tryz.func67, Tryz.ntmps67
   go_wp2_with fail
   refine (Fine_any s _).mono ?_
   rw [Ho.out]
   rintro e w1 ⟨rfl, hE1⟩
   go_wp2_with fail
   go_ret2
   exact ⟨rfl, Ext.trans (Ext.alloc (Ext.refl _) _) hE1⟩
  ·have h2 : 2 < f := by rcases H.out with q | q | q; cases q; exact absurd q h1; exact q
   clear H
   go_enter Tryz.func67, Tryz.ntmps67
   go_wp2_with fail
   refine (Fine_any s _).mono ?_
   rw [Ho.out]
   rintro e w1 ⟨rfl, hE1⟩
   go_wp2_with fail
   go_ret2
   exact ⟨rfl, Ext.trans (Ext.alloc (Ext.refl _) _) hE1⟩
theorem Put_ok1 (s : Sta) (w : World) (h : s.ok = true) (hT : TabW rT w) : Calls Tryz.prog 67 #[.agg #[.int .i64 s.idx, .int .i64 s.term, .int .i64 s.sum, .int .i64 s.lvl, .bool s.fin], .int .i64 1] w (PutP w (put1 s)) := by
 have hat := puts_at1
 have H := Lib.hid h
 have HT := Lib.hid hT
 clear h hT
 have hb := Blk.new w 24 #[.int .i64 s.idx, .int .i64 s.term, .int .i64 s.sum, .int .i64 s.lvl, .bool s.fin]
 have hX : Ext w (w.alloc (.cells #[.int .i64 s.idx, .int .i64 s.term, .int .i64 s.sum, .int .i64 s.lvl, .bool s.fin] 24)) := Ext.alloc (Ext.refl _) _
 go_enter Tryz.func67, Tryz.ntmps67
 go_wp2_with fail
 refine (Fine_any s _).mono ?_
 rw [H.out]
 rintro e w1 ⟨rfl, hE1⟩
 go_wp2_with fail
 refine wp_region_held_drew (S := fun w' => w'.cell? ⟨w.heap.size, 0, none⟩ = some (.int .i64 s.idx) ∧ w'.cell? ⟨w.heap.size, 1, none⟩ = some (.int .i64 s.term) ∧ w'.cell? ⟨w.heap.size, 2, none⟩ = some (.int .i64 s.sum) ∧ w'.cell? ⟨w.heap.size, 3, none⟩ = some (.int .i64 s.lvl) ∧ w'.cell? ⟨w.heap.size, 4, none⟩ = some (.bool s.fin)) (by kernel_rfl) (blk5 (hb.ext (Ext.drew hE1))) (fun hHeld => ?_)
 refine tkL 1 rfl ?_
 try simp only [Act.put, sA, sZ, sS]
 refine tkL 3 rfl ?_
 try simp only [Act.put, sA, sZ, sS]
 refine AllReadyH.one (i := 0) rfl (by kernel_rfl) (by rfl) (fun K hK => ?_)
 go_simp
 refine (puts_any _).mono ?_
 rintro e w2 ⟨rfl, hE2⟩
 unfold putsA
 try (go_wp2_with fail)
 have hE02 : Ext (w.alloc (.cells #[.int .i64 s.idx, .int .i64 s.term, .int .i64 s.sum, .int .i64 s.lvl, .bool s.fin] 24)) w2 := Ext.trans (Ext.drew hE1) hE2
 refine hK.out _ _ (blk5 (hb.ext hE02)) (fun hHeld => ?_)
 clear hK K
 try simp only [Act.put, sA, sZ, sS]
 refine tkL 2 rfl ?_
 try simp only [Act.put, sA, sZ, sS]
 refine AllReadyH.one (i := 4) rfl (by kernel_rfl) (by rfl) (fun K hK => ?_)
 go_simp
 refine (puts1_any s _ H.out (HT.out.ext (Ext.trans hX hE02))).mono ?_
 rintro e w3 ⟨A3, c3, rfl, ho3, hE3⟩
 try (go_wp2_with fail)
 have hE03 := Ext.trans hE02 hE3
 refine hK.out _ _ (blk5 (hb.ext hE03)) (fun hHeld => ?_)
 clear hK K
 try simp only [Act.put, sA, sZ, sS]
 refine tkL 5 rfl ?_
 try simp only [Act.put, sA, sZ, sS]
 refine tkL 6 rfl ?_
 try simp only [Act.put, sA, sZ, sS]
 refine wpAnyH_done (by kernel_rfl) ?_ _
 go_wp2_with fail
 go_ret2
 exact ⟨A3, c3, rfl, own_base ho3 (Ext.trans hX hE02).size, Ext.trans hX hE03⟩
theorem Put_ok2 (s : Sta) (w : World) (h : s.ok = true) (hT : TabW rT w) : Calls Tryz.prog 67 #[.agg #[.int .i64 s.idx, .int .i64 s.term, .int .i64 s.sum, .int .i64 s.lvl, .bool s.fin], .int .i64 2] w (PutP w (put2 s)) := by
 have hat := puts_at2
 have H := Lib.hid h
 have HT := Lib.hid hT
 clear h hT
 have hb := Blk.new w 24 #[.int .i64 s.idx, .int .i64 s.term, .int .i64 s.sum, .int .i64 s.lvl, .bool s.fin]
 have hX : Ext w (w.alloc (.cells #[.int .i64 s.idx, .int .i64 s.term, .int .i64 s.sum, .int .i64 s.lvl, .bool s.fin] 24)) := Ext.alloc (Ext.refl _) _
 go_enter Tryz.func67, Tryz.ntmps67
 go_wp2_with fail
 refine (Fine_any s _).mono ?_
 rw [H.out]
 rintro e w1 ⟨rfl, hE1⟩
 go_wp2_with fail
 refine wp_region_held_drew (S := fun w' => w'.cell? ⟨w.heap.size, 0, none⟩ = some (.int .i64 s.idx) ∧ w'.cell? ⟨w.heap.size, 1, none⟩ = some (.int .i64 s.term) ∧ w'.cell? ⟨w.heap.size, 2, none⟩ = some (.int .i64 s.sum) ∧ w'.cell? ⟨w.heap.size, 3, none⟩ = some (.int .i64 s.lvl) ∧ w'.cell? ⟨w.heap.size, 4, none⟩ = some (.bool s.fin)) (by kernel_rfl) (blk5 (hb.ext (Ext.drew hE1))) (fun hHeld => ?_)
 refine tkL 1 rfl ?_
 try simp only [Act.put, sA, sZ, sS]
 refine tkL 3 rfl ?_
 try simp only [Act.put, sA, sZ, sS]
 refine AllReadyH.one (i := 0) rfl (by kernel_rfl) (by rfl) (fun K hK => ?_)
 go_simp
 refine (puts_any _).mono ?_
 rintro e w2 ⟨rfl, hE2⟩
 unfold putsA
 try (go_wp2_with fail)
 have hE02 : Ext (w.alloc (.cells #[.int .i64 s.idx, .int .i64 s.term, .int .i64 s.sum, .int .i64 s.lvl, .bool s.fin] 24)) w2 := Ext.trans (Ext.drew hE1) hE2
 refine hK.out _ _ (blk5 (hb.ext hE02)) (fun hHeld => ?_)
 clear hK K
 try simp only [Act.put, sA, sZ, sS]
 refine tkL 2 rfl ?_
 try simp only [Act.put, sA, sZ, sS]
 refine AllReadyH.one (i := 4) rfl (by kernel_rfl) (by rfl) (fun K hK => ?_)
 go_simp
 refine (puts2_any s _ H.out).mono ?_
 rintro e w3 ⟨A3, c3, rfl, ho3, hE3⟩
 try (go_wp2_with fail)
 have hE03 := Ext.trans hE02 hE3
 refine hK.out _ _ (blk5 (hb.ext hE03)) (fun hHeld => ?_)
 clear hK K
 try simp only [Act.put, sA, sZ, sS]
 refine tkL 5 rfl ?_
 try simp only [Act.put, sA, sZ, sS]
 refine tkL 6 rfl ?_
 try simp only [Act.put, sA, sZ, sS]
 refine wpAnyH_done (by kernel_rfl) ?_ _
 go_wp2_with fail
 go_ret2
 exact ⟨A3, c3, rfl, own_base ho3 (Ext.trans hX hE02).size, Ext.trans hX hE03⟩
end Go.Proofs.YtmecffckghkahaaGreatDoor
