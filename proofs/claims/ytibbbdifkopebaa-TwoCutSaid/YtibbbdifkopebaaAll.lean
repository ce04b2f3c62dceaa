/-
  The walk of two.all over two.blocks' iterator.
-/
import Derived.Test.YtibbbdifkopebaaBlocks1
set_option linter.all false
namespace Go.Proofs.Ytibbbdifkopebaa
open Go.RowKit Go.Mv Go.Shelf
attribute [local go_sem] Oper.semAt_some
set_option maxRecDepth 100000

def AlI (N : Nat) (w : World) (pre : List (List UInt8)) (X : World) : Prop := ∃ v, Boxed X w.heap.size 24 v ∧ X.ownsRow w.heap.size 5 1 v pre.flatten.length (pre.flatten.map bv) ∧ Below N w X

set_option maxHeartbeats 1000000 in
theorem all_any (wo w : World) (v : Value) (es : List Ent) (hes : Es wo v es) (ha : allOk es = true) (hlen : es.length ≤ 1000000) (hH : Hold wo w) (p : Nat × Nat) (z : Value) (hz : PtV z p)
    (bl bz : Nat) (hB1 : Boxed w bl 23 v) (hB2 : Boxed w bz 30 z) (hbl : wo.heap.size ≤ bl) (hbz : wo.heap.size ≤ bz) (hwo : wo.heap.size ≤ w.heap.size) :
    Calls Try.prog 34 #[.func (.func 53) #[] #[.pointer (some ⟨bl, 0, none⟩), .pointer (some ⟨bz, 0, none⟩)]] w
      fun e w' => ∃ v', e = .returned v' ∧ w'.ownsRow w.heap.size 5 1 v' (blocksS p es).length ((blocksS p es).map bv) ∧ Below wo.heap.size w w' := by
  refine (callsIn_wd (ro := none) (n := 9)).1 ?_
  refine callsIn_of_wp_marks Try.func34 rfl trivial ?_ rfl
  simp only [Try.ntmps34, List.size_toArray, List.length_cons, List.length_nil, Nat.reduceAdd, Nat.reduceSub, Array.replicate_succ, Array.replicate_zero, List.push_toArray, List.append_toArray, List.nil_append, List.cons_append]
  obtain ⟨i0, hi, hz0, hz1, hz2⟩ := info_parts info_u8
  have hblt : bl < w.heap.size := World.block_lt_of_cell? w _ hB1.cell
  have hbzt : bz < w.heap.size := World.block_lt_of_cell? w _ hB2.cell
  have htot := blocksS_len p es
  gi_wp2
  have hE2 : Ext w (w.alloc (.cells #[.slice none 0 0] 24)) := Ext.alloc (Ext.refl _) _
  have h0 : AlI wo.heap.size w [] (w.alloc (.cells #[.slice none 0 0] 24)) := ⟨_, Boxed.new w _ _, World.ownsRow_nil _ _ _ _, hE2.mono hwo⟩
  have hs2 : (w.alloc (.cells #[.slice none 0 0] 24)).heap.size = w.heap.size + 1 := by simp
  have c1 : Boxed (w.alloc (.cells #[.slice none 0 0] 24)) bl 23 v := hB1.alloc _
  have c2 : Boxed (w.alloc (.cells #[.slice none 0 0] 24)) bz 30 z := hB2.alloc _
  generalize w.alloc (.cells #[.slice none 0 0] 24) = w2 at *
  have hfl := blockList_flat p es
  refine wp_range (a := ⟨_, _⟩) rfl (enters_of Try.func53 (by kernel_rfl) rfl)
    (fun W1 hb hs => blocks1_seq wo W1 _ es hes ha hlen (fun q u hc => Ext.cell (Ext.trans hE2 hb) (hH q u hc)) p z hz bl bz w.heap.size
      (c1.kept (row := none) (Ext.grown hb none) (by simp)) (c2.kept (row := none) (Ext.grown hb none) (by simp)) hbl hbz hwo (by omega) (by omega) (by omega))
    (fun k o h => isCells_of_ty h.2) (fun k o h => h.1) (fun x av W h => by obtain ⟨u, rfl, _⟩ := h; rfl)
    (AlI wo.heap.size w) (fun _ _ _ => False) ?hI (fun _ _ _ _ h _ => h) h0
    (fun x a' W => ∃ u, Bs W u x ∧ a' = ⟨#[.func (.func 53) #[] #[.pointer (some ⟨bl, 0, none⟩), .pointer (some ⟨bz, 0, none⟩)], undef, .pointer (some ⟨w.heap.size, 0, none⟩), u, .func (.func 53) #[] #[.pointer (some ⟨bl, 0, none⟩), .pointer (some ⟨bz, 0, none⟩)], u, undef, undef, undef, undef], []⟩)
    ?hAx ?assign ?body ?done ?stop
  case hI =>
    rintro s X Y ⟨v1, hv, hr, hB⟩ hm
    refine ⟨v1, hm.boxed hv ?_, hm.ownsRow hr ?_, hm.belowOf hB ?_ hwo⟩
    · rintro (h | h)
      · have := h.1; omega
      · cases h.2
    · rintro k cur _ (h | h)
      · cases h.2
      · cases h.2
    · rintro k o hk (h | h)
      · have := h.1; omega
      · have := h.1; omega
  case hAx =>
    rintro x a' X Y ⟨u, hu, rfl⟩ hm
    refine ⟨u, SlR.keep hu (fun q t hq => hm.cell hq (fun o _ hc => ?_)), rfl⟩
    rintro (h | h)
    · exact h
    · rw [hc] at h; cases h.2
  case assign =>
    rintro l pre x post W av K' hx hi hsz ⟨u, rfl, hu⟩ hK
    gi_wp2
    exact hK _ _ Kept.refl hi ⟨u, hu, rfl⟩
  case stop =>
    rintro D c pre W _ _ h _
    exact h.elim
  case body =>
    rintro l pre x post a' W hx hl hr ⟨v1, hv, hrow, hB⟩ hsz ⟨u, hu, rfl⟩
    have hpl : pre.flatten.length + x.length ≤ 20000000 := by
      have := congrArg (fun t => (List.flatten t).length) hx
      simp only [hfl, List.flatten_append, List.flatten_cons, List.length_append] at this
      omega
    have hfl2 : (pre ++ [x]).flatten = pre.flatten ++ x := by simp
    have Hfl := Lib.hid hfl2
    clear hfl2
    have Hx := Lib.hid hx
    clear hx hfl htot
    generalize pre.flatten = q at *
    obtain ⟨A1, cc1, rfl, _, _⟩ := SlR.open_ (SlR.of_own hrow)
    have hu0 := hu
    obtain ⟨A2, cc2, rfl, _, _⟩ := SlR.open_ hu
    have hc := hv.cell
    have hne := hv.not_row (e := 5) (by decide) hrow
    gi_wp2_with (gi_at_builtin; refine wpListIn_append_sl _ rfl (.tmp 6) (.tmp 7) 24 rfl w.heap.size 5 i0 (.int .u8 0) 1 1 Try.underlying24 hi hz0 hz1 hz2 rfl (by decide) (.slice A1 q.length cc1) q.length _ rfl hrow _ x.length _ rfl hu0 (one_bv _) (by unfold maxLen; omega) (by omega) (by omega) ?_; intro v' w1 hown' hgrow; obtain ⟨A3, cc3, rfl, _, _⟩ := SlR.open_ (SlR.of_own hown'); have hv1 := hv.kept hgrow hne; have hc1 := hv1.cell; have hf1 := hv1.frozen)
    refine ⟨(Kept.refl.grown hgrow (fun k o ek ho => ?_)).setCell (fun o ho _ => ?_) _, _, hv1.set _, ?_, ?_⟩
    · obtain ⟨cur, hc'⟩ := ownsRow_cells hrow ek
      rw [ho] at hc'; cases hc'
      rintro (⟨_, _, h⟩ | ⟨_, h⟩)
      · rcases h with h | h
        · have := (hrow.lt k ek).1
          omega
        · exact h rfl
      · cases h
    · rw [show W.heap[w.heap.size]? = _ from hv] at ho; cases ho
      rintro (⟨_, h, _⟩ | ⟨_, h⟩)
      · exact h rfl
      · cases h
    · have h := hown'.kept (grownBy_setCell' w1 w.heap.size (.slice A3 (q.length + x.length) cc3)) (.inr (hv1.not_row (by decide) hown').symm)
      rw [Hfl.out]
      simpa using h
    · refine (hB.grown hgrow (by omega) (fun k ek => ?_)).setCell (p := ⟨w.heap.size, 0, none⟩) hwo _
      have := (hrow.lt k ek).1
      omega
  case done =>
    rintro D W hD ⟨v1, hv, hrow, hB⟩ hK
    rw [hfl] at hrow
    obtain ⟨q, hq⟩ : ∃ q, blocksS p es = q := ⟨_, rfl⟩
    rw [hq] at hrow
    have Hq := Lib.hid hq
    clear hfl hq htot
    obtain ⟨A1, cc1, rfl, _, _⟩ := SlR.open_ (SlR.of_own hrow)
    have hc := hv.cell
    have hf := hv.frozen
    gi_wp2
    have hrow2 := hrow.kept (grownBy_setCell' W w.heap.size (.slice A1 q.length cc1)) (.inr (hv.not_row (by decide) hrow).symm)
    have hv2 := hv.set (.slice A1 q.length cc1)
    have hK2 := heap_setCell_obj hK rfl ⟨w.heap.size, 0, none⟩ (.slice A1 q.length cc1)
    have hcd := cell_putObj hv2.cell hK2 rfl (.deferred none)
    refine ret_mark hK2 (.slice A1 q.length cc1) (by simp [results, Try.results34, go_sem, hcd]) ⟨_, rfl, by rw [Hq.out]; exact ownsRow_putObj hrow2 (.deferred none) hK2 rfl, ?_⟩
    exact below_putObj (hB.setCell (p := ⟨w.heap.size, 0, none⟩) hwo _) (by omega) _
end Go.Proofs.Ytibbbdifkopebaa
