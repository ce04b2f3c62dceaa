/- Merged: SnapR4 SnapR5 RefBlk -/
import Derived.Test.YtmecffckghkahaaGreatDoorShadowReads19
import Derived.Deep.RegionHeld3
import Derived.Deep.AppendLies
set_option linter.all false
set_option maxHeartbeats 8000000
namespace Go.Proofs.YtmecffckghkahaaGreatDoor
open Go.RowKit Go.Mv
set_option maxRecDepth 100000
def chained9 (b : List UInt8) : Option Sta := if (takesGo 5 [] (text2S b)).1 = 0 ∧ (takesGo 5 [] (text2S b)).2.2 = [] then some (staOf (takesGo 5 [] (text2S b)).2.1) else none
theorem chained_res (tmps : Array Value) (W : World) (b : Nat) (cs : Array Value) (u : Value) (h4 : tmps.getD 2 undef = .pointer (some ⟨b, 0, none⟩)) (h5 : tmps.getD 3 undef = u) (hb : Blk W b 24 cs) (hs : cs.size = 5) : (results Tryz.f62 tmps).run Tryz.prog W = .ok (.tuple #[.agg cs, u]) W := by
 have hl := hb.load (P := Tryz.prog) staUnder rfl (by rw [hs]; kernel_rfl)
 have h4' : tmps[2]?.getD undef = .pointer (some ⟨b, 0, none⟩) := by simpa using h4
 have h5' : tmps[3]?.getD undef = u := by simpa using h5
 simp [results, Tryz.results62, h4', h5', asAddr, hl]
theorem cutP_at (b : List UInt8) (k : Nat) (h : k < b.length) : (chunkL 8 (b.drop k)).flatMap cutP = (b.drop k).take (min 4 (b.length - k - 4)) ++ (chunkL 8 (b.drop (k + 8))).flatMap cutP := by
 have hne : b.drop k ≠ [] := fun e => by have := congrArg List.length e; simp at this; omega
 rw [chunkL, dif_neg (by rintro (e | e); exact hne e; cases e), List.flatMap_cons, List.drop_drop]
 congr 1
 unfold cutP
 rw [List.length_take, List.length_drop, List.take_take]
 congr 1
 omega
theorem cutP_nil (b : List UInt8) (k : Nat) (h : b.length ≤ k) : (chunkL 8 (b.drop k)).flatMap cutP = [] := by
 rw [List.drop_of_length_le h, chunkL, dif_pos (.inl rfl)]; rfl
theorem text2_len (b : List UInt8) : (text2S b).length ≤ b.length := by
 have := chunkL_cut (b.drop 2)
 unfold text2S
 show ((chunkL 8 (b.drop 2)).flatMap cutP).length ≤ _
 rw [List.length_drop] at this
 omega
theorem chained9_any (v : Value) (bs : List UInt8) (w : World) (hB : Bs w v bs) (hl : bs.length ≤ 2000000) : Calls Tryz.prog 62 #[v] w (RStP w (chained9 bs)) := by
 obtain ⟨A, c, rfl, h1, h2⟩ := SlR.open_ hB
 have hb0 := Blk.new w 24 #[.int .i64 0, .int .i64 0, .int .i64 0, .int .i64 0, .bool false]
 have hX : Ext w (w.alloc (.cells #[.int .i64 0, .int .i64 0, .int .i64 0, .int .i64 0, .bool false] 24)) := Ext.alloc (Ext.refl _) _
 have hsz : (w.alloc (.cells #[.int .i64 0, .int .i64 0, .int .i64 0, .int .i64 0, .bool false] 24)).heap.size = w.heap.size + 1 := by simp
 obtain ⟨R, hR⟩ : ∃ R, chained9 bs = R := ⟨_, rfl⟩
 rw [hR]
 have HR := Lib.hid hR
 have HB := Lib.hid hB
 have HX := Lib.hid hX
 have Hb := Lib.hid hb0
 clear hR hB hX hb0
 go_enter Tryz.func62, Tryz.ntmps62
 go_wp2_with fail
 go_loopw [4, 5] (fun vo x W => ∃ (k : Nat) (Ao : Option Addr) (co : Nat) (out : List UInt8), 2 ≤ k ∧ k ≤ bs.length + 8 ∧ x = .int .i64 k ∧ vo = .slice Ao out.length co ∧ Hid (out ++ (chunkL 8 (bs.drop k)).flatMap cutP = text2S bs) ∧ Hid (out.length ≤ bs.length) ∧ Hid (OwnB W (w.heap.size + 1) (.slice Ao out.length co) out) ∧ Ext (w.alloc (.cells #[.int .i64 0, .int .i64 0, .int .i64 0, .int .i64 0, .bool false] 24)) W) (fun _ x _ => bs.length + 9 - (intOf x).toNat)
 case atStart => exact ⟨2, none, 0, [], by omega, by omega, rfl, rfl, Lib.hid rfl, Lib.hid (by simp), Lib.hid (World.ownsRow_nil _ _ _ _), Ext.refl _⟩
 case round =>
  obtain ⟨k, Ao, co, out, hk2, hk, rfl, rfl, HP, HOl, HO, hEr⟩ := hrel
  by_cases hlt : k < bs.length
  ·obtain ⟨_, b, off, rfl, _⟩ := Bs.at_ (HB.out.ext (Ext.trans HX.out hEr)) (by omega)
   have hst := HP.out
   rw [cutP_at bs k hlt] at hst
   obtain ⟨n, hn⟩ : ∃ n, min 4 (bs.length - k - 4) = n := ⟨_, rfl⟩
   rw [hn] at hst
   obtain ⟨q, hq⟩ : ∃ q, (bs.drop k).take n = q := ⟨_, rfl⟩
   have hql : q.length = n := by rw [← hq, List.length_take, List.length_drop]; omega
   rw [hq] at hst
   have hcut := Bs.take (Bs.cut (HB.out.ext (Ext.trans HX.out hEr)) k (by omega) rfl) n (by rw [List.length_drop]; omega)
   rw [hq] at hcut
   have Hcut := Lib.hid hcut
   have Hst := Lib.hid hst
   have Hq := Lib.hid hql
   have HEr := Lib.hid hEr
   have hlz : (k : Int) < (bs.length : Int) := by omega
   have hkc : ¬ c = k := by omega
   have hw4 : IntKind.i64.wrap ((k : Int) + 4) = (k : Int) + 4 := by rw [IntKind.wrap_i64]; omega
   have hw5 : IntKind.i64.wrap ((bs.length : Int) - 4) = (bs.length : Int) - 4 := by rw [IntKind.wrap_i64]; omega
   have holen := HOl.out
   clear hcut hst hq HP hEr hql
   by_cases hA : k + 8 ≤ bs.length
   ·have a1 : (k : Int) ≤ (bs.length : Int) - 4 := by omega
    have a2 : ¬ (bs.length : Int) - 4 < (k : Int) := by omega
    have a3 : (k : Int) + 4 ≤ (bs.length : Int) - 4 := by omega
    have a4 : ¬ (bs.length : Int) - 4 < (k : Int) + 4 := by omega
    obtain rfl : n = 4 := by omega
    go_wp2_with (at_builtin; refine wpList_app_b rfl (.tmp 15) (.tmp 26) rfl (w.heap.size + 1) _ out rfl HO.out _ q rfl ?a1 ?a2 ?a3 ?a4)
    case a1 => first | exact Hcut.out | (show Bs wr (.slice (some ⟨b, off + k, none⟩) (((bs.length : Int) - 4).toNat - k) (c - k)) q; rw [show ((bs.length : Int) - 4).toNat - k = n by omega]; exact Hcut.out) | (show Bs wr (.slice (some ⟨b, off + k, none⟩) (bs.length - 4 - k) (c - k)) q; rw [show bs.length - 4 - k = n by omega]; exact Hcut.out) | (show Bs wr (.slice (some ⟨b, off + k, none⟩) (k - k) (c - k)) q; rw [show k - k = n by omega]; exact Hcut.out) | (show Bs wr (.slice (some ⟨b, off + k, none⟩) (0) (c - k)) q; rw [show 0 = n by omega]; exact Hcut.out)
    case a2 => have := Hq.out; omega
    case a3 => have := HEr.out.size; simp at this; omega
    intro A4 c4 w4 ho4 hG4
    have hE4 := hG4 _ HEr.out (by rw [hsz]; exact Nat.le_refl _)
    have hl4 : out.length + q.length = (out ++ q).length := by simp
    rw [hl4] at ho4 ⊢
    go_wp2_with fail
    go_roundw
    case rel =>
     refine ⟨k + 8, A4, c4, out ++ q, by omega, by omega, by go_num, rfl, Lib.hid (by rw [List.append_assoc]; exact Hst.out), Lib.hid ?_, ho4, hE4⟩
     have := congrArg List.length Hst.out
     have h3 := text2_len bs
     simp only [List.length_append] at this ⊢
     omega
    case measure => simp [intOf]; omega
   ·by_cases hBc : k + 4 ≤ bs.length
    ·have a1 : (k : Int) ≤ (bs.length : Int) - 4 := by omega
     have a2 : ¬ (bs.length : Int) - 4 < (k : Int) := by omega
     have a3 : (bs.length : Int) - 4 ≤ (k : Int) + 4 := by omega
     have a4 : (bs.length : Int) - 4 < (k : Int) + 4 := by omega
     go_wp2_with (at_builtin; refine wpList_app_b rfl (.tmp 15) (.tmp 26) rfl (w.heap.size + 1) _ out rfl HO.out _ q rfl ?b1 ?b2 ?b3 ?b4)
     case b1 => first | exact Hcut.out | (show Bs wr (.slice (some ⟨b, off + k, none⟩) (((bs.length : Int) - 4).toNat - k) (c - k)) q; rw [show ((bs.length : Int) - 4).toNat - k = n by omega]; exact Hcut.out) | (show Bs wr (.slice (some ⟨b, off + k, none⟩) (bs.length - 4 - k) (c - k)) q; rw [show bs.length - 4 - k = n by omega]; exact Hcut.out) | (show Bs wr (.slice (some ⟨b, off + k, none⟩) (k - k) (c - k)) q; rw [show k - k = n by omega]; exact Hcut.out) | (show Bs wr (.slice (some ⟨b, off + k, none⟩) (0) (c - k)) q; rw [show 0 = n by omega]; exact Hcut.out)
     case b2 => have := Hq.out; omega
     case b3 => have := HEr.out.size; simp at this; omega
     intro A4 c4 w4 ho4 hG4
     have hE4 := hG4 _ HEr.out (by rw [hsz]; exact Nat.le_refl _)
     have hl4 : out.length + q.length = (out ++ q).length := by simp
     rw [hl4] at ho4 ⊢
     go_wp2_with fail
     go_roundw
     case rel =>
      refine ⟨k + 8, A4, c4, out ++ q, by omega, by omega, by go_num, rfl, Lib.hid (by rw [List.append_assoc]; exact Hst.out), Lib.hid ?_, ho4, hE4⟩
      have := congrArg List.length Hst.out
      have h3 := text2_len bs
      simp only [List.length_append] at this ⊢
      omega
     case measure => simp [intOf]; omega
    ·have a1 : (bs.length : Int) - 4 ≤ (k : Int) := by omega
     have a2 : (bs.length : Int) - 4 < (k : Int) := by omega
     have a3 : (k : Int) ≤ (k : Int) + 4 := by omega
     have a4 : ¬ ((k : Int) + 4 < (k : Int)) := by omega
     go_wp2_with (at_builtin; refine wpList_app_b rfl (.tmp 15) (.tmp 26) rfl (w.heap.size + 1) _ out rfl HO.out _ q rfl ?e1 ?e2 ?e3 ?e4)
     case e1 => first | exact Hcut.out | (show Bs wr (.slice (some ⟨b, off + k, none⟩) (((bs.length : Int) - 4).toNat - k) (c - k)) q; rw [show ((bs.length : Int) - 4).toNat - k = n by omega]; exact Hcut.out) | (show Bs wr (.slice (some ⟨b, off + k, none⟩) (bs.length - 4 - k) (c - k)) q; rw [show bs.length - 4 - k = n by omega]; exact Hcut.out) | (show Bs wr (.slice (some ⟨b, off + k, none⟩) (k - k) (c - k)) q; rw [show k - k = n by omega]; exact Hcut.out) | (show Bs wr (.slice (some ⟨b, off + k, none⟩) (0) (c - k)) q; rw [show 0 = n by omega]; exact Hcut.out)
     case e2 => have := Hq.out; omega
     case e3 => have := HEr.out.size; simp at this; omega
     intro A4 c4 w4 ho4 hG4
     have hE4 := hG4 _ HEr.out (by rw [hsz]; exact Nat.le_refl _)
     have hl4 : out.length + q.length = (out ++ q).length := by simp
     rw [hl4] at ho4 ⊢
     go_wp2_with fail
     go_roundw
     case rel =>
      refine ⟨k + 8, A4, c4, out ++ q, by omega, by omega, by go_num, rfl, Lib.hid (by rw [List.append_assoc]; exact Hst.out), Lib.hid ?_, ho4, hE4⟩
      have := congrArg List.length Hst.out
      have h3 := text2_len bs
      simp only [List.length_append] at this ⊢
      omega
     case measure => simp [intOf]; omega
  ·have hP := HP.out
   rw [cutP_nil bs k (by omega), List.append_nil] at hP
   subst hP
   obtain ⟨⟨er, ls, rs⟩, hq⟩ : ∃ q, takesGo 5 [] (text2S bs) = q := ⟨_, rfl⟩
   have hT := refTakes_any _ _ 5 (by omega) _ HO.out.bs (by have := HOl.out; omega)
   rw [hq] at hT
   have HT : Hid (Calls Tryz.prog 38 #[.slice Ao (text2S bs).length co, .int .i64 5] wr (TakesP wr (er, ls, rs))) := Lib.hid hT
   have HR2 : Hid ((if er = 0 ∧ rs = [] then some (staOf ls) else none) = R) := Lib.hid (by rw [← HR.out]; unfold chained9; rw [hq])
   have Hq := Lib.hid hq
   have HEr := Lib.hid hEr
   clear hT hq HR hEr HP HO HOl
   go_wp2_with fail
   refine HT.out.mono ?_
   rintro e w2 ⟨vl, vr, rfl, ho2, hor, hE2⟩
   have HE2 := Lib.hid (Ext.trans HX.out (Ext.trans HEr.out hE2))
   have Hb2 := Lib.hid (Hb.out.ext (Ext.trans HEr.out hE2))
   dsimp only at ho2 hor ⊢
   obtain ⟨Ar, cr, rfl, _, _⟩ := SlR.open_ (SlR.of_own hor)
   by_cases her : er = 0
   case neg =>
    obtain rfl : none = R := by rw [← HR2.out, if_neg (fun h => her h.1)]
    have herb : (er != 0) = true := by simpa using her
    obtain ⟨g0, g1, g2, g3, g4⟩ := blk5 Hb2.out
    obtain ⟨f0, f1, f2, f3, f4⟩ := blk5f Hb2.out
    go_wp2_with fail
    refine bodyPost_ret (chained_res _ _ _ _ _ rfl rfl (blk_set5 Hb2.out _ _ _ _ _) rfl) rfl ?_
    exact ⟨rfl, ext_set5 HE2.out (Nat.le_refl _) _ _ _ _ _⟩
   subst her
   by_cases hrs : rs = []
   case neg =>
    obtain rfl : none = R := by rw [← HR2.out, if_neg (fun h => hrs h.2)]
    have hrl : rs.length ≠ 0 := fun h => hrs (List.eq_nil_of_length_eq_zero h)
    have hrb : ((rs.length : Int) != 0) = true := by simp; exact fun h => hrs h
    obtain ⟨g0, g1, g2, g3, g4⟩ := blk5 Hb2.out
    obtain ⟨f0, f1, f2, f3, f4⟩ := blk5f Hb2.out
    go_wp2_with fail
    refine bodyPost_ret (chained_res _ _ _ _ _ rfl rfl (blk_set5 Hb2.out _ _ _ _ _) rfl) rfl ?_
    exact ⟨rfl, ext_set5 HE2.out (Nat.le_refl _) _ _ _ _ _⟩
   subst hrs
   have hl5 := takesGo_len 5 [] (text2S bs) (by rw [Hq.out])
   rw [Hq.out] at hl5
   obtain ⟨x0, x1, x2, x3, x4, rfl⟩ := five hl5
   obtain rfl : some ⟨x0, x1, x2, x3, x4 == 1⟩ = R := by rw [← HR2.out, if_pos ⟨rfl, rfl⟩]; rfl
   obtain ⟨Al, cl, rfl, _, _⟩ := SlR.open_ (SlR.of_own ho2)
   obtain ⟨_, bl, ofl, rfl, hcl⟩ := Is.at_ (l := [x0, x1, x2, x3, x4]) (SlR.of_own ho2) (by simp)
   have d0 := hcl 0 (by simp)
   have d1 := hcl 1 (by simp)
   have d2 := hcl 2 (by simp)
   have d3 := hcl 3 (by simp)
   have d4 := hcl 4 (by simp)
   simp only [List.getElem_cons_zero, List.getElem_cons_succ, Nat.add_zero] at d0 d1 d2 d3 d4
   have hnr := Hb2.out.not_row (by decide) ho2
   simp only [List.length_cons, List.length_nil, Nat.zero_add, Nat.reduceAdd] at *
   clear HR2 hcl ho2 hor hl5 HT Hq hE2
   have hb2' := Hb2.out.ext (Ext.drew (Ext.refl _))
   obtain ⟨f0, f1, f2, f3, f4⟩ := blk5f hb2'
   obtain ⟨g0, g1, g2, g3, g4⟩ := blk5 hb2'
   obtain ⟨f0', f1', f2', f3', f4'⟩ := blk5f Hb2.out
   obtain ⟨g0', g1', g2', g3', g4'⟩ := blk5 Hb2.out
   go_wp2_with fail
   refine wp_region_held_drew (S := fun W => W.cell? ⟨bl, ofl, none⟩ = some (.int .i64 x0) ∧ W.cell? ⟨bl, ofl + 1, none⟩ = some (.int .i64 x1) ∧ W.cell? ⟨bl, ofl + 2, none⟩ = some (.int .i64 x2) ∧ W.cell? ⟨bl, ofl + 3, none⟩ = some (.int .i64 x3) ∧ W.cell? ⟨bl, ofl + 4, none⟩ = some (.int .i64 x4)) (by kernel_rfl) ⟨d0, d1, d2, d3, d4⟩ (fun hHeld => ?_)
   refine tkL 0 rfl ?_
   try simp only [Act.put, sA, sZ, sS]
   refine tkL 1 rfl ?_
   try simp only [Act.put, sA, sZ, sS]
   refine tkL 2 rfl ?_
   try simp only [Act.put, sA, sZ, sS]
   refine tkL 3 rfl ?_
   try simp only [Act.put, sA, sZ, sS]
   refine tkL 4 rfl ?_
   try simp only [Act.put, sA, sZ, sS]
   refine tkL 5 rfl ?_
   try simp only [Act.put, sA, sZ, sS]
   refine tkL 6 rfl ?_
   try simp only [Act.put, sA, sZ, sS]
   refine tkL 7 rfl ?_
   try simp only [Act.put, sA, sZ, sS]
   refine tkL 8 rfl ?_
   try simp only [Act.put, sA, sZ, sS]
   refine tkL 9 rfl ?_
   try simp only [Act.put, sA, sZ, sS]
   refine tkL 10 rfl ?_
   try simp only [Act.put, sA, sZ, sS]
   refine tkL 11 rfl ?_
   try simp only [Act.put, sA, sZ, sS]
   refine tkL 12 rfl ?_
   try simp only [Act.put, sA, sZ, sS]
   refine tkL 13 rfl ?_
   try simp only [Act.put, sA, sZ, sS]
   refine tkL 14 rfl ?_
   try simp only [Act.put, sA, sZ, sS]
   refine tkL 15 rfl ?_
   try simp only [Act.put, sA, sZ, sS]
   refine tkL 16 rfl ?_
   try simp only [Act.put, sA, sZ, sS]
   refine AllReadyH.one (i := 17) rfl (by kernel_rfl) (by rfl) (fun K hK => ?_)
   go_simp
   have hne3 : w.heap.size ≠ bl := fun e => hnr (by rw [e]; rfl)
   have kc : ∀ (i : Nat) (u : Value), w2.cell? ⟨bl, i, none⟩ = some u → (((((w2.setCell ⟨w.heap.size, 0, none⟩ (.int .i64 x0)).setCell ⟨w.heap.size, 1, none⟩ (.int .i64 x1)).setCell ⟨w.heap.size, 2, none⟩ (.int .i64 x2)).setCell ⟨w.heap.size, 3, none⟩ (.int .i64 x3)).setCell ⟨w.heap.size, 4, none⟩ (.bool (x4 == 1))).drew.cell? ⟨bl, i, none⟩ = some u := fun i u h => Ext.cell (Ext.drew (Ext.refl _)) (cell_set5 (W := w2) h hne3 _ _ _ _ _)
   have hb5 : Blk (((((w2.setCell ⟨w.heap.size, 0, none⟩ (.int .i64 x0)).setCell ⟨w.heap.size, 1, none⟩ (.int .i64 x1)).setCell ⟨w.heap.size, 2, none⟩ (.int .i64 x2)).setCell ⟨w.heap.size, 3, none⟩ (.int .i64 x3)).setCell ⟨w.heap.size, 4, none⟩ (.bool (x4 == 1))).drew w.heap.size 24 #[.int .i64 x0, .int .i64 x1, .int .i64 x2, .int .i64 x3, .bool (x4 == 1)] := (blk_set5 Hb2.out _ _ _ _ _).ext (Ext.drew (Ext.refl _))
   have hE5 : Ext w (((((w2.setCell ⟨w.heap.size, 0, none⟩ (.int .i64 x0)).setCell ⟨w.heap.size, 1, none⟩ (.int .i64 x1)).setCell ⟨w.heap.size, 2, none⟩ (.int .i64 x2)).setCell ⟨w.heap.size, 3, none⟩ (.int .i64 x3)).setCell ⟨w.heap.size, 4, none⟩ (.bool (x4 == 1))).drew := Ext.drew (ext_set5 HE2.out (Nat.le_refl _) _ _ _ _ _)
   first | (with_reducible refine hK.out _ _ ⟨kc _ _ d0, kc _ _ d1, kc _ _ d2, kc _ _ d3, kc _ _ d4⟩ (fun hHeld => ?_)) | (trace_state; fail)
   clear hK K
   try simp only [Act.put, sA, sZ, sS]
   refine tkL 18 rfl ?_
   try simp only [Act.put, sA, sZ, sS]
   refine wpAnyH_done (by kernel_rfl) ?_ _
   go_wp2_with fail
   refine bodyPost_ret (chained_res _ _ _ _ _ rfl rfl hb5 rfl) rfl ?_
   exact ⟨rfl, hE5⟩
open Go.RowKit Go.Mv
set_option maxRecDepth 100000
def rread9 (b : List UInt8) (f : Int) : Option Sta := if f = 2 then chained9 b else plain9 b
def tk9 (b : List UInt8) (f : Int) : Option Sta → Option Sta
 | none => none
 | some s => if putR s f = some b then some s else none
theorem tk9_some (b : List UInt8) (f : Int) (s : Sta) : tk9 b f (some s) = if putR s f = some b then some s else none := rfl
def rtake9 (b : List UInt8) (f : Int) : Option Sta := tk9 b f (rread9 b f)
theorem blk_other5 {W : World} {b b' : Nat} {t : TypeId} {cs : Array Value} (h : Blk W b t cs) (hne : b ≠ b') (a' v' u' x' y' : Value) : Blk (((((W.setCell ⟨b', 0, none⟩ a').setCell ⟨b', 1, none⟩ v').setCell ⟨b', 2, none⟩ u').setCell ⟨b', 3, none⟩ x').setCell ⟨b', 4, none⟩ y') b t cs :=
 ((((h.other hne 0 a').other hne 1 v').other hne 2 u').other hne 3 x').other hne 4 y'
theorem chained_put (s : Sta) (h : s.ok = true) : chained9 (put2 s) = some s := by
 have e1 : text2S (put2 s) = shorts s.ints := by
  unfold text2S put2
  rw [text2_unp]
  exact unp_pieces (0, 0) _
 have e2 : takesGo 5 [] (shorts s.ints) = (0, [] ++ s.ints, []) := by
  have := takesGo_put s.ints (Sta.nums h) [] []
  rw [List.append_nil] at this
  exact this
 unfold chained9
 rw [e1, e2, if_pos ⟨rfl, rfl⟩]
 show some (staOf s.ints) = _
 rw [staOf_ints]
theorem rtake9_eq (b : List UInt8) (f : Int) : rtake9 b f = takeR b f := by
 cases h : takeR b f with
 | none =>
  unfold rtake9
  cases hr : rread9 b f with
  | none => rfl
  | some s =>
   show (if putR s f = some b then some s else none) = none
   rw [if_neg]
   intro hp
   rw [takeR_put hp] at h
   cases h
 | some s =>
  obtain ⟨hok, h2, hp⟩ := takeR_some h
  have hrd : rread9 b f = some s := by
   unfold rread9
   rcases h2 with ⟨rfl, rfl⟩ | ⟨rfl, rfl⟩
   ·rw [if_neg (by decide)]
    unfold plain9
    rw [read1_put s hok]
    show some (staOf s.ints) = _
    rw [staOf_ints]
   ·rw [if_pos rfl]; exact chained_put s hok
  unfold rtake9
  rw [hrd]
  exact if_pos hp
theorem rtake_res (tmps : Array Value) (W : World) (b : Nat) (cs : Array Value) (u : Value) (h4 : tmps.getD 4 undef = .pointer (some ⟨b, 0, none⟩)) (h5 : tmps.getD 5 undef = u) (hb : Blk W b 24 cs) (hs : cs.size = 5) : (results Tryz.f40 tmps).run Tryz.prog W = .ok (.tuple #[.agg cs, u]) W := by
 have hl := hb.load (P := Tryz.prog) staUnder rfl (by rw [hs]; kernel_rfl)
 have h4' : tmps[4]?.getD undef = .pointer (some ⟨b, 0, none⟩) := by simpa using h4
 have h5' : tmps[5]?.getD undef = u := by simpa using h5
 simp [results, Tryz.results40, h4', h5', asAddr, hl]
theorem RTake_any (v : Value) (bs : List UInt8) (f : Int) (w : World) (hB : Bs w v bs) (hl : bs.length ≤ 2000000) : Calls Tryz.prog 40 #[v, .int .i64 f] w (TakeR w (takeR bs f)) := by
 rw [← rtake9_eq]
 obtain ⟨A, c, rfl, h1, h2⟩ := SlR.open_ hB
 have hb0 := Blk.new w 24 #[.int .i64 0, .int .i64 0, .int .i64 0, .int .i64 0, .bool false]
 have hX : Ext w (w.alloc (.cells #[.int .i64 0, .int .i64 0, .int .i64 0, .int .i64 0, .bool false] 24)) := Ext.alloc (Ext.refl _) _
 obtain ⟨R, hR⟩ : ∃ R, rtake9 bs f = R := ⟨_, rfl⟩
 rw [hR]
 have HR := Lib.hid hR
 have HB := Lib.hid hB
 have HX := Lib.hid hX
 have Hb := Lib.hid hb0
 clear hR hB hX hb0
 go_enter Tryz.func40, Tryz.ntmps40
 go_wp2_with fail
 refine (plain9_any _ bs _ (HB.out.ext HX.out) hl).mono ?_
 rintro e w1 ⟨rfl, hE1⟩
 obtain ⟨r1, hr1⟩ : ∃ r, plain9 bs = r := ⟨_, rfl⟩
 rw [hr1]
 have HE1 := Lib.hid (Ext.trans HX.out hE1)
 have Hb1 := Lib.hid (Hb.out.ext hE1)
 obtain ⟨s1, hs1⟩ : ∃ s, r1.getD staZ = s := ⟨_, rfl⟩
 rw [hs1]
 have hsb := Blk.new w1 24 #[.int .i64 s1.idx, .int .i64 s1.term, .int .i64 s1.sum, .int .i64 s1.lvl, .bool s1.fin]
 have X2 : Ext w1 (w1.alloc (.cells #[.int .i64 s1.idx, .int .i64 s1.term, .int .i64 s1.sum, .int .i64 s1.lvl, .bool s1.fin] 24)) := Ext.alloc (Ext.refl _) _
 have Hsb := Lib.hid hsb
 have HX2 := Lib.hid X2
 clear hsb X2 hE1
 by_cases hf : f = 2
 ·subst hf
  go_wp2_with fail
  refine (chained9_any _ bs _ (HB.out.ext (Ext.trans HE1.out HX2.out)) hl).mono ?_
  rintro e w3 ⟨rfl, hE3⟩
  obtain ⟨r3, hr3⟩ : ∃ r, chained9 bs = r := ⟨_, rfl⟩
  have HR2 : Hid (tk9 bs 2 r3 = R) := Lib.hid (by have h := HR.out; unfold rtake9 rread9 at h; rw [if_pos rfl, hr3] at h; exact h)
  rw [hr3]
  have HE3 := Lib.hid (Ext.trans HE1.out (Ext.trans HX2.out hE3))
  have Hb3 := Lib.hid (Hb1.out.ext (Ext.trans HX2.out hE3))
  have Hs3 := Lib.hid (Hsb.out.ext hE3)
  obtain ⟨s3, hs3⟩ : ∃ s, r3.getD staZ = s := ⟨_, rfl⟩
  rw [hs3]
  have hne : w.heap.size ≠ w1.heap.size := by have := Hb1.out.lt; omega
  obtain ⟨f0, f1, f2, f3, f4⟩ := blk5f Hs3.out
  obtain ⟨g0, g1, g2, g3, g4⟩ := blk5 Hs3.out
  have Hq3 := Lib.hid (blk_set5 Hs3.out (.int .i64 s3.idx) (.int .i64 s3.term) (.int .i64 s3.sum) (.int .i64 s3.lvl) (.bool s3.fin))
  have HE4 := Lib.hid (ext_set5 HE3.out (b := w1.heap.size) (by have := HE1.out.size; omega) (.int .i64 s3.idx) (.int .i64 s3.term) (.int .i64 s3.sum) (.int .i64 s3.lvl) (.bool s3.fin))
  have HbW := Lib.hid (blk_other5 Hb3.out hne (.int .i64 s3.idx) (.int .i64 s3.term) (.int .i64 s3.sum) (.int .i64 s3.lvl) (.bool s3.fin))
  have HsW := Hq3
  have HEW := HE4
  cases r3 with
  | none =>
   obtain rfl : none = R := HR2.out
   obtain ⟨f0', f1', f2', f3', f4'⟩ := blk5f HbW.out
   obtain ⟨g0', g1', g2', g3', g4'⟩ := blk5 HbW.out
   go_wp2_with fail
   refine bodyPost_ret (rtake_res _ _ _ _ _ rfl rfl (blk_set5 HbW.out _ _ _ _ _) rfl) rfl ?_
   exact ⟨rfl, ext_set5 HEW.out (Nat.le_refl _) _ _ _ _ _⟩
  | some s =>
   obtain rfl : s = s3 := hs3
   have q0 := (blk5 HsW.out).1
   obtain ⟨q0, q1, q2, q3, q4⟩ := blk5 HsW.out
   obtain ⟨pr, hpr⟩ : ∃ pr, putR s 2 = pr := ⟨_, rfl⟩
   have harm := fun W => RPut_any s 2 W
   rw [hpr] at harm
   have HR3 : Hid ((if pr = some bs then some s else none) = R) := Lib.hid (by have h := HR2.out; rw [tk9_some, hpr] at h; exact h)
   have Harm := Lib.hid harm
   clear harm hpr HR2
   go_wp2_with fail
   refine (Harm.out _).mono ?_
   rintro e w5 h5
   cases pr with
   | none =>
    obtain ⟨rfl, hE5⟩ := h5
    obtain rfl : none = R := HR3.out
    have Hb5 := Lib.hid (HbW.out.ext hE5)
    have HE5 := Lib.hid (Ext.trans HEW.out hE5)
    obtain ⟨f0, f1, f2, f3, f4⟩ := blk5f Hb5.out
    obtain ⟨g0, g1, g2, g3, g4⟩ := blk5 Hb5.out
    go_wp2_with fail
    refine bodyPost_ret (rtake_res _ _ _ _ _ rfl rfl (blk_set5 Hb5.out _ _ _ _ _) rfl) rfl ?_
    exact ⟨rfl, ext_set5 HE5.out (Nat.le_refl _) _ _ _ _ _⟩
   | some q =>
    obtain ⟨A5, c5, rfl, ho5, hE5⟩ := h5
    have Hb5 := Lib.hid (HbW.out.ext hE5)
    have Hs5 := Lib.hid (HsW.out.ext hE5)
    have HE5 := Lib.hid (Ext.trans HEW.out hE5)
    have hca := run_convert_sl (P := Tryz.prog) w5 43 9 5 Tryz.underlying43 Tryz.underlying5 Tryz.underlying9 ho5.bs
    have hcb := run_convert_sl (P := Tryz.prog) w5 43 9 5 Tryz.underlying43 Tryz.underlying5 Tryz.underlying9 (HB.out.ext HE5.out)
    by_cases hqb : q = bs
    ·obtain rfl : some s = R := by rw [← HR3.out, if_pos (by rw [hqb])]
     subst hqb
     obtain ⟨t0, t1, t2, t3, t4⟩ := blk5 Hs5.out
     obtain ⟨f0, f1, f2, f3, f4⟩ := blk5f Hb5.out
     obtain ⟨g0, g1, g2, g3, g4⟩ := blk5 Hb5.out
     go_wp2_with fail
     refine bodyPost_ret (rtake_res _ _ _ _ _ rfl rfl (blk_set5 Hb5.out _ _ _ _ _) rfl) rfl ?_
     exact ⟨rfl, ext_set5 HE5.out (Nat.le_refl _) _ _ _ _ _⟩
    ·obtain rfl : none = R := by rw [← HR3.out, if_neg (by simpa using hqb)]
     have hqb2 : (q == bs) = false := by simpa using hqb
     obtain ⟨f0, f1, f2, f3, f4⟩ := blk5f Hb5.out
     obtain ⟨g0, g1, g2, g3, g4⟩ := blk5 Hb5.out
     go_wp2_with fail
     refine bodyPost_ret (rtake_res _ _ _ _ _ rfl rfl (blk_set5 Hb5.out _ _ _ _ _) rfl) rfl ?_
     exact ⟨rfl, ext_set5 HE5.out (Nat.le_refl _) _ _ _ _ _⟩
 ·have hfb : (f == 2) = false := by simpa using hf
  have HR2 : Hid (tk9 bs f r1 = R) := Lib.hid (by have h := HR.out; unfold rtake9 rread9 at h; rw [if_neg hf, hr1] at h; exact h)
  have HbW := Lib.hid (Hb1.out.ext HX2.out)
  have HsW := Hsb
  have HEW := Lib.hid (Ext.trans HE1.out HX2.out)
  cases r1 with
  | none =>
   obtain rfl : none = R := HR2.out
   obtain ⟨f0, f1, f2, f3, f4⟩ := blk5f HbW.out
   obtain ⟨g0, g1, g2, g3, g4⟩ := blk5 HbW.out
   go_wp2_with fail
   refine bodyPost_ret (rtake_res _ _ _ _ _ rfl rfl (blk_set5 HbW.out _ _ _ _ _) rfl) rfl ?_
   exact ⟨rfl, ext_set5 HEW.out (Nat.le_refl _) _ _ _ _ _⟩
  | some s =>
   obtain rfl : s = s1 := hs1
   obtain ⟨q0, q1, q2, q3, q4⟩ := blk5 HsW.out
   obtain ⟨pr, hpr⟩ : ∃ pr, putR s f = pr := ⟨_, rfl⟩
   have harm := fun W => RPut_any s f W
   rw [hpr] at harm
   have HR3 : Hid ((if pr = some bs then some s else none) = R) := Lib.hid (by have h := HR2.out; rw [tk9_some, hpr] at h; exact h)
   have Harm := Lib.hid harm
   clear harm hpr HR2
   go_wp2_with fail
   refine (Harm.out _).mono ?_
   rintro e w5 h5
   cases pr with
   | none =>
    obtain ⟨rfl, hE5⟩ := h5
    obtain rfl : none = R := HR3.out
    have Hb5 := Lib.hid (HbW.out.ext hE5)
    have HE5 := Lib.hid (Ext.trans HEW.out hE5)
    obtain ⟨f0, f1, f2, f3, f4⟩ := blk5f Hb5.out
    obtain ⟨g0, g1, g2, g3, g4⟩ := blk5 Hb5.out
    go_wp2_with fail
    refine bodyPost_ret (rtake_res _ _ _ _ _ rfl rfl (blk_set5 Hb5.out _ _ _ _ _) rfl) rfl ?_
    exact ⟨rfl, ext_set5 HE5.out (Nat.le_refl _) _ _ _ _ _⟩
   | some q =>
    obtain ⟨A5, c5, rfl, ho5, hE5⟩ := h5
    have Hb5 := Lib.hid (HbW.out.ext hE5)
    have Hs5 := Lib.hid (HsW.out.ext hE5)
    have HE5 := Lib.hid (Ext.trans HEW.out hE5)
    have hca := run_convert_sl (P := Tryz.prog) w5 43 9 5 Tryz.underlying43 Tryz.underlying5 Tryz.underlying9 ho5.bs
    have hcb := run_convert_sl (P := Tryz.prog) w5 43 9 5 Tryz.underlying43 Tryz.underlying5 Tryz.underlying9 (HB.out.ext HE5.out)
    by_cases hqb : q = bs
    ·obtain rfl : some s = R := by rw [← HR3.out, if_pos (by rw [hqb])]
     subst hqb
     obtain ⟨t0, t1, t2, t3, t4⟩ := blk5 Hs5.out
     obtain ⟨f0, f1, f2, f3, f4⟩ := blk5f Hb5.out
     obtain ⟨g0, g1, g2, g3, g4⟩ := blk5 Hb5.out
     go_wp2_with fail
     refine bodyPost_ret (rtake_res _ _ _ _ _ rfl rfl (blk_set5 Hb5.out _ _ _ _ _) rfl) rfl ?_
     exact ⟨rfl, ext_set5 HE5.out (Nat.le_refl _) _ _ _ _ _⟩
    ·obtain rfl : none = R := by rw [← HR3.out, if_neg (by simpa using hqb)]
     have hqb2 : (q == bs) = false := by simpa using hqb
     obtain ⟨f0, f1, f2, f3, f4⟩ := blk5f Hb5.out
     obtain ⟨g0, g1, g2, g3, g4⟩ := blk5 Hb5.out
     go_wp2_with fail
     refine bodyPost_ret (rtake_res _ _ _ _ _ rfl rfl (blk_set5 Hb5.out _ _ _ _ _) rfl) rfl ?_
     exact ⟨rfl, ext_set5 HE5.out (Nat.le_refl _) _ _ _ _ _⟩
open Go.RowKit Go.Mv
set_option maxRecDepth 100000
def rblk (p : Nat × Nat) (bs : List UInt8) : List Ent × (Nat × Nat) × Nat := match nextS p bs with | none => ([], (0, 0), 0) | some x => (x.1, chainP p (blkBody x.1), bs.length - x.2.length)
def RBlkP (w : World) (r : List Ent × (Nat × Nat) × Nat) (e : Ending) (w' : World) : Prop :=
 ∃ vl vz, e = .returned (.tuple #[vl, vz, .int .i64 r.2.2]) ∧ w'.ownsRow w.heap.size 100 3 vl r.1.length (entCells r.1) ∧ PtV vz r.2.1 ∧ Ext w w'
theorem RBlkP.none {w w' : World} {p : Nat × Nat} {bs : List UInt8} (h : nextS p bs = none) (hE : Ext w w') : RBlkP w (rblk p bs) (.returned (.tuple #[.slice none 0 0, .complex .f64 0 0, .int .i64 0])) w' := by
 unfold rblk; rw [h]
 exact ⟨_, _, rfl, World.ownsRow_nil _ _ _ _, PtV.zero, hE⟩
theorem nextS_taken {p : Nat × Nat} {bs : List UInt8} (h : takenS bs = none) : nextS p bs = none := by unfold nextS; rw [h]
theorem rblk_plain {p : Nat × Nat} {bs : List UInt8} {es : List Ent} {r : List UInt8} (h : takenS bs = some (es, r)) (h4 : 4 ≤ r.length) :
  ∃ nn, bs.length - r.length + 4 = nn ∧ r.length ≤ bs.length ∧ nn ≤ bs.length ∧ ((blkS p es = bs.take nn ∧ rblk p bs = (es, chainP p (blkBody es), nn)) ∨ (blkS p es ≠ bs.take nn ∧ nextS p bs = none)) := by
 obtain ⟨h1, h2⟩ := takenS_ok h
 have hl := congrArg List.length h2
 rw [List.length_append] at hl
 have ht : bs.take (bs.length - r.length + 4) = blkBody es ++ r.take 4 := by
  rw [hl, Nat.add_sub_cancel, h2, List.take_length_add_append]
 refine ⟨_, rfl, by omega, by omega, ?_⟩
 have hn : nextS p bs = if 4 ≤ r.length ∧ r.take 4 = fourB (chainP p (blkBody es)) then some (es, r.drop 4) else none := by unfold nextS; rw [h]
 by_cases hf : r.take 4 = fourB (chainP p (blkBody es))
 ·rw [if_pos ⟨h4, hf⟩] at hn
  refine .inl ⟨by rw [ht, hf]; rfl, ?_⟩
  unfold rblk
  rw [hn]
  dsimp only
  rw [List.length_drop, show bs.length - (r.length - 4) = bs.length - r.length + 4 from by omega]
 ·rw [if_neg (fun h => hf h.2)] at hn
  refine .inr ⟨fun e => hf ?_, hn⟩
  rw [ht] at e
  unfold blkS at e
  exact (List.append_cancel_left e).symm
theorem entInts_at (es : List Ent) : ∀ (k : Nat) (hk : k < es.length), (entInts es)[3 * k]? = some es[k].t ∧ (entInts es)[3 * k + 1]? = some es[k].k ∧ (entInts es)[3 * k + 2]? = some es[k].v := by
 induction es with
 | nil => intro k hk; simp at hk
 | cons e es ih =>
  intro k hk
  rw [show entInts (e :: es) = e.t :: e.k :: e.v :: entInts es from rfl]
  cases k with
  | zero => exact ⟨rfl, rfl, rfl⟩
  | succ k =>
   obtain ⟨h0, h1, h2⟩ := ih k (by simpa using hk)
   rw [show 3 * (k + 1) = 3 * k + 1 + 1 + 1 from by omega, show 3 * k + 1 + 1 + 1 + 1 = (3 * k + 1) + 1 + 1 + 1 from rfl, show 3 * k + 1 + 1 + 1 + 2 = (3 * k + 2) + 1 + 1 + 1 from rfl]
   simp only [List.getElem?_cons_succ, List.getElem_cons_succ]
   exact ⟨h0, h1, h2⟩
theorem refBlk_any (za zb : Nat) (p : Nat × Nat) (v : Value) (bs : List UInt8) (w : World) (hz : PtV (.complex .f64 za zb) p) (hBs : Bs w v bs) (hl : bs.length ≤ 2000000) : Calls Tryz.prog 121 #[.complex .f64 za zb, v] w (RBlkP w (rblk p bs)) := by
 obtain ⟨A, c, rfl, h1, h2⟩ := SlR.open_ hBs
 have hpt := hz.pt
 clear hz
 by_cases h0 : bs.length = 0
 ·have hb : bs = [] := List.eq_nil_of_length_eq_zero h0
  subst hb
  have hN := Lib.hid (nextS_taken (p := p) (bs := []) rfl)
  go_enter Tryz.func121, Tryz.ntmps121
  go_wp2_with fail
  go_ret3
  exact RBlkP.none hN.out (Ext.refl _)
 obtain ⟨_, b, off, rfl, hc⟩ := Bs.at_ hBs (by omega)
 have hc0 : w.cell? ⟨b, off, none⟩ = some (.int .u8 (bs[0].toNat : Int)) := hc 0 (by omega)
 obtain ⟨x, l, rfl⟩ : ∃ x l, bs = x :: l := by cases bs with | nil => exact absurd rfl h0 | cons x l => exact ⟨x, l, rfl⟩
 simp only [List.getElem_cons_zero] at hc0
 have hblt : b < w.heap.size := World.block_lt_of_cell? w _ hc0
 have HBs := Lib.hid hBs
 have e0 : ¬ ((l.length : Int) + 1 < 1) := by omega
 clear hc hBs h0
 simp only [List.length_cons] at *
 have hx := x.toNat_lt
 by_cases hx0 : x.toNat = 0 ∨ 4 < x.toNat
 ·have hN := Lib.hid (nextS_taken (p := p) (bs := x :: l) (by rw [takenS, if_pos hx0]))
  by_cases hx1 : x.toNat = 0
  ·rw [hx1] at hc0
   go_enter Tryz.func121, Tryz.ntmps121
   go_wp2_with fail
   go_ret3
   exact RBlkP.none hN.out (Ext.refl _)
  ·have hx4 : (4 : Int) < (x.toNat : Int) := by omega
   have hx5 : ¬ ((x.toNat : Int) < 1) := by omega
   go_enter Tryz.func121, Tryz.ntmps121
   go_wp2_with fail
   go_ret3
   exact RBlkP.none hN.out (Ext.refl _)
 have hx1 : ¬ ((x.toNat : Int) < 1) := by omega
 have hx4 : ¬ ((4 : Int) < (x.toNat : Int)) := by omega
 have HT : Hid (∀ (W : World) (u : Value), Bs W u l → Calls Tryz.prog 38 #[u, .int .i64 (3 * (x.toNat : Int))] W (TakesP W (takesGo (3 * x.toNat) [] l))) := by
  intro W u hu
  have := refTakes_any u l (3 * x.toNat) (by omega) W hu (by omega)
  rwa [show ((3 * x.toNat : Nat) : Int) = 3 * (x.toNat : Int) from by omega] at this
 have HTR : Hid (takenS (x :: l) = if (takesGo (3 * x.toNat) [] l).1 = 0 ∧ allOk (trip (takesGo (3 * x.toNat) [] l).2.1) = true then some (trip (takesGo (3 * x.toNat) [] l).2.1, (takesGo (3 * x.toNat) [] l).2.2) else none) := by
  show _ = _
  rw [takenS, if_neg hx0]
 have HOK := Lib.hid (takesGo_ok (3 * x.toNat) [] l)
 generalize takesGo (3 * x.toNat) [] l = tk at *
 obtain ⟨er, li, r⟩ := tk
 dsimp only at *
 have hcut : ∀ W : World, Ext w W → Bs W (.slice (some ⟨b, off + 1, none⟩) l.length (c - 1)) l := by
  intro W hE
  have h := Bs.cut (HBs.out.ext hE) 1 (by simp) rfl
  simpa using h
 have Hcut := Lib.hid hcut
 have hem : ∀ W : World, Bs W (.slice (some ⟨b, off, none⟩) 0 0) [] := fun W => SlR.empty W 1 (by simp)
 clear hcut hx0
 have hvs : ∃ vs : Value, (∀ W, Ext w W → Bs W vs l) ∧ vs = .slice (if c = 1 then some ⟨b, off, none⟩ else some ⟨b, off + 1, none⟩) l.length (c - 1) := by
  by_cases hc1 : c = 1
  ·obtain rfl : l = [] := List.eq_nil_of_length_eq_zero (by omega)
   exact ⟨_, fun W _ => SlR.empty W 1 (by omega), rfl⟩
  ·exact ⟨_, fun W hE => Hcut.out W hE, by rw [if_neg hc1]⟩
 obtain ⟨vs, hvs1, hvs2⟩ := hvs
 have HVS := Lib.hid hvs1
 have hb1 : (1 : Int) ≤ (l.length : Int) + 1 := by omega
 have hb2 : (1 : Int) ≤ (c : Int) := by omega
 have hw1 : IntKind.i64.wrap (x.toNat : Int) = (x.toNat : Int) := IntWalk.i64_in _ (by omega)
 have hw2 : IntKind.i64.wrap (3 * (x.toNat : Int)) = 3 * (x.toNat : Int) := IntWalk.i64_in _ (by omega)
 have HV := Lib.hid hvs2
 clear hvs1 hem hvs2
 go_enter Tryz.func121, Tryz.ntmps121
 go_wp2_with fail
 go_region_held3 (fun w' => w'.cell? ⟨b, off, none⟩ = some (.int .u8 (x.toNat : Int))) (first | go_keep | assumption)
  (first | (go_at_call 38; (try rw [hw1, hw2]); rw [← HV.out]; refine (HT.out _ _ (HVS.out _ (Ext.drew (Ext.refl _)))).mono ?_; rintro e w1 ⟨vl, vr, rfl, ho1, ho2, hE1⟩; have hE1' : Ext w w1 := Ext.trans (Ext.drew (Ext.refl _)) hE1; have g0 := Ext.cell hE1' hc0; dsimp only at ho1 ho2; obtain ⟨Al, cl, rfl, _, _⟩ := SlR.open_ (SlR.of_own ho1); obtain ⟨Ar, cr, rfl, _, _⟩ := SlR.open_ (SlR.of_own ho2)))
 by_cases her : er = 0
 case neg =>
  have e6 : (er != 0) = true := by simpa using her
  have Her := Lib.hid her
  clear her
  go_wp2_with fail
  go_ret3
  exact RBlkP.none (nextS_taken (by rw [HTR.out, if_neg (fun h => Her.out h.1)])) hE1'
 subst her
 by_cases hr4 : (r.length : Int) < 4
 ·go_wp2_with fail
  go_ret3
  refine RBlkP.none ?_ hE1'
  unfold nextS
  rw [HTR.out]
  split
  ·rfl
  ·rename_i y hy
   split at hy
   ·cases hy
    rw [if_neg (fun h => by have := h.1; dsimp only at this; omega)]
   ·cases hy
 obtain ⟨l', hl', h4, hnum, hlr⟩ := HOK.out li r rfl
 rw [List.nil_append] at hl'
 subst hl'
 obtain ⟨h7, h8⟩ := ints_trip x.toNat li h4
 obtain ⟨es, hes⟩ : ∃ es, trip li = es := ⟨_, rfl⟩
 rw [hes] at HTR h7 h8
 have hlrl := congrArg List.length hlr
 rw [List.length_append] at hlrl
 have Hlr := Lib.hid hlr
 subst h7
 have HLi := entInts_len es
 have hes4 : es.length ≤ 4 := by omega
 have hes1 : 0 < es.length := by omega
 have hnx : (x.toNat : Int) = (es.length : Int) := by omega
 have HN := Lib.hid hnx
 have hxi : x.toNat = es.length := by omega
 have HX := Lib.hid hxi
 have Hlrl := Lib.hid hlrl
 clear HOK h4 hes HT hnum hlr h8 hnx hxi hlrl
 obtain ⟨i0, hi, hz0, hz1, hz2⟩ := info_parts info_ent
 have hIs : Is w1 (.slice Al (entInts es).length cl) (entInts es) := SlR.of_own ho1
 obtain ⟨_, bi, oi, rfl, hci⟩ := SlR.at_ hIs (by omega)
 have HCI : Hid (∀ k, (hk : k < es.length) → w1.cell? ⟨bi, oi + 3 * k, none⟩ = some (.int .i64 es[k].t) ∧ w1.cell? ⟨bi, oi + (3 * k + 1), none⟩ = some (.int .i64 es[k].k) ∧ w1.cell? ⟨bi, oi + (3 * k + 2), none⟩ = some (.int .i64 es[k].v)) := by
  intro k hk
  obtain ⟨e0, e1, e2⟩ := entInts_at es k hk
  exact ⟨hci _ _ (by rw [List.getElem?_map, e0]; rfl), hci _ _ (by rw [List.getElem?_map, e1]; rfl), hci _ _ (by rw [List.getElem?_map, e2]; rfl)⟩
 clear hci
 go_wp2_with fail
 go_loopw [10, 11] (fun vo i wr => ∃ k : Nat, Hid (k ≤ es.length) ∧ i = .int .i64 k ∧ wr.ownsRow w1.heap.size 100 3 vo k (entCells (es.take k)) ∧ Ext w1 wr) (fun _ i _ => x.toNat - (intOf i).toNat)
 case atStart => exact ⟨0, Nat.zero_le _, rfl, World.ownsRow_nil _ _ _ _, Ext.refl _⟩
 case round =>
  obtain ⟨k, Hk, rfl, hown, hE⟩ := hrel
  have g1 := Ext.cell hE g0
  by_cases hlt : (k : Int) < (x.toNat : Int)
  ·have hkl : k < es.length := by have := HN.out; omega
   obtain ⟨q0, q1, q2⟩ := HCI.out k hkl
   have q0' := Ext.cell hE q0
   have q1' := Ext.cell hE q1
   have q2' := Ext.cell hE q2
   have hsn : entCells (es.take (k + 1)) = entCells (es.take k) ++ [.int .i64 es[k].t, .int .i64 es[k].k, .int .i64 es[k].v] := by
    rw [List.take_succ_eq_append_getElem hkl]
    show (es.take k ++ [es[k]]).flatMap Ent.cells = _
    rw [List.flatMap_append]
    rfl
   have Hsn := Lib.hid hsn
   clear hsn
   generalize es[k].t = et at *
   generalize es[k].k = ek at *
   generalize es[k].v = ev at *
   have hk4 : k < 4 := by omega
   obtain ⟨j0, hj0⟩ : ∃ j0, 3 * k = j0 := ⟨_, rfl⟩
   obtain ⟨j1, hj1⟩ : ∃ j1, 3 * k + 1 = j1 := ⟨_, rfl⟩
   obtain ⟨j2, hj2⟩ : ∃ j2, 3 * k + 2 = j2 := ⟨_, rfl⟩
   rw [hj0] at q0' q0
   rw [hj1] at q1' q1
   rw [hj2] at q2' q2
   have y0 : IntKind.i64.wrap (3 * (k : Int)) = (j0 : Int) := by rw [IntWalk.i64_in _ (by omega)]; omega
   have y1 : IntKind.i64.wrap ((j0 : Int) + 1) = (j1 : Int) := by rw [IntWalk.i64_in _ (by omega)]; omega
   have y2 : IntKind.i64.wrap ((j0 : Int) + 2) = (j2 : Int) := by rw [IntWalk.i64_in _ (by omega)]; omega
   have y3 : (j0 : Int) < 3 * (es.length : Int) := by omega
   have y4 : (j1 : Int) < 3 * (es.length : Int) := by omega
   have y5 : (j2 : Int) < 3 * (es.length : Int) := by omega
   clear hj0 hj1 hj2
   go_wp2_with fail
   refine wp_region_held_drew (S := fun w' => w'.cell? ⟨bi, oi + j0, none⟩ = some (.int .i64 et) ∧ w'.cell? ⟨bi, oi + j1, none⟩ = some (.int .i64 ek) ∧ w'.cell? ⟨bi, oi + j2, none⟩ = some (.int .i64 ev)) (by kernel_rfl) ⟨q0', q1', q2'⟩ (fun hHeld => ?_)
   refine tkL 0 rfl ?_
   try simp only [Act.put, sA, sZ, sS]
   refine tkL 1 rfl ?_
   try simp only [Act.put, sA, sZ, sS]
   refine tkL 2 rfl ?_
   try simp only [Act.put, sA, sZ, sS]
   refine tkL 3 rfl ?_
   try simp only [Act.put, sA, sZ, sS]
   refine tkL 4 rfl ?_
   try simp only [Act.put, sA, sZ, sS]
   refine tkL 5 rfl ?_
   try simp only [Act.put, sA, sZ, sS]
   refine tkL 6 rfl ?_
   try simp only [Act.put, sA, sZ, sS]
   refine tkL 7 rfl ?_
   try simp only [Act.put, sA, sZ, sS]
   refine tkL 8 rfl ?_
   try simp only [Act.put, sA, sZ, sS]
   refine tkL 9 rfl ?_
   try simp only [Act.put, sA, sZ, sS]
   refine tkL 10 rfl ?_
   try simp only [Act.put, sA, sZ, sS]
   refine tkL 11 rfl ?_
   try simp only [Act.put, sA, sZ, sS]
   refine tkL 12 rfl ?_
   try simp only [Act.put, sA, sZ, sS]
   refine tkL 13 rfl ?_
   try simp only [Act.put, sA, sZ, sS]
   refine tkL 14 rfl ?_
   try simp only [Act.put, sA, sZ, sS]
   refine tkL 15 rfl ?_
   try simp only [Act.put, sA, sZ, sS]
   refine tkL 16 rfl ?_
   try simp only [Act.put, sA, sZ, sS]
   refine tkL 17 rfl ?_
   try simp only [Act.put, sA, sZ, sS]
   refine tkL 18 rfl ?_
   try simp only [Act.put, sA, sZ, sS]
   refine AllReadyH.one (i := 19) rfl (by kernel_rfl) (by rfl) (fun K hK => ?_)
   go_simp
   have hEx : Ext wr (wr.drew.alloc (.cells #[.int .i64 et, .int .i64 ek, .int .i64 ev] 100)) := Ext.alloc (Ext.drew (Ext.refl _)) _
   refine hK.out _ _ ⟨Ext.cell hEx q0', Ext.cell hEx q1', Ext.cell hEx q2'⟩ (fun hHeld => ?_)
   clear hK K
   try simp only [Act.put, sA, sZ, sS]
   refine AllReadyH.one (i := 20) rfl (by kernel_rfl) (by rfl) (fun K hK => ?_)
   have hon := own_ext hown hEx
   refine wp_append_lies _ (.tmp 58) (.tmp 77) 25 (by rfl) w1.heap.size 100 i0 _ 3 24 Tryz.underlying25 hi hz0 hz1 hz2 rfl (by decide) _ k (entCells (es.take k)) (by rfl) hon ⟨wr.heap.size, 0, none⟩ 1 1 [.int .i64 et, .int .i64 ek, .int .i64 ev] (by rfl) rfl (World.news_of_block (heap_alloc_new _ _)) (by simp [Value.oneCell']) (by omega) (by unfold maxLen; omega) (by omega) (by have := hE.size; simp; omega) _ rfl ?_
   intro g' cap w3 hown' hgrow _ _
   have hE3 : Ext w1 w3 := Ext.grownOwn (Ext.trans hE hEx) hon hgrow
   refine hK.out _ _ ⟨Ext.cell hE3 q0, Ext.cell hE3 q1, Ext.cell hE3 q2⟩ (fun hHeld => ?_)
   clear hK K
   try simp only [Act.put, sA, sZ, sS]
   refine tkL 21 rfl ?_
   try simp only [Act.put, sA, sZ, sS]
   refine wpAnyH_done (by kernel_rfl) ?_ _
   go_wp2_with fail
   go_roundw
   case rel =>
    refine ⟨k + 1, by show _ ≤ _; omega, by go_num, ?_, hE3⟩
    rw [Hsn.out]
    exact hown'
   case measure => simp [intOf]; omega
  ·have hke : k = es.length := by have h1 := Hk.out; have h2 := HN.out; omega
   subst hke
   rw [List.take_of_length_le (Nat.le_refl _)] at hown
   have hes' : Es wr u10 es := SlR.of_own hown
   have hEw : Ext w wr := Ext.trans hE1' hE
   obtain ⟨Ao, co, rfl, _, _⟩ := SlR.open_ hes'
   go_wp2_with fail
   have hrl : r.length ≤ l.length := by have := Hlrl.out; omega
   cases hok : blkOk es with
   | false =>
    have hnt : Hid (nextS p (x :: l) = none) := by
     show _ = _
     refine nextS_taken ?_
     rw [HTR.out, if_neg]
     rintro ⟨_, h⟩
     rw [(blkOk_iff es).2 ⟨⟨hes1, hes4⟩, h⟩] at hok
     cases hok
    refine (refBlock_bad _ _ es wr hes' hok).mono ?_
    rintro e w4 ⟨rfl, hE4⟩
    clear hok
    go_wp2_with fail
    refine wp_region_held_drew (S := fun _ => True) (by kernel_rfl) trivial (fun hHeld => ?_)
    refine tkL 0 rfl ?_
    try simp only [Act.put, sA, sZ, sS]
    refine tkL 1 rfl ?_
    try simp only [Act.put, sA, sZ, sS]
    refine tkL 2 rfl ?_
    try simp only [Act.put, sA, sZ, sS]
    refine wpAnyH_skipL (i := 3) rfl (by kernel_rfl) (by kernel_rfl) (by kernel_rfl) (fun _ _ _ h => h) (by rfl) (by assumption) ?_
    try simp only [Act.put, sA, sZ, sS]
    refine wpAnyH_skipL (i := 4) rfl (by kernel_rfl) (by kernel_rfl) (by kernel_rfl) (fun _ _ _ h => h) (by rfl) (by assumption) ?_
    try simp only [Act.put, sA, sZ, sS]
    refine wpAnyH_skipL (i := 5) rfl (by kernel_rfl) (by kernel_rfl) (by kernel_rfl) (fun _ _ _ h => h) (by rfl) (by assumption) ?_
    try simp only [Act.put, sA, sZ, sS]
    refine wpAnyH_skipL (i := 6) rfl (by kernel_rfl) (by kernel_rfl) (by kernel_rfl) (fun _ _ _ h => h) (by rfl) (by assumption) ?_
    try simp only [Act.put, sA, sZ, sS]
    refine wpAnyH_skipL (i := 7) rfl (by kernel_rfl) (by kernel_rfl) (by kernel_rfl) (fun _ _ _ h => h) (by rfl) (by assumption) ?_
    try simp only [Act.put, sA, sZ, sS]
    refine wpAnyH_skipL (i := 8) rfl (by kernel_rfl) (by kernel_rfl) (by kernel_rfl) (fun _ _ _ h => h) (by rfl) (by assumption) ?_
    try simp only [Act.put, sA, sZ, sS]
    refine wpAnyH_skipL (i := 9) rfl (by kernel_rfl) (by kernel_rfl) (by kernel_rfl) (fun _ _ _ h => h) (by rfl) (by assumption) ?_
    try simp only [Act.put, sA, sZ, sS]
    refine tkL 10 rfl ?_
    try simp only [Act.put, sA, sZ, sS]
    refine wpAnyH_done (by kernel_rfl) ?_ _
    go_wp2_with fail
    go_ret3
    exact RBlkP.none hnt.out (Ext.drew (Ext.trans hEw hE4))
   | true =>
    have htk : takenS (x :: l) = some (es, r) := by rw [HTR.out, if_pos (by simp [((blkOk_iff es).1 hok).2])]
    obtain ⟨nn, hnn, _, hnl, hcs⟩ := rblk_plain (p := p) htk (by omega)
    rw [List.length_cons] at hnn hnl
    have hni : (l.length : Int) + 1 - (r.length : Int) + 4 = (nn : Int) := by omega
    refine (refBlock_ok za zb _ es wr hes' hok).mono ?_
    rw [hpt]
    rintro e w4 ⟨v4, vz, rfl, hpz, ho4, hE4⟩
    clear hok htk hnn
    obtain ⟨KB, hKB⟩ : ∃ KB, blkS p es = KB := ⟨_, rfl⟩
    rw [hKB] at ho4 hcs
    have hbK : Bs w4 v4 KB := SlR.of_own ho4
    obtain ⟨A4, c4, rfl, _, _⟩ := SlR.open_ hbK
    obtain ⟨z3, z4, rfl, hz3, hz4⟩ := hpz
    have hbn : Bs w4 (.slice (some ⟨b, off, none⟩) nn c) ((x :: l).take nn) := Bs.take (HBs.out.ext (Ext.trans hEw hE4)) nn (by simpa using hnl)
    have hca := run_convert_sl (P := Tryz.prog) w4.drew 43 9 5 Tryz.underlying43 Tryz.underlying5 Tryz.underlying9 (SlR.ext hbK (Ext.drew (Ext.refl _)))
    have hcb := run_convert_sl (P := Tryz.prog) w4.drew 43 9 5 Tryz.underlying43 Tryz.underlying5 Tryz.underlying9 (SlR.ext hbn (Ext.drew (Ext.refl _)))
    have hnc : (nn : Int) ≤ (c : Int) := by omega
    have hE14 : Ext w w4 := Ext.trans hEw hE4
    have hoo : w4.ownsRow w1.heap.size 100 3 (.slice Ao es.length co) es.length (entCells es) := own_ext hown hE4
    rcases hcs with ⟨hq, hrb⟩ | ⟨hq, hrb⟩
    ·have HRB := Lib.hid hrb
     rw [← hq] at hcb
     clear hrb hq hKB hbK hbn hes' hown
     go_wp2_with fail
     refine wp_region_held_drew (S := fun W => (convert 43 9 (.slice A4 KB.length c4)).run Tryz.prog W = .ok (.string ⟨KB.toArray⟩) W ∧ (convert 43 9 (.slice (some ⟨b, off, none⟩) nn c)).run Tryz.prog W = .ok (.string ⟨KB.toArray⟩) W) (by kernel_rfl) ⟨hca, hcb⟩ (fun hHeld => ?_)
     refine tkL 0 rfl ?_
     try simp only [Act.put, sA, sZ, sS]
     refine tkL 1 rfl ?_
     try simp only [Act.put, sA, sZ, sS]
     refine tkL 2 rfl ?_
     try simp only [Act.put, sA, sZ, sS]
     refine tkL 3 rfl ?_
     try simp only [Act.put, sA, sZ, sS]
     refine tkL 4 rfl ?_
     try simp only [Act.put, sA, sZ, sS]
     refine tkL 5 rfl ?_
     try simp only [Act.put, sA, sZ, sS]
     refine tkL 6 rfl ?_
     try simp only [Act.put, sA, sZ, sS]
     refine tkL 7 rfl ?_
     try simp only [Act.put, sA, sZ, sS]
     refine tkL 8 rfl ?_
     try simp only [Act.put, sA, sZ, sS]
     refine tkL 9 rfl ?_
     try simp only [Act.put, sA, sZ, sS]
     refine tkL 10 rfl ?_
     try simp only [Act.put, sA, sZ, sS]
     refine wpAnyH_done (by kernel_rfl) ?_ _
     go_wp2_with fail
     go_ret3
     rw [HRB.out]
     exact ⟨_, _, rfl, own_base (own_ext hoo (Ext.drew (Ext.refl _))) hE1'.size, ⟨_, _, rfl, hz3, hz4⟩, Ext.drew hE14⟩
    ·have HRB := Lib.hid hrb
     obtain ⟨TB, hTB⟩ : ∃ TB, (x :: l).take nn = TB := ⟨_, rfl⟩
     rw [hTB] at hcb hq
     have hne : (KB == TB) = false := by rw [beq_eq_false_iff_ne]; exact hq
     clear hrb hKB hbK hbn hes' hown hTB
     go_wp2_with fail
     refine wp_region_held_drew (S := fun W => (convert 43 9 (.slice A4 KB.length c4)).run Tryz.prog W = .ok (.string ⟨KB.toArray⟩) W ∧ (convert 43 9 (.slice (some ⟨b, off, none⟩) nn c)).run Tryz.prog W = .ok (.string ⟨TB.toArray⟩) W) (by kernel_rfl) ⟨hca, hcb⟩ (fun hHeld => ?_)
     refine tkL 0 rfl ?_
     try simp only [Act.put, sA, sZ, sS]
     refine tkL 1 rfl ?_
     try simp only [Act.put, sA, sZ, sS]
     refine tkL 2 rfl ?_
     try simp only [Act.put, sA, sZ, sS]
     refine tkL 3 rfl ?_
     try simp only [Act.put, sA, sZ, sS]
     refine tkL 4 rfl ?_
     try simp only [Act.put, sA, sZ, sS]
     refine tkL 5 rfl ?_
     try simp only [Act.put, sA, sZ, sS]
     refine tkL 6 rfl ?_
     try simp only [Act.put, sA, sZ, sS]
     refine tkL 7 rfl ?_
     try simp only [Act.put, sA, sZ, sS]
     refine tkL 8 rfl ?_
     try simp only [Act.put, sA, sZ, sS]
     refine tkL 9 rfl ?_
     try simp only [Act.put, sA, sZ, sS]
     refine tkL 10 rfl ?_
     try simp only [Act.put, sA, sZ, sS]
     refine wpAnyH_done (by kernel_rfl) ?_ _
     go_wp2_with fail
     go_ret3
     exact RBlkP.none HRB.out (Ext.drew hE14)
end Go.Proofs.YtmecffckghkahaaGreatDoor
