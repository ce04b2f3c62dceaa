/- Merged: Keep SayP ShR Harm -/
import Derived.Test.YtmecffckghkahaaGreatDoorShadowSays33
set_option linter.all false
set_option maxHeartbeats 8000000
namespace Go.Proofs.YtmecffckghkahaaGreatDoor
open Go.RowKit Go.Mv Go.Shelf
set_option maxRecDepth 100000
theorem same17_any (va vb : Value) (a b : List UInt8) (w : World) (ha : Bs w va a) (hb : Bs w vb b) :
  Calls Tryz.prog 19 #[va, vb] w fun e w' => e = .returned (.bool (decide (a = b))) ∧ Ext w w' := by
 obtain ⟨A, ca, rfl, h1, h2⟩ := SlR.open_ ha
 obtain ⟨B, cb, rfl, h3, h4⟩ := SlR.open_ hb
 have hca := run_convert_sl (P := Tryz.prog) w 43 9 5 Tryz.underlying43 Tryz.underlying5 Tryz.underlying9 ha
 have hcb := run_convert_sl (P := Tryz.prog) w 43 9 5 Tryz.underlying43 Tryz.underlying5 Tryz.underlying9 hb
 go_enter Tryz.func19, Tryz.ntmps19
 go_wp2
 go_ret
 exact ⟨ret_bool (by rw [Bool.eq_iff_iff]; simp), Ext.refl _⟩
def idC (x : Int × Int × Int) : List Value := [.int .u8 x.1, .int .i64 x.2.1, .int .i64 x.2.2]
def idCells (l : List (Int × Int × Int)) : List Value := l.flatMap idC
def OwnK (w : World) (base : Nat) (v : Value) (l : List (Int × Int × Int)) : Prop := w.ownsRow base 40 3 v l.length (idCells l)
theorem info_id : (Tryz.prog.info? 40).map (fun i => (i.zero, i.size, i.bytes)) = some (some (.agg #[.int .u8 0, .int .i64 0, .int .i64 0]), 3, 24) := by kernel_rfl
theorem idCells_len (l : List (Int × Int × Int)) : (idCells l).length = l.length * 3 := by
 induction l with
 | nil => rfl
 | cons x l ih => unfold idCells at ih ⊢; rw [List.flatMap_cons, List.length_append, ih]; simp [idC]; omega
theorem one_id (l : List (Int × Int × Int)) : ∀ u ∈ idCells l, u.oneCell' = true := by
 intro u hu
 obtain ⟨s, _, hu⟩ := List.mem_flatMap.1 hu
 simp only [idC, List.mem_cons, List.not_mem_nil, or_false] at hu
 rcases hu with rfl | rfl | rfl <;> rfl
theorem new_id (W : World) (x : Int × Int × Int) : OwnK (W.alloc (.cells #[.int .u8 x.1, .int .i64 x.2.1, .int .i64 x.2.2] 40)) W.heap.size (.slice (some ⟨W.heap.size, 0, none⟩) 1 1) [x] :=
 ⟨rfl, .inr ⟨W.heap.size, 1, #[.int .u8 x.1, .int .i64 x.2.1, .int .i64 x.2.2], rfl, Nat.le_refl _, heap_alloc_new W _, Nat.le_refl _, by simp [maxLen], rfl, rfl⟩⟩
theorem wpList_app_id {ops : Array Oper} {rest : List Oper} {o : Oper} {a : Act} {w : World} {Q : Exit → Act → World → Prop} (hgd : o.guard = none) (s x : Operand)
  (ho : o.op = .call { callee := .builtin .append, args := #[s, x], argTypes := #[57, 57] })
  (base : Nat) (v : Value) (bs : List (Int × Int × Int)) (hs : a.eval s = v) (hown : OwnK w base v bs) (vx : Value) (c : Int × Int × Int) (hx : a.eval x = vx) (hr : SlR w 3 vx 1 (idCells [c]))
  (hlen : bs.length ≤ 2000000) (hbase : base ≤ w.heap.size)
  (h : ∀ A cc w', OwnK w' base (.slice A (bs.length + 1) cc) (bs ++ [c]) → w.grownBy w' v.ownBlock → wpList Tryz.prog ops Q rest (a.put o.dst (.slice A (bs.length + 1) cc)) w') : wpList Tryz.prog ops Q (o :: rest) a w := by
 obtain ⟨i0, hi, hz0, hz1, hz2⟩ := info_parts info_id
 refine wpList_append_sl _ hgd s x 57 ho base 40 i0 _ 3 24 Tryz.underlying57 hi hz0 hz1 hz2 rfl (by decide) v bs.length (idCells bs) hs hown vx 1 (idCells [c]) hx hr (one_id _) (by unfold maxLen; omega) (by omega) hbase ?_
 intro v' w' h1 h2
 obtain ⟨A, cc, rfl, _, _⟩ := SlR.open_ (SlR.of_own h1)
 refine h A cc w' ?_ h2
 unfold OwnK
 rw [List.length_append, show idCells (bs ++ [c]) = idCells bs ++ idCells [c] from by simp [idCells]]
 exact h1
def keep0 (m : Mf) : List (Int × Int × Int) := (1, 0, 0) :: (if m.sq = 0 then [] else [(4, m.sq, m.sf)])
def segId (s : Sg4) : Int × Int × Int := (3, s.seq, s.fmt)
def keepM (m : Mf) : List (Int × Int × Int) := keep0 m ++ m.segs.map segId
theorem Keep_any (m : Mf) (v : Value) (w : World) (hS : Sgs w v m.segs) (hl : m.segs.length ≤ 1000000) :
  Calls Tryz.prog 18 #[.agg #[.int .i64 m.next, .int .i64 m.term, .int .i64 m.vote, .int .i64 m.sq, .int .i64 m.sf, v]] w fun e w' => ∃ v', e = .returned v' ∧ OwnK w' w.heap.size v' (keepM m) ∧ Ext w w' := by
 obtain ⟨A, c, rfl, _, _⟩ := hS.open_
 have HS := Lib.hid hS
 clear hS
 obtain ⟨nx, tm, vt, sq, sf, sg⟩ := m
 dsimp only at *
 have hb := Blk.new w 32 #[.int .i64 nx, .int .i64 tm, .int .i64 vt, .int .i64 sq, .int .i64 sf, .slice A sg.length c]
 have hX : Ext w ((w.alloc (.cells #[.int .i64 nx, .int .i64 tm, .int .i64 vt, .int .i64 sq, .int .i64 sf, .slice A sg.length c] 32)).alloc (.cells #[.int .u8 1, .int .i64 0, .int .i64 0] 40)) := Ext.alloc (Ext.alloc (Ext.refl _) _) _
 have hbX : Blk ((w.alloc (.cells #[.int .i64 nx, .int .i64 tm, .int .i64 vt, .int .i64 sq, .int .i64 sf, .slice A sg.length c] 32)).alloc (.cells #[.int .u8 1, .int .i64 0, .int .i64 0] 40)) w.heap.size 32 #[.int .i64 nx, .int .i64 tm, .int .i64 vt, .int .i64 sq, .int .i64 sf, .slice A sg.length c] := hb.alloc _
 have hoX : OwnK ((w.alloc (.cells #[.int .i64 nx, .int .i64 tm, .int .i64 vt, .int .i64 sq, .int .i64 sf, .slice A sg.length c] 32)).alloc (.cells #[.int .u8 1, .int .i64 0, .int .i64 0] 40)) w.heap.size (.slice (some ⟨w.heap.size + 1, 0, none⟩) 1 1) [(1, 0, 0)] := by
  have := new_id (w.alloc (.cells #[.int .i64 nx, .int .i64 tm, .int .i64 vt, .int .i64 sq, .int .i64 sf, .slice A sg.length c] 32)) (1, 0, 0)
  rw [World.size_alloc] at this
  exact own_base this (Nat.le_succ _)
 by_cases hq : sq = 0
 ·subst hq
  have hk0 : keepM ⟨nx, tm, vt, 0, sf, sg⟩ = [(1, 0, 0)] ++ sg.map segId := by unfold keepM keep0; rw [if_pos rfl]
  rw [hk0]
  obtain ⟨m0, m1, m2, m3, m4, m5⟩ := blk6 hbX
  have HX := Lib.hid hX
  have HB := Lib.hid hbX
  have HO := Lib.hid hoX
  clear hb hX hbX hoX hk0
  go_enter Tryz.func18, Tryz.ntmps18
  go_wp2_with fail
  clear m0 m1 m2 m3 m4 m5
  go_loopw [3, 4] (fun v3 v4 wr => ∃ k : Nat, k ≤ sg.length ∧ v4 = .int .i64 k ∧ Hid (OwnK wr w.heap.size v3 ([(1, 0, 0)] ++ (sg.take k).map segId)) ∧ Hid (Blk wr w.heap.size 32 #[.int .i64 nx, .int .i64 tm, .int .i64 vt, .int .i64 0, .int .i64 sf, .slice A sg.length c]) ∧ Hid (Ext w wr)) (fun _ v4 _ => sg.length - (intOf v4).toNat)
  case atStart => exact ⟨0, Nat.zero_le _, rfl, HO, HB, HX⟩
  case round =>
   obtain ⟨k, hk, rfl, HOk, HBk, HXk⟩ := hrel
   obtain ⟨m0, m1, m2, m3, m4, m5⟩ := blk6 HBk.out
   obtain ⟨Ao, co, rfl, _, _⟩ := SlR.open_ (SlR.of_own HOk.out)
   by_cases hlt : k < sg.length
   ·have hlen : ([(1, 0, 0)] ++ (sg.take k).map segId).length = k + 1 := by simp; omega
    rw [hlen] at HOk
    obtain ⟨_, bs, of, rfl, hcells⟩ := Sgs.at_ HS.out (by omega)
    obtain ⟨d0, d1, _, _⟩ := hcells k hlt
    have c0 := HXk.out.cell d0
    have c1 := HXk.out.cell d1
    have D0 := Lib.hid d0
    have D1 := Lib.hid d1
    clear hcells d0 d1
    go_wp2_with fail
    refine wp_region_held_drew (S := fun W => W.cell? ⟨w.heap.size, 5, none⟩ = some (.slice (some ⟨bs, of, none⟩) sg.length c) ∧ W.cell? ⟨bs, of + k * 4, none⟩ = some (.int .i64 sg[k].seq) ∧ W.cell? ⟨bs, of + k * 4 + 1, none⟩ = some (.int .i64 sg[k].fmt)) (by kernel_rfl) ⟨m5, c0, c1⟩ (fun hHeld => ?_)
    refine tkL 0 rfl ?_
    try simp only [Act.put, sA, sZ, sS]
    refine tkL 1 rfl ?_
    try simp only [Act.put, sA, sZ, sS]
    refine tkL 2 rfl ?_
    try simp only [Act.put, sA, sZ, sS]
    refine tkL 3 rfl ?_
    try simp only [Act.put, sA, sZ, sS]
    refine tkL 4 rfl ?_
    try simp only [Act.put, sA, sZ, sS]
    refine tkL 5 rfl ?_
    try simp only [Act.put, sA, sZ, sS]
    refine tkL 6 rfl ?_
    try simp only [Act.put, sA, sZ, sS]
    refine tkL 7 rfl ?_
    try simp only [Act.put, sA, sZ, sS]
    refine tkL 8 rfl ?_
    try simp only [Act.put, sA, sZ, sS]
    refine tkL 9 rfl ?_
    try simp only [Act.put, sA, sZ, sS]
    refine tkL 10 rfl ?_
    try simp only [Act.put, sA, sZ, sS]
    refine tkL 11 rfl ?_
    try simp only [Act.put, sA, sZ, sS]
    refine tkL 12 rfl ?_
    try simp only [Act.put, sA, sZ, sS]
    refine tkL 13 rfl ?_
    try simp only [Act.put, sA, sZ, sS]
    refine AllReadyH.one (i := 14) rfl (by kernel_rfl) (by rfl) (fun K hK => ?_)
    go_simp
    have X1 : Ext wr (wr.alloc (.cells #[.int .u8 3, .int .i64 sg[k].seq, .int .i64 sg[k].fmt] 40)).drew := Ext.drew (Ext.alloc (Ext.refl _) _)
    have hr6 : SlR (wr.alloc (.cells #[.int .u8 3, .int .i64 sg[k].seq, .int .i64 sg[k].fmt] 40)).drew 3 (.slice (some ⟨wr.heap.size, 0, none⟩) 1 1) 1 (idCells [segId sg[k]]) := SlR.ext (SlR.of_own (new_id wr (segId sg[k]))) (Ext.drew (Ext.refl _))
    have X2 := Ext.trans HXk.out X1
    have ho6 := own_ext HOk.out X1
    have hb6 := HBk.out.ext X1
    refine hK.out _ _ ⟨X1.cell m5, X1.cell c0, X1.cell c1⟩ (fun hHeld => ?_)
    clear hK K
    try simp only [Act.put, sA, sZ, sS]
    obtain ⟨i0, hi, hz0, hz1, hz2⟩ := info_parts info_id
    refine AllReadyH.one (i := 15) rfl (by kernel_rfl) (by rfl) (fun K hK => ?_)
    refine wp_append_sl _ (.tmp 28) (.tmp 42) 57 (by rfl) w.heap.size 40 i0 _ 3 24 Tryz.underlying57 hi hz0 hz1 hz2 rfl (by decide) _ _ _ (by rfl) ho6 _ 1 (idCells [segId sg[k]]) (by rfl) hr6 (one_id _) (by rw [hlen]; unfold maxLen; omega) (by rw [hlen]; omega) X2.size ?_
    intro v7 w7 ho7 hg7
    have E7 : Ext w w7 := Ext.grownOwn X2 ho6 hg7
    have hb7 := hb6.kept hg7 (hb6.not_row (by decide) ho6)
    refine hK.out _ _ ⟨hb7.cell 5 rfl, E7.cell D0.out, E7.cell D1.out⟩ (fun hHeld => ?_)
    clear hK K
    try simp only [Act.put, sA, sZ, sS]
    obtain ⟨A7, c7, rfl, _, _⟩ := SlR.open_ (SlR.of_own ho7)
    refine tkL 16 rfl ?_
    try simp only [Act.put, sA, sZ, sS]
    refine wpAnyH_done (by kernel_rfl) ?_ _
    have HE7 := Lib.hid E7
    have HB7 := Lib.hid hb7
    have HO7 := Lib.hid ho7
    clear E7 hb7 ho7 hg7 hHeld ho6 hb6 X2 X1 hr6
    go_wp2_with fail
    go_roundw
    case rel =>
     refine ⟨k + 1, by omega, by go_num, ?_, HB7, HE7⟩
     have := HO7.out
     rw [hlen] at this
     unfold Hid OwnK
     rw [List.take_succ_eq_append_getElem hlt, List.map_append, List.map_cons, List.map_nil, ← List.append_assoc, List.length_append, hlen, show ∀ a b : List (Int × Int × Int), idCells (a ++ b) = idCells a ++ idCells b from fun a b => by simp [idCells]]
     exact this
    case measure => simp [intOf]; omega
   ·obtain rfl : k = sg.length := by omega
    have ek : [(1, 0, 0)] ++ (sg.take sg.length).map segId = [(1, 0, 0)] ++ sg.map segId := by rw [List.take_length]
    have EK := Lib.hid ek
    clear ek
    go_wp2_with fail
    go_ret
    refine ⟨_, rfl, ?_, HXk.out⟩
    show OwnK _ _ _ ([(1, 0, 0)] ++ sg.map segId)
    rw [← EK.out]
    exact HOk.out
 ·have hk0 : keepM ⟨nx, tm, vt, sq, sf, sg⟩ = [(1, 0, 0), (4, sq, sf)] ++ sg.map segId := by unfold keepM keep0; rw [if_neg hq]
  rw [hk0]
  have hn := new_id ((w.alloc (.cells #[.int .i64 nx, .int .i64 tm, .int .i64 vt, .int .i64 sq, .int .i64 sf, .slice A sg.length c] 32)).alloc (.cells #[.int .u8 1, .int .i64 0, .int .i64 0] 40)) (4, sq, sf)
  have X1 : Ext ((w.alloc (.cells #[.int .i64 nx, .int .i64 tm, .int .i64 vt, .int .i64 sq, .int .i64 sf, .slice A sg.length c] 32)).alloc (.cells #[.int .u8 1, .int .i64 0, .int .i64 0] 40)) (((w.alloc (.cells #[.int .i64 nx, .int .i64 tm, .int .i64 vt, .int .i64 sq, .int .i64 sf, .slice A sg.length c] 32)).alloc (.cells #[.int .u8 1, .int .i64 0, .int .i64 0] 40)).alloc (.cells #[.int .u8 4, .int .i64 sq, .int .i64 sf] 40)) := Ext.alloc (Ext.refl _) _
  have hb1 := hbX.ext X1
  have ho1 := own_ext hoX X1
  obtain ⟨m0, m1, m2, m3, m4, m5⟩ := blk6 hbX
  have HX := Lib.hid (Ext.trans hX X1)
  have HB := Lib.hid hb1
  have HO := Lib.hid ho1
  rw [World.size_alloc, World.size_alloc] at hn
  have HN := Lib.hid (SlR.of_own hn)
  have Hq := Lib.hid hq
  clear hb hX hbX hoX hk0 hn X1 hb1 ho1
  go_enter Tryz.func18, Tryz.ntmps18
  go_wp2_with (at_builtin; refine wpList_app_id rfl (.tmp 11) (.tmp 19) rfl w.heap.size _ [(1, 0, 0)] rfl HO.out _ (4, sq, sf) rfl HN.out (by decide) HX.out.size ?_; intro A1 c1 w1 ho1 hg1)
  replace HB := Lib.hid (HB.out.kept hg1 (HB.out.not_row (by decide) HO.out))
  replace HX := Lib.hid (Ext.grownOwn HX.out HO.out hg1)
  replace HO := Lib.hid ho1
  clear m0 m1 m2 m3 m4 m5 ho1 hg1 HN
  go_loopw [3, 4] (fun v3 v4 wr => ∃ k : Nat, k ≤ sg.length ∧ v4 = .int .i64 k ∧ Hid (OwnK wr w.heap.size v3 ([(1, 0, 0), (4, sq, sf)] ++ (sg.take k).map segId)) ∧ Hid (Blk wr w.heap.size 32 #[.int .i64 nx, .int .i64 tm, .int .i64 vt, .int .i64 sq, .int .i64 sf, .slice A sg.length c]) ∧ Hid (Ext w wr)) (fun _ v4 _ => sg.length - (intOf v4).toNat)
  case atStart => exact ⟨0, Nat.zero_le _, rfl, HO, HB, HX⟩
  case round =>
   obtain ⟨k, hk, rfl, HOk, HBk, HXk⟩ := hrel
   obtain ⟨m0, m1, m2, m3, m4, m5⟩ := blk6 HBk.out
   obtain ⟨Ao, co, rfl, _, _⟩ := SlR.open_ (SlR.of_own HOk.out)
   by_cases hlt : k < sg.length
   ·have hlen : ([(1, 0, 0), (4, sq, sf)] ++ (sg.take k).map segId).length = k + 2 := by simp; omega
    rw [hlen] at HOk
    obtain ⟨_, bs, of, rfl, hcells⟩ := Sgs.at_ HS.out (by omega)
    obtain ⟨d0, d1, _, _⟩ := hcells k hlt
    have c0 := HXk.out.cell d0
    have c1 := HXk.out.cell d1
    have D0 := Lib.hid d0
    have D1 := Lib.hid d1
    clear hcells d0 d1
    go_wp2_with fail
    refine wp_region_held_drew (S := fun W => W.cell? ⟨w.heap.size, 5, none⟩ = some (.slice (some ⟨bs, of, none⟩) sg.length c) ∧ W.cell? ⟨bs, of + k * 4, none⟩ = some (.int .i64 sg[k].seq) ∧ W.cell? ⟨bs, of + k * 4 + 1, none⟩ = some (.int .i64 sg[k].fmt)) (by kernel_rfl) ⟨m5, c0, c1⟩ (fun hHeld => ?_)
    refine tkL 0 rfl ?_
    try simp only [Act.put, sA, sZ, sS]
    refine tkL 1 rfl ?_
    try simp only [Act.put, sA, sZ, sS]
    refine tkL 2 rfl ?_
    try simp only [Act.put, sA, sZ, sS]
    refine tkL 3 rfl ?_
    try simp only [Act.put, sA, sZ, sS]
    refine tkL 4 rfl ?_
    try simp only [Act.put, sA, sZ, sS]
    refine tkL 5 rfl ?_
    try simp only [Act.put, sA, sZ, sS]
    refine tkL 6 rfl ?_
    try simp only [Act.put, sA, sZ, sS]
    refine tkL 7 rfl ?_
    try simp only [Act.put, sA, sZ, sS]
    refine tkL 8 rfl ?_
    try simp only [Act.put, sA, sZ, sS]
    refine tkL 9 rfl ?_
    try simp only [Act.put, sA, sZ, sS]
    refine tkL 10 rfl ?_
    try simp only [Act.put, sA, sZ, sS]
    refine tkL 11 rfl ?_
    try simp only [Act.put, sA, sZ, sS]
    refine tkL 12 rfl ?_
    try simp only [Act.put, sA, sZ, sS]
    refine tkL 13 rfl ?_
    try simp only [Act.put, sA, sZ, sS]
    refine AllReadyH.one (i := 14) rfl (by kernel_rfl) (by rfl) (fun K hK => ?_)
    go_simp
    have X1 : Ext wr (wr.alloc (.cells #[.int .u8 3, .int .i64 sg[k].seq, .int .i64 sg[k].fmt] 40)).drew := Ext.drew (Ext.alloc (Ext.refl _) _)
    have hr6 : SlR (wr.alloc (.cells #[.int .u8 3, .int .i64 sg[k].seq, .int .i64 sg[k].fmt] 40)).drew 3 (.slice (some ⟨wr.heap.size, 0, none⟩) 1 1) 1 (idCells [segId sg[k]]) := SlR.ext (SlR.of_own (new_id wr (segId sg[k]))) (Ext.drew (Ext.refl _))
    have X2 := Ext.trans HXk.out X1
    have ho6 := own_ext HOk.out X1
    have hb6 := HBk.out.ext X1
    refine hK.out _ _ ⟨X1.cell m5, X1.cell c0, X1.cell c1⟩ (fun hHeld => ?_)
    clear hK K
    try simp only [Act.put, sA, sZ, sS]
    obtain ⟨i0, hi, hz0, hz1, hz2⟩ := info_parts info_id
    refine AllReadyH.one (i := 15) rfl (by kernel_rfl) (by rfl) (fun K hK => ?_)
    refine wp_append_sl _ (.tmp 28) (.tmp 42) 57 (by rfl) w.heap.size 40 i0 _ 3 24 Tryz.underlying57 hi hz0 hz1 hz2 rfl (by decide) _ _ _ (by rfl) ho6 _ 1 (idCells [segId sg[k]]) (by rfl) hr6 (one_id _) (by rw [hlen]; unfold maxLen; omega) (by rw [hlen]; omega) X2.size ?_
    intro v7 w7 ho7 hg7
    have E7 : Ext w w7 := Ext.grownOwn X2 ho6 hg7
    have hb7 := hb6.kept hg7 (hb6.not_row (by decide) ho6)
    refine hK.out _ _ ⟨hb7.cell 5 rfl, E7.cell D0.out, E7.cell D1.out⟩ (fun hHeld => ?_)
    clear hK K
    try simp only [Act.put, sA, sZ, sS]
    obtain ⟨A7, c7, rfl, _, _⟩ := SlR.open_ (SlR.of_own ho7)
    refine tkL 16 rfl ?_
    try simp only [Act.put, sA, sZ, sS]
    refine wpAnyH_done (by kernel_rfl) ?_ _
    have HE7 := Lib.hid E7
    have HB7 := Lib.hid hb7
    have HO7 := Lib.hid ho7
    clear E7 hb7 ho7 hg7 hHeld ho6 hb6 X2 X1 hr6
    go_wp2_with fail
    go_roundw
    case rel =>
     refine ⟨k + 1, by omega, by go_num, ?_, HB7, HE7⟩
     have := HO7.out
     rw [hlen] at this
     unfold Hid OwnK
     rw [List.take_succ_eq_append_getElem hlt, List.map_append, List.map_cons, List.map_nil, ← List.append_assoc, List.length_append, hlen, show ∀ a b : List (Int × Int × Int), idCells (a ++ b) = idCells a ++ idCells b from fun a b => by simp [idCells]]
     exact this
    case measure => simp [intOf]; omega
   ·obtain rfl : k = sg.length := by omega
    have ek : [(1, 0, 0), (4, sq, sf)] ++ (sg.take sg.length).map segId = [(1, 0, 0), (4, sq, sf)] ++ sg.map segId := by rw [List.take_length]
    have EK := Lib.hid ek
    clear ek
    go_wp2_with fail
    go_ret
    refine ⟨_, rfl, ?_, HXk.out⟩
    show OwnK _ _ _ ([(1, 0, 0), (4, sq, sf)] ++ sg.map segId)
    rw [← EK.out]
    exact HOk.out
open Go.RowKit Go.Mv
set_option maxRecDepth 100000
theorem say_step {fs : List Fil} {t : Tup} {m : Mf} {k s f g : Int} {n b : List UInt8} (h : tellS fs = ⟨0, t, m⟩) (hi : IsTh m k s f) (hg : g = 1 ∨ g = 2) (hn : nameS k s g = some n) (hb : shadM fs m k s f g = (0, b)) :
  (∃ b', shadM ((n, b) :: fs) (turnM m k s f g) k s g f = (0, b') ∧ 2 ≤ b'.length) ∧ shadM ((n, b) :: fs) (turnM m k s f g) k s g g = (0, b) := by
 obtain ⟨b0, st, hb0, hm0, hst, hlog, hr, rfl⟩ := tell_ok h
 have hm := (takeM_check hm0).1
 obtain ⟨hk, ⟨hs1, hs2⟩, hf⟩ := isTh_ok hm hi
 have ho := turn_check hm hi hg
 have hbn : bytesS ((n, b) :: fs) (nameS k s g) = some b := by rw [hn, bytesS_cons, if_pos rfl]
 cases hi with
 | snap hq =>
  have hst' := hst
  unfold stateS at hst'
  rw [if_neg hq] at hst'
  cases hb1 : bytesS fs (nameS 4 m.sq m.sf) with
  | none => rw [hb1] at hst'; cases hst'
  | some b1 =>
   rw [hb1] at hst'
   dsimp only at hst'
   obtain ⟨b2, hsh, hp⟩ := shad_snap hq hb1 hst' hg
   rw [hb] at hsh
   obtain rfl : b = b2 := by injection hsh
   rw [(turn_snap (g := g) hq).1]
   have ht := takeR_put hp
   obtain ⟨b', h1, h2⟩ := shad_snap (fs := (n, b) :: fs) (m := { m with sf := g }) (g := m.sf) hq hbn ht hf
   obtain ⟨b'', h3, h4⟩ := shad_snap (fs := (n, b) :: fs) (m := { m with sf := g }) (g := g) hq hbn ht hg
   rw [hp] at h4
   cases h4
   exact ⟨⟨b', h1, (putR_len h2).1⟩, h3⟩
 | seg j hj =>
  obtain ⟨y, hy⟩ := logS_ent hlog _ (List.getElem_mem hj)
  obtain ⟨_, _, _, _, _, h6⟩ := checkM_b hm
  obtain ⟨_, _, hfi, _, _⟩ := segOk_b (h6 j hj)
  obtain ⟨hok, hcb⟩ := ent_of hy
  obtain ⟨b2, hsh, hsg, _, _, hfe⟩ := shad_seg hm hj hy hg
  rw [hb] at hsh
  obtain rfl : b = b2 := by injection hsh
  have hen := ent_new (s := m.segs[j]) hbn hsg (by omega) hcb
  have e := (turn_seg (g := g) hm hj).1
  rw [e] at ho ⊢
  have hj' : j < ({ m with segs := m.segs.set j { m.segs[j] with fmt := g } } : Mf).segs.length := by show j < (m.segs.set j _).length; rw [List.length_set]; exact hj
  have hat : ({ m with segs := m.segs.set j { m.segs[j] with fmt := g } } : Mf).segs[j] = { m.segs[j] with fmt := g } := by show (m.segs.set j _)[j] = _; rw [List.getElem_set_self]
  have he : entS13 ((n, b) :: fs) (({ m with segs := m.segs.set j { m.segs[j] with fmt := g } } : Mf).segs[j]) = some y := by rw [hat]; exact hen
  obtain ⟨b', h1, _, _, h2, _⟩ := shad_seg (fs := (n, b) :: fs) ho hj' he hf
  obtain ⟨b'', h3, _, _, _, h4⟩ := shad_seg (fs := (n, b) :: fs) ho hj' he hg
  rw [hat] at h1 h3 h4
  dsimp only at h1 h3 h4
  rw [hfe] at h4
  cases h4
  exact ⟨⟨b', h1, h2⟩, h3⟩
def thingM (m : Mf) : List (Int × Int × Int) := (if m.sq = 0 then [] else [(4, m.sq, m.sf)]) ++ m.segs.map segId
theorem keep_things (m : Mf) : keepM m = (1, 0, 0) :: thingM m := rfl
theorem thing_is {m : Mf} {x : Int × Int × Int} (h : x ∈ thingM m) : IsTh m x.1 x.2.1 x.2.2 := by
 unfold thingM at h
 rcases List.mem_append.1 h with h | h
 ·split at h
  ·cases h
  ·rename_i hq
   rw [List.mem_singleton] at h
   subst h
   exact .snap hq
 ·obtain ⟨s, hs, rfl⟩ := List.mem_map.1 h
  obtain ⟨j, hj, rfl⟩ := List.mem_iff_getElem.1 hs
  exact .seg j hj
theorem thing_none {m : Mf} {g : Int} (h : thingM m = []) : leftM m g = 0 := by
 unfold thingM at h
 rw [List.append_eq_nil_iff, List.map_eq_nil_iff] at h
 obtain ⟨h1, h2⟩ := h
 have hq : m.sq = 0 := by
  by_cases hq : m.sq = 0
  ·exact hq
  ·rw [if_neg hq] at h1; cases h1
 unfold leftM
 rw [h2, if_neg (fun h => h.1 hq)]
 rfl
theorem thing_len (m : Mf) : (thingM m).length ≤ m.segs.length + 1 := by
 unfold thingM
 rw [List.length_append, List.length_map]
 split <;> simp <;> omega
open Go.RowKit Go.Mv Go.Shelf
set_option maxRecDepth 100000
theorem great_not {fs : List Fil} (h : greatS fs = false) : fs.length ≤ 40 ∧ ∀ f ∈ fs, f.2.length ≤ 2000 := by
 unfold greatS at h
 rw [Bool.or_eq_false_iff, decide_eq_false_iff_not, List.any_eq_false] at h
 obtain ⟨h1, h2⟩ := h
 refine ⟨by omega, fun f hf => ?_⟩
 rw [List.take_of_length_le (by omega)] at h2
 have := h2 f hf
 simp only [decide_eq_true_eq] at this
 omega
theorem tell_check {fs : List Fil} {t : Tup} {m : Mf} (h : tellS fs = ⟨0, t, m⟩) : checkM m = true := by
 obtain ⟨_, _, _, hm, _⟩ := tell_ok h
 exact (takeM_check hm).1
theorem cnt_ok {m : Mf} (h : checkM m = true) : ∀ s ∈ m.segs, s.count ≤ 100000 := by
 obtain ⟨_, _, _, _, _, h6⟩ := checkM_b h
 intro s hs
 obtain ⟨j, hj, rfl⟩ := List.mem_iff_getElem.1 hs
 have := (segOk_b (h6 j hj)).2.2.2.2
 omega
theorem shadT_of {fs : List Fil} {m : Mf} {k s f g : Int} (hg : g = 1 ∨ g = 2) : shadT fs g (findM m k s f) = shadM fs m k s f g := by
 unfold shadM
 rw [if_neg (by omega)]
open Go.RowKit Go.Mv
set_option maxRecDepth 100000
theorem bits_xor_u8 (x b : UInt8) : bits .xor .u8 (x.toNat : Int) (b.toNat : Int) = ((x ^^^ b).toNat : Int) := by
 have hx := (x ^^^ b).toNat_lt
 have h1 : (BitVec.ofInt 8 (x.toNat : Int)).toNat = x.toNat := by
  rw [BitVec.ofInt_natCast, BitVec.toNat_ofNat]; exact Nat.mod_eq_of_lt x.toNat_lt
 have h2 : (BitVec.ofInt 8 (b.toNat : Int)).toNat = b.toNat := by
  rw [BitVec.ofInt_natCast, BitVec.toNat_ofNat]; exact Nat.mod_eq_of_lt b.toNat_lt
 show IntKind.u8.wrap ((BitVec.ofInt 8 (x.toNat : Int) ^^^ BitVec.ofInt 8 (b.toNat : Int)).toNat : Int) = _
 rw [BitVec.toNat_xor, h1, h2, ← UInt8.toNat_xor, IntKind.wrap_u8]
 omega
theorem OwnB.at_ {w : World} {base q n cap : Nat} {B : List UInt8} (h : OwnB w base (.slice (some ⟨q, 0, none⟩) n cap) B) (t : Nat) (ht : t < B.length) :
  w.cell? ⟨q, t, none⟩ = some (.int .u8 (B[t].toNat : Int)) ∧ w.frozen? ⟨q, t, none⟩ = false := by
 have h' : w.ownsRow base 5 1 (.slice (some ⟨q, 0, none⟩) n cap) B.length (B.map bv) := h
 have hn : n = B.length := by
  obtain ⟨_, A, c, e, _⟩ := SlR.of_own h'
  cases e; rfl
 subst hn
 refine ⟨?_, World.ownsRow.frozenAt h' t⟩
 rw [World.ownsRow.cellAt h' t (by omega), List.getElem?_map, List.getElem?_eq_getElem ht]
 rfl
theorem OwnB.set {w : World} {base q n cap : Nat} {B : List UInt8} (h : OwnB w base (.slice (some ⟨q, 0, none⟩) n cap) B) (t : Nat) (c : UInt8) :
  OwnB (w.setCell ⟨q, t, none⟩ (.int .u8 (c.toNat : Int))) base (.slice (some ⟨q, 0, none⟩) n cap) (B.set t c) := by
 have h' : w.ownsRow base 5 1 (.slice (some ⟨q, 0, none⟩) n cap) B.length (B.map bv) := h
 have hn : n = B.length := by
  obtain ⟨_, A, c, e, _⟩ := SlR.of_own h'
  cases e; rfl
 subst hn
 have h2 := (World.ownsRow.stored h' t (.int .u8 (c.toNat : Int))).1
 unfold OwnB
 rw [List.length_set, List.map_set]
 exact h2
end Go.Proofs.YtmecffckghkahaaGreatDoor
