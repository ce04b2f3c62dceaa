/- Merged: Read Read2 SnapQ -/
import Derived.Test.YtmecffckghkahaaGreatDoorShadowReads16
set_option linter.all false
set_option maxHeartbeats 8000000
namespace Go.Proofs.YtmecffckghkahaaGreatDoor
open Go.RowKit Go.Mv Go.Shelf
attribute [local go_sem] Oper.semAt_some
set_option maxRecDepth 100000
def longsGo : Nat → List Int → List UInt8 → Option (List Int)
 | 0, acc, _ => some acc
 | k + 1, acc, b => if (takeLongS (b.take 5)).1 = 0 then longsGo k (acc ++ [((takeLongS (b.take 5)).2.1 : Int)]) (b.drop 5) else none
def read1S (b : List UInt8) : Option (List Int) := if b.length = 22 then (longsGo 3 [] (b.drop 1)).map (· ++ [((b.getD 16 0).toNat : Int), ((b.getD 17 0).toNat : Int)]) else none
def ReadP (w : World) (r : Option (List Int)) (e : Ending) (w' : World) : Prop := ∃ v, e = .returned (.tuple #[v, .bool r.isSome]) ∧ (∀ l, r = some l → w'.ownsRow w.heap.size 3 1 v l.length (l.map iv)) ∧ Ext w w'
def OnlyN (X : Act → World → Prop) : Exit → Act → World → Prop
 | .normal, a, w => X a w
 | _, _, _ => False
theorem read_res (tmps : Array Value) (W : World) (v u : Value) (h4 : tmps.getD 4 undef = v) (h5 : tmps.getD 5 undef = u) : (results Tryz.f84 tmps).run Tryz.prog W = .ok (.tuple #[v, u]) W := by
 simp only [Array.getD_eq_getD_getElem?] at h4 h5
 simp [results, Tryz.results84, go_sem, h4, h5]
theorem read1_len (v : Value) (bs : List UInt8) (f : Int) (hf : f ≠ 2) (w : World) (hBs : Bs w v bs) (hl : bs.length ≠ 22) : Calls Tryz.prog 84 #[v, .int .i64 f] w (ReadP w (read1S bs)) := by
 obtain ⟨A, c, rfl, h1, h2⟩ := SlR.open_ hBs
 have Hr : Hid (read1S bs = none) := if_neg hl
 have e1 : (f == 2) = false := by simpa using hf
 have e2 : ((bs.length : Int) != 22) = true := by simp; omega
 refine (callsIn_wd (ro := none) (n := 9)).1 ?_
 refine callsIn_of_wp_marks Tryz.func84 rfl trivial ?_ rfl
 simp only [Tryz.ntmps84, List.size_toArray, List.length_cons, List.length_nil, Nat.reduceAdd, Nat.reduceSub, Array.replicate_succ, Array.replicate_zero, List.push_toArray, List.append_toArray, List.nil_append, List.cons_append]
 gi_wp2
 refine wpIn_scope_lab 0 (fun _ _ => False) (fun a _ => 0) rfl (fun l' h => by cases l' <;> first | exact absurd rfl h | rfl) ?_ ?_
 ·intro hrest
  clear hrest
  gi_wp2
  refine jumps_ret ?_
  refine ret_none (.tuple #[.slice none 0 0, .bool false]) (by simp [results, Tryz.results84, go_sem]) ?_
  exact ⟨_, by rw [Hr.out]; rfl, (fun l h => by rw [Hr.out] at h; cases h), Ext.alloc (Ext.refl _) _⟩
 ·rintro a W h
  exact h.elim
theorem read1_main (v : Value) (bs : List UInt8) (f : Int) (hf : f ≠ 2) (w : World) (hBs : Bs w v bs) (hl : bs.length = 22) : Calls Tryz.prog 84 #[v, .int .i64 f] w (ReadP w (read1S bs)) := by
 obtain ⟨A, c, rfl, h1, h2⟩ := SlR.open_ hBs
 obtain ⟨i0, hi, hz0, hz1, hz2⟩ := info_parts info_int
 have Hr : Hid (read1S bs = (longsGo 3 [] (bs.drop 1)).map (· ++ [((bs.getD 16 0).toNat : Int), ((bs.getD 17 0).toNat : Int)])) := if_pos hl
 have e1 : (f == 2) = false := by simpa using hf
 obtain ⟨_, b, off, rfl, hc⟩ := Bs.at_ hBs (by omega)
 have Hc := Lib.hid hc
 have HBs := Lib.hid hBs
 have Hl := Lib.hid hl
 have hl2 : (bs.length : Int) = 22 := by omega
 rw [hl] at h1 hBs
 clear hc hBs
 refine (callsIn_wd (ro := none) (n := 9)).1 ?_
 refine callsIn_of_wp_marks Tryz.func84 rfl trivial ?_ rfl
 simp only [Tryz.ntmps84, List.size_toArray, List.length_cons, List.length_nil, Nat.reduceAdd, Nat.reduceSub, Array.replicate_succ, Array.replicate_zero, List.push_toArray, List.append_toArray, List.nil_append, List.cons_append]
 gi_wp2
 try rw [hl]
 refine wpIn_scope_lab 0 (fun _ _ => False) (fun a _ => 0) rfl (fun l' h => by cases l' <;> first | exact absurd rfl h | rfl) ?_ ?_
 ·intro hrest
  clear hrest hl hl2
  gi_wp2
  obtain ⟨R0, hR0⟩ : ∃ r, longsGo 3 [] (bs.drop 1) = r := ⟨_, rfl⟩
  rw [hR0] at Hr
  gi_loopw [4, 8] (fun vl i wr => ∃ (k : Nat) (acc : List Int), k ≤ 3 ∧ i = .int .i64 (1 + 5 * k : Nat) ∧ acc.length = k ∧ Hid (R0 = longsGo (3 - k) acc (bs.drop (1 + 5 * k))) ∧
   wr.ownsRow w.heap.size 3 1 vl acc.length (acc.map iv) ∧ Ext w wr) (fun _ i _ => 30 - (intOf i).toNat)
  case atStart => exact ⟨0, [], by omega, rfl, rfl, hR0.symm, World.ownsRow_nil _ _ _ _, Ext.alloc (Ext.refl _) _⟩
  case round =>
   obtain ⟨k, acc, hk, rfl, hacc, HT, hown, hE⟩ := hrel
   obtain ⟨m, hm⟩ : ∃ m, 1 + 5 * k = m := ⟨_, rfl⟩
   rw [hm] at HT
   simp only [hm]
   by_cases hlt : k < 3
   ·have hw5 : wrap64 ((m : Int) + 5) = ((m + 5 : Nat) : Int) := by unfold wrap64; omega
    have hm16 : ((m : Int) < 16) := by omega
    have hT := HT.out
    rw [show 3 - k = (3 - k - 1) + 1 from by omega, longsGo] at hT
    obtain ⟨t, ht⟩ : ∃ t, (bs.drop m).take 5 = t := ⟨_, rfl⟩
    have htl : t.length = 5 := by rw [← ht, List.length_take, List.length_drop, Hl.out]; omega
    have hBt : Bs w (.slice (some ⟨b, off + m, none⟩) 5 (c - m)) t := by
     have h := bytes_part HBs.out m 5 (by rw [Hl.out]; omega)
     rw [ht] at h
     have := SlR.capd h (c' := c - m) (by rw [htl]; omega) (by omega)
     exact this
    have key := TakeLong_any _ t wr (hBt.ext hE) (by omega)
    rw [ht] at hT
    rcases hts : takeLongS t with ⟨er, n, r2⟩
    rw [hts] at hT key
    simp only at hT
    by_cases her : er = 0
    ·subst her
     simp only [if_true] at hT
     have HT2 := Lib.hid hT
     have Key := Lib.hid key
     have Hm := Lib.hid hm
     clear hT HT key hts hm
     gi_wp2_with (first
      | (refine ⟨trivial, ?_⟩; gi_at_call 100; refine (callsIn_wd.2 Key.out).mono ?_; rintro e w2 ⟨vr, rfl, -, hE2⟩)
      | (gi_at_builtin; refine wpListIn_append_sl _ rfl (.tmp 34) (.tmp 36) 86 rfl w.heap.size 3 i0 (.int .i64 0) 1 8 Tryz.underlying86 hi hz0 hz1 hz2 rfl (by decide) _ acc.length (acc.map iv) rfl (own_ext hown (Ext.alloc hE2 _)) (.slice (some ⟨w2.heap.size, 0, none⟩) 1 1) 1 [.int .i64 n] rfl (SlR.of_own (own_new w2 [.int .i64 n] 3 1 rfl (by simp [maxLen]) (Nat.le_refl _))) (by simp [Value.oneCell']) (by unfold maxLen; omega) (by omega) (by have := hE.size; have := hE2.size; simp; omega) ?_; intro v' w3 hown' hgrow))
     have hE3 : Ext w w3 := Ext.grownOwn (Ext.alloc (Ext.trans hE hE2) _) (own_ext hown (Ext.alloc hE2 _)) hgrow
     refine ⟨⟨k + 1, acc ++ [(n : Int)], by omega, ?_, by simp; omega, ?_, by simpa [iv] using hown', hE3⟩, by simp [intOf]; omega⟩
     ·have := Hm.out
      congr 1
      omega
     ·show _ = _
      rw [HT2.out, List.drop_drop, show 3 - (k + 1) = 3 - k - 1 from by omega, ← Hm.out]
      congr 2
    ·have hne : ((er : Int) != 0) = true := by simp [her]
     rw [if_neg her] at hT
     have HT2 := Lib.hid hT
     have Key := Lib.hid key
     have Hn : Hid (read1S bs = none) := by rw [Hid, Hr.out, HT2.out]; rfl
     clear hT HT key hts hm
     gi_wp2_with (refine ⟨trivial, ?_⟩; gi_at_call 100; refine (callsIn_wd.2 Key.out).mono ?_; rintro e w2 ⟨vr, rfl, -, hE2⟩)
     refine jumps_ret ?_
     refine ret_none (.tuple #[.slice none 0 0, .bool false]) (by simp [results, Tryz.results84, go_sem]) ?_
     exact ⟨_, by rw [Hn.out]; rfl, (fun l h => by rw [Hn.out] at h; cases h), Ext.trans hE hE2⟩
   ·have hk3 : k = 3 := by omega
    subst hk3
    have hm16 : ¬ ((m : Int) < 16) := by omega
    have HT2 : Hid (R0 = some acc) := HT.out
    clear HT
    gi_wp2
    obtain ⟨x, hx⟩ : ∃ x, bs.getD 16 0 = x := ⟨_, rfl⟩
    obtain ⟨y, hy⟩ : ∃ y, bs.getD 17 0 = y := ⟨_, rfl⟩
    have hcx : w.cell? ⟨b, off + 16, none⟩ = some (.int .u8 (x.toNat : Int)) := by
     rw [Hc.out 16 (by rw [Hl.out]; omega), ← hx]
     simp [List.getD_eq_getElem?_getD, Hl.out]
    have hcy : w.cell? ⟨b, off + 17, none⟩ = some (.int .u8 (y.toNat : Int)) := by
     rw [Hc.out 17 (by rw [Hl.out]; omega), ← hy]
     simp [List.getD_eq_getElem?_getD, Hl.out]
    have hwx : IntKind.i64.wrap (x.toNat : Int) = (x.toNat : Int) := by
     have := x.toNat_lt
     rw [IntKind.wrap_i64]; omega
    have hwy : IntKind.i64.wrap (y.toNat : Int) = (y.toNat : Int) := by
     have := y.toNat_lt
     rw [IntKind.wrap_i64]; omega
    have Hr2 : Hid (read1S bs = some (acc ++ [(x.toNat : Int), (y.toNat : Int)])) := by rw [Hid, Hr.out, HT2.out, hx, hy]; rfl
    clear hx hy Hr HT2 hR0
    refine (wpIn_wide (n := 9)).2 (wp_mono (Q := OnlyN fun a' W => a'.defers = [] ∧ ∃ v', a'.tmps.getD 4 undef = v' ∧ a'.tmps.getD 5 undef = .bool true ∧ W.ownsRow w.heap.size 3 1 v' (acc.length + 2) (acc.map iv ++ [.int .i64 x.toNat, .int .i64 y.toNat]) ∧ Ext w W) ?_ ?_)
    ·refine wp_region_held_drew (S := fun w' => w'.cell? ⟨b, off + 16, none⟩ = some (.int .u8 (x.toNat : Int)) ∧ w'.cell? ⟨b, off + 17, none⟩ = some (.int .u8 (y.toNat : Int))) (by kernel_rfl) ⟨Ext.cell (Ext.drew hE) hcx, Ext.cell (Ext.drew hE) hcy⟩ (fun hHeld => ?_)
     refine tkL 0 rfl ?_
     try simp only [Act.put, sA, sZ, sS]
     refine tkL 1 rfl ?_
     try simp only [Act.put, sA, sZ, sS]
     refine tkL 2 rfl ?_
     try simp only [Act.put, sA, sZ, sS]
     refine tkL 3 rfl ?_
     try simp only [Act.put, sA, sZ, sS]
     refine tkL 4 rfl ?_
     try simp only [Act.put, sA, sZ, sS]
     refine tkL 5 rfl ?_
     try simp only [Act.put, sA, sZ, sS]
     refine tkL 6 rfl ?_
     try simp only [Act.put, sA, sZ, sS]
     refine tkL 7 rfl ?_
     try simp only [Act.put, sA, sZ, sS]
     refine tkL 8 rfl ?_
     try simp only [Act.put, sA, sZ, sS]
     refine AllReadyH.one (i := 9) rfl (by kernel_rfl) (by rfl) (fun K hK => ?_)
     go_simp
     refine hK.out _ _ ⟨Ext.cell (Ext.alloc (Ext.drew hE) _) hcx, Ext.cell (Ext.alloc (Ext.drew hE) _) hcy⟩ (fun hHeld => ?_)
     clear hK K
     try simp only [Act.put, sA, sZ, sS]
     have hE' : Ext w (wr.alloc (.cells #[.int .i64 x.toNat, .int .i64 y.toNat] 3)).drew := Ext.drew (Ext.alloc hE _)
     have hb' : (wr.alloc (.cells #[.int .i64 x.toNat, .int .i64 y.toNat] 3)).drew.heap[wr.heap.size]? = some (.cells #[.int .i64 x.toNat, .int .i64 y.toNat] 3) := heap_alloc_new wr _
     have ho' : (wr.alloc (.cells #[.int .i64 x.toNat, .int .i64 y.toNat] 3)).drew.ownsRow w.heap.size 3 1 u4 acc.length (acc.map iv) := own_ext hown (Ext.drew (Ext.alloc (Ext.refl _) _))
     refine AllReadyH.one (i := 10) rfl (by kernel_rfl) (by rfl) (fun K hK => ?_)
     refine wp_append_lies _ (.tmp 38) (.tmp 47) 86 (by rfl) w.heap.size 3 i0 (.int .i64 0) 1 8 Tryz.underlying86 hi hz0 hz1 hz2 rfl (by decide) _ acc.length (acc.map iv) (by rfl) ho' ⟨wr.heap.size, 0, none⟩ 2 2 [.int .i64 x.toNat, .int .i64 y.toNat] (by rfl) rfl (World.news_of_block hb') (by simp [Value.oneCell']) (by omega) (by unfold maxLen; omega) (by omega) hE'.size _ rfl ?_
     intro g' cap w5 hown' hgrow _ _
     have hE5 : Ext w w5 := Ext.grownOwn hE' ho' hgrow
     refine hK.out _ _ ⟨Ext.cell hE5 hcx, Ext.cell hE5 hcy⟩ (fun hHeld => ?_)
     clear hK K
     try simp only [Act.put, sA, sZ, sS]
     refine tkL 11 rfl ?_
     try simp only [Act.put, sA, sZ, sS]
     refine tkL 12 rfl ?_
     try simp only [Act.put, sA, sZ, sS]
     refine wpAnyH_done (by kernel_rfl) ?_ _
     refine ⟨rfl, _, rfl, rfl, ?_, hE5⟩
     rw [hacc] at hown' ⊢
     exact hown'
    ·rintro e a' W h
     cases e <;> first | exact h.elim | skip
     obtain ⟨tm, df⟩ := a'
     obtain ⟨hd, v', h4, h5, ho, hE5⟩ := h
     cases hd
     simp only [Exit.then]
     gi_wp2
     refine jumps_ret ?_
     refine ret_none (.tuple #[v', .bool true]) (read_res _ _ _ _ h4 h5) ?_
     refine ⟨_, by rw [Hr2.out]; rfl, (fun l h => ?_), hE5⟩
     rw [Hr2.out] at h
     cases h
     simpa [iv] using ho
 ·rintro a W h
  exact h.elim
theorem read1_any (v : Value) (bs : List UInt8) (f : Int) (hf : f ≠ 2) (w : World) (hBs : Bs w v bs) : Calls Tryz.prog 84 #[v, .int .i64 f] w (ReadP w (read1S bs)) := by
 by_cases h : bs.length = 22
 ·exact read1_main v bs f hf w hBs h
 ·exact read1_len v bs f hf w hBs h
open Go.RowKit Go.Mv Go.Shelf
attribute [local go_sem] Oper.semAt_some
set_option maxRecDepth 100000
def text2S (b : List UInt8) : List UInt8 := (chunkL 8 (b.drop 2)).flatMap fun p => p.take (p.length - 4)
def read2S (b : List UInt8) : Option (List Int) := if b.length < 2 then none else if (takesGo 5 [] (text2S b)).1 = 0 then some (takesGo 5 [] (text2S b)).2.1 else none
theorem read2_short (v : Value) (bs : List UInt8) (w : World) (hBs : Bs w v bs) (hl : bs.length < 2) : Calls Tryz.prog 84 #[v, .int .i64 2] w (ReadP w (read2S bs)) := by
 obtain ⟨A, c, rfl, h1, h2⟩ := SlR.open_ hBs
 have Hr : Hid (read2S bs = none) := if_pos hl
 have e2 : ((bs.length : Int) < 2) := by omega
 refine (callsIn_wd (ro := none) (n := 9)).1 ?_
 refine callsIn_of_wp_marks Tryz.func84 rfl trivial ?_ rfl
 simp only [Tryz.ntmps84, List.size_toArray, List.length_cons, List.length_nil, Nat.reduceAdd, Nat.reduceSub, Array.replicate_succ, Array.replicate_zero, List.push_toArray, List.append_toArray, List.nil_append, List.cons_append]
 gi_wp2
 refine wpIn_scope_lab 0 (fun a W => a.defers = [] ∧ a.tmps.size = 73 ∧ a.tmps.getD 0 undef = .slice A bs.length c ∧ Ext w W) (fun a _ => 0) rfl (fun l' h => by cases l' <;> first | exact absurd rfl h | rfl) ?_ ?_
 ·intro hrest
  clear hrest
  gi_wp2
  refine wpIn_goto ?_
  simp only [Exit.then]
  refine jumps_goto (by simp) ?_
  exact ⟨rfl, rfl, rfl, Ext.alloc (Ext.refl _) _⟩
 ·rintro ⟨T, df⟩ W ⟨hd, hsz, h0, hE⟩
  cases hd
  dsimp only at hsz h0
  have hT := frame_of 73 T hsz
  generalize hU : (fun i => T.getD i undef) = U at hT
  have g0 : U 0 = .slice A bs.length c := by rw [← hU]; exact h0
  have hT2 : T = #[.slice A bs.length c, U 1, U 2, U 3, U 4, U 5, U 6, U 7, U 8, U 9, U 10, U 11, U 12, U 13, U 14, U 15, U 16, U 17, U 18, U 19, U 20, U 21, U 22, U 23, U 24, U 25, U 26, U 27, U 28, U 29, U 30, U 31, U 32, U 33, U 34, U 35, U 36, U 37, U 38, U 39, U 40, U 41, U 42, U 43, U 44, U 45, U 46, U 47, U 48, U 49, U 50, U 51, U 52, U 53, U 54, U 55, U 56, U 57, U 58, U 59, U 60, U 61, U 62, U 63, U 64, U 65, U 66, U 67, U 68, U 69, U 70, U 71, U 72] := by rw [hT]; show (#[U 0, U 1, U 2, U 3, U 4, U 5, U 6, U 7, U 8, U 9, U 10, U 11, U 12, U 13, U 14, U 15, U 16, U 17, U 18, U 19, U 20, U 21, U 22, U 23, U 24, U 25, U 26, U 27, U 28, U 29, U 30, U 31, U 32, U 33, U 34, U 35, U 36, U 37, U 38, U 39, U 40, U 41, U 42, U 43, U 44, U 45, U 46, U 47, U 48, U 49, U 50, U 51, U 52, U 53, U 54, U 55, U 56, U 57, U 58, U 59, U 60, U 61, U 62, U 63, U 64, U 65, U 66, U 67, U 68, U 69, U 70, U 71, U 72] : Array Value) = _; rw [g0]
  clear hT hU hsz g0 h0
  subst hT2
  gi_wp2
  refine jumps_ret ?_
  refine ret_none (.tuple #[.slice none 0 0, .bool false]) (by simp [results, Tryz.results84, go_sem]) ?_
  exact ⟨_, by rw [Hr.out]; rfl, (fun l h => by rw [Hr.out] at h; cases h), hE⟩
def cutP (p : List UInt8) : List UInt8 := p.take (p.length - 4)
theorem chunkL_cut : ∀ (b : List UInt8), ((chunkL 8 b).flatMap cutP).length ≤ b.length := by
 intro b
 generalize hn : b.length = n
 induction n using Nat.strongRecOn generalizing b with
 | _ n ih =>
  subst hn
  rcases Nat.eq_zero_or_pos b.length with h | h
  ·rw [List.eq_nil_of_length_eq_zero h, chunkL_nil]; simp
  ·rw [chunkL_cons 8 b (by omega) h, List.flatMap_cons, List.length_append]
   have h1 := ih (b.drop 8).length (by simp; omega) (b.drop 8) rfl
   have h2 : (cutP (b.take 8)).length ≤ (b.take 8).length := by unfold cutP; simp
   have h3 : (b.take 8).length + (b.drop 8).length = b.length := by rw [← List.length_append, List.take_append_drop]
   omega
def TxI (w : World) (pre : List (List UInt8)) (X : World) : Prop := ∃ v, Boxed X w.heap.size 43 v ∧ X.ownsRow w.heap.size 5 1 v (pre.flatMap cutP).length ((pre.flatMap cutP).map bv) ∧ Below w.heap.size w X
theorem read2_main (v : Value) (bs : List UInt8) (w : World) (hBs : Bs w v bs) (hl : 2 ≤ bs.length) (hl2 : bs.length ≤ 2000000) : Calls Tryz.prog 84 #[v, .int .i64 2] w (ReadP w (read2S bs)) := by
 obtain ⟨A, c, rfl, h1, h2⟩ := SlR.open_ hBs
 have Hr : Hid (read2S bs = if (takesGo 5 [] (text2S bs)).1 = 0 then some (takesGo 5 [] (text2S bs)).2.1 else none) := if_neg (by omega)
 have e2 : ¬ ((bs.length : Int) < 2) := by omega
 obtain ⟨_, b, off, rfl, hc⟩ := Bs.at_ hBs (by omega)
 have hcut : Bs w (.slice (some ⟨b, off + 2, none⟩) (bs.length - 2) (c - 2)) (bs.drop 2) := Bs.cut hBs 2 hl rfl
 have hd2 : (bs.drop 2).length = bs.length - 2 := List.length_drop ..
 have hcut0 : c = 2 → Bs w (.slice (some ⟨b, off, none⟩) (bs.length - 2) 0) (bs.drop 2) := fun h => Bs.cut0 (by omega) rfl (by omega)
 have Hcut := Lib.hid hcut
 have Hcut0 := Lib.hid hcut0
 clear hc hBs hcut hcut0
 refine (callsIn_wd (ro := none) (n := 9)).1 ?_
 refine callsIn_of_wp_marks Tryz.func84 rfl trivial ?_ rfl
 simp only [Tryz.ntmps84, List.size_toArray, List.length_cons, List.length_nil, Nat.reduceAdd, Nat.reduceSub, Array.replicate_succ, Array.replicate_zero, List.push_toArray, List.append_toArray, List.nil_append, List.cons_append]
 gi_wp2
 refine wpIn_scope_lab 0 (fun a W => a.defers = [] ∧ a.tmps.size = 73 ∧ a.tmps.getD 0 undef = .slice (some ⟨b, off, none⟩) bs.length c ∧ a.tmps.getD 6 undef = .pointer (some ⟨w.heap.size, 0, none⟩) ∧ W = w.alloc (.cells #[.slice none 0 0] 43)) (fun a _ => 0) rfl (fun l' h => by cases l' <;> first | exact absurd rfl h | rfl) ?_ ?_
 ·intro hrest
  clear hrest
  gi_wp2
  refine wpIn_goto ?_
  simp only [Exit.then]
  refine jumps_goto (by simp) ?_
  exact ⟨rfl, rfl, rfl, rfl, rfl⟩
 ·rintro ⟨T, df⟩ W ⟨hd, hsz, h0, h6, rfl⟩
  cases hd
  dsimp only at hsz h0 h6
  have hT := frame_of 73 T hsz
  generalize hU : (fun i => T.getD i undef) = U at hT
  have g0 : U 0 = .slice (some ⟨b, off, none⟩) bs.length c := by rw [← hU]; exact h0
  have g6 : U 6 = .pointer (some ⟨w.heap.size, 0, none⟩) := by rw [← hU]; exact h6
  have hT2 : T = #[.slice (some ⟨b, off, none⟩) bs.length c, U 1, U 2, U 3, U 4, U 5, .pointer (some ⟨w.heap.size, 0, none⟩), U 7, U 8, U 9, U 10, U 11, U 12, U 13, U 14, U 15, U 16, U 17, U 18, U 19, U 20, U 21, U 22, U 23, U 24, U 25, U 26, U 27, U 28, U 29, U 30, U 31, U 32, U 33, U 34, U 35, U 36, U 37, U 38, U 39, U 40, U 41, U 42, U 43, U 44, U 45, U 46, U 47, U 48, U 49, U 50, U 51, U 52, U 53, U 54, U 55, U 56, U 57, U 58, U 59, U 60, U 61, U 62, U 63, U 64, U 65, U 66, U 67, U 68, U 69, U 70, U 71, U 72] := by rw [hT]; show (#[U 0, U 1, U 2, U 3, U 4, U 5, U 6, U 7, U 8, U 9, U 10, U 11, U 12, U 13, U 14, U 15, U 16, U 17, U 18, U 19, U 20, U 21, U 22, U 23, U 24, U 25, U 26, U 27, U 28, U 29, U 30, U 31, U 32, U 33, U 34, U 35, U 36, U 37, U 38, U 39, U 40, U 41, U 42, U 43, U 44, U 45, U 46, U 47, U 48, U 49, U 50, U 51, U 52, U 53, U 54, U 55, U 56, U 57, U 58, U 59, U 60, U 61, U 62, U 63, U 64, U 65, U 66, U 67, U 68, U 69, U 70, U 71, U 72] : Array Value) = _; rw [g0, g6]
  clear hT hU hsz g0 h0 g6 h6
  subst hT2
  by_cases hc2 : c = 2
  ·skip
   gi_wp2_with (refine ⟨trivial, ?_⟩; gi_at_call 101; refine (callsIn_wd.2 (ChunkB_any _ _ _ 8 (by omega) _)).mono ?_; rintro e w' ⟨rfl, rfl⟩)
   have hBd : Bs w (.slice (some ⟨b, off, none⟩) (bs.length - 2) (0)) (bs.drop 2) := Hcut0.out hc2
   have qb : Boxed (((w.alloc (.cells #[.slice none 0 0] 43)).alloc (.cells #[.slice (some ⟨b, off, none⟩) (bs.length - 2) (0)] 43)).alloc (.cells #[.int .i64 8] 3)) w.heap.size 43 (.slice none 0 0) := ((Boxed.new w _ _).alloc _).alloc _
   have q1 : Boxed (((w.alloc (.cells #[.slice none 0 0] 43)).alloc (.cells #[.slice (some ⟨b, off, none⟩) (bs.length - 2) (0)] 43)).alloc (.cells #[.int .i64 8] 3)) (w.heap.size + 1) 43 (.slice (some ⟨b, off, none⟩) (bs.length - 2) (0)) := by
    have := (Boxed.new (w.alloc (.cells #[.slice none 0 0] 43)) 43 (.slice (some ⟨b, off, none⟩) (bs.length - 2) (0))).alloc (.cells #[.int .i64 8] 3)
    rwa [World.size_alloc] at this
   have q2 : Boxed (((w.alloc (.cells #[.slice none 0 0] 43)).alloc (.cells #[.slice (some ⟨b, off, none⟩) (bs.length - 2) (0)] 43)).alloc (.cells #[.int .i64 8] 3)) (w.heap.size + 2) 3 (.int .i64 8) := by
    have := Boxed.new ((w.alloc (.cells #[.slice none 0 0] 43)).alloc (.cells #[.slice (some ⟨b, off, none⟩) (bs.length - 2) (0)] 43)) 3 (.int .i64 8)
    rwa [World.size_alloc, World.size_alloc] at this
   have hE2 : Ext w (((w.alloc (.cells #[.slice none 0 0] 43)).alloc (.cells #[.slice (some ⟨b, off, none⟩) (bs.length - 2) (0)] 43)).alloc (.cells #[.int .i64 8] 3)) := Ext.alloc (Ext.alloc (Ext.alloc (Ext.refl _) _) _) _
   have hs2 : (((w.alloc (.cells #[.slice none 0 0] 43)).alloc (.cells #[.slice (some ⟨b, off, none⟩) (bs.length - 2) (0)] 43)).alloc (.cells #[.int .i64 8] 3)).heap.size = w.heap.size + 3 := by simp
   have h0 : TxI w [] (((w.alloc (.cells #[.slice none 0 0] 43)).alloc (.cells #[.slice (some ⟨b, off, none⟩) (bs.length - 2) (0)] 43)).alloc (.cells #[.int .i64 8] 3)) := ⟨_, qb, World.ownsRow_nil _ _ _ _, hE2⟩
   generalize (((w.alloc (.cells #[.slice none 0 0] 43)).alloc (.cells #[.slice (some ⟨b, off, none⟩) (bs.length - 2) (0)] 43)).alloc (.cells #[.int .i64 8] 3)) = w2 at *
   refine frame_name (fun T hT => ?_)
   refine wp_range (a := ⟨T, []⟩) (by subst hT; rfl) (enters_of Tryz.func124 (by kernel_rfl) rfl)
    (fun W1 hb hs => chunkB_seq 8 (by omega) (by omega) w W1 _ (bs.drop 2) hBd (by omega) (w.heap.size + 1) (w.heap.size + 2) (q1.kept (row := none) (Ext.grown hb none) (by simp)) (q2.kept (row := none) (Ext.grown hb none) (by simp)))
    (fun k o h => h.elim) (fun k o h => by rcases h with h | h <;> exact isCells_of_ty h.2) (fun x av W h => by obtain ⟨_, _, rfl, _⟩ := h; rfl)
    (TxI w) (fun _ _ _ => False) ?hI (fun _ _ _ _ h _ => h) h0
    (fun p a' W => ∃ b' off', Bs W (.slice (some ⟨b', off', none⟩) p.length p.length) p ∧ 0 < p.length ∧ p.length ≤ 8 ∧ a' = ⟨(T.setIfInBounds 55 (.slice (some ⟨b', off', none⟩) p.length p.length)).setIfInBounds 12 (.slice (some ⟨b', off', none⟩) p.length p.length), []⟩)
    ?hAx ?assign ?body ?done (fun _ _ _ _ _ _ h _ => h.elim)
   case hI =>
    rintro s X Y ⟨v1, hv, hr, hB⟩ hm
    refine ⟨v1, hm.boxed hv ?_, hm.ownsRow hr ?_, hm.belowOf hB ?_ (Nat.le_refl _)⟩
    ·rintro (h | h)
     ·exact h
     ·cases h.2
    ·rintro k cur _ (h | h)
     ·exact h
     ·cases h.2
    ·rintro k o hk (h | h)
     ·exact h
     ·have := h.1; omega
   case hAx =>
    rintro x a' X Y ⟨b', off', hu, hx0, hx8, rfl⟩ hm
    refine ⟨b', off', SlR.keep hu (fun q t hq => hm.cell hq (fun o ho hc => ?_)), hx0, hx8, rfl⟩
    rintro (h | h)
    ·exact h
    ·rw [hc] at h; cases h.2
   case assign =>
    rintro l' pre x post W av K' hx hi hsz ⟨b', off', rfl, hu, hx0, hx8⟩ hK
    obtain ⟨v1, hv, hr, hB⟩ := hi
    have huW : Bs W (.slice (some ⟨b', off', none⟩) x.length x.length) x := Bs.ext hu hB
    have Hi : Hid (TxI w pre W) := ⟨v1, hv, hr, hB⟩
    have Hx := Lib.hid hx
    have HU := Lib.hid huW
    clear hx hu huW hv hr hB
    subst hT
    gi_wp2
    exact hK _ _ Kept.refl Hi.out ⟨b', off', HU.out, hx0, hx8, rfl⟩
   case body =>
    rintro l' pre x post a' W hx hl' hr ⟨v1, hv, hrow, hB⟩ hsz ⟨b', off', hu, hx0, hx8, rfl⟩
    have hfl : (pre ++ [x]).flatMap cutP = pre.flatMap cutP ++ cutP x := by simp
    have Hfl := Lib.hid hfl
    have Hx := Lib.hid hx
    clear hfl hx
    have hfl9 : (pre.flatMap cutP).length + x.length ≤ 4000000 := by
     have h1 := chunkL_cut (bs.drop 2)
     rw [Hx.out, List.flatMap_append, List.length_append] at h1
     omega
    subst hT
    generalize pre.flatMap cutP = Q at *
    obtain ⟨A1, cc1, rfl, _, _⟩ := SlR.open_ (SlR.of_own hrow)
    have hne := hv.not_row (e := 5) (by decide) hrow
    obtain ⟨y, hy⟩ : ∃ y, cutP x = y := ⟨_, rfl⟩
    gi_wp2
    have hmx : (if IntKind.i64.wrap ((x.length : Int) - 4) < 0 then 0 else IntKind.i64.wrap ((x.length : Int) - 4)) = ((x.length - 4 : Nat) : Int) := by
     have e : IntKind.i64.wrap ((x.length : Int) - 4) = (x.length : Int) - 4 := by rw [IntKind.wrap_i64]; omega
     rw [e]
     split <;> omega
    have hml : ((x.length - 4 : Nat) : Int) ≤ (x.length : Int) := by omega
    have hcb := hv.cell
    refine wpIn_region_round (by kernel_rfl) (by kernel_rfl) ?_
    refine tkF 1 rfl rfl rfl ?_
    refine tkF 2 rfl rfl rfl ?_
    refine tkF 3 rfl rfl rfl ?_
    refine tkF 4 rfl rfl rfl ?_
    refine tkF 5 rfl rfl rfl ?_
    refine tkF 6 rfl rfl rfl ?_
    refine wpAnyIn_run (i := 0) (v := ?v9) (w' := ?w9) rfl (by kernel_rfl) rfl rfl rfl ?h9 ?r9
    case h9 => go_simp; try (first | with_reducible rfl | (refine ⟨?_, ?_⟩ <;> with_reducible rfl))
    have hrowD : W.drew.ownsRow w.heap.size 5 1 (.slice A1 Q.length cc1) Q.length (Q.map bv) := own_ext hrow (Ext.drew (Ext.refl _))
    have hcl : y.length = x.length - 4 := by rw [← hy]; unfold cutP; rw [List.length_take]; omega
    have hcx : Bs W.drew (.slice (some ⟨b', off', none⟩) (x.length - 4) x.length) y := by
     have h := Bs.take (hu.ext (Ext.drew (Ext.refl W))) (x.length - 4) (by omega)
     rw [← hy]
     exact h
    have Hy := Lib.hid hy
    clear hy
    obtain ⟨i0, hi, hz0, hz1, hz2⟩ := info_parts info_u8
    obtain ⟨v7, w7, hrun7, ho7, hg7⟩ := run_append_sl (P := Tryz.prog) W.drew w.heap.size 43 43 5 i0 (.int .u8 0) 1 1 Tryz.underlying43 hi hz0 hz1 hz2 rfl (by decide) _ _ _ hrowD _ _ _ hcx (one_bv _) (by unfold maxLen; omega) (by omega) (Ext.drew hB).size
    have hlen7 : Q.length + y.length = (Q ++ y).length := by simp
    rw [hlen7] at ho7
    obtain ⟨A7, c7, rfl, _, _⟩ := SlR.open_ (SlR.of_own ho7)
    have hv7 : Boxed w7 w.heap.size 43 (.slice A1 Q.length cc1) := Boxed.kept (show Boxed W.drew w.heap.size 43 (.slice A1 Q.length cc1) from hv) hg7 hne
    have Hcl := Lib.hid hcl
    have Hlen7 := Lib.hid hlen7
    clear hcl hlen7
    generalize (Q ++ y).length = L at *
    refine wpAnyIn_run (i := 7) (v := .slice A7 L c7) (w' := w7) rfl (by kernel_rfl) rfl rfl (about_append _ _ _ rfl) (exec_append (v := .slice A1 Q.length cc1) (vx := .slice (some ⟨b', off', none⟩) (x.length - 4) x.length) (.tmp 56) (.tmp 62) 43 rfl (by simp [Act.eval, Act.put]) (by simp [Act.eval, Act.put]) hrun7) ?_
    have hc7 := hv7.cell
    have hf7 := hv7.frozen
    have HB := Lib.hid hB
    clear hrun7 hcb hcx hmx
    refine wpAnyIn_skip (i := 8) (w' := ?w10) rfl (by kernel_rfl) rfl rfl rfl ?h10 ?r10
    case h10 => go_simp; try (first | with_reducible rfl | (refine ⟨?_, ?_⟩ <;> with_reducible rfl))
    refine wpAnyIn_done (by kernel_rfl) (noP_normal ?_) _
    simp only [Act.put, sA, sZ, sS]
    gi_wp2
    refine ⟨(((Kept.refl (K := _) (A := W)).drew).grown hg7 (fun k o ek ho => ?_)).setCell (fun o ho _ => ?_) _, _, hv7.set _, ?_, ?_⟩
    ·obtain ⟨cur, hc'⟩ := ownsRow_cells hrow ek
     rw [ho] at hc'; cases hc'
     rintro ((⟨_, h⟩ | ⟨_, h⟩) | ⟨_, h⟩) <;> cases h
    ·rw [show W.heap[w.heap.size]? = _ from hv] at ho; cases ho
     rintro ((⟨h, _⟩ | ⟨h, _⟩) | ⟨_, h⟩)
     ·have h : w.heap.size = w.heap.size + 1 := h
      omega
     ·have h : w.heap.size = w.heap.size + 2 := h
      omega
     ·cases h
    ·have h := ho7.kept (grownBy_setCell' w7 w.heap.size (.slice A7 L c7)) (.inr (hv7.not_row (by decide) ho7).symm)
     rw [Hfl.out, Hy.out, List.length_append, Hlen7.out, List.map_append]
     exact h
    ·refine ((HB.out.drew).grown hg7 (Ext.drew HB.out).size (fun k ek => ?_)).setCell (p := ⟨w.heap.size, 0, none⟩) (Nat.le_refl _) _
     have := (hrow.lt k ek).1
     omega
   case done =>
    rintro D W hD ⟨v1, hv, hrow, hB⟩ hK
    have hcl := chunkL_cut (bs.drop 2)
    obtain ⟨q, hq⟩ : ∃ q, (chunkL 8 (bs.drop 2)).flatMap cutP = q := ⟨_, rfl⟩
    rw [hq] at hrow hcl
    have Hq : Hid (text2S bs = q) := hq
    have hql : q.length ≤ 2000000 := by omega
    clear hq hcl
    have hBq : Bs W v1 q := SlR.of_own hrow
    obtain ⟨A1, cc1, rfl, _, _⟩ := SlR.open_ hBq
    have hc := hv.cell
    have hf := hv.frozen
    have key := Takes_any _ q 5 (by omega) W hBq (by omega)
    have HB := Lib.hid hB
    have Hrow := Lib.hid hrow
    clear hBd hBq hB hrow
    subst hT
    gi_wp2_with (refine ⟨trivial, ?_⟩; gi_at_call 102; refine (callsIn_wd.2 key).mono ?_; rintro e w3 ⟨vl, vr, rfl, ho, -, hE⟩)
    have hK3 : w3.heap[D]? = some (.deferred (some [])) := (hE.block D (Array.getElem?_eq_some_iff.1 hK).1).trans hK
    refine jumps_ret ?_
    refine ret_mark hK3 (.tuple #[vl, .bool ((takesGo 5 [] q).1 == 0)]) (read_res _ _ _ _ rfl rfl) ⟨vl, ?_, ?_, ?_⟩
    ·rw [Hr.out, Hq.out]
     by_cases h : (takesGo 5 [] q).1 = 0 <;> simp [h]
    ·intro l h
     rw [Hr.out, Hq.out] at h
     split at h
     ·cases h
      exact ownsRow_putObj (own_base ho HB.out.size) (.deferred none) hK3 rfl
     ·cases h
    ·exact below_putObj (Below.trans HB.out (hE.mono HB.out.size)) (by omega) _
  ·skip
   gi_wp2_with (refine ⟨trivial, ?_⟩; gi_at_call 101; refine (callsIn_wd.2 (ChunkB_any _ _ _ 8 (by omega) _)).mono ?_; rintro e w' ⟨rfl, rfl⟩)
   have hBd : Bs w (.slice (some ⟨b, off + 2, none⟩) (bs.length - 2) (c - 2)) (bs.drop 2) := Hcut.out
   have qb : Boxed (((w.alloc (.cells #[.slice none 0 0] 43)).alloc (.cells #[.slice (some ⟨b, off + 2, none⟩) (bs.length - 2) (c - 2)] 43)).alloc (.cells #[.int .i64 8] 3)) w.heap.size 43 (.slice none 0 0) := ((Boxed.new w _ _).alloc _).alloc _
   have q1 : Boxed (((w.alloc (.cells #[.slice none 0 0] 43)).alloc (.cells #[.slice (some ⟨b, off + 2, none⟩) (bs.length - 2) (c - 2)] 43)).alloc (.cells #[.int .i64 8] 3)) (w.heap.size + 1) 43 (.slice (some ⟨b, off + 2, none⟩) (bs.length - 2) (c - 2)) := by
    have := (Boxed.new (w.alloc (.cells #[.slice none 0 0] 43)) 43 (.slice (some ⟨b, off + 2, none⟩) (bs.length - 2) (c - 2))).alloc (.cells #[.int .i64 8] 3)
    rwa [World.size_alloc] at this
   have q2 : Boxed (((w.alloc (.cells #[.slice none 0 0] 43)).alloc (.cells #[.slice (some ⟨b, off + 2, none⟩) (bs.length - 2) (c - 2)] 43)).alloc (.cells #[.int .i64 8] 3)) (w.heap.size + 2) 3 (.int .i64 8) := by
    have := Boxed.new ((w.alloc (.cells #[.slice none 0 0] 43)).alloc (.cells #[.slice (some ⟨b, off + 2, none⟩) (bs.length - 2) (c - 2)] 43)) 3 (.int .i64 8)
    rwa [World.size_alloc, World.size_alloc] at this
   have hE2 : Ext w (((w.alloc (.cells #[.slice none 0 0] 43)).alloc (.cells #[.slice (some ⟨b, off + 2, none⟩) (bs.length - 2) (c - 2)] 43)).alloc (.cells #[.int .i64 8] 3)) := Ext.alloc (Ext.alloc (Ext.alloc (Ext.refl _) _) _) _
   have hs2 : (((w.alloc (.cells #[.slice none 0 0] 43)).alloc (.cells #[.slice (some ⟨b, off + 2, none⟩) (bs.length - 2) (c - 2)] 43)).alloc (.cells #[.int .i64 8] 3)).heap.size = w.heap.size + 3 := by simp
   have h0 : TxI w [] (((w.alloc (.cells #[.slice none 0 0] 43)).alloc (.cells #[.slice (some ⟨b, off + 2, none⟩) (bs.length - 2) (c - 2)] 43)).alloc (.cells #[.int .i64 8] 3)) := ⟨_, qb, World.ownsRow_nil _ _ _ _, hE2⟩
   generalize (((w.alloc (.cells #[.slice none 0 0] 43)).alloc (.cells #[.slice (some ⟨b, off + 2, none⟩) (bs.length - 2) (c - 2)] 43)).alloc (.cells #[.int .i64 8] 3)) = w2 at *
   refine frame_name (fun T hT => ?_)
   refine wp_range (a := ⟨T, []⟩) (by subst hT; rfl) (enters_of Tryz.func124 (by kernel_rfl) rfl)
    (fun W1 hb hs => chunkB_seq 8 (by omega) (by omega) w W1 _ (bs.drop 2) hBd (by omega) (w.heap.size + 1) (w.heap.size + 2) (q1.kept (row := none) (Ext.grown hb none) (by simp)) (q2.kept (row := none) (Ext.grown hb none) (by simp)))
    (fun k o h => h.elim) (fun k o h => by rcases h with h | h <;> exact isCells_of_ty h.2) (fun x av W h => by obtain ⟨_, _, rfl, _⟩ := h; rfl)
    (TxI w) (fun _ _ _ => False) ?hI (fun _ _ _ _ h _ => h) h0
    (fun p a' W => ∃ b' off', Bs W (.slice (some ⟨b', off', none⟩) p.length p.length) p ∧ 0 < p.length ∧ p.length ≤ 8 ∧ a' = ⟨(T.setIfInBounds 55 (.slice (some ⟨b', off', none⟩) p.length p.length)).setIfInBounds 12 (.slice (some ⟨b', off', none⟩) p.length p.length), []⟩)
    ?hAx ?assign ?body ?done (fun _ _ _ _ _ _ h _ => h.elim)
   case hI =>
    rintro s X Y ⟨v1, hv, hr, hB⟩ hm
    refine ⟨v1, hm.boxed hv ?_, hm.ownsRow hr ?_, hm.belowOf hB ?_ (Nat.le_refl _)⟩
    ·rintro (h | h)
     ·exact h
     ·cases h.2
    ·rintro k cur _ (h | h)
     ·exact h
     ·cases h.2
    ·rintro k o hk (h | h)
     ·exact h
     ·have := h.1; omega
   case hAx =>
    rintro x a' X Y ⟨b', off', hu, hx0, hx8, rfl⟩ hm
    refine ⟨b', off', SlR.keep hu (fun q t hq => hm.cell hq (fun o ho hc => ?_)), hx0, hx8, rfl⟩
    rintro (h | h)
    ·exact h
    ·rw [hc] at h; cases h.2
   case assign =>
    rintro l' pre x post W av K' hx hi hsz ⟨b', off', rfl, hu, hx0, hx8⟩ hK
    obtain ⟨v1, hv, hr, hB⟩ := hi
    have huW : Bs W (.slice (some ⟨b', off', none⟩) x.length x.length) x := Bs.ext hu hB
    have Hi : Hid (TxI w pre W) := ⟨v1, hv, hr, hB⟩
    have Hx := Lib.hid hx
    have HU := Lib.hid huW
    clear hx hu huW hv hr hB
    subst hT
    gi_wp2
    exact hK _ _ Kept.refl Hi.out ⟨b', off', HU.out, hx0, hx8, rfl⟩
   case body =>
    rintro l' pre x post a' W hx hl' hr ⟨v1, hv, hrow, hB⟩ hsz ⟨b', off', hu, hx0, hx8, rfl⟩
    have hfl : (pre ++ [x]).flatMap cutP = pre.flatMap cutP ++ cutP x := by simp
    have Hfl := Lib.hid hfl
    have Hx := Lib.hid hx
    clear hfl hx
    have hfl9 : (pre.flatMap cutP).length + x.length ≤ 4000000 := by
     have h1 := chunkL_cut (bs.drop 2)
     rw [Hx.out, List.flatMap_append, List.length_append] at h1
     omega
    subst hT
    generalize pre.flatMap cutP = Q at *
    obtain ⟨A1, cc1, rfl, _, _⟩ := SlR.open_ (SlR.of_own hrow)
    have hne := hv.not_row (e := 5) (by decide) hrow
    obtain ⟨y, hy⟩ : ∃ y, cutP x = y := ⟨_, rfl⟩
    gi_wp2
    have hmx : (if IntKind.i64.wrap ((x.length : Int) - 4) < 0 then 0 else IntKind.i64.wrap ((x.length : Int) - 4)) = ((x.length - 4 : Nat) : Int) := by
     have e : IntKind.i64.wrap ((x.length : Int) - 4) = (x.length : Int) - 4 := by rw [IntKind.wrap_i64]; omega
     rw [e]
     split <;> omega
    have hml : ((x.length - 4 : Nat) : Int) ≤ (x.length : Int) := by omega
    have hcb := hv.cell
    refine wpIn_region_round (by kernel_rfl) (by kernel_rfl) ?_
    refine tkF 1 rfl rfl rfl ?_
    refine tkF 2 rfl rfl rfl ?_
    refine tkF 3 rfl rfl rfl ?_
    refine tkF 4 rfl rfl rfl ?_
    refine tkF 5 rfl rfl rfl ?_
    refine tkF 6 rfl rfl rfl ?_
    refine wpAnyIn_run (i := 0) (v := ?v18) (w' := ?w18) rfl (by kernel_rfl) rfl rfl rfl ?h18 ?r18
    case h18 => go_simp; try (first | with_reducible rfl | (refine ⟨?_, ?_⟩ <;> with_reducible rfl))
    have hrowD : W.drew.ownsRow w.heap.size 5 1 (.slice A1 Q.length cc1) Q.length (Q.map bv) := own_ext hrow (Ext.drew (Ext.refl _))
    have hcl : y.length = x.length - 4 := by rw [← hy]; unfold cutP; rw [List.length_take]; omega
    have hcx : Bs W.drew (.slice (some ⟨b', off', none⟩) (x.length - 4) x.length) y := by
     have h := Bs.take (hu.ext (Ext.drew (Ext.refl W))) (x.length - 4) (by omega)
     rw [← hy]
     exact h
    have Hy := Lib.hid hy
    clear hy
    obtain ⟨i0, hi, hz0, hz1, hz2⟩ := info_parts info_u8
    obtain ⟨v7, w7, hrun7, ho7, hg7⟩ := run_append_sl (P := Tryz.prog) W.drew w.heap.size 43 43 5 i0 (.int .u8 0) 1 1 Tryz.underlying43 hi hz0 hz1 hz2 rfl (by decide) _ _ _ hrowD _ _ _ hcx (one_bv _) (by unfold maxLen; omega) (by omega) (Ext.drew hB).size
    have hlen7 : Q.length + y.length = (Q ++ y).length := by simp
    rw [hlen7] at ho7
    obtain ⟨A7, c7, rfl, _, _⟩ := SlR.open_ (SlR.of_own ho7)
    have hv7 : Boxed w7 w.heap.size 43 (.slice A1 Q.length cc1) := Boxed.kept (show Boxed W.drew w.heap.size 43 (.slice A1 Q.length cc1) from hv) hg7 hne
    have Hcl := Lib.hid hcl
    have Hlen7 := Lib.hid hlen7
    clear hcl hlen7
    generalize (Q ++ y).length = L at *
    refine wpAnyIn_run (i := 7) (v := .slice A7 L c7) (w' := w7) rfl (by kernel_rfl) rfl rfl (about_append _ _ _ rfl) (exec_append (v := .slice A1 Q.length cc1) (vx := .slice (some ⟨b', off', none⟩) (x.length - 4) x.length) (.tmp 56) (.tmp 62) 43 rfl (by simp [Act.eval, Act.put]) (by simp [Act.eval, Act.put]) hrun7) ?_
    have hc7 := hv7.cell
    have hf7 := hv7.frozen
    have HB := Lib.hid hB
    clear hrun7 hcb hcx hmx
    refine wpAnyIn_skip (i := 8) (w' := ?w19) rfl (by kernel_rfl) rfl rfl rfl ?h19 ?r19
    case h19 => go_simp; try (first | with_reducible rfl | (refine ⟨?_, ?_⟩ <;> with_reducible rfl))
    refine wpAnyIn_done (by kernel_rfl) (noP_normal ?_) _
    simp only [Act.put, sA, sZ, sS]
    gi_wp2
    refine ⟨(((Kept.refl (K := _) (A := W)).drew).grown hg7 (fun k o ek ho => ?_)).setCell (fun o ho _ => ?_) _, _, hv7.set _, ?_, ?_⟩
    ·obtain ⟨cur, hc'⟩ := ownsRow_cells hrow ek
     rw [ho] at hc'; cases hc'
     rintro ((⟨_, h⟩ | ⟨_, h⟩) | ⟨_, h⟩) <;> cases h
    ·rw [show W.heap[w.heap.size]? = _ from hv] at ho; cases ho
     rintro ((⟨h, _⟩ | ⟨h, _⟩) | ⟨_, h⟩)
     ·have h : w.heap.size = w.heap.size + 1 := h
      omega
     ·have h : w.heap.size = w.heap.size + 2 := h
      omega
     ·cases h
    ·have h := ho7.kept (grownBy_setCell' w7 w.heap.size (.slice A7 L c7)) (.inr (hv7.not_row (by decide) ho7).symm)
     rw [Hfl.out, Hy.out, List.length_append, Hlen7.out, List.map_append]
     exact h
    ·refine ((HB.out.drew).grown hg7 (Ext.drew HB.out).size (fun k ek => ?_)).setCell (p := ⟨w.heap.size, 0, none⟩) (Nat.le_refl _) _
     have := (hrow.lt k ek).1
     omega
   case done =>
    rintro D W hD ⟨v1, hv, hrow, hB⟩ hK
    have hcl := chunkL_cut (bs.drop 2)
    obtain ⟨q, hq⟩ : ∃ q, (chunkL 8 (bs.drop 2)).flatMap cutP = q := ⟨_, rfl⟩
    rw [hq] at hrow hcl
    have Hq : Hid (text2S bs = q) := hq
    have hql : q.length ≤ 2000000 := by omega
    clear hq hcl
    have hBq : Bs W v1 q := SlR.of_own hrow
    obtain ⟨A1, cc1, rfl, _, _⟩ := SlR.open_ hBq
    have hc := hv.cell
    have hf := hv.frozen
    have key := Takes_any _ q 5 (by omega) W hBq (by omega)
    have HB := Lib.hid hB
    have Hrow := Lib.hid hrow
    clear hBd hBq hB hrow
    subst hT
    gi_wp2_with (refine ⟨trivial, ?_⟩; gi_at_call 102; refine (callsIn_wd.2 key).mono ?_; rintro e w3 ⟨vl, vr, rfl, ho, -, hE⟩)
    have hK3 : w3.heap[D]? = some (.deferred (some [])) := (hE.block D (Array.getElem?_eq_some_iff.1 hK).1).trans hK
    refine jumps_ret ?_
    refine ret_mark hK3 (.tuple #[vl, .bool ((takesGo 5 [] q).1 == 0)]) (read_res _ _ _ _ rfl rfl) ⟨vl, ?_, ?_, ?_⟩
    ·rw [Hr.out, Hq.out]
     by_cases h : (takesGo 5 [] q).1 = 0 <;> simp [h]
    ·intro l h
     rw [Hr.out, Hq.out] at h
     split at h
     ·cases h
      exact ownsRow_putObj (own_base ho HB.out.size) (.deferred none) hK3 rfl
     ·cases h
    ·exact below_putObj (Below.trans HB.out (hE.mono HB.out.size)) (by omega) _
def readS (b : List UInt8) (f : Int) : Option (List Int) := if f = 2 then read2S b else read1S b
theorem read_any (v : Value) (bs : List UInt8) (f : Int) (w : World) (hBs : Bs w v bs) (hl : bs.length ≤ 2000000) : Calls Tryz.prog 84 #[v, .int .i64 f] w (ReadP w (readS bs f)) := by
 by_cases hf : f = 2
 ·subst hf
  rw [readS, if_pos rfl]
  by_cases h2 : bs.length < 2
  ·exact read2_short v bs w hBs h2
  ·exact read2_main v bs w hBs (by omega) hl
 ·rw [readS, if_neg hf]
  exact read1_any v bs f hf w hBs
open Go.RowKit Go.Mv
theorem longsGo_put (l : List Int) (h : allNum l = true) : ∀ (acc : List Int) (r : List UInt8), longsGo l.length acc (longs l ++ r) = some (acc ++ l) := by
 induction l with
 | nil => intro acc r; simp [longsGo]
 | cons n l ih =>
  intro acc r
  have hn : 0 ≤ n ∧ n ≤ 1073741824 := num_of_all (k := 0) h (by simp)
  have hl : allNum l = true := by
   simp [allNum] at h ⊢
   exact h.2
  have e1 : longs (n :: l) ++ r = long1 n.toNat ++ (longs l ++ r) := by simp [longs]
  have e2 : (long1 n.toNat ++ (longs l ++ r)).take 5 = long1 n.toNat := by rw [List.take_append_of_le_length (by rw [long1_len]; omega), ← long1_len n.toNat, List.take_length]
  have e3 : (long1 n.toNat ++ (longs l ++ r)).drop 5 = longs l ++ r := by rw [← long1_len n.toNat, List.drop_left]
  have e4 := takeLong_put n.toNat (by omega) []
  rw [List.append_nil] at e4
  rw [e1, List.length_cons, longsGo, e2, e4, e3]
  dsimp only
  rw [if_pos rfl, ih hl, Int.toNat_of_nonneg hn.1]
  simp
theorem read1_put (s : Sta) (h : s.ok = true) : read1S (put1 s) = some s.ints := by
 obtain ⟨h1, h2, h3, h4⟩ := Sta.okP h
 have hn : allNum [s.idx, s.term, s.sum] = true := by simp [allNum, h1, h2, h3]
 obtain ⟨u, hu, hul⟩ : ∃ u, put1 s = 1 :: (longs [s.idx, s.term, s.sum] ++ ([UInt8.ofNat s.lvl.toNat, UInt8.ofNat s.finI.toNat] ++ u)) ∧ u.length = 4 := by
  refine ⟨_, ?_, fourU_len (nextN rT 0 (1 :: (longs [s.idx, s.term, s.sum] ++ [UInt8.ofNat s.lvl.toNat, UInt8.ofNat s.finI.toNat])))⟩
  unfold put1 crcPut
  simp
 have hll : (longs [s.idx, s.term, s.sum]).length = 15 := by rw [longs_len]; rfl
 have hlen : (put1 s).length = 22 := by rw [hu]; simp [hll, hul]
 have key : longsGo 3 [] (longs [s.idx, s.term, s.sum] ++ ([UInt8.ofNat s.lvl.toNat, UInt8.ofNat s.finI.toNat] ++ u)) = some ([] ++ [s.idx, s.term, s.sum]) := longsGo_put [s.idx, s.term, s.sum] hn [] ([UInt8.ofNat s.lvl.toNat, UInt8.ofNat s.finI.toNat] ++ u)
 have e16 : (put1 s).getD 16 0 = UInt8.ofNat s.lvl.toNat := by
  rw [hu, List.getD_eq_getElem?_getD, List.getElem?_cons_succ, List.getElem?_append_right (by rw [hll]; omega), hll]; rfl
 have e17 : (put1 s).getD 17 0 = UInt8.ofNat s.finI.toNat := by
  rw [hu, List.getD_eq_getElem?_getD, List.getElem?_cons_succ, List.getElem?_append_right (by rw [hll]; omega), hll]; rfl
 unfold read1S
 rw [if_pos hlen, e16, e17]
 rw [hu]
 show ((longsGo 3 [] (longs [s.idx, s.term, s.sum] ++ ([UInt8.ofNat s.lvl.toNat, UInt8.ofNat s.finI.toNat] ++ u))).map _) = _
 rw [key]
 have el : ((UInt8.ofNat s.lvl.toNat).toNat : Int) = s.lvl := by rcases h4 with e | e <;> rw [e] <;> rfl
 have ef : ((UInt8.ofNat s.finI.toNat).toNat : Int) = s.finI := by rcases s.finP with e | e <;> rw [e] <;> rfl
 rw [el, ef]
 rfl
theorem text2_unp (b : List UInt8) : (chunkL 8 b).flatMap (fun p => p.take (p.length - 4)) = unpS b := by
 generalize hn : b.length = n
 induction n using Nat.strongRecOn generalizing b with
 | _ n ih =>
  rcases Nat.eq_zero_or_pos b.length with h | h
  ·have : b = [] := List.eq_nil_of_length_eq_zero h
   subst this
   rw [chunkL_nil, unpS_nil]
   rfl
  ·rw [chunkL_cons 8 b (by omega) h, unpS_cons b h, List.flatMap_cons, ih (b.drop 8).length (by simp; omega) (b.drop 8) rfl]
theorem read2_put (s : Sta) (h : s.ok = true) : read2S (put2 s) = some s.ints := by
 have e1 : text2S (put2 s) = shorts s.ints := by
  unfold text2S put2
  rw [text2_unp]
  exact unp_pieces (0, 0) _
 have e2 : takesGo 5 [] (shorts s.ints) = (0, [] ++ s.ints, []) := by
  have := takesGo_put s.ints (Sta.nums h) [] []
  rw [List.append_nil] at this
  exact this
 unfold read2S
 rw [if_neg (by unfold put2; simp), e1, e2]
 rfl
def staOf (l : List Int) : Sta := ⟨l.getD 0 0, l.getD 1 0, l.getD 2 0, l.getD 3 0, l.getD 4 0 == 1⟩
theorem staOf_ints (s : Sta) : staOf s.ints = s := by
 obtain ⟨i, t, u, l, b⟩ := s
 cases b <;> rfl
end Go.Proofs.YtmecffckghkahaaGreatDoor
