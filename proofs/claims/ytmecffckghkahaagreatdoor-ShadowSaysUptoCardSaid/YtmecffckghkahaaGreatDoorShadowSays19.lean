/- Merged: Rlong SnapR SnapR2 SnapR3 -/
import Derived.Test.YtmecffckghkahaaGreatDoorShadowSays18
set_option linter.all false
set_option maxHeartbeats 8000000
namespace Go.Proofs.YtmecffckghkahaaGreatDoor
open Go.RowKit Go.Mv
set_option maxRecDepth 100000
theorem refTakeLong_any (v : Value) (bs : List UInt8) (w : World) (hBs : Bs w v bs) (hl : bs.length ≤ 2000000) : Calls Tryz.prog 77 #[v] w (TakeP w (takeLongS bs)) := by
 obtain ⟨A, c, rfl, h1, h2⟩ := SlR.open_ hBs
 by_cases h5 : (bs.length : Int) < 5
 ·have ht : takeLongS bs = (10, 0, []) := by unfold takeLongS; rw [if_pos (by omega)]
  have Ht := Lib.hid ht
  clear ht
  go_enter Tryz.func77, Tryz.ntmps77
  go_wp2_with fail
  go_ret3
  exact ⟨_, by rw [Ht.out]; rfl, by rw [Ht.out]; exact World.ownsRow_nil _ _ _ _, Ext.refl _⟩
 obtain ⟨_, b, off, rfl, hc⟩ := Bs.at_ hBs (by omega)
 have HC := Lib.hid hc
 have HBs := Lib.hid hBs
 have ht5 : takeLongS bs = if beN (bs.take 5) ≤ 1073741824 then (0, beN (bs.take 5), bs.drop 5) else (11, 0, []) := by unfold takeLongS; rw [if_neg (by omega)]
 have Ht5 := Lib.hid ht5
 have h5c : (5 : Int) ≤ (c : Int) := by omega
 have h5l : (5 : Int) ≤ (bs.length : Int) := by omega
 clear hc hBs ht5
 go_enter Tryz.func77, Tryz.ntmps77
 go_wp2_with fail
 go_loop [5, 6] (fun nn ii => ∃ k n : Nat, k ≤ 5 ∧ Hid (n = beN (bs.take k)) ∧ n < 1099511627776 ∧ Hid (n < 256 ^ k) ∧ nn = .int .i64 n ∧ ii = .int .i64 k) (fun _ ii => 5 - (intOf ii).toNat)
 case atStart => exact ⟨0, 0, by omega, rfl, by omega, by show _ < _; decide, rfl, rfl⟩
 case round =>
  obtain ⟨k, n, hk, Hn, hn, Hlt, rfl, rfl⟩ := hrel
  by_cases hlt : k < 5
  ·have hkl : k < bs.length := by omega
   have hci := HC.out k hkl
   have hq := bs[k].toNat_lt
   have hsn : beN (bs.take (k + 1)) = n * 256 + bs[k].toNat := by rw [List.take_succ_eq_append_getElem hkl, beN_snoc, Hn.out]
   have hnk : n < 4294967296 := Nat.lt_of_lt_of_le Hlt.out (Nat.le_trans (Nat.pow_le_pow_right (by decide) (show k ≤ 4 by omega)) (by decide))
   have hlt2 : n * 256 + bs[k].toNat < 256 ^ (k + 1) := by rw [Nat.pow_succ]; have := Hlt.out; omega
   have Hsn := Lib.hid hsn
   have Hlt2 := Lib.hid hlt2
   clear hsn hlt2
   generalize bs[k].toNat = q at *
   go_wp2_with fail
   go_round
   case rel => exact ⟨k + 1, n * 256 + q, by omega, by show _ = _; rw [Hsn.out], by omega, Hlt2.out, by go_num, by go_num⟩
   case measure => simp [intOf]; omega
  ·obtain rfl : k = 5 := by omega
   have hIs := SlR.of_own (own_new w [.int .i64 (n : Int)] 3 1 rfl (by simp [maxLen]) (Nat.le_refl _))
   have hIs' : Is (w.alloc (.cells #[.int .i64 (n : Int)] 3)) (.slice (some ⟨w.heap.size, 0, none⟩) 1 1) [(n : Int)] := hIs
   have ha : allNum [(n : Int)] = decide (n ≤ 1073741824) := by simp [allNum, numB]; omega
   have Ha := Lib.hid ha
   have hE1 : Ext w (w.alloc (.cells #[.int .i64 (n : Int)] 3)) := Ext.alloc (Ext.refl _) _
   clear hIs ha
   have hvs : ∃ vs : Value, (∀ W, Ext w W → Bs W vs (bs.drop 5)) ∧ vs = .slice (if c = 5 then some ⟨b, off, none⟩ else some ⟨b, off + 5, none⟩) (bs.length - 5) (c - 5) := by
    by_cases hck : c = 5
    ·exact ⟨_, fun W _ => Bs.cut0 (A := some ⟨b, off, none⟩) (n := bs.length) (k := 5) (c := c - 5) (bs := bs) (by omega) rfl (by omega), by rw [if_pos hck]⟩
    ·exact ⟨_, fun W hE => Bs.cut (HBs.out.ext hE) 5 (by omega) rfl, by rw [if_neg hck]⟩
   obtain ⟨vs, hvs1, hvs2⟩ := hvs
   have HVS := Lib.hid hvs1
   have HV := Lib.hid hvs2
   clear hvs1 hvs2
   by_cases hok : n ≤ 1073741824
   ·have hr : takeLongS bs = (0, n, bs.drop 5) := by rw [Ht5.out, ← Hn.out, if_pos hok]
    have Hr := Lib.hid hr
    have hdl : (bs.drop 5).length ≤ 2000000 := by rw [List.length_drop]; omega
    have hemp := ownB_empty (w.alloc (.cells #[.int .i64 (n : Int)] 3))
    rw [World.size_alloc] at hemp
    have hemp2 := own_base (base' := w.heap.size) hemp (by omega)
    clear hemp
    clear hr
    go_wp2_with (first
     | (go_at_call 55; refine (refIs_any _ _ _ hIs').mono ?_; rw [Ha.out, decide_eq_true hok]; rintro e w1 ⟨rfl, rfl⟩)
     | (at_builtin; refine wpList_app_b rfl (.tmp 27) (.tmp 29) rfl w.heap.size _ [] rfl hemp2 _ (bs.drop 5) rfl (HV.out ▸ HVS.out _ (Ext.alloc hE1 _)) (by simp; omega) (Ext.alloc hE1 _).size ?_; intro A5 c5 w5 ho5 hG5; have hE5 : Ext w w5 := hG5 w (Ext.alloc hE1 _) (Nat.le_refl _); simp only [List.length_nil, Nat.zero_add, List.nil_append, List.length_drop] at ho5 ⊢))
    all_goals (go_ret3; rw [Hr.out]; exact ⟨_, rfl, ho5, hE5⟩)
   ·have hr : takeLongS bs = (11, 0, []) := by rw [Ht5.out, ← Hn.out, if_neg hok]
    have Hr := Lib.hid hr
    clear hr
    go_wp2_with (go_at_call 55; refine (refIs_any _ _ _ hIs').mono ?_; rw [Ha.out, decide_eq_false hok]; rintro e w1 ⟨rfl, rfl⟩)
    go_ret3
    rw [Hr.out]
    exact ⟨_, rfl, World.ownsRow_nil _ _ _ _, hE1⟩
theorem long1_vals (n : Nat) (h : n ≤ 1073741824) : (long1 n).map bv = [.int .u8 ((n : Int) / 4294967296), .int .u8 ((n : Int) / 16777216 % 256), .int .u8 ((n : Int) / 65536 % 256), .int .u8 ((n : Int) / 256 % 256), .int .u8 ((n : Int) % 256)] := by
 simp [long1, digRec, bv]
 omega
theorem refLong_ok (v : Value) (l : List Int) (w : World) (h : Is w v l) (hn : allNum l = true) (hl : l.length ≤ 2000) : Calls Tryz.prog 80 #[v] w (LongOk w l) := by
 obtain ⟨A, c, rfl, h1, h2⟩ := SlR.open_ h
 have Hn := Lib.hid hn
 have Hi := Lib.hid h
 clear hn
 go_enter Tryz.func80, Tryz.ntmps80
 go_wp2_with (go_at_call 55; refine (refIs_any _ _ _ h).mono ?_; rw [Hn.out]; rintro e w1 ⟨rfl, rfl⟩)
 clear h
 go_loopw [4, 5, 6] (fun vb i u wr => ∃ k : Nat, k ≤ l.length ∧ i = .int .i64 k ∧ wr.ownsRow w.heap.size 5 1 vb (longs (l.take k)).length ((longs (l.take k)).map bv) ∧ Ext w wr) (fun _ i _ _ => l.length - (intOf i).toNat)
 case atStart => exact ⟨0, Nat.zero_le _, rfl, World.ownsRow_nil _ _ _ _, Ext.refl _⟩
 case round =>
  obtain ⟨k, hk, rfl, hown, hB⟩ := hrel
  by_cases hlt : k < l.length
  ·obtain ⟨_, b, off, rfl, hc⟩ := Is.at_ (Hi.out.ext hB) (by omega)
   have hc0 := hc k hlt
   obtain ⟨hn0, hn1⟩ := num_of_all Hn.out hlt
   have hsl := longs_len (l.take k)
   have htl : (l.take k).length ≤ k := List.length_take_le _ _
   have hst : longs (l.take (k + 1)) = longs (l.take k) ++ long1 l[k].toNat := longs_take hlt
   have Hst := Lib.hid hst
   clear hc hst
   obtain ⟨m, hm⟩ : ∃ m : Nat, l[k] = m := ⟨l[k].toNat, by omega⟩
   have Hm : Hid (l[k].toNat = m) := by rw [Hid, hm]; simp
   rw [hm] at hc0 hn1
   clear hm
   have hnw : Bs (wr.alloc (.cells #[.int .u8 ((m : Int) / 4294967296), .int .u8 ((m : Int) / 16777216 % 256), .int .u8 ((m : Int) / 65536 % 256), .int .u8 ((m : Int) / 256 % 256), .int .u8 ((m : Int) % 256)] 5)) (.slice (some ⟨wr.heap.size, 0, none⟩) 5 5) (long1 m) := by
    have h5 := SlR.of_own (own_new wr ((long1 m).map bv) 5 5 (by rw [List.length_map, long1_len]) (by simp [maxLen]) (Nat.le_refl _))
    rw [long1_vals m (by omega)] at h5
    unfold Bs
    rw [long1_len, long1_vals m (by omega)]
    exact h5
   have hE1 : Ext w (wr.alloc (.cells #[.int .u8 ((m : Int) / 4294967296), .int .u8 ((m : Int) / 16777216 % 256), .int .u8 ((m : Int) / 65536 % 256), .int .u8 ((m : Int) / 256 % 256), .int .u8 ((m : Int) % 256)] 5)) := Ext.alloc hB _
   have hown2 := own_ext hown (Ext.alloc (Ext.refl wr) (.cells #[.int .u8 ((m : Int) / 4294967296), .int .u8 ((m : Int) / 16777216 % 256), .int .u8 ((m : Int) / 65536 % 256), .int .u8 ((m : Int) / 256 % 256), .int .u8 ((m : Int) % 256)] 5))
   rw [Hm.out] at Hst
   have Hml := Lib.hid (long1_len m)
   have Hsl := Lib.hid hsl
   clear hsl
   go_wp2_with (at_builtin; refine wpList_app_b rfl (.tmp 20) (.tmp 39) rfl w.heap.size _ (longs (l.take k)) rfl hown2 _ (long1 m) rfl hnw (by rw [Hsl.out, Hml.out]; omega) hE1.size ?_; intro A5 c5 w5 ho5 hG5; have hE5 : Ext w w5 := hG5 w hE1 (Nat.le_refl _))
   go_roundw
   case rel => exact ⟨k + 1, by omega, by go_num, by rw [Hst.out]; exact ho5, hE5⟩
   case measure => simp [intOf]; omega
  ·have hk' : l.take k = l := List.take_of_length_le (by omega)
   rw [hk'] at hown
   clear hk'
   go_wp2_with fail
   go_ret2
   exact ⟨_, rfl, hown, hB⟩
open Go.RowKit Go.Mv
set_option maxRecDepth 100000
theorem bit9_any (b : Bool) (w : World) : Calls Tryz.prog 81 #[.bool b] w fun e w' => e = .returned (.int .u8 (if b then 1 else 0)) ∧ w = w' := by
 go_enter Tryz.func81, Tryz.ntmps81
 cases b
 ·go_wp2_with fail
  go_ret
  exact ⟨rfl, rfl⟩
 ·go_wp2_with fail
  go_ret
  exact ⟨rfl, rfl⟩
theorem RText_bad (s : Sta) (w : World) (h : s.ok = false) : Calls Tryz.prog 78 #[.agg #[.int .i64 s.idx, .int .i64 s.term, .int .i64 s.sum, .int .i64 s.lvl, .bool s.fin]] w (ShortBad w) := by
 have H := Lib.hid h
 clear h
 go_enter Tryz.func78, Tryz.ntmps78
 go_wp2_with fail
 refine (Fine6_any s _).mono ?_
 rw [H.out]
 rintro e w1 ⟨rfl, hE1⟩
 go_wp2_with fail
 go_ret2
 exact ⟨rfl, Ext.trans (Ext.alloc (Ext.refl _) _) hE1⟩
theorem RText_ok (s : Sta) (w : World) (h : s.ok = true) : Calls Tryz.prog 78 #[.agg #[.int .i64 s.idx, .int .i64 s.term, .int .i64 s.sum, .int .i64 s.lvl, .bool s.fin]] w (ShortOk w s.ints) := by
 have H := Lib.hid h
 have Hn := Lib.hid (Sta.nums h)
 have Hi : Hid (s.ints = [s.idx, s.term, s.sum, s.lvl, s.finI]) := rfl
 have hfi : s.finI = 0 ∨ s.finI = 1 := by unfold Sta.finI; split <;> simp
 have hcv : IntKind.i64.wrap s.finI = s.finI := by rw [IntKind.wrap_i64]; omega
 clear h
 have hb := Blk.new w 24 #[.int .i64 s.idx, .int .i64 s.term, .int .i64 s.sum, .int .i64 s.lvl, .bool s.fin]
 go_enter Tryz.func78, Tryz.ntmps78
 go_wp2_with fail
 refine (Fine6_any s _).mono ?_
 rw [H.out]
 rintro e w1 ⟨rfl, hE1⟩
 go_wp2_with fail
 have hX : Ext w (w.alloc (.cells #[.int .i64 s.idx, .int .i64 s.term, .int .i64 s.sum, .int .i64 s.lvl, .bool s.fin] 24)) := Ext.alloc (Ext.refl _) _
 refine wp_region_held_drew (S := fun w' => w'.cell? ⟨w.heap.size, 0, none⟩ = some (.int .i64 s.idx) ∧ w'.cell? ⟨w.heap.size, 1, none⟩ = some (.int .i64 s.term) ∧ w'.cell? ⟨w.heap.size, 2, none⟩ = some (.int .i64 s.sum) ∧ w'.cell? ⟨w.heap.size, 3, none⟩ = some (.int .i64 s.lvl) ∧ w'.cell? ⟨w.heap.size, 4, none⟩ = some (.bool s.fin)) (by kernel_rfl) (blk5 (hb.ext (Ext.drew hE1))) (fun hHeld => ?_)
 refine tkL 0 rfl ?_
 try simp only [Act.put, sA, sZ, sS]
 refine tkL 1 rfl ?_
 try simp only [Act.put, sA, sZ, sS]
 refine tkL 2 rfl ?_
 try simp only [Act.put, sA, sZ, sS]
 refine tkL 3 rfl ?_
 try simp only [Act.put, sA, sZ, sS]
 refine tkL 4 rfl ?_
 try simp only [Act.put, sA, sZ, sS]
 refine tkL 5 rfl ?_
 try simp only [Act.put, sA, sZ, sS]
 refine tkL 6 rfl ?_
 try simp only [Act.put, sA, sZ, sS]
 refine tkL 7 rfl ?_
 try simp only [Act.put, sA, sZ, sS]
 refine tkL 8 rfl ?_
 try simp only [Act.put, sA, sZ, sS]
 refine tkL 9 rfl ?_
 try simp only [Act.put, sA, sZ, sS]
 refine AllReadyH.one (i := 10) rfl (by kernel_rfl) (by rfl) (fun K hK => ?_)
 go_simp
 refine (bit9_any s.fin _).mono ?_
 rw [show (if s.fin = true then (1 : Int) else 0) = s.finI from rfl]
 rintro e w2 ⟨rfl, rfl⟩
 have hE02 : Ext (w.alloc (.cells #[.int .i64 s.idx, .int .i64 s.term, .int .i64 s.sum, .int .i64 s.lvl, .bool s.fin] 24)) w1.drew := Ext.drew hE1
 try (go_wp2_with fail)
 refine hK.out _ _ (blk5 (hb.ext hE02)) (fun hHeld => ?_)
 clear hK K
 try simp only [Act.put, sA, sZ, sS]
 refine tkL 11 rfl ?_
 try simp only [Act.put, sA, sZ, sS]
 refine AllReadyH.one (i := 12) rfl (by kernel_rfl) (by rfl) (fun K hK => ?_)
 go_simp
 have hE03 : Ext (w.alloc (.cells #[.int .i64 s.idx, .int .i64 s.term, .int .i64 s.sum, .int .i64 s.lvl, .bool s.fin] 24)) (w1.alloc (.cells #[.int .i64 s.idx, .int .i64 s.term, .int .i64 s.sum, .int .i64 s.lvl, .int .i64 s.finI] 3)).drew := Ext.drew (Ext.alloc hE1 _)
 refine hK.out _ _ (blk5 (hb.ext hE03)) (fun hHeld => ?_)
 clear hK K
 try simp only [Act.put, sA, sZ, sS]
 refine AllReadyH.one (i := 13) rfl (by kernel_rfl) (by rfl) (fun K hK => ?_)
 go_simp
 refine (refShort_ok _ _ _ ((is5 w1 s.idx s.term s.sum s.lvl s.finI).ext (Ext.drew (Ext.refl _))) (by rw [← Hi.out]; exact Hn.out) (by simp)).mono ?_
 rw [← Hi.out]
 rintro e w4 ⟨v, rfl, ho, hE4⟩
 try (go_wp2_with fail)
 have hE04 := Ext.trans hE03 hE4
 refine hK.out _ _ (blk5 (hb.ext hE04)) (fun hHeld => ?_)
 clear hK K
 try simp only [Act.put, sA, sZ, sS]
 refine tkL 14 rfl ?_
 try simp only [Act.put, sA, sZ, sS]
 refine tkL 15 rfl ?_
 try simp only [Act.put, sA, sZ, sS]
 refine tkL 16 rfl ?_
 try simp only [Act.put, sA, sZ, sS]
 refine tkL 17 rfl ?_
 try simp only [Act.put, sA, sZ, sS]
 refine wpAnyH_done (by kernel_rfl) ?_ _
 go_wp2_with fail
 go_ret2
 exact ⟨v, rfl, own_base ho (Ext.trans hX hE03).size, Ext.trans hX hE04⟩
theorem RPieces_any (v : Value) (t : List UInt8) (w : World) (ht : Bs w v t) (hlen : t.length ≤ 100000) : Calls Tryz.prog 79 #[v] w (CloneP w (piecesS (0, 0) t)) := by
 obtain ⟨A, c, rfl, h1, h2⟩ := SlR.open_ ht
 obtain ⟨i0, hi, hz0, hz1, hz2⟩ := info_parts info_u8
 have HT := Lib.hid ht
 clear ht
 go_enter Tryz.func79, Tryz.ntmps79
 go_wp2_with fail
 go_loopw [3, 4, 5] (fun vo vz x W => ∃ (k : Nat) (Ao : Option Addr) (co : Nat) (out : List UInt8) (za zb : Nat) (z : Nat × Nat), k ≤ t.length + 3 ∧ x = .int .i64 k ∧ vo = .slice Ao out.length co ∧ vz = .complex .f64 za zb ∧ Hid (PtV (.complex .f64 za zb) z) ∧ Hid (out ++ piecesS z (t.drop k) = piecesS (0, 0) t) ∧ out.length ≤ 2 * k ∧ Hid (OwnB W w.heap.size (.slice Ao out.length co) out) ∧ Ext w W) (fun _ _ x _ => t.length + 4 - (intOf x).toNat)
 case atStart => exact ⟨0, none, 0, [], 0, 0, (0, 0), by omega, rfl, rfl, rfl, Lib.hid PtV.zero, Lib.hid (by simp), by simp, Lib.hid (World.ownsRow_nil _ _ _ _), Ext.refl _⟩
 case round =>
  obtain ⟨k, Ao, co, out, za, zb, z, hk, rfl, rfl, rfl, HZ, HP, hol, HO, hEr⟩ := hrel
  by_cases hlt : k < t.length
  ·obtain ⟨_, b, off, rfl, _⟩ := Bs.at_ (HT.out.ext hEr) (by omega)
   obtain ⟨m, hm⟩ : ∃ m, min (k + 4) t.length = m := ⟨_, rfl⟩
   have hmz : min ((k : Int) + 4) (t.length : Int) = (m : Int) := by omega
   have hm1 : (k : Int) ≤ (m : Int) := by omega
   have hm2 : (m : Int) ≤ (t.length : Int) := by omega
   have hm3 : (m : Int) ≤ (c : Int) := by omega
   have hkc : ¬ c = k := by omega
   have hlz : (k : Int) < (t.length : Int) := by omega
   have hw4 : IntKind.i64.wrap ((k : Int) + 4) = (k : Int) + 4 := by rw [IntKind.wrap_i64]; omega
   obtain ⟨n, hn⟩ : ∃ n, m - k = n := ⟨_, rfl⟩
   have hcut := Bs.take (Bs.cut HT.out k (by omega) rfl) n (by rw [List.length_drop]; omega)
   obtain ⟨q, hq⟩ : ∃ q, (t.drop k).take n = q := ⟨_, rfl⟩
   have hq4 : (t.drop k).take 4 = q := by
    rw [← hq]
    by_cases h4 : n = 4
    ·rw [h4]
    ·rw [List.take_of_length_le (by rw [List.length_drop]; omega), List.take_of_length_le (by rw [List.length_drop]; omega)]
   have hql : q.length = n := by rw [← hq, List.length_take, List.length_drop]; omega
   have hst : out ++ (q ++ (fourB (chainP z q) ++ piecesS (chainP z q) (t.drop (k + 4)))) = piecesS (0, 0) t := by
    rw [← HP.out, piecesS_cons z (t.drop k) (by rw [List.length_drop]; omega), hq4, List.drop_drop]
   rw [hq] at hcut
   have Hcut := Lib.hid hcut
   have Hst := Lib.hid hst
   have HEr := Lib.hid hEr
   have hn1 : 1 ≤ n := by omega
   have hn4 : n ≤ 4 := by omega
   have hZ0 := HZ.out.pt
   have HZ0 := Lib.hid hZ0
   clear hcut hst hq hq4 HP hEr hZ0
   go_wp2_with fail
   all_goals first | rw [show ((k : Int) + 4).toNat - k = n by omega] | rw [show t.length - k = n by omega]
   all_goals refine (refChain_any za zb _ _ _ (parts1 (Hcut.out.ext HEr.out))).mono ?_
   ·rintro e w2 ⟨vz, rfl, hpz, rfl⟩
    rw [show [q].flatten = q from by simp, HZ0.out] at hpz
    have HPZ := Lib.hid hpz
    have hpt := hpz.pt
    obtain ⟨a1, b1, rfl, _, _⟩ := hpz
    obtain ⟨f0, f1, f2, f3, hf⟩ : ∃ f0 f1 f2 f3 : UInt8, fourB (chainP z q) = [f0, f1, f2, f3] := ⟨_, _, _, _, rfl⟩
    have Hf := Lib.hid hf
    have HF : Hid (∀ W, Calls Tryz.prog 97 #[.complex .f64 a1 b1] W fun e w' => e = .returned (.agg #[.int .u8 f0.toNat, .int .u8 f1.toNat, .int .u8 f2.toNat, .int .u8 f3.toNat]) ∧ Ext W w') := by
     intro W
     refine (refFour_any a1 b1 W).mono ?_
     rintro e w' ⟨rfl, hE⟩
     exact ⟨by rw [hpt, hf]; rfl, hE⟩
    clear hf hpt
    go_wp2_with fail
    refine (HF.out _).mono ?_
    rintro e w3 ⟨rfl, hE3⟩
    go_wp2_with fail
    have hE03 : Ext wr (w3.alloc (.cells #[.int .u8 (f0.toNat : Int), .int .u8 (f1.toNat : Int), .int .u8 (f2.toNat : Int), .int .u8 (f3.toNat : Int)] 111)) := Ext.alloc (Ext.trans (Ext.alloc (Ext.refl _) _) hE3) _
    have hb3 : Blk (w3.alloc (.cells #[.int .u8 (f0.toNat : Int), .int .u8 (f1.toNat : Int), .int .u8 (f2.toNat : Int), .int .u8 (f3.toNat : Int)] 111)) w3.heap.size 111 ([f0, f1, f2, f3].map bv).toArray := Blk.new w3 _ _
    generalize hW4 : w3.alloc (.cells #[.int .u8 (f0.toNat : Int), .int .u8 (f1.toNat : Int), .int .u8 (f2.toNat : Int), .int .u8 (f3.toNat : Int)] 111) = w4 at *
    clear hW4
    have X4 := Ext.trans HEr.out hE03
    have HX4 := Lib.hid X4
    refine wp_region_held_drew (S := fun _ => True) (by kernel_rfl) trivial (fun hHeld => ?_)
    refine tkL 0 rfl ?_
    try simp only [Act.put, sA, sZ, sS]
    refine tkL 1 rfl ?_
    try simp only [Act.put, sA, sZ, sS]
    refine tkL 3 rfl ?_
    try simp only [Act.put, sA, sZ, sS]
    refine AllReadyH.one (i := 2) rfl (by kernel_rfl) (by rfl) (fun K hK => ?_)
    refine wp_append_sl _ (.tmp 28) (.tmp 29) 43 (by rfl) w.heap.size 5 i0 (.int .u8 0) 1 1 Tryz.underlying43 hi hz0 hz1 hz2 rfl (by decide) _ out.length (out.map bv) (by rfl) (own_ext (own_ext HO.out hE03) (Ext.drew (Ext.refl _))) _ q.length (q.map bv) (by rfl) (Hcut.out.ext (Ext.drew X4)) (one_bv _) (by unfold maxLen; omega) (by omega) (Ext.drew X4).size ?_
    intro v5 w5 ho5 hg5
    have hown4 := own_ext (own_ext HO.out hE03) (Ext.drew (Ext.refl w4))
    have hb5 := (hb3.ext (Ext.drew (Ext.refl _))).kept hg5 ((hb3.ext (Ext.drew (Ext.refl _))).not_row (by decide) hown4)
    have X5 : Ext w w5 := Ext.grownOwn (Ext.drew X4) hown4 hg5
    refine hK.out _ _ trivial (fun hHeld => ?_)
    clear hK K
    try simp only [Act.put, sA, sZ, sS]
    refine AllReadyH.one (i := 4) rfl (by kernel_rfl) (by rfl) (fun K hK => ?_)
    refine wp_append_sl _ (.tmp 30) (.tmp 31) 43 (by rfl) w.heap.size 5 i0 (.int .u8 0) 1 1 Tryz.underlying43 hi hz0 hz1 hz2 rfl (by decide) _ (out.length + q.length) _ (by rfl) ho5 _ 4 ([f0, f1, f2, f3].map bv) (by rfl) (blk_slice hb5 rfl (by simp [maxLen])) (one_bv _) (by unfold maxLen; omega) (by omega) X5.size ?_
    intro v6 w6 ho6 hg6
    have X6 : Ext w w6 := Ext.grownOwn X5 ho5 hg6
    refine hK.out _ _ trivial (fun hHeld => ?_)
    clear hK K
    try simp only [Act.put, sA, sZ, sS]
    refine tkL 5 rfl ?_
    try simp only [Act.put, sA, sZ, sS]
    refine wpAnyH_done (by kernel_rfl) ?_ _
    obtain ⟨A6, c6, rfl, _, _⟩ := SlR.open_ (SlR.of_own ho6)
    have hl6 : out.length + q.length + 4 = (out ++ q ++ [f0, f1, f2, f3]).length := by simp; try omega
    have ho6' : OwnB w6 w.heap.size (.slice A6 (out.length + q.length + 4) c6) (out ++ q ++ [f0, f1, f2, f3]) := by
     unfold OwnB
     rw [← hl6, List.map_append, List.map_append]
     exact ho6
    have Ho6 := Lib.hid ho6'
    clear ho6 ho6' ho5 hown4 hb5 hb3 hg5 hg6 X4 X5 hE3 hE03
    go_wp2_with fail
    go_roundw
    case rel =>
     refine ⟨k + 4, A6, c6, out ++ q ++ [f0, f1, f2, f3], a1, b1, chainP z q, by omega, by go_num, by rw [hl6], rfl, HPZ, Lib.hid ?_, by rw [← hl6]; omega, by rw [← hl6]; exact Ho6, X6⟩
     rw [← Hst.out, Hf.out]
     simp
    case measure => simp [intOf]; omega
   ·rintro e w2 ⟨vz, rfl, hpz, rfl⟩
    rw [show [q].flatten = q from by simp, HZ0.out] at hpz
    have HPZ := Lib.hid hpz
    have hpt := hpz.pt
    obtain ⟨a1, b1, rfl, _, _⟩ := hpz
    obtain ⟨f0, f1, f2, f3, hf⟩ : ∃ f0 f1 f2 f3 : UInt8, fourB (chainP z q) = [f0, f1, f2, f3] := ⟨_, _, _, _, rfl⟩
    have Hf := Lib.hid hf
    have HF : Hid (∀ W, Calls Tryz.prog 97 #[.complex .f64 a1 b1] W fun e w' => e = .returned (.agg #[.int .u8 f0.toNat, .int .u8 f1.toNat, .int .u8 f2.toNat, .int .u8 f3.toNat]) ∧ Ext W w') := by
     intro W
     refine (refFour_any a1 b1 W).mono ?_
     rintro e w' ⟨rfl, hE⟩
     exact ⟨by rw [hpt, hf]; rfl, hE⟩
    clear hf hpt
    go_wp2_with fail
    refine (HF.out _).mono ?_
    rintro e w3 ⟨rfl, hE3⟩
    go_wp2_with fail
    have hE03 : Ext wr (w3.alloc (.cells #[.int .u8 (f0.toNat : Int), .int .u8 (f1.toNat : Int), .int .u8 (f2.toNat : Int), .int .u8 (f3.toNat : Int)] 111)) := Ext.alloc (Ext.trans (Ext.alloc (Ext.refl _) _) hE3) _
    have hb3 : Blk (w3.alloc (.cells #[.int .u8 (f0.toNat : Int), .int .u8 (f1.toNat : Int), .int .u8 (f2.toNat : Int), .int .u8 (f3.toNat : Int)] 111)) w3.heap.size 111 ([f0, f1, f2, f3].map bv).toArray := Blk.new w3 _ _
    generalize hW4 : w3.alloc (.cells #[.int .u8 (f0.toNat : Int), .int .u8 (f1.toNat : Int), .int .u8 (f2.toNat : Int), .int .u8 (f3.toNat : Int)] 111) = w4 at *
    clear hW4
    have X4 := Ext.trans HEr.out hE03
    have HX4 := Lib.hid X4
    refine wp_region_held_drew (S := fun _ => True) (by kernel_rfl) trivial (fun hHeld => ?_)
    refine tkL 0 rfl ?_
    try simp only [Act.put, sA, sZ, sS]
    refine tkL 1 rfl ?_
    try simp only [Act.put, sA, sZ, sS]
    refine tkL 3 rfl ?_
    try simp only [Act.put, sA, sZ, sS]
    refine AllReadyH.one (i := 2) rfl (by kernel_rfl) (by rfl) (fun K hK => ?_)
    refine wp_append_sl _ (.tmp 28) (.tmp 29) 43 (by rfl) w.heap.size 5 i0 (.int .u8 0) 1 1 Tryz.underlying43 hi hz0 hz1 hz2 rfl (by decide) _ out.length (out.map bv) (by rfl) (own_ext (own_ext HO.out hE03) (Ext.drew (Ext.refl _))) _ q.length (q.map bv) (by rfl) (Hcut.out.ext (Ext.drew X4)) (one_bv _) (by unfold maxLen; omega) (by omega) (Ext.drew X4).size ?_
    intro v5 w5 ho5 hg5
    have hown4 := own_ext (own_ext HO.out hE03) (Ext.drew (Ext.refl w4))
    have hb5 := (hb3.ext (Ext.drew (Ext.refl _))).kept hg5 ((hb3.ext (Ext.drew (Ext.refl _))).not_row (by decide) hown4)
    have X5 : Ext w w5 := Ext.grownOwn (Ext.drew X4) hown4 hg5
    refine hK.out _ _ trivial (fun hHeld => ?_)
    clear hK K
    try simp only [Act.put, sA, sZ, sS]
    refine AllReadyH.one (i := 4) rfl (by kernel_rfl) (by rfl) (fun K hK => ?_)
    refine wp_append_sl _ (.tmp 30) (.tmp 31) 43 (by rfl) w.heap.size 5 i0 (.int .u8 0) 1 1 Tryz.underlying43 hi hz0 hz1 hz2 rfl (by decide) _ (out.length + q.length) _ (by rfl) ho5 _ 4 ([f0, f1, f2, f3].map bv) (by rfl) (blk_slice hb5 rfl (by simp [maxLen])) (one_bv _) (by unfold maxLen; omega) (by omega) X5.size ?_
    intro v6 w6 ho6 hg6
    have X6 : Ext w w6 := Ext.grownOwn X5 ho5 hg6
    refine hK.out _ _ trivial (fun hHeld => ?_)
    clear hK K
    try simp only [Act.put, sA, sZ, sS]
    refine tkL 5 rfl ?_
    try simp only [Act.put, sA, sZ, sS]
    refine wpAnyH_done (by kernel_rfl) ?_ _
    obtain ⟨A6, c6, rfl, _, _⟩ := SlR.open_ (SlR.of_own ho6)
    have hl6 : out.length + q.length + 4 = (out ++ q ++ [f0, f1, f2, f3]).length := by simp; try omega
    have ho6' : OwnB w6 w.heap.size (.slice A6 (out.length + q.length + 4) c6) (out ++ q ++ [f0, f1, f2, f3]) := by
     unfold OwnB
     rw [← hl6, List.map_append, List.map_append]
     exact ho6
    have Ho6 := Lib.hid ho6'
    clear ho6 ho6' ho5 hown4 hb5 hb3 hg5 hg6 X4 X5 hE3 hE03
    go_wp2_with fail
    go_roundw
    case rel =>
     refine ⟨k + 4, A6, c6, out ++ q ++ [f0, f1, f2, f3], a1, b1, chainP z q, by omega, by go_num, by rw [hl6], rfl, HPZ, Lib.hid ?_, by rw [← hl6]; omega, by rw [← hl6]; exact Ho6, X6⟩
     rw [← Hst.out, Hf.out]
     simp
    case measure => simp [intOf]; omega
  ·have hfin : out = piecesS (0, 0) t := by
    rw [← HP.out, List.drop_of_length_le (by omega), piecesS_nil, List.append_nil]
   have HOf := HO.out
   rw [hfin] at HOf
   have hll : out.length = (piecesS (0, 0) t).length := by rw [hfin]
   have HOff := Lib.hid HOf
   have Hll := Lib.hid hll
   clear HOf hfin hll HP HO
   go_wp2_with fail
   go_ret
   exact ⟨_, rfl, by rw [Hll.out]; exact HOff.out, hEr⟩
open Go.RowKit Go.Mv
set_option maxRecDepth 100000
theorem RPut_bad (s : Sta) (f : Int) (w : World) (h : s.ok = false ∨ (f ≠ 1 ∧ f ≠ 2)) : Calls Tryz.prog 63 #[.agg #[.int .i64 s.idx, .int .i64 s.term, .int .i64 s.sum, .int .i64 s.lvl, .bool s.fin], .int .i64 f] w (ShortBad w) := by
 have hX : Ext w (w.alloc (.cells #[.int .i64 s.idx, .int .i64 s.term, .int .i64 s.sum, .int .i64 s.lvl, .bool s.fin] 24)) := Ext.alloc (Ext.refl _) _
 have H := Lib.hid h
 clear h
 obtain ⟨ok, hok⟩ : ∃ x, s.ok = x := ⟨_, rfl⟩
 cases ok
 ·have Ho := Lib.hid hok
  clear hok
  go_enter Tryz.func63, Tryz.ntmps63
  go_wp2_with fail
  refine (RText_bad s _ Ho.out).mono ?_
  rintro e w1 ⟨rfl, hE1⟩
  go_wp2_with fail
  go_ret2
  exact ⟨rfl, Ext.trans hX hE1⟩
 ·have Ho := Lib.hid hok
  have h12 := H.out.resolve_left (by rw [hok]; simp)
  obtain ⟨e1, e2⟩ := h12
  have b1 : (f != 1) = true := by simpa using e1
  have b2 : (f != 2) = true := by simpa using e2
  clear hok H
  go_enter Tryz.func63, Tryz.ntmps63
  go_wp2_with fail
  refine (RText_ok s _ Ho.out).mono ?_
  rintro e w1 ⟨v, rfl, ho, hE1⟩
  go_wp2_with fail
  go_ret2
  exact ⟨rfl, Ext.trans hX hE1⟩
theorem RPut_two (s : Sta) (w : World) (h : s.ok = true) : Calls Tryz.prog 63 #[.agg #[.int .i64 s.idx, .int .i64 s.term, .int .i64 s.sum, .int .i64 s.lvl, .bool s.fin], .int .i64 2] w (PutP w (put2 s)) := by
 obtain ⟨t, ht⟩ : ∃ t, shorts s.ints = t := ⟨_, rfl⟩
 have hl25 : t.length ≤ 25 := by subst ht; exact shorts_len s.ints
 have Hok := Lib.hid h
 have Ht := Lib.hid ht
 have Hl : Hid (t.length ≤ 25) := hl25
 obtain ⟨yn, hyn⟩ : ∃ x, UInt8.ofNat ((t.length + 3) / 4) = x := ⟨_, rfl⟩
 have Hy : Hid (wrap64 ((wrap64 ((t.length : Int) + 3)).tdiv 4) % 256 = (yn.toNat : Int)) := by
  have e1 : wrap64 ((t.length : Int) + 3) = ((t.length + 3 : Nat) : Int) := by unfold wrap64; omega
  have e2 : ((t.length + 3 : Nat) : Int).tdiv 4 = (((t.length + 3) / 4 : Nat) : Int) := rfl
  have e3 : wrap64 (((t.length + 3) / 4 : Nat) : Int) = (((t.length + 3) / 4 : Nat) : Int) := by unfold wrap64; omega
  rw [Hid, e1, e2, e3, ← hyn]
  simp
 have Hp2 : Hid (put2 s = [2, yn] ++ piecesS (0, 0) t) := by rw [Hid, put2, ht, hyn]; rfl
 clear h ht hl25 hyn
 have hX : Ext w (w.alloc (.cells #[.int .i64 s.idx, .int .i64 s.term, .int .i64 s.sum, .int .i64 s.lvl, .bool s.fin] 24)) := Ext.alloc (Ext.refl _) _
 go_enter Tryz.func63, Tryz.ntmps63
 go_wp2_with fail
 refine (RText_ok s _ Hok.out).mono ?_
 rintro e w1 ⟨v, rfl, ho, hE1⟩
 rw [Ht.out] at ho
 obtain ⟨Av, cv, rfl, -, -⟩ := SlR.open_ (SlR.of_own ho)
 go_wp2_with fail
 first | rw [Hy.out] | (trace_state; fail)
 have hE01 : Ext w w1 := Ext.trans hX hE1
 have ho16 := own_new w1 [bv 2, bv yn] 5 2 rfl (by simp [maxLen]) hE01.size
 have hp16 : OwnB (w1.alloc (.cells #[bv 2, bv yn] 5)) w.heap.size (.slice (some ⟨w1.heap.size, 0, none⟩) 2 2) [2, yn] := ho16
 refine (RPieces_any _ t _ (Bs.ext (SlR.of_own ho) (Ext.alloc (Ext.refl _) _)) (by have := Hl.out; omega)).mono ?_
 rintro e w3 ⟨v3, rfl, ho3, hE3⟩
 have hE23 : Ext w w3 := Ext.trans (Ext.alloc hE01 _) hE3
 have hpl := piecesS_len (0, 0) t
 have Hpl : Hid ((piecesS (0, 0) t).length ≤ 100) := by have := Hl.out; rw [Hid]; omega
 clear hpl
 go_wp2_with (
  refine wpList_app_b rfl (.tmp 32) (.tmp 34) rfl w.heap.size _ [2, yn] rfl (OwnB.ext hp16 hE3) _ (piecesS (0, 0) t) rfl (SlR.of_own ho3) (by have := Hpl.out; simp; omega) hE23.size ?_
  intro A4 c4 w4 ho4 hg4)
 go_ret2
 have hE4 := hg4 w hE23 (Nat.le_refl _)
 have e1 : put2 s = [2, yn] ++ piecesS (0, 0) t := Hp2.out
 have e2 : (put2 s).length = ([2, yn] : List UInt8).length + (piecesS (0, 0) t).length := by rw [e1, List.length_append]
 refine ⟨A4, c4, ?_, ?_, hE4⟩
 ·rw [e2]; rfl
 ·rw [e2, e1]; exact ho4
theorem RPut_one (s : Sta) (w : World) (h : s.ok = true) : Calls Tryz.prog 63 #[.agg #[.int .i64 s.idx, .int .i64 s.term, .int .i64 s.sum, .int .i64 s.lvl, .bool s.fin], .int .i64 1] w (PutP w (put1 s)) := by
 have Hok := Lib.hid h
 have Hn : Hid (allNum [s.idx, s.term, s.sum] = true) := by
  obtain ⟨h1, h2, h3, _⟩ := Sta.okP h
  exact by simp [Hid, allNum, h1, h2, h3]
 obtain ⟨xl, hxl⟩ : ∃ x, UInt8.ofNat s.lvl.toNat = x := ⟨_, rfl⟩
 obtain ⟨xf, hxf⟩ : ∃ x, UInt8.ofNat s.finI.toNat = x := ⟨_, rfl⟩
 have hwl : IntKind.u8.wrap s.lvl = (xl.toNat : Int) := by subst hxl; rcases (Sta.okP h).2.2.2 with e | e <;> rw [e] <;> rfl
 have hwf : s.finI = (xf.toNat : Int) := by subst hxf; rcases s.finP with e | e <;> rw [e] <;> rfl
 have Hps : Hid (put1 s = crcPut rT (1 :: (longs [s.idx, s.term, s.sum] ++ [xl, xf]))) := by subst hxl; subst hxf; rfl
 clear h hxl hxf
 obtain ⟨i0, hi, hz0, hz1, hz2⟩ := info_parts info_u8
 have hb := Blk.new w 24 #[.int .i64 s.idx, .int .i64 s.term, .int .i64 s.sum, .int .i64 s.lvl, .bool s.fin]
 have hX : Ext w (w.alloc (.cells #[.int .i64 s.idx, .int .i64 s.term, .int .i64 s.sum, .int .i64 s.lvl, .bool s.fin] 24)) := Ext.alloc (Ext.refl _) _
 go_enter Tryz.func63, Tryz.ntmps63
 go_wp2_with fail
 refine (RText_ok s _ Hok.out).mono ?_
 rintro e w1 ⟨v, rfl, ho, hE1⟩
 have hb1 := hb.ext hE1
 obtain ⟨g0, g1, g2, g3, g4⟩ := blk5 hb1
 have E1 := Ext.trans hX hE1
 clear ho
 go_wp2_with fail
 refine (refLong_ok _ _ _ (is3i w1 s.idx s.term s.sum) Hn.out (by simp)).mono ?_
 rintro e w2 ⟨v2, rfl, ho2, hE2⟩
 obtain ⟨L, hL⟩ : ∃ L, longs [s.idx, s.term, s.sum] = L := ⟨_, rfl⟩
 have hLl : L.length = 15 := by rw [← hL]; simp [longs_len]
 rw [hL, hLl] at ho2
 have HL := Lib.hid hL
 rw [hL] at Hps
 have HLl := Lib.hid hLl
 have hLb : Bs w2 v2 L := by unfold Bs; rw [hLl]; exact SlR.of_own ho2
 have HLb := Lib.hid hLb
 have hE12 : Ext w1 w2 := Ext.trans (Ext.alloc (Ext.refl _) _) hE2
 have hb2 := hb1.ext hE12
 have Hb2 := Lib.hid hb2
 have HX2 := Lib.hid (Ext.trans E1 hE12)
 have hc3 : w2.cell? ⟨w.heap.size, 3, none⟩ = some (.int .i64 s.lvl) := hb2.cell 3 rfl
 have hc4 : w2.cell? ⟨w.heap.size, 4, none⟩ = some (.bool s.fin) := hb2.cell 4 rfl
 obtain ⟨A2, c2, rfl, -, -⟩ := SlR.open_ (SlR.of_own ho2)
 clear g0 g1 g2 g3 g4 hL hLl hLb hb1 hb2 hb ho2 hE2
 go_wp2_with fail
 refine wp_region_held_drew (S := fun W => W.cell? ⟨w.heap.size, 3, none⟩ = some (.int .i64 s.lvl) ∧ W.cell? ⟨w.heap.size, 4, none⟩ = some (.bool s.fin)) (by kernel_rfl) ⟨hc3, hc4⟩ (fun hHeld => ?_)
 refine tkL 1 rfl ?_
 try simp only [Act.put, sA, sZ, sS]
 refine tkL 3 rfl ?_
 try simp only [Act.put, sA, sZ, sS]
 refine tkL 4 rfl ?_
 try simp only [Act.put, sA, sZ, sS]
 refine tkL 5 rfl ?_
 try simp only [Act.put, sA, sZ, sS]
 refine tkL 6 rfl ?_
 try simp only [Act.put, sA, sZ, sS]
 refine tkL 7 rfl ?_
 try simp only [Act.put, sA, sZ, sS]
 refine AllReadyH.one (i := 0) rfl (by kernel_rfl) (by rfl) (fun K hK => ?_)
 go_simp
 have X3 : Ext w2 (w2.alloc (.cells #[.int .u8 1] 5)).drew := Ext.drew (Ext.alloc (Ext.refl _) _)
 have hon3 : (w2.alloc (.cells #[.int .u8 1] 5)).drew.ownsRow w2.heap.size 5 1 (.slice (some ⟨w2.heap.size, 0, none⟩) 1 1) 1 ([1].map bv) := own_ext (own_new w2 [.int .u8 1] 5 1 rfl (by simp [maxLen]) (Nat.le_refl _)) (Ext.drew (Ext.refl _))
 refine hK.out _ _ ⟨X3.cell hc3, X3.cell hc4⟩ (fun hHeld => ?_)
 clear hK K
 try simp only [Act.put, sA, sZ, sS]
 refine AllReadyH.one (i := 2) rfl (by kernel_rfl) (by rfl) (fun K hK => ?_)
 refine wp_append_sl _ (.tmp 47) (.tmp 48) 43 (by rfl) w2.heap.size 5 i0 (.int .u8 0) 1 1 Tryz.underlying43 hi hz0 hz1 hz2 rfl (by decide) _ 1 ([1].map bv) (by rfl) hon3 _ L.length (L.map bv) (by rfl) (HLb.out.ext X3) (one_bv _) (by rw [HLl.out]; simp [maxLen]) (by rw [HLl.out]; omega) X3.size ?_
 intro v4 w4 ho4 hg4
 have X4 : Ext w2 w4 := Ext.grownOwn X3 hon3 hg4
 refine hK.out _ _ ⟨X4.cell hc3, X4.cell hc4⟩ (fun hHeld => ?_)
 clear hK K
 try simp only [Act.put, sA, sZ, sS]
 refine AllReadyH.one (i := 8) rfl (by kernel_rfl) (by rfl) (fun K hK => ?_)
 go_simp
 refine (bit9_any s.fin _).mono ?_
 rw [show (if s.fin = true then (1 : Int) else 0) = (xf.toNat : Int) from hwf]
 rintro e w5 ⟨rfl, rfl⟩
 try (go_wp2_with fail)
 refine hK.out _ _ ⟨X4.cell hc3, X4.cell hc4⟩ (fun hHeld => ?_)
 clear hK K
 try simp only [Act.put, sA, sZ, sS]
 refine AllReadyH.one (i := 9) rfl (by kernel_rfl) (by rfl) (fun K hK => ?_)
 go_simp
 have X5 : Ext w2 (w4.alloc (.cells #[bv xl, bv xf] 5)) := Ext.alloc X4 _
 refine hK.out _ _ ⟨X5.cell hc3, X5.cell hc4⟩ (fun hHeld => ?_)
 clear hK K
 try simp only [Act.put, sA, sZ, sS]
 refine AllReadyH.one (i := 10) rfl (by kernel_rfl) (by rfl) (fun K hK => ?_)
 refine wp_append_sl _ (.tmp 49) (.tmp 56) 43 (by rfl) w2.heap.size 5 i0 (.int .u8 0) 1 1 Tryz.underlying43 hi hz0 hz1 hz2 rfl (by decide) _ (1 + L.length) _ (by rfl) (own_ext ho4 (Ext.alloc (Ext.refl _) _)) _ 2 ([xl, xf].map bv) (by rfl) (bs2 w4 xl xf) (one_bv _) (by rw [HLl.out]; simp [maxLen]) (by rw [HLl.out]; omega) X5.size ?_
 intro v6 w6 ho6 hg6
 have X6 : Ext w2 w6 := Ext.grownOwn X5 (own_ext ho4 (Ext.alloc (Ext.refl _) _)) hg6
 refine hK.out _ _ ⟨X6.cell hc3, X6.cell hc4⟩ (fun hHeld => ?_)
 clear hK K
 try simp only [Act.put, sA, sZ, sS]
 have hl6 : 1 + L.length + 2 = (1 :: (L ++ [xl, xf])).length := by simp; omega
 have hb6 : Bs w6 v6 (1 :: (L ++ [xl, xf])) := by
  unfold Bs
  rw [← hl6]
  have := SlR.of_own ho6
  simpa using this
 refine AllReadyH.one (i := 11) rfl (by kernel_rfl) (by rfl) (fun K hK => ?_)
 go_simp
 refine (refPut_any _ _ _ hb6 (by rw [← hl6, HLl.out]; omega)).mono ?_
 rintro e w7 ⟨A7, c7, rfl, ho7, hE7⟩
 try (go_wp2_with fail)
 have X7 := Ext.trans X6 hE7
 refine hK.out _ _ ⟨X7.cell hc3, X7.cell hc4⟩ (fun hHeld => ?_)
 clear hK K
 try simp only [Act.put, sA, sZ, sS]
 refine tkL 12 rfl ?_
 try simp only [Act.put, sA, sZ, sS]
 refine tkL 13 rfl ?_
 try simp only [Act.put, sA, sZ, sS]
 refine wpAnyH_done (by kernel_rfl) ?_ _
 have ho7' := own_base ho7 (Ext.trans HX2.out X6).size
 rw [← Hps.out] at ho7'
 have hfl : (crcPut rT (1 :: (L ++ [xl, xf]))).length = (put1 s).length := by rw [Hps.out]
 rw [hfl]
 have HX7 := Lib.hid (Ext.trans HX2.out X7)
 have HO7 := Lib.hid ho7'
 clear ho7' ho7 hfl hb6 hl6 ho6 ho4 Hps
 go_wp2_with fail
 go_ret2
 exact ⟨A7, c7, rfl, HO7.out, HX7.out⟩
theorem RPut_any (s : Sta) (f : Int) (w : World) : Calls Tryz.prog 63 #[.agg #[.int .i64 s.idx, .int .i64 s.term, .int .i64 s.sum, .int .i64 s.lvl, .bool s.fin], .int .i64 f] w (PutQ w (putR s f)) := by
 unfold putR
 by_cases h : s.ok = true
 ·rw [if_pos h]
  by_cases h1 : f = 1
  ·subst h1; exact RPut_one s w h
  ·rw [if_neg h1]
   by_cases h2 : f = 2
   ·subst h2; exact RPut_two s w h
   ·rw [if_neg h2]; exact RPut_bad s f w (.inr ⟨h1, h2⟩)
 ·rw [if_neg h]; exact RPut_bad s f w (.inl (by simpa using h))
open Go.RowKit Go.Mv
set_option maxRecDepth 100000
theorem takeLong_cut (b : List UInt8) : (takeLongS (b.take 5)).1 = (takeLongS b).1 ∧ (takeLongS (b.take 5)).2.1 = (takeLongS b).2.1 := by
 by_cases h : b.length < 5
 ·rw [List.take_of_length_le (by omega)]; exact ⟨rfl, rfl⟩
 ·unfold takeLongS
  rw [List.length_take, List.take_take, Nat.min_eq_left (by omega), Nat.min_self, if_neg (by omega), if_neg h]
  split <;> exact ⟨rfl, rfl⟩
theorem longsGo_step (k : Nat) (acc : List Int) (b : List UInt8) : longsGo (k + 1) acc b = if (takeLongS b).1 = 0 then longsGo k (acc ++ [((takeLongS b).2.1 : Int)]) (b.drop 5) else none := by
 rw [longsGo, (takeLong_cut b).1, (takeLong_cut b).2]
def RStP (w : World) (r : Option Sta) (e : Ending) (w' : World) : Prop := e = .returned (.tuple #[.agg #[.int .i64 (r.getD staZ).idx, .int .i64 (r.getD staZ).term, .int .i64 (r.getD staZ).sum, .int .i64 (r.getD staZ).lvl, .bool (r.getD staZ).fin], .bool r.isSome]) ∧ Ext w w'
def plain9 (b : List UInt8) : Option Sta := (read1S b).map staOf
theorem plain_res (tmps : Array Value) (W : World) (b : Nat) (cs : Array Value) (u : Value) (h4 : tmps.getD 2 undef = .pointer (some ⟨b, 0, none⟩)) (h5 : tmps.getD 3 undef = u) (hb : Blk W b 24 cs) (hs : cs.size = 5) : (results Tryz.f61 tmps).run Tryz.prog W = .ok (.tuple #[.agg cs, u]) W := by
 have hl := hb.load (P := Tryz.prog) staUnder rfl (by rw [hs]; kernel_rfl)
 have h4' : tmps[2]?.getD undef = .pointer (some ⟨b, 0, none⟩) := by simpa using h4
 have h5' : tmps[3]?.getD undef = u := by simpa using h5
 simp [results, Tryz.results61, h4', h5', asAddr, hl]
theorem plain9_any (v : Value) (bs : List UInt8) (w : World) (hB : Bs w v bs) (hl : bs.length ≤ 2000000) : Calls Tryz.prog 61 #[v] w (RStP w (plain9 bs)) := by
 obtain ⟨A, c, rfl, h1, h2⟩ := SlR.open_ hB
 have hb0 := Blk.new w 24 #[.int .i64 0, .int .i64 0, .int .i64 0, .int .i64 0, .bool false]
 have hX : Ext w (w.alloc (.cells #[.int .i64 0, .int .i64 0, .int .i64 0, .int .i64 0, .bool false] 24)) := Ext.alloc (Ext.refl _) _
 obtain ⟨R, hR⟩ : ∃ R, plain9 bs = R := ⟨_, rfl⟩
 rw [hR]
 have hR' := hR
 unfold plain9 read1S at hR'
 by_cases h22 : bs.length = 22
 case neg =>
  rw [if_neg h22] at hR'
  obtain rfl : none = R := hR'
  have hne : ((bs.length : Int) != 22) = true := by simp; omega
  obtain ⟨g0, g1, g2, g3, g4⟩ := blk5 hb0
  obtain ⟨f0, f1, f2, f3, f4⟩ := blk5f hb0
  clear hR hB
  go_enter Tryz.func61, Tryz.ntmps61
  go_wp2_with fail
  refine bodyPost_ret (plain_res _ _ _ _ _ rfl rfl (Blk.new w 24 _) rfl) rfl ?_
  exact ⟨rfl, Ext.alloc (Ext.refl _) _⟩
 rw [if_pos h22] at hR'
 obtain ⟨_, b, off, rfl, hcl⟩ := Bs.at_ hB (by omega)
 have HB := Lib.hid hB
 have hcut := hB.cut 1 (by omega) rfl
 obtain ⟨Q, hQ⟩ : ∃ Q, bs.drop 1 = Q := ⟨_, rfl⟩
 rw [hQ, longsGo_step] at hR'
 rw [hQ] at hcut
 have hQl : Q.length = 21 := by rw [← hQ, List.length_drop]; omega
 obtain ⟨l4, hQ15, hl4⟩ : ∃ l4, Q.drop 15 = bs.getD 16 0 :: bs.getD 17 0 :: l4 ∧ l4.length = 4 := by
  refine ⟨bs.drop 18, ?_, by rw [List.length_drop]; omega⟩
  rw [← hQ, List.drop_drop, List.drop_eq_getElem_cons (by omega : 1 + 15 < bs.length), List.drop_eq_getElem_cons (by omega : 1 + 15 + 1 < bs.length), List.getD_eq_getElem?_getD, List.getD_eq_getElem?_getD, List.getElem?_eq_getElem (by omega), List.getElem?_eq_getElem (by omega)]
  rfl
 generalize bs.getD 16 0 = y0 at *
 generalize bs.getD 17 0 = y1 at *
 have key1 := fun (W : World) (hE : Ext w W) => refTakeLong_any _ Q W (hcut.ext hE) (by omega)
 have key2 := fun (W : World) (u : Value) (h : Bs W u (Q.drop 5)) => refTakeLong_any u _ W h (by rw [List.length_drop]; omega)
 have key3 := fun (W : World) (u : Value) (h : Bs W u (Q.drop 10)) => refTakeLong_any u _ W h (by rw [List.length_drop]; omega)
 rw [longsGo_step, longsGo_step, List.drop_drop] at hR'
 obtain ⟨q1, hq1⟩ : ∃ q, takeLongS Q = q := ⟨_, rfl⟩
 obtain ⟨q2, hq2⟩ : ∃ q, takeLongS (Q.drop 5) = q := ⟨_, rfl⟩
 obtain ⟨q3, hq3⟩ : ∃ q, takeLongS (Q.drop 10) = q := ⟨_, rfl⟩
 rw [hq1, hq2, show 5 + 5 = 10 from rfl, hq3] at hR'
 rw [hq1] at key1
 rw [hq2] at key2
 rw [hq3] at key3
 have hr1 : q1.1 = 0 → q1.2.2 = Q.drop 5 := fun h => by rw [← hq1] at h ⊢; exact takeLong_rest h
 have hr2 : q2.1 = 0 → q2.2.2 = Q.drop 10 := fun h => by rw [← hq2] at h ⊢; rw [takeLong_rest h, List.drop_drop]
 have hr3 : q3.1 = 0 → q3.2.2 = Q.drop 15 := fun h => by rw [← hq3] at h ⊢; rw [takeLong_rest h, List.drop_drop]
 rw [hQ15] at hr3
 generalize Q.drop 5 = Q5 at *
 generalize Q.drop 10 = Q10 at *
 have HR := Lib.hid hR'
 have Key1 := Lib.hid key1
 have Key2 := Lib.hid key2
 have Key3 := Lib.hid key3
 have Hr1 := Lib.hid hr1
 have Hr2 := Lib.hid hr2
 have Hr3 := Lib.hid hr3
 have Hb := Lib.hid hb0
 have HX := Lib.hid hX
 rw [h22] at key1 h1 ⊢
 have Key1 := Lib.hid key1
 clear hR hR' hB hcut hcl key1 key2 key3 hr1 hr2 hr3 hq1 hq2 hq3 hQ hX hb0
 have hne : ((22 : Int) != 22) = false := rfl
 have hc22 : ¬ c = 1 := by omega
 go_enter Tryz.func61, Tryz.ntmps61
 go_wp2_with fail
 first | (with_reducible refine (Key1.out _ (Ext.alloc (Ext.refl _) _)).mono ?_) | (trace_state; fail)
 rintro e w1 ⟨v1, rfl, ho1, hE1⟩
 have HE1 := Lib.hid (Ext.trans HX.out hE1)
 have Hb1 := Lib.hid (Hb.out.ext hE1)
 by_cases z1 : q1.1 = 0
 case neg =>
  obtain rfl : none = R := by rw [← HR.out, if_neg z1]; rfl
  have z1b : (q1.1 != 0) = true := by simpa using z1
  obtain ⟨g0, g1, g2, g3, g4⟩ := blk5 Hb1.out
  obtain ⟨f0, f1, f2, f3, f4⟩ := blk5f Hb1.out
  go_wp2_with fail
  refine bodyPost_ret (plain_res _ _ _ _ _ rfl rfl (blk_set5 Hb1.out _ _ _ _ _) rfl) rfl ?_
  exact ⟨rfl, ext_set5 HE1.out (Nat.le_refl _) _ _ _ _ _⟩
 have HR1 := HR.out
 rw [if_pos z1] at HR1
 have HR := Lib.hid HR1
 rw [Hr1.out z1] at ho1
 have hb1 : Bs w1 v1 Q5 := SlR.of_own ho1
 have HB1 := Lib.hid hb1
 have z1b : (q1.1 != 0) = false := by simpa using z1
 clear HR1 ho1 hb1 Hr1 hE1
 go_wp2_with fail
 refine (Key2.out _ _ HB1.out).mono ?_
 rintro e w2 ⟨v2, rfl, ho2, hE2⟩
 have HE2 := Lib.hid (Ext.trans HE1.out hE2)
 have Hb2 := Lib.hid (Hb1.out.ext hE2)
 by_cases z2 : q2.1 = 0
 case neg =>
  obtain rfl : none = R := by rw [← HR.out, if_neg z2]; rfl
  have z2b : (q2.1 != 0) = true := by simpa using z2
  obtain ⟨g0, g1, g2, g3, g4⟩ := blk5 Hb2.out
  obtain ⟨f0, f1, f2, f3, f4⟩ := blk5f Hb2.out
  go_wp2_with fail
  refine bodyPost_ret (plain_res _ _ _ _ _ rfl rfl (blk_set5 Hb2.out _ _ _ _ _) rfl) rfl ?_
  exact ⟨rfl, ext_set5 HE2.out (Nat.le_refl _) _ _ _ _ _⟩
 have HR1 := HR.out
 rw [if_pos z2] at HR1
 have HR := Lib.hid HR1
 rw [Hr2.out z2] at ho2
 have hb2 : Bs w2 v2 Q10 := SlR.of_own ho2
 have HB2 := Lib.hid hb2
 have z2b : (q2.1 != 0) = false := by simpa using z2
 clear HR1 ho2 hb2 Hr2 hE2
 go_wp2_with fail
 refine (Key3.out _ _ HB2.out).mono ?_
 rintro e w3 ⟨v3, rfl, ho3, hE3⟩
 have HE3 := Lib.hid (Ext.trans HE2.out hE3)
 have Hb3 := Lib.hid (Hb2.out.ext hE3)
 by_cases z3 : q3.1 = 0
 case neg =>
  obtain rfl : none = R := by rw [← HR.out, if_neg z3]; rfl
  have z3b : (q3.1 != 0) = true := by simpa using z3
  obtain ⟨g0, g1, g2, g3, g4⟩ := blk5 Hb3.out
  obtain ⟨f0, f1, f2, f3, f4⟩ := blk5f Hb3.out
  go_wp2_with fail
  refine bodyPost_ret (plain_res _ _ _ _ _ rfl rfl (blk_set5 Hb3.out _ _ _ _ _) rfl) rfl ?_
  exact ⟨rfl, ext_set5 HE3.out (Nat.le_refl _) _ _ _ _ _⟩
 have HR1 := HR.out
 rw [if_pos z3, longsGo] at HR1
 rw [Hr3.out z3] at ho3
 have HO3 := Lib.hid ho3
 have hb3 : Bs w3 v3 (y0 :: y1 :: l4) := SlR.of_own ho3
 have z3b : (q3.1 != 0) = false := by simpa using z3
 obtain rfl : some ⟨(q1.2.1 : Int), (q2.2.1 : Int), (q3.2.1 : Int), (y0.toNat : Int), (y1.toNat : Int) == 1⟩ = R := HR1
 obtain ⟨A3, c3, rfl, _, _⟩ := SlR.open_ hb3
 obtain ⟨_, b3, off3, rfl, hc3⟩ := Bs.at_ hb3 (by simp)
 have d0 := hc3 0 (by simp)
 have d1 := hc3 1 (by simp)
 simp only [List.getElem_cons_zero, List.getElem_cons_succ, Nat.add_zero] at d0 d1
 have hlen3 : (y0 :: y1 :: l4).length = 6 := by simp [hl4]
 rw [hlen3]
 have hnr := Hb3.out.not_row (by decide) HO3.out
 have hy0w : IntKind.i64.wrap (y0.toNat : Int) = (y0.toNat : Int) := by have := y0.toNat_lt; rw [IntKind.wrap_i64]; omega
 clear HR ho3 hb3 Hr3 hE3 hc3
 go_wp2_with fail
 obtain ⟨f0, f1, f2, f3, f4⟩ := blk5f (Hb3.out.ext (Ext.drew (Ext.refl _)))
 obtain ⟨g0, g1, g2, g3, g4⟩ := blk5 (Hb3.out.ext (Ext.drew (Ext.refl _)))
 obtain ⟨f0', f1', f2', f3', f4'⟩ := blk5f Hb3.out
 obtain ⟨g0', g1', g2', g3', g4'⟩ := blk5 Hb3.out
 refine wp_region_held_drew (S := fun W => W.cell? ⟨b3, off3, none⟩ = some (.int .u8 (y0.toNat : Int)) ∧ W.cell? ⟨b3, off3 + 1, none⟩ = some (.int .u8 (y1.toNat : Int))) (by kernel_rfl) ⟨d0, d1⟩ (fun hHeld => ?_)
 refine tkL 0 rfl ?_
 try simp only [Act.put, sA, sZ, sS]
 refine tkL 1 rfl ?_
 try simp only [Act.put, sA, sZ, sS]
 refine tkL 2 rfl ?_
 try simp only [Act.put, sA, sZ, sS]
 refine tkL 3 rfl ?_
 try simp only [Act.put, sA, sZ, sS]
 refine tkL 4 rfl ?_
 try simp only [Act.put, sA, sZ, sS]
 refine tkL 5 rfl ?_
 try simp only [Act.put, sA, sZ, sS]
 refine tkL 6 rfl ?_
 try simp only [Act.put, sA, sZ, sS]
 refine tkL 7 rfl ?_
 try simp only [Act.put, sA, sZ, sS]
 refine tkL 8 rfl ?_
 try simp only [Act.put, sA, sZ, sS]
 refine tkL 9 rfl ?_
 try simp only [Act.put, sA, sZ, sS]
 refine tkL 10 rfl ?_
 try simp only [Act.put, sA, sZ, sS]
 refine tkL 11 rfl ?_
 try simp only [Act.put, sA, sZ, sS]
 refine AllReadyH.one (i := 12) rfl (by kernel_rfl) (by rfl) (fun K hK => ?_)
 go_simp
 have hne3 : w.heap.size ≠ b3 := fun e => hnr (by rw [e]; rfl)
 have k0 : (((((w3.setCell ⟨w.heap.size, 0, none⟩ (.int .i64 (q1.2.1 : Int))).setCell ⟨w.heap.size, 1, none⟩ (.int .i64 (q2.2.1 : Int))).setCell ⟨w.heap.size, 2, none⟩ (.int .i64 (q3.2.1 : Int))).setCell ⟨w.heap.size, 3, none⟩ (.int .i64 (y0.toNat : Int))).setCell ⟨w.heap.size, 4, none⟩ (.bool ((y1.toNat : Int) == 1))).drew.cell? ⟨b3, off3, none⟩ = some (.int .u8 (y0.toNat : Int)) := Ext.cell (Ext.drew (Ext.refl _)) (cell_set5 (W := w3) d0 hne3 _ _ _ _ _)
 have k1 : (((((w3.setCell ⟨w.heap.size, 0, none⟩ (.int .i64 (q1.2.1 : Int))).setCell ⟨w.heap.size, 1, none⟩ (.int .i64 (q2.2.1 : Int))).setCell ⟨w.heap.size, 2, none⟩ (.int .i64 (q3.2.1 : Int))).setCell ⟨w.heap.size, 3, none⟩ (.int .i64 (y0.toNat : Int))).setCell ⟨w.heap.size, 4, none⟩ (.bool ((y1.toNat : Int) == 1))).drew.cell? ⟨b3, off3 + 1, none⟩ = some (.int .u8 (y1.toNat : Int)) := Ext.cell (Ext.drew (Ext.refl _)) (cell_set5 (W := w3) d1 hne3 _ _ _ _ _)
 have hb5 : Blk (((((w3.setCell ⟨w.heap.size, 0, none⟩ (.int .i64 (q1.2.1 : Int))).setCell ⟨w.heap.size, 1, none⟩ (.int .i64 (q2.2.1 : Int))).setCell ⟨w.heap.size, 2, none⟩ (.int .i64 (q3.2.1 : Int))).setCell ⟨w.heap.size, 3, none⟩ (.int .i64 (y0.toNat : Int))).setCell ⟨w.heap.size, 4, none⟩ (.bool ((y1.toNat : Int) == 1))).drew w.heap.size 24 #[.int .i64 (q1.2.1 : Int), .int .i64 (q2.2.1 : Int), .int .i64 (q3.2.1 : Int), .int .i64 (y0.toNat : Int), .bool ((y1.toNat : Int) == 1)] := (blk_set5 Hb3.out _ _ _ _ _).ext (Ext.drew (Ext.refl _))
 have hE5 : Ext w (((((w3.setCell ⟨w.heap.size, 0, none⟩ (.int .i64 (q1.2.1 : Int))).setCell ⟨w.heap.size, 1, none⟩ (.int .i64 (q2.2.1 : Int))).setCell ⟨w.heap.size, 2, none⟩ (.int .i64 (q3.2.1 : Int))).setCell ⟨w.heap.size, 3, none⟩ (.int .i64 (y0.toNat : Int))).setCell ⟨w.heap.size, 4, none⟩ (.bool ((y1.toNat : Int) == 1))).drew := Ext.drew (ext_set5 HE3.out (Nat.le_refl _) _ _ _ _ _)
 first | (with_reducible refine hK.out _ _ ⟨k0, k1⟩ (fun hHeld => ?_)) | (trace_state; fail)
 clear hK K
 try simp only [Act.put, sA, sZ, sS]
 refine tkL 13 rfl ?_
 try simp only [Act.put, sA, sZ, sS]
 refine wpAnyH_done (by kernel_rfl) ?_ _
 go_wp2_with fail
 refine bodyPost_ret (plain_res _ _ _ _ _ rfl rfl hb5 rfl) rfl ?_
 exact ⟨rfl, hE5⟩
end Go.Proofs.YtmecffckghkahaaGreatDoor
