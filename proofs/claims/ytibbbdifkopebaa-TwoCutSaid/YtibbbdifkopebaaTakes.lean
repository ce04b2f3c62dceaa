/-
  The walks of moultref01.Take, num.Takes, moultref01.Takes.
-/
import Derived.Test.YtibbbdifkopebaaTake
set_option linter.all false
namespace Go.Proofs.Ytibbbdifkopebaa
open Go.RowKit Go.Mv

set_option maxRecDepth 100000 in
set_option maxHeartbeats 1000000 in
theorem refTake_empty (A : Option Addr) (c : Nat) (bs : List UInt8) (w : World) (hz : ¬ (0 < bs.length)) (hz5 : bs.length < 5) : Calls Try.prog 58 #[.slice A bs.length c] w (TakeP w (takeS bs)) := by
  have ht : takeS bs = (10, 0, []) := by rw [List.eq_nil_of_length_eq_zero (by omega : bs.length = 0)]; rfl
  have Ht := Lib.hid ht
  clear ht
  go_enter Try.func58, Try.ntmps58
  go_wp2_with fail
  go_loop [5, 6] (fun n i => ∃ k : Nat, Hid (k = 0) ∧ n = .int .i64 k ∧ i = .int .i64 k) (fun _ i => (intOf i).toNat)
  case atStart => exact ⟨0, rfl, rfl, rfl⟩
  case round =>
    obtain ⟨k, hk, rfl, rfl⟩ := hrel
    obtain rfl : k = 0 := hk.out
    go_wp2_with fail
    go_ret3
    exact ⟨_, by rw [Ht.out]; rfl, by rw [Ht.out]; exact World.ownsRow_nil _ _ _ _, Ext.refl _⟩

set_option maxRecDepth 100000 in
set_option maxHeartbeats 1000000 in
theorem refTake_main (c : Nat) (bs : List UInt8) (w : World) (b off q : Nat) (hBs : Bs w (.slice (some ⟨b, off, none⟩) bs.length c) bs) (hl : bs.length ≤ 140737488355328) (h1 : bs.length ≤ c) (h2 : c ≤ 9223372036854775807) (h0 : 0 < bs.length)
    (hq : w.cell? ⟨b, off, none⟩ = some (.int .u8 q)) (e128 : ((q : Int) == 128) = false) (HT0 : Hid (takeS bs = takeGo 5 0 bs)) : Calls Try.prog 58 #[.slice (some ⟨b, off, none⟩) bs.length c] w (TakeP w (takeS bs)) := by
  obtain ⟨i0, hi, hz0, hz1, hz2⟩ := info_parts info_u8
  go_enter Try.func58, Try.ntmps58
  go_wp2_with fail
  go_loop [5, 6] (fun nn ii => ∃ i n : Nat, i ≤ 5 ∧ i ≤ bs.length ∧ Hid (n < 128 ^ i) ∧ Hid (takeS bs = takeGo (5 - i) n (bs.drop i)) ∧ nn = .int .i64 n ∧ ii = .int .i64 i) (fun _ i => 5 - (intOf i).toNat)
  case atStart => exact ⟨0, 0, by omega, by omega, by show _ < _; decide, HT0.out, rfl, rfl⟩
  case round =>
    obtain ⟨i, n, hi5, hil, Hn, HT, rfl, rfl⟩ := hrel
    by_cases hend : i < bs.length ∧ i < 5
    · obtain ⟨hlt, hi4⟩ := hend
      obtain ⟨_, b', off', e', hc⟩ := Bs.at_ hBs (by omega)
      cases e'
      have hci := hc i hlt
      have hT := HT.out
      rw [show 5 - i = (4 - i) + 1 from by omega, List.drop_eq_getElem_cons hlt, takeGo] at hT
      have hnb : n < 268435456 := Nat.lt_of_lt_of_le Hn.out (Nat.le_trans (Nat.pow_le_pow_right (by decide) (by omega : i ≤ 4)) (by decide))
      have hql := bs[i].toNat_lt
      generalize bs[i].toNat = q' at *
      have hn' : n * 128 + q' % 128 < 128 ^ (i + 1) := by have := Hn.out; rw [Nat.pow_succ]; omega
      have HT2 := Lib.hid hT
      have Hn' := Lib.hid hn'
      clear hT hc hn' Hn HT HT0
      by_cases hb : 128 ≤ q'
      · have hT3 := HT2.out
        rw [if_pos hb] at hT3
        have HT3 := Lib.hid hT3
        clear hT3
        go_wp2_with fail
        go_round
        case rel => exact ⟨i + 1, n * 128 + q' % 128, by omega, by omega, Hn'.out, by show _ = _; rw [HT3.out, show 5 - (i + 1) = 4 - i from by omega], by go_num, by go_num⟩
        case measure => simp [intOf]; omega
      · have hIs' : Is (w.alloc (.cells #[.int .i64 ((n : Int) * 128 + (q' : Int) % 128)] 3)) (.slice (some ⟨w.heap.size, 0, none⟩) 1 1) [(n : Int) * 128 + (q' : Int) % 128] := SlR.of_own (own_new w [.int .i64 ((n : Int) * 128 + (q' : Int) % 128)] 3 1 rfl (by simp [maxLen]) (Nat.le_refl _))
        have hon : ((w.alloc (.cells #[.int .i64 ((n : Int) * 128 + (q' : Int) % 128)] 3)).alloc (.cells #[] 5)).ownsRow w.heap.size 5 1 (.slice (some ⟨w.heap.size + 1, 0, none⟩) 0 0) 0 [] := by
          have := own_new (w.alloc (.cells #[.int .i64 ((n : Int) * 128 + (q' : Int) % 128)] 3)) [] 5 0 rfl (by simp [maxLen]) (base := w.heap.size) (by simp)
          rwa [World.size_alloc] at this
        have hE2 : Ext w ((w.alloc (.cells #[.int .i64 ((n : Int) * 128 + (q' : Int) % 128)] 3)).alloc (.cells #[] 5)) := Ext.alloc (Ext.alloc (Ext.refl w) _) _
        by_cases hcc : c = i + 1
        · have hsl : SlR ((w.alloc (.cells #[.int .i64 ((n : Int) * 128 + (q' : Int) % 128)] 3)).alloc (.cells #[] 5)) 1 (.slice (some ⟨b, off, none⟩) (bs.length - (i + 1)) 0) (bs.length - (i + 1)) ((bs.drop (i + 1)).map bv) := by
            have h := Bs.cut0 (w := ((w.alloc (.cells #[.int .i64 ((n : Int) * 128 + (q' : Int) % 128)] 3)).alloc (.cells #[] 5))) (A := some ⟨b, off, none⟩) (n := bs.length) (k := i + 1) (c := 0) (bs := bs) (by omega) rfl (by omega)
            unfold Bs at h
            rwa [List.length_drop] at h
          go_wp2_with (first
            | (go_at_call 45; refine (refIs_any _ _ _ hIs').mono ?_; rintro e w' ⟨rfl, rfl⟩)
            | (at_builtin; refine wpList_append_sl _ rfl (.tmp 45) (.tmp 49) 24 rfl w.heap.size 5 i0 (.int .u8 0) 1 1 Try.underlying24 hi hz0 hz1 hz2 rfl (by decide) (.slice (some ⟨w.heap.size + 1, 0, none⟩) 0 0) 0 [] rfl hon (.slice (some ⟨b, off, none⟩) (bs.length - (i + 1)) 0) (bs.length - (i + 1)) ((bs.drop (i + 1)).map bv) rfl hsl (one_bv _) (by unfold maxLen; omega) (by omega) hE2.size ?_; intro v' w1 hown' hgrow))
          · go_ret3
            have hbad : (!allNum [(n : Int) * 128 + (q' : Int) % 128]) = true := by assumption
            have ht := HT2.out
            rw [if_neg hb, if_neg (by simp [allNum, numB] at hbad; omega)] at ht
            exact ⟨_, by rw [ht]; rfl, by rw [ht]; exact World.ownsRow_nil _ _ _ _, Ext.alloc (Ext.refl _) _⟩
          · go_ret3
            have hgood : (!allNum [(n : Int) * 128 + (q' : Int) % 128]) = false := by assumption
            have ht := HT2.out
            rw [if_neg hb, if_pos (by simp [allNum, numB] at hgood; omega)] at ht
            refine ⟨v', by rw [ht]; simp, ?_, ?_⟩
            · rw [ht]
              rw [List.length_drop]
              simpa using hown'
            · refine Below.grown hE2 hgrow hE2.size (fun k ek => ?_)
              have : w.heap.size + 1 = k := by simpa [Value.ownBlock] using ek
              omega

        · have hsl : SlR ((w.alloc (.cells #[.int .i64 ((n : Int) * 128 + (q' : Int) % 128)] 3)).alloc (.cells #[] 5)) 1 (.slice (some ⟨b, off + (i + 1), none⟩) (bs.length - (i + 1)) (c - (i + 1))) (bs.length - (i + 1)) ((bs.drop (i + 1)).map bv) := by
            have h := Bs.cut (hBs.ext hE2) (i + 1) (by omega) rfl
            unfold Bs at h
            rwa [List.length_drop] at h
          go_wp2_with (first
            | (go_at_call 45; refine (refIs_any _ _ _ hIs').mono ?_; rintro e w' ⟨rfl, rfl⟩)
            | (at_builtin; refine wpList_append_sl _ rfl (.tmp 45) (.tmp 49) 24 rfl w.heap.size 5 i0 (.int .u8 0) 1 1 Try.underlying24 hi hz0 hz1 hz2 rfl (by decide) (.slice (some ⟨w.heap.size + 1, 0, none⟩) 0 0) 0 [] rfl hon (.slice (some ⟨b, off + (i + 1), none⟩) (bs.length - (i + 1)) (c - (i + 1))) (bs.length - (i + 1)) ((bs.drop (i + 1)).map bv) rfl hsl (one_bv _) (by unfold maxLen; omega) (by omega) hE2.size ?_; intro v' w1 hown' hgrow))
          · go_ret3
            have hbad : (!allNum [(n : Int) * 128 + (q' : Int) % 128]) = true := by assumption
            have ht := HT2.out
            rw [if_neg hb, if_neg (by simp [allNum, numB] at hbad; omega)] at ht
            exact ⟨_, by rw [ht]; rfl, by rw [ht]; exact World.ownsRow_nil _ _ _ _, Ext.alloc (Ext.refl _) _⟩
          · go_ret3
            have hgood : (!allNum [(n : Int) * 128 + (q' : Int) % 128]) = false := by assumption
            have ht := HT2.out
            rw [if_neg hb, if_pos (by simp [allNum, numB] at hgood; omega)] at ht
            refine ⟨v', by rw [ht]; simp, ?_, ?_⟩
            · rw [ht]
              rw [List.length_drop]
              simpa using hown'
            · refine Below.grown hE2 hgrow hE2.size (fun k ek => ?_)
              have : w.heap.size + 1 = k := by simpa [Value.ownBlock] using ek
              omega

    · by_cases hl5 : bs.length < 5
      · have hlt : ¬ (i < bs.length) := by omega
        have ht : takeS bs = (10, 0, []) := by
          rw [HT.out, show 5 - i = (4 - i) + 1 from by omega, List.drop_of_length_le (by omega), takeGo]
        have Ht := Lib.hid ht
        clear ht HT HT0 Hn
        go_wp2_with fail
        go_ret3
        exact ⟨_, by rw [Ht.out]; rfl, by rw [Ht.out]; exact World.ownsRow_nil _ _ _ _, Ext.refl _⟩
      · have hi : i = 5 := by omega
        subst hi
        have ht : takeS bs = (11, 0, []) := HT.out
        have Ht := Lib.hid ht
        clear ht HT HT0 Hn hend
        go_wp2_with fail
        all_goals go_ret3
        all_goals exact ⟨_, by rw [Ht.out]; rfl, by rw [Ht.out]; exact World.ownsRow_nil _ _ _ _, Ext.refl _⟩

set_option maxRecDepth 100000 in
set_option maxHeartbeats 400000 in
theorem refTake_any (v : Value) (bs : List UInt8) (w : World) (hBs : Bs w v bs) (hl : bs.length ≤ 140737488355328) : Calls Try.prog 58 #[v] w (TakeP w (takeS bs)) := by
  obtain ⟨A, c, rfl, h1, h2⟩ := SlR.open_ hBs
  by_cases h0 : bs.length = 0
  · exact refTake_empty A c bs w (by omega) (by omega)
  obtain ⟨_, b, off, rfl, hc⟩ := Bs.at_ hBs (by omega)
  have hc0 : w.cell? ⟨b, off, none⟩ = some (.int .u8 (bs[0].toNat : Int)) := hc 0 (by omega)
  by_cases h128 : bs[0].toNat = 128
  · have e : ((bs[0].toNat : Int) == 128) = true := by simp; omega
    have ht : takeS bs = (11, 0, []) := by
      have : bs[0] = 128 := by apply UInt8.toNat_inj.1; simpa using h128
      cases bs with
      | nil => simp at h0
      | cons x l => simp at this; simp [takeS, this]
    have Ht := Lib.hid ht
    clear ht hc
    go_enter Try.func58, Try.ntmps58
    go_wp2_with fail
    go_ret3
    exact ⟨_, by rw [Ht.out]; rfl, by rw [Ht.out]; exact World.ownsRow_nil _ _ _ _, Ext.refl _⟩
  · refine refTake_main c bs w b off bs[0].toNat hBs hl h1 h2 (by omega) hc0 (by simp; omega) ?_
    have : bs[0] ≠ 128 := fun e => h128 (by rw [e]; rfl)
    cases bs with
    | nil => simp at h0
    | cons x l => simp at this; show takeS _ = _; simp [takeS, this]
end Go.Proofs.Ytibbbdifkopebaa
