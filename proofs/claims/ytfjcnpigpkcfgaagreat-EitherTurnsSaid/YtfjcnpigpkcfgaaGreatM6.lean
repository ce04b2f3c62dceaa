/-
  The walks of num.Take, moultref01.Take.
  The walks of moultref01.Take, num.Takes, moultref01.Takes.
  The walks of num.Takes, moultref01.Takes.
  The walk of moultref01.Takes.
  The walk of moultref02.Chain.
-/
import Derived.Test.YtfjcnpigpkcfgaaGreatM5
set_option linter.all false
namespace Go.Proofs.YtfjcnpigpkcfgaaGreat
open Go.RowKit Go.Mv Go.Shelf

/-- A number taken off bytes: the error, the number, the rest. -/
def takeGo : Nat → Nat → List UInt8 → Int × Nat × List UInt8
  | 0, _, _ => (11, 0, [])
  | _ + 1, _, [] => (10, 0, [])
  | f + 1, n, b :: l => if 128 ≤ b.toNat then takeGo f (n * 128 + b.toNat % 128) l else if n * 128 + b.toNat % 128 ≤ 1073741824 then (0, n * 128 + b.toNat % 128, l) else (11, 0, [])
def takeS (l : List UInt8) : Int × Nat × List UInt8 := if l.head? = some 128 then (11, 0, []) else takeGo 5 0 l

/-- What a taking call tells. -/
def TakeP (w : World) (r : Int × Nat × List UInt8) (e : Ending) (w' : World) : Prop :=
  ∃ v, e = .returned (.tuple #[.int .i64 r.2.1, v, .int .i64 r.1]) ∧ w'.ownsRow w.heap.size 5 1 v r.2.2.length (r.2.2.map bv) ∧ Ext w w'

theorem Bs.at_ {w : World} {A : Option Addr} {m c : Nat} {l : List UInt8} (h : Bs w (.slice A m c) l) (hn : 0 < l.length) : m = l.length ∧ ∃ b off, A = some ⟨b, off, none⟩ ∧ ∀ (k : Nat) (hk : k < l.length), w.cell? ⟨b, off + k, none⟩ = some (.int .u8 (l[k].toNat : Int)) := by
  obtain ⟨rfl, b, off, rfl, hc⟩ := SlR.at_ h hn
  exact ⟨rfl, b, off, rfl, fun k hk => hc k _ (by simp [List.getElem?_eq_getElem hk, bv])⟩

def TkR (bs : List UInt8) (A : Option Addr) (c : Nat) (w : World) (a : Act) (w' : World) : Prop :=
  ∃ (i n : Nat) (u6 u7 u8 u9 u10 u11 u12 u13 u14 u15 u16 u17 u18 u19 u20 u21 u22 u23 u24 u25 u26 u27 u28 u29 u30 u31 u32 u33 u34 u35 u36 u37 u38 u39 u40 u41 u42 u43 u44 u45 u46 u47 u48 : Value), (i ≤ 5 ∧ i ≤ bs.length ∧ n < 128 ^ i ∧ Hid (takeS bs = takeGo (5 - i) n (bs.drop i)) ∧ w = w') ∧ a = ⟨#[.slice A bs.length c, undef, .int .i64 n, .slice none 0 0, .int .i64 0, .int .i64 i, u6, u7, u8, u9, u10, u11, u12, u13, u14, u15, u16, u17, u18, u19, u20, u21, u22, u23, u24, u25, u26, u27, u28, u29, u30, u31, u32, u33, u34, u35, u36, u37, u38, u39, u40, u41, u42, u43, u44, u45, u46, u47, u48], []⟩

set_option maxRecDepth 100000 in
set_option maxHeartbeats 1000000 in
theorem Take_any (v : Value) (bs : List UInt8) (w : World) (hBs : Bs w v bs) (hl : bs.length ≤ 140737488355328) : Calls Tryz.prog 142 #[v] w (TakeP w (takeS bs)) := by
  obtain ⟨A, c, rfl, h1, h2⟩ := SlR.open_ hBs
  refine (callsIn_wd (ro := none) (n := 9)).1 ?_
  refine callsIn_of_wp Tryz.func142 rfl trivial ?_ rfl
  simp only [Tryz.ntmps142, List.size_toArray, List.length_cons, List.length_nil, Nat.reduceAdd, Nat.reduceSub, Array.replicate_succ, Array.replicate_zero, List.push_toArray, List.append_toArray, List.nil_append, List.cons_append]
  gi_wp2
  refine wpIn_scope_lab 0 (TkR bs A c w) (fun a _ => 5 - (intOf (a.tmps.getD 5 undef)).toNat) rfl (fun l' h => by cases l' <;> first | exact absurd rfl h | rfl) ?_ ?_
  · intro hrest
    have Hrest := Lib.hid hrest
    clear hrest
    by_cases h0 : bs.length = 0
    · have hz : ¬ (0 < bs.length) := by omega
      have hb : bs = [] := List.eq_nil_of_length_eq_zero h0
      subst hb
      have HTK : Hid (takeS [] = takeGo (5 - 0) 0 ([].drop 0)) := rfl
      gi_wp2
      refine wpIn_label ?_
      gi_step
      gi_step
      exact Hrest.out _ _ ⟨0, 0, _, _, _, _, _, _, _, _, _, _, _, _, _, _, _, _, _, _, _, _, _, _, _, _, _, _, _, _, _, _, _, _, _, _, _, _, _, _, _, _, _, _, _, ⟨by omega, by simp, by decide, HTK, rfl⟩, rfl⟩
    · obtain ⟨_, b, off, rfl, hc⟩ := Bs.at_ hBs (by omega)
      have hc0 : w.cell? ⟨b, off, none⟩ = some (.int .u8 (bs[0].toNat : Int)) := hc 0 (by omega)
      by_cases h128 : bs[0].toNat = 128
      · have e : ((bs[0].toNat : Int) == 128) = true := by simp; omega
        have ht : takeS bs = (11, 0, []) := by
          have : bs[0] = 128 := by apply UInt8.toNat_inj.1; simpa using h128
          cases bs with
          | nil => simp at h0
          | cons x l => simp at this; simp [takeS, this]
        have Ht := Lib.hid ht
        clear ht hc
        gi_wp2
        refine jumps_ret ?_
        go_ret3
        exact ⟨_, by rw [Ht.out]; rfl, by rw [Ht.out]; exact World.ownsRow_nil _ _ _ _, Ext.refl _⟩
      · have e : ((bs[0].toNat : Int) == 128) = false := by simp; omega
        have ht : takeS bs = takeGo (5 - 0) 0 (bs.drop 0) := by
          have : bs[0] ≠ 128 := fun e => h128 (by rw [e]; rfl)
          cases bs with
          | nil => simp at h0
          | cons x l => simp at this; simp [takeS, this]
        have HTK := Lib.hid ht
        clear ht hc
        gi_wp2
        refine wpIn_label ?_
        gi_step
        gi_step
        exact Hrest.out _ _ ⟨0, 0, _, _, _, _, _, _, _, _, _, _, _, _, _, _, _, _, _, _, _, _, _, _, _, _, _, _, _, _, _, _, _, _, _, _, _, _, _, _, _, _, _, _, _, ⟨by omega, by omega, by decide, HTK, rfl⟩, rfl⟩
  · intro a w' hR
    obtain ⟨i, n, u6, u7, u8, u9, u10, u11, u12, u13, u14, u15, u16, u17, u18, u19, u20, u21, u22, u23, u24, u25, u26, u27, u28, u29, u30, u31, u32, u33, u34, u35, u36, u37, u38, u39, u40, u41, u42, u43, u44, u45, u46, u47, u48, ⟨hi5, hil, hn, HT, rfl⟩, rfl⟩ := hR
    by_cases h5 : i = 5
    · subst h5
      gi_wp2
      refine jumps_ret ?_
      go_ret3
      have ht : takeS bs = (11, 0, []) := HT.out
      exact ⟨_, by rw [ht]; rfl, by rw [ht]; exact World.ownsRow_nil _ _ _ _, Ext.refl _⟩
    have e1 : ((i : Int) == 5) = false := by simp; omega
    have hi4 : i ≤ 4 := by omega
    have hf : 5 - i = (4 - i) + 1 := by omega
    have hT := HT.out
    rw [hf] at hT
    by_cases hlen : i = bs.length
    · have e2 : ((i : Int) == (bs.length : Int)) = true := by simp; omega
      have ht : takeS bs = (10, 0, []) := by
        rw [hT, List.drop_of_length_le (by omega), takeGo]
      have Ht := Lib.hid ht
      clear ht hT hf hlen
      gi_wp2
      refine jumps_ret ?_
      go_ret3
      exact ⟨_, by rw [Ht.out]; rfl, by rw [Ht.out]; exact World.ownsRow_nil _ _ _ _, Ext.refl _⟩
    obtain ⟨_, b, off, rfl, hc⟩ := Bs.at_ hBs (by omega)
    have hlt : i < bs.length := by omega
    have hci := hc i hlt
    have e2 : ((i : Int) == (bs.length : Int)) = false := by simp; omega
    rw [List.drop_eq_getElem_cons hlt, takeGo] at hT
    have hnb : n < 268435456 := Nat.lt_of_lt_of_le hn (Nat.le_trans (Nat.pow_le_pow_right (by decide) hi4) (by decide))
    have hq := bs[i].toNat_lt
    generalize bs[i].toNat = q at *
    have ha : bits .and .u8 (q : Int) 127 = (q : Int) % 128 := bits_mask .u8 8 (by decide) wraps_u8 7 (by decide) _ (by omega) (by omega)
    have ho : bits .or .i64 ((n : Int) * 128) ((q : Int) % 128) = (n : Int) * 128 + (q : Int) % 128 := bits_join .i64 62 (by decide) wraps_i64 7 _ _ (by omega) (by omega) (by omega) (by omega) (by omega) (by omega)
    have HT2 := Lib.hid hT
    have hn' : n * 128 + q % 128 < 128 ^ (i + 1) := by rw [Nat.pow_succ]; omega
    have Hn' := Lib.hid hn'
    clear hT hf hc hn' hn HT
    by_cases hb : 128 ≤ q
    · have hT3 := HT2.out
      rw [if_pos hb] at hT3
      have HT3 := Lib.hid hT3
      clear hT3
      gi_wp2
      refine wpIn_goto ?_
      try simp only [Exit.then]
      refine jumps_goto (by simp) ⟨?_, by simp [intOf]; omega⟩
      have ec : ((n : Int) * 128 + (q : Int) % 128) = ((n * 128 + q % 128 : Nat) : Int) := by simp
      rw [ec]
      exact ⟨i + 1, n * 128 + q % 128, _, _, _, _, _, _, _, _, _, _, _, _, _, _, _, _, _, _, _, _, _, _, _, _, _, _, _, _, _, _, _, _, _, _, _, _, _, _, _, _, _, _, _, ⟨by omega, by omega, Hn'.out, by show _ = _; rw [HT3.out, show 5 - (i + 1) = 4 - i from by omega], rfl⟩, rfl⟩
    · have hIs := SlR.of_own (own_new w [.int .i64 ((n : Int) * 128 + (q : Int) % 128)] 3 1 rfl (by simp [maxLen]) (Nat.le_refl _))
      have hIs' : Is (w.alloc (.cells #[.int .i64 ((n : Int) * 128 + (q : Int) % 128)] 3)) (.slice (some ⟨w.heap.size, 0, none⟩) 1 1) [(n : Int) * 128 + (q : Int) % 128] := hIs
      clear hIs
      gi_wp2_with (refine ⟨trivial, ?_⟩; gi_at_call 100; refine (callsIn_wd.2 (Is_any _ _ _ hIs')).mono ?_; rintro e w' ⟨rfl, rfl⟩)
      · refine jumps_ret ?_
        go_ret3
        have hbad : (!allNum [(n : Int) * 128 + (q : Int) % 128]) = true := by assumption
        have ht := HT2.out
        rw [if_neg hb, if_neg (by simp [allNum, numB] at hbad; omega)] at ht
        exact ⟨_, by rw [ht]; rfl, by rw [ht]; exact World.ownsRow_nil _ _ _ _, Ext.alloc (Ext.refl _) _⟩
      all_goals
        have hgood : (!allNum [(n : Int) * 128 + (q : Int) % 128]) = false := by assumption
        have ht := HT2.out
        rw [if_neg hb, if_pos (by simp [allNum, numB] at hgood; omega)] at ht
        have Ht := Lib.hid ht
        clear ht hgood HT2
      · refine ⟨trivial, (callsIn_wd.2 (Clone_any _ (bs.drop (i + 1)) _ (Bs.cut0 (by omega) rfl (by omega)) (by simp; omega))).mono ?_⟩
        rintro e w1 ⟨v', rfl, ho, hE⟩
        gi_wp2
        refine jumps_ret ?_
        go_ret3
        exact ⟨v', by rw [Ht.out]; simp, by rw [Ht.out]; exact own_base ho (by simp), Ext.trans (Ext.alloc (Ext.refl _) _) hE⟩
      · refine ⟨trivial, (callsIn_wd.2 (Clone_any _ (bs.drop (i + 1)) _ (Bs.cut (hBs.ext (Ext.alloc (Ext.refl _) _)) (i + 1) (by omega) rfl) (by simp; omega))).mono ?_⟩
        rintro e w1 ⟨v', rfl, ho, hE⟩
        gi_wp2
        refine jumps_ret ?_
        go_ret3
        exact ⟨v', by rw [Ht.out]; simp, by rw [Ht.out]; exact own_base ho (by simp), Ext.trans (Ext.alloc (Ext.refl _) _) hE⟩
end Go.Proofs.YtfjcnpigpkcfgaaGreat

namespace Go.Proofs.YtfjcnpigpkcfgaaGreat
open Go.RowKit Go.Mv

set_option maxRecDepth 100000 in
set_option maxHeartbeats 1000000 in
theorem refTake_empty (A : Option Addr) (c : Nat) (bs : List UInt8) (w : World) (hz : ¬ (0 < bs.length)) (hz5 : bs.length < 5) : Calls Tryz.prog 55 #[.slice A bs.length c] w (TakeP w (takeS bs)) := by
  have ht : takeS bs = (10, 0, []) := by rw [List.eq_nil_of_length_eq_zero (by omega : bs.length = 0)]; rfl
  have Ht := Lib.hid ht
  clear ht
  go_enter Tryz.func55, Tryz.ntmps55
  go_wp2_with fail
  go_loop [5, 6] (fun n i => ∃ k : Nat, Hid (k = 0) ∧ n = .int .i64 k ∧ i = .int .i64 k) (fun _ i => (intOf i).toNat)
  case atStart => exact ⟨0, rfl, rfl, rfl⟩
  case round =>
    obtain ⟨k, hk, rfl, rfl⟩ := hrel
    obtain rfl : k = 0 := hk.out
    go_wp2_with fail
    go_ret3
    exact ⟨_, by rw [Ht.out]; rfl, by rw [Ht.out]; exact World.ownsRow_nil _ _ _ _, Ext.refl _⟩

set_option maxRecDepth 100000 in
set_option maxHeartbeats 1000000 in
theorem refTake_main (c : Nat) (bs : List UInt8) (w : World) (b off q : Nat) (hBs : Bs w (.slice (some ⟨b, off, none⟩) bs.length c) bs) (hl : bs.length ≤ 140737488355328) (h1 : bs.length ≤ c) (h2 : c ≤ 9223372036854775807) (h0 : 0 < bs.length)
    (hq : w.cell? ⟨b, off, none⟩ = some (.int .u8 q)) (e128 : ((q : Int) == 128) = false) (HT0 : Hid (takeS bs = takeGo 5 0 bs)) : Calls Tryz.prog 55 #[.slice (some ⟨b, off, none⟩) bs.length c] w (TakeP w (takeS bs)) := by
  obtain ⟨i0, hi, hz0, hz1, hz2⟩ := info_parts info_u8
  go_enter Tryz.func55, Tryz.ntmps55
  go_wp2_with fail
  go_loop [5, 6] (fun nn ii => ∃ i n : Nat, i ≤ 5 ∧ i ≤ bs.length ∧ Hid (n < 128 ^ i) ∧ Hid (takeS bs = takeGo (5 - i) n (bs.drop i)) ∧ nn = .int .i64 n ∧ ii = .int .i64 i) (fun _ i => 5 - (intOf i).toNat)
  case atStart => exact ⟨0, 0, by omega, by omega, by show _ < _; decide, HT0.out, rfl, rfl⟩
  case round =>
    obtain ⟨i, n, hi5, hil, Hn, HT, rfl, rfl⟩ := hrel
    by_cases hend : i < bs.length ∧ i < 5
    · obtain ⟨hlt, hi4⟩ := hend
      obtain ⟨_, b', off', e', hc⟩ := Bs.at_ hBs (by omega)
      cases e'
      have hci := hc i hlt
      have hT := HT.out
      rw [show 5 - i = (4 - i) + 1 from by omega, List.drop_eq_getElem_cons hlt, takeGo] at hT
      have hnb : n < 268435456 := Nat.lt_of_lt_of_le Hn.out (Nat.le_trans (Nat.pow_le_pow_right (by decide) (by omega : i ≤ 4)) (by decide))
      have hql := bs[i].toNat_lt
      generalize bs[i].toNat = q' at *
      have hn' : n * 128 + q' % 128 < 128 ^ (i + 1) := by have := Hn.out; rw [Nat.pow_succ]; omega
      have HT2 := Lib.hid hT
      have Hn' := Lib.hid hn'
      clear hT hc hn' Hn HT HT0
      by_cases hb : 128 ≤ q'
      · have hT3 := HT2.out
        rw [if_pos hb] at hT3
        have HT3 := Lib.hid hT3
        clear hT3
        go_wp2_with fail
        go_round
        case rel => exact ⟨i + 1, n * 128 + q' % 128, by omega, by omega, Hn'.out, by show _ = _; rw [HT3.out, show 5 - (i + 1) = 4 - i from by omega], by go_num, by go_num⟩
        case measure => simp [intOf]; omega
      · have hIs' : Is (w.alloc (.cells #[.int .i64 ((n : Int) * 128 + (q' : Int) % 128)] 3)) (.slice (some ⟨w.heap.size, 0, none⟩) 1 1) [(n : Int) * 128 + (q' : Int) % 128] := SlR.of_own (own_new w [.int .i64 ((n : Int) * 128 + (q' : Int) % 128)] 3 1 rfl (by simp [maxLen]) (Nat.le_refl _))
        have hon : ((w.alloc (.cells #[.int .i64 ((n : Int) * 128 + (q' : Int) % 128)] 3)).alloc (.cells #[] 5)).ownsRow w.heap.size 5 1 (.slice (some ⟨w.heap.size + 1, 0, none⟩) 0 0) 0 [] := by
          have := own_new (w.alloc (.cells #[.int .i64 ((n : Int) * 128 + (q' : Int) % 128)] 3)) [] 5 0 rfl (by simp [maxLen]) (base := w.heap.size) (by simp)
          rwa [World.size_alloc] at this
        have hE2 : Ext w ((w.alloc (.cells #[.int .i64 ((n : Int) * 128 + (q' : Int) % 128)] 3)).alloc (.cells #[] 5)) := Ext.alloc (Ext.alloc (Ext.refl w) _) _
        by_cases hcc : c = i + 1
        · have hsl : SlR ((w.alloc (.cells #[.int .i64 ((n : Int) * 128 + (q' : Int) % 128)] 3)).alloc (.cells #[] 5)) 1 (.slice (some ⟨b, off, none⟩) (bs.length - (i + 1)) 0) (bs.length - (i + 1)) ((bs.drop (i + 1)).map bv) := by
            have h := Bs.cut0 (w := ((w.alloc (.cells #[.int .i64 ((n : Int) * 128 + (q' : Int) % 128)] 3)).alloc (.cells #[] 5))) (A := some ⟨b, off, none⟩) (n := bs.length) (k := i + 1) (c := 0) (bs := bs) (by omega) rfl (by omega)
            unfold Bs at h
            rwa [List.length_drop] at h
          go_wp2_with (first
            | (go_at_call 53; refine (refIs_any _ _ _ hIs').mono ?_; rintro e w' ⟨rfl, rfl⟩)
            | (at_builtin; refine wpList_append_sl _ rfl (.tmp 45) (.tmp 49) 23 rfl w.heap.size 5 i0 (.int .u8 0) 1 1 Tryz.underlying23 hi hz0 hz1 hz2 rfl (by decide) (.slice (some ⟨w.heap.size + 1, 0, none⟩) 0 0) 0 [] rfl hon (.slice (some ⟨b, off, none⟩) (bs.length - (i + 1)) 0) (bs.length - (i + 1)) ((bs.drop (i + 1)).map bv) rfl hsl (one_bv _) (by unfold maxLen; omega) (by omega) hE2.size ?_; intro v' w1 hown' hgrow))
          · go_ret3
            have hbad : (!allNum [(n : Int) * 128 + (q' : Int) % 128]) = true := by assumption
            have ht := HT2.out
            rw [if_neg hb, if_neg (by simp [allNum, numB] at hbad; omega)] at ht
            exact ⟨_, by rw [ht]; rfl, by rw [ht]; exact World.ownsRow_nil _ _ _ _, Ext.alloc (Ext.refl _) _⟩
          · go_ret3
            have hgood : (!allNum [(n : Int) * 128 + (q' : Int) % 128]) = false := by assumption
            have ht := HT2.out
            rw [if_neg hb, if_pos (by simp [allNum, numB] at hgood; omega)] at ht
            refine ⟨v', by rw [ht]; simp, ?_, ?_⟩
            · rw [ht]
              rw [List.length_drop]
              simpa using hown'
            · refine Below.grown hE2 hgrow hE2.size (fun k ek => ?_)
              have : w.heap.size + 1 = k := by simpa [Value.ownBlock] using ek
              omega

        · have hsl : SlR ((w.alloc (.cells #[.int .i64 ((n : Int) * 128 + (q' : Int) % 128)] 3)).alloc (.cells #[] 5)) 1 (.slice (some ⟨b, off + (i + 1), none⟩) (bs.length - (i + 1)) (c - (i + 1))) (bs.length - (i + 1)) ((bs.drop (i + 1)).map bv) := by
            have h := Bs.cut (hBs.ext hE2) (i + 1) (by omega) rfl
            unfold Bs at h
            rwa [List.length_drop] at h
          go_wp2_with (first
            | (go_at_call 53; refine (refIs_any _ _ _ hIs').mono ?_; rintro e w' ⟨rfl, rfl⟩)
            | (at_builtin; refine wpList_append_sl _ rfl (.tmp 45) (.tmp 49) 23 rfl w.heap.size 5 i0 (.int .u8 0) 1 1 Tryz.underlying23 hi hz0 hz1 hz2 rfl (by decide) (.slice (some ⟨w.heap.size + 1, 0, none⟩) 0 0) 0 [] rfl hon (.slice (some ⟨b, off + (i + 1), none⟩) (bs.length - (i + 1)) (c - (i + 1))) (bs.length - (i + 1)) ((bs.drop (i + 1)).map bv) rfl hsl (one_bv _) (by unfold maxLen; omega) (by omega) hE2.size ?_; intro v' w1 hown' hgrow))
          · go_ret3
            have hbad : (!allNum [(n : Int) * 128 + (q' : Int) % 128]) = true := by assumption
            have ht := HT2.out
            rw [if_neg hb, if_neg (by simp [allNum, numB] at hbad; omega)] at ht
            exact ⟨_, by rw [ht]; rfl, by rw [ht]; exact World.ownsRow_nil _ _ _ _, Ext.alloc (Ext.refl _) _⟩
          · go_ret3
            have hgood : (!allNum [(n : Int) * 128 + (q' : Int) % 128]) = false := by assumption
            have ht := HT2.out
            rw [if_neg hb, if_pos (by simp [allNum, numB] at hgood; omega)] at ht
            refine ⟨v', by rw [ht]; simp, ?_, ?_⟩
            · rw [ht]
              rw [List.length_drop]
              simpa using hown'
            · refine Below.grown hE2 hgrow hE2.size (fun k ek => ?_)
              have : w.heap.size + 1 = k := by simpa [Value.ownBlock] using ek
              omega

    · by_cases hl5 : bs.length < 5
      · have hlt : ¬ (i < bs.length) := by omega
        have ht : takeS bs = (10, 0, []) := by
          rw [HT.out, show 5 - i = (4 - i) + 1 from by omega, List.drop_of_length_le (by omega), takeGo]
        have Ht := Lib.hid ht
        clear ht HT HT0 Hn
        go_wp2_with fail
        go_ret3
        exact ⟨_, by rw [Ht.out]; rfl, by rw [Ht.out]; exact World.ownsRow_nil _ _ _ _, Ext.refl _⟩
      · have hi : i = 5 := by omega
        subst hi
        have ht : takeS bs = (11, 0, []) := HT.out
        have Ht := Lib.hid ht
        clear ht HT HT0 Hn hend
        go_wp2_with fail
        all_goals go_ret3
        all_goals exact ⟨_, by rw [Ht.out]; rfl, by rw [Ht.out]; exact World.ownsRow_nil _ _ _ _, Ext.refl _⟩

set_option maxRecDepth 100000 in
set_option maxHeartbeats 400000 in
theorem refTake_any (v : Value) (bs : List UInt8) (w : World) (hBs : Bs w v bs) (hl : bs.length ≤ 140737488355328) : Calls Tryz.prog 55 #[v] w (TakeP w (takeS bs)) := by
  obtain ⟨A, c, rfl, h1, h2⟩ := SlR.open_ hBs
  by_cases h0 : bs.length = 0
  · exact refTake_empty A c bs w (by omega) (by omega)
  obtain ⟨_, b, off, rfl, hc⟩ := Bs.at_ hBs (by omega)
  have hc0 : w.cell? ⟨b, off, none⟩ = some (.int .u8 (bs[0].toNat : Int)) := hc 0 (by omega)
  by_cases h128 : bs[0].toNat = 128
  · have e : ((bs[0].toNat : Int) == 128) = true := by simp; omega
    have ht : takeS bs = (11, 0, []) := by
      have : bs[0] = 128 := by apply UInt8.toNat_inj.1; simpa using h128
      cases bs with
      | nil => simp at h0
      | cons x l => simp at this; simp [takeS, this]
    have Ht := Lib.hid ht
    clear ht hc
    go_enter Tryz.func55, Tryz.ntmps55
    go_wp2_with fail
    go_ret3
    exact ⟨_, by rw [Ht.out]; rfl, by rw [Ht.out]; exact World.ownsRow_nil _ _ _ _, Ext.refl _⟩
  · refine refTake_main c bs w b off bs[0].toNat hBs hl h1 h2 (by omega) hc0 (by simp; omega) ?_
    have : bs[0] ≠ 128 := fun e => h128 (by rw [e]; rfl)
    cases bs with
    | nil => simp at h0
    | cons x l => simp at this; show takeS _ = _; simp [takeS, this]
end Go.Proofs.YtfjcnpigpkcfgaaGreat

namespace Go.Proofs.YtfjcnpigpkcfgaaGreat
open Go.RowKit Go.Mv

/-- So many numbers taken off bytes, behind those that have come. -/
def takesGo : Nat → List Int → List UInt8 → Int × List Int × List UInt8
  | 0, acc, bs => (0, acc, bs)
  | k + 1, acc, bs => if (takeS bs).1 = 0 then takesGo k (acc ++ [((takeS bs).2.1 : Int)]) (takeS bs).2.2 else ((takeS bs).1, [], [])
def TakesP (w : World) (r : Int × List Int × List UInt8) (e : Ending) (w' : World) : Prop :=
  ∃ vl vr, e = .returned (.tuple #[vl, vr, .int .i64 r.1]) ∧ w'.ownsRow w.heap.size 3 1 vl r.2.1.length (r.2.1.map iv) ∧ w'.ownsRow w.heap.size 5 1 vr r.2.2.length (r.2.2.map bv) ∧ Ext w w'

theorem takeGo_rest (f n : Nat) (l : List UInt8) : (takeGo f n l).2.2.length ≤ l.length := by
  induction f generalizing n l with
  | zero => simp [takeGo]
  | succ f ih =>
    cases l with
    | nil => simp [takeGo]
    | cons b l =>
      simp only [takeGo]
      split
      · have := ih (n * 128 + b.toNat % 128) l; simp; omega
      · split <;> simp
theorem takeS_rest (l : List UInt8) : (takeS l).2.2.length ≤ l.length := by
  unfold takeS; split
  · simp
  · exact takeGo_rest _ _ _
theorem info_int : (Tryz.prog.info? 3).map (fun i => (i.zero, i.size, i.bytes)) = some (some (.int .i64 0), 1, 8) := by kernel_rfl

set_option maxRecDepth 100000 in
set_option maxHeartbeats 1000000 in
theorem Takes_any (v : Value) (bs : List UInt8) (many : Nat) (hm : many ≤ 1000000) (w : World) (hBs : Bs w v bs) (hl : bs.length ≤ 140737488355328) : Calls Tryz.prog 154 #[v, .int .i64 many] w (TakesP w (takesGo many [] bs)) := by
  obtain ⟨i0, hi, hz0, hz1, hz2⟩ := info_parts info_int
  go_enter Tryz.func154, Tryz.ntmps154
  go_wp2_with (go_at_call 101; refine (Clone_any _ _ _ hBs hl).mono ?_; rintro e w1 ⟨v1, rfl, ho1, hE1⟩)
  go_loopw [4, 5, 6, 11] (fun vl vr er i wr => ∃ (k : Nat) (acc : List Int) (rest : List UInt8), k ≤ many ∧ i = .int .i64 k ∧ er = .int .i64 0 ∧ acc.length ≤ k ∧ rest.length ≤ bs.length ∧ Hid (takesGo many [] bs = takesGo (many - k) acc rest) ∧
      wr.ownsRow w.heap.size 3 1 vl acc.length (acc.map iv) ∧ wr.ownsRow w.heap.size 5 1 vr rest.length (rest.map bv) ∧ Ext w wr) (fun _ _ _ i _ => many - (intOf i).toNat)
  case atStart => exact ⟨0, [], bs, Nat.zero_le _, rfl, rfl, by simp, Nat.le_refl _, rfl, World.ownsRow_nil _ _ _ _, ho1, hE1⟩
  case round =>
    
    obtain ⟨k, acc, rest, hk, rfl, rfl, hacc, hrest, HT, hown, hbr, hE⟩ := hrel
    by_cases hlt : k < many
    · have hT := HT.out
      rw [show many - k = (many - k - 1) + 1 from by omega, takesGo] at hT
      have hrr := takeS_rest rest
      have key := Take_any _ rest wr (SlR.of_own hbr) (by omega)
      rcases hts : takeS rest with ⟨er, n, r2⟩
      rw [hts] at hT hrr key
      simp only at hT hrr
      by_cases her : er = 0
      · subst her
        simp only [if_true] at hT
        have HT2 := Lib.hid hT
        have Key := Lib.hid key
        clear hT HT key hts
        go_wp2_with (first
          | (go_at_call 142; refine Key.out.mono ?_; rintro e w2 ⟨v2, rfl, hb2, hE2⟩)
          | (at_builtin; refine wpList_append_sl _ rfl (.tmp 22) (.tmp 24) 91 rfl w.heap.size 3 i0 (.int .i64 0) 1 8 Tryz.underlying91 hi hz0 hz1 hz2 rfl (by decide) _ acc.length (acc.map iv) rfl (own_ext hown (Ext.alloc hE2 _)) (.slice (some ⟨w2.heap.size, 0, none⟩) 1 1) 1 [.int .i64 n] rfl (SlR.of_own (own_new w2 [.int .i64 n] 3 1 rfl (by simp [maxLen]) (Nat.le_refl _))) (by simp [Value.oneCell']) (by unfold maxLen; omega) (by omega) (by have := hE.size; have := hE2.size; simp; omega) ?_; intro v' w3 hown' hgrow))
        go_roundw
        case rel =>
          have hE3 : Ext w w3 := Ext.grownOwn (Ext.alloc (Ext.trans hE hE2) _) (own_ext hown (Ext.alloc hE2 _)) hgrow
          refine ⟨k + 1, acc ++ [(n : Int)], r2, by omega, by go_num, rfl, by simp; omega, by omega, ?_, by simpa [iv] using hown', ?_, hE3⟩
          · show _ = _; rw [HT2.out, show many - (k + 1) = many - k - 1 from by omega]
          · have hb3 : (w2.alloc (.cells #[.int .i64 n] 3)).ownsRow w.heap.size 5 1 v2 r2.length (r2.map bv) := own_ext (own_base hb2 hE.size) (Ext.alloc (Ext.refl _) _)
            have ho3 : (w2.alloc (.cells #[.int .i64 n] 3)).ownsRow w.heap.size 3 1 _ acc.length (acc.map iv) := own_ext hown (Ext.alloc hE2 _)
            exact hb3.kept hgrow (own_apart hb3 ho3 (by decide))
        case measure => simp [intOf]; omega
      · have hne : ((er : Int) != 0) = true := by simp [her]
        rw [if_neg her] at hT
        have HT2 := Lib.hid hT
        have Key := Lib.hid key
        clear hT HT key hts
        go_wp2_with (go_at_call 142; refine Key.out.mono ?_; rintro e w2 ⟨v2, rfl, hb2, hE2⟩)
        go_ret3
        exact ⟨_, _, by rw [HT2.out]; rfl, by rw [HT2.out]; exact World.ownsRow_nil _ _ _ _, by rw [HT2.out]; exact World.ownsRow_nil _ _ _ _, Ext.trans hE hE2⟩
    · have hT := HT.out
      rw [show many - k = 0 from by omega, takesGo] at hT
      have HT2 := Lib.hid hT
      clear hT HT
      go_wp2_with fail
      go_ret3
      exact ⟨_, _, by rw [HT2.out]; rfl, by rw [HT2.out]; exact hown, by rw [HT2.out]; exact hbr, hE⟩
end Go.Proofs.YtfjcnpigpkcfgaaGreat

namespace Go.Proofs.YtfjcnpigpkcfgaaGreat
open Go.RowKit Go.Mv

set_option maxRecDepth 100000 in
set_option maxHeartbeats 1000000 in
theorem refTakes_any (v : Value) (bs : List UInt8) (many : Nat) (hm : many ≤ 1000000) (w : World) (hBs : Bs w v bs) (hl : bs.length ≤ 140737488355328) : Calls Tryz.prog 60 #[v, .int .i64 many] w (TakesP w (takesGo many [] bs)) := by
  obtain ⟨i0, hi, hz0, hz1, hz2⟩ := info_parts info_int
  go_enter Tryz.func60, Tryz.ntmps60
  obtain ⟨j0, hj, hy0, hy1, hy2⟩ := info_parts info_u8
  have hon : (w.alloc (.cells #[] 5)).ownsRow w.heap.size 5 1 (.slice (some ⟨w.heap.size, 0, none⟩) 0 0) 0 [] := own_new w [] 5 0 rfl (by simp [maxLen]) (Nat.le_refl _)
  have hE0 : Ext w (w.alloc (.cells #[] 5)) := Ext.alloc (Ext.refl _) _
  go_wp2_with (at_builtin; refine wpList_append_sl _ rfl (.tmp 13) (.tmp 14) 23 rfl w.heap.size 5 j0 (.int .u8 0) 1 1 Tryz.underlying23 hj hy0 hy1 hy2 rfl (by decide) (.slice (some ⟨w.heap.size, 0, none⟩) 0 0) 0 [] rfl hon v bs.length (bs.map bv) rfl (SlR.ext hBs hE0) (one_bv _) (by unfold maxLen; omega) (by omega) hE0.size ?_; intro v1 w1 ho1 hgrow1)
  have hE1 : Ext w w1 := Ext.grownOwn hE0 hon hgrow1
  go_loopw [7, 8, 9] (fun vr vl i wr => ∃ (k : Nat) (acc : List Int) (rest : List UInt8), k ≤ many ∧ i = .int .i64 k ∧ acc.length ≤ k ∧ rest.length ≤ bs.length ∧ Hid (takesGo many [] bs = takesGo (many - k) acc rest) ∧
      wr.ownsRow w.heap.size 3 1 vl acc.length (acc.map iv) ∧ wr.ownsRow w.heap.size 5 1 vr rest.length (rest.map bv) ∧ Ext w wr) (fun _ _ i _ => many - (intOf i).toNat)
  case atStart => exact ⟨0, [], bs, Nat.zero_le _, rfl, by simp, Nat.le_refl _, rfl, World.ownsRow_nil _ _ _ _, by simpa using ho1, hE1⟩
  case round =>
    
    obtain ⟨k, acc, rest, hk, rfl, hacc, hrest, HT, hown, hbr, hE⟩ := hrel
    by_cases hlt : k < many
    · have hT := HT.out
      rw [show many - k = (many - k - 1) + 1 from by omega, takesGo] at hT
      have hrr := takeS_rest rest
      have key := refTake_any _ rest wr (SlR.of_own hbr) (by omega)
      rcases hts : takeS rest with ⟨er, n, r2⟩
      rw [hts] at hT hrr key
      simp only at hT hrr
      by_cases her : er = 0
      · subst her
        simp only [if_true] at hT
        have HT2 := Lib.hid hT
        have Key := Lib.hid key
        clear hT HT key hts
        go_wp2_with (first
          | (go_at_call 55; refine Key.out.mono ?_; rintro e w2 ⟨v2, rfl, hb2, hE2⟩)
          | (at_builtin; refine wpList_append_sl _ rfl (.tmp 30) (.tmp 32) 91 rfl w.heap.size 3 i0 (.int .i64 0) 1 8 Tryz.underlying91 hi hz0 hz1 hz2 rfl (by decide) _ acc.length (acc.map iv) rfl (own_ext hown (Ext.alloc hE2 _)) (.slice (some ⟨w2.heap.size, 0, none⟩) 1 1) 1 [.int .i64 n] rfl (SlR.of_own (own_new w2 [.int .i64 n] 3 1 rfl (by simp [maxLen]) (Nat.le_refl _))) (by simp [Value.oneCell']) (by unfold maxLen; omega) (by omega) (by have := hE.size; have := hE2.size; simp; omega) ?_; intro v' w3 hown' hgrow))
        go_roundw
        case rel =>
          have hE3 : Ext w w3 := Ext.grownOwn (Ext.alloc (Ext.trans hE hE2) _) (own_ext hown (Ext.alloc hE2 _)) hgrow
          refine ⟨k + 1, acc ++ [(n : Int)], r2, by omega, by go_num, by simp; omega, by omega, ?_, by simpa [iv] using hown', ?_, hE3⟩
          · show _ = _; rw [HT2.out, show many - (k + 1) = many - k - 1 from by omega]
          · have hb3 : (w2.alloc (.cells #[.int .i64 n] 3)).ownsRow w.heap.size 5 1 v2 r2.length (r2.map bv) := own_ext (own_base hb2 hE.size) (Ext.alloc (Ext.refl _) _)
            have ho3 : (w2.alloc (.cells #[.int .i64 n] 3)).ownsRow w.heap.size 3 1 _ acc.length (acc.map iv) := own_ext hown (Ext.alloc hE2 _)
            exact hb3.kept hgrow (own_apart hb3 ho3 (by decide))
        case measure => simp [intOf]; omega
      · have hne : ((er : Int) != 0) = true := by simp [her]
        rw [if_neg her] at hT
        have HT2 := Lib.hid hT
        have Key := Lib.hid key
        clear hT HT key hts
        go_wp2_with (go_at_call 55; refine Key.out.mono ?_; rintro e w2 ⟨v2, rfl, hb2, hE2⟩)
        go_ret3
        exact ⟨_, _, by rw [HT2.out]; rfl, by rw [HT2.out]; exact World.ownsRow_nil _ _ _ _, by rw [HT2.out]; exact World.ownsRow_nil _ _ _ _, Ext.trans hE hE2⟩
    · have hT := HT.out
      rw [show many - k = 0 from by omega, takesGo] at hT
      have HT2 := Lib.hid hT
      clear hT HT
      go_wp2_with fail
      go_ret3
      exact ⟨_, _, by rw [HT2.out]; rfl, by rw [HT2.out]; exact hown, by rw [HT2.out]; exact hbr, hE⟩
end Go.Proofs.YtfjcnpigpkcfgaaGreat

namespace Go.Mv
open Go.RowKit
/-- The point behind bytes. -/
def chainP (p : Nat × Nat) (bs : List UInt8) : Nat × Nat := bs.foldl nextP p
theorem chainP_snoc (p : Nat × Nat) (bs : List UInt8) (b : UInt8) : chainP p (bs ++ [b]) = nextP (chainP p bs) b := by unfold chainP; rw [List.foldl_append]; rfl
theorem chainP_append (p : Nat × Nat) (a b : List UInt8) : chainP p (a ++ b) = chainP (chainP p a) b := by unfold chainP; rw [List.foldl_append]
theorem PtV.pt {v : Value} {p : Nat × Nat} (h : PtV v p) : ptV v = p := by
  obtain ⟨a, b, rfl, ha, hb⟩ := h
  unfold ptV; simp only [ha, hb]
theorem PtV.zero : PtV (.complex .f64 0 0) (0, 0) := ⟨0, 0, rfl, ptOf_of_fl fl_zero (by decide) (fun h => by cases h), ptOf_of_fl fl_zero (by decide) (fun h => by cases h)⟩
theorem ptV_right {a b : Nat} (h : ((ptOf a).isSome && (ptOf b).isSome) = true) : PtV (.complex .f64 a b) (ptV (.complex .f64 a b)) := by
  obtain ⟨x, ha⟩ : ∃ x, ptOf a = some x := by cases h : ptOf a <;> simp_all
  obtain ⟨y, hb⟩ : ∃ y, ptOf b = some y := by cases h : ptOf b <;> simp_all
  have e : ptV (.complex .f64 a b) = (x, y) := by unfold ptV; simp only [ha, hb]
  rw [e]; exact ⟨a, b, rfl, ha, hb⟩
theorem ptV_not {a b : Nat} (h : ((ptOf a).isSome && (ptOf b).isSome) = false) : ptV (.complex .f64 a b) = (0, 0) := by
  unfold ptV
  cases ha : ptOf a <;> cases hb : ptOf b <;> simp_all
end Go.Mv
namespace Go.Proofs.YtfjcnpigpkcfgaaGreat
open Go.RowKit Go.Mv
set_option maxRecDepth 100000

def ChainP (v : Value) (bs : List UInt8) (w : World) (e : Ending) (w' : World) : Prop := ∃ v', e = .returned v' ∧ PtV v' (chainP (ptV v) bs) ∧ w = w'

set_option maxHeartbeats 1000000 in
theorem refChain_any (a b : Nat) (vp : Value) (bss : List (List UInt8)) (w : World) (h : Parts w vp bss) :
    Calls Tryz.prog 41 #[.complex .f64 a b, vp] w (ChainP (.complex .f64 a b) bss.flatten w) := by
  obtain ⟨vs, hvl, hsl, hvs⟩ := h
  obtain ⟨A, c, rfl, h1, h2⟩ := SlR.open_ hsl
  have hv1 : vs.length ≤ bss.length := by omega
  have hv2 : bss.length ≤ vs.length := by omega
  clear hvl
  have hG := Lib.hid (fun w => refRightC_any a b w)
  have hz := Lib.hid PtV.zero
  have hstart : ∃ z0 : Value, PtV z0 (ptV (.complex .f64 a b)) ∧ z0 = if ((ptOf a).isSome && (ptOf b).isSome) = true then .complex .f64 a b else .complex .f64 0 0 := by
    split
    · rename_i h; exact ⟨_, ptV_right h, rfl⟩
    · rename_i h
      refine ⟨_, ?_, rfl⟩
      rw [ptV_not (by simpa using h)]; exact PtV.zero
  obtain ⟨z0, hz0, hz1⟩ := hstart
  unfold ChainP
  generalize ptV (.complex .f64 a b) = p0 at *
  cases hok : ((ptOf a).isSome && (ptOf b).isSome)
  all_goals
    rw [hok] at hz1
    simp only [if_true, if_false, Bool.false_eq_true] at hz1
    subst hz1
    rw [hok] at hG
    clear hok
    go_enter Tryz.func41, Tryz.ntmps41
    go_wp2_with (go_at_call 51; refine (hG.out _).mono ?_; rintro e w' ⟨rfl, rfl⟩)
    clear hG
    go_loop [0, 5] (fun z i => ∃ k : Nat, k ≤ bss.length ∧ i = .int .i64 k ∧ Hid (PtV z (chainP p0 (bss.take k).flatten))) (fun _ i => bss.length - (intOf i).toNat)
    case atStart => exact ⟨0, Nat.zero_le _, rfl, hz0⟩
    case round =>
      obtain ⟨k, hk, rfl, HP⟩ := hrel
      by_cases hlt : k < bss.length
      · obtain ⟨_, ba, off, rfl, hc⟩ := SlR.at_ hsl (by omega)
        have hkv : k < vs.length := by omega
        have hck := hc k vs[k] (List.getElem?_eq_getElem hkv)
        have hbk := hvs k hkv hlt
        obtain ⟨A', c', hvk, h3, h4⟩ := SlR.open_ hbk
        rw [hvk] at hck hbk
        have hft := flat_take bss k hlt
        have Hft := Lib.hid hft
        generalize bss[k] = bk at *
        clear hc hvk hft
        go_wp2_with fail
        go_loop [0, 6] (fun z j => ∃ m : Nat, m ≤ bk.length ∧ j = .int .i64 m ∧ Hid (PtV z (chainP p0 ((bss.take k).flatten ++ bk.take m)))) (fun _ j => bk.length - (intOf j).toNat)
        case atStart => exact ⟨0, Nat.zero_le _, rfl, by show PtV _ _; rw [List.take_zero, List.append_nil]; exact HP.out⟩
        case round =>
          obtain ⟨m, hm, rfl, HQ⟩ := hrel
          by_cases hlt2 : m < bk.length
          · obtain ⟨_, b2, off2, e2, hc2⟩ := Bs.at_ hbk (by omega)
            cases e2
            have hcm := hc2 m hlt2
            have htk : bk.take (m + 1) = bk.take m ++ [bk[m]] := List.take_succ_eq_append_getElem hlt2
            have Htk := Lib.hid htk
            generalize hbm : bk[m] = bm at *
            clear hc2 htk hbm
            go_wp2_with (go_at_call 52; refine (refNext_any _ _ HQ.out _ _).mono ?_; rintro e w' ⟨v', rfl, hv', rfl⟩)
            have HV := Lib.hid hv'
            go_round
            case rel => exact ⟨m + 1, by omega, by go_num, by show PtV _ _; rw [Htk.out, ← List.append_assoc, chainP_snoc]; exact HV.out⟩
            case measure => simp [intOf]; omega
          · have hq := HQ.out
            rw [List.take_of_length_le (show bk.length ≤ m from by omega), ← Hft.out] at hq
            have HQ' := Lib.hid hq
            clear hq
            go_wp2_with fail
            go_round
            case rel => exact ⟨k + 1, by omega, by go_num, HQ'⟩
            case measure => simp [intOf]; omega
      · have hk' : bss.take k = bss := List.take_of_length_le (by omega)
        rw [hk'] at HP
        clear hk'
        go_wp2_with fail
        go_ret
        exact ⟨_, rfl, HP.out, rfl⟩
end Go.Proofs.YtfjcnpigpkcfgaaGreat
