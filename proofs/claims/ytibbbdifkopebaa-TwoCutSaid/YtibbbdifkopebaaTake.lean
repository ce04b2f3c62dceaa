/-
  The walks of num.Take, moultref01.Take.
-/
import Derived.Test.YtibbbdifkopebaaConcat
import Derived.Test.YtibbbdifkopebaaNum
set_option linter.all false
namespace Go.Proofs.Ytibbbdifkopebaa
open Go.RowKit Go.Mv Go.Shelf

/-- A number taken off bytes: the error, the number, the rest. -/
def takeGo : Nat → Nat → List UInt8 → Int × Nat × List UInt8
  | 0, _, _ => (11, 0, [])
  | _ + 1, _, [] => (10, 0, [])
  | f + 1, n, b :: l => if 128 ≤ b.toNat then takeGo f (n * 128 + b.toNat % 128) l else if n * 128 + b.toNat % 128 ≤ 1073741824 then (0, n * 128 + b.toNat % 128, l) else (11, 0, [])
def takeS (l : List UInt8) : Int × Nat × List UInt8 := if l.head? = some 128 then (11, 0, []) else takeGo 5 0 l

/-- What a taking call tells. -/
def TakeP (w : World) (r : Int × Nat × List UInt8) (e : Ending) (w' : World) : Prop :=
  ∃ v, e = .returned (.tuple #[.int .i64 r.2.1, v, .int .i64 r.1]) ∧ w'.ownsRow w.heap.size 5 1 v r.2.2.length (r.2.2.map bv) ∧ Ext w w'

theorem Bs.at_ {w : World} {A : Option Addr} {m c : Nat} {l : List UInt8} (h : Bs w (.slice A m c) l) (hn : 0 < l.length) : m = l.length ∧ ∃ b off, A = some ⟨b, off, none⟩ ∧ ∀ (k : Nat) (hk : k < l.length), w.cell? ⟨b, off + k, none⟩ = some (.int .u8 (l[k].toNat : Int)) := by
  obtain ⟨rfl, b, off, rfl, hc⟩ := SlR.at_ h hn
  exact ⟨rfl, b, off, rfl, fun k hk => hc k _ (by simp [List.getElem?_eq_getElem hk, bv])⟩

def TkR (bs : List UInt8) (A : Option Addr) (c : Nat) (w : World) (a : Act) (w' : World) : Prop :=
  ∃ (i n : Nat) (u6 u7 u8 u9 u10 u11 u12 u13 u14 u15 u16 u17 u18 u19 u20 u21 u22 u23 u24 u25 u26 u27 u28 u29 u30 u31 u32 u33 u34 u35 u36 u37 u38 u39 u40 u41 u42 u43 u44 u45 u46 u47 u48 : Value), (i ≤ 5 ∧ i ≤ bs.length ∧ n < 128 ^ i ∧ Hid (takeS bs = takeGo (5 - i) n (bs.drop i)) ∧ w = w') ∧ a = ⟨#[.slice A bs.length c, undef, .int .i64 n, .slice none 0 0, .int .i64 0, .int .i64 i, u6, u7, u8, u9, u10, u11, u12, u13, u14, u15, u16, u17, u18, u19, u20, u21, u22, u23, u24, u25, u26, u27, u28, u29, u30, u31, u32, u33, u34, u35, u36, u37, u38, u39, u40, u41, u42, u43, u44, u45, u46, u47, u48], []⟩

set_option maxRecDepth 100000 in
set_option maxHeartbeats 1000000 in
theorem Take_any (v : Value) (bs : List UInt8) (w : World) (hBs : Bs w v bs) (hl : bs.length ≤ 140737488355328) : Calls Try.prog 55 #[v] w (TakeP w (takeS bs)) := by
  obtain ⟨A, c, rfl, h1, h2⟩ := SlR.open_ hBs
  refine (callsIn_wd (ro := none) (n := 9)).1 ?_
  refine callsIn_of_wp Try.func55 rfl trivial ?_ rfl
  simp only [Try.ntmps55, List.size_toArray, List.length_cons, List.length_nil, Nat.reduceAdd, Nat.reduceSub, Array.replicate_succ, Array.replicate_zero, List.push_toArray, List.append_toArray, List.nil_append, List.cons_append]
  gi_wp2
  refine wpIn_scope_lab 0 (TkR bs A c w) (fun a _ => 5 - (intOf (a.tmps.getD 5 undef)).toNat) rfl (fun l' h => by cases l' <;> first | exact absurd rfl h | rfl) ?_ ?_
  · intro hrest
    have Hrest := Lib.hid hrest
    clear hrest
    by_cases h0 : bs.length = 0
    · have hz : ¬ (0 < bs.length) := by omega
      have hb : bs = [] := List.eq_nil_of_length_eq_zero h0
      subst hb
      have HTK : Hid (takeS [] = takeGo (5 - 0) 0 ([].drop 0)) := rfl
      gi_wp2
      refine wpIn_label ?_
      gi_step
      gi_step
      exact Hrest.out _ _ ⟨0, 0, _, _, _, _, _, _, _, _, _, _, _, _, _, _, _, _, _, _, _, _, _, _, _, _, _, _, _, _, _, _, _, _, _, _, _, _, _, _, _, _, _, _, _, ⟨by omega, by simp, by decide, HTK, rfl⟩, rfl⟩
    · obtain ⟨_, b, off, rfl, hc⟩ := Bs.at_ hBs (by omega)
      have hc0 : w.cell? ⟨b, off, none⟩ = some (.int .u8 (bs[0].toNat : Int)) := hc 0 (by omega)
      by_cases h128 : bs[0].toNat = 128
      · have e : ((bs[0].toNat : Int) == 128) = true := by simp; omega
        have ht : takeS bs = (11, 0, []) := by
          have : bs[0] = 128 := by apply UInt8.toNat_inj.1; simpa using h128
          cases bs with
          | nil => simp at h0
          | cons x l => simp at this; simp [takeS, this]
        have Ht := Lib.hid ht
        clear ht hc
        gi_wp2
        refine jumps_ret ?_
        go_ret3
        exact ⟨_, by rw [Ht.out]; rfl, by rw [Ht.out]; exact World.ownsRow_nil _ _ _ _, Ext.refl _⟩
      · have e : ((bs[0].toNat : Int) == 128) = false := by simp; omega
        have ht : takeS bs = takeGo (5 - 0) 0 (bs.drop 0) := by
          have : bs[0] ≠ 128 := fun e => h128 (by rw [e]; rfl)
          cases bs with
          | nil => simp at h0
          | cons x l => simp at this; simp [takeS, this]
        have HTK := Lib.hid ht
        clear ht hc
        gi_wp2
        refine wpIn_label ?_
        gi_step
        gi_step
        exact Hrest.out _ _ ⟨0, 0, _, _, _, _, _, _, _, _, _, _, _, _, _, _, _, _, _, _, _, _, _, _, _, _, _, _, _, _, _, _, _, _, _, _, _, _, _, _, _, _, _, _, _, ⟨by omega, by omega, by decide, HTK, rfl⟩, rfl⟩
  · intro a w' hR
    obtain ⟨i, n, u6, u7, u8, u9, u10, u11, u12, u13, u14, u15, u16, u17, u18, u19, u20, u21, u22, u23, u24, u25, u26, u27, u28, u29, u30, u31, u32, u33, u34, u35, u36, u37, u38, u39, u40, u41, u42, u43, u44, u45, u46, u47, u48, ⟨hi5, hil, hn, HT, rfl⟩, rfl⟩ := hR
    by_cases h5 : i = 5
    · subst h5
      gi_wp2
      refine jumps_ret ?_
      go_ret3
      have ht : takeS bs = (11, 0, []) := HT.out
      exact ⟨_, by rw [ht]; rfl, by rw [ht]; exact World.ownsRow_nil _ _ _ _, Ext.refl _⟩
    have e1 : ((i : Int) == 5) = false := by simp; omega
    have hi4 : i ≤ 4 := by omega
    have hf : 5 - i = (4 - i) + 1 := by omega
    have hT := HT.out
    rw [hf] at hT
    by_cases hlen : i = bs.length
    · have e2 : ((i : Int) == (bs.length : Int)) = true := by simp; omega
      have ht : takeS bs = (10, 0, []) := by
        rw [hT, List.drop_of_length_le (by omega), takeGo]
      have Ht := Lib.hid ht
      clear ht hT hf hlen
      gi_wp2
      refine jumps_ret ?_
      go_ret3
      exact ⟨_, by rw [Ht.out]; rfl, by rw [Ht.out]; exact World.ownsRow_nil _ _ _ _, Ext.refl _⟩
    obtain ⟨_, b, off, rfl, hc⟩ := Bs.at_ hBs (by omega)
    have hlt : i < bs.length := by omega
    have hci := hc i hlt
    have e2 : ((i : Int) == (bs.length : Int)) = false := by simp; omega
    rw [List.drop_eq_getElem_cons hlt, takeGo] at hT
    have hnb : n < 268435456 := Nat.lt_of_lt_of_le hn (Nat.le_trans (Nat.pow_le_pow_right (by decide) hi4) (by decide))
    have hq := bs[i].toNat_lt
    generalize bs[i].toNat = q at *
    have ha : bits .and .u8 (q : Int) 127 = (q : Int) % 128 := bits_mask .u8 8 (by decide) wraps_u8 7 (by decide) _ (by omega) (by omega)
    have ho : bits .or .i64 ((n : Int) * 128) ((q : Int) % 128) = (n : Int) * 128 + (q : Int) % 128 := bits_join .i64 62 (by decide) wraps_i64 7 _ _ (by omega) (by omega) (by omega) (by omega) (by omega) (by omega)
    have HT2 := Lib.hid hT
    have hn' : n * 128 + q % 128 < 128 ^ (i + 1) := by rw [Nat.pow_succ]; omega
    have Hn' := Lib.hid hn'
    clear hT hf hc hn' hn HT
    by_cases hb : 128 ≤ q
    · have hT3 := HT2.out
      rw [if_pos hb] at hT3
      have HT3 := Lib.hid hT3
      clear hT3
      gi_wp2
      refine wpIn_goto ?_
      try simp only [Exit.then]
      refine jumps_goto (by simp) ⟨?_, by simp [intOf]; omega⟩
      have ec : ((n : Int) * 128 + (q : Int) % 128) = ((n * 128 + q % 128 : Nat) : Int) := by simp
      rw [ec]
      exact ⟨i + 1, n * 128 + q % 128, _, _, _, _, _, _, _, _, _, _, _, _, _, _, _, _, _, _, _, _, _, _, _, _, _, _, _, _, _, _, _, _, _, _, _, _, _, _, _, _, _, _, _, ⟨by omega, by omega, Hn'.out, by show _ = _; rw [HT3.out, show 5 - (i + 1) = 4 - i from by omega], rfl⟩, rfl⟩
    · have hIs := SlR.of_own (own_new w [.int .i64 ((n : Int) * 128 + (q : Int) % 128)] 3 1 rfl (by simp [maxLen]) (Nat.le_refl _))
      have hIs' : Is (w.alloc (.cells #[.int .i64 ((n : Int) * 128 + (q : Int) % 128)] 3)) (.slice (some ⟨w.heap.size, 0, none⟩) 1 1) [(n : Int) * 128 + (q : Int) % 128] := hIs
      clear hIs
      gi_wp2_with (refine ⟨trivial, ?_⟩; gi_at_call 60; refine (callsIn_wd.2 (Is_any _ _ _ hIs')).mono ?_; rintro e w' ⟨rfl, rfl⟩)
      · refine jumps_ret ?_
        go_ret3
        have hbad : (!allNum [(n : Int) * 128 + (q : Int) % 128]) = true := by assumption
        have ht := HT2.out
        rw [if_neg hb, if_neg (by simp [allNum, numB] at hbad; omega)] at ht
        exact ⟨_, by rw [ht]; rfl, by rw [ht]; exact World.ownsRow_nil _ _ _ _, Ext.alloc (Ext.refl _) _⟩
      all_goals
        have hgood : (!allNum [(n : Int) * 128 + (q : Int) % 128]) = false := by assumption
        have ht := HT2.out
        rw [if_neg hb, if_pos (by simp [allNum, numB] at hgood; omega)] at ht
        have Ht := Lib.hid ht
        clear ht hgood HT2
      · refine ⟨trivial, (callsIn_wd.2 (Clone_any _ (bs.drop (i + 1)) _ (Bs.cut0 (by omega) rfl (by omega)) (by simp; omega))).mono ?_⟩
        rintro e w1 ⟨v', rfl, ho, hE⟩
        gi_wp2
        refine jumps_ret ?_
        go_ret3
        exact ⟨v', by rw [Ht.out]; simp, by rw [Ht.out]; exact own_base ho (by simp), Ext.trans (Ext.alloc (Ext.refl _) _) hE⟩
      · refine ⟨trivial, (callsIn_wd.2 (Clone_any _ (bs.drop (i + 1)) _ (Bs.cut (hBs.ext (Ext.alloc (Ext.refl _) _)) (i + 1) (by omega) rfl) (by simp; omega))).mono ?_⟩
        rintro e w1 ⟨v', rfl, ho, hE⟩
        gi_wp2
        refine jumps_ret ?_
        go_ret3
        exact ⟨v', by rw [Ht.out]; simp, by rw [Ht.out]; exact own_base ho (by simp), Ext.trans (Ext.alloc (Ext.refl _) _) hE⟩
end Go.Proofs.Ytibbbdifkopebaa
