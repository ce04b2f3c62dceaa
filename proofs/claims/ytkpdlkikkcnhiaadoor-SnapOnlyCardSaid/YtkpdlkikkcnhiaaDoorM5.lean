/-
  The walks of num.Is, num.put, num.Short, moultref01.Is.
  Plain facts on numbers' short bytes.
  The walks of num.put, num.Short, moultref01.Short: numbers' short bytes.
  The walks of num.Take, moultref01.Take.
  The walks of moultref01.Take, num.Takes, moultref01.Takes.
  The walks of num.Takes, moultref01.Takes.
  The walk of moultref01.Takes.
  The walk of moultref02.Chain.
  The walk of gauss.bytes' iterator.
  The walk of gauss.Chain.
  The walk of moultref01.Short.
  The walks of two.Head, moultref08.Head.
  The walk of moultref08.Head.
  The walk of two.Block.
-/
import Derived.Test.YtkpdlkikkcnhiaaDoorM4
set_option linter.all false
namespace Go.Proofs.YtkpdlkikkcnhiaaDoor
open Go.RowKit Go.Mv

def allNum (l : List Int) : Bool := l.all numB
def shorts (l : List Int) : List UInt8 := l.flatMap fun n => short1 n.toNat

theorem Is.at_ {w : World} {A : Option Addr} {m c : Nat} {l : List Int} (h : Is w (.slice A m c) l) (hn : 0 < l.length) : m = l.length ∧ ∃ b off, A = some ⟨b, off, none⟩ ∧ ∀ (k : Nat) (hk : k < l.length), w.cell? ⟨b, off + k, none⟩ = some (.int .i64 l[k]) := by
  obtain ⟨rfl, b, off, rfl, hc⟩ := SlR.at_ h hn
  exact ⟨rfl, b, off, rfl, fun k hk => hc k _ (by simp [List.getElem?_eq_getElem hk, iv])⟩

set_option maxHeartbeats 400000 in
theorem IsOne_any (n : Int) (w : World) :
    Calls Tryd.prog 55 #[.int .i64 n] w fun e w' => e = .returned (.bool (!numB n)) ∧ w = w' := by
  by_cases h0 : n < 0
  · go_enter Tryd.func55, Tryd.ntmps55
    go_wp2
    go_ret
    exact ⟨ret_bool (by simp [numB]; omega), rfl⟩
  · by_cases h1 : n > 1073741824
    · go_enter Tryd.func55, Tryd.ntmps55
      go_wp2
      go_ret
      exact ⟨ret_bool (by simp [numB]; omega), rfl⟩
    · go_enter Tryd.func55, Tryd.ntmps55
      go_wp2
      go_ret
      exact ⟨ret_bool (by simp [numB]; omega), rfl⟩

/-- The place of the first number that is none; -1. -/
def noneAt : List Int → Nat → Int
  | [], _ => -1
  | n :: l, i => if numB n then noneAt l (i + 1) else i

set_option maxHeartbeats 400000 in
theorem IndexFuncI_any (v : Value) (l : List Int) (w : World) (h : Is w v l) :
    Calls Tryd.prog 63 #[v, .func (.func 55) #[] #[]] w fun e w' => e = .returned (.int .i64 (noneAt l 0)) ∧ w = w' := by
  obtain ⟨A, c, rfl, h1, h2⟩ := SlR.open_ h
  have hm := SlR.len_le h
  unfold maxLen at hm
  go_enter Tryd.func63, Tryd.ntmps63
  go_wp2_with fail
  go_loop [8] (fun i => ∃ k : Nat, k ≤ l.length ∧ i = .int .i64 k ∧ Hid (noneAt l 0 = noneAt (l.drop k) k)) (fun i => l.length - (intOf i).toNat)
  case atStart => exact ⟨0, Nat.zero_le _, rfl, rfl⟩
  case round =>
    obtain ⟨k, hk, rfl, Hb⟩ := hrel
    by_cases hlt : k < l.length
    · obtain ⟨_, b, off, rfl, hc⟩ := Is.at_ h (by omega)
      have hc0 := hc k hlt
      clear hc
      go_wp2_with (go_at_call 55; refine (IsOne_any _ _).mono ?_; rintro e w' ⟨rfl, rfl⟩)
      · go_ret
        have hne : numB l[k] = false := by simpa using (by assumption : (!numB l[k]) = true)
        refine ⟨ret_int ?_, rfl⟩
        rw [Hb.out, List.drop_eq_getElem_cons hlt, noneAt, hne]
        simp
      · go_round
        case rel =>
          have hok : numB l[k] = true := by simpa using (by assumption : (!numB l[k]) = false)
          exact ⟨k + 1, by omega, by go_num, by rw [Hb.out, List.drop_eq_getElem_cons hlt, noneAt, hok]; simp [Hid]⟩
        case measure => simp [intOf]; omega
    · go_wp2_with fail
      go_ret
      refine ⟨ret_int ?_, rfl⟩
      rw [Hb.out, List.drop_of_length_le (by omega)]
      rfl

theorem noneAt_nonneg (l : List Int) (i : Nat) : (0 ≤ noneAt l i ↔ allNum l = false) ∧ -1 ≤ noneAt l i := by
  induction l generalizing i with
  | nil => simp [noneAt, allNum]
  | cons e es ih =>
    have := ih (i + 1)
    cases h : numB e <;> simp [noneAt, allNum, h] at this ⊢ <;> first | omega | simpa [allNum] using this | skip

set_option maxHeartbeats 400000 in
theorem ContainsFuncI_any (v : Value) (l : List Int) (w : World) (h : Is w v l) :
    Calls Tryd.prog 54 #[v, .func (.func 55) #[] #[]] w fun e w' => e = .returned (.bool (!allNum l)) ∧ w = w' := by
  obtain ⟨h1, h2⟩ := noneAt_nonneg l 0
  have H1 := Lib.hid h1
  clear h1
  go_enter Tryd.func54, Tryd.ntmps54
  go_wp2_with (go_at_call 63; refine (IndexFuncI_any _ _ _ h).mono ?_; rintro e w' ⟨rfl, rfl⟩)
  go_ret
  refine ⟨ret_bool ?_, rfl⟩
  have := H1.out
  cases h : allNum l <;> simp [h] at this ⊢ <;> omega

set_option maxHeartbeats 400000 in
theorem Is_any (v : Value) (l : List Int) (w : World) (h : Is w v l) :
    Calls Tryd.prog 44 #[v] w fun e w' => e = .returned (.bool (allNum l)) ∧ w = w' := by
  go_enter Tryd.func44, Tryd.ntmps44
  go_wp2_with (go_at_call 54; refine (ContainsFuncI_any _ _ _ h).mono ?_; rintro e w' ⟨rfl, rfl⟩)
  go_ret
  exact ⟨ret_bool (by simp), rfl⟩

theorem allNum_false {l : List Int} {k : Nat} (hlt : k < l.length) (h : numB l[k] = false) : allNum l = false := by
  simp only [allNum, List.all_eq_false]
  exact ⟨l[k], List.getElem_mem hlt, by simp [h]⟩
theorem allNum_take {l : List Int} {k : Nat} (hlt : k < l.length) (h : allNum (l.take k) = true) : allNum (l.take (k + 1)) = numB l[k] := by
  rw [List.take_succ_eq_append_getElem hlt]
  simp only [allNum, List.all_append] at h ⊢
  rw [h]; simp

end Go.Proofs.YtkpdlkikkcnhiaaDoor

namespace Go.Proofs.YtkpdlkikkcnhiaaDoor
open Go.RowKit Go.Mv

/-- The digits ahead of the last one, each with its highest bit set. -/
def hiB : Nat → Nat → List UInt8
  | 0, _ => []
  | f + 1, m => if m = 0 then [] else hiB f (m / 128) ++ [UInt8.ofNat (m % 128 + 128)]

theorem or128 (m : Nat) : UInt8.ofNat (m % 128) ||| 128 = UInt8.ofNat (m % 128 + 128) := by
  have h2 : ∀ m : Nat, m < 128 → UInt8.ofNat m ||| 128 = UInt8.ofNat (m + 128) := by decide
  exact h2 _ (Nat.mod_lt _ (by decide))

theorem hiB_zero (f : Nat) : hiB f 0 = [] := by cases f <;> simp [hiB]

theorem short1_eq (n : Nat) (hn : n ≤ 1073741824) : short1 n = hiB 5 (n / 128) ++ [UInt8.ofNat (n % 128)] := by
  unfold short1
  congr 1
  have d2 : n / 128 / 128 = n / 16384 := by omega
  have d3 : n / 16384 / 128 = n / 2097152 := by omega
  have d4 : n / 2097152 / 128 = n / 268435456 := by omega
  have d5 : n / 268435456 / 128 = 0 := by omega
  by_cases h4 : n / 268435456 = 0
  · by_cases h3 : n / 2097152 = 0
    · by_cases h2 : n / 16384 = 0
      · by_cases h1 : n / 128 = 0
        · simp [digRec, hiB, h1, h2, h3, h4]
        · simp [digRec, hiB, d2, d3, d4, d5, h1, h2, h3, h4, or128]
      · have h1 : n / 128 ≠ 0 := by omega
        simp [digRec, hiB, d2, d3, d4, d5, h1, h2, h3, h4, or128]
    · have h1 : n / 128 ≠ 0 := by omega
      have h2 : n / 16384 ≠ 0 := by omega
      simp [digRec, hiB, d2, d3, d4, d5, h1, h2, h3, h4, or128]
  · have h1 : n / 128 ≠ 0 := by omega
    have h2 : n / 16384 ≠ 0 := by omega
    have h3 : n / 2097152 ≠ 0 := by omega
    simp [digRec, hiB, d2, d3, d4, d5, h1, h2, h3, h4, or128]
end Go.Proofs.YtkpdlkikkcnhiaaDoor

namespace Go.Proofs.YtkpdlkikkcnhiaaDoor
open Go.RowKit Go.Mv

def ShortOk (w : World) (l : List Int) (e : Ending) (w' : World) : Prop :=
  ∃ v, e = .returned (.tuple #[v, .int .i64 0]) ∧ w'.ownsRow w.heap.size 5 1 v (shorts l).length ((shorts l).map bv) ∧ Ext w w'
def ShortBad (w : World) (e : Ending) (w' : World) : Prop := e = .returned (.tuple #[.slice none 0 0, .int .i64 2]) ∧ Ext w w'

theorem short1_len (n : Nat) : 1 ≤ (short1 n).length ∧ (short1 n).length ≤ 5 := by
  have := digRec_len 7 n true 4
  simp [short1]; omega
theorem shorts_len (l : List Int) : (shorts l).length ≤ 5 * l.length := by
  induction l with
  | nil => simp [shorts]
  | cons n l ih => have := (short1_len n.toNat).2; simp [shorts] at ih ⊢; omega
theorem shorts_take {l : List Int} {k : Nat} (h : k < l.length) : shorts (l.take (k + 1)) = shorts (l.take k) ++ short1 l[k].toNat := by
  rw [List.take_succ_eq_append_getElem h]; unfold shorts; rw [List.flatMap_append]; simp
theorem num_of_all {l : List Int} (h : allNum l = true) {k : Nat} (hk : k < l.length) : 0 ≤ l[k] ∧ l[k] ≤ 1073741824 := by
  have := List.all_eq_true.1 h l[k] (List.getElem_mem hk)
  simpa [numB] using this

set_option maxRecDepth 100000 in
set_option maxHeartbeats 400000 in
theorem put_bad (v : Value) (l : List Int) (w : World) (h : Is w v l) (hn : allNum l = false) (f : Value) :
    Calls Tryd.prog 37 #[v, f] w (ShortBad w) := by
  go_enter Tryd.func37, Tryd.ntmps37
  go_wp2_with (go_at_call 44; refine (Is_any _ _ _ h).mono ?_; rintro e w' ⟨rfl, rfl⟩)
  go_ret2
  exact ⟨rfl, Ext.refl _⟩

set_option maxRecDepth 100000 in
set_option maxHeartbeats 400000 in
theorem putShort_ok (v : Value) (l : List Int) (w : World) (h : Is w v l) (hn : allNum l = true) (hl : l.length ≤ 1000000) :
    Calls Tryd.prog 37 #[v, .func (.func 53) #[] #[]] w (ShortOk w l) := by
  obtain ⟨A, c, rfl, h1, h2⟩ := SlR.open_ h
  have Hn := Lib.hid hn
  go_enter Tryd.func37, Tryd.ntmps37
  go_wp2_with (go_at_call 44; refine (Is_any _ _ _ h).mono ?_; rintro e w' ⟨rfl, rfl⟩)
  clear hn
  go_loopw [4, 13] (fun vb i wr => ∃ k : Nat, k ≤ l.length ∧ i = .int .i64 k ∧ wr.ownsRow w.heap.size 5 1 vb (shorts (l.take k)).length ((shorts (l.take k)).map bv) ∧ Ext w wr) (fun _ i _ => l.length - (intOf i).toNat)
  case atStart => exact ⟨0, Nat.zero_le _, rfl, World.ownsRow_nil _ _ _ _, Ext.refl _⟩
  case round =>
    obtain ⟨k, hk, rfl, hown, hB⟩ := hrel
    by_cases hlt : k < l.length
    · obtain ⟨_, b, off, rfl, hc⟩ := Is.at_ (h.ext hB) (by omega)
      have hc0 := hc k hlt
      clear hc
      obtain ⟨hn0, hn1⟩ := num_of_all Hn.out hlt
      have hsl := shorts_len (l.take k)
      have htl : (l.take k).length ≤ k := List.length_take_le _ _
      have key := Short1_any (shorts (l.take k)) l[k].toNat (by omega) _ w.heap.size wr hown hB.size (by omega)
      rw [Int.toNat_of_nonneg hn0] at key
      have Key := Lib.hid key
      clear key
      go_wp2_with (go_at_call 53; refine Key.out.mono ?_; rintro e w1 ⟨v', rfl, hown', hB'⟩)
      go_roundw
      case rel => exact ⟨k + 1, by omega, by go_num, by rw [shorts_take hlt]; exact hown', Below.trans hB hB'⟩
      case measure => simp [intOf]; omega
    · have hk' : l.take k = l := List.take_of_length_le (by omega)
      rw [hk'] at hown
      clear hk'
      go_wp2_with fail
      go_ret2
      exact ⟨_, rfl, hown, hB⟩

set_option maxHeartbeats 400000 in
theorem Short_bad (v : Value) (l : List Int) (w : World) (h : Is w v l) (hn : allNum l = false) : Calls Tryd.prog 43 #[v] w (ShortBad w) := by
  go_enter Tryd.func43, Tryd.ntmps43
  go_wp2_with (go_at_call 37; refine (put_bad _ _ _ h hn _).mono ?_; rintro e w' ⟨rfl, hb⟩)
  go_ret2
  exact ⟨rfl, hb⟩

set_option maxHeartbeats 400000 in
theorem Short_ok (v : Value) (l : List Int) (w : World) (h : Is w v l) (hn : allNum l = true) (hl : l.length ≤ 1000000) : Calls Tryd.prog 43 #[v] w (ShortOk w l) := by
  go_enter Tryd.func43, Tryd.ntmps43
  go_wp2_with (go_at_call 37; refine (putShort_ok _ _ _ h hn hl).mono ?_; rintro e w' ⟨v', rfl, ho, hb⟩)
  go_ret2
  exact ⟨_, rfl, ho, hb⟩
end Go.Proofs.YtkpdlkikkcnhiaaDoor

namespace Go.Proofs.YtkpdlkikkcnhiaaDoor
open Go.RowKit Go.Mv Go.Shelf

/-- A number taken off bytes: the error, the number, the rest. -/
def takeGo : Nat → Nat → List UInt8 → Int × Nat × List UInt8
  | 0, _, _ => (11, 0, [])
  | _ + 1, _, [] => (10, 0, [])
  | f + 1, n, b :: l => if 128 ≤ b.toNat then takeGo f (n * 128 + b.toNat % 128) l else if n * 128 + b.toNat % 128 ≤ 1073741824 then (0, n * 128 + b.toNat % 128, l) else (11, 0, [])
def takeS (l : List UInt8) : Int × Nat × List UInt8 := if l.head? = some 128 then (11, 0, []) else takeGo 5 0 l

/-- What a taking call tells. -/
def TakeP (w : World) (r : Int × Nat × List UInt8) (e : Ending) (w' : World) : Prop :=
  ∃ v, e = .returned (.tuple #[.int .i64 r.2.1, v, .int .i64 r.1]) ∧ w'.ownsRow w.heap.size 5 1 v r.2.2.length (r.2.2.map bv) ∧ Ext w w'

theorem Bs.at_ {w : World} {A : Option Addr} {m c : Nat} {l : List UInt8} (h : Bs w (.slice A m c) l) (hn : 0 < l.length) : m = l.length ∧ ∃ b off, A = some ⟨b, off, none⟩ ∧ ∀ (k : Nat) (hk : k < l.length), w.cell? ⟨b, off + k, none⟩ = some (.int .u8 (l[k].toNat : Int)) := by
  obtain ⟨rfl, b, off, rfl, hc⟩ := SlR.at_ h hn
  exact ⟨rfl, b, off, rfl, fun k hk => hc k _ (by simp [List.getElem?_eq_getElem hk, bv])⟩

def TkR (bs : List UInt8) (A : Option Addr) (c : Nat) (w : World) (a : Act) (w' : World) : Prop :=
  ∃ (i n : Nat) (u6 u7 u8 u9 u10 u11 u12 u13 u14 u15 u16 u17 u18 u19 u20 u21 u22 u23 u24 u25 u26 u27 u28 u29 u30 u31 u32 u33 u34 u35 u36 u37 u38 u39 u40 u41 u42 u43 u44 u45 u46 u47 u48 : Value), (i ≤ 5 ∧ i ≤ bs.length ∧ n < 128 ^ i ∧ Hid (takeS bs = takeGo (5 - i) n (bs.drop i)) ∧ w = w') ∧ a = ⟨#[.slice A bs.length c, undef, .int .i64 n, .slice none 0 0, .int .i64 0, .int .i64 i, u6, u7, u8, u9, u10, u11, u12, u13, u14, u15, u16, u17, u18, u19, u20, u21, u22, u23, u24, u25, u26, u27, u28, u29, u30, u31, u32, u33, u34, u35, u36, u37, u38, u39, u40, u41, u42, u43, u44, u45, u46, u47, u48], []⟩

set_option maxRecDepth 100000 in
set_option maxHeartbeats 1000000 in
theorem Take_any (v : Value) (bs : List UInt8) (w : World) (hBs : Bs w v bs) (hl : bs.length ≤ 140737488355328) : Calls Tryd.prog 47 #[v] w (TakeP w (takeS bs)) := by
  obtain ⟨A, c, rfl, h1, h2⟩ := SlR.open_ hBs
  refine (callsIn_wd (ro := none) (n := 9)).1 ?_
  refine callsIn_of_wp Tryd.func47 rfl trivial ?_ rfl
  simp only [Tryd.ntmps47, List.size_toArray, List.length_cons, List.length_nil, Nat.reduceAdd, Nat.reduceSub, Array.replicate_succ, Array.replicate_zero, List.push_toArray, List.append_toArray, List.nil_append, List.cons_append]
  gi_wp2
  refine wpIn_scope_lab 0 (TkR bs A c w) (fun a _ => 5 - (intOf (a.tmps.getD 5 undef)).toNat) rfl (fun l' h => by cases l' <;> first | exact absurd rfl h | rfl) ?_ ?_
  · intro hrest
    have Hrest := Lib.hid hrest
    clear hrest
    by_cases h0 : bs.length = 0
    · have hz : ¬ (0 < bs.length) := by omega
      have hb : bs = [] := List.eq_nil_of_length_eq_zero h0
      subst hb
      have HTK : Hid (takeS [] = takeGo (5 - 0) 0 ([].drop 0)) := rfl
      gi_wp2
      refine wpIn_label ?_
      gi_step
      gi_step
      exact Hrest.out _ _ ⟨0, 0, _, _, _, _, _, _, _, _, _, _, _, _, _, _, _, _, _, _, _, _, _, _, _, _, _, _, _, _, _, _, _, _, _, _, _, _, _, _, _, _, _, _, _, ⟨by omega, by simp, by decide, HTK, rfl⟩, rfl⟩
    · obtain ⟨_, b, off, rfl, hc⟩ := Bs.at_ hBs (by omega)
      have hc0 : w.cell? ⟨b, off, none⟩ = some (.int .u8 (bs[0].toNat : Int)) := hc 0 (by omega)
      by_cases h128 : bs[0].toNat = 128
      · have e : ((bs[0].toNat : Int) == 128) = true := by simp; omega
        have ht : takeS bs = (11, 0, []) := by
          have : bs[0] = 128 := by apply UInt8.toNat_inj.1; simpa using h128
          cases bs with
          | nil => simp at h0
          | cons x l => simp at this; simp [takeS, this]
        have Ht := Lib.hid ht
        clear ht hc
        gi_wp2
        refine jumps_ret ?_
        go_ret3
        exact ⟨_, by rw [Ht.out]; rfl, by rw [Ht.out]; exact World.ownsRow_nil _ _ _ _, Ext.refl _⟩
      · have e : ((bs[0].toNat : Int) == 128) = false := by simp; omega
        have ht : takeS bs = takeGo (5 - 0) 0 (bs.drop 0) := by
          have : bs[0] ≠ 128 := fun e => h128 (by rw [e]; rfl)
          cases bs with
          | nil => simp at h0
          | cons x l => simp at this; simp [takeS, this]
        have HTK := Lib.hid ht
        clear ht hc
        gi_wp2
        refine wpIn_label ?_
        gi_step
        gi_step
        exact Hrest.out _ _ ⟨0, 0, _, _, _, _, _, _, _, _, _, _, _, _, _, _, _, _, _, _, _, _, _, _, _, _, _, _, _, _, _, _, _, _, _, _, _, _, _, _, _, _, _, _, _, ⟨by omega, by omega, by decide, HTK, rfl⟩, rfl⟩
  · intro a w' hR
    obtain ⟨i, n, u6, u7, u8, u9, u10, u11, u12, u13, u14, u15, u16, u17, u18, u19, u20, u21, u22, u23, u24, u25, u26, u27, u28, u29, u30, u31, u32, u33, u34, u35, u36, u37, u38, u39, u40, u41, u42, u43, u44, u45, u46, u47, u48, ⟨hi5, hil, hn, HT, rfl⟩, rfl⟩ := hR
    by_cases h5 : i = 5
    · subst h5
      gi_wp2
      refine jumps_ret ?_
      go_ret3
      have ht : takeS bs = (11, 0, []) := HT.out
      exact ⟨_, by rw [ht]; rfl, by rw [ht]; exact World.ownsRow_nil _ _ _ _, Ext.refl _⟩
    have e1 : ((i : Int) == 5) = false := by simp; omega
    have hi4 : i ≤ 4 := by omega
    have hf : 5 - i = (4 - i) + 1 := by omega
    have hT := HT.out
    rw [hf] at hT
    by_cases hlen : i = bs.length
    · have e2 : ((i : Int) == (bs.length : Int)) = true := by simp; omega
      have ht : takeS bs = (10, 0, []) := by
        rw [hT, List.drop_of_length_le (by omega), takeGo]
      have Ht := Lib.hid ht
      clear ht hT hf hlen
      gi_wp2
      refine jumps_ret ?_
      go_ret3
      exact ⟨_, by rw [Ht.out]; rfl, by rw [Ht.out]; exact World.ownsRow_nil _ _ _ _, Ext.refl _⟩
    obtain ⟨_, b, off, rfl, hc⟩ := Bs.at_ hBs (by omega)
    have hlt : i < bs.length := by omega
    have hci := hc i hlt
    have e2 : ((i : Int) == (bs.length : Int)) = false := by simp; omega
    rw [List.drop_eq_getElem_cons hlt, takeGo] at hT
    have hnb : n < 268435456 := Nat.lt_of_lt_of_le hn (Nat.le_trans (Nat.pow_le_pow_right (by decide) hi4) (by decide))
    have hq := bs[i].toNat_lt
    generalize bs[i].toNat = q at *
    have ha : bits .and .u8 (q : Int) 127 = (q : Int) % 128 := bits_mask .u8 8 (by decide) wraps_u8 7 (by decide) _ (by omega) (by omega)
    have ho : bits .or .i64 ((n : Int) * 128) ((q : Int) % 128) = (n : Int) * 128 + (q : Int) % 128 := bits_join .i64 62 (by decide) wraps_i64 7 _ _ (by omega) (by omega) (by omega) (by omega) (by omega) (by omega)
    have HT2 := Lib.hid hT
    have hn' : n * 128 + q % 128 < 128 ^ (i + 1) := by rw [Nat.pow_succ]; omega
    have Hn' := Lib.hid hn'
    clear hT hf hc hn' hn HT
    by_cases hb : 128 ≤ q
    · have hT3 := HT2.out
      rw [if_pos hb] at hT3
      have HT3 := Lib.hid hT3
      clear hT3
      gi_wp2
      refine wpIn_goto ?_
      try simp only [Exit.then]
      refine jumps_goto (by simp) ⟨?_, by simp [intOf]; omega⟩
      have ec : ((n : Int) * 128 + (q : Int) % 128) = ((n * 128 + q % 128 : Nat) : Int) := by simp
      rw [ec]
      exact ⟨i + 1, n * 128 + q % 128, _, _, _, _, _, _, _, _, _, _, _, _, _, _, _, _, _, _, _, _, _, _, _, _, _, _, _, _, _, _, _, _, _, _, _, _, _, _, _, _, _, _, _, ⟨by omega, by omega, Hn'.out, by show _ = _; rw [HT3.out, show 5 - (i + 1) = 4 - i from by omega], rfl⟩, rfl⟩
    · have hIs := SlR.of_own (own_new w [.int .i64 ((n : Int) * 128 + (q : Int) % 128)] 3 1 rfl (by simp [maxLen]) (Nat.le_refl _))
      have hIs' : Is (w.alloc (.cells #[.int .i64 ((n : Int) * 128 + (q : Int) % 128)] 3)) (.slice (some ⟨w.heap.size, 0, none⟩) 1 1) [(n : Int) * 128 + (q : Int) % 128] := hIs
      clear hIs
      gi_wp2_with (refine ⟨trivial, ?_⟩; gi_at_call 44; refine (callsIn_wd.2 (Is_any _ _ _ hIs')).mono ?_; rintro e w' ⟨rfl, rfl⟩)
      · refine jumps_ret ?_
        go_ret3
        have hbad : (!allNum [(n : Int) * 128 + (q : Int) % 128]) = true := by assumption
        have ht := HT2.out
        rw [if_neg hb, if_neg (by simp [allNum, numB] at hbad; omega)] at ht
        exact ⟨_, by rw [ht]; rfl, by rw [ht]; exact World.ownsRow_nil _ _ _ _, Ext.alloc (Ext.refl _) _⟩
      all_goals
        have hgood : (!allNum [(n : Int) * 128 + (q : Int) % 128]) = false := by assumption
        have ht := HT2.out
        rw [if_neg hb, if_pos (by simp [allNum, numB] at hgood; omega)] at ht
        have Ht := Lib.hid ht
        clear ht hgood HT2
      · refine ⟨trivial, (callsIn_wd.2 (Clone_any _ (bs.drop (i + 1)) _ (Bs.cut0 (by omega) rfl (by omega)) (by simp; omega))).mono ?_⟩
        rintro e w1 ⟨v', rfl, ho, hE⟩
        gi_wp2
        refine jumps_ret ?_
        go_ret3
        exact ⟨v', by rw [Ht.out]; simp, by rw [Ht.out]; exact own_base ho (by simp), Ext.trans (Ext.alloc (Ext.refl _) _) hE⟩
      · refine ⟨trivial, (callsIn_wd.2 (Clone_any _ (bs.drop (i + 1)) _ (Bs.cut (hBs.ext (Ext.alloc (Ext.refl _) _)) (i + 1) (by omega) rfl) (by simp; omega))).mono ?_⟩
        rintro e w1 ⟨v', rfl, ho, hE⟩
        gi_wp2
        refine jumps_ret ?_
        go_ret3
        exact ⟨v', by rw [Ht.out]; simp, by rw [Ht.out]; exact own_base ho (by simp), Ext.trans (Ext.alloc (Ext.refl _) _) hE⟩
end Go.Proofs.YtkpdlkikkcnhiaaDoor

namespace Go.Proofs.YtkpdlkikkcnhiaaDoor
open Go.RowKit Go.Mv

end Go.Proofs.YtkpdlkikkcnhiaaDoor

namespace Go.Proofs.YtkpdlkikkcnhiaaDoor
open Go.RowKit Go.Mv

/-- So many numbers taken off bytes, behind those that have come. -/
def takesGo : Nat → List Int → List UInt8 → Int × List Int × List UInt8
  | 0, acc, bs => (0, acc, bs)
  | k + 1, acc, bs => if (takeS bs).1 = 0 then takesGo k (acc ++ [((takeS bs).2.1 : Int)]) (takeS bs).2.2 else ((takeS bs).1, [], [])
def TakesP (w : World) (r : Int × List Int × List UInt8) (e : Ending) (w' : World) : Prop :=
  ∃ vl vr, e = .returned (.tuple #[vl, vr, .int .i64 r.1]) ∧ w'.ownsRow w.heap.size 3 1 vl r.2.1.length (r.2.1.map iv) ∧ w'.ownsRow w.heap.size 5 1 vr r.2.2.length (r.2.2.map bv) ∧ Ext w w'

theorem takeGo_rest (f n : Nat) (l : List UInt8) : (takeGo f n l).2.2.length ≤ l.length := by
  induction f generalizing n l with
  | zero => simp [takeGo]
  | succ f ih =>
    cases l with
    | nil => simp [takeGo]
    | cons b l =>
      simp only [takeGo]
      split
      · have := ih (n * 128 + b.toNat % 128) l; simp; omega
      · split <;> simp
theorem takeS_rest (l : List UInt8) : (takeS l).2.2.length ≤ l.length := by
  unfold takeS; split
  · simp
  · exact takeGo_rest _ _ _
theorem info_int : (Tryd.prog.info? 3).map (fun i => (i.zero, i.size, i.bytes)) = some (some (.int .i64 0), 1, 8) := by kernel_rfl

set_option maxRecDepth 100000 in
set_option maxHeartbeats 1000000 in
theorem Takes_any (v : Value) (bs : List UInt8) (many : Nat) (hm : many ≤ 1000000) (w : World) (hBs : Bs w v bs) (hl : bs.length ≤ 140737488355328) : Calls Tryd.prog 32 #[v, .int .i64 many] w (TakesP w (takesGo many [] bs)) := by
  obtain ⟨i0, hi, hz0, hz1, hz2⟩ := info_parts info_int
  go_enter Tryd.func32, Tryd.ntmps32
  go_wp2_with (go_at_call 45; refine (Clone_any _ _ _ hBs hl).mono ?_; rintro e w1 ⟨v1, rfl, ho1, hE1⟩)
  go_loopw [4, 5, 6, 11] (fun vl vr er i wr => ∃ (k : Nat) (acc : List Int) (rest : List UInt8), k ≤ many ∧ i = .int .i64 k ∧ er = .int .i64 0 ∧ acc.length ≤ k ∧ rest.length ≤ bs.length ∧ Hid (takesGo many [] bs = takesGo (many - k) acc rest) ∧
      wr.ownsRow w.heap.size 3 1 vl acc.length (acc.map iv) ∧ wr.ownsRow w.heap.size 5 1 vr rest.length (rest.map bv) ∧ Ext w wr) (fun _ _ _ i _ => many - (intOf i).toNat)
  case atStart => exact ⟨0, [], bs, Nat.zero_le _, rfl, rfl, by simp, Nat.le_refl _, rfl, World.ownsRow_nil _ _ _ _, ho1, hE1⟩
  case round =>
    
    obtain ⟨k, acc, rest, hk, rfl, rfl, hacc, hrest, HT, hown, hbr, hE⟩ := hrel
    by_cases hlt : k < many
    · have hT := HT.out
      rw [show many - k = (many - k - 1) + 1 from by omega, takesGo] at hT
      have hrr := takeS_rest rest
      have key := Take_any _ rest wr (SlR.of_own hbr) (by omega)
      rcases hts : takeS rest with ⟨er, n, r2⟩
      rw [hts] at hT hrr key
      simp only at hT hrr
      by_cases her : er = 0
      · subst her
        simp only [if_true] at hT
        have HT2 := Lib.hid hT
        have Key := Lib.hid key
        clear hT HT key hts
        go_wp2_with (first
          | (go_at_call 47; refine Key.out.mono ?_; rintro e w2 ⟨v2, rfl, hb2, hE2⟩)
          | (at_builtin; refine wpList_append_sl _ rfl (.tmp 22) (.tmp 24) 43 rfl w.heap.size 3 i0 (.int .i64 0) 1 8 Tryd.underlying43 hi hz0 hz1 hz2 rfl (by decide) _ acc.length (acc.map iv) rfl (own_ext hown (Ext.alloc hE2 _)) (.slice (some ⟨w2.heap.size, 0, none⟩) 1 1) 1 [.int .i64 n] rfl (SlR.of_own (own_new w2 [.int .i64 n] 3 1 rfl (by simp [maxLen]) (Nat.le_refl _))) (by simp [Value.oneCell']) (by unfold maxLen; omega) (by omega) (by have := hE.size; have := hE2.size; simp; omega) ?_; intro v' w3 hown' hgrow))
        go_roundw
        case rel =>
          have hE3 : Ext w w3 := Ext.grownOwn (Ext.alloc (Ext.trans hE hE2) _) (own_ext hown (Ext.alloc hE2 _)) hgrow
          refine ⟨k + 1, acc ++ [(n : Int)], r2, by omega, by go_num, rfl, by simp; omega, by omega, ?_, by simpa [iv] using hown', ?_, hE3⟩
          · show _ = _; rw [HT2.out, show many - (k + 1) = many - k - 1 from by omega]
          · have hb3 : (w2.alloc (.cells #[.int .i64 n] 3)).ownsRow w.heap.size 5 1 v2 r2.length (r2.map bv) := own_ext (own_base hb2 hE.size) (Ext.alloc (Ext.refl _) _)
            have ho3 : (w2.alloc (.cells #[.int .i64 n] 3)).ownsRow w.heap.size 3 1 _ acc.length (acc.map iv) := own_ext hown (Ext.alloc hE2 _)
            exact hb3.kept hgrow (own_apart hb3 ho3 (by decide))
        case measure => simp [intOf]; omega
      · have hne : ((er : Int) != 0) = true := by simp [her]
        rw [if_neg her] at hT
        have HT2 := Lib.hid hT
        have Key := Lib.hid key
        clear hT HT key hts
        go_wp2_with (go_at_call 47; refine Key.out.mono ?_; rintro e w2 ⟨v2, rfl, hb2, hE2⟩)
        go_ret3
        exact ⟨_, _, by rw [HT2.out]; rfl, by rw [HT2.out]; exact World.ownsRow_nil _ _ _ _, by rw [HT2.out]; exact World.ownsRow_nil _ _ _ _, Ext.trans hE hE2⟩
    · have hT := HT.out
      rw [show many - k = 0 from by omega, takesGo] at hT
      have HT2 := Lib.hid hT
      clear hT HT
      go_wp2_with fail
      go_ret3
      exact ⟨_, _, by rw [HT2.out]; rfl, by rw [HT2.out]; exact hown, by rw [HT2.out]; exact hbr, hE⟩
end Go.Proofs.YtkpdlkikkcnhiaaDoor

namespace Go.Proofs.YtkpdlkikkcnhiaaDoor
open Go.RowKit Go.Mv

end Go.Proofs.YtkpdlkikkcnhiaaDoor

namespace Go.Mv
open Go.RowKit
/-- The point behind bytes. -/
def chainP (p : Nat × Nat) (bs : List UInt8) : Nat × Nat := bs.foldl nextP p
theorem chainP_snoc (p : Nat × Nat) (bs : List UInt8) (b : UInt8) : chainP p (bs ++ [b]) = nextP (chainP p bs) b := by unfold chainP; rw [List.foldl_append]; rfl
theorem chainP_append (p : Nat × Nat) (a b : List UInt8) : chainP p (a ++ b) = chainP (chainP p a) b := by unfold chainP; rw [List.foldl_append]
theorem PtV.pt {v : Value} {p : Nat × Nat} (h : PtV v p) : ptV v = p := by
  obtain ⟨a, b, rfl, ha, hb⟩ := h
  unfold ptV; simp only [ha, hb]
theorem PtV.zero : PtV (.complex .f64 0 0) (0, 0) := ⟨0, 0, rfl, ptOf_of_fl fl_zero (by decide) (fun h => by cases h), ptOf_of_fl fl_zero (by decide) (fun h => by cases h)⟩
theorem ptV_right {a b : Nat} (h : ((ptOf a).isSome && (ptOf b).isSome) = true) : PtV (.complex .f64 a b) (ptV (.complex .f64 a b)) := by
  obtain ⟨x, ha⟩ : ∃ x, ptOf a = some x := by cases h : ptOf a <;> simp_all
  obtain ⟨y, hb⟩ : ∃ y, ptOf b = some y := by cases h : ptOf b <;> simp_all
  have e : ptV (.complex .f64 a b) = (x, y) := by unfold ptV; simp only [ha, hb]
  rw [e]; exact ⟨a, b, rfl, ha, hb⟩
theorem ptV_not {a b : Nat} (h : ((ptOf a).isSome && (ptOf b).isSome) = false) : ptV (.complex .f64 a b) = (0, 0) := by
  unfold ptV
  cases ha : ptOf a <;> cases hb : ptOf b <;> simp_all
end Go.Mv
namespace Go.Proofs.YtkpdlkikkcnhiaaDoor
open Go.RowKit Go.Mv
set_option maxRecDepth 100000

def ChainP (v : Value) (bs : List UInt8) (w : World) (e : Ending) (w' : World) : Prop := ∃ v', e = .returned v' ∧ PtV v' (chainP (ptV v) bs) ∧ w = w'

end Go.Proofs.YtkpdlkikkcnhiaaDoor

namespace Go.Proofs.YtkpdlkikkcnhiaaDoor
open Go.RowKit Go.Mv Go.Shelf
attribute [local go_sem] Oper.semAt_some
set_option maxRecDepth 100000

theorem split_at_ {α : Type} (l : List α) (m : Nat) (h : m < l.length) (R : List α) : l ++ R = l.take m ++ l[m] :: (l.drop (m + 1) ++ R) := by
  have e := List.take_append_drop m l
  rw [List.drop_eq_getElem_cons h] at e
  calc l ++ R = (l.take m ++ l[m] :: l.drop (m + 1)) ++ R := by rw [e]
    _ = _ := by rw [List.append_assoc, List.cons_append]
/-- What lay in wo lies in W. -/
def Hold (wo W : World) : Prop := ∀ p u, wo.cell? p = some u → W.cell? p = some u
theorem Hold.kept {wo W W' : World} {bz n : Nat} (h : Hold wo W) (hbz : wo.heap.size ≤ bz) (hk : Kept (orOther (fun k o => k ≠ bz ∧ o.isCells = true) n) W W') : Hold wo W' := by
  intro p u hp
  have hlt := World.block_lt_of_cell? wo p hp
  obtain ⟨o, ho, hc⟩ := cells_of_cell (h p u hp)
  exact hk.cell (h p u hp) (fun o' ho' => by rw [ho] at ho'; cases ho'; exact .inl ⟨by omega, hc⟩)

set_option maxHeartbeats 1000000 in
theorem bytes1_seq (wo W0 : World) (vp : Value) (bss : List (List UInt8)) (hP : Parts wo vp bss) (hE : Hold wo W0) (bz B : Nat) (hbz : wo.heap.size ≤ bz) (hB : Boxed W0 B 65 vp) :
    Seq Tryd.prog 58 #[.pointer (some ⟨B, 0, none⟩)]
      (fun (d : UInt8) av _ => av = #[bv d]) (fun k o => k ≠ bz ∧ o.isCells = true) (fun _ _ => False) bss.flatten W0 := by
  intro l J Jx hJ hJx hY h0
  obtain ⟨vs, hvl, hsl, hvs⟩ := hP
  obtain ⟨A, c, rfl, h1, h2⟩ := SlR.open_ hsl
  have hv1 : vs.length ≤ bss.length := by omega
  have hv2 : bss.length ≤ vs.length := by omega
  have hc1 := hB.cell
  clear hvl hB
  refine (callsIn_wd (ro := none) (n := 9)).1 ?_
  refine callsIn_of_wp Tryd.func58 rfl trivial ?_ rfl
  simp only [Tryd.ntmps58, List.size_toArray, List.length_cons, List.length_nil, Nat.reduceAdd, Nat.reduceSub, Array.replicate_succ, Array.replicate_zero, List.push_toArray, List.append_toArray, List.nil_append, List.cons_append]
  gi_wp2
  gi_loopw [9] (fun j W => ∃ k : Nat, k ≤ bss.length ∧ j = .int .i64 k ∧ Hid (J (bss.take k).flatten W) ∧ Hid (Hold wo W) ∧ W0.heap.size ≤ W.heap.size) (fun j _ => bss.length - (intOf j).toNat)
  case atStart => exact ⟨0, Nat.zero_le _, rfl, h0, hE, Nat.le_refl _⟩
  case round =>
    obtain ⟨k, hk, rfl, HJ, HH, hsz⟩ := hrel
    by_cases hlt : k < bss.length
    · obtain ⟨_, ba, off, rfl, hc⟩ := SlR.at_ hsl (by omega)
      have hkv : k < vs.length := by omega
      have hck := hc k vs[k] (List.getElem?_eq_getElem hkv)
      have hbk := hvs k hkv hlt
      obtain ⟨A', c', hvk, h3, h4⟩ := SlR.open_ hbk
      rw [hvk] at hck hbk
      have hck' := HH.out _ _ hck
      have hft := flat_take bss k hlt
      have hfa : bss.flatten = (bss.take k).flatten ++ (bss[k] ++ (bss.drop (k + 1)).flatten) := by
        conv => lhs; rw [← List.take_append_drop (k + 1) bss, List.flatten_append, hft, List.append_assoc]
      have Hft := Lib.hid hft
      have Hfa := Lib.hid hfa
      generalize bss[k] = bk at *
      clear hc hvk hft hfa hck
      gi_wp2
      gi_loopw [15] (fun j W => ∃ m : Nat, m ≤ bk.length ∧ j = .int .i64 m ∧ Hid (J ((bss.take k).flatten ++ bk.take m) W) ∧ Hid (Hold wo W) ∧ W0.heap.size ≤ W.heap.size) (fun j _ => bk.length - (intOf j).toNat)
      case atStart => exact ⟨0, Nat.zero_le _, rfl, by show J _ _; rw [List.take_zero, List.append_nil]; exact HJ.out, HH, hsz⟩
      case round =>
        obtain ⟨m, hm, rfl, HQ, HH2, hsz2⟩ := hrel
        by_cases hlt2 : m < bk.length
        · obtain ⟨_, b2, off2, e2, hc2⟩ := Bs.at_ hbk (by omega)
          cases e2
          have hcm := HH2.out _ _ (hc2 m hlt2)
          have htk : bk.take (m + 1) = bk.take m ++ [bk[m]] := List.take_succ_eq_append_getElem hlt2
          have hfin : bss.flatten = ((bss.take k).flatten ++ bk.take m) ++ bk[m] :: (bk.drop (m + 1) ++ (bss.drop (k + 1)).flatten) := by
            rw [Hfa.out, split_at_ bk m hlt2, List.append_assoc]
          have hy := hY _ _ _ hfin _ #[bv bk[m]] HQ.out hsz2 rfl
          have Htk := Lib.hid htk
          have Hfin := Lib.hid hfin
          generalize bk[m] = bm at *
          have key : ∀ (o : Oper) (a : Act) (next : Act → World → Prop) (Q : Exit → Act → World → Prop) (W : World),
              Mv.YieldsAt Tryd.prog l #[bv bm] W (fun e W' => Kept (orOther (fun k o => k ≠ bz ∧ o.isCells = true) W0.heap.size) W W' ∧ ((e = .returned (.bool true) ∧ J ((bss.take k).flatten ++ bk.take m ++ [bm]) W') ∨ (e = .returned (.bool false) ∧ Jx ((bss.take k).flatten ++ bk.take m ++ [bm]) W'))) → Hold wo W → W0.heap.size ≤ W.heap.size →
              (∀ W' : World, J ((bss.take k).flatten ++ bk.take (m + 1)) W' → Hold wo W' → W0.heap.size ≤ W'.heap.size → next (a.put o.dst (.bool true)) W') →
              (∀ W' : World, Jx ((bss.take k).flatten ++ bk.take (m + 1)) W' → next (a.put o.dst (.bool false)) W') →
              o.uponIn (Wd none) 9 Tryd.prog a next Q ((Instr.yield l #[bv bm]).run Tryd.prog W) := by
            intro o a next Q W hy hho hs h1 h2
            refine uponIn_yield hy ?_
            rintro e W' ⟨hk', ⟨rfl, hj⟩ | ⟨rfl, hj⟩⟩
            · refine ⟨true, rfl, h1 W' ?_ (hho.kept hbz hk') (Nat.le_trans hs hk'.size)⟩
              rw [Htk.out, ← List.append_assoc]; exact hj
            · refine ⟨false, rfl, h2 W' ?_⟩
              rw [Htk.out, ← List.append_assoc]; exact hj
          have Hkey := Lib.hid key
          have Hy := Lib.hid hy
          have hpre : (bss.take k).flatten ++ bk.take (m + 1) <+: bss.flatten := by
            rw [Hfin.out, Htk.out]; exact ⟨bk.drop (m + 1) ++ (bss.drop (k + 1)).flatten, by simp⟩
          have Hpre := Lib.hid hpre
          clear hc2 htk hfin key hy hY hpre
          gi_wp2
          refine Hkey.out _ _ _ _ _ Hy.out HH2.out hsz2 ?_ ?_
          · intro W' hj hho hs
            have Hj := Lib.hid hj
            have Hh := Lib.hid hho
            clear hj hho hcm hck' hc1
            gi_wp2
            exact ⟨⟨m + 1, by omega, by go_num, Hj, Hh, hs⟩, by simp [intOf]; omega⟩
          · intro W' hj
            have Hj := Lib.hid hj
            clear hj hcm hck' hc1
            gi_wp2
            refine bodyPost_ret (results_none rfl _ _ _) rfl ?_
            exact ⟨⟨_, rfl⟩, .inr ⟨_, Hpre.out, Hj.out⟩⟩
        · have hq := HQ.out
          rw [List.take_of_length_le (show bk.length ≤ m from by omega), ← Hft.out] at hq
          have HQ' := Lib.hid hq
          clear hq
          gi_wp2
          exact ⟨⟨k + 1, by omega, by go_num, HQ', HH2, hsz2⟩, by simp [intOf]; omega⟩
    · have hj := HJ.out
      rw [List.take_of_length_le (show bss.length ≤ k from by omega)] at hj
      have HJ' := Lib.hid hj
      clear hj
      gi_wp2
      refine bodyPost_end (results_none rfl _ _ _) rfl ?_
      exact ⟨⟨_, rfl⟩, .inl HJ'.out⟩
end Go.Proofs.YtkpdlkikkcnhiaaDoor

namespace Go.Proofs.YtkpdlkikkcnhiaaDoor
open Go.RowKit Go.Mv Go.Shelf
attribute [local go_sem] Oper.semAt_some
set_option maxRecDepth 100000

theorem run_store_c128 (P : Program) (w : World) (a : Addr) (m : Mode) (x y : Nat) : (store a (.complex .f64 x y) m).run P w = stored P w a (.complex .f64 x y) m := run_store P w a _ m rfl
attribute [local go_sem] run_store_c128

theorem gbytes_any (A : Option Addr) (n c : Nat) (w : World) : Calls Tryd.prog 49 #[.slice A n c] w fun e w' => e = .returned (.func (.func 58) #[] #[.pointer (some ⟨w.heap.size, 0, none⟩)]) ∧ w.alloc (.cells #[.slice A n c] 65) = w' := by
  go_enter Tryd.func49, Tryd.ntmps49
  go_wp2
  go_ret
  exact ⟨rfl, rfl⟩

def ChainE (v : Value) (bs : List UInt8) (w : World) (e : Ending) (w' : World) : Prop := ∃ v', e = .returned v' ∧ PtV v' (chainP (ptV v) bs) ∧ Ext w w'
def ChI (w : World) (p0 : Nat × Nat) (pre : List UInt8) (X : World) : Prop := ∃ v, Boxed X w.heap.size 62 v ∧ PtV v (chainP p0 pre) ∧ Below w.heap.size w X

set_option maxHeartbeats 1000000 in
theorem Chain_any (a b : Nat) (vp : Value) (bss : List (List UInt8)) (w : World) (h : Parts w vp bss) :
    Calls Tryd.prog 34 #[.complex .f64 a b, vp] w (ChainE (.complex .f64 a b) bss.flatten w) := by
  obtain ⟨A, c, rfl, h1, h2⟩ : ∃ A c, vp = .slice A bss.length c ∧ bss.length ≤ c ∧ c ≤ 9223372036854775807 := by obtain ⟨vs, _, hs, _⟩ := h; exact SlR.open_ hs
  have hG := Lib.hid (fun w => Right_c a b w)
  have HP := Lib.hid h
  clear h
  cases hok : ((ptOf a).isSome && (ptOf b).isSome)
  · rw [hok] at hG
    have hz : PtV (.complex .f64 0 0) (ptV (.complex .f64 a b)) := by rw [ptV_not hok]; exact PtV.zero
    unfold ChainE
    generalize ptV (.complex .f64 a b) = p0 at *
    have Hz := Lib.hid hz
    clear hok hz
    refine (callsIn_wd (ro := none) (n := 9)).1 ?_
    refine callsIn_of_wp_marks Tryd.func34 rfl trivial ?_ rfl
    simp only [Tryd.ntmps34, List.size_toArray, List.length_cons, List.length_nil, Nat.reduceAdd, Nat.reduceSub, Array.replicate_succ, Array.replicate_zero, List.push_toArray, List.append_toArray, List.nil_append, List.cons_append]
    gi_wp2_with (first
      | (refine ⟨trivial, ?_⟩; gi_at_call 48; refine (callsIn_wd.2 (hG.out _)).mono ?_; rintro e w' ⟨rfl, rfl⟩)
      | (refine ⟨trivial, ?_⟩; gi_at_call 49; refine (callsIn_wd.2 (gbytes_any _ _ _ _)).mono ?_; rintro e w' ⟨rfl, rfl⟩))
    have q2 : Boxed ((w.alloc (.cells #[.complex .f64 0 0] 62)).alloc (.cells #[.slice A bss.length c] 65)) (w.heap.size + 1) 65 (.slice A bss.length c) := by
      have := Boxed.new (w.alloc (.cells #[.complex .f64 0 0] 62)) 65 (.slice A bss.length c)
      rwa [World.size_alloc] at this
    have hE2 : Ext w ((w.alloc (.cells #[.complex .f64 0 0] 62)).alloc (.cells #[.slice A bss.length c] 65)) := Ext.alloc (Ext.alloc (Ext.refl _) _) _
    have h0 : ChI w p0 [] ((w.alloc (.cells #[.complex .f64 0 0] 62)).alloc (.cells #[.slice A bss.length c] 65)) := ⟨_, (Boxed.new w _ _).alloc _, Hz.out, hE2⟩
    have hs2 : ((w.alloc (.cells #[.complex .f64 0 0] 62)).alloc (.cells #[.slice A bss.length c] 65)).heap.size = w.heap.size + 2 := by simp
    generalize (w.alloc (.cells #[.complex .f64 0 0] 62)).alloc (.cells #[.slice A bss.length c] 65) = w2 at *
    refine wp_range (a := ⟨_, _⟩) rfl (enters_of Tryd.func58 (by kernel_rfl) rfl)
      (fun W1 hb _ => bytes1_seq w W1 _ bss HP.out (fun p u hc => Ext.cell (Ext.trans hE2 hb) hc) w.heap.size (w.heap.size + 1) (Nat.le_refl _) (q2.kept (row := none) (Ext.grown hb none) (by simp)))
      (fun k o h => h.elim) (fun k o h => h.2) (fun x av W h => by rw [h]; rfl)
      (ChI w p0) (fun _ _ _ => False) ?hI (fun _ _ _ _ h _ => h) h0
      (fun x a' _ => a' = ⟨#[.complex .f64 a b, .slice A bss.length c, .pointer (some ⟨w.heap.size, 0, none⟩), undef, .complex .f64 0 0, .int .u8 x.toNat, .complex .f64 a b, .bool false, .bool true, .slice A bss.length c, .func (.func 58) #[] #[.pointer (some ⟨w.heap.size + 1, 0, none⟩)], .int .u8 x.toNat, undef, undef, undef, undef], []⟩)
      (fun _ _ _ _ h _ => h) ?assign ?body ?done ?stop
    case hI =>
      rintro s X Y ⟨v, hv, hr, hB⟩ hm
      refine ⟨v, hm.boxed hv ?_, hr, hm.belowOf hB ?_ (Nat.le_refl _)⟩
      · rintro (h | h)
        · exact h
        · cases h.2
      · rintro k o hk (h | h)
        · exact h
        · have := h.1; omega
    case assign =>
      rintro l pre x post W av K' hx hi hsz rfl hK
      simp only [bv]
      gi_wp2
      exact hK _ _ Kept.refl hi rfl
    case body =>
      rintro l pre x post a' W hx hl hr ⟨v, hv, hpt, hB⟩ hsz rfl
      have HPT := Lib.hid hpt
      obtain ⟨va, vb, rfl, _, _⟩ := hpt
      have hc := hv.cell
      have hf := hv.frozen
      gi_wp2_with (refine ⟨trivial, ?_⟩; gi_at_call 50; refine (callsIn_wd.2 (Next_any _ _ HPT.out _ _)).mono ?_; rintro e w' ⟨v', rfl, hv', rfl⟩; have HV := Lib.hid hv'; obtain ⟨c1, c2, rfl, _, _⟩ := hv')
      refine ⟨Kept.refl.setCell (fun o ho hc => ?_) _, _, hv.set _, by rw [chainP_snoc]; exact HV.out, hB.setCell (p := ⟨w.heap.size, 0, none⟩) (Nat.le_refl _) _⟩
      rintro (h | h)
      · exact h.1 rfl
      · rw [hc] at h; cases h.2
    case done =>
      rintro D W hD ⟨v, hv, hpt, hB⟩ hK
      have HPT := Lib.hid hpt
      obtain ⟨va, vb, rfl, _, _⟩ := hpt
      have hc := hv.cell
      gi_wp2
      refine ret_mark hK _ (results_tmp rfl _ _ _) ?_
      exact ⟨_, rfl, HPT.out, below_putObj hB (by omega) _⟩
    case stop =>
      rintro D c pre W _ _ h _
      exact h.elim
  · rw [hok] at hG
    have hz : PtV (.complex .f64 a b) (ptV (.complex .f64 a b)) := ptV_right hok
    unfold ChainE
    generalize ptV (.complex .f64 a b) = p0 at *
    have Hz := Lib.hid hz
    clear hok hz
    refine (callsIn_wd (ro := none) (n := 9)).1 ?_
    refine callsIn_of_wp_marks Tryd.func34 rfl trivial ?_ rfl
    simp only [Tryd.ntmps34, List.size_toArray, List.length_cons, List.length_nil, Nat.reduceAdd, Nat.reduceSub, Array.replicate_succ, Array.replicate_zero, List.push_toArray, List.append_toArray, List.nil_append, List.cons_append]
    gi_wp2_with (first
      | (refine ⟨trivial, ?_⟩; gi_at_call 48; refine (callsIn_wd.2 (hG.out _)).mono ?_; rintro e w' ⟨rfl, rfl⟩)
      | (refine ⟨trivial, ?_⟩; gi_at_call 49; refine (callsIn_wd.2 (gbytes_any _ _ _ _)).mono ?_; rintro e w' ⟨rfl, rfl⟩))
    have q2 : Boxed ((w.alloc (.cells #[.complex .f64 a b] 62)).alloc (.cells #[.slice A bss.length c] 65)) (w.heap.size + 1) 65 (.slice A bss.length c) := by
      have := Boxed.new (w.alloc (.cells #[.complex .f64 a b] 62)) 65 (.slice A bss.length c)
      rwa [World.size_alloc] at this
    have hE2 : Ext w ((w.alloc (.cells #[.complex .f64 a b] 62)).alloc (.cells #[.slice A bss.length c] 65)) := Ext.alloc (Ext.alloc (Ext.refl _) _) _
    have h0 : ChI w p0 [] ((w.alloc (.cells #[.complex .f64 a b] 62)).alloc (.cells #[.slice A bss.length c] 65)) := ⟨_, (Boxed.new w _ _).alloc _, Hz.out, hE2⟩
    have hs2 : ((w.alloc (.cells #[.complex .f64 a b] 62)).alloc (.cells #[.slice A bss.length c] 65)).heap.size = w.heap.size + 2 := by simp
    generalize (w.alloc (.cells #[.complex .f64 a b] 62)).alloc (.cells #[.slice A bss.length c] 65) = w2 at *
    refine wp_range (a := ⟨_, _⟩) rfl (enters_of Tryd.func58 (by kernel_rfl) rfl)
      (fun W1 hb _ => bytes1_seq w W1 _ bss HP.out (fun p u hc => Ext.cell (Ext.trans hE2 hb) hc) w.heap.size (w.heap.size + 1) (Nat.le_refl _) (q2.kept (row := none) (Ext.grown hb none) (by simp)))
      (fun k o h => h.elim) (fun k o h => h.2) (fun x av W h => by rw [h]; rfl)
      (ChI w p0) (fun _ _ _ => False) ?hI (fun _ _ _ _ h _ => h) h0
      (fun x a' _ => a' = ⟨#[.complex .f64 a b, .slice A bss.length c, .pointer (some ⟨w.heap.size, 0, none⟩), undef, .complex .f64 0 0, .int .u8 x.toNat, .complex .f64 a b, .bool true, .bool false, .slice A bss.length c, .func (.func 58) #[] #[.pointer (some ⟨w.heap.size + 1, 0, none⟩)], .int .u8 x.toNat, undef, undef, undef, undef], []⟩)
      (fun _ _ _ _ h _ => h) ?assign ?body ?done ?stop
    case hI =>
      rintro s X Y ⟨v, hv, hr, hB⟩ hm
      refine ⟨v, hm.boxed hv ?_, hr, hm.belowOf hB ?_ (Nat.le_refl _)⟩
      · rintro (h | h)
        · exact h
        · cases h.2
      · rintro k o hk (h | h)
        · exact h
        · have := h.1; omega
    case assign =>
      rintro l pre x post W av K' hx hi hsz rfl hK
      simp only [bv]
      gi_wp2
      exact hK _ _ Kept.refl hi rfl
    case body =>
      rintro l pre x post a' W hx hl hr ⟨v, hv, hpt, hB⟩ hsz rfl
      have HPT := Lib.hid hpt
      obtain ⟨va, vb, rfl, _, _⟩ := hpt
      have hc := hv.cell
      have hf := hv.frozen
      gi_wp2_with (refine ⟨trivial, ?_⟩; gi_at_call 50; refine (callsIn_wd.2 (Next_any _ _ HPT.out _ _)).mono ?_; rintro e w' ⟨v', rfl, hv', rfl⟩; have HV := Lib.hid hv'; obtain ⟨c1, c2, rfl, _, _⟩ := hv')
      refine ⟨Kept.refl.setCell (fun o ho hc => ?_) _, _, hv.set _, by rw [chainP_snoc]; exact HV.out, hB.setCell (p := ⟨w.heap.size, 0, none⟩) (Nat.le_refl _) _⟩
      rintro (h | h)
      · exact h.1 rfl
      · rw [hc] at h; cases h.2
    case done =>
      rintro D W hD ⟨v, hv, hpt, hB⟩ hK
      have HPT := Lib.hid hpt
      obtain ⟨va, vb, rfl, _, _⟩ := hpt
      have hc := hv.cell
      gi_wp2
      refine ret_mark hK _ (results_tmp rfl _ _ _) ?_
      exact ⟨_, rfl, HPT.out, below_putObj hB (by omega) _⟩
    case stop =>
      rintro D c pre W _ _ h _
      exact h.elim
end Go.Proofs.YtkpdlkikkcnhiaaDoor

namespace Go.Proofs.YtkpdlkikkcnhiaaDoor
open Go.RowKit Go.Mv

end Go.Proofs.YtkpdlkikkcnhiaaDoor

namespace Go.Proofs.YtkpdlkikkcnhiaaDoor
open Go.RowKit Go.Mv
/-- An error and bytes. -/
def headS (first : Int) : Int × List UInt8 := if numB first = true ∧ first ≠ 0 then (0, 2 :: shorts [first]) else (2, [])
theorem headS_len (first : Int) : (headS first).2.length ≤ 6 := by
  unfold headS
  split
  · have := shorts_len [first]; simp at *; omega
  · simp
set_option maxRecDepth 100000

theorem parts2 {W : World} {va vb : Value} {a b : List UInt8} (ha : Bs W va a) (hb : Bs W vb b) : Parts (W.alloc (.cells #[va, vb] 24)) (.slice (some ⟨W.heap.size, 0, none⟩) 2 2) [a, b] := by
  refine ⟨[va, vb], rfl, SlR.of_own (own_new W [va, vb] 24 2 rfl (by simp [maxLen]) (Nat.le_refl _)), fun i hi hi' => ?_⟩
  match i, hi with
  | 0, _ => exact Bs.ext ha (Ext.alloc (Ext.refl _) _)
  | 1, _ => exact Bs.ext hb (Ext.alloc (Ext.refl _) _)
theorem parts1 {W : World} {va : Value} {a : List UInt8} (ha : Bs W va a) : Parts (W.alloc (.cells #[va] 24)) (.slice (some ⟨W.heap.size, 0, none⟩) 1 1) [a] := by
  refine ⟨[va], rfl, SlR.of_own (own_new W [va] 24 1 rfl (by simp [maxLen]) (Nat.le_refl _)), fun i hi hi' => ?_⟩
  match i, hi with
  | 0, _ => exact Bs.ext ha (Ext.alloc (Ext.refl _) _)
/-- What a call tells that gives bytes and an error. -/
def ResP (w : World) (r : Int × List UInt8) (e : Ending) (w' : World) : Prop := ∃ v, e = .returned (.tuple #[v, .int .i64 r.1]) ∧ w'.ownsRow w.heap.size 5 1 v r.2.length (r.2.map bv) ∧ Ext w w'

end Go.Proofs.YtkpdlkikkcnhiaaDoor

namespace Go.Proofs.YtkpdlkikkcnhiaaDoor
open Go.RowKit Go.Mv
set_option maxRecDepth 100000

end Go.Proofs.YtkpdlkikkcnhiaaDoor

namespace Go.Proofs.YtkpdlkikkcnhiaaDoor
open Go.RowKit Go.Mv
set_option maxRecDepth 100000

def entS (e : Ent) : List UInt8 := shorts [e.t, e.k, e.v]
def blkOk (es : List Ent) : Bool := decide (0 < es.length ∧ es.length ≤ 4) && allOk es
/-- A block without its four last bytes; a block. -/
def blkBody (es : List Ent) : List UInt8 := UInt8.ofNat es.length :: es.flatMap entS
def blkS (p : Nat × Nat) (es : List Ent) : List UInt8 := blkBody es ++ fourB (chainP p (blkBody es))
theorem entS_len (e : Ent) : (entS e).length ≤ 15 := by have := shorts_len [e.t, e.k, e.v]; simpa [entS] using this
theorem entsS_len (es : List Ent) : (es.flatMap entS).length ≤ 15 * es.length := by
  induction es with
  | nil => simp
  | cons e es ih => have := entS_len e; rw [List.flatMap_cons, List.length_append, List.length_cons]; omega
theorem ok_nums {e : Ent} (h : e.ok = true) : allNum [e.t, e.k, e.v] = true := by
  have := okB_true.1 h
  unfold Ent.okP at this
  simp only [allNum, List.all_cons, List.all_nil, Bool.and_true, Bool.and_eq_true, numB_true]
  omega
theorem allOk_at {es : List Ent} (h : allOk es = true) (k : Nat) (hk : k < es.length) : es[k].ok = true := by
  unfold allOk at h
  exact List.all_eq_true.1 h _ (List.getElem_mem hk)
theorem fm_take (es : List Ent) (k : Nat) (h : k < es.length) : (es.take (k + 1)).flatMap entS = (es.take k).flatMap entS ++ entS es[k] := by
  rw [List.take_succ_eq_append_getElem h, List.flatMap_append]; simp

def BlkOkP (p : Nat × Nat) (es : List Ent) (w : World) (e : Ending) (w' : World) : Prop :=
  ∃ v vz, e = .returned (.tuple #[v, vz, .int .i64 0]) ∧ PtV vz (chainP p (blkBody es)) ∧ w'.ownsRow w.heap.size 5 1 v (blkS p es).length ((blkS p es).map bv) ∧ Ext w w'
def BlkBadP (w : World) (e : Ending) (w' : World) : Prop := e = .returned (.tuple #[.slice none 0 0, .complex .f64 0 0, .int .i64 2]) ∧ Ext w w'

end Go.Proofs.YtkpdlkikkcnhiaaDoor
