/-
  The walks of crc.Step and of crc.halves' iterator.
  The walks of crc.Sum, Four, Put, bytes.Clone.
  The walks of num.Long's functions, num.TakeLong: numbers' long bytes.
-/
import Derived.Test.YtkpdlkikkcnhiaaDoorM10
import Derived.Laws.Bits64
import Derived.Deep.RegionHeld3
import Derived.Deep.AppendLies
set_option linter.all false
namespace Go.Proofs.YtkpdlkikkcnhiaaDoor
open Go.RowKit Go.Mv Go.Shelf
attribute [local go_sem] Oper.semAt_some
set_option maxRecDepth 100000

/-- What crc.rows holds. -/
def crcTab : List Nat := [0, 274646895, 549293790, 820201905, 1098587580, 1361435347, 1640403810, 1905808397, 2197175160, 2460548119, 2722870694, 2987750089, 3280807620, 3553878443, 3811616794, 4084100981]
def TabW (w : World) : Prop := ∀ i, i < 16 → w.cell? ⟨1, i, none⟩ = some (.int .u32 ((crcTab.getD i 0 : Nat) : Int))
theorem TabW.ext {w w' : World} (h : TabW w) (hE : Ext w w') : TabW w' := fun i hi => hE.cell (h i hi)
theorem TabW.hold {w w' : World} (h : TabW w) (hE : Hold w w') : TabW w' := fun i hi => hE _ _ (h i hi)
def stepN (s h : Nat) : Nat := crcTab.getD ((s ^^^ h) % 16) 0 ^^^ (s / 16)

theorem tab_lt (i : Nat) : crcTab.getD i 0 < 4294967296 := by
  by_cases h : i < 16
  · have : ∀ j, j < 16 → crcTab.getD j 0 < 4294967296 := by decide
    exact this i h
  · rw [List.getD_eq_getElem?_getD, List.getElem?_eq_none (by simp [crcTab]; omega)]; decide
theorem stepN_lt {s : Nat} (h : Nat) (hs : s < 4294967296) : stepN s h < 4294967296 := by
  have : stepN s h < 2 ^ 32 := Nat.xor_lt_two_pow (tab_lt _) (by omega)
  simpa using this
theorem bits_xor_u32 (a b : Nat) (ha : a < 4294967296) (hb : b < 4294967296) : bits .xor .u32 (a : Int) (b : Int) = ((a ^^^ b : Nat) : Int) := by
  have hx : a ^^^ b < 2 ^ 32 := Nat.xor_lt_two_pow (by omega) (by omega)
  have h1 : (BitVec.ofInt 32 (a : Int)).toNat = a := by
    rw [BitVec.ofInt_natCast, BitVec.toNat_ofNat]; exact Nat.mod_eq_of_lt (by omega)
  have h2 : (BitVec.ofInt 32 (b : Int)).toNat = b := by
    rw [BitVec.ofInt_natCast, BitVec.toNat_ofNat]; exact Nat.mod_eq_of_lt (by omega)
  show IntKind.u32.wrap ((BitVec.ofInt 32 (a : Int) ^^^ BitVec.ofInt 32 (b : Int)).toNat : Int) = _
  rw [BitVec.toNat_xor, h1, h2, IntKind.wrap_u32]
  omega
theorem bits_and_u32 (a : Nat) (ha : a < 4294967296) : bits .and .u32 (a : Int) 15 = ((a % 16 : Nat) : Int) := by
  have h1 : (BitVec.ofInt 32 (a : Int)).toNat = a := by
    rw [BitVec.ofInt_natCast, BitVec.toNat_ofNat]; exact Nat.mod_eq_of_lt (by omega)
  have h2 : (BitVec.ofInt 32 (15 : Int)).toNat = 15 := rfl
  show IntKind.u32.wrap ((BitVec.ofInt 32 (a : Int) &&& BitVec.ofInt 32 (15 : Int)).toNat : Int) = _
  rw [BitVec.toNat_and, h1, h2, IntKind.wrap_u32, show (15 : Nat) = 2 ^ 4 - 1 from rfl, Nat.and_two_pow_sub_one_eq_mod]
  omega

set_option maxHeartbeats 400000 in
theorem Step_any (s h : Nat) (hs : s < 4294967296) (hh : h < 256) (w : World) (hT : TabW w) : Calls Tryd.prog 62 #[.int .u32 s, .int .u8 h] w fun e w' => e = .returned (.int .u32 (stepN s h)) ∧ w = w' := by
  have hx := bits_xor_u32 s h hs (by omega)
  have hxl : s ^^^ h < 2 ^ 32 := Nat.xor_lt_two_pow (by omega) (by omega)
  have ha := bits_and_u32 (s ^^^ h) hxl
  obtain ⟨i, hi⟩ : ∃ i, (s ^^^ h) % 16 = i := ⟨_, rfl⟩
  have hi16 : i < 16 := by omega
  rw [hi] at ha
  have hc := hT i hi16
  obtain ⟨t, ht⟩ : ∃ t, crcTab.getD i 0 = t := ⟨_, rfl⟩
  have htl : t < 4294967296 := by rw [← ht]; exact tab_lt i
  rw [ht] at hc
  have hst : stepN s h = t ^^^ (s / 16) := by unfold stepN; rw [hi, ht]
  have hx2 : bits .xor .u32 (t : Int) ((s : Int) / 16) = ((t ^^^ (s / 16) : Nat) : Int) := by simpa using bits_xor_u32 t (s / 16) htl (by omega)
  have Hst := Lib.hid hst
  have i1 : (i : Int) < 16 := by omega
  clear hst hi hxl
  go_enter Tryd.func62, Tryd.ntmps62
  go_wp2_with fail
  go_ret
  exact ⟨ret_int (by rw [Hst.out]), rfl⟩

/-- Bytes' halves, the lower one first. -/
def halvesL (bs : List UInt8) : List UInt8 := bs.flatMap fun b => [UInt8.ofNat (b.toNat % 16), UInt8.ofNat (b.toNat / 16)]
theorem halvesL_len (bs : List UInt8) : (halvesL bs).length = 2 * bs.length := by
  induction bs with
  | nil => rfl
  | cons b bs ih => rw [show halvesL (b :: bs) = UInt8.ofNat (b.toNat % 16) :: UInt8.ofNat (b.toNat / 16) :: halvesL bs from rfl]; simp [ih]; omega
theorem halvesL_at (bs : List UInt8) : ∀ (j : Nat) (hj : j < bs.length), (halvesL bs)[2 * j]? = some (UInt8.ofNat (bs[j].toNat % 16)) ∧ (halvesL bs)[2 * j + 1]? = some (UInt8.ofNat (bs[j].toNat / 16)) := by
  induction bs with
  | nil => intro j hj; simp at hj
  | cons b bs ih =>
    intro j hj
    rw [show halvesL (b :: bs) = UInt8.ofNat (b.toNat % 16) :: UInt8.ofNat (b.toNat / 16) :: halvesL bs from rfl]
    cases j with
    | zero => exact ⟨rfl, rfl⟩
    | succ j =>
      obtain ⟨h0, h1⟩ := ih j (by simpa using hj)
      rw [show 2 * (j + 1) = 2 * j + 1 + 1 from by omega]
      simp only [List.getElem?_cons_succ, List.getElem_cons_succ]
      exact ⟨h0, h1⟩
theorem halves_split (bs : List UInt8) (j p : Nat) (hj : j < bs.length) (hp : p = 0 ∨ p = 1) : ∃ post, halvesL bs = (halvesL bs).take (2 * j + p) ++ UInt8.ofNat (bs[j].toNat / 16 ^ p % 16) :: post := by
  have hl := halvesL_len bs
  obtain ⟨h0, h1⟩ := halvesL_at bs j hj
  have hlt : 2 * j + p < (halvesL bs).length := by omega
  have hb := bs[j].toNat_lt
  have he : (halvesL bs)[2 * j + p] = UInt8.ofNat (bs[j].toNat / 16 ^ p % 16) := by
    rcases hp with rfl | rfl
    · obtain ⟨_, e⟩ := List.getElem?_eq_some_iff.1 h0
      simpa using e
    · obtain ⟨_, e⟩ := List.getElem?_eq_some_iff.1 h1
      rw [e]
      congr 1
      omega
  refine ⟨(halvesL bs).drop (2 * j + p + 1), ?_⟩
  rw [← he]
  conv => lhs; rw [← List.take_append_drop (2 * j + p) (halvesL bs), List.drop_eq_getElem_cons hlt]
theorem halves_take (bs : List UInt8) (i : Nat) (d : UInt8) (post : List UInt8) (hi : i ≤ (halvesL bs).length) (h : halvesL bs = (halvesL bs).take i ++ d :: post) : (halvesL bs).take (i + 1) = (halvesL bs).take i ++ [d] := by
  have hl : ((halvesL bs).take i).length = i := by rw [List.length_take]; omega
  conv => lhs; rw [h]
  rw [List.take_append, hl, List.take_of_length_le (by omega), show i + 1 - i = 1 from by omega]
  rfl

theorem jumps_normal {L : List Nat} {J : Nat → Act → World → Prop} {Q : Exit → Act → World → Prop} {a : Act} {w : World} (h : Q .normal a w) : Exit.jumps L J Q .normal a w := h

/-- What holds at the label. -/
def HvR (bs : List UInt8) (A : Option Addr) (c l B N : Nat) (wo : World) (J : List UInt8 → World → Prop) (a : Act) (w : World) : Prop :=
  ∃ (i : Nat) (u4 u5 u6 u7 u8 u9 u10 u11 u12 u13 u14 u15 u16 u17 u18 u19 u20 u21 u22 u23 u24 : Value), (i ≤ 2 * bs.length ∧ Hid (J ((halvesL bs).take i) w) ∧ Hid (Hold wo w) ∧ Boxed w B 24 (.slice A bs.length c) ∧ N ≤ w.heap.size) ∧
    a = ⟨#[.func (.yield l) #[] #[], .pointer (some ⟨B, 0, none⟩), undef, .int .i64 i, u4, u5, u6, u7, u8, u9, u10, u11, u12, u13, u14, u15, u16, u17, u18, u19, u20, u21, u22, u23, u24], []⟩

set_option maxHeartbeats 1000000 in
theorem halves1_seq (wo W0 : World) (v : Value) (bs : List UInt8) (hP : Bs wo v bs) (hlen : bs.length ≤ 1000000) (hE : Hold wo W0) (bz B : Nat) (hbz : wo.heap.size ≤ bz) (hne : B ≠ bz) (hB : Boxed W0 B 24 v) :
    Seq Tryd.prog 68 #[.pointer (some ⟨B, 0, none⟩)] (fun (d : UInt8) av _ => av = #[bv d]) (fun k o => k ≠ bz ∧ o.isCells = true) (fun _ _ => False) (halvesL bs) W0 := by
  intro l J Jx hJ hJx hY h0
  obtain ⟨A, c, rfl, h1, h2⟩ := SlR.open_ hP
  refine (callsIn_wd (ro := none) (n := 9)).1 ?_
  refine callsIn_of_wp Tryd.func68 rfl trivial ?_ rfl
  simp only [Tryd.ntmps68, List.size_toArray, List.length_cons, List.length_nil, Nat.reduceAdd, Nat.reduceSub, Array.replicate_succ, Array.replicate_zero, List.push_toArray, List.append_toArray, List.nil_append, List.cons_append]
  refine wpIn_scope_seq 0 (HvR bs A c l B W0.heap.size wo J) (fun a _ => 2 * bs.length - (intOf (a.tmps.getD 3 undef)).toNat) rfl (fun l' h => by cases l' <;> first | exact absurd rfl h | rfl) ?_ ?_
  · gi_wp2
    exact ⟨0, _, _, _, _, _, _, _, _, _, _, _, _, _, _, _, _, _, _, _, _, _, ⟨by omega, h0, hE, hB, Nat.le_refl _⟩, rfl⟩
  · intro a w hR
    obtain ⟨i, u4, u5, u6, u7, u8, u9, u10, u11, u12, u13, u14, u15, u16, u17, u18, u19, u20, u21, u22, u23, u24, ⟨hi, HJ, HH, hBx, hsz⟩, rfl⟩ := hR
    have c1 := hBx.cell
    by_cases hlt : i < 2 * bs.length
    · obtain ⟨j, p, hij, hp⟩ : ∃ j p, i = 2 * j + p ∧ (p = 0 ∨ p = 1) := ⟨i / 2, i % 2, by omega, by omega⟩
      have hj : j < bs.length := by omega
      obtain ⟨_, b, off, rfl, hc⟩ := Bs.at_ hP (by omega)
      have hcj := HH.out _ _ (hc j hj)
      obtain ⟨post, hpost⟩ := halves_split bs j p hj hp
      have htk := halves_take bs _ _ post (by rw [halvesL_len]; omega) hpost
      rw [← hij] at hpost htk
      have hy := hY _ _ _ hpost _ #[bv (UInt8.ofNat (bs[j].toNat / 16 ^ p % 16))] HJ.out hsz rfl
      have hpre : (halvesL bs).take (i + 1) <+: halvesL bs := List.take_prefix _ _
      have hq := bs[j].toNat_lt
      generalize bs[j].toNat = q at *
      have hi2 : (i : Int) < 2 * (bs.length : Int) := by omega
      have hjl : (j : Int) < (bs.length : Int) := by omega
      have hd : (i : Int) / 2 = (j : Int) := by omega
      have hd2 : i / 2 = j := by omega
      have key : ∀ (o : Oper) (a : Act) (next : Act → World → Prop) (Q : Exit → Act → World → Prop),
          (∀ W' : World, J ((halvesL bs).take (i + 1)) W' → Hold wo W' → Boxed W' B 24 (.slice (some ⟨b, off, none⟩) bs.length c) → W0.heap.size ≤ W'.heap.size → next (a.put o.dst (.bool true)) W') →
          (∀ W' : World, Jx ((halvesL bs).take (i + 1)) W' → next (a.put o.dst (.bool false)) W') →
          o.uponIn (Wd none) 9 Tryd.prog a next Q ((Instr.yield l #[bv (UInt8.ofNat (q / 16 ^ p % 16))]).run Tryd.prog w) := by
        intro o a next Q h1 h2
        refine uponIn_yield hy ?_
        rintro e W' ⟨hk', ⟨rfl, hj⟩ | ⟨rfl, hj⟩⟩
        · refine ⟨true, rfl, h1 W' (by rw [htk]; exact hj) (HH.out.kept hbz hk') (hk'.boxed hBx (.inl ⟨hne, rfl⟩)) (Nat.le_trans hsz hk'.size)⟩
        · refine ⟨false, rfl, h2 W' (by rw [htk]; exact hj)⟩
      have Hkey := Lib.hid key
      have Hij := Lib.hid hij
      have Hpre := Lib.hid hpre
      have Hlt := Lib.hid hlt
      clear hc hY hy key hpost htk hpre hij hB hE h0
      rcases hp with rfl | rfl
      · have ha : bits .and .i64 (i : Int) 1 = 0 := (bits_mask .i64 62 (by decide) wraps_i64 1 (by decide) _ (by omega) (by omega)).trans (by have := Hij.out; omega)
        have hv : bits .and .u8 (q : Int) 15 = ((q % 16 : Nat) : Int) := (bits_mask .u8 8 (by decide) wraps_u8 4 (by decide) _ (by omega) (by omega)).trans (by simp)
        gi_wp2
        have hbv : Value.int .u8 ((q : Int) % 16) = bv (UInt8.ofNat (q / 16 ^ 0 % 16)) := by rw [bv_ofNat]; congr 1; omega
        rw [hbv]
        refine Hkey.out _ _ _ _ ?_ ?_
        · intro W' hj hh hb hs
          have Hj := Lib.hid hj
          have Hh := Lib.hid hh
          clear c1 hcj hj hh hBx
          gi_wp2
          refine wpIn_goto ?_
          try simp only [Exit.then]
          refine jumps_goto (by simp) ⟨?_, ?_⟩
          · rw [show ((i : Int) + 1) = ((i + 1 : Nat) : Int) from rfl]
            exact ⟨i + 1, _, _, _, _, _, _, _, _, _, _, _, _, _, _, _, _, _, _, _, _, _, ⟨by have := Hlt.out; omega, Hj, Hh, hb, hs⟩, rfl⟩
          · have := Hlt.out
            simp [intOf]; omega
        · intro W' hj
          have Hj := Lib.hid hj
          clear c1 hcj hj hBx
          gi_wp2
          refine jumps_normal ?_
          refine bodyPost_end (results_none rfl _ _ _) rfl ?_
          exact ⟨⟨_, rfl⟩, .inr ⟨_, Hpre.out, Hj.out⟩⟩
      · have ha : bits .and .i64 (i : Int) 1 = 1 := (bits_mask .i64 62 (by decide) wraps_i64 1 (by decide) _ (by omega) (by omega)).trans (by have := Hij.out; omega)
        have hv : bits .and .u8 ((q : Int) / 16) 15 = ((q / 16 : Nat) : Int) := (bits_mask .u8 8 (by decide) wraps_u8 4 (by decide) _ (by omega) (by omega)).trans (by omega)
        gi_wp2
        have hbv : Value.int .u8 ((q : Int) / 16) = bv (UInt8.ofNat (q / 16 ^ 1 % 16)) := by rw [bv_ofNat]; congr 1; omega
        rw [hbv]
        refine Hkey.out _ _ _ _ ?_ ?_
        · intro W' hj hh hb hs
          have Hj := Lib.hid hj
          have Hh := Lib.hid hh
          clear c1 hcj hj hh hBx
          gi_wp2
          refine wpIn_goto ?_
          try simp only [Exit.then]
          refine jumps_goto (by simp) ⟨?_, ?_⟩
          · rw [show ((i : Int) + 1) = ((i + 1 : Nat) : Int) from rfl]
            exact ⟨i + 1, _, _, _, _, _, _, _, _, _, _, _, _, _, _, _, _, _, _, _, _, _, ⟨by have := Hlt.out; omega, Hj, Hh, hb, hs⟩, rfl⟩
          · have := Hlt.out
            simp [intOf]; omega
        · intro W' hj
          have Hj := Lib.hid hj
          clear c1 hcj hj hBx
          gi_wp2
          refine jumps_normal ?_
          refine bodyPost_end (results_none rfl _ _ _) rfl ?_
          exact ⟨⟨_, rfl⟩, .inr ⟨_, Hpre.out, Hj.out⟩⟩
    · obtain rfl : i = 2 * bs.length := by omega
      have hall : (halvesL bs).take (2 * bs.length) = halvesL bs := List.take_of_length_le (by rw [halvesL_len]; exact Nat.le_refl _)
      have hjj := HJ.out
      rw [hall] at hjj
      have HJJ := Lib.hid hjj
      clear hjj hall hY h0
      gi_wp2
      refine ⟨fun f h => (by cases h), ?_⟩
      gi_wp2
      refine jumps_normal ?_
      refine bodyPost_end (results_none rfl _ _ _) rfl ?_
      exact ⟨⟨_, rfl⟩, .inl HJJ.out⟩

theorem halves_any (A : Option Addr) (n c : Nat) (w : World) : Calls Tryd.prog 61 #[.slice A n c] w fun e w' => e = .returned (.func (.func 68) #[] #[.pointer (some ⟨w.heap.size, 0, none⟩)]) ∧ w.alloc (.cells #[.slice A n c] 24) = w' := by
  go_enter Tryd.func61, Tryd.ntmps61
  go_wp2
  go_ret
  exact ⟨rfl, rfl⟩

def nextU (s : Nat) (bs : List UInt8) : Nat := (halvesL bs).foldl (fun a h => stepN a h.toNat) s
def nextN (s : Nat) (bs : List UInt8) : Nat := 4294967295 ^^^ nextU (4294967295 ^^^ s) bs
theorem not_lt_u32 (s : Nat) (h : s < 4294967296) : 4294967295 ^^^ s < 4294967296 := by
  have : 4294967295 ^^^ s < 2 ^ 32 := Nat.xor_lt_two_pow (by omega) (by omega)
  simpa using this
theorem not_u32 (s : Nat) (h : s < 4294967296) : bits .xor .u32 IntKind.u32.max (s : Int) = ((4294967295 ^^^ s : Nat) : Int) := bits_xor_u32 4294967295 s (by decide) h
theorem foldU_lt (hs : List UInt8) (s : Nat) (h : s < 4294967296) : hs.foldl (fun a h => stepN a h.toNat) s < 4294967296 := by
  induction hs generalizing s with
  | nil => exact h
  | cons x hs ih => exact ih _ (stepN_lt _ h)
def NxI (w : World) (s0 : Nat) (pre : List UInt8) (X : World) : Prop := Boxed X w.heap.size 72 (.int .u32 ((pre.foldl (fun a h => stepN a h.toNat) s0 : Nat) : Int)) ∧ Below w.heap.size w X

set_option maxHeartbeats 1000000 in
theorem crcNext_any (s : Nat) (hs : s < 4294967296) (v : Value) (bs : List UInt8) (w : World) (h : Bs w v bs) (hlen : bs.length ≤ 1000000) (hT : TabW w) :
    Calls Tryd.prog 52 #[.int .u32 s, v] w fun e w' => e = .returned (.int .u32 (nextN s bs)) ∧ Ext w w' := by
  obtain ⟨A, c, rfl, h1, h2⟩ := SlR.open_ h
  have HP := Lib.hid h
  have HT := Lib.hid hT
  clear h hT
  have hn := not_u32 s hs
  have hnl := not_lt_u32 s hs
  unfold nextN nextU
  generalize 4294967295 ^^^ s = s0 at *
  refine (callsIn_wd (ro := none) (n := 9)).1 ?_
  refine callsIn_of_wp_marks Tryd.func52 rfl trivial ?_ rfl
  simp only [Tryd.ntmps52, List.size_toArray, List.length_cons, List.length_nil, Nat.reduceAdd, Nat.reduceSub, Array.replicate_succ, Array.replicate_zero, List.push_toArray, List.append_toArray, List.nil_append, List.cons_append]
  gi_wp2_with (refine ⟨trivial, ?_⟩; gi_at_call 61; refine (callsIn_wd.2 (halves_any _ _ _ _)).mono ?_; rintro e w' ⟨rfl, rfl⟩)
  clear hn
  have q2 : Boxed ((w.alloc (.cells #[.int .u32 s0] 72)).alloc (.cells #[.slice A bs.length c] 24)) (w.heap.size + 1) 24 (.slice A bs.length c) := by
    have := Boxed.new (w.alloc (.cells #[.int .u32 s0] 72)) 24 (.slice A bs.length c)
    rwa [World.size_alloc] at this
  have hE2 : Ext w ((w.alloc (.cells #[.int .u32 s0] 72)).alloc (.cells #[.slice A bs.length c] 24)) := Ext.alloc (Ext.alloc (Ext.refl _) _) _
  have h0 : NxI w s0 [] ((w.alloc (.cells #[.int .u32 s0] 72)).alloc (.cells #[.slice A bs.length c] 24)) := ⟨(Boxed.new w _ _).alloc _, hE2⟩
  have hs2 : ((w.alloc (.cells #[.int .u32 s0] 72)).alloc (.cells #[.slice A bs.length c] 24)).heap.size = w.heap.size + 2 := by simp
  generalize (w.alloc (.cells #[.int .u32 s0] 72)).alloc (.cells #[.slice A bs.length c] 24) = w2 at *
  refine wp_range (a := ⟨_, _⟩) rfl (enters_of Tryd.func68 (by kernel_rfl) rfl)
    (fun W1 hb _ => halves1_seq w W1 _ bs HP.out hlen (fun p u hc => Ext.cell (Ext.trans hE2 hb) hc) w.heap.size (w.heap.size + 1) (Nat.le_refl _) (by omega) (q2.kept (row := none) (Ext.grown hb none) (by simp)))
    (fun k o h => h.elim) (fun k o h => h.2) (fun x av W h => by rw [h]; rfl)
    (NxI w s0) (fun _ _ _ => False) ?hI (fun _ _ _ _ h _ => h) h0
    (fun x a' _ => a' = ⟨#[.int .u32 s, .slice A bs.length c, .pointer (some ⟨w.heap.size, 0, none⟩), undef, .int .u32 0, .int .u8 x.toNat, .int .u32 s, .int .u32 s0, .slice A bs.length c, .func (.func 68) #[] #[.pointer (some ⟨w.heap.size + 1, 0, none⟩)], .int .u8 x.toNat, undef, undef, undef, undef, undef], []⟩)
    (fun _ _ _ _ h _ => h) ?assign ?body ?done ?stop
  case hI =>
    rintro s X Y ⟨hv, hB⟩ hm
    refine ⟨hm.boxed hv ?_, hm.belowOf hB ?_ (Nat.le_refl _)⟩
    · rintro (h | h)
      · exact h
      · cases h.2
    · rintro k o hk (h | h)
      · exact h
      · have := h.1; omega
  case assign =>
    rintro l pre x post W av K' hx hi hsz rfl hK
    simp only [bv]
    gi_wp2
    exact hK _ _ Kept.refl hi rfl
  case body =>
    rintro l pre x post a' W hx hl hr ⟨hv, hB⟩ hsz rfl
    have hc := hv.cell
    have hf := hv.frozen
    have hpl := foldU_lt pre s0 hnl
    have hB' := Lib.hid hB
    have hfd : (pre ++ [x]).foldl (fun a h => stepN a h.toNat) s0 = stepN (pre.foldl (fun a h => stepN a h.toNat) s0) x.toNat := by rw [List.foldl_append]; rfl
    have Hfd := Lib.hid hfd
    have hTW : TabW W := HT.out.ext hB
    have HTW := Lib.hid hTW
    clear hfd hTW
    generalize pre.foldl (fun a h => stepN a h.toNat) s0 = sm at *
    gi_wp2_with (refine ⟨trivial, ?_⟩; gi_at_call 62; refine (callsIn_wd.2 (Step_any sm x.toNat hpl x.toNat_lt W HTW.out)).mono ?_; rintro e w' ⟨rfl, rfl⟩)
    refine ⟨Kept.refl.setCell (fun o ho hc => ?_) _, by show Boxed _ _ _ _; rw [Hfd.out]; exact hv.set _, hB.setCell (p := ⟨w.heap.size, 0, none⟩) (Nat.le_refl _) _⟩
    rintro (h | h)
    · exact h.1 rfl
    · rw [hc] at h; cases h.2
  case done =>
    rintro D W hD ⟨hv, hB⟩ hK
    have hc := hv.cell
    have hpl := foldU_lt (halvesL bs) s0 hnl
    obtain ⟨sm, hsm⟩ : ∃ sm, (halvesL bs).foldl (fun a h => stepN a h.toNat) s0 = sm := ⟨_, rfl⟩
    rw [hsm] at hpl hc
    have Hsm := Lib.hid hsm
    have hn2 := not_u32 sm hpl
    clear hsm hv
    gi_wp2
    refine ret_mark hK (.int .u32 ((4294967295 ^^^ sm : Nat) : Int)) (by simp [results, Tryd.results52, go_sem]) ?_
    exact ⟨by rw [Hsm.out], below_putObj hB (by omega) _⟩
  case stop =>
    rintro D c pre W _ _ h _
    exact h.elim
end Go.Proofs.YtkpdlkikkcnhiaaDoor

namespace Go.Proofs.YtkpdlkikkcnhiaaDoor
open Go.RowKit Go.Mv
set_option maxRecDepth 100000

theorem nextN_lt (s : Nat) (bs : List UInt8) (h : s < 4294967296) : nextN s bs < 4294967296 := not_lt_u32 _ (foldU_lt _ _ (not_lt_u32 _ h))

set_option maxHeartbeats 400000 in
theorem crcSum_any (p : Nat) (A : Option Addr) (c : Nat) (bs : List UInt8) (w : World) (hc : w.cell? ⟨p, 0, none⟩ = some (.slice A bs.length c)) (h : Bs w (.slice A bs.length c) bs) (hlen : bs.length ≤ 1000000) (hT : TabW w) :
    Calls Tryd.prog 41 #[.slice (some ⟨p, 0, none⟩) 1 1] w fun e w' => e = .returned (.int .u32 (nextN 0 bs)) ∧ Ext w w' := by
  have HP := Lib.hid h
  have HT := Lib.hid hT
  clear h hT
  go_enter Tryd.func41, Tryd.ntmps41
  go_wp2_with fail
  go_loopw [2, 7] (fun s i wr => ∃ k sn : Nat, k ≤ 1 ∧ s = .int .u32 sn ∧ i = .int .i64 k ∧ Hid (sn = if k = 0 then 0 else nextN 0 bs) ∧ Ext w wr) (fun _ i _ => 1 - (intOf i).toNat)
  case atStart => exact ⟨0, 0, by omega, rfl, rfl, rfl, Ext.refl _⟩
  case round =>
    obtain ⟨k, sn, hk, rfl, rfl, Hs, hE⟩ := hrel
    have hc' := hE.cell hc
    by_cases hlt : k < 1
    · obtain rfl : k = 0 := by omega
      obtain rfl : sn = 0 := Hs.out
      go_wp2_with (go_at_call 52; refine (crcNext_any 0 (by decide) _ bs wr (HP.out.ext hE) hlen (HT.out.ext hE)).mono ?_; rintro e w1 ⟨rfl, hE1⟩)
      go_roundw
      case rel => exact ⟨1, nextN 0 bs, by omega, rfl, rfl, rfl, Ext.trans hE hE1⟩
      case measure => simp [intOf]
    · obtain rfl : k = 1 := by omega
      obtain rfl : sn = nextN 0 bs := Hs.out
      go_wp2_with fail
      go_ret
      exact ⟨rfl, hE⟩

def fourU (s : Nat) : List UInt8 := [UInt8.ofNat s, UInt8.ofNat (s / 256), UInt8.ofNat (s / 65536), UInt8.ofNat (s / 16777216)]
def fourC (s k : Nat) : Array Value := #[if 0 < k then .int .u8 ((s : Int) % 256) else .int .u8 0, if 1 < k then .int .u8 ((s : Int) / 256 % 256) else .int .u8 0, if 2 < k then .int .u8 ((s : Int) / 65536 % 256) else .int .u8 0, if 3 < k then .int .u8 ((s : Int) / 16777216 % 256) else .int .u8 0]
theorem fourC_four (s : Nat) : fourC s 4 = ((fourU s).map bv).toArray := by simp [fourC, fourU, bv]
set_option maxHeartbeats 1000000 in
theorem crcFour_any (s : Nat) (hs : s < 4294967296) (w : World) : Calls Tryd.prog 40 #[.int .u32 s] w fun e w' => e = .returned (.agg ((fourU s).map bv).toArray) ∧ Ext w w' := by
  go_enter Tryd.func40, Tryd.ntmps40
  go_wp2_with fail
  go_loopw [4] (fun i wr => ∃ k : Nat, k ≤ 4 ∧ i = .int .i64 k ∧ Blk wr w.heap.size 49 (fourC s k) ∧ Ext w wr) (fun i _ => 4 - (intOf i).toNat)
  case atStart => exact ⟨0, by omega, rfl, Blk.new w _ _, Ext.alloc (Ext.refl _) _⟩
  case round =>
    obtain ⟨k, hk, rfl, hB, hE⟩ := hrel
    rcases (by omega : k = 0 ∨ k = 1 ∨ k = 2 ∨ k = 3 ∨ k = 4) with rfl | rfl | rfl | rfl | rfl
    · have hB' : Blk wr w.heap.size 49 #[.int .u8 0, .int .u8 0, .int .u8 0, .int .u8 0] := hB
      obtain ⟨c0, c1, c2, c3, f0, f1, f2, f3⟩ := blk4 hB'
      go_wp2_with fail
      go_roundw
      case rel => exact ⟨1, by omega, rfl, hB'.set 0 _, Below.setCell (p := ⟨w.heap.size, 0, none⟩) hE (Nat.le_refl _) _⟩
      case measure => simp [intOf]
    · have hB' : Blk wr w.heap.size 49 #[.int .u8 ((s : Int) % 256), .int .u8 0, .int .u8 0, .int .u8 0] := hB
      obtain ⟨c0, c1, c2, c3, f0, f1, f2, f3⟩ := blk4 hB'
      go_wp2_with fail
      go_roundw
      case rel => exact ⟨2, by omega, rfl, hB'.set 1 _, Below.setCell (p := ⟨w.heap.size, 1, none⟩) hE (Nat.le_refl _) _⟩
      case measure => simp [intOf]
    · have hB' : Blk wr w.heap.size 49 #[.int .u8 ((s : Int) % 256), .int .u8 ((s : Int) / 256 % 256), .int .u8 0, .int .u8 0] := hB
      obtain ⟨c0, c1, c2, c3, f0, f1, f2, f3⟩ := blk4 hB'
      go_wp2_with fail
      go_roundw
      case rel => exact ⟨3, by omega, rfl, hB'.set 2 _, Below.setCell (p := ⟨w.heap.size, 2, none⟩) hE (Nat.le_refl _) _⟩
      case measure => simp [intOf]
    · have hB' : Blk wr w.heap.size 49 #[.int .u8 ((s : Int) % 256), .int .u8 ((s : Int) / 256 % 256), .int .u8 ((s : Int) / 65536 % 256), .int .u8 0] := hB
      obtain ⟨c0, c1, c2, c3, f0, f1, f2, f3⟩ := blk4 hB'
      go_wp2_with fail
      go_roundw
      case rel =>
        have e : (s : Int) / 16777216 % 256 = (s : Int) / 16777216 := by omega
        have hs4 := hB'.set 3 (.int .u8 ((s : Int) / 16777216))
        refine ⟨4, by omega, rfl, ?_, Below.setCell (p := ⟨w.heap.size, 3, none⟩) hE (Nat.le_refl _) _⟩
        show Blk _ _ _ #[.int .u8 ((s : Int) % 256), .int .u8 ((s : Int) / 256 % 256), .int .u8 ((s : Int) / 65536 % 256), .int .u8 ((s : Int) / 16777216 % 256)]
        rw [e]
        exact hs4
      case measure => simp [intOf]
    · have hB' : Blk wr w.heap.size 49 #[.int .u8 ((s : Int) % 256), .int .u8 ((s : Int) / 256 % 256), .int .u8 ((s : Int) / 65536 % 256), .int .u8 ((s : Int) / 16777216 % 256)] := hB
      obtain ⟨c0, c1, c2, c3, f0, f1, f2, f3⟩ := blk4 hB'
      go_wp2_with fail
      have hB4 := (((hB'.set 0 (.int .u8 ((s : Int) % 256))).set 1 (.int .u8 ((s : Int) / 256 % 256))).set 2 (.int .u8 ((s : Int) / 65536 % 256))).set 3 (.int .u8 ((s : Int) / 16777216 % 256))
      refine bodyPost_ret (results_cell_row rfl _ _ _ 49 _ _ _ rfl hB4 Tryd.underlying49 rfl (by kernel_rfl)) rfl ?_
      refine ⟨by rw [← fourC_four]; rfl, ?_⟩
      exact Below.setCell (p := ⟨w.heap.size, 3, none⟩) (Below.setCell (p := ⟨w.heap.size, 2, none⟩) (Below.setCell (p := ⟨w.heap.size, 1, none⟩) (Below.setCell (p := ⟨w.heap.size, 0, none⟩) hE (Nat.le_refl _) _) (Nat.le_refl _) _) (Nat.le_refl _) _) (Nat.le_refl _) _

set_option maxHeartbeats 400000 in
theorem bclone_any (v : Value) (bs : List UInt8) (w : World) (h : Bs w v bs) (h0 : 0 < bs.length) (hl : bs.length ≤ 1000000) : Calls Tryd.prog 42 #[v] w fun e w' => ∃ A c, e = .returned (.slice A bs.length c) ∧ OwnB w' w.heap.size (.slice A bs.length c) bs ∧ Ext w w' := by
  obtain ⟨A, c, rfl, h1, h2⟩ := SlR.open_ h
  obtain ⟨_, b, off, rfl, _⟩ := Bs.at_ h h0
  have hnil := fun (W : World) => Lib.run_eql_slice_nil (P := Tryd.prog) W
  have HB := Lib.hid h
  go_enter Tryd.func42, Tryd.ntmps42
  go_wp2_with (at_builtin; refine wpList_app_b rfl (.tmp 5) (.tmp 6) rfl w.heap.size _ [] rfl (ownB_empty w) _ bs rfl (HB.out.ext (Ext.alloc (Ext.refl _) _)) (by simp; omega) (by simp) ?_; intro A1 c1 w1 ho1 hG1; have hE1 : Ext w w1 := hG1 w (Ext.alloc (Ext.refl _) _) (Nat.le_refl _); simp only [List.length_nil, Nat.zero_add, List.nil_append] at ho1 ⊢)
  go_ret
  exact ⟨_, _, rfl, ho1, hE1⟩

/-- Bytes with their sum behind them. -/
def crcPut (bs : List UInt8) : List UInt8 := bs ++ fourU (nextN 0 bs)
theorem fourU_len (s : Nat) : (fourU s).length = 4 := rfl

set_option maxHeartbeats 1000000 in
theorem crcPut_any (v : Value) (bs : List UInt8) (w : World) (h : Bs w v bs) (h0 : 0 < bs.length) (hl : bs.length ≤ 100000) (hT : TabW w) : Calls Tryd.prog 26 #[v] w fun e w' => ∃ A c, e = .returned (.slice A (crcPut bs).length c) ∧ OwnB w' w.heap.size (.slice A (crcPut bs).length c) (crcPut bs) ∧ Ext w w' := by
  obtain ⟨A, c, rfl, h1, h2⟩ := SlR.open_ h
  have HB := Lib.hid h
  have HT := Lib.hid hT
  have hsl := nextN_lt 0 bs (by decide)
  obtain ⟨sm, hsm⟩ : ∃ sm, nextN 0 bs = sm := ⟨_, rfl⟩
  rw [hsm] at hsl
  have hps : crcPut bs = bs ++ fourU sm := by unfold crcPut; rw [hsm]
  have Hps := Lib.hid hps
  have Hsm := Lib.hid hsm
  obtain ⟨i0, hi, hz0, hz1, hz2⟩ := info_parts info_u8
  obtain ⟨f0, f1, f2, f3, hf⟩ : ∃ f0 f1 f2 f3 : UInt8, fourU sm = [f0, f1, f2, f3] := ⟨_, _, _, _, rfl⟩
  have Hf := Lib.hid hf
  clear h hT hps hsm hf
  go_enter Tryd.func26, Tryd.ntmps26
  go_wp2_with fail
  have hE0 : Ext w (w.alloc (.cells #[.slice A bs.length c] 24)) := Ext.alloc (Ext.refl _) _
  refine (crcSum_any w.heap.size A c bs _ (Boxed.new w _ _).cell (HB.out.ext hE0) (by omega) (HT.out.ext hE0)).mono ?_
  rw [Hsm.out]
  rintro e w1 ⟨rfl, hE1⟩
  go_wp2_with fail
  refine (crcFour_any sm hsl _).mono ?_
  rw [Hf.out]
  rintro e w2 ⟨rfl, hE2⟩
  simp only [List.map_cons, List.map_nil, bv]
  go_wp2_with fail
  have hE03 : Ext w (w2.alloc (.cells #[.int .u8 (f0.toNat : Int), .int .u8 (f1.toNat : Int), .int .u8 (f2.toNat : Int), .int .u8 (f3.toNat : Int)] 49)) := Ext.alloc (Ext.trans hE0 (Ext.trans hE1 hE2)) _
  have hb3 := Blk.new w2 49 #[.int .u8 (f0.toNat : Int), .int .u8 (f1.toNat : Int), .int .u8 (f2.toNat : Int), .int .u8 (f3.toNat : Int)]
  refine wp_region_held_drew (S := fun _ => True) (by kernel_rfl) trivial (fun hHeld => ?_)
  refine wpAnyH_takeL (i := 0) (v := ?v1_0) rfl (by kernel_rfl) (by kernel_rfl) (by kernel_rfl) (fun _ _ _ h => h) (by rfl) (by assumption) (fun w hw => ?h1_0) ?r1_0
  case h1_0 => (try dsimp only at hw); go_simp; try with_reducible rfl
  case' r1_0 => skip
  try simp only [Act.put, List.setIfInBounds_toArray, List.set_cons_zero, List.set_cons_succ]
  refine wpAnyH_takeL (i := 2) (v := ?v2_2) rfl (by kernel_rfl) (by kernel_rfl) (by kernel_rfl) (fun _ _ _ h => h) (by rfl) (by assumption) (fun w hw => ?h2_2) ?r2_2
  case h2_2 => (try dsimp only at hw); go_simp; try with_reducible rfl
  case' r2_2 => skip
  try simp only [Act.put, List.setIfInBounds_toArray, List.set_cons_zero, List.set_cons_succ]
  refine AllReadyH.one (i := 1) rfl (by kernel_rfl) (by rfl) (fun K hK => ?_)
  go_simp
  refine (bclone_any _ bs _ (HB.out.ext (Ext.drew hE03)) h0 (by omega)).mono ?_
  rintro e w4 ⟨A4, c4, rfl, ho4, hE4⟩
  try (go_wp2_with fail)
  refine hK.out _ _ trivial (fun hHeld => ?_)
  clear hK K
  try simp only [Act.put, List.setIfInBounds_toArray, List.set_cons_zero, List.set_cons_succ]
  have hE34 : Ext (w2.alloc (.cells #[.int .u8 (f0.toNat : Int), .int .u8 (f1.toNat : Int), .int .u8 (f2.toNat : Int), .int .u8 (f3.toNat : Int)] 49)) w4 := Ext.trans (Ext.drew (Ext.refl _)) hE4
  have hb4 := hb3.ext hE34
  have hE04 : Ext w w4 := Ext.trans hE03 hE34
  have ho4' : w4.ownsRow w.heap.size 5 1 (.slice A4 bs.length c4) bs.length (bs.map bv) := own_base ho4 (Ext.drew hE03).size
  refine AllReadyH.one (i := 3) rfl (by kernel_rfl) (by rfl) (fun K hK => ?_)
  refine wp_append_lies _ (.tmp 9) (.tmp 10) 24 (by rfl) w.heap.size 5 i0 (.int .u8 0) 1 1 Tryd.underlying24 hi hz0 hz1 hz2 rfl (by decide) _ bs.length (bs.map bv) (by rfl) ho4' ⟨w2.heap.size, 0, none⟩ 4 4 [.int .u8 (f0.toNat : Int), .int .u8 (f1.toNat : Int), .int .u8 (f2.toNat : Int), .int .u8 (f3.toNat : Int)] (by rfl) rfl (World.news_of_block hb4) (by simp [Value.oneCell']) (by omega) (by unfold maxLen; omega) (by omega) hE04.size _ rfl ?_
  intro g' cap w5 hown' hgrow _ _
  refine hK.out _ _ trivial (fun hHeld => ?_)
  clear hK K
  try simp only [Act.put, List.setIfInBounds_toArray, List.set_cons_zero, List.set_cons_succ]
  refine wpAnyH_takeL (i := 4) (v := ?v6_4) rfl (by kernel_rfl) (by kernel_rfl) (by kernel_rfl) (fun _ _ _ h => h) (by rfl) (by assumption) (fun w hw => ?h6_4) ?r6_4
  case h6_4 => (try dsimp only at hw); go_simp; try with_reducible rfl
  case' r6_4 => skip
  try simp only [Act.put, List.setIfInBounds_toArray, List.set_cons_zero, List.set_cons_succ]
  refine wpAnyH_done (by kernel_rfl) ?_ _
  go_wp2_with fail
  go_ret
  have hll : (crcPut bs).length = bs.length + 4 := by unfold crcPut; rw [List.length_append, fourU_len]
  rw [hll]
  refine ⟨_, _, rfl, ?_, Ext.grownOwn hE04 ho4' hgrow⟩
  show w5.ownsRow w.heap.size 5 1 _ (crcPut bs).length ((crcPut bs).map bv)
  rw [hll, Hps.out, Hf.out, List.map_append]
  exact hown'
end Go.Proofs.YtkpdlkikkcnhiaaDoor

namespace Go.Proofs.YtkpdlkikkcnhiaaDoor
open Go.RowKit Go.Mv Go.Shelf
attribute [local go_sem] Oper.semAt_some

/-- A number's long bytes; numbers' long bytes. -/
def long1 (n : Nat) : List UInt8 := digRec 8 n false 4
def longs (l : List Int) : List UInt8 := l.flatMap fun n => long1 n.toNat
theorem digRec_full (n : Nat) (k : Nat) : (digRec 8 n false k).length = k + 1 := by
  induction k with
  | zero => simp [digRec]
  | succ k ih => rw [digRec, if_neg (by simp)]; simp [ih]
theorem long1_len (n : Nat) : (long1 n).length = 5 := digRec_full n 4
theorem longs_len (l : List Int) : (longs l).length = 5 * l.length := by
  induction l with
  | nil => rfl
  | cons n l ih => rw [show longs (n :: l) = long1 n.toNat ++ longs l from rfl, List.length_append, long1_len, ih, List.length_cons]; omega
theorem longs_take {l : List Int} {k : Nat} (h : k < l.length) : longs (l.take (k + 1)) = longs (l.take k) ++ long1 l[k].toNat := by
  rw [List.take_succ_eq_append_getElem h]; unfold longs; rw [List.flatMap_append]; simp
def LgI (base N : Nat) (w : World) (bs pre : List UInt8) (X : World) : Prop :=
  ∃ v, Boxed X N 24 v ∧ X.ownsRow base 5 1 v (bs ++ pre).length ((bs ++ pre).map bv) ∧ Below base w X

set_option maxRecDepth 100000 in
set_option maxHeartbeats 1000000 in
theorem Long1_any (bs : List UInt8) (n : Nat) (hn : n ≤ 1073741824) (vb : Value) (base : Nat) (w : World) (hown : w.ownsRow base 5 1 vb bs.length (bs.map bv)) (hbase : base ≤ w.heap.size) (hlen : bs.length + 5 ≤ 1099511627776) :
    Calls Tryd.prog 38 #[vb, .int .i64 n] w (OwnPost base w (bs ++ long1 n)) := by
  obtain ⟨A, cc, rfl, _, _⟩ := SlR.open_ (SlR.of_own hown)
  refine (callsIn_wd (ro := none) (n := 9)).1 ?_
  refine callsIn_of_wp_marks Tryd.func38 rfl trivial ?_ rfl
  simp only [Tryd.ntmps38, List.size_toArray, List.length_cons, List.length_nil, Nat.reduceAdd, Nat.reduceSub, Array.replicate_succ, Array.replicate_zero, List.push_toArray, List.append_toArray, List.nil_append, List.cons_append]
  gi_wp2_with (refine ⟨trivial, ?_⟩; gi_at_call 39; refine (callsIn_wd.2 (digits_any n 8 5 false _)).mono ?_; rintro e w' ⟨rfl, rfl⟩)
  have hN : w.heap.size + 5 = (digW (w.alloc (Obj.cells #[Value.slice A bs.length cc] 24)) n 8 5 false).heap.size := by rw [(digW_boxes _ n 8 5 false).1]; simp
  obtain ⟨_, q1, q2, q3, q4, qe⟩ := digW_boxes (w.alloc (Obj.cells #[Value.slice A bs.length cc] 24)) n 8 5 false
  generalize digW (w.alloc (Obj.cells #[Value.slice A bs.length cc] 24)) n 8 5 false = w2 at *
  simp only [World.size_alloc] at q1 q2 q3 q4
  have h0 : LgI base w.heap.size w bs [] w2 := by
    refine ⟨_, (Boxed.new w _ _).kept (W' := w2) (row := none) (Ext.grown qe none) (by simp), ?_, ?_⟩
    · have h1 := hown.alloc (Obj.cells #[Value.slice A bs.length cc] 24)
      simpa using h1.kept (w' := w2) (row := none) (Ext.grown qe none) (by cases A <;> simp [Value.ownBlock])
    · exact (((Below.refl base w).alloc hbase _).trans (qe.mono (by simp; omega)))
  refine wp_range (a := ⟨_, _⟩) rfl (enters_of Tryd.func51 (by kernel_rfl) rfl)
    (fun W1 hb _ => digits1_seq 8 n 5 false (.inr rfl) hn (by omega) (by omega) (w.heap.size + 1 + 2) (w.heap.size + 1) (w.heap.size + 1 + 1) (w.heap.size + 1 + 3) (by omega) (by omega) W1
      (q3.kept (row := none) (Ext.grown hb none) (by simp)) (q1.kept (row := none) (Ext.grown hb none) (by simp))
      (q2.kept (row := none) (Ext.grown hb none) (by simp)) (q4.kept (row := none) (Ext.grown hb none) (by simp)))
    (fun k o h => isCells_of_ty h.2) (fun k o h => by rcases h with h | h <;> exact isCells_of_ty h.2) (fun x av W h => by rw [h]; rfl)
    (LgI base w.heap.size w bs) (fun _ _ _ => False) ?hI (fun _ _ _ _ h _ => h) h0
    (fun x a' _ => a' = ⟨#[.slice A bs.length cc, .int .i64 n, .pointer (some ⟨w.heap.size, 0, none⟩), undef, .slice none 0 0, .int .u8 x.toNat, .int .i64 n, digF (w.heap.size + 1), .int .u8 x.toNat, undef, undef, undef, undef, undef], []⟩)
    (fun _ _ _ _ h _ => h) ?assign ?body ?done ?stop
  case hI =>
    rintro s X Y ⟨v, hv, hr, hB⟩ hm
    refine ⟨v, hm.boxed hv ?_, hm.ownsRow hr ?_, hm.belowOf hB ?_ hbase⟩
    · rintro (h | h)
      · have := h.1; omega
      · cases h.2
    · rintro k cur _ (h | h)
      · cases h.2
      · cases h.2
    · rintro k o hk (h | h)
      · have := h.1; omega
      · have := h.1; omega
  case assign =>
    rintro l pre x post W av K' hx hi hsz rfl hK
    simp only [bv]
    gi_wp2
    exact hK _ _ Kept.refl hi rfl
  case body =>
    rintro l pre x post a' W hx hl hr ⟨v, hv, hrow, hB⟩ hsz rfl
    have hm : (bs ++ pre).length = bs.length + pre.length := by simp
    rw [hm] at hrow
    obtain ⟨A', c', rfl, _, _⟩ := SlR.open_ (SlR.of_own hrow)
    have hpl : pre.length ≤ 4 := by
      have := congrArg List.length hx
      have := digRec_len 8 n false 4
      simp at *; omega
    obtain ⟨i0, hi, hz0, hz1, hz2⟩ := info_parts info_u8
    have hc := hv.cell
    have hne := hv.not_row (e := 5) (by decide) hrow
    gi_wp2_with (gi_at_builtin; refine wpListIn_append_own _ rfl (.tmp 9) (.tmp 11) 24 rfl base 5 i0 (.int .u8 0) 1 1 Tryd.underlying24 hi hz0 hz1 hz2 rfl (by decide) (.slice A' (bs.length + pre.length) c') (bs.length + pre.length) ((bs ++ pre).map bv) rfl (hrow.alloc _) ⟨W.heap.size, 0, none⟩ 1 1 [.int .u8 (x.toNat : Int)] rfl rfl (cell_one_new _ _ _) (by simp [Value.oneCell']) (by simp [maxLen]; omega) (by simp; omega) (by have := hB.size; simp; omega) ?_; intro v' w1 hown' hgrow _; obtain ⟨g', cap', rfl, _, _, _⟩ := ownsRow_pos hown' (by omega); have hv1 := (hv.alloc _).kept hgrow hne; have hc1 := hv1.cell; have hf1 := hv1.frozen)
    refine ⟨Kept.appended _ hv hrow hgrow ?_ ?_, _, hv1.set _, ?_, ?_⟩
    · rintro ((⟨_, h⟩ | ⟨_, h⟩) | ⟨_, h⟩) <;> cases h
    · rintro k cur _ ((⟨_, h⟩ | ⟨_, h⟩) | ⟨_, h⟩) <;> cases h
    · have h := hown'.kept (grownBy_setCell' w1 w.heap.size (.slice (some ⟨g', 0, none⟩) (bs.length + pre.length + 1) cap')) (.inr (hv1.not_row (by decide) hown').symm)
      simpa [bv, Nat.add_assoc] using h
    · refine (((hB.alloc (by have := hB.size; omega) _).grown hgrow (by have := hB.size; simp; omega) (fun k ek => ?_)).setCell (p := ⟨w.heap.size, 0, none⟩) hbase _)
      exact (hrow.lt k ek).1
  case done =>
    rintro D W hD ⟨v, hv, hrow, hB⟩ hK
    have hc := hv.cell
    have hN' : w.heap.size ≤ w2.heap.size := by omega
    clear h0 hown q1 q2 q3 q4 qe hN
    have hrow2 := ownsRow_putObj hrow (.deferred none) hK rfl
    obtain ⟨A', c', rfl, _, _⟩ := SlR.open_ (SlR.of_own hrow)
    gi_wp2
    have hrow3 : (W.putObj D (.deferred none)).ownsRow base 5 1 (.slice A' (bs.length + (digRec 8 n false 4).length) c') (bs ++ long1 n).length ((bs ++ long1 n).map bv) := by
      have h := hrow2
      rw [List.length_append] at h
      rw [List.length_append]
      exact h
    exact ret_mark hK (.slice A' (bs.length + (digRec 8 n false 4).length) c') (by simp [results, Tryd.results38, go_sem]) ⟨_, rfl, hrow3, below_putObj hB (by omega) _⟩
  case stop =>
    rintro D c pre W _ _ h _
    exact h.elim

def LongOk (w : World) (l : List Int) (e : Ending) (w' : World) : Prop := ∃ v', e = .returned (.tuple #[v', .int .i64 0]) ∧ w'.ownsRow w.heap.size 5 1 v' (longs l).length ((longs l).map bv) ∧ Ext w w'

set_option maxRecDepth 100000 in
set_option maxHeartbeats 400000 in
theorem putLong_ok (v : Value) (l : List Int) (w : World) (h : Is w v l) (hn : allNum l = true) (hl : l.length ≤ 1000000) :
    Calls Tryd.prog 37 #[v, .func (.func 38) #[] #[]] w (LongOk w l) := by
  obtain ⟨A, c, rfl, h1, h2⟩ := SlR.open_ h
  have Hn := Lib.hid hn
  go_enter Tryd.func37, Tryd.ntmps37
  go_wp2_with (go_at_call 44; refine (Is_any _ _ _ h).mono ?_; rintro e w' ⟨rfl, rfl⟩)
  clear hn
  go_loopw [4, 13] (fun vb i wr => ∃ k : Nat, k ≤ l.length ∧ i = .int .i64 k ∧ wr.ownsRow w.heap.size 5 1 vb (longs (l.take k)).length ((longs (l.take k)).map bv) ∧ Ext w wr) (fun _ i _ => l.length - (intOf i).toNat)
  case atStart => exact ⟨0, Nat.zero_le _, rfl, World.ownsRow_nil _ _ _ _, Ext.refl _⟩
  case round =>
    obtain ⟨k, hk, rfl, hown, hB⟩ := hrel
    by_cases hlt : k < l.length
    · obtain ⟨_, b, off, rfl, hc⟩ := Is.at_ (h.ext hB) (by omega)
      have hc0 := hc k hlt
      clear hc
      obtain ⟨hn0, hn1⟩ := num_of_all Hn.out hlt
      have hsl := longs_len (l.take k)
      have htl : (l.take k).length ≤ k := List.length_take_le _ _
      have key := Long1_any (longs (l.take k)) l[k].toNat (by omega) _ w.heap.size wr hown hB.size (by omega)
      rw [Int.toNat_of_nonneg hn0] at key
      have Key := Lib.hid key
      clear key
      go_wp2_with (go_at_call 38; refine Key.out.mono ?_; rintro e w1 ⟨v', rfl, hown', hB'⟩)
      go_roundw
      case rel => exact ⟨k + 1, by omega, by go_num, by rw [longs_take hlt]; exact hown', Below.trans hB hB'⟩
      case measure => simp [intOf]; omega
    · have hk' : l.take k = l := List.take_of_length_le (by omega)
      rw [hk'] at hown
      clear hk'
      go_wp2_with fail
      go_ret2
      exact ⟨_, rfl, hown, hB⟩

set_option maxHeartbeats 400000 in
theorem Long_bad (v : Value) (l : List Int) (w : World) (h : Is w v l) (hn : allNum l = false) : Calls Tryd.prog 25 #[v] w (ShortBad w) := by
  go_enter Tryd.func25, Tryd.ntmps25
  go_wp2_with (go_at_call 37; refine (put_bad _ _ _ h hn _).mono ?_; rintro e w' ⟨rfl, hb⟩)
  go_ret2
  exact ⟨rfl, hb⟩

set_option maxHeartbeats 400000 in
theorem Long_ok (v : Value) (l : List Int) (w : World) (h : Is w v l) (hn : allNum l = true) (hl : l.length ≤ 1000000) : Calls Tryd.prog 25 #[v] w (LongOk w l) := by
  go_enter Tryd.func25, Tryd.ntmps25
  go_wp2_with (go_at_call 37; refine (putLong_ok _ _ _ h hn hl).mono ?_; rintro e w' ⟨v', rfl, ho, hb⟩)
  go_ret2
  exact ⟨_, rfl, ho, hb⟩
/-- Bytes read as a number, the highest first. -/
def beN (l : List UInt8) : Nat := l.foldl (fun a b => a * 256 + b.toNat) 0
theorem beN_snoc (l : List UInt8) (b : UInt8) : beN (l ++ [b]) = beN l * 256 + b.toNat := by unfold beN; rw [List.foldl_append]; rfl
theorem beN_lt (l : List UInt8) : beN l < 256 ^ l.length := by
  generalize hn : l.length = n
  induction n generalizing l with
  | zero => rw [List.eq_nil_of_length_eq_zero hn]; decide
  | succ n ih =>
    have h0 : l ≠ [] := by rintro rfl; simp at hn
    have e := List.dropLast_concat_getLast h0
    have hd : l.dropLast.length = n := by rw [List.length_dropLast]; omega
    have := ih l.dropLast hd
    have hb := (l.getLast h0).toNat_lt
    rw [← e, beN_snoc, Nat.pow_succ]
    omega
def takeLongS (bs : List UInt8) : Int × Nat × List UInt8 := if bs.length < 5 then (10, 0, []) else if beN (bs.take 5) ≤ 1073741824 then (0, beN (bs.take 5), bs.drop 5) else (11, 0, [])
theorem beN_long (n : Nat) (h : n ≤ 1073741824) : beN (long1 n) = n := by
  simp [long1, digRec, beN]
  omega
theorem takeLong_put (n : Nat) (h : n ≤ 1073741824) (r : List UInt8) : takeLongS (long1 n ++ r) = (0, n, r) := by
  unfold takeLongS
  have hl := long1_len n
  rw [if_neg (by rw [List.length_append, hl]; omega), List.take_left' hl, List.drop_left' hl, beN_long n h, if_pos h]

set_option maxRecDepth 100000 in
set_option maxHeartbeats 1000000 in
theorem TakeLong_any (v : Value) (bs : List UInt8) (w : World) (hBs : Bs w v bs) (hl : bs.length ≤ 1000000) : Calls Tryd.prog 30 #[v] w (TakeP w (takeLongS bs)) := by
  obtain ⟨A, c, rfl, h1, h2⟩ := SlR.open_ hBs
  by_cases h5 : (bs.length : Int) < 5
  · have ht : takeLongS bs = (10, 0, []) := by unfold takeLongS; rw [if_pos (by omega)]
    have Ht := Lib.hid ht
    clear ht
    go_enter Tryd.func30, Tryd.ntmps30
    go_wp2_with fail
    go_ret3
    exact ⟨_, by rw [Ht.out]; rfl, by rw [Ht.out]; exact World.ownsRow_nil _ _ _ _, Ext.refl _⟩
  obtain ⟨_, b, off, rfl, hc⟩ := Bs.at_ hBs (by omega)
  have HC := Lib.hid hc
  have HBs := Lib.hid hBs
  have ht5 : takeLongS bs = if beN (bs.take 5) ≤ 1073741824 then (0, beN (bs.take 5), bs.drop 5) else (11, 0, []) := by unfold takeLongS; rw [if_neg (by omega)]
  have Ht5 := Lib.hid ht5
  have h5c : (5 : Int) ≤ (c : Int) := by omega
  clear hc hBs ht5
  go_enter Tryd.func30, Tryd.ntmps30
  go_wp2_with fail
  go_loop [2, 13] (fun nn ii => ∃ k n : Nat, k ≤ 5 ∧ Hid (n = beN (bs.take k)) ∧ n < 1099511627776 ∧ Hid (n < 256 ^ k) ∧ nn = .int .i64 n ∧ ii = .int .i64 k) (fun _ ii => 5 - (intOf ii).toNat)
  case atStart => exact ⟨0, 0, by omega, rfl, by omega, by show _ < _; decide, rfl, rfl⟩
  case round =>
    obtain ⟨k, n, hk, Hn, hn, Hlt, rfl, rfl⟩ := hrel
    by_cases hlt : k < 5
    · have hkl : k < bs.length := by omega
      have hci := HC.out k hkl
      have hq := bs[k].toNat_lt
      have hsn : beN (bs.take (k + 1)) = n * 256 + bs[k].toNat := by rw [List.take_succ_eq_append_getElem hkl, beN_snoc, Hn.out]
      have hnk : n < 4294967296 := Nat.lt_of_lt_of_le Hlt.out (Nat.le_trans (Nat.pow_le_pow_right (by decide) (show k ≤ 4 by omega)) (by decide))
      have hlt2 : n * 256 + bs[k].toNat < 256 ^ (k + 1) := by rw [Nat.pow_succ]; have := Hlt.out; omega
      have Hsn := Lib.hid hsn
      have Hlt2 := Lib.hid hlt2
      clear hsn hlt2
      generalize bs[k].toNat = q at *
      have ho : bits .or .i64 ((n : Int) * 256) (q : Int) = (n : Int) * 256 + (q : Int) := bits_join .i64 62 (by decide) wraps_i64 8 _ _ (by omega) (by omega) (by omega) (by omega) (by omega) (by omega)
      go_wp2_with fail
      go_round
      case rel => exact ⟨k + 1, n * 256 + q, by omega, by show _ = _; rw [Hsn.out], by omega, Hlt2.out, by simp, by go_num⟩
      case measure => simp [intOf]; omega
    · obtain rfl : k = 5 := by omega
      have hIs := SlR.of_own (own_new w [.int .i64 (n : Int)] 3 1 rfl (by simp [maxLen]) (Nat.le_refl _))
      have hIs' : Is (w.alloc (.cells #[.int .i64 (n : Int)] 3)) (.slice (some ⟨w.heap.size, 0, none⟩) 1 1) [(n : Int)] := hIs
      have ha : allNum [(n : Int)] = decide (n ≤ 1073741824) := by simp [allNum, numB]; omega
      have Ha := Lib.hid ha
      have hE1 : Ext w (w.alloc (.cells #[.int .i64 (n : Int)] 3)) := Ext.alloc (Ext.refl _) _
      clear hIs ha
      have hvs : ∃ vs : Value, (∀ W, Ext w W → Bs W vs (bs.drop 5)) ∧ vs = .slice (if c = 5 then some ⟨b, off, none⟩ else some ⟨b, off + 5, none⟩) (bs.length - 5) (c - 5) := by
        by_cases hck : c = 5
        · exact ⟨_, fun W _ => Bs.cut0 (A := some ⟨b, off, none⟩) (n := bs.length) (k := 5) (c := c - 5) (bs := bs) (by omega) rfl (by omega), by rw [if_pos hck]⟩
        · exact ⟨_, fun W hE => Bs.cut (HBs.out.ext hE) 5 (by omega) rfl, by rw [if_neg hck]⟩
      obtain ⟨vs, hvs1, hvs2⟩ := hvs
      have HVS := Lib.hid hvs1
      have HV := Lib.hid hvs2
      clear hvs1 hvs2
      by_cases hok : n ≤ 1073741824
      · have hr : takeLongS bs = (0, n, bs.drop 5) := by rw [Ht5.out, ← Hn.out, if_pos hok]
        have Hr := Lib.hid hr
        have hdl : (bs.drop 5).length ≤ 1000000 := by rw [List.length_drop]; omega
        clear hr
        go_wp2_with (first
          | (go_at_call 44; refine (Is_any _ _ _ hIs').mono ?_; rw [Ha.out, decide_eq_true hok]; rintro e w1 ⟨rfl, rfl⟩)
          | (go_at_call 45; rw [← HV.out]; refine (Clone_any _ _ _ (HVS.out _ hE1) (by omega)).mono ?_; rintro e w2 ⟨v2, rfl, ho2, hE2⟩))
        go_ret3
        rw [Hr.out]
        exact ⟨_, rfl, own_base ho2 hE1.size, Ext.trans hE1 hE2⟩
      · have hr : takeLongS bs = (11, 0, []) := by rw [Ht5.out, ← Hn.out, if_neg hok]
        have Hr := Lib.hid hr
        clear hr
        go_wp2_with (go_at_call 44; refine (Is_any _ _ _ hIs').mono ?_; rw [Ha.out, decide_eq_false hok]; rintro e w1 ⟨rfl, rfl⟩)
        go_ret3
        rw [Hr.out]
        exact ⟨_, rfl, World.ownsRow_nil _ _ _ _, hE1⟩
end Go.Proofs.YtkpdlkikkcnhiaaDoor
