/-
  The walks of num.Long's functions, num.TakeLong: numbers' long bytes.
  The walks of one.Head, Put, File.
  The walks of crc.Take, one.take.
-/
import Derived.Test.YtfjcnpigpkcfgaaGreatM13
set_option linter.all false
namespace Go.Proofs.YtfjcnpigpkcfgaaGreat
open Go.RowKit Go.Mv Go.Shelf
attribute [local go_sem] Oper.semAt_some

/-- A number's long bytes; numbers' long bytes. -/
def long1 (n : Nat) : List UInt8 := digRec 8 n false 4
def longs (l : List Int) : List UInt8 := l.flatMap fun n => long1 n.toNat
theorem digRec_full (n : Nat) (k : Nat) : (digRec 8 n false k).length = k + 1 := by
  induction k with
  | zero => simp [digRec]
  | succ k ih => rw [digRec, if_neg (by simp)]; simp [ih]
theorem long1_len (n : Nat) : (long1 n).length = 5 := digRec_full n 4
theorem longs_len (l : List Int) : (longs l).length = 5 * l.length := by
  induction l with
  | nil => rfl
  | cons n l ih => rw [show longs (n :: l) = long1 n.toNat ++ longs l from rfl, List.length_append, long1_len, ih, List.length_cons]; omega
theorem longs_take {l : List Int} {k : Nat} (h : k < l.length) : longs (l.take (k + 1)) = longs (l.take k) ++ long1 l[k].toNat := by
  rw [List.take_succ_eq_append_getElem h]; unfold longs; rw [List.flatMap_append]; simp
def LgI (base N : Nat) (w : World) (bs pre : List UInt8) (X : World) : Prop :=
  ∃ v, Boxed X N 23 v ∧ X.ownsRow base 5 1 v (bs ++ pre).length ((bs ++ pre).map bv) ∧ Below base w X

set_option maxRecDepth 100000 in
set_option maxHeartbeats 1000000 in
theorem Long1_any (bs : List UInt8) (n : Nat) (hn : n ≤ 1073741824) (vb : Value) (base : Nat) (w : World) (hown : w.ownsRow base 5 1 vb bs.length (bs.map bv)) (hbase : base ≤ w.heap.size) (hlen : bs.length + 5 ≤ 1099511627776) :
    Calls Tryz.prog 95 #[vb, .int .i64 n] w (OwnPost base w (bs ++ long1 n)) := by
  obtain ⟨A, cc, rfl, _, _⟩ := SlR.open_ (SlR.of_own hown)
  refine (callsIn_wd (ro := none) (n := 9)).1 ?_
  refine callsIn_of_wp_marks Tryz.func95 rfl trivial ?_ rfl
  simp only [Tryz.ntmps95, List.size_toArray, List.length_cons, List.length_nil, Nat.reduceAdd, Nat.reduceSub, Array.replicate_succ, Array.replicate_zero, List.push_toArray, List.append_toArray, List.nil_append, List.cons_append]
  gi_wp2_with (refine ⟨trivial, ?_⟩; gi_at_call 96; refine (callsIn_wd.2 (digits_any n 8 5 false _)).mono ?_; rintro e w' ⟨rfl, rfl⟩)
  have hN : w.heap.size + 5 = (digW (w.alloc (Obj.cells #[Value.slice A bs.length cc] 23)) n 8 5 false).heap.size := by rw [(digW_boxes _ n 8 5 false).1]; simp
  obtain ⟨_, q1, q2, q3, q4, qe⟩ := digW_boxes (w.alloc (Obj.cells #[Value.slice A bs.length cc] 23)) n 8 5 false
  generalize digW (w.alloc (Obj.cells #[Value.slice A bs.length cc] 23)) n 8 5 false = w2 at *
  simp only [World.size_alloc] at q1 q2 q3 q4
  have h0 : LgI base w.heap.size w bs [] w2 := by
    refine ⟨_, (Boxed.new w _ _).kept (W' := w2) (row := none) (Ext.grown qe none) (by simp), ?_, ?_⟩
    · have h1 := hown.alloc (Obj.cells #[Value.slice A bs.length cc] 23)
      simpa using h1.kept (w' := w2) (row := none) (Ext.grown qe none) (by cases A <;> simp [Value.ownBlock])
    · exact (((Below.refl base w).alloc hbase _).trans (qe.mono (by simp; omega)))
  refine wp_range (a := ⟨_, _⟩) rfl (enters_of Tryz.func109 (by kernel_rfl) rfl)
    (fun W1 hb _ => digits1_seq 8 n 5 false (.inr rfl) hn (by omega) (by omega) (w.heap.size + 1 + 2) (w.heap.size + 1) (w.heap.size + 1 + 1) (w.heap.size + 1 + 3) (by omega) (by omega) W1
      (q3.kept (row := none) (Ext.grown hb none) (by simp)) (q1.kept (row := none) (Ext.grown hb none) (by simp))
      (q2.kept (row := none) (Ext.grown hb none) (by simp)) (q4.kept (row := none) (Ext.grown hb none) (by simp)))
    (fun k o h => isCells_of_ty h.2) (fun k o h => by rcases h with h | h <;> exact isCells_of_ty h.2) (fun x av W h => by rw [h]; rfl)
    (LgI base w.heap.size w bs) (fun _ _ _ => False) ?hI (fun _ _ _ _ h _ => h) h0
    (fun x a' _ => a' = ⟨#[.slice A bs.length cc, .int .i64 n, .pointer (some ⟨w.heap.size, 0, none⟩), undef, .slice none 0 0, .int .u8 x.toNat, .int .i64 n, digF (w.heap.size + 1), .int .u8 x.toNat, undef, undef, undef, undef, undef], []⟩)
    (fun _ _ _ _ h _ => h) ?assign ?body ?done ?stop
  case hI =>
    rintro s X Y ⟨v, hv, hr, hB⟩ hm
    refine ⟨v, hm.boxed hv ?_, hm.ownsRow hr ?_, hm.belowOf hB ?_ hbase⟩
    · rintro (h | h)
      · have := h.1; omega
      · cases h.2
    · rintro k cur _ (h | h)
      · cases h.2
      · cases h.2
    · rintro k o hk (h | h)
      · have := h.1; omega
      · have := h.1; omega
  case assign =>
    rintro l pre x post W av K' hx hi hsz rfl hK
    simp only [bv]
    gi_wp2
    exact hK _ _ Kept.refl hi rfl
  case body =>
    rintro l pre x post a' W hx hl hr ⟨v, hv, hrow, hB⟩ hsz rfl
    have hm : (bs ++ pre).length = bs.length + pre.length := by simp
    rw [hm] at hrow
    obtain ⟨A', c', rfl, _, _⟩ := SlR.open_ (SlR.of_own hrow)
    have hpl : pre.length ≤ 4 := by
      have := congrArg List.length hx
      have := digRec_len 8 n false 4
      simp at *; omega
    obtain ⟨i0, hi, hz0, hz1, hz2⟩ := info_parts info_u8
    have hc := hv.cell
    have hne := hv.not_row (e := 5) (by decide) hrow
    gi_wp2_with (gi_at_builtin; refine wpListIn_append_own _ rfl (.tmp 9) (.tmp 11) 23 rfl base 5 i0 (.int .u8 0) 1 1 Tryz.underlying23 hi hz0 hz1 hz2 rfl (by decide) (.slice A' (bs.length + pre.length) c') (bs.length + pre.length) ((bs ++ pre).map bv) rfl (hrow.alloc _) ⟨W.heap.size, 0, none⟩ 1 1 [.int .u8 (x.toNat : Int)] rfl rfl (cell_one_new _ _ _) (by simp [Value.oneCell']) (by simp [maxLen]; omega) (by simp; omega) (by have := hB.size; simp; omega) ?_; intro v' w1 hown' hgrow _; obtain ⟨g', cap', rfl, _, _, _⟩ := ownsRow_pos hown' (by omega); have hv1 := (hv.alloc _).kept hgrow hne; have hc1 := hv1.cell; have hf1 := hv1.frozen)
    refine ⟨Kept.appended _ hv hrow hgrow ?_ ?_, _, hv1.set _, ?_, ?_⟩
    · rintro ((⟨_, h⟩ | ⟨_, h⟩) | ⟨_, h⟩) <;> cases h
    · rintro k cur _ ((⟨_, h⟩ | ⟨_, h⟩) | ⟨_, h⟩) <;> cases h
    · have h := hown'.kept (grownBy_setCell' w1 w.heap.size (.slice (some ⟨g', 0, none⟩) (bs.length + pre.length + 1) cap')) (.inr (hv1.not_row (by decide) hown').symm)
      simpa [bv, Nat.add_assoc] using h
    · refine (((hB.alloc (by have := hB.size; omega) _).grown hgrow (by have := hB.size; simp; omega) (fun k ek => ?_)).setCell (p := ⟨w.heap.size, 0, none⟩) hbase _)
      exact (hrow.lt k ek).1
  case done =>
    rintro D W hD ⟨v, hv, hrow, hB⟩ hK
    have hc := hv.cell
    have hN' : w.heap.size ≤ w2.heap.size := by omega
    clear h0 hown q1 q2 q3 q4 qe hN
    have hrow2 := ownsRow_putObj hrow (.deferred none) hK rfl
    obtain ⟨A', c', rfl, _, _⟩ := SlR.open_ (SlR.of_own hrow)
    gi_wp2
    have hrow3 : (W.putObj D (.deferred none)).ownsRow base 5 1 (.slice A' (bs.length + (digRec 8 n false 4).length) c') (bs ++ long1 n).length ((bs ++ long1 n).map bv) := by
      have h := hrow2
      rw [List.length_append] at h
      rw [List.length_append]
      exact h
    exact ret_mark hK (.slice A' (bs.length + (digRec 8 n false 4).length) c') (by simp [results, Tryz.results95, go_sem]) ⟨_, rfl, hrow3, below_putObj hB (by omega) _⟩
  case stop =>
    rintro D c pre W _ _ h _
    exact h.elim

def LongOk (w : World) (l : List Int) (e : Ending) (w' : World) : Prop := ∃ v', e = .returned (.tuple #[v', .int .i64 0]) ∧ w'.ownsRow w.heap.size 5 1 v' (longs l).length ((longs l).map bv) ∧ Ext w w'

set_option maxRecDepth 100000 in
set_option maxHeartbeats 400000 in
theorem putLong_ok (v : Value) (l : List Int) (w : World) (h : Is w v l) (hn : allNum l = true) (hl : l.length ≤ 1000000) :
    Calls Tryz.prog 94 #[v, .func (.func 95) #[] #[]] w (LongOk w l) := by
  obtain ⟨A, c, rfl, h1, h2⟩ := SlR.open_ h
  have Hn := Lib.hid hn
  go_enter Tryz.func94, Tryz.ntmps94
  go_wp2_with (go_at_call 100; refine (Is_any _ _ _ h).mono ?_; rintro e w' ⟨rfl, rfl⟩)
  clear hn
  go_loopw [4, 13] (fun vb i wr => ∃ k : Nat, k ≤ l.length ∧ i = .int .i64 k ∧ wr.ownsRow w.heap.size 5 1 vb (longs (l.take k)).length ((longs (l.take k)).map bv) ∧ Ext w wr) (fun _ i _ => l.length - (intOf i).toNat)
  case atStart => exact ⟨0, Nat.zero_le _, rfl, World.ownsRow_nil _ _ _ _, Ext.refl _⟩
  case round =>
    obtain ⟨k, hk, rfl, hown, hB⟩ := hrel
    by_cases hlt : k < l.length
    · obtain ⟨_, b, off, rfl, hc⟩ := Is.at_ (h.ext hB) (by omega)
      have hc0 := hc k hlt
      clear hc
      obtain ⟨hn0, hn1⟩ := num_of_all Hn.out hlt
      have hsl := longs_len (l.take k)
      have htl : (l.take k).length ≤ k := List.length_take_le _ _
      have key := Long1_any (longs (l.take k)) l[k].toNat (by omega) _ w.heap.size wr hown hB.size (by omega)
      rw [Int.toNat_of_nonneg hn0] at key
      have Key := Lib.hid key
      clear key
      go_wp2_with (go_at_call 95; refine Key.out.mono ?_; rintro e w1 ⟨v', rfl, hown', hB'⟩)
      go_roundw
      case rel => exact ⟨k + 1, by omega, by go_num, by rw [longs_take hlt]; exact hown', Below.trans hB hB'⟩
      case measure => simp [intOf]; omega
    · have hk' : l.take k = l := List.take_of_length_le (by omega)
      rw [hk'] at hown
      clear hk'
      go_wp2_with fail
      go_ret2
      exact ⟨_, rfl, hown, hB⟩

set_option maxHeartbeats 400000 in
theorem Long_bad (v : Value) (l : List Int) (w : World) (h : Is w v l) (hn : allNum l = false) : Calls Tryz.prog 88 #[v] w (ShortBad w) := by
  go_enter Tryz.func88, Tryz.ntmps88
  go_wp2_with (go_at_call 94; refine (put_bad _ _ _ h hn _).mono ?_; rintro e w' ⟨rfl, hb⟩)
  go_ret2
  exact ⟨rfl, hb⟩

set_option maxHeartbeats 400000 in
theorem Long_ok (v : Value) (l : List Int) (w : World) (h : Is w v l) (hn : allNum l = true) (hl : l.length ≤ 1000000) : Calls Tryz.prog 88 #[v] w (LongOk w l) := by
  go_enter Tryz.func88, Tryz.ntmps88
  go_wp2_with (go_at_call 94; refine (putLong_ok _ _ _ h hn hl).mono ?_; rintro e w' ⟨v', rfl, ho, hb⟩)
  go_ret2
  exact ⟨_, rfl, ho, hb⟩
/-- Bytes read as a number, the highest first. -/
def beN (l : List UInt8) : Nat := l.foldl (fun a b => a * 256 + b.toNat) 0
theorem beN_snoc (l : List UInt8) (b : UInt8) : beN (l ++ [b]) = beN l * 256 + b.toNat := by unfold beN; rw [List.foldl_append]; rfl
theorem beN_lt (l : List UInt8) : beN l < 256 ^ l.length := by
  generalize hn : l.length = n
  induction n generalizing l with
  | zero => rw [List.eq_nil_of_length_eq_zero hn]; decide
  | succ n ih =>
    have h0 : l ≠ [] := by rintro rfl; simp at hn
    have e := List.dropLast_concat_getLast h0
    have hd : l.dropLast.length = n := by rw [List.length_dropLast]; omega
    have := ih l.dropLast hd
    have hb := (l.getLast h0).toNat_lt
    rw [← e, beN_snoc, Nat.pow_succ]
    omega
def takeLongS (bs : List UInt8) : Int × Nat × List UInt8 := if bs.length < 5 then (10, 0, []) else if beN (bs.take 5) ≤ 1073741824 then (0, beN (bs.take 5), bs.drop 5) else (11, 0, [])
theorem beN_long (n : Nat) (h : n ≤ 1073741824) : beN (long1 n) = n := by
  simp [long1, digRec, beN]
  omega
theorem takeLong_put (n : Nat) (h : n ≤ 1073741824) (r : List UInt8) : takeLongS (long1 n ++ r) = (0, n, r) := by
  unfold takeLongS
  have hl := long1_len n
  rw [if_neg (by rw [List.length_append, hl]; omega), List.take_left' hl, List.drop_left' hl, beN_long n h, if_pos h]

set_option maxRecDepth 100000 in
set_option maxHeartbeats 1000000 in
theorem TakeLong_any (v : Value) (bs : List UInt8) (w : World) (hBs : Bs w v bs) (hl : bs.length ≤ 1000000) : Calls Tryz.prog 90 #[v] w (TakeP w (takeLongS bs)) := by
  obtain ⟨A, c, rfl, h1, h2⟩ := SlR.open_ hBs
  by_cases h5 : (bs.length : Int) < 5
  · have ht : takeLongS bs = (10, 0, []) := by unfold takeLongS; rw [if_pos (by omega)]
    have Ht := Lib.hid ht
    clear ht
    go_enter Tryz.func90, Tryz.ntmps90
    go_wp2_with fail
    go_ret3
    exact ⟨_, by rw [Ht.out]; rfl, by rw [Ht.out]; exact World.ownsRow_nil _ _ _ _, Ext.refl _⟩
  obtain ⟨_, b, off, rfl, hc⟩ := Bs.at_ hBs (by omega)
  have HC := Lib.hid hc
  have HBs := Lib.hid hBs
  have ht5 : takeLongS bs = if beN (bs.take 5) ≤ 1073741824 then (0, beN (bs.take 5), bs.drop 5) else (11, 0, []) := by unfold takeLongS; rw [if_neg (by omega)]
  have Ht5 := Lib.hid ht5
  have h5c : (5 : Int) ≤ (c : Int) := by omega
  clear hc hBs ht5
  go_enter Tryz.func90, Tryz.ntmps90
  go_wp2_with fail
  go_loop [2, 13] (fun nn ii => ∃ k n : Nat, k ≤ 5 ∧ Hid (n = beN (bs.take k)) ∧ n < 1099511627776 ∧ Hid (n < 256 ^ k) ∧ nn = .int .i64 n ∧ ii = .int .i64 k) (fun _ ii => 5 - (intOf ii).toNat)
  case atStart => exact ⟨0, 0, by omega, rfl, by omega, by show _ < _; decide, rfl, rfl⟩
  case round =>
    obtain ⟨k, n, hk, Hn, hn, Hlt, rfl, rfl⟩ := hrel
    by_cases hlt : k < 5
    · have hkl : k < bs.length := by omega
      have hci := HC.out k hkl
      have hq := bs[k].toNat_lt
      have hsn : beN (bs.take (k + 1)) = n * 256 + bs[k].toNat := by rw [List.take_succ_eq_append_getElem hkl, beN_snoc, Hn.out]
      have hnk : n < 4294967296 := Nat.lt_of_lt_of_le Hlt.out (Nat.le_trans (Nat.pow_le_pow_right (by decide) (show k ≤ 4 by omega)) (by decide))
      have hlt2 : n * 256 + bs[k].toNat < 256 ^ (k + 1) := by rw [Nat.pow_succ]; have := Hlt.out; omega
      have Hsn := Lib.hid hsn
      have Hlt2 := Lib.hid hlt2
      clear hsn hlt2
      generalize bs[k].toNat = q at *
      have ho : bits .or .i64 ((n : Int) * 256) (q : Int) = (n : Int) * 256 + (q : Int) := bits_join .i64 62 (by decide) wraps_i64 8 _ _ (by omega) (by omega) (by omega) (by omega) (by omega) (by omega)
      go_wp2_with fail
      go_round
      case rel => exact ⟨k + 1, n * 256 + q, by omega, by show _ = _; rw [Hsn.out], by omega, Hlt2.out, by simp, by go_num⟩
      case measure => simp [intOf]; omega
    · obtain rfl : k = 5 := by omega
      have hIs := SlR.of_own (own_new w [.int .i64 (n : Int)] 3 1 rfl (by simp [maxLen]) (Nat.le_refl _))
      have hIs' : Is (w.alloc (.cells #[.int .i64 (n : Int)] 3)) (.slice (some ⟨w.heap.size, 0, none⟩) 1 1) [(n : Int)] := hIs
      have ha : allNum [(n : Int)] = decide (n ≤ 1073741824) := by simp [allNum, numB]; omega
      have Ha := Lib.hid ha
      have hE1 : Ext w (w.alloc (.cells #[.int .i64 (n : Int)] 3)) := Ext.alloc (Ext.refl _) _
      clear hIs ha
      have hvs : ∃ vs : Value, (∀ W, Ext w W → Bs W vs (bs.drop 5)) ∧ vs = .slice (if c = 5 then some ⟨b, off, none⟩ else some ⟨b, off + 5, none⟩) (bs.length - 5) (c - 5) := by
        by_cases hck : c = 5
        · exact ⟨_, fun W _ => Bs.cut0 (A := some ⟨b, off, none⟩) (n := bs.length) (k := 5) (c := c - 5) (bs := bs) (by omega) rfl (by omega), by rw [if_pos hck]⟩
        · exact ⟨_, fun W hE => Bs.cut (HBs.out.ext hE) 5 (by omega) rfl, by rw [if_neg hck]⟩
      obtain ⟨vs, hvs1, hvs2⟩ := hvs
      have HVS := Lib.hid hvs1
      have HV := Lib.hid hvs2
      clear hvs1 hvs2
      by_cases hok : n ≤ 1073741824
      · have hr : takeLongS bs = (0, n, bs.drop 5) := by rw [Ht5.out, ← Hn.out, if_pos hok]
        have Hr := Lib.hid hr
        have hdl : (bs.drop 5).length ≤ 1000000 := by rw [List.length_drop]; omega
        clear hr
        go_wp2_with (first
          | (go_at_call 100; refine (Is_any _ _ _ hIs').mono ?_; rw [Ha.out, decide_eq_true hok]; rintro e w1 ⟨rfl, rfl⟩)
          | (go_at_call 101; rw [← HV.out]; refine (Clone_any _ _ _ (HVS.out _ hE1) (by omega)).mono ?_; rintro e w2 ⟨v2, rfl, ho2, hE2⟩))
        go_ret3
        rw [Hr.out]
        exact ⟨_, rfl, own_base ho2 hE1.size, Ext.trans hE1 hE2⟩
      · have hr : takeLongS bs = (11, 0, []) := by rw [Ht5.out, ← Hn.out, if_neg hok]
        have Hr := Lib.hid hr
        clear hr
        go_wp2_with (go_at_call 100; refine (Is_any _ _ _ hIs').mono ?_; rw [Ha.out, decide_eq_false hok]; rintro e w1 ⟨rfl, rfl⟩)
        go_ret3
        rw [Hr.out]
        exact ⟨_, rfl, World.ownsRow_nil _ _ _ _, hE1⟩
end Go.Proofs.YtfjcnpigpkcfgaaGreat

namespace Go.Proofs.YtfjcnpigpkcfgaaGreat
open Go.RowKit Go.Mv
set_option maxRecDepth 100000
variable {T : Tab}

/-- An entry's record; entries' records; a head; a segment. -/
def recB (e : Ent) : List UInt8 := long1 e.t.toNat ++ ([UInt8.ofNat e.k.toNat] ++ long1 e.v.toNat)
def rec1 (T : Tab) (e : Ent) : List UInt8 := crcPut T (recB e)
def putL (T : Tab) (l : List Ent) : List UInt8 := l.flatMap (rec1 T)
def put1S (T : Tab) (l : List Ent) : Int × List UInt8 := if allOk l = true then (0, putL T l) else (2, [])
def head1S (first : Int) : Int × List UInt8 := if numB first = true ∧ first ≠ 0 then (0, 1 :: long1 first.toNat) else (2, [])
def file1S (T : Tab) (first : Int) (l : List Ent) : Int × List UInt8 := if (head1S first).1 = 0 then (if allOk l = true then (0, (head1S first).2 ++ putL T l) else (2, [])) else (2, [])
theorem recB_len (e : Ent) : (recB e).length = 11 := by unfold recB; simp [long1_len]
theorem crcPut_len (b : List UInt8) : (crcPut T b).length = b.length + 4 := by unfold crcPut; rw [List.length_append, fourU_len]
theorem rec1_len (e : Ent) : (rec1 T e).length = 15 := by unfold rec1; rw [crcPut_len, recB_len]
theorem putL_len (l : List Ent) : (putL T l).length = 15 * l.length := by
  unfold putL
  induction l with
  | nil => rfl
  | cons e l ih => rw [List.flatMap_cons, List.length_append, ih, rec1_len, List.length_cons]; omega
theorem putL_take {l : List Ent} {k : Nat} (h : k < l.length) : putL T (l.take (k + 1)) = putL T (l.take k) ++ rec1 T l[k] := by
  unfold putL
  rw [List.take_succ_eq_append_getElem h, List.flatMap_append, List.flatMap_cons, List.flatMap_nil, List.append_nil]
theorem longs_one (x : Int) : longs [x] = long1 x.toNat := by simp [longs]
theorem is1 (w : World) (x : Int) : Is (w.alloc (.cells #[.int .i64 x] 3)) (.slice (some ⟨w.heap.size, 0, none⟩) 1 1) [x] := SlR.of_own (own_new w [.int .i64 x] 3 1 rfl (by simp [maxLen]) (Nat.le_refl _))
theorem LongOne (x : Int) (hx : numB x = true) (w : World) : Calls Tryz.prog 88 #[.slice (some ⟨w.heap.size, 0, none⟩) 1 1] (w.alloc (.cells #[.int .i64 x] 3)) fun e w' => ∃ q c, e = .returned (.tuple #[.slice (some ⟨q, 0, none⟩) 5 c, .int .i64 0]) ∧ OwnB w' w.heap.size (.slice (some ⟨q, 0, none⟩) 5 c) (long1 x.toNat) ∧ w.heap.size ≤ q ∧ q < w'.heap.size ∧ Ext w w' := by
  refine (Long_ok _ _ _ (is1 w x) (by simp [allNum, hx]) (by simp)).mono ?_
  rintro e w' ⟨v, rfl, ho, hE⟩
  have ho' : OwnB w' (w.alloc (.cells #[.int .i64 x] 3)).heap.size v (long1 x.toNat) := by rw [longs_one] at ho; exact ho
  have ho2 := own_base ho' (base' := w.heap.size) (by simp)
  have hl5 := long1_len x.toNat
  obtain ⟨q, c, hv, hq, _, _⟩ := ownsRow_pos ho2 (by omega)
  rw [hl5] at hv
  subst hv
  exact ⟨q, c, rfl, ho2, hq, (World.ownsRow.lt ho2 q rfl).2, Ext.trans (Ext.alloc (Ext.refl _) _) hE⟩
theorem LongOneBad (x : Int) (hx : numB x = false) (w : World) : Calls Tryz.prog 88 #[.slice (some ⟨w.heap.size, 0, none⟩) 1 1] (w.alloc (.cells #[.int .i64 x] 3)) fun e w' => e = .returned (.tuple #[.slice none 0 0, .int .i64 2]) ∧ Ext w w' := by
  refine (Long_bad _ _ _ (is1 w x) (by simp [allNum, hx])).mono ?_
  rintro e w' ⟨rfl, hE⟩
  exact ⟨rfl, Ext.trans (Ext.alloc (Ext.refl _) _) hE⟩
/-- What a call tells that gives bytes and an error, written out. -/
def ResB (w : World) (r : Int × List UInt8) (e : Ending) (w' : World) : Prop := ∃ A c, e = .returned (.tuple #[.slice A r.2.length c, .int .i64 r.1]) ∧ OwnB w' w.heap.size (.slice A r.2.length c) r.2 ∧ Ext w w'
theorem resB_nil {w w' : World} {e : Ending} {n : Int} (he : e = .returned (.tuple #[.slice none 0 0, .int .i64 n])) (hE : Ext w w') : ResB w (n, []) e w' := ⟨none, 0, he, World.ownsRow_nil _ _ _ _, hE⟩

set_option maxHeartbeats 1000000 in
theorem Head1_any (first : Int) (w : World) : Calls Tryz.prog 86 #[.int .i64 first] w (ResB w (head1S first)) := by
  by_cases hn : numB first = true
  · have hS := Lib.hid (LongOne first hn w)
    by_cases h0 : first = 0
    · have hh : head1S first = (2, []) := by unfold head1S; rw [if_neg (fun h => h.2 h0)]
      rw [hh]
      subst h0
      clear hh hn
      go_enter Tryz.func86, Tryz.ntmps86
      go_wp2_with (go_at_call 88; refine hS.out.mono ?_; rintro e w1 ⟨A1, c1, rfl, ho1, _, _, hE1⟩)
      go_ret2
      exact resB_nil rfl hE1
    · have hh : head1S first = (0, 1 :: long1 first.toNat) := by unfold head1S; rw [if_pos ⟨hn, h0⟩]
      rw [hh]
      have e0 : (first == 0) = false := by simpa using h0
      have hl := long1_len first.toNat
      obtain ⟨bs, hbs⟩ : ∃ bs, long1 first.toNat = bs := ⟨_, rfl⟩
      rw [hbs] at hl hS ⊢
      clear hh hn h0 hbs
      go_enter Tryz.func86, Tryz.ntmps86
      go_wp2_with (first
        | (go_at_call 88; refine hS.out.mono ?_; rintro e w1 ⟨A1, c1, rfl, ho1, _, _, hE1⟩)
        | (at_builtin; refine wpList_app_b rfl (.tmp 18) (.tmp 19) rfl w1.heap.size _ [1] rfl (own_new w1 [.int .u8 1] 5 1 rfl (by simp [maxLen]) (Nat.le_refl _)) _ bs rfl (ho1.bs.ext (Ext.alloc (Ext.refl _) _)) (by simp; omega) (by simp) ?_; intro A2 c2 w2 ho2 hG2; have hE2 : Ext w1 w2 := hG2 w1 (Ext.alloc (Ext.refl _) _) (Nat.le_refl _)))
      go_ret2
      have hl2 : [(1 : UInt8)].length + bs.length = (1 :: bs).length := by simp; omega
      rw [hl2] at ho2
      have hl6 : (1 :: bs).length = 6 := by simp; omega
      exact ⟨A2, c2, by show _ = Ending.returned (.tuple #[.slice A2 (1 :: bs).length c2, .int .i64 0]); rw [hl6]; rfl, own_base ho2 hE1.size, Ext.trans hE1 hE2⟩
  · have hn' : numB first = false := by simpa using hn
    have hS := Lib.hid (LongOneBad first hn' w)
    have hh : head1S first = (2, []) := by unfold head1S; rw [if_neg (fun h => hn h.1)]
    rw [hh]
    clear hh hn hn'
    go_enter Tryz.func86, Tryz.ntmps86
    go_wp2_with (go_at_call 88; refine hS.out.mono ?_; rintro e w1 ⟨rfl, hE1⟩)
    go_ret2
    exact resB_nil rfl hE1

theorem bs1 (W : World) (a : UInt8) (n : Int) (h : n = a.toNat) : Bs (W.alloc (.cells #[.int .u8 n] 5)) (.slice (some ⟨W.heap.size, 0, none⟩) 1 1) [a] := by
  subst h
  exact SlR.of_own (own_new W [bv a] 5 1 rfl (by simp [maxLen]) (Nat.le_refl _))
/-- A byte behind a kind that may be. -/
theorem kind_u8 (k : Int) (h : 0 ≤ k ∧ k < 5) : IntKind.u8.wrap k = ((UInt8.ofNat k.toNat).toNat : Int) := by
  rw [IntKind.wrap_u8, UInt8.toNat_ofNat']; omega
set_option maxHeartbeats 2000000 in
theorem Put1_any (v : Value) (l : List Ent) (w : World) (hT : TabW T w) (h : Es w v l) (hl : l.length ≤ 100000) : Calls Tryz.prog 84 #[v] w (ResB w (put1S T l)) := by
  obtain ⟨A, c, rfl, _, _⟩ := SlR.open_ h
  have HL := Lib.hid h
  have HT := Lib.hid hT
  clear h hT
  go_enter Tryz.func84, Tryz.ntmps84
  go_wp2_with fail
  go_loopw [2, 12] (fun vb i wr => ∃ k : Nat, k ≤ l.length ∧ i = .int .i64 k ∧ OwnB wr w.heap.size vb (putL T (l.take k)) ∧ Hid (allOk (l.take k) = true) ∧ Ext w wr) (fun _ i _ => l.length - (intOf i).toNat)
  case atStart => exact ⟨0, Nat.zero_le _, rfl, World.ownsRow_nil _ _ _ _, rfl, Ext.refl _⟩
  case round =>
    obtain ⟨k, hk, rfl, hob, Hb, hE⟩ := hrel
    by_cases hlt : k < l.length
    · obtain ⟨_, b, off, rfl, hc⟩ := Es.at_ (HL.out.ext hE) (by omega)
      obtain ⟨hc0, hc1, hc2⟩ := hc k hlt
      clear hc
      have htk := putL_take (T := T) hlt
      have hal := allOk_take hlt Hb.out
      obtain ⟨e, he⟩ : ∃ e, l[k] = e := ⟨_, rfl⟩
      rw [he] at hc0 hc1 hc2 htk hal
      have hrl := rec1_len (T := T) e
      obtain ⟨r, hr⟩ : ∃ r, rec1 T e = r := ⟨_, rfl⟩
      rw [hr] at htk hrl
      have hPl := putL_len (T := T) (l.take k)
      obtain ⟨P, hP⟩ : ∃ P, putL T (l.take k) = P := ⟨_, rfl⟩
      rw [hP] at hob htk hPl
      rw [List.length_take] at hPl
      have Hal := Lib.hid hal
      have Htk := Lib.hid htk
      have Hr := Lib.hid hr
      have hPb : P.length ≤ 1500000 := by omega
      have Hbad : Hid (e.ok = false → put1S T l = (2, [])) := by
        intro h
        unfold put1S
        rw [if_neg]
        intro h2
        have : l[k] ∈ l := List.getElem_mem hlt
        rw [he] at this
        have := (List.all_eq_true.1 h2) e this
        rw [h] at this; cases this
      have hbase : w.heap.size ≤ wr.heap.size := hE.size
      clear hal htk hr hP hPl he
      cases hok : e.ok with
      | false =>
        have hok' : okB e.t e.k e.v = false := hok
        have Hres := Lib.hid (Hbad.out hok)
        clear hok
        go_wp2_with (go_at_call 87; refine (Right_any _ _ _ _).mono ?_; rw [hok']; rintro e1 w1 ⟨rfl, hE1⟩)
        go_ret2
        have hEw : Ext wr w1 := Ext.trans (Ext.alloc (Ext.refl _) _) hE1
        rw [Hres.out]
        exact resB_nil rfl (Ext.trans hE hEw)
      | true =>
        have hok' : okB e.t e.k e.v = true := hok
        obtain ⟨q1, q2, q3, q4, q5, q6, _⟩ := okB_true.1 hok'
        have hnt : numB e.t = true := by simp [numB]; omega
        have hnv : numB e.v = true := by simp [numB]; omega
        have hku := kind_u8 e.k ⟨q3, q4⟩
        have hlt1 := long1_len e.t.toNat
        have hlv1 := long1_len e.v.toNat
        obtain ⟨kb, hkb⟩ : ∃ kb, UInt8.ofNat e.k.toNat = kb := ⟨_, rfl⟩
        have hrb : recB e = long1 e.t.toNat ++ ([kb] ++ long1 e.v.toNat) := by unfold recB; rw [hkb]
        rw [hkb] at hku
        clear hok hkb q1 q2 q3 q4 q5 q6
        have hbe := Blk.new wr 41 #[.int .i64 e.t, .int .i64 e.k, .int .i64 e.v]
        have hX : Ext wr (wr.alloc (.cells #[.int .i64 e.t, .int .i64 e.k, .int .i64 e.v] 41)) := Ext.alloc (Ext.refl _) _
        go_wp2_with (go_at_call 87; refine (Right_any _ _ _ _).mono ?_; rw [hok']; rintro e1 w1 ⟨rfl, hE1⟩; obtain ⟨g0, g1, g2, _, _, _⟩ := blk3 (hbe.ext hE1))
        have X1 : Ext wr w1 := Ext.trans hX hE1
        refine (LongOne e.t hnt w1).mono ?_
        rintro e2 w2 ⟨A2, c2, rfl, ho2, hA2, hA2', hE2⟩
        have X2 := Ext.trans X1 hE2
        clear g0 g1 g2
        obtain ⟨g0, g1, g2, _, _, _⟩ := blk3 (hbe.ext (Ext.trans hE1 hE2))
        go_wp2_with fail
        refine (LongOne e.v hnv w2).mono ?_
        rintro e3 w3 ⟨A3, c3, rfl, ho3, hA3, hA3', hE3⟩
        have X3 := Ext.trans X2 hE3
        have Y3 := Ext.trans hE2 hE3
        clear g0 g1 g2
        obtain ⟨g0, g1, g2, _, _, _⟩ := blk3 (hbe.ext (Ext.trans hE1 Y3))
        have ho2' : OwnB w3 w1.heap.size (.slice (some ⟨A2, 0, none⟩) 5 c2) (long1 e.t.toNat) := own_ext ho2 hE3
        obtain ⟨lt1, hlt1'⟩ : ∃ z, long1 e.t.toNat = z := ⟨_, rfl⟩
        obtain ⟨lv1, hlv1'⟩ : ∃ z, long1 e.v.toNat = z := ⟨_, rfl⟩
        rw [hlt1'] at ho2' hlt1 hrb
        rw [hlv1'] at ho3 hlv1 hrb
        have hbk : (([kb] : List UInt8).map bv).toArray = #[.int .u8 (kb.toNat : Int)] := rfl
        clear hlt1' hlv1' ho2
        have hlen1 : lt1.length + ([kb] : List UInt8).length = 6 := by simp; omega
        have hlen2 : (lt1 ++ [kb]).length + lv1.length = 11 := by simp; omega
        have hkb1 := bs1 w3 kb _ (Eq.refl (kb.toNat : Int))
        obtain ⟨i0, hi, hz0, hz1, hz2⟩ := info_parts info_u8
        have h2a : OwnB (w3.alloc (.cells #[.int .u8 (kb.toNat : Int)] 5)) w1.heap.size (.slice (some ⟨A2, 0, none⟩) 5 c2) lt1 := ho2'.ext (Ext.alloc (Ext.refl _) _)
        have h3a : OwnB (w3.alloc (.cells #[.int .u8 (kb.toNat : Int)] 5)) w2.heap.size (.slice (some ⟨A3, 0, none⟩) 5 c3) lv1 := ho3.ext (Ext.alloc (Ext.refl _) _)
        have hb6 : w1.heap.size ≤ (w3.alloc (.cells #[.int .u8 (kb.toNat : Int)] 5)).heap.size := by have := Y3.size; simp; omega
        have hl6 : (lt1 ++ [kb]).length = 6 := by simp; omega
        obtain ⟨Ab, cb, rfl, _, _⟩ := SlR.open_ (SlR.of_own hob)
        have hrc : lt1 ++ [kb] ++ lv1 = recB e := by rw [hrb, List.append_assoc]
        have Hrc := Lib.hid hrc
        have Hl6 := Lib.hid hl6
        have HT1 : Hid (TabW T w1) := HT.out.ext (Ext.trans hE X1)
        have Hob := Lib.hid hob
        have HX1 := Lib.hid X1
        clear hrb hrc hob
        go_wp2_with (first
          | (at_builtin
             refine wpList_append_sl _ rfl (.tmp 34) (.tmp 38) 23 rfl w1.heap.size 5 i0 (.int .u8 0) 1 1 Tryz.underlying23 hi hz0 hz1 hz2 rfl (by decide) _ lt1.length (lt1.map bv) rfl h2a _ 1 ([kb].map bv) rfl hkb1 (one_bv _) (by unfold maxLen; omega) (by omega) hb6 ?_
             intro v4 w4 ho4 hG4
             have hE4 : Ext w1 w4 := Ext.grownOwn (Ext.alloc Y3 _) h2a hG4
             have ho4' : OwnB w4 w1.heap.size v4 (lt1 ++ [kb]) := by unfold OwnB; rw [List.length_append, List.map_append]; exact ho4
             have h3b : OwnB w4 w2.heap.size (.slice (some ⟨A3, 0, none⟩) 5 c3) lv1 := World.ownsRow.kept h3a hG4 (.inr (fun e => by have e' : some A3 = some A2 := e; cases e'; omega))
             obtain ⟨A4, c4, hv4, _, _⟩ := SlR.open_ (SlR.of_own ho4')
             rw [Hl6.out] at hv4
             subst hv4
             clear ho4 hG4 h2a h3a)
          | (at_builtin; refine wpList_app_b rfl (.tmp 39) (.tmp 40) rfl w1.heap.size _ (lt1 ++ [kb]) rfl ho4' _ lv1 rfl h3b.bs (by omega) hE4.size ?_; intro A5 c5 w5 ho5 hG5; have hE5 : Ext w1 w5 := hG5 w1 hE4 (Nat.le_refl _)))
        rw [hlen2, Hrc.out] at ho5
        refine (crcPut_any _ (recB e) w5 (SlR.of_own ho5) (by rw [recB_len]; omega) (by rw [recB_len]; omega) (HT1.out.ext hE5)).mono ?_
        rw [show crcPut T (recB e) = r from Hr.out, hrl]
        rintro e6 w6 ⟨A6, c6, rfl, ho6, hE6⟩
        have hE16 : Ext w1 w6 := Ext.trans hE5 hE6
        have hEr6 : Ext wr w6 := Ext.trans HX1.out hE16
        go_wp2_with (at_builtin; refine wpList_app_b rfl (.tmp 33) (.tmp 42) rfl w.heap.size _ P rfl (Hob.out.ext hEr6) _ r rfl (SlR.of_own ho6) (by omega) (Ext.trans hE hEr6).size ?_; intro A7 c7 w7 ho7 hG7; have hE7 : Ext w w7 := hG7 w (Ext.trans hE hEr6) (Nat.le_refl _))
        refine ⟨⟨k + 1, by omega, by go_num, ?_, Hal.out.trans hok', hE7⟩, by simp [intOf]; omega⟩
        rw [Htk.out]
        have h15 : P.length + r.length = P.length + 15 := by omega
        rw [h15] at ho7
        exact ho7
    · have htk : l.take k = l := List.take_of_length_le (by omega)
      rw [htk] at Hb hob
      have hres : put1S T l = (0, putL T l) := by unfold put1S; rw [if_pos Hb.out]
      obtain ⟨P, hP⟩ : ∃ P, putL T l = P := ⟨_, rfl⟩
      rw [hP] at hres hob
      have Hres := Lib.hid hres
      obtain ⟨A2, c2, rfl, _, _⟩ := SlR.open_ (SlR.of_own hob)
      have hge : ¬ ((k : Int) < (l.length : Int)) := by omega
      clear hres htk hP Hb
      go_wp2_with fail
      go_ret2
      exact ⟨A2, c2, by rw [Hres.out]; rfl, by rw [Hres.out]; exact hob, hE⟩

set_option maxHeartbeats 1000000 in
theorem File1_any (first : Int) (v : Value) (l : List Ent) (w : World) (hT : TabW T w) (h : Es w v l) (hl : l.length ≤ 100000) : Calls Tryz.prog 83 #[.int .i64 first, v] w (ResB w (file1S T first l)) := by
  obtain ⟨A, c, rfl, _, _⟩ := SlR.open_ h
  have HL := Lib.hid h
  have HT := Lib.hid hT
  have HH := Lib.hid (Head1_any first w)
  have hpl := putL_len (T := T) l
  unfold file1S
  have hd : head1S first = (0, 1 :: long1 first.toNat) ∨ head1S first = (2, []) := by unfold head1S; split; exact .inl rfl; exact .inr rfl
  have hl5 := long1_len first.toNat
  clear h hT
  rcases hd with hd | hd
  · rw [hd] at HH ⊢
    rw [if_pos rfl]
    obtain ⟨H, hH⟩ : ∃ H, 1 :: long1 first.toNat = H := ⟨_, rfl⟩
    have hHl : H.length = 6 := by rw [← hH, List.length_cons, hl5]
    rw [hH] at HH ⊢
    clear hd hH hl5
    have HP := Lib.hid (fun w (hT : TabW T w) (h : Es w (.slice A l.length c) l) => Put1_any (T := T) _ l w hT h hl)
    unfold put1S at HP
    by_cases ha : allOk l = true
    · rw [if_pos ha]
      rw [if_pos ha] at HP
      obtain ⟨P, hP⟩ : ∃ P, putL T l = P := ⟨_, rfl⟩
      rw [hP] at HP hpl ⊢
      have hpb : P.length ≤ 1500000 := by omega
      have hHb : H.length ≤ 6 := by omega
      clear ha hP hpl hHl
      go_enter Tryz.func83, Tryz.ntmps83
      go_wp2_with fail
      refine HH.out.mono ?_
      rintro e w1 ⟨A1, c1, rfl, ho1, hE1⟩
      dsimp only at ho1 ⊢
      go_wp2_with fail
      refine (HP.out w1 (HT.out.ext hE1) (HL.out.ext hE1)).mono ?_
      rintro e w2 ⟨A2, c2, rfl, ho2, hE2⟩
      dsimp only at ho2 ⊢
      have hE02 := Ext.trans hE1 hE2
      go_wp2_with (at_builtin; refine wpList_app_b rfl (.tmp 25) (.tmp 26) rfl w.heap.size _ H rfl (OwnB.ext ho1 hE2) _ P rfl (SlR.of_own ho2) (by omega) hE02.size ?_; intro A3 c3 w3 ho3 hG3; have hE3 : Ext w w3 := hG3 w hE02 (Nat.le_refl _))
      go_ret2
      have hlen : H.length + P.length = (H ++ P).length := by simp
      rw [hlen] at ho3
      refine ⟨A3, c3, ?_, ho3, hE3⟩
      show _ = Ending.returned (.tuple #[.slice A3 (H ++ P).length c3, .int .i64 0])
      rw [List.length_append]
      rfl
    · rw [if_neg ha]
      rw [if_neg ha] at HP
      go_enter Tryz.func83, Tryz.ntmps83
      go_wp2_with fail
      refine HH.out.mono ?_
      rintro e w1 ⟨A1, c1, rfl, ho1, hE1⟩
      dsimp only at ho1 ⊢
      go_wp2_with fail
      refine (HP.out w1 (HT.out.ext hE1) (HL.out.ext hE1)).mono ?_
      rintro e w2 ⟨A2, c2, rfl, ho2, hE2⟩
      dsimp only at ho2 ⊢
      go_wp2_with fail
      go_ret2
      exact resB_nil rfl (Ext.trans hE1 hE2)
  · rw [hd] at HH ⊢
    rw [if_neg (by decide)]
    go_enter Tryz.func83, Tryz.ntmps83
    go_wp2_with fail
    refine HH.out.mono ?_
    rintro e w1 ⟨A1, c1, rfl, ho1, hE1⟩
    dsimp only at ho1 ⊢
    go_wp2_with fail
    go_ret2
    exact resB_nil rfl hE1
end Go.Proofs.YtfjcnpigpkcfgaaGreat

namespace Go.Proofs.YtfjcnpigpkcfgaaGreat
open Go.RowKit Go.Mv
set_option maxRecDepth 100000
variable {T : Tab}

/-- Bytes without their sum, if it is that. -/
def crcTakeS (T : Tab) (b : List UInt8) : Option (List UInt8) := if fourU (nextN T 0 (b.take (b.length - 4))) = b.drop (b.length - 4) then some (b.take (b.length - 4)) else none

set_option maxHeartbeats 1000000 in
theorem crcTake_any (v : Value) (bs : List UInt8) (w : World) (h : Bs w v bs) (hl : 5 ≤ bs.length) (hl2 : bs.length ≤ 100000) (hT : TabW T w) : Calls Tryz.prog 113 #[v] w fun e w' =>
    (match crcTakeS T bs with
    | some p => ∃ A c, e = .returned (.tuple #[.slice A p.length c, .bool true]) ∧ OwnB w' w.heap.size (.slice A p.length c) p
    | none => e = .returned (.tuple #[.slice none 0 0, .bool false])) ∧ Ext w w' := by
  obtain ⟨A, c, rfl, h1, h2⟩ := SlR.open_ h
  obtain ⟨_, b, off, rfl, hc⟩ := Bs.at_ h (by omega)
  obtain ⟨n, hn⟩ : ∃ n, bs.length - 4 = n := ⟨_, rfl⟩
  have hbn : bs.length = n + 4 := by omega
  have hBp := Bs.take h n (by omega)
  have hBf := Bs.cut h n (by omega) rfl
  rw [show bs.length - n = 4 from by omega] at hBf
  have hn1 : 1 ≤ n := by omega
  have hn2 : n ≤ 100000 := by omega
  have hpl : (bs.take n).length = n := by rw [List.length_take]; omega
  have hfl : (bs.drop n).length = 4 := by rw [List.length_drop]; omega
  unfold crcTakeS
  rw [hn]
  obtain ⟨p, hp⟩ : ∃ p, bs.take n = p := ⟨_, rfl⟩
  obtain ⟨g, hg⟩ : ∃ g, bs.drop n = g := ⟨_, rfl⟩
  rw [hp] at hBp hpl ⊢
  rw [hg] at hBf hfl ⊢
  have hsl := nextN_lt (T := T) 0 p (by decide)
  obtain ⟨sm, hsm⟩ : ∃ sm, nextN T 0 p = sm := ⟨_, rfl⟩
  rw [hsm] at hsl ⊢
  have HT := Lib.hid hT
  have HBp := Lib.hid hBp
  have HBf := Lib.hid hBf
  have Hsm := Lib.hid hsm
  obtain ⟨f0, f1, f2, f3, hf⟩ : ∃ f0 f1 f2 f3 : UInt8, fourU sm = [f0, f1, f2, f3] := ⟨_, _, _, _, rfl⟩
  have Hf := Lib.hid hf
  rw [hf]
  have Hpl := Lib.hid hpl
  have Hfl := Lib.hid hfl
  rw [hbn] at h1 ⊢
  clear hc h hBp hBf hp hg hsm hT hn hl hl2 hfl hbn hf
  subst hpl
  have hnc : (p.length : Int) ≤ (c : Int) := by omega
  have hcne : ¬ (c = p.length) := by omega
  have hpp : (p.length : Int) ≤ (p.length : Int) + 4 := by omega
  have hX : Ext w (w.alloc (.cells #[.slice (some ⟨b, off, none⟩) p.length c] 23)) := Ext.alloc (Ext.refl _) _
  by_cases heq : [f0, f1, f2, f3] = g
  all_goals
    have Heq := Lib.hid heq
  · rw [if_pos heq]
    clear heq
    go_enter Tryz.func113, Tryz.ntmps113
    go_wp2_with fail
    refine (crcSum_any (T := T) w.heap.size _ c p _ (Boxed.new w _ _).cell (HBp.out.ext hX) (by omega) (HT.out.ext hX)).mono ?_
    rw [Hsm.out]
    rintro e w1 ⟨rfl, hE1⟩
    have X1 := Ext.trans hX hE1
    go_wp2_with fail
    refine (crcFour_any sm hsl _).mono ?_
    rw [Hf.out]
    rintro e w2 ⟨rfl, hE2⟩
    simp only [List.map_cons, List.map_nil, bv]
    have X2 := Ext.trans X1 hE2
    have hb3 : Blk (w2.alloc (.cells #[.int .u8 (f0.toNat : Int), .int .u8 (f1.toNat : Int), .int .u8 (f2.toNat : Int), .int .u8 (f3.toNat : Int)] 92)) w2.heap.size 92 ([f0, f1, f2, f3].map bv).toArray := Blk.new w2 _ _
    have X3 : Ext w (w2.alloc (.cells #[.int .u8 (f0.toNat : Int), .int .u8 (f1.toNat : Int), .int .u8 (f2.toNat : Int), .int .u8 (f3.toNat : Int)] 92)) := Ext.alloc X2 _
    have h4 : Bs (w2.alloc (.cells #[.int .u8 (f0.toNat : Int), .int .u8 (f1.toNat : Int), .int .u8 (f2.toNat : Int), .int .u8 (f3.toNat : Int)] 92)) (.slice (some ⟨w2.heap.size, 0, none⟩) 4 4) [f0, f1, f2, f3] := blk_slice hb3 rfl (by simp [maxLen])
    go_wp2_with fail
    refine wp_region_held_drew (S := fun _ => True) (by kernel_rfl) trivial (fun hHeld => ?_)
    refine wpAnyH_takeL (i := 0) (v := ?v1_0) rfl (by kernel_rfl) (by kernel_rfl) (by kernel_rfl) (fun _ _ _ h => h) (by rfl) (by assumption) (fun w hw => ?h1_0) ?r1_0
    case h1_0 => (try dsimp only at hw); go_simp; try with_reducible rfl
    case' r1_0 => skip
    try simp only [Act.put, List.setIfInBounds_toArray, List.set_cons_zero, List.set_cons_succ]
    refine wpAnyH_takeL (i := 1) (v := ?v1_1) rfl (by kernel_rfl) (by kernel_rfl) (by kernel_rfl) (fun _ _ _ h => h) (by rfl) (by assumption) (fun w hw => ?h1_1) ?r1_1
    case h1_1 => (try dsimp only at hw); go_simp; try with_reducible rfl
    case' r1_1 => skip
    try simp only [Act.put, List.setIfInBounds_toArray, List.set_cons_zero, List.set_cons_succ]
    refine wpAnyH_takeL (i := 2) (v := ?v1_2) rfl (by kernel_rfl) (by kernel_rfl) (by kernel_rfl) (fun _ _ _ h => h) (by rfl) (by assumption) (fun w hw => ?h1_2) ?r1_2
    case h1_2 => (try dsimp only at hw); go_simp; try with_reducible rfl
    case' r1_2 => skip
    try simp only [Act.put, List.setIfInBounds_toArray, List.set_cons_zero, List.set_cons_succ]
    refine wpAnyH_takeL (i := 3) (v := ?v1_3) rfl (by kernel_rfl) (by kernel_rfl) (by kernel_rfl) (fun _ _ _ h => h) (by rfl) (by assumption) (fun w hw => ?h1_3) ?r1_3
    case h1_3 => (try dsimp only at hw); go_simp; try with_reducible rfl
    case' r1_3 => skip
    try simp only [Act.put, List.setIfInBounds_toArray, List.set_cons_zero, List.set_cons_succ]
    refine AllReadyH.one (i := 4) rfl (by kernel_rfl) (by rfl) (fun K hK => ?_)
    go_simp
    have hEq := bytesEqual_any _ _ _ _ _ (h4.ext (Ext.drew (Ext.refl _))) (HBf.out.ext (Ext.drew X3))
    refine hEq.mono ?_
    rw [decide_eq_true Heq.out]
    rintro e w4 ⟨rfl, rfl⟩
    try (go_wp2_with fail)
    refine hK.out _ _ trivial (fun hHeld => ?_)
    clear hK K
    try simp only [Act.put, List.setIfInBounds_toArray, List.set_cons_zero, List.set_cons_succ]
    refine wpAnyH_takeL (i := 5) (v := ?v4_5) rfl (by kernel_rfl) (by kernel_rfl) (by kernel_rfl) (fun _ _ _ h => h) (by rfl) (by assumption) (fun w hw => ?h4_5) ?r4_5
    case h4_5 => (try dsimp only at hw); go_simp; try with_reducible rfl
    case' r4_5 => skip
    try simp only [Act.put, List.setIfInBounds_toArray, List.set_cons_zero, List.set_cons_succ]
    refine wpAnyH_done (by kernel_rfl) ?_ _
    go_wp2_with fail
    refine (bclone_any _ p _ (HBp.out.ext (Ext.drew X3)) (by omega) (by omega)).mono ?_
    rintro e w5 ⟨A5, c5, rfl, ho5, hE5⟩
    go_wp2_with fail
    go_ret2
    exact ⟨⟨A5, c5, rfl, own_base ho5 (Ext.drew X3).size⟩, Ext.trans (Ext.drew X3) hE5⟩
  · rw [if_neg heq]
    clear heq
    go_enter Tryz.func113, Tryz.ntmps113
    go_wp2_with fail
    refine (crcSum_any (T := T) w.heap.size _ c p _ (Boxed.new w _ _).cell (HBp.out.ext hX) (by omega) (HT.out.ext hX)).mono ?_
    rw [Hsm.out]
    rintro e w1 ⟨rfl, hE1⟩
    have X1 := Ext.trans hX hE1
    go_wp2_with fail
    refine (crcFour_any sm hsl _).mono ?_
    rw [Hf.out]
    rintro e w2 ⟨rfl, hE2⟩
    simp only [List.map_cons, List.map_nil, bv]
    have X2 := Ext.trans X1 hE2
    have hb3 : Blk (w2.alloc (.cells #[.int .u8 (f0.toNat : Int), .int .u8 (f1.toNat : Int), .int .u8 (f2.toNat : Int), .int .u8 (f3.toNat : Int)] 92)) w2.heap.size 92 ([f0, f1, f2, f3].map bv).toArray := Blk.new w2 _ _
    have X3 : Ext w (w2.alloc (.cells #[.int .u8 (f0.toNat : Int), .int .u8 (f1.toNat : Int), .int .u8 (f2.toNat : Int), .int .u8 (f3.toNat : Int)] 92)) := Ext.alloc X2 _
    have h4 : Bs (w2.alloc (.cells #[.int .u8 (f0.toNat : Int), .int .u8 (f1.toNat : Int), .int .u8 (f2.toNat : Int), .int .u8 (f3.toNat : Int)] 92)) (.slice (some ⟨w2.heap.size, 0, none⟩) 4 4) [f0, f1, f2, f3] := blk_slice hb3 rfl (by simp [maxLen])
    go_wp2_with fail
    refine wp_region_held_drew (S := fun _ => True) (by kernel_rfl) trivial (fun hHeld => ?_)
    refine wpAnyH_takeL (i := 0) (v := ?v6_0) rfl (by kernel_rfl) (by kernel_rfl) (by kernel_rfl) (fun _ _ _ h => h) (by rfl) (by assumption) (fun w hw => ?h6_0) ?r6_0
    case h6_0 => (try dsimp only at hw); go_simp; try with_reducible rfl
    case' r6_0 => skip
    try simp only [Act.put, List.setIfInBounds_toArray, List.set_cons_zero, List.set_cons_succ]
    refine wpAnyH_takeL (i := 1) (v := ?v6_1) rfl (by kernel_rfl) (by kernel_rfl) (by kernel_rfl) (fun _ _ _ h => h) (by rfl) (by assumption) (fun w hw => ?h6_1) ?r6_1
    case h6_1 => (try dsimp only at hw); go_simp; try with_reducible rfl
    case' r6_1 => skip
    try simp only [Act.put, List.setIfInBounds_toArray, List.set_cons_zero, List.set_cons_succ]
    refine wpAnyH_takeL (i := 2) (v := ?v6_2) rfl (by kernel_rfl) (by kernel_rfl) (by kernel_rfl) (fun _ _ _ h => h) (by rfl) (by assumption) (fun w hw => ?h6_2) ?r6_2
    case h6_2 => (try dsimp only at hw); go_simp; try with_reducible rfl
    case' r6_2 => skip
    try simp only [Act.put, List.setIfInBounds_toArray, List.set_cons_zero, List.set_cons_succ]
    refine wpAnyH_takeL (i := 3) (v := ?v6_3) rfl (by kernel_rfl) (by kernel_rfl) (by kernel_rfl) (fun _ _ _ h => h) (by rfl) (by assumption) (fun w hw => ?h6_3) ?r6_3
    case h6_3 => (try dsimp only at hw); go_simp; try with_reducible rfl
    case' r6_3 => skip
    try simp only [Act.put, List.setIfInBounds_toArray, List.set_cons_zero, List.set_cons_succ]
    refine AllReadyH.one (i := 4) rfl (by kernel_rfl) (by rfl) (fun K hK => ?_)
    go_simp
    have hEq := bytesEqual_any _ _ _ _ _ (h4.ext (Ext.drew (Ext.refl _))) (HBf.out.ext (Ext.drew X3))
    refine hEq.mono ?_
    rw [decide_eq_false Heq.out]
    rintro e w4 ⟨rfl, rfl⟩
    try (go_wp2_with fail)
    refine hK.out _ _ trivial (fun hHeld => ?_)
    clear hK K
    try simp only [Act.put, List.setIfInBounds_toArray, List.set_cons_zero, List.set_cons_succ]
    refine wpAnyH_takeL (i := 5) (v := ?v9_5) rfl (by kernel_rfl) (by kernel_rfl) (by kernel_rfl) (fun _ _ _ h => h) (by rfl) (by assumption) (fun w hw => ?h9_5) ?r9_5
    case h9_5 => (try dsimp only at hw); go_simp; try with_reducible rfl
    case' r9_5 => skip
    try simp only [Act.put, List.setIfInBounds_toArray, List.set_cons_zero, List.set_cons_succ]
    refine wpAnyH_done (by kernel_rfl) ?_ _
    go_wp2_with fail
    go_ret2
    exact ⟨rfl, Ext.drew X3⟩

/-- A record's entry. -/
def take1S (T : Tab) (b : List UInt8) : Option Ent :=
  match crcTakeS T b with
  | none => none
  | some p =>
    if (takeLongS p).1 = 0 then
      (if (takeLongS ((takeLongS p).2.2.drop 1)).1 = 0 then
        (if okB (takeLongS p).2.1 (((takeLongS p).2.2.getD 0 0).toNat : Int) (takeLongS ((takeLongS p).2.2.drop 1)).2.1 = true then some ⟨(takeLongS p).2.1, (((takeLongS p).2.2.getD 0 0).toNat : Int), (takeLongS ((takeLongS p).2.2.drop 1)).2.1⟩ else none)
      else none)
    else none
def Take1P (w : World) (r : Option Ent) (e : Ending) (w' : World) : Prop := (match r with
  | some x => e = .returned (.tuple #[.agg #[.int .i64 x.t, .int .i64 x.k, .int .i64 x.v], .bool true])
  | none => e = .returned (.tuple #[.agg #[.int .i64 0, .int .i64 0, .int .i64 0], .bool false])) ∧ Ext w w'
theorem crcTakeS_len {b p : List UInt8} (h : crcTakeS T b = some p) : p.length = b.length - 4 := by
  unfold crcTakeS at h
  split at h
  · cases h; rw [List.length_take]; omega
  · cases h
end Go.Proofs.YtfjcnpigpkcfgaaGreat
