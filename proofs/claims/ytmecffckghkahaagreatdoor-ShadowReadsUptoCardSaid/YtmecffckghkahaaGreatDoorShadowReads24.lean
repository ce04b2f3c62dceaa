/- Merged: Man3 Man4 -/
import Derived.Test.YtmecffckghkahaaGreatDoorShadowReads23
set_option linter.all false
set_option maxHeartbeats 8000000
namespace Go.Proofs.YtmecffckghkahaaGreatDoor
open Go.RowKit Go.Mv
set_option maxRecDepth 100000
theorem segUnder : Tryz.prog.underlying 71 = some (.struct (Tryz.prog.fieldsOf 71)) := by kernel_rfl
theorem segHeld : Tryz.prog.stoodInHeld 71 = false := by kernel_rfl
theorem segGuard : Tryz.prog.eqGuardType Tryz.prog.depth 71 = false := by kernel_rfl
theorem segEq_run (a b : Sg4) (W : World) : (Op.equalIn 10000 71 (.agg #[.int .i64 a.seq, .int .i64 a.fmt, .int .i64 a.first, .int .i64 a.count]) (.agg #[.int .i64 b.seq, .int .i64 b.fmt, .int .i64 b.first, .int .i64 b.count])).run Tryz.prog W = .ok (decide (a = b)) W := by
 have e : decide (a = b) = (a.seq == b.seq && a.fmt == b.fmt && a.first == b.first && a.count == b.count) := by
  rw [Bool.eq_iff_iff]
  cases a; cases b
  simp [and_assoc]
 rw [run_equalIn_struct W 9999 71 _ _ segUnder segHeld, e]
 cases h0 : (a.seq == b.seq) <;> cases h1 : (a.fmt == b.fmt) <;> cases h2 : (a.first == b.first) <;> cases h3 : (a.count == b.count) <;> simp [go_sem, h0, h1, h2, h3]
theorem SameM_any (a b : Mf) (va vb : Value) (w : World) (hA : Sgs w va a.segs) (hB : Sgs w vb b.segs) :
  Calls Tryz.prog 16 #[.agg #[.int .i64 a.next, .int .i64 a.term, .int .i64 a.vote, .int .i64 a.sq, .int .i64 a.sf, va], .agg #[.int .i64 b.next, .int .i64 b.term, .int .i64 b.vote, .int .i64 b.sq, .int .i64 b.sf, vb]] w fun e w' => e = .returned (.bool (decide (a = b))) ∧ Ext w w' := by
 obtain ⟨A, c, rfl, hc1, hc2⟩ := hA.open_
 obtain ⟨B, d, rfl, hd1, hd2⟩ := hB.open_
 obtain ⟨n1, t1, v1, q1, f1, l1⟩ := a
 obtain ⟨n2, t2, v2, q2, f2, l2⟩ := b
 dsimp only at *
 obtain ⟨R, hR⟩ : ∃ R, decide ((⟨n1, t1, v1, q1, f1, l1⟩ : Mf) = ⟨n2, t2, v2, q2, f2, l2⟩) = R := ⟨_, rfl⟩
 rw [hR]
 have HR : Hid (decide (n1 = n2 ∧ t1 = t2 ∧ v1 = v2 ∧ q1 = q2 ∧ f1 = f2 ∧ l1 = l2) = R) := Lib.hid (by rw [← hR]; simp)
 have HA := Lib.hid hA
 have HB := Lib.hid hB
 obtain ⟨x1, hx1⟩ : ∃ x : Array Value, #[.int .i64 n1, .int .i64 t1, .int .i64 v1, .int .i64 q1, .int .i64 f1, .slice A l1.length c] = x := ⟨_, rfl⟩
 obtain ⟨x2, hx2⟩ : ∃ x : Array Value, #[.int .i64 n2, .int .i64 t2, .int .i64 v2, .int .i64 q2, .int .i64 f2, .slice B l2.length d] = x := ⟨_, rfl⟩
 have hb0 := Blk.new w 32 x1
 have hb1 := hb0.alloc (.cells x2 32)
 have hb2 := Blk.new (w.alloc (.cells x1 32)) 32 x2
 rw [World.size_alloc] at hb2
 have hX : Ext w ((w.alloc (.cells x1 32)).alloc (.cells x2 32)) := Ext.alloc (Ext.alloc (Ext.refl _) _) _
 subst hx1 hx2
 obtain ⟨m0, m1, m2, m3, m4, m5⟩ := blk6 hb1
 obtain ⟨p0, p1, p2, p3, p4, p5⟩ := blk6 hb2
 have E0 := Lib.hid hX
 have Hb1 := Lib.hid hb1
 have Hb2 := Lib.hid hb2
 clear hR hA hB hX hb0 hb1 hb2
 go_enter Tryz.func16, Tryz.ntmps16
 by_cases e1 : n1 = n2
 case neg =>
  have : R = false := by rw [← HR.out]; simp [e1]
  subst this
  go_wp2_with fail
  go_ret
  exact ⟨rfl, Ext.alloc (Ext.alloc (Ext.refl _) _) _⟩
 subst e1
 by_cases e2 : t1 = t2
 case neg =>
  have : R = false := by rw [← HR.out]; simp [e2]
  subst this
  go_wp2_with fail
  go_ret
  exact ⟨rfl, Ext.alloc (Ext.alloc (Ext.refl _) _) _⟩
 subst e2
 by_cases e3 : v1 = v2
 case neg =>
  have : R = false := by rw [← HR.out]; simp [e3]
  subst this
  go_wp2_with fail
  go_ret
  exact ⟨rfl, Ext.alloc (Ext.alloc (Ext.refl _) _) _⟩
 subst e3
 by_cases e4 : q1 = q2
 case neg =>
  have : R = false := by rw [← HR.out]; simp [e4]
  subst this
  go_wp2_with fail
  all_goals go_ret
  all_goals exact ⟨rfl, Ext.alloc (Ext.alloc (Ext.refl _) _) _⟩
 subst e4
 by_cases e5 : f1 = f2
 case neg =>
  have : R = false := by rw [← HR.out]; simp [e5]
  subst this
  go_wp2_with fail
  all_goals go_ret
  all_goals exact ⟨rfl, Ext.alloc (Ext.alloc (Ext.refl _) _) _⟩
 subst e5
 by_cases e6 : (l1.length : Int) = (l2.length : Int)
 case neg =>
  have : R = false := by rw [← HR.out]; simp; intro h; subst h; exact e6 rfl
  subst this
  go_wp2_with fail
  all_goals go_ret
  all_goals exact ⟨rfl, Ext.alloc (Ext.alloc (Ext.refl _) _) _⟩
 have HR2 : Hid (decide (l1 = l2) = R) := Lib.hid (by rw [← HR.out]; simp)
 have hlen : l1.length = l2.length := by omega
 have Hlen := Lib.hid hlen
 clear HR hlen
 go_wp2_with fail
 go_loopw [5] (fun x W => ∃ k : Nat, k ≤ l1.length ∧ x = .int .i64 k ∧ Hid (l1.take k = l2.take k) ∧ Ext ((w.alloc (.cells #[.int .i64 n1, .int .i64 t1, .int .i64 v1, .int .i64 q1, .int .i64 f1, .slice A l1.length c] 32)).alloc (.cells #[.int .i64 n1, .int .i64 t1, .int .i64 v1, .int .i64 q1, .int .i64 f1, .slice B l2.length d] 32)) W) (fun x _ => l1.length - (intOf x).toNat)
 case atStart => exact ⟨0, by omega, rfl, Lib.hid rfl, (by first | exact Ext.refl _ | (rw [e6]; exact Ext.refl _))⟩
 case round =>
  obtain ⟨k, hk, rfl, Hn, hEr⟩ := hrel
  have HEq := Lib.hid hEr
  have HEr := Lib.hid (Ext.trans E0.out hEr)
  obtain ⟨_, _, _, _, _, M5⟩ := blk6 (Hb1.out.ext hEr)
  obtain ⟨_, _, _, _, _, P5⟩ := blk6 (Hb2.out.ext hEr)
  by_cases hlt : k < l1.length
  ·have hlt2 : k < l2.length := by have := Hlen.out; omega
   obtain ⟨_, b, off, rfl, hcell⟩ := (HA.out.ext HEr.out).at_ (by omega)
   obtain ⟨_, b2, off2, rfl, hcell2⟩ := (HB.out.ext HEr.out).at_ (by omega)
   obtain ⟨s0, s1, s2, s3⟩ := hcell k hlt
   obtain ⟨u0, u1, u2, u3⟩ := hcell2 k hlt2
   clear hcell hcell2 hEr m0 m1 m2 m3 m4 m5 p0 p1 p2 p3 p4 p5
   have hk0 : (0 : Int) ≤ (k : Int) := by omega
   have hk1 : (k : Int) < (l1.length : Int) := by omega
   have hk2 : (k : Int) < (l2.length : Int) := by omega
   have heq := segEq_run l1[k] l2[k]
   have hgd := segGuard
   obtain ⟨q, hq⟩ : ∃ q, decide (l1[k] = l2[k]) = q := ⟨_, rfl⟩
   have Hq := Lib.hid hq
   rw [hq] at heq
   clear hq
   go_wp2_with fail
   go_quiet (fail)
   clear heq hgd
   cases q
   ·have hR : R = false := by
     rw [← HR2.out]
     have := Hq.out
     simp only [decide_eq_false_iff_not] at this ⊢
     intro h
     apply this
     simp only [h]
    subst hR
    go_wp2_with fail
    go_ret
    exact ⟨rfl, edrewN HEr.out _⟩
   ·go_wp2_with fail
    go_roundw
    case rel =>
     have hq2 : l1[k] = l2[k] := by simpa using Hq.out
     refine ⟨k + 1, by omega, by go_num, Lib.hid ?_, edrewN HEq.out _⟩
     rw [List.take_succ_eq_append_getElem hlt, List.take_succ_eq_append_getElem (by omega), Hn.out, hq2]
    case measure => simp [intOf]; omega
  ·have hR : R = true := by
    rw [← HR2.out]
    have h1 := Hn.out
    have h2 := Hlen.out
    rw [List.take_of_length_le (by omega), List.take_of_length_le (by omega)] at h1
    simpa using h1
   subst hR
   obtain rfl : k = l1.length := by omega
   clear m0 m1 m2 m3 m4 m5 p0 p1 p2 p3 p4 p5
   go_wp2_with fail
   go_ret
   exact ⟨rfl, HEr.out⟩
open Go.RowKit Go.Mv
set_option maxRecDepth 100000
def sgInts (l : List Sg4) : List Int := l.flatMap fun s => [s.seq, s.fmt, s.first, s.count + 1]
def mfInts (m : Mf) : List Int := [m.next, m.term, m.vote, m.sq, m.sf, (m.segs.length : Int)] ++ sgInts m.segs
def putM (m : Mf) : Option (List UInt8) := if checkM m then some (crcPut rT (77 :: shorts (mfInts m))) else none
def MPutP (w : World) (r : Option (List UInt8)) (e : Ending) (w' : World) : Prop := (∃ v, e = .returned (.tuple #[v, .int .i64 (if r.isSome then 0 else 2)]) ∧ OwnB w' w.heap.size v (r.getD [])) ∧ Ext w w'
theorem sgInts_len (l : List Sg4) : (sgInts l).length = 4 * l.length := by
 induction l with
 | nil => rfl
 | cons e l ih => simp only [sgInts, List.flatMap_cons, List.length_append, List.length_cons, List.length_nil] at ih ⊢; omega
theorem sgInts_take (l : List Sg4) (k : Nat) (h : k < l.length) : sgInts (l.take (k + 1)) = sgInts (l.take k) ++ [l[k].seq, l[k].fmt, l[k].first, l[k].count + 1] := by
 rw [List.take_succ_eq_append_getElem h]; unfold sgInts; rw [List.flatMap_append]; rfl
theorem checkM_b {m : Mf} (h : checkM m = true) : (1 ≤ m.next ∧ m.next ≤ 1073741824) ∧ (0 ≤ m.term ∧ m.term ≤ 1073741824) ∧ (0 ≤ m.vote ∧ m.vote ≤ 5) ∧ m.segs.length ≤ 60 ∧ ((m.sq = 0 ∧ m.sf = 0) ∨ (1 ≤ m.sq ∧ m.sq ≤ m.next - 1 ∧ (m.sf = 1 ∨ m.sf = 2))) ∧
  ∀ i (hi : i < m.segs.length), segOk m i m.segs[i] = true := by
 unfold checkM headOk snapOk at h
 simp only [Bool.and_eq_true, Bool.or_eq_true, decide_eq_true_eq, inB_b] at h
 obtain ⟨⟨⟨⟨⟨h1, h2⟩, h3⟩, h4⟩, h5⟩, h6⟩ := h
 refine ⟨h1, h2, h3, h4, ?_, fun i hi => ?_⟩
 ·rcases h5 with h5 | h5
  ·exact .inl h5
  ·exact .inr (fileOk_b h5)
 ·obtain ⟨s, hs, ho⟩ := segsOk_b h6 i hi
  rw [List.getElem?_eq_getElem hi] at hs
  cases hs
  exact ho
theorem checkM_num {m : Mf} (h : checkM m = true) : allNum (mfInts m) = true := by
 obtain ⟨h1, h2, h3, h4, h5, h6⟩ := checkM_b h
 unfold allNum
 rw [List.all_eq_true]
 intro x hx
 rw [numB_true]
 unfold mfInts at hx
 rcases List.mem_append.1 hx with hx | hx
 ·simp only [List.mem_cons, List.not_mem_nil, or_false] at hx
  rcases hx with rfl | rfl | rfl | rfl | rfl | rfl <;> omega
 ·obtain ⟨s, hs, hx⟩ := List.mem_flatMap.1 hx
  obtain ⟨i, hi, rfl⟩ := List.mem_iff_getElem.1 hs
  obtain ⟨k1, _, k3, _, k5⟩ := segOk_b (h6 i hi)
  have k0 := fileOk_b k1
  simp only [List.mem_cons, List.not_mem_nil, or_false] at hx
  rcases hx with rfl | rfl | rfl | rfl <;> omega
def OwnI (w : World) (base : Nat) (v : Value) (l : List Int) : Prop := w.ownsRow base 3 1 v l.length (l.map iv)
theorem OwnI.is {w : World} {base : Nat} {v : Value} {l : List Int} (h : OwnI w base v l) : Is w v l := SlR.of_own h
theorem OwnI.ext {w w' : World} {base : Nat} {v : Value} {l : List Int} (h : OwnI w base v l) (he : Ext w w') : OwnI w' base v l := own_ext h he
theorem wpList_app_i {ops : Array Oper} {rest : List Oper} {o : Oper} {a : Act} {w : World} {Q : Exit → Act → World → Prop} (hgd : o.guard = none) (s x : Operand)
  (ho : o.op = .call { callee := .builtin .append, args := #[s, x], argTypes := #[86, 86] })
  (base : Nat) (v : Value) (bs : List Int) (hs : a.eval s = v) (hown : OwnI w base v bs) (vx : Value) (cs : List Int) (hx : a.eval x = vx) (hr : Is w vx cs)
  (hlen : bs.length + cs.length ≤ 40000000) (hbase : base ≤ w.heap.size)
  (h : ∀ A c w', OwnI w' base (.slice A (bs.length + cs.length) c) (bs ++ cs) → Grows base w w' → wpList Tryz.prog ops Q rest (a.put o.dst (.slice A (bs.length + cs.length) c)) w') : wpList Tryz.prog ops Q (o :: rest) a w := by
 obtain ⟨i0, hi, hz0, hz1, hz2⟩ := info_parts info_int
 refine wpList_append_sl _ hgd s x 86 ho base 3 i0 (.int .i64 0) 1 8 Tryz.underlying86 hi hz0 hz1 hz2 rfl (by decide) v bs.length (bs.map iv) hs hown vx cs.length (cs.map iv) hx hr (one_iv _) (by unfold maxLen; omega) (by omega) hbase ?_
 intro v' w' h1 h2
 obtain ⟨A, c, rfl, _, _⟩ := SlR.open_ (SlR.of_own h1)
 refine h A c w' ?_ (fun W0 hE hb => Ext.grownOwn hE (own_base hown hb) h2)
 unfold OwnI
 rw [List.length_append, List.map_append]
 exact h1
theorem PutM_any (m : Mf) (v : Value) (w : World) (hS : Sgs w v m.segs) :
  Calls Tryz.prog 14 #[.agg #[.int .i64 m.next, .int .i64 m.term, .int .i64 m.vote, .int .i64 m.sq, .int .i64 m.sf, v]] w (MPutP w (putM m)) := by
 obtain ⟨A, c, rfl, hc1, hc2⟩ := hS.open_
 have hb0 := Blk.new w 32 #[.int .i64 m.next, .int .i64 m.term, .int .i64 m.vote, .int .i64 m.sq, .int .i64 m.sf, .slice A m.segs.length c]
 have hX : Ext w (w.alloc (.cells #[.int .i64 m.next, .int .i64 m.term, .int .i64 m.vote, .int .i64 m.sq, .int .i64 m.sf, .slice A m.segs.length c] 32)) := Ext.alloc (Ext.refl _) _
 obtain ⟨m0, m1, m2, m3, m4, m5⟩ := blk6 hb0
 have HS := Lib.hid hS
 have arm := Check_any m (.slice A m.segs.length c) _ (hS.ext hX)
 have Arm := Lib.hid arm
 clear arm hS
 go_enter Tryz.func14, Tryz.ntmps14
 go_wp2_with fail
 refine Arm.out.mono ?_
 rintro e w1 ⟨rfl, hE1⟩
 have E1 := Ext.trans hX hE1
 have HE1 := Lib.hid E1
 have Hb := Lib.hid (hb0.ext hE1)
 clear hb0 hX hE1 m0 m1 m2 m3 m4 m5 Arm
 cases hck : checkM m with
 | false =>
  have hr : putM m = none := by unfold putM; rw [hck]; rfl
  go_wp2_with fail
  go_ret2
  rw [hr]
  exact ⟨⟨_, rfl, World.ownsRow_nil _ _ _ _⟩, HE1.out⟩
 | true =>
 have hr : putM m = some (crcPut rT (77 :: shorts (mfInts m))) := by unfold putM; rw [hck]; rfl
 have Hr := Lib.hid hr
 have Hck := Lib.hid hck
 obtain ⟨_, _, _, hl60, _, _⟩ := checkM_b hck
 obtain ⟨m0, m1, m2, m3, m4, m5⟩ := blk6 Hb.out
 clear hr hck E1
 go_wp2_with fail
 have hfin := checkM_num Hck.out
 have Hfin := Lib.hid hfin
 have hO := own_new w1 ([m.next, m.term, m.vote, m.sq, m.sf, (m.segs.length : Int)].map iv) 3 6 rfl (by simp [maxLen]) (Nat.le_refl _)
 have HO := Lib.hid hO
 have hEn : Ext w1 (w1.alloc (.cells #[.int .i64 m.next, .int .i64 m.term, .int .i64 m.vote, .int .i64 m.sq, .int .i64 m.sf, .int .i64 (m.segs.length : Int)] 3)) := Ext.alloc (Ext.refl _) _
 have HEn := Lib.hid hEn
 obtain ⟨H0, hH0⟩ : ∃ H0, [m.next, m.term, m.vote, m.sq, m.sf, (m.segs.length : Int)] = H0 := ⟨_, rfl⟩
 have hH6 : H0.length = 6 := by rw [← hH0]; rfl
 have hmi : mfInts m = H0 ++ sgInts m.segs := by rw [← hH0]; rfl
 have HH0 := Lib.hid hH0
 have Hmi := Lib.hid hmi
 clear hO hEn hmi hH0 hfin m0 m1 m2 m3 m4 m5
 go_loopw [4, 5] (fun vl x W => ∃ (j : Nat) (a' : Option Addr) (c' : Nat), j ≤ m.segs.length ∧ x = .int .i64 j ∧ vl = .slice a' (6 + 4 * j) c' ∧ Hid (OwnI W w1.heap.size (.slice a' (6 + 4 * j) c') (H0 ++ sgInts (m.segs.take j))) ∧ Ext w1 W) (fun _ x _ => m.segs.length - (intOf x).toNat)
 case atStart =>
  refine ⟨0, _, _, by omega, rfl, rfl, Lib.hid ?_, HEn.out⟩
  have := HO.out
  unfold OwnI
  rw [List.take_zero, show sgInts [] = [] from rfl, List.append_nil, hH6, ← HH0.out]
  exact this
 case round =>
  obtain ⟨j, a', c', hj, rfl, rfl, Hown, hEr⟩ := hrel
  have HEr := Lib.hid hEr
  have HE := Lib.hid (Ext.trans HE1.out hEr)
  obtain ⟨_, _, _, _, _, M5⟩ := blk6 (Hb.out.ext hEr)
  clear hEr
  have hbase : w1.heap.size ≤ wr.heap.size := HEr.out.size
  by_cases hlt : j < m.segs.length
  ·obtain ⟨_, b, off, rfl, hcell⟩ := (HS.out.ext HE.out).at_ (by omega)
   obtain ⟨s0, s1, s2, s3⟩ := hcell j hlt
   have htk := sgInts_take m.segs j hlt
   have hso := (checkM_b Hck.out).2.2.2.2.2 j hlt
   generalize m.segs[j] = s at *
   have hcnt : IntKind.i64.wrap (s.count + 1) = s.count + 1 := by
    obtain ⟨_, _, _, _, h5⟩ := segOk_b hso
    rw [IntKind.wrap_i64]; omega
   have Htk := Lib.hid htk
   clear hcell htk hso
   have hjz : (j : Int) < (m.segs.length : Int) := by omega
   have hbs := Blk.new wr 71 #[.int .i64 s.seq, .int .i64 s.fmt, .int .i64 s.first, .int .i64 s.count]
   have hXs : Ext wr (wr.alloc (.cells #[.int .i64 s.seq, .int .i64 s.fmt, .int .i64 s.first, .int .i64 s.count] 71)) := Ext.alloc (Ext.refl _) _
   obtain ⟨k0, k1, k2, k3⟩ := blk4c hbs
   have hI : Is ((wr.alloc (.cells #[.int .i64 s.seq, .int .i64 s.fmt, .int .i64 s.first, .int .i64 s.count] 71)).alloc (.cells #[.int .i64 s.seq, .int .i64 s.fmt, .int .i64 s.first, .int .i64 (s.count + 1)] 3)) (.slice (some ⟨wr.heap.size + 1, 0, none⟩) 4 4) [s.seq, s.fmt, s.first, s.count + 1] := by
    have := own_new (wr.alloc (.cells #[.int .i64 s.seq, .int .i64 s.fmt, .int .i64 s.first, .int .i64 s.count] 71)) ([s.seq, s.fmt, s.first, s.count + 1].map iv) 3 4 rfl (by simp [maxLen]) (Nat.le_refl _)
    rw [World.size_alloc] at this
    exact SlR.of_own this
   have HI := Lib.hid hI
   have hX2 : Ext wr ((wr.alloc (.cells #[.int .i64 s.seq, .int .i64 s.fmt, .int .i64 s.first, .int .i64 s.count] 71)).alloc (.cells #[.int .i64 s.seq, .int .i64 s.fmt, .int .i64 s.first, .int .i64 (s.count + 1)] 3)) := Ext.alloc hXs _
   have HX2 := Lib.hid hX2
   obtain ⟨P, hP⟩ : ∃ P, H0 ++ sgInts (m.segs.take j) = P := ⟨_, rfl⟩
   have hPl : P.length = 6 + 4 * j := by rw [← hP, List.length_append, hH6, sgInts_len, List.length_take]; omega
   rw [hP] at Hown
   have HP := Lib.hid hP
   clear hbs hI hX2 hP
   go_wp2_with (at_builtin; refine wpList_app_i rfl (.tmp 40) (.tmp 50) rfl w1.heap.size _ P rfl (Hown.out.ext HX2.out) _ [s.seq, s.fmt, s.first, s.count + 1] rfl HI.out (by rw [hPl]; simp; omega) (Nat.le_trans hbase HX2.out.size) ?_; intro A3 c3 w3 ho3 hG3; rw [hPl] at ho3 ⊢; have hE3 := hG3 w1 (Ext.trans HEr.out HX2.out) (Nat.le_refl _))
   go_roundw
   case rel =>
    refine ⟨j + 1, _, _, by omega, by go_num, rfl, Lib.hid ?_, hE3⟩
    rw [Htk.out, ← List.append_assoc, HP.out]
    exact ho3
   case measure => simp [intOf]; omega
  ·obtain rfl : j = m.segs.length := by omega
   have hO2 := Hown.out
   rw [List.take_length, ← Hmi.out] at hO2
   have HO2 := Lib.hid hO2
   have hml : (mfInts m).length ≤ 2000000 := by rw [Hmi.out, List.length_append, hH6, sgInts_len]; omega
   have arm := refShort_ok _ _ _ hO2.is Hfin.out hml
   have Arm := Lib.hid arm
   have hsl := shorts_len (mfInts m)
   have hml2 : (mfInts m).length ≤ 246 := by rw [Hmi.out, List.length_append, hH6, sgInts_len]; omega
   clear hO2 arm Hown HO HEn Hmi HS
   go_wp2_with fail
   refine Arm.out.mono ?_
   rintro e w3 ⟨v3, rfl, ho3, hE3⟩
   have hb3 : Bs w3 v3 (shorts (mfInts m)) := SlR.of_own ho3
   obtain ⟨A3, c3, rfl, _, _⟩ := SlR.open_ hb3
   have HB3 := Lib.hid hb3
   have X3 := Lib.hid (Ext.trans HE.out hE3)
   obtain ⟨L, hL⟩ : ∃ L, shorts (mfInts m) = L := ⟨_, rfl⟩
   have hLl : L.length ≤ 2000 := by rw [← hL]; omega
   have HL := Lib.hid hL
   rw [hL] at HB3
   have hll2 : (shorts (mfInts m)).length = L.length := by rw [hL]
   rw [hll2] at *
   clear hb3 ho3 hL hsl hll2 Arm
   go_wp2_with (at_builtin; refine wpList_app_b rfl (.tmp 57) (.tmp 58) rfl w3.heap.size _ [77] rfl (own_new w3 [.int .u8 77] 5 1 rfl (by simp [maxLen]) (Nat.le_refl _)) _ L rfl (HB3.out.ext (Ext.alloc (Ext.refl _) _)) (by simp; omega) (by simp) ?_; intro A4 c4 w4 ho4 hG4; have hE4 : Ext w3 w4 := hG4 w3 (Ext.alloc (Ext.refl _) _) (Nat.le_refl _))
   refine (refPut_any _ _ _ ho4.bs (by simp; omega)).mono ?_
   rintro e w5 ⟨A5, c5, rfl, ho5, hE5⟩
   have hr : putM m = some (crcPut rT ([77] ++ L)) := by rw [Hr.out, HL.out]; rfl
   go_wp2_with fail
   go_ret2
   rw [hr]
   exact ⟨⟨_, rfl, own_base ho5 (Ext.trans X3.out hE4).size⟩, Ext.trans X3.out (Ext.trans hE4 hE5)⟩
end Go.Proofs.YtmecffckghkahaaGreatDoor
