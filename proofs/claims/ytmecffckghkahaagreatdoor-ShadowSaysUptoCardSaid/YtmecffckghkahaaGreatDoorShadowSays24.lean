/- Merged: Man4 Man5 -/
import Derived.Test.YtmecffckghkahaaGreatDoorShadowSays23
import Derived.StillTailTactics
set_option linter.all false
set_option maxHeartbeats 8000000
namespace Go.Proofs.YtmecffckghkahaaGreatDoor
open Go.RowKit Go.Mv
set_option maxRecDepth 100000
def sgInts (l : List Sg4) : List Int := l.flatMap fun s => [s.seq, s.fmt, s.first, s.count + 1]
def mfInts (m : Mf) : List Int := [m.next, m.term, m.vote, m.sq, m.sf, (m.segs.length : Int)] ++ sgInts m.segs
def putM (m : Mf) : Option (List UInt8) := if checkM m then some (crcPut rT (77 :: shorts (mfInts m))) else none
def MPutP (w : World) (r : Option (List UInt8)) (e : Ending) (w' : World) : Prop := (∃ v, e = .returned (.tuple #[v, .int .i64 (if r.isSome then 0 else 2)]) ∧ OwnB w' w.heap.size v (r.getD [])) ∧ Ext w w'
theorem sgInts_len (l : List Sg4) : (sgInts l).length = 4 * l.length := by
 induction l with
 | nil => rfl
 | cons e l ih => simp only [sgInts, List.flatMap_cons, List.length_append, List.length_cons, List.length_nil] at ih ⊢; omega
theorem sgInts_take (l : List Sg4) (k : Nat) (h : k < l.length) : sgInts (l.take (k + 1)) = sgInts (l.take k) ++ [l[k].seq, l[k].fmt, l[k].first, l[k].count + 1] := by
 rw [List.take_succ_eq_append_getElem h]; unfold sgInts; rw [List.flatMap_append]; rfl
theorem checkM_b {m : Mf} (h : checkM m = true) : (1 ≤ m.next ∧ m.next ≤ 1073741824) ∧ (0 ≤ m.term ∧ m.term ≤ 1073741824) ∧ (0 ≤ m.vote ∧ m.vote ≤ 5) ∧ m.segs.length ≤ 60 ∧ ((m.sq = 0 ∧ m.sf = 0) ∨ (1 ≤ m.sq ∧ m.sq ≤ m.next - 1 ∧ (m.sf = 1 ∨ m.sf = 2))) ∧
  ∀ i (hi : i < m.segs.length), segOk m i m.segs[i] = true := by
 unfold checkM headOk snapOk at h
 simp only [Bool.and_eq_true, Bool.or_eq_true, decide_eq_true_eq, inB_b] at h
 obtain ⟨⟨⟨⟨⟨h1, h2⟩, h3⟩, h4⟩, h5⟩, h6⟩ := h
 refine ⟨h1, h2, h3, h4, ?_, fun i hi => ?_⟩
 ·rcases h5 with h5 | h5
  ·exact .inl h5
  ·exact .inr (fileOk_b h5)
 ·obtain ⟨s, hs, ho⟩ := segsOk_b h6 i hi
  rw [List.getElem?_eq_getElem hi] at hs
  cases hs
  exact ho
theorem checkM_num {m : Mf} (h : checkM m = true) : allNum (mfInts m) = true := by
 obtain ⟨h1, h2, h3, h4, h5, h6⟩ := checkM_b h
 unfold allNum
 rw [List.all_eq_true]
 intro x hx
 rw [numB_true]
 unfold mfInts at hx
 rcases List.mem_append.1 hx with hx | hx
 ·simp only [List.mem_cons, List.not_mem_nil, or_false] at hx
  rcases hx with rfl | rfl | rfl | rfl | rfl | rfl <;> omega
 ·obtain ⟨s, hs, hx⟩ := List.mem_flatMap.1 hx
  obtain ⟨i, hi, rfl⟩ := List.mem_iff_getElem.1 hs
  obtain ⟨k1, _, k3, _, k5⟩ := segOk_b (h6 i hi)
  have k0 := fileOk_b k1
  simp only [List.mem_cons, List.not_mem_nil, or_false] at hx
  rcases hx with rfl | rfl | rfl | rfl <;> omega
def OwnI (w : World) (base : Nat) (v : Value) (l : List Int) : Prop := w.ownsRow base 3 1 v l.length (l.map iv)
theorem OwnI.is {w : World} {base : Nat} {v : Value} {l : List Int} (h : OwnI w base v l) : Is w v l := SlR.of_own h
theorem OwnI.ext {w w' : World} {base : Nat} {v : Value} {l : List Int} (h : OwnI w base v l) (he : Ext w w') : OwnI w' base v l := own_ext h he
theorem wpList_app_i {ops : Array Oper} {rest : List Oper} {o : Oper} {a : Act} {w : World} {Q : Exit → Act → World → Prop} (hgd : o.guard = none) (s x : Operand)
  (ho : o.op = .call { callee := .builtin .append, args := #[s, x], argTypes := #[86, 86] })
  (base : Nat) (v : Value) (bs : List Int) (hs : a.eval s = v) (hown : OwnI w base v bs) (vx : Value) (cs : List Int) (hx : a.eval x = vx) (hr : Is w vx cs)
  (hlen : bs.length + cs.length ≤ 40000000) (hbase : base ≤ w.heap.size)
  (h : ∀ A c w', OwnI w' base (.slice A (bs.length + cs.length) c) (bs ++ cs) → Grows base w w' → wpList Tryz.prog ops Q rest (a.put o.dst (.slice A (bs.length + cs.length) c)) w') : wpList Tryz.prog ops Q (o :: rest) a w := by
 obtain ⟨i0, hi, hz0, hz1, hz2⟩ := info_parts info_int
 refine wpList_append_sl _ hgd s x 86 ho base 3 i0 (.int .i64 0) 1 8 Tryz.underlying86 hi hz0 hz1 hz2 rfl (by decide) v bs.length (bs.map iv) hs hown vx cs.length (cs.map iv) hx hr (one_iv _) (by unfold maxLen; omega) (by omega) hbase ?_
 intro v' w' h1 h2
 obtain ⟨A, c, rfl, _, _⟩ := SlR.open_ (SlR.of_own h1)
 refine h A c w' ?_ (fun W0 hE hb => Ext.grownOwn hE (own_base hown hb) h2)
 unfold OwnI
 rw [List.length_append, List.map_append]
 exact h1
theorem PutM_any (m : Mf) (v : Value) (w : World) (hS : Sgs w v m.segs) :
  Calls Tryz.prog 14 #[.agg #[.int .i64 m.next, .int .i64 m.term, .int .i64 m.vote, .int .i64 m.sq, .int .i64 m.sf, v]] w (MPutP w (putM m)) := by
 obtain ⟨A, c, rfl, hc1, hc2⟩ := hS.open_
 have hb0 := Blk.new w 32 #[.int .i64 m.next, .int .i64 m.term, .int .i64 m.vote, .int .i64 m.sq, .int .i64 m.sf, .slice A m.segs.length c]
 have hX : Ext w (w.alloc (.cells #[.int .i64 m.next, .int .i64 m.term, .int .i64 m.vote, .int .i64 m.sq, .int .i64 m.sf, .slice A m.segs.length c] 32)) := Ext.alloc (Ext.refl _) _
 obtain ⟨m0, m1, m2, m3, m4, m5⟩ := blk6 hb0
 have HS := Lib.hid hS
 have arm := Check_any m (.slice A m.segs.length c) _ (hS.ext hX)
 have Arm := Lib.hid arm
 clear arm hS
 go_enter Tryz.func14, Tryz.ntmps14
 go_wp2_with fail
 refine Arm.out.mono ?_
 rintro e w1 ⟨rfl, hE1⟩
 have E1 := Ext.trans hX hE1
 have HE1 := Lib.hid E1
 have Hb := Lib.hid (hb0.ext hE1)
 clear hb0 hX hE1 m0 m1 m2 m3 m4 m5 Arm
 cases hck : checkM m with
 | false =>
  have hr : putM m = none := by unfold putM; rw [hck]; rfl
  go_wp2_with fail
  go_ret2
  rw [hr]
  exact ⟨⟨_, rfl, World.ownsRow_nil _ _ _ _⟩, HE1.out⟩
 | true =>
 have hr : putM m = some (crcPut rT (77 :: shorts (mfInts m))) := by unfold putM; rw [hck]; rfl
 have Hr := Lib.hid hr
 have Hck := Lib.hid hck
 obtain ⟨_, _, _, hl60, _, _⟩ := checkM_b hck
 obtain ⟨m0, m1, m2, m3, m4, m5⟩ := blk6 Hb.out
 clear hr hck E1
 go_wp2_with fail
 have hfin := checkM_num Hck.out
 have Hfin := Lib.hid hfin
 have hO := own_new w1 ([m.next, m.term, m.vote, m.sq, m.sf, (m.segs.length : Int)].map iv) 3 6 rfl (by simp [maxLen]) (Nat.le_refl _)
 have HO := Lib.hid hO
 have hEn : Ext w1 (w1.alloc (.cells #[.int .i64 m.next, .int .i64 m.term, .int .i64 m.vote, .int .i64 m.sq, .int .i64 m.sf, .int .i64 (m.segs.length : Int)] 3)) := Ext.alloc (Ext.refl _) _
 have HEn := Lib.hid hEn
 obtain ⟨H0, hH0⟩ : ∃ H0, [m.next, m.term, m.vote, m.sq, m.sf, (m.segs.length : Int)] = H0 := ⟨_, rfl⟩
 have hH6 : H0.length = 6 := by rw [← hH0]; rfl
 have hmi : mfInts m = H0 ++ sgInts m.segs := by rw [← hH0]; rfl
 have HH0 := Lib.hid hH0
 have Hmi := Lib.hid hmi
 clear hO hEn hmi hH0 hfin m0 m1 m2 m3 m4 m5
 go_loopw [4, 5] (fun vl x W => ∃ (j : Nat) (a' : Option Addr) (c' : Nat), j ≤ m.segs.length ∧ x = .int .i64 j ∧ vl = .slice a' (6 + 4 * j) c' ∧ Hid (OwnI W w1.heap.size (.slice a' (6 + 4 * j) c') (H0 ++ sgInts (m.segs.take j))) ∧ Ext w1 W) (fun _ x _ => m.segs.length - (intOf x).toNat)
 case atStart =>
  refine ⟨0, _, _, by omega, rfl, rfl, Lib.hid ?_, HEn.out⟩
  have := HO.out
  unfold OwnI
  rw [List.take_zero, show sgInts [] = [] from rfl, List.append_nil, hH6, ← HH0.out]
  exact this
 case round =>
  obtain ⟨j, a', c', hj, rfl, rfl, Hown, hEr⟩ := hrel
  have HEr := Lib.hid hEr
  have HE := Lib.hid (Ext.trans HE1.out hEr)
  obtain ⟨_, _, _, _, _, M5⟩ := blk6 (Hb.out.ext hEr)
  clear hEr
  have hbase : w1.heap.size ≤ wr.heap.size := HEr.out.size
  by_cases hlt : j < m.segs.length
  ·obtain ⟨_, b, off, rfl, hcell⟩ := (HS.out.ext HE.out).at_ (by omega)
   obtain ⟨s0, s1, s2, s3⟩ := hcell j hlt
   have htk := sgInts_take m.segs j hlt
   have hso := (checkM_b Hck.out).2.2.2.2.2 j hlt
   generalize m.segs[j] = s at *
   have hcnt : IntKind.i64.wrap (s.count + 1) = s.count + 1 := by
    obtain ⟨_, _, _, _, h5⟩ := segOk_b hso
    rw [IntKind.wrap_i64]; omega
   have Htk := Lib.hid htk
   clear hcell htk hso
   have hjz : (j : Int) < (m.segs.length : Int) := by omega
   have hbs := Blk.new wr 71 #[.int .i64 s.seq, .int .i64 s.fmt, .int .i64 s.first, .int .i64 s.count]
   have hXs : Ext wr (wr.alloc (.cells #[.int .i64 s.seq, .int .i64 s.fmt, .int .i64 s.first, .int .i64 s.count] 71)) := Ext.alloc (Ext.refl _) _
   obtain ⟨k0, k1, k2, k3⟩ := blk4c hbs
   have hI : Is ((wr.alloc (.cells #[.int .i64 s.seq, .int .i64 s.fmt, .int .i64 s.first, .int .i64 s.count] 71)).alloc (.cells #[.int .i64 s.seq, .int .i64 s.fmt, .int .i64 s.first, .int .i64 (s.count + 1)] 3)) (.slice (some ⟨wr.heap.size + 1, 0, none⟩) 4 4) [s.seq, s.fmt, s.first, s.count + 1] := by
    have := own_new (wr.alloc (.cells #[.int .i64 s.seq, .int .i64 s.fmt, .int .i64 s.first, .int .i64 s.count] 71)) ([s.seq, s.fmt, s.first, s.count + 1].map iv) 3 4 rfl (by simp [maxLen]) (Nat.le_refl _)
    rw [World.size_alloc] at this
    exact SlR.of_own this
   have HI := Lib.hid hI
   have hX2 : Ext wr ((wr.alloc (.cells #[.int .i64 s.seq, .int .i64 s.fmt, .int .i64 s.first, .int .i64 s.count] 71)).alloc (.cells #[.int .i64 s.seq, .int .i64 s.fmt, .int .i64 s.first, .int .i64 (s.count + 1)] 3)) := Ext.alloc hXs _
   have HX2 := Lib.hid hX2
   obtain ⟨P, hP⟩ : ∃ P, H0 ++ sgInts (m.segs.take j) = P := ⟨_, rfl⟩
   have hPl : P.length = 6 + 4 * j := by rw [← hP, List.length_append, hH6, sgInts_len, List.length_take]; omega
   rw [hP] at Hown
   have HP := Lib.hid hP
   clear hbs hI hX2 hP
   go_wp2_with (at_builtin; refine wpList_app_i rfl (.tmp 40) (.tmp 50) rfl w1.heap.size _ P rfl (Hown.out.ext HX2.out) _ [s.seq, s.fmt, s.first, s.count + 1] rfl HI.out (by rw [hPl]; simp; omega) (Nat.le_trans hbase HX2.out.size) ?_; intro A3 c3 w3 ho3 hG3; rw [hPl] at ho3 ⊢; have hE3 := hG3 w1 (Ext.trans HEr.out HX2.out) (Nat.le_refl _))
   go_roundw
   case rel =>
    refine ⟨j + 1, _, _, by omega, by go_num, rfl, Lib.hid ?_, hE3⟩
    rw [Htk.out, ← List.append_assoc, HP.out]
    exact ho3
   case measure => simp [intOf]; omega
  ·obtain rfl : j = m.segs.length := by omega
   have hO2 := Hown.out
   rw [List.take_length, ← Hmi.out] at hO2
   have HO2 := Lib.hid hO2
   have hml : (mfInts m).length ≤ 2000000 := by rw [Hmi.out, List.length_append, hH6, sgInts_len]; omega
   have arm := refShort_ok _ _ _ hO2.is Hfin.out hml
   have Arm := Lib.hid arm
   have hsl := shorts_len (mfInts m)
   have hml2 : (mfInts m).length ≤ 246 := by rw [Hmi.out, List.length_append, hH6, sgInts_len]; omega
   clear hO2 arm Hown HO HEn Hmi HS
   go_wp2_with fail
   refine Arm.out.mono ?_
   rintro e w3 ⟨v3, rfl, ho3, hE3⟩
   have hb3 : Bs w3 v3 (shorts (mfInts m)) := SlR.of_own ho3
   obtain ⟨A3, c3, rfl, _, _⟩ := SlR.open_ hb3
   have HB3 := Lib.hid hb3
   have X3 := Lib.hid (Ext.trans HE.out hE3)
   obtain ⟨L, hL⟩ : ∃ L, shorts (mfInts m) = L := ⟨_, rfl⟩
   have hLl : L.length ≤ 2000 := by rw [← hL]; omega
   have HL := Lib.hid hL
   rw [hL] at HB3
   have hll2 : (shorts (mfInts m)).length = L.length := by rw [hL]
   rw [hll2] at *
   clear hb3 ho3 hL hsl hll2 Arm
   go_wp2_with (at_builtin; refine wpList_app_b rfl (.tmp 57) (.tmp 58) rfl w3.heap.size _ [77] rfl (own_new w3 [.int .u8 77] 5 1 rfl (by simp [maxLen]) (Nat.le_refl _)) _ L rfl (HB3.out.ext (Ext.alloc (Ext.refl _) _)) (by simp; omega) (by simp) ?_; intro A4 c4 w4 ho4 hG4; have hE4 : Ext w3 w4 := hG4 w3 (Ext.alloc (Ext.refl _) _) (Nat.le_refl _))
   refine (refPut_any _ _ _ ho4.bs (by simp; omega)).mono ?_
   rintro e w5 ⟨A5, c5, rfl, ho5, hE5⟩
   have hr : putM m = some (crcPut rT ([77] ++ L)) := by rw [Hr.out, HL.out]; rfl
   go_wp2_with fail
   go_ret2
   rw [hr]
   exact ⟨⟨_, rfl, own_base ho5 (Ext.trans X3.out hE4).size⟩, Ext.trans X3.out (Ext.trans hE4 hE5)⟩
end Go.Proofs.YtmecffckghkahaaGreatDoor

namespace Go.Mv
open Go.RowKit
section
variable {P : Program} {ops : Array Oper} {Q : Exit → Act → World → Prop} {md : Region.Mode} {S : World → Prop}
theorem wpOp_ok {i : Nat} {o : Oper} {v : Value} {a : Act} {w w' : World} {K : Act → World → Prop} (hi : ops.toList[i]? = some o) (hw : Region.wanted o (yielded ops a.tmps) = true) (h : (execOp a.eval o).run P w = .ok (.value v) w') (hK : K (a.put o.dst v) w') : wpOp P ops Q i K a w := by
 unfold Go.wpOp
 simp only [show ops[i]? = some o by simpa using hi, hw, if_true, Oper.wp, h, Oper.upon]
 exact .inl hK
theorem wpAnyH_two {i j : Nat} {oi oj : Oper} {vi vj : Value} {fuel : Nat} {listed : Array Bool} {a : Act} {w w' : World} (hi : ops.toList[i]? = some oi) (hj : ops.toList[j]? = some oj)
  (hr : Region.ready md ops listed = [i, j]) (hri : Region.ready md ops (listed.setIfInBounds i true) = [j]) (hrj : Region.ready md ops (listed.setIfInBounds j true) = [i])
  (wi : Region.wanted oi (yielded ops a.tmps) = true) (wj : Region.wanted oj (yielded ops a.tmps) = true) (wj' : Region.wanted oj (yielded ops (a.put oi.dst vi).tmps) = true) (wi' : Region.wanted oi (yielded ops (a.put oj.dst vj).tmps) = true)
  (hL : (listed.setIfInBounds j true).setIfInBounds i true = (listed.setIfInBounds i true).setIfInBounds j true) (hA : (a.put oj.dst vj).put oi.dst vi = (a.put oi.dst vi).put oj.dst vj)
  (hS : S w) (hS' : S w') (h1 : (execOp a.eval oi).run P w = .ok (.value vi) w) (h2 : (execOp (a.put oi.dst vi).eval oj).run P w = .ok (.value vj) w')
  (h3 : (execOp a.eval oj).run P w = .ok (.value vj) w') (h4 : (execOp (a.put oj.dst vj).eval oi).run P w' = .ok (.value vi) w')
  (h : wpAnyH P md ops Q S fuel ((listed.setIfInBounds i true).setIfInBounds j true) ((a.put oi.dst vi).put oj.dst vj) w') : wpAnyH P md ops Q S (fuel + 2) listed a w := by
 refine ⟨(fun e => absurd (hr.symm.trans e) (by simp)), fun k hk => ?_⟩
 rw [hr] at hk
 rcases (by simpa using hk : k = i ∨ k = j) with rfl | rfl
 ·refine wpOp_ok hi wi h1 ⟨hS, (fun e => absurd (hri.symm.trans e) (by simp)), fun k hk => ?_⟩
  rw [hri] at hk
  obtain rfl : k = j := by simpa using hk
  exact wpOp_ok hj wj' h2 ⟨hS', h⟩
 ·refine wpOp_ok hj wj h3 ⟨hS', (fun e => absurd (hrj.symm.trans e) (by simp)), fun k hk => ?_⟩
  rw [hrj] at hk
  obtain rfl : k = i := by simpa using hk
  exact wpOp_ok hi wi' h4 ⟨hS', by rw [hL, hA]; exact h⟩
end
theorem own_ne {W : World} {base base' size size' n n' m b off c : Nat} {e e' : TypeId} {xs xs' : List Value} {v' : Value} (hne : e ≠ e') (h : W.ownsRow base e size (.slice (some ⟨b, off, none⟩) n c) m xs) (h' : W.ownsRow base' e' size' v' n' xs') : some b ≠ v'.ownBlock := by
 rcases h.2 with ⟨hv, _⟩ | ⟨g, cap, cur, hv, _, hg, _⟩
 ·cases hv
 ·rcases h'.2 with ⟨rfl, _⟩ | ⟨g', cap', cur', rfl, _, hg', _⟩
  ·intro e1; cases e1
  ·intro e1
   cases hv
   have : b = g' := by simpa [Value.ownBlock] using e1
   subst this
   rw [hg] at hg'
   cases hg'
   exact hne rfl
theorem own_kept {W W' : World} {base base' size size' n n' : Nat} {e e' : TypeId} {xs xs' : List Value} {v v' : Value} (hne : e ≠ e') (h : W.ownsRow base e size v n xs) (h' : W.ownsRow base' e' size' v' n' xs') (hg : W.grownBy W' v'.ownBlock) : W'.ownsRow base e size v n xs := by
 have h0 := h
 rcases h.2 with ⟨rfl, rfl⟩ | ⟨g, cap, cur, rfl, _, _, _⟩
 ·exact ⟨h.1, .inl ⟨rfl, rfl⟩⟩
 ·exact h0.kept hg (.inr (own_ne hne h0 h'))
end Go.Mv
namespace Go.Proofs.YtmecffckghkahaaGreatDoor
open Go.RowKit Go.Mv
set_option maxRecDepth 100000
theorem one_seg (l : List Sg4) : ∀ u ∈ sgCells l, u.oneCell' = true := by
 intro u hu
 obtain ⟨s, _, hu⟩ := List.mem_flatMap.1 hu
 simp only [Sg4.cells, List.mem_cons, List.not_mem_nil, or_false] at hu
 rcases hu with rfl | rfl | rfl | rfl <;> rfl
theorem new_segs (W : World) (es : List Sg4) (n : Nat) (hn : n = es.length) (hm : n ≤ maxLen) : SlR (W.alloc (.cells (sgCells es).toArray 71)) 4 (.slice (some ⟨W.heap.size, 0, none⟩) n n) n (sgCells es) := by
 subst hn
 refine ⟨sgCells_len es, _, es.length, rfl, Nat.le_refl _, hm, fun _ => ⟨W.heap.size, 0, rfl, fun j u hu => ?_⟩⟩
 rw [Nat.zero_add]
 exact (Blk.new W 71 (sgCells es).toArray).cell j (by simpa using hu)
def segsGo : Nat → List Sg4 → List UInt8 → Option (List Sg4)
 | 0, acc, _ => some acc
 | k + 1, acc, r => if (takesGo 4 [] r).1 = 0 then segsGo k (acc ++ [⟨(takesGo 4 [] r).2.1.getD 0 0, (takesGo 4 [] r).2.1.getD 1 0, (takesGo 4 [] r).2.1.getD 2 0, (takesGo 4 [] r).2.1.getD 3 0 - 1⟩]) (takesGo 4 [] r).2.2 else none
def readQ : Int × List Int × List UInt8 → Option Mf
 | (e, l, r) => if e ≠ 0 then none else if 60 < l.getD 5 0 then none else (segsGo (l.getD 5 0).toNat [] r).map fun s => ⟨l.getD 0 0, l.getD 1 0, l.getD 2 0, l.getD 3 0, l.getD 4 0, s⟩
def readM (p : List UInt8) : Option Mf := if p.length < 1 then none else readQ (takesGo 6 [] (p.drop 1))
def takeM (b : List UInt8) : Option Mf := match crcTakeS rT b with
 | none => none
 | some p => match readM p with
  | none => none
  | some m => if putM m = some b then some m else none
def mf0 : Mf := ⟨0, 0, 0, 0, 0, []⟩
def OwnS (w : World) (base : Nat) (v : Value) (l : List Sg4) : Prop := w.ownsRow base 71 4 v l.length (sgCells l)
theorem OwnS.sgs {w : World} {base : Nat} {v : Value} {l : List Sg4} (h : OwnS w base v l) : Sgs w v l := SlR.of_own h
def MTakeP (w : World) (r : Option Mf) (e : Ending) (w' : World) : Prop :=
 ∃ v, e = .returned (.tuple #[.agg #[.int .i64 (r.getD mf0).next, .int .i64 (r.getD mf0).term, .int .i64 (r.getD mf0).vote, .int .i64 (r.getD mf0).sq, .int .i64 (r.getD mf0).sf, v], .int .i64 (if r.isSome then 0 else 11)]) ∧ OwnS w' w.heap.size v (r.getD mf0).segs ∧ Ext w w'
theorem mfUnder : Tryz.prog.underlying 32 = some (.struct (Tryz.prog.fieldsOf 32)) := by kernel_rfl
theorem mtake_res (tmps : Array Value) (W : World) (b : Nat) (cs : Array Value) (u : Value) (h4 : tmps.getD 2 undef = .pointer (some ⟨b, 0, none⟩)) (h5 : tmps.getD 3 undef = u) (hb : Blk W b 32 cs) (hs : cs.size = 6) : (results Tryz.f21 tmps).run Tryz.prog W = .ok (.tuple #[.agg cs, u]) W := by
 have hl := hb.load (P := Tryz.prog) mfUnder rfl (by rw [hs]; kernel_rfl)
 have h4' : tmps[2]?.getD undef = .pointer (some ⟨b, 0, none⟩) := by simpa using h4
 have h5' : tmps[3]?.getD undef = u := by simpa using h5
 simp [results, Tryz.results21, h4', h5', asAddr, hl]
theorem blk6f {W : World} {b : Nat} {t : TypeId} {cs : Array Value} (h : Blk W b t cs) : W.frozen? ⟨b, 0, none⟩ = false ∧ W.frozen? ⟨b, 1, none⟩ = false ∧ W.frozen? ⟨b, 2, none⟩ = false ∧ W.frozen? ⟨b, 3, none⟩ = false ∧ W.frozen? ⟨b, 4, none⟩ = false ∧ W.frozen? ⟨b, 5, none⟩ = false :=
 ⟨h.frozen 0, h.frozen 1, h.frozen 2, h.frozen 3, h.frozen 4, h.frozen 5⟩
theorem blk_set6 {W : World} {b : Nat} {t : TypeId} {a v u x y z : Value} (h : Blk W b t #[a, v, u, x, y, z]) (a' v' u' x' y' z' : Value) : Blk ((((((W.setCell ⟨b, 0, none⟩ a').setCell ⟨b, 1, none⟩ v').setCell ⟨b, 2, none⟩ u').setCell ⟨b, 3, none⟩ x').setCell ⟨b, 4, none⟩ y').setCell ⟨b, 5, none⟩ z') b t #[a', v', u', x', y', z'] :=
 (((((h.set 0 a').set 1 v').set 2 u').set 3 x').set 4 y').set 5 z'
theorem ext_set6 {w W : World} (h : Ext w W) {b : Nat} (hb : w.heap.size ≤ b) (a' v' u' x' y' z' : Value) : Ext w ((((((W.setCell ⟨b, 0, none⟩ a').setCell ⟨b, 1, none⟩ v').setCell ⟨b, 2, none⟩ u').setCell ⟨b, 3, none⟩ x').setCell ⟨b, 4, none⟩ y').setCell ⟨b, 5, none⟩ z') :=
 (((((Below.setCell h hb a').setCell hb v').setCell hb u').setCell hb x').setCell hb y').setCell hb z'
theorem own_set6 {W : World} {b : Nat} {t : TypeId} {a v u x y z : Value} (hB : Blk W b t #[a, v, u, x, y, z]) {e : TypeId} (hte : t ≠ e) {base size k : Nat} {vv : Value} {xs : List Value} (hr : W.ownsRow base e size vv k xs) (a' v' u' x' y' z' : Value) : ((((((W.setCell ⟨b, 0, none⟩ a').setCell ⟨b, 1, none⟩ v').setCell ⟨b, 2, none⟩ u').setCell ⟨b, 3, none⟩ x').setCell ⟨b, 4, none⟩ y').setCell ⟨b, 5, none⟩ z').ownsRow base e size vv k xs := by
 have r1 := hr.kept (grownBy_set _ b 0 a') (.inr (hB.not_row hte hr).symm)
 have b1 := hB.set 0 a'
 have r2 := r1.kept (grownBy_set _ b 1 v') (.inr (b1.not_row hte r1).symm)
 have b2 := b1.set 1 v'
 have r3 := r2.kept (grownBy_set _ b 2 u') (.inr (b2.not_row hte r2).symm)
 have b3 := b2.set 2 u'
 have r4 := r3.kept (grownBy_set _ b 3 x') (.inr (b3.not_row hte r3).symm)
 have b4 := b3.set 3 x'
 have r5 := r4.kept (grownBy_set _ b 4 y') (.inr (b4.not_row hte r4).symm)
 have b5 := b4.set 4 y'
 exact r5.kept (grownBy_set _ b 5 z') (.inr (b5.not_row hte r5).symm)
theorem mtake_bad (w W : World) (v : Value) (hv : v = .slice none 0 0) (hE : Ext w W) : MTakeP w none (.returned (.tuple #[.agg #[.int .i64 0, .int .i64 0, .int .i64 0, .int .i64 0, .int .i64 0, v], .int .i64 11])) W := by
 subst hv; exact ⟨_, rfl, World.ownsRow_nil _ _ _ _, hE⟩
theorem six {l : List Int} (h : l.length = 6) : ∃ a b c d e f, l = [a, b, c, d, e, f] := by
 match l, h with
 | [a, b, c, d, e, f], _ => exact ⟨a, b, c, d, e, f, rfl⟩
theorem four {l : List Int} (h : l.length = 4) : ∃ a b c d, l = [a, b, c, d] := by
 match l, h with
 | [a, b, c, d], _ => exact ⟨a, b, c, d, rfl⟩
theorem takes_num {k : Nat} {bs : List UInt8} {l : List Int} {r : List UInt8} (h : takesGo k [] bs = (0, l, r)) : l.length = k ∧ (∀ x ∈ l, 0 ≤ x ∧ x ≤ 1073741824) ∧ r.length ≤ bs.length := by
 obtain ⟨l', rfl, h1, h2, rfl⟩ := takesGo_ok _ _ _ _ _ h
 refine ⟨h1, fun x hx => ?_, by simp⟩
 unfold allNum at h2
 rw [List.all_eq_true] at h2
 exact numB_true.1 (h2 x (by simpa using hx))
theorem readQ_bad {e : Int} {l : List Int} {r : List UInt8} (h : e ≠ 0) : readQ (e, l, r) = none := if_pos h
theorem readQ_60 {l : List Int} {r : List UInt8} (h : 60 < l.getD 5 0) : readQ (0, l, r) = none := by unfold readQ; simp only [ne_eq, not_true_eq_false, if_false]; rw [if_pos h]
theorem readQ_ok {l : List Int} {r : List UInt8} (h : ¬ 60 < l.getD 5 0) : readQ (0, l, r) = (segsGo (l.getD 5 0).toNat [] r).map fun s => ⟨l.getD 0 0, l.getD 1 0, l.getD 2 0, l.getD 3 0, l.getD 4 0, s⟩ := by unfold readQ; simp only [ne_eq, not_true_eq_false, if_false]; rw [if_neg h]
theorem segsGo_bad {k : Nat} {acc : List Sg4} {r : List UInt8} (h : (takesGo 4 [] r).1 ≠ 0) : segsGo (k + 1) acc r = none := by rw [segsGo, if_neg h]
theorem segsGo_ok {k : Nat} {acc : List Sg4} {r r' : List UInt8} {a b c d : Int} (h : takesGo 4 [] r = (0, [a, b, c, d], r')) : segsGo (k + 1) acc r = segsGo k (acc ++ [⟨a, b, c, d - 1⟩]) r' := by rw [segsGo, h]; rfl
theorem info_seg : (Tryz.prog.info? 71).map (fun i => (i.zero, i.size, i.bytes)) = some (some (.agg #[.int .i64 0, .int .i64 0, .int .i64 0, .int .i64 0]), 4, 32) := by kernel_rfl
theorem TakeM_any (v : Value) (bs : List UInt8) (w : World) (hB : Bs w v bs) (hl : bs.length ≤ 2000000) : Calls Tryz.prog 21 #[v] w (MTakeP w (takeM bs)) := by
 obtain ⟨A, c, rfl, h1, h2⟩ := SlR.open_ hB
 have hb0 := Blk.new w 32 #[.int .i64 0, .int .i64 0, .int .i64 0, .int .i64 0, .int .i64 0, .slice none 0 0]
 have hX : Ext w (w.alloc (.cells #[.int .i64 0, .int .i64 0, .int .i64 0, .int .i64 0, .int .i64 0, .slice none 0 0] 32)) := Ext.alloc (Ext.refl _) _
 have hct := refCTake_any _ bs _ (hB.ext hX) hl
 obtain ⟨R, hR⟩ : ∃ R, takeM bs = R := ⟨_, rfl⟩
 have hR' := hR
 unfold takeM at hR'
 rw [hR]
 have hcl : ∀ p, crcTakeS rT bs = some p → p.length ≤ 2000000 := fun p h => by
  have := crcTakeS_len h; omega
 obtain ⟨r, hr⟩ : ∃ r, crcTakeS rT bs = r := ⟨_, rfl⟩
 rw [hr] at hct hR' hcl
 have Hct := Lib.hid hct
 have HR := Lib.hid hR'
 have HB := Lib.hid hB
 clear hct hr hR hR' hB
 go_enter Tryz.func21, Tryz.ntmps21
 go_wp2_with fail
 refine Hct.out.mono ?_
 rintro e w1 ⟨⟨v1, rfl, ho1⟩, hE1⟩
 have hb1 := hb0.ext hE1
 have E1 := Ext.trans hX hE1
 have HE1 := Lib.hid E1
 have Hb1 := Lib.hid hb1
 clear hb0 hX hE1 E1
 cases r with
 | none =>
  obtain rfl : none = R := HR.out
  obtain ⟨f0, f1, f2, f3, f4, f5⟩ := blk6f hb1
  obtain ⟨g0, g1, g2, g3, g4, g5⟩ := blk6 hb1
  clear hb1
  dsimp only [Option.isSome]
  go_wp2_with fail
  refine bodyPost_ret (mtake_res _ _ _ _ _ rfl rfl (blk_set6 Hb1.out _ _ _ _ _ _) rfl) rfl ?_
  exact mtake_bad _ _ _ rfl (ext_set6 HE1.out (Nat.le_refl _) _ _ _ _ _ _)
 | some p =>
  have hp := hcl p rfl
  clear hcl
  dsimp only [Option.isSome, Option.getD] at ho1 HR ⊢
  obtain ⟨A1, c1, rfl, h3, h4⟩ := SlR.open_ ho1.bs
  by_cases hp1 : p.length < 1
  ·have hrd : readM p = none := by unfold readM; rw [if_pos hp1]
   obtain rfl : none = R := by rw [← HR.out, hrd]
   obtain ⟨f0, f1, f2, f3, f4, f5⟩ := blk6f hb1
   obtain ⟨g0, g1, g2, g3, g4, g5⟩ := blk6 hb1
   have hp2 : (p.length : Int) < 1 := by omega
   clear hb1 hrd
   go_wp2_with fail
   refine bodyPost_ret (mtake_res _ _ _ _ _ rfl rfl (blk_set6 Hb1.out _ _ _ _ _ _) rfl) rfl ?_
   exact mtake_bad _ _ _ rfl (ext_set6 HE1.out (Nat.le_refl _) _ _ _ _ _ _)
  obtain ⟨_, b1, off1, rfl, _⟩ := Bs.at_ ho1.bs (by omega)
  have hp2 : ¬ (p.length : Int) < 1 := by omega
  have hcut := Bs.cut ho1.bs 1 (by omega) rfl
  have hdl : (p.drop 1).length = p.length - 1 := by simp
  obtain ⟨Q, hQ⟩ : ∃ Q, p.drop 1 = Q := ⟨_, rfl⟩
  have hrd : readM p = readQ (takesGo 6 [] Q) := by unfold readM; rw [if_neg hp1, hQ]
  rw [hQ] at hcut hdl
  obtain ⟨⟨er, ls, rs⟩, hq⟩ : ∃ q, takesGo 6 [] Q = q := ⟨_, rfl⟩
  rw [hq] at hrd
  have HR2 : Hid ((match readQ (er, ls, rs) with | none => none | some m => if putM m = some bs then some m else none) = R) := Lib.hid (by rw [← hrd]; exact HR.out)
  have Hq := Lib.hid hq
  have Hcut := Lib.hid hcut
  have hbad : er ≠ 0 → none = R := fun h => by rw [← HR2.out, readQ_bad h]
  have Hbad := Lib.hid hbad
  clear hrd hcut hQ HR hbad
  by_cases hc1 : c1 = 1
  ·have hQ0 : Q = [] := List.eq_nil_of_length_eq_zero (by omega)
   subst hQ0
   have her : er ≠ 0 := by
    intro h
    subst h
    obtain ⟨l', _, k2, _, k3⟩ := takesGo_ok _ _ _ _ _ hq
    have k4 := congrArg List.length k3
    have k5 := shorts_ge l'
    simp at k4
    omega
   have hT : Calls Tryz.prog 38 #[.slice (some ⟨b1, off1, none⟩) 0 0, .int .i64 6] w1 (TakesP w1 (er, ls, rs)) := by
    have := refTakes_any _ [] 6 (by omega) w1 (SlR.empty (A := some ⟨b1, off1, none⟩) (c := 0) _ 1 (by simp)) (by simp)
    rw [hq] at this
    exact this
   have HT := Lib.hid hT
   have hp3 : p.length = 1 := by simp at hdl; omega
   obtain rfl := Hbad.out her
   clear hT hq HR2
   subst hc1
   rw [hp3] at *
   go_wp2_with fail
   refine HT.out.mono ?_
   rintro e w2 ⟨vl, vr, rfl, _, _, hE2⟩
   have Hb2 := Lib.hid (Hb1.out.ext hE2)
   obtain ⟨f0, f1, f2, f3, f4, f5⟩ := blk6f Hb2.out
   obtain ⟨g0, g1, g2, g3, g4, g5⟩ := blk6 Hb2.out
   clear hb1
   dsimp only at *
   go_wp2_with fail
   refine bodyPost_ret (mtake_res _ _ _ _ _ rfl rfl (blk_set6 Hb2.out _ _ _ _ _ _) rfl) rfl ?_
   exact mtake_bad _ _ _ rfl (ext_set6 (Ext.trans HE1.out hE2) (Nat.le_refl _) _ _ _ _ _ _)
  have hT : Calls Tryz.prog 38 #[.slice (some ⟨b1, off1 + 1, none⟩) (p.length - 1) (c1 - 1), .int .i64 6] w1 (TakesP w1 (er, ls, rs)) := by
   have := refTakes_any _ Q 6 (by omega) _ Hcut.out (by omega)
   rw [hq] at this
   exact this
  have HT := Lib.hid hT
  clear hT hq
  by_cases her : er = 0
  case neg =>
   obtain rfl := Hbad.out her
   go_wp2_with fail
   refine HT.out.mono ?_
   rintro e w2 ⟨vl, vr, rfl, _, _, hE2⟩
   have Hb2 := Lib.hid (Hb1.out.ext hE2)
   obtain ⟨f0, f1, f2, f3, f4, f5⟩ := blk6f Hb2.out
   obtain ⟨g0, g1, g2, g3, g4, g5⟩ := blk6 Hb2.out
   clear hb1
   dsimp only at *
   go_wp2_with fail
   refine bodyPost_ret (mtake_res _ _ _ _ _ rfl rfl (blk_set6 Hb2.out _ _ _ _ _ _) rfl) rfl ?_
   exact mtake_bad _ _ _ rfl (ext_set6 (Ext.trans HE1.out hE2) (Nat.le_refl _) _ _ _ _ _ _)
  subst her
  obtain ⟨hl6, hnum, hrl⟩ := takes_num Hq.out
  obtain ⟨x0, x1, x2, x3, x4, x5, rfl⟩ := six hl6
  simp only [List.mem_cons, List.not_mem_nil, or_false, forall_eq_or_imp, forall_eq] at hnum
  obtain ⟨n0, n1, n2, n3, n4, n5⟩ := hnum
  clear Hbad hl6 hb1
  go_wp2_with fail
  refine HT.out.mono ?_
  rintro e w2 ⟨vl, vr, rfl, ho2, hor, hE2⟩
  have Hb2 := Lib.hid (Hb1.out.ext hE2)
  have HE2 := Lib.hid (Ext.trans HE1.out hE2)
  dsimp only at ho2 hor ⊢
  obtain ⟨Al, cl, rfl, _, _⟩ := SlR.open_ (SlR.of_own ho2)
  obtain ⟨_, bl, ofl, rfl, hcl⟩ := Is.at_ (l := [x0, x1, x2, x3, x4, x5]) (SlR.of_own ho2) (by simp)
  have c0 := hcl 0 (by simp)
  have c1 := hcl 1 (by simp)
  have c2 := hcl 2 (by simp)
  have c3 := hcl 3 (by simp)
  have c4 := hcl 4 (by simp)
  have c5 := hcl 5 (by simp)
  simp only [List.getElem_cons_zero, List.getElem_cons_succ, Nat.add_zero] at c0 c1 c2 c3 c4 c5
  simp only [List.length_cons, List.length_nil, Nat.zero_add, Nat.reduceAdd] at *
  by_cases h60 : 60 < x5
  ·have hR : none = R := by rw [← HR2.out, readQ_60 (by simpa using h60)]
   subst hR
   obtain ⟨f0, f1, f2, f3, f4, f5⟩ := blk6f Hb2.out
   obtain ⟨g0, g1, g2, g3, g4, g5⟩ := blk6 Hb2.out
   go_wp2_with fail
   refine bodyPost_ret (mtake_res _ _ _ _ _ rfl rfl (blk_set6 Hb2.out _ _ _ _ _ _) rfl) rfl ?_
   exact mtake_bad _ _ _ rfl (ext_set6 (Ext.trans HE1.out hE2) (Nat.le_refl _) _ _ _ _ _ _)
  have HR3 : Hid ((match (segsGo x5.toNat [] rs).map (fun s => (⟨x0, x1, x2, x3, x4, s⟩ : Mf)) with | none => none | some m => if putM m = some bs then some m else none) = R) := Lib.hid (by rw [← HR2.out, readQ_ok (by simpa using h60)]; rfl)
  clear HR2
  go_wp2_with fail
  have HT2 := Lib.hid ho2
  clear hcl ho2 Hct HT Hcut ho1 Hq Hb1 hE2
  refine wp_region_held_drew (S := fun W => W.cell? ⟨bl, ofl, none⟩ = some (.int .i64 x0) ∧ W.cell? ⟨bl, ofl + 1, none⟩ = some (.int .i64 x1) ∧ W.cell? ⟨bl, ofl + 2, none⟩ = some (.int .i64 x2) ∧ W.cell? ⟨bl, ofl + 3, none⟩ = some (.int .i64 x3) ∧ W.cell? ⟨bl, ofl + 4, none⟩ = some (.int .i64 x4)) (by kernel_rfl) ⟨c0, c1, c2, c3, c4⟩ (fun hHeld => ?_)
  refine tkL 0 rfl ?_
  try simp only [Act.put, sA, sZ, sS]
  refine tkL 1 rfl ?_
  try simp only [Act.put, sA, sZ, sS]
  refine tkL 2 rfl ?_
  try simp only [Act.put, sA, sZ, sS]
  refine tkL 3 rfl ?_
  try simp only [Act.put, sA, sZ, sS]
  refine tkL 4 rfl ?_
  try simp only [Act.put, sA, sZ, sS]
  refine tkL 5 rfl ?_
  try simp only [Act.put, sA, sZ, sS]
  refine tkL 6 rfl ?_
  try simp only [Act.put, sA, sZ, sS]
  refine tkL 7 rfl ?_
  try simp only [Act.put, sA, sZ, sS]
  refine tkL 8 rfl ?_
  try simp only [Act.put, sA, sZ, sS]
  refine tkL 9 rfl ?_
  try simp only [Act.put, sA, sZ, sS]
  refine tkL 10 rfl ?_
  try simp only [Act.put, sA, sZ, sS]
  refine tkL 11 rfl ?_
  try simp only [Act.put, sA, sZ, sS]
  refine tkL 12 rfl ?_
  try simp only [Act.put, sA, sZ, sS]
  refine tkL 13 rfl ?_
  try simp only [Act.put, sA, sZ, sS]
  refine tkL 14 rfl ?_
  try simp only [Act.put, sA, sZ, sS]
  refine tkL 15 rfl ?_
  try simp only [Act.put, sA, sZ, sS]
  refine tkL 16 rfl ?_
  try simp only [Act.put, sA, sZ, sS]
  refine AllReadyH.one (i := 17) rfl (by kernel_rfl) (by rfl) (fun K hK => ?_)
  go_simp
  have X3 : Ext w2 (w2.drew.alloc (.cells #[.int .i64 0, .int .i64 0, .int .i64 0, .int .i64 0, .int .i64 0, .slice none 0 0] 32)) := Ext.alloc (Ext.drew (Ext.refl _)) _
  refine hK.out _ _ ⟨X3.cell c0, X3.cell c1, X3.cell c2, X3.cell c3, X3.cell c4⟩ (fun hHeld => ?_)
  clear hK K
  try simp only [Act.put, sA, sZ, sS]
  refine AllReadyH.one (i := 18) rfl (by kernel_rfl) (by rfl) (fun K hK => ?_)
  go_simp
  have X4 : Ext w2 (w2.alloc (.cells #[.int .i64 x0, .int .i64 x1, .int .i64 x2, .int .i64 x3, .int .i64 x4, .slice none 0 0] 32)).drew := Ext.drew (Ext.alloc (Ext.refl _) _)
  have hb4 : Blk (w2.alloc (.cells #[.int .i64 x0, .int .i64 x1, .int .i64 x2, .int .i64 x3, .int .i64 x4, .slice none 0 0] 32)).drew w2.heap.size 32 #[.int .i64 x0, .int .i64 x1, .int .i64 x2, .int .i64 x3, .int .i64 x4, .slice none 0 0] := (Blk.new w2 _ _).ext (Ext.drew (Ext.refl _))
  refine hK.out _ _ ⟨X4.cell c0, X4.cell c1, X4.cell c2, X4.cell c3, X4.cell c4⟩ (fun hHeld => ?_)
  clear hK K
  try simp only [Act.put, sA, sZ, sS]
  refine wpAnyH_done (by kernel_rfl) ?_ _
  generalize hW4 : (w2.alloc (.cells #[.int .i64 x0, .int .i64 x1, .int .i64 x2, .int .i64 x3, .int .i64 x4, .slice none 0 0] 32)).drew = w4 at *
  clear hW4 X3
  have HX4 := Lib.hid X4
  have Hb4 := Lib.hid hb4
  clear X4 hb4
  have hmax : x5.toNat ≤ 60 := by omega
  have hrsl : rs.length ≤ 2000000 := by omega
  go_wp2_with fail
  go_loopw [7, 10] (fun vt x W => ∃ (j : Nat) (acc : List Sg4) (rest : List UInt8) (u : Value) (vt' : Value), j ≤ x5.toNat ∧ x = .int .i64 j ∧ vt = vt' ∧ Hid (acc.length = j) ∧ rest.length ≤ rs.length ∧ Hid (Bs W vt' rest) ∧ Hid (segsGo x5.toNat [] rs = segsGo (x5.toNat - j) acc rest) ∧
   Hid (Blk W w2.heap.size 32 #[.int .i64 x0, .int .i64 x1, .int .i64 x2, .int .i64 x3, .int .i64 x4, u]) ∧ Hid (W.ownsRow w2.heap.size 71 4 u acc.length (sgCells acc)) ∧ Ext w2 W) (fun _ x _ => x5.toNat - (intOf x).toNat)
  case atStart =>
   exact ⟨0, [], rs, _, _, by omega, rfl, rfl, rfl, Nat.le_refl _, Lib.hid ((SlR.of_own hor : Bs w2 vr rs).ext HX4.out), Lib.hid rfl, Hb4, Lib.hid (World.ownsRow_nil _ _ _ _), HX4.out⟩
  case round =>
   obtain ⟨j, acc, rest, u, vt, hj, rfl, rfl, HL, hrl2, HBr, HG, Hbm, HO, hEr⟩ := hrel
   have HE := Lib.hid (Ext.trans HE2.out hEr)
   have HEr := Lib.hid hEr
   have HC5 := hEr.cell c5
   have hal60 : acc.length ≤ 60 := by have := HL.out; omega
   clear hEr c0 c1 c2 c3 c4 c5
   by_cases hlt : j < x5.toNat
   ·obtain ⟨k, hk⟩ : ∃ k, x5.toNat - j = k + 1 := ⟨x5.toNat - j - 1, by omega⟩
    have hG := HG.out
    rw [hk] at hG
    have hT4 := refTakes_any u7 rest 4 (by omega) wr HBr.out (by omega)
    obtain ⟨⟨e4, l4, r4⟩, hq4⟩ : ∃ q, takesGo 4 [] rest = q := ⟨_, rfl⟩
    rw [hq4] at hT4
    have HT4 : Hid (Calls Tryz.prog 38 #[u7, .int .i64 4] wr (TakesP wr (e4, l4, r4))) := Lib.hid hT4
    have hjx : (j : Int) < x5 := by omega
    have Hj := Lib.hid hj
    clear hT4 HG
    by_cases he4 : e4 = 0
    case neg =>
     have hR : none = R := by rw [← HR3.out, hG, segsGo_bad (by rw [hq4]; exact he4)]; rfl
     clear hG hq4 HR3
     subst hR
     go_wp2_with fail
     refine HT4.out.mono ?_
     rintro e w5 ⟨vl5, vr5, rfl, _, _, hE5⟩
     have Hb5 := Lib.hid (Hb2.out.ext (Ext.trans HEr.out hE5))
     obtain ⟨f0, f1, f2, f3, f4, f5⟩ := blk6f Hb5.out
     obtain ⟨g0, g1, g2, g3, g4, g5⟩ := blk6 Hb5.out
     dsimp only at *
     go_wp2_with fail
     refine bodyPost_ret (mtake_res _ _ _ _ _ rfl rfl (blk_set6 Hb5.out _ _ _ _ _ _) rfl) rfl ?_
     exact mtake_bad _ _ _ rfl (ext_set6 (Ext.trans HE.out hE5) (Nat.le_refl _) _ _ _ _ _ _)
    subst he4
    obtain ⟨hl4, hnum4, hr4⟩ := takes_num hq4
    obtain ⟨y0, y1, y2, y3, rfl⟩ := four hl4
    simp only [List.mem_cons, List.not_mem_nil, or_false, forall_eq_or_imp, forall_eq] at hnum4
    obtain ⟨q0, q1, q2, q3⟩ := hnum4
    rw [segsGo_ok hq4] at hG
    have HG := Lib.hid hG
    have hw3 : IntKind.i64.wrap (y3 - 1) = y3 - 1 := by rw [IntKind.wrap_i64]; omega
    clear hl4 hq4 hG
    go_wp2_with fail
    refine HT4.out.mono ?_
    rintro e w5 ⟨vl5, vr5, rfl, ho5, hor5, hE5⟩
    dsimp only at ho5 hor5 ⊢
    obtain ⟨Al5, cl5, rfl, _, _⟩ := SlR.open_ (SlR.of_own ho5)
    obtain ⟨_, bl5, of5, rfl, hcl5⟩ := Is.at_ (l := [y0, y1, y2, y3]) (SlR.of_own ho5) (by simp)
    have d0 := hcl5 0 (by simp)
    have d1 := hcl5 1 (by simp)
    have d2 := hcl5 2 (by simp)
    have d3 := hcl5 3 (by simp)
    simp only [List.getElem_cons_zero, List.getElem_cons_succ, Nat.add_zero] at d0 d1 d2 d3
    simp only [List.length_cons, List.length_nil, Nat.zero_add, Nat.reduceAdd] at *
    obtain ⟨Au, cu, rfl, _, _⟩ := SlR.open_ (SlR.of_own HO.out)
    have Hbm5 := Lib.hid (Hbm.out.ext hE5)
    obtain ⟨_, _, _, _, _, g5⟩ := blk6 Hbm5.out
    have HO5 := Lib.hid (own_ext HO.out hE5)
    have Ho5 := Lib.hid ho5
    have HE5 := Lib.hid hE5
    clear hcl5 ho5 hE5 HO Hbm HT4
    go_wp2_with fail
    refine wp_region_held_drew (S := fun W => W.cell? ⟨bl5, of5, none⟩ = some (.int .i64 y0) ∧ W.cell? ⟨bl5, of5 + 1, none⟩ = some (.int .i64 y1) ∧ W.cell? ⟨bl5, of5 + 2, none⟩ = some (.int .i64 y2) ∧ W.cell? ⟨bl5, of5 + 3, none⟩ = some (.int .i64 y3)) (by kernel_rfl) ⟨d0, d1, d2, d3⟩ (fun hHeld => ?_)
    refine tkL 0 rfl ?_
    try simp only [Act.put, sA, sZ, sS]
    refine tkL 2 rfl ?_
    try simp only [Act.put, sA, sZ, sS]
    refine tkL 3 rfl ?_
    try simp only [Act.put, sA, sZ, sS]
    refine tkL 4 rfl ?_
    try simp only [Act.put, sA, sZ, sS]
    refine tkL 5 rfl ?_
    try simp only [Act.put, sA, sZ, sS]
    refine tkL 6 rfl ?_
    try simp only [Act.put, sA, sZ, sS]
    refine tkL 7 rfl ?_
    try simp only [Act.put, sA, sZ, sS]
    refine tkL 8 rfl ?_
    try simp only [Act.put, sA, sZ, sS]
    refine tkL 9 rfl ?_
    try simp only [Act.put, sA, sZ, sS]
    refine tkL 10 rfl ?_
    try simp only [Act.put, sA, sZ, sS]
    refine tkL 11 rfl ?_
    try simp only [Act.put, sA, sZ, sS]
    refine tkL 12 rfl ?_
    try simp only [Act.put, sA, sZ, sS]
    refine tkL 13 rfl ?_
    try simp only [Act.put, sA, sZ, sS]
    refine tkL 14 rfl ?_
    try simp only [Act.put, sA, sZ, sS]
    refine tkL 15 rfl ?_
    try simp only [Act.put, sA, sZ, sS]
    have X6 : Ext w5 (w5.alloc (.cells #[.int .i64 y0, .int .i64 y1, .int .i64 y2, .int .i64 (y3 - 1)] 71)).drew := Ext.drew (Ext.alloc (Ext.refl _) _)
    have g5d : w5.drew.cell? ⟨w2.heap.size, 5, none⟩ = some (.slice Au acc.length cu) := g5
    have g5x := X6.cell g5
    refine wpAnyH_two (i := 1) (j := 16) (vi := .slice Au acc.length cu) (vj := .slice (some ⟨w5.heap.size, 0, none⟩) 1 1) (w' := (w5.alloc (.cells #[.int .i64 y0, .int .i64 y1, .int .i64 y2, .int .i64 (y3 - 1)] 71)).drew) rfl rfl (by kernel_rfl) (by kernel_rfl) (by kernel_rfl) (by rfl) (by rfl) (by rfl) (by rfl) (by rfl) (by rfl) hHeld ⟨X6.cell d0, X6.cell d1, X6.cell d2, X6.cell d3⟩ ?h1 ?h2 ?h3 ?h4 ?h5
    case h1 => go_simp
    case h2 => go_simp
    case h3 => go_simp
    case h4 => go_simp
    case' h5 => skip
    try simp only [Act.put, sA, sZ, sS]
    have hr6 : SlR (w5.alloc (.cells #[.int .i64 y0, .int .i64 y1, .int .i64 y2, .int .i64 (y3 - 1)] 71)).drew 4 (.slice (some ⟨w5.heap.size, 0, none⟩) 1 1) 1 (sgCells [⟨y0, y1, y2, y3 - 1⟩]) := SlR.ext (new_segs w5 [⟨y0, y1, y2, y3 - 1⟩] 1 rfl (by simp [maxLen])) (Ext.drew (Ext.refl _))
    have HX6 := Lib.hid X6
    have Hr6 := Lib.hid hr6
    have hbase6 : w2.heap.size ≤ (w5.alloc (.cells #[.int .i64 y0, .int .i64 y1, .int .i64 y2, .int .i64 (y3 - 1)] 71)).drew.heap.size := (Ext.trans HEr.out (Ext.trans HE5.out X6)).size
    obtain ⟨i0, hi, hz0, hz1, hz2⟩ := info_parts info_seg
    clear hr6 X6 g5d g5x
    refine AllReadyH.one (i := 17) rfl (by kernel_rfl) (by rfl) (fun K hK => ?_)
    refine wp_append_sl _ (.tmp 78) (.tmp 93) 30 (by rfl) w2.heap.size 71 i0 _ 4 32 Tryz.underlying30 hi hz0 hz1 hz2 rfl (by decide) (.slice Au acc.length cu) acc.length (sgCells acc) (by rfl) (own_ext HO5.out HX6.out) _ 1 (sgCells [⟨y0, y1, y2, y3 - 1⟩]) (by rfl) Hr6.out (one_seg _) (by unfold maxLen; omega) (by omega) hbase6 ?_
    intro v7 w7 ho7 hg7
    have hne5 := own_ne (by decide) (own_ext Ho5.out HX6.out) (own_ext HO5.out HX6.out)
    have hbm7 := (Hbm5.out.ext HX6.out).kept hg7 ((Hbm5.out.ext HX6.out).not_row (by decide) (own_ext HO5.out HX6.out))
    have E7 : Ext w2 w7 := Ext.grownOwn (Ext.trans HEr.out (Ext.trans HE5.out HX6.out)) (own_ext HO5.out HX6.out) hg7
    refine hK.out _ _ ⟨cell_grown hg7 (HX6.out.cell d0) hne5, cell_grown hg7 (HX6.out.cell d1) hne5, cell_grown hg7 (HX6.out.cell d2) hne5, cell_grown hg7 (HX6.out.cell d3) hne5⟩ (fun hHeld => ?_)
    clear hK K
    try simp only [Act.put, sA, sZ, sS]
    have f57 := hbm7.frozen 5
    have g57 : w7.cell? ⟨w2.heap.size, 5, none⟩ = some (.slice Au acc.length cu) := hbm7.cell 5 rfl
    have hor7 := own_kept (by decide) (own_ext hor5 HX6.out) (own_ext HO5.out HX6.out) hg7
    have ho57 := own_kept (by decide) (own_ext Ho5.out HX6.out) (own_ext HO5.out HX6.out) hg7
    have hnb := hbm7.not_row (by decide) ho57
    have k0 := hHeld.1
    have k1 := hHeld.2.1
    have k2 := hHeld.2.2.1
    have k3 := hHeld.2.2.2
    obtain ⟨A7, c7, rfl, _, _⟩ := SlR.open_ (SlR.of_own ho7)
    refine tkL 18 rfl ?_
    try simp only [Act.put, sA, sZ, sS]
    refine AllReadyH.one (i := 19) rfl (by kernel_rfl) (by rfl) (fun K hK => ?_)
    go_simp
    have E8 : Ext w2 (w7.setCell ⟨w2.heap.size, 5, none⟩ (.slice A7 (acc.length + 1) c7)) := Below.setCell (p := ⟨w2.heap.size, 5, none⟩) E7 (Nat.le_refl _) _
    have hb8 := hbm7.set 5 (.slice A7 (acc.length + 1) c7)
    have ho8 := ho7.kept (grownBy_set _ w2.heap.size 5 (.slice A7 (acc.length + 1) c7)) (.inr (hbm7.not_row (by decide) ho7).symm)
    have hor8 := hor7.kept (grownBy_set _ w2.heap.size 5 (.slice A7 (acc.length + 1) c7)) (.inr (hbm7.not_row (by decide) hor7).symm)
    refine hK.out _ _ ⟨cell_grown (grownBy_set _ w2.heap.size 5 (.slice A7 (acc.length + 1) c7)) k0 hnb.symm, cell_grown (grownBy_set _ w2.heap.size 5 (.slice A7 (acc.length + 1) c7)) k1 hnb.symm, cell_grown (grownBy_set _ w2.heap.size 5 (.slice A7 (acc.length + 1) c7)) k2 hnb.symm, cell_grown (grownBy_set _ w2.heap.size 5 (.slice A7 (acc.length + 1) c7)) k3 hnb.symm⟩ (fun hHeld => ?_)
    clear hK K
    try simp only [Act.put, sA, sZ, sS]
    refine wpAnyH_done (by kernel_rfl) ?_ _
    have HE8 := Lib.hid E8
    have Hb8 := Lib.hid hb8
    have Ho8 := Lib.hid ho8
    have Hor8 := Lib.hid hor8
    clear E8 hb8 ho8 hor8 hHeld hnb k0 k1 k2 k3 ho57 hor7 g57 f57 E7 hbm7 hne5 hg7 ho7 hbase6
    go_wp2_with fail
    go_roundw
    case rel =>
     refine ⟨j + 1, acc ++ [⟨y0, y1, y2, y3 - 1⟩], r4, _, _, by omega, by go_num, rfl, Lib.hid (by simp [HL.out]), by omega, Lib.hid (SlR.of_own Hor8.out), ?_, Hb8, ?_, HE8.out⟩
     ·rw [show x5.toNat - (j + 1) = k by omega]; exact HG
     ·rw [show sgCells (acc ++ [⟨y0, y1, y2, y3 - 1⟩]) = sgCells acc ++ sgCells [⟨y0, y1, y2, y3 - 1⟩] by simp [sgCells], List.length_append]; exact Ho8
    case measure => simp [intOf]; omega
   ·obtain rfl : j = x5.toNat := by omega
    have hG := HG.out
    rw [Nat.sub_self, segsGo] at hG
    have HR4 : Hid ((if putM ⟨x0, x1, x2, x3, x4, acc⟩ = some bs then some ⟨x0, x1, x2, x3, x4, acc⟩ else none) = R) := Lib.hid (by rw [← HR3.out, hG]; rfl)
    have hSg : Sgs wr u acc := SlR.of_own HO.out
    obtain ⟨Au, cu, rfl, _, _⟩ := hSg.open_
    have arm := PutM_any ⟨x0, x1, x2, x3, x4, acc⟩ (.slice Au acc.length cu) wr hSg
    obtain ⟨p0, p1, p2, p3, p4, p5⟩ := blk6 Hbm.out
    have hBw := HB.out.ext HE.out
    have HSg := Lib.hid hSg
    obtain ⟨pr, hpr⟩ : ∃ pr, putM ⟨x0, x1, x2, x3, x4, acc⟩ = pr := ⟨_, rfl⟩
    rw [hpr] at arm
    have HR5 : Hid ((if pr = some bs then some ⟨x0, x1, x2, x3, x4, acc⟩ else none) = R) := Lib.hid (by rw [← hpr]; exact HR4.out)
    have Arm := Lib.hid arm
    have hxj : ((x5.toNat : Nat) : Int) = x5 := by omega
    have hxj2 : ¬ (((x5.toNat : Nat) : Int) < x5) := by omega
    clear hG HR4 hSg arm hpr HG HR3
    go_wp2_with fail
    refine Arm.out.mono ?_
    rintro e w8 ⟨⟨v8, rfl, ho8⟩, hE8⟩
    have Hb8 := Lib.hid (Hb2.out.ext (Ext.trans HEr.out hE8))
    have Hbm8 := Lib.hid (Hbm.out.ext hE8)
    obtain ⟨f0, f1, f2, f3, f4, f5⟩ := blk6f Hb8.out
    obtain ⟨g0, g1, g2, g3, g4, g5⟩ := blk6 Hb8.out
    obtain ⟨t0, t1, t2, t3, t4, t5⟩ := blk6 Hbm8.out
    have HO8 := Lib.hid (own_ext HO.out hE8)
    have HX8 := Lib.hid (Ext.trans HE.out hE8)
    clear p0 p1 p2 p3 p4 p5
    cases pr with
    | none =>
     obtain rfl : none = R := HR5.out
     dsimp only [Option.isSome]
     go_wp2_with fail
     refine bodyPost_ret (mtake_res _ _ _ _ _ rfl rfl (blk_set6 Hb8.out _ _ _ _ _ _) rfl) rfl ?_
     exact mtake_bad _ _ _ rfl (ext_set6 (Ext.trans HE.out hE8) (Nat.le_refl _) _ _ _ _ _ _)
    | some q =>
     dsimp only [Option.isSome, Option.getD] at ho8 ⊢
     have hca := run_convert_sl (P := Tryz.prog) w8 43 9 5 Tryz.underlying43 Tryz.underlying5 Tryz.underlying9 ho8.bs
     have hcb := run_convert_sl (P := Tryz.prog) w8 43 9 5 Tryz.underlying43 Tryz.underlying5 Tryz.underlying9 (hBw.ext hE8)
     by_cases hqb : q = bs
     ·obtain rfl : some _ = R := by rw [← HR5.out, if_pos (by rw [hqb])]
      subst hqb
      clear HR5
      go_wp2_with fail
      refine bodyPost_ret (mtake_res _ _ _ _ _ rfl rfl (blk_set6 Hb8.out _ _ _ _ _ _) rfl) rfl ?_
      exact ⟨_, rfl, own_base (own_set6 Hb8.out (by decide) HO8.out _ _ _ _ _ _) (by first | exact Nat.le_refl _ | exact HE2.out.size | (have := HE2.out.size; omega)), ext_set6 (Ext.trans HE.out hE8) (Nat.le_refl _) _ _ _ _ _ _⟩
     ·obtain rfl : none = R := by rw [← HR5.out, if_neg (by simpa using hqb)]
      have hqb2 : (q == bs) = false := by simpa using hqb
      clear HR5
      go_wp2_with fail
      refine bodyPost_ret (mtake_res _ _ _ _ _ rfl rfl (blk_set6 Hb8.out _ _ _ _ _ _) rfl) rfl ?_
      exact mtake_bad _ _ _ rfl (ext_set6 (Ext.trans HE.out hE8) (Nat.le_refl _) _ _ _ _ _ _)
end Go.Proofs.YtmecffckghkahaaGreatDoor
