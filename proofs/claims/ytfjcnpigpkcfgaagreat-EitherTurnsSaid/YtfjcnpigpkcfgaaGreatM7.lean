/-
  The walk of gauss.bytes' iterator.
  The walk of gauss.Chain.
  The walks of crc.Step and of crc.halves' iterator.
  The walk of moultref01.Short.
  The walks of two.Head, moultref08.Head.
-/
import Derived.Test.YtfjcnpigpkcfgaaGreatM6
import Derived.Laws.Bits64
set_option linter.all false
namespace Go.Proofs.YtfjcnpigpkcfgaaGreat
open Go.RowKit Go.Mv Go.Shelf
attribute [local go_sem] Oper.semAt_some
set_option maxRecDepth 100000

theorem split_at_ {α : Type} (l : List α) (m : Nat) (h : m < l.length) (R : List α) : l ++ R = l.take m ++ l[m] :: (l.drop (m + 1) ++ R) := by
  have e := List.take_append_drop m l
  rw [List.drop_eq_getElem_cons h] at e
  calc l ++ R = (l.take m ++ l[m] :: l.drop (m + 1)) ++ R := by rw [e]
    _ = _ := by rw [List.append_assoc, List.cons_append]
/-- What lay in wo lies in W. -/
def Hold (wo W : World) : Prop := ∀ p u, wo.cell? p = some u → W.cell? p = some u
theorem Hold.kept {wo W W' : World} {bz n : Nat} (h : Hold wo W) (hbz : wo.heap.size ≤ bz) (hk : Kept (orOther (fun k o => k ≠ bz ∧ o.isCells = true) n) W W') : Hold wo W' := by
  intro p u hp
  have hlt := World.block_lt_of_cell? wo p hp
  obtain ⟨o, ho, hc⟩ := cells_of_cell (h p u hp)
  exact hk.cell (h p u hp) (fun o' ho' => by rw [ho] at ho'; cases ho'; exact .inl ⟨by omega, hc⟩)

set_option maxHeartbeats 1000000 in
theorem bytes1_seq (wo W0 : World) (vp : Value) (bss : List (List UInt8)) (hP : Parts wo vp bss) (hE : Hold wo W0) (bz B : Nat) (hbz : wo.heap.size ≤ bz) (hB : Boxed W0 B 82 vp) :
    Seq Tryz.prog 151 #[.pointer (some ⟨B, 0, none⟩)]
      (fun (d : UInt8) av _ => av = #[bv d]) (fun k o => k ≠ bz ∧ o.isCells = true) (fun _ _ => False) bss.flatten W0 := by
  intro l J Jx hJ hJx hY h0
  obtain ⟨vs, hvl, hsl, hvs⟩ := hP
  obtain ⟨A, c, rfl, h1, h2⟩ := SlR.open_ hsl
  have hv1 : vs.length ≤ bss.length := by omega
  have hv2 : bss.length ≤ vs.length := by omega
  have hc1 := hB.cell
  clear hvl hB
  refine (callsIn_wd (ro := none) (n := 9)).1 ?_
  refine callsIn_of_wp Tryz.func151 rfl trivial ?_ rfl
  simp only [Tryz.ntmps151, List.size_toArray, List.length_cons, List.length_nil, Nat.reduceAdd, Nat.reduceSub, Array.replicate_succ, Array.replicate_zero, List.push_toArray, List.append_toArray, List.nil_append, List.cons_append]
  gi_wp2
  gi_loopw [9] (fun j W => ∃ k : Nat, k ≤ bss.length ∧ j = .int .i64 k ∧ Hid (J (bss.take k).flatten W) ∧ Hid (Hold wo W) ∧ W0.heap.size ≤ W.heap.size) (fun j _ => bss.length - (intOf j).toNat)
  case atStart => exact ⟨0, Nat.zero_le _, rfl, h0, hE, Nat.le_refl _⟩
  case round =>
    obtain ⟨k, hk, rfl, HJ, HH, hsz⟩ := hrel
    by_cases hlt : k < bss.length
    · obtain ⟨_, ba, off, rfl, hc⟩ := SlR.at_ hsl (by omega)
      have hkv : k < vs.length := by omega
      have hck := hc k vs[k] (List.getElem?_eq_getElem hkv)
      have hbk := hvs k hkv hlt
      obtain ⟨A', c', hvk, h3, h4⟩ := SlR.open_ hbk
      rw [hvk] at hck hbk
      have hck' := HH.out _ _ hck
      have hft := flat_take bss k hlt
      have hfa : bss.flatten = (bss.take k).flatten ++ (bss[k] ++ (bss.drop (k + 1)).flatten) := by
        conv => lhs; rw [← List.take_append_drop (k + 1) bss, List.flatten_append, hft, List.append_assoc]
      have Hft := Lib.hid hft
      have Hfa := Lib.hid hfa
      generalize bss[k] = bk at *
      clear hc hvk hft hfa hck
      gi_wp2
      gi_loopw [15] (fun j W => ∃ m : Nat, m ≤ bk.length ∧ j = .int .i64 m ∧ Hid (J ((bss.take k).flatten ++ bk.take m) W) ∧ Hid (Hold wo W) ∧ W0.heap.size ≤ W.heap.size) (fun j _ => bk.length - (intOf j).toNat)
      case atStart => exact ⟨0, Nat.zero_le _, rfl, by show J _ _; rw [List.take_zero, List.append_nil]; exact HJ.out, HH, hsz⟩
      case round =>
        obtain ⟨m, hm, rfl, HQ, HH2, hsz2⟩ := hrel
        by_cases hlt2 : m < bk.length
        · obtain ⟨_, b2, off2, e2, hc2⟩ := Bs.at_ hbk (by omega)
          cases e2
          have hcm := HH2.out _ _ (hc2 m hlt2)
          have htk : bk.take (m + 1) = bk.take m ++ [bk[m]] := List.take_succ_eq_append_getElem hlt2
          have hfin : bss.flatten = ((bss.take k).flatten ++ bk.take m) ++ bk[m] :: (bk.drop (m + 1) ++ (bss.drop (k + 1)).flatten) := by
            rw [Hfa.out, split_at_ bk m hlt2, List.append_assoc]
          have hy := hY _ _ _ hfin _ #[bv bk[m]] HQ.out hsz2 rfl
          have Htk := Lib.hid htk
          have Hfin := Lib.hid hfin
          generalize bk[m] = bm at *
          have key : ∀ (o : Oper) (a : Act) (next : Act → World → Prop) (Q : Exit → Act → World → Prop) (W : World),
              Mv.YieldsAt Tryz.prog l #[bv bm] W (fun e W' => Kept (orOther (fun k o => k ≠ bz ∧ o.isCells = true) W0.heap.size) W W' ∧ ((e = .returned (.bool true) ∧ J ((bss.take k).flatten ++ bk.take m ++ [bm]) W') ∨ (e = .returned (.bool false) ∧ Jx ((bss.take k).flatten ++ bk.take m ++ [bm]) W'))) → Hold wo W → W0.heap.size ≤ W.heap.size →
              (∀ W' : World, J ((bss.take k).flatten ++ bk.take (m + 1)) W' → Hold wo W' → W0.heap.size ≤ W'.heap.size → next (a.put o.dst (.bool true)) W') →
              (∀ W' : World, Jx ((bss.take k).flatten ++ bk.take (m + 1)) W' → next (a.put o.dst (.bool false)) W') →
              o.uponIn (Wd none) 9 Tryz.prog a next Q ((Instr.yield l #[bv bm]).run Tryz.prog W) := by
            intro o a next Q W hy hho hs h1 h2
            refine uponIn_yield hy ?_
            rintro e W' ⟨hk', ⟨rfl, hj⟩ | ⟨rfl, hj⟩⟩
            · refine ⟨true, rfl, h1 W' ?_ (hho.kept hbz hk') (Nat.le_trans hs hk'.size)⟩
              rw [Htk.out, ← List.append_assoc]; exact hj
            · refine ⟨false, rfl, h2 W' ?_⟩
              rw [Htk.out, ← List.append_assoc]; exact hj
          have Hkey := Lib.hid key
          have Hy := Lib.hid hy
          have hpre : (bss.take k).flatten ++ bk.take (m + 1) <+: bss.flatten := by
            rw [Hfin.out, Htk.out]; exact ⟨bk.drop (m + 1) ++ (bss.drop (k + 1)).flatten, by simp⟩
          have Hpre := Lib.hid hpre
          clear hc2 htk hfin key hy hY hpre
          gi_wp2
          refine Hkey.out _ _ _ _ _ Hy.out HH2.out hsz2 ?_ ?_
          · intro W' hj hho hs
            have Hj := Lib.hid hj
            have Hh := Lib.hid hho
            clear hj hho hcm hck' hc1
            gi_wp2
            exact ⟨⟨m + 1, by omega, by go_num, Hj, Hh, hs⟩, by simp [intOf]; omega⟩
          · intro W' hj
            have Hj := Lib.hid hj
            clear hj hcm hck' hc1
            gi_wp2
            refine bodyPost_ret (results_none rfl _ _ _) rfl ?_
            exact ⟨⟨_, rfl⟩, .inr ⟨_, Hpre.out, Hj.out⟩⟩
        · have hq := HQ.out
          rw [List.take_of_length_le (show bk.length ≤ m from by omega), ← Hft.out] at hq
          have HQ' := Lib.hid hq
          clear hq
          gi_wp2
          exact ⟨⟨k + 1, by omega, by go_num, HQ', HH2, hsz2⟩, by simp [intOf]; omega⟩
    · have hj := HJ.out
      rw [List.take_of_length_le (show bss.length ≤ k from by omega)] at hj
      have HJ' := Lib.hid hj
      clear hj
      gi_wp2
      refine bodyPost_end (results_none rfl _ _ _) rfl ?_
      exact ⟨⟨_, rfl⟩, .inl HJ'.out⟩
end Go.Proofs.YtfjcnpigpkcfgaaGreat

namespace Go.Proofs.YtfjcnpigpkcfgaaGreat
open Go.RowKit Go.Mv Go.Shelf
attribute [local go_sem] Oper.semAt_some
set_option maxRecDepth 100000

theorem run_store_c128 (P : Program) (w : World) (a : Addr) (m : Mode) (x y : Nat) : (store a (.complex .f64 x y) m).run P w = stored P w a (.complex .f64 x y) m := run_store P w a _ m rfl
attribute [local go_sem] run_store_c128

theorem gbytes_any (A : Option Addr) (n c : Nat) (w : World) : Calls Tryz.prog 140 #[.slice A n c] w fun e w' => e = .returned (.func (.func 151) #[] #[.pointer (some ⟨w.heap.size, 0, none⟩)]) ∧ w.alloc (.cells #[.slice A n c] 82) = w' := by
  go_enter Tryz.func140, Tryz.ntmps140
  go_wp2
  go_ret
  exact ⟨rfl, rfl⟩

def ChainE (v : Value) (bs : List UInt8) (w : World) (e : Ending) (w' : World) : Prop := ∃ v', e = .returned v' ∧ PtV v' (chainP (ptV v) bs) ∧ Ext w w'
def ChI (w : World) (p0 : Nat × Nat) (pre : List UInt8) (X : World) : Prop := ∃ v, Boxed X w.heap.size 67 v ∧ PtV v (chainP p0 pre) ∧ Below w.heap.size w X

set_option maxHeartbeats 1000000 in
theorem Chain_any (a b : Nat) (vp : Value) (bss : List (List UInt8)) (w : World) (h : Parts w vp bss) :
    Calls Tryz.prog 129 #[.complex .f64 a b, vp] w (ChainE (.complex .f64 a b) bss.flatten w) := by
  obtain ⟨A, c, rfl, h1, h2⟩ : ∃ A c, vp = .slice A bss.length c ∧ bss.length ≤ c ∧ c ≤ 9223372036854775807 := by obtain ⟨vs, _, hs, _⟩ := h; exact SlR.open_ hs
  have hG := Lib.hid (fun w => Right_c a b w)
  have HP := Lib.hid h
  clear h
  cases hok : ((ptOf a).isSome && (ptOf b).isSome)
  · rw [hok] at hG
    have hz : PtV (.complex .f64 0 0) (ptV (.complex .f64 a b)) := by rw [ptV_not hok]; exact PtV.zero
    unfold ChainE
    generalize ptV (.complex .f64 a b) = p0 at *
    have Hz := Lib.hid hz
    clear hok hz
    refine (callsIn_wd (ro := none) (n := 9)).1 ?_
    refine callsIn_of_wp_marks Tryz.func129 rfl trivial ?_ rfl
    simp only [Tryz.ntmps129, List.size_toArray, List.length_cons, List.length_nil, Nat.reduceAdd, Nat.reduceSub, Array.replicate_succ, Array.replicate_zero, List.push_toArray, List.append_toArray, List.nil_append, List.cons_append]
    gi_wp2_with (first
      | (refine ⟨trivial, ?_⟩; gi_at_call 139; refine (callsIn_wd.2 (hG.out _)).mono ?_; rintro e w' ⟨rfl, rfl⟩)
      | (refine ⟨trivial, ?_⟩; gi_at_call 140; refine (callsIn_wd.2 (gbytes_any _ _ _ _)).mono ?_; rintro e w' ⟨rfl, rfl⟩))
    have q2 : Boxed ((w.alloc (.cells #[.complex .f64 0 0] 67)).alloc (.cells #[.slice A bss.length c] 82)) (w.heap.size + 1) 82 (.slice A bss.length c) := by
      have := Boxed.new (w.alloc (.cells #[.complex .f64 0 0] 67)) 82 (.slice A bss.length c)
      rwa [World.size_alloc] at this
    have hE2 : Ext w ((w.alloc (.cells #[.complex .f64 0 0] 67)).alloc (.cells #[.slice A bss.length c] 82)) := Ext.alloc (Ext.alloc (Ext.refl _) _) _
    have h0 : ChI w p0 [] ((w.alloc (.cells #[.complex .f64 0 0] 67)).alloc (.cells #[.slice A bss.length c] 82)) := ⟨_, (Boxed.new w _ _).alloc _, Hz.out, hE2⟩
    have hs2 : ((w.alloc (.cells #[.complex .f64 0 0] 67)).alloc (.cells #[.slice A bss.length c] 82)).heap.size = w.heap.size + 2 := by simp
    generalize (w.alloc (.cells #[.complex .f64 0 0] 67)).alloc (.cells #[.slice A bss.length c] 82) = w2 at *
    refine wp_range (a := ⟨_, _⟩) rfl (enters_of Tryz.func151 (by kernel_rfl) rfl)
      (fun W1 hb _ => bytes1_seq w W1 _ bss HP.out (fun p u hc => Ext.cell (Ext.trans hE2 hb) hc) w.heap.size (w.heap.size + 1) (Nat.le_refl _) (q2.kept (row := none) (Ext.grown hb none) (by simp)))
      (fun k o h => h.elim) (fun k o h => h.2) (fun x av W h => by rw [h]; rfl)
      (ChI w p0) (fun _ _ _ => False) ?hI (fun _ _ _ _ h _ => h) h0
      (fun x a' _ => a' = ⟨#[.complex .f64 a b, .slice A bss.length c, .pointer (some ⟨w.heap.size, 0, none⟩), undef, .complex .f64 0 0, .int .u8 x.toNat, .complex .f64 a b, .bool false, .bool true, .slice A bss.length c, .func (.func 151) #[] #[.pointer (some ⟨w.heap.size + 1, 0, none⟩)], .int .u8 x.toNat, undef, undef, undef, undef], []⟩)
      (fun _ _ _ _ h _ => h) ?assign ?body ?done ?stop
    case hI =>
      rintro s X Y ⟨v, hv, hr, hB⟩ hm
      refine ⟨v, hm.boxed hv ?_, hr, hm.belowOf hB ?_ (Nat.le_refl _)⟩
      · rintro (h | h)
        · exact h
        · cases h.2
      · rintro k o hk (h | h)
        · exact h
        · have := h.1; omega
    case assign =>
      rintro l pre x post W av K' hx hi hsz rfl hK
      simp only [bv]
      gi_wp2
      exact hK _ _ Kept.refl hi rfl
    case body =>
      rintro l pre x post a' W hx hl hr ⟨v, hv, hpt, hB⟩ hsz rfl
      have HPT := Lib.hid hpt
      obtain ⟨va, vb, rfl, _, _⟩ := hpt
      have hc := hv.cell
      have hf := hv.frozen
      gi_wp2_with (refine ⟨trivial, ?_⟩; gi_at_call 141; refine (callsIn_wd.2 (Next_any _ _ HPT.out _ _)).mono ?_; rintro e w' ⟨v', rfl, hv', rfl⟩; have HV := Lib.hid hv'; obtain ⟨c1, c2, rfl, _, _⟩ := hv')
      refine ⟨Kept.refl.setCell (fun o ho hc => ?_) _, _, hv.set _, by rw [chainP_snoc]; exact HV.out, hB.setCell (p := ⟨w.heap.size, 0, none⟩) (Nat.le_refl _) _⟩
      rintro (h | h)
      · exact h.1 rfl
      · rw [hc] at h; cases h.2
    case done =>
      rintro D W hD ⟨v, hv, hpt, hB⟩ hK
      have HPT := Lib.hid hpt
      obtain ⟨va, vb, rfl, _, _⟩ := hpt
      have hc := hv.cell
      gi_wp2
      refine ret_mark hK _ (results_tmp rfl _ _ _) ?_
      exact ⟨_, rfl, HPT.out, below_putObj hB (by omega) _⟩
    case stop =>
      rintro D c pre W _ _ h _
      exact h.elim
  · rw [hok] at hG
    have hz : PtV (.complex .f64 a b) (ptV (.complex .f64 a b)) := ptV_right hok
    unfold ChainE
    generalize ptV (.complex .f64 a b) = p0 at *
    have Hz := Lib.hid hz
    clear hok hz
    refine (callsIn_wd (ro := none) (n := 9)).1 ?_
    refine callsIn_of_wp_marks Tryz.func129 rfl trivial ?_ rfl
    simp only [Tryz.ntmps129, List.size_toArray, List.length_cons, List.length_nil, Nat.reduceAdd, Nat.reduceSub, Array.replicate_succ, Array.replicate_zero, List.push_toArray, List.append_toArray, List.nil_append, List.cons_append]
    gi_wp2_with (first
      | (refine ⟨trivial, ?_⟩; gi_at_call 139; refine (callsIn_wd.2 (hG.out _)).mono ?_; rintro e w' ⟨rfl, rfl⟩)
      | (refine ⟨trivial, ?_⟩; gi_at_call 140; refine (callsIn_wd.2 (gbytes_any _ _ _ _)).mono ?_; rintro e w' ⟨rfl, rfl⟩))
    have q2 : Boxed ((w.alloc (.cells #[.complex .f64 a b] 67)).alloc (.cells #[.slice A bss.length c] 82)) (w.heap.size + 1) 82 (.slice A bss.length c) := by
      have := Boxed.new (w.alloc (.cells #[.complex .f64 a b] 67)) 82 (.slice A bss.length c)
      rwa [World.size_alloc] at this
    have hE2 : Ext w ((w.alloc (.cells #[.complex .f64 a b] 67)).alloc (.cells #[.slice A bss.length c] 82)) := Ext.alloc (Ext.alloc (Ext.refl _) _) _
    have h0 : ChI w p0 [] ((w.alloc (.cells #[.complex .f64 a b] 67)).alloc (.cells #[.slice A bss.length c] 82)) := ⟨_, (Boxed.new w _ _).alloc _, Hz.out, hE2⟩
    have hs2 : ((w.alloc (.cells #[.complex .f64 a b] 67)).alloc (.cells #[.slice A bss.length c] 82)).heap.size = w.heap.size + 2 := by simp
    generalize (w.alloc (.cells #[.complex .f64 a b] 67)).alloc (.cells #[.slice A bss.length c] 82) = w2 at *
    refine wp_range (a := ⟨_, _⟩) rfl (enters_of Tryz.func151 (by kernel_rfl) rfl)
      (fun W1 hb _ => bytes1_seq w W1 _ bss HP.out (fun p u hc => Ext.cell (Ext.trans hE2 hb) hc) w.heap.size (w.heap.size + 1) (Nat.le_refl _) (q2.kept (row := none) (Ext.grown hb none) (by simp)))
      (fun k o h => h.elim) (fun k o h => h.2) (fun x av W h => by rw [h]; rfl)
      (ChI w p0) (fun _ _ _ => False) ?hI (fun _ _ _ _ h _ => h) h0
      (fun x a' _ => a' = ⟨#[.complex .f64 a b, .slice A bss.length c, .pointer (some ⟨w.heap.size, 0, none⟩), undef, .complex .f64 0 0, .int .u8 x.toNat, .complex .f64 a b, .bool true, .bool false, .slice A bss.length c, .func (.func 151) #[] #[.pointer (some ⟨w.heap.size + 1, 0, none⟩)], .int .u8 x.toNat, undef, undef, undef, undef], []⟩)
      (fun _ _ _ _ h _ => h) ?assign ?body ?done ?stop
    case hI =>
      rintro s X Y ⟨v, hv, hr, hB⟩ hm
      refine ⟨v, hm.boxed hv ?_, hr, hm.belowOf hB ?_ (Nat.le_refl _)⟩
      · rintro (h | h)
        · exact h
        · cases h.2
      · rintro k o hk (h | h)
        · exact h
        · have := h.1; omega
    case assign =>
      rintro l pre x post W av K' hx hi hsz rfl hK
      simp only [bv]
      gi_wp2
      exact hK _ _ Kept.refl hi rfl
    case body =>
      rintro l pre x post a' W hx hl hr ⟨v, hv, hpt, hB⟩ hsz rfl
      have HPT := Lib.hid hpt
      obtain ⟨va, vb, rfl, _, _⟩ := hpt
      have hc := hv.cell
      have hf := hv.frozen
      gi_wp2_with (refine ⟨trivial, ?_⟩; gi_at_call 141; refine (callsIn_wd.2 (Next_any _ _ HPT.out _ _)).mono ?_; rintro e w' ⟨v', rfl, hv', rfl⟩; have HV := Lib.hid hv'; obtain ⟨c1, c2, rfl, _, _⟩ := hv')
      refine ⟨Kept.refl.setCell (fun o ho hc => ?_) _, _, hv.set _, by rw [chainP_snoc]; exact HV.out, hB.setCell (p := ⟨w.heap.size, 0, none⟩) (Nat.le_refl _) _⟩
      rintro (h | h)
      · exact h.1 rfl
      · rw [hc] at h; cases h.2
    case done =>
      rintro D W hD ⟨v, hv, hpt, hB⟩ hK
      have HPT := Lib.hid hpt
      obtain ⟨va, vb, rfl, _, _⟩ := hpt
      have hc := hv.cell
      gi_wp2
      refine ret_mark hK _ (results_tmp rfl _ _ _) ?_
      exact ⟨_, rfl, HPT.out, below_putObj hB (by omega) _⟩
    case stop =>
      rintro D c pre W _ _ h _
      exact h.elim
end Go.Proofs.YtfjcnpigpkcfgaaGreat

namespace Go.Proofs.YtfjcnpigpkcfgaaGreat
open Go.RowKit Go.Mv Go.Shelf
attribute [local go_sem] Oper.semAt_some
set_option maxRecDepth 100000

/-- What crc.rows may hold: sixteen numbers, whatever they are. -/
structure Tab where
  l : List Nat
  lt : ∀ i, l.getD i 0 < 4294967296
variable {T : Tab}
def TabW (T : Tab) (w : World) : Prop := ∀ i, i < 16 → w.cell? ⟨0, i, none⟩ = some (.int .u32 ((T.l.getD i 0 : Nat) : Int))
theorem TabW.ext {w w' : World} (h : TabW T w) (hE : Ext w w') : TabW T w' := fun i hi => hE.cell (h i hi)
theorem TabW.hold {w w' : World} (h : TabW T w) (hE : Hold w w') : TabW T w' := fun i hi => hE _ _ (h i hi)
def stepN (T : Tab) (s h : Nat) : Nat := T.l.getD ((s ^^^ h) % 16) 0 ^^^ (s / 16)

theorem tab_lt (i : Nat) : T.l.getD i 0 < 4294967296 := T.lt i
theorem stepN_lt {s : Nat} (h : Nat) (hs : s < 4294967296) : stepN T s h < 4294967296 := by
  have : stepN T s h < 2 ^ 32 := Nat.xor_lt_two_pow (tab_lt _) (by omega)
  simpa using this
theorem bits_xor_u32 (a b : Nat) (ha : a < 4294967296) (hb : b < 4294967296) : bits .xor .u32 (a : Int) (b : Int) = ((a ^^^ b : Nat) : Int) := by
  have hx : a ^^^ b < 2 ^ 32 := Nat.xor_lt_two_pow (by omega) (by omega)
  have h1 : (BitVec.ofInt 32 (a : Int)).toNat = a := by
    rw [BitVec.ofInt_natCast, BitVec.toNat_ofNat]; exact Nat.mod_eq_of_lt (by omega)
  have h2 : (BitVec.ofInt 32 (b : Int)).toNat = b := by
    rw [BitVec.ofInt_natCast, BitVec.toNat_ofNat]; exact Nat.mod_eq_of_lt (by omega)
  show IntKind.u32.wrap ((BitVec.ofInt 32 (a : Int) ^^^ BitVec.ofInt 32 (b : Int)).toNat : Int) = _
  rw [BitVec.toNat_xor, h1, h2, IntKind.wrap_u32]
  omega
theorem bits_and_u32 (a : Nat) (ha : a < 4294967296) : bits .and .u32 (a : Int) 15 = ((a % 16 : Nat) : Int) := by
  have h1 : (BitVec.ofInt 32 (a : Int)).toNat = a := by
    rw [BitVec.ofInt_natCast, BitVec.toNat_ofNat]; exact Nat.mod_eq_of_lt (by omega)
  have h2 : (BitVec.ofInt 32 (15 : Int)).toNat = 15 := rfl
  show IntKind.u32.wrap ((BitVec.ofInt 32 (a : Int) &&& BitVec.ofInt 32 (15 : Int)).toNat : Int) = _
  rw [BitVec.toNat_and, h1, h2, IntKind.wrap_u32, show (15 : Nat) = 2 ^ 4 - 1 from rfl, Nat.and_two_pow_sub_one_eq_mod]
  omega

set_option maxHeartbeats 400000 in
theorem Step_any (s h : Nat) (hs : s < 4294967296) (hh : h < 256) (w : World) (hT : TabW T w) : Calls Tryz.prog 115 #[.int .u32 s, .int .u8 h] w fun e w' => e = .returned (.int .u32 (stepN T s h)) ∧ w = w' := by
  have hx := bits_xor_u32 s h hs (by omega)
  have hxl : s ^^^ h < 2 ^ 32 := Nat.xor_lt_two_pow (by omega) (by omega)
  have ha := bits_and_u32 (s ^^^ h) hxl
  obtain ⟨i, hi⟩ : ∃ i, (s ^^^ h) % 16 = i := ⟨_, rfl⟩
  have hi16 : i < 16 := by omega
  rw [hi] at ha
  have hc := hT i hi16
  obtain ⟨t, ht⟩ : ∃ t, T.l.getD i 0 = t := ⟨_, rfl⟩
  have htl : t < 4294967296 := by rw [← ht]; exact tab_lt i
  rw [ht] at hc
  have hst : stepN T s h = t ^^^ (s / 16) := by unfold stepN; rw [hi, ht]
  have hx2 : bits .xor .u32 (t : Int) ((s : Int) / 16) = ((t ^^^ (s / 16) : Nat) : Int) := by simpa using bits_xor_u32 t (s / 16) htl (by omega)
  have Hst := Lib.hid hst
  have i1 : (i : Int) < 16 := by omega
  clear hst hi hxl
  go_enter Tryz.func115, Tryz.ntmps115
  go_wp2_with fail
  go_ret
  exact ⟨ret_int (by rw [Hst.out]), rfl⟩

/-- Bytes' halves, the lower one first. -/
def halvesL (bs : List UInt8) : List UInt8 := bs.flatMap fun b => [UInt8.ofNat (b.toNat % 16), UInt8.ofNat (b.toNat / 16)]
theorem halvesL_len (bs : List UInt8) : (halvesL bs).length = 2 * bs.length := by
  induction bs with
  | nil => rfl
  | cons b bs ih => rw [show halvesL (b :: bs) = UInt8.ofNat (b.toNat % 16) :: UInt8.ofNat (b.toNat / 16) :: halvesL bs from rfl]; simp [ih]; omega
theorem halvesL_at (bs : List UInt8) : ∀ (j : Nat) (hj : j < bs.length), (halvesL bs)[2 * j]? = some (UInt8.ofNat (bs[j].toNat % 16)) ∧ (halvesL bs)[2 * j + 1]? = some (UInt8.ofNat (bs[j].toNat / 16)) := by
  induction bs with
  | nil => intro j hj; simp at hj
  | cons b bs ih =>
    intro j hj
    rw [show halvesL (b :: bs) = UInt8.ofNat (b.toNat % 16) :: UInt8.ofNat (b.toNat / 16) :: halvesL bs from rfl]
    cases j with
    | zero => exact ⟨rfl, rfl⟩
    | succ j =>
      obtain ⟨h0, h1⟩ := ih j (by simpa using hj)
      rw [show 2 * (j + 1) = 2 * j + 1 + 1 from by omega]
      simp only [List.getElem?_cons_succ, List.getElem_cons_succ]
      exact ⟨h0, h1⟩
theorem halves_split (bs : List UInt8) (j p : Nat) (hj : j < bs.length) (hp : p = 0 ∨ p = 1) : ∃ post, halvesL bs = (halvesL bs).take (2 * j + p) ++ UInt8.ofNat (bs[j].toNat / 16 ^ p % 16) :: post := by
  have hl := halvesL_len bs
  obtain ⟨h0, h1⟩ := halvesL_at bs j hj
  have hlt : 2 * j + p < (halvesL bs).length := by omega
  have hb := bs[j].toNat_lt
  have he : (halvesL bs)[2 * j + p] = UInt8.ofNat (bs[j].toNat / 16 ^ p % 16) := by
    rcases hp with rfl | rfl
    · obtain ⟨_, e⟩ := List.getElem?_eq_some_iff.1 h0
      simpa using e
    · obtain ⟨_, e⟩ := List.getElem?_eq_some_iff.1 h1
      rw [e]
      congr 1
      omega
  refine ⟨(halvesL bs).drop (2 * j + p + 1), ?_⟩
  rw [← he]
  conv => lhs; rw [← List.take_append_drop (2 * j + p) (halvesL bs), List.drop_eq_getElem_cons hlt]
theorem halves_take (bs : List UInt8) (i : Nat) (d : UInt8) (post : List UInt8) (hi : i ≤ (halvesL bs).length) (h : halvesL bs = (halvesL bs).take i ++ d :: post) : (halvesL bs).take (i + 1) = (halvesL bs).take i ++ [d] := by
  have hl : ((halvesL bs).take i).length = i := by rw [List.length_take]; omega
  conv => lhs; rw [h]
  rw [List.take_append, hl, List.take_of_length_le (by omega), show i + 1 - i = 1 from by omega]
  rfl

theorem jumps_normal {L : List Nat} {J : Nat → Act → World → Prop} {Q : Exit → Act → World → Prop} {a : Act} {w : World} (h : Q .normal a w) : Exit.jumps L J Q .normal a w := h

/-- What holds at the label. -/
def HvR (bs : List UInt8) (A : Option Addr) (c l B N : Nat) (wo : World) (J : List UInt8 → World → Prop) (a : Act) (w : World) : Prop :=
  ∃ (i : Nat) (u4 u5 u6 u7 u8 u9 u10 u11 u12 u13 u14 u15 u16 u17 u18 u19 u20 u21 u22 u23 u24 : Value), (i ≤ 2 * bs.length ∧ Hid (J ((halvesL bs).take i) w) ∧ Hid (Hold wo w) ∧ Boxed w B 23 (.slice A bs.length c) ∧ N ≤ w.heap.size) ∧
    a = ⟨#[.func (.yield l) #[] #[], .pointer (some ⟨B, 0, none⟩), undef, .int .i64 i, u4, u5, u6, u7, u8, u9, u10, u11, u12, u13, u14, u15, u16, u17, u18, u19, u20, u21, u22, u23, u24], []⟩

set_option maxHeartbeats 1000000 in
theorem halves1_seq (wo W0 : World) (v : Value) (bs : List UInt8) (hP : Bs wo v bs) (hlen : bs.length ≤ 1000000) (hE : Hold wo W0) (bz B : Nat) (hbz : wo.heap.size ≤ bz) (hne : B ≠ bz) (hB : Boxed W0 B 23 v) :
    Seq Tryz.prog 118 #[.pointer (some ⟨B, 0, none⟩)] (fun (d : UInt8) av _ => av = #[bv d]) (fun k o => k ≠ bz ∧ o.isCells = true) (fun _ _ => False) (halvesL bs) W0 := by
  intro l J Jx hJ hJx hY h0
  obtain ⟨A, c, rfl, h1, h2⟩ := SlR.open_ hP
  refine (callsIn_wd (ro := none) (n := 9)).1 ?_
  refine callsIn_of_wp Tryz.func118 rfl trivial ?_ rfl
  simp only [Tryz.ntmps118, List.size_toArray, List.length_cons, List.length_nil, Nat.reduceAdd, Nat.reduceSub, Array.replicate_succ, Array.replicate_zero, List.push_toArray, List.append_toArray, List.nil_append, List.cons_append]
  refine wpIn_scope_seq 0 (HvR bs A c l B W0.heap.size wo J) (fun a _ => 2 * bs.length - (intOf (a.tmps.getD 3 undef)).toNat) rfl (fun l' h => by cases l' <;> first | exact absurd rfl h | rfl) ?_ ?_
  · gi_wp2
    exact ⟨0, _, _, _, _, _, _, _, _, _, _, _, _, _, _, _, _, _, _, _, _, _, ⟨by omega, h0, hE, hB, Nat.le_refl _⟩, rfl⟩
  · intro a w hR
    obtain ⟨i, u4, u5, u6, u7, u8, u9, u10, u11, u12, u13, u14, u15, u16, u17, u18, u19, u20, u21, u22, u23, u24, ⟨hi, HJ, HH, hBx, hsz⟩, rfl⟩ := hR
    have c1 := hBx.cell
    by_cases hlt : i < 2 * bs.length
    · obtain ⟨j, p, hij, hp⟩ : ∃ j p, i = 2 * j + p ∧ (p = 0 ∨ p = 1) := ⟨i / 2, i % 2, by omega, by omega⟩
      have hj : j < bs.length := by omega
      obtain ⟨_, b, off, rfl, hc⟩ := Bs.at_ hP (by omega)
      have hcj := HH.out _ _ (hc j hj)
      obtain ⟨post, hpost⟩ := halves_split bs j p hj hp
      have htk := halves_take bs _ _ post (by rw [halvesL_len]; omega) hpost
      rw [← hij] at hpost htk
      have hy := hY _ _ _ hpost _ #[bv (UInt8.ofNat (bs[j].toNat / 16 ^ p % 16))] HJ.out hsz rfl
      have hpre : (halvesL bs).take (i + 1) <+: halvesL bs := List.take_prefix _ _
      have hq := bs[j].toNat_lt
      generalize bs[j].toNat = q at *
      have hi2 : (i : Int) < 2 * (bs.length : Int) := by omega
      have hjl : (j : Int) < (bs.length : Int) := by omega
      have hd : (i : Int) / 2 = (j : Int) := by omega
      have hd2 : i / 2 = j := by omega
      have key : ∀ (o : Oper) (a : Act) (next : Act → World → Prop) (Q : Exit → Act → World → Prop),
          (∀ W' : World, J ((halvesL bs).take (i + 1)) W' → Hold wo W' → Boxed W' B 23 (.slice (some ⟨b, off, none⟩) bs.length c) → W0.heap.size ≤ W'.heap.size → next (a.put o.dst (.bool true)) W') →
          (∀ W' : World, Jx ((halvesL bs).take (i + 1)) W' → next (a.put o.dst (.bool false)) W') →
          o.uponIn (Wd none) 9 Tryz.prog a next Q ((Instr.yield l #[bv (UInt8.ofNat (q / 16 ^ p % 16))]).run Tryz.prog w) := by
        intro o a next Q h1 h2
        refine uponIn_yield hy ?_
        rintro e W' ⟨hk', ⟨rfl, hj⟩ | ⟨rfl, hj⟩⟩
        · refine ⟨true, rfl, h1 W' (by rw [htk]; exact hj) (HH.out.kept hbz hk') (hk'.boxed hBx (.inl ⟨hne, rfl⟩)) (Nat.le_trans hsz hk'.size)⟩
        · refine ⟨false, rfl, h2 W' (by rw [htk]; exact hj)⟩
      have Hkey := Lib.hid key
      have Hij := Lib.hid hij
      have Hpre := Lib.hid hpre
      have Hlt := Lib.hid hlt
      clear hc hY hy key hpost htk hpre hij hB hE h0
      rcases hp with rfl | rfl
      · have ha : bits .and .i64 (i : Int) 1 = 0 := (bits_mask .i64 62 (by decide) wraps_i64 1 (by decide) _ (by omega) (by omega)).trans (by have := Hij.out; omega)
        have hv : bits .and .u8 (q : Int) 15 = ((q % 16 : Nat) : Int) := (bits_mask .u8 8 (by decide) wraps_u8 4 (by decide) _ (by omega) (by omega)).trans (by simp)
        gi_wp2
        have hbv : Value.int .u8 ((q : Int) % 16) = bv (UInt8.ofNat (q / 16 ^ 0 % 16)) := by rw [bv_ofNat]; congr 1; omega
        rw [hbv]
        refine Hkey.out _ _ _ _ ?_ ?_
        · intro W' hj hh hb hs
          have Hj := Lib.hid hj
          have Hh := Lib.hid hh
          clear c1 hcj hj hh hBx
          gi_wp2
          refine wpIn_goto ?_
          try simp only [Exit.then]
          refine jumps_goto (by simp) ⟨?_, ?_⟩
          · rw [show ((i : Int) + 1) = ((i + 1 : Nat) : Int) from rfl]
            exact ⟨i + 1, _, _, _, _, _, _, _, _, _, _, _, _, _, _, _, _, _, _, _, _, _, ⟨by have := Hlt.out; omega, Hj, Hh, hb, hs⟩, rfl⟩
          · have := Hlt.out
            simp [intOf]; omega
        · intro W' hj
          have Hj := Lib.hid hj
          clear c1 hcj hj hBx
          gi_wp2
          refine jumps_normal ?_
          refine bodyPost_end (results_none rfl _ _ _) rfl ?_
          exact ⟨⟨_, rfl⟩, .inr ⟨_, Hpre.out, Hj.out⟩⟩
      · have ha : bits .and .i64 (i : Int) 1 = 1 := (bits_mask .i64 62 (by decide) wraps_i64 1 (by decide) _ (by omega) (by omega)).trans (by have := Hij.out; omega)
        have hv : bits .and .u8 ((q : Int) / 16) 15 = ((q / 16 : Nat) : Int) := (bits_mask .u8 8 (by decide) wraps_u8 4 (by decide) _ (by omega) (by omega)).trans (by omega)
        gi_wp2
        have hbv : Value.int .u8 ((q : Int) / 16) = bv (UInt8.ofNat (q / 16 ^ 1 % 16)) := by rw [bv_ofNat]; congr 1; omega
        rw [hbv]
        refine Hkey.out _ _ _ _ ?_ ?_
        · intro W' hj hh hb hs
          have Hj := Lib.hid hj
          have Hh := Lib.hid hh
          clear c1 hcj hj hh hBx
          gi_wp2
          refine wpIn_goto ?_
          try simp only [Exit.then]
          refine jumps_goto (by simp) ⟨?_, ?_⟩
          · rw [show ((i : Int) + 1) = ((i + 1 : Nat) : Int) from rfl]
            exact ⟨i + 1, _, _, _, _, _, _, _, _, _, _, _, _, _, _, _, _, _, _, _, _, _, ⟨by have := Hlt.out; omega, Hj, Hh, hb, hs⟩, rfl⟩
          · have := Hlt.out
            simp [intOf]; omega
        · intro W' hj
          have Hj := Lib.hid hj
          clear c1 hcj hj hBx
          gi_wp2
          refine jumps_normal ?_
          refine bodyPost_end (results_none rfl _ _ _) rfl ?_
          exact ⟨⟨_, rfl⟩, .inr ⟨_, Hpre.out, Hj.out⟩⟩
    · obtain rfl : i = 2 * bs.length := by omega
      have hall : (halvesL bs).take (2 * bs.length) = halvesL bs := List.take_of_length_le (by rw [halvesL_len]; exact Nat.le_refl _)
      have hjj := HJ.out
      rw [hall] at hjj
      have HJJ := Lib.hid hjj
      clear hjj hall hY h0
      gi_wp2
      refine ⟨fun f h => (by cases h), ?_⟩
      gi_wp2
      refine jumps_normal ?_
      refine bodyPost_end (results_none rfl _ _ _) rfl ?_
      exact ⟨⟨_, rfl⟩, .inl HJJ.out⟩

theorem halves_any (A : Option Addr) (n c : Nat) (w : World) : Calls Tryz.prog 114 #[.slice A n c] w fun e w' => e = .returned (.func (.func 118) #[] #[.pointer (some ⟨w.heap.size, 0, none⟩)]) ∧ w.alloc (.cells #[.slice A n c] 23) = w' := by
  go_enter Tryz.func114, Tryz.ntmps114
  go_wp2
  go_ret
  exact ⟨rfl, rfl⟩

def nextU (T : Tab) (s : Nat) (bs : List UInt8) : Nat := (halvesL bs).foldl (fun a h => stepN T a h.toNat) s
def nextN (T : Tab) (s : Nat) (bs : List UInt8) : Nat := 4294967295 ^^^ nextU T (4294967295 ^^^ s) bs
theorem not_lt_u32 (s : Nat) (h : s < 4294967296) : 4294967295 ^^^ s < 4294967296 := by
  have : 4294967295 ^^^ s < 2 ^ 32 := Nat.xor_lt_two_pow (by omega) (by omega)
  simpa using this
theorem not_u32 (s : Nat) (h : s < 4294967296) : bits .xor .u32 IntKind.u32.max (s : Int) = ((4294967295 ^^^ s : Nat) : Int) := bits_xor_u32 4294967295 s (by decide) h
theorem foldU_lt (hs : List UInt8) (s : Nat) (h : s < 4294967296) : hs.foldl (fun a h => stepN T a h.toNat) s < 4294967296 := by
  induction hs generalizing s with
  | nil => exact h
  | cons x hs ih => exact ih _ (stepN_lt _ h)
def NxI (T : Tab) (w : World) (s0 : Nat) (pre : List UInt8) (X : World) : Prop := Boxed X w.heap.size 100 (.int .u32 ((pre.foldl (fun a h => stepN T a h.toNat) s0 : Nat) : Int)) ∧ Below w.heap.size w X

set_option maxHeartbeats 1000000 in
theorem crcNext_any (s : Nat) (hs : s < 4294967296) (v : Value) (bs : List UInt8) (w : World) (h : Bs w v bs) (hlen : bs.length ≤ 1000000) (hT : TabW T w) :
    Calls Tryz.prog 110 #[.int .u32 s, v] w fun e w' => e = .returned (.int .u32 (nextN T s bs)) ∧ Ext w w' := by
  obtain ⟨A, c, rfl, h1, h2⟩ := SlR.open_ h
  have HP := Lib.hid h
  have HT := Lib.hid hT
  clear h hT
  have hn := not_u32 s hs
  have hnl := not_lt_u32 s hs
  unfold nextN nextU
  generalize 4294967295 ^^^ s = s0 at *
  refine (callsIn_wd (ro := none) (n := 9)).1 ?_
  refine callsIn_of_wp_marks Tryz.func110 rfl trivial ?_ rfl
  simp only [Tryz.ntmps110, List.size_toArray, List.length_cons, List.length_nil, Nat.reduceAdd, Nat.reduceSub, Array.replicate_succ, Array.replicate_zero, List.push_toArray, List.append_toArray, List.nil_append, List.cons_append]
  gi_wp2_with (refine ⟨trivial, ?_⟩; gi_at_call 114; refine (callsIn_wd.2 (halves_any _ _ _ _)).mono ?_; rintro e w' ⟨rfl, rfl⟩)
  clear hn
  have q2 : Boxed ((w.alloc (.cells #[.int .u32 s0] 100)).alloc (.cells #[.slice A bs.length c] 23)) (w.heap.size + 1) 23 (.slice A bs.length c) := by
    have := Boxed.new (w.alloc (.cells #[.int .u32 s0] 100)) 23 (.slice A bs.length c)
    rwa [World.size_alloc] at this
  have hE2 : Ext w ((w.alloc (.cells #[.int .u32 s0] 100)).alloc (.cells #[.slice A bs.length c] 23)) := Ext.alloc (Ext.alloc (Ext.refl _) _) _
  have h0 : NxI T w s0 [] ((w.alloc (.cells #[.int .u32 s0] 100)).alloc (.cells #[.slice A bs.length c] 23)) := ⟨(Boxed.new w _ _).alloc _, hE2⟩
  have hs2 : ((w.alloc (.cells #[.int .u32 s0] 100)).alloc (.cells #[.slice A bs.length c] 23)).heap.size = w.heap.size + 2 := by simp
  generalize (w.alloc (.cells #[.int .u32 s0] 100)).alloc (.cells #[.slice A bs.length c] 23) = w2 at *
  refine wp_range (a := ⟨_, _⟩) rfl (enters_of Tryz.func118 (by kernel_rfl) rfl)
    (fun W1 hb _ => halves1_seq w W1 _ bs HP.out hlen (fun p u hc => Ext.cell (Ext.trans hE2 hb) hc) w.heap.size (w.heap.size + 1) (Nat.le_refl _) (by omega) (q2.kept (row := none) (Ext.grown hb none) (by simp)))
    (fun k o h => h.elim) (fun k o h => h.2) (fun x av W h => by rw [h]; rfl)
    (NxI T w s0) (fun _ _ _ => False) ?hI (fun _ _ _ _ h _ => h) h0
    (fun x a' _ => a' = ⟨#[.int .u32 s, .slice A bs.length c, .pointer (some ⟨w.heap.size, 0, none⟩), undef, .int .u32 0, .int .u8 x.toNat, .int .u32 s, .int .u32 s0, .slice A bs.length c, .func (.func 118) #[] #[.pointer (some ⟨w.heap.size + 1, 0, none⟩)], .int .u8 x.toNat, undef, undef, undef, undef, undef], []⟩)
    (fun _ _ _ _ h _ => h) ?assign ?body ?done ?stop
  case hI =>
    rintro s X Y ⟨hv, hB⟩ hm
    refine ⟨hm.boxed hv ?_, hm.belowOf hB ?_ (Nat.le_refl _)⟩
    · rintro (h | h)
      · exact h
      · cases h.2
    · rintro k o hk (h | h)
      · exact h
      · have := h.1; omega
  case assign =>
    rintro l pre x post W av K' hx hi hsz rfl hK
    simp only [bv]
    gi_wp2
    exact hK _ _ Kept.refl hi rfl
  case body =>
    rintro l pre x post a' W hx hl hr ⟨hv, hB⟩ hsz rfl
    have hc := hv.cell
    have hf := hv.frozen
    have hpl := foldU_lt (T := T) pre s0 hnl
    have hB' := Lib.hid hB
    have hfd : (pre ++ [x]).foldl (fun a h => stepN T a h.toNat) s0 = stepN T (pre.foldl (fun a h => stepN T a h.toNat) s0) x.toNat := by rw [List.foldl_append]; rfl
    have Hfd := Lib.hid hfd
    have hTW : TabW T W := HT.out.ext hB
    have HTW := Lib.hid hTW
    clear hfd hTW
    generalize pre.foldl (fun a h => stepN T a h.toNat) s0 = sm at *
    gi_wp2_with (refine ⟨trivial, ?_⟩; gi_at_call 115; refine (callsIn_wd.2 (Step_any sm x.toNat hpl x.toNat_lt W HTW.out)).mono ?_; rintro e w' ⟨rfl, rfl⟩)
    refine ⟨Kept.refl.setCell (fun o ho hc => ?_) _, by show Boxed _ _ _ _; rw [Hfd.out]; exact hv.set _, hB.setCell (p := ⟨w.heap.size, 0, none⟩) (Nat.le_refl _) _⟩
    rintro (h | h)
    · exact h.1 rfl
    · rw [hc] at h; cases h.2
  case done =>
    rintro D W hD ⟨hv, hB⟩ hK
    have hc := hv.cell
    have hpl := foldU_lt (T := T) (halvesL bs) s0 hnl
    obtain ⟨sm, hsm⟩ : ∃ sm, (halvesL bs).foldl (fun a h => stepN T a h.toNat) s0 = sm := ⟨_, rfl⟩
    rw [hsm] at hpl hc
    have Hsm := Lib.hid hsm
    have hn2 := not_u32 sm hpl
    clear hsm hv
    gi_wp2
    refine ret_mark hK (.int .u32 ((4294967295 ^^^ sm : Nat) : Int)) (by simp [results, Tryz.results110, go_sem]) ?_
    exact ⟨by rw [Hsm.out], below_putObj hB (by omega) _⟩
  case stop =>
    rintro D c pre W _ _ h _
    exact h.elim
end Go.Proofs.YtfjcnpigpkcfgaaGreat

namespace Go.Proofs.YtfjcnpigpkcfgaaGreat
open Go.RowKit Go.Mv

set_option maxHeartbeats 400000 in
theorem refShort_bad (v : Value) (l : List Int) (w : World) (h : Is w v l) (hn : allNum l = false) : Calls Tryz.prog 49 #[v] w (ShortBad w) := by
  go_enter Tryz.func49, Tryz.ntmps49
  go_wp2_with (go_at_call 53; refine (refIs_any _ _ _ h).mono ?_; rintro e w' ⟨rfl, rfl⟩)
  go_ret2
  exact ⟨rfl, Ext.refl _⟩

set_option maxRecDepth 100000 in
set_option maxHeartbeats 1000000 in
theorem refShort_ok (v : Value) (l : List Int) (w : World) (h : Is w v l) (hn : allNum l = true) (hl : l.length ≤ 1000000) : Calls Tryz.prog 49 #[v] w (ShortOk w l) := by
  obtain ⟨A, c, rfl, h1, h2⟩ := SlR.open_ h
  obtain ⟨i0, hi, hz0, hz1, hz2⟩ := info_parts info_u8
  have Hn := Lib.hid hn
  go_enter Tryz.func49, Tryz.ntmps49
  go_wp2_with (go_at_call 53; refine (refIs_any _ _ _ h).mono ?_; rintro e w' ⟨rfl, rfl⟩)
  clear hn
  go_loopw [4, 5] (fun vb i wr => ∃ k : Nat, k ≤ l.length ∧ i = .int .i64 k ∧ wr.ownsRow w.heap.size 5 1 vb (shorts (l.take k)).length ((shorts (l.take k)).map bv) ∧ Ext w wr) (fun _ i _ => l.length - (intOf i).toNat)
  case atStart => exact ⟨0, Nat.zero_le _, rfl, World.ownsRow_nil _ _ _ _, Ext.refl _⟩
  case round =>
    obtain ⟨k, hk, rfl, hown, hB⟩ := hrel
    by_cases hlt : k < l.length
    · obtain ⟨_, b, off, rfl, hc⟩ := Is.at_ (h.ext hB) (by omega)
      have hc0 := hc k hlt
      clear hc
      obtain ⟨hn0, hn1⟩ := num_of_all Hn.out hlt
      obtain ⟨N, hN⟩ := Int.eq_ofNat_of_zero_le hn0
      rw [hN] at hc0 hn1
      have HN := Lib.hid hN
      clear hN hn0
      have hsl := shorts_len (l.take k)
      have htl : (l.take k).length ≤ k := List.length_take_le _ _
      have hbl : b < wr.heap.size := World.block_lt_of_cell? wr _ hc0
      have hs1 : short1 N = hiB 5 (N / 128) ++ [UInt8.ofNat (N % 128)] := short1_eq N (by omega)
      have Hs1 := Lib.hid hs1
      clear hs1
      go_wp2_with fail
      obtain ⟨wo, rfl⟩ : ∃ wo : World, wo = wr := ⟨_, rfl⟩
      go_loopw [6, 7] (fun ds m wr2 => ∃ (f mm : Nat) (suf : List UInt8), mm < 128 ^ f ∧ f ≤ 5 ∧ mm ≤ 1073741824 ∧ m = .int .i64 mm ∧ suf.length + f = 6 ∧ Hid (short1 N = hiB f mm ++ suf) ∧ wr2.ownsRow wo.heap.size 5 1 ds suf.length (suf.map bv) ∧ Ext wo wr2) (fun _ m _ => (intOf m).toNat)
      case atStart =>
        refine ⟨5, N / 128, [UInt8.ofNat (N % 128)], by omega, by omega, by omega, by simp, rfl, Hs1.out, ?_, (Ext.refl _).alloc _⟩
        have h := own_new wo [.int .u8 ((N : Int) % 128)] 5 1 rfl (by simp [maxLen]) (Nat.le_refl _)
        have hm : List.map bv [UInt8.ofNat (N % 128)] = [.int .u8 ((N : Int) % 128)] := by simp [bv]; omega
        rw [hm]; exact h
      case round =>
        obtain ⟨f, mm, suf, hmf, hf5, hmb, rfl, hsf, Hd, hds, hB2⟩ := hrel
        obtain ⟨g, cap, rfl, hbg, hle1, hle2⟩ := ownsRow_pos hds (by omega)
        by_cases hmm : mm = 0
        · subst hmm
          rw [hiB_zero, List.nil_append] at Hd
          go_wp2_with (at_builtin; refine wpList_append_own _ rfl (.tmp 40) (.tmp 41) 23 rfl w.heap.size 5 i0 (.int .u8 0) 1 1 Tryz.underlying23 hi hz0 hz1 hz2 rfl (by decide) _ _ _ rfl (own_ext hown hB2) ⟨g, 0, none⟩ suf.length cap (suf.map bv) rfl (by simp) (hds.cells rfl) (one_bv _) (by simp [maxLen]; omega) (by omega) (by have := hB.size; have := hB2.size; omega) ?_; intro v' w1 hown' hgrow _)
          go_roundw
          case rel =>
            refine ⟨k + 1, by omega, by go_num, ?_, Ext.grownOwn (Ext.trans hB hB2) (own_ext hown hB2) hgrow⟩
            have hN := HN.out
            rw [shorts_take hlt, hN, Int.toNat_natCast, Hd.out]
            simpa using hown'
          case measure => simp [intOf]; omega
        · obtain ⟨f', rfl⟩ : ∃ f', f = f' + 1 := ⟨f - 1, by cases f with | zero => simp at hmf; omega | succ f => omega⟩
          have hd2 : short1 N = hiB f' (mm / 128) ++ (UInt8.ofNat (mm % 128 + 128) :: suf) := by
            have := Hd.out
            rw [hiB, if_neg hmm] at this
            simpa using this
          have Hd2 := Lib.hid hd2
          have hmf' : mm / 128 < 128 ^ f' := by
            rw [Nat.div_lt_iff_lt_mul (by decide)]
            rw [Nat.pow_succ] at hmf; exact hmf
          have Hmf := Lib.hid hmf'
          clear hd2 hmf'
          go_wp2_with (at_builtin; refine wpList_append_own _ rfl (.tmp 37) (.tmp 38) 23 rfl wo.heap.size 5 i0 (.int .u8 0) 1 1 Tryz.underlying23 hi hz0 hz1 hz2 rfl (by decide) (.slice (some ⟨wr.heap.size, 0, none⟩) 1 1) 1 [.int .u8 ((mm : Int) % 128 + 128)] rfl (own_new wr [.int .u8 ((mm : Int) % 128 + 128)] 5 1 rfl (by simp [maxLen]) hB2.size) ⟨g, 0, none⟩ suf.length cap (suf.map bv) rfl (by simp) ((hds.alloc _).cells rfl) (one_bv _) (by simp [maxLen]; omega) (by omega) (by have := hB.size; have := hB2.size; simp; omega) ?_; intro v' w1 hown' hgrow _)
          go_roundw
          case rel =>
            refine ⟨f', mm / 128, UInt8.ofNat (mm % 128 + 128) :: suf, Hmf.out, by omega, by omega, by simp, by simp; omega, Hd2.out, ?_, ?_⟩
            · have e : List.map bv (UInt8.ofNat (mm % 128 + 128) :: suf) = [.int .u8 ((mm : Int) % 128 + 128)] ++ suf.map bv := by simp [bv]; omega
              rw [e]
              simpa [Nat.add_comm] using hown'
            · refine (Below.grown (Ext.alloc hB2 _) hgrow (by have := hB2.size; simp; omega) (fun k ek => ?_))
              have : wr.heap.size = k := by simpa [Value.ownBlock] using ek
              have := hB2.size; omega
          case measure => simp [intOf]; omega
    · have hk' : l.take k = l := List.take_of_length_le (by omega)
      rw [hk'] at hown
      clear hk'
      go_wp2_with fail
      go_ret2
      exact ⟨_, rfl, hown, hB⟩
end Go.Proofs.YtfjcnpigpkcfgaaGreat

namespace Go.Proofs.YtfjcnpigpkcfgaaGreat
open Go.RowKit Go.Mv
/-- An error and bytes. -/
def headS (first : Int) : Int × List UInt8 := if numB first = true ∧ first ≠ 0 then (0, 2 :: shorts [first]) else (2, [])
theorem headS_len (first : Int) : (headS first).2.length ≤ 6 := by
  unfold headS
  split
  · have := shorts_len [first]; simp at *; omega
  · simp
set_option maxRecDepth 100000

theorem parts2 {W : World} {va vb : Value} {a b : List UInt8} (ha : Bs W va a) (hb : Bs W vb b) : Parts (W.alloc (.cells #[va, vb] 23)) (.slice (some ⟨W.heap.size, 0, none⟩) 2 2) [a, b] := by
  refine ⟨[va, vb], rfl, SlR.of_own (own_new W [va, vb] 23 2 rfl (by simp [maxLen]) (Nat.le_refl _)), fun i hi hi' => ?_⟩
  match i, hi with
  | 0, _ => exact Bs.ext ha (Ext.alloc (Ext.refl _) _)
  | 1, _ => exact Bs.ext hb (Ext.alloc (Ext.refl _) _)
theorem parts1 {W : World} {va : Value} {a : List UInt8} (ha : Bs W va a) : Parts (W.alloc (.cells #[va] 23)) (.slice (some ⟨W.heap.size, 0, none⟩) 1 1) [a] := by
  refine ⟨[va], rfl, SlR.of_own (own_new W [va] 23 1 rfl (by simp [maxLen]) (Nat.le_refl _)), fun i hi hi' => ?_⟩
  match i, hi with
  | 0, _ => exact Bs.ext ha (Ext.alloc (Ext.refl _) _)
/-- What a call tells that gives bytes and an error. -/
def ResP (w : World) (r : Int × List UInt8) (e : Ending) (w' : World) : Prop := ∃ v, e = .returned (.tuple #[v, .int .i64 r.1]) ∧ w'.ownsRow w.heap.size 5 1 v r.2.length (r.2.map bv) ∧ Ext w w'

set_option maxHeartbeats 1000000 in
theorem Head_any (first : Int) (w : World) : Calls Tryz.prog 125 #[.int .i64 first] w (ResP w (headS first)) := by
  have hIs : Is (w.alloc (.cells #[.int .i64 first] 3)) (.slice (some ⟨w.heap.size, 0, none⟩) 1 1) [first] := SlR.of_own (own_new w [.int .i64 first] 3 1 rfl (by simp [maxLen]) (Nat.le_refl _))
  by_cases hn : numB first = true
  · have hall : allNum [first] = true := by simp [allNum, hn]
    have hS := Lib.hid (Short_ok _ _ _ hIs hall (by simp))
    by_cases h0 : first = 0
    · have hh : headS first = (2, []) := by unfold headS; rw [if_neg (fun h => h.2 h0)]
      unfold ResP
      rw [hh]
      subst h0
      clear hh hall hIs hn
      go_enter Tryz.func125, Tryz.ntmps125
      go_wp2_with (go_at_call 132; refine hS.out.mono ?_; rintro e w1 ⟨v1, rfl, ho1, hE1⟩)
      go_ret2
      exact ⟨_, rfl, World.ownsRow_nil _ _ _ _, Ext.trans (Ext.alloc (Ext.refl _) _) hE1⟩
    · have hh : headS first = (0, 2 :: shorts [first]) := by unfold headS; rw [if_pos ⟨hn, h0⟩]
      have hl := shorts_len [first]
      unfold ResP
      rw [hh]
      have e0 : (first == 0) = false := by simpa using h0
      obtain ⟨bs, hbs⟩ : ∃ bs, shorts [first] = bs := ⟨_, rfl⟩
      rw [hbs] at hl ⊢
      have Hbs := Lib.hid hbs
      clear hbs
      clear hh hall hIs hn h0
      go_enter Tryz.func125, Tryz.ntmps125
      go_wp2_with (first
        | (go_at_call 132; refine hS.out.mono ?_; rintro e w1 ⟨v1, rfl, ho1, hE1⟩; rw [Hbs.out] at ho1; obtain ⟨A, c, rfl, _, _⟩ := SlR.open_ (SlR.of_own ho1))
        | (go_at_call 133
           have h2 : Bs (w1.alloc (.cells #[.int .u8 2] 5)) (.slice (some ⟨w1.heap.size, 0, none⟩) 1 1) [2] := SlR.of_own (own_new w1 [.int .u8 2] 5 1 rfl (by simp [maxLen]) (Nat.le_refl _))
           have h3 : Bs w1 (.slice A bs.length c) bs := SlR.of_own ho1
           have h4 : Bs (w1.alloc (.cells #[.int .u8 2] 5)) (.slice A bs.length c) bs := Bs.ext h3 (Ext.alloc (Ext.refl _) _)
           have h5 := parts2 h2 h4
           rw [World.size_alloc] at h5
           have h6 : [[2], bs].flatten.length ≤ 70368744177664 := by simp; simp at hl; omega
           refine (Concat_any _ _ _ h5 h6).mono ?_
           rintro e w2 ⟨v2, rfl, ho2, hE2⟩))
      go_ret2
      have hE3 : Ext w w2 := Ext.trans (Ext.alloc (Ext.alloc (Ext.trans (Ext.alloc (Ext.refl _) _) hE1) _) _) hE2
      refine ⟨_, rfl, ?_, hE3⟩
      have hb : w.heap.size ≤ ((w1.alloc (.cells #[.int .u8 2] 5)).alloc (.cells #[.slice (some ⟨w1.heap.size, 0, none⟩) 1 1, .slice A bs.length c] 23)).heap.size := by have := hE1.size; simp at *; omega
      simpa using own_base ho2 hb
  · have hall : allNum [first] = false := by simp [allNum, hn]
    have hS := Lib.hid (Short_bad _ _ _ hIs hall)
    have hh : headS first = (2, []) := by unfold headS; rw [if_neg (fun h => hn h.1)]
    unfold ResP
    rw [hh]
    clear hh hall hIs hn
    go_enter Tryz.func125, Tryz.ntmps125
    go_wp2_with (go_at_call 132; refine hS.out.mono ?_; rintro e w1 ⟨rfl, hE1⟩)
    go_ret2
    exact ⟨_, rfl, World.ownsRow_nil _ _ _ _, Ext.trans (Ext.alloc (Ext.refl _) _) hE1⟩
end Go.Proofs.YtfjcnpigpkcfgaaGreat
