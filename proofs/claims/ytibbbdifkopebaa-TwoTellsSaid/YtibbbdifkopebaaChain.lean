/-
  The walk of gauss.bytes' iterator.
  The walk of gauss.Chain.
-/
import Derived.Test.YtibbbdifkopebaaRefChain
set_option linter.all false
namespace Go.Proofs.Ytibbbdifkopebaa
open Go.RowKit Go.Mv Go.Shelf
attribute [local go_sem] Oper.semAt_some
set_option maxRecDepth 100000

theorem split_at_ {α : Type} (l : List α) (m : Nat) (h : m < l.length) (R : List α) : l ++ R = l.take m ++ l[m] :: (l.drop (m + 1) ++ R) := by
  have e := List.take_append_drop m l
  rw [List.drop_eq_getElem_cons h] at e
  calc l ++ R = (l.take m ++ l[m] :: l.drop (m + 1)) ++ R := by rw [e]
    _ = _ := by rw [List.append_assoc, List.cons_append]
/-- What lay in wo lies in W. -/
def Hold (wo W : World) : Prop := ∀ p u, wo.cell? p = some u → W.cell? p = some u
theorem Hold.kept {wo W W' : World} {bz n : Nat} (h : Hold wo W) (hbz : wo.heap.size ≤ bz) (hk : Kept (orOther (fun k o => k ≠ bz ∧ o.isCells = true) n) W W') : Hold wo W' := by
  intro p u hp
  have hlt := World.block_lt_of_cell? wo p hp
  obtain ⟨o, ho, hc⟩ := cells_of_cell (h p u hp)
  exact hk.cell (h p u hp) (fun o' ho' => by rw [ho] at ho'; cases ho'; exact .inl ⟨by omega, hc⟩)

set_option maxHeartbeats 1000000 in
theorem bytes1_seq (wo W0 : World) (vp : Value) (bss : List (List UInt8)) (hP : Parts wo vp bss) (hE : Hold wo W0) (bz B : Nat) (hbz : wo.heap.size ≤ bz) (hB : Boxed W0 B 74 vp) :
    Seq Try.prog 67 #[.pointer (some ⟨B, 0, none⟩)]
      (fun (d : UInt8) av _ => av = #[bv d]) (fun k o => k ≠ bz ∧ o.isCells = true) (fun _ _ => False) bss.flatten W0 := by
  intro l J Jx hJ hJx hY h0
  obtain ⟨vs, hvl, hsl, hvs⟩ := hP
  obtain ⟨A, c, rfl, h1, h2⟩ := SlR.open_ hsl
  have hv1 : vs.length ≤ bss.length := by omega
  have hv2 : bss.length ≤ vs.length := by omega
  have hc1 := hB.cell
  clear hvl hB
  refine (callsIn_wd (ro := none) (n := 9)).1 ?_
  refine callsIn_of_wp Try.func67 rfl trivial ?_ rfl
  simp only [Try.ntmps67, List.size_toArray, List.length_cons, List.length_nil, Nat.reduceAdd, Nat.reduceSub, Array.replicate_succ, Array.replicate_zero, List.push_toArray, List.append_toArray, List.nil_append, List.cons_append]
  gi_wp2
  gi_loopw [9] (fun j W => ∃ k : Nat, k ≤ bss.length ∧ j = .int .i64 k ∧ Hid (J (bss.take k).flatten W) ∧ Hid (Hold wo W) ∧ W0.heap.size ≤ W.heap.size) (fun j _ => bss.length - (intOf j).toNat)
  case atStart => exact ⟨0, Nat.zero_le _, rfl, h0, hE, Nat.le_refl _⟩
  case round =>
    obtain ⟨k, hk, rfl, HJ, HH, hsz⟩ := hrel
    by_cases hlt : k < bss.length
    · obtain ⟨_, ba, off, rfl, hc⟩ := SlR.at_ hsl (by omega)
      have hkv : k < vs.length := by omega
      have hck := hc k vs[k] (List.getElem?_eq_getElem hkv)
      have hbk := hvs k hkv hlt
      obtain ⟨A', c', hvk, h3, h4⟩ := SlR.open_ hbk
      rw [hvk] at hck hbk
      have hck' := HH.out _ _ hck
      have hft := flat_take bss k hlt
      have hfa : bss.flatten = (bss.take k).flatten ++ (bss[k] ++ (bss.drop (k + 1)).flatten) := by
        conv => lhs; rw [← List.take_append_drop (k + 1) bss, List.flatten_append, hft, List.append_assoc]
      have Hft := Lib.hid hft
      have Hfa := Lib.hid hfa
      generalize bss[k] = bk at *
      clear hc hvk hft hfa hck
      gi_wp2
      gi_loopw [15] (fun j W => ∃ m : Nat, m ≤ bk.length ∧ j = .int .i64 m ∧ Hid (J ((bss.take k).flatten ++ bk.take m) W) ∧ Hid (Hold wo W) ∧ W0.heap.size ≤ W.heap.size) (fun j _ => bk.length - (intOf j).toNat)
      case atStart => exact ⟨0, Nat.zero_le _, rfl, by show J _ _; rw [List.take_zero, List.append_nil]; exact HJ.out, HH, hsz⟩
      case round =>
        obtain ⟨m, hm, rfl, HQ, HH2, hsz2⟩ := hrel
        by_cases hlt2 : m < bk.length
        · obtain ⟨_, b2, off2, e2, hc2⟩ := Bs.at_ hbk (by omega)
          cases e2
          have hcm := HH2.out _ _ (hc2 m hlt2)
          have htk : bk.take (m + 1) = bk.take m ++ [bk[m]] := List.take_succ_eq_append_getElem hlt2
          have hfin : bss.flatten = ((bss.take k).flatten ++ bk.take m) ++ bk[m] :: (bk.drop (m + 1) ++ (bss.drop (k + 1)).flatten) := by
            rw [Hfa.out, split_at_ bk m hlt2, List.append_assoc]
          have hy := hY _ _ _ hfin _ #[bv bk[m]] HQ.out hsz2 rfl
          have Htk := Lib.hid htk
          have Hfin := Lib.hid hfin
          generalize bk[m] = bm at *
          have key : ∀ (o : Oper) (a : Act) (next : Act → World → Prop) (Q : Exit → Act → World → Prop) (W : World),
              Mv.YieldsAt Try.prog l #[bv bm] W (fun e W' => Kept (orOther (fun k o => k ≠ bz ∧ o.isCells = true) W0.heap.size) W W' ∧ ((e = .returned (.bool true) ∧ J ((bss.take k).flatten ++ bk.take m ++ [bm]) W') ∨ (e = .returned (.bool false) ∧ Jx ((bss.take k).flatten ++ bk.take m ++ [bm]) W'))) → Hold wo W → W0.heap.size ≤ W.heap.size →
              (∀ W' : World, J ((bss.take k).flatten ++ bk.take (m + 1)) W' → Hold wo W' → W0.heap.size ≤ W'.heap.size → next (a.put o.dst (.bool true)) W') →
              (∀ W' : World, Jx ((bss.take k).flatten ++ bk.take (m + 1)) W' → next (a.put o.dst (.bool false)) W') →
              o.uponIn (Wd none) 9 Try.prog a next Q ((Instr.yield l #[bv bm]).run Try.prog W) := by
            intro o a next Q W hy hho hs h1 h2
            refine uponIn_yield hy ?_
            rintro e W' ⟨hk', ⟨rfl, hj⟩ | ⟨rfl, hj⟩⟩
            · refine ⟨true, rfl, h1 W' ?_ (hho.kept hbz hk') (Nat.le_trans hs hk'.size)⟩
              rw [Htk.out, ← List.append_assoc]; exact hj
            · refine ⟨false, rfl, h2 W' ?_⟩
              rw [Htk.out, ← List.append_assoc]; exact hj
          have Hkey := Lib.hid key
          have Hy := Lib.hid hy
          have hpre : (bss.take k).flatten ++ bk.take (m + 1) <+: bss.flatten := by
            rw [Hfin.out, Htk.out]; exact ⟨bk.drop (m + 1) ++ (bss.drop (k + 1)).flatten, by simp⟩
          have Hpre := Lib.hid hpre
          clear hc2 htk hfin key hy hY hpre
          gi_wp2
          refine Hkey.out _ _ _ _ _ Hy.out HH2.out hsz2 ?_ ?_
          · intro W' hj hho hs
            have Hj := Lib.hid hj
            have Hh := Lib.hid hho
            clear hj hho hcm hck' hc1
            gi_wp2
            exact ⟨⟨m + 1, by omega, by go_num, Hj, Hh, hs⟩, by simp [intOf]; omega⟩
          · intro W' hj
            have Hj := Lib.hid hj
            clear hj hcm hck' hc1
            gi_wp2
            refine bodyPost_ret (results_none rfl _ _ _) rfl ?_
            exact ⟨⟨_, rfl⟩, .inr ⟨_, Hpre.out, Hj.out⟩⟩
        · have hq := HQ.out
          rw [List.take_of_length_le (show bk.length ≤ m from by omega), ← Hft.out] at hq
          have HQ' := Lib.hid hq
          clear hq
          gi_wp2
          exact ⟨⟨k + 1, by omega, by go_num, HQ', HH2, hsz2⟩, by simp [intOf]; omega⟩
    · have hj := HJ.out
      rw [List.take_of_length_le (show bss.length ≤ k from by omega)] at hj
      have HJ' := Lib.hid hj
      clear hj
      gi_wp2
      refine bodyPost_end (results_none rfl _ _ _) rfl ?_
      exact ⟨⟨_, rfl⟩, .inl HJ'.out⟩
end Go.Proofs.Ytibbbdifkopebaa

namespace Go.Proofs.Ytibbbdifkopebaa
open Go.RowKit Go.Mv Go.Shelf
attribute [local go_sem] Oper.semAt_some
set_option maxRecDepth 100000

theorem run_store_c128 (P : Program) (w : World) (a : Addr) (m : Mode) (x y : Nat) : (store a (.complex .f64 x y) m).run P w = stored P w a (.complex .f64 x y) m := run_store P w a _ m rfl
attribute [local go_sem] run_store_c128

theorem gbytes_any (A : Option Addr) (n c : Nat) (w : World) : Calls Try.prog 50 #[.slice A n c] w fun e w' => e = .returned (.func (.func 67) #[] #[.pointer (some ⟨w.heap.size, 0, none⟩)]) ∧ w.alloc (.cells #[.slice A n c] 74) = w' := by
  go_enter Try.func50, Try.ntmps50
  go_wp2
  go_ret
  exact ⟨rfl, rfl⟩

def ChainE (v : Value) (bs : List UInt8) (w : World) (e : Ending) (w' : World) : Prop := ∃ v', e = .returned v' ∧ PtV v' (chainP (ptV v) bs) ∧ Ext w w'
def ChI (w : World) (p0 : Nat × Nat) (pre : List UInt8) (X : World) : Prop := ∃ v, Boxed X w.heap.size 30 v ∧ PtV v (chainP p0 pre) ∧ Below w.heap.size w X

set_option maxHeartbeats 1000000 in
theorem Chain_any (a b : Nat) (vp : Value) (bss : List (List UInt8)) (w : World) (h : Parts w vp bss) :
    Calls Try.prog 30 #[.complex .f64 a b, vp] w (ChainE (.complex .f64 a b) bss.flatten w) := by
  obtain ⟨A, c, rfl, h1, h2⟩ : ∃ A c, vp = .slice A bss.length c ∧ bss.length ≤ c ∧ c ≤ 9223372036854775807 := by obtain ⟨vs, _, hs, _⟩ := h; exact SlR.open_ hs
  have hG := Lib.hid (fun w => Right_c a b w)
  have HP := Lib.hid h
  clear h
  cases hok : ((ptOf a).isSome && (ptOf b).isSome)
  · rw [hok] at hG
    have hz : PtV (.complex .f64 0 0) (ptV (.complex .f64 a b)) := by rw [ptV_not hok]; exact PtV.zero
    unfold ChainE
    generalize ptV (.complex .f64 a b) = p0 at *
    have Hz := Lib.hid hz
    clear hok hz
    refine (callsIn_wd (ro := none) (n := 9)).1 ?_
    refine callsIn_of_wp_marks Try.func30 rfl trivial ?_ rfl
    simp only [Try.ntmps30, List.size_toArray, List.length_cons, List.length_nil, Nat.reduceAdd, Nat.reduceSub, Array.replicate_succ, Array.replicate_zero, List.push_toArray, List.append_toArray, List.nil_append, List.cons_append]
    gi_wp2_with (first
      | (refine ⟨trivial, ?_⟩; gi_at_call 49; refine (callsIn_wd.2 (hG.out _)).mono ?_; rintro e w' ⟨rfl, rfl⟩)
      | (refine ⟨trivial, ?_⟩; gi_at_call 50; refine (callsIn_wd.2 (gbytes_any _ _ _ _)).mono ?_; rintro e w' ⟨rfl, rfl⟩))
    have q2 : Boxed ((w.alloc (.cells #[.complex .f64 0 0] 30)).alloc (.cells #[.slice A bss.length c] 74)) (w.heap.size + 1) 74 (.slice A bss.length c) := by
      have := Boxed.new (w.alloc (.cells #[.complex .f64 0 0] 30)) 74 (.slice A bss.length c)
      rwa [World.size_alloc] at this
    have hE2 : Ext w ((w.alloc (.cells #[.complex .f64 0 0] 30)).alloc (.cells #[.slice A bss.length c] 74)) := Ext.alloc (Ext.alloc (Ext.refl _) _) _
    have h0 : ChI w p0 [] ((w.alloc (.cells #[.complex .f64 0 0] 30)).alloc (.cells #[.slice A bss.length c] 74)) := ⟨_, (Boxed.new w _ _).alloc _, Hz.out, hE2⟩
    have hs2 : ((w.alloc (.cells #[.complex .f64 0 0] 30)).alloc (.cells #[.slice A bss.length c] 74)).heap.size = w.heap.size + 2 := by simp
    generalize (w.alloc (.cells #[.complex .f64 0 0] 30)).alloc (.cells #[.slice A bss.length c] 74) = w2 at *
    refine wp_range (a := ⟨_, _⟩) rfl (enters_of Try.func67 (by kernel_rfl) rfl)
      (fun W1 hb _ => bytes1_seq w W1 _ bss HP.out (fun p u hc => Ext.cell (Ext.trans hE2 hb) hc) w.heap.size (w.heap.size + 1) (Nat.le_refl _) (q2.kept (row := none) (Ext.grown hb none) (by simp)))
      (fun k o h => h.elim) (fun k o h => h.2) (fun x av W h => by rw [h]; rfl)
      (ChI w p0) (fun _ _ _ => False) ?hI (fun _ _ _ _ h _ => h) h0
      (fun x a' _ => a' = ⟨#[.complex .f64 a b, .slice A bss.length c, .pointer (some ⟨w.heap.size, 0, none⟩), undef, .complex .f64 0 0, .int .u8 x.toNat, .complex .f64 a b, .bool false, .bool true, .slice A bss.length c, .func (.func 67) #[] #[.pointer (some ⟨w.heap.size + 1, 0, none⟩)], .int .u8 x.toNat, undef, undef, undef, undef], []⟩)
      (fun _ _ _ _ h _ => h) ?assign ?body ?done ?stop
    case hI =>
      rintro s X Y ⟨v, hv, hr, hB⟩ hm
      refine ⟨v, hm.boxed hv ?_, hr, hm.belowOf hB ?_ (Nat.le_refl _)⟩
      · rintro (h | h)
        · exact h
        · cases h.2
      · rintro k o hk (h | h)
        · exact h
        · have := h.1; omega
    case assign =>
      rintro l pre x post W av K' hx hi hsz rfl hK
      simp only [bv]
      gi_wp2
      exact hK _ _ Kept.refl hi rfl
    case body =>
      rintro l pre x post a' W hx hl hr ⟨v, hv, hpt, hB⟩ hsz rfl
      have HPT := Lib.hid hpt
      obtain ⟨va, vb, rfl, _, _⟩ := hpt
      have hc := hv.cell
      have hf := hv.frozen
      gi_wp2_with (refine ⟨trivial, ?_⟩; gi_at_call 51; refine (callsIn_wd.2 (Next_any _ _ HPT.out _ _)).mono ?_; rintro e w' ⟨v', rfl, hv', rfl⟩; have HV := Lib.hid hv'; obtain ⟨c1, c2, rfl, _, _⟩ := hv')
      refine ⟨Kept.refl.setCell (fun o ho hc => ?_) _, _, hv.set _, by rw [chainP_snoc]; exact HV.out, hB.setCell (p := ⟨w.heap.size, 0, none⟩) (Nat.le_refl _) _⟩
      rintro (h | h)
      · exact h.1 rfl
      · rw [hc] at h; cases h.2
    case done =>
      rintro D W hD ⟨v, hv, hpt, hB⟩ hK
      have HPT := Lib.hid hpt
      obtain ⟨va, vb, rfl, _, _⟩ := hpt
      have hc := hv.cell
      gi_wp2
      refine ret_mark hK _ (results_tmp rfl _ _ _) ?_
      exact ⟨_, rfl, HPT.out, below_putObj hB (by omega) _⟩
    case stop =>
      rintro D c pre W _ _ h _
      exact h.elim
  · rw [hok] at hG
    have hz : PtV (.complex .f64 a b) (ptV (.complex .f64 a b)) := ptV_right hok
    unfold ChainE
    generalize ptV (.complex .f64 a b) = p0 at *
    have Hz := Lib.hid hz
    clear hok hz
    refine (callsIn_wd (ro := none) (n := 9)).1 ?_
    refine callsIn_of_wp_marks Try.func30 rfl trivial ?_ rfl
    simp only [Try.ntmps30, List.size_toArray, List.length_cons, List.length_nil, Nat.reduceAdd, Nat.reduceSub, Array.replicate_succ, Array.replicate_zero, List.push_toArray, List.append_toArray, List.nil_append, List.cons_append]
    gi_wp2_with (first
      | (refine ⟨trivial, ?_⟩; gi_at_call 49; refine (callsIn_wd.2 (hG.out _)).mono ?_; rintro e w' ⟨rfl, rfl⟩)
      | (refine ⟨trivial, ?_⟩; gi_at_call 50; refine (callsIn_wd.2 (gbytes_any _ _ _ _)).mono ?_; rintro e w' ⟨rfl, rfl⟩))
    have q2 : Boxed ((w.alloc (.cells #[.complex .f64 a b] 30)).alloc (.cells #[.slice A bss.length c] 74)) (w.heap.size + 1) 74 (.slice A bss.length c) := by
      have := Boxed.new (w.alloc (.cells #[.complex .f64 a b] 30)) 74 (.slice A bss.length c)
      rwa [World.size_alloc] at this
    have hE2 : Ext w ((w.alloc (.cells #[.complex .f64 a b] 30)).alloc (.cells #[.slice A bss.length c] 74)) := Ext.alloc (Ext.alloc (Ext.refl _) _) _
    have h0 : ChI w p0 [] ((w.alloc (.cells #[.complex .f64 a b] 30)).alloc (.cells #[.slice A bss.length c] 74)) := ⟨_, (Boxed.new w _ _).alloc _, Hz.out, hE2⟩
    have hs2 : ((w.alloc (.cells #[.complex .f64 a b] 30)).alloc (.cells #[.slice A bss.length c] 74)).heap.size = w.heap.size + 2 := by simp
    generalize (w.alloc (.cells #[.complex .f64 a b] 30)).alloc (.cells #[.slice A bss.length c] 74) = w2 at *
    refine wp_range (a := ⟨_, _⟩) rfl (enters_of Try.func67 (by kernel_rfl) rfl)
      (fun W1 hb _ => bytes1_seq w W1 _ bss HP.out (fun p u hc => Ext.cell (Ext.trans hE2 hb) hc) w.heap.size (w.heap.size + 1) (Nat.le_refl _) (q2.kept (row := none) (Ext.grown hb none) (by simp)))
      (fun k o h => h.elim) (fun k o h => h.2) (fun x av W h => by rw [h]; rfl)
      (ChI w p0) (fun _ _ _ => False) ?hI (fun _ _ _ _ h _ => h) h0
      (fun x a' _ => a' = ⟨#[.complex .f64 a b, .slice A bss.length c, .pointer (some ⟨w.heap.size, 0, none⟩), undef, .complex .f64 0 0, .int .u8 x.toNat, .complex .f64 a b, .bool true, .bool false, .slice A bss.length c, .func (.func 67) #[] #[.pointer (some ⟨w.heap.size + 1, 0, none⟩)], .int .u8 x.toNat, undef, undef, undef, undef], []⟩)
      (fun _ _ _ _ h _ => h) ?assign ?body ?done ?stop
    case hI =>
      rintro s X Y ⟨v, hv, hr, hB⟩ hm
      refine ⟨v, hm.boxed hv ?_, hr, hm.belowOf hB ?_ (Nat.le_refl _)⟩
      · rintro (h | h)
        · exact h
        · cases h.2
      · rintro k o hk (h | h)
        · exact h
        · have := h.1; omega
    case assign =>
      rintro l pre x post W av K' hx hi hsz rfl hK
      simp only [bv]
      gi_wp2
      exact hK _ _ Kept.refl hi rfl
    case body =>
      rintro l pre x post a' W hx hl hr ⟨v, hv, hpt, hB⟩ hsz rfl
      have HPT := Lib.hid hpt
      obtain ⟨va, vb, rfl, _, _⟩ := hpt
      have hc := hv.cell
      have hf := hv.frozen
      gi_wp2_with (refine ⟨trivial, ?_⟩; gi_at_call 51; refine (callsIn_wd.2 (Next_any _ _ HPT.out _ _)).mono ?_; rintro e w' ⟨v', rfl, hv', rfl⟩; have HV := Lib.hid hv'; obtain ⟨c1, c2, rfl, _, _⟩ := hv')
      refine ⟨Kept.refl.setCell (fun o ho hc => ?_) _, _, hv.set _, by rw [chainP_snoc]; exact HV.out, hB.setCell (p := ⟨w.heap.size, 0, none⟩) (Nat.le_refl _) _⟩
      rintro (h | h)
      · exact h.1 rfl
      · rw [hc] at h; cases h.2
    case done =>
      rintro D W hD ⟨v, hv, hpt, hB⟩ hK
      have HPT := Lib.hid hpt
      obtain ⟨va, vb, rfl, _, _⟩ := hpt
      have hc := hv.cell
      gi_wp2
      refine ret_mark hK _ (results_tmp rfl _ _ _) ?_
      exact ⟨_, rfl, HPT.out, below_putObj hB (by omega) _⟩
    case stop =>
      rintro D c pre W _ _ h _
      exact h.elim
end Go.Proofs.Ytibbbdifkopebaa
