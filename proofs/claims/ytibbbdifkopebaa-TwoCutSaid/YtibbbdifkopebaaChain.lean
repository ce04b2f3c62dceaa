/-
  The walk of gauss.Chain.
-/
import Derived.Test.YtibbbdifkopebaaBytesIt
set_option linter.all false
namespace Go.Proofs.Ytibbbdifkopebaa
open Go.RowKit Go.Mv Go.Shelf
attribute [local go_sem] Oper.semAt_some
set_option maxRecDepth 100000

theorem run_store_c128 (P : Program) (w : World) (a : Addr) (m : Mode) (x y : Nat) : (store a (.complex .f64 x y) m).run P w = stored P w a (.complex .f64 x y) m := run_store P w a _ m rfl
attribute [local go_sem] run_store_c128

theorem gbytes_any (A : Option Addr) (n c : Nat) (w : World) : Calls Try.prog 50 #[.slice A n c] w fun e w' => e = .returned (.func (.func 67) #[] #[.pointer (some ⟨w.heap.size, 0, none⟩)]) ∧ w.alloc (.cells #[.slice A n c] 74) = w' := by
  go_enter Try.func50, Try.ntmps50
  go_wp2
  go_ret
  exact ⟨rfl, rfl⟩

def ChainE (v : Value) (bs : List UInt8) (w : World) (e : Ending) (w' : World) : Prop := ∃ v', e = .returned v' ∧ PtV v' (chainP (ptV v) bs) ∧ Ext w w'
def ChI (w : World) (p0 : Nat × Nat) (pre : List UInt8) (X : World) : Prop := ∃ v, Boxed X w.heap.size 30 v ∧ PtV v (chainP p0 pre) ∧ Below w.heap.size w X

set_option maxHeartbeats 1000000 in
theorem Chain_any (a b : Nat) (vp : Value) (bss : List (List UInt8)) (w : World) (h : Parts w vp bss) :
    Calls Try.prog 30 #[.complex .f64 a b, vp] w (ChainE (.complex .f64 a b) bss.flatten w) := by
  obtain ⟨A, c, rfl, h1, h2⟩ : ∃ A c, vp = .slice A bss.length c ∧ bss.length ≤ c ∧ c ≤ 9223372036854775807 := by obtain ⟨vs, _, hs, _⟩ := h; exact SlR.open_ hs
  have hG := Lib.hid (fun w => Right_c a b w)
  have HP := Lib.hid h
  clear h
  cases hok : ((ptOf a).isSome && (ptOf b).isSome)
  · rw [hok] at hG
    have hz : PtV (.complex .f64 0 0) (ptV (.complex .f64 a b)) := by rw [ptV_not hok]; exact PtV.zero
    unfold ChainE
    generalize ptV (.complex .f64 a b) = p0 at *
    have Hz := Lib.hid hz
    clear hok hz
    refine (callsIn_wd (ro := none) (n := 9)).1 ?_
    refine callsIn_of_wp_marks Try.func30 rfl trivial ?_ rfl
    simp only [Try.ntmps30, List.size_toArray, List.length_cons, List.length_nil, Nat.reduceAdd, Nat.reduceSub, Array.replicate_succ, Array.replicate_zero, List.push_toArray, List.append_toArray, List.nil_append, List.cons_append]
    gi_wp2_with (first
      | (refine ⟨trivial, ?_⟩; gi_at_call 49; refine (callsIn_wd.2 (hG.out _)).mono ?_; rintro e w' ⟨rfl, rfl⟩)
      | (refine ⟨trivial, ?_⟩; gi_at_call 50; refine (callsIn_wd.2 (gbytes_any _ _ _ _)).mono ?_; rintro e w' ⟨rfl, rfl⟩))
    have q2 : Boxed ((w.alloc (.cells #[.complex .f64 0 0] 30)).alloc (.cells #[.slice A bss.length c] 74)) (w.heap.size + 1) 74 (.slice A bss.length c) := by
      have := Boxed.new (w.alloc (.cells #[.complex .f64 0 0] 30)) 74 (.slice A bss.length c)
      rwa [World.size_alloc] at this
    have hE2 : Ext w ((w.alloc (.cells #[.complex .f64 0 0] 30)).alloc (.cells #[.slice A bss.length c] 74)) := Ext.alloc (Ext.alloc (Ext.refl _) _) _
    have h0 : ChI w p0 [] ((w.alloc (.cells #[.complex .f64 0 0] 30)).alloc (.cells #[.slice A bss.length c] 74)) := ⟨_, (Boxed.new w _ _).alloc _, Hz.out, hE2⟩
    have hs2 : ((w.alloc (.cells #[.complex .f64 0 0] 30)).alloc (.cells #[.slice A bss.length c] 74)).heap.size = w.heap.size + 2 := by simp
    generalize (w.alloc (.cells #[.complex .f64 0 0] 30)).alloc (.cells #[.slice A bss.length c] 74) = w2 at *
    refine wp_range (a := ⟨_, _⟩) rfl (enters_of Try.func67 (by kernel_rfl) rfl)
      (fun W1 hb _ => bytes1_seq w W1 _ bss HP.out (fun p u hc => Ext.cell (Ext.trans hE2 hb) hc) w.heap.size (w.heap.size + 1) (Nat.le_refl _) (q2.kept (row := none) (Ext.grown hb none) (by simp)))
      (fun k o h => h.elim) (fun k o h => h.2) (fun x av W h => by rw [h]; rfl)
      (ChI w p0) (fun _ _ _ => False) ?hI (fun _ _ _ _ h _ => h) h0
      (fun x a' _ => a' = ⟨#[.complex .f64 a b, .slice A bss.length c, .pointer (some ⟨w.heap.size, 0, none⟩), undef, .complex .f64 0 0, .int .u8 x.toNat, .complex .f64 a b, .bool false, .bool true, .slice A bss.length c, .func (.func 67) #[] #[.pointer (some ⟨w.heap.size + 1, 0, none⟩)], .int .u8 x.toNat, undef, undef, undef, undef], []⟩)
      (fun _ _ _ _ h _ => h) ?assign ?body ?done ?stop
    case hI =>
      rintro s X Y ⟨v, hv, hr, hB⟩ hm
      refine ⟨v, hm.boxed hv ?_, hr, hm.belowOf hB ?_ (Nat.le_refl _)⟩
      · rintro (h | h)
        · exact h
        · cases h.2
      · rintro k o hk (h | h)
        · exact h
        · have := h.1; omega
    case assign =>
      rintro l pre x post W av K' hx hi hsz rfl hK
      simp only [bv]
      gi_wp2
      exact hK _ _ Kept.refl hi rfl
    case body =>
      rintro l pre x post a' W hx hl hr ⟨v, hv, hpt, hB⟩ hsz rfl
      have HPT := Lib.hid hpt
      obtain ⟨va, vb, rfl, _, _⟩ := hpt
      have hc := hv.cell
      have hf := hv.frozen
      gi_wp2_with (refine ⟨trivial, ?_⟩; gi_at_call 51; refine (callsIn_wd.2 (Next_any _ _ HPT.out _ _)).mono ?_; rintro e w' ⟨v', rfl, hv', rfl⟩; have HV := Lib.hid hv'; obtain ⟨c1, c2, rfl, _, _⟩ := hv')
      refine ⟨Kept.refl.setCell (fun o ho hc => ?_) _, _, hv.set _, by rw [chainP_snoc]; exact HV.out, hB.setCell (p := ⟨w.heap.size, 0, none⟩) (Nat.le_refl _) _⟩
      rintro (h | h)
      · exact h.1 rfl
      · rw [hc] at h; cases h.2
    case done =>
      rintro D W hD ⟨v, hv, hpt, hB⟩ hK
      have HPT := Lib.hid hpt
      obtain ⟨va, vb, rfl, _, _⟩ := hpt
      have hc := hv.cell
      gi_wp2
      refine ret_mark hK _ (results_tmp rfl _ _ _) ?_
      exact ⟨_, rfl, HPT.out, below_putObj hB (by omega) _⟩
    case stop =>
      rintro D c pre W _ _ h _
      exact h.elim
  · rw [hok] at hG
    have hz : PtV (.complex .f64 a b) (ptV (.complex .f64 a b)) := ptV_right hok
    unfold ChainE
    generalize ptV (.complex .f64 a b) = p0 at *
    have Hz := Lib.hid hz
    clear hok hz
    refine (callsIn_wd (ro := none) (n := 9)).1 ?_
    refine callsIn_of_wp_marks Try.func30 rfl trivial ?_ rfl
    simp only [Try.ntmps30, List.size_toArray, List.length_cons, List.length_nil, Nat.reduceAdd, Nat.reduceSub, Array.replicate_succ, Array.replicate_zero, List.push_toArray, List.append_toArray, List.nil_append, List.cons_append]
    gi_wp2_with (first
      | (refine ⟨trivial, ?_⟩; gi_at_call 49; refine (callsIn_wd.2 (hG.out _)).mono ?_; rintro e w' ⟨rfl, rfl⟩)
      | (refine ⟨trivial, ?_⟩; gi_at_call 50; refine (callsIn_wd.2 (gbytes_any _ _ _ _)).mono ?_; rintro e w' ⟨rfl, rfl⟩))
    have q2 : Boxed ((w.alloc (.cells #[.complex .f64 a b] 30)).alloc (.cells #[.slice A bss.length c] 74)) (w.heap.size + 1) 74 (.slice A bss.length c) := by
      have := Boxed.new (w.alloc (.cells #[.complex .f64 a b] 30)) 74 (.slice A bss.length c)
      rwa [World.size_alloc] at this
    have hE2 : Ext w ((w.alloc (.cells #[.complex .f64 a b] 30)).alloc (.cells #[.slice A bss.length c] 74)) := Ext.alloc (Ext.alloc (Ext.refl _) _) _
    have h0 : ChI w p0 [] ((w.alloc (.cells #[.complex .f64 a b] 30)).alloc (.cells #[.slice A bss.length c] 74)) := ⟨_, (Boxed.new w _ _).alloc _, Hz.out, hE2⟩
    have hs2 : ((w.alloc (.cells #[.complex .f64 a b] 30)).alloc (.cells #[.slice A bss.length c] 74)).heap.size = w.heap.size + 2 := by simp
    generalize (w.alloc (.cells #[.complex .f64 a b] 30)).alloc (.cells #[.slice A bss.length c] 74) = w2 at *
    refine wp_range (a := ⟨_, _⟩) rfl (enters_of Try.func67 (by kernel_rfl) rfl)
      (fun W1 hb _ => bytes1_seq w W1 _ bss HP.out (fun p u hc => Ext.cell (Ext.trans hE2 hb) hc) w.heap.size (w.heap.size + 1) (Nat.le_refl _) (q2.kept (row := none) (Ext.grown hb none) (by simp)))
      (fun k o h => h.elim) (fun k o h => h.2) (fun x av W h => by rw [h]; rfl)
      (ChI w p0) (fun _ _ _ => False) ?hI (fun _ _ _ _ h _ => h) h0
      (fun x a' _ => a' = ⟨#[.complex .f64 a b, .slice A bss.length c, .pointer (some ⟨w.heap.size, 0, none⟩), undef, .complex .f64 0 0, .int .u8 x.toNat, .complex .f64 a b, .bool true, .bool false, .slice A bss.length c, .func (.func 67) #[] #[.pointer (some ⟨w.heap.size + 1, 0, none⟩)], .int .u8 x.toNat, undef, undef, undef, undef], []⟩)
      (fun _ _ _ _ h _ => h) ?assign ?body ?done ?stop
    case hI =>
      rintro s X Y ⟨v, hv, hr, hB⟩ hm
      refine ⟨v, hm.boxed hv ?_, hr, hm.belowOf hB ?_ (Nat.le_refl _)⟩
      · rintro (h | h)
        · exact h
        · cases h.2
      · rintro k o hk (h | h)
        · exact h
        · have := h.1; omega
    case assign =>
      rintro l pre x post W av K' hx hi hsz rfl hK
      simp only [bv]
      gi_wp2
      exact hK _ _ Kept.refl hi rfl
    case body =>
      rintro l pre x post a' W hx hl hr ⟨v, hv, hpt, hB⟩ hsz rfl
      have HPT := Lib.hid hpt
      obtain ⟨va, vb, rfl, _, _⟩ := hpt
      have hc := hv.cell
      have hf := hv.frozen
      gi_wp2_with (refine ⟨trivial, ?_⟩; gi_at_call 51; refine (callsIn_wd.2 (Next_any _ _ HPT.out _ _)).mono ?_; rintro e w' ⟨v', rfl, hv', rfl⟩; have HV := Lib.hid hv'; obtain ⟨c1, c2, rfl, _, _⟩ := hv')
      refine ⟨Kept.refl.setCell (fun o ho hc => ?_) _, _, hv.set _, by rw [chainP_snoc]; exact HV.out, hB.setCell (p := ⟨w.heap.size, 0, none⟩) (Nat.le_refl _) _⟩
      rintro (h | h)
      · exact h.1 rfl
      · rw [hc] at h; cases h.2
    case done =>
      rintro D W hD ⟨v, hv, hpt, hB⟩ hK
      have HPT := Lib.hid hpt
      obtain ⟨va, vb, rfl, _, _⟩ := hpt
      have hc := hv.cell
      gi_wp2
      refine ret_mark hK _ (results_tmp rfl _ _ _) ?_
      exact ⟨_, rfl, HPT.out, below_putObj hB (by omega) _⟩
    case stop =>
      rintro D c pre W _ _ h _
      exact h.elim
end Go.Proofs.Ytibbbdifkopebaa
