/-
  The walks of slices.Concat of bytes, bytes.Equal.
-/
import Derived.Test.YtibbbdifkopebaaBytes
set_option linter.all false
namespace Go.Proofs.Ytibbbdifkopebaa
open Go.RowKit Go.Mv

set_option maxHeartbeats 400000 in
theorem bytesEqual_any (va vb : Value) (a b : List UInt8) (w : World) (ha : Bs w va a) (hb : Bs w vb b) :
    Calls Try.prog 57 #[va, vb] w fun e w' => e = .returned (.bool (decide (a = b))) ∧ w = w' := by
  obtain ⟨A, ca, rfl, h1, h2⟩ := SlR.open_ ha
  obtain ⟨B, cb, rfl, h3, h4⟩ := SlR.open_ hb
  have hca := run_convert_sl (P := Try.prog) w 24 9 5 Try.underlying24 Try.underlying5 Try.underlying9 ha
  have hcb := run_convert_sl (P := Try.prog) w 24 9 5 Try.underlying24 Try.underlying5 Try.underlying9 hb
  go_enter Try.func57, Try.ntmps57
  go_wp2
  go_ret
  exact ⟨ret_bool (by rw [Bool.eq_iff_iff]; simp), rfl⟩

/-- A slice of slices of bytes. -/
def Parts (w : World) (v : Value) (bss : List (List UInt8)) : Prop := ∃ vs : List Value, vs.length = bss.length ∧ SlR w 1 v bss.length vs ∧ ∀ i (h : i < vs.length) (h' : i < bss.length), Bs w vs[i] bss[i]
theorem Parts.ext {w w' : World} {v : Value} {bss : List (List UInt8)} (h : Parts w v bss) (he : Ext w w') : Parts w' v bss := by
  obtain ⟨vs, hl, h1, h2⟩ := h
  exact ⟨vs, hl, h1.ext he, fun i hi hi' => (h2 i hi hi').ext he⟩
theorem flat_take (bss : List (List UInt8)) (k : Nat) (h : k < bss.length) : (bss.take (k + 1)).flatten = (bss.take k).flatten ++ bss[k] := by
  rw [List.take_succ_eq_append_getElem h, List.flatten_append, List.flatten_cons, List.flatten_nil, List.append_nil]
theorem flat_take_le (bss : List (List UInt8)) (k : Nat) : (bss.take k).flatten.length ≤ bss.flatten.length := by
  conv => rhs; rw [← List.take_append_drop k bss, List.flatten_append]
  simp

set_option maxRecDepth 100000 in
set_option maxHeartbeats 1000000 in
theorem Concat_any (v : Value) (bss : List (List UInt8)) (w : World) (h : Parts w v bss) (hl : bss.flatten.length ≤ 70368744177664) :
    Calls Try.prog 27 #[v] w (CloneP w bss.flatten) := by
  obtain ⟨vs, hvl, hsl, hvs⟩ := h
  obtain ⟨A, c, rfl, h1, h2⟩ := SlR.open_ hsl
  obtain ⟨i0, hi, hz0, hz1, hz2⟩ := info_parts info_u8
  have Hvl := Lib.hid hvl
  have hv1 : vs.length ≤ bss.length := by omega
  have hv2 : bss.length ≤ vs.length := by omega
  clear hvl
  go_enter Try.func27, Try.ntmps27
  go_wp2_with fail
  go_loop [3, 11] (fun sz i => ∃ k m : Nat, k ≤ bss.length ∧ i = .int .i64 k ∧ sz = .int .i64 m ∧ Hid (m = (bss.take k).flatten.length)) (fun _ i => bss.length - (intOf i).toNat)
  case atStart => exact ⟨0, 0, Nat.zero_le _, rfl, rfl, rfl⟩
  case round =>
    obtain ⟨k, m, hk, rfl, rfl, Hm⟩ := hrel
    by_cases hlt : k < bss.length
    · obtain ⟨_, b, off, rfl, hc⟩ := SlR.at_ hsl (by omega)
      have hkv : k < vs.length := by omega
      have hck := hc k vs[k] (List.getElem?_eq_getElem hkv)
      obtain ⟨A', c', hvk, h3, h4⟩ := SlR.open_ (hvs k hkv hlt)
      rw [hvk] at hck
      have hle := flat_take_le bss (k + 1)
      have hft := flat_take bss k hlt
      rw [hft, List.length_append, ← Hm.out] at hle
      have Hft := Lib.hid hft
      generalize hq : bss.flatten.length = q at hle hl
      clear hc hvk hft hq
      go_wp2_with fail
      go_round
      case rel => exact ⟨k + 1, m + bss[k].length, by omega, by go_num, by go_num, by show _ = _; rw [Hft.out, List.length_append, ← Hm.out]⟩
      case measure => simp [intOf]; omega
    · have hm := Hm.out
      rw [List.take_of_length_le (by omega)] at hm
      have hm2 : m ≤ 70368744177664 := by omega
      clear hm
      go_wp2_with (go_at_call 44; refine (Grow_nil _ _ (by omega)).mono ?_; rintro e w1 ⟨v1, rfl, hown1, hE1⟩)
      go_loopw [6, 27] (fun ns i wr => ∃ k : Nat, k ≤ bss.length ∧ i = .int .i64 k ∧ wr.ownsRow w.heap.size 5 1 ns (bss.take k).flatten.length ((bss.take k).flatten.map bv) ∧ Ext w wr) (fun _ i _ => bss.length - (intOf i).toNat)
      case atStart => exact ⟨0, Nat.zero_le _, rfl, hown1, hE1⟩
      case round =>
        obtain ⟨k, hk, rfl, hown, hE⟩ := hrel
        by_cases hlt : k < bss.length
        · obtain ⟨_, b, off, rfl, hc⟩ := SlR.at_ (SlR.ext hsl hE) (by omega)
          have hkv : k < vs.length := by omega
          have hck := hc k vs[k] (List.getElem?_eq_getElem hkv)
          have hbk := (hvs k hkv hlt).ext hE
          obtain ⟨A', c', hvk, h3, h4⟩ := SlR.open_ hbk
          rw [hvk] at hck hbk
          have hle := flat_take_le bss (k + 1)
          have hft := flat_take bss k hlt
          rw [hft, List.length_append] at hle
          have Hft := Lib.hid hft
          clear hc hvk hft
          go_wp2_with (at_builtin; refine wpList_append_sl _ rfl (.tmp 31) (.tmp 32) 24 rfl w.heap.size 5 i0 (.int .u8 0) 1 1 Try.underlying24 hi hz0 hz1 hz2 rfl (by decide) _ _ _ rfl hown _ bss[k].length (bss[k].map bv) rfl hbk (one_bv _) (by unfold maxLen; omega) (by omega) hE.size ?_; intro v' w1 hown' hgrow)
          go_roundw
          case rel =>
            refine ⟨k + 1, by omega, by go_num, ?_, Ext.grownOwn hE hown hgrow⟩
            rw [Hft.out]
            simpa using hown'
          case measure => simp [intOf]; omega
        · have hk' : bss.take k = bss := List.take_of_length_le (by omega)
          rw [hk'] at hown
          clear hk'
          go_wp2_with fail
          go_ret
          exact ⟨_, rfl, hown, hE⟩
end Go.Proofs.Ytibbbdifkopebaa
