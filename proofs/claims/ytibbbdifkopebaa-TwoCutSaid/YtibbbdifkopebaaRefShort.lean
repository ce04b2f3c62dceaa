/-
  The walk of moultref01.Short.
-/
import Derived.Test.YtibbbdifkopebaaShort2
set_option linter.all false
namespace Go.Proofs.Ytibbbdifkopebaa
open Go.RowKit Go.Mv

set_option maxHeartbeats 400000 in
theorem refShort_bad (v : Value) (l : List Int) (w : World) (h : Is w v l) (hn : allNum l = false) : Calls Try.prog 28 #[v] w (ShortBad w) := by
  go_enter Try.func28, Try.ntmps28
  go_wp2_with (go_at_call 45; refine (refIs_any _ _ _ h).mono ?_; rintro e w' ⟨rfl, rfl⟩)
  go_ret2
  exact ⟨rfl, Ext.refl _⟩

set_option maxRecDepth 100000 in
set_option maxHeartbeats 1000000 in
theorem refShort_ok (v : Value) (l : List Int) (w : World) (h : Is w v l) (hn : allNum l = true) (hl : l.length ≤ 1000000) : Calls Try.prog 28 #[v] w (ShortOk w l) := by
  obtain ⟨A, c, rfl, h1, h2⟩ := SlR.open_ h
  obtain ⟨i0, hi, hz0, hz1, hz2⟩ := info_parts info_u8
  have Hn := Lib.hid hn
  go_enter Try.func28, Try.ntmps28
  go_wp2_with (go_at_call 45; refine (refIs_any _ _ _ h).mono ?_; rintro e w' ⟨rfl, rfl⟩)
  clear hn
  go_loopw [4, 5] (fun vb i wr => ∃ k : Nat, k ≤ l.length ∧ i = .int .i64 k ∧ wr.ownsRow w.heap.size 5 1 vb (shorts (l.take k)).length ((shorts (l.take k)).map bv) ∧ Ext w wr) (fun _ i _ => l.length - (intOf i).toNat)
  case atStart => exact ⟨0, Nat.zero_le _, rfl, World.ownsRow_nil _ _ _ _, Ext.refl _⟩
  case round =>
    obtain ⟨k, hk, rfl, hown, hB⟩ := hrel
    by_cases hlt : k < l.length
    · obtain ⟨_, b, off, rfl, hc⟩ := Is.at_ (h.ext hB) (by omega)
      have hc0 := hc k hlt
      clear hc
      obtain ⟨hn0, hn1⟩ := num_of_all Hn.out hlt
      obtain ⟨N, hN⟩ := Int.eq_ofNat_of_zero_le hn0
      rw [hN] at hc0 hn1
      have HN := Lib.hid hN
      clear hN hn0
      have hsl := shorts_len (l.take k)
      have htl : (l.take k).length ≤ k := List.length_take_le _ _
      have hbl : b < wr.heap.size := World.block_lt_of_cell? wr _ hc0
      have hs1 : short1 N = hiB 5 (N / 128) ++ [UInt8.ofNat (N % 128)] := short1_eq N (by omega)
      have Hs1 := Lib.hid hs1
      clear hs1
      go_wp2_with fail
      obtain ⟨wo, rfl⟩ : ∃ wo : World, wo = wr := ⟨_, rfl⟩
      go_loopw [6, 7] (fun ds m wr2 => ∃ (f mm : Nat) (suf : List UInt8), mm < 128 ^ f ∧ f ≤ 5 ∧ mm ≤ 1073741824 ∧ m = .int .i64 mm ∧ suf.length + f = 6 ∧ Hid (short1 N = hiB f mm ++ suf) ∧ wr2.ownsRow wo.heap.size 5 1 ds suf.length (suf.map bv) ∧ Ext wo wr2) (fun _ m _ => (intOf m).toNat)
      case atStart =>
        refine ⟨5, N / 128, [UInt8.ofNat (N % 128)], by omega, by omega, by omega, by simp, rfl, Hs1.out, ?_, (Ext.refl _).alloc _⟩
        have h := own_new wo [.int .u8 ((N : Int) % 128)] 5 1 rfl (by simp [maxLen]) (Nat.le_refl _)
        have hm : List.map bv [UInt8.ofNat (N % 128)] = [.int .u8 ((N : Int) % 128)] := by simp [bv]; omega
        rw [hm]; exact h
      case round =>
        obtain ⟨f, mm, suf, hmf, hf5, hmb, rfl, hsf, Hd, hds, hB2⟩ := hrel
        obtain ⟨g, cap, rfl, hbg, hle1, hle2⟩ := ownsRow_pos hds (by omega)
        by_cases hmm : mm = 0
        · subst hmm
          rw [hiB_zero, List.nil_append] at Hd
          go_wp2_with (at_builtin; refine wpList_append_own _ rfl (.tmp 40) (.tmp 41) 24 rfl w.heap.size 5 i0 (.int .u8 0) 1 1 Try.underlying24 hi hz0 hz1 hz2 rfl (by decide) _ _ _ rfl (own_ext hown hB2) ⟨g, 0, none⟩ suf.length cap (suf.map bv) rfl (by simp) (hds.cells rfl) (one_bv _) (by simp [maxLen]; omega) (by omega) (by have := hB.size; have := hB2.size; omega) ?_; intro v' w1 hown' hgrow _)
          go_roundw
          case rel =>
            refine ⟨k + 1, by omega, by go_num, ?_, Ext.grownOwn (Ext.trans hB hB2) (own_ext hown hB2) hgrow⟩
            have hN := HN.out
            rw [shorts_take hlt, hN, Int.toNat_natCast, Hd.out]
            simpa using hown'
          case measure => simp [intOf]; omega
        · obtain ⟨f', rfl⟩ : ∃ f', f = f' + 1 := ⟨f - 1, by cases f with | zero => simp at hmf; omega | succ f => omega⟩
          have hd2 : short1 N = hiB f' (mm / 128) ++ (UInt8.ofNat (mm % 128 + 128) :: suf) := by
            have := Hd.out
            rw [hiB, if_neg hmm] at this
            simpa using this
          have Hd2 := Lib.hid hd2
          have hmf' : mm / 128 < 128 ^ f' := by
            rw [Nat.div_lt_iff_lt_mul (by decide)]
            rw [Nat.pow_succ] at hmf; exact hmf
          have Hmf := Lib.hid hmf'
          clear hd2 hmf'
          go_wp2_with (at_builtin; refine wpList_append_own _ rfl (.tmp 37) (.tmp 38) 24 rfl wo.heap.size 5 i0 (.int .u8 0) 1 1 Try.underlying24 hi hz0 hz1 hz2 rfl (by decide) (.slice (some ⟨wr.heap.size, 0, none⟩) 1 1) 1 [.int .u8 ((mm : Int) % 128 + 128)] rfl (own_new wr [.int .u8 ((mm : Int) % 128 + 128)] 5 1 rfl (by simp [maxLen]) hB2.size) ⟨g, 0, none⟩ suf.length cap (suf.map bv) rfl (by simp) ((hds.alloc _).cells rfl) (one_bv _) (by simp [maxLen]; omega) (by omega) (by have := hB.size; have := hB2.size; simp; omega) ?_; intro v' w1 hown' hgrow _)
          go_roundw
          case rel =>
            refine ⟨f', mm / 128, UInt8.ofNat (mm % 128 + 128) :: suf, Hmf.out, by omega, by omega, by simp, by simp; omega, Hd2.out, ?_, ?_⟩
            · have e : List.map bv (UInt8.ofNat (mm % 128 + 128) :: suf) = [.int .u8 ((mm : Int) % 128 + 128)] ++ suf.map bv := by simp [bv]; omega
              rw [e]
              simpa [Nat.add_comm] using hown'
            · refine (Below.grown (Ext.alloc hB2 _) hgrow (by have := hB2.size; simp; omega) (fun k ek => ?_))
              have : wr.heap.size = k := by simpa [Value.ownBlock] using ek
              have := hB2.size; omega
          case measure => simp [intOf]; omega
    · have hk' : l.take k = l := List.take_of_length_le (by omega)
      rw [hk'] at hown
      clear hk'
      go_wp2_with fail
      go_ret2
      exact ⟨_, rfl, hown, hB⟩
end Go.Proofs.Ytibbbdifkopebaa
