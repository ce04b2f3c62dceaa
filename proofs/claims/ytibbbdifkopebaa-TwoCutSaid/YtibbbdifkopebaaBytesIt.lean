/-
  The walk of gauss.bytes' iterator.
-/
import Derived.Test.YtibbbdifkopebaaRefChain
set_option linter.all false
namespace Go.Proofs.Ytibbbdifkopebaa
open Go.RowKit Go.Mv Go.Shelf
attribute [local go_sem] Oper.semAt_some
set_option maxRecDepth 100000

theorem split_at_ {α : Type} (l : List α) (m : Nat) (h : m < l.length) (R : List α) : l ++ R = l.take m ++ l[m] :: (l.drop (m + 1) ++ R) := by
  have e := List.take_append_drop m l
  rw [List.drop_eq_getElem_cons h] at e
  calc l ++ R = (l.take m ++ l[m] :: l.drop (m + 1)) ++ R := by rw [e]
    _ = _ := by rw [List.append_assoc, List.cons_append]
/-- What lay in wo lies in W. -/
def Hold (wo W : World) : Prop := ∀ p u, wo.cell? p = some u → W.cell? p = some u
theorem Hold.kept {wo W W' : World} {bz n : Nat} (h : Hold wo W) (hbz : wo.heap.size ≤ bz) (hk : Kept (orOther (fun k o => k ≠ bz ∧ o.isCells = true) n) W W') : Hold wo W' := by
  intro p u hp
  have hlt := World.block_lt_of_cell? wo p hp
  obtain ⟨o, ho, hc⟩ := cells_of_cell (h p u hp)
  exact hk.cell (h p u hp) (fun o' ho' => by rw [ho] at ho'; cases ho'; exact .inl ⟨by omega, hc⟩)

set_option maxHeartbeats 1000000 in
theorem bytes1_seq (wo W0 : World) (vp : Value) (bss : List (List UInt8)) (hP : Parts wo vp bss) (hE : Hold wo W0) (bz B : Nat) (hbz : wo.heap.size ≤ bz) (hB : Boxed W0 B 74 vp) :
    Seq Try.prog 67 #[.pointer (some ⟨B, 0, none⟩)]
      (fun (d : UInt8) av _ => av = #[bv d]) (fun k o => k ≠ bz ∧ o.isCells = true) (fun _ _ => False) bss.flatten W0 := by
  intro l J Jx hJ hJx hY h0
  obtain ⟨vs, hvl, hsl, hvs⟩ := hP
  obtain ⟨A, c, rfl, h1, h2⟩ := SlR.open_ hsl
  have hv1 : vs.length ≤ bss.length := by omega
  have hv2 : bss.length ≤ vs.length := by omega
  have hc1 := hB.cell
  clear hvl hB
  refine (callsIn_wd (ro := none) (n := 9)).1 ?_
  refine callsIn_of_wp Try.func67 rfl trivial ?_ rfl
  simp only [Try.ntmps67, List.size_toArray, List.length_cons, List.length_nil, Nat.reduceAdd, Nat.reduceSub, Array.replicate_succ, Array.replicate_zero, List.push_toArray, List.append_toArray, List.nil_append, List.cons_append]
  gi_wp2
  gi_loopw [9] (fun j W => ∃ k : Nat, k ≤ bss.length ∧ j = .int .i64 k ∧ Hid (J (bss.take k).flatten W) ∧ Hid (Hold wo W) ∧ W0.heap.size ≤ W.heap.size) (fun j _ => bss.length - (intOf j).toNat)
  case atStart => exact ⟨0, Nat.zero_le _, rfl, h0, hE, Nat.le_refl _⟩
  case round =>
    obtain ⟨k, hk, rfl, HJ, HH, hsz⟩ := hrel
    by_cases hlt : k < bss.length
    · obtain ⟨_, ba, off, rfl, hc⟩ := SlR.at_ hsl (by omega)
      have hkv : k < vs.length := by omega
      have hck := hc k vs[k] (List.getElem?_eq_getElem hkv)
      have hbk := hvs k hkv hlt
      obtain ⟨A', c', hvk, h3, h4⟩ := SlR.open_ hbk
      rw [hvk] at hck hbk
      have hck' := HH.out _ _ hck
      have hft := flat_take bss k hlt
      have hfa : bss.flatten = (bss.take k).flatten ++ (bss[k] ++ (bss.drop (k + 1)).flatten) := by
        conv => lhs; rw [← List.take_append_drop (k + 1) bss, List.flatten_append, hft, List.append_assoc]
      have Hft := Lib.hid hft
      have Hfa := Lib.hid hfa
      generalize bss[k] = bk at *
      clear hc hvk hft hfa hck
      gi_wp2
      gi_loopw [15] (fun j W => ∃ m : Nat, m ≤ bk.length ∧ j = .int .i64 m ∧ Hid (J ((bss.take k).flatten ++ bk.take m) W) ∧ Hid (Hold wo W) ∧ W0.heap.size ≤ W.heap.size) (fun j _ => bk.length - (intOf j).toNat)
      case atStart => exact ⟨0, Nat.zero_le _, rfl, by show J _ _; rw [List.take_zero, List.append_nil]; exact HJ.out, HH, hsz⟩
      case round =>
        obtain ⟨m, hm, rfl, HQ, HH2, hsz2⟩ := hrel
        by_cases hlt2 : m < bk.length
        · obtain ⟨_, b2, off2, e2, hc2⟩ := Bs.at_ hbk (by omega)
          cases e2
          have hcm := HH2.out _ _ (hc2 m hlt2)
          have htk : bk.take (m + 1) = bk.take m ++ [bk[m]] := List.take_succ_eq_append_getElem hlt2
          have hfin : bss.flatten = ((bss.take k).flatten ++ bk.take m) ++ bk[m] :: (bk.drop (m + 1) ++ (bss.drop (k + 1)).flatten) := by
            rw [Hfa.out, split_at_ bk m hlt2, List.append_assoc]
          have hy := hY _ _ _ hfin _ #[bv bk[m]] HQ.out hsz2 rfl
          have Htk := Lib.hid htk
          have Hfin := Lib.hid hfin
          generalize bk[m] = bm at *
          have key : ∀ (o : Oper) (a : Act) (next : Act → World → Prop) (Q : Exit → Act → World → Prop) (W : World),
              Mv.YieldsAt Try.prog l #[bv bm] W (fun e W' => Kept (orOther (fun k o => k ≠ bz ∧ o.isCells = true) W0.heap.size) W W' ∧ ((e = .returned (.bool true) ∧ J ((bss.take k).flatten ++ bk.take m ++ [bm]) W') ∨ (e = .returned (.bool false) ∧ Jx ((bss.take k).flatten ++ bk.take m ++ [bm]) W'))) → Hold wo W → W0.heap.size ≤ W.heap.size →
              (∀ W' : World, J ((bss.take k).flatten ++ bk.take (m + 1)) W' → Hold wo W' → W0.heap.size ≤ W'.heap.size → next (a.put o.dst (.bool true)) W') →
              (∀ W' : World, Jx ((bss.take k).flatten ++ bk.take (m + 1)) W' → next (a.put o.dst (.bool false)) W') →
              o.uponIn (Wd none) 9 Try.prog a next Q ((Instr.yield l #[bv bm]).run Try.prog W) := by
            intro o a next Q W hy hho hs h1 h2
            refine uponIn_yield hy ?_
            rintro e W' ⟨hk', ⟨rfl, hj⟩ | ⟨rfl, hj⟩⟩
            · refine ⟨true, rfl, h1 W' ?_ (hho.kept hbz hk') (Nat.le_trans hs hk'.size)⟩
              rw [Htk.out, ← List.append_assoc]; exact hj
            · refine ⟨false, rfl, h2 W' ?_⟩
              rw [Htk.out, ← List.append_assoc]; exact hj
          have Hkey := Lib.hid key
          have Hy := Lib.hid hy
          have hpre : (bss.take k).flatten ++ bk.take (m + 1) <+: bss.flatten := by
            rw [Hfin.out, Htk.out]; exact ⟨bk.drop (m + 1) ++ (bss.drop (k + 1)).flatten, by simp⟩
          have Hpre := Lib.hid hpre
          clear hc2 htk hfin key hy hY hpre
          gi_wp2
          refine Hkey.out _ _ _ _ _ Hy.out HH2.out hsz2 ?_ ?_
          · intro W' hj hho hs
            have Hj := Lib.hid hj
            have Hh := Lib.hid hho
            clear hj hho hcm hck' hc1
            gi_wp2
            exact ⟨⟨m + 1, by omega, by go_num, Hj, Hh, hs⟩, by simp [intOf]; omega⟩
          · intro W' hj
            have Hj := Lib.hid hj
            clear hj hcm hck' hc1
            gi_wp2
            refine bodyPost_ret (results_none rfl _ _ _) rfl ?_
            exact ⟨⟨_, rfl⟩, .inr ⟨_, Hpre.out, Hj.out⟩⟩
        · have hq := HQ.out
          rw [List.take_of_length_le (show bk.length ≤ m from by omega), ← Hft.out] at hq
          have HQ' := Lib.hid hq
          clear hq
          gi_wp2
          exact ⟨⟨k + 1, by omega, by go_num, HQ', HH2, hsz2⟩, by simp [intOf]; omega⟩
    · have hj := HJ.out
      rw [List.take_of_length_le (show bss.length ≤ k from by omega)] at hj
      have HJ' := Lib.hid hj
      clear hj
      gi_wp2
      refine bodyPost_end (results_none rfl _ _ _) rfl ?_
      exact ⟨⟨_, rfl⟩, .inl HJ'.out⟩
end Go.Proofs.Ytibbbdifkopebaa
