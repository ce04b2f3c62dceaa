/- Merged: Files Door17 ShadowReadsRow -/
import Derived.Test.YtmecffckghkahaaGreatDoorShadowReads35
import Derived.Test.YtmecffckghkahaaGreatDoorRows
import Derived.Lib.LaidTab
import Derived.LaidMore
import Derived.LaidSub
import Derived.Stop.Joined
import Derived.Deep.DeepHandedRow
import Derived.Test.YtmecffckghkahaaGreatDoorCards
import Derived.Test.YtmecffckghkahaaGreatDoorTie
import Derived.WalkKit
import Derived.ProofKit
import Derived.OpenShut
import Derived.SevenTiedAt
set_option linter.all false
set_option maxHeartbeats 8000000
namespace Go.Proofs.YtmecffckghkahaaGreatDoor
open Go.ChangeShapes Go.WideShapes Go.ChangeAt Go.RowKit Go.Deep Go.Mv Go.WideElems
set_option maxRecDepth 100000
theorem bulk_one {H : Type} (d : DataW H) : 1 ≤ Rows.uptoBulk d := by
 cases d with
 | lit l => cases l <;> simp [Rows.uptoBulk]
 | _ => simp [Rows.uptoBulk]
theorem bulk_part {H : Type} {d : DataW H} {l : List (DataW H)} (h : d ∈ l) : Rows.uptoBulk d ≤ Rows.uptoBulkAll l := by
 induction l with
 | nil => cases h
 | cons x r ih =>
  simp only [Rows.uptoBulkAll]
  rcases List.mem_cons.1 h with rfl | h
  ·omega
  ·have := ih h; omega
theorem bulk_len {H : Type} (l : List (DataW H)) : l.length ≤ Rows.uptoBulkAll l := by
 induction l with
 | nil => simp [Rows.uptoBulkAll]
 | cons x r ih => have := bulk_one x; simp only [Rows.uptoBulkAll, List.length_cons]; omega
theorem bulk_slice {H : Type} (l r : List (DataW H)) : Rows.uptoBulk (.slice l r) = Rows.uptoBulkAll l + Rows.uptoBulkAll r + 1 := by simp only [Rows.uptoBulk]
theorem cellsFil : Tryz.prog.cellsOf 52 = 2 := by kernel_rfl
theorem cellsStr : Tryz.prog.cellsOf 9 = 1 := by kernel_rfl
theorem cellsBs : Tryz.prog.cellsOf 43 = 1 := by kernel_rfl
section
variable {H : Type} {enc : TypeId × Value → H} {W : World} {base : Nat} {v : Value} {d : DataW H} {p : List MemPlace}
theorem bs_of_cells {n : Nat} {c : Value} {x : DataW H × List MemPlace} (hf : DataW.trod enc Tryz.prog W 0 (fun _ => true) true n 43 [c] = some x) : ∃ bs, Bs W c bs ∧ bs.length ≤ Rows.uptoBulk x.1 := by
 rcases open_ints Tryz.underlying43 Tryz.underlying5 cellsU8 hf with ⟨hcs, _⟩ | ⟨a, len', cap', zs, hcs, hb, hl, hm, hz, hx, hcell, hw⟩
 ·cases hcs; exact ⟨[], SlR.nil _ 1, Nat.zero_le _⟩
 ·cases hcs
  have hzc : zs.length = cap' := by simpa using hz
  refine ⟨(zs.take len').map (fun n => UInt8.ofNat n.toNat), ?_, ?_⟩
  ·unfold Bs
   rw [List.length_map, List.length_take, Nat.min_eq_left (by omega)]
   refine slr_of_cells (by simp; omega) hl hm (by decide) (fun j u hu => ?_)
   have hj := (List.getElem?_eq_some_iff.1 hu).1
   simp only [List.length_map, List.length_take, Nat.lt_min] at hj
   rw [hcell j (by omega), ← hu]
   have hwf := hw (zs[j]'(by omega)) (List.getElem_mem _)
   have hr : 0 ≤ zs[j]'(by omega) ∧ zs[j]'(by omega) ≤ 255 := by simpa [Lit.wf, IntKind.min, IntKind.max, IntKind.signed, IntKind.bits] using hwf
   have h1 : zs.getD j 0 = zs[j]'(by omega) := by simp [List.getD, List.getElem?_eq_getElem (show j < zs.length by omega)]
   rw [h1]
   have h2 : ((List.map (fun n : Int => UInt8.ofNat n.toNat) (zs.take len')).map bv)[j]? = some (bv (UInt8.ofNat (zs[j]'(by omega)).toNat)) := by
    simp [List.getElem?_map, List.getElem?_take, hj.1, List.getElem?_eq_getElem (show j < zs.length by omega)]
   rw [h2]
   simp [bv]
   omega
  ·rw [hx, bulk_slice, List.length_map]
   have := bulk_len (H := H) (lits .u8 (zs.take len'))
   have e : (lits (H := H) .u8 (zs.take len')).length = (zs.take len').length := by simp [lits]
   omega
theorem str_of {s : ByteArray} : Value.string s = sv s.data.toList := by
 unfold sv
 simp
theorem fs_of_trod (hv : Value.okWide Tryz.prog W .any base 22 v) (h : DataW.Trod enc Tryz.prog W 0 (fun _ => true) true 22 v d p) : ∃ fs, Fs W v fs ∧ fs.length ≤ Rows.uptoBulk d ∧ ∀ f ∈ fs, f.2.length ≤ Rows.uptoBulk d := by
 obtain ⟨a0, len, cap, rfl⟩ := okWide_slice Tryz.underlying22 hv
 obtain ⟨fuel, hf⟩ := h
 have hf' : DataW.trod enc Tryz.prog W 0 (fun _ => true) true fuel 22 [.slice a0 len cap] = some (d, p) := by simpa [Value.cells] using hf
 rcases open_slice Tryz.underlying22 hf' with ⟨hcs, _⟩ | ⟨a, len', cap', m, n, D, Pl, hcs, hb, hl, hm, hmm, hx, hi⟩
 ·cases hcs; exact ⟨[], ⟨[], SlR.nil _ 2, fun i hi => absurd hi (by simp)⟩, Nat.zero_le _, fun f hf => by cases hf⟩
 ·cases hcs
  have hmc : m = cap := by simpa using hmm
  have each : ∀ i, i < len → ∃ e : Fil × Value, W.cell? (a.add (i * 2)) = some (sv e.1.1) ∧ W.cell? (a.add (i * 2 + 1)) = some e.2 ∧ Bs W e.2 e.1.2 ∧ e.1.2.length ≤ Rows.uptoBulk (D i) := by
   intro i hil
   obtain ⟨cs, h1, h2⟩ := hi i (by omega)
   rw [cellsFil] at h1
   obtain ⟨_, hcl, hcell⟩ := World.cells?_some h1
   obtain ⟨xs, n', _, hxx, _, hxl, hf⟩ := DataW.trod_struct Tryz.underlying52 h2
   match cs, hcl with
   | [c0, c1], _ =>
    have g0 := hf 0 _ rfl
    have g1 := hf 1 _ rfl
    have hxl' : xs.length = 2 := hxl
    match xs, hxl' with
    | [x0, x1], _ =>
     obtain ⟨s, e0, _, _⟩ := DataW.trod_string Tryz.underlying9 g0
     have k0 : c0 = .string s := by have h : List.take (Tryz.prog.cellsOf 9) [c0, c1] = [Value.string s] := e0; rw [cellsStr] at h; simpa using h
     have k1 : DataW.trod enc Tryz.prog W 0 (fun _ => true) true n' 43 [c1] = some x1 := by
      have h : DataW.trod enc Tryz.prog W 0 (fun _ => true) true n' 43 (List.take (Tryz.prog.cellsOf 43) [c1]) = some x1 := g1
      rw [cellsBs] at h
      exact h
     subst k0
     obtain ⟨bs, hbs, hbl⟩ := bs_of_cells k1
     have q0 := hcell 0 (by omega)
     have q1 := hcell 1 (by omega)
     rw [Go.Deep.add_add] at q0 q1
     refine ⟨((s.data.toList, bs), c1), by rw [← str_of]; simpa using q0, by simpa using q1, hbs, ?_⟩
     have hD : D i = .agg [x0.1, x1.1] := by
      have := congrArg (·.1) hxx
      simpa using this
     rw [hD]
     simp only [Rows.uptoBulk, Rows.uptoBulkAll]
     show bs.length ≤ _
     omega
  obtain ⟨E, hE⟩ := choose_lt (α := Fil × Value) (p := fun i e => W.cell? (a.add (i * 2)) = some (sv e.1.1) ∧ W.cell? (a.add (i * 2 + 1)) = some e.2 ∧ Bs W e.2 e.1.2 ∧ e.1.2.length ≤ Rows.uptoBulk (D i)) each
  have hd : d = .slice ((List.range len).map D) ((List.range (m - len)).map fun j => D (len + j)) := congrArg (·.1) hx
  have hbulk : Rows.uptoBulkAll ((List.range len).map D) ≤ Rows.uptoBulk d := by rw [hd, bulk_slice]; omega
  refine ⟨(List.range len).map fun i => (E i).1, ⟨(List.range (len * 2)).map fun j => if j % 2 = 0 then sv (E (j / 2)).1.1 else (E (j / 2)).2, ?_, fun i hi => ?_⟩, ?_, fun f hf => ?_⟩
  ·rw [List.length_map, List.length_range]
   refine slr_of_cells (by simp) hl hm (by decide) (fun j u hu => ?_)
   have hj := (List.getElem?_eq_some_iff.1 hu).1
   rw [List.length_map, List.length_range] at hj
   rw [List.getElem?_map, List.getElem?_range hj] at hu
   obtain ⟨h0, h1, _, _⟩ := hE (j / 2) (by omega)
   rcases Nat.mod_two_eq_zero_or_one j with hr | hr
   ·rw [show j / 2 * 2 = j from by omega] at h0
    rw [h0, ← hu]
    simp [hr]
   ·rw [show j / 2 * 2 + 1 = j from by omega] at h1
    rw [h1, ← hu]
    simp [hr]
  ·rw [List.length_map, List.length_range] at hi
   obtain ⟨h0, h1, h2, _⟩ := hE i hi
   rw [List.getElem?_map, List.getElem?_range (by omega), List.getElem?_map, List.getElem?_range (by omega)]
   simp only [List.getElem_map, List.getElem_range, Option.map_some]
   refine ⟨?_, (E i).2, ?_, h2⟩
   ·rw [if_pos (by omega), show i * 2 / 2 = i from by omega]
   ·rw [if_neg (by omega), show (i * 2 + 1) / 2 = i from by omega]
  ·rw [List.length_map, List.length_range]
   have := bulk_len ((List.range len).map D)
   rw [List.length_map, List.length_range] at this
   omega
  ·obtain ⟨i, hi, rfl⟩ := List.mem_map.1 hf
   rw [List.mem_range] at hi
   have h3 := (hE i hi).2.2.2
   have h4 := bulk_part (d := D i) (l := (List.range len).map D) (List.mem_map.2 ⟨i, List.mem_range.2 hi, rfl⟩)
   omega
end
open Go.ChangeShapes Go.WideShapes Go.ChangeAt Go.RowKit Go.Deep Go.Mv Go.WideElems
set_option maxRecDepth 100000
theorem gRows : Tryz.prog.globalNamed "moult/crc.rows" = some 3 := by kernel_rfl
theorem tRows : (Tryz.prog.globals[3]?).map (·.type) = some 207 := by kernel_rfl
theorem cU32 : Tryz.prog.cellsOf 113 = 1 := by kernel_rfl
theorem cRows : Tryz.prog.cellsOf 207 = 16 := by kernel_rfl
theorem gPow : Tryz.prog.globalNamed "internal/strconv.uint64pow10" = some 0 := by kernel_rfl
theorem tPow : (Tryz.prog.globals[0]?).map (·.type) = some 176 := by kernel_rfl
theorem cU64 : Tryz.prog.cellsOf 156 = 1 := by kernel_rfl
theorem cPow : Tryz.prog.cellsOf 176 = 20 := by kernel_rfl
theorem stW_of_laid {W : World} (h : laidMetH Tryz.prog Rows.shadowReadsUptoRow.laid W) : StW W := by
 rw [MakeChecks.laidMetH_plain _ _ _ (by kernel_rfl)] at h
 have h1 : laidMet Tryz.prog [("moult/crc.rows", Lib.tabData .u32 (crcTab.map Int.ofNat))] W := h.filter fun x => x.1 == "moult/crc.rows"
 have h2 : laidMet Tryz.prog [("internal/strconv.uint64pow10", Lib.tabData .u64 Lib.pow10Tab)] W := h.filter fun x => x.1 == "internal/strconv.uint64pow10"
 have ht : Lib.TabIs Tryz.prog W "moult/crc.rows" .u32 (crcTab.map Int.ofNat) := Lib.tabIs_of_head (rest := []) gRows tRows Tryz.underlying207 Tryz.underlying113 cU32 cRows h1
 refine ⟨?_, Lib.tabIs_of_head (rest := []) gPow tPow Tryz.underlying176 Tryz.underlying156 cU64 cPow h2⟩
 intro i hi
 have := ht.cell gRows i (by simpa [crcTab] using hi)
 rw [this]
 congr 2
 show (crcTab.map Int.ofNat).getD i 0 = ((crcTab.getD i 0 : Nat) : Int)
 simp [List.getD_eq_getElem?_getD, List.getElem?_map]
 cases crcTab[i]? <;> simp
end Go.Proofs.YtmecffckghkahaaGreatDoor

namespace Go.Proofs.YtmecffckghkahaaGreatDoor.shadowReads
open Go.ChangeShapes Go.WideShapes Go.ChangeAt Go.RowKit Go.Deep Go.Mv Go.WideElems
set_option maxRecDepth 100000 in
theorem contract (H : Type) (enc : TypeId × Value → H) (W : World) (base : Nat) (args : Array Value) (ds gs : List (DataW H)) (before : List MemPlace)
  (hval0 : ∀ (j : Nat) t v, Tryz.f3.params[j]? = some t → args[j]? = some v → Value.okWide Tryz.prog W .any base t v)
  (hW : DataW.Whole enc Tryz.prog Tryz.f3.params.toList Rows.shadowReadsSpec.vars false W args.toList ds gs before) (hk : Rows.uptoSmall H (ds ++ gs) = true) (hL : laidMetH Tryz.prog Rows.shadowReadsUptoRow.laid W) :
  Calls Tryz.prog 3 args W fun e W' => ∃ v, e = .returned v ∧ Rows.shadowReadsSpec.post enc Tryz.prog Tryz.f3 false true false false W args v W' := by
 have hval : ∀ (j : Nat) t v, Tryz.f3.params[j]? = some t → args[j]? = some v → Value.okWide Tryz.prog W .any base t v := hval0
 have hW' := hW
 have hT := stW_of_laid hL
 have hb := of_decide_eq_true hk
 obtain ⟨p, q, hA0, hV, rfl, hfz, hnd⟩ := hW
 have hA : DataW.TrodAll enc Tryz.prog W 0 (fun _ => true) true Tryz.f3.params.toList args.toList ds p := hA0
 rw [Tryz.params3] at hA hval
 obtain ⟨v0, vs0, d0, ds0, p0, q0, hargs, rfl, rfl, h0, r0⟩ := trodAll_cons hA
 obtain ⟨v1, vs1, d1, ds1, p1, q1, rfl, rfl, rfl, h1, r1⟩ := trodAll_cons r0
 obtain ⟨rfl, rfl, rfl⟩ := trodAll_nil r1
 obtain rfl : args = #[v0, v1] := by cases args; simp_all
 obtain ⟨rfl, rfl⟩ := trodVars_none hV
 have hb0 : Rows.uptoBulk d0 ≤ 1048576 := Nat.le_trans (bulk_part (by simp)) hb
 obtain ⟨l0, hl0, hn0, hf0⟩ := fs_of_trod (hval 0 22 v0 rfl rfl) h0
 obtain ⟨a1, rfl, rfl, rfl⟩ := open_bool Tryz.underlying4 (hval 1 4 v1 rfl rfl) h1
 clear hA0 hval0
 simp only [List.append_nil, List.nil_append] at hW'
 refine (ShadReads_any v0 l0 a1 W hT hl0 (by omega) (fun f hf => by have := hf0 f hf; omega) ).mono fun e W' ⟨he, hE⟩ => ?_
 subst he
 exact ⟨_, rfl, post_of_below (pa := _) (pv := []) hW' (fun _ _ _ => trodAll_cons_mk (shut_bool Tryz.underlying4 _) trodAll_mk0)
  (fun sp hsp => (trodAll_cons_mk (WideElems.Trod_stays laidOut (by kernel_rfl) (of_decide_eq_true (by kernel_rfl)) h0 (fun x hx => hE.same (hW'.lt x (by simp [hx]))) (fun x hx => hsp x (by simp [hx]))) (trodAll_cons_mk (shut_bool Tryz.underlying4 _) trodAll_mk0))) (fun _ _ => rfl) (by simp) hE (ok_one (by kernel_rfl) rfl (okWide_bool_mk Tryz.underlying4 _))⟩
theorem laid_met (os : Os) : laidMetH Tryz.prog Rows.shadowReadsUptoRow.laid ((World.doorLaid Tryz.prog 400 os).forCall (fun _ _ => 0) ⟨#[], #[.slice none 0 0, .bool false], []⟩).memory :=
 laidMetH_of_parts3 (fuel := 8) (laidMet_of_run' 8 (by kernel_rfl) (by kernel_rfl)) (by kernel_rfl) (by kernel_rfl)
theorem reads (os : Os) {H : Type} (enc : TypeId × Value → H) : ∃ places, DataW.whole enc Tryz.prog ((World.doorLaid Tryz.prog 400 os).forCall (fun _ _ => 0) ⟨#[], #[.slice none 0 0, .bool false], []⟩).memory Tryz.f3.params.toList Rows.shadowReadsSpec.vars false (#[.slice none 0 0, .bool false] : Array Value).toList 8 = some ([.nil, .lit (.bool false)], [], places) :=
 ⟨[], by kernel_rfl⟩
set_option maxRecDepth 100000 in
theorem lifted (os : Os) (started : os.Started) (H : Type) (enc : TypeId × Value → H) (I : Stop.Interp) :
  ReturnsInHanded {} Tryz.checked os 3 .any ((Rows.OpenSpec.upto Rows.shadowReadsSpec).preRow enc Tryz.prog Tryz.f3 Rows.shadowReadsUptoRow.domain false Rows.shadowReadsUptoRow.laid) (((Rows.OpenSpec.upto Rows.shadowReadsSpec).at I).post enc Tryz.prog Tryz.f3 false true false false) := by
 obtain ⟨places, hx⟩ := reads os enc
 refine returnsInHanded_of_row (C := Tryz.checked) (s := Rows.OpenSpec.upto Rows.shadowReadsSpec) own started (by kernel_rfl) Tryz.func3
  (witness_row_at (enc := enc) (C := Tryz.checked) false (World.doorLaid Tryz.prog 400 os) #[.slice none 0 0, .bool false] rfl (by kernel_rfl) (by kernel_rfl) (by kernel_rfl)
    (OpenSpec.preRow_of_cond 8 hx (by kernel_rfl) (fun k hk => by cases hk; kernel_rfl) (by kernel_rfl) (laid_met os))) ?_
 intro W base args ds gs before hval hW _ hcond _ hL _ _
 exact contract H enc W base args ds gs before hval hW (hcond _ rfl) hL
theorem over : Rows.ShadowReadsUptoSaid :=
 OpenClaim.holds_of_cond 3 Tryz.f3 rfl rfl rfl rfl rfl rfl rfl ⟨rfl, rfl, rfl, rfl, rfl⟩ rfl rfl rfl rfl rfl (by kernel_rfl) Tryz.func3 (by kernel_rfl)
  (of_decide_eq_true (by kernel_rfl)) (by unfold Func.isWrapper; first | (rw [if_pos (by decide +kernel)]; kernel_rfl) | (rw [if_neg (by decide +kernel)]; exact ⟨rfl, rfl⟩))
  (fun os started H enc _ I => by rw [OpenClaim.pre_eq_preRow]; exact lifted os started H enc I)
theorem proved : Rows.ShadowReadsUptoCardSaid :=
 Claim7.holds_tied_plain_at .later [] _ _ _ _ over (fun _ h => by cases h) (by kernel_rfl) (fun _ h => by cases h) shadowReadsUpto_row_tie rfl ⟨rfl, rfl⟩ (by kernel_rfl) rfl
  (fun f fn hf hfn => by
    obtain rfl : f = 3 := Option.some.inj ((show Tryz.prog.funcNamed "moult/moultlaw17.ShadowReads" = some 3 by kernel_rfl).symm.trans hf) |>.symm
    obtain rfl : fn = Tryz.f3 := (Option.some.inj (Tryz.func3.symm.trans hfn)).symm
    exact ⟨by kernel_rfl, fun j t ht => by
     rw [Tryz.params3] at ht
     have hm : t ∈ [22, 4] := by simpa using Array.mem_of_getElem? ht
     have hall : ([22, 4].all fun u => !Tryz.prog.wantsStandIn u) = true := by kernel_rfl
     exact (show Tryz.prog.wantsStandIn t = false by simpa using List.all_eq_true.1 hall t hm)⟩)
  (by kernel_rfl)
#print axioms proved
end Go.Proofs.YtmecffckghkahaaGreatDoor.shadowReads
