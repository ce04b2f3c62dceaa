/- Merged: Lift Files Door17 ShadowSaysRow -/
import Derived.Test.YtmecffckghkahaaGreatDoorShadowSays35
import Derived.ProofKit
import Derived.OpenShut
import Derived.Carry
import Derived.Deep.Slices
import Derived.ChangeSlices
import Derived.ChangeSame
import Derived.WideKeyArgs
import Derived.Test.YtmecffckghkahaaGreatDoorRows
import Derived.Lib.LaidTab
import Derived.LaidMore
import Derived.LaidSub
import Derived.Stop.Joined
import Derived.Deep.DeepHandedRow
import Derived.Test.YtmecffckghkahaaGreatDoorCards
import Derived.Test.YtmecffckghkahaaGreatDoorTie
import Derived.WalkKit
import Derived.SevenTiedAt
set_option linter.all false
set_option maxHeartbeats 8000000
namespace Go.Proofs.YtmecffckghkahaaGreatDoor
open Go.ChangeShapes Go.WideShapes Go.ChangeAt Go.RowKit Go.Deep Go.Mv
set_option maxRecDepth 100000
theorem own : ownKnob Tryz.prog.godebug = none := by kernel_rfl
theorem laidOut : laidOutB Tryz.prog = true := by kernel_rfl
theorem cellsU8 : Tryz.prog.cellsOf 5 = 1 := by kernel_rfl
instance : Inhabited Ent := ⟨⟨0, 0, 0⟩⟩
theorem slr_of_cells {w : World} {a : Addr} {size n c : Nat} {xs : List Value} (hl : xs.length = n * size) (h1 : n ≤ c) (h2 : c ≤ maxLen) (hs : 0 < size) (h : ∀ j u, xs[j]? = some u → w.cell? (a.add j) = some u) : SlR w size (.slice (some a) n c) n xs := by
 refine ⟨hl, _, c, rfl, h1, h2, fun hn => ?_⟩
 obtain ⟨b, off, sp⟩ := a
 have h0 : 0 < xs.length := by rw [hl]; exact Nat.mul_pos hn hs
 have hc := h 0 xs[0] (List.getElem?_eq_getElem h0)
 cases sp with
 | none =>
  refine ⟨b, off, rfl, fun j u hu => ?_⟩
  have := h j u hu
  rwa [show (⟨b, off, none⟩ : Addr).add j = ⟨b, off + j, none⟩ from by unfold Addr.add; split <;> simp_all] at this
 | some k =>
  exfalso
  unfold World.cell? Addr.add at hc
  simp at hc
  split at hc <;> simp_all
section
variable {H : Type} {enc : TypeId × Value → H} {W : World} {base : Nat} {v : Value} {d : DataW H} {p : List MemPlace}
end
section
variable {H : Type} {enc : TypeId × Value → H} {P : Program}
theorem post_of_below {f : Func} {s : ChangeSpec} {apart fresh handsOn again : Bool} {W W' : World} {args : Array Value} {v : Value} {ds gs : List (DataW H)} {before pa pv : List MemPlace}
  (hW : DataW.Whole enc P f.params.toList s.vars apart W args.toList ds gs before)
  (hres : ∀ (b : Nat) (sp : Nat → Bool) (hd : Bool), DataW.TrodAll enc P W' b sp hd f.resultTypes.toList (v.resultList f.resultTypes.size) (s.fn H (ds ++ gs)).results [])
  (hargs : ∀ sp : Nat → Bool, (∀ p ∈ before, sp p.block = true) → DataW.TrodAll enc P W' 0 sp true f.params.toList args.toList (s.fn H (ds ++ gs)).args pa)
  (hvars : ∀ sp : Nat → Bool, (∀ p ∈ before, sp p.block = true) → DataW.TrodVars enc P W' sp s.vars (s.fn H (ds ++ gs)).vars pv)
  (hps : before = pa ++ pv) (hb : Below W.heap.size W W')
  (hok : ∀ (j : Nat) (t : TypeId) (r : Value), f.resultTypes[j]? = some t → (v.resultList f.resultTypes.size)[j]? = some r → Value.okWide P W' .any 0 t r) :
  s.post enc P f apart fresh handsOn again W args v W' := by
 have hlt : ∀ p ∈ before, p.block < W.heap.size := fun p hp => hW.lt p hp
 have hold : ∀ p ∈ before, (fun b => decide (b < W.heap.size)) p.block = true := fun p hp => by simpa using hlt p hp
 refine ⟨ds, gs, before, [], pa, pv, hW, hres _ _ _, hargs _ hold, hvars _ hold, World.keptBut_mono (fun p hp => ⟨hp, ?_⟩) (hb.frame (· ∈ before)), fun _ => ?_⟩
 ·rw [hps, List.mem_append] at hp
  exact Or.inr hp
 ·obtain ⟨_, _, _, _, _, hz, hn⟩ := hW
  refine ⟨hok, _, _, ([] ++ pa) ++ pv, ⟨[] ++ pa, pv, trodAll_append (hargs _ (fun _ _ => rfl)) (hres _ _ _), hvars _ (fun _ _ => rfl), rfl, ?_, ?_⟩, ?_⟩
  ·intro b off hp
   have hin : MemPlace.cell b off ∈ before := by rw [hps]; simpa using hp
   rw [hb.frozen (hlt _ hin)]
   exact hz b off hin
  ·intro ha
   have := hn ha
   rw [hps] at this
   simpa using this
  ·intro p hp _
   rw [hps]
   simpa using hp
end
open Go.ChangeShapes Go.WideShapes Go.ChangeAt Go.RowKit Go.Deep Go.Mv Go.WideElems
set_option maxRecDepth 100000
theorem bulk_one {H : Type} (d : DataW H) : 1 ≤ Rows.uptoBulk d := by
 cases d with
 | lit l => cases l <;> simp [Rows.uptoBulk]
 | _ => simp [Rows.uptoBulk]
theorem bulk_part {H : Type} {d : DataW H} {l : List (DataW H)} (h : d ∈ l) : Rows.uptoBulk d ≤ Rows.uptoBulkAll l := by
 induction l with
 | nil => cases h
 | cons x r ih =>
  simp only [Rows.uptoBulkAll]
  rcases List.mem_cons.1 h with rfl | h
  ·omega
  ·have := ih h; omega
theorem bulk_len {H : Type} (l : List (DataW H)) : l.length ≤ Rows.uptoBulkAll l := by
 induction l with
 | nil => simp [Rows.uptoBulkAll]
 | cons x r ih => have := bulk_one x; simp only [Rows.uptoBulkAll, List.length_cons]; omega
theorem bulk_slice {H : Type} (l r : List (DataW H)) : Rows.uptoBulk (.slice l r) = Rows.uptoBulkAll l + Rows.uptoBulkAll r + 1 := by simp only [Rows.uptoBulk]
theorem cellsFil : Tryz.prog.cellsOf 52 = 2 := by kernel_rfl
theorem cellsStr : Tryz.prog.cellsOf 9 = 1 := by kernel_rfl
theorem cellsBs : Tryz.prog.cellsOf 43 = 1 := by kernel_rfl
section
variable {H : Type} {enc : TypeId × Value → H} {W : World} {base : Nat} {v : Value} {d : DataW H} {p : List MemPlace}
theorem bs_of_cells {n : Nat} {c : Value} {x : DataW H × List MemPlace} (hf : DataW.trod enc Tryz.prog W 0 (fun _ => true) true n 43 [c] = some x) : ∃ bs, Bs W c bs ∧ bs.length ≤ Rows.uptoBulk x.1 := by
 rcases open_ints Tryz.underlying43 Tryz.underlying5 cellsU8 hf with ⟨hcs, _⟩ | ⟨a, len', cap', zs, hcs, hb, hl, hm, hz, hx, hcell, hw⟩
 ·cases hcs; exact ⟨[], SlR.nil _ 1, Nat.zero_le _⟩
 ·cases hcs
  have hzc : zs.length = cap' := by simpa using hz
  refine ⟨(zs.take len').map (fun n => UInt8.ofNat n.toNat), ?_, ?_⟩
  ·unfold Bs
   rw [List.length_map, List.length_take, Nat.min_eq_left (by omega)]
   refine slr_of_cells (by simp; omega) hl hm (by decide) (fun j u hu => ?_)
   have hj := (List.getElem?_eq_some_iff.1 hu).1
   simp only [List.length_map, List.length_take, Nat.lt_min] at hj
   rw [hcell j (by omega), ← hu]
   have hwf := hw (zs[j]'(by omega)) (List.getElem_mem _)
   have hr : 0 ≤ zs[j]'(by omega) ∧ zs[j]'(by omega) ≤ 255 := by simpa [Lit.wf, IntKind.min, IntKind.max, IntKind.signed, IntKind.bits] using hwf
   have h1 : zs.getD j 0 = zs[j]'(by omega) := by simp [List.getD, List.getElem?_eq_getElem (show j < zs.length by omega)]
   rw [h1]
   have h2 : ((List.map (fun n : Int => UInt8.ofNat n.toNat) (zs.take len')).map bv)[j]? = some (bv (UInt8.ofNat (zs[j]'(by omega)).toNat)) := by
    simp [List.getElem?_map, List.getElem?_take, hj.1, List.getElem?_eq_getElem (show j < zs.length by omega)]
   rw [h2]
   simp [bv]
   omega
  ·rw [hx, bulk_slice, List.length_map]
   have := bulk_len (H := H) (lits .u8 (zs.take len'))
   have e : (lits (H := H) .u8 (zs.take len')).length = (zs.take len').length := by simp [lits]
   omega
theorem str_of {s : ByteArray} : Value.string s = sv s.data.toList := by
 unfold sv
 simp
theorem fs_of_trod (hv : Value.okWide Tryz.prog W .any base 22 v) (h : DataW.Trod enc Tryz.prog W 0 (fun _ => true) true 22 v d p) : ∃ fs, Fs W v fs ∧ fs.length ≤ Rows.uptoBulk d ∧ ∀ f ∈ fs, f.2.length ≤ Rows.uptoBulk d := by
 obtain ⟨a0, len, cap, rfl⟩ := okWide_slice Tryz.underlying22 hv
 obtain ⟨fuel, hf⟩ := h
 have hf' : DataW.trod enc Tryz.prog W 0 (fun _ => true) true fuel 22 [.slice a0 len cap] = some (d, p) := by simpa [Value.cells] using hf
 rcases open_slice Tryz.underlying22 hf' with ⟨hcs, _⟩ | ⟨a, len', cap', m, n, D, Pl, hcs, hb, hl, hm, hmm, hx, hi⟩
 ·cases hcs; exact ⟨[], ⟨[], SlR.nil _ 2, fun i hi => absurd hi (by simp)⟩, Nat.zero_le _, fun f hf => by cases hf⟩
 ·cases hcs
  have hmc : m = cap := by simpa using hmm
  have each : ∀ i, i < len → ∃ e : Fil × Value, W.cell? (a.add (i * 2)) = some (sv e.1.1) ∧ W.cell? (a.add (i * 2 + 1)) = some e.2 ∧ Bs W e.2 e.1.2 ∧ e.1.2.length ≤ Rows.uptoBulk (D i) := by
   intro i hil
   obtain ⟨cs, h1, h2⟩ := hi i (by omega)
   rw [cellsFil] at h1
   obtain ⟨_, hcl, hcell⟩ := World.cells?_some h1
   obtain ⟨xs, n', _, hxx, _, hxl, hf⟩ := DataW.trod_struct Tryz.underlying52 h2
   match cs, hcl with
   | [c0, c1], _ =>
    have g0 := hf 0 _ rfl
    have g1 := hf 1 _ rfl
    have hxl' : xs.length = 2 := hxl
    match xs, hxl' with
    | [x0, x1], _ =>
     obtain ⟨s, e0, _, _⟩ := DataW.trod_string Tryz.underlying9 g0
     have k0 : c0 = .string s := by have h : List.take (Tryz.prog.cellsOf 9) [c0, c1] = [Value.string s] := e0; rw [cellsStr] at h; simpa using h
     have k1 : DataW.trod enc Tryz.prog W 0 (fun _ => true) true n' 43 [c1] = some x1 := by
      have h : DataW.trod enc Tryz.prog W 0 (fun _ => true) true n' 43 (List.take (Tryz.prog.cellsOf 43) [c1]) = some x1 := g1
      rw [cellsBs] at h
      exact h
     subst k0
     obtain ⟨bs, hbs, hbl⟩ := bs_of_cells k1
     have q0 := hcell 0 (by omega)
     have q1 := hcell 1 (by omega)
     rw [Go.Deep.add_add] at q0 q1
     refine ⟨((s.data.toList, bs), c1), by rw [← str_of]; simpa using q0, by simpa using q1, hbs, ?_⟩
     have hD : D i = .agg [x0.1, x1.1] := by
      have := congrArg (·.1) hxx
      simpa using this
     rw [hD]
     simp only [Rows.uptoBulk, Rows.uptoBulkAll]
     show bs.length ≤ _
     omega
  obtain ⟨E, hE⟩ := choose_lt (α := Fil × Value) (p := fun i e => W.cell? (a.add (i * 2)) = some (sv e.1.1) ∧ W.cell? (a.add (i * 2 + 1)) = some e.2 ∧ Bs W e.2 e.1.2 ∧ e.1.2.length ≤ Rows.uptoBulk (D i)) each
  have hd : d = .slice ((List.range len).map D) ((List.range (m - len)).map fun j => D (len + j)) := congrArg (·.1) hx
  have hbulk : Rows.uptoBulkAll ((List.range len).map D) ≤ Rows.uptoBulk d := by rw [hd, bulk_slice]; omega
  refine ⟨(List.range len).map fun i => (E i).1, ⟨(List.range (len * 2)).map fun j => if j % 2 = 0 then sv (E (j / 2)).1.1 else (E (j / 2)).2, ?_, fun i hi => ?_⟩, ?_, fun f hf => ?_⟩
  ·rw [List.length_map, List.length_range]
   refine slr_of_cells (by simp) hl hm (by decide) (fun j u hu => ?_)
   have hj := (List.getElem?_eq_some_iff.1 hu).1
   rw [List.length_map, List.length_range] at hj
   rw [List.getElem?_map, List.getElem?_range hj] at hu
   obtain ⟨h0, h1, _, _⟩ := hE (j / 2) (by omega)
   rcases Nat.mod_two_eq_zero_or_one j with hr | hr
   ·rw [show j / 2 * 2 = j from by omega] at h0
    rw [h0, ← hu]
    simp [hr]
   ·rw [show j / 2 * 2 + 1 = j from by omega] at h1
    rw [h1, ← hu]
    simp [hr]
  ·rw [List.length_map, List.length_range] at hi
   obtain ⟨h0, h1, h2, _⟩ := hE i hi
   rw [List.getElem?_map, List.getElem?_range (by omega), List.getElem?_map, List.getElem?_range (by omega)]
   simp only [List.getElem_map, List.getElem_range, Option.map_some]
   refine ⟨?_, (E i).2, ?_, h2⟩
   ·rw [if_pos (by omega), show i * 2 / 2 = i from by omega]
   ·rw [if_neg (by omega), show (i * 2 + 1) / 2 = i from by omega]
  ·rw [List.length_map, List.length_range]
   have := bulk_len ((List.range len).map D)
   rw [List.length_map, List.length_range] at this
   omega
  ·obtain ⟨i, hi, rfl⟩ := List.mem_map.1 hf
   rw [List.mem_range] at hi
   have h3 := (hE i hi).2.2.2
   have h4 := bulk_part (d := D i) (l := (List.range len).map D) (List.mem_map.2 ⟨i, List.mem_range.2 hi, rfl⟩)
   omega
end
open Go.ChangeShapes Go.WideShapes Go.ChangeAt Go.RowKit Go.Deep Go.Mv Go.WideElems
set_option maxRecDepth 100000
theorem gRows : Tryz.prog.globalNamed "moult/crc.rows" = some 3 := by kernel_rfl
theorem tRows : (Tryz.prog.globals[3]?).map (·.type) = some 207 := by kernel_rfl
theorem cU32 : Tryz.prog.cellsOf 113 = 1 := by kernel_rfl
theorem cRows : Tryz.prog.cellsOf 207 = 16 := by kernel_rfl
theorem gPow : Tryz.prog.globalNamed "internal/strconv.uint64pow10" = some 0 := by kernel_rfl
theorem tPow : (Tryz.prog.globals[0]?).map (·.type) = some 176 := by kernel_rfl
theorem cU64 : Tryz.prog.cellsOf 156 = 1 := by kernel_rfl
theorem cPow : Tryz.prog.cellsOf 176 = 20 := by kernel_rfl
theorem stW_of_laid {W : World} (h : laidMetH Tryz.prog Rows.shadowReadsUptoRow.laid W) : StW W := by
 rw [MakeChecks.laidMetH_plain _ _ _ (by kernel_rfl)] at h
 have h1 : laidMet Tryz.prog [("moult/crc.rows", Lib.tabData .u32 (crcTab.map Int.ofNat))] W := h.filter fun x => x.1 == "moult/crc.rows"
 have h2 : laidMet Tryz.prog [("internal/strconv.uint64pow10", Lib.tabData .u64 Lib.pow10Tab)] W := h.filter fun x => x.1 == "internal/strconv.uint64pow10"
 have ht : Lib.TabIs Tryz.prog W "moult/crc.rows" .u32 (crcTab.map Int.ofNat) := Lib.tabIs_of_head (rest := []) gRows tRows Tryz.underlying207 Tryz.underlying113 cU32 cRows h1
 refine ⟨?_, Lib.tabIs_of_head (rest := []) gPow tPow Tryz.underlying176 Tryz.underlying156 cU64 cPow h2⟩
 intro i hi
 have := ht.cell gRows i (by simpa [crcTab] using hi)
 rw [this]
 congr 2
 show (crcTab.map Int.ofNat).getD i 0 = ((crcTab.getD i 0 : Nat) : Int)
 simp [List.getD_eq_getElem?_getD, List.getElem?_map]
 cases crcTab[i]? <;> simp
end Go.Proofs.YtmecffckghkahaaGreatDoor

namespace Go.Proofs.YtmecffckghkahaaGreatDoor.shadowSays
open Go.ChangeShapes Go.WideShapes Go.ChangeAt Go.RowKit Go.Deep Go.Mv Go.WideElems
set_option maxRecDepth 100000 in
theorem contract (H : Type) (enc : TypeId × Value → H) (W : World) (base : Nat) (args : Array Value) (ds gs : List (DataW H)) (before : List MemPlace)
  (hval0 : ∀ (j : Nat) t v, Tryz.f4.params[j]? = some t → args[j]? = some v → Value.okWide Tryz.prog W .any base t v)
  (hW : DataW.Whole enc Tryz.prog Tryz.f4.params.toList Rows.shadowSaysSpec.vars false W args.toList ds gs before) (hk : Rows.uptoSmall H (ds ++ gs) = true) (hL : laidMetH Tryz.prog Rows.shadowSaysUptoRow.laid W) :
  Calls Tryz.prog 4 args W fun e W' => ∃ v, e = .returned v ∧ Rows.shadowSaysSpec.post enc Tryz.prog Tryz.f4 false true false false W args v W' := by
 have hval : ∀ (j : Nat) t v, Tryz.f4.params[j]? = some t → args[j]? = some v → Value.okWide Tryz.prog W .any base t v := hval0
 have hW' := hW
 have hT := stW_of_laid hL
 have hb := of_decide_eq_true hk
 obtain ⟨p, q, hA0, hV, rfl, hfz, hnd⟩ := hW
 have hA : DataW.TrodAll enc Tryz.prog W 0 (fun _ => true) true Tryz.f4.params.toList args.toList ds p := hA0
 rw [Tryz.params4] at hA hval
 obtain ⟨v0, vs0, d0, ds0, p0, q0, hargs, rfl, rfl, h0, r0⟩ := trodAll_cons hA
 obtain ⟨v1, vs1, d1, ds1, p1, q1, rfl, rfl, rfl, h1, r1⟩ := trodAll_cons r0
 obtain ⟨v2, vs2, d2, ds2, p2, q2, rfl, rfl, rfl, h2, r2⟩ := trodAll_cons r1
 obtain ⟨v3, vs3, d3, ds3, p3, q3, rfl, rfl, rfl, h3, r3⟩ := trodAll_cons r2
 obtain ⟨v4, vs4, d4, ds4, p4, q4, rfl, rfl, rfl, h4, r4⟩ := trodAll_cons r3
 obtain ⟨rfl, rfl, rfl⟩ := trodAll_nil r4
 obtain rfl : args = #[v0, v1, v2, v3, v4] := by cases args; simp_all
 obtain ⟨rfl, rfl⟩ := trodVars_none hV
 have hb0 : Rows.uptoBulk d0 ≤ 1048576 := Nat.le_trans (bulk_part (by simp)) hb
 obtain ⟨l0, hl0, hn0, hf0⟩ := fs_of_trod (hval 0 22 v0 rfl rfl) h0
 obtain ⟨a1, rfl, rfl, rfl, w1⟩ := open_int Tryz.underlying3 (hval 1 3 v1 rfl rfl) h1
 obtain ⟨a2, rfl, rfl, rfl, w2⟩ := open_int Tryz.underlying3 (hval 2 3 v2 rfl rfl) h2
 obtain ⟨a3, rfl, rfl, rfl, w3⟩ := open_int Tryz.underlying5 (hval 3 5 v3 rfl rfl) h3
 obtain ⟨a4, rfl, rfl, rfl⟩ := open_bool Tryz.underlying4 (hval 4 4 v4 rfl rfl) h4
 clear hA0 hval0
 simp only [List.append_nil, List.nil_append] at hW'
 refine (ShadSays_any v0 l0 a1 a2 a3 a4 W hT hl0 (by omega) (fun f hf => by have := hf0 f hf; omega) w3).mono fun e W' ⟨he, hE⟩ => ?_
 subst he
 exact ⟨_, rfl, post_of_below (pa := _) (pv := []) hW' (fun _ _ _ => trodAll_cons_mk (shut_bool Tryz.underlying4 _) trodAll_mk0)
  (fun sp hsp => (trodAll_cons_mk (WideElems.Trod_stays laidOut (by kernel_rfl) (of_decide_eq_true (by kernel_rfl)) h0 (fun x hx => hE.same (hW'.lt x (by simp [hx]))) (fun x hx => hsp x (by simp [hx]))) (trodAll_cons_mk (shut_int Tryz.underlying3 w1) (trodAll_cons_mk (shut_int Tryz.underlying3 w2) (trodAll_cons_mk (shut_int Tryz.underlying5 w3) (trodAll_cons_mk (shut_bool Tryz.underlying4 _) trodAll_mk0)))))) (fun _ _ => rfl) (by simp) hE (ok_one (by kernel_rfl) rfl (okWide_bool_mk Tryz.underlying4 _))⟩
theorem laid_met (os : Os) : laidMetH Tryz.prog Rows.shadowSaysUptoRow.laid ((World.doorLaid Tryz.prog 400 os).forCall (fun _ _ => 0) ⟨#[], #[.slice none 0 0, .int .i64 0, .int .i64 0, .int .u8 0, .bool false], []⟩).memory :=
 laidMetH_of_parts3 (fuel := 8) (laidMet_of_run' 8 (by kernel_rfl) (by kernel_rfl)) (by kernel_rfl) (by kernel_rfl)
theorem reads (os : Os) {H : Type} (enc : TypeId × Value → H) : ∃ places, DataW.whole enc Tryz.prog ((World.doorLaid Tryz.prog 400 os).forCall (fun _ _ => 0) ⟨#[], #[.slice none 0 0, .int .i64 0, .int .i64 0, .int .u8 0, .bool false], []⟩).memory Tryz.f4.params.toList Rows.shadowSaysSpec.vars false (#[.slice none 0 0, .int .i64 0, .int .i64 0, .int .u8 0, .bool false] : Array Value).toList 8 = some ([.nil, .lit (.int .i64 0), .lit (.int .i64 0), .lit (.int .u8 0), .lit (.bool false)], [], places) :=
 ⟨[], by kernel_rfl⟩
set_option maxRecDepth 100000 in
theorem lifted (os : Os) (started : os.Started) (H : Type) (enc : TypeId × Value → H) (I : Stop.Interp) :
  ReturnsInHanded {} Tryz.checked os 4 .any ((Rows.OpenSpec.upto Rows.shadowSaysSpec).preRow enc Tryz.prog Tryz.f4 Rows.shadowSaysUptoRow.domain false Rows.shadowSaysUptoRow.laid) (((Rows.OpenSpec.upto Rows.shadowSaysSpec).at I).post enc Tryz.prog Tryz.f4 false true false false) := by
 obtain ⟨places, hx⟩ := reads os enc
 refine returnsInHanded_of_row (C := Tryz.checked) (s := Rows.OpenSpec.upto Rows.shadowSaysSpec) own started (by kernel_rfl) Tryz.func4
  (witness_row_at (enc := enc) (C := Tryz.checked) false (World.doorLaid Tryz.prog 400 os) #[.slice none 0 0, .int .i64 0, .int .i64 0, .int .u8 0, .bool false] rfl (by kernel_rfl) (by kernel_rfl) (by kernel_rfl)
    (OpenSpec.preRow_of_cond 8 hx (by kernel_rfl) (fun k hk => by cases hk; kernel_rfl) (by kernel_rfl) (laid_met os))) ?_
 intro W base args ds gs before hval hW _ hcond _ hL _ _
 exact contract H enc W base args ds gs before hval hW (hcond _ rfl) hL
theorem over : Rows.ShadowSaysUptoSaid :=
 OpenClaim.holds_of_cond 4 Tryz.f4 rfl rfl rfl rfl rfl rfl rfl ⟨rfl, rfl, rfl, rfl, rfl⟩ rfl rfl rfl rfl rfl (by kernel_rfl) Tryz.func4 (by kernel_rfl)
  (of_decide_eq_true (by kernel_rfl)) (by unfold Func.isWrapper; first | (rw [if_pos (by decide +kernel)]; kernel_rfl) | (rw [if_neg (by decide +kernel)]; exact ⟨rfl, rfl⟩))
  (fun os started H enc _ I => by rw [OpenClaim.pre_eq_preRow]; exact lifted os started H enc I)
theorem proved : Rows.ShadowSaysUptoCardSaid :=
 Claim7.holds_tied_plain_at .later [] _ _ _ _ over (fun _ h => by cases h) (by kernel_rfl) (fun _ h => by cases h) shadowSaysUpto_row_tie rfl ⟨rfl, rfl⟩ (by kernel_rfl) rfl
  (fun f fn hf hfn => by
    obtain rfl : f = 4 := Option.some.inj ((show Tryz.prog.funcNamed "moult/moultlaw17.ShadowSays" = some 4 by kernel_rfl).symm.trans hf) |>.symm
    obtain rfl : fn = Tryz.f4 := (Option.some.inj (Tryz.func4.symm.trans hfn)).symm
    exact ⟨by kernel_rfl, fun j t ht => by
     rw [Tryz.params4] at ht
     have hm : t ∈ [22, 3, 3, 5, 4] := by simpa using Array.mem_of_getElem? ht
     have hall : ([22, 3, 3, 5, 4].all fun u => !Tryz.prog.wantsStandIn u) = true := by kernel_rfl
     exact (show Tryz.prog.wantsStandIn t = false by simpa using List.all_eq_true.1 hall t hm)⟩)
  (by kernel_rfl)
#print axioms proved
end Go.Proofs.YtmecffckghkahaaGreatDoor.shadowSays
