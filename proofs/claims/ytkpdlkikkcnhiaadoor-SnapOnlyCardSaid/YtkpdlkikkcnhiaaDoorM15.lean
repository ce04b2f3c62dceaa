/-
  The walk of moultlaw09.wakes.
  The rows' arguments: entries and bytes as they came in; the row's last step.
  The rows' condition on the listed table, and a state as it came in.
-/
import Derived.Test.YtkpdlkikkcnhiaaDoorM14
import Derived.ProofKit
import Derived.OpenShut
import Derived.Carry
import Derived.Deep.Slices
import Derived.ChangeSlices
import Derived.ChangeSame
import Derived.WideKeyArgs
import Derived.Test.YtkpdlkikkcnhiaaDoorRows
import Derived.Lib.LaidTab
import Derived.LaidMore
import Derived.Stop.Joined
set_option linter.all false
namespace Go.Proofs.YtkpdlkikkcnhiaaDoor
open Go.RowKit Go.Mv
set_option maxRecDepth 100000

theorem Put_some {s : Sta} {f : Int} {l : List UInt8} (h : putR s f = some l) (w : World) (hT : TabW w) : Calls Tryd.prog 7 #[.agg #[.int .i64 s.idx, .int .i64 s.term, .int .i64 s.sum, .int .i64 s.lvl, .bool s.fin], .int .i64 f] w (PutP w l) := by
  have := Put_any s f w hT
  rw [h] at this
  exact this
theorem Put_none {s : Sta} {f : Int} (h : putR s f = none) (w : World) (hT : TabW w) : Calls Tryd.prog 7 #[.agg #[.int .i64 s.idx, .int .i64 s.term, .int .i64 s.sum, .int .i64 s.lvl, .bool s.fin], .int .i64 f] w (ShortBad w) := by
  have := Put_any s f w hT
  rw [h] at this
  exact this
theorem Take_to {b : List UInt8} {f : Int} {s : Sta} (h : takeR b f = some s) (v : Value) (w : World) (hT : TabW w) (hB : Bs w v b) (hl : b.length ≤ 1000000) : Calls Tryd.prog 10 #[v, .int .i64 f] w fun e w' => e = .returned (.tuple #[.agg #[.int .i64 s.idx, .int .i64 s.term, .int .i64 s.sum, .int .i64 s.lvl, .bool s.fin], .int .i64 0]) ∧ Ext w w' := by
  have := STake_any v b f w hT hB hl
  rw [h] at this
  exact this
theorem Take_no {b : List UInt8} {f : Int} (h : takeR b f = none) (v : Value) (w : World) (hT : TabW w) (hB : Bs w v b) (hl : b.length ≤ 1000000) : Calls Tryd.prog 10 #[v, .int .i64 f] w fun e w' => e = .returned (.tuple #[.agg #[.int .i64 0, .int .i64 0, .int .i64 0, .int .i64 0, .bool false], .int .i64 11]) ∧ Ext w w' := by
  have := STake_any v b f w hT hB hl
  rw [h] at this
  exact this
theorem Again_to {b c : List UInt8} {f t k : Int} (h : againR b f t = (k, c)) (v : Value) (w : World) (hT : TabW w) (hB : Bs w v b) (hl : b.length ≤ 1000000) : Calls Tryd.prog 11 #[v, .int .i64 f, .int .i64 t] w fun e w' => ∃ A cc, e = .returned (.tuple #[.slice A c.length cc, .int .i64 k]) ∧ OwnB w' w.heap.size (.slice A c.length cc) c ∧ Ext w w' := by
  have := Again_any v b f t w hT hB hl
  rw [h] at this
  refine this.mono ?_
  rintro e w' ⟨u, rfl, ho, hE⟩
  have ho' : OwnB w' w.heap.size u c := ho
  obtain ⟨A, cc, rfl, _, _⟩ := SlR.open_ (SlR.of_own ho')
  exact ⟨A, cc, rfl, ho', hE⟩
def sW : Sta := ⟨0, 0, 0, 1, false⟩
theorem w_put1 : putR sW 1 = some (put1 sW) := rfl
theorem w_put2 : putR sW 2 = some (put2 sW) := rfl
theorem w_put3 : putR sW 3 = none := rfl
theorem w_putZ : putR ⟨0, 0, 0, 0, false⟩ 1 = none := rfl
theorem w_len1 : (put1 sW).length = 22 := put1_len sW
theorem shorts_w : shorts sW.ints = [0, 0, 0, 1, 0] := by decide
theorem w_len2 : (put2 sW).length = 15 := by rw [put2_len, shorts_w]; rfl
theorem w_take2 : takeR (put2 sW) 2 = some sW := takeR_put w_put2
theorem w_take1 : takeR (put2 sW) 1 = none := by
  have : readS (put2 sW) 1 = none := by
    unfold readS read1S
    rw [if_neg (by decide), if_neg (by rw [w_len2]; decide)]
  unfold takeR
  rw [this]
theorem w_again : againR (put1 sW) 1 2 = (0, put2 sW) := by
  unfold againR
  rw [takeR_put w_put1]
  rfl
theorem w_at1 : (put1 sW)[0]? = some 1 ∧ (put1 sW)[16]? = some 1 ∧ (put1 sW)[17]? = some 0 := by
  have e : put1 sW = (1 :: (longs [sW.idx, sW.term, sW.sum] ++ [UInt8.ofNat sW.lvl.toNat, UInt8.ofNat sW.finI.toNat])) ++ fourU (nextN 0 (1 :: (longs [sW.idx, sW.term, sW.sum] ++ [UInt8.ofNat sW.lvl.toNat, UInt8.ofNat sW.finI.toNat]))) := rfl
  have e2 : (1 :: (longs [sW.idx, sW.term, sW.sum] ++ [UInt8.ofNat sW.lvl.toNat, UInt8.ofNat sW.finI.toNat])) = [1, 0, 0, 0, 0, 0, 0, 0, 0, 0, 0, 0, 0, 0, 0, 0, 1, 0] := by decide
  rw [e, e2]
  exact ⟨rfl, rfl, rfl⟩
theorem w_at2 : (put2 sW)[0]? = some 2 ∧ (put2 sW)[1]? = some 2 := by
  unfold put2
  rw [shorts_w]
  exact ⟨rfl, rfl⟩

theorem bs_cells {W : World} {A : Option Addr} {m c : Nat} {l : List UInt8} (h : Bs W (.slice A m c) l) (h0 : 0 < l.length) : ∃ b off, A = some ⟨b, off, none⟩ ∧ ∀ (k : Nat) (x : UInt8), l[k]? = some x → W.cell? ⟨b, off + k, none⟩ = some (.int .u8 (x.toNat : Int)) := by
  obtain ⟨_, b, off, rfl, hc⟩ := Bs.at_ h h0
  refine ⟨b, off, rfl, fun k x hx => ?_⟩
  obtain ⟨hk, e⟩ := List.getElem?_eq_some_iff.1 hx
  rw [hc k hk, e]

set_option maxHeartbeats 1000000 in
theorem wakes9_any (w : World) (hT : TabW w) : Calls Tryd.prog 9 #[] w fun e w' => e = .returned (.bool true) ∧ Ext w w' := by
  have HT := Lib.hid hT
  clear hT
  have hb := Blk.new w 23 #[.int .i64 0, .int .i64 0, .int .i64 0, .int .i64 1, .bool false]
  have hX : Ext w (w.alloc (.cells #[.int .i64 0, .int .i64 0, .int .i64 0, .int .i64 1, .bool false] 23)) := Ext.alloc (Ext.refl _) _
  have heq := staEq_run sW sW
  unfold sW at heq
  have hgd := staGuard
  dsimp only at heq
  obtain ⟨a1, a2, a3⟩ := w_at1
  obtain ⟨d1, d2⟩ := w_at2
  have l1 := w_len1
  have l2 := w_len2
  obtain ⟨B, hB⟩ : ∃ B, put1 sW = B := ⟨_, rfl⟩
  obtain ⟨C, hC⟩ : ∃ C, put2 sW = C := ⟨_, rfl⟩
  have P1 : Hid (putR ⟨0, 0, 0, 1, false⟩ 1 = some B) := by rw [Hid, ← hB]; exact w_put1
  have P2 : Hid (putR ⟨0, 0, 0, 1, false⟩ 2 = some C) := by rw [Hid, ← hC]; exact w_put2
  have P3 : Hid (putR ⟨0, 0, 0, 1, false⟩ 3 = none) := w_put3
  have P4 : Hid (putR ⟨0, 0, 0, 0, false⟩ 1 = none) := w_putZ
  have T2 : Hid (takeR C 2 = some ⟨0, 0, 0, 1, false⟩) := by rw [Hid, ← hC]; exact w_take2
  have T1 : Hid (takeR C 1 = none) := by rw [Hid, ← hC]; exact w_take1
  have Ag : Hid (againR B 1 2 = (0, C)) := by rw [Hid, ← hB, ← hC]; exact w_again
  rw [hB] at a1 a2 a3 l1
  rw [hC] at d1 d2 l2
  clear hB hC
  have A1 := Lib.hid a1
  have A2 := Lib.hid a2
  have A3 := Lib.hid a3
  have D1 := Lib.hid d1
  have D2 := Lib.hid d2
  have L1 := Lib.hid l1
  have L2 := Lib.hid l2
  clear a1 a2 a3 d1 d2 l1 l2
  obtain ⟨g0, g1, g2, g3, g4⟩ := blk5 hb
  go_enter Tryd.func9, Tryd.ntmps9
  clear g0 g1 g2 g3 g4
  go_wp2_with fail
  refine (Put_some P1.out _ (HT.out.ext hX)).mono ?_
  rintro e w1 ⟨Ab, cb, rfl, hob, hE1⟩
  obtain ⟨g0, g1, g2, g3, g4⟩ := blk5 (hb.ext hE1)
  have F1 := Ext.trans hX hE1
  go_wp2_with fail
  refine (Put_some P2.out _ (HT.out.ext F1)).mono ?_
  rintro e w2 ⟨Ac, cc, rfl, hoc, hE2⟩
  have F2 := Ext.trans F1 hE2
  have hBb : Bs w2 (.slice Ab B.length cb) B := SlR.of_own (own_ext hob hE2)
  have hBc : Bs w2 (.slice Ac C.length cc) C := SlR.of_own hoc
  have hb2 := hb.ext (Ext.trans hE1 hE2)
  clear g0 g1 g2 g3 g4 hob hoc hb hE1 hE2 hX F1
  generalize w.heap.size = n at *
  go_wp2_with fail
  refine (Take_to T2.out _ _ (HT.out.ext F2) hBc (by rw [L2.out]; omega)).mono ?_
  rintro e w3 ⟨rfl, hE3⟩
  have hb3 := Blk.new w3 23 #[.int .i64 0, .int .i64 0, .int .i64 0, .int .i64 1, .bool false]
  have E3 : Ext w2 (w3.alloc (.cells #[.int .i64 0, .int .i64 0, .int .i64 0, .int .i64 1, .bool false] 23)) := Ext.alloc hE3 _
  go_wp2_with fail
  refine (Take_no T1.out _ _ (HT.out.ext (Ext.trans F2 E3)) (hBc.ext E3) (by rw [L2.out]; omega)).mono ?_
  rintro e w4 ⟨rfl, hE4⟩
  have E4 : Ext w2 (w4.alloc (.cells #[.int .i64 0, .int .i64 0, .int .i64 0, .int .i64 0, .bool false] 23)) := Ext.alloc (Ext.trans E3 hE4) _
  have hb4 := (hb3.ext hE4).alloc (.cells #[.int .i64 0, .int .i64 0, .int .i64 0, .int .i64 0, .bool false] 23)
  obtain ⟨g0, g1, g2, g3, g4⟩ := blk5 (hb2.ext E4)
  generalize w3.heap.size = n3 at *
  go_wp2_with fail
  refine (Put_none P3.out _ (HT.out.ext (Ext.trans F2 E4))).mono ?_
  rintro e w5 ⟨rfl, hE5⟩
  have E5 := Ext.trans E4 hE5
  clear g0 g1 g2 g3 g4
  go_wp2_with fail
  refine (Put_none P4.out _ (HT.out.ext (Ext.trans F2 E5))).mono ?_
  rintro e w6 ⟨rfl, hE6⟩
  have E6 := Ext.trans E5 hE6
  go_wp2_with fail
  refine (Again_to Ag.out _ _ (HT.out.ext (Ext.trans F2 E6)) (hBb.ext E6) (by rw [L1.out]; omega)).mono ?_
  rintro e w7 ⟨Ad, cd, rfl, hod, hE7⟩
  have E7 := Ext.trans E6 hE7
  have hBd : Bs w7 (.slice Ad C.length cd) C := SlR.of_own hod
  have hBc7 := hBc.ext E7
  obtain ⟨g0, g1, g2, g3, g4⟩ := blk5 (hb2.ext E7)
  obtain ⟨h0, h1, h2, h3, h4⟩ := blk5 (hb4.ext (Ext.trans hE5 (Ext.trans hE6 hE7)))
  obtain ⟨bb, ob, rfl, cB⟩ := bs_cells (hBb.ext E7) (by rw [L1.out]; omega)
  obtain ⟨bc, oc, rfl, cC⟩ := bs_cells hBc7 (by rw [L2.out]; omega)
  have b0 := cB _ _ A1.out
  have b16 := cB _ _ A2.out
  have b17 := cB _ _ A3.out
  have c0 := cC _ _ D1.out
  have c1 := cC _ _ D2.out
  have hS := same9_any _ _ _ _ w7 hBd hBc7
  rw [decide_eq_true rfl] at hS
  have HS := Lib.hid hS
  have F7 := Ext.trans F2 E7
  clear hS cB cC hBd hBc7 hod hBb hBc hb2 hb4 E3 E4 E5 E6 hE3 hE4 hE5 hE6 hE7 P1 P2 P3 P4 T1 T2 Ag
  rw [L1.out, L2.out] at *
  simp only [Nat.add_zero, UInt8.reduceToNat] at b0 b16 b17 c0 c1
  go_wp2_with fail
  refine HS.out.mono ?_
  rintro e w8 ⟨rfl, hE8⟩
  go_wp2_with fail
  go_ret
  exact ⟨rfl, Ext.trans F7 hE8⟩
end Go.Proofs.YtkpdlkikkcnhiaaDoor

namespace Go.Proofs.YtkpdlkikkcnhiaaDoor
open Go.ChangeShapes Go.WideShapes Go.ChangeAt Go.RowKit Go.Deep Go.Mv
set_option maxRecDepth 100000

theorem own : ownKnob Tryd.prog.godebug = none := by kernel_rfl
theorem laidOut : laidOutB Tryd.prog = true := by kernel_rfl
theorem cellsInt : Tryd.prog.cellsOf 3 = 1 := by kernel_rfl
theorem cellsU8 : Tryd.prog.cellsOf 5 = 1 := by kernel_rfl

instance : Inhabited Ent := ⟨⟨0, 0, 0⟩⟩

theorem slr_of_cells {w : World} {a : Addr} {size n c : Nat} {xs : List Value} (hl : xs.length = n * size) (h1 : n ≤ c) (h2 : c ≤ maxLen) (hs : 0 < size) (h : ∀ j u, xs[j]? = some u → w.cell? (a.add j) = some u) : SlR w size (.slice (some a) n c) n xs := by
  refine ⟨hl, _, c, rfl, h1, h2, fun hn => ?_⟩
  obtain ⟨b, off, sp⟩ := a
  have h0 : 0 < xs.length := by rw [hl]; exact Nat.mul_pos hn hs
  have hc := h 0 xs[0] (List.getElem?_eq_getElem h0)
  cases sp with
  | none =>
    refine ⟨b, off, rfl, fun j u hu => ?_⟩
    have := h j u hu
    rwa [show (⟨b, off, none⟩ : Addr).add j = ⟨b, off + j, none⟩ from by unfold Addr.add; split <;> simp_all] at this
  | some k =>
    exfalso
    unfold World.cell? Addr.add at hc
    simp at hc
    split at hc <;> simp_all

section
variable {H : Type} {enc : TypeId × Value → H} {W : World} {base : Nat} {v : Value} {d : DataW H} {p : List MemPlace}
theorem bs_of_trod (hv : Value.okWide Tryd.prog W .any base 24 v) (h : DataW.Trod enc Tryd.prog W 0 (fun _ => true) true 24 v d p) : ∃ bs, Bs W v bs := by
  obtain ⟨a0, len, cap, rfl⟩ := okWide_slice Tryd.underlying24 hv
  obtain ⟨fuel, hf⟩ := h
  have hf' : DataW.trod enc Tryd.prog W 0 (fun _ => true) true fuel 24 [.slice a0 len cap] = some (d, p) := by simpa [Value.cells] using hf
  rcases open_ints Tryd.underlying24 Tryd.underlying5 cellsU8 hf' with ⟨hcs, _⟩ | ⟨a, len', cap', zs, hcs, hb, hl, hm, hz, hx, hcell, hw⟩
  · cases hcs; exact ⟨[], SlR.nil _ 1⟩
  · cases hcs
    have hzc : zs.length = cap := by simpa using hz
    refine ⟨(zs.take len).map (fun n => UInt8.ofNat n.toNat), ?_⟩
    unfold Bs
    rw [List.length_map, List.length_take, Nat.min_eq_left (by omega)]
    refine slr_of_cells (by simp; omega) hl hm (by decide) (fun j u hu => ?_)
    have hj := (List.getElem?_eq_some_iff.1 hu).1
    simp only [List.length_map, List.length_take, Nat.lt_min] at hj
    rw [hcell j (by omega), ← hu]
    have hwf := hw (zs[j]'(by omega)) (List.getElem_mem _)
    have hr : 0 ≤ zs[j]'(by omega) ∧ zs[j]'(by omega) ≤ 255 := by simpa [Lit.wf, IntKind.min, IntKind.max, IntKind.signed, IntKind.bits] using hwf
    have h1 : zs.getD j 0 = zs[j]'(by omega) := by simp [List.getD, List.getElem?_eq_getElem (show j < zs.length by omega)]
    rw [h1]
    have h2 : ((List.map (fun n : Int => UInt8.ofNat n.toNat) (zs.take len)).map bv)[j]? = some (bv (UInt8.ofNat (zs[j]'(by omega)).toNat)) := by
      simp [List.getElem?_map, List.getElem?_take, hj.1, List.getElem?_eq_getElem (show j < zs.length by omega)]
    rw [h2]
    simp [bv]
    omega
end
section
variable {H : Type} {enc : TypeId × Value → H} {P : Program}
theorem post_of_below {f : Func} {s : ChangeSpec} {apart fresh handsOn again : Bool} {W W' : World} {args : Array Value} {v : Value} {ds gs : List (DataW H)} {before pa pv : List MemPlace}
    (hW : DataW.Whole enc P f.params.toList s.vars apart W args.toList ds gs before)
    (hres : ∀ (b : Nat) (sp : Nat → Bool) (hd : Bool), DataW.TrodAll enc P W' b sp hd f.resultTypes.toList (v.resultList f.resultTypes.size) (s.fn H (ds ++ gs)).results [])
    (hargs : ∀ sp : Nat → Bool, (∀ p ∈ before, sp p.block = true) → DataW.TrodAll enc P W' 0 sp true f.params.toList args.toList (s.fn H (ds ++ gs)).args pa)
    (hvars : ∀ sp : Nat → Bool, (∀ p ∈ before, sp p.block = true) → DataW.TrodVars enc P W' sp s.vars (s.fn H (ds ++ gs)).vars pv)
    (hps : before = pa ++ pv) (hb : Below W.heap.size W W')
    (hok : ∀ (j : Nat) (t : TypeId) (r : Value), f.resultTypes[j]? = some t → (v.resultList f.resultTypes.size)[j]? = some r → Value.okWide P W' .any 0 t r) :
    s.post enc P f apart fresh handsOn again W args v W' := by
  have hlt : ∀ p ∈ before, p.block < W.heap.size := fun p hp => hW.lt p hp
  have hold : ∀ p ∈ before, (fun b => decide (b < W.heap.size)) p.block = true := fun p hp => by simpa using hlt p hp
  refine ⟨ds, gs, before, [], pa, pv, hW, hres _ _ _, hargs _ hold, hvars _ hold, World.keptBut_mono (fun p hp => ⟨hp, ?_⟩) (hb.frame (· ∈ before)), fun _ => ?_⟩
  · rw [hps, List.mem_append] at hp
    exact Or.inr hp
  · obtain ⟨_, _, _, _, _, hz, hn⟩ := hW
    refine ⟨hok, _, _, ([] ++ pa) ++ pv, ⟨[] ++ pa, pv, trodAll_append (hargs _ (fun _ _ => rfl)) (hres _ _ _), hvars _ (fun _ _ => rfl), rfl, ?_, ?_⟩, ?_⟩
    · intro b off hp
      have hin : MemPlace.cell b off ∈ before := by rw [hps]; simpa using hp
      rw [hb.frozen (hlt _ hin)]
      exact hz b off hin
    · intro ha
      have := hn ha
      rw [hps] at this
      simpa using this
    · intro p hp _
      rw [hps]
      simpa using hp
end
end Go.Proofs.YtkpdlkikkcnhiaaDoor

namespace Go.Proofs.YtkpdlkikkcnhiaaDoor
open Go.ChangeShapes Go.WideShapes Go.ChangeAt Go.RowKit Go.Deep Go.Mv Go.WideElems
set_option maxRecDepth 100000

def laidL : List (String × DataW Unit) := [("moult/crc.rows", Rows.laid_moult_crc_rows)]
theorem gRows : Tryd.prog.globalNamed "moult/crc.rows" = some 1 := by kernel_rfl
theorem tRows : (Tryd.prog.globals[1]?).map (·.type) = some 90 := by kernel_rfl
theorem cU32 : Tryd.prog.cellsOf 72 = 1 := by kernel_rfl
theorem cRows : Tryd.prog.cellsOf 90 = 16 := by kernel_rfl
theorem door_met (os : Os) (args : Array Value) : laidMetH Tryd.prog laidL ((World.doorLaid Tryd.prog 400 os).forCall (fun _ _ => 0) ⟨#[], args, []⟩).memory :=
  laidMetH_of_parts3 (fuel := 8) (laidMet_of_run' 8 (by kernel_rfl) (by kernel_rfl)) (by kernel_rfl) (by kernel_rfl)
theorem tabW_of_laid {W : World} (h : laidMetH Tryd.prog laidL W) : TabW W := by
  rw [MakeChecks.laidMetH_plain _ _ _ (by kernel_rfl)] at h
  have ht : Lib.TabIs Tryd.prog W "moult/crc.rows" .u32 (crcTab.map Int.ofNat) := Lib.tabIs_of_head (rest := []) gRows tRows Tryd.underlying90 Tryd.underlying72 cU32 cRows h
  intro i hi
  have := ht.cell gRows i (by simpa [crcTab] using hi)
  rw [this]
  congr 2
  simp [List.getD_eq_getElem?_getD, List.getElem?_map]
  cases crcTab[i]? <;> simp
section
variable {H : Type} {enc : TypeId × Value → H} {W : World} {base : Nat} {v : Value} {d : DataW H} {p : List MemPlace}
theorem sta_of_trod (hv : Value.okWide Tryd.prog W .any base 23 v) (h : DataW.Trod enc Tryd.prog W 0 (fun _ => true) true 23 v d p) : ∃ s : Sta, v = .agg #[.int .i64 s.idx, .int .i64 s.term, .int .i64 s.sum, .int .i64 s.lvl, .bool s.fin] := by
  obtain ⟨cs, rfl, hsz⟩ := okWide_struct Tryd.underlying23 hv
  have hc : Tryd.prog.cellsOf 23 = 5 := by kernel_rfl
  have hcb : Tryd.prog.cellsOf 4 = 1 := by kernel_rfl
  rw [hc] at hsz
  obtain ⟨l⟩ := cs
  match l, hsz with
  | [c0, c1, c2, c3, c4], _ =>
  obtain ⟨fuel, hf⟩ := h
  obtain ⟨xs, n', _, _, _, hxl, hf⟩ := DataW.trod_struct Tryd.underlying23 hf
  have g0 := hf 0 _ rfl
  have g1 := hf 1 _ rfl
  have g2 := hf 2 _ rfl
  have g3 := hf 3 _ rfl
  have g4 := hf 4 _ rfl
  have hxl' : xs.length = 5 := hxl
  match xs, hxl' with
  | [x0, x1, x2, x3, x4], _ =>
    obtain ⟨n0, e0, _, _⟩ := DataW.trod_int Tryd.underlying3 g0
    obtain ⟨n1, e1, _, _⟩ := DataW.trod_int Tryd.underlying3 g1
    obtain ⟨n2, e2, _, _⟩ := DataW.trod_int Tryd.underlying3 g2
    obtain ⟨n3, e3, _, _⟩ := DataW.trod_int Tryd.underlying3 g3
    obtain ⟨n4, e4, _⟩ := DataW.trod_bool Tryd.underlying4 g4
    have k0 : c0 = .int .i64 n0 := by have h : List.take (Tryd.prog.cellsOf 3) [c0, c1, c2, c3, c4] = [Value.int .i64 n0] := e0; rw [cellsInt] at h; simpa using h
    have k1 : c1 = .int .i64 n1 := by have h : List.take (Tryd.prog.cellsOf 3) [c1, c2, c3, c4] = [Value.int .i64 n1] := e1; rw [cellsInt] at h; simpa using h
    have k2 : c2 = .int .i64 n2 := by have h : List.take (Tryd.prog.cellsOf 3) [c2, c3, c4] = [Value.int .i64 n2] := e2; rw [cellsInt] at h; simpa using h
    have k3 : c3 = .int .i64 n3 := by have h : List.take (Tryd.prog.cellsOf 3) [c3, c4] = [Value.int .i64 n3] := e3; rw [cellsInt] at h; simpa using h
    have k4 : c4 = .bool n4 := by have h : List.take (Tryd.prog.cellsOf 4) [c4] = [Value.bool n4] := e4; rw [hcb] at h; simpa using h
    subst k0 k1 k2 k3 k4
    exact ⟨⟨n0, n1, n2, n3, n4⟩, rfl⟩
end
end Go.Proofs.YtkpdlkikkcnhiaaDoor
