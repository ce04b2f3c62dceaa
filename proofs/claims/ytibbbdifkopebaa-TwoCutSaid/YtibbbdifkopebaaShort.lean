/-
  The walks of num.Short's functions.
-/
import Derived.Test.YtibbbdifkopebaaDigits
set_option linter.all false
namespace Go.Proofs.Ytibbbdifkopebaa
open Go.RowKit Go.Mv Go.Shelf
attribute [local go_sem] Oper.semAt_some

theorem info_u8 : (Try.prog.info? 5).map (fun i => (i.zero, i.size, i.bytes)) = some (some (.int .u8 0), 1, 1) := by kernel_rfl
theorem u8_or128' (d : UInt8) : bits .or .u8 (d.toNat : Int) 128 = ((d ||| 128).toNat : Int) := by
  have h := (bits_nat .u8 8 (by decide) wraps_u8 d.toNat 128 d.toNat_lt (by decide)).2
  have e : ((128 : Nat) : Int) = 128 := rfl
  rw [e] at h
  rw [h]
  simp
theorem u8_and127' (d : UInt8) : bits .and .u8 (d.toNat : Int) 127 = ((d &&& 127).toNat : Int) := by
  have h := (bits_nat .u8 8 (by decide) wraps_u8 d.toNat 127 d.toNat_lt (by decide)).1
  have e : ((127 : Nat) : Int) = 127 := rfl
  rw [e] at h
  rw [h]
  simp

/-- What an appending call leaves: the row grown to bs. -/
def OwnPost (base : Nat) (w : World) (bs : List UInt8) (e : Ending) (w' : World) : Prop :=
  ∃ v', e = .returned v' ∧ w'.ownsRow base 5 1 v' bs.length (bs.map bv) ∧ Below base w w'

def ShI (base N : Nat) (w : World) (bs pre : List UInt8) (X : World) : Prop :=
  ∃ v, Boxed X N 24 v ∧ X.ownsRow base 5 1 v (bs ++ pre.map (· ||| 128)).length ((bs ++ pre.map (· ||| 128)).map bv) ∧ Below base w X

theorem digRec_len (bits n : Nat) (fw : Bool) (k : Nat) : 1 ≤ (digRec bits n fw k).length ∧ (digRec bits n fw k).length ≤ k + 1 := by
  induction k generalizing fw with
  | zero => simp [digRec]
  | succ k ih =>
    rw [digRec]
    split
    · have := ih fw; omega
    · have := ih false; simp; omega

theorem digRec_last (bits n : Nat) (fw : Bool) (k : Nat) : ∃ hi, digRec bits n fw k = hi ++ [UInt8.ofNat (n % 2 ^ bits)] := by
  induction k generalizing fw with
  | zero => exact ⟨[], rfl⟩
  | succ k ih =>
    rw [digRec]
    split
    · exact ih fw
    · obtain ⟨hi, h⟩ := ih false
      exact ⟨_ :: hi, by rw [h]; rfl⟩
/-- A number's short bytes. -/
def short1 (n : Nat) : List UInt8 := (digRec 7 n true 4).dropLast.map (· ||| 128) ++ [UInt8.ofNat (n % 128)]

set_option maxRecDepth 100000 in
set_option maxHeartbeats 1000000 in
theorem Short1_any (bs : List UInt8) (n : Nat) (hn : n ≤ 1073741824) (vb : Value) (base : Nat) (w : World) (hown : w.ownsRow base 5 1 vb bs.length (bs.map bv)) (hbase : base ≤ w.heap.size) (hlen : bs.length + 5 ≤ 1099511627776) :
    Calls Try.prog 42 #[vb, .int .i64 n] w (OwnPost base w (bs ++ short1 n)) := by
  obtain ⟨A, cc, rfl, _, _⟩ := SlR.open_ (SlR.of_own hown)
  refine (callsIn_wd (ro := none) (n := 9)).1 ?_
  refine callsIn_of_wp_marks Try.func42 rfl trivial ?_ rfl
  simp only [Try.ntmps42, List.size_toArray, List.length_cons, List.length_nil, Nat.reduceAdd, Nat.reduceSub, Array.replicate_succ, Array.replicate_zero, List.push_toArray, List.append_toArray, List.nil_append, List.cons_append]
  gi_wp2_with (refine ⟨trivial, ?_⟩; gi_at_call 43; refine (callsIn_wd.2 (digits_any n 7 5 true _)).mono ?_; rintro e w' ⟨rfl, rfl⟩)
  have hN : w.heap.size + 5 = (digW (w.alloc (Obj.cells #[Value.slice A bs.length cc] 24)) n 7 5 true).heap.size := by rw [(digW_boxes _ n 7 5 true).1]; simp
  obtain ⟨_, q1, q2, q3, q4, qe⟩ := digW_boxes (w.alloc (Obj.cells #[Value.slice A bs.length cc] 24)) n 7 5 true
  generalize digW (w.alloc (Obj.cells #[Value.slice A bs.length cc] 24)) n 7 5 true = w2 at *
  simp only [World.size_alloc] at q1 q2 q3 q4
  have h0 : ShI base w.heap.size w bs [] w2 := by
    refine ⟨_, (Boxed.new w _ _).kept (W' := w2) (row := none) (Ext.grown qe none) (by simp), ?_, ?_⟩
    · have h1 := hown.alloc (Obj.cells #[Value.slice A bs.length cc] 24)
      simpa using h1.kept (w' := w2) (row := none) (Ext.grown qe none) (by cases A <;> simp [Value.ownBlock])
    · exact (((Below.refl base w).alloc hbase _).trans (qe.mono (by simp; omega)))
  refine wp_range (a := ⟨_, _⟩) rfl (enters_of Try.func61 (by kernel_rfl) rfl)
    (fun W1 hb _ => digits1_seq 7 n 5 true (.inl rfl) hn (by omega) (by omega) (w.heap.size + 1 + 2) (w.heap.size + 1) (w.heap.size + 1 + 1) (w.heap.size + 1 + 3) (by omega) (by omega) W1
      (q3.kept (row := none) (Ext.grown hb none) (by simp)) (q1.kept (row := none) (Ext.grown hb none) (by simp))
      (q2.kept (row := none) (Ext.grown hb none) (by simp)) (q4.kept (row := none) (Ext.grown hb none) (by simp)))
    (fun k o h => isCells_of_ty h.2) (fun k o h => by rcases h with h | h <;> exact isCells_of_ty h.2) (fun x av W h => by rw [h]; rfl)
    (ShI base w.heap.size w bs) (fun _ _ _ => False) ?hI (fun _ _ _ _ h _ => h) h0
    (fun x a' _ => a' = ⟨#[.slice A bs.length cc, .int .i64 n, .pointer (some ⟨w.heap.size, 0, none⟩), undef, .slice none 0 0, .int .u8 x.toNat, .int .i64 n, digF (w.heap.size + 1), .int .u8 x.toNat, undef, undef, undef, undef, undef, undef, undef, undef, undef, undef, undef, undef, undef, undef], []⟩)
    (fun _ _ _ _ h _ => h) ?assign ?body ?done ?stop
  case hI =>
    rintro s X Y ⟨v, hv, hr, hB⟩ hm
    refine ⟨v, hm.boxed hv ?_, hm.ownsRow hr ?_, hm.belowOf hB ?_ hbase⟩
    · rintro (h | h)
      · have := h.1; omega
      · cases h.2
    · rintro k cur _ (h | h)
      · cases h.2
      · cases h.2
    · rintro k o hk (h | h)
      · have := h.1; omega
      · have := h.1; omega
  case assign =>
    rintro l pre x post W av K' hx hi hsz rfl hK
    simp only [bv]
    gi_wp2
    exact hK _ _ Kept.refl hi rfl
  case body =>
    rintro l pre x post a' W hx hl hr ⟨v, hv, hrow, hB⟩ hsz rfl
    have hm : (bs ++ List.map (fun x => x ||| 128) pre).length = bs.length + pre.length := by simp
    rw [hm] at hrow
    obtain ⟨A', c', rfl, _, _⟩ := SlR.open_ (SlR.of_own hrow)
    have hpl : pre.length ≤ 4 := by
      have := congrArg List.length hx
      have := digRec_len 7 n true 4
      simp at *; omega
    obtain ⟨i0, hi, hz0, hz1, hz2⟩ := info_parts info_u8
    have hc := hv.cell
    have hx8 := u8_or128' x
    have hne := hv.not_row (e := 5) (by decide) hrow
    gi_wp2_with (gi_at_builtin; refine wpListIn_append_own _ rfl (.tmp 9) (.tmp 12) 24 rfl base 5 i0 (.int .u8 0) 1 1 Try.underlying24 hi hz0 hz1 hz2 rfl (by decide) (.slice A' (bs.length + pre.length) c') (bs.length + pre.length) ((bs ++ List.map (fun x => x ||| 128) pre).map bv) rfl (hrow.alloc _) ⟨W.heap.size, 0, none⟩ 1 1 [.int .u8 ((x ||| 128).toNat : Int)] rfl rfl (cell_one_new _ _ _) (by simp [Value.oneCell']) (by simp [maxLen]; omega) (by simp; omega) (by have := hB.size; simp; omega) ?_; intro v' w1 hown' hgrow _; obtain ⟨g', cap', rfl, _, _, _⟩ := ownsRow_pos hown' (by omega); have hv1 := (hv.alloc _).kept hgrow hne; have hc1 := hv1.cell; have hf1 := hv1.frozen)
    refine ⟨Kept.appended _ hv hrow hgrow ?_ ?_, _, hv1.set _, ?_, ?_⟩
    · rintro ((⟨_, h⟩ | ⟨_, h⟩) | ⟨_, h⟩) <;> cases h
    · rintro k cur _ ((⟨_, h⟩ | ⟨_, h⟩) | ⟨_, h⟩) <;> cases h
    · have h := hown'.kept (grownBy_setCell' w1 w.heap.size (.slice (some ⟨g', 0, none⟩) (bs.length + pre.length + 1) cap')) (.inr (hv1.not_row (by decide) hown').symm)
      simpa [bv, Nat.add_assoc] using h
    · refine (((hB.alloc (by have := hB.size; omega) _).grown hgrow (by have := hB.size; simp; omega) (fun k ek => ?_)).setCell (p := ⟨w.heap.size, 0, none⟩) hbase _)
      exact (hrow.lt k ek).1
  case done =>
    rintro D W hD ⟨v, hv, hrow, hB⟩ hK
    obtain ⟨hi, hdd⟩ := digRec_last 7 n true 4
    have hsp : bs ++ short1 n = bs ++ hi.map (· ||| 128) ++ [UInt8.ofNat (n % 128)] := by simp [short1, hdd]
    have hlo : (UInt8.ofNat (n % 2 ^ 7) ||| 128) &&& 127 = UInt8.ofNat (n % 128) := by
      have h1 : n % 2 ^ 7 < 128 := Nat.mod_lt _ (by decide)
      have h2 : ∀ m : Nat, m < 128 → (UInt8.ofNat m ||| 128) &&& 127 = UInt8.ofNat m := by decide
      exact h2 _ h1
    have hm : bs ++ List.map (fun x => x ||| 128) (digRec 7 n true (5 - 1)) = (bs ++ hi.map (· ||| 128)) ++ [UInt8.ofNat (n % 2 ^ 7) ||| 128] := by simp [hdd]
    rw [hm] at hrow
    generalize bs ++ hi.map (· ||| 128) = ys at *
    generalize UInt8.ofNat (n % 2 ^ 7) ||| 128 = z at *
    have hyl : (ys ++ [z]).length = ys.length + 1 := by simp
    rw [hyl] at hrow
    obtain ⟨g, cap, rfl, hbg, hle1, hle2⟩ := ownsRow_pos hrow (by omega)
    have hc := hv.cell
    have hf := hrow.frozenAt ys.length
    have hcl : W.cell? ⟨g, ys.length, none⟩ = some (.int .u8 z.toNat) := by rw [hrow.cellAt ys.length (by omega)]; simp [bv]
    have h127 := u8_and127' z
    have Hlo := Lib.hid hlo
    have Hsp := Lib.hid hsp
    have hN' : w.heap.size ≤ w2.heap.size := by omega
    clear hlo hsp hm hyl hdd h0 hown q1 q2 q3 q4 qe hN
    have hne : w.heap.size ≠ g := fun e => hv.not_row (e := 5) (by decide) hrow (by rw [e]; rfl)
    have hc2 : (W.setCell ⟨g, ys.length, none⟩ (.int .u8 ((z.toNat &&& 127 : Nat) : Int))).cell? ⟨w.heap.size, 0, none⟩ = some (.slice (some ⟨g, 0, none⟩) (ys.length + 1) cap) :=
      (World.cell?_setCell_other _ _ _ _ (fun e => hne (by injection e with e1; exact e1.symm))).trans hc
    gi_wp2
    have hst := (hrow.stored ys.length (.int .u8 ((z.toNat &&& 127 : Nat) : Int))).1
    have hKK := heap_setCell_obj hK rfl ⟨g, ys.length, none⟩ (.int .u8 ((z.toNat &&& 127 : Nat) : Int))
    refine ret_mark hKK _ (results_tmp rfl _ _ _) ⟨_, rfl, ?_, ?_⟩
    · have h := ownsRow_putObj hst (.deferred none) hKK rfl
      have e : (List.map bv (ys ++ [z])).set ys.length (.int .u8 ((z.toNat &&& 127 : Nat) : Int)) = List.map bv (ys ++ [UInt8.ofNat (n % 128)]) := by
        rw [← Hlo.out]; simp [bv]
      rw [e] at h
      rw [Hsp.out]
      simpa using h
    · exact below_putObj (hB.setCell (p := ⟨g, ys.length, none⟩) hbg _) (by omega) _
  case stop =>
    rintro D c pre W _ _ h _
    exact h.elim
end Go.Proofs.Ytibbbdifkopebaa
