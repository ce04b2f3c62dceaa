/-
  The walk of either.Turn.
  The walks of either's heads, Which.
  The walks of slices.Equal of entries, either.Alike, moultlaw10.same.
  The plain law of TwoBack.
  Plain laws: segments of either format.
-/
import Derived.Test.YtfjcnpigpkcfgaaGreatM16
import Derived.Deep.QuietTactic
import Derived.BigQuiet
set_option linter.all false
namespace Go.Proofs.YtfjcnpigpkcfgaaGreat
open Go.RowKit Go.Mv
set_option maxRecDepth 100000
variable {T : Tab}

def turnE (T : Tab) (b : List UInt8) (f t : Int) : Int × List UInt8 :=
  if (f = 1 ∨ f = 2) ∧ (t = 1 ∨ t = 2) then (if (wholeE T b f).err = 0 then fileE T t (wholeE T b f).first (wholeE T b f).log else ((wholeE T b f).err, [])) else (2, [])

def fmtV (f : Int) : Value := if f = 1 then .iface 62 (.agg #[]) else if f = 2 then .iface 63 (.agg #[]) else .nilIface
theorem fmt_one (W : World) (r : Nat) (h : W.heap[r]? = some (.map fmtMap 2)) (f : Int) :
    (Instr.lookup 49 (.map (some r)) (.int .i64 f) false).run Tryz.prog W = .ok (fmtV f) W := (fmt_look W r h f).2

set_option maxHeartbeats 1000000 in
theorem TurnE_bad1 (v : Value) (bs : List UInt8) (f t : Int) (w : World) (hB : Bs w v bs) (h : ¬ (f = 1 ∨ f = 2)) : Calls Tryz.prog 16 #[v, .int .i64 f, .int .i64 t] w (ResB w (2, [])) := by
  have hlk := fmt_one _ _ (map_at w) f
  have hX : Ext w (w.alloc (.map fmtMap 2)) := Ext.alloc (Ext.refl _) _
  have hv : fmtV f = .nilIface := by unfold fmtV; rw [if_neg (fun q => h (.inl q)), if_neg (fun q => h (.inr q))]
  rw [hv] at hlk
  obtain ⟨A, c, rfl, _, _⟩ := SlR.open_ hB
  clear hB h hv
  go_enter Tryz.func16, Tryz.ntmps16
  go_wp2_with (go_at_call 24; refine (formats_any _).mono ?_; rintro e w' ⟨rfl, rfl⟩)
  go_ret2
  exact resB_nil rfl hX
theorem fmtV1 : fmtV 1 = .iface 62 (.agg #[]) := rfl
theorem fmtV2 : fmtV 2 = .iface 63 (.agg #[]) := rfl
theorem fmtVn {f : Int} (h : ¬ (f = 1 ∨ f = 2)) : fmtV f = .nilIface := by unfold fmtV; rw [if_neg (fun q => h (.inl q)), if_neg (fun q => h (.inr q))]

set_option maxHeartbeats 1000000 in
theorem TurnE_bad2 (v : Value) (bs : List UInt8) (f t : Int) (w : World) (hB : Bs w v bs) (h : f = 1 ∨ f = 2) (ht : ¬ (t = 1 ∨ t = 2)) : Calls Tryz.prog 16 #[v, .int .i64 f, .int .i64 t] w (ResB w (2, [])) := by
  have hlk := fmt_one _ _ (map_at w) f
  have hX1 : Ext w (w.alloc (.map fmtMap 2)) := Ext.alloc (Ext.refl _) _
  have hX : Ext w ((w.alloc (.map fmtMap 2)).alloc (.map fmtMap 2)) := Ext.alloc hX1 _
  have hlk2 := fmt_one _ _ (map_at (w.alloc (.map fmtMap 2))) t
  rw [World.size_alloc, fmtVn ht] at hlk2
  obtain ⟨A, c, rfl, _, _⟩ := SlR.open_ hB
  clear hB ht
  rcases h with rfl | rfl
  · rw [fmtV1] at hlk
    go_enter Tryz.func16, Tryz.ntmps16
    go_wp2_with (go_at_call 24; refine (formats_any _).mono ?_; rintro e w' ⟨rfl, rfl⟩)
    go_ret2
    exact resB_nil rfl hX
  · rw [fmtV2] at hlk
    go_enter Tryz.func16, Tryz.ntmps16
    go_wp2_with (go_at_call 24; refine (formats_any _).mono ?_; rintro e w' ⟨rfl, rfl⟩)
    go_ret2
    exact resB_nil rfl hX
set_option maxHeartbeats 2000000 in
theorem TurnE_known (v : Value) (bs : List UInt8) (f t : Int) (w : World) (hT : TabW T w) (hB : Bs w v bs) (hbl : bs.length ≤ 1000000) (hlog : (wholeE T bs f).log.length ≤ 100000) (h : f = 1 ∨ f = 2) (ht : t = 1 ∨ t = 2) : Calls Tryz.prog 16 #[v, .int .i64 f, .int .i64 t] w (ResB w (if (wholeE T bs f).err = 0 then fileE T t (wholeE T bs f).first (wholeE T bs f).log else ((wholeE T bs f).err, []))) := by
  have hlk := fmt_one _ _ (map_at w) f
  have hX1 : Ext w (w.alloc (.map fmtMap 2)) := Ext.alloc (Ext.refl _) _
  have hX : Ext w ((w.alloc (.map fmtMap 2)).alloc (.map fmtMap 2)) := Ext.alloc hX1 _
  have hlk2 := fmt_one _ _ (map_at (w.alloc (.map fmtMap 2))) t
  rw [World.size_alloc] at hlk2
  have key := whole_any (T := T) v bs f _ (hB.ext hX) hbl (hT.ext hX)
  obtain ⟨A, c, rfl, _, _⟩ := SlR.open_ hB
  have HT := Lib.hid hT
  clear hB hT
  obtain ⟨r, hr⟩ : ∃ r, wholeE T bs f = r := ⟨_, rfl⟩
  rw [hr] at key hlog ⊢
  clear hr
  obtain ⟨er, first, log, used, pt⟩ := r
  dsimp only at hlog ⊢
  have Key := Lib.hid key
  clear key
  by_cases he : er = 0
  · rw [if_pos he]
    subst he
    have key2 := Lib.hid (fun (W : World) (vl : Value) (hT : TabW T W) (h : Es W vl log) => FileE_any (T := T) t first vl log W hT h hlog)
    obtain ⟨R, hR⟩ : ∃ R, fileE T t first log = R := ⟨_, rfl⟩
    rw [hR] at key2 ⊢
    clear hR
    rcases h with rfl | rfl <;> rcases ht with rfl | rfl
    all_goals
      first | rw [fmtV1] at hlk | rw [fmtV2] at hlk
      first | rw [fmtV1] at hlk2 | rw [fmtV2] at hlk2
      go_enter Tryz.func16, Tryz.ntmps16
      go_wp2_with (go_at_call 24; refine (formats_any _).mono ?_; rintro e w' ⟨rfl, rfl⟩)
      refine Key.out.mono ?_
      rintro e w1 ⟨vl, rfl, ho1, hE1⟩
      dsimp only at ho1
      obtain ⟨A1, c1, rfl, _, _⟩ := SlR.open_ (SlR.of_own ho1)
      have hb := Blk.new w1 29 #[.int .i64 first, .slice A1 log.length c1, .int .i64 used]
      have hX3 : Ext w (w1.alloc (.cells #[.int .i64 first, .slice A1 log.length c1, .int .i64 used] 29)) := Ext.alloc (Ext.trans hX hE1) _
      obtain ⟨g0, g1, g2, f0, f1, f2⟩ := blk3 hb
      have hes : Es (w1.alloc (.cells #[.int .i64 first, .slice A1 log.length c1, .int .i64 used] 29)) (.slice A1 log.length c1) log := Es.ext (SlR.of_own ho1) (Ext.alloc (Ext.refl _) _)
      have key3 := Lib.hid (key2.out _ _ (HT.out.ext hX3) hes)
      dsimp only
      clear ho1 hes hE1 hb
      go_wp2_with fail
      refine key3.out.mono ?_
      rintro e w3 ⟨A3, c3, rfl, ho3, hE3⟩
      go_wp2_with fail
      go_ret2
      exact ⟨A3, c3, rfl, own_base ho3 hX3.size, Ext.trans hX3 hE3⟩
  · rw [if_neg he]
    have hne : ((er : Int) != 0) = true := by simpa using he
    clear he
    rcases h with rfl | rfl <;> rcases ht with rfl | rfl
    all_goals
      first | rw [fmtV1] at hlk | rw [fmtV2] at hlk
      first | rw [fmtV1] at hlk2 | rw [fmtV2] at hlk2
      go_enter Tryz.func16, Tryz.ntmps16
      go_wp2_with (go_at_call 24; refine (formats_any _).mono ?_; rintro e w' ⟨rfl, rfl⟩)
      refine Key.out.mono ?_
      rintro e w1 ⟨vl, rfl, ho1, hE1⟩
      dsimp only at ho1
      obtain ⟨A1, c1, rfl, _, _⟩ := SlR.open_ (SlR.of_own ho1)
      dsimp only
      go_wp2_with fail
      go_ret2
      exact resB_nil rfl (Ext.alloc (Ext.trans hX hE1) _)
theorem TurnE_any (v : Value) (bs : List UInt8) (f t : Int) (w : World) (hT : TabW T w) (hB : Bs w v bs) (hbl : bs.length ≤ 1000000) (hlog : (wholeE T bs f).log.length ≤ 100000) : Calls Tryz.prog 16 #[v, .int .i64 f, .int .i64 t] w (ResB w (turnE T bs f t)) := by
  unfold turnE
  by_cases hf : f = 1 ∨ f = 2
  · by_cases ht : t = 1 ∨ t = 2
    · rw [if_pos ⟨hf, ht⟩]; exact TurnE_known v bs f t w hT hB hbl hlog hf ht
    · rw [if_neg (fun h => ht h.2)]; exact TurnE_bad2 v bs f t w hB hf ht
  · rw [if_neg (fun h => hf h.1)]; exact TurnE_bad1 v bs f t w hB hf
end Go.Proofs.YtfjcnpigpkcfgaaGreat

namespace Go.Proofs.YtfjcnpigpkcfgaaGreat
open Go.RowKit Go.Mv Go.Shelf
attribute [local go_sem] Oper.semAt_some
set_option maxRecDepth 100000
variable {T : Tab}

def headF (T : Tab) (b : List UInt8) (k : Nat) : List Int :=
  if k = 0 then (if (scanE T b 1).err = 0 then [1] else []) ++ (if (scanE T b 2).err = 0 then [2] else [])
  else if k = 1 then (if (scanE T b 2).err = 0 then [2] else []) else []
theorem headF_step (b : List UInt8) (k : Nat) (hk : k < 2) : headF T b k = (if (scanE T b ((k : Int) + 1)).err = 0 then [(k : Int) + 1] else []) ++ headF T b (k + 1) := by
  rcases (by omega : k = 0 ∨ k = 1) with rfl | rfl
  · unfold headF; rfl
  · unfold headF; simp
theorem arr_at (w : World) : (Instr.index 78 (.agg #[.int .i64 1, .int .i64 2]) (.int .i64 0)).run Tryz.prog w = .ok (.int .i64 1) w ∧ (Instr.index 78 (.agg #[.int .i64 1, .int .i64 2]) (.int .i64 1)).run Tryz.prog w = .ok (.int .i64 2) w := ⟨by kernel_rfl, by kernel_rfl⟩
theorem arr_ix (k : Nat) (hk : k < 2) (w : World) : (Instr.index 78 (.agg #[.int .i64 1, .int .i64 2]) (.int .i64 k)).run Tryz.prog w = .ok (.int .i64 ((k : Int) + 1)) w := by
  rcases (by omega : k = 0 ∨ k = 1) with rfl | rfl
  · exact (arr_at w).1
  · exact (arr_at w).2

set_option maxHeartbeats 1000000 in
theorem heads1_seq (wo W0 : World) (v : Value) (bs : List UInt8) (hbs : Bs wo v bs) (hlen : bs.length ≤ 1000000) (hH : Hold wo W0) (hT : TabW T wo) (B bo : Nat) (hB : Boxed W0 B 23 v) (hBo : B ≠ bo) (h1 : wo.heap.size ≤ bo) :
    Seq Tryz.prog 47 #[.pointer (some ⟨B, 0, none⟩)] (fun (x : Int) av _ => av = #[.int .i64 x]) (fun k o => k ≠ bo ∧ o.isCells = true) (fun _ _ => False) (headF T bs 0) W0 := by
  intro l J Jx hJ hJx hY h0
  obtain ⟨A, c, rfl, hb1, hb2⟩ := SlR.open_ hbs
  refine (callsIn_wd (ro := none) (n := 9)).1 ?_
  refine callsIn_of_wp Tryz.func47 rfl trivial ?_ rfl
  simp only [Tryz.ntmps47, List.size_toArray, List.length_cons, List.length_nil, Nat.reduceAdd, Nat.reduceSub, Array.replicate_succ, Array.replicate_zero, List.push_toArray, List.append_toArray, List.nil_append, List.cons_append]
  have Hes := Lib.hid hbs
  have HTT := Lib.hid hT
  clear hbs hT
  obtain ⟨all, hall⟩ : ∃ all, headF T bs 0 = all := ⟨_, rfl⟩
  rw [hall] at hY ⊢
  have HA := Lib.hid hall
  clear hall
  gi_wp2
  gi_loopw [8] (fun j W => ∃ (k : Nat) (pre : List Int), j = .int .i64 k ∧ k ≤ 2 ∧ Hid (all = pre ++ headF T bs k) ∧ Hid (J pre W) ∧ Hold wo W ∧ Boxed W B 23 (.slice A bs.length c) ∧ W0.heap.size ≤ W.heap.size) (fun j _ => 3 - (intOf j).toNat)
  case atStart => exact ⟨0, [], rfl, by omega, HA.out.symm, h0, hH, hB, Nat.le_refl _⟩
  case round =>
    obtain ⟨k, pre, rfl, hkl, HP, HJ, HH, bB, hsz⟩ := hrel
    have c1 := bB.cell
    by_cases hlt : k < 2
    · have hix := arr_ix k hlt
      have hstep := headF_step (T := T) bs k hlt
      have hBp : Bs wr (.slice A bs.length c) bs := SlR.keep Hes.out HH
      have hTr : TabW T wr := HTT.out.hold HH
      have key := ScanE_any (T := T) _ bs ((k : Int) + 1) wr hBp hlen hTr
      have hPP := HP.out
      rw [hstep] at hPP
      obtain ⟨r, hr⟩ : ∃ r, scanE T bs ((k : Int) + 1) = r := ⟨_, rfl⟩
      rw [hr] at key hPP
      obtain ⟨er, first, log, used, pt⟩ := r
      dsimp only at hPP
      have Key := Lib.hid key
      clear key hstep hr hBp hTr
      by_cases he : er = 0
      · subst he
        rw [if_pos rfl] at hPP
        have HPP := Lib.hid hPP
        have Hno := Lib.hid hY
        clear hPP hY
        gi_wp2
        refine ⟨trivial, ?_⟩
        refine (callsIn_wd.2 Key.out).mono ?_
        rintro e w1 ⟨vl, rfl, ho1, hE1⟩
        dsimp only at ho1
        obtain ⟨A1, cc1, rfl, _, _⟩ := SlR.open_ (SlR.of_own ho1)
        dsimp only
        have hX1 : Ext wr (w1.alloc (.cells #[.int .i64 first, .slice A1 log.length cc1, .int .i64 used] 29)) := Ext.alloc hE1 _
        have hJ1 := hJ pre wr _ HJ.out ((Moves.refl.below hE1 (Nat.le_refl _)).alloc (.cells #[.int .i64 first, .slice A1 log.length cc1, .int .i64 used] 29))
        have hsz1 := Nat.le_trans hsz hX1.size
        have hB1 : Boxed (w1.alloc (.cells #[.int .i64 first, .slice A1 log.length cc1, .int .i64 used] 29)) B 23 (.slice A bs.length c) := bB.kept (row := none) (Ext.grown hX1 none) (by simp)
        have hH1 : Hold wo (w1.alloc (.cells #[.int .i64 first, .slice A1 log.length cc1, .int .i64 used] 29)) := fun q u hq => Ext.cell hX1 (HH q u hq)
        have hy := Hno.out pre ((k : Int) + 1) _ HPP.out _ #[.int .i64 ((k : Int) + 1)] hJ1 hsz1 rfl
        have Hy := Lib.hid hy
        have HH1 := Lib.hid hH1
        clear hy hJ1 hE1 hH1 c1 hX1 ho1
        have c1 := hB1.cell
        gi_wp2
        refine uponIn_yield Hy.out ?_
        rintro e W' ⟨hk', ⟨rfl, hj⟩ | ⟨rfl, hj⟩⟩
        · refine ⟨true, rfl, ?_⟩
          have d1 : Boxed W' B 23 (.slice A bs.length c) := hk'.boxed hB1 (.inl ⟨hBo, rfl⟩)
          have e1 := d1.cell
          have hs' : W0.heap.size ≤ W'.heap.size := Nat.le_trans hsz1 hk'.size
          have HH2 := Lib.hid (Hold.kept HH1.out h1 hk')
          have HJ3 := Lib.hid hj
          have hsp : all = (pre ++ [(k : Int) + 1]) ++ headF T bs (k + 1) := by rw [List.append_assoc]; exact HPP.out
          have Hsp := Lib.hid hsp
          clear hj hk' c1 hsp Hy
          gi_wp2
          exact ⟨⟨k + 1, pre ++ [(k : Int) + 1], by go_num, by omega, Hsp.out, HJ3.out, HH2.out, d1, hs'⟩, by simp [intOf]; omega⟩
        · refine ⟨false, rfl, ?_⟩
          have HJ3 := Lib.hid hj
          clear hj hk' c1
          gi_wp2
          refine bodyPost_ret (results_none rfl _ _ _) rfl ?_
          refine ⟨⟨_, rfl⟩, .inr ⟨pre ++ [(k : Int) + 1], ?_, HJ3.out⟩⟩
          exact ⟨headF T bs (k + 1), by rw [List.append_assoc]; exact HPP.out.symm⟩
      · have hne : ((er : Int) == 0) = false := by simpa using he
        rw [if_neg he, List.nil_append] at hPP
        have HPP := Lib.hid hPP
        have Hno := Lib.hid hY
        clear hPP hY
        gi_wp2
        refine ⟨trivial, ?_⟩
        refine (callsIn_wd.2 Key.out).mono ?_
        rintro e w1 ⟨vl, rfl, ho1, hE1⟩
        dsimp only at ho1
        obtain ⟨A1, cc1, rfl, _, _⟩ := SlR.open_ (SlR.of_own ho1)
        dsimp only
        have hX1 : Ext wr (w1.alloc (.cells #[.int .i64 first, .slice A1 log.length cc1, .int .i64 used] 29)) := Ext.alloc hE1 _
        have hJ1 := Lib.hid (hJ pre wr _ HJ.out ((Moves.refl.below hE1 (Nat.le_refl _)).alloc (.cells #[.int .i64 first, .slice A1 log.length cc1, .int .i64 used] 29)))
        have hsz1 := Nat.le_trans hsz hX1.size
        have hB1 : Boxed (w1.alloc (.cells #[.int .i64 first, .slice A1 log.length cc1, .int .i64 used] 29)) B 23 (.slice A bs.length c) := bB.kept (row := none) (Ext.grown hX1 none) (by simp)
        have HH1 := Lib.hid (show Hold wo (w1.alloc (.cells #[.int .i64 first, .slice A1 log.length cc1, .int .i64 used] 29)) from fun q u hq => Ext.cell hX1 (HH q u hq))
        clear hE1 c1 hX1 ho1
        gi_wp2
        refine ⟨fun f h => (by cases h), ?_⟩
        gi_wp2
        exact ⟨⟨k + 1, pre, by go_num, by omega, HPP.out, hJ1.out, HH1.out, hB1, hsz1⟩, by simp [intOf]; omega⟩
    · have hk2 : k = 2 := by omega
      subst hk2
      have hPP := HP.out
      have hnil : headF T bs 2 = [] := rfl
      rw [hnil, List.append_nil] at hPP
      subst hPP
      clear hnil HP hY
      gi_wp2
      refine bodyPost_end (results_none rfl _ _ _) rfl ?_
      exact ⟨⟨_, rfl⟩, .inl HJ.out⟩

theorem heads_any (A : Option Addr) (n c : Nat) (w : World) : Calls Tryz.prog 34 #[.slice A n c] w fun e w' => e = .returned (.func (.func 47) #[] #[.pointer (some ⟨w.heap.size, 0, none⟩)]) ∧ w.alloc (.cells #[.slice A n c] 23) = w' := by
  go_enter Tryz.func34, Tryz.ntmps34
  go_wp2
  go_ret
  exact ⟨rfl, rfl⟩

def whichE (T : Tab) (b : List UInt8) : Int := (headF T b 0).headD 0
def WcI (w : World) (pre : List Int) (X : World) : Prop := pre = [] ∧ Boxed X w.heap.size 3 (.int .i64 0) ∧ Ext w X
def WcX (w : World) (cd : Code) (pre : List Int) (X : World) : Prop := cd = Code.ret ∧ ∃ x, pre = [x] ∧ Boxed X w.heap.size 3 (.int .i64 x) ∧ Ext w X

set_option maxHeartbeats 1000000 in
theorem Which_any (v : Value) (bs : List UInt8) (w : World) (hB : Bs w v bs) (hl : bs.length ≤ 1000000) (hT : TabW T w) : Calls Tryz.prog 18 #[v] w fun e w' => e = .returned (.int .i64 (whichE T bs)) ∧ Ext w w' := by
  obtain ⟨A, c, rfl, h1, h2⟩ := SlR.open_ hB
  have HB := Lib.hid hB
  have HT := Lib.hid hT
  clear hB hT
  unfold whichE
  obtain ⟨L, hL⟩ : ∃ L, headF T bs 0 = L := ⟨_, rfl⟩
  rw [hL]
  have HL := Lib.hid hL
  clear hL
  refine (callsIn_wd (ro := none) (n := 9)).1 ?_
  refine callsIn_of_wp_marks Tryz.func18 rfl trivial ?_ rfl
  simp only [Tryz.ntmps18, List.size_toArray, List.length_cons, List.length_nil, Nat.reduceAdd, Nat.reduceSub, Array.replicate_succ, Array.replicate_zero, List.push_toArray, List.append_toArray, List.nil_append, List.cons_append]
  gi_wp2_with (refine ⟨trivial, ?_⟩; gi_at_call 34; refine (callsIn_wd.2 (heads_any _ _ _ _)).mono ?_; rintro e w' ⟨rfl, rfl⟩)
  have q0 : Boxed ((w.alloc (.cells #[.int .i64 0] 3)).alloc (.cells #[.slice A bs.length c] 23)) w.heap.size 3 (.int .i64 0) := (Boxed.new w _ _).alloc _
  have q1 : Boxed ((w.alloc (.cells #[.int .i64 0] 3)).alloc (.cells #[.slice A bs.length c] 23)) (w.heap.size + 1) 23 (.slice A bs.length c) := by
    have := Boxed.new (w.alloc (.cells #[.int .i64 0] 3)) 23 (.slice A bs.length c)
    rwa [World.size_alloc] at this
  have hE2 : Ext w ((w.alloc (.cells #[.int .i64 0] 3)).alloc (.cells #[.slice A bs.length c] 23)) := Ext.alloc (Ext.alloc (Ext.refl _) _) _
  have hs2 : ((w.alloc (.cells #[.int .i64 0] 3)).alloc (.cells #[.slice A bs.length c] 23)).heap.size = w.heap.size + 2 := by simp
  have h0 : WcI w [] ((w.alloc (.cells #[.int .i64 0] 3)).alloc (.cells #[.slice A bs.length c] 23)) := ⟨rfl, q0, hE2⟩
  generalize (w.alloc (.cells #[.int .i64 0] 3)).alloc (.cells #[.slice A bs.length c] 23) = w2 at *
  refine wp_range (a := ⟨_, _⟩) rfl (enters_of Tryz.func47 (by kernel_rfl) rfl)
    (fun W1 hb hs => heads1_seq (T := T) w W1 _ bs HB.out hl (fun q u hq => Ext.cell (Ext.trans hE2 hb) hq) HT.out (w.heap.size + 1) w.heap.size (q1.kept (row := none) (Ext.grown hb none) (by simp)) (by omega) (Nat.le_refl _))
    (fun k o h => h.elim) (fun k o h => h.2) (fun x av W h => by rw [h]; rfl)
    (WcI w) (WcX w) ?hI ?hIx h0
    (fun x a' _ => a' = ⟨#[.slice A bs.length c, undef, .pointer (some ⟨w.heap.size, 0, none⟩), .int .i64 x, .slice A bs.length c, .func (.func 47) #[] #[.pointer (some ⟨w.heap.size + 1, 0, none⟩)], .int .i64 x, undef], []⟩)
    (fun _ _ _ _ h _ => h) ?assign ?body ?done ?stop
  case hI =>
    rintro s X Y ⟨rfl, hv, hE⟩ hm
    refine ⟨rfl, hm.boxed hv ?_, hm.belowOf hE ?_ (Nat.le_refl _)⟩
    · rintro (h | h)
      · exact h
      · cases h.2
    · rintro k o hk (h | h)
      · exact h
      · have := h.1; omega
  case hIx =>
    rintro cd s X Y ⟨rfl, x, rfl, hv, hE⟩ hm
    refine ⟨rfl, x, rfl, hm.boxed hv ?_, hm.belowOf hE ?_ (Nat.le_refl _)⟩
    · rintro (h | h)
      · exact h
      · cases h.2
    · rintro k o hk (h | h)
      · exact h
      · have := h.1; omega
  case assign =>
    rintro l' pre x post W av K' hx hi hsz rfl hK
    gi_wp2
    exact hK _ _ Kept.refl hi rfl
  case body =>
    rintro l' pre x post a' W hx hl' hr ⟨rfl, hv, hE⟩ hsz rfl
    have hc := hv.cell
    have hf := hv.frozen
    gi_wp2
    refine ⟨Kept.refl.setCell (fun o ho _ => ?_) _, rfl, x, rfl, hv.set _, Below.setCell (p := ⟨w.heap.size, 0, none⟩) hE (Nat.le_refl _) _⟩
    rw [show W.heap[w.heap.size]? = _ from hv] at ho; cases ho
    rintro (⟨h, _⟩ | ⟨_, h⟩)
    · exact h rfl
    · cases h
  case done =>
    rintro D W hD ⟨hLn, hv, hE⟩ hK
    rw [HL.out] at hLn
    subst hLn
    have hc := hv.cell
    have hf := hv.frozen
    gi_wp2
    have hv2 := hv.set (.int .i64 0)
    have hK2 := heap_setCell_obj hK rfl ⟨w.heap.size, 0, none⟩ (.int .i64 0)
    have hcd := cell_putObj hv2.cell hK2 rfl (.deferred none)
    refine ret_mark hK2 (.int .i64 0) (by simp [results, Tryz.results18, go_sem, hcd]) ?_
    exact ⟨rfl, below_putObj (Below.setCell (p := ⟨w.heap.size, 0, none⟩) hE (Nat.le_refl _) _) (by omega) _⟩
  case stop =>
    rintro D cd pre W hD hpre ⟨rfl, x, rfl, hv, hE⟩ hK
    rw [HL.out] at hpre
    have hhd : L.headD 0 = x := by
      obtain ⟨r, hr⟩ := hpre
      rw [← hr]; rfl
    have hcd := cell_putObj hv.cell hK rfl (.deferred none)
    gi_wp2
    refine ret_mark hK (.int .i64 x) (by simp [results, Tryz.results18, go_sem, hcd]) ?_
    exact ⟨by rw [hhd], below_putObj hE (by omega) _⟩
end Go.Proofs.YtfjcnpigpkcfgaaGreat

namespace Go.Proofs.YtfjcnpigpkcfgaaGreat
open Go.RowKit Go.Mv
set_option maxRecDepth 100000
variable {T : Tab}

set_option maxHeartbeats 400000 in
theorem EqualE_any (va vb : Value) (a b : List Ent) (w : World) (ha : Es w va a) (hb : Es w vb b) :
    Calls Tryz.prog 35 #[va, vb] w fun e w' => e = .returned (.bool (decide (a = b))) ∧ Below w.heap.size w w' := by
  obtain ⟨A, ca, rfl, h1, h2⟩ := SlR.open_ ha
  obtain ⟨B, cb, rfl, h3, h4⟩ := SlR.open_ hb
  have hma := SlR.len_le ha
  have hmb := SlR.len_le hb
  unfold maxLen at hma hmb
  by_cases hl : a.length = b.length
  case neg =>
    go_enter Tryz.func35, Tryz.ntmps35
    have hne : ((a.length : Int) != (b.length : Int)) = true := by simp; omega
    have Hn := Lib.hid hl
    clear hl
    go_wp2
    go_ret
    refine ⟨ret_bool ?_, Below.refl _ _⟩
    simp; intro e; exact Hn.out (by rw [e])
  case pos =>
    have hne : ((a.length : Int) != (b.length : Int)) = false := by simp; omega
    have Hl := Lib.hid hl
    have hle : b.length ≤ a.length := by omega
    have hle' : a.length ≤ b.length := by omega
    clear hl
    go_enter Tryz.func35, Tryz.ntmps35
    go_wp2_with fail
    go_loopw [13] (fun i wr => ∃ k : Nat, k ≤ a.length ∧ i = .int .i64 k ∧ Hid (a.take k = b.take k) ∧ Below w.heap.size w wr) (fun i _ => a.length - (intOf i).toNat)
    case atStart => exact ⟨0, Nat.zero_le _, rfl, rfl, Below.refl _ _⟩
    case round =>
      obtain ⟨k, hk, rfl, Hb, hB⟩ := hrel
      by_cases hlt : k < a.length
      · obtain ⟨_, ba, offa, rfl, hca⟩ := Es.at_ (ha.ext hB) (by omega)
        obtain ⟨_, bb, offb, rfl, hcb⟩ := Es.at_ (hb.ext hB) (by omega)
        obtain ⟨ha0, ha1, ha2⟩ := hca k hlt
        obtain ⟨hb0, hb1, hb2⟩ := hcb k (by omega)
        clear hca hcb
        have hk0 : (0 : Int) ≤ (k : Int) := by omega
        have hk1 : (k : Int) < (a.length : Int) := by omega
        have hk2 : (k : Int) < (b.length : Int) := by omega
        have heq := entEq_run a[k] b[k]
        have hgd := entGuard
        have hcase : ∃ d, decide (a[k] = b[k]) = d := ⟨_, rfl⟩
        obtain ⟨d, hd⟩ := hcase
        have Hd := Lib.hid hd
        rw [hd] at heq
        clear hd
        go_wp2_with fail
        go_quiet (fail)
        clear heq hgd
        cases d
        · go_wp2_with fail
          go_ret
          refine ⟨ret_bool ?_, bdrewN hB _⟩
          have hd := Hd.out
          symm
          simp only [decide_eq_false_iff_not] at hd ⊢
          intro e; subst e; exact hd rfl
        · go_wp2_with fail
          go_roundw
          case rel =>
            have hd : a[k] = b[k] := by simpa using Hd.out
            refine ⟨k + 1, by omega, by go_num, ?_, bdrewN hB _⟩
            show List.take (k + 1) a = List.take (k + 1) b
            rw [List.take_succ_eq_append_getElem hlt, List.take_succ_eq_append_getElem (by omega), Hb.out, hd]
          case measure => simp [intOf]; omega
      · go_wp2_with fail
        go_ret
        refine ⟨ret_bool ?_, hB⟩
        have := Hb.out
        rw [List.take_of_length_le (by omega), List.take_of_length_le (by omega)] at this
        simpa using this

theorem look1S_err (b : List UInt8) : (look1S T b).err = 0 ∨ (look1S T b).err = 11 := by
  unfold look1S
  split
  · exact .inr rfl
  · split
    · exact .inl rfl
    · exact .inr rfl
theorem lookS_err (b : List UInt8) : (lookS b).err = 0 ∨ (lookS b).err = 11 := by
  unfold lookS
  split
  · exact .inr rfl
  · exact .inl rfl
theorem scanE_errs (b : List UInt8) (f : Int) : (scanE T b f).err = 0 ∨ (scanE T b f).err = 2 ∨ (scanE T b f).err = 11 := by
  unfold scanE
  split
  · rcases look1S_err (T := T) b with h | h; exact .inl h; exact .inr (.inr h)
  · split
    · rcases lookS_err b with h | h; exact .inl h; exact .inr (.inr h)
    · exact .inr (.inl rfl)
theorem wholeE_errs (b : List UInt8) (f : Int) : (wholeE T b f).err = 0 ∨ (wholeE T b f).err = 2 ∨ (wholeE T b f).err = 11 := by
  unfold wholeE
  split
  · rename_i h
    split
    · exact .inl h
    · exact .inr (.inr rfl)
  · exact scanE_errs b f
def alikeE (T : Tab) (a : List UInt8) (f : Int) (b : List UInt8) (g : Int) : Bool :=
  decide ((wholeE T a f).err = 0 ∧ (wholeE T b g).err = 0 ∧ (wholeE T a f).first = (wholeE T b g).first ∧ (wholeE T a f).log = (wholeE T b g).log)

set_option maxHeartbeats 2000000 in
theorem AlikeE_any (va vb : Value) (a b : List UInt8) (f g : Int) (w : World) (hT : TabW T w) (ha : Bs w va a) (hb : Bs w vb b) (hal : a.length ≤ 1000000) (hbl : b.length ≤ 1000000) :
    Calls Tryz.prog 20 #[va, .int .i64 f, vb, .int .i64 g] w fun e w' => e = .returned (.bool (alikeE T a f b g)) ∧ Ext w w' := by
  have key := whole_any (T := T) va a f w ha hal hT
  have key2 := fun (W : World) (hE : Ext w W) => whole_any (T := T) vb b g W (hb.ext hE) hbl (hT.ext hE)
  obtain ⟨A, ca, rfl, _, _⟩ := SlR.open_ ha
  obtain ⟨B, cb, rfl, _, _⟩ := SlR.open_ hb
  have hea := wholeE_errs (T := T) a f
  have heb := wholeE_errs (T := T) b g
  unfold alikeE
  obtain ⟨r, hr⟩ : ∃ r, wholeE T a f = r := ⟨_, rfl⟩
  obtain ⟨s, hs⟩ : ∃ s, wholeE T b g = s := ⟨_, rfl⟩
  rw [hr] at key hea ⊢
  rw [hs] at key2 heb ⊢
  clear hr hs ha hb hT
  obtain ⟨er, fr, lr, ur, pr⟩ := r
  obtain ⟨es, fs, ls, us, ps⟩ := s
  dsimp only at hea heb ⊢
  have Key := Lib.hid key
  have Key2 := Lib.hid key2
  clear key key2
  obtain ⟨R, hR⟩ : ∃ R, decide (er = 0 ∧ es = 0 ∧ fr = fs ∧ lr = ls) = R := ⟨_, rfl⟩
  rw [hR]
  have HR := Lib.hid hR
  clear hR
  by_cases hz : er = 0 ∧ es = 0
  · obtain ⟨rfl, rfl⟩ := hz
    clear hea heb
    by_cases hf : fr = fs
    · subst hf
      have HR2 : Hid (decide (lr = ls) = R) := by
        have := HR.out
        simp only [true_and] at this
        exact this
      go_enter Tryz.func20, Tryz.ntmps20
      go_wp2_with fail
      refine Key.out.mono ?_
      rintro e w1 ⟨vl, rfl, ho1, hE1⟩
      dsimp only at ho1
      obtain ⟨A1, c1, rfl, _, _⟩ := SlR.open_ (SlR.of_own ho1)
      dsimp only
      have hb1 := Blk.new w1 29 #[.int .i64 fr, .slice A1 lr.length c1, .int .i64 ur]
      have hX1 : Ext w1 (w1.alloc (.cells #[.int .i64 fr, .slice A1 lr.length c1, .int .i64 ur] 29)) := Ext.alloc (Ext.refl _) _
      have hX : Ext w (w1.alloc (.cells #[.int .i64 fr, .slice A1 lr.length c1, .int .i64 ur] 29)) := Ext.trans hE1 hX1
      go_wp2_with fail
      refine (Key2.out _ hX).mono ?_
      rintro e w2 ⟨vl2, rfl, ho2, hE2⟩
      dsimp only at ho2
      obtain ⟨A2, c2, rfl, _, _⟩ := SlR.open_ (SlR.of_own ho2)
      dsimp only
      have hb2 := Blk.new w2 29 #[.int .i64 fr, .slice A2 ls.length c2, .int .i64 us]
      have hX2 : Ext w2 (w2.alloc (.cells #[.int .i64 fr, .slice A2 ls.length c2, .int .i64 us] 29)) := Ext.alloc (Ext.refl _) _
      have hb1' := hb1.ext (Ext.trans hE2 hX2)
      obtain ⟨g0, g1, g2, _, _, _⟩ := blk3 hb1'
      obtain ⟨p0, p1, p2, _, _, _⟩ := blk3 hb2
      have es1 : Es (w2.alloc (.cells #[.int .i64 fr, .slice A2 ls.length c2, .int .i64 us] 29)) (.slice A1 lr.length c1) lr := Es.ext (SlR.of_own ho1) (Ext.trans hX1 (Ext.trans hE2 hX2))
      have es2 : Es (w2.alloc (.cells #[.int .i64 fr, .slice A2 ls.length c2, .int .i64 us] 29)) (.slice A2 ls.length c2) ls := Es.ext (SlR.of_own ho2) hX2
      have key3 := Lib.hid (EqualE_any _ _ _ _ _ es1 es2)
      have HX := Lib.hid (Ext.trans hX (Ext.trans hE2 hX2))
      clear ho1 ho2 es1 es2 hE1 hE2 hX hb1 hb2 hb1'
      go_wp2_with fail
      refine key3.out.mono ?_
      rintro e w4 ⟨rfl, hE4⟩
      go_wp2_with fail
      go_ret
      exact ⟨ret_bool HR2.out, Ext.trans HX.out hE4⟩
    · have hff : ((fr : Int) == (fs : Int)) = false := by rw [beq_eq_false_iff_ne]; omega
      have HR2 : Hid (R = false) := by have := HR.out; rw [decide_eq_false (fun h => hf h.2.2.1)] at this; exact this.symm
      clear hf HR
      go_enter Tryz.func20, Tryz.ntmps20
      go_wp2_with fail
      refine Key.out.mono ?_
      rintro e w1 ⟨vl, rfl, ho1, hE1⟩
      dsimp only at ho1
      obtain ⟨A1, c1, rfl, _, _⟩ := SlR.open_ (SlR.of_own ho1)
      dsimp only
      have hb1 := Blk.new w1 29 #[.int .i64 fr, .slice A1 lr.length c1, .int .i64 ur]
      have hX1 : Ext w1 (w1.alloc (.cells #[.int .i64 fr, .slice A1 lr.length c1, .int .i64 ur] 29)) := Ext.alloc (Ext.refl _) _
      have hX : Ext w (w1.alloc (.cells #[.int .i64 fr, .slice A1 lr.length c1, .int .i64 ur] 29)) := Ext.trans hE1 hX1
      go_wp2_with fail
      refine (Key2.out _ hX).mono ?_
      rintro e w2 ⟨vl2, rfl, ho2, hE2⟩
      dsimp only at ho2
      obtain ⟨A2, c2, rfl, _, _⟩ := SlR.open_ (SlR.of_own ho2)
      dsimp only
      have hb2 := Blk.new w2 29 #[.int .i64 fs, .slice A2 ls.length c2, .int .i64 us]
      have hX2 : Ext w2 (w2.alloc (.cells #[.int .i64 fs, .slice A2 ls.length c2, .int .i64 us] 29)) := Ext.alloc (Ext.refl _) _
      have hb1' := hb1.ext (Ext.trans hE2 hX2)
      obtain ⟨g0, g1, g2, _, _, _⟩ := blk3 hb1'
      obtain ⟨p0, p1, p2, _, _, _⟩ := blk3 hb2
      have HX := Lib.hid (Ext.trans hX (Ext.trans hE2 hX2))
      clear ho1 ho2 hE1 hE2 hX hb1 hb2 hb1'
      go_wp2_with fail
      go_ret
      exact ⟨ret_bool HR2.out.symm, HX.out⟩
  · have HR2 : Hid (R = false) := by have := HR.out; rw [decide_eq_false (fun h => hz ⟨h.1, h.2.1⟩)] at this; exact this.symm
    clear HR
    rcases hea with rfl | rfl | rfl <;> rcases heb with rfl | rfl | rfl
    all_goals first
      | exact absurd ⟨rfl, rfl⟩ hz
      | skip
    all_goals
      clear hz
      go_enter Tryz.func20, Tryz.ntmps20
      go_wp2_with fail
      refine Key.out.mono ?_
      rintro e w1 ⟨vl, rfl, ho1, hE1⟩
      dsimp only at ho1
      obtain ⟨A1, c1, rfl, _, _⟩ := SlR.open_ (SlR.of_own ho1)
      dsimp only
      have hb1 := Blk.new w1 29 #[.int .i64 fr, .slice A1 lr.length c1, .int .i64 ur]
      have hX1 : Ext w1 (w1.alloc (.cells #[.int .i64 fr, .slice A1 lr.length c1, .int .i64 ur] 29)) := Ext.alloc (Ext.refl _) _
      have hX : Ext w (w1.alloc (.cells #[.int .i64 fr, .slice A1 lr.length c1, .int .i64 ur] 29)) := Ext.trans hE1 hX1
      go_wp2_with fail
      refine (Key2.out _ hX).mono ?_
      rintro e w2 ⟨vl2, rfl, ho2, hE2⟩
      dsimp only at ho2
      obtain ⟨A2, c2, rfl, _, _⟩ := SlR.open_ (SlR.of_own ho2)
      dsimp only
      have hb2 := Blk.new w2 29 #[.int .i64 fs, .slice A2 ls.length c2, .int .i64 us]
      have hX2 : Ext w2 (w2.alloc (.cells #[.int .i64 fs, .slice A2 ls.length c2, .int .i64 us] 29)) := Ext.alloc (Ext.refl _) _
      have hb1' := hb1.ext (Ext.trans hE2 hX2)
      obtain ⟨g0, g1, g2, _, _, _⟩ := blk3 hb1'
      obtain ⟨p0, p1, p2, _, _, _⟩ := blk3 hb2
      have HX := Lib.hid (Ext.trans hX (Ext.trans hE2 hX2))
      clear ho1 ho2 hE1 hE2 hX hb1 hb2 hb1'
      go_wp2_with fail
      go_ret
      exact ⟨ret_bool HR2.out.symm, HX.out⟩
end Go.Proofs.YtfjcnpigpkcfgaaGreat

namespace Go.Proofs.YtfjcnpigpkcfgaaGreat
open Go.RowKit Go.Mv

theorem scanS_used {q : Nat × Nat} {bs : List UInt8} (h : (scanS q bs).2.2.length = bs.length) : (scanS q bs).1 = [] := by
  cases hn : nextS q bs with
  | none => rw [scanS_none hn]
  | some x =>
    obtain ⟨es, r⟩ := x
    have h1 := nextS_len hn
    have h2 := scanS_len (chainP q (blkBody es)) r
    rw [scanS_some hn] at h
    dsimp only at h
    omega

theorem headS_ok {f : Nat} (h1 : 1 ≤ f) (h2 : f ≤ 1073741824) : (headS (f : Int)).1 = 0 := by
  unfold headS
  rw [if_pos ⟨by rw [numB_true]; omega, by omega⟩]

theorem back_plain {f : Nat} (h1 : 1 ≤ f) (h2 : f ≤ 1073741824) {l m : List Ent} (hl : allOk l = true) (hm : allOk m = true) (bh : List UInt8) :
    ∃ (B M : List UInt8) (q2 q3 : Nat × Nat) (X : List Ent) (n : Nat), fileS (f : Int) l = (0, B) ∧ moreS B m = (0, M) ∧ B.length ≤ 6 + 20 * l.length ∧ M.length ≤ 20 * m.length ∧
      lookS (B ++ M) = ⟨0, f, l ++ m, B.length + M.length, q2⟩ ∧ endS (B ++ M) = (0, q2) ∧ lookS (B ++ M ++ bh) = ⟨0, f, l ++ m ++ X, B.length + M.length + n, q3⟩ ∧ (n = 0 → X = []) ∧ n ≤ bh.length := by
  have hh := headS_ok h1 h2
  have hM := scan_blocks (endQ (f : Int) l) m hm
  have hlen := blocksS_len (endQ (f : Int) l) m
  have hmore := more_put hh hl m hm
  have hput := look_put hh hl
  have hfile := file_eta hh hl
  have hfl := file_len (f : Int) l
  generalize (fileS (f : Int) l).2 = B at *
  generalize blocksS (endQ (f : Int) l) m = M at *
  generalize endQ (f : Int) l = q at *
  generalize chunkP q (chunks4 m) = q2 at *
  have hr := scanS_len q2 bh
  have hu := @scanS_used q2 bh
  have hA := hput M
  have hB := hput (M ++ bh)
  have hM0 := hM []
  rw [scan_nil, List.append_nil] at hM0
  rw [hM0] at hA
  rw [hM bh] at hB
  rw [← List.append_assoc] at hB
  have hlk : lookS (B ++ M) = ⟨0, f, l ++ m, B.length + M.length, q2⟩ := by rw [hA]; simp
  refine ⟨B, M, q2, (scanS q2 bh).2.1, (scanS q2 bh).1, bh.length - (scanS q2 bh).2.2.length, hfile, hmore, hfl, hlen, hlk, ?_, ?_, fun hn => hu (by omega), by omega⟩
  · unfold endS
    rw [hlk]
    dsimp only
    rw [if_pos ⟨rfl, by simp⟩]
  · rw [hB]
    dsimp only
    rw [List.length_append, ← List.append_assoc]
    congr 1
    omega
end Go.Proofs.YtfjcnpigpkcfgaaGreat

namespace Go.Proofs.YtfjcnpigpkcfgaaGreat
open Go.RowKit Go.Mv
variable {T : Tab}

theorem crcTake_put (x : List UInt8) : crcTakeS T (crcPut T x) = some x := by
  have hl : (crcPut T x).length - 4 = x.length := by rw [crcPut_len]; omega
  unfold crcTakeS
  rw [hl]
  have e1 : (crcPut T x).take x.length = x := by unfold crcPut; exact List.take_left
  have e2 : (crcPut T x).drop x.length = fourU (nextN T 0 x) := by unfold crcPut; exact List.drop_left
  rw [e1, e2, if_pos rfl]
theorem take1_rec (e : Ent) (h : e.ok = true) : take1S T (rec1 T e) = some e := by
  obtain ⟨t, k, v⟩ := e
  have hok : okB t k v = true := h
  obtain ⟨q1, q2, q3, q4, q5, q6, _⟩ := okB_true.1 hok
  have e1 : takeLongS (recB ⟨t, k, v⟩) = (0, t.toNat, [UInt8.ofNat k.toNat] ++ long1 v.toNat) := takeLong_put t.toNat (by omega) _
  have e2 : takeLongS (long1 v.toNat) = (0, v.toNat, []) := by
    have := takeLong_put v.toNat (by omega) []
    rwa [List.append_nil] at this
  have e3 : ((UInt8.ofNat k.toNat).toNat : Int) = k := by rw [UInt8.toNat_ofNat']; omega
  unfold take1S rec1
  rw [crcTake_put]
  dsimp only
  rw [e1]
  dsimp only
  rw [if_pos rfl]
  have e4 : (([UInt8.ofNat k.toNat] : List UInt8) ++ long1 v.toNat).drop 1 = long1 v.toNat := rfl
  have e5 : ((([UInt8.ofNat k.toNat] : List UInt8) ++ long1 v.toNat).getD 0 0) = UInt8.ofNat k.toNat := rfl
  rw [e4, e5, e2]
  dsimp only
  rw [if_pos rfl, e3, Int.toNat_of_nonneg (by omega), Int.toNat_of_nonneg q5, if_pos hok]
def posL : Nat → List Ent → List (Nat × Ent)
  | _, [] => []
  | p, e :: l => (p + 15, e) :: posL (p + 15) l
theorem posL_map (l : List Ent) : ∀ p, (posL p l).map (·.2) = l := by
  induction l with
  | nil => intro p; rfl
  | cons e l ih => intro p; simp [posL, ih]
theorem posL_last (l : List Ent) : ∀ p, lastP p (posL p l) = p + 15 * l.length := by
  induction l with
  | nil => intro p; rfl
  | cons e l ih =>
    intro p
    rw [posL, lastP, ih, List.length_cons]
    omega
theorem allOk_cons {e : Ent} {l : List Ent} (h : allOk (e :: l) = true) : e.ok = true ∧ allOk l = true := by
  unfold allOk at *
  simpa using h
theorem recs_put (l : List Ent) (X : List UInt8) (hX : X.length < 15) (h : allOk l = true) : ∀ p, recsP T (putL T l ++ X) p = posL p l := by
  induction l with
  | nil => intro p; exact recsP_short hX
  | cons e l ih =>
    intro p
    obtain ⟨h1, h2⟩ := allOk_cons h
    have e1 : putL T (e :: l) ++ X = rec1 T e ++ (putL T l ++ X) := by unfold putL; rw [List.flatMap_cons, List.append_assoc]
    have e2 : (rec1 T e ++ (putL T l ++ X)).take 15 = rec1 T e := List.take_left' (rec1_len e)
    have e3 : (rec1 T e ++ (putL T l ++ X)).drop 15 = putL T l ++ X := List.drop_left' (rec1_len e)
    rw [e1, recsP_some (e := e) (by rw [List.length_append, rec1_len]; omega) (by rw [e2]; exact take1_rec e h1), e3, ih h2]
    rfl
theorem look1_put {f : Nat} (h1 : 1 ≤ f) (h2 : f ≤ 1073741824) (l : List Ent) (X : List UInt8) (hX : X.length < 15) (h : allOk l = true) : look1S T ((1 :: long1 f) ++ (putL T l ++ X)) = ⟨0, f, l, 6 + 15 * l.length, (0, 0)⟩ := by
  have hl5 := long1_len f
  have e1 : ((1 :: long1 f) ++ (putL T l ++ X)).length = 6 + (putL T l ++ X).length := by simp [hl5]; omega
  have e2 : ((1 :: long1 f) ++ (putL T l ++ X)).getD 0 0 = 1 := rfl
  have e3 : (((1 :: long1 f) ++ (putL T l ++ X)).drop 1).take 5 = long1 f := by
    show (long1 f ++ (putL T l ++ X)).take 5 = long1 f
    exact List.take_left' hl5
  have e4 : ((1 :: long1 f) ++ (putL T l ++ X)).drop 6 = putL T l ++ X := List.drop_left' (by simp [hl5])
  have e5 : takeLongS (long1 f) = (0, f, []) := by
    have := takeLong_put f h2 []
    rwa [List.append_nil] at this
  unfold look1S
  rw [if_neg (by rw [e1, e2]; intro h; rcases h with h | h; omega; exact h rfl), e3, e4, e5]
  dsimp only
  rw [if_pos ⟨rfl, by omega⟩, recs_put l X hX h, posL_map, posL_last]
theorem scan_app {p q : Nat × Nat} {r : List UInt8} {l : List Ent} (h : scanS p r = (l, q, [])) (X : List UInt8) : scanS p (r ++ X) = (l ++ (scanS q X).1, (scanS q X).2) := by
  obtain ⟨cs, h1, h2, h3, h4, h5⟩ := scanS_spec p r
  rw [h] at h2 h3 h4
  dsimp only at h2 h3 h4
  rw [List.append_nil] at h4
  rw [h4, scanS_list p cs h1 X, ← h2, ← h3]

/-- A segment of a format, whole. -/
def Sg (T : Tab) (m : Int) (b : List UInt8) (f : Nat) (l : List Ent) : Prop :=
  1 ≤ f ∧ f ≤ 1073741824 ∧ allOk l = true ∧ ((m = 1 ∧ b = (1 :: long1 f) ++ putL T l) ∨ (m = 2 ∧ ∃ r q, b = (headS (f : Int)).2 ++ r ∧ scanS (chainP (0, 0) (headS (f : Int)).2) r = (l, q, [])))
theorem look2_of {b r : List UInt8} {f : Nat} {q : Nat × Nat} {l : List Ent} (h1 : 1 ≤ f) (h2 : f ≤ 1073741824) (hb : b = (headS (f : Int)).2 ++ r) (hs : scanS (chainP (0, 0) (headS (f : Int)).2) r = (l, q, [])) : lookS b = ⟨0, f, l, b.length, q⟩ := by
  have hd : headT b = some (f, r) := (headT_iff _ _ _).2 ⟨headS_ok h1 h2, hb⟩
  unfold lookS
  rw [hd]
  dsimp only
  rw [hs]
  simp
theorem head1_ok {f : Nat} (h1 : 1 ≤ f) (h2 : f ≤ 1073741824) : head1S (f : Int) = (0, 1 :: long1 f) := by
  unfold head1S
  rw [if_pos ⟨by rw [numB_true]; omega, by omega⟩, Int.toNat_natCast]
theorem sg_scan {m : Int} {b : List UInt8} {f : Nat} {l : List Ent} (h : Sg T m b f l) : ∃ q, scanE T b m = ⟨0, f, l, b.length, q⟩ := by
  obtain ⟨h1, h2, hl, ⟨rfl, rfl⟩ | ⟨rfl, r, q, hb, hs⟩⟩ := h
  · refine ⟨(0, 0), ?_⟩
    have := look1_put (T := T) h1 h2 l [] (by simp) hl
    rw [List.append_nil] at this
    show look1S T _ = _
    rw [this]
    congr 1
    rw [List.length_append, putL_len, List.length_cons, long1_len]
  · exact ⟨q, look2_of h1 h2 hb hs⟩
theorem sg_whole {m : Int} {b : List UInt8} {f : Nat} {l : List Ent} (h : Sg T m b f l) : ∃ q, wholeE T b m = ⟨0, f, l, b.length, q⟩ := by
  obtain ⟨q, hq⟩ := sg_scan h
  refine ⟨q, ?_⟩
  unfold wholeE
  rw [hq, if_pos rfl, if_pos rfl]
theorem sg_file {m : Int} (hm : m = 1 ∨ m = 2) {f : Nat} (h1 : 1 ≤ f) (h2 : f ≤ 1073741824) {l : List Ent} (hl : allOk l = true) : ∃ b, fileE T m f l = (0, b) ∧ Sg T m b f l ∧ b.length ≤ 6 + 20 * l.length ∧ 2 ≤ b.length := by
  rcases hm with rfl | rfl
  · refine ⟨(1 :: long1 f) ++ putL T l, ?_, ⟨h1, h2, hl, .inl ⟨rfl, rfl⟩⟩, ?_, ?_⟩
    · unfold fileE
      rw [if_pos rfl]
      unfold file1S
      rw [head1_ok h1 h2, if_pos rfl, if_pos hl]
    · rw [List.length_append, putL_len, List.length_cons, long1_len]; omega
    · rw [List.length_append, List.length_cons, long1_len]; omega
  · have hh := headS_ok h1 h2
    have hfile := file_ok hh hl
    have hfl := file_len (f : Int) l
    rw [hfile] at hfl
    dsimp only at hfl
    have hsc := scan_blocks (chainP (0, 0) (headS (f : Int)).2) l hl []
    rw [scan_nil, List.append_nil, List.append_nil] at hsc
    refine ⟨_, hfile, ⟨h1, h2, hl, .inr ⟨rfl, _, _, rfl, hsc⟩⟩, hfl, ?_⟩
    have h3 : (headS (f : Int)).2 = 2 :: shorts [(f : Int)] := by unfold headS; rw [if_pos ⟨by rw [numB_true]; omega, by omega⟩]
    have h4 : 1 ≤ (shorts [(f : Int)]).length := by simp [shorts]; exact (short1_len f).1
    rw [List.length_append, h3, List.length_cons]
    omega
end Go.Proofs.YtfjcnpigpkcfgaaGreat
