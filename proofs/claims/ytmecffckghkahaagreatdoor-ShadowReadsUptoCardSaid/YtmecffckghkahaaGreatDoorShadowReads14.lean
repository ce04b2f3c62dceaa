/- Merged: One4 One5 Eith1 Eith2 Eith3 Eith4 Eith5 Eith6 BackP EithP EithQ HarmP -/
import Derived.Test.YtmecffckghkahaaGreatDoorShadowReads13
import Derived.Deep.QuietTactic
import Derived.BigQuiet
set_option linter.all false
set_option maxHeartbeats 8000000
namespace Go.Proofs.YtmecffckghkahaaGreatDoor
open Go.RowKit Go.Mv Go.Shelf
attribute [local go_sem] Oper.semAt_some
set_option maxRecDepth 100000
variable {T : Tab}
def recsP (T : Tab) (b : List UInt8) (p : Nat) : List (Nat × Ent) :=
 if h : b.length < 15 then [] else
  match take1S T (b.take 15) with
  | none => []
  | some e => (p + 15, e) :: recsP T (b.drop 15) (p + 15)
termination_by b.length
decreasing_by
 simp; omega
theorem recsP_short {b : List UInt8} {p : Nat} (h : b.length < 15) : recsP T b p = [] := by rw [recsP, dif_pos h]
theorem recsP_none {b : List UInt8} {p : Nat} (h : ¬ b.length < 15) (hn : take1S T (b.take 15) = none) : recsP T b p = [] := by rw [recsP, dif_neg h, hn]
theorem recsP_some {b : List UInt8} {p : Nat} {e : Ent} (h : ¬ b.length < 15) (hn : take1S T (b.take 15) = some e) : recsP T b p = (p + 15, e) :: recsP T (b.drop 15) (p + 15) := by rw [recsP, dif_neg h, hn]
def RcK (bo n0 : Nat) (k : Nat) (o : Obj) : Prop := o.isCells = true ∧ k ≠ bo ∧ (k < n0 ∨ o.ty ≠ some 100)
theorem Hold.keptR {wo W W' : World} {bo n0 n : Nat} (h : Hold wo W) (hbo : wo.heap.size ≤ bo) (hn0 : wo.heap.size ≤ n0) (hk : Kept (orOther (RcK bo n0) n) W W') : Hold wo W' := by
 intro p u hp
 have hlt := World.block_lt_of_cell? wo p hp
 have hc := h p u hp
 obtain ⟨o, ho, hcells⟩ := cells_of_cell hc
 refine hk.cell hc (fun o' ho' => .inl ?_)
 rw [ho] at ho'; cases ho'
 exact ⟨hcells, by omega, .inl (by omega)⟩
theorem records1_seq (wo W0 : World) (v : Value) (bs : List UInt8) (hbs : Bs wo v bs) (hlen : bs.length ≤ 2000000) (hH : Hold wo W0) (hT : TabW T wo) (B bo n0 : Nat) (hB : Boxed W0 B 43 v) (hBo : B ≠ bo) (h1 : wo.heap.size ≤ bo) (h2 : wo.heap.size ≤ n0) :
  Seq Tryz.prog 202 #[.pointer (some ⟨B, 0, none⟩)]
   (fun (x : Nat × Ent) av _ => av = #[.int .i64 x.1, .agg #[.int .i64 x.2.t, .int .i64 x.2.k, .int .i64 x.2.v]] ∧ x.1 ≤ bs.length) (RcK bo n0) (fun _ _ => False) (recsP T (bs.drop 6) 6) W0 := by
 intro l J Jx hJ hJx hY h0
 obtain ⟨A, c, rfl, hb1, hb2⟩ := SlR.open_ hbs
 refine (callsIn_wd (ro := none) (n := 9)).1 ?_
 refine callsIn_of_wp Tryz.func202 rfl trivial ?_ rfl
 simp only [Tryz.ntmps202, List.size_toArray, List.length_cons, List.length_nil, Nat.reduceAdd, Nat.reduceSub, Array.replicate_succ, Array.replicate_zero, List.push_toArray, List.append_toArray, List.nil_append, List.cons_append]
 have Hes := Lib.hid hbs
 have HTT := Lib.hid hT
 clear hbs hT
 obtain ⟨all, hall⟩ : ∃ all, recsP T (bs.drop 6) 6 = all := ⟨_, rfl⟩
 rw [hall] at hY ⊢
 have HA := Lib.hid hall
 clear hall
 gi_wp2
 gi_loopw [3] (fun j W => ∃ (k : Nat) (pre : List (Nat × Ent)), j = .int .i64 k ∧ k ≤ bs.length + 15 ∧ Hid (all = pre ++ recsP T (bs.drop k) k) ∧ Hid (J pre W) ∧ Hold wo W ∧ Boxed W B 43 (.slice A bs.length c) ∧ W0.heap.size ≤ W.heap.size) (fun j _ => bs.length + 30 - (intOf j).toNat)
 case atStart => exact ⟨6, [], rfl, by omega, HA.out.symm, h0, hH, hB, Nat.le_refl _⟩
 case round =>
  obtain ⟨k, pre, rfl, hkl, HP, HJ, HH, bB, hsz⟩ := hrel
  have c1 := bB.cell
  by_cases hlt : k + 15 ≤ bs.length
  ·obtain ⟨_, b, off, rfl, hc⟩ := Bs.at_ Hes.out (by omega)
   have hpart := bytes_part Hes.out k 15 hlt
   obtain ⟨p, hp⟩ : ∃ p, (bs.drop k).take 15 = p := ⟨_, rfl⟩
   have hpl : p.length = 15 := by rw [← hp, List.length_take, List.length_drop]; omega
   rw [hp] at hpart
   have hnot : ¬ (bs.drop k).length < 15 := by rw [List.length_drop]; omega
   have hdd : (bs.drop k).drop 15 = bs.drop (k + 15) := by rw [List.drop_drop]
   have hBp : Bs wr (.slice (some ⟨b, off + k, none⟩) 15 (c - k)) p := SlR.keep (SlR.capd hpart (by rw [hpl]; omega) (by omega)) HH
   have hTr : TabW T wr := HTT.out.hold HH
   have key := Take1_any (T := T) _ p wr hBp hpl hTr
   have hPP := HP.out
   cases ht : take1S T p with
   | none =>
    rw [ht] at key
    rw [recsP_none hnot (by rw [hp]; exact ht), List.append_nil] at hPP
    subst hPP
    have Key := Lib.hid key
    have hkc : (k : Int) + 15 ≤ (c : Int) := by omega
    clear key ht hBp hpart hp hc hdd hnot hY
    gi_wp2
    refine ⟨trivial, ?_⟩
    refine (callsIn_wd.2 Key.out).mono ?_
    rintro e w1 ⟨rfl, hE1⟩
    have hJ1 := Lib.hid (hJ _ wr (w1.alloc (.cells #[.int .i64 0, .int .i64 0, .int .i64 0] 100)) HJ.out ((Moves.refl.below hE1 (Nat.le_refl _)).alloc _))
    clear hE1
    gi_wp2
    refine ⟨fun f h => (by cases h), ?_⟩
    gi_wp2
    refine bodyPost_ret (results_none rfl _ _ _) rfl ?_
    exact ⟨⟨_, rfl⟩, .inl hJ1.out⟩
   | some x =>
    rw [ht] at key
    rw [recsP_some hnot (by rw [hp]; exact ht), hdd] at hPP
    have Key := Lib.hid key
    have HPP := Lib.hid hPP
    have hkc : (k : Int) + 15 ≤ (c : Int) := by omega
    have Hno := Lib.hid hY
    clear key ht hBp hpart hp hc hdd hnot hY hPP
    gi_wp2
    refine ⟨trivial, ?_⟩
    refine (callsIn_wd.2 Key.out).mono ?_
    rintro e w1 ⟨rfl, hE1⟩
    have hb3 := Blk.new w1 100 #[.int .i64 x.t, .int .i64 x.k, .int .i64 x.v]
    have hX1 : Ext wr (w1.alloc (.cells #[.int .i64 x.t, .int .i64 x.k, .int .i64 x.v] 100)) := Ext.alloc hE1 _
    have hJ1 := hJ pre wr (w1.alloc (.cells #[.int .i64 x.t, .int .i64 x.k, .int .i64 x.v] 100)) HJ.out ((Moves.refl.below hE1 (Nat.le_refl _)).alloc _)
    have hsz1 : W0.heap.size ≤ (w1.alloc (.cells #[.int .i64 x.t, .int .i64 x.k, .int .i64 x.v] 100)).heap.size := Nat.le_trans hsz hX1.size
    have hB1 : Boxed (w1.alloc (.cells #[.int .i64 x.t, .int .i64 x.k, .int .i64 x.v] 100)) B 43 (.slice (some ⟨b, off, none⟩) bs.length c) := bB.kept (row := none) (Ext.grown hX1 none) (by simp)
    have hH1 : Hold wo (w1.alloc (.cells #[.int .i64 x.t, .int .i64 x.k, .int .i64 x.v] 100)) := fun q u hq => Ext.cell hX1 (HH q u hq)
    have hy := Hno.out pre (k + 15, x) _ HPP.out _ #[.int .i64 ((k + 15 : Nat) : Int), .agg #[.int .i64 x.t, .int .i64 x.k, .int .i64 x.v]] hJ1 hsz1 ⟨rfl, by show k + 15 ≤ bs.length; omega⟩
    have Hy := Lib.hid hy
    have HH1 := Lib.hid hH1
    obtain ⟨g0, g1, g2, f0, f1, f2⟩ := blk3 hb3
    clear hy hJ1 hE1 hH1 c1 hX1 hb3
    have c1 := hB1.cell
    gi_wp2
    refine uponIn_yield Hy.out ?_
    rintro e W' ⟨hk', ⟨rfl, hj⟩ | ⟨rfl, hj⟩⟩
    ·refine ⟨true, rfl, ?_⟩
     have d1 : Boxed W' B 43 (.slice (some ⟨b, off, none⟩) bs.length c) := hk'.boxed hB1 (.inl ⟨rfl, hBo, .inr (by intro h; cases h)⟩)
     have e1 := d1.cell
     have hs' : W0.heap.size ≤ W'.heap.size := Nat.le_trans hsz1 hk'.size
     have HH2 := Lib.hid (Hold.keptR HH1.out h1 h2 hk')
     have HJ3 := Lib.hid hj
     have hsp : all = (pre ++ [(k + 15, x)]) ++ recsP T (bs.drop (k + 15)) (k + 15) := by rw [List.append_assoc]; exact HPP.out
     have Hsp := Lib.hid hsp
     clear hj hk' c1 g0 g1 g2 f0 f1 f2 hsp Hy
     gi_wp2
     exact ⟨⟨k + 15, pre ++ [(k + 15, x)], by go_num, by omega, Hsp.out, HJ3.out, HH2.out, d1, hs'⟩, by simp [intOf]; omega⟩
    ·refine ⟨false, rfl, ?_⟩
     have HJ3 := Lib.hid hj
     clear hj hk' c1 g0 g1 g2 f0 f1 f2
     gi_wp2
     refine bodyPost_ret (results_none rfl _ _ _) rfl ?_
     refine ⟨⟨_, rfl⟩, .inr ⟨pre ++ [(k + 15, x)], ?_, HJ3.out⟩⟩
     exact ⟨recsP T (bs.drop (k + 15)) (k + 15), by rw [List.append_assoc]; exact HPP.out.symm⟩
  ·have hnil : recsP T (bs.drop k) k = [] := recsP_short (by rw [List.length_drop]; omega)
   have hPP := HP.out
   rw [hnil, List.append_nil] at hPP
   subst hPP
   have hki : ¬ ((k : Int) + 15 ≤ (bs.length : Int)) := by omega
   clear hnil HP hY
   gi_wp2
   refine bodyPost_end (results_none rfl _ _ _) rfl ?_
   exact ⟨⟨_, rfl⟩, .inl HJ.out⟩
open Go.RowKit Go.Mv Go.Shelf
attribute [local go_sem] Oper.semAt_some
set_option maxRecDepth 100000
variable {T : Tab}
def lastP : Nat → List (Nat × Ent) → Nat
 | d, [] => d
 | _, x :: l => lastP x.1 l
theorem lastP_snoc (l : List (Nat × Ent)) (x : Nat × Ent) : ∀ d, lastP d (l ++ [x]) = x.1 := by
 induction l with
 | nil => intro d; rfl
 | cons y l ih => intro d; exact ih _
def look1S (T : Tab) (b : List UInt8) : LookR :=
 if b.length < 6 ∨ b.getD 0 0 ≠ 1 then ⟨11, 0, [], 0, (0, 0)⟩
 else if (takeLongS ((b.drop 1).take 5)).1 = 0 ∧ (takeLongS ((b.drop 1).take 5)).2.1 ≠ 0 then ⟨0, (takeLongS ((b.drop 1).take 5)).2.1, (recsP T (b.drop 6) 6).map (·.2), lastP 6 (recsP T (b.drop 6) 6), (0, 0)⟩
 else ⟨11, 0, [], 0, (0, 0)⟩
theorem scanU : Tryz.prog.underlying 123 = some (.struct (Tryz.prog.fieldsOf 123)) := by kernel_rfl
theorem scan1_res (tmps : Array Value) (W : World) (b : Nat) (cs : Array Value) (u : Value) (h2 : tmps.getD 2 undef = .pointer (some ⟨b, 0, none⟩)) (h3 : tmps.getD 3 undef = u) (hb : Blk W b 123 cs) (hs : cs.size = 3) : (results Tryz.f197 tmps).run Tryz.prog W = .ok (.tuple #[.agg cs, u]) W := by
 have hl := hb.load (P := Tryz.prog) scanU rfl (by rw [hs]; kernel_rfl)
 have h2' : tmps[2]?.getD undef = .pointer (some ⟨b, 0, none⟩) := by simpa using h2
 have h3' : tmps[3]?.getD undef = u := by simpa using h3
 simp [results, Tryz.results197, h2', h3', asAddr, hl]
theorem recsP_len (b : List UInt8) : ∀ p, (recsP T b p).length * 15 ≤ b.length := by
 generalize hn : b.length = n
 induction n using Nat.strongRecOn generalizing b with
 | _ n ih =>
  intro p
  by_cases h : b.length < 15
  ·rw [recsP_short h]; simp
  ·cases ht : take1S T (b.take 15) with
   | none => rw [recsP_none h ht]; simp
   | some e =>
    have := ih (b.drop 15).length (by rw [List.length_drop]; omega) (b.drop 15) rfl (p + 15)
    rw [recsP_some h ht, List.length_cons]
    rw [List.length_drop] at this
    omega
theorem es_one (W : World) (x : Ent) : Es (W.alloc (.cells #[.int .i64 x.t, .int .i64 x.k, .int .i64 x.v] 100)) (.slice (some ⟨W.heap.size, 0, none⟩) 1 1) [x] := by
 refine ⟨by simp [entCells, Ent.cells], _, 1, rfl, Nat.le_refl _, by simp [maxLen], fun _ => ⟨W.heap.size, 0, rfl, fun j u hu => ?_⟩⟩
 rw [Nat.zero_add]
 exact (Blk.new W 100 #[.int .i64 x.t, .int .i64 x.k, .int .i64 x.v]).cell j (by simpa [entCells, Ent.cells] using hu)
def ScI (w : World) (f : Nat) (pre : List (Nat × Ent)) (X : World) : Prop := ∃ vl, Blk X w.heap.size 123 #[.int .i64 f, vl, .int .i64 (lastP 6 pre : Nat)] ∧ OwnE X w.heap.size vl (pre.map (·.2)) ∧ Ext w X
theorem Scan1_bad (v : Value) (bs : List UInt8) (w : World) (hB : Bs w v bs) (h : (look1S T bs).err = 11) : Calls Tryz.prog 197 #[v] w (ScanP w (look1S T bs)) := by
 obtain ⟨A, c, rfl, h1, h2⟩ := SlR.open_ hB
 have hb0 := Blk.new w 123 #[.int .i64 0, .slice none 0 0, .int .i64 0]
 have hX : Ext w (w.alloc (.cells #[.int .i64 0, .slice none 0 0, .int .i64 0] 123)) := Ext.alloc (Ext.refl _) _
 have hlk : look1S T bs = ⟨11, 0, [], 0, (0, 0)⟩ := by
  unfold look1S at h ⊢
  split
  ·rfl
  ·rename_i hn
   rw [if_neg hn] at h
   split
   ·rename_i h3; rw [if_pos h3] at h; cases h
   ·rfl
 rw [hlk]
 have hrow0 : ∀ W : World, W.ownsRow w.heap.size 100 3 (.slice none 0 0) ([] : List Ent).length (entCells []) := fun W => World.ownsRow_nil _ _ _ _
 by_cases hlen : bs.length < 6
 ·have hll : ((bs.length : Int) < 6) := by omega
  clear hlk h hB
  obtain ⟨g0, g1, g2, f0, f1, f2⟩ := blk3 hb0
  go_enter Tryz.func197, Tryz.ntmps197
  go_wp2_with fail
  exact bodyPost_ret (scan1_res _ _ _ _ _ rfl rfl hb0 rfl) rfl ⟨_, rfl, hrow0 _, hX⟩
 ·have hll : ¬ ((bs.length : Int) < 6) := by omega
  obtain ⟨_, b, off, rfl, hc⟩ := Bs.at_ hB (by omega)
  have hc0 := hc 0 (by omega)
  obtain ⟨x0, hx0⟩ : ∃ x0, bs[0]'(by omega) = x0 := ⟨_, rfl⟩
  rw [hx0] at hc0
  have hgd : bs.getD 0 0 = x0 := by rw [← hx0]; simp [List.getD_eq_getElem?_getD, List.getElem?_eq_getElem (show 0 < bs.length by omega)]
  have hc0' := cell_alloc hc0 (.cells #[.int .i64 0, .slice none 0 0, .int .i64 0] 123)
  rw [Nat.add_zero] at hc0'
  by_cases hx : x0 = 1
  ·have hx1 : ((x0.toNat : Int) != 1) = false := by rw [hx]; rfl
   have hpart := bytes_part hB 1 5 (by omega)
   obtain ⟨p, hp⟩ : ∃ p, (bs.drop 1).take 5 = p := ⟨_, rfl⟩
   have hpl : p.length = 5 := by rw [← hp, List.length_take, List.length_drop]; omega
   rw [hp] at hpart
   have hBp : Bs w (.slice (some ⟨b, off + 1, none⟩) 5 (c - 1)) p := SlR.capd hpart (by rw [hpl]; omega) (by omega)
   have key := TakeLong_any _ p _ (hBp.ext hX) (by omega)
   have hbad : (takeLongS p).1 ≠ 0 ∨ (takeLongS p).2.1 = 0 := by
    unfold look1S at h
    rw [if_neg (by rw [hgd, hx]; intro h; rcases h with h | h; exact hlen h; exact h rfl)] at h
    rw [hp] at h
    by_cases h1 : (takeLongS p).1 = 0
    ·by_cases h2 : (takeLongS p).2.1 = 0
     ·exact .inr h2
     ·rw [if_pos ⟨h1, h2⟩] at h; cases h
    ·exact .inl h1
   rcases htl : takeLongS p with ⟨e1, t, rest⟩
   rw [htl] at key hbad
   have Key := Lib.hid key
   have hcc : (6 : Int) ≤ (c : Int) := by omega
   clear key htl hp hpl hpart hBp hlk h hB hc hc0 hx0 hgd hlen hx
   rcases hbad with h1 | h1
   ·have hne : ((e1 : Int) != 0) = true := by simpa using h1
    clear h1
    go_enter Tryz.func197, Tryz.ntmps197
    go_wp2_with fail
    refine Key.out.mono ?_
    rintro e w1 ⟨vr, rfl, -, hE1⟩
    have hb1 := hb0.ext hE1
    obtain ⟨g0, g1, g2, f0, f1, f2⟩ := blk3 hb1
    go_wp2_with fail
    exact bodyPost_ret (scan1_res _ _ _ _ _ rfl rfl (blk_set3 hb1 _ _ _) rfl) rfl ⟨_, rfl, hrow0 _, ext_set3 (Ext.trans hX hE1) (Nat.le_refl _) _ _ _⟩
   ·by_cases he : e1 = 0
    ·dsimp only at h1
     subst h1 he
     go_enter Tryz.func197, Tryz.ntmps197
     go_wp2_with fail
     refine Key.out.mono ?_
     rintro e w1 ⟨vr, rfl, -, hE1⟩
     have hb1 := hb0.ext hE1
     obtain ⟨g0, g1, g2, f0, f1, f2⟩ := blk3 hb1
     go_wp2_with fail
     exact bodyPost_ret (scan1_res _ _ _ _ _ rfl rfl (blk_set3 hb1 _ _ _) rfl) rfl ⟨_, rfl, hrow0 _, ext_set3 (Ext.trans hX hE1) (Nat.le_refl _) _ _ _⟩
    ·have hne : ((e1 : Int) != 0) = true := by simpa using he
     clear h1 he
     go_enter Tryz.func197, Tryz.ntmps197
     go_wp2_with fail
     refine Key.out.mono ?_
     rintro e w1 ⟨vr, rfl, -, hE1⟩
     have hb1 := hb0.ext hE1
     obtain ⟨g0, g1, g2, f0, f1, f2⟩ := blk3 hb1
     go_wp2_with fail
     exact bodyPost_ret (scan1_res _ _ _ _ _ rfl rfl (blk_set3 hb1 _ _ _) rfl) rfl ⟨_, rfl, hrow0 _, ext_set3 (Ext.trans hX hE1) (Nat.le_refl _) _ _ _⟩
  ·have hx1 : ((x0.toNat : Int) != 1) = true := by
    rw [bne_iff_ne]
    intro h
    apply hx
    apply UInt8.toNat_inj.1
    show x0.toNat = 1
    omega
   clear hlk h hB hc hc0 hx0 hgd hlen hx
   obtain ⟨g0, g1, g2, f0, f1, f2⟩ := blk3 hb0
   go_enter Tryz.func197, Tryz.ntmps197
   go_wp2_with fail
   exact bodyPost_ret (scan1_res _ _ _ _ _ rfl rfl hb0 rfl) rfl ⟨_, rfl, hrow0 _, hX⟩
theorem records_any (A : Option Addr) (n c : Nat) (w : World) : Calls Tryz.prog 200 #[.slice A n c] w fun e w' => e = .returned (.func (.func 202) #[] #[.pointer (some ⟨w.heap.size, 0, none⟩)]) ∧ w.alloc (.cells #[.slice A n c] 43) = w' := by
 go_enter Tryz.func200, Tryz.ntmps200
 go_wp2
 go_ret
 exact ⟨rfl, rfl⟩
theorem Scan1_ok (v : Value) (bs : List UInt8) (w : World) (hB : Bs w v bs) (hl : bs.length ≤ 2000000) (hT : TabW T w) (h : (look1S T bs).err ≠ 11) : Calls Tryz.prog 197 #[v] w (ScanP w (look1S T bs)) := by
 obtain ⟨A, c, rfl, h1, h2⟩ := SlR.open_ hB
 have hb0 := Blk.new w 123 #[.int .i64 0, .slice none 0 0, .int .i64 0]
 have hX : Ext w (w.alloc (.cells #[.int .i64 0, .slice none 0 0, .int .i64 0] 123)) := Ext.alloc (Ext.refl _) _
 unfold look1S at h ⊢
 by_cases hd : bs.length < 6 ∨ bs.getD 0 0 ≠ 1
 ·rw [if_pos hd] at h; exact absurd rfl h
 rw [if_neg hd] at h ⊢
 by_cases hf : (takeLongS ((bs.drop 1).take 5)).1 = 0 ∧ (takeLongS ((bs.drop 1).take 5)).2.1 ≠ 0
 case neg => rw [if_neg hf] at h; exact absurd rfl h
 rw [if_pos hf]
 have hlen : 6 ≤ bs.length := by
  rcases Nat.lt_or_ge bs.length 6 with q | q
  ·exact absurd (Or.inl q) hd
  ·exact q
 have hgd : bs.getD 0 0 = 1 := by
  by_cases q : bs.getD 0 0 = 1
  ·exact q
  ·exact absurd (Or.inr q) hd
 obtain ⟨_, b, off, rfl, hc⟩ := Bs.at_ hB (by omega)
 have hc0 := hc 0 (by omega)
 have hx0 : bs[0]'(by omega) = 1 := by rw [← hgd]; simp [List.getD_eq_getElem?_getD, List.getElem?_eq_getElem (show 0 < bs.length by omega)]
 rw [hx0] at hc0
 have hc0' : (w.alloc (.cells #[.int .i64 0, .slice none 0 0, .int .i64 0] 123)).cell? ⟨b, off, none⟩ = some (.int .u8 1) := cell_alloc hc0 _
 have hpart := bytes_part hB 1 5 (by omega)
 obtain ⟨p, hp⟩ : ∃ p, (bs.drop 1).take 5 = p := ⟨_, rfl⟩
 have hpl : p.length = 5 := by rw [← hp, List.length_take, List.length_drop]; omega
 rw [hp] at hpart hf ⊢
 have hBp : Bs w (.slice (some ⟨b, off + 1, none⟩) 5 (c - 1)) p := SlR.capd hpart (by rw [hpl]; omega) (by omega)
 have key := TakeLong_any _ p _ (hBp.ext hX) (by omega)
 rcases htl : takeLongS p with ⟨e1, t, rest⟩
 rw [htl] at key hf
 obtain ⟨rfl, ht0⟩ := hf
 have Key := Lib.hid key
 have hcc : (6 : Int) ≤ (c : Int) := by omega
 have hll : ¬ ((bs.length : Int) < 6) := by omega
 have ht1 : ((t : Int) == 0) = false := by rw [beq_eq_false_iff_ne]; dsimp only at ht0; omega
 obtain ⟨L, hL⟩ : ∃ L, recsP T (bs.drop 6) 6 = L := ⟨_, rfl⟩
 have HB := Lib.hid hB
 have HT := Lib.hid hT
 dsimp only
 rw [hL]
 have HL := Lib.hid hL
 clear key htl hp hpl hpart hBp h hB hc hc0 hx0 hgd hlen hd hT ht0 hL
 have hw0 : w.heap.size < (w.alloc (.cells #[.int .i64 0, .slice none 0 0, .int .i64 0] 123)).heap.size := hb0.lt
 refine (callsIn_wd (ro := none) (n := 9)).1 ?_
 refine callsIn_of_wp_marks Tryz.func197 rfl trivial ?_ rfl
 simp only [Tryz.ntmps197, List.size_toArray, List.length_cons, List.length_nil, Nat.reduceAdd, Nat.reduceSub, Array.replicate_succ, Array.replicate_zero, List.push_toArray, List.append_toArray, List.nil_append, List.cons_append]
 gi_wp2_with (refine ⟨trivial, ?_⟩; gi_at_call 100; refine (callsIn_wd.2 Key.out).mono ?_; rintro e w1 ⟨vr, rfl, -, hE1⟩; have hb1 := hb0.ext hE1; have HE1 := Lib.hid hE1; clear hE1; obtain ⟨g0, g1, g2, f0, f1, f2⟩ := blk3 hb1)
 have hb2 := blk_set3 hb1 (.int .i64 t) (.slice none 0 0) (.int .i64 6)
 have hE2 : Ext w (((w1.setCell ⟨w.heap.size, 0, none⟩ (.int .i64 t)).setCell ⟨w.heap.size, 1, none⟩ (.slice none 0 0)).setCell ⟨w.heap.size, 2, none⟩ (.int .i64 6)) := ext_set3 (Ext.trans hX HE1.out) (Nat.le_refl _) _ _ _
 clear g0 g1 g2 f0 f1 f2 hb1 HE1
 generalize (((w1.setCell ⟨w.heap.size, 0, none⟩ (.int .i64 t)).setCell ⟨w.heap.size, 1, none⟩ (.slice none 0 0)).setCell ⟨w.heap.size, 2, none⟩ (.int .i64 6)) = w2 at *
 refine ⟨trivial, ?_⟩
 refine (callsIn_wd.2 (records_any _ _ _ _)).mono ?_
 rintro e w3 ⟨rfl, rfl⟩
 have qB : Boxed (w2.alloc (.cells #[.slice (some ⟨b, off, none⟩) bs.length c] 43)) w2.heap.size 43 (.slice (some ⟨b, off, none⟩) bs.length c) := Boxed.new _ _ _
 have hE3 : Ext w (w2.alloc (.cells #[.slice (some ⟨b, off, none⟩) bs.length c] 43)) := Ext.alloc hE2 _
 have hb3 := hb2.alloc (.cells #[.slice (some ⟨b, off, none⟩) bs.length c] 43)
 have h0 : ScI w t [] (w2.alloc (.cells #[.slice (some ⟨b, off, none⟩) bs.length c] 43)) := ⟨_, hb3, World.ownsRow_nil _ _ _ _, hE3⟩
 have hbw : w.heap.size < w2.heap.size := hb2.lt
 have hs3 : (w2.alloc (.cells #[.slice (some ⟨b, off, none⟩) bs.length c] 43)).heap.size = w2.heap.size + 1 := by simp
 clear hb2 hb3 hE2
 gi_wp2
 generalize w2.alloc (.cells #[.slice (some ⟨b, off, none⟩) bs.length c] 43) = w3 at *
 refine frame_name (fun TT hTT => ?_)
 refine wp_range (a := ⟨TT, []⟩) (by subst hTT; rfl) (enters_of Tryz.func202 (by kernel_rfl) rfl)
  (fun W1 hb hs => records1_seq (T := T) w W1 _ bs HB.out hl (fun q u hq => Ext.cell (Ext.trans hE3 hb) hq) HT.out w2.heap.size w.heap.size w.heap.size (qB.kept (row := none) (Ext.grown hb none) (by simp)) (by omega) (Nat.le_refl _) (Nat.le_refl _))
  (fun k o h => h.elim) (fun k o h => h.1) (fun x av W h => by rw [h.1]; rfl)
  (ScI w t) (fun _ _ _ => False) ?hI (fun _ _ _ _ h _ => h) h0
  (fun x a' W => ∃ q, Blk W q 100 #[.int .i64 x.2.t, .int .i64 x.2.k, .int .i64 x.2.v] ∧ a' = ⟨(((TT.setIfInBounds 36 (.int .i64 x.1)).setIfInBounds 37 (.agg #[.int .i64 x.2.t, .int .i64 x.2.k, .int .i64 x.2.v])).setIfInBounds 6 (.int .i64 x.1)).setIfInBounds 7 (.pointer (some ⟨q, 0, none⟩)), []⟩)
  ?hAx ?assign ?body ?done (fun _ _ _ _ _ _ h _ => h.elim)
 case hI =>
  rintro s X Y ⟨v1, hv, hr, hB⟩ hm
  refine ⟨v1, hm.same _ _ hv ?_, hm.ownsRow hr ?_, hm.belowOf hB ?_ (Nat.le_refl _)⟩
  ·rintro (h | h)
   ·exact h
   ·cases h.2
  ·rintro k cur _ (h | h)
   ·exact h
   ·cases h.2
  ·rintro k o hk (h | h)
   ·exact h
   ·have := h.1; omega
 case hAx =>
  rintro x a' X Y ⟨q, hq, rfl⟩ hm
  refine ⟨q, hm.same _ _ hq ?_, rfl⟩
  rintro (h | h)
  ·exact h
  ·cases h.2
 case assign =>
  rintro l' pre x post W av K' hx hi hsz ⟨rfl, hx1⟩ hK
  obtain ⟨v1, hv, hr, hB⟩ := hi
  have Hi : Hid (ScI w t pre (W.alloc (.cells #[.int .i64 x.2.t, .int .i64 x.2.k, .int .i64 x.2.v] 100))) := ⟨v1, hv.alloc _, hr.alloc _, Ext.alloc hB _⟩
  have HQ := Lib.hid (Blk.new W 100 #[.int .i64 x.2.t, .int .i64 x.2.k, .int .i64 x.2.v])
  have Hx := Lib.hid hx
  clear hx hv hr hB
  subst hTT
  gi_wp2
  exact hK _ _ (Kept.refl.alloc _) Hi.out ⟨W.heap.size, HQ.out, rfl⟩
 case body =>
  rintro l' pre x post a' W hx hl' hr ⟨v1, hv, hrow, hB⟩ hsz ⟨q, hq, rfl⟩
  have hpl : (pre.map (·.2)).length + 1 ≤ 200000 := by
   have h3 := recsP_len (T := T) (bs.drop 6) 6
   rw [hx, List.length_append, List.length_cons, List.length_drop] at h3
   rw [List.length_map]
   omega
  have hsn : (pre ++ [x]).map (·.2) = pre.map (·.2) ++ [x.2] := by simp
  have hlp : lastP 6 (pre ++ [x]) = x.1 := lastP_snoc pre x 6
  have Hsn := Lib.hid hsn
  have Hlp := Lib.hid hlp
  have Hx := Lib.hid hx
  clear hx hsn hlp
  generalize pre.map (·.2) = P at *
  generalize lastP 6 pre = lp at *
  obtain ⟨A1, cc1, rfl, _, _⟩ := SlR.open_ (SlR.of_own hrow)
  have hne := hv.not_row (e := 100) (by decide) hrow
  obtain ⟨g0, g1, g2, _, _, _⟩ := blk3 hv
  obtain ⟨p0, p1, p2, _, _, _⟩ := blk3 hq
  obtain ⟨i0, hi, hz0, hz1, hz2⟩ := info_parts info_ent
  have hes1 := es_one W x.2
  have hrow1 : OwnE (W.alloc (.cells #[.int .i64 x.2.t, .int .i64 x.2.k, .int .i64 x.2.v] 100)) w.heap.size (.slice A1 P.length cc1) P := hrow.alloc _
  have hv1 := hv.alloc (.cells #[.int .i64 x.2.t, .int .i64 x.2.k, .int .i64 x.2.v] 100)
  have hbW : w.heap.size ≤ (W.alloc (.cells #[.int .i64 x.2.t, .int .i64 x.2.k, .int .i64 x.2.v] 100)).heap.size := Nat.le_of_lt hv1.lt
  subst hTT
  gi_wp2_with (gi_at_builtin; refine wpListIn_append_sl _ rfl (.tmp 39) (.tmp 41) 25 rfl w.heap.size 100 i0 _ 3 24 Tryz.underlying25 hi hz0 hz1 hz2 rfl (by decide) _ P.length (entCells P) rfl hrow1 _ 1 (entCells [x.2]) rfl hes1 (one_ents _) (by unfold maxLen; omega) (by omega) hbW ?_; intro v' w4 hown' hgrow; obtain ⟨A5, c5, rfl, _, _⟩ := SlR.open_ (SlR.of_own hown'); have hv4 := hv1.kept hgrow hne; obtain ⟨y0, y1, y2, z0, z1, z2⟩ := blk3 hv4)
  have o1 := hown'.kept (grownBy_set w4 w.heap.size 1 (.slice A5 (P.length + 1) c5)) (.inr (hv4.not_row (by decide) hown').symm)
  have hv5 := hv4.set 1 (.slice A5 (P.length + 1) c5)
  have o2 := o1.kept (grownBy_set _ w.heap.size 2 (.int .i64 x.1)) (.inr (hv5.not_row (by decide) o1).symm)
  have hv6 := hv5.set 2 (.int .i64 x.1)
  refine ⟨(((Kept.refl.alloc _).grown hgrow (fun k o ek ho => ?_)).setCell (fun o ho _ => ?_) _).setCell (fun o ho _ => ?_) _, .slice A5 (P.length + 1) c5, ?_, ?_, ?_⟩
  ·obtain ⟨cur, hc'⟩ := ownsRow_cells hrow ek
   rw [ho] at hc'; cases hc'
   rintro (⟨_, _, h⟩ | ⟨_, h⟩)
   ·rcases h with h | h
    ·have := (hrow.lt k ek).1
     omega
    ·exact h rfl
   ·cases h
  ·rw [show W.heap[w.heap.size]? = _ from hv] at ho; cases ho
   rintro (⟨_, h, _⟩ | ⟨_, h⟩)
   ·exact h rfl
   ·cases h
  ·rw [show W.heap[w.heap.size]? = _ from hv] at ho; cases ho
   rintro (⟨_, h, _⟩ | ⟨_, h⟩)
   ·exact h rfl
   ·cases h
  ·rw [Hlp.out]
   exact hv6
  ·rw [Hsn.out]
   have hl1 : P.length + 1 = (P ++ [x.2]).length := by simp
   rw [hl1] at o2 ⊢
   unfold OwnE
   have hec : entCells (P ++ [x.2]) = entCells P ++ entCells [x.2] := by simp [entCells]
   rw [hec]
   exact o2
  ·have hE4 : Ext w w4 := Ext.grownOwn (Ext.alloc hB (.cells #[.int .i64 x.2.t, .int .i64 x.2.k, .int .i64 x.2.v] 100)) hrow1 hgrow
   exact (Below.setCell (p := ⟨w.heap.size, 1, none⟩) hE4 (Nat.le_refl _) _).setCell (p := ⟨w.heap.size, 2, none⟩) (Nat.le_refl _) _
 case done =>
  rintro D W hD ⟨v1, hv, hrow, hB⟩ hK
  rw [HL.out] at hv hrow
  obtain ⟨P, hP⟩ : ∃ P, L.map (·.2) = P := ⟨_, rfl⟩
  obtain ⟨lp, hlp⟩ : ∃ lp, lastP 6 L = lp := ⟨_, rfl⟩
  rw [hP] at hrow
  rw [hlp] at hv
  have HP := Lib.hid hP
  have Hlp := Lib.hid hlp
  clear hP hlp
  obtain ⟨A1, cc1, rfl, _, _⟩ := SlR.open_ (SlR.of_own hrow)
  obtain ⟨g0, g1, g2, f0, f1, f2⟩ := blk3 hv
  subst hTT
  gi_wp2
  have hb9 : Blk (set3 W w.heap.size (.int .i64 t) (.slice A1 P.length cc1) (.int .i64 lp)) w.heap.size 123 #[.int .i64 t, .slice A1 P.length cc1, .int .i64 lp] := blk_set3 hv _ _ _
  have ho9 := own_set3 hv (by decide : (123 : TypeId) ≠ 100) hrow (.int .i64 t) (.slice A1 P.length cc1) (.int .i64 lp)
  have hE9 : Ext w (set3 W w.heap.size (.int .i64 t) (.slice A1 P.length cc1) (.int .i64 lp)) := ext_set3 hB (Nat.le_refl _) _ _ _
  have hK9 : (set3 W w.heap.size (.int .i64 t) (.slice A1 P.length cc1) (.int .i64 lp)).heap[D]? = some (.deferred (some [])) := heap_setCell_obj (heap_setCell_obj (heap_setCell_obj hK rfl ⟨w.heap.size, 0, none⟩ _) rfl ⟨w.heap.size, 1, none⟩ _) rfl ⟨w.heap.size, 2, none⟩ _
  have hbp : Blk ((set3 W w.heap.size (.int .i64 t) (.slice A1 P.length cc1) (.int .i64 lp)).putObj D (.deferred none)) w.heap.size 123 #[.int .i64 t, .slice A1 P.length cc1, .int .i64 lp] := (World.putObj_heap_other (by omega)).trans hb9
  refine ret_mark hK9 (.tuple #[.agg #[.int .i64 t, .slice A1 P.length cc1, .int .i64 lp], .int .i64 0]) (scan1_res _ _ _ _ _ rfl rfl hbp rfl) ?_
  refine ⟨.slice A1 P.length cc1, by rw [Hlp.out], ?_, below_putObj hE9 (by omega) _⟩
  dsimp only
  rw [HP.out]
  exact ownsRow_putObj ho9 (.deferred none) hK9 rfl
theorem Scan1_any (v : Value) (bs : List UInt8) (w : World) (hB : Bs w v bs) (hl : bs.length ≤ 2000000) (hT : TabW T w) : Calls Tryz.prog 197 #[v] w (ScanP w (look1S T bs)) := by
 by_cases h : (look1S T bs).err = 11
 ·exact Scan1_bad v bs w hB h
 ·exact Scan1_ok v bs w hB hl hT h
open Go.RowKit Go.Mv
set_option maxRecDepth 100000
variable {T : Tab}
theorem resP_resB {w w' : World} {e : Ending} {r : Int × List UInt8} (h : ResP w r e w') : ResB w r e w' := by
 obtain ⟨v, rfl, ho, hE⟩ := h
 have ho' : OwnB w' w.heap.size v r.2 := ho
 obtain ⟨A, c, rfl, _, _⟩ := SlR.open_ (SlR.of_own ho')
 exact ⟨A, c, rfl, ho', hE⟩
theorem res_ct {fn : Func} {p q : Tmp} (hr : fn.results = #[.cell p 123, .tmp q]) (tmps : Array Value) (W : World) (b : Nat) (cs : Array Value) (u : Value) (hp : tmps.getD p undef = .pointer (some ⟨b, 0, none⟩)) (hq : tmps.getD q undef = u) (hb : Blk W b 123 cs) (hs : cs.size = 3) : (results fn tmps).run Tryz.prog W = .ok (.tuple #[.agg cs, u]) W := by
 have hl := hb.load (P := Tryz.prog) scanU rfl (by rw [hs]; kernel_rfl)
 have hp' : tmps[p]?.getD undef = .pointer (some ⟨b, 0, none⟩) := by simpa using hp
 have hq' : tmps[q]?.getD undef = u := by simpa using hq
 simp [results, hr, hp', hq', asAddr, hl]
theorem oldFile_any (first : Int) (v : Value) (l : List Ent) (w : World) (hT : TabW T w) (h : Es w v l) (hl : l.length ≤ 100000) : Calls Tryz.prog 193 #[.agg #[], .int .i64 first, v] w (ResB w (file1S T first l)) := by
 have hX : Ext w (w.alloc (.cells #[] 153)) := Ext.alloc (Ext.refl _) _
 have key := Lib.hid (File1_any (T := T) first v l _ (hT.ext hX) (h.ext hX) hl)
 obtain ⟨A, c, rfl, _, _⟩ := SlR.open_ h
 clear h hT
 go_enter Tryz.func193, Tryz.ntmps193
 go_wp2_with fail
 refine key.out.mono ?_
 rintro e w1 ⟨A1, c1, rfl, ho1, hE1⟩
 go_wp2_with fail
 go_ret2
 exact ⟨A1, c1, rfl, own_base ho1 hX.size, Ext.trans hX hE1⟩
theorem youngFile_any (first : Int) (v : Value) (l : List Ent) (w : World) (h : Es w v l) (hl : l.length ≤ 2000000) : Calls Tryz.prog 211 #[.agg #[], .int .i64 first, v] w (ResB w (fileS first l)) := by
 have hX : Ext w (w.alloc (.cells #[] 154)) := Ext.alloc (Ext.refl _) _
 have key := Lib.hid (File_any first v l _ (h.ext hX) hl)
 obtain ⟨A, c, rfl, _, _⟩ := SlR.open_ h
 clear h
 go_enter Tryz.func211, Tryz.ntmps211
 go_wp2_with fail
 refine key.out.mono ?_
 intro e w1 hr
 obtain ⟨A1, c1, rfl, ho1, hE1⟩ := resP_resB hr
 go_wp2_with fail
 go_ret2
 exact ⟨A1, c1, rfl, own_base ho1 hX.size, Ext.trans hX hE1⟩
def fmtMap : Array MapEntry := #[{ key := .int .i64 1, val := .iface 153 (.agg #[]), born := 0 }, { key := .int .i64 2, val := .iface 154 (.agg #[]), born := 1 }]
theorem insF (w : World) (es : Array MapEntry) (c : Nat) (n : Int) (v : Value) (hn : Instr.findNow (.int .i64) (.int .i64 n) es.toList 0 = some none) :
  (Instr.mapUpdate 132 (.map (some w.heap.size)) (.int .i64 n) v).run Tryz.prog (w.alloc (.map es c)) = .ok () (w.alloc (.map (es.push { key := .int .i64 n, val := v, born := c }) (c + 1))) :=
 run_insert_new w .i64 Tryz.underlying132 Tryz.underlying3 es c n v hn
theorem formats_any (w : World) : Calls Tryz.prog 71 #[] w fun e w' => e = .returned (.map (some w.heap.size)) ∧ w.alloc (.map fmtMap 2) = w' := by
 have hmm := @run_makeMap Tryz.prog
 have h0 := insF w #[] 0 1 (.iface 153 (.agg #[])) rfl
 have h1 := insF w #[{ key := .int .i64 1, val := .iface 153 (.agg #[]), born := 0 }] 1 2 (.iface 154 (.agg #[])) rfl
 simp only [List.push_toArray, List.nil_append, List.cons_append, Nat.reduceAdd] at h0 h1
 go_enter Tryz.func71, Tryz.ntmps71
 go_wp2
 go_ret
 exact ⟨rfl, rfl⟩
theorem fmt_find (f : Int) : Instr.findNow (.int .i64) (.int .i64 f) fmtMap.toList 0 = some (if f = 1 then some (0, .iface 153 (.agg #[])) else if f = 2 then some (1, .iface 154 (.agg #[])) else none) := by
 by_cases h1 : f = 1
 ·subst h1; rfl
 ·by_cases h2 : f = 2
  ·subst h2; rfl
  ·have e1 : (f == 1) = false := by simp [h1]
   have e2 : (f == 2) = false := by simp [h2]
   rw [if_neg h1, if_neg h2]
   simp [fmtMap, Instr.findNow, Instr.sameNow, e1, e2]
theorem fmt_look (W : World) (r : Nat) (h : W.heap[r]? = some (.map fmtMap 2)) (f : Int) :
  (Instr.lookup 132 (.map (some r)) (.int .i64 f) true).run Tryz.prog W = .ok (.tuple #[if f = 1 then .iface 153 (.agg #[]) else if f = 2 then .iface 154 (.agg #[]) else .nilIface, .bool (decide (f = 1 ∨ f = 2))]) W ∧
  (Instr.lookup 132 (.map (some r)) (.int .i64 f) false).run Tryz.prog W = .ok (if f = 1 then .iface 153 (.agg #[]) else if f = 2 then .iface 154 (.agg #[]) else .nilIface) W := by
 have k1 := run_lookup_ok (P := Tryz.prog) W .i64 Tryz.underlying132 Tryz.underlying3 fmtMap 2 f .nilIface (by kernel_rfl) h _ (fmt_find f)
 have k2 := run_lookup_one (P := Tryz.prog) W .i64 Tryz.underlying132 Tryz.underlying3 fmtMap 2 f .nilIface (by kernel_rfl) h _ (fmt_find f)
 rw [k1, k2]
 by_cases h1 : f = 1
 ·subst h1; exact ⟨rfl, rfl⟩
 ·by_cases h2 : f = 2
  ·subst h2; exact ⟨rfl, rfl⟩
  ·simp [h1, h2]
theorem mth (w : World) :
  (method 272 153 (.agg #[]) "moult/either.file").run Tryz.prog w = .ok (193, .agg #[]) w ∧ (method 272 154 (.agg #[]) "moult/either.file").run Tryz.prog w = .ok (211, .agg #[]) w ∧
  (method 272 153 (.agg #[]) "moult/either.scan").run Tryz.prog w = .ok (195, .agg #[]) w ∧ (method 272 154 (.agg #[]) "moult/either.scan").run Tryz.prog w = .ok (213, .agg #[]) w ∧
  (method 272 153 (.agg #[]) "moult/either.more").run Tryz.prog w = .ok (194, .agg #[]) w ∧ (method 272 154 (.agg #[]) "moult/either.more").run Tryz.prog w = .ok (212, .agg #[]) w := by
 refine ⟨?_, ?_, ?_, ?_, ?_, ?_⟩ <;> kernel_rfl
def fileE (T : Tab) (f first : Int) (l : List Ent) : Int × List UInt8 := if f = 1 then file1S T first l else if f = 2 then fileS first l else (2, [])
theorem map_at (w : World) : (w.alloc (.map fmtMap 2)).heap[w.heap.size]? = some (.map fmtMap 2) := World.alloc_heap_new _ _
theorem FileE_any (f first : Int) (v : Value) (l : List Ent) (w : World) (hT : TabW T w) (h : Es w v l) (hl : l.length ≤ 100000) : Calls Tryz.prog 49 #[.int .i64 f, .int .i64 first, v] w (ResB w (fileE T f first l)) := by
 obtain ⟨A, c, rfl, _, _⟩ := SlR.open_ h
 have hX : Ext w (w.alloc (.map fmtMap 2)) := Ext.alloc (Ext.refl _) _
 obtain ⟨hlk, _⟩ := fmt_look _ _ (map_at w) f
 unfold fileE
 by_cases h1 : f = 1
 ·subst h1
  rw [if_pos rfl]
  have key := Lib.hid (oldFile_any (T := T) first _ l _ (hT.ext hX) (h.ext hX) hl)
  clear h hT
  simp only [if_true, true_or, decide_true] at hlk
  have hm := fun w => (mth w).1
  go_enter Tryz.func49, Tryz.ntmps49
  go_wp2_with (go_at_call 71; refine (formats_any _).mono ?_; rintro e w' ⟨rfl, rfl⟩)
  refine key.out.mono ?_
  rintro e w1 ⟨A1, c1, rfl, ho1, hE1⟩
  go_wp2_with fail
  go_ret2
  exact ⟨A1, c1, rfl, own_base ho1 hX.size, Ext.trans hX hE1⟩
 ·rw [if_neg h1]
  by_cases h2 : f = 2
  ·subst h2
   rw [if_pos rfl]
   have key := Lib.hid (youngFile_any first _ l _ (h.ext hX) (by omega))
   clear h hT
   have hlk' : (Instr.lookup 132 (.map (some w.heap.size)) (.int .i64 2) true).run Tryz.prog (w.alloc (.map fmtMap 2)) = .ok (.tuple #[.iface 154 (.agg #[]), .bool true]) (w.alloc (.map fmtMap 2)) := hlk
   have hm := fun w => (mth w).2.1
   clear hlk h1
   go_enter Tryz.func49, Tryz.ntmps49
   go_wp2_with (go_at_call 71; refine (formats_any _).mono ?_; rintro e w' ⟨rfl, rfl⟩)
   refine key.out.mono ?_
   rintro e w1 ⟨A1, c1, rfl, ho1, hE1⟩
   go_wp2_with fail
   go_ret2
   exact ⟨A1, c1, rfl, own_base ho1 hX.size, Ext.trans hX hE1⟩
  ·rw [if_neg h2]
   have hd : decide (f = 1 ∨ f = 2) = false := by simp [h1, h2]
   rw [if_neg h1, if_neg h2, hd] at hlk
   clear h hT hd
   go_enter Tryz.func49, Tryz.ntmps49
   go_wp2_with (go_at_call 71; refine (formats_any _).mono ?_; rintro e w' ⟨rfl, rfl⟩)
   go_ret2
   exact resB_nil rfl hX
def scanE (T : Tab) (b : List UInt8) (f : Int) : LookR := if f = 1 then look1S T b else if f = 2 then lookS b else ⟨2, 0, [], 0, (0, 0)⟩
theorem oldScan_any (v : Value) (bs : List UInt8) (w : World) (hB : Bs w v bs) (hl : bs.length ≤ 2000000) (hT : TabW T w) : Calls Tryz.prog 195 #[.agg #[], v] w (ScanP w (look1S T bs)) := by
 have hX0 : Ext w (w.alloc (.cells #[] 153)) := Ext.alloc (Ext.refl _) _
 have hX : Ext w ((w.alloc (.cells #[] 153)).alloc (.cells #[.int .i64 0, .slice none 0 0, .int .i64 0] 123)) := Ext.alloc hX0 _
 have hb := Blk.new (w.alloc (.cells #[] 153)) 123 #[.int .i64 0, .slice none 0 0, .int .i64 0]
 rw [World.size_alloc] at hb
 have key := Lib.hid (Scan1_any (T := T) v bs _ (hB.ext hX) hl (hT.ext hX))
 obtain ⟨A, c, rfl, _, _⟩ := SlR.open_ hB
 clear hB hT
 obtain ⟨r, hr⟩ : ∃ r, look1S T bs = r := ⟨_, rfl⟩
 rw [hr] at key ⊢
 go_enter Tryz.func195, Tryz.ntmps195
 go_wp2_with fail
 refine key.out.mono ?_
 rintro e w1 ⟨vl, rfl, ho1, hE1⟩
 have ho1' : OwnE w1 _ vl r.log := ho1
 obtain ⟨A1, c1, rfl, _, _⟩ := SlR.open_ ho1'.es
 have hb1 := hb.ext hE1
 obtain ⟨g0, g1, g2, f0, f1, f2⟩ := blk3 hb1
 go_wp2_with fail
 have ho2 := own_set3 hb1 (by decide : (123 : TypeId) ≠ 100) ho1 (.int .i64 r.first) (.slice A1 r.log.length c1) (.int .i64 r.used)
 refine bodyPost_ret (res_ct rfl _ _ _ _ _ rfl rfl (blk_set3 hb1 _ _ _) rfl) rfl ⟨_, rfl, own_base ho2 hX.size, ext_set3 (Ext.trans hX hE1) (Nat.le_succ _) _ _ _⟩
theorem youngScan_any (v : Value) (bs : List UInt8) (w : World) (hB : Bs w v bs) (hl : bs.length ≤ 2000000) : Calls Tryz.prog 213 #[.agg #[], v] w (ScanP w (lookS bs)) := by
 have hX0 : Ext w (w.alloc (.cells #[] 154)) := Ext.alloc (Ext.refl _) _
 have hX : Ext w ((w.alloc (.cells #[] 154)).alloc (.cells #[.int .i64 0, .slice none 0 0, .int .i64 0] 123)) := Ext.alloc hX0 _
 have hb := Blk.new (w.alloc (.cells #[] 154)) 123 #[.int .i64 0, .slice none 0 0, .int .i64 0]
 rw [World.size_alloc] at hb
 have key := Lib.hid (Scan_any v bs _ (hB.ext hX) hl)
 obtain ⟨A, c, rfl, _, _⟩ := SlR.open_ hB
 clear hB
 obtain ⟨r, hr⟩ : ∃ r, lookS bs = r := ⟨_, rfl⟩
 rw [hr] at key ⊢
 go_enter Tryz.func213, Tryz.ntmps213
 go_wp2_with fail
 refine key.out.mono ?_
 rintro e w1 ⟨vl, rfl, ho1, hE1⟩
 have ho1' : OwnE w1 _ vl r.log := ho1
 obtain ⟨A1, c1, rfl, _, _⟩ := SlR.open_ ho1'.es
 have hb1 := hb.ext hE1
 obtain ⟨g0, g1, g2, f0, f1, f2⟩ := blk3 hb1
 go_wp2_with fail
 have ho2 := own_set3 hb1 (by decide : (123 : TypeId) ≠ 100) ho1 (.int .i64 r.first) (.slice A1 r.log.length c1) (.int .i64 r.used)
 refine bodyPost_ret (res_ct rfl _ _ _ _ _ rfl rfl (blk_set3 hb1 _ _ _) rfl) rfl ⟨_, rfl, own_base ho2 hX.size, ext_set3 (Ext.trans hX hE1) (Nat.le_succ _) _ _ _⟩
open Go.RowKit Go.Mv Go.Shelf
attribute [local go_sem] Oper.semAt_some
set_option maxRecDepth 100000
variable {T : Tab}
theorem scanE_err {b : List UInt8} {f : Int} (h : ¬ (f = 1 ∨ f = 2)) : scanE T b f = ⟨2, 0, [], 0, (0, 0)⟩ := by
 unfold scanE
 rw [if_neg (fun q => h (.inl q)), if_neg (fun q => h (.inr q))]
theorem ScanE_any (v : Value) (bs : List UInt8) (f : Int) (w : World) (hB : Bs w v bs) (hl : bs.length ≤ 2000000) (hT : TabW T w) : Calls Tryz.prog 88 #[v, .int .i64 f] w (ScanP w (scanE T bs f)) := by
 have hb := Blk.new w 123 #[.int .i64 0, .slice none 0 0, .int .i64 0]
 have hX0 : Ext w (w.alloc (.cells #[.int .i64 0, .slice none 0 0, .int .i64 0] 123)) := Ext.alloc (Ext.refl _) _
 have hX : Ext w ((w.alloc (.cells #[.int .i64 0, .slice none 0 0, .int .i64 0] 123)).alloc (.map fmtMap 2)) := Ext.alloc hX0 _
 have hb1 := hb.alloc (.map fmtMap 2)
 obtain ⟨hlk, _⟩ := fmt_look _ _ (map_at (w.alloc (.cells #[.int .i64 0, .slice none 0 0, .int .i64 0] 123))) f
 rw [World.size_alloc] at hlk
 obtain ⟨A, c, rfl, _, _⟩ := SlR.open_ hB
 by_cases h1 : f = 1
 ·subst h1
  have hr : scanE T bs 1 = look1S T bs := rfl
  rw [hr]
  have key := Lib.hid (oldScan_any (T := T) _ bs _ (hB.ext hX) hl (hT.ext hX))
  clear hB hT hr
  simp only [if_true, true_or, decide_true] at hlk
  have hm := fun w => (mth w).2.2.1
  obtain ⟨r, hr⟩ : ∃ r, look1S T bs = r := ⟨_, rfl⟩
  rw [hr] at key ⊢
  go_enter Tryz.func88, Tryz.ntmps88
  go_wp2_with (go_at_call 71; refine (formats_any _).mono ?_; rintro e w' ⟨rfl, rfl⟩)
  refine key.out.mono ?_
  rintro e w1 ⟨vl, rfl, ho1, hE1⟩
  have ho1' : OwnE w1 _ vl r.log := ho1
  obtain ⟨A1, c1, rfl, _, _⟩ := SlR.open_ ho1'.es
  have hb2 := hb1.ext hE1
  obtain ⟨g0, g1, g2, f0, f1, f2⟩ := blk3 hb2
  go_wp2_with fail
  have ho2 := own_set3 hb2 (by decide : (123 : TypeId) ≠ 100) ho1 (.int .i64 r.first) (.slice A1 r.log.length c1) (.int .i64 r.used)
  exact bodyPost_ret (res_ct rfl _ _ _ _ _ rfl rfl (blk_set3 hb2 _ _ _) rfl) rfl ⟨_, rfl, own_base ho2 hX.size, ext_set3 (Ext.trans hX hE1) (Nat.le_refl _) _ _ _⟩
 ·by_cases h2 : f = 2
  ·subst h2
   have hr : scanE T bs 2 = lookS bs := rfl
   rw [hr]
   have key := Lib.hid (youngScan_any _ bs _ (hB.ext hX) hl)
   clear hB hT hr
   have hlk' : (Instr.lookup 132 (.map (some (w.heap.size + 1))) (.int .i64 2) true).run Tryz.prog ((w.alloc (.cells #[.int .i64 0, .slice none 0 0, .int .i64 0] 123)).alloc (.map fmtMap 2)) = .ok (.tuple #[.iface 154 (.agg #[]), .bool true]) ((w.alloc (.cells #[.int .i64 0, .slice none 0 0, .int .i64 0] 123)).alloc (.map fmtMap 2)) := hlk
   have hm := fun w => (mth w).2.2.2.1
   clear hlk h1
   obtain ⟨r, hr⟩ : ∃ r, lookS bs = r := ⟨_, rfl⟩
   rw [hr] at key ⊢
   go_enter Tryz.func88, Tryz.ntmps88
   go_wp2_with (go_at_call 71; refine (formats_any _).mono ?_; rintro e w' ⟨rfl, rfl⟩)
   refine key.out.mono ?_
   rintro e w1 ⟨vl, rfl, ho1, hE1⟩
   have ho1' : OwnE w1 _ vl r.log := ho1
   obtain ⟨A1, c1, rfl, _, _⟩ := SlR.open_ ho1'.es
   have hb2 := hb1.ext hE1
   obtain ⟨g0, g1, g2, f0, f1, f2⟩ := blk3 hb2
   go_wp2_with fail
   have ho2 := own_set3 hb2 (by decide : (123 : TypeId) ≠ 100) ho1 (.int .i64 r.first) (.slice A1 r.log.length c1) (.int .i64 r.used)
   exact bodyPost_ret (res_ct rfl _ _ _ _ _ rfl rfl (blk_set3 hb2 _ _ _) rfl) rfl ⟨_, rfl, own_base ho2 hX.size, ext_set3 (Ext.trans hX hE1) (Nat.le_refl _) _ _ _⟩
  ·have hr : scanE T bs f = ⟨2, 0, [], 0, (0, 0)⟩ := scanE_err (by omega)
   rw [hr]
   have hd : decide (f = 1 ∨ f = 2) = false := by simp [h1, h2]
   rw [if_neg h1, if_neg h2, hd] at hlk
   clear hB hT hd hr
   obtain ⟨g0, g1, g2, f0, f1, f2⟩ := blk3 hb1
   go_enter Tryz.func88, Tryz.ntmps88
   go_wp2_with (go_at_call 71; refine (formats_any _).mono ?_; rintro e w' ⟨rfl, rfl⟩)
   exact bodyPost_ret (res_ct rfl _ _ _ _ _ rfl rfl hb1 rfl) rfl ⟨_, rfl, World.ownsRow_nil _ _ _ _, hX⟩
open Go.RowKit Go.Mv
theorem headS_ok {f : Nat} (h1 : 1 ≤ f) (h2 : f ≤ 1073741824) : (headS (f : Int)).1 = 0 := by
 unfold headS
 rw [if_pos ⟨by rw [numB_true]; omega, by omega⟩]
open Go.RowKit Go.Mv
variable {T : Tab}
theorem crcTake_put (x : List UInt8) : crcTakeS T (crcPut T x) = some x := by
 have hl : (crcPut T x).length - 4 = x.length := by rw [crcPut_len]; omega
 unfold crcTakeS
 rw [hl]
 have e1 : (crcPut T x).take x.length = x := by unfold crcPut; exact List.take_left
 have e2 : (crcPut T x).drop x.length = fourU (nextN T 0 x) := by unfold crcPut; exact List.drop_left
 rw [e1, e2, if_pos rfl]
theorem take1_rec (e : Ent) (h : e.ok = true) : take1S T (rec1 T e) = some e := by
 obtain ⟨t, k, v⟩ := e
 have hok : okB t k v = true := h
 obtain ⟨q1, q2, q3, q4, q5, q6, _⟩ := okB_true.1 hok
 have e1 : takeLongS (recB ⟨t, k, v⟩) = (0, t.toNat, [UInt8.ofNat k.toNat] ++ long1 v.toNat) := takeLong_put t.toNat (by omega) _
 have e2 : takeLongS (long1 v.toNat) = (0, v.toNat, []) := by
  have := takeLong_put v.toNat (by omega) []
  rwa [List.append_nil] at this
 have e3 : ((UInt8.ofNat k.toNat).toNat : Int) = k := by rw [UInt8.toNat_ofNat']; omega
 unfold take1S rec1
 rw [crcTake_put]
 dsimp only
 rw [e1]
 dsimp only
 rw [if_pos rfl]
 have e4 : (([UInt8.ofNat k.toNat] : List UInt8) ++ long1 v.toNat).drop 1 = long1 v.toNat := rfl
 have e5 : ((([UInt8.ofNat k.toNat] : List UInt8) ++ long1 v.toNat).getD 0 0) = UInt8.ofNat k.toNat := rfl
 rw [e4, e5, e2]
 dsimp only
 rw [if_pos rfl, e3, Int.toNat_of_nonneg (by omega), Int.toNat_of_nonneg q5, if_pos hok]
def posL : Nat → List Ent → List (Nat × Ent)
 | _, [] => []
 | p, e :: l => (p + 15, e) :: posL (p + 15) l
theorem posL_map (l : List Ent) : ∀ p, (posL p l).map (·.2) = l := by
 induction l with
 | nil => intro p; rfl
 | cons e l ih => intro p; simp [posL, ih]
theorem posL_last (l : List Ent) : ∀ p, lastP p (posL p l) = p + 15 * l.length := by
 induction l with
 | nil => intro p; rfl
 | cons e l ih =>
  intro p
  rw [posL, lastP, ih, List.length_cons]
  omega
theorem allOk_cons {e : Ent} {l : List Ent} (h : allOk (e :: l) = true) : e.ok = true ∧ allOk l = true := by
 unfold allOk at *
 simpa using h
theorem recs_put (l : List Ent) (X : List UInt8) (hX : X.length < 15) (h : allOk l = true) : ∀ p, recsP T (putL T l ++ X) p = posL p l := by
 induction l with
 | nil => intro p; exact recsP_short hX
 | cons e l ih =>
  intro p
  obtain ⟨h1, h2⟩ := allOk_cons h
  have e1 : putL T (e :: l) ++ X = rec1 T e ++ (putL T l ++ X) := by unfold putL; rw [List.flatMap_cons, List.append_assoc]
  have e2 : (rec1 T e ++ (putL T l ++ X)).take 15 = rec1 T e := List.take_left' (rec1_len e)
  have e3 : (rec1 T e ++ (putL T l ++ X)).drop 15 = putL T l ++ X := List.drop_left' (rec1_len e)
  rw [e1, recsP_some (e := e) (by rw [List.length_append, rec1_len]; omega) (by rw [e2]; exact take1_rec e h1), e3, ih h2]
  rfl
theorem look1_put {f : Nat} (h1 : 1 ≤ f) (h2 : f ≤ 1073741824) (l : List Ent) (X : List UInt8) (hX : X.length < 15) (h : allOk l = true) : look1S T ((1 :: long1 f) ++ (putL T l ++ X)) = ⟨0, f, l, 6 + 15 * l.length, (0, 0)⟩ := by
 have hl5 := long1_len f
 have e1 : ((1 :: long1 f) ++ (putL T l ++ X)).length = 6 + (putL T l ++ X).length := by simp [hl5]; omega
 have e2 : ((1 :: long1 f) ++ (putL T l ++ X)).getD 0 0 = 1 := rfl
 have e3 : (((1 :: long1 f) ++ (putL T l ++ X)).drop 1).take 5 = long1 f := by
  show (long1 f ++ (putL T l ++ X)).take 5 = long1 f
  exact List.take_left' hl5
 have e4 : ((1 :: long1 f) ++ (putL T l ++ X)).drop 6 = putL T l ++ X := List.drop_left' (by simp [hl5])
 have e5 : takeLongS (long1 f) = (0, f, []) := by
  have := takeLong_put f h2 []
  rwa [List.append_nil] at this
 unfold look1S
 rw [if_neg (by rw [e1, e2]; intro h; rcases h with h | h; omega; exact h rfl), e3, e4, e5]
 dsimp only
 rw [if_pos ⟨rfl, by omega⟩, recs_put l X hX h, posL_map, posL_last]
def Sg (T : Tab) (m : Int) (b : List UInt8) (f : Nat) (l : List Ent) : Prop :=
 1 ≤ f ∧ f ≤ 1073741824 ∧ allOk l = true ∧ ((m = 1 ∧ b = (1 :: long1 f) ++ putL T l) ∨ (m = 2 ∧ ∃ r q, b = (headS (f : Int)).2 ++ r ∧ scanS (chainP (0, 0) (headS (f : Int)).2) r = (l, q, [])))
theorem look2_of {b r : List UInt8} {f : Nat} {q : Nat × Nat} {l : List Ent} (h1 : 1 ≤ f) (h2 : f ≤ 1073741824) (hb : b = (headS (f : Int)).2 ++ r) (hs : scanS (chainP (0, 0) (headS (f : Int)).2) r = (l, q, [])) : lookS b = ⟨0, f, l, b.length, q⟩ := by
 have hd : headT b = some (f, r) := (headT_iff _ _ _).2 ⟨headS_ok h1 h2, hb⟩
 unfold lookS
 rw [hd]
 dsimp only
 rw [hs]
 simp
theorem head1_ok {f : Nat} (h1 : 1 ≤ f) (h2 : f ≤ 1073741824) : head1S (f : Int) = (0, 1 :: long1 f) := by
 unfold head1S
 rw [if_pos ⟨by rw [numB_true]; omega, by omega⟩, Int.toNat_natCast]
theorem sg_scan {m : Int} {b : List UInt8} {f : Nat} {l : List Ent} (h : Sg T m b f l) : ∃ q, scanE T b m = ⟨0, f, l, b.length, q⟩ := by
 obtain ⟨h1, h2, hl, ⟨rfl, rfl⟩ | ⟨rfl, r, q, hb, hs⟩⟩ := h
 ·refine ⟨(0, 0), ?_⟩
  have := look1_put (T := T) h1 h2 l [] (by simp) hl
  rw [List.append_nil] at this
  show look1S T _ = _
  rw [this]
  congr 1
  rw [List.length_append, putL_len, List.length_cons, long1_len]
 ·exact ⟨q, look2_of h1 h2 hb hs⟩
theorem sg_file {m : Int} (hm : m = 1 ∨ m = 2) {f : Nat} (h1 : 1 ≤ f) (h2 : f ≤ 1073741824) {l : List Ent} (hl : allOk l = true) : ∃ b, fileE T m f l = (0, b) ∧ Sg T m b f l ∧ b.length ≤ 6 + 20 * l.length ∧ 2 ≤ b.length := by
 rcases hm with rfl | rfl
 ·refine ⟨(1 :: long1 f) ++ putL T l, ?_, ⟨h1, h2, hl, .inl ⟨rfl, rfl⟩⟩, ?_, ?_⟩
  ·unfold fileE
   rw [if_pos rfl]
   unfold file1S
   rw [head1_ok h1 h2, if_pos rfl, if_pos hl]
  ·rw [List.length_append, putL_len, List.length_cons, long1_len]; omega
  ·rw [List.length_append, List.length_cons, long1_len]; omega
 ·have hh := headS_ok h1 h2
  have hfile := file_ok hh hl
  have hfl := file_len (f : Int) l
  rw [hfile] at hfl
  dsimp only at hfl
  have hsc := scan_blocks (chainP (0, 0) (headS (f : Int)).2) l hl []
  rw [scan_nil, List.append_nil, List.append_nil] at hsc
  refine ⟨_, hfile, ⟨h1, h2, hl, .inr ⟨rfl, _, _, rfl, hsc⟩⟩, hfl, ?_⟩
  have h3 : (headS (f : Int)).2 = 2 :: shorts [(f : Int)] := by unfold headS; rw [if_pos ⟨by rw [numB_true]; omega, by omega⟩]
  have h4 : 1 ≤ (shorts [(f : Int)]).length := by simp [shorts]; exact (short1_len f).1
  rw [List.length_append, h3, List.length_cons]
  omega
end Go.Proofs.YtmecffckghkahaaGreatDoor
