/-
  The walk of one.Scan.
  The walks of either's formats, File, Scan.
  The walks of either's Scan, whole, More, Turn.
  The walks of either's More, Turn.
-/
import Derived.Test.YtfjcnpigpkcfgaaGreatM15
set_option linter.all false
namespace Go.Proofs.YtfjcnpigpkcfgaaGreat
open Go.RowKit Go.Mv Go.Shelf
attribute [local go_sem] Oper.semAt_some
set_option maxRecDepth 100000
variable {T : Tab}

def lastP : Nat → List (Nat × Ent) → Nat
  | d, [] => d
  | _, x :: l => lastP x.1 l
theorem lastP_snoc (l : List (Nat × Ent)) (x : Nat × Ent) : ∀ d, lastP d (l ++ [x]) = x.1 := by
  induction l with
  | nil => intro d; rfl
  | cons y l ih => intro d; exact ih _
/-- What a segment of the first writing tells. -/
def look1S (T : Tab) (b : List UInt8) : LookR :=
  if b.length < 6 ∨ b.getD 0 0 ≠ 1 then ⟨11, 0, [], 0, (0, 0)⟩
  else if (takeLongS ((b.drop 1).take 5)).1 = 0 ∧ (takeLongS ((b.drop 1).take 5)).2.1 ≠ 0 then ⟨0, (takeLongS ((b.drop 1).take 5)).2.1, (recsP T (b.drop 6) 6).map (·.2), lastP 6 (recsP T (b.drop 6) 6), (0, 0)⟩
  else ⟨11, 0, [], 0, (0, 0)⟩
theorem scanU : Tryz.prog.underlying 29 = some (.struct (Tryz.prog.fieldsOf 29)) := by kernel_rfl
theorem scan1_res (tmps : Array Value) (W : World) (b : Nat) (cs : Array Value) (u : Value) (h2 : tmps.getD 2 undef = .pointer (some ⟨b, 0, none⟩)) (h3 : tmps.getD 3 undef = u) (hb : Blk W b 29 cs) (hs : cs.size = 3) : (results Tryz.f85 tmps).run Tryz.prog W = .ok (.tuple #[.agg cs, u]) W := by
  have hl := hb.load (P := Tryz.prog) scanU rfl (by rw [hs]; kernel_rfl)
  have h2' : tmps[2]?.getD undef = .pointer (some ⟨b, 0, none⟩) := by simpa using h2
  have h3' : tmps[3]?.getD undef = u := by simpa using h3
  simp [results, Tryz.results85, h2', h3', asAddr, hl]
theorem recsP_len (b : List UInt8) : ∀ p, (recsP T b p).length * 15 ≤ b.length := by
  generalize hn : b.length = n
  induction n using Nat.strongRecOn generalizing b with
  | _ n ih =>
    intro p
    by_cases h : b.length < 15
    · rw [recsP_short h]; simp
    · cases ht : take1S T (b.take 15) with
      | none => rw [recsP_none h ht]; simp
      | some e =>
        have := ih (b.drop 15).length (by rw [List.length_drop]; omega) (b.drop 15) rfl (p + 15)
        rw [recsP_some h ht, List.length_cons]
        rw [List.length_drop] at this
        omega
theorem es_one (W : World) (x : Ent) : Es (W.alloc (.cells #[.int .i64 x.t, .int .i64 x.k, .int .i64 x.v] 41)) (.slice (some ⟨W.heap.size, 0, none⟩) 1 1) [x] := by
  refine ⟨by simp [entCells, Ent.cells], _, 1, rfl, Nat.le_refl _, by simp [maxLen], fun _ => ⟨W.heap.size, 0, rfl, fun j u hu => ?_⟩⟩
  rw [Nat.zero_add]
  exact (Blk.new W 41 #[.int .i64 x.t, .int .i64 x.k, .int .i64 x.v]).cell j (by simpa [entCells, Ent.cells] using hu)
def ScI (w : World) (f : Nat) (pre : List (Nat × Ent)) (X : World) : Prop := ∃ vl, Blk X w.heap.size 29 #[.int .i64 f, vl, .int .i64 (lastP 6 pre : Nat)] ∧ OwnE X w.heap.size vl (pre.map (·.2)) ∧ Ext w X

set_option maxHeartbeats 2000000 in
theorem Scan1_bad (v : Value) (bs : List UInt8) (w : World) (hB : Bs w v bs) (h : (look1S T bs).err = 11) : Calls Tryz.prog 85 #[v] w (ScanP w (look1S T bs)) := by
  obtain ⟨A, c, rfl, h1, h2⟩ := SlR.open_ hB
  have hb0 := Blk.new w 29 #[.int .i64 0, .slice none 0 0, .int .i64 0]
  have hX : Ext w (w.alloc (.cells #[.int .i64 0, .slice none 0 0, .int .i64 0] 29)) := Ext.alloc (Ext.refl _) _
  have hlk : look1S T bs = ⟨11, 0, [], 0, (0, 0)⟩ := by
    unfold look1S at h ⊢
    split
    · rfl
    · rename_i hn
      rw [if_neg hn] at h
      split
      · rename_i h3; rw [if_pos h3] at h; cases h
      · rfl
  rw [hlk]
  have hrow0 : ∀ W : World, W.ownsRow w.heap.size 41 3 (.slice none 0 0) ([] : List Ent).length (entCells []) := fun W => World.ownsRow_nil _ _ _ _
  by_cases hlen : bs.length < 6
  · have hll : ((bs.length : Int) < 6) := by omega
    clear hlk h hB
    obtain ⟨g0, g1, g2, f0, f1, f2⟩ := blk3 hb0
    go_enter Tryz.func85, Tryz.ntmps85
    go_wp2_with fail
    exact bodyPost_ret (scan1_res _ _ _ _ _ rfl rfl hb0 rfl) rfl ⟨_, rfl, hrow0 _, hX⟩
  · have hll : ¬ ((bs.length : Int) < 6) := by omega
    obtain ⟨_, b, off, rfl, hc⟩ := Bs.at_ hB (by omega)
    have hc0 := hc 0 (by omega)
    obtain ⟨x0, hx0⟩ : ∃ x0, bs[0]'(by omega) = x0 := ⟨_, rfl⟩
    rw [hx0] at hc0
    have hgd : bs.getD 0 0 = x0 := by rw [← hx0]; simp [List.getD_eq_getElem?_getD, List.getElem?_eq_getElem (show 0 < bs.length by omega)]
    have hc0' := cell_alloc hc0 (.cells #[.int .i64 0, .slice none 0 0, .int .i64 0] 29)
    rw [Nat.add_zero] at hc0'
    by_cases hx : x0 = 1
    · have hx1 : ((x0.toNat : Int) != 1) = false := by rw [hx]; rfl
      have hpart := bytes_part hB 1 5 (by omega)
      obtain ⟨p, hp⟩ : ∃ p, (bs.drop 1).take 5 = p := ⟨_, rfl⟩
      have hpl : p.length = 5 := by rw [← hp, List.length_take, List.length_drop]; omega
      rw [hp] at hpart
      have hBp : Bs w (.slice (some ⟨b, off + 1, none⟩) 5 (c - 1)) p := SlR.capd hpart (by rw [hpl]; omega) (by omega)
      have key := TakeLong_any _ p _ (hBp.ext hX) (by omega)
      have hbad : (takeLongS p).1 ≠ 0 ∨ (takeLongS p).2.1 = 0 := by
        unfold look1S at h
        rw [if_neg (by rw [hgd, hx]; intro h; rcases h with h | h; exact hlen h; exact h rfl)] at h
        rw [hp] at h
        by_cases h1 : (takeLongS p).1 = 0
        · by_cases h2 : (takeLongS p).2.1 = 0
          · exact .inr h2
          · rw [if_pos ⟨h1, h2⟩] at h; cases h
        · exact .inl h1
      rcases htl : takeLongS p with ⟨e1, t, rest⟩
      rw [htl] at key hbad
      have Key := Lib.hid key
      have hcc : (6 : Int) ≤ (c : Int) := by omega
      clear key htl hp hpl hpart hBp hlk h hB hc hc0 hx0 hgd hlen hx
      rcases hbad with h1 | h1
      · have hne : ((e1 : Int) != 0) = true := by simpa using h1
        clear h1
        go_enter Tryz.func85, Tryz.ntmps85
        go_wp2_with fail
        refine Key.out.mono ?_
        rintro e w1 ⟨vr, rfl, -, hE1⟩
        have hb1 := hb0.ext hE1
        obtain ⟨g0, g1, g2, f0, f1, f2⟩ := blk3 hb1
        go_wp2_with fail
        exact bodyPost_ret (scan1_res _ _ _ _ _ rfl rfl (blk_set3 hb1 _ _ _) rfl) rfl ⟨_, rfl, hrow0 _, ext_set3 (Ext.trans hX hE1) (Nat.le_refl _) _ _ _⟩
      · by_cases he : e1 = 0
        · dsimp only at h1
          subst h1 he
          go_enter Tryz.func85, Tryz.ntmps85
          go_wp2_with fail
          refine Key.out.mono ?_
          rintro e w1 ⟨vr, rfl, -, hE1⟩
          have hb1 := hb0.ext hE1
          obtain ⟨g0, g1, g2, f0, f1, f2⟩ := blk3 hb1
          go_wp2_with fail
          exact bodyPost_ret (scan1_res _ _ _ _ _ rfl rfl (blk_set3 hb1 _ _ _) rfl) rfl ⟨_, rfl, hrow0 _, ext_set3 (Ext.trans hX hE1) (Nat.le_refl _) _ _ _⟩
        · have hne : ((e1 : Int) != 0) = true := by simpa using he
          clear h1 he
          go_enter Tryz.func85, Tryz.ntmps85
          go_wp2_with fail
          refine Key.out.mono ?_
          rintro e w1 ⟨vr, rfl, -, hE1⟩
          have hb1 := hb0.ext hE1
          obtain ⟨g0, g1, g2, f0, f1, f2⟩ := blk3 hb1
          go_wp2_with fail
          exact bodyPost_ret (scan1_res _ _ _ _ _ rfl rfl (blk_set3 hb1 _ _ _) rfl) rfl ⟨_, rfl, hrow0 _, ext_set3 (Ext.trans hX hE1) (Nat.le_refl _) _ _ _⟩
    · have hx1 : ((x0.toNat : Int) != 1) = true := by
        rw [bne_iff_ne]
        intro h
        apply hx
        apply UInt8.toNat_inj.1
        show x0.toNat = 1
        omega
      clear hlk h hB hc hc0 hx0 hgd hlen hx
      obtain ⟨g0, g1, g2, f0, f1, f2⟩ := blk3 hb0
      go_enter Tryz.func85, Tryz.ntmps85
      go_wp2_with fail
      exact bodyPost_ret (scan1_res _ _ _ _ _ rfl rfl hb0 rfl) rfl ⟨_, rfl, hrow0 _, hX⟩

theorem records_any (A : Option Addr) (n c : Nat) (w : World) : Calls Tryz.prog 91 #[.slice A n c] w fun e w' => e = .returned (.func (.func 102) #[] #[.pointer (some ⟨w.heap.size, 0, none⟩)]) ∧ w.alloc (.cells #[.slice A n c] 23) = w' := by
  go_enter Tryz.func91, Tryz.ntmps91
  go_wp2
  go_ret
  exact ⟨rfl, rfl⟩

set_option maxHeartbeats 2000000 in
theorem Scan1_ok (v : Value) (bs : List UInt8) (w : World) (hB : Bs w v bs) (hl : bs.length ≤ 1000000) (hT : TabW T w) (h : (look1S T bs).err ≠ 11) : Calls Tryz.prog 85 #[v] w (ScanP w (look1S T bs)) := by
  obtain ⟨A, c, rfl, h1, h2⟩ := SlR.open_ hB
  have hb0 := Blk.new w 29 #[.int .i64 0, .slice none 0 0, .int .i64 0]
  have hX : Ext w (w.alloc (.cells #[.int .i64 0, .slice none 0 0, .int .i64 0] 29)) := Ext.alloc (Ext.refl _) _
  unfold look1S at h ⊢
  by_cases hd : bs.length < 6 ∨ bs.getD 0 0 ≠ 1
  · rw [if_pos hd] at h; exact absurd rfl h
  rw [if_neg hd] at h ⊢
  by_cases hf : (takeLongS ((bs.drop 1).take 5)).1 = 0 ∧ (takeLongS ((bs.drop 1).take 5)).2.1 ≠ 0
  case neg => rw [if_neg hf] at h; exact absurd rfl h
  rw [if_pos hf]
  have hlen : 6 ≤ bs.length := by
    rcases Nat.lt_or_ge bs.length 6 with q | q
    · exact absurd (Or.inl q) hd
    · exact q
  have hgd : bs.getD 0 0 = 1 := by
    by_cases q : bs.getD 0 0 = 1
    · exact q
    · exact absurd (Or.inr q) hd
  obtain ⟨_, b, off, rfl, hc⟩ := Bs.at_ hB (by omega)
  have hc0 := hc 0 (by omega)
  have hx0 : bs[0]'(by omega) = 1 := by rw [← hgd]; simp [List.getD_eq_getElem?_getD, List.getElem?_eq_getElem (show 0 < bs.length by omega)]
  rw [hx0] at hc0
  have hc0' : (w.alloc (.cells #[.int .i64 0, .slice none 0 0, .int .i64 0] 29)).cell? ⟨b, off, none⟩ = some (.int .u8 1) := cell_alloc hc0 _
  have hpart := bytes_part hB 1 5 (by omega)
  obtain ⟨p, hp⟩ : ∃ p, (bs.drop 1).take 5 = p := ⟨_, rfl⟩
  have hpl : p.length = 5 := by rw [← hp, List.length_take, List.length_drop]; omega
  rw [hp] at hpart hf ⊢
  have hBp : Bs w (.slice (some ⟨b, off + 1, none⟩) 5 (c - 1)) p := SlR.capd hpart (by rw [hpl]; omega) (by omega)
  have key := TakeLong_any _ p _ (hBp.ext hX) (by omega)
  rcases htl : takeLongS p with ⟨e1, t, rest⟩
  rw [htl] at key hf
  obtain ⟨rfl, ht0⟩ := hf
  have Key := Lib.hid key
  have hcc : (6 : Int) ≤ (c : Int) := by omega
  have hll : ¬ ((bs.length : Int) < 6) := by omega
  have ht1 : ((t : Int) == 0) = false := by rw [beq_eq_false_iff_ne]; dsimp only at ht0; omega
  obtain ⟨L, hL⟩ : ∃ L, recsP T (bs.drop 6) 6 = L := ⟨_, rfl⟩
  have HB := Lib.hid hB
  have HT := Lib.hid hT
  dsimp only
  rw [hL]
  have HL := Lib.hid hL
  clear key htl hp hpl hpart hBp h hB hc hc0 hx0 hgd hlen hd hT ht0 hL
  have hw0 : w.heap.size < (w.alloc (.cells #[.int .i64 0, .slice none 0 0, .int .i64 0] 29)).heap.size := hb0.lt
  refine (callsIn_wd (ro := none) (n := 9)).1 ?_
  refine callsIn_of_wp_marks Tryz.func85 rfl trivial ?_ rfl
  simp only [Tryz.ntmps85, List.size_toArray, List.length_cons, List.length_nil, Nat.reduceAdd, Nat.reduceSub, Array.replicate_succ, Array.replicate_zero, List.push_toArray, List.append_toArray, List.nil_append, List.cons_append]
  gi_wp2_with (refine ⟨trivial, ?_⟩; gi_at_call 90; refine (callsIn_wd.2 Key.out).mono ?_; rintro e w1 ⟨vr, rfl, -, hE1⟩; have hb1 := hb0.ext hE1; have HE1 := Lib.hid hE1; clear hE1; obtain ⟨g0, g1, g2, f0, f1, f2⟩ := blk3 hb1)
  have hb2 := blk_set3 hb1 (.int .i64 t) (.slice none 0 0) (.int .i64 6)
  have hE2 : Ext w (((w1.setCell ⟨w.heap.size, 0, none⟩ (.int .i64 t)).setCell ⟨w.heap.size, 1, none⟩ (.slice none 0 0)).setCell ⟨w.heap.size, 2, none⟩ (.int .i64 6)) := ext_set3 (Ext.trans hX HE1.out) (Nat.le_refl _) _ _ _
  clear g0 g1 g2 f0 f1 f2 hb1 HE1
  generalize (((w1.setCell ⟨w.heap.size, 0, none⟩ (.int .i64 t)).setCell ⟨w.heap.size, 1, none⟩ (.slice none 0 0)).setCell ⟨w.heap.size, 2, none⟩ (.int .i64 6)) = w2 at *
  refine ⟨trivial, ?_⟩
  refine (callsIn_wd.2 (records_any _ _ _ _)).mono ?_
  rintro e w3 ⟨rfl, rfl⟩
  have qB : Boxed (w2.alloc (.cells #[.slice (some ⟨b, off, none⟩) bs.length c] 23)) w2.heap.size 23 (.slice (some ⟨b, off, none⟩) bs.length c) := Boxed.new _ _ _
  have hE3 : Ext w (w2.alloc (.cells #[.slice (some ⟨b, off, none⟩) bs.length c] 23)) := Ext.alloc hE2 _
  have hb3 := hb2.alloc (.cells #[.slice (some ⟨b, off, none⟩) bs.length c] 23)
  have h0 : ScI w t [] (w2.alloc (.cells #[.slice (some ⟨b, off, none⟩) bs.length c] 23)) := ⟨_, hb3, World.ownsRow_nil _ _ _ _, hE3⟩
  have hbw : w.heap.size < w2.heap.size := hb2.lt
  have hs3 : (w2.alloc (.cells #[.slice (some ⟨b, off, none⟩) bs.length c] 23)).heap.size = w2.heap.size + 1 := by simp
  clear hb2 hb3 hE2
  gi_wp2
  generalize w2.alloc (.cells #[.slice (some ⟨b, off, none⟩) bs.length c] 23) = w3 at *
  refine frame_name (fun TT hTT => ?_)
  refine wp_range (a := ⟨TT, []⟩) (by subst hTT; rfl) (enters_of Tryz.func102 (by kernel_rfl) rfl)
    (fun W1 hb hs => records1_seq (T := T) w W1 _ bs HB.out hl (fun q u hq => Ext.cell (Ext.trans hE3 hb) hq) HT.out w2.heap.size w.heap.size w.heap.size (qB.kept (row := none) (Ext.grown hb none) (by simp)) (by omega) (Nat.le_refl _) (Nat.le_refl _))
    (fun k o h => h.elim) (fun k o h => h.1) (fun x av W h => by rw [h.1]; rfl)
    (ScI w t) (fun _ _ _ => False) ?hI (fun _ _ _ _ h _ => h) h0
    (fun x a' W => ∃ q, Blk W q 41 #[.int .i64 x.2.t, .int .i64 x.2.k, .int .i64 x.2.v] ∧ a' = ⟨(((TT.setIfInBounds 36 (.int .i64 x.1)).setIfInBounds 37 (.agg #[.int .i64 x.2.t, .int .i64 x.2.k, .int .i64 x.2.v])).setIfInBounds 6 (.int .i64 x.1)).setIfInBounds 7 (.pointer (some ⟨q, 0, none⟩)), []⟩)
    ?hAx ?assign ?body ?done (fun _ _ _ _ _ _ h _ => h.elim)
  case hI =>
    rintro s X Y ⟨v1, hv, hr, hB⟩ hm
    refine ⟨v1, hm.same _ _ hv ?_, hm.ownsRow hr ?_, hm.belowOf hB ?_ (Nat.le_refl _)⟩
    · rintro (h | h)
      · exact h
      · cases h.2
    · rintro k cur _ (h | h)
      · exact h
      · cases h.2
    · rintro k o hk (h | h)
      · exact h
      · have := h.1; omega
  case hAx =>
    rintro x a' X Y ⟨q, hq, rfl⟩ hm
    refine ⟨q, hm.same _ _ hq ?_, rfl⟩
    rintro (h | h)
    · exact h
    · cases h.2
  case assign =>
    rintro l' pre x post W av K' hx hi hsz ⟨rfl, hx1⟩ hK
    obtain ⟨v1, hv, hr, hB⟩ := hi
    have Hi : Hid (ScI w t pre (W.alloc (.cells #[.int .i64 x.2.t, .int .i64 x.2.k, .int .i64 x.2.v] 41))) := ⟨v1, hv.alloc _, hr.alloc _, Ext.alloc hB _⟩
    have HQ := Lib.hid (Blk.new W 41 #[.int .i64 x.2.t, .int .i64 x.2.k, .int .i64 x.2.v])
    have Hx := Lib.hid hx
    clear hx hv hr hB
    subst hTT
    gi_wp2
    exact hK _ _ (Kept.refl.alloc _) Hi.out ⟨W.heap.size, HQ.out, rfl⟩
  case body =>
    rintro l' pre x post a' W hx hl' hr ⟨v1, hv, hrow, hB⟩ hsz ⟨q, hq, rfl⟩
    have hpl : (pre.map (·.2)).length + 1 ≤ 100000 := by
      have h3 := recsP_len (T := T) (bs.drop 6) 6
      rw [hx, List.length_append, List.length_cons, List.length_drop] at h3
      rw [List.length_map]
      omega
    have hsn : (pre ++ [x]).map (·.2) = pre.map (·.2) ++ [x.2] := by simp
    have hlp : lastP 6 (pre ++ [x]) = x.1 := lastP_snoc pre x 6
    have Hsn := Lib.hid hsn
    have Hlp := Lib.hid hlp
    have Hx := Lib.hid hx
    clear hx hsn hlp
    generalize pre.map (·.2) = P at *
    generalize lastP 6 pre = lp at *
    obtain ⟨A1, cc1, rfl, _, _⟩ := SlR.open_ (SlR.of_own hrow)
    have hne := hv.not_row (e := 41) (by decide) hrow
    obtain ⟨g0, g1, g2, _, _, _⟩ := blk3 hv
    obtain ⟨p0, p1, p2, _, _, _⟩ := blk3 hq
    obtain ⟨i0, hi, hz0, hz1, hz2⟩ := info_parts info_ent
    have hes1 := es_one W x.2
    have hrow1 : OwnE (W.alloc (.cells #[.int .i64 x.2.t, .int .i64 x.2.k, .int .i64 x.2.v] 41)) w.heap.size (.slice A1 P.length cc1) P := hrow.alloc _
    have hv1 := hv.alloc (.cells #[.int .i64 x.2.t, .int .i64 x.2.k, .int .i64 x.2.v] 41)
    have hbW : w.heap.size ≤ (W.alloc (.cells #[.int .i64 x.2.t, .int .i64 x.2.k, .int .i64 x.2.v] 41)).heap.size := Nat.le_of_lt hv1.lt
    subst hTT
    gi_wp2_with (gi_at_builtin; refine wpListIn_append_sl _ rfl (.tmp 39) (.tmp 41) 22 rfl w.heap.size 41 i0 _ 3 24 Tryz.underlying22 hi hz0 hz1 hz2 rfl (by decide) _ P.length (entCells P) rfl hrow1 _ 1 (entCells [x.2]) rfl hes1 (one_ents _) (by unfold maxLen; omega) (by omega) hbW ?_; intro v' w4 hown' hgrow; obtain ⟨A5, c5, rfl, _, _⟩ := SlR.open_ (SlR.of_own hown'); have hv4 := hv1.kept hgrow hne; obtain ⟨y0, y1, y2, z0, z1, z2⟩ := blk3 hv4)
    have o1 := hown'.kept (grownBy_set w4 w.heap.size 1 (.slice A5 (P.length + 1) c5)) (.inr (hv4.not_row (by decide) hown').symm)
    have hv5 := hv4.set 1 (.slice A5 (P.length + 1) c5)
    have o2 := o1.kept (grownBy_set _ w.heap.size 2 (.int .i64 x.1)) (.inr (hv5.not_row (by decide) o1).symm)
    have hv6 := hv5.set 2 (.int .i64 x.1)
    refine ⟨(((Kept.refl.alloc _).grown hgrow (fun k o ek ho => ?_)).setCell (fun o ho _ => ?_) _).setCell (fun o ho _ => ?_) _, .slice A5 (P.length + 1) c5, ?_, ?_, ?_⟩
    · obtain ⟨cur, hc'⟩ := ownsRow_cells hrow ek
      rw [ho] at hc'; cases hc'
      rintro (⟨_, _, h⟩ | ⟨_, h⟩)
      · rcases h with h | h
        · have := (hrow.lt k ek).1
          omega
        · exact h rfl
      · cases h
    · rw [show W.heap[w.heap.size]? = _ from hv] at ho; cases ho
      rintro (⟨_, h, _⟩ | ⟨_, h⟩)
      · exact h rfl
      · cases h
    · rw [show W.heap[w.heap.size]? = _ from hv] at ho; cases ho
      rintro (⟨_, h, _⟩ | ⟨_, h⟩)
      · exact h rfl
      · cases h
    · rw [Hlp.out]
      exact hv6
    · rw [Hsn.out]
      have hl1 : P.length + 1 = (P ++ [x.2]).length := by simp
      rw [hl1] at o2 ⊢
      unfold OwnE
      have hec : entCells (P ++ [x.2]) = entCells P ++ entCells [x.2] := by simp [entCells]
      rw [hec]
      exact o2
    · have hE4 : Ext w w4 := Ext.grownOwn (Ext.alloc hB (.cells #[.int .i64 x.2.t, .int .i64 x.2.k, .int .i64 x.2.v] 41)) hrow1 hgrow
      exact (Below.setCell (p := ⟨w.heap.size, 1, none⟩) hE4 (Nat.le_refl _) _).setCell (p := ⟨w.heap.size, 2, none⟩) (Nat.le_refl _) _
  case done =>
    rintro D W hD ⟨v1, hv, hrow, hB⟩ hK
    rw [HL.out] at hv hrow
    obtain ⟨P, hP⟩ : ∃ P, L.map (·.2) = P := ⟨_, rfl⟩
    obtain ⟨lp, hlp⟩ : ∃ lp, lastP 6 L = lp := ⟨_, rfl⟩
    rw [hP] at hrow
    rw [hlp] at hv
    have HP := Lib.hid hP
    have Hlp := Lib.hid hlp
    clear hP hlp
    obtain ⟨A1, cc1, rfl, _, _⟩ := SlR.open_ (SlR.of_own hrow)
    obtain ⟨g0, g1, g2, f0, f1, f2⟩ := blk3 hv
    subst hTT
    gi_wp2
    have hb9 : Blk (set3 W w.heap.size (.int .i64 t) (.slice A1 P.length cc1) (.int .i64 lp)) w.heap.size 29 #[.int .i64 t, .slice A1 P.length cc1, .int .i64 lp] := blk_set3 hv _ _ _
    have ho9 := own_set3 hv (by decide : (29 : TypeId) ≠ 41) hrow (.int .i64 t) (.slice A1 P.length cc1) (.int .i64 lp)
    have hE9 : Ext w (set3 W w.heap.size (.int .i64 t) (.slice A1 P.length cc1) (.int .i64 lp)) := ext_set3 hB (Nat.le_refl _) _ _ _
    have hK9 : (set3 W w.heap.size (.int .i64 t) (.slice A1 P.length cc1) (.int .i64 lp)).heap[D]? = some (.deferred (some [])) := heap_setCell_obj (heap_setCell_obj (heap_setCell_obj hK rfl ⟨w.heap.size, 0, none⟩ _) rfl ⟨w.heap.size, 1, none⟩ _) rfl ⟨w.heap.size, 2, none⟩ _
    have hbp : Blk ((set3 W w.heap.size (.int .i64 t) (.slice A1 P.length cc1) (.int .i64 lp)).putObj D (.deferred none)) w.heap.size 29 #[.int .i64 t, .slice A1 P.length cc1, .int .i64 lp] := (World.putObj_heap_other (by omega)).trans hb9
    refine ret_mark hK9 (.tuple #[.agg #[.int .i64 t, .slice A1 P.length cc1, .int .i64 lp], .int .i64 0]) (scan1_res _ _ _ _ _ rfl rfl hbp rfl) ?_
    refine ⟨.slice A1 P.length cc1, by rw [Hlp.out], ?_, below_putObj hE9 (by omega) _⟩
    dsimp only
    rw [HP.out]
    exact ownsRow_putObj ho9 (.deferred none) hK9 rfl

theorem Scan1_any (v : Value) (bs : List UInt8) (w : World) (hB : Bs w v bs) (hl : bs.length ≤ 1000000) (hT : TabW T w) : Calls Tryz.prog 85 #[v] w (ScanP w (look1S T bs)) := by
  by_cases h : (look1S T bs).err = 11
  · exact Scan1_bad v bs w hB h
  · exact Scan1_ok v bs w hB hl hT h
end Go.Proofs.YtfjcnpigpkcfgaaGreat

namespace Go.Proofs.YtfjcnpigpkcfgaaGreat
open Go.RowKit Go.Mv
set_option maxRecDepth 100000
variable {T : Tab}

theorem resP_resB {w w' : World} {e : Ending} {r : Int × List UInt8} (h : ResP w r e w') : ResB w r e w' := by
  obtain ⟨v, rfl, ho, hE⟩ := h
  have ho' : OwnB w' w.heap.size v r.2 := ho
  obtain ⟨A, c, rfl, _, _⟩ := SlR.open_ (SlR.of_own ho')
  exact ⟨A, c, rfl, ho', hE⟩

theorem res_ct {fn : Func} {p q : Tmp} (hr : fn.results = #[.cell p 29, .tmp q]) (tmps : Array Value) (W : World) (b : Nat) (cs : Array Value) (u : Value) (hp : tmps.getD p undef = .pointer (some ⟨b, 0, none⟩)) (hq : tmps.getD q undef = u) (hb : Blk W b 29 cs) (hs : cs.size = 3) : (results fn tmps).run Tryz.prog W = .ok (.tuple #[.agg cs, u]) W := by
  have hl := hb.load (P := Tryz.prog) scanU rfl (by rw [hs]; kernel_rfl)
  have hp' : tmps[p]?.getD undef = .pointer (some ⟨b, 0, none⟩) := by simpa using hp
  have hq' : tmps[q]?.getD undef = u := by simpa using hq
  simp [results, hr, hp', hq', asAddr, hl]
theorem oldFile_any (first : Int) (v : Value) (l : List Ent) (w : World) (hT : TabW T w) (h : Es w v l) (hl : l.length ≤ 100000) : Calls Tryz.prog 80 #[.agg #[], .int .i64 first, v] w (ResB w (file1S T first l)) := by
  have hX : Ext w (w.alloc (.cells #[] 62)) := Ext.alloc (Ext.refl _) _
  have key := Lib.hid (File1_any (T := T) first v l _ (hT.ext hX) (h.ext hX) hl)
  obtain ⟨A, c, rfl, _, _⟩ := SlR.open_ h
  clear h hT
  go_enter Tryz.func80, Tryz.ntmps80
  go_wp2_with fail
  refine key.out.mono ?_
  rintro e w1 ⟨A1, c1, rfl, ho1, hE1⟩
  go_wp2_with fail
  go_ret2
  exact ⟨A1, c1, rfl, own_base ho1 hX.size, Ext.trans hX hE1⟩
theorem youngFile_any (first : Int) (v : Value) (l : List Ent) (w : World) (h : Es w v l) (hl : l.length ≤ 1000000) : Calls Tryz.prog 119 #[.agg #[], .int .i64 first, v] w (ResB w (fileS first l)) := by
  have hX : Ext w (w.alloc (.cells #[] 63)) := Ext.alloc (Ext.refl _) _
  have key := Lib.hid (File_any first v l _ (h.ext hX) hl)
  obtain ⟨A, c, rfl, _, _⟩ := SlR.open_ h
  clear h
  go_enter Tryz.func119, Tryz.ntmps119
  go_wp2_with fail
  refine key.out.mono ?_
  intro e w1 hr
  obtain ⟨A1, c1, rfl, ho1, hE1⟩ := resP_resB hr
  go_wp2_with fail
  go_ret2
  exact ⟨A1, c1, rfl, own_base ho1 hX.size, Ext.trans hX hE1⟩

def fmtMap : Array MapEntry := #[{ key := .int .i64 1, val := .iface 62 (.agg #[]), born := 0 }, { key := .int .i64 2, val := .iface 63 (.agg #[]), born := 1 }]
theorem insF (w : World) (es : Array MapEntry) (c : Nat) (n : Int) (v : Value) (hn : Instr.findNow (.int .i64) (.int .i64 n) es.toList 0 = some none) :
    (Instr.mapUpdate 49 (.map (some w.heap.size)) (.int .i64 n) v).run Tryz.prog (w.alloc (.map es c)) = .ok () (w.alloc (.map (es.push { key := .int .i64 n, val := v, born := c }) (c + 1))) :=
  run_insert_new w .i64 Tryz.underlying49 Tryz.underlying3 es c n v hn
theorem formats_any (w : World) : Calls Tryz.prog 24 #[] w fun e w' => e = .returned (.map (some w.heap.size)) ∧ w.alloc (.map fmtMap 2) = w' := by
  have hmm := @run_makeMap Tryz.prog
  have h0 := insF w #[] 0 1 (.iface 62 (.agg #[])) rfl
  have h1 := insF w #[{ key := .int .i64 1, val := .iface 62 (.agg #[]), born := 0 }] 1 2 (.iface 63 (.agg #[])) rfl
  simp only [List.push_toArray, List.nil_append, List.cons_append, Nat.reduceAdd] at h0 h1
  go_enter Tryz.func24, Tryz.ntmps24
  go_wp2
  go_ret
  exact ⟨rfl, rfl⟩
theorem fmt_find (f : Int) : Instr.findNow (.int .i64) (.int .i64 f) fmtMap.toList 0 = some (if f = 1 then some (0, .iface 62 (.agg #[])) else if f = 2 then some (1, .iface 63 (.agg #[])) else none) := by
  by_cases h1 : f = 1
  · subst h1; rfl
  · by_cases h2 : f = 2
    · subst h2; rfl
    · have e1 : (f == 1) = false := by simp [h1]
      have e2 : (f == 2) = false := by simp [h2]
      rw [if_neg h1, if_neg h2]
      simp [fmtMap, Instr.findNow, Instr.sameNow, e1, e2]
theorem fmt_look (W : World) (r : Nat) (h : W.heap[r]? = some (.map fmtMap 2)) (f : Int) :
    (Instr.lookup 49 (.map (some r)) (.int .i64 f) true).run Tryz.prog W = .ok (.tuple #[if f = 1 then .iface 62 (.agg #[]) else if f = 2 then .iface 63 (.agg #[]) else .nilIface, .bool (decide (f = 1 ∨ f = 2))]) W ∧
    (Instr.lookup 49 (.map (some r)) (.int .i64 f) false).run Tryz.prog W = .ok (if f = 1 then .iface 62 (.agg #[]) else if f = 2 then .iface 63 (.agg #[]) else .nilIface) W := by
  have k1 := run_lookup_ok (P := Tryz.prog) W .i64 Tryz.underlying49 Tryz.underlying3 fmtMap 2 f .nilIface (by kernel_rfl) h _ (fmt_find f)
  have k2 := run_lookup_one (P := Tryz.prog) W .i64 Tryz.underlying49 Tryz.underlying3 fmtMap 2 f .nilIface (by kernel_rfl) h _ (fmt_find f)
  rw [k1, k2]
  by_cases h1 : f = 1
  · subst h1; exact ⟨rfl, rfl⟩
  · by_cases h2 : f = 2
    · subst h2; exact ⟨rfl, rfl⟩
    · simp [h1, h2]

/-- Whose method it is. -/
theorem mth (w : World) :
    (method 272 62 (.agg #[]) "moult/either.file").run Tryz.prog w = .ok (80, .agg #[]) w ∧ (method 272 63 (.agg #[]) "moult/either.file").run Tryz.prog w = .ok (119, .agg #[]) w ∧
    (method 272 62 (.agg #[]) "moult/either.scan").run Tryz.prog w = .ok (82, .agg #[]) w ∧ (method 272 63 (.agg #[]) "moult/either.scan").run Tryz.prog w = .ok (121, .agg #[]) w ∧
    (method 272 62 (.agg #[]) "moult/either.more").run Tryz.prog w = .ok (81, .agg #[]) w ∧ (method 272 63 (.agg #[]) "moult/either.more").run Tryz.prog w = .ok (120, .agg #[]) w := by
  refine ⟨?_, ?_, ?_, ?_, ?_, ?_⟩ <;> kernel_rfl
def fileE (T : Tab) (f first : Int) (l : List Ent) : Int × List UInt8 := if f = 1 then file1S T first l else if f = 2 then fileS first l else (2, [])
theorem map_at (w : World) : (w.alloc (.map fmtMap 2)).heap[w.heap.size]? = some (.map fmtMap 2) := World.alloc_heap_new _ _

set_option maxHeartbeats 1000000 in
theorem FileE_any (f first : Int) (v : Value) (l : List Ent) (w : World) (hT : TabW T w) (h : Es w v l) (hl : l.length ≤ 100000) : Calls Tryz.prog 8 #[.int .i64 f, .int .i64 first, v] w (ResB w (fileE T f first l)) := by
  obtain ⟨A, c, rfl, _, _⟩ := SlR.open_ h
  have hX : Ext w (w.alloc (.map fmtMap 2)) := Ext.alloc (Ext.refl _) _
  obtain ⟨hlk, _⟩ := fmt_look _ _ (map_at w) f
  unfold fileE
  by_cases h1 : f = 1
  · subst h1
    rw [if_pos rfl]
    have key := Lib.hid (oldFile_any (T := T) first _ l _ (hT.ext hX) (h.ext hX) hl)
    clear h hT
    simp only [if_true, true_or, decide_true] at hlk
    have hm := fun w => (mth w).1
    go_enter Tryz.func8, Tryz.ntmps8
    go_wp2_with (go_at_call 24; refine (formats_any _).mono ?_; rintro e w' ⟨rfl, rfl⟩)
    refine key.out.mono ?_
    rintro e w1 ⟨A1, c1, rfl, ho1, hE1⟩
    go_wp2_with fail
    go_ret2
    exact ⟨A1, c1, rfl, own_base ho1 hX.size, Ext.trans hX hE1⟩
  · rw [if_neg h1]
    by_cases h2 : f = 2
    · subst h2
      rw [if_pos rfl]
      have key := Lib.hid (youngFile_any first _ l _ (h.ext hX) (by omega))
      clear h hT
      have hlk' : (Instr.lookup 49 (.map (some w.heap.size)) (.int .i64 2) true).run Tryz.prog (w.alloc (.map fmtMap 2)) = .ok (.tuple #[.iface 63 (.agg #[]), .bool true]) (w.alloc (.map fmtMap 2)) := hlk
      have hm := fun w => (mth w).2.1
      clear hlk h1
      go_enter Tryz.func8, Tryz.ntmps8
      go_wp2_with (go_at_call 24; refine (formats_any _).mono ?_; rintro e w' ⟨rfl, rfl⟩)
      refine key.out.mono ?_
      rintro e w1 ⟨A1, c1, rfl, ho1, hE1⟩
      go_wp2_with fail
      go_ret2
      exact ⟨A1, c1, rfl, own_base ho1 hX.size, Ext.trans hX hE1⟩
    · rw [if_neg h2]
      have hd : decide (f = 1 ∨ f = 2) = false := by simp [h1, h2]
      rw [if_neg h1, if_neg h2, hd] at hlk
      clear h hT hd
      go_enter Tryz.func8, Tryz.ntmps8
      go_wp2_with (go_at_call 24; refine (formats_any _).mono ?_; rintro e w' ⟨rfl, rfl⟩)
      go_ret2
      exact resB_nil rfl hX

/-- What a segment of either format tells. -/
def scanE (T : Tab) (b : List UInt8) (f : Int) : LookR := if f = 1 then look1S T b else if f = 2 then lookS b else ⟨2, 0, [], 0, (0, 0)⟩
theorem oldScan_any (v : Value) (bs : List UInt8) (w : World) (hB : Bs w v bs) (hl : bs.length ≤ 1000000) (hT : TabW T w) : Calls Tryz.prog 82 #[.agg #[], v] w (ScanP w (look1S T bs)) := by
  have hX0 : Ext w (w.alloc (.cells #[] 62)) := Ext.alloc (Ext.refl _) _
  have hX : Ext w ((w.alloc (.cells #[] 62)).alloc (.cells #[.int .i64 0, .slice none 0 0, .int .i64 0] 29)) := Ext.alloc hX0 _
  have hb := Blk.new (w.alloc (.cells #[] 62)) 29 #[.int .i64 0, .slice none 0 0, .int .i64 0]
  rw [World.size_alloc] at hb
  have key := Lib.hid (Scan1_any (T := T) v bs _ (hB.ext hX) hl (hT.ext hX))
  obtain ⟨A, c, rfl, _, _⟩ := SlR.open_ hB
  clear hB hT
  obtain ⟨r, hr⟩ : ∃ r, look1S T bs = r := ⟨_, rfl⟩
  rw [hr] at key ⊢
  go_enter Tryz.func82, Tryz.ntmps82
  go_wp2_with fail
  refine key.out.mono ?_
  rintro e w1 ⟨vl, rfl, ho1, hE1⟩
  have ho1' : OwnE w1 _ vl r.log := ho1
  obtain ⟨A1, c1, rfl, _, _⟩ := SlR.open_ ho1'.es
  have hb1 := hb.ext hE1
  obtain ⟨g0, g1, g2, f0, f1, f2⟩ := blk3 hb1
  go_wp2_with fail
  have ho2 := own_set3 hb1 (by decide : (29 : TypeId) ≠ 41) ho1 (.int .i64 r.first) (.slice A1 r.log.length c1) (.int .i64 r.used)
  refine bodyPost_ret (res_ct rfl _ _ _ _ _ rfl rfl (blk_set3 hb1 _ _ _) rfl) rfl ⟨_, rfl, own_base ho2 hX.size, ext_set3 (Ext.trans hX hE1) (Nat.le_succ _) _ _ _⟩
theorem youngScan_any (v : Value) (bs : List UInt8) (w : World) (hB : Bs w v bs) (hl : bs.length ≤ 1000000) : Calls Tryz.prog 121 #[.agg #[], v] w (ScanP w (lookS bs)) := by
  have hX0 : Ext w (w.alloc (.cells #[] 63)) := Ext.alloc (Ext.refl _) _
  have hX : Ext w ((w.alloc (.cells #[] 63)).alloc (.cells #[.int .i64 0, .slice none 0 0, .int .i64 0] 29)) := Ext.alloc hX0 _
  have hb := Blk.new (w.alloc (.cells #[] 63)) 29 #[.int .i64 0, .slice none 0 0, .int .i64 0]
  rw [World.size_alloc] at hb
  have key := Lib.hid (Scan_any v bs _ (hB.ext hX) hl)
  obtain ⟨A, c, rfl, _, _⟩ := SlR.open_ hB
  clear hB
  obtain ⟨r, hr⟩ : ∃ r, lookS bs = r := ⟨_, rfl⟩
  rw [hr] at key ⊢
  go_enter Tryz.func121, Tryz.ntmps121
  go_wp2_with fail
  refine key.out.mono ?_
  rintro e w1 ⟨vl, rfl, ho1, hE1⟩
  have ho1' : OwnE w1 _ vl r.log := ho1
  obtain ⟨A1, c1, rfl, _, _⟩ := SlR.open_ ho1'.es
  have hb1 := hb.ext hE1
  obtain ⟨g0, g1, g2, f0, f1, f2⟩ := blk3 hb1
  go_wp2_with fail
  have ho2 := own_set3 hb1 (by decide : (29 : TypeId) ≠ 41) ho1 (.int .i64 r.first) (.slice A1 r.log.length c1) (.int .i64 r.used)
  refine bodyPost_ret (res_ct rfl _ _ _ _ _ rfl rfl (blk_set3 hb1 _ _ _) rfl) rfl ⟨_, rfl, own_base ho2 hX.size, ext_set3 (Ext.trans hX hE1) (Nat.le_succ _) _ _ _⟩
end Go.Proofs.YtfjcnpigpkcfgaaGreat

namespace Go.Proofs.YtfjcnpigpkcfgaaGreat
open Go.RowKit Go.Mv Go.Shelf
attribute [local go_sem] Oper.semAt_some
set_option maxRecDepth 100000
variable {T : Tab}

theorem scanE_err {b : List UInt8} {f : Int} (h : ¬ (f = 1 ∨ f = 2)) : scanE T b f = ⟨2, 0, [], 0, (0, 0)⟩ := by
  unfold scanE
  rw [if_neg (fun q => h (.inl q)), if_neg (fun q => h (.inr q))]

set_option maxHeartbeats 1000000 in
theorem ScanE_any (v : Value) (bs : List UInt8) (f : Int) (w : World) (hB : Bs w v bs) (hl : bs.length ≤ 1000000) (hT : TabW T w) : Calls Tryz.prog 10 #[v, .int .i64 f] w (ScanP w (scanE T bs f)) := by
  have hb := Blk.new w 29 #[.int .i64 0, .slice none 0 0, .int .i64 0]
  have hX0 : Ext w (w.alloc (.cells #[.int .i64 0, .slice none 0 0, .int .i64 0] 29)) := Ext.alloc (Ext.refl _) _
  have hX : Ext w ((w.alloc (.cells #[.int .i64 0, .slice none 0 0, .int .i64 0] 29)).alloc (.map fmtMap 2)) := Ext.alloc hX0 _
  have hb1 := hb.alloc (.map fmtMap 2)
  obtain ⟨hlk, _⟩ := fmt_look _ _ (map_at (w.alloc (.cells #[.int .i64 0, .slice none 0 0, .int .i64 0] 29))) f
  rw [World.size_alloc] at hlk
  obtain ⟨A, c, rfl, _, _⟩ := SlR.open_ hB
  by_cases h1 : f = 1
  · subst h1
    have hr : scanE T bs 1 = look1S T bs := rfl
    rw [hr]
    have key := Lib.hid (oldScan_any (T := T) _ bs _ (hB.ext hX) hl (hT.ext hX))
    clear hB hT hr
    simp only [if_true, true_or, decide_true] at hlk
    have hm := fun w => (mth w).2.2.1
    obtain ⟨r, hr⟩ : ∃ r, look1S T bs = r := ⟨_, rfl⟩
    rw [hr] at key ⊢
    go_enter Tryz.func10, Tryz.ntmps10
    go_wp2_with (go_at_call 24; refine (formats_any _).mono ?_; rintro e w' ⟨rfl, rfl⟩)
    refine key.out.mono ?_
    rintro e w1 ⟨vl, rfl, ho1, hE1⟩
    have ho1' : OwnE w1 _ vl r.log := ho1
    obtain ⟨A1, c1, rfl, _, _⟩ := SlR.open_ ho1'.es
    have hb2 := hb1.ext hE1
    obtain ⟨g0, g1, g2, f0, f1, f2⟩ := blk3 hb2
    go_wp2_with fail
    have ho2 := own_set3 hb2 (by decide : (29 : TypeId) ≠ 41) ho1 (.int .i64 r.first) (.slice A1 r.log.length c1) (.int .i64 r.used)
    exact bodyPost_ret (res_ct rfl _ _ _ _ _ rfl rfl (blk_set3 hb2 _ _ _) rfl) rfl ⟨_, rfl, own_base ho2 hX.size, ext_set3 (Ext.trans hX hE1) (Nat.le_refl _) _ _ _⟩
  · by_cases h2 : f = 2
    · subst h2
      have hr : scanE T bs 2 = lookS bs := rfl
      rw [hr]
      have key := Lib.hid (youngScan_any _ bs _ (hB.ext hX) hl)
      clear hB hT hr
      have hlk' : (Instr.lookup 49 (.map (some (w.heap.size + 1))) (.int .i64 2) true).run Tryz.prog ((w.alloc (.cells #[.int .i64 0, .slice none 0 0, .int .i64 0] 29)).alloc (.map fmtMap 2)) = .ok (.tuple #[.iface 63 (.agg #[]), .bool true]) ((w.alloc (.cells #[.int .i64 0, .slice none 0 0, .int .i64 0] 29)).alloc (.map fmtMap 2)) := hlk
      have hm := fun w => (mth w).2.2.2.1
      clear hlk h1
      obtain ⟨r, hr⟩ : ∃ r, lookS bs = r := ⟨_, rfl⟩
      rw [hr] at key ⊢
      go_enter Tryz.func10, Tryz.ntmps10
      go_wp2_with (go_at_call 24; refine (formats_any _).mono ?_; rintro e w' ⟨rfl, rfl⟩)
      refine key.out.mono ?_
      rintro e w1 ⟨vl, rfl, ho1, hE1⟩
      have ho1' : OwnE w1 _ vl r.log := ho1
      obtain ⟨A1, c1, rfl, _, _⟩ := SlR.open_ ho1'.es
      have hb2 := hb1.ext hE1
      obtain ⟨g0, g1, g2, f0, f1, f2⟩ := blk3 hb2
      go_wp2_with fail
      have ho2 := own_set3 hb2 (by decide : (29 : TypeId) ≠ 41) ho1 (.int .i64 r.first) (.slice A1 r.log.length c1) (.int .i64 r.used)
      exact bodyPost_ret (res_ct rfl _ _ _ _ _ rfl rfl (blk_set3 hb2 _ _ _) rfl) rfl ⟨_, rfl, own_base ho2 hX.size, ext_set3 (Ext.trans hX hE1) (Nat.le_refl _) _ _ _⟩
    · have hr : scanE T bs f = ⟨2, 0, [], 0, (0, 0)⟩ := scanE_err (by omega)
      rw [hr]
      have hd : decide (f = 1 ∨ f = 2) = false := by simp [h1, h2]
      rw [if_neg h1, if_neg h2, hd] at hlk
      clear hB hT hd hr
      obtain ⟨g0, g1, g2, f0, f1, f2⟩ := blk3 hb1
      go_enter Tryz.func10, Tryz.ntmps10
      go_wp2_with (go_at_call 24; refine (formats_any _).mono ?_; rintro e w' ⟨rfl, rfl⟩)
      exact bodyPost_ret (res_ct rfl _ _ _ _ _ rfl rfl hb1 rfl) rfl ⟨_, rfl, World.ownsRow_nil _ _ _ _, hX⟩

/-- What whole bytes tell. -/
def wholeE (T : Tab) (b : List UInt8) (f : Int) : LookR :=
  if (scanE T b f).err = 0 then (if (scanE T b f).used = b.length then scanE T b f else ⟨11, 0, [], 0, (0, 0)⟩) else ⟨(scanE T b f).err, 0, [], 0, (0, 0)⟩
theorem scanP_pt {w w' : World} {e : Ending} {r s : LookR} (h : ScanP w r e w') (h1 : r.err = s.err) (h2 : r.first = s.first) (h3 : r.log = s.log) (h4 : r.used = s.used) : ScanP w s e w' := by
  unfold ScanP at h ⊢
  rw [← h1, ← h2, ← h3, ← h4]
  exact h

def WhJ (w : World) (R : LookR) (a : Act) (W : World) : Prop :=
  a.defers = [] ∧ a.tmps.size = 22 ∧ a.tmps.getD 4 undef = .pointer (some ⟨w.heap.size, 0, none⟩) ∧ (∃ e0, a.tmps.getD 5 undef = .int .i64 e0 ∧ Hid (R = ⟨e0, 0, [], 0, (0, 0)⟩)) ∧ (∃ x y z, Blk W w.heap.size 29 #[x, y, z]) ∧ Ext w W

set_option maxHeartbeats 1000000 in
theorem whole_any (v : Value) (bs : List UInt8) (f : Int) (w : World) (hB : Bs w v bs) (hl : bs.length ≤ 1000000) (hT : TabW T w) : Calls Tryz.prog 29 #[v, .int .i64 f] w (ScanP w (wholeE T bs f)) := by
  have hb := Blk.new w 29 #[.int .i64 0, .slice none 0 0, .int .i64 0]
  have hX : Ext w (w.alloc (.cells #[.int .i64 0, .slice none 0 0, .int .i64 0] 29)) := Ext.alloc (Ext.refl _) _
  have key := ScanE_any (T := T) v bs f _ (hB.ext hX) hl (hT.ext hX)
  obtain ⟨A, c, rfl, h1, h2⟩ := SlR.open_ hB
  unfold wholeE
  obtain ⟨r, hr⟩ : ∃ r, scanE T bs f = r := ⟨_, rfl⟩
  rw [hr] at key ⊢
  clear hr hB hT hl
  obtain ⟨er, first, log, used, pt⟩ := r
  dsimp only
  have Key := Lib.hid key
  clear key
  obtain ⟨R, hR⟩ : ∃ R : LookR, (if er = 0 then (if used = bs.length then (⟨er, first, log, used, pt⟩ : LookR) else ⟨11, 0, [], 0, (0, 0)⟩) else ⟨er, 0, [], 0, (0, 0)⟩) = R := ⟨_, rfl⟩
  rw [hR]
  have HR := Lib.hid hR
  clear hR
  refine (callsIn_wd (ro := none) (n := 9)).1 ?_
  refine callsIn_of_wp_marks Tryz.func29 rfl trivial ?_ rfl
  simp only [Tryz.ntmps29, List.size_toArray, List.length_cons, List.length_nil, Nat.reduceAdd, Nat.reduceSub, Array.replicate_succ, Array.replicate_zero, List.push_toArray, List.append_toArray, List.nil_append, List.cons_append]
  gi_wp2
  refine wpIn_scope_lab 0 (WhJ w R) (fun a _ => 0) rfl (fun l' h => by cases l' <;> first | exact absurd rfl h | rfl) ?_ ?_
  · intro hrest
    have Hrest := Lib.hid hrest
    clear hrest
    by_cases he : er = 0
    · subst he
      by_cases hu : used = bs.length
      · subst hu
        have HR2 : Hid (R = ⟨0, first, log, bs.length, pt⟩) := by have := HR.out; rw [if_pos rfl, if_pos rfl] at this; exact this.symm
        clear HR
        gi_wp2
        refine ⟨trivial, ?_⟩
        refine (callsIn_wd.2 Key.out).mono ?_
        rintro e w1 ⟨vl, rfl, ho1, hE1⟩
        dsimp only at ho1
        obtain ⟨A1, c1, rfl, _, _⟩ := SlR.open_ (SlR.of_own ho1)
        have hb1 := hb.ext hE1
        have hb2 := blk_set3 hb1 (.int .i64 first) (.slice A1 log.length c1) (.int .i64 bs.length)
        have ho2 := own_set3 hb1 (by decide : (29 : TypeId) ≠ 41) ho1 (.int .i64 first) (.slice A1 log.length c1) (.int .i64 bs.length)
        have HE2 := Lib.hid (ext_set3 (Ext.trans hX hE1) (Nat.le_refl _) (.int .i64 first) (.slice A1 log.length c1) (.int .i64 bs.length))
        have Ho2 := Lib.hid ho2
        have Hb2 := Lib.hid hb2
        obtain ⟨g0, g1, g2, f0, f1, f2⟩ := blk3 hb1
        clear hE1 ho1 ho2 hb2
        gi_wp2
        refine jumps_ret ?_
        refine ret_none (.tuple #[.agg #[.int .i64 first, .slice A1 log.length c1, .int .i64 bs.length], .int .i64 0]) (res_ct rfl _ _ _ _ _ rfl rfl (blk_set3 Hb2.out _ _ _) rfl) ?_
        rw [HR2.out]
        exact ⟨_, rfl, own_base (own_set3 Hb2.out (by decide : (29 : TypeId) ≠ 41) Ho2.out (.int .i64 first) (.slice A1 log.length c1) (.int .i64 bs.length)) hX.size, ext_set3 HE2.out (Nat.le_refl _) _ _ _⟩
      · have hu2 : ((used : Int) == (bs.length : Int)) = false := by rw [beq_eq_false_iff_ne]; omega
        have HR2 : Hid (R = ⟨11, 0, [], 0, (0, 0)⟩) := by have := HR.out; rw [if_pos rfl, if_neg hu] at this; exact this.symm
        clear HR hu
        gi_wp2
        refine ⟨trivial, ?_⟩
        refine (callsIn_wd.2 Key.out).mono ?_
        rintro e w1 ⟨vl, rfl, ho1, hE1⟩
        dsimp only at ho1
        obtain ⟨A1, c1, rfl, _, _⟩ := SlR.open_ (SlR.of_own ho1)
        have hb1 := hb.ext hE1
        have hb2 := blk_set3 hb1 (.int .i64 first) (.slice A1 log.length c1) (.int .i64 used)
        have HE2 := Lib.hid (ext_set3 (Ext.trans hX hE1) (Nat.le_refl _) (.int .i64 first) (.slice A1 log.length c1) (.int .i64 used))
        have Hb2 := Lib.hid hb2
        obtain ⟨g0, g1, g2, f0, f1, f2⟩ := blk3 hb1
        clear hE1 ho1 hb2
        gi_wp2
        refine wpIn_label ?_
        gi_wp2
        refine jumps_ret ?_
        refine ret_none (.tuple #[.agg #[.int .i64 0, .slice none 0 0, .int .i64 0], .int .i64 11]) (res_ct rfl _ _ _ _ _ rfl rfl (blk_set3 Hb2.out _ _ _) rfl) ?_
        rw [HR2.out]
        exact ⟨_, rfl, World.ownsRow_nil _ _ _ _, ext_set3 HE2.out (Nat.le_refl _) _ _ _⟩
    · have hne : ((er : Int) != 0) = true := by simpa using he
      have HR2 : Hid (R = ⟨er, 0, [], 0, (0, 0)⟩) := by have := HR.out; rw [if_neg he] at this; exact this.symm
      clear HR he
      gi_wp2
      refine ⟨trivial, ?_⟩
      refine (callsIn_wd.2 Key.out).mono ?_
      rintro e w1 ⟨vl, rfl, ho1, hE1⟩
      dsimp only at ho1
      obtain ⟨A1, c1, rfl, _, _⟩ := SlR.open_ (SlR.of_own ho1)
      have hb1 := hb.ext hE1
      have hb2 := blk_set3 hb1 (.int .i64 first) (.slice A1 log.length c1) (.int .i64 used)
      have HE2 := Lib.hid (ext_set3 (Ext.trans hX hE1) (Nat.le_refl _) (.int .i64 first) (.slice A1 log.length c1) (.int .i64 used))
      have Hb2 := Lib.hid hb2
      obtain ⟨g0, g1, g2, f0, f1, f2⟩ := blk3 hb1
      clear hE1 ho1 hb2
      gi_wp2
      refine wpIn_goto ?_
      simp only [Exit.then]
      refine jumps_goto (by simp) ?_
      exact ⟨rfl, rfl, rfl, ⟨_, rfl, HR2.out⟩, ⟨_, _, _, Hb2.out⟩, HE2.out⟩
  · rintro ⟨TT, df⟩ W ⟨hd, hsz, h4, ⟨e0, h5, HN⟩, ⟨x, y, z, hb⟩, hE⟩
    cases hd
    dsimp only at hsz h4 h5
    have hT := frame_of 22 TT hsz
    generalize hU : (fun i => TT.getD i undef) = U at hT
    have g4 : U 4 = .pointer (some ⟨w.heap.size, 0, none⟩) := by rw [← hU]; exact h4
    have g5 : U 5 = .int .i64 e0 := by rw [← hU]; exact h5
    have hT2 : TT = #[U 0, U 1, U 2, U 3, .pointer (some ⟨w.heap.size, 0, none⟩), .int .i64 e0, U 6, U 7, U 8, U 9, U 10, U 11, U 12, U 13, U 14, U 15, U 16, U 17, U 18, U 19, U 20, U 21] := by rw [hT]; show (#[U 0, U 1, U 2, U 3, U 4, U 5, U 6, U 7, U 8, U 9, U 10, U 11, U 12, U 13, U 14, U 15, U 16, U 17, U 18, U 19, U 20, U 21] : Array Value) = _; rw [g4, g5]
    clear hT hU hsz g4 h4 g5 h5
    subst hT2
    obtain ⟨g0, g1, g2, f0, f1, f2⟩ := blk3 hb
    gi_wp2
    refine jumps_ret ?_
    refine ret_none (.tuple #[.agg #[.int .i64 0, .slice none 0 0, .int .i64 0], .int .i64 e0]) (res_ct rfl _ _ _ _ _ rfl rfl (blk_set3 hb _ _ _) rfl) ?_
    rw [HN.out]
    exact ⟨_, rfl, World.ownsRow_nil _ _ _ _, ext_set3 hE (Nat.le_refl _) _ _ _⟩
end Go.Proofs.YtfjcnpigpkcfgaaGreat

namespace Go.Proofs.YtfjcnpigpkcfgaaGreat
open Go.RowKit Go.Mv
set_option maxRecDepth 100000
variable {T : Tab}

theorem oldMore_any (u v : Value) (l : List Ent) (w : World) (hT : TabW T w) (h : Es w v l) (hl : l.length ≤ 100000) : Calls Tryz.prog 81 #[.agg #[], u, v] w (ResB w (put1S T l)) := by
  have hX : Ext w (w.alloc (.cells #[] 62)) := Ext.alloc (Ext.refl _) _
  have key := Lib.hid (Put1_any (T := T) v l _ (hT.ext hX) (h.ext hX) hl)
  obtain ⟨A, c, rfl, _, _⟩ := SlR.open_ h
  clear h hT
  go_enter Tryz.func81, Tryz.ntmps81
  go_wp2_with fail
  refine key.out.mono ?_
  rintro e w1 ⟨A1, c1, rfl, ho1, hE1⟩
  go_wp2_with fail
  go_ret2
  exact ⟨A1, c1, rfl, own_base ho1 hX.size, Ext.trans hX hE1⟩
theorem youngMore_any (u v : Value) (bs : List UInt8) (l : List Ent) (w : World) (hB : Bs w u bs) (hbl : bs.length ≤ 1000000) (h : Es w v l) (hl : l.length ≤ 1000000) : Calls Tryz.prog 120 #[.agg #[], u, v] w (ResB w (moreS bs l)) := by
  have hX : Ext w (w.alloc (.cells #[] 63)) := Ext.alloc (Ext.refl _) _
  have key := Lib.hid (More_any u v bs l _ (hB.ext hX) hbl (h.ext hX) hl)
  obtain ⟨A, c, rfl, _, _⟩ := SlR.open_ h
  obtain ⟨A', c', rfl, _, _⟩ := SlR.open_ hB
  clear h hB
  go_enter Tryz.func120, Tryz.ntmps120
  go_wp2_with fail
  refine key.out.mono ?_
  intro e w1 hr
  obtain ⟨A1, c1, rfl, ho1, hE1⟩ := resP_resB hr
  go_wp2_with fail
  go_ret2
  exact ⟨A1, c1, rfl, own_base ho1 hX.size, Ext.trans hX hE1⟩

def moreE (T : Tab) (b : List UInt8) (f : Int) (l : List Ent) : Int × List UInt8 := if (wholeE T b f).err = 0 then (if f = 1 then put1S T l else moreS b l) else ((wholeE T b f).err, [])
theorem wholeE_known {b : List UInt8} {f : Int} (h : (wholeE T b f).err = 0) : f = 1 ∨ f = 2 := by
  by_cases hf : f = 1 ∨ f = 2
  · exact hf
  · unfold wholeE at h
    rw [scanE_err hf] at h
    cases h

set_option maxHeartbeats 1000000 in
theorem MoreE_any (u v : Value) (bs : List UInt8) (f : Int) (l : List Ent) (w : World) (hT : TabW T w) (hB : Bs w u bs) (hbl : bs.length ≤ 1000000) (h : Es w v l) (hl : l.length ≤ 100000) : Calls Tryz.prog 14 #[u, .int .i64 f, v] w (ResB w (moreE T bs f l)) := by
  have key := whole_any (T := T) u bs f w hB hbl hT
  obtain ⟨Ab, cb, rfl, _, _⟩ := SlR.open_ hB
  obtain ⟨A, c, rfl, _, _⟩ := SlR.open_ h
  unfold moreE
  by_cases he : (wholeE T bs f).err = 0
  · have hf := wholeE_known he
    rw [if_pos he]
    obtain ⟨r, hr⟩ : ∃ r, wholeE T bs f = r := ⟨_, rfl⟩
    rw [hr] at key he
    clear hr
    obtain ⟨er, first, log, used, pt⟩ := r
    obtain rfl : er = 0 := he
    have Key := Lib.hid key
    have HB := Lib.hid hB
    have H := Lib.hid h
    have HT := Lib.hid hT
    clear key hB h hT
    rcases hf with rfl | rfl
    · skip
      rw [if_pos rfl]
      go_enter Tryz.func14, Tryz.ntmps14
      go_wp2_with fail
      refine Key.out.mono ?_
      rintro e w1 ⟨vl, rfl, ho1, hE1⟩
      dsimp only at ho1
      obtain ⟨A1, c1, rfl, _, _⟩ := SlR.open_ (SlR.of_own ho1)
      dsimp only
      have hX : Ext w (w1.alloc (.cells #[.int .i64 first, .slice A1 log.length c1, .int .i64 used] 29)) := Ext.alloc hE1 _
      have hX2 : Ext w ((w1.alloc (.cells #[.int .i64 first, .slice A1 log.length c1, .int .i64 used] 29)).alloc (.map fmtMap 2)) := Ext.alloc hX _
      have hlk : (Instr.lookup 49 (.map (some (w1.heap.size + 1))) (.int .i64 1) false).run Tryz.prog ((w1.alloc (.cells #[.int .i64 first, .slice A1 log.length c1, .int .i64 used] 29)).alloc (.map fmtMap 2)) = .ok (.iface 62 (.agg #[])) ((w1.alloc (.cells #[.int .i64 first, .slice A1 log.length c1, .int .i64 used] 29)).alloc (.map fmtMap 2)) := by
        have h := (fmt_look _ _ (map_at (w1.alloc (.cells #[.int .i64 first, .slice A1 log.length c1, .int .i64 used] 29))) 1).2
        rw [World.size_alloc] at h
        exact h
      have hm := fun w => (mth w).2.2.2.2.1
      have key2 := Lib.hid (oldMore_any (T := T) (.slice Ab bs.length cb) _ l _ (HT.out.ext hX2) (H.out.ext hX2) hl)
      clear ho1 hE1 hX
      go_wp2_with (go_at_call 24; refine (formats_any _).mono ?_; rintro e w' ⟨rfl, rfl⟩)
      refine key2.out.mono ?_
      rintro e w3 ⟨A3, c3, rfl, ho3, hE3⟩
      go_wp2_with fail
      go_ret2
      exact ⟨A3, c3, rfl, own_base ho3 hX2.size, Ext.trans hX2 hE3⟩
    · skip
      rw [if_neg (by decide)]
      go_enter Tryz.func14, Tryz.ntmps14
      go_wp2_with fail
      refine Key.out.mono ?_
      rintro e w1 ⟨vl, rfl, ho1, hE1⟩
      dsimp only at ho1
      obtain ⟨A1, c1, rfl, _, _⟩ := SlR.open_ (SlR.of_own ho1)
      dsimp only
      have hX : Ext w (w1.alloc (.cells #[.int .i64 first, .slice A1 log.length c1, .int .i64 used] 29)) := Ext.alloc hE1 _
      have hX2 : Ext w ((w1.alloc (.cells #[.int .i64 first, .slice A1 log.length c1, .int .i64 used] 29)).alloc (.map fmtMap 2)) := Ext.alloc hX _
      have hlk : (Instr.lookup 49 (.map (some (w1.heap.size + 1))) (.int .i64 2) false).run Tryz.prog ((w1.alloc (.cells #[.int .i64 first, .slice A1 log.length c1, .int .i64 used] 29)).alloc (.map fmtMap 2)) = .ok (.iface 63 (.agg #[])) ((w1.alloc (.cells #[.int .i64 first, .slice A1 log.length c1, .int .i64 used] 29)).alloc (.map fmtMap 2)) := by
        have h := (fmt_look _ _ (map_at (w1.alloc (.cells #[.int .i64 first, .slice A1 log.length c1, .int .i64 used] 29))) 2).2
        rw [World.size_alloc] at h
        exact h
      have hm := fun w => (mth w).2.2.2.2.2
      have key2 := Lib.hid (youngMore_any (.slice Ab bs.length cb) _ bs l _ (HB.out.ext hX2) hbl (H.out.ext hX2) (by omega))
      clear ho1 hE1 hX
      go_wp2_with (go_at_call 24; refine (formats_any _).mono ?_; rintro e w' ⟨rfl, rfl⟩)
      refine key2.out.mono ?_
      rintro e w3 ⟨A3, c3, rfl, ho3, hE3⟩
      go_wp2_with fail
      go_ret2
      exact ⟨A3, c3, rfl, own_base ho3 hX2.size, Ext.trans hX2 hE3⟩
  · rw [if_neg he]
    obtain ⟨r, hr⟩ : ∃ r, wholeE T bs f = r := ⟨_, rfl⟩
    rw [hr] at key he ⊢
    clear hr
    obtain ⟨er, first, log, used, pt⟩ := r
    dsimp only at he ⊢
    have hne : ((er : Int) != 0) = true := by simpa using he
    have Key := Lib.hid key
    clear key hB h hT he
    go_enter Tryz.func14, Tryz.ntmps14
    go_wp2_with fail
    refine Key.out.mono ?_
    rintro e w1 ⟨vl, rfl, ho1, hE1⟩
    dsimp only at ho1
    obtain ⟨A1, c1, rfl, _, _⟩ := SlR.open_ (SlR.of_own ho1)
    dsimp only
    go_wp2_with fail
    go_ret2
    exact resB_nil rfl (Ext.alloc hE1 _)
end Go.Proofs.YtfjcnpigpkcfgaaGreat
