/-
  The walk of moultlaw08.TwoHarm.
-/
import Derived.Test.YtibbbdifkopebaaApp
import Derived.Test.YtibbbdifkopebaaHarmP
set_option linter.all false
namespace Go.Proofs.Ytibbbdifkopebaa
open Go.RowKit Go.Mv
set_option maxRecDepth 100000

theorem bits_xor_u8 (x b : UInt8) : bits .xor .u8 (x.toNat : Int) (b.toNat : Int) = ((x ^^^ b).toNat : Int) := by
  have hx := (x ^^^ b).toNat_lt
  have h1 : (BitVec.ofInt 8 (x.toNat : Int)).toNat = x.toNat := by
    rw [BitVec.ofInt_natCast, BitVec.toNat_ofNat]; exact Nat.mod_eq_of_lt x.toNat_lt
  have h2 : (BitVec.ofInt 8 (b.toNat : Int)).toNat = b.toNat := by
    rw [BitVec.ofInt_natCast, BitVec.toNat_ofNat]; exact Nat.mod_eq_of_lt b.toNat_lt
  show IntKind.u8.wrap ((BitVec.ofInt 8 (x.toNat : Int) ^^^ BitVec.ofInt 8 (b.toNat : Int)).toNat : Int) = _
  rw [BitVec.toNat_xor, h1, h2, ← UInt8.toNat_xor, IntKind.wrap_u8]
  omega
theorem OwnB.at_ {w : World} {base q n cap : Nat} {B : List UInt8} (h : OwnB w base (.slice (some ⟨q, 0, none⟩) n cap) B) (t : Nat) (ht : t < B.length) :
    w.cell? ⟨q, t, none⟩ = some (.int .u8 (B[t].toNat : Int)) ∧ w.frozen? ⟨q, t, none⟩ = false := by
  have h' : w.ownsRow base 5 1 (.slice (some ⟨q, 0, none⟩) n cap) B.length (B.map bv) := h
  have hn : n = B.length := by
    obtain ⟨_, A, c, e, _⟩ := SlR.of_own h'
    cases e; rfl
  subst hn
  refine ⟨?_, World.ownsRow.frozenAt h' t⟩
  rw [World.ownsRow.cellAt h' t (by omega), List.getElem?_map, List.getElem?_eq_getElem ht]
  rfl
theorem OwnB.set {w : World} {base q n cap : Nat} {B : List UInt8} (h : OwnB w base (.slice (some ⟨q, 0, none⟩) n cap) B) (t : Nat) (c : UInt8) :
    OwnB (w.setCell ⟨q, t, none⟩ (.int .u8 (c.toNat : Int))) base (.slice (some ⟨q, 0, none⟩) n cap) (B.set t c) := by
  have h' : w.ownsRow base 5 1 (.slice (some ⟨q, 0, none⟩) n cap) B.length (B.map bv) := h
  have hn : n = B.length := by
    obtain ⟨_, A, c, e, _⟩ := SlR.of_own h'
    cases e; rfl
  subst hn
  have h2 := (World.ownsRow.stored h' t (.int .u8 (c.toNat : Int))).1
  unfold OwnB
  rw [List.length_set, List.map_set]
  exact h2

set_option maxHeartbeats 1000000 in
theorem Harm_early (first : Int) (Al : Option Addr) (N cl : Nat) (at_ y : Int) (w : World) (hy : 0 ≤ y ∧ y ≤ 255) (hg : ¬ (1 ≤ first ∧ first ≤ 1073741824 ∧ N ≠ 0 ∧ N ≤ 20 ∧ y ≠ 0 ∧ y ≤ 127)) :
    Calls Try.prog 6 #[.int .i64 first, .slice Al N cl, .int .i64 at_, .int .u8 y] w fun e w' => e = .returned (.bool true) ∧ Ext w w' := by
  by_cases a1 : first < 1
  · clear hg
    go_enter Try.func6, Try.ntmps6
    go_wp2_with (go_at_call 8; refine (wakes_any _).mono ?_; rintro e w1 ⟨rfl, hE⟩)
    go_ret; exact ⟨rfl, hE⟩
  by_cases a2 : 1073741824 < first
  · clear hg
    go_enter Try.func6, Try.ntmps6
    go_wp2_with (go_at_call 8; refine (wakes_any _).mono ?_; rintro e w1 ⟨rfl, hE⟩)
    go_ret; exact ⟨rfl, hE⟩
  by_cases a3 : N = 0
  · clear hg
    subst a3
    go_enter Try.func6, Try.ntmps6
    go_wp2_with (go_at_call 8; refine (wakes_any _).mono ?_; rintro e w1 ⟨rfl, hE⟩)
    go_ret; exact ⟨rfl, hE⟩
  have b3 : ((N : Int) == 0) = false := by rw [beq_eq_false_iff_ne]; omega
  by_cases a4 : 20 < (N : Int)
  · clear hg
    go_enter Try.func6, Try.ntmps6
    go_wp2_with (go_at_call 8; refine (wakes_any _).mono ?_; rintro e w1 ⟨rfl, hE⟩)
    go_ret; exact ⟨rfl, hE⟩
  by_cases a5 : y = 0
  · clear hg
    subst a5
    go_enter Try.func6, Try.ntmps6
    go_wp2_with (go_at_call 8; refine (wakes_any _).mono ?_; rintro e w1 ⟨rfl, hE⟩)
    go_ret; exact ⟨rfl, hE⟩
  have b5 : (y == 0) = false := by rw [beq_eq_false_iff_ne]; exact a5
  by_cases a6 : 127 < y
  · clear hg
    go_enter Try.func6, Try.ntmps6
    go_wp2_with (go_at_call 8; refine (wakes_any _).mono ?_; rintro e w1 ⟨rfl, hE⟩)
    go_ret; exact ⟨rfl, hE⟩
  exact absurd ⟨by omega, by omega, a3, by omega, a5, by omega⟩ hg

set_option maxHeartbeats 4000000 in
theorem Harm_any (first : Int) (vl : Value) (at_ y : Int) (l : List Ent) (w : World) (hl : Es w vl l) (hy : (Lit.int .u8 y).wf = true) :
    Calls Try.prog 6 #[.int .i64 first, vl, .int .i64 at_, .int .u8 y] w fun e w' => e = .returned (.bool true) ∧ Ext w w' := by
  obtain ⟨Al, cl, rfl, _, _⟩ := SlR.open_ hl
  have HL := Lib.hid hl
  clear hl
  have hyr : 0 ≤ y ∧ y ≤ 255 := by simpa [Lit.wf, IntKind.min, IntKind.max, IntKind.signed, IntKind.bits] using hy
  clear hy
  by_cases hg : 1 ≤ first ∧ first ≤ 1073741824 ∧ l.length ≠ 0 ∧ l.length ≤ 20 ∧ y ≠ 0 ∧ y ≤ 127
  case neg => exact Harm_early _ _ _ _ _ _ _ hyr hg
  case pos =>
    obtain ⟨g1, g2, g3, g4, g5, g6⟩ := hg
    obtain ⟨f, rfl⟩ : ∃ f : Nat, first = f := ⟨first.toNat, by omega⟩
    have g3' : ((l.length : Int) == 0) = false := by rw [beq_eq_false_iff_ne]; omega
    have g5' : (y == 0) = false := by rw [beq_eq_false_iff_ne]; exact g5
    go_enter Try.func6, Try.ntmps6
    go_wp2_with fail
    go_loopw [9] (fun i wr => ∃ k : Nat, k ≤ l.length ∧ i = .int .i64 k ∧ Hid (allOk (l.take k) = true) ∧ Ext w wr) (fun i _ => l.length - (intOf i).toNat)
    case atStart => exact ⟨0, Nat.zero_le _, rfl, rfl, Ext.refl _⟩
    case round =>
      obtain ⟨k, hk, rfl, Hb, hB⟩ := hrel
      by_cases hlt : k < l.length
      · obtain ⟨_, b, off, rfl, hc⟩ := Es.at_ (HL.out.ext hB) (by omega)
        obtain ⟨hc0, hc1, hc2⟩ := hc k hlt
        clear hc
        go_wp2_with (first
          | (go_at_call 23; refine (refRight_any _ _ _ _).mono ?_; rintro e w' ⟨rfl, hb⟩)
          | (go_at_call 8; refine (wakes_any _).mono ?_; rintro e w'' ⟨rfl, hE⟩))
        · go_ret
          exact ⟨rfl, Ext.trans hB (Ext.trans hb hE)⟩
        · go_roundw
          case rel =>
            have hok : l[k].ok = true := by simpa [Ent.ok] using (by assumption : (!okB l[k].t l[k].k l[k].v) = false)
            exact ⟨k + 1, by omega, by go_num, (allOk_take hlt Hb.out).trans hok, Ext.trans hB hb⟩
          case measure => simp [intOf]; omega
      · have hok : allOk l = true := by
          have := Hb.out
          rwa [List.take_of_length_le (by omega)] at this
        obtain ⟨B, H, L, hfile, hhead, hH0, hBl, hHB, hH6, hL0, hLl, hseg, hharm⟩ := seg_facts (f := f) (by omega) (by omega) hok (by omega)
        have HF := Lib.hid hfile
        have HH := Lib.hid hhead
        have HLl := Lib.hid hLl
        have HS := Lib.hid hseg
        have HA := Lib.hid hharm
        clear hfile hhead hLl hseg hharm hok
        obtain ⟨j, hj, hjl⟩ := left_mod at_ (B.length - H.length) (by omega) (by omega)
        have hcast : ((B.length - H.length : Nat) : Int) = (B.length : Int) - H.length := by omega
        rw [hcast] at hj
        have hBn : ¬ ((B.length : Int) ≤ (H.length : Int)) := by omega
        have hBn0 : ¬ ((B.length : Int) - (H.length : Int) = 0) := by omega
        obtain ⟨t, ht⟩ : ∃ t : Nat, H.length + j = t := ⟨_, rfl⟩
        have hw2 : wrap64 ((H.length : Int) + (j : Int)) = (t : Int) := by unfold wrap64; omega
        have HW2 := Lib.hid hw2
        have HJ := Lib.hid hj
        have Ht := Lib.hid ht
        clear hw2 hj ht
        have htB : t < B.length := by have := Ht.out; omega
        have htH : H.length ≤ t := by have := Ht.out; omega
        go_wp2_with fail
        refine (File_any f _ l wr (Es.ext HL.out hB) (by omega)).mono ?_
        rw [HF.out]
        rintro e w3 ⟨v3, rfl, ho3, hE3⟩
        have ho3' : OwnB w3 wr.heap.size v3 B := ho3
        obtain ⟨A3, c3, rfl, _, _⟩ := SlR.open_ ho3'.bs
        dsimp only
        clear ho3
        go_wp2_with fail
        refine (Head_any f _).mono ?_
        rw [HH.out]
        rintro e w5 ⟨v5, rfl, ho5, hE5⟩
        have ho5' := ho5
        obtain ⟨A5, c5, rfl, _, _⟩ := SlR.open_ (SlR.of_own ho5)
        dsimp only
        clear ho5
        have hE5' : Ext w3 w5 := hE5
        have hEw5 : Ext w w5 := Ext.trans hB (Ext.trans hE3 hE5')
        go_wp2_with fail
        rw [HJ.out, HW2.out]
        have HL0 := Lib.hid hL0
        clear hL0
        go_loopw [15, 16, 17] (fun ia is ik wr2 => ∃ a k : Nat, ia = .int .i64 a ∧ is = .int .i64 (L a) ∧ ik = .int .i64 k ∧ Hid (a % 4 = 0 ∧ k % 4 = 0 ∧ a < l.length ∧ a + 4 ≤ k ∧ k ≤ l.length + 3 ∧ L a ≤ t ∧ (a + 4 = k ∨ t < L (a + 4))) ∧ Ext w5 wr2) (fun _ _ ik _ => l.length + 4 - (intOf ik).toNat)
        case atStart => exact ⟨0, 4, rfl, by rw [HL0.out], rfl, Lib.hid ⟨rfl, rfl, by omega, by omega, by omega, by rw [HL0.out]; exact htH, .inl rfl⟩, Ext.refl _⟩
        case round =>
          obtain ⟨a, k2, rfl, rfl, rfl, HI, hX⟩ := hrel
          have hEr2 : Ext w wr := Ext.trans hEw5 hX
          by_cases hlt2 : k2 < l.length
          · obtain ⟨C, hC, hCl, hC2⟩ := HS.out k2
            have HCC := Lib.hid hC
            have hk2c : (k2 : Int) ≤ cl := by omega
            have htk : Es wr (.slice Al k2 cl) (l.take k2) := Es.take (HL.out.ext hEr2) k2 (by omega)
            have HCl := Lib.hid hCl
            clear hC hCl
            go_wp2_with fail
            refine (File_any f _ (l.take k2) _ htk (by rw [List.length_take]; omega)).mono ?_
            rw [HCC.out]
            rintro e w6 ⟨v6, rfl, ho6, hE6⟩
            have ho6' : OwnB w6 wr.heap.size v6 C := ho6
            obtain ⟨A6, c6, rfl, _, _⟩ := SlR.open_ ho6'.bs
            dsimp only
            clear ho6
            have hE6' : Ext w5 w6 := Ext.trans hX hE6
            by_cases hCt : (C.length : Int) ≤ (t : Int)
            · go_wp2_with fail
              go_roundw
              case rel =>
                obtain ⟨i1, i2, i3, i4, i5, i6, i7⟩ := HI.out
                have := HCl.out
                exact ⟨k2, k2 + 4, rfl, by rw [← HCl.out], by go_num, Lib.hid ⟨i2, by omega, hlt2, Nat.le_refl _, by omega, by omega, .inl rfl⟩, hE6'⟩
              case measure => simp [intOf]; omega
            · go_wp2_with fail
              go_roundw
              case rel =>
                obtain ⟨i1, i2, i3, i4, i5, i6, i7⟩ := HI.out
                have := HCl.out
                have i8 : t < L (a + 4) := by
                  rcases i7 with h | h
                  · rw [h]; omega
                  · exact h
                exact ⟨a, k2 + 4, rfl, rfl, by go_num, Lib.hid ⟨i1, by omega, i3, by omega, by omega, i6, .inr i8⟩, hE6'⟩
              case measure => simp [intOf]; omega
          · have hI : a % 4 = 0 ∧ a < l.length ∧ L a ≤ t ∧ t < L (a + 4) := by
              obtain ⟨i1, i2, i3, i4, i5, i6, i7⟩ := HI.out
              refine ⟨i1, i3, i6, ?_⟩
              rcases i7 with h | h
              · rw [h, HLl.out k2 (by omega)]; exact htB
              · exact h
            obtain ⟨j1, j2, j3, j4⟩ := hI
            by_cases hts : t = L a
            · go_wp2_with (go_at_call 8; refine (wakes_any _).mono ?_; rintro e w6 ⟨rfl, hE6⟩)
              go_ret
              exact ⟨rfl, Ext.trans hEr2 hE6⟩
            · have hLt : L a < t := by omega
              have hon := ho3'.ext (Ext.trans hE5' hX)
              have htB' : (t : Int) < (B.length : Int) := by omega
              have hEwr : Ext w5 wr := hX
              go_wp2_with (at_builtin; refine wpList_app_b rfl (.tmp 129) (.tmp 130) rfl wr.heap.size _ [] rfl (ownB_empty wr) _ B rfl (hon.ext (Ext.alloc (Ext.refl _) _)).bs (by simp; omega) (by simp) ?_; intro A7 c7 w7 ho7 hG7; have hE7 : Ext wr w7 := hG7 wr (Ext.alloc (Ext.refl _) _) (Nat.le_refl _); simp only [List.length_nil, Nat.zero_add, List.nil_append] at ho7 ⊢; have ho7' : OwnB w7 wr.heap.size (.slice A7 B.length c7) B := ho7; obtain ⟨q7, cap7, e7, hq7, _, _⟩ := ownsRow_pos ho7 (by omega); cases e7; obtain ⟨hcell, hfz⟩ := OwnB.at_ ho7' t htB; clear hG7)
              obtain ⟨yb, rfl⟩ : ∃ yb : UInt8, y = (yb.toNat : Int) := ⟨UInt8.ofNat y.toNat, by rw [UInt8.toNat_ofNat']; omega⟩
              rw [bits_xor_u8]
              have hyb0 : yb ≠ 0 := by rintro rfl; exact g5 rfl
              have hyb7 : yb.toNat < 128 := by omega
              obtain ⟨q, hq⟩ := HA.out a t j1 j2 hLt j4 htB (B[t] ^^^ yb) (xor_top _ _ hyb7) (xor_ne _ _ hyb0)
              obtain ⟨cc, hcc⟩ : ∃ cc, B[t] ^^^ yb = cc := ⟨_, rfl⟩
              rw [hcc] at hq ⊢
              have HQ := Lib.hid hq
              have ho8 := ho7'.set t cc
              have hE8 : Ext wr (w7.setCell ⟨q7, t, none⟩ (.int .u8 (cc.toNat : Int))) := Below.setCell (p := ⟨q7, t, none⟩) hE7 hq7 _
              have hset : (B.set t cc).length = B.length := List.length_set ..
              clear hq hcc hyb0 hyb7 hcell hfz
              refine (Scan_any _ _ _ ho8.bs (by rw [hset]; omega)).mono ?_
              rw [HQ.out]
              rintro e w9 ⟨v9, rfl, ho9, hE9⟩
              have ho9' : OwnE w9 _ v9 (l.take a) := ho9
              obtain ⟨A9, c9, rfl, _, _⟩ := SlR.open_ ho9'.es
              dsimp only
              clear ho9
              have hln : (l.take a).length = a := by rw [List.length_take]; omega
              rw [hln] at ho9' ⊢
              go_wp2_with fail
              have hE9' : Ext wr w9 := Ext.trans hE8 hE9
              have hEw9 : Ext w w9 := Ext.trans hEr2 hE9'
              have hb10 := Blk.new w9 36 #[.int .i64 f, .slice A9 a c9, .int .i64 (L a)]
              have hX10 : Ext w9 (w9.alloc (.cells #[.int .i64 f, .slice A9 a c9, .int .i64 (L a)] 36)) := Ext.alloc (Ext.refl _) _
              have hgo : ∀ W', Ext (w9.alloc (.cells #[.int .i64 f, .slice A9 a c9, .int .i64 (L a)] 36)) W' → W'.cell? ⟨w9.heap.size, 0, none⟩ = some (.int .i64 f) ∧ W'.cell? ⟨w9.heap.size, 1, none⟩ = some (.slice A9 a c9) ∧ W'.cell? ⟨w9.heap.size, 2, none⟩ = some (.int .i64 (L a)) := fun W' h => by
                obtain ⟨q0, q1, q2, _, _, _⟩ := blk3 (hb10.ext h)
                exact ⟨q0, q1, q2⟩
              have hltn := Es.take (HL.out.ext hEw9) a (by omega)
              have hS := Same_any _ _ _ _ _ (ho9'.ext (Ext.drew hX10)).es (Es.ext hltn (Ext.drew hX10))
              rw [show decide (l.take a = l.take a) = true from by simp] at hS
              have HSS := Lib.hid hS
              clear hS
              have hacl : (a : Int) ≤ cl := by omega
              refine wp_region_held_drew (S := fun w' => w'.cell? ⟨w9.heap.size, 0, none⟩ = some (.int .i64 f) ∧ w'.cell? ⟨w9.heap.size, 1, none⟩ = some (.slice A9 a c9) ∧ w'.cell? ⟨w9.heap.size, 2, none⟩ = some (.int .i64 (L a))) (by kernel_rfl) (hgo _ (Ext.drew (Ext.refl _))) (fun hHeld => ?_)
              refine wpAnyH_takeL (i := 0) (v := ?v1_0) rfl (by kernel_rfl) (by kernel_rfl) (by kernel_rfl) (fun _ _ _ h => h) (by rfl) (by assumption) (fun w hw => ?h1_0) ?r1_0
              case h1_0 => (try dsimp only at hw); go_simp; try with_reducible rfl
              case' r1_0 => skip
              try simp only [Act.put, List.setIfInBounds_toArray, List.set_cons_zero, List.set_cons_succ]
              refine wpAnyH_takeL (i := 1) (v := ?v1_1) rfl (by kernel_rfl) (by kernel_rfl) (by kernel_rfl) (fun _ _ _ h => h) (by rfl) (by assumption) (fun w hw => ?h1_1) ?r1_1
              case h1_1 => (try dsimp only at hw); go_simp; try with_reducible rfl
              case' r1_1 => skip
              try simp only [Act.put, List.setIfInBounds_toArray, List.set_cons_zero, List.set_cons_succ]
              refine wpAnyH_takeL (i := 2) (v := ?v1_2) rfl (by kernel_rfl) (by kernel_rfl) (by kernel_rfl) (fun _ _ _ h => h) (by rfl) (by assumption) (fun w hw => ?h1_2) ?r1_2
              case h1_2 => (try dsimp only at hw); go_simp; try with_reducible rfl
              case' r1_2 => skip
              try simp only [Act.put, List.setIfInBounds_toArray, List.set_cons_zero, List.set_cons_succ]
              refine wpAnyH_takeL (i := 3) (v := ?v1_3) rfl (by kernel_rfl) (by kernel_rfl) (by kernel_rfl) (fun _ _ _ h => h) (by rfl) (by assumption) (fun w hw => ?h1_3) ?r1_3
              case h1_3 => (try dsimp only at hw); go_simp; try with_reducible rfl
              case' r1_3 => skip
              try simp only [Act.put, List.setIfInBounds_toArray, List.set_cons_zero, List.set_cons_succ]
              refine wpAnyH_takeL (i := 4) (v := ?v1_4) rfl (by kernel_rfl) (by kernel_rfl) (by kernel_rfl) (fun _ _ _ h => h) (by rfl) (by assumption) (fun w hw => ?h1_4) ?r1_4
              case h1_4 => (try dsimp only at hw); go_simp; try with_reducible rfl
              case' r1_4 => skip
              try simp only [Act.put, List.setIfInBounds_toArray, List.set_cons_zero, List.set_cons_succ]
              refine wpAnyH_takeL (i := 5) (v := ?v1_5) rfl (by kernel_rfl) (by kernel_rfl) (by kernel_rfl) (fun _ _ _ h => h) (by rfl) (by assumption) (fun w hw => ?h1_5) ?r1_5
              case h1_5 => (try dsimp only at hw); go_simp; try with_reducible rfl
              case' r1_5 => skip
              try simp only [Act.put, List.setIfInBounds_toArray, List.set_cons_zero, List.set_cons_succ]
              refine wpAnyH_takeL (i := 6) (v := ?v1_6) rfl (by kernel_rfl) (by kernel_rfl) (by kernel_rfl) (fun _ _ _ h => h) (by rfl) (by assumption) (fun w hw => ?h1_6) ?r1_6
              case h1_6 => (try dsimp only at hw); go_simp; try with_reducible rfl
              case' r1_6 => skip
              try simp only [Act.put, List.setIfInBounds_toArray, List.set_cons_zero, List.set_cons_succ]
              refine wpAnyH_takeL (i := 7) (v := ?v1_7) rfl (by kernel_rfl) (by kernel_rfl) (by kernel_rfl) (fun _ _ _ h => h) (by rfl) (by assumption) (fun w hw => ?h1_7) ?r1_7
              case h1_7 => (try dsimp only at hw); go_simp; try with_reducible rfl
              case' r1_7 => skip
              try simp only [Act.put, List.setIfInBounds_toArray, List.set_cons_zero, List.set_cons_succ]
              refine wpAnyH_takeL (i := 8) (v := ?v1_8) rfl (by kernel_rfl) (by kernel_rfl) (by kernel_rfl) (fun _ _ _ h => h) (by rfl) (by assumption) (fun w hw => ?h1_8) ?r1_8
              case h1_8 => (try dsimp only at hw); go_simp; try with_reducible rfl
              case' r1_8 => skip
              try simp only [Act.put, List.setIfInBounds_toArray, List.set_cons_zero, List.set_cons_succ]
              refine wpAnyH_takeL (i := 9) (v := ?v1_9) rfl (by kernel_rfl) (by kernel_rfl) (by kernel_rfl) (fun _ _ _ h => h) (by rfl) (by assumption) (fun w hw => ?h1_9) ?r1_9
              case h1_9 => (try dsimp only at hw); go_simp; try with_reducible rfl
              case' r1_9 => skip
              try simp only [Act.put, List.setIfInBounds_toArray, List.set_cons_zero, List.set_cons_succ]
              refine wpAnyH_takeL (i := 10) (v := ?v1_10) rfl (by kernel_rfl) (by kernel_rfl) (by kernel_rfl) (fun _ _ _ h => h) (by rfl) (by assumption) (fun w hw => ?h1_10) ?r1_10
              case h1_10 => (try dsimp only at hw); go_simp; try with_reducible rfl
              case' r1_10 => skip
              try simp only [Act.put, List.setIfInBounds_toArray, List.set_cons_zero, List.set_cons_succ]
              refine wpAnyH_takeL (i := 11) (v := ?v1_11) rfl (by kernel_rfl) (by kernel_rfl) (by kernel_rfl) (fun _ _ _ h => h) (by rfl) (by assumption) (fun w hw => ?h1_11) ?r1_11
              case h1_11 => (try dsimp only at hw); go_simp; try with_reducible rfl
              case' r1_11 => skip
              try simp only [Act.put, List.setIfInBounds_toArray, List.set_cons_zero, List.set_cons_succ]
              refine wpAnyH_takeL (i := 12) (v := ?v1_12) rfl (by kernel_rfl) (by kernel_rfl) (by kernel_rfl) (fun _ _ _ h => h) (by rfl) (by assumption) (fun w hw => ?h1_12) ?r1_12
              case h1_12 => (try dsimp only at hw); go_simp; try with_reducible rfl
              case' r1_12 => skip
              try simp only [Act.put, List.setIfInBounds_toArray, List.set_cons_zero, List.set_cons_succ]
              refine wpAnyH_takeL (i := 13) (v := ?v1_13) rfl (by kernel_rfl) (by kernel_rfl) (by kernel_rfl) (fun _ _ _ h => h) (by rfl) (by assumption) (fun w hw => ?h1_13) ?r1_13
              case h1_13 => (try dsimp only at hw); go_simp; try with_reducible rfl
              case' r1_13 => skip
              try simp only [Act.put, List.setIfInBounds_toArray, List.set_cons_zero, List.set_cons_succ]
              refine wpAnyH_takeL (i := 14) (v := ?v1_14) rfl (by kernel_rfl) (by kernel_rfl) (by kernel_rfl) (fun _ _ _ h => h) (by rfl) (by assumption) (fun w hw => ?h1_14) ?r1_14
              case h1_14 => (try dsimp only at hw); go_simp; try with_reducible rfl
              case' r1_14 => skip
              try simp only [Act.put, List.setIfInBounds_toArray, List.set_cons_zero, List.set_cons_succ]
              refine wpAnyH_takeL (i := 15) (v := ?v1_15) rfl (by kernel_rfl) (by kernel_rfl) (by kernel_rfl) (fun _ _ _ h => h) (by rfl) (by assumption) (fun w hw => ?h1_15) ?r1_15
              case h1_15 => (try dsimp only at hw); go_simp; try with_reducible rfl
              case' r1_15 => skip
              try simp only [Act.put, List.setIfInBounds_toArray, List.set_cons_zero, List.set_cons_succ]
              refine wpAnyH_takeL (i := 16) (v := ?v1_16) rfl (by kernel_rfl) (by kernel_rfl) (by kernel_rfl) (fun _ _ _ h => h) (by rfl) (by assumption) (fun w hw => ?h1_16) ?r1_16
              case h1_16 => (try dsimp only at hw); go_simp; try with_reducible rfl
              case' r1_16 => skip
              try simp only [Act.put, List.setIfInBounds_toArray, List.set_cons_zero, List.set_cons_succ]
              refine wpAnyH_takeL (i := 17) (v := ?v1_17) rfl (by kernel_rfl) (by kernel_rfl) (by kernel_rfl) (fun _ _ _ h => h) (by rfl) (by assumption) (fun w hw => ?h1_17) ?r1_17
              case h1_17 => (try dsimp only at hw); go_simp; try with_reducible rfl
              case' r1_17 => skip
              try simp only [Act.put, List.setIfInBounds_toArray, List.set_cons_zero, List.set_cons_succ]
              refine wpAnyH_takeL (i := 18) (v := ?v1_18) rfl (by kernel_rfl) (by kernel_rfl) (by kernel_rfl) (fun _ _ _ h => h) (by rfl) (by assumption) (fun w hw => ?h1_18) ?r1_18
              case h1_18 => (try dsimp only at hw); go_simp; try with_reducible rfl
              case' r1_18 => skip
              try simp only [Act.put, List.setIfInBounds_toArray, List.set_cons_zero, List.set_cons_succ]
              refine wpAnyH_takeL (i := 19) (v := ?v1_19) rfl (by kernel_rfl) (by kernel_rfl) (by kernel_rfl) (fun _ _ _ h => h) (by rfl) (by assumption) (fun w hw => ?h1_19) ?r1_19
              case h1_19 => (try dsimp only at hw); go_simp; try with_reducible rfl
              case' r1_19 => skip
              try simp only [Act.put, List.setIfInBounds_toArray, List.set_cons_zero, List.set_cons_succ]
              refine AllReadyH.one (i := 20) rfl (by kernel_rfl) (by rfl) (fun K hK => ?_)
              go_simp
              refine HSS.out.mono ?_
              rintro e w11 ⟨rfl, hE11⟩
              have hE11' : Ext (w9.alloc (.cells #[.int .i64 f, .slice A9 a c9, .int .i64 (L a)] 36)) w11 := Ext.trans (Ext.drew (Ext.refl _)) hE11
              have hS11 := hgo w11 hE11'
              try (go_wp2_with fail)
              refine hK.out _ _ hS11 (fun hHeld => ?_)
              clear hK K
              try simp only [Act.put, List.setIfInBounds_toArray, List.set_cons_zero, List.set_cons_succ]
              refine wpAnyH_takeL (i := 21) (v := ?v4_21) rfl (by kernel_rfl) (by kernel_rfl) (by kernel_rfl) (fun _ _ _ h => h) (by rfl) (by assumption) (fun w hw => ?h4_21) ?r4_21
              case h4_21 => (try dsimp only at hw); go_simp; try with_reducible rfl
              case' r4_21 => skip
              try simp only [Act.put, List.setIfInBounds_toArray, List.set_cons_zero, List.set_cons_succ]
              refine wpAnyH_takeL (i := 22) (v := ?v4_22) rfl (by kernel_rfl) (by kernel_rfl) (by kernel_rfl) (fun _ _ _ h => h) (by rfl) (by assumption) (fun w hw => ?h4_22) ?r4_22
              case h4_22 => (try dsimp only at hw); go_simp; try with_reducible rfl
              case' r4_22 => skip
              try simp only [Act.put, List.setIfInBounds_toArray, List.set_cons_zero, List.set_cons_succ]
              refine AllReadyH.one (i := 23) rfl (by kernel_rfl) (by rfl) (fun K hK => ?_)
              go_simp
              refine (wakes_any _).mono ?_
              rintro e w12 ⟨rfl, hE12⟩
              have hS12 := hgo w12 (Ext.trans hE11' hE12)
              try (go_wp2_with fail)
              refine hK.out _ _ hS12 (fun hHeld => ?_)
              clear hK K
              try simp only [Act.put, List.setIfInBounds_toArray, List.set_cons_zero, List.set_cons_succ]
              refine wpAnyH_takeL (i := 24) (v := ?v7_24) rfl (by kernel_rfl) (by kernel_rfl) (by kernel_rfl) (fun _ _ _ h => h) (by rfl) (by assumption) (fun w hw => ?h7_24) ?r7_24
              case h7_24 => (try dsimp only at hw); go_simp; try with_reducible rfl
              case' r7_24 => skip
              try simp only [Act.put, List.setIfInBounds_toArray, List.set_cons_zero, List.set_cons_succ]
              refine wpAnyH_takeL (i := 25) (v := ?v7_25) rfl (by kernel_rfl) (by kernel_rfl) (by kernel_rfl) (fun _ _ _ h => h) (by rfl) (by assumption) (fun w hw => ?h7_25) ?r7_25
              case h7_25 => (try dsimp only at hw); go_simp; try with_reducible rfl
              case' r7_25 => skip
              try simp only [Act.put, List.setIfInBounds_toArray, List.set_cons_zero, List.set_cons_succ]
              refine wpAnyH_done (by kernel_rfl) ?_ _
              go_wp2_with fail
              go_ret
              exact ⟨rfl, Ext.trans hEw9 (Ext.trans hX10 (Ext.trans hE11' hE12))⟩
end Go.Proofs.Ytibbbdifkopebaa
