/-
  The walk of moultlaw08.TwoHarm.
  The walk of moultlaw09.SnapHarm.
  Whatever the input, the call of SnapHarm returns true, and each of its arguments reads behind the call as it read before, where the listed table reads as listed; and the card that ties that to the program's text. No condition besides the row's own.
-/
import Derived.Test.YtkpdlkikkcnhiaaDoorM15
import Derived.Test.YtkpdlkikkcnhiaaDoorRows
import Derived.Test.YtkpdlkikkcnhiaaDoorCards
import Derived.Test.YtkpdlkikkcnhiaaDoorTie
import Derived.WalkKit
import Derived.SevenTiedAt
set_option linter.all false
namespace Go.Proofs.YtkpdlkikkcnhiaaDoor
open Go.RowKit Go.Mv
set_option maxRecDepth 100000

theorem bits_xor_u8 (x b : UInt8) : bits .xor .u8 (x.toNat : Int) (b.toNat : Int) = ((x ^^^ b).toNat : Int) := by
  have hx := (x ^^^ b).toNat_lt
  have h1 : (BitVec.ofInt 8 (x.toNat : Int)).toNat = x.toNat := by
    rw [BitVec.ofInt_natCast, BitVec.toNat_ofNat]; exact Nat.mod_eq_of_lt x.toNat_lt
  have h2 : (BitVec.ofInt 8 (b.toNat : Int)).toNat = b.toNat := by
    rw [BitVec.ofInt_natCast, BitVec.toNat_ofNat]; exact Nat.mod_eq_of_lt b.toNat_lt
  show IntKind.u8.wrap ((BitVec.ofInt 8 (x.toNat : Int) ^^^ BitVec.ofInt 8 (b.toNat : Int)).toNat : Int) = _
  rw [BitVec.toNat_xor, h1, h2, ← UInt8.toNat_xor, IntKind.wrap_u8]
  omega
theorem OwnB.at_ {w : World} {base q n cap : Nat} {B : List UInt8} (h : OwnB w base (.slice (some ⟨q, 0, none⟩) n cap) B) (t : Nat) (ht : t < B.length) :
    w.cell? ⟨q, t, none⟩ = some (.int .u8 (B[t].toNat : Int)) ∧ w.frozen? ⟨q, t, none⟩ = false := by
  have h' : w.ownsRow base 5 1 (.slice (some ⟨q, 0, none⟩) n cap) B.length (B.map bv) := h
  have hn : n = B.length := by
    obtain ⟨_, A, c, e, _⟩ := SlR.of_own h'
    cases e; rfl
  subst hn
  refine ⟨?_, World.ownsRow.frozenAt h' t⟩
  rw [World.ownsRow.cellAt h' t (by omega), List.getElem?_map, List.getElem?_eq_getElem ht]
  rfl
theorem OwnB.set {w : World} {base q n cap : Nat} {B : List UInt8} (h : OwnB w base (.slice (some ⟨q, 0, none⟩) n cap) B) (t : Nat) (c : UInt8) :
    OwnB (w.setCell ⟨q, t, none⟩ (.int .u8 (c.toNat : Int))) base (.slice (some ⟨q, 0, none⟩) n cap) (B.set t c) := by
  have h' : w.ownsRow base 5 1 (.slice (some ⟨q, 0, none⟩) n cap) B.length (B.map bv) := h
  have hn : n = B.length := by
    obtain ⟨_, A, c, e, _⟩ := SlR.of_own h'
    cases e; rfl
  subst hn
  have h2 := (World.ownsRow.stored h' t (.int .u8 (c.toNat : Int))).1
  unfold OwnB
  rw [List.length_set, List.map_set]
  exact h2

end Go.Proofs.YtkpdlkikkcnhiaaDoor

namespace Go.Proofs.YtkpdlkikkcnhiaaDoor
open Go.RowKit Go.Mv
set_option maxRecDepth 100000

theorem hmS (s : Sta) (W : World) : (Op.equalIn 10000 23 (.agg #[.int .i64 s.idx, .int .i64 s.term, .int .i64 s.sum, .int .i64 s.lvl, .bool s.fin]) (.agg #[.int .i64 s.idx, .int .i64 s.term, .int .i64 s.sum, .int .i64 s.lvl, .bool s.fin])).run Tryd.prog W = .ok true W := by
  have := staEq_run s s W
  rw [(staEq_iff s s).2 rfl] at this
  exact this
theorem hmZ (W : World) : (Op.equalIn 10000 23 (.agg #[.int .i64 0, .int .i64 0, .int .i64 0, .int .i64 0, .bool false]) (.agg #[.int .i64 0, .int .i64 0, .int .i64 0, .int .i64 0, .bool false])).run Tryd.prog W = .ok true W := staEq_run staZ staZ W
theorem set_self (b : List UInt8) (t : Nat) (ht : t < b.length) : b.set t b[t] = b := List.set_getElem_self ..

set_option maxHeartbeats 4000000 in
theorem SHarm_any (s : Sta) (f at_ y : Int) (w : World) (hT : TabW w) (hy : (Lit.int .u8 y).wf = true) :
    Calls Tryd.prog 4 #[.agg #[.int .i64 s.idx, .int .i64 s.term, .int .i64 s.sum, .int .i64 s.lvl, .bool s.fin], .int .i64 f, .int .i64 at_, .int .u8 y] w fun e w' => e = .returned (.bool true) ∧ Ext w w' := by
  have HT := Lib.hid hT
  clear hT
  have hyr : 0 ≤ y ∧ y ≤ 255 := by simpa [Lit.wf, IntKind.min, IntKind.max, IntKind.signed, IntKind.bits] using hy
  clear hy
  have hb := Blk.new w 23 #[.int .i64 s.idx, .int .i64 s.term, .int .i64 s.sum, .int .i64 s.lvl, .bool s.fin]
  have hX : Ext w (w.alloc (.cells #[.int .i64 s.idx, .int .i64 s.term, .int .i64 s.sum, .int .i64 s.lvl, .bool s.fin] 23)) := Ext.alloc (Ext.refl _) _
  have hgd := staGuard
  cases hp : putR s f with
  | none =>
    have Hp := Lib.hid hp
    clear hp
    go_enter Tryd.func4, Tryd.ntmps4
    go_wp2_with fail
    refine (Put_none Hp.out _ (HT.out.ext hX)).mono ?_
    rintro e w1 ⟨rfl, hE1⟩
    have E1 := Ext.trans hX hE1
    go_wp2_with fail
    refine (wakes9_any _ (HT.out.ext E1)).mono ?_
    rintro e w3 ⟨rfl, hE3⟩
    go_wp2_with fail
    go_ret
    exact ⟨rfl, Ext.trans E1 hE3⟩
  | some b =>
    obtain ⟨hbl2, hbl⟩ := putR_len hp
    obtain ⟨yb, rfl⟩ : ∃ yb : UInt8, y = (yb.toNat : Int) := ⟨UInt8.ofNat y.toNat, by rw [UInt8.toNat_ofNat']; omega⟩
    obtain ⟨t, ht, htb⟩ := left_mod at_ b.length (by omega) (by omega)
    have hmore := harm_more hp yb
    have hfew := harm_fewer hp
    have Hset : Hid (if yb = 0 then takeR (b.set t (b[t] ^^^ yb)) f = some s else takeR (b.set t (b[t] ^^^ yb)) f = none) := by
      unfold Hid
      split
      · rename_i h
        subst h
        rw [UInt8.xor_zero, set_self]
        exact takeR_put hp
      · rename_i h
        exact harm_set hp t _ htb (xor_ne _ _ h)
    have HJ := Lib.hid ht
    have Hp := Lib.hid hp
    have Hmore := Lib.hid hmore
    have Hfew := Lib.hid hfew
    have htb' : (t : Int) < (b.length : Int) := by omega
    clear ht hp hmore hfew
    have hne0 : ((b.length : Int) == 0) = false := by rw [beq_eq_false_iff_ne]; omega
    have hne1 : ¬ ((b.length : Int) = 0) := by omega
    go_enter Tryd.func4, Tryd.ntmps4
    go_wp2_with fail
    refine (Put_some Hp.out _ (HT.out.ext hX)).mono ?_
    rintro e w1 ⟨A1, c1, rfl, ho1, hE1⟩
    have E1 := Ext.trans hX hE1
    have hB1 : Bs w1 (.slice A1 b.length c1) b := SlR.of_own ho1
    have hb1 := hb.ext hE1
    go_wp2_with (at_builtin; rw [HJ.out]; refine wpList_app_b rfl (.tmp 44) (.tmp 45) rfl w1.heap.size _ [] rfl (ownB_empty w1) _ b rfl (hB1.ext (Ext.alloc (Ext.refl _) _)) (by simp; omega) (by simp) ?_; intro A7 c7 w7 ho7 hG7; have hE7 : Ext w1 w7 := hG7 w1 (Ext.alloc (Ext.refl _) _) (Nat.le_refl _); simp only [List.length_nil, Nat.zero_add, List.nil_append] at ho7 ⊢; have ho7' : OwnB w7 w1.heap.size (.slice A7 b.length c7) b := ho7; obtain ⟨q7, cap7, e7, hq7, _, _⟩ := ownsRow_pos ho7 (by omega); cases e7; obtain ⟨hcell, hfz⟩ := OwnB.at_ ho7' t htb; clear hG7)
    rw [bits_xor_u8]
    obtain ⟨cc, hcc⟩ : ∃ cc, b[t] ^^^ yb = cc := ⟨_, rfl⟩
    rw [hcc] at Hset ⊢
    have ho8 := ho7'.set t cc
    have hE8 : Ext w1 (w7.setCell ⟨q7, t, none⟩ (.int .u8 (cc.toNat : Int))) := Below.setCell (p := ⟨q7, t, none⟩) hE7 hq7 _
    have hset : (b.set t cc).length = b.length := List.length_set ..
    generalize w7.setCell ⟨q7, t, none⟩ (.int .u8 (cc.toNat : Int)) = w8 at *
    clear hcell hfz hcc ho7 ho7' hE7 hb ho1
    have E8 := Ext.trans E1 hE8
    have hb8 := hb1.ext hE8
    have hB8 : Bs w8 (.slice (some ⟨q7, 0, none⟩) b.length c7) (b.set t cc) := SlR.of_own ho8
    have hb18 := hB1.ext hE8
    by_cases hy0 : yb = 0
    · rw [if_pos hy0] at Hset
      have ey : ((yb.toNat : Int) == 0) = true := by rw [hy0]; rfl
      have heq := hmS s
      clear hy0
      go_wp2_with fail
      refine (Take_to Hset _ _ (HT.out.ext E8) hB8 (by rw [hset]; omega)).mono ?_
      rintro e w10 ⟨rfl, hE10⟩
      have hb10 := Blk.new w10 23 #[.int .i64 s.idx, .int .i64 s.term, .int .i64 s.sum, .int .i64 s.lvl, .bool s.fin]
      have X10 : Ext w8 (w10.alloc (.cells #[.int .i64 s.idx, .int .i64 s.term, .int .i64 s.sum, .int .i64 s.lvl, .bool s.fin] 23)) := Ext.alloc hE10 _
      have obe := ownB_empty (w10.alloc (.cells #[.int .i64 s.idx, .int .i64 s.term, .int .i64 s.sum, .int .i64 s.lvl, .bool s.fin] 23))
      have hsz : (w10.alloc (.cells #[.int .i64 s.idx, .int .i64 s.term, .int .i64 s.sum, .int .i64 s.lvl, .bool s.fin] 23)).heap.size = w10.heap.size + 1 := by simp
      rw [World.size_alloc] at obe
      go_wp2_with (first
        | (at_builtin; refine wpList_app_b rfl (.tmp 63) (.tmp 64) rfl (w10.heap.size + 1) _ [] rfl obe _ b rfl (hb18.ext (Ext.alloc X10 _)) (by simp; omega) (by simp) ?_; intro A12 c12 w12 ho12 hG12; have hE12 : Ext (w10.alloc (.cells #[.int .i64 s.idx, .int .i64 s.term, .int .i64 s.sum, .int .i64 s.lvl, .bool s.fin] 23)) w12 := hG12 (w10.alloc (.cells #[.int .i64 s.idx, .int .i64 s.term, .int .i64 s.sum, .int .i64 s.lvl, .bool s.fin] 23)) (Ext.alloc (Ext.refl _) _) (by simp); simp only [List.length_nil, Nat.zero_add, List.nil_append] at ho12 ⊢)
        | (at_builtin; refine wpList_app_b rfl (.tmp 65) (.tmp 67) rfl (w10.heap.size + 1) _ b rfl (ho12.ext (Ext.alloc (Ext.refl _) _)) _ [yb] rfl (bs1 w12 yb _ rfl) (by simp; omega) (by rw [← hsz]; exact (Ext.alloc hE12 _).size) ?_; intro A13 c13 w13 ho13 hG13; have hE13 : Ext (w10.alloc (.cells #[.int .i64 s.idx, .int .i64 s.term, .int .i64 s.sum, .int .i64 s.lvl, .bool s.fin] 23)) w13 := hG13 (w10.alloc (.cells #[.int .i64 s.idx, .int .i64 s.term, .int .i64 s.sum, .int .i64 s.lvl, .bool s.fin] 23)) (Ext.alloc hE12 _) (by simp)))
      have hBm : Bs w13 (.slice A13 (b.length + 1) c13) (b ++ [yb]) := SlR.of_own ho13
      have X13 := Ext.trans X10 hE13
      have E13 := Ext.trans E8 X13
      refine (Take_no Hmore.out _ _ (HT.out.ext E13) hBm (by simp; omega)).mono ?_
      rintro e w14 ⟨rfl, hE14⟩
      have X14 : Ext (w10.alloc (.cells #[.int .i64 s.idx, .int .i64 s.term, .int .i64 s.sum, .int .i64 s.lvl, .bool s.fin] 23)) (w14.alloc (.cells #[.int .i64 0, .int .i64 0, .int .i64 0, .int .i64 0, .bool false] 23)) := Ext.alloc (Ext.trans hE13 hE14) _
      have Y14 := Ext.trans X10 X14
      have E14 := Ext.trans E8 Y14
      obtain ⟨b1', o1', rfl, -⟩ := bs_cells hB1 (by omega)
      have hBf : Bs w8 (.slice (some ⟨b1', o1', none⟩) (b.length - 1) c1) (b.take (b.length - 1)) := Bs.take hb18 (b.length - 1) (by omega)
      have hs1 : (b.length : Int) - 1 = ((b.length - 1 : Nat) : Int) := by omega
      obtain ⟨m1, hm1⟩ : ∃ m1, b.length - 1 = m1 := ⟨_, rfl⟩
      have hbm : b.length = m1 + 1 := by omega
      obtain ⟨_, _, e', hle, _⟩ := SlR.open_ hB1
      cases e'
      have hmc : (m1 : Int) ≤ (c1 : Int) := by omega
      rw [hm1] at hBf
      have HBf : Hid (Bs (w14.alloc (.cells #[.int .i64 0, .int .i64 0, .int .i64 0, .int .i64 0, .bool false] 23)) (.slice (some ⟨b1', o1', none⟩) m1 c1) (b.take m1)) := hBf.ext Y14
      have Hfew2 : Hid (takeR (b.take m1) f = none) := by rw [Hid, ← hm1]; exact Hfew.out
      clear hBf hle
      have hb8' := hb8.ext Y14
      have hb10' := hb10.ext X14
      obtain ⟨g0, g1, g2, g3, g4⟩ := blk5 hb8'
      obtain ⟨p0, p1, p2, p3, p4⟩ := blk5 hb10'
      clear obe hG12 hG13 ho12 ho13 hE12 hE13 hsz
      go_wp2_with fail
      refine (Take_no Hfew2.out _ _ (HT.out.ext E14) HBf.out (by rw [List.length_take]; omega)).mono ?_
      rintro e w16 ⟨rfl, hE16⟩
      have X16 : Ext (w14.alloc (.cells #[.int .i64 0, .int .i64 0, .int .i64 0, .int .i64 0, .bool false] 23)) (w16.alloc (.cells #[.int .i64 0, .int .i64 0, .int .i64 0, .int .i64 0, .bool false] 23)) := Ext.alloc hE16 _
      have E16 := Ext.trans E14 X16
      have hb8'' := hb8'.ext X16
      have hb10'' := hb10'.ext X16
      clear g0 g1 g2 g3 g4 p0 p1 p2 p3 p4
      obtain ⟨g0, g1, g2, g3, g4⟩ := blk5 hb8''
      obtain ⟨p0, p1, p2, p3, p4⟩ := blk5 hb10''
      go_wp2_with fail
      refine (wakes9_any _ (HT.out.ext E16)).mono ?_
      rintro e w17 ⟨rfl, hE17⟩
      go_wp2_with fail
      go_ret
      exact ⟨rfl, Ext.trans E16 hE17⟩
    · rw [if_neg hy0] at Hset
      have ey : ((yb.toNat : Int) == 0) = false := by
        rw [beq_eq_false_iff_ne]
        intro h
        apply hy0
        apply UInt8.toNat_inj.1
        rw [UInt8.toNat_zero]
        omega
      have heq := hmZ
      clear hy0
      go_wp2_with fail
      refine (Take_no Hset _ _ (HT.out.ext E8) hB8 (by rw [hset]; omega)).mono ?_
      rintro e w10 ⟨rfl, hE10⟩
      have hb10 := Blk.new w10 23 #[.int .i64 0, .int .i64 0, .int .i64 0, .int .i64 0, .bool false]
      have X10 : Ext w8 (w10.alloc (.cells #[.int .i64 0, .int .i64 0, .int .i64 0, .int .i64 0, .bool false] 23)) := Ext.alloc hE10 _
      have obe := ownB_empty (w10.alloc (.cells #[.int .i64 0, .int .i64 0, .int .i64 0, .int .i64 0, .bool false] 23))
      have hsz : (w10.alloc (.cells #[.int .i64 0, .int .i64 0, .int .i64 0, .int .i64 0, .bool false] 23)).heap.size = w10.heap.size + 1 := by simp
      rw [World.size_alloc] at obe
      go_wp2_with (first
        | (at_builtin; refine wpList_app_b rfl (.tmp 63) (.tmp 64) rfl (w10.heap.size + 1) _ [] rfl obe _ b rfl (hb18.ext (Ext.alloc X10 _)) (by simp; omega) (by simp) ?_; intro A12 c12 w12 ho12 hG12; have hE12 : Ext (w10.alloc (.cells #[.int .i64 0, .int .i64 0, .int .i64 0, .int .i64 0, .bool false] 23)) w12 := hG12 (w10.alloc (.cells #[.int .i64 0, .int .i64 0, .int .i64 0, .int .i64 0, .bool false] 23)) (Ext.alloc (Ext.refl _) _) (by simp); simp only [List.length_nil, Nat.zero_add, List.nil_append] at ho12 ⊢)
        | (at_builtin; refine wpList_app_b rfl (.tmp 65) (.tmp 67) rfl (w10.heap.size + 1) _ b rfl (ho12.ext (Ext.alloc (Ext.refl _) _)) _ [yb] rfl (bs1 w12 yb _ rfl) (by simp; omega) (by rw [← hsz]; exact (Ext.alloc hE12 _).size) ?_; intro A13 c13 w13 ho13 hG13; have hE13 : Ext (w10.alloc (.cells #[.int .i64 0, .int .i64 0, .int .i64 0, .int .i64 0, .bool false] 23)) w13 := hG13 (w10.alloc (.cells #[.int .i64 0, .int .i64 0, .int .i64 0, .int .i64 0, .bool false] 23)) (Ext.alloc hE12 _) (by simp)))
      have hBm : Bs w13 (.slice A13 (b.length + 1) c13) (b ++ [yb]) := SlR.of_own ho13
      have X13 := Ext.trans X10 hE13
      have E13 := Ext.trans E8 X13
      refine (Take_no Hmore.out _ _ (HT.out.ext E13) hBm (by simp; omega)).mono ?_
      rintro e w14 ⟨rfl, hE14⟩
      have X14 : Ext (w10.alloc (.cells #[.int .i64 0, .int .i64 0, .int .i64 0, .int .i64 0, .bool false] 23)) (w14.alloc (.cells #[.int .i64 0, .int .i64 0, .int .i64 0, .int .i64 0, .bool false] 23)) := Ext.alloc (Ext.trans hE13 hE14) _
      have Y14 := Ext.trans X10 X14
      have E14 := Ext.trans E8 Y14
      obtain ⟨b1', o1', rfl, -⟩ := bs_cells hB1 (by omega)
      have hBf : Bs w8 (.slice (some ⟨b1', o1', none⟩) (b.length - 1) c1) (b.take (b.length - 1)) := Bs.take hb18 (b.length - 1) (by omega)
      have hs1 : (b.length : Int) - 1 = ((b.length - 1 : Nat) : Int) := by omega
      obtain ⟨m1, hm1⟩ : ∃ m1, b.length - 1 = m1 := ⟨_, rfl⟩
      have hbm : b.length = m1 + 1 := by omega
      obtain ⟨_, _, e', hle, _⟩ := SlR.open_ hB1
      cases e'
      have hmc : (m1 : Int) ≤ (c1 : Int) := by omega
      rw [hm1] at hBf
      have HBf : Hid (Bs (w14.alloc (.cells #[.int .i64 0, .int .i64 0, .int .i64 0, .int .i64 0, .bool false] 23)) (.slice (some ⟨b1', o1', none⟩) m1 c1) (b.take m1)) := hBf.ext Y14
      have Hfew2 : Hid (takeR (b.take m1) f = none) := by rw [Hid, ← hm1]; exact Hfew.out
      clear hBf hle
      have hb8' := hb8.ext Y14
      have hb10' := hb10.ext X14
      obtain ⟨g0, g1, g2, g3, g4⟩ := blk5 hb8'
      obtain ⟨p0, p1, p2, p3, p4⟩ := blk5 hb10'
      clear obe hG12 hG13 ho12 ho13 hE12 hE13 hsz
      go_wp2_with fail
      refine (Take_no Hfew2.out _ _ (HT.out.ext E14) HBf.out (by rw [List.length_take]; omega)).mono ?_
      rintro e w16 ⟨rfl, hE16⟩
      have X16 : Ext (w14.alloc (.cells #[.int .i64 0, .int .i64 0, .int .i64 0, .int .i64 0, .bool false] 23)) (w16.alloc (.cells #[.int .i64 0, .int .i64 0, .int .i64 0, .int .i64 0, .bool false] 23)) := Ext.alloc hE16 _
      have E16 := Ext.trans E14 X16
      have hb8'' := hb8'.ext X16
      have hb10'' := hb10'.ext X16
      clear g0 g1 g2 g3 g4 p0 p1 p2 p3 p4
      obtain ⟨g0, g1, g2, g3, g4⟩ := blk5 hb8''
      obtain ⟨p0, p1, p2, p3, p4⟩ := blk5 hb10''
      go_wp2_with fail
      refine (wakes9_any _ (HT.out.ext E16)).mono ?_
      rintro e w17 ⟨rfl, hE17⟩
      go_wp2_with fail
      go_ret
      exact ⟨rfl, Ext.trans E16 hE17⟩
end Go.Proofs.YtkpdlkikkcnhiaaDoor

namespace Go.Proofs.YtkpdlkikkcnhiaaDoor.snapHarm
open Go.ChangeShapes Go.WideShapes Go.ChangeAt Go.RowKit Go.Deep Go.Mv Go.WideElems

set_option maxRecDepth 100000 in
theorem lifted (os : Os) (started : os.Started) (H : Type) (enc : TypeId × Value → H) :
    ReturnsInHanded {} Tryd.checked os 4 .any (fun w args => (Rows.snapHarmSpec.pre enc Tryd.prog Tryd.f4 [] false w args ∧ laidMetH Tryd.prog laidL w) ∧ sizedMet enc Tryd.prog Tryd.f4 (OpenSpec.ofChange Rows.snapHarmSpec) false w args)
      (Rows.snapHarmSpec.post enc Tryd.prog Tryd.f4 false true false false) := by
  refine returnsInHanded_of_change_and (C := Tryd.checked) (X := fun w _ => laidMetH Tryd.prog laidL w) (fun _ _ _ hh h => h.of_heap hh) own started (by kernel_rfl) Tryd.func4
    (ChangeSpec.witness_shaped (enc := enc) (C := Tryd.checked) (os := os) (X := fun w _ => laidMetH Tryd.prog laidL w) false (World.doorLaid Tryd.prog 400 os) #[.agg #[.int .i64 0, .int .i64 0, .int .i64 0, .int .i64 0, .bool false], .int .i64 0, .int .i64 0, .int .u8 0] 8 rfl (World.shaped_of_RefB (by kernel_rfl) (by kernel_rfl)) (by kernel_rfl) (by kernel_rfl) (by kernel_rfl) (door_met os _)) ?_
  intro W base args ds gs before hval0 hW _ _ hL _
  have hval : ∀ (j : Nat) t v, Tryd.f4.params[j]? = some t → args[j]? = some v → Value.okWide Tryd.prog W .any base t v := hval0
  have hW' := hW
  have hT := tabW_of_laid hL
  obtain ⟨p, q, hA0, hV, rfl, hfz, hnd⟩ := hW
  have hA : DataW.TrodAll enc Tryd.prog W 0 (fun _ => true) true Tryd.f4.params.toList args.toList ds p := hA0
  rw [Tryd.params4] at hA hval
  obtain ⟨v0, vs0, d0, ds0, p0, q0, hargs, rfl, rfl, h0, r0⟩ := trodAll_cons hA
  obtain ⟨v1, vs1, d1, ds1, p1, q1, rfl, rfl, rfl, h1, r1⟩ := trodAll_cons r0
  obtain ⟨v2, vs2, d2, ds2, p2, q2, rfl, rfl, rfl, h2, r2⟩ := trodAll_cons r1
  obtain ⟨v3, vs3, d3, ds3, p3, q3, rfl, rfl, rfl, h3, r3⟩ := trodAll_cons r2
  obtain ⟨rfl, rfl, rfl⟩ := trodAll_nil r3
  obtain rfl : args = #[v0, v1, v2, v3] := by cases args; simp_all
  obtain ⟨rfl, rfl⟩ := trodVars_none hV
  obtain ⟨s0, rfl⟩ := sta_of_trod (hval 0 23 v0 rfl rfl) h0
  obtain ⟨a1, rfl, rfl, rfl, w1⟩ := open_int Tryd.underlying3 (hval 1 3 v1 rfl rfl) h1
  obtain ⟨a2, rfl, rfl, rfl, w2⟩ := open_int Tryd.underlying3 (hval 2 3 v2 rfl rfl) h2
  obtain ⟨a3, rfl, rfl, rfl, w3⟩ := open_int Tryd.underlying5 (hval 3 5 v3 rfl rfl) h3
  clear hA0 hval0
  simp only [List.append_nil, List.nil_append] at hW'
  refine (SHarm_any s0 a1 a2 a3 W hT w3).mono fun e W' ⟨he, hE⟩ => ?_
  subst he
  exact ⟨_, rfl, post_of_below (pa := _) (pv := []) hW' (fun _ _ _ => trodAll_cons_mk (shut_bool Tryd.underlying4 _) trodAll_mk0)
    (fun sp hsp => (trodAll_cons_mk (WideElems.Trod_stays laidOut (by kernel_rfl) (of_decide_eq_true (by kernel_rfl)) h0 (fun x hx => hE.same (hW'.lt x (by simp [hx]))) (fun x hx => hsp x (by simp [hx]))) (trodAll_cons_mk (shut_int Tryd.underlying3 w1) (trodAll_cons_mk (shut_int Tryd.underlying3 w2) (trodAll_cons_mk (shut_int Tryd.underlying5 w3) trodAll_mk0))))) (fun _ _ => rfl) (by simp) hE (ok_one (by kernel_rfl) rfl (okWide_bool_mk Tryd.underlying4 _))⟩

theorem over : Rows.snapHarmRow.holds Tryd.pinned (OpenSpec.ofChange Rows.snapHarmSpec) :=
  OpenClaim.holds_of_wide 4 Tryd.f4 rfl rfl rfl rfl rfl rfl rfl ⟨rfl, rfl, rfl, rfl, rfl⟩ rfl rfl rfl rfl rfl (by kernel_rfl) Tryd.func4 (by kernel_rfl)
    (of_decide_eq_true (by kernel_rfl)) (by unfold Func.isWrapper; first | (rw [if_pos (by decide +kernel)]; kernel_rfl) | (rw [if_neg (by decide +kernel)]; exact ⟨rfl, rfl⟩))
    (fun os started H enc _ => lifted os started H enc)

theorem proved : Rows.SnapHarmCardSaid :=
  Claim7.holds_tied_plain_at .later [] [.data] true Rows.snapHarmCard.stood.harness false
    over (fun _ h => by cases h) (by kernel_rfl) (fun _ h => by cases h) snapHarm_row_tie rfl ⟨rfl, rfl⟩ (by kernel_rfl) rfl
    (fun f fn hf hfn => by
      obtain rfl : f = 4 := Option.some.inj ((show Tryd.prog.funcNamed "moult/moultlaw09.SnapHarm" = some 4 by kernel_rfl).symm.trans hf) |>.symm
      obtain rfl : fn = Tryd.f4 := (Option.some.inj (Tryd.func4.symm.trans hfn)).symm
      exact ⟨by kernel_rfl, fun j t ht => by
        rw [Tryd.params4] at ht
        have hm : t ∈ [23, 3, 3, 5] := by simpa using Array.mem_of_getElem? ht
        have hall : ([23, 3, 3, 5].all fun u => !Tryd.prog.wantsStandIn u) = true := by kernel_rfl
        exact (show Tryd.prog.wantsStandIn t = false by simpa using List.all_eq_true.1 hall t hm)⟩)
    (by kernel_rfl)
#print axioms proved
end Go.Proofs.YtkpdlkikkcnhiaaDoor.snapHarm
