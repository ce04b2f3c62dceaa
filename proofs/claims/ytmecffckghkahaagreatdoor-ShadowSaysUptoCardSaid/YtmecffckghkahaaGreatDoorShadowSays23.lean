/- Merged: Name Man1 Man2 Man3 -/
import Derived.Test.YtmecffckghkahaaGreatDoorShadowSays22
import Derived.Deep.RegionHeld3
import Derived.Lib.ItoaNum
import Derived.Lib.ItoaLen
import Derived.Lib.AppendIntMem
import Derived.Deep.QuietTactic
import Derived.BigQuiet
set_option linter.all false
set_option maxHeartbeats 8000000
namespace Go.Proofs.YtmecffckghkahaaGreatDoor
open Go.RowKit Go.Mv
set_option maxRecDepth 100000
structure StW (w : World) : Prop where
 tab : TabW rT w
 pow : Lib.TabIs Tryz.prog w "internal/strconv.uint64pow10" .u64 Lib.pow10Tab
theorem StW.ext {w w' : World} (h : StW w) (hE : Ext w w') : StW w' := ⟨h.tab.ext hE, Lib.tabBelow_of_tabIs h.pow w' hE⟩
def sv (l : List UInt8) : Value := .string ⟨l.toArray⟩
abbrev Fil := List UInt8 × List UInt8
def Fs (W : World) (v : Value) (fs : List Fil) : Prop := ∃ vs : List Value, SlR W 2 v fs.length vs ∧ ∀ (i : Nat) (hi : i < fs.length), vs[i * 2]? = some (sv fs[i].1) ∧ ∃ u, vs[i * 2 + 1]? = some u ∧ Bs W u fs[i].2
theorem Fs.ext {w w' : World} {v : Value} {fs : List Fil} (h : Fs w v fs) (hE : Ext w w') : Fs w' v fs := by
 obtain ⟨vs, h1, h2⟩ := h
 refine ⟨vs, h1.ext hE, fun i hi => ?_⟩
 obtain ⟨h3, u, h4, h5⟩ := h2 i hi
 exact ⟨h3, u, h4, h5.ext hE⟩
theorem Fs.keep {w w' : World} {v : Value} {fs : List Fil} (h : Fs w v fs) (hk : ∀ p u, w.cell? p = some u → w'.cell? p = some u) : Fs w' v fs := by
 obtain ⟨vs, h1, h2⟩ := h
 refine ⟨vs, h1.keep hk, fun i hi => ?_⟩
 obtain ⟨h3, u, h4, h5⟩ := h2 i hi
 exact ⟨h3, u, h4, SlR.keep h5 hk⟩
theorem Fs.open_ {W : World} {v : Value} {fs : List Fil} (h : Fs W v fs) : ∃ A c, v = .slice A fs.length c ∧ fs.length ≤ c ∧ c ≤ 9223372036854775807 := by
 obtain ⟨vs, h1, _⟩ := h
 exact SlR.open_ h1
theorem Fs.at_ {W : World} {A : Option Addr} {m c : Nat} {fs : List Fil} (h : Fs W (.slice A m c) fs) (hn : 0 < fs.length) : m = fs.length ∧ ∃ b off, A = some ⟨b, off, none⟩ ∧ ∀ (k : Nat) (hk : k < fs.length),
  W.cell? ⟨b, off + k * 2, none⟩ = some (sv fs[k].1) ∧ ∃ B d, W.cell? ⟨b, off + k * 2 + 1, none⟩ = some (.slice B fs[k].2.length d) ∧ Bs W (.slice B fs[k].2.length d) fs[k].2 := by
 obtain ⟨vs, h1, h2⟩ := h
 obtain ⟨rfl, b, off, rfl, hc⟩ := SlR.at_ h1 hn
 refine ⟨rfl, b, off, rfl, fun k hk => ?_⟩
 obtain ⟨h3, u, h4, h5⟩ := h2 k hk
 obtain ⟨B, d, rfl, _, _⟩ := SlR.open_ h5
 exact ⟨hc (k * 2) _ h3, B, d, by rw [Nat.add_assoc]; exact hc (k * 2 + 1) _ h4, h5⟩
def mayB (k s f : Int) : Bool := if k = 1 ∨ k = 2 then decide (s = 0 ∧ f = 0) else decide ((k = 3 ∨ k = 4) ∧ 1 ≤ s ∧ s ≤ 1073741824 ∧ (f = 1 ∨ f = 2))
def numN (n : Int) : List UInt8 := Lib.decDigits n.toNat
def nameN (k s f : Int) : List UInt8 := if k = 1 then [77] else if k = 2 then [77, 46, 110, 101, 119] else (if k = 3 then 115 else 112) :: (numN s ++ 46 :: numN f)
def nameS (k s f : Int) : Option (List UInt8) := if mayB k s f = true then some (nameN k s f) else none
def NameP (w : World) (r : Option (List UInt8)) (e : Ending) (w' : World) : Prop := e = .returned (.tuple #[sv (r.getD []), .int .i64 (if r.isSome = true then 0 else 2)]) ∧ Ext w w'
theorem Itoa_to (n : Int) (h0 : 0 ≤ n) (h1 : n ≤ 1073741824) (w : World) (hS : StW w) : Calls Tryz.prog 28 #[.int .i64 n] w fun e w' => e = .returned (.string ⟨(numN n).toArray⟩) ∧ Ext w w' := by
 refine (Tryz.strconv_Itoa n (by omega) (by omega) w hS.pow).mono ?_
 rintro e w' ⟨rfl, k, os, rfl⟩
 refine ⟨?_, ?_⟩
 ·have : Lib.itoa n = numN n := by
   obtain ⟨m, rfl⟩ : ∃ m : Nat, n = m := ⟨n.toNat, by omega⟩
   rw [Lib.itoa_nonneg]
   unfold numN
   rw [Int.toNat_natCast]
  rw [this]
 ·exact Lib.below_grow _ _ (Nat.le_refl _) _ _
theorem May_any (k s f : Int) (w : World) : Calls Tryz.prog 27 #[.agg #[.int .u8 k, .int .i64 s, .int .i64 f]] w fun e w' => e = .returned (.bool (mayB k s f)) ∧ Ext w w' := by
 go_enter Tryz.func27, Tryz.ntmps27
 go_wp2_with fail
 all_goals go_ret
 all_goals refine ⟨ret_bool ?_, Ext.alloc (Ext.refl _) _⟩
 all_goals (rw [Bool.eq_iff_iff]; unfold mayB; split <;> simp_all <;> omega)
theorem numN_len (n : Int) (h0 : 1 ≤ n) (h1 : n ≤ 1073741824) : (numN n).length ≤ 21 := by
 have h := Lib.itoa_length_le n (by omega) (by omega)
 obtain ⟨m, rfl⟩ : ∃ m : Nat, n = m := ⟨n.toNat, by omega⟩
 rw [Lib.itoa_nonneg] at h
 unfold numN
 rw [Int.toNat_natCast]
 exact h
theorem Itoa_small (i : Int) (hi : i = 1 ∨ i = 2) (w : World) : Calls Tryz.prog 28 #[.int .i64 i] w fun e w' => e = .returned (.string ⟨(numN i).toArray⟩) ∧ w = w' := by
 rcases hi with rfl | rfl
 ·exact (Tryz.strconv_Itoa_small 1 (by decide) w).mono (by rintro e w' ⟨rfl, rfl⟩; exact ⟨rfl, rfl⟩)
 ·exact (Tryz.strconv_Itoa_small 2 (by decide) w).mono (by rintro e w' ⟨rfl, rfl⟩; exact ⟨rfl, rfl⟩)
def letterN (k : Int) : List UInt8 := if k = 3 then [115] else if k = 4 then [112] else []
def plainN (k : Int) : List UInt8 := if k = 1 then [77] else if k = 2 then [77, 46, 110, 101, 119] else []
theorem letterOf_any (k : Int) (w : World) : Calls Tryz.prog 74 #[.int .u8 k] w fun e w' => e = .returned (sv (letterN k)) ∧ w = w' := by
 by_cases h3 : k = 3
 ·subst h3
  go_enter Tryz.func74, Tryz.ntmps74
  go_wp2_with fail
  go_ret
  exact ⟨rfl, rfl⟩
 ·by_cases h4 : k = 4
  ·subst h4
   go_enter Tryz.func74, Tryz.ntmps74
   go_wp2_with fail
   go_ret
   exact ⟨rfl, rfl⟩
  ·have hl : letterN k = [] := by unfold letterN; rw [if_neg h3, if_neg h4]
   go_enter Tryz.func74, Tryz.ntmps74
   go_wp2_with fail
   go_ret
   exact ⟨by rw [hl]; rfl, rfl⟩
theorem plainOf_any (k : Int) (w : World) : Calls Tryz.prog 75 #[.int .u8 k] w fun e w' => e = .returned (sv (plainN k)) ∧ w = w' := by
 by_cases h3 : k = 1
 ·subst h3
  go_enter Tryz.func75, Tryz.ntmps75
  go_wp2_with fail
  go_ret
  exact ⟨rfl, rfl⟩
 ·by_cases h4 : k = 2
  ·subst h4
   go_enter Tryz.func75, Tryz.ntmps75
   go_wp2_with fail
   go_ret
   exact ⟨rfl, rfl⟩
  ·have hl : plainN k = [] := by unfold plainN; rw [if_neg h3, if_neg h4]
   go_enter Tryz.func75, Tryz.ntmps75
   go_wp2_with fail
   go_ret
   exact ⟨by rw [hl]; rfl, rfl⟩
theorem str4 (a : UInt8) (ns nf : List UInt8) : ((ByteArray.mk #[a] ++ ByteArray.mk ns.toArray) ++ ByteArray.mk #[46]) ++ ByteArray.mk nf.toArray = ByteArray.mk (a :: (ns ++ 46 :: nf)).toArray := by
 apply ByteArray.ext
 simp [ByteArray.data_append]
theorem blkI {W : World} {b : Nat} {t : TypeId} {a v u : Value} (h : Blk W b t #[a, v, u]) : W.cell? ⟨b, 0, none⟩ = some a ∧ W.cell? ⟨b, 1, none⟩ = some v ∧ W.cell? ⟨b, 2, none⟩ = some u :=
 ⟨h.cell 0 rfl, h.cell 1 rfl, h.cell 2 rfl⟩
theorem refName_any (k s f : Int) (w : World) (hS : StW w) : Calls Tryz.prog 12 #[.agg #[.int .u8 k, .int .i64 s, .int .i64 f]] w (NameP w (nameS k s f)) := by
 have HS := Lib.hid hS
 clear hS
 have hb := Blk.new w 40 #[.int .u8 k, .int .i64 s, .int .i64 f]
 have hX : Ext w (w.alloc (.cells #[.int .u8 k, .int .i64 s, .int .i64 f] 40)) := Ext.alloc (Ext.refl _) _
 by_cases hm : mayB k s f = true
 case neg =>
  have hn : nameS k s f = none := by unfold nameS; rw [if_neg hm]
  have Hn := Lib.hid hn
  have Hm := Lib.hid (Bool.eq_false_iff.2 hm)
  clear hn hm
  go_enter Tryz.func12, Tryz.ntmps12
  go_wp2_with fail
  refine (May_any k s f _).mono ?_
  rw [Hm.out]
  rintro e w1 ⟨rfl, hE1⟩
  go_wp2_with fail
  go_ret2
  exact ⟨by rw [Hn.out]; rfl, Ext.trans hX hE1⟩
 case pos =>
  have hn : nameS k s f = some (nameN k s f) := by unfold nameS; rw [if_pos hm]
  have Hn := Lib.hid hn
  have Hm := Lib.hid hm
  clear hn
  rcases (by unfold mayB at hm; split at hm <;> simp at hm <;> omega : k = 1 ∨ k = 2 ∨ ((k = 3 ∨ k = 4) ∧ 1 ≤ s ∧ s ≤ 1073741824 ∧ (f = 1 ∨ f = 2))) with rfl | rfl | ⟨hk, hs0, hs1, hf⟩
  ·clear hm
   go_enter Tryz.func12, Tryz.ntmps12
   go_wp2_with fail
   refine (May_any _ s f _).mono ?_
   rw [Hm.out]
   rintro e w1 ⟨rfl, hE1⟩
   obtain ⟨g0, g1, g2⟩ := blkI (hb.ext hE1)
   go_wp2_with fail
   go_ret2
   exact ⟨by rw [Hn.out]; rfl, Ext.trans hX hE1⟩
  ·clear hm
   go_enter Tryz.func12, Tryz.ntmps12
   go_wp2_with fail
   refine (May_any _ s f _).mono ?_
   rw [Hm.out]
   rintro e w1 ⟨rfl, hE1⟩
   obtain ⟨g0, g1, g2⟩ := blkI (hb.ext hE1)
   go_wp2_with fail
   go_ret2
   exact ⟨by rw [Hn.out]; rfl, Ext.trans hX hE1⟩
  ·clear hm
   have hls := numN_len s hs0 hs1
   have hlf := numN_len f (by omega) (by omega)
   have ho1 := fun W => Itoa_to s (by omega) hs1 W
   have ho2 := fun W => Itoa_small f hf W
   have hnm : nameN k s f = (if k = 3 then 115 else 112) :: (numN s ++ 46 :: numN f) := by unfold nameN; rw [if_neg (by omega), if_neg (by omega)]
   rw [hnm] at Hn
   generalize numN s = ns at *
   generalize numN f = nf at *
   have O1 := Lib.hid ho1
   have O2 := Lib.hid ho2
   have c1 : ¬ (9223372036854775807 < 1 + ns.length) := by omega
   have c2 : ¬ (9223372036854775807 < 1 + ns.length + 1) := by omega
   have c3 : ¬ (9223372036854775807 < 1 + ns.length + 1 + nf.length) := by omega
   clear ho1 ho2 hnm
   rcases hk with rfl | rfl
   ·have Hn : Hid (nameS 3 s f = some (115 :: (ns ++ 46 :: nf))) := Lib.hid (by have h := Hn.out; simpa using h)
    go_enter Tryz.func12, Tryz.ntmps12
    go_wp2_with fail
    refine (May_any _ s f _).mono ?_
    rw [Hm.out]
    rintro e w1 ⟨rfl, hE1⟩
    have hb1 := hb.ext hE1
    obtain ⟨g0, g1, g2⟩ := blkI hb1
    go_wp2_with fail
    go_region_held3 (fun w' => w'.cell? ⟨w.heap.size, 1, none⟩ = some (.int .i64 s) ∧ w'.cell? ⟨w.heap.size, 2, none⟩ = some (.int .i64 f)) (first | go_keep | (refine ⟨?_, ?_⟩ <;> assumption))
     (first
       | (go_at_call 28; refine (O1.out _ (HS.out.ext (Ext.trans hX (Ext.drew hE1)))).mono ?_; rintro e w2 ⟨rfl, hE2⟩; obtain ⟨_, k1, k2⟩ := blkI (hb1.ext (Ext.trans (Ext.drew (Ext.refl _)) hE2)))
       | (go_at_call 28; refine (O2.out _).mono ?_; rintro e w3 ⟨rfl, rfl⟩))
    go_wp2_with fail
    go_ret2
    refine ⟨?_, Ext.trans hX (Ext.trans (Ext.drew hE1) hE2)⟩
    rw [Hn.out, str4]
    rfl
   ·have Hn : Hid (nameS 4 s f = some (112 :: (ns ++ 46 :: nf))) := Lib.hid (by have h := Hn.out; simpa using h)
    go_enter Tryz.func12, Tryz.ntmps12
    go_wp2_with fail
    refine (May_any _ s f _).mono ?_
    rw [Hm.out]
    rintro e w1 ⟨rfl, hE1⟩
    have hb1 := hb.ext hE1
    obtain ⟨g0, g1, g2⟩ := blkI hb1
    go_wp2_with fail
    go_region_held3 (fun w' => w'.cell? ⟨w.heap.size, 1, none⟩ = some (.int .i64 s) ∧ w'.cell? ⟨w.heap.size, 2, none⟩ = some (.int .i64 f)) (first | go_keep | (refine ⟨?_, ?_⟩ <;> assumption))
     (first
       | (go_at_call 28; refine (O1.out _ (HS.out.ext (Ext.trans hX (Ext.drew hE1)))).mono ?_; rintro e w2 ⟨rfl, hE2⟩; obtain ⟨_, k1, k2⟩ := blkI (hb1.ext (Ext.trans (Ext.drew (Ext.refl _)) hE2)))
       | (go_at_call 28; refine (O2.out _).mono ?_; rintro e w3 ⟨rfl, rfl⟩))
    go_wp2_with fail
    go_ret2
    refine ⟨?_, Ext.trans hX (Ext.trans (Ext.drew hE1) hE2)⟩
    rw [Hn.out, str4]
    rfl
theorem nameS_plain (k s f : Int) : nameS k s f = if plainN k ≠ [] ∧ s = 0 ∧ f = 0 then some (plainN k) else if letterN k = [] ∨ s < 1 ∨ 1073741824 < s ∨ f < 1 ∨ 2 < f then none else some (letterN k ++ (numN s ++ 46 :: numN f)) := by
 by_cases h1 : k = 1
 ·subst h1
  by_cases h : s = 0 ∧ f = 0
  ·obtain ⟨rfl, rfl⟩ := h; rfl
  ·rw [if_neg (by simp [plainN]; exact fun h2 h3 => h ⟨h2, h3⟩), if_pos (by simp [letterN])]
   unfold nameS mayB
   rw [if_neg (by simp; exact fun h2 h3 => h ⟨h2, h3⟩)]
 ·by_cases h2 : k = 2
  ·subst h2
   by_cases h : s = 0 ∧ f = 0
   ·obtain ⟨rfl, rfl⟩ := h; rfl
   ·rw [if_neg (by simp [plainN]; exact fun h2 h3 => h ⟨h2, h3⟩), if_pos (by simp [letterN])]
    unfold nameS mayB
    rw [if_neg (by simp; exact fun h2 h3 => h ⟨h2, h3⟩)]
  ·rw [if_neg (by simp [plainN, h1, h2])]
   have hm : mayB k s f = decide ((k = 3 ∨ k = 4) ∧ 1 ≤ s ∧ s ≤ 1073741824 ∧ (f = 1 ∨ f = 2)) := by unfold mayB; rw [if_neg (by omega)]
   have hn : nameN k s f = (if k = 3 then 115 else 112) :: (numN s ++ 46 :: numN f) := by unfold nameN; rw [if_neg h1, if_neg h2]
   unfold nameS letterN
   rw [hm, hn]
   by_cases h3 : k = 3
   ·subst h3
    by_cases h : 1 ≤ s ∧ s ≤ 1073741824 ∧ (f = 1 ∨ f = 2)
    ·obtain ⟨ha, hb, hc⟩ := h
     rcases hc with rfl | rfl <;> simp [ha, hb] <;> omega
    ·rw [if_neg (by simp; omega), if_pos (by simp; omega)]
   ·by_cases h4 : k = 4
    ·subst h4
     by_cases h : 1 ≤ s ∧ s ≤ 1073741824 ∧ (f = 1 ∨ f = 2)
     ·obtain ⟨ha, hb, hc⟩ := h
      rcases hc with rfl | rfl <;> simp [ha, hb] <;> omega
     ·rw [if_neg (by simp; omega), if_pos (by simp; omega)]
    ·rw [if_neg (by simp; omega), if_pos (by simp [h3, h4])]
theorem plainN_cases (k : Int) : (k = 1 ∧ plainN k = [77] ∧ letterN k = []) ∨ (k = 2 ∧ plainN k = [77, 46, 110, 101, 119] ∧ letterN k = []) ∨ (k = 3 ∧ plainN k = [] ∧ letterN k = [115]) ∨ (k = 4 ∧ plainN k = [] ∧ letterN k = [112]) ∨ (plainN k = [] ∧ letterN k = []) := by
 by_cases h1 : k = 1
 ·subst h1; exact .inl ⟨rfl, rfl, rfl⟩
 ·by_cases h2 : k = 2
  ·subst h2; exact .inr (.inl ⟨rfl, rfl, rfl⟩)
  ·by_cases h3 : k = 3
   ·subst h3; exact .inr (.inr (.inl ⟨rfl, rfl, rfl⟩))
   ·by_cases h4 : k = 4
    ·subst h4; exact .inr (.inr (.inr (.inl ⟨rfl, rfl, rfl⟩)))
    ·exact .inr (.inr (.inr (.inr ⟨by unfold plainN; rw [if_neg h1, if_neg h2], by unfold letterN; rw [if_neg h3, if_neg h4]⟩)))
theorem Name_any (k s f : Int) (w : World) (hS : StW w) : Calls Tryz.prog 58 #[.agg #[.int .u8 k, .int .i64 s, .int .i64 f]] w (NameP w (nameS k s f)) := by
 have HS := Lib.hid hS
 clear hS
 have hb := Blk.new w 40 #[.int .u8 k, .int .i64 s, .int .i64 f]
 have hX : Ext w (w.alloc (.cells #[.int .u8 k, .int .i64 s, .int .i64 f] 40)) := Ext.alloc (Ext.refl _) _
 rw [nameS_plain]
 obtain ⟨pl, hpl⟩ : ∃ pl, plainN k = pl := ⟨_, rfl⟩
 obtain ⟨le, hle⟩ : ∃ le, letterN k = le := ⟨_, rfl⟩
 have hcs := plainN_cases k
 rw [hpl, hle] at hcs ⊢
 have L1 := fun W => letterOf_any k W
 have L2 := fun W => plainOf_any k W
 rw [hpl] at L2
 rw [hle] at L1
 have O1 := Lib.hid L1
 have O2 := Lib.hid L2
 clear L1 L2 hpl hle
 obtain ⟨R, hR⟩ : ∃ R, (if pl ≠ [] ∧ s = 0 ∧ f = 0 then some pl else if le = [] ∨ s < 1 ∨ 1073741824 < s ∨ f < 1 ∨ 2 < f then none else some (le ++ (numN s ++ 46 :: numN f))) = R := ⟨_, rfl⟩
 rw [hR]
 have HR := Lib.hid hR
 clear hR
 have hD : Ext w (w.alloc (.cells #[.int .u8 k, .int .i64 s, .int .i64 f] 40)).drew := Ext.drew hX
 go_enter Tryz.func58, Tryz.ntmps58
 go_wp2_with fail
 go_region_held3 (fun w' => w'.cell? ⟨w.heap.size, 0, none⟩ = some (.int .u8 k)) (first | go_keep | assumption)
  (first
    | (go_at_call 74; refine (O1.out _).mono ?_; rintro e w2 ⟨rfl, rfl⟩)
    | (go_at_call 75; refine (O2.out _).mono ?_; rintro e w3 ⟨rfl, rfl⟩))
 clear O1 O2
 simp only [sv]
 rcases hcs with ⟨rfl, rfl, rfl⟩ | ⟨rfl, rfl, rfl⟩ | ⟨rfl, rfl, rfl⟩ | ⟨rfl, rfl, rfl⟩ | ⟨rfl, rfl⟩
 ·by_cases hz : s = 0 ∧ f = 0
  ·obtain ⟨rfl, rfl⟩ := hz
   have hR : R = some [77] := HR.out.symm
   have HR2 := Lib.hid hR
   clear HR hR
   go_wp2_with fail
   go_ret2
   exact ⟨by rw [HR2.out]; rfl, hD⟩
  ·have hR : R = none := by rw [← HR.out, if_neg (fun h => hz h.2), if_pos (.inl rfl)]
   have HR2 := Lib.hid hR
   clear HR hR
   go_wp2_with fail
   all_goals (first | (exfalso; exact hz ⟨by assumption, by assumption⟩) | (exfalso; simp_all; done) | (go_ret2; refine ⟨by rw [HR2.out]; rfl, ?_⟩; first | exact hD | (have e0 : s = 0 := (by assumption); subst e0; exact hD)))
 ·by_cases hz : s = 0 ∧ f = 0
  ·obtain ⟨rfl, rfl⟩ := hz
   have hR : R = some [77, 46, 110, 101, 119] := HR.out.symm
   have HR2 := Lib.hid hR
   clear HR hR
   go_wp2_with fail
   go_ret2
   exact ⟨by rw [HR2.out]; rfl, hD⟩
  ·have hR : R = none := by rw [← HR.out, if_neg (fun h => hz h.2), if_pos (.inl rfl)]
   have HR2 := Lib.hid hR
   clear HR hR
   go_wp2_with fail
   all_goals (first | (exfalso; exact hz ⟨by assumption, by assumption⟩) | (exfalso; simp_all; done) | (go_ret2; refine ⟨by rw [HR2.out]; rfl, ?_⟩; first | exact hD | (have e0 : s = 0 := (by assumption); subst e0; exact hD)))
 ·by_cases hz : 1 ≤ s ∧ s ≤ 1073741824 ∧ (f = 1 ∨ f = 2)
  ·have hR : R = some (115 :: (numN s ++ 46 :: numN f)) := by
    rw [← HR.out, if_neg (fun h => h.1 rfl), if_neg (by rintro (h | h | h | h | h) <;> first | (cases h; done) | omega)]
    rfl
   obtain ⟨hs0, hs1, hf⟩ := hz
   have hls := numN_len s hs0 hs1
   have hlf := numN_len f (by omega) (by omega)
   have ho1 := fun W => Itoa_to s (by omega) hs1 W
   have ho2 := fun W => Itoa_small f hf W
   generalize numN s = ns at *
   generalize numN f = nf at *
   have O1 := Lib.hid ho1
   have O2 := Lib.hid ho2
   have HR2 := Lib.hid hR
   have c1 : ¬ (9223372036854775807 < 1 + ns.length) := by omega
   have c2 : ¬ (9223372036854775807 < 1 + ns.length + 1) := by omega
   have c3 : ¬ (9223372036854775807 < 1 + ns.length + 1 + nf.length) := by omega
   have d1 : ¬ (s < 1) := by omega
   have d2 : ¬ (1073741824 < s) := by omega
   have d3 : ¬ (f < 1) := by omega
   have d4 : ¬ (2 < f) := by omega
   clear ho1 ho2 HR hR
   obtain ⟨g0, g1, g2⟩ := blkI hb
   go_wp2_with fail
   go_region_held3 (fun w' => w'.cell? ⟨w.heap.size, 1, none⟩ = some (.int .i64 s) ∧ w'.cell? ⟨w.heap.size, 2, none⟩ = some (.int .i64 f)) (first | go_keep | (refine ⟨?_, ?_⟩ <;> assumption))
    (first
      | (go_at_call 28; refine (O1.out _ (HS.out.ext (Ext.drew (Ext.drew hX)))).mono ?_; rintro e w2 ⟨rfl, hE2⟩; obtain ⟨_, k1, k2⟩ := blkI (hb.ext (Ext.trans (Ext.drew (Ext.drew (Ext.refl _))) hE2)))
      | (go_at_call 28; refine (O2.out _).mono ?_; rintro e w3 ⟨rfl, rfl⟩))
   go_wp2_with fail
   go_ret2
   refine ⟨?_, Ext.trans hX (Ext.trans (Ext.drew (Ext.drew (Ext.refl _))) hE2)⟩
   rw [HR2.out, str4]
   rfl
  ·have hR : R = none := by rw [← HR.out, if_neg (fun h => h.1 rfl), if_pos (by omega)]
   have HR2 := Lib.hid hR
   clear HR hR
   go_wp2_with fail
   all_goals (first | (exfalso; omega) | (go_ret2; exact ⟨by rw [HR2.out]; rfl, hD⟩))
 ·by_cases hz : 1 ≤ s ∧ s ≤ 1073741824 ∧ (f = 1 ∨ f = 2)
  ·have hR : R = some (112 :: (numN s ++ 46 :: numN f)) := by
    rw [← HR.out, if_neg (fun h => h.1 rfl), if_neg (by rintro (h | h | h | h | h) <;> first | (cases h; done) | omega)]
    rfl
   obtain ⟨hs0, hs1, hf⟩ := hz
   have hls := numN_len s hs0 hs1
   have hlf := numN_len f (by omega) (by omega)
   have ho1 := fun W => Itoa_to s (by omega) hs1 W
   have ho2 := fun W => Itoa_small f hf W
   generalize numN s = ns at *
   generalize numN f = nf at *
   have O1 := Lib.hid ho1
   have O2 := Lib.hid ho2
   have HR2 := Lib.hid hR
   have c1 : ¬ (9223372036854775807 < 1 + ns.length) := by omega
   have c2 : ¬ (9223372036854775807 < 1 + ns.length + 1) := by omega
   have c3 : ¬ (9223372036854775807 < 1 + ns.length + 1 + nf.length) := by omega
   have d1 : ¬ (s < 1) := by omega
   have d2 : ¬ (1073741824 < s) := by omega
   have d3 : ¬ (f < 1) := by omega
   have d4 : ¬ (2 < f) := by omega
   clear ho1 ho2 HR hR
   obtain ⟨g0, g1, g2⟩ := blkI hb
   go_wp2_with fail
   go_region_held3 (fun w' => w'.cell? ⟨w.heap.size, 1, none⟩ = some (.int .i64 s) ∧ w'.cell? ⟨w.heap.size, 2, none⟩ = some (.int .i64 f)) (first | go_keep | (refine ⟨?_, ?_⟩ <;> assumption))
    (first
      | (go_at_call 28; refine (O1.out _ (HS.out.ext (Ext.drew (Ext.drew hX)))).mono ?_; rintro e w2 ⟨rfl, hE2⟩; obtain ⟨_, k1, k2⟩ := blkI (hb.ext (Ext.trans (Ext.drew (Ext.drew (Ext.refl _))) hE2)))
      | (go_at_call 28; refine (O2.out _).mono ?_; rintro e w3 ⟨rfl, rfl⟩))
   go_wp2_with fail
   go_ret2
   refine ⟨?_, Ext.trans hX (Ext.trans (Ext.drew (Ext.drew (Ext.refl _))) hE2)⟩
   rw [HR2.out, str4]
   rfl
  ·have hR : R = none := by rw [← HR.out, if_neg (fun h => h.1 rfl), if_pos (by omega)]
   have HR2 := Lib.hid hR
   clear HR hR
   go_wp2_with fail
   all_goals (first | (exfalso; omega) | (go_ret2; exact ⟨by rw [HR2.out]; rfl, hD⟩))
 ·have hR : R = none := HR.out.symm
  have HR2 := Lib.hid hR
  clear HR hR
  go_wp2_with fail
  go_ret2
  exact ⟨by rw [HR2.out]; rfl, hD⟩
open Go.RowKit Go.Mv
set_option maxRecDepth 100000
structure Sg4 where
 seq : Int
 fmt : Int
 first : Int
 count : Int
deriving DecidableEq
def Sg4.cells (s : Sg4) : List Value := [.int .i64 s.seq, .int .i64 s.fmt, .int .i64 s.first, .int .i64 s.count]
def sgCells (l : List Sg4) : List Value := l.flatMap Sg4.cells
theorem sgCells_len (l : List Sg4) : (sgCells l).length = l.length * 4 := by
 induction l with
 | nil => rfl
 | cons e l ih => simp [sgCells, Sg4.cells] at ih ⊢; omega
def Sgs (w : World) (v : Value) (l : List Sg4) : Prop := SlR w 4 v l.length (sgCells l)
theorem Sgs.ext {w w' : World} {v : Value} {l : List Sg4} (h : Sgs w v l) (he : Ext w w') : Sgs w' v l := SlR.ext h he
theorem Sgs.open_ {W : World} {v : Value} {l : List Sg4} (h : Sgs W v l) : ∃ A c, v = .slice A l.length c ∧ l.length ≤ c ∧ c ≤ 9223372036854775807 := SlR.open_ h
theorem Sgs.nil (w : World) : Sgs w (.slice none 0 0) [] := SlR.nil w 4
theorem sgCells_at (l : List Sg4) (k : Nat) (h : k < l.length) (i : Nat) (hi : i < 4) : (sgCells l)[k * 4 + i]? = l[k].cells[i]? := by
 induction l generalizing k with
 | nil => simp at h
 | cons e l ih =>
  rw [show sgCells (e :: l) = e.cells ++ sgCells l from rfl]
  have hl : e.cells.length = 4 := rfl
  cases k with
  | zero => rw [List.getElem?_append_left (by omega)]; simp
  | succ k =>
   rw [List.getElem?_append_right (by omega), hl, show (k + 1) * 4 + i - 4 = k * 4 + i from by omega]
   simpa using ih k (by simpa using h)
theorem Sgs.at_ {w : World} {A : Option Addr} {m c : Nat} {l : List Sg4} (h : Sgs w (.slice A m c) l) (hn : 0 < l.length) : m = l.length ∧ ∃ b off, A = some ⟨b, off, none⟩ ∧ ∀ (k : Nat) (hk : k < l.length),
  w.cell? ⟨b, off + k * 4, none⟩ = some (.int .i64 l[k].seq) ∧ w.cell? ⟨b, off + k * 4 + 1, none⟩ = some (.int .i64 l[k].fmt) ∧ w.cell? ⟨b, off + k * 4 + 2, none⟩ = some (.int .i64 l[k].first) ∧ w.cell? ⟨b, off + k * 4 + 3, none⟩ = some (.int .i64 l[k].count) := by
 obtain ⟨rfl, b, off, rfl, hc⟩ := SlR.at_ h hn
 refine ⟨rfl, b, off, rfl, fun k hk => ⟨?_, ?_, ?_, ?_⟩⟩
 ·exact hc (k * 4) _ (sgCells_at l k hk 0 (by omega))
 ·exact hc (k * 4 + 1) _ (sgCells_at l k hk 1 (by omega))
 ·exact hc (k * 4 + 2) _ (sgCells_at l k hk 2 (by omega))
 ·exact hc (k * 4 + 3) _ (sgCells_at l k hk 3 (by omega))
structure Mf where
 next : Int
 term : Int
 vote : Int
 sq : Int
 sf : Int
 segs : List Sg4
deriving DecidableEq
def inB (n lo hi : Int) : Bool := decide (lo ≤ n ∧ n ≤ hi)
def fileOk (next seq fmt : Int) : Bool := decide (1 ≤ seq ∧ seq ≤ next - 1 ∧ (fmt = 1 ∨ fmt = 2))
def segOk (m : Mf) (i : Nat) (s : Sg4) : Bool :=
 fileOk m.next s.seq s.fmt && decide (s.seq ≠ m.sq) && inB s.first 1 1073741820 && (m.segs.take i).all (fun t => decide (t.seq ≠ s.seq)) &&
 (match m.segs[i - 1]? with | none => true | some p => decide (i = 0 ∨ s.first = p.first + p.count)) && (inB s.count 1 4 || (decide (s.count = -1) && decide (i + 1 = m.segs.length)))
def headOk (m : Mf) : Bool := inB m.next 1 1073741824 && inB m.term 0 1073741824 && inB m.vote 0 5 && decide (m.segs.length ≤ 60)
def snapOk (m : Mf) : Bool := decide (m.sq = 0 ∧ m.sf = 0) || fileOk m.next m.sq m.sf
def segsOk (m : Mf) : Nat → Bool
 | 0 => true
 | k + 1 => segsOk m k && (match m.segs[k]? with | none => false | some s => segOk m k s)
def checkM (m : Mf) : Bool := headOk m && snapOk m && segsOk m m.segs.length
theorem within_any (n lo hi : Int) (w : World) : Calls Tryz.prog 52 #[.int .i64 n, .int .i64 lo, .int .i64 hi] w fun e w' => e = .returned (.bool (inB n lo hi)) ∧ w = w' := by
 go_enter Tryz.func52, Tryz.ntmps52
 go_wp2_with fail
 all_goals go_ret
 all_goals exact ⟨ret_bool (by rw [Bool.eq_iff_iff]; unfold inB; simp; omega), rfl⟩
theorem blk6 {W : World} {b : Nat} {t : TypeId} {a v u x y z : Value} (h : Blk W b t #[a, v, u, x, y, z]) : W.cell? ⟨b, 0, none⟩ = some a ∧ W.cell? ⟨b, 1, none⟩ = some v ∧ W.cell? ⟨b, 2, none⟩ = some u ∧ W.cell? ⟨b, 3, none⟩ = some x ∧ W.cell? ⟨b, 4, none⟩ = some y ∧ W.cell? ⟨b, 5, none⟩ = some z :=
 ⟨h.cell 0 rfl, h.cell 1 rfl, h.cell 2 rfl, h.cell 3 rfl, h.cell 4 rfl, h.cell 5 rfl⟩
theorem blk4c {W : World} {b : Nat} {t : TypeId} {a v u x : Value} (h : Blk W b t #[a, v, u, x]) : W.cell? ⟨b, 0, none⟩ = some a ∧ W.cell? ⟨b, 1, none⟩ = some v ∧ W.cell? ⟨b, 2, none⟩ = some u ∧ W.cell? ⟨b, 3, none⟩ = some x :=
 ⟨h.cell 0 rfl, h.cell 1 rfl, h.cell 2 rfl, h.cell 3 rfl⟩
theorem file11_any (next term vote sq sf : Int) (v : Value) (seq fmt : Int) (hn : 1 ≤ next ∧ next ≤ 1073741824) (w : World) :
  Calls Tryz.prog 53 #[.agg #[.int .i64 next, .int .i64 term, .int .i64 vote, .int .i64 sq, .int .i64 sf, v], .int .i64 seq, .int .i64 fmt] w fun e w' => e = .returned (.bool (fileOk next seq fmt)) ∧ Ext w w' := by
 have h1 : IntKind.i64.wrap (next - 1) = next - 1 := by rw [IntKind.wrap_i64]; omega
 obtain ⟨h2, h3⟩ := hn
 go_enter Tryz.func53, Tryz.ntmps53
 go_wp2_with (go_at_call 52; refine (within_any _ _ _ _).mono ?_; rintro e w1 ⟨rfl, rfl⟩)
 all_goals go_ret
 all_goals refine ⟨ret_bool ?_, Ext.alloc (Ext.refl _) _⟩
 all_goals (rw [Bool.eq_iff_iff]; simp [fileOk, inB] at *; omega)
theorem edrewN {a b : World} (h : Ext a b) (n : Nat) : Ext a (b.drewN n) := bdrewN h n
theorem segCells {w w' : World} {b off : Nat} {l : List Sg4} (he : Ext w w') (h : ∀ (k : Nat) (hk : k < l.length),
   w.cell? ⟨b, off + k * 4, none⟩ = some (.int .i64 l[k].seq) ∧ w.cell? ⟨b, off + k * 4 + 1, none⟩ = some (.int .i64 l[k].fmt) ∧ w.cell? ⟨b, off + k * 4 + 2, none⟩ = some (.int .i64 l[k].first) ∧ w.cell? ⟨b, off + k * 4 + 3, none⟩ = some (.int .i64 l[k].count)) :
  ∀ (k : Nat) (hk : k < l.length),
   w'.cell? ⟨b, off + k * 4, none⟩ = some (.int .i64 l[k].seq) ∧ w'.cell? ⟨b, off + k * 4 + 1, none⟩ = some (.int .i64 l[k].fmt) ∧ w'.cell? ⟨b, off + k * 4 + 2, none⟩ = some (.int .i64 l[k].first) ∧ w'.cell? ⟨b, off + k * 4 + 3, none⟩ = some (.int .i64 l[k].count) :=
 fun k hk => ⟨he.cell (h k hk).1, he.cell (h k hk).2.1, he.cell (h k hk).2.2.1, he.cell (h k hk).2.2.2⟩
theorem seg_any (m : Mf) (v : Value) (i : Nat) (hi : i < m.segs.length) (hlen : m.segs.length ≤ 60) (hn : 1 ≤ m.next ∧ m.next ≤ 1073741824) (hprev : ∀ t ∈ m.segs.take i, 1 ≤ t.first ∧ t.first ≤ 1073741820 ∧ -1 ≤ t.count ∧ t.count ≤ 4) (w : World) (hS : Sgs w v m.segs) :
  Calls Tryz.prog 54 #[.agg #[.int .i64 m.next, .int .i64 m.term, .int .i64 m.vote, .int .i64 m.sq, .int .i64 m.sf, v], .int .i64 i] w fun e w' => e = .returned (.bool (segOk m i m.segs[i])) ∧ Ext w w' := by
 obtain ⟨A, c, rfl, hc1, hc2⟩ := hS.open_
 obtain ⟨_, b, off, rfl, hcell⟩ := hS.at_ (by omega)
 obtain ⟨s0, s1, s2, s3⟩ := hcell i hi
 obtain ⟨s, hs⟩ : ∃ s, m.segs[i] = s := ⟨_, rfl⟩
 rw [hs] at s0 s1 s2 s3 ⊢
 have HC := Lib.hid hcell
 have hres : segOk m i s = segOk m i s := rfl
 obtain ⟨R, hR⟩ : ∃ R, segOk m i s = R := ⟨_, rfl⟩
 rw [hR]
 have HR := Lib.hid hR
 have Hs := Lib.hid hs
 have Hprev := Lib.hid hprev
 have hb0 := Blk.new w 32 #[.int .i64 m.next, .int .i64 m.term, .int .i64 m.vote, .int .i64 m.sq, .int .i64 m.sf, .slice (some ⟨b, off, none⟩) m.segs.length c]
 have hX : Ext w (w.alloc (.cells #[.int .i64 m.next, .int .i64 m.term, .int .i64 m.vote, .int .i64 m.sq, .int .i64 m.sf, .slice (some ⟨b, off, none⟩) m.segs.length c] 32)) := Ext.alloc (Ext.refl _) _
 obtain ⟨m0, m1, m2, m3, m4, m5⟩ := blk6 hb0
 have t0 := hX.cell s0
 have t1 := hX.cell s1
 have t2 := hX.cell s2
 have t3 := hX.cell s3
 have hiz : (i : Int) < (m.segs.length : Int) := by omega
 have hbs : Blk ((w.alloc (.cells #[.int .i64 m.next, .int .i64 m.term, .int .i64 m.vote, .int .i64 m.sq, .int .i64 m.sf, .slice (some ⟨b, off, none⟩) m.segs.length c] 32)).alloc (.cells #[.int .i64 s.seq, .int .i64 s.fmt, .int .i64 s.first, .int .i64 s.count] 71)) (w.heap.size + 1) 71 #[.int .i64 s.seq, .int .i64 s.fmt, .int .i64 s.first, .int .i64 s.count] := by
  have := Blk.new (w.alloc (.cells #[.int .i64 m.next, .int .i64 m.term, .int .i64 m.vote, .int .i64 m.sq, .int .i64 m.sf, .slice (some ⟨b, off, none⟩) m.segs.length c] 32)) 71 #[.int .i64 s.seq, .int .i64 s.fmt, .int .i64 s.first, .int .i64 s.count]
  rwa [World.size_alloc] at this
 have hX2 : Ext w ((w.alloc (.cells #[.int .i64 m.next, .int .i64 m.term, .int .i64 m.vote, .int .i64 m.sq, .int .i64 m.sf, .slice (some ⟨b, off, none⟩) m.segs.length c] 32)).alloc (.cells #[.int .i64 s.seq, .int .i64 s.fmt, .int .i64 s.first, .int .i64 s.count] 71)) := Ext.alloc hX _
 have hb1 := hb0.alloc (.cells #[.int .i64 s.seq, .int .i64 s.fmt, .int .i64 s.first, .int .i64 s.count] 71)
 have arm := fun (W : World) => file11_any m.next m.term m.vote m.sq m.sf (.slice (some ⟨b, off, none⟩) m.segs.length c) s.seq s.fmt hn W
 have Arm := Lib.hid arm
 have hn2 := Lib.hid hn
 clear hR hs hprev hcell arm hn hres hS
 go_enter Tryz.func54, Tryz.ntmps54
 go_wp2_with fail
 refine (Arm.out _).mono ?_
 rintro e w1 ⟨rfl, hE1⟩
 have HE := Lib.hid (Ext.trans hX2 hE1)
 have E0 := HE
 obtain ⟨M0, M1, M2, M3, M4, M5⟩ := blk6 (hb1.ext hE1)
 obtain ⟨S0, S1, S2, S3⟩ := blk4c (hbs.ext hE1)
 have hC2 := segCells HE.out HC.out
 have HC2 := Lib.hid hC2
 clear hC2 HC Arm hb0 hb1 hbs hX hX2 hE1 HE m0 m1 m2 m3 m4 m5 t0 t1 t2 t3 s0 s1 s2 s3 M0 M1 M2 M4 S1
 cases hf : fileOk m.next s.seq s.fmt with
 | false =>
  have hR : R = false := by rw [← HR.out]; unfold segOk; rw [hf]; rfl
  subst hR
  clear HR hf
  go_wp2_with fail
  go_ret
  exact ⟨rfl, E0.out⟩
 | true =>
 by_cases hq : s.seq = m.sq
 ·have hR : R = false := by rw [← HR.out]; unfold segOk; simp [hq]
  subst hR
  clear HR hf
  go_wp2_with fail
  go_ret
  exact ⟨rfl, E0.out⟩
 cases hw : inB s.first 1 1073741820 with
 | false =>
  have hR : R = false := by rw [← HR.out]; unfold segOk; simp [hw]
  subst hR
  clear HR hf
  go_wp2_with (go_at_call 52; refine (within_any _ _ _ _).mono ?_; rintro e w2 ⟨rfl, rfl⟩; rw [hw])
  go_ret
  exact ⟨rfl, E0.out⟩
 | true =>
 have HR2 : Hid (((m.segs.take i).all (fun t => decide (t.seq ≠ s.seq)) &&
 (match m.segs[i - 1]? with | none => true | some p => decide (i = 0 ∨ s.first = p.first + p.count)) && (inB s.count 1 4 || (decide (s.count = -1) && decide (i + 1 = m.segs.length)))) = R) := Lib.hid (by
  rw [← HR.out]; unfold segOk; simp [hf, hw, hq])
 clear HR hf
 go_wp2_with (go_at_call 52; refine (within_any _ _ _ _).mono ?_; rintro e w2 ⟨rfl, rfl⟩; rw [hw])
 go_loopw [6] (fun x W => ∃ j : Nat, j ≤ i ∧ x = .int .i64 j ∧ Hid (∀ q (_ : q < j) (h2 : q < m.segs.length), m.segs[q].seq ≠ s.seq) ∧ Ext w1 W) (fun x _ => i - (intOf x).toNat)
 case atStart => exact ⟨0, by omega, rfl, Lib.hid fun q hq => by omega, Ext.refl _⟩
 case round =>
  obtain ⟨j, hj, rfl, Hn, hEr⟩ := hrel
  have HEr := Lib.hid (Ext.trans E0.out hEr)
  have hC3 := segCells hEr HC2.out
  have HC3 := Lib.hid hC3
  have N3 := hEr.cell M3
  have N5 := hEr.cell M5
  have T0 := hEr.cell S0
  have T2 := hEr.cell S2
  have T3 := hEr.cell S3
  have HEq := Lib.hid hEr
  clear hC3 HC2 hEr M3 M5 S0 S2 S3
  by_cases hlt : j < i
  ·have hji : j < m.segs.length := by omega
   obtain ⟨c0, _, _, _⟩ := HC3.out j hji
   have hp : m.segs[j].seq = s.seq → R = false := fun h => by
    rw [← HR2.out]
    have : ((m.segs.take i).all (fun t => decide (t.seq ≠ s.seq))) = false := by
     rw [List.all_eq_false]
     exact ⟨m.segs[j], List.mem_take_iff_getElem.2 ⟨j, by omega, rfl⟩, by simpa using h⟩
    rw [this]; simp
   have hq : m.segs[j].seq ≠ s.seq → ∀ q (_ : q < j + 1) (h2 : q < m.segs.length), m.segs[q].seq ≠ s.seq := fun h q h3 h2 => by
     by_cases e : q = j
     ·subst e; exact h
     ·exact Hn.out q (by omega) h2
   have Hp := Lib.hid hp
   have Hq := Lib.hid hq
   clear hp hq HR2 Hn
   generalize m.segs[j].seq = x at *
   generalize s.seq = y at *
   by_cases hx : x = y
   ·have hR := Hp.out hx
    subst hR hx
    go_wp2_with fail
    go_quiet (fail)
    go_wp2_with fail
    go_ret
    exact ⟨rfl, edrewN HEr.out _⟩
   ·have Hq2 := Lib.hid (Hq.out hx)
    go_wp2_with fail
    go_quiet (fail)
    go_wp2_with fail
    go_roundw
    case rel => exact ⟨j + 1, by omega, by go_num, Hq2, edrewN HEq.out _⟩
    case measure => simp [intOf]; omega
  ·obtain rfl : j = i := by omega
   have hall : ((m.segs.take j).all (fun t => decide (t.seq ≠ s.seq))) = true := by
    rw [List.all_eq_true]
    intro x hx
    obtain ⟨q, hq, rfl⟩ := List.mem_take_iff_getElem.1 hx
    simpa using Hn.out q (by omega) (by omega)
   have HR3 : Hid ((((match m.segs[j - 1]? with | none => true | some p => decide (j = 0 ∨ s.first = p.first + p.count)) && (inB s.count 1 4 || (decide (s.count = -1) && decide (j + 1 = m.segs.length))))) = R) := Lib.hid (by
    rw [← HR2.out, hall]; rfl)
   clear HR2 hall Hn HEq
   cases j with
   | zero =>
    have HRc : Hid ((inB s.count 1 4 || (decide (s.count = -1) && decide (0 + 1 = m.segs.length))) = R) := Lib.hid (by
     rw [← HR3.out]; cases m.segs[0 - 1]? <;> simp)
    clear HR3 HC3 N3
    have hz : decide ((0 : Int) < ((0 : Nat) : Int)) = false := by decide
    go_wp2_with fail
    go_quiet (fail)
    cases hcn : inB s.count 1 4 with
    | true =>
     have hR : R = true := by rw [← HRc.out, hcn]; rfl
     subst hR
     go_wp2_with (go_at_call 52; refine (within_any _ _ _ _).mono ?_; rintro e w2 ⟨rfl, rfl⟩; first | rw [hcn] | rw [show inB (-1) 1 4 = false from rfl])
     go_ret
     exact ⟨rfl, edrewN HEr.out _⟩
    | false =>
     by_cases hc1m : s.count = -1
     ·by_cases hlast : 0 + 1 = m.segs.length
      ·have hR : R = true := by rw [← HRc.out]; simp [hc1m, hlast]
       have hl2 : ((m.segs.length : Int) - 1) = (0 : Int) := by omega
       subst hR
       clear hlast
       go_wp2_with (go_at_call 52; refine (within_any _ _ _ _).mono ?_; rintro e w2 ⟨rfl, rfl⟩; first | rw [hcn] | rw [show inB (-1) 1 4 = false from rfl])
       all_goals go_ret
       all_goals exact ⟨by first | rfl | (exact ret_bool (by simp; omega)), edrewN HEr.out _⟩
      ·have hR : R = false := by rw [← HRc.out, hcn]; simp [hc1m, hlast]
       subst hR
       go_wp2_with (go_at_call 52; refine (within_any _ _ _ _).mono ?_; rintro e w2 ⟨rfl, rfl⟩; first | rw [hcn] | rw [show inB (-1) 1 4 = false from rfl])
       all_goals go_ret
       all_goals exact ⟨by first | rfl | (exact ret_bool (by simp; omega)), edrewN HEr.out _⟩
     ·have hR : R = false := by rw [← HRc.out, hcn]; simp [hc1m]
      subst hR
      go_wp2_with (go_at_call 52; refine (within_any _ _ _ _).mono ?_; rintro e w2 ⟨rfl, rfl⟩; first | rw [hcn] | rw [show inB (-1) 1 4 = false from rfl])
      go_ret
      exact ⟨rfl, edrewN HEr.out _⟩
   | succ k =>
    have hk : k < m.segs.length := by omega
    obtain ⟨_, _, d2, d3⟩ := HC3.out k hk
    obtain ⟨p1, p2, p3, p4⟩ := Hprev.out m.segs[k] (List.mem_take_iff_getElem.2 ⟨k, by omega, rfl⟩)
    have hgk : m.segs[k + 1 - 1]? = some m.segs[k] := by rw [Nat.add_sub_cancel]; exact List.getElem?_eq_getElem hk
    have HR4 : Hid ((decide (s.first = m.segs[k].first + m.segs[k].count) && (inB s.count 1 4 || (decide (s.count = -1) && decide (k + 1 + 1 = m.segs.length)))) = R) := Lib.hid (by
     rw [← HR3.out, hgk]; simp)
    clear HR3 HC3 hgk Hprev
    generalize m.segs[k].first = pf at *
    generalize m.segs[k].count = pc at *
    have hw1 : IntKind.i64.wrap (pf + pc) = pf + pc := by rw [IntKind.wrap_i64]; omega
    by_cases hch : s.first = pf + pc
    ·have HRc : Hid ((inB s.count 1 4 || (decide (s.count = -1) && decide (k + 1 + 1 = m.segs.length))) = R) := Lib.hid (by
      rw [← HR4.out]; simp [hch])
     clear HR4
     go_wp2_with fail
     go_quiet (fail)
     cases hcn : inB s.count 1 4 with
     | true =>
      have hR : R = true := by rw [← HRc.out, hcn]; rfl
      subst hR
      go_wp2_with (go_at_call 52; refine (within_any _ _ _ _).mono ?_; rintro e w2 ⟨rfl, rfl⟩; first | rw [hcn] | rw [show inB (-1) 1 4 = false from rfl])
      go_ret
      exact ⟨rfl, edrewN HEr.out _⟩
     | false =>
      by_cases hc1m : s.count = -1
      ·by_cases hlast : (k + 1) + 1 = m.segs.length
       ·have hR : R = true := by rw [← HRc.out]; simp [hc1m, hlast]
        have hl2 : ((m.segs.length : Int) - 1) = ((k + 1) : Int) := by omega
        subst hR
        clear hlast
        go_wp2_with (go_at_call 52; refine (within_any _ _ _ _).mono ?_; rintro e w2 ⟨rfl, rfl⟩; first | rw [hcn] | rw [show inB (-1) 1 4 = false from rfl])
        all_goals go_ret
        all_goals exact ⟨by first | rfl | (exact ret_bool (by simp; omega)), edrewN HEr.out _⟩
       ·have hR : R = false := by rw [← HRc.out, hcn]; simp [hc1m, hlast]
        subst hR
        go_wp2_with (go_at_call 52; refine (within_any _ _ _ _).mono ?_; rintro e w2 ⟨rfl, rfl⟩; first | rw [hcn] | rw [show inB (-1) 1 4 = false from rfl])
        all_goals go_ret
        all_goals exact ⟨by first | rfl | (exact ret_bool (by simp; omega)), edrewN HEr.out _⟩
      ·have hR : R = false := by rw [← HRc.out, hcn]; simp [hc1m]
       subst hR
       go_wp2_with (go_at_call 52; refine (within_any _ _ _ _).mono ?_; rintro e w2 ⟨rfl, rfl⟩; first | rw [hcn] | rw [show inB (-1) 1 4 = false from rfl])
       go_ret
       exact ⟨rfl, edrewN HEr.out _⟩
    ·have hR : R = false := by rw [← HR4.out]; simp [hch]
     subst hR
     clear HR4
     go_wp2_with fail
     go_quiet (fail)
     go_wp2_with fail
     go_ret
     exact ⟨rfl, edrewN HEr.out _⟩
open Go.RowKit Go.Mv
set_option maxRecDepth 100000
theorem fileOk_b {n s f : Int} (h : fileOk n s f = true) : 1 ≤ s ∧ s ≤ n - 1 ∧ (f = 1 ∨ f = 2) := by simpa [fileOk] using h
theorem inB_b {n a b : Int} : inB n a b = true ↔ (a ≤ n ∧ n ≤ b) := by simp [inB]
theorem segOk_b {m : Mf} {i : Nat} {s : Sg4} (h : segOk m i s = true) : fileOk m.next s.seq s.fmt = true ∧ s.seq ≠ m.sq ∧ (1 ≤ s.first ∧ s.first ≤ 1073741820) ∧ (∀ t ∈ m.segs.take i, t.seq ≠ s.seq) ∧ ((1 ≤ s.count ∧ s.count ≤ 4) ∨ (s.count = -1 ∧ i + 1 = m.segs.length)) := by
 unfold segOk at h
 simp only [Bool.and_eq_true, Bool.or_eq_true, decide_eq_true_eq, List.all_eq_true, inB_b] at h
 obtain ⟨⟨⟨⟨⟨h1, h2⟩, h3⟩, h4⟩, _⟩, h5⟩ := h
 exact ⟨h1, h2, h3, h4, h5⟩
theorem segsOk_b {m : Mf} : ∀ {k : Nat}, segsOk m k = true → ∀ i, i < k → ∃ s, m.segs[i]? = some s ∧ segOk m i s = true
 | 0, _, i, hi => by omega
 | k + 1, h, i, hi => by
  unfold segsOk at h
  rw [Bool.and_eq_true] at h
  by_cases e : i = k
  ·subst e
   have h2 := h.2
   cases hs : m.segs[i]? with
   | none => rw [hs] at h2; cases h2
   | some s => rw [hs] at h2; exact ⟨s, rfl, h2⟩
  ·exact segsOk_b h.1 i (by omega)
theorem segsOk_prev {m : Mf} {k : Nat} (h : segsOk m k = true) : ∀ t ∈ m.segs.take k, 1 ≤ t.first ∧ t.first ≤ 1073741820 ∧ -1 ≤ t.count ∧ t.count ≤ 4 := by
 intro t ht
 obtain ⟨q, hq, rfl⟩ := List.mem_take_iff_getElem.1 ht
 obtain ⟨s, hs, ho⟩ := segsOk_b h q (by omega)
 rw [List.getElem?_eq_getElem (by omega)] at hs
 cases hs
 obtain ⟨_, _, h3, _, h5⟩ := segOk_b ho
 omega
theorem segsOk_bad {m : Mf} {i : Nat} (hi : i < m.segs.length) (h : segOk m i m.segs[i] = false) : ∀ k, i < k → segsOk m k = false := by
 intro k hk
 rw [Bool.eq_false_iff]
 intro ht
 obtain ⟨s, hs, ho⟩ := segsOk_b ht i hk
 rw [List.getElem?_eq_getElem hi] at hs
 cases hs
 rw [h] at ho; cases ho
theorem Check_any (m : Mf) (v : Value) (w : World) (hS : Sgs w v m.segs) :
  Calls Tryz.prog 30 #[.agg #[.int .i64 m.next, .int .i64 m.term, .int .i64 m.vote, .int .i64 m.sq, .int .i64 m.sf, v]] w fun e w' => e = .returned (.int .i64 (if checkM m then 0 else 2)) ∧ Ext w w' := by
 obtain ⟨A, c, rfl, hc1, hc2⟩ := hS.open_
 obtain ⟨R, hR⟩ : ∃ R : Int, (if checkM m then 0 else 2) = R := ⟨_, rfl⟩
 rw [hR]
 have HR := Lib.hid hR
 have HS := Lib.hid hS
 have hb0 := Blk.new w 32 #[.int .i64 m.next, .int .i64 m.term, .int .i64 m.vote, .int .i64 m.sq, .int .i64 m.sf, .slice A m.segs.length c]
 have hX : Ext w (w.alloc (.cells #[.int .i64 m.next, .int .i64 m.term, .int .i64 m.vote, .int .i64 m.sq, .int .i64 m.sf, .slice A m.segs.length c] 32)) := Ext.alloc (Ext.refl _) _
 obtain ⟨m0, m1, m2, m3, m4, m5⟩ := blk6 hb0
 have E0 := Lib.hid hX
 have Hb := Lib.hid hb0
 clear hR hS hX hb0
 have hbad : headOk m = false → R = 2 := fun h => by rw [← HR.out]; unfold checkM; rw [h]; rfl
 go_enter Tryz.func30, Tryz.ntmps30
 cases h1 : inB m.next 1 1073741824 with
 | false =>
  have := hbad (by unfold headOk; rw [h1]; rfl)
  subst this
  go_wp2_with (go_at_call 52; refine (within_any _ _ _ _).mono ?_; rintro e w2 ⟨rfl, rfl⟩; rw [h1])
  go_ret
  exact ⟨rfl, E0.out⟩
 | true =>
 cases h2 : inB m.term 0 1073741824 with
 | false =>
  have := hbad (by unfold headOk; rw [h1, h2]; rfl)
  subst this
  go_wp2_with (go_at_call 52; refine (within_any _ _ _ _).mono ?_; rintro e w2 ⟨rfl, rfl⟩; first | rw [h1] | rw [h2])
  go_ret
  exact ⟨rfl, E0.out⟩
 | true =>
 cases h3 : inB m.vote 0 5 with
 | false =>
  have := hbad (by unfold headOk; rw [h1, h2, h3]; rfl)
  subst this
  go_wp2_with (go_at_call 52; refine (within_any _ _ _ _).mono ?_; rintro e w2 ⟨rfl, rfl⟩; first | rw [h1] | rw [h2] | rw [h3])
  go_ret
  exact ⟨rfl, E0.out⟩
 | true =>
 by_cases h4 : m.segs.length ≤ 60
 case neg =>
  have := hbad (by unfold headOk; rw [h1, h2, h3]; simpa using h4)
  subst this
  have h5 : (60 : Int) < (m.segs.length : Int) := by omega
  go_wp2_with (go_at_call 52; refine (within_any _ _ _ _).mono ?_; rintro e w2 ⟨rfl, rfl⟩; first | rw [h1] | rw [h2] | rw [h3])
  go_ret
  exact ⟨rfl, E0.out⟩
 have h5 : ¬ (60 : Int) < (m.segs.length : Int) := by omega
 have hhead : headOk m = true := by unfold headOk; rw [h1, h2, h3]; simpa using h4
 have HR2 : Hid ((if (snapOk m && segsOk m m.segs.length) = true then (0 : Int) else 2) = R) := Lib.hid (by rw [← HR.out]; unfold checkM; rw [hhead]; rfl)
 have hn := inB_b.1 h1
 have Hn := Lib.hid hn
 clear hbad HR hhead hn
 rcases (show (m.sq = 0 ∧ m.sf = 0) ∨ (m.sq = 0 ∧ m.sf ≠ 0) ∨ m.sq ≠ 0 by omega) with ⟨ha, hb⟩ | hc
 ·have hsn : snapOk m = true := by unfold snapOk; simp [ha, hb]
  have hA := Lib.hid ha
  have hB := Lib.hid hb
  go_wp2_with (first | (go_at_call 52; refine (within_any _ _ _ _).mono ?_; rintro e w2 ⟨rfl, rfl⟩; first | rw [h1] | rw [h2] | rw [h3]))
  clear ha hb
  have HR3 : Hid ((if segsOk m m.segs.length = true then (0 : Int) else 2) = R) := Lib.hid (by rw [← HR2.out, hsn]; rfl)
  clear HR2 m0 m1 m2 m3 m4 m5
  go_loopw [3] (fun x W => ∃ j : Nat, j ≤ m.segs.length ∧ x = .int .i64 j ∧ Hid (segsOk m j = true) ∧ Ext (w.alloc (.cells #[.int .i64 m.next, .int .i64 m.term, .int .i64 m.vote, .int .i64 m.sq, .int .i64 m.sf, .slice A m.segs.length c] 32)) W) (fun x _ => m.segs.length - (intOf x).toNat)
  case atStart => exact ⟨0, by omega, rfl, Lib.hid rfl, (by rw [hA.out, hB.out]; exact Ext.refl _)⟩
  case round =>
   obtain ⟨j, hj, rfl, Hn2, hEr⟩ := hrel
   have HEr := Lib.hid (Ext.trans E0.out hEr)
   have HEq := Lib.hid hEr
   obtain ⟨m0, m1, m2, m3, m4, m5⟩ := blk6 (Hb.out.ext hEr)
   clear hEr
   by_cases hlt : j < m.segs.length
   ·have arm := seg_any m (.slice A m.segs.length c) j hlt h4 Hn.out (segsOk_prev Hn2.out) wr (HS.out.ext HEr.out)
    have Arm := Lib.hid arm
    clear arm
    have hltz : (j : Int) < (m.segs.length : Int) := by omega
    go_wp2_with fail
    refine Arm.out.mono ?_
    rintro e w4 ⟨rfl, hE4⟩
    cases hso : segOk m j m.segs[j] with
    | false =>
     have hR : R = 2 := by rw [← HR3.out, segsOk_bad hlt hso _ hlt]; rfl
     subst hR
     go_wp2_with fail
     go_ret
     exact ⟨rfl, Ext.trans HEr.out hE4⟩
    | true =>
     have hnx : segsOk m (j + 1) = true := by
      unfold segsOk; rw [Hn2.out, List.getElem?_eq_getElem hlt]; simpa using hso
     have Hnx := Lib.hid hnx
     clear hnx hso
     go_wp2_with fail
     go_roundw
     case rel => exact ⟨j + 1, by omega, by go_num, Hnx, Ext.trans HEq.out hE4⟩
     case measure => simp [intOf]; omega
   ·obtain rfl : j = m.segs.length := by omega
    have hR : R = 0 := by rw [← HR3.out, Hn2.out]; rfl
    subst hR
    go_wp2_with fail
    go_ret
    exact ⟨rfl, HEr.out⟩
 have hnz : ¬ (m.sq = 0 ∧ m.sf = 0) := by omega
 cases hfo : fileOk m.next m.sq m.sf with
 | false =>
  have hfo2 := hfo
  have hR : R = 2 := by rw [← HR2.out]; unfold snapOk; rw [hfo]; simp [hnz]
  subst hR
  clear HR2 hnz
  rcases hc with ⟨hc1, hc2⟩ | hc1
  ·rw [hc1] at hfo2
   go_wp2_with (first | (go_at_call 52; refine (within_any _ _ _ _).mono ?_; rintro e w2 ⟨rfl, rfl⟩; first | rw [h1] | rw [h2] | rw [h3]) | (go_at_call 53; refine (file11_any _ _ _ _ _ _ _ _ Hn.out _).mono ?_; rintro e w3 ⟨rfl, hE3⟩; first | rw [hfo] | rw [hfo2]))
   go_ret
   exact ⟨rfl, Ext.trans E0.out (by rw [hc1]; exact hE3)⟩
  ·go_wp2_with (first | (go_at_call 52; refine (within_any _ _ _ _).mono ?_; rintro e w2 ⟨rfl, rfl⟩; first | rw [h1] | rw [h2] | rw [h3]) | (go_at_call 53; refine (file11_any _ _ _ _ _ _ _ _ Hn.out _).mono ?_; rintro e w3 ⟨rfl, hE3⟩; first | rw [hfo] | rw [hfo2]))
   go_ret
   exact ⟨rfl, Ext.trans E0.out hE3⟩
 | true =>
  have hsn : snapOk m = true := by unfold snapOk; rw [hfo]; simp
  have hsq : m.sq ≠ 0 := by have := fileOk_b hfo; omega
  clear hnz hc
  go_wp2_with (first | (go_at_call 52; refine (within_any _ _ _ _).mono ?_; rintro e w2 ⟨rfl, rfl⟩; first | rw [h1] | rw [h2] | rw [h3]) | (go_at_call 53; refine (file11_any _ _ _ _ _ _ _ _ Hn.out _).mono ?_; rintro e w3 ⟨rfl, hE3⟩; first | rw [hfo]))
  clear hsq
  have HR3 : Hid ((if segsOk m m.segs.length = true then (0 : Int) else 2) = R) := Lib.hid (by rw [← HR2.out, hsn]; rfl)
  clear HR2 m0 m1 m2 m3 m4 m5
  go_loopw [3] (fun x W => ∃ j : Nat, j ≤ m.segs.length ∧ x = .int .i64 j ∧ Hid (segsOk m j = true) ∧ Ext (w.alloc (.cells #[.int .i64 m.next, .int .i64 m.term, .int .i64 m.vote, .int .i64 m.sq, .int .i64 m.sf, .slice A m.segs.length c] 32)) W) (fun x _ => m.segs.length - (intOf x).toNat)
  case atStart => exact ⟨0, by omega, rfl, Lib.hid rfl, hE3⟩
  case round =>
   obtain ⟨j, hj, rfl, Hn2, hEr⟩ := hrel
   have HEr := Lib.hid (Ext.trans E0.out hEr)
   have HEq := Lib.hid hEr
   obtain ⟨m0, m1, m2, m3, m4, m5⟩ := blk6 (Hb.out.ext hEr)
   clear hEr
   by_cases hlt : j < m.segs.length
   ·have arm := seg_any m (.slice A m.segs.length c) j hlt h4 Hn.out (segsOk_prev Hn2.out) wr (HS.out.ext HEr.out)
    have Arm := Lib.hid arm
    clear arm
    have hltz : (j : Int) < (m.segs.length : Int) := by omega
    go_wp2_with fail
    refine Arm.out.mono ?_
    rintro e w4 ⟨rfl, hE4⟩
    cases hso : segOk m j m.segs[j] with
    | false =>
     have hR : R = 2 := by rw [← HR3.out, segsOk_bad hlt hso _ hlt]; rfl
     subst hR
     go_wp2_with fail
     go_ret
     exact ⟨rfl, Ext.trans HEr.out hE4⟩
    | true =>
     have hnx : segsOk m (j + 1) = true := by
      unfold segsOk; rw [Hn2.out, List.getElem?_eq_getElem hlt]; simpa using hso
     have Hnx := Lib.hid hnx
     clear hnx hso
     go_wp2_with fail
     go_roundw
     case rel => exact ⟨j + 1, by omega, by go_num, Hnx, Ext.trans HEq.out hE4⟩
     case measure => simp [intOf]; omega
   ·obtain rfl : j = m.segs.length := by omega
    have hR : R = 0 := by rw [← HR3.out, Hn2.out]; rfl
    subst hR
    go_wp2_with fail
    go_ret
    exact ⟨rfl, HEr.out⟩
end Go.Proofs.YtmecffckghkahaaGreatDoor
