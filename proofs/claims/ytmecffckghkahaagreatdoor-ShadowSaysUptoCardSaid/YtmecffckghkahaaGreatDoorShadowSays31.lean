/- Merged: Sh5 -/
import Derived.Test.YtmecffckghkahaaGreatDoorShadowSays30
set_option linter.all false
set_option maxHeartbeats 8000000
namespace Go.Proofs.YtmecffckghkahaaGreatDoor
open Go.RowKit Go.Mv
set_option maxRecDepth 100000
def saysMap (p q : Nat) : Array MapEntry := #[{ key := .int .u8 4, val := .func (.func 45) #[] #[.pointer (some ⟨p, 0, none⟩), .pointer (some ⟨q, 0, none⟩)], born := 0 }, { key := .int .u8 3, val := .func (.func 47) #[] #[.pointer (some ⟨p, 0, none⟩), .pointer (some ⟨q, 0, none⟩)], born := 1 }]
theorem insS (w : World) (es : Array MapEntry) (c : Nat) (n : Int) (v : Value) (hn : Instr.findNow (.int .u8) (.int .u8 n) es.toList 0 = some none) :
  (Instr.mapUpdate 80 (.map (some w.heap.size)) (.int .u8 n) v).run Tryz.prog (w.alloc (.map es c)) = .ok () (w.alloc (.map (es.push { key := .int .u8 n, val := v, born := c }) (c + 1))) :=
 run_insert_new w .u8 Tryz.underlying80 Tryz.underlying5 es c n v hn
theorem says_any (v : Value) (hv : ∃ A n c, v = .slice A n c) (g : Int) (w : World) : Calls Tryz.prog 26 #[v, .int .i64 g] w fun e w' => e = .returned (.map (some (w.heap.size + 1 + 1))) ∧ ((w.alloc (.cells #[v] 22)).alloc (.cells #[.int .i64 g] 3)).alloc (.map (saysMap w.heap.size (w.heap.size + 1)) 2) = w' := by
 obtain ⟨A, n, c, rfl⟩ := hv
 have hmm := @run_makeMap Tryz.prog
 have hmf : ∀ (fn : Fn) (first cap : Array Value) (w : World), (Instr.makeFunc fn first cap).run Tryz.prog w = .ok (.func fn first cap) w := fun _ _ _ _ => rfl
 have h0 := insS ((w.alloc (.cells #[.slice A n c] 22)).alloc (.cells #[.int .i64 g] 3)) #[] 0 4 (.func (.func 45) #[] #[.pointer (some ⟨w.heap.size, 0, none⟩), .pointer (some ⟨w.heap.size + 1, 0, none⟩)]) rfl
 have h1 := insS ((w.alloc (.cells #[.slice A n c] 22)).alloc (.cells #[.int .i64 g] 3)) #[{ key := .int .u8 4, val := .func (.func 45) #[] #[.pointer (some ⟨w.heap.size, 0, none⟩), .pointer (some ⟨w.heap.size + 1, 0, none⟩)], born := 0 }] 1 3 (.func (.func 47) #[] #[.pointer (some ⟨w.heap.size, 0, none⟩), .pointer (some ⟨w.heap.size + 1, 0, none⟩)]) rfl
 simp only [List.push_toArray, List.nil_append, List.cons_append, Nat.reduceAdd, World.size_alloc] at h0 h1
 go_enter Tryz.func26, Tryz.ntmps26
 go_wp2
 go_ret
 exact ⟨rfl, rfl⟩
def sc1S (fs : List Fil) (k s f g : Int) : List UInt8 := match bytesS fs (nameS k s f) with | none => [] | some b => (againR b f g).2
def sc2S (fs : List Fil) (sg : Sg4) (g : Int) : List UInt8 := match entS13 fs sg with | none => [] | some y => (fileE rT g sg.first y).2
def ScP (w : World) (r : List UInt8) (e : Ending) (w' : World) : Prop := ∃ v, e = .returned v ∧ OwnB w' w.heap.size v r ∧ Ext w w'
theorem says2_any (v : Value) (fs : List Fil) (k s f g : Int) (sg : Sg4) (q : Addr) (p2 p3 : Nat) (w : World) (hS : StW w) (hF : Fs w v fs) (hl : fs.length ≤ 4000000) (hbl : ∀ f ∈ fs, f.2.length ≤ 2000000) (hc : sg.count ≤ 100000)
  (h2 : w.cell? ⟨p2, 0, none⟩ = some v) (h3 : w.cell? ⟨p3, 0, none⟩ = some (.int .i64 g)) :
  Calls Tryz.prog 47 #[.agg #[.int .u8 k, .int .i64 s, .int .i64 f, .int .i64 sg.seq, .int .i64 sg.fmt, .int .i64 sg.first, .int .i64 sg.count, .pointer (some q)], .pointer (some ⟨p2, 0, none⟩), .pointer (some ⟨p3, 0, none⟩)] w (ScP w (sc2S fs sg g)) := by
 obtain ⟨A, c, rfl, _, _⟩ := Fs.open_ hF
 obtain ⟨x, hx⟩ : ∃ x : Array Value, #[.int .u8 k, .int .i64 s, .int .i64 f, .int .i64 sg.seq, .int .i64 sg.fmt, .int .i64 sg.first, .int .i64 sg.count, .pointer (some q)] = x := ⟨_, rfl⟩
 have hb := Blk.new w 78 x
 have hX : Ext w (w.alloc (.cells x 78)) := Ext.alloc (Ext.refl _) _
 have key := SEntries_any _ fs sg _ (hS.ext hX) (hF.ext hX) hl hbl
 subst hx
 have e2 := hX.cell h2
 have e3 := hX.cell h3
 obtain ⟨t0, t1, t2, t3, t4, t5, t6, t7⟩ := blk8 hb
 have hlen : ∀ y, entS13 fs sg = some y → y.length ≤ 100000 := fun y h => by
  have := entS13_len h
  by_cases h1 : sg.count = -1
  ·have := (this.1 h1).2; omega
  ·have := this.2 h1; omega
 unfold sc2S
 obtain ⟨R, hR⟩ : ∃ R, entS13 fs sg = R := ⟨_, rfl⟩
 rw [hR] at key hlen ⊢
 have Key := Lib.hid key
 have HX := Lib.hid hX
 have Hb := Lib.hid hb
 have HT := Lib.hid hS.tab
 clear key hR hS hF hbl hX hb h2 h3
 go_enter Tryz.func47, Tryz.ntmps47
 go_wp2_with fail
 refine Key.out.mono ?_
 rintro e w1 ⟨v1, rfl, ho, hE1⟩
 obtain ⟨A1, c1, rfl, _, _⟩ := SlR.open_ (SlR.of_own ho)
 cases R with
 | none =>
  dsimp only [Option.isSome]
  have HE := Lib.hid (Ext.trans HX.out hE1)
  clear t0 t1 t2 t3 t4 t5 t6 t7 hE1
  go_wp2_with fail
  go_ret
  exact ⟨_, rfl, World.ownsRow_nil _ _ _ _, HE.out⟩
 | some y =>
  dsimp only [Option.isSome, Option.getD] at ho ⊢
  have hly := hlen y rfl
  have hE01 := Ext.trans HX.out hE1
  have hy : Es w1 (.slice A1 y.length c1) y := OwnE.es ho
  have key2 := FileE_any (T := rT) g sg.first (.slice A1 y.length c1) y w1 (HT.out.ext hE01) hy hly
  have Key2 := Lib.hid key2
  have HE := Lib.hid hE01
  have k3 := hE1.cell e3
  have k5 : w1.cell? ⟨w.heap.size, 5, none⟩ = some (.int .i64 sg.first) := hE1.cell t5
  clear t0 t1 t2 t3 t4 t5 t6 t7 hE1 hE01 hy key2 ho e2 e3
  go_wp2_with fail
  refine Key2.out.mono ?_
  rintro e w2 ⟨A2, c2, rfl, ho2, hE2⟩
  have HE2 := Lib.hid (Ext.trans HE.out hE2)
  have Ho2 := Lib.hid (own_base ho2 HE.out.size)
  clear ho2 hE2
  go_wp2_with fail
  go_ret
  exact ⟨.slice A2 _ c2, rfl, Ho2.out, HE2.out⟩
theorem says1_any (v : Value) (fs : List Fil) (k s f g : Int) (sg : Sg4) (q : Addr) (p2 p3 : Nat) (w : World) (hS : StW w) (hF : Fs w v fs) (hl : fs.length ≤ 4000000) (hbl : ∀ f ∈ fs, f.2.length ≤ 2000000)
  (h2 : w.cell? ⟨p2, 0, none⟩ = some v) (h3 : w.cell? ⟨p3, 0, none⟩ = some (.int .i64 g)) :
  Calls Tryz.prog 45 #[.agg #[.int .u8 k, .int .i64 s, .int .i64 f, .int .i64 sg.seq, .int .i64 sg.fmt, .int .i64 sg.first, .int .i64 sg.count, .pointer (some q)], .pointer (some ⟨p2, 0, none⟩), .pointer (some ⟨p3, 0, none⟩)] w (ScP w (sc1S fs k s f g)) := by
 obtain ⟨A, c, rfl, _, _⟩ := Fs.open_ hF
 obtain ⟨x, hx⟩ : ∃ x : Array Value, #[.int .u8 k, .int .i64 s, .int .i64 f, .int .i64 sg.seq, .int .i64 sg.fmt, .int .i64 sg.first, .int .i64 sg.count, .pointer (some q)] = x := ⟨_, rfl⟩
 have hb := Blk.new w 78 x
 have hX : Ext w (w.alloc (.cells x 78)) := Ext.alloc (Ext.refl _) _
 have key := Find_any _ fs k s f _ (hS.ext hX) (hF.ext hX) hl
 subst hx
 have e2 := hX.cell h2
 have e3 := hX.cell h3
 obtain ⟨t0, t1, t2, t3, t4, t5, t6, t7⟩ := blk8 hb
 unfold sc1S
 obtain ⟨r, hr⟩ : ∃ r, nameS k s f = r := ⟨_, rfl⟩
 rw [hr] at key ⊢
 obtain ⟨R, hR⟩ : ∃ R, bytesS fs r = R := ⟨_, rfl⟩
 rw [hR]
 unfold bytesS at hR
 have HR := Lib.hid hR
 have Key := Lib.hid key
 have HX := Lib.hid hX
 have Hb := Lib.hid hb
 have HF := Lib.hid hF
 have Hbl := Lib.hid hbl
 have HT := Lib.hid hS.tab
 clear key hR hS hF hbl hX hb h2 h3 hr
 by_cases hneg : findS fs r < 0
 ·obtain rfl : none = R := by have := HR.out; rwa [if_pos hneg] at this
  obtain ⟨x, hx⟩ : ∃ x, findS fs r = x := ⟨_, rfl⟩
  rw [hx] at Key hneg
  go_enter Tryz.func45, Tryz.ntmps45
  go_wp2_with fail
  refine Key.out.mono ?_
  rintro e1 w1 ⟨rfl, hE1⟩
  have HE := Lib.hid (Ext.trans HX.out hE1)
  clear t0 t1 t2 t3 t4 t5 t6 t7
  go_wp2_with fail
  go_ret
  exact ⟨_, rfl, World.ownsRow_nil _ _ _ _, HE.out⟩
 ·obtain ⟨i, hi, hil⟩ := findS_lt fs r hneg
  have hR2 := HR.out
  rw [if_neg hneg, hi] at hR2
  rw [show ((i : Int).toNat) = i from by omega, List.getElem?_eq_getElem hil] at hR2
  obtain ⟨y, hy⟩ : ∃ y, fs[i].2 = y := ⟨_, rfl⟩
  obtain rfl : some y = R := by rw [← hR2, ← hy]; rfl
  have hly : y.length ≤ 2000000 := by rw [← hy]; exact Hbl.out _ (List.getElem_mem hil)
  have Hy := Lib.hid hy
  rw [hi] at Key
  clear HR hR2 hneg hi hy
  go_enter Tryz.func45, Tryz.ntmps45
  go_wp2_with fail
  refine Key.out.mono ?_
  rintro e1 w1 ⟨rfl, hE1⟩
  have hE01 := Ext.trans HX.out hE1
  have HE := Lib.hid hE01
  have hx0 : ¬ ((i : Int) < 0) := by omega
  have hlz : (i : Int) < (fs.length : Int) := by omega
  obtain ⟨_, bb, off, rfl, hc⟩ := (HF.out.ext hE01).at_ (by omega)
  obtain ⟨hc0, B2, d2, hc1, hB2⟩ := hc i hil
  rw [Hy.out] at hB2 hc1
  have HB2 := Lib.hid hB2
  have k2 := hE1.cell e2
  have k3 := hE1.cell e3
  have k5 : w1.cell? ⟨w.heap.size, 2, none⟩ = some (.int .i64 f) := hE1.cell t2
  clear hc hB2 hc0 t0 t1 t2 t3 t4 t5 t6 t7 hE01 e2 e3
  go_wp2_with fail
  refine wp_region_held_drew (S := fun W => W.cell? ⟨p2, 0, none⟩ = some (.slice (some ⟨bb, off, none⟩) fs.length c) ∧ W.cell? ⟨bb, off + i * 2 + 1, none⟩ = some (.slice B2 y.length d2) ∧ W.cell? ⟨w.heap.size, 2, none⟩ = some (.int .i64 f) ∧ W.cell? ⟨p3, 0, none⟩ = some (.int .i64 g)) (by kernel_rfl) ⟨k2, hc1, k5, k3⟩ (fun hHeld => ?_)
  have hD1 : Ext w1 w1.drew := Ext.drew (Ext.refl _)
  have key2 := Again_any _ y f g w1.drew (HT.out.ext (Ext.trans HE.out hD1)) (SlR.ext HB2.out hD1) hly
  have Key2 := Lib.hid key2
  clear key2
  refine tkL 0 rfl ?_
  try simp only [Act.put, sA, sZ, sS]
  refine tkL 1 rfl ?_
  try simp only [Act.put, sA, sZ, sS]
  refine tkL 2 rfl ?_
  try simp only [Act.put, sA, sZ, sS]
  refine tkL 3 rfl ?_
  try simp only [Act.put, sA, sZ, sS]
  refine tkL 4 rfl ?_
  try simp only [Act.put, sA, sZ, sS]
  refine tkL 5 rfl ?_
  try simp only [Act.put, sA, sZ, sS]
  refine tkL 6 rfl ?_
  try simp only [Act.put, sA, sZ, sS]
  refine tkL 7 rfl ?_
  try simp only [Act.put, sA, sZ, sS]
  refine tkL 8 rfl ?_
  try simp only [Act.put, sA, sZ, sS]
  refine AllReadyH.one (i := 9) rfl (by kernel_rfl) (by rfl) (fun K hK => ?_)
  go_simp
  refine Key2.out.mono ?_
  rintro e w2 ⟨v2, rfl, ho2, hE2⟩
  obtain ⟨A2, c2, rfl, _, _⟩ := SlR.open_ (SlR.of_own ho2)
  have hE12 := Ext.trans hD1 hE2
  have HE2 := Lib.hid (Ext.trans HE.out hE12)
  have Ho2 := Lib.hid (own_base ho2 (Ext.trans HE.out hD1).size)
  refine hK.out _ _ ⟨hE12.cell k2, hE12.cell hc1, hE12.cell k5, hE12.cell k3⟩ (fun hHeld => ?_)
  clear hK K
  try simp only [Act.put, sA, sZ, sS]
  refine tkL 10 rfl ?_
  try simp only [Act.put, sA, sZ, sS]
  refine tkL 11 rfl ?_
  try simp only [Act.put, sA, sZ, sS]
  refine tkL 12 rfl ?_
  try simp only [Act.put, sA, sZ, sS]
  refine tkL 13 rfl ?_
  try simp only [Act.put, sA, sZ, sS]
  refine tkL 14 rfl ?_
  try simp only [Act.put, sA, sZ, sS]
  refine wpAnyH_done (by kernel_rfl) ?_ _
  clear k2 k3 k5 hc1 hE2 ho2 hE12
  go_wp2_with fail
  go_ret
  exact ⟨.slice A2 _ c2, rfl, Ho2.out, HE2.out⟩
end Go.Proofs.YtmecffckghkahaaGreatDoor
