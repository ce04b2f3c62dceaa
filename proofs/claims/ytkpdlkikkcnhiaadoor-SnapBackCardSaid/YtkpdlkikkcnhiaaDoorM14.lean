/-
  Plain laws: what was put is read.
  The walks of snap.Take, snap.Again, moultlaw09.same.
  Plain laws: a snapshot with a byte that is another one, a byte more, or fewer, is none.
-/
import Derived.Test.YtkpdlkikkcnhiaaDoorM13
set_option linter.all false
namespace Go.Proofs.YtkpdlkikkcnhiaaDoor
open Go.RowKit Go.Mv

theorem longsGo_put (l : List Int) (h : allNum l = true) : ∀ (acc : List Int) (r : List UInt8), longsGo l.length acc (longs l ++ r) = some (acc ++ l) := by
  induction l with
  | nil => intro acc r; simp [longsGo]
  | cons n l ih =>
    intro acc r
    have hn : 0 ≤ n ∧ n ≤ 1073741824 := num_of_all (k := 0) h (by simp)
    have hl : allNum l = true := by
      simp [allNum] at h ⊢
      exact h.2
    have e1 : longs (n :: l) ++ r = long1 n.toNat ++ (longs l ++ r) := by simp [longs]
    have e2 : (long1 n.toNat ++ (longs l ++ r)).take 5 = long1 n.toNat := by rw [List.take_append_of_le_length (by rw [long1_len]; omega), ← long1_len n.toNat, List.take_length]
    have e3 : (long1 n.toNat ++ (longs l ++ r)).drop 5 = longs l ++ r := by rw [← long1_len n.toNat, List.drop_left]
    have e4 := takeLong_put n.toNat (by omega) []
    rw [List.append_nil] at e4
    rw [e1, List.length_cons, longsGo, e2, e4, e3]
    dsimp only
    rw [if_pos rfl, ih hl, Int.toNat_of_nonneg hn.1]
    simp
theorem read1_put (s : Sta) (h : s.ok = true) : read1S (put1 s) = some s.ints := by
  obtain ⟨h1, h2, h3, h4⟩ := Sta.okP h
  have hn : allNum [s.idx, s.term, s.sum] = true := by simp [allNum, h1, h2, h3]
  obtain ⟨u, hu, hul⟩ : ∃ u, put1 s = 1 :: (longs [s.idx, s.term, s.sum] ++ ([UInt8.ofNat s.lvl.toNat, UInt8.ofNat s.finI.toNat] ++ u)) ∧ u.length = 4 := by
    refine ⟨_, ?_, fourU_len (nextN 0 (1 :: (longs [s.idx, s.term, s.sum] ++ [UInt8.ofNat s.lvl.toNat, UInt8.ofNat s.finI.toNat])))⟩
    unfold put1 crcPut
    simp
  have hll : (longs [s.idx, s.term, s.sum]).length = 15 := by rw [longs_len]; rfl
  have hlen : (put1 s).length = 22 := by rw [hu]; simp [hll, hul]
  have key : longsGo 3 [] (longs [s.idx, s.term, s.sum] ++ ([UInt8.ofNat s.lvl.toNat, UInt8.ofNat s.finI.toNat] ++ u)) = some ([] ++ [s.idx, s.term, s.sum]) := longsGo_put [s.idx, s.term, s.sum] hn [] ([UInt8.ofNat s.lvl.toNat, UInt8.ofNat s.finI.toNat] ++ u)
  have e16 : (put1 s).getD 16 0 = UInt8.ofNat s.lvl.toNat := by
    rw [hu, List.getD_eq_getElem?_getD, List.getElem?_cons_succ, List.getElem?_append_right (by rw [hll]; omega), hll]; rfl
  have e17 : (put1 s).getD 17 0 = UInt8.ofNat s.finI.toNat := by
    rw [hu, List.getD_eq_getElem?_getD, List.getElem?_cons_succ, List.getElem?_append_right (by rw [hll]; omega), hll]; rfl
  unfold read1S
  rw [if_pos hlen, e16, e17]
  rw [hu]
  show ((longsGo 3 [] (longs [s.idx, s.term, s.sum] ++ ([UInt8.ofNat s.lvl.toNat, UInt8.ofNat s.finI.toNat] ++ u))).map _) = _
  rw [key]
  have el : ((UInt8.ofNat s.lvl.toNat).toNat : Int) = s.lvl := by rcases h4 with e | e <;> rw [e] <;> rfl
  have ef : ((UInt8.ofNat s.finI.toNat).toNat : Int) = s.finI := by rcases s.finP with e | e <;> rw [e] <;> rfl
  rw [el, ef]
  rfl
theorem text2_unp (b : List UInt8) : (chunkL 8 b).flatMap (fun p => p.take (p.length - 4)) = unpS b := by
  generalize hn : b.length = n
  induction n using Nat.strongRecOn generalizing b with
  | _ n ih =>
    rcases Nat.eq_zero_or_pos b.length with h | h
    · have : b = [] := List.eq_nil_of_length_eq_zero h
      subst this
      rw [chunkL_nil, unpS_nil]
      rfl
    · rw [chunkL_cons 8 b (by omega) h, unpS_cons b h, List.flatMap_cons, ih (b.drop 8).length (by simp; omega) (b.drop 8) rfl]
theorem read2_put (s : Sta) (h : s.ok = true) : read2S (put2 s) = some s.ints := by
  have e1 : text2S (put2 s) = shorts s.ints := by
    unfold text2S put2
    rw [text2_unp]
    exact unp_pieces (0, 0) _
  have e2 : takesGo 5 [] (shorts s.ints) = (0, [] ++ s.ints, []) := by
    have := takesGo_put s.ints (Sta.nums h) [] []
    rw [List.append_nil] at this
    exact this
  unfold read2S
  rw [if_neg (by unfold put2; simp), e1, e2]
  rfl
/-- What a reading's list makes. -/
def staOf (l : List Int) : Sta := ⟨l.getD 0 0, l.getD 1 0, l.getD 2 0, l.getD 3 0, l.getD 4 0 == 1⟩
theorem staOf_ints (s : Sta) : staOf s.ints = s := by
  obtain ⟨i, t, u, l, b⟩ := s
  cases b <;> rfl
end Go.Proofs.YtkpdlkikkcnhiaaDoor

namespace Go.Proofs.YtkpdlkikkcnhiaaDoor
open Go.RowKit Go.Mv
set_option maxRecDepth 100000

/-- What putting a state tells. -/
def putR (s : Sta) (f : Int) : Option (List UInt8) := if s.ok = true then (if f = 1 then some (put1 s) else if f = 2 then some (put2 s) else none) else none
def PutQ (w : World) (r : Option (List UInt8)) (e : Ending) (w' : World) : Prop := match r with | some l => PutP w l e w' | none => ShortBad w e w'
theorem Put_any (s : Sta) (f : Int) (w : World) (hT : TabW w) : Calls Tryd.prog 7 #[.agg #[.int .i64 s.idx, .int .i64 s.term, .int .i64 s.sum, .int .i64 s.lvl, .bool s.fin], .int .i64 f] w (PutQ w (putR s f)) := by
  unfold putR PutQ
  by_cases h : s.ok = true
  · rw [if_pos h]
    by_cases h1 : f = 1
    · subst h1; exact Put_ok1 s w h hT
    · rw [if_neg h1]
      by_cases h2 : f = 2
      · subst h2; exact Put_ok2 s w h hT
      · rw [if_neg h2]; exact Put_bad s f w (by omega)
  · rw [if_neg h]; exact Put_bad s f w (.inl (by simpa using h))

theorem takesGo_len (k : Nat) : ∀ (acc : List Int) (bs : List UInt8), (takesGo k acc bs).1 = 0 → (takesGo k acc bs).2.1.length = acc.length + k := by
  induction k with
  | zero => intro acc bs _; rfl
  | succ k ih =>
    intro acc bs h
    unfold takesGo at h ⊢
    split at h
    · rename_i h0
      rw [if_pos h0, ih _ _ h]
      simp; omega
    · rename_i h0
      exact absurd h h0
theorem longsGo_len (k : Nat) : ∀ (acc : List Int) (bs : List UInt8) (l : List Int), longsGo k acc bs = some l → l.length = acc.length + k := by
  induction k with
  | zero => intro acc bs l h; cases h; rfl
  | succ k ih =>
    intro acc bs l h
    unfold longsGo at h
    split at h
    · rw [ih _ _ _ h]; simp; omega
    · cases h
theorem readS_len {b : List UInt8} {f : Int} {l : List Int} (h : readS b f = some l) : l.length = 5 := by
  unfold readS at h
  split at h
  · unfold read2S at h
    split at h
    · cases h
    · split at h
      · rename_i h0
        cases h
        exact takesGo_len 5 [] _ h0
      · cases h
  · unfold read1S at h
    split at h
    · cases hl : longsGo 3 [] (b.drop 1) with
      | none => rw [hl] at h; cases h
      | some l0 =>
        rw [hl] at h
        cases h
        have := longsGo_len 3 [] _ _ hl
        simp [this]
    · cases h
/-- What taking tells. -/
def takeR (b : List UInt8) (f : Int) : Option Sta :=
  match readS b f with
  | none => none
  | some l => match putR (staOf l) f with
    | none => none
    | some c => if b = c then some (staOf l) else none
def staZ : Sta := ⟨0, 0, 0, 0, false⟩
def TakeR (w : World) (r : Option Sta) (e : Ending) (w' : World) : Prop :=
  (match r with
  | some s => e = .returned (.tuple #[.agg #[.int .i64 s.idx, .int .i64 s.term, .int .i64 s.sum, .int .i64 s.lvl, .bool s.fin], .int .i64 0])
  | none => e = .returned (.tuple #[.agg #[.int .i64 0, .int .i64 0, .int .i64 0, .int .i64 0, .bool false], .int .i64 11])) ∧ Ext w w'

theorem take_res (tmps : Array Value) (W : World) (b : Nat) (cs : Array Value) (u : Value) (h4 : tmps.getD 4 undef = .pointer (some ⟨b, 0, none⟩)) (h5 : tmps.getD 5 undef = u) (hb : Blk W b 23 cs) (hs : cs.size = 5) : (results Tryd.f10 tmps).run Tryd.prog W = .ok (.tuple #[.agg cs, u]) W := by
  have hl := hb.load (P := Tryd.prog) staUnder rfl (by rw [hs]; kernel_rfl)
  have h4' : tmps[4]?.getD undef = .pointer (some ⟨b, 0, none⟩) := by simpa using h4
  have h5' : tmps[5]?.getD undef = u := by simpa using h5
  simp [results, Tryd.results10, h4', h5', asAddr, hl]
/-- Five cells written anew. -/
theorem blk5f {W : World} {b : Nat} {t : TypeId} {cs : Array Value} (h : Blk W b t cs) : W.frozen? ⟨b, 0, none⟩ = false ∧ W.frozen? ⟨b, 1, none⟩ = false ∧ W.frozen? ⟨b, 2, none⟩ = false ∧ W.frozen? ⟨b, 3, none⟩ = false ∧ W.frozen? ⟨b, 4, none⟩ = false :=
  ⟨h.frozen 0, h.frozen 1, h.frozen 2, h.frozen 3, h.frozen 4⟩
theorem blk_set5 {W : World} {b : Nat} {t : TypeId} {a v u x y : Value} (h : Blk W b t #[a, v, u, x, y]) (a' v' u' x' y' : Value) : Blk (((((W.setCell ⟨b, 0, none⟩ a').setCell ⟨b, 1, none⟩ v').setCell ⟨b, 2, none⟩ u').setCell ⟨b, 3, none⟩ x').setCell ⟨b, 4, none⟩ y') b t #[a', v', u', x', y'] :=
  ((((h.set 0 a').set 1 v').set 2 u').set 3 x').set 4 y'
theorem ext_set5 {w W : World} (h : Ext w W) {b : Nat} (hb : w.heap.size ≤ b) (a' v' u' x' y' : Value) : Ext w (((((W.setCell ⟨b, 0, none⟩ a').setCell ⟨b, 1, none⟩ v').setCell ⟨b, 2, none⟩ u').setCell ⟨b, 3, none⟩ x').setCell ⟨b, 4, none⟩ y') :=
  ((((Below.setCell h hb a').setCell hb v').setCell hb u').setCell hb x').setCell hb y'

set_option maxHeartbeats 1000000 in
theorem Take_none (v : Value) (bs : List UInt8) (f : Int) (w : World) (hBs : Bs w v bs) (hl : bs.length ≤ 1000000) (hr : readS bs f = none) : Calls Tryd.prog 10 #[v, .int .i64 f] w (TakeR w none) := by
  have hb := Blk.new w 23 #[.int .i64 0, .int .i64 0, .int .i64 0, .int .i64 0, .bool false]
  have hX : Ext w (w.alloc (.cells #[.int .i64 0, .int .i64 0, .int .i64 0, .int .i64 0, .bool false] 23)) := Ext.alloc (Ext.refl _) _
  have key := read_any v bs f (w.alloc (.cells #[.int .i64 0, .int .i64 0, .int .i64 0, .int .i64 0, .bool false] 23)) (hBs.ext hX) hl
  rw [hr] at key
  have Key := Lib.hid key
  clear key hr hBs
  go_enter Tryd.func10, Tryd.ntmps10
  go_wp2_with fail
  refine Key.out.mono ?_
  rintro e w1 ⟨v1, rfl, -, hE1⟩
  obtain ⟨g0, g1, g2, g3, g4⟩ := blk5 (hb.ext hE1)
  have hb1 := hb.ext hE1
  obtain ⟨f0, f1, f2, f3, f4⟩ := blk5f hb1
  try simp only [Option.isSome]
  go_wp2_with fail
  refine bodyPost_ret (take_res _ _ _ _ _ rfl rfl (blk_set5 hb1 _ _ _ _ _) rfl) rfl ⟨rfl, ext_set5 (Ext.trans hX hE1) (Nat.le_refl _) _ _ _ _ _⟩

theorem cell_set5 {W : World} {b q k : Nat} {z : Value} (h : W.cell? ⟨q, k, none⟩ = some z) (hne : b ≠ q) (a' v' u' x' y' : Value) : (((((W.setCell ⟨b, 0, none⟩ a').setCell ⟨b, 1, none⟩ v').setCell ⟨b, 2, none⟩ u').setCell ⟨b, 3, none⟩ x').setCell ⟨b, 4, none⟩ y').cell? ⟨q, k, none⟩ = some z := by
  have hn : some q ≠ some b := fun e => hne (by cases e; rfl)
  exact cell_grown (grownBy_set _ b 4 y') (cell_grown (grownBy_set _ b 3 x') (cell_grown (grownBy_set _ b 2 u') (cell_grown (grownBy_set _ b 1 v') (cell_grown (grownBy_set _ b 0 a') h hn) hn) hn) hn) hn
theorem five {l : List Int} (h : l.length = 5) : ∃ a b c d e, l = [a, b, c, d, e] := by
  match l, h with
  | [a, b, c, d, e], _ => exact ⟨a, b, c, d, e, rfl⟩

set_option maxHeartbeats 1000000 in
theorem Take_some (v : Value) (bs : List UInt8) (f : Int) (w : World) (hT : TabW w) (hBs : Bs w v bs) (hl : bs.length ≤ 1000000) (l : List Int) (hr : readS bs f = some l) : Calls Tryd.prog 10 #[v, .int .i64 f] w (TakeR w (takeR bs f)) := by
  have hb := Blk.new w 23 #[.int .i64 0, .int .i64 0, .int .i64 0, .int .i64 0, .bool false]
  have hX : Ext w (w.alloc (.cells #[.int .i64 0, .int .i64 0, .int .i64 0, .int .i64 0, .bool false] 23)) := Ext.alloc (Ext.refl _) _
  have key := read_any v bs f (w.alloc (.cells #[.int .i64 0, .int .i64 0, .int .i64 0, .int .i64 0, .bool false] 23)) (hBs.ext hX) hl
  rw [hr] at key
  have Key := Lib.hid key
  obtain ⟨x0, x1, x2, x3, x4, rfl⟩ := five (readS_len hr)
  obtain ⟨s, hs⟩ : ∃ s : Sta, s = ⟨x0, x1, x2, x3, x4 == 1⟩ := ⟨_, rfl⟩
  have hr2 : takeR bs f = match putR s f with | none => none | some c => if bs = c then some s else none := by
    unfold takeR; rw [hr, hs]; rfl
  have Hr2 := Lib.hid hr2
  have Hs := Lib.hid hs
  clear hr2 hs
  have HBs := Lib.hid hBs
  have HT := Lib.hid hT
  clear key hr hBs hT
  go_enter Tryd.func10, Tryd.ntmps10
  go_wp2_with fail
  refine Key.out.mono ?_
  rintro e w1 ⟨v1, rfl, ho, hE1⟩
  obtain ⟨q, cap, rfl, hq, hq1, hq2⟩ := ownsRow_pos (ho _ rfl) (by simp)
  obtain ⟨_, q', off', e', hc⟩ := SlR.at_ (SlR.of_own (ho _ rfl)) (by simp)
  cases e'
  have hc0 := hc 0 _ rfl
  have hc1 := hc 1 _ rfl
  have hc2 := hc 2 _ rfl
  have hc3 := hc 3 _ rfl
  have hc4 := hc 4 _ rfl
  simp only [Nat.zero_add, iv] at hc0 hc1 hc2 hc3 hc4
  clear hc
  simp only [List.length_cons, List.length_nil, Nat.zero_add, Nat.reduceAdd] at hq1 ⊢
  have hb1 := hb.ext hE1
  try simp only [Option.isSome]
  go_wp2_with fail
  have hcs : w1.cell? ⟨q, 0, none⟩ = some (.int .i64 x0) ∧ w1.cell? ⟨q, 1, none⟩ = some (.int .i64 x1) ∧ w1.cell? ⟨q, 2, none⟩ = some (.int .i64 x2) ∧ w1.cell? ⟨q, 3, none⟩ = some (.int .i64 x3) ∧ w1.cell? ⟨q, 4, none⟩ = some (.int .i64 x4) := ⟨hc0, hc1, hc2, hc3, hc4⟩
  have hqw : w.heap.size ≠ q := by rw [World.size_alloc] at hq; omega
  clear hc0 hc1 hc2 hc3 hc4 ho
  refine wp_region_held_drew (S := fun w' => w'.cell? ⟨q, 0, none⟩ = some (.int .i64 x0) ∧ w'.cell? ⟨q, 1, none⟩ = some (.int .i64 x1) ∧ w'.cell? ⟨q, 2, none⟩ = some (.int .i64 x2) ∧ w'.cell? ⟨q, 3, none⟩ = some (.int .i64 x3) ∧ w'.cell? ⟨q, 4, none⟩ = some (.int .i64 x4)) (by kernel_rfl) hcs (fun hHeld => ?_)
  refine wpAnyH_takeL (i := 0) (v := ?v1_0) rfl (by kernel_rfl) (by kernel_rfl) (by kernel_rfl) (fun _ _ _ h => h) (by rfl) (by assumption) (fun w hw => ?h1_0) ?r1_0
  case h1_0 => (try dsimp only at hw); go_simp; try with_reducible rfl
  case' r1_0 => skip
  try simp only [Act.put, List.setIfInBounds_toArray, List.set_cons_zero, List.set_cons_succ]
  refine wpAnyH_takeL (i := 1) (v := ?v1_1) rfl (by kernel_rfl) (by kernel_rfl) (by kernel_rfl) (fun _ _ _ h => h) (by rfl) (by assumption) (fun w hw => ?h1_1) ?r1_1
  case h1_1 => (try dsimp only at hw); go_simp; try with_reducible rfl
  case' r1_1 => skip
  try simp only [Act.put, List.setIfInBounds_toArray, List.set_cons_zero, List.set_cons_succ]
  refine wpAnyH_takeL (i := 2) (v := ?v1_2) rfl (by kernel_rfl) (by kernel_rfl) (by kernel_rfl) (fun _ _ _ h => h) (by rfl) (by assumption) (fun w hw => ?h1_2) ?r1_2
  case h1_2 => (try dsimp only at hw); go_simp; try with_reducible rfl
  case' r1_2 => skip
  try simp only [Act.put, List.setIfInBounds_toArray, List.set_cons_zero, List.set_cons_succ]
  refine wpAnyH_takeL (i := 3) (v := ?v1_3) rfl (by kernel_rfl) (by kernel_rfl) (by kernel_rfl) (fun _ _ _ h => h) (by rfl) (by assumption) (fun w hw => ?h1_3) ?r1_3
  case h1_3 => (try dsimp only at hw); go_simp; try with_reducible rfl
  case' r1_3 => skip
  try simp only [Act.put, List.setIfInBounds_toArray, List.set_cons_zero, List.set_cons_succ]
  refine wpAnyH_takeL (i := 4) (v := ?v1_4) rfl (by kernel_rfl) (by kernel_rfl) (by kernel_rfl) (fun _ _ _ h => h) (by rfl) (by assumption) (fun w hw => ?h1_4) ?r1_4
  case h1_4 => (try dsimp only at hw); go_simp; try with_reducible rfl
  case' r1_4 => skip
  try simp only [Act.put, List.setIfInBounds_toArray, List.set_cons_zero, List.set_cons_succ]
  refine wpAnyH_takeL (i := 5) (v := ?v1_5) rfl (by kernel_rfl) (by kernel_rfl) (by kernel_rfl) (fun _ _ _ h => h) (by rfl) (by assumption) (fun w hw => ?h1_5) ?r1_5
  case h1_5 => (try dsimp only at hw); go_simp; try with_reducible rfl
  case' r1_5 => skip
  try simp only [Act.put, List.setIfInBounds_toArray, List.set_cons_zero, List.set_cons_succ]
  refine wpAnyH_takeL (i := 6) (v := ?v1_6) rfl (by kernel_rfl) (by kernel_rfl) (by kernel_rfl) (fun _ _ _ h => h) (by rfl) (by assumption) (fun w hw => ?h1_6) ?r1_6
  case h1_6 => (try dsimp only at hw); go_simp; try with_reducible rfl
  case' r1_6 => skip
  try simp only [Act.put, List.setIfInBounds_toArray, List.set_cons_zero, List.set_cons_succ]
  refine wpAnyH_takeL (i := 7) (v := ?v1_7) rfl (by kernel_rfl) (by kernel_rfl) (by kernel_rfl) (fun _ _ _ h => h) (by rfl) (by assumption) (fun w hw => ?h1_7) ?r1_7
  case h1_7 => (try dsimp only at hw); go_simp; try with_reducible rfl
  case' r1_7 => skip
  try simp only [Act.put, List.setIfInBounds_toArray, List.set_cons_zero, List.set_cons_succ]
  refine wpAnyH_takeL (i := 8) (v := ?v1_8) rfl (by kernel_rfl) (by kernel_rfl) (by kernel_rfl) (fun _ _ _ h => h) (by rfl) (by assumption) (fun w hw => ?h1_8) ?r1_8
  case h1_8 => (try dsimp only at hw); go_simp; try with_reducible rfl
  case' r1_8 => skip
  try simp only [Act.put, List.setIfInBounds_toArray, List.set_cons_zero, List.set_cons_succ]
  refine wpAnyH_takeL (i := 9) (v := ?v1_9) rfl (by kernel_rfl) (by kernel_rfl) (by kernel_rfl) (fun _ _ _ h => h) (by rfl) (by assumption) (fun w hw => ?h1_9) ?r1_9
  case h1_9 => (try dsimp only at hw); go_simp; try with_reducible rfl
  case' r1_9 => skip
  try simp only [Act.put, List.setIfInBounds_toArray, List.set_cons_zero, List.set_cons_succ]
  refine wpAnyH_takeL (i := 10) (v := ?v1_10) rfl (by kernel_rfl) (by kernel_rfl) (by kernel_rfl) (fun _ _ _ h => h) (by rfl) (by assumption) (fun w hw => ?h1_10) ?r1_10
  case h1_10 => (try dsimp only at hw); go_simp; try with_reducible rfl
  case' r1_10 => skip
  try simp only [Act.put, List.setIfInBounds_toArray, List.set_cons_zero, List.set_cons_succ]
  refine wpAnyH_takeL (i := 11) (v := ?v1_11) rfl (by kernel_rfl) (by kernel_rfl) (by kernel_rfl) (fun _ _ _ h => h) (by rfl) (by assumption) (fun w hw => ?h1_11) ?r1_11
  case h1_11 => (try dsimp only at hw); go_simp; try with_reducible rfl
  case' r1_11 => skip
  try simp only [Act.put, List.setIfInBounds_toArray, List.set_cons_zero, List.set_cons_succ]
  refine wpAnyH_takeL (i := 12) (v := ?v1_12) rfl (by kernel_rfl) (by kernel_rfl) (by kernel_rfl) (fun _ _ _ h => h) (by rfl) (by assumption) (fun w hw => ?h1_12) ?r1_12
  case h1_12 => (try dsimp only at hw); go_simp; try with_reducible rfl
  case' r1_12 => skip
  try simp only [Act.put, List.setIfInBounds_toArray, List.set_cons_zero, List.set_cons_succ]
  refine wpAnyH_takeL (i := 13) (v := ?v1_13) rfl (by kernel_rfl) (by kernel_rfl) (by kernel_rfl) (fun _ _ _ h => h) (by rfl) (by assumption) (fun w hw => ?h1_13) ?r1_13
  case h1_13 => (try dsimp only at hw); go_simp; try with_reducible rfl
  case' r1_13 => skip
  try simp only [Act.put, List.setIfInBounds_toArray, List.set_cons_zero, List.set_cons_succ]
  refine wpAnyH_takeL (i := 14) (v := ?v1_14) rfl (by kernel_rfl) (by kernel_rfl) (by kernel_rfl) (fun _ _ _ h => h) (by rfl) (by assumption) (fun w hw => ?h1_14) ?r1_14
  case h1_14 => (try dsimp only at hw); go_simp; try with_reducible rfl
  case' r1_14 => skip
  try simp only [Act.put, List.setIfInBounds_toArray, List.set_cons_zero, List.set_cons_succ]
  refine wpAnyH_takeL (i := 15) (v := ?v1_15) rfl (by kernel_rfl) (by kernel_rfl) (by kernel_rfl) (fun _ _ _ h => h) (by rfl) (by assumption) (fun w hw => ?h1_15) ?r1_15
  case h1_15 => (try dsimp only at hw); go_simp; try with_reducible rfl
  case' r1_15 => skip
  try simp only [Act.put, List.setIfInBounds_toArray, List.set_cons_zero, List.set_cons_succ]
  refine wpAnyH_takeL (i := 16) (v := ?v1_16) rfl (by kernel_rfl) (by kernel_rfl) (by kernel_rfl) (fun _ _ _ h => h) (by rfl) (by assumption) (fun w hw => ?h1_16) ?r1_16
  case h1_16 => (try dsimp only at hw); go_simp; try with_reducible rfl
  case' r1_16 => skip
  try simp only [Act.put, List.setIfInBounds_toArray, List.set_cons_zero, List.set_cons_succ]
  obtain ⟨g0, g1, g2, g3, g4⟩ := blk5 hb1
  obtain ⟨f0, f1, f2, f3, f4⟩ := blk5f hb1
  refine AllReadyH.one (i := 17) rfl (by kernel_rfl) (by rfl) (fun K hK => ?_)
  go_simp
  have hb2 := blk_set5 hb1 (.int .i64 x0) (.int .i64 x1) (.int .i64 x2) (.int .i64 x3) (.bool (x4 == 1))
  have hE2 := ext_set5 (Ext.trans hX hE1) (Nat.le_refl _) (.int .i64 x0) (.int .i64 x1) (.int .i64 x2) (.int .i64 x3) (.bool (x4 == 1))
  have k0 := cell_set5 hcs.1 hqw (.int .i64 x0) (.int .i64 x1) (.int .i64 x2) (.int .i64 x3) (.bool (x4 == 1))
  have k1 := cell_set5 hcs.2.1 hqw (.int .i64 x0) (.int .i64 x1) (.int .i64 x2) (.int .i64 x3) (.bool (x4 == 1))
  have k2 := cell_set5 hcs.2.2.1 hqw (.int .i64 x0) (.int .i64 x1) (.int .i64 x2) (.int .i64 x3) (.bool (x4 == 1))
  have k3 := cell_set5 hcs.2.2.2.1 hqw (.int .i64 x0) (.int .i64 x1) (.int .i64 x2) (.int .i64 x3) (.bool (x4 == 1))
  have k4 := cell_set5 hcs.2.2.2.2 hqw (.int .i64 x0) (.int .i64 x1) (.int .i64 x2) (.int .i64 x3) (.bool (x4 == 1))
  clear f0 f1 f2 f3 f4 g0 g1 g2 g3 g4 hHeld hb1 hcs
  generalize (((((w1.setCell ⟨w.heap.size, 0, none⟩ (.int .i64 x0)).setCell ⟨w.heap.size, 1, none⟩ (.int .i64 x1)).setCell ⟨w.heap.size, 2, none⟩ (.int .i64 x2)).setCell ⟨w.heap.size, 3, none⟩ (.int .i64 x3)).setCell ⟨w.heap.size, 4, none⟩ (.bool (x4 == 1))) = w1' at *
  have hcs2 : w1'.drew.cell? ⟨q, 0, none⟩ = some (.int .i64 x0) ∧ w1'.drew.cell? ⟨q, 1, none⟩ = some (.int .i64 x1) ∧ w1'.drew.cell? ⟨q, 2, none⟩ = some (.int .i64 x2) ∧ w1'.drew.cell? ⟨q, 3, none⟩ = some (.int .i64 x3) ∧ w1'.drew.cell? ⟨q, 4, none⟩ = some (.int .i64 x4) := ⟨k0, k1, k2, k3, k4⟩
  have hb2 : Blk w1'.drew w.heap.size 23 #[.int .i64 x0, .int .i64 x1, .int .i64 x2, .int .i64 x3, .bool (x4 == 1)] := hb2
  have hE2 : Ext w w1'.drew := Ext.drew hE2
  generalize w1'.drew = w2 at *
  refine hK.out _ _ hcs2 (fun hHeld => ?_)
  clear hK K
  try simp only [Act.put, List.setIfInBounds_toArray, List.set_cons_zero, List.set_cons_succ]
  refine wpAnyH_done (by kernel_rfl) ?_ _
  clear hHeld hcs2
  obtain ⟨g0, g1, g2, g3, g4⟩ := blk5 hb2
  obtain ⟨f0, f1, f2, f3, f4⟩ := blk5f hb2
  have key2 := Put_any s f w2 (HT.out.ext hE2)
  have Hs2 := Hs.out
  subst Hs2
  dsimp only at key2
  have HBs2 : Hid (Bs w2 v bs) := HBs.out.ext hE2
  obtain ⟨r, hrr⟩ : ∃ r, putR ⟨x0, x1, x2, x3, x4 == 1⟩ f = r := ⟨_, rfl⟩
  have hr2 := Hr2.out
  rw [hrr] at key2 hr2
  clear Hr2 hrr Hs
  cases r with
  | none =>
    have Key2 : Hid (Calls _ _ _ _ (ShortBad w2)) := key2
    have Hr2 : Hid (takeR bs f = none) := hr2
    clear key2 hr2
    go_wp2_with fail
    refine Key2.out.mono ?_
    rintro e w3 ⟨rfl, hE3⟩
    have hb3 := hb2.ext hE3
    clear f0 f1 f2 f3 f4 g0 g1 g2 g3 g4
    obtain ⟨g0, g1, g2, g3, g4⟩ := blk5 hb3
    obtain ⟨f0, f1, f2, f3, f4⟩ := blk5f hb3
    go_wp2_with fail
    refine bodyPost_ret (take_res _ _ _ _ _ rfl rfl (blk_set5 hb3 _ _ _ _ _) rfl) rfl ⟨by rw [Hr2.out]; exact rfl, ext_set5 (Ext.trans hE2 hE3) (Nat.le_refl _) _ _ _ _ _⟩
  | some cs =>
    have Key2 : Hid (Calls _ _ _ _ (PutP w2 cs)) := key2
    clear key2
    by_cases hbc : bs = cs
    · have Hr2 : Hid (takeR bs f = some ⟨x0, x1, x2, x3, x4 == 1⟩) := by
        rw [Hid, hr2]; exact if_pos hbc
      have Hbc := Lib.hid hbc
      clear hr2 hbc
      go_wp2_with fail
      refine Key2.out.mono ?_
      rintro e w3 ⟨A3, c3, rfl, ho3, hE3⟩
      have hb3 := hb2.ext hE3
      have key3 := bytesEqual_any v (.slice A3 cs.length c3) bs cs w3 (HBs2.out.ext hE3) (SlR.of_own ho3)
      rw [decide_eq_true Hbc.out] at key3
      have Key3 := Lib.hid key3
      clear f0 f1 f2 f3 f4 g0 g1 g2 g3 g4 key3 ho3
      obtain ⟨g0, g1, g2, g3, g4⟩ := blk5 hb3
      obtain ⟨f0, f1, f2, f3, f4⟩ := blk5f hb3
      go_wp2_with fail
      refine Key3.out.mono ?_
      rintro e w4 ⟨rfl, rfl⟩
      go_wp2_with fail
      refine bodyPost_ret (take_res _ _ _ _ _ rfl rfl (blk_set5 hb3 _ _ _ _ _) rfl) rfl ⟨by rw [Hr2.out]; exact rfl, ext_set5 (Ext.trans hE2 hE3) (Nat.le_refl _) _ _ _ _ _⟩
    · have Hr2 : Hid (takeR bs f = none) := by
        rw [Hid, hr2]; exact if_neg hbc
      have Hbc := Lib.hid hbc
      clear hr2 hbc
      go_wp2_with fail
      refine Key2.out.mono ?_
      rintro e w3 ⟨A3, c3, rfl, ho3, hE3⟩
      have hb3 := hb2.ext hE3
      have key3 := bytesEqual_any v (.slice A3 cs.length c3) bs cs w3 (HBs2.out.ext hE3) (SlR.of_own ho3)
      rw [decide_eq_false Hbc.out] at key3
      have Key3 := Lib.hid key3
      clear f0 f1 f2 f3 f4 g0 g1 g2 g3 g4 key3 ho3
      obtain ⟨g0, g1, g2, g3, g4⟩ := blk5 hb3
      obtain ⟨f0, f1, f2, f3, f4⟩ := blk5f hb3
      go_wp2_with fail
      refine Key3.out.mono ?_
      rintro e w4 ⟨rfl, rfl⟩
      go_wp2_with fail
      refine bodyPost_ret (take_res _ _ _ _ _ rfl rfl (blk_set5 hb3 _ _ _ _ _) rfl) rfl ⟨by rw [Hr2.out]; exact rfl, ext_set5 (Ext.trans hE2 hE3) (Nat.le_refl _) _ _ _ _ _⟩

theorem STake_any (v : Value) (bs : List UInt8) (f : Int) (w : World) (hT : TabW w) (hBs : Bs w v bs) (hl : bs.length ≤ 1000000) : Calls Tryd.prog 10 #[v, .int .i64 f] w (TakeR w (takeR bs f)) := by
  cases hr : readS bs f with
  | none =>
    have : takeR bs f = none := by unfold takeR; rw [hr]
    rw [this]
    exact Take_none v bs f w hBs hl hr
  | some l => exact Take_some v bs f w hT hBs hl l hr

/-- What putting again tells. -/
def againR (b : List UInt8) (f t : Int) : Int × List UInt8 :=
  match takeR b f with
  | none => (11, [])
  | some s => match putR s t with
    | none => (2, [])
    | some c => (0, c)
def AgainP (w : World) (r : Int × List UInt8) (e : Ending) (w' : World) : Prop := ∃ v, e = .returned (.tuple #[v, .int .i64 r.1]) ∧ OwnB w' w.heap.size v r.2 ∧ Ext w w'
theorem Again_any (v : Value) (bs : List UInt8) (f t : Int) (w : World) (hT : TabW w) (hBs : Bs w v bs) (hl : bs.length ≤ 1000000) : Calls Tryd.prog 11 #[v, .int .i64 f, .int .i64 t] w (AgainP w (againR bs f t)) := by
  have key := STake_any v bs f w hT hBs hl
  cases hr : takeR bs f with
  | none =>
    have Ha : Hid (againR bs f t = (11, [])) := by rw [Hid]; unfold againR; rw [hr]
    rw [hr] at key
    have Key := Lib.hid key
    clear key hr hBs hT
    go_enter Tryd.func11, Tryd.ntmps11
    go_wp2_with fail
    refine Key.out.mono ?_
    rintro e w1 ⟨rfl, hE1⟩
    go_wp2_with fail
    go_ret2
    exact ⟨.slice none 0 0, by rw [Ha.out]; rfl, by rw [Ha.out]; exact World.ownsRow_nil _ _ _ _, Ext.alloc hE1 _⟩
  | some s =>
    have Ha : Hid (againR bs f t = match putR s t with | none => (2, []) | some c => (0, c)) := by rw [Hid]; unfold againR; rw [hr]
    rw [hr] at key
    have Key := Lib.hid key
    have HT := Lib.hid hT
    clear key hr hBs hT
    go_enter Tryd.func11, Tryd.ntmps11
    go_wp2_with fail
    refine Key.out.mono ?_
    rintro e w1 ⟨rfl, hE1⟩
    have hb := Blk.new w1 23 #[.int .i64 s.idx, .int .i64 s.term, .int .i64 s.sum, .int .i64 s.lvl, .bool s.fin]
    have hE2 : Ext w (w1.alloc (.cells #[.int .i64 s.idx, .int .i64 s.term, .int .i64 s.sum, .int .i64 s.lvl, .bool s.fin] 23)) := Ext.alloc hE1 _
    have key2 := Put_any s t _ (HT.out.ext hE2)
    have Key2 := Lib.hid key2
    clear key2
    go_wp2_with fail
    refine Key2.out.mono ?_
    rintro e w3 h3
    obtain ⟨r, hrr⟩ : ∃ r, putR s t = r := ⟨_, rfl⟩
    rw [hrr] at h3
    have ha := Ha.out
    rw [hrr] at ha
    cases r with
    | none =>
      obtain ⟨rfl, hE3⟩ := h3
      go_wp2_with fail
      go_ret2
      exact ⟨.slice none 0 0, by rw [ha]; rfl, by rw [ha]; exact World.ownsRow_nil _ _ _ _, Ext.trans hE2 hE3⟩
    | some cs =>
      obtain ⟨A3, c3, rfl, ho3, hE3⟩ := h3
      go_wp2_with fail
      go_ret2
      exact ⟨.slice A3 cs.length c3, by rw [ha]; rfl, by rw [ha]; exact own_base ho3 hE2.size, Ext.trans hE2 hE3⟩

set_option maxHeartbeats 400000 in
theorem same9_any (va vb : Value) (a b : List UInt8) (w : World) (ha : Bs w va a) (hb : Bs w vb b) :
    Calls Tryd.prog 12 #[va, vb] w fun e w' => e = .returned (.bool (decide (a = b))) ∧ Ext w w' := by
  obtain ⟨A, ca, rfl, h1, h2⟩ := SlR.open_ ha
  obtain ⟨B, cb, rfl, h3, h4⟩ := SlR.open_ hb
  have hca := run_convert_sl (P := Tryd.prog) w 24 9 5 Tryd.underlying24 Tryd.underlying5 Tryd.underlying9 ha
  have hcb := run_convert_sl (P := Tryd.prog) w 24 9 5 Tryd.underlying24 Tryd.underlying5 Tryd.underlying9 hb
  go_enter Tryd.func12, Tryd.ntmps12
  go_wp2
  go_ret
  exact ⟨ret_bool (by rw [Bool.eq_iff_iff]; simp), Ext.refl _⟩
end Go.Proofs.YtkpdlkikkcnhiaaDoor

namespace Go.Proofs.YtkpdlkikkcnhiaaDoor
open Go.RowKit Go.Mv

theorem tab_top (a b : Nat) (ha : a < 16) (hb : b < 16) (h : crcTab.getD a 0 / 268435456 = crcTab.getD b 0 / 268435456) : a = b := by
  have key : ∀ x, x < 16 → ∀ y, y < 16 → crcTab.getD x 0 / 268435456 = crcTab.getD y 0 / 268435456 → x = y := by decide
  exact key a ha b hb h
theorem xor_cancel {t x y : Nat} (h : t ^^^ x = t ^^^ y) : x = y := by
  have := congrArg (t ^^^ ·) h
  simpa [← Nat.xor_assoc] using this
theorem step_top (s h : Nat) (hs : s < 4294967296) : stepN s h / 268435456 = crcTab.getD ((s ^^^ h) % 16) 0 / 268435456 := by
  have e : ∀ x y : Nat, (x ^^^ y) / 268435456 = (x / 268435456) ^^^ (y / 268435456) := fun x y => by
    have := Nat.shiftRight_xor_distrib (a := x) (b := y) (i := 28)
    simpa [Nat.shiftRight_eq_div_pow] using this
  unfold stepN
  rw [e, show s / 16 / 268435456 = 0 from by omega, Nat.xor_zero]
theorem step_inj {s s' h h' : Nat} (hs : s < 4294967296) (hs' : s' < 4294967296) (e : stepN s h = stepN s' h') : (s ^^^ h) % 16 = (s' ^^^ h') % 16 ∧ s / 16 = s' / 16 := by
  have e1 : (s ^^^ h) % 16 = (s' ^^^ h') % 16 := tab_top _ _ (by omega) (by omega) (by rw [← step_top s h hs, ← step_top s' h' hs', e])
  refine ⟨e1, ?_⟩
  unfold stepN at e
  rw [e1] at e
  exact xor_cancel e
theorem xor_mod16 (a b : Nat) : (a ^^^ b) % 16 = (a % 16) ^^^ (b % 16) := Nat.xor_mod_two_pow (n := 4)
theorem step_inj_s {s s' h : Nat} (hs : s < 4294967296) (hs' : s' < 4294967296) (e : stepN s h = stepN s' h) : s = s' := by
  obtain ⟨h1, h2⟩ := step_inj hs hs' e
  rw [xor_mod16, xor_mod16, Nat.xor_comm, Nat.xor_comm (s' % 16)] at h1
  have := xor_cancel h1
  omega
def byteStep (s : Nat) (b : UInt8) : Nat := stepN (stepN s (b.toNat % 16)) (b.toNat / 16)
theorem byteStep_lt {s : Nat} (b : UInt8) (hs : s < 4294967296) : byteStep s b < 4294967296 := stepN_lt _ (stepN_lt _ hs)
theorem byte_inj_s {s s' : Nat} (b : UInt8) (hs : s < 4294967296) (hs' : s' < 4294967296) (e : byteStep s b = byteStep s' b) : s = s' :=
  step_inj_s hs hs' (step_inj_s (stepN_lt _ hs) (stepN_lt _ hs') e)
theorem byte_inj {s : Nat} (b c : UInt8) (hs : s < 4294967296) (e : byteStep s b = byteStep s c) : b = c := by
  obtain ⟨h1, h2⟩ := step_inj (stepN_lt _ hs) (stepN_lt _ hs) e
  have h3 : (s ^^^ (b.toNat % 16)) % 16 = (s ^^^ (c.toNat % 16)) % 16 := by
    refine tab_top _ _ (by omega) (by omega) ?_
    rw [← step_top s _ hs, ← step_top s _ hs]
    omega
  have h4 : stepN s (b.toNat % 16) = stepN s (c.toNat % 16) := by unfold stepN; rw [h3]
  rw [h4, xor_mod16, xor_mod16] at h1
  rw [xor_mod16, xor_mod16] at h3
  have h5 := xor_cancel h1
  have h6 := xor_cancel h3
  have hb := b.toNat_lt
  have hc := c.toNat_lt
  apply UInt8.toNat_inj.1
  omega
theorem nextU_eq (s : Nat) (bs : List UInt8) : nextU s bs = bs.foldl byteStep s := by
  unfold nextU halvesL
  induction bs generalizing s with
  | nil => rfl
  | cons b bs ih =>
    have hb := b.toNat_lt
    have e1 : (UInt8.ofNat (b.toNat % 16)).toNat = b.toNat % 16 := by simp; omega
    have e2 : (UInt8.ofNat (b.toNat / 16)).toNat = b.toNat / 16 := by simp; omega
    rw [List.flatMap_cons, List.foldl_append, ih, List.foldl_cons, List.foldl_cons, List.foldl_cons, List.foldl_nil, e1, e2]
    rfl
theorem fold_lt (bs : List UInt8) : ∀ {s : Nat}, s < 4294967296 → bs.foldl byteStep s < 4294967296 := by
  induction bs with
  | nil => intro s h; exact h
  | cons b bs ih => intro s h; exact ih (byteStep_lt b h)
theorem fold_inj (bs : List UInt8) : ∀ {s s' : Nat}, s < 4294967296 → s' < 4294967296 → bs.foldl byteStep s = bs.foldl byteStep s' → s = s' := by
  induction bs with
  | nil => intro s s' _ _ e; exact e
  | cons b bs ih => intro s s' hs hs' e; exact byte_inj_s b hs hs' (ih (byteStep_lt b hs) (byteStep_lt b hs') e)
theorem fold_set (bs : List UInt8) : ∀ (s : Nat) (i : Nat) (c : UInt8), s < 4294967296 → (hi : i < bs.length) → bs.foldl byteStep s = (bs.set i c).foldl byteStep s → bs[i] = c := by
  induction bs with
  | nil => intro s i c _ hi; simp at hi
  | cons b bs ih =>
    intro s i c hs hi e
    cases i with
    | zero => exact byte_inj b c hs (fold_inj bs (byteStep_lt b hs) (byteStep_lt c hs) e)
    | succ i => exact ih _ i c (byteStep_lt b hs) (by simpa using hi) e
theorem nextN_set (bs : List UInt8) (i : Nat) (c : UInt8) (hi : i < bs.length) (e : nextN 0 bs = nextN 0 (bs.set i c)) : bs[i] = c := by
  unfold nextN at e
  have := xor_cancel e
  rw [nextU_eq, nextU_eq] at this
  exact fold_set bs _ i c (by decide) hi this
theorem fourU_inj {a b : Nat} (ha : a < 4294967296) (hb : b < 4294967296) (h : fourU a = fourU b) : a = b := by
  unfold fourU at h
  simp only [List.cons.injEq, and_true] at h
  obtain ⟨h1, h2, h3, h4⟩ := h
  have g1 := congrArg UInt8.toNat h1
  have g2 := congrArg UInt8.toNat h2
  have g3 := congrArg UInt8.toNat h3
  have g4 := congrArg UInt8.toNat h4
  simp only [UInt8.toNat_ofNat'] at g1 g2 g3 g4
  omega
/-- One byte another one: the chain behind tells. -/
theorem crc_set (m m' : List UInt8) (hl : m.length = m'.length) (i : Nat) (hi : i < (crcPut m).length) (c : UInt8) (hc : c ≠ (crcPut m)[i]) (h : crcPut m' = (crcPut m).set i c) : False := by
  unfold crcPut at h
  by_cases h1 : i < m.length
  · rw [List.set_append_left _ _ h1] at h
    obtain ⟨a1, a2⟩ := List.append_inj h (by rw [List.length_set]; exact hl.symm)
    have e := fourU_inj (nextN_lt _ _ (by decide)) (nextN_lt _ _ (by decide)) a2
    rw [a1] at e
    have e2 := nextN_set m i c h1 e.symm
    apply hc
    rw [← e2]
    unfold crcPut
    exact (List.getElem_append_left h1).symm
  · rw [List.set_append_right _ _ (by omega)] at h
    obtain ⟨a1, a2⟩ := List.append_inj h hl.symm
    rw [a1] at a2
    have hi4 : i - m.length < (fourU (nextN 0 m)).length := by
      unfold crcPut at hi
      rw [List.length_append] at hi
      omega
    have e5 : ((fourU (nextN 0 m)).set (i - m.length) c)[i - m.length]? = some c := List.getElem?_set_self hi4
    rw [← a2] at e5
    obtain ⟨_, e7⟩ := List.getElem?_eq_some_iff.1 e5
    apply hc
    rw [← e7]
    unfold crcPut
    exact (List.getElem_append_right (by omega)).symm

theorem put1_len (s : Sta) : (put1 s).length = 22 := by
  have hll : (longs [s.idx, s.term, s.sum]).length = 15 := by rw [longs_len]; rfl
  unfold put1 crcPut
  simp [hll, fourU_len]
theorem put2_len (s : Sta) : (put2 s).length = 2 + ((shorts s.ints).length + ((shorts s.ints).length + 3) / 4 * 4) := by
  unfold put2
  rw [List.length_cons, List.length_cons, piecesS_len]
  omega

/-- What is taken is put as it was. -/
theorem takeR_some {b : List UInt8} {f : Int} {s : Sta} (h : takeR b f = some s) : s.ok = true ∧ ((f = 1 ∧ b = put1 s) ∨ (f = 2 ∧ b = put2 s)) ∧ putR s f = some b := by
  unfold takeR at h
  cases hr : readS b f with
  | none => rw [hr] at h; cases h
  | some l =>
    rw [hr] at h
    dsimp only at h
    cases hp : putR (staOf l) f with
    | none => rw [hp] at h; cases h
    | some c =>
      rw [hp] at h
      dsimp only at h
      split at h
      · rename_i hbc
        cases h
        have hp2 := hp
        unfold putR at hp
        split at hp
        · rename_i hok
          refine ⟨hok, ?_, by rw [hp2, hbc]⟩
          split at hp
          · rename_i h1; cases hp; exact .inl ⟨h1, hbc⟩
          · split at hp
            · rename_i h2; cases hp; exact .inr ⟨h2, hbc⟩
            · cases hp
        · cases hp
      · cases h
/-- What is put is taken. -/
theorem takeR_put {b : List UInt8} {f : Int} {s : Sta} (h : putR s f = some b) : takeR b f = some s := by
  have h0 := h
  unfold putR at h
  split at h
  · rename_i hok
    unfold takeR readS
    split at h
    · rename_i h1
      cases h
      subst h1
      rw [if_neg (by decide), read1_put s hok]
      dsimp only
      rw [staOf_ints, h0]
      dsimp only
      rw [if_pos rfl]
    · split at h
      · rename_i h1 h2
        cases h
        subst h2
        rw [if_pos rfl, read2_put s hok]
        dsimp only
        rw [staOf_ints, h0]
        dsimp only
        rw [if_pos rfl]
      · cases h
  · cases h
theorem putR_two {s : Sta} {f : Int} {b : List UInt8} (h : putR s f = some b) : s.ok = true ∧ ((f = 1 ∧ b = put1 s) ∨ (f = 2 ∧ b = put2 s)) := by
  obtain ⟨h1, h2, _⟩ := takeR_some (takeR_put h)
  exact ⟨h1, h2⟩
theorem putR_len {s : Sta} {f : Int} {b : List UInt8} (h : putR s f = some b) : 2 ≤ b.length ∧ b.length ≤ 100 := by
  obtain ⟨_, ⟨_, rfl⟩ | ⟨_, rfl⟩⟩ := putR_two h
  · rw [put1_len]; omega
  · have := shorts_len s.ints
    have h5 : s.ints.length = 5 := rfl
    rw [put2_len]; omega

theorem pieces_len_inj {a b : Nat} (h : a + (a + 3) / 4 * 4 = b + (b + 3) / 4 * 4) : a = b := by omega
/-- A byte more behind the second writing. -/
theorem put2_more {s s' : Sta} (hs : s.ok = true) (hs' : s'.ok = true) (x : UInt8) (h : put2 s' = put2 s ++ [x]) : False := by
  have hl := congrArg List.length h
  rw [List.length_append, put2_len, put2_len] at hl
  unfold put2 at h
  simp only [List.cons_append, List.cons.injEq, true_and] at h
  obtain ⟨h1, h2⟩ := h
  obtain ⟨r, hr⟩ := unp_more (0, 0) (shorts s.ints) x
  have h3 := congrArg unpS h2
  rw [unp_pieces, hr] at h3
  have k1 := takesGo_put s.ints (Sta.nums hs) [] r
  have k2 := takesGo_put s'.ints (Sta.nums hs') [] []
  rw [List.append_nil, h3] at k2
  have k3 : takesGo s.ints.length [] (shorts s.ints ++ r) = takesGo s'.ints.length [] (shorts s.ints ++ r) := rfl
  rw [k1, k2] at k3
  simp only [Prod.mk.injEq, true_and] at k3
  rw [k3.2, List.append_nil] at h3
  rw [h3] at hl
  simp at hl
/-- One byte of the second writing another one. -/
theorem put2_set {s s' : Sta} (i : Nat) (c : UInt8) (hi : i < (put2 s).length) (hc : c ≠ (put2 s)[i]) (h : put2 s' = (put2 s).set i c) : False := by
  have hl := congrArg List.length h
  rw [List.length_set, put2_len, put2_len] at hl
  have hl2 := pieces_len_inj (Nat.add_left_cancel hl)
  have hget : (put2 s)[i]? = some (put2 s)[i] := List.getElem?_eq_getElem hi
  have hself : ((put2 s).set i c)[i]? = some c := List.getElem?_set_self hi
  rw [← h] at hself
  match i with
  | 0 =>
    apply hc
    have e : (put2 s')[0]? = (put2 s)[0]? := rfl
    rw [e, hget] at hself
    exact (Option.some.inj hself).symm
  | 1 =>
    apply hc
    have e : (put2 s')[1]? = (put2 s)[1]? := by
      unfold put2
      rw [List.getElem?_cons_succ, List.getElem?_cons_succ, List.getElem?_cons_zero, List.getElem?_cons_zero, hl2]
    rw [e, hget] at hself
    exact (Option.some.inj hself).symm
  | i + 2 =>
    have hi2 : i < (piecesS (0, 0) (shorts s.ints)).length := by
      unfold put2 at hi
      simpa using hi
    refine pieces_harm (z := (0, 0)) (by unfold InP; decide) (shorts s.ints) (shorts s'.ints) hl2.symm i hi2 c ?_ ?_
    · intro e
      apply hc
      rw [e]
      rfl
    · unfold put2 at h
      simp at h
      exact h.2
theorem harm_set {s : Sta} {f : Int} {b : List UInt8} (h : putR s f = some b) (i : Nat) (c : UInt8) (hi : i < b.length) (hc : c ≠ b[i]) : takeR (b.set i c) f = none := by
  cases ht : takeR (b.set i c) f with
  | none => rfl
  | some s' =>
    exfalso
    obtain ⟨hok', h', _⟩ := takeR_some ht
    obtain ⟨hok, ⟨rfl, rfl⟩ | ⟨rfl, rfl⟩⟩ := putR_two h
    · rcases h' with ⟨_, h'⟩ | ⟨h', _⟩
      · unfold put1 at h' hi hc
        refine crc_set _ _ ?_ i hi c hc h'.symm
        simp [longs_len]
      · cases h'
    · rcases h' with ⟨h', _⟩ | ⟨_, h'⟩
      · cases h'
      · exact put2_set i c hi hc h'.symm
theorem harm_more {s : Sta} {f : Int} {b : List UInt8} (h : putR s f = some b) (x : UInt8) : takeR (b ++ [x]) f = none := by
  cases ht : takeR (b ++ [x]) f with
  | none => rfl
  | some s' =>
    exfalso
    obtain ⟨hok', h', _⟩ := takeR_some ht
    obtain ⟨hok, ⟨rfl, rfl⟩ | ⟨rfl, rfl⟩⟩ := putR_two h
    · rcases h' with ⟨_, h'⟩ | ⟨h', _⟩
      · have := congrArg List.length h'
        rw [List.length_append, put1_len, put1_len] at this
        simp at this
      · cases h'
    · rcases h' with ⟨h', _⟩ | ⟨_, h'⟩
      · cases h'
      · exact put2_more hok hok' x h'.symm
theorem harm_fewer {s : Sta} {f : Int} {b : List UInt8} (h : putR s f = some b) : takeR (b.take (b.length - 1)) f = none := by
  have hb := putR_len h
  have hsplit : b.take (b.length - 1) ++ [b[b.length - 1]] = b := by
    rw [List.take_append_getElem (by omega)]
    exact List.take_of_length_le (by omega)
  cases ht : takeR (b.take (b.length - 1)) f with
  | none => rfl
  | some s' =>
    exfalso
    have h2 := harm_more (takeR_some ht).2.2 b[b.length - 1]
    rw [hsplit, takeR_put h] at h2
    cases h2
end Go.Proofs.YtkpdlkikkcnhiaaDoor
