/- Merged: Sh2 Find -/
import Derived.Test.YtmecffckghkahaaGreatDoorShadowSays25
set_option linter.all false
set_option maxHeartbeats 8000000
namespace Go.Mv
open Go.RowKit
theorem Moves.blk {M : Nat → Obj → Prop} {A B : World} (h : Moves M A B) {b : Nat} {t : TypeId} {cs : Array Value} (hb : Blk A b t cs) (hM : ¬ M b (.cells cs t (0, 0))) : Blk B b t cs := h.same b _ hb hM
theorem Moves.blkF {n : Nat} {A B : World} (h : Moves (orOther (fun _ _ => False) n) A B) {b : Nat} {t : TypeId} {cs : Array Value} (hb : Blk A b t cs) : Blk B b t cs := h.blk hb (by rintro (h | ⟨_, h⟩); exact h; cases h)
theorem Kept.setF {n : Nat} {A B : World} (h : Kept (orOther (fun _ _ => False) n) A B) (a : Addr) (v : Value) : Kept (orOther (fun _ _ => False) n) A (B.setCell a v) :=
 h.setCell (fun o ho hc => by rintro (h | ⟨_, h⟩); exact h; rw [hc] at h; cases h) v
theorem Moves.belowF {n : Nat} {A B w : World} (h : Moves (orOther (fun _ _ => False) n) A B) (he : Ext w A) (hn : w.heap.size ≤ n) : Ext w B := h.belowOf he (by rintro k o hk (h | h); exact h; omega) (Nat.le_refl _)
end Go.Mv
namespace Go.Proofs.YtmecffckghkahaaGreatDoor
open Go.RowKit Go.Mv Go.Shelf
attribute [local go_sem] Oper.semAt_some
set_option maxRecDepth 100000
theorem thw_of {w W : World} {m : Mf} {A : Option Addr} {c bp bm : Nat} (hS : Sgs w (.slice A m.segs.length c) m.segs) (hE : Ext w W) (hle : w.heap.size ≤ bm) (hp : W.cell? ⟨bp, 0, none⟩ = some (.pointer (some ⟨bm, 0, none⟩)))
  (hb : Blk W bm 32 #[.int .i64 m.next, .int .i64 m.term, .int .i64 m.vote, .int .i64 m.sq, .int .i64 m.sf, .slice A m.segs.length c]) : ∃ bs off, bs ≤ bm ∧ ThW m A c bp bm bs off W := by
 have hlen : m.segs.length ≤ 9223372036854775807 := by have := SlR.len_le hS; simpa [maxLen] using this
 by_cases hn : 0 < m.segs.length
 ·obtain ⟨_, bs, off, rfl, hc⟩ := hS.at_ hn
  have hlt := World.block_lt_of_cell? w _ (hc 0 hn).1
  exact ⟨bs, off, by have : bs < w.heap.size := hlt; omega, hp, hb.cell 3 rfl, hb.cell 4 rfl, hb.cell 5 rfl, fun _ => rfl, segCells hE hc, hlen⟩
 ·exact ⟨bm, 0, Nat.le_refl _, hp, hb.cell 3 rfl, hb.cell 4 rfl, hb.cell 5 rfl, fun h => absurd h hn, fun k hk => absurd hk (by omega), hlen⟩
def leftT (l : List Thg) (f : Int) : Nat := l.countP fun t => decide (t.f ≠ f)
def leftM (m : Mf) (f : Int) : Nat := (if m.sq ≠ 0 ∧ m.sf ≠ f then 1 else 0) + m.segs.countP fun s => decide (s.fmt ≠ f)
theorem left_segs (bs off : Nat) (f : Int) : ∀ (l : List Sg4) (i : Nat), leftT (segThgs bs off i l) f = l.countP fun s => decide (s.fmt ≠ f)
 | [], _ => rfl
 | s :: l, i => by
  have ih := left_segs bs off f l (i + 1)
  unfold leftT at ih ⊢
  rw [segThgs, List.countP_cons, List.countP_cons, ih]
  rfl
theorem left_thgs (m : Mf) (bm bs off : Nat) (f : Int) : leftT (thgs m bm bs off) f = leftM m f := by
 have h := left_segs bs off f m.segs 0
 unfold leftT at h
 unfold leftT thgs leftM
 rw [List.countP_append, h]
 by_cases hq : m.sq = 0
 ·simp [hq]
 ·by_cases hf : m.sf = f
  ·simp [hq, hf, snapThg]
  ·simp [hq, hf, snapThg]
theorem segThgs_len (bs off : Nat) : ∀ (l : List Sg4) (i : Nat), (segThgs bs off i l).length = l.length
 | [], _ => rfl
 | s :: l, i => by rw [segThgs, List.length_cons, List.length_cons, segThgs_len bs off l (i + 1)]
theorem thgs_len (m : Mf) (bm bs off : Nat) : (thgs m bm bs off).length ≤ m.segs.length + 1 := by
 unfold thgs
 rw [List.length_append, segThgs_len]
 split <;> simp <;> omega
theorem left_snoc (pre : List Thg) (x : Thg) (f : Int) : leftT (pre ++ [x]) f = leftT pre f + (if x.f ≠ f then 1 else 0) := by
 unfold leftT
 rw [List.countP_append, List.countP_cons, List.countP_nil]
 by_cases h : x.f = f <;> simp [h]
theorem left_len (l : List Thg) (f : Int) : leftT l f ≤ l.length := List.countP_le_length
def Thg.cells (t : Thg) : Array Value := #[.int .u8 t.k, .int .i64 t.s, .int .i64 t.f, .int .i64 t.sg.seq, .int .i64 t.sg.fmt, .int .i64 t.sg.first, .int .i64 t.sg.count, .pointer (some t.p)]
def LfI (w : World) (f : Int) (pre : List Thg) (W : World) : Prop := Boxed W (w.heap.size + 1) 3 (.int .i64 f) ∧ Boxed W (w.heap.size + 1 + 1) 3 (.int .i64 (leftT pre f)) ∧ Ext w W
theorem Left_any (m : Mf) (f : Int) (v : Value) (w : World) (hS : Sgs w v m.segs) (hn : m.segs.length ≤ 1000000) :
  Calls Tryz.prog 8 #[.agg #[.int .i64 m.next, .int .i64 m.term, .int .i64 m.vote, .int .i64 m.sq, .int .i64 m.sf, v], .int .i64 f] w fun e w' => e = .returned (.int .i64 (leftM m f)) ∧ Ext w w' := by
 obtain ⟨A, c, rfl, _, _⟩ := hS.open_
 have HS := Lib.hid hS
 clear hS
 refine (callsIn_wd (ro := none) (n := 9)).1 ?_
 refine callsIn_of_wp_marks Tryz.func8 rfl trivial ?_ rfl
 simp only [Tryz.ntmps8, List.size_toArray, List.length_cons, List.length_nil, Nat.reduceAdd, Nat.reduceSub, Array.replicate_succ, Array.replicate_zero, List.push_toArray, List.append_toArray, List.nil_append, List.cons_append]
 gi_wp2_with (refine ⟨trivial, ?_⟩; gi_at_call 25; refine (callsIn_wd.2 (things_any _ _)).mono ?_; rintro e w' ⟨rfl, rfl⟩)
 have b0 : Blk (w.alloc (.cells #[.int .i64 m.next, .int .i64 m.term, .int .i64 m.vote, .int .i64 m.sq, .int .i64 m.sf, .slice A m.segs.length c] 32)) w.heap.size 32 #[.int .i64 m.next, .int .i64 m.term, .int .i64 m.vote, .int .i64 m.sq, .int .i64 m.sf, .slice A m.segs.length c] := Blk.new w _ _
 have b1 : Blk ((w.alloc (.cells #[.int .i64 m.next, .int .i64 m.term, .int .i64 m.vote, .int .i64 m.sq, .int .i64 m.sf, .slice A m.segs.length c] 32)).alloc (.cells #[.int .i64 f] 3)) (w.heap.size + 1) 3 #[.int .i64 f] := by have := Blk.new (w.alloc (.cells #[.int .i64 m.next, .int .i64 m.term, .int .i64 m.vote, .int .i64 m.sq, .int .i64 m.sf, .slice A m.segs.length c] 32)) 3 #[.int .i64 f]; rwa [World.size_alloc] at this
 have b2 : Blk (((w.alloc (.cells #[.int .i64 m.next, .int .i64 m.term, .int .i64 m.vote, .int .i64 m.sq, .int .i64 m.sf, .slice A m.segs.length c] 32)).alloc (.cells #[.int .i64 f] 3)).alloc (.cells #[.int .i64 0] 3)) (w.heap.size + 1 + 1) 3 #[.int .i64 0] := by have := Blk.new ((w.alloc (.cells #[.int .i64 m.next, .int .i64 m.term, .int .i64 m.vote, .int .i64 m.sq, .int .i64 m.sf, .slice A m.segs.length c] 32)).alloc (.cells #[.int .i64 f] 3)) 3 #[.int .i64 0]; rwa [World.size_alloc, World.size_alloc] at this
 have b3 : Blk ((((w.alloc (.cells #[.int .i64 m.next, .int .i64 m.term, .int .i64 m.vote, .int .i64 m.sq, .int .i64 m.sf, .slice A m.segs.length c] 32)).alloc (.cells #[.int .i64 f] 3)).alloc (.cells #[.int .i64 0] 3)).alloc (.cells #[.pointer (some ⟨w.heap.size, 0, none⟩)] 75)) (w.heap.size + 1 + 1 + 1) 75 #[.pointer (some ⟨w.heap.size, 0, none⟩)] := by have := Blk.new (((w.alloc (.cells #[.int .i64 m.next, .int .i64 m.term, .int .i64 m.vote, .int .i64 m.sq, .int .i64 m.sf, .slice A m.segs.length c] 32)).alloc (.cells #[.int .i64 f] 3)).alloc (.cells #[.int .i64 0] 3)) 75 #[.pointer (some ⟨w.heap.size, 0, none⟩)]; rwa [World.size_alloc, World.size_alloc, World.size_alloc] at this
 have hE4 : Ext w ((((w.alloc (.cells #[.int .i64 m.next, .int .i64 m.term, .int .i64 m.vote, .int .i64 m.sq, .int .i64 m.sf, .slice A m.segs.length c] 32)).alloc (.cells #[.int .i64 f] 3)).alloc (.cells #[.int .i64 0] 3)).alloc (.cells #[.pointer (some ⟨w.heap.size, 0, none⟩)] 75)) := Ext.alloc (Ext.alloc (Ext.alloc (Ext.alloc (Ext.refl _) _) _) _) _
 have c0 := ((b0.alloc (.cells #[.int .i64 f] 3)).alloc (.cells #[.int .i64 0] 3)).alloc (.cells #[.pointer (some ⟨w.heap.size, 0, none⟩)] 75)
 have c1 := (b1.alloc (.cells #[.int .i64 0] 3)).alloc (.cells #[.pointer (some ⟨w.heap.size, 0, none⟩)] 75)
 have c2 := b2.alloc (.cells #[.pointer (some ⟨w.heap.size, 0, none⟩)] 75)
 have hs4 : ((((w.alloc (.cells #[.int .i64 m.next, .int .i64 m.term, .int .i64 m.vote, .int .i64 m.sq, .int .i64 m.sf, .slice A m.segs.length c] 32)).alloc (.cells #[.int .i64 f] 3)).alloc (.cells #[.int .i64 0] 3)).alloc (.cells #[.pointer (some ⟨w.heap.size, 0, none⟩)] 75)).heap.size = w.heap.size + 4 := by simp
 obtain ⟨bs, off, hbs, hT⟩ := thw_of (bp := w.heap.size + 1 + 1 + 1) HS.out hE4 (Nat.le_refl _) (b3.cell 0 rfl) c0
 have h0 : LfI w f [] ((((w.alloc (.cells #[.int .i64 m.next, .int .i64 m.term, .int .i64 m.vote, .int .i64 m.sq, .int .i64 m.sf, .slice A m.segs.length c] 32)).alloc (.cells #[.int .i64 f] 3)).alloc (.cells #[.int .i64 0] 3)).alloc (.cells #[.pointer (some ⟨w.heap.size, 0, none⟩)] 75)) := ⟨c1, c2, hE4⟩
 clear b0 b1 b2 b3 c0 c1 c2
 generalize ((((w.alloc (.cells #[.int .i64 m.next, .int .i64 m.term, .int .i64 m.vote, .int .i64 m.sq, .int .i64 m.sf, .slice A m.segs.length c] 32)).alloc (.cells #[.int .i64 f] 3)).alloc (.cells #[.int .i64 0] 3)).alloc (.cells #[.pointer (some ⟨w.heap.size, 0, none⟩)] 75)) = w4 at *
 refine wp_rangeT (a := ⟨_, _⟩) rfl (enters_of Tryz.func44 (by kernel_rfl) rfl)
  (fun W1 hb hs => things1_seq m A c (w.heap.size + 1 + 1 + 1) w.heap.size bs off W1 (hT.ext hb))
  (fun k o h => h.elim) (fun k o h => h.1) (fun x av W h => by rw [h]; rfl)
  (LfI w f) (fun _ _ _ => False) ?hI (fun _ _ _ _ h _ => h) h0
  (fun x a' W => ∃ bt, a' = ⟨#[.agg #[.int .i64 m.next, .int .i64 m.term, .int .i64 m.vote, .int .i64 m.sq, .int .i64 m.sf, .slice A m.segs.length c], .int .i64 f, .pointer (some ⟨w.heap.size, 0, none⟩), .pointer (some ⟨w.heap.size + 1, 0, none⟩), .pointer (some ⟨w.heap.size + 1 + 1, 0, none⟩), .pointer (some ⟨bt, 0, none⟩), .func (.func 44) #[] #[.pointer (some ⟨w.heap.size + 1 + 1 + 1, 0, none⟩)], x.val, undef, undef, undef, undef, undef, undef, undef, undef], []⟩ ∧ Blk W bt 78 x.cells)
  (fun x a' X Y h hm => by obtain ⟨bt, h1, h2⟩ := h; exact ⟨bt, h1, hm.blkF h2⟩) ?assign ?body ?done ?stop
 case hI =>
  rintro s X Y ⟨hf, hn', hE⟩ hm
  exact ⟨hm.blkF hf, hm.blkF hn', hm.belowF hE (by omega)⟩
 case assign =>
  rintro l' pre x post W av K' hx ⟨hf, hn', hE⟩ hsz rfl hK
  unfold Thg.val
  gi_wp2
  exact hK _ _ (Kept.refl.alloc _) ⟨hf.alloc _, hn'.alloc _, Ext.alloc hE _⟩ ⟨_, rfl, Blk.new W _ _⟩
 case body =>
  rintro l' pre x post a' W hx hl' hr ⟨hf, hn', hE⟩ hsz ⟨bt, rfl, hb⟩
  have hlen : leftT pre f + 1 ≤ 1000001 := by
   have h1 := left_len pre f
   have h2 := congrArg List.length hx
   rw [List.length_append, List.length_cons] at h2
   have h3 := thgs_len m w.heap.size bs off
   omega
  have g2 : W.cell? ⟨bt, 2, none⟩ = some (.int .i64 x.f) := hb.cell 2 rfl
  have gf := hf.cell
  have gn := hn'.cell
  have zn := hn'.frozen
  have hsn := left_snoc pre x f
  have Hsn := Lib.hid hsn
  have Hb := Lib.hid hb
  clear hsn hb
  generalize x.f = y at *
  by_cases hy : y = f
  ·subst hy
   gi_wp2
   refine ⟨Kept.refl, hf, ?_, hE⟩
   rw [Hsn.out]
   simpa using hn'
  ·have hyb : (y != f) = true := by simpa using hy
   have hw : wrap64 ((leftT pre f : Int) + 1) = (leftT pre f : Int) + 1 := by unfold wrap64; omega
   gi_wp2
   rw [show ((leftT pre f : Int) + 1) = ((leftT pre f + 1 : Nat) : Int) from by omega]
   refine ⟨Kept.refl.setCell (fun o ho _ => ?_) _, hf.other (by omega) _, ?_, Below.setCell (p := ⟨w.heap.size + 1 + 1, 0, none⟩) hE (by show w.heap.size ≤ w.heap.size + 1 + 1; omega) _⟩
   ·rintro (⟨_, h⟩ | ⟨_, h⟩)
    ·have h : w.heap.size + 1 + 1 = w.heap.size + 1 + 1 + 1 ∨ w.heap.size + 1 + 1 = w.heap.size ∨ w.heap.size + 1 + 1 = bs := h
     omega
    ·rw [show W.heap[w.heap.size + 1 + 1]? = _ from hn'] at ho; cases ho; cases h
   ·rw [Hsn.out, if_pos hy]
    exact hn'.set _
 case done =>
  rintro D W hD ⟨hf, hn', hE⟩ hK
  rw [left_thgs] at hn'
  have gn := hn'.cell
  have zn := hn'.frozen
  gi_wp2
  have hv2 := hn'.set (.int .i64 (leftM m f))
  have hK2 := heap_setCell_obj hK rfl ⟨w.heap.size + 1 + 1, 0, none⟩ (.int .i64 (leftM m f))
  have hcd := cell_putObj hv2.cell hK2 rfl (.deferred none)
  refine ret_mark hK2 (.int .i64 (leftM m f)) (by simp [results, Tryz.results8, go_sem, hcd]) ?_
  exact ⟨rfl, below_putObj (Below.setCell (p := ⟨w.heap.size + 1 + 1, 0, none⟩) hE (by show w.heap.size ≤ w.heap.size + 1 + 1; omega) _) (by omega) _⟩
 case stop =>
  rintro D cd pre W hD hpre h hK
  exact h.elim
def nextM (m : Mf) (f : Int) : Option (Int × Int × Int) := if m.sq ≠ 0 ∧ m.sf ≠ f then some (4, m.sq, m.sf) else (m.segs.find? fun s => decide (s.fmt ≠ f)).map fun s => (3, s.seq, s.fmt)
def nextT (l : List Thg) (f : Int) : Option (Int × Int × Int) := (l.find? fun t => decide (t.f ≠ f)).map fun t => (t.k, t.s, t.f)
theorem next_segs (bs off : Nat) (f : Int) : ∀ (l : List Sg4) (i : Nat), nextT (segThgs bs off i l) f = (l.find? fun s => decide (s.fmt ≠ f)).map fun s => (3, s.seq, s.fmt)
 | [], _ => rfl
 | s :: l, i => by
  have ih := next_segs bs off f l (i + 1)
  unfold nextT at ih ⊢
  rw [segThgs, List.find?_cons, List.find?_cons]
  by_cases h : s.fmt = f
  ·simp only [segThg, h, ne_eq, not_true_eq_false, decide_false]
   exact ih
  ·simp [segThg, h]
theorem next_thgs (m : Mf) (bm bs off : Nat) (f : Int) : nextT (thgs m bm bs off) f = nextM m f := by
 have h := next_segs bs off f m.segs 0
 unfold nextT at h
 unfold nextT thgs nextM
 by_cases hq : m.sq = 0
 ·simp only [hq, if_true, List.nil_append, h]
  simp
 ·by_cases hf : m.sf = f
  ·rw [if_neg hq, if_neg (by simp [hf]), List.cons_append, List.find?_cons]
   simp only [snapThg, hf, ne_eq, not_true_eq_false, decide_false, List.nil_append]
   exact h
  ·rw [if_neg hq, if_pos ⟨hq, hf⟩, List.cons_append, List.find?_cons]
   simp [snapThg, hf]
theorem next_none {l : List Thg} {f : Int} (h : ∀ t ∈ l, t.f = f) : nextT l f = none := by
 unfold nextT
 rw [Option.map_eq_none_iff, List.find?_eq_none]
 intro t ht
 simp [h t ht]
theorem next_hit {l pre : List Thg} {x : Thg} {f : Int} (hp : pre ++ [x] <+: l) (h : ∀ t ∈ pre, t.f = f) (hx : x.f ≠ f) : nextT l f = some (x.k, x.s, x.f) := by
 obtain ⟨r, rfl⟩ := hp
 unfold nextT
 rw [List.append_assoc, List.find?_append]
 have : pre.find? (fun t => decide (t.f ≠ f)) = none := by
  rw [List.find?_eq_none]
  intro t ht
  simp [h t ht]
 rw [this]
 simp [hx]
def SNextP (w : World) (r : Option (Int × Int × Int)) (e : Ending) (w' : World) : Prop := e = .returned (.tuple #[.agg #[.int .u8 (r.getD (0, 0, 0)).1, .int .i64 (r.getD (0, 0, 0)).2.1, .int .i64 (r.getD (0, 0, 0)).2.2], .bool r.isSome]) ∧ Ext w w'
def ShNxI (w : World) (f : Int) (pre : List Thg) (W : World) : Prop := (∀ t ∈ pre, t.f = f) ∧ Blk W (w.heap.size + 1) 3 #[.int .i64 f] ∧ Blk W (w.heap.size + 1 + 1) 40 #[.int .u8 0, .int .i64 0, .int .i64 0] ∧ Blk W (w.heap.size + 1 + 1 + 1) 4 #[.bool false] ∧ Ext w W
def ShNxX (w : World) (f : Int) (cd : Code) (pre : List Thg) (W : World) : Prop := cd = .ret ∧ ∃ pre0 x, pre = pre0 ++ [x] ∧ (∀ t ∈ pre0, t.f = f) ∧ x.f ≠ f ∧ Blk W (w.heap.size + 1 + 1) 40 #[.int .u8 x.k, .int .i64 x.s, .int .i64 x.f] ∧ Blk W (w.heap.size + 1 + 1 + 1) 4 #[.bool true] ∧ Ext w W
theorem blk_putObj {W : World} {b : Nat} {t : TypeId} {cs : Array Value} (h : Blk W b t cs) {D : Nat} {o : Obj} (hD : W.heap[D]? = some o) (hc : o.isCells = false) (o' : Obj) : Blk (W.putObj D o') b t cs := by
 refine (World.putObj_heap_other (fun e => ?_)).trans h
 subst e
 rw [show W.heap[b]? = _ from h] at hD; cases hD; cases hc
theorem identUnder : Tryz.prog.underlying 40 = some (.struct (Tryz.prog.fieldsOf 40)) := by kernel_rfl
theorem next_res (tmps : Array Value) (W : World) (b d : Nat) (cs : Array Value) (u : Value) (h4 : tmps.getD 4 undef = .pointer (some ⟨b, 0, none⟩)) (h5 : tmps.getD 5 undef = .pointer (some ⟨d, 0, none⟩)) (hb : Blk W b 40 cs) (hs : cs.size = 3) (hd : Blk W d 4 #[u]) : (results Tryz.f9 tmps).run Tryz.prog W = .ok (.tuple #[.agg cs, u]) W := by
 have hl := hb.load (P := Tryz.prog) identUnder rfl (by rw [hs]; kernel_rfl)
 have hc := hd.cell 0 rfl
 have h4' : tmps[4]?.getD undef = .pointer (some ⟨b, 0, none⟩) := by simpa using h4
 have h5' : tmps[5]?.getD undef = .pointer (some ⟨d, 0, none⟩) := by simpa using h5
 have hu := Tryz.underlying4
 have hc' : W.cell? ⟨d, 0, none⟩ = some u := hc
 have hm : (loadVar 4 ⟨d, 0, none⟩).run Tryz.prog W = .ok u W := by simp [go_sem, hc', hu]
 simp [results, Tryz.results9, h4', h5', asAddr, hl, hm]
theorem NextM_any (m : Mf) (f : Int) (v : Value) (w : World) (hS : Sgs w v m.segs) :
  Calls Tryz.prog 9 #[.agg #[.int .i64 m.next, .int .i64 m.term, .int .i64 m.vote, .int .i64 m.sq, .int .i64 m.sf, v], .int .i64 f] w (SNextP w (nextM m f)) := by
 obtain ⟨A, c, rfl, _, _⟩ := hS.open_
 have HS := Lib.hid hS
 clear hS
 refine (callsIn_wd (ro := none) (n := 9)).1 ?_
 refine callsIn_of_wp_marks Tryz.func9 rfl trivial ?_ rfl
 simp only [Tryz.ntmps9, List.size_toArray, List.length_cons, List.length_nil, Nat.reduceAdd, Nat.reduceSub, Array.replicate_succ, Array.replicate_zero, List.push_toArray, List.append_toArray, List.nil_append, List.cons_append]
 gi_wp2_with (refine ⟨trivial, ?_⟩; gi_at_call 25; refine (callsIn_wd.2 (things_any _ _)).mono ?_; rintro e w' ⟨rfl, rfl⟩)
 have b0 : Blk (w.alloc (.cells #[.int .i64 m.next, .int .i64 m.term, .int .i64 m.vote, .int .i64 m.sq, .int .i64 m.sf, .slice A m.segs.length c] 32)) (w.heap.size) 32 #[.int .i64 m.next, .int .i64 m.term, .int .i64 m.vote, .int .i64 m.sq, .int .i64 m.sf, .slice A m.segs.length c] := Blk.new w _ _
 have b1 : Blk ((w.alloc (.cells #[.int .i64 m.next, .int .i64 m.term, .int .i64 m.vote, .int .i64 m.sq, .int .i64 m.sf, .slice A m.segs.length c] 32)).alloc (.cells #[.int .i64 f] 3)) (w.heap.size + 1) 3 #[.int .i64 f] := by have := Blk.new (w.alloc (.cells #[.int .i64 m.next, .int .i64 m.term, .int .i64 m.vote, .int .i64 m.sq, .int .i64 m.sf, .slice A m.segs.length c] 32)) 3 #[.int .i64 f]; rwa [World.size_alloc] at this
 have b2 : Blk (((w.alloc (.cells #[.int .i64 m.next, .int .i64 m.term, .int .i64 m.vote, .int .i64 m.sq, .int .i64 m.sf, .slice A m.segs.length c] 32)).alloc (.cells #[.int .i64 f] 3)).alloc (.cells #[.int .u8 0, .int .i64 0, .int .i64 0] 40)) (w.heap.size + 1 + 1) 40 #[.int .u8 0, .int .i64 0, .int .i64 0] := by have := Blk.new ((w.alloc (.cells #[.int .i64 m.next, .int .i64 m.term, .int .i64 m.vote, .int .i64 m.sq, .int .i64 m.sf, .slice A m.segs.length c] 32)).alloc (.cells #[.int .i64 f] 3)) 40 #[.int .u8 0, .int .i64 0, .int .i64 0]; rwa [World.size_alloc, World.size_alloc] at this
 have b3 : Blk ((((w.alloc (.cells #[.int .i64 m.next, .int .i64 m.term, .int .i64 m.vote, .int .i64 m.sq, .int .i64 m.sf, .slice A m.segs.length c] 32)).alloc (.cells #[.int .i64 f] 3)).alloc (.cells #[.int .u8 0, .int .i64 0, .int .i64 0] 40)).alloc (.cells #[.bool false] 4)) (w.heap.size + 1 + 1 + 1) 4 #[.bool false] := by have := Blk.new (((w.alloc (.cells #[.int .i64 m.next, .int .i64 m.term, .int .i64 m.vote, .int .i64 m.sq, .int .i64 m.sf, .slice A m.segs.length c] 32)).alloc (.cells #[.int .i64 f] 3)).alloc (.cells #[.int .u8 0, .int .i64 0, .int .i64 0] 40)) 4 #[.bool false]; rwa [World.size_alloc, World.size_alloc, World.size_alloc] at this
 have b4 : Blk (((((w.alloc (.cells #[.int .i64 m.next, .int .i64 m.term, .int .i64 m.vote, .int .i64 m.sq, .int .i64 m.sf, .slice A m.segs.length c] 32)).alloc (.cells #[.int .i64 f] 3)).alloc (.cells #[.int .u8 0, .int .i64 0, .int .i64 0] 40)).alloc (.cells #[.bool false] 4)).alloc (.cells #[.pointer (some ⟨w.heap.size, 0, none⟩)] 75)) (w.heap.size + 1 + 1 + 1 + 1) 75 #[.pointer (some ⟨w.heap.size, 0, none⟩)] := by have := Blk.new ((((w.alloc (.cells #[.int .i64 m.next, .int .i64 m.term, .int .i64 m.vote, .int .i64 m.sq, .int .i64 m.sf, .slice A m.segs.length c] 32)).alloc (.cells #[.int .i64 f] 3)).alloc (.cells #[.int .u8 0, .int .i64 0, .int .i64 0] 40)).alloc (.cells #[.bool false] 4)) 75 #[.pointer (some ⟨w.heap.size, 0, none⟩)]; rwa [World.size_alloc, World.size_alloc, World.size_alloc, World.size_alloc] at this
 have c0 := ((((b0.alloc (.cells #[.int .i64 f] 3)).alloc (.cells #[.int .u8 0, .int .i64 0, .int .i64 0] 40)).alloc (.cells #[.bool false] 4)).alloc (.cells #[.pointer (some ⟨w.heap.size, 0, none⟩)] 75))
 have c1 := (((b1.alloc (.cells #[.int .u8 0, .int .i64 0, .int .i64 0] 40)).alloc (.cells #[.bool false] 4)).alloc (.cells #[.pointer (some ⟨w.heap.size, 0, none⟩)] 75))
 have c2 := ((b2.alloc (.cells #[.bool false] 4)).alloc (.cells #[.pointer (some ⟨w.heap.size, 0, none⟩)] 75))
 have c3 := (b3.alloc (.cells #[.pointer (some ⟨w.heap.size, 0, none⟩)] 75))
 have hE4 : Ext w (((((w.alloc (.cells #[.int .i64 m.next, .int .i64 m.term, .int .i64 m.vote, .int .i64 m.sq, .int .i64 m.sf, .slice A m.segs.length c] 32)).alloc (.cells #[.int .i64 f] 3)).alloc (.cells #[.int .u8 0, .int .i64 0, .int .i64 0] 40)).alloc (.cells #[.bool false] 4)).alloc (.cells #[.pointer (some ⟨w.heap.size, 0, none⟩)] 75)) := Ext.alloc (Ext.alloc (Ext.alloc (Ext.alloc (Ext.alloc (Ext.refl _) _) _) _) _) _
 have hs4 : (((((w.alloc (.cells #[.int .i64 m.next, .int .i64 m.term, .int .i64 m.vote, .int .i64 m.sq, .int .i64 m.sf, .slice A m.segs.length c] 32)).alloc (.cells #[.int .i64 f] 3)).alloc (.cells #[.int .u8 0, .int .i64 0, .int .i64 0] 40)).alloc (.cells #[.bool false] 4)).alloc (.cells #[.pointer (some ⟨w.heap.size, 0, none⟩)] 75)).heap.size = w.heap.size + 5 := by simp
 obtain ⟨bs, off, hbs, hT⟩ := thw_of (bp := w.heap.size + 1 + 1 + 1 + 1) HS.out hE4 (Nat.le_refl _) (b4.cell 0 rfl) c0
 have h0 : ShNxI w f [] (((((w.alloc (.cells #[.int .i64 m.next, .int .i64 m.term, .int .i64 m.vote, .int .i64 m.sq, .int .i64 m.sf, .slice A m.segs.length c] 32)).alloc (.cells #[.int .i64 f] 3)).alloc (.cells #[.int .u8 0, .int .i64 0, .int .i64 0] 40)).alloc (.cells #[.bool false] 4)).alloc (.cells #[.pointer (some ⟨w.heap.size, 0, none⟩)] 75)) := ⟨fun t ht => (by cases ht), c1, c2, c3, hE4⟩
 clear b0 b1 b2 b3 b4 c0 c1 c2 c3
 generalize (((((w.alloc (.cells #[.int .i64 m.next, .int .i64 m.term, .int .i64 m.vote, .int .i64 m.sq, .int .i64 m.sf, .slice A m.segs.length c] 32)).alloc (.cells #[.int .i64 f] 3)).alloc (.cells #[.int .u8 0, .int .i64 0, .int .i64 0] 40)).alloc (.cells #[.bool false] 4)).alloc (.cells #[.pointer (some ⟨w.heap.size, 0, none⟩)] 75)) = w4 at *
 refine wp_rangeT (a := ⟨_, _⟩) rfl (enters_of Tryz.func44 (by kernel_rfl) rfl)
  (fun W1 hb hs => things1_seq m A c (w.heap.size + 1 + 1 + 1 + 1) w.heap.size bs off W1 (hT.ext hb))
  (fun k o h => h.elim) (fun k o h => h.1) (fun x av W h => by rw [h]; rfl)
  (ShNxI w f) (ShNxX w f) ?hI ?hIx h0
  (fun x a' W => ∃ bt, a' = ⟨#[.agg #[.int .i64 m.next, .int .i64 m.term, .int .i64 m.vote, .int .i64 m.sq, .int .i64 m.sf, .slice A m.segs.length c], .int .i64 f, .pointer (some ⟨w.heap.size, 0, none⟩), .pointer (some ⟨w.heap.size + 1, 0, none⟩), .pointer (some ⟨w.heap.size + 1 + 1, 0, none⟩), .pointer (some ⟨w.heap.size + 1 + 1 + 1, 0, none⟩), .pointer (some ⟨bt, 0, none⟩), .func (.func 44) #[] #[.pointer (some ⟨w.heap.size + 1 + 1 + 1 + 1, 0, none⟩)], x.val, undef, undef, undef, undef, undef, undef, undef, undef], []⟩ ∧ Blk W bt 78 x.cells)
  (fun x a' X Y h hm => by obtain ⟨bt, h1, h2⟩ := h; exact ⟨bt, h1, hm.blkF h2⟩) ?assign ?body ?done ?stop
 case hI =>
  rintro s X Y ⟨hp, hf, hi, ho, hE⟩ hm
  exact ⟨hp, hm.blkF hf, hm.blkF hi, hm.blkF ho, hm.belowF hE (by omega)⟩
 case hIx =>
  rintro cd s X Y ⟨rfl, pre0, x, rfl, hp, hx, hi, ho, hE⟩ hm
  exact ⟨rfl, pre0, x, rfl, hp, hx, hm.blkF hi, hm.blkF ho, hm.belowF hE (by omega)⟩
 case assign =>
  rintro l' pre x post W av K' hx ⟨hp, hf, hi, ho, hE⟩ hsz rfl hK
  unfold Thg.val
  gi_wp2
  exact hK _ _ (Kept.refl.alloc _) ⟨hp, hf.alloc _, hi.alloc _, ho.alloc _, Ext.alloc hE _⟩ ⟨_, rfl, Blk.new W _ _⟩
 case body =>
  rintro l' pre x post a' W hx hl' hr ⟨hp, hf, hi, ho, hE⟩ hsz ⟨bt, rfl, hb⟩
  have g0 : W.cell? ⟨bt, 0, none⟩ = some (.int .u8 x.k) := hb.cell 0 rfl
  have g1 : W.cell? ⟨bt, 1, none⟩ = some (.int .i64 x.s) := hb.cell 1 rfl
  have g2 : W.cell? ⟨bt, 2, none⟩ = some (.int .i64 x.f) := hb.cell 2 rfl
  have gf : W.cell? ⟨w.heap.size + 1, 0, none⟩ = some (.int .i64 f) := hf.cell 0 rfl
  obtain ⟨i0, i1, i2, z0, z1, z2⟩ := blk3 hi
  have o0 : W.cell? ⟨w.heap.size + 1 + 1 + 1, 0, none⟩ = some (.bool false) := ho.cell 0 rfl
  have y0 := ho.frozen 0
  have Hb := Lib.hid hb
  have Hi := Lib.hid hi
  have Ho := Lib.hid ho
  have Hf := Lib.hid hf
  clear hb hi ho hf
  by_cases hy : x.f = f
  ·have hyb : (x.f != f) = false := by simpa using hy
   have Hy := Lib.hid hy
   clear hy
   gi_wp2
   refine ⟨Kept.refl, ?_, Hf.out, Hi.out, Ho.out, hE⟩
   intro t ht
   rw [List.mem_append, List.mem_singleton] at ht
   rcases ht with ht | rfl
   ·exact hp t ht
   ·exact Hy.out
  ·have hyb : (x.f != f) = true := by simpa using hy
   gi_wp2
   have hi2 := (blk_set3 Hi.out (.int .u8 x.k) (.int .i64 x.s) (.int .i64 x.f)).other (by omega : w.heap.size + 1 + 1 ≠ w.heap.size + 1 + 1 + 1) 0 (.bool true)
   have ho2 := ((((Ho.out.other (by omega : w.heap.size + 1 + 1 + 1 ≠ w.heap.size + 1 + 1) 0 (.int .u8 x.k)).other (by omega : w.heap.size + 1 + 1 + 1 ≠ w.heap.size + 1 + 1) 1 (.int .i64 x.s)).other (by omega : w.heap.size + 1 + 1 + 1 ≠ w.heap.size + 1 + 1) 2 (.int .i64 x.f)).set 0 (.bool true))
   exact ⟨(((Kept.refl.setF _ _).setF _ _).setF _ _).setF _ _, rfl, pre, x, rfl, hp, hy, hi2, ho2, Below.setCell (p := ⟨w.heap.size + 1 + 1 + 1, 0, none⟩) (ext_set3 hE (by omega) _ _ _) (by show w.heap.size ≤ w.heap.size + 1 + 1 + 1; omega) _⟩
 case done =>
  rintro D W hD ⟨hp, hf, hi, ho, hE⟩ hK
  have hnm : nextM m f = none := by rw [← next_thgs m w.heap.size bs off, next_none hp]
  have Hnm := Lib.hid hnm
  obtain ⟨i0, i1, i2, z0, z1, z2⟩ := blk3 hi
  have o0 := ho.cell 0 rfl
  have y0 := ho.frozen 0
  clear hnm
  gi_wp2
  have hi2 := (blk_set3 hi (.int .u8 0) (.int .i64 0) (.int .i64 0)).other (by omega : w.heap.size + 1 + 1 ≠ w.heap.size + 1 + 1 + 1) 0 (.bool false)
  have ho2 := ((((ho.other (by omega : w.heap.size + 1 + 1 + 1 ≠ w.heap.size + 1 + 1) 0 (.int .u8 0)).other (by omega : w.heap.size + 1 + 1 + 1 ≠ w.heap.size + 1 + 1) 1 (.int .i64 0)).other (by omega : w.heap.size + 1 + 1 + 1 ≠ w.heap.size + 1 + 1) 2 (.int .i64 0)).set 0 (.bool false))
  have hK2 := heap_setCell_obj (heap_setCell_obj (heap_setCell_obj (heap_setCell_obj hK rfl ⟨w.heap.size + 1 + 1, 0, none⟩ (.int .u8 0)) rfl ⟨w.heap.size + 1 + 1, 1, none⟩ (.int .i64 0)) rfl ⟨w.heap.size + 1 + 1, 2, none⟩ (.int .i64 0)) rfl ⟨w.heap.size + 1 + 1 + 1, 0, none⟩ (.bool false)
  refine ret_mark hK2 _ (next_res _ _ _ _ _ _ rfl rfl (blk_putObj hi2 hK2 rfl _) rfl (blk_putObj ho2 hK2 rfl _)) ?_
  rw [Hnm.out]
  exact ⟨rfl, below_putObj (Below.setCell (p := ⟨w.heap.size + 1 + 1 + 1, 0, none⟩) (ext_set3 hE (by omega) _ _ _) (by show w.heap.size ≤ w.heap.size + 1 + 1 + 1; omega) _) (by omega) _⟩
 case stop =>
  rintro D cd pre W hD hpre ⟨rfl, pre0, x, rfl, hp, hx, hi, ho, hE⟩ hK
  rw [← next_thgs m w.heap.size bs off, next_hit hpre hp hx]
  gi_wp2
  refine ret_mark hK _ (next_res _ _ _ _ _ _ rfl rfl (blk_putObj hi hK rfl _) rfl (blk_putObj ho hK rfl _)) ?_
  exact ⟨rfl, below_putObj hE (by omega) _⟩
open Go.RowKit Go.Mv Go.Shelf
set_option maxRecDepth 100000
def placeS (fs : List Fil) (n : List UInt8) : Int := match fs.findIdx? (fun f => f.1 == n) with | none => -1 | some i => (i : Int)
def findS (fs : List Fil) (r : Option (List UInt8)) : Int := match r with | none => -1 | some n => placeS fs n
theorem place_at {fs : List Fil} {n : List UInt8} {k : Nat} (hk : k < fs.length) (h : fs[k].1 = n) (hn : ∀ j (_ : j < k) (h2 : j < fs.length), fs[j].1 ≠ n) : placeS fs n = k := by
 have : fs.findIdx? (fun f => f.1 == n) = some k := by
  rw [List.findIdx?_eq_some_iff_getElem]
  exact ⟨hk, by simpa using h, fun j hj => by simpa using hn j hj (by omega)⟩
 unfold placeS
 rw [this]
theorem place_none {fs : List Fil} {n : List UInt8} (hn : ∀ j (h2 : j < fs.length), fs[j].1 ≠ n) : placeS fs n = -1 := by
 have : fs.findIdx? (fun f => f.1 == n) = none := by
  rw [List.findIdx?_eq_none_iff]
  intro x hx
  obtain ⟨j, hj, rfl⟩ := List.mem_iff_getElem.1 hx
  simpa using hn j hj
 unfold placeS
 rw [this]
theorem refFind_any (v : Value) (fs : List Fil) (k s f : Int) (w : World) (hS : StW w) (hF : Fs w v fs) (hl : fs.length ≤ 4000000) : Calls Tryz.prog 36 #[v, .agg #[.int .u8 k, .int .i64 s, .int .i64 f]] w fun e w' => e = .returned (.int .i64 (findS fs (nameS k s f))) ∧ Ext w w' := by
 obtain ⟨A, c, rfl, h1, h2⟩ := Fs.open_ hF
 have hX : Ext w (w.alloc (.cells #[.int .u8 k, .int .i64 s, .int .i64 f] 40)) := Ext.alloc (Ext.refl _) _
 have key := refName_any k s f _ (hS.ext hX)
 obtain ⟨r, hr⟩ : ∃ r, nameS k s f = r := ⟨_, rfl⟩
 rw [hr] at key ⊢
 have Key := Lib.hid key
 have HF := Lib.hid hF
 clear key hr hF hS
 cases r with
 | none =>
  go_enter Tryz.func36, Tryz.ntmps36
  go_wp2_with fail
  refine Key.out.mono ?_
  rintro e w1 ⟨rfl, hE1⟩
  dsimp only [Option.isSome]
  go_wp2_with fail
  go_loopw [7] (fun i wr => i = .int .i64 0 ∧ w1 = wr) (fun _ _ => 0)
  case atStart => exact ⟨rfl, rfl⟩
  case round =>
   obtain ⟨rfl, rfl⟩ := hrel
   go_wp2_with fail
   all_goals go_ret
   all_goals exact ⟨rfl, Ext.trans hX hE1⟩
 | some n =>
  go_enter Tryz.func36, Tryz.ntmps36
  go_wp2_with fail
  refine Key.out.mono ?_
  rintro e w1 ⟨rfl, hE1⟩
  dsimp only [Option.isSome, Option.getD]
  have hE01 := Ext.trans hX hE1
  go_wp2_with fail
  go_loopw [7] (fun i wr => ∃ j : Nat, j ≤ fs.length ∧ i = .int .i64 j ∧ Hid (∀ q (_ : q < j) (h2 : q < fs.length), fs[q].1 ≠ n) ∧ w1 = wr) (fun i _ => fs.length - (intOf i).toNat)
  case atStart => exact ⟨0, by omega, rfl, fun q hq => by omega, rfl⟩
  case round =>
   obtain ⟨j, hj, rfl, Hn, rfl⟩ := hrel
   by_cases hlt : j < fs.length
   ·obtain ⟨_, b, off, rfl, hc⟩ := (HF.out.ext hE01).at_ (by omega)
    obtain ⟨hc0, _⟩ := hc j hlt
    have hp : fs[j].1 = n → findS fs (some n) = j := fun h => place_at hlt h Hn.out
    have hq : fs[j].1 ≠ n → ∀ q (_ : q < j + 1) (h2 : q < fs.length), fs[q].1 ≠ n := fun h q h3 h2 => by
     by_cases e : q = j
     ·subst e; exact h
     ·exact Hn.out q (by omega) h2
    have Hp := Lib.hid hp
    have Hq := Lib.hid hq
    clear hc hp hq
    generalize fs[j].1 = x at *
    simp only [sv] at hc0 ⊢
    by_cases hx : x = n
    ·have hxe : (x == n) = true := by simpa using hx
     have hfin := Lib.hid (Hp.out hx)
     go_wp2_with fail
     go_ret
     exact ⟨by rw [hfin.out]; rfl, hE01⟩
    ·have hxe : (x == n) = false := by simpa using hx
     have Hq2 := Lib.hid (Hq.out hx)
     go_wp2_with fail
     go_roundw
     case rel => exact ⟨j + 1, by omega, by go_num, Hq2, trivial⟩
     case measure => simp [intOf]; omega
   ·obtain rfl : j = fs.length := by omega
    have hfin := Lib.hid (show findS fs (some n) = -1 from place_none fun q h2 => Hn.out q h2 h2)
    go_wp2_with fail
    go_ret
    exact ⟨by rw [hfin.out]; rfl, hE01⟩
def nmP : Nat → List Fil → List (Nat × List UInt8)
 | _, [] => []
 | k, f :: l => (k, f.1) :: nmP (k + 1) l
theorem nmP_at {fs : List Fil} {k : Nat} (h : k < fs.length) : nmP k (fs.drop k) = (k, fs[k].1) :: nmP (k + 1) (fs.drop (k + 1)) := by
 rw [List.drop_eq_getElem_cons h]; rfl
theorem nmP_len (l : List Fil) : ∀ k, (nmP k l).length = l.length := by
 induction l with
 | nil => intro k; rfl
 | cons f l ih => intro k; simp [nmP, ih]
theorem nmP_get {fs : List Fil} : ∀ (k j : Nat) (h : k + j < fs.length), (nmP k (fs.drop k))[j]? = some (k + j, fs[k + j].1) := by
 intro k j
 induction j generalizing k with
 | zero => intro h; rw [nmP_at (by omega)]; rfl
 | succ j ih =>
  intro h
  rw [nmP_at (by omega), List.getElem?_cons_succ, ih (k + 1) (by omega)]
  simp only [Nat.add_assoc, Nat.add_comm 1 j]
attribute [local go_sem] Oper.semAt_some in
theorem called1_seq (wo W0 : World) (v : Value) (fs : List Fil) (hF : Fs wo v fs) (hlen : fs.length ≤ 4000000) (hH : Hold wo W0) (B bo : Nat) (hB : Boxed W0 B 22 v) (hBo : B ≠ bo) (h1 : wo.heap.size ≤ bo) :
  Seq Tryz.prog 76 #[.pointer (some ⟨B, 0, none⟩)] (fun (x : Nat × List UInt8) av _ => av = #[.int .i64 x.1, sv x.2]) (fun k o => k ≠ bo ∧ o.isCells = true) (fun _ _ => False) (nmP 0 fs) W0 := by
 intro l J Jx hJ hJx hY h0
 obtain ⟨A, c, rfl, hb1, hb2⟩ := Fs.open_ hF
 refine (callsIn_wd (ro := none) (n := 9)).1 ?_
 refine callsIn_of_wp Tryz.func76 rfl trivial ?_ rfl
 simp only [Tryz.ntmps76, List.size_toArray, List.length_cons, List.length_nil, Nat.reduceAdd, Nat.reduceSub, Array.replicate_succ, Array.replicate_zero, List.push_toArray, List.append_toArray, List.nil_append, List.cons_append]
 have Hes := Lib.hid hF
 clear hF
 obtain ⟨all, hall⟩ : ∃ all, nmP 0 fs = all := ⟨_, rfl⟩
 rw [hall] at hY ⊢
 have HA := Lib.hid hall
 have c1 := hB.cell
 clear hall
 gi_wp2
 clear c1
 gi_loopw [7] (fun j W => ∃ (k : Nat) (pre : List (Nat × List UInt8)), j = .int .i64 k ∧ k ≤ fs.length ∧ Hid (all = pre ++ nmP k (fs.drop k)) ∧ Hid (J pre W) ∧ Hold wo W ∧ Boxed W B 22 (.slice A fs.length c) ∧ W0.heap.size ≤ W.heap.size) (fun j _ => fs.length + 1 - (intOf j).toNat)
 case atStart => exact ⟨0, [], rfl, by omega, HA.out.symm, h0, hH, hB, Nat.le_refl _⟩
 case round =>
  obtain ⟨k, pre, rfl, hkl, HP, HJ, HH, bB, hsz⟩ := hrel
  by_cases hlt : k < fs.length
  ·obtain ⟨_, b, off, rfl, hc⟩ := (Hes.out.keep HH).at_ (by omega)
   obtain ⟨hc0, B2, d2, hc1, _⟩ := hc k hlt
   have hPP := HP.out
   rw [nmP_at hlt] at hPP
   have HPP := Lib.hid hPP
   have Hno := Lib.hid hY
   clear hc hPP hY
   generalize fs[k].2.length = m2 at *
   generalize fs[k].1 = x at *
   simp only [sv] at hc0
   have hX1 : Ext wr (wr.alloc (.cells #[sv x, .slice B2 m2 d2] 52)) := Ext.alloc (Ext.refl _) _
   have hJ1 := hJ pre wr (wr.alloc (.cells #[sv x, .slice B2 m2 d2] 52)) HJ.out (Moves.refl.alloc _)
   have hsz1 := Nat.le_trans hsz hX1.size
   have hB1 : Boxed (wr.alloc (.cells #[sv x, .slice B2 m2 d2] 52)) B 22 (.slice (some ⟨b, off, none⟩) fs.length c) := bB.kept (row := none) (Ext.grown hX1 none) (by simp)
   have hH1 : Hold wo (wr.alloc (.cells #[sv x, .slice B2 m2 d2] 52)) := fun q u hq => Ext.cell hX1 (HH q u hq)
   have hy := Hno.out pre (k, x) _ HPP.out _ #[.int .i64 (k : Int), sv x] hJ1 hsz1 rfl
   have Hy := Lib.hid hy
   have HH1 := Lib.hid hH1
   have hbx := Blk.new wr 52 #[sv x, .slice B2 m2 d2]
   have g0 := hbx.cell 0 rfl
   have g1 := hbx.cell 1 rfl
   clear hy hJ1 hH1 hX1 hbx
   simp only [sv] at *
   gi_wp2
   refine uponIn_yield Hy.out ?_
   rintro e W' ⟨hk', ⟨rfl, hj⟩ | ⟨rfl, hj⟩⟩
   ·refine ⟨true, rfl, ?_⟩
    have d1 : Boxed W' B 22 (.slice (some ⟨b, off, none⟩) fs.length c) := hk'.boxed hB1 (.inl ⟨hBo, rfl⟩)
    have hs' : W0.heap.size ≤ W'.heap.size := Nat.le_trans hsz1 hk'.size
    have HH2 := Lib.hid (Hold.kept HH1.out h1 hk')
    have HJ3 := Lib.hid hj
    have hsp : all = (pre ++ [(k, x)]) ++ nmP (k + 1) (fs.drop (k + 1)) := by rw [List.append_assoc]; exact HPP.out
    have Hsp := Lib.hid hsp
    clear hj hk' g0 g1 hsp Hy hc0 hc1
    gi_wp2
    exact ⟨⟨k + 1, pre ++ [(k, x)], by go_num, by omega, Hsp.out, HJ3.out, HH2.out, d1, hs'⟩, by simp [intOf]; omega⟩
   ·refine ⟨false, rfl, ?_⟩
    have HJ3 := Lib.hid hj
    clear hj hk' g0 g1 hc0 hc1
    gi_wp2
    refine bodyPost_ret (results_none rfl _ _ _) rfl ?_
    refine ⟨⟨_, rfl⟩, .inr ⟨pre ++ [(k, x)], ?_, HJ3.out⟩⟩
    exact ⟨nmP (k + 1) (fs.drop (k + 1)), by rw [List.append_assoc]; exact HPP.out.symm⟩
  ·obtain rfl : k = fs.length := by omega
   have hPP := HP.out
   rw [List.drop_length, show nmP fs.length ([] : List Fil) = [] from rfl, List.append_nil] at hPP
   subst hPP
   clear HP hY
   gi_wp2
   refine bodyPost_end (results_none rfl _ _ _) rfl ?_
   exact ⟨⟨_, rfl⟩, .inl HJ.out⟩
theorem called_any (A : Option Addr) (n c : Nat) (w : World) : Calls Tryz.prog 59 #[.slice A n c] w fun e w' => e = .returned (.func (.func 76) #[] #[.pointer (some ⟨w.heap.size, 0, none⟩)]) ∧ w.alloc (.cells #[.slice A n c] 22) = w' := by
 go_enter Tryz.func59, Tryz.ntmps59
 go_wp2
 go_ret
 exact ⟨rfl, rfl⟩
def FiI (w : World) (sb : Nat) (n : List UInt8) (pre : List (Nat × List UInt8)) (X : World) : Prop := (∀ x ∈ pre, x.2 ≠ n) ∧ (∃ v, Boxed X (w.heap.size + 1) 3 v) ∧ Boxed X sb 9 (.string ⟨n.toArray⟩) ∧ Ext w X
def FiX (w : World) (n : List UInt8) (cd : Code) (pre : List (Nat × List UInt8)) (X : World) : Prop := cd = Code.ret ∧ ∃ (pre' : List (Nat × List UInt8)) (k : Nat), pre = pre' ++ [(k, n)] ∧ (∀ x ∈ pre', x.2 ≠ n) ∧ Boxed X (w.heap.size + 1) 3 (.int .i64 (k : Int)) ∧ Ext w X
theorem find_fresh (k s f : Int) (w : World) : Boxed ((w.alloc (.cells #[.int .u8 k, .int .i64 s, .int .i64 f] 40)).alloc (.cells #[.int .i64 0] 3)) (w.heap.size + 1) 3 (.int .i64 0) := by
 have := Boxed.new (w.alloc (.cells #[.int .u8 k, .int .i64 s, .int .i64 f] 40)) 3 (.int .i64 0)
 rwa [World.size_alloc] at this
theorem find_res (tmps : Array Value) (W : World) (b : Nat) (u : Value) (h4 : tmps.getD 4 undef = .pointer (some ⟨b, 0, none⟩)) (hc : W.cell? ⟨b, 0, none⟩ = some u) (hu : ∃ n, u = .int .i64 n) : (results Tryz.f34 tmps).run Tryz.prog W = .ok u W := by
 obtain ⟨n, rfl⟩ := hu
 have h4' : tmps[4]?.getD undef = .pointer (some ⟨b, 0, none⟩) := by simpa using h4
 simp [results, Tryz.results34, h4', hc, go_sem]
attribute [local go_sem] Oper.semAt_some in
theorem Find_none (v : Value) (fs : List Fil) (k s f : Int) (w : World) (hS : StW w) (hF : Fs w v fs) (hn : nameS k s f = none) : Calls Tryz.prog 34 #[v, .agg #[.int .u8 k, .int .i64 s, .int .i64 f]] w fun e w' => e = .returned (.int .i64 (-1)) ∧ Ext w w' := by
 obtain ⟨A, c, rfl, h1, h2⟩ := Fs.open_ hF
 have hX : Ext w ((w.alloc (.cells #[.int .u8 k, .int .i64 s, .int .i64 f] 40)).alloc (.cells #[.int .i64 0] 3)) := Ext.alloc (Ext.alloc (Ext.refl _) _) _
 have key := Name_any k s f _ (hS.ext hX)
 rw [hn] at key
 have key' : Calls Tryz.prog 58 #[.agg #[.int .u8 k, .int .i64 s, .int .i64 f]] ((w.alloc (.cells #[.int .u8 k, .int .i64 s, .int .i64 f] 40)).alloc (.cells #[.int .i64 0] 3)) (fun e w' => e = .returned (.tuple #[.string ⟨#[]⟩, .int .i64 2]) ∧ Ext ((w.alloc (.cells #[.int .u8 k, .int .i64 s, .int .i64 f] 40)).alloc (.cells #[.int .i64 0] 3)) w') := key
 have Key := Lib.hid key'
 have q0 := find_fresh k s f w
 clear key key' hF hS hn
 refine (callsIn_wd (ro := none) (n := 9)).1 ?_
 refine callsIn_of_wp_marks Tryz.func34 rfl trivial ?_ rfl
 simp only [Tryz.ntmps34, List.size_toArray, List.length_cons, List.length_nil, Nat.reduceAdd, Nat.reduceSub, Array.replicate_succ, Array.replicate_zero, List.push_toArray, List.append_toArray, List.nil_append, List.cons_append]
 gi_wp2_with (refine ⟨trivial, ?_⟩; gi_at_call 58; refine (callsIn_wd.2 Key.out).mono ?_; rintro e w1 ⟨rfl, hE1⟩; have q1 := (q0.kept (row := none) (Ext.grown hE1 none) (by simp)).alloc (.cells #[.string ⟨#[]⟩] 9); have c1 := q1.cell; have f1 := q1.frozen)
 have q2 := q1.set (.int .i64 (-1))
 refine ret_none (.int .i64 (-1)) (find_res _ _ _ _ rfl q2.cell ⟨_, rfl⟩) ?_
 exact ⟨rfl, Below.setCell (p := ⟨w.heap.size + 1, 0, none⟩) (Ext.alloc (Ext.trans hX hE1) _) (by show w.heap.size ≤ w.heap.size + 1; omega) _⟩
attribute [local go_sem] Oper.semAt_some in
theorem Find_some (v : Value) (fs : List Fil) (k s f : Int) (w : World) (hS : StW w) (hF : Fs w v fs) (hl : fs.length ≤ 4000000) (n : List UInt8) (hn : nameS k s f = some n) : Calls Tryz.prog 34 #[v, .agg #[.int .u8 k, .int .i64 s, .int .i64 f]] w fun e w' => e = .returned (.int .i64 (placeS fs n)) ∧ Ext w w' := by
 obtain ⟨A, c, rfl, h1, h2⟩ := Fs.open_ hF
 have hX : Ext w ((w.alloc (.cells #[.int .u8 k, .int .i64 s, .int .i64 f] 40)).alloc (.cells #[.int .i64 0] 3)) := Ext.alloc (Ext.alloc (Ext.refl _) _) _
 have key := Name_any k s f _ (hS.ext hX)
 rw [hn] at key
 have key' : Calls Tryz.prog 58 #[.agg #[.int .u8 k, .int .i64 s, .int .i64 f]] ((w.alloc (.cells #[.int .u8 k, .int .i64 s, .int .i64 f] 40)).alloc (.cells #[.int .i64 0] 3)) (fun e w' => e = .returned (.tuple #[.string ⟨n.toArray⟩, .int .i64 0]) ∧ Ext ((w.alloc (.cells #[.int .u8 k, .int .i64 s, .int .i64 f] 40)).alloc (.cells #[.int .i64 0] 3)) w') := key
 have Key := Lib.hid key'
 have q0 := find_fresh k s f w
 have HF := Lib.hid hF
 clear key key' hF hS hn
 refine (callsIn_wd (ro := none) (n := 9)).1 ?_
 refine callsIn_of_wp_marks Tryz.func34 rfl trivial ?_ rfl
 simp only [Tryz.ntmps34, List.size_toArray, List.length_cons, List.length_nil, Nat.reduceAdd, Nat.reduceSub, Array.replicate_succ, Array.replicate_zero, List.push_toArray, List.append_toArray, List.nil_append, List.cons_append]
 gi_wp2_with (first
  | (refine ⟨trivial, ?_⟩; gi_at_call 58; refine (callsIn_wd.2 Key.out).mono ?_; rintro e w1 ⟨rfl, hE1⟩; have q1 := (q0.kept (row := none) (Ext.grown hE1 none) (by simp)).alloc (.cells #[.string ⟨n.toArray⟩] 9); have c1 := q1.cell; have f1 := q1.frozen)
  | (refine ⟨trivial, ?_⟩; gi_at_call 59; refine (callsIn_wd.2 (called_any _ _ _ _)).mono ?_; rintro e w' ⟨rfl, rfl⟩))
 have hsz1 : w.heap.size + 2 ≤ w1.heap.size := by have := hE1.size; simp at this; omega
 have q3 : Boxed ((w1.alloc (.cells #[.string ⟨n.toArray⟩] 9)).alloc (.cells #[.slice A fs.length c] 22)) (w1.heap.size + 1) 22 (.slice A fs.length c) := by
  have := Boxed.new (w1.alloc (.cells #[.string ⟨n.toArray⟩] 9)) 22 (.slice A fs.length c)
  rwa [World.size_alloc] at this
 have hE3 : Ext w ((w1.alloc (.cells #[.string ⟨n.toArray⟩] 9)).alloc (.cells #[.slice A fs.length c] 22)) := Ext.alloc (Ext.alloc (Ext.trans hX hE1) _) _
 have h0 : FiI w w1.heap.size n [] ((w1.alloc (.cells #[.string ⟨n.toArray⟩] 9)).alloc (.cells #[.slice A fs.length c] 22)) := ⟨fun x h => (by cases h), ⟨_, q1.alloc _⟩, (Boxed.new w1 _ _).alloc _, hE3⟩
 have hs3 : w1.heap.size + 2 = ((w1.alloc (.cells #[.string ⟨n.toArray⟩] 9)).alloc (.cells #[.slice A fs.length c] 22)).heap.size := by simp
 generalize (w1.alloc (.cells #[.string ⟨n.toArray⟩] 9)).alloc (.cells #[.slice A fs.length c] 22) = w3 at *
 clear c1 f1 q1
 refine wp_range (a := ⟨_, _⟩) rfl (enters_of Tryz.func76 (by kernel_rfl) rfl)
  (fun W1 hb hs => called1_seq w W1 _ fs HF.out hl (fun q u hq => Ext.cell (Ext.trans hE3 hb) hq) (w1.heap.size + 1) (w.heap.size + 1) (q3.kept (row := none) (Ext.grown hb none) (by simp)) (by omega) (by omega))
  (fun k o h => h.elim) (fun k o h => h.2) (fun x av W h => by rw [h]; rfl)
  (FiI w w1.heap.size n) (FiX w n) ?hI ?hIx h0
  (fun x a' _ => a' = ⟨#[.slice A fs.length c, .agg #[.int .u8 k, .int .i64 s, .int .i64 f], undef, .pointer (some ⟨w.heap.size, 0, none⟩), .pointer (some ⟨w.heap.size + 1, 0, none⟩), .pointer (some ⟨w1.heap.size, 0, none⟩), .int .i64 0, .int .i64 x.1, sv x.2,
    .tuple #[.string ⟨n.toArray⟩, .int .i64 0], .agg #[.int .u8 k, .int .i64 s, .int .i64 f], .tuple #[.string ⟨n.toArray⟩, .int .i64 0], .string ⟨n.toArray⟩, .int .i64 0, .int .i64 0, .bool false, .slice A fs.length c,
    .func (.func 76) #[] #[.pointer (some ⟨w1.heap.size + 1, 0, none⟩)], .int .i64 x.1, sv x.2, undef, undef, undef, undef], []⟩)
  (fun _ _ _ _ h _ => h) ?assign ?body ?done ?stop
 case hI =>
  rintro s X Y ⟨hne, ⟨v, hv⟩, hs, hE⟩ hm
  refine ⟨hne, ⟨v, hm.boxed hv ?_⟩, hm.boxed hs ?_, hm.belowOf hE ?_ (Nat.le_trans (by omega) (Nat.le_refl _))⟩
  ·rintro (h | h)
   ·exact h
   ·cases h.2
  ·rintro (h | h)
   ·exact h
   ·cases h.2
  ·rintro k o hk (h | h)
   ·exact h
   ·have := h.1; omega
 case hIx =>
  rintro cd s X Y ⟨rfl, pre', j, rfl, hne, hv, hE⟩ hm
  refine ⟨rfl, pre', j, rfl, hne, hm.boxed hv ?_, hm.belowOf hE ?_ (Nat.le_refl _)⟩
  ·rintro (h | h)
   ·exact h
   ·cases h.2
  ·rintro k o hk (h | h)
   ·exact h
   ·have := h.1; omega
 case assign =>
  rintro l' pre x post W av K' hx hi hsz rfl hK
  gi_wp2
  exact hK _ _ Kept.refl hi rfl
 case body =>
  rintro l' pre ⟨j, x⟩ post a' W hx hl' hr ⟨hne, ⟨v, hv⟩, hs, hE⟩ hsz rfl
  have hc := hv.cell
  have hf := hv.frozen
  have hcs := hs.cell
  simp only [sv]
  by_cases he : x = n
  ·have heq : (x == n) = true := by simpa using he
   have He := Lib.hid he
   clear he
   gi_wp2
   refine ⟨Kept.refl.setCell (fun o ho _ => ?_) _, rfl, pre, j, by rw [He.out], hne, hv.set _, Below.setCell (p := ⟨w.heap.size + 1, 0, none⟩) hE (by show w.heap.size ≤ w.heap.size + 1; omega) _⟩
   rw [show W.heap[w.heap.size + 1]? = _ from hv] at ho; cases ho
   rintro (⟨h, _⟩ | ⟨_, h⟩)
   ·exact h rfl
   ·cases h
  ·have heq : (x == n) = false := by simpa using he
   have He := Lib.hid he
   clear he
   gi_wp2
   refine ⟨Kept.refl, fun y hy => ?_, ⟨v, hv⟩, hs, hE⟩
   rcases List.mem_append.1 hy with h | h
   ·exact hne y h
   ·rcases List.mem_singleton.1 h with rfl
    exact He.out
 case done =>
  rintro D W hD ⟨hne, ⟨v, hv⟩, hs, hE⟩ hK
  have hc := hv.cell
  have hf := hv.frozen
  gi_wp2
  have hv2 := hv.set (.int .i64 (-1))
  have hK2 := heap_setCell_obj hK rfl ⟨w.heap.size + 1, 0, none⟩ (.int .i64 (-1))
  have hcd := cell_putObj hv2.cell hK2 rfl (.deferred none)
  refine ret_mark hK2 (.int .i64 (-1)) (find_res _ _ _ _ rfl hcd ⟨_, rfl⟩) ?_
  refine ⟨?_, below_putObj (Below.setCell (p := ⟨w.heap.size + 1, 0, none⟩) hE (by show w.heap.size ≤ w.heap.size + 1; omega) _) (by omega) _⟩
  rw [place_none]
  intro q hq he
  refine hne (q, fs[q].1) ?_ he
  have := nmP_get (fs := fs) 0 q (by omega)
  simp only [Nat.zero_add, List.drop_zero] at this
  exact List.mem_of_getElem? this
 case stop =>
  rintro D cd pre W hD hpre ⟨rfl, pre', j, rfl, hne, hv, hE⟩ hK
  have hcd := cell_putObj hv.cell hK rfl (.deferred none)
  gi_wp2
  refine ret_mark hK (.int .i64 (j : Int)) (find_res _ _ _ _ rfl hcd ⟨_, rfl⟩) ?_
  refine ⟨?_, below_putObj hE (by omega) _⟩
  obtain ⟨post, hpost⟩ := hpre
  have hall : ∀ q, (hq : q < fs.length) → (nmP 0 fs)[q]? = some (q, fs[q].1) := fun q hq => by
   have := nmP_get (fs := fs) 0 q (by omega)
   simpa only [Nat.zero_add, List.drop_zero] using this
  have hlt : pre'.length < fs.length := by
   have := congrArg List.length hpost
   rw [nmP_len] at this
   simp at this; omega
  have h9 := hall pre'.length hlt
  rw [← hpost, List.append_assoc, List.getElem?_append_right (Nat.le_refl _), Nat.sub_self] at h9
  have h8 : (j, n) = (pre'.length, fs[pre'.length].1) := Option.some.inj h9
  injection h8 with h7 h6
  rw [h7, place_at hlt h6.symm]
  intro q hq h2 he
  have h5 := hall q h2
  rw [← hpost, List.append_assoc, List.getElem?_append_left hq] at h5
  exact hne _ (List.mem_of_getElem? h5) he
theorem Find_any (v : Value) (fs : List Fil) (k s f : Int) (w : World) (hS : StW w) (hF : Fs w v fs) (hl : fs.length ≤ 4000000) : Calls Tryz.prog 34 #[v, .agg #[.int .u8 k, .int .i64 s, .int .i64 f]] w fun e w' => e = .returned (.int .i64 (findS fs (nameS k s f))) ∧ Ext w w' := by
 cases hn : nameS k s f with
 | none => exact Find_none v fs k s f w hS hF hn
 | some n => exact Find_some v fs k s f w hS hF hl n hn
end Go.Proofs.YtmecffckghkahaaGreatDoor
