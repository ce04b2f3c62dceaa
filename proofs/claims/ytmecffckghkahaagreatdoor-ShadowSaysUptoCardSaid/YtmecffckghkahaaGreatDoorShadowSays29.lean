/- Merged: Sh4 -/
import Derived.Test.YtmecffckghkahaaGreatDoorShadowSays28
set_option linter.all false
set_option maxHeartbeats 8000000
namespace Go.Proofs.YtmecffckghkahaaGreatDoor
open Go.RowKit Go.Mv Go.Shelf
attribute [local go_sem] Oper.semAt_some
set_option maxRecDepth 100000
def turnSegs (s f g : Int) : List Sg4 → List Sg4
 | [] => []
 | t :: l => if t.seq = s ∧ t.fmt = f then { t with fmt := g } :: l else t :: turnSegs s f g l
def turnM (m : Mf) (k s f g : Int) : Mf :=
 if m.sq ≠ 0 ∧ k = 4 ∧ m.sq = s ∧ m.sf = f then { m with sf := g } else if k = 3 then { m with segs := turnSegs s f g m.segs } else m
def hitT (t : Thg) (k s f : Int) : Prop := t.k = k ∧ t.s = s ∧ t.f = f
theorem turn_segs {bs off : Nat} {k s f g : Int} : ∀ {l : List Sg4} {i : Nat} {pre post : List Thg} {t : Thg}, segThgs bs off i l = pre ++ t :: post → (∀ u ∈ pre, ¬ hitT u k s f) → hitT t k s f →
  k = 3 ∧ ∃ (j : Nat) (hj : j < l.length), t = segThg bs off (i + j) l[j] ∧ turnSegs s f g l = l.set j { l[j] with fmt := g }
 | [], i, pre, post, t, h, _, _ => by
  unfold segThgs at h
  cases pre <;> cases h
 | x :: l, i, pre, post, t, h, hp, ht => by
  rw [segThgs] at h
  cases pre with
  | nil =>
   rw [List.nil_append] at h
   injection h with h1 h2
   subst h1
   obtain ⟨rfl, h4, h5⟩ := ht
   refine ⟨rfl, 0, by simp, rfl, ?_⟩
   rw [turnSegs, if_pos ⟨h4, h5⟩]
   rfl
  | cons u pre =>
   rw [List.cons_append] at h
   injection h with h1 h2
   obtain ⟨hk, j, hj, h3, h4⟩ := turn_segs (g := g) h2 (fun v hv => hp v (List.mem_cons_of_mem _ hv)) ht
   refine ⟨hk, j + 1, by simpa using hj, by rw [h3]; simp [Nat.add_assoc, Nat.add_comm 1 j], ?_⟩
   have hu := hp u (by simp)
   rw [← h1] at hu
   rw [turnSegs, if_neg (fun e => hu ⟨hk.symm, e.1, e.2⟩), h4]
   rfl
theorem turn_segs_none {bs off : Nat} {s f g : Int} : ∀ {l : List Sg4} {i : Nat}, (∀ u ∈ segThgs bs off i l, ¬ hitT u 3 s f) → turnSegs s f g l = l
 | [], _, _ => rfl
 | x :: l, i, h => by
  rw [segThgs] at h
  rw [turnSegs, if_neg (fun e => h (segThg bs off i x) (by simp) ⟨rfl, e.1, e.2⟩), turn_segs_none (fun u hu => h u (List.mem_cons_of_mem _ hu))]
theorem turn_none {m : Mf} {bm bs off : Nat} {k s f g : Int} (h : ∀ u ∈ thgs m bm bs off, ¬ hitT u k s f) : turnM m k s f g = m := by
 unfold turnM
 split
 ·rename_i hc
  exact absurd (show hitT (snapThg m bm) k s f from ⟨hc.2.1.symm, hc.2.2.1, hc.2.2.2⟩) (h _ (by unfold thgs; rw [if_neg hc.1]; simp))
 ·split
  ·rename_i hk
   subst hk
   rw [turn_segs_none (fun u hu => h u (by unfold thgs; exact List.mem_append_right _ hu))]
  ·rfl
theorem turn_hit {m : Mf} {bm bs off : Nat} {k s f g : Int} {pre post : List Thg} {t : Thg} (h : thgs m bm bs off = pre ++ t :: post) (hp : ∀ u ∈ pre, ¬ hitT u k s f) (ht : hitT t k s f) :
  (m.sq ≠ 0 ∧ t = snapThg m bm ∧ turnM m k s f g = { m with sf := g }) ∨
  (∃ (j : Nat) (hj : j < m.segs.length), t = segThg bs off j m.segs[j] ∧ turnM m k s f g = { m with segs := m.segs.set j { m.segs[j] with fmt := g } }) := by
 unfold thgs at h
 by_cases hq : m.sq = 0
 ·rw [if_pos hq, List.nil_append] at h
  obtain ⟨hk, j, hj, h1, h2⟩ := turn_segs (g := g) h hp ht
  refine .inr ⟨j, hj, by simpa using h1, ?_⟩
  unfold turnM
  rw [if_neg (fun e => e.1 hq), if_pos hk, h2]
 ·rw [if_neg hq, List.cons_append, List.nil_append] at h
  cases pre with
  | nil =>
   injection h with h1 h2
   subst h1
   refine .inl ⟨hq, rfl, ?_⟩
   unfold turnM
   rw [if_pos ⟨hq, ht.1.symm, ht.2.1, ht.2.2⟩]
  | cons u pre =>
   injection h with h1 h2
   obtain ⟨hk, j, hj, h3, h4⟩ := turn_segs (g := g) h2 (fun v hv => hp v (List.mem_cons_of_mem _ hv)) ht
   refine .inr ⟨j, hj, by simpa using h3, ?_⟩
   unfold turnM
   rw [if_neg (fun e => by omega), if_pos hk, h4]
theorem sgCells_set (g : Int) : ∀ (l : List Sg4) (j : Nat) (hj : j < l.length), sgCells (l.set j { l[j] with fmt := g }) = (sgCells l).set (j * 4 + 1) (.int .i64 g)
 | [], j, hj => by simp at hj
 | x :: l, 0, _ => by
  show Sg4.cells { x with fmt := g } ++ sgCells l = (x.cells ++ sgCells l).set 1 _
  rfl
 | x :: l, j + 1, hj => by
  have hj' : j < l.length := by simpa using hj
  have ih := sgCells_set g l j hj'
  show x.cells ++ sgCells (l.set j { l[j] with fmt := g }) = (x.cells ++ sgCells l).set ((j + 1) * 4 + 1) _
  rw [ih, show (j + 1) * 4 + 1 = (j * 4 + 1) + 4 from by omega]
  rfl
theorem own_fmt {W : World} {base gb n c : Nat} {l : List Sg4} (h : OwnS W base (.slice (some ⟨gb, 0, none⟩) n c) l) (j : Nat) (hj : j < l.length) (g : Int) : OwnS (W.setCell ⟨gb, j * 4 + 1, none⟩ (.int .i64 g)) base (.slice (some ⟨gb, 0, none⟩) n c) (l.set j { l[j] with fmt := g }) := by
 obtain ⟨h1, h2⟩ := h
 rcases h2 with ⟨h2, _⟩ | ⟨q, cap, cur, h2, hb, hq, hn, hc, hs, ht⟩
 ·cases h2
 ·injection h2 with e1 e2 e3
  injection e1 with e1
  injection e1 with e1
  subst e1 e2 e3
  have hq2 : Blk W gb 71 cur := hq
  have hq3 := hq2.set (j * 4 + 1) (.int .i64 g)
  unfold OwnS
  rw [List.length_set, sgCells_set]
  refine ⟨by rw [List.length_set]; exact h1, .inr ⟨gb, c, _, rfl, hb, hq3, hn, hc, by rw [Array.size_setIfInBounds]; exact hs, ?_⟩⟩
  rw [Array.toList_setIfInBounds, List.take_set, ht]
def RowS (W : World) (bm bs : Nat) : Prop := bs = bm ∨ ∃ cur, Blk W bs 71 cur
theorem thw_own {W : World} {base : Nat} {m : Mf} {A : Option Addr} {c bp bm : Nat} (hO : OwnS W base (.slice A m.segs.length c) m.segs) (hp : W.cell? ⟨bp, 0, none⟩ = some (.pointer (some ⟨bm, 0, none⟩)))
  (hb : Blk W bm 32 #[.int .i64 m.next, .int .i64 m.term, .int .i64 m.vote, .int .i64 m.sq, .int .i64 m.sf, .slice A m.segs.length c]) : ∃ bs, RowS W bm bs ∧ (0 < m.segs.length → A = some ⟨bs, 0, none⟩) ∧ ThW m A c bp bm bs 0 W := by
 have hS := hO.sgs
 have hlen : m.segs.length ≤ 9223372036854775807 := by have := SlR.len_le hS; simpa [maxLen] using this
 by_cases hn : 0 < m.segs.length
 ·rcases hO.2 with ⟨h, h0⟩ | ⟨q, cap, cur, h, _, hq, _⟩
  ·omega
  ·injection h with e1 e2 e3
   subst e1 e3
   obtain ⟨_, bs, off, e, hc⟩ := hS.at_ hn
   injection e with e
   injection e with e1 e2
   subst e1 e2
   exact ⟨q, .inr ⟨cur, hq⟩, fun _ => rfl, hp, hb.cell 3 rfl, hb.cell 4 rfl, hb.cell 5 rfl, fun _ => rfl, hc, hlen⟩
 ·exact ⟨bm, .inl rfl, fun h => absurd h hn, hp, hb.cell 3 rfl, hb.cell 4 rfl, hb.cell 5 rfl, fun h => absurd h hn, fun k hk => absurd hk (by omega), hlen⟩
def TurnP (w : World) (r : Mf) (e : Ending) (w' : World) : Prop := ∃ v', e = .returned (.agg #[.int .i64 r.next, .int .i64 r.term, .int .i64 r.vote, .int .i64 r.sq, .int .i64 r.sf, v']) ∧ OwnS w' w.heap.size v' r.segs ∧ Ext w w'
structure TrI (w : World) (m : Mf) (A : Option Addr) (c : Nat) (k s f g : Int) (pre : List Thg) (W : World) : Prop where
 no : ∀ u ∈ pre, ¬ hitT u k s f
 b0 : Blk W (w.heap.size) 32 #[.int .i64 m.next, .int .i64 m.term, .int .i64 m.vote, .int .i64 m.sq, .int .i64 m.sf, .slice A m.segs.length c]
 b1 : Blk W (w.heap.size + 1) 40 #[.int .u8 k, .int .i64 s, .int .i64 f]
 b2 : Blk W (w.heap.size + 1 + 1) 3 #[.int .i64 g]
 b3 : Blk W (w.heap.size + 1 + 1 + 1) 32 #[.int .i64 0, .int .i64 0, .int .i64 0, .int .i64 0, .int .i64 0, .slice none 0 0]
 o : OwnS W w.heap.size (.slice A m.segs.length c) m.segs
 e : Ext w W
def TrX (w : World) (m : Mf) (A : Option Addr) (c : Nat) (k s f g : Int) (xs : List Thg) (cd : Code) (pre : List Thg) (W : World) : Prop := cd = .ret ∧ (∃ r : Mf, turnM m k s f g = r ∧ r.segs.length = m.segs.length ∧
 Blk W (w.heap.size + 1 + 1 + 1) 32 #[.int .i64 r.next, .int .i64 r.term, .int .i64 r.vote, .int .i64 r.sq, .int .i64 r.sf, .slice A m.segs.length c] ∧ OwnS W w.heap.size (.slice A m.segs.length c) r.segs ∧ Ext w W)
theorem own_putObj {W : World} {base : Nat} {e : TypeId} {size : Nat} {v : Value} {n : Nat} {xs : List Value} (h : W.ownsRow base e size v n xs) {D : Nat} {o : Obj} (hD : W.heap[D]? = some o) (hc : o.isCells = false) (o' : Obj) : (W.putObj D o').ownsRow base e size v n xs := by
 refine ⟨h.1, ?_⟩
 rcases h.2 with hn | ⟨g, cap, cur, hv, hb, hg, rest⟩
 ·exact .inl hn
 ·exact .inr ⟨g, cap, cur, hv, hb, blk_putObj (W := W) (b := g) (t := e) (cs := cur) hg hD hc o', rest⟩
theorem heap_set6_obj {W : World} {D : Nat} {o : Obj} (h : W.heap[D]? = some o) (hc : o.isCells = false) (b : Nat) (a' v' u' x' y' z' : Value) : (set6 W b a' v' u' x' y' z').heap[D]? = some o :=
 heap_setCell_obj (heap_setCell_obj (heap_setCell_obj (heap_setCell_obj (heap_setCell_obj (heap_setCell_obj h hc _ _) hc _ _) hc _ _) hc _ _) hc _ _) hc _ _
theorem turn_res (tmps : Array Value) (W : World) (b : Nat) (cs : Array Value) (h4 : tmps.getD 6 undef = .pointer (some ⟨b, 0, none⟩)) (hb : Blk W b 32 cs) (hs : cs.size = 6) : (results Tryz.f13 tmps).run Tryz.prog W = .ok (.agg cs) W := by
 have hl := hb.load (P := Tryz.prog) mfUnder rfl (by rw [hs]; kernel_rfl)
 have h4' : tmps[6]?.getD undef = .pointer (some ⟨b, 0, none⟩) := by simpa using h4
 simp [results, Tryz.results13, h4', asAddr, hl]
theorem Turned_any (m : Mf) (k s f g : Int) (v : Value) (w : World) (hS : Sgs w v m.segs) (hl : m.segs.length ≤ 1000000) :
  Calls Tryz.prog 13 #[.agg #[.int .i64 m.next, .int .i64 m.term, .int .i64 m.vote, .int .i64 m.sq, .int .i64 m.sf, v], .agg #[.int .u8 k, .int .i64 s, .int .i64 f], .int .i64 g] w (TurnP w (turnM m k s f g)) := by
 obtain ⟨A, c, rfl, _, _⟩ := hS.open_
 have b0 : Blk (w.alloc (.cells #[.int .i64 m.next, .int .i64 m.term, .int .i64 m.vote, .int .i64 m.sq, .int .i64 m.sf, .slice A m.segs.length c] 32)) (w.heap.size) 32 #[.int .i64 m.next, .int .i64 m.term, .int .i64 m.vote, .int .i64 m.sq, .int .i64 m.sf, .slice A m.segs.length c] := Blk.new w _ _
 have b1 : Blk ((w.alloc (.cells #[.int .i64 m.next, .int .i64 m.term, .int .i64 m.vote, .int .i64 m.sq, .int .i64 m.sf, .slice A m.segs.length c] 32)).alloc (.cells #[.int .u8 k, .int .i64 s, .int .i64 f] 40)) (w.heap.size + 1) 40 #[.int .u8 k, .int .i64 s, .int .i64 f] := by have := Blk.new (w.alloc (.cells #[.int .i64 m.next, .int .i64 m.term, .int .i64 m.vote, .int .i64 m.sq, .int .i64 m.sf, .slice A m.segs.length c] 32)) 40 #[.int .u8 k, .int .i64 s, .int .i64 f]; rwa [World.size_alloc] at this
 have b2 : Blk (((w.alloc (.cells #[.int .i64 m.next, .int .i64 m.term, .int .i64 m.vote, .int .i64 m.sq, .int .i64 m.sf, .slice A m.segs.length c] 32)).alloc (.cells #[.int .u8 k, .int .i64 s, .int .i64 f] 40)).alloc (.cells #[.int .i64 g] 3)) (w.heap.size + 1 + 1) 3 #[.int .i64 g] := by have := Blk.new ((w.alloc (.cells #[.int .i64 m.next, .int .i64 m.term, .int .i64 m.vote, .int .i64 m.sq, .int .i64 m.sf, .slice A m.segs.length c] 32)).alloc (.cells #[.int .u8 k, .int .i64 s, .int .i64 f] 40)) 3 #[.int .i64 g]; rwa [World.size_alloc, World.size_alloc] at this
 have b3 : Blk ((((w.alloc (.cells #[.int .i64 m.next, .int .i64 m.term, .int .i64 m.vote, .int .i64 m.sq, .int .i64 m.sf, .slice A m.segs.length c] 32)).alloc (.cells #[.int .u8 k, .int .i64 s, .int .i64 f] 40)).alloc (.cells #[.int .i64 g] 3)).alloc (.cells #[.int .i64 0, .int .i64 0, .int .i64 0, .int .i64 0, .int .i64 0, .slice none 0 0] 32)) (w.heap.size + 1 + 1 + 1) 32 #[.int .i64 0, .int .i64 0, .int .i64 0, .int .i64 0, .int .i64 0, .slice none 0 0] := by have := Blk.new (((w.alloc (.cells #[.int .i64 m.next, .int .i64 m.term, .int .i64 m.vote, .int .i64 m.sq, .int .i64 m.sf, .slice A m.segs.length c] 32)).alloc (.cells #[.int .u8 k, .int .i64 s, .int .i64 f] 40)).alloc (.cells #[.int .i64 g] 3)) 32 #[.int .i64 0, .int .i64 0, .int .i64 0, .int .i64 0, .int .i64 0, .slice none 0 0]; rwa [World.size_alloc, World.size_alloc, World.size_alloc] at this
 have c0 := (((b0.alloc (.cells #[.int .u8 k, .int .i64 s, .int .i64 f] 40)).alloc (.cells #[.int .i64 g] 3)).alloc (.cells #[.int .i64 0, .int .i64 0, .int .i64 0, .int .i64 0, .int .i64 0, .slice none 0 0] 32))
 have c1 := ((b1.alloc (.cells #[.int .i64 g] 3)).alloc (.cells #[.int .i64 0, .int .i64 0, .int .i64 0, .int .i64 0, .int .i64 0, .slice none 0 0] 32))
 have c2 := (b2.alloc (.cells #[.int .i64 0, .int .i64 0, .int .i64 0, .int .i64 0, .int .i64 0, .slice none 0 0] 32))
 have c3 := b3
 have hE4 : Ext w ((((w.alloc (.cells #[.int .i64 m.next, .int .i64 m.term, .int .i64 m.vote, .int .i64 m.sq, .int .i64 m.sf, .slice A m.segs.length c] 32)).alloc (.cells #[.int .u8 k, .int .i64 s, .int .i64 f] 40)).alloc (.cells #[.int .i64 g] 3)).alloc (.cells #[.int .i64 0, .int .i64 0, .int .i64 0, .int .i64 0, .int .i64 0, .slice none 0 0] 32)) := Ext.alloc (Ext.alloc (Ext.alloc (Ext.alloc (Ext.refl _) _) _) _) _
 have hs4 : ((((w.alloc (.cells #[.int .i64 m.next, .int .i64 m.term, .int .i64 m.vote, .int .i64 m.sq, .int .i64 m.sf, .slice A m.segs.length c] 32)).alloc (.cells #[.int .u8 k, .int .i64 s, .int .i64 f] 40)).alloc (.cells #[.int .i64 g] 3)).alloc (.cells #[.int .i64 0, .int .i64 0, .int .i64 0, .int .i64 0, .int .i64 0, .slice none 0 0] 32)).heap.size = w.heap.size + 4 := by simp
 have key := OwnM_any m _ _ (hS.ext hE4) hl
 have HC0 := Lib.hid c0
 have HC1 := Lib.hid c1
 have HC2 := Lib.hid c2
 have HC3 := Lib.hid c3
 have HE4 := Lib.hid hE4
 have Key := Lib.hid key
 obtain ⟨m0, m1, m2, m3, m4, m5⟩ := blk6 c0
 clear b0 b1 b2 b3 c0 c1 c2 c3 hE4 key hS
 refine (callsIn_wd (ro := none) (n := 9)).1 ?_
 refine callsIn_of_wp_marks Tryz.func13 rfl trivial ?_ rfl
 simp only [Tryz.ntmps13, List.size_toArray, List.length_cons, List.length_nil, Nat.reduceAdd, Nat.reduceSub, Array.replicate_succ, Array.replicate_zero, List.push_toArray, List.append_toArray, List.nil_append, List.cons_append]
 gi_wp2_with fail
 refine ⟨trivial, ?_⟩
 refine (callsIn_wd.2 Key.out).mono ?_
 rintro e w1 ⟨v1, rfl, ho, hE1⟩
 obtain ⟨A1, c1, rfl, _, _⟩ := SlR.open_ (SlR.of_own ho)
 have h0 := HC0.out.ext hE1
 have h1 := HC1.out.ext hE1
 have h2 := HC2.out.ext hE1
 have h3 := HC3.out.ext hE1
 have hE := Ext.trans HE4.out hE1
 have hs1 : w.heap.size + 4 ≤ w1.heap.size := by have := hE1.size; rw [hs4] at this; exact this
 have H0 := Lib.hid h0
 have H1 := Lib.hid h1
 have H2 := Lib.hid h2
 have H3 := Lib.hid h3
 have HE := Lib.hid hE
 have HO := Lib.hid (own_base ho (by rw [hs4]; omega : w.heap.size ≤ _))
 clear m0 m1 m2 m3 m4 m5 h1 h2 h3 hE hE1 ho Key HC0 HC1 HC2 HC3
 obtain ⟨m0, m1, m2, m3, m4, m5⟩ := blk6 h0
 obtain ⟨z0, z1, z2, z3, z4, z5, _, _⟩ := blk8f h0
 clear h0 hs4
 gi_wp2_with (refine ⟨trivial, ?_⟩; gi_at_call 25; refine (callsIn_wd.2 (things_any _ _)).mono ?_; rintro e w' ⟨rfl, rfl⟩)
 show Code.wpIn (Wd none) 9 Tryz.prog _ _ _ (World.alloc (set6 w1 w.heap.size (.int .i64 m.next) (.int .i64 m.term) (.int .i64 m.vote) (.int .i64 m.sq) (.int .i64 m.sf) (.slice A1 m.segs.length c1)) (.cells #[.pointer (some ⟨w.heap.size, 0, none⟩)] 75))
 have q0 : Blk (set6 w1 w.heap.size (.int .i64 m.next) (.int .i64 m.term) (.int .i64 m.vote) (.int .i64 m.sq) (.int .i64 m.sf) (.slice A1 m.segs.length c1)) w.heap.size 32 #[.int .i64 m.next, .int .i64 m.term, .int .i64 m.vote, .int .i64 m.sq, .int .i64 m.sf, .slice A1 m.segs.length c1] := blk_set6 H0.out _ _ _ _ _ _
 have q1 := blk_oth6 H1.out (by omega : w.heap.size + 1 ≠ w.heap.size) (.int .i64 m.next) (.int .i64 m.term) (.int .i64 m.vote) (.int .i64 m.sq) (.int .i64 m.sf) (.slice A1 m.segs.length c1)
 have q2 := blk_oth6 H2.out (by omega : w.heap.size + 1 + 1 ≠ w.heap.size) (.int .i64 m.next) (.int .i64 m.term) (.int .i64 m.vote) (.int .i64 m.sq) (.int .i64 m.sf) (.slice A1 m.segs.length c1)
 have q3 := blk_oth6 H3.out (by omega : w.heap.size + 1 + 1 + 1 ≠ w.heap.size) (.int .i64 m.next) (.int .i64 m.term) (.int .i64 m.vote) (.int .i64 m.sq) (.int .i64 m.sf) (.slice A1 m.segs.length c1)
 have qo : OwnS (set6 w1 w.heap.size (.int .i64 m.next) (.int .i64 m.term) (.int .i64 m.vote) (.int .i64 m.sq) (.int .i64 m.sf) (.slice A1 m.segs.length c1)) w.heap.size (.slice A1 m.segs.length c1) m.segs := own_of6 H0.out (by decide) HO.out (.int .i64 m.next) (.int .i64 m.term) (.int .i64 m.vote) (.int .i64 m.sq) (.int .i64 m.sf) (.slice A1 m.segs.length c1)
 have qe : Ext w (set6 w1 w.heap.size (.int .i64 m.next) (.int .i64 m.term) (.int .i64 m.vote) (.int .i64 m.sq) (.int .i64 m.sf) (.slice A1 m.segs.length c1)) := ext_set6 HE.out (Nat.le_refl _) (.int .i64 m.next) (.int .i64 m.term) (.int .i64 m.vote) (.int .i64 m.sq) (.int .i64 m.sf) (.slice A1 m.segs.length c1)
 have qs : (set6 w1 w.heap.size (.int .i64 m.next) (.int .i64 m.term) (.int .i64 m.vote) (.int .i64 m.sq) (.int .i64 m.sf) (.slice A1 m.segs.length c1)).heap.size = w1.heap.size := by simp [set6, World.setCell]
 clear m0 m1 m2 m3 m4 m5 z0 z1 z2 z3 z4 z5 H0 H1 H2 H3 HO HE
 generalize (set6 w1 w.heap.size (.int .i64 m.next) (.int .i64 m.term) (.int .i64 m.vote) (.int .i64 m.sq) (.int .i64 m.sf) (.slice A1 m.segs.length c1)) = w5 at *
 have hX : Ext w5 (w5.alloc (.cells #[.pointer (some ⟨w.heap.size, 0, none⟩)] 75)) := Ext.alloc (Ext.refl _) _
 have bp := Blk.new w5 75 #[.pointer (some ⟨w.heap.size, 0, none⟩)]
 rw [qs] at bp
 have hs6 : (w5.alloc (.cells #[.pointer (some ⟨w.heap.size, 0, none⟩)] 75)).heap.size = w1.heap.size + 1 := by rw [World.size_alloc, qs]
 obtain ⟨bs, hrow, hA1, hT⟩ := thw_own (bp := w1.heap.size) (own_ext qo hX) (bp.cell 0 rfl) (q0.ext hX)
 have h0 : TrI w m A1 c1 k s f g [] (w5.alloc (.cells #[.pointer (some ⟨w.heap.size, 0, none⟩)] 75)) := ⟨fun u hu => (by cases hu), q0.ext hX, q1.ext hX, q2.ext hX, q3.ext hX, own_ext qo hX, Ext.trans qe hX⟩
 clear bp q0 q1 q2 q3 qo qe hX
 generalize (w5.alloc (.cells #[.pointer (some ⟨w.heap.size, 0, none⟩)] 75)) = w6 at *
 clear qs
 refine wp_rangeT (a := ⟨_, _⟩) rfl (enters_of Tryz.func44 (by kernel_rfl) rfl)
  (fun W1 hb hs => things1_seq m A1 c1 w1.heap.size w.heap.size bs 0 W1 (hT.ext hb))
  (fun k o h => h.elim) (fun k o h => h.1) (fun x av W h => by rw [h]; rfl)
  (TrI w m A1 c1 k s f g) (TrX w m A1 c1 k s f g (thgs m w.heap.size bs 0)) ?hI ?hIx h0
  (fun x a' W => ∃ bt, a' = ⟨#[.agg #[.int .i64 m.next, .int .i64 m.term, .int .i64 m.vote, .int .i64 m.sq, .int .i64 m.sf, .slice A m.segs.length c], .agg #[.int .u8 k, .int .i64 s, .int .i64 f], .int .i64 g, .pointer (some ⟨w.heap.size, 0, none⟩), .pointer (some ⟨w.heap.size + 1, 0, none⟩), .pointer (some ⟨w.heap.size + 1 + 1, 0, none⟩), .pointer (some ⟨w.heap.size + 1 + 1 + 1, 0, none⟩), .pointer (some ⟨bt, 0, none⟩), .agg #[.int .i64 m.next, .int .i64 m.term, .int .i64 m.vote, .int .i64 m.sq, .int .i64 m.sf, .slice A m.segs.length c], .agg #[.int .i64 m.next, .int .i64 m.term, .int .i64 m.vote, .int .i64 m.sq, .int .i64 m.sf, .slice A1 m.segs.length c1], .func (.func 44) #[] #[.pointer (some ⟨w1.heap.size, 0, none⟩)], x.val, undef, undef, undef, undef, undef, undef, undef, undef, undef, undef], []⟩ ∧ Blk W bt 78 x.cells)
  (fun x a' X Y h hm => by obtain ⟨bt, h1, h2⟩ := h; exact ⟨bt, h1, hm.blkF h2⟩) ?assign ?body ?done ?stop
 case hI =>
  rintro q X Y ⟨no, b0, b1, b2, b3, o, e⟩ hm
  exact ⟨no, hm.blkF b0, hm.blkF b1, hm.blkF b2, hm.blkF b3, hm.ownsRow o (by rintro k cur hk (h | ⟨_, h⟩); exact h; cases h), hm.belowF e (by omega)⟩
 case hIx =>
  rintro cd q X Y ⟨rfl, r, h1, h2, b3, o, e⟩ hm
  exact ⟨rfl, r, h1, h2, hm.blkF b3, hm.ownsRow o (by rintro k cur hk (h | ⟨_, h⟩); exact h; cases h), hm.belowF e (by omega)⟩
 case assign =>
  rintro l' pre x post W av K' hx ⟨no, b0, b1, b2, b3, o, e⟩ hsz rfl hK
  unfold Thg.val
  gi_wp2
  exact hK _ _ (Kept.refl.alloc _) ⟨no, b0.alloc _, b1.alloc _, b2.alloc _, b3.alloc _, own_ext o (Ext.alloc (Ext.refl _) _), Ext.alloc e _⟩ ⟨_, rfl, Blk.new W _ _⟩
 case body =>
  rintro l' pre x post a' W hx hl' hr ⟨no, b0, b1, b2, b3, o, e⟩ hsz ⟨bt, rfl, hb⟩
  have g0 : W.cell? ⟨bt, 0, none⟩ = some (.int .u8 x.k) := hb.cell 0 rfl
  have g1 : W.cell? ⟨bt, 1, none⟩ = some (.int .i64 x.s) := hb.cell 1 rfl
  have g2 : W.cell? ⟨bt, 2, none⟩ = some (.int .i64 x.f) := hb.cell 2 rfl
  have g7 : W.cell? ⟨bt, 7, none⟩ = some (.pointer (some x.p)) := hb.cell 7 rfl
  obtain ⟨i0, i1, i2, _, _, _⟩ := blk3 b1
  have gg : W.cell? ⟨w.heap.size + 1 + 1, 0, none⟩ = some (.int .i64 g) := b2.cell 0 rfl
  have heq := idEq_run x.k x.s x.f k s f
  have hgd := idGuard
  have Hx := Lib.hid hx
  have Hno := Lib.hid no
  have Hb0 := Lib.hid b0
  have Hb1 := Lib.hid b1
  have Hb2 := Lib.hid b2
  have Hb3 := Lib.hid b3
  have Ho := Lib.hid o
  have He := Lib.hid e
  clear hx no b0 b1 b2 b3 o e hb
  cases hh : idEq x.k x.s x.f k s f with
  | false =>
   rw [hh] at heq
   have hnh : ¬ hitT x k s f := by
    intro h
    rw [idEq_iff.2 h] at hh
    cases hh
   have Hnh := Lib.hid hnh
   clear hnh hh
   gi_wp2
   refine ⟨Kept.refl, ?_, Hb0.out, Hb1.out, Hb2.out, Hb3.out, Ho.out, He.out⟩
   intro u hu
   rw [List.mem_append, List.mem_singleton] at hu
   rcases hu with hu | rfl
   ·exact Hno.out u hu
   ·exact Hnh.out
  | true =>
   rw [hh] at heq
   have hit : hitT x k s f := idEq_iff.1 hh
   rcases turn_hit (g := g) Hx.out Hno.out hit with ⟨hq, hxe, hr⟩ | ⟨j, hj, hxe, hr⟩
   ·rw [hxe] at g0 g1 g2 g7 heq
    have hxp : (snapThg m w.heap.size).p = ⟨w.heap.size, 4, none⟩ := rfl
    rw [hxp] at g7
    have Hr := Lib.hid hr
    have Hxe := Lib.hid hxe
    obtain ⟨m0, m1, m2, m3, m4, m5⟩ := blk6 Hb0.out
    obtain ⟨z0, z1, z2, z3, z4, z5, _, _⟩ := blk8f Hb0.out
    obtain ⟨k0, k1, k2, k3, k4, k5⟩ := blk6 Hb3.out
    obtain ⟨d0, d1, d2, d3, d4, d5, _, _⟩ := blk8f Hb3.out
    clear hr hh hit hxe hq
    gi_wp2
    have hne : w.heap.size + 1 + 1 + 1 ≠ w.heap.size := by omega
    have q3 := Hb3.out.other hne 4 (.int .i64 g)
    have q4 := blk_set6 q3 (.int .i64 m.next) (.int .i64 m.term) (.int .i64 m.vote) (.int .i64 m.sq) (.int .i64 g) (.slice A1 m.segs.length c1)
    have o1 := Ho.out.kept (grownBy_set _ w.heap.size 4 (.int .i64 g)) (.inr (Hb0.out.not_row (by decide) Ho.out).symm)
    have o2 := own_of6 q3 (by decide) o1 (.int .i64 m.next) (.int .i64 m.term) (.int .i64 m.vote) (.int .i64 m.sq) (.int .i64 g) (.slice A1 m.segs.length c1)
    exact ⟨((((((Kept.refl.setF _ _).setF _ _).setF _ _).setF _ _).setF _ _).setF _ _).setF _ _, rfl, ⟨_, Hr.out, rfl, q4, o2, ext_set6 (Below.setCell (p := ⟨w.heap.size, 4, none⟩) He.out (Nat.le_refl _) _) (by omega) _ _ _ _ _ _⟩⟩
   ·obtain rfl := hA1 (by omega)
    rw [hxe] at g0 g1 g2 g7 heq
    have hxp : (segThg bs 0 j m.segs[j]).p = ⟨bs, j * 4 + 1, none⟩ := by unfold segThg; simp
    rw [hxp] at g7
    have hbs0 : w.heap.size ≠ bs := by
     have := Hb0.out.not_row (by decide) Ho.out
     intro e
     exact this (by rw [e]; rfl)
    have hbs3 : w.heap.size + 1 + 1 + 1 ≠ bs := by
     have := Hb3.out.not_row (by decide) Ho.out
     intro e
     exact this (by rw [e]; rfl)
    have hlow : w.heap.size ≤ bs := by
     have := (Ho.out.lt bs rfl).1
     exact this
    have hfz : W.frozen? ⟨bs, j * 4 + 1, none⟩ = false := by
     rcases Ho.out.2 with ⟨h, _⟩ | ⟨q, cap, cur, h, _, hq, _⟩
     ·cases h
     ·injection h with e1
      injection e1 with e1
      injection e1 with e1
      subst e1
      have hq : Blk W bs 71 cur := hq
      exact hq.frozen _
    have hcl : W.cell? ⟨bs, j * 4 + 1, none⟩ = some (.int .i64 m.segs[j].fmt) := by
     obtain ⟨_, b', off', e, hc⟩ := (OwnS.sgs Ho.out).at_ (by omega)
     injection e with e
     injection e with e1 e2
     subst e1 e2
     have := (hc j hj).2.1
     simpa using this
    have Hr := Lib.hid hr
    have Hxe := Lib.hid hxe
    obtain ⟨m0, m1, m2, m3, m4, m5⟩ := blk6 Hb0.out
    obtain ⟨z0, z1, z2, z3, z4, z5, _, _⟩ := blk8f Hb0.out
    obtain ⟨k0, k1, k2, k3, k4, k5⟩ := blk6 Hb3.out
    obtain ⟨d0, d1, d2, d3, d4, d5, _, _⟩ := blk8f Hb3.out
    have Hlow := Lib.hid hlow
    have Hbs3 := Lib.hid hbs3
    clear hr hh hit hxe hlow
    gi_wp2
    have q3 := Hb3.out.other Hbs3.out (j * 4 + 1) (.int .i64 g)
    have q4 := blk_set6 q3 (.int .i64 m.next) (.int .i64 m.term) (.int .i64 m.vote) (.int .i64 m.sq) (.int .i64 m.sf) (.slice (some ⟨bs, 0, none⟩) m.segs.length c1)
    have o1 := own_fmt Ho.out j hj g
    have o2 := own_of6 q3 (by decide) o1 (.int .i64 m.next) (.int .i64 m.term) (.int .i64 m.vote) (.int .i64 m.sq) (.int .i64 m.sf) (.slice (some ⟨bs, 0, none⟩) m.segs.length c1)
    exact ⟨((((((Kept.refl.setF _ _).setF _ _).setF _ _).setF _ _).setF _ _).setF _ _).setF _ _, rfl, ⟨_, Hr.out, by simp, q4, o2, ext_set6 (Below.setCell (p := ⟨bs, j * 4 + 1, none⟩) He.out Hlow.out _) (by omega) _ _ _ _ _ _⟩⟩
 case done =>
  rintro D W hD ⟨no, b0, b1, b2, b3, o, e⟩ hK
  have hnm : turnM m k s f g = m := turn_none no
  have Hnm := Lib.hid hnm
  obtain ⟨m0, m1, m2, m3, m4, m5⟩ := blk6 b0
  obtain ⟨k0, k1, k2, k3, k4, k5⟩ := blk6 b3
  obtain ⟨d0, d1, d2, d3, d4, d5, _, _⟩ := blk8f b3
  have Hb3 := Lib.hid b3
  have Ho := Lib.hid o
  have He := Lib.hid e
  clear hnm no b0 b1 b2 b3 o e
  gi_wp2
  have q4 := blk_set6 Hb3.out (.int .i64 m.next) (.int .i64 m.term) (.int .i64 m.vote) (.int .i64 m.sq) (.int .i64 m.sf) (.slice A1 m.segs.length c1)
  have o2 := own_of6 Hb3.out (by decide) Ho.out (.int .i64 m.next) (.int .i64 m.term) (.int .i64 m.vote) (.int .i64 m.sq) (.int .i64 m.sf) (.slice A1 m.segs.length c1)
  have e2 := ext_set6 He.out (by omega : w.heap.size ≤ w.heap.size + 1 + 1 + 1) (.int .i64 m.next) (.int .i64 m.term) (.int .i64 m.vote) (.int .i64 m.sq) (.int .i64 m.sf) (.slice A1 m.segs.length c1)
  have hK2 := heap_set6_obj hK rfl (w.heap.size + 1 + 1 + 1) (.int .i64 m.next) (.int .i64 m.term) (.int .i64 m.vote) (.int .i64 m.sq) (.int .i64 m.sf) (.slice A1 m.segs.length c1)
  refine ret_mark hK2 _ (turn_res _ _ _ _ rfl (blk_putObj q4 hK2 rfl _) rfl) ?_
  rw [Hnm.out]
  exact ⟨.slice A1 m.segs.length c1, rfl, own_putObj o2 hK2 rfl _, below_putObj e2 (by omega) _⟩
 case stop =>
  rintro D cd pre W hD hpre ⟨rfl, r, h1, h2, b3, o, e⟩ hK
  gi_wp2
  refine ret_mark hK _ (turn_res _ _ _ _ rfl (blk_putObj b3 hK rfl _) rfl) ?_
  rw [h1]
  exact ⟨.slice A1 m.segs.length c1, rfl, by have := own_putObj o hK rfl (.deferred none); unfold OwnS at this ⊢; exact this, below_putObj e (by omega) _⟩
end Go.Proofs.YtmecffckghkahaaGreatDoor
