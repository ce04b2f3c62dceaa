/- Merged: Sh6 -/
import Derived.Test.YtmecffckghkahaaGreatDoorShadowSays31
set_option linter.all false
set_option maxHeartbeats 8000000
namespace Go.Proofs.YtmecffckghkahaaGreatDoor
open Go.RowKit Go.Mv Go.Shelf
attribute [local go_sem] Oper.semAt_some
set_option maxRecDepth 100000
def shadT (fs : List Fil) (g : Int) (t : Option (Int × Int × Int × Sg4)) : Int × List UInt8 := match t with
 | none => (2, [])
 | some (k, s, f, sg) => let r := if k = 4 then sc1S fs k s f g else sc2S fs sg g
  if r = [] then (130, []) else (0, r)
def findT (l : List Thg) (k s f : Int) : Option (Int × Int × Int × Sg4) := (l.find? fun t => idEq t.k t.s t.f k s f).map fun t => (t.k, t.s, t.f, t.sg)
def findMs (s f : Int) : List Sg4 → Option Sg4
 | [] => none
 | t :: l => if t.seq = s ∧ t.fmt = f then some t else findMs s f l
def findM (m : Mf) (k s f : Int) : Option (Int × Int × Int × Sg4) :=
 if m.sq ≠ 0 ∧ k = 4 ∧ m.sq = s ∧ m.sf = f then some (k, s, f, ⟨0, 0, 0, 0⟩) else if k = 3 then (findMs s f m.segs).map fun t => (k, s, f, t) else none
def shadM (fs : List Fil) (m : Mf) (k s f g : Int) : Int × List UInt8 := if g ≠ 1 ∧ g ≠ 2 then (2, []) else shadT fs g (findM m k s f)
theorem find_segs (bs off : Nat) (k s f : Int) : ∀ (l : List Sg4) (i : Nat), findT (segThgs bs off i l) k s f = if k = 3 then (findMs s f l).map fun t => (k, s, f, t) else none
 | [], _ => by unfold segThgs findT findMs; simp
 | t :: l, i => by
  have ih := find_segs bs off k s f l (i + 1)
  unfold findT at ih ⊢
  rw [segThgs, List.find?_cons]
  by_cases h : idEq (segThg bs off i t).k (segThg bs off i t).s (segThg bs off i t).f k s f = true
  ·rw [h]
   obtain ⟨h1, h2, h3⟩ := idEq_iff.1 h
   have h1 : 3 = k := h1
   have h2 : t.seq = s := h2
   have h3 : t.fmt = f := h3
   subst h1 h2 h3
   simp [findMs, segThg]
  ·have hf := Bool.eq_false_iff.2 h
   rw [hf]
   rw [ih]
   by_cases hk : k = 3
   ·subst hk
    rw [if_pos rfl, if_pos rfl, findMs, if_neg (fun e => h (idEq_iff.2 ⟨rfl, e.1, e.2⟩))]
   ·rw [if_neg hk, if_neg hk]
theorem find_thgs (m : Mf) (bm bs off : Nat) (k s f : Int) : findT (thgs m bm bs off) k s f = findM m k s f := by
 have h := find_segs bs off k s f m.segs 0
 unfold thgs findM
 by_cases hq : m.sq = 0
 ·rw [if_pos hq, List.nil_append, h, if_neg (fun e : m.sq ≠ 0 ∧ _ => e.1 hq)]
 ·rw [if_neg hq, List.cons_append, List.nil_append]
  unfold findT at h ⊢
  rw [List.find?_cons]
  by_cases hh : idEq (snapThg m bm).k (snapThg m bm).s (snapThg m bm).f k s f = true
  ·rw [hh]
   obtain ⟨h1, h2, h3⟩ := idEq_iff.1 hh
   have h1 : 4 = k := h1
   have h2 : m.sq = s := h2
   have h3 : m.sf = f := h3
   rw [if_pos ⟨hq, h1.symm, h2, h3⟩]
   subst h1 h2 h3
   rfl
  ·rw [Bool.eq_false_iff.2 hh, if_neg (fun e => hh (idEq_iff.2 ⟨e.2.1.symm, e.2.2.1, e.2.2.2⟩))]
   exact h
theorem find_none {l : List Thg} {k s f : Int} (h : ∀ t ∈ l, idEq t.k t.s t.f k s f = false) : findT l k s f = none := by
 unfold findT
 rw [Option.map_eq_none_iff, List.find?_eq_none]
 intro t ht
 simp [h t ht]
theorem find_hit {l pre : List Thg} {x : Thg} {k s f : Int} (hp : pre ++ [x] <+: l) (h : ∀ t ∈ pre, idEq t.k t.s t.f k s f = false) (hx : idEq x.k x.s x.f k s f = true) : findT l k s f = some (x.k, x.s, x.f, x.sg) := by
 obtain ⟨r, rfl⟩ := hp
 unfold findT
 rw [List.append_assoc, List.find?_append]
 have : pre.find? (fun t => idEq t.k t.s t.f k s f) = none := by
  rw [List.find?_eq_none]
  intro t ht
  simp [h t ht]
 rw [this]
 simp [hx]
def ShadP (w : World) (r : Int × List UInt8) (e : Ending) (w' : World) : Prop := ∃ v, e = .returned (.tuple #[v, .int .i64 r.1]) ∧ OwnB w' w.heap.size v r.2 ∧ Ext w w'
theorem shad_res (tmps : Array Value) (W : World) (b d : Nat) (v u : Value) (h4 : tmps.getD 8 undef = .pointer (some ⟨b, 0, none⟩)) (h5 : tmps.getD 9 undef = .pointer (some ⟨d, 0, none⟩)) (hb : Blk W b 43 #[v]) (hd : Blk W d 33 #[u]) : (results Tryz.f10 tmps).run Tryz.prog W = .ok (.tuple #[v, u]) W := by
 have hc := hb.cell 0 rfl
 have hc' : W.cell? ⟨b, 0, none⟩ = some v := hc
 have hdc := hd.cell 0 rfl
 have hd' : W.cell? ⟨d, 0, none⟩ = some u := hdc
 have h4' : tmps[8]?.getD undef = .pointer (some ⟨b, 0, none⟩) := by simpa using h4
 have h5' : tmps[9]?.getD undef = .pointer (some ⟨d, 0, none⟩) := by simpa using h5
 have hu := Tryz.underlying43
 have hu2 := Tryz.underlying33
 simp [results, Tryz.results10, h4', h5', asAddr, go_sem, hc', hd', hu, hu2]
theorem Shad_bad (v vs : Value) (fs : List Fil) (m : Mf) (k s f g : Int) (w : World) (hF : Fs w v fs) (hG : Sgs w vs m.segs) (hg : g ≠ 1 ∧ g ≠ 2) :
  Calls Tryz.prog 10 #[v, .agg #[.int .i64 m.next, .int .i64 m.term, .int .i64 m.vote, .int .i64 m.sq, .int .i64 m.sf, vs], .agg #[.int .u8 k, .int .i64 s, .int .i64 f], .int .i64 g] w (ShadP w (2, [])) := by
 obtain ⟨A, c, rfl, _, _⟩ := Fs.open_ hF
 obtain ⟨B, d, rfl, _, _⟩ := hG.open_
 have h1 : (g != 1) = true := by simpa using hg.1
 have h2 : (g != 2) = true := by simpa using hg.2
 have b0 : Blk (w.alloc (.cells #[.slice A fs.length c] 22)) (w.heap.size) 22 #[.slice A fs.length c] := Blk.new w _ _
 have b1 : Blk ((w.alloc (.cells #[.slice A fs.length c] 22)).alloc (.cells #[.int .i64 m.next, .int .i64 m.term, .int .i64 m.vote, .int .i64 m.sq, .int .i64 m.sf, .slice B m.segs.length d] 32)) (w.heap.size + 1) 32 #[.int .i64 m.next, .int .i64 m.term, .int .i64 m.vote, .int .i64 m.sq, .int .i64 m.sf, .slice B m.segs.length d] := by have := Blk.new (w.alloc (.cells #[.slice A fs.length c] 22)) 32 #[.int .i64 m.next, .int .i64 m.term, .int .i64 m.vote, .int .i64 m.sq, .int .i64 m.sf, .slice B m.segs.length d]; rwa [World.size_alloc] at this
 have b2 : Blk (((w.alloc (.cells #[.slice A fs.length c] 22)).alloc (.cells #[.int .i64 m.next, .int .i64 m.term, .int .i64 m.vote, .int .i64 m.sq, .int .i64 m.sf, .slice B m.segs.length d] 32)).alloc (.cells #[.int .u8 k, .int .i64 s, .int .i64 f] 40)) (w.heap.size + 1 + 1) 40 #[.int .u8 k, .int .i64 s, .int .i64 f] := by have := Blk.new ((w.alloc (.cells #[.slice A fs.length c] 22)).alloc (.cells #[.int .i64 m.next, .int .i64 m.term, .int .i64 m.vote, .int .i64 m.sq, .int .i64 m.sf, .slice B m.segs.length d] 32)) 40 #[.int .u8 k, .int .i64 s, .int .i64 f]; rwa [World.size_alloc, World.size_alloc] at this
 have b3 : Blk ((((w.alloc (.cells #[.slice A fs.length c] 22)).alloc (.cells #[.int .i64 m.next, .int .i64 m.term, .int .i64 m.vote, .int .i64 m.sq, .int .i64 m.sf, .slice B m.segs.length d] 32)).alloc (.cells #[.int .u8 k, .int .i64 s, .int .i64 f] 40)).alloc (.cells #[.int .i64 g] 3)) (w.heap.size + 1 + 1 + 1) 3 #[.int .i64 g] := by have := Blk.new (((w.alloc (.cells #[.slice A fs.length c] 22)).alloc (.cells #[.int .i64 m.next, .int .i64 m.term, .int .i64 m.vote, .int .i64 m.sq, .int .i64 m.sf, .slice B m.segs.length d] 32)).alloc (.cells #[.int .u8 k, .int .i64 s, .int .i64 f] 40)) 3 #[.int .i64 g]; rwa [World.size_alloc, World.size_alloc, World.size_alloc] at this
 have b4 : Blk (((((w.alloc (.cells #[.slice A fs.length c] 22)).alloc (.cells #[.int .i64 m.next, .int .i64 m.term, .int .i64 m.vote, .int .i64 m.sq, .int .i64 m.sf, .slice B m.segs.length d] 32)).alloc (.cells #[.int .u8 k, .int .i64 s, .int .i64 f] 40)).alloc (.cells #[.int .i64 g] 3)).alloc (.cells #[.slice none 0 0] 43)) (w.heap.size + 1 + 1 + 1 + 1) 43 #[.slice none 0 0] := by have := Blk.new ((((w.alloc (.cells #[.slice A fs.length c] 22)).alloc (.cells #[.int .i64 m.next, .int .i64 m.term, .int .i64 m.vote, .int .i64 m.sq, .int .i64 m.sf, .slice B m.segs.length d] 32)).alloc (.cells #[.int .u8 k, .int .i64 s, .int .i64 f] 40)).alloc (.cells #[.int .i64 g] 3)) 43 #[.slice none 0 0]; rwa [World.size_alloc, World.size_alloc, World.size_alloc, World.size_alloc] at this
 have b5 : Blk ((((((w.alloc (.cells #[.slice A fs.length c] 22)).alloc (.cells #[.int .i64 m.next, .int .i64 m.term, .int .i64 m.vote, .int .i64 m.sq, .int .i64 m.sf, .slice B m.segs.length d] 32)).alloc (.cells #[.int .u8 k, .int .i64 s, .int .i64 f] 40)).alloc (.cells #[.int .i64 g] 3)).alloc (.cells #[.slice none 0 0] 43)).alloc (.cells #[.int .i64 0] 33)) (w.heap.size + 1 + 1 + 1 + 1 + 1) 33 #[.int .i64 0] := by have := Blk.new (((((w.alloc (.cells #[.slice A fs.length c] 22)).alloc (.cells #[.int .i64 m.next, .int .i64 m.term, .int .i64 m.vote, .int .i64 m.sq, .int .i64 m.sf, .slice B m.segs.length d] 32)).alloc (.cells #[.int .u8 k, .int .i64 s, .int .i64 f] 40)).alloc (.cells #[.int .i64 g] 3)).alloc (.cells #[.slice none 0 0] 43)) 33 #[.int .i64 0]; rwa [World.size_alloc, World.size_alloc, World.size_alloc, World.size_alloc, World.size_alloc] at this
 have c0 := (((((b0.alloc (.cells #[.int .i64 m.next, .int .i64 m.term, .int .i64 m.vote, .int .i64 m.sq, .int .i64 m.sf, .slice B m.segs.length d] 32)).alloc (.cells #[.int .u8 k, .int .i64 s, .int .i64 f] 40)).alloc (.cells #[.int .i64 g] 3)).alloc (.cells #[.slice none 0 0] 43)).alloc (.cells #[.int .i64 0] 33))
 have c1 := ((((b1.alloc (.cells #[.int .u8 k, .int .i64 s, .int .i64 f] 40)).alloc (.cells #[.int .i64 g] 3)).alloc (.cells #[.slice none 0 0] 43)).alloc (.cells #[.int .i64 0] 33))
 have c2 := (((b2.alloc (.cells #[.int .i64 g] 3)).alloc (.cells #[.slice none 0 0] 43)).alloc (.cells #[.int .i64 0] 33))
 have c3 := ((b3.alloc (.cells #[.slice none 0 0] 43)).alloc (.cells #[.int .i64 0] 33))
 have c4 := (b4.alloc (.cells #[.int .i64 0] 33))
 have c5 := b5
 have hE6 : Ext w ((((((w.alloc (.cells #[.slice A fs.length c] 22)).alloc (.cells #[.int .i64 m.next, .int .i64 m.term, .int .i64 m.vote, .int .i64 m.sq, .int .i64 m.sf, .slice B m.segs.length d] 32)).alloc (.cells #[.int .u8 k, .int .i64 s, .int .i64 f] 40)).alloc (.cells #[.int .i64 g] 3)).alloc (.cells #[.slice none 0 0] 43)).alloc (.cells #[.int .i64 0] 33)) := Ext.alloc (Ext.alloc (Ext.alloc (Ext.alloc (Ext.alloc (Ext.alloc (Ext.refl _) _) _) _) _) _) _
 have HC4 := Lib.hid c4
 have HC5 := Lib.hid c5
 have HE6 := Lib.hid hE6
 have g3 := c3.cell 0 rfl
 clear hF hG hg b0 b1 b2 b3 b4 b5 c0 c1 c2 c4 c5 hE6
 refine (callsIn_wd (ro := none) (n := 9)).1 ?_
 refine callsIn_of_wp_marks Tryz.func10 rfl trivial ?_ rfl
 simp only [Tryz.ntmps10, List.size_toArray, List.length_cons, List.length_nil, Nat.reduceAdd, Nat.reduceSub, Array.replicate_succ, Array.replicate_zero, List.push_toArray, List.append_toArray, List.nil_append, List.cons_append]
 gi_wp2
 refine wpIn_scope_lab 0 (fun a W => a.defers = [] ∧ a.tmps.size = 35 ∧ a.tmps.getD 8 undef = .pointer (some ⟨w.heap.size + 1 + 1 + 1 + 1, 0, none⟩) ∧ a.tmps.getD 9 undef = .pointer (some ⟨w.heap.size + 1 + 1 + 1 + 1 + 1, 0, none⟩) ∧ Blk W (w.heap.size + 1 + 1 + 1 + 1) 43 #[.slice none 0 0] ∧ Blk W (w.heap.size + 1 + 1 + 1 + 1 + 1) 33 #[.int .i64 0] ∧ Ext w W) (fun a _ => 0) rfl (fun l' h => by cases l' <;> first | exact absurd rfl h | rfl) ?_ ?_
 ·intro hrest
  clear hrest
  gi_wp2
  refine wpIn_goto ?_
  simp only [Exit.then]
  refine jumps_goto (by simp) ?_
  exact ⟨rfl, rfl, rfl, rfl, HC4.out, HC5.out, HE6.out⟩
 ·rintro ⟨TT, df⟩ W ⟨hd, hsz, h8, h9, hb4, hb5, hE⟩
  cases hd
  dsimp only at hsz h8 h9
  have hT := frame_of 35 TT hsz
  generalize hU : (fun i => TT.getD i undef) = U at hT
  have g8 : U 8 = .pointer (some ⟨w.heap.size + 1 + 1 + 1 + 1, 0, none⟩) := by rw [← hU]; exact h8
  have g9 : U 9 = .pointer (some ⟨w.heap.size + 1 + 1 + 1 + 1 + 1, 0, none⟩) := by rw [← hU]; exact h9
  have hT2 : TT = #[U 0, U 1, U 2, U 3, U 4, U 5, U 6, U 7, .pointer (some ⟨w.heap.size + 1 + 1 + 1 + 1, 0, none⟩), .pointer (some ⟨w.heap.size + 1 + 1 + 1 + 1 + 1, 0, none⟩), U 10, U 11, U 12, U 13, U 14, U 15, U 16, U 17, U 18, U 19, U 20, U 21, U 22, U 23, U 24, U 25, U 26, U 27, U 28, U 29, U 30, U 31, U 32, U 33, U 34] := by rw [hT]; show (#[U 0, U 1, U 2, U 3, U 4, U 5, U 6, U 7, U 8, U 9, U 10, U 11, U 12, U 13, U 14, U 15, U 16, U 17, U 18, U 19, U 20, U 21, U 22, U 23, U 24, U 25, U 26, U 27, U 28, U 29, U 30, U 31, U 32, U 33, U 34] : Array Value) = _; rw [g8, g9]
  clear hT hU hsz g8 h8 g9 h9
  subst hT2
  have k4 := hb4.cell 0 rfl
  have z4 := hb4.frozen 0
  have k5 := hb5.cell 0 rfl
  have z5 := hb5.frozen 0
  have H4 := Lib.hid hb4
  have H5 := Lib.hid hb5
  clear hb4 hb5
  gi_wp2
  refine jumps_ret ?_
  have hne : w.heap.size + 1 + 1 + 1 + 1 ≠ w.heap.size + 1 + 1 + 1 + 1 + 1 := by omega
  refine ret_none _ (shad_res _ _ _ _ _ _ rfl rfl ((H4.out.set 0 (.slice none 0 0)).other hne 0 (.int .i64 2)) ((H5.out.other hne.symm 0 (.slice none 0 0)).set 0 (.int .i64 2))) ?_
  exact ⟨_, rfl, World.ownsRow_nil _ _ _ _, Below.setCell (p := ⟨w.heap.size + 1 + 1 + 1 + 1 + 1, 0, none⟩) (Below.setCell (p := ⟨w.heap.size + 1 + 1 + 1 + 1, 0, none⟩) hE (by show w.heap.size ≤ w.heap.size + 1 + 1 + 1 + 1; omega) _) (by show w.heap.size ≤ w.heap.size + 1 + 1 + 1 + 1 + 1; omega) _⟩
theorem thgs_mem {m : Mf} {bm bs off : Nat} {x : Thg} (h : x ∈ thgs m bm bs off) : (x.k = 4 ∧ x.sg = ⟨0, 0, 0, 0⟩) ∨ (x.k = 3 ∧ x.sg ∈ m.segs) := by
 have hs : ∀ (l : List Sg4) (i : Nat), x ∈ segThgs bs off i l → x.k = 3 ∧ x.sg ∈ l := by
  intro l
  induction l with
  | nil => intro i h; cases h
  | cons s l ih =>
   intro i h
   rw [segThgs, List.mem_cons] at h
   rcases h with rfl | h
   ·exact ⟨rfl, by simp [segThg]⟩
   ·exact ⟨(ih _ h).1, List.mem_cons_of_mem _ (ih _ h).2⟩
 unfold thgs at h
 rw [List.mem_append] at h
 rcases h with h | h
 ·split at h
  ·cases h
  ·rw [List.mem_singleton] at h
   subst h
   exact .inl ⟨rfl, rfl⟩
 ·exact .inr (hs _ _ h)
structure ShadI (w : World) (A : Option Addr) (n c : Nat) (k s f g : Int) (pre : List Thg) (W : World) : Prop where
 no : ∀ u ∈ pre, idEq u.k u.s u.f k s f = false
 b0 : Blk W (w.heap.size) 22 #[.slice A n c]
 b2 : Blk W (w.heap.size + 1 + 1) 40 #[.int .u8 k, .int .i64 s, .int .i64 f]
 b3 : Blk W (w.heap.size + 1 + 1 + 1) 3 #[.int .i64 g]
 b4 : Blk W (w.heap.size + 1 + 1 + 1 + 1) 43 #[.slice none 0 0]
 b5 : Blk W (w.heap.size + 1 + 1 + 1 + 1 + 1) 33 #[.int .i64 0]
 e : Ext w W
def ShadX (w : World) (fs : List Fil) (k s f g : Int) (cd : Code) (pre : List Thg) (W : World) : Prop := cd = .ret ∧ ∃ pre0 x v, pre = pre0 ++ [x] ∧ (∀ u ∈ pre0, idEq u.k u.s u.f k s f = false) ∧ idEq x.k x.s x.f k s f = true ∧
 Blk W (w.heap.size + 1 + 1 + 1 + 1) 43 #[v] ∧ OwnB W w.heap.size v (shadT fs g (some (x.k, x.s, x.f, x.sg))).2 ∧ Blk W (w.heap.size + 1 + 1 + 1 + 1 + 1) 33 #[.int .i64 (shadT fs g (some (x.k, x.s, x.f, x.sg))).1] ∧ Ext w W
theorem Shad_ok (v vs : Value) (fs : List Fil) (m : Mf) (k s f g : Int) (w : World) (hS : StW w) (hF : Fs w v fs) (hG : Sgs w vs m.segs) (hl : fs.length ≤ 4000000) (hbl : ∀ f ∈ fs, f.2.length ≤ 2000000) (hct : ∀ s ∈ m.segs, s.count ≤ 100000) (hg : g = 1 ∨ g = 2) :
  Calls Tryz.prog 10 #[v, .agg #[.int .i64 m.next, .int .i64 m.term, .int .i64 m.vote, .int .i64 m.sq, .int .i64 m.sf, vs], .agg #[.int .u8 k, .int .i64 s, .int .i64 f], .int .i64 g] w (ShadP w (shadT fs g (findM m k s f))) := by
 obtain ⟨A, c, rfl, _, _⟩ := Fs.open_ hF
 obtain ⟨B, d, rfl, _, _⟩ := hG.open_
 have b0 : Blk (w.alloc (.cells #[.slice A fs.length c] 22)) (w.heap.size) 22 #[.slice A fs.length c] := Blk.new w _ _
 have b1 : Blk ((w.alloc (.cells #[.slice A fs.length c] 22)).alloc (.cells #[.int .i64 m.next, .int .i64 m.term, .int .i64 m.vote, .int .i64 m.sq, .int .i64 m.sf, .slice B m.segs.length d] 32)) (w.heap.size + 1) 32 #[.int .i64 m.next, .int .i64 m.term, .int .i64 m.vote, .int .i64 m.sq, .int .i64 m.sf, .slice B m.segs.length d] := by have := Blk.new (w.alloc (.cells #[.slice A fs.length c] 22)) 32 #[.int .i64 m.next, .int .i64 m.term, .int .i64 m.vote, .int .i64 m.sq, .int .i64 m.sf, .slice B m.segs.length d]; rwa [World.size_alloc] at this
 have b2 : Blk (((w.alloc (.cells #[.slice A fs.length c] 22)).alloc (.cells #[.int .i64 m.next, .int .i64 m.term, .int .i64 m.vote, .int .i64 m.sq, .int .i64 m.sf, .slice B m.segs.length d] 32)).alloc (.cells #[.int .u8 k, .int .i64 s, .int .i64 f] 40)) (w.heap.size + 1 + 1) 40 #[.int .u8 k, .int .i64 s, .int .i64 f] := by have := Blk.new ((w.alloc (.cells #[.slice A fs.length c] 22)).alloc (.cells #[.int .i64 m.next, .int .i64 m.term, .int .i64 m.vote, .int .i64 m.sq, .int .i64 m.sf, .slice B m.segs.length d] 32)) 40 #[.int .u8 k, .int .i64 s, .int .i64 f]; rwa [World.size_alloc, World.size_alloc] at this
 have b3 : Blk ((((w.alloc (.cells #[.slice A fs.length c] 22)).alloc (.cells #[.int .i64 m.next, .int .i64 m.term, .int .i64 m.vote, .int .i64 m.sq, .int .i64 m.sf, .slice B m.segs.length d] 32)).alloc (.cells #[.int .u8 k, .int .i64 s, .int .i64 f] 40)).alloc (.cells #[.int .i64 g] 3)) (w.heap.size + 1 + 1 + 1) 3 #[.int .i64 g] := by have := Blk.new (((w.alloc (.cells #[.slice A fs.length c] 22)).alloc (.cells #[.int .i64 m.next, .int .i64 m.term, .int .i64 m.vote, .int .i64 m.sq, .int .i64 m.sf, .slice B m.segs.length d] 32)).alloc (.cells #[.int .u8 k, .int .i64 s, .int .i64 f] 40)) 3 #[.int .i64 g]; rwa [World.size_alloc, World.size_alloc, World.size_alloc] at this
 have b4 : Blk (((((w.alloc (.cells #[.slice A fs.length c] 22)).alloc (.cells #[.int .i64 m.next, .int .i64 m.term, .int .i64 m.vote, .int .i64 m.sq, .int .i64 m.sf, .slice B m.segs.length d] 32)).alloc (.cells #[.int .u8 k, .int .i64 s, .int .i64 f] 40)).alloc (.cells #[.int .i64 g] 3)).alloc (.cells #[.slice none 0 0] 43)) (w.heap.size + 1 + 1 + 1 + 1) 43 #[.slice none 0 0] := by have := Blk.new ((((w.alloc (.cells #[.slice A fs.length c] 22)).alloc (.cells #[.int .i64 m.next, .int .i64 m.term, .int .i64 m.vote, .int .i64 m.sq, .int .i64 m.sf, .slice B m.segs.length d] 32)).alloc (.cells #[.int .u8 k, .int .i64 s, .int .i64 f] 40)).alloc (.cells #[.int .i64 g] 3)) 43 #[.slice none 0 0]; rwa [World.size_alloc, World.size_alloc, World.size_alloc, World.size_alloc] at this
 have b5 : Blk ((((((w.alloc (.cells #[.slice A fs.length c] 22)).alloc (.cells #[.int .i64 m.next, .int .i64 m.term, .int .i64 m.vote, .int .i64 m.sq, .int .i64 m.sf, .slice B m.segs.length d] 32)).alloc (.cells #[.int .u8 k, .int .i64 s, .int .i64 f] 40)).alloc (.cells #[.int .i64 g] 3)).alloc (.cells #[.slice none 0 0] 43)).alloc (.cells #[.int .i64 0] 33)) (w.heap.size + 1 + 1 + 1 + 1 + 1) 33 #[.int .i64 0] := by have := Blk.new (((((w.alloc (.cells #[.slice A fs.length c] 22)).alloc (.cells #[.int .i64 m.next, .int .i64 m.term, .int .i64 m.vote, .int .i64 m.sq, .int .i64 m.sf, .slice B m.segs.length d] 32)).alloc (.cells #[.int .u8 k, .int .i64 s, .int .i64 f] 40)).alloc (.cells #[.int .i64 g] 3)).alloc (.cells #[.slice none 0 0] 43)) 33 #[.int .i64 0]; rwa [World.size_alloc, World.size_alloc, World.size_alloc, World.size_alloc, World.size_alloc] at this
 have c0 := (((((b0.alloc (.cells #[.int .i64 m.next, .int .i64 m.term, .int .i64 m.vote, .int .i64 m.sq, .int .i64 m.sf, .slice B m.segs.length d] 32)).alloc (.cells #[.int .u8 k, .int .i64 s, .int .i64 f] 40)).alloc (.cells #[.int .i64 g] 3)).alloc (.cells #[.slice none 0 0] 43)).alloc (.cells #[.int .i64 0] 33))
 have c1 := ((((b1.alloc (.cells #[.int .u8 k, .int .i64 s, .int .i64 f] 40)).alloc (.cells #[.int .i64 g] 3)).alloc (.cells #[.slice none 0 0] 43)).alloc (.cells #[.int .i64 0] 33))
 have c2 := (((b2.alloc (.cells #[.int .i64 g] 3)).alloc (.cells #[.slice none 0 0] 43)).alloc (.cells #[.int .i64 0] 33))
 have c3 := ((b3.alloc (.cells #[.slice none 0 0] 43)).alloc (.cells #[.int .i64 0] 33))
 have c4 := (b4.alloc (.cells #[.int .i64 0] 33))
 have c5 := b5
 have hE6 : Ext w ((((((w.alloc (.cells #[.slice A fs.length c] 22)).alloc (.cells #[.int .i64 m.next, .int .i64 m.term, .int .i64 m.vote, .int .i64 m.sq, .int .i64 m.sf, .slice B m.segs.length d] 32)).alloc (.cells #[.int .u8 k, .int .i64 s, .int .i64 f] 40)).alloc (.cells #[.int .i64 g] 3)).alloc (.cells #[.slice none 0 0] 43)).alloc (.cells #[.int .i64 0] 33)) := Ext.alloc (Ext.alloc (Ext.alloc (Ext.alloc (Ext.alloc (Ext.alloc (Ext.refl _) _) _) _) _) _) _
 have hs6 : ((((((w.alloc (.cells #[.slice A fs.length c] 22)).alloc (.cells #[.int .i64 m.next, .int .i64 m.term, .int .i64 m.vote, .int .i64 m.sq, .int .i64 m.sf, .slice B m.segs.length d] 32)).alloc (.cells #[.int .u8 k, .int .i64 s, .int .i64 f] 40)).alloc (.cells #[.int .i64 g] 3)).alloc (.cells #[.slice none 0 0] 43)).alloc (.cells #[.int .i64 0] 33)).heap.size = w.heap.size + 1 + 1 + 1 + 1 + 1 + 1 := by simp only [World.size_alloc]
 clear b0 b1 b2 b3 b4 b5
 refine (callsIn_wd (ro := none) (n := 9)).1 ?_
 refine callsIn_of_wp_marks Tryz.func10 rfl trivial ?_ rfl
 simp only [Tryz.ntmps10, List.size_toArray, List.length_cons, List.length_nil, Nat.reduceAdd, Nat.reduceSub, Array.replicate_succ, Array.replicate_zero, List.push_toArray, List.append_toArray, List.nil_append, List.cons_append]
 gi_wp2
 have g3 := c3.cell 0 rfl
 have C0 := Lib.hid c0
 have C1 := Lib.hid c1
 have C2 := Lib.hid c2
 have C3 := Lib.hid c3
 have C4 := Lib.hid c4
 have C5 := Lib.hid c5
 have HE6 := Lib.hid hE6
 have HS := Lib.hid hS
 have HF := Lib.hid hF
 have HG := Lib.hid hG
 have Hbl := Lib.hid hbl
 have Hct := Lib.hid hct
 clear c0 c1 c2 c3 c4 c5 hE6 hS hF hG hbl hct
 generalize ((((((w.alloc (.cells #[.slice A fs.length c] 22)).alloc (.cells #[.int .i64 m.next, .int .i64 m.term, .int .i64 m.vote, .int .i64 m.sq, .int .i64 m.sf, .slice B m.segs.length d] 32)).alloc (.cells #[.int .u8 k, .int .i64 s, .int .i64 f] 40)).alloc (.cells #[.int .i64 g] 3)).alloc (.cells #[.slice none 0 0] 43)).alloc (.cells #[.int .i64 0] 33)) = w6 at *
 refine wpIn_scope_lab 0 (fun _ _ => False) (fun a _ => 0) rfl (fun l' h => by cases l' <;> first | exact absurd rfl h | rfl) ?_ (fun _ _ h => h.elim)
 intro hrest
 clear hrest
 refine wpIn_seq_G (fun a' w' => a'.defers = [] ∧ a'.tmps.size = 35 ∧ a'.tmps.getD 4 undef = .pointer (some ⟨w.heap.size, 0, none⟩) ∧ a'.tmps.getD 5 undef = .pointer (some ⟨w.heap.size + 1, 0, none⟩) ∧ a'.tmps.getD 6 undef = .pointer (some ⟨w.heap.size + 1 + 1, 0, none⟩) ∧ a'.tmps.getD 7 undef = .pointer (some ⟨w.heap.size + 1 + 1 + 1, 0, none⟩) ∧ a'.tmps.getD 8 undef = .pointer (some ⟨w.heap.size + 1 + 1 + 1 + 1, 0, none⟩) ∧ a'.tmps.getD 9 undef = .pointer (some ⟨w.heap.size + 1 + 1 + 1 + 1 + 1, 0, none⟩) ∧ w' = w6) ?_ ?_
 ·rcases hg with rfl | rfl
  ·gi_wp2
   exact ⟨trivial, rfl, rfl, rfl, rfl, rfl, rfl, rfl, trivial⟩
  ·gi_wp2
   exact ⟨trivial, rfl, rfl, rfl, rfl, rfl, rfl, rfl, trivial⟩
 ·rintro ⟨T, ds⟩ W ⟨hd0, hsz, h4, h5, h6, h7, h8, h9, rfl⟩
  cases hd0
  dsimp only at hsz h4 h5 h6 h7 h8 h9
  have hT := frame_of 35 T hsz
  generalize hU : (fun i => T.getD i undef) = U at hT
  have g4 : U 4 = .pointer (some ⟨w.heap.size, 0, none⟩) := by rw [← hU]; exact h4
  have g5 : U 5 = .pointer (some ⟨w.heap.size + 1, 0, none⟩) := by rw [← hU]; exact h5
  have g6 : U 6 = .pointer (some ⟨w.heap.size + 1 + 1, 0, none⟩) := by rw [← hU]; exact h6
  have g7 : U 7 = .pointer (some ⟨w.heap.size + 1 + 1 + 1, 0, none⟩) := by rw [← hU]; exact h7
  have g8 : U 8 = .pointer (some ⟨w.heap.size + 1 + 1 + 1 + 1, 0, none⟩) := by rw [← hU]; exact h8
  have g9 : U 9 = .pointer (some ⟨w.heap.size + 1 + 1 + 1 + 1 + 1, 0, none⟩) := by rw [← hU]; exact h9
  have hT2 : T = #[U 0, U 1, U 2, U 3, .pointer (some ⟨w.heap.size, 0, none⟩), .pointer (some ⟨w.heap.size + 1, 0, none⟩), .pointer (some ⟨w.heap.size + 1 + 1, 0, none⟩), .pointer (some ⟨w.heap.size + 1 + 1 + 1, 0, none⟩), .pointer (some ⟨w.heap.size + 1 + 1 + 1 + 1, 0, none⟩), .pointer (some ⟨w.heap.size + 1 + 1 + 1 + 1 + 1, 0, none⟩), U 10, U 11, U 12, U 13, U 14, U 15, U 16, U 17, U 18, U 19, U 20, U 21, U 22, U 23, U 24, U 25, U 26, U 27, U 28, U 29, U 30, U 31, U 32, U 33, U 34] := by rw [hT]; show (#[U 0, U 1, U 2, U 3, U 4, U 5, U 6, U 7, U 8, U 9, U 10, U 11, U 12, U 13, U 14, U 15, U 16, U 17, U 18, U 19, U 20, U 21, U 22, U 23, U 24, U 25, U 26, U 27, U 28, U 29, U 30, U 31, U 32, U 33, U 34] : Array Value) = _; rw [g4, g5, g6, g7, g8, g9]
  clear hT hU hsz g4 h4 g5 h5 g6 h6 g7 h7 g8 h8 g9 h9
  subst hT2
  clear g3 hg
  gi_wp2_with (refine ⟨trivial, ?_⟩; gi_at_call 25; refine (callsIn_wd.2 (things_any _ _)).mono ?_; rintro e w' ⟨rfl, rfl⟩)
  have hX : Ext W (W.alloc (.cells #[.pointer (some ⟨w.heap.size + 1, 0, none⟩)] 75)) := Ext.alloc (Ext.refl _) _
  have bp := Blk.new W 75 #[.pointer (some ⟨w.heap.size + 1, 0, none⟩)]
  rw [hs6] at bp
  have hs7 : (W.alloc (.cells #[.pointer (some ⟨w.heap.size + 1, 0, none⟩)] 75)).heap.size = w.heap.size + 1 + 1 + 1 + 1 + 1 + 1 + 1 := by rw [World.size_alloc, hs6]
  obtain ⟨bs, off, hbs, hT⟩ := thw_of (bm := w.heap.size + 1) HG.out (Ext.trans HE6.out hX) (by omega) (bp.cell 0 rfl) (C1.out.ext hX)
  have h0 : ShadI w A fs.length c k s f g [] (W.alloc (.cells #[.pointer (some ⟨w.heap.size + 1, 0, none⟩)] 75)) := ⟨fun u hu => (by cases hu), C0.out.ext hX, C2.out.ext hX, C3.out.ext hX, C4.out.ext hX, C5.out.ext hX, Ext.trans HE6.out hX⟩
  clear bp hX
  generalize (W.alloc (.cells #[.pointer (some ⟨w.heap.size + 1, 0, none⟩)] 75)) = w7 at *
  clear hs6 C0 C1 C2 C3 C4 C5 HE6
  clear W
  refine wp_rangeT (a := ⟨_, _⟩) rfl (enters_of Tryz.func44 (by kernel_rfl) rfl)
   (fun W1 hb hs => things1_seq m B d (w.heap.size + 1 + 1 + 1 + 1 + 1 + 1) (w.heap.size + 1) bs off W1 (hT.ext hb))
   (fun k o h => h.elim) (fun k o h => h.1) (fun x av W h => by rw [h]; rfl)
   (ShadI w A fs.length c k s f g) (ShadX w fs k s f g) ?hI ?hIx h0
   (fun x a' W => ∃ bt, a' = ⟨#[U 0, U 1, U 2, U 3, .pointer (some ⟨w.heap.size, 0, none⟩), .pointer (some ⟨w.heap.size + 1, 0, none⟩), .pointer (some ⟨w.heap.size + 1 + 1, 0, none⟩), .pointer (some ⟨w.heap.size + 1 + 1 + 1, 0, none⟩), .pointer (some ⟨w.heap.size + 1 + 1 + 1 + 1, 0, none⟩), .pointer (some ⟨w.heap.size + 1 + 1 + 1 + 1 + 1, 0, none⟩), .pointer (some ⟨bt, 0, none⟩), U 11, U 12, U 13, U 14, U 15, U 16, .func (.func 44) #[] #[.pointer (some ⟨w.heap.size + 1 + 1 + 1 + 1 + 1 + 1, 0, none⟩)], x.val, U 19, U 20, U 21, U 22, U 23, U 24, U 25, U 26, U 27, U 28, U 29, U 30, U 31, U 32, U 33, U 34], []⟩ ∧ Blk W bt 78 x.cells)
   (fun x a' X Y h hm => by obtain ⟨bt, h1, h2⟩ := h; exact ⟨bt, h1, hm.blkF h2⟩) ?assign ?body ?done ?stop
  case hI =>
   rintro q X Y ⟨no, b0, b2, b3, b4, b5, e⟩ hm
   exact ⟨no, hm.blkF b0, hm.blkF b2, hm.blkF b3, hm.blkF b4, hm.blkF b5, hm.belowF e (by omega)⟩
  case hIx =>
   rintro cd q X Y ⟨rfl, pre0, x, v, rfl, h1, h2, b4, o, b5, e⟩ hm
   exact ⟨rfl, pre0, x, v, rfl, h1, h2, hm.blkF b4, hm.ownsRow o (by rintro k cur hk (h | ⟨_, h⟩); exact h; cases h), hm.blkF b5, hm.belowF e (by omega)⟩
  case assign =>
   rintro l' pre x post W av K' hx ⟨no, b0, b2, b3, b4, b5, e⟩ hsz rfl hK
   unfold Thg.val
   gi_wp2
   exact hK _ _ (Kept.refl.alloc _) ⟨no, b0.alloc _, b2.alloc _, b3.alloc _, b4.alloc _, b5.alloc _, Ext.alloc e _⟩ ⟨_, rfl, Blk.new W _ _⟩
  case body =>
   rintro l' pre x post a' W hx hl' hr ⟨no, b0, b2, b3, b4, b5, e⟩ hsz ⟨bt, rfl, hb⟩
   have hmem : x ∈ thgs m (w.heap.size + 1) bs off := by rw [hx]; simp
   have hkd := thgs_mem hmem
   have hb' : Blk W bt 78 #[.int .u8 x.k, .int .i64 x.s, .int .i64 x.f, .int .i64 x.sg.seq, .int .i64 x.sg.fmt, .int .i64 x.sg.first, .int .i64 x.sg.count, .pointer (some x.p)] := hb
   obtain ⟨t0, t1, t2, t3, t4, t5, t6, t7⟩ := blk8 hb'
   obtain ⟨i0, i1, i2, _, _, _⟩ := blk3 b2
   have f0 : W.cell? ⟨w.heap.size, 0, none⟩ = some (.slice A fs.length c) := b0.cell 0 rfl
   have gg : W.cell? ⟨w.heap.size + 1 + 1 + 1, 0, none⟩ = some (.int .i64 g) := b3.cell 0 rfl
   have heq := idEq_run x.k x.s x.f k s f
   have hgd := idGuard
   have Hx := Lib.hid hx
   have Hno := Lib.hid no
   have Hb0 := Lib.hid b0
   have Hb2 := Lib.hid b2
   have Hb3 := Lib.hid b3
   have Hb4 := Lib.hid b4
   have Hb5 := Lib.hid b5
   have Hbt := Lib.hid hb'
   have He := Lib.hid e
   have Hkd := Lib.hid hkd
   clear hx no b0 b2 b3 b4 b5 e hb hb' hmem hkd hr
   cases hh : idEq x.k x.s x.f k s f with
   | false =>
    rw [hh] at heq
    have Hh := Lib.hid hh
    clear hh
    gi_wp2
    refine ⟨Kept.refl, ?_, Hb0.out, Hb2.out, Hb3.out, Hb4.out, Hb5.out, He.out⟩
    intro u hu
    rw [List.mem_append, List.mem_singleton] at hu
    rcases hu with hu | rfl
    ·exact Hno.out u hu
    ·exact Hh.out
   | true =>
    rw [hh] at heq
    obtain ⟨e1, e2, e3⟩ := idEq_iff.1 hh
    have Hh := Lib.hid hh
    have He1 := Lib.hid e1
    clear hh e1 e2 e3
    gi_wp2
    refine wpIn_held_round (S := fun W' => W'.cell? ⟨w.heap.size, 0, none⟩ = some (.slice A fs.length c) ∧ W'.cell? ⟨w.heap.size + 1 + 1 + 1, 0, none⟩ = some (.int .i64 g) ∧ W'.cell? ⟨w.heap.size + 1 + 1, 0, none⟩ = some (.int .u8 k) ∧ W'.cell? ⟨bt, 0, none⟩ = some (.int .u8 x.k) ∧ W'.cell? ⟨bt, 1, none⟩ = some (.int .i64 x.s) ∧ W'.cell? ⟨bt, 2, none⟩ = some (.int .i64 x.f) ∧ W'.cell? ⟨bt, 3, none⟩ = some (.int .i64 x.sg.seq) ∧ W'.cell? ⟨bt, 4, none⟩ = some (.int .i64 x.sg.fmt) ∧ W'.cell? ⟨bt, 5, none⟩ = some (.int .i64 x.sg.first) ∧ W'.cell? ⟨bt, 6, none⟩ = some (.int .i64 x.sg.count) ∧ W'.cell? ⟨bt, 7, none⟩ = some (.pointer (some x.p))) (by kernel_rfl) (by kernel_rfl) ⟨f0, gg, i0, t0, t1, t2, t3, t4, t5, t6, t7⟩ (fun hHeld => ?_)
    clear i1 i2 heq hgd
    refine tkL 0 rfl ?_
    try simp only [Act.put, sA, sZ, sS]
    refine tkL 1 rfl ?_
    try simp only [Act.put, sA, sZ, sS]
    refine tkL 3 rfl ?_
    try simp only [Act.put, sA, sZ, sS]
    refine tkL 4 rfl ?_
    try simp only [Act.put, sA, sZ, sS]
    refine tkL 6 rfl ?_
    try simp only [Act.put, sA, sZ, sS]
    refine AllReadyH.one (i := 2) rfl (by kernel_rfl) (by rfl) (fun K hK => ?_)
    go_simp
    refine (says_any _ ⟨_, _, _, rfl⟩ g _).mono ?_
    rintro e w2 ⟨rfl, hw2⟩
    have hNw : W.heap.size = W.drew.heap.size := rfl
    generalize hN : W.drew.heap.size = N at *
    have hE2 : Ext W w2 := by rw [← hw2]; exact Ext.alloc (Ext.alloc (Ext.alloc (Ext.drew (Ext.refl _)) _) _) _
    have hmap : w2.heap[N + 1 + 1]? = some (.map (saysMap N (N + 1)) 2) := by
     rw [← hw2]
     have := World.alloc_heap_new ((W.drew.alloc (.cells #[.slice A fs.length c] 22)).alloc (.cells #[.int .i64 g] 3)) (.map (saysMap N (N + 1)) 2)
     rwa [World.size_alloc, World.size_alloc, hN] at this
    have hpN : w2.cell? ⟨N, 0, none⟩ = some (.slice A fs.length c) := by
     rw [← hw2]
     have := (((Blk.new W.drew 22 #[.slice A fs.length c]).alloc (.cells #[.int .i64 g] 3)).alloc (.map (saysMap N (N + 1)) 2)).cell 0 rfl
     rwa [hN] at this
    have hpN1 : w2.cell? ⟨N + 1, 0, none⟩ = some (.int .i64 g) := by
     rw [← hw2]
     have := ((Blk.new (W.drew.alloc (.cells #[.slice A fs.length c] 22)) 3 #[.int .i64 g]).alloc (.map (saysMap N (N + 1)) 2)).cell 0 rfl
     rwa [World.size_alloc, hN] at this
    clear hw2
    have s0 := hE2.cell f0
    have s1 := hE2.cell gg
    have s2 := hE2.cell i0
    have s3 := hE2.cell t0
    have s4 := hE2.cell t1
    have s5 := hE2.cell t2
    have s6 := hE2.cell t3
    have s7 := hE2.cell t4
    have s8 := hE2.cell t5
    have s9 := hE2.cell t6
    have s10 := hE2.cell t7
    have hw2s : w.heap.size ≤ w2.heap.size := (Ext.trans He.out hE2).size
    refine hK.out _ _ ⟨s0, s1, s2, s3, s4, s5, s6, s7, s8, s9, s10⟩ (fun hHeld => ?_)
    clear hK K
    try simp only [Act.put, sA, sZ, sS]
    have eW := Ext.trans He.out hE2
    rcases Hkd.out with ⟨hkk, hsg⟩ | ⟨hkk, hsg⟩
    ·have hk : k = 4 := by rw [← He1.out]; exact hkk
     subst hk
     have Hkk := Lib.hid hkk
     have Hsg := Lib.hid hsg
     clear hkk hsg
     have hlk : (Instr.lookup 80 (.map (some (N + 1 + 1))) (.int .u8 4) false).run Tryz.prog w2 = .ok (.func (.func 45) #[] #[.pointer (some ⟨N, 0, none⟩), .pointer (some ⟨N + 1, 0, none⟩)]) w2 :=
      run_lookup_one (P := Tryz.prog) w2 .u8 Tryz.underlying80 Tryz.underlying5 (saysMap N (N + 1)) 2 4 .nilFunc (by kernel_rfl) hmap (some (0, _)) rfl
     refine AllReadyH.one (i := 5) rfl (by kernel_rfl) (by rfl) (fun K hK => ?_)
     go_simp
     refine hK.out _ _ ⟨s0, s1, s2, s3, s4, s5, s6, s7, s8, s9, s10⟩ (fun hHeld => ?_)
     clear hK K
     try simp only [Act.put, sA, sZ, sS]
     refine AllReadyH.one (i := 7) rfl (by kernel_rfl) (by rfl) (fun K hK => ?_)
     go_simp
     refine (says1_any _ fs x.k x.s x.f g x.sg x.p N (N + 1) w2 (HS.out.ext eW) (HF.out.ext eW) hl Hbl.out hpN hpN1).mono ?_
     rintro e w3 ⟨v3, rfl, ho3, hE3⟩
     obtain ⟨A3, c3, rfl, _, _⟩ := SlR.open_ (SlR.of_own ho3)
     have hE13 := Ext.trans hE2 hE3
     refine hK.out _ _ ⟨hE3.cell s0, hE3.cell s1, hE3.cell s2, hE3.cell s3, hE3.cell s4, hE3.cell s5, hE3.cell s6, hE3.cell s7, hE3.cell s8, hE3.cell s9, hE3.cell s10⟩ (fun hHeld => ?_)
     clear hK K
     try simp only [Act.put, sA, sZ, sS]
     have q4 := Hb4.out.ext hE13
     have q5 := Hb5.out.ext hE13
     have qt := Hbt.out.ext hE13
     have k4 := q4.cell 0 rfl
     have z4 := q4.frozen 0
     refine AllReadyH.one (i := 8) rfl (by kernel_rfl) (by rfl) (fun K hK => ?_)
     go_simp
     have hne : bt ≠ w.heap.size + 1 + 1 + 1 + 1 := by
      intro e
      have h1 : W.heap[bt]? = _ := Hbt.out
      rw [e, show W.heap[w.heap.size + 1 + 1 + 1 + 1]? = _ from Hb4.out] at h1
      cases h1
     obtain ⟨y3, y4, y5, y6, y7, y8, y9, y10⟩ := blk8 (qt.other hne 0 (.slice A3 (sc1S fs x.k x.s x.f g).length c3))
     have y0 := ((Hb0.out.ext hE13).other (by omega : w.heap.size ≠ w.heap.size + 1 + 1 + 1 + 1) 0 (.slice A3 (sc1S fs x.k x.s x.f g).length c3)).cell 0 rfl
     have y1 := ((Hb3.out.ext hE13).other (by omega : w.heap.size + 1 + 1 + 1 ≠ w.heap.size + 1 + 1 + 1 + 1) 0 (.slice A3 (sc1S fs x.k x.s x.f g).length c3)).cell 0 rfl
     have y2 := ((Hb2.out.ext hE13).other (by omega : w.heap.size + 1 + 1 ≠ w.heap.size + 1 + 1 + 1 + 1) 0 (.slice A3 (sc1S fs x.k x.s x.f g).length c3)).cell 0 rfl
     refine hK.out _ _ ⟨y0, y1, y2, y3, y4, y5, y6, y7, y8, y9, y10⟩ (fun hHeld => ?_)
     clear hK K
     try simp only [Act.put, sA, sZ, sS]
     refine wpAnyH_done (by kernel_rfl) (noQ_normal ?_) _
     have q45 : Blk (w3.setCell ⟨w.heap.size + 1 + 1 + 1 + 1, 0, none⟩ (.slice A3 (sc1S fs x.k x.s x.f g).length c3)) (w.heap.size + 1 + 1 + 1 + 1) 43 #[.slice A3 (sc1S fs x.k x.s x.f g).length c3] := q4.set 0 _
     have q55 := q5.other (by omega : w.heap.size + 1 + 1 + 1 + 1 + 1 ≠ w.heap.size + 1 + 1 + 1 + 1) 0 (.slice A3 (sc1S fs x.k x.s x.f g).length c3)
     have o3 : OwnB (w3.setCell ⟨w.heap.size + 1 + 1 + 1 + 1, 0, none⟩ (.slice A3 (sc1S fs x.k x.s x.f g).length c3)) w.heap.size (.slice A3 (sc1S fs x.k x.s x.f g).length c3) (sc1S fs x.k x.s x.f g) := own_base (ho3.kept (grownBy_set _ (w.heap.size + 1 + 1 + 1 + 1) 0 _) (.inr (q4.not_row (by decide) ho3).symm)) hw2s
     have e3 : Ext w (w3.setCell ⟨w.heap.size + 1 + 1 + 1 + 1, 0, none⟩ (.slice A3 (sc1S fs x.k x.s x.f g).length c3)) := Below.setCell (p := ⟨w.heap.size + 1 + 1 + 1 + 1, 0, none⟩) (Ext.trans He.out hE13) (by show w.heap.size ≤ w.heap.size + 1 + 1 + 1 + 1; omega) _
     have kf : Kept (orOther (fun _ _ => False) w7.heap.size) W (w3.setCell ⟨w.heap.size + 1 + 1 + 1 + 1, 0, none⟩ (.slice A3 (sc1S fs x.k x.s x.f g).length c3)) := Kept.setF ⟨hE13.size, fun q o hq _ => (hE13.block q (Array.getElem?_eq_some_iff.1 hq).1).trans hq⟩ _ _
     have hres : shadT fs g (some (x.k, x.s, x.f, x.sg)) = if sc1S fs x.k x.s x.f g = [] then (130, []) else (0, sc1S fs x.k x.s x.f g) := by unfold shadT; simp only [Hkk.out]; rfl
     have Hres := Lib.hid hres
     have Hkf := Lib.hid kf
     have HE3 := Lib.hid e3
     have HO3 := Lib.hid o3
     have H45 := Lib.hid q45
     have H55 := Lib.hid q55
     generalize (w3.setCell ⟨w.heap.size + 1 + 1 + 1 + 1, 0, none⟩ (.slice A3 (sc1S fs x.k x.s x.f g).length c3)) = w4 at *
     have v4 := q45.cell 0 rfl
     have zz4 := q45.frozen 0
     have v5 := q55.cell 0 rfl
     have zz5 := q55.frozen 0
     clear hres kf e3 o3 q45 q55 hne y0 y1 y2 y3 y4 y5 y6 y7 y8 y9 y10 s0 s1 s2 s3 s4 s5 s6 s7 s8 s9 s10 q4 q5 qt k4 z4 ho3 hE3 hE13 hlk hmap
     clear t0 t1 t2 t3 t4 t5 t6 t7 f0 gg i0 hHeld
     generalize hrr : sc1S fs x.k x.s x.f g = r at *
     clear hrr
     have hne45 : w.heap.size + 1 + 1 + 1 + 1 ≠ w.heap.size + 1 + 1 + 1 + 1 + 1 := by omega
     cases r with
     | nil =>
      clear hs7
      gi_wp2
      refine ⟨(Hkf.out.setF _ _).setF _ _, rfl, pre, x, .slice none 0 0, rfl, Hno.out, Hh.out, ?_, ?_, ?_, ?_⟩
      ·exact (H45.out.set 0 _).other hne45 0 _
      ·rw [Hres.out]; exact World.ownsRow_nil _ _ _ _
      ·rw [Hres.out]; exact (H55.out.other hne45.symm 0 _).set 0 (.int .i64 130)
      ·exact Below.setCell (p := ⟨w.heap.size + 1 + 1 + 1 + 1 + 1, 0, none⟩) (Below.setCell (p := ⟨w.heap.size + 1 + 1 + 1 + 1, 0, none⟩) HE3.out (by show w.heap.size ≤ w.heap.size + 1 + 1 + 1 + 1; omega) _) (by show w.heap.size ≤ w.heap.size + 1 + 1 + 1 + 1 + 1; omega) _
     | cons a r =>
      clear hs7
      gi_wp2
      refine ⟨(Hkf.out.setF _ _).setF _ _, rfl, pre, x, .slice A3 (r.length + 1) c3, rfl, Hno.out, Hh.out, ?_, ?_, ?_, ?_⟩
      ·exact (H45.out.set 0 _).other hne45 0 _
      ·rw [Hres.out]
       have q1 := HO3.out.kept (grownBy_set _ (w.heap.size + 1 + 1 + 1 + 1) 0 (.slice A3 (r.length + 1) c3)) (.inr (H45.out.not_row (by decide) HO3.out).symm)
       exact q1.kept (grownBy_set _ (w.heap.size + 1 + 1 + 1 + 1 + 1) 0 (.int .i64 0)) (.inr ((H55.out.other hne45.symm 0 (.slice A3 (r.length + 1) c3)).not_row (by decide) q1).symm)
      ·rw [Hres.out]; exact (H55.out.other hne45.symm 0 _).set 0 (.int .i64 0)
      ·exact Below.setCell (p := ⟨w.heap.size + 1 + 1 + 1 + 1 + 1, 0, none⟩) (Below.setCell (p := ⟨w.heap.size + 1 + 1 + 1 + 1, 0, none⟩) HE3.out (by show w.heap.size ≤ w.heap.size + 1 + 1 + 1 + 1; omega) _) (by show w.heap.size ≤ w.heap.size + 1 + 1 + 1 + 1 + 1; omega) _
    ·have hk : k = 3 := by rw [← He1.out]; exact hkk
     subst hk
     have Hkk := Lib.hid hkk
     have Hsg := Lib.hid hsg
     clear hkk hsg
     have hlk : (Instr.lookup 80 (.map (some (N + 1 + 1))) (.int .u8 3) false).run Tryz.prog w2 = .ok (.func (.func 47) #[] #[.pointer (some ⟨N, 0, none⟩), .pointer (some ⟨N + 1, 0, none⟩)]) w2 :=
      run_lookup_one (P := Tryz.prog) w2 .u8 Tryz.underlying80 Tryz.underlying5 (saysMap N (N + 1)) 2 3 .nilFunc (by kernel_rfl) hmap (some (1, _)) rfl
     refine AllReadyH.one (i := 5) rfl (by kernel_rfl) (by rfl) (fun K hK => ?_)
     go_simp
     refine hK.out _ _ ⟨s0, s1, s2, s3, s4, s5, s6, s7, s8, s9, s10⟩ (fun hHeld => ?_)
     clear hK K
     try simp only [Act.put, sA, sZ, sS]
     refine AllReadyH.one (i := 7) rfl (by kernel_rfl) (by rfl) (fun K hK => ?_)
     go_simp
     refine (says2_any _ fs x.k x.s x.f g x.sg x.p N (N + 1) w2 (HS.out.ext eW) (HF.out.ext eW) hl Hbl.out (Hct.out _ Hsg.out) hpN hpN1).mono ?_
     rintro e w3 ⟨v3, rfl, ho3, hE3⟩
     obtain ⟨A3, c3, rfl, _, _⟩ := SlR.open_ (SlR.of_own ho3)
     have hE13 := Ext.trans hE2 hE3
     refine hK.out _ _ ⟨hE3.cell s0, hE3.cell s1, hE3.cell s2, hE3.cell s3, hE3.cell s4, hE3.cell s5, hE3.cell s6, hE3.cell s7, hE3.cell s8, hE3.cell s9, hE3.cell s10⟩ (fun hHeld => ?_)
     clear hK K
     try simp only [Act.put, sA, sZ, sS]
     have q4 := Hb4.out.ext hE13
     have q5 := Hb5.out.ext hE13
     have qt := Hbt.out.ext hE13
     have k4 := q4.cell 0 rfl
     have z4 := q4.frozen 0
     refine AllReadyH.one (i := 8) rfl (by kernel_rfl) (by rfl) (fun K hK => ?_)
     go_simp
     have hne : bt ≠ w.heap.size + 1 + 1 + 1 + 1 := by
      intro e
      have h1 : W.heap[bt]? = _ := Hbt.out
      rw [e, show W.heap[w.heap.size + 1 + 1 + 1 + 1]? = _ from Hb4.out] at h1
      cases h1
     obtain ⟨y3, y4, y5, y6, y7, y8, y9, y10⟩ := blk8 (qt.other hne 0 (.slice A3 (sc2S fs x.sg g).length c3))
     have y0 := ((Hb0.out.ext hE13).other (by omega : w.heap.size ≠ w.heap.size + 1 + 1 + 1 + 1) 0 (.slice A3 (sc2S fs x.sg g).length c3)).cell 0 rfl
     have y1 := ((Hb3.out.ext hE13).other (by omega : w.heap.size + 1 + 1 + 1 ≠ w.heap.size + 1 + 1 + 1 + 1) 0 (.slice A3 (sc2S fs x.sg g).length c3)).cell 0 rfl
     have y2 := ((Hb2.out.ext hE13).other (by omega : w.heap.size + 1 + 1 ≠ w.heap.size + 1 + 1 + 1 + 1) 0 (.slice A3 (sc2S fs x.sg g).length c3)).cell 0 rfl
     refine hK.out _ _ ⟨y0, y1, y2, y3, y4, y5, y6, y7, y8, y9, y10⟩ (fun hHeld => ?_)
     clear hK K
     try simp only [Act.put, sA, sZ, sS]
     refine wpAnyH_done (by kernel_rfl) (noQ_normal ?_) _
     have q45 : Blk (w3.setCell ⟨w.heap.size + 1 + 1 + 1 + 1, 0, none⟩ (.slice A3 (sc2S fs x.sg g).length c3)) (w.heap.size + 1 + 1 + 1 + 1) 43 #[.slice A3 (sc2S fs x.sg g).length c3] := q4.set 0 _
     have q55 := q5.other (by omega : w.heap.size + 1 + 1 + 1 + 1 + 1 ≠ w.heap.size + 1 + 1 + 1 + 1) 0 (.slice A3 (sc2S fs x.sg g).length c3)
     have o3 : OwnB (w3.setCell ⟨w.heap.size + 1 + 1 + 1 + 1, 0, none⟩ (.slice A3 (sc2S fs x.sg g).length c3)) w.heap.size (.slice A3 (sc2S fs x.sg g).length c3) (sc2S fs x.sg g) := own_base (ho3.kept (grownBy_set _ (w.heap.size + 1 + 1 + 1 + 1) 0 _) (.inr (q4.not_row (by decide) ho3).symm)) hw2s
     have e3 : Ext w (w3.setCell ⟨w.heap.size + 1 + 1 + 1 + 1, 0, none⟩ (.slice A3 (sc2S fs x.sg g).length c3)) := Below.setCell (p := ⟨w.heap.size + 1 + 1 + 1 + 1, 0, none⟩) (Ext.trans He.out hE13) (by show w.heap.size ≤ w.heap.size + 1 + 1 + 1 + 1; omega) _
     have kf : Kept (orOther (fun _ _ => False) w7.heap.size) W (w3.setCell ⟨w.heap.size + 1 + 1 + 1 + 1, 0, none⟩ (.slice A3 (sc2S fs x.sg g).length c3)) := Kept.setF ⟨hE13.size, fun q o hq _ => (hE13.block q (Array.getElem?_eq_some_iff.1 hq).1).trans hq⟩ _ _
     have hres : shadT fs g (some (x.k, x.s, x.f, x.sg)) = if sc2S fs x.sg g = [] then (130, []) else (0, sc2S fs x.sg g) := by unfold shadT; simp only [Hkk.out]; rfl
     have Hres := Lib.hid hres
     have Hkf := Lib.hid kf
     have HE3 := Lib.hid e3
     have HO3 := Lib.hid o3
     have H45 := Lib.hid q45
     have H55 := Lib.hid q55
     generalize (w3.setCell ⟨w.heap.size + 1 + 1 + 1 + 1, 0, none⟩ (.slice A3 (sc2S fs x.sg g).length c3)) = w4 at *
     have v4 := q45.cell 0 rfl
     have zz4 := q45.frozen 0
     have v5 := q55.cell 0 rfl
     have zz5 := q55.frozen 0
     clear hres kf e3 o3 q45 q55 hne y0 y1 y2 y3 y4 y5 y6 y7 y8 y9 y10 s0 s1 s2 s3 s4 s5 s6 s7 s8 s9 s10 q4 q5 qt k4 z4 ho3 hE3 hE13 hlk hmap
     clear t0 t1 t2 t3 t4 t5 t6 t7 f0 gg i0 hHeld
     generalize hrr : sc2S fs x.sg g = r at *
     clear hrr
     have hne45 : w.heap.size + 1 + 1 + 1 + 1 ≠ w.heap.size + 1 + 1 + 1 + 1 + 1 := by omega
     cases r with
     | nil =>
      clear hs7
      gi_wp2
      refine ⟨(Hkf.out.setF _ _).setF _ _, rfl, pre, x, .slice none 0 0, rfl, Hno.out, Hh.out, ?_, ?_, ?_, ?_⟩
      ·exact (H45.out.set 0 _).other hne45 0 _
      ·rw [Hres.out]; exact World.ownsRow_nil _ _ _ _
      ·rw [Hres.out]; exact (H55.out.other hne45.symm 0 _).set 0 (.int .i64 130)
      ·exact Below.setCell (p := ⟨w.heap.size + 1 + 1 + 1 + 1 + 1, 0, none⟩) (Below.setCell (p := ⟨w.heap.size + 1 + 1 + 1 + 1, 0, none⟩) HE3.out (by show w.heap.size ≤ w.heap.size + 1 + 1 + 1 + 1; omega) _) (by show w.heap.size ≤ w.heap.size + 1 + 1 + 1 + 1 + 1; omega) _
     | cons a r =>
      clear hs7
      gi_wp2
      refine ⟨(Hkf.out.setF _ _).setF _ _, rfl, pre, x, .slice A3 (r.length + 1) c3, rfl, Hno.out, Hh.out, ?_, ?_, ?_, ?_⟩
      ·exact (H45.out.set 0 _).other hne45 0 _
      ·rw [Hres.out]
       have q1 := HO3.out.kept (grownBy_set _ (w.heap.size + 1 + 1 + 1 + 1) 0 (.slice A3 (r.length + 1) c3)) (.inr (H45.out.not_row (by decide) HO3.out).symm)
       exact q1.kept (grownBy_set _ (w.heap.size + 1 + 1 + 1 + 1 + 1) 0 (.int .i64 0)) (.inr ((H55.out.other hne45.symm 0 (.slice A3 (r.length + 1) c3)).not_row (by decide) q1).symm)
      ·rw [Hres.out]; exact (H55.out.other hne45.symm 0 _).set 0 (.int .i64 0)
      ·exact Below.setCell (p := ⟨w.heap.size + 1 + 1 + 1 + 1 + 1, 0, none⟩) (Below.setCell (p := ⟨w.heap.size + 1 + 1 + 1 + 1, 0, none⟩) HE3.out (by show w.heap.size ≤ w.heap.size + 1 + 1 + 1 + 1; omega) _) (by show w.heap.size ≤ w.heap.size + 1 + 1 + 1 + 1 + 1; omega) _
  case done =>
   rintro D W hD ⟨no, b0, b2, b3, b4, b5, e⟩ hK
   have hnm : findM m k s f = none := by rw [← find_thgs m (w.heap.size + 1) bs off, find_none no]
   have Hnm := Lib.hid hnm
   have k4 := b4.cell 0 rfl
   have z4 := b4.frozen 0
   have k5 := b5.cell 0 rfl
   have z5 := b5.frozen 0
   have H4 := Lib.hid b4
   have H5 := Lib.hid b5
   clear b0 b2 b3 b4 b5 hnm
   gi_wp2
   refine wpIn_label ?_
   gi_wp2
   refine jumps_ret ?_
   have hne : w.heap.size + 1 + 1 + 1 + 1 ≠ w.heap.size + 1 + 1 + 1 + 1 + 1 := by omega
   have hK2 := heap_setCell_obj (heap_setCell_obj hK rfl ⟨w.heap.size + 1 + 1 + 1 + 1, 0, none⟩ (.slice none 0 0)) rfl ⟨w.heap.size + 1 + 1 + 1 + 1 + 1, 0, none⟩ (.int .i64 2)
   refine ret_mark hK2 _ (shad_res _ _ _ _ _ _ rfl rfl (blk_putObj ((H4.out.set 0 (.slice none 0 0)).other hne 0 (.int .i64 2)) hK2 rfl _) (blk_putObj ((H5.out.other hne.symm 0 (.slice none 0 0)).set 0 (.int .i64 2)) hK2 rfl _)) ?_
   rw [Hnm.out]
   exact ⟨_, rfl, World.ownsRow_nil _ _ _ _, below_putObj (Below.setCell (p := ⟨w.heap.size + 1 + 1 + 1 + 1 + 1, 0, none⟩) (Below.setCell (p := ⟨w.heap.size + 1 + 1 + 1 + 1, 0, none⟩) e (by show w.heap.size ≤ w.heap.size + 1 + 1 + 1 + 1; omega) _) (by show w.heap.size ≤ w.heap.size + 1 + 1 + 1 + 1 + 1; omega) _) (by omega) _⟩
  case stop =>
   rintro D cd pre W hD hpre ⟨rfl, pre0, x, v, rfl, h1, h2, b4, o, b5, e⟩ hK
   have hnm : findM m k s f = some (x.k, x.s, x.f, x.sg) := by rw [← find_thgs m (w.heap.size + 1) bs off, find_hit hpre h1 h2]
   gi_wp2
   refine jumps_ret ?_
   refine ret_mark hK _ (shad_res _ _ _ _ _ _ rfl rfl (blk_putObj b4 hK rfl _) (blk_putObj b5 hK rfl _)) ?_
   rw [hnm]
   exact ⟨_, rfl, own_putObj o hK rfl _, below_putObj e (by omega) _⟩
end Go.Proofs.YtmecffckghkahaaGreatDoor
