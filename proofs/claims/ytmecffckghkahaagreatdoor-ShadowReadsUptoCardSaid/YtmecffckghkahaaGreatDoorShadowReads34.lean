/- Merged: ShP Wk17 AppF -/
import Derived.Test.YtmecffckghkahaaGreatDoorShadowReads33
set_option linter.all false
set_option maxHeartbeats 8000000
namespace Go.Proofs.YtmecffckghkahaaGreatDoor
open Go.RowKit Go.Mv
set_option maxRecDepth 100000
/-! Names -/
theorem dec_dig : ∀ (u : Nat), ∀ x ∈ Lib.decDigits u, 48 ≤ x.toNat ∧ x.toNat ≤ 57 := by
 intro u
 induction u using Nat.strongRecOn with
 | _ u ih =>
  intro x hx
  rw [Lib.decDigits] at hx
  split at hx
  ·rw [List.mem_singleton] at hx
   subst hx
   rw [UInt8.toNat_ofNat']
   omega
  ·rw [List.mem_append, List.mem_singleton] at hx
   rcases hx with hx | rfl
   ·exact ih _ (by omega) x hx
   ·rw [UInt8.toNat_ofNat']
    omega
def valD (l : List UInt8) : Nat := l.foldl (fun a x => 10 * a + (x.toNat - 48)) 0
theorem val_dec : ∀ (u : Nat), valD (Lib.decDigits u) = u := by
 intro u
 induction u using Nat.strongRecOn with
 | _ u ih =>
  rw [Lib.decDigits]
  split
  ·unfold valD
   simp only [List.foldl_cons, List.foldl_nil, UInt8.toNat_ofNat']
   omega
  ·have := ih (u / 10) (by omega)
   unfold valD at this ⊢
   rw [List.foldl_append, this]
   simp only [List.foldl_cons, List.foldl_nil, UInt8.toNat_ofNat']
   omega
theorem numN_inj {a b : Int} (ha : 0 ≤ a) (hb : 0 ≤ b) (h : numN a = numN b) : a = b := by
 unfold numN at h
 have := congrArg valD h
 rw [val_dec, val_dec] at this
 omega
theorem split_dot : ∀ {a a' b b' : List UInt8}, (∀ x ∈ a, x ≠ 46) → (∀ x ∈ a', x ≠ 46) → a ++ 46 :: b = a' ++ 46 :: b' → a = a' ∧ b = b'
 | [], [], b, b', _, _, h => ⟨rfl, by injection h⟩
 | [], x :: a', b, b', _, h2, h => by
  rw [List.nil_append, List.cons_append] at h
  injection h with h1 _
  exact absurd h1.symm (h2 x (by simp))
 | x :: a, [], b, b', h1, _, h => by
  rw [List.nil_append, List.cons_append] at h
  injection h with h2 _
  exact absurd h2 (h1 x (by simp))
 | x :: a, y :: a', b, b', h1, h2, h => by
  rw [List.cons_append, List.cons_append] at h
  injection h with h3 h4
  obtain ⟨h5, h6⟩ := split_dot (fun z hz => h1 z (List.mem_cons_of_mem _ hz)) (fun z hz => h2 z (List.mem_cons_of_mem _ hz)) h4
  exact ⟨by rw [h3, h5], h6⟩
theorem no_dot (n : Int) : ∀ x ∈ numN n, x ≠ 46 := by
 intro x hx e
 subst e
 have := dec_dig _ _ hx
 simp at this
theorem name_thing {k s f : Int} (hk : k = 3 ∨ k = 4) (h1 : 1 ≤ s) (h2 : s ≤ 1073741824) (hf : f = 1 ∨ f = 2) : nameS k s f = some ((if k = 3 then 115 else 112) :: (numN s ++ 46 :: numN f)) := by
 have hm : mayB k s f = true := by
  unfold mayB
  rw [if_neg (by omega)]
  simp only [decide_eq_true_eq]
  exact ⟨hk, h1, h2, hf⟩
 unfold nameS
 rw [if_pos hm]
 unfold nameN
 rw [if_neg (by omega), if_neg (by omega)]
theorem name_ne {k s f k' s' f' : Int} {n n' : List UInt8} (hk : k = 3 ∨ k = 4) (hk' : k' = 3 ∨ k' = 4) (hn : nameS k s f = some n) (hn' : nameS k' s' f' = some n') (hne : ¬ (k = k' ∧ s = s')) : n ≠ n' := by
 have hb : ∀ {k s f : Int} {n : List UInt8}, (k = 3 ∨ k = 4) → nameS k s f = some n → 1 ≤ s ∧ n = (if k = 3 then 115 else 112) :: (numN s ++ 46 :: numN f) := by
  intro k s f n hk h
  unfold nameS at h
  split at h
  ·rename_i hm
   unfold mayB at hm
   rw [if_neg (by omega)] at hm
   simp at hm
   refine ⟨hm.2.1, ?_⟩
   cases h
   unfold nameN
   rw [if_neg (by omega), if_neg (by omega)]
  ·cases h
 obtain ⟨s1, rfl⟩ := hb hk hn
 obtain ⟨s2, rfl⟩ := hb hk' hn'
 intro h
 injection h with h1 h2
 obtain ⟨h3, _⟩ := split_dot (no_dot s) (no_dot s') h2
 have hs := numN_inj (by omega) (by omega) h3
 refine hne ⟨?_, hs⟩
 rcases hk with rfl | rfl <;> rcases hk' with rfl | rfl
 ·rfl
 ·simp at h1
 ·simp at h1
 ·rfl
theorem name_notM {k s f : Int} {n : List UInt8} (hk : k = 3 ∨ k = 4) (hn : nameS k s f = some n) : n ≠ [77] := by
 unfold nameS at hn
 split at hn
 ·cases hn
  unfold nameN
  rw [if_neg (by omega), if_neg (by omega)]
  intro h
  injection h with h _
  rcases hk with rfl | rfl <;> simp at h
 ·cases hn
theorem name_M : nameS 1 0 0 = some [77] := rfl
/-! Files -/
theorem bytesS_cons (f : Fil) (fs : List Fil) (n : List UInt8) : bytesS (f :: fs) (some n) = if f.1 = n then some f.2 else bytesS fs (some n) := by
 unfold bytesS findS placeS
 simp only [List.findIdx?_cons]
 by_cases h : f.1 = n
 ·simp [h]
 ·have hb : (f.1 == n) = false := by simpa using h
  rw [if_neg h, hb]
  simp only [Bool.false_eq_true, if_false]
  cases hi : fs.findIdx? (fun f => f.1 == n) with
  | none => simp
  | some i =>
   simp only [Option.map_some]
   rw [if_neg (by omega), if_neg (by omega)]
   have e1 : ((i + 1 : Nat) : Int).toNat = i + 1 := by omega
   have e2 : ((i : Nat) : Int).toNat = i := by omega
   rw [e1, e2, List.getElem?_cons_succ]
/-! Manifests -/
theorem segsGo_put : ∀ (l : List Sg4) (acc : List Sg4), allNum (sgInts l) = true → segsGo l.length acc (shorts (sgInts l)) = some (acc ++ l)
 | [], acc, _ => by simp [segsGo]
 | s :: l, acc, h => by
  have e : sgInts (s :: l) = [s.seq, s.fmt, s.first, s.count + 1] ++ sgInts l := rfl
  rw [e] at h ⊢
  unfold allNum at h
  rw [List.all_append, Bool.and_eq_true] at h
  have ht := takesGo_put [s.seq, s.fmt, s.first, s.count + 1] h.1 [] (shorts (sgInts l))
  rw [List.nil_append] at ht
  have ht : takesGo 4 [] (shorts [s.seq, s.fmt, s.first, s.count + 1] ++ shorts (sgInts l)) = (0, [s.seq, s.fmt, s.first, s.count + 1], shorts (sgInts l)) := ht
  have hs : shorts ([s.seq, s.fmt, s.first, s.count + 1] ++ sgInts l) = shorts [s.seq, s.fmt, s.first, s.count + 1] ++ shorts (sgInts l) := by unfold shorts; rw [List.flatMap_append]
  rw [List.length_cons, segsGo, hs, ht]
  simp only [if_true]
  rw [segsGo_put l _ h.2, List.append_assoc]
  obtain ⟨a, b, c, d⟩ := s
  simp
theorem readM_put {m : Mf} (h : checkM m = true) : readM (77 :: shorts (mfInts m)) = some m := by
 have hn := checkM_num h
 obtain ⟨_, _, _, hl, _, _⟩ := checkM_b h
 unfold readM
 rw [if_neg (by simp)]
 have e : mfInts m = [m.next, m.term, m.vote, m.sq, m.sf, (m.segs.length : Int)] ++ sgInts m.segs := rfl
 rw [e] at hn ⊢
 unfold allNum at hn
 rw [List.all_append, Bool.and_eq_true] at hn
 have ht := takesGo_put [m.next, m.term, m.vote, m.sq, m.sf, (m.segs.length : Int)] hn.1 [] (shorts (sgInts m.segs))
 rw [List.nil_append] at ht
 have ht : takesGo 6 [] (shorts [m.next, m.term, m.vote, m.sq, m.sf, (m.segs.length : Int)] ++ shorts (sgInts m.segs)) = (0, [m.next, m.term, m.vote, m.sq, m.sf, (m.segs.length : Int)], shorts (sgInts m.segs)) := ht
 have hs : shorts ([m.next, m.term, m.vote, m.sq, m.sf, (m.segs.length : Int)] ++ sgInts m.segs) = shorts [m.next, m.term, m.vote, m.sq, m.sf, (m.segs.length : Int)] ++ shorts (sgInts m.segs) := by unfold shorts; rw [List.flatMap_append]
 rw [hs, List.drop_succ_cons, List.drop_zero, ht]
 unfold readQ
 have hg := segsGo_put m.segs [] hn.2
 rw [List.nil_append] at hg
 simp only [List.getD_cons_zero, List.getD_cons_succ, ne_eq, not_true_eq_false, if_false, Int.toNat_natCast, hg, Option.map_some]
 rw [if_neg (by omega)]
theorem takeM_put {m : Mf} {c : List UInt8} (h : putM m = some c) : takeM c = some m := by
 have hc : checkM m = true := by
  unfold putM at h
  split at h
  ·assumption
  ·cases h
 have h0 := h
 unfold putM at h0
 rw [if_pos hc] at h0
 cases h0
 unfold takeM
 rw [crcTake_put]
 simp only [readM_put hc]
 rw [if_pos h]
structure Alike (m o : Mf) : Prop where
 next : o.next = m.next
 term : o.term = m.term
 vote : o.vote = m.vote
 sq : o.sq = m.sq
 sf : m.sq ≠ 0 → o.sf = 1 ∨ o.sf = 2
 sf0 : m.sq = 0 → o.sf = m.sf
 len : o.segs.length = m.segs.length
 seg : ∀ (i : Nat) (h : i < m.segs.length) (h' : i < o.segs.length), o.segs[i].seq = m.segs[i].seq ∧ o.segs[i].first = m.segs[i].first ∧ o.segs[i].count = m.segs[i].count ∧ (o.segs[i].fmt = 1 ∨ o.segs[i].fmt = 2)
theorem segsOk_all {m : Mf} : ∀ {k : Nat}, k ≤ m.segs.length → (∀ i (hi : i < m.segs.length), segOk m i m.segs[i] = true) → segsOk m k = true
 | 0, _, _ => rfl
 | k + 1, hk, h => by
  unfold segsOk
  rw [segsOk_all (by omega) h, List.getElem?_eq_getElem (by omega)]
  exact h k (by omega)
theorem alike_check {m o : Mf} (hm : checkM m = true) (h : Alike m o) : checkM o = true := by
 obtain ⟨h1, h2, h3, h4, h5, h6⟩ := checkM_b hm
 have hh : headOk o = true := by
  unfold headOk
  rw [h.next, h.term, h.vote, h.len]
  simp only [inB, Bool.and_eq_true, decide_eq_true_eq]
  exact ⟨⟨⟨h1, h2⟩, h3⟩, h4⟩
 have hs : snapOk o = true := by
  unfold snapOk fileOk
  rw [h.sq, h.next]
  simp only [Bool.or_eq_true, decide_eq_true_eq]
  rcases h5 with ⟨h7, h8⟩ | ⟨h7, h8, h9⟩
  ·exact .inl ⟨h7, by rw [h.sf0 h7]; exact h8⟩
  ·exact .inr ⟨h7, h8, h.sf (by omega)⟩
 have hg : segsOk o o.segs.length = true := by
  refine segsOk_all (Nat.le_refl _) fun i hi => ?_
  have hi' : i < m.segs.length := by rw [← h.len]; exact hi
  have ho := h6 i hi'
  obtain ⟨e1, e2, e3, e4⟩ := h.seg i hi' hi
  unfold segOk at ho ⊢
  simp only [Bool.and_eq_true, Bool.or_eq_true, decide_eq_true_eq, List.all_eq_true] at ho ⊢
  obtain ⟨⟨⟨⟨⟨a1, a2⟩, a3⟩, a4⟩, a5⟩, a6⟩ := ho
  refine ⟨⟨⟨⟨⟨?_, ?_⟩, ?_⟩, ?_⟩, ?_⟩, ?_⟩
  ·unfold fileOk at a1 ⊢
   rw [e1, h.next]
   simp only [decide_eq_true_eq] at a1 ⊢
   exact ⟨a1.1, a1.2.1, e4⟩
  ·rw [e1, h.sq]; exact a2
  ·rw [e2]; exact a3
  ·intro t ht
   obtain ⟨q, hq, rfl⟩ := List.mem_take_iff_getElem.1 ht
   have hq' : q < m.segs.length := by omega
   rw [(h.seg q hq' (by omega)).1, e1]
   exact a4 _ (List.mem_take_iff_getElem.2 ⟨q, by omega, rfl⟩)
  ·have hp : i - 1 < m.segs.length := by omega
   have hp' : i - 1 < o.segs.length := by omega
   rw [List.getElem?_eq_getElem hp] at a5
   rw [List.getElem?_eq_getElem hp']
   obtain ⟨_, f2, f3, _⟩ := h.seg (i - 1) hp hp'
   simp only [decide_eq_true_eq] at a5 ⊢
   rw [e2, f2, f3]
   exact a5
  ·rw [e3, h.len]; exact a6
 unfold checkM
 rw [hh, hs, hg]
 rfl
/-! Segments -/
theorem take1_ok {b : List UInt8} {e : Ent} (h : take1S rT b = some e) : e.ok = true := by
 unfold take1S at h
 split at h
 ·cases h
 ·split at h
  ·split at h
   ·split at h
    ·rename_i hok
     cases h
     exact hok
    ·cases h
   ·cases h
  ·cases h
theorem recs_ok (b : List UInt8) : ∀ p, ∀ x ∈ recsP rT b p, x.2.ok = true := by
 generalize hn : b.length = n
 induction n using Nat.strongRecOn generalizing b with
 | _ n ih =>
  intro p x hx
  by_cases hs : b.length < 15
  ·rw [recsP_short hs] at hx; cases hx
  ·cases ht : take1S rT (b.take 15) with
   | none => rw [recsP_none hs ht] at hx; cases hx
   | some e =>
    rw [recsP_some hs ht, List.mem_cons] at hx
    rcases hx with rfl | hx
    ·exact take1_ok ht
    ·exact ih (b.drop 15).length (by rw [List.length_drop]; omega) (b.drop 15) rfl _ x hx
theorem scan_ok {b : List UInt8} {m : Int} : allOk (scanE rT b m).log = true := by
 unfold scanE
 split
 ·unfold look1S
  split
  ·rfl
  ·split
   ·show allOk ((recsP rT (b.drop 6) 6).map (·.2)) = true
    unfold allOk
    rw [List.all_eq_true]
    intro x hx
    obtain ⟨q, hq, rfl⟩ := List.mem_map.1 hx
    exact recs_ok _ _ q hq
   ·rfl
 ·split
  ·unfold lookS
   split
   ·rfl
   ·rename_i x _
    dsimp only
    obtain ⟨cs, h1, h2, _⟩ := scanS_spec (chainP (0, 0) (headS (x.1 : Int)).2) x.2
    rw [h2]
    unfold allOk
    rw [List.all_eq_true]
    intro e he
    obtain ⟨c, hc, hec⟩ := List.mem_flatten.1 he
    have := ((blkOk_iff c).1 (h1 c hc)).2
    unfold allOk at this
    rw [List.all_eq_true] at this
    exact this e hec
  ·rfl
theorem ent_of {fs : List Fil} {s : Sg4} {y : List Ent} (h : entS13 fs s = some y) : allOk y = true ∧ cntBad y.length s.count = false := by
 unfold entS13 at h
 split at h
 ·cases h
 ·split at h
  ·cases h
  ·split at h
   ·cases h
   ·split at h
    ·cases h
    ·rename_i hc
     cases h
     exact ⟨scan_ok, Bool.eq_false_iff.2 hc⟩
theorem ent_new {fs : List Fil} {s : Sg4} {y : List Ent} {b : List UInt8} {f : Nat} {g : Int} (hb : bytesS fs (nameS 3 s.seq g) = some b) (hg : Sg rT g b f y) (hf : (f : Int) = s.first) (hc : cntBad y.length s.count = false) : entS13 fs { s with fmt := g } = some y := by
 obtain ⟨q, hq⟩ := sg_scan hg
 unfold entS13
 simp only [hb, hq]
 rw [if_neg (by simp), if_neg (by simpa using hf), if_neg (by rw [hc]; simp)]
theorem logGo_same {fs fs' : List Fil} {index : Int} : ∀ {l l' : List Sg4}, l'.length = l.length → (∀ (i : Nat) (h : i < l.length) (h' : i < l'.length), entS13 fs' l'[i] = entS13 fs l[i] ∧ l'[i].first = l[i].first) → ∀ last out, logGo fs' index l' last out = logGo fs index l last out
 | [], [], _, _, _, _ => rfl
 | [], _ :: _, h, _, _, _ => by simp at h
 | _ :: _, [], h, _, _, _ => by simp at h
 | s :: l, s' :: l', hl, h, last, out => by
  have h0 := h 0 (by simp) (by simp)
  simp only [List.getElem_cons_zero] at h0
  have ih := fun last out => logGo_same (fs := fs) (fs' := fs') (index := index) (l := l) (l' := l') (by simpa using hl) (fun i a b => by
   have := h (i + 1) (by simpa using a) (by simpa using b)
   simpa using this) last out
  rw [logGo, logGo, h0.1, h0.2]
  cases entS13 fs s with
  | none => rfl
  | some x => exact ih _ _
theorem logGo_all {fs : List Fil} {index : Int} : ∀ {l : List Sg4} {last : Int} {out : List Ent} {r}, logGo fs index l last out = some r → ∀ s ∈ l, ∃ y, entS13 fs s = some y
 | [], _, _, _, _, s, hs => by cases hs
 | x :: l, last, out, r, h, s, hs => by
  rw [logGo] at h
  cases hx : entS13 fs x with
  | none => rw [hx] at h; cases h
  | some y =>
   rw [hx] at h
   rcases List.mem_cons.1 hs with rfl | hs
   ·exact ⟨y, hx⟩
   ·exact logGo_all h s hs
theorem logS_same {fs fs' : List Fil} {m o : Mf} {index : Int} (hl : o.segs.length = m.segs.length) (h : ∀ (i : Nat) (h : i < m.segs.length) (h' : i < o.segs.length), entS13 fs' o.segs[i] = entS13 fs m.segs[i] ∧ o.segs[i].first = m.segs[i].first) : logS fs' o index = logS fs m index := by
 unfold logS
 rw [logGo_same hl h]
 revert hl h
 cases m.segs with
 | nil =>
  cases o.segs with
  | nil => intros; rfl
  | cons a' l' => intro hl; simp at hl
 | cons a l =>
  cases o.segs with
  | nil => intro hl; simp at hl
  | cons a' l' =>
   intro hl h
   have := (h 0 (by simp) (by simp)).2
   simp only [List.getElem_cons_zero] at this
   simp only [this]
theorem logS_ent {fs : List Fil} {m : Mf} {index : Int} (h : (logS fs m index).2 = true) : ∀ s ∈ m.segs, ∃ y, entS13 fs s = some y := by
 unfold logS at h
 cases hg : logGo fs index m.segs (index + 1) [] with
 | none => rw [hg] at h; cases h
 | some r => exact logGo_all hg
/-! A step -/
theorem tell_ok {fs : List Fil} {t : Tup} {m : Mf} (h : tellS fs = ⟨0, t, m⟩) : ∃ b s, bytesS fs (some [77]) = some b ∧ takeM b = some m ∧ stateS fs m = some s ∧ (logS fs m s.idx).2 = true ∧ rightT ⟨s, (logS fs m s.idx).1, m.term, m.vote⟩ = true ∧ t = ⟨s, (logS fs m s.idx).1, m.term, m.vote⟩ := by
 unfold tellS at h
 rw [name_M] at h
 cases hb : bytesS fs (some [77]) with
 | none => rw [hb] at h; cases h
 | some b =>
  rw [hb] at h
  dsimp only at h
  cases hm : takeM b with
  | none => rw [hm] at h; cases h
  | some m' =>
   rw [hm] at h
   dsimp only at h
   cases hs : stateS fs m' with
   | none => rw [hs] at h; cases h
   | some s =>
    rw [hs] at h
    dsimp only at h
    split at h
    ·rename_i hc
     rw [Bool.and_eq_true] at hc
     cases h
     exact ⟨b, s, rfl, hm, hs, hc.1, hc.2, rfl⟩
    ·cases h
theorem tell_of {fs : List Fil} {b : List UInt8} {m : Mf} {s : Sta} (h1 : bytesS fs (some [77]) = some b) (h2 : takeM b = some m) (h3 : stateS fs m = some s) (h4 : (logS fs m s.idx).2 = true) (h5 : rightT ⟨s, (logS fs m s.idx).1, m.term, m.vote⟩ = true) : tellS fs = ⟨0, ⟨s, (logS fs m s.idx).1, m.term, m.vote⟩, m⟩ := by
 unfold tellS
 rw [name_M, h1]
 dsimp only
 rw [h2]
 dsimp only
 rw [h3]
 dsimp only
 rw [h4, h5]
 rfl
inductive IsTh (m : Mf) : Int → Int → Int → Prop
 | snap : m.sq ≠ 0 → IsTh m 4 m.sq m.sf
 | seg (j : Nat) (h : j < m.segs.length) : IsTh m 3 m.segs[j].seq m.segs[j].fmt
theorem isTh_ok {m : Mf} {k s f : Int} (hm : checkM m = true) (h : IsTh m k s f) : (k = 3 ∨ k = 4) ∧ (1 ≤ s ∧ s ≤ 1073741824) ∧ (f = 1 ∨ f = 2) := by
 obtain ⟨h1, _, _, _, h5, h6⟩ := checkM_b hm
 cases h with
 | snap hq =>
  rcases h5 with ⟨h7, _⟩ | ⟨h7, h8, h9⟩
  ·exact absurd h7 hq
  ·exact ⟨.inr rfl, ⟨h7, by omega⟩, h9⟩
 | seg j hj =>
  obtain ⟨h7, h8, h9⟩ := fileOk_b (segOk_b (h6 j hj)).1
  exact ⟨.inl rfl, ⟨h7, by omega⟩, h9⟩
theorem seqs_ne {m : Mf} (hm : checkM m = true) {i j : Nat} (hi : i < m.segs.length) (hj : j < m.segs.length) (hne : i ≠ j) : m.segs[i].seq ≠ m.segs[j].seq := by
 obtain ⟨_, _, _, _, _, h6⟩ := checkM_b hm
 rcases Nat.lt_or_gt_of_ne hne with h | h
 ·exact (segOk_b (h6 j hj)).2.2.2.1 _ (List.mem_take_iff_getElem.2 ⟨i, by omega, rfl⟩)
 ·exact Ne.symm ((segOk_b (h6 i hi)).2.2.2.1 _ (List.mem_take_iff_getElem.2 ⟨j, by omega, rfl⟩))
theorem turnSegs_at {s f g : Int} : ∀ {l : List Sg4} {j : Nat} (hj : j < l.length), l[j].seq = s → l[j].fmt = f → (∀ i (hi : i < j), l[i].seq ≠ s) → turnSegs s f g l = l.set j { l[j] with fmt := g } ∧ findMs s f l = some l[j]
 | [], j, hj, _, _, _ => by simp at hj
 | t :: l, 0, _, h1, h2, _ => by
  simp only [List.getElem_cons_zero] at h1 h2
  unfold turnSegs findMs
  rw [if_pos ⟨h1, h2⟩, if_pos ⟨h1, h2⟩]
  exact ⟨rfl, rfl⟩
 | t :: l, j + 1, hj, h1, h2, h3 => by
  simp only [List.getElem_cons_succ] at h1 h2
  have h0 := h3 0 (by omega)
  simp only [List.getElem_cons_zero] at h0
  have ih := turnSegs_at (g := g) (l := l) (j := j) (by simpa using hj) h1 h2 (fun i hi => by
   have := h3 (i + 1) (by omega)
   simpa using this)
  unfold turnSegs findMs
  rw [if_neg (fun h => h0 h.1), if_neg (fun h => h0 h.1), ih.1, ih.2]
  exact ⟨rfl, rfl⟩
theorem turn_snap {m : Mf} {g : Int} (hq : m.sq ≠ 0) : turnM m 4 m.sq m.sf g = { m with sf := g } ∧ findM m 4 m.sq m.sf = some (4, m.sq, m.sf, ⟨0, 0, 0, 0⟩) := by
 unfold turnM findM
 rw [if_pos ⟨hq, rfl, rfl, rfl⟩, if_pos ⟨hq, rfl, rfl, rfl⟩]
 exact ⟨rfl, rfl⟩
theorem turn_seg {m : Mf} {g : Int} (hm : checkM m = true) {j : Nat} (hj : j < m.segs.length) : turnM m 3 m.segs[j].seq m.segs[j].fmt g = { m with segs := m.segs.set j { m.segs[j] with fmt := g } } ∧ findM m 3 m.segs[j].seq m.segs[j].fmt = some (3, m.segs[j].seq, m.segs[j].fmt, m.segs[j]) := by
 obtain ⟨h1, h2⟩ := turnSegs_at (g := g) hj rfl rfl (fun i hi => seqs_ne hm (by omega) hj (by omega))
 have hn : ¬ (m.sq ≠ 0 ∧ (3 : Int) = 4 ∧ m.sq = m.segs[j].seq ∧ m.sf = m.segs[j].fmt) := fun h => absurd h.2.1 (by decide)
 unfold turnM findM
 rw [if_neg hn, if_neg hn, if_pos rfl, if_pos rfl, h1, h2]
 exact ⟨rfl, rfl⟩
theorem set_at {l : List Sg4} {j : Nat} {x : Sg4} (i : Nat) (h : i < (l.set j x).length) (h' : i < l.length) : (l.set j x)[i] = if j = i then x else l[i] := List.getElem_set _
theorem turn_alike {m : Mf} {k s f g : Int} (hm : checkM m = true) (h : IsTh m k s f) (hg : g = 1 ∨ g = 2) : Alike m (turnM m k s f g) := by
 obtain ⟨h1, _, _, _, h5, h6⟩ := checkM_b hm
 have hfm : ∀ i (hi : i < m.segs.length), m.segs[i].fmt = 1 ∨ m.segs[i].fmt = 2 := fun i hi => (fileOk_b (segOk_b (h6 i hi)).1).2.2
 cases h with
 | snap hq =>
  rw [(turn_snap hq).1]
  exact ⟨rfl, rfl, rfl, rfl, fun _ => hg, fun h => absurd h hq, rfl, fun i hi _ => ⟨rfl, rfl, rfl, hfm i hi⟩⟩
 | seg j hj =>
  rw [(turn_seg hm hj).1]
  refine ⟨rfl, rfl, rfl, rfl, fun hq => ?_, fun _ => rfl, List.length_set, fun i hi hi' => ?_⟩
  ·rcases h5 with ⟨h7, _⟩ | ⟨_, _, h9⟩
   ·exact absurd h7 hq
   ·exact h9
  ·rw [set_at i hi' hi]
   by_cases e : j = i
   ·subst e
    rw [if_pos rfl]
    exact ⟨rfl, rfl, rfl, hg⟩
   ·rw [if_neg e]
    exact ⟨rfl, rfl, rfl, hfm i hi⟩
theorem turn_check {m : Mf} {k s f g : Int} (hm : checkM m = true) (h : IsTh m k s f) (hg : g = 1 ∨ g = 2) : checkM (turnM m k s f g) = true := alike_check hm (turn_alike hm h hg)
theorem turn_left {m : Mf} {k s f g : Int} (hm : checkM m = true) (h : IsTh m k s f) (hf : f ≠ g) : leftM (turnM m k s f g) g + 1 = leftM m g := by
 cases h with
 | snap hq =>
  rw [(turn_snap hq).1]
  unfold leftM
  dsimp only
  rw [if_neg (fun h : m.sq ≠ 0 ∧ g ≠ g => h.2 rfl), if_pos ⟨hq, hf⟩]
  omega
 | seg j hj =>
  rw [(turn_seg hm hj).1]
  unfold leftM
  dsimp only
  have h0 : 0 < m.segs.countP fun s => decide (s.fmt ≠ g) := List.countP_pos_iff.2 ⟨_, List.getElem_mem hj, by simpa using hf⟩
  rw [List.countP_set hj]
  have e1 : (decide (m.segs[j].fmt ≠ g)) = true := by simpa using hf
  have e2 : (decide (({ m.segs[j] with fmt := g } : Sg4).fmt ≠ g)) = false := by simp
  rw [e1, e2]
  simp only [if_true, Bool.false_eq_true, if_false]
  omega
theorem next_some {m : Mf} {k s f g : Int} (h : nextM m g = some (k, s, f)) : IsTh m k s f ∧ f ≠ g := by
 unfold nextM at h
 split at h
 ·rename_i hc
  cases h
  exact ⟨.snap hc.1, hc.2⟩
 ·cases hf : m.segs.find? fun s => decide (s.fmt ≠ g) with
  | none => rw [hf] at h; cases h
  | some x =>
   rw [hf] at h
   cases h
   obtain ⟨j, hj, rfl⟩ := List.mem_iff_getElem.1 (List.mem_of_find?_eq_some hf)
   exact ⟨.seg j hj, by simpa using List.find?_some hf⟩
theorem nextM_none {m : Mf} {g : Int} : nextM m g = none ↔ leftM m g = 0 := by
 unfold nextM leftM
 by_cases hc : m.sq ≠ 0 ∧ m.sf ≠ g
 ·rw [if_pos hc, if_pos hc]
  constructor
  ·intro h; cases h
  ·intro h; omega
 ·rw [if_neg hc, if_neg hc, Option.map_eq_none_iff, List.find?_eq_none, Nat.zero_add, List.countP_eq_zero]
/-! What a shadow says -/
theorem putR_ok {s : Sta} {g : Int} (hs : s.ok = true) (hg : g = 1 ∨ g = 2) : ∃ b, putR s g = some b := by
 unfold putR
 rw [if_pos hs]
 rcases hg with rfl | rfl
 ·exact ⟨_, rfl⟩
 ·exact ⟨_, rfl⟩
theorem shad_snap {fs : List Fil} {m : Mf} {b0 : List UInt8} {st : Sta} {g : Int} (hq : m.sq ≠ 0) (hb : bytesS fs (nameS 4 m.sq m.sf) = some b0) (ht : takeR b0 m.sf = some st) (hg : g = 1 ∨ g = 2) : ∃ b, shadM fs m 4 m.sq m.sf g = (0, b) ∧ putR st g = some b := by
 obtain ⟨b, hp⟩ := putR_ok (takeR_some ht).1 hg
 refine ⟨b, ?_, hp⟩
 have hl := (putR_len hp).1
 unfold shadM
 rw [if_neg (by omega), (turn_snap (g := g) hq).2]
 unfold shadT
 dsimp only
 rw [if_pos rfl]
 have e : sc1S fs 4 m.sq m.sf g = b := by
  unfold sc1S
  rw [hb]
  dsimp only
  unfold againR
  rw [ht]
  dsimp only
  rw [hp]
 rw [e, if_neg (by rintro rfl; simp at hl)]
theorem shad_seg {fs : List Fil} {m : Mf} {j : Nat} (hm : checkM m = true) (hj : j < m.segs.length) {y : List Ent} {g : Int} (he : entS13 fs m.segs[j] = some y) (hg : g = 1 ∨ g = 2) : ∃ b, shadM fs m 3 m.segs[j].seq m.segs[j].fmt g = (0, b) ∧ Sg rT g b m.segs[j].first.toNat y ∧ b.length ≤ 6 + 20 * y.length ∧ 2 ≤ b.length ∧ fileE rT g m.segs[j].first y = (0, b) := by
 obtain ⟨_, _, _, _, _, h6⟩ := checkM_b hm
 obtain ⟨_, _, hf, _, _⟩ := segOk_b (h6 j hj)
 obtain ⟨hok, _⟩ := ent_of he
 obtain ⟨b, hb, hsg, hl, hl2⟩ := sg_file (T := rT) hg (f := m.segs[j].first.toNat) (by omega) (by omega) hok
 have e0 : ((m.segs[j].first.toNat : Nat) : Int) = m.segs[j].first := by omega
 rw [e0] at hb
 refine ⟨b, ?_, hsg, hl, hl2, hb⟩
 unfold shadM
 rw [if_neg (by omega), (turn_seg (g := g) hm hj).2]
 unfold shadT
 dsimp only
 rw [if_neg (by decide : ¬ (3 : Int) = 4)]
 have e : sc2S fs m.segs[j] g = b := by
  unfold sc2S
  rw [he]
  dsimp only
  rw [hb]
 rw [e, if_neg (by rintro rfl; simp at hl2)]
theorem cnt_le {n : Nat} {c : Int} (h : cntBad n c = false) (hc : (1 ≤ c ∧ c ≤ 4) ∨ c = -1) : n ≤ 4 := by
 unfold cntBad at h
 simp only [Bool.or_eq_false_iff, Bool.and_eq_false_iff, decide_eq_false_iff_not] at h
 obtain ⟨h1, h2⟩ := h
 rcases hc with hc | hc
 ·rcases h2 with h2 | h2 <;> omega
 ·rcases h1 with h1 | h1
  ·exact absurd hc h1
  ·omega
theorem bytes_other {k s f k' s' f' : Int} {n c b : List UInt8} (fs : List Fil) (hk : k = 3 ∨ k = 4) (hk' : k' = 3 ∨ k' = 4) (hn : nameS k s f = some n) (hne : ¬ (k = k' ∧ s = s')) : bytesS (([77], c) :: (n, b) :: fs) (nameS k' s' f') = bytesS fs (nameS k' s' f') := by
 cases h : nameS k' s' f' with
 | none => rfl
 | some n' =>
  rw [bytesS_cons, if_neg (Ne.symm (name_notM hk' h)), bytesS_cons, if_neg (name_ne hk hk' hn h hne)]
theorem putM_len {m : Mf} {c : List UInt8} (h : putM m = some c) : c.length ≤ 2000 := by
 unfold putM at h
 split at h
 ·rename_i hc
  obtain ⟨_, _, _, h4, _⟩ := checkM_b hc
  cases h
  have h1 := shorts_len (mfInts m)
  have h2 := sgInts_len m.segs
  have h3 : (mfInts m).length = 6 + (sgInts m.segs).length := by unfold mfInts; rw [List.length_append]; rfl
  rw [crcPut_len, List.length_cons]
  omega
 ·cases h
theorem tell_step {fs : List Fil} {t : Tup} {m : Mf} {k s f g : Int} (h : tellS fs = ⟨0, t, m⟩) (hi : IsTh m k s f) (hg : g = 1 ∨ g = 2) :
  ∃ b n c, shadM fs m k s f g = (0, b) ∧ 2 ≤ b.length ∧ b.length ≤ 100 ∧ nameS k s g = some n ∧ putM (turnM m k s f g) = some c ∧ c.length ≤ 2000 ∧ tellS (([77], c) :: (n, b) :: fs) = ⟨0, t, turnM m k s f g⟩ ∧ bytesS (([77], c) :: (n, b) :: fs) (some n) = some b := by
 obtain ⟨b0, st, hb0, hm0, hst, hlog, hr, rfl⟩ := tell_ok h
 have hm := (takeM_check hm0).1
 obtain ⟨hk, ⟨hs1, hs2⟩, _⟩ := isTh_ok hm hi
 have ho := turn_check hm hi hg
 have hal := turn_alike hm hi hg
 have hn := name_thing hk hs1 hs2 hg
 obtain ⟨n, hn⟩ : ∃ n, nameS k s g = some n := ⟨_, hn⟩
 obtain ⟨c, hc⟩ : ∃ c, putM (turnM m k s f g) = some c := by unfold putM; rw [if_pos ho]; exact ⟨_, rfl⟩
 have key : ∀ b, (∀ fs', fs' = ([77], c) :: (n, b) :: fs → bytesS fs' (nameS k s g) = some b → (stateS fs' (turnM m k s f g) = some st ∧ logS fs' (turnM m k s f g) st.idx = logS fs m st.idx)) → tellS (([77], c) :: (n, b) :: fs) = ⟨0, ⟨st, (logS fs m st.idx).1, m.term, m.vote⟩, turnM m k s f g⟩ ∧ bytesS (([77], c) :: (n, b) :: fs) (some n) = some b := by
  intro b hh
  have hbn : bytesS (([77], c) :: (n, b) :: fs) (some n) = some b := by
   rw [bytesS_cons, if_neg (Ne.symm (name_notM hk hn)), bytesS_cons, if_pos rfl]
  refine ⟨?_, hbn⟩
  obtain ⟨h1, h2⟩ := hh _ rfl (by rw [hn]; exact hbn)
  have hbm : bytesS (([77], c) :: (n, b) :: fs) (some [77]) = some c := by rw [bytesS_cons, if_pos rfl]
  have := tell_of hbm (takeM_put hc) h1 (by rw [h2]; exact hlog) (by rw [h2, hal.term, hal.vote]; exact hr)
  rw [this, h2, hal.term, hal.vote]
 cases hi with
 | snap hq =>
  have hst' := hst
  unfold stateS at hst'
  rw [if_neg hq] at hst'
  cases hb1 : bytesS fs (nameS 4 m.sq m.sf) with
  | none => rw [hb1] at hst'; cases hst'
  | some b1 =>
   rw [hb1] at hst'
   dsimp only at hst'
   obtain ⟨b, hsh, hp⟩ := shad_snap hq hb1 hst' hg
   have hl := putR_len hp
   obtain ⟨h1, h2⟩ := key b (fun fs' e hbn => by
    subst e
    rw [(turn_snap hq).1]
    constructor
    ·unfold stateS
     rw [if_neg hq]
     dsimp only
     rw [hbn]
     exact takeR_put hp
    ·refine logS_same rfl fun i hi hi' => ⟨?_, rfl⟩
     unfold entS13
     rw [bytes_other fs (.inr rfl) (.inl rfl) hn (by omega)])
   exact ⟨b, n, c, hsh, hl.1, hl.2, hn, hc, putM_len hc, h1, h2⟩
 | seg j hj =>
  obtain ⟨y, hy⟩ := logS_ent hlog _ (List.getElem_mem hj)
  obtain ⟨_, _, _, _, _, h6⟩ := checkM_b hm
  obtain ⟨_, hsq, hf, _, hcnt⟩ := segOk_b (h6 j hj)
  obtain ⟨hok, hcb⟩ := ent_of hy
  have hle := cnt_le hcb (by omega)
  obtain ⟨b, hsh, hsg, hl, hl2, _⟩ := shad_seg hm hj hy hg
  obtain ⟨h1, h2⟩ := key b (fun fs' e hbn => by
   subst e
   rw [(turn_seg hm hj).1]
   constructor
   ·unfold stateS at hst ⊢
    dsimp only
    rw [bytes_other fs (.inl rfl) (.inr rfl) hn (by omega)]
    exact hst
   ·refine logS_same List.length_set fun i hi hi' => ?_
    rw [set_at i hi' hi]
    by_cases e : j = i
    ·subst e
     rw [if_pos rfl]
     refine ⟨?_, rfl⟩
     rw [hy]
     exact ent_new hbn hsg (by omega) hcb
    ·rw [if_neg e]
     refine ⟨?_, rfl⟩
     unfold entS13
     rw [bytes_other fs (.inl rfl) (.inl rfl) hn (fun h => seqs_ne hm hj hi e h.2)])
  exact ⟨b, n, c, hsh, hl2, by omega, hn, hc, putM_len hc, h1, h2⟩
open Go.RowKit Go.Mv Go.Shelf
set_option maxRecDepth 100000
def mW17 : Mf := ⟨3, 0, 0, 1, 2, [⟨2, 1, 1, -1⟩]⟩
def oW17 : Mf := ⟨3, 0, 0, 1, 2, [⟨2, 2, 1, -1⟩]⟩
theorem w17_turn : turnM mW17 3 2 1 2 = oW17 := by decide
theorem w17_next : nextM mW17 2 = some (3, 2, 1) := by decide
theorem w17_no : nextM mf0 2 = none := by decide
theorem w17_find : findM mW17 3 2 1 = some (3, 2, 1, ⟨2, 1, 1, -1⟩) := by decide
theorem w17_shad : shadT [] 2 (findM mW17 3 2 1) = (130, []) := by
 rw [w17_find]
 unfold shadT
 dsimp only
 have e : sc2S [] ⟨2, 1, 1, -1⟩ 2 = [] := by
  unfold sc2S entS13
  have : bytesS [] (nameS 3 (2 : Int) 1) = none := by
   cases h : nameS 3 (2 : Int) 1 with
   | none => rfl
   | some n => rfl
  rw [this]
 rw [e]
 rfl
theorem fs_nil (W : World) : Fs W (.slice none 0 0) [] := ⟨[], SlR.nil W 2, fun i hi => absurd hi (by simp)⟩
theorem fs_one (W : World) (n b : List UInt8) (v : Value) (h : Bs W v b) : Fs (W.alloc (.cells #[sv n, v] 52)) (.slice (some ⟨W.heap.size, 0, none⟩) 1 1) [(n, b)] := by
 refine ⟨[sv n, v], ⟨rfl, _, 1, rfl, Nat.le_refl _, by simp [maxLen], fun _ => ⟨W.heap.size, 0, rfl, fun j u hu => ?_⟩⟩, fun i hi => ?_⟩
 ·rw [Nat.zero_add]
  have hb := Blk.new W 52 #[sv n, v]
  exact hb.cell j (by simpa using hu)
 ·have : i = 0 := by simp at hi; omega
  subst this
  exact ⟨rfl, v, rfl, h.ext (Ext.alloc (Ext.refl _) _)⟩
theorem field_ident (k s f : Int) (W : World) : (Instr.field 40 (.agg #[.int .u8 k, .int .i64 s, .int .i64 f]) 2).run Tryz.prog W = .ok (.int .i64 f) W := by kernel_rfl
theorem w17_name : nameS 3 2 1 = some [115, 50, 46, 49] := by
 rw [name_thing (.inl rfl) (by decide) (by decide) (.inl rfl)]
 unfold numN
 simp [Lib.decDigits]
theorem wakes17_any (w : World) (hS : StW w) : Calls Tryz.prog 7 #[] w fun e w' => e = .returned (.bool true) ∧ Ext w w' := by
 have HS := Lib.hid hS
 clear hS
 go_enter Tryz.func7, Tryz.ntmps7
 have b0 : Blk ((w.alloc (.cells #[.int .i64 2, .int .i64 1, .int .i64 1, .int .i64 (-1)] 71)).alloc (.cells #[.int .i64 3, .int .i64 0, .int .i64 0, .int .i64 1, .int .i64 2, .slice (some ⟨w.heap.size, 0, none⟩) 1 1] 32)) (w.heap.size + 1) 32 #[.int .i64 3, .int .i64 0, .int .i64 0, .int .i64 1, .int .i64 2, .slice (some ⟨w.heap.size, 0, none⟩) 1 1] := by have := Blk.new (w.alloc (.cells #[.int .i64 2, .int .i64 1, .int .i64 1, .int .i64 (-1)] 71)) 32 #[.int .i64 3, .int .i64 0, .int .i64 0, .int .i64 1, .int .i64 2, .slice (some ⟨w.heap.size, 0, none⟩) 1 1]; rwa [World.size_alloc] at this
 have g0 : Sgs ((w.alloc (.cells #[.int .i64 2, .int .i64 1, .int .i64 1, .int .i64 (-1)] 71)).alloc (.cells #[.int .i64 3, .int .i64 0, .int .i64 0, .int .i64 1, .int .i64 2, .slice (some ⟨w.heap.size, 0, none⟩) 1 1] 32)) (.slice (some ⟨w.heap.size, 0, none⟩) 1 1) mW17.segs := SlR.ext (new_segs w [⟨2, 1, 1, -1⟩] 1 rfl (by simp [maxLen])) (Ext.alloc (Ext.refl _) _)
 have E0 : Ext w ((w.alloc (.cells #[.int .i64 2, .int .i64 1, .int .i64 1, .int .i64 (-1)] 71)).alloc (.cells #[.int .i64 3, .int .i64 0, .int .i64 0, .int .i64 1, .int .i64 2, .slice (some ⟨w.heap.size, 0, none⟩) 1 1] 32)) := Ext.alloc (Ext.alloc (Ext.refl _) _) _
 have HB := Lib.hid b0
 have HG := Lib.hid g0
 have HE := Lib.hid E0
 clear b0 g0 E0
 go_wp2_with fail
 refine (NextM_any mW17 2 _ _ HG.out).mono ?_
 rw [w17_next]
 rintro e w1 ⟨rfl, e1⟩
 replace HB := Lib.hid (HB.out.ext e1)
 replace HG := Lib.hid (HG.out.ext e1)
 replace HE := Lib.hid (Ext.trans HE.out e1)
 clear e1
 have hX : Blk (w1.alloc (.cells #[.int .u8 3, .int .i64 2, .int .i64 1] 40)) w1.heap.size 40 #[.int .u8 3, .int .i64 2, .int .i64 1] := Blk.new w1 _ _
 have HX := Lib.hid hX
 clear hX
 generalize w.heap.size = nw at *
 have E1 : Ext w1 (w1.alloc (.cells #[.int .u8 3, .int .i64 2, .int .i64 1] 40)) := Ext.alloc (Ext.refl _) _
 replace HB := Lib.hid (HB.out.ext E1)
 replace HG := Lib.hid (HG.out.ext E1)
 replace HE := Lib.hid (Ext.trans HE.out E1)
 clear E1
 go_wp2_with fail
 refine (NextM_any mf0 2 _ _ (SlR.nil _ 4)).mono ?_
 rw [w17_no]
 rintro e w2 ⟨rfl, e2⟩
 have E2 := Ext.trans e2 (Ext.alloc (Ext.refl w2) (.cells #[.int .u8 0, .int .i64 0, .int .i64 0] 40))
 have hb2 := HB.out.ext E2
 have hx2 := HX.out.ext E2
 replace HG := Lib.hid (HG.out.ext E2)
 replace HE := Lib.hid (Ext.trans HE.out E2)
 replace HB := Lib.hid hb2
 replace HX := Lib.hid hx2
 clear e2 E2
 obtain ⟨m0, m1, m2, m3, m4, m5⟩ := blk6 hb2
 obtain ⟨x0, x1, x2, _, _, _⟩ := blk3 hx2
 clear hb2 hx2
 have hc := Turned_any mW17 3 2 1 2 _ _ HG.out (by decide)
 rw [w17_turn] at hc
 have HC := Lib.hid hc
 clear hc
 go_wp2_with fail
 refine (show Calls _ _ _ _ (fun e w' => ∃ v', e = .returned (.agg #[.int .i64 3, .int .i64 0, .int .i64 0, .int .i64 1, .int .i64 2, v']) ∧ OwnS w' _ v' oW17.segs ∧ Ext _ w') from HC.out).mono ?_
 rintro e w3 ⟨v3, rfl, ho3, e3⟩
 obtain ⟨A3, c3, hv, _, _⟩ := (OwnS.sgs ho3).open_
 have hv : v3 = .slice A3 1 c3 := hv
 subst hv
 have bo := Blk.new w3 32 #[.int .i64 3, .int .i64 0, .int .i64 0, .int .i64 1, .int .i64 2, .slice A3 1 c3]
 have go : Sgs (w3.alloc (.cells #[.int .i64 3, .int .i64 0, .int .i64 0, .int .i64 1, .int .i64 2, .slice A3 1 c3] 32)) (.slice A3 1 c3) oW17.segs := (OwnS.sgs ho3).ext (Ext.alloc (Ext.refl _) _)
 have E3 := Ext.trans e3 (Ext.alloc (Ext.refl w3) (.cells #[.int .i64 3, .int .i64 0, .int .i64 0, .int .i64 1, .int .i64 2, .slice A3 1 c3] 32))
 have hb3 := HB.out.ext E3
 have hx3 := HX.out.ext E3
 replace HG := Lib.hid (HG.out.ext E3)
 replace HE := Lib.hid (Ext.trans HE.out E3)
 replace HB := Lib.hid hb3
 replace HX := Lib.hid hx3
 have HBO := Lib.hid bo
 have HGO := Lib.hid go
 clear e3 E3 m0 m1 m2 m3 m4 m5 x0 x1 x2 HC bo go ho3
 obtain ⟨m0, m1, m2, m3, m4, m5⟩ := blk6 hb3
 obtain ⟨x0, x1, x2, _, _, _⟩ := blk3 hx3
 clear hb3 hx3
 have hc := Shad_ok _ _ [] mW17 3 2 1 2 _ (HS.out.ext HE.out) (fs_nil _) HG.out (by decide) (by simp) (by decide) (.inr rfl)
 rw [w17_shad] at hc
 have HC := Lib.hid hc
 clear hc
 go_wp2_with fail
 refine HC.out.mono ?_
 rintro e w4 ⟨v4, rfl, _, e4⟩
 have hb4 := HB.out.ext e4
 have hx4 := HX.out.ext e4
 have hbo4 := HBO.out.ext e4
 replace HG := Lib.hid (HG.out.ext e4)
 replace HGO := Lib.hid (HGO.out.ext e4)
 replace HE := Lib.hid (Ext.trans HE.out e4)
 replace HB := Lib.hid hb4
 replace HX := Lib.hid hx4
 replace HBO := Lib.hid hbo4
 clear e4 m0 m1 m2 m3 m4 m5 x0 x1 x2 HC
 obtain ⟨m0, m1, m2, m3, m4, m5⟩ := blk6 hb4
 obtain ⟨x0, x1, x2, _, _, _⟩ := blk3 hx4
 clear hb4 hx4 hbo4
 have hc := Shad_bad _ _ [] mW17 3 2 1 3 _ (fs_nil _) HG.out (by decide)
 have HC := Lib.hid hc
 clear hc
 go_wp2_with fail
 refine HC.out.mono ?_
 rintro e w5 ⟨v5, rfl, _, e5⟩
 have hb5 := HB.out.ext e5
 have hx5 := HX.out.ext e5
 have hbo5 := HBO.out.ext e5
 replace HG := Lib.hid (HG.out.ext e5)
 replace HGO := Lib.hid (HGO.out.ext e5)
 replace HE := Lib.hid (Ext.trans HE.out e5)
 replace HB := Lib.hid hb5
 replace HX := Lib.hid hx5
 replace HBO := Lib.hid hbo5
 clear e5 m0 m1 m2 m3 m4 m5 x0 x1 x2 HC
 obtain ⟨m0, m1, m2, m3, m4, m5⟩ := blk6 hb5
 obtain ⟨x0, x1, x2, _, _, _⟩ := blk3 hx5
 clear hb5 hx5
 obtain ⟨o0, o1, o2, o3, o4, o5⟩ := blk6 hbo5
 clear hbo5
 go_wp2_with fail
 refine (show Calls _ _ _ _ (fun e w' => e = .returned (.int .i64 0) ∧ Ext w5 w') from Left_any mf0 1 _ _ (SlR.nil _ 4) (by decide)).mono ?_
 rintro e w6 ⟨rfl, e6⟩
 have hb6 := HB.out.ext e6
 have hx6 := HX.out.ext e6
 have hbo6 := HBO.out.ext e6
 replace HG := Lib.hid (HG.out.ext e6)
 replace HGO := Lib.hid (HGO.out.ext e6)
 replace HE := Lib.hid (Ext.trans HE.out e6)
 replace HB := Lib.hid hb6
 replace HX := Lib.hid hx6
 replace HBO := Lib.hid hbo6
 clear e6 m0 m1 m2 m3 m4 m5 x0 x1 x2 o0 o1 o2 o3 o4 o5
 obtain ⟨m0, m1, m2, m3, m4, m5⟩ := blk6 hb6
 obtain ⟨x0, x1, x2, _, _, _⟩ := blk3 hx6
 obtain ⟨o0, o1, o2, o3, o4, o5⟩ := blk6 hbo6
 clear hb6 hx6 hbo6
 go_wp2_with fail
 refine (show Calls _ _ _ _ (fun e w' => e = .returned (.int .i64 1) ∧ Ext w6 w') from Left_any mW17 1 _ _ HG.out (by decide)).mono ?_
 rintro e w7 ⟨rfl, e7⟩
 have hb7 := HB.out.ext e7
 have hx7 := HX.out.ext e7
 have hbo7 := HBO.out.ext e7
 replace HG := Lib.hid (HG.out.ext e7)
 replace HGO := Lib.hid (HGO.out.ext e7)
 replace HE := Lib.hid (Ext.trans HE.out e7)
 replace HB := Lib.hid hb7
 replace HX := Lib.hid hx7
 replace HBO := Lib.hid hbo7
 clear e7 m0 m1 m2 m3 m4 m5 x0 x1 x2 o0 o1 o2 o3 o4 o5 
 obtain ⟨m0, m1, m2, m3, m4, m5⟩ := blk6 hb7
 obtain ⟨x0, x1, x2, _, _, _⟩ := blk3 hx7
 obtain ⟨o0, o1, o2, o3, o4, o5⟩ := blk6 hbo7
 clear hb7 hx7 hbo7
 go_wp2_with fail
 refine (show Calls _ _ _ _ (fun e w' => e = .returned (.int .i64 0) ∧ Ext w7 w') from Left_any oW17 2 _ _ HGO.out (by decide)).mono ?_
 rintro e w8 ⟨rfl, e8⟩
 have hb8 := HB.out.ext e8
 have hx8 := HX.out.ext e8
 have hbo8 := HBO.out.ext e8
 replace HG := Lib.hid (HG.out.ext e8)
 replace HGO := Lib.hid (HGO.out.ext e8)
 replace HE := Lib.hid (Ext.trans HE.out e8)
 replace HB := Lib.hid hb8
 replace HX := Lib.hid hx8
 replace HBO := Lib.hid hbo8
 clear e8 m0 m1 m2 m3 m4 m5 x0 x1 x2 o0 o1 o2 o3 o4 o5 
 obtain ⟨m0, m1, m2, m3, m4, m5⟩ := blk6 hb8
 obtain ⟨x0, x1, x2, _, _, _⟩ := blk3 hx8
 obtain ⟨o0, o1, o2, o3, o4, o5⟩ := blk6 hbo8
 clear hb8 hx8 hbo8
 go_wp2_with fail
 refine (Of_any 3 2 1 2 w8).mono ?_
 rintro e w9 ⟨rfl, e9⟩
 have hb9 := HB.out.ext e9
 have hx9 := HX.out.ext e9
 have hbo9 := HBO.out.ext e9
 replace HG := Lib.hid (HG.out.ext e9)
 replace HGO := Lib.hid (HGO.out.ext e9)
 replace HE := Lib.hid (Ext.trans HE.out e9)
 replace HB := Lib.hid hb9
 replace HX := Lib.hid hx9
 replace HBO := Lib.hid hbo9
 clear e9 m0 m1 m2 m3 m4 m5 x0 x1 x2 o0 o1 o2 o3 o4 o5 
 obtain ⟨m0, m1, m2, m3, m4, m5⟩ := blk6 hb9
 obtain ⟨x0, x1, x2, _, _, _⟩ := blk3 hx9
 obtain ⟨o0, o1, o2, o3, o4, o5⟩ := blk6 hbo9
 clear hb9 hx9 hbo9
 have f9 : Fs ((w9.alloc (.cells #[.int .u8 7] 5)).alloc (.cells #[sv [115, 50, 46, 49], .slice (some ⟨w9.heap.size, 0, none⟩) 1 1] 52)) (.slice (some ⟨w9.heap.size + 1, 0, none⟩) 1 1) [([115, 50, 46, 49], [7])] := by
  have := fs_one (w9.alloc (.cells #[.int .u8 7] 5)) [115, 50, 46, 49] [7] _ (bs1T w9 7 7 rfl)
  rwa [World.size_alloc] at this
 have E9 : Ext w9 ((w9.alloc (.cells #[.int .u8 7] 5)).alloc (.cells #[sv [115, 50, 46, 49], .slice (some ⟨w9.heap.size, 0, none⟩) 1 1] 52)) := Ext.alloc (Ext.alloc (Ext.refl _) _) _
 obtain ⟨y0, y1, y2, _, _, _⟩ := blk3 (HX.out.ext E9)
 have F9 := Lib.hid f9
 have X9 := Lib.hid E9
 clear f9 E9
 simp only [sv] at y0 y1 y2
 have hfi := field_ident 3 2 2 w9
 go_wp2_with fail
 clear hfi m0 m1 m2 m3 m4 m5 x0 x1 x2 o0 o1 o2 o3 o4 o5 y0 y1 y2
 have hE10 : Ext w9 (((w9.alloc (.cells #[.int .u8 7] 5)).alloc (.cells #[sv [115, 50, 46, 49], .slice (some ⟨w9.heap.size, 0, none⟩) 1 1] 52)).alloc (.cells #[.int .u8 7] 5)) := Ext.alloc X9.out _
 have hb := bs1T ((w9.alloc (.cells #[.int .u8 7] 5)).alloc (.cells #[sv [115, 50, 46, 49], .slice (some ⟨w9.heap.size, 0, none⟩) 1 1] 52)) 7 7 rfl
 rw [World.size_alloc, World.size_alloc] at hb
 have hc := Says_any _ _ [([115, 50, 46, 49], [7])] 3 2 1 [7] _ (HS.out.ext (Ext.trans HE.out hE10)) (F9.out.ext (Ext.alloc (Ext.refl _) _)) hb (by decide)
 have hd : decide (bytesS [([115, 50, 46, 49], [7])] (nameS 3 2 1) = some [7]) = true := by
  rw [w17_name, bytesS_cons, if_pos rfl]
  rfl
 rw [hd] at hc
 refine Calls.mono hc ?_
 rintro e w10 ⟨rfl, e10⟩
 have hz := Lib.hid (Ext.trans HE.out (Ext.trans hE10 e10))
 clear hd hc hb hE10 e10
 go_wp2_with fail
 go_ret
 exact ⟨rfl, hz.out⟩
open Go.RowKit Go.Mv Go.Shelf
set_option maxRecDepth 100000
theorem info_fil : (Tryz.prog.info? 52).map (fun i => (i.zero, i.size, i.bytes)) = some (some (.agg #[.string ⟨#[]⟩, .slice none 0 0]), 2, 40) := by kernel_rfl
def FRow (W : World) (xs : List Value) (fs : List Fil) : Prop := xs.length = fs.length * 2 ∧ ∀ (i : Nat) (hi : i < fs.length), xs[i * 2]? = some (sv fs[i].1) ∧ ∃ u, xs[i * 2 + 1]? = some u ∧ Bs W u fs[i].2
theorem FRow.ext {W W' : World} {xs : List Value} {fs : List Fil} (h : FRow W xs fs) (hE : Ext W W') : FRow W' xs fs := ⟨h.1, fun i hi => by
 obtain ⟨h3, u, h4, h5⟩ := h.2 i hi
 exact ⟨h3, u, h4, h5.ext hE⟩⟩
theorem FRow.one {W : World} {xs : List Value} {fs : List Fil} (h : FRow W xs fs) : ∀ u ∈ xs, u.oneCell' = true := by
 intro u hu
 obtain ⟨j, hj, rfl⟩ := List.mem_iff_getElem.1 hu
 have hl := h.1
 obtain ⟨h3, v, h4, h5⟩ := h.2 (j / 2) (by omega)
 rcases Nat.mod_two_eq_zero_or_one j with hm | hm
 ·have e : j / 2 * 2 = j := by omega
  rw [e, List.getElem?_eq_getElem hj] at h3
  injection h3 with h3
  rw [h3]
  rfl
 ·have e : j / 2 * 2 + 1 = j := by omega
  rw [e, List.getElem?_eq_getElem hj] at h4
  injection h4 with h4
  rw [h4]
  obtain ⟨A, c, rfl, _, _⟩ := SlR.open_ h5
  rfl
theorem FRow.append {W : World} {xs ys : List Value} {fs gs : List Fil} (h1 : FRow W xs fs) (h2 : FRow W ys gs) : FRow W (xs ++ ys) (fs ++ gs) := by
 refine ⟨by rw [List.length_append, List.length_append, h1.1, h2.1]; omega, fun i hi => ?_⟩
 have hl := h1.1
 rw [List.length_append] at hi
 by_cases h : i < fs.length
 ·rw [List.getElem?_append_left (by omega), List.getElem?_append_left (by omega)]
  simp only [List.getElem_append_left h]
  exact h1.2 i h
 ·have e1 : i * 2 - xs.length = (i - fs.length) * 2 := by omega
  have e2 : i * 2 + 1 - xs.length = (i - fs.length) * 2 + 1 := by omega
  rw [List.getElem?_append_right (by omega), List.getElem?_append_right (by omega), e1, e2]
  simp only [List.getElem_append_right (Nat.le_of_not_lt h)]
  exact h2.2 (i - fs.length) (by omega)
theorem FRow.two {W : World} {n1 n2 b1 b2 : List UInt8} {v1 v2 : Value} (h1 : Bs W v1 b1) (h2 : Bs W v2 b2) : FRow W [sv n1, v1, sv n2, v2] [(n1, b1), (n2, b2)] := by
 refine ⟨rfl, fun i hi => ?_⟩
 match i, hi with
 | 0, _ => exact ⟨rfl, v1, rfl, h1⟩
 | 1, _ => exact ⟨rfl, v2, rfl, h2⟩
theorem own_newF (w : World) (cs : List Value) (m : Nat) (hm : cs.length = m * 2) (hl : m ≤ maxLen) {base : Nat} (hb : base ≤ w.heap.size) : (w.alloc (.cells cs.toArray 52)).ownsRow base 52 2 (.slice (some ⟨w.heap.size, 0, none⟩) m m) m cs :=
 ⟨hm, .inr ⟨w.heap.size, m, cs.toArray, rfl, hb, heap_alloc_new w _, Nat.le_refl _, hl, by simp [hm], by simp [← hm]⟩⟩
theorem wpList_app_f {ops : Array Oper} {rest : List Oper} {o : Oper} {a : Act} {w : World} {Q : Exit → Act → World → Prop} (hgd : o.guard = none) (s x : Operand)
  (ho : o.op = .call { callee := .builtin .append, args := #[s, x], argTypes := #[22, 22] })
  (W0 : World) (hE0 : Ext W0 w) (v : Value) (fs : List Fil) (xs : List Value) (hs : a.eval s = v) (hown : w.ownsRow W0.heap.size 52 2 v fs.length xs) (hr : FRow W0 xs fs)
  (vx : Value) (gs : List Fil) (hx : a.eval x = vx) (hF : Fs W0 vx gs) (hlen : fs.length + gs.length ≤ 2000000)
  (h : ∀ A c w', Fs w' (.slice A (fs.length + gs.length) c) (fs ++ gs) → Ext W0 w' → wpList Tryz.prog ops Q rest (a.put o.dst (.slice A (fs.length + gs.length) c)) w') : wpList Tryz.prog ops Q (o :: rest) a w := by
 obtain ⟨ys, hy, hyr⟩ := hF
 have hyr : FRow W0 ys gs := ⟨hy.1, hyr⟩
 obtain ⟨i0, hi, hz0, hz1, hz2⟩ := info_parts info_fil
 refine wpList_append_sl _ hgd s x 22 ho W0.heap.size 52 i0 _ 2 40 Tryz.underlying22 hi hz0 hz1 hz2 rfl (by decide) v fs.length xs hs hown vx gs.length ys hx (hy.ext hE0) hyr.one (by unfold maxLen; omega) (by omega) hE0.size ?_
 intro v' w' h1 h2
 have hE : Ext W0 w' := Ext.grownOwn hE0 (own_base hown (Nat.le_refl _)) h2
 have hS := SlR.of_own h1
 obtain ⟨A, c, rfl, _, _⟩ := SlR.open_ hS
 refine h A c w' ⟨xs ++ ys, ?_, ((hr.append hyr).ext hE).2⟩ hE
 rw [List.length_append]
 exact hS
/-! A manifest laid into an old box -/
theorem cell_set6 {W : World} {b : Nat} {p : Addr} {u : Value} (h : W.cell? p = some u) (hp : p.block ≠ b) (a' v' u' x' y' z' : Value) : (set6 W b a' v' u' x' y' z').cell? p = some u := by
 have hh : (set6 W b a' v' u' x' y' z').heap[p.block]? = W.heap[p.block]? := by
  unfold set6
  rw [Below.heap_setCell _ _ _ _ hp, Below.heap_setCell _ _ _ _ hp, Below.heap_setCell _ _ _ _ hp, Below.heap_setCell _ _ _ _ hp, Below.heap_setCell _ _ _ _ hp, Below.heap_setCell _ _ _ _ hp]
 unfold World.cell? at h ⊢
 rw [hh]
 exact h
theorem blk_inv {W : World} {b : Nat} {t : TypeId} {cs : Array Value} (h : Blk W b t cs) {k : Nat} {u : Value} (hc : W.cell? ⟨b, k, none⟩ = some u) : cs[k]? = some u := by
 simpa [World.cell?, show W.heap[b]? = _ from h] using hc
theorem mf_cell {a1 a2 a3 a4 a5 : Int} {A : Option Addr} {n c k : Nat} {u : Value} (h : (#[.int .i64 a1, .int .i64 a2, .int .i64 a3, .int .i64 a4, .int .i64 a5, .slice A n c] : Array Value)[k]? = some u) : (∃ x, u = .int .i64 x) ∨ ∃ A n c, u = .slice A n c := by
 match k, h with
 | 0, h | 1, h | 2, h | 3, h | 4, h => exact .inl ⟨_, by injection h with h; exact h.symm⟩
 | 5, h => exact .inr ⟨_, _, _, by injection h with h; exact h.symm⟩
 | k + 6, h => simp at h
theorem Fs.set6 {W : World} {b : Nat} {t : TypeId} {a1 a2 a3 a4 a5 : Int} {A : Option Addr} {n c : Nat} (hb : Blk W b t #[.int .i64 a1, .int .i64 a2, .int .i64 a3, .int .i64 a4, .int .i64 a5, .slice A n c]) {v : Value} {fs : List Fil} (h : Fs W v fs) (a' v' u' x' y' z' : Value) : Fs (set6 W b a' v' u' x' y' z') v fs := by
 obtain ⟨vs, h1, h2⟩ := h
 refine ⟨vs, ?_, fun i hi => ?_⟩
 ·obtain ⟨hl, A', c', rfl, hc1, hc2, hc⟩ := h1
  refine ⟨hl, A', c', rfl, hc1, hc2, fun h0 => ?_⟩
  obtain ⟨b', off, rfl, hcell⟩ := hc h0
  refine ⟨b', off, rfl, fun j u hu => cell_set6 (hcell j u hu) ?_ _ _ _ _ _ _⟩
  rintro rfl
  rcases mf_cell (blk_inv hb (hcell 0 _ (h2 0 h0).1)) with ⟨x, hx⟩ | ⟨_, _, _, hx⟩ <;> cases hx
 ·obtain ⟨h3, u, h4, h5⟩ := h2 i hi
  refine ⟨h3, u, h4, ?_⟩
  obtain ⟨hl, A', c', rfl, hc1, hc2, hc⟩ := h5
  refine ⟨hl, A', c', rfl, hc1, hc2, fun h0 => ?_⟩
  obtain ⟨b', off, rfl, hcell⟩ := hc h0
  refine ⟨b', off, rfl, fun j u hu => cell_set6 (hcell j u hu) ?_ _ _ _ _ _ _⟩
  rintro rfl
  rcases mf_cell (blk_inv hb (hcell 0 _ (by rw [List.getElem?_map, List.getElem?_eq_getElem h0]; rfl))) with ⟨x, hx⟩ | ⟨_, _, _, hx⟩ <;> cases hx
end Go.Proofs.YtmecffckghkahaaGreatDoor
