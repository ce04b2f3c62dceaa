/-
  Plain facts: what is put is taken, and what is taken is what was put: numbers, entries, blocks, segments.
  The walk of slices.Chunk's iterator over integers, by threes.
-/
import Derived.Test.YtfjcnpigpkcfgaaGreatM8
set_option linter.all false
namespace Go.Proofs.YtfjcnpigpkcfgaaGreat
open Go.RowKit Go.Mv
set_option maxRecDepth 100000

/-- The value of digits of 7 bits, behind n. -/
def val7 (n : Nat) (hs : List UInt8) : Nat := hs.foldl (fun a x => a * 128 + x.toNat % 128) n
theorem val7_snoc (n : Nat) (hs : List UInt8) (x : UInt8) : val7 n (hs ++ [x]) = val7 n hs * 128 + x.toNat % 128 := by unfold val7; rw [List.foldl_append]; rfl
theorem val7_cons (n : Nat) (hs : List UInt8) (x : UInt8) : val7 n (x :: hs) = val7 (n * 128 + x.toNat % 128) hs := rfl

theorem takeGo_ok (f n : Nat) (l : List UInt8) (m : Nat) (r : List UInt8) (h : takeGo f n l = (0, m, r)) :
    ∃ hs b, l = hs ++ b :: r ∧ hs.length + 1 ≤ f ∧ (∀ x ∈ hs, 128 ≤ x.toNat) ∧ b.toNat < 128 ∧ m = val7 n hs * 128 + b.toNat ∧ m ≤ 1073741824 := by
  induction f generalizing n l with
  | zero => simp [takeGo] at h
  | succ f ih =>
    cases l with
    | nil => simp [takeGo] at h
    | cons b l =>
      rw [takeGo] at h
      by_cases hb : 128 ≤ b.toNat
      · rw [if_pos hb] at h
        obtain ⟨hs, c, rfl, h1, h2, h3, h4, h5⟩ := ih _ _ h
        refine ⟨b :: hs, c, rfl, by simp; omega, ?_, h3, h4, h5⟩
        intro x hx
        rcases List.mem_cons.1 hx with rfl | hx
        · exact hb
        · exact h2 x hx
      · rw [if_neg hb] at h
        split at h
        · rename_i hm
          simp only [Prod.mk.injEq, true_and] at h
          obtain ⟨rfl, rfl⟩ := h
          exact ⟨[], b, rfl, by simp, by simp, by omega, by show _ = n * 128 + _; omega, hm⟩
        · simp at h

theorem takeGo_put (f n : Nat) (hs : List UInt8) (b : UInt8) (r : List UInt8) (h1 : hs.length + 1 ≤ f) (h2 : ∀ x ∈ hs, 128 ≤ x.toNat) (h3 : b.toNat < 128) :
    takeGo f n (hs ++ b :: r) = if val7 n hs * 128 + b.toNat ≤ 1073741824 then (0, val7 n hs * 128 + b.toNat, r) else (11, 0, []) := by
  induction hs generalizing f n with
  | nil =>
    obtain ⟨f, rfl⟩ : ∃ g, f = g + 1 := ⟨f - 1, by simp at h1; omega⟩
    rw [List.nil_append, takeGo, if_neg (by omega), show b.toNat % 128 = b.toNat from by omega]
    rfl
  | cons x hs ih =>
    obtain ⟨f, rfl⟩ : ∃ g, f = g + 1 := ⟨f - 1, by simp at h1; omega⟩
    rw [List.cons_append, takeGo, if_pos (h2 x (by simp)), ih f _ (by simp at h1; omega) (fun y hy => h2 y (by simp [hy]))]
    rfl

theorem hiB_pos {f m : Nat} (hm : m ≠ 0) : hiB (f + 1) m = hiB f (m / 128) ++ [UInt8.ofNat (m % 128 + 128)] := by rw [hiB, if_neg hm]
theorem hi_byte (m : Nat) : (UInt8.ofNat (m % 128 + 128)).toNat = m % 128 + 128 := by
  rw [UInt8.toNat_ofNat']; omega
theorem hiB_all (f v : Nat) : ∀ x ∈ hiB f v, 128 ≤ x.toNat := by
  induction f generalizing v with
  | zero => simp [hiB]
  | succ f ih =>
    by_cases h0 : v = 0
    · subst h0; rw [hiB_zero]; simp
    · rw [hiB_pos h0]
      intro x hx
      rcases List.mem_append.1 hx with hx | hx
      · exact ih _ x hx
      · have : x = UInt8.ofNat (v % 128 + 128) := by simpa using hx
        subst this; rw [hi_byte]; omega
theorem hiB_val (f v : Nat) (h : v < 128 ^ f) : val7 0 (hiB f v) = v := by
  induction f generalizing v with
  | zero =>
    have : v = 0 := by simpa using h
    subst this; rfl
  | succ f ih =>
    by_cases h0 : v = 0
    · subst h0; rw [hiB_zero]; rfl
    · rw [hiB_pos h0, val7_snoc, ih _ (by rw [Nat.pow_succ] at h; omega), hi_byte]
      omega
theorem hiB_len (f k v : Nat) (h : v < 128 ^ k) : (hiB f v).length ≤ k := by
  induction f generalizing v k with
  | zero => simp [hiB]
  | succ f ih =>
    by_cases h0 : v = 0
    · subst h0; rw [hiB_zero]; simp
    · rw [hiB_pos h0, List.length_append]
      cases k with
      | zero => simp at h; omega
      | succ k =>
        have := ih k (v / 128) (by rw [Nat.pow_succ] at h; omega)
        simp; omega
theorem hiB_head (f v : Nat) (h : v < 128 ^ f) : (hiB f v).head? ≠ some 128 := by
  induction f generalizing v with
  | zero => simp [hiB]
  | succ f ih =>
    by_cases h0 : v = 0
    · subst h0; rw [hiB_zero]; simp
    · rw [hiB_pos h0]
      by_cases h1 : v / 128 = 0
      · rw [h1, hiB_zero]
        intro e
        have e2 : UInt8.ofNat (v % 128 + 128) = 128 := by simpa using e
        have e3 := congrArg UInt8.toNat e2
        rw [hi_byte] at e3
        have : (128 : UInt8).toNat = 128 := rfl
        omega
      · have hne : hiB f (v / 128) ≠ [] := by
          cases f with
          | zero => simp at h; omega
          | succ f => rw [hiB_pos h1]; simp
        have hi := ih (v / 128) (by rw [Nat.pow_succ] at h; omega)
        cases hq : hiB f (v / 128) with
        | nil => exact absurd hq hne
        | cons y ys => rw [hq] at hi; simpa using hi
theorem val7_ge (n : Nat) (hs : List UInt8) : n ≤ val7 n hs := by
  induction hs generalizing n with
  | nil => exact Nat.le_refl _
  | cons x hs ih => rw [val7_cons]; exact Nat.le_trans (by omega) (ih _)
theorem val7_pos {hs : List UInt8} (hne : hs ≠ []) (h1 : ∀ x ∈ hs, 128 ≤ x.toNat) (h2 : hs.head? ≠ some 128) : val7 0 hs ≠ 0 := by
  cases hs with
  | nil => exact absurd rfl hne
  | cons x hs =>
    rw [val7_cons]
    have hx : x.toNat ≠ 128 := fun e => h2 (by simp; apply UInt8.toNat_inj.1; simpa using e)
    have h := h1 x (by simp)
    have hl := x.toNat_lt
    have := val7_ge (0 * 128 + x.toNat % 128) hs
    omega
theorem hiB_of (f : Nat) (hs : List UInt8) (hl : hs.length ≤ f) (h1 : ∀ x ∈ hs, 128 ≤ x.toNat) (h2 : hs.head? ≠ some 128) : hiB f (val7 0 hs) = hs := by
  induction f generalizing hs with
  | zero =>
    have : hs = [] := List.eq_nil_of_length_eq_zero (by omega)
    subst this; rfl
  | succ f ih =>
    by_cases h0 : hs = []
    · subst h0; rfl
    · have hp := val7_pos h0 h1 h2
      obtain ⟨ys, y, rfl⟩ : ∃ ys y, hs = ys ++ [y] := ⟨hs.dropLast, hs.getLast h0, (List.dropLast_concat_getLast h0).symm⟩
      rw [hiB_pos hp, val7_snoc]
      have hy := h1 y (by simp)
      have hyl := y.toNat_lt
      have e1 : (val7 0 ys * 128 + y.toNat % 128) / 128 = val7 0 ys := by omega
      have e2 : (val7 0 ys * 128 + y.toNat % 128) % 128 + 128 = y.toNat := by omega
      rw [e1, e2, ih ys (by simp at hl; omega) (fun x hx => h1 x (by simp [hx])) ?_, UInt8.ofNat_toNat]
      cases ys with
      | nil => simp
      | cons z ys => simpa using h2

theorem short1_spec (n : Nat) (hn : n ≤ 1073741824) : ∃ hs b, short1 n = hs ++ [b] ∧ hs.length ≤ 4 ∧ (∀ x ∈ hs, 128 ≤ x.toNat) ∧ b.toNat < 128 ∧ hs.head? ≠ some 128 ∧ n = val7 0 hs * 128 + b.toNat := by
  have hb : (UInt8.ofNat (n % 128)).toNat = n % 128 := by rw [UInt8.toNat_ofNat']; omega
  have h5 : n / 128 < 128 ^ 5 := by have : (128 : Nat) ^ 5 = 34359738368 := by decide
                                    omega
  have h4 : n / 128 < 128 ^ 4 := by have : (128 : Nat) ^ 4 = 268435456 := by decide
                                    omega
  exact ⟨hiB 5 (n / 128), UInt8.ofNat (n % 128), short1_eq n hn, hiB_len 5 4 _ h4, hiB_all _ _, by omega, hiB_head _ _ h5, by rw [hiB_val _ _ h5, hb]; omega⟩

theorem takeS_put (n : Nat) (hn : n ≤ 1073741824) (r : List UInt8) : takeS (short1 n ++ r) = (0, n, r) := by
  obtain ⟨hs, b, hsp, h1, h2, h3, h4, h5⟩ := short1_spec n hn
  rw [hsp, List.append_assoc]
  unfold takeS
  have hh : (hs ++ ([b] ++ r)).head? ≠ some 128 := by
    cases hs with
    | nil =>
      intro e
      have : b = 128 := by simpa using e
      subst this
      exact absurd h3 (by decide)
    | cons x hs => simpa using h4
  rw [if_neg hh]
  rw [show hs ++ ([b] ++ r) = hs ++ b :: r from rfl, takeGo_put 5 0 hs b r (by omega) h2 h3, ← h5, if_pos hn]

theorem takeS_ok {l : List UInt8} {m : Nat} {r : List UInt8} (h : takeS l = (0, m, r)) : l = short1 m ++ r ∧ m ≤ 1073741824 := by
  unfold takeS at h
  split at h
  · simp at h
  · rename_i hh
    obtain ⟨hs, b, rfl, h1, h2, h3, h4, h5⟩ := takeGo_ok _ _ _ _ _ h
    have hh2 : hs.head? ≠ some 128 := by
      cases hs with
      | nil => simp
      | cons x hs => simpa using hh
    refine ⟨?_, h5⟩
    have hd : m / 128 = val7 0 hs := by omega
    have hm : m % 128 = b.toNat := by omega
    rw [short1_eq m h5, hd, hm, hiB_of 5 hs (by omega) h2 hh2, UInt8.ofNat_toNat, List.append_assoc]
    rfl
theorem takeS_iff (l : List UInt8) (m : Nat) (r : List UInt8) : takeS l = (0, m, r) ↔ m ≤ 1073741824 ∧ l = short1 m ++ r :=
  ⟨fun h => ⟨(takeS_ok h).2, (takeS_ok h).1⟩, fun ⟨h1, h2⟩ => by rw [h2, takeS_put m h1]⟩

theorem takesGo_put (l : List Int) (hl : allNum l = true) (acc : List Int) (r : List UInt8) : takesGo l.length acc (shorts l ++ r) = (0, acc ++ l, r) := by
  induction l generalizing acc with
  | nil => simp [takesGo, shorts]
  | cons n l ih =>
    have hn : numB n = true ∧ allNum l = true := by simpa [allNum] using hl
    obtain ⟨hn, hl'⟩ := hn
    have hn' := numB_true.1 hn
    have e : takeS (shorts (n :: l) ++ r) = (0, n.toNat, shorts l ++ r) := by
      rw [show shorts (n :: l) ++ r = short1 n.toNat ++ (shorts l ++ r) from by simp [shorts]]
      exact takeS_put _ (by omega) _
    rw [List.length_cons, takesGo, e]
    simp only [if_true]
    rw [ih hl', show ((n.toNat : Nat) : Int) = n from by omega, List.append_assoc]
    rfl

theorem takesGo_ok (k : Nat) (acc : List Int) (bs : List UInt8) (l : List Int) (r : List UInt8) (h : takesGo k acc bs = (0, l, r)) :
    ∃ l', l = acc ++ l' ∧ l'.length = k ∧ allNum l' = true ∧ bs = shorts l' ++ r := by
  induction k generalizing acc bs with
  | zero =>
    simp only [takesGo, Prod.mk.injEq, true_and] at h
    obtain ⟨rfl, rfl⟩ := h
    exact ⟨[], by simp, rfl, rfl, rfl⟩
  | succ k ih =>
    rw [takesGo] at h
    rcases ht : takeS bs with ⟨e, m, r1⟩
    rw [ht] at h
    dsimp only at h
    by_cases he : e = 0
    · subst he
      rw [if_pos rfl] at h
      obtain ⟨h1, h2⟩ := takeS_ok ht
      obtain ⟨l', rfl, h3, h4, h5⟩ := ih _ _ h
      refine ⟨(m : Int) :: l', by simp, by simp [h3], ?_, ?_⟩
      · simp only [allNum, List.all_cons, Bool.and_eq_true] at h4 ⊢
        exact ⟨numB_true.2 ⟨by omega, by omega⟩, h4⟩
      · rw [h1, h5]; simp [shorts]
    · rw [if_neg he] at h
      simp at h; exact absurd h.1 he

/-- Entries' numbers; entries of numbers. -/
def entInts (es : List Ent) : List Int := es.flatMap fun e => [e.t, e.k, e.v]
def trip : List Int → List Ent
  | t :: k :: v :: l => ⟨t, k, v⟩ :: trip l
  | _ => []
theorem trip_ints (es : List Ent) : trip (entInts es) = es := by
  induction es with
  | nil => rfl
  | cons e es ih => rw [show entInts (e :: es) = e.t :: e.k :: e.v :: entInts es from rfl, trip, ih]
theorem entInts_len (es : List Ent) : (entInts es).length = 3 * es.length := by
  induction es with
  | nil => rfl
  | cons e es ih => rw [show entInts (e :: es) = e.t :: e.k :: e.v :: entInts es from rfl]; simp [ih]; omega
theorem ints_trip (k : Nat) (l : List Int) (h : l.length = 3 * k) : entInts (trip l) = l ∧ (trip l).length = k := by
  induction k generalizing l with
  | zero =>
    have : l = [] := List.eq_nil_of_length_eq_zero (by omega)
    subst this; exact ⟨rfl, rfl⟩
  | succ k ih =>
    match l, h with
    | t :: k' :: v :: l, h =>
      obtain ⟨h1, h2⟩ := ih l (by simp at h; omega)
      rw [trip]
      exact ⟨by rw [show entInts (⟨t, k', v⟩ :: trip l) = t :: k' :: v :: entInts (trip l) from rfl, h1], by simp [h2]⟩
theorem shorts_app (a b : List Int) : shorts (a ++ b) = shorts a ++ shorts b := by simp [shorts]
theorem shorts_ints (es : List Ent) : shorts (entInts es) = es.flatMap entS := by
  induction es with
  | nil => rfl
  | cons e es ih => rw [show entInts (e :: es) = [e.t, e.k, e.v] ++ entInts es from rfl, shorts_app, ih]; rfl
theorem allNum_ints {es : List Ent} (h : allOk es = true) : allNum (entInts es) = true := by
  induction es with
  | nil => rfl
  | cons e es ih =>
    have he : e.ok = true ∧ allOk es = true := by simpa [allOk] using h
    have h1 := ok_nums he.1
    have h2 := ih he.2
    simp only [allNum, List.all_eq_true] at h1 h2 ⊢
    intro x hx
    rcases List.mem_append.1 (show x ∈ [e.t, e.k, e.v] ++ entInts es from hx) with hx | hx
    · exact h1 x hx
    · exact h2 x hx

/-- What a block's beginning tells: its entries, and what stands behind. -/
def takenS : List UInt8 → Option (List Ent × List UInt8)
  | [] => none
  | c :: r => if c.toNat = 0 ∨ 4 < c.toNat then none else if (takesGo (3 * c.toNat) [] r).1 = 0 ∧ allOk (trip (takesGo (3 * c.toNat) [] r).2.1) = true then some (trip (takesGo (3 * c.toNat) [] r).2.1, (takesGo (3 * c.toNat) [] r).2.2) else none
theorem blkOk_iff (es : List Ent) : blkOk es = true ↔ (0 < es.length ∧ es.length ≤ 4) ∧ allOk es = true := by simp [blkOk]
theorem takenS_put {es : List Ent} (h : blkOk es = true) (r : List UInt8) : takenS (blkBody es ++ r) = some (es, r) := by
  obtain ⟨⟨h1, h2⟩, h3⟩ := (blkOk_iff es).1 h
  have hc : (UInt8.ofNat es.length).toNat = es.length := by rw [UInt8.toNat_ofNat']; omega
  have ht := takesGo_put (entInts es) (allNum_ints h3) [] r
  rw [entInts_len, shorts_ints, List.nil_append] at ht
  rw [show blkBody es ++ r = UInt8.ofNat es.length :: (es.flatMap entS ++ r) from rfl, takenS, hc, if_neg (by omega), ht]
  dsimp only
  rw [trip_ints, if_pos ⟨rfl, h3⟩]
theorem takenS_ok {bs : List UInt8} {es : List Ent} {r : List UInt8} (h : takenS bs = some (es, r)) : blkOk es = true ∧ bs = blkBody es ++ r := by
  cases bs with
  | nil => simp [takenS] at h
  | cons c l =>
    rw [takenS] at h
    split at h
    · simp at h
    · rename_i hc
      rcases ht : takesGo (3 * c.toNat) [] l with ⟨e, li, r1⟩
      rw [ht] at h
      dsimp only at h
      split at h
      · rename_i he
        obtain ⟨rfl, h3⟩ := he
        obtain ⟨l', hl', h4, h5, h6⟩ := takesGo_ok _ _ _ _ _ ht
        rw [List.nil_append] at hl'
        subst hl'
        simp only [Option.some.injEq, Prod.mk.injEq] at h
        obtain ⟨rfl, rfl⟩ := h
        obtain ⟨h7, h8⟩ := ints_trip c.toNat li h4
        refine ⟨(blkOk_iff _).2 ⟨by omega, h3⟩, ?_⟩
        rw [h6]
        conv => lhs; rw [← h7]
        rw [shorts_ints]
        show _ = UInt8.ofNat (trip li).length :: _
        rw [h8, UInt8.ofNat_toNat]; rfl
      · simp at h

/-- The block behind a point: its entries, and what stands behind. -/
def nextS (p : Nat × Nat) (bs : List UInt8) : Option (List Ent × List UInt8) :=
  match takenS bs with
  | none => none
  | some x => if 4 ≤ x.2.length ∧ x.2.take 4 = fourB (chainP p (blkBody x.1)) then some (x.1, x.2.drop 4) else none
theorem fourB_len (p : Nat × Nat) : (fourB p).length = 4 := rfl
theorem nextS_iff (p : Nat × Nat) (bs : List UInt8) (es : List Ent) (r : List UInt8) : nextS p bs = some (es, r) ↔ blkOk es = true ∧ bs = blkS p es ++ r := by
  constructor
  · intro h
    unfold nextS at h
    split at h
    · simp at h
    · rename_i x hx
      split at h
      · rename_i h4
        simp only [Option.some.injEq, Prod.mk.injEq] at h
        obtain ⟨rfl, rfl⟩ := h
        obtain ⟨h5, h6⟩ := takenS_ok (es := x.1) (r := x.2) hx
        refine ⟨h5, ?_⟩
        rw [h6]; unfold blkS
        rw [← h4.2, List.append_assoc, List.take_append_drop]
      · simp at h
  · rintro ⟨h1, rfl⟩
    have h2 := takenS_put h1 (fourB (chainP p (blkBody es)) ++ r)
    unfold nextS
    rw [show blkS p es ++ r = blkBody es ++ (fourB (chainP p (blkBody es)) ++ r) from by unfold blkS; rw [List.append_assoc], h2]
    dsimp only
    have hl := fourB_len (chainP p (blkBody es))
    rw [if_pos ⟨by simp [hl], List.take_left' hl⟩, List.drop_left' hl]
theorem blkS_pos (p : Nat × Nat) (es : List Ent) : 5 ≤ (blkS p es).length := by unfold blkS blkBody; rw [List.length_append, fourB_len, List.length_cons]; omega
theorem nextS_len {p : Nat × Nat} {bs : List UInt8} {es : List Ent} {r : List UInt8} (h : nextS p bs = some (es, r)) : r.length < bs.length := by
  rw [((nextS_iff p bs es r).1 h).2, List.length_append]
  have := blkS_pos p es; omega

/-- What is scanned behind a point: the entries, the point behind, what stands behind. -/
def scanS (p : Nat × Nat) (bs : List UInt8) : List Ent × (Nat × Nat) × List UInt8 :=
  match h : nextS p bs with
  | none => ([], p, bs)
  | some (es, r) => (es ++ (scanS (chainP p (blkBody es)) r).1, (scanS (chainP p (blkBody es)) r).2)
termination_by bs.length
decreasing_by all_goals exact nextS_len h
theorem scanS_none {p : Nat × Nat} {bs : List UInt8} (h : nextS p bs = none) : scanS p bs = ([], p, bs) := by
  rw [scanS]; split
  · rfl
  · rename_i h'; rw [h] at h'; cases h'
theorem scanS_some {p : Nat × Nat} {bs : List UInt8} {es : List Ent} {r : List UInt8} (h : nextS p bs = some (es, r)) :
    scanS p bs = (es ++ (scanS (chainP p (blkBody es)) r).1, (scanS (chainP p (blkBody es)) r).2) := by
  rw [scanS]; split
  · rename_i h'; rw [h] at h'; cases h'
  · rename_i h'; rw [h] at h'; cases h'; rfl
theorem scanS_list (p : Nat × Nat) (cs : List (List Ent)) (h : ∀ c ∈ cs, blkOk c = true) (r : List UInt8) :
    scanS p ((blockList p cs).flatten ++ r) = (cs.flatten ++ (scanS (chunkP p cs) r).1, (scanS (chunkP p cs) r).2) := by
  induction cs generalizing p with
  | nil => simp [blockList, chunkP]
  | cons c cs ih =>
    have hn : nextS p ((blockList p (c :: cs)).flatten ++ r) = some (c, (blockList (chainP p (blkBody c)) cs).flatten ++ r) :=
      (nextS_iff _ _ _ _).2 ⟨h c (by simp), by rw [blockList, List.flatten_cons, List.append_assoc]⟩
    rw [scanS_some hn, ih _ (fun x hx => h x (by simp [hx]))]
    simp [chunkP]
theorem scanS_spec (p : Nat × Nat) (bs : List UInt8) : ∃ cs : List (List Ent), (∀ c ∈ cs, blkOk c = true) ∧ (scanS p bs).1 = cs.flatten ∧ (scanS p bs).2.1 = chunkP p cs ∧ bs = (blockList p cs).flatten ++ (scanS p bs).2.2 ∧ nextS (chunkP p cs) (scanS p bs).2.2 = none := by
  generalize hn : bs.length = n
  induction n using Nat.strongRecOn generalizing p bs with
  | _ n ih =>
    cases h : nextS p bs with
    | none => rw [scanS_none h]; exact ⟨[], by simp, rfl, rfl, rfl, h⟩
    | some x =>
      obtain ⟨es, r⟩ := x
      obtain ⟨h1, h2⟩ := (nextS_iff _ _ _ _).1 h
      obtain ⟨cs, h3, h4, h5, h6, h7⟩ := ih r.length (by have := nextS_len h; omega) (chainP p (blkBody es)) r rfl
      rw [scanS_some h]
      dsimp only
      refine ⟨es :: cs, ?_, ?_, ?_, ?_, ?_⟩
      · intro c hc
        rcases List.mem_cons.1 hc with rfl | hc
        · exact h1
        · exact h3 c hc
      · rw [h4]; rfl
      · rw [h5]; rfl
      · rw [blockList, List.flatten_cons, List.append_assoc, ← h6]; exact h2
      · exact h7
theorem scanS_len (p : Nat × Nat) (bs : List UInt8) : (scanS p bs).2.2.length ≤ bs.length := by
  obtain ⟨cs, _, _, _, h, _⟩ := scanS_spec p bs
  have := congrArg List.length h
  rw [List.length_append] at this; omega

/-- What a segment's head tells: the first index, and what stands behind. -/
def headT : List UInt8 → Option (Nat × List UInt8)
  | [] => none
  | c :: r => if c = 2 ∧ (takeS r).1 = 0 ∧ (takeS r).2.1 ≠ 0 then some (takeS r).2 else none
theorem headT_iff (bs : List UInt8) (first : Nat) (r : List UInt8) : headT bs = some (first, r) ↔ (headS (first : Int)).1 = 0 ∧ bs = (headS (first : Int)).2 ++ r := by
  have hsh : shorts [(first : Int)] = short1 first := by simp [shorts]
  constructor
  · intro h
    cases bs with
    | nil => simp [headT] at h
    | cons c l =>
      rw [headT] at h
      split at h
      · rename_i hc
        obtain ⟨rfl, h1, h2⟩ := hc
        rcases ht : takeS l with ⟨e, m, r1⟩
        rw [ht] at h h1 h2
        dsimp only at h h1 h2
        subst h1
        simp only [Option.some.injEq, Prod.mk.injEq] at h
        obtain ⟨rfl, rfl⟩ := h
        obtain ⟨h3, h4⟩ := takeS_ok ht
        unfold headS
        rw [if_pos ⟨numB_true.2 ⟨by omega, by omega⟩, by omega⟩, hsh]
        exact ⟨rfl, by rw [h3]; rfl⟩
      · simp at h
  · rintro ⟨h1, h2⟩
    unfold headS at h1 h2
    split at h1
    · rename_i hc
      rw [if_pos hc, hsh] at h2
      have hn := numB_true.1 hc.1
      subst h2
      rw [show (2 :: short1 first) ++ r = 2 :: (short1 first ++ r) from rfl, headT, takeS_put first (by omega)]
      dsimp only
      rw [if_pos ⟨rfl, rfl, by omega⟩]
    · simp at h1
theorem headT_len {bs : List UInt8} {first : Nat} {r : List UInt8} (h : headT bs = some (first, r)) : r.length ≤ bs.length ∧ bs.take (bs.length - r.length) = (headS (first : Int)).2 := by
  obtain ⟨_, h2⟩ := (headT_iff _ _ _).1 h
  rw [h2]
  exact ⟨by simp, by rw [List.length_append, Nat.add_sub_cancel, List.take_left]⟩

/-- What is scanned of bytes: the error, the first index, the entries, how many bytes are used, the point behind. -/
structure LookR where
  err : Int
  first : Nat
  log : List Ent
  used : Nat
  pt : Nat × Nat
def lookS (bs : List UInt8) : LookR :=
  match headT bs with
  | none => ⟨11, 0, [], 0, (0, 0)⟩
  | some x => ⟨0, x.1, (scanS (chainP (0, 0) (headS (x.1 : Int)).2) x.2).1, bs.length - (scanS (chainP (0, 0) (headS (x.1 : Int)).2) x.2).2.2.length, (scanS (chainP (0, 0) (headS (x.1 : Int)).2) x.2).2.1⟩
end Go.Proofs.YtfjcnpigpkcfgaaGreat

namespace Go.Proofs.YtfjcnpigpkcfgaaGreat
open Go.RowKit Go.Mv Go.Shelf
attribute [local go_sem] Oper.semAt_some
set_option maxRecDepth 100000

theorem entInts_drop (es : List Ent) (i : Nat) (h : i < es.length) : (entInts es).drop (i * 3) = es[i].t :: es[i].k :: es[i].v :: (entInts es).drop (i * 3 + 3) := by
  induction es generalizing i with
  | nil => simp at h
  | cons e es ih =>
    rw [show entInts (e :: es) = e.t :: e.k :: e.v :: entInts es from rfl]
    cases i with
    | zero => rfl
    | succ i =>
      have := ih i (by simpa using h)
      rw [show (i + 1) * 3 = i * 3 + 1 + 1 + 1 from by omega]
      simpa using this
theorem ints_part {wo : World} {b off n c : Nat} {es : List Ent} (h : Is wo (.slice (some ⟨b, off, none⟩) n c) (entInts es)) (i : Nat) (hi : i < es.length) :
    Is wo (.slice (some ⟨b, off + i * 3, none⟩) 3 3) [es[i].t, es[i].k, es[i].v] := by
  have hl := entInts_len es
  obtain ⟨h0, A, c', e, h1, h2, h3⟩ := h
  cases e
  obtain ⟨b', off', e', hc⟩ := h3 (by omega)
  cases e'
  refine ⟨by simp, _, 3, rfl, Nat.le_refl _, by simp [maxLen], fun _ => ⟨b, off + i * 3, rfl, fun j u hu => ?_⟩⟩
  have hd := entInts_drop es i hi
  have hj : j < 3 := by
    have := (List.getElem?_eq_some_iff.1 hu).1
    simpa using this
  rw [Nat.add_assoc]
  refine hc (i * 3 + j) u ?_
  rw [← hu, ← List.getElem?_drop, ← List.map_drop, hd]
  match j, hj with
  | 0, _ => rfl
  | 1, _ => rfl
  | 2, _ => rfl

set_option maxHeartbeats 1000000 in
theorem chunk3_seq (wo W0 : World) (v : Value) (es : List Ent) (hes : Is wo v (entInts es)) (hlen : es.length ≤ 1000000) (bs bn : Nat) (hB1 : Boxed W0 bs 91 v) (hB2 : Boxed W0 bn 3 (.int .i64 3)) :
    Seq Tryz.prog 160 #[.pointer (some ⟨bs, 0, none⟩), .pointer (some ⟨bn, 0, none⟩)]
      (fun (e : Ent) av _ => ∃ b off, av = #[.slice (some ⟨b, off, none⟩) 3 3] ∧ Is wo (.slice (some ⟨b, off, none⟩) 3 3) [e.t, e.k, e.v]) (fun k o => (k = bs ∧ o.ty = some 91) ∨ (k = bn ∧ o.ty = some 3)) (fun _ _ => False) es W0 := by
  intro l J Jx hJ hJx hY h0
  have hL := entInts_len es
  obtain ⟨A, c, rfl, h1, h2⟩ := SlR.open_ hes
  rw [hL] at *
  refine (callsIn_wd (ro := none) (n := 9)).1 ?_
  refine callsIn_of_wp Tryz.func160 rfl trivial ?_ rfl
  simp only [Tryz.ntmps160, List.size_toArray, List.length_cons, List.length_nil, Nat.reduceAdd, Nat.reduceSub, Array.replicate_succ, Array.replicate_zero, List.push_toArray, List.append_toArray, List.nil_append, List.cons_append]
  have Hes := Lib.hid hes
  clear hL hes
  gi_wp2
  gi_loopw [4] (fun j W => ∃ (i : Nat), j = .int .i64 (i * 3 : Nat) ∧ i ≤ es.length ∧ Hid (J (es.take i) W) ∧ Boxed W bs 91 (.slice A (3 * es.length) c) ∧ Boxed W bn 3 (.int .i64 3) ∧ W0.heap.size ≤ W.heap.size) (fun j _ => 3 * es.length + 4 - (intOf j).toNat)
  case atStart => exact ⟨0, rfl, Nat.zero_le _, h0, hB1, hB2, Nat.le_refl _⟩
  case round =>
    obtain ⟨i, rfl, hk, HJ, b1, b2, hsz⟩ := hrel
    have c1 := b1.cell
    have c2 := b2.cell
    by_cases hlt : i < es.length
    · have hes' := Hes.out
      obtain ⟨hx, b, off, rfl, hc⟩ := Is.at_ hes' (by rw [entInts_len]; omega)
      clear hc hx
      have hp := ints_part hes' i hlt
      have Hp := Lib.hid hp
      have hkk : (i * 3 : Nat) < 3 * es.length := by omega
      have hk3 : (i * 3 : Nat) + 3 ≤ 3 * es.length := by omega
      have htk : es.take (i + 1) = es.take i ++ [es[i]] := List.take_succ_eq_append_getElem hlt
      have Htk := Lib.hid htk
      have hsp : es = es.take i ++ es[i] :: es.drop (i + 1) := by rw [← List.drop_eq_getElem_cons hlt, List.take_append_drop]
      have Hsp := Lib.hid hsp
      clear hp htk hsp hes'
      have hi3 : ((i * 3 : Nat) : Int) = (i : Int) * 3 := by omega
      obtain ⟨k, hkd⟩ : ∃ k, i * 3 = k := ⟨_, rfl⟩
      have Hkd := Lib.hid hkd
      rw [hkd] at hkk hk3 Hp
      simp only [hkd]
      clear hi3 hkd
      gi_wp2
      gi_region
      have hif : (if ((3 * es.length - k : Nat) : Int) < 3 then ((3 * es.length - k : Nat) : Int) else 3) = 3 := by split <;> omega
      try rw [hif]
      clear hif
      have hy := hY (es.take i) es[i] (es.drop (i + 1)) Hsp.out wr.drew #[.slice (some ⟨b, off + k, none⟩) 3 3] (hJ _ _ _ HJ.out (Moves.refl.drew)) hsz ⟨b, off + k, rfl, Hp.out⟩
      have Hy := Lib.hid hy
      have b1' : Boxed wr.drew bs 91 (.slice (some ⟨b, off, none⟩) (3 * es.length) c) := b1
      have b2' : Boxed wr.drew bn 3 (.int .i64 3) := b2
      clear hy hY
      gi_wp2
      refine uponIn_yield Hy.out ?_
      rintro e W' ⟨hk', ⟨rfl, hj⟩ | ⟨rfl, hj⟩⟩
      · refine ⟨true, rfl, ?_⟩
        have d1 : Boxed W' bs 91 (.slice (some ⟨b, off, none⟩) (3 * es.length) c) := hk'.boxed b1' (.inl (.inl ⟨rfl, rfl⟩))
        have d2 : Boxed W' bn 3 (.int .i64 3) := hk'.boxed b2' (.inl (.inr ⟨rfl, rfl⟩))
        have e2 := d2.cell
        have hs' : W0.heap.size ≤ W'.heap.size := Nat.le_trans hsz hk'.size
        have HJ3 := Lib.hid hj
        clear hj hk' c1 c2
        gi_wp2
        refine ⟨⟨i + 1, ?_, by omega, ?_, d1, d2, hs'⟩, by simp [intOf]; omega⟩
        · have := Hkd.out
          rw [show (i + 1) * 3 = k + 3 from by omega]; go_num
        · show J _ _; rw [Htk.out]; exact HJ3.out
      · refine ⟨false, rfl, ?_⟩
        have HJ3 := Lib.hid hj
        clear hj hk' c1 c2
        gi_wp2
        refine bodyPost_ret (results_none rfl _ _ _) rfl ?_
        refine ⟨⟨_, rfl⟩, .inr ⟨es.take (i + 1), ?_, ?_⟩⟩
        · exact List.take_prefix _ _
        · rw [Htk.out]; exact HJ3.out
    · have hC : es.take i = es := List.take_of_length_le (by omega)
      have hi3 : 3 * es.length ≤ i * 3 := by omega
      have hi4 : ¬ (((i * 3 : Nat) : Int) < ((3 * es.length : Nat) : Int)) := by omega
      obtain ⟨k, hkd⟩ : ∃ k, i * 3 = k := ⟨_, rfl⟩
      have HC2 := Lib.hid hC
      have hk6 : k ≤ 3 * es.length := by omega
      rw [hkd] at hi3
      simp only [hkd]
      clear hC hi4 hkd
      gi_wp2
      refine bodyPost_end (results_none rfl _ _ _) rfl ?_
      exact ⟨⟨_, rfl⟩, .inl (by have := HJ.out; rw [HC2.out] at this; exact this)⟩

theorem ChunkI_any (A : Option Addr) (n c : Nat) (w : World) : Calls Tryz.prog 155 #[.slice A n c, .int .i64 3] w fun e w' =>
    e = .returned (.func (.func 160) #[] #[.pointer (some ⟨w.heap.size, 0, none⟩), .pointer (some ⟨w.heap.size + 1, 0, none⟩)]) ∧
    (w.alloc (.cells #[.slice A n c] 91)).alloc (.cells #[.int .i64 3] 3) = w' := by
  go_enter Tryz.func155, Tryz.ntmps155
  go_wp2
  go_ret
  exact ⟨rfl, rfl⟩
end Go.Proofs.YtfjcnpigpkcfgaaGreat
