/-
  The plain laws of TwoHarm and of TwoBlocks: the chain and the four bytes tell their points apart; a byte changed ends the scan.
-/
import Derived.Test.YtibbbdifkopebaaCutP
set_option linter.all false
namespace Go.Proofs.Ytibbbdifkopebaa
open Go.RowKit Go.Mv

def InP (p : Nat × Nat) : Prop := p.1 < 10007 ∧ p.2 < 10007
theorem nextP_in (p : Nat × Nat) (b : UInt8) : InP (nextP p b) := ⟨Nat.mod_lt _ (by decide), Nat.mod_lt _ (by decide)⟩
theorem chainP_in {p : Nat × Nat} (hp : InP p) (bs : List UInt8) : InP (chainP p bs) := by
  induction bs generalizing p with
  | nil => exact hp
  | cons b bs ih => exact ih (nextP_in p b)
theorem chunkP_in {p : Nat × Nat} (hp : InP p) (cs : List (List Ent)) : InP (chunkP p cs) := by
  induction cs generalizing p with
  | nil => exact hp
  | cons c cs ih => exact ih (chainP_in hp _)
theorem mod_two {x y u v t : Nat} (h1 : x < 10007) (h2 : y < 10007) (h3 : u < 10007) (h4 : v < 10007) (ha : (3 * x + 50035 - 5 * y + t + 1) % 10007 = (3 * u + 50035 - 5 * v + t + 1) % 10007) (hb : (5 * x + 3 * y) % 10007 = (5 * u + 3 * v) % 10007) : x = u ∧ y = v := by
  have a1 := Nat.div_add_mod (3 * x + 50035 - 5 * y + t + 1) 10007
  have a2 := Nat.div_add_mod (3 * u + 50035 - 5 * v + t + 1) 10007
  have b1 := Nat.div_add_mod (5 * x + 3 * y) 10007
  have b2 := Nat.div_add_mod (5 * u + 3 * v) 10007
  rw [ha] at a1
  rw [hb] at b1
  generalize (3 * u + 50035 - 5 * v + t + 1) % 10007 = r1 at *
  generalize (5 * u + 3 * v) % 10007 = r2 at *
  generalize (3 * x + 50035 - 5 * y + t + 1) / 10007 = k1 at *
  generalize (3 * u + 50035 - 5 * v + t + 1) / 10007 = k2 at *
  generalize (5 * x + 3 * y) / 10007 = k3 at *
  generalize (5 * u + 3 * v) / 10007 = k4 at *
  clear ha hb
  have e : (34 : Int) * (x - u) = 10007 * (3 * (k1 - k2) + 5 * (k3 - k4)) := by omega
  have e1 : x = u := by
    generalize (3 * ((k1 : Int) - k2) + 5 * (k3 - k4)) = K at e
    omega
  subst e1
  refine ⟨rfl, ?_⟩
  omega
theorem nextP_inj {p q : Nat × Nat} (hp : InP p) (hq : InP q) {b : UInt8} (h : nextP p b = nextP q b) : p = q := by
  obtain ⟨x, y⟩ := p
  obtain ⟨u, v⟩ := q
  obtain ⟨p1, p2⟩ := hp
  obtain ⟨q1, q2⟩ := hq
  unfold nextP at h
  rw [Prod.mk.injEq] at h
  obtain ⟨e1, e2⟩ := mod_two p1 p2 q1 q2 h.1 h.2
  exact Prod.ext e1 e2
theorem mod_one {a b c : Nat} (hb : b < 256) (hc : c < 256) (h : (a + b + 1) % 10007 = (a + c + 1) % 10007) : b = c := by omega
theorem nextP_byte {p : Nat × Nat} {b c : UInt8} (h : nextP p b = nextP p c) : b = c := by
  unfold nextP at h
  rw [Prod.mk.injEq] at h
  exact UInt8.toNat_inj.1 (mod_one b.toNat_lt c.toNat_lt h.1)
theorem chainP_inj {p q : Nat × Nat} (hp : InP p) (hq : InP q) (bs : List UInt8) (h : chainP p bs = chainP q bs) : p = q := by
  induction bs generalizing p q with
  | nil => exact h
  | cons b bs ih => exact nextP_inj hp hq (ih (nextP_in _ _) (nextP_in _ _) h)
theorem chainP_set {p : Nat × Nat} (hp : InP p) (bs : List UInt8) (i : Nat) (hi : i < bs.length) (c : UInt8) (h : chainP p bs = chainP p (bs.set i c)) : bs[i] = c := by
  induction bs generalizing p i with
  | nil => simp at hi
  | cons b bs ih =>
    cases i with
    | zero => exact nextP_byte (chainP_inj (nextP_in _ _) (nextP_in _ _) bs h)
    | succ i => exact ih (nextP_in p b) i (by simpa using hi) h
theorem fourB_inj {p q : Nat × Nat} (hp : InP p) (hq : InP q) (h : fourB p = fourB q) : p = q := by
  obtain ⟨x, y⟩ := p
  obtain ⟨u, v⟩ := q
  obtain ⟨p1, p2⟩ := hp
  obtain ⟨q1, q2⟩ := hq
  unfold fourB at h
  simp only [List.cons.injEq, and_true] at h
  obtain ⟨h1, h2, h3, h4⟩ := h
  have t1 := congrArg UInt8.toNat h1
  have t2 := congrArg UInt8.toNat h2
  have t3 := congrArg UInt8.toNat h3
  have t4 := congrArg UInt8.toNat h4
  simp only [UInt8.toNat_ofNat'] at t1 t2 t3 t4
  dsimp only at *
  have e1 : x = u := by omega
  have e2 : y = v := by omega
  rw [e1, e2]

/-- Is the highest bit set? -/
def topB (x : UInt8) : Bool := decide (128 ≤ x.toNat)
/-- How many bytes till so many of them were without the highest bit. -/
def cntF : Nat → List Bool → Nat
  | 0, _ => 0
  | _ + 1, [] => 0
  | m + 1, true :: l => cntF (m + 1) l + 1
  | m + 1, false :: l => cntF m l + 1
theorem cnt_high (m : Nat) (xs : List UInt8) (h : ∀ x ∈ xs, topB x = true) (l : List Bool) : cntF (m + 1) (xs.map topB ++ l) = xs.length + cntF (m + 1) l := by
  induction xs with
  | nil => simp
  | cons x xs ih =>
    rw [List.map_cons, h x (by simp), List.cons_append, cntF, ih (fun y hy => h y (by simp [hy])), List.length_cons]
    omega
theorem hi_or (x : UInt8) : topB (x ||| 128) = true := by
  unfold topB
  rw [decide_eq_true_eq, UInt8.toNat_or]
  exact Nat.right_le_or
theorem hi_low (n : Nat) : topB (UInt8.ofNat (n % 128)) = false := by
  unfold topB
  rw [decide_eq_false_iff_not, UInt8.toNat_ofNat']
  omega
theorem cnt_short (m n : Nat) (l : List Bool) : cntF (m + 1) ((short1 n).map topB ++ l) = (short1 n).length + cntF m l := by
  unfold short1
  rw [List.map_append, List.append_assoc, cnt_high m _ (fun x hx => by obtain ⟨y, _, rfl⟩ := List.mem_map.1 hx; exact hi_or y)]
  rw [List.map_cons, List.map_nil, hi_low, List.singleton_append, cntF, List.length_append]
  simp
  omega
theorem cnt_shorts (L : List Int) (l : List Bool) : cntF L.length ((shorts L).map topB ++ l) = (shorts L).length := by
  induction L with
  | nil => simp [shorts, cntF]
  | cons n L ih =>
    have e : shorts (n :: L) = short1 n.toNat ++ shorts L := by simp [shorts]
    rw [e, List.map_append, List.append_assoc, List.length_cons, cnt_short, ih, List.length_append]

theorem body_len {es es' : List Ent} (hl : es.length = es'.length) {r r' : List UInt8} (h : ((blkBody es ++ r).drop 1).map topB = ((blkBody es' ++ r').drop 1).map topB) : (blkBody es).length = (blkBody es').length := by
  have e : ∀ es r, (blkBody es ++ r).drop 1 = shorts (entInts es) ++ r := fun es r => by
    show es.flatMap entS ++ r = _
    rw [shorts_ints]
  rw [e, e, List.map_append, List.map_append] at h
  have h1 := cnt_shorts (entInts es) (r.map topB)
  have h2 := cnt_shorts (entInts es') (r'.map topB)
  rw [entInts_len] at h1 h2
  rw [h, hl, h2] at h1
  unfold blkBody
  rw [List.length_cons, List.length_cons, ← shorts_ints, ← shorts_ints, h1]

theorem get_left {A F X : List UInt8} (e : X = A ++ F) {j : Nat} (hj : j < X.length) (hA : j < A.length) : X[j] = A[j] := by
  subst e; exact List.getElem_append_left hA
theorem get_right {A F X : List UInt8} (e : X = A ++ F) {j : Nat} (hj : j < X.length) (hA : A.length ≤ j) (hF : j - A.length < F.length) : X[j] = F[j - A.length] := by
  subst e; exact List.getElem_append_right hA
theorem harm_none {p : Nat × Nat} (hp : InP p) {es : List Ent} (hok : blkOk es = true) (i : Nat) (h1 : 1 ≤ i) (hi : i < (blkS p es).length) (c : UInt8) (hc : topB c = topB (blkS p es)[i]) (hne : c ≠ (blkS p es)[i]) (tail : List UInt8) :
    nextS p ((blkS p es).set i c ++ tail) = none := by
  cases hn : nextS p ((blkS p es).set i c ++ tail) with
  | none => rfl
  | some x =>
    exfalso
    obtain ⟨es', r⟩ := x
    obtain ⟨hok', hX⟩ := (nextS_iff _ _ _ _).1 hn
    have hlen : es.length = es'.length := by
      have h0 : ((blkS p es).set i c ++ tail)[0]? = (blkS p es' ++ r)[0]? := by rw [hX]
      obtain ⟨j, rfl⟩ : ∃ j, i = j + 1 := ⟨i - 1, by omega⟩
      rw [show blkS p es = UInt8.ofNat es.length :: (es.flatMap entS ++ fourB (chainP p (blkBody es))) from rfl, show blkS p es' = UInt8.ofNat es'.length :: (es'.flatMap entS ++ fourB (chainP p (blkBody es'))) from rfl] at h0
      simp only [List.set_cons_succ, List.cons_append, List.getElem?_cons_zero, Option.some.injEq] at h0
      have h2 := congrArg UInt8.toNat h0
      simp only [UInt8.toNat_ofNat'] at h2
      have a1 := ((blkOk_iff es).1 hok).1
      have a2 := ((blkOk_iff es').1 hok').1
      omega
    have hmap : ((blkS p es).set i c ++ tail).map topB = (blkS p es ++ tail).map topB := by
      rw [List.map_append, List.map_append, List.map_set, hc, ← List.getElem_map topB (h := by simpa using hi), List.set_getElem_self]
    have hbl : (blkBody es).length = (blkBody es').length := by
      refine body_len (r := fourB (chainP p (blkBody es)) ++ tail) (r' := fourB (chainP p (blkBody es')) ++ r) hlen ?_
      rw [List.map_drop, List.map_drop, ← List.append_assoc, ← List.append_assoc]
      show ((blkS p es ++ tail).map topB).drop 1 = ((blkS p es' ++ r).map topB).drop 1
      rw [← hmap, hX]
    have h4 : ∀ q : Nat × Nat, (fourB q).length = 4 := fun _ => rfl
    by_cases hib : i < (blkBody es).length
    · have e1 : (blkS p es).set i c = (blkBody es).set i c ++ fourB (chainP p (blkBody es)) := by
        unfold blkS
        rw [List.set_append_left _ _ hib]
      rw [e1, show blkS p es' = blkBody es' ++ fourB (chainP p (blkBody es')) from rfl, List.append_assoc, List.append_assoc] at hX
      obtain ⟨e2, e3⟩ := List.append_inj hX (by rw [List.length_set]; exact hbl)
      obtain ⟨e4, _⟩ := List.append_inj e3 rfl
      have e5 := fourB_inj (chainP_in hp _) (chainP_in hp _) e4
      rw [← e2] at e5
      have e6 := chainP_set hp _ i hib c e5
      exact hne (e6.symm.trans (get_left rfl hi hib).symm)
    · have hi4 : i < (blkBody es).length + 4 := by
        have : (blkS p es).length = (blkBody es).length + 4 := by unfold blkS; rw [List.length_append]; rfl
        omega
      have e1 : (blkS p es).set i c = blkBody es ++ (fourB (chainP p (blkBody es))).set (i - (blkBody es).length) c := by
        unfold blkS
        rw [List.set_append_right _ _ (by omega)]
      rw [e1, show blkS p es' = blkBody es' ++ fourB (chainP p (blkBody es')) from rfl, List.append_assoc, List.append_assoc] at hX
      obtain ⟨e2, e3⟩ := List.append_inj hX hbl
      obtain ⟨e4, _⟩ := List.append_inj e3 (by rw [List.length_set]; rfl)
      rw [← e2] at e4
      apply hne
      have e5 : ((fourB (chainP p (blkBody es))).set (i - (blkBody es).length) c)[i - (blkBody es).length]? = some c := by
        rw [List.getElem?_set_self (by rw [h4]; omega)]
      rw [e4] at e5
      obtain ⟨e6, e7⟩ := List.getElem?_eq_some_iff.1 e5
      exact e7.symm.trans (get_right rfl hi (by omega) e6).symm

theorem blocksS_split (k : Nat) : ∀ (p : Nat × Nat) (l : List Ent), 4 * k ≤ l.length → blocksS p l = blocksS p (l.take (4 * k)) ++ blocksS (chunkP p (chunks4 (l.take (4 * k)))) (l.drop (4 * k)) := by
  induction k with
  | zero => intro p l _; simp [blocksS_nil, chunks4_nil, chunkP]
  | succ k ih =>
    intro p l h
    have h0 : 0 < l.length := by omega
    have h0' : 0 < (l.take (4 * (k + 1))).length := by rw [List.length_take]; omega
    rw [blocksS_cons p l h0, ih _ (l.drop 4) (by rw [List.length_drop]; omega), blocksS_cons p (l.take (4 * (k + 1))) h0', chunks4_cons _ h0', List.take_take, Nat.min_eq_left (by omega), List.drop_take, show 4 * (k + 1) - 4 = 4 * k from by omega, List.drop_drop, show 4 + 4 * k = 4 * (k + 1) from by omega, List.append_assoc]
    rfl

theorem harm_plain {f : Nat} (h1 : 1 ≤ f) (h2 : f ≤ 1073741824) {l : List Ent} (hl : allOk l = true) {B : List UInt8} (hB : fileS (f : Int) l = (0, B)) {a at_ : Nat} (ha4 : a % 4 = 0) (hal : a < l.length)
    (hs : (fileS (f : Int) (l.take a)).2.length < at_) (he : at_ < (fileS (f : Int) (l.take (a + 4))).2.length) (hat : at_ < B.length) (c : UInt8) (hc : topB c = topB B[at_]) (hne : c ≠ B[at_]) :
    ∃ q, lookS (B.set at_ c) = ⟨0, f, l.take a, (fileS (f : Int) (l.take a)).2.length, q⟩ := by
  have hh := headS_okC h1 h2
  have hput := look_put hh (allOk_take_of a hl)
  rw [file_ok hh hl] at hB
  rw [file_ok hh (allOk_take_of a hl)] at hs hput ⊢
  rw [file_ok hh (allOk_take_of (a + 4) hl)] at he
  dsimp only at hs he hput ⊢
  obtain ⟨k, rfl⟩ : ∃ k, a = 4 * k := ⟨a / 4, by omega⟩
  have hin : InP (endQ (f : Int) (l.take (4 * k))) := chunkP_in (chainP_in ⟨by decide, by decide⟩ _) _
  have hsp := blocksS_split k (chainP (0, 0) (headS (f : Int)).2) l (by omega)
  have hsp2 := blocksS_split k (chainP (0, 0) (headS (f : Int)).2) (l.take (4 * k + 4)) (by rw [List.length_take]; omega)
  rw [List.take_take, Nat.min_eq_left (by omega), List.drop_take, show 4 * k + 4 - 4 * k = 4 from by omega] at hsp2
  have h0 : 0 < (l.drop (4 * k)).length := by rw [List.length_drop]; omega
  have hq : chunkP (chainP (0, 0) (headS (f : Int)).2) (chunks4 (l.take (4 * k))) = endQ (f : Int) (l.take (4 * k)) := rfl
  rw [hq] at hsp hsp2
  rw [blocksS_cons _ _ h0] at hsp
  have h04 : 0 < ((l.drop (4 * k)).take 4).length := by rw [List.length_take]; omega
  rw [blocksS_cons _ _ h04, List.take_take, Nat.min_self, List.drop_eq_nil_of_le (show ((l.drop (4 * k)).take 4).length ≤ 4 by rw [List.length_take]; omega), blocksS_nil, List.append_nil] at hsp2
  have hok : blkOk ((l.drop (4 * k)).take 4) = true := blkOk_take4 h0 (allOk_drop_of _ hl)
  rw [hsp2] at he
  injection hB with _ hB
  rw [hsp, ← List.append_assoc] at hB
  rw [← List.append_assoc] at he
  generalize (headS (f : Int)).2 ++ blocksS (chainP (0, 0) (headS (f : Int)).2) (l.take (4 * k)) = pre at *
  generalize endQ (f : Int) (l.take (4 * k)) = q at *
  generalize blocksS (chainP q (blkBody ((l.drop (4 * k)).take 4))) ((l.drop (4 * k)).drop 4) = tl at *
  obtain ⟨i, rfl⟩ : ∃ i, at_ = pre.length + i := ⟨at_ - pre.length, by omega⟩
  rw [List.length_append] at he
  subst hB
  have hib : i < (blkS q ((l.drop (4 * k)).take 4)).length := by omega
  have hget : (pre ++ (blkS q ((l.drop (4 * k)).take 4) ++ tl))[pre.length + i] = (blkS q ((l.drop (4 * k)).take 4))[i] := by
    rw [List.getElem_append_right (by omega)]
    simp only [Nat.add_sub_cancel_left]
    rw [List.getElem_append_left hib]
  rw [hget] at hc hne
  have hset : (pre ++ (blkS q ((l.drop (4 * k)).take 4) ++ tl)).set (pre.length + i) c = pre ++ ((blkS q ((l.drop (4 * k)).take 4)).set i c ++ tl) := by
    rw [List.set_append_right _ _ (by omega), Nat.add_sub_cancel_left, List.set_append_left _ _ hib]
  rw [hset, hput, scanS_none (harm_none hin hok i (by omega) hib c hc hne tl)]
  refine ⟨q, ?_⟩
  simp

theorem seg_facts {f : Nat} (h1 : 1 ≤ f) (h2 : f ≤ 1073741824) {l : List Ent} (hl : allOk l = true) (h0 : 0 < l.length) :
    ∃ (B H : List UInt8) (L : Nat → Nat), fileS (f : Int) l = (0, B) ∧ headS (f : Int) = (0, H) ∧ 0 < H.length ∧ B.length ≤ 6 + 20 * l.length ∧ H.length < B.length ∧ H.length ≤ 6 ∧ L 0 = H.length ∧ (∀ k, l.length ≤ k → L k = B.length) ∧
      (∀ k, ∃ C, fileS (f : Int) (l.take k) = (0, C) ∧ C.length = L k ∧ C.length ≤ 6 + 20 * l.length) ∧
      (∀ a at_ : Nat, a % 4 = 0 → a < l.length → L a < at_ → at_ < L (a + 4) → ∀ hat : at_ < B.length, ∀ c, topB c = topB B[at_] → c ≠ B[at_] → ∃ q, lookS (B.set at_ c) = ⟨0, f, l.take a, L a, q⟩) := by
  have hh := headS_okC h1 h2
  have hHl := headS_len (f : Int)
  have hfl := file_len (f : Int) l
  have hfile := file_ok hh hl
  refine ⟨(fileS (f : Int) l).2, (headS (f : Int)).2, fun k => (fileS (f : Int) (l.take k)).2.length, by rw [hfile], by rw [← hh], ?_, hfl, ?_, hHl, ?_, ?_, ?_, ?_⟩
  · unfold headS
    rw [if_pos ⟨by rw [numB_true]; omega, by omega⟩]
    simp
  · rw [hfile, List.length_append, blocksS_cons _ _ h0, List.length_append]
    unfold blkS blkBody
    simp
    omega
  · dsimp only
    rw [List.take_zero, file_ok hh rfl, List.length_append, blocksS_nil]
    simp
  · intro k hk
    dsimp only
    rw [List.take_of_length_le hk]
  · intro k
    have := file_len (f : Int) (l.take k)
    rw [List.length_take] at this
    exact ⟨_, file_eta hh (allOk_take_of k hl), rfl, by omega⟩
  · intro a at_ ha4 hal hs he hat c hc hne
    exact harm_plain h1 h2 hl (by rw [hfile]) ha4 hal hs he hat c hc hne

/-- A byte changed below its highest bit. -/
theorem xor_top (x b : UInt8) (hb : b.toNat < 128) : topB (x ^^^ b) = topB x := by
  have key : ∀ n : Nat, n < 256 → decide (128 ≤ n) = n.testBit 7 := by
    intro n hn
    rw [Nat.testBit_eq_decide_div_mod_eq]
    congr 1
    apply propext
    omega
  unfold topB
  rw [key _ (UInt8.toNat_lt _), key _ (UInt8.toNat_lt _), UInt8.toNat_xor, Nat.testBit_xor, ← key b.toNat (by omega), decide_eq_false (by omega)]
  simp
theorem xor_ne (x b : UInt8) (hb : b ≠ 0) : x ^^^ b ≠ x := by
  intro h
  apply hb
  have : x ^^^ (x ^^^ b) = x ^^^ x := by rw [h]
  rwa [← UInt8.xor_assoc, UInt8.xor_self, UInt8.zero_xor] at this

theorem blocks_plain {p q : Nat × Nat} (hp : InP p) (hq : InP q) {l : List Ent} (hok : blkOk l = true) : (scanS q (blkS p l)).1 = if p = q then l else [] := by
  have ht := takenS_put hok (fourB (chainP p (blkBody l)))
  by_cases h : p = q
  · subst h
    rw [if_pos rfl]
    have hn : nextS p (blkS p l) = some (l, []) := (nextS_iff _ _ _ _).2 ⟨hok, by simp⟩
    rw [scanS_some hn, scan_nil]
    simp
  · rw [if_neg h]
    have hn : nextS q (blkS p l) = none := by
      unfold nextS
      rw [show blkS p l = blkBody l ++ fourB (chainP p (blkBody l)) from rfl, ht]
      dsimp only
      rw [if_neg]
      rintro ⟨_, h2⟩
      rw [List.take_of_length_le (by rw [fourB_len]; exact Nat.le_refl _)] at h2
      exact h (chainP_inj hp hq _ (fourB_inj (chainP_in hp _) (chainP_in hq _) h2))
    rw [scanS_none hn]
end Go.Proofs.Ytibbbdifkopebaa
