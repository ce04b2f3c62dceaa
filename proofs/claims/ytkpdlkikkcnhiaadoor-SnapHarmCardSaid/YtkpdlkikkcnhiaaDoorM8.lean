/-
  The plain law of TwoCut.
  The plain laws of TwoHarm and of TwoBlocks: the chain and the four bytes tell their points apart; a byte changed ends the scan.
  Plain facts on states' texts and on pieces with their chains.
  The walk of moultlaw08.wakes.
  The walk of moultref06.Same: the same entries?
  Appending bytes and entries to a slice of one's own, as a whole; the worlds before stay.
-/
import Derived.Test.YtkpdlkikkcnhiaaDoorM7
import Derived.Deep.QuietTactic
import Derived.BigQuiet
set_option linter.all false
namespace Go.Proofs.YtkpdlkikkcnhiaaDoor
open Go.RowKit Go.Mv

theorem headS_okC {f : Nat} (h1 : 1 ≤ f) (h2 : f ≤ 1073741824) : (headS (f : Int)).1 = 0 := by
  unfold headS
  rw [if_pos ⟨by rw [numB_true]; omega, by omega⟩]
theorem allOk_take_of {es : List Ent} (n : Nat) (h : allOk es = true) : allOk (es.take n) = true := by
  unfold allOk at *
  rw [List.all_eq_true] at *
  exact fun x hx => h x (List.mem_of_mem_take hx)
theorem allOk_drop_of {es : List Ent} (n : Nat) (h : allOk es = true) : allOk (es.drop n) = true := by
  unfold allOk at *
  rw [List.all_eq_true] at *
  exact fun x hx => h x (List.mem_of_mem_drop hx)
theorem blkOk_take4 {es : List Ent} (h0 : 0 < es.length) (h : allOk es = true) : blkOk (es.take 4) = true := by
  rw [blkOk_iff, List.length_take]
  exact ⟨by omega, allOk_take_of 4 h⟩

/-- Of blocks that are cut off the whole ones are scanned. -/
theorem cut_scan (es : List Ent) : ∀ (p : Nat × Nat) (k : Nat), allOk es = true → ∃ n, n ≤ es.length ∧ (n % 4 = 0 ∨ n = es.length) ∧ (scanS p ((blocksS p es).take k)).1 = es.take n ∧ (blocksS p es).take k = blocksS p (es.take n) ++ (scanS p ((blocksS p es).take k)).2.2 := by
  generalize hlen : es.length = N
  induction N using Nat.strongRecOn generalizing es with
  | _ N ih =>
    intro p k ha
    cases hn : nextS p ((blocksS p es).take k) with
    | none =>
      rw [scanS_none hn]
      exact ⟨0, Nat.zero_le _, .inl rfl, by simp, by simp [blocksS_nil]⟩
    | some x =>
      obtain ⟨es1, r⟩ := x
      rw [scanS_some hn]
      dsimp only
      obtain ⟨hok, hX⟩ := (nextS_iff _ _ _ _).1 hn
      have hall : blocksS p es = blkS p es1 ++ (r ++ (blocksS p es).drop k) := by
        rw [← List.append_assoc, ← hX, List.take_append_drop]
      have h0 : 0 < es.length := by
        rcases Nat.eq_zero_or_pos es.length with h | h
        · have : es = [] := List.eq_nil_of_length_eq_zero h
          subst this
          rw [blocksS_nil] at hX
          have := congrArg List.length hX
          simp [blkS, blkBody] at this
        · exact h
      have hnx : nextS p (blocksS p es) = some (es1, r ++ (blocksS p es).drop k) := (nextS_iff _ _ _ _).2 ⟨hok, hall⟩
      have hnx2 : nextS p (blocksS p es) = some (es.take 4, blocksS (chainP p (blkBody (es.take 4))) (es.drop 4)) := (nextS_iff _ _ _ _).2 ⟨blkOk_take4 h0 ha, blocksS_cons p es h0⟩
      rw [hnx] at hnx2
      injection hnx2 with h1
      injection h1 with h2 h3
      subst h2
      have hr : r = (blocksS (chainP p (blkBody (es.take 4))) (es.drop 4)).take r.length := by rw [← h3, List.take_left]
      obtain ⟨n, g1, g2, g3, g4⟩ := ih (es.drop 4).length (by rw [List.length_drop]; omega) (es.drop 4) rfl (chainP p (blkBody (es.take 4))) r.length (allOk_drop_of 4 ha)
      rw [← hr] at g3 g4
      rw [List.length_drop] at g1 g2
      refine ⟨(es.take 4).length + n, by rw [List.length_take]; omega, by rw [List.length_take]; omega, ?_, ?_⟩
      · rw [g3]
        by_cases h4 : 4 ≤ es.length
        · rw [List.length_take, Nat.min_eq_left h4, List.take_add]
        · rw [List.length_take, Nat.min_eq_right (by omega), List.take_of_length_le (show es.length ≤ 4 by omega), List.drop_of_length_le (by omega : es.length ≤ 4), List.take_of_length_le (show es.length ≤ es.length + n by omega)]
          simp
      · rw [hX]
        clear hr
        generalize (scanS (chainP p (blkBody (es.take 4))) r).2.2 = Z at g4 ⊢
        rw [g4]
        by_cases h4 : 4 ≤ es.length
        · have hp : 0 < (es.take (4 + n)).length := by rw [List.length_take]; omega
          rw [List.length_take, Nat.min_eq_left h4, blocksS_cons p (es.take (4 + n)) hp, List.take_take, Nat.min_eq_left (by omega), List.drop_take, show 4 + n - 4 = n from by omega]
          rw [List.append_assoc]
        · have hn0 : n = 0 := by omega
          subst hn0
          rw [List.length_take, Nat.min_eq_right (by omega), Nat.add_zero, List.take_of_length_le (Nat.le_refl _), List.take_zero, blocksS_nil]
          conv => rhs; rw [blocksS_cons p es h0]
          rw [List.drop_of_length_le (by omega : es.length ≤ 4), blocksS_nil]
          simp

theorem left_mod (left : Int) (n : Nat) (h0 : 0 < n) (hn : n ≤ 1000000) : ∃ j : Nat, (wrap64 (left.tmod n + n)).tmod n = j ∧ j < n := by
  have h1 := Int.natAbs_tmod left n
  have h2 := Nat.mod_lt left.natAbs (show 0 < (n : Int).natAbs by omega)
  rw [← h1] at h2
  generalize left.tmod n = t at *
  have h3 : wrap64 (t + n) = t + n := by unfold wrap64; omega
  rw [h3]
  have h4 : 0 ≤ t + n := by omega
  obtain ⟨x, hx⟩ : ∃ x : Nat, t + n = x := ⟨_, (Int.toNat_of_nonneg h4).symm⟩
  rw [hx]
  exact ⟨x % n, by rw [Int.tmod_eq_emod_of_nonneg (by omega)]; rfl, Nat.mod_lt _ h0⟩

theorem cut_plain {f : Nat} (h1 : 1 ≤ f) (h2 : f ≤ 1073741824) {l : List Ent} (hl : allOk l = true) :
    ∃ (B H : List UInt8), fileS (f : Int) l = (0, B) ∧ headS (f : Int) = (0, H) ∧ 0 < H.length ∧ B.length ≤ 6 + 20 * l.length ∧ H.length ≤ B.length ∧ H.length ≤ 6 ∧
      ∀ k, k ≤ B.length → (k < H.length → lookS (B.take k) = ⟨11, 0, [], 0, (0, 0)⟩) ∧
        (H.length ≤ k → ∃ n u q q', n ≤ l.length ∧ (n % 4 = 0 ∨ n = l.length) ∧ u ≤ k ∧ lookS (B.take k) = ⟨0, f, l.take n, u, q⟩ ∧ fileS (f : Int) (l.take n) = (0, B.take u) ∧ lookS (B.take u) = ⟨0, f, l.take n, u, q'⟩) := by
  have hh := headS_okC h1 h2
  have hfl := file_len (f : Int) l
  have hfile := file_ok hh hl
  rw [hfile] at hfl
  dsimp only at hfl
  have hHl := headS_len (f : Int)
  refine ⟨_, (headS (f : Int)).2, hfile, by rw [← hh], ?_, hfl, by rw [List.length_append]; omega, hHl, fun k hk => ⟨fun hlt => ?_, fun hge => ?_⟩⟩
  · unfold headS
    rw [if_pos ⟨by rw [numB_true]; omega, by omega⟩]
    simp
  · apply look_none
    cases hd : headT (((headS (f : Int)).2 ++ blocksS (chainP (0, 0) (headS (f : Int)).2) l).take k) with
    | none => rfl
    | some x =>
      exfalso
      obtain ⟨f', r⟩ := x
      obtain ⟨e1, e2⟩ := (headT_iff _ _ _).1 hd
      have e3 : headT ((headS (f : Int)).2 ++ blocksS (chainP (0, 0) (headS (f : Int)).2) l) = some (f', r ++ ((headS (f : Int)).2 ++ blocksS (chainP (0, 0) (headS (f : Int)).2) l).drop k) := by
        rw [headT_iff]
        exact ⟨e1, by rw [← List.append_assoc, ← e2, List.take_append_drop]⟩
      have e4 : headT ((headS (f : Int)).2 ++ blocksS (chainP (0, 0) (headS (f : Int)).2) l) = some (f, blocksS (chainP (0, 0) (headS (f : Int)).2) l) := by
        rw [headT_iff]; exact ⟨hh, rfl⟩
      rw [e3] at e4
      injection e4 with e5
      injection e5 with e6 e7
      subst e6
      have := congrArg List.length e2
      rw [List.length_take, List.length_append, List.length_append] at this
      omega
  · obtain ⟨j, rfl⟩ : ∃ j, k = (headS (f : Int)).2.length + j := ⟨k - (headS (f : Int)).2.length, by omega⟩
    obtain ⟨n, g1, g2, g3, g4⟩ := cut_scan l (chainP (0, 0) (headS (f : Int)).2) j hl
    have hfn := file_ok hh (allOk_take_of n hl)
    have hput := look_put hh (allOk_take_of n hl) []
    rw [hfn, List.append_nil, scan_nil] at hput
    dsimp only at hput
    have ht : ((headS (f : Int)).2 ++ blocksS (chainP (0, 0) (headS (f : Int)).2) l).take ((headS (f : Int)).2.length + j) = (headS (f : Int)).2 ++ (blocksS (chainP (0, 0) (headS (f : Int)).2) l).take j := by
      rw [List.take_append, List.take_of_length_le (by omega), Nat.add_sub_cancel_left]
    have hlen := congrArg List.length g4
    rw [List.length_append] at hlen
    have hut : ((headS (f : Int)).2 ++ blocksS (chainP (0, 0) (headS (f : Int)).2) l).take ((headS (f : Int)).2.length + (blocksS (chainP (0, 0) (headS (f : Int)).2) (l.take n)).length) = (headS (f : Int)).2 ++ blocksS (chainP (0, 0) (headS (f : Int)).2) (l.take n) := by
      have : blocksS (chainP (0, 0) (headS (f : Int)).2) l = blocksS (chainP (0, 0) (headS (f : Int)).2) (l.take n) ++ ((scanS (chainP (0, 0) (headS (f : Int)).2) ((blocksS (chainP (0, 0) (headS (f : Int)).2) l).take j)).2.2 ++ (blocksS (chainP (0, 0) (headS (f : Int)).2) l).drop j) := by
        rw [← List.append_assoc, ← g4, List.take_append_drop]
      rw [this, ← List.append_assoc, ← List.length_append, List.take_left]
    refine ⟨n, (headS (f : Int)).2.length + (blocksS (chainP (0, 0) (headS (f : Int)).2) (l.take n)).length, (scanS (chainP (0, 0) (headS (f : Int)).2) ((blocksS (chainP (0, 0) (headS (f : Int)).2) l).take j)).2.1, endQ (f : Int) (l.take n), g1, g2, ?_, ?_, ?_, ?_⟩
    · rw [List.length_take] at hlen; omega
    · rw [ht, look_some ((headT_iff _ _ _).2 ⟨hh, rfl⟩), g3]
      congr 1
      rw [List.length_append]
      omega
    · rw [hut]; exact hfn
    · rw [hut, hput]
      simp
end Go.Proofs.YtkpdlkikkcnhiaaDoor

namespace Go.Proofs.YtkpdlkikkcnhiaaDoor
open Go.RowKit Go.Mv

def InP (p : Nat × Nat) : Prop := p.1 < 10007 ∧ p.2 < 10007
theorem nextP_in (p : Nat × Nat) (b : UInt8) : InP (nextP p b) := ⟨Nat.mod_lt _ (by decide), Nat.mod_lt _ (by decide)⟩
theorem chainP_in {p : Nat × Nat} (hp : InP p) (bs : List UInt8) : InP (chainP p bs) := by
  induction bs generalizing p with
  | nil => exact hp
  | cons b bs ih => exact ih (nextP_in p b)
theorem chunkP_in {p : Nat × Nat} (hp : InP p) (cs : List (List Ent)) : InP (chunkP p cs) := by
  induction cs generalizing p with
  | nil => exact hp
  | cons c cs ih => exact ih (chainP_in hp _)
theorem mod_two {x y u v t : Nat} (h1 : x < 10007) (h2 : y < 10007) (h3 : u < 10007) (h4 : v < 10007) (ha : (3 * x + 50035 - 5 * y + t + 1) % 10007 = (3 * u + 50035 - 5 * v + t + 1) % 10007) (hb : (5 * x + 3 * y) % 10007 = (5 * u + 3 * v) % 10007) : x = u ∧ y = v := by
  have a1 := Nat.div_add_mod (3 * x + 50035 - 5 * y + t + 1) 10007
  have a2 := Nat.div_add_mod (3 * u + 50035 - 5 * v + t + 1) 10007
  have b1 := Nat.div_add_mod (5 * x + 3 * y) 10007
  have b2 := Nat.div_add_mod (5 * u + 3 * v) 10007
  rw [ha] at a1
  rw [hb] at b1
  generalize (3 * u + 50035 - 5 * v + t + 1) % 10007 = r1 at *
  generalize (5 * u + 3 * v) % 10007 = r2 at *
  generalize (3 * x + 50035 - 5 * y + t + 1) / 10007 = k1 at *
  generalize (3 * u + 50035 - 5 * v + t + 1) / 10007 = k2 at *
  generalize (5 * x + 3 * y) / 10007 = k3 at *
  generalize (5 * u + 3 * v) / 10007 = k4 at *
  clear ha hb
  have e : (34 : Int) * (x - u) = 10007 * (3 * (k1 - k2) + 5 * (k3 - k4)) := by omega
  have e1 : x = u := by
    generalize (3 * ((k1 : Int) - k2) + 5 * (k3 - k4)) = K at e
    omega
  subst e1
  refine ⟨rfl, ?_⟩
  omega
theorem nextP_inj {p q : Nat × Nat} (hp : InP p) (hq : InP q) {b : UInt8} (h : nextP p b = nextP q b) : p = q := by
  obtain ⟨x, y⟩ := p
  obtain ⟨u, v⟩ := q
  obtain ⟨p1, p2⟩ := hp
  obtain ⟨q1, q2⟩ := hq
  unfold nextP at h
  rw [Prod.mk.injEq] at h
  obtain ⟨e1, e2⟩ := mod_two p1 p2 q1 q2 h.1 h.2
  exact Prod.ext e1 e2
theorem mod_one {a b c : Nat} (hb : b < 256) (hc : c < 256) (h : (a + b + 1) % 10007 = (a + c + 1) % 10007) : b = c := by omega
theorem nextP_byte {p : Nat × Nat} {b c : UInt8} (h : nextP p b = nextP p c) : b = c := by
  unfold nextP at h
  rw [Prod.mk.injEq] at h
  exact UInt8.toNat_inj.1 (mod_one b.toNat_lt c.toNat_lt h.1)
theorem chainP_inj {p q : Nat × Nat} (hp : InP p) (hq : InP q) (bs : List UInt8) (h : chainP p bs = chainP q bs) : p = q := by
  induction bs generalizing p q with
  | nil => exact h
  | cons b bs ih => exact nextP_inj hp hq (ih (nextP_in _ _) (nextP_in _ _) h)
theorem chainP_set {p : Nat × Nat} (hp : InP p) (bs : List UInt8) (i : Nat) (hi : i < bs.length) (c : UInt8) (h : chainP p bs = chainP p (bs.set i c)) : bs[i] = c := by
  induction bs generalizing p i with
  | nil => simp at hi
  | cons b bs ih =>
    cases i with
    | zero => exact nextP_byte (chainP_inj (nextP_in _ _) (nextP_in _ _) bs h)
    | succ i => exact ih (nextP_in p b) i (by simpa using hi) h
theorem fourB_inj {p q : Nat × Nat} (hp : InP p) (hq : InP q) (h : fourB p = fourB q) : p = q := by
  obtain ⟨x, y⟩ := p
  obtain ⟨u, v⟩ := q
  obtain ⟨p1, p2⟩ := hp
  obtain ⟨q1, q2⟩ := hq
  unfold fourB at h
  simp only [List.cons.injEq, and_true] at h
  obtain ⟨h1, h2, h3, h4⟩ := h
  have t1 := congrArg UInt8.toNat h1
  have t2 := congrArg UInt8.toNat h2
  have t3 := congrArg UInt8.toNat h3
  have t4 := congrArg UInt8.toNat h4
  simp only [UInt8.toNat_ofNat'] at t1 t2 t3 t4
  dsimp only at *
  have e1 : x = u := by omega
  have e2 : y = v := by omega
  rw [e1, e2]

/-- Is the highest bit set? -/
def topB (x : UInt8) : Bool := decide (128 ≤ x.toNat)
/-- How many bytes till so many of them were without the highest bit. -/
def cntF : Nat → List Bool → Nat
  | 0, _ => 0
  | _ + 1, [] => 0
  | m + 1, true :: l => cntF (m + 1) l + 1
  | m + 1, false :: l => cntF m l + 1
theorem cnt_high (m : Nat) (xs : List UInt8) (h : ∀ x ∈ xs, topB x = true) (l : List Bool) : cntF (m + 1) (xs.map topB ++ l) = xs.length + cntF (m + 1) l := by
  induction xs with
  | nil => simp
  | cons x xs ih =>
    rw [List.map_cons, h x (by simp), List.cons_append, cntF, ih (fun y hy => h y (by simp [hy])), List.length_cons]
    omega
theorem hi_or (x : UInt8) : topB (x ||| 128) = true := by
  unfold topB
  rw [decide_eq_true_eq, UInt8.toNat_or]
  exact Nat.right_le_or
theorem hi_low (n : Nat) : topB (UInt8.ofNat (n % 128)) = false := by
  unfold topB
  rw [decide_eq_false_iff_not, UInt8.toNat_ofNat']
  omega
theorem cnt_short (m n : Nat) (l : List Bool) : cntF (m + 1) ((short1 n).map topB ++ l) = (short1 n).length + cntF m l := by
  unfold short1
  rw [List.map_append, List.append_assoc, cnt_high m _ (fun x hx => by obtain ⟨y, _, rfl⟩ := List.mem_map.1 hx; exact hi_or y)]
  rw [List.map_cons, List.map_nil, hi_low, List.singleton_append, cntF, List.length_append]
  simp
  omega
theorem cnt_shorts (L : List Int) (l : List Bool) : cntF L.length ((shorts L).map topB ++ l) = (shorts L).length := by
  induction L with
  | nil => simp [shorts, cntF]
  | cons n L ih =>
    have e : shorts (n :: L) = short1 n.toNat ++ shorts L := by simp [shorts]
    rw [e, List.map_append, List.append_assoc, List.length_cons, cnt_short, ih, List.length_append]

theorem body_len {es es' : List Ent} (hl : es.length = es'.length) {r r' : List UInt8} (h : ((blkBody es ++ r).drop 1).map topB = ((blkBody es' ++ r').drop 1).map topB) : (blkBody es).length = (blkBody es').length := by
  have e : ∀ es r, (blkBody es ++ r).drop 1 = shorts (entInts es) ++ r := fun es r => by
    show es.flatMap entS ++ r = _
    rw [shorts_ints]
  rw [e, e, List.map_append, List.map_append] at h
  have h1 := cnt_shorts (entInts es) (r.map topB)
  have h2 := cnt_shorts (entInts es') (r'.map topB)
  rw [entInts_len] at h1 h2
  rw [h, hl, h2] at h1
  unfold blkBody
  rw [List.length_cons, List.length_cons, ← shorts_ints, ← shorts_ints, h1]

theorem get_left {A F X : List UInt8} (e : X = A ++ F) {j : Nat} (hj : j < X.length) (hA : j < A.length) : X[j] = A[j] := by
  subst e; exact List.getElem_append_left hA
theorem get_right {A F X : List UInt8} (e : X = A ++ F) {j : Nat} (hj : j < X.length) (hA : A.length ≤ j) (hF : j - A.length < F.length) : X[j] = F[j - A.length] := by
  subst e; exact List.getElem_append_right hA
theorem harm_none {p : Nat × Nat} (hp : InP p) {es : List Ent} (hok : blkOk es = true) (i : Nat) (h1 : 1 ≤ i) (hi : i < (blkS p es).length) (c : UInt8) (hc : topB c = topB (blkS p es)[i]) (hne : c ≠ (blkS p es)[i]) (tail : List UInt8) :
    nextS p ((blkS p es).set i c ++ tail) = none := by
  cases hn : nextS p ((blkS p es).set i c ++ tail) with
  | none => rfl
  | some x =>
    exfalso
    obtain ⟨es', r⟩ := x
    obtain ⟨hok', hX⟩ := (nextS_iff _ _ _ _).1 hn
    have hlen : es.length = es'.length := by
      have h0 : ((blkS p es).set i c ++ tail)[0]? = (blkS p es' ++ r)[0]? := by rw [hX]
      obtain ⟨j, rfl⟩ : ∃ j, i = j + 1 := ⟨i - 1, by omega⟩
      rw [show blkS p es = UInt8.ofNat es.length :: (es.flatMap entS ++ fourB (chainP p (blkBody es))) from rfl, show blkS p es' = UInt8.ofNat es'.length :: (es'.flatMap entS ++ fourB (chainP p (blkBody es'))) from rfl] at h0
      simp only [List.set_cons_succ, List.cons_append, List.getElem?_cons_zero, Option.some.injEq] at h0
      have h2 := congrArg UInt8.toNat h0
      simp only [UInt8.toNat_ofNat'] at h2
      have a1 := ((blkOk_iff es).1 hok).1
      have a2 := ((blkOk_iff es').1 hok').1
      omega
    have hmap : ((blkS p es).set i c ++ tail).map topB = (blkS p es ++ tail).map topB := by
      rw [List.map_append, List.map_append, List.map_set, hc, ← List.getElem_map topB (h := by simpa using hi), List.set_getElem_self]
    have hbl : (blkBody es).length = (blkBody es').length := by
      refine body_len (r := fourB (chainP p (blkBody es)) ++ tail) (r' := fourB (chainP p (blkBody es')) ++ r) hlen ?_
      rw [List.map_drop, List.map_drop, ← List.append_assoc, ← List.append_assoc]
      show ((blkS p es ++ tail).map topB).drop 1 = ((blkS p es' ++ r).map topB).drop 1
      rw [← hmap, hX]
    have h4 : ∀ q : Nat × Nat, (fourB q).length = 4 := fun _ => rfl
    by_cases hib : i < (blkBody es).length
    · have e1 : (blkS p es).set i c = (blkBody es).set i c ++ fourB (chainP p (blkBody es)) := by
        unfold blkS
        rw [List.set_append_left _ _ hib]
      rw [e1, show blkS p es' = blkBody es' ++ fourB (chainP p (blkBody es')) from rfl, List.append_assoc, List.append_assoc] at hX
      obtain ⟨e2, e3⟩ := List.append_inj hX (by rw [List.length_set]; exact hbl)
      obtain ⟨e4, _⟩ := List.append_inj e3 rfl
      have e5 := fourB_inj (chainP_in hp _) (chainP_in hp _) e4
      rw [← e2] at e5
      have e6 := chainP_set hp _ i hib c e5
      exact hne (e6.symm.trans (get_left rfl hi hib).symm)
    · have hi4 : i < (blkBody es).length + 4 := by
        have : (blkS p es).length = (blkBody es).length + 4 := by unfold blkS; rw [List.length_append]; rfl
        omega
      have e1 : (blkS p es).set i c = blkBody es ++ (fourB (chainP p (blkBody es))).set (i - (blkBody es).length) c := by
        unfold blkS
        rw [List.set_append_right _ _ (by omega)]
      rw [e1, show blkS p es' = blkBody es' ++ fourB (chainP p (blkBody es')) from rfl, List.append_assoc, List.append_assoc] at hX
      obtain ⟨e2, e3⟩ := List.append_inj hX hbl
      obtain ⟨e4, _⟩ := List.append_inj e3 (by rw [List.length_set]; rfl)
      rw [← e2] at e4
      apply hne
      have e5 : ((fourB (chainP p (blkBody es))).set (i - (blkBody es).length) c)[i - (blkBody es).length]? = some c := by
        rw [List.getElem?_set_self (by rw [h4]; omega)]
      rw [e4] at e5
      obtain ⟨e6, e7⟩ := List.getElem?_eq_some_iff.1 e5
      exact e7.symm.trans (get_right rfl hi (by omega) e6).symm

theorem blocksS_split (k : Nat) : ∀ (p : Nat × Nat) (l : List Ent), 4 * k ≤ l.length → blocksS p l = blocksS p (l.take (4 * k)) ++ blocksS (chunkP p (chunks4 (l.take (4 * k)))) (l.drop (4 * k)) := by
  induction k with
  | zero => intro p l _; simp [blocksS_nil, chunks4_nil, chunkP]
  | succ k ih =>
    intro p l h
    have h0 : 0 < l.length := by omega
    have h0' : 0 < (l.take (4 * (k + 1))).length := by rw [List.length_take]; omega
    rw [blocksS_cons p l h0, ih _ (l.drop 4) (by rw [List.length_drop]; omega), blocksS_cons p (l.take (4 * (k + 1))) h0', chunks4_cons _ h0', List.take_take, Nat.min_eq_left (by omega), List.drop_take, show 4 * (k + 1) - 4 = 4 * k from by omega, List.drop_drop, show 4 + 4 * k = 4 * (k + 1) from by omega, List.append_assoc]
    rfl

theorem harm_plain {f : Nat} (h1 : 1 ≤ f) (h2 : f ≤ 1073741824) {l : List Ent} (hl : allOk l = true) {B : List UInt8} (hB : fileS (f : Int) l = (0, B)) {a at_ : Nat} (ha4 : a % 4 = 0) (hal : a < l.length)
    (hs : (fileS (f : Int) (l.take a)).2.length < at_) (he : at_ < (fileS (f : Int) (l.take (a + 4))).2.length) (hat : at_ < B.length) (c : UInt8) (hc : topB c = topB B[at_]) (hne : c ≠ B[at_]) :
    ∃ q, lookS (B.set at_ c) = ⟨0, f, l.take a, (fileS (f : Int) (l.take a)).2.length, q⟩ := by
  have hh := headS_okC h1 h2
  have hput := look_put hh (allOk_take_of a hl)
  rw [file_ok hh hl] at hB
  rw [file_ok hh (allOk_take_of a hl)] at hs hput ⊢
  rw [file_ok hh (allOk_take_of (a + 4) hl)] at he
  dsimp only at hs he hput ⊢
  obtain ⟨k, rfl⟩ : ∃ k, a = 4 * k := ⟨a / 4, by omega⟩
  have hin : InP (endQ (f : Int) (l.take (4 * k))) := chunkP_in (chainP_in ⟨by decide, by decide⟩ _) _
  have hsp := blocksS_split k (chainP (0, 0) (headS (f : Int)).2) l (by omega)
  have hsp2 := blocksS_split k (chainP (0, 0) (headS (f : Int)).2) (l.take (4 * k + 4)) (by rw [List.length_take]; omega)
  rw [List.take_take, Nat.min_eq_left (by omega), List.drop_take, show 4 * k + 4 - 4 * k = 4 from by omega] at hsp2
  have h0 : 0 < (l.drop (4 * k)).length := by rw [List.length_drop]; omega
  have hq : chunkP (chainP (0, 0) (headS (f : Int)).2) (chunks4 (l.take (4 * k))) = endQ (f : Int) (l.take (4 * k)) := rfl
  rw [hq] at hsp hsp2
  rw [blocksS_cons _ _ h0] at hsp
  have h04 : 0 < ((l.drop (4 * k)).take 4).length := by rw [List.length_take]; omega
  rw [blocksS_cons _ _ h04, List.take_take, Nat.min_self, List.drop_eq_nil_of_le (show ((l.drop (4 * k)).take 4).length ≤ 4 by rw [List.length_take]; omega), blocksS_nil, List.append_nil] at hsp2
  have hok : blkOk ((l.drop (4 * k)).take 4) = true := blkOk_take4 h0 (allOk_drop_of _ hl)
  rw [hsp2] at he
  injection hB with _ hB
  rw [hsp, ← List.append_assoc] at hB
  rw [← List.append_assoc] at he
  generalize (headS (f : Int)).2 ++ blocksS (chainP (0, 0) (headS (f : Int)).2) (l.take (4 * k)) = pre at *
  generalize endQ (f : Int) (l.take (4 * k)) = q at *
  generalize blocksS (chainP q (blkBody ((l.drop (4 * k)).take 4))) ((l.drop (4 * k)).drop 4) = tl at *
  obtain ⟨i, rfl⟩ : ∃ i, at_ = pre.length + i := ⟨at_ - pre.length, by omega⟩
  rw [List.length_append] at he
  subst hB
  have hib : i < (blkS q ((l.drop (4 * k)).take 4)).length := by omega
  have hget : (pre ++ (blkS q ((l.drop (4 * k)).take 4) ++ tl))[pre.length + i] = (blkS q ((l.drop (4 * k)).take 4))[i] := by
    rw [List.getElem_append_right (by omega)]
    simp only [Nat.add_sub_cancel_left]
    rw [List.getElem_append_left hib]
  rw [hget] at hc hne
  have hset : (pre ++ (blkS q ((l.drop (4 * k)).take 4) ++ tl)).set (pre.length + i) c = pre ++ ((blkS q ((l.drop (4 * k)).take 4)).set i c ++ tl) := by
    rw [List.set_append_right _ _ (by omega), Nat.add_sub_cancel_left, List.set_append_left _ _ hib]
  rw [hset, hput, scanS_none (harm_none hin hok i (by omega) hib c hc hne tl)]
  refine ⟨q, ?_⟩
  simp

theorem seg_facts {f : Nat} (h1 : 1 ≤ f) (h2 : f ≤ 1073741824) {l : List Ent} (hl : allOk l = true) (h0 : 0 < l.length) :
    ∃ (B H : List UInt8) (L : Nat → Nat), fileS (f : Int) l = (0, B) ∧ headS (f : Int) = (0, H) ∧ 0 < H.length ∧ B.length ≤ 6 + 20 * l.length ∧ H.length < B.length ∧ H.length ≤ 6 ∧ L 0 = H.length ∧ (∀ k, l.length ≤ k → L k = B.length) ∧
      (∀ k, ∃ C, fileS (f : Int) (l.take k) = (0, C) ∧ C.length = L k ∧ C.length ≤ 6 + 20 * l.length) ∧
      (∀ a at_ : Nat, a % 4 = 0 → a < l.length → L a < at_ → at_ < L (a + 4) → ∀ hat : at_ < B.length, ∀ c, topB c = topB B[at_] → c ≠ B[at_] → ∃ q, lookS (B.set at_ c) = ⟨0, f, l.take a, L a, q⟩) := by
  have hh := headS_okC h1 h2
  have hHl := headS_len (f : Int)
  have hfl := file_len (f : Int) l
  have hfile := file_ok hh hl
  refine ⟨(fileS (f : Int) l).2, (headS (f : Int)).2, fun k => (fileS (f : Int) (l.take k)).2.length, by rw [hfile], by rw [← hh], ?_, hfl, ?_, hHl, ?_, ?_, ?_, ?_⟩
  · unfold headS
    rw [if_pos ⟨by rw [numB_true]; omega, by omega⟩]
    simp
  · rw [hfile, List.length_append, blocksS_cons _ _ h0, List.length_append]
    unfold blkS blkBody
    simp
    omega
  · dsimp only
    rw [List.take_zero, file_ok hh rfl, List.length_append, blocksS_nil]
    simp
  · intro k hk
    dsimp only
    rw [List.take_of_length_le hk]
  · intro k
    have := file_len (f : Int) (l.take k)
    rw [List.length_take] at this
    exact ⟨_, file_eta hh (allOk_take_of k hl), rfl, by omega⟩
  · intro a at_ ha4 hal hs he hat c hc hne
    exact harm_plain h1 h2 hl (by rw [hfile]) ha4 hal hs he hat c hc hne

/-- A byte changed below its highest bit. -/
theorem xor_top (x b : UInt8) (hb : b.toNat < 128) : topB (x ^^^ b) = topB x := by
  have key : ∀ n : Nat, n < 256 → decide (128 ≤ n) = n.testBit 7 := by
    intro n hn
    rw [Nat.testBit_eq_decide_div_mod_eq]
    congr 1
    apply propext
    omega
  unfold topB
  rw [key _ (UInt8.toNat_lt _), key _ (UInt8.toNat_lt _), UInt8.toNat_xor, Nat.testBit_xor, ← key b.toNat (by omega), decide_eq_false (by omega)]
  simp
theorem xor_ne (x b : UInt8) (hb : b ≠ 0) : x ^^^ b ≠ x := by
  intro h
  apply hb
  have : x ^^^ (x ^^^ b) = x ^^^ x := by rw [h]
  rwa [← UInt8.xor_assoc, UInt8.xor_self, UInt8.zero_xor] at this

theorem blocks_plain {p q : Nat × Nat} (hp : InP p) (hq : InP q) {l : List Ent} (hok : blkOk l = true) : (scanS q (blkS p l)).1 = if p = q then l else [] := by
  have ht := takenS_put hok (fourB (chainP p (blkBody l)))
  by_cases h : p = q
  · subst h
    rw [if_pos rfl]
    have hn : nextS p (blkS p l) = some (l, []) := (nextS_iff _ _ _ _).2 ⟨hok, by simp⟩
    rw [scanS_some hn, scan_nil]
    simp
  · rw [if_neg h]
    have hn : nextS q (blkS p l) = none := by
      unfold nextS
      rw [show blkS p l = blkBody l ++ fourB (chainP p (blkBody l)) from rfl, ht]
      dsimp only
      rw [if_neg]
      rintro ⟨_, h2⟩
      rw [List.take_of_length_le (by rw [fourB_len]; exact Nat.le_refl _)] at h2
      exact h (chainP_inj hp hq _ (fourB_inj (chainP_in hp _) (chainP_in hq _) h2))
    rw [scanS_none hn]
end Go.Proofs.YtkpdlkikkcnhiaaDoor

namespace Go.Proofs.YtkpdlkikkcnhiaaDoor
open Go.RowKit Go.Mv

/-- A state. -/
structure Sta where
  idx : Int
  term : Int
  sum : Int
  lvl : Int
  fin : Bool
/-- May it be? -/
def Sta.ok (s : Sta) : Bool :=
  if s.idx = 0 then decide (s.term = 0 ∧ s.sum = 0 ∧ s.lvl = 1 ∧ s.fin = false)
  else (if s.fin = true then decide (s.lvl = 2) else decide (s.lvl = 1 ∨ s.lvl = 2)) && numB s.idx && decide (0 < s.term) && numB s.term && numB s.sum
def Sta.finI (s : Sta) : Int := if s.fin = true then 1 else 0
def Sta.ints (s : Sta) : List Int := [s.idx, s.term, s.sum, s.lvl, s.finI]
theorem Sta.okP {s : Sta} (h : s.ok = true) : numB s.idx = true ∧ numB s.term = true ∧ numB s.sum = true ∧ (s.lvl = 1 ∨ s.lvl = 2) := by
  unfold Sta.ok at h
  split at h
  · rename_i h0
    have := of_decide_eq_true h
    obtain ⟨h1, h2, h3, h4⟩ := this
    rw [h0, h1, h2, h3]
    exact ⟨by decide, by decide, by decide, .inl rfl⟩
  · simp only [Bool.and_eq_true] at h
    obtain ⟨⟨⟨⟨h1, h2⟩, h3⟩, h4⟩, h5⟩ := h
    refine ⟨h2, h4, h5, ?_⟩
    split at h1
    · exact .inr (of_decide_eq_true h1)
    · exact of_decide_eq_true h1
theorem Sta.finP (s : Sta) : s.finI = 0 ∨ s.finI = 1 := by unfold Sta.finI; split <;> simp
theorem Sta.nums {s : Sta} (h : s.ok = true) : allNum s.ints = true := by
  obtain ⟨h1, h2, h3, h4⟩ := Sta.okP h
  have h5 : numB s.lvl = true := by rcases h4 with e | e <;> rw [e] <;> decide
  have h6 : numB s.finI = true := by rcases s.finP with e | e <;> rw [e] <;> decide
  simp [allNum, Sta.ints, h1, h2, h3, h5, h6]

/-- A text's pieces behind a point, each with its chain's four bytes. -/
def piecesS (z : Nat × Nat) (t : List UInt8) : List UInt8 :=
  if h : t = [] then [] else t.take 4 ++ (fourB (chainP z (t.take 4)) ++ piecesS (chainP z (t.take 4)) (t.drop 4))
termination_by t.length
decreasing_by
  have : 0 < t.length := List.length_pos_iff.2 h
  simp; omega
theorem piecesS_nil (z : Nat × Nat) : piecesS z [] = [] := by rw [piecesS]; simp
theorem piecesS_cons (z : Nat × Nat) (t : List UInt8) (h : 0 < t.length) : piecesS z t = t.take 4 ++ (fourB (chainP z (t.take 4)) ++ piecesS (chainP z (t.take 4)) (t.drop 4)) := by
  rw [piecesS, dif_neg (fun e => by rw [e] at h; simp at h)]
theorem piecesS_len (z : Nat × Nat) (t : List UInt8) : (piecesS z t).length = t.length + (t.length + 3) / 4 * 4 := by
  generalize hn : t.length = n
  induction n using Nat.strongRecOn generalizing z t with
  | _ n ih =>
    rcases Nat.eq_zero_or_pos t.length with h | h
    · have : t = [] := List.eq_nil_of_length_eq_zero h
      subst this
      rw [piecesS_nil]
      simp at hn
      subst hn
      rfl
    · have h1 := ih (t.drop 4).length (by simp; omega) (chainP z (t.take 4)) (t.drop 4) rfl
      rw [piecesS_cons z t h, List.length_append, List.length_append, h1, fourB_len, List.length_take, List.length_drop]
      omega
/-- Pieces without their chains. -/
def unpS (b : List UInt8) : List UInt8 :=
  if h : b = [] then [] else (b.take 8).take ((b.take 8).length - 4) ++ unpS (b.drop 8)
termination_by b.length
decreasing_by
  have : 0 < b.length := List.length_pos_iff.2 h
  simp; omega
theorem unpS_nil : unpS [] = [] := by rw [unpS]; simp
theorem unpS_cons (b : List UInt8) (h : 0 < b.length) : unpS b = (b.take 8).take ((b.take 8).length - 4) ++ unpS (b.drop 8) := by
  rw [unpS, dif_neg (fun e => by rw [e] at h; simp at h)]
theorem four_list (p : Nat × Nat) : ∃ a b c d, fourB p = [a, b, c, d] := ⟨_, _, _, _, rfl⟩
/-- Of a great text's pieces the first eight bytes are the first piece. -/
theorem pieces_great (z : Nat × Nat) (t X : List UInt8) (h : 4 ≤ t.length) : unpS (piecesS z t ++ X) = t.take 4 ++ unpS (piecesS (chainP z (t.take 4)) (t.drop 4) ++ X) := by
  have h4 : (t.take 4).length = 4 := by rw [List.length_take]; omega
  have h8 : (t.take 4 ++ fourB (chainP z (t.take 4))).length = 8 := by rw [List.length_append, h4, fourB_len]
  have e : piecesS z t ++ X = (t.take 4 ++ fourB (chainP z (t.take 4))) ++ (piecesS (chainP z (t.take 4)) (t.drop 4) ++ X) := by
    rw [piecesS_cons z t (by omega)]; simp only [List.append_assoc]
  rw [e, unpS_cons _ (by rw [List.length_append, h8]; omega), List.take_left' h8, List.drop_left' h8, h8, show 8 - 4 = 4 from rfl, List.take_left' h4]
theorem unp_pieces (z : Nat × Nat) (t : List UInt8) : unpS (piecesS z t) = t := by
  generalize hn : t.length = n
  induction n using Nat.strongRecOn generalizing z t with
  | _ n ih =>
    by_cases h4 : 4 ≤ t.length
    · have h := pieces_great z t [] h4
      rw [List.append_nil, List.append_nil] at h
      rw [h, ih (t.drop 4).length (by rw [List.length_drop]; omega) _ (t.drop 4) rfl, List.take_append_drop]
    · rcases Nat.eq_zero_or_pos t.length with h | h
      · have : t = [] := List.eq_nil_of_length_eq_zero h
        subst this; rw [piecesS_nil, unpS_nil]
      · have ht : t.take 4 = t := List.take_of_length_le (by omega)
        have hd : t.drop 4 = [] := List.drop_of_length_le (by omega)
        rw [piecesS_cons z t h, ht, hd, piecesS_nil, List.append_nil]
        have hl : (t ++ fourB (chainP z t)).length = t.length + 4 := by rw [List.length_append, fourB_len]
        rw [unpS_cons _ (by omega), List.take_of_length_le (l := t ++ fourB (chainP z t)) (i := 8) (by omega), hl, Nat.add_sub_cancel, List.take_left, List.drop_of_length_le (by omega), unpS_nil, List.append_nil]
/-- With a byte more the text is there, and perhaps one more. -/
theorem unp_more (z : Nat × Nat) (t : List UInt8) (x : UInt8) : ∃ r, unpS (piecesS z t ++ [x]) = t ++ r := by
  generalize hn : t.length = n
  induction n using Nat.strongRecOn generalizing z t with
  | _ n ih =>
    by_cases h4 : 4 ≤ t.length
    · obtain ⟨r, hr⟩ := ih (t.drop 4).length (by rw [List.length_drop]; omega) (chainP z (t.take 4)) (t.drop 4) rfl
      refine ⟨r, ?_⟩
      rw [pieces_great z t [x] h4, hr, ← List.append_assoc, List.take_append_drop]
    · rcases Nat.eq_zero_or_pos t.length with h | h
      · have : t = [] := List.eq_nil_of_length_eq_zero h
        subst this
        exact ⟨unpS (piecesS z [] ++ [x]), by simp⟩
      · have ht : t.take 4 = t := List.take_of_length_le (by omega)
        have hd : t.drop 4 = [] := List.drop_of_length_le (by omega)
        obtain ⟨a, b, c, d, hf⟩ := four_list (chainP z t)
        rw [piecesS_cons z t h, ht, hd, piecesS_nil, List.append_nil, hf]
        have hl : (t ++ [a, b, c, d] ++ [x]).length = t.length + 5 := by simp
        refine ⟨[a], ?_⟩
        rw [unpS_cons _ (by omega), List.take_of_length_le (l := t ++ [a, b, c, d] ++ [x]) (i := 8) (by omega), hl, show t.length + 5 - 4 = t.length + 1 from by omega, List.drop_of_length_le (by omega), unpS_nil, List.append_nil,
          List.append_assoc, List.take_length_add_append]
        rfl
/-- With a byte fewer the text's last one lacks. -/
theorem unp_fewer (z : Nat × Nat) (t : List UInt8) (h0 : 0 < t.length) : unpS ((piecesS z t).take ((piecesS z t).length - 1)) = t.take (t.length - 1) := by
  generalize hn : t.length = n
  induction n using Nat.strongRecOn generalizing z t with
  | _ n ih =>
    by_cases h4 : 5 ≤ t.length
    · have hi := ih (t.drop 4).length (by rw [List.length_drop]; omega) (chainP z (t.take 4)) (t.drop 4) (by rw [List.length_drop]; omega) rfl
      have h44 : (t.take 4).length = 4 := by rw [List.length_take]; omega
      have h8 : (t.take 4 ++ fourB (chainP z (t.take 4))).length = 8 := by rw [List.length_append, h44, fourB_len]
      have e : piecesS z t = (t.take 4 ++ fourB (chainP z (t.take 4))) ++ piecesS (chainP z (t.take 4)) (t.drop 4) := by
        rw [piecesS_cons z t (by omega)]; simp only [List.append_assoc]
      have hpl := piecesS_len (chainP z (t.take 4)) (t.drop 4)
      rw [List.length_drop] at hpl hi
      rw [e, List.length_append, h8, show 8 + (piecesS (chainP z (t.take 4)) (t.drop 4)).length - 1 = (t.take 4 ++ fourB (chainP z (t.take 4))).length + ((piecesS (chainP z (t.take 4)) (t.drop 4)).length - 1) from by rw [h8]; omega, List.take_length_add_append,
        unpS_cons _ (by rw [List.length_append, h8]; omega), List.take_left' h8, List.drop_left' h8, h8, show 8 - 4 = 4 from rfl, List.take_left' h44, hi]
      rw [← hn]
      have h9 : List.take (4 + (t.length - 4 - 1)) t = List.take 4 t ++ List.take (t.length - 4 - 1) (List.drop 4 t) := List.take_add ..
      rw [← h9]
      congr 1
      omega
    · have ht : t.take 4 = t := List.take_of_length_le (by omega)
      have hd : t.drop 4 = [] := List.drop_of_length_le (by omega)
      have e : piecesS z t = t ++ fourB (chainP z t) := by rw [piecesS_cons z t h0, ht, hd, piecesS_nil, List.append_nil]
      have hl : (piecesS z t).length = t.length + 4 := by rw [e, List.length_append, fourB_len]
      have hl2 : ((piecesS z t).take ((piecesS z t).length - 1)).length = t.length + 3 := by rw [List.length_take, hl]; omega
      rw [unpS_cons _ (by omega), List.take_of_length_le (l := (piecesS z t).take ((piecesS z t).length - 1)) (i := 8) (by omega), hl2, List.drop_of_length_le (by omega), unpS_nil, List.append_nil, List.take_take, hl, show min (t.length + 3 - 4) (t.length + 4 - 1) = t.length - 1 from by omega, e,
        List.take_append_of_le_length (by omega), hn]

/-- Two texts' pieces differ in more than one byte. -/
theorem pieces_harm {z : Nat × Nat} (hz : InP z) (t t' : List UInt8) (hl : t.length = t'.length) (i : Nat) (hi : i < (piecesS z t).length) (c : UInt8) (hc : c ≠ (piecesS z t)[i]) (h : piecesS z t' = (piecesS z t).set i c) : False := by
  generalize hn : t.length = n
  induction n using Nat.strongRecOn generalizing z t t' i with
  | _ n ih =>
    rcases Nat.eq_zero_or_pos t.length with h0 | h0
    · have : t = [] := List.eq_nil_of_length_eq_zero h0
      subst this
      rw [piecesS_nil] at hi
      simp at hi
    · have e := piecesS_cons z t h0
      have e' := piecesS_cons z t' (by omega)
      have hlt : (t.take 4).length = (t'.take 4).length := by rw [List.length_take, List.length_take, hl]
      have hz1 := chainP_in hz (t.take 4)
      have hz2 := chainP_in hz (t'.take 4)
      have hget : ∀ (hi' : i < (t.take 4 ++ (fourB (chainP z (t.take 4)) ++ piecesS (chainP z (t.take 4)) (t.drop 4))).length), (piecesS z t)[i] = (t.take 4 ++ (fourB (chainP z (t.take 4)) ++ piecesS (chainP z (t.take 4)) (t.drop 4)))[i] := by
        intro hi'
        congr 1
      have hi' : i < (t.take 4 ++ (fourB (chainP z (t.take 4)) ++ piecesS (chainP z (t.take 4)) (t.drop 4))).length := by rw [← e]; exact hi
      rw [hget hi'] at hc
      rw [e, e'] at h
      clear hget hi e e'
      by_cases h1 : i < (t.take 4).length
      · rw [List.set_append_left _ _ h1] at h
        obtain ⟨a1, a2⟩ := List.append_inj h (by rw [List.length_set]; exact hlt.symm)
        obtain ⟨b1, _⟩ := List.append_inj a2 (by rw [fourB_len, fourB_len])
        have b2 := fourB_inj hz2 hz1 b1
        rw [a1] at b2
        have b3 := chainP_set hz (t.take 4) i h1 c b2.symm
        rw [List.getElem_append_left h1] at hc
        exact hc b3.symm
      · rw [List.set_append_right _ _ (by omega)] at h
        obtain ⟨a1, a2⟩ := List.append_inj h hlt.symm
        rw [List.getElem_append_right (by omega)] at hc
        by_cases h2 : i - (t.take 4).length < 4
        · rw [List.set_append_left _ _ (by rw [fourB_len]; exact h2)] at a2
          obtain ⟨b1, _⟩ := List.append_inj a2 (by rw [List.length_set, fourB_len, fourB_len])
          rw [a1] at b1
          rw [List.getElem_append_left (by rw [fourB_len]; exact h2)] at hc
          apply hc
          have e5 : ((fourB (chainP z (t.take 4))).set (i - (t.take 4).length) c)[i - (t.take 4).length]? = some c := List.getElem?_set_self (by rw [fourB_len]; exact h2)
          rw [← b1] at e5
          obtain ⟨_, e7⟩ := List.getElem?_eq_some_iff.1 e5
          exact e7.symm
        · rw [List.set_append_right _ _ (by rw [fourB_len]; omega)] at a2
          obtain ⟨_, b2⟩ := List.append_inj a2 (by rw [fourB_len, fourB_len])
          rw [a1] at b2
          rw [List.getElem_append_right (by rw [fourB_len]; omega)] at hc
          rw [List.length_append, List.length_append, fourB_len] at hi'
          rw [fourB_len] at b2
          refine ih (t.drop 4).length (by rw [List.length_drop]; omega) hz1 (t.drop 4) (t'.drop 4) (by rw [List.length_drop, List.length_drop, hl]) (i - (t.take 4).length - 4) (by omega) ?_ b2 rfl
          intro e
          apply hc
          rw [e]
          congr 1
theorem pieces_app (k : Nat) : ∀ (z : Nat × Nat) (t m : List UInt8), t.length = 4 * k → ∃ z', piecesS z (t ++ m) = piecesS z t ++ piecesS z' m := by
  induction k with
  | zero =>
    intro z t m h
    have : t = [] := List.eq_nil_of_length_eq_zero (by omega)
    subst this
    exact ⟨z, by rw [piecesS_nil]; rfl⟩
  | succ k ih =>
    intro z t m h
    obtain ⟨z', hz'⟩ := ih (chainP z (t.take 4)) (t.drop 4) m (by rw [List.length_drop]; omega)
    refine ⟨z', ?_⟩
    rw [piecesS_cons z t (by omega), piecesS_cons z (t ++ m) (by rw [List.length_append]; omega), List.take_append_of_le_length (by omega), List.drop_append_of_le_length (by omega), hz']
    simp only [List.append_assoc]
end Go.Proofs.YtkpdlkikkcnhiaaDoor

namespace Go.Proofs.YtkpdlkikkcnhiaaDoor
open Go.RowKit Go.Mv
set_option maxRecDepth 100000

theorem own_empty (W : World) (base : Nat) (hb : base ≤ W.heap.size) : (W.alloc (.cells #[] 5)).ownsRow base 5 1 (.slice (some ⟨W.heap.size, 0, none⟩) 0 0) 0 [] := own_new W [] 5 0 rfl (by simp [maxLen]) hb
theorem new_bytes (W : World) (l : List UInt8) (n : Nat) (hn : n = l.length) (hm : n ≤ maxLen) : Bs (W.alloc (.cells (l.map bv).toArray 5)) (.slice (some ⟨W.heap.size, 0, none⟩) n n) l := by
  subst hn
  exact SlR.of_own (own_new W (l.map bv) 5 l.length (by simp) hm (Nat.le_refl _))
end Go.Proofs.YtkpdlkikkcnhiaaDoor

namespace Go.Proofs.YtkpdlkikkcnhiaaDoor
open Go.RowKit Go.Mv

def sameEs (a b : List Ent) : Bool := decide (a = b)

end Go.Proofs.YtkpdlkikkcnhiaaDoor

namespace Go.Proofs.YtkpdlkikkcnhiaaDoor
open Go.RowKit Go.Mv
set_option maxRecDepth 100000

def OwnB (w : World) (base : Nat) (v : Value) (bs : List UInt8) : Prop := w.ownsRow base 5 1 v bs.length (bs.map bv)
/-- What was laid below the base stays. -/
def Grows (base : Nat) (w w' : World) : Prop := ∀ W0, Ext W0 w → W0.heap.size ≤ base → Ext W0 w'
theorem OwnB.bs {w : World} {base : Nat} {v : Value} {l : List UInt8} (h : OwnB w base v l) : Bs w v l := SlR.of_own h
theorem OwnB.ext {w w' : World} {base : Nat} {v : Value} {l : List UInt8} (h : OwnB w base v l) (he : Ext w w') : OwnB w' base v l := own_ext h he
theorem ownB_empty (W : World) : OwnB (W.alloc (.cells #[] 5)) W.heap.size (.slice (some ⟨W.heap.size, 0, none⟩) 0 0) [] := own_new W [] 5 0 rfl (by simp [maxLen]) (Nat.le_refl _)
theorem wpList_app_b {ops : Array Oper} {rest : List Oper} {o : Oper} {a : Act} {w : World} {Q : Exit → Act → World → Prop} (hgd : o.guard = none) (s x : Operand)
    (ho : o.op = .call { callee := .builtin .append, args := #[s, x], argTypes := #[24, 24] })
    (base : Nat) (v : Value) (bs : List UInt8) (hs : a.eval s = v) (hown : OwnB w base v bs) (vx : Value) (cs : List UInt8) (hx : a.eval x = vx) (hr : Bs w vx cs)
    (hlen : bs.length + cs.length ≤ 20000000) (hbase : base ≤ w.heap.size)
    (h : ∀ A c w', OwnB w' base (.slice A (bs.length + cs.length) c) (bs ++ cs) → Grows base w w' → wpList Tryd.prog ops Q rest (a.put o.dst (.slice A (bs.length + cs.length) c)) w') : wpList Tryd.prog ops Q (o :: rest) a w := by
  obtain ⟨i0, hi, hz0, hz1, hz2⟩ := info_parts info_u8
  refine wpList_append_sl _ hgd s x 24 ho base 5 i0 (.int .u8 0) 1 1 Tryd.underlying24 hi hz0 hz1 hz2 rfl (by decide) v bs.length (bs.map bv) hs hown vx cs.length (cs.map bv) hx hr (one_bv _) (by unfold maxLen; omega) (by omega) hbase ?_
  intro v' w' h1 h2
  obtain ⟨A, c, rfl, _, _⟩ := SlR.open_ (SlR.of_own h1)
  refine h A c w' ?_ (fun W0 hE hb => Ext.grownOwn hE (own_base hown hb) h2)
  unfold OwnB
  rw [List.length_append, List.map_append]
  exact h1

section
variable {P : Program} {ops : Array Oper} {Q : Exit → Act → World → Prop} {md : Region.Mode} {S : World → Prop}
theorem wpAnyH_takeL {i : Nat} {oi : Oper} {v : Value} {fuel : Nat} {listed : Array Bool} {a : Act} {w : World} (hi : ops.toList[i]? = some oi)
    (hs : Region.noSelect ops = true) (hf : Region.free md ops listed i = true) (hr : (Region.ready md ops listed).contains i = true)
    (hQ : ∀ c a w, Q (.panic c) (a.put oi.dst v) w → Q (.panic c) a w) (hw : Region.wanted oi (yielded ops a.tmps) = true) (hS : S w) (hy : ∀ w, S w → (execOp a.eval oi).run P w = .ok (.value v) w)
    (h : wpAnyH P md ops Q S fuel (listed.setIfInBounds i true) (a.put oi.dst v) w) : wpAnyH P md ops Q S (fuel + 1) listed a w :=
  wpAnyH_take (by simpa using hi) hs hf hr hQ (.inl ⟨hw, hy⟩) hS h
theorem wpAnyH_skipL {i : Nat} {oi : Oper} {fuel : Nat} {listed : Array Bool} {a : Act} {w : World} (hi : ops.toList[i]? = some oi)
    (hs : Region.noSelect ops = true) (hf : Region.free md ops listed i = true) (hr : (Region.ready md ops listed).contains i = true)
    (hQ : ∀ c a w, Q (.panic c) (a.put oi.dst undef) w → Q (.panic c) a w) (hw : Region.wanted oi (yielded ops a.tmps) = false) (hS : S w)
    (h : wpAnyH P md ops Q S fuel (listed.setIfInBounds i true) (a.put oi.dst undef) w) : wpAnyH P md ops Q S (fuel + 1) listed a w :=
  wpAnyH_take (by simpa using hi) hs hf hr hQ (.inr ⟨hw, rfl⟩) hS h
theorem AllReadyH.one {fuel : Nat} {listed : Array Bool} {a : Act} {w : World} {i : Nat} {o : Oper} (ho : ops.toList[i]? = some o) (hr : Region.ready md ops listed = [i]) (hw : Region.wanted o (yielded ops a.tmps) = true)
    (h : ∀ K' : Act → World → Prop, Shut (∀ a w, S w → (S w → wpAnyH P md ops Q S fuel (listed.setIfInBounds i true) a w) → K' a w) → Oper.wp P o a w K' Q) : wpAnyH P md ops Q S (fuel + 1) listed a w :=
  wpAnyH_ready hr (by simp) (AllReadyH.cons (by simpa using ho) (fun K hK => by rw [if_pos hw]; exact h K hK) AllReadyH.nil)
end
def set3 (W : World) (b : Nat) (a v u : Value) : World := ((W.setCell ⟨b, 0, none⟩ a).setCell ⟨b, 1, none⟩ v).setCell ⟨b, 2, none⟩ u
theorem own_set3 {W : World} {b : Nat} {t : TypeId} {a v u : Value} (hB : Blk W b t #[a, v, u]) {e : TypeId} (hte : t ≠ e) {base size k : Nat} {y : Value} {xs : List Value} (hr : W.ownsRow base e size y k xs) (a' v' u' : Value) : (set3 W b a' v' u').ownsRow base e size y k xs := by
  have r1 := hr.kept (grownBy_set _ b 0 a') (.inr (hB.not_row hte hr).symm)
  have b1 := hB.set 0 a'
  have r2 := r1.kept (grownBy_set _ b 1 v') (.inr (b1.not_row hte r1).symm)
  have b2 := b1.set 1 v'
  exact r2.kept (grownBy_set _ b 2 u') (.inr (b2.not_row hte r2).symm)
theorem ext_set3 {w W : World} (h : Ext w W) {b : Nat} (hle : w.heap.size ≤ b) (a v u : Value) : Ext w (set3 W b a v u) :=
  Below.setCell (p := ⟨b, 2, none⟩) (Below.setCell (p := ⟨b, 1, none⟩) (Below.setCell (p := ⟨b, 0, none⟩) h hle _) hle _) hle _
end Go.Proofs.YtkpdlkikkcnhiaaDoor
