/- Merged: AppB AppK LibT Calm HeldIn Itoa -/
import Derived.Test.YtmecffckghkahaaGreatDoorShadowSays21
import Derived.OrdersHeld
import Derived.Shelf.Strconv.Itoa0
import Derived.Shelf.Strconv.Itoa1
import Derived.Shelf.LaysM
import Derived.Shelf.Strconv.Itoa2
import Derived.Shelf.Strconv.Itoa3
import Derived.Test.YtmecffckghkahaaGreatDoorProg
set_option linter.all false
set_option maxHeartbeats 8000000
namespace Go.Mv
open Go.RowKit
theorem append_block {P : Program} (w : World) (base : Nat) (t ty e : TypeId) (i : TypeInfo) (z : Value) (size bytes : Nat) (ht : P.underlying t = some (.slice e)) (hi : P.info? e = some i) (hz : i.zero = some z)
  (hsize : i.size = size) (hby : i.bytes = bytes)
  (v : Value) (n : Nat) (xs : List Value) (hown : w.ownsRow base e size v n xs)
  (a : Addr) (m c : Nat) (news : List Value) (hl : news.length = m * size) (hm : 0 < m) (hnews : ∀ j u, news[j]? = some u → w.cell? (a.add j) = some u) (h1 : ∀ u ∈ news, u.oneCell' = true)
  (h63 : n + m ≤ maxLen) (hbytes : (n + m) * bytes ≤ 140737488355328) {v' : Value} {w' : World} (hrun : (Builtin.append_ #[t, t] ty #[v, .slice (some a) m c]).run P w = .ok v' w') : v'.ownBlock = v.ownBlock ∨ v'.ownBlock = some w.heap.size := by
 subst hsize
 subst hby
 have hsmall : n + m ≤ 9223372036854775807 := by simp only [maxLen] at h63; omega
 rcases hown.2 with ⟨rfl, rfl⟩ | ⟨g, cap, cur, rfl, hbg, hg, hnc, hcm, hcs, htake⟩
 ·have hr := run_append_nil (P := P) w t ty e i z ht hi hz a m c news hl hnews (by omega) (by omega) (by have hb := hbytes; simp only [Nat.zero_add] at hb; omega)
  rw [hr] at hrun
  cases hrun
  exact .inr rfl
 ·by_cases hroom : n + m ≤ cap
  ·have hfit : n * i.size + news.length ≤ cur.size := by rw [hl, hcs, ← Nat.add_mul]; exact Nat.mul_le_mul_right _ hroom
   have hr := run_append_room (P := P) w t ty e i ht hi g n cap cur hg a m c news hl hnews h1 hroom hfit
   rw [hr] at hrun
   cases hrun
   exact .inl rfl
  ·have holds : ∀ j u, xs[j]? = some u → w.cell? ((⟨g, 0, none⟩ : Addr).add j) = some u := hown.cells (g := g) rfl
   have hr := run_append_grow (P := P) w t ty e i z ht hi hz ⟨g, 0, none⟩ n cap xs hown.1 holds a m c news hl hnews (by omega) (by omega) (growslice_fits (by omega) hbytes)
   rw [hr] at hrun
   cases hrun
   exact .inr rfl
end Go.Mv

namespace Go.Proofs.YtmecffckghkahaaGreatDoor
open Go.RowKit Go.Mv
set_option maxRecDepth 100000
theorem wpList_app_kb {ops : Array Oper} {rest : List Oper} {o : Oper} {a : Act} {w : World} {Q : Exit → Act → World → Prop} (hgd : o.guard = none) (s x : Operand)
  (ho : o.op = .call { callee := .builtin .append, args := #[s, x], argTypes := #[25, 25] })
  (base : Nat) (v : Value) (bs : List Ent) (hs : a.eval s = v) (hown : OwnE w base v bs) (vx : Value) (cs : List Ent) (hx : a.eval x = vx) (hr : Es w vx cs) (hc0 : 0 < cs.length)
  (hlen : bs.length + cs.length ≤ 2000000) (hbase : base ≤ w.heap.size)
  (h : ∀ A c w', OwnE w' base (.slice A (bs.length + cs.length) c) (bs ++ cs) → Grows base w w' → w.grownBy w' v.ownBlock → ((Value.slice A (bs.length + cs.length) c).ownBlock = v.ownBlock ∨ (Value.slice A (bs.length + cs.length) c).ownBlock = some w.heap.size) → wpList Tryz.prog ops Q rest (a.put o.dst (.slice A (bs.length + cs.length) c)) w') : wpList Tryz.prog ops Q (o :: rest) a w := by
 obtain ⟨i0, hi, hz0, hz1, hz2⟩ := info_parts info_ent
 obtain ⟨v', w', hrun, h1, h2⟩ := run_append_sl (P := Tryz.prog) w base 25 o.type 100 i0 _ 3 24 Tryz.underlying25 hi hz0 hz1 hz2 rfl (by decide) v bs.length (entCells bs) hown vx cs.length (entCells cs) hr (one_ents _) (by unfold maxLen; omega) (by omega) hbase
 have hblk : v'.ownBlock = v.ownBlock ∨ v'.ownBlock = some w.heap.size := by
  obtain ⟨hl, A, c, rfl, _, _, hc⟩ := hr
  obtain ⟨b, off, rfl, hcell⟩ := hc hc0
  have hadd : ∀ j, (⟨b, off, none⟩ : Addr).add j = ⟨b, off + j, none⟩ := by intro j; unfold Addr.add; split <;> simp_all
  exact append_block (P := Tryz.prog) w base 25 o.type 100 i0 _ 3 24 Tryz.underlying25 hi hz0 hz1 hz2 v bs.length (entCells bs) hown ⟨b, off, none⟩ cs.length c (entCells cs) hl hc0 (fun j u hu => by rw [hadd]; exact hcell j u hu) (one_ents _) (by unfold maxLen; omega) (by omega) hrun
 refine wpList_plain hgd fun K hK => ?_
 unfold Oper.wp execOp
 simp only [ho, resolve, invoke, builtin, Sem.run_bind, Sem.run_pure, Result.andThen_ok, List.map_toArray, List.map_cons, List.map_nil, hs, hx, hrun]
 refine hK _ _ ?_
 obtain ⟨A, c, rfl, _, _⟩ := SlR.open_ (SlR.of_own h1)
 refine h A c w' ?_ (fun W0 hE hb => Ext.grownOwn hE (own_base hown hb) h2) h2 hblk
 unfold OwnE
 rw [List.length_append, show entCells (bs ++ cs) = entCells bs ++ entCells cs from by simp [entCells]]
 exact h1
end Go.Proofs.YtmecffckghkahaaGreatDoor

namespace Go.Mv
open Go.RowKit
def SeqT (P : Program) (gf : Nat) (lb : Array Value) {α : Type} (Rp : α → Array Value → World → Prop) (K M : Nat → Obj → Prop) (xs : List α) (W0 : World) : Prop :=
 ∀ (l : Nat) (J Jx : List α → World → Prop),
  (∀ s A B, J s A → Moves (orOther M W0.heap.size) A B → J s B) → (∀ s A B, Jx s A → Moves (orOther M W0.heap.size) A B → Jx s B) →
  (∀ pre x post, xs = pre ++ x :: post → ∀ (W : World) (av : Array Value), J pre W → W0.heap.size ≤ W.heap.size → Rp x av W → YieldsAt P l av W fun e W' =>
    (e = .returned (.bool true) ∧ Kept (orOther K W0.heap.size) W W' ∧ J (pre ++ [x]) W') ∨ (e = .returned (.bool false) ∧ Kept (orOther (fun _ _ => False) W0.heap.size) W W' ∧ Jx (pre ++ [x]) W')) →
  J [] W0 →
  Calls P gf (#[.func (.yield l) #[] #[]] ++ lb) W0 fun e W' => (∃ v, e = .returned v) ∧ (J xs W' ∨ ∃ pre, pre <+: xs ∧ Jx pre W')
def rdPostT {α : Type} (K Kx : Nat → Obj → Prop) (I : List α → World → Prop) (Ix : Code → List α → World → Prop) (xs : List α) (W : World) : Exit → Act → World → Prop
 | .normal, _, W' => Kept K W W' ∧ I xs W'
 | .ret, _, W' => Kept Kx W W' ∧ Ix .ret xs W'
 | .exit id, _, W' => Kept Kx W W' ∧ Ix (.exit id) xs W'
 | .goto t, _, W' => Kept Kx W W' ∧ Ix (.goto t) xs W'
 | .panic _, _, _ => False
 | .outgrown, _, _ => False
theorem range_coreT {P : Program} {α : Type} {ro : Option Nat} {n : Nat} {g : Operand} {ps : Array Tmp} {assign body : Code} {Q : Exit → Act → World → Prop} {a : Act} {w : World}
  {gf : Nat} {lb : Array Value} (hg : a.eval g = .func (.func gf) #[] lb) (eg : ∀ args w, (callFunc gf args).run P w = .ok (.enter gf args) w)
  {Rp : α → Array Value → World → Prop} {K M : Nat → Obj → Prop} {xs : List α}
  (hMc : ∀ k o, M k o → o.isCells = true) (hKc : ∀ k o, K k o → o.isCells = true) (hps : ∀ x av W, Rp x av W → av.size = ps.size)
  (I : List α → World → Prop) (Ix : Code → List α → World → Prop)
  (hI : ∀ s A B, I s A → Moves (orOther M w.heap.size) A B → I s B) (hIx : ∀ c s A B, Ix c s A → Moves (orOther M w.heap.size) A B → Ix c s B)
  (Ax : α → Act → World → Prop) (hAx : ∀ x a' A B, Ax x a' A → Moves (orOther (fun _ _ => False) w.heap.size) A B → Ax x a' B)
  (hassign : ∀ (l : Nat) (pre : List α) (x : α) (post : List α) (W : World) (av : Array Value) (K' : Act → World → Prop), xs = pre ++ x :: post → I pre W → w.heap.size ≤ W.heap.size → Rp x av W →
    (∀ a' W', Kept (orOther K w.heap.size) W W' → I pre W' → Ax x a' W' → K' a' W') →
    assign.wpIn (Wd (some l)) n P (Exit.then K' (fun _ _ _ => False)) { tmps := (ps.zip av).foldl (fun t (p, v) => t.setIfInBounds p v) a.tmps, defers := [] } W)
  (hbody : ∀ (l : Nat) (pre : List α) (x : α) (post : List α) (a' : Act) (W : World), xs = pre ++ x :: post → w.heap.size ≤ l → (∃ r, W.heap[l]? = some (.loop r)) → I pre W → w.heap.size ≤ W.heap.size → Ax x a' W →
    body.wpIn (Wd (some l)) n P (rdPostT (orOther K w.heap.size) (orOther (fun _ _ => False) w.heap.size) I Ix (pre ++ [x]) W) a' W)
  {fn : FuncId} {l : Nat} {mark : List Deferred} {W1 : World} {dfs : Nat} (hl0 : w.heap.size ≤ l)
  (hseq : SeqT P gf lb Rp K M xs W1) (hW1 : w.heap.size ≤ W1.heap.size)
  (henter : (Instr.enterLoop fn a.tmps ps assign body ro).run P w = .ok (l, mark) W1)
  (hL1 : W1.heap[l]? = some (.loop { state := .ready, pending := none, fn, tmps := a.tmps, params := ps, assign, body, defers := dfs }))
  (hI1 : I [] W1)
  (X : World → Prop) (hX : ∀ A B, X A → (∀ k o, A.heap[k]? = some o → w.heap.size ≤ k → k < W1.heap.size → k ≠ l → o.isCells = false → B.heap[k]? = some o) → X B) (hX1 : X W1)
  (hdone : ∀ W, I xs W → X W → Q .normal { a with defers := mark ++ a.defers } W)
  (hstop : ∀ c pre W, pre <+: xs → Ix c pre W → X W → c.wpIn (Wd ro) n P Q { a with defers := mark ++ a.defers } W) :
  ∃ (l : Nat) (mark : List Deferred) (w₁ : World) (d : Deferred) (w₁' : World) (f : FuncId) (args : Array Value) (w₂ : World),
   (Instr.enterLoop fn a.tmps ps assign body ro).run P w = .ok (l, mark) w₁ ∧
   (resolve a.eval (rangeCall g l) 0).run P w₁ = .ok d w₁' ∧
   (∀ f', Target.leads P w₁' d.target d.args = some f' → (Wd ro).fn f') ∧
   (invoke d.target d.args).run P w₁' = .ok (.enter f args) w₂ ∧
   ((Wd ro).depth.isSome = true → 1 ≤ n) ∧
   CallsIn (Wd ro) (n - 1) P f args w₂ (rangePost (Wd ro) n P l Q { a with defers := mark ++ a.defers }) := by
 obtain ⟨rec, hrec⟩ : ∃ rec : LoopState → Option Code → Loop, rec = fun st pe => { state := st, pending := pe, fn, tmps := a.tmps, params := ps, assign, body, defers := dfs } := ⟨_, rfl⟩
 have hL1' : W1.heap[l]? = some (.loop (rec .ready none)) := by rw [hrec]; exact hL1
 -- the record's own turns
 have put : ∀ (A : World) (o o' : Obj), A.heap[l]? = some o → o.isCells = false → Moves (orOther (fun _ _ => False) w.heap.size) A (A.putObj l o') := fun A o o' ho hc =>
  Moves.refl.putObj (fun o₁ h₁ => by rw [ho] at h₁; cases h₁; exact .inr ⟨hl0, hc⟩) o'
 have putI : ∀ s A o o', I s A → A.heap[l]? = some o → o.isCells = false → I s (A.putObj l o') := fun s A o o' hi ho hc =>
  hI s _ _ hi ((put A o o' ho hc).weaken (fun k o h => by rcases h with h | h; exact h.elim; exact .inr h))
 have putIx : ∀ c s A o o', Ix c s A → A.heap[l]? = some o → o.isCells = false → Ix c s (A.putObj l o') := fun c s A o o' hi ho hc =>
  hIx c s _ _ hi ((put A o o' ho hc).weaken (fun k o h => by rcases h with h | h; exact h.elim; exact .inr h))
 have hlt1 : l < W1.heap.size := (Array.getElem?_eq_some_iff.1 hL1').1
 have putX : ∀ A o', X A → X (A.putObj l o') := fun A o' hx => hX A _ hx (fun k o hk _ _ hne _ => (World.putObj_heap_other hne).trans hk)
 have keepX : ∀ {K' : Nat → Obj → Prop} (A B : World), X A → Kept (orOther K' w.heap.size) A B → X B := fun A B hx hk =>
  hX A B hx (fun k o ho hn _ _ hc => hk.same k o ho (.inr ⟨hn, hc⟩))
 have moveO : ∀ (A B : World) (k : Nat) (o : Obj), A.heap[k]? = some o → k < W1.heap.size → o.isCells = false → Moves (orOther M W1.heap.size) A B → B.heap[k]? = some o := fun A B k o ho hk hc hm =>
  hm.same k o ho (fun h => by
   rcases h with h | h
   ·have := hMc k o h; rw [hc] at this; cases this
   ·omega)
 have moveX : ∀ (A B : World), X A → Moves (orOther M W1.heap.size) A B → X B := fun A B hx hm =>
  hX A B hx (fun k o ho _ hlt _ hc => moveO A B k o ho hlt hc hm)
 have moveI : ∀ (A B : World), Moves (orOther M W1.heap.size) A B → Moves (orOther M w.heap.size) A B := fun A B hm =>
  hm.weaken (fun k o h => by rcases h with h | h; exact .inl h; exact .inr ⟨by omega, h.2⟩)
 refine ⟨l, mark, W1, { target := .fn (.func gf) lb, args := #[.func (.yield l) #[] #[]] }, W1, gf, #[.func (.yield l) #[] #[]] ++ lb, W1, henter, ?_, fun _ _ => trivial, ?_, fun h => by simp [Fence.wide] at h, ?_⟩
 ·simp only [resolve, hg]
  simp [go_sem]
 ·simp [invoke, go_sem, eg]
 ·refine callsIn_wd.2 ?_
  refine (hseq l
   (fun pre W => I pre W ∧ W.heap[l]? = some (.loop (rec .ready none)) ∧ X W)
   (fun pre W => ∃ c, Ix c pre W ∧ W.heap[l]? = some (.loop (rec .done (some c))) ∧ X W)
   (fun s A B hs hm => ⟨hI s A B hs.1 (moveI A B hm), moveO A B l _ hs.2.1 hlt1 rfl hm, moveX A B hs.2.2 hm⟩)
   (fun s A B hs hm => by
     obtain ⟨c, hc, hl, hx⟩ := hs
     exact ⟨c, hIx c s A B hc (moveI A B hm), moveO A B l _ hl hlt1 rfl hm, moveX A B hx hm⟩)
   ?_ ⟨hI1, hL1', hX1⟩).mono ?_
  · -- ONE ROUND
   rintro pre x post hxs W av ⟨hi, hl, hx⟩ hsz hrp
   have hy := run_yield (P := P) (args := av) hl (by rw [hrec]; exact hps x av W hrp)
   rw [hrec] at hy
   refine ⟨fn, _, assign, body, hy, ?_⟩
   clear hy
   have rd := roundIn_of_wpIn (F := Wd (some l)) (n := n) (P := P) (l := l) (f := fn) (w := W) (assign := assign) (body := body) (tmps := (ps.zip av).foldl (fun t (p, v) => t.setIfInBounds p v) a.tmps)
    (R := fun e W' => (e = .returned (.bool true) ∧ Kept (orOther K W1.heap.size) W W' ∧ I (pre ++ [x]) W' ∧ W'.heap[l]? = some (.loop (rec .ready none)) ∧ X W') ∨
      (e = .returned (.bool false) ∧ Kept (orOther (fun _ _ => False) W1.heap.size) W W' ∧ ∃ c, Ix c (pre ++ [x]) W' ∧ W'.heap[l]? = some (.loop (rec .done (some c))) ∧ X W'))
    trivial (hassign l pre x post W av _ hxs hi (by omega) hrp ?_)
   ·exact ⟨trivial, fun c cs _ => rd.2 c cs (room_wide _)⟩
   ·intro a' Wa hka hia hax
    have hla := hka.same l _ hl (.inr ⟨hl0, rfl⟩)
    have hxa := keepX W Wa hx hka
    have hlta : l < Wa.heap.size := (Array.getElem?_eq_some_iff.1 hla).1
    refine ⟨_, run_beginRound hla (by rw [hrec]), ?_⟩
    have hl2 : (Wa.putObj l (.loop { rec .ready none with state := .busy })).heap[l]? = some (.loop { rec .ready none with state := .busy }) := World.putObj_heap_same hlta
    refine wpIn_mono (hbody l pre x post a' _ hxs hl0 ⟨_, hl2⟩ (putI _ _ _ _ hia hla rfl) (by simp; have := hka.size; omega) (hAx x a' _ _ hax (put _ _ _ hla rfl))) ?_
    -- what is known behind the body
    have fin : ∀ (K2 : Nat → Obj → Prop) (_ : ∀ k o, K2 k o → K k o) (jump : Option Code) (W3 : World), Kept (orOther K2 w.heap.size) (Wa.putObj l (.loop { rec .ready none with state := .busy })) W3 →
      (Instr.endRound l jump).run P W3 = .ok (.bool jump.isNone) (W3.putObj l (.loop (rec (if jump.isNone then .ready else .done) jump))) ∧
      W3.heap[l]? = some (.loop { rec .ready none with state := .busy }) ∧
      (W3.putObj l (.loop (rec (if jump.isNone then .ready else .done) jump))).heap[l]? = some (.loop (rec (if jump.isNone then .ready else .done) jump)) ∧
      X (W3.putObj l (.loop (rec (if jump.isNone then .ready else .done) jump))) ∧
      Kept (orOther K2 W1.heap.size) W (W3.putObj l (.loop (rec (if jump.isNone then .ready else .done) jump))) := fun K2 hK2 jump W3 hk3 => by
     have hl3 := hk3.same l _ hl2 (.inr ⟨hl0, rfl⟩)
     have hrun := run_endRound (P := P) jump hl3
     rw [hrec] at hrun ⊢
     refine ⟨hrun, by rw [hrec] at hl3; exact hl3, World.putObj_heap_same (Array.getElem?_eq_some_iff.1 hl3).1, putX _ _ (keepX _ _ (putX _ _ hxa) hk3), ⟨?_, ?_⟩⟩
     ·have h1 := hka.size; have h2 := hk3.size; simp at h2 ⊢; omega
     ·intro k o hk hK
      have hKw2 : orOther K2 w.heap.size k o := by
       rcases hK with h | h
       ·exact .inl h
       ·exact .inr ⟨by omega, h.2⟩
      have hKw : orOther K w.heap.size k o := by
       rcases hK with h | h
       ·exact .inl (hK2 k o h)
       ·exact .inr ⟨by omega, h.2⟩
      by_cases e : k = l
      ·subst e
       rw [hl] at hk; cases hk
       rcases hK with h | h
       ·have := hKc _ _ (hK2 _ _ h); cases this
       ·omega
      ·have h1 := hka.same k o hk hKw
       have h2 := hk3.same k o ((World.putObj_heap_other e).trans h1) hKw2
       exact (World.putObj_heap_other e).trans h2
    rintro e a3 W3 hp
    cases e with
    | normal =>
     obtain ⟨hk3, hi3⟩ := hp
     obtain ⟨hr, hl3, hl4, hx4, hk4⟩ := fin K (fun _ _ h => h) none W3 hk3
     exact ⟨_, _, hr, .inl ⟨rfl, hk4, putI _ _ _ _ hi3 hl3 rfl, hl4, hx4⟩⟩
    | ret =>
     obtain ⟨hk3, hi3⟩ := hp
     obtain ⟨hr, hl3, hl4, hx4, hk4⟩ := fin (fun _ _ => False) (fun _ _ h => h.elim) (some .ret) W3 hk3
     exact ⟨_, _, hr, .inr ⟨rfl, hk4, .ret, putIx _ _ _ _ _ hi3 hl3 rfl, hl4, hx4⟩⟩
    | exit id =>
     obtain ⟨hk3, hi3⟩ := hp
     obtain ⟨hr, hl3, hl4, hx4, hk4⟩ := fin (fun _ _ => False) (fun _ _ h => h.elim) (some (.exit id)) W3 hk3
     exact ⟨_, _, hr, .inr ⟨rfl, hk4, .exit id, putIx _ _ _ _ _ hi3 hl3 rfl, hl4, hx4⟩⟩
    | goto t =>
     obtain ⟨hk3, hi3⟩ := hp
     obtain ⟨hr, hl3, hl4, hx4, hk4⟩ := fin (fun _ _ => False) (fun _ _ h => h.elim) (some (.goto t)) W3 hk3
     exact ⟨_, _, hr, .inr ⟨rfl, hk4, .goto t, putIx _ _ _ _ _ hi3 hl3 rfl, hl4, hx4⟩⟩
    | panic ch => exact hp.elim
    | outgrown => exact hp.elim
  · -- BEHIND THE ITERATOR
   rintro e W2 ⟨⟨v, rfl⟩, (⟨hi, hl, hx⟩ | ⟨pre, hpre, c, hi, hl, hx⟩)⟩
   ·exact ⟨none, _, by have := run_endLoop (P := P) hl (by rw [hrec]; simp); rw [hrec] at this; exact this, hdone _ (putI _ _ _ _ hi hl rfl) (putX _ _ hx)⟩
   ·exact ⟨some c, _, by have := run_endLoop (P := P) hl (by rw [hrec]; simp); rw [hrec] at this; exact this, hstop c pre _ hpre (putIx _ _ _ _ _ hi hl rfl) (putX _ _ hx)⟩
theorem wp_rangeT {P : Program} {α : Type} {n : Nat} {g : Operand} {ps : Array Tmp} {assign body : Code} {Q : Exit → Act → World → Prop} {a : Act} {w : World}
  {gf : Nat} {lb : Array Value} (hg : a.eval g = .func (.func gf) #[] lb) (eg : ∀ args w, (callFunc gf args).run P w = .ok (.enter gf args) w)
  {Rp : α → Array Value → World → Prop} {K M : Nat → Obj → Prop} {xs : List α}
  (hseq : ∀ W1, Below w.heap.size w W1 → W1.heap.size = w.heap.size + 2 → SeqT P gf lb Rp K M xs W1)
  (hMc : ∀ k o, M k o → o.isCells = true) (hKc : ∀ k o, K k o → o.isCells = true) (hps : ∀ x av W, Rp x av W → av.size = ps.size)
  (I : List α → World → Prop) (Ix : Code → List α → World → Prop)
  (hI : ∀ s A B, I s A → Moves (orOther M w.heap.size) A B → I s B) (hIx : ∀ c s A B, Ix c s A → Moves (orOther M w.heap.size) A B → Ix c s B) (h0 : I [] w)
  (Ax : α → Act → World → Prop) (hAx : ∀ x a' A B, Ax x a' A → Moves (orOther (fun _ _ => False) w.heap.size) A B → Ax x a' B)
  (hassign : ∀ (l : Nat) (pre : List α) (x : α) (post : List α) (W : World) (av : Array Value) (K' : Act → World → Prop), xs = pre ++ x :: post → I pre W → w.heap.size ≤ W.heap.size → Rp x av W →
    (∀ a' W', Kept (orOther K w.heap.size) W W' → I pre W' → Ax x a' W' → K' a' W') →
    assign.wpIn (Wd (some l)) n P (Exit.then K' (fun _ _ _ => False)) { tmps := (ps.zip av).foldl (fun t (p, v) => t.setIfInBounds p v) a.tmps, defers := [] } W)
  (hbody : ∀ (l : Nat) (pre : List α) (x : α) (post : List α) (a' : Act) (W : World), xs = pre ++ x :: post → w.heap.size ≤ l → (∃ r, W.heap[l]? = some (.loop r)) → I pre W → w.heap.size ≤ W.heap.size → Ax x a' W →
    body.wpIn (Wd (some l)) n P (rdPostT (orOther K w.heap.size) (orOther (fun _ _ => False) w.heap.size) I Ix (pre ++ [x]) W) a' W)
  (hdone : ∀ D W, w.heap.size ≤ D → I xs W → W.heap[D]? = some (.deferred (some [])) → Q .normal { a with defers := { target := .collected D, args := #[] } :: a.defers } W)
  (hstop : ∀ D c pre W, w.heap.size ≤ D → pre <+: xs → Ix c pre W → W.heap[D]? = some (.deferred (some [])) → c.wpIn (Wd none) n P Q { a with defers := { target := .collected D, args := #[] } :: a.defers } W) :
  (Code.rangeFunc g ps assign body).wpIn (Wd none) n P Q a w := by
 refine wpIn_rangeFunc ?_
 intro fn _
 obtain ⟨W1, hW1⟩ : ∃ W1, (w.alloc (.deferred (some []))).alloc (.loop { state := .ready, pending := none, fn, tmps := a.tmps, params := ps, assign, body, defers := w.heap.size }) = W1 := ⟨_, rfl⟩
 have hb1 : Below w.heap.size w W1 := by rw [← hW1]; exact ((Below.refl _ w).alloc (Nat.le_refl _) _).alloc (by simp) _
 have hs1 : W1.heap.size = w.heap.size + 2 := by rw [← hW1]; simp
 have hL1 : W1.heap[w.heap.size + 1]? = some (.loop { state := .ready, pending := none, fn, tmps := a.tmps, params := ps, assign, body, defers := w.heap.size }) := by
  rw [← hW1]; have := World.alloc_heap_new (w.alloc (.deferred (some []))) (.loop { state := .ready, pending := none, fn, tmps := a.tmps, params := ps, assign, body, defers := w.heap.size }); rwa [World.size_alloc] at this
 have hK1 : W1.heap[w.heap.size]? = some (.deferred (some [])) := by
  rw [← hW1]; exact (Below.heap_alloc _ _ _ (by simp)).trans (World.alloc_heap_new w _)
 have hm1 : Moves (orOther M w.heap.size) w W1 := by rw [← hW1]; exact (Moves.refl.alloc _).alloc _
 refine range_coreT (fn := fn) (mark := [{ target := .collected w.heap.size, args := #[] }]) (l := w.heap.size + 1) (W1 := W1) (dfs := w.heap.size) hg eg hMc hKc hps I Ix hI hIx Ax hAx hassign hbody (by omega) (hseq W1 hb1 hs1) (by omega) ?_ hL1 (hI _ _ _ h0 hm1)
  (fun W => W.heap[w.heap.size]? = some (.deferred (some []))) ?_ hK1 (fun W hi hx => hdone _ W (Nat.le_refl _) hi hx) (fun c pre W hp hi hx => hstop _ c pre W (Nat.le_refl _) hp hi hx)
 ·rw [← hW1]; exact run_enterLoop_outer _ _ _ _ _
 ·intro A B hx hk
  exact hk _ _ hx (Nat.le_refl _) (by omega) (by omega) rfl
open Go.RowKit
section
variable {F : Fence} {n : Nat} {P : Program} {ops : Array Oper} {Q : Exit → Act → World → Prop} {md : Region.Mode}
theorem same_never {α : Type} {s : Sem α} (h : ∀ w r w', s.run P w ≠ .ok r w') : SameW P s := fun w r w' h' => absurd h' (h w r w')
theorem never_bind {α β : Type} {s : Sem α} {f : α → Sem β} (h2 : ∀ a w r w', (f a).run P w ≠ .ok r w') : ∀ w r w', (s >>= f).run P w ≠ .ok r w' := by
 intro w r w' h
 rw [Sem.run_bind] at h
 cases hs : s.run P w with
 | ok a w1 => rw [hs] at h; exact h2 a _ _ _ h
 | halt x w1 => rw [hs] at h; cases h
theorem never_nilDeref {α : Type} : ∀ w r w', (runtimePanic .nilDeref : Sem α).run P w ≠ .ok r w' := by
 unfold runtimePanic
 exact never_bind fun p w r w' h => by cases h
theorem never_bounds {α : Type} (x y : Int) (s : Bool) (c : BoundsCode) : ∀ w r w', (runtimePanic (.bounds x y s c) : Sem α).run P w ≠ .ok r w' := by
 unfold runtimePanic
 exact never_bind fun p w r w' h => by cases h
theorem same_boundsPanic {α : Type} (k : IntKind) (x y : Int) (c : BoundsCode) : SameW P (boundsPanic k x y c : Sem α) := by
 unfold boundsPanic
 refine same_never ?_
 split <;> exact never_bind fun a => never_bounds _ _ _ _
theorem same_unsupported {α : Type} (u : Unsupported) : SameW P (unsupported u : Sem α) := same_never (fun w r w' h => by simp [go_sem] at h)
theorem same_sureAddr (v : Value) : SameW P (Instr.sureAddr v) := by
 unfold Instr.sureAddr
 split
 ·exact same_pure _
 ·exact same_stuck _
theorem same_asIntOf (v : Value) : SameW P (asIntOf v) := by
 unfold asIntOf
 split
 ·exact same_pure _
 ·exact same_unsupported _
 ·exact same_stuck _
theorem same_shape (r : Nat) : SameW P (shape r) := by
 intro w x w' h
 cases h; rfl
theorem same_getObj (r : Nat) : SameW P (getObj r) := by
 intro w x w' h
 unfold getObj at h
 simp only [Sem.run] at h
 split at h <;> cases h <;> rfl
theorem same_noView (a : Addr) : SameW P (noView a) := by
 unfold noView viewAt
 refine same_bind (same_bind (same_shape _) fun s => ?_) fun b => ?_
 ·split
  ·exact same_pure _
  ·refine same_bind (same_getObj _) fun o => ?_
   split <;> exact same_pure _
 ·split
  ·exact same_unsupported _
  ·exact same_pure _
theorem same_byteOf (a : Addr) : SameW P (byteOf a) := by
 unfold byteOf
 split
 ·exact same_pure _
 ·refine same_bind same_program fun p => same_bind (same_noView _) fun _ => same_bind (same_shape _) fun s => ?_
  split
  ·dsimp only
   split
   ·exact same_pure _
   ·split
    ·exact same_pure _
    ·exact same_stuck _
  ·exact same_stuck _
theorem same_fieldAt (t : TypeId) (v : Value) (f : Nat) : SameW P (Instr.fieldAt t v f) := by
 unfold Instr.fieldAt
 refine same_bind (same_underlying _) fun d => ?_
 split
 ·split
  ·refine same_bind (same_sureAddr _) fun a => same_bind ?_ fun p => same_pure _
   unfold fieldPlace
   refine same_bind (same_sizeOf _) fun n => ?_
   split
   ·unfold partAt
    refine same_bind (same_byteOf _) fun b => same_bind (same_byteOf _) fun c => same_pure _
   ·exact same_pure _
  ·exact same_stuck _
 ·exact same_stuck _
theorem same_indexAt (t : TypeId) (x y : Value) : SameW P (Instr.indexAt t x y) := by
 unfold Instr.indexAt
 refine same_bind (same_asIntOf _) fun ki => ?_
 obtain ⟨k, i⟩ := ki
 dsimp only
 refine same_bind (same_underlying _) fun d => ?_
 split
 ·refine same_bind (same_sureAddr _) fun a => same_bind (same_pure _) fun q => same_bind (same_underlying _) fun d2 => ?_
  split
  ·split
   ·exact same_bind (same_sizeOf _) fun _ => same_pure _
   ·split <;> split <;> first | exact same_unsupported _ | exact same_boundsPanic _ _ _ _
  ·exact same_boundsPanic _ _ _ _
 ·refine same_bind (same_pure _) fun q => same_bind (same_underlying _) fun d2 => ?_
  split
  ·split
   ·exact same_bind (same_sizeOf _) fun _ => same_pure _
   ·split <;> split <;> first | exact same_unsupported _ | exact same_boundsPanic _ _ _ _
  ·exact same_boundsPanic _ _ _ _
 ·refine same_bind (same_stuck _) fun q => same_bind (same_underlying _) fun d2 => ?_
  split
  ·split
   ·exact same_bind (same_sizeOf _) fun _ => same_pure _
   ·split <;> split <;> first | exact same_unsupported _ | exact same_boundsPanic _ _ _ _
  ·exact same_boundsPanic _ _ _ _
theorem same_part (t : TypeId) (cs : Array Value) (n : Nat) : SameW P (part t cs n) := by
 unfold part
 refine same_bind (same_isAgg _) fun b => ?_
 split
 ·exact same_bind (same_sizeOf _) fun _ => same_pure _
 ·split
  ·exact same_pure _
  ·exact same_stuck _
theorem same_followBlind : ∀ (l : List FieldStep) (t : TypeId) (x : Option Value), SameW P (followBlind l t x) := by
 intro l
 induction l with
 | nil => intro t x; exact same_pure _
 | cons s l ih =>
  intro t x
  unfold followBlind
  refine same_bind (same_underlying _) fun d => ?_
  split
  ·split
   ·split
    ·exact same_pure _
    ·exact ih _ _
    ·exact same_stuck _
    ·exact same_pure _
    ·exact same_bind (same_part _ _ _) fun _ => ih _ _
    ·exact same_stuck _
    ·exact ih _ _
   ·exact same_stuck _
  ·exact same_stuck _
theorem same_nilAhead : ∀ (n : Nat) (t : TypeId) (v : Value) (s : String), SameW P (nilAhead n t v s) := by
 intro n
 induction n with
 | zero => intro t v s; exact same_pure _
 | succ n ih =>
  intro t v s
  unfold nilAhead
  refine same_bind (same_typeInfo _) fun i => ?_
  split
  ·refine same_bind (same_followBlind _ _ _) fun r => ?_
   split
   ·exact same_pure _
   ·split
    ·exact ih _ _ _
    ·exact same_pure _
    ·exact same_stuck _
    ·exact same_pure _
    ·exact same_pure _
    ·refine same_bind (same_underlying _) fun d => ?_
     split <;> exact same_pure _
  ·exact same_stuck _
def calmOp2 (o : Oper) : Bool :=
 match o.op with
 | .nilCheck _ => true
 | .fieldAddr _ _ _ => true
 | .indexAddr _ _ _ => true
 | _ => calmOp o
theorem calm_keeps2 {C : World → Prop} (hC : ∀ w o, C w → C (w.alloc o)) {o : Oper} (h : calmOp2 o = true) : KeepsC P C o := by
 unfold calmOp2 at h
 split at h
 ·rename_i x ho
  intro ρ w hw r w' hr
  unfold execOp at hr
  simp only [ho] at hr
  split at hr
  ·exact absurd hr (never_nilDeref _ _ _)
  ·exact absurd hr (never_nilDeref _ _ _)
  ·exact absurd hr (never_nilDeref _ _ _)
  ·split at hr
   ·exact absurd hr (never_nilDeref _ _ _)
   ·rw [Sem.run_bind] at hr
    have hp : ∀ (w1 : World), (program : Sem Program).run P w1 = .ok P w1 := fun w1 => rfl
    rw [hp] at hr
    simp only [Result.andThen_ok] at hr
    rw [Sem.run_bind] at hr
    rename_i name first captured hx x0 t v hf
    cases hs : (nilAhead (P.types.size + Made.depth) t v name).run P w with
    | ok a w1 =>
     rw [hs] at hr
     obtain rfl := same_nilAhead _ _ _ _ _ _ _ hs
     simp only [Result.andThen_ok] at hr
     split at hr
     ·rw [Sem.run_bind] at hr
      cases hr
     ·cases hr; exact ⟨⟨_, rfl⟩, hw⟩
    | halt x w1 => rw [hs] at hr; cases hr
   ·cases hr; exact ⟨⟨_, rfl⟩, hw⟩
  ·cases hr; exact ⟨⟨_, rfl⟩, hw⟩
 ·rename_i s x f ho
  intro ρ w hw r w' hr
  unfold execOp at hr
  simp only [ho] at hr
  obtain ⟨v, rfl, hs⟩ := val_bind hr
  rw [same_fieldAt _ _ _ _ _ _ hs]
  exact ⟨⟨_, rfl⟩, hw⟩
 ·rename_i s x f ho
  intro ρ w hw r w' hr
  unfold execOp at hr
  simp only [ho] at hr
  obtain ⟨v, rfl, hs⟩ := val_bind hr
  rw [same_indexAt _ _ _ _ _ _ hs]
  exact ⟨⟨_, rfl⟩, hw⟩
 ·exact calm_keeps hC h
def calmFrom2 (ops : Array Oper) (listed : Array Bool) (i : Nat) (tl : List Nat) : Bool :=
 tl.all (fun k => !listed.getD k true) && (List.range ops.size).all fun j => j == i || tl.contains j || listed.getD j true || match ops[j]? with
   | some oj => calmOp2 oj
   | none => true
theorem calmFrom2_spec {i : Nat} {tl : List Nat} {listed : Array Bool} (h : calmFrom2 ops listed i tl = true) (j : Nat) (oj : Oper)
  (hj : ops[j]? = some oj) (hne : j ≠ i) (hnt : j ∉ tl) (hun : listed.getD j true = false) : calmOp2 oj = true := by
 simp only [calmFrom2, Bool.and_eq_true, List.all_eq_true, List.mem_range] at h
 have h1 := h.2 j (Array.getElem?_eq_some_iff.1 hj).1
 simpa [hj, hne, hnt, hun] using h1
theorem calmFrom2_tl {i : Nat} {tl : List Nat} {listed : Array Bool} (h : calmFrom2 ops listed i tl = true) : ∀ k ∈ tl, listed.getD k true = false := by
 simp only [calmFrom2, Bool.and_eq_true, List.all_eq_true] at h
 intro k hk
 simpa using h.1 k hk
theorem wpAnyIn_takeC2 (C : World → Prop) (tl : List Nat) {i : Nat} {oi : Oper} {v : Value} {fuel : Nat} {listed : Array Bool} {a : Act} {w : World} (hro : F.round = none) (hi : ops.toList[i]? = some oi)
  (hs : Region.noSelect ops = true) (hf : Region.free md ops listed i = true) (ht : tailB md ops i tl = true) (hcm : calmFrom2 ops listed i tl = true) (hr : (Region.ready md ops listed).contains i = true)
  (hQ : ∀ c a w, Q (.panic c) (a.put oi.dst v) w → Q (.panic c) a w) (hal : ∀ w o, C w → C (w.alloc o)) (hC : C w) (hy : YieldsC P ops C oi v a)
  (h : wpAnyIn F n P md ops Q fuel (listed.setIfInBounds i true) (a.put oi.dst v) w) : wpAnyIn F n P md ops Q (fuel + 1) listed a w :=
 wpAnyIn_firstC tl ht hro (opAt hi) (Region.noSelect_spec hs) hQ fuel listed a w (calmFrom2_tl hcm) (fun j oj hj hne hnt hun hno => ⟨Region.free_spec (opAt hi) hf j oj hj hne hun hno, calm_keeps2 hal (calmFrom2_spec hcm j oj hj hne hnt hun)⟩) (by simpa using hr) hC hy h
end
open Go.RowKit
section
variable {n : Nat} {P : Program} {ops : Array Oper} {Q : Exit → Act → World → Prop} {md : Region.Mode} {S : World → Prop}
def NoQ (Q : Exit → Act → World → Prop) : Exit → Act → World → Prop
 | .normal, a, w => Q .normal a w
 | _, _, _ => False
theorem NoQ.imp {Q : Exit → Act → World → Prop} (e : Exit) (a : Act) (w : World) (h : NoQ Q e a w) : Q e a w := by
 cases e <;> first | exact h | exact h.elim
theorem noQ_normal {a : Act} {w : World} (h : Q .normal a w) : NoQ Q .normal a w := h
theorem upon_wd {o : Oper} {a : Act} {K : Act → World → Prop} {r : Result Next} (h : o.upon P a K Q r) : o.uponIn (Wd none) n P a K Q r := by
 cases r with
 | ok x w =>
  cases x with
  | value v => exact h
  | skip => exact h
  | defer d => exact h
  | enter f args => exact ⟨fun h => by simp [Fence.wide] at h, callsIn_wd.2 h⟩
  | row row args => exact ⟨fun h => by simp [Fence.wide] at h, fun c cs _ => let ⟨v, w', r, s⟩ := h c cs; ⟨v, w', r, stepsIn_wide.2 s⟩⟩
  | _ => exact h.elim
 | halt x w =>
  cases x <;> first | exact h | exact h.elim
theorem wpOp_wd {i : Nat} {K : Act → World → Prop} {a : Act} {w : World} (h : wpOp P ops (NoQ Q) i K a w) : wpOpIn (Wd none) n P ops (NoQ Q) i K a w := by
 unfold wpOp at h
 unfold wpOpIn
 cases ho : ops[i]? with
 | none => rw [ho] at h; exact h
 | some o =>
  rw [ho] at h
  dsimp only at h ⊢
  split
  ·rename_i hw
   rw [if_pos hw] at h
   rcases h with h | ⟨_, _, _, h⟩
   ·refine ⟨fun _ _ => trivial, ?_⟩
    rw [show (Wd none).round = none from rfl, Oper.semAt_none]
    exact upon_wd h
   ·exact h.elim
  ·rename_i hw
   rw [if_neg hw] at h
   exact ⟨fun _ _ => trivial, h⟩
theorem wpAny_wd : ∀ (fuel : Nat) (listed : Array Bool) (a : Act) (w : World), wpAny P md ops (NoQ Q) fuel listed a w → wpAnyIn (Wd none) n P md ops (NoQ Q) fuel listed a w
 | 0, _, _, _, h => h
 | fuel + 1, listed, a, w, h => ⟨h.1, fun i hi => wpOpIn_mono (fun a w => wpAny_wd fuel _ a w) (wpOp_wd (h.2 i hi))⟩
theorem wpIn_held_round {l id : Nat} {a : Act} {w : World} (hm : P.follows .mixedOrders = true) (hd : noDefer ops = true) (hS : S w.drew)
  (h : S w.drew → wpAnyH P .any ops (NoQ Q) S ops.size (Array.replicate ops.size false) a w.drew) : (Code.region id ops true).wpIn (Wd (some l)) n P Q a w :=
 wpIn_mono (wpIn_region_any (F := (Wd none).inRound l) hm (wpAnyIn_round l hd rfl _ _ _ _ (wpAny_wd _ _ _ _ (wpAny_of_held _ _ _ _ (h hS))))) NoQ.imp
end
end Go.Mv

namespace Go.Proofs
open Go.Shelf
open Go.Lib in
open Go.Lib in
open Go.Lib in
open Go.Lib in
open Go.RowKit Go.Sort Go.Lib in
def Tryz.laysM246_ren : Go.Shelf.Ren := ⟨fun | 246 => 72 | 283 => 91 | 284 => 92 | 285 => 93 | 286 => 94 | 129 => 114 | 317 => 113 | 318 => 115 | 319 => 116 | 320 => 117 | 337 => 135 | 338 => 136 | n => n, fun | 2 => 2 | 3 => 3 | 9 => 9 | 4 => 4 | 171 => 155 | 0 => 0 | 53 => 156 | 37 => 43 | 5 => 5 | 173 => 159 | 212 => 176 | 51 => 113 | 20 => 20 | 213 => 177 | 46 => 136 | 232 => 201 | 233 => 202 | n => n, fun | 17 => 0 | 18 => 1 | 19 => 2 | n => n⟩
open Go.RowKit Go.Sort Go.Lib in
open Go.RowKit Go.Sort Go.Lib in
def Tryz.laysM243_ren : Go.Shelf.Ren := ⟨fun | 243 => 50 | 246 => 72 | 283 => 91 | 284 => 92 | 285 => 93 | 286 => 94 | 129 => 114 | 317 => 113 | 318 => 115 | 319 => 116 | 320 => 117 | 337 => 135 | 338 => 136 | n => n, fun | 3 => 3 | 9 => 9 | 2 => 2 | 4 => 4 | 171 => 155 | 0 => 0 | 53 => 156 | 37 => 43 | 5 => 5 | 173 => 159 | 212 => 176 | 51 => 113 | 20 => 20 | 213 => 177 | 46 => 136 | 232 => 201 | 233 => 202 | n => n, fun | 17 => 0 | 18 => 1 | 19 => 2 | n => n⟩
open Go.RowKit Go.Sort Go.Lib in
open Go.RowKit Go.Sort Go.Lib in
def Tryz.laysM171_ren : Go.Shelf.Ren := ⟨fun | 171 => 28 | 243 => 50 | 246 => 72 | 283 => 91 | 284 => 92 | 285 => 93 | 286 => 94 | 129 => 114 | 317 => 113 | 318 => 115 | 319 => 116 | 320 => 117 | 337 => 135 | 338 => 136 | n => n, fun | 3 => 3 | 9 => 9 | 2 => 2 | 4 => 4 | 171 => 155 | 0 => 0 | 53 => 156 | 37 => 43 | 5 => 5 | 173 => 159 | 212 => 176 | 51 => 113 | 20 => 20 | 213 => 177 | 46 => 136 | 232 => 201 | 233 => 202 | n => n, fun | 17 => 0 | 18 => 1 | 19 => 2 | n => n⟩
theorem Tryz.laysM171 : Go.Proofs.LaysM.n171 Tryz.prog Tryz.laysM171_ren := {
 mixed := by kernel_rfl
 f129 := Tryz.func114.trans (congrArg some (by kernel_rfl))
 f171 := Tryz.func28.trans (congrArg some (by kernel_rfl))
 f243 := Tryz.func50.trans (congrArg some (by kernel_rfl))
 f246 := Tryz.func72.trans (congrArg some (by kernel_rfl))
 f283 := Tryz.func91.trans (congrArg some (by kernel_rfl))
 f284 := Tryz.func92.trans (congrArg some (by kernel_rfl))
 f285 := Tryz.func93.trans (congrArg some (by kernel_rfl))
 f286 := Tryz.func94.trans (congrArg some (by kernel_rfl))
 f317 := Tryz.func113.trans (congrArg some (by kernel_rfl))
 f318 := Tryz.func115.trans (congrArg some (by kernel_rfl))
 f319 := Tryz.func116.trans (congrArg some (by kernel_rfl))
 f320 := Tryz.func117.trans (congrArg some (by kernel_rfl))
 f337 := Tryz.func135.trans (congrArg some (by kernel_rfl))
 f338 := Tryz.func136.trans (congrArg some (by kernel_rfl))
 t0 := Tryz.underlying0
 a0 := Tryz.isAgg0
 z0 := Tryz.sizeOf0
 v0 := Tryz.zeroValue0
 t2 := Tryz.underlying2
 a2 := Tryz.isAgg2
 z2 := Tryz.sizeOf2
 v2 := Tryz.zeroValue2
 t3 := Tryz.underlying3
 a3 := Tryz.isAgg3
 z3 := Tryz.sizeOf3
 v3 := Tryz.zeroValue3
 t4 := Tryz.underlying4
 a4 := Tryz.isAgg4
 z4 := Tryz.sizeOf4
 v4 := Tryz.zeroValue4
 t5 := Tryz.underlying5
 a5 := Tryz.isAgg5
 z5 := Tryz.sizeOf5
 v5 := Tryz.zeroValue5
 t9 := Tryz.underlying9
 a9 := Tryz.isAgg9
 z9 := Tryz.sizeOf9
 v9 := Tryz.zeroValue9
 t20 := Tryz.underlying20
 a20 := Tryz.isAgg20
 z20 := Tryz.sizeOf20
 v20 := Tryz.zeroValue20
 t37 := Tryz.underlying43
 a37 := Tryz.isAgg43
 z37 := Tryz.sizeOf43
 v37 := Tryz.zeroValue43
 t46 := Tryz.underlying136
 a46 := Tryz.isAgg136
 z46 := Tryz.sizeOf136
 v46 := Tryz.zeroValue136
 t51 := Tryz.underlying113
 a51 := Tryz.isAgg113
 z51 := Tryz.sizeOf113
 v51 := Tryz.zeroValue113
 t53 := Tryz.underlying156
 a53 := Tryz.isAgg156
 z53 := Tryz.sizeOf156
 v53 := Tryz.zeroValue156
 t171 := Tryz.underlying155
 a171 := Tryz.isAgg155
 z171 := Tryz.sizeOf155
 v171 := Tryz.zeroValue155
 t173 := Tryz.underlying159
 a173 := Tryz.isAgg159
 z173 := Tryz.sizeOf159
 v173 := Tryz.zeroValue159
 t212 := Tryz.underlying176
 a212 := Tryz.isAgg176
 z212 := Tryz.sizeOf176
 v212 := Tryz.zeroValue176
 t213 := Tryz.underlying177
 a213 := Tryz.isAgg177
 z213 := Tryz.sizeOf177
 t232 := Tryz.underlying201
 a232 := Tryz.isAgg201
 z232 := Tryz.sizeOf201
 v232 := Tryz.zeroValue201
 t233 := Tryz.underlying202
 a233 := Tryz.isAgg202
 z233 := Tryz.sizeOf202
 v233 := Tryz.zeroValue202
 g17 := by kernel_rfl
 g18 := by kernel_rfl
 g19 := by kernel_rfl
 i0 := by kernel_rfl
 i2 := by kernel_rfl
 i3 := by kernel_rfl
 i4 := by kernel_rfl
 i5 := by kernel_rfl
 i9 := by kernel_rfl
 i20 := by kernel_rfl
 i37 := by kernel_rfl
 i46 := by kernel_rfl
 i51 := by kernel_rfl
 i53 := by kernel_rfl
 i171 := by kernel_rfl
 i173 := by kernel_rfl
 i212 := by kernel_rfl
 i232 := by kernel_rfl
 i233 := by kernel_rfl
 m17 := by kernel_rfl
 m18 := by kernel_rfl
 m19 := by kernel_rfl }
open Go.RowKit Go.Sort Go.Lib in
theorem Tryz.strconv_Itoa (n : Int) (h0 : -9223372036854775808 ≤ n) (h1 : n ≤ 9223372036854775807) (w : World) (htab : Lib.TabIs Tryz.prog w "internal/strconv.uint64pow10" .u64 Lib.pow10Tab) :
  Calls Tryz.prog 28 #[.int .i64 n] w fun e w' => e = .returned (.string ⟨(Lib.itoa n).toArray⟩) ∧ ∃ k os, w' = grow (w.drewN k) os := Any.strconv_Itoa Tryz.laysM171 n h0 h1 w htab
def Tryz.lays171_ren : Go.Shelf.Ren := ⟨fun | 171 => 28 | 243 => 50 | 246 => 72 | 283 => 91 | 284 => 92 | 285 => 93 | 286 => 94 | 129 => 114 | 317 => 113 | 318 => 115 | 319 => 116 | 320 => 117 | 337 => 135 | 338 => 136 | n => n, fun | 3 => 3 | 9 => 9 | 2 => 2 | 4 => 4 | 171 => 155 | 0 => 0 | 53 => 156 | 37 => 43 | 5 => 5 | 173 => 159 | 212 => 176 | 51 => 113 | 20 => 20 | 213 => 177 | 46 => 136 | 232 => 201 | 233 => 202 | n => n, fun | 17 => 0 | 18 => 1 | 19 => 2 | n => n⟩
theorem Tryz.lays171 : Go.Proofs.Lays.n171 Tryz.prog Tryz.lays171_ren := {
 mixed := by kernel_rfl
 f129 := Tryz.func114.trans (congrArg some (by kernel_rfl))
 f171 := Tryz.func28.trans (congrArg some (by kernel_rfl))
 f243 := Tryz.func50.trans (congrArg some (by kernel_rfl))
 f246 := Tryz.func72.trans (congrArg some (by kernel_rfl))
 f283 := Tryz.func91.trans (congrArg some (by kernel_rfl))
 f284 := Tryz.func92.trans (congrArg some (by kernel_rfl))
 f285 := Tryz.func93.trans (congrArg some (by kernel_rfl))
 f286 := Tryz.func94.trans (congrArg some (by kernel_rfl))
 f317 := Tryz.func113.trans (congrArg some (by kernel_rfl))
 f318 := Tryz.func115.trans (congrArg some (by kernel_rfl))
 f319 := Tryz.func116.trans (congrArg some (by kernel_rfl))
 f320 := Tryz.func117.trans (congrArg some (by kernel_rfl))
 f337 := Tryz.func135.trans (congrArg some (by kernel_rfl))
 f338 := Tryz.func136.trans (congrArg some (by kernel_rfl))
 t0 := Tryz.underlying0
 a0 := Tryz.isAgg0
 z0 := Tryz.sizeOf0
 v0 := Tryz.zeroValue0
 t2 := Tryz.underlying2
 a2 := Tryz.isAgg2
 z2 := Tryz.sizeOf2
 v2 := Tryz.zeroValue2
 t3 := Tryz.underlying3
 a3 := Tryz.isAgg3
 z3 := Tryz.sizeOf3
 v3 := Tryz.zeroValue3
 t4 := Tryz.underlying4
 a4 := Tryz.isAgg4
 z4 := Tryz.sizeOf4
 v4 := Tryz.zeroValue4
 t5 := Tryz.underlying5
 a5 := Tryz.isAgg5
 z5 := Tryz.sizeOf5
 v5 := Tryz.zeroValue5
 t9 := Tryz.underlying9
 a9 := Tryz.isAgg9
 z9 := Tryz.sizeOf9
 v9 := Tryz.zeroValue9
 t20 := Tryz.underlying20
 a20 := Tryz.isAgg20
 z20 := Tryz.sizeOf20
 v20 := Tryz.zeroValue20
 t37 := Tryz.underlying43
 a37 := Tryz.isAgg43
 z37 := Tryz.sizeOf43
 v37 := Tryz.zeroValue43
 t46 := Tryz.underlying136
 a46 := Tryz.isAgg136
 z46 := Tryz.sizeOf136
 v46 := Tryz.zeroValue136
 t51 := Tryz.underlying113
 a51 := Tryz.isAgg113
 z51 := Tryz.sizeOf113
 v51 := Tryz.zeroValue113
 t53 := Tryz.underlying156
 a53 := Tryz.isAgg156
 z53 := Tryz.sizeOf156
 v53 := Tryz.zeroValue156
 t171 := Tryz.underlying155
 a171 := Tryz.isAgg155
 z171 := Tryz.sizeOf155
 v171 := Tryz.zeroValue155
 t173 := Tryz.underlying159
 a173 := Tryz.isAgg159
 z173 := Tryz.sizeOf159
 v173 := Tryz.zeroValue159
 t212 := Tryz.underlying176
 a212 := Tryz.isAgg176
 z212 := Tryz.sizeOf176
 v212 := Tryz.zeroValue176
 t213 := Tryz.underlying177
 a213 := Tryz.isAgg177
 z213 := Tryz.sizeOf177
 t232 := Tryz.underlying201
 a232 := Tryz.isAgg201
 z232 := Tryz.sizeOf201
 v232 := Tryz.zeroValue201
 t233 := Tryz.underlying202
 a233 := Tryz.isAgg202
 z233 := Tryz.sizeOf202
 v233 := Tryz.zeroValue202
 g17 := by kernel_rfl
 g18 := by kernel_rfl
 g19 := by kernel_rfl }
open Go.RowKit Go.Sort Go.Lib in
theorem Tryz.strconv_Itoa_small (i : Nat) (hi : i < 100) (w : World) :
  Calls Tryz.prog 28 #[.int .i64 i] w fun e w' => e = .returned (.string ⟨(Lib.decDigits i).toArray⟩) ∧ w' = w := Any.strconv_Itoa_small Tryz.lays171 i hi w
end Go.Proofs
