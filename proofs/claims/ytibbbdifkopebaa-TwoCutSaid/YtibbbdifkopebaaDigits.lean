/-
  The walk of num.digits' iterator.
-/
import Derived.Test.YtibbbdifkopebaaRows
import Derived.Test.YtibbbdifkopebaaMem
import Derived.Test.YtibbbdifkopebaaScope
import Derived.WalkSpells
import Derived.WalkLawsBesides
set_option linter.all false
namespace Go.Proofs.Ytibbbdifkopebaa
open Go.RowKit Go.Mv Go.Shelf
attribute [local go_sem] Oper.semAt_some

/-- A number's digits by 2^bits, from place k down; 'fewer': noughts ahead are left out, but one. -/
def digRec (bits n : Nat) : Bool → Nat → List UInt8
  | _, 0 => [UInt8.ofNat (n % 2 ^ bits)]
  | fewer, k + 1 => if n / 2 ^ (bits * (k + 1)) = 0 ∧ fewer = true then digRec bits n fewer k else UInt8.ofNat (n / 2 ^ (bits * (k + 1)) % 2 ^ bits) :: digRec bits n false k

theorem wraps_i64 (n : Int) (h₀ : 0 ≤ n) (h₁ : n < 2 ^ 62) : IntKind.i64.wrap n = n := by rw [IntKind.wrap_i64]; omega
theorem i64_and127 (x : Int) (h₀ : 0 ≤ x) (h₁ : x < 4611686018427387904) : bits .and .i64 x 127 = x % 128 := bits_mask .i64 62 (by decide) wraps_i64 7 (by decide) x h₀ h₁
theorem i64_and255 (x : Int) (h₀ : 0 ≤ x) (h₁ : x < 4611686018427387904) : bits .and .i64 x 255 = x % 256 := bits_mask .i64 62 (by decide) wraps_i64 8 (by decide) x h₀ h₁
theorem bv_ofNat (n : Nat) : bv (UInt8.ofNat n) = .int .u8 ((n : Int) % 256) := by simp [bv]
theorem dig7 (d : Nat) (hd : d ≤ 1073741824) : Value.int .u8 (bits .and .i64 (d : Int) 127 % 256) = bv (UInt8.ofNat (d % 2 ^ 7)) := by
  rw [i64_and127 _ (by omega) (by omega), bv_ofNat]; simp
theorem dig8 (d : Nat) (hd : d ≤ 1073741824) : Value.int .u8 (bits .and .i64 (d : Int) 255 % 256) = bv (UInt8.ofNat (d % 2 ^ 8)) := by
  rw [i64_and255 _ (by omega) (by omega), bv_ofNat]; simp
theorem dig7z (d : Nat) (hd : d = 0) : Value.int .u8 (bits .and .i64 0 127 % 256) = bv (UInt8.ofNat (d % 2 ^ 7)) := by
  have := dig7 d (by omega); rw [hd] at this ⊢; exact this
theorem dig8z (d : Nat) (hd : d = 0) : Value.int .u8 (bits .and .i64 0 255 % 256) = bv (UInt8.ofNat (d % 2 ^ 8)) := by
  have := dig8 d (by omega); rw [hd] at this ⊢; exact this
theorem digRec_head (bits n : Nat) (fw : Bool) (k : Nat) (h : ¬ (n / 2 ^ (bits * k) = 0 ∧ fw = true ∧ 0 < k)) :
    ∃ post, digRec bits n fw k = UInt8.ofNat (n / 2 ^ (bits * k) % 2 ^ bits) :: post ∧ (0 < k → post = digRec bits n false (k - 1)) ∧ (k = 0 → post = []) := by
  cases k with
  | zero => exact ⟨[], by simp [digRec], fun h => absurd h (by omega), fun _ => rfl⟩
  | succ k =>
    refine ⟨digRec bits n false k, ?_, fun _ => rfl, fun h => absurd h (by omega)⟩
    rw [digRec, if_neg]
    intro ⟨h1, h2⟩
    exact h ⟨h1, h2, by omega⟩

/-- What holds at the label. -/
def DgR (bits n many : Nat) (fewer : Bool) (bm bn bb bf l N : Nat) (J : List UInt8 → World → Prop) (a : Act) (w : World) : Prop :=
  ∃ (k : Nat) (pre : List UInt8) (fw : Bool) (u7 u8 u9 u10 u11 u12 u13 u14 u15 u16 u17 u18 u19 u20 u21 u22 u23 u24 u25 u26 u27 u28 u29 u30 u31 u32 u33 u34 u35 u36 u37 u38 u39 u40 : Value),
      (k < many ∧ Hid (digRec bits n fewer (many - 1) = pre ++ digRec bits n fw k) ∧ J pre w ∧ Boxed w bn 3 (.int .i64 n) ∧ Boxed w bb 3 (.int .i64 bits) ∧ Boxed w bf 4 (.bool fw) ∧ N ≤ w.heap.size) ∧
      a = ⟨#[.func (.yield l) #[] #[], .pointer (some ⟨bm, 0, none⟩), .pointer (some ⟨bn, 0, none⟩), .pointer (some ⟨bb, 0, none⟩), .pointer (some ⟨bf, 0, none⟩), undef, .int .i64 k, u7, u8, u9, u10, u11, u12, u13, u14, u15, u16, u17, u18, u19, u20, u21, u22, u23, u24, u25, u26, u27, u28, u29, u30, u31, u32, u33, u34, u35, u36, u37, u38, u39, u40], []⟩

set_option maxRecDepth 100000 in
set_option maxHeartbeats 1000000 in
theorem digits1_seq (bits n many : Nat) (fewer : Bool) (hb : bits = 7 ∨ bits = 8) (hn : n ≤ 1073741824) (hm : 1 ≤ many) (hm' : many ≤ 5) (bm bn bb bf : Nat) (hne : bf ≠ bn) (hne2 : bf ≠ bb) (W0 : World)
    (hB1 : Boxed W0 bm 3 (.int .i64 many)) (hB2 : Boxed W0 bn 3 (.int .i64 n)) (hB3 : Boxed W0 bb 3 (.int .i64 bits)) (hB4 : Boxed W0 bf 4 (.bool fewer)) :
    Seq Try.prog 61 #[.pointer (some ⟨bm, 0, none⟩), .pointer (some ⟨bn, 0, none⟩), .pointer (some ⟨bb, 0, none⟩), .pointer (some ⟨bf, 0, none⟩)]
      (fun (d : UInt8) av _ => av = #[bv d]) (fun k o => ((k = bn ∨ k = bb) ∧ o.ty = some 3) ∨ (k = bf ∧ o.ty = some 4)) (fun k o => k = bf ∧ o.ty = some 4) (digRec bits n fewer (many - 1)) W0 := by
  intro l J Jx hJ hJx hY h0
  refine (callsIn_wd (ro := none) (n := 9)).1 ?_
  refine callsIn_of_wp Try.func61 rfl trivial ?_ rfl
  simp only [Try.ntmps61, List.size_toArray, List.length_cons, List.length_nil, Nat.reduceAdd, Nat.reduceSub, Array.replicate_succ, Array.replicate_zero, List.push_toArray, List.append_toArray, List.nil_append, List.cons_append]
  refine wpIn_scope_seq 0 (DgR bits n many fewer bm bn bb bf l W0.heap.size J) (fun a _ => (intOf (a.tmps.getD 6 undef)).toNat) rfl (fun l' h => by cases l' <;> first | exact absurd rfl h | rfl) ?_ ?_
  · have hc1 := hB1.cell
    gi_wp2
    have e : ((many : Int) - 1) = ((many - 1 : Nat) : Int) := by omega
    rw [e]
    exact ⟨many - 1, [], fewer, _, _, _, _, _, _, _, _, _, _, _, _, _, _, _, _, _, _, _, _, _, _, _, _, _, _, _, _, _, _, _, _, _, _, ⟨by omega, rfl, h0, hB2, hB3, hB4, Nat.le_refl _⟩, rfl⟩
  · intro a w hR
    obtain ⟨k, pre, fw, u7, u8, u9, u10, u11, u12, u13, u14, u15, u16, u17, u18, u19, u20, u21, u22, u23, u24, u25, u26, u27, u28, u29, u30, u31, u32, u33, u34, u35, u36, u37, u38, u39, u40, ⟨hk, HD, hJp, b1, b2, b3, hsz⟩, rfl⟩ := hR
    have c1 := b1.cell
    have c2 := b2.cell
    have c3 := b3.cell
    have f3 := b3.frozen
    clear hB1 hB2 hB3 hB4 h0
    have hmv : Moves (orOther (fun k o => k = bf ∧ o.ty = some 4) W0.heap.size) w (w.setCell ⟨bf, 0, none⟩ (.bool false)) :=
      Moves.refl.setCell (fun o ho _ => .inl ⟨rfl, by rw [show w.heap[bf]? = _ from b3] at ho; cases ho; rfl⟩) _
    have hJ1 := hJ _ _ _ hJp hmv
    have b1' : Boxed (w.setCell ⟨bf, 0, none⟩ (.bool false)) bn 3 (.int .i64 n) := b1.other (Ne.symm hne) _
    have b2' : Boxed (w.setCell ⟨bf, 0, none⟩ (.bool false)) bb 3 (.int .i64 bits) := b2.other (Ne.symm hne2) _
    have b3' : Boxed (w.setCell ⟨bf, 0, none⟩ (.bool false)) bf 4 (.bool false) := b3.set _
    have hsz' : W0.heap.size ≤ (w.setCell ⟨bf, 0, none⟩ (.bool false)).heap.size := by simpa [World.setCell] using hsz
    have hdle : n / 2 ^ (bits * k) ≤ 1073741824 := Nat.le_trans (Nat.div_le_self _ _) hn
    by_cases hskip : n / 2 ^ (bits * k) = 0 ∧ fw = true ∧ 0 < k
    · obtain ⟨hd0, rfl, hk0⟩ := hskip
      have hz : ((n : Int) / 2 ^ (bits * k)) = 0 := by exact_mod_cast hd0
      have HD0 := Lib.hid hd0
      have hk1 : decide (0 < k) = true := by simpa using hk0
      clear hd0
      rcases hb with rfl | rfl
      all_goals
        gi_wp2
        refine wpIn_goto ?_
        simp only [Exit.then]
        refine jumps_goto (by simp) ⟨?_, ?_⟩
        · rw [show ((k : Int) - 1) = ((k - 1 : Nat) : Int) from by omega]
          refine ⟨k - 1, pre, true, _, _, _, _, _, _, _, _, _, _, _, _, _, _, _, _, _, _, _, _, _, _, _, _, _, _, _, _, _, _, _, _, _, _, ⟨by omega, ?_, hJp, b1, b2, b3, hsz⟩, rfl⟩
          have hD := HD.out
          rw [show k = (k - 1) + 1 from by omega, digRec, if_pos ⟨by rw [show k - 1 + 1 = k from by omega]; exact HD0.out, rfl⟩] at hD
          exact hD
        · simp [intOf]; omega
    · obtain ⟨post, hp, hp1, hp2⟩ := digRec_head bits n fw k hskip
      have hD := HD.out
      rw [hp] at hD
      have hy := hY pre _ post hD _ #[bv (UInt8.ofNat (n / 2 ^ (bits * k) % 2 ^ bits))] hJ1 hsz' rfl
      have HP1 := Lib.hid hp1
      have HP2 := Lib.hid hp2
      have HDD := Lib.hid hD
      have Hskip := Lib.hid hskip
      clear hp hD HD hp1 hp2 hskip hY
      have key : ∀ (o : Oper) (a : Act) (next : Act → World → Prop) (Q : Exit → Act → World → Prop),
          (∀ W' : World, J (pre ++ [UInt8.ofNat (n / 2 ^ (bits * k) % 2 ^ bits)]) W' → Boxed W' bn 3 (.int .i64 n) → Boxed W' bb 3 (.int .i64 bits) → Boxed W' bf 4 (.bool false) → W0.heap.size ≤ W'.heap.size → next (a.put o.dst (.bool true)) W') →
          (∀ W' : World, Jx (pre ++ [UInt8.ofNat (n / 2 ^ (bits * k) % 2 ^ bits)]) W' → next (a.put o.dst (.bool false)) W') →
          o.uponIn (Wd none) 9 Try.prog a next Q ((Instr.yield l #[bv (UInt8.ofNat (n / 2 ^ (bits * k) % 2 ^ bits))]).run Try.prog (w.setCell ⟨bf, 0, none⟩ (.bool false))) := by
        intro o a next Q h1 h2
        refine uponIn_yield hy ?_
        rintro e W' ⟨hk', ⟨rfl, hj⟩ | ⟨rfl, hj⟩⟩
        · exact ⟨true, rfl, h1 W' hj (hk'.boxed b1' (.inl (.inl ⟨.inl rfl, rfl⟩))) (hk'.boxed b2' (.inl (.inl ⟨.inr rfl, rfl⟩))) (hk'.boxed b3' (.inl (.inr ⟨rfl, rfl⟩))) (Nat.le_trans hsz' hk'.size)⟩
        · exact ⟨false, rfl, h2 W' hj⟩
      have Hkey := Lib.hid key
      have hpre : pre ++ [UInt8.ofNat (n / 2 ^ (bits * k) % 2 ^ bits)] <+: digRec bits n fewer (many - 1) := by
        rw [HDD.out]; exact ⟨post, by simp⟩
      clear key hy
      have fin : ∀ W' : World, J (pre ++ [UInt8.ofNat (n / 2 ^ (bits * k) % 2 ^ bits)]) W' → k = 0 → J (digRec bits n fewer (many - 1)) W' := by
        intro W' hj h0
        rw [HDD.out, HP2.out h0]; exact hj
      have Hfin := Lib.hid fin
      have Hpre := Lib.hid hpre
      have nxt : 0 < k → digRec bits n fewer (many - 1) = (pre ++ [UInt8.ofNat (n / 2 ^ (bits * k) % 2 ^ bits)]) ++ digRec bits n false (k - 1) := by
        intro h0
        rw [HDD.out, HP1.out h0]; simp
      have Hnxt := Lib.hid nxt
      clear fin hpre nxt
      rcases hb with rfl | rfl
      · have e1 : ((n : Int) / 2 ^ (7 * k)) = ((n / 2 ^ (7 * k) : Nat) : Int) := by simp
        have E1 := Lib.hid e1
        clear e1
        gi_wp2
        all_goals first
          | (exfalso; refine Hskip.out ⟨?_, by assumption, by assumption⟩; exact_mod_cast (by assumption : ((n : Int) / 2 ^ (7 * k)) = 0))
          | (rw [dig7z (n / 2 ^ (7 * k)) (by exact_mod_cast (by assumption : ((n : Int) / 2 ^ (7 * k)) = 0))])
          | (rw [E1.out, dig7 _ hdle])
        all_goals refine Hkey.out _ _ _ _ ?_ ?_
        all_goals intro W' hj
        all_goals (try intro bb1 bb2 bb3 hs)
        all_goals clear c1 c2 c3 f3 b1 b2 b3 b1' b2' b3'
        all_goals gi_wp2
        all_goals first
          | (refine jumps_ret ?_
             refine bodyPost_ret (results_none rfl _ _ _) rfl ?_
             exact ⟨⟨_, rfl⟩, .inr ⟨_, Hpre.out, hj⟩⟩)
          | (refine jumps_ret ?_
             refine bodyPost_ret (results_none rfl _ _ _) rfl ?_
             exact ⟨⟨_, rfl⟩, .inl (Hfin.out _ hj (by have h : ((k : Int) == 0) = true := (by assumption); simpa using h))⟩)
          | (have hk0 : 0 < k := (by have h : ((k : Int) == 0) = false := (by assumption); simp at h; omega)
             refine wpIn_goto ?_
             refine jumps_goto (by simp) ⟨?_, ?_⟩
             · rw [show ((k : Int) - 1) = ((k - 1 : Nat) : Int) from by omega]
               exact ⟨k - 1, _, false, _, _, _, _, _, _, _, _, _, _, _, _, _, _, _, _, _, _, _, _, _, _, _, _, _, _, _, _, _, _, _, _, _, _, ⟨by omega, Hnxt.out hk0, hj, bb1, bb2, bb3, hs⟩, rfl⟩
             · simp [intOf]; omega)
      · have e1 : ((n : Int) / 2 ^ (8 * k)) = ((n / 2 ^ (8 * k) : Nat) : Int) := by simp
        have E1 := Lib.hid e1
        clear e1
        gi_wp2
        all_goals first
          | (exfalso; refine Hskip.out ⟨?_, by assumption, by assumption⟩; exact_mod_cast (by assumption : ((n : Int) / 2 ^ (8 * k)) = 0))
          | (rw [dig8z (n / 2 ^ (8 * k)) (by exact_mod_cast (by assumption : ((n : Int) / 2 ^ (8 * k)) = 0))])
          | (rw [E1.out, dig8 _ hdle])
        all_goals refine Hkey.out _ _ _ _ ?_ ?_
        all_goals intro W' hj
        all_goals (try intro bb1 bb2 bb3 hs)
        all_goals clear c1 c2 c3 f3 b1 b2 b3 b1' b2' b3'
        all_goals gi_wp2
        all_goals first
          | (refine jumps_ret ?_
             refine bodyPost_ret (results_none rfl _ _ _) rfl ?_
             exact ⟨⟨_, rfl⟩, .inr ⟨_, Hpre.out, hj⟩⟩)
          | (refine jumps_ret ?_
             refine bodyPost_ret (results_none rfl _ _ _) rfl ?_
             exact ⟨⟨_, rfl⟩, .inl (Hfin.out _ hj (by have h : ((k : Int) == 0) = true := (by assumption); simpa using h))⟩)
          | (have hk0 : 0 < k := (by have h : ((k : Int) == 0) = false := (by assumption); simp at h; omega)
             refine wpIn_goto ?_
             refine jumps_goto (by simp) ⟨?_, ?_⟩
             · rw [show ((k : Int) - 1) = ((k - 1 : Nat) : Int) from by omega]
               exact ⟨k - 1, _, false, _, _, _, _, _, _, _, _, _, _, _, _, _, _, _, _, _, _, _, _, _, _, _, _, _, _, _, _, _, _, _, _, _, _, ⟨by omega, Hnxt.out hk0, hj, bb1, bb2, bb3, hs⟩, rfl⟩
             · simp [intOf]; omega)

/-- The world behind 'digits'. -/
def digW (w : World) (n bits many : Nat) (fewer : Bool) : World :=
  (((w.alloc (.cells #[.int .i64 n] 3)).alloc (.cells #[.int .i64 bits] 3)).alloc (.cells #[.int .i64 many] 3)).alloc (.cells #[.bool fewer] 4)
def digF (N : Nat) : Value := .func (.func 61) #[] #[.pointer (some ⟨N + 2, 0, none⟩), .pointer (some ⟨N, 0, none⟩), .pointer (some ⟨N + 1, 0, none⟩), .pointer (some ⟨N + 3, 0, none⟩)]

set_option maxHeartbeats 400000 in
theorem digits_any (n bits many : Nat) (fewer : Bool) (w : World) :
    Calls Try.prog 43 #[.int .i64 n, .int .i64 bits, .int .i64 many, .bool fewer] w fun e w' => e = .returned (digF w.heap.size) ∧ digW w n bits many fewer = w' := by
  go_enter Try.func43, Try.ntmps43
  go_wp2
  go_ret
  exact ⟨rfl, rfl⟩

theorem digW_boxes (w : World) (n bits many : Nat) (fewer : Bool) : (digW w n bits many fewer).heap.size = w.heap.size + 4 ∧
    Boxed (digW w n bits many fewer) w.heap.size 3 (.int .i64 n) ∧ Boxed (digW w n bits many fewer) (w.heap.size + 1) 3 (.int .i64 bits) ∧
    Boxed (digW w n bits many fewer) (w.heap.size + 2) 3 (.int .i64 many) ∧ Boxed (digW w n bits many fewer) (w.heap.size + 3) 4 (.bool fewer) ∧ Ext w (digW w n bits many fewer) := by
  have h1 := Boxed.new w 3 (.int .i64 n)
  have h2 := Boxed.new (w.alloc (.cells #[.int .i64 n] 3)) 3 (.int .i64 bits)
  have h3 := Boxed.new ((w.alloc (.cells #[.int .i64 n] 3)).alloc (.cells #[.int .i64 bits] 3)) 3 (.int .i64 many)
  have h4 := Boxed.new (((w.alloc (.cells #[.int .i64 n] 3)).alloc (.cells #[.int .i64 bits] 3)).alloc (.cells #[.int .i64 many] 3)) 4 (.bool fewer)
  simp only [World.size_alloc] at h2 h3 h4
  exact ⟨by simp [digW], ((h1.alloc _).alloc _).alloc _, (h2.alloc _).alloc _, h3.alloc _, h4, (((Ext.refl w).alloc _).alloc _).alloc _ |>.alloc _⟩
end Go.Proofs.Ytibbbdifkopebaa
