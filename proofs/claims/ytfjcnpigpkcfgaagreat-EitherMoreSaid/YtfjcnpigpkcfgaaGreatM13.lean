/-
  The walks of two.Scan, two.End, two.More.
  Plain facts on segments: what is put is scanned; what is cut off; a byte that is another one.
  The walk of moultlaw08.wakes.
  The walk of moultref06.Same: the same entries?
  Appending bytes and entries to a slice of one's own, as a whole; the worlds before stay.
  The walks of crc.Sum, Four, Put, bytes.Clone.
-/
import Derived.Test.YtfjcnpigpkcfgaaGreatM12
import Derived.Deep.QuietTactic
import Derived.BigQuiet
import Derived.Deep.RegionHeld3
import Derived.Deep.AppendLies
set_option linter.all false
namespace Go.Proofs.YtfjcnpigpkcfgaaGreat
open Go.RowKit Go.Mv
set_option maxRecDepth 100000

def ScanP (w : World) (r : LookR) (e : Ending) (w' : World) : Prop :=
  ∃ vl, e = .returned (.tuple #[.agg #[.int .i64 r.first, vl, .int .i64 r.used], .int .i64 r.err]) ∧ w'.ownsRow w.heap.size 41 3 vl r.log.length (entCells r.log) ∧ Ext w w'
/-- A segment's end: the error, the point. -/
def endS (bs : List UInt8) : Int × (Nat × Nat) := if (lookS bs).err = 0 ∧ (lookS bs).used = bs.length then (0, (lookS bs).pt) else (11, (0, 0))
def EndP (w : World) (r : Int × (Nat × Nat)) (e : Ending) (w' : World) : Prop := ∃ vz, e = .returned (.tuple #[vz, .int .i64 r.1]) ∧ PtV vz r.2 ∧ Ext w w'
def moreS (bs : List UInt8) (es : List Ent) : Int × List UInt8 := if (endS bs).1 = 0 then (if allOk es = true then (0, blocksS (endS bs).2 es) else (2, [])) else (11, [])

theorem look_ext (v : Value) (bs : List UInt8) (w : World) (hBs : Bs w v bs) (hl : bs.length ≤ 1000000) : ∀ W, Ext w W → Calls Tryz.prog 131 #[v] W (LookP W (lookS bs)) := fun W hE => look_any v bs W (Bs.ext hBs hE) hl

set_option maxHeartbeats 1000000 in
theorem Scan_any (v : Value) (bs : List UInt8) (w : World) (hBs : Bs w v bs) (hl : bs.length ≤ 1000000) : Calls Tryz.prog 124 #[v] w (ScanP w (lookS bs)) := by
  have HL := Lib.hid (look_ext v bs w hBs hl)
  obtain ⟨A, c, rfl, _, _⟩ := SlR.open_ hBs
  clear hBs
  generalize lookS bs = R at *
  obtain ⟨er, first, log, used, pt⟩ := R
  go_enter Tryz.func124, Tryz.ntmps124
  go_wp2_with (go_at_call 131; refine (HL.out _ (Ext.alloc (Ext.refl _) _)).mono ?_; rintro e w1 ⟨vl, vz, rfl, ho1, hp, hE1⟩; dsimp only at ho1; obtain ⟨Av, cv, rfl, _, _⟩ := SlR.open_ (SlR.of_own ho1); obtain ⟨z1, z2, rfl, _, _⟩ := hp; have hB := ((Blk.new w 29 #[.int .i64 0, .slice none 0 0, .int .i64 0]).ext hE1).alloc (.cells #[.int .i64 first, .slice Av log.length cv, .int .i64 used] 29); obtain ⟨c0, c1, c2, f0, f1, f2⟩ := blk3 hB)
  have hb2 := blk_set3 hB (.int .i64 first) (.slice Av log.length cv) (.int .i64 used)
  have hrow := own_ext ho1 (Ext.alloc (Ext.refl w1) (.cells #[.int .i64 first, .slice Av log.length cv, .int .i64 used] 29))
  have r1 := hrow.kept (grownBy_set _ w.heap.size 0 (.int .i64 first)) (.inr (hB.not_row (by decide) hrow).symm)
  have b1 := hB.set 0 (.int .i64 first)
  have r2 := r1.kept (grownBy_set _ w.heap.size 1 (.slice Av log.length cv)) (.inr (b1.not_row (by decide) r1).symm)
  have b2 := b1.set 1 (.slice Av log.length cv)
  have r3 := r2.kept (grownBy_set _ w.heap.size 2 (.int .i64 used)) (.inr (b2.not_row (by decide) r2).symm)
  obtain ⟨g0, g1, g2, _, _, _⟩ := blk3 hb2
  refine bodyPost_ret (v := .tuple #[.agg #[.int .i64 first, .slice Av log.length cv, .int .i64 used], .int .i64 er]) (by simp [results, Tryz.results124, go_sem, g0, g1, g2]) rfl ⟨_, rfl, own_base r3 (by simp), ?_⟩
  exact Below.setCell (p := ⟨w.heap.size, 2, none⟩) (Below.setCell (p := ⟨w.heap.size, 1, none⟩) (Below.setCell (p := ⟨w.heap.size, 0, none⟩) (Ext.alloc (Ext.trans (Ext.alloc (Ext.refl _) _) hE1) _) (Nat.le_refl _) _) (Nat.le_refl _) _) (Nat.le_refl _) _

set_option maxHeartbeats 1000000 in
theorem End_any (v : Value) (bs : List UInt8) (w : World) (hBs : Bs w v bs) (hl : bs.length ≤ 1000000) : Calls Tryz.prog 130 #[v] w (EndP w (endS bs)) := by
  have HL := Lib.hid (look_any v bs w hBs hl)
  obtain ⟨A, c, rfl, _, _⟩ := SlR.open_ hBs
  clear hBs
  unfold endS
  generalize lookS bs = R at *
  obtain ⟨er, first, log, used, pt⟩ := R
  dsimp only
  by_cases her : er = 0
  · subst her
    by_cases hu : used = bs.length
    · subst hu
      rw [if_pos ⟨rfl, rfl⟩]
      go_enter Tryz.func130, Tryz.ntmps130
      go_wp2_with (go_at_call 131; refine HL.out.mono ?_; rintro e w1 ⟨vl, vz, rfl, ho1, hp, hE1⟩; dsimp only at ho1 hp; have HP := Lib.hid hp; obtain ⟨Av, cv, rfl, _, _⟩ := SlR.open_ (SlR.of_own ho1); obtain ⟨z1, z2, rfl, _, _⟩ := hp)
      go_ret2
      exact ⟨_, rfl, HP.out, Ext.alloc hE1 _⟩
    · rw [if_neg (fun h => hu h.2)]
      have hne : ((used : Int) != (bs.length : Int)) = true := by simp; omega
      clear hu
      go_enter Tryz.func130, Tryz.ntmps130
      go_wp2_with (go_at_call 131; refine HL.out.mono ?_; rintro e w1 ⟨vl, vz, rfl, ho1, hp, hE1⟩; dsimp only at ho1 hp; have HP := Lib.hid hp; obtain ⟨Av, cv, rfl, _, _⟩ := SlR.open_ (SlR.of_own ho1); obtain ⟨z1, z2, rfl, _, _⟩ := hp)
      go_ret2
      exact ⟨_, rfl, PtV.zero, Ext.alloc hE1 _⟩
  · rw [if_neg (fun h => her h.1)]
    have e6 : (er != 0) = true := by simpa using her
    clear her
    go_enter Tryz.func130, Tryz.ntmps130
    go_wp2_with (go_at_call 131; refine HL.out.mono ?_; rintro e w1 ⟨vl, vz, rfl, ho1, hp, hE1⟩; dsimp only at ho1 hp; have HP := Lib.hid hp; obtain ⟨Av, cv, rfl, _, _⟩ := SlR.open_ (SlR.of_own ho1); obtain ⟨z1, z2, rfl, _, _⟩ := hp)
    go_ret2
    exact ⟨_, rfl, PtV.zero, Ext.alloc hE1 _⟩

set_option maxHeartbeats 1000000 in
theorem More_any (v vl : Value) (bs : List UInt8) (es : List Ent) (w : World) (hBs : Bs w v bs) (hl : bs.length ≤ 1000000) (h : Es w vl es) (hlen : es.length ≤ 1000000) : Calls Tryz.prog 123 #[v, vl] w (ResP w (moreS bs es)) := by
  have HE := Lib.hid (End_any v bs w hBs hl)
  have HF := Lib.hid (fun w (h : Es w vl es) => bad_any _ es w h)
  have H := Lib.hid h
  obtain ⟨A, c, rfl, _, _⟩ := SlR.open_ hBs
  obtain ⟨A', c', rfl, _, _⟩ := SlR.open_ h
  clear hBs h
  unfold moreS ResP
  rcases hd : endS bs with ⟨er, pt⟩
  rw [hd] at HE
  have herr : er = 0 ∨ er = 11 := by
    have := congrArg Prod.fst hd
    unfold endS at this
    split at this
    · exact .inl this.symm
    · exact .inr this.symm
  clear hd
  dsimp only
  rcases herr with rfl | rfl
  · rw [if_pos rfl]
    cases ha : allOk es
    · rw [ha] at HF
      rw [if_neg (by simp)]
      clear ha
      go_enter Tryz.func123, Tryz.ntmps123
      go_wp2_with (first
        | (go_at_call 130; refine HE.out.mono ?_; rintro e w1 ⟨vz, rfl, hp, hE1⟩; obtain ⟨z1, z2, rfl, _, _⟩ := hp)
        | (go_at_call 126; refine (HF.out _ (Es.ext H.out hE1)).mono ?_; rintro e w2 ⟨rfl, hE2⟩))
      go_ret2
      exact ⟨_, rfl, World.ownsRow_nil _ _ _ _, Ext.trans hE1 hE2⟩
    · rw [ha] at HF
      rw [if_pos (by simp)]
      have Ha := Lib.hid ha
      clear ha
      go_enter Tryz.func123, Tryz.ntmps123
      go_wp2_with (first
        | (go_at_call 130; refine HE.out.mono ?_; rintro e w1 ⟨vz, rfl, hp, hE1⟩; have HP := Lib.hid hp; obtain ⟨z1, z2, rfl, _, _⟩ := hp)
        | (go_at_call 126; refine (HF.out _ (Es.ext H.out hE1)).mono ?_; rintro e w2 ⟨rfl, hE2⟩)
        | (go_at_call 128; refine (blocks_any _ _ _ _ _ _).mono ?_; rintro e w' ⟨rfl, rfl⟩)
        | (go_at_call 127
           refine (allOf w2 _ es (Es.ext H.out (Ext.trans hE1 hE2)) Ha.out hlen _ _ _ HP.out).mono ?_
           rintro e w4 ⟨v4, rfl, ho4, hE5⟩))
      go_ret2
      exact ⟨_, rfl, own_base ho4 (Ext.trans hE1 hE2).size, Ext.trans (Ext.trans hE1 hE2) hE5⟩
  · rw [if_neg (by decide)]
    go_enter Tryz.func123, Tryz.ntmps123
    go_wp2_with (go_at_call 130; refine HE.out.mono ?_; rintro e w1 ⟨vz, rfl, hp, hE1⟩; obtain ⟨z1, z2, rfl, _, _⟩ := hp)
    go_ret2
    exact ⟨_, rfl, World.ownsRow_nil _ _ _ _, hE1⟩
end Go.Proofs.YtfjcnpigpkcfgaaGreat

namespace Go.Proofs.YtfjcnpigpkcfgaaGreat
open Go.RowKit Go.Mv
set_option maxRecDepth 100000

theorem chunks4_flat (es : List Ent) : (chunks4 es).flatten = es := by
  generalize hn : es.length = n
  induction n using Nat.strongRecOn generalizing es with
  | _ n ih =>
    rcases Nat.eq_zero_or_pos es.length with h | h
    · have : es = [] := List.eq_nil_of_length_eq_zero h
      subst this; rw [chunks4_nil]; rfl
    · rw [chunks4_cons es h, List.flatten_cons, ih (es.drop 4).length (by simp; omega) _ rfl, List.take_append_drop]
/-- The point behind a segment. -/
def endQ (first : Int) (es : List Ent) : Nat × Nat := chunkP (chainP (0, 0) (headS first).2) (chunks4 es)
theorem file_ok {first : Int} {es : List Ent} (hf : (headS first).1 = 0) (ha : allOk es = true) : fileS first es = (0, (headS first).2 ++ blocksS (chainP (0, 0) (headS first).2) es) := by
  unfold fileS; rw [if_pos ⟨hf, ha⟩]
theorem scan_blocks (p : Nat × Nat) (es : List Ent) (ha : allOk es = true) (behind : List UInt8) : scanS p (blocksS p es ++ behind) = (es ++ (scanS (chunkP p (chunks4 es)) behind).1, (scanS (chunkP p (chunks4 es)) behind).2) := by
  rw [← blockList_flat, scanS_list p _ (chunks4_ok es ha), chunks4_flat]
theorem look_put {first : Nat} {es : List Ent} (hf : (headS (first : Int)).1 = 0) (ha : allOk es = true) (behind : List UInt8) :
    lookS ((fileS first es).2 ++ behind) = ⟨0, first, es ++ (scanS (endQ first es) behind).1, (fileS first es).2.length + behind.length - (scanS (endQ first es) behind).2.2.length, (scanS (endQ first es) behind).2.1⟩ := by
  have hh : headT ((fileS first es).2 ++ behind) = some (first, blocksS (chainP (0, 0) (headS (first : Int)).2) es ++ behind) := by
    rw [headT_iff, file_ok hf ha]
    exact ⟨hf, by rw [List.append_assoc]⟩
  rw [look_some hh, scan_blocks _ _ ha]
  rw [List.nil_append, List.length_append]
  rfl
theorem scan_nil (q : Nat × Nat) : scanS q [] = ([], q, []) := scanS_none rfl
theorem scan_nine (q : Nat × Nat) : scanS q [9] = ([], q, [9]) := scanS_none rfl
theorem end_put {first : Nat} {es : List Ent} (hf : (headS (first : Int)).1 = 0) (ha : allOk es = true) : endS (fileS first es).2 = (0, endQ first es) := by
  have h := look_put hf ha []
  rw [List.append_nil, scan_nil] at h
  unfold endS
  rw [h]
  dsimp only
  rw [if_pos ⟨rfl, by simp⟩]
theorem more_put {first : Nat} {es : List Ent} (hf : (headS (first : Int)).1 = 0) (ha : allOk es = true) (m : List Ent) (hm : allOk m = true) : moreS (fileS first es).2 m = (0, blocksS (endQ first es) m) := by
  unfold moreS
  rw [end_put hf ha]
  dsimp only
  rw [if_pos rfl, if_pos hm]
theorem more_nine {first : Nat} {es : List Ent} (hf : (headS (first : Int)).1 = 0) (ha : allOk es = true) (m : List Ent) : moreS ((fileS first es).2 ++ [9]) m = (11, []) := by
  have h := look_put hf ha [9]
  rw [scan_nine] at h
  unfold moreS endS
  rw [h]
  dsimp only
  rw [if_neg (by simp)]
theorem head_300 : (headS 300).1 = 0 := by unfold headS; rw [if_pos (by decide)]
theorem head_1 : headS 1 = (0, [2, 1]) := by rfl
theorem look_11 : lookS [1, 1] = ⟨11, 0, [], 0, (0, 0)⟩ := look_none rfl
theorem file_len (first : Int) (es : List Ent) : (fileS first es).2.length ≤ 6 + 20 * es.length := by
  unfold fileS
  split
  · have := headS_len first
    have := blocksS_len (chainP (0, 0) (headS first).2) es
    rw [List.length_append]; omega
  · simp
theorem file_eta {first : Int} {es : List Ent} (hf : (headS first).1 = 0) (ha : allOk es = true) : fileS first es = (0, (fileS first es).2) := by rw [file_ok hf ha]
def w12 : List Ent := [⟨1, 0, 0⟩, ⟨2, 1, 7⟩]
theorem wakes_plain : ∃ (B M : List UInt8) (q1 q2 : Nat × Nat), fileS 300 w12 = (0, B) ∧ B.length ≤ 46 ∧ M.length ≤ 20 ∧ lookS (B ++ [9]) = ⟨0, 300, w12, B.length, q1⟩ ∧ moreS B [⟨3, 0, 0⟩] = (0, M) ∧
    lookS (B ++ M) = ⟨0, 300, w12 ++ [⟨3, 0, 0⟩], B.length + M.length, q2⟩ ∧ moreS (B ++ [9]) [⟨3, 0, 0⟩] = (11, []) := by
  have h3 : (headS ((300 : Nat) : Int)).1 = 0 := head_300
  have hok : allOk w12 = true := by decide
  have hok3 : allOk [⟨3, 0, 0⟩] = true := by decide
  have hp9 := look_put h3 hok [9]
  have hpm := look_put h3 hok (blocksS (endQ ((300 : Nat) : Int) w12) [⟨3, 0, 0⟩])
  have hm3 := scan_blocks (endQ ((300 : Nat) : Int) w12) [⟨3, 0, 0⟩] hok3 []
  rw [List.append_nil, scan_nil] at hm3
  rw [hm3] at hpm
  rw [scan_nine] at hp9
  refine ⟨(fileS ((300 : Nat) : Int) w12).2, blocksS (endQ ((300 : Nat) : Int) w12) [⟨3, 0, 0⟩], endQ ((300 : Nat) : Int) w12, chunkP (endQ ((300 : Nat) : Int) w12) (chunks4 [⟨3, 0, 0⟩]), file_eta h3 hok, ?_, ?_, hp9.trans ?_, more_put h3 hok [⟨3, 0, 0⟩] hok3, hpm.trans ?_, more_nine h3 hok _⟩
  · have := file_len ((300 : Nat) : Int) w12
    exact this
  · exact blocksS_len _ _
  · simp
  · simp
end Go.Proofs.YtfjcnpigpkcfgaaGreat

namespace Go.Proofs.YtfjcnpigpkcfgaaGreat
open Go.RowKit Go.Mv
set_option maxRecDepth 100000

theorem own_empty (W : World) (base : Nat) (hb : base ≤ W.heap.size) : (W.alloc (.cells #[] 5)).ownsRow base 5 1 (.slice (some ⟨W.heap.size, 0, none⟩) 0 0) 0 [] := own_new W [] 5 0 rfl (by simp [maxLen]) hb
theorem new_bytes (W : World) (l : List UInt8) (n : Nat) (hn : n = l.length) (hm : n ≤ maxLen) : Bs (W.alloc (.cells (l.map bv).toArray 5)) (.slice (some ⟨W.heap.size, 0, none⟩) n n) l := by
  subst hn
  exact SlR.of_own (own_new W (l.map bv) 5 l.length (by simp) hm (Nat.le_refl _))
theorem new_ents (W : World) (es : List Ent) (n : Nat) (hn : n = es.length) (hm : n ≤ maxLen) : Es (W.alloc (.cells (entCells es).toArray 41)) (.slice (some ⟨W.heap.size, 0, none⟩) n n) es := by
  subst hn
  refine ⟨entCells_len es, _, es.length, rfl, Nat.le_refl _, hm, fun _ => ⟨W.heap.size, 0, rfl, fun j u hu => ?_⟩⟩
  rw [Nat.zero_add]
  exact (Blk.new W 41 (entCells es).toArray).cell j (by simpa using hu)

end Go.Proofs.YtfjcnpigpkcfgaaGreat

namespace Go.Proofs.YtfjcnpigpkcfgaaGreat
open Go.RowKit Go.Mv

theorem entUnder : Tryz.prog.underlying 41 = some (.struct (Tryz.prog.fieldsOf 41)) := by kernel_rfl
theorem entHeld : Tryz.prog.stoodInHeld 41 = false := by kernel_rfl
theorem entGuard : Tryz.prog.eqGuardType Tryz.prog.depth 41 = false := by kernel_rfl
theorem entEq_run (a b : Ent) (W : World) : (Op.equalIn 10000 41 (.agg #[.int .i64 a.t, .int .i64 a.k, .int .i64 a.v]) (.agg #[.int .i64 b.t, .int .i64 b.k, .int .i64 b.v])).run Tryz.prog W = .ok (decide (a = b)) W := by
  have e : decide (a = b) = (a.t == b.t && a.k == b.k && a.v == b.v) := by
    rw [Bool.eq_iff_iff]
    cases a; cases b
    simp [and_assoc]
  rw [run_equalIn_struct W 9999 41 _ _ entUnder entHeld, e]
  cases h0 : (a.t == b.t) <;> cases h1 : (a.k == b.k) <;> cases h2 : (a.v == b.v) <;> simp [go_sem, h0, h1, h2]

def sameEs (a b : List Ent) : Bool := decide (a = b)

set_option maxRecDepth 100000 in
set_option maxHeartbeats 400000 in
theorem Same_any (va vb : Value) (a b : List Ent) (w : World) (ha : Es w va a) (hb : Es w vb b) :
    Calls Tryz.prog 23 #[va, vb] w fun e w' => e = .returned (.bool (decide (a = b))) ∧ Below w.heap.size w w' := by
  obtain ⟨A, ca, rfl, h1, h2⟩ := SlR.open_ ha
  obtain ⟨B, cb, rfl, h3, h4⟩ := SlR.open_ hb
  have hma := SlR.len_le ha
  have hmb := SlR.len_le hb
  unfold maxLen at hma hmb
  by_cases hl : a.length = b.length
  case neg =>
    go_enter Tryz.func23, Tryz.ntmps23
    have hne : ((a.length : Int) != (b.length : Int)) = true := by simp; omega
    have Hn := Lib.hid hl
    clear hl
    go_wp2
    go_ret
    refine ⟨ret_bool ?_, Below.refl _ _⟩
    simp; intro e; exact Hn.out (by rw [e])
  case pos =>
    have hne : ((a.length : Int) != (b.length : Int)) = false := by simp; omega
    have Hl := Lib.hid hl
    have hle : b.length ≤ a.length := by omega
    have hle' : a.length ≤ b.length := by omega
    clear hl
    go_enter Tryz.func23, Tryz.ntmps23
    go_wp2_with fail
    go_loopw [5] (fun i wr => ∃ k : Nat, k ≤ a.length ∧ i = .int .i64 k ∧ Hid (a.take k = b.take k) ∧ Below w.heap.size w wr) (fun i _ => a.length - (intOf i).toNat)
    case atStart => exact ⟨0, Nat.zero_le _, rfl, rfl, Below.refl _ _⟩
    case round =>
      obtain ⟨k, hk, rfl, Hb, hB⟩ := hrel
      by_cases hlt : k < a.length
      · obtain ⟨_, ba, offa, rfl, hca⟩ := Es.at_ (ha.ext hB) (by omega)
        obtain ⟨_, bb, offb, rfl, hcb⟩ := Es.at_ (hb.ext hB) (by omega)
        obtain ⟨ha0, ha1, ha2⟩ := hca k hlt
        obtain ⟨hb0, hb1, hb2⟩ := hcb k (by omega)
        clear hca hcb
        have hk0 : (0 : Int) ≤ (k : Int) := by omega
        have hk1 : (k : Int) < (a.length : Int) := by omega
        have hk2 : (k : Int) < (b.length : Int) := by omega
        have heq := entEq_run a[k] b[k]
        have hgd := entGuard
        have hcase : ∃ d, decide (a[k] = b[k]) = d := ⟨_, rfl⟩
        obtain ⟨d, hd⟩ := hcase
        have Hd := Lib.hid hd
        rw [hd] at heq
        clear hd
        go_wp2_with fail
        go_quiet (fail)
        clear heq hgd
        cases d
        · go_wp2_with fail
          go_ret
          refine ⟨ret_bool ?_, bdrewN hB _⟩
          have hd := Hd.out
          symm
          simp only [decide_eq_false_iff_not] at hd ⊢
          intro e; subst e; exact hd rfl
        · go_wp2_with fail
          go_roundw
          case rel =>
            have hd : a[k] = b[k] := by simpa using Hd.out
            refine ⟨k + 1, by omega, by go_num, ?_, bdrewN hB _⟩
            show List.take (k + 1) a = List.take (k + 1) b
            rw [List.take_succ_eq_append_getElem hlt, List.take_succ_eq_append_getElem (by omega), Hb.out, hd]
          case measure => simp [intOf]; omega
      · go_wp2_with fail
        go_ret
        refine ⟨ret_bool ?_, hB⟩
        have := Hb.out
        rw [List.take_of_length_le (by omega), List.take_of_length_le (by omega)] at this
        simpa using this
end Go.Proofs.YtfjcnpigpkcfgaaGreat

namespace Go.Proofs.YtfjcnpigpkcfgaaGreat
open Go.RowKit Go.Mv
set_option maxRecDepth 100000

def OwnB (w : World) (base : Nat) (v : Value) (bs : List UInt8) : Prop := w.ownsRow base 5 1 v bs.length (bs.map bv)
def OwnE (w : World) (base : Nat) (v : Value) (es : List Ent) : Prop := w.ownsRow base 41 3 v es.length (entCells es)
/-- What was laid below the base stays. -/
def Grows (base : Nat) (w w' : World) : Prop := ∀ W0, Ext W0 w → W0.heap.size ≤ base → Ext W0 w'
theorem OwnB.bs {w : World} {base : Nat} {v : Value} {l : List UInt8} (h : OwnB w base v l) : Bs w v l := SlR.of_own h
theorem OwnE.es {w : World} {base : Nat} {v : Value} {l : List Ent} (h : OwnE w base v l) : Es w v l := SlR.of_own h
theorem OwnB.ext {w w' : World} {base : Nat} {v : Value} {l : List UInt8} (h : OwnB w base v l) (he : Ext w w') : OwnB w' base v l := own_ext h he
theorem OwnE.ext {w w' : World} {base : Nat} {v : Value} {l : List Ent} (h : OwnE w base v l) (he : Ext w w') : OwnE w' base v l := own_ext h he
theorem ownB_empty (W : World) : OwnB (W.alloc (.cells #[] 5)) W.heap.size (.slice (some ⟨W.heap.size, 0, none⟩) 0 0) [] := own_new W [] 5 0 rfl (by simp [maxLen]) (Nat.le_refl _)
theorem ownE_empty (W : World) : OwnE (W.alloc (.cells #[] 41)) W.heap.size (.slice (some ⟨W.heap.size, 0, none⟩) 0 0) [] := by
  exact ⟨by simp [entCells], .inr ⟨W.heap.size, 0, #[], rfl, Nat.le_refl _, heap_alloc_new W _, Nat.le_refl _, by simp [maxLen], by simp, by simp [entCells]⟩⟩

theorem wpList_app_b {ops : Array Oper} {rest : List Oper} {o : Oper} {a : Act} {w : World} {Q : Exit → Act → World → Prop} (hgd : o.guard = none) (s x : Operand)
    (ho : o.op = .call { callee := .builtin .append, args := #[s, x], argTypes := #[23, 23] })
    (base : Nat) (v : Value) (bs : List UInt8) (hs : a.eval s = v) (hown : OwnB w base v bs) (vx : Value) (cs : List UInt8) (hx : a.eval x = vx) (hr : Bs w vx cs)
    (hlen : bs.length + cs.length ≤ 20000000) (hbase : base ≤ w.heap.size)
    (h : ∀ A c w', OwnB w' base (.slice A (bs.length + cs.length) c) (bs ++ cs) → Grows base w w' → wpList Tryz.prog ops Q rest (a.put o.dst (.slice A (bs.length + cs.length) c)) w') : wpList Tryz.prog ops Q (o :: rest) a w := by
  obtain ⟨i0, hi, hz0, hz1, hz2⟩ := info_parts info_u8
  refine wpList_append_sl _ hgd s x 23 ho base 5 i0 (.int .u8 0) 1 1 Tryz.underlying23 hi hz0 hz1 hz2 rfl (by decide) v bs.length (bs.map bv) hs hown vx cs.length (cs.map bv) hx hr (one_bv _) (by unfold maxLen; omega) (by omega) hbase ?_
  intro v' w' h1 h2
  obtain ⟨A, c, rfl, _, _⟩ := SlR.open_ (SlR.of_own h1)
  refine h A c w' ?_ (fun W0 hE hb => Ext.grownOwn hE (own_base hown hb) h2)
  unfold OwnB
  rw [List.length_append, List.map_append]
  exact h1

theorem wpList_app_e {ops : Array Oper} {rest : List Oper} {o : Oper} {a : Act} {w : World} {Q : Exit → Act → World → Prop} (hgd : o.guard = none) (s x : Operand)
    (ho : o.op = .call { callee := .builtin .append, args := #[s, x], argTypes := #[22, 22] })
    (base : Nat) (v : Value) (bs : List Ent) (hs : a.eval s = v) (hown : OwnE w base v bs) (vx : Value) (cs : List Ent) (hx : a.eval x = vx) (hr : Es w vx cs)
    (hlen : bs.length + cs.length ≤ 1000000) (hbase : base ≤ w.heap.size)
    (h : ∀ A c w', OwnE w' base (.slice A (bs.length + cs.length) c) (bs ++ cs) → Grows base w w' → wpList Tryz.prog ops Q rest (a.put o.dst (.slice A (bs.length + cs.length) c)) w') : wpList Tryz.prog ops Q (o :: rest) a w := by
  obtain ⟨i0, hi, hz0, hz1, hz2⟩ := info_parts info_ent
  refine wpList_append_sl _ hgd s x 22 ho base 41 i0 _ 3 24 Tryz.underlying22 hi hz0 hz1 hz2 rfl (by decide) v bs.length (entCells bs) hs hown vx cs.length (entCells cs) hx hr (one_ents _) (by unfold maxLen; omega) (by omega) hbase ?_
  intro v' w' h1 h2
  obtain ⟨A, c, rfl, _, _⟩ := SlR.open_ (SlR.of_own h1)
  refine h A c w' ?_ (fun W0 hE hb => Ext.grownOwn hE (own_base hown hb) h2)
  unfold OwnE
  rw [List.length_append, show entCells (bs ++ cs) = entCells bs ++ entCells cs from by simp [entCells]]
  exact h1
section
variable {P : Program} {ops : Array Oper} {Q : Exit → Act → World → Prop} {md : Region.Mode} {S : World → Prop}
theorem wpAnyH_takeL {i : Nat} {oi : Oper} {v : Value} {fuel : Nat} {listed : Array Bool} {a : Act} {w : World} (hi : ops.toList[i]? = some oi)
    (hs : Region.noSelect ops = true) (hf : Region.free md ops listed i = true) (hr : (Region.ready md ops listed).contains i = true)
    (hQ : ∀ c a w, Q (.panic c) (a.put oi.dst v) w → Q (.panic c) a w) (hw : Region.wanted oi (yielded ops a.tmps) = true) (hS : S w) (hy : ∀ w, S w → (execOp a.eval oi).run P w = .ok (.value v) w)
    (h : wpAnyH P md ops Q S fuel (listed.setIfInBounds i true) (a.put oi.dst v) w) : wpAnyH P md ops Q S (fuel + 1) listed a w :=
  wpAnyH_take (by simpa using hi) hs hf hr hQ (.inl ⟨hw, hy⟩) hS h
theorem wpAnyH_skipL {i : Nat} {oi : Oper} {fuel : Nat} {listed : Array Bool} {a : Act} {w : World} (hi : ops.toList[i]? = some oi)
    (hs : Region.noSelect ops = true) (hf : Region.free md ops listed i = true) (hr : (Region.ready md ops listed).contains i = true)
    (hQ : ∀ c a w, Q (.panic c) (a.put oi.dst undef) w → Q (.panic c) a w) (hw : Region.wanted oi (yielded ops a.tmps) = false) (hS : S w)
    (h : wpAnyH P md ops Q S fuel (listed.setIfInBounds i true) (a.put oi.dst undef) w) : wpAnyH P md ops Q S (fuel + 1) listed a w :=
  wpAnyH_take (by simpa using hi) hs hf hr hQ (.inr ⟨hw, rfl⟩) hS h
theorem AllReadyH.one {fuel : Nat} {listed : Array Bool} {a : Act} {w : World} {i : Nat} {o : Oper} (ho : ops.toList[i]? = some o) (hr : Region.ready md ops listed = [i]) (hw : Region.wanted o (yielded ops a.tmps) = true)
    (h : ∀ K' : Act → World → Prop, Shut (∀ a w, S w → (S w → wpAnyH P md ops Q S fuel (listed.setIfInBounds i true) a w) → K' a w) → Oper.wp P o a w K' Q) : wpAnyH P md ops Q S (fuel + 1) listed a w :=
  wpAnyH_ready hr (by simp) (AllReadyH.cons (by simpa using ho) (fun K hK => by rw [if_pos hw]; exact h K hK) AllReadyH.nil)
end
def set3 (W : World) (b : Nat) (a v u : Value) : World := ((W.setCell ⟨b, 0, none⟩ a).setCell ⟨b, 1, none⟩ v).setCell ⟨b, 2, none⟩ u
theorem own_set3 {W : World} {b : Nat} {t : TypeId} {a v u : Value} (hB : Blk W b t #[a, v, u]) {e : TypeId} (hte : t ≠ e) {base size k : Nat} {y : Value} {xs : List Value} (hr : W.ownsRow base e size y k xs) (a' v' u' : Value) : (set3 W b a' v' u').ownsRow base e size y k xs := by
  have r1 := hr.kept (grownBy_set _ b 0 a') (.inr (hB.not_row hte hr).symm)
  have b1 := hB.set 0 a'
  have r2 := r1.kept (grownBy_set _ b 1 v') (.inr (b1.not_row hte r1).symm)
  have b2 := b1.set 1 v'
  exact r2.kept (grownBy_set _ b 2 u') (.inr (b2.not_row hte r2).symm)
theorem ext_set3 {w W : World} (h : Ext w W) {b : Nat} (hle : w.heap.size ≤ b) (a v u : Value) : Ext w (set3 W b a v u) :=
  Below.setCell (p := ⟨b, 2, none⟩) (Below.setCell (p := ⟨b, 1, none⟩) (Below.setCell (p := ⟨b, 0, none⟩) h hle _) hle _) hle _
end Go.Proofs.YtfjcnpigpkcfgaaGreat

namespace Go.Proofs.YtfjcnpigpkcfgaaGreat
open Go.RowKit Go.Mv
set_option maxRecDepth 100000
variable {T : Tab}

theorem nextN_lt (s : Nat) (bs : List UInt8) (h : s < 4294967296) : nextN T s bs < 4294967296 := not_lt_u32 _ (foldU_lt _ _ (not_lt_u32 _ h))

set_option maxHeartbeats 400000 in
theorem crcSum_any (p : Nat) (A : Option Addr) (c : Nat) (bs : List UInt8) (w : World) (hc : w.cell? ⟨p, 0, none⟩ = some (.slice A bs.length c)) (h : Bs w (.slice A bs.length c) bs) (hlen : bs.length ≤ 1000000) (hT : TabW T w) :
    Calls Tryz.prog 98 #[.slice (some ⟨p, 0, none⟩) 1 1] w fun e w' => e = .returned (.int .u32 (nextN T 0 bs)) ∧ Ext w w' := by
  have HP := Lib.hid h
  have HT := Lib.hid hT
  clear h hT
  go_enter Tryz.func98, Tryz.ntmps98
  go_wp2_with fail
  go_loopw [2, 7] (fun s i wr => ∃ k sn : Nat, k ≤ 1 ∧ s = .int .u32 sn ∧ i = .int .i64 k ∧ Hid (sn = if k = 0 then 0 else nextN T 0 bs) ∧ Ext w wr) (fun _ i _ => 1 - (intOf i).toNat)
  case atStart => exact ⟨0, 0, by omega, rfl, rfl, rfl, Ext.refl _⟩
  case round =>
    obtain ⟨k, sn, hk, rfl, rfl, Hs, hE⟩ := hrel
    have hc' := hE.cell hc
    by_cases hlt : k < 1
    · obtain rfl : k = 0 := by omega
      obtain rfl : sn = 0 := Hs.out
      go_wp2_with (go_at_call 110; refine (crcNext_any 0 (by decide) _ bs wr (HP.out.ext hE) hlen (HT.out.ext hE)).mono ?_; rintro e w1 ⟨rfl, hE1⟩)
      go_roundw
      case rel => exact ⟨1, nextN T 0 bs, by omega, rfl, rfl, rfl, Ext.trans hE hE1⟩
      case measure => simp [intOf]
    · obtain rfl : k = 1 := by omega
      obtain rfl : sn = nextN T 0 bs := Hs.out
      go_wp2_with fail
      go_ret
      exact ⟨rfl, hE⟩

def fourU (s : Nat) : List UInt8 := [UInt8.ofNat s, UInt8.ofNat (s / 256), UInt8.ofNat (s / 65536), UInt8.ofNat (s / 16777216)]
def fourC (s k : Nat) : Array Value := #[if 0 < k then .int .u8 ((s : Int) % 256) else .int .u8 0, if 1 < k then .int .u8 ((s : Int) / 256 % 256) else .int .u8 0, if 2 < k then .int .u8 ((s : Int) / 65536 % 256) else .int .u8 0, if 3 < k then .int .u8 ((s : Int) / 16777216 % 256) else .int .u8 0]
theorem fourC_four (s : Nat) : fourC s 4 = ((fourU s).map bv).toArray := by simp [fourC, fourU, bv]
set_option maxHeartbeats 1000000 in
theorem crcFour_any (s : Nat) (hs : s < 4294967296) (w : World) : Calls Tryz.prog 97 #[.int .u32 s] w fun e w' => e = .returned (.agg ((fourU s).map bv).toArray) ∧ Ext w w' := by
  go_enter Tryz.func97, Tryz.ntmps97
  go_wp2_with fail
  go_loopw [4] (fun i wr => ∃ k : Nat, k ≤ 4 ∧ i = .int .i64 k ∧ Blk wr w.heap.size 92 (fourC s k) ∧ Ext w wr) (fun i _ => 4 - (intOf i).toNat)
  case atStart => exact ⟨0, by omega, rfl, Blk.new w _ _, Ext.alloc (Ext.refl _) _⟩
  case round =>
    obtain ⟨k, hk, rfl, hB, hE⟩ := hrel
    rcases (by omega : k = 0 ∨ k = 1 ∨ k = 2 ∨ k = 3 ∨ k = 4) with rfl | rfl | rfl | rfl | rfl
    · have hB' : Blk wr w.heap.size 92 #[.int .u8 0, .int .u8 0, .int .u8 0, .int .u8 0] := hB
      obtain ⟨c0, c1, c2, c3, f0, f1, f2, f3⟩ := blk4 hB'
      go_wp2_with fail
      go_roundw
      case rel => exact ⟨1, by omega, rfl, hB'.set 0 _, Below.setCell (p := ⟨w.heap.size, 0, none⟩) hE (Nat.le_refl _) _⟩
      case measure => simp [intOf]
    · have hB' : Blk wr w.heap.size 92 #[.int .u8 ((s : Int) % 256), .int .u8 0, .int .u8 0, .int .u8 0] := hB
      obtain ⟨c0, c1, c2, c3, f0, f1, f2, f3⟩ := blk4 hB'
      go_wp2_with fail
      go_roundw
      case rel => exact ⟨2, by omega, rfl, hB'.set 1 _, Below.setCell (p := ⟨w.heap.size, 1, none⟩) hE (Nat.le_refl _) _⟩
      case measure => simp [intOf]
    · have hB' : Blk wr w.heap.size 92 #[.int .u8 ((s : Int) % 256), .int .u8 ((s : Int) / 256 % 256), .int .u8 0, .int .u8 0] := hB
      obtain ⟨c0, c1, c2, c3, f0, f1, f2, f3⟩ := blk4 hB'
      go_wp2_with fail
      go_roundw
      case rel => exact ⟨3, by omega, rfl, hB'.set 2 _, Below.setCell (p := ⟨w.heap.size, 2, none⟩) hE (Nat.le_refl _) _⟩
      case measure => simp [intOf]
    · have hB' : Blk wr w.heap.size 92 #[.int .u8 ((s : Int) % 256), .int .u8 ((s : Int) / 256 % 256), .int .u8 ((s : Int) / 65536 % 256), .int .u8 0] := hB
      obtain ⟨c0, c1, c2, c3, f0, f1, f2, f3⟩ := blk4 hB'
      go_wp2_with fail
      go_roundw
      case rel =>
        have e : (s : Int) / 16777216 % 256 = (s : Int) / 16777216 := by omega
        have hs4 := hB'.set 3 (.int .u8 ((s : Int) / 16777216))
        refine ⟨4, by omega, rfl, ?_, Below.setCell (p := ⟨w.heap.size, 3, none⟩) hE (Nat.le_refl _) _⟩
        show Blk _ _ _ #[.int .u8 ((s : Int) % 256), .int .u8 ((s : Int) / 256 % 256), .int .u8 ((s : Int) / 65536 % 256), .int .u8 ((s : Int) / 16777216 % 256)]
        rw [e]
        exact hs4
      case measure => simp [intOf]
    · have hB' : Blk wr w.heap.size 92 #[.int .u8 ((s : Int) % 256), .int .u8 ((s : Int) / 256 % 256), .int .u8 ((s : Int) / 65536 % 256), .int .u8 ((s : Int) / 16777216 % 256)] := hB
      obtain ⟨c0, c1, c2, c3, f0, f1, f2, f3⟩ := blk4 hB'
      go_wp2_with fail
      have hB4 := (((hB'.set 0 (.int .u8 ((s : Int) % 256))).set 1 (.int .u8 ((s : Int) / 256 % 256))).set 2 (.int .u8 ((s : Int) / 65536 % 256))).set 3 (.int .u8 ((s : Int) / 16777216 % 256))
      refine bodyPost_ret (results_cell_row rfl _ _ _ 92 _ _ _ rfl hB4 Tryz.underlying92 rfl (by kernel_rfl)) rfl ?_
      refine ⟨by rw [← fourC_four]; rfl, ?_⟩
      exact Below.setCell (p := ⟨w.heap.size, 3, none⟩) (Below.setCell (p := ⟨w.heap.size, 2, none⟩) (Below.setCell (p := ⟨w.heap.size, 1, none⟩) (Below.setCell (p := ⟨w.heap.size, 0, none⟩) hE (Nat.le_refl _) _) (Nat.le_refl _) _) (Nat.le_refl _) _) (Nat.le_refl _) _

set_option maxHeartbeats 400000 in
theorem bclone_any (v : Value) (bs : List UInt8) (w : World) (h : Bs w v bs) (h0 : 0 < bs.length) (hl : bs.length ≤ 1000000) : Calls Tryz.prog 99 #[v] w fun e w' => ∃ A c, e = .returned (.slice A bs.length c) ∧ OwnB w' w.heap.size (.slice A bs.length c) bs ∧ Ext w w' := by
  obtain ⟨A, c, rfl, h1, h2⟩ := SlR.open_ h
  obtain ⟨_, b, off, rfl, _⟩ := Bs.at_ h h0
  have hnil := fun (W : World) => Lib.run_eql_slice_nil (P := Tryz.prog) W
  have HB := Lib.hid h
  go_enter Tryz.func99, Tryz.ntmps99
  go_wp2_with (at_builtin; refine wpList_app_b rfl (.tmp 5) (.tmp 6) rfl w.heap.size _ [] rfl (ownB_empty w) _ bs rfl (HB.out.ext (Ext.alloc (Ext.refl _) _)) (by simp; omega) (by simp) ?_; intro A1 c1 w1 ho1 hG1; have hE1 : Ext w w1 := hG1 w (Ext.alloc (Ext.refl _) _) (Nat.le_refl _); simp only [List.length_nil, Nat.zero_add, List.nil_append] at ho1 ⊢)
  go_ret
  exact ⟨_, _, rfl, ho1, hE1⟩

/-- Bytes with their sum behind them. -/
def crcPut (T : Tab) (bs : List UInt8) : List UInt8 := bs ++ fourU (nextN T 0 bs)
theorem fourU_len (s : Nat) : (fourU s).length = 4 := rfl

set_option maxHeartbeats 1000000 in
theorem crcPut_any (v : Value) (bs : List UInt8) (w : World) (h : Bs w v bs) (h0 : 0 < bs.length) (hl : bs.length ≤ 100000) (hT : TabW T w) : Calls Tryz.prog 89 #[v] w fun e w' => ∃ A c, e = .returned (.slice A (crcPut T bs).length c) ∧ OwnB w' w.heap.size (.slice A (crcPut T bs).length c) (crcPut T bs) ∧ Ext w w' := by
  obtain ⟨A, c, rfl, h1, h2⟩ := SlR.open_ h
  have HB := Lib.hid h
  have HT := Lib.hid hT
  have hsl := nextN_lt (T := T) 0 bs (by decide)
  obtain ⟨sm, hsm⟩ : ∃ sm, nextN T 0 bs = sm := ⟨_, rfl⟩
  rw [hsm] at hsl
  have hps : crcPut T bs = bs ++ fourU sm := by unfold crcPut; rw [hsm]
  have Hps := Lib.hid hps
  have Hsm := Lib.hid hsm
  obtain ⟨i0, hi, hz0, hz1, hz2⟩ := info_parts info_u8
  obtain ⟨f0, f1, f2, f3, hf⟩ : ∃ f0 f1 f2 f3 : UInt8, fourU sm = [f0, f1, f2, f3] := ⟨_, _, _, _, rfl⟩
  have Hf := Lib.hid hf
  clear h hT hps hsm hf
  go_enter Tryz.func89, Tryz.ntmps89
  go_wp2_with fail
  have hE0 : Ext w (w.alloc (.cells #[.slice A bs.length c] 23)) := Ext.alloc (Ext.refl _) _
  refine (crcSum_any w.heap.size A c bs _ (Boxed.new w _ _).cell (HB.out.ext hE0) (by omega) (HT.out.ext hE0)).mono ?_
  rw [Hsm.out]
  rintro e w1 ⟨rfl, hE1⟩
  go_wp2_with fail
  refine (crcFour_any sm hsl _).mono ?_
  rw [Hf.out]
  rintro e w2 ⟨rfl, hE2⟩
  simp only [List.map_cons, List.map_nil, bv]
  go_wp2_with fail
  have hE03 : Ext w (w2.alloc (.cells #[.int .u8 (f0.toNat : Int), .int .u8 (f1.toNat : Int), .int .u8 (f2.toNat : Int), .int .u8 (f3.toNat : Int)] 92)) := Ext.alloc (Ext.trans hE0 (Ext.trans hE1 hE2)) _
  have hb3 := Blk.new w2 92 #[.int .u8 (f0.toNat : Int), .int .u8 (f1.toNat : Int), .int .u8 (f2.toNat : Int), .int .u8 (f3.toNat : Int)]
  refine wp_region_held_drew (S := fun _ => True) (by kernel_rfl) trivial (fun hHeld => ?_)
  refine wpAnyH_takeL (i := 0) (v := ?v1_0) rfl (by kernel_rfl) (by kernel_rfl) (by kernel_rfl) (fun _ _ _ h => h) (by rfl) (by assumption) (fun w hw => ?h1_0) ?r1_0
  case h1_0 => (try dsimp only at hw); go_simp; try with_reducible rfl
  case' r1_0 => skip
  try simp only [Act.put, List.setIfInBounds_toArray, List.set_cons_zero, List.set_cons_succ]
  refine wpAnyH_takeL (i := 2) (v := ?v2_2) rfl (by kernel_rfl) (by kernel_rfl) (by kernel_rfl) (fun _ _ _ h => h) (by rfl) (by assumption) (fun w hw => ?h2_2) ?r2_2
  case h2_2 => (try dsimp only at hw); go_simp; try with_reducible rfl
  case' r2_2 => skip
  try simp only [Act.put, List.setIfInBounds_toArray, List.set_cons_zero, List.set_cons_succ]
  refine AllReadyH.one (i := 1) rfl (by kernel_rfl) (by rfl) (fun K hK => ?_)
  go_simp
  refine (bclone_any _ bs _ (HB.out.ext (Ext.drew hE03)) h0 (by omega)).mono ?_
  rintro e w4 ⟨A4, c4, rfl, ho4, hE4⟩
  try (go_wp2_with fail)
  refine hK.out _ _ trivial (fun hHeld => ?_)
  clear hK K
  try simp only [Act.put, List.setIfInBounds_toArray, List.set_cons_zero, List.set_cons_succ]
  have hE34 : Ext (w2.alloc (.cells #[.int .u8 (f0.toNat : Int), .int .u8 (f1.toNat : Int), .int .u8 (f2.toNat : Int), .int .u8 (f3.toNat : Int)] 92)) w4 := Ext.trans (Ext.drew (Ext.refl _)) hE4
  have hb4 := hb3.ext hE34
  have hE04 : Ext w w4 := Ext.trans hE03 hE34
  have ho4' : w4.ownsRow w.heap.size 5 1 (.slice A4 bs.length c4) bs.length (bs.map bv) := own_base ho4 (Ext.drew hE03).size
  refine AllReadyH.one (i := 3) rfl (by kernel_rfl) (by rfl) (fun K hK => ?_)
  refine wp_append_lies _ (.tmp 9) (.tmp 10) 23 (by rfl) w.heap.size 5 i0 (.int .u8 0) 1 1 Tryz.underlying23 hi hz0 hz1 hz2 rfl (by decide) _ bs.length (bs.map bv) (by rfl) ho4' ⟨w2.heap.size, 0, none⟩ 4 4 [.int .u8 (f0.toNat : Int), .int .u8 (f1.toNat : Int), .int .u8 (f2.toNat : Int), .int .u8 (f3.toNat : Int)] (by rfl) rfl (World.news_of_block hb4) (by simp [Value.oneCell']) (by omega) (by unfold maxLen; omega) (by omega) hE04.size _ rfl ?_
  intro g' cap w5 hown' hgrow _ _
  refine hK.out _ _ trivial (fun hHeld => ?_)
  clear hK K
  try simp only [Act.put, List.setIfInBounds_toArray, List.set_cons_zero, List.set_cons_succ]
  refine wpAnyH_takeL (i := 4) (v := ?v6_4) rfl (by kernel_rfl) (by kernel_rfl) (by kernel_rfl) (fun _ _ _ h => h) (by rfl) (by assumption) (fun w hw => ?h6_4) ?r6_4
  case h6_4 => (try dsimp only at hw); go_simp; try with_reducible rfl
  case' r6_4 => skip
  try simp only [Act.put, List.setIfInBounds_toArray, List.set_cons_zero, List.set_cons_succ]
  refine wpAnyH_done (by kernel_rfl) ?_ _
  go_wp2_with fail
  go_ret
  have hll : (crcPut T bs).length = bs.length + 4 := by unfold crcPut; rw [List.length_append, fourU_len]
  rw [hll]
  refine ⟨_, _, rfl, ?_, Ext.grownOwn hE04 ho4' hgrow⟩
  show w5.ownsRow w.heap.size 5 1 _ (crcPut T bs).length ((crcPut T bs).map bv)
  rw [hll, Hps.out, Hf.out, List.map_append]
  exact hown'
end Go.Proofs.YtfjcnpigpkcfgaaGreat
