/-
  The walks of two.Scan, two.End, two.More.
-/
import Derived.Test.YtibbbdifkopebaaLook
set_option linter.all false
namespace Go.Proofs.Ytibbbdifkopebaa
open Go.RowKit Go.Mv
set_option maxRecDepth 100000

def ScanP (w : World) (r : LookR) (e : Ending) (w' : World) : Prop :=
  ∃ vl, e = .returned (.tuple #[.agg #[.int .i64 r.first, vl, .int .i64 r.used], .int .i64 r.err]) ∧ w'.ownsRow w.heap.size 45 3 vl r.log.length (entCells r.log) ∧ Ext w w'
/-- A segment's end: the error, the point. -/
def endS (bs : List UInt8) : Int × (Nat × Nat) := if (lookS bs).err = 0 ∧ (lookS bs).used = bs.length then (0, (lookS bs).pt) else (11, (0, 0))
def EndP (w : World) (r : Int × (Nat × Nat)) (e : Ending) (w' : World) : Prop := ∃ vz, e = .returned (.tuple #[vz, .int .i64 r.1]) ∧ PtV vz r.2 ∧ Ext w w'
def moreS (bs : List UInt8) (es : List Ent) : Int × List UInt8 := if (endS bs).1 = 0 then (if allOk es = true then (0, blocksS (endS bs).2 es) else (2, [])) else (11, [])

theorem look_ext (v : Value) (bs : List UInt8) (w : World) (hBs : Bs w v bs) (hl : bs.length ≤ 1000000) : ∀ W, Ext w W → Calls Try.prog 37 #[v] W (LookP W (lookS bs)) := fun W hE => look_any v bs W (Bs.ext hBs hE) hl

set_option maxHeartbeats 1000000 in
theorem Scan_any (v : Value) (bs : List UInt8) (w : World) (hBs : Bs w v bs) (hl : bs.length ≤ 1000000) : Calls Try.prog 18 #[v] w (ScanP w (lookS bs)) := by
  have HL := Lib.hid (look_ext v bs w hBs hl)
  obtain ⟨A, c, rfl, _, _⟩ := SlR.open_ hBs
  clear hBs
  generalize lookS bs = R at *
  obtain ⟨er, first, log, used, pt⟩ := R
  go_enter Try.func18, Try.ntmps18
  go_wp2_with (go_at_call 37; refine (HL.out _ (Ext.alloc (Ext.refl _) _)).mono ?_; rintro e w1 ⟨vl, vz, rfl, ho1, hp, hE1⟩; dsimp only at ho1; obtain ⟨Av, cv, rfl, _, _⟩ := SlR.open_ (SlR.of_own ho1); obtain ⟨z1, z2, rfl, _, _⟩ := hp; have hB := ((Blk.new w 36 #[.int .i64 0, .slice none 0 0, .int .i64 0]).ext hE1).alloc (.cells #[.int .i64 first, .slice Av log.length cv, .int .i64 used] 36); obtain ⟨c0, c1, c2, f0, f1, f2⟩ := blk3 hB)
  have hb2 := blk_set3 hB (.int .i64 first) (.slice Av log.length cv) (.int .i64 used)
  have hrow := own_ext ho1 (Ext.alloc (Ext.refl w1) (.cells #[.int .i64 first, .slice Av log.length cv, .int .i64 used] 36))
  have r1 := hrow.kept (grownBy_set _ w.heap.size 0 (.int .i64 first)) (.inr (hB.not_row (by decide) hrow).symm)
  have b1 := hB.set 0 (.int .i64 first)
  have r2 := r1.kept (grownBy_set _ w.heap.size 1 (.slice Av log.length cv)) (.inr (b1.not_row (by decide) r1).symm)
  have b2 := b1.set 1 (.slice Av log.length cv)
  have r3 := r2.kept (grownBy_set _ w.heap.size 2 (.int .i64 used)) (.inr (b2.not_row (by decide) r2).symm)
  obtain ⟨g0, g1, g2, _, _, _⟩ := blk3 hb2
  refine bodyPost_ret (v := .tuple #[.agg #[.int .i64 first, .slice Av log.length cv, .int .i64 used], .int .i64 er]) (by simp [results, Try.results18, go_sem, g0, g1, g2]) rfl ⟨_, rfl, own_base r3 (by simp), ?_⟩
  exact Below.setCell (p := ⟨w.heap.size, 2, none⟩) (Below.setCell (p := ⟨w.heap.size, 1, none⟩) (Below.setCell (p := ⟨w.heap.size, 0, none⟩) (Ext.alloc (Ext.trans (Ext.alloc (Ext.refl _) _) hE1) _) (Nat.le_refl _) _) (Nat.le_refl _) _) (Nat.le_refl _) _

set_option maxHeartbeats 1000000 in
theorem End_any (v : Value) (bs : List UInt8) (w : World) (hBs : Bs w v bs) (hl : bs.length ≤ 1000000) : Calls Try.prog 20 #[v] w (EndP w (endS bs)) := by
  have HL := Lib.hid (look_any v bs w hBs hl)
  obtain ⟨A, c, rfl, _, _⟩ := SlR.open_ hBs
  clear hBs
  unfold endS
  generalize lookS bs = R at *
  obtain ⟨er, first, log, used, pt⟩ := R
  dsimp only
  by_cases her : er = 0
  · subst her
    by_cases hu : used = bs.length
    · subst hu
      rw [if_pos ⟨rfl, rfl⟩]
      go_enter Try.func20, Try.ntmps20
      go_wp2_with (go_at_call 37; refine HL.out.mono ?_; rintro e w1 ⟨vl, vz, rfl, ho1, hp, hE1⟩; dsimp only at ho1 hp; have HP := Lib.hid hp; obtain ⟨Av, cv, rfl, _, _⟩ := SlR.open_ (SlR.of_own ho1); obtain ⟨z1, z2, rfl, _, _⟩ := hp)
      go_ret2
      exact ⟨_, rfl, HP.out, Ext.alloc hE1 _⟩
    · rw [if_neg (fun h => hu h.2)]
      have hne : ((used : Int) != (bs.length : Int)) = true := by simp; omega
      clear hu
      go_enter Try.func20, Try.ntmps20
      go_wp2_with (go_at_call 37; refine HL.out.mono ?_; rintro e w1 ⟨vl, vz, rfl, ho1, hp, hE1⟩; dsimp only at ho1 hp; have HP := Lib.hid hp; obtain ⟨Av, cv, rfl, _, _⟩ := SlR.open_ (SlR.of_own ho1); obtain ⟨z1, z2, rfl, _, _⟩ := hp)
      go_ret2
      exact ⟨_, rfl, PtV.zero, Ext.alloc hE1 _⟩
  · rw [if_neg (fun h => her h.1)]
    have e6 : (er != 0) = true := by simpa using her
    clear her
    go_enter Try.func20, Try.ntmps20
    go_wp2_with (go_at_call 37; refine HL.out.mono ?_; rintro e w1 ⟨vl, vz, rfl, ho1, hp, hE1⟩; dsimp only at ho1 hp; have HP := Lib.hid hp; obtain ⟨Av, cv, rfl, _, _⟩ := SlR.open_ (SlR.of_own ho1); obtain ⟨z1, z2, rfl, _, _⟩ := hp)
    go_ret2
    exact ⟨_, rfl, PtV.zero, Ext.alloc hE1 _⟩

set_option maxHeartbeats 1000000 in
theorem More_any (v vl : Value) (bs : List UInt8) (es : List Ent) (w : World) (hBs : Bs w v bs) (hl : bs.length ≤ 1000000) (h : Es w vl es) (hlen : es.length ≤ 1000000) : Calls Try.prog 16 #[v, vl] w (ResP w (moreS bs es)) := by
  have HE := Lib.hid (End_any v bs w hBs hl)
  have HF := Lib.hid (fun w (h : Es w vl es) => bad_any _ es w h)
  have H := Lib.hid h
  obtain ⟨A, c, rfl, _, _⟩ := SlR.open_ hBs
  obtain ⟨A', c', rfl, _, _⟩ := SlR.open_ h
  clear hBs h
  unfold moreS ResP
  rcases hd : endS bs with ⟨er, pt⟩
  rw [hd] at HE
  have herr : er = 0 ∨ er = 11 := by
    have := congrArg Prod.fst hd
    unfold endS at this
    split at this
    · exact .inl this.symm
    · exact .inr this.symm
  clear hd
  dsimp only
  rcases herr with rfl | rfl
  · rw [if_pos rfl]
    cases ha : allOk es
    · rw [ha] at HF
      rw [if_neg (by simp)]
      clear ha
      go_enter Try.func16, Try.ntmps16
      go_wp2_with (first
        | (go_at_call 20; refine HE.out.mono ?_; rintro e w1 ⟨vz, rfl, hp, hE1⟩; obtain ⟨z1, z2, rfl, _, _⟩ := hp)
        | (go_at_call 29; refine (HF.out _ (Es.ext H.out hE1)).mono ?_; rintro e w2 ⟨rfl, hE2⟩))
      go_ret2
      exact ⟨_, rfl, World.ownsRow_nil _ _ _ _, Ext.trans hE1 hE2⟩
    · rw [ha] at HF
      rw [if_pos (by simp)]
      have Ha := Lib.hid ha
      clear ha
      go_enter Try.func16, Try.ntmps16
      go_wp2_with (first
        | (go_at_call 20; refine HE.out.mono ?_; rintro e w1 ⟨vz, rfl, hp, hE1⟩; have HP := Lib.hid hp; obtain ⟨z1, z2, rfl, _, _⟩ := hp)
        | (go_at_call 29; refine (HF.out _ (Es.ext H.out hE1)).mono ?_; rintro e w2 ⟨rfl, hE2⟩)
        | (go_at_call 35; refine (blocks_any _ _ _ _ _ _).mono ?_; rintro e w' ⟨rfl, rfl⟩)
        | (go_at_call 34
           refine (allOf w2 _ es (Es.ext H.out (Ext.trans hE1 hE2)) Ha.out hlen _ _ _ HP.out).mono ?_
           rintro e w4 ⟨v4, rfl, ho4, hE5⟩))
      go_ret2
      exact ⟨_, rfl, own_base ho4 (Ext.trans hE1 hE2).size, Ext.trans (Ext.trans hE1 hE2) hE5⟩
  · rw [if_neg (by decide)]
    go_enter Try.func16, Try.ntmps16
    go_wp2_with (go_at_call 20; refine HE.out.mono ?_; rintro e w1 ⟨vz, rfl, hp, hE1⟩; obtain ⟨z1, z2, rfl, _, _⟩ := hp)
    go_ret2
    exact ⟨_, rfl, World.ownsRow_nil _ _ _ _, hE1⟩
end Go.Proofs.Ytibbbdifkopebaa
