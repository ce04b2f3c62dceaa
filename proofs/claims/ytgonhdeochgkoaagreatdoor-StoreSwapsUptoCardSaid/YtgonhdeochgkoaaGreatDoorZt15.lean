/- Merged: SnapT SnapH -/
import Derived.Test.YtgonhdeochgkoaaGreatDoorZt14
set_option linter.all false
set_option maxHeartbeats 8000000
set_option maxRecDepth 100000
namespace Go.Proofs.YtgonhdeochgkoaaGreatDoor
open Go.RowKit Go.Mv
def ziF (s:Sta) (f:Int):Option (List UInt8):=if s.ok=true then (if f=1 then some (zj6 s) else if f=2 then some (zgB s) else none) else none
def zvz (w:World) (r:Option (List UInt8)) (e:Ending) (w':World):Prop:=match r with | some l=>zps w l e w' | none=>zjH w e w'
theorem zuy (s:Sta) (f:Int) (w:World) (hT:TabW rT w):Calls Tryz.prog 142 #[.agg #[.int .i64 s.idx,.int .i64 s.term,.int .i64 s.sum,.int .i64 s.lvl,.bool s.fin],.int .i64 f] w (zvz w (ziF s f)):=by
 unfold ziF zvz
 by_cases h:s.ok=true
 ·rw[if_pos h]
  by_cases h1:f=1
  ·subst h1;exact zuz s w h hT
  ·rw[if_neg h1]
   by_cases h2:f=2
   ·subst h2;exact zuA s w h hT
   ·rw[if_neg h2];exact zo2 s f w (by omega)
 ·rw[if_neg h];exact zo2 s f w (.inl (by simpa using h))
theorem zoV (k:Nat):∀ (acc:List Int) (bs:List UInt8),(zad k acc bs).1=0→(zad k acc bs).2.1.length=acc.length+k:=by
 induction k with
 | zero=>intro acc bs _;rfl
 | succ k ih =>
  intro acc bs h
  unfold zad at h ⊢
  split at h
  ·rename_i h0
   rw[if_pos h0,ih _ _ h]
   simp;omega
  ·rename_i h0
   exact absurd h h0
theorem zor (k:Nat):∀ (acc:List Int) (bs:List UInt8) (l:List Int),zdV k acc bs=some l→l.length=acc.length+k:=by
 induction k with
 | zero=>intro acc bs l h;cases h;rfl
 | succ k ih =>
  intro acc bs l h;unfold zdV at h
  split at h
  ·rw[ih _ _ _ h];simp;omega
  ·cases h
theorem zsk {b:List UInt8} {f:Int} {l:List Int} (h:zd9 b f=some l):l.length=5:=by
 unfold zd9 at h
 split at h
 ·unfold zf7 at h
  split at h
  ·cases h
  ·split at h
   ·rename_i h0
    cases h
    exact zoV 5 [] _ h0
   ·cases h
 ·unfold zd3 at h
  split at h
  ·cases hl:zdV 3 [] (b.drop 1) with
   | none=>rw[hl] at h;cases h
   | some l0 =>
    rw[hl] at h
    cases h
    have:=zor 3 [] _ _ hl
    simp[this]
  ·cases h
def zdw (b:List UInt8) (f:Int):Option Sta :=
 match zd9 b f with
 | none=>none
 | some l=>match ziF (zqA l) f with
  | none=>none
  | some c=>if b=c then some (zqA l) else none
def znE:Sta:=⟨0,0,0,0,false⟩
def zmt (w:World) (r:Option Sta) (e:Ending) (w':World):Prop :=
 (match r with
 | some s=>e=.returned (.tuple #[.agg #[.int .i64 s.idx,.int .i64 s.term,.int .i64 s.sum,.int .i64 s.lvl,.bool s.fin],.int .i64 0])
 | none=>e=.returned (.tuple #[.agg #[.int .i64 0,.int .i64 0,.int .i64 0,.int .i64 0,.bool false],.int .i64 11]))∧Ext w w'
theorem zhW (tmps:Array Value) (W:World) (b:Nat) (cs:Array Value) (u:Value) (h4:tmps.getD 4 undef=.pointer (some ⟨b,0,none⟩)) (h5:tmps.getD 5 undef=u) (hb:Blk W b 53 cs) (hs:cs.size=5):(results Tryz.f108 tmps).run Tryz.prog W=.ok (.tuple #[.agg cs,u]) W:=by
 have hl:=hb.load (P:=Tryz.prog) zgb rfl (by rw[hs];kernel_rfl)
 have h4':tmps[4]?.getD undef=.pointer (some ⟨b,0,none⟩):=by simpa using h4
 have h5':tmps[5]?.getD undef=u:=by simpa using h5
 simp[results,Tryz.results108,h4',h5',asAddr,hl]
theorem zdQ {W:World} {b:Nat} {t:TypeId} {cs:Array Value} (h:Blk W b t cs):W.frozen? ⟨b,0,none⟩=false∧W.frozen? ⟨b,1,none⟩=false∧W.frozen? ⟨b,2,none⟩=false∧W.frozen? ⟨b,3,none⟩=false∧W.frozen? ⟨b,4,none⟩=false :=
 ⟨h.frozen 0,h.frozen 1,h.frozen 2,h.frozen 3,h.frozen 4⟩
theorem zcB {W:World} {b:Nat} {t:TypeId} {a v u x y:Value} (h:Blk W b t #[a,v,u,x,y]) (a' v' u' x' y':Value):Blk (((((W.setCell ⟨b,0,none⟩ a').setCell ⟨b,1,none⟩ v').setCell ⟨b,2,none⟩ u').setCell ⟨b,3,none⟩ x').setCell ⟨b,4,none⟩ y') b t #[a',v',u',x',y'] :=
 ((((h.set 0 a').set 1 v').set 2 u').set 3 x').set 4 y'
theorem zcD {w W:World} (h:Ext w W) {b:Nat} (hb:w.heap.size≤b) (a' v' u' x' y':Value):Ext w (((((W.setCell ⟨b,0,none⟩ a').setCell ⟨b,1,none⟩ v').setCell ⟨b,2,none⟩ u').setCell ⟨b,3,none⟩ x').setCell ⟨b,4,none⟩ y') :=
 ((((Below.setCell h hb a').setCell hb v').setCell hb u').setCell hb x').setCell hb y'
theorem zq8 (v:Value) (bs:List UInt8) (f:Int) (w:World) (hBs:Bs w v bs) (hl:bs.length≤2000000) (hr:zd9 bs f=none):Calls Tryz.prog 108 #[v,.int .i64 f] w (zmt w none):=by
 have hb:=Blk.new w 53 #[.int .i64 0,.int .i64 0,.int .i64 0,.int .i64 0,.bool false]
 have hX:Ext w (w.alloc (.cells #[.int .i64 0,.int .i64 0,.int .i64 0,.int .i64 0,.bool false] 53)):=Ext.alloc (Ext.refl _) _
 have key:=znq v bs f (w.alloc (.cells #[.int .i64 0,.int .i64 0,.int .i64 0,.int .i64 0,.bool false] 53)) (hBs.ext hX) hl;rw[hr] at key;have Key:=zhd key;clear key hr hBs
 go_enter Tryz.func108,Tryz.ntmps108
 go_wp2_with fail
 refine Key.out.mono ?_
 rintro e w1 ⟨v1,rfl,-,hE1⟩;obtain ⟨g0,g1,g2,g3,g4⟩:=zac (hb.ext hE1);have hb1:=hb.ext hE1;obtain ⟨f0,f1,f2,f3,f4⟩:=zdQ hb1
 try simp only[Option.isSome]
 go_wp2_with fail
 refine bodyPost_ret (zhW _ _ _ _ _ rfl rfl (zcB hb1 _ _ _ _ _) rfl) rfl ⟨rfl,zcD (Ext.trans hX hE1) (Nat.le_refl _) _ _ _ _ _⟩
theorem zfk {W:World} {b q k:Nat} {z:Value} (h:W.cell? ⟨q,k,none⟩=some z) (hne:b≠q) (a' v' u' x' y':Value):(((((W.setCell ⟨b,0,none⟩ a').setCell ⟨b,1,none⟩ v').setCell ⟨b,2,none⟩ u').setCell ⟨b,3,none⟩ x').setCell ⟨b,4,none⟩ y').cell? ⟨q,k,none⟩=some z:=by
 have hn:some q≠some b:=fun e=>hne (by cases e;rfl)
 exact zaB (zaa _ b 4 y') (zaB (zaa _ b 3 x') (zaB (zaa _ b 2 u') (zaB (zaa _ b 1 v') (zaB (zaa _ b 0 a') h hn) hn) hn) hn) hn
theorem zwj {l:List Int} (h:l.length=5):∃ a b c d e,l=[a,b,c,d,e]:=by
 match l,h with
 | [a,b,c,d,e],_=>exact ⟨a,b,c,d,e,rfl⟩
theorem zq9 (v:Value) (bs:List UInt8) (f:Int) (w:World) (hT:TabW rT w) (hBs:Bs w v bs) (hl:bs.length≤2000000) (l:List Int) (hr:zd9 bs f=some l):Calls Tryz.prog 108 #[v,.int .i64 f] w (zmt w (zdw bs f)):=by
 have hb:=Blk.new w 53 #[.int .i64 0,.int .i64 0,.int .i64 0,.int .i64 0,.bool false]
 have hX:Ext w (w.alloc (.cells #[.int .i64 0,.int .i64 0,.int .i64 0,.int .i64 0,.bool false] 53)):=Ext.alloc (Ext.refl _) _
 have key:=znq v bs f (w.alloc (.cells #[.int .i64 0,.int .i64 0,.int .i64 0,.int .i64 0,.bool false] 53)) (hBs.ext hX) hl;rw[hr] at key;have Key:=zhd key;obtain ⟨x0,x1,x2,x3,x4,rfl⟩:=zwj (zsk hr);obtain ⟨s,hs⟩:∃ s:Sta,s=⟨x0,x1,x2,x3,x4==1⟩:=⟨_,rfl⟩
 have hr2:zdw bs f=match ziF s f with | none=>none | some c=>if bs=c then some s else none:=by
  unfold zdw;rw[hr,hs];rfl
 have Hr2:=zhd hr2;have Hs:=zhd hs;clear hr2 hs;have HBs:=zhd hBs;have HT:=zhd hT;clear key hr hBs hT
 go_enter Tryz.func108,Tryz.ntmps108
 go_wp2_with fail
 refine Key.out.mono ?_
 rintro e w1 ⟨v1,rfl,ho,hE1⟩;obtain ⟨q,cap,rfl,hq,hq1,hq2⟩:=zdp (ho _ rfl) (by simp);obtain ⟨_,q',off',e',hc⟩:=SlR.at_ (SlR.of_own (ho _ rfl)) (by simp)
 cases e'
 have hc0:=hc 0 _ rfl;have hc1:=hc 1 _ rfl;have hc2:=hc 2 _ rfl;have hc3:=hc 3 _ rfl;have hc4:=hc 4 _ rfl;simp only[Nat.zero_add,iv] at hc0 hc1 hc2 hc3 hc4;clear hc
 simp only[List.length_cons,List.length_nil,Nat.zero_add,Nat.reduceAdd] at hq1 ⊢
 have hb1:=hb.ext hE1
 try simp only[Option.isSome]
 go_wp2_with fail
 have hcs:w1.cell? ⟨q,0,none⟩=some (.int .i64 x0)∧w1.cell? ⟨q,1,none⟩=some (.int .i64 x1)∧w1.cell? ⟨q,2,none⟩=some (.int .i64 x2)∧w1.cell? ⟨q,3,none⟩=some (.int .i64 x3)∧w1.cell? ⟨q,4,none⟩=some (.int .i64 x4):=⟨hc0,hc1,hc2,hc3,hc4⟩
 have hqw:w.heap.size≠q:=by rw[World.size_alloc] at hq;omega
 clear hc0 hc1 hc2 hc3 hc4 ho
 refine wp_region_held_drew (S:=fun w'=>w'.cell? ⟨q,0,none⟩=some (.int .i64 x0)∧w'.cell? ⟨q,1,none⟩=some (.int .i64 x1)∧w'.cell? ⟨q,2,none⟩=some (.int .i64 x2)∧w'.cell? ⟨q,3,none⟩=some (.int .i64 x3)∧w'.cell? ⟨q,4,none⟩=some (.int .i64 x4)) (by kernel_rfl) hcs (fun _=>?_)
 refine tkN 0 rfl ?_;refine tkN 1 rfl ?_;refine tkN 2 rfl ?_;refine tkN 3 rfl ?_;refine tkN 4 rfl ?_;refine tkN 5 rfl ?_;refine tkN 6 rfl ?_;refine tkN 7 rfl ?_;refine tkN 8 rfl ?_;refine tkN 9 rfl ?_;refine tkN 10 rfl ?_;refine tkN 11 rfl ?_;refine tkN 12 rfl ?_;refine tkN 13 rfl ?_;refine tkN 14 rfl ?_;refine tkN 15 rfl ?_;refine tkN 16 rfl ?_;obtain ⟨g0,g1,g2,g3,g4⟩:=zac hb1;obtain ⟨f0,f1,f2,f3,f4⟩:=zdQ hb1
 refine ar1 17 rfl (fun K hK=>?_)
 go_simp
 have hb2:=zcB hb1 (.int .i64 x0) (.int .i64 x1) (.int .i64 x2) (.int .i64 x3) (.bool (x4==1));have hE2:=zcD (Ext.trans hX hE1) (Nat.le_refl _) (.int .i64 x0) (.int .i64 x1) (.int .i64 x2) (.int .i64 x3) (.bool (x4==1));have k0:=zfk hcs.1 hqw (.int .i64 x0) (.int .i64 x1) (.int .i64 x2) (.int .i64 x3) (.bool (x4==1));have k1:=zfk hcs.2.1 hqw (.int .i64 x0) (.int .i64 x1) (.int .i64 x2) (.int .i64 x3) (.bool (x4==1));have k2:=zfk hcs.2.2.1 hqw (.int .i64 x0) (.int .i64 x1) (.int .i64 x2) (.int .i64 x3) (.bool (x4==1));have k3:=zfk hcs.2.2.2.1 hqw (.int .i64 x0) (.int .i64 x1) (.int .i64 x2) (.int .i64 x3) (.bool (x4==1));have k4:=zfk hcs.2.2.2.2 hqw (.int .i64 x0) (.int .i64 x1) (.int .i64 x2) (.int .i64 x3) (.bool (x4==1));clear f0 f1 f2 f3 f4 g0 g1 g2 g3 g4 hb1 hcs
 generalize (((((w1.setCell ⟨w.heap.size,0,none⟩ (.int .i64 x0)).setCell ⟨w.heap.size,1,none⟩ (.int .i64 x1)).setCell ⟨w.heap.size,2,none⟩ (.int .i64 x2)).setCell ⟨w.heap.size,3,none⟩ (.int .i64 x3)).setCell ⟨w.heap.size,4,none⟩ (.bool (x4==1)))=w1' at *
 have hcs2:w1'.drew.cell? ⟨q,0,none⟩=some (.int .i64 x0)∧w1'.drew.cell? ⟨q,1,none⟩=some (.int .i64 x1)∧w1'.drew.cell? ⟨q,2,none⟩=some (.int .i64 x2)∧w1'.drew.cell? ⟨q,3,none⟩=some (.int .i64 x3)∧w1'.drew.cell? ⟨q,4,none⟩=some (.int .i64 x4):=⟨k0,k1,k2,k3,k4⟩
 have hb2:Blk w1'.drew w.heap.size 53 #[.int .i64 x0,.int .i64 x1,.int .i64 x2,.int .i64 x3,.bool (x4==1)]:=hb2
 have hE2:Ext w w1'.drew:=Ext.drew hE2
 generalize w1'.drew=w2 at *
 refine shK hK _ _ hcs2 (fun _=>?_)
 refine wpAnyH_done (by kernel_rfl) ?_ _;clear hcs2;obtain ⟨g0,g1,g2,g3,g4⟩:=zac hb2;obtain ⟨f0,f1,f2,f3,f4⟩:=zdQ hb2;have key2:=zuy s f w2 (HT.out.ext hE2);have Hs2:=Hs.out;subst Hs2;dsimp only at key2
 have HBs2:Hid (Bs w2 v bs):=HBs.out.ext hE2
 obtain ⟨r,hrr⟩:∃ r,ziF ⟨x0,x1,x2,x3,x4==1⟩ f=r:=⟨_,rfl⟩;have hr2:=Hr2.out;rw[hrr] at key2 hr2;clear Hr2 hrr Hs
 cases r with
 | none =>
  have Key2:Hid (Calls _ _ _ _ (zjH w2)):=key2
  have Hr2:Hid (zdw bs f=none):=hr2
  clear key2 hr2;go_wp2_with fail
  refine Key2.out.mono ?_
  rintro e w3 ⟨rfl,hE3⟩;have hb3:=hb2.ext hE3;clear f0 f1 f2 f3 f4 g0 g1 g2 g3 g4;obtain ⟨g0,g1,g2,g3,g4⟩:=zac hb3;obtain ⟨f0,f1,f2,f3,f4⟩:=zdQ hb3;go_wp2_with fail
  refine bodyPost_ret (zhW _ _ _ _ _ rfl rfl (zcB hb3 _ _ _ _ _) rfl) rfl ⟨by rw[Hr2.out];exact rfl,zcD (Ext.trans hE2 hE3) (Nat.le_refl _) _ _ _ _ _⟩
 | some cs =>
  have Key2:Hid (Calls _ _ _ _ (zps w2 cs)):=key2
  clear key2
  by_cases hbc:bs=cs
  ·have Hr2:Hid (zdw bs f=some ⟨x0,x1,x2,x3,x4==1⟩):=by
    rw[Hid,hr2];exact if_pos hbc
   have Hbc:=zhd hbc;clear hr2 hbc;go_wp2_with fail
   refine Key2.out.mono ?_
   rintro e w3 ⟨A3,c3,rfl,ho3,hE3⟩;have hb3:=hb2.ext hE3;have key3:=zbp v (.slice A3 cs.length c3) bs cs w3 (HBs2.out.ext hE3) (SlR.of_own ho3);rw[decide_eq_true Hbc.out] at key3;have Key3:=zhd key3;clear f0 f1 f2 f3 f4 g0 g1 g2 g3 g4 key3 ho3;obtain ⟨g0,g1,g2,g3,g4⟩:=zac hb3;obtain ⟨f0,f1,f2,f3,f4⟩:=zdQ hb3;go_wp2_with fail
   refine Key3.out.mono ?_
   rintro e w4 ⟨rfl,rfl⟩;go_wp2_with fail
   refine bodyPost_ret (zhW _ _ _ _ _ rfl rfl (zcB hb3 _ _ _ _ _) rfl) rfl ⟨by rw[Hr2.out];exact rfl,zcD (Ext.trans hE2 hE3) (Nat.le_refl _) _ _ _ _ _⟩
  ·have Hr2:Hid (zdw bs f=none):=by
    rw[Hid,hr2];exact if_neg hbc
   have Hbc:=zhd hbc;clear hr2 hbc;go_wp2_with fail
   refine Key2.out.mono ?_
   rintro e w3 ⟨A3,c3,rfl,ho3,hE3⟩;have hb3:=hb2.ext hE3;have key3:=zbp v (.slice A3 cs.length c3) bs cs w3 (HBs2.out.ext hE3) (SlR.of_own ho3);rw[decide_eq_false Hbc.out] at key3;have Key3:=zhd key3;clear f0 f1 f2 f3 f4 g0 g1 g2 g3 g4 key3 ho3;obtain ⟨g0,g1,g2,g3,g4⟩:=zac hb3;obtain ⟨f0,f1,f2,f3,f4⟩:=zdQ hb3;go_wp2_with fail
   refine Key3.out.mono ?_
   rintro e w4 ⟨rfl,rfl⟩;go_wp2_with fail
   refine bodyPost_ret (zhW _ _ _ _ _ rfl rfl (zcB hb3 _ _ _ _ _) rfl) rfl ⟨by rw[Hr2.out];exact rfl,zcD (Ext.trans hE2 hE3) (Nat.le_refl _) _ _ _ _ _⟩
theorem zq2 (v:Value) (bs:List UInt8) (f:Int) (w:World) (hT:TabW rT w) (hBs:Bs w v bs) (hl:bs.length≤2000000):Calls Tryz.prog 108 #[v,.int .i64 f] w (zmt w (zdw bs f)):=by
 cases hr:zd9 bs f with
 | none =>
  have:zdw bs f=none:=by unfold zdw;rw[hr]
  rw[this]
  exact zq8 v bs f w hBs hl hr
 | some l=>exact zq9 v bs f w hT hBs hl l hr
theorem zqH {b:List UInt8} {f:Int} {s:Sta} (h:zdw b f=some s):s.ok=true∧((f=1∧b=zj6 s)∨(f=2∧b=zgB s))∧ziF s f=some b:=by
 unfold zdw at h
 cases hr:zd9 b f with
 | none=>rw[hr] at h;cases h
 | some l =>
  rw[hr] at h;dsimp only at h
  cases hp:ziF (zqA l) f with
  | none=>rw[hp] at h;cases h
  | some c =>
   rw[hp] at h;dsimp only at h
   split at h
   ·rename_i hbc
    cases h
    have hp2:=hp;unfold ziF at hp
    split at hp
    ·rename_i hok
     refine ⟨hok,?_,by rw[hp2,hbc]⟩
     split at hp
     ·rename_i h1;cases hp;exact .inl ⟨h1,hbc⟩
     ·split at hp
      ·rename_i h2;cases hp;exact .inr ⟨h2,hbc⟩
      ·cases hp
    ·cases hp
   ·cases h
end Go.Proofs.YtgonhdeochgkoaaGreatDoor
