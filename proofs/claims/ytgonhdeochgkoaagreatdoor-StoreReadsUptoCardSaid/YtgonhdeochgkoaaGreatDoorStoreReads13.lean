/- Merged: SnapT SnapH Rcrc Rlong SnapR SnapR2 SnapR3 SnapR4 SnapR5 RefBlk RefScan Rone AppB AppK LibT Calm HeldIn LibP LibG -/
import Derived.Test.YtgonhdeochgkoaaGreatDoorStoreReads12
import Derived.Deep.RegionHeld3
import Derived.Deep.AppendLies
import Derived.OrdersHeld
set_option linter.all false
set_option maxHeartbeats 8000000
set_option maxRecDepth 100000
namespace Go.Proofs.YtgonhdeochgkoaaGreatDoor
open Go.RowKit Go.Mv
def zhO (s:Sta) (f:Int):Option (List UInt8):=if s.ok=true then (if f=1 then some (zi0 s) else if f=2 then some (zfZ s) else none) else none
def ztt (w:World) (r:Option (List UInt8)) (e:Ending) (w':World):Prop:=match r with | some l=>znR w l e w' | none=>ziJ w e w'
theorem zsz (s:Sta) (f:Int) (w:World) (hT:TabW rT w):Calls Tryz.prog 142 #[.agg #[.int .i64 s.idx,.int .i64 s.term,.int .i64 s.sum,.int .i64 s.lvl,.bool s.fin],.int .i64 f] w (ztt w (zhO s f)):=by
 unfold zhO ztt
 by_cases h:s.ok=true
 ·rw[if_pos h]
  by_cases h1:f=1
  ·subst h1;exact zsA s w h hT
  ·rw[if_neg h1]
   by_cases h2:f=2
   ·subst h2;exact zsB s w h hT
   ·rw[if_neg h2];exact znt s f w (by omega)
 ·rw[if_neg h];exact znt s f w (.inl (by simpa using h))
theorem znl (k:Nat):∀ (acc:List Int) (bs:List UInt8),(zac k acc bs).1=0→(zac k acc bs).2.1.length=acc.length+k:=by
 induction k with
 | zero=>intro acc bs _;rfl
 | succ k ih =>
  intro acc bs h
  unfold zac at h ⊢
  split at h
  ·rename_i h0
   rw[if_pos h0,ih _ _ h]
   simp;omega
  ·rename_i h0
   exact absurd h h0
theorem zmS (k:Nat):∀ (acc:List Int) (bs:List UInt8) (l:List Int),zdA k acc bs=some l→l.length=acc.length+k:=by
 induction k with
 | zero=>intro acc bs l h;cases h;rfl
 | succ k ih =>
  intro acc bs l h
  unfold zdA at h
  split at h
  ·rw[ih _ _ _ h];simp;omega
  ·cases h
theorem zqv {b:List UInt8} {f:Int} {l:List Int} (h:zdN b f=some l):l.length=5:=by
 unfold zdN at h
 split at h
 ·unfold zfy at h
  split at h
  ·cases h
  ·split at h
   ·rename_i h0
    cases h
    exact znl 5 [] _ h0
   ·cases h
 ·unfold zdI at h
  split at h
  ·cases hl:zdA 3 [] (b.drop 1) with
   | none=>rw[hl] at h;cases h
   | some l0 =>
    rw[hl] at h
    cases h
    have:=zmS 3 [] _ _ hl
    simp[this]
  ·cases h
def zdd (b:List UInt8) (f:Int):Option Sta :=
 match zdN b f with
 | none=>none
 | some l=>match zhO (zoR l) f with
  | none=>none
  | some c=>if b=c then some (zoR l) else none
def zmg:Sta:=⟨0,0,0,0,false⟩
def zlc (w:World) (r:Option Sta) (e:Ending) (w':World):Prop :=
 (match r with
 | some s=>e=.returned (.tuple #[.agg #[.int .i64 s.idx,.int .i64 s.term,.int .i64 s.sum,.int .i64 s.lvl,.bool s.fin],.int .i64 0])
 | none=>e=.returned (.tuple #[.agg #[.int .i64 0,.int .i64 0,.int .i64 0,.int .i64 0,.bool false],.int .i64 11]))∧Ext w w'
theorem zg5 (tmps:Array Value) (W:World) (b:Nat) (cs:Array Value) (u:Value) (h4:tmps.getD 4 undef=.pointer (some ⟨b,0,none⟩)) (h5:tmps.getD 5 undef=u) (hb:Blk W b 53 cs) (hs:cs.size=5):(results Tryz.f108 tmps).run Tryz.prog W=.ok (.tuple #[.agg cs,u]) W:=by
 have hl:=hb.load (P:=Tryz.prog) zfB rfl (by rw[hs];kernel_rfl)
 have h4':tmps[4]?.getD undef=.pointer (some ⟨b,0,none⟩):=by simpa using h4
 have h5':tmps[5]?.getD undef=u:=by simpa using h5
 simp[results,Tryz.results108,h4',h5',asAddr,hl]
theorem zdv {W:World} {b:Nat} {t:TypeId} {cs:Array Value} (h:Blk W b t cs):W.frozen? ⟨b,0,none⟩=false∧W.frozen? ⟨b,1,none⟩=false∧W.frozen? ⟨b,2,none⟩=false∧W.frozen? ⟨b,3,none⟩=false∧W.frozen? ⟨b,4,none⟩=false :=
 ⟨h.frozen 0,h.frozen 1,h.frozen 2,h.frozen 3,h.frozen 4⟩
theorem zcd {W:World} {b:Nat} {t:TypeId} {a v u x y:Value} (h:Blk W b t #[a,v,u,x,y]) (a' v' u' x' y':Value):Blk (((((W.setCell ⟨b,0,none⟩ a').setCell ⟨b,1,none⟩ v').setCell ⟨b,2,none⟩ u').setCell ⟨b,3,none⟩ x').setCell ⟨b,4,none⟩ y') b t #[a',v',u',x',y'] :=
 ((((h.set 0 a').set 1 v').set 2 u').set 3 x').set 4 y'
theorem zcg {w W:World} (h:Ext w W) {b:Nat} (hb:w.heap.size≤b) (a' v' u' x' y':Value):Ext w (((((W.setCell ⟨b,0,none⟩ a').setCell ⟨b,1,none⟩ v').setCell ⟨b,2,none⟩ u').setCell ⟨b,3,none⟩ x').setCell ⟨b,4,none⟩ y') :=
 ((((Below.setCell h hb a').setCell hb v').setCell hb u').setCell hb x').setCell hb y'
theorem zpp (v:Value) (bs:List UInt8) (f:Int) (w:World) (hBs:Bs w v bs) (hl:bs.length≤2000000) (hr:zdN bs f=none):Calls Tryz.prog 108 #[v,.int .i64 f] w (zlc w none):=by
 have hb:=Blk.new w 53 #[.int .i64 0,.int .i64 0,.int .i64 0,.int .i64 0,.bool false]
 have hX:Ext w (w.alloc (.cells #[.int .i64 0,.int .i64 0,.int .i64 0,.int .i64 0,.bool false] 53)):=Ext.alloc (Ext.refl _) _
 have key:=zl3 v bs f (w.alloc (.cells #[.int .i64 0,.int .i64 0,.int .i64 0,.int .i64 0,.bool false] 53)) (hBs.ext hX) hl
 rw[hr] at key
 have Key:=zhd key
 clear key hr hBs
 go_enter Tryz.func108,Tryz.ntmps108
 go_wp2_with fail
 refine Key.out.mono ?_
 rintro e w1 ⟨v1,rfl,-,hE1⟩
 obtain ⟨g0,g1,g2,g3,g4⟩:=zad (hb.ext hE1)
 have hb1:=hb.ext hE1
 obtain ⟨f0,f1,f2,f3,f4⟩:=zdv hb1
 try simp only[Option.isSome]
 go_wp2_with fail
 refine bodyPost_ret (zg5 _ _ _ _ _ rfl rfl (zcd hb1 _ _ _ _ _) rfl) rfl ⟨rfl,zcg (Ext.trans hX hE1) (Nat.le_refl _) _ _ _ _ _⟩
theorem zeJ {W:World} {b q k:Nat} {z:Value} (h:W.cell? ⟨q,k,none⟩=some z) (hne:b≠q) (a' v' u' x' y':Value):(((((W.setCell ⟨b,0,none⟩ a').setCell ⟨b,1,none⟩ v').setCell ⟨b,2,none⟩ u').setCell ⟨b,3,none⟩ x').setCell ⟨b,4,none⟩ y').cell? ⟨q,k,none⟩=some z:=by
 have hn:some q≠some b:=fun e=>hne (by cases e;rfl)
 exact zau (zaa _ b 4 y') (zau (zaa _ b 3 x') (zau (zaa _ b 2 u') (zau (zaa _ b 1 v') (zau (zaa _ b 0 a') h hn) hn) hn) hn) hn
theorem zuc {l:List Int} (h:l.length=5):∃ a b c d e,l=[a,b,c,d,e]:=by
 match l,h with
 | [a,b,c,d,e],_=>exact ⟨a,b,c,d,e,rfl⟩
theorem zpq (v:Value) (bs:List UInt8) (f:Int) (w:World) (hT:TabW rT w) (hBs:Bs w v bs) (hl:bs.length≤2000000) (l:List Int) (hr:zdN bs f=some l):Calls Tryz.prog 108 #[v,.int .i64 f] w (zlc w (zdd bs f)):=by
 have hb:=Blk.new w 53 #[.int .i64 0,.int .i64 0,.int .i64 0,.int .i64 0,.bool false]
 have hX:Ext w (w.alloc (.cells #[.int .i64 0,.int .i64 0,.int .i64 0,.int .i64 0,.bool false] 53)):=Ext.alloc (Ext.refl _) _
 have key:=zl3 v bs f (w.alloc (.cells #[.int .i64 0,.int .i64 0,.int .i64 0,.int .i64 0,.bool false] 53)) (hBs.ext hX) hl
 rw[hr] at key
 have Key:=zhd key
 obtain ⟨x0,x1,x2,x3,x4,rfl⟩:=zuc (zqv hr)
 obtain ⟨s,hs⟩:∃ s:Sta,s=⟨x0,x1,x2,x3,x4==1⟩:=⟨_,rfl⟩
 have hr2:zdd bs f=match zhO s f with | none=>none | some c=>if bs=c then some s else none:=by
  unfold zdd;rw[hr,hs];rfl
 have Hr2:=zhd hr2
 have Hs:=zhd hs
 clear hr2 hs
 have HBs:=zhd hBs
 have HT:=zhd hT
 clear key hr hBs hT
 go_enter Tryz.func108,Tryz.ntmps108
 go_wp2_with fail
 refine Key.out.mono ?_
 rintro e w1 ⟨v1,rfl,ho,hE1⟩
 obtain ⟨q,cap,rfl,hq,hq1,hq2⟩:=zc5 (ho _ rfl) (by simp)
 obtain ⟨_,q',off',e',hc⟩:=SlR.at_ (SlR.of_own (ho _ rfl)) (by simp)
 cases e'
 have hc0:=hc 0 _ rfl
 have hc1:=hc 1 _ rfl
 have hc2:=hc 2 _ rfl
 have hc3:=hc 3 _ rfl
 have hc4:=hc 4 _ rfl
 simp only[Nat.zero_add,iv] at hc0 hc1 hc2 hc3 hc4
 clear hc
 simp only[List.length_cons,List.length_nil,Nat.zero_add,Nat.reduceAdd] at hq1 ⊢
 have hb1:=hb.ext hE1
 try simp only[Option.isSome]
 go_wp2_with fail
 have hcs:w1.cell? ⟨q,0,none⟩=some (.int .i64 x0)∧w1.cell? ⟨q,1,none⟩=some (.int .i64 x1)∧w1.cell? ⟨q,2,none⟩=some (.int .i64 x2)∧w1.cell? ⟨q,3,none⟩=some (.int .i64 x3)∧w1.cell? ⟨q,4,none⟩=some (.int .i64 x4):=⟨hc0,hc1,hc2,hc3,hc4⟩
 have hqw:w.heap.size≠q:=by rw[World.size_alloc] at hq;omega
 clear hc0 hc1 hc2 hc3 hc4 ho
 refine wp_region_held_drew (S:=fun w'=>w'.cell? ⟨q,0,none⟩=some (.int .i64 x0)∧w'.cell? ⟨q,1,none⟩=some (.int .i64 x1)∧w'.cell? ⟨q,2,none⟩=some (.int .i64 x2)∧w'.cell? ⟨q,3,none⟩=some (.int .i64 x3)∧w'.cell? ⟨q,4,none⟩=some (.int .i64 x4)) (by kernel_rfl) hcs (fun _=>?_)
 refine tkN 0 rfl ?_
 refine tkN 1 rfl ?_
 refine tkN 2 rfl ?_
 refine tkN 3 rfl ?_
 refine tkN 4 rfl ?_
 refine tkN 5 rfl ?_
 refine tkN 6 rfl ?_
 refine tkN 7 rfl ?_
 refine tkN 8 rfl ?_
 refine tkN 9 rfl ?_
 refine tkN 10 rfl ?_
 refine tkN 11 rfl ?_
 refine tkN 12 rfl ?_
 refine tkN 13 rfl ?_
 refine tkN 14 rfl ?_
 refine tkN 15 rfl ?_
 refine tkN 16 rfl ?_
 obtain ⟨g0,g1,g2,g3,g4⟩:=zad hb1
 obtain ⟨f0,f1,f2,f3,f4⟩:=zdv hb1
 refine ar1 17 rfl (fun K hK=>?_)
 go_simp
 have hb2:=zcd hb1 (.int .i64 x0) (.int .i64 x1) (.int .i64 x2) (.int .i64 x3) (.bool (x4==1))
 have hE2:=zcg (Ext.trans hX hE1) (Nat.le_refl _) (.int .i64 x0) (.int .i64 x1) (.int .i64 x2) (.int .i64 x3) (.bool (x4==1))
 have k0:=zeJ hcs.1 hqw (.int .i64 x0) (.int .i64 x1) (.int .i64 x2) (.int .i64 x3) (.bool (x4==1))
 have k1:=zeJ hcs.2.1 hqw (.int .i64 x0) (.int .i64 x1) (.int .i64 x2) (.int .i64 x3) (.bool (x4==1))
 have k2:=zeJ hcs.2.2.1 hqw (.int .i64 x0) (.int .i64 x1) (.int .i64 x2) (.int .i64 x3) (.bool (x4==1))
 have k3:=zeJ hcs.2.2.2.1 hqw (.int .i64 x0) (.int .i64 x1) (.int .i64 x2) (.int .i64 x3) (.bool (x4==1))
 have k4:=zeJ hcs.2.2.2.2 hqw (.int .i64 x0) (.int .i64 x1) (.int .i64 x2) (.int .i64 x3) (.bool (x4==1))
 clear f0 f1 f2 f3 f4 g0 g1 g2 g3 g4 hb1 hcs
 generalize (((((w1.setCell ⟨w.heap.size,0,none⟩ (.int .i64 x0)).setCell ⟨w.heap.size,1,none⟩ (.int .i64 x1)).setCell ⟨w.heap.size,2,none⟩ (.int .i64 x2)).setCell ⟨w.heap.size,3,none⟩ (.int .i64 x3)).setCell ⟨w.heap.size,4,none⟩ (.bool (x4==1)))=w1' at *
 have hcs2:w1'.drew.cell? ⟨q,0,none⟩=some (.int .i64 x0)∧w1'.drew.cell? ⟨q,1,none⟩=some (.int .i64 x1)∧w1'.drew.cell? ⟨q,2,none⟩=some (.int .i64 x2)∧w1'.drew.cell? ⟨q,3,none⟩=some (.int .i64 x3)∧w1'.drew.cell? ⟨q,4,none⟩=some (.int .i64 x4):=⟨k0,k1,k2,k3,k4⟩
 have hb2:Blk w1'.drew w.heap.size 53 #[.int .i64 x0,.int .i64 x1,.int .i64 x2,.int .i64 x3,.bool (x4==1)]:=hb2
 have hE2:Ext w w1'.drew:=Ext.drew hE2
 generalize w1'.drew=w2 at *
 refine shK hK _ _ hcs2 (fun _=>?_)
 refine wpAnyH_done (by kernel_rfl) ?_ _
 clear hcs2
 obtain ⟨g0,g1,g2,g3,g4⟩:=zad hb2
 obtain ⟨f0,f1,f2,f3,f4⟩:=zdv hb2
 have key2:=zsz s f w2 (HT.out.ext hE2)
 have Hs2:=Hs.out
 subst Hs2
 dsimp only at key2
 have HBs2:Hid (Bs w2 v bs):=HBs.out.ext hE2
 obtain ⟨r,hrr⟩:∃ r,zhO ⟨x0,x1,x2,x3,x4==1⟩ f=r:=⟨_,rfl⟩
 have hr2:=Hr2.out
 rw[hrr] at key2 hr2
 clear Hr2 hrr Hs
 cases r with
 | none =>
  have Key2:Hid (Calls _ _ _ _ (ziJ w2)):=key2
  have Hr2:Hid (zdd bs f=none):=hr2
  clear key2 hr2
  go_wp2_with fail
  refine Key2.out.mono ?_
  rintro e w3 ⟨rfl,hE3⟩
  have hb3:=hb2.ext hE3
  clear f0 f1 f2 f3 f4 g0 g1 g2 g3 g4
  obtain ⟨g0,g1,g2,g3,g4⟩:=zad hb3
  obtain ⟨f0,f1,f2,f3,f4⟩:=zdv hb3
  go_wp2_with fail
  refine bodyPost_ret (zg5 _ _ _ _ _ rfl rfl (zcd hb3 _ _ _ _ _) rfl) rfl ⟨by rw[Hr2.out];exact rfl,zcg (Ext.trans hE2 hE3) (Nat.le_refl _) _ _ _ _ _⟩
 | some cs =>
  have Key2:Hid (Calls _ _ _ _ (znR w2 cs)):=key2
  clear key2
  by_cases hbc:bs=cs
  ·have Hr2:Hid (zdd bs f=some ⟨x0,x1,x2,x3,x4==1⟩):=by
    rw[Hid,hr2];exact if_pos hbc
   have Hbc:=zhd hbc
   clear hr2 hbc
   go_wp2_with fail
   refine Key2.out.mono ?_
   rintro e w3 ⟨A3,c3,rfl,ho3,hE3⟩
   have hb3:=hb2.ext hE3
   have key3:=za6 v (.slice A3 cs.length c3) bs cs w3 (HBs2.out.ext hE3) (SlR.of_own ho3)
   rw[decide_eq_true Hbc.out] at key3
   have Key3:=zhd key3
   clear f0 f1 f2 f3 f4 g0 g1 g2 g3 g4 key3 ho3
   obtain ⟨g0,g1,g2,g3,g4⟩:=zad hb3
   obtain ⟨f0,f1,f2,f3,f4⟩:=zdv hb3
   go_wp2_with fail
   refine Key3.out.mono ?_
   rintro e w4 ⟨rfl,rfl⟩
   go_wp2_with fail
   refine bodyPost_ret (zg5 _ _ _ _ _ rfl rfl (zcd hb3 _ _ _ _ _) rfl) rfl ⟨by rw[Hr2.out];exact rfl,zcg (Ext.trans hE2 hE3) (Nat.le_refl _) _ _ _ _ _⟩
  ·have Hr2:Hid (zdd bs f=none):=by
    rw[Hid,hr2];exact if_neg hbc
   have Hbc:=zhd hbc
   clear hr2 hbc
   go_wp2_with fail
   refine Key2.out.mono ?_
   rintro e w3 ⟨A3,c3,rfl,ho3,hE3⟩
   have hb3:=hb2.ext hE3
   have key3:=za6 v (.slice A3 cs.length c3) bs cs w3 (HBs2.out.ext hE3) (SlR.of_own ho3)
   rw[decide_eq_false Hbc.out] at key3
   have Key3:=zhd key3
   clear f0 f1 f2 f3 f4 g0 g1 g2 g3 g4 key3 ho3
   obtain ⟨g0,g1,g2,g3,g4⟩:=zad hb3
   obtain ⟨f0,f1,f2,f3,f4⟩:=zdv hb3
   go_wp2_with fail
   refine Key3.out.mono ?_
   rintro e w4 ⟨rfl,rfl⟩
   go_wp2_with fail
   refine bodyPost_ret (zg5 _ _ _ _ _ rfl rfl (zcd hb3 _ _ _ _ _) rfl) rfl ⟨by rw[Hr2.out];exact rfl,zcg (Ext.trans hE2 hE3) (Nat.le_refl _) _ _ _ _ _⟩
theorem zpj (v:Value) (bs:List UInt8) (f:Int) (w:World) (hT:TabW rT w) (hBs:Bs w v bs) (hl:bs.length≤2000000):Calls Tryz.prog 108 #[v,.int .i64 f] w (zlc w (zdd bs f)):=by
 cases hr:zdN bs f with
 | none =>
  have:zdd bs f=none:=by unfold zdd;rw[hr]
  rw[this]
  exact zpp v bs f w hBs hl hr
 | some l=>exact zpq v bs f w hT hBs hl l hr
theorem zoW {b:List UInt8} {f:Int} {s:Sta} (h:zdd b f=some s):s.ok=true∧((f=1∧b=zi0 s)∨(f=2∧b=zfZ s))∧zhO s f=some b:=by
 unfold zdd at h
 cases hr:zdN b f with
 | none=>rw[hr] at h;cases h
 | some l =>
  rw[hr] at h
  dsimp only at h
  cases hp:zhO (zoR l) f with
  | none=>rw[hp] at h;cases h
  | some c =>
   rw[hp] at h
   dsimp only at h
   split at h
   ·rename_i hbc
    cases h
    have hp2:=hp
    unfold zhO at hp
    split at hp
    ·rename_i hok
     refine ⟨hok,?_,by rw[hp2,hbc]⟩
     split at hp
     ·rename_i h1;cases hp;exact .inl ⟨h1,hbc⟩
     ·split at hp
      ·rename_i h2;cases hp;exact .inr ⟨h2,hbc⟩
      ·cases hp
    ·cases hp
   ·cases h
end Go.Proofs.YtgonhdeochgkoaaGreatDoor

namespace Go.Mv
open Go.RowKit
theorem zcR {P:Program} (w:World) {o:Oper} {a:Act} {K:Act→World→Prop} {Q:Exit→Act→World→Prop} (s x:Operand) (t:TypeId)
  (ho:o.op=.call { callee:=.builtin .append,args:=#[s,x],argTypes:=#[t,t] })
  (base:Nat) (e:TypeId) (i:TypeInfo) (z:Value) (size bytes:Nat) (ht:P.underlying t=some (.slice e)) (hi:P.info? e=some i) (hz:i.zero=some z)
  (hsize:i.size=size) (hby:i.bytes=bytes) (hzs:z.cells.size=size) (hsz:0<size)
  (v:Value) (n:Nat) (xs:List Value) (hs:a.eval s=v) (hown:w.ownsRow base e size v n xs)
  (vx:Value) (m:Nat) (news:List Value) (hx:a.eval x=vx) (hr:SlR w size vx m news) (h1:∀ u∈news,u.oneCell'=true)
  (h63:n+m≤maxLen) (hbytes:(n+m)*bytes≤140737488355328) (hbase:base≤w.heap.size)
  (h:∀ v' w',w'.ownsRow base e size v' (n+m) (xs++news)→w.grownBy w' v.ownBlock→K (a.put o.dst v') w'):Oper.wp P o a w K Q:=by
 obtain ⟨v',w',hrun,h2,h3⟩:=zaT (P:=P) w base t o.type e i z size bytes ht hi hz hsize hby hzs hsz v n xs hown vx m news hr h1 h63 hbytes hbase
 unfold Oper.wp execOp
 simp only[ho,resolve,invoke,builtin,Sem.run_bind,Sem.run_pure,Result.andThen_ok,List.map_toArray,List.map_cons,List.map_nil,hs,hx,hrun]
 exact h v' w' h2 h3
end Go.Mv
namespace Go.Proofs.YtgonhdeochgkoaaGreatDoor
open Go.RowKit Go.Mv
def zbr (x:Nat):Nat:=if x % 2=1 then (x / 2) ^^^ 2197175160 else x / 2
theorem zsl (a b:Nat):(a ^^^ b) / 2=(a / 2) ^^^ (b / 2):=by
 have:=Nat.shiftRight_xor_distrib (a:=a) (b:=b) (i:=1)
 simpa [Nat.shiftRight_eq_div_pow] using this
theorem zkT (a b:Nat):(a ^^^ b) / 16=(a / 16) ^^^ (b / 16):=by
 have:=Nat.shiftRight_xor_distrib (a:=a) (b:=b) (i:=4)
 simpa [Nat.shiftRight_eq_div_pow] using this
theorem zsm (a b:Nat):(a ^^^ b) % 2=(a % 2) ^^^ (b % 2):=Nat.xor_mod_two_pow (n:=1)
theorem ztn (a b:Nat):(a ^^^ b) % 16=(a % 16) ^^^ (b % 16):=Nat.xor_mod_two_pow (n:=4)
theorem zfL (a b:Nat):zbr (a ^^^ b)=zbr a ^^^ zbr b:=by
 unfold zbr
 rw[zsm,zsl]
 have ha:a % 2=0∨a % 2=1:=by omega
 have hb:b % 2=0∨b % 2=1:=by omega
 rcases ha with ha | ha <;> rcases hb with hb | hb <;> rw[ha,hb] <;> simp
 ·rw[Nat.xor_assoc]
 ·rw[Nat.xor_assoc,Nat.xor_assoc,Nat.xor_comm (b / 2)]
 ·rw[Nat.xor_assoc,←Nat.xor_assoc 2197175160,Nat.xor_comm 2197175160 (b / 2),Nat.xor_assoc,Nat.xor_self,Nat.xor_zero]
theorem ze8 (q:Nat):zbr (2*q)=q:=by
 unfold zbr
 rw[if_neg (by omega)]
 omega
theorem zqY (x:Nat):x=(16*(x / 16)) ^^^ (x % 16):=by
 have h1:((16*(x / 16)) ^^^ (x % 16)) / 16=x / 16:=by
  rw[zkT,show x % 16 / 16=0 from by omega,Nat.xor_zero];omega
 have h2:((16*(x / 16)) ^^^ (x % 16)) % 16=x % 16:=by
  rw[ztn,show 16*(x / 16) % 16=0 from by omega,Nat.zero_xor];omega
 omega
theorem zt3 (x:Nat):zbr (zbr (zbr (zbr x)))=crcTab.getD (x % 16) 0 ^^^ (x / 16):=by
 have key:∀ r,r<16→zbr (zbr (zbr (zbr r)))=crcTab.getD r 0:=by decide
 conv=>lhs;rw[zqY x]
 rw[zfL,zfL,zfL,zfL,key _ (Nat.mod_lt _ (by decide)),show 16*(x / 16)=2*(2*(2*(2*(x / 16)))) from by omega,ze8,ze8,ze8,ze8,Nat.xor_comm]
theorem zoj (s h:Nat) (hh:h<16):zbr (zbr (zbr (zbr (s ^^^ h))))=zbG rT s h:=by
 rw[zt3,zkT,show h / 16=0 from by omega,Nat.xor_zero]
 rfl
theorem zrG {x:Nat} (h:x<4294967296):zbr x<4294967296:=by
 unfold zbr
 split
 ·have:(x / 2) ^^^ 2197175160<2^32:=Nat.xor_lt_two_pow (by omega) (by omega)
  simpa using this
 ·omega
def zjx:Nat→Nat→Nat
 | 0,x=>x
 | k+1,x=>zbr (zjx k x)
theorem ziz (s h:Nat) (hs:s<4294967296) (hh:h<16) (w:World):Calls Tryz.prog 166 #[.int .u32 s,.int .u8 h] w fun e w'=>e=.returned (.int .u32 (zbG rT s h))∧w=w':=by
 have hx:=zdg s h hs (by omega)
 have hxl:s ^^^ h<2^32:=Nat.xor_lt_two_pow (by omega) (by omega)
 have hst:=zoj s h hh
 obtain ⟨x,hx0⟩:∃ x,s ^^^ h=x:=⟨_,rfl⟩
 rw[hx0] at hx hxl hst
 have hmod:(h:Int) % 16=(h:Int):=by omega
 have Hst:Hid (zjx 4 x=zbG rT s h):=hst
 clear hst hx0
 go_enter Tryz.func166,Tryz.ntmps166
 go_wp2_with fail
 go_loopw [0,5,6] (fun a i o wr=>∃ k y:Nat,k≤4∧a=.int .u32 y∧i=.int .i64 k∧Hid (zjx k x=y)∧y<4294967296∧w=wr) (fun _ i _ _=>4-(intOf i).toNat)
 case atStart=>exact ⟨0,x,by omega,rfl,rfl,rfl,by omega,rfl⟩
 case round =>
  obtain ⟨k,y,hk,rfl,rfl,Hy,hyl,rfl⟩:=hrel
  by_cases hlt:k<4
  ·by_cases ho:y % 2=1
   ·have h1:((y:Int) % 2==1)=true:=by simp;omega
    have h1':(y:Int) % 2=1:=by omega
    have hxx:bits .xor .u32 ((y:Int) / 2) 2197175160=(((y / 2) ^^^ 2197175160:Nat):Int):=by simpa using zdg (y / 2) 2197175160 (by omega) (by decide)
    have hn:zbr y=(y / 2) ^^^ 2197175160:=by unfold zbr;rw[if_pos ho]
    have hnl:=zrG hyl
    rw[hn] at hnl
    have Hn:=zhd hn
    generalize (y / 2) ^^^ 2197175160=z at *
    clear hn ho
    go_wp2_with fail
    go_roundw
    case rel=>exact ⟨k+1,z,by omega,rfl,by go_num,by show zbr (zjx k x)=z;rw[Hy.out];exact Hn.out,hnl,trivial⟩
    case measure=>simp[intOf];omega
   ·have h1:((y:Int) % 2==1)=false:=by simp;omega
    have h1':(y:Int) % 2=0:=by omega
    have hn:zbr y=y / 2:=by unfold zbr;rw[if_neg ho]
    have Hn:=zhd hn
    clear hn ho
    go_wp2_with fail
    go_roundw
    case rel=>exact ⟨k+1,y / 2,by omega,by go_num,by go_num,by show zbr (zjx k x)=y / 2;rw[Hy.out];exact Hn.out,by omega,trivial⟩
    case measure=>simp[intOf];omega
  ·obtain rfl:k=4:=by omega
   go_wp2_with fail
   go_ret
   exact ⟨by rw[←Hst.out,Hy.out];rfl,rfl⟩
theorem zox {T:Tab} (s:Nat) (a:List UInt8) (b:UInt8):zgQ T s (a++[b])=zbG T (zbG T (zgQ T s a) (b.toNat % 16)) (b.toNat / 16):=by
 have hb:=b.toNat_lt
 have e1:(UInt8.ofNat (b.toNat % 16)).toNat=b.toNat % 16:=by simp;omega
 have e2:(UInt8.ofNat (b.toNat / 16)).toNat=b.toNat / 16:=by simp;omega
 unfold zgQ zaG
 rw[List.flatMap_append,List.foldl_append,List.flatMap_cons,List.flatMap_nil,List.append_nil,List.foldl_cons,List.foldl_cons,List.foldl_nil,e1,e2]
theorem zl6 (s:Nat) (hs:s<4294967296) (v:Value) (bs:List UInt8) (w:World) (h:Bs w v bs) (hlen:bs.length≤2000000) :
  Calls Tryz.prog 137 #[.int .u32 s,v] w fun e w'=>e=.returned (.int .u32 (zb6 rT s bs))∧Ext w w':=by
 obtain ⟨A,c,rfl,h1,h2⟩:=SlR.open_ h
 have HP:=zhd h
 clear h
 have hn:=zh8 s hs
 have hnl:=zfb s hs
 unfold zb6
 generalize 4294967295 ^^^ s=s0 at *
 go_enter Tryz.func137,Tryz.ntmps137
 go_wp2_with fail
 go_loopw [0,5] (fun a i wr=>∃ k y:Nat,k≤bs.length∧a=.int .u32 y∧i=.int .i64 k∧Hid (zgQ rT s0 (bs.take k)=y)∧y<4294967296∧Ext w wr) (fun _ i _=>bs.length-(intOf i).toNat)
 case atStart=>exact ⟨0,s0,by omega,rfl,rfl,rfl,hnl,Ext.refl _⟩
 case round =>
  obtain ⟨k,y,hk,rfl,rfl,Hy,hyl,hE⟩:=hrel
  by_cases hlt:k<bs.length
  ·obtain ⟨_,b,off,rfl,hc⟩:=Bs.at_ (HP.out.ext hE) (by omega)
   have hc0:=hc k hlt
   have hq:=bs[k].toNat_lt
   have hst:zgQ rT s0 (bs.take (k+1))=zbG rT (zbG rT y (bs[k].toNat % 16)) (bs[k].toNat / 16):=by
    rw[List.take_succ_eq_append_getElem hlt,zox,Hy.out]
   have Hst:=zhd hst
   clear hc hst
   generalize bs[k].toNat=q at *
   have hl1:=zi6 (T:=rT) (q % 16) hyl
   have hl2:=zi6 (T:=rT) (q / 16) hl1
   have k1:=fun W=>ziz y (q % 16) hyl (by omega) W
   have k2:=fun W=>ziz (zbG rT y (q % 16)) (q / 16) hl1 (by omega) W
   obtain ⟨y1,hy1⟩:∃ y1,zbG rT y (q % 16)=y1:=⟨_,rfl⟩
   rw[hy1] at k1 k2 hl2 Hst
   obtain ⟨y2,hy2⟩:∃ y2,zbG rT y1 (q / 16)=y2:=⟨_,rfl⟩
   rw[hy2] at k2 hl2 Hst
   have e1:(q:Int).tmod 16=((q % 16:Nat):Int):=by rw[Int.tmod_eq_emod_of_nonneg (by omega)];omega
   have e2:IntKind.u8.wrap ((q:Int) / 16)=((q / 16:Nat):Int):=by rw[IntKind.wrap_u8];omega
   have e3:(q:Int).tdiv 16=((q / 16:Nat):Int):=by rw[Int.tdiv_eq_ediv_of_nonneg (by omega)];omega
   have e4:IntKind.u8.wrap ((q / 16:Nat):Int)=((q / 16:Nat):Int):=by rw[IntKind.wrap_u8];omega
   generalize q % 16=q0 at *
   generalize q / 16=q1 at *
   have K1:=zhd k1
   have K2:=zhd k2
   clear k1 k2 hy1 hy2 hl1
   go_wp2_with fail
   go_region_held3 (fun w'=>w'.cell? ⟨b,off+k,none⟩=some (.int .u8 q)) (first | go_keep | assumption)
    (first
      | (go_at_call 166;with_reducible refine (K1.out _).mono ?_;rintro e w2 ⟨rfl,rfl⟩)
      | (go_at_call 166;with_reducible refine (K2.out _).mono ?_;rintro e w3 ⟨rfl,rfl⟩))
   go_wp2_with fail
   go_roundw
   case rel=>exact ⟨k+1,y2,by omega,rfl,by go_num,Hst.out,hl2,Ext.drew hE⟩
   case measure=>simp[intOf];omega
  ·obtain rfl:k=bs.length:=by omega
   have hy2:=Hy.out
   rw[List.take_length] at hy2
   have Hy2:=zhd hy2
   have hn2:=zh8 y hyl
   clear hy2 Hy
   go_wp2_with fail
   go_ret
   exact ⟨by rw[Hy2.out];rfl,hE⟩
theorem zoH (p:Nat) (A:Option Addr) (c:Nat) (bs:List UInt8) (w:World) (hc:w.cell? ⟨p,0,none⟩=some (.slice A bs.length c)) (h:Bs w (.slice A bs.length c) bs) (hlen:bs.length≤2000000) :
  Calls Tryz.prog 99 #[.slice (some ⟨p,0,none⟩) 1 1] w fun e w'=>e=.returned (.int .u32 (zb6 rT 0 bs))∧Ext w w':=by
 have HP:=zhd h
 clear h
 go_enter Tryz.func99,Tryz.ntmps99
 go_wp2_with fail
 go_loopw [3,4] (fun s i wr=>∃ k sn:Nat,k≤1∧s=.int .u32 sn∧i=.int .i64 k∧Hid (sn=if k=0 then 0 else zb6 rT 0 bs)∧Ext w wr) (fun _ i _=>1-(intOf i).toNat)
 case atStart=>exact ⟨0,0,by omega,rfl,rfl,rfl,Ext.refl _⟩
 case round =>
  obtain ⟨k,sn,hk,rfl,rfl,Hs,hE⟩:=hrel
  have hc':=hE.cell hc
  by_cases hlt:k<1
  ·obtain rfl:k=0:=by omega
   obtain rfl:sn=0:=Hs.out
   go_wp2_with (go_at_call 137;refine (zl6 0 (by decide) _ bs wr (HP.out.ext hE) hlen).mono ?_;rintro e w1 ⟨rfl,hE1⟩)
   go_roundw
   case rel=>exact ⟨1,zb6 rT 0 bs,by omega,rfl,rfl,rfl,Ext.trans hE hE1⟩
   case measure=>simp[intOf]
  ·obtain rfl:k=1:=by omega
   obtain rfl:sn=zb6 rT 0 bs:=Hs.out
   go_wp2_with fail
   go_ret
   exact ⟨rfl,hE⟩
theorem zl5 (s:Nat) (hs:s<4294967296) (w:World):Calls Tryz.prog 98 #[.int .u32 s] w fun e w'=>e=.returned (.agg ((zdb s).map bv).toArray)∧Ext w w':=by
 go_enter Tryz.func98,Tryz.ntmps98
 go_wp2_with fail
 refine bodyPost_ret (results_cell_row rfl _ _ _ 140 _ _ _ rfl (heap_alloc_new _ _) Tryz.underlying140 rfl (by kernel_rfl)) rfl ⟨?_,Ext.alloc (Ext.refl _) _⟩
 congr 3
 simp[zdb,bv]
 omega
theorem zoG (v:Value) (bs:List UInt8) (w:World) (h:Bs w v bs) (hl:bs.length≤2000000):Calls Tryz.prog 55 #[v] w fun e w'=>∃ A c,e=.returned (.slice A (zaU rT bs).length c)∧OwnB w' w.heap.size (.slice A (zaU rT bs).length c) (zaU rT bs)∧Ext w w':=by
 obtain ⟨A,c,rfl,h1,h2⟩:=SlR.open_ h
 have HB:=zhd h
 have hsl:=zgO (T:=rT) 0 bs (by decide)
 obtain ⟨sm,hsm⟩:∃ sm,zb6 rT 0 bs=sm:=⟨_,rfl⟩
 rw[hsm] at hsl
 have hps:zaU rT bs=bs++zdb sm:=by unfold zaU;rw[hsm]
 have Hps:=zhd hps
 have Hsm:=zhd hsm
 obtain ⟨i0,hi,hz0,hz1,hz2⟩:=info_parts zcc
 obtain ⟨f0,f1,f2,f3,hf⟩:∃ f0 f1 f2 f3:UInt8,zdb sm=[f0,f1,f2,f3]:=⟨_,_,_,_,rfl⟩
 have Hf:=zhd hf
 clear h hps hsm hf
 go_enter Tryz.func55,Tryz.ntmps55
 go_wp2_with fail
 have hE0:Ext w (w.alloc (.cells #[.slice A bs.length c] 38)):=Ext.alloc (Ext.refl _) _
 refine (zoH w.heap.size A c bs _ (Boxed.new w _ _).cell (HB.out.ext hE0) (by omega)).mono ?_
 rw[Hsm.out]
 rintro e w1 ⟨rfl,hE1⟩
 go_wp2_with fail
 refine (zl5 sm hsl _).mono ?_
 rw[Hf.out]
 rintro e w2 ⟨rfl,hE2⟩
 simp only[List.map_cons,List.map_nil,bv]
 go_wp2_with fail
 have hE03:Ext w (w2.alloc (.cells #[.int .u8 (f0.toNat:Int),.int .u8 (f1.toNat:Int),.int .u8 (f2.toNat:Int),.int .u8 (f3.toNat:Int)] 140)):=Ext.alloc (Ext.trans hE0 (Ext.trans hE1 hE2)) _
 have hb3:Blk (w2.alloc (.cells #[.int .u8 (f0.toNat:Int),.int .u8 (f1.toNat:Int),.int .u8 (f2.toNat:Int),.int .u8 (f3.toNat:Int)] 140)) w2.heap.size 140 ([f0,f1,f2,f3].map bv).toArray:=Blk.new w2 _ _
 have h4:Bs (w2.alloc (.cells #[.int .u8 (f0.toNat:Int),.int .u8 (f1.toNat:Int),.int .u8 (f2.toNat:Int),.int .u8 (f3.toNat:Int)] 140)) (.slice (some ⟨w2.heap.size,0,none⟩) 4 4) [f0,f1,f2,f3]:=zdh hb3 rfl (by simp[maxLen])
 refine wp_region_held_drew (S:=fun _=>True) (by kernel_rfl) trivial (fun _=>?_)
 refine tkN 1 rfl ?_
 refine tkN 3 rfl ?_
 refine ar1 0 rfl (fun K hK=>?_)
 go_simp
 refine shK hK _ _ trivial (fun _=>?_)
 have hs3:(w2.alloc (.cells #[.int .u8 (f0.toNat:Int),.int .u8 (f1.toNat:Int),.int .u8 (f2.toNat:Int),.int .u8 (f3.toNat:Int)] 140)).heap.size=w2.heap.size+1:=by simp
 generalize hW3:w2.alloc (.cells #[.int .u8 (f0.toNat:Int),.int .u8 (f1.toNat:Int),.int .u8 (f2.toNat:Int),.int .u8 (f3.toNat:Int)] 140)=w3 at *
 have hon0:=za2 w3 [] 5 0 rfl (by simp[maxLen]) hE03.size
 rw[hs3] at hon0
 have E34:Ext w3 (w3.alloc (.cells #[] 5)).drew:=Ext.drew (Ext.alloc (Ext.refl _) _)
 have hon:=zae hon0 (Ext.drew (Ext.refl (w3.alloc (.cells #[] 5))))
 have X3:=Ext.trans hE03 E34
 refine ar1 2 rfl (fun K hK=>?_)
 refine zcR _ (.tmp 8) (.tmp 9) 38 (by rfl) w.heap.size 5 i0 (.int .u8 0) 1 1 Tryz.underlying38 hi hz0 hz1 hz2 rfl (by decide) _ 0 [] (by rfl) hon _ bs.length (bs.map bv) (by rfl) (HB.out.ext X3) (zdn _) (by unfold maxLen;omega) (by omega) X3.size ?_
 intro v5 w5 ho5 hg5
 refine shK hK _ _ trivial (fun _=>?_)
 have X5:Ext w w5:=Ext.grownOwn X3 hon hg5
 have E35:Ext w3 w5:=by
  refine Below.grown E34 hg5 E34.size (fun k ek=>?_)
  have:w2.heap.size+1=k:=by simpa [Value.ownBlock,Act.eval] using ek
  omega
 simp only[Nat.zero_add,List.nil_append] at ho5
 refine ar1 4 rfl (fun K hK=>?_)
 refine zcR _ (.tmp 10) (.tmp 11) 38 (by rfl) w.heap.size 5 i0 (.int .u8 0) 1 1 Tryz.underlying38 hi hz0 hz1 hz2 rfl (by decide) _ bs.length (bs.map bv) (by rfl) ho5 _ 4 ([f0,f1,f2,f3].map bv) (by rfl) (h4.ext E35) (zdn _) (by unfold maxLen;omega) (by omega) X5.size ?_
 intro v6 w6 ho6 hg6
 refine shK hK _ _ trivial (fun _=>?_)
 have X6:Ext w w6:=Ext.grownOwn X5 ho5 hg6
 refine tkN 5 rfl ?_
 refine wpAnyH_done (by kernel_rfl) ?_ _
 go_wp2_with fail
 go_ret
 have hll:(zaU rT bs).length=bs.length+4:=by unfold zaU;rw[List.length_append,zhG]
 obtain ⟨A6,c6,rfl,_,_⟩:=SlR.open_ (SlR.of_own ho6)
 rw[hll]
 refine ⟨_,_,rfl,?_,X6⟩
 show w6.ownsRow w.heap.size 5 1 _ (zaU rT bs).length ((zaU rT bs).map bv)
 rw[hll,Hps.out,Hf.out,List.map_append]
 exact ho6
end Go.Proofs.YtgonhdeochgkoaaGreatDoor

namespace Go.Mv
open Go.RowKit
theorem zdf {P:Program} (w:World) (base:Nat) (t ty e:TypeId) (i:TypeInfo) (z:Value) (size bytes:Nat) (ht:P.underlying t=some (.slice e)) (hi:P.info? e=some i) (hz:i.zero=some z)
  (hsize:i.size=size) (hby:i.bytes=bytes)
  (v:Value) (n:Nat) (xs:List Value) (hown:w.ownsRow base e size v n xs)
  (a:Addr) (m c:Nat) (news:List Value) (hl:news.length=m*size) (hm:0<m) (hnews:∀ j u,news[j]?=some u→w.cell? (a.add j)=some u) (h1:∀ u∈news,u.oneCell'=true)
  (h63:n+m≤maxLen) (hbytes:(n+m)*bytes≤140737488355328) {v':Value} {w':World} (hrun:(Builtin.append_ #[t,t] ty #[v,.slice (some a) m c]).run P w=.ok v' w'):v'.ownBlock=v.ownBlock∨v'.ownBlock=some w.heap.size:=by
 subst hsize
 subst hby
 have hsmall:n+m≤9223372036854775807:=by simp only[maxLen] at h63;omega
 rcases hown.2 with ⟨rfl,rfl⟩ | ⟨g,cap,cur,rfl,hbg,hg,hnc,hcm,hcs,htake⟩
 ·have hr:=run_append_nil (P:=P) w t ty e i z ht hi hz a m c news hl hnews (by omega) (by omega) (by have hb:=hbytes;simp only[Nat.zero_add] at hb;omega)
  rw[hr] at hrun
  cases hrun
  exact .inr rfl
 ·by_cases hroom:n+m≤cap
  ·have hfit:n*i.size+news.length≤cur.size:=by rw[hl,hcs,←Nat.add_mul];exact Nat.mul_le_mul_right _ hroom
   have hr:=run_append_room (P:=P) w t ty e i ht hi g n cap cur hg a m c news hl hnews h1 hroom hfit
   rw[hr] at hrun
   cases hrun
   exact .inl rfl
  ·have holds:∀ j u,xs[j]?=some u→w.cell? ((⟨g,0,none⟩:Addr).add j)=some u:=hown.cells (g:=g) rfl
   have hr:=run_append_grow (P:=P) w t ty e i z ht hi hz ⟨g,0,none⟩ n cap xs hown.1 holds a m c news hl hnews (by omega) (by omega) (growslice_fits (by omega) hbytes)
   rw[hr] at hrun
   cases hrun
   exact .inr rfl
section
variable {n:Nat} {P:Program} {ops:Array Oper} {Q:Exit→Act→World→Prop} {md:Region.Mode} {S:World→Prop}
def NoQ (Q:Exit→Act→World→Prop):Exit→Act→World→Prop
 | .normal,a,w=>Q .normal a w
 | _,_,_=>False
theorem NoQ.imp {Q:Exit→Act→World→Prop} (e:Exit) (a:Act) (w:World) (h:NoQ Q e a w):Q e a w:=by
 cases e <;> first | exact h | exact h.elim
theorem zdB {a:Act} {w:World} (h:Q .normal a w):NoQ Q .normal a w:=h
theorem znL {o:Oper} {a:Act} {K:Act→World→Prop} {r:Result Next} (h:o.upon P a K Q r):o.uponIn (Wd none) n P a K Q r:=by
 cases r with
 | ok x w =>
  cases x with
  | value v=>exact h
  | skip=>exact h
  | defer d=>exact h
  | enter f args=>exact ⟨fun h=>by simp[Fence.wide] at h,callsIn_wd.2 h⟩
  | row row args=>exact ⟨fun h=>by simp[Fence.wide] at h,fun c cs _=>let ⟨v,w',r,s⟩:=h c cs;⟨v,w',r,stepsIn_wide.2 s⟩⟩
  | _=>exact h.elim
 | halt x w =>
  cases x <;> first | exact h | exact h.elim
theorem ztl {i:Nat} {K:Act→World→Prop} {a:Act} {w:World} (h:wpOp P ops (NoQ Q) i K a w):wpOpIn (Wd none) n P ops (NoQ Q) i K a w:=by
 unfold wpOp at h
 unfold wpOpIn
 cases ho:ops[i]? with
 | none=>rw[ho] at h;exact h
 | some o =>
  rw[ho] at h
  dsimp only at h ⊢
  split
  ·rename_i hw
   rw[if_pos hw] at h
   rcases h with h | ⟨_,_,_,h⟩
   ·refine ⟨fun _ _=>trivial,?_⟩
    rw[show (Wd none).round=none from rfl,Oper.semAt_none]
    exact znL h
   ·exact h.elim
  ·rename_i hw
   rw[if_neg hw] at h
   exact ⟨fun _ _=>trivial,h⟩
theorem zi9:∀ (fuel:Nat) (listed:Array Bool) (a:Act) (w:World),wpAny P md ops (NoQ Q) fuel listed a w→wpAnyIn (Wd none) n P md ops (NoQ Q) fuel listed a w
 | 0,_,_,_,h=>h
 | fuel+1,listed,a,w,h=>⟨h.1,fun i hi=>wpOpIn_mono (fun a w=>zi9 fuel _ a w) (ztl (h.2 i hi))⟩
theorem zfR {l id:Nat} {a:Act} {w:World} (hm:P.follows .mixedOrders=true) (hd:zgg ops=true) (hS:S w.drew)
  (h:S w.drew→wpAnyH P .any ops (NoQ Q) S ops.size (Array.replicate ops.size false) a w.drew):(Code.region id ops true).wpIn (Wd (some l)) n P Q a w :=
 wpIn_mono (wpIn_region_any (F:=(Wd none).inRound l) hm (zhh l hd rfl _ _ _ _ (zi9 _ _ _ _ (wpAny_of_held _ _ _ _ (h hS))))) NoQ.imp
theorem zcQ {id:Nat} {a:Act} {w:World} (hm:P.follows .mixedOrders=true) (hS:S w.drew)
  (h:S w.drew→wpAnyH P .any ops (NoQ Q) S ops.size (Array.replicate ops.size false) a w.drew):(Code.region id ops true).wpIn (Wd none) n P Q a w :=
 wpIn_mono (wpIn_region_any hm (zi9 _ _ _ _ (wpAny_of_held _ _ _ _ (h hS)))) NoQ.imp
end
open Go.RowKit
def KG (G:Nat→Prop) (k:Nat) (o:Obj):Prop:=o.isCells=true∧¬ G k
def ztw (P:Program) (gf:Nat) (lb:Array Value) {α:Type} (Rp:α→Array Value→World→Prop) (M:Nat→Obj→Prop) (xs:List α) (pn:Option (List PanicEntry)) (Gok:(Nat→Prop)→Prop) (W0:World):Prop :=
 ∀ (l:Nat) (J:(Nat→Prop)→List α→World→Prop),
  (∀ G s A B,J G s A→Moves (zab M W0.heap.size) A B→J G s B)→(∀ G s A,J G s A→∀ k,G k→k<A.heap.size) →
  (∀ G pre x post,xs=pre++x::post→∀ (W:World) (av:Array Value),J G pre W→W0.heap.size≤W.heap.size→Rp x av W→YieldsAt P l av W fun e W' =>
    e=.returned (.bool true)∧Kept (zab (KG G) W0.heap.size) W W'∧∃ G',(∀ k,G' k→G k∨W.heap.size≤k)∧J G' (pre++[x]) W') →
  ∀ G0,Gok G0→J G0 [] W0 →
  Calls P gf (#[.func (.yield l) #[] #[]]++lb) W0 fun e W'=>∃ G,J G xs W'∧((pn=none∧∃ v,e=.returned v)∨∃ c,pn=some c∧e=.panicked c)
def zta (K:Nat→Obj→Prop) (I:World→Prop) (W:World):Exit→Act→World→Prop
 | .normal,_,W'=>Kept K W W'∧I W'
 | _,_,_=>False
theorem zqW {P:Program} {α:Type} {n:Nat} {g:Operand} {ps:Array Tmp} {assign body:Code} {Q:Exit→Act→World→Prop} {a:Act} {w:World}
  {gf:Nat} {lb:Array Value} (hg:a.eval g=.func (.func gf) #[] lb) (eg:∀ args w,(callFunc gf args).run P w=.ok (.enter gf args) w)
  {Rp:α→Array Value→World→Prop} {M:Nat→Obj→Prop} {xs:List α} {pn:Option (List PanicEntry)} {Gok:(Nat→Prop)→Prop}
  (hseq:∀ W1,Below w.heap.size w W1→W1.heap.size=w.heap.size+2→ztw P gf lb Rp M xs pn Gok W1)
  (hMc:∀ k o,M k o→o.isCells=true) (hps:∀ x av W,Rp x av W→av.size=ps.size)
  (I:(Nat→Prop)→List α→World→Prop)
  (hI:∀ G s A B,I G s A→Moves (zab M w.heap.size) A B→I G s B) (hbd:∀ G s A,I G s A→∀ k,G k→k<A.heap.size) (G0:Nat→Prop) (hG0:Gok G0) (h0:I G0 [] w)
  (Ax:α→Act→World→Prop) (hAx:∀ x a' A B,Ax x a' A→Moves (zab (fun _ _=>False) w.heap.size) A B→Ax x a' B)
  (hassign:∀ (G:Nat→Prop) (l:Nat) (pre:List α) (x:α) (post:List α) (W:World) (av:Array Value) (K':Act→World→Prop),xs=pre++x::post→I G pre W→w.heap.size≤W.heap.size→Rp x av W →
    (∀ a' W',Kept (zab (KG G) w.heap.size) W W'→I G pre W'→Ax x a' W'→K' a' W') →
    assign.wpIn (Wd (some l)) n P (Exit.then K' (fun _ _ _=>False)) { tmps:=(ps.zip av).foldl (fun t (p,v)=>t.setIfInBounds p v) a.tmps,defers:=[] } W)
  (hbody:∀ (G:Nat→Prop) (l:Nat) (pre:List α) (x:α) (post:List α) (a':Act) (W:World),xs=pre++x::post→w.heap.size≤l→(∃ r,W.heap[l]?=some (.loop r))→I G pre W→w.heap.size≤W.heap.size→Ax x a' W →
    body.wpIn (Wd (some l)) n P (zta (zab (KG G) w.heap.size) (fun W'=>∃ G',(∀ k,G' k→G k∨W.heap.size≤k)∧I G' (pre++[x]) W') W) a' W)
  (hdone:∀ G D W,pn=none→w.heap.size≤D→I G xs W→W.heap[D]?=some (.deferred (some []))→Q .normal { a with defers:={ target:=.collected D,args:=#[] }::a.defers } W)
  (hpan:∀ G D c W,pn=some c→w.heap.size≤D→I G xs W→W.heap[D]?=some (.deferred (some []))→Q (.panic c) { a with defers:={ target:=.collected D,args:=#[] }::a.defers } W) :
  (Code.rangeFunc g ps assign body).wpIn (Wd none) n P Q a w:=by
 refine wpIn_rangeFunc ?_
 intro fn _
 obtain ⟨rec,hrec⟩:∃ rec:LoopState→Option Code→Loop,rec=fun st pe=>{ state:=st,pending:=pe,fn,tmps:=a.tmps,params:=ps,assign,body,defers:=w.heap.size }:=⟨_,rfl⟩
 obtain ⟨W1,hW1⟩:∃ W1,(w.alloc (.deferred (some []))).alloc (.loop { state:=.ready,pending:=none,fn,tmps:=a.tmps,params:=ps,assign,body,defers:=w.heap.size })=W1:=⟨_,rfl⟩
 have hb1:Below w.heap.size w W1:=by rw[←hW1];exact ((Below.refl _ w).alloc (Nat.le_refl _) _).alloc (by simp) _
 have hs1:W1.heap.size=w.heap.size+2:=by rw[←hW1];simp
 have hL1:W1.heap[w.heap.size+1]?=some (.loop { state:=.ready,pending:=none,fn,tmps:=a.tmps,params:=ps,assign,body,defers:=w.heap.size }):=by
  rw[←hW1];have:=World.alloc_heap_new (w.alloc (.deferred (some []))) (.loop { state:=.ready,pending:=none,fn,tmps:=a.tmps,params:=ps,assign,body,defers:=w.heap.size });rwa [World.size_alloc] at this
 have hK1:W1.heap[w.heap.size]?=some (.deferred (some [])):=by
  rw[←hW1];exact (Below.heap_alloc _ _ _ (by simp)).trans (World.alloc_heap_new w _)
 have hm1:Moves (zab M w.heap.size) w W1:=by rw[←hW1];exact (Moves.refl.alloc _).alloc _
 have henter:(Instr.enterLoop fn a.tmps ps assign body none).run P w=.ok (w.heap.size+1,[{ target:=.collected w.heap.size,args:=#[] }]) W1:=by
  rw[←hW1];exact run_enterLoop_outer _ _ _ _ _
 have hL1':W1.heap[w.heap.size+1]?=some (.loop (rec .ready none)):=by rw[hrec];exact hL1
 obtain ⟨l,hl⟩:∃ l,w.heap.size+1=l:=⟨_,rfl⟩
 rw[hl] at hL1 hL1' henter
 have hl0:w.heap.size≤l:=by omega
 obtain ⟨X,hXd⟩:∃ X:World→Prop,X=fun W=>W.heap[w.heap.size]?=some (.deferred (some [])):=⟨_,rfl⟩
 have hX:∀ A B,X A→(∀ k o,A.heap[k]?=some o→w.heap.size≤k→k<W1.heap.size→k≠l→o.isCells=false→B.heap[k]?=some o)→X B:=by
  subst hXd
  intro A B hx hk
  exact hk _ _ hx (Nat.le_refl _) (by omega) (by omega) rfl
 have hX1:X W1:=by rw[hXd];exact hK1
 have hXo:∀ W,X W→W.heap[w.heap.size]?=some (.deferred (some [])):=by rw[hXd];exact fun _ h=>h
 clear hXd
 have hKc:∀ (G:Nat→Prop) k o,KG G k o→∀ r,o≠.loop r:=fun G k o h r e=>by rw[e] at h;cases h.1
 -- the record's own turns
 have put:∀ (A:World) (o o':Obj),A.heap[l]?=some o→o.isCells=false→Moves (zab (fun _ _=>False) w.heap.size) A (A.putObj l o'):=fun A o o' ho hc =>
  Moves.refl.putObj (fun o₁ h₁=>by rw[ho] at h₁;cases h₁;exact .inr ⟨hl0,hc⟩) o'
 have zdq:∀ G s A o o',I G s A→A.heap[l]?=some o→o.isCells=false→I G s (A.putObj l o'):=fun G s A o o' hi ho hc =>
  hI G s _ _ hi ((put A o o' ho hc).weaken (fun k o h=>by rcases h with h | h;exact h.elim;exact .inr h))
 have hlt1:l<W1.heap.size:=(Array.getElem?_eq_some_iff.1 hL1').1
 have putX:∀ A o',X A→X (A.putObj l o'):=fun A o' hx=>hX A _ hx (fun k o hk _ _ hne _=>(World.putObj_heap_other hne).trans hk)
 have keepX:∀ {K':Nat→Obj→Prop} (A B:World),X A→Kept (zab K' w.heap.size) A B→X B:=fun A B hx hk =>
  hX A B hx (fun k o ho hn _ _ hc=>hk.same k o ho (.inr ⟨hn,hc⟩))
 have moveO:∀ (A B:World) (k:Nat) (o:Obj),A.heap[k]?=some o→k<W1.heap.size→o.isCells=false→Moves (zab M W1.heap.size) A B→B.heap[k]?=some o:=fun A B k o ho hk hc hm =>
  hm.same k o ho (fun h=>by
   rcases h with h | h
   ·have:=hMc k o h;rw[hc] at this;cases this
   ·omega)
 have moveX:∀ (A B:World),X A→Moves (zab M W1.heap.size) A B→X B:=fun A B hx hm =>
  hX A B hx (fun k o ho _ hlt _ hc=>moveO A B k o ho hlt hc hm)
 have moveI:∀ (A B:World),Moves (zab M W1.heap.size) A B→Moves (zab M w.heap.size) A B:=fun A B hm =>
  hm.weaken (fun k o h=>by rcases h with h | h;exact .inl h;exact .inr ⟨by omega,h.2⟩)
 refine ⟨l,[{ target:=.collected w.heap.size,args:=#[] }],W1,{ target:=.fn (.func gf) lb,args:=#[.func (.yield l) #[] #[]] },W1,gf,#[.func (.yield l) #[] #[]]++lb,W1,henter,?_,fun _ _=>trivial,?_,fun h=>by simp[Fence.wide] at h,?_⟩
 ·simp only[resolve,hg]
  simp[go_sem]
 ·simp[invoke,go_sem,eg]
 ·refine callsIn_wd.2 ?_
  refine (hseq W1 hb1 hs1 l
   (fun G pre W=>I G pre W∧W.heap[l]?=some (.loop (rec .ready none))∧X W)
   (fun G s A B hs hm=>⟨hI G s A B hs.1 (moveI A B hm),moveO A B l _ hs.2.1 hlt1 rfl hm,moveX A B hs.2.2 hm⟩)
   (fun G s A hs k hk=>hbd G s A hs.1 k hk)
   ?_ G0 hG0 ⟨hI _ _ _ _ h0 hm1,hL1',hX1⟩).mono ?_
  · -- ONE ROUND
   rintro G pre x post hxs W av ⟨hi,hlr,hx⟩ hsz hrp
   have hy:=run_yield (P:=P) (args:=av) hlr (by rw[hrec];exact hps x av W hrp)
   rw[hrec] at hy
   refine ⟨fn,_,assign,body,hy,?_⟩
   clear hy
   have rd:=roundIn_of_wpIn (F:=Wd (some l)) (n:=n) (P:=P) (l:=l) (f:=fn) (w:=W) (assign:=assign) (body:=body) (tmps:=(ps.zip av).foldl (fun t (p,v)=>t.setIfInBounds p v) a.tmps)
    (R:=fun e W'=>e=.returned (.bool true)∧Kept (zab (KG G) W1.heap.size) W W'∧∃ G',(∀ k,G' k→G k∨W.heap.size≤k)∧I G' (pre++[x]) W'∧W'.heap[l]?=some (.loop (rec .ready none))∧X W')
    trivial (hassign G l pre x post W av _ hxs hi (by omega) hrp ?_)
   ·exact ⟨trivial,fun c cs _=>rd.2 c cs (room_wide _)⟩
   ·intro a' Wa hka hia hax
    have hla:=hka.same l _ hlr (.inr ⟨hl0,rfl⟩)
    have hxa:=keepX W Wa hx hka
    have hlta:l<Wa.heap.size:=(Array.getElem?_eq_some_iff.1 hla).1
    refine ⟨_,run_beginRound hla (by rw[hrec]),?_⟩
    have hl2:(Wa.putObj l (.loop { rec .ready none with state:=.busy })).heap[l]?=some (.loop { rec .ready none with state:=.busy }):=World.putObj_heap_same hlta
    refine wpIn_mono (hbody G l pre x post a' _ hxs hl0 ⟨_,hl2⟩ (zdq _ _ _ _ _ hia hla rfl) (by simp;have:=hka.size;omega) (hAx x a' _ _ hax (put _ _ _ hla rfl))) ?_
    rintro e a3 W3 hp
    cases e with
    | normal =>
     obtain ⟨hk3,G',hG',hi3⟩:=hp
     have hl3:=hk3.same l _ hl2 (.inr ⟨hl0,rfl⟩)
     have hrun:=run_endRound (P:=P) none hl3
     rw[hrec] at hrun
     refine ⟨_,_,hrun,rfl,⟨?_,?_⟩,G',fun k hk=>?_,?_,?_,?_⟩
     ·have h1:=hka.size;have h2:=hk3.size;simp at h2 ⊢;omega
     ·intro k o hk hK
      have hKw:zab (KG G) w.heap.size k o:=by
       rcases hK with h | h
       ·exact .inl h
       ·exact .inr ⟨by omega,h.2⟩
      by_cases e:k=l
      ·subst e
       rw[hlr] at hk;cases hk
       rcases hK with h | h
       ·exact absurd rfl (hKc _ _ _ h _)
       ·omega
      ·have h1:=hka.same k o hk hKw
       have h2:=hk3.same k o ((World.putObj_heap_other e).trans h1) hKw
       exact (World.putObj_heap_other e).trans h2
     ·rcases hG' k hk with h | h
      ·exact .inl h
      ·right
       have:=hka.size
       simp at h
       omega
     ·have:=zdq _ _ _ _ (.loop (rec .ready none)) hi3 hl3 rfl
      rw[hrec] at this
      exact this
     ·have:=World.putObj_heap_same (o:=.loop (rec .ready none)) (Array.getElem?_eq_some_iff.1 hl3).1
      rw[hrec] at this ⊢
      exact this
     ·exact putX _ _ (keepX _ _ (putX _ _ hxa) hk3)
    | ret=>exact hp.elim
    | exit id=>exact hp.elim
    | goto t=>exact hp.elim
    | panic ch=>exact hp.elim
    | outgrown=>exact hp.elim
  · -- BEHIND THE ITERATOR
   rintro e W2 ⟨G,⟨hi,hl2,hx⟩,(⟨hpn,v,rfl⟩ | ⟨c,hpn,rfl⟩)⟩
   ·exact ⟨none,_,by have:=run_endLoop (P:=P) hl2 (by rw[hrec];simp);rw[hrec] at this;exact this,hdone G _ _ hpn (Nat.le_refl _) (zdq _ _ _ _ _ hi hl2 rfl) (hXo _ (putX _ _ hx))⟩
   ·exact hpan G _ c _ hpn (Nat.le_refl _) hi (hXo _ hx)
end Go.Mv
