/- Merged: Name Man1 Find Rd1 Rd2 HeldC Man2 -/
import Derived.Test.YtgonhdeochgkoaaGreatDoorZt12
import Derived.Test.YtgonhdeochgkoaaGreatDoorZt16
import Derived.Lib.ItoaNum
import Derived.Lib.ItoaLen
import Derived.Lib.AppendIntMem
set_option linter.all false
set_option maxHeartbeats 8000000
set_option maxRecDepth 100000
namespace Go.Proofs.YtgonhdeochgkoaaGreatDoor
open Go.RowKit Go.Mv
theorem mcNamea0 {P:Prop} (h:P:=by
 obtain ⟨hs0,hs1,hf⟩:=hz;have hls:=zeZ s hs0 hs1;have hlf:=zeZ f (by omega) (by omega)
 have ho1:=fun W=>zlb s (by omega) hs1 W
 have ho2:=fun W=>zg7 f hf W
 generalize zca s=ns at *
 generalize zca f=nf at *
 have O1:=zhd ho1;have O2:=zhd ho2;have HR2:=zhd hR
 have c1:¬ (9223372036854775807<1+ns.length):=by omega
 have c2:¬ (9223372036854775807<1+ns.length+1):=by omega
 have c3:¬ (9223372036854775807<1+ns.length+1+nf.length):=by omega
 have d1:¬ (s<1):=by omega
 have d2:¬ (1073741824<s):=by omega
 have d3:¬ (f<1):=by omega
 have d4:¬ (2<f):=by omega
 clear ho1 ho2 HR hR;obtain ⟨g0,g1,g2⟩:=zds hb;go_wp2_with fail
 go_region_held3 (fun w'=>w'.cell? ⟨w.heap.size,1,none⟩=some (.int .i64 s)∧w'.cell? ⟨w.heap.size,2,none⟩=some (.int .i64 f)) (first | go_keep | (refine ⟨?_,?_⟩ <;> assumption))
  (first
    | (go_at_call 80;refine (O1.out _ (HS.out.ext (Ext.drew (Ext.drew hX)))).mono ?_;rintro e w2 ⟨rfl,hE2⟩;obtain ⟨_,k1,k2⟩:=zds (hb.ext (Ext.trans (Ext.drew (Ext.drew (Ext.refl _))) hE2)))
    | (go_at_call 80;refine (O2.out _).mono ?_;rintro e w3 ⟨rfl,rfl⟩))
 go_wp2_with fail
 go_ret2
 refine ⟨?_,Ext.trans hX (Ext.trans (Ext.drew (Ext.drew (Ext.refl _))) hE2)⟩
 rw[HR2.out,zqC]
 rfl):P:=h
theorem mcNamea1 {P:Prop} (h:P:=by
 go_enter Tryz.func38,Tryz.ntmps38
 go_wp2_with fail
 refine (zfT _ s f _).mono ?_
 rw[Hm.out];rintro e w1 ⟨rfl,hE1⟩;have hb1:=hb.ext hE1;obtain ⟨g0,g1,g2⟩:=zds hb1;go_wp2_with fail
 go_region_held3 (fun w'=>w'.cell? ⟨w.heap.size,1,none⟩=some (.int .i64 s)∧w'.cell? ⟨w.heap.size,2,none⟩=some (.int .i64 f)) (first | go_keep | (refine ⟨?_,?_⟩ <;> assumption))
  (first
    | (go_at_call 80;refine (O1.out _ (HS.out.ext (Ext.trans hX (Ext.drew hE1)))).mono ?_;rintro e w2 ⟨rfl,hE2⟩;obtain ⟨_,k1,k2⟩:=zds (hb1.ext (Ext.trans (Ext.drew (Ext.refl _)) hE2)))
    | (go_at_call 80;refine (O2.out _).mono ?_;rintro e w3 ⟨rfl,rfl⟩))
 go_wp2_with fail
 go_ret2
 refine ⟨?_,Ext.trans hX (Ext.trans (Ext.drew hE1) hE2)⟩
 rw[Hn.out,zqC]
 rfl):P:=h
structure StW (w:World):Prop where
 tab:TabW rT w
 pow:Lib.TabIs Tryz.prog w "internal/strconv.uint64pow10" .u64 Lib.pow10Tab
theorem StW.ext {w w':World} (h:StW w) (hE:Ext w w'):StW w':=⟨h.tab.ext hE,Lib.tabBelow_of_tabIs h.pow w' hE⟩
def sv (l:List UInt8):Value:=.string ⟨l.toArray⟩
abbrev Fil:=List UInt8×List UInt8
def Fs (W:World) (v:Value) (fs:List Fil):Prop:=∃ vs:List Value,SlR W 2 v fs.length vs∧∀ (i:Nat) (hi:i<fs.length),vs[i*2]?=some (sv fs[i].1)∧∃ u,vs[i*2+1]?=some u∧Bs W u fs[i].2
theorem Fs.ext {w w':World} {v:Value} {fs:List Fil} (h:Fs w v fs) (hE:Ext w w'):Fs w' v fs:=by
 obtain ⟨vs,h1,h2⟩:=h
 refine ⟨vs,h1.ext hE,fun i hi=>?_⟩
 obtain ⟨h3,u,h4,h5⟩:=h2 i hi
 exact ⟨h3,u,h4,h5.ext hE⟩
theorem Fs.keep {w w':World} {v:Value} {fs:List Fil} (h:Fs w v fs) (hk:∀ p u,w.cell? p=some u→w'.cell? p=some u):Fs w' v fs:=by
 obtain ⟨vs,h1,h2⟩:=h
 refine ⟨vs,h1.keep hk,fun i hi=>?_⟩
 obtain ⟨h3,u,h4,h5⟩:=h2 i hi
 exact ⟨h3,u,h4,SlR.keep h5 hk⟩
theorem Fs.open_ {W:World} {v:Value} {fs:List Fil} (h:Fs W v fs):∃ A c,v=.slice A fs.length c∧fs.length≤c∧c≤9223372036854775807:=by
 obtain ⟨vs,h1,_⟩:=h
 exact SlR.open_ h1
theorem Fs.at_ {W:World} {A:Option Addr} {m c:Nat} {fs:List Fil} (h:Fs W (.slice A m c) fs) (hn:0<fs.length):m=fs.length∧∃ b off,A=some ⟨b,off,none⟩∧∀ (k:Nat) (hk:k<fs.length),
  W.cell? ⟨b,off+k*2,none⟩=some (sv fs[k].1)∧∃ B d,W.cell? ⟨b,off+k*2+1,none⟩=some (.slice B fs[k].2.length d)∧Bs W (.slice B fs[k].2.length d) fs[k].2:=by
 obtain ⟨vs,h1,h2⟩:=h;obtain ⟨rfl,b,off,rfl,hc⟩:=SlR.at_ h1 hn
 refine ⟨rfl,b,off,rfl,fun k hk=>?_⟩
 obtain ⟨h3,u,h4,h5⟩:=h2 k hk;obtain ⟨B,d,rfl,_,_⟩:=SlR.open_ h5
 exact ⟨hc (k*2) _ h3,B,d,by rw[Nat.add_assoc];exact hc (k*2+1) _ h4,h5⟩
def zeX (k s f:Int):Bool:=if k=1∨k=2 then decide (s=0∧f=0) else decide ((k=3∨k=4)∧1≤s∧s≤1073741824∧(f=1∨f=2))
def zca (n:Int):List UInt8:=Lib.decDigits n.toNat
def zfd (k s f:Int):List UInt8:=if k=1 then [77] else if k=2 then [77,46,110,101,119] else (if k=3 then 115 else 112)::(zca s++46::zca f)
def zak (k s f:Int):Option (List UInt8):=if zeX k s f=true then some (zfd k s f) else none
def zmr (w:World) (r:Option (List UInt8)) (e:Ending) (w':World):Prop:=e=.returned (.tuple #[sv (r.getD []),.int .i64 (if r.isSome=true then 0 else 2)])∧Ext w w'
theorem zlb (n:Int) (h0:0≤n) (h1:n≤1073741824) (w:World) (hS:StW w):Calls Tryz.prog 80 #[.int .i64 n] w fun e w'=>e=.returned (.string ⟨(zca n).toArray⟩)∧Ext w w':=by
 refine (Tryz.strconv_Itoa n (by omega) (by omega) w hS.pow).mono ?_
 rintro e w' ⟨rfl,k,os,rfl⟩
 refine ⟨?_,?_⟩
 ·have:Lib.itoa n=zca n:=by
   obtain ⟨m,rfl⟩:∃ m:Nat,n=m:=⟨n.toNat,by omega⟩
   rw[Lib.itoa_nonneg];unfold zca;rw[Int.toNat_natCast]
  rw[this]
 ·exact Lib.below_grow _ _ (Nat.le_refl _) _ _
theorem zfT (k s f:Int) (w:World):Calls Tryz.prog 28 #[.agg #[.int .u8 k,.int .i64 s,.int .i64 f]] w fun e w'=>e=.returned (.bool (zeX k s f))∧Ext w w':=by
 go_enter Tryz.func28,Tryz.ntmps28
 go_wp2_with fail
 all_goals go_ret
 all_goals refine ⟨ret_bool ?_,Ext.alloc (Ext.refl _) _⟩
 all_goals (rw[Bool.eq_iff_iff];unfold zeX;split <;> simp_all <;> omega)
theorem zeZ (n:Int) (h0:1≤n) (h1:n≤1073741824):(zca n).length≤21:=by
 have h:=Lib.itoa_length_le n (by omega) (by omega)
 obtain ⟨m,rfl⟩:∃ m:Nat,n=m:=⟨n.toNat,by omega⟩
 rw[Lib.itoa_nonneg] at h;unfold zca;rw[Int.toNat_natCast]
 exact h
theorem zg7 (i:Int) (hi:i=1∨i=2) (w:World):Calls Tryz.prog 80 #[.int .i64 i] w fun e w'=>e=.returned (.string ⟨(zca i).toArray⟩)∧w=w':=by
 rcases hi with rfl | rfl
 ·exact (Tryz.strconv_Itoa_small 1 (by decide) w).mono (by rintro e w' ⟨rfl,rfl⟩;exact ⟨rfl,rfl⟩)
 ·exact (Tryz.strconv_Itoa_small 2 (by decide) w).mono (by rintro e w' ⟨rfl,rfl⟩;exact ⟨rfl,rfl⟩)
def zcf (k:Int):List UInt8:=if k=3 then [115] else if k=4 then [112] else []
def zcG (k:Int):List UInt8:=if k=1 then [77] else if k=2 then [77,46,110,101,119] else []
theorem zm8 (k:Int) (w:World):Calls Tryz.prog 90 #[.int .u8 k] w fun e w'=>e=.returned (sv (zcf k))∧w=w':=by
 by_cases h3:k=3
 ·subst h3
  go_enter Tryz.func90,Tryz.ntmps90
  go_wp2_with fail;go_ret
  exact ⟨rfl,rfl⟩
 ·by_cases h4:k=4
  ·subst h4
   go_enter Tryz.func90,Tryz.ntmps90
   go_wp2_with fail;go_ret
   exact ⟨rfl,rfl⟩
  ·have hl:zcf k=[]:=by unfold zcf;rw[if_neg h3,if_neg h4]
   go_enter Tryz.func90,Tryz.ntmps90
   go_wp2_with fail;go_ret
   exact ⟨by rw[hl];rfl,rfl⟩
theorem zoE (k:Int) (w:World):Calls Tryz.prog 91 #[.int .u8 k] w fun e w'=>e=.returned (sv (zcG k))∧w=w':=by
 by_cases h3:k=1
 ·subst h3
  go_enter Tryz.func91,Tryz.ntmps91
  go_wp2_with fail;go_ret
  exact ⟨rfl,rfl⟩
 ·by_cases h4:k=2
  ·subst h4
   go_enter Tryz.func91,Tryz.ntmps91
   go_wp2_with fail;go_ret
   exact ⟨rfl,rfl⟩
  ·have hl:zcG k=[]:=by unfold zcG;rw[if_neg h3,if_neg h4]
   go_enter Tryz.func91,Tryz.ntmps91
   go_wp2_with fail;go_ret
   exact ⟨by rw[hl];rfl,rfl⟩
theorem zqC (a:UInt8) (ns nf:List UInt8):((ByteArray.mk #[a]++ByteArray.mk ns.toArray)++ByteArray.mk #[46])++ByteArray.mk nf.toArray=ByteArray.mk (a::(ns++46::nf)).toArray:=by
 apply ByteArray.ext
 simp[ByteArray.data_append]
theorem zds {W:World} {b:Nat} {t:TypeId} {a v u:Value} (h:Blk W b t #[a,v,u]):W.cell? ⟨b,0,none⟩=some a∧W.cell? ⟨b,1,none⟩=some v∧W.cell? ⟨b,2,none⟩=some u :=
 ⟨h.cell 0 rfl,h.cell 1 rfl,h.cell 2 rfl⟩
theorem zgE (k s f:Int) (w:World) (hS:StW w):Calls Tryz.prog 38 #[.agg #[.int .u8 k,.int .i64 s,.int .i64 f]] w (zmr w (zak k s f)):=by
 have HS:=zhd hS;clear hS;have hb:=Blk.new w 49 #[.int .u8 k,.int .i64 s,.int .i64 f]
 have hX:Ext w (w.alloc (.cells #[.int .u8 k,.int .i64 s,.int .i64 f] 49)):=Ext.alloc (Ext.refl _) _
 by_cases hm:zeX k s f=true
 case neg =>
  have hn:zak k s f=none:=by unfold zak;rw[if_neg hm]
  have Hn:=zhd hn;have Hm:=zhd (Bool.eq_false_iff.2 hm);clear hn hm
  go_enter Tryz.func38,Tryz.ntmps38
  go_wp2_with fail
  refine (zfT k s f _).mono ?_
  rw[Hm.out];rintro e w1 ⟨rfl,hE1⟩;go_wp2_with fail
  go_ret2
  exact ⟨by rw[Hn.out];rfl,Ext.trans hX hE1⟩
 case pos =>
  have hn:zak k s f=some (zfd k s f):=by unfold zak;rw[if_pos hm]
  have Hn:=zhd hn;have Hm:=zhd hm;clear hn
  rcases (by unfold zeX at hm;split at hm <;> simp at hm <;> omega:k=1∨k=2∨((k=3∨k=4)∧1≤s∧s≤1073741824∧(f=1∨f=2))) with rfl | rfl | ⟨hk,hs0,hs1,hf⟩
  ·clear hm
   go_enter Tryz.func38,Tryz.ntmps38
   go_wp2_with fail
   refine (zfT _ s f _).mono ?_
   rw[Hm.out];rintro e w1 ⟨rfl,hE1⟩;obtain ⟨g0,g1,g2⟩:=zds (hb.ext hE1);go_wp2_with fail
   go_ret2
   exact ⟨by rw[Hn.out];rfl,Ext.trans hX hE1⟩
  ·clear hm
   go_enter Tryz.func38,Tryz.ntmps38
   go_wp2_with fail
   refine (zfT _ s f _).mono ?_
   rw[Hm.out];rintro e w1 ⟨rfl,hE1⟩;obtain ⟨g0,g1,g2⟩:=zds (hb.ext hE1);go_wp2_with fail
   go_ret2
   exact ⟨by rw[Hn.out];rfl,Ext.trans hX hE1⟩
  ·clear hm
   have hls:=zeZ s hs0 hs1;have hlf:=zeZ f (by omega) (by omega)
   have ho1:=fun W=>zlb s (by omega) hs1 W
   have ho2:=fun W=>zg7 f hf W
   have hnm:zfd k s f=(if k=3 then 115 else 112)::(zca s++46::zca f):=by unfold zfd;rw[if_neg (by omega),if_neg (by omega)]
   rw[hnm] at Hn
   generalize zca s=ns at *
   generalize zca f=nf at *
   have O1:=zhd ho1;have O2:=zhd ho2
   have c1:¬ (9223372036854775807<1+ns.length):=by omega
   have c2:¬ (9223372036854775807<1+ns.length+1):=by omega
   have c3:¬ (9223372036854775807<1+ns.length+1+nf.length):=by omega
   clear ho1 ho2 hnm
   rcases hk with rfl | rfl
   ·have Hn:Hid (zak 3 s f=some (115::(ns++46::nf))):=zhd (by have h:=Hn.out;simpa using h)
    exact mcNamea1
   ·have Hn:Hid (zak 4 s f=some (112::(ns++46::nf))):=zhd (by have h:=Hn.out;simpa using h)
    exact mcNamea1
theorem zou (k s f:Int):zak k s f=if zcG k≠[]∧s=0∧f=0 then some (zcG k) else if zcf k=[]∨s<1∨1073741824<s∨f<1∨2<f then none else some (zcf k++(zca s++46::zca f)):=by
 by_cases h1:k=1
 ·subst h1
  by_cases h:s=0∧f=0
  ·obtain ⟨rfl,rfl⟩:=h;rfl
  ·rw[if_neg (by simp[zcG];exact fun h2 h3=>h ⟨h2,h3⟩),if_pos (by simp[zcf])]
   unfold zak zeX;rw[if_neg (by simp;exact fun h2 h3=>h ⟨h2,h3⟩)]
 ·by_cases h2:k=2
  ·subst h2
   by_cases h:s=0∧f=0
   ·obtain ⟨rfl,rfl⟩:=h;rfl
   ·rw[if_neg (by simp[zcG];exact fun h2 h3=>h ⟨h2,h3⟩),if_pos (by simp[zcf])]
    unfold zak zeX;rw[if_neg (by simp;exact fun h2 h3=>h ⟨h2,h3⟩)]
  ·rw[if_neg (by simp[zcG,h1,h2])]
   have hm:zeX k s f=decide ((k=3∨k=4)∧1≤s∧s≤1073741824∧(f=1∨f=2)):=by unfold zeX;rw[if_neg (by omega)]
   have hn:zfd k s f=(if k=3 then 115 else 112)::(zca s++46::zca f):=by unfold zfd;rw[if_neg h1,if_neg h2]
   unfold zak zcf;rw[hm,hn]
   by_cases h3:k=3
   ·subst h3
    by_cases h:1≤s∧s≤1073741824∧(f=1∨f=2)
    ·obtain ⟨ha,hb,hc⟩:=h
     rcases hc with rfl | rfl <;> simp[ha,hb] <;> omega
    ·rw[if_neg (by simp;omega),if_pos (by simp;omega)]
   ·by_cases h4:k=4
    ·subst h4
     by_cases h:1≤s∧s≤1073741824∧(f=1∨f=2)
     ·obtain ⟨ha,hb,hc⟩:=h
      rcases hc with rfl | rfl <;> simp[ha,hb] <;> omega
     ·rw[if_neg (by simp;omega),if_pos (by simp;omega)]
    ·rw[if_neg (by simp;omega),if_pos (by simp[h3,h4])]
theorem znl (k:Int):(k=1∧zcG k=[77]∧zcf k=[])∨(k=2∧zcG k=[77,46,110,101,119]∧zcf k=[])∨(k=3∧zcG k=[]∧zcf k=[115])∨(k=4∧zcG k=[]∧zcf k=[112])∨(zcG k=[]∧zcf k=[]):=by
 by_cases h1:k=1
 ·subst h1;exact .inl ⟨rfl,rfl,rfl⟩
 ·by_cases h2:k=2
  ·subst h2;exact .inr (.inl ⟨rfl,rfl,rfl⟩)
  ·by_cases h3:k=3
   ·subst h3;exact .inr (.inr (.inl ⟨rfl,rfl,rfl⟩))
   ·by_cases h4:k=4
    ·subst h4;exact .inr (.inr (.inr (.inl ⟨rfl,rfl,rfl⟩)))
    ·exact .inr (.inr (.inr (.inr ⟨by unfold zcG;rw[if_neg h1,if_neg h2],by unfold zcf;rw[if_neg h3,if_neg h4]⟩)))
theorem zeM (k s f:Int) (w:World) (hS:StW w):Calls Tryz.prog 48 #[.agg #[.int .u8 k,.int .i64 s,.int .i64 f]] w (zmr w (zak k s f)):=by
 have HS:=zhd hS;clear hS;have hb:=Blk.new w 49 #[.int .u8 k,.int .i64 s,.int .i64 f]
 have hX:Ext w (w.alloc (.cells #[.int .u8 k,.int .i64 s,.int .i64 f] 49)):=Ext.alloc (Ext.refl _) _
 rw[zou];obtain ⟨pl,hpl⟩:∃ pl,zcG k=pl:=⟨_,rfl⟩;obtain ⟨le,hle⟩:∃ le,zcf k=le:=⟨_,rfl⟩;have hcs:=znl k
 rw[hpl,hle] at hcs ⊢
 have L1:=fun W=>zm8 k W
 have L2:=fun W=>zoE k W
 rw[hpl] at L2;rw[hle] at L1;have O1:=zhd L1;have O2:=zhd L2;clear L1 L2 hpl hle;obtain ⟨R,hR⟩:∃ R,(if pl≠[]∧s=0∧f=0 then some pl else if le=[]∨s<1∨1073741824<s∨f<1∨2<f then none else some (le++(zca s++46::zca f)))=R:=⟨_,rfl⟩;rw[hR];have HR:=zhd hR;clear hR
 have hD:Ext w (w.alloc (.cells #[.int .u8 k,.int .i64 s,.int .i64 f] 49)).drew:=Ext.drew hX
 go_enter Tryz.func48,Tryz.ntmps48
 go_wp2_with fail
 go_region_held3 (fun w'=>w'.cell? ⟨w.heap.size,0,none⟩=some (.int .u8 k)) (first | go_keep | assumption)
  (first
    | (go_at_call 90;refine (O1.out _).mono ?_;rintro e w2 ⟨rfl,rfl⟩)
    | (go_at_call 91;refine (O2.out _).mono ?_;rintro e w3 ⟨rfl,rfl⟩))
 clear O1 O2;simp only[sv]
 rcases hcs with ⟨rfl,rfl,rfl⟩ | ⟨rfl,rfl,rfl⟩ | ⟨rfl,rfl,rfl⟩ | ⟨rfl,rfl,rfl⟩ | ⟨rfl,rfl⟩
 ·by_cases hz:s=0∧f=0
  ·obtain ⟨rfl,rfl⟩:=hz
   have hR:R=some [77]:=HR.out.symm
   have HR2:=zhd hR;clear HR hR;go_wp2_with fail
   go_ret2
   exact ⟨by rw[HR2.out];rfl,hD⟩
  ·have hR:R=none:=by rw[←HR.out,if_neg (fun h=>hz h.2),if_pos (.inl rfl)]
   have HR2:=zhd hR;clear HR hR;go_wp2_with fail
   all_goals (first | (exfalso;exact hz ⟨by assumption,by assumption⟩) | (exfalso;simp_all;done) | (go_ret2;refine ⟨by rw[HR2.out];rfl,?_⟩;first | exact hD | (have e0:s=0:=(by assumption);subst e0;exact hD)))
 ·by_cases hz:s=0∧f=0
  ·obtain ⟨rfl,rfl⟩:=hz
   have hR:R=some [77,46,110,101,119]:=HR.out.symm
   have HR2:=zhd hR;clear HR hR;go_wp2_with fail
   go_ret2
   exact ⟨by rw[HR2.out];rfl,hD⟩
  ·have hR:R=none:=by rw[←HR.out,if_neg (fun h=>hz h.2),if_pos (.inl rfl)]
   have HR2:=zhd hR;clear HR hR;go_wp2_with fail
   all_goals (first | (exfalso;exact hz ⟨by assumption,by assumption⟩) | (exfalso;simp_all;done) | (go_ret2;refine ⟨by rw[HR2.out];rfl,?_⟩;first | exact hD | (have e0:s=0:=(by assumption);subst e0;exact hD)))
 ·by_cases hz:1≤s∧s≤1073741824∧(f=1∨f=2)
  ·have hR:R=some (115::(zca s++46::zca f)):=by
    rw[←HR.out,if_neg (fun h=>h.1 rfl),if_neg (by rintro (h | h | h | h | h) <;> first | (cases h;done) | omega)]
    rfl
   exact mcNamea0
  ·have hR:R=none:=by rw[←HR.out,if_neg (fun h=>h.1 rfl),if_pos (by omega)]
   have HR2:=zhd hR;clear HR hR;go_wp2_with fail
   all_goals (first | (exfalso;omega) | (go_ret2;exact ⟨by rw[HR2.out];rfl,hD⟩))
 ·by_cases hz:1≤s∧s≤1073741824∧(f=1∨f=2)
  ·have hR:R=some (112::(zca s++46::zca f)):=by
    rw[←HR.out,if_neg (fun h=>h.1 rfl),if_neg (by rintro (h | h | h | h | h) <;> first | (cases h;done) | omega)]
    rfl
   exact mcNamea0
  ·have hR:R=none:=by rw[←HR.out,if_neg (fun h=>h.1 rfl),if_pos (by omega)]
   have HR2:=zhd hR;clear HR hR;go_wp2_with fail
   all_goals (first | (exfalso;omega) | (go_ret2;exact ⟨by rw[HR2.out];rfl,hD⟩))
 ·have hR:R=none:=HR.out.symm
  have HR2:=zhd hR;clear HR hR;go_wp2_with fail
  go_ret2
  exact ⟨by rw[HR2.out];rfl,hD⟩
structure Sg4 where
 seq:Int
 fmt:Int
 first:Int
 count:Int
deriving DecidableEq
def Sg4.cells (s:Sg4):List Value:=[.int .i64 s.seq,.int .i64 s.fmt,.int .i64 s.first,.int .i64 s.count]
def zaW (l:List Sg4):List Value:=l.flatMap Sg4.cells
theorem zjy (l:List Sg4):(zaW l).length=l.length*4:=by
 induction l with
 | nil=>rfl
 | cons e l ih=>simp[zaW,Sg4.cells] at ih ⊢;omega
def Sgs (w:World) (v:Value) (l:List Sg4):Prop:=SlR w 4 v l.length (zaW l)
theorem Sgs.ext {w w':World} {v:Value} {l:List Sg4} (h:Sgs w v l) (he:Ext w w'):Sgs w' v l:=SlR.ext h he
theorem Sgs.keep {w w':World} {v:Value} {l:List Sg4} (h:Sgs w v l) (hk:∀ p u,w.cell? p=some u→w'.cell? p=some u):Sgs w' v l:=SlR.keep h hk
theorem Sgs.open_ {W:World} {v:Value} {l:List Sg4} (h:Sgs W v l):∃ A c,v=.slice A l.length c∧l.length≤c∧c≤9223372036854775807:=SlR.open_ h
theorem Sgs.nil (w:World):Sgs w (.slice none 0 0) []:=SlR.nil w 4
theorem zeG (l:List Sg4) (k:Nat) (h:k<l.length) (i:Nat) (hi:i<4):(zaW l)[k*4+i]?=l[k].cells[i]?:=by
 induction l generalizing k with
 | nil=>simp at h
 | cons e l ih =>
  rw[show zaW (e::l)=e.cells++zaW l from rfl]
  have hl:e.cells.length=4:=rfl
  cases k with
  | zero=>rw[List.getElem?_append_left (by omega)];simp
  | succ k =>
   rw[List.getElem?_append_right (by omega),hl,show (k+1)*4+i-4=k*4+i from by omega]
   simpa using ih k (by simpa using h)
theorem Sgs.at_ {w:World} {A:Option Addr} {m c:Nat} {l:List Sg4} (h:Sgs w (.slice A m c) l) (hn:0<l.length):m=l.length∧∃ b off,A=some ⟨b,off,none⟩∧∀ (k:Nat) (hk:k<l.length),
  w.cell? ⟨b,off+k*4,none⟩=some (.int .i64 l[k].seq)∧w.cell? ⟨b,off+k*4+1,none⟩=some (.int .i64 l[k].fmt)∧w.cell? ⟨b,off+k*4+2,none⟩=some (.int .i64 l[k].first)∧w.cell? ⟨b,off+k*4+3,none⟩=some (.int .i64 l[k].count):=by
 obtain ⟨rfl,b,off,rfl,hc⟩:=SlR.at_ h hn
 refine ⟨rfl,b,off,rfl,fun k hk=>⟨?_,?_,?_,?_⟩⟩
 ·exact hc (k*4) _ (zeG l k hk 0 (by omega))
 ·exact hc (k*4+1) _ (zeG l k hk 1 (by omega))
 ·exact hc (k*4+2) _ (zeG l k hk 2 (by omega))
 ·exact hc (k*4+3) _ (zeG l k hk 3 (by omega))
structure Mf where
 next:Int
 term:Int
 vote:Int
 sq:Int
 sf:Int
 segs:List Sg4
deriving DecidableEq
def inB (n lo hi:Int):Bool:=decide (lo≤n∧n≤hi)
def zbD (next seq fmt:Int):Bool:=decide (1≤seq∧seq≤next-1∧(fmt=1∨fmt=2))
def zbz (m:Mf) (i:Nat) (s:Sg4):Bool :=
 zbD m.next s.seq s.fmt&&decide (s.seq≠m.sq)&&inB s.first 1 1073741820&&(m.segs.take i).all (fun t=>decide (t.seq≠s.seq)) &&
 (match m.segs[i-1]? with | none=>true | some p=>decide (i=0∨s.first=p.first+p.count))&&(inB s.count 1 4||(decide (s.count = -1)&&decide (i+1=m.segs.length)))
def zct (m:Mf):Bool:=inB m.next 1 1073741824&&inB m.term 0 1073741824&&inB m.vote 0 5&&decide (m.segs.length≤60)
def zcK (m:Mf):Bool:=decide (m.sq=0∧m.sf=0)||zbD m.next m.sq m.sf
def zbH (m:Mf):Nat→Bool
 | 0=>true
 | k+1=>zbH m k&&(match m.segs[k]? with | none=>false | some s=>zbz m k s)
def zav (m:Mf):Bool:=zct m&&zcK m&&zbH m m.segs.length
theorem zap {W:World} {b:Nat} {t:TypeId} {a v u x y z:Value} (h:Blk W b t #[a,v,u,x,y,z]):W.cell? ⟨b,0,none⟩=some a∧W.cell? ⟨b,1,none⟩=some v∧W.cell? ⟨b,2,none⟩=some u∧W.cell? ⟨b,3,none⟩=some x∧W.cell? ⟨b,4,none⟩=some y∧W.cell? ⟨b,5,none⟩=some z :=
 ⟨h.cell 0 rfl,h.cell 1 rfl,h.cell 2 rfl,h.cell 3 rfl,h.cell 4 rfl,h.cell 5 rfl⟩
theorem zay {W:World} {b:Nat} {t:TypeId} {a v u x:Value} (h:Blk W b t #[a,v,u,x]):W.cell? ⟨b,0,none⟩=some a∧W.cell? ⟨b,1,none⟩=some v∧W.cell? ⟨b,2,none⟩=some u∧W.cell? ⟨b,3,none⟩=some x :=
 ⟨h.cell 0 rfl,h.cell 1 rfl,h.cell 2 rfl,h.cell 3 rfl⟩
def mfC (m:Mf) (v:Value):Array Value:=#[.int .i64 m.next,.int .i64 m.term,.int .i64 m.vote,.int .i64 m.sq,.int .i64 m.sf,v]
open Go.RowKit Go.Mv Go.Shelf
def za5 (fs:List Fil) (n:List UInt8):Int:=match fs.findIdx? (fun f=>f.1==n) with | none=>-1 | some i=>(i:Int)
def zbS (fs:List Fil) (r:Option (List UInt8)):Int:=match r with | none=>-1 | some n=>za5 fs n
theorem zj5 {fs:List Fil} {n:List UInt8} {k:Nat} (hk:k<fs.length) (h:fs[k].1=n) (hn:∀ j (_:j<k) (h2:j<fs.length),fs[j].1≠n):za5 fs n=k:=by
 have:fs.findIdx? (fun f=>f.1==n)=some k:=by
  rw[List.findIdx?_eq_some_iff_getElem]
  exact ⟨hk,by simpa using h,fun j hj=>by simpa using hn j hj (by omega)⟩
 unfold za5;rw[this]
theorem zhJ {fs:List Fil} {n:List UInt8} (hn:∀ j (h2:j<fs.length),fs[j].1≠n):za5 fs n = -1:=by
 have:fs.findIdx? (fun f=>f.1==n)=none:=by
  rw[List.findIdx?_eq_none_iff];intro x hx;obtain ⟨j,hj,rfl⟩:=List.mem_iff_getElem.1 hx
  simpa using hn j hj
 unfold za5;rw[this]
theorem zfe (v:Value) (fs:List Fil) (k s f:Int) (w:World) (hS:StW w) (hF:Fs w v fs) (hl:fs.length≤4000000):Calls Tryz.prog 18 #[v,.agg #[.int .u8 k,.int .i64 s,.int .i64 f]] w fun e w'=>e=.returned (.int .i64 (zbS fs (zak k s f)))∧Ext w w':=by
 obtain ⟨A,c,rfl,h1,h2⟩:=Fs.open_ hF
 have hX:Ext w (w.alloc (.cells #[.int .u8 k,.int .i64 s,.int .i64 f] 49)):=Ext.alloc (Ext.refl _) _
 have key:=zgE k s f _ (hS.ext hX);obtain ⟨r,hr⟩:∃ r,zak k s f=r:=⟨_,rfl⟩
 rw[hr] at key ⊢
 have Key:=zhd key;have HF:=zhd hF;clear key hr hF hS
 cases r with
 | none =>
  go_enter Tryz.func18,Tryz.ntmps18
  go_wp2_with fail
  refine Key.out.mono ?_
  rintro e w1 ⟨rfl,hE1⟩
  dsimp only[Option.isSome]
  go_wp2_with fail
  go_loopw [7] (fun i wr=>i=.int .i64 0∧w1=wr) (fun _ _=>0)
  case atStart=>exact ⟨rfl,rfl⟩
  case round =>
   obtain ⟨rfl,rfl⟩:=hrel;go_wp2_with fail
   all_goals go_ret
   all_goals exact ⟨rfl,Ext.trans hX hE1⟩
 | some n =>
  go_enter Tryz.func18,Tryz.ntmps18
  go_wp2_with fail
  refine Key.out.mono ?_
  rintro e w1 ⟨rfl,hE1⟩
  dsimp only[Option.isSome,Option.getD]
  have hE01:=Ext.trans hX hE1;go_wp2_with fail
  go_loopw [7] (fun i wr=>∃ j:Nat,j≤fs.length∧i=.int .i64 j∧Hid (∀ q (_:q<j) (h2:q<fs.length),fs[q].1≠n)∧w1=wr) (fun i _=>fs.length-(intOf i).toNat)
  case atStart=>exact ⟨0,by omega,rfl,fun q hq=>by omega,rfl⟩
  case round =>
   obtain ⟨j,hj,rfl,Hn,rfl⟩:=hrel
   by_cases hlt:j<fs.length
   ·obtain ⟨_,b,off,rfl,hc⟩:=(HF.out.ext hE01).at_ (by omega)
    obtain ⟨hc0,_⟩:=hc j hlt
    have hp:fs[j].1=n→zbS fs (some n)=j:=fun h=>zj5 hlt h Hn.out
    have hq:fs[j].1≠n→∀ q (_:q<j+1) (h2:q<fs.length),fs[q].1≠n:=fun h q h3 h2=>by
     by_cases e:q=j
     ·subst e;exact h
     ·exact Hn.out q (by omega) h2
    have Hp:=zhd hp;have Hq:=zhd hq;clear hc hp hq
    generalize fs[j].1=x at *
    simp only[sv] at hc0 ⊢
    by_cases hx:x=n
    ·have hxe:(x==n)=true:=by simpa using hx
     have hfin:=zhd (Hp.out hx);go_wp2_with fail;go_ret
     exact ⟨by rw[hfin.out];rfl,hE01⟩
    ·have hxe:(x==n)=false:=by simpa using hx
     have Hq2:=zhd (Hq.out hx);go_wp2_with fail
     go_roundw
     case rel=>exact ⟨j+1,by omega,by go_num,Hq2,trivial⟩
     case measure=>simp[intOf];omega
   ·obtain rfl:j=fs.length:=by omega
    have hfin:=zhd (show zbS fs (some n) = -1 from zhJ fun q h2=>Hn.out q h2 h2)
    go_wp2_with fail;go_ret
    exact ⟨by rw[hfin.out];rfl,hE01⟩
def nmP:Nat→List Fil→List (Nat×List UInt8)
 | _,[]=>[]
 | k,f::l=>(k,f.1)::nmP (k+1) l
theorem znc {fs:List Fil} {k:Nat} (h:k<fs.length):nmP k (fs.drop k)=(k,fs[k].1)::nmP (k+1) (fs.drop (k+1)):=by
 rw[List.drop_eq_getElem_cons h];rfl
theorem zpd (l:List Fil):∀ k,(nmP k l).length=l.length:=by
 induction l with
 | nil=>intro k;rfl
 | cons f l ih=>intro k;simp[nmP,ih]
theorem zpc {fs:List Fil}:∀ (k j:Nat) (h:k+j<fs.length),(nmP k (fs.drop k))[j]?=some (k+j,fs[k+j].1):=by
 intro k j
 induction j generalizing k with
 | zero=>intro h;rw[znc (by omega)];rfl
 | succ j ih =>
  intro h;rw[znc (by omega),List.getElem?_cons_succ,ih (k+1) (by omega)];simp only[Nat.add_assoc,Nat.add_comm 1 j]
theorem Hold.keptK {wo A B:World} {K:Nat→Obj→Prop} {n:Nat} (h:Hold wo A) (hK:∀ k o,k<wo.heap.size→o.isCells=true→K k o) (hk:Kept (zab K n) A B):Hold wo B:=fun q u hq =>
 hk.cell (h q u hq) fun o ho=>.inl (hK _ o (World.block_lt_of_cell? _ _ hq) (by
  obtain ⟨o',ho',hc⟩:=cells_of_cell (h q u hq);rw[ho] at ho'
  cases ho'
  exact hc))
attribute [local go_sem] Oper.semAt_some in
theorem zim (K:Nat→Obj→Prop) (wo W0:World) (v:Value) (fs:List Fil) (hF:Fs wo v fs) (hlen:fs.length≤4000000) (hH:Hold wo W0) (B:Nat) (hB:Boxed W0 B 22 v) (hKB:∀ o:Obj,o.isCells=true→K B o) (hKw:∀ k o,k<wo.heap.size→o.isCells=true→K k o) :
  Seq Tryz.prog 152 #[.pointer (some ⟨B,0,none⟩)] (fun (x:Nat×List UInt8) av _=>av = #[.int .i64 x.1,sv x.2]) K (fun _ _=>False) (nmP 0 fs) W0:=by
 intro l J Jx hJ hJx hY h0;obtain ⟨A,c,rfl,hb1,hb2⟩:=Fs.open_ hF
 refine (callsIn_wd (ro:=none) (n:=9)).1 ?_
 refine callsIn_of_wp Tryz.func152 rfl trivial ?_ rfl
 simp only[Tryz.ntmps152,List.size_toArray,List.length_cons,List.length_nil,Nat.reduceAdd,Nat.reduceSub,Array.replicate_succ,Array.replicate_zero,List.push_toArray,List.append_toArray,List.nil_append,List.cons_append];have Hes:=zhd hF;clear hF;obtain ⟨all,hall⟩:∃ all,nmP 0 fs=all:=⟨_,rfl⟩
 rw[hall] at hY ⊢
 have HA:=zhd hall;have c1:=hB.cell;clear hall
 gi_wp2
 clear c1
 gi_loopw [7] (fun j W=>∃ (k:Nat) (pre:List (Nat×List UInt8)),j=.int .i64 k∧k≤fs.length∧Hid (all=pre++nmP k (fs.drop k))∧Hid (J pre W)∧Hold wo W∧Boxed W B 22 (.slice A fs.length c)∧W0.heap.size≤W.heap.size) (fun j _=>fs.length+1-(intOf j).toNat)
 case atStart=>exact ⟨0,[],rfl,by omega,HA.out.symm,h0,hH,hB,Nat.le_refl _⟩
 case round =>
  obtain ⟨k,pre,rfl,hkl,HP,HJ,HH,bB,hsz⟩:=hrel
  by_cases hlt:k<fs.length
  ·obtain ⟨_,b,off,rfl,hc⟩:=(Hes.out.keep HH).at_ (by omega)
   obtain ⟨hc0,B2,d2,hc1,_⟩:=hc k hlt;have hPP:=HP.out;rw[znc hlt] at hPP;have HPP:=zhd hPP;have Hno:=zhd hY;clear hc hPP hY
   generalize fs[k].2.length=m2 at *
   generalize fs[k].1=x at *
   simp only[sv] at hc0
   have hX1:Ext wr (wr.alloc (.cells #[sv x,.slice B2 m2 d2] 51)):=Ext.alloc (Ext.refl _) _
   have hJ1:=hJ pre wr (wr.alloc (.cells #[sv x,.slice B2 m2 d2] 51)) HJ.out (Moves.refl.alloc _);have hsz1:=Nat.le_trans hsz hX1.size
   have hB1:Boxed (wr.alloc (.cells #[sv x,.slice B2 m2 d2] 51)) B 22 (.slice (some ⟨b,off,none⟩) fs.length c):=bB.kept (row:=none) (Ext.grown hX1 none) (by simp)
   have hH1:Hold wo (wr.alloc (.cells #[sv x,.slice B2 m2 d2] 51)):=fun q u hq=>Ext.cell hX1 (HH q u hq)
   have hy:=Hno.out pre (k,x) _ HPP.out _ #[.int .i64 (k:Int),sv x] hJ1 hsz1 rfl;have Hy:=zhd hy;have HH1:=zhd hH1;have hbx:=Blk.new wr 51 #[sv x,.slice B2 m2 d2];have g0:=hbx.cell 0 rfl;have g1:=hbx.cell 1 rfl;clear hy hJ1 hH1 hX1 hbx
   simp only[sv] at *
   gi_wp2
   refine zbf Hy.out ?_
   rintro e W' ⟨hk',⟨rfl,hj⟩ | ⟨rfl,hj⟩⟩
   ·refine ⟨true,rfl,?_⟩
    have d1:Boxed W' B 22 (.slice (some ⟨b,off,none⟩) fs.length c):=hk'.boxed hB1 (.inl (hKB _ rfl))
    have hs':W0.heap.size≤W'.heap.size:=Nat.le_trans hsz1 hk'.size
    have HH2:=zhd (Hold.keptK HH1.out hKw hk');have HJ3:=zhd hj
    have hsp:all=(pre++[(k,x)])++nmP (k+1) (fs.drop (k+1)):=by rw[List.append_assoc];exact HPP.out
    have Hsp:=zhd hsp;clear hj hk' g0 g1 hsp Hy hc0 hc1
    gi_wp2
    exact ⟨⟨k+1,pre++[(k,x)],by go_num,by omega,Hsp.out,HJ3.out,HH2.out,d1,hs'⟩,by simp[intOf];omega⟩
   ·refine ⟨false,rfl,?_⟩
    have HJ3:=zhd hj;clear hj hk' g0 g1 hc0 hc1
    gi_wp2
    refine bodyPost_ret (results_none rfl _ _ _) rfl ?_
    refine ⟨⟨_,rfl⟩,.inr ⟨pre++[(k,x)],?_,HJ3.out⟩⟩
    exact ⟨nmP (k+1) (fs.drop (k+1)),by rw[List.append_assoc];exact HPP.out.symm⟩
  ·obtain rfl:k=fs.length:=by omega
   have hPP:=HP.out
   rw[List.drop_length,show nmP fs.length ([]:List Fil)=[] from rfl,List.append_nil] at hPP
   subst hPP;clear HP hY
   gi_wp2
   refine bodyPost_end (results_none rfl _ _ _) rfl ?_
   exact ⟨⟨_,rfl⟩,.inl HJ.out⟩
theorem zn6 (wo W0:World) (v:Value) (fs:List Fil) (hF:Fs wo v fs) (hlen:fs.length≤4000000) (hH:Hold wo W0) (B bo:Nat) (hB:Boxed W0 B 22 v) (hBo:B≠bo) (h1:wo.heap.size≤bo) :
  Seq Tryz.prog 152 #[.pointer (some ⟨B,0,none⟩)] (fun (x:Nat×List UInt8) av _=>av = #[.int .i64 x.1,sv x.2]) (fun k o=>k≠bo∧o.isCells=true) (fun _ _=>False) (nmP 0 fs) W0 :=
 zim (fun k o=>k≠bo∧o.isCells=true) wo W0 v fs hF hlen hH B hB (fun _ ho=>⟨hBo,ho⟩) (fun _ _ hk ho=>⟨by omega,ho⟩)
theorem zks (A:Option Addr) (n c:Nat) (w:World):Calls Tryz.prog 117 #[.slice A n c] w fun e w'=>e=.returned (.func (.func 152) #[] #[.pointer (some ⟨w.heap.size,0,none⟩)])∧w.alloc (.cells #[.slice A n c] 22)=w':=by
 go_enter Tryz.func117,Tryz.ntmps117
 go_wp2
 go_ret
 exact ⟨rfl,rfl⟩
def FiI (w:World) (sb:Nat) (n:List UInt8) (pre:List (Nat×List UInt8)) (X:World):Prop:=(∀ x∈pre,x.2≠n)∧(∃ v,Boxed X (w.heap.size+1) 3 v)∧Boxed X sb 9 (.string ⟨n.toArray⟩)∧Ext w X
def FiX (w:World) (n:List UInt8) (cd:Code) (pre:List (Nat×List UInt8)) (X:World):Prop:=cd=Code.ret∧∃ (pre':List (Nat×List UInt8)) (k:Nat),pre=pre'++[(k,n)]∧(∀ x∈pre',x.2≠n)∧Boxed X (w.heap.size+1) 3 (.int .i64 (k:Int))∧Ext w X
theorem zkF (k s f:Int) (w:World):Boxed ((w.alloc (.cells #[.int .u8 k,.int .i64 s,.int .i64 f] 49)).alloc (.cells #[.int .i64 0] 3)) (w.heap.size+1) 3 (.int .i64 0):=by
 have:=Boxed.new (w.alloc (.cells #[.int .u8 k,.int .i64 s,.int .i64 f] 49)) 3 (.int .i64 0)
 rwa [World.size_alloc] at this
theorem zjS (tmps:Array Value) (W:World) (b:Nat) (u:Value) (h4:tmps.getD 4 undef=.pointer (some ⟨b,0,none⟩)) (hc:W.cell? ⟨b,0,none⟩=some u) (hu:∃ n,u=.int .i64 n):(results Tryz.f106 tmps).run Tryz.prog W=.ok u W:=by
 obtain ⟨n,rfl⟩:=hu
 have h4':tmps[4]?.getD undef=.pointer (some ⟨b,0,none⟩):=by simpa using h4
 simp[results,Tryz.results106,h4',hc,go_sem]
attribute [local go_sem] Oper.semAt_some in
theorem zqQ (v:Value) (fs:List Fil) (k s f:Int) (w:World) (hS:StW w) (hF:Fs w v fs) (hn:zak k s f=none):Calls Tryz.prog 106 #[v,.agg #[.int .u8 k,.int .i64 s,.int .i64 f]] w fun e w'=>e=.returned (.int .i64 (-1))∧Ext w w':=by
 obtain ⟨A,c,rfl,h1,h2⟩:=Fs.open_ hF
 have hX:Ext w ((w.alloc (.cells #[.int .u8 k,.int .i64 s,.int .i64 f] 49)).alloc (.cells #[.int .i64 0] 3)):=Ext.alloc (Ext.alloc (Ext.refl _) _) _
 have key:=zeM k s f _ (hS.ext hX);rw[hn] at key
 have key':Calls Tryz.prog 48 #[.agg #[.int .u8 k,.int .i64 s,.int .i64 f]] ((w.alloc (.cells #[.int .u8 k,.int .i64 s,.int .i64 f] 49)).alloc (.cells #[.int .i64 0] 3)) (fun e w'=>e=.returned (.tuple #[.string ⟨#[]⟩,.int .i64 2])∧Ext ((w.alloc (.cells #[.int .u8 k,.int .i64 s,.int .i64 f] 49)).alloc (.cells #[.int .i64 0] 3)) w'):=key
 have Key:=zhd key';have q0:=zkF k s f w;clear key key' hF hS hn
 refine (callsIn_wd (ro:=none) (n:=9)).1 ?_
 refine callsIn_of_wp_marks Tryz.func106 rfl trivial ?_ rfl
 simp only[Tryz.ntmps106,List.size_toArray,List.length_cons,List.length_nil,Nat.reduceAdd,Nat.reduceSub,Array.replicate_succ,Array.replicate_zero,List.push_toArray,List.append_toArray,List.nil_append,List.cons_append]
 gi_wp2_with (refine ⟨trivial,?_⟩;gi_at_call 48;refine (callsIn_wd.2 Key.out).mono ?_;rintro e w1 ⟨rfl,hE1⟩;have q1:=(q0.kept (row:=none) (Ext.grown hE1 none) (by simp)).alloc (.cells #[.string ⟨#[]⟩] 9);have c1:=q1.cell;have f1:=q1.frozen)
 have q2:=q1.set (.int .i64 (-1))
 refine zcH (.int .i64 (-1)) (zjS _ _ _ _ rfl q2.cell ⟨_,rfl⟩) ?_
 exact ⟨rfl,Below.setCell (p:=⟨w.heap.size+1,0,none⟩) (Ext.alloc (Ext.trans hX hE1) _) (by show w.heap.size≤w.heap.size+1;omega) _⟩
attribute [local go_sem] Oper.semAt_some in
theorem zqR (v:Value) (fs:List Fil) (k s f:Int) (w:World) (hS:StW w) (hF:Fs w v fs) (hl:fs.length≤4000000) (n:List UInt8) (hn:zak k s f=some n):Calls Tryz.prog 106 #[v,.agg #[.int .u8 k,.int .i64 s,.int .i64 f]] w fun e w'=>e=.returned (.int .i64 (za5 fs n))∧Ext w w':=by
 obtain ⟨A,c,rfl,h1,h2⟩:=Fs.open_ hF
 have hX:Ext w ((w.alloc (.cells #[.int .u8 k,.int .i64 s,.int .i64 f] 49)).alloc (.cells #[.int .i64 0] 3)):=Ext.alloc (Ext.alloc (Ext.refl _) _) _
 have key:=zeM k s f _ (hS.ext hX);rw[hn] at key
 have key':Calls Tryz.prog 48 #[.agg #[.int .u8 k,.int .i64 s,.int .i64 f]] ((w.alloc (.cells #[.int .u8 k,.int .i64 s,.int .i64 f] 49)).alloc (.cells #[.int .i64 0] 3)) (fun e w'=>e=.returned (.tuple #[.string ⟨n.toArray⟩,.int .i64 0])∧Ext ((w.alloc (.cells #[.int .u8 k,.int .i64 s,.int .i64 f] 49)).alloc (.cells #[.int .i64 0] 3)) w'):=key
 have Key:=zhd key';have q0:=zkF k s f w;have HF:=zhd hF;clear key key' hF hS hn
 refine (callsIn_wd (ro:=none) (n:=9)).1 ?_
 refine callsIn_of_wp_marks Tryz.func106 rfl trivial ?_ rfl
 simp only[Tryz.ntmps106,List.size_toArray,List.length_cons,List.length_nil,Nat.reduceAdd,Nat.reduceSub,Array.replicate_succ,Array.replicate_zero,List.push_toArray,List.append_toArray,List.nil_append,List.cons_append]
 gi_wp2_with (first
  | (refine ⟨trivial,?_⟩;gi_at_call 48;refine (callsIn_wd.2 Key.out).mono ?_;rintro e w1 ⟨rfl,hE1⟩;have q1:=(q0.kept (row:=none) (Ext.grown hE1 none) (by simp)).alloc (.cells #[.string ⟨n.toArray⟩] 9);have c1:=q1.cell;have f1:=q1.frozen)
  | (refine ⟨trivial,?_⟩;gi_at_call 117;refine (callsIn_wd.2 (zks _ _ _ _)).mono ?_;rintro e w' ⟨rfl,rfl⟩))
 have hsz1:w.heap.size+2≤w1.heap.size:=by have:=hE1.size;simp at this;omega
 have q3:Boxed ((w1.alloc (.cells #[.string ⟨n.toArray⟩] 9)).alloc (.cells #[.slice A fs.length c] 22)) (w1.heap.size+1) 22 (.slice A fs.length c):=by
  have:=Boxed.new (w1.alloc (.cells #[.string ⟨n.toArray⟩] 9)) 22 (.slice A fs.length c)
  rwa [World.size_alloc] at this
 have hE3:Ext w ((w1.alloc (.cells #[.string ⟨n.toArray⟩] 9)).alloc (.cells #[.slice A fs.length c] 22)):=Ext.alloc (Ext.alloc (Ext.trans hX hE1) _) _
 have h0:FiI w w1.heap.size n [] ((w1.alloc (.cells #[.string ⟨n.toArray⟩] 9)).alloc (.cells #[.slice A fs.length c] 22)):=⟨fun x h=>(by cases h),⟨_,q1.alloc _⟩,(Boxed.new w1 _ _).alloc _,hE3⟩
 have hs3:w1.heap.size+2=((w1.alloc (.cells #[.string ⟨n.toArray⟩] 9)).alloc (.cells #[.slice A fs.length c] 22)).heap.size:=by simp
 generalize (w1.alloc (.cells #[.string ⟨n.toArray⟩] 9)).alloc (.cells #[.slice A fs.length c] 22)=w3 at *
 clear c1 f1 q1
 refine zbO (a:=⟨_,_⟩) rfl (enters_of Tryz.func152 (by kernel_rfl) rfl)
  (fun W1 hb hs=>zn6 w W1 _ fs HF.out hl (fun q u hq=>Ext.cell (Ext.trans hE3 hb) hq) (w1.heap.size+1) (w.heap.size+1) (q3.kept (row:=none) (Ext.grown hb none) (by simp)) (by omega) (by omega))
  (fun k o h=>h.elim) (fun k o h=>h.2) (fun x av W h=>by rw[h];rfl)
  (FiI w w1.heap.size n) (FiX w n) ?hI ?hIx h0
  (fun x a' _=>a'=⟨#[.slice A fs.length c,.agg #[.int .u8 k,.int .i64 s,.int .i64 f],undef,.pointer (some ⟨w.heap.size,0,none⟩),.pointer (some ⟨w.heap.size+1,0,none⟩),.pointer (some ⟨w1.heap.size,0,none⟩),.int .i64 0,.int .i64 x.1,sv x.2,
    .tuple #[.string ⟨n.toArray⟩,.int .i64 0],.agg #[.int .u8 k,.int .i64 s,.int .i64 f],.tuple #[.string ⟨n.toArray⟩,.int .i64 0],.string ⟨n.toArray⟩,.int .i64 0,.int .i64 0,.bool false,.slice A fs.length c,
    .func (.func 152) #[] #[.pointer (some ⟨w1.heap.size+1,0,none⟩)],.int .i64 x.1,sv x.2,undef,undef,undef,undef],[]⟩)
  (fun _ _ _ _ h _=>h) ?assign ?body ?done ?stop
 case hI =>
  rintro s X Y ⟨hne,⟨v,hv⟩,hs,hE⟩ hm
  refine ⟨hne,⟨v,hm.boxed hv ?_⟩,hm.boxed hs ?_,hm.belowOf hE ?_ (Nat.le_trans (by omega) (Nat.le_refl _))⟩
  ·rintro (h | h)
   ·exact h
   ·cases h.2
  ·rintro (h | h)
   ·exact h
   ·cases h.2
  ·rintro k o hk (h | h)
   ·exact h
   ·have:=h.1;omega
 case hIx =>
  rintro cd s X Y ⟨rfl,pre',j,rfl,hne,hv,hE⟩ hm
  refine ⟨rfl,pre',j,rfl,hne,hm.boxed hv ?_,hm.belowOf hE ?_ (Nat.le_refl _)⟩
  ·rintro (h | h)
   ·exact h
   ·cases h.2
  ·rintro k o hk (h | h)
   ·exact h
   ·have:=h.1;omega
 case assign =>
  rintro l' pre x post W av K' hx hi hsz rfl hK
  gi_wp2
  exact hK _ _ Kept.refl hi rfl
 case body =>
  rintro l' pre ⟨j,x⟩ post a' W hx hl' hr ⟨hne,⟨v,hv⟩,hs,hE⟩ hsz rfl;have hc:=hv.cell;have hf:=hv.frozen;have hcs:=hs.cell;simp only[sv]
  by_cases he:x=n
  ·have heq:(x==n)=true:=by simpa using he
   have He:=zhd he;clear he
   gi_wp2
   refine ⟨Kept.refl.setCell (fun o ho _=>?_) _,rfl,pre,j,by rw[He.out],hne,hv.set _,Below.setCell (p:=⟨w.heap.size+1,0,none⟩) hE (by show w.heap.size≤w.heap.size+1;omega) _⟩
   rw[show W.heap[w.heap.size+1]?=_ from hv] at ho;cases ho
   rintro (⟨h,_⟩ | ⟨_,h⟩)
   ·exact h rfl
   ·cases h
  ·have heq:(x==n)=false:=by simpa using he
   have He:=zhd he;clear he
   gi_wp2
   refine ⟨Kept.refl,fun y hy=>?_,⟨v,hv⟩,hs,hE⟩
   rcases List.mem_append.1 hy with h | h
   ·exact hne y h
   ·rcases List.mem_singleton.1 h with rfl
    exact He.out
 case done =>
  rintro D W hD ⟨hne,⟨v,hv⟩,hs,hE⟩ hK;have hc:=hv.cell;have hf:=hv.frozen
  gi_wp2
  have hv2:=hv.set (.int .i64 (-1));have hK2:=zaC hK rfl ⟨w.heap.size+1,0,none⟩ (.int .i64 (-1));have hcd:=zci hv2.cell hK2 rfl (.deferred none)
  refine zbg hK2 (.int .i64 (-1)) (zjS _ _ _ _ rfl hcd ⟨_,rfl⟩) ?_
  refine ⟨?_,zar (Below.setCell (p:=⟨w.heap.size+1,0,none⟩) hE (by show w.heap.size≤w.heap.size+1;omega) _) (by omega) _⟩
  rw[zhJ];intro q hq he
  refine hne (q,fs[q].1) ?_ he
  have:=zpc (fs:=fs) 0 q (by omega)
  simp only[Nat.zero_add,List.drop_zero] at this
  exact List.mem_of_getElem? this
 case stop =>
  rintro D cd pre W hD hpre ⟨rfl,pre',j,rfl,hne,hv,hE⟩ hK;have hcd:=zci hv.cell hK rfl (.deferred none)
  gi_wp2
  refine zbg hK (.int .i64 (j:Int)) (zjS _ _ _ _ rfl hcd ⟨_,rfl⟩) ?_
  refine ⟨?_,zar hE (by omega) _⟩
  obtain ⟨post,hpost⟩:=hpre
  have hall:∀ q,(hq:q<fs.length)→(nmP 0 fs)[q]?=some (q,fs[q].1):=fun q hq=>by
   have:=zpc (fs:=fs) 0 q (by omega)
   simpa only[Nat.zero_add,List.drop_zero] using this
  have hlt:pre'.length<fs.length:=by
   have:=congrArg List.length hpost
   rw[zpd] at this
   simp at this;omega
  have h9:=hall pre'.length hlt;rw[←hpost,List.append_assoc,List.getElem?_append_right (Nat.le_refl _),Nat.sub_self] at h9
  have h8:(j,n)=(pre'.length,fs[pre'.length].1):=Option.some.inj h9
  injection h8 with h7 h6
  rw[h7,zj5 hlt h6.symm];intro q hq h2 he;have h5:=hall q h2;rw[←hpost,List.append_assoc,List.getElem?_append_left hq] at h5
  exact hne _ (List.mem_of_getElem? h5) he
theorem zsX (v:Value) (fs:List Fil) (k s f:Int) (w:World) (hS:StW w) (hF:Fs w v fs) (hl:fs.length≤4000000):Calls Tryz.prog 106 #[v,.agg #[.int .u8 k,.int .i64 s,.int .i64 f]] w fun e w'=>e=.returned (.int .i64 (zbS fs (zak k s f)))∧Ext w w':=by
 cases hn:zak k s f with
 | none=>exact zqQ v fs k s f w hS hF hn
 | some n=>exact zqR v fs k s f w hS hF hl n hn
def zax (fs:List Fil) (r:Option (List UInt8)):Option (List UInt8):=if zbS fs r<0 then none else (fs[(zbS fs r).toNat]?).map (·.2)
theorem zjR (fs:List Fil) (r:Option (List UInt8)) (h:¬ zbS fs r<0):∃ i:Nat,zbS fs r=(i:Int)∧i<fs.length:=by
 unfold zbS at h ⊢
 cases r with
 | none=>exact absurd (show ((-1:Int)<0) by decide) h
 | some n =>
  dsimp only at h ⊢
  unfold za5 at h ⊢
  cases hf:fs.findIdx? (fun f=>f.1==n) with
  | none=>rw[hf] at h;exact absurd (show ((-1:Int)<0) by decide) h
  | some i =>
   refine ⟨i,rfl,?_⟩
   rw[List.findIdx?_eq_some_iff_getElem] at hf
   exact hf.1
def zbW (n:Nat) (count:Int):Bool:=(decide (count = -1)&&(decide (n<1)||decide (4<n)))||(decide (count≠-1)&&decide ((n:Int)≠count))
def zaz (fs:List Fil) (s:Sg4):Option (List Ent):=match zax fs (zak 3 s.seq s.fmt) with
 | none=>none
 | some b=>if (zcj rT b s.fmt).err≠0 then none else if (zcj rT b s.fmt).first≠s.first then none else if zbW (zcj rT b s.fmt).log.length s.count=true then none else some (zcj rT b s.fmt).log
theorem zpK {fs:List Fil} {r:Option (List UInt8)} {b:List UInt8} (h:zax fs r=some b):∃ f∈fs,f.2=b:=by
 unfold zax at h
 split at h
 ·cases h
 ·cases hg:fs[(zbS fs r).toNat]? with
  | none=>rw[hg] at h;cases h
  | some f =>
   rw[hg] at h
   obtain rfl:f.2=b:=by simpa using h
   obtain ⟨hi,rfl⟩:=List.getElem?_eq_some_iff.1 hg
   exact ⟨_,List.getElem_mem hi,rfl⟩
end Go.Proofs.YtgonhdeochgkoaaGreatDoor

namespace Go.Mv
open Go.RowKit
section
variable {n:Nat} {P:Program} {ops:Array Oper} {Q:Exit→Act→World→Prop} {md:Region.Mode} {S:World→Prop}
def NoH (Q:Exit→Act→World→Prop) (df:List Deferred) (Pn:List PanicEntry→World→Prop):Exit→Act→World→Prop
 | .normal,a,w=>Q .normal a w
 | .panic c,a,w=>a.defers=df∧Pn c w
 | _,_,_=>False
theorem zfM {df:List Deferred} {Pn:List PanicEntry→World→Prop} {a:Act} {w:World} (h:Q .normal a w):NoH Q df Pn .normal a w:=h
theorem zuj {df:List Deferred} {Pn:List PanicEntry→World→Prop} {i:Nat} {K:Act→World→Prop} {a:Act} {w:World} (h:wpOp P ops (NoH Q df Pn) i K a w):wpOpIn (Wd none) n P ops (NoH Q df Pn) i K a w:=by
 unfold wpOp at h;unfold wpOpIn
 cases ho:ops[i]? with
 | none=>rw[ho] at h;exact h
 | some o =>
  rw[ho] at h
  dsimp only at h ⊢
  split
  ·rename_i hw
   rw[if_pos hw] at h
   rcases h with h | ⟨_,_,_,h⟩
   ·refine ⟨fun _ _=>trivial,?_⟩
    rw[show (Wd none).round=none from rfl,Oper.semAt_none]
    exact zpl h
   ·exact h.elim
  ·rename_i hw
   rw[if_neg hw] at h
   exact ⟨fun _ _=>trivial,h⟩
theorem zl9 {df:List Deferred} {Pn:List PanicEntry→World→Prop}:∀ (fuel:Nat) (listed:Array Bool) (a:Act) (w:World),wpAny P md ops (NoH Q df Pn) fuel listed a w→wpAnyIn (Wd none) n P md ops (NoH Q df Pn) fuel listed a w
 | 0,_,_,_,h=>h
 | fuel+1,listed,a,w,h=>⟨h.1,fun i hi=>wpOpIn_mono (fun a w=>zl9 fuel _ a w) (zuj (h.2 i hi))⟩
theorem zdn {id:Nat} {a:Act} {w:World} (df:List Deferred) (Pn:List PanicEntry→World→Prop) (hp:∀ c a w,a.defers=df→Pn c w→Q (.panic c) a w) (hm:P.follows .mixedOrders=true) (hS:S w.drew)
  (h:S w.drew→wpAnyH P .any ops (NoH Q df Pn) S ops.size (Array.replicate ops.size false) a w.drew):(Code.region id ops true).wpIn (Wd none) n P Q a w :=
 wpIn_mono (wpIn_region_any hm (zl9 _ _ _ _ (wpAny_of_held _ _ _ _ (h hS)))) fun e a w h=>by
  cases e <;> first | exact h | exact hp _ _ _ h.1 h.2 | exact h.elim
end
end Go.Mv
namespace Go.Proofs.YtgonhdeochgkoaaGreatDoor
open Go.RowKit Go.Mv
abbrev HC (A B:World):Prop:=Kept (fun _ o=>o.isCells=true) A B
theorem HC.of_ext {A B:World} (h:Ext A B):HC A B:=⟨h.size,fun k _ hk _=>(h.block k (Array.getElem?_eq_some_iff.1 hk).1).trans hk⟩
theorem HC.keptG {w0 W W':World} {G:Nat→Prop} {n:Nat} (h:HC w0 W) (hk:Kept (zab (KG G) n) W W') (hG:∀ k,G k→w0.heap.size≤k):HC w0 W' :=
 ⟨Nat.le_trans h.size hk.size,fun k o h1 h2=>hk.same k o (h.same k o h1 h2) (.inl ⟨h2,fun hg=>by
   have:=hG k hg
   have:=(Array.getElem?_eq_some_iff.1 h1).1
   omega⟩)⟩
theorem HC.cell {A B:World} {p:Addr} {u:Value} (h:HC A B) (hc:A.cell? p=some u):B.cell? p=some u:=by
 obtain ⟨o,ho,hcells⟩:=cells_of_cell hc
 exact Kept.cell h hc (fun o' ho'=>by rw[ho] at ho';cases ho';exact hcells)
theorem Fs.hc {A B:World} {v:Value} {fs:List Fil} (h:Fs A v fs) (hk:HC A B):Fs B v fs:=by
 obtain ⟨vs,h1,h2⟩:=h
 refine ⟨vs,h1.keep fun _ _ hc=>hk.cell hc,fun i hi=>?_⟩
 obtain ⟨h3,u,h4,h5⟩:=h2 i hi
 exact ⟨h3,u,h4,SlR.keep h5 fun _ _ hc=>hk.cell hc⟩
theorem Sgs.hc {A B:World} {v:Value} {l:List Sg4} (h:Sgs A v l) (hk:HC A B):Sgs B v l:=h.keep fun _ _ hc=>hk.cell hc
theorem StW.hc {A B:World} (h:StW A) (hk:HC A B):StW B:=by
 refine ⟨fun i hi=>hk.cell (h.tab i hi),?_⟩
 have h:=h.pow
 unfold Lib.TabIs World.var? at *
 cases hg:(Tryz.prog).globalNamed "internal/strconv.uint64pow10" with
 | none=>simp[hg] at h
 | some g =>
  simp only[hg,Option.bind_some] at h ⊢
  cases ho:A.heap[g]? with
  | none=>simp[ho] at h
  | some o =>
   cases o with
   | cells cs t d=>rw[hk.same g _ ho rfl];simp only[ho] at h;exact h
   | _=>simp[ho] at h
theorem Blk.keptG {A B:World} {b n:Nat} {t:TypeId} {cs:Array Value} {G:Nat→Prop} (h:Blk A b t cs) (hk:Kept (zab (KG G) n) A B) (hG:¬ G b):Blk B b t cs:=hk.same b _ h (.inl ⟨rfl,hG⟩)
theorem OwnE.keptG {A B:World} {base n:Nat} {v:Value} {l:List Ent} {G:Nat→Prop} (h:OwnE A base v l) (hk:Kept (zab (KG G) n) A B) (hG:∀ q,v.ownBlock=some q→¬ G q):OwnE B base v l:=by
 refine ⟨h.1,?_⟩
 rcases h.2 with hn | ⟨g,cap,cur,e,hb,hgg,rest⟩
 ·exact .inl hn
 ·exact .inr ⟨g,cap,cur,e,hb,hk.same _ _ hgg (.inl ⟨rfl,hG g (by rw[e];rfl)⟩),rest⟩
theorem Moves.of_ext {M:Nat→Obj→Prop} {A B:World} (h:Ext A B):Moves M A B:=⟨h.os,h.tape,h.output,h.size,fun k _ hk _=>(h.block k (Array.getElem?_eq_some_iff.1 hk).1).trans hk⟩
theorem zt4:Tryz.prog.underlying 27=some (.struct (Tryz.prog.fieldsOf 27)):=by kernel_rfl
theorem zvh:Tryz.prog.stoodInHeld 27=false:=by kernel_rfl
theorem zsm (a b c d:Int) (W:World):(Op.equalIn 10000 27 (.agg #[.int .i64 a,.int .i64 b]) (.agg #[.int .i64 c,.int .i64 d])).run Tryz.prog W=.ok (decide (a=c∧b=d)) W:=by
 have e:decide (a=c∧b=d)=(a==c&&b==d):=by
  rw[Bool.eq_iff_iff]
  simp
 rw[run_equalIn_struct W 9999 27 _ _ zt4 zvh,e]
 cases h0:(a==c) <;> cases h1:(b==d) <;> simp[go_sem,h0,h1]
theorem zeT {n s f:Int} (h:zbD n s f=true):1≤s∧s≤n-1∧(f=1∨f=2):=by simpa [zbD] using h
theorem inB_b {n a b:Int}:inB n a b=true↔(a≤n∧n≤b):=by simp[inB]
theorem zgY {m:Mf} {i:Nat} {s:Sg4} (h:zbz m i s=true):zbD m.next s.seq s.fmt=true∧s.seq≠m.sq∧(1≤s.first∧s.first≤1073741820)∧(∀ t∈m.segs.take i,t.seq≠s.seq)∧((1≤s.count∧s.count≤4)∨(s.count = -1∧i+1=m.segs.length)):=by
 unfold zbz at h;simp only[Bool.and_eq_true,Bool.or_eq_true,decide_eq_true_eq,List.all_eq_true,inB_b] at h;obtain ⟨⟨⟨⟨⟨h1,h2⟩,h3⟩,h4⟩,_⟩,h5⟩:=h
 exact ⟨h1,h2,h3,h4,h5⟩
theorem zhR {m:Mf}:∀ {k:Nat},zbH m k=true→∀ i,i<k→∃ s,m.segs[i]?=some s∧zbz m i s=true
 | 0,_,i,hi=>by omega
 | k+1,h,i,hi=>by
  unfold zbH at h;rw[Bool.and_eq_true] at h
  by_cases e:i=k
  ·subst e
   have h2:=h.2
   cases hs:m.segs[i]? with
   | none=>rw[hs] at h2;cases h2
   | some s=>rw[hs] at h2;exact ⟨s,rfl,h2⟩
  ·exact zhR h.1 i (by omega)
theorem zgG {m:Mf} {k:Nat} (h:zbH m k=true):∀ t∈m.segs.take k,1≤t.first∧t.first≤1073741820∧-1≤t.count∧t.count≤4:=by
 intro t ht;obtain ⟨q,hq,rfl⟩:=List.mem_take_iff_getElem.1 ht;obtain ⟨s,hs,ho⟩:=zhR h q (by omega);rw[List.getElem?_eq_getElem (by omega)] at hs
 cases hs
 obtain ⟨_,_,h3,_,h5⟩:=zgY ho;omega
theorem zfQ {m:Mf} {i:Nat} (hi:i<m.segs.length) (h:zbz m i m.segs[i]=false):∀ k,i<k→zbH m k=false:=by
 intro k hk;rw[Bool.eq_false_iff];intro ht;obtain ⟨s,hs,ho⟩:=zhR ht i hk;rw[List.getElem?_eq_getElem hi] at hs
 cases hs
 rw[h] at ho;cases ho
end Go.Proofs.YtgonhdeochgkoaaGreatDoor
