/- Merged: Itoa Name Man1 -/
import Derived.Test.YtgonhdeochgkoaaGreatDoorStoreReads13
import Derived.Shelf.Small.Bits
import Derived.Shelf.Strconv.Itoa0
import Derived.Shelf.Strconv.Itoa1
import Derived.Shelf.LaysM
import Derived.Shelf.Strconv.Itoa2
import Derived.Shelf.Strconv.Itoa3
import Derived.Test.YtgonhdeochgkoaaGreatDoorProg
import Derived.Deep.RegionHeld3
import Derived.Lib.ItoaNum
import Derived.Lib.ItoaLen
import Derived.Lib.AppendIntMem
import Derived.Deep.QuietTactic
import Derived.BigQuiet
set_option linter.all false
set_option maxHeartbeats 8000000
set_option maxRecDepth 100000
namespace Go.Proofs
open Go.Shelf
open Go.Lib in
open Go.Lib in
open Go.Lib in
open Go.Lib in
open Go.RowKit Go.Sort Go.Lib in
def Tryz.laysM246_ren:Go.Shelf.Ren:=⟨fun | 246=>160 | 283=>182 | 284=>183 | 285=>184 | 286=>185 | 129=>221 | 317=>226 | 318=>227 | 319=>228 | 320=>229 | 337=>244 | 338=>245 | n=>n,fun | 2=>2 | 3=>3 | 9=>9 | 4=>4 | 171=>233 | 0=>0 | 53=>234 | 37=>38 | 5=>5 | 173=>237 | 212=>264 | 51=>142 | 20=>20 | 213=>265 | 46=>179 | 232=>286 | 233=>287 | n=>n,fun | 17=>0 | 18=>2 | 19=>3 | n=>n⟩
open Go.RowKit Go.Sort Go.Lib in
open Go.RowKit Go.Sort Go.Lib in
def Tryz.laysM243_ren:Go.Shelf.Ren:=⟨fun | 243=>123 | 246=>160 | 283=>182 | 284=>183 | 285=>184 | 286=>185 | 129=>221 | 317=>226 | 318=>227 | 319=>228 | 320=>229 | 337=>244 | 338=>245 | n=>n,fun | 3=>3 | 9=>9 | 2=>2 | 4=>4 | 171=>233 | 0=>0 | 53=>234 | 37=>38 | 5=>5 | 173=>237 | 212=>264 | 51=>142 | 20=>20 | 213=>265 | 46=>179 | 232=>286 | 233=>287 | n=>n,fun | 17=>0 | 18=>2 | 19=>3 | n=>n⟩
open Go.RowKit Go.Sort Go.Lib in
open Go.RowKit Go.Sort Go.Lib in
def Tryz.laysM171_ren:Go.Shelf.Ren:=⟨fun | 171=>80 | 243=>123 | 246=>160 | 283=>182 | 284=>183 | 285=>184 | 286=>185 | 129=>221 | 317=>226 | 318=>227 | 319=>228 | 320=>229 | 337=>244 | 338=>245 | n=>n,fun | 3=>3 | 9=>9 | 2=>2 | 4=>4 | 171=>233 | 0=>0 | 53=>234 | 37=>38 | 5=>5 | 173=>237 | 212=>264 | 51=>142 | 20=>20 | 213=>265 | 46=>179 | 232=>286 | 233=>287 | n=>n,fun | 17=>0 | 18=>2 | 19=>3 | n=>n⟩
theorem Tryz.laysM171:Go.Proofs.LaysM.n171 Tryz.prog Tryz.laysM171_ren:={
 mixed:=by kernel_rfl
 f129:=Tryz.func221.trans (congrArg some (by kernel_rfl))
 f171:=Tryz.func80.trans (congrArg some (by kernel_rfl))
 f243:=Tryz.func123.trans (congrArg some (by kernel_rfl))
 f246:=Tryz.func160.trans (congrArg some (by kernel_rfl))
 f283:=Tryz.func182.trans (congrArg some (by kernel_rfl))
 f284:=Tryz.func183.trans (congrArg some (by kernel_rfl))
 f285:=Tryz.func184.trans (congrArg some (by kernel_rfl))
 f286:=Tryz.func185.trans (congrArg some (by kernel_rfl))
 f317:=Tryz.func226.trans (congrArg some (by kernel_rfl))
 f318:=Tryz.func227.trans (congrArg some (by kernel_rfl))
 f319:=Tryz.func228.trans (congrArg some (by kernel_rfl))
 f320:=Tryz.func229.trans (congrArg some (by kernel_rfl))
 f337:=Tryz.func244.trans (congrArg some (by kernel_rfl))
 f338:=Tryz.func245.trans (congrArg some (by kernel_rfl))
 t0:=Tryz.underlying0
 a0:=Tryz.isAgg0
 z0:=Tryz.sizeOf0
 v0:=Tryz.zeroValue0
 t2:=Tryz.underlying2
 a2:=Tryz.isAgg2
 z2:=Tryz.sizeOf2
 v2:=Tryz.zeroValue2
 t3:=Tryz.underlying3
 a3:=Tryz.isAgg3
 z3:=Tryz.sizeOf3
 v3:=Tryz.zeroValue3
 t4:=Tryz.underlying4
 a4:=Tryz.isAgg4
 z4:=Tryz.sizeOf4
 v4:=Tryz.zeroValue4
 t5:=Tryz.underlying5
 a5:=Tryz.isAgg5
 z5:=Tryz.sizeOf5
 v5:=Tryz.zeroValue5
 t9:=Tryz.underlying9
 a9:=Tryz.isAgg9
 z9:=Tryz.sizeOf9
 v9:=Tryz.zeroValue9
 t20:=Tryz.underlying20
 a20:=Tryz.isAgg20
 z20:=Tryz.sizeOf20
 v20:=Tryz.zeroValue20
 t37:=Tryz.underlying38
 a37:=Tryz.isAgg38
 z37:=Tryz.sizeOf38
 v37:=Tryz.zeroValue38
 t46:=Tryz.underlying179
 a46:=Tryz.isAgg179
 z46:=Tryz.sizeOf179
 v46:=Tryz.zeroValue179
 t51:=Tryz.underlying142
 a51:=Tryz.isAgg142
 z51:=Tryz.sizeOf142
 v51:=Tryz.zeroValue142
 t53:=Tryz.underlying234
 a53:=Tryz.isAgg234
 z53:=Tryz.sizeOf234
 v53:=Tryz.zeroValue234
 t171:=Tryz.underlying233
 a171:=Tryz.isAgg233
 z171:=Tryz.sizeOf233
 v171:=Tryz.zeroValue233
 t173:=Tryz.underlying237
 a173:=Tryz.isAgg237
 z173:=Tryz.sizeOf237
 v173:=Tryz.zeroValue237
 t212:=Tryz.underlying264
 a212:=Tryz.isAgg264
 z212:=Tryz.sizeOf264
 v212:=Tryz.zeroValue264
 t213:=Tryz.underlying265
 a213:=Tryz.isAgg265
 z213:=Tryz.sizeOf265
 t232:=Tryz.underlying286
 a232:=Tryz.isAgg286
 z232:=Tryz.sizeOf286
 v232:=Tryz.zeroValue286
 t233:=Tryz.underlying287
 a233:=Tryz.isAgg287
 z233:=Tryz.sizeOf287
 v233:=Tryz.zeroValue287
 g17:=by kernel_rfl
 g18:=by kernel_rfl
 g19:=by kernel_rfl
 i0:=by kernel_rfl
 i2:=by kernel_rfl
 i3:=by kernel_rfl
 i4:=by kernel_rfl
 i5:=by kernel_rfl
 i9:=by kernel_rfl
 i20:=by kernel_rfl
 i37:=by kernel_rfl
 i46:=by kernel_rfl
 i51:=by kernel_rfl
 i53:=by kernel_rfl
 i171:=by kernel_rfl
 i173:=by kernel_rfl
 i212:=by kernel_rfl
 i232:=by kernel_rfl
 i233:=by kernel_rfl
 m17:=by kernel_rfl
 m18:=by kernel_rfl
 m19:=by kernel_rfl }
open Go.RowKit Go.Sort Go.Lib in
theorem Tryz.strconv_Itoa (n:Int) (h0:-9223372036854775808≤n) (h1:n≤9223372036854775807) (w:World) (htab:Lib.TabIs Tryz.prog w "internal/strconv.uint64pow10" .u64 Lib.pow10Tab) :
  Calls Tryz.prog 80 #[.int .i64 n] w fun e w'=>e=.returned (.string ⟨(Lib.itoa n).toArray⟩)∧∃ k os,w'=grow (w.drewN k) os:=Any.strconv_Itoa Tryz.laysM171 n h0 h1 w htab
def Tryz.lays171_ren:Go.Shelf.Ren:=⟨fun | 171=>80 | 243=>123 | 246=>160 | 283=>182 | 284=>183 | 285=>184 | 286=>185 | 129=>221 | 317=>226 | 318=>227 | 319=>228 | 320=>229 | 337=>244 | 338=>245 | n=>n,fun | 3=>3 | 9=>9 | 2=>2 | 4=>4 | 171=>233 | 0=>0 | 53=>234 | 37=>38 | 5=>5 | 173=>237 | 212=>264 | 51=>142 | 20=>20 | 213=>265 | 46=>179 | 232=>286 | 233=>287 | n=>n,fun | 17=>0 | 18=>2 | 19=>3 | n=>n⟩
theorem Tryz.lays171:Go.Proofs.Lays.n171 Tryz.prog Tryz.lays171_ren:={
 mixed:=by kernel_rfl
 f129:=Tryz.func221.trans (congrArg some (by kernel_rfl))
 f171:=Tryz.func80.trans (congrArg some (by kernel_rfl))
 f243:=Tryz.func123.trans (congrArg some (by kernel_rfl))
 f246:=Tryz.func160.trans (congrArg some (by kernel_rfl))
 f283:=Tryz.func182.trans (congrArg some (by kernel_rfl))
 f284:=Tryz.func183.trans (congrArg some (by kernel_rfl))
 f285:=Tryz.func184.trans (congrArg some (by kernel_rfl))
 f286:=Tryz.func185.trans (congrArg some (by kernel_rfl))
 f317:=Tryz.func226.trans (congrArg some (by kernel_rfl))
 f318:=Tryz.func227.trans (congrArg some (by kernel_rfl))
 f319:=Tryz.func228.trans (congrArg some (by kernel_rfl))
 f320:=Tryz.func229.trans (congrArg some (by kernel_rfl))
 f337:=Tryz.func244.trans (congrArg some (by kernel_rfl))
 f338:=Tryz.func245.trans (congrArg some (by kernel_rfl))
 t0:=Tryz.underlying0
 a0:=Tryz.isAgg0
 z0:=Tryz.sizeOf0
 v0:=Tryz.zeroValue0
 t2:=Tryz.underlying2
 a2:=Tryz.isAgg2
 z2:=Tryz.sizeOf2
 v2:=Tryz.zeroValue2
 t3:=Tryz.underlying3
 a3:=Tryz.isAgg3
 z3:=Tryz.sizeOf3
 v3:=Tryz.zeroValue3
 t4:=Tryz.underlying4
 a4:=Tryz.isAgg4
 z4:=Tryz.sizeOf4
 v4:=Tryz.zeroValue4
 t5:=Tryz.underlying5
 a5:=Tryz.isAgg5
 z5:=Tryz.sizeOf5
 v5:=Tryz.zeroValue5
 t9:=Tryz.underlying9
 a9:=Tryz.isAgg9
 z9:=Tryz.sizeOf9
 v9:=Tryz.zeroValue9
 t20:=Tryz.underlying20
 a20:=Tryz.isAgg20
 z20:=Tryz.sizeOf20
 v20:=Tryz.zeroValue20
 t37:=Tryz.underlying38
 a37:=Tryz.isAgg38
 z37:=Tryz.sizeOf38
 v37:=Tryz.zeroValue38
 t46:=Tryz.underlying179
 a46:=Tryz.isAgg179
 z46:=Tryz.sizeOf179
 v46:=Tryz.zeroValue179
 t51:=Tryz.underlying142
 a51:=Tryz.isAgg142
 z51:=Tryz.sizeOf142
 v51:=Tryz.zeroValue142
 t53:=Tryz.underlying234
 a53:=Tryz.isAgg234
 z53:=Tryz.sizeOf234
 v53:=Tryz.zeroValue234
 t171:=Tryz.underlying233
 a171:=Tryz.isAgg233
 z171:=Tryz.sizeOf233
 v171:=Tryz.zeroValue233
 t173:=Tryz.underlying237
 a173:=Tryz.isAgg237
 z173:=Tryz.sizeOf237
 v173:=Tryz.zeroValue237
 t212:=Tryz.underlying264
 a212:=Tryz.isAgg264
 z212:=Tryz.sizeOf264
 v212:=Tryz.zeroValue264
 t213:=Tryz.underlying265
 a213:=Tryz.isAgg265
 z213:=Tryz.sizeOf265
 t232:=Tryz.underlying286
 a232:=Tryz.isAgg286
 z232:=Tryz.sizeOf286
 v232:=Tryz.zeroValue286
 t233:=Tryz.underlying287
 a233:=Tryz.isAgg287
 z233:=Tryz.sizeOf287
 v233:=Tryz.zeroValue287
 g17:=by kernel_rfl
 g18:=by kernel_rfl
 g19:=by kernel_rfl }
open Go.RowKit Go.Sort Go.Lib in
theorem Tryz.strconv_Itoa_small (i:Nat) (hi:i<100) (w:World) :
  Calls Tryz.prog 80 #[.int .i64 i] w fun e w'=>e=.returned (.string ⟨(Lib.decDigits i).toArray⟩)∧w'=w:=Any.strconv_Itoa_small Tryz.lays171 i hi w
end Go.Proofs

namespace Go.Proofs.YtgonhdeochgkoaaGreatDoor
open Go.RowKit Go.Mv
theorem mcName0 {P:Prop} (h:P:=by
 obtain ⟨hs0,hs1,hf⟩:=hz
 have hls:=zer s hs0 hs1
 have hlf:=zer f (by omega) (by omega)
 have ho1:=fun W=>zjT s (by omega) hs1 W
 have ho2:=fun W=>zgs f hf W
 generalize zbK s=ns at *
 generalize zbK f=nf at *
 have O1:=zhd ho1
 have O2:=zhd ho2
 have HR2:=zhd hR
 have c1:¬ (9223372036854775807<1+ns.length):=by omega
 have c2:¬ (9223372036854775807<1+ns.length+1):=by omega
 have c3:¬ (9223372036854775807<1+ns.length+1+nf.length):=by omega
 have d1:¬ (s<1):=by omega
 have d2:¬ (1073741824<s):=by omega
 have d3:¬ (f<1):=by omega
 have d4:¬ (2<f):=by omega
 clear ho1 ho2 HR hR
 obtain ⟨g0,g1,g2⟩:=zc8 hb
 go_wp2_with fail
 go_region_held3 (fun w'=>w'.cell? ⟨w.heap.size,1,none⟩=some (.int .i64 s)∧w'.cell? ⟨w.heap.size,2,none⟩=some (.int .i64 f)) (first | go_keep | (refine ⟨?_,?_⟩ <;> assumption))
  (first
    | (go_at_call 80;refine (O1.out _ (HS.out.ext (Ext.drew (Ext.drew hX)))).mono ?_;rintro e w2 ⟨rfl,hE2⟩;obtain ⟨_,k1,k2⟩:=zc8 (hb.ext (Ext.trans (Ext.drew (Ext.drew (Ext.refl _))) hE2)))
    | (go_at_call 80;refine (O2.out _).mono ?_;rintro e w3 ⟨rfl,rfl⟩))
 go_wp2_with fail
 go_ret2
 refine ⟨?_,Ext.trans hX (Ext.trans (Ext.drew (Ext.drew (Ext.refl _))) hE2)⟩
 rw[HR2.out,zoT]
 rfl):P:=h
theorem mcName1 {P:Prop} (h:P:=by
 go_enter Tryz.func38,Tryz.ntmps38
 go_wp2_with fail
 refine (zf9 _ s f _).mono ?_
 rw[Hm.out]
 rintro e w1 ⟨rfl,hE1⟩
 have hb1:=hb.ext hE1
 obtain ⟨g0,g1,g2⟩:=zc8 hb1
 go_wp2_with fail
 go_region_held3 (fun w'=>w'.cell? ⟨w.heap.size,1,none⟩=some (.int .i64 s)∧w'.cell? ⟨w.heap.size,2,none⟩=some (.int .i64 f)) (first | go_keep | (refine ⟨?_,?_⟩ <;> assumption))
  (first
    | (go_at_call 80;refine (O1.out _ (HS.out.ext (Ext.trans hX (Ext.drew hE1)))).mono ?_;rintro e w2 ⟨rfl,hE2⟩;obtain ⟨_,k1,k2⟩:=zc8 (hb1.ext (Ext.trans (Ext.drew (Ext.refl _)) hE2)))
    | (go_at_call 80;refine (O2.out _).mono ?_;rintro e w3 ⟨rfl,rfl⟩))
 go_wp2_with fail
 go_ret2
 refine ⟨?_,Ext.trans hX (Ext.trans (Ext.drew hE1) hE2)⟩
 rw[Hn.out,zoT]
 rfl):P:=h
structure StW (w:World):Prop where
 tab:TabW rT w
 pow:Lib.TabIs Tryz.prog w "internal/strconv.uint64pow10" .u64 Lib.pow10Tab
theorem StW.ext {w w':World} (h:StW w) (hE:Ext w w'):StW w':=⟨h.tab.ext hE,Lib.tabBelow_of_tabIs h.pow w' hE⟩
def sv (l:List UInt8):Value:=.string ⟨l.toArray⟩
abbrev Fil:=List UInt8×List UInt8
def Fs (W:World) (v:Value) (fs:List Fil):Prop:=∃ vs:List Value,SlR W 2 v fs.length vs∧∀ (i:Nat) (hi:i<fs.length),vs[i*2]?=some (sv fs[i].1)∧∃ u,vs[i*2+1]?=some u∧Bs W u fs[i].2
theorem Fs.ext {w w':World} {v:Value} {fs:List Fil} (h:Fs w v fs) (hE:Ext w w'):Fs w' v fs:=by
 obtain ⟨vs,h1,h2⟩:=h
 refine ⟨vs,h1.ext hE,fun i hi=>?_⟩
 obtain ⟨h3,u,h4,h5⟩:=h2 i hi
 exact ⟨h3,u,h4,h5.ext hE⟩
theorem Fs.keep {w w':World} {v:Value} {fs:List Fil} (h:Fs w v fs) (hk:∀ p u,w.cell? p=some u→w'.cell? p=some u):Fs w' v fs:=by
 obtain ⟨vs,h1,h2⟩:=h
 refine ⟨vs,h1.keep hk,fun i hi=>?_⟩
 obtain ⟨h3,u,h4,h5⟩:=h2 i hi
 exact ⟨h3,u,h4,SlR.keep h5 hk⟩
theorem Fs.open_ {W:World} {v:Value} {fs:List Fil} (h:Fs W v fs):∃ A c,v=.slice A fs.length c∧fs.length≤c∧c≤9223372036854775807:=by
 obtain ⟨vs,h1,_⟩:=h
 exact SlR.open_ h1
theorem Fs.at_ {W:World} {A:Option Addr} {m c:Nat} {fs:List Fil} (h:Fs W (.slice A m c) fs) (hn:0<fs.length):m=fs.length∧∃ b off,A=some ⟨b,off,none⟩∧∀ (k:Nat) (hk:k<fs.length),
  W.cell? ⟨b,off+k*2,none⟩=some (sv fs[k].1)∧∃ B d,W.cell? ⟨b,off+k*2+1,none⟩=some (.slice B fs[k].2.length d)∧Bs W (.slice B fs[k].2.length d) fs[k].2:=by
 obtain ⟨vs,h1,h2⟩:=h
 obtain ⟨rfl,b,off,rfl,hc⟩:=SlR.at_ h1 hn
 refine ⟨rfl,b,off,rfl,fun k hk=>?_⟩
 obtain ⟨h3,u,h4,h5⟩:=h2 k hk
 obtain ⟨B,d,rfl,_,_⟩:=SlR.open_ h5
 exact ⟨hc (k*2) _ h3,B,d,by rw[Nat.add_assoc];exact hc (k*2+1) _ h4,h5⟩
def zfu (k s f:Int):Bool:=if k=1∨k=2 then decide (s=0∧f=0) else decide ((k=3∨k=4)∧1≤s∧s≤1073741824∧(f=1∨f=2))
def zbK (n:Int):List UInt8:=Lib.decDigits n.toNat
def zfN (k s f:Int):List UInt8:=if k=1 then [77] else if k=2 then [77,46,110,101,119] else (if k=3 then 115 else 112)::(zbK s++46::zbK f)
def zav (k s f:Int):Option (List UInt8):=if zfu k s f=true then some (zfN k s f) else none
def zla (w:World) (r:Option (List UInt8)) (e:Ending) (w':World):Prop:=e=.returned (.tuple #[sv (r.getD []),.int .i64 (if r.isSome=true then 0 else 2)])∧Ext w w'
theorem zjT (n:Int) (h0:0≤n) (h1:n≤1073741824) (w:World) (hS:StW w):Calls Tryz.prog 80 #[.int .i64 n] w fun e w'=>e=.returned (.string ⟨(zbK n).toArray⟩)∧Ext w w':=by
 refine (Tryz.strconv_Itoa n (by omega) (by omega) w hS.pow).mono ?_
 rintro e w' ⟨rfl,k,os,rfl⟩
 refine ⟨?_,?_⟩
 ·have:Lib.itoa n=zbK n:=by
   obtain ⟨m,rfl⟩:∃ m:Nat,n=m:=⟨n.toNat,by omega⟩
   rw[Lib.itoa_nonneg]
   unfold zbK
   rw[Int.toNat_natCast]
  rw[this]
 ·exact Lib.below_grow _ _ (Nat.le_refl _) _ _
theorem zf9 (k s f:Int) (w:World):Calls Tryz.prog 28 #[.agg #[.int .u8 k,.int .i64 s,.int .i64 f]] w fun e w'=>e=.returned (.bool (zfu k s f))∧Ext w w':=by
 go_enter Tryz.func28,Tryz.ntmps28
 go_wp2_with fail
 all_goals go_ret
 all_goals refine ⟨ret_bool ?_,Ext.alloc (Ext.refl _) _⟩
 all_goals (rw[Bool.eq_iff_iff];unfold zfu;split <;> simp_all <;> omega)
theorem zer (n:Int) (h0:1≤n) (h1:n≤1073741824):(zbK n).length≤21:=by
 have h:=Lib.itoa_length_le n (by omega) (by omega)
 obtain ⟨m,rfl⟩:∃ m:Nat,n=m:=⟨n.toNat,by omega⟩
 rw[Lib.itoa_nonneg] at h
 unfold zbK
 rw[Int.toNat_natCast]
 exact h
theorem zgs (i:Int) (hi:i=1∨i=2) (w:World):Calls Tryz.prog 80 #[.int .i64 i] w fun e w'=>e=.returned (.string ⟨(zbK i).toArray⟩)∧w=w':=by
 rcases hi with rfl | rfl
 ·exact (Tryz.strconv_Itoa_small 1 (by decide) w).mono (by rintro e w' ⟨rfl,rfl⟩;exact ⟨rfl,rfl⟩)
 ·exact (Tryz.strconv_Itoa_small 2 (by decide) w).mono (by rintro e w' ⟨rfl,rfl⟩;exact ⟨rfl,rfl⟩)
def zbS (k:Int):List UInt8:=if k=3 then [115] else if k=4 then [112] else []
def zci (k:Int):List UInt8:=if k=1 then [77] else if k=2 then [77,46,110,101,119] else []
theorem zlM (k:Int) (w:World):Calls Tryz.prog 90 #[.int .u8 k] w fun e w'=>e=.returned (sv (zbS k))∧w=w':=by
 by_cases h3:k=3
 ·subst h3
  go_enter Tryz.func90,Tryz.ntmps90
  go_wp2_with fail
  go_ret
  exact ⟨rfl,rfl⟩
 ·by_cases h4:k=4
  ·subst h4
   go_enter Tryz.func90,Tryz.ntmps90
   go_wp2_with fail
   go_ret
   exact ⟨rfl,rfl⟩
  ·have hl:zbS k=[]:=by unfold zbS;rw[if_neg h3,if_neg h4]
   go_enter Tryz.func90,Tryz.ntmps90
   go_wp2_with fail
   go_ret
   exact ⟨by rw[hl];rfl,rfl⟩
theorem zm5 (k:Int) (w:World):Calls Tryz.prog 91 #[.int .u8 k] w fun e w'=>e=.returned (sv (zci k))∧w=w':=by
 by_cases h3:k=1
 ·subst h3
  go_enter Tryz.func91,Tryz.ntmps91
  go_wp2_with fail
  go_ret
  exact ⟨rfl,rfl⟩
 ·by_cases h4:k=2
  ·subst h4
   go_enter Tryz.func91,Tryz.ntmps91
   go_wp2_with fail
   go_ret
   exact ⟨rfl,rfl⟩
  ·have hl:zci k=[]:=by unfold zci;rw[if_neg h3,if_neg h4]
   go_enter Tryz.func91,Tryz.ntmps91
   go_wp2_with fail
   go_ret
   exact ⟨by rw[hl];rfl,rfl⟩
theorem zoT (a:UInt8) (ns nf:List UInt8):((ByteArray.mk #[a]++ByteArray.mk ns.toArray)++ByteArray.mk #[46])++ByteArray.mk nf.toArray=ByteArray.mk (a::(ns++46::nf)).toArray:=by
 apply ByteArray.ext
 simp[ByteArray.data_append]
theorem zc8 {W:World} {b:Nat} {t:TypeId} {a v u:Value} (h:Blk W b t #[a,v,u]):W.cell? ⟨b,0,none⟩=some a∧W.cell? ⟨b,1,none⟩=some v∧W.cell? ⟨b,2,none⟩=some u :=
 ⟨h.cell 0 rfl,h.cell 1 rfl,h.cell 2 rfl⟩
theorem ziy (k s f:Int) (w:World) (hS:StW w):Calls Tryz.prog 38 #[.agg #[.int .u8 k,.int .i64 s,.int .i64 f]] w (zla w (zav k s f)):=by
 have HS:=zhd hS
 clear hS
 have hb:=Blk.new w 49 #[.int .u8 k,.int .i64 s,.int .i64 f]
 have hX:Ext w (w.alloc (.cells #[.int .u8 k,.int .i64 s,.int .i64 f] 49)):=Ext.alloc (Ext.refl _) _
 by_cases hm:zfu k s f=true
 case neg =>
  have hn:zav k s f=none:=by unfold zav;rw[if_neg hm]
  have Hn:=zhd hn
  have Hm:=zhd (Bool.eq_false_iff.2 hm)
  clear hn hm
  go_enter Tryz.func38,Tryz.ntmps38
  go_wp2_with fail
  refine (zf9 k s f _).mono ?_
  rw[Hm.out]
  rintro e w1 ⟨rfl,hE1⟩
  go_wp2_with fail
  go_ret2
  exact ⟨by rw[Hn.out];rfl,Ext.trans hX hE1⟩
 case pos =>
  have hn:zav k s f=some (zfN k s f):=by unfold zav;rw[if_pos hm]
  have Hn:=zhd hn
  have Hm:=zhd hm
  clear hn
  rcases (by unfold zfu at hm;split at hm <;> simp at hm <;> omega:k=1∨k=2∨((k=3∨k=4)∧1≤s∧s≤1073741824∧(f=1∨f=2))) with rfl | rfl | ⟨hk,hs0,hs1,hf⟩
  ·clear hm
   go_enter Tryz.func38,Tryz.ntmps38
   go_wp2_with fail
   refine (zf9 _ s f _).mono ?_
   rw[Hm.out]
   rintro e w1 ⟨rfl,hE1⟩
   obtain ⟨g0,g1,g2⟩:=zc8 (hb.ext hE1)
   go_wp2_with fail
   go_ret2
   exact ⟨by rw[Hn.out];rfl,Ext.trans hX hE1⟩
  ·clear hm
   go_enter Tryz.func38,Tryz.ntmps38
   go_wp2_with fail
   refine (zf9 _ s f _).mono ?_
   rw[Hm.out]
   rintro e w1 ⟨rfl,hE1⟩
   obtain ⟨g0,g1,g2⟩:=zc8 (hb.ext hE1)
   go_wp2_with fail
   go_ret2
   exact ⟨by rw[Hn.out];rfl,Ext.trans hX hE1⟩
  ·clear hm
   have hls:=zer s hs0 hs1
   have hlf:=zer f (by omega) (by omega)
   have ho1:=fun W=>zjT s (by omega) hs1 W
   have ho2:=fun W=>zgs f hf W
   have hnm:zfN k s f=(if k=3 then 115 else 112)::(zbK s++46::zbK f):=by unfold zfN;rw[if_neg (by omega),if_neg (by omega)]
   rw[hnm] at Hn
   generalize zbK s=ns at *
   generalize zbK f=nf at *
   have O1:=zhd ho1
   have O2:=zhd ho2
   have c1:¬ (9223372036854775807<1+ns.length):=by omega
   have c2:¬ (9223372036854775807<1+ns.length+1):=by omega
   have c3:¬ (9223372036854775807<1+ns.length+1+nf.length):=by omega
   clear ho1 ho2 hnm
   rcases hk with rfl | rfl
   ·have Hn:Hid (zav 3 s f=some (115::(ns++46::nf))):=zhd (by have h:=Hn.out;simpa using h)
    exact mcName1
   ·have Hn:Hid (zav 4 s f=some (112::(ns++46::nf))):=zhd (by have h:=Hn.out;simpa using h)
    exact mcName1
theorem zmU (k s f:Int):zav k s f=if zci k≠[]∧s=0∧f=0 then some (zci k) else if zbS k=[]∨s<1∨1073741824<s∨f<1∨2<f then none else some (zbS k++(zbK s++46::zbK f)):=by
 by_cases h1:k=1
 ·subst h1
  by_cases h:s=0∧f=0
  ·obtain ⟨rfl,rfl⟩:=h;rfl
  ·rw[if_neg (by simp[zci];exact fun h2 h3=>h ⟨h2,h3⟩),if_pos (by simp[zbS])]
   unfold zav zfu
   rw[if_neg (by simp;exact fun h2 h3=>h ⟨h2,h3⟩)]
 ·by_cases h2:k=2
  ·subst h2
   by_cases h:s=0∧f=0
   ·obtain ⟨rfl,rfl⟩:=h;rfl
   ·rw[if_neg (by simp[zci];exact fun h2 h3=>h ⟨h2,h3⟩),if_pos (by simp[zbS])]
    unfold zav zfu
    rw[if_neg (by simp;exact fun h2 h3=>h ⟨h2,h3⟩)]
  ·rw[if_neg (by simp[zci,h1,h2])]
   have hm:zfu k s f=decide ((k=3∨k=4)∧1≤s∧s≤1073741824∧(f=1∨f=2)):=by unfold zfu;rw[if_neg (by omega)]
   have hn:zfN k s f=(if k=3 then 115 else 112)::(zbK s++46::zbK f):=by unfold zfN;rw[if_neg h1,if_neg h2]
   unfold zav zbS
   rw[hm,hn]
   by_cases h3:k=3
   ·subst h3
    by_cases h:1≤s∧s≤1073741824∧(f=1∨f=2)
    ·obtain ⟨ha,hb,hc⟩:=h
     rcases hc with rfl | rfl <;> simp[ha,hb] <;> omega
    ·rw[if_neg (by simp;omega),if_pos (by simp;omega)]
   ·by_cases h4:k=4
    ·subst h4
     by_cases h:1≤s∧s≤1073741824∧(f=1∨f=2)
     ·obtain ⟨ha,hb,hc⟩:=h
      rcases hc with rfl | rfl <;> simp[ha,hb] <;> omega
     ·rw[if_neg (by simp;omega),if_pos (by simp;omega)]
    ·rw[if_neg (by simp;omega),if_pos (by simp[h3,h4])]
theorem zlY (k:Int):(k=1∧zci k=[77]∧zbS k=[])∨(k=2∧zci k=[77,46,110,101,119]∧zbS k=[])∨(k=3∧zci k=[]∧zbS k=[115])∨(k=4∧zci k=[]∧zbS k=[112])∨(zci k=[]∧zbS k=[]):=by
 by_cases h1:k=1
 ·subst h1;exact .inl ⟨rfl,rfl,rfl⟩
 ·by_cases h2:k=2
  ·subst h2;exact .inr (.inl ⟨rfl,rfl,rfl⟩)
  ·by_cases h3:k=3
   ·subst h3;exact .inr (.inr (.inl ⟨rfl,rfl,rfl⟩))
   ·by_cases h4:k=4
    ·subst h4;exact .inr (.inr (.inr (.inl ⟨rfl,rfl,rfl⟩)))
    ·exact .inr (.inr (.inr (.inr ⟨by unfold zci;rw[if_neg h1,if_neg h2],by unfold zbS;rw[if_neg h3,if_neg h4]⟩)))
theorem zeg (k s f:Int) (w:World) (hS:StW w):Calls Tryz.prog 48 #[.agg #[.int .u8 k,.int .i64 s,.int .i64 f]] w (zla w (zav k s f)):=by
 have HS:=zhd hS
 clear hS
 have hb:=Blk.new w 49 #[.int .u8 k,.int .i64 s,.int .i64 f]
 have hX:Ext w (w.alloc (.cells #[.int .u8 k,.int .i64 s,.int .i64 f] 49)):=Ext.alloc (Ext.refl _) _
 rw[zmU]
 obtain ⟨pl,hpl⟩:∃ pl,zci k=pl:=⟨_,rfl⟩
 obtain ⟨le,hle⟩:∃ le,zbS k=le:=⟨_,rfl⟩
 have hcs:=zlY k
 rw[hpl,hle] at hcs ⊢
 have L1:=fun W=>zlM k W
 have L2:=fun W=>zm5 k W
 rw[hpl] at L2
 rw[hle] at L1
 have O1:=zhd L1
 have O2:=zhd L2
 clear L1 L2 hpl hle
 obtain ⟨R,hR⟩:∃ R,(if pl≠[]∧s=0∧f=0 then some pl else if le=[]∨s<1∨1073741824<s∨f<1∨2<f then none else some (le++(zbK s++46::zbK f)))=R:=⟨_,rfl⟩
 rw[hR]
 have HR:=zhd hR
 clear hR
 have hD:Ext w (w.alloc (.cells #[.int .u8 k,.int .i64 s,.int .i64 f] 49)).drew:=Ext.drew hX
 go_enter Tryz.func48,Tryz.ntmps48
 go_wp2_with fail
 go_region_held3 (fun w'=>w'.cell? ⟨w.heap.size,0,none⟩=some (.int .u8 k)) (first | go_keep | assumption)
  (first
    | (go_at_call 90;refine (O1.out _).mono ?_;rintro e w2 ⟨rfl,rfl⟩)
    | (go_at_call 91;refine (O2.out _).mono ?_;rintro e w3 ⟨rfl,rfl⟩))
 clear O1 O2
 simp only[sv]
 rcases hcs with ⟨rfl,rfl,rfl⟩ | ⟨rfl,rfl,rfl⟩ | ⟨rfl,rfl,rfl⟩ | ⟨rfl,rfl,rfl⟩ | ⟨rfl,rfl⟩
 ·by_cases hz:s=0∧f=0
  ·obtain ⟨rfl,rfl⟩:=hz
   have hR:R=some [77]:=HR.out.symm
   have HR2:=zhd hR
   clear HR hR
   go_wp2_with fail
   go_ret2
   exact ⟨by rw[HR2.out];rfl,hD⟩
  ·have hR:R=none:=by rw[←HR.out,if_neg (fun h=>hz h.2),if_pos (.inl rfl)]
   have HR2:=zhd hR
   clear HR hR
   go_wp2_with fail
   all_goals (first | (exfalso;exact hz ⟨by assumption,by assumption⟩) | (exfalso;simp_all;done) | (go_ret2;refine ⟨by rw[HR2.out];rfl,?_⟩;first | exact hD | (have e0:s=0:=(by assumption);subst e0;exact hD)))
 ·by_cases hz:s=0∧f=0
  ·obtain ⟨rfl,rfl⟩:=hz
   have hR:R=some [77,46,110,101,119]:=HR.out.symm
   have HR2:=zhd hR
   clear HR hR
   go_wp2_with fail
   go_ret2
   exact ⟨by rw[HR2.out];rfl,hD⟩
  ·have hR:R=none:=by rw[←HR.out,if_neg (fun h=>hz h.2),if_pos (.inl rfl)]
   have HR2:=zhd hR
   clear HR hR
   go_wp2_with fail
   all_goals (first | (exfalso;exact hz ⟨by assumption,by assumption⟩) | (exfalso;simp_all;done) | (go_ret2;refine ⟨by rw[HR2.out];rfl,?_⟩;first | exact hD | (have e0:s=0:=(by assumption);subst e0;exact hD)))
 ·by_cases hz:1≤s∧s≤1073741824∧(f=1∨f=2)
  ·have hR:R=some (115::(zbK s++46::zbK f)):=by
    rw[←HR.out,if_neg (fun h=>h.1 rfl),if_neg (by rintro (h | h | h | h | h) <;> first | (cases h;done) | omega)]
    rfl
   exact mcName0
  ·have hR:R=none:=by rw[←HR.out,if_neg (fun h=>h.1 rfl),if_pos (by omega)]
   have HR2:=zhd hR
   clear HR hR
   go_wp2_with fail
   all_goals (first | (exfalso;omega) | (go_ret2;exact ⟨by rw[HR2.out];rfl,hD⟩))
 ·by_cases hz:1≤s∧s≤1073741824∧(f=1∨f=2)
  ·have hR:R=some (112::(zbK s++46::zbK f)):=by
    rw[←HR.out,if_neg (fun h=>h.1 rfl),if_neg (by rintro (h | h | h | h | h) <;> first | (cases h;done) | omega)]
    rfl
   exact mcName0
  ·have hR:R=none:=by rw[←HR.out,if_neg (fun h=>h.1 rfl),if_pos (by omega)]
   have HR2:=zhd hR
   clear HR hR
   go_wp2_with fail
   all_goals (first | (exfalso;omega) | (go_ret2;exact ⟨by rw[HR2.out];rfl,hD⟩))
 ·have hR:R=none:=HR.out.symm
  have HR2:=zhd hR
  clear HR hR
  go_wp2_with fail
  go_ret2
  exact ⟨by rw[HR2.out];rfl,hD⟩
structure Sg4 where
 seq:Int
 fmt:Int
 first:Int
 count:Int
deriving DecidableEq
def Sg4.cells (s:Sg4):List Value:=[.int .i64 s.seq,.int .i64 s.fmt,.int .i64 s.first,.int .i64 s.count]
def zaO (l:List Sg4):List Value:=l.flatMap Sg4.cells
theorem znd (l:List Sg4):(zaO l).length=l.length*4:=by
 induction l with
 | nil=>rfl
 | cons e l ih=>simp[zaO,Sg4.cells] at ih ⊢;omega
def Sgs (w:World) (v:Value) (l:List Sg4):Prop:=SlR w 4 v l.length (zaO l)
theorem Sgs.ext {w w':World} {v:Value} {l:List Sg4} (h:Sgs w v l) (he:Ext w w'):Sgs w' v l:=SlR.ext h he
theorem Sgs.keep {w w':World} {v:Value} {l:List Sg4} (h:Sgs w v l) (hk:∀ p u,w.cell? p=some u→w'.cell? p=some u):Sgs w' v l:=SlR.keep h hk
theorem Sgs.open_ {W:World} {v:Value} {l:List Sg4} (h:Sgs W v l):∃ A c,v=.slice A l.length c∧l.length≤c∧c≤9223372036854775807:=SlR.open_ h
theorem Sgs.nil (w:World):Sgs w (.slice none 0 0) []:=SlR.nil w 4
theorem zfe (l:List Sg4) (k:Nat) (h:k<l.length) (i:Nat) (hi:i<4):(zaO l)[k*4+i]?=l[k].cells[i]?:=by
 induction l generalizing k with
 | nil=>simp at h
 | cons e l ih =>
  rw[show zaO (e::l)=e.cells++zaO l from rfl]
  have hl:e.cells.length=4:=rfl
  cases k with
  | zero=>rw[List.getElem?_append_left (by omega)];simp
  | succ k =>
   rw[List.getElem?_append_right (by omega),hl,show (k+1)*4+i-4=k*4+i from by omega]
   simpa using ih k (by simpa using h)
theorem Sgs.at_ {w:World} {A:Option Addr} {m c:Nat} {l:List Sg4} (h:Sgs w (.slice A m c) l) (hn:0<l.length):m=l.length∧∃ b off,A=some ⟨b,off,none⟩∧∀ (k:Nat) (hk:k<l.length),
  w.cell? ⟨b,off+k*4,none⟩=some (.int .i64 l[k].seq)∧w.cell? ⟨b,off+k*4+1,none⟩=some (.int .i64 l[k].fmt)∧w.cell? ⟨b,off+k*4+2,none⟩=some (.int .i64 l[k].first)∧w.cell? ⟨b,off+k*4+3,none⟩=some (.int .i64 l[k].count):=by
 obtain ⟨rfl,b,off,rfl,hc⟩:=SlR.at_ h hn
 refine ⟨rfl,b,off,rfl,fun k hk=>⟨?_,?_,?_,?_⟩⟩
 ·exact hc (k*4) _ (zfe l k hk 0 (by omega))
 ·exact hc (k*4+1) _ (zfe l k hk 1 (by omega))
 ·exact hc (k*4+2) _ (zfe l k hk 2 (by omega))
 ·exact hc (k*4+3) _ (zfe l k hk 3 (by omega))
structure Mf where
 next:Int
 term:Int
 vote:Int
 sq:Int
 sf:Int
 segs:List Sg4
deriving DecidableEq
def inB (n lo hi:Int):Bool:=decide (lo≤n∧n≤hi)
def zbn (next seq fmt:Int):Bool:=decide (1≤seq∧seq≤next-1∧(fmt=1∨fmt=2))
def zbi (m:Mf) (i:Nat) (s:Sg4):Bool :=
 zbn m.next s.seq s.fmt&&decide (s.seq≠m.sq)&&inB s.first 1 1073741820&&(m.segs.take i).all (fun t=>decide (t.seq≠s.seq)) &&
 (match m.segs[i-1]? with | none=>true | some p=>decide (i=0∨s.first=p.first+p.count))&&(inB s.count 1 4||(decide (s.count = -1)&&decide (i+1=m.segs.length)))
def zch (m:Mf):Bool:=inB m.next 1 1073741824&&inB m.term 0 1073741824&&inB m.vote 0 5&&decide (m.segs.length≤60)
def zcm (m:Mf):Bool:=decide (m.sq=0∧m.sf=0)||zbn m.next m.sq m.sf
def zbp (m:Mf):Nat→Bool
 | 0=>true
 | k+1=>zbp m k&&(match m.segs[k]? with | none=>false | some s=>zbi m k s)
def zaD (m:Mf):Bool:=zch m&&zcm m&&zbp m m.segs.length
theorem zaQ (n lo hi:Int) (w:World):Calls Tryz.prog 42 #[.int .i64 n,.int .i64 lo,.int .i64 hi] w fun e w'=>e=.returned (.bool (inB n lo hi))∧w=w':=by
 go_enter Tryz.func42,Tryz.ntmps42
 go_wp2_with fail
 all_goals go_ret
 all_goals exact ⟨ret_bool (by rw[Bool.eq_iff_iff];unfold inB;simp;omega),rfl⟩
theorem zao {W:World} {b:Nat} {t:TypeId} {a v u x y z:Value} (h:Blk W b t #[a,v,u,x,y,z]):W.cell? ⟨b,0,none⟩=some a∧W.cell? ⟨b,1,none⟩=some v∧W.cell? ⟨b,2,none⟩=some u∧W.cell? ⟨b,3,none⟩=some x∧W.cell? ⟨b,4,none⟩=some y∧W.cell? ⟨b,5,none⟩=some z :=
 ⟨h.cell 0 rfl,h.cell 1 rfl,h.cell 2 rfl,h.cell 3 rfl,h.cell 4 rfl,h.cell 5 rfl⟩
theorem zat {W:World} {b:Nat} {t:TypeId} {a v u x:Value} (h:Blk W b t #[a,v,u,x]):W.cell? ⟨b,0,none⟩=some a∧W.cell? ⟨b,1,none⟩=some v∧W.cell? ⟨b,2,none⟩=some u∧W.cell? ⟨b,3,none⟩=some x :=
 ⟨h.cell 0 rfl,h.cell 1 rfl,h.cell 2 rfl,h.cell 3 rfl⟩
theorem ze7 (next term vote sq sf:Int) (v:Value) (seq fmt:Int) (hn:1≤next∧next≤1073741824) (w:World) :
  Calls Tryz.prog 43 #[.agg #[.int .i64 next,.int .i64 term,.int .i64 vote,.int .i64 sq,.int .i64 sf,v],.int .i64 seq,.int .i64 fmt] w fun e w'=>e=.returned (.bool (zbn next seq fmt))∧Ext w w':=by
 have h1:IntKind.i64.wrap (next-1)=next-1:=by rw[IntKind.wrap_i64];omega
 obtain ⟨h2,h3⟩:=hn
 go_enter Tryz.func43,Tryz.ntmps43
 go_wp2_with (go_at_call 42;refine (zaQ _ _ _ _).mono ?_;rintro e w1 ⟨rfl,rfl⟩)
 all_goals go_ret
 all_goals refine ⟨ret_bool ?_,Ext.alloc (Ext.refl _) _⟩
 all_goals (rw[Bool.eq_iff_iff];simp[zbn,inB] at *;omega)
def mfC (m:Mf) (v:Value):Array Value:=#[.int .i64 m.next,.int .i64 m.term,.int .i64 m.vote,.int .i64 m.sq,.int .i64 m.sf,v]
theorem zcL {a b:World} (h:Ext a b) (n:Nat):Ext a (b.drewN n):=ztz h n
theorem zma {w w':World} {b off:Nat} {l:List Sg4} (he:Ext w w') (h:∀ (k:Nat) (hk:k<l.length),
   w.cell? ⟨b,off+k*4,none⟩=some (.int .i64 l[k].seq)∧w.cell? ⟨b,off+k*4+1,none⟩=some (.int .i64 l[k].fmt)∧w.cell? ⟨b,off+k*4+2,none⟩=some (.int .i64 l[k].first)∧w.cell? ⟨b,off+k*4+3,none⟩=some (.int .i64 l[k].count)) :
  ∀ (k:Nat) (hk:k<l.length),
   w'.cell? ⟨b,off+k*4,none⟩=some (.int .i64 l[k].seq)∧w'.cell? ⟨b,off+k*4+1,none⟩=some (.int .i64 l[k].fmt)∧w'.cell? ⟨b,off+k*4+2,none⟩=some (.int .i64 l[k].first)∧w'.cell? ⟨b,off+k*4+3,none⟩=some (.int .i64 l[k].count) :=
 fun k hk=>⟨he.cell (h k hk).1,he.cell (h k hk).2.1,he.cell (h k hk).2.2.1,he.cell (h k hk).2.2.2⟩
theorem znI (m:Mf) (v:Value) (i:Nat) (hi:i<m.segs.length) (hlen:m.segs.length≤60) (hn:1≤m.next∧m.next≤1073741824) (hprev:∀ t∈m.segs.take i,1≤t.first∧t.first≤1073741820∧-1≤t.count∧t.count≤4) (w:World) (hS:Sgs w v m.segs) :
  Calls Tryz.prog 44 #[.agg #[.int .i64 m.next,.int .i64 m.term,.int .i64 m.vote,.int .i64 m.sq,.int .i64 m.sf,v],.int .i64 i] w fun e w'=>e=.returned (.bool (zbi m i m.segs[i]))∧Ext w w':=by
 obtain ⟨A,c,rfl,hc1,hc2⟩:=hS.open_
 obtain ⟨_,b,off,rfl,hcell⟩:=hS.at_ (by omega)
 obtain ⟨s0,s1,s2,s3⟩:=hcell i hi
 obtain ⟨s,hs⟩:∃ s,m.segs[i]=s:=⟨_,rfl⟩
 rw[hs] at s0 s1 s2 s3 ⊢
 have HC:=zhd hcell
 have hres:zbi m i s=zbi m i s:=rfl
 obtain ⟨R,hR⟩:∃ R,zbi m i s=R:=⟨_,rfl⟩
 rw[hR]
 have HR:=zhd hR
 have Hs:=zhd hs
 have Hprev:=zhd hprev
 have hb0:=Blk.new w 30 #[.int .i64 m.next,.int .i64 m.term,.int .i64 m.vote,.int .i64 m.sq,.int .i64 m.sf,.slice (some ⟨b,off,none⟩) m.segs.length c]
 have hX:Ext w (w.alloc (.cells #[.int .i64 m.next,.int .i64 m.term,.int .i64 m.vote,.int .i64 m.sq,.int .i64 m.sf,.slice (some ⟨b,off,none⟩) m.segs.length c] 30)):=Ext.alloc (Ext.refl _) _
 obtain ⟨m0,m1,m2,m3,m4,m5⟩:=zao hb0
 have t0:=hX.cell s0
 have t1:=hX.cell s1
 have t2:=hX.cell s2
 have t3:=hX.cell s3
 have hiz:(i:Int)<(m.segs.length:Int):=by omega
 have hbs:Blk ((w.alloc (.cells #[.int .i64 m.next,.int .i64 m.term,.int .i64 m.vote,.int .i64 m.sq,.int .i64 m.sf,.slice (some ⟨b,off,none⟩) m.segs.length c] 30)).alloc (.cells #[.int .i64 s.seq,.int .i64 s.fmt,.int .i64 s.first,.int .i64 s.count] 74)) (w.heap.size+1) 74 #[.int .i64 s.seq,.int .i64 s.fmt,.int .i64 s.first,.int .i64 s.count]:=by
  have:=Blk.new (w.alloc (.cells #[.int .i64 m.next,.int .i64 m.term,.int .i64 m.vote,.int .i64 m.sq,.int .i64 m.sf,.slice (some ⟨b,off,none⟩) m.segs.length c] 30)) 74 #[.int .i64 s.seq,.int .i64 s.fmt,.int .i64 s.first,.int .i64 s.count]
  rwa [World.size_alloc] at this
 have hX2:Ext w ((w.alloc (.cells #[.int .i64 m.next,.int .i64 m.term,.int .i64 m.vote,.int .i64 m.sq,.int .i64 m.sf,.slice (some ⟨b,off,none⟩) m.segs.length c] 30)).alloc (.cells #[.int .i64 s.seq,.int .i64 s.fmt,.int .i64 s.first,.int .i64 s.count] 74)):=Ext.alloc hX _
 have hb1:=hb0.alloc (.cells #[.int .i64 s.seq,.int .i64 s.fmt,.int .i64 s.first,.int .i64 s.count] 74)
 have arm:=fun (W:World)=>ze7 m.next m.term m.vote m.sq m.sf (.slice (some ⟨b,off,none⟩) m.segs.length c) s.seq s.fmt hn W
 have Arm:=zhd arm
 have hn2:=zhd hn
 clear hR hs hprev hcell arm hn hres hS
 go_enter Tryz.func44,Tryz.ntmps44
 go_wp2_with fail
 refine (Arm.out _).mono ?_
 rintro e w1 ⟨rfl,hE1⟩
 have HE:=zhd (Ext.trans hX2 hE1)
 have E0:=HE
 obtain ⟨M0,M1,M2,M3,M4,M5⟩:=zao (hb1.ext hE1)
 obtain ⟨S0,S1,S2,S3⟩:=zat (hbs.ext hE1)
 have hC2:=zma HE.out HC.out
 have HC2:=zhd hC2
 clear hC2 HC Arm hb0 hb1 hbs hX hX2 hE1 HE m0 m1 m2 m3 m4 m5 t0 t1 t2 t3 s0 s1 s2 s3 M0 M1 M2 M4 S1
 cases hf:zbn m.next s.seq s.fmt with
 | false =>
  have hR:R=false:=by rw[←HR.out];unfold zbi;rw[hf];rfl
  subst hR
  clear HR hf
  go_wp2_with fail
  go_ret
  exact ⟨rfl,E0.out⟩
 | true =>
 by_cases hq:s.seq=m.sq
 ·have hR:R=false:=by rw[←HR.out];unfold zbi;simp[hq]
  subst hR
  clear HR hf
  go_wp2_with fail
  go_ret
  exact ⟨rfl,E0.out⟩
 cases hw:inB s.first 1 1073741820 with
 | false =>
  have hR:R=false:=by rw[←HR.out];unfold zbi;simp[hw]
  subst hR
  clear HR hf
  go_wp2_with (go_at_call 42;refine (zaQ _ _ _ _).mono ?_;rintro e w2 ⟨rfl,rfl⟩;rw[hw])
  go_ret
  exact ⟨rfl,E0.out⟩
 | true =>
 have HR2:Hid (((m.segs.take i).all (fun t=>decide (t.seq≠s.seq)) &&
 (match m.segs[i-1]? with | none=>true | some p=>decide (i=0∨s.first=p.first+p.count))&&(inB s.count 1 4||(decide (s.count = -1)&&decide (i+1=m.segs.length))))=R):=zhd (by
  rw[←HR.out];unfold zbi;simp[hf,hw,hq])
 clear HR hf
 go_wp2_with (go_at_call 42;refine (zaQ _ _ _ _).mono ?_;rintro e w2 ⟨rfl,rfl⟩;rw[hw])
 go_loopw [6] (fun x W=>∃ j:Nat,j≤i∧x=.int .i64 j∧Hid (∀ q (_:q<j) (h2:q<m.segs.length),m.segs[q].seq≠s.seq)∧Ext w1 W) (fun x _=>i-(intOf x).toNat)
 case atStart=>exact ⟨0,by omega,rfl,zhd fun q hq=>by omega,Ext.refl _⟩
 case round =>
  obtain ⟨j,hj,rfl,Hn,hEr⟩:=hrel
  have HEr:=zhd (Ext.trans E0.out hEr)
  have hC3:=zma hEr HC2.out
  have HC3:=zhd hC3
  have N3:=hEr.cell M3
  have N5:=hEr.cell M5
  have T0:=hEr.cell S0
  have T2:=hEr.cell S2
  have T3:=hEr.cell S3
  have HEq:=zhd hEr
  clear hC3 HC2 hEr M3 M5 S0 S2 S3
  by_cases hlt:j<i
  ·have hji:j<m.segs.length:=by omega
   obtain ⟨c0,_,_,_⟩:=HC3.out j hji
   have hp:m.segs[j].seq=s.seq→R=false:=fun h=>by
    rw[←HR2.out]
    have:((m.segs.take i).all (fun t=>decide (t.seq≠s.seq)))=false:=by
     rw[List.all_eq_false]
     exact ⟨m.segs[j],List.mem_take_iff_getElem.2 ⟨j,by omega,rfl⟩,by simpa using h⟩
    rw[this];simp
   have hq:m.segs[j].seq≠s.seq→∀ q (_:q<j+1) (h2:q<m.segs.length),m.segs[q].seq≠s.seq:=fun h q h3 h2=>by
     by_cases e:q=j
     ·subst e;exact h
     ·exact Hn.out q (by omega) h2
   have Hp:=zhd hp
   have Hq:=zhd hq
   clear hp hq HR2 Hn
   generalize m.segs[j].seq=x at *
   generalize s.seq=y at *
   by_cases hx:x=y
   ·have hR:=Hp.out hx
    subst hR hx
    go_wp2_with fail
    go_quiet (fail)
    go_wp2_with fail
    go_ret
    exact ⟨rfl,zcL HEr.out _⟩
   ·have Hq2:=zhd (Hq.out hx)
    go_wp2_with fail
    go_quiet (fail)
    go_wp2_with fail
    go_roundw
    case rel=>exact ⟨j+1,by omega,by go_num,Hq2,zcL HEq.out _⟩
    case measure=>simp[intOf];omega
  ·obtain rfl:j=i:=by omega
   have hall:((m.segs.take j).all (fun t=>decide (t.seq≠s.seq)))=true:=by
    rw[List.all_eq_true]
    intro x hx
    obtain ⟨q,hq,rfl⟩:=List.mem_take_iff_getElem.1 hx
    simpa using Hn.out q (by omega) (by omega)
   have HR3:Hid ((((match m.segs[j-1]? with | none=>true | some p=>decide (j=0∨s.first=p.first+p.count))&&(inB s.count 1 4||(decide (s.count = -1)&&decide (j+1=m.segs.length)))))=R):=zhd (by
    rw[←HR2.out,hall];rfl)
   clear HR2 hall Hn HEq
   cases j with
   | zero =>
    have HRc:Hid ((inB s.count 1 4||(decide (s.count = -1)&&decide (0+1=m.segs.length)))=R):=zhd (by
     rw[←HR3.out];cases m.segs[0-1]? <;> simp)
    clear HR3 HC3 N3
    have hz:decide ((0:Int)<((0:Nat):Int))=false:=by decide
    go_wp2_with fail
    go_quiet (fail)
    cases hcn:inB s.count 1 4 with
    | true =>
     have hR:R=true:=by rw[←HRc.out,hcn];rfl
     subst hR
     go_wp2_with (go_at_call 42;refine (zaQ _ _ _ _).mono ?_;rintro e w2 ⟨rfl,rfl⟩;first | rw[hcn] | rw[show inB (-1) 1 4=false from rfl])
     go_ret
     exact ⟨rfl,zcL HEr.out _⟩
    | false =>
     by_cases hc1m:s.count = -1
     ·by_cases hlast:0+1=m.segs.length
      ·have hR:R=true:=by rw[←HRc.out];simp[hc1m,hlast]
       have hl2:((m.segs.length:Int)-1)=(0:Int):=by omega
       subst hR
       clear hlast
       go_wp2_with (go_at_call 42;refine (zaQ _ _ _ _).mono ?_;rintro e w2 ⟨rfl,rfl⟩;first | rw[hcn] | rw[show inB (-1) 1 4=false from rfl])
       all_goals go_ret
       all_goals exact ⟨by first | rfl | (exact ret_bool (by simp;omega)),zcL HEr.out _⟩
      ·have hR:R=false:=by rw[←HRc.out,hcn];simp[hc1m,hlast]
       subst hR
       go_wp2_with (go_at_call 42;refine (zaQ _ _ _ _).mono ?_;rintro e w2 ⟨rfl,rfl⟩;first | rw[hcn] | rw[show inB (-1) 1 4=false from rfl])
       all_goals go_ret
       all_goals exact ⟨by first | rfl | (exact ret_bool (by simp;omega)),zcL HEr.out _⟩
     ·have hR:R=false:=by rw[←HRc.out,hcn];simp[hc1m]
      subst hR
      go_wp2_with (go_at_call 42;refine (zaQ _ _ _ _).mono ?_;rintro e w2 ⟨rfl,rfl⟩;first | rw[hcn] | rw[show inB (-1) 1 4=false from rfl])
      go_ret
      exact ⟨rfl,zcL HEr.out _⟩
   | succ k =>
    have hk:k<m.segs.length:=by omega
    obtain ⟨_,_,d2,d3⟩:=HC3.out k hk
    obtain ⟨p1,p2,p3,p4⟩:=Hprev.out m.segs[k] (List.mem_take_iff_getElem.2 ⟨k,by omega,rfl⟩)
    have hgk:m.segs[k+1-1]?=some m.segs[k]:=by rw[Nat.add_sub_cancel];exact List.getElem?_eq_getElem hk
    have HR4:Hid ((decide (s.first=m.segs[k].first+m.segs[k].count)&&(inB s.count 1 4||(decide (s.count = -1)&&decide (k+1+1=m.segs.length))))=R):=zhd (by
     rw[←HR3.out,hgk];simp)
    clear HR3 HC3 hgk Hprev
    generalize m.segs[k].first=pf at *
    generalize m.segs[k].count=pc at *
    have hw1:IntKind.i64.wrap (pf+pc)=pf+pc:=by rw[IntKind.wrap_i64];omega
    by_cases hch:s.first=pf+pc
    ·have HRc:Hid ((inB s.count 1 4||(decide (s.count = -1)&&decide (k+1+1=m.segs.length)))=R):=zhd (by
      rw[←HR4.out];simp[hch])
     clear HR4
     go_wp2_with fail
     go_quiet (fail)
     cases hcn:inB s.count 1 4 with
     | true =>
      have hR:R=true:=by rw[←HRc.out,hcn];rfl
      subst hR
      go_wp2_with (go_at_call 42;refine (zaQ _ _ _ _).mono ?_;rintro e w2 ⟨rfl,rfl⟩;first | rw[hcn] | rw[show inB (-1) 1 4=false from rfl])
      go_ret
      exact ⟨rfl,zcL HEr.out _⟩
     | false =>
      by_cases hc1m:s.count = -1
      ·by_cases hlast:(k+1)+1=m.segs.length
       ·have hR:R=true:=by rw[←HRc.out];simp[hc1m,hlast]
        have hl2:((m.segs.length:Int)-1)=((k+1):Int):=by omega
        subst hR
        clear hlast
        go_wp2_with (go_at_call 42;refine (zaQ _ _ _ _).mono ?_;rintro e w2 ⟨rfl,rfl⟩;first | rw[hcn] | rw[show inB (-1) 1 4=false from rfl])
        all_goals go_ret
        all_goals exact ⟨by first | rfl | (exact ret_bool (by simp;omega)),zcL HEr.out _⟩
       ·have hR:R=false:=by rw[←HRc.out,hcn];simp[hc1m,hlast]
        subst hR
        go_wp2_with (go_at_call 42;refine (zaQ _ _ _ _).mono ?_;rintro e w2 ⟨rfl,rfl⟩;first | rw[hcn] | rw[show inB (-1) 1 4=false from rfl])
        all_goals go_ret
        all_goals exact ⟨by first | rfl | (exact ret_bool (by simp;omega)),zcL HEr.out _⟩
      ·have hR:R=false:=by rw[←HRc.out,hcn];simp[hc1m]
       subst hR
       go_wp2_with (go_at_call 42;refine (zaQ _ _ _ _).mono ?_;rintro e w2 ⟨rfl,rfl⟩;first | rw[hcn] | rw[show inB (-1) 1 4=false from rfl])
       go_ret
       exact ⟨rfl,zcL HEr.out _⟩
    ·have hR:R=false:=by rw[←HR4.out];simp[hch]
     subst hR
     clear HR4
     go_wp2_with fail
     go_quiet (fail)
     go_wp2_with fail
     go_ret
     exact ⟨rfl,zcL HEr.out _⟩
end Go.Proofs.YtgonhdeochgkoaaGreatDoor
