/- Merged -/
import Derived.Test.YtgonhdeochgkoaaGreatDoorZx5
import Derived.Test.YtgonhdeochgkoaaGreatDoorZx7
import Derived.Shelf.Small.Bits
import Derived.Shelf.Strconv.Itoa0
import Derived.Shelf.Strconv.Itoa1
import Derived.Shelf.LaysM
import Derived.Shelf.Strconv.Itoa2
import Derived.Shelf.Strconv.Itoa3
import Derived.Test.YtgonhdeochgkoaaGreatDoorProg
import Derived.Lib.ItoaNum
import Derived.Lib.ItoaLen
import Derived.Lib.AppendIntMem
set_option linter.all false
set_option maxHeartbeats 8000000
set_option maxRecDepth 100000
open List renaming mem_take_iff_getElem→P0,getElem?_eq_getElem→P1,all_eq_true→P2
open ByteArray renaming mk→P3,ext→P4,data_append→P5
open Bool renaming eq_iff_iff→P6,eq_false_iff→P7,and_eq_true→P8
open Go.Lib renaming itoa_nonneg→P9,decDigits→Pa,pow10Tab→Pb,TabIs→Pc,itoa→Pd
namespace Go.Proofs
open Go.Shelf
def Tryz.laysM171_ren:Go.Shelf.Ren:=⟨fun | 171=>80 | 243=>123 | 246=>160 | 283=>182 | 284=>183 | 285=>184 | 286=>185 | 129=>221 | 317=>226 | 318=>227 | 319=>228 | 320=>229 | 337=>244 | 338=>245 | n=>n,fun | 3=>3 | 9=>9 | 2=>2 | 4=>4 | 171=>233 | 0=>0 | 53=>234 | 37=>38 | 5=>5 | 173=>237 | 212=>264 | 51=>142 | 20=>20 | 213=>265 | 46=>179 | 232=>286 | 233=>287 | n=>n,fun | 17=>0 | 18=>2 | 19=>3 | n=>n⟩
theorem Tryz.laysM171:Go.Proofs.LaysM.n171 Tryz.prog Tryz.laysM171_ren:={
 mixed:=by kernel_rfl
 f129:=Tryz.func221.trans (congrArg some (by kernel_rfl))
 f171:=Tryz.func80.trans (congrArg some (by kernel_rfl))
 f243:=Tryz.func123.trans (congrArg some (by kernel_rfl))
 f246:=Tryz.func160.trans (congrArg some (by kernel_rfl))
 f283:=Tryz.func182.trans (congrArg some (by kernel_rfl))
 f284:=Tryz.func183.trans (congrArg some (by kernel_rfl))
 f285:=Tryz.func184.trans (congrArg some (by kernel_rfl))
 f286:=Tryz.func185.trans (congrArg some (by kernel_rfl))
 f317:=Tryz.func226.trans (congrArg some (by kernel_rfl))
 f318:=Tryz.func227.trans (congrArg some (by kernel_rfl))
 f319:=Tryz.func228.trans (congrArg some (by kernel_rfl))
 f320:=Tryz.func229.trans (congrArg some (by kernel_rfl))
 f337:=Tryz.func244.trans (congrArg some (by kernel_rfl))
 f338:=Tryz.func245.trans (congrArg some (by kernel_rfl))
 t0:=Tryz.underlying0
 a0:=Tryz.isAgg0
 z0:=Tryz.sizeOf0
 v0:=Tryz.zeroValue0
 t2:=Tryz.underlying2
 a2:=Tryz.isAgg2
 z2:=Tryz.sizeOf2
 v2:=Tryz.zeroValue2
 t3:=Tryz.underlying3
 a3:=Tryz.isAgg3
 z3:=Tryz.sizeOf3
 v3:=Tryz.zeroValue3
 t4:=Tryz.underlying4
 a4:=Tryz.isAgg4
 z4:=Tryz.sizeOf4
 v4:=Tryz.zeroValue4
 t5:=Tryz.underlying5
 a5:=Tryz.isAgg5
 z5:=Tryz.sizeOf5
 v5:=Tryz.zeroValue5
 t9:=Tryz.underlying9
 a9:=Tryz.isAgg9
 z9:=Tryz.sizeOf9
 v9:=Tryz.zeroValue9
 t20:=Tryz.underlying20
 a20:=Tryz.isAgg20
 z20:=Tryz.sizeOf20
 v20:=Tryz.zeroValue20
 t37:=Tryz.underlying38
 a37:=Tryz.isAgg38
 z37:=Tryz.sizeOf38
 v37:=Tryz.zeroValue38
 t46:=Tryz.underlying179
 a46:=Tryz.isAgg179
 z46:=Tryz.sizeOf179
 v46:=Tryz.zeroValue179
 t51:=Tryz.underlying142
 a51:=Tryz.isAgg142
 z51:=Tryz.sizeOf142
 v51:=Tryz.zeroValue142
 t53:=Tryz.underlying234
 a53:=Tryz.isAgg234
 z53:=Tryz.sizeOf234
 v53:=Tryz.zeroValue234
 t171:=Tryz.underlying233
 a171:=Tryz.isAgg233
 z171:=Tryz.sizeOf233
 v171:=Tryz.zeroValue233
 t173:=Tryz.underlying237
 a173:=Tryz.isAgg237
 z173:=Tryz.sizeOf237
 v173:=Tryz.zeroValue237
 t212:=Tryz.underlying264
 a212:=Tryz.isAgg264
 z212:=Tryz.sizeOf264
 v212:=Tryz.zeroValue264
 t213:=Tryz.underlying265
 a213:=Tryz.isAgg265
 z213:=Tryz.sizeOf265
 t232:=Tryz.underlying286
 a232:=Tryz.isAgg286
 z232:=Tryz.sizeOf286
 v232:=Tryz.zeroValue286
 t233:=Tryz.underlying287
 a233:=Tryz.isAgg287
 z233:=Tryz.sizeOf287
 v233:=Tryz.zeroValue287
 g17:=by kernel_rfl
 g18:=by kernel_rfl
 g19:=by kernel_rfl
 i0:=by kernel_rfl
 i2:=by kernel_rfl
 i3:=by kernel_rfl
 i4:=by kernel_rfl
 i5:=by kernel_rfl
 i9:=by kernel_rfl
 i20:=by kernel_rfl
 i37:=by kernel_rfl
 i46:=by kernel_rfl
 i51:=by kernel_rfl
 i53:=by kernel_rfl
 i171:=by kernel_rfl
 i173:=by kernel_rfl
 i212:=by kernel_rfl
 i232:=by kernel_rfl
 i233:=by kernel_rfl
 m17:=by kernel_rfl
 m18:=by kernel_rfl
 m19:=by kernel_rfl }
open Go.RowKit Go.Sort Go.Lib in
theorem Tryz.strconv_Itoa (n:Int) (h0:-9223372036854775808≤n) (h1:n≤9223372036854775807) (w:World) (HG:Pc Tryz.prog w "internal/strconv.uint64pow10" .u64 Pb) :
  Calls Tryz.prog 80 #[.int .i64 n] w fun e w'=>e=.returned (.string ⟨(Pd n).toArray⟩)∧∃ k os,w'=grow (w.drewN k) os:=Any.strconv_Itoa Tryz.laysM171 n h0 h1 w HG
def Tryz.lays171_ren:Go.Shelf.Ren:=⟨fun | 171=>80 | 243=>123 | 246=>160 | 283=>182 | 284=>183 | 285=>184 | 286=>185 | 129=>221 | 317=>226 | 318=>227 | 319=>228 | 320=>229 | 337=>244 | 338=>245 | n=>n,fun | 3=>3 | 9=>9 | 2=>2 | 4=>4 | 171=>233 | 0=>0 | 53=>234 | 37=>38 | 5=>5 | 173=>237 | 212=>264 | 51=>142 | 20=>20 | 213=>265 | 46=>179 | 232=>286 | 233=>287 | n=>n,fun | 17=>0 | 18=>2 | 19=>3 | n=>n⟩
theorem Tryz.lays171:Go.Proofs.Lays.n171 Tryz.prog Tryz.lays171_ren:={
 mixed:=by kernel_rfl
 f129:=Tryz.func221.trans (congrArg some (by kernel_rfl))
 f171:=Tryz.func80.trans (congrArg some (by kernel_rfl))
 f243:=Tryz.func123.trans (congrArg some (by kernel_rfl))
 f246:=Tryz.func160.trans (congrArg some (by kernel_rfl))
 f283:=Tryz.func182.trans (congrArg some (by kernel_rfl))
 f284:=Tryz.func183.trans (congrArg some (by kernel_rfl))
 f285:=Tryz.func184.trans (congrArg some (by kernel_rfl))
 f286:=Tryz.func185.trans (congrArg some (by kernel_rfl))
 f317:=Tryz.func226.trans (congrArg some (by kernel_rfl))
 f318:=Tryz.func227.trans (congrArg some (by kernel_rfl))
 f319:=Tryz.func228.trans (congrArg some (by kernel_rfl))
 f320:=Tryz.func229.trans (congrArg some (by kernel_rfl))
 f337:=Tryz.func244.trans (congrArg some (by kernel_rfl))
 f338:=Tryz.func245.trans (congrArg some (by kernel_rfl))
 t0:=Tryz.underlying0
 a0:=Tryz.isAgg0
 z0:=Tryz.sizeOf0
 v0:=Tryz.zeroValue0
 t2:=Tryz.underlying2
 a2:=Tryz.isAgg2
 z2:=Tryz.sizeOf2
 v2:=Tryz.zeroValue2
 t3:=Tryz.underlying3
 a3:=Tryz.isAgg3
 z3:=Tryz.sizeOf3
 v3:=Tryz.zeroValue3
 t4:=Tryz.underlying4
 a4:=Tryz.isAgg4
 z4:=Tryz.sizeOf4
 v4:=Tryz.zeroValue4
 t5:=Tryz.underlying5
 a5:=Tryz.isAgg5
 z5:=Tryz.sizeOf5
 v5:=Tryz.zeroValue5
 t9:=Tryz.underlying9
 a9:=Tryz.isAgg9
 z9:=Tryz.sizeOf9
 v9:=Tryz.zeroValue9
 t20:=Tryz.underlying20
 a20:=Tryz.isAgg20
 z20:=Tryz.sizeOf20
 v20:=Tryz.zeroValue20
 t37:=Tryz.underlying38
 a37:=Tryz.isAgg38
 z37:=Tryz.sizeOf38
 v37:=Tryz.zeroValue38
 t46:=Tryz.underlying179
 a46:=Tryz.isAgg179
 z46:=Tryz.sizeOf179
 v46:=Tryz.zeroValue179
 t51:=Tryz.underlying142
 a51:=Tryz.isAgg142
 z51:=Tryz.sizeOf142
 v51:=Tryz.zeroValue142
 t53:=Tryz.underlying234
 a53:=Tryz.isAgg234
 z53:=Tryz.sizeOf234
 v53:=Tryz.zeroValue234
 t171:=Tryz.underlying233
 a171:=Tryz.isAgg233
 z171:=Tryz.sizeOf233
 v171:=Tryz.zeroValue233
 t173:=Tryz.underlying237
 a173:=Tryz.isAgg237
 z173:=Tryz.sizeOf237
 v173:=Tryz.zeroValue237
 t212:=Tryz.underlying264
 a212:=Tryz.isAgg264
 z212:=Tryz.sizeOf264
 v212:=Tryz.zeroValue264
 t213:=Tryz.underlying265
 a213:=Tryz.isAgg265
 z213:=Tryz.sizeOf265
 t232:=Tryz.underlying286
 a232:=Tryz.isAgg286
 z232:=Tryz.sizeOf286
 v232:=Tryz.zeroValue286
 t233:=Tryz.underlying287
 a233:=Tryz.isAgg287
 z233:=Tryz.sizeOf287
 v233:=Tryz.zeroValue287
 g17:=by kernel_rfl
 g18:=by kernel_rfl
 g19:=by kernel_rfl }
open Go.RowKit Go.Sort Go.Lib in
theorem Tryz.strconv_Itoa_small (i:Nat) (hi:i<100) (w:World) :
  Calls Tryz.prog 80 #[.int .i64 i] w fun e w'=>e=.returned (.string ⟨(Pa i).toArray⟩)∧w'=w:=Any.strconv_Itoa_small Tryz.lays171 i hi w
end Go.Proofs

namespace Go.Proofs.YtgonhdeochgkoaaGreatDoor
open Go.RowKit Go.Mv
theorem mcNamea0 {P:Prop} (h:P:=by
 obtain ⟨HD,Hr,hf⟩:=hz;have K0:=zeI s HD Hr;have HZ:=zeI f (by omega) (by omega)
 have Hl:=fun W=>zkJ s (by omega) Hr W
 have Ho:=fun W=>zgR f hf W
 generalize zcj s=ns at *
 generalize zcj f=nf at *
 have O1:=zhd Hl;have O2:=zhd Ho;have H1:=zhd hR
 have c1:¬ (9223372036854775807<1+ns.length):=by omega
 have c2:¬ (9223372036854775807<1+ns.length+1):=by omega
 have c3:¬ (9223372036854775807<1+ns.length+1+nf.length):=by omega
 have d1:¬ (s<1):=by omega
 have d2:¬ (1073741824<s):=by omega
 have d3:¬ (f<1):=by omega
 have d4:¬ (2<f):=by omega
 clear Hl Ho HR hR;obtain ⟨g0,g1,g2⟩:=zds hb;go_wp2_with fail
 go_region_held3 (fun w'=>w'.cell? ⟨w.heap.size,1,none⟩=some (.int .i64 s)∧w'.cell? ⟨w.heap.size,2,none⟩=some (.int .i64 f)) (first | go_keep | (refine ⟨?_,?_⟩ <;> assumption))
  (first
    | (go_at_call 80;refine (O1.out _ (HS.out.ext (xD (xD hX)))).mono ?_;rintro e w2 ⟨rfl,Hg⟩;obtain ⟨_,k1,k2⟩:=zds (hb.ext (xT (xD (xD (xR _))) Hg)))
    | (go_at_call 80;refine (O2.out _).mono ?_;rintro e w3 ⟨rfl,rfl⟩))
 go_wp2_with fail
 go_ret2
 refine ⟨?_,xT hX (xT (xD (xD (xR _))) Hg)⟩
 rw[H1.out,zpY]
 rfl):P:=h
theorem mcNamea1 {P:Prop} (h:P:=by
 go_enter Tryz.func38,Tryz.ntmps38
 go_wp2_with fail
 refine (zgv _ s f _).mono ?_
 rw[Hm.out];rintro e w1 ⟨rfl,H3⟩;have Hj:=hb.ext H3;obtain ⟨g0,g1,g2⟩:=zds Hj;go_wp2_with fail
 go_region_held3 (fun w'=>w'.cell? ⟨w.heap.size,1,none⟩=some (.int .i64 s)∧w'.cell? ⟨w.heap.size,2,none⟩=some (.int .i64 f)) (first | go_keep | (refine ⟨?_,?_⟩ <;> assumption))
  (first
    | (go_at_call 80;refine (O1.out _ (HS.out.ext (xT hX (xD H3)))).mono ?_;rintro e w2 ⟨rfl,Hg⟩;obtain ⟨_,k1,k2⟩:=zds (Hj.ext (xT (xD (xR _)) Hg)))
    | (go_at_call 80;refine (O2.out _).mono ?_;rintro e w3 ⟨rfl,rfl⟩))
 go_wp2_with fail
 go_ret2
 refine ⟨?_,xT hX (xT (xD H3) Hg)⟩
 rw[Hn.out,zpY]
 rfl):P:=h
theorem mcNamea2 {P:Prop} (h:P:=by
 have H1:=zhd hR;clear HR hR;go_wp2_with fail
 all_goals (first | (exfalso;exact hz ⟨by assumption,by assumption⟩) | (exfalso;simp_all;done) | (go_ret2;refine ⟨by rw[H1.out];rfl,?_⟩;first | exact hD | (have e0:s=0:=(by assumption);subst e0;exact hD)))):P:=h
theorem mcNamea3 {P:Prop} (h:P:=by
 go_enter Tryz.func38,Tryz.ntmps38
 go_wp2_with fail
 refine (zgv _ s f _).mono ?_
 rw[Hm.out];rintro e w1 ⟨rfl,H3⟩;obtain ⟨g0,g1,g2⟩:=zds (hb.ext H3);go_wp2_with fail
 go_ret2
 exact ⟨by rw[Hn.out];rfl,xT hX H3⟩):P:=h
structure StW (w:World):Prop where
 tab:TabW rT w
 pow:Pc Tryz.prog w "internal/strconv.uint64pow10" .u64 Pb
theorem StW.ext {w w':World} (h:StW w) (hE:Ext w w'):StW w':=⟨h.tab.ext hE,Lib.tabBelow_of_tabIs h.pow w' hE⟩
def sv (l:List UInt8):Value:=.string ⟨l.toArray⟩
abbrev Fil:=List UInt8×List UInt8
def Fs (W:World) (v:Value) (fs:List Fil):Prop:=∃ vs:List Value,SlR W 2 v fs.length vs∧∀ (i:Nat) (hi:i<fs.length),vs[i*2]?=some (sv fs[i].1)∧∃ u,vs[i*2+1]?=some u∧Bs W u fs[i].2
theorem Fs.ext {w w':World} {v:Value} {fs:List Fil} (h:Fs w v fs) (hE:Ext w w'):Fs w' v fs:=by
 obtain ⟨vs,h1,h2⟩:=h
 refine ⟨vs,h1.ext hE,fun i hi=>?_⟩
 obtain ⟨h3,u,h4,h5⟩:=h2 i hi
 exact ⟨h3,u,h4,h5.ext hE⟩
theorem Fs.keep {w w':World} {v:Value} {fs:List Fil} (h:Fs w v fs) (hk:∀ p u,w.cell? p=some u→w'.cell? p=some u):Fs w' v fs:=by
 obtain ⟨vs,h1,h2⟩:=h
 refine ⟨vs,h1.keep hk,fun i hi=>?_⟩
 obtain ⟨h3,u,h4,h5⟩:=h2 i hi
 exact ⟨h3,u,h4,SlR.keep h5 hk⟩
theorem Fs.open_ {W:World} {v:Value} {fs:List Fil} (h:Fs W v fs):∃ A c,v=.slice A fs.length c∧fs.length≤c∧c≤9223372036854775807:=by
 obtain ⟨vs,h1,_⟩:=h
 exact xO h1
theorem Fs.at_ {W:World} {A:Option Addr} {m c:Nat} {fs:List Fil} (h:Fs W (.slice A m c) fs) (hn:0<fs.length):m=fs.length∧∃ b H0,A=some ⟨b,H0,none⟩∧∀ (k:Nat) (hk:k<fs.length),
  W.cell? ⟨b,H0+k*2,none⟩=some (sv fs[k].1)∧∃ B d,W.cell? ⟨b,H0+k*2+1,none⟩=some (.slice B fs[k].2.length d)∧Bs W (.slice B fs[k].2.length d) fs[k].2:=by
 obtain ⟨vs,h1,h2⟩:=h;obtain ⟨rfl,b,H0,rfl,hc⟩:=SlR.at_ h1 hn
 refine ⟨rfl,b,H0,rfl,fun k hk=>?_⟩
 obtain ⟨h3,u,h4,h5⟩:=h2 k hk;obtain ⟨B,d,rfl,_,_⟩:=xO h5
 exact ⟨hc (k*2) _ h3,B,d,by rw[Nat.add_assoc];exact hc (k*2+1) _ h4,h5⟩
def zhf (k s f:Int):Bool:=if k=1∨k=2 then decide (s=0∧f=0) else decide ((k=3∨k=4)∧1≤s∧s≤1073741824∧(f=1∨f=2))
def zcj (n:Int):List UInt8:=Pa n.toNat
def zf8 (k s f:Int):List UInt8:=if k=1 then [77] else if k=2 then [77,46,110,101,119] else (if k=3 then 115 else 112)::(zcj s++46::zcj f)
def zas (k s f:Int):Option (List UInt8):=if zhf k s f=true then some (zf8 k s f) else none
def zlV (w:World) (r:Option (List UInt8)) (e:Ending) (w':World):Prop:=e=.returned (.tuple #[sv (r.getD []),.int .i64 (if r.isSome=true then 0 else 2)])∧Ext w w'
theorem zkJ (n:Int) (h0:0≤n) (h1:n≤1073741824) (w:World) (hS:StW w):Calls Tryz.prog 80 #[.int .i64 n] w fun e w'=>e=.returned (.string ⟨(zcj n).toArray⟩)∧Ext w w':=by
 refine (Tryz.strconv_Itoa n (by omega) (by omega) w hS.pow).mono ?_
 rintro e w' ⟨rfl,k,os,rfl⟩
 refine ⟨?_,?_⟩
 ·have:Pd n=zcj n:=by
   obtain ⟨m,rfl⟩:∃ m:Nat,n=m:=⟨n.toNat,by omega⟩
   rw[P9];unfold zcj;rw[Int.toNat_natCast]
  rw[this]
 ·exact Lib.below_grow _ _ (xN _) _ _
theorem zgv (k s f:Int) (w:World):Calls Tryz.prog 28 #[.agg #[.int .u8 k,.int .i64 s,.int .i64 f]] w fun e w'=>e=.returned (.bool (zhf k s f))∧Ext w w':=by
 go_enter Tryz.func28,Tryz.ntmps28
 go_wp2_with fail
 all_goals go_ret
 all_goals refine ⟨ret_bool ?_,xA (xR _) _⟩
 all_goals (rw[P6];unfold zhf;split <;> simp_all <;> omega)
theorem zeI (n:Int) (h0:1≤n) (h1:n≤1073741824):(zcj n).length≤21:=by
 have h:=Lib.itoa_length_le n (by omega) (by omega)
 obtain ⟨m,rfl⟩:∃ m:Nat,n=m:=⟨n.toNat,by omega⟩
 rw[P9] at h;unfold zcj;rw[Int.toNat_natCast]
 exact h
theorem zgR (i:Int) (hi:i=1∨i=2) (w:World):Calls Tryz.prog 80 #[.int .i64 i] w fun e w'=>e=.returned (.string ⟨(zcj i).toArray⟩)∧w=w':=by
 rcases hi with rfl | rfl
 ·exact (Tryz.strconv_Itoa_small 1 (by decide) w).mono (by rintro e w' ⟨rfl,rfl⟩;exact ⟨rfl,rfl⟩)
 ·exact (Tryz.strconv_Itoa_small 2 (by decide) w).mono (by rintro e w' ⟨rfl,rfl⟩;exact ⟨rfl,rfl⟩)
def zb9 (k:Int):List UInt8:=if k=3 then [115] else if k=4 then [112] else []
def zcE (k:Int):List UInt8:=if k=1 then [77] else if k=2 then [77,46,110,101,119] else []
theorem zmD (k:Int) (w:World):Calls Tryz.prog 90 #[.int .u8 k] w fun e w'=>e=.returned (sv (zb9 k))∧w=w':=by
 by_cases h3:k=3
 ·subst h3
  go_enter Tryz.func90,Tryz.ntmps90
  go_wp2_with fail;go_ret
  exact ⟨rfl,rfl⟩
 ·by_cases h4:k=4
  ·subst h4
   go_enter Tryz.func90,Tryz.ntmps90
   go_wp2_with fail;go_ret
   exact ⟨rfl,rfl⟩
  ·have hl:zb9 k=[]:=by unfold zb9;rw[if_neg h3,if_neg h4]
   go_enter Tryz.func90,Tryz.ntmps90
   go_wp2_with fail;go_ret
   exact ⟨by rw[hl];rfl,rfl⟩
theorem zn9 (k:Int) (w:World):Calls Tryz.prog 91 #[.int .u8 k] w fun e w'=>e=.returned (sv (zcE k))∧w=w':=by
 by_cases h3:k=1
 ·subst h3
  go_enter Tryz.func91,Tryz.ntmps91
  go_wp2_with fail;go_ret
  exact ⟨rfl,rfl⟩
 ·by_cases h4:k=2
  ·subst h4
   go_enter Tryz.func91,Tryz.ntmps91
   go_wp2_with fail;go_ret
   exact ⟨rfl,rfl⟩
  ·have hl:zcE k=[]:=by unfold zcE;rw[if_neg h3,if_neg h4]
   go_enter Tryz.func91,Tryz.ntmps91
   go_wp2_with fail;go_ret
   exact ⟨by rw[hl];rfl,rfl⟩
theorem zpY (a:UInt8) (ns nf:List UInt8):((P3 #[a]++P3 ns.toArray)++P3 #[46])++P3 nf.toArray=P3 (a::(ns++46::nf)).toArray:=by
 apply P4
 simp[P5]
theorem zds {W:World} {b:Nat} {t:TypeId} {a v u:Value} (h:Blk W b t #[a,v,u]):W.cell? ⟨b,0,none⟩=some a∧W.cell? ⟨b,1,none⟩=some v∧W.cell? ⟨b,2,none⟩=some u :=
 ⟨h.cell 0 rfl,h.cell 1 rfl,h.cell 2 rfl⟩
theorem zof (k s f:Int) (w:World) (hS:StW w):Calls Tryz.prog 38 #[.agg #[.int .u8 k,.int .i64 s,.int .i64 f]] w (zlV w (zas k s f)):=by
 have HS:=zhd hS;clear hS;have hb:=Blk.new w 49 #[.int .u8 k,.int .i64 s,.int .i64 f]
 have hX:Ext w (w.alloc (.cells #[.int .u8 k,.int .i64 s,.int .i64 f] 49)):=xA (xR _) _
 by_cases hm:zhf k s f=true
 case neg =>
  have hn:zas k s f=none:=by unfold zas;rw[if_neg hm]
  have Hn:=zhd hn;have Hm:=zhd (P7.2 hm);clear hn hm
  go_enter Tryz.func38,Tryz.ntmps38
  go_wp2_with fail
  refine (zgv k s f _).mono ?_
  rw[Hm.out];rintro e w1 ⟨rfl,H3⟩;go_wp2_with fail
  go_ret2
  exact ⟨by rw[Hn.out];rfl,xT hX H3⟩
 case pos =>
  have hn:zas k s f=some (zf8 k s f):=by unfold zas;rw[if_pos hm]
  have Hn:=zhd hn;have Hm:=zhd hm;clear hn
  rcases (by unfold zhf at hm;split at hm <;> simp at hm <;> omega:k=1∨k=2∨((k=3∨k=4)∧1≤s∧s≤1073741824∧(f=1∨f=2))) with rfl | rfl | ⟨hk,HD,Hr,hf⟩
  ·clear hm
   exact mcNamea3
  ·clear hm
   exact mcNamea3
  ·clear hm
   have K0:=zeI s HD Hr;have HZ:=zeI f (by omega) (by omega)
   have Hl:=fun W=>zkJ s (by omega) Hr W
   have Ho:=fun W=>zgR f hf W
   have HQ:zf8 k s f=(if k=3 then 115 else 112)::(zcj s++46::zcj f):=by unfold zf8;rw[if_neg (by omega),if_neg (by omega)]
   rw[HQ] at Hn
   generalize zcj s=ns at *
   generalize zcj f=nf at *
   have O1:=zhd Hl;have O2:=zhd Ho
   have c1:¬ (9223372036854775807<1+ns.length):=by omega
   have c2:¬ (9223372036854775807<1+ns.length+1):=by omega
   have c3:¬ (9223372036854775807<1+ns.length+1+nf.length):=by omega
   clear Hl Ho HQ
   rcases hk with rfl | rfl
   ·have Hn:Hid (zas 3 s f=some (115::(ns++46::nf))):=zhd (by have h:=Hn.out;simpa using h)
    exact mcNamea1
   ·have Hn:Hid (zas 4 s f=some (112::(ns++46::nf))):=zhd (by have h:=Hn.out;simpa using h)
    exact mcNamea1
theorem znY (k s f:Int):zas k s f=if zcE k≠[]∧s=0∧f=0 then some (zcE k) else if zb9 k=[]∨s<1∨1073741824<s∨f<1∨2<f then none else some (zb9 k++(zcj s++46::zcj f)):=by
 by_cases h1:k=1
 ·subst h1
  by_cases h:s=0∧f=0
  ·obtain ⟨rfl,rfl⟩:=h;rfl
  ·rw[if_neg (by simp[zcE];exact fun h2 h3=>h ⟨h2,h3⟩),if_pos (by simp[zb9])]
   unfold zas zhf;rw[if_neg (by simp;exact fun h2 h3=>h ⟨h2,h3⟩)]
 ·by_cases h2:k=2
  ·subst h2
   by_cases h:s=0∧f=0
   ·obtain ⟨rfl,rfl⟩:=h;rfl
   ·rw[if_neg (by simp[zcE];exact fun h2 h3=>h ⟨h2,h3⟩),if_pos (by simp[zb9])]
    unfold zas zhf;rw[if_neg (by simp;exact fun h2 h3=>h ⟨h2,h3⟩)]
  ·rw[if_neg (by simp[zcE,h1,h2])]
   have hm:zhf k s f=decide ((k=3∨k=4)∧1≤s∧s≤1073741824∧(f=1∨f=2)):=by unfold zhf;rw[if_neg (by omega)]
   have hn:zf8 k s f=(if k=3 then 115 else 112)::(zcj s++46::zcj f):=by unfold zf8;rw[if_neg h1,if_neg h2]
   unfold zas zb9;rw[hm,hn]
   by_cases h3:k=3
   ·subst h3
    by_cases h:1≤s∧s≤1073741824∧(f=1∨f=2)
    ·obtain ⟨ha,hb,hc⟩:=h
     rcases hc with rfl | rfl <;> simp[ha,hb] <;> omega
    ·rw[if_neg (by simp;omega),if_pos (by simp;omega)]
   ·by_cases h4:k=4
    ·subst h4
     by_cases h:1≤s∧s≤1073741824∧(f=1∨f=2)
     ·obtain ⟨ha,hb,hc⟩:=h
      rcases hc with rfl | rfl <;> simp[ha,hb] <;> omega
     ·rw[if_neg (by simp;omega),if_pos (by simp;omega)]
    ·rw[if_neg (by simp;omega),if_pos (by simp[h3,h4])]
theorem zmO (k:Int):(k=1∧zcE k=[77]∧zb9 k=[])∨(k=2∧zcE k=[77,46,110,101,119]∧zb9 k=[])∨(k=3∧zcE k=[]∧zb9 k=[115])∨(k=4∧zcE k=[]∧zb9 k=[112])∨(zcE k=[]∧zb9 k=[]):=by
 by_cases h1:k=1
 ·subst h1;exact .inl ⟨rfl,rfl,rfl⟩
 ·by_cases h2:k=2
  ·subst h2;exact .inr (.inl ⟨rfl,rfl,rfl⟩)
  ·by_cases h3:k=3
   ·subst h3;exact .inr (.inr (.inl ⟨rfl,rfl,rfl⟩))
   ·by_cases h4:k=4
    ·subst h4;exact .inr (.inr (.inr (.inl ⟨rfl,rfl,rfl⟩)))
    ·exact .inr (.inr (.inr (.inr ⟨by unfold zcE;rw[if_neg h1,if_neg h2],by unfold zb9;rw[if_neg h3,if_neg h4]⟩)))
theorem zeA (k s f:Int) (w:World) (hS:StW w):Calls Tryz.prog 48 #[.agg #[.int .u8 k,.int .i64 s,.int .i64 f]] w (zlV w (zas k s f)):=by
 have HS:=zhd hS;clear hS;have hb:=Blk.new w 49 #[.int .u8 k,.int .i64 s,.int .i64 f]
 have hX:Ext w (w.alloc (.cells #[.int .u8 k,.int .i64 s,.int .i64 f] 49)):=xA (xR _) _
 rw[znY];obtain ⟨pl,HA⟩:∃ pl,zcE k=pl:=⟨_,rfl⟩;obtain ⟨le,Hy⟩:∃ le,zb9 k=le:=⟨_,rfl⟩;have HO:=zmO k
 rw[HA,Hy] at HO ⊢
 have L1:=fun W=>zmD k W
 have L2:=fun W=>zn9 k W
 rw[HA] at L2;rw[Hy] at L1;have O1:=zhd L1;have O2:=zhd L2;clear L1 L2 HA Hy;obtain ⟨R,hR⟩:∃ R,(if pl≠[]∧s=0∧f=0 then some pl else if le=[]∨s<1∨1073741824<s∨f<1∨2<f then none else some (le++(zcj s++46::zcj f)))=R:=⟨_,rfl⟩;rw[hR];have HR:=zhd hR;clear hR
 have hD:Ext w (w.alloc (.cells #[.int .u8 k,.int .i64 s,.int .i64 f] 49)).drew:=xD hX
 go_enter Tryz.func48,Tryz.ntmps48
 go_wp2_with fail
 go_region_held3 (fun w'=>w'.cell? ⟨w.heap.size,0,none⟩=some (.int .u8 k)) (first | go_keep | assumption)
  (first
    | (go_at_call 90;refine (O1.out _).mono ?_;rintro e w2 ⟨rfl,rfl⟩)
    | (go_at_call 91;refine (O2.out _).mono ?_;rintro e w3 ⟨rfl,rfl⟩))
 clear O1 O2;simp only[sv]
 rcases HO with ⟨rfl,rfl,rfl⟩ | ⟨rfl,rfl,rfl⟩ | ⟨rfl,rfl,rfl⟩ | ⟨rfl,rfl,rfl⟩ | ⟨rfl,rfl⟩
 ·by_cases hz:s=0∧f=0
  ·obtain ⟨rfl,rfl⟩:=hz
   have hR:R=some [77]:=HR.out.symm
   have H1:=zhd hR;clear HR hR;go_wp2_with fail
   go_ret2
   exact ⟨by rw[H1.out];rfl,hD⟩
  ·have hR:R=none:=by rw[←HR.out,if_neg (fun h=>hz h.2),if_pos (.inl rfl)]
   exact mcNamea2
 ·by_cases hz:s=0∧f=0
  ·obtain ⟨rfl,rfl⟩:=hz
   have hR:R=some [77,46,110,101,119]:=HR.out.symm
   have H1:=zhd hR;clear HR hR;go_wp2_with fail
   go_ret2
   exact ⟨by rw[H1.out];rfl,hD⟩
  ·have hR:R=none:=by rw[←HR.out,if_neg (fun h=>hz h.2),if_pos (.inl rfl)]
   exact mcNamea2
 ·by_cases hz:1≤s∧s≤1073741824∧(f=1∨f=2)
  ·have hR:R=some (115::(zcj s++46::zcj f)):=by
    rw[←HR.out,if_neg (fun h=>h.1 rfl),if_neg (by rintro (h | h | h | h | h) <;> first | (cases h;done) | omega)]
    rfl
   exact mcNamea0
  ·have hR:R=none:=by rw[←HR.out,if_neg (fun h=>h.1 rfl),if_pos (by omega)]
   have H1:=zhd hR;clear HR hR;go_wp2_with fail
   all_goals (first | (exfalso;omega) | (go_ret2;exact ⟨by rw[H1.out];rfl,hD⟩))
 ·by_cases hz:1≤s∧s≤1073741824∧(f=1∨f=2)
  ·have hR:R=some (112::(zcj s++46::zcj f)):=by
    rw[←HR.out,if_neg (fun h=>h.1 rfl),if_neg (by rintro (h | h | h | h | h) <;> first | (cases h;done) | omega)]
    rfl
   exact mcNamea0
  ·have hR:R=none:=by rw[←HR.out,if_neg (fun h=>h.1 rfl),if_pos (by omega)]
   have H1:=zhd hR;clear HR hR;go_wp2_with fail
   all_goals (first | (exfalso;omega) | (go_ret2;exact ⟨by rw[H1.out];rfl,hD⟩))
 ·have hR:R=none:=HR.out.symm
  have H1:=zhd hR;clear HR hR;go_wp2_with fail
  go_ret2
  exact ⟨by rw[H1.out];rfl,hD⟩
theorem mcMan1a0 {P:Prop} (h:P:=by
 go_wp2_with (go_at_call 42;refine (zaZ _ _ _ _).mono ?_;rintro e w2 ⟨rfl,rfl⟩;first | rw[hcn] | rw[show inB (-1) 1 4=false from rfl])
 all_goals go_ret
 all_goals exact ⟨by first | rfl | (exact ret_bool (by simp;omega)),zdz H7.out _⟩):P:=h
theorem mcMan1a1 {P:Prop} (h:P:=by
 subst hR
 go_wp2_with (go_at_call 42;refine (zaZ _ _ _ _).mono ?_;rintro e w2 ⟨rfl,rfl⟩;first | rw[hcn] | rw[show inB (-1) 1 4=false from rfl])
 go_ret
 exact ⟨rfl,zdz H7.out _⟩):P:=h
structure Sg4 where
 seq:Int
 fmt:Int
 first:Int
 count:Int
deriving DecidableEq
def Sg4.cells (s:Sg4):List Value:=[.int .i64 s.seq,.int .i64 s.fmt,.int .i64 s.first,.int .i64 s.count]
def zaF (l:List Sg4):List Value:=l.flatMap Sg4.cells
theorem zje (l:List Sg4):(zaF l).length=l.length*4:=by
 induction l with
 | nil=>rfl
 | cons e l ih=>simp[zaF,Sg4.cells] at ih ⊢;omega
def Sgs (w:World) (v:Value) (l:List Sg4):Prop:=SlR w 4 v l.length (zaF l)
theorem Sgs.ext {w w':World} {v:Value} {l:List Sg4} (h:Sgs w v l) (he:Ext w w'):Sgs w' v l:=SlR.ext h he
theorem Sgs.keep {w w':World} {v:Value} {l:List Sg4} (h:Sgs w v l) (hk:∀ p u,w.cell? p=some u→w'.cell? p=some u):Sgs w' v l:=SlR.keep h hk
theorem Sgs.open_ {W:World} {v:Value} {l:List Sg4} (h:Sgs W v l):∃ A c,v=.slice A l.length c∧l.length≤c∧c≤9223372036854775807:=xO h
theorem Sgs.nil (w:World):Sgs w (.slice none 0 0) []:=SlR.nil w 4
theorem zev (l:List Sg4) (k:Nat) (h:k<l.length) (i:Nat) (hi:i<4):(zaF l)[k*4+i]?=l[k].cells[i]?:=by
 induction l generalizing k with
 | nil=>simp at h
 | cons e l ih =>
  rw[show zaF (e::l)=e.cells++zaF l from rfl]
  have hl:e.cells.length=4:=rfl
  cases k with
  | zero=>rw[List.getElem?_append_left (by omega)];simp
  | succ k =>
   rw[List.getElem?_append_right (by omega),hl,show (k+1)*4+i-4=k*4+i from by omega]
   simpa using ih k (by simpa using h)
theorem Sgs.at_ {w:World} {A:Option Addr} {m c:Nat} {l:List Sg4} (h:Sgs w (.slice A m c) l) (hn:0<l.length):m=l.length∧∃ b H0,A=some ⟨b,H0,none⟩∧∀ (k:Nat) (hk:k<l.length),
  w.cell? ⟨b,H0+k*4,none⟩=some (.int .i64 l[k].seq)∧w.cell? ⟨b,H0+k*4+1,none⟩=some (.int .i64 l[k].fmt)∧w.cell? ⟨b,H0+k*4+2,none⟩=some (.int .i64 l[k].first)∧w.cell? ⟨b,H0+k*4+3,none⟩=some (.int .i64 l[k].count):=by
 obtain ⟨rfl,b,H0,rfl,hc⟩:=SlR.at_ h hn
 refine ⟨rfl,b,H0,rfl,fun k hk=>⟨?_,?_,?_,?_⟩⟩
 ·exact hc (k*4) _ (zev l k hk 0 (by omega))
 ·exact hc (k*4+1) _ (zev l k hk 1 (by omega))
 ·exact hc (k*4+2) _ (zev l k hk 2 (by omega))
 ·exact hc (k*4+3) _ (zev l k hk 3 (by omega))
structure Mf where
 next:Int
 term:Int
 vote:Int
 sq:Int
 sf:Int
 segs:List Sg4
deriving DecidableEq
def inB (n lo hi:Int):Bool:=decide (lo≤n∧n≤hi)
def zbC (next seq fmt:Int):Bool:=decide (1≤seq∧seq≤next-1∧(fmt=1∨fmt=2))
def zbv (m:Mf) (i:Nat) (s:Sg4):Bool :=
 zbC m.next s.seq s.fmt&&decide (s.seq≠m.sq)&&inB s.first 1 1073741820&&(m.segs.take i).all (fun t=>decide (t.seq≠s.seq)) &&
 (match m.segs[i-1]? with | none=>true | some p=>decide (i=0∨s.first=p.first+p.count))&&(inB s.count 1 4||(decide (s.count = -1)&&decide (i+1=m.segs.length)))
def zcr (m:Mf):Bool:=inB m.next 1 1073741824&&inB m.term 0 1073741824&&inB m.vote 0 5&&decide (m.segs.length≤60)
def zcI (m:Mf):Bool:=decide (m.sq=0∧m.sf=0)||zbC m.next m.sq m.sf
def zbH (m:Mf):Nat→Bool
 | 0=>true
 | k+1=>zbH m k&&(match m.segs[k]? with | none=>false | some s=>zbv m k s)
def zax (m:Mf):Bool:=zcr m&&zcI m&&zbH m m.segs.length
theorem zaZ (n lo hi:Int) (w:World):Calls Tryz.prog 42 #[.int .i64 n,.int .i64 lo,.int .i64 hi] w fun e w'=>e=.returned (.bool (inB n lo hi))∧w=w':=by
 go_enter Tryz.func42,Tryz.ntmps42
 go_wp2_with fail
 all_goals go_ret
 all_goals exact ⟨ret_bool (by rw[P6];unfold inB;simp;omega),rfl⟩
theorem zan {W:World} {b:Nat} {t:TypeId} {a v u x y z:Value} (h:Blk W b t #[a,v,u,x,y,z]):W.cell? ⟨b,0,none⟩=some a∧W.cell? ⟨b,1,none⟩=some v∧W.cell? ⟨b,2,none⟩=some u∧W.cell? ⟨b,3,none⟩=some x∧W.cell? ⟨b,4,none⟩=some y∧W.cell? ⟨b,5,none⟩=some z :=
 ⟨h.cell 0 rfl,h.cell 1 rfl,h.cell 2 rfl,h.cell 3 rfl,h.cell 4 rfl,h.cell 5 rfl⟩
theorem zay {W:World} {b:Nat} {t:TypeId} {a v u x:Value} (h:Blk W b t #[a,v,u,x]):W.cell? ⟨b,0,none⟩=some a∧W.cell? ⟨b,1,none⟩=some v∧W.cell? ⟨b,2,none⟩=some u∧W.cell? ⟨b,3,none⟩=some x :=
 ⟨h.cell 0 rfl,h.cell 1 rfl,h.cell 2 rfl,h.cell 3 rfl⟩
theorem zfq (next term vote sq sf:Int) (v:Value) (seq fmt:Int) (hn:1≤next∧next≤1073741824) (w:World) :
  Calls Tryz.prog 43 #[.agg #[.int .i64 next,.int .i64 term,.int .i64 vote,.int .i64 sq,.int .i64 sf,v],.int .i64 seq,.int .i64 fmt] w fun e w'=>e=.returned (.bool (zbC next seq fmt))∧Ext w w':=by
 have h1:IntKind.i64.wrap (next-1)=next-1:=by rw[IntKind.wrap_i64];omega
 obtain ⟨h2,h3⟩:=hn
 go_enter Tryz.func43,Tryz.ntmps43
 go_wp2_with (go_at_call 42;refine (zaZ _ _ _ _).mono ?_;rintro e w1 ⟨rfl,rfl⟩)
 all_goals go_ret
 all_goals refine ⟨ret_bool ?_,xA (xR _) _⟩
 all_goals (rw[P6];simp[zbC,inB] at *;omega)
def mfC (m:Mf) (v:Value):Array Value:=#[.int .i64 m.next,.int .i64 m.term,.int .i64 m.vote,.int .i64 m.sq,.int .i64 m.sf,v]
theorem zdz {a b:World} (h:Ext a b) (n:Nat):Ext a (b.drewN n):=zmd h n
theorem zm6 {w w':World} {b H0:Nat} {l:List Sg4} (he:Ext w w') (h:∀ (k:Nat) (hk:k<l.length),
   w.cell? ⟨b,H0+k*4,none⟩=some (.int .i64 l[k].seq)∧w.cell? ⟨b,H0+k*4+1,none⟩=some (.int .i64 l[k].fmt)∧w.cell? ⟨b,H0+k*4+2,none⟩=some (.int .i64 l[k].first)∧w.cell? ⟨b,H0+k*4+3,none⟩=some (.int .i64 l[k].count)) :
  ∀ (k:Nat) (hk:k<l.length),
   w'.cell? ⟨b,H0+k*4,none⟩=some (.int .i64 l[k].seq)∧w'.cell? ⟨b,H0+k*4+1,none⟩=some (.int .i64 l[k].fmt)∧w'.cell? ⟨b,H0+k*4+2,none⟩=some (.int .i64 l[k].first)∧w'.cell? ⟨b,H0+k*4+3,none⟩=some (.int .i64 l[k].count) :=
 fun k hk=>⟨he.cell (h k hk).1,he.cell (h k hk).2.1,he.cell (h k hk).2.2.1,he.cell (h k hk).2.2.2⟩
theorem zoO (m:Mf) (v:Value) (i:Nat) (hi:i<m.segs.length) (HY:m.segs.length≤60) (hn:1≤m.next∧m.next≤1073741824) (Hc:∀ t∈m.segs.take i,1≤t.first∧t.first≤1073741820∧-1≤t.count∧t.count≤4) (w:World) (hS:Sgs w v m.segs) :
  Calls Tryz.prog 44 #[.agg #[.int .i64 m.next,.int .i64 m.term,.int .i64 m.vote,.int .i64 m.sq,.int .i64 m.sf,v],.int .i64 i] w fun e w'=>e=.returned (.bool (zbv m i m.segs[i]))∧Ext w w':=by
 obtain ⟨A,c,rfl,Hk,HN⟩:=hS.open_;obtain ⟨_,b,H0,rfl,H5⟩:=hS.at_ (by omega);obtain ⟨s0,s1,s2,s3⟩:=H5 i hi;obtain ⟨s,hs⟩:∃ s,m.segs[i]=s:=⟨_,rfl⟩
 rw[hs] at s0 s1 s2 s3 ⊢
 have HC:=zhd H5
 have HB:zbv m i s=zbv m i s:=rfl
 obtain ⟨R,hR⟩:∃ R,zbv m i s=R:=⟨_,rfl⟩;rw[hR];have HR:=zhd hR;have Hs:=zhd hs;have H9:=zhd Hc;have Hd:=Blk.new w 30 #[.int .i64 m.next,.int .i64 m.term,.int .i64 m.vote,.int .i64 m.sq,.int .i64 m.sf,.slice (some ⟨b,H0,none⟩) m.segs.length c]
 have hX:Ext w (w.alloc (.cells #[.int .i64 m.next,.int .i64 m.term,.int .i64 m.vote,.int .i64 m.sq,.int .i64 m.sf,.slice (some ⟨b,H0,none⟩) m.segs.length c] 30)):=xA (xR _) _
 obtain ⟨m0,m1,m2,m3,m4,m5⟩:=zan Hd;have t0:=hX.cell s0;have t1:=hX.cell s1;have t2:=hX.cell s2;have t3:=hX.cell s3
 have K3:(i:Int)<(m.segs.length:Int):=by omega
 have HM:Blk ((w.alloc (.cells #[.int .i64 m.next,.int .i64 m.term,.int .i64 m.vote,.int .i64 m.sq,.int .i64 m.sf,.slice (some ⟨b,H0,none⟩) m.segs.length c] 30)).alloc (.cells #[.int .i64 s.seq,.int .i64 s.fmt,.int .i64 s.first,.int .i64 s.count] 74)) (w.heap.size+1) 74 #[.int .i64 s.seq,.int .i64 s.fmt,.int .i64 s.first,.int .i64 s.count]:=by
  have:=Blk.new (w.alloc (.cells #[.int .i64 m.next,.int .i64 m.term,.int .i64 m.vote,.int .i64 m.sq,.int .i64 m.sf,.slice (some ⟨b,H0,none⟩) m.segs.length c] 30)) 74 #[.int .i64 s.seq,.int .i64 s.fmt,.int .i64 s.first,.int .i64 s.count]
  rwa [xS] at this
 have HL:Ext w ((w.alloc (.cells #[.int .i64 m.next,.int .i64 m.term,.int .i64 m.vote,.int .i64 m.sq,.int .i64 m.sf,.slice (some ⟨b,H0,none⟩) m.segs.length c] 30)).alloc (.cells #[.int .i64 s.seq,.int .i64 s.fmt,.int .i64 s.first,.int .i64 s.count] 74)):=xA hX _
 have Hj:=Hd.alloc (.cells #[.int .i64 s.seq,.int .i64 s.fmt,.int .i64 s.first,.int .i64 s.count] 74)
 have Hf:=fun (W:World)=>zfq m.next m.term m.vote m.sq m.sf (.slice (some ⟨b,H0,none⟩) m.segs.length c) s.seq s.fmt hn W
 have Ht:=zhd Hf;have K4:=zhd hn;clear hR hs Hc H5 Hf hn HB hS
 go_enter Tryz.func44,Tryz.ntmps44
 go_wp2_with fail
 refine (Ht.out _).mono ?_
 rintro e w1 ⟨rfl,H3⟩;have HE:=zhd (xT HL H3);have E0:=HE;obtain ⟨M0,M1,M2,M3,M4,M5⟩:=zan (Hj.ext H3);obtain ⟨S0,S1,S2,S3⟩:=zay (HM.ext H3);have HI:=zm6 HE.out HC.out;have HH:=zhd HI;clear HI HC Ht Hd Hj HM hX HL H3 HE m0 m1 m2 m3 m4 m5 t0 t1 t2 t3 s0 s1 s2 s3 M0 M1 M2 M4 S1
 cases hf:zbC m.next s.seq s.fmt with
 | false =>
  have hR:R=false:=by rw[←HR.out];unfold zbv;rw[hf];rfl
  subst hR;clear HR hf;go_wp2_with fail;go_ret
  exact ⟨rfl,E0.out⟩
 | true =>
 by_cases hq:s.seq=m.sq
 ·have hR:R=false:=by rw[←HR.out];unfold zbv;simp[hq]
  subst hR;clear HR hf;go_wp2_with fail;go_ret
  exact ⟨rfl,E0.out⟩
 cases hw:inB s.first 1 1073741820 with
 | false =>
  have hR:R=false:=by rw[←HR.out];unfold zbv;simp[hw]
  subst hR;clear HR hf
  go_wp2_with (go_at_call 42;refine (zaZ _ _ _ _).mono ?_;rintro e w2 ⟨rfl,rfl⟩;rw[hw])
  go_ret
  exact ⟨rfl,E0.out⟩
 | true =>
 have H1:Hid (((m.segs.take i).all (fun t=>decide (t.seq≠s.seq)) &&
 (match m.segs[i-1]? with | none=>true | some p=>decide (i=0∨s.first=p.first+p.count))&&(inB s.count 1 4||(decide (s.count = -1)&&decide (i+1=m.segs.length))))=R):=zhd (by
  rw[←HR.out];unfold zbv;simp[hf,hw,hq];try rfl)
 clear HR hf
 go_wp2_with (go_at_call 42;refine (zaZ _ _ _ _).mono ?_;rintro e w2 ⟨rfl,rfl⟩;rw[hw])
 go_loopw [6] (fun x W=>∃ j:Nat,j≤i∧x=.int .i64 j∧Hid (∀ q (_:q<j) (h2:q<m.segs.length),m.segs[q].seq≠s.seq)∧Ext w1 W) (fun x _=>i-(intOf x).toNat)
 case atStart=>exact ⟨0,by omega,rfl,zhd fun q hq=>by omega,xR _⟩
 case round =>
  obtain ⟨j,hj,rfl,Hn,H2⟩:=hrel;have H7:=zhd (xT E0.out H2);have HJ:=zm6 H2 HH.out;have Hu:=zhd HJ;have N3:=H2.cell M3;have N5:=H2.cell M5;have T0:=H2.cell S0;have T2:=H2.cell S2;have T3:=H2.cell S3;have Hv:=zhd H2;clear HJ HH H2 M3 M5 S0 S2 S3
  by_cases hlt:j<i
  ·have HW:j<m.segs.length:=by omega
   obtain ⟨c0,_,_,_⟩:=Hu.out j HW
   have hp:m.segs[j].seq=s.seq→R=false:=fun h=>by
    rw[←H1.out]
    have:((m.segs.take i).all (fun t=>decide (t.seq≠s.seq)))=false:=by
     rw[List.all_eq_false]
     exact ⟨m.segs[j],P0.2 ⟨j,by omega,rfl⟩,by simpa using h⟩
    rw[this];simp
   have hq:m.segs[j].seq≠s.seq→∀ q (_:q<j+1) (h2:q<m.segs.length),m.segs[q].seq≠s.seq:=fun h q h3 h2=>by
     by_cases e:q=j
     ·subst e;exact h
     ·exact Hn.out q (by omega) h2
   have Hp:=zhd hp;have Hq:=zhd hq;clear hp hq H1 Hn
   generalize m.segs[j].seq=x at *
   generalize s.seq=y at *
   by_cases hx:x=y
   ·have hR:=Hp.out hx
    subst hR hx;go_wp2_with fail
    go_quiet (fail)
    go_wp2_with fail;go_ret
    exact ⟨rfl,zdz H7.out _⟩
   ·have HV:=zhd (Hq.out hx)
    go_wp2_with fail
    go_quiet (fail)
    go_wp2_with fail
    go_roundw
    case rel=>exact ⟨j+1,by omega,by go_num,HV,zdz Hv.out _⟩
    case measure=>simp[intOf];omega
  ·obtain rfl:j=i:=by omega
   have Hi:((m.segs.take j).all (fun t=>decide (t.seq≠s.seq)))=true:=by
    rw[P2];intro x hx;obtain ⟨q,hq,rfl⟩:=P0.1 hx
    simpa using Hn.out q (by omega) (by omega)
   have H8:Hid ((((match m.segs[j-1]? with | none=>true | some p=>decide (j=0∨s.first=p.first+p.count))&&(inB s.count 1 4||(decide (s.count = -1)&&decide (j+1=m.segs.length)))))=R):=zhd (by
    rw[←H1.out,Hi];rfl)
   clear H1 Hi Hn Hv
   cases j with
   | zero =>
    have H6:Hid ((inB s.count 1 4||(decide (s.count = -1)&&decide (0+1=m.segs.length)))=R):=zhd (by
     rw[←H8.out];cases m.segs[0-1]? <;> simp)
    clear H8 Hu N3
    have hz:decide ((0:Int)<((0:Nat):Int))=false:=by decide
    go_wp2_with fail
    go_quiet (fail)
    cases hcn:inB s.count 1 4 with
    | true =>
     have hR:R=true:=by rw[←H6.out,hcn];rfl
     exact mcMan1a1
    | false =>
     by_cases hc1m:s.count = -1
     ·by_cases hlast:0+1=m.segs.length
      ·have hR:R=true:=by rw[←H6.out];simp[hc1m,hlast]
       have HX:((m.segs.length:Int)-1)=(0:Int):=by omega
       subst hR;clear hlast
       exact mcMan1a0
      ·have hR:R=false:=by rw[←H6.out,hcn];simp[hc1m,hlast]
       subst hR
       exact mcMan1a0
     ·have hR:R=false:=by rw[←H6.out,hcn];simp[hc1m]
      exact mcMan1a1
   | succ k =>
    have hk:k<m.segs.length:=by omega
    obtain ⟨_,_,d2,d3⟩:=Hu.out k hk
    obtain ⟨p1,p2,p3,p4⟩:=H9.out m.segs[k] (P0.2 ⟨k,by omega,rfl⟩)
    have HP:m.segs[k+1-1]?=some m.segs[k]:=by rw[Nat.add_sub_cancel];exact P1 hk
    have Hw:Hid ((decide (s.first=m.segs[k].first+m.segs[k].count)&&(inB s.count 1 4||(decide (s.count = -1)&&decide (k+1+1=m.segs.length))))=R):=zhd (by
     rw[←H8.out,HP];simp)
    clear H8 Hu HP H9
    generalize m.segs[k].first=pf at *
    generalize m.segs[k].count=pc at *
    have K5:IntKind.i64.wrap (pf+pc)=pf+pc:=by rw[IntKind.wrap_i64];omega
    by_cases hch:s.first=pf+pc
    ·have H6:Hid ((inB s.count 1 4||(decide (s.count = -1)&&decide (k+1+1=m.segs.length)))=R):=zhd (by
      rw[←Hw.out];simp[hch])
     clear Hw;go_wp2_with fail
     go_quiet (fail)
     cases hcn:inB s.count 1 4 with
     | true =>
      have hR:R=true:=by rw[←H6.out,hcn];rfl
      exact mcMan1a1
     | false =>
      by_cases hc1m:s.count = -1
      ·by_cases hlast:(k+1)+1=m.segs.length
       ·have hR:R=true:=by rw[←H6.out];simp[hc1m,hlast]
        have HX:((m.segs.length:Int)-1)=((k+1):Int):=by omega
        subst hR;clear hlast
        exact mcMan1a0
       ·have hR:R=false:=by rw[←H6.out,hcn];simp[hc1m,hlast]
        subst hR
        exact mcMan1a0
      ·have hR:R=false:=by rw[←H6.out,hcn];simp[hc1m]
       exact mcMan1a1
    ·have hR:R=false:=by rw[←Hw.out];simp[hch]
     subst hR;clear Hw;go_wp2_with fail
     go_quiet (fail)
     go_wp2_with fail;go_ret
     exact ⟨rfl,zdz H7.out _⟩
theorem mcMan2a0 {P:Prop} (h:P:=by
 obtain ⟨j,hj,rfl,Hx,H2⟩:=hrel;have H7:=zhd (xT E0.out H2);have Hv:=zhd H2;obtain ⟨m0,m1,m2,m3,m4,m5⟩:=zan (Hb.out.ext H2);clear H2
 by_cases hlt:j<m.segs.length
 ·have Hf:=zoO m (.slice A m.segs.length c) j hlt h4 Hn.out (zgp Hx.out) wr (HS.out.ext H7.out)
  have Ht:=zhd Hf;clear Hf
  have K1:(j:Int)<(m.segs.length:Int):=by omega
  go_wp2_with fail
  refine Ht.out.mono ?_
  rintro e w4 ⟨rfl,HK⟩
  cases hso:zbv m j m.segs[j] with
  | false =>
   have hR:R=2:=by rw[←H8.out,zfy hlt hso _ hlt];rfl
   subst hR;go_wp2_with fail;go_ret
   exact ⟨rfl,xT H7.out HK⟩
  | true =>
   have HT:zbH m (j+1)=true:=by
    unfold zbH;rw[Hx.out,P1 hlt];simpa using hso
   have HU:=zhd HT;clear HT hso;go_wp2_with fail
   go_roundw
   case rel=>exact ⟨j+1,by omega,by go_num,HU,xT Hv.out HK⟩
   case measure=>simp[intOf];omega
 ·obtain rfl:j=m.segs.length:=by omega
  have hR:R=0:=by rw[←H8.out,Hx.out];rfl
  subst hR;go_wp2_with fail;go_ret
  exact ⟨rfl,H7.out⟩):P:=h
theorem zth:Tryz.prog.underlying 27=some (.struct (Tryz.prog.fieldsOf 27)):=by kernel_rfl
theorem zur:Tryz.prog.stoodInHeld 27=false:=by kernel_rfl
theorem zrK (a b c d:Int) (W:World):(Op.equalIn 10000 27 (.agg #[.int .i64 a,.int .i64 b]) (.agg #[.int .i64 c,.int .i64 d])).run Tryz.prog W=.ok (decide (a=c∧b=d)) W:=by
 have e:decide (a=c∧b=d)=(a==c&&b==d):=by
  rw[P6]
  simp
 rw[run_equalIn_struct W 9999 27 _ _ zth zur,e]
 cases h0:(a==c) <;> cases h1:(b==d) <;> simp[go_sem,h0,h1]
theorem zeF {n s f:Int} (h:zbC n s f=true):1≤s∧s≤n-1∧(f=1∨f=2):=by simpa [zbC] using h
theorem inB_b {n a b:Int}:inB n a b=true↔(a≤n∧n≤b):=by simp[inB]
theorem ziK {m:Mf} {i:Nat} {s:Sg4} (h:zbv m i s=true):zbC m.next s.seq s.fmt=true∧s.seq≠m.sq∧(1≤s.first∧s.first≤1073741820)∧(∀ t∈m.segs.take i,t.seq≠s.seq)∧((1≤s.count∧s.count≤4)∨(s.count = -1∧i+1=m.segs.length)):=by
 unfold zbv at h;simp only[P8,Bool.or_eq_true,decide_eq_true_eq,P2,inB_b] at h;obtain ⟨⟨⟨⟨⟨h1,h2⟩,h3⟩,h4⟩,_⟩,h5⟩:=h
 exact ⟨h1,h2,h3,h4,h5⟩
theorem zhs {m:Mf}:∀ {k:Nat},zbH m k=true→∀ i,i<k→∃ s,m.segs[i]?=some s∧zbv m i s=true
 | 0,_,i,hi=>by omega
 | k+1,h,i,hi=>by
  unfold zbH at h;rw[P8] at h
  by_cases e:i=k
  ·subst e
   have h2:=h.2
   cases hs:m.segs[i]? with
   | none=>rw[hs] at h2;cases h2
   | some s=>rw[hs] at h2;exact ⟨s,rfl,h2⟩
  ·exact zhs h.1 i (by omega)
theorem zgp {m:Mf} {k:Nat} (h:zbH m k=true):∀ t∈m.segs.take k,1≤t.first∧t.first≤1073741820∧-1≤t.count∧t.count≤4:=by
 intro t ht;obtain ⟨q,hq,rfl⟩:=P0.1 ht;obtain ⟨s,hs,ho⟩:=zhs h q (by omega);rw[P1 (by omega)] at hs
 cases hs
 obtain ⟨_,_,h3,_,h5⟩:=ziK ho;omega
theorem zfy {m:Mf} {i:Nat} (hi:i<m.segs.length) (h:zbv m i m.segs[i]=false):∀ k,i<k→zbH m k=false:=by
 intro k hk;rw[P7];intro ht;obtain ⟨s,hs,ho⟩:=zhs ht i hk;rw[P1 hi] at hs
 cases hs
 rw[h] at ho;cases ho
theorem zk0 (m:Mf) (v:Value) (w:World) (hS:Sgs w v m.segs) :
  Calls Tryz.prog 10 #[.agg #[.int .i64 m.next,.int .i64 m.term,.int .i64 m.vote,.int .i64 m.sq,.int .i64 m.sf,v]] w fun e w'=>e=.returned (.int .i64 (if zax m then 0 else 2))∧Ext w w':=by
 obtain ⟨A,c,rfl,Hk,HN⟩:=hS.open_;obtain ⟨R,hR⟩:∃ R:Int,(if zax m then 0 else 2)=R:=⟨_,rfl⟩;rw[hR];have HR:=zhd hR;have HS:=zhd hS;have Hd:=Blk.new w 30 #[.int .i64 m.next,.int .i64 m.term,.int .i64 m.vote,.int .i64 m.sq,.int .i64 m.sf,.slice A m.segs.length c]
 have hX:Ext w (w.alloc (.cells #[.int .i64 m.next,.int .i64 m.term,.int .i64 m.vote,.int .i64 m.sq,.int .i64 m.sf,.slice A m.segs.length c] 30)):=xA (xR _) _
 obtain ⟨m0,m1,m2,m3,m4,m5⟩:=zan Hd;have E0:=zhd hX;have Hb:=zhd Hd;clear hR hS hX Hd
 have H4:zcr m=false→R=2:=fun h=>by rw[←HR.out];unfold zax;rw[h];rfl
 go_enter Tryz.func10,Tryz.ntmps10
 cases h1:inB m.next 1 1073741824 with
 | false =>
  have:=H4 (by unfold zcr;rw[h1];rfl)
  subst this
  go_wp2_with (go_at_call 42;refine (zaZ _ _ _ _).mono ?_;rintro e w2 ⟨rfl,rfl⟩;rw[h1])
  go_ret
  exact ⟨rfl,E0.out⟩
 | true =>
 cases h2:inB m.term 0 1073741824 with
 | false =>
  have:=H4 (by unfold zcr;rw[h1,h2];rfl)
  subst this
  go_wp2_with (go_at_call 42;refine (zaZ _ _ _ _).mono ?_;rintro e w2 ⟨rfl,rfl⟩;first | rw[h1] | rw[h2])
  go_ret
  exact ⟨rfl,E0.out⟩
 | true =>
 cases h3:inB m.vote 0 5 with
 | false =>
  have:=H4 (by unfold zcr;rw[h1,h2,h3];rfl)
  subst this
  go_wp2_with (go_at_call 42;refine (zaZ _ _ _ _).mono ?_;rintro e w2 ⟨rfl,rfl⟩;first | rw[h1] | rw[h2] | rw[h3])
  go_ret
  exact ⟨rfl,E0.out⟩
 | true =>
 by_cases h4:m.segs.length≤60
 case neg =>
  have:=H4 (by unfold zcr;rw[h1,h2,h3];simpa using h4)
  subst this
  have h5:(60:Int)<(m.segs.length:Int):=by omega
  go_wp2_with (go_at_call 42;refine (zaZ _ _ _ _).mono ?_;rintro e w2 ⟨rfl,rfl⟩;first | rw[h1] | rw[h2] | rw[h3])
  go_ret
  exact ⟨rfl,E0.out⟩
 have h5:¬ (60:Int)<(m.segs.length:Int):=by omega
 have Ha:zcr m=true:=by unfold zcr;rw[h1,h2,h3];simpa using h4
 have H1:Hid ((if (zcI m&&zbH m m.segs.length)=true then (0:Int) else 2)=R):=zhd (by rw[←HR.out];unfold zax;rw[Ha];rfl)
 have hn:=inB_b.1 h1;have Hn:=zhd hn;clear H4 HR Ha hn
 rcases (show (m.sq=0∧m.sf=0)∨(m.sq=0∧m.sf≠0)∨m.sq≠0 by omega) with ⟨ha,hb⟩ | hc
 ·have HF:zcI m=true:=by unfold zcI;simp[ha,hb]
  have hA:=zhd ha;have hB:=zhd hb
  go_wp2_with (first | (go_at_call 42;refine (zaZ _ _ _ _).mono ?_;rintro e w2 ⟨rfl,rfl⟩;first | rw[h1] | rw[h2] | rw[h3]))
  clear ha hb
  have H8:Hid ((if zbH m m.segs.length=true then (0:Int) else 2)=R):=zhd (by rw[←H1.out,HF];rfl)
  clear H1 m0 m1 m2 m3 m4 m5
  go_loopw [3] (fun x W=>∃ j:Nat,j≤m.segs.length∧x=.int .i64 j∧Hid (zbH m j=true)∧Ext (w.alloc (.cells #[.int .i64 m.next,.int .i64 m.term,.int .i64 m.vote,.int .i64 m.sq,.int .i64 m.sf,.slice A m.segs.length c] 30)) W) (fun x _=>m.segs.length-(intOf x).toNat)
  case atStart=>exact ⟨0,by omega,rfl,zhd rfl,(by rw[hA.out,hB.out];exact xR _)⟩
  case round =>
   exact mcMan2a0
 have Hz:¬ (m.sq=0∧m.sf=0):=by omega
 cases hfo:zbC m.next m.sq m.sf with
 | false =>
  have He:=hfo
  have hR:R=2:=by rw[←H1.out];unfold zcI;rw[hfo];simp[Hz]
  subst hR;clear H1 Hz
  rcases hc with ⟨Hk,HN⟩ | Hk
  ·rw[Hk] at He
   go_wp2_with (first | (go_at_call 42;refine (zaZ _ _ _ _).mono ?_;rintro e w2 ⟨rfl,rfl⟩;first | rw[h1] | rw[h2] | rw[h3]) | (go_at_call 43;refine (zfq _ _ _ _ _ _ _ _ Hn.out _).mono ?_;rintro e w3 ⟨rfl,Hh⟩;first | rw[hfo] | rw[He]))
   go_ret
   exact ⟨rfl,xT E0.out (by rw[Hk];exact Hh)⟩
  ·go_wp2_with (first | (go_at_call 42;refine (zaZ _ _ _ _).mono ?_;rintro e w2 ⟨rfl,rfl⟩;first | rw[h1] | rw[h2] | rw[h3]) | (go_at_call 43;refine (zfq _ _ _ _ _ _ _ _ Hn.out _).mono ?_;rintro e w3 ⟨rfl,Hh⟩;first | rw[hfo] | rw[He]))
   go_ret
   exact ⟨rfl,xT E0.out Hh⟩
 | true =>
  have HF:zcI m=true:=by unfold zcI;rw[hfo];simp
  have K2:m.sq≠0:=by have:=zeF hfo;omega
  clear Hz hc
  go_wp2_with (first | (go_at_call 42;refine (zaZ _ _ _ _).mono ?_;rintro e w2 ⟨rfl,rfl⟩;first | rw[h1] | rw[h2] | rw[h3]) | (go_at_call 43;refine (zfq _ _ _ _ _ _ _ _ Hn.out _).mono ?_;rintro e w3 ⟨rfl,Hh⟩;first | rw[hfo]))
  clear K2
  have H8:Hid ((if zbH m m.segs.length=true then (0:Int) else 2)=R):=zhd (by rw[←H1.out,HF];rfl)
  clear H1 m0 m1 m2 m3 m4 m5
  go_loopw [3] (fun x W=>∃ j:Nat,j≤m.segs.length∧x=.int .i64 j∧Hid (zbH m j=true)∧Ext (w.alloc (.cells #[.int .i64 m.next,.int .i64 m.term,.int .i64 m.vote,.int .i64 m.sq,.int .i64 m.sf,.slice A m.segs.length c] 30)) W) (fun x _=>m.segs.length-(intOf x).toNat)
  case atStart=>exact ⟨0,by omega,rfl,zhd rfl,Hh⟩
  case round =>
   exact mcMan2a0
end Go.Proofs.YtgonhdeochgkoaaGreatDoor
