/- Merged -/
import Derived.Test.YteggfecbjgbndaaGreatDoorZw6
import Derived.Test.YteggfecbjgbndaaGreatDoorZw7
import Derived.Shelf.Small.Bits
import Derived.Shelf.Strconv.Itoa0
import Derived.Shelf.Strconv.Itoa1
import Derived.Shelf.LaysM
import Derived.Shelf.Strconv.Itoa2
import Derived.Shelf.Strconv.Itoa3
import Derived.Test.YteggfecbjgbndaaGreatDoorProg
import Derived.Lib.ItoaNum
import Derived.Lib.ItoaLen
import Derived.Lib.AppendIntMem
set_option linter.all false
set_option maxHeartbeats 8000000
set_option maxRecDepth 100000
open Go.Value renaming int→C,slice→I,string→L,pointer→O,agg→S,bool→T
open Go.IntKind renaming i64→E,u8→Q
open Go.Proofs.Tryz renaming prog→F
open Go.Obj renaming cells→G
open Option renaming some→H,none→N
open Go.Mv renaming zhd→M
open List renaming append_assoc→P0,append_toArray→P1,findIdx?_eq_some_iff_getElem→P2,size_toArray→P3,push_toArray→P4,cons_append→P5,length_nil→P6,mem_of_getElem?→P7,drop_zero→P8
open ByteArray renaming mk→P9,ext→Pa,data_append→Pb
open Array renaming replicate_zero→Pc,replicate_succ→Pd
open Go.Shelf renaming Ren→Pe
open Int renaming toNat_natCast→Pf
open Go.Oper renaming semAt_some→Pg
open Nat renaming reduceSub→Ph,reduceAdd→Pi,le_trans→Pj,add_assoc→Pk,zero_add→Pl
open Go.Lib renaming itoa_nonneg→Pm,decDigits→Pn,pow10Tab→Po,TabIs→Pp,itoa→Pq
namespace Go.Proofs
open Go.Shelf
def Tryz.laysM246_ren:Pe:=⟨fun | 246=>220 | 283=>269 | 284=>270 | 285=>271 | 286=>272 | 129=>265 | 317=>291 | 318=>292 | 319=>293 | 320=>294 | 337=>300 | 338=>301 | n=>n,fun | 2=>2 | 3=>3 | 9=>9 | 4=>4 | 171=>308 | 0=>0 | 53=>303 | 37=>33 | 5=>5 | 173=>310 | 212=>330 | 51=>190 | 20=>20 | 213=>331 | 46=>245 | 232=>338 | 233=>339 | n=>n,fun | 17=>2 | 18=>3 | 19=>4 | n=>n⟩
def Tryz.laysM243_ren:Pe:=⟨fun | 243=>170 | 246=>220 | 283=>269 | 284=>270 | 285=>271 | 286=>272 | 129=>265 | 317=>291 | 318=>292 | 319=>293 | 320=>294 | 337=>300 | 338=>301 | n=>n,fun | 3=>3 | 9=>9 | 2=>2 | 4=>4 | 171=>308 | 0=>0 | 53=>303 | 37=>33 | 5=>5 | 173=>310 | 212=>330 | 51=>190 | 20=>20 | 213=>331 | 46=>245 | 232=>338 | 233=>339 | n=>n,fun | 17=>2 | 18=>3 | 19=>4 | n=>n⟩
def Tryz.laysM171_ren:Pe:=⟨fun | 171=>103 | 243=>170 | 246=>220 | 283=>269 | 284=>270 | 285=>271 | 286=>272 | 129=>265 | 317=>291 | 318=>292 | 319=>293 | 320=>294 | 337=>300 | 338=>301 | n=>n,fun | 3=>3 | 9=>9 | 2=>2 | 4=>4 | 171=>308 | 0=>0 | 53=>303 | 37=>33 | 5=>5 | 173=>310 | 212=>330 | 51=>190 | 20=>20 | 213=>331 | 46=>245 | 232=>338 | 233=>339 | n=>n,fun | 17=>2 | 18=>3 | 19=>4 | n=>n⟩
theorem Tryz.laysM171:Go.Proofs.LaysM.n171 F Tryz.laysM171_ren:={
 mixed:=by kernel_rfl
 f129:=Tryz.func265.trans (congrArg some (by kernel_rfl))
 f171:=Tryz.func103.trans (congrArg some (by kernel_rfl))
 f243:=Tryz.func170.trans (congrArg some (by kernel_rfl))
 f246:=Tryz.func220.trans (congrArg some (by kernel_rfl))
 f283:=Tryz.func269.trans (congrArg some (by kernel_rfl))
 f284:=Tryz.func270.trans (congrArg some (by kernel_rfl))
 f285:=Tryz.func271.trans (congrArg some (by kernel_rfl))
 f286:=Tryz.func272.trans (congrArg some (by kernel_rfl))
 f317:=Tryz.func291.trans (congrArg some (by kernel_rfl))
 f318:=Tryz.func292.trans (congrArg some (by kernel_rfl))
 f319:=Tryz.func293.trans (congrArg some (by kernel_rfl))
 f320:=Tryz.func294.trans (congrArg some (by kernel_rfl))
 f337:=Tryz.func300.trans (congrArg some (by kernel_rfl))
 f338:=Tryz.func301.trans (congrArg some (by kernel_rfl))
 t0:=Tryz.underlying0
 a0:=Tryz.isAgg0
 z0:=Tryz.sizeOf0
 v0:=Tryz.zeroValue0
 t2:=Tryz.underlying2
 a2:=Tryz.isAgg2
 z2:=Tryz.sizeOf2
 v2:=Tryz.zeroValue2
 t3:=Tryz.underlying3
 a3:=Tryz.isAgg3
 z3:=Tryz.sizeOf3
 v3:=Tryz.zeroValue3
 t4:=Tryz.underlying4
 a4:=Tryz.isAgg4
 z4:=Tryz.sizeOf4
 v4:=Tryz.zeroValue4
 t5:=Tryz.underlying5
 a5:=Tryz.isAgg5
 z5:=Tryz.sizeOf5
 v5:=Tryz.zeroValue5
 t9:=Tryz.underlying9
 a9:=Tryz.isAgg9
 z9:=Tryz.sizeOf9
 v9:=Tryz.zeroValue9
 t20:=Tryz.underlying20
 a20:=Tryz.isAgg20
 z20:=Tryz.sizeOf20
 v20:=Tryz.zeroValue20
 t37:=Tryz.underlying33
 a37:=Tryz.isAgg33
 z37:=Tryz.sizeOf33
 v37:=Tryz.zeroValue33
 t46:=Tryz.underlying245
 a46:=Tryz.isAgg245
 z46:=Tryz.sizeOf245
 v46:=Tryz.zeroValue245
 t51:=Tryz.underlying190
 a51:=Tryz.isAgg190
 z51:=Tryz.sizeOf190
 v51:=Tryz.zeroValue190
 t53:=Tryz.underlying303
 a53:=Tryz.isAgg303
 z53:=Tryz.sizeOf303
 v53:=Tryz.zeroValue303
 t171:=Tryz.underlying308
 a171:=Tryz.isAgg308
 z171:=Tryz.sizeOf308
 v171:=Tryz.zeroValue308
 t173:=Tryz.underlying310
 a173:=Tryz.isAgg310
 z173:=Tryz.sizeOf310
 v173:=Tryz.zeroValue310
 t212:=Tryz.underlying330
 a212:=Tryz.isAgg330
 z212:=Tryz.sizeOf330
 v212:=Tryz.zeroValue330
 t213:=Tryz.underlying331
 a213:=Tryz.isAgg331
 z213:=Tryz.sizeOf331
 t232:=Tryz.underlying338
 a232:=Tryz.isAgg338
 z232:=Tryz.sizeOf338
 v232:=Tryz.zeroValue338
 t233:=Tryz.underlying339
 a233:=Tryz.isAgg339
 z233:=Tryz.sizeOf339
 v233:=Tryz.zeroValue339
 g17:=by kernel_rfl
 g18:=by kernel_rfl
 g19:=by kernel_rfl
 i0:=by kernel_rfl
 i2:=by kernel_rfl
 i3:=by kernel_rfl
 i4:=by kernel_rfl
 i5:=by kernel_rfl
 i9:=by kernel_rfl
 i20:=by kernel_rfl
 i37:=by kernel_rfl
 i46:=by kernel_rfl
 i51:=by kernel_rfl
 i53:=by kernel_rfl
 i171:=by kernel_rfl
 i173:=by kernel_rfl
 i212:=by kernel_rfl
 i232:=by kernel_rfl
 i233:=by kernel_rfl
 m17:=by kernel_rfl
 m18:=by kernel_rfl
 m19:=by kernel_rfl }
open Go.RowKit Go.Sort Go.Lib in
theorem Tryz.strconv_Itoa (n:Int) (h0:-9223372036854775808≤n) (h1:n≤9223372036854775807) (w:World) (HM:Pp F w "internal/strconv.uint64pow10" .u64 Po) :
  Calls F 103 #[C E n] w fun e w'=>e=.returned (L ⟨(Pq n).toArray⟩)∧∃ k os,w'=grow (w.drewN k) os:=Any.strconv_Itoa Tryz.laysM171 n h0 h1 w HM
def Tryz.lays171_ren:Pe:=⟨fun | 171=>103 | 243=>170 | 246=>220 | 283=>269 | 284=>270 | 285=>271 | 286=>272 | 129=>265 | 317=>291 | 318=>292 | 319=>293 | 320=>294 | 337=>300 | 338=>301 | n=>n,fun | 3=>3 | 9=>9 | 2=>2 | 4=>4 | 171=>308 | 0=>0 | 53=>303 | 37=>33 | 5=>5 | 173=>310 | 212=>330 | 51=>190 | 20=>20 | 213=>331 | 46=>245 | 232=>338 | 233=>339 | n=>n,fun | 17=>2 | 18=>3 | 19=>4 | n=>n⟩
theorem Tryz.lays171:Go.Proofs.Lays.n171 F Tryz.lays171_ren:={
 mixed:=by kernel_rfl
 f129:=Tryz.func265.trans (congrArg some (by kernel_rfl))
 f171:=Tryz.func103.trans (congrArg some (by kernel_rfl))
 f243:=Tryz.func170.trans (congrArg some (by kernel_rfl))
 f246:=Tryz.func220.trans (congrArg some (by kernel_rfl))
 f283:=Tryz.func269.trans (congrArg some (by kernel_rfl))
 f284:=Tryz.func270.trans (congrArg some (by kernel_rfl))
 f285:=Tryz.func271.trans (congrArg some (by kernel_rfl))
 f286:=Tryz.func272.trans (congrArg some (by kernel_rfl))
 f317:=Tryz.func291.trans (congrArg some (by kernel_rfl))
 f318:=Tryz.func292.trans (congrArg some (by kernel_rfl))
 f319:=Tryz.func293.trans (congrArg some (by kernel_rfl))
 f320:=Tryz.func294.trans (congrArg some (by kernel_rfl))
 f337:=Tryz.func300.trans (congrArg some (by kernel_rfl))
 f338:=Tryz.func301.trans (congrArg some (by kernel_rfl))
 t0:=Tryz.underlying0
 a0:=Tryz.isAgg0
 z0:=Tryz.sizeOf0
 v0:=Tryz.zeroValue0
 t2:=Tryz.underlying2
 a2:=Tryz.isAgg2
 z2:=Tryz.sizeOf2
 v2:=Tryz.zeroValue2
 t3:=Tryz.underlying3
 a3:=Tryz.isAgg3
 z3:=Tryz.sizeOf3
 v3:=Tryz.zeroValue3
 t4:=Tryz.underlying4
 a4:=Tryz.isAgg4
 z4:=Tryz.sizeOf4
 v4:=Tryz.zeroValue4
 t5:=Tryz.underlying5
 a5:=Tryz.isAgg5
 z5:=Tryz.sizeOf5
 v5:=Tryz.zeroValue5
 t9:=Tryz.underlying9
 a9:=Tryz.isAgg9
 z9:=Tryz.sizeOf9
 v9:=Tryz.zeroValue9
 t20:=Tryz.underlying20
 a20:=Tryz.isAgg20
 z20:=Tryz.sizeOf20
 v20:=Tryz.zeroValue20
 t37:=Tryz.underlying33
 a37:=Tryz.isAgg33
 z37:=Tryz.sizeOf33
 v37:=Tryz.zeroValue33
 t46:=Tryz.underlying245
 a46:=Tryz.isAgg245
 z46:=Tryz.sizeOf245
 v46:=Tryz.zeroValue245
 t51:=Tryz.underlying190
 a51:=Tryz.isAgg190
 z51:=Tryz.sizeOf190
 v51:=Tryz.zeroValue190
 t53:=Tryz.underlying303
 a53:=Tryz.isAgg303
 z53:=Tryz.sizeOf303
 v53:=Tryz.zeroValue303
 t171:=Tryz.underlying308
 a171:=Tryz.isAgg308
 z171:=Tryz.sizeOf308
 v171:=Tryz.zeroValue308
 t173:=Tryz.underlying310
 a173:=Tryz.isAgg310
 z173:=Tryz.sizeOf310
 v173:=Tryz.zeroValue310
 t212:=Tryz.underlying330
 a212:=Tryz.isAgg330
 z212:=Tryz.sizeOf330
 v212:=Tryz.zeroValue330
 t213:=Tryz.underlying331
 a213:=Tryz.isAgg331
 z213:=Tryz.sizeOf331
 t232:=Tryz.underlying338
 a232:=Tryz.isAgg338
 z232:=Tryz.sizeOf338
 v232:=Tryz.zeroValue338
 t233:=Tryz.underlying339
 a233:=Tryz.isAgg339
 z233:=Tryz.sizeOf339
 v233:=Tryz.zeroValue339
 g17:=by kernel_rfl
 g18:=by kernel_rfl
 g19:=by kernel_rfl }
open Go.RowKit Go.Sort Go.Lib in
theorem Tryz.strconv_Itoa_small (i:Nat) (hi:i<100) (w:World) :
  Calls F 103 #[C E i] w fun e w'=>e=.returned (L ⟨(Pn i).toArray⟩)∧w'=w:=Any.strconv_Itoa_small Tryz.lays171 i hi w
end Go.Proofs

namespace Go.Proofs.YteggfecbjgbndaaGreatDoor
open Go.RowKit Go.Mv
theorem mcNamea0 {P:Prop} (h:P:=by
 obtain ⟨HK,Ho,hf⟩:=hz;have Kc:=zet s HK Ho;have Kb:=zet f (by omega) (by omega)
 have Hk:=fun W=>zj9 s (by omega) Ho W
 have Hl:=fun W=>zgO f hf W
 generalize zb6 s=ns at *
 generalize zb6 f=nf at *
 have O1:=M Hk;have O2:=M Hl;have H3:=M hR
 have c1:¬ (9223372036854775807<1+ns.length):=by omega
 have c2:¬ (9223372036854775807<1+ns.length+1):=by omega
 have c3:¬ (9223372036854775807<1+ns.length+1+nf.length):=by omega
 have d1:¬ (s<1):=by omega
 have d2:¬ (1073741824<s):=by omega
 have d3:¬ (f<1):=by omega
 have d4:¬ (2<f):=by omega
 clear Hk Hl HR hR;obtain ⟨g0,g1,g2⟩:=zdI hb;go_wp2_with fail
 go_region_held3 (fun w'=>w'.cell? ⟨w.heap.size,1,N⟩=H (C E s)∧w'.cell? ⟨w.heap.size,2,N⟩=H (C E f)) (first | go_keep | (refine ⟨?_,?_⟩ <;> assumption))
  (first
    | (go_at_call 103;refine (O1.out _ (HS.out.ext (xD (xD hX)))).mono ?_;rintro e w2 ⟨rfl,Hg⟩;obtain ⟨_,k1,k2⟩:=zdI (hb.ext (xT (xD (xD (xR _))) Hg)))
    | (go_at_call 103;refine (O2.out _).mono ?_;rintro e w3 ⟨rfl,rfl⟩))
 go_wp2_with fail
 go_ret2
 refine ⟨?_,xT hX (xT (xD (xD (xR _))) Hg)⟩
 rw[H3.out,zp4]
 rfl):P:=h
theorem mcNamea1 {P:Prop} (h:P:=by
 go_enter Tryz.func53,Tryz.ntmps53
 go_wp2_with fail
 refine (zgx _ s f _).mono ?_
 rw[Hm.out];rintro e w1 ⟨rfl,H0⟩;have Hw:=hb.ext H0;obtain ⟨g0,g1,g2⟩:=zdI Hw;go_wp2_with fail
 go_region_held3 (fun w'=>w'.cell? ⟨w.heap.size,1,N⟩=H (C E s)∧w'.cell? ⟨w.heap.size,2,N⟩=H (C E f)) (first | go_keep | (refine ⟨?_,?_⟩ <;> assumption))
  (first
    | (go_at_call 103;refine (O1.out _ (HS.out.ext (xT hX (xD H0)))).mono ?_;rintro e w2 ⟨rfl,Hg⟩;obtain ⟨_,k1,k2⟩:=zdI (Hw.ext (xT (xD (xR _)) Hg)))
    | (go_at_call 103;refine (O2.out _).mono ?_;rintro e w3 ⟨rfl,rfl⟩))
 go_wp2_with fail
 go_ret2
 refine ⟨?_,xT hX (xT (xD H0) Hg)⟩
 rw[Hn.out,zp4]
 rfl):P:=h
theorem mcNamea2 {P:Prop} (h:P:=by
 have H3:=M hR;clear HR hR;go_wp2_with fail
 all_goals (first | (exfalso;exact hz ⟨by assumption,by assumption⟩) | (exfalso;simp_all;done) | (go_ret2;refine ⟨by rw[H3.out];rfl,?_⟩;first | exact hD | (have e0:s=0:=(by assumption);subst e0;exact hD)))):P:=h
theorem mcNamea3 {P:Prop} (h:P:=by
 go_enter Tryz.func53,Tryz.ntmps53
 go_wp2_with fail
 refine (zgx _ s f _).mono ?_
 rw[Hm.out];rintro e w1 ⟨rfl,H0⟩;obtain ⟨g0,g1,g2⟩:=zdI (hb.ext H0);go_wp2_with fail
 go_ret2
 exact ⟨by rw[Hn.out];rfl,xT hX H0⟩):P:=h
structure StW (w:World):Prop where
 tab:TabW rT w
 pow:Pp F w "internal/strconv.uint64pow10" .u64 Po
theorem StW.ext {w w':World} (h:StW w) (hE:Ext w w'):StW w':=⟨h.tab.ext hE,Lib.tabBelow_of_tabIs h.pow w' hE⟩
def sv (l:List UInt8):Value:=L ⟨l.toArray⟩
abbrev Fil:=List UInt8×List UInt8
def Fs (W:World) (v:Value) (fs:List Fil):Prop:=∃ vs:List Value,SlR W 2 v fs.length vs∧∀ (i:Nat) (hi:i<fs.length),vs[i*2]?=H (sv fs[i].1)∧∃ u,vs[i*2+1]?=H u∧Bs W u fs[i].2
theorem Fs.ext {w w':World} {v:Value} {fs:List Fil} (h:Fs w v fs) (hE:Ext w w'):Fs w' v fs:=by
 obtain ⟨vs,h1,h2⟩:=h
 refine ⟨vs,h1.ext hE,fun i hi=>?_⟩
 obtain ⟨h3,u,h4,h5⟩:=h2 i hi
 exact ⟨h3,u,h4,h5.ext hE⟩
theorem Fs.keep {w w':World} {v:Value} {fs:List Fil} (h:Fs w v fs) (hk:∀ p u,w.cell? p=H u→w'.cell? p=H u):Fs w' v fs:=by
 obtain ⟨vs,h1,h2⟩:=h
 refine ⟨vs,h1.keep hk,fun i hi=>?_⟩
 obtain ⟨h3,u,h4,h5⟩:=h2 i hi
 exact ⟨h3,u,h4,SlR.keep h5 hk⟩
theorem Fs.open_ {W:World} {v:Value} {fs:List Fil} (h:Fs W v fs):∃ A c,v=I A fs.length c∧fs.length≤c∧c≤9223372036854775807:=by
 obtain ⟨vs,h1,_⟩:=h
 exact xO h1
theorem Fs.at_ {W:World} {A:Option Addr} {m c:Nat} {fs:List Fil} (h:Fs W (I A m c) fs) (hn:0<fs.length):m=fs.length∧∃ b H9,A=H ⟨b,H9,N⟩∧∀ (k:Nat) (hk:k<fs.length),
  W.cell? ⟨b,H9+k*2,N⟩=H (sv fs[k].1)∧∃ B d,W.cell? ⟨b,H9+k*2+1,N⟩=H (I B fs[k].2.length d)∧Bs W (I B fs[k].2.length d) fs[k].2:=by
 obtain ⟨vs,h1,h2⟩:=h;obtain ⟨rfl,b,H9,rfl,hc⟩:=SlR.at_ h1 hn
 refine ⟨rfl,b,H9,rfl,fun k hk=>?_⟩
 obtain ⟨h3,u,h4,h5⟩:=h2 k hk;obtain ⟨B,d,rfl,_,_⟩:=xO h5
 exact ⟨hc (k*2) _ h3,B,d,by rw[Pk];exact hc (k*2+1) _ h4,h5⟩
def zg5 (k s f:Int):Bool:=if k=1∨k=2 then decide (s=0∧f=0) else decide ((k=3∨k=4)∧1≤s∧s≤1073741824∧(f=1∨f=2))
def zb6 (n:Int):List UInt8:=Pn n.toNat
def zio (k s f:Int):List UInt8:=if k=1 then [77] else if k=2 then [77,46,110,101,119] else (if k=3 then 115 else 112)::(zb6 s++46::zb6 f)
def zaw (k s f:Int):Option (List UInt8):=if zg5 k s f=true then some (zio k s f) else none
def zlA (w:World) (r:Option (List UInt8)) (e:Ending) (w':World):Prop:=e=.returned (.tuple #[sv (r.getD []),C E (if r.isSome=true then 0 else 2)])∧Ext w w'
theorem zj9 (n:Int) (h0:0≤n) (h1:n≤1073741824) (w:World) (hS:StW w):Calls F 103 #[C E n] w fun e w'=>e=.returned (L ⟨(zb6 n).toArray⟩)∧Ext w w':=by
 refine (Tryz.strconv_Itoa n (by omega) (by omega) w hS.pow).mono ?_
 rintro e w' ⟨rfl,k,os,rfl⟩
 refine ⟨?_,?_⟩
 ·have:Pq n=zb6 n:=by
   obtain ⟨m,rfl⟩:∃ m:Nat,n=m:=⟨n.toNat,by omega⟩
   rw[Pm];unfold zb6;rw[Pf]
  rw[this]
 ·exact Lib.below_grow _ _ (xN _) _ _
theorem zgx (k s f:Int) (w:World):Calls F 110 #[S #[C Q k,C E s,C E f]] w fun e w'=>e=.returned (T (zg5 k s f))∧Ext w w':=by
 go_enter Tryz.func110,Tryz.ntmps110
 go_wp2_with fail
 all_goals go_ret
 all_goals refine ⟨ret_bool ?_,xA (xR _) _⟩
 all_goals (rw[Bool.eq_iff_iff];unfold zg5;split <;> simp_all <;> omega)
theorem zet (n:Int) (h0:1≤n) (h1:n≤1073741824):(zb6 n).length≤21:=by
 have h:=Lib.itoa_length_le n (by omega) (by omega)
 obtain ⟨m,rfl⟩:∃ m:Nat,n=m:=⟨n.toNat,by omega⟩
 rw[Pm] at h;unfold zb6;rw[Pf]
 exact h
theorem zgO (i:Int) (hi:i=1∨i=2) (w:World):Calls F 103 #[C E i] w fun e w'=>e=.returned (L ⟨(zb6 i).toArray⟩)∧w=w':=by
 rcases hi with rfl | rfl
 ·exact (Tryz.strconv_Itoa_small 1 (by decide) w).mono (by rintro e w' ⟨rfl,rfl⟩;exact ⟨rfl,rfl⟩)
 ·exact (Tryz.strconv_Itoa_small 2 (by decide) w).mono (by rintro e w' ⟨rfl,rfl⟩;exact ⟨rfl,rfl⟩)
def zb1 (k:Int):List UInt8:=if k=3 then [115] else if k=4 then [112] else []
def zcs (k:Int):List UInt8:=if k=1 then [77] else if k=2 then [77,46,110,101,119] else []
theorem zmh (k:Int) (w:World):Calls F 101 #[C Q k] w fun e w'=>e=.returned (sv (zb1 k))∧w=w':=by
 by_cases h3:k=3
 ·subst h3
  go_enter Tryz.func101,Tryz.ntmps101
  go_wp2_with fail;go_ret
  exact ⟨rfl,rfl⟩
 ·by_cases h4:k=4
  ·subst h4
   go_enter Tryz.func101,Tryz.ntmps101
   go_wp2_with fail;go_ret
   exact ⟨rfl,rfl⟩
  ·have hl:zb1 k=[]:=by unfold zb1;rw[if_neg h3,if_neg h4]
   go_enter Tryz.func101,Tryz.ntmps101
   go_wp2_with fail;go_ret
   exact ⟨by rw[hl];rfl,rfl⟩
theorem znO (k:Int) (w:World):Calls F 102 #[C Q k] w fun e w'=>e=.returned (sv (zcs k))∧w=w':=by
 by_cases h3:k=1
 ·subst h3
  go_enter Tryz.func102,Tryz.ntmps102
  go_wp2_with fail;go_ret
  exact ⟨rfl,rfl⟩
 ·by_cases h4:k=2
  ·subst h4
   go_enter Tryz.func102,Tryz.ntmps102
   go_wp2_with fail;go_ret
   exact ⟨rfl,rfl⟩
  ·have hl:zcs k=[]:=by unfold zcs;rw[if_neg h3,if_neg h4]
   go_enter Tryz.func102,Tryz.ntmps102
   go_wp2_with fail;go_ret
   exact ⟨by rw[hl];rfl,rfl⟩
theorem zp4 (a:UInt8) (ns nf:List UInt8):((P9 #[a]++P9 ns.toArray)++P9 #[46])++P9 nf.toArray=P9 (a::(ns++46::nf)).toArray:=by
 apply Pa
 simp[Pb]
theorem zdI {W:World} {b:Nat} {t:TypeId} {a v u:Value} (h:Blk W b t #[a,v,u]):W.cell? ⟨b,0,N⟩=H a∧W.cell? ⟨b,1,N⟩=H v∧W.cell? ⟨b,2,N⟩=H u :=
 ⟨h.cell 0 rfl,h.cell 1 rfl,h.cell 2 rfl⟩
theorem zgn (k s f:Int) (w:World) (hS:StW w):Calls F 53 #[S #[C Q k,C E s,C E f]] w (zlA w (zaw k s f)):=by
 have HS:=M hS;clear hS;have hb:=Blk.new w 32 #[C Q k,C E s,C E f]
 have hX:Ext w (w.alloc (G #[C Q k,C E s,C E f] 32)):=xA (xR _) _
 by_cases hm:zg5 k s f=true
 case neg =>
  have hn:zaw k s f=none:=by unfold zaw;rw[if_neg hm]
  have Hn:=M hn;have Hm:=M (Bool.eq_false_iff.2 hm);clear hn hm
  go_enter Tryz.func53,Tryz.ntmps53
  go_wp2_with fail
  refine (zgx k s f _).mono ?_
  rw[Hm.out];rintro e w1 ⟨rfl,H0⟩;go_wp2_with fail
  go_ret2
  exact ⟨by rw[Hn.out];rfl,xT hX H0⟩
 case pos =>
  have hn:zaw k s f=H (zio k s f):=by unfold zaw;rw[if_pos hm]
  have Hn:=M hn;have Hm:=M hm;clear hn
  rcases (by unfold zg5 at hm;split at hm <;> simp at hm <;> omega:k=1∨k=2∨((k=3∨k=4)∧1≤s∧s≤1073741824∧(f=1∨f=2))) with rfl | rfl | ⟨hk,HK,Ho,hf⟩
  ·clear hm
   exact mcNamea3
  ·clear hm
   exact mcNamea3
  ·clear hm
   have Kc:=zet s HK Ho;have Kb:=zet f (by omega) (by omega)
   have Hk:=fun W=>zj9 s (by omega) Ho W
   have Hl:=fun W=>zgO f hf W
   have HV:zio k s f=(if k=3 then 115 else 112)::(zb6 s++46::zb6 f):=by unfold zio;rw[if_neg (by omega),if_neg (by omega)]
   rw[HV] at Hn
   generalize zb6 s=ns at *
   generalize zb6 f=nf at *
   have O1:=M Hk;have O2:=M Hl
   have c1:¬ (9223372036854775807<1+ns.length):=by omega
   have c2:¬ (9223372036854775807<1+ns.length+1):=by omega
   have c3:¬ (9223372036854775807<1+ns.length+1+nf.length):=by omega
   clear Hk Hl HV
   rcases hk with rfl | rfl
   ·have Hn:Hid (zaw 3 s f=H (115::(ns++46::nf))):=M (by have h:=Hn.out;simpa using h)
    exact mcNamea1
   ·have Hn:Hid (zaw 4 s f=H (112::(ns++46::nf))):=M (by have h:=Hn.out;simpa using h)
    exact mcNamea1
theorem znG (k s f:Int):zaw k s f=if zcs k≠[]∧s=0∧f=0 then some (zcs k) else if zb1 k=[]∨s<1∨1073741824<s∨f<1∨2<f then none else some (zb1 k++(zb6 s++46::zb6 f)):=by
 by_cases h1:k=1
 ·subst h1
  by_cases h:s=0∧f=0
  ·obtain ⟨rfl,rfl⟩:=h;rfl
  ·rw[if_neg (by simp[zcs];exact fun h2 h3=>h ⟨h2,h3⟩),if_pos (by simp[zb1])]
   unfold zaw zg5;rw[if_neg (by simp;exact fun h2 h3=>h ⟨h2,h3⟩)]
 ·by_cases h2:k=2
  ·subst h2
   by_cases h:s=0∧f=0
   ·obtain ⟨rfl,rfl⟩:=h;rfl
   ·rw[if_neg (by simp[zcs];exact fun h2 h3=>h ⟨h2,h3⟩),if_pos (by simp[zb1])]
    unfold zaw zg5;rw[if_neg (by simp;exact fun h2 h3=>h ⟨h2,h3⟩)]
  ·rw[if_neg (by simp[zcs,h1,h2])]
   have hm:zg5 k s f=decide ((k=3∨k=4)∧1≤s∧s≤1073741824∧(f=1∨f=2)):=by unfold zg5;rw[if_neg (by omega)]
   have hn:zio k s f=(if k=3 then 115 else 112)::(zb6 s++46::zb6 f):=by unfold zio;rw[if_neg h1,if_neg h2]
   unfold zaw zb1;rw[hm,hn]
   by_cases h3:k=3
   ·subst h3
    by_cases h:1≤s∧s≤1073741824∧(f=1∨f=2)
    ·obtain ⟨ha,hb,hc⟩:=h
     rcases hc with rfl | rfl <;> simp[ha,hb] <;> omega
    ·rw[if_neg (by simp;omega),if_pos (by simp;omega)]
   ·by_cases h4:k=4
    ·subst h4
     by_cases h:1≤s∧s≤1073741824∧(f=1∨f=2)
     ·obtain ⟨ha,hb,hc⟩:=h
      rcases hc with rfl | rfl <;> simp[ha,hb] <;> omega
     ·rw[if_neg (by simp;omega),if_pos (by simp;omega)]
    ·rw[if_neg (by simp;omega),if_pos (by simp[h3,h4])]
theorem zmv (k:Int):(k=1∧zcs k=[77]∧zb1 k=[])∨(k=2∧zcs k=[77,46,110,101,119]∧zb1 k=[])∨(k=3∧zcs k=[]∧zb1 k=[115])∨(k=4∧zcs k=[]∧zb1 k=[112])∨(zcs k=[]∧zb1 k=[]):=by
 by_cases h1:k=1
 ·subst h1;exact .inl ⟨rfl,rfl,rfl⟩
 ·by_cases h2:k=2
  ·subst h2;exact .inr (.inl ⟨rfl,rfl,rfl⟩)
  ·by_cases h3:k=3
   ·subst h3;exact .inr (.inr (.inl ⟨rfl,rfl,rfl⟩))
   ·by_cases h4:k=4
    ·subst h4;exact .inr (.inr (.inr (.inl ⟨rfl,rfl,rfl⟩)))
    ·exact .inr (.inr (.inr (.inr ⟨by unfold zcs;rw[if_neg h1,if_neg h2],by unfold zb1;rw[if_neg h3,if_neg h4]⟩)))
theorem zel (k s f:Int) (w:World) (hS:StW w):Calls F 50 #[S #[C Q k,C E s,C E f]] w (zlA w (zaw k s f)):=by
 have HS:=M hS;clear hS;have hb:=Blk.new w 32 #[C Q k,C E s,C E f]
 have hX:Ext w (w.alloc (G #[C Q k,C E s,C E f] 32)):=xA (xR _) _
 rw[znG];obtain ⟨pl,HG⟩:∃ pl,zcs k=pl:=⟨_,rfl⟩;obtain ⟨le,HE⟩:∃ le,zb1 k=le:=⟨_,rfl⟩;have HD:=zmv k
 rw[HG,HE] at HD ⊢
 have L1:=fun W=>zmh k W
 have L2:=fun W=>znO k W
 rw[HG] at L2;rw[HE] at L1;have O1:=M L1;have O2:=M L2;clear L1 L2 HG HE;obtain ⟨R,hR⟩:∃ R,(if pl≠[]∧s=0∧f=0 then some pl else if le=[]∨s<1∨1073741824<s∨f<1∨2<f then none else some (le++(zb6 s++46::zb6 f)))=R:=⟨_,rfl⟩;rw[hR];have HR:=M hR;clear hR
 have hD:Ext w (w.alloc (G #[C Q k,C E s,C E f] 32)).drew:=xD hX
 go_enter Tryz.func50,Tryz.ntmps50
 go_wp2_with fail
 go_region_held3 (fun w'=>w'.cell? ⟨w.heap.size,0,N⟩=H (C Q k)) (first | go_keep | assumption)
  (first
    | (go_at_call 101;refine (O1.out _).mono ?_;rintro e w2 ⟨rfl,rfl⟩)
    | (go_at_call 102;refine (O2.out _).mono ?_;rintro e w3 ⟨rfl,rfl⟩))
 clear O1 O2;simp only[sv]
 rcases HD with ⟨rfl,rfl,rfl⟩ | ⟨rfl,rfl,rfl⟩ | ⟨rfl,rfl,rfl⟩ | ⟨rfl,rfl,rfl⟩ | ⟨rfl,rfl⟩
 ·by_cases hz:s=0∧f=0
  ·obtain ⟨rfl,rfl⟩:=hz
   have hR:R=H [77]:=HR.out.symm
   have H3:=M hR;clear HR hR;go_wp2_with fail
   go_ret2
   exact ⟨by rw[H3.out];rfl,hD⟩
  ·have hR:R=none:=by rw[←HR.out,if_neg (fun h=>hz h.2),if_pos (.inl rfl)]
   exact mcNamea2
 ·by_cases hz:s=0∧f=0
  ·obtain ⟨rfl,rfl⟩:=hz
   have hR:R=H [77,46,110,101,119]:=HR.out.symm
   have H3:=M hR;clear HR hR;go_wp2_with fail
   go_ret2
   exact ⟨by rw[H3.out];rfl,hD⟩
  ·have hR:R=none:=by rw[←HR.out,if_neg (fun h=>hz h.2),if_pos (.inl rfl)]
   exact mcNamea2
 ·by_cases hz:1≤s∧s≤1073741824∧(f=1∨f=2)
  ·have hR:R=H (115::(zb6 s++46::zb6 f)):=by
    rw[←HR.out,if_neg (fun h=>h.1 rfl),if_neg (by rintro (h | h | h | h | h) <;> first | (cases h;done) | omega)]
    rfl
   exact mcNamea0
  ·have hR:R=none:=by rw[←HR.out,if_neg (fun h=>h.1 rfl),if_pos (by omega)]
   have H3:=M hR;clear HR hR;go_wp2_with fail
   all_goals (first | (exfalso;omega) | (go_ret2;exact ⟨by rw[H3.out];rfl,hD⟩))
 ·by_cases hz:1≤s∧s≤1073741824∧(f=1∨f=2)
  ·have hR:R=H (112::(zb6 s++46::zb6 f)):=by
    rw[←HR.out,if_neg (fun h=>h.1 rfl),if_neg (by rintro (h | h | h | h | h) <;> first | (cases h;done) | omega)]
    rfl
   exact mcNamea0
  ·have hR:R=none:=by rw[←HR.out,if_neg (fun h=>h.1 rfl),if_pos (by omega)]
   have H3:=M hR;clear HR hR;go_wp2_with fail
   all_goals (first | (exfalso;omega) | (go_ret2;exact ⟨by rw[H3.out];rfl,hD⟩))
 ·have hR:R=none:=HR.out.symm
  have H3:=M hR;clear HR hR;go_wp2_with fail
  go_ret2
  exact ⟨by rw[H3.out];rfl,hD⟩
open Go.RowKit Go.Mv Go.Shelf
def za4 (fs:List Fil) (n:List UInt8):Int:=match fs.findIdx? (fun f=>f.1==n) with | none=>-1 | some i=>(i:Int)
def zc5 (fs:List Fil) (r:Option (List UInt8)):Int:=match r with | none=>-1 | some n=>za4 fs n
theorem zjd {fs:List Fil} {n:List UInt8} {k:Nat} (hk:k<fs.length) (h:fs[k].1=n) (hn:∀ j (_:j<k) (h2:j<fs.length),fs[j].1≠n):za4 fs n=k:=by
 have:fs.findIdx? (fun f=>f.1==n)=H k:=by
  rw[P2]
  exact ⟨hk,by simpa using h,fun j hj=>by simpa using hn j hj (by omega)⟩
 unfold za4;rw[this]
theorem zhh {fs:List Fil} {n:List UInt8} (hn:∀ j (h2:j<fs.length),fs[j].1≠n):za4 fs n = -1:=by
 have:fs.findIdx? (fun f=>f.1==n)=none:=by
  rw[List.findIdx?_eq_none_iff];intro x hx;obtain ⟨j,hj,rfl⟩:=List.mem_iff_getElem.1 hx
  simpa using hn j hj
 unfold za4;rw[this]
theorem znT (v:Value) (fs:List Fil) (k s f:Int) (w:World) (hS:StW w) (hF:Fs w v fs) (hl:fs.length≤4000000):Calls F 89 #[v,S #[C Q k,C E s,C E f]] w fun e w'=>e=.returned (C E (zc5 fs (zaw k s f)))∧Ext w w':=by
 obtain ⟨A,c,rfl,h1,h2⟩:=Fs.open_ hF
 have hX:Ext w (w.alloc (G #[C Q k,C E s,C E f] 32)):=xA (xR _) _
 have key:=zgn k s f _ (hS.ext hX);obtain ⟨r,hr⟩:∃ r,zaw k s f=r:=⟨_,rfl⟩
 rw[hr] at key ⊢
 have Ha:=M key;have HF:=M hF;clear key hr hF hS
 cases r with
 | none =>
  go_enter Tryz.func89,Tryz.ntmps89
  go_wp2_with fail
  refine Ha.out.mono ?_
  rintro e w1 ⟨rfl,H0⟩
  dsimp only[Option.isSome]
  go_wp2_with fail
  go_loopw [7] (fun i wr=>i=C E 0∧w1=wr) (fun _ _=>0)
  case atStart=>exact ⟨rfl,rfl⟩
  case round =>
   obtain ⟨rfl,rfl⟩:=hrel;go_wp2_with fail
   all_goals go_ret
   all_goals exact ⟨rfl,xT hX H0⟩
 | some n =>
  go_enter Tryz.func89,Tryz.ntmps89
  go_wp2_with fail
  refine Ha.out.mono ?_
  rintro e w1 ⟨rfl,H0⟩
  dsimp only[Option.isSome,Option.getD]
  have Hb:=xT hX H0;go_wp2_with fail
  go_loopw [7] (fun i wr=>∃ j:Nat,j≤fs.length∧i=C E j∧Hid (∀ q (_:q<j) (h2:q<fs.length),fs[q].1≠n)∧w1=wr) (fun i _=>fs.length-(intOf i).toNat)
  case atStart=>exact ⟨0,by omega,rfl,fun q hq=>by omega,rfl⟩
  case round =>
   obtain ⟨j,hj,rfl,Hn,rfl⟩:=hrel
   by_cases H5:j<fs.length
   ·obtain ⟨_,b,H9,rfl,hc⟩:=(HF.out.ext Hb).at_ (by omega)
    obtain ⟨Hh,_⟩:=hc j H5
    have hp:fs[j].1=n→zc5 fs (some n)=j:=fun h=>zjd H5 h Hn.out
    have hq:fs[j].1≠n→∀ q (_:q<j+1) (h2:q<fs.length),fs[q].1≠n:=fun h q h3 h2=>by
     by_cases e:q=j
     ·subst e;exact h
     ·exact Hn.out q (by omega) h2
    have Hp:=M hp;have Hq:=M hq;clear hc hp hq
    generalize fs[j].1=x at *
    simp only[sv] at Hh ⊢
    by_cases hx:x=n
    ·have Kf:(x==n)=true:=by simpa using hx
     have Hc:=M (Hp.out hx);go_wp2_with fail;go_ret
     exact ⟨by rw[Hc.out];rfl,Hb⟩
    ·have Kf:(x==n)=false:=by simpa using hx
     have K3:=M (Hq.out hx);go_wp2_with fail
     go_roundw
     case rel=>exact ⟨j+1,by omega,by go_num,K3,trivial⟩
     case measure=>simp[intOf];omega
   ·obtain rfl:j=fs.length:=by omega
    have Hc:=M (show zc5 fs (some n) = -1 from zhh fun q h2=>Hn.out q h2 h2)
    go_wp2_with fail;go_ret
    exact ⟨by rw[Hc.out];rfl,Hb⟩
def nmP:Nat→List Fil→List (Nat×List UInt8)
 | _,[]=>[]
 | k,f::l=>(k,f.1)::nmP (k+1) l
theorem zmk {fs:List Fil} {k:Nat} (h:k<fs.length):nmP k (fs.drop k)=(k,fs[k].1)::nmP (k+1) (fs.drop (k+1)):=by
 rw[List.drop_eq_getElem_cons h];rfl
theorem zor (l:List Fil):∀ k,(nmP k l).length=l.length:=by
 induction l with
 | nil=>intro k;rfl
 | cons f l ih=>intro k;simp[nmP,ih]
theorem zoq {fs:List Fil}:∀ (k j:Nat) (h:k+j<fs.length),(nmP k (fs.drop k))[j]?=H (k+j,fs[k+j].1):=by
 intro k j
 induction j generalizing k with
 | zero=>intro h;rw[zmk (by omega)];rfl
 | succ j ih =>
  intro h;rw[zmk (by omega),List.getElem?_cons_succ,ih (k+1) (by omega)];simp only[Pk,Nat.add_comm 1 j]
theorem Hold.keptK {wo A B:World} {K:Nat→Obj→Prop} {n:Nat} (h:Hold wo A) (hK:∀ k o,k<wo.heap.size→o.isCells=true→K k o) (hk:Kept (zac K n) A B):Hold wo B:=fun q u hq =>
 hk.cell (h q u hq) fun o ho=>.inl (hK _ o (World.block_lt_of_cell? _ _ hq) (by
  obtain ⟨o',HW,hc⟩:=cells_of_cell (h q u hq);rw[ho] at HW
  cases HW
  exact hc))
attribute [local go_sem] Pg in
theorem zhG (K:Nat→Obj→Prop) (wo W0:World) (v:Value) (fs:List Fil) (hF:Fs wo v fs) (Hj:fs.length≤4000000) (hH:Hold wo W0) (B:Nat) (hB:Boxed W0 B 22 v) (K8:∀ o:Obj,o.isCells=true→K B o) (K9:∀ k o,k<wo.heap.size→o.isCells=true→K k o) :
  Seq F 176 #[O (H ⟨B,0,N⟩)] (fun (x:Nat×List UInt8) av _=>av = #[C E x.1,sv x.2]) K (fun _ _=>False) (nmP 0 fs) W0:=by
 intro l J Jx hJ Kg hY h0;obtain ⟨A,c,rfl,Hw,Kh⟩:=Fs.open_ hF
 refine (callsIn_wd (ro:=none) (n:=9)).1 ?_
 refine callsIn_of_wp Tryz.func176 rfl trivial ?_ rfl
 simp only[Tryz.ntmps176,P3,xC,P6,Pi,Ph,Pd,Pc,P4,P1,xI,P5];have K1:=M hF;clear hF;obtain ⟨all,H4⟩:∃ all,nmP 0 fs=all:=⟨_,rfl⟩
 rw[H4] at hY ⊢
 have HA:=M H4;have c1:=hB.cell;clear H4
 gi_wp2
 clear c1
 gi_loopw [7] (fun j W=>∃ (k:Nat) (H2:List (Nat×List UInt8)),j=C E k∧k≤fs.length∧Hid (all=H2++nmP k (fs.drop k))∧Hid (J H2 W)∧Hold wo W∧Boxed W B 22 (I A fs.length c)∧W0.heap.size≤W.heap.size) (fun j _=>fs.length+1-(intOf j).toNat)
 case atStart=>exact ⟨0,[],rfl,by omega,HA.out.symm,h0,hH,hB,xN _⟩
 case round =>
  obtain ⟨k,H2,rfl,Kj,HP,HJ,HH,bB,HL⟩:=hrel
  by_cases H5:k<fs.length
  ·obtain ⟨_,b,H9,rfl,hc⟩:=(K1.out.keep HH).at_ (by omega)
   obtain ⟨Hh,B2,d2,Hz,_⟩:=hc k H5;have Hf:=HP.out;rw[zmk H5] at Hf;have Hv:=M Hf;have K2:=M hY;clear hc Hf hY
   generalize fs[k].2.length=m2 at *
   generalize fs[k].1=x at *
   simp only[sv] at Hh
   have Ht:Ext wr (wr.alloc (G #[sv x,I B2 m2 d2] 68)):=xA (xR _) _
   have HT:=hJ H2 wr (wr.alloc (G #[sv x,I B2 m2 d2] 68)) HJ.out (Moves.refl.alloc _);have Hd:=Pj HL Ht.size
   have K6:Boxed (wr.alloc (G #[sv x,I B2 m2 d2] 68)) B 22 (I (H ⟨b,H9,N⟩) fs.length c):=bB.kept (row:=none) (Ext.grown Ht none) (by simp)
   have HQ:Hold wo (wr.alloc (G #[sv x,I B2 m2 d2] 68)):=fun q u hq=>Ext.cell Ht (HH q u hq)
   have hy:=K2.out H2 (k,x) _ Hv.out _ #[C E (k:Int),sv x] HT Hd rfl;have Hy:=M hy;have HZ:=M HQ;have Hx:=Blk.new wr 68 #[sv x,I B2 m2 d2];have g0:=Hx.cell 0 rfl;have g1:=Hx.cell 1 rfl;clear hy HT HQ Ht Hx
   simp only[sv] at *
   gi_wp2
   refine zbh Hy.out ?_
   rintro e W' ⟨Hi,⟨rfl,hj⟩ | ⟨rfl,hj⟩⟩
   ·refine ⟨true,rfl,?_⟩
    have d1:Boxed W' B 22 (I (H ⟨b,H9,N⟩) fs.length c):=Hi.boxed K6 (.inl (K8 _ rfl))
    have Kd:W0.heap.size≤W'.heap.size:=Pj Hd Hi.size
    have K0:=M (Hold.keptK HZ.out K9 Hi);have Hu:=M hj
    have HX:all=(H2++[(k,x)])++nmP (k+1) (fs.drop (k+1)):=by rw[P0];exact Hv.out
    have K4:=M HX;clear hj Hi g0 g1 HX Hy Hh Hz
    gi_wp2
    exact ⟨⟨k+1,H2++[(k,x)],by go_num,by omega,K4.out,Hu.out,K0.out,d1,Kd⟩,by simp[intOf];omega⟩
   ·refine ⟨false,rfl,?_⟩
    have Hu:=M hj;clear hj Hi g0 g1 Hh Hz
    gi_wp2
    refine bodyPost_ret (results_none rfl _ _ _) rfl ?_
    refine ⟨⟨_,rfl⟩,.inr ⟨H2++[(k,x)],?_,Hu.out⟩⟩
    exact ⟨nmP (k+1) (fs.drop (k+1)),by rw[P0];exact Hv.out.symm⟩
  ·obtain rfl:k=fs.length:=by omega
   have Hf:=HP.out
   rw[List.drop_length,show nmP fs.length ([]:List Fil)=[] from rfl,List.append_nil] at Hf
   subst Hf;clear HP hY
   gi_wp2
   refine bodyPost_end (results_none rfl _ _ _) rfl ?_
   exact ⟨⟨_,rfl⟩,.inl HJ.out⟩
theorem znq (wo W0:World) (v:Value) (fs:List Fil) (hF:Fs wo v fs) (Hj:fs.length≤4000000) (hH:Hold wo W0) (B bo:Nat) (hB:Boxed W0 B 22 v) (K7:B≠bo) (h1:wo.heap.size≤bo) :
  Seq F 176 #[O (H ⟨B,0,N⟩)] (fun (x:Nat×List UInt8) av _=>av = #[C E x.1,sv x.2]) (fun k o=>k≠bo∧o.isCells=true) (fun _ _=>False) (nmP 0 fs) W0 :=
 zhG (fun k o=>k≠bo∧o.isCells=true) wo W0 v fs hF Hj hH B hB (fun _ ho=>⟨K7,ho⟩) (fun _ _ hk ho=>⟨by omega,ho⟩)
theorem zjy (A:Option Addr) (n c:Nat) (w:World):Calls F 116 #[I A n c] w fun e w'=>e=.returned (.func (.func 176) #[] #[O (H ⟨w.heap.size,0,N⟩)])∧w.alloc (G #[I A n c] 22)=w':=by
 go_enter Tryz.func116,Tryz.ntmps116
 go_wp2
 go_ret
 exact ⟨rfl,rfl⟩
def FiI (w:World) (sb:Nat) (n:List UInt8) (H2:List (Nat×List UInt8)) (X:World):Prop:=(∀ x∈H2,x.2≠n)∧(∃ v,Boxed X (w.heap.size+1) 3 v)∧Boxed X sb 9 (L ⟨n.toArray⟩)∧Ext w X
def FiX (w:World) (n:List UInt8) (cd:Code) (H2:List (Nat×List UInt8)) (X:World):Prop:=cd=Code.ret∧∃ (H1:List (Nat×List UInt8)) (k:Nat),H2=H1++[(k,n)]∧(∀ x∈H1,x.2≠n)∧Boxed X (w.heap.size+1) 3 (C E (k:Int))∧Ext w X
theorem zjH (k s f:Int) (w:World):Boxed ((w.alloc (G #[C Q k,C E s,C E f] 32)).alloc (G #[C E 0] 3)) (w.heap.size+1) 3 (C E 0):=by
 have:=Boxed.new (w.alloc (G #[C Q k,C E s,C E f] 32)) 3 (C E 0)
 rwa [xS] at this
theorem zi6 (tmps:Array Value) (W:World) (b:Nat) (u:Value) (h4:tmps.getD 4 undef=O (H ⟨b,0,N⟩)) (hc:W.cell? ⟨b,0,N⟩=H u) (hu:∃ n,u=C E n):(results Tryz.f82 tmps).run F W=.ok u W:=by
 obtain ⟨n,rfl⟩:=hu
 have K5:tmps[4]?.getD undef=O (H ⟨b,0,N⟩):=by simpa using h4
 simp[results,Tryz.results82,K5,hc,go_sem]
attribute [local go_sem] Pg in
theorem zqo (v:Value) (fs:List Fil) (k s f:Int) (w:World) (hS:StW w) (hF:Fs w v fs) (hn:zaw k s f=none):Calls F 82 #[v,S #[C Q k,C E s,C E f]] w fun e w'=>e=.returned (C E (-1))∧Ext w w':=by
 obtain ⟨A,c,rfl,h1,h2⟩:=Fs.open_ hF
 have hX:Ext w ((w.alloc (G #[C Q k,C E s,C E f] 32)).alloc (G #[C E 0] 3)):=xA (xA (xR _) _) _
 have key:=zel k s f _ (hS.ext hX);rw[hn] at key
 have H7:Calls F 50 #[S #[C Q k,C E s,C E f]] ((w.alloc (G #[C Q k,C E s,C E f] 32)).alloc (G #[C E 0] 3)) (fun e w'=>e=.returned (.tuple #[L ⟨#[]⟩,C E 2])∧Ext ((w.alloc (G #[C Q k,C E s,C E f] 32)).alloc (G #[C E 0] 3)) w'):=key
 have Ha:=M H7;have q0:=zjH k s f w;clear key H7 hF hS hn
 refine (callsIn_wd (ro:=none) (n:=9)).1 ?_
 refine callsIn_of_wp_marks Tryz.func82 rfl trivial ?_ rfl
 simp only[Tryz.ntmps82,P3,xC,P6,Pi,Ph,Pd,Pc,P4,P1,xI,P5]
 gi_wp2_with (refine ⟨trivial,?_⟩;gi_at_call 50;refine (callsIn_wd.2 Ha.out).mono ?_;rintro e w1 ⟨rfl,H0⟩;have q1:=(q0.kept (row:=none) (Ext.grown H0 none) (by simp)).alloc (G #[L ⟨#[]⟩] 9);have c1:=q1.cell;have f1:=q1.frozen)
 have q2:=q1.set (C E (-1))
 refine ztb (C E (-1)) (zi6 _ _ _ _ rfl q2.cell ⟨_,rfl⟩) ?_
 exact ⟨rfl,Below.setCell (p:=⟨w.heap.size+1,0,N⟩) (xA (xT hX H0) _) (by show w.heap.size≤w.heap.size+1;omega) _⟩
attribute [local go_sem] Pg in
theorem zqp (v:Value) (fs:List Fil) (k s f:Int) (w:World) (hS:StW w) (hF:Fs w v fs) (hl:fs.length≤4000000) (n:List UInt8) (hn:zaw k s f=H n):Calls F 82 #[v,S #[C Q k,C E s,C E f]] w fun e w'=>e=.returned (C E (za4 fs n))∧Ext w w':=by
 obtain ⟨A,c,rfl,h1,h2⟩:=Fs.open_ hF
 have hX:Ext w ((w.alloc (G #[C Q k,C E s,C E f] 32)).alloc (G #[C E 0] 3)):=xA (xA (xR _) _) _
 have key:=zel k s f _ (hS.ext hX);rw[hn] at key
 have H7:Calls F 50 #[S #[C Q k,C E s,C E f]] ((w.alloc (G #[C Q k,C E s,C E f] 32)).alloc (G #[C E 0] 3)) (fun e w'=>e=.returned (.tuple #[L ⟨n.toArray⟩,C E 0])∧Ext ((w.alloc (G #[C Q k,C E s,C E f] 32)).alloc (G #[C E 0] 3)) w'):=key
 have Ha:=M H7;have q0:=zjH k s f w;have HF:=M hF;clear key H7 hF hS hn
 refine (callsIn_wd (ro:=none) (n:=9)).1 ?_
 refine callsIn_of_wp_marks Tryz.func82 rfl trivial ?_ rfl
 simp only[Tryz.ntmps82,P3,xC,P6,Pi,Ph,Pd,Pc,P4,P1,xI,P5]
 gi_wp2_with (first
  | (refine ⟨trivial,?_⟩;gi_at_call 50;refine (callsIn_wd.2 Ha.out).mono ?_;rintro e w1 ⟨rfl,H0⟩;have q1:=(q0.kept (row:=none) (Ext.grown H0 none) (by simp)).alloc (G #[L ⟨n.toArray⟩] 9);have c1:=q1.cell;have f1:=q1.frozen)
  | (refine ⟨trivial,?_⟩;gi_at_call 116;refine (callsIn_wd.2 (zjy _ _ _ _)).mono ?_;rintro e w' ⟨rfl,rfl⟩))
 have Hd:w.heap.size+2≤w1.heap.size:=by have:=H0.size;simp at this;omega
 have q3:Boxed ((w1.alloc (G #[L ⟨n.toArray⟩] 9)).alloc (G #[I A fs.length c] 22)) (w1.heap.size+1) 22 (I A fs.length c):=by
  have:=Boxed.new (w1.alloc (G #[L ⟨n.toArray⟩] 9)) 22 (I A fs.length c)
  rwa [xS] at this
 have HO:Ext w ((w1.alloc (G #[L ⟨n.toArray⟩] 9)).alloc (G #[I A fs.length c] 22)):=xA (xA (xT hX H0) _) _
 have h0:FiI w w1.heap.size n [] ((w1.alloc (G #[L ⟨n.toArray⟩] 9)).alloc (G #[I A fs.length c] 22)):=⟨fun x h=>(by cases h),⟨_,q1.alloc _⟩,(Boxed.new w1 _ _).alloc _,HO⟩
 have Kl:w1.heap.size+2=((w1.alloc (G #[L ⟨n.toArray⟩] 9)).alloc (G #[I A fs.length c] 22)).heap.size:=by simp
 generalize (w1.alloc (G #[L ⟨n.toArray⟩] 9)).alloc (G #[I A fs.length c] 22)=w3 at *
 clear c1 f1 q1
 refine zcy (a:=⟨_,_⟩) rfl (enters_of Tryz.func176 (by kernel_rfl) rfl)
  (fun W1 hb hs=>znq w W1 _ fs HF.out hl (fun q u hq=>Ext.cell (xT HO hb) hq) (w1.heap.size+1) (w.heap.size+1) (q3.kept (row:=none) (Ext.grown hb none) (by simp)) (by omega) (by omega))
  (fun k o h=>h.elim) (fun k o h=>h.2) (fun x av W h=>by rw[h];rfl)
  (FiI w w1.heap.size n) (FiX w n) ?hI ?hIx h0
  (fun x a' _=>a'=⟨#[I A fs.length c,S #[C Q k,C E s,C E f],undef,O (H ⟨w.heap.size,0,N⟩),O (H ⟨w.heap.size+1,0,N⟩),O (H ⟨w1.heap.size,0,N⟩),C E 0,C E x.1,sv x.2,
    .tuple #[L ⟨n.toArray⟩,C E 0],S #[C Q k,C E s,C E f],.tuple #[L ⟨n.toArray⟩,C E 0],L ⟨n.toArray⟩,C E 0,C E 0,T false,I A fs.length c,
    .func (.func 176) #[] #[O (H ⟨w1.heap.size+1,0,N⟩)],C E x.1,sv x.2,undef,undef,undef,undef],[]⟩)
  (fun _ _ _ _ h _=>h) ?assign ?body ?done ?stop
 case hI =>
  rintro s X Y ⟨H8,⟨v,hv⟩,hs,hE⟩ hm
  refine ⟨H8,⟨v,hm.boxed hv ?_⟩,hm.boxed hs ?_,hm.belowOf hE ?_ (Pj (by omega) (xN _))⟩
  ·rintro (h | h)
   ·exact h
   ·cases h.2
  ·rintro (h | h)
   ·exact h
   ·cases h.2
  ·rintro k o hk (h | h)
   ·exact h
   ·have:=h.1;omega
 case hIx =>
  rintro cd s X Y ⟨rfl,H1,j,rfl,H8,hv,hE⟩ hm
  refine ⟨rfl,H1,j,rfl,H8,hm.boxed hv ?_,hm.belowOf hE ?_ (xN _)⟩
  ·rintro (h | h)
   ·exact h
   ·cases h.2
  ·rintro k o hk (h | h)
   ·exact h
   ·have:=h.1;omega
 case assign =>
  rintro l' H2 x Hr W av K' hx hi HL rfl hK
  gi_wp2
  exact hK _ _ Kept.refl hi rfl
 case body =>
  rintro l' H2 ⟨j,x⟩ Hr a' W hx Kk hr ⟨H8,⟨v,hv⟩,hs,hE⟩ HL rfl;have hc:=hv.cell;have hf:=hv.frozen;have HD:=hs.cell;simp only[sv]
  by_cases he:x=n
  ·have Ka:(x==n)=true:=by simpa using he
   have He:=M he;clear he
   gi_wp2
   refine ⟨Kept.refl.setCell (fun o ho _=>?_) _,rfl,H2,j,by rw[He.out],H8,hv.set _,Below.setCell (p:=⟨w.heap.size+1,0,N⟩) hE (by show w.heap.size≤w.heap.size+1;omega) _⟩
   rw[show W.heap[w.heap.size+1]?=_ from hv] at ho;cases ho
   rintro (⟨h,_⟩ | ⟨_,h⟩)
   ·exact h rfl
   ·cases h
  ·have Ka:(x==n)=false:=by simpa using he
   have He:=M he;clear he
   gi_wp2
   refine ⟨Kept.refl,fun y hy=>?_,⟨v,hv⟩,hs,hE⟩
   rcases List.mem_append.1 hy with h | h
   ·exact H8 y h
   ·rcases List.mem_singleton.1 h with rfl
    exact He.out
 case done =>
  rintro D W hD ⟨H8,⟨v,hv⟩,hs,hE⟩ hK;have hc:=hv.cell;have hf:=hv.frozen
  gi_wp2
  have Ke:=hv.set (C E (-1));have HU:=zaA hK rfl ⟨w.heap.size+1,0,N⟩ (C E (-1));have HB:=zcL Ke.cell HU rfl (.deferred none)
  refine zbO HU (C E (-1)) (zi6 _ _ _ _ rfl HB ⟨_,rfl⟩) ?_
  refine ⟨?_,zaN (Below.setCell (p:=⟨w.heap.size+1,0,N⟩) hE (by show w.heap.size≤w.heap.size+1;omega) _) (by omega) _⟩
  rw[zhh];intro q hq he
  refine H8 (q,fs[q].1) ?_ he
  have:=zoq (fs:=fs) 0 q (by omega)
  simp only[Pl,P8] at this
  exact P7 this
 case stop =>
  rintro D cd H2 W hD HI ⟨rfl,H1,j,rfl,H8,hv,hE⟩ hK;have HB:=zcL hv.cell hK rfl (.deferred none)
  gi_wp2
  refine zbO hK (C E (j:Int)) (zi6 _ _ _ _ rfl HB ⟨_,rfl⟩) ?_
  refine ⟨?_,zaN hE (by omega) _⟩
  obtain ⟨Hr,H6⟩:=HI
  have H4:∀ q,(hq:q<fs.length)→(nmP 0 fs)[q]?=H (q,fs[q].1):=fun q hq=>by
   have:=zoq (fs:=fs) 0 q (by omega)
   simpa only[Pl,P8] using this
  have H5:H1.length<fs.length:=by
   have:=congrArg List.length H6
   rw[zor] at this
   simp at this;omega
  have h9:=H4 H1.length H5;rw[←H6,P0,List.getElem?_append_right (xN _),Nat.sub_self] at h9
  have h8:(j,n)=(H1.length,fs[H1.length].1):=Option.some.inj h9
  injection h8 with h7 h6
  rw[h7,zjd H5 h6.symm];intro q hq h2 he;have h5:=H4 q h2;rw[←H6,P0,List.getElem?_append_left hq] at h5
  exact H8 _ (P7 h5) he
theorem zr3 (v:Value) (fs:List Fil) (k s f:Int) (w:World) (hS:StW w) (hF:Fs w v fs) (hl:fs.length≤4000000):Calls F 82 #[v,S #[C Q k,C E s,C E f]] w fun e w'=>e=.returned (C E (zc5 fs (zaw k s f)))∧Ext w w':=by
 cases hn:zaw k s f with
 | none=>exact zqo v fs k s f w hS hF hn
 | some n=>exact zqp v fs k s f w hS hF hl n hn
def zbc (fs:List Fil) (r:Option (List UInt8)):Option (List UInt8):=if zc5 fs r<0 then none else (fs[(zc5 fs r).toNat]?).map (·.2)
def zul (w:World) (r:Option (List UInt8)) (e:Ending) (w':World):Prop:=∃ v,e=.returned (.tuple #[v,T r.isSome])∧Bs w' v (r.getD [])∧Ext w w'
theorem zl7 (fs:List Fil) (r:Option (List UInt8)) (h:¬ zc5 fs r<0):∃ i:Nat,zc5 fs r=(i:Int)∧i<fs.length:=by
 unfold zc5 at h ⊢
 cases r with
 | none=>exact absurd (show ((-1:Int)<0) by decide) h
 | some n =>
  dsimp only at h ⊢
  unfold za4 at h ⊢
  cases hf:fs.findIdx? (fun f=>f.1==n) with
  | none=>rw[hf] at h;exact absurd (show ((-1:Int)<0) by decide) h
  | some i =>
   refine ⟨i,rfl,?_⟩
   rw[P2] at hf
   exact hf.1
theorem zgc (v:Value) (fs:List Fil) (k s f:Int) (w:World) (hS:StW w) (hF:Fs w v fs) (hl:fs.length≤4000000):Calls F 40 #[v,S #[C Q k,C E s,C E f]] w (zul w (zbc fs (zaw k s f))):=by
 obtain ⟨A,c,rfl,h1,h2⟩:=Fs.open_ hF
 have hX:Ext w (w.alloc (G #[C Q k,C E s,C E f] 32)):=xA (xR _) _
 have key:=znT _ fs k s f _ (hS.ext hX) (hF.ext hX) hl;obtain ⟨r,hr⟩:∃ r,zaw k s f=r:=⟨_,rfl⟩
 rw[hr] at key ⊢
 have H5:=zl7 fs r;obtain ⟨R,hR⟩:∃ R,zbc fs r=R:=⟨_,rfl⟩;rw[hR];unfold zbc at hR;have HR:=M hR;have Hs:=M H5;have Ha:=M key;have HF:=M hF;have hb:=Blk.new w 32 #[C Q k,C E s,C E f];clear H5 hR key hF hS hr
 generalize zc5 fs r=at_ at *
 have Hs:Hid (¬ at_<0→∃ i:Nat,at_=(i:Int)∧i<fs.length):=M (fun h=>Hs.out (by first | exact h | omega))
 go_enter Tryz.func40,Tryz.ntmps40
 go_wp2_with fail
 refine Ha.out.mono ?_
 rintro e w1 ⟨rfl,H0⟩;have E1:=xT hX H0
 by_cases hn:at_<0
 ·have:R=none:=by rw[←HR.out,if_pos hn]
  subst this;go_wp2_with fail
  go_ret2
  exact ⟨_,rfl,SlR.nil _ 1,E1⟩
 ·obtain ⟨i,rfl,hi⟩:=Hs.out (by omega)
  have:R=H fs[i].2:=by rw[←HR.out,if_neg hn,Pf,List.getElem?_eq_getElem hi];rfl
  subst this;obtain ⟨_,b,H9,rfl,hc⟩:=(HF.out.ext E1).at_ (by omega);obtain ⟨_,B2,d2,Hz,HN⟩:=hc i hi;have HY:=M HN
  have Ki:(i:Int)<(fs.length:Int):=by omega
  clear hc HN HR Hs Ha
  generalize fs[i].2=bb at *
  go_wp2_with fail
  go_ret2
  exact ⟨_,rfl,HY.out,E1⟩
end Go.Proofs.YteggfecbjgbndaaGreatDoor
