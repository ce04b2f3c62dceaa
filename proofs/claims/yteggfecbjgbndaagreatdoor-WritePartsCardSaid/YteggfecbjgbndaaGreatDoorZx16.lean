/- Merged -/
import Derived.Test.YteggfecbjgbndaaGreatDoorZx9
import Derived.Shelf.Small.Bits
import Derived.Shelf.Strconv.Itoa0
import Derived.Shelf.Strconv.Itoa1
import Derived.Shelf.LaysM
import Derived.Shelf.Strconv.Itoa2
import Derived.Shelf.Strconv.Itoa3
import Derived.Test.YteggfecbjgbndaaGreatDoorProg
import Derived.Lib.ItoaNum
import Derived.Lib.ItoaLen
import Derived.Lib.AppendIntMem
import Derived.Deep.QuietTactic
import Derived.BigQuiet
set_option linter.all false
set_option maxHeartbeats 8000000
set_option maxRecDepth 100000
open Go.Proofs.Tryz
open List renaming length->O
open Go.Value renaming int->C,slice->I,string->K,agg->L,bool->N
open Go.IntKind renaming i64->D,u8->M
open Option renaming some->E,none->G
open Go.Proofs.Tryz renaming prog->F
open Go.Mv renaming aN->H
open Go.Obj renaming cells->J
open List renaming mem_take_iff_getElem->P0,getElem?_eq_getElem->P1,all_eq_true->P2
open ByteArray renaming mk->P3,ext->P4,data_append->P5
open Bool renaming eq_iff_iff->P6,eq_false_iff->P7,and_eq_true->P8
open Go.Shelf renaming Ren->P9
open Go.Lib renaming itoa_nonneg->Pa,decDigits->Pb,pow10Tab->Pc,TabIs->Pd,itoa->Pe
namespace Go.Proofs
open Go.Shelf
def Tryz.laysM246_ren:P9:=⟨fun | 246=>220 | 283=>269 | 284=>270 | 285=>271 | 286=>272 | 129=>265 | 317=>291 | 318=>292 | 319=>293 | 320=>294 | 337=>300 | 338=>301 | n=>n,fun | 2=>2 | 3=>3 | 9=>9 | 4=>4 | 171=>308 | 0=>0 | 53=>303 | 37=>33 | 5=>5 | 173=>310 | 212=>330 | 51=>190 | 20=>20 | 213=>331 | 46=>245 | 232=>338 | 233=>339 | n=>n,fun | 17=>2 | 18=>3 | 19=>4 | n=>n⟩
def Tryz.laysM243_ren:P9:=⟨fun | 243=>170 | 246=>220 | 283=>269 | 284=>270 | 285=>271 | 286=>272 | 129=>265 | 317=>291 | 318=>292 | 319=>293 | 320=>294 | 337=>300 | 338=>301 | n=>n,fun | 3=>3 | 9=>9 | 2=>2 | 4=>4 | 171=>308 | 0=>0 | 53=>303 | 37=>33 | 5=>5 | 173=>310 | 212=>330 | 51=>190 | 20=>20 | 213=>331 | 46=>245 | 232=>338 | 233=>339 | n=>n,fun | 17=>2 | 18=>3 | 19=>4 | n=>n⟩
def Tryz.laysM171_ren:P9:=⟨fun | 171=>103 | 243=>170 | 246=>220 | 283=>269 | 284=>270 | 285=>271 | 286=>272 | 129=>265 | 317=>291 | 318=>292 | 319=>293 | 320=>294 | 337=>300 | 338=>301 | n=>n,fun | 3=>3 | 9=>9 | 2=>2 | 4=>4 | 171=>308 | 0=>0 | 53=>303 | 37=>33 | 5=>5 | 173=>310 | 212=>330 | 51=>190 | 20=>20 | 213=>331 | 46=>245 | 232=>338 | 233=>339 | n=>n,fun | 17=>2 | 18=>3 | 19=>4 | n=>n⟩
theorem Tryz.laysM171:Go.Proofs.LaysM.n171 F Tryz.laysM171_ren:={
 mixed:=by kernel_rfl
 f129:=func265.trans (congrArg some (by kernel_rfl))
 f171:=func103.trans (congrArg some (by kernel_rfl))
 f243:=func170.trans (congrArg some (by kernel_rfl))
 f246:=func220.trans (congrArg some (by kernel_rfl))
 f283:=func269.trans (congrArg some (by kernel_rfl))
 f284:=func270.trans (congrArg some (by kernel_rfl))
 f285:=func271.trans (congrArg some (by kernel_rfl))
 f286:=func272.trans (congrArg some (by kernel_rfl))
 f317:=func291.trans (congrArg some (by kernel_rfl))
 f318:=func292.trans (congrArg some (by kernel_rfl))
 f319:=func293.trans (congrArg some (by kernel_rfl))
 f320:=func294.trans (congrArg some (by kernel_rfl))
 f337:=func300.trans (congrArg some (by kernel_rfl))
 f338:=func301.trans (congrArg some (by kernel_rfl))
 t0:=underlying0
 a0:=Tryz.isAgg0
 z0:=Tryz.sizeOf0
 v0:=Tryz.zeroValue0
 t2:=underlying2
 a2:=Tryz.isAgg2
 z2:=Tryz.sizeOf2
 v2:=Tryz.zeroValue2
 t3:=underlying3
 a3:=Tryz.isAgg3
 z3:=Tryz.sizeOf3
 v3:=Tryz.zeroValue3
 t4:=underlying4
 a4:=Tryz.isAgg4
 z4:=Tryz.sizeOf4
 v4:=Tryz.zeroValue4
 t5:=underlying5
 a5:=Tryz.isAgg5
 z5:=Tryz.sizeOf5
 v5:=Tryz.zeroValue5
 t9:=underlying9
 a9:=Tryz.isAgg9
 z9:=Tryz.sizeOf9
 v9:=Tryz.zeroValue9
 t20:=underlying20
 a20:=Tryz.isAgg20
 z20:=Tryz.sizeOf20
 v20:=Tryz.zeroValue20
 t37:=underlying33
 a37:=Tryz.isAgg33
 z37:=Tryz.sizeOf33
 v37:=Tryz.zeroValue33
 t46:=underlying245
 a46:=Tryz.isAgg245
 z46:=Tryz.sizeOf245
 v46:=Tryz.zeroValue245
 t51:=underlying190
 a51:=Tryz.isAgg190
 z51:=Tryz.sizeOf190
 v51:=Tryz.zeroValue190
 t53:=underlying303
 a53:=Tryz.isAgg303
 z53:=Tryz.sizeOf303
 v53:=Tryz.zeroValue303
 t171:=underlying308
 a171:=Tryz.isAgg308
 z171:=Tryz.sizeOf308
 v171:=Tryz.zeroValue308
 t173:=underlying310
 a173:=Tryz.isAgg310
 z173:=Tryz.sizeOf310
 v173:=Tryz.zeroValue310
 t212:=underlying330
 a212:=Tryz.isAgg330
 z212:=Tryz.sizeOf330
 v212:=Tryz.zeroValue330
 t213:=underlying331
 a213:=Tryz.isAgg331
 z213:=Tryz.sizeOf331
 t232:=underlying338
 a232:=Tryz.isAgg338
 z232:=Tryz.sizeOf338
 v232:=Tryz.zeroValue338
 t233:=underlying339
 a233:=Tryz.isAgg339
 z233:=Tryz.sizeOf339
 v233:=Tryz.zeroValue339
 g17:=by kernel_rfl
 g18:=by kernel_rfl
 g19:=by kernel_rfl
 i0:=by kernel_rfl
 i2:=by kernel_rfl
 i3:=by kernel_rfl
 i4:=by kernel_rfl
 i5:=by kernel_rfl
 i9:=by kernel_rfl
 i20:=by kernel_rfl
 i37:=by kernel_rfl
 i46:=by kernel_rfl
 i51:=by kernel_rfl
 i53:=by kernel_rfl
 i171:=by kernel_rfl
 i173:=by kernel_rfl
 i212:=by kernel_rfl
 i232:=by kernel_rfl
 i233:=by kernel_rfl
 m17:=by kernel_rfl
 m18:=by kernel_rfl
 m19:=by kernel_rfl }
open Go.RowKit Go.Sort Go.Lib in
theorem Tryz.strconv_Itoa (n:Int) (h0:-9223372036854775808<=n) (h1:n<=9223372036854775807) (w:World) (HF:Pd F w "internal/strconv.uint64pow10" .u64 Pc) :
  Calls F 103 #[C D n] w fun e w'=>e=.returned (K ⟨(Pe n).toArray⟩)/\∃ k os,w'=grow (w.drewN k) os:=Any.strconv_Itoa Tryz.laysM171 n h0 h1 w HF
def Tryz.lays171_ren:P9:=⟨fun | 171=>103 | 243=>170 | 246=>220 | 283=>269 | 284=>270 | 285=>271 | 286=>272 | 129=>265 | 317=>291 | 318=>292 | 319=>293 | 320=>294 | 337=>300 | 338=>301 | n=>n,fun | 3=>3 | 9=>9 | 2=>2 | 4=>4 | 171=>308 | 0=>0 | 53=>303 | 37=>33 | 5=>5 | 173=>310 | 212=>330 | 51=>190 | 20=>20 | 213=>331 | 46=>245 | 232=>338 | 233=>339 | n=>n,fun | 17=>2 | 18=>3 | 19=>4 | n=>n⟩
theorem Tryz.lays171:Go.Proofs.Lays.n171 F Tryz.lays171_ren:={
 mixed:=by kernel_rfl
 f129:=func265.trans (congrArg some (by kernel_rfl))
 f171:=func103.trans (congrArg some (by kernel_rfl))
 f243:=func170.trans (congrArg some (by kernel_rfl))
 f246:=func220.trans (congrArg some (by kernel_rfl))
 f283:=func269.trans (congrArg some (by kernel_rfl))
 f284:=func270.trans (congrArg some (by kernel_rfl))
 f285:=func271.trans (congrArg some (by kernel_rfl))
 f286:=func272.trans (congrArg some (by kernel_rfl))
 f317:=func291.trans (congrArg some (by kernel_rfl))
 f318:=func292.trans (congrArg some (by kernel_rfl))
 f319:=func293.trans (congrArg some (by kernel_rfl))
 f320:=func294.trans (congrArg some (by kernel_rfl))
 f337:=func300.trans (congrArg some (by kernel_rfl))
 f338:=func301.trans (congrArg some (by kernel_rfl))
 t0:=underlying0
 a0:=Tryz.isAgg0
 z0:=Tryz.sizeOf0
 v0:=Tryz.zeroValue0
 t2:=underlying2
 a2:=Tryz.isAgg2
 z2:=Tryz.sizeOf2
 v2:=Tryz.zeroValue2
 t3:=underlying3
 a3:=Tryz.isAgg3
 z3:=Tryz.sizeOf3
 v3:=Tryz.zeroValue3
 t4:=underlying4
 a4:=Tryz.isAgg4
 z4:=Tryz.sizeOf4
 v4:=Tryz.zeroValue4
 t5:=underlying5
 a5:=Tryz.isAgg5
 z5:=Tryz.sizeOf5
 v5:=Tryz.zeroValue5
 t9:=underlying9
 a9:=Tryz.isAgg9
 z9:=Tryz.sizeOf9
 v9:=Tryz.zeroValue9
 t20:=underlying20
 a20:=Tryz.isAgg20
 z20:=Tryz.sizeOf20
 v20:=Tryz.zeroValue20
 t37:=underlying33
 a37:=Tryz.isAgg33
 z37:=Tryz.sizeOf33
 v37:=Tryz.zeroValue33
 t46:=underlying245
 a46:=Tryz.isAgg245
 z46:=Tryz.sizeOf245
 v46:=Tryz.zeroValue245
 t51:=underlying190
 a51:=Tryz.isAgg190
 z51:=Tryz.sizeOf190
 v51:=Tryz.zeroValue190
 t53:=underlying303
 a53:=Tryz.isAgg303
 z53:=Tryz.sizeOf303
 v53:=Tryz.zeroValue303
 t171:=underlying308
 a171:=Tryz.isAgg308
 z171:=Tryz.sizeOf308
 v171:=Tryz.zeroValue308
 t173:=underlying310
 a173:=Tryz.isAgg310
 z173:=Tryz.sizeOf310
 v173:=Tryz.zeroValue310
 t212:=underlying330
 a212:=Tryz.isAgg330
 z212:=Tryz.sizeOf330
 v212:=Tryz.zeroValue330
 t213:=underlying331
 a213:=Tryz.isAgg331
 z213:=Tryz.sizeOf331
 t232:=underlying338
 a232:=Tryz.isAgg338
 z232:=Tryz.sizeOf338
 v232:=Tryz.zeroValue338
 t233:=underlying339
 a233:=Tryz.isAgg339
 z233:=Tryz.sizeOf339
 v233:=Tryz.zeroValue339
 g17:=by kernel_rfl
 g18:=by kernel_rfl
 g19:=by kernel_rfl }
open Go.RowKit Go.Sort Go.Lib in
theorem Tryz.strconv_Itoa_small(i:Nat)(hi:i<100)(w:World):
  Calls F 103 #[C D i] w λe w'=>e=.returned (K ⟨(Pb i).toArray⟩)/\w'=w:=Any.strconv_Itoa_small Tryz.lays171 i hi w
end Go.Proofs

namespace Go.Proofs.YteggfecbjgbndaaGreatDoor
open Go.RowKit Go.Mv
variable {b:Nat} {P:Prop} {t:TypeId} {a u v:Value} {W w w':World}
theorem mcNamea0(h:P:=by
 obtain⟨HB,Hr,hf⟩:=hz;have HZ:=n7 s HB Hr;have HY:=n7 f (by omega) (by omega);have Hl:=λW=>yW s (by omega) Hr W;have Ho:=λW=>tv f hf W;generalize cw s=ns at *;generalize cw f=nf at *;have O1:=H Hl;have O2:=H Ho;have H1:=H hR;have c1:¬(9223372036854775807<1+ns.length):=by omega
 have c2:¬(9223372036854775807<1+ns.length+1):=by omega
 have c3:¬(9223372036854775807<1+ns.length+1+nf.length):=by omega
 have d1:¬(s<1):=by omega
 have d2:¬(1073741824<s):=by omega
 have d3:¬(f<1):=by omega
 have d4:¬(2<f):=by omega
 clear Hl Ho HR hR;have ea:=ez hb;go_wp2_with fail
 go_region_held3 (λw'=>w'.cell? ⟨w.heap.size,1,G⟩=E (C D s)/\w'.cell? ⟨w.heap.size,2,G⟩=E (C D f)) (first|go_keep | (refine⟨?_,?_⟩<;>assumption))
  (first
    |(go_at_call 103;refine(O1.out _ (HS.out.ext (xD (xD hX)))).mono ?_;rintro e w2⟨rfl,Hg⟩;obtain⟨_,k1,k2⟩:=ez (hb.ext (xT (xD (xD (xR _))) Hg)))
    |(go_at_call 103;refine(O2.out _).mono ?_;rintro e w3⟨rfl,rfl⟩))
 go_wp2_with fail
 go_ret2;refine⟨?_,xT hX (xT (xD (xD (xR _))) Hg)⟩;rw[H1.out,BR];rfl):P:=h
theorem mcNamea1(h:P:=by
 go_enter Tryz.func53,Tryz.ntmps53
 go_wp2_with fail
 refine(qx _ s f _).mono ?_;rw[Hm.out];rintro e w1⟨rfl,H2⟩;have Hj:=hb.ext H2;have ea:=ez Hj;go_wp2_with fail
 go_region_held3 (λw'=>w'.cell? ⟨w.heap.size,1,G⟩=E (C D s)/\w'.cell? ⟨w.heap.size,2,G⟩=E (C D f)) (first|go_keep | (refine⟨?_,?_⟩<;>assumption))
  (first
    |(go_at_call 103;refine(O1 _ (HS.ext (xT hX (xD H2)))).mono ?_;rintro e w2⟨rfl,Hg⟩;obtain⟨_,k1,k2⟩:=ez (Hj.ext (xT (xD (xR _)) Hg)))
    |(go_at_call 103;refine(O2 _).mono ?_;rintro e w3⟨rfl,rfl⟩))
 go_wp2_with fail
 go_ret2;refine⟨?_,xT hX (xT (xD H2) Hg)⟩;rw[Hn.out,BR];rfl):P:=h
theorem mcNamea2(h:P:=by
 have H1:=H hR;clear HR hR;go_wp2_with fail
 all_goals (first|(exfalso;exact hz ⟨by assumption,by assumption⟩) | (exfalso;simp_all;done) | (go_ret2;refine⟨by rw[H1.out];rfl,?_⟩;first | exact hD | (have e0:s=0:=(by assumption);subst e0;exact hD)))):P:=h
structure StW (w:World):Prop where
 tab:TabW rT w
 pow:Pd F w "internal/strconv.uint64pow10" .u64 Pc
theorem StW.ext(h:StW w)(c:Ext w w'):StW w':=⟨h.tab.ext c,Lib.tabBelow_of_tabIs h.pow w' c⟩
def sv(l:List UInt8):Value:=K ⟨l.toArray⟩
abbrev Fil:=List UInt8×List UInt8
def Fs(W:World)(v:Value)(fs:List Fil):Prop:=∃c:List Value,SlR W 2 v fs.length c/\∀(i:Nat) (hi:i<O fs),c[i*2]?=E (sv fs[i].1)/\∃u,c[i*2+1]?=E u/\Bs W u fs[i].2
theorem Fs.ext{fs:List Fil}(h:Fs w v fs)(c:Ext w w'):Fs w' v fs:=by
 obtain⟨d,h1,h2⟩:=h;refine⟨d,h1.ext c,λi hi=>?_⟩;obtain⟨h3,u,h4,h5⟩:=h2 i hi;exact⟨h3,u,h4,h5.ext c⟩
theorem Fs.keep{fs:List Fil}(h:Fs w v fs)(hk:∀p u,w.cell? p=E u->w'.cell? p=E u):Fs w' v fs:=by
 obtain⟨c,h1,h2⟩:=h;refine⟨c,h1.keep hk,λi hi=>?_⟩;obtain⟨h3,u,h4,h5⟩:=h2 i hi;exact⟨h3,u,h4,SlR.keep h5 hk⟩
theorem Fs.open_{fs:List Fil}(h:Fs W v fs):∃A c,v=I A fs.length c/\O fs<=c/\c<=9223372036854775807:=by
 obtain⟨d,h1,_⟩:=h;exact xO h1
theorem Fs.at_{A:Option Addr}{m c:Nat}{fs:List Fil}(h:Fs W (I A m c) fs)(hn:0<O fs):m=O fs/\∃b H0,A=E ⟨b,H0,G⟩/\∀(k:Nat) (hk:k<O fs),
  W.cell? ⟨b,H0+k*2,G⟩=E (sv fs[k].1)/\∃B d,W.cell? ⟨b,H0+k*2+1,G⟩=E (I B fs[k].2.length d)/\Bs W (I B fs[k].2.length d) fs[k].2:=by
 obtain⟨e,h1,h2⟩:=h;obtain⟨rfl,b,H0,rfl,hc⟩:=SlR.at_ h1 hn;refine⟨rfl,b,H0,rfl,λk hk=>?_⟩;obtain⟨h3,u,h4,h5⟩:=h2 k hk;obtain⟨B,d,rfl,_,_⟩:=xO h5;exact⟨hc (k*2) _ h3,B,d,by rw[Nat.add_assoc];exact hc (k*2+1) _ h4,h5⟩
def fY(k s f:Int):Bool:=if k=1\/k=2 then decide (s=0/\f=0)else decide ((k=3\/k=4)/\1<=s/\s<=1073741824/\(f=1\/f=2))
def cw(n:Int):List UInt8:=Pb n.toNat
def lZ(k s f:Int):List UInt8:=if k=1 then[77]else if k=2 then[77,46,110,101,119]else(if k=3 then 115 else 112)::(cw s++46::cw f)
def aE(k s f:Int):Option (List UInt8):=if fY k s f=true then some (lZ k s f)else none
def ph(w:World)(r:Option (List UInt8))(e:Ending)(w':World):Prop:=e=.returned (.tuple #[sv (r.getD []),C D (if r.isSome=true then 0 else 2)])/\Ext w w'
theorem yW(n:Int)(c:0<=n)(h1:n<=1073741824)(w:World)(c:StW w):Calls F 103 #[C D n] w λe w'=>e=.returned (K ⟨(cw n).toArray⟩)/\Ext w w':=by
 refine(Tryz.strconv_Itoa n (by omega) (by omega) w c.pow).mono ?_;rintro e w' ⟨rfl,k,c,rfl⟩;refine⟨?_,?_⟩
 ·have:Pe n=cw n:=by
   obtain⟨m,rfl⟩:∃m:Nat,n=m:=⟨n.toNat,by omega⟩;rw[Pa];unfold cw;rw[Int.toNat_natCast]
  rw[this]
 ·exact Lib.below_grow _ _ (xN _) _ _
theorem qx(k s f:Int)(w:World):Calls F 110 #[L #[C M k,C D s,C D f]] w λe w'=>e=.returned (N (fY k s f))/\Ext w w':=by
 go_enter func110,ntmps110
 go_wp2_with fail
 all_goals go_ret
 all_goals refine⟨ret_bool ?_,xA (xR _) _⟩
 all_goals (rw[P6];unfold fY;split<;>simp_all<;>omega)
theorem n7(n:Int)(c:1<=n)(h1:n<=1073741824):O (cw n)<=21:=by
 have h:=Lib.itoa_length_le n (by omega) (by omega);obtain⟨m,rfl⟩:∃m:Nat,n=m:=⟨n.toNat,by omega⟩;rw[Pa]at h;unfold cw;rw[Int.toNat_natCast];exact h
theorem tv(i:Int)(hi:i=1\/i=2)(w:World):Calls F 103 #[C D i] w λe w'=>e=.returned (K ⟨(cw i).toArray⟩)/\w=w':=by
 rcases hi with rfl | rfl
 ·exact(Tryz.strconv_Itoa_small 1 (by decide) w).mono (by rintro e w' ⟨rfl,rfl⟩;exact⟨rfl,rfl⟩)
 ·exact(Tryz.strconv_Itoa_small 2 (by decide) w).mono (by rintro e w' ⟨rfl,rfl⟩;exact⟨rfl,rfl⟩)
def d9(k:Int):List UInt8:=if k=3 then[115]else if k=4 then[112]else[]
def dZ(k:Int):List UInt8:=if k=1 then[77]else if k=2 then[77,46,110,101,119]else[]
theorem DB(k:Int)(w:World):Calls F 101 #[C M k] w λe w'=>e=.returned (sv (d9 k))/\w=w':=by
 by_cases h3:k=3
 ·subst h3;go_enter func101,ntmps101
  go_wp2_with fail;go_ret;exact⟨rfl,rfl⟩
 ·by_cases h4:k=4
  ·subst h4;go_enter func101,ntmps101
   go_wp2_with fail;go_ret;exact⟨rfl,rfl⟩
  ·have hl:d9 k=[]:=by unfold d9;rw[if_neg h3,if_neg h4]
   go_enter func101,ntmps101
   go_wp2_with fail;go_ret;exact⟨by rw[hl];rfl,rfl⟩
theorem Fo(k:Int)(w:World):Calls F 102 #[C M k] w λe w'=>e=.returned (sv (dZ k))/\w=w':=by
 by_cases h3:k=1
 ·subst h3;go_enter func102,ntmps102
  go_wp2_with fail;go_ret;exact⟨rfl,rfl⟩
 ·by_cases h4:k=2
  ·subst h4;go_enter func102,ntmps102
   go_wp2_with fail;go_ret;exact⟨rfl,rfl⟩
  ·have hl:dZ k=[]:=by unfold dZ;rw[if_neg h3,if_neg h4]
   go_enter func102,ntmps102
   go_wp2_with fail;go_ret;exact⟨by rw[hl];rfl,rfl⟩
theorem BR(a:UInt8)(d c:List UInt8):((P3 #[a]++P3 d.toArray)++P3 #[46])++P3 c.toArray=P3 (a::(d++46::c)).toArray:=by
 apply P4;simp[P5]
theorem ez(h:Blk W b t #[a,v,u]):W.cell? ⟨b,0,G⟩=E a/\W.cell? ⟨b,1,G⟩=E v/\W.cell? ⟨b,2,G⟩=E u:=
 ⟨h.cell 0 rfl,h.cell 1 rfl,h.cell 2 rfl⟩
theorem qp(k s f:Int)(w:World)(c:StW w):Calls F 53 #[L #[C M k,C D s,C D f]] w (ph w (aE k s f)):=by
 have HS:=H c;have hb:=Blk.new w 32 #[C M k,C D s,C D f];have hX:Ext w (w.alloc (J #[C M k,C D s,C D f] 32)):=xA (xR _) _;by_cases hm:fY k s f=true
 case neg=>
  have hn:aE k s f=none:=by unfold aE;rw[if_neg hm]
  have Hn:=H hn;have Hm:=H (P7.2 hm);go_enter func53,ntmps53
  go_wp2_with fail
  refine(qx k s f _).mono ?_;rw[Hm.out];rintro e w1⟨rfl,H2⟩;go_wp2_with fail
  go_ret2;exact⟨by rw[Hn.out];rfl,xT hX H2⟩
 case pos=>
  have hn:aE k s f=E (lZ k s f):=by unfold aE;rw[if_pos hm]
  have Hn:=H hn;have Hm:=H hm;rcases(by unfold fY at hm;split at hm<;>simp at hm<;>omega:k=1\/k=2\/((k=3\/k=4)/\1<=s/\s<=1073741824/\(f=1\/f=2)))with rfl | rfl | ⟨hk,HB,Hr,hf⟩
  ·clear hm;go_enter func53,ntmps53
   go_wp2_with fail
   refine(qx _ s f _).mono ?_;rw[Hm.out];rintro e w1⟨rfl,H2⟩;have ea:=ez (hb.ext H2);go_wp2_with fail
   go_ret2;exact⟨by rw[Hn.out];rfl,xT hX H2⟩
  ·clear hm;go_enter func53,ntmps53
   go_wp2_with fail
   refine(qx _ s f _).mono ?_;rw[Hm.out];rintro e w1⟨rfl,H2⟩;have ea:=ez (hb.ext H2);go_wp2_with fail
   go_ret2;exact⟨by rw[Hn.out];rfl,xT hX H2⟩
  ·clear hm;have c:=n7 s HB Hr;have c:=n7 f (by omega) (by omega);have d:=λW=>yW s (by omega) Hr W;have g:=λW=>tv f hf W;have c:lZ k s f=(if k=3 then 115 else 112)::(cw s++46::cw f):=by unfold lZ;rw[if_neg (by omega),if_neg (by omega)]
   rw[c]at Hn;generalize cw s=ns at *;generalize cw f=nf at *;have O1:=H d;have O2:=H g;have c:¬(9223372036854775807<1+O ns):=by omega
   have c:¬(9223372036854775807<1+O ns+1):=by omega
   have c:¬(9223372036854775807<1+O ns+1+O nf):=by omega
   rcases hk with rfl | rfl
   ·have Hn:Hid (aE 3 s f=E (115::(ns++46::nf))):=H (by have h:=Hn.out;simpa using h);exact mcNamea1
   ·have Hn:Hid (aE 4 s f=E (112::(ns++46::nf))):=H (by have h:=Hn.out;simpa using h);exact mcNamea1
theorem Fc(k s f:Int):aE k s f=if dZ k≠[]/\s=0/\f=0 then some (dZ k)else if d9 k=[]\/s<1\/1073741824<s\/f<1\/2<f then none else some (d9 k++(cw s++46::cw f)):=by
 by_cases h1:k=1
 ·subst h1;by_cases h:s=0/\f=0
  ·obtain⟨rfl,rfl⟩:=h;rfl
  rw[if_neg (by simp[dZ];exact λh2 h3=>h ⟨h2,h3⟩),if_pos (by simp[d9])];unfold aE fY;rw[if_neg (by simp;exact λh2 h3=>h ⟨h2,h3⟩)]
 ·by_cases h2:k=2
  ·subst h2;by_cases h:s=0/\f=0
   ·obtain⟨rfl,rfl⟩:=h;rfl
   rw[if_neg (by simp[dZ];exact λh2 h3=>h ⟨h2,h3⟩),if_pos (by simp[d9])];unfold aE fY;rw[if_neg (by simp;exact λh2 h3=>h ⟨h2,h3⟩)]
  ·rw[if_neg (by simp[dZ,h1,h2])];have hm:fY k s f=decide ((k=3\/k=4)/\1<=s/\s<=1073741824/\(f=1\/f=2)):=by unfold fY;rw[if_neg (by omega)]
   have hn:lZ k s f=(if k=3 then 115 else 112)::(cw s++46::cw f):=by unfold lZ;rw[if_neg h1,if_neg h2]
   unfold aE d9;rw[hm,hn];by_cases h3:k=3
   ·subst h3;by_cases h:1<=s/\s<=1073741824/\(f=1\/f=2)
    ·obtain⟨c,hb,hc⟩:=h;rcases hc with rfl | rfl<;>simp[c,hb]<;>omega
    rw[if_neg (by simp;omega),if_pos (by simp;omega)]
   ·by_cases h4:k=4
    ·subst h4;by_cases h:1<=s/\s<=1073741824/\(f=1\/f=2)
     ·obtain⟨c,hb,hc⟩:=h;rcases hc with rfl | rfl<;>simp[c,hb]<;>omega
     rw[if_neg (by simp;omega),if_pos (by simp;omega)]
    ·rw[if_neg (by simp;omega),if_pos (by simp[h3,h4])]
theorem Ec(k:Int):(k=1/\dZ k=[77]/\d9 k=[])\/(k=2/\dZ k=[77,46,110,101,119]/\d9 k=[])\/(k=3/\dZ k=[]/\d9 k=[115])\/(k=4/\dZ k=[]/\d9 k=[112])\/(dZ k=[]/\d9 k=[]):=by
 by_cases h1:k=1
 ·subst h1;exact .inl ⟨rfl,rfl,rfl⟩
 ·by_cases h2:k=2
  ·subst h2;exact .inr (.inl ⟨rfl,rfl,rfl⟩)
  ·by_cases h3:k=3
   ·subst h3;exact .inr (.inr (.inl ⟨rfl,rfl,rfl⟩))
   ·by_cases h4:k=4
    ·subst h4;exact .inr (.inr (.inr (.inl ⟨rfl,rfl,rfl⟩)))
    ·exact .inr (.inr (.inr (.inr ⟨by unfold dZ;rw[if_neg h1,if_neg h2],by unfold d9;rw[if_neg h3,if_neg h4]⟩)))
theorem lG (k s f:Int) (w:World) (hS:StW w):Calls F 50 #[L #[C M k,C D s,C D f]] w (ph w (aE k s f)):=by
 have HS:=H hS;clear hS;have hb:=Blk.new w 32 #[C M k,C D s,C D f]
 have hX:Ext w (w.alloc (J #[C M k,C D s,C D f] 32)):=xA (xR _) _
 rw[Fc];obtain ⟨pl,Hz⟩:∃ pl,dZ k=pl:=⟨_,rfl⟩;obtain ⟨le,Hx⟩:∃ le,d9 k=le:=⟨_,rfl⟩;have HN:=Ec k
 rw[Hz,Hx] at HN ⊢
 have L1:=fun W=>DB k W
 have L2:=fun W=>Fo k W
 rw[Hz] at L2;rw[Hx] at L1;have O1:=H L1;have O2:=H L2;clear L1 L2 Hz Hx;obtain ⟨R,hR⟩:∃ R,(if pl≠[]/\s=0/\f=0 then some pl else if le=[]\/s<1\/1073741824<s\/f<1\/2<f then none else some (le++(cw s++46::cw f)))=R:=⟨_,rfl⟩;rw[hR];have HR:=H hR;clear hR
 have hD:Ext w (w.alloc (J #[C M k,C D s,C D f] 32)).drew:=xD hX
 go_enter func50,ntmps50
 go_wp2_with fail
 go_region_held3 (fun w'=>w'.cell? ⟨w.heap.size,0,G⟩=E (C M k)) (first | go_keep | assumption)
  (first
    | (go_at_call 101;refine (O1.out _).mono ?_;rintro e w2 ⟨rfl,rfl⟩)
    | (go_at_call 102;refine (O2.out _).mono ?_;rintro e w3 ⟨rfl,rfl⟩))
 clear O1 O2;simp only[sv]
 rcases HN with ⟨rfl,rfl,rfl⟩ | ⟨rfl,rfl,rfl⟩ | ⟨rfl,rfl,rfl⟩ | ⟨rfl,rfl,rfl⟩ | ⟨rfl,rfl⟩
 ·by_cases hz:s=0/\f=0
  ·obtain ⟨rfl,rfl⟩:=hz
   have hR:R=E [77]:=HR.out.symm
   have H1:=H hR;clear HR hR;go_wp2_with fail
   go_ret2
   exact ⟨by rw[H1.out];rfl,hD⟩
  ·have hR:R=none:=by rw[<-HR.out,if_neg (fun h=>hz h.2),if_pos (.inl rfl)]
   exact mcNamea2
 ·by_cases hz:s=0/\f=0
  ·obtain ⟨rfl,rfl⟩:=hz
   have hR:R=E [77,46,110,101,119]:=HR.out.symm
   have H1:=H hR;clear HR hR;go_wp2_with fail
   go_ret2
   exact ⟨by rw[H1.out];rfl,hD⟩
  ·have hR:R=none:=by rw[<-HR.out,if_neg (fun h=>hz h.2),if_pos (.inl rfl)]
   exact mcNamea2
 ·by_cases hz:1<=s/\s<=1073741824/\(f=1\/f=2)
  ·have hR:R=E (115::(cw s++46::cw f)):=by
    rw[<-HR.out,if_neg (fun h=>h.1 rfl),if_neg (by rintro (h | h | h | h | h) <;> first | (cases h;done) | omega)]
    rfl
   exact mcNamea0
  ·have hR:R=none:=by rw[<-HR.out,if_neg (fun h=>h.1 rfl),if_pos (by omega)]
   have H1:=H hR;clear HR hR;go_wp2_with fail
   all_goals (first | (exfalso;omega) | (go_ret2;exact ⟨by rw[H1.out];rfl,hD⟩))
 ·by_cases hz:1<=s/\s<=1073741824/\(f=1\/f=2)
  ·have hR:R=E (112::(cw s++46::cw f)):=by
    rw[<-HR.out,if_neg (fun h=>h.1 rfl),if_neg (by rintro (h | h | h | h | h) <;> first | (cases h;done) | omega)]
    rfl
   exact mcNamea0
  ·have hR:R=none:=by rw[<-HR.out,if_neg (fun h=>h.1 rfl),if_pos (by omega)]
   have H1:=H hR;clear HR hR;go_wp2_with fail
   all_goals (first | (exfalso;omega) | (go_ret2;exact ⟨by rw[H1.out];rfl,hD⟩))
 ·have hR:R=none:=HR.out.symm
  have H1:=H hR;clear HR hR;go_wp2_with fail
  go_ret2
  exact ⟨by rw[H1.out];rfl,hD⟩
theorem mcMan1a0(h:P:=by
 go_wp2_with (go_at_call 64;refine(eo _ _ _ _).mono ?_;rintro e w2⟨rfl,rfl⟩;first | rw[hcn] | rw[show inB (-1) 1 4=false from rfl])
 all_goals go_ret
 all_goals exact⟨by first | rfl | (exact ret_bool (by simp;omega)),fl H7 _⟩):P:=h
theorem mcMan1a1(h:P:=by
 subst hR;go_wp2_with (go_at_call 64;refine(eo _ _ _ _).mono ?_;rintro e w2⟨rfl,rfl⟩;first | rw[hcn] | rw[show inB (-1) 1 4=false from rfl])
 go_ret;exact⟨rfl,fl H7 _⟩):P:=h
structure Sg4 where
 seq:Int
 fmt:Int
 first:Int
 count:Int
deriving DecidableEq
def Sg4.cells(s:Sg4):List Value:=[C D s.seq,C D s.fmt,C D s.first,C D s.count]
def bM(l:List Sg4):List Value:=l.flatMap Sg4.cells
theorem tR(l:List Sg4):O (bM l)=O l*4:=by
 induction l with
 |nil=>rfl
 |cons e l ih=>simp[bM,Sg4.cells]at ih⊢;omega
def Sgs(w:World)(v:Value)(l:List Sg4):Prop:=SlR w 4 v l.length (bM l)
theorem Sgs.ext{l:List Sg4}(h:Sgs w v l)(he:Ext w w'):Sgs w' v l:=SlR.ext h he
theorem Sgs.keep{l:List Sg4}(h:Sgs w v l)(hk:∀p u,w.cell? p=E u->w'.cell? p=E u):Sgs w' v l:=SlR.keep h hk
theorem Sgs.open_{l:List Sg4}(h:Sgs W v l):∃A c,v=I A l.length c/\O l<=c/\c<=9223372036854775807:=xO h
theorem Sgs.nil(w:World):Sgs w (I none 0 0) []:=SlR.nil w 4
theorem mu(l:List Sg4)(k:Nat)(h:k<l.length)(i:Nat)(hi:i<4:=by omega):(bM l)[k*4+i]?=l[k].cells[i]?:=by
 induction l generalizing k with
 |nil=>simp at h
 |cons e l ih=>
  rw[show bM (e::l)=e.cells++bM l from rfl];have hl:e.cells.length=4:=rfl;cases k with
  |zero=>rw[List.getElem?_append_left (by omega)];simp
  |succ k=>
   rw[List.getElem?_append_right (by omega),hl,show(k+1)*4+i-4=k*4+i from by omega];simpa using ih k (by simpa using h)
theorem Sgs.at_{A:Option Addr}{m c:Nat}{l:List Sg4}(h:Sgs w (I A m c) l)(hn:0<O l):m=O l/\∃b H0,A=E ⟨b,H0,G⟩/\∀(k:Nat) (hk:k<O l),
  w.cell? ⟨b,H0+k*4,G⟩=E (C D l[k].seq)/\w.cell? ⟨b,H0+k*4+1,G⟩=E (C D l[k].fmt)/\w.cell? ⟨b,H0+k*4+2,G⟩=E (C D l[k].first)/\w.cell? ⟨b,H0+k*4+3,G⟩=E (C D l[k].count):=by
 obtain⟨rfl,b,H0,rfl,hc⟩:=SlR.at_ h hn;refine⟨rfl,b,H0,rfl,λk hk=>⟨?_,?_,?_,?_⟩⟩
 ·exact hc (k*4) _ (mu l k hk 0)
 ·exact hc (k*4+1) _ (mu l k hk 1)
 ·exact hc (k*4+2) _ (mu l k hk 2)
 ·exact hc (k*4+3) _ (mu l k hk 3)
structure Mf where
 next:Int
 term:Int
 vote:Int
 sq:Int
 sf:Int
 segs:List Sg4
deriving DecidableEq
def inB(n c hi:Int):Bool:=decide (c<=n/\n<=hi)
def cP(next d c:Int):Bool:=decide (1<=d/\d<=next-1/\(c=1\/c=2))
def cD(m:Mf)(i:Nat)(s:Sg4):Bool:=
 cP m.next s.seq s.fmt&&decide (s.seq≠m.sq)&&inB s.first 1 1073741820&&(m.segs.take i).all (λt=>decide (t.seq≠s.seq)) &&
 (match m.segs[i-1]? with | none=>true | some p=>decide (i=0\/s.first=p.first+p.count))&&(inB s.count 1 4||(decide (s.count = -1)&&decide (i+1=O m.segs)))
def dN(m:Mf):Bool:=inB m.next 1 1073741824&&inB m.term 0 1073741824&&inB m.vote 0 5&&decide (O m.segs<=60)
def dX(m:Mf):Bool:=decide (m.sq=0/\m.sf=0)||cP m.next m.sq m.sf
def dc(m:Mf):Nat->Bool
 |0=>true
 |k+1=>dc m k&&(match m.segs[k]? with | none=>false | some s=>cD m k s)
def aZ(m:Mf):Bool:=dN m&&dX m&&dc m (O m.segs)
theorem eo(n c hi:Int)(w:World):Calls F 64 #[C D n,C D c,C D hi] w λe w'=>e=.returned (N (inB n c hi))/\w=w':=by
 go_enter func64,ntmps64
 go_wp2_with fail
 all_goals go_ret
 all_goals exact⟨ret_bool (by rw[P6];unfold inB;simp;omega),rfl⟩
theorem aj{x y z:Value}(h:Blk W b t #[a,v,u,x,y,z]):W.cell? ⟨b,0,G⟩=E a/\W.cell? ⟨b,1,G⟩=E v/\W.cell? ⟨b,2,G⟩=E u/\W.cell? ⟨b,3,G⟩=E x/\W.cell? ⟨b,4,G⟩=E y/\W.cell? ⟨b,5,G⟩=E z:=
 ⟨h.cell 0 rfl,h.cell 1 rfl,h.cell 2 rfl,h.cell 3 rfl,h.cell 4 rfl,h.cell 5 rfl⟩
theorem aM{x:Value}(h:Blk W b t #[a,v,u,x]):W.cell? ⟨b,0,G⟩=E a/\W.cell? ⟨b,1,G⟩=E v/\W.cell? ⟨b,2,G⟩=E u/\W.cell? ⟨b,3,G⟩=E x:=
 ⟨h.cell 0 rfl,h.cell 1 rfl,h.cell 2 rfl,h.cell 3 rfl⟩
theorem nT(next f g i h:Int)(v:Value)(d c:Int)(hn:1<=next/\next<=1073741824)(w:World):
  Calls F 65 #[L #[C D next,C D f,C D g,C D i,C D h,v],C D d,C D c] w λe w'=>e=.returned (N (cP next d c))/\Ext w w':=by
 have h1:IntKind.i64.wrap (next-1)=next-1:=by rw[IntKind.wrap_i64];omega
 obtain⟨h2,h3⟩:=hn;go_enter func65,ntmps65
 go_wp2_with (go_at_call 64;refine(eo _ _ _ _).mono ?_;rintro e j⟨rfl,rfl⟩)
 all_goals go_ret
 all_goals refine⟨ret_bool ?_,xA (xR _) _⟩
 all_goals (rw[P6];simp[cP,inB]at *;omega)
def mfC(m:Mf)(v:Value):Array Value:=#[C D m.next,C D m.term,C D m.vote,C D m.sq,C D m.sf,v]
theorem fl{a b:World}(h:Ext a b)(n:Nat):Ext a (b.drewN n):=o8 h n
theorem Bn{H0:Nat}{l:List Sg4}(he:Ext w w')(h:∀(k:Nat) (hk:k<O l),
   w.cell? ⟨b,H0+k*4,G⟩=E (C D l[k].seq)/\w.cell? ⟨b,H0+k*4+1,G⟩=E (C D l[k].fmt)/\w.cell? ⟨b,H0+k*4+2,G⟩=E (C D l[k].first)/\w.cell? ⟨b,H0+k*4+3,G⟩=E (C D l[k].count)):
  ∀(k:Nat) (hk:k<O l),
   w'.cell? ⟨b,H0+k*4,G⟩=E (C D l[k].seq)/\w'.cell? ⟨b,H0+k*4+1,G⟩=E (C D l[k].fmt)/\w'.cell? ⟨b,H0+k*4+2,G⟩=E (C D l[k].first)/\w'.cell? ⟨b,H0+k*4+3,G⟩=E (C D l[k].count):=
 λk hk=>⟨he.cell (h k hk).1,he.cell (h k hk).2.1,he.cell (h k hk).2.2.1,he.cell (h k hk).2.2.2⟩
theorem FX(m:Mf)(v:Value)(i:Nat)(hi:i<O m.segs)(HX:O m.segs<=60)(hn:1<=m.next/\m.next<=1073741824)(Hc:∀t∈m.segs.take i,1<=t.first/\t.first<=1073741820/\-1<=t.count/\t.count<=4)(w:World)(Z:Sgs w v m.segs):
  Calls F 66 #[L #[C D m.next,C D m.term,C D m.vote,C D m.sq,C D m.sf,v],C D i] w λe w'=>e=.returned (N (cD m i m.segs[i]))/\Ext w w':=by
 obtain⟨A,c,rfl,Hk,HM⟩:=Z.open_;obtain⟨_,b,H0,rfl,V⟩:=Z.at_ (by omega);obtain⟨s0,s1,s2,s3⟩:=V i hi;obtain⟨s,hs⟩:∃s,m.segs[i]=s:=⟨_,rfl⟩;rw[hs]at s0 s1 s2 s3⊢;have HC:=H V;have HA:cD m i s=cD m i s:=rfl;obtain⟨R,hR⟩:∃R,cD m i s=R:=⟨_,rfl⟩;rw[hR];have l:=H hR;have Hs:=H hs;have H9:=H Hc;have Y:=Blk.new w 30 #[C D m.next,C D m.term,C D m.vote,C D m.sq,C D m.sf,I (E ⟨b,H0,G⟩) m.segs.length c];have o:Ext w (w.alloc (J #[C D m.next,C D m.term,C D m.vote,C D m.sq,C D m.sf,I (E ⟨b,H0,G⟩) m.segs.length c] 30)):=xA (xR _) _;have ea:=aj Y;have t0:=o.cell s0;have t1:=o.cell s1;have t2:=o.cell s2;have t3:=o.cell s3;have K2:(i:Int)<(O m.segs:Int):=by omega
 have HL:Blk ((w.alloc (J #[C D m.next,C D m.term,C D m.vote,C D m.sq,C D m.sf,I (E ⟨b,H0,G⟩) m.segs.length c] 30)).alloc (J #[C D s.seq,C D s.fmt,C D s.first,C D s.count] 36)) (w.heap.size+1) 36 #[C D s.seq,C D s.fmt,C D s.first,C D s.count]:=by
  have:=Blk.new (w.alloc (J #[C D m.next,C D m.term,C D m.vote,C D m.sq,C D m.sf,I (E ⟨b,H0,G⟩) m.segs.length c] 30)) 36 #[C D s.seq,C D s.fmt,C D s.first,C D s.count];rwa[xS]at this
 have HK:Ext w ((w.alloc (J #[C D m.next,C D m.term,C D m.vote,C D m.sq,C D m.sf,I (E ⟨b,H0,G⟩) m.segs.length c] 30)).alloc (J #[C D s.seq,C D s.fmt,C D s.first,C D s.count] 36)):=xA o _;have Hj:=Y.alloc (J #[C D s.seq,C D s.fmt,C D s.first,C D s.count] 36);have Hf:=λ(W:World)=>nT m.next m.term m.vote m.sq m.sf (I (E ⟨b,H0,G⟩) m.segs.length c) s.seq s.fmt hn W;have Ht:=H Hf;have K3:=H hn;clear hR hs Hc V Hf hn HA Z;go_enter func66,ntmps66
 go_wp2_with fail
 refine(Ht _).mono ?_;rintro e w1⟨rfl,K⟩;have X:=H (xT HK K);have z:=X;obtain⟨M0,M1,M2,M3,M4,M5⟩:=aj (Hj.ext K);obtain⟨S0,S1,S2,S3⟩:=aM (HL.ext K);have HH:=Bn X HC;have HG:=H HH;clear HH HC Ht Y Hj HL o HK K X t0 t1 t2 t3 s0 s1 s2 s3 M0 M1 M2 M4 S1 ea;cases hf:cP m.next s.seq s.fmt with
 |false=>
  have hR:R=false:=by rw[<-l.out];unfold cD;rw[hf];rfl
  subst hR;clear l hf;go_wp2_with fail;go_ret;exact⟨rfl,z.out⟩
 |true=>
 by_cases n:s.seq=m.sq
 ·have hR:R=false:=by rw[<-l.out];unfold cD;simp[n]
  subst hR;clear l hf;go_wp2_with fail;go_ret;exact⟨rfl,z.out⟩
 cases U:inB s.first 1 1073741820 with
 |false=>
  have hR:R=false:=by rw[<-l.out];unfold cD;simp[U]
  subst hR;clear l hf;go_wp2_with (go_at_call 64;refine(eo _ _ _ _).mono ?_;rintro e w2⟨rfl,rfl⟩;rw[U])
  go_ret;exact⟨rfl,z.out⟩
 |true=>
 have B:Hid (((m.segs.take i).all (λt=>decide (t.seq≠s.seq)) &&
 (match m.segs[i-1]? with | none=>true | some p=>decide (i=0\/s.first=p.first+p.count))&&(inB s.count 1 4||(decide (s.count = -1)&&decide (i+1=O m.segs))))=R):=H (by
  rw[<-l.out];unfold cD;simp[hf,U,n];try rfl)
 clear l hf;go_wp2_with (go_at_call 64;refine(eo _ _ _ _).mono ?_;rintro e w2⟨rfl,rfl⟩;rw[U])
 go_loopw [6] (λx W=>∃j:Nat,j<=i/\x=C D j/\Hid (∀q (_:q<j) (h2:q<O m.segs),m.segs[q].seq≠s.seq)/\Ext w1 W) (λx _=>i-(intOf x).toNat)
 case atStart=>exact⟨0,by omega,rfl,H λq n=>by omega,xR _⟩
 case round=>
  obtain⟨j,hj,rfl,Q,H3⟩:=hrel;have H7:=H (xT z H3);have HI:=Bn H3 HG;have S:=H HI;have N3:=H3.cell M3;have N5:=H3.cell M5;have T0:=H3.cell S0;have T2:=H3.cell S2;have T3:=H3.cell S3;have HEq:=H H3;clear HI HG H3 M3 M5 S0 S2 S3;by_cases hlt:j<i
  ·have HV:j<O m.segs:=by omega
   obtain⟨c0,_,_,_⟩:=S j HV;have hp:m.segs[j].seq=s.seq->R=false:=λh=>by
    rw[<-B.out];have:((m.segs.take i).all (λt=>decide (t.seq≠s.seq)))=false:=by
     rw[List.all_eq_false];exact⟨m.segs[j],P0.2 ⟨j,by omega,rfl⟩,by simpa using h⟩
    rw[this];simp
   have n:m.segs[j].seq≠s.seq->∀q (_:q<j+1) (h2:q<O m.segs),m.segs[q].seq≠s.seq:=λh q h3 h2=>by
     by_cases e:q=j
     ·subst e;exact h
     exact Q q (by omega) h2
   have Hp:=H hp;have Hq:=H n;clear hp n B Q;generalize m.segs[j].seq=x at *;generalize s.seq=y at *;by_cases hx:x=y
   ·have hR:=Hp hx;subst hR hx;go_wp2_with fail
    go_quiet (fail)
    go_wp2_with fail;go_ret;exact⟨rfl,fl H7 _⟩
   have HU:=H (Hq hx);go_wp2_with fail
   go_quiet (fail)
   go_wp2_with fail
   go_roundw
   case rel=>exact⟨j+1,by omega,by go_num,HU,fl HEq _⟩
   case measure=>simp[intOf];omega
  ·obtain rfl:j=i:=by omega
   have Hi:((m.segs.take j).all (λt=>decide (t.seq≠s.seq)))=true:=by
    rw[P2];intro x hx;obtain⟨q,n,rfl⟩:=P0.1 hx;simpa using Q q (by omega) (by omega)
   have M:Hid ((((match m.segs[j-1]? with | none=>true | some p=>decide (j=0\/s.first=p.first+p.count))&&(inB s.count 1 4||(decide (s.count = -1)&&decide (j+1=O m.segs)))))=R):=H (by
    rw[<-B.out,Hi];rfl)
   clear B Hi Q HEq;cases j with
   |zero=>
    have g:Hid ((inB s.count 1 4||(decide (s.count = -1)&&decide (0+1=O m.segs)))=R):=H (by
     rw[<-M.out];cases m.segs[0-1]?<;>simp)
    clear M S N3;have hz:decide ((0:Int)<((0:Nat):Int))=false:=by decide
    go_wp2_with fail
    go_quiet (fail)
    cases hcn:inB s.count 1 4 with
    |true=>
     have hR:R=true:=by rw[<-g.out,hcn];rfl
     exact mcMan1a1
    |false=>
     by_cases f:s.count = -1
     ·by_cases d:0+1=O m.segs
      ·have hR:R=true:=by rw[<-g.out];simp[f,d]
       have HW:((O m.segs:Int)-1)=(0:Int):=by omega
       subst hR;clear d;exact mcMan1a0
      have hR:R=false:=by rw[<-g.out,hcn];simp[f,d]
      subst hR;exact mcMan1a0
     have hR:R=false:=by rw[<-g.out,hcn];simp[f]
     exact mcMan1a1
   |succ k=>
    have hk:k<O m.segs:=by omega
    obtain⟨_,_,d2,d3⟩:=S k hk;have eb:=H9 m.segs[k] (P0.2 ⟨k,by omega,rfl⟩);have HO:m.segs[k+1-1]?=E m.segs[k]:=by rw[Nat.add_sub_cancel];exact P1 hk
    have T:Hid ((decide (s.first=m.segs[k].first+m.segs[k].count)&&(inB s.count 1 4||(decide (s.count = -1)&&decide (k+1+1=O m.segs))))=R):=H (by
     rw[<-M.out,HO];simp)
    clear M S HO H9;generalize m.segs[k].first=pf at *
    generalize m.segs[k].count=pc at *;have K4:IntKind.i64.wrap (pf+pc)=pf+pc:=by rw[IntKind.wrap_i64];omega
    by_cases r:s.first=pf+pc
    ·have g:Hid ((inB s.count 1 4||(decide (s.count = -1)&&decide (k+1+1=O m.segs)))=R):=H (by
      rw[<-T.out];simp[r])
     clear T;go_wp2_with fail
     go_quiet (fail)
     cases hcn:inB s.count 1 4 with
     |true=>
      have hR:R=true:=by rw[<-g.out,hcn];rfl
      exact mcMan1a1
     |false=>
      by_cases f:s.count = -1
      ·by_cases d:(k+1)+1=O m.segs
       ·have hR:R=true:=by rw[<-g.out];simp[f,d]
        have HW:((O m.segs:Int)-1)=((k+1):Int):=by omega
        subst hR;clear d;exact mcMan1a0
       have hR:R=false:=by rw[<-g.out,hcn];simp[f,d]
       subst hR;exact mcMan1a0
      have hR:R=false:=by rw[<-g.out,hcn];simp[f]
      exact mcMan1a1
    ·have hR:R=false:=by rw[<-T.out];simp[r]
     subst hR;clear T;go_wp2_with fail
     go_quiet (fail)
     go_wp2_with fail;go_ret;exact⟨rfl,fl H7 _⟩
theorem mcMan2a0(h:P:=by
 obtain⟨j,hj,rfl,Hw,H3⟩:=hrel;have H7:=H (xT E0 H3);have HEq:=H H3;have ea:=aj (Hb.ext H3);by_cases hlt:j<m.segs.length
 ·have Hf:=FX m (I A m.segs.length c) j hlt h4 Hn (tx Hw) wr (HS.ext H7);have Ht:=H Hf;have K0:(j:Int)<(m.segs.length:Int):=by omega
  go_wp2_with fail
  refine Ht.mono ?_;rintro e w4⟨rfl,HJ⟩;cases hso:cD m j m.segs[j]with
  |false=>
   have hR:R=2:=by rw[<-H8.out,th hlt hso _ hlt];rfl
   subst hR;go_wp2_with fail;go_ret;exact⟨rfl,xT H7 HJ⟩
  |true=>
   have HQ:dc m (j+1)=true:=by
    unfold dc;rw[Hw.out,P1 hlt];simpa using hso
   have HT:=H HQ;go_wp2_with fail
   go_roundw
   case rel=>exact⟨j+1,by omega,by go_num,HT,xT HEq HJ⟩
   case measure=>simp[intOf];omega
 ·obtain rfl:j=m.segs.length:=by omega
  have hR:R=0:=by rw[<-H8.out,Hw.out];rfl
  subst hR;go_wp2_with fail;go_ret;exact⟨rfl,H7.out⟩):P:=h
theorem Nj:Tryz.prog.underlying 27=E (.struct (Tryz.prog.fieldsOf 27)):=by kernel_rfl
theorem Od:Tryz.prog.stoodInHeld 27=false:=by kernel_rfl
theorem Lg(a b c d:Int)(W:World):(Op.equalIn 10000 27 (L #[C D a,C D b]) (L #[C D c,C D d])).run F W=.ok (decide (a=c/\b=d)) W:=by
 have e:decide (a=c/\b=d)=(a==c&&b==d):=by
  rw[P6];simp
 rw[run_equalIn_struct W 9999 27 _ _ Nj Od,e];cases f:(a==c)<;>cases h1:(b==d)<;>simp[go_sem,f,h1]
theorem mZ{n s f:Int}(h:cP n s f=true):1<=s/\s<=n-1/\(f=1\/f=2):=by simpa[cP]using h
theorem inB_b{n a b:Int}:inB n a b=true↔(a<=n/\n<=b):=by simp[inB]
theorem si{m:Mf}{i:Nat}{s:Sg4}(h:cD m i s=true):cP m.next s.seq s.fmt=true/\s.seq≠m.sq/\(1<=s.first/\s.first<=1073741820)/\(∀t∈m.segs.take i,t.seq≠s.seq)/\((1<=s.count/\s.count<=4)\/(s.count = -1/\i+1=O m.segs)):=by
 unfold cD at h;simp only[P8,Bool.or_eq_true,decide_eq_true_eq,P2,inB_b]at h;obtain⟨⟨⟨⟨⟨h1,h2⟩,h3⟩,h4⟩,_⟩,h5⟩:=h;exact⟨h1,h2,h3,h4,h5⟩
theorem oO{m:Mf}:∀ {k:Nat},dc m k=true->∀i,i<k->∃s,m.segs[i]?=E s/\cD m i s=true
 |0,_,i,hi=>by omega
 | k+1,h,i,hi=>by
  unfold dc at h;rw[P8]at h;by_cases e:i=k
  ·subst e;have h2:=h.2;cases hs:m.segs[i]? with
   |none=>rw[hs]at h2;cases h2
   |some s=>rw[hs]at h2;exact⟨s,rfl,h2⟩
  ·exact oO h.1 i (by omega)
theorem tx{m:Mf}{k:Nat}(h:dc m k=true):∀t∈m.segs.take k,1<=t.first/\t.first<=1073741820/\-1<=t.count/\t.count<=4:=by
 intro t d;obtain⟨q,e,rfl⟩:=P0.1 d;obtain⟨s,hs,c⟩:=oO h q (by omega);rw[P1 (by omega)]at hs;cases hs;obtain⟨_,_,h3,_,h5⟩:=si c;omega
theorem th{m:Mf}{i:Nat}(hi:i<O m.segs)(h:cD m i m.segs[i]=false):∀k,i<k->dc m k=false:=by
 intro k hk;rw[P7];intro d;obtain⟨s,hs,c⟩:=oO d i hk;rw[P1 hi]at hs;cases hs;rw[h]at c;cases c
theorem Iw(m:Mf)(v:Value)(w:World)(q:Sgs w v m.segs):
  Calls F 24 #[L #[C D m.next,C D m.term,C D m.vote,C D m.sq,C D m.sf,v]] w λe w'=>e=.returned (C D (if aZ m then 0 else 2))/\Ext w w':=by
 obtain⟨A,c,rfl,Hk,B⟩:=q.open_;obtain⟨R,hR⟩:∃R:Int,(if aZ m then 0 else 2)=R:=⟨_,rfl⟩;rw[hR];have l:=H hR;have HS:=H q;have n:=Blk.new w 30 #[C D m.next,C D m.term,C D m.vote,C D m.sq,C D m.sf,I A m.segs.length c];have y:Ext w (w.alloc (J #[C D m.next,C D m.term,C D m.vote,C D m.sq,C D m.sf,I A m.segs.length c] 30)):=xA (xR _) _;have ea:=aj n;have E0:=H y;have Hb:=H n;clear hR q y n;have H4:dN m=false->R=2:=λh=>by rw[<-l.out];unfold aZ;rw[h];rfl
 go_enter func24,ntmps24
 cases h1:inB m.next 1 1073741824 with
 |false=>
  have:=H4 (by unfold dN;rw[h1];rfl);subst this;go_wp2_with (go_at_call 64;refine(eo _ _ _ _).mono ?_;rintro e f⟨rfl,rfl⟩;rw[h1])
  go_ret;exact⟨rfl,E0.out⟩
 |true=>
 cases h2:inB m.term 0 1073741824 with
 |false=>
  have:=H4 (by unfold dN;rw[h1,h2];rfl);subst this;go_wp2_with (go_at_call 64;refine(eo _ _ _ _).mono ?_;rintro e f⟨rfl,rfl⟩;first | rw[h1] | rw[h2])
  go_ret;exact⟨rfl,E0.out⟩
 |true=>
 cases h3:inB m.vote 0 5 with
 |false=>
  have:=H4 (by unfold dN;rw[h1,h2,h3];rfl);subst this;go_wp2_with (go_at_call 64;refine(eo _ _ _ _).mono ?_;rintro e f⟨rfl,rfl⟩;first | rw[h1] | rw[h2] | rw[h3])
  go_ret;exact⟨rfl,E0.out⟩
 |true=>
 by_cases h4:O m.segs<=60
 case neg=>
  have:=H4 (by unfold dN;rw[h1,h2,h3];simpa using h4);subst this;have h5:(60:Int)<(O m.segs:Int):=by omega
  go_wp2_with (go_at_call 64;refine(eo _ _ _ _).mono ?_;rintro e f⟨rfl,rfl⟩;first | rw[h1] | rw[h2] | rw[h3])
  go_ret;exact⟨rfl,E0.out⟩
 have h5:¬(60:Int)<(O m.segs:Int):=by omega
 have s:dN m=true:=by unfold dN;rw[h1,h2,h3];simpa using h4
 have g:Hid ((if(dX m&&dc m (O m.segs))=true then(0:Int)else 2)=R):=H (by rw[<-l.out];unfold aZ;rw[s];rfl);have hn:=inB_b.1 h1;have Hn:=H hn;clear H4 l s hn;rcases(show(m.sq=0/\m.sf=0)\/(m.sq=0/\m.sf≠0)\/m.sq≠0 by omega)with⟨r,hb⟩ | hc
 ·have k:dX m=true:=by unfold dX;simp[r,hb]
  have G:=H r;have K:=H hb;go_wp2_with (first|(go_at_call 64;refine(eo _ _ _ _).mono ?_;rintro e f⟨rfl,rfl⟩;first | rw[h1] | rw[h2] | rw[h3]))
  clear r hb;have H8:Hid ((if dc m (O m.segs)=true then(0:Int)else 2)=R):=H (by rw[<-g.out,k];rfl);clear g ea;go_loopw [3] (λx W=>∃j:Nat,j<=O m.segs/\x=C D j/\Hid (dc m j=true)/\Ext (w.alloc (J #[C D m.next,C D m.term,C D m.vote,C D m.sq,C D m.sf,I A m.segs.length c] 30)) W) (λx _=>O m.segs-(intOf x).toNat)
  case atStart=>exact⟨0,by omega,rfl,H rfl,(by rw[G.out,K.out];exact xR _)⟩
  case round=>
   exact mcMan2a0
 have p:¬(m.sq=0/\m.sf=0):=by omega
 cases d:cP m.next m.sq m.sf with
 |false=>
  have o:=d;have hR:R=2:=by rw[<-g.out];unfold dX;rw[d];simp[p]
  subst hR;clear g p;rcases hc with⟨Hk,B⟩ | Hk
  ·rw[Hk]at o;go_wp2_with (first|(go_at_call 64;refine(eo _ _ _ _).mono ?_;rintro e f⟨rfl,rfl⟩;first | rw[h1] | rw[h2] | rw[h3]) | (go_at_call 65;refine(nT _ _ _ _ _ _ _ _ Hn _).mono ?_;rintro e z⟨rfl,i⟩;first | rw[d] | rw[o]))
   go_ret;exact⟨rfl,xT E0 (by rw[Hk];exact i)⟩
  go_wp2_with (first|(go_at_call 64;refine(eo _ _ _ _).mono ?_;rintro e f⟨rfl,rfl⟩;first | rw[h1] | rw[h2] | rw[h3]) | (go_at_call 65;refine(nT _ _ _ _ _ _ _ _ Hn _).mono ?_;rintro e z⟨rfl,i⟩;first | rw[d] | rw[o]))
  go_ret;exact⟨rfl,xT E0 i⟩
 |true=>
  have k:dX m=true:=by unfold dX;rw[d];simp
  have E:m.sq≠0:=by have:=mZ d;omega
  clear p hc;go_wp2_with (first|(go_at_call 64;refine(eo _ _ _ _).mono ?_;rintro e f⟨rfl,rfl⟩;first | rw[h1] | rw[h2] | rw[h3]) | (go_at_call 65;refine(nT _ _ _ _ _ _ _ _ Hn _).mono ?_;rintro e z⟨rfl,i⟩;first | rw[d]))
  clear E;have H8:Hid ((if dc m (O m.segs)=true then(0:Int)else 2)=R):=H (by rw[<-g.out,k];rfl);clear g ea;go_loopw [3] (λx W=>∃j:Nat,j<=O m.segs/\x=C D j/\Hid (dc m j=true)/\Ext (w.alloc (J #[C D m.next,C D m.term,C D m.vote,C D m.sq,C D m.sf,I A m.segs.length c] 30)) W) (λx _=>O m.segs-(intOf x).toNat)
  case atStart=>exact⟨0,by omega,rfl,H rfl,i⟩
  case round=>
   exact mcMan2a0
