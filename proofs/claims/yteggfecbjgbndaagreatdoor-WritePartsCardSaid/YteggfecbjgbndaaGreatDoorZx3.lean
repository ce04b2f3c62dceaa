/- Merged -/
import Derived.Test.YteggfecbjgbndaaGreatDoorZx2
set_option linter.all false
set_option maxHeartbeats 8000000
set_option maxRecDepth 100000
open Go.Proofs.Tryz
open Go.Proofs.Tryz renaming prog->C
open Option renaming some->D
open Go.Value renaming int->E,bool->G
open Go.Mv renaming aN->F
open Ieee renaming double->P0,signed->P1
open Go.FloatKind renaming f64->P2,decode->P3
open Nat renaming two_pow_pos->P4,pow_le_pow_right->P5,lt_log2_self->P6,zero_mul->P7,testBit_lt_two_pow->P8,add_zero->P9,mul_right_comm->Pa,mul_div_cancel->Pb,lt_of_lt_of_le->Pc,lt_trichotomy->Pd,mod_eq_of_lt->Pe,div_eq_of_lt->Pf,div_add_mod->Pg,pow_zero->Ph,mul_comm->Pi,zero_le->Pj,one_mul->Pk,mul_pos->Pl,mul_one->Pm
open Go.IntKind renaming i64->Pn
open Int renaming tmod_eq_emod_of_nonneg->Po,natAbs_natCast->Pp,neg_neg->Pq,natCast_nonneg->Pr,toNat_natCast->Ps
open Bool renaming eq_iff_iff->Pu,false_eq_true->Pv,or_eq_false_iff->Pw,or_eq_true->Px,xor_false->Py
open Ieee.Datum renaming order->Pz,toInt->Q0,number->Q1,integral->Q2
open UInt8 renaming ofNat->Q3
open List renaming getElem?_eq_getElem->Q4,take_of_length_le->Q5,flatten_append->Q6
open Ieee.Format renaming order->Q7,read->Q8
namespace Go.Mv
open Go.RowKit
theorem mcModa0{P:Prop}(h:P:=by
 go_enter Tryz.func326,Tryz.ntmps326
 go_wp2_with (first
  |(go_at_call 318;refine(hI _).mono ?_;rintro e w' ⟨rfl,rfl⟩)
  |(go_at_call 319;refine(hN _).mono ?_;rintro e w' ⟨rfl,rfl⟩)
  |(go_at_call 327;refine(hM _).mono ?_;rintro e w' ⟨rfl,rfl⟩))
 all_goals (go_ret;exact⟨rfl,rfl⟩)):P:=h
theorem mcModa1{P:Prop}(h:P:=by
 have hF:=F (λw=>og k (by omega) (by omega) w);rw[he]at hF;have HZ:=FY k (10007*2^q) HH (by omega) w;rw[decide_eq_true h10]at H0;have Ke:1<=10007*2^q:=by have:=P4 q;omega
 have hm:=Er (k-10007*2^q) k (by omega) (by omega);have H2:(k-10007*2^q) % 10007=n % 10007:=by rw[<-Hk.out];exact Nat.sub_mul_mod HH
 have Hm:=F hm;have Hy:=F H2;cases t
 all_goals
  simp only[if_true,if_false,Pv]at hF;go_wp2_with (first
   |(go_at_call 321;refine(hF _).mono ?_;rintro e w' ⟨rfl,rfl⟩)
   |(go_at_call 322;refine(CN _ q hq (by omega) _).mono ?_;rintro e w' ⟨rfl,rfl⟩))
  go_round
  case rel=>exact⟨k-10007*2^q,by omega,Hy.out,rfl⟩
  case measure=>exact Hm.out):P:=h
theorem Bg(x:Nat)(h:x<9223372036854775808):x ^^^ 2^63=9223372036854775808+x:=by
 rw[show(9223372036854775808:Nat)=2^63 from rfl]at *;refine Nat.eq_of_testBit_eq λi=>?_;rw[Nat.testBit_xor,Nat.testBit_two_pow];rcases Pd i 63 with hi | hi | hi
 ·rw[Nat.testBit_two_pow_add_gt hi,show decide (63=i)=false from by simp;omega,Py]
 ·subst hi;rw[Nat.testBit_two_pow_add_eq];simp
 ·have h1:x.testBit i=false:=P8 (Pc h (P5 (by decide) (by omega)));have h2:(2^63+x).testBit i=false:=P8 (Pc (by omega:2^63+x<2^64) (P5 (by decide) (by omega)));rw[h1,h2,show decide (63=i)=false from by simp;omega];rfl
theorem N4(s:Bool)(n:Nat)(hn:n<9007199254740992):fb s n ^^^ 2^63=fb (!s) n:=by
 have h:=fS n hn;cases s
 ·show cF n ^^^ _=_;rw[Bg _ (by omega)];rfl
 ·show(9223372036854775808+cF n) ^^^ _=cF n;rw[<-Bg _ (by omega),Nat.xor_assoc,Nat.xor_self,Nat.xor_zero]
theorem yf(s:Bool)(n:Nat)(hn:n<9007199254740992):Op.negFloat .f64 (fb s n)=fb (!s) n:=N4 s n hn
theorem Er(k m:Nat)(h:k<m)(hm:m<9007199254740992):fb false k<fb false m:=by
 show cF k<cF m;obtain⟨_,c⟩:=fS m hm;obtain⟨d,d,_⟩:=c (by omega);have b:cF m=(m.log2+1022)*4503599627370496+m*2^(52-m.log2):=by unfold cF;rw[if_neg (by omega)]
 by_cases a:k=0
 ·subst a;rw[b];unfold cF;simp;omega
 obtain⟨_,c⟩:=fS k (by omega);obtain⟨Kf,_,d⟩:=c a;have c:cF k=(k.log2+1022)*4503599627370496+k*2^(52-k.log2):=by unfold cF;rw[if_neg a]
 rw[b,c];rcases Pd k.log2 m.log2 with hl | hl | hl
 ·omega
 ·rw[hl];have:k*2^(52-m.log2)<m*2^(52-m.log2):=Nat.mul_lt_mul_of_pos_right h (P4 _);omega
 ·exfalso
  have b:m<2^(m.log2+1):=P6;have b:2^k.log2<=k:=Nat.log2_self_le a;have a:2^(m.log2+1)<=2^k.log2:=P5 (by decide) hl;omega
def sI:Value->Nat
 |.float _ b=>b
 |_=>0
end Go.Mv
namespace Go.Proofs.YteggfecbjgbndaaGreatDoor
open Go.RowKit Go.Mv
attribute [local go_sem] qr pD
theorem zX(f:Nat)(hf:f<4503599627370496):P0.read (4602678819172646912+f)=.number false (4503599627370496+f) (-((53:Nat):Int)):=by
 have c:P0.leastPlace = -1074:=by decide
 have a:P0.binade=4503599627370496:=by decide
 have b:P0.infRung=9218868437227405312:=by decide
 have d:P0.signWeight=9223372036854775808:=by decide
 unfold Q8;dsimp only;rw[c,a,b,d,show(4602678819172646912+f) % 9223372036854775808=4602678819172646912+f from by omega,if_neg (by omega),if_pos (by omega),
  show(4602678819172646912+f) / 9223372036854775808=0 from by omega,show(4602678819172646912+f) % 4503599627370496=f from by omega,show(4602678819172646912+f) / 4503599627370496=1022 from by omega]
 rfl
theorem BA(k:Nat)(h1:10007<=k)(h2:k<131072):∃(t:Bool) (q:Nat),q<=3/\10007*2^q<=k/\(P2.format.order (frB k) (frB 10007)==D .lt)=t/\frE k=14+q+(if t then 1 else 0):=by
 obtain⟨f,hf,hl,hx,he⟩:=Mc k (by omega) (by omega);have a:frB 10007=4602678819172646912+997806802206720:=by decide
 have b:frB k=4602678819172646912+f:=by unfold frB;rw[hx];omega
 have c:frE k=(k.log2:Int)+1:=by unfold frE;rw[hx];omega
 have d:(P2.format.order (frB k) (frB 10007)==D .lt)=decide (f<997806802206720):=by
  show(P0.order _ _==_)=_;unfold Q7;rw[a,b,zX f hf,zX _ (by decide),lA,iw];unfold al;simp;omega
 rw[d,c];have a:13<=k.log2:=(Nat.le_log2 (by omega)).2 (by omega);have a:k.log2<17:=(Nat.log2_lt (by omega)).2 (by omega);have a:k.log2=13\/k.log2=14\/k.log2=15\/k.log2=16:=by omega
 have b:k<2^(k.log2+1):=P6;by_cases c:f<997806802206720
 ·refine⟨true,k.log2-14,by omega,?_,by simpa using c,?_⟩
  ·rcases a with h | h | h | h<;>rw[h]at he b⊢<;>omega
  have:k.log2≠13:=by intro h;rw[h]at he;omega
  simp;omega
 ·refine⟨false,k.log2-13,by omega,?_,by simpa using c,?_⟩
  ·rcases a with h | h | h | h<;>rw[h]at he b⊢<;>omega
  ·simp;omega
theorem o9(n:Nat)(w:World)(hn:n<9007199254740992:=by decide):(binOp .mul 320 (.float .f64 4607182418800017408) (.float .f64 (fb false n))).run C w=.ok (.float .f64 (fb false n)) w:=by
 refine run_float_arith w .mul 320 .f64 _ _ _ ?_;show P0.mul _ _=_;have:=mL (aR false 1) (aR false n (hn:=hn));rw[Pk]at this;exact this
theorem Lt(k:Nat)(hk:k<=3)(w:World):Calls C 326 #[.float .f64 (fb false 10007),.int .i64 k] w λe w'=>e=.returned (.float .f64 (fb false (10007*2^k)))/\w=w':=by
 have hI:=F (λw=>mH false 10007 (by decide) w);have hN:=F (λw=>il _ false 10007 (aR false 10007) w);have hM:=F (λw=>tD 10007 (by decide) (by decide) w);have a:=mz false (n:=10007) (by decide) (aR false 10007);have hc:fb false 10007=4666727020758040576:=by decide
 rw[hc]at hI hN hM a⊢;have a:bits .and .i64 1036 2047=1036:=by decide
 have a:bits .andNot .u64 4666727020758040576 9218868437227405312=997806802206720:=by decide
 rcases(by omega:k=0\/k=1\/k=2\/k=3)with rfl | rfl | rfl | rfl
 ·have hm:=o9 (10007*2^0) w;have a:fb false (10007*2^0)=4666727020758040576:=by decide
  rw[a]at hm⊢;have b:bits .or .u64 997806802206720 4665729213955833856=4666727020758040576:=by decide
  exact mcModa0
 ·have hm:=o9 (10007*2^1) w;have a:fb false (10007*2^1)=4671230620385411072:=by decide
  rw[a]at hm⊢;have b:bits .or .u64 997806802206720 4670232813583204352=4671230620385411072:=by decide
  exact mcModa0
 ·have hm:=o9 (10007*2^2) w;have a:fb false (10007*2^2)=4675734220012781568:=by decide
  rw[a]at hm⊢;have b:bits .or .u64 997806802206720 4674736413210574848=4675734220012781568:=by decide
  exact mcModa0
 ·have hm:=o9 (10007*2^3) w;have a:fb false (10007*2^3)=4680237819640152064:=by decide
  rw[a]at hm⊢;have b:bits .or .u64 997806802206720 4679240012837945344=4680237819640152064:=by decide
  exact mcModa0
theorem CN(e:Int)(k:Nat)(hk:k<=3)(he:e=k)(w:World):Calls C 322 #[.float .f64 4666727020758040576,.int .i64 e] w λe w'=>e=.returned (.float .f64 (fb false (10007*2^k)))/\w=w':=by
 subst he;have a:=F (λw=>Lt k hk w);have hc:fb false 10007=4666727020758040576:=by decide
 rw[hc]at a;go_enter func322,ntmps322
 go_wp2_with (go_at_call 326;refine(a _).mono ?_;rintro e w' ⟨rfl,rfl⟩)
 go_ret;exact⟨rfl,rfl⟩
theorem FY(k m:Nat)(h:m<=k)(hk:k<9007199254740992)(w:World):(binOp .sub 320 (.float .f64 (fb false k)) (.float .f64 (fb false m))).run C w=.ok (.float .f64 (fb false (k-m))) w:=by
 refine run_float_arith w .sub 320 .f64 _ _ _ ?_;show P0.sub _ _=_;have:=Ae (aR false k (hn:=hk)) (aR false m (hn:=by omega)) (by unfold al;simp;omega);rw[this];unfold al;simp only[Pv,if_false];congr 2
 ·split
  ·rfl
  simp;omega
 ·omega
theorem B9(k:Nat)(hk:k<9007199254740992):(P2.format.order (fb false k) 4666727020758040576==D .gt||P2.format.order (fb false k) 4666727020758040576==D .eq)=decide (10007<=k):=by
 have hc:fb false 10007=4666727020758040576:=by decide
 rw[<-hc];show(P0.order _ _==_||P0.order _ _==_)=_;rw[ig (aR false k (hn:=hk)) (aR false 10007),lS,iu];unfold al;rw[Pu];simp;omega
theorem N9(n:Nat)(hn:n<131072)(w:World):Calls C 313 #[.float .f64 (fb false n),.float .f64 4666727020758040576] w λe w'=>e=.returned (.float .f64 (fb false (n % 10007)))/\w=w':=by
 have hc:fb false 10007=4666727020758040576:=by decide
 have b:frE 10007=14:=by decide
 have hI:=F (λw=>mH false n (by omega) w);have c:=F (λw=>il _ false n (aR false n (hn:=by omega)) w);have a:=F (λw=>il _ false 10007 (aR false 10007) w);have H4:=F (λw=>og 10007 (by decide) (by decide) w);have d:=mz false (n:=10007) (by decide) (aR false 10007);rw[b]at H4;rw[hc]at a H4 d;have b:(P2.format.order (fb false n) 0==D .lt)=false:=by
  show(P0.order _ _==_)=_;rw[ig (aR false n (hn:=by omega)) fQ,iw];unfold al;simp
 go_enter func313,ntmps313
 go_wp2_with (first
  |(go_at_call 318;refine(hI _).mono ?_;rintro e w' ⟨rfl,rfl⟩)
  |(go_at_call 319;refine(c _).mono ?_;rintro e w' ⟨rfl,rfl⟩)
  |(go_at_call 319;refine(a _).mono ?_;rintro e w' ⟨rfl,rfl⟩)
  |(go_at_call 314;refine(nr _ (by decide) _).mono ?_;rintro e w' ⟨rfl,rfl⟩)
  |(go_at_call 321;refine(H4 _).mono ?_;rintro e w' ⟨rfl,rfl⟩))
 go_loop [7] (λr=>∃k:Nat,k<=n/\Hid (k % 10007=n % 10007)/\r=.float .f64 (fb false k)) (λr=>sI r)
 case atStart=>exact⟨n,xN _,rfl,rfl⟩
 case round=>
  obtain⟨k,hk,Hk,rfl⟩:=hrel;have H0:=B9 k (by omega);by_cases h10:10007<=k
  ·obtain⟨t,q,hq,HH,a,he⟩:=BA k h10 (by omega);exact mcModa1
  ·rw[decide_eq_false h10]at H0;go_wp2_with fail;go_ret;have a:k=n % 10007:=by rw[<-Hk.out,Pe (by omega)]
   exact⟨by rw[<-a];rfl,rfl⟩
theorem CU(x:Nat):Op.unary .neg (.float .f64 x)=pure (.float .f64 (Op.negFloat .f64 x)):=rfl
attribute [local go_sem] qr pD CU
theorem N8(n:Nat)(l:0<n)(hn:n<131072)(w:World):Calls C 313 #[.float .f64 (fb true n),.float .f64 4666727020758040576] w λe w'=>e=.returned (.float .f64 (fb true (n % 10007)))/\w=w':=by
 have hc:fb false 10007=4666727020758040576:=by decide
 have g:frE 10007=14:=by decide
 have hI:=F (λw=>mH true n (by omega) w);have h:=F (λw=>il _ true n (aR true n (hn:=by omega)) w);have c:=F (λw=>il _ false 10007 (aR false 10007 (hn:=by decide)) w);have H4:=F (λw=>og 10007 (by decide) (by decide) w);have i:=mz false (n:=10007) (by decide) (aR false 10007 (hn:=by decide));rw[g]at H4;rw[hc]at c H4 i;have j:(P2.format.order (fb true n) 0==D .lt)=true:=by
  show(P0.order _ _==_)=_;rw[ig (aR true n (hn:=by omega)) fQ,iw];unfold al;simp;omega
 have d:=yf true n (by omega);have a:=yf false (n % 10007) (by omega);rw[Bool.not_true]at d;rw[Bool.not_false]at a;go_enter func313,ntmps313
 go_wp2_with (first
  |(go_at_call 318;refine(hI.out _).mono ?_;rintro e w' ⟨rfl,rfl⟩)
  |(go_at_call 319;refine(h.out _).mono ?_;rintro e w' ⟨rfl,rfl⟩)
  |(go_at_call 319;refine(c.out _).mono ?_;rintro e w' ⟨rfl,rfl⟩)
  |(go_at_call 314;refine(nr _ (by decide) _).mono ?_;rintro e w' ⟨rfl,rfl⟩)
  |(go_at_call 321;refine(H4.out _).mono ?_;rintro e w' ⟨rfl,rfl⟩))
 go_loop [7] (λr=>∃k:Nat,k<=n/\Hid (k % 10007=n % 10007)/\r=.float .f64 (fb false k)) (λr=>sI r)
 case atStart=>exact⟨n,xN _,rfl,rfl⟩
 case round=>
  obtain⟨k,hk,Hk,rfl⟩:=hrel;have H0:=B9 k (by omega);by_cases h10:10007<=k
  ·obtain⟨t,q,hq,HH,m,he⟩:=BA k h10 (by omega);exact mcModa1
  ·rw[decide_eq_false h10]at H0;have b:k=n % 10007:=by rw[<-Hk.out,Pe (by omega)]
   rw[<-b]at a;have f:=F b;clear b;go_wp2_with fail;go_ret;refine⟨?_,rfl⟩;rw[<-f.out,<-a];rfl
theorem Ly(w:World):Calls C 313 #[.float .f64 (fb true 0),.float .f64 4666727020758040576] w λe w'=>e=.returned (.float .f64 (fb true 0))/\w=w':=by
 have hc:fb false 10007=4666727020758040576:=by decide
 have b:frE 10007=14:=by decide
 have hI:=F (λw=>mH true 0 (by decide) w);have c:=F (λw=>il _ true 0 (aR true 0) w);have a:=F (λw=>il _ false 10007 (aR false 10007) w);have H4:=F (λw=>og 10007 (by decide) (by decide) w);have d:=mz false (n:=10007) (by decide) (aR false 10007);rw[b]at H4;rw[hc]at a H4 d;have b:(P2.format.order (fb true 0) 0==D .lt)=false:=by
  show(P0.order _ _==_)=_;rw[ig (aR true 0) fQ,iw];unfold al;simp
 have H0:(P2.format.order (fb true 0) 4666727020758040576==D .gt||P2.format.order (fb true 0) 4666727020758040576==D .eq)=false:=by
  rw[<-hc];show(P0.order _ _==_||P0.order _ _==_)=_;rw[ig (aR true 0) (aR false 10007),lS,iu];unfold al;simp
 go_enter func313,ntmps313
 go_wp2_with (first
  |(go_at_call 318;refine(hI _).mono ?_;rintro e w' ⟨rfl,rfl⟩)
  |(go_at_call 319;refine(c _).mono ?_;rintro e w' ⟨rfl,rfl⟩)
  |(go_at_call 319;refine(a _).mono ?_;rintro e w' ⟨rfl,rfl⟩)
  |(go_at_call 314;refine(nr _ (by decide) _).mono ?_;rintro e w' ⟨rfl,rfl⟩)
  |(go_at_call 321;refine(H4 _).mono ?_;rintro e w' ⟨rfl,rfl⟩))
 go_loop [7] (λr=>r=.float .f64 (fb true 0)) (λr=>sI r)
 case atStart=>rfl
 case round=>
  obtain rfl:=hrel;go_wp2_with fail;go_ret;exact⟨rfl,rfl⟩
theorem M8(s:Bool)(n:Nat)(hn:n<131072)(w:World):Calls C 309 #[.float .f64 (fb s n),.float .f64 4666727020758040576] w λe w'=>e=.returned (.float .f64 (fb s (n % 10007)))/\w=w':=by
 have b:Hid (∀w,Calls C 313 #[.float .f64 (fb s n),.float .f64 4666727020758040576] w λe w'=>e=.returned (.float .f64 (fb s (n % 10007)))/\w=w'):=by
  intro w;cases s
  ·exact N9 n hn w
  rcases Nat.eq_zero_or_pos n with rfl | a
  ·exact Ly w
  exact N8 n a hn w
 go_enter func309,ntmps309
 go_wp2_with (go_at_call 313;refine(b _).mono ?_;rintro e w' ⟨rfl,rfl⟩)
 go_ret;exact⟨rfl,rfl⟩
end Go.Proofs.YteggfecbjgbndaaGreatDoor

namespace Go.Mv
open Go.RowKit
def aw(x:Nat):Option Nat:=
 match P0.read x with
 |.number s M i=>if i<=0/\(s=false\/M=0)/\M / 2^(-i).toNat<10007/\M % 2^(-i).toNat=0 then some (M / 2^(-i).toNat)else none
 |_=>none
theorem fd{x n:Nat}(h:aw x=D n):n<10007/\∃s,(s=true->n=0)/\Fl x s n:=by
 unfold aw at h;split at h
 ·rename_i s M i a;split at h
  ·rename_i hc;obtain⟨h1,h2,h3,h4⟩:=hc;cases h;refine⟨h3,s,?_,M,i,a,(-i).toNat,by omega,?_⟩
   ·intro hs;rcases h2 with h2 | h2
    ·rw[h2]at hs;cases hs
    rw[h2];simp
   have:=Pg M (2^(-i).toNat);rw[h4,P9,Pi]at this;exact this.symm
  cases h
 ·cases h
theorem I2(x:Nat){s:Bool}{M:Nat}{i:Int}(h:P0.read x=.number s M i):i<=0\/4503599627370496<=M:=by
 have b:P0.leastPlace = -1074:=by decide
 have a:P0.binade=4503599627370496:=by decide
 unfold Q8 at h;dsimp only at h;rw[b,a]at h;split at h
 ·injection h with h1 h2 h3;left;omega
 ·split at h
  ·injection h with h1 h2 h3;right;omega
  ·split at h<;>cases h
theorem L8(s:Bool)(M b:Nat):Ieee.Toward.zero.cut s M b=M / 2^b:=by
 unfold Ieee.Toward.cut;dsimp only;rw[Nat.shiftLeft_eq,Pk];simp only[Bool.toNat_false,P9];rcases Nat.le_total b (M.log2+2)with h | h
 ·rw[Nat.min_eq_left h]
 ·rw[Nat.min_eq_right h];have h1:M<2^(M.log2+1):=P6;have h2:2^(M.log2+1)<=2^(M.log2+2):=P5 (by decide) (by omega);have h3:2^(M.log2+2)<=2^b:=P5 (by decide) h;rw[Pf (by omega),Pf (by omega)]
theorem pL(s:Bool)(M b:Nat):(Q1 s M (-(b:Int))).integral .zero=.number s (M / 2^b) 0:=by
 unfold Q2;dsimp only;rw[show(-(b:Int)).toNat=0 from by omega,Nat.shiftLeft_zero,show(- -(b:Int)).toNat=b from by omega,L8]
def ge0(x:Nat):Bool:=P2.format.order x 0==D .gt||P2.format.order x 0==D .eq
def ltR(x:Nat):Bool:=P2.format.order x 4666727020758040576==D .lt
theorem yg(x:Nat)(s t:Bool)(M b:Nat)(e:P0.read x=.number s M (-(b:Int)))(hs:s=true->M=0)(f:t=true->M=0)(hn:M / 2^b<10007):
  (P2.format.order (fb t (M / 2^b)) x==D .eq)=decide (M % 2^b=0):=by
 obtain⟨c,hc⟩:=eD (aR t (M / 2^b) (hn:=by omega));show(P0.order _ _==_)=_;unfold Q7;rw[e,hc,lA,iu];have a:al s (M*2^c)=((M*2^c:Nat):Int):=by
  cases s
  ·rfl
  rw[hs rfl];unfold al;simp
 have d:al t (M / 2^b*2^c*2^b)=((M / 2^b*2^c*2^b:Nat):Int):=by
  cases t
  ·rfl
  rw[f rfl];unfold al;simp
 rw[a,d,Pu,decide_eq_true_iff,decide_eq_true_iff];have h1:=Pg M (2^b);have d:=P4 c;have a:M / 2^b*2^c*2^b=(2^b*(M / 2^b))*2^c:=by
  rw[Pa,Pi (M / 2^b)]
 rw[a];constructor
 ·intro h;have a:(2^b*(M / 2^b))*2^c=M*2^c:=by exact_mod_cast h
  have:=Nat.eq_of_mul_eq_mul_right d a;omega
 ·intro h;rw[h,P9]at h1;rw[h1]
theorem zf(x:Nat):(ge0 x=false/\aw x=none)\/(ge0 x=true/\ltR x=false/\aw x=none) \/
  (ge0 x=true/\ltR x=true/\∃s M b,P0.read x=.number s M (-((b:Nat):Int))/\(s=true->M=0)/\M / 2^b<10007/\aw x=if M % 2^b=0 then some (M / 2^b)else none):=by
 have w:P0.read 0=.number false 0 (-((1074:Nat):Int)):=by
  obtain⟨M,i,h,_⟩:=fQ;have:P0.read 0=.number false 0 (-1074):=by decide
  exact this
 have r:P0.read 4666727020758040576=.number false (10007*549755813888) (-((39:Nat):Int)):=by decide
 have H0:ge0 x=(((P0.read x).order (P0.read 0)==D .gt)||((P0.read x).order (P0.read 0)==D .eq)):=rfl;have c:ltR x=((P0.read x).order (P0.read 4666727020758040576)==D .lt):=rfl;rw[w]at H0;rw[r]at c;cases a:P0.read x with
 |nan s t=>
  left
  rw[a]at H0;exact⟨H0,by unfold aw;rw[a]⟩
 |infinity s=>
  rw[a]at H0 c;cases s
  ·exact .inr (.inl ⟨H0,c,by unfold aw;rw[a]⟩)
  exact .inl ⟨H0,by unfold aw;rw[a]⟩
 |number s M i=>
  by_cases hi:i<=0
  ·obtain⟨b,rfl⟩:∃b:Nat,i = -(b:Int):=⟨(-i).toNat,by omega⟩;have e:aw x=if(-(b:Int))<=0/\(s=false\/M=0)/\M / 2^b<10007/\M % 2^b=0 then some (M / 2^b)else none:=by
    unfold aw;rw[a];simp only[Pq,Ps]
   rw[a,lA,lS,iu,P7,show al false 0=0 from rfl]at H0;obtain⟨q,r⟩:∃q,q=1074:=⟨_,rfl⟩;rw[<-r]at H0;rw[a,lA,iw]at c;have v:=P4 q;have l:=P4 b;by_cases hs:s=false\/M=0
   ·have o:∀p,al s (M*p)=((M*p:Nat):Int):=by
     intro p;rcases hs with rfl | rfl
     ·rfl
     unfold al;split<;>simp
    rw[o]at H0 c;have g:ge0 x=true:=by
     rw[H0];simp only[Px,decide_eq_true_iff];have:0<=((M*2^q:Nat):Int):=Pr _;omega
    have j:ltR x=decide (M / 2^b<10007):=by
     rw[c,show al false (10007*549755813888*2^b)=((10007*549755813888*2^b:Nat):Int)from rfl,Pu,decide_eq_true_iff,decide_eq_true_iff,Int.ofNat_lt,Nat.div_lt_iff_lt_mul l,Pa,show(2^39:Nat)=549755813888 from rfl];omega
    by_cases d:M / 2^b<10007
    ·right;right
     refine⟨g,by rw[j];simpa using d,s,M,b,rfl,?_,d,?_⟩
     ·intro h;rcases hs with f | f
      ·rw[f]at h;cases h
      exact f
     rw[e];by_cases f:M % 2^b=0
     ·rw[if_pos ⟨by omega,hs,d,f⟩,if_pos f]
     rw[if_neg (λh=>f h.2.2.2),if_neg f]
    right;left
    refine⟨g,by rw[j];simpa using d,?_⟩;rw[e,if_neg (λh=>d h.2.2.1)]
   left
   have m:s=true:=by
    cases s with
    |true=>rfl
    |false=>exact absurd (.inl rfl) hs
   have f:M≠0:=λh=>hs (.inr h);subst m;refine⟨?_,by rw[e,if_neg (λh=>hs h.2.1)]⟩;have:0<M*2^q:=Pl (by omega) v;rw[H0];unfold al;simp only[if_true,Pw,decide_eq_false_iff_not];omega
  ·have d:4503599627370496<=M:=by rcases I2 x a with h | h<;>omega
   have e:aw x=none:=by unfold aw;rw[a];simp only[];rw[if_neg (λh=>hi h.1)]
   have k:0<M:=by omega
   cases s
   ·right;left
    refine⟨?_,?_,e⟩
    ·rw[H0,a];unfold Pz;dsimp only;rw[lS,iu,dL,dL,P7,show al false 0=0 from rfl,show ∀n,al false n=(n:Int)from λ_=>rfl];simp only[Px,decide_eq_true_iff];have:=Pr (M*2^(i-min i (-((1074:Nat):Int))).toNat);generalize M*2^(i-min i (-((1074:Nat):Int))).toNat=p at *;omega
    rw[c,a];unfold Pz;dsimp only;rw[iw,dL,dL,show ∀n,al false n=(n:Int)from λ_=>rfl,show ∀n,al false n=(n:Int)from λ_=>rfl,decide_eq_false_iff_not];have c:min i (-((39:Nat):Int)) = -39:=by omega
    rw[c,show(-((39:Nat):Int) - -39).toNat=0 from rfl];have h1:2^39<=2^(i - -39).toNat:=P5 (by decide) (by omega);have h2:4503599627370496*2^39<=M*2^(i - -39).toNat:=Nat.mul_le_mul d h1;omega
   ·left
    refine⟨?_,e⟩;rw[H0,a];unfold Pz;dsimp only;rw[lS,iu,dL,dL,P7,show al false 0=0 from rfl,show ∀n,al true n = -(n:Int)from λ_=>rfl];have:0<M*2^(i-min i (-((1074:Nat):Int))).toNat:=Pl k (P4 _);simp only[Pw,decide_eq_false_iff_not];generalize M*2^(i-min i (-((1074:Nat):Int))).toNat=p at *;omega
end Go.Mv

namespace Go.Proofs.YteggfecbjgbndaaGreatDoor
open Go.RowKit Go.Mv
theorem If(x:Nat)(s:Bool)(M b:Nat)(a:P0.read x=.number s M (-(b:Int)))(hn:M / 2^b<10007)(w:World):Calls C 306 #[.float .f64 x] w λe w'=>e=.returned (.float .f64 (fb s (M / 2^b)))/\w=w':=by
 have h:=Dn x s M _ a w;rw[pL]at h;have h2:P0.write (.number s (M / 2^b) 0)=fb s (M / 2^b):=nG s ⟨0,rfl,by simp⟩ (by omega);rw[h2]at h;go_enter func306,ntmps306
 go_wp2;go_ret;exact⟨rfl,rfl⟩
theorem F6(x:Nat)(w:World):Calls C 305 #[.float .f64 x] w λe w'=>e=.returned (G (aw x).isSome)/\w=w':=by
 have key:=zf x;unfold ge0 ltR at key;rcases key with⟨h1,h2⟩|⟨h1,h2,h3⟩|⟨h1,h2,s,M,b,a,hs,hn,f⟩
 ·rw[h2];go_enter func305,ntmps305
  go_wp2_with fail;go_ret;exact⟨rfl,rfl⟩
 ·rw[h3];go_enter func305,ntmps305
  go_wp2_with fail;go_ret;exact⟨rfl,rfl⟩
 ·have d:=yg x s s M b a hs hs hn;have c:(aw x).isSome=decide (M % 2^b=0):=by rw[f];split<;>simp_all
  have g:=F (λw=>If x s M b a hn w);rw[c,<-d];clear c d f a hs hn;go_enter func305,ntmps305
  go_wp2_with (go_at_call 306;refine(g.out _).mono ?_;rintro e w' ⟨rfl,rfl⟩)
  go_ret;exact⟨rfl,rfl⟩
theorem rX(a b:Nat)(w:World):Calls C 302 #[.complex .f64 a b] w λe w'=>e=.returned (G ((aw a).isSome&&(aw b).isSome))/\w=w':=by
 cases c:(aw a).isSome
 all_goals
  go_enter func302,ntmps302
  go_wp2_with (go_at_call 305;refine(F6 _ _).mono ?_;rintro e w' ⟨rfl,rfl⟩)
  go_ret;exact⟨rfl,rfl⟩
def pi(x:Nat)(w:World)(e:Ending)(w':World):Prop:=∃n:Int,e=.returned (.tuple #[.int .i64 n,G (aw x).isSome])/\(∀m,aw x=D m->n=m)/\w=w'
theorem qP(x:Nat)(w:World):Calls C 283 #[.float .f64 x] w (pi x w):=by
 have key:=zf x;unfold ge0 ltR at key;rcases key with⟨h1,h2⟩|⟨h1,h2,h3⟩|⟨h1,h2,s,M,b,c,hs,hn,a⟩
 ·unfold pi;rw[h2];go_enter func283,ntmps283
  go_wp2_with fail
  go_ret2;exact⟨0,rfl,(λm h=>by cases h),rfl⟩
 ·unfold pi;rw[h3];go_enter func283,ntmps283
  go_wp2_with fail
  go_ret2;exact⟨0,rfl,(λm h=>by cases h),rfl⟩
 ·have g:=yg x s false M b c hs (λh=>by cases h) hn;have f:(aw x).isSome=decide (M % 2^b=0):=by rw[a];split<;>simp_all
  have d:∀m,aw x=D m->((M / 2^b:Nat):Int)=m:=by
   intro m hm;rw[a]at hm;split at hm<;>cases hm;rfl
  have hi:floatToIntVal .f64 x .i64=D ((M / 2^b:Nat):Int):=by
   unfold floatToIntVal P3;rw[show P2.format=P0 from rfl,c];unfold Q0;rw[pL];have i:s=true->M / 2^b=0:=λh=>by rw[hs h];simp
   clear a g f d c hs;generalize M / 2^b=n at *;have e:P1 s (n) 0=(n:Int):=by
    rw[dL,Ph,Pm];cases s
    ·rfl
    rw[i rfl];unfold al;simp
   dsimp only;rw[e];have:Pn.min<=(n:Int)/\(n:Int)<=Pn.max:=by
    rw[show Pn.min = -9223372036854775808 from rfl,show Pn.max=9223372036854775807 from rfl];omega
   simp only[this,and_self,if_true]
  have j:=run_convert_float_int (P:=C) w 320 3 .f64 .i64 x _ (by kernel_rfl) underlying3 hi;have Km:=ov (M / 2^b) (by omega);have HQ:=F d;unfold pi;rw[f,<-g];clear f g a c hs hi d;generalize M / 2^b=n at *;go_enter func283,ntmps283
  go_wp2_with fail
  go_ret2;exact⟨n,rfl,HQ.out,rfl⟩
theorem Di(a b:Nat)(w:World):Calls C 266 #[.complex .f64 a b] w λe w'=>e=.returned (G ((aw a).isSome&&(aw b).isSome))/\w=w':=by
 cases c:(aw a).isSome
 all_goals
  go_enter func266,ntmps266
  go_wp2_with (go_at_call 283;refine(qP _ _).mono ?_;rintro e w' ⟨n1,rfl,_,rfl⟩)
  go_ret;exact⟨rfl,rfl⟩
end Go.Proofs.YteggfecbjgbndaaGreatDoor

namespace Go.Mv
open Go.RowKit
variable {s:Bool}
def cX(p:Nat×Nat)(b:UInt8):Nat×Nat:=((3*p.1+50035-5*p.2+b.toNat+1) % 10007,(5*p.1+3*p.2) % 10007)
def PtV(v:Value)(p:Nat×Nat):Prop:=∃a b,v=.complex .f64 a b/\aw a=D p.1/\aw b=D p.2
theorem qR{x n:Nat}(h:Fl x s n)(hn:n<10007)(hs:s=true->n=0):aw x=D n:=by
 obtain⟨b,hb⟩:=eD h;have a:=P4 b;unfold aw;rw[hb];simp only[Pq,Ps,Pb _ a,Nat.mul_mod_left];rw[if_pos];refine⟨by omega,?_,hn,by trivial⟩;cases s
 ·exact .inl rfl
 ·right;rw[hs rfl];simp
theorem oS(s:Bool)(n:Nat)(hn:n<10007)(hs:s=true->n=0):aw (fb s n)=D n:=qR (aR s n (hn:=by omega)) hn hs
theorem oU{n:Nat}(hs:s=true->n=0)(k:Nat):al s (n*k)=((n*k:Nat):Int):=by
 cases s
 ·rfl
 ·rw[hs rfl];unfold al;simp
theorem oP(z:Int)(h:Bool):al (if z=0 then h else decide (z<0)) z.natAbs=z:=by
 unfold al;by_cases a:z=0
 ·subst a;simp
 ·rw[if_neg a];by_cases h1:z<0
  ·rw[decide_eq_true h1];simp;omega
  ·rw[decide_eq_false h1];simp;omega
theorem NT{a b x y:Nat}(hx:x<10007)(c:y<10007){t:Bool}(hs:s=true->x=0)(d:t=true->y=0)(c:Fl a s x)(hb:Fl b t y)(B:Nat)(e:B<256):
  ∃R I σ τ,cMulBits a b 4613937818241073152 4617315517961601024=D (R,I) /\
   cSumBits .add .f64 R I (fb false (B+1)) 0=D (fb σ ((3:Int)*x-5*y+B+1).natAbs,fb τ (5*x+3*y))/\al σ ((3:Int)*x-5*y+B+1).natAbs=(3:Int)*x-5*y+B+1/\al τ (5*x+3*y)=((5*x+3*y:Nat):Int):=by
 have h3:Fl 4613937818241073152 false 3:=by have:=aR false 3;rwa[show fb false 3=4613937818241073152 from by decide]at this
 have h5:Fl 4617315517961601024 false 5:=by have:=aR false 5;rwa[show fb false 5=4617315517961601024 from by decide]at this
 have i:=mL c h3;have j:=mL hb h5;have k:=mL c h5;have l:=mL hb h3;rw[Py]at i j k l;have f:=oU hs 3;have g:=oU d 5;have h:=oU hs 5;have m:=oU d 3;have e:=Ae (aR s (x*3) (hn:=by omega)) (aR t (y*5) (hn:=by omega)) (by rw[f,g];omega);have c:=mO (aR s (x*5) (hn:=by omega)) (aR t (y*3) (hn:=by omega)) (by rw[h,m];omega);rw[f,g]at e;rw[h,m]at c;have d:(((x*3:Nat):Int)-((y*5:Nat):Int))=3*(x:Int)-5*y:=by omega
 have f:(((x*5:Nat):Int)+((y*3:Nat):Int))=((5*x+3*y:Nat):Int):=by omega
 rw[d]at e;rw[f]at c;generalize d:(if(3*(x:Int)-5*y)=0 then s && !t else decide (3*(x:Int)-5*y<0)) = σ1 at e;generalize f:(if(((5*x+3*y:Nat):Int))=0 then s&&t else decide (((5*x+3*y:Nat):Int)<0)) = τ1 at c;have g:al σ1 (3*(x:Int)-5*y).natAbs=3*(x:Int)-5*y:=by rw[<-d];exact oP _ _
 have h:al τ1 (((5*x+3*y:Nat):Int)).natAbs=((5*x+3*y:Nat):Int):=by rw[<-f];exact oP _ _
 have f:=mO (aR σ1 (3*(x:Int)-5*y).natAbs (hn:=by omega)) (aR false (B+1) (hn:=by omega)) (by rw[g];unfold al;simp;omega);have d:=mO (aR τ1 (((5*x+3*y:Nat):Int)).natAbs (hn:=by omega)) fQ (by rw[h];unfold al;simp;omega);rw[g]at f;rw[h]at d;have g:(3*(x:Int)-5*y+al false (B+1))=3*(x:Int)-5*y+B+1:=by unfold al;simp;omega
 have h:(((5*x+3*y:Nat):Int)+al false 0)=((5*x+3*y:Nat):Int):=by unfold al;simp
 rw[g]at f;rw[h]at d;generalize g:(if(3*(x:Int)-5*y+B+1)=0 then σ1&&false else decide (3*(x:Int)-5*y+B+1<0)) = σ2 at f;generalize h:(if(((5*x+3*y:Nat):Int))=0 then τ1&&false else decide (((5*x+3*y:Nat):Int)<0)) = τ2 at d;have m:al σ2 (3*(x:Int)-5*y+B+1).natAbs=3*(x:Int)-5*y+B+1:=by rw[<-g];exact oP _ _
 have g:al τ2 (((5*x+3*y:Nat):Int)).natAbs=((5*x+3*y:Nat):Int):=by rw[<-h];exact oP _ _
 simp only[Pp]at c d g;refine⟨fb σ1 (3*(x:Int)-5*y).natAbs,fb τ1 (5*x+3*y),σ2,τ2,?_,?_,m,g⟩
 ·unfold cMulBits floatBits;simp only[show P2.format=P0 from rfl,i,j,k,l,e,c,Option.bind_some]
 ·unfold cSumBits floatBits;simp only[show P2.format=P0 from rfl,f,d,Option.bind_some]
theorem Iq(z:Int)(h1:-100000<z)(h2:z<100000):(wrap64 (z.tmod 10007+10007)).tmod 10007=z % 10007:=by
 have key:z.tmod 10007=if 0<=z then z % 10007 else -((-z) % 10007):=by
  split
  ·rename_i h;exact Po h
  rename_i h;have:=Int.neg_tmod (a:=-z) (b:=10007);rw[Pq]at this;rw[this,Po (by omega)]
 have c:wrap64 (z.tmod 10007+10007)=z.tmod 10007+10007:=by
  rw[key];unfold wrap64;split<;>omega
 rw[c,Po (by rw[key];split<;>omega),key];split<;>omega
end Go.Mv
namespace Go.Proofs.YteggfecbjgbndaaGreatDoor
open Go.RowKit Go.Mv
def Ox(s:Bool)(n:Nat)(w:World)(e:Ending)(w':World):Prop:=∃r,e=.returned (.float .f64 r)/\aw r=D ((al s n) % 10007).toNat/\w=w'
theorem IH(s:Bool)(n:Nat)(hn:n<131072)(w:World):Calls C 308 #[.float .f64 (fb s n)] w (Ox s n w):=by
 have hc:fb false 10007=4666727020758040576:=by decide
 have d:(P2.format.order (fb s (n % 10007)) 0==D .lt)=decide (al s (n % 10007)<0):=by
  show(P0.order _ _==_)=_;rw[ig (aR s _ (hn:=by omega)) fQ,iw];rfl
 have g:=F (λw=>M8 s n hn w);by_cases h:s=true/\0<n % 10007
 ·obtain⟨rfl,f⟩:=h;have hs:=mO (aR true (n % 10007) (hn:=by omega)) (aR false 10007) (by unfold al;simp;omega);have e:al true (n % 10007)+al false 10007=((10007-n % 10007:Nat):Int):=by unfold al;simp;omega
  rw[e,Pp,if_neg (by omega),hc,show decide (((10007-n % 10007:Nat):Int)<0)=false from by simp]at hs;have i:=run_float_arith (P:=C) w .add 320 .f64 (fb true (n % 10007)) 4666727020758040576 _ hs;have c:decide (al true (n % 10007)<0)=true:=by unfold al;simp;omega
  rw[c]at d;have b:aw (fb false (10007-n % 10007))=D ((al true n) % 10007).toNat:=by
   rw[oS false _ (by omega) (λh=>by cases h)];congr 1;unfold al;simp only[if_true];omega
  have a:=F b;go_enter func308,ntmps308
  go_wp2_with (go_at_call 309;refine(g _).mono ?_;rintro e w' ⟨rfl,rfl⟩)
  go_ret;exact⟨_,rfl,a.out,rfl⟩
 ·have c:decide (al s (n % 10007)<0)=false:=by
   unfold al;cases s
   ·simp;omega
   simp at h⊢;omega
  rw[c]at d;have b:aw (fb s (n % 10007))=D ((al s n) % 10007).toNat:=by
   rw[oS s _ (by omega) (λhs=>by by_cases f:0<n % 10007;exact absurd ⟨hs,f⟩ h;omega)];congr 1;unfold al;cases s
   ·simp only[Pv,if_false];omega
   simp only[if_true];simp at h;omega
  have a:=F b;go_enter func308,ntmps308
  go_wp2_with (go_at_call 309;refine(g _).mono ?_;rintro e w' ⟨rfl,rfl⟩)
  go_ret;exact⟨_,rfl,a.out,rfl⟩
def Cf(p:Nat×Nat)(w:World)(e:Ending)(w':World):Prop:=∃v,e=.returned v/\PtV v p/\w=w'
theorem DC(v:Value)(p:Nat×Nat)(f:PtV v p)(c:UInt8)(w:World):Calls C 304 #[v,E .u8 c.toNat] w (Cf (cX p c) w):=by
 obtain⟨a,b,rfl,d,hb⟩:=f;obtain⟨x,y⟩:=p;obtain⟨hx,s,hs,f⟩:=fd d;obtain⟨i,t,h,g⟩:=fd hb;dsimp only at d hb hx i hs h f g;have l:=c.toNat_lt;obtain⟨R,I,σ,τ,j,k,n,o⟩:=NT hx i hs h f g c.toNat l;have f:=run_complex_mul (P:=C) w 212 _ _ _ _ _ _ j;have f:=run_complex_sum (P:=C) w .add (.inl rfl) 212 .f64 _ _ _ _ _ _ k;have f:=ov c.toNat (by omega);have Hq:P0.add (fb false c.toNat) 4607182418800017408=D (fb false (c.toNat+1)):=by
  have:=mO (aR false c.toNat (hn:=by omega)) (aR false 1) (by unfold al;simp;omega);have e:al false c.toNat+al false 1=((c.toNat+1:Nat):Int):=by unfold al;simp
  rw[e,Pp,if_neg (by omega),show decide (((c.toNat+1:Nat):Int)<0)=false from by simp;omega,show fb false 1=4607182418800017408 from by decide]at this;exact this
 have f:=run_float_arith (P:=C) w .add 320 .f64 (fb false c.toNat) 4607182418800017408 _ Hq;have f:((3:Int)*x-5*y+c.toNat+1).natAbs<131072:=by omega
 have f:5*x+3*y<131072:=by omega
 have m:Hid (((al σ ((3:Int)*x-5*y+c.toNat+1).natAbs) % 10007).toNat=(cX (x,y) c).1):=by
  show _=_;rw[n];unfold cX;simp only[];omega
 have hI:Hid (((al τ (5*x+3*y)) % 10007).toNat=(cX (x,y) c).2):=by
  show _=_;rw[o];unfold cX;simp only[];omega
 generalize((3:Int)*x-5*y+c.toNat+1).natAbs=n1 at *;generalize 5*x+3*y=n2 at *;generalize c.toNat=B at *;have H3:((aw a).isSome&&(aw b).isSome)=true:=by rw[d,hb];rfl
 have d:=F (λw=>rX a b w);rw[H3]at d;go_enter func304,ntmps304
 go_wp2_with (first
  |(go_at_call 302;refine(d _).mono ?_;rintro e w' ⟨rfl,rfl⟩)
  |(go_at_call 308;refine(IH _ _ (by assumption) _).mono ?_;rintro e w' ⟨r,rfl,d,rfl⟩))
 go_ret;refine⟨_,rfl,⟨_,_,rfl,?_,?_⟩,rfl⟩
 ·rw[<-m.out];assumption
 ·rw[<-hI.out];assumption
theorem BK(x n:Nat)(h:aw x=D n)(w:World):Calls C 283 #[.float .f64 x] w λe w'=>e=.returned (.tuple #[.int .i64 n,G true])/\w=w':=by
 refine(qP x w).mono ?_;rintro e w' ⟨m,rfl,hn,rfl⟩;exact⟨by rw[hn n h,h];rfl,rfl⟩
theorem EB(v:Value)(p:Nat×Nat)(i:PtV v p)(c:UInt8)(w:World):Calls C 267 #[v,E .u8 c.toNat] w (Cf (cX p c) w):=by
 obtain⟨a,b,rfl,d,hb⟩:=i;obtain⟨x,y⟩:=p;obtain⟨hx,s,hs,i⟩:=fd d;obtain⟨i,t,j,j⟩:=fd hb;dsimp only at d hb hx i;have d:=c.toNat_lt;have f:=F (ov (cX (x,y) c).1 (by unfold cX;simp only[];omega));have g:=F (ov (cX (x,y) c).2 (by unfold cX;simp only[];omega));go_enter func267,ntmps267
 go_wp2_with (go_at_call 283;refine(BK _ _ (by assumption) _).mono ?_;rintro e w' ⟨rfl,rfl⟩)
 go_ret;have d:(wrap64 ((3*(x:Int)-5*y+c.toNat+1).tmod 10007+10007)).tmod 10007=((cX (x,y) c).1:Int):=by
  rw[Iq _ (by omega) (by omega)];unfold cX;simp only[];omega
 have i:((5*(x:Int)+3*y) % 10007)=((cX (x,y) c).2:Int):=by unfold cX;simp only[];omega
 refine⟨.complex .f64 (fb false (cX (x,y) c).1) (fb false (cX (x,y) c).2),?_,⟨_,_,rfl,oS _ _ ?_ ?_,oS _ _ ?_ ?_⟩,rfl⟩
 ·rw[<-f.out,<-g.out,<-d,<-i];rfl
 ·unfold cX;simp only[];omega
 ·exact λh=>by cases h
 ·unfold cX;simp only[];omega
 ·exact λh=>by cases h
end Go.Proofs.YteggfecbjgbndaaGreatDoor

namespace Go.Mv
open Go.RowKit
theorem mcFoura0{P:Prop}(h:P:=by
 go_enter Tryz.func298,Tryz.ntmps298
 go_wp2_with (go_at_call 302;refine(hG _).mono ?_;rintro e w' ⟨rfl,rfl⟩)
 refine bodyPost_ret (results_cell_row rfl _ _ _ 188 _ _ _ rfl (heap_alloc_new _ _) Tryz.underlying188 rfl (by kernel_rfl)) rfl ⟨rfl,xA (xR _) _⟩):P:=h
theorem mcFoura1{P:Prop}(h:P:=by
 go_wp2_with (go_at_call 283;refine(qP _ _).mono ?_;rintro e w' ⟨n,rfl,_,rfl⟩)
 refine bodyPost_ret (results_cell_row rfl _ _ _ 188 _ _ _ rfl (heap_alloc_new _ _) Tryz.underlying188 rfl (by kernel_rfl)) rfl ⟨rfl,xA (xR _) _⟩):P:=h
theorem BY{a x:Nat}(h:aw a=D x):floatToIntVal .f64 a .i64=D (x:Int):=by
 obtain⟨hx,s,hs,hf⟩:=fd h;obtain⟨b,hb⟩:=eD hf;unfold floatToIntVal P3;rw[show P2.format=P0 from rfl,hb];unfold Q0;rw[pL,Pb _ (P4 b)];have e:P1 s x 0=(x:Int):=by
  rw[dL,Ph,Pm];cases s
  ·rfl
  rw[hs rfl];unfold al;simp
 dsimp only;rw[e];have:Pn.min<=(x:Int)/\(x:Int)<=Pn.max:=by
  rw[show Pn.min = -9223372036854775808 from rfl,show Pn.max=9223372036854775807 from rfl];omega
 simp only[this,and_self,if_true]
def aW(p:Nat×Nat):List UInt8:=[Q3 (p.1 / 256),Q3 p.1,Q3 (p.2 / 256),Q3 p.2]
def ptV(v:Value):Nat×Nat:=
 match v with
 | .complex .f64 a b=>match aw a,aw b with
  |some x,some y=>(x,y)
  |_,_=>(0,0)
 |_=>(0,0)
end Go.Mv
namespace Go.Proofs.YteggfecbjgbndaaGreatDoor
open Go.RowKit Go.Mv
def i7(v:Value)(w:World)(e:Ending)(w':World):Prop:=e=.returned (.agg ((aW (ptV v)).map bv).toArray)/\Ext w w'
theorem Bw{a b x y:Nat}(c:aw a=D x)(hb:aw b=D y):(aW (ptV (.complex .f64 a b))).map bv=[E .u8 ((x:Int) / 256),E .u8 ((x:Int) % 256),E .u8 ((y:Int) / 256),E .u8 ((y:Int) % 256)]:=by
 have hx:=(fd c).1;have d:=(fd hb).1;have e:ptV (.complex .f64 a b)=(x,y):=by unfold ptV;simp only[c,hb]
 rw[e];simp[aW,bv];omega
theorem Bv{a b:Nat}(h:((aw a).isSome&&(aw b).isSome)=false):(aW (ptV (.complex .f64 a b))).map bv=[E .u8 0,E .u8 0,E .u8 0,E .u8 0]:=by
 have e:ptV (.complex .f64 a b)=(0,0):=by
  unfold ptV;cases c:aw a<;>cases hb:aw b<;>simp_all
 rw[e];simp[aW,bv]
theorem AJ(a b:Nat)(w:World):Calls C 298 #[.complex .f64 a b] w (i7 (.complex .f64 a b) w):=by
 have hG:=F (λw=>rX a b w);cases H3:((aw a).isSome&&(aw b).isSome)
 ·have hf:=Bv H3;unfold i7;rw[hf];rw[H3]at hG;exact mcFoura0
 ·obtain⟨x,c⟩:∃x,aw a=D x:=by cases h:aw a<;>simp_all
  obtain⟨y,hb⟩:∃y,aw b=D y:=by cases h:aw b<;>simp_all
  have hf:=Bw c hb;have hx:=(fd c).1;have d:=(fd hb).1;unfold i7;rw[hf];rw[H3]at hG;have d:=λw=>run_convert_float_int (P:=C) w 320 3 .f64 .i64 a _ (by kernel_rfl) underlying3 (BY c);have c:=λw=>run_convert_float_int (P:=C) w 320 3 .f64 .i64 b _ (by kernel_rfl) underlying3 (BY hb);exact mcFoura0
theorem tw(a b:Nat)(w:World):Calls C 249 #[.complex .f64 a b] w (i7 (.complex .f64 a b) w):=by
 by_cases H3:((aw a).isSome&&(aw b).isSome)=true
 ·obtain⟨x,c⟩:∃x,aw a=D x:=by cases h:aw a<;>simp_all
  obtain⟨y,hb⟩:∃y,aw b=D y:=by cases h:aw b<;>simp_all
  have hf:=Bw c hb;have hx:=(fd c).1;have f:=(fd hb).1;unfold i7;rw[hf];go_enter func249,ntmps249
  go_wp2_with (go_at_call 283;refine(BK _ _ (by assumption) _).mono ?_;rintro e w' ⟨rfl,rfl⟩)
  refine bodyPost_ret (results_cell_row rfl _ _ _ 188 _ _ _ rfl (heap_alloc_new _ _) underlying188 rfl (by kernel_rfl)) rfl ⟨rfl,xA (xR _) _⟩
 ·have d:((aw a).isSome&&(aw b).isSome)=false:=by simpa using H3
  have hf:=Bv d;unfold i7;rw[hf];cases c:(aw a).isSome
  ·go_enter func249,ntmps249
   exact mcFoura1
  ·rw[c,Bool.true_and]at d;go_enter func249,ntmps249
   exact mcFoura1
theorem fI(d f:Value)(a b:List UInt8)(w:World)(c:Bs w d a)(hb:Bs w f b):
  Calls C 81 #[d,f] w λe w'=>e=.returned (G (decide (a=b)))/\w=w':=by
 obtain⟨A,d,rfl,h1,h2⟩:=xO c;obtain⟨B,d,rfl,h3,h4⟩:=xO hb;have d:=eh (P:=C) w 33 9 5 underlying33 underlying5 underlying9 c;have c:=eh (P:=C) w 33 9 5 underlying33 underlying5 underlying9 hb;go_enter func81,ntmps81
 go_wp2;go_ret;exact⟨ret_bool (by rw[Pu];simp),rfl⟩
def Parts(w:World)(v:Value)(a:List (List UInt8)):Prop:=∃b:List Value,b.length=a.length/\SlR w 1 v a.length b/\∀i (h:i<b.length) (h':i<a.length),Bs w b[i] a[i]
theorem Parts.ext{w w':World}{v:Value}{a:List (List UInt8)}(h:Parts w v a)(he:Ext w w'):Parts w' v a:=by
 obtain⟨a,hl,h1,h2⟩:=h;exact⟨a,hl,h1.ext he,λi hi a=>(h2 i hi a).ext he⟩
theorem oo(a:List (List UInt8))(k:Nat)(h:k<a.length):(a.take (k+1)).flatten=(a.take k).flatten++a[k]:=by
 rw[List.take_succ_eq_append_getElem h,Q6,List.flatten_cons,List.flatten_nil,List.append_nil]
theorem tB(a:List (List UInt8))(k:Nat):(a.take k).flatten.length<=a.flatten.length:=by
 conv=>rhs;rw[<-List.take_append_drop k a,Q6]
 simp
theorem pG(v:Value)(a:List (List UInt8))(w:World)(h:Parts w v a)(hl:a.flatten.length<=70368744177664):
  Calls C 239 #[v] w (nw w a.flatten):=by
 obtain⟨f,B,t,D⟩:=h;obtain⟨A,c,rfl,h1,h2⟩:=xO t;obtain⟨O,hi,K,K3,L⟩:=info_parts dC;have T:=F B;have Kn:f.length<=a.length:=by omega
 have U:a.length<=f.length:=by omega
 clear B;go_enter func239,ntmps239
 go_wp2_with fail
 go_loop [3,11] (λQ i=>∃k m:Nat,k<=a.length/\i=.int .i64 k/\Q=.int .i64 m/\Hid (m=(a.take k).flatten.length)) (λ_ i=>a.length-(intOf i).toNat)
 case atStart=>exact⟨0,0,Pj _,rfl,rfl,rfl⟩
 case round=>
  obtain⟨k,m,hk,rfl,rfl,x⟩:=hrel;by_cases g:k<a.length
  ·obtain⟨_,b,M,rfl,hc⟩:=SlR.at_ t (by omega);have j:k<f.length:=by omega
   have r:=hc k f[k] (Q4 j);obtain⟨A',c',l,h3,h4⟩:=xO (D k j g);rw[l]at r;have p:=tB a (k+1);have d:=oo a k g;rw[d,xL,<-x.out]at p;have Hx:=F d;generalize N:a.flatten.length=q at p hl;clear hc l d N;go_wp2_with fail
   go_round
   case rel=>exact⟨k+1,m+a[k].length,by omega,by go_num,by go_num,by show _=_;rw[Hx.out,xL,<-x.out]⟩
   case measure=>simp[intOf];omega
  ·have hm:=x.out;rw[Q5 (by omega)]at hm;have S:m<=70368744177664:=by omega
   clear hm;go_wp2_with (go_at_call 281;refine(MY _ _ (by omega)).mono ?_;rintro e R⟨W,rfl,J,G⟩)
   go_loopw [6,27] (λP i wr=>∃k:Nat,k<=a.length/\i=.int .i64 k/\wr.ownsRow w.heap.size 5 1 P (a.take k).flatten.length ((a.take k).flatten.map bv)/\Ext w wr) (λ_ i _=>a.length-(intOf i).toNat)
   case atStart=>exact⟨0,Pj _,rfl,J,G⟩
   case round=>
    obtain⟨k,hk,rfl,o,n⟩:=hrel;by_cases g:k<a.length
    ·obtain⟨_,b,M,rfl,hc⟩:=SlR.at_ (SlR.ext t n) (by omega);have j:k<f.length:=by omega
     have r:=hc k f[k] (Q4 j);have y:=(D k j g).ext n;obtain⟨A',c',l,h3,h4⟩:=xO y;rw[l]at r y;have p:=tB a (k+1);have d:=oo a k g;rw[d,xL]at p;have Hx:=F d;clear hc l d;go_wp2_with (at_builtin;refine dT _ rfl (.tmp 31) (.tmp 32) 33 rfl w.heap.size 5 O (E .u8 0) 1 1 underlying33 hi K K3 L rfl (by decide) _ _ _ rfl o _ a[k].length (a[k].map bv) rfl y (de _) (by unfold maxLen;omega) (by omega) n.size ?_;intro V R I H)
     go_roundw
     case rel=>
      refine⟨k+1,by omega,by go_num,?_,Ext.grownOwn n o H⟩;rw[Hx.out];simpa using I
     case measure=>simp[intOf];omega
    ·have z:a.take k=a:=Q5 (by omega);rw[z]at o;clear z;go_wp2_with fail;go_ret;exact⟨_,rfl,o,n⟩
