/- Merged -/
import Derived.Test.YteggfecbjgbndaaGreatDoorZw2
set_option linter.all false
set_option maxHeartbeats 8000000
set_option maxRecDepth 100000
open Go.Proofs.Tryz renaming prog→C
open Option renaming some→D
open Go.Value renaming int→E,bool→G
open Go.Mv renaming zhd→F
open Ieee renaming double→P0,signed→P1
open Go.FloatKind renaming f64→P2,decode→P3
open Nat renaming two_pow_pos→P4,pow_le_pow_right→P5,lt_log2_self→P6,zero_mul→P7,testBit_lt_two_pow→P8,add_zero→P9,mul_right_comm→Pa,mul_div_cancel→Pb,lt_of_lt_of_le→Pc,lt_trichotomy→Pd,mod_eq_of_lt→Pe,div_eq_of_lt→Pf,div_add_mod→Pg,pow_zero→Ph,mul_comm→Pi,zero_le→Pj,one_mul→Pk,mul_pos→Pl,mul_one→Pm
open Go.IntKind renaming i64→Pn
open Int renaming tmod_eq_emod_of_nonneg→Po,natAbs_natCast→Pp,neg_neg→Pq,natCast_nonneg→Pr,toNat_natCast→Ps
open Bool renaming eq_iff_iff→Pu,false_eq_true→Pv,or_eq_false_iff→Pw,or_eq_true→Px,xor_false→Py
open Ieee.Datum renaming order→Pz,toInt→Q0,number→Q1,integral→Q2
open UInt8 renaming ofNat→Q3
open List renaming getElem?_eq_getElem→Q4,take_of_length_le→Q5,flatten_append→Q6
open Ieee.Format renaming order→Q7,read→Q8
namespace Go.Mv
open Go.RowKit
theorem mcModa0 {P:Prop} (h:P:=by
 go_enter Tryz.func326,Tryz.ntmps326
 go_wp2_with (first
  | (go_at_call 318;refine (hI.out _).mono ?_;rintro e w' ⟨rfl,rfl⟩)
  | (go_at_call 319;refine (hN.out _).mono ?_;rintro e w' ⟨rfl,rfl⟩)
  | (go_at_call 327;refine (hM.out _).mono ?_;rintro e w' ⟨rfl,rfl⟩))
 all_goals (go_ret;exact ⟨rfl,rfl⟩)):P:=h
theorem mcModa1 {P:Prop} (h:P:=by
 have hF:=F (fun w=>zeG k (by omega) (by omega) w)
 rw[he] at hF;have K8:=zoA k (10007*2^q) HN (by omega) w;rw[decide_eq_true h10] at H0
 have Kn:1≤10007*2^q:=by have:=P4 q;omega
 have hm:=zoh (k-10007*2^q) k (by omega) (by omega)
 have H3:(k-10007*2^q) % 10007=n % 10007:=by rw[←Hk.out];exact Nat.sub_mul_mod HN
 have Hm:=F hm;have HE:=F H3;clear hm H3 he
 cases t
 all_goals
  simp only[if_true,if_false,Pv] at hF
  go_wp2_with (first
   | (go_at_call 321;refine (hF.out _).mono ?_;rintro e w' ⟨rfl,rfl⟩)
   | (go_at_call 322;refine (zkw _ q hq (by omega) _).mono ?_;rintro e w' ⟨rfl,rfl⟩))
  go_round
  case rel=>exact ⟨k-10007*2^q,by omega,HE.out,rfl⟩
  case measure=>exact Hm.out):P:=h
theorem znb (x:Nat) (h:x<9223372036854775808):x ^^^ 2^63=9223372036854775808+x:=by
 rw[show (9223372036854775808:Nat)=2^63 from rfl] at *
 refine Nat.eq_of_testBit_eq fun i=>?_
 rw[Nat.testBit_xor,Nat.testBit_two_pow]
 rcases Pd i 63 with hi | hi | hi
 ·rw[Nat.testBit_two_pow_add_gt hi,show decide (63=i)=false from by simp;omega,Py]
 ·subst hi;rw[Nat.testBit_two_pow_add_eq];simp
 ·have h1:x.testBit i=false:=P8 (Pc h (P5 (by decide) (by omega)))
  have h2:(2^63+x).testBit i=false:=P8 (Pc (by omega:2^63+x<2^64) (P5 (by decide) (by omega)))
  rw[h1,h2,show decide (63=i)=false from by simp;omega];rfl
theorem zuB (s:Bool) (n:Nat) (hn:n<9007199254740992):fb s n ^^^ 2^63=fb (!s) n:=by
 have h:=zdH n hn
 cases s
 ·show zcu n ^^^ _=_;rw[znb _ (by omega)];rfl
 ·show (9223372036854775808+zcu n) ^^^ _=zcu n
  rw[←znb _ (by omega),Nat.xor_assoc,Nat.xor_self,Nat.xor_zero]
theorem ziN (s:Bool) (n:Nat) (hn:n<9007199254740992):Op.negFloat .f64 (fb s n)=fb (!s) n:=zuB s n hn
theorem zoh (k m:Nat) (h:k<m) (hm:m<9007199254740992):fb false k<fb false m:=by
 show zcu k<zcu m
 obtain ⟨_,HR⟩:=zdH m hm;obtain ⟨Kr,Ks,_⟩:=HR (by omega)
 have e1:zcu m=(m.log2+1022)*4503599627370496+m*2^(52-m.log2):=by unfold zcu;rw[if_neg (by omega)]
 by_cases h0:k=0
 ·subst h0;rw[e1];unfold zcu;simp;omega
 obtain ⟨_,Hf⟩:=zdH k (by omega);obtain ⟨Ko,_,Kp⟩:=Hf h0
 have e2:zcu k=(k.log2+1022)*4503599627370496+k*2^(52-k.log2):=by unfold zcu;rw[if_neg h0]
 rw[e1,e2]
 rcases Pd k.log2 m.log2 with hl | hl | hl
 ·omega
 ·rw[hl]
  have:k*2^(52-m.log2)<m*2^(52-m.log2):=Nat.mul_lt_mul_of_pos_right h (P4 _)
  omega
 ·exfalso
  have a1:m<2^(m.log2+1):=P6
  have a2:2^k.log2≤k:=Nat.log2_self_le h0
  have a3:2^(m.log2+1)≤2^k.log2:=P5 (by decide) hl
  omega
def zpj:Value→Nat
 | .float _ b=>b
 | _=>0
end Go.Mv
namespace Go.Proofs.YteggfecbjgbndaaGreatDoor
open Go.RowKit Go.Mv
attribute [local go_sem] zgp zed
theorem zkR (f:Nat) (hf:f<4503599627370496):P0.read (4602678819172646912+f)=.number false (4503599627370496+f) (-((53:Nat):Int)):=by
 have HJ:P0.leastPlace = -1074:=by decide
 have Hc:P0.binade=4503599627370496:=by decide
 have HI:P0.infRung=9218868437227405312:=by decide
 have Ka:P0.signWeight=9223372036854775808:=by decide
 unfold Q8;dsimp only
 rw[HJ,Hc,HI,Ka,show (4602678819172646912+f) % 9223372036854775808=4602678819172646912+f from by omega,if_neg (by omega),if_pos (by omega),
  show (4602678819172646912+f) / 9223372036854775808=0 from by omega,show (4602678819172646912+f) % 4503599627370496=f from by omega,show (4602678819172646912+f) / 4503599627370496=1022 from by omega]
 rfl
theorem zon (k:Nat) (h1:10007≤k) (h2:k<131072):∃ (t:Bool) (q:Nat),q≤3∧10007*2^q≤k∧(P2.format.order (frB k) (frB 10007)==D .lt)=t∧frE k=14+q+(if t then 1 else 0):=by
 obtain ⟨f,hf,hl,hx,he⟩:=zsE k (by omega) (by omega)
 have e0:frB 10007=4602678819172646912+997806802206720:=by decide
 have e1:frB k=4602678819172646912+f:=by unfold frB;rw[hx];omega
 have e2:frE k=(k.log2:Int)+1:=by unfold frE;rw[hx];omega
 have ho:(P2.format.order (frB k) (frB 10007)==D .lt)=decide (f<997806802206720):=by
  show (P0.order _ _==_)=_
  unfold Q7;rw[e0,e1,zkR f hf,zkR _ (by decide),zd3,zeL];unfold zak
  simp
  omega
 rw[ho,e2]
 have Kq:13≤k.log2:=(Nat.le_log2 (by omega)).2 (by omega)
 have Km:k.log2<17:=(Nat.log2_lt (by omega)).2 (by omega)
 have Hb:k.log2=13∨k.log2=14∨k.log2=15∨k.log2=16:=by omega
 have HS:k<2^(k.log2+1):=P6
 by_cases ht:f<997806802206720
 ·refine ⟨true,k.log2-14,by omega,?_,by simpa using ht,?_⟩
  ·rcases Hb with h | h | h | h <;> rw[h] at he HS ⊢ <;> omega
  ·have:k.log2≠13:=by intro h;rw[h] at he;omega
   simp;omega
 ·refine ⟨false,k.log2-13,by omega,?_,by simpa using ht,?_⟩
  ·rcases Hb with h | h | h | h <;> rw[h] at he HS ⊢ <;> omega
  ·simp;omega
theorem zjP (n:Nat) (hn:n<9007199254740992) (w:World):(binOp .mul 320 (.float .f64 4607182418800017408) (.float .f64 (fb false n))).run C w=.ok (.float .f64 (fb false n)) w:=by
 refine run_float_arith w .mul 320 .f64 _ _ _ ?_
 show P0.mul _ _=_
 have:=zeN (zav false 1 (by decide)) (zav false n hn) (by omega)
 rw[Pk] at this
 exact this
theorem zri (k:Nat) (hk:k≤3) (w:World):Calls C 326 #[.float .f64 (fb false 10007),.int .i64 k] w fun e w'=>e=.returned (.float .f64 (fb false (10007*2^k)))∧w=w':=by
 have hI:=F (fun w=>zeH false 10007 (by decide) w)
 have hN:=F (fun w=>zcY _ false 10007 (zav false 10007 (by decide)) w)
 have hM:=F (fun w=>zhr 10007 (by decide) (by decide) w)
 have hz:=zeb false (n:=10007) (by decide) (zav false 10007 (by decide))
 have hc:fb false 10007=4666727020758040576:=by decide
 rw[hc] at hI hN hM hz ⊢
 have Kl:bits .and .i64 1036 2047=1036:=by decide
 have Kh:bits .andNot .u64 4666727020758040576 9218868437227405312=997806802206720:=by decide
 rcases (by omega:k=0∨k=1∨k=2∨k=3) with rfl | rfl | rfl | rfl
 ·have hm:=zjP (10007*2^0) (by decide) w
  have Hd:fb false (10007*2^0)=4666727020758040576:=by decide
  rw[Hd] at hm ⊢
  have HL:bits .or .u64 997806802206720 4665729213955833856=4666727020758040576:=by decide
  exact mcModa0
 ·have hm:=zjP (10007*2^1) (by decide) w
  have Hd:fb false (10007*2^1)=4671230620385411072:=by decide
  rw[Hd] at hm ⊢
  have HL:bits .or .u64 997806802206720 4670232813583204352=4671230620385411072:=by decide
  exact mcModa0
 ·have hm:=zjP (10007*2^2) (by decide) w
  have Hd:fb false (10007*2^2)=4675734220012781568:=by decide
  rw[Hd] at hm ⊢
  have HL:bits .or .u64 997806802206720 4674736413210574848=4675734220012781568:=by decide
  exact mcModa0
 ·have hm:=zjP (10007*2^3) (by decide) w
  have Hd:fb false (10007*2^3)=4680237819640152064:=by decide
  rw[Hd] at hm ⊢
  have HL:bits .or .u64 997806802206720 4679240012837945344=4680237819640152064:=by decide
  exact mcModa0
theorem zkw (e:Int) (k:Nat) (hk:k≤3) (he:e=k) (w:World):Calls C 322 #[.float .f64 4666727020758040576,.int .i64 e] w fun e w'=>e=.returned (.float .f64 (fb false (10007*2^k)))∧w=w':=by
 subst he
 have hM:=F (fun w=>zri k hk w)
 have hc:fb false 10007=4666727020758040576:=by decide
 rw[hc] at hM
 go_enter Tryz.func322,Tryz.ntmps322
 go_wp2_with (go_at_call 326;refine (hM.out _).mono ?_;rintro e w' ⟨rfl,rfl⟩)
 go_ret
 exact ⟨rfl,rfl⟩
theorem zoA (k m:Nat) (h:m≤k) (hk:k<9007199254740992) (w:World):(binOp .sub 320 (.float .f64 (fb false k)) (.float .f64 (fb false m))).run C w=.ok (.float .f64 (fb false (k-m))) w:=by
 refine run_float_arith w .sub 320 .f64 _ _ _ ?_
 show P0.sub _ _=_
 have:=zk1 (zav false k hk) (zav false m (by omega)) (by unfold zak;simp;omega)
 rw[this];unfold zak;simp only[Pv,if_false]
 congr 2
 ·split
  ·rfl
  ·simp;omega
 ·omega
theorem zq8 (k:Nat) (hk:k<9007199254740992):(P2.format.order (fb false k) 4666727020758040576==D .gt||P2.format.order (fb false k) 4666727020758040576==D .eq)=decide (10007≤k):=by
 have hc:fb false 10007=4666727020758040576:=by decide
 rw[←hc]
 show (P0.order _ _==_||P0.order _ _==_)=_
 rw[zdt (zav false k hk) (zav false 10007 (by decide)),zgB,zeK];unfold zak;rw[Pu]
 simp
 omega
theorem zt2 (n:Nat) (hn:n<131072) (w:World):Calls C 313 #[.float .f64 (fb false n),.float .f64 4666727020758040576] w fun e w'=>e=.returned (.float .f64 (fb false (n % 10007)))∧w=w':=by
 have hc:fb false 10007=4666727020758040576:=by decide
 have Hi:frE 10007=14:=by decide
 have hI:=F (fun w=>zeH false n (by omega) w)
 have hN:=F (fun w=>zcY _ false n (zav false n (by omega)) w)
 have Ha:=F (fun w=>zcY _ false 10007 (zav false 10007 (by decide)) w)
 have H6:=F (fun w=>zeG 10007 (by decide) (by decide) w)
 have hz:=zeb false (n:=10007) (by decide) (zav false 10007 (by decide));rw[Hi] at H6;rw[hc] at Ha H6 hz
 have HV:(P2.format.order (fb false n) 0==D .lt)=false:=by
  show (P0.order _ _==_)=_
  rw[zdt (zav false n (by omega)) zdD,zeL];unfold zak;simp
 go_enter Tryz.func313,Tryz.ntmps313
 go_wp2_with (first
  | (go_at_call 318;refine (hI.out _).mono ?_;rintro e w' ⟨rfl,rfl⟩)
  | (go_at_call 319;refine (hN.out _).mono ?_;rintro e w' ⟨rfl,rfl⟩)
  | (go_at_call 319;refine (Ha.out _).mono ?_;rintro e w' ⟨rfl,rfl⟩)
  | (go_at_call 314;refine (zgv _ (by decide) _).mono ?_;rintro e w' ⟨rfl,rfl⟩)
  | (go_at_call 321;refine (H6.out _).mono ?_;rintro e w' ⟨rfl,rfl⟩))
 go_loop [7] (fun r=>∃ k:Nat,k≤n∧Hid (k % 10007=n % 10007)∧r=.float .f64 (fb false k)) (fun r=>zpj r)
 case atStart=>exact ⟨n,xN _,rfl,rfl⟩
 case round =>
  obtain ⟨k,hk,Hk,rfl⟩:=hrel;have H0:=zq8 k (by omega)
  by_cases h10:10007≤k
  ·obtain ⟨t,q,hq,HN,ht,he⟩:=zon k h10 (by omega)
   exact mcModa1
  ·rw[decide_eq_false h10] at H0
   go_wp2_with fail;go_ret
   have Hf:k=n % 10007:=by rw[←Hk.out,Pe (by omega)]
   exact ⟨by rw[←Hf];rfl,rfl⟩
theorem zkp (x:Nat):Op.unary .neg (.float .f64 x)=pure (.float .f64 (Op.negFloat .f64 x)):=rfl
attribute [local go_sem] zgp zed zkp
theorem zt1 (n:Nat) (h0:0<n) (hn:n<131072) (w:World):Calls C 313 #[.float .f64 (fb true n),.float .f64 4666727020758040576] w fun e w'=>e=.returned (.float .f64 (fb true (n % 10007)))∧w=w':=by
 have hc:fb false 10007=4666727020758040576:=by decide
 have Hi:frE 10007=14:=by decide
 have hI:=F (fun w=>zeH true n (by omega) w)
 have hN:=F (fun w=>zcY _ true n (zav true n (by omega)) w)
 have Ha:=F (fun w=>zcY _ false 10007 (zav false 10007 (by decide)) w)
 have H6:=F (fun w=>zeG 10007 (by decide) (by decide) w)
 have hz:=zeb false (n:=10007) (by decide) (zav false 10007 (by decide));rw[Hi] at H6;rw[hc] at Ha H6 hz
 have HV:(P2.format.order (fb true n) 0==D .lt)=true:=by
  show (P0.order _ _==_)=_
  rw[zdt (zav true n (by omega)) zdD,zeL];unfold zak;simp;omega
 have HK:=ziN true n (by omega);have H8:=ziN false (n % 10007) (by omega);rw[Bool.not_true] at HK;rw[Bool.not_false] at H8
 go_enter Tryz.func313,Tryz.ntmps313
 go_wp2_with (first
  | (go_at_call 318;refine (hI.out _).mono ?_;rintro e w' ⟨rfl,rfl⟩)
  | (go_at_call 319;refine (hN.out _).mono ?_;rintro e w' ⟨rfl,rfl⟩)
  | (go_at_call 319;refine (Ha.out _).mono ?_;rintro e w' ⟨rfl,rfl⟩)
  | (go_at_call 314;refine (zgv _ (by decide) _).mono ?_;rintro e w' ⟨rfl,rfl⟩)
  | (go_at_call 321;refine (H6.out _).mono ?_;rintro e w' ⟨rfl,rfl⟩))
 go_loop [7] (fun r=>∃ k:Nat,k≤n∧Hid (k % 10007=n % 10007)∧r=.float .f64 (fb false k)) (fun r=>zpj r)
 case atStart=>exact ⟨n,xN _,rfl,rfl⟩
 case round =>
  obtain ⟨k,hk,Hk,rfl⟩:=hrel;have H0:=zq8 k (by omega)
  by_cases h10:10007≤k
  ·obtain ⟨t,q,hq,HN,ht,he⟩:=zon k h10 (by omega)
   exact mcModa1
  ·rw[decide_eq_false h10] at H0
   have Hf:k=n % 10007:=by rw[←Hk.out,Pe (by omega)]
   rw[←Hf] at H8;have HW:=F Hf;clear Hf;go_wp2_with fail;go_ret
   refine ⟨?_,rfl⟩
   rw[←HW.out,←H8];rfl
theorem zrq (w:World):Calls C 313 #[.float .f64 (fb true 0),.float .f64 4666727020758040576] w fun e w'=>e=.returned (.float .f64 (fb true 0))∧w=w':=by
 have hc:fb false 10007=4666727020758040576:=by decide
 have Hi:frE 10007=14:=by decide
 have hI:=F (fun w=>zeH true 0 (by decide) w)
 have hN:=F (fun w=>zcY _ true 0 (zav true 0 (by decide)) w)
 have Ha:=F (fun w=>zcY _ false 10007 (zav false 10007 (by decide)) w)
 have H6:=F (fun w=>zeG 10007 (by decide) (by decide) w)
 have hz:=zeb false (n:=10007) (by decide) (zav false 10007 (by decide));rw[Hi] at H6;rw[hc] at Ha H6 hz
 have HV:(P2.format.order (fb true 0) 0==D .lt)=false:=by
  show (P0.order _ _==_)=_
  rw[zdt (zav true 0 (by decide)) zdD,zeL];unfold zak;simp
 have H0:(P2.format.order (fb true 0) 4666727020758040576==D .gt||P2.format.order (fb true 0) 4666727020758040576==D .eq)=false:=by
  rw[←hc]
  show (P0.order _ _==_||P0.order _ _==_)=_
  rw[zdt (zav true 0 (by decide)) (zav false 10007 (by decide)),zgB,zeK];unfold zak
  simp
 go_enter Tryz.func313,Tryz.ntmps313
 go_wp2_with (first
  | (go_at_call 318;refine (hI.out _).mono ?_;rintro e w' ⟨rfl,rfl⟩)
  | (go_at_call 319;refine (hN.out _).mono ?_;rintro e w' ⟨rfl,rfl⟩)
  | (go_at_call 319;refine (Ha.out _).mono ?_;rintro e w' ⟨rfl,rfl⟩)
  | (go_at_call 314;refine (zgv _ (by decide) _).mono ?_;rintro e w' ⟨rfl,rfl⟩)
  | (go_at_call 321;refine (H6.out _).mono ?_;rintro e w' ⟨rfl,rfl⟩))
 go_loop [7] (fun r=>r=.float .f64 (fb true 0)) (fun r=>zpj r)
 case atStart=>rfl
 case round =>
  obtain rfl:=hrel
  go_wp2_with fail;go_ret
  exact ⟨rfl,rfl⟩
theorem ztA (s:Bool) (n:Nat) (hn:n<131072) (w:World):Calls C 309 #[.float .f64 (fb s n),.float .f64 4666727020758040576] w fun e w'=>e=.returned (.float .f64 (fb s (n % 10007)))∧w=w':=by
 have hM:Hid (∀ w,Calls C 313 #[.float .f64 (fb s n),.float .f64 4666727020758040576] w fun e w'=>e=.returned (.float .f64 (fb s (n % 10007)))∧w=w'):=by
  intro w
  cases s
  ·exact zt2 n hn w
  ·rcases Nat.eq_zero_or_pos n with rfl | h0
   ·exact zrq w
   ·exact zt1 n h0 hn w
 go_enter Tryz.func309,Tryz.ntmps309
 go_wp2_with (go_at_call 313;refine (hM.out _).mono ?_;rintro e w' ⟨rfl,rfl⟩)
 go_ret
 exact ⟨rfl,rfl⟩
end Go.Proofs.YteggfecbjgbndaaGreatDoor

namespace Go.Mv
open Go.RowKit
def zax (x:Nat):Option Nat :=
 match P0.read x with
 | .number s M i=>if i≤0∧(s=false∨M=0)∧M / 2^(-i).toNat<10007∧M % 2^(-i).toNat=0 then some (M / 2^(-i).toNat) else none
 | _=>none
theorem zcV {x n:Nat} (h:zax x=D n):n<10007∧∃ s,(s=true→n=0)∧Fl x s n:=by
 unfold zax at h
 split at h
 ·rename_i s M i hr
  split at h
  ·rename_i hc
   obtain ⟨h1,h2,h3,h4⟩:=hc
   cases h
   refine ⟨h3,s,?_,M,i,hr,(-i).toNat,by omega,?_⟩
   ·intro hs;rcases h2 with h2 | h2
    ·rw[h2] at hs;cases hs
    ·rw[h2];simp
   ·have:=Pg M (2^(-i).toNat);rw[h4,P9,Pi] at this;exact this.symm
  ·cases h
 ·cases h
theorem zpN (x:Nat) {s:Bool} {M:Nat} {i:Int} (h:P0.read x=.number s M i):i≤0∨4503599627370496≤M:=by
 have HJ:P0.leastPlace = -1074:=by decide
 have Hc:P0.binade=4503599627370496:=by decide
 unfold Q8 at h;dsimp only at h;rw[HJ,Hc] at h
 split at h
 ·injection h with h1 h2 h3;left;omega
 ·split at h
  ·injection h with h1 h2 h3;right;omega
  ·split at h <;> cases h
theorem zsA (s:Bool) (M b:Nat):Ieee.Toward.zero.cut s M b=M / 2^b:=by
 unfold Ieee.Toward.cut;dsimp only;rw[Nat.shiftLeft_eq,Pk];simp only[Bool.toNat_false,P9]
 rcases Nat.le_total b (M.log2+2) with h | h
 ·rw[Nat.min_eq_left h]
 ·rw[Nat.min_eq_right h]
  have h1:M<2^(M.log2+1):=P6
  have h2:2^(M.log2+1)≤2^(M.log2+2):=P5 (by decide) (by omega)
  have h3:2^(M.log2+2)≤2^b:=P5 (by decide) h
  rw[Pf (by omega),Pf (by omega)]
theorem zeT (s:Bool) (M b:Nat):(Q1 s M (-(b:Int))).integral .zero=.number s (M / 2^b) 0:=by
 unfold Q2;dsimp only
 rw[show (-(b:Int)).toNat=0 from by omega,Nat.shiftLeft_zero,show (- -(b:Int)).toNat=b from by omega,zsA]
def ge0 (x:Nat):Bool:=P2.format.order x 0==D .gt||P2.format.order x 0==D .eq
def ltR (x:Nat):Bool:=P2.format.order x 4666727020758040576==D .lt
theorem ziO (x:Nat) (s t:Bool) (M b:Nat) (hr:P0.read x=.number s M (-(b:Int))) (hs:s=true→M=0) (ht:t=true→M=0) (hn:M / 2^b<10007) :
  (P2.format.order (fb t (M / 2^b)) x==D .eq)=decide (M % 2^b=0):=by
 obtain ⟨c,hc⟩:=zdC (zav t (M / 2^b) (by omega))
 show (P0.order _ _==_)=_
 unfold Q7;rw[hr,hc,zd3,zeK]
 have e1:zak s (M*2^c)=((M*2^c:Nat):Int):=by
  cases s
  ·rfl
  ·rw[hs rfl];unfold zak;simp
 have e2:zak t (M / 2^b*2^c*2^b)=((M / 2^b*2^c*2^b:Nat):Int):=by
  cases t
  ·rfl
  ·rw[ht rfl];unfold zak;simp
 rw[e1,e2,Pu,decide_eq_true_iff,decide_eq_true_iff];have h1:=Pg M (2^b);have hp:=P4 c
 have e3:M / 2^b*2^c*2^b=(2^b*(M / 2^b))*2^c:=by
  rw[Pa,Pi (M / 2^b)]
 rw[e3]
 constructor
 ·intro h
  have h':(2^b*(M / 2^b))*2^c=M*2^c:=by exact_mod_cast h
  have:=Nat.eq_of_mul_eq_mul_right hp h'
  omega
 ·intro h
  rw[h,P9] at h1;rw[h1]
theorem zjT (x:Nat):(ge0 x=false∧zax x=none)∨(ge0 x=true∧ltR x=false∧zax x=none) ∨
  (ge0 x=true∧ltR x=true∧∃ s M b,P0.read x=.number s M (-((b:Nat):Int))∧(s=true→M=0)∧M / 2^b<10007∧zax x=if M % 2^b=0 then some (M / 2^b) else none):=by
 have hz:P0.read 0=.number false 0 (-((1074:Nat):Int)):=by
  obtain ⟨M,i,h,_⟩:=zdD
  have:P0.read 0=.number false 0 (-1074):=by decide
  exact this
 have hR:P0.read 4666727020758040576=.number false (10007*549755813888) (-((39:Nat):Int)):=by decide
 have H0:ge0 x=(((P0.read x).order (P0.read 0)==D .gt)||((P0.read x).order (P0.read 0)==D .eq)):=rfl
 have H1:ltR x=((P0.read x).order (P0.read 4666727020758040576)==D .lt):=rfl
 rw[hz] at H0;rw[hR] at H1
 cases hr:P0.read x with
 | nan s t =>
  left
  rw[hr] at H0
  exact ⟨H0,by unfold zax;rw[hr]⟩
 | infinity s =>
  rw[hr] at H0 H1
  cases s
  ·exact .inr (.inl ⟨H0,H1,by unfold zax;rw[hr]⟩)
  ·exact .inl ⟨H0,by unfold zax;rw[hr]⟩
 | number s M i =>
  by_cases hi:i≤0
  ·obtain ⟨b,rfl⟩:∃ b:Nat,i = -(b:Int):=⟨(-i).toNat,by omega⟩
   have Hh:zax x=if (-(b:Int))≤0∧(s=false∨M=0)∧M / 2^b<10007∧M % 2^b=0 then some (M / 2^b) else none:=by
    unfold zax;rw[hr];simp only[Pq,Ps]
   rw[hr,zd3,zgB,zeK,P7,show zak false 0=0 from rfl] at H0
   obtain ⟨q,hq⟩:∃ q,q=1074:=⟨_,rfl⟩;rw[←hq] at H0;clear hq hz;rw[hr,zd3,zeL] at H1;have hp:=P4 q;have K5:=P4 b
   by_cases hs:s=false∨M=0
   ·have K9:∀ p,zak s (M*p)=((M*p:Nat):Int):=by
     intro p
     rcases hs with rfl | rfl
     ·rfl
     ·unfold zak;split <;> simp
    rw[K9] at H0 H1
    have Hn:ge0 x=true:=by
     rw[H0];simp only[Px,decide_eq_true_iff]
     have:0≤((M*2^q:Nat):Int):=Pr _
     omega
    have Hq:ltR x=decide (M / 2^b<10007):=by
     rw[H1,show zak false (10007*549755813888*2^b)=((10007*549755813888*2^b:Nat):Int) from rfl,Pu,decide_eq_true_iff,decide_eq_true_iff,Int.ofNat_lt,Nat.div_lt_iff_lt_mul K5,Pa,show (2^39:Nat)=549755813888 from rfl]
     omega
    by_cases hM:M / 2^b<10007
    ·right;right
     refine ⟨Hn,by rw[Hq];simpa using hM,s,M,b,rfl,?_,hM,?_⟩
     ·intro h;rcases hs with h' | h'
      ·rw[h'] at h;cases h
      ·exact h'
     ·rw[Hh]
      by_cases H3:M % 2^b=0
      ·rw[if_pos ⟨by omega,hs,hM,H3⟩,if_pos H3]
      ·rw[if_neg (fun h=>H3 h.2.2.2),if_neg H3]
    ·right;left
     refine ⟨Hn,by rw[Hq];simpa using hM,?_⟩
     rw[Hh,if_neg (fun h=>hM h.2.2.1)]
   ·left
    have K7:s=true:=by
     cases s with
     | true=>rfl
     | false=>exact absurd (.inl rfl) hs
    have Kg:M≠0:=fun h=>hs (.inr h)
    subst K7
    refine ⟨?_,by rw[Hh,if_neg (fun h=>hs h.2.1)]⟩
    have:0<M*2^q:=Pl (by omega) hp
    rw[H0];unfold zak
    simp only[if_true,Pw,decide_eq_false_iff_not];omega
  ·have hM:4503599627370496≤M:=by rcases zpN x hr with h | h <;> omega
   have Hh:zax x=none:=by unfold zax;rw[hr];simp only[];rw[if_neg (fun h=>hi h.1)]
   have K0:0<M:=by omega
   cases s
   ·right;left
    refine ⟨?_,?_,Hh⟩
    ·rw[H0,hr]
     unfold Pz;dsimp only
     rw[zgB,zeK,zbk,zbk,P7,show zak false 0=0 from rfl,show ∀ n,zak false n=(n:Int) from fun _=>rfl]
     simp only[Px,decide_eq_true_iff]
     have:=Pr (M*2^(i-min i (-((1074:Nat):Int))).toNat)
     generalize M*2^(i-min i (-((1074:Nat):Int))).toNat=p at *
     clear H0 H1;omega
    ·rw[H1,hr]
     unfold Pz;dsimp only
     rw[zeL,zbk,zbk,show ∀ n,zak false n=(n:Int) from fun _=>rfl,show ∀ n,zak false n=(n:Int) from fun _=>rfl,decide_eq_false_iff_not]
     have e1:min i (-((39:Nat):Int)) = -39:=by omega
     rw[e1,show (-((39:Nat):Int) - -39).toNat=0 from rfl]
     have h1:2^39≤2^(i - -39).toNat:=P5 (by decide) (by omega)
     have h2:4503599627370496*2^39≤M*2^(i - -39).toNat:=Nat.mul_le_mul hM h1
     omega
   ·left
    refine ⟨?_,Hh⟩
    rw[H0,hr];unfold Pz;dsimp only
    rw[zgB,zeK,zbk,zbk,P7,show zak false 0=0 from rfl,show ∀ n,zak true n = -(n:Int) from fun _=>rfl]
    have:0<M*2^(i-min i (-((1074:Nat):Int))).toNat:=Pl K0 (P4 _)
    simp only[Pw,decide_eq_false_iff_not]
    generalize M*2^(i-min i (-((1074:Nat):Int))).toNat=p at *
    clear H0 H1;omega
end Go.Mv

namespace Go.Proofs.YteggfecbjgbndaaGreatDoor
open Go.RowKit Go.Mv
theorem zqD (x:Nat) (s:Bool) (M b:Nat) (hr:P0.read x=.number s M (-(b:Int))) (hn:M / 2^b<10007) (w:World):Calls C 306 #[.float .f64 x] w fun e w'=>e=.returned (.float .f64 (fb s (M / 2^b)))∧w=w':=by
 have h:=zlp x s M _ hr w;rw[zeT] at h
 have h2:P0.write (.number s (M / 2^b) 0)=fb s (M / 2^b):=zc8 s ⟨0,rfl,by simp⟩ (by omega)
 rw[h2] at h
 go_enter Tryz.func306,Tryz.ntmps306
 go_wp2
 go_ret
 exact ⟨rfl,rfl⟩
theorem zoO (x:Nat) (w:World):Calls C 305 #[.float .f64 x] w fun e w'=>e=.returned (G (zax x).isSome)∧w=w':=by
 have key:=zjT x;unfold ge0 ltR at key
 rcases key with ⟨h1,h2⟩ | ⟨h1,h2,h3⟩ | ⟨h1,h2,s,M,b,hr,hs,hn,hp⟩
 ·rw[h2]
  go_enter Tryz.func305,Tryz.ntmps305
  go_wp2_with fail;go_ret
  exact ⟨rfl,rfl⟩
 ·rw[h3]
  go_enter Tryz.func305,Tryz.ntmps305
  go_wp2_with fail;go_ret
  exact ⟨rfl,rfl⟩
 ·have ho:=ziO x s s M b hr hs hs hn
  have Hg:(zax x).isSome=decide (M % 2^b=0):=by rw[hp];split <;> simp_all
  have hT:=F (fun w=>zqD x s M b hr hn w)
  rw[Hg,←ho];clear Hg ho hp hr hs hn
  go_enter Tryz.func305,Tryz.ntmps305
  go_wp2_with (go_at_call 306;refine (hT.out _).mono ?_;rintro e w' ⟨rfl,rfl⟩)
  go_ret
  exact ⟨rfl,rfl⟩
theorem zka (a b:Nat) (w:World):Calls C 302 #[.complex .f64 a b] w fun e w'=>e=.returned (G ((zax a).isSome&&(zax b).isSome))∧w=w':=by
 cases ha:(zax a).isSome
 all_goals
  go_enter Tryz.func302,Tryz.ntmps302
  go_wp2_with (go_at_call 305;refine (zoO _ _).mono ?_;rintro e w' ⟨rfl,rfl⟩)
  go_ret
  exact ⟨rfl,rfl⟩
def zlB (x:Nat) (w:World) (e:Ending) (w':World):Prop:=∃ n:Int,e=.returned (.tuple #[.int .i64 n,G (zax x).isSome])∧(∀ m,zax x=D m→n=m)∧w=w'
theorem zhg (x:Nat) (w:World):Calls C 283 #[.float .f64 x] w (zlB x w):=by
 have key:=zjT x;unfold ge0 ltR at key
 rcases key with ⟨h1,h2⟩ | ⟨h1,h2,h3⟩ | ⟨h1,h2,s,M,b,hr,hs,hn,hp⟩
 ·unfold zlB
  rw[h2]
  go_enter Tryz.func283,Tryz.ntmps283
  go_wp2_with fail
  go_ret2
  exact ⟨0,rfl,(fun m h=>by cases h),rfl⟩
 ·unfold zlB
  rw[h3]
  go_enter Tryz.func283,Tryz.ntmps283
  go_wp2_with fail
  go_ret2
  exact ⟨0,rfl,(fun m h=>by cases h),rfl⟩
 ·have ho:=ziO x s false M b hr hs (fun h=>by cases h) hn
  have Hg:(zax x).isSome=decide (M % 2^b=0):=by rw[hp];split <;> simp_all
  have HM:∀ m,zax x=D m→((M / 2^b:Nat):Int)=m:=by
   intro m hm;rw[hp] at hm;split at hm <;> cases hm;rfl
  have hi:floatToIntVal .f64 x .i64=D ((M / 2^b:Nat):Int):=by
   unfold floatToIntVal P3
   rw[show P2.format=P0 from rfl,hr]
   unfold Q0;rw[zeT]
   have K6:s=true→M / 2^b=0:=fun h=>by rw[hs h];simp
   clear hp ho Hg HM hr hs
   generalize M / 2^b=n at *
   have e:P1 s (n) 0=(n:Int):=by
    rw[zbk,Ph,Pm]
    cases s
    ·rfl
    ·rw[K6 rfl];unfold zak;simp
   dsimp only;rw[e]
   have:Pn.min≤(n:Int)∧(n:Int)≤Pn.max:=by
    rw[show Pn.min = -9223372036854775808 from rfl,show Pn.max=9223372036854775807 from rfl];omega
   simp only[this,and_self,if_true]
  have Kk:=run_convert_float_int (P:=C) w 320 3 .f64 .i64 x _ (by kernel_rfl) Tryz.underlying3 hi;have Kv:=zf1 (M / 2^b) (by omega);have HX:=F HM;unfold zlB;rw[Hg,←ho];clear Hg ho hp hr hs hi HM
  generalize M / 2^b=n at *
  go_enter Tryz.func283,Tryz.ntmps283
  go_wp2_with fail
  go_ret2
  exact ⟨n,rfl,HX.out,rfl⟩
theorem zll (a b:Nat) (w:World):Calls C 266 #[.complex .f64 a b] w fun e w'=>e=.returned (G ((zax a).isSome&&(zax b).isSome))∧w=w':=by
 cases ha:(zax a).isSome
 all_goals
  go_enter Tryz.func266,Tryz.ntmps266
  go_wp2_with (go_at_call 283;refine (zhg _ _).mono ?_;rintro e w' ⟨n1,rfl,_,rfl⟩)
  go_ret
  exact ⟨rfl,rfl⟩
end Go.Proofs.YteggfecbjgbndaaGreatDoor

namespace Go.Mv
open Go.RowKit
def zcc (p:Nat×Nat) (b:UInt8):Nat×Nat:=((3*p.1+50035-5*p.2+b.toNat+1) % 10007,(5*p.1+3*p.2) % 10007)
def PtV (v:Value) (p:Nat×Nat):Prop:=∃ a b,v=.complex .f64 a b∧zax a=D p.1∧zax b=D p.2
theorem zhi {x n:Nat} {s:Bool} (h:Fl x s n) (hn:n<10007) (hs:s=true→n=0):zax x=D n:=by
 obtain ⟨b,hb⟩:=zdC h;have hp:=P4 b;unfold zax;rw[hb];simp only[Pq,Ps,Pb _ hp,Nat.mul_mod_left];rw[if_pos]
 refine ⟨by omega,?_,hn,by trivial⟩
 cases s
 ·exact .inl rfl
 ·right;rw[hs rfl];simp
theorem zit (s:Bool) (n:Nat) (hn:n<10007) (hs:s=true→n=0):zax (fb s n)=D n:=zhi (zav s n (by omega)) hn hs
theorem ziw {s:Bool} {n:Nat} (hs:s=true→n=0) (k:Nat):zak s (n*k)=((n*k:Nat):Int):=by
 cases s
 ·rfl
 ·rw[hs rfl];unfold zak;simp
theorem zhm (z:Int) (h:Bool):zak (if z=0 then h else decide (z<0)) z.natAbs=z:=by
 unfold zak
 by_cases h0:z=0
 ·subst h0;simp
 ·rw[if_neg h0]
  by_cases h1:z<0
  ·rw[decide_eq_true h1];simp;omega
  ·rw[decide_eq_false h1];simp;omega
theorem zsX {a b x y:Nat} (hx:x<10007) (hy:y<10007) {s t:Bool} (hs:s=true→x=0) (ht:t=true→y=0) (ha:Fl a s x) (hb:Fl b t y) (B:Nat) (hB:B<256) :
  ∃ R I σ τ,cMulBits a b 4613937818241073152 4617315517961601024=D (R,I) ∧
   cSumBits .add .f64 R I (fb false (B+1)) 0=D (fb σ ((3:Int)*x-5*y+B+1).natAbs,fb τ (5*x+3*y))∧zak σ ((3:Int)*x-5*y+B+1).natAbs=(3:Int)*x-5*y+B+1∧zak τ (5*x+3*y)=((5*x+3*y:Nat):Int):=by
 have h3:Fl 4613937818241073152 false 3:=by have:=zav false 3 (by decide);rwa [show fb false 3=4613937818241073152 from by decide] at this
 have h5:Fl 4617315517961601024 false 5:=by have:=zav false 5 (by decide);rwa [show fb false 5=4617315517961601024 from by decide] at this
 have m1:=zeN ha h3 (by omega);have m2:=zeN hb h5 (by omega);have m3:=zeN ha h5 (by omega);have m4:=zeN hb h3 (by omega);rw[Py] at m1 m2 m3 m4;have v1:=ziw hs 3;have v2:=ziw ht 5;have v3:=ziw hs 5;have v4:=ziw ht 3;have r1:=zk1 (zav s (x*3) (by omega)) (zav t (y*5) (by omega)) (by rw[v1,v2];omega);have i1:=zeQ (zav s (x*5) (by omega)) (zav t (y*3) (by omega)) (by rw[v3,v4];omega);rw[v1,v2] at r1;rw[v3,v4] at i1
 have e1:(((x*3:Nat):Int)-((y*5:Nat):Int))=3*(x:Int)-5*y:=by omega
 have e2:(((x*5:Nat):Int)+((y*3:Nat):Int))=((5*x+3*y:Nat):Int):=by omega
 rw[e1] at r1;rw[e2] at i1
 generalize hσ:(if (3*(x:Int)-5*y)=0 then s && !t else decide (3*(x:Int)-5*y<0)) = σ1 at r1
 generalize hτ:(if (((5*x+3*y:Nat):Int))=0 then s&&t else decide (((5*x+3*y:Nat):Int)<0)) = τ1 at i1
 have w1:zak σ1 (3*(x:Int)-5*y).natAbs=3*(x:Int)-5*y:=by rw[←hσ];exact zhm _ _
 have w2:zak τ1 (((5*x+3*y:Nat):Int)).natAbs=((5*x+3*y:Nat):Int):=by rw[←hτ];exact zhm _ _
 have r2:=zeQ (zav σ1 (3*(x:Int)-5*y).natAbs (by omega)) (zav false (B+1) (by omega)) (by rw[w1];unfold zak;simp;omega);have i2:=zeQ (zav τ1 (((5*x+3*y:Nat):Int)).natAbs (by omega)) zdD (by rw[w2];unfold zak;simp;omega);rw[w1] at r2;rw[w2] at i2
 have e3:(3*(x:Int)-5*y+zak false (B+1))=3*(x:Int)-5*y+B+1:=by unfold zak;simp;omega
 have e4:(((5*x+3*y:Nat):Int)+zak false 0)=((5*x+3*y:Nat):Int):=by unfold zak;simp
 rw[e3] at r2;rw[e4] at i2
 generalize hσ2:(if (3*(x:Int)-5*y+B+1)=0 then σ1&&false else decide (3*(x:Int)-5*y+B+1<0)) = σ2 at r2
 generalize hτ2:(if (((5*x+3*y:Nat):Int))=0 then τ1&&false else decide (((5*x+3*y:Nat):Int)<0)) = τ2 at i2
 have w3:zak σ2 (3*(x:Int)-5*y+B+1).natAbs=3*(x:Int)-5*y+B+1:=by rw[←hσ2];exact zhm _ _
 have w4:zak τ2 (((5*x+3*y:Nat):Int)).natAbs=((5*x+3*y:Nat):Int):=by rw[←hτ2];exact zhm _ _
 simp only[Pp] at i1 i2 w4
 refine ⟨fb σ1 (3*(x:Int)-5*y).natAbs,fb τ1 (5*x+3*y),σ2,τ2,?_,?_,w3,w4⟩
 ·unfold cMulBits floatBits
  simp only[show P2.format=P0 from rfl,m1,m2,m3,m4,r1,i1,Option.bind_some]
 ·unfold cSumBits floatBits
  simp only[show P2.format=P0 from rfl,r2,i2,Option.bind_some]
theorem zqb (z:Int) (h1:-100000<z) (h2:z<100000):(wrap64 (z.tmod 10007+10007)).tmod 10007=z % 10007:=by
 have key:z.tmod 10007=if 0≤z then z % 10007 else -((-z) % 10007):=by
  split
  ·rename_i h;exact Po h
  ·rename_i h
   have:=Int.neg_tmod (a:=-z) (b:=10007)
   rw[Pq] at this;rw[this,Po (by omega)]
 have hw:wrap64 (z.tmod 10007+10007)=z.tmod 10007+10007:=by
  rw[key];unfold wrap64;split <;> omega
 rw[hw,Po (by rw[key];split <;> omega),key]
 split <;> omega
end Go.Mv
namespace Go.Proofs.YteggfecbjgbndaaGreatDoor
open Go.RowKit Go.Mv
def zur (s:Bool) (n:Nat) (w:World) (e:Ending) (w':World):Prop:=∃ r,e=.returned (.float .f64 r)∧zax r=D ((zak s n) % 10007).toNat∧w=w'
theorem zqv (s:Bool) (n:Nat) (hn:n<131072) (w:World):Calls C 308 #[.float .f64 (fb s n)] w (zur s n w):=by
 have hc:fb false 10007=4666727020758040576:=by decide
 have H1:(P2.format.order (fb s (n % 10007)) 0==D .lt)=decide (zak s (n % 10007)<0):=by
  show (P0.order _ _==_)=_
  rw[zdt (zav s _ (by omega)) zdD,zeL];rfl
 have hM:=F (fun w=>ztA s n hn w)
 by_cases h:s=true∧0<n % 10007
 ·obtain ⟨rfl,h0⟩:=h
  have hs:=zeQ (zav true (n % 10007) (by omega)) (zav false 10007 (by decide)) (by unfold zak;simp;omega)
  have e:zak true (n % 10007)+zak false 10007=((10007-n % 10007:Nat):Int):=by unfold zak;simp;omega
  rw[e,Pp,if_neg (by omega),hc,show decide (((10007-n % 10007:Nat):Int)<0)=false from by simp] at hs
  have ha:=run_float_arith (P:=C) w .add 320 .f64 (fb true (n % 10007)) 4666727020758040576 _ hs
  have ht:decide (zak true (n % 10007)<0)=true:=by unfold zak;simp;omega
  rw[ht] at H1
  have hr:zax (fb false (10007-n % 10007))=D ((zak true n) % 10007).toNat:=by
   rw[zit false _ (by omega) (fun h=>by cases h)]
   congr 1;unfold zak;simp only[if_true];omega
  have Hr:=F hr;clear hr hs e ht
  go_enter Tryz.func308,Tryz.ntmps308
  go_wp2_with (go_at_call 309;refine (hM.out _).mono ?_;rintro e w' ⟨rfl,rfl⟩)
  go_ret
  exact ⟨_,rfl,Hr.out,rfl⟩
 ·have ht:decide (zak s (n % 10007)<0)=false:=by
   unfold zak;cases s
   ·simp;omega
   ·simp at h ⊢;omega
  rw[ht] at H1
  have hr:zax (fb s (n % 10007))=D ((zak s n) % 10007).toNat:=by
   rw[zit s _ (by omega) (fun hs=>by by_cases h0:0<n % 10007;exact absurd ⟨hs,h0⟩ h;omega)]
   congr 1;unfold zak;cases s
   ·simp only[Pv,if_false];omega
   ·simp only[if_true];simp at h;omega
  have Hr:=F hr;clear hr ht h
  go_enter Tryz.func308,Tryz.ntmps308
  go_wp2_with (go_at_call 309;refine (hM.out _).mono ?_;rintro e w' ⟨rfl,rfl⟩)
  go_ret
  exact ⟨_,rfl,Hr.out,rfl⟩
def zts (p:Nat×Nat) (w:World) (e:Ending) (w':World):Prop:=∃ v,e=.returned v∧PtV v p∧w=w'
theorem zlL (v:Value) (p:Nat×Nat) (hv:PtV v p) (c:UInt8) (w:World):Calls C 304 #[v,E .u8 c.toNat] w (zts (zcc p c) w):=by
 obtain ⟨a,b,rfl,ha,hb⟩:=hv;obtain ⟨x,y⟩:=p;obtain ⟨hx,s,hs,Hj⟩:=zcV ha;obtain ⟨hy,t,ht,Hl⟩:=zcV hb;dsimp only at ha hb hx hy hs ht Hj Hl;have hB:=c.toNat_lt;obtain ⟨R,I,σ,τ,Hs,Hz,hσ,hτ⟩:=zsX hx hy hs ht Hj Hl c.toNat hB;have k1:=run_complex_mul (P:=C) w 212 _ _ _ _ _ _ Hs;have k2:=run_complex_sum (P:=C) w .add (.inl rfl) 212 .f64 _ _ _ _ _ _ Hz;have ho:=zf1 c.toNat (by omega)
 have Hv:P0.add (fb false c.toNat) 4607182418800017408=D (fb false (c.toNat+1)):=by
  have:=zeQ (zav false c.toNat (by omega)) (zav false 1 (by decide)) (by unfold zak;simp;omega)
  have e:zak false c.toNat+zak false 1=((c.toNat+1:Nat):Int):=by unfold zak;simp
  rw[e,Pp,if_neg (by omega),show decide (((c.toNat+1:Nat):Int)<0)=false from by simp;omega,show fb false 1=4607182418800017408 from by decide] at this
  exact this
 have k3:=run_float_arith (P:=C) w .add 320 .f64 (fb false c.toNat) 4607182418800017408 _ Hv
 have Kt:((3:Int)*x-5*y+c.toNat+1).natAbs<131072:=by omega
 have Ku:5*x+3*y<131072:=by omega
 have hR:Hid (((zak σ ((3:Int)*x-5*y+c.toNat+1).natAbs) % 10007).toNat=(zcc (x,y) c).1):=by
  show _=_
  rw[hσ];unfold zcc;simp only[];omega
 have hI:Hid (((zak τ (5*x+3*y)) % 10007).toNat=(zcc (x,y) c).2):=by
  show _=_
  rw[hτ];unfold zcc;simp only[];omega
 clear Hs Hz hσ hτ Hv Hj Hl hs ht
 generalize ((3:Int)*x-5*y+c.toNat+1).natAbs=n1 at *
 generalize 5*x+3*y=n2 at *
 generalize c.toNat=B at *
 have H5:((zax a).isSome&&(zax b).isSome)=true:=by rw[ha,hb];rfl
 have hG:=F (fun w=>zka a b w)
 rw[H5] at hG;clear ha hb H5
 go_enter Tryz.func304,Tryz.ntmps304
 go_wp2_with (first
  | (go_at_call 302;refine (hG.out _).mono ?_;rintro e w' ⟨rfl,rfl⟩)
  | (go_at_call 308;refine (zqv _ _ (by assumption) _).mono ?_;rintro e w' ⟨r,rfl,hr,rfl⟩))
 go_ret
 refine ⟨_,rfl,⟨_,_,rfl,?_,?_⟩,rfl⟩
 ·rw[←hR.out];assumption
 ·rw[←hI.out];assumption
theorem zou (x n:Nat) (h:zax x=D n) (w:World):Calls C 283 #[.float .f64 x] w fun e w'=>e=.returned (.tuple #[.int .i64 n,G true])∧w=w':=by
 refine (zhg x w).mono ?_
 rintro e w' ⟨m,rfl,hn,rfl⟩
 exact ⟨by rw[hn n h,h];rfl,rfl⟩
theorem znW (v:Value) (p:Nat×Nat) (hv:PtV v p) (c:UInt8) (w:World):Calls C 267 #[v,E .u8 c.toNat] w (zts (zcc p c) w):=by
 obtain ⟨a,b,rfl,ha,hb⟩:=hv;obtain ⟨x,y⟩:=p;obtain ⟨hx,s,hs,Hj⟩:=zcV ha;obtain ⟨hy,t,ht,Hl⟩:=zcV hb;dsimp only at ha hb hx hy;have hB:=c.toNat_lt;have K3:=F (zf1 (zcc (x,y) c).1 (by unfold zcc;simp only[];omega));have K4:=F (zf1 (zcc (x,y) c).2 (by unfold zcc;simp only[];omega));clear Hj Hl hs ht
 go_enter Tryz.func267,Tryz.ntmps267
 go_wp2_with (go_at_call 283;refine (zou _ _ (by assumption) _).mono ?_;rintro e w' ⟨rfl,rfl⟩)
 go_ret
 have e1:(wrap64 ((3*(x:Int)-5*y+c.toNat+1).tmod 10007+10007)).tmod 10007=((zcc (x,y) c).1:Int):=by
  rw[zqb _ (by omega) (by omega)]
  unfold zcc;simp only[];omega
 have e2:((5*(x:Int)+3*y) % 10007)=((zcc (x,y) c).2:Int):=by unfold zcc;simp only[];omega
 refine ⟨.complex .f64 (fb false (zcc (x,y) c).1) (fb false (zcc (x,y) c).2),?_,⟨_,_,rfl,zit _ _ ?_ ?_,zit _ _ ?_ ?_⟩,rfl⟩
 ·rw[←K3.out,←K4.out,←e1,←e2];rfl
 ·unfold zcc;simp only[];omega
 ·exact fun h=>by cases h
 ·unfold zcc;simp only[];omega
 ·exact fun h=>by cases h
end Go.Proofs.YteggfecbjgbndaaGreatDoor

namespace Go.Mv
open Go.RowKit
theorem mcFoura0 {P:Prop} (h:P:=by
 go_enter Tryz.func298,Tryz.ntmps298
 go_wp2_with (go_at_call 302;refine (hG.out _).mono ?_;rintro e w' ⟨rfl,rfl⟩)
 refine bodyPost_ret (results_cell_row rfl _ _ _ 188 _ _ _ rfl (heap_alloc_new _ _) Tryz.underlying188 rfl (by kernel_rfl)) rfl ⟨rfl,xA (xR _) _⟩):P:=h
theorem mcFoura1 {P:Prop} (h:P:=by
 go_wp2_with (go_at_call 283;refine (zhg _ _).mono ?_;rintro e w' ⟨n,rfl,_,rfl⟩)
 refine bodyPost_ret (results_cell_row rfl _ _ _ 188 _ _ _ rfl (heap_alloc_new _ _) Tryz.underlying188 rfl (by kernel_rfl)) rfl ⟨rfl,xA (xR _) _⟩):P:=h
theorem zq0 {a x:Nat} (h:zax a=D x):floatToIntVal .f64 a .i64=D (x:Int):=by
 obtain ⟨hx,s,hs,hf⟩:=zcV h;obtain ⟨b,hb⟩:=zdC hf;unfold floatToIntVal P3
 rw[show P2.format=P0 from rfl,hb]
 unfold Q0;rw[zeT,Pb _ (P4 b)]
 have e:P1 s x 0=(x:Int):=by
  rw[zbk,Ph,Pm]
  cases s
  ·rfl
  ·rw[hs rfl];unfold zak;simp
 dsimp only;rw[e]
 have:Pn.min≤(x:Int)∧(x:Int)≤Pn.max:=by
  rw[show Pn.min = -9223372036854775808 from rfl,show Pn.max=9223372036854775807 from rfl];omega
 simp only[this,and_self,if_true]
def zaT (p:Nat×Nat):List UInt8:=[Q3 (p.1 / 256),Q3 p.1,Q3 (p.2 / 256),Q3 p.2]
def ptV (v:Value):Nat×Nat :=
 match v with
 | .complex .f64 a b=>match zax a,zax b with
  | some x,some y=>(x,y)
  | _,_=>(0,0)
 | _=>(0,0)
end Go.Mv
namespace Go.Proofs.YteggfecbjgbndaaGreatDoor
open Go.RowKit Go.Mv
def zgN (v:Value) (w:World) (e:Ending) (w':World):Prop:=e=.returned (.agg ((zaT (ptV v)).map bv).toArray)∧Ext w w'
theorem zoj {a b x y:Nat} (ha:zax a=D x) (hb:zax b=D y):(zaT (ptV (.complex .f64 a b))).map bv=[E .u8 ((x:Int) / 256),E .u8 ((x:Int) % 256),E .u8 ((y:Int) / 256),E .u8 ((y:Int) % 256)]:=by
 have hx:=(zcV ha).1;have hy:=(zcV hb).1
 have e:ptV (.complex .f64 a b)=(x,y):=by unfold ptV;simp only[ha,hb]
 rw[e]
 simp[zaT,bv]
 omega
theorem zoi {a b:Nat} (h:((zax a).isSome&&(zax b).isSome)=false):(zaT (ptV (.complex .f64 a b))).map bv=[E .u8 0,E .u8 0,E .u8 0,E .u8 0]:=by
 have e:ptV (.complex .f64 a b)=(0,0):=by
  unfold ptV
  cases ha:zax a <;> cases hb:zax b <;> simp_all
 rw[e]
 simp[zaT,bv]
theorem zr4 (a b:Nat) (w:World):Calls C 298 #[.complex .f64 a b] w (zgN (.complex .f64 a b) w):=by
 have hG:=F (fun w=>zka a b w)
 cases H5:((zax a).isSome&&(zax b).isSome)
 ·have hf:=zoi H5
  unfold zgN;rw[hf];rw[H5] at hG;clear H5 hf
  exact mcFoura0
 ·obtain ⟨x,ha⟩:∃ x,zax a=D x:=by cases h:zax a <;> simp_all
  obtain ⟨y,hb⟩:∃ y,zax b=D y:=by cases h:zax b <;> simp_all
  have hf:=zoj ha hb;have hx:=(zcV ha).1;have hy:=(zcV hb).1;unfold zgN;rw[hf];rw[H5] at hG
  have i1:=fun w=>run_convert_float_int (P:=C) w 320 3 .f64 .i64 a _ (by kernel_rfl) Tryz.underlying3 (zq0 ha)
  have i2:=fun w=>run_convert_float_int (P:=C) w 320 3 .f64 .i64 b _ (by kernel_rfl) Tryz.underlying3 (zq0 hb)
  clear H5 ha hb hf
  exact mcFoura0
theorem zgm (a b:Nat) (w:World):Calls C 249 #[.complex .f64 a b] w (zgN (.complex .f64 a b) w):=by
 by_cases H5:((zax a).isSome&&(zax b).isSome)=true
 ·obtain ⟨x,ha⟩:∃ x,zax a=D x:=by cases h:zax a <;> simp_all
  obtain ⟨y,hb⟩:∃ y,zax b=D y:=by cases h:zax b <;> simp_all
  have hf:=zoj ha hb;have hx:=(zcV ha).1;have hy:=(zcV hb).1;unfold zgN;rw[hf];clear H5 hf
  go_enter Tryz.func249,Tryz.ntmps249
  go_wp2_with (go_at_call 283;refine (zou _ _ (by assumption) _).mono ?_;rintro e w' ⟨rfl,rfl⟩)
  refine bodyPost_ret (results_cell_row rfl _ _ _ 188 _ _ _ rfl (heap_alloc_new _ _) Tryz.underlying188 rfl (by kernel_rfl)) rfl ⟨rfl,xA (xR _) _⟩
 ·have Ht:((zax a).isSome&&(zax b).isSome)=false:=by simpa using H5
  have hf:=zoi Ht;unfold zgN;rw[hf];clear hf H5
  cases ha:(zax a).isSome
  ·go_enter Tryz.func249,Tryz.ntmps249
   exact mcFoura1
  ·rw[ha,Bool.true_and] at Ht
   go_enter Tryz.func249,Tryz.ntmps249
   exact mcFoura1
theorem zem (va vb:Value) (a b:List UInt8) (w:World) (ha:Bs w va a) (hb:Bs w vb b) :
  Calls C 81 #[va,vb] w fun e w'=>e=.returned (G (decide (a=b)))∧w=w':=by
 obtain ⟨A,ca,rfl,h1,h2⟩:=xO ha;obtain ⟨B,cb,rfl,h3,h4⟩:=xO hb;have Ki:=zaE (P:=C) w 33 9 5 Tryz.underlying33 Tryz.underlying5 Tryz.underlying9 ha;have Kj:=zaE (P:=C) w 33 9 5 Tryz.underlying33 Tryz.underlying5 Tryz.underlying9 hb
 go_enter Tryz.func81,Tryz.ntmps81
 go_wp2
 go_ret
 exact ⟨ret_bool (by rw[Pu];simp),rfl⟩
def Parts (w:World) (v:Value) (bss:List (List UInt8)):Prop:=∃ vs:List Value,vs.length=bss.length∧SlR w 1 v bss.length vs∧∀ i (h:i<vs.length) (h':i<bss.length),Bs w vs[i] bss[i]
theorem Parts.ext {w w':World} {v:Value} {bss:List (List UInt8)} (h:Parts w v bss) (he:Ext w w'):Parts w' v bss:=by
 obtain ⟨vs,hl,h1,h2⟩:=h
 exact ⟨vs,hl,h1.ext he,fun i hi K2=>(h2 i hi K2).ext he⟩
theorem zfW (bss:List (List UInt8)) (k:Nat) (h:k<bss.length):(bss.take (k+1)).flatten=(bss.take k).flatten++bss[k]:=by
 rw[List.take_succ_eq_append_getElem h,Q6,List.flatten_cons,List.flatten_nil,List.append_nil]
theorem zhN (bss:List (List UInt8)) (k:Nat):(bss.take k).flatten.length≤bss.flatten.length:=by
 conv=>rhs;rw[←List.take_append_drop k bss,Q6]
 simp
theorem zjn (v:Value) (bss:List (List UInt8)) (w:World) (h:Parts w v bss) (hl:bss.flatten.length≤70368744177664) :
  Calls C 239 #[v] w (zhx w bss.flatten):=by
 obtain ⟨vs,HT,HO,HU⟩:=h;obtain ⟨A,c,rfl,h1,h2⟩:=xO HO;obtain ⟨i0,hi,Kb,Kc,Kd⟩:=info_parts zb0;have Kf:=F HT
 have Kw:vs.length≤bss.length:=by omega
 have Kx:bss.length≤vs.length:=by omega
 clear HT
 go_enter Tryz.func239,Tryz.ntmps239
 go_wp2_with fail
 go_loop [3,11] (fun sz i=>∃ k m:Nat,k≤bss.length∧i=.int .i64 k∧sz=.int .i64 m∧Hid (m=(bss.take k).flatten.length)) (fun _ i=>bss.length-(intOf i).toNat)
 case atStart=>exact ⟨0,0,Pj _,rfl,rfl,rfl⟩
 case round =>
  obtain ⟨k,m,hk,rfl,rfl,Hm⟩:=hrel
  by_cases H1:k<bss.length
  ·obtain ⟨_,b,Ke,rfl,hc⟩:=SlR.at_ HO (by omega)
   have Hp:k<vs.length:=by omega
   have HG:=hc k vs[k] (Q4 Hp);obtain ⟨A',c',HA,h3,h4⟩:=xO (HU k Hp H1);rw[HA] at HG;have HB:=zhN bss (k+1);have He:=zfW bss k H1;rw[He,xL,←Hm.out] at HB;have HD:=F He
   generalize hq:bss.flatten.length=q at HB hl
   clear hc HA He hq;go_wp2_with fail
   go_round
   case rel=>exact ⟨k+1,m+bss[k].length,by omega,by go_num,by go_num,by show _=_;rw[HD.out,xL,←Hm.out]⟩
   case measure=>simp[intOf];omega
  ·have hm:=Hm.out
   rw[Q5 (by omega)] at hm
   have HR:m≤70368744177664:=by omega
   clear hm
   go_wp2_with (go_at_call 281;refine (zr5 _ _ (by omega)).mono ?_;rintro e w1 ⟨v1,rfl,Hx,HZ⟩)
   go_loopw [6,27] (fun ns i wr=>∃ k:Nat,k≤bss.length∧i=.int .i64 k∧wr.ownsRow w.heap.size 5 1 ns (bss.take k).flatten.length ((bss.take k).flatten.map bv)∧Ext w wr) (fun _ i _=>bss.length-(intOf i).toNat)
   case atStart=>exact ⟨0,Pj _,rfl,Hx,HZ⟩
   case round =>
    obtain ⟨k,hk,rfl,H2,hE⟩:=hrel
    by_cases H1:k<bss.length
    ·obtain ⟨_,b,Ke,rfl,hc⟩:=SlR.at_ (SlR.ext HO hE) (by omega)
     have Hp:k<vs.length:=by omega
     have HG:=hc k vs[k] (Q4 Hp);have HF:=(HU k Hp H1).ext hE;obtain ⟨A',c',HA,h3,h4⟩:=xO HF;rw[HA] at HG HF;have HB:=zhN bss (k+1);have He:=zfW bss k H1;rw[He,xL] at HB;have HD:=F He;clear hc HA He
     go_wp2_with (at_builtin;refine zaC _ rfl (.tmp 31) (.tmp 32) 33 rfl w.heap.size 5 i0 (E .u8 0) 1 1 Tryz.underlying33 hi Kb Kc Kd rfl (by decide) _ _ _ rfl H2 _ bss[k].length (bss[k].map bv) rfl HF (zbI _) (by unfold maxLen;omega) (by omega) hE.size ?_;intro v' w1 Hw Ho)
     go_roundw
     case rel =>
      refine ⟨k+1,by omega,by go_num,?_,Ext.grownOwn hE H2 Ho⟩
      rw[HD.out]
      simpa using Hw
     case measure=>simp[intOf];omega
    ·have HQ:bss.take k=bss:=Q5 (by omega)
     rw[HQ] at H2;clear HQ;go_wp2_with fail;go_ret
     exact ⟨_,rfl,H2,hE⟩
end Go.Proofs.YteggfecbjgbndaaGreatDoor

namespace Go.Mv
open Go.RowKit
theorem zd7 {P:Program} (w:World) (base:Nat) (t ty e:TypeId) (i:TypeInfo) (z:Value) (size bytes:Nat) (ht:P.underlying t=D (.slice e)) (hi:P.info? e=D i) (hz:i.zero=D z)
  (Hy:i.size=size) (K1:i.bytes=bytes)
  (v:Value) (n:Nat) (xs:List Value) (H2:w.ownsRow base e size v n xs)
  (a:Addr) (m c:Nat) (news:List Value) (hl:news.length=m*size) (hm:0<m) (H9:∀ j u,news[j]?=D u→w.cell? (a.add j)=D u) (h1:∀ u∈news,u.oneCell'=true)
  (HY:n+m≤maxLen) (H7:(n+m)*bytes≤140737488355328) {v':Value} {w':World} (H4:(Builtin.append_ #[t,t] ty #[v,.slice (some a) m c]).run P w=.ok v' w'):v'.ownBlock=v.ownBlock∨v'.ownBlock=D w.heap.size:=by
 subst Hy;subst K1
 have HP:n+m≤9223372036854775807:=by simp only[maxLen] at HY;omega
 rcases H2.2 with ⟨rfl,rfl⟩ | ⟨g,cap,cur,rfl,hbg,hg,hnc,hcm,hcs,htake⟩
 ·have hr:=run_append_nil (P:=P) w t ty e i z ht hi hz a m c news hl H9 (by omega) (by omega) (by have hb:=H7;simp only[Nat.zero_add] at hb;omega)
  rw[hr] at H4
  cases H4
  exact .inr rfl
 ·by_cases hroom:n+m≤cap
  ·have HH:n*i.size+news.length≤cur.size:=by rw[hl,hcs,←Nat.add_mul];exact Nat.mul_le_mul_right _ hroom
   have hr:=run_append_room (P:=P) w t ty e i ht hi g n cap cur hg a m c news hl H9 h1 hroom HH;rw[hr] at H4
   cases H4
   exact .inl rfl
  ·have Hu:∀ j u,xs[j]?=D u→w.cell? ((⟨g,0,none⟩:Addr).add j)=D u:=H2.cells (g:=g) rfl
   have hr:=run_append_grow (P:=P) w t ty e i z ht hi hz ⟨g,0,none⟩ n cap xs H2.1 Hu a m c news hl H9 (by omega) (by omega) (growslice_fits (by omega) H7);rw[hr] at H4
   cases H4
   exact .inr rfl
end Go.Mv
