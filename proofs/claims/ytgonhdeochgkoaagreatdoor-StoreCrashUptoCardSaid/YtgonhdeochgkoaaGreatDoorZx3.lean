/- Merged -/
import Derived.Test.YtgonhdeochgkoaaGreatDoorZx2
set_option linter.all false
set_option maxHeartbeats 8000000
set_option maxRecDepth 100000
open Ieee renaming double→P0
open Go.FloatKind renaming f64→P1,decode→P2
open Nat renaming two_pow_pos→P3,pow_le_pow_right→P4,lt_log2_self→P5,zero_mul→P6,testBit_lt_two_pow→P7,add_zero→P8,mul_right_comm→P9,mul_div_cancel→Pa,lt_of_lt_of_le→Pb,lt_trichotomy→Pc,mod_eq_of_lt→Pd,div_eq_of_lt→Pe,div_add_mod→Pf,mul_comm→Pg,zero_le→Ph,one_mul→Pi,mul_pos→Pj
open Bool renaming eq_iff_iff→Pk,false_eq_true→Pl,or_eq_false_iff→Pm,or_eq_true→Pn,xor_false→Po
open Ieee.Datum renaming order→Pp,toInt→Pq,number→Pr,integral→Ps
open Int renaming natAbs_natCast→Pt,natCast_nonneg→Pu,toNat_natCast→Pv,neg_neg→Pw
open Go.IntKind renaming i64→Px
open UInt8 renaming ofNat→Py
open List renaming getElem?_eq_getElem→Pz,take_of_length_le→Q0,flatten_append→Q1
open Ieee.Format renaming order→Q2,read→Q3
namespace Go.Mv
open Go.RowKit
theorem mcModa0 {P:Prop} (h:P:=by
 go_enter Tryz.func274,Tryz.ntmps274
 go_wp2_with (first
  | (go_at_call 266;refine (hI.out _).mono ?_;rintro e w' ⟨rfl,rfl⟩)
  | (go_at_call 267;refine (hN.out _).mono ?_;rintro e w' ⟨rfl,rfl⟩)
  | (go_at_call 275;refine (hM.out _).mono ?_;rintro e w' ⟨rfl,rfl⟩))
 all_goals (go_ret;exact ⟨rfl,rfl⟩)):P:=h
theorem mcModa1 {P:Prop} (h:P:=by
 have hF:=zhd (fun w=>zeX k (by omega) (by omega) w)
 rw[he] at hF;have K2:=zoQ k (10007*2^q) HK (by omega) w;rw[decide_eq_true h10] at H0
 have Kg:1≤10007*2^q:=by have:=P3 q;omega
 have hm:=zoA (k-10007*2^q) k (by omega) (by omega)
 have H3:(k-10007*2^q) % 10007=n % 10007:=by rw[←Hk.out];exact Nat.sub_mul_mod HK
 have Hm:=zhd hm;have Hz:=zhd H3;clear hm H3 he
 cases t
 all_goals
  simp only[if_true,if_false,Pl] at hF
  go_wp2_with (first
   | (go_at_call 269;refine (hF.out _).mono ?_;rintro e w' ⟨rfl,rfl⟩)
   | (go_at_call 270;refine (zk2 _ q hq (by omega) _).mono ?_;rintro e w' ⟨rfl,rfl⟩))
  go_round
  case rel=>exact ⟨k-10007*2^q,by omega,Hz.out,rfl⟩
  case measure=>exact Hm.out):P:=h
theorem znr (x:Nat) (h:x<9223372036854775808):x ^^^ 2^63=9223372036854775808+x:=by
 rw[show (9223372036854775808:Nat)=2^63 from rfl] at *
 refine Nat.eq_of_testBit_eq fun i=>?_
 rw[Nat.testBit_xor,Nat.testBit_two_pow]
 rcases Pc i 63 with hi | hi | hi
 ·rw[Nat.testBit_two_pow_add_gt hi,show decide (63=i)=false from by simp;omega,Po]
 ·subst hi;rw[Nat.testBit_two_pow_add_eq];simp
 ·have h1:x.testBit i=false:=P7 (Pb h (P4 (by decide) (by omega)))
  have h2:(2^63+x).testBit i=false:=P7 (Pb (by omega:2^63+x<2^64) (P4 (by decide) (by omega)))
  rw[h1,h2,show decide (63=i)=false from by simp;omega];rfl
theorem zuP (s:Bool) (n:Nat) (hn:n<9007199254740992):fb s n ^^^ 2^63=fb (!s) n:=by
 have h:=zdU n hn
 cases s
 ·show zcH n ^^^ _=_;rw[znr _ (by omega)];rfl
 ·show (9223372036854775808+zcH n) ^^^ _=zcH n
  rw[←znr _ (by omega),Nat.xor_assoc,Nat.xor_self,Nat.xor_zero]
theorem zi6 (s:Bool) (n:Nat) (hn:n<9007199254740992):Op.negFloat .f64 (fb s n)=fb (!s) n:=zuP s n hn
theorem zoA (k m:Nat) (h:k<m) (hm:m<9007199254740992):fb false k<fb false m:=by
 show zcH k<zcH m
 obtain ⟨_,HO⟩:=zdU m hm;obtain ⟨Kk,Kl,_⟩:=HO (by omega)
 have e1:zcH m=(m.log2+1022)*4503599627370496+m*2^(52-m.log2):=by unfold zcH;rw[if_neg (by omega)]
 by_cases h0:k=0
 ·subst h0;rw[e1];unfold zcH;simp;omega
 obtain ⟨_,Hf⟩:=zdU k (by omega);obtain ⟨Kh,_,Ki⟩:=Hf h0
 have e2:zcH k=(k.log2+1022)*4503599627370496+k*2^(52-k.log2):=by unfold zcH;rw[if_neg h0]
 rw[e1,e2]
 rcases Pc k.log2 m.log2 with hl | hl | hl
 ·omega
 ·rw[hl]
  have:k*2^(52-m.log2)<m*2^(52-m.log2):=Nat.mul_lt_mul_of_pos_right h (P3 _)
  omega
 ·exfalso
  have a1:m<2^(m.log2+1):=P5
  have a2:2^k.log2≤k:=Nat.log2_self_le h0
  have a3:2^(m.log2+1)≤2^k.log2:=P4 (by decide) hl
  omega
def zpk:Value→Nat
 | .float _ b=>b
 | _=>0
end Go.Mv
namespace Go.Proofs.YtgonhdeochgkoaaGreatDoor
open Go.RowKit Go.Mv
attribute [local go_sem] zgo zet
theorem zli (f:Nat) (hf:f<4503599627370496):P0.read (4602678819172646912+f)=.number false (4503599627370496+f) (-((53:Nat):Int)):=by
 have HH:P0.leastPlace = -1074:=by decide
 have Hc:P0.binade=4503599627370496:=by decide
 have HG:P0.infRung=9218868437227405312:=by decide
 have K4:P0.signWeight=9223372036854775808:=by decide
 unfold Q3;dsimp only
 rw[HH,Hc,HG,K4,show (4602678819172646912+f) % 9223372036854775808=4602678819172646912+f from by omega,if_neg (by omega),if_pos (by omega),
  show (4602678819172646912+f) / 9223372036854775808=0 from by omega,show (4602678819172646912+f) % 4503599627370496=f from by omega,show (4602678819172646912+f) / 4503599627370496=1022 from by omega]
 rfl
theorem zoF (k:Nat) (h1:10007≤k) (h2:k<131072):∃ (t:Bool) (q:Nat),q≤3∧10007*2^q≤k∧(P1.format.order (frB k) (frB 10007)==some .lt)=t∧frE k=14+q+(if t then 1 else 0):=by
 obtain ⟨f,hf,hl,hx,he⟩:=zsM k (by omega) (by omega)
 have e0:frB 10007=4602678819172646912+997806802206720:=by decide
 have e1:frB k=4602678819172646912+f:=by unfold frB;rw[hx];omega
 have e2:frE k=(k.log2:Int)+1:=by unfold frE;rw[hx];omega
 have ho:(P1.format.order (frB k) (frB 10007)==some .lt)=decide (f<997806802206720):=by
  show (P0.order _ _==_)=_
  unfold Q2;rw[e0,e1,zli f hf,zli _ (by decide),zeg,ze4];unfold zam
  simp
  omega
 rw[ho,e2]
 have Kj:13≤k.log2:=(Nat.le_log2 (by omega)).2 (by omega)
 have Kf:k.log2<17:=(Nat.log2_lt (by omega)).2 (by omega)
 have Ha:k.log2=13∨k.log2=14∨k.log2=15∨k.log2=16:=by omega
 have HQ:k<2^(k.log2+1):=P5
 by_cases ht:f<997806802206720
 ·refine ⟨true,k.log2-14,by omega,?_,by simpa using ht,?_⟩
  ·rcases Ha with h | h | h | h <;> rw[h] at he HQ ⊢ <;> omega
  ·have:k.log2≠13:=by intro h;rw[h] at he;omega
   simp;omega
 ·refine ⟨false,k.log2-13,by omega,?_,by simpa using ht,?_⟩
  ·rcases Ha with h | h | h | h <;> rw[h] at he HQ ⊢ <;> omega
  ·simp;omega
theorem zkm (n:Nat) (hn:n<9007199254740992) (w:World):(binOp .mul 280 (.float .f64 4607182418800017408) (.float .f64 (fb false n))).run Tryz.prog w=.ok (.float .f64 (fb false n)) w:=by
 refine run_float_arith w .mul 280 .f64 _ _ _ ?_
 show P0.mul _ _=_
 have:=ze9 (zaw false 1 (by decide)) (zaw false n hn) (by omega)
 rw[Pi] at this
 exact this
theorem zrf (k:Nat) (hk:k≤3) (w:World):Calls Tryz.prog 274 #[.float .f64 (fb false 10007),.int .i64 k] w fun e w'=>e=.returned (.float .f64 (fb false (10007*2^k)))∧w=w':=by
 have hI:=zhd (fun w=>zeY false 10007 (by decide) w)
 have hN:=zhd (fun w=>zda _ false 10007 (zaw false 10007 (by decide)) w)
 have hM:=zhd (fun w=>zhF 10007 (by decide) (by decide) w)
 have hz:=zep false (n:=10007) (by decide) (zaw false 10007 (by decide))
 have hc:fb false 10007=4666727020758040576:=by decide
 rw[hc] at hI hN hM hz ⊢
 have Ke:bits .and .i64 1036 2047=1036:=by decide
 have Kb:bits .andNot .u64 4666727020758040576 9218868437227405312=997806802206720:=by decide
 rcases (by omega:k=0∨k=1∨k=2∨k=3) with rfl | rfl | rfl | rfl
 ·have hm:=zkm (10007*2^0) (by decide) w
  have Hd:fb false (10007*2^0)=4666727020758040576:=by decide
  rw[Hd] at hm ⊢
  have HJ:bits .or .u64 997806802206720 4665729213955833856=4666727020758040576:=by decide
  exact mcModa0
 ·have hm:=zkm (10007*2^1) (by decide) w
  have Hd:fb false (10007*2^1)=4671230620385411072:=by decide
  rw[Hd] at hm ⊢
  have HJ:bits .or .u64 997806802206720 4670232813583204352=4671230620385411072:=by decide
  exact mcModa0
 ·have hm:=zkm (10007*2^2) (by decide) w
  have Hd:fb false (10007*2^2)=4675734220012781568:=by decide
  rw[Hd] at hm ⊢
  have HJ:bits .or .u64 997806802206720 4674736413210574848=4675734220012781568:=by decide
  exact mcModa0
 ·have hm:=zkm (10007*2^3) (by decide) w
  have Hd:fb false (10007*2^3)=4680237819640152064:=by decide
  rw[Hd] at hm ⊢
  have HJ:bits .or .u64 997806802206720 4679240012837945344=4680237819640152064:=by decide
  exact mcModa0
theorem zk2 (e:Int) (k:Nat) (hk:k≤3) (he:e=k) (w:World):Calls Tryz.prog 270 #[.float .f64 4666727020758040576,.int .i64 e] w fun e w'=>e=.returned (.float .f64 (fb false (10007*2^k)))∧w=w':=by
 subst he
 have hM:=zhd (fun w=>zrf k hk w)
 have hc:fb false 10007=4666727020758040576:=by decide
 rw[hc] at hM
 go_enter Tryz.func270,Tryz.ntmps270
 go_wp2_with (go_at_call 274;refine (hM.out _).mono ?_;rintro e w' ⟨rfl,rfl⟩)
 go_ret
 exact ⟨rfl,rfl⟩
theorem zoQ (k m:Nat) (h:m≤k) (hk:k<9007199254740992) (w:World):(binOp .sub 280 (.float .f64 (fb false k)) (.float .f64 (fb false m))).run Tryz.prog w=.ok (.float .f64 (fb false (k-m))) w:=by
 refine run_float_arith w .sub 280 .f64 _ _ _ ?_
 show P0.sub _ _=_
 have:=zlq (zaw false k hk) (zaw false m (by omega)) (by unfold zam;simp;omega)
 rw[this];unfold zam;simp only[Pl,if_false]
 congr 2
 ·split
  ·rfl
  ·simp;omega
 ·omega
theorem zq2 (k:Nat) (hk:k<9007199254740992):(P1.format.order (fb false k) 4666727020758040576==some .gt||P1.format.order (fb false k) 4666727020758040576==some .eq)=decide (10007≤k):=by
 have hc:fb false 10007=4666727020758040576:=by decide
 rw[←hc]
 show (P0.order _ _==_||P0.order _ _==_)=_
 rw[zdE (zaw false k hk) (zaw false 10007 (by decide)),zgA,ze3];unfold zam;rw[Pk]
 simp
 omega
set_option maxRecDepth 100000 in
theorem zuk (n:Nat) (hn:n<131072) (w:World):Calls Tryz.prog 261 #[.float .f64 (fb false n),.float .f64 4666727020758040576] w fun e w'=>e=.returned (.float .f64 (fb false (n % 10007)))∧w=w':=by
 have hc:fb false 10007=4666727020758040576:=by decide
 have Hh:frE 10007=14:=by decide
 have hI:=zhd (fun w=>zeY false n (by omega) w)
 have hN:=zhd (fun w=>zda _ false n (zaw false n (by omega)) w)
 have H9:=zhd (fun w=>zda _ false 10007 (zaw false 10007 (by decide)) w)
 have H5:=zhd (fun w=>zeX 10007 (by decide) (by decide) w)
 have hz:=zep false (n:=10007) (by decide) (zaw false 10007 (by decide));rw[Hh] at H5;rw[hc] at H9 H5 hz
 have HT:(P1.format.order (fb false n) 0==some .lt)=false:=by
  show (P0.order _ _==_)=_
  rw[zdE (zaw false n (by omega)) zdN,ze4];unfold zam;simp
 go_enter Tryz.func261,Tryz.ntmps261
 go_wp2_with (first
  | (go_at_call 266;refine (hI.out _).mono ?_;rintro e w' ⟨rfl,rfl⟩)
  | (go_at_call 267;refine (hN.out _).mono ?_;rintro e w' ⟨rfl,rfl⟩)
  | (go_at_call 267;refine (H9.out _).mono ?_;rintro e w' ⟨rfl,rfl⟩)
  | (go_at_call 262;refine (zgu _ (by decide) _).mono ?_;rintro e w' ⟨rfl,rfl⟩)
  | (go_at_call 269;refine (H5.out _).mono ?_;rintro e w' ⟨rfl,rfl⟩))
 go_loop [7] (fun r=>∃ k:Nat,k≤n∧Hid (k % 10007=n % 10007)∧r=.float .f64 (fb false k)) (fun r=>zpk r)
 case atStart=>exact ⟨n,xN _,rfl,rfl⟩
 case round =>
  obtain ⟨k,hk,Hk,rfl⟩:=hrel;have H0:=zq2 k (by omega)
  by_cases h10:10007≤k
  ·obtain ⟨t,q,hq,HK,ht,he⟩:=zoF k h10 (by omega)
   exact mcModa1
  ·rw[decide_eq_false h10] at H0
   go_wp2_with fail;go_ret
   have Hf:k=n % 10007:=by rw[←Hk.out,Pd (by omega)]
   exact ⟨by rw[←Hf];rfl,rfl⟩
theorem zkV (x:Nat):Op.unary .neg (.float .f64 x)=pure (.float .f64 (Op.negFloat .f64 x)):=rfl
attribute [local go_sem] zgo zet zkV
set_option maxRecDepth 100000 in
theorem zuj (n:Nat) (h0:0<n) (hn:n<131072) (w:World):Calls Tryz.prog 261 #[.float .f64 (fb true n),.float .f64 4666727020758040576] w fun e w'=>e=.returned (.float .f64 (fb true (n % 10007)))∧w=w':=by
 have hc:fb false 10007=4666727020758040576:=by decide
 have Hh:frE 10007=14:=by decide
 have hI:=zhd (fun w=>zeY true n (by omega) w)
 have hN:=zhd (fun w=>zda _ true n (zaw true n (by omega)) w)
 have H9:=zhd (fun w=>zda _ false 10007 (zaw false 10007 (by decide)) w)
 have H5:=zhd (fun w=>zeX 10007 (by decide) (by decide) w)
 have hz:=zep false (n:=10007) (by decide) (zaw false 10007 (by decide));rw[Hh] at H5;rw[hc] at H9 H5 hz
 have HT:(P1.format.order (fb true n) 0==some .lt)=true:=by
  show (P0.order _ _==_)=_
  rw[zdE (zaw true n (by omega)) zdN,ze4];unfold zam;simp;omega
 have HI:=zi6 true n (by omega);have H7:=zi6 false (n % 10007) (by omega);rw[Bool.not_true] at HI;rw[Bool.not_false] at H7
 go_enter Tryz.func261,Tryz.ntmps261
 go_wp2_with (first
  | (go_at_call 266;refine (hI.out _).mono ?_;rintro e w' ⟨rfl,rfl⟩)
  | (go_at_call 267;refine (hN.out _).mono ?_;rintro e w' ⟨rfl,rfl⟩)
  | (go_at_call 267;refine (H9.out _).mono ?_;rintro e w' ⟨rfl,rfl⟩)
  | (go_at_call 262;refine (zgu _ (by decide) _).mono ?_;rintro e w' ⟨rfl,rfl⟩)
  | (go_at_call 269;refine (H5.out _).mono ?_;rintro e w' ⟨rfl,rfl⟩))
 go_loop [7] (fun r=>∃ k:Nat,k≤n∧Hid (k % 10007=n % 10007)∧r=.float .f64 (fb false k)) (fun r=>zpk r)
 case atStart=>exact ⟨n,xN _,rfl,rfl⟩
 case round =>
  obtain ⟨k,hk,Hk,rfl⟩:=hrel;have H0:=zq2 k (by omega)
  by_cases h10:10007≤k
  ·obtain ⟨t,q,hq,HK,ht,he⟩:=zoF k h10 (by omega)
   exact mcModa1
  ·rw[decide_eq_false h10] at H0
   have Hf:k=n % 10007:=by rw[←Hk.out,Pd (by omega)]
   rw[←Hf] at H7;have HU:=zhd Hf;clear Hf;go_wp2_with fail;go_ret
   refine ⟨?_,rfl⟩
   rw[←HU.out,←H7];rfl
set_option maxRecDepth 100000 in
theorem zrl (w:World):Calls Tryz.prog 261 #[.float .f64 (fb true 0),.float .f64 4666727020758040576] w fun e w'=>e=.returned (.float .f64 (fb true 0))∧w=w':=by
 have hc:fb false 10007=4666727020758040576:=by decide
 have Hh:frE 10007=14:=by decide
 have hI:=zhd (fun w=>zeY true 0 (by decide) w)
 have hN:=zhd (fun w=>zda _ true 0 (zaw true 0 (by decide)) w)
 have H9:=zhd (fun w=>zda _ false 10007 (zaw false 10007 (by decide)) w)
 have H5:=zhd (fun w=>zeX 10007 (by decide) (by decide) w)
 have hz:=zep false (n:=10007) (by decide) (zaw false 10007 (by decide));rw[Hh] at H5;rw[hc] at H9 H5 hz
 have HT:(P1.format.order (fb true 0) 0==some .lt)=false:=by
  show (P0.order _ _==_)=_
  rw[zdE (zaw true 0 (by decide)) zdN,ze4];unfold zam;simp
 have H0:(P1.format.order (fb true 0) 4666727020758040576==some .gt||P1.format.order (fb true 0) 4666727020758040576==some .eq)=false:=by
  rw[←hc]
  show (P0.order _ _==_||P0.order _ _==_)=_
  rw[zdE (zaw true 0 (by decide)) (zaw false 10007 (by decide)),zgA,ze3];unfold zam
  simp
 go_enter Tryz.func261,Tryz.ntmps261
 go_wp2_with (first
  | (go_at_call 266;refine (hI.out _).mono ?_;rintro e w' ⟨rfl,rfl⟩)
  | (go_at_call 267;refine (hN.out _).mono ?_;rintro e w' ⟨rfl,rfl⟩)
  | (go_at_call 267;refine (H9.out _).mono ?_;rintro e w' ⟨rfl,rfl⟩)
  | (go_at_call 262;refine (zgu _ (by decide) _).mono ?_;rintro e w' ⟨rfl,rfl⟩)
  | (go_at_call 269;refine (H5.out _).mono ?_;rintro e w' ⟨rfl,rfl⟩))
 go_loop [7] (fun r=>r=.float .f64 (fb true 0)) (fun r=>zpk r)
 case atStart=>rfl
 case round =>
  obtain rfl:=hrel
  go_wp2_with fail;go_ret
  exact ⟨rfl,rfl⟩
theorem ztI (s:Bool) (n:Nat) (hn:n<131072) (w:World):Calls Tryz.prog 257 #[.float .f64 (fb s n),.float .f64 4666727020758040576] w fun e w'=>e=.returned (.float .f64 (fb s (n % 10007)))∧w=w':=by
 have hM:Hid (∀ w,Calls Tryz.prog 261 #[.float .f64 (fb s n),.float .f64 4666727020758040576] w fun e w'=>e=.returned (.float .f64 (fb s (n % 10007)))∧w=w'):=by
  intro w
  cases s
  ·exact zuk n hn w
  ·rcases Nat.eq_zero_or_pos n with rfl | h0
   ·exact zrl w
   ·exact zuj n h0 hn w
 go_enter Tryz.func257,Tryz.ntmps257
 go_wp2_with (go_at_call 261;refine (hM.out _).mono ?_;rintro e w' ⟨rfl,rfl⟩)
 go_ret
 exact ⟨rfl,rfl⟩
end Go.Proofs.YtgonhdeochgkoaaGreatDoor

namespace Go.Mv
open Go.RowKit
def zaR (x:Nat):Option Nat :=
 match P0.read x with
 | .number s M i=>if i≤0∧(s=false∨M=0)∧M / 2^(-i).toNat<10007∧M % 2^(-i).toNat=0 then some (M / 2^(-i).toNat) else none
 | _=>none
theorem zeJ {x n:Nat} (h:zaR x=some n):n<10007∧∃ s,(s=true→n=0)∧Fl x s n:=by
 unfold zaR at h
 split at h
 ·rename_i s M i hr
  split at h
  ·rename_i hc
   obtain ⟨h1,h2,h3,h4⟩:=hc
   cases h
   refine ⟨h3,s,?_,M,i,hr,(-i).toNat,by omega,?_⟩
   ·intro hs;rcases h2 with h2 | h2
    ·rw[h2] at hs;cases hs
    ·rw[h2];simp
   ·have:=Pf M (2^(-i).toNat);rw[h4,P8,Pg] at this;exact this.symm
  ·cases h
 ·cases h
theorem zpJ (x:Nat) {s:Bool} {M:Nat} {i:Int} (h:P0.read x=.number s M i):i≤0∨4503599627370496≤M:=by
 have HH:P0.leastPlace = -1074:=by decide
 have Hc:P0.binade=4503599627370496:=by decide
 unfold Q3 at h;dsimp only at h;rw[HH,Hc] at h
 split at h
 ·injection h with h1 h2 h3;left;omega
 ·split at h
  ·injection h with h1 h2 h3;right;omega
  ·split at h <;> cases h
theorem zsG (s:Bool) (M b:Nat):Ieee.Toward.zero.cut s M b=M / 2^b:=by
 unfold Ieee.Toward.cut;dsimp only;rw[Nat.shiftLeft_eq,Pi];simp only[Bool.toNat_false,P8]
 rcases Nat.le_total b (M.log2+2) with h | h
 ·rw[Nat.min_eq_left h]
 ·rw[Nat.min_eq_right h]
  have h1:M<2^(M.log2+1):=P5
  have h2:2^(M.log2+1)≤2^(M.log2+2):=P4 (by decide) (by omega)
  have h3:2^(M.log2+2)≤2^b:=P4 (by decide) h
  rw[Pe (by omega),Pe (by omega)]
theorem zhE (s:Bool) (M b:Nat):(Pr s M (-(b:Int))).integral .zero=.number s (M / 2^b) 0:=by
 unfold Ps;dsimp only
 rw[show (-(b:Int)).toNat=0 from by omega,Nat.shiftLeft_zero,show (- -(b:Int)).toNat=b from by omega,zsG]
def ge0 (x:Nat):Bool:=P1.format.order x 0==some .gt||P1.format.order x 0==some .eq
def ltR (x:Nat):Bool:=P1.format.order x 4666727020758040576==some .lt
theorem zn5 (x:Nat) (s t:Bool) (M b:Nat) (hr:P0.read x=.number s M (-(b:Int))) (hs:s=true→M=0) (ht:t=true→M=0) (hn:M / 2^b<10007) :
  (P1.format.order (fb t (M / 2^b)) x==some .eq)=decide (M % 2^b=0):=by
 obtain ⟨c,hc⟩:=zdM (zaw t (M / 2^b) (by omega))
 show (P0.order _ _==_)=_
 unfold Q2;rw[hr,hc,zeg,ze3]
 have e1:zam s (M*2^c)=((M*2^c:Nat):Int):=by
  cases s
  ·rfl
  ·rw[hs rfl];unfold zam;simp
 have e2:zam t (M / 2^b*2^c*2^b)=((M / 2^b*2^c*2^b:Nat):Int):=by
  cases t
  ·rfl
  ·rw[ht rfl];unfold zam;simp
 rw[e1,e2,Pk,decide_eq_true_iff,decide_eq_true_iff];have h1:=Pf M (2^b);have hp:=P3 c
 have e3:M / 2^b*2^c*2^b=(2^b*(M / 2^b))*2^c:=by
  rw[P9,Pg (M / 2^b)]
 rw[e3]
 constructor
 ·intro h
  have h':(2^b*(M / 2^b))*2^c=M*2^c:=by exact_mod_cast h
  have:=Nat.eq_of_mul_eq_mul_right hp h'
  omega
 ·intro h
  rw[h,P8] at h1;rw[h1]
theorem zpM (x:Nat):(ge0 x=false∧zaR x=none)∨(ge0 x=true∧ltR x=false∧zaR x=none) ∨
  (ge0 x=true∧ltR x=true∧∃ s M b,P0.read x=.number s M (-((b:Nat):Int))∧(s=true→M=0)∧M / 2^b<10007∧zaR x=if M % 2^b=0 then some (M / 2^b) else none):=by
 have hz:P0.read 0=.number false 0 (-((1074:Nat):Int)):=by
  obtain ⟨M,i,h,_⟩:=zdN
  have:P0.read 0=.number false 0 (-1074):=by decide
  exact this
 have hR:P0.read 4666727020758040576=.number false (10007*549755813888) (-((39:Nat):Int)):=by decide
 have H0:ge0 x=(((P0.read x).order (P0.read 0)==some .gt)||((P0.read x).order (P0.read 0)==some .eq)):=rfl
 have H1:ltR x=((P0.read x).order (P0.read 4666727020758040576)==some .lt):=rfl
 rw[hz] at H0;rw[hR] at H1
 cases hr:P0.read x with
 | nan s t =>
  left
  rw[hr] at H0
  exact ⟨H0,by unfold zaR;rw[hr]⟩
 | infinity s =>
  rw[hr] at H0 H1
  cases s
  ·exact .inr (.inl ⟨H0,H1,by unfold zaR;rw[hr]⟩)
  ·exact .inl ⟨H0,by unfold zaR;rw[hr]⟩
 | number s M i =>
  by_cases hi:i≤0
  ·obtain ⟨b,rfl⟩:∃ b:Nat,i = -(b:Int):=⟨(-i).toNat,by omega⟩
   have Hg:zaR x=if (-(b:Int))≤0∧(s=false∨M=0)∧M / 2^b<10007∧M % 2^b=0 then some (M / 2^b) else none:=by
    unfold zaR;rw[hr];simp only[Pw,Pv]
   rw[hr,zeg,zgA,ze3,P6,show zam false 0=0 from rfl] at H0
   obtain ⟨q,hq⟩:∃ q,q=1074:=⟨_,rfl⟩;rw[←hq] at H0;clear hq hz;rw[hr,zeg,ze4] at H1;have hp:=P3 q;have K0:=P3 b
   by_cases hs:s=false∨M=0
   ·have K3:∀ p,zam s (M*p)=((M*p:Nat):Int):=by
     intro p
     rcases hs with rfl | rfl
     ·rfl
     ·unfold zam;split <;> simp
    rw[K3] at H0 H1
    have Hi:ge0 x=true:=by
     rw[H0];simp only[Pn,decide_eq_true_iff]
     have:0≤((M*2^q:Nat):Int):=Pu _
     omega
    have Hn:ltR x=decide (M / 2^b<10007):=by
     rw[H1,show zam false (10007*549755813888*2^b)=((10007*549755813888*2^b:Nat):Int) from rfl,Pk,decide_eq_true_iff,decide_eq_true_iff,Int.ofNat_lt,Nat.div_lt_iff_lt_mul K0,P9,show (2^39:Nat)=549755813888 from rfl]
     omega
    by_cases hM:M / 2^b<10007
    ·right;right
     refine ⟨Hi,by rw[Hn];simpa using hM,s,M,b,rfl,?_,hM,?_⟩
     ·intro h;rcases hs with h' | h'
      ·rw[h'] at h;cases h
      ·exact h'
     ·rw[Hg]
      by_cases H3:M % 2^b=0
      ·rw[if_pos ⟨by omega,hs,hM,H3⟩,if_pos H3]
      ·rw[if_neg (fun h=>H3 h.2.2.2),if_neg H3]
    ·right;left
     refine ⟨Hi,by rw[Hn];simpa using hM,?_⟩
     rw[Hg,if_neg (fun h=>hM h.2.2.1)]
   ·left
    have K1:s=true:=by
     cases s with
     | true=>rfl
     | false=>exact absurd (.inl rfl) hs
    have Ka:M≠0:=fun h=>hs (.inr h)
    subst K1
    refine ⟨?_,by rw[Hg,if_neg (fun h=>hs h.2.1)]⟩
    have:0<M*2^q:=Pj (by omega) hp
    rw[H0];unfold zam
    simp only[if_true,Pm,decide_eq_false_iff_not];omega
  ·have hM:4503599627370496≤M:=by rcases zpJ x hr with h | h <;> omega
   have Hg:zaR x=none:=by unfold zaR;rw[hr];simp only[];rw[if_neg (fun h=>hi h.1)]
   have HX:0<M:=by omega
   cases s
   ·right;left
    refine ⟨?_,?_,Hg⟩
    ·rw[H0,hr]
     unfold Pp;dsimp only
     rw[zgA,ze3,zbI,zbI,P6,show zam false 0=0 from rfl,show ∀ n,zam false n=(n:Int) from fun _=>rfl]
     simp only[Pn,decide_eq_true_iff]
     have:=Pu (M*2^(i-min i (-((1074:Nat):Int))).toNat)
     generalize M*2^(i-min i (-((1074:Nat):Int))).toNat=p at *
     clear H0 H1;omega
    ·rw[H1,hr]
     unfold Pp;dsimp only
     rw[ze4,zbI,zbI,show ∀ n,zam false n=(n:Int) from fun _=>rfl,show ∀ n,zam false n=(n:Int) from fun _=>rfl,decide_eq_false_iff_not]
     have e1:min i (-((39:Nat):Int)) = -39:=by omega
     rw[e1,show (-((39:Nat):Int) - -39).toNat=0 from rfl]
     have h1:2^39≤2^(i - -39).toNat:=P4 (by decide) (by omega)
     have h2:4503599627370496*2^39≤M*2^(i - -39).toNat:=Nat.mul_le_mul hM h1
     omega
   ·left
    refine ⟨?_,Hg⟩
    rw[H0,hr];unfold Pp;dsimp only
    rw[zgA,ze3,zbI,zbI,P6,show zam false 0=0 from rfl,show ∀ n,zam true n = -(n:Int) from fun _=>rfl]
    have:0<M*2^(i-min i (-((1074:Nat):Int))).toNat:=Pj HX (P3 _)
    simp only[Pm,decide_eq_false_iff_not]
    generalize M*2^(i-min i (-((1074:Nat):Int))).toNat=p at *
    clear H0 H1;omega
end Go.Mv

namespace Go.Proofs.YtgonhdeochgkoaaGreatDoor
open Go.RowKit Go.Mv
theorem zqy (x:Nat) (s:Bool) (M b:Nat) (hr:P0.read x=.number s M (-(b:Int))) (hn:M / 2^b<10007) (w:World):Calls Tryz.prog 254 #[.float .f64 x] w fun e w'=>e=.returned (.float .f64 (fb s (M / 2^b)))∧w=w':=by
 have h:=zlM x s M _ hr w;rw[zhE] at h
 have h2:P0.write (.number s (M / 2^b) 0)=fb s (M / 2^b):=zdl s ⟨0,rfl,by simp⟩ (by omega)
 rw[h2] at h
 go_enter Tryz.func254,Tryz.ntmps254
 go_wp2
 go_ret
 exact ⟨rfl,rfl⟩
theorem zo0 (x:Nat) (w:World):Calls Tryz.prog 253 #[.float .f64 x] w fun e w'=>e=.returned (.bool (zaR x).isSome)∧w=w':=by
 have key:=zpM x;unfold ge0 ltR at key
 rcases key with ⟨h1,h2⟩ | ⟨h1,h2,h3⟩ | ⟨h1,h2,s,M,b,hr,hs,hn,hp⟩
 ·rw[h2]
  go_enter Tryz.func253,Tryz.ntmps253
  go_wp2_with fail;go_ret
  exact ⟨rfl,rfl⟩
 ·rw[h3]
  go_enter Tryz.func253,Tryz.ntmps253
  go_wp2_with fail;go_ret
  exact ⟨rfl,rfl⟩
 ·have ho:=zn5 x s s M b hr hs hs hn
  have HP:(zaR x).isSome=decide (M % 2^b=0):=by rw[hp];split <;> simp_all
  have hT:=zhd (fun w=>zqy x s M b hr hn w)
  rw[HP,←ho];clear HP ho hp hr hs hn
  go_enter Tryz.func253,Tryz.ntmps253
  go_wp2_with (go_at_call 254;refine (hT.out _).mono ?_;rintro e w' ⟨rfl,rfl⟩)
  go_ret
  exact ⟨rfl,rfl⟩
theorem zkK (a b:Nat) (w:World):Calls Tryz.prog 250 #[.complex .f64 a b] w fun e w'=>e=.returned (.bool ((zaR a).isSome&&(zaR b).isSome))∧w=w':=by
 cases ha:(zaR a).isSome
 all_goals
  go_enter Tryz.func250,Tryz.ntmps250
  go_wp2_with (go_at_call 253;refine (zo0 _ _).mono ?_;rintro e w' ⟨rfl,rfl⟩)
  go_ret
  exact ⟨rfl,rfl⟩
end Go.Proofs.YtgonhdeochgkoaaGreatDoor

namespace Go.Mv
open Go.RowKit
def zhi (p:Nat×Nat) (b:UInt8):Nat×Nat:=((3*p.1+50035-5*p.2+b.toNat+1) % 10007,(5*p.1+3*p.2) % 10007)
def PtV (v:Value) (p:Nat×Nat):Prop:=∃ a b,v=.complex .f64 a b∧zaR a=some p.1∧zaR b=some p.2
theorem zho {x n:Nat} {s:Bool} (h:Fl x s n) (hn:n<10007) (hs:s=true→n=0):zaR x=some n:=by
 obtain ⟨b,hb⟩:=zdM h;have hp:=P3 b;unfold zaR;rw[hb];simp only[Pw,Pv,Pa _ hp,Nat.mul_mod_left];rw[if_pos]
 refine ⟨by omega,?_,hn,by trivial⟩
 cases s
 ·exact .inl rfl
 ·right;rw[hs rfl];simp
theorem zoK (s:Bool) (n:Nat) (hn:n<10007) (hs:s=true→n=0):zaR (fb s n)=some n:=zho (zaw s n (by omega)) hn hs
theorem ziM {s:Bool} {n:Nat} (hs:s=true→n=0) (k:Nat):zam s (n*k)=((n*k:Nat):Int):=by
 cases s
 ·rfl
 ·rw[hs rfl];unfold zam;simp
theorem zhv (z:Int) (h:Bool):zam (if z=0 then h else decide (z<0)) z.natAbs=z:=by
 unfold zam
 by_cases h0:z=0
 ·subst h0;simp
 ·rw[if_neg h0]
  by_cases h1:z<0
  ·rw[decide_eq_true h1];simp;omega
  ·rw[decide_eq_false h1];simp;omega
theorem zs7 {a b x y:Nat} (hx:x<10007) (hy:y<10007) {s t:Bool} (hs:s=true→x=0) (ht:t=true→y=0) (ha:Fl a s x) (hb:Fl b t y) (B:Nat) (hB:B<256) :
  ∃ R I σ τ,cMulBits a b 4613937818241073152 4617315517961601024=some (R,I) ∧
   cSumBits .add .f64 R I (fb false (B+1)) 0=some (fb σ ((3:Int)*x-5*y+B+1).natAbs,fb τ (5*x+3*y))∧zam σ ((3:Int)*x-5*y+B+1).natAbs=(3:Int)*x-5*y+B+1∧zam τ (5*x+3*y)=((5*x+3*y:Nat):Int):=by
 have h3:Fl 4613937818241073152 false 3:=by have:=zaw false 3 (by decide);rwa [show fb false 3=4613937818241073152 from by decide] at this
 have h5:Fl 4617315517961601024 false 5:=by have:=zaw false 5 (by decide);rwa [show fb false 5=4617315517961601024 from by decide] at this
 have m1:=ze9 ha h3 (by omega);have m2:=ze9 hb h5 (by omega);have m3:=ze9 ha h5 (by omega);have m4:=ze9 hb h3 (by omega);rw[Po] at m1 m2 m3 m4;have v1:=ziM hs 3;have v2:=ziM ht 5;have v3:=ziM hs 5;have v4:=ziM ht 3;have r1:=zlq (zaw s (x*3) (by omega)) (zaw t (y*5) (by omega)) (by rw[v1,v2];omega);have i1:=zfd (zaw s (x*5) (by omega)) (zaw t (y*3) (by omega)) (by rw[v3,v4];omega);rw[v1,v2] at r1;rw[v3,v4] at i1
 have e1:(((x*3:Nat):Int)-((y*5:Nat):Int))=3*(x:Int)-5*y:=by omega
 have e2:(((x*5:Nat):Int)+((y*3:Nat):Int))=((5*x+3*y:Nat):Int):=by omega
 rw[e1] at r1;rw[e2] at i1
 generalize hσ:(if (3*(x:Int)-5*y)=0 then s && !t else decide (3*(x:Int)-5*y<0)) = σ1 at r1
 generalize hτ:(if (((5*x+3*y:Nat):Int))=0 then s&&t else decide (((5*x+3*y:Nat):Int)<0)) = τ1 at i1
 have w1:zam σ1 (3*(x:Int)-5*y).natAbs=3*(x:Int)-5*y:=by rw[←hσ];exact zhv _ _
 have w2:zam τ1 (((5*x+3*y:Nat):Int)).natAbs=((5*x+3*y:Nat):Int):=by rw[←hτ];exact zhv _ _
 have r2:=zfd (zaw σ1 (3*(x:Int)-5*y).natAbs (by omega)) (zaw false (B+1) (by omega)) (by rw[w1];unfold zam;simp;omega);have i2:=zfd (zaw τ1 (((5*x+3*y:Nat):Int)).natAbs (by omega)) zdN (by rw[w2];unfold zam;simp;omega);rw[w1] at r2;rw[w2] at i2
 have e3:(3*(x:Int)-5*y+zam false (B+1))=3*(x:Int)-5*y+B+1:=by unfold zam;simp;omega
 have e4:(((5*x+3*y:Nat):Int)+zam false 0)=((5*x+3*y:Nat):Int):=by unfold zam;simp
 rw[e3] at r2;rw[e4] at i2
 generalize hσ2:(if (3*(x:Int)-5*y+B+1)=0 then σ1&&false else decide (3*(x:Int)-5*y+B+1<0)) = σ2 at r2
 generalize hτ2:(if (((5*x+3*y:Nat):Int))=0 then τ1&&false else decide (((5*x+3*y:Nat):Int)<0)) = τ2 at i2
 have w3:zam σ2 (3*(x:Int)-5*y+B+1).natAbs=3*(x:Int)-5*y+B+1:=by rw[←hσ2];exact zhv _ _
 have w4:zam τ2 (((5*x+3*y:Nat):Int)).natAbs=((5*x+3*y:Nat):Int):=by rw[←hτ2];exact zhv _ _
 simp only[Pt] at i1 i2 w4
 refine ⟨fb σ1 (3*(x:Int)-5*y).natAbs,fb τ1 (5*x+3*y),σ2,τ2,?_,?_,w3,w4⟩
 ·unfold cMulBits floatBits
  simp only[show P1.format=P0 from rfl,m1,m2,m3,m4,r1,i1,Option.bind_some]
 ·unfold cSumBits floatBits
  simp only[show P1.format=P0 from rfl,r2,i2,Option.bind_some]
end Go.Mv
namespace Go.Proofs.YtgonhdeochgkoaaGreatDoor
open Go.RowKit Go.Mv
def zuE (s:Bool) (n:Nat) (w:World) (e:Ending) (w':World):Prop:=∃ r,e=.returned (.float .f64 r)∧zaR r=some ((zam s n) % 10007).toNat∧w=w'
theorem zqn (s:Bool) (n:Nat) (hn:n<131072) (w:World):Calls Tryz.prog 256 #[.float .f64 (fb s n)] w (zuE s n w):=by
 have hc:fb false 10007=4666727020758040576:=by decide
 have H1:(P1.format.order (fb s (n % 10007)) 0==some .lt)=decide (zam s (n % 10007)<0):=by
  show (P0.order _ _==_)=_
  rw[zdE (zaw s _ (by omega)) zdN,ze4];rfl
 have hM:=zhd (fun w=>ztI s n hn w)
 by_cases h:s=true∧0<n % 10007
 ·obtain ⟨rfl,h0⟩:=h
  have hs:=zfd (zaw true (n % 10007) (by omega)) (zaw false 10007 (by decide)) (by unfold zam;simp;omega)
  have e:zam true (n % 10007)+zam false 10007=((10007-n % 10007:Nat):Int):=by unfold zam;simp;omega
  rw[e,Pt,if_neg (by omega),hc,show decide (((10007-n % 10007:Nat):Int)<0)=false from by simp] at hs
  have ha:=run_float_arith (P:=Tryz.prog) w .add 280 .f64 (fb true (n % 10007)) 4666727020758040576 _ hs
  have ht:decide (zam true (n % 10007)<0)=true:=by unfold zam;simp;omega
  rw[ht] at H1
  have hr:zaR (fb false (10007-n % 10007))=some ((zam true n) % 10007).toNat:=by
   rw[zoK false _ (by omega) (fun h=>by cases h)]
   congr 1;unfold zam;simp only[if_true];omega
  have Hr:=zhd hr;clear hr hs e ht
  go_enter Tryz.func256,Tryz.ntmps256
  go_wp2_with (go_at_call 257;refine (hM.out _).mono ?_;rintro e w' ⟨rfl,rfl⟩)
  go_ret
  exact ⟨_,rfl,Hr.out,rfl⟩
 ·have ht:decide (zam s (n % 10007)<0)=false:=by
   unfold zam;cases s
   ·simp;omega
   ·simp at h ⊢;omega
  rw[ht] at H1
  have hr:zaR (fb s (n % 10007))=some ((zam s n) % 10007).toNat:=by
   rw[zoK s _ (by omega) (fun hs=>by by_cases h0:0<n % 10007;exact absurd ⟨hs,h0⟩ h;omega)]
   congr 1;unfold zam;cases s
   ·simp only[Pl,if_false];omega
   ·simp only[if_true];simp at h;omega
  have Hr:=zhd hr;clear hr ht h
  go_enter Tryz.func256,Tryz.ntmps256
  go_wp2_with (go_at_call 257;refine (hM.out _).mono ?_;rintro e w' ⟨rfl,rfl⟩)
  go_ret
  exact ⟨_,rfl,Hr.out,rfl⟩
def zvb (p:Nat×Nat) (w:World) (e:Ending) (w':World):Prop:=∃ v,e=.returned v∧PtV v p∧w=w'
theorem zl4 (v:Value) (p:Nat×Nat) (hv:PtV v p) (c:UInt8) (w:World):Calls Tryz.prog 252 #[v,.int .u8 c.toNat] w (zvb (zhi p c) w):=by
 obtain ⟨a,b,rfl,ha,hb⟩:=hv;obtain ⟨x,y⟩:=p;obtain ⟨hx,s,hs,HD⟩:=zeJ ha;obtain ⟨hy,t,ht,HE⟩:=zeJ hb;dsimp only at ha hb hx hy hs ht HD HE;have hB:=c.toNat_lt;obtain ⟨R,I,σ,τ,Ho,Hv,hσ,hτ⟩:=zs7 hx hy hs ht HD HE c.toNat hB;have k1:=run_complex_mul (P:=Tryz.prog) w 201 _ _ _ _ _ _ Ho;have k2:=run_complex_sum (P:=Tryz.prog) w .add (.inl rfl) 201 .f64 _ _ _ _ _ _ Hv;have ho:=zrs c.toNat (by omega)
 have Hq:P0.add (fb false c.toNat) 4607182418800017408=some (fb false (c.toNat+1)):=by
  have:=zfd (zaw false c.toNat (by omega)) (zaw false 1 (by decide)) (by unfold zam;simp;omega)
  have e:zam false c.toNat+zam false 1=((c.toNat+1:Nat):Int):=by unfold zam;simp
  rw[e,Pt,if_neg (by omega),show decide (((c.toNat+1:Nat):Int)<0)=false from by simp;omega,show fb false 1=4607182418800017408 from by decide] at this
  exact this
 have k3:=run_float_arith (P:=Tryz.prog) w .add 280 .f64 (fb false c.toNat) 4607182418800017408 _ Hq
 have Km:((3:Int)*x-5*y+c.toNat+1).natAbs<131072:=by omega
 have Kn:5*x+3*y<131072:=by omega
 have hR:Hid (((zam σ ((3:Int)*x-5*y+c.toNat+1).natAbs) % 10007).toNat=(zhi (x,y) c).1):=by
  show _=_
  rw[hσ];unfold zhi;simp only[];omega
 have hI:Hid (((zam τ (5*x+3*y)) % 10007).toNat=(zhi (x,y) c).2):=by
  show _=_
  rw[hτ];unfold zhi;simp only[];omega
 clear Ho Hv hσ hτ Hq HD HE hs ht
 generalize ((3:Int)*x-5*y+c.toNat+1).natAbs=n1 at *
 generalize 5*x+3*y=n2 at *
 generalize c.toNat=B at *
 have Hb:((zaR a).isSome&&(zaR b).isSome)=true:=by rw[ha,hb];rfl
 have hG:=zhd (fun w=>zkK a b w)
 rw[Hb] at hG;clear ha hb Hb
 go_enter Tryz.func252,Tryz.ntmps252
 go_wp2_with (first
  | (go_at_call 250;refine (hG.out _).mono ?_;rintro e w' ⟨rfl,rfl⟩)
  | (go_at_call 256;refine (zqn _ _ (by assumption) _).mono ?_;rintro e w' ⟨r,rfl,hr,rfl⟩))
 go_ret
 refine ⟨_,rfl,⟨_,_,rfl,?_,?_⟩,rfl⟩
 ·rw[←hR.out];assumption
 ·rw[←hI.out];assumption
end Go.Proofs.YtgonhdeochgkoaaGreatDoor

namespace Go.Mv
open Go.RowKit
theorem mcFoura0 {P:Prop} (h:P:=by
 go_enter Tryz.func248,Tryz.ntmps248
 go_wp2_with (go_at_call 250;refine (hG.out _).mono ?_;rintro e w' ⟨rfl,rfl⟩)
 refine bodyPost_ret (results_cell_row rfl _ _ _ 140 _ _ _ rfl (heap_alloc_new _ _) Tryz.underlying140 rfl (by kernel_rfl)) rfl ⟨rfl,xA (xR _) _⟩):P:=h
theorem zqV {a x:Nat} (h:zaR a=some x):floatToIntVal .f64 a .i64=some (x:Int):=by
 obtain ⟨hx,s,hs,hf⟩:=zeJ h;obtain ⟨b,hb⟩:=zdM hf;unfold floatToIntVal P2
 rw[show P1.format=P0 from rfl,hb]
 unfold Pq;rw[zhE,Pa _ (P3 b)]
 have e:Ieee.signed s x 0=(x:Int):=by
  rw[zbI,Nat.pow_zero,Nat.mul_one]
  cases s
  ·rfl
  ·rw[hs rfl];unfold zam;simp
 dsimp only;rw[e]
 have:Px.min≤(x:Int)∧(x:Int)≤Px.max:=by
  rw[show Px.min = -9223372036854775808 from rfl,show Px.max=9223372036854775807 from rfl];omega
 simp only[this,and_self,if_true]
def zbp (p:Nat×Nat):List UInt8:=[Py (p.1 / 256),Py p.1,Py (p.2 / 256),Py p.2]
def ptV (v:Value):Nat×Nat :=
 match v with
 | .complex .f64 a b=>match zaR a,zaR b with
  | some x,some y=>(x,y)
  | _,_=>(0,0)
 | _=>(0,0)
end Go.Mv
namespace Go.Proofs.YtgonhdeochgkoaaGreatDoor
open Go.RowKit Go.Mv
def zlU (v:Value) (w:World) (e:Ending) (w':World):Prop:=e=.returned (.agg ((zbp (ptV v)).map bv).toArray)∧Ext w w'
theorem zt8 {a b x y:Nat} (ha:zaR a=some x) (hb:zaR b=some y):(zbp (ptV (.complex .f64 a b))).map bv=[.int .u8 ((x:Int) / 256),.int .u8 ((x:Int) % 256),.int .u8 ((y:Int) / 256),.int .u8 ((y:Int) % 256)]:=by
 have hx:=(zeJ ha).1;have hy:=(zeJ hb).1
 have e:ptV (.complex .f64 a b)=(x,y):=by unfold ptV;simp only[ha,hb]
 rw[e]
 simp[zbp,bv]
 omega
theorem zt7 {a b:Nat} (h:((zaR a).isSome&&(zaR b).isSome)=false):(zbp (ptV (.complex .f64 a b))).map bv=[.int .u8 0,.int .u8 0,.int .u8 0,.int .u8 0]:=by
 have e:ptV (.complex .f64 a b)=(0,0):=by
  unfold ptV
  cases ha:zaR a <;> cases hb:zaR b <;> simp_all
 rw[e]
 simp[zbp,bv]
theorem zl2 (a b:Nat) (w:World):Calls Tryz.prog 248 #[.complex .f64 a b] w (zlU (.complex .f64 a b) w):=by
 have hG:=zhd (fun w=>zkK a b w)
 cases Hb:((zaR a).isSome&&(zaR b).isSome)
 ·have hf:=zt7 Hb
  unfold zlU;rw[hf];rw[Hb] at hG;clear Hb hf
  exact mcFoura0
 ·obtain ⟨x,ha⟩:∃ x,zaR a=some x:=by cases h:zaR a <;> simp_all
  obtain ⟨y,hb⟩:∃ y,zaR b=some y:=by cases h:zaR b <;> simp_all
  have hf:=zt8 ha hb;have hx:=(zeJ ha).1;have hy:=(zeJ hb).1;unfold zlU;rw[hf];rw[Hb] at hG
  have i1:=fun w=>run_convert_float_int (P:=Tryz.prog) w 280 3 .f64 .i64 a _ (by kernel_rfl) Tryz.underlying3 (zqV ha)
  have i2:=fun w=>run_convert_float_int (P:=Tryz.prog) w 280 3 .f64 .i64 b _ (by kernel_rfl) Tryz.underlying3 (zqV hb)
  clear Hb ha hb hf
  exact mcFoura0
theorem zbk (va vb:Value) (a b:List UInt8) (w:World) (ha:Bs w va a) (hb:Bs w vb b) :
  Calls Tryz.prog 105 #[va,vb] w fun e w'=>e=.returned (.bool (decide (a=b)))∧w=w':=by
 obtain ⟨A,ca,rfl,h1,h2⟩:=xO ha;obtain ⟨B,cb,rfl,h3,h4⟩:=xO hb;have Kc:=za7 (P:=Tryz.prog) w 38 9 5 Tryz.underlying38 Tryz.underlying5 Tryz.underlying9 ha;have Kd:=za7 (P:=Tryz.prog) w 38 9 5 Tryz.underlying38 Tryz.underlying5 Tryz.underlying9 hb
 go_enter Tryz.func105,Tryz.ntmps105
 go_wp2
 go_ret
 exact ⟨ret_bool (by rw[Pk];simp),rfl⟩
def Parts (w:World) (v:Value) (bss:List (List UInt8)):Prop:=∃ vs:List Value,vs.length=bss.length∧SlR w 1 v bss.length vs∧∀ i (h:i<vs.length) (h':i<bss.length),Bs w vs[i] bss[i]
theorem Parts.ext {w w':World} {v:Value} {bss:List (List UInt8)} (h:Parts w v bss) (he:Ext w w'):Parts w' v bss:=by
 obtain ⟨vs,hl,h1,h2⟩:=h
 exact ⟨vs,hl,h1.ext he,fun i hi HZ=>(h2 i hi HZ).ext he⟩
theorem zh6 (bss:List (List UInt8)) (k:Nat) (h:k<bss.length):(bss.take (k+1)).flatten=(bss.take k).flatten++bss[k]:=by
 rw[List.take_succ_eq_append_getElem h,Q1,List.flatten_cons,List.flatten_nil,List.append_nil]
theorem zh7 (bss:List (List UInt8)) (k:Nat):(bss.take k).flatten.length≤bss.flatten.length:=by
 conv=>rhs;rw[←List.take_append_drop k bss,Q1]
 simp
set_option maxRecDepth 100000 in
theorem zej (v:Value) (bss:List (List UInt8)) (w:World) (h:Parts w v bss) (hl:bss.flatten.length≤70368744177664) :
  Calls Tryz.prog 195 #[v] w (zjX w bss.flatten):=by
 obtain ⟨vs,HR,HL,HS⟩:=h;obtain ⟨A,c,rfl,h1,h2⟩:=xO HL;obtain ⟨i0,hi,K5,K6,K7⟩:=info_parts zb8;have K9:=zhd HR
 have Ko:vs.length≤bss.length:=by omega
 have Kp:bss.length≤vs.length:=by omega
 clear HR
 go_enter Tryz.func195,Tryz.ntmps195
 go_wp2_with fail
 go_loop [3,11] (fun sz i=>∃ k m:Nat,k≤bss.length∧i=.int .i64 k∧sz=.int .i64 m∧Hid (m=(bss.take k).flatten.length)) (fun _ i=>bss.length-(intOf i).toNat)
 case atStart=>exact ⟨0,0,Ph _,rfl,rfl,rfl⟩
 case round =>
  obtain ⟨k,m,hk,rfl,rfl,Hm⟩:=hrel
  by_cases H1:k<bss.length
  ·obtain ⟨_,b,K8,rfl,hc⟩:=SlR.at_ HL (by omega)
   have Hl:k<vs.length:=by omega
   have HB:=hc k vs[k] (Pz Hl);obtain ⟨A',c',Hw,h3,h4⟩:=xO (HS k Hl H1);rw[Hw] at HB;have Hx:=zh7 bss (k+1);have He:=zh6 bss k H1;rw[He,xL,←Hm.out] at Hx;have Hy:=zhd He
   generalize hq:bss.flatten.length=q at Hx hl
   clear hc Hw He hq;go_wp2_with fail
   go_round
   case rel=>exact ⟨k+1,m+bss[k].length,by omega,by go_num,by go_num,by show _=_;rw[Hy.out,xL,←Hm.out]⟩
   case measure=>simp[intOf];omega
  ·have hm:=Hm.out
   rw[Q0 (by omega)] at hm
   have HO:m≤70368744177664:=by omega
   clear hm
   go_wp2_with (go_at_call 233;refine (zsd _ _ (by omega)).mono ?_;rintro e w1 ⟨v1,rfl,Ht,HW⟩)
   go_loopw [6,27] (fun ns i wr=>∃ k:Nat,k≤bss.length∧i=.int .i64 k∧wr.ownsRow w.heap.size 5 1 ns (bss.take k).flatten.length ((bss.take k).flatten.map bv)∧Ext w wr) (fun _ i _=>bss.length-(intOf i).toNat)
   case atStart=>exact ⟨0,Ph _,rfl,Ht,HW⟩
   case round =>
    obtain ⟨k,hk,rfl,H2,hE⟩:=hrel
    by_cases H1:k<bss.length
    ·obtain ⟨_,b,K8,rfl,hc⟩:=SlR.at_ (SlR.ext HL hE) (by omega)
     have Hl:k<vs.length:=by omega
     have HB:=hc k vs[k] (Pz Hl);have HA:=(HS k Hl H1).ext hE;obtain ⟨A',c',Hw,h3,h4⟩:=xO HA;rw[Hw] at HB HA;have Hx:=zh7 bss (k+1);have He:=zh6 bss k H1;rw[He,xL] at Hx;have Hy:=zhd He;clear hc Hw He
     go_wp2_with (at_builtin;refine zbd _ rfl (.tmp 31) (.tmp 32) 38 rfl w.heap.size 5 i0 (.int .u8 0) 1 1 Tryz.underlying38 hi K5 K6 K7 rfl (by decide) _ _ _ rfl H2 _ bss[k].length (bss[k].map bv) rfl HA (zcP _) (by unfold maxLen;omega) (by omega) hE.size ?_;intro v' w1 Hs Hj)
     go_roundw
     case rel =>
      refine ⟨k+1,by omega,by go_num,?_,Ext.grownOwn hE H2 Hj⟩
      rw[Hy.out]
      simpa using Hs
     case measure=>simp[intOf];omega
    ·have HN:bss.take k=bss:=Q0 (by omega)
     rw[HN] at H2;clear HN;go_wp2_with fail;go_ret
     exact ⟨_,rfl,H2,hE⟩
end Go.Proofs.YtgonhdeochgkoaaGreatDoor

namespace Go.Mv
open Go.RowKit
theorem zel {P:Program} (w:World) (base:Nat) (t ty e:TypeId) (i:TypeInfo) (z:Value) (size bytes:Nat) (ht:P.underlying t=some (.slice e)) (hi:P.info? e=some i) (hz:i.zero=some z)
  (Hu:i.size=size) (HY:i.bytes=bytes)
  (v:Value) (n:Nat) (xs:List Value) (H2:w.ownsRow base e size v n xs)
  (a:Addr) (m c:Nat) (news:List Value) (hl:news.length=m*size) (hm:0<m) (H8:∀ j u,news[j]?=some u→w.cell? (a.add j)=some u) (h1:∀ u∈news,u.oneCell'=true)
  (HV:n+m≤maxLen) (H6:(n+m)*bytes≤140737488355328) {v':Value} {w':World} (H4:(Builtin.append_ #[t,t] ty #[v,.slice (some a) m c]).run P w=.ok v' w'):v'.ownBlock=v.ownBlock∨v'.ownBlock=some w.heap.size:=by
 subst Hu;subst HY
 have HM:n+m≤9223372036854775807:=by simp only[maxLen] at HV;omega
 rcases H2.2 with ⟨rfl,rfl⟩ | ⟨g,cap,cur,rfl,hbg,hg,hnc,hcm,hcs,htake⟩
 ·have hr:=run_append_nil (P:=P) w t ty e i z ht hi hz a m c news hl H8 (by omega) (by omega) (by have hb:=H6;simp only[Nat.zero_add] at hb;omega)
  rw[hr] at H4
  cases H4
  exact .inr rfl
 ·by_cases hroom:n+m≤cap
  ·have HF:n*i.size+news.length≤cur.size:=by rw[hl,hcs,←Nat.add_mul];exact Nat.mul_le_mul_right _ hroom
   have hr:=run_append_room (P:=P) w t ty e i ht hi g n cap cur hg a m c news hl H8 h1 hroom HF;rw[hr] at H4
   cases H4
   exact .inl rfl
  ·have Hp:∀ j u,xs[j]?=some u→w.cell? ((⟨g,0,none⟩:Addr).add j)=some u:=H2.cells (g:=g) rfl
   have hr:=run_append_grow (P:=P) w t ty e i z ht hi hz ⟨g,0,none⟩ n cap xs H2.1 Hp a m c news hl H8 (by omega) (by omega) (growslice_fits (by omega) H6);rw[hr] at H4
   cases H4
   exact .inr rfl
end Go.Mv
