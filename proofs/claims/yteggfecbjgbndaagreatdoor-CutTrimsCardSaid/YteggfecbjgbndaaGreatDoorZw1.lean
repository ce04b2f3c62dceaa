/- Merged -/
import Derived.WalkLawsBesides
import Derived.Laws.FloatArith
import Derived.Laws.ComplexArith
import Derived.RangeFuncNested
import Derived.RangeFuncLeaves
import Derived.WalkKit
import Derived.Laws.OwnMore
import Derived.Deep.AppendLies
import Derived.Deep.Draws
import Derived.Maps.AppendAt
import Derived.RegionTactic
import Derived.OwnWalk
import Derived.Lib.Hide
import Derived.Test.YteggfecbjgbndaaGreatDoorRows
import Derived.JoinedCond
import Derived.KernelRfl
set_option linter.all false
set_option maxHeartbeats 8000000
set_option maxRecDepth 100000
open Option renaming some→E,none→H
open Go.Value renaming slice→G,bool→O
open Go.Obj renaming cells→L
open Array renaming getElem?_eq_some_iff→P0,getElem?_eq_getElem→P1
open Go.RowKit renaming Hid→P2
open Ieee renaming double→P3,signed→P4
open Nat renaming mul_assoc→P5,two_pow_pos→P6,pow_add→P7,le_trans→P8,shiftLeft_eq→P9,mul_comm→Pa,zero_le→Pb,lt_of_lt_of_le→Pc,mul_ne_zero→Pd
open Go.World renaming putObj_heap_other→Pe,cell?_of_block→Pf,putObj_heap_same→Pg,alloc_heap_new→Ph,setCell→Pi
open Ieee.Format renaming write→Pj,word→Pk,sub→Pl,read→Pm,order→Pn,nearest→Po,mul→Pp,add→Pq
open Int renaming mul_lt_mul_right→Pr,mul_eq_mul_right_iff→Ps,add_mul→Pu
open Go.RowKit.Below renaming heap_setCell→Pv,heap_alloc→Pw,refl→Px
open Bool renaming eq_iff_iff→Py
open Ieee.Datum renaming sum→Pz,product→Q0,order→Q1,number→Q2
namespace Go
def Obj.ty:Obj→Option TypeId
 | .cells _ t _=>some t
 | _=>none
end Go
namespace Go.Mv
theorem mcFloata0 {P:Prop} (h:P:=by
 have hp:(0:Int)<((2^d:Nat):Int):=by have:=P6 d;omega
 have z0:(z*((2^d:Nat):Int)=0)=(z=0):=by
  rw[eq_iff_iff];constructor
  ·intro h';rcases Int.mul_eq_zero.1 h' with h' | h' <;> omega
  ·intro h';rw[h'];simp
 have z1:(z*((2^d:Nat):Int)<0)=(z<0):=by
  have:=Pr (a:=((2^d:Nat):Int)) (b:=z) (c:=0) hp
  rw[Int.zero_mul] at this
  exact propext this
 simp only[Option.map_some,Pj,z0,z1,Int.natAbs_mul]
 congr 1
 exact zc8 _ ⟨d,rfl,by simp⟩ h):P:=h
theorem zhd {p:Prop} (h:p):P2 p:=h
theorem zhb {p q:Prop} (a:p) (b:q):P2 p∧P2 q:=⟨a,b⟩
theorem zhc {p q r:Prop} (a:p) (b:q) (c:r):P2 p∧P2 q∧P2 r:=⟨a,b,c⟩
theorem zhe {p q r s:Prop} (a:p) (b:q) (c:r) (d:s):P2 p∧P2 q∧P2 r∧P2 s:=⟨a,b,c,d⟩
theorem zhf {p q r s t:Prop} (a:p) (b:q) (c:r) (d:s) (e:t):P2 p∧P2 q∧P2 r∧P2 s∧P2 t:=⟨a,b,c,d,e⟩
theorem sA.{u} {α:Type u} (l:List α) (i:Nat) (a:α):l.toArray.setIfInBounds i a=(l.set i a).toArray:=List.setIfInBounds_toArray l i a
theorem sZ.{u} {α:Type u} {x:α} {xs:List α} {a:α}:(x::xs).set 0 a=a::xs:=rfl
theorem sS.{u} {α:Type u} {x:α} {xs:List α} {n:Nat} {a:α}:(x::xs).set (n+1) a=x::xs.set n a:=rfl
theorem xS (w:World) (o:Obj):(w.alloc o).heap.size=w.heap.size+1:=World.size_alloc w o
theorem xL.{u} {α:Type u} {a b:List α}:(a++b).length=a.length+b.length:=List.length_append
theorem xN (n:Nat):n≤n:=Nat.le_refl n
theorem xI.{u} {α:Type u} (a:List α):[]++a=a:=List.nil_append a
theorem xC.{u} {α:Type u} {a:α} {l:List α}:(a::l).length=l.length+1:=List.length_cons
open Go.RowKit
def zak (s:Bool) (n:Nat):Int:=if s then -(n:Int) else n
def Rep (M:Nat) (i:Int) (n:Nat):Prop:=∃ b:Nat,i = -(b:Int)∧M=n*2^b
theorem zs9 (b:Nat):Rep 0 (-(b:Int)) 0:=⟨b,rfl,(Nat.zero_mul _).symm⟩
def Fl (x:Nat) (s:Bool) (n:Nat):Prop:=∃ M i,P3.read x=.number s M i∧Rep M i n
def zcu (n:Nat):Nat:=if n=0 then 0 else (n.log2+1022)*4503599627370496+n*2^(52-n.log2)
def fb (s:Bool) (n:Nat):Nat:=if s then 9223372036854775808+zcu n else zcu n
theorem zhU (n k:Nat) (h:n≠0):(n*2^k).log2=n.log2+k:=by
 induction k with
 | zero=>simp
 | succ k ih =>
  rw[Nat.pow_succ,←P5,Pa _ 2,Nat.log2_two_mul (by have:=P6 k;exact Pd h (by omega)),ih];omega
theorem zbk (s:Bool) (m k:Nat):P4 s m k=zak s (m*2^k):=by
 unfold P4 zak;rw[P9]
theorem zcN (s:Bool) (m k:Nat):zak s (m*k)=zak s m*k:=by
 unfold zak;split <;> simp[Int.neg_mul]
theorem zqN (way:Ieee.Toward) (s:Bool) (q v:Nat):way.cut s (q*2^v) v=q:=by
 unfold Ieee.Toward.cut;dsimp only;rw[P9,Nat.one_mul]
 rcases Nat.eq_zero_or_pos q with rfl | hq
 ·cases way <;> simp
  all_goals (rw[Nat.zero_mod,Nat.zero_div];simp)
 ·have hm:min v ((q*2^v).log2+2)=v:=by rw[zhU q v (by omega)];omega
  have hp:=P6 v;rw[hm,Nat.mul_div_cancel _ hp,Nat.mul_mod_left]
  cases way <;> simp
theorem zdH (n:Nat) (hn:n<9007199254740992):zcu n<9218868437227405312∧(n≠0→n.log2≤52∧4503599627370496≤n*2^(52-n.log2)∧n*2^(52-n.log2)<9007199254740992):=by
 unfold zcu
 split
 ·rename_i h;exact ⟨by decide,fun h'=>absurd h h'⟩
 ·rename_i h0
  have hl:n.log2<53:=(Nat.log2_lt h0).2 (by simpa using hn)
  have h1:n<2^(n.log2+1):=Nat.lt_log2_self
  have h2:2^n.log2≤n:=Nat.log2_self_le h0
  have e1:2^n.log2*2^(52-n.log2)=4503599627370496:=by rw[←P7,show n.log2+(52-n.log2)=52 from by omega]
  have e2:2^(n.log2+1)*2^(52-n.log2)=9007199254740992:=by rw[←P7,show n.log2+1+(52-n.log2)=53 from by omega]
  have a1:2^n.log2*2^(52-n.log2)≤n*2^(52-n.log2):=Nat.mul_le_mul_right _ h2
  have a2:n*2^(52-n.log2)<2^(n.log2+1)*2^(52-n.log2):=Nat.mul_lt_mul_of_pos_right h1 (P6 _)
  rw[e1] at a1;rw[e2] at a2
  exact ⟨by omega,fun _=>⟨by omega,a1,a2⟩⟩
theorem zc8 (s:Bool) {M:Nat} {i:Int} {n:Nat} (h:Rep M i n) (hn:n<9007199254740992):P3.nearest s M i=fb s n:=by
 obtain ⟨b,rfl,rfl⟩:=h;unfold Po;have hr:=zdH n hn
 have HH:P3.leastPlace = -1074:=by decide
 have K4:(P3.fractionBits:Int)=52:=by decide
 have Hm:P3.binade=4503599627370496:=by decide
 have Hp:P3.infRung=9218868437227405312:=by decide
 have HE:P3.signWeight=9223372036854775808:=by decide
 by_cases h0:n=0
 ·subst h0
  simp[fb,zcu,Pk,HE]
 ·have HL:n*2^b≠0:=Pd h0 (by have:=P6 b;omega)
  rw[if_neg HL];dsimp only;obtain ⟨h1,h2⟩:=hr;obtain ⟨hl,K0,K1⟩:=h2 h0;rw[zhU n b h0,HH,K4,Hm,Hp]
  have HK:max (-(b:Int)+((n.log2+b:Nat):Int)-52) (-1074)=(n.log2:Int)-52:=by omega
  rw[HK]
  have HG:(n*2^b) <<< (-(b:Int)-((n.log2:Int)-52)).toNat=(n*2^(52-n.log2))*2^((n.log2:Int)-52 - -(b:Int)).toNat:=by
   rw[P9,P5,P5,←P7,←P7]
   congr 2
   omega
  rw[HG,zqN]
  have hk:((n.log2:Int)-52 - -1074).toNat=n.log2+1022:=by omega
  rw[hk]
  have HT:zcu n=(n.log2+1022)*4503599627370496+n*2^(52-n.log2):=by unfold zcu;rw[if_neg h0]
  rw[←HT,Nat.min_eq_left (by omega)];unfold fb Pk;rw[HE]
theorem zav (s:Bool) (n:Nat) (hn:n<9007199254740992):Fl (fb s n) s n:=by
 obtain ⟨h1,h2⟩:=zdH n hn
 have HH:P3.leastPlace = -1074:=by decide
 have Hm:P3.binade=4503599627370496:=by decide
 have Hp:P3.infRung=9218868437227405312:=by decide
 have HE:P3.signWeight=9223372036854775808:=by decide
 have e1:(fb s n / 9223372036854775808 % 2==1)=s:=by
  unfold fb;cases s <;> simp <;> omega
 have e2:fb s n % 9223372036854775808=zcu n:=by
  unfold fb;cases s <;> simp <;> omega
 unfold Fl Pm;dsimp only;rw[HH,Hm,Hp,HE,e1,e2]
 by_cases h0:n=0
 ·subst h0
  exact ⟨0,-1074,by simp[zcu],zs9 1074⟩
 ·obtain ⟨hl,K0,K1⟩:=h2 h0
  have HT:zcu n=(n.log2+1022)*4503599627370496+n*2^(52-n.log2):=by unfold zcu;rw[if_neg h0]
  rw[if_neg (by omega),if_pos (by omega)]
  refine ⟨_,_,rfl,52-n.log2,?_,?_⟩ <;> omega
theorem zdC {x:Nat} {s:Bool} {n:Nat}:Fl x s n→∃ b:Nat,P3.read x=.number s (n*2^b) (-(b:Int)):=by
 rintro ⟨M,i,h,b,rfl,rfl⟩;exact ⟨b,h⟩
theorem zd3 (s t:Bool) (M N b c:Nat):(Q2 s M (-(b:Int))).order (.number t N (-(c:Int)))=E (compare (zak s (M*2^c)) (zak t (N*2^b))):=by
 unfold Q1;dsimp only;rw[zbk,zbk]
 have Hz:∀ (p:Nat) (u v:Int),0<p→compare (u*p) (v*p)=compare u v:=by
  intro p u v hp;simp only[compare,compareOfLessAndEq]
  have K8:(0:Int)<p:=by omega
  have e1:(u*p<v*p)=(u<v):=by rw[Pr K8]
  have e2:(u*p=v*p)=(u=v):=by rw[Ps (by omega)]
  simp only[e1,e2]
 congr 1
 rcases Nat.le_total b c with hbc | hbc
 ·have e1:(-(b:Int)-min (-(b:Int)) (-(c:Int))).toNat=c-b:=by omega
  have e2:(-(c:Int)-min (-(b:Int)) (-(c:Int))).toNat=0:=by omega
  rw[e1,e2,←Hz (2^b) _ _ (P6 _),←zcN,←zcN,P5,←P7,show c-b+b=c from by omega]
  simp
 ·have e1:(-(b:Int)-min (-(b:Int)) (-(c:Int))).toNat=0:=by omega
  have e2:(-(c:Int)-min (-(b:Int)) (-(c:Int))).toNat=b-c:=by omega
  rw[e1,e2,←Hz (2^c) _ _ (P6 _),←zcN,←zcN,P5 N,←P7,show b-c+c=b from by omega]
  simp
theorem zdt {x y:Nat} {s t:Bool} {n m:Nat} (hx:Fl x s n) (hy:Fl y t m):P3.order x y=E (compare (zak s n) (zak t m)):=by
 obtain ⟨b,hb⟩:=zdC hx;obtain ⟨c,hc⟩:=zdC hy;unfold Pn;rw[hb,hc,zd3,P5,P5,Pa (2^c),zcN,zcN]
 congr 1
 have hp:(0:Int)<((2^b*2^c:Nat):Int):=by have:=Nat.mul_pos (P6 b) (P6 c);omega
 simp only[compare,compareOfLessAndEq]
 have e1:(zak s n*((2^b*2^c:Nat):Int)<zak t m*((2^b*2^c:Nat):Int))=(zak s n<zak t m):=by rw[Pr hp]
 have e2:(zak s n*((2^b*2^c:Nat):Int)=zak t m*((2^b*2^c:Nat):Int))=(zak s n=zak t m):=by rw[Ps (by omega)]
 simp only[e1,e2]
theorem zeL (a b:Int):(some (compare a b)==E Ordering.lt)=decide (a<b):=by
 rw[Py];simp only[compare,compareOfLessAndEq];split <;> (try split) <;> simp_all
theorem zeK (a b:Int):(some (compare a b)==E Ordering.eq)=decide (a=b):=by
 rw[Py];simp only[compare,compareOfLessAndEq];split <;> (try split) <;> simp_all <;> omega
theorem zgB (a b:Int):(some (compare a b)==E Ordering.gt)=decide (b<a):=by
 rw[Py];simp only[compare,compareOfLessAndEq];split <;> (try split) <;> simp_all <;> omega
theorem zeQ {x y:Nat} {s t:Bool} {n m:Nat} (hx:Fl x s n) (hy:Fl y t m) (h:(zak s n+zak t m).natAbs<9007199254740992) :
  P3.add x y=E (fb (if zak s n+zak t m=0 then s&&t else decide (zak s n+zak t m<0)) (zak s n+zak t m).natAbs):=by
 obtain ⟨b,hb⟩:=zdC hx;obtain ⟨c,hc⟩:=zdC hy;unfold Pq;rw[hb,hc];unfold Pz;dsimp only;rw[zbk,zbk,P5,P5,←P7,←P7]
 obtain ⟨d,hd⟩:∃ d:Nat,min (-(b:Int)) (-(c:Int)) = -(d:Int):=⟨max b c,by omega⟩
 rw[hd]
 have e1:b+(-(b:Int) - -(d:Int)).toNat=d:=by omega
 have e2:c+(-(c:Int) - -(d:Int)).toNat=d:=by omega
 rw[e1,e2,zcN,zcN,←Pu]
 generalize zak s n+zak t m=z at *
 exact mcFloata0
theorem znJ {x:Nat} {s:Bool} {n:Nat} (h:Fl x s n):∃ b:Nat,(P3.read x).opposite=.number (!s) (n*2^b) (-(b:Int)):=by
 obtain ⟨b,hb⟩:=zdC h
 exact ⟨b,by rw[hb];rfl⟩
theorem zk1 {x y:Nat} {s t:Bool} {n m:Nat} (hx:Fl x s n) (hy:Fl y t m) (h:(zak s n-zak t m).natAbs<9007199254740992) :
  P3.sub x y=E (fb (if zak s n-zak t m=0 then s && !t else decide (zak s n-zak t m<0)) (zak s n-zak t m).natAbs):=by
 obtain ⟨b,hb⟩:=zdC hx;obtain ⟨c,hc⟩:=znJ hy
 have e0:zak s n-zak t m=zak s n+zak (!t) m:=by unfold zak;cases t <;> simp <;> omega
 rw[e0] at h ⊢
 unfold Pl;rw[hb,hc];unfold Pz;dsimp only;rw[zbk,zbk,P5,P5,←P7,←P7]
 obtain ⟨d,hd⟩:∃ d:Nat,min (-(b:Int)) (-(c:Int)) = -(d:Int):=⟨max b c,by omega⟩
 rw[hd]
 have e1:b+(-(b:Int) - -(d:Int)).toNat=d:=by omega
 have e2:c+(-(c:Int) - -(d:Int)).toNat=d:=by omega
 rw[e1,e2,zcN,zcN,←Pu]
 generalize zak s n+zak (!t) m=z at *
 exact mcFloata0
theorem zeN {x y:Nat} {s t:Bool} {n m:Nat} (hx:Fl x s n) (hy:Fl y t m) (h:n*m<9007199254740992):P3.mul x y=E (fb (s ^^ t) (n*m)):=by
 obtain ⟨b,hb⟩:=zdC hx;obtain ⟨c,hc⟩:=zdC hy;unfold Pp;rw[hb,hc];simp only[Q0,Option.map_some,Pj]
 congr 1
 refine zc8 _ ⟨b+c,by omega,?_⟩ h
 rw[P7];simp only[Nat.mul_left_comm,P5,Pa]
theorem zf1 (n:Nat) (h:n<9007199254740992):floatOfInt .f64 (n:Int)=fb false n:=by
 unfold floatOfInt FloatKind.nearest FloatKind.encode
 have e:((n:Int)<0)=False:=by simp
 simp only[FloatKind.format,Pj,Int.natAbs_natCast]
 rw[show decide ((n:Int)<0)=false from by simp]
 exact zc8 _ ⟨0,by simp,by simp⟩ h
theorem zdD:Fl 0 false 0:=zav false 0 (by decide)
abbrev Wd (ro:Option Nat):Fence:={ Fence.wide with round:=ro }
theorem callsIn_wd {P:Program} {ro:Option Nat} {n:Nat} {f:FuncId} {args:Array Value} {w:World} {R:Ending→World→Prop} :
  CallsIn (Wd ro) n P f args w R↔Calls P f args w R :=
 (callsIn_wide (n:=n) (P:=P) (f:=f) (args:=args) (w:=w) (R:=R))
theorem zjU {P:Program} {ro:Option Nat} {n m:Nat} {l:Nat} {f:FuncId} {tmps:Array Value} {assign body:Code} {w:World} {R:Ending→World→Prop}
  (h:RoundIn Fence.wide m P l f tmps assign body w R):RoundIn (Wd ro) n P l f tmps assign body w R :=
 ⟨trivial,fun c cs _=>h.2 c cs (room_wide _)⟩
structure Kept (K:Nat→Obj→Prop) (A B:World):Prop where
 size:A.heap.size≤B.heap.size
 same:∀ (k:Nat) (o:Obj),A.heap[k]?=E o→K k o→B.heap[k]?=E o
structure Moves (M:Nat→Obj→Prop) (A B:World):Prop where
 os:B.os=A.os
 tape:B.tape=A.tape
 output:B.output=A.output
 size:A.heap.size≤B.heap.size
 same:∀ (k:Nat) (o:Obj),A.heap[k]?=E o→¬ M k o→B.heap[k]?=E o
theorem zce {o:Obj} {t:TypeId} (h:o.ty=E t):o.isCells=true:=by cases o <;> simp_all [Obj.ty,Obj.isCells]
def zac (M:Nat→Obj→Prop) (n:Nat):Nat→Obj→Prop:=fun k o=>M k o∨(n≤k∧o.isCells=false)
theorem zdr {W:World} {a:Addr} {v:Value} {o:Obj} (h:W.heap[a.block]?=E o) (hc:o.isCells=false):(W.setCell a v).heap[a.block]?=E o:=by
 obtain ⟨HI,K6⟩:=P0.1 h
 show (W.heap.modify a.block _)[a.block]?=E o
 rw[P1 (by rw[Array.size_modify];exact HI),Array.getElem_modify_self,K6]
 cases o <;> first | rfl | (simp[Obj.isCells] at hc)
section
variable {K M M':Nat→Obj→Prop} {n:Nat} {A B C:World}
theorem Kept.refl:Kept K A A:=⟨xN _,fun _ _ h _=>h⟩
theorem Kept.trans (h:Kept K A B) (k:Kept K B C):Kept K A C:=⟨P8 h.size k.size,fun i o hi ho=>k.same i o (h.same i o hi ho) ho⟩
theorem Kept.alloc (h:Kept K A B) (o:Obj):Kept K A (B.alloc o) :=
 h.trans ⟨by simp,fun k _ hk _=>(Pw B o k (P0.1 hk).1).trans hk⟩
theorem Kept.drew (h:Kept K A B):Kept K A B.drew:=⟨h.size,h.same⟩
theorem Kept.setCell (h:Kept K A B) {a:Addr} (ha:∀ o,A.heap[a.block]?=E o→o.isCells=true→¬ K a.block o) (v:Value):Kept K A (B.setCell a v) :=
 ⟨P8 h.size (by simp[Pi]),fun k o hk ho=>by
   have Hh:=h.same k o hk ho
   by_cases e:k=a.block
   ·subst e
    cases hc:o.isCells with
    | true=>exact absurd ho (ha o hk hc)
    | false=>exact zdr Hh hc
   ·exact (Pv B a v k e).trans Hh⟩
theorem Kept.below {N:Nat} (h:Kept K A B) (hb:Below N B C) (hN:B.heap.size≤N):Kept K A C :=
 h.trans ⟨hb.size,fun k _ hk _=>(hb.block k (Pc (P0.1 hk).1 hN)).trans hk⟩
theorem Kept.grown {row:Option Nat} (h:Kept K A B) (hg:B.grownBy C row) (hr:∀ k o,row=E k→A.heap[k]?=E o→¬ K k o):Kept K A C :=
 ⟨P8 h.size hg.size,fun k o hk ho=>by
   have Hh:=h.same k o hk ho
   refine (hg.block k (P0.1 Hh).1 (fun e=>?_)).trans Hh
   exact hr k o e.symm hk ho⟩
theorem Kept.mono {K':Nat→Obj→Prop} (h:Kept K A B) (hK:∀ k o,K' k o→K k o):Kept K' A B:=⟨h.size,fun k o hk ho=>h.same k o hk (hK k o ho)⟩
theorem Kept.cell (h:Kept K A B) {p:Addr} {v:Value} (hc:A.cell? p=E v) (hp:∀ o,A.heap[p.block]?=E o→K p.block o):B.cell? p=E v:=by
 obtain ⟨o,ho,_⟩:=cells_of_cell hc
 exact (Pf ((h.same _ o ho (hp o ho)).trans ho.symm)).trans hc
theorem Moves.refl:Moves M A A:=⟨rfl,rfl,rfl,xN _,fun _ _ h _=>h⟩
theorem Moves.trans (h:Moves M A B) (k:Moves M B C):Moves M A C :=
 ⟨k.os.trans h.os,k.tape.trans h.tape,k.output.trans h.output,P8 h.size k.size,fun i o hi hm=>k.same i o (h.same i o hi hm) hm⟩
theorem Moves.alloc (h:Moves M A B) (o:Obj):Moves M A (B.alloc o) :=
 h.trans ⟨rfl,rfl,rfl,by simp,fun k _ hk _=>(Pw B o k (P0.1 hk).1).trans hk⟩
theorem Moves.drew (h:Moves M A B):Moves M A B.drew:=⟨h.os,h.tape,h.output,h.size,h.same⟩
theorem Moves.setCell (h:Moves M A B) {a:Addr} (ha:∀ o,A.heap[a.block]?=E o→o.isCells=true→M a.block o) (v:Value):Moves M A (B.setCell a v) :=
 ⟨h.os,h.tape,h.output,P8 h.size (by simp[Pi]),fun k o hk hm=>by
   have Hh:=h.same k o hk hm
   by_cases e:k=a.block
   ·subst e
    cases hc:o.isCells with
    | true=>exact absurd (ha o hk hc) hm
    | false=>exact zdr Hh hc
   ·exact (Pv B a v k e).trans Hh⟩
theorem Moves.putObj (h:Moves M A B) {l:Nat} (hl:∀ o,A.heap[l]?=E o→M l o) (o':Obj):Moves M A (B.putObj l o') :=
 ⟨h.os,h.tape,h.output,P8 h.size (by simp),fun k o₁ hk hm =>
   (Pe (fun e=>by subst e;exact hm (hl _ hk))).trans (h.same k o₁ hk hm)⟩
theorem Moves.below {N:Nat} (h:Moves M A B) (hb:Below N B C) (hN:B.heap.size≤N):Moves M A C :=
 h.trans ⟨hb.os,hb.tape,hb.output,hb.size,fun k _ hk _=>(hb.block k (Pc (P0.1 hk).1 hN)).trans hk⟩
theorem Moves.weaken (h:Moves M A B) (hM:∀ k o,M k o→M' k o):Moves M' A B :=
 ⟨h.os,h.tape,h.output,h.size,fun k o hk hm=>h.same k o hk (fun e=>hm (hM k o e))⟩
theorem Moves.cell (h:Moves M A B) {p:Addr} {v:Value} (hc:A.cell? p=E v) (hp:∀ o,A.heap[p.block]?=E o→o.isCells=true→¬ M p.block o):B.cell? p=E v:=by
 obtain ⟨o,ho,H5⟩:=cells_of_cell hc
 exact (Pf ((h.same _ _ ho (hp o ho H5)).trans ho.symm)).trans hc
theorem Moves.belowOf {N:Nat} {w:World} (h:Moves M A B) (hb:Below N w A) (hM:∀ k o,k<N→¬ M k o) (hw:N≤w.heap.size):Below N w B :=
 ⟨h.os.trans hb.os,h.tape.trans hb.tape,h.output.trans hb.output,P8 hb.size h.size,fun k hk=>by
   have e:w.heap[k]?=E w.heap[k]:=P1 (by omega)
   exact (h.same k _ ((hb.block k hk).trans e) (hM k _ hk)).trans e.symm⟩
theorem Moves.boxed (h:Moves M A B) {b:Nat} {t:TypeId} {v:Value} (hb:Boxed A b t v) (hM:¬ M b (L #[v] t (0,0))):Boxed B b t v:=h.same b _ hb hM
theorem Kept.boxed (h:Kept K A B) {b:Nat} {t:TypeId} {v:Value} (hb:Boxed A b t v) (hK:K b (L #[v] t (0,0))):Boxed B b t v:=h.same b _ hb hK
theorem Moves.ownsRow (h:Moves M A B) {base:Nat} {e:TypeId} {size:Nat} {v:Value} {m:Nat} {xs:List Value} (ho:A.ownsRow base e size v m xs)
  (hM:∀ k Ha,v.ownBlock=E k→¬ M k (L Ha e (0,0))):B.ownsRow base e size v m xs:=by
 refine ⟨ho.1,?_⟩
 rcases ho.2 with hn | ⟨g,cap,Ha,rfl,hb,hgg,rest⟩
 ·exact .inl hn
 ·exact .inr ⟨g,cap,Ha,rfl,hb,h.same _ _ hgg (hM g Ha rfl),rest⟩
end
def YieldsAt (P:Program) (l:Nat) (args:Array Value) (W:World) (R:Ending→World→Prop):Prop :=
 ∃ fn tmps assign body,(Instr.yield l args).run P W=.ok (.round l fn tmps assign body) W∧RoundIn Fence.wide 0 P l fn tmps assign body W R
def Seq (P:Program) (gf:Nat) (lb:Array Value) {α:Type} (Rp:α→Array Value→World→Prop) (K M:Nat→Obj→Prop) (xs:List α) (W0:World):Prop :=
 ∀ (l:Nat) (J Jx:List α→World→Prop),
  (∀ s A B,J s A→Moves (zac M W0.heap.size) A B→J s B)→(∀ s A B,Jx s A→Moves (zac M W0.heap.size) A B→Jx s B) →
  (∀ H0 x H1,xs=H0++x::H1→∀ (W:World) (av:Array Value),J H0 W→W0.heap.size≤W.heap.size→Rp x av W→YieldsAt P l av W fun e W' =>
    Kept (zac K W0.heap.size) W W'∧((e=.returned (O true)∧J (H0++[x]) W')∨(e=.returned (O false)∧Jx (H0++[x]) W'))) →
  J [] W0 →
  Calls P gf (#[.func (.yield l) #[] #[]]++lb) W0 fun e W'=>(∃ v,e=.returned v)∧(J xs W'∨∃ H0,H0 <+: xs∧Jx H0 W')
def zmy {α:Type} (K:Nat→Obj→Prop) (I:List α→World→Prop) (Ix:Code→List α→World→Prop) (xs:List α) (W:World):Exit→Act→World→Prop
 | .normal,_,W'=>Kept K W W'∧I xs W'
 | .ret,_,W'=>Kept K W W'∧Ix .ret xs W'
 | .exit id,_,W'=>Kept K W W'∧Ix (.exit id) xs W'
 | .goto t,_,W'=>Kept K W W'∧Ix (.goto t) xs W'
 | .panic _,_,_=>False
 | .outgrown,_,_=>False
theorem zpJ {P:Program} {α:Type} {ro:Option Nat} {n:Nat} {g:Operand} {ps:Array Tmp} {assign body:Code} {Q:Exit→Act→World→Prop} {a:Act} {w:World}
  {gf:Nat} {lb:Array Value} (hg:a.eval g=.func (.func gf) #[] lb) (eg:∀ args w,(callFunc gf args).run P w=.ok (.enter gf args) w)
  {Rp:α→Array Value→World→Prop} {K M:Nat→Obj→Prop} {xs:List α}
  (hMc:∀ k o,M k o→o.isCells=true) (Hu:∀ k o,K k o→∀ r,o≠.loop r) (hps:∀ x av W,Rp x av W→av.size=ps.size)
  (I:List α→World→Prop) (Ix:Code→List α→World→Prop)
  (hI:∀ s A B,I s A→Moves (zac M w.heap.size) A B→I s B) (hIx:∀ c s A B,Ix c s A→Moves (zac M w.heap.size) A B→Ix c s B)
  (Ax:α→Act→World→Prop) (hAx:∀ x a' A B,Ax x a' A→Moves (zac (fun _ _=>False) w.heap.size) A B→Ax x a' B)
  (H2:∀ (l:Nat) (H0:List α) (x:α) (H1:List α) (W:World) (av:Array Value) (K':Act→World→Prop),xs=H0++x::H1→I H0 W→w.heap.size≤W.heap.size→Rp x av W →
    (∀ a' W',Kept (zac K w.heap.size) W W'→I H0 W'→Ax x a' W'→K' a' W') →
    assign.wpIn (Wd (some l)) n P (Exit.then K' (fun _ _ _=>False)) { tmps:=(ps.zip av).foldl (fun t (p,v)=>t.setIfInBounds p v) a.tmps,defers:=[] } W)
  (H6:∀ (l:Nat) (H0:List α) (x:α) (H1:List α) (a':Act) (W:World),xs=H0++x::H1→w.heap.size≤l→(∃ r,W.heap[l]?=E (.loop r))→I H0 W→w.heap.size≤W.heap.size→Ax x a' W →
    body.wpIn (Wd (some l)) n P (zmy (zac K w.heap.size) I Ix (H0++[x]) W) a' W)
  {fn:FuncId} {l:Nat} {mark:List Deferred} {W1:World} {dfs:Nat} (HB:w.heap.size≤l)
  (hseq:Seq P gf lb Rp K M xs W1) (Hl:w.heap.size≤W1.heap.size)
  (Hn:(Instr.enterLoop fn a.tmps ps assign body ro).run P w=.ok (l,mark) W1)
  (HF:W1.heap[l]?=E (.loop { state:=.ready,pending:=none,fn,tmps:=a.tmps,params:=ps,assign,body,defers:=dfs }))
  (HV:I [] W1)
  (X:World→Prop) (hX:∀ A B,X A→(∀ k o,A.heap[k]?=E o→w.heap.size≤k→k<W1.heap.size→k≠l→o.isCells=false→B.heap[k]?=E o)→X B) (HZ:X W1)
  (H7:∀ W,I xs W→X W→Q .normal { a with defers:=mark++a.defers } W)
  (H8:∀ c H0 W,H0 <+: xs→Ix c H0 W→X W→c.wpIn (Wd ro) n P Q { a with defers:=mark++a.defers } W) :
  ∃ (l:Nat) (mark:List Deferred) (w₁:World) (d:Deferred) (w₁':World) (f:FuncId) (args:Array Value) (w₂:World),
   (Instr.enterLoop fn a.tmps ps assign body ro).run P w=.ok (l,mark) w₁ ∧
   (resolve a.eval (rangeCall g l) 0).run P w₁=.ok d w₁' ∧
   (∀ f',Target.leads P w₁' d.target d.args=E f'→(Wd ro).fn f') ∧
   (invoke d.target d.args).run P w₁'=.ok (.enter f args) w₂ ∧
   ((Wd ro).depth.isSome=true→1≤n) ∧
   CallsIn (Wd ro) (n-1) P f args w₂ (rangePost (Wd ro) n P l Q { a with defers:=mark++a.defers }):=by
 obtain ⟨H9,H4⟩:∃ H9:LoopState→Option Code→Loop,H9=fun st pe=>{ state:=st,pending:=pe,fn,tmps:=a.tmps,params:=ps,assign,body,defers:=dfs }:=⟨_,rfl⟩
 have Hv:W1.heap[l]?=E (.loop (H9 .ready none)):=by rw[H4];exact HF
 -- the record's own turns
 have HO:∀ (A:World) (o o':Obj),A.heap[l]?=E o→o.isCells=false→Moves (zac (fun _ _=>False) w.heap.size) A (A.putObj l o'):=fun A o o' ho hc =>
  Moves.refl.putObj (fun o₁ h₁=>by rw[ho] at h₁;cases h₁;exact .inr ⟨HB,hc⟩) o'
 have zbG:∀ s A o o',I s A→A.heap[l]?=E o→o.isCells=false→I s (A.putObj l o'):=fun s A o o' hi ho hc =>
  hI s _ _ hi ((HO A o o' ho hc).weaken (fun k o h=>by rcases h with h | h;exact h.elim;exact .inr h))
 have Hc:∀ c s A o o',Ix c s A→A.heap[l]?=E o→o.isCells=false→Ix c s (A.putObj l o'):=fun c s A o o' hi ho hc =>
  hIx c s _ _ hi ((HO A o o' ho hc).weaken (fun k o h=>by rcases h with h | h;exact h.elim;exact .inr h))
 have Hy:l<W1.heap.size:=(P0.1 Hv).1
 have Hg:∀ A o',X A→X (A.putObj l o'):=fun A o' hx=>hX A _ hx (fun k o hk _ _ HL _=>(Pe HL).trans hk)
 have Hi:∀ {K':Nat→Obj→Prop} (A B:World),X A→Kept (zac K' w.heap.size) A B→X B:=fun A B hx hk =>
  hX A B hx (fun k o ho hn _ _ hc=>hk.same k o ho (.inr ⟨hn,hc⟩))
 have Hf:∀ (A B:World) (k:Nat) (o:Obj),A.heap[k]?=E o→k<W1.heap.size→o.isCells=false→Moves (zac M W1.heap.size) A B→B.heap[k]?=E o:=fun A B k o ho hk hc hm =>
  hm.same k o ho (fun h=>by
   rcases h with h | h
   ·have:=hMc k o h;rw[hc] at this;cases this
   ·omega)
 have Hk:∀ (A B:World),X A→Moves (zac M W1.heap.size) A B→X B:=fun A B hx hm =>
  hX A B hx (fun k o ho _ HI _ hc=>Hf A B k o ho HI hc hm)
 have Hj:∀ (A B:World),Moves (zac M W1.heap.size) A B→Moves (zac M w.heap.size) A B:=fun A B hm =>
  hm.weaken (fun k o h=>by rcases h with h | h;exact .inl h;exact .inr ⟨by omega,h.2⟩)
 refine ⟨l,mark,W1,{ target:=.fn (.func gf) lb,args:=#[.func (.yield l) #[] #[]] },W1,gf,#[.func (.yield l) #[] #[]]++lb,W1,Hn,?_,fun _ _=>trivial,?_,fun h=>by simp[Fence.wide] at h,?_⟩
 ·simp only[resolve,hg]
  simp[go_sem]
 ·simp[invoke,go_sem,eg]
 ·refine callsIn_wd.2 ?_
  refine (hseq l
   (fun H0 W=>I H0 W∧W.heap[l]?=E (.loop (H9 .ready none))∧X W)
   (fun H0 W=>∃ c,Ix c H0 W∧W.heap[l]?=E (.loop (H9 .done (some c)))∧X W)
   (fun s A B hs hm=>⟨hI s A B hs.1 (Hj A B hm),Hf A B l _ hs.2.1 Hy rfl hm,Hk A B hs.2.2 hm⟩)
   (fun s A B hs hm=>by
     obtain ⟨c,hc,hl,hx⟩:=hs
     exact ⟨c,hIx c s A B hc (Hj A B hm),Hf A B l _ hl Hy rfl hm,Hk A B hx hm⟩)
   ?_ ⟨HV,Hv,HZ⟩).mono ?_
  · -- ONE ROUND
   rintro H0 x H1 HU W av ⟨hi,hl,hx⟩ Kc HS;have hy:=run_yield (P:=P) (args:=av) hl (by rw[H4];exact hps x av W HS);rw[H4] at hy
   refine ⟨fn,_,assign,body,hy,?_⟩
   clear hy
   have rd:=roundIn_of_wpIn (F:=Wd (some l)) (n:=n) (P:=P) (l:=l) (f:=fn) (w:=W) (assign:=assign) (body:=body) (tmps:=(ps.zip av).foldl (fun t (p,v)=>t.setIfInBounds p v) a.tmps)
    (R:=fun e W'=>Kept (zac K W1.heap.size) W W'∧((e=.returned (O true)∧I (H0++[x]) W'∧W'.heap[l]?=E (.loop (H9 .ready none))∧X W') ∨
      (e=.returned (O false)∧∃ c,Ix c (H0++[x]) W'∧W'.heap[l]?=E (.loop (H9 .done (some c)))∧X W')))
    trivial (H2 l H0 x H1 W av _ HU hi (by omega) HS ?_)
   ·exact ⟨trivial,fun c cs _=>rd.2 c cs (room_wide _)⟩
   ·intro a' Wa Hx K5 K2
    have HD:=Hx.same l _ hl (.inr ⟨HB,rfl⟩);have Ka:=Hi W Wa hx Hx
    have HJ:l<Wa.heap.size:=(P0.1 HD).1
    refine ⟨_,run_beginRound HD (by rw[H4]),?_⟩
    have HR:(Wa.putObj l (.loop { H9 .ready none with state:=.busy })).heap[l]?=E (.loop { H9 .ready none with state:=.busy }):=Pg HJ
    refine wpIn_mono (H6 l H0 x H1 a' _ HU HB ⟨_,HR⟩ (zbG _ _ _ _ K5 HD rfl) (by simp;have:=Hx.size;omega) (hAx x a' _ _ K2 (HO _ _ _ HD rfl))) ?_
    -- what is known behind the body
    have fin:∀ (H3:Option Code) (W3:World),Kept (zac K w.heap.size) (Wa.putObj l (.loop { H9 .ready none with state:=.busy })) W3 →
      (Instr.endRound l H3).run P W3=.ok (O H3.isNone) (W3.putObj l (.loop (H9 (if H3.isNone then .ready else .done) H3))) ∧
      W3.heap[l]?=E (.loop { H9 .ready none with state:=.busy }) ∧
      (W3.putObj l (.loop (H9 (if H3.isNone then .ready else .done) H3))).heap[l]?=E (.loop (H9 (if H3.isNone then .ready else .done) H3)) ∧
      X (W3.putObj l (.loop (H9 (if H3.isNone then .ready else .done) H3))) ∧
      Kept (zac K W1.heap.size) W (W3.putObj l (.loop (H9 (if H3.isNone then .ready else .done) H3))):=fun H3 W3 Hd=>by
     have He:=Hd.same l _ HR (.inr ⟨HB,rfl⟩);have HA:=run_endRound (P:=P) H3 He
     rw[H4] at HA ⊢
     refine ⟨HA,by rw[H4] at He;exact He,Pg (P0.1 He).1,Hg _ _ (Hi _ _ (Hg _ _ Ka) Hd),⟨?_,?_⟩⟩
     ·have h1:=Hx.size;have h2:=Hd.size;simp at h2 ⊢;omega
     ·intro k o hk hK
      have HP:zac K w.heap.size k o:=by
       rcases hK with h | h
       ·exact .inl h
       ·exact .inr ⟨by omega,h.2⟩
      by_cases e:k=l
      ·subst e
       rw[hl] at hk;cases hk
       rcases hK with h | h
       ·exact absurd rfl (Hu _ _ h _)
       ·omega
      ·have h1:=Hx.same k o hk HP
       have h2:=Hd.same k o ((Pe e).trans h1) HP
       exact (Pe e).trans h2
    rintro e a3 W3 hp
    cases e with
    | normal =>
     obtain ⟨Hd,Ho⟩:=hp;obtain ⟨hr,He,Hr,Ht,Hq⟩:=fin none W3 Hd
     exact ⟨_,_,hr,Hq,.inl ⟨rfl,zbG _ _ _ _ Ho He rfl,Hr,Ht⟩⟩
    | ret =>
     obtain ⟨Hd,Ho⟩:=hp;obtain ⟨hr,He,Hr,Ht,Hq⟩:=fin (some .ret) W3 Hd
     exact ⟨_,_,hr,Hq,.inr ⟨rfl,.ret,Hc _ _ _ _ _ Ho He rfl,Hr,Ht⟩⟩
    | exit id =>
     obtain ⟨Hd,Ho⟩:=hp;obtain ⟨hr,He,Hr,Ht,Hq⟩:=fin (some (.exit id)) W3 Hd
     exact ⟨_,_,hr,Hq,.inr ⟨rfl,.exit id,Hc _ _ _ _ _ Ho He rfl,Hr,Ht⟩⟩
    | goto t =>
     obtain ⟨Hd,Ho⟩:=hp;obtain ⟨hr,He,Hr,Ht,Hq⟩:=fin (some (.goto t)) W3 Hd
     exact ⟨_,_,hr,Hq,.inr ⟨rfl,.goto t,Hc _ _ _ _ _ Ho He rfl,Hr,Ht⟩⟩
    | panic ch=>exact hp.elim
    | outgrown=>exact hp.elim
  · -- BEHIND THE ITERATOR
   rintro e W2 ⟨⟨v,rfl⟩,(⟨hi,hl,hx⟩ | ⟨H0,hpre,c,hi,hl,hx⟩)⟩
   ·exact ⟨none,_,by have:=run_endLoop (P:=P) hl (by rw[H4];simp);rw[H4] at this;exact this,H7 _ (zbG _ _ _ _ hi hl rfl) (Hg _ _ hx)⟩
   ·exact ⟨some c,_,by have:=run_endLoop (P:=P) hl (by rw[H4];simp);rw[H4] at this;exact this,H8 c H0 _ hpre (Hc _ _ _ _ _ hi hl rfl) (Hg _ _ hx)⟩
theorem zig {P:Program} {α:Type} {n:Nat} {g:Operand} {ps:Array Tmp} {assign body:Code} {Q:Exit→Act→World→Prop} {a:Act} {w:World}
  {gf:Nat} {lb:Array Value} (hg:a.eval g=.func (.func gf) #[] lb) (eg:∀ args w,(callFunc gf args).run P w=.ok (.enter gf args) w)
  {Rp:α→Array Value→World→Prop} {K M:Nat→Obj→Prop} {xs:List α}
  (hseq:∀ W1,Below w.heap.size w W1→W1.heap.size=w.heap.size+2→Seq P gf lb Rp K M xs W1)
  (hMc:∀ k o,M k o→o.isCells=true) (Hu:∀ k o,K k o→∀ r,o≠.loop r) (hps:∀ x av W,Rp x av W→av.size=ps.size)
  (I:List α→World→Prop) (Ix:Code→List α→World→Prop)
  (hI:∀ s A B,I s A→Moves (zac M w.heap.size) A B→I s B) (hIx:∀ c s A B,Ix c s A→Moves (zac M w.heap.size) A B→Ix c s B) (h0:I [] w)
  (Ax:α→Act→World→Prop) (hAx:∀ x a' A B,Ax x a' A→Moves (zac (fun _ _=>False) w.heap.size) A B→Ax x a' B)
  (H2:∀ (l:Nat) (H0:List α) (x:α) (H1:List α) (W:World) (av:Array Value) (K':Act→World→Prop),xs=H0++x::H1→I H0 W→w.heap.size≤W.heap.size→Rp x av W →
    (∀ a' W',Kept (zac K w.heap.size) W W'→I H0 W'→Ax x a' W'→K' a' W') →
    assign.wpIn (Wd (some l)) n P (Exit.then K' (fun _ _ _=>False)) { tmps:=(ps.zip av).foldl (fun t (p,v)=>t.setIfInBounds p v) a.tmps,defers:=[] } W)
  (H6:∀ (l:Nat) (H0:List α) (x:α) (H1:List α) (a':Act) (W:World),xs=H0++x::H1→w.heap.size≤l→(∃ r,W.heap[l]?=E (.loop r))→I H0 W→w.heap.size≤W.heap.size→Ax x a' W →
    body.wpIn (Wd (some l)) n P (zmy (zac K w.heap.size) I Ix (H0++[x]) W) a' W)
  (H7:∀ D W,w.heap.size≤D→I xs W→W.heap[D]?=E (.deferred (some []))→Q .normal { a with defers:={ target:=.collected D,args:=#[] }::a.defers } W)
  (H8:∀ D c H0 W,w.heap.size≤D→H0 <+: xs→Ix c H0 W→W.heap[D]?=E (.deferred (some []))→c.wpIn (Wd none) n P Q { a with defers:={ target:=.collected D,args:=#[] }::a.defers } W) :
  (Code.rangeFunc g ps assign body).wpIn (Wd none) n P Q a w:=by
 refine wpIn_rangeFunc ?_
 intro fn _;obtain ⟨W1,Hl⟩:∃ W1,(w.alloc (.deferred (some []))).alloc (.loop { state:=.ready,pending:=none,fn,tmps:=a.tmps,params:=ps,assign,body,defers:=w.heap.size })=W1:=⟨_,rfl⟩
 have K3:Below w.heap.size w W1:=by rw[←Hl];exact ((Px _ w).alloc (xN _) _).alloc (by simp) _
 have K9:W1.heap.size=w.heap.size+2:=by rw[←Hl];simp
 have HF:W1.heap[w.heap.size+1]?=E (.loop { state:=.ready,pending:=none,fn,tmps:=a.tmps,params:=ps,assign,body,defers:=w.heap.size }):=by
  rw[←Hl];have:=Ph (w.alloc (.deferred (some []))) (.loop { state:=.ready,pending:=none,fn,tmps:=a.tmps,params:=ps,assign,body,defers:=w.heap.size });rwa [xS] at this
 have HW:W1.heap[w.heap.size]?=E (.deferred (some [])):=by
  rw[←Hl];exact (Pw _ _ _ (by simp)).trans (Ph w _)
 have K7:Moves (zac M w.heap.size) w W1:=by rw[←Hl];exact (Moves.refl.alloc _).alloc _
 refine zpJ (fn:=fn) (mark:=[{ target:=.collected w.heap.size,args:=#[] }]) (l:=w.heap.size+1) (W1:=W1) (dfs:=w.heap.size) hg eg hMc Hu hps I Ix hI hIx Ax hAx H2 H6 (by omega) (hseq W1 K3 K9) (by omega) ?_ HF (hI _ _ _ h0 K7)
  (fun W=>W.heap[w.heap.size]?=E (.deferred (some []))) ?_ HW (fun W hi hx=>H7 _ W (xN _) hi hx) (fun c H0 W hp hi hx=>H8 _ c H0 W (xN _) hp hi hx)
 ·rw[←Hl];exact run_enterLoop_outer _ _ _ _ _
 ·intro A B hx hk
  exact hk _ _ hx (xN _) (by omega) (by omega) rfl
theorem zcy {P:Program} {α:Type} {n:Nat} {g:Operand} {ps:Array Tmp} {assign body:Code} {Q:Exit→Act→World→Prop} {a:Act} {w:World}
  {gf:Nat} {lb:Array Value} (hg:a.eval g=.func (.func gf) #[] lb) (eg:∀ args w,(callFunc gf args).run P w=.ok (.enter gf args) w)
  {Rp:α→Array Value→World→Prop} {K M:Nat→Obj→Prop} {xs:List α}
  (hseq:∀ W1,Below w.heap.size w W1→W1.heap.size=w.heap.size+2→Seq P gf lb Rp K M xs W1)
  (hMc:∀ k o,M k o→o.isCells=true) (Hu:∀ k o,K k o→o.isCells=true) (hps:∀ x av W,Rp x av W→av.size=ps.size)
  (I:List α→World→Prop) (Ix:Code→List α→World→Prop)
  (hI:∀ s A B,I s A→Moves (zac M w.heap.size) A B→I s B) (hIx:∀ c s A B,Ix c s A→Moves (zac M w.heap.size) A B→Ix c s B) (h0:I [] w)
  (Ax:α→Act→World→Prop) (hAx:∀ x a' A B,Ax x a' A→Moves (zac (fun _ _=>False) w.heap.size) A B→Ax x a' B)
  (H2:∀ (l:Nat) (H0:List α) (x:α) (H1:List α) (W:World) (av:Array Value) (K':Act→World→Prop),xs=H0++x::H1→I H0 W→w.heap.size≤W.heap.size→Rp x av W →
    (∀ a' W',Kept (zac K w.heap.size) W W'→I H0 W'→Ax x a' W'→K' a' W') →
    assign.wpIn (Wd (some l)) n P (Exit.then K' (fun _ _ _=>False)) { tmps:=(ps.zip av).foldl (fun t (p,v)=>t.setIfInBounds p v) a.tmps,defers:=[] } W)
  (H6:∀ (l:Nat) (H0:List α) (x:α) (H1:List α) (a':Act) (W:World),xs=H0++x::H1→w.heap.size≤l→(∃ r,W.heap[l]?=E (.loop r))→I H0 W→w.heap.size≤W.heap.size→Ax x a' W →
    body.wpIn (Wd (some l)) n P (zmy (zac K w.heap.size) I Ix (H0++[x]) W) a' W)
  (H7:∀ D W,w.heap.size≤D→I xs W→W.heap[D]?=E (.deferred (some []))→Q .normal { a with defers:={ target:=.collected D,args:=#[] }::a.defers } W)
  (H8:∀ D c H0 W,w.heap.size≤D→H0 <+: xs→Ix c H0 W→W.heap[D]?=E (.deferred (some []))→c.wpIn (Wd none) n P Q { a with defers:={ target:=.collected D,args:=#[] }::a.defers } W) :
  (Code.rangeFunc g ps assign body).wpIn (Wd none) n P Q a w :=
 zig hg eg hseq hMc (fun k o h r e=>by have:=Hu k o h;rw[e] at this;cases this) hps I Ix hI hIx h0 Ax hAx H2 H6 H7 H8
theorem zaA {W:World} {D:Nat} {o:Obj} (h:W.heap[D]?=E o) (hc:o.isCells=false) (a:Addr) (v:Value):(W.setCell a v).heap[D]?=E o:=by
 by_cases e:D=a.block
 ·subst e;exact zdr h hc
 ·exact (Pv W a v D e).trans h
theorem zbO {P:Program} {n:Nat} {fn:Func} {tmps:Array Value} {R:Ending→World→Prop} {D:Nat} {W:World} (hK:W.heap[D]?=E (.deferred (some []))) (v:Value)
  (Hs:(results fn tmps).run P (W.putObj D (.deferred none))=.ok v (W.putObj D (.deferred none))) (hR:R (.returned v) (W.putObj D (.deferred none))) :
  bodyPostM (Wd none) n P fn R .ret ⟨tmps,[{ target:=.collected D,args:=#[] }]⟩ W :=
 ⟨by simp,.inl ⟨_,_,rfl,run_takeDeferred hK,⟨_,Hs,hR⟩⟩⟩
theorem zi5 {P:Program} {n:Nat} {fn:Func} {tmps:Array Value} {R:Ending→World→Prop} {D:Nat} {W:World} (hK:W.heap[D]?=E (.deferred (some []))) (v:Value)
  (Hs:(results fn tmps).run P (W.putObj D (.deferred none))=.ok v (W.putObj D (.deferred none))) (hR:R (.returned v) (W.putObj D (.deferred none))) :
  bodyPostM (Wd none) n P fn R .normal ⟨tmps,[{ target:=.collected D,args:=#[] }]⟩ W :=
 ⟨by simp,.inl ⟨_,_,rfl,run_takeDeferred hK,⟨_,Hs,hR⟩⟩⟩
theorem zaN {N:Nat} {w W:World} (h:Below N w W) {D:Nat} (hD:N≤D) (o:Obj):Below N w (W.putObj D o) :=
 ⟨h.os,h.tape,h.output,P8 h.size (by simp),fun k hk=>(Pe (by omega)).trans (h.block k hk)⟩
theorem zcL {W:World} {p:Addr} {v:Value} (h:W.cell? p=E v) {D:Nat} {o:Obj} (hD:W.heap[D]?=E o) (hc:o.isCells=false) (o':Obj):(W.putObj D o').cell? p=E v:=by
 obtain ⟨o₁,ho,H5⟩:=cells_of_cell h
 refine (Pf (Pe (fun e=>?_))).trans h
 rw[e,hD] at ho;cases ho;rw[hc] at H5;cases H5
open Go.RowKit
abbrev Ext (w w':World):Prop:=Below w.heap.size w w'
theorem Ext.trans {a b c:World} (h:Ext a b) (k:Ext b c):Ext a c:=Below.trans h (k.mono h.size)
theorem xT {a b c:World} (h:Ext a b) (k:Ext b c):Ext a c:=Ext.trans h k
theorem Ext.refl (w:World):Ext w w:=Px _ _
theorem xR (w:World):Ext w w:=Ext.refl w
theorem Ext.alloc {a b:World} (h:Ext a b) (o:Obj):Ext a (b.alloc o):=Below.alloc h h.size o
theorem xA {a b:World} (h:Ext a b) (o:Obj):Ext a (b.alloc o):=Ext.alloc h o
theorem Ext.drew {a b:World} (h:Ext a b):Ext a b.drew:=Below.drew h
theorem xD {a b:World} (h:Ext a b):Ext a b.drew:=Ext.drew h
theorem Ext.grown {a b:World} (h:Ext a b) (row:Option Nat):a.grownBy b row:=⟨h.os,h.tape,h.output,h.size,fun k hk _=>h.block k hk⟩
theorem Ext.cell {a b:World} (h:Ext a b) {p:Addr} {v:Value} (hc:a.cell? p=E v):b.cell? p=E v :=
 (Below.cell h (World.block_lt_of_cell? a p hc)).trans hc
def SlR (w:World) (size:Nat) (v:Value) (n:Nat) (xs:List Value):Prop :=
 xs.length=n*size∧∃ A c,v=G A n c∧n≤c∧c≤maxLen∧(0<n→∃ b Hb,A=E ⟨b,Hb,H⟩∧∀ j u,xs[j]?=E u→w.cell? ⟨b,Hb+j,H⟩=E u)
section
variable {w w':World} {size:Nat} {v:Value} {n:Nat} {xs:List Value}
theorem SlR.keep (h:SlR w size v n xs) (hk:∀ p u,w.cell? p=E u→w'.cell? p=E u):SlR w' size v n xs:=by
 obtain ⟨hl,A,c,rfl,h1,h2,h3⟩:=h
 refine ⟨hl,A,c,rfl,h1,h2,fun hn=>?_⟩
 obtain ⟨b,Hb,rfl,hc⟩:=h3 hn
 exact ⟨b,Hb,rfl,fun j u hu=>hk _ _ (hc j u hu)⟩
theorem SlR.ext (h:SlR w size v n xs) (he:Ext w w'):SlR w' size v n xs:=h.keep fun _ _ hc=>he.cell hc
theorem SlR.nil (w:World) (size:Nat):SlR w size (G none 0 0) 0 []:=⟨by simp,none,0,rfl,xN _,Pb _,fun h=>absurd h (by omega)⟩
theorem SlR.empty (w:World) (size:Nat) {A:Option Addr} {c:Nat} (hc:c≤maxLen):SlR w size (G A 0 c) 0 []:=⟨by simp,A,c,rfl,Pb _,hc,fun h=>absurd h (by omega)⟩
theorem SlR.open_ (h:SlR w size v n xs):∃ A c,v=G A n c∧n≤c∧c≤9223372036854775807:=by
 obtain ⟨_,A,c,rfl,h1,h2,_⟩:=h
 exact ⟨A,c,rfl,h1,by simpa [maxLen] using h2⟩
theorem xO {w:World} {size:Nat} {v:Value} {n:Nat} {xs:List Value} (h:SlR w size v n xs):∃ A c,v=G A n c∧n≤c∧c≤9223372036854775807:=SlR.open_ h
theorem SlR.at_ {A:Option Addr} {m c:Nat} (h:SlR w size (G A m c) n xs) (hn:0<n):m=n∧∃ b Hb,A=E ⟨b,Hb,H⟩∧∀ j u,xs[j]?=E u→w.cell? ⟨b,Hb+j,H⟩=E u:=by
 obtain ⟨_,A',c',hv,h1,h2,h3⟩:=h
 injection hv with e1 e2 e3
 subst e1 e2 e3
 exact ⟨rfl,h3 hn⟩
theorem SlR.len_le (h:SlR w size v n xs):n≤maxLen:=by obtain ⟨_,_,c,_,h1,h2,_⟩:=h;omega
theorem SlR.of_own {base:Nat} {e:TypeId} (h:w.ownsRow base e size v n xs):SlR w size v n xs:=by
 refine ⟨h.1,?_⟩
 rcases h.2 with ⟨rfl,rfl⟩ | ⟨g,cap,Ha,rfl,_,_,hnc,hcm,_⟩
 ·exact ⟨none,0,rfl,xN _,Pb _,fun h=>absurd h (by omega)⟩
 ·refine ⟨some ⟨g,0,H⟩,cap,rfl,hnc,hcm,fun _=>⟨g,0,rfl,fun j u hu=>?_⟩⟩
  have:=h.cells (g:=g) rfl j u hu
  rw[show (⟨g,0,H⟩:Addr).add j=⟨g,0+j,H⟩ from by unfold Addr.add;split <;> simp_all] at this
  exact this
theorem xW {w:World} {size:Nat} {v:Value} {n:Nat} {xs:List Value} {base:Nat} {e:TypeId} (h:w.ownsRow base e size v n xs):SlR w size v n xs:=SlR.of_own h
end
theorem zqG {B:Nat} {a w:World} (h:Below B a w) (n:Nat):Below B a (w.drewN n):=⟨h.os,h.tape,h.output,h.size,h.block⟩
theorem SlR.drop1 {w:World} {b Hb c n:Nat} {xs:List Value} (h:SlR w 1 (G (E ⟨b,Hb,H⟩) n c) n xs) (k:Nat) (hk:k≤n):SlR w 1 (G (E ⟨b,Hb+k,H⟩) (n-k) (c-k)) (n-k) (xs.drop k):=by
 obtain ⟨hl,A,c',e,h1,h2,h3⟩:=h
 cases e
 refine ⟨by rw[List.length_drop,hl];omega,_,_,rfl,by omega,by omega,fun hn=>?_⟩
 obtain ⟨b',Kb,e',hc⟩:=h3 (by omega)
 cases e'
 refine ⟨b,Hb+k,rfl,fun j u hu=>?_⟩
 rw[Nat.add_assoc]
 exact hc (k+j) u (by rw[←hu,List.getElem?_drop])
def bv (b:UInt8):Value:=.int .u8 b.toNat
def Bs (w:World) (v:Value) (bs:List UInt8):Prop:=SlR w 1 v bs.length (bs.map bv)
def iv (n:Int):Value:=.int .i64 n
def Is (w:World) (v:Value) (l:List Int):Prop:=SlR w 1 v l.length (l.map iv)
theorem Bs.ext {w w':World} {v:Value} {bs:List UInt8} (h:Bs w v bs) (he:Ext w w'):Bs w' v bs:=SlR.ext h he
theorem Is.ext {w w':World} {v:Value} {bs:List Int} (h:Is w v bs) (he:Ext w w'):Is w' v bs:=SlR.ext h he
theorem zab {w w':World} {base:Nat} {e:TypeId} {size:Nat} {v:Value} {n:Nat} {xs:List Value} (h:w.ownsRow base e size v n xs) (he:Ext w w'):w'.ownsRow base e size v n xs :=
 h.kept (Ext.grown he (some w.heap.size)) (.inr (fun e=>by have:=(h.lt _ e).2;omega))
theorem zaf {w:World} {base base':Nat} {e:TypeId} {size:Nat} {v:Value} {n:Nat} {xs:List Value} (h:w.ownsRow base e size v n xs) (hb:base'≤base):w.ownsRow base' e size v n xs:=by
 refine ⟨h.1,?_⟩
 rcases h.2 with hn | ⟨g,cap,Ha,rfl,hg,rest⟩
 ·exact .inl hn
 ·exact .inr ⟨g,cap,Ha,rfl,by omega,rest⟩
theorem zaG (w:World) (cs:List Value) (e:TypeId) (m:Nat) (hm:m=cs.length) (hl:m≤maxLen) {base:Nat} (hb:base≤w.heap.size):(w.alloc (L cs.toArray e)).ownsRow base e 1 (G (E ⟨w.heap.size,0,H⟩) m m) m cs:=by
 subst hm
 exact ⟨by simp,.inr ⟨w.heap.size,cs.length,cs.toArray,rfl,hb,heap_alloc_new w _,xN _,hl,by simp,by simp⟩⟩
theorem Bs.cut {w:World} {b Hb c n:Nat} {bs:List UInt8} (h:Bs w (G (E ⟨b,Hb,H⟩) n c) bs) (k:Nat) (hk:k≤bs.length) (hn:n=bs.length):Bs w (G (E ⟨b,Hb+k,H⟩) (n-k) (c-k)) (bs.drop k):=by
 subst hn
 have:=SlR.drop1 h k hk
 unfold Bs
 rw[List.length_drop,←List.map_drop] at *
 exact this
theorem Bs.cut0 {w:World} {A:Option Addr} {n k c:Nat} {bs:List UInt8} (hk:bs.length≤k) (hn:n=bs.length) (hc:c≤9223372036854775807):Bs w (G A (n-k) c) (bs.drop k):=by
 subst hn;unfold Bs
 rw[show bs.length-k=0 from by omega,List.drop_of_length_le hk]
 exact SlR.empty w 1 (by simpa [maxLen] using hc)
theorem zbI (l:List UInt8):∀ u∈l.map bv,u.oneCell'=true:=by
 intro u hu;obtain ⟨b,_,rfl⟩:=List.mem_map.1 hu;rfl
theorem zrs (l:List Int):∀ u∈l.map iv,u.oneCell'=true:=by
 intro u hu;obtain ⟨b,_,rfl⟩:=List.mem_map.1 hu;rfl
theorem Ext.grownOwn {w wr w1:World} {e:TypeId} {size:Nat} {v:Value} {n:Nat} {xs:List Value} (h:Ext w wr) (HM:wr.ownsRow w.heap.size e size v n xs) (hg:wr.grownBy w1 v.ownBlock):Ext w w1 :=
 Below.grown h hg h.size (fun k ek=>(HM.lt k ek).1)
theorem zdL {w:World} {base:Nat} {e:TypeId} {size:Nat} {v:Value} {n:Nat} {xs:List Value} (h:w.ownsRow base e size v n xs) (hn:0<n):∃ g cap,v=G (E ⟨g,0,H⟩) n cap∧base≤g∧n≤cap∧cap≤9223372036854775807:=by
 rcases h.2 with ⟨_,h0⟩ | ⟨g,cap,_,rfl,hb,_,h1,h2,_⟩
 ·omega
 ·exact ⟨g,cap,rfl,hb,h1,by simpa [maxLen] using h2⟩
theorem zdS {w:World} {base:Nat} {e:TypeId} {size:Nat} {v:Value} {n:Nat} {xs:List Value} (h:w.ownsRow base e size v n xs) {k:Nat} (hk:v.ownBlock=E k):∃ Ha,w.heap[k]?=E (L Ha e (0,0)):=by
 rcases h.2 with ⟨rfl,_⟩ | ⟨g,cap,Ha,rfl,_,hg,_⟩
 ·simp[Value.ownBlock] at hk
 ·have:g=k:=by simpa [Value.ownBlock] using hk
  subst this
  exact ⟨Ha,hg⟩
theorem zkO {w:World} {base base':Nat} {e e':TypeId} {size size':Nat} {v v':Value} {n n':Nat} {xs xs':List Value} (h:w.ownsRow base e size v n xs) (h':w.ownsRow base' e' size' v' n' xs') (he:e≠e'):v.ownBlock=none∨v.ownBlock≠v'.ownBlock:=by
 cases hk:v.ownBlock with
 | none=>exact .inl rfl
 | some k =>
  refine .inr (fun e0=>?_)
  obtain ⟨c,hc⟩:=zdS h hk;obtain ⟨c',HQ⟩:=zdS h' e0.symm;rw[hc] at HQ
  cases HQ
  exact he rfl
theorem Kept.appended {K:Nat→Obj→Prop} {W w1:World} {n₀ B:Nat} {t e:TypeId} {size:Nat} {v:Value} {k:Nat} {xs:List Value} {tmp:Obj} (u:Value)
  (hv:Boxed W B t v) (HN:W.ownsRow n₀ e size v k xs) (Hw:(W.alloc tmp).grownBy w1 v.ownBlock)
  (HX:¬ K B (L #[v] t (0,0))) (HY:∀ k Ha,v.ownBlock=E k→¬ K k (L Ha e (0,0))):Kept K W (w1.setCell ⟨B,0,H⟩ u):=by
 refine ((Kept.refl.alloc tmp).grown Hw (fun j o ej hj=>?_)).setCell (fun o ho _=>?_) u
 ·obtain ⟨Ha,hc⟩:=zdS HN ej
  rw[hj] at hc;cases hc
  exact HY j Ha ej
 ·rw[show W.heap[B]?=_ from hv] at ho;cases ho;exact HX
theorem ret_bool {a b:Bool} (h:a=b):Ending.returned (O a)=.returned (O b):=by rw[h]
theorem zgG {k:IntKind} {a b:Int} (h:a=b):Ending.returned (.int k a)=.returned (.int k b):=by rw[h]
end Go.Mv

namespace Go.Proofs.YteggfecbjgbndaaGreatDoor.cutTrims
open Go
theorem cf1:(Rows.cutTrimsRow.inPlace==Tryz.pinned.checked.prog.inPlace 4)=true:=by kernel_rfl
theorem cf2:(Rows.cutTrimsRow.unfollowed==Tryz.pinned.checked.prog.unfollowed 4)=true:=by kernel_rfl
theorem cf3:(Rows.cutTrimsRow.recurses==Tryz.pinned.checked.prog.recurses 4)=true:=by kernel_rfl
theorem cf4:(Rows.cutTrimsRow.named==Tryz.pinned.checked.prog.varsNamed 4)=true:=by kernel_rfl
theorem ztI:joinedFacts Tryz.pinned.checked.prog 4 Tryz.f4 (_root_.Go.OpenSpec.ofChange Rows.cutTrimsSpec).bare Rows.cutTrimsRow=true:=by
 unfold joinedFacts;rw[cf1,cf2,cf3,cf4]
 kernel_rfl
end Go.Proofs.YteggfecbjgbndaaGreatDoor.cutTrims
