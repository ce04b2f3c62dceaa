/- Merged -/
import Derived.WalkLawsBesides
import Derived.Laws.FloatArith
import Derived.Laws.ComplexArith
import Derived.RangeFuncNested
import Derived.RangeFuncLeaves
import Derived.WalkKit
import Derived.Laws.OwnMore
import Derived.Deep.AppendLies
import Derived.Deep.Draws
import Derived.Maps.AppendAt
import Derived.RegionTactic
import Derived.OwnWalk
import Derived.Lib.Hide
import Derived.Test.YteggfecbjgbndaaGreatDoorRows
import Derived.JoinedCond
import Derived.KernelRfl
set_option linter.all false
set_option maxHeartbeats 8000000
set_option maxRecDepth 100000
open List renaming length->S
open Option renaming some->E,none->H
open Go.Value renaming slice->G,bool->O
open Go.Obj renaming cells->L
open Array renaming getElem?_eq_some_iff->P0,getElem?_eq_getElem->P1
open Go.RowKit renaming Hid->P2
open Ieee renaming double->P3,signed->P4
open Nat renaming mul_assoc->P5,two_pow_pos->P6,pow_add->P7,le_trans->P8,shiftLeft_eq->P9,mul_comm->Pa,zero_le->Pb,lt_of_lt_of_le->Pc,mul_ne_zero->Pd
open Go.World renaming putObj_heap_other->Pe,cell?_of_block->Pf,putObj_heap_same->Pg,alloc_heap_new->Ph,setCell->Pi
open Ieee.Format renaming write->Pj,word->Pk,sub->Pl,read->Pm,order->Pn,nearest->Po,mul->Pp,add->Pq
open Int renaming mul_lt_mul_right->Pr,mul_eq_mul_right_iff->Ps,add_mul->Pu
open Go.RowKit.Below renaming heap_setCell->Pv,heap_alloc->Pw,refl->Px
open Bool renaming eq_iff_iff->Py
open Ieee.Datum renaming sum->Pz,product->Q0,order->Q1,number->Q2
namespace Go
def Obj.ty:Obj->Option TypeId
 |.cells _ t _=>some t
 |_=>none
end Go
namespace Go.Mv
variable {tmps:Array Value} {s t:Bool} {assign body:Code} {Q:Exit->Act->World->Prop} {bs:List UInt8} {xs:List Value} {D N base c k m n size x y:Nat} {o:Obj} {A:Option Addr} {ro:Option Nat} {P:Program} {p q r:Prop} {e:TypeId} {v:Value} {W a b w w':World}
theorem mcFloata0{P:Prop}(h:P:=by
 have hp:(0:Int)<((2^d:Nat):Int):=by have:=P6 d;omega
 have z0:(z*((2^d:Nat):Int)=0)=(z=0):=by
  rw[eq_iff_iff];constructor
  ·intro h';rcases Int.mul_eq_zero.1 h' with h' | h'<;>omega
  intro h';rw[h'];simp
 have z1:(z*((2^d:Nat):Int)<0)=(z<0):=by
  have:=Pr (a:=((2^d:Nat):Int)) (b:=z) (c:=0) hp;rw[Int.zero_mul]at this;exact propext this
 simp only[Option.map_some,Pj,z0,z1,Int.natAbs_mul];congr 1
 exact nG _ ⟨d,rfl,by simp⟩ h):P:=h
theorem aN(h:p):P2 p:=h
theorem Qi(a:p)(b:q):P2 p/\P2 q:=⟨a,b⟩
theorem Qj(a:p)(b:q)(c:r):P2 p/\P2 q/\P2 r:=⟨a,b,c⟩
theorem Qk{s:Prop}(a:p)(b:q)(c:r)(d:s):P2 p/\P2 q/\P2 r/\P2 s:=⟨a,b,c,d⟩
theorem Ql{s t:Prop}(a:p)(b:q)(c:r)(d:s)(e:t):P2 p/\P2 q/\P2 r/\P2 s/\P2 t:=⟨a,b,c,d,e⟩
theorem sA.{u} {α:Type u} (l:List α) (i:Nat) (a:α):l.toArray.setIfInBounds i a=(l.set i a).toArray:=List.setIfInBounds_toArray l i a
theorem sZ.{u} {α:Type u} {x:α} {xs:List α} {a:α}:(x::xs).set 0 a=a::xs:=rfl
theorem sS.{u} {α:Type u} {x:α} {xs:List α} {n:Nat} {a:α}:(x::xs).set (n+1) a=x::xs.set n a:=rfl
theorem xS(w:World)(o:Obj):(w.alloc o).heap.size=w.heap.size+1:=World.size_alloc w o
theorem xL.{u} {α:Type u} {a b:List α}:S (a++b)=S a+S b:=List.length_append
theorem xN(n:Nat):n<=n:=Nat.le_refl n
theorem xI.{u} {α:Type u} (a:List α):[]++a=a:=List.nil_append a
theorem xC.{u} {α:Type u} {a:α} {l:List α}:S (a::l)=S l+1:=List.length_cons
open Go.RowKit
def al(s:Bool)(n:Nat):Int:=if s then -(n:Int)else n
def Rep(M:Nat)(i:Int)(n:Nat):Prop:=∃b:Nat,i = -(b:Int)/\M=n*2^b
theorem Nk(b:Nat):Rep 0 (-(b:Int)) 0:=⟨b,rfl,(Nat.zero_mul _).symm⟩
def Fl(x:Nat)(s:Bool)(n:Nat):Prop:=∃M i,P3.read x=.number s M i/\Rep M i n
def cF(n:Nat):Nat:=if n=0 then 0 else(n.log2+1022)*4503599627370496+n*2^(52-n.log2)
def fb(s:Bool)(n:Nat):Nat:=if s then 9223372036854775808+cF n else cF n
theorem yh(n k:Nat)(h:n≠0):(n*2^k).log2=n.log2+k:=by
 induction k with
 |zero=>simp
 |succ k ih=>
  rw[Nat.pow_succ,<-P5,Pa _ 2,Nat.log2_two_mul (by have:=P6 k;exact Pd h (by omega)),ih];omega
theorem dL(s:Bool)(m k:Nat):P4 s m k=al s (m*2^k):=by
 unfold P4 al;rw[P9]
theorem fx(s:Bool)(m k:Nat):al s (m*k)=al s m*k:=by
 unfold al;split<;>simp[Int.neg_mul]
theorem LM(d:Ieee.Toward)(s:Bool)(q v:Nat):d.cut s (q*2^v) v=q:=by
 unfold Ieee.Toward.cut;dsimp only;rw[P9,Nat.one_mul];rcases Nat.eq_zero_or_pos q with rfl | f
 ·cases d<;>simp
  all_goals (rw[Nat.zero_mod,Nat.zero_div];simp)
 ·have hm:min v ((q*2^v).log2+2)=v:=by rw[yh q v (by omega)];omega
  have f:=P6 v;rw[hm,Nat.mul_div_cancel _ f,Nat.mul_mod_left];cases d<;>simp
theorem fS(n:Nat)(hn:n<9007199254740992):cF n<9218868437227405312/\(n≠0->n.log2<=52/\4503599627370496<=n*2^(52-n.log2)/\n*2^(52-n.log2)<9007199254740992):=by
 unfold cF;split
 ·rename_i h;exact⟨by decide,λl=>absurd h l⟩
 ·rename_i g;have hl:n.log2<53:=(Nat.log2_lt g).2 (by simpa using hn);have h1:n<2^(n.log2+1):=Nat.lt_log2_self;have h2:2^n.log2<=n:=Nat.log2_self_le g;have i:2^n.log2*2^(52-n.log2)=4503599627370496:=by rw[<-P7,show n.log2+(52-n.log2)=52 from by omega]
  have j:2^(n.log2+1)*2^(52-n.log2)=9007199254740992:=by rw[<-P7,show n.log2+1+(52-n.log2)=53 from by omega]
  have d:2^n.log2*2^(52-n.log2)<=n*2^(52-n.log2):=Nat.mul_le_mul_right _ h2;have f:n*2^(52-n.log2)<2^(n.log2+1)*2^(52-n.log2):=Nat.mul_lt_mul_of_pos_right h1 (P6 _);rw[i]at d;rw[j]at f;exact⟨by omega,λ_=>⟨by omega,d,f⟩⟩
theorem nG(s:Bool){M:Nat}{i:Int}(h:Rep M i n)(hn:n<9007199254740992):P3.nearest s M i=fb s n:=by
 obtain⟨b,rfl,rfl⟩:=h;unfold Po;have F:=fS n hn;have g:P3.leastPlace = -1074:=by decide
 have E:(P3.fractionBits:Int)=52:=by decide
 have l:P3.binade=4503599627370496:=by decide
 have z:P3.infRung=9218868437227405312:=by decide
 have f:P3.signWeight=9223372036854775808:=by decide
 by_cases d:n=0
 ·subst d;simp[fb,cF,Pk,f]
 ·have j:n*2^b≠0:=Pd d (by have:=P6 b;omega);rw[if_neg j];dsimp only;obtain⟨h1,h2⟩:=F;obtain⟨hl,j,j⟩:=h2 d;rw[yh n b d,g,E,l,z];have g:max (-(b:Int)+((n.log2+b:Nat):Int)-52) (-1074)=(n.log2:Int)-52:=by omega
  rw[g];have g:(n*2^b) <<< (-(b:Int)-((n.log2:Int)-52)).toNat=(n*2^(52-n.log2))*2^((n.log2:Int)-52 - -(b:Int)).toNat:=by
   rw[P9,P5,P5,<-P7,<-P7];congr 2
   omega
  rw[g,LM];have hk:((n.log2:Int)-52 - -1074).toNat=n.log2+1022:=by omega
  rw[hk];have g:cF n=(n.log2+1022)*4503599627370496+n*2^(52-n.log2):=by unfold cF;rw[if_neg d]
  rw[<-g,Nat.min_eq_left (by omega)];unfold fb Pk;rw[f]
theorem aR(s:Bool)(n:Nat)(hn:n<9007199254740992:=by decide):Fl (fb s n) s n:=by
 obtain⟨h1,h2⟩:=fS n hn;have HH:P3.leastPlace = -1074:=by decide
 have Hm:P3.binade=4503599627370496:=by decide
 have Hp:P3.infRung=9218868437227405312:=by decide
 have HE:P3.signWeight=9223372036854775808:=by decide
 have e1:(fb s n / 9223372036854775808 % 2==1)=s:=by
  unfold fb;cases s<;>simp<;>omega
 have e2:fb s n % 9223372036854775808=cF n:=by
  unfold fb;cases s<;>simp<;>omega
 unfold Fl Pm;dsimp only;rw[HH,Hm,Hp,HE,e1,e2];by_cases h0:n=0
 ·subst h0;exact⟨0,-1074,by simp[cF],Nk 1074⟩
 ·obtain⟨hl,K0,K1⟩:=h2 h0;have HT:cF n=(n.log2+1022)*4503599627370496+n*2^(52-n.log2):=by unfold cF;rw[if_neg h0]
  rw[if_neg (by omega),if_pos (by omega)];refine⟨_,_,rfl,52-n.log2,?_,?_⟩<;>omega
theorem eD:Fl x s n->∃b:Nat,P3.read x=.number s (n*2^b) (-(b:Int)):=by
 rintro⟨M,i,h,b,rfl,rfl⟩;exact⟨b,h⟩
theorem lA(s t:Bool)(M N b c:Nat):(Q2 s M (-(b:Int))).order (.number t N (-(c:Int)))=E (compare (al s (M*2^c)) (al t (N*2^b))):=by
 unfold Q1;dsimp only;rw[dL,dL];have h:∀(p:Nat) (u v:Int),0<p->compare (u*p) (v*p)=compare u v:=by
  intro p u v d;simp only[compare,compareOfLessAndEq];have f:(0:Int)<p:=by omega
  have d:(u*p<v*p)=(u<v):=by rw[Pr f]
  have f:(u*p=v*p)=(u=v):=by rw[Ps (by omega)]
  simp only[d,f]
 congr 1
 rcases Nat.le_total b c with g | g
 ·have d:(-(b:Int)-min (-(b:Int)) (-(c:Int))).toNat=c-b:=by omega
  have f:(-(c:Int)-min (-(b:Int)) (-(c:Int))).toNat=0:=by omega
  rw[d,f,<-h (2^b) _ _ (P6 _),<-fx,<-fx,P5,<-P7,show c-b+b=c from by omega];simp
 ·have d:(-(b:Int)-min (-(b:Int)) (-(c:Int))).toNat=0:=by omega
  have f:(-(c:Int)-min (-(b:Int)) (-(c:Int))).toNat=b-c:=by omega
  rw[d,f,<-h (2^c) _ _ (P6 _),<-fx,<-fx,P5 N,<-P7,show b-c+c=b from by omega];simp
theorem ig(hx:Fl x s n)(d:Fl y t m):P3.order x y=E (compare (al s n) (al t m)):=by
 obtain⟨b,hb⟩:=eD hx;obtain⟨c,hc⟩:=eD d;unfold Pn;rw[hb,hc,lA,P5,P5,Pa (2^c),fx,fx];congr 1
 have f:(0:Int)<((2^b*2^c:Nat):Int):=by have:=Nat.mul_pos (P6 b) (P6 c);omega
 simp only[compare,compareOfLessAndEq];have d:(al s n*((2^b*2^c:Nat):Int)<al t m*((2^b*2^c:Nat):Int))=(al s n<al t m):=by rw[Pr f]
 have f:(al s n*((2^b*2^c:Nat):Int)=al t m*((2^b*2^c:Nat):Int))=(al s n=al t m):=by rw[Ps (by omega)]
 simp only[d,f]
theorem iw(a b:Int):(some (compare a b)==E Ordering.lt)=decide (a<b):=by
 rw[Py];simp only[compare,compareOfLessAndEq];split<;>(try split)<;>simp_all
theorem iu(a b:Int):(some (compare a b)==E Ordering.eq)=decide (a=b):=by
 rw[Py];simp only[compare,compareOfLessAndEq];split<;>(try split)<;>simp_all<;>omega
theorem lS(a b:Int):(some (compare a b)==E Ordering.gt)=decide (b<a):=by
 rw[Py];simp only[compare,compareOfLessAndEq];split<;>(try split)<;>simp_all<;>omega
theorem mO(hx:Fl x s n)(f:Fl y t m)(h:(al s n+al t m).natAbs<9007199254740992):
  P3.add x y=E (fb (if al s n+al t m=0 then s&&t else decide (al s n+al t m<0)) (al s n+al t m).natAbs):=by
 obtain⟨b,hb⟩:=eD hx;obtain⟨c,hc⟩:=eD f;unfold Pq;rw[hb,hc];unfold Pz;dsimp only;rw[dL,dL,P5,P5,<-P7,<-P7];obtain⟨d,f⟩:∃d:Nat,min (-(b:Int)) (-(c:Int)) = -(d:Int):=⟨max b c,by omega⟩;rw[f];have f:b+(-(b:Int) - -(d:Int)).toNat=d:=by omega
 have g:c+(-(c:Int) - -(d:Int)).toNat=d:=by omega
 rw[f,g,fx,fx,<-Pu];generalize al s n+al t m=z at *;exact mcFloata0
theorem Fg(h:Fl x s n):∃b:Nat,(P3.read x).opposite=.number (!s) (n*2^b) (-(b:Int)):=by
 obtain⟨b,hb⟩:=eD h;exact⟨b,by rw[hb];rfl⟩
theorem Ae(hx:Fl x s n)(g:Fl y t m)(h:(al s n-al t m).natAbs<9007199254740992):
  P3.sub x y=E (fb (if al s n-al t m=0 then s && !t else decide (al s n-al t m<0)) (al s n-al t m).natAbs):=by
 obtain⟨b,hb⟩:=eD hx;obtain⟨c,hc⟩:=Fg g;have f:al s n-al t m=al s n+al (!t) m:=by unfold al;cases t<;>simp<;>omega
 rw[f]at h⊢;unfold Pl;rw[hb,hc];unfold Pz;dsimp only;rw[dL,dL,P5,P5,<-P7,<-P7];obtain⟨d,f⟩:∃d:Nat,min (-(b:Int)) (-(c:Int)) = -(d:Int):=⟨max b c,by omega⟩;rw[f];have f:b+(-(b:Int) - -(d:Int)).toNat=d:=by omega
 have g:c+(-(c:Int) - -(d:Int)).toNat=d:=by omega
 rw[f,g,fx,fx,<-Pu];generalize al s n+al (!t) m=z at *;exact mcFloata0
theorem mL(hx:Fl x s n)(hy:Fl y t m)(h:n*m<9007199254740992:=by omega):P3.mul x y=E (fb (s ^^ t) (n*m)):=by
 obtain⟨b,hb⟩:=eD hx;obtain⟨c,hc⟩:=eD hy;unfold Pp;rw[hb,hc];simp only[Q0,Option.map_some,Pj];congr 1
 refine nG _ ⟨b+c,by omega,?_⟩ h;rw[P7];simp only[Nat.mul_left_comm,P5,Pa]
theorem ov(n:Nat)(h:n<9007199254740992):floatOfInt .f64 (n:Int)=fb false n:=by
 unfold floatOfInt FloatKind.nearest FloatKind.encode;have e:((n:Int)<0)=False:=by simp
 simp only[FloatKind.format,Pj,Int.natAbs_natCast];rw[show decide ((n:Int)<0)=false from by simp];exact nG _ ⟨0,by simp,by simp⟩ h
theorem fQ:Fl 0 false 0:=aR false 0
abbrev Wd(ro:Option Nat):Fence:={ Fence.wide with round:=ro }
theorem callsIn_wd{f:FuncId}{args:Array Value}{R:Ending->World->Prop}:
  CallsIn (Wd ro) n P f args w R↔Calls P f args w R:=
 (callsIn_wide (n:=n) (P:=P) (f:=f) (args:=args) (w:=w) (R:=R))
theorem zg{l:Nat}{f:FuncId}{R:Ending->World->Prop}(h:RoundIn Fence.wide m P l f tmps assign body w R):RoundIn (Wd ro) n P l f tmps assign body w R:=
 ⟨trivial,λc cs _=>h.2 c cs (room_wide _)⟩
structure Kept (K:Nat->Obj->Prop) (A B:World):Prop where
 size:A.heap.size<=B.heap.size
 same:∀ (k:Nat) (o:Obj),A.heap[k]?=E o->K k o->B.heap[k]?=E o
structure Moves (M:Nat->Obj->Prop) (A B:World):Prop where
 os:B.os=A.os
 tape:B.tape=A.tape
 output:B.output=A.output
 size:A.heap.size<=B.heap.size
 same:∀ (k:Nat) (o:Obj),A.heap[k]?=E o->¬ M k o->B.heap[k]?=E o
theorem eE{t:TypeId}(h:o.ty=E t):o.isCells=true:=by cases o<;>simp_all[Obj.ty,Obj.isCells]
def am(M:Nat->Obj->Prop)(n:Nat):Nat->Obj->Prop:=λk o=>M k o\/(n<=k/\o.isCells=false)
theorem pB{a:Addr}(h:W.heap[a.block]?=E o)(hc:o.isCells=false):(W.setCell a v).heap[a.block]?=E o:=by
 obtain⟨d,f⟩:=P0.1 h;show(W.heap.modify a.block _)[a.block]?=E o;rw[P1 (by rw[Array.size_modify];exact d),Array.getElem_modify_self,f];cases o<;>first | rfl | (simp[Obj.isCells]at hc)
section
variable {K M M':Nat->Obj->Prop} {n:Nat} {A B C:World}
theorem Kept.refl:Kept K A A:=⟨xN _,λ_ _ h _=>h⟩
theorem Kept.trans(h:Kept K A B)(k:Kept K B C):Kept K A C:=⟨P8 h.size k.size,λi o hi d=>k.same i o (h.same i o hi d) d⟩
theorem Kept.alloc(h:Kept K A B)(o:Obj):Kept K A (B.alloc o):=
 h.trans ⟨by simp,λk _ hk _=>(Pw B o k (P0.1 hk).1).trans hk⟩
theorem Kept.drew(h:Kept K A B):Kept K A B.drew:=⟨h.size,h.same⟩
theorem Kept.setCell(h:Kept K A B){a:Addr}(g:∀o,A.heap[a.block]?=E o->o.isCells=true->¬K a.block o)(v:Value):Kept K A (B.setCell a v):=
 ⟨P8 h.size (by simp[Pi]),λk o hk f=>by
   have d:=h.same k o hk f;by_cases e:k=a.block
   ·subst e;cases hc:o.isCells with
    |true=>exact absurd f (g o hk hc)
    |false=>exact pB d hc
   ·exact(Pv B a v k e).trans d⟩
theorem Kept.below(h:Kept K A B)(hb:Below N B C)(d:B.heap.size<=N):Kept K A C:=
 h.trans ⟨hb.size,λk _ hk _=>(hb.block k (Pc (P0.1 hk).1 d)).trans hk⟩
theorem Kept.grown{row:Option Nat}(h:Kept K A B)(hg:B.grownBy C row)(g:∀k o,row=E k->A.heap[k]?=E o->¬K k o):Kept K A C:=
 ⟨P8 h.size hg.size,λk o hk f=>by
   have d:=h.same k o hk f;refine(hg.block k (P0.1 d).1 (λe=>?_)).trans d;exact g k o e.symm hk f⟩
theorem Kept.mono{d:Nat->Obj->Prop}(h:Kept K A B)(f:∀k o,d k o->K k o):Kept d A B:=⟨h.size,λk o hk d=>h.same k o hk (f k o d)⟩
theorem Kept.cell(h:Kept K A B){p:Addr}(hc:A.cell? p=E v)(f:∀o,A.heap[p.block]?=E o->K p.block o):B.cell? p=E v:=by
 obtain⟨o,d,_⟩:=cells_of_cell hc;exact(Pf ((h.same _ o d (f o d)).trans d.symm)).trans hc
theorem Moves.refl:Moves M A A:=⟨rfl,rfl,rfl,xN _,λ_ _ h _=>h⟩
theorem Moves.trans(h:Moves M A B)(k:Moves M B C):Moves M A C:=
 ⟨k.os.trans h.os,k.tape.trans h.tape,k.output.trans h.output,P8 h.size k.size,λi o hi hm=>k.same i o (h.same i o hi hm) hm⟩
theorem Moves.alloc(h:Moves M A B)(o:Obj):Moves M A (B.alloc o):=
 h.trans ⟨rfl,rfl,rfl,by simp,λk _ hk _=>(Pw B o k (P0.1 hk).1).trans hk⟩
theorem Moves.drew(h:Moves M A B):Moves M A B.drew:=⟨h.os,h.tape,h.output,h.size,h.same⟩
theorem Moves.setCell(h:Moves M A B){a:Addr}(f:∀o,A.heap[a.block]?=E o->o.isCells=true->M a.block o)(v:Value):Moves M A (B.setCell a v):=
 ⟨h.os,h.tape,h.output,P8 h.size (by simp[Pi]),λk o hk hm=>by
   have d:=h.same k o hk hm;by_cases e:k=a.block
   ·subst e;cases hc:o.isCells with
    |true=>exact absurd (f o hk hc) hm
    |false=>exact pB d hc
   ·exact(Pv B a v k e).trans d⟩
theorem Moves.putObj(h:Moves M A B){l:Nat}(hl:∀o,A.heap[l]?=E o->M l o)(d:Obj):Moves M A (B.putObj l d):=
 ⟨h.os,h.tape,h.output,P8 h.size (by simp),λk f hk hm=>
   (Pe (λe=>by subst e;exact hm (hl _ hk))).trans (h.same k f hk hm)⟩
theorem Moves.below(h:Moves M A B)(hb:Below N B C)(d:B.heap.size<=N):Moves M A C:=
 h.trans ⟨hb.os,hb.tape,hb.output,hb.size,λk _ hk _=>(hb.block k (Pc (P0.1 hk).1 d)).trans hk⟩
theorem Moves.weaken(h:Moves M A B)(d:∀k o,M k o->M' k o):Moves M' A B:=
 ⟨h.os,h.tape,h.output,h.size,λk o hk hm=>h.same k o hk (λe=>hm (d k o e))⟩
theorem Moves.cell(h:Moves M A B){p:Addr}(hc:A.cell? p=E v)(g:∀o,A.heap[p.block]?=E o->o.isCells=true->¬M p.block o):B.cell? p=E v:=by
 obtain⟨o,d,f⟩:=cells_of_cell hc;exact(Pf ((h.same _ _ d (g o d f)).trans d.symm)).trans hc
theorem Moves.belowOf(h:Moves M A B)(hb:Below N w A)(d:∀k o,k<N->¬M k o)(f:N<=w.heap.size):Below N w B:=
 ⟨h.os.trans hb.os,h.tape.trans hb.tape,h.output.trans hb.output,P8 hb.size h.size,λk hk=>by
   have e:w.heap[k]?=E w.heap[k]:=P1 (by omega);exact(h.same k _ ((hb.block k hk).trans e) (d k _ hk)).trans e.symm⟩
theorem Moves.boxed(h:Moves M A B){b:Nat}{t:TypeId}(hb:Boxed A b t v)(d:¬M b (L #[v] t (0,0))):Boxed B b t v:=h.same b _ hb d
theorem Kept.boxed(h:Kept K A B){b:Nat}{t:TypeId}(hb:Boxed A b t v)(d:K b (L #[v] t (0,0))):Boxed B b t v:=h.same b _ hb d
theorem Moves.ownsRow(h:Moves M A B)(f:A.ownsRow base e size v m xs)(i:∀k d,v.ownBlock=E k->¬M k (L d e (0,0))):B.ownsRow base e size v m xs:=by
 refine⟨f.1,?_⟩;rcases f.2 with hn | ⟨g,cap,d,rfl,hb,f,rest⟩
 ·exact .inl hn
 ·exact .inr ⟨g,cap,d,rfl,hb,h.same _ _ f (i g d rfl),rest⟩
end
def YieldsAt(P:Program)(l:Nat)(args:Array Value)(W:World)(R:Ending->World->Prop):Prop:=
 ∃fn tmps assign body,(Instr.yield l args).run P W=.ok (.round l fn tmps assign body) W/\RoundIn Fence.wide 0 P l fn tmps assign body W R
def Seq(P:Program)(gf:Nat)(lb:Array Value){α:Type}(Rp:α->Array Value->World->Prop)(K M:Nat->Obj->Prop)(xs:List α)(d:World):Prop:=
 ∀(l:Nat) (J Jx:List α->World->Prop),
  (∀s A B,J s A->Moves (am M d.heap.size) A B->J s B)->(∀s A B,Jx s A->Moves (am M d.heap.size) A B->Jx s B) ->
  (∀H0 x f,xs=H0++x::f->∀(W:World) (av:Array Value),J H0 W->d.heap.size<=W.heap.size->Rp x av W->YieldsAt P l av W λe W'=>
    Kept (am K d.heap.size) W W'/\((e=.returned (O true)/\J (H0++[x]) W')\/(e=.returned (O false)/\Jx (H0++[x]) W'))) ->
  J [] d ->
  Calls P gf (#[.func (.yield l) #[] #[]]++lb) d λe W'=>(∃v,e=.returned v)/\(J xs W'\/∃H0,H0 <+: xs/\Jx H0 W')
def sE{α:Type}(K:Nat->Obj->Prop)(I:List α->World->Prop)(d:Code->List α->World->Prop)(xs:List α)(W:World):Exit->Act->World->Prop
 |.normal,_,W'=>Kept K W W'/\I xs W'
 |.ret,_,W'=>Kept K W W'/\d .ret xs W'
 |.exit id,_,W'=>Kept K W W'/\d (.exit id) xs W'
 |.goto t,_,W'=>Kept K W W'/\d (.goto t) xs W'
 |.panic _,_,_=>False
 |.outgrown,_,_=>False
theorem IY{α:Type}{g:Operand}{V:Array Tmp}{a:Act}{gf:Nat}{lb:Array Value}(hg:a.eval g=.func (.func gf) #[] lb)(eg:∀args w,(callFunc gf args).run P w=.ok (.enter gf args) w){Rp:α->Array Value->World->Prop}{K M:Nat->Obj->Prop}{xs:List α}(hMc:∀k o,M k o->o.isCells=true)(Hu:∀k o,K k o->∀r,o≠.loop r)(hps:∀x S W,Rp x S W->S.size=V.size)(I:List α->World->Prop)(U:Code->List α->World->Prop)(hI:∀s A B,I s A->Moves (am M w.heap.size) A B->I s B)(hIx:∀c s A B,U c s A->Moves (am M w.heap.size) A B->U c s B)(Ax:α->Act->World->Prop)(hAx:∀x J A B,Ax x J A->Moves (am (λ_ _=>False) w.heap.size) A B->Ax x J B)(H2:∀(l:Nat) (H0:List α) (x:α) (Y:List α) (W:World) (S:Array Value) (K':Act->World->Prop),xs=H0++x::Y->I H0 W->w.heap.size<=W.heap.size->Rp x S W ->
    (∀J W',Kept (am K w.heap.size) W W'->I H0 W'->Ax x J W'->K' J W') ->
    assign.wpIn (Wd (some l)) n P (Exit.then K' (λ_ _ _=>False)) { tmps:=(V.zip S).foldl (λt (p,v)=>t.setIfInBounds p v) a.tmps,defers:=[] } W)(H6:∀(l:Nat) (H0:List α) (x:α) (Y:List α) (J:Act) (W:World),xs=H0++x::Y->w.heap.size<=l->(∃r,W.heap[l]?=E (.loop r))->I H0 W->w.heap.size<=W.heap.size->Ax x J W ->
    body.wpIn (Wd (some l)) n P (sE (am K w.heap.size) I U (H0++[x]) W) J W){fn:FuncId}{l:Nat}{mark:List Deferred}{W1:World}{dfs:Nat}(HB:w.heap.size<=l)(hseq:Seq P gf lb Rp K M xs W1)(Hl:w.heap.size<=W1.heap.size)(Hn:(Instr.enterLoop fn a.tmps V assign body ro).run P w=.ok (l,mark) W1)(HF:W1.heap[l]?=E (.loop { state:=.ready,pending:=none,fn,tmps:=a.tmps,params:=V,assign,body,defers:=dfs }))(HV:I [] W1)(X:World->Prop)(hX:∀A B,X A->(∀k o,A.heap[k]?=E o->w.heap.size<=k->k<W1.heap.size->k≠l->o.isCells=false->B.heap[k]?=E o)->X B)(HZ:X W1)(H7:∀W,I xs W->X W->Q .normal { a with defers:=mark++a.defers } W)(H8:∀c H0 W,H0 <+: xs->U c H0 W->X W->c.wpIn (Wd ro) n P Q { a with defers:=mark++a.defers } W):
  ∃(l:Nat) (mark:List Deferred) (w₁:World) (d:Deferred) (w₁':World) (f:FuncId) (args:Array Value) (w₂:World),
   (Instr.enterLoop fn a.tmps V assign body ro).run P w=.ok (l,mark) w₁ /\
   (resolve a.eval (rangeCall g l) 0).run P w₁=.ok d w₁' /\
   (∀f',Target.leads P w₁' d.target d.args=E f'->(Wd ro).fn f') /\
   (invoke d.target d.args).run P w₁'=.ok (.enter f args) w₂ /\
   ((Wd ro).depth.isSome=true->1<=n) /\
   CallsIn (Wd ro) (n-1) P f args w₂ (rangePost (Wd ro) n P l Q { a with defers:=mark++a.defers }):=by
 obtain⟨i,H4⟩:∃i:LoopState->Option Code->Loop,i=λst pe=>{ state:=st,pending:=pe,fn,tmps:=a.tmps,params:=V,assign,body,defers:=dfs }:=⟨_,rfl⟩;have Hv:W1.heap[l]?=E (.loop (i .ready none)):=by rw[H4];exact HF
 -- the record's own turns
 have HO:∀(A:World) (o j:Obj),A.heap[l]?=E o->o.isCells=false->Moves (am (λ_ _=>False) w.heap.size) A (A.putObj l j):=λA o j L hc=>
  Moves.refl.putObj (λo₁ h₁=>by rw[L]at h₁;cases h₁;exact .inr ⟨HB,hc⟩) j
 have cj:∀s A o j,I s A->A.heap[l]?=E o->o.isCells=false->I s (A.putObj l j):=λs A o j hi L hc=>
  hI s _ _ hi ((HO A o j L hc).weaken (λk o h=>by rcases h with h | h;exact h.elim;exact .inr h))
 have Hc:∀c s A o j,U c s A->A.heap[l]?=E o->o.isCells=false->U c s (A.putObj l j):=λc s A o j hi L hc=>
  hIx c s _ _ hi ((HO A o j L hc).weaken (λk o h=>by rcases h with h | h;exact h.elim;exact .inr h))
 have Hy:l<W1.heap.size:=(P0.1 Hv).1;have Hg:∀A j,X A->X (A.putObj l j):=λA j hx=>hX A _ hx (λk o hk _ _ j _=>(Pe j).trans hk);have Hi:∀ {K':Nat->Obj->Prop} (A B:World),X A->Kept (am K' w.heap.size) A B->X B:=λA B hx hk=>
  hX A B hx (λk o L hn _ _ hc=>hk.same k o L (.inr ⟨hn,hc⟩))
 have Hf:∀(A B:World) (k:Nat) (o:Obj),A.heap[k]?=E o->k<W1.heap.size->o.isCells=false->Moves (am M W1.heap.size) A B->B.heap[k]?=E o:=λA B k o L hk hc hm=>
  hm.same k o L (λh=>by
   rcases h with h | h
   ·have:=hMc k o h;rw[hc]at this;cases this
   omega)
 have Hk:∀(A B:World),X A->Moves (am M W1.heap.size) A B->X B:=λA B hx hm=>
  hX A B hx (λk o L _ j _ hc=>Hf A B k o L j hc hm)
 have j:∀(A B:World),Moves (am M W1.heap.size) A B->Moves (am M w.heap.size) A B:=λA B hm=>
  hm.weaken (λk o h=>by rcases h with h | h;exact .inl h;exact .inr ⟨by omega,h.2⟩)
 refine⟨l,mark,W1,{ target:=.fn (.func gf) lb,args:=#[.func (.yield l) #[] #[]] },W1,gf,#[.func (.yield l) #[] #[]]++lb,W1,Hn,?_,λ_ _=>trivial,?_,λh=>by simp[Fence.wide]at h,?_⟩
 ·simp only[resolve,hg];simp[go_sem]
 ·simp[invoke,go_sem,eg]
 ·refine callsIn_wd.2 ?_;refine(hseq l
   (λH0 W=>I H0 W/\W.heap[l]?=E (.loop (i .ready none))/\X W)
   (λH0 W=>∃c,U c H0 W/\W.heap[l]?=E (.loop (i .done (some c)))/\X W)
   (λs A B hs hm=>⟨hI s A B hs.1 (j A B hm),Hf A B l _ hs.2.1 Hy rfl hm,Hk A B hs.2.2 hm⟩)
   (λs A B hs hm=>by
     obtain⟨c,hc,hl,hx⟩:=hs;exact⟨c,hIx c s A B hc (j A B hm),Hf A B l _ hl Hy rfl hm,Hk A B hx hm⟩)
   ?_ ⟨HV,Hv,HZ⟩).mono ?_
  · -- ONE ROUND
   rintro H0 x Y HU W S⟨hi,hl,hx⟩j j;have L:=run_yield (P:=P) (args:=S) hl (by rw[H4];exact hps x S W j);rw[H4]at L;refine⟨fn,_,assign,body,L,?_⟩;have L:=roundIn_of_wpIn (F:=Wd (some l)) (n:=n) (P:=P) (l:=l) (f:=fn) (w:=W) (assign:=assign) (body:=body) (tmps:=(V.zip S).foldl (λt (p,v)=>t.setIfInBounds p v) a.tmps)
    (R:=λe W'=>Kept (am K W1.heap.size) W W'/\((e=.returned (O true)/\I (H0++[x]) W'/\W'.heap[l]?=E (.loop (i .ready none))/\X W') \/
      (e=.returned (O false)/\∃c,U c (H0++[x]) W'/\W'.heap[l]?=E (.loop (i .done (some c)))/\X W')))
    trivial (H2 l H0 x Y W S _ HU hi (by omega) j ?_)
   ·exact⟨trivial,λc cs _=>L.2 c cs (room_wide _)⟩
   ·intro J I Hx V U;have j:=Hx.same l _ hl (.inr ⟨HB,rfl⟩);have Ka:=Hi W I hx Hx;have S:l<I.heap.size:=(P0.1 j).1;refine⟨_,run_beginRound j (by rw[H4]),?_⟩;have L:(I.putObj l (.loop { i .ready none with state:=.busy })).heap[l]?=E (.loop { i .ready none with state:=.busy }):=Pg S;refine wpIn_mono (H6 l H0 x Y J _ HU HB ⟨_,L⟩ (cj _ _ _ _ V j rfl) (by simp;have:=Hx.size;omega) (hAx x J _ _ U (HO _ _ _ j rfl))) ?_
    -- what is known behind the body
    have T:∀(H3:Option Code) (z:World),Kept (am K w.heap.size) (I.putObj l (.loop { i .ready none with state:=.busy })) z ->
      (Instr.endRound l H3).run P z=.ok (O H3.isNone) (z.putObj l (.loop (i (if H3.isNone then .ready else .done) H3))) /\
      z.heap[l]?=E (.loop { i .ready none with state:=.busy }) /\
      (z.putObj l (.loop (i (if H3.isNone then .ready else .done) H3))).heap[l]?=E (.loop (i (if H3.isNone then .ready else .done) H3)) /\
      X (z.putObj l (.loop (i (if H3.isNone then .ready else .done) H3))) /\
      Kept (am K W1.heap.size) W (z.putObj l (.loop (i (if H3.isNone then .ready else .done) H3))):=λH3 z G=>by
     have H:=G.same l _ L (.inr ⟨HB,rfl⟩);have i:=run_endRound (P:=P) H3 H;rw[H4]at i⊢;refine⟨i,by rw[H4]at H;exact H,Pg (P0.1 H).1,Hg _ _ (Hi _ _ (Hg _ _ Ka) G),⟨?_,?_⟩⟩
     ·have h1:=Hx.size;have h2:=G.size;simp at h2⊢;omega
     intro k o hk hK;have HP:am K w.heap.size k o:=by
      rcases hK with h | h
      ·exact .inl h
      exact .inr ⟨by omega,h.2⟩
     by_cases e:k=l
     ·subst e;rw[hl]at hk;cases hk;rcases hK with h | h
      ·exact absurd rfl (Hu _ _ h _)
      omega
     have h1:=Hx.same k o hk HP;have h2:=G.same k o ((Pe e).trans h1) HP;exact(Pe e).trans h2
    rintro e i z Z;cases e with
    |normal=>
     obtain⟨G,i⟩:=Z;obtain⟨J,H,j,I,Hq⟩:=T none z G;exact⟨_,_,J,Hq,.inl ⟨rfl,cj _ _ _ _ i H rfl,j,I⟩⟩
    |ret=>
     obtain⟨G,i⟩:=Z;obtain⟨J,H,j,I,Hq⟩:=T (some .ret) z G;exact⟨_,_,J,Hq,.inr ⟨rfl,.ret,Hc _ _ _ _ _ i H rfl,j,I⟩⟩
    |exit id=>
     obtain⟨G,i⟩:=Z;obtain⟨J,H,j,I,Hq⟩:=T (some (.exit id)) z G;exact⟨_,_,J,Hq,.inr ⟨rfl,.exit id,Hc _ _ _ _ _ i H rfl,j,I⟩⟩
    |goto t=>
     obtain⟨G,i⟩:=Z;obtain⟨J,H,j,I,Hq⟩:=T (some (.goto t)) z G;exact⟨_,_,J,Hq,.inr ⟨rfl,.goto t,Hc _ _ _ _ _ i H rfl,j,I⟩⟩
    |panic ch=>exact Z.elim
    |outgrown=>exact Z.elim
  · -- BEHIND THE ITERATOR
   rintro e i⟨⟨v,rfl⟩,(⟨hi,hl,hx⟩|⟨H0,hpre,c,hi,hl,hx⟩)⟩
   ·exact⟨none,_,by have:=run_endLoop (P:=P) hl (by rw[H4];simp);rw[H4]at this;exact this,H7 _ (cj _ _ _ _ hi hl rfl) (Hg _ _ hx)⟩
   ·exact⟨some c,_,by have:=run_endLoop (P:=P) hl (by rw[H4];simp);rw[H4]at this;exact this,H8 c H0 _ hpre (Hc _ _ _ _ _ hi hl rfl) (Hg _ _ hx)⟩
theorem ru{α:Type}{g:Operand}{f:Array Tmp}{a:Act}{gf:Nat}{lb:Array Value}(hg:a.eval g=.func (.func gf) #[] lb)(eg:∀args w,(callFunc gf args).run P w=.ok (.enter gf args) w){Rp:α->Array Value->World->Prop}{K M:Nat->Obj->Prop}{xs:List α}(hseq:∀W1,Below w.heap.size w W1->W1.heap.size=w.heap.size+2->Seq P gf lb Rp K M xs W1)(hMc:∀k o,M k o->o.isCells=true)(J:∀k o,K k o->∀r,o≠.loop r)(hps:∀x j W,Rp x j W->j.size=f.size)(I:List α->World->Prop)(i:Code->List α->World->Prop)(hI:∀s A B,I s A->Moves (am M w.heap.size) A B->I s B)(hIx:∀c s A B,i c s A->Moves (am M w.heap.size) A B->i c s B)(R:I [] w)(h:α->Act->World->Prop)(hAx:∀x d A B,h x d A->Moves (am (λ_ _=>False) w.heap.size) A B->h x d B)(z:∀(l:Nat) (H0:List α) (x:α) (H1:List α) (W:World) (j:Array Value) (K':Act->World->Prop),xs=H0++x::H1->I H0 W->w.heap.size<=W.heap.size->Rp x j W ->
    (∀d W',Kept (am K w.heap.size) W W'->I H0 W'->h x d W'->K' d W') ->
    assign.wpIn (Wd (some l)) n P (Exit.then K' (λ_ _ _=>False)) { tmps:=(f.zip j).foldl (λt (p,v)=>t.setIfInBounds p v) a.tmps,defers:=[] } W)(j:∀(l:Nat) (H0:List α) (x:α) (H1:List α) (d:Act) (W:World),xs=H0++x::H1->w.heap.size<=l->(∃r,W.heap[l]?=E (.loop r))->I H0 W->w.heap.size<=W.heap.size->h x d W ->
    body.wpIn (Wd (some l)) n P (sE (am K w.heap.size) I i (H0++[x]) W) d W)(F:∀D W,w.heap.size<=D->I xs W->W.heap[D]?=E (.deferred (some []))->Q .normal { a with defers:={ target:=.collected D,args:=#[] }::a.defers } W)(G:∀D c H0 W,w.heap.size<=D->H0 <+: xs->i c H0 W->W.heap[D]?=E (.deferred (some []))->c.wpIn (Wd none) n P Q { a with defers:={ target:=.collected D,args:=#[] }::a.defers } W):
  (Code.rangeFunc g f assign body).wpIn (Wd none) n P Q a w:=by
 refine wpIn_rangeFunc ?_;intro fn _;obtain⟨W1,d⟩:∃W1,(w.alloc (.deferred (some []))).alloc (.loop { state:=.ready,pending:=none,fn,tmps:=a.tmps,params:=f,assign,body,defers:=w.heap.size })=W1:=⟨_,rfl⟩;have K3:Below w.heap.size w W1:=by rw[<-d];exact((Px _ w).alloc (xN _) _).alloc (by simp) _
 have O:W1.heap.size=w.heap.size+2:=by rw[<-d];simp
 have H:W1.heap[w.heap.size+1]?=E (.loop { state:=.ready,pending:=none,fn,tmps:=a.tmps,params:=f,assign,body,defers:=w.heap.size }):=by
  rw[<-d];have:=Ph (w.alloc (.deferred (some []))) (.loop { state:=.ready,pending:=none,fn,tmps:=a.tmps,params:=f,assign,body,defers:=w.heap.size });rwa[xS]at this
 have f:W1.heap[w.heap.size]?=E (.deferred (some [])):=by
  rw[<-d];exact(Pw _ _ _ (by simp)).trans (Ph w _)
 have L:Moves (am M w.heap.size) w W1:=by rw[<-d];exact(Moves.refl.alloc _).alloc _
 refine IY (fn:=fn) (mark:=[{ target:=.collected w.heap.size,args:=#[] }]) (l:=w.heap.size+1) (W1:=W1) (dfs:=w.heap.size) hg eg hMc J hps I i hI hIx h hAx z j (by omega) (hseq W1 K3 O) (by omega) ?_ H (hI _ _ _ R L)
  (λW=>W.heap[w.heap.size]?=E (.deferred (some []))) ?_ f (λW hi hx=>F _ W (xN _) hi hx) (λc H0 W f hi hx=>G _ c H0 W (xN _) f hi hx)
 ·rw[<-d];exact run_enterLoop_outer _ _ _ _ _
 ·intro A B hx hk;exact hk _ _ hx (xN _) (by omega) (by omega) rfl
theorem dV{α:Type}{g:Operand}{z:Array Tmp}{a:Act}{gf:Nat}{lb:Array Value}(hg:a.eval g=.func (.func gf) #[] lb)(eg:∀args w,(callFunc gf args).run P w=.ok (.enter gf args) w){Rp:α->Array Value->World->Prop}{K M:Nat->Obj->Prop}{xs:List α}(hseq:∀W1,Below w.heap.size w W1->W1.heap.size=w.heap.size+2->Seq P gf lb Rp K M xs W1)(hMc:∀k o,M k o->o.isCells=true)(L:∀k o,K k o->o.isCells=true)(hps:∀x j W,Rp x j W->j.size=z.size)(I:List α->World->Prop)(i:Code->List α->World->Prop)(hI:∀s A B,I s A->Moves (am M w.heap.size) A B->I s B)(hIx:∀c s A B,i c s A->Moves (am M w.heap.size) A B->i c s B)(O:I [] w)(f:α->Act->World->Prop)(hAx:∀x d A B,f x d A->Moves (am (λ_ _=>False) w.heap.size) A B->f x d B)(F:∀(l:Nat) (H0:List α) (x:α) (H1:List α) (W:World) (j:Array Value) (K':Act->World->Prop),xs=H0++x::H1->I H0 W->w.heap.size<=W.heap.size->Rp x j W ->
    (∀d W',Kept (am K w.heap.size) W W'->I H0 W'->f x d W'->K' d W') ->
    assign.wpIn (Wd (some l)) n P (Exit.then K' (λ_ _ _=>False)) { tmps:=(z.zip j).foldl (λt (p,v)=>t.setIfInBounds p v) a.tmps,defers:=[] } W)(G:∀(l:Nat) (H0:List α) (x:α) (H1:List α) (d:Act) (W:World),xs=H0++x::H1->w.heap.size<=l->(∃r,W.heap[l]?=E (.loop r))->I H0 W->w.heap.size<=W.heap.size->f x d W ->
    body.wpIn (Wd (some l)) n P (sE (am K w.heap.size) I i (H0++[x]) W) d W)(H:∀D W,w.heap.size<=D->I xs W->W.heap[D]?=E (.deferred (some []))->Q .normal { a with defers:={ target:=.collected D,args:=#[] }::a.defers } W)(J:∀D c H0 W,w.heap.size<=D->H0 <+: xs->i c H0 W->W.heap[D]?=E (.deferred (some []))->c.wpIn (Wd none) n P Q { a with defers:={ target:=.collected D,args:=#[] }::a.defers } W):
  (Code.rangeFunc g z assign body).wpIn (Wd none) n P Q a w:=
 ru hg eg hseq hMc (λk o h r e=>by have:=L k o h;rw[e]at this;cases this) hps I i hI hIx O f hAx F G H J
theorem dK(h:W.heap[D]?=E o)(hc:o.isCells=false)(a:Addr)(v:Value):(W.setCell a v).heap[D]?=E o:=by
 by_cases e:D=a.block
 ·subst e;exact pB h hc
 ·exact(Pv W a v D e).trans h
theorem dh{fn:Func}{R:Ending->World->Prop}(f:W.heap[D]?=E (.deferred (some [])))(v:Value)(d:(results fn tmps).run P (W.putObj D (.deferred none))=.ok v (W.putObj D (.deferred none)))(g:R (.returned v) (W.putObj D (.deferred none))):
  bodyPostM (Wd none) n P fn R .ret ⟨tmps,[{ target:=.collected D,args:=#[] }]⟩ W:=
 ⟨by simp,.inl ⟨_,_,rfl,run_takeDeferred f,⟨_,d,g⟩⟩⟩
theorem rO{fn:Func}{R:Ending->World->Prop}(f:W.heap[D]?=E (.deferred (some [])))(v:Value)(d:(results fn tmps).run P (W.putObj D (.deferred none))=.ok v (W.putObj D (.deferred none)))(g:R (.returned v) (W.putObj D (.deferred none))):
  bodyPostM (Wd none) n P fn R .normal ⟨tmps,[{ target:=.collected D,args:=#[] }]⟩ W:=
 ⟨by simp,.inl ⟨_,_,rfl,run_takeDeferred f,⟨_,d,g⟩⟩⟩
theorem cp(h:Below N w W)(o:Obj)(hD:N<=D:=by omega):Below N w (W.putObj D o):=
 ⟨h.os,h.tape,h.output,P8 h.size (by simp),λk hk=>(Pe (by omega)).trans (h.block k hk)⟩
theorem fL{p:Addr}(h:W.cell? p=E v)(hD:W.heap[D]?=E o)(hc:o.isCells=false)(g:Obj):(W.putObj D g).cell? p=E v:=by
 obtain⟨g,f,d⟩:=cells_of_cell h;refine(Pf (Pe (λe=>?_))).trans h;rw[e,hD]at f;cases f;rw[hc]at d;cases d
open Go.RowKit
abbrev Ext(w w':World):Prop:=Below w.heap.size w w'
theorem Ext.trans{c:World}(h:Ext a b)(k:Ext b c):Ext a c:=Below.trans h (k.mono h.size)
theorem xT{c:World}(h:Ext a b)(k:Ext b c):Ext a c:=Ext.trans h k
theorem Ext.refl(w:World):Ext w w:=Px _ _
theorem xR(w:World):Ext w w:=Ext.refl w
theorem Ext.alloc(h:Ext a b)(o:Obj):Ext a (b.alloc o):=Below.alloc h h.size o
theorem xA(h:Ext a b)(o:Obj):Ext a (b.alloc o):=Ext.alloc h o
theorem Ext.drew(h:Ext a b):Ext a b.drew:=Below.drew h
theorem xD(h:Ext a b):Ext a b.drew:=Ext.drew h
theorem Ext.grown(h:Ext a b)(row:Option Nat):a.grownBy b row:=⟨h.os,h.tape,h.output,h.size,λk hk _=>h.block k hk⟩
theorem Ext.cell(h:Ext a b){p:Addr}(hc:a.cell? p=E v):b.cell? p=E v:=
 (Below.cell h (World.block_lt_of_cell? a p hc)).trans hc
def SlR(w:World)(size:Nat)(v:Value)(n:Nat)(xs:List Value):Prop:=
 S xs=n*size/\∃A c,v=G A n c/\n<=c/\c<=maxLen/\(0<n->∃b d,A=E ⟨b,d,H⟩/\∀j u,xs[j]?=E u->w.cell? ⟨b,d+j,H⟩=E u)
section
variable {w w':World} {size:Nat} {v:Value} {n:Nat} {xs:List Value}
theorem SlR.keep(h:SlR w size v n xs)(hk:∀p u,w.cell? p=E u->w'.cell? p=E u):SlR w' size v n xs:=by
 obtain⟨hl,A,c,rfl,h1,h2,h3⟩:=h;refine⟨hl,A,c,rfl,h1,h2,λhn=>?_⟩;obtain⟨b,d,rfl,hc⟩:=h3 hn;exact⟨b,d,rfl,λj u d=>hk _ _ (hc j u d)⟩
theorem SlR.ext(h:SlR w size v n xs)(he:Ext w w'):SlR w' size v n xs:=h.keep λ_ _ hc=>he.cell hc
theorem SlR.nil(w:World)(size:Nat):SlR w size (G none 0 0) 0 []:=⟨by simp,none,0,rfl,xN _,Pb _,λh=>absurd h (by omega)⟩
theorem SlR.empty(w:World)(size:Nat)(hc:c<=maxLen):SlR w size (G A 0 c) 0 []:=⟨by simp,A,c,rfl,Pb _,hc,λh=>absurd h (by omega)⟩
theorem SlR.open_(h:SlR w size v n xs):∃A c,v=G A n c/\n<=c/\c<=9223372036854775807:=by
 obtain⟨_,A,c,rfl,h1,h2,_⟩:=h;exact⟨A,c,rfl,h1,by simpa[maxLen]using h2⟩
theorem xO(h:SlR w size v n xs):∃A c,v=G A n c/\n<=c/\c<=9223372036854775807:=SlR.open_ h
theorem SlR.at_(h:SlR w size (G A m c) n xs)(hn:0<n):m=n/\∃b d,A=E ⟨b,d,H⟩/\∀j u,xs[j]?=E u->w.cell? ⟨b,d+j,H⟩=E u:=by
 obtain⟨_,A',c',d,h1,h2,h3⟩:=h;injection d with e1 e2 e3
 subst e1 e2 e3;exact⟨rfl,h3 hn⟩
theorem SlR.len_le(h:SlR w size v n xs):n<=maxLen:=by obtain⟨_,_,c,_,h1,h2,_⟩:=h;omega
theorem SlR.of_own(h:w.ownsRow base e size v n xs):SlR w size v n xs:=by
 refine⟨h.1,?_⟩;rcases h.2 with⟨rfl,rfl⟩|⟨g,cap,d,rfl,_,_,f,d,_⟩
 ·exact⟨none,0,rfl,xN _,Pb _,λh=>absurd h (by omega)⟩
 ·refine⟨some ⟨g,0,H⟩,cap,rfl,f,d,λ_=>⟨g,0,rfl,λj u d=>?_⟩⟩;have:=h.cells (g:=g) rfl j u d;rw[show(⟨g,0,H⟩:Addr).add j=⟨g,0+j,H⟩from by unfold Addr.add;split<;>simp_all]at this;exact this
theorem xW(h:w.ownsRow base e size v n xs):SlR w size v n xs:=SlR.of_own h
end
theorem o8{B:Nat}(h:Below B a w)(n:Nat):Below B a (w.drewN n):=⟨h.os,h.tape,h.output,h.size,h.block⟩
theorem SlR.drop1{b d:Nat}(h:SlR w 1 (G (E ⟨b,d,H⟩) n c) n xs)(k:Nat)(hk:k<=n):SlR w 1 (G (E ⟨b,d+k,H⟩) (n-k) (c-k)) (n-k) (xs.drop k):=by
 obtain⟨hl,A,c',e,h1,h2,h3⟩:=h;cases e;refine⟨by rw[List.length_drop,hl];omega,_,_,rfl,by omega,by omega,λhn=>?_⟩;obtain⟨f,f,e',hc⟩:=h3 (by omega);cases e';refine⟨b,d+k,rfl,λj u d=>?_⟩;rw[Nat.add_assoc];exact hc (k+j) u (by rw[<-d,List.getElem?_drop])
def bv(b:UInt8):Value:=.int .u8 b.toNat
def Bs(w:World)(v:Value)(bs:List UInt8):Prop:=SlR w 1 v bs.length (bs.map bv)
def iv(n:Int):Value:=.int .i64 n
def Is(w:World)(v:Value)(l:List Int):Prop:=SlR w 1 v l.length (l.map iv)
theorem Bs.ext(h:Bs w v bs)(he:Ext w w'):Bs w' v bs:=SlR.ext h he
theorem Is.ext{bs:List Int}(h:Is w v bs)(he:Ext w w'):Is w' v bs:=SlR.ext h he
theorem ai(h:w.ownsRow base e size v n xs)(he:Ext w w'):w'.ownsRow base e size v n xs:=
 h.kept (Ext.grown he (some w.heap.size)) (.inr (λe=>by have:=(h.lt _ e).2;omega))
theorem ay{base':Nat}(h:w.ownsRow base e size v n xs)(hb:base'<=base):w.ownsRow base' e size v n xs:=by
 refine⟨h.1,?_⟩;rcases h.2 with hn | ⟨g,cap,d,rfl,hg,rest⟩
 ·exact .inl hn
 ·exact .inr ⟨g,cap,d,rfl,by omega,rest⟩
theorem be(w:World)(cs:List Value)(e:TypeId)(m:Nat)(hb:base<=w.heap.size)(hm:m=cs.length:=by exact rfl)(hl:m<=maxLen:=by simp[maxLen]):(w.alloc (L cs.toArray e)).ownsRow base e 1 (G (E ⟨w.heap.size,0,H⟩) m m) m cs:=by
 subst hm;exact⟨by simp,.inr ⟨w.heap.size,cs.length,cs.toArray,rfl,hb,heap_alloc_new w _,xN _,hl,by simp,by simp⟩⟩
theorem Bs.cut{b d:Nat}(h:Bs w (G (E ⟨b,d,H⟩) n c) bs)(k:Nat)(hk:k<=S bs)(hn:n=S bs):Bs w (G (E ⟨b,d+k,H⟩) (n-k) (c-k)) (bs.drop k):=by
 subst hn;have:=SlR.drop1 h k hk;unfold Bs;rw[List.length_drop,<-List.map_drop]at *;exact this
theorem Bs.cut0(hk:S bs<=k)(hn:n=S bs)(hc:c<=9223372036854775807):Bs w (G A (n-k) c) (bs.drop k):=by
 subst hn;unfold Bs;rw[show S bs-k=0 from by omega,List.drop_of_length_le hk];exact SlR.empty w 1 (by simpa[maxLen]using hc)
theorem de(l:List UInt8):∀u∈l.map bv,u.oneCell'=true:=by
 intro u d;obtain⟨b,_,rfl⟩:=List.mem_map.1 d;rfl
theorem BT(l:List Int):∀u∈l.map iv,u.oneCell'=true:=by
 intro u d;obtain⟨b,_,rfl⟩:=List.mem_map.1 d;rfl
theorem Ext.grownOwn{wr d:World}(h:Ext w wr)(f:wr.ownsRow w.heap.size e size v n xs)(hg:wr.grownBy d v.ownBlock):Ext w d:=
 Below.grown h hg h.size (λk d=>(f.lt k d).1)
theorem ia(h:w.ownsRow base e size v n xs)(hn:0<n:=by omega):∃g cap,v=G (E ⟨g,0,H⟩) n cap/\base<=g/\n<=cap/\cap<=9223372036854775807:=by
 rcases h.2 with⟨_,h0⟩|⟨g,cap,_,rfl,hb,_,h1,h2,_⟩
 ·omega
 ·exact⟨g,cap,rfl,hb,h1,by simpa[maxLen]using h2⟩
theorem lm(h:w.ownsRow base e size v n xs)(hk:v.ownBlock=E k):∃d,w.heap[k]?=E (L d e (0,0)):=by
 rcases h.2 with⟨rfl,_⟩|⟨g,cap,d,rfl,_,hg,_⟩
 ·simp[Value.ownBlock]at hk
 ·have:g=k:=by simpa[Value.ownBlock]using hk
  subst this;exact⟨d,hg⟩
theorem zT{base':Nat}{e':TypeId}{d:Nat}{g:Value}{n':Nat}{f:List Value}(h:w.ownsRow base e size v n xs)(i:w.ownsRow base' e' d g n' f)(he:e≠e'):v.ownBlock=none\/v.ownBlock≠g.ownBlock:=by
 cases hk:v.ownBlock with
 |none=>exact .inl rfl
 |some k=>
  refine .inr (λd=>?_);obtain⟨c,hc⟩:=lm h hk;obtain⟨c',HQ⟩:=lm i d.symm;rw[hc]at HQ;cases HQ;exact he rfl
theorem Kept.appended{K:Nat->Obj->Prop}{i:World}{G B:Nat}{t:TypeId}{d:Obj}(u:Value)(I:Boxed W B t v)(l:W.ownsRow G e size v k xs)(G:(W.alloc d).grownBy i v.ownBlock)(z:¬K B (L #[v] t (0,0)))(F:∀k f,v.ownBlock=E k->¬K k (L f e (0,0))):Kept K W (i.setCell ⟨B,0,H⟩ u):=by
 refine((Kept.refl.alloc d).grown G (λj o g d=>?_)).setCell (λo h _=>?_) u
 ·obtain⟨f,hc⟩:=lm l g;rw[d]at hc;cases hc;exact F j f g
 ·rw[show W.heap[B]?=_ from I]at h;cases h;exact z
theorem ret_bool{a b:Bool}(h:a=b):Ending.returned (O a)=.returned (O b):=by rw[h]
theorem nj{k:IntKind}{a b:Int}(h:a=b):Ending.returned (.int k a)=.returned (.int k b):=by rw[h]
end Go.Mv

namespace Go.Proofs.YteggfecbjgbndaaGreatDoor.writeParts
open Go
theorem cf1:(Rows.writePartsRow.inPlace==Tryz.pinned.checked.prog.inPlace 5)=true:=by kernel_rfl
theorem cf2:(Rows.writePartsRow.unfollowed==Tryz.pinned.checked.prog.unfollowed 5)=true:=by kernel_rfl
theorem cf3:(Rows.writePartsRow.recurses==Tryz.pinned.checked.prog.recurses 5)=true:=by kernel_rfl
theorem cf4:(Rows.writePartsRow.named==Tryz.pinned.checked.prog.varsNamed 5)=true:=by kernel_rfl
theorem yaj:joinedFacts Tryz.pinned.checked.prog 5 Tryz.f5 (_root_.Go.OpenSpec.ofChange Rows.writePartsSpec).bare Rows.writePartsRow=true:=by
 unfold joinedFacts;rw[cf1,cf2,cf3,cf4];kernel_rfl
end Go.Proofs.YteggfecbjgbndaaGreatDoor.writeParts
