/- Merged -/
import Derived.Test.YteggfecbjgbndaaGreatDoorZy12
import Derived.Test.YteggfecbjgbndaaGreatDoorZy18
set_option linter.all false
set_option maxHeartbeats 8000000
set_option maxRecDepth 100000
open Go.Proofs.Tryz
open List renaming length->U
open Go.Value renaming int->C,slice->F,agg->O,pointer->T
open Go.IntKind renaming i64->E
open Go.Mv renaming aN->G
open Option renaming none->H,some->J
open Go.Obj renaming cells->I
open Go.Proofs.Tryz renaming prog->N
open List renaming take_succ_eq_append_getElem->P0,not_mem_nil->P1,mem_cons->P2,length_nil->P3,take_of_length_le->P4,getElem_cons_zero->P6,getElem_cons_succ->P7,mem_flatMap->P8,all_eq_true->P9
open Go.Region renaming wanted->Pa,ready->Pb
open Option renaming isSome->Pc,getD->Pd
open Go.World renaming ownsRow_nil->Pe
open Go.Mv.Blk renaming new->Pf
open Nat renaming zero_add->Pg,reduceAdd->Ph,add_zero->Pi
namespace Go.Proofs.YteggfecbjgbndaaGreatDoor
open Go.RowKit Go.Mv
variable {w:World}
theorem Np:Tryz.prog.underlying 36=J (.struct (Tryz.prog.fieldsOf 36)):=by kernel_rfl
theorem Oe:Tryz.prog.stoodInHeld 36=false:=by kernel_rfl
theorem No:Tryz.prog.eqGuardType Tryz.prog.depth 36=false:=by kernel_rfl
theorem Lm(a b:Sg4)(W:World):(Op.equalIn 10000 36 (O #[C E a.seq,C E a.fmt,C E a.first,C E a.count]) (O #[C E b.seq,C E b.fmt,C E b.first,C E b.count])).run N W=.ok (decide (a=b)) W:=by
 have e:decide (a=b)=(a.seq==b.seq&&a.fmt==b.fmt&&a.first==b.first&&a.count==b.count):=by
  rw[Bool.eq_iff_iff];cases a;cases b;simp[and_assoc]
 rw[run_equalIn_struct W 9999 36 _ _ Np Oe,e];cases c:(a.seq==b.seq)<;>cases h1:(a.fmt==b.fmt)<;>cases h2:(a.first==b.first)<;>cases h3:(a.count==b.count)<;>simp[go_sem,c,h1,h2,h3]
theorem yQ(a b:Mf)(va vb:Value)(w:World)(V:Sgs w va a.segs)(X:Sgs w vb b.segs):
  Calls N 12 #[O #[C E a.next,C E a.term,C E a.vote,C E a.sq,C E a.sf,va],O #[C E b.next,C E b.term,C E b.vote,C E b.sq,C E b.sf,vb]] w λe w'=>e=.returned (.bool (decide (a=b)))/\Ext w w':=by
 obtain⟨A,c,rfl,Kz,Jw⟩:=V.open_;obtain⟨B,d,rfl,G0,G1⟩:=X.open_;obtain⟨n1,o,p,n,m,f⟩:=a;obtain⟨J,L,M,K,H,g⟩:=b;dsimp only at *;obtain⟨R,j⟩:∃R,decide ((⟨n1,o,p,n,m,f⟩:Mf)=⟨J,L,M,K,H,g⟩)=R:=⟨_,rfl⟩;rw[j];have i:Hid (decide (n1=J/\o=L/\p=M/\n=K/\m=H/\f=g)=R):=G (by rw[<-j];simp);have HA:=G V;have HB:=G X;obtain⟨Z,JK⟩:∃x:Array Value,#[C E n1,C E o,C E p,C E n,C E m,F A f.length c]=x:=⟨_,rfl⟩;obtain⟨x2,JL⟩:∃x:Array Value,#[C E J,C E L,C E M,C E K,C E H,F B g.length d]=x:=⟨_,rfl⟩;have Hk:=Pf w 30 Z;have T:=Hk.alloc (I x2 30);have D:=Pf (w.alloc (I Z 30)) 30 x2;rw[xS]at D;have hX:Ext w ((w.alloc (I Z 30)).alloc (I x2 30)):=xA (xA (xR _) _) _;subst JK JL;obtain⟨m0,m1,m2,m3,m4,m5⟩:=aj T;obtain⟨p0,p1,p2,p3,p4,p5⟩:=aj D;have E0:=G hX;have Hv:=G T;have H8:=G D;clear j V X hX Hk T D;go_enter func12,ntmps12
 by_cases e1:n1=J
 case neg=>
  have:R=false:=by rw[<-i.out];simp[e1]
  subst this;go_wp2_with fail;go_ret;exact⟨rfl,xA (xA (xR _) _) _⟩
 subst e1;by_cases e2:o=L
 case neg=>
  have:R=false:=by rw[<-i.out];simp[e2]
  subst this;go_wp2_with fail;go_ret;exact⟨rfl,xA (xA (xR _) _) _⟩
 subst e2;by_cases e3:p=M
 case neg=>
  have:R=false:=by rw[<-i.out];simp[e3]
  subst this;go_wp2_with fail;go_ret;exact⟨rfl,xA (xA (xR _) _) _⟩
 subst e3;by_cases e4:n=K
 case neg=>
  have:R=false:=by rw[<-i.out];simp[e4]
  subst this;go_wp2_with fail
  all_goals go_ret
  all_goals exact⟨rfl,xA (xA (xR _) _) _⟩
 subst e4;by_cases e5:m=H
 case neg=>
  have:R=false:=by rw[<-i.out];simp[e5]
  subst this;go_wp2_with fail
  all_goals go_ret
  all_goals exact⟨rfl,xA (xA (xR _) _) _⟩
 subst e5;by_cases e6:(U f:Int)=(U g:Int)
 case neg=>
  have:R=false:=by rw[<-i.out];simp;intro h;subst h;exact e6 rfl
  subst this;go_wp2_with fail
  all_goals go_ret
  all_goals exact⟨rfl,xA (xA (xR _) _) _⟩
 have Ho:Hid (decide (f=g)=R):=G (by rw[<-i.out];simp);have HF:U f=U g:=by omega
 have HX:=G HF;clear i HF;go_wp2_with fail
 go_loopw [5] (λx W=>∃k:Nat,k<=U f/\x=C E k/\Hid (f.take k=g.take k)/\Ext ((w.alloc (I #[C E n1,C E o,C E p,C E n,C E m,F A f.length c] 30)).alloc (I #[C E n1,C E o,C E p,C E n,C E m,F B g.length d] 30)) W) (λx _=>U f-(intOf x).toNat)
 case atStart=>exact⟨0,by omega,rfl,G rfl,(by first | exact xR _ | (rw[e6];exact xR _))⟩
 case round=>
  obtain⟨k,hk,rfl,Hn,s⟩:=hrel;have HEq:=G s;have z:=G (xT E0 s);obtain⟨_,_,_,_,_,M5⟩:=aj (Hv.ext s);obtain⟨_,_,_,_,_,P5⟩:=aj (H8.ext s);by_cases y:k<U f
  ·have KC:k<U g:=by have:=HX.out;omega
   obtain⟨_,b,KJ,rfl,H2⟩:=(HA.ext z.out).at_ (by omega);obtain⟨_,b2,JN,rfl,Hc⟩:=(HB.ext z.out).at_ (by omega);obtain⟨s0,s1,s2,s3⟩:=H2 k y;obtain⟨u0,u1,u2,u3⟩:=Hc k KC;clear H2 Hc s m0 m1 m2 m3 m4 m5 p0 p1 p2 p3 p4 p5;have G4:(0:Int)<=(k:Int):=by omega
   have G5:(k:Int)<(U f:Int):=by omega
   have G6:(k:Int)<(U g:Int):=by omega
   have J2:=Lm f[k] g[k];have KB:=No;obtain⟨q,Y⟩:∃q,decide (f[k]=g[k])=q:=⟨_,rfl⟩;have Hq:=G Y;rw[Y]at J2;clear Y;go_wp2_with fail
   go_quiet (fail)
   clear J2 KB;cases q
   ·have j:R=false:=by
     rw[<-Ho.out];have:=Hq.out;simp only[decide_eq_false_iff_not]at this⊢;intro h;apply this;simp only[h]
    subst j;go_wp2_with fail;go_ret;exact⟨rfl,fl z _⟩
   go_wp2_with fail
   go_roundw
   case rel=>
    have JF:f[k]=g[k]:=by simpa using Hq.out
    refine⟨k+1,by omega,by go_num,G ?_,fl HEq _⟩;rw[P0 y,P0 (by omega),Hn.out,JF]
   case measure=>simp[intOf];omega
  ·have j:R=true:=by
    rw[<-Ho.out];have h1:=Hn.out;have h2:=HX.out;rw[P4 (by omega),P4 (by omega)]at h1;simpa using h1
   subst j;obtain rfl:k=U f:=by omega
   clear m0 m1 m2 m3 m4 m5 p0 p1 p2 p3 p4 p5;go_wp2_with fail;go_ret;exact⟨rfl,z.out⟩
def du(l:List Sg4):List Int:=l.flatMap λs=>[s.seq,s.fmt,s.first,s.count+1]
def cM(m:Mf):List Int:=[m.next,m.term,m.vote,m.sq,m.sf,(U m.segs:Int)]++du m.segs
def bj(m:Mf):Option (List UInt8):=if aZ m then some (bh rT (77::aF (cM m)))else none
def Ce(w:World)(r:Option (List UInt8))(e:Ending)(w':World):Prop:=(∃v,e=.returned (.tuple #[v,C E (if r.isSome then 0 else 2)])/\OwnB w' w.heap.size v (r.getD []))/\Ext w w'
theorem lE(l:List Sg4):U (du l)=4*U l:=by
 induction l with
 |nil=>rfl
 |cons e l ih=>simp only[du,List.flatMap_cons,xL,xC,P3]at ih⊢;omega
theorem tS(l:List Sg4)(k:Nat)(h:k<U l):du (l.take (k+1))=du (l.take k)++[l[k].seq,l[k].fmt,l[k].first,l[k].count+1]:=by
 rw[P0 h];unfold du;rw[List.flatMap_append];rfl
theorem lJ{m:Mf}(h:aZ m=true):(1<=m.next/\m.next<=1073741824)/\(0<=m.term/\m.term<=1073741824)/\(0<=m.vote/\m.vote<=5)/\U m.segs<=60/\((m.sq=0/\m.sf=0)\/(1<=m.sq/\m.sq<=m.next-1/\(m.sf=1\/m.sf=2))) /\
  ∀i (a:i<U m.segs),cD m i m.segs[i]=true:=by
 unfold aZ dN dX at h;simp only[Bool.and_eq_true,Bool.or_eq_true,decide_eq_true_eq,inB_b]at h;obtain⟨⟨⟨⟨⟨h1,h2⟩,h3⟩,h4⟩,h5⟩,c⟩:=h;refine⟨h1,h2,h3,h4,?_,λi a=>?_⟩
 ·rcases h5 with h5 | h5
  ·exact .inl h5
  exact .inr (mZ h5)
 ·obtain⟨s,hs,d⟩:=oO c i a;rw[List.getElem?_eq_getElem a]at hs;cases hs;exact d
theorem ym{m:Mf}(h:aZ m=true):aG (cM m)=true:=by
 obtain⟨h1,h2,h3,h4,h5,a⟩:=lJ h;unfold aG;rw[P9];intro x hx;rw[numB_true];unfold cM at hx;rcases List.mem_append.1 hx with hx | hx
 ·simp only[P2,P1,or_false]at hx;rcases hx with rfl | rfl | rfl | rfl | rfl | rfl<;>omega
 ·obtain⟨s,hs,hx⟩:=P8.1 hx;obtain⟨i,c,rfl⟩:=List.mem_iff_getElem.1 hs;obtain⟨d,_,e,_,e⟩:=si (a i c);have a:=mZ d;simp only[P2,P1,or_false]at hx;rcases hx with rfl | rfl | rfl | rfl<;>omega
def OwnI(w:World)(base:Nat)(v:Value)(l:List Int):Prop:=w.ownsRow base 3 1 v l.length (l.map iv)
theorem OwnI.is{base:Nat}{v:Value}{l:List Int}(h:OwnI w base v l):Is w v l:=xW h
theorem OwnI.ext{w':World}{base:Nat}{v:Value}{l:List Int}(h:OwnI w base v l)(he:Ext w w'):OwnI w' base v l:=ai h he
theorem DV{ops:Array Oper}{rest:List Oper}{o:Oper}{a:Act}{Q:Exit->Act->World->Prop}(f:o.guard=none)(s x:Operand)(n:o.op=.call { callee:=.builtin .append,args:=#[s,x],argTypes:=#[64,64] })(base:Nat)(v:Value)(bs:List Int)(hs:a.eval s=v)(d:OwnI w base v bs)(vx:Value)(cs:List Int)(hx:a.eval x=vx)(p:Is w vx cs)(e:U bs+U cs<=40000000)(e:base<=w.heap.size)(h:∀A c w',OwnI w' base (F A (U bs+U cs) c) (bs++cs)->eP base w w'->wpList N ops Q rest (a.put o.dst (F A (U bs+U cs) c)) w'):wpList N ops Q (o::rest) a w:=by
 obtain⟨q,m,g,i,j⟩:=info_parts m9;refine dT _ f s x 64 n base 3 q (C E 0) 1 8 underlying64 m g i j rfl (by decide) v bs.length (bs.map iv) hs d vx cs.length (cs.map iv) hx p (BT _) (by unfold maxLen;omega) (by omega) e ?_;intro e w' h1 h2;obtain⟨A,c,rfl,_,_⟩:=xO (xW h1);refine h A c w' ?_ (λe e hb=>Ext.grownOwn e (ay d hb) h2);unfold OwnI;rw[xL,List.map_append];exact h1
theorem AM(m:Mf)(v:Value)(w:World)(T:Sgs w v m.segs):
  Calls N 62 #[O #[C E m.next,C E m.term,C E m.vote,C E m.sq,C E m.sf,v]] w (Ce w (bj m)):=by
 obtain⟨A,c,rfl,Kz,Jw⟩:=T.open_;have V:=Pf w 30 #[C E m.next,C E m.term,C E m.vote,C E m.sq,C E m.sf,F A m.segs.length c];have Z:Ext w (w.alloc (I #[C E m.next,C E m.term,C E m.vote,C E m.sq,C E m.sf,F A m.segs.length c] 30)):=xA (xR _) _;obtain⟨m0,m1,m2,m3,m4,m5⟩:=aj V;have HS:=G T;have n:=Iw m (F A m.segs.length c) _ (T.ext Z);have o:=G n;clear n T;go_enter func62,ntmps62
 go_wp2_with fail
 refine o.mono ?_;rintro e d⟨rfl,X⟩;have E1:=xT Z X;have Hm:=G E1;have Hb:=G (V.ext X);clear V Z X m0 m1 m2 m3 m4 m5 o;cases a:aZ m with
 |false=>
  have h:bj m=none:=by unfold bj;rw[a];rfl
  go_wp2_with fail
  go_ret2;rw[h];exact⟨⟨_,rfl,Pe _ _ _ _⟩,Hm.out⟩
 |true=>
 have h:bj m=J (bh rT (77::aF (cM m))):=by unfold bj;rw[a];rfl
 have Hr:=G h;have KP:=G a;obtain⟨_,_,_,Jy,_,_⟩:=lJ a;obtain⟨m0,m1,m2,m3,m4,m5⟩:=aj Hb.out;clear h a E1;go_wp2_with fail;have HZ:=ym KP.out;have Ku:=G HZ;have hO:=be d ([m.next,m.term,m.vote,m.sq,m.sf,(U m.segs:Int)].map iv) 3 6 (xN _);have HO:=G hO;have KU:Ext d (d.alloc (I #[C E m.next,C E m.term,C E m.vote,C E m.sq,C E m.sf,C E (U m.segs:Int)] 3)):=xA (xR _) _;have KM:=G KU;obtain⟨g,D⟩:∃g,[m.next,m.term,m.vote,m.sq,m.sf,(U m.segs:Int)]=g:=⟨_,rfl⟩;have K:U g=6:=by rw[<-D];rfl
 have J5:cM m=g++du m.segs:=by rw[<-D];rfl
 have Je:=G D;have Ke:=G J5;clear hO KU J5 D HZ m0 m1 m2 m3 m4 m5;go_loopw [4,5] (λvl x W=>∃(j:Nat) (a':Option Addr) (c':Nat),j<=U m.segs/\x=C E j/\vl=F a' (6+4*j) c'/\Hid (OwnI W d.heap.size (F a' (6+4*j) c') (g++du (m.segs.take j)))/\Ext d W) (λ_ x _=>U m.segs-(intOf x).toNat)
 case atStart=>
  refine⟨0,_,_,by omega,rfl,rfl,G ?_,KM.out⟩;have:=HO.out;unfold OwnI;rw[List.take_zero,show du []=[]from rfl,List.append_nil,K,<-Je.out];exact this
 case round=>
  obtain⟨j,a',c',hj,rfl,rfl,z,y⟩:=hrel;have H7:=G y;have HE:=G (xT Hm y);obtain⟨_,_,_,_,_,M5⟩:=aj (Hb.ext y);clear y;have H9:d.heap.size<=wr.heap.size:=H7.size;by_cases f:j<U m.segs
  ·obtain⟨_,b,KJ,rfl,H2⟩:=(HS.ext HE.out).at_ (by omega);obtain⟨s0,s1,s2,s3⟩:=H2 j f;have Jb:=tS m.segs j f;have Ja:=(lJ KP.out).2.2.2.2.2 j f;generalize m.segs[j]=s at *;have Jx:IntKind.i64.wrap (s.count+1)=s.count+1:=by
    obtain⟨_,_,_,_,h5⟩:=si Ja;rw[IntKind.wrap_i64];omega
   have Jj:=G Jb;clear H2 Jb Ja;have G3:(j:Int)<(U m.segs:Int):=by omega
   have J0:=Pf wr 36 #[C E s.seq,C E s.fmt,C E s.first,C E s.count];have Jv:Ext wr (wr.alloc (I #[C E s.seq,C E s.fmt,C E s.first,C E s.count] 36)):=xA (xR _) _;obtain⟨k0,k1,k2,k3⟩:=aM J0;have hI:Is ((wr.alloc (I #[C E s.seq,C E s.fmt,C E s.first,C E s.count] 36)).alloc (I #[C E s.seq,C E s.fmt,C E s.first,C E (s.count+1)] 3)) (F (J ⟨wr.heap.size+1,0,H⟩) 4 4) [s.seq,s.fmt,s.first,s.count+1]:=by
    have:=be (wr.alloc (I #[C E s.seq,C E s.fmt,C E s.first,C E s.count] 36)) ([s.seq,s.fmt,s.first,s.count+1].map iv) 3 4 (xN _);rw[xS]at this;exact xW this
   have HI:=G hI;have KW:Ext wr ((wr.alloc (I #[C E s.seq,C E s.fmt,C E s.first,C E s.count] 36)).alloc (I #[C E s.seq,C E s.fmt,C E s.first,C E (s.count+1)] 3)):=xA Jv _;have Y:=G KW;obtain⟨P,R⟩:∃P,g++du (m.segs.take j)=P:=⟨_,rfl⟩;have KV:U P=6+4*j:=by rw[<-R,xL,K,lE,List.length_take];omega
   rw[R]at z;have HP:=G R;clear J0 hI KW R;go_wp2_with (at_builtin;refine DV rfl (.tmp 40) (.tmp 50) rfl d.heap.size _ P rfl (z.ext Y.out) _ [s.seq,s.fmt,s.first,s.count+1] rfl HI (by rw[KV];simp;omega) (Nat.le_trans H9 Y.size) ?_;intro A3 c3 i p Jr;rw[KV]at p⊢;have Kw:=Jr d (xT H7 Y.out) (xN _))
   go_roundw
   case rel=>
    refine⟨j+1,_,_,by omega,by go_num,rfl,G ?_,Kw⟩;rw[Jj.out,<-List.append_assoc,HP.out];exact p
   case measure=>simp[intOf];omega
  ·obtain rfl:j=U m.segs:=by omega
   have M:=z.out;rw[List.take_length,<-Ke.out]at M;have JS:=G M;have JA:U (cM m)<=2000000:=by rw[Ke.out,xL,K,lE];omega
   have n:=qq _ _ _ M.is Ku JA;have o:=G n;have JJ:=eY (cM m);have JB:U (cM m)<=246:=by rw[Ke.out,xL,K,lE];omega
   clear M n z HO KM Ke HS;go_wp2_with fail
   refine o.mono ?_;rintro e i⟨v3,rfl,p,Kw⟩;have hb3:Bs i v3 (aF (cM m)):=xW p;obtain⟨A3,c3,rfl,_,_⟩:=xO hb3;have KK:=G hb3;have X3:=G (xT HE Kw);obtain⟨L,q⟩:∃L,aF (cM m)=L:=⟨_,rfl⟩;have JX:U L<=2000:=by rw[<-q];omega
   have HL:=G q;rw[q]at KK;have K0:U (aF (cM m))=U L:=by rw[q]
   rw[K0]at *;clear hb3 p q JJ K0 o;go_wp2_with (at_builtin;refine eu (.tmp 57) (.tmp 58) rfl i.heap.size _ [77] (be i [C .u8 77] 5 1 (xN _)) _ L (KK.ext (xA (xR _) _)) (by simp;omega) (by simp) ?_;intro A4 c4 w4 JC Js;have KT:Ext i w4:=Js i (xA (xR _) _) (xN _))
   refine(qU _ _ _ JC.bs (by simp;omega)).mono ?_;rintro e w5⟨A5,c5,rfl,HH,Hi⟩;have h:bj m=J (bh rT ([77]++L)):=by rw[Hr.out,HL.out];rfl
   go_wp2_with fail
   go_ret2;rw[h];exact⟨⟨_,rfl,ay HH (xT X3 KT).size⟩,xT X3 (xT KT Hi)⟩
end Go.Proofs.YteggfecbjgbndaaGreatDoor

namespace Go.Mv
open Go.RowKit
theorem mcMan5a0{P:Prop}(h:P:=by
 go_wp2_with fail
 refine HT.mono ?_;rintro e w2⟨vl,vr,rfl,_,_,Hz⟩;have H8:=G (Hv.ext Hz);obtain⟨f0,f1,f2,f3,f4,f5⟩:=eN H8.out;obtain⟨g0,g1,g2,g3,g4,g5⟩:=aj H8.out;dsimp only at *;go_wp2_with fail
 refine bodyPost_ret (ij _ _ _ _ _ rfl rfl (cQ H8 _ _ _ _ _ _) rfl) rfl ?_;exact iO _ _ _ rfl (dD (xT Hm Hz) (xN _) _ _ _ _ _ _)):P:=h
section
variable {P:Program} {ops:Array Oper} {Q:Exit->Act->World->Prop} {md:Region.Mode} {S:World->Prop}
theorem oX{i:Nat}{o:Oper}{v:Value}{a:Act}{w w':World}{K:Act->World->Prop}(d:ops.toList[i]?=J o)(e:Pa o (yielded ops a.tmps)=true)(h:(execOp a.eval o).run P w=.ok (.value v) w')(c:K (a.put o.dst v) w'):wpOp P ops Q i K a w:=by
 unfold Go.wpOp;simp only[show ops[i]?=J o by simpa using d,e,if_true,Oper.wp,h,Oper.upon];exact .inl c
theorem qH{i j:Nat}{d f:Oper}{vi vj:Value}{fuel:Nat}{c:Array Bool}{a:Act}{w w':World}(s:ops.toList[i]?=J d)(x:ops.toList[j]?=J f)(y:Pb md ops c=[i,j])(p:Pb md ops (c.setIfInBounds i true)=[j])(q:Pb md ops (c.setIfInBounds j true)=[i])(wi:Pa d (yielded ops a.tmps)=true)(wj:Pa f (yielded ops a.tmps)=true)(o:Pa f (yielded ops (a.put d.dst vi).tmps)=true)(n:Pa d (yielded ops (a.put f.dst vj).tmps)=true)(C:(c.setIfInBounds j true).setIfInBounds i true=(c.setIfInBounds i true).setIfInBounds j true)(z:(a.put f.dst vj).put d.dst vi=(a.put d.dst vi).put f.dst vj)(D:S w)(m:S w')(h1:(execOp a.eval d).run P w=.ok (.value vi) w)(h2:(execOp (a.put d.dst vi).eval f).run P w=.ok (.value vj) w')(h3:(execOp a.eval f).run P w=.ok (.value vj) w')(h4:(execOp (a.put f.dst vj).eval d).run P w'=.ok (.value vi) w')(h:wpAnyH P md ops Q S fuel ((c.setIfInBounds i true).setIfInBounds j true) ((a.put d.dst vi).put f.dst vj) w'):wpAnyH P md ops Q S (fuel+2) c a w:=by
 refine⟨(λe=>absurd (y.symm.trans e) (by simp)),λk g=>?_⟩;rw[y]at g;rcases(by simpa using g:k=i\/k=j)with rfl | rfl
 ·refine oX s wi h1 ⟨D,(λe=>absurd (p.symm.trans e) (by simp)),λk g=>?_⟩;rw[p]at g;obtain rfl:k=j:=by simpa using g
  exact oX x o h2 ⟨m,h⟩
 ·refine oX x wj h3 ⟨m,(λe=>absurd (q.symm.trans e) (by simp)),λk g=>?_⟩;rw[q]at g;obtain rfl:k=i:=by simpa using g
  exact oX s n h4 ⟨m,by rw[C,z];exact h⟩
end
theorem BU{W:World}{base base' f a n n' m b p c:Nat}{e e':TypeId}{xs j:List Value}{o:Value}(KD:e≠e')(h:W.ownsRow base e f (F (J ⟨b,p,H⟩) n c) m xs)(s:W.ownsRow base' e' a o n' j):some b≠o.ownBlock:=by
 rcases h.2 with⟨i,_⟩|⟨g,a,a,i,_,hg,_⟩
 ·cases i
 ·rcases s.2 with⟨rfl,_⟩|⟨q,a,a,rfl,_,d,_⟩
  ·intro e1;cases e1
  ·intro e1;cases i;have:b=q:=by simpa[Value.ownBlock]using e1
   subst this;rw[hg]at d;cases d;exact KD rfl
theorem Aj{W W':World}{base base' a c n n':Nat}{e e':TypeId}{xs d:List Value}{v i:Value}(KD:e≠e')(h:W.ownsRow base e a v n xs)(j:W.ownsRow base' e' c i n' d)(hg:W.grownBy W' i.ownBlock):W'.ownsRow base e a v n xs:=by
 have f:=h;rcases h.2 with⟨rfl,rfl⟩|⟨g,a,a,rfl,_,_,_⟩
 ·exact⟨h.1,.inl ⟨rfl,rfl⟩⟩
 ·exact f.kept hg (.inr (BU KD f j))
end Go.Mv
namespace Go.Proofs.YteggfecbjgbndaaGreatDoor
open Go.RowKit Go.Mv
variable {l:List Int} {r:List UInt8} {b k:Nat} {t:TypeId} {v:Value} {W:World}
theorem yY(l:List Sg4):∀u∈bM l,u.oneCell'=true:=by
 intro u a;obtain⟨s,_,a⟩:=P8.1 a;simp only[Sg4.cells,P2,P1,or_false]at a;rcases a with rfl | rfl | rfl | rfl<;>rfl
theorem yK(W:World)(es:List Sg4)(n:Nat)(hn:n=U es)(hm:n<=maxLen):SlR (W.alloc (I (bM es).toArray 36)) 4 (F (J ⟨W.heap.size,0,H⟩) n n) n (bM es):=by
 subst hn;refine⟨tR es,_,U es,rfl,xN _,hm,λ_=>⟨W.heap.size,0,rfl,λj u a=>?_⟩⟩;rw[Pg];exact(Pf W 36 (bM es).toArray).cell j (by simpa using a)
def dW:Nat->List Sg4->List UInt8->Option (List Sg4)
 |0,H1,_=>some H1
 |k+1,H1,r=>if(ao 4 [] r).1=0 then dW k (H1++[⟨(ao 4 [] r).2.1.getD 0 0,(ao 4 [] r).2.1.getD 1 0,(ao 4 [] r).2.1.getD 2 0,(ao 4 [] r).2.1.getD 3 0-1⟩]) (ao 4 [] r).2.2 else none
def iD:Int×List Int×List UInt8->Option Mf
 |(e,l,r)=>if e≠0 then none else if 60<l.getD 5 0 then none else(dW (l.getD 5 0).toNat [] r).map λs=>⟨l.getD 0 0,l.getD 1 0,l.getD 2 0,l.getD 3 0,l.getD 4 0,s⟩
def fe(p:List UInt8):Option Mf:=if U p<1 then none else iD (ao 6 [] (p.drop 1))
def cA(b:List UInt8):Option Mf:=match bN rT b with
 |none=>none
 | some p=>match fe p with
  |none=>none
  |some m=>if bj m=J b then some m else none
def mf0:Mf:=⟨0,0,0,0,0,[]⟩
def OwnS(w:World)(base:Nat)(v:Value)(l:List Sg4):Prop:=w.ownsRow base 36 4 v l.length (bM l)
theorem OwnS.sgs{w:World}{base:Nat}{l:List Sg4}(h:OwnS w base v l):Sgs w v l:=xW h
def sC(w:World)(r:Option Mf)(e:Ending)(w':World):Prop:=
 ∃v,e=.returned (.tuple #[O #[C E (r.getD mf0).next,C E (r.getD mf0).term,C E (r.getD mf0).vote,C E (r.getD mf0).sq,C E (r.getD mf0).sf,v],C E (if r.isSome then 0 else 11)])/\OwnS w' w.heap.size v (r.getD mf0).segs/\Ext w w'
theorem lP:Tryz.prog.underlying 30=J (.struct (Tryz.prog.fieldsOf 30)):=by kernel_rfl
theorem ij(tmps:Array Value)(W:World)(b:Nat)(cs:Array Value)(u:Value)(h4:tmps.getD 2 undef=T (J ⟨b,0,H⟩))(h5:tmps.getD 3 undef=u)(hb:Blk W b 30 cs)(hs:cs.size=6):(results Tryz.f41 tmps).run N W=.ok (.tuple #[.agg cs,u]) W:=by
 have hl:=hb.load (P:=N) lP rfl (by rw[hs];kernel_rfl);have a:tmps[2]?.getD undef=T (J ⟨b,0,H⟩):=by simpa using h4
 have c:tmps[3]?.getD undef=u:=by simpa using h5
 simp[results,results41,a,c,asAddr,hl]
theorem eN{cs:Array Value}(h:Blk W b t cs):W.frozen? ⟨b,0,H⟩=false/\W.frozen? ⟨b,1,H⟩=false/\W.frozen? ⟨b,2,H⟩=false/\W.frozen? ⟨b,3,H⟩=false/\W.frozen? ⟨b,4,H⟩=false/\W.frozen? ⟨b,5,H⟩=false:=
 ⟨h.frozen 0,h.frozen 1,h.frozen 2,h.frozen 3,h.frozen 4,h.frozen 5⟩
theorem cQ{a u x y z:Value}(h:Blk W b t #[a,v,u,x,y,z])(a' d c e f g:Value):Blk ((((((W.setCell ⟨b,0,H⟩ a').setCell ⟨b,1,H⟩ d).setCell ⟨b,2,H⟩ c).setCell ⟨b,3,H⟩ e).setCell ⟨b,4,H⟩ f).setCell ⟨b,5,H⟩ g) b t #[a',d,c,e,f,g]:=
 (((((h.set 0 a').set 1 d).set 2 c).set 3 e).set 4 f).set 5 g
theorem dD{w:World}(h:Ext w W)(hb:w.heap.size<=b)(a' c a d e f:Value):Ext w ((((((W.setCell ⟨b,0,H⟩ a').setCell ⟨b,1,H⟩ c).setCell ⟨b,2,H⟩ a).setCell ⟨b,3,H⟩ d).setCell ⟨b,4,H⟩ e).setCell ⟨b,5,H⟩ f):=
 (((((Below.setCell h hb a').setCell hb c).setCell hb a).setCell hb d).setCell hb e).setCell hb f
theorem NY{a u x y z:Value}(j:Blk W b t #[a,v,u,x,y,z]){e:TypeId}(d:t≠e){base c:Nat}{n:Value}{xs:List Value}(m:W.ownsRow base e c n k xs)(a' g f h i o:Value):((((((W.setCell ⟨b,0,H⟩ a').setCell ⟨b,1,H⟩ g).setCell ⟨b,2,H⟩ f).setCell ⟨b,3,H⟩ h).setCell ⟨b,4,H⟩ i).setCell ⟨b,5,H⟩ o).ownsRow base e c n k xs:=by
 have c:=m.kept (ar _ b 0 a') (.inr (j.not_row d m).symm);have b1:=j.set 0 a';have j:=c.kept (ar _ b 1 g) (.inr (b1.not_row d c).symm);have b2:=b1.set 1 g;have c:=j.kept (ar _ b 2 f) (.inr (b2.not_row d j).symm);have b3:=b2.set 2 f;have f:=c.kept (ar _ b 3 h) (.inr (b3.not_row d c).symm);have c:=b3.set 3 h;have r5:=f.kept (ar _ b 4 i) (.inr (c.not_row d f).symm);have f:=c.set 4 i;exact r5.kept (ar _ b 5 o) (.inr (f.not_row d r5).symm)
theorem iO(w W:World)(v:Value)(c:v=F none 0 0)(a:Ext w W):sC w none (.returned (.tuple #[O #[C E 0,C E 0,C E 0,C E 0,C E 0,v],C E 11])) W:=by
 subst c;exact⟨_,rfl,Pe _ _ _ _,a⟩
theorem six(h:U l=6):∃a b c d e f,l=[a,b,c,d,e,f]:=by
 match l,h with
 |[a,b,c,d,e,f],_=>exact⟨a,b,c,d,e,f,rfl⟩
theorem four(h:U l=4):∃a b c d,l=[a,b,c,d]:=by
 match l,h with
 |[a,b,c,d],_=>exact⟨a,b,c,d,rfl⟩
theorem mP{bs:List UInt8}(h:ao k [] bs=(0,l,r)):U l=k/\(∀x∈l,0<=x/\x<=1073741824)/\U r<=U bs:=by
 obtain⟨a,rfl,h1,h2,rfl⟩:=mQ _ _ _ _ _ h;refine⟨h1,λx hx=>?_,by simp⟩;unfold aG at h2;rw[P9]at h2;exact numB_true.1 (h2 x (by simpa using hx))
theorem zW{e:Int}(h:e≠0):iD (e,l,r)=none:=if_pos h
theorem Bi(h:60<l.getD 5 0):iD (0,l,r)=none:=by unfold iD;simp only[ne_eq,not_true_eq_false,if_false];rw[if_pos h]
theorem Bj(h:¬60<l.getD 5 0):iD (0,l,r)=(dW (l.getD 5 0).toNat [] r).map λs=>⟨l.getD 0 0,l.getD 1 0,l.getD 2 0,l.getD 3 0,l.getD 4 0,s⟩:=by unfold iD;simp only[ne_eq,not_true_eq_false,if_false];rw[if_neg h]
theorem zk{H1:List Sg4}(h:(ao 4 [] r).1≠0):dW (k+1) H1 r=none:=by rw[dW,if_neg h]
theorem Ac{H1:List Sg4}{e:List UInt8}{a b c d:Int}(h:ao 4 [] r=(0,[a,b,c,d],e)):dW (k+1) H1 r=dW k (H1++[⟨a,b,c,d-1⟩]) e:=by rw[dW,h];rfl
theorem yI:(Tryz.prog.info? 36).map (λi=>(i.zero,i.size,i.bytes))=J (some (O #[C E 0,C E 0,C E 0,C E 0]),4,32):=by kernel_rfl
theorem Ic(v:Value)(bs:List UInt8)(w:World)(hB:Bs w v bs)(hl:U bs<=2000000):Calls N 41 #[v] w (sC w (cA bs)):=by
 obtain⟨A,c,rfl,h1,h2⟩:=xO hB;have Hk:=Pf w 30 #[C E 0,C E 0,C E 0,C E 0,C E 0,F none 0 0];have hX:Ext w (w.alloc (I #[C E 0,C E 0,C E 0,C E 0,C E 0,F none 0 0] 30)):=xA (xR _) _;have KA:=yi _ bs _ (hB.ext hX) hl;obtain⟨R,hR⟩:∃R,cA bs=R:=⟨_,rfl⟩;have Kj:=hR;unfold cA at Kj;rw[hR];have O:∀p,bN rT bs=J p->U p<=2000000:=λp h=>by
  have:=pY h;omega
 obtain⟨r,hr⟩:∃r,bN rT bs=r:=⟨_,rfl⟩;rw[hr]at KA Kj O;have KQ:=G KA;have HR:=G Kj;have HB:=G hB;go_enter func41,ntmps41
 go_wp2_with fail
 refine KQ.mono ?_;rintro e w1⟨⟨v1,rfl,K3⟩,Hy⟩;have H6:=Hk.ext Hy;have E1:=xT hX Hy;have Hm:=G E1;have Hv:=G H6;cases r with
 |none=>
  obtain rfl:none=R:=HR.out;obtain⟨f0,f1,f2,f3,f4,f5⟩:=eN H6;obtain⟨g0,g1,g2,g3,g4,g5⟩:=aj H6;dsimp only[Pc];go_wp2_with fail
  refine bodyPost_ret (ij _ _ _ _ _ rfl rfl (cQ Hv _ _ _ _ _ _) rfl) rfl ?_;exact iO _ _ _ rfl (dD Hm (xN _) _ _ _ _ _ _)
 |some p=>
  have hp:=O p rfl;dsimp only[Pc,Pd]at K3 HR⊢;obtain⟨A1,c1,rfl,h3,h4⟩:=xO K3.bs;by_cases hp1:U p<1
  ·have HQ:fe p=none:=by unfold fe;rw[if_pos hp1]
   obtain rfl:none=R:=by rw[<-HR.out,HQ]
   obtain⟨f0,f1,f2,f3,f4,f5⟩:=eN H6;obtain⟨g0,g1,g2,g3,g4,g5⟩:=aj H6;have JD:(U p:Int)<1:=by omega
   go_wp2_with fail
   refine bodyPost_ret (ij _ _ _ _ _ rfl rfl (cQ Hv _ _ _ _ _ _) rfl) rfl ?_;exact iO _ _ _ rfl (dD Hm (xN _) _ _ _ _ _ _)
  obtain⟨_,b1,HK,rfl,_⟩:=Bs.at_ K3.bs (by omega);have JD:¬(U p:Int)<1:=by omega
  have HD:=Bs.cut K3.bs 1 (by omega) rfl;have J1:U (p.drop 1)=U p-1:=by simp
  obtain⟨Q,hQ⟩:∃Q,p.drop 1=Q:=⟨_,rfl⟩;have HQ:fe p=iD (ao 6 [] Q):=by unfold fe;rw[if_neg hp1,hQ]
  rw[hQ]at HD J1;obtain⟨⟨er,ls,V⟩,hq⟩:∃q,ao 6 [] Q=q:=⟨_,rfl⟩;rw[hq]at HQ;have Ho:Hid ((match iD (er,ls,V)with | none=>none | some m=>if bj m=J bs then some m else none)=R):=G (by rw[<-HQ];exact HR.out);have Hq:=G hq;have HW:=G HD;have HY:er≠0->none=R:=λh=>by rw[<-Ho.out,zW h]
  have Hw:=G HY;by_cases Kz:c1=1
  ·have Jt:Q=[]:=List.eq_nil_of_length_eq_zero (by omega);subst Jt;have Km:er≠0:=by
    intro h;subst h;obtain⟨l',_,k2,_,k3⟩:=mQ _ _ _ _ _ hq;have k4:=congrArg List.length k3;have k5:=ra l';simp at k4;omega
   have hT:Calls N 91 #[F (J ⟨b1,HK,H⟩) 0 0,C E 6] w1 (ir w1 (er,ls,V)):=by
    have:=mA _ [] 6 w1 (SlR.empty (A:=J ⟨b1,HK,H⟩) (c:=0) _ 1 (by simp)) (by simp);rw[hq]at this;exact this
   have HT:=G hT;have JE:U p=1:=by simp at J1;omega
   obtain rfl:=Hw Km;subst Kz;rw[JE]at *;exact mcMan5a0
  have hT:Calls N 91 #[F (J ⟨b1,HK+1,H⟩) (U p-1) (c1-1),C E 6] w1 (ir w1 (er,ls,V)):=by
   have:=mA _ Q 6 _ HW (by omega);rw[hq]at this;exact this
  have HT:=G hT;by_cases Km:er=0
  case neg=>
   obtain rfl:=Hw Km;exact mcMan5a0
  subst Km;obtain⟨J4,K2,G8⟩:=mP Hq.out;obtain⟨f,g,n,o,y,a,rfl⟩:=six J4;simp only[P2,P1,or_false,forall_eq_or_imp,forall_eq]at K2;obtain⟨n0,n1,n2,n3,n4,n5⟩:=K2;go_wp2_with fail
  refine HT.mono ?_;rintro e w2⟨vl,vr,rfl,K4,J6,Hz⟩;have H8:=G (Hv.ext Hz);have Kp:=G (xT Hm Hz);dsimp only at K4 J6⊢;obtain⟨Al,cl,rfl,_,_⟩:=xO (xW K4);obtain⟨_,bl,Kb,rfl,O⟩:=Is.at_ (l:=[f,g,n,o,y,a]) (xW K4) (by simp);have c0:=O 0 (by simp);have c1:=O 1 (by simp);have c2:=O 2 (by simp);have c3:=O 3 (by simp);have c4:=O 4 (by simp);have c5:=O 5 (by simp);simp only[P6,P7,Pi]at c0 c1 c2 c3 c4 c5;simp only[xC,P3,Pg,Ph]at *;by_cases h60:60<a
  ·have hR:none=R:=by rw[<-Ho.out,Bi (by simpa using h60)]
   subst hR;obtain⟨f0,f1,f2,f3,f4,f5⟩:=eN H8.out;obtain⟨g0,g1,g2,g3,g4,g5⟩:=aj H8.out;go_wp2_with fail
   refine bodyPost_ret (ij _ _ _ _ _ rfl rfl (cQ H8 _ _ _ _ _ _) rfl) rfl ?_;exact iO _ _ _ rfl (dD (xT Hm Hz) (xN _) _ _ _ _ _ _)
  have Kc:Hid ((match (dW a.toNat [] V).map (λs=>(⟨f,g,n,o,y,s⟩:Mf))with | none=>none | some m=>if bj m=J bs then some m else none)=R):=G (by rw[<-Ho.out,Bj (by simpa using h60)];rfl);go_wp2_with fail;have O:=G K4;refine wp_region_held_drew (S:=λW=>W.cell? ⟨bl,Kb,H⟩=J (C E f)/\W.cell? ⟨bl,Kb+1,H⟩=J (C E g)/\W.cell? ⟨bl,Kb+2,H⟩=J (C E n)/\W.cell? ⟨bl,Kb+3,H⟩=J (C E o)/\W.cell? ⟨bl,Kb+4,H⟩=J (C E y)) (by kernel_rfl) ⟨c0,c1,c2,c3,c4⟩ (λhHeld=>?_);refine ab 0 ?_;refine ab 1 ?_;refine ab 2 ?_;refine ab 3 ?_;refine ab 4 ?_;refine ab 5 ?_;refine ab 6 ?_;refine ab 7 ?_;refine ab 8 ?_;refine ab 9 ?_;refine ab 10 ?_;refine ab 11 ?_;refine ab 12 ?_;refine ab 13 ?_;refine ab 14 ?_;refine ab 15 ?_;refine ab 16 ?_;refine ah 17 (λK hK=>?_);go_simp;have O:Ext w2 (w2.drew.alloc (I #[C E 0,C E 0,C E 0,C E 0,C E 0,F none 0 0] 30)):=xA (xD (xR _)) _;refine af hK _ _ ⟨O.cell c0,O.cell c1,O.cell c2,O.cell c3,O.cell c4⟩ (λhHeld=>?_);refine ah 18 (λK hK=>?_);go_simp;have O:Ext w2 (w2.alloc (I #[C E f,C E g,C E n,C E o,C E y,F none 0 0] 30)).drew:=xD (xA (xR _) _);have KY:Blk (w2.alloc (I #[C E f,C E g,C E n,C E o,C E y,F none 0 0] 30)).drew w2.heap.size 30 #[C E f,C E g,C E n,C E o,C E y,F none 0 0]:=(Pf w2 _ _).ext (xD (xR _));refine af hK _ _ ⟨O.cell c0,O.cell c1,O.cell c2,O.cell c3,O.cell c4⟩ (λhHeld=>?_);refine aq ?_;generalize Ju:(w2.alloc (I #[C E f,C E g,C E n,C E o,C E y,F none 0 0] 30)).drew=w4 at *;have KO:=G O;have Jg:=G KY;have O:a.toNat<=60:=by omega
  have O:U V<=2000000:=by omega
  go_wp2_with fail
  go_loopw [7,10] (λO x W=>∃(j:Nat) (H1:List Sg4) (rest:List UInt8) (u:Value) (vt':Value),j<=a.toNat/\x=C E j/\O=vt'/\Hid (U H1=j)/\U rest<=U V/\Hid (Bs W vt' rest)/\Hid (dW a.toNat [] V=dW (a.toNat-j) H1 rest) /\
   Hid (Blk W w2.heap.size 30 #[C E f,C E g,C E n,C E o,C E y,u])/\Hid (W.ownsRow w2.heap.size 36 4 u H1.length (bM H1))/\Ext w2 W) (λ_ x _=>a.toNat-(intOf x).toNat)
  case atStart=>
   exact⟨0,[],V,_,_,by omega,rfl,rfl,rfl,xN _,G ((xW J6:Bs w2 vr V).ext KO.out),G rfl,Jg,G (Pe _ _ _ _),KO.out⟩
  case round=>
   obtain⟨j,H1,rest,u,O,hj,rfl,rfl,HL,O,V,HG,Kd,HO,O⟩:=hrel;have HE:=G (xT Kp O);have H7:=G O;have JR:=O.cell c5;have O:U H1<=60:=by have:=HL.out;omega
   by_cases O:j<a.toNat
   ·obtain⟨k,O⟩:∃k,a.toNat-j=k+1:=⟨a.toNat-j-1,by omega⟩;have hG:=HG.out;rw[O]at hG;have O:=mA u7 rest 4 wr V (by omega);obtain⟨⟨V,l4,r4⟩,HN⟩:∃q,ao 4 [] rest=q:=⟨_,rfl⟩;rw[HN]at O;have Kq:Hid (Calls N 91 #[u7,C E 4] wr (ir wr (V,l4,r4))):=G O;have O:(j:Int)<a:=by omega
    have O:=G hj;by_cases he4:V=0
    case neg=>
     have hR:none=R:=by rw[<-Kc.out,hG,zk (by rw[HN];exact he4)];rfl
     subst hR;go_wp2_with fail
     refine Kq.mono ?_;rintro e M⟨JO,JP,rfl,_,_,Hi⟩;have O:=G (H8.ext (xT H7 Hi));obtain⟨f0,f1,f2,f3,f4,f5⟩:=eN O.out;obtain⟨g0,g1,g2,g3,g4,g5⟩:=aj O.out;dsimp only at *;go_wp2_with fail
     refine bodyPost_ret (ij _ _ _ _ _ rfl rfl (cQ O _ _ _ _ _ _) rfl) rfl ?_;exact iO _ _ _ rfl (dD (xT HE Hi) (xN _) _ _ _ _ _ _)
    subst he4;obtain⟨J3,Ht,O⟩:=mP HN;obtain⟨z,D,L,d,rfl⟩:=four J3;simp only[P2,P1,or_false,forall_eq_or_imp,forall_eq]at Ht;obtain⟨O,O,O,O⟩:=Ht;rw[Ac HN]at hG;have HG:=G hG;have O:IntKind.i64.wrap (d-1)=d-1:=by rw[IntKind.wrap_i64];omega
    go_wp2_with fail
    refine Kq.mono ?_;rintro e M⟨JO,JP,rfl,HH,K8,Hi⟩;dsimp only at HH K8⊢;obtain⟨O,O,rfl,_,_⟩:=xO (xW HH);obtain⟨_,Kf,Ko,rfl,O⟩:=Is.at_ (l:=[z,D,L,d]) (xW HH) (by simp);have d0:=O 0 (by simp);have d1:=O 1 (by simp);have d2:=O 2 (by simp);have d3:=O 3 (by simp);simp only[P6,P7,Pi]at d0 d1 d2 d3;simp only[xC,P3,Pg,Ph]at *;obtain⟨Au,cu,rfl,_,_⟩:=xO (xW HO.out);have Hx:=G (Kd.ext Hi);obtain⟨_,_,_,_,_,g5⟩:=aj Hx.out;have V:=G (ai HO Hi);have KR:=G HH;have KL:=G Hi;go_wp2_with fail
    refine wp_region_held_drew (S:=λW=>W.cell? ⟨Kf,Ko,H⟩=J (C E z)/\W.cell? ⟨Kf,Ko+1,H⟩=J (C E D)/\W.cell? ⟨Kf,Ko+2,H⟩=J (C E L)/\W.cell? ⟨Kf,Ko+3,H⟩=J (C E d)) (by kernel_rfl) ⟨d0,d1,d2,d3⟩ (λhHeld=>?_);refine ab 0 ?_;refine ab 2 ?_;refine ab 3 ?_;refine ab 4 ?_;refine ab 5 ?_;refine ab 6 ?_;refine ab 7 ?_;refine ab 8 ?_;refine ab 9 ?_;refine ab 10 ?_;refine ab 11 ?_;refine ab 12 ?_;refine ab 13 ?_;refine ab 14 ?_;refine ab 15 ?_;have O:Ext M (M.alloc (I #[C E z,C E D,C E L,C E (d-1)] 36)).drew:=xD (xA (xR _) _);have Jm:M.drew.cell? ⟨w2.heap.size,5,H⟩=J (F Au H1.length cu):=g5;have Jn:=O.cell g5;refine qH (i:=1) (j:=16) (vi:=F Au H1.length cu) (vj:=F (J ⟨M.heap.size,0,H⟩) 1 1) (w':=(M.alloc (I #[C E z,C E D,C E L,C E (d-1)] 36)).drew) rfl rfl (by kernel_rfl) (by kernel_rfl) (by kernel_rfl) (by rfl) (by rfl) (by rfl) (by rfl) (by rfl) (by rfl) hHeld ⟨O.cell d0,O.cell d1,O.cell d2,O.cell d3⟩ ?h1 ?h2 ?h3 ?h4 ?h5
    case h1=>go_simp
    case h2=>go_simp
    case h3=>go_simp
    case h4=>go_simp
    case' h5=>skip
    try simp only[Act.put,sA,sZ,sS]
    have J7:SlR (M.alloc (I #[C E z,C E D,C E L,C E (d-1)] 36)).drew 4 (F (J ⟨M.heap.size,0,H⟩) 1 1) 1 (bM [⟨z,D,L,d-1⟩]):=SlR.ext (yK M [⟨z,D,L,d-1⟩] 1 rfl (by simp[maxLen])) (xD (xR _));have H3:=G O;have Ji:=G J7;have Ha:w2.heap.size<=(M.alloc (I #[C E z,C E D,C E L,C E (d-1)] 36)).drew.heap.size:=(xT H7 (xT KL O)).size;obtain⟨i0,hi,M,O,KI⟩:=info_parts yI;refine ah 17 (λK hK=>?_);refine fJ _ (.tmp 78) (.tmp 93) 28 (by rfl) w2.heap.size 36 i0 _ 4 32 underlying28 hi M O KI rfl (F Au H1.length cu) H1.length (bM H1) (ai V H3.out) _ 1 (bM [⟨z,D,L,d-1⟩]) Ji (yY _) Ha ?_;intro M w7 Kn Hl;have M:=BU (by decide) (ai KR H3.out) (ai V H3.out);have H5:=(Hx.ext H3.out).kept Hl ((Hx.ext H3.out).not_row (by decide) (ai V H3.out));have E7:Ext w2 w7:=Ext.grownOwn (xT H7 (xT KL H3.out)) (ai V H3.out) Hl;refine af hK _ _ ⟨cg Hl (H3.cell d0) M,cg Hl (H3.cell d1) M,cg Hl (H3.cell d2) M,cg Hl (H3.cell d3) M⟩ (λhHeld=>?_);have M:=H5.frozen 5;have M:w7.cell? ⟨w2.heap.size,5,H⟩=J (F Au H1.length cu):=H5.cell 5 rfl;have HJ:=Aj (by decide) (ai K8 H3.out) (ai V H3.out) Hl;have M:=Aj (by decide) (ai KR H3.out) (ai V H3.out) Hl;have K1:=H5.not_row (by decide) M;have k0:=hHeld.1;have k1:=hHeld.2.1;have k2:=hHeld.2.2.1;have k3:=hHeld.2.2.2;obtain⟨X,c7,rfl,_,_⟩:=xO (xW Kn);refine ab 18 ?_;refine ah 19 (λK hK=>?_);go_simp;have M:Ext w2 (w7.setCell ⟨w2.heap.size,5,H⟩ (F X (U H1+1) c7)):=Below.setCell (p:=⟨w2.heap.size,5,H⟩) E7 (xN _) _;have KZ:=H5.set 5 (F X (U H1+1) c7);have K7:=Kn.kept (ar _ w2.heap.size 5 (F X (U H1+1) c7)) (.inr (H5.not_row (by decide) Kn).symm);have V:=HJ.kept (ar _ w2.heap.size 5 (F X (U H1+1) c7)) (.inr (H5.not_row (by decide) HJ).symm);refine af hK _ _ ⟨cg (ar _ w2.heap.size 5 (F X (U H1+1) c7)) k0 K1.symm,cg (ar _ w2.heap.size 5 (F X (U H1+1) c7)) k1 K1.symm,cg (ar _ w2.heap.size 5 (F X (U H1+1) c7)) k2 K1.symm,cg (ar _ w2.heap.size 5 (F X (U H1+1) c7)) k3 K1.symm⟩ (λhHeld=>?_);refine aq ?_;have O:=G M;have Y:=G KZ;have M:=G K7;have X:=G V;go_wp2_with fail
    go_roundw
    case rel=>
     refine⟨j+1,H1++[⟨z,D,L,d-1⟩],r4,_,_,by omega,by go_num,rfl,G (by simp[HL.out]),by omega,G (xW X.out),?_,Y,?_,O.out⟩
     ·rw[show a.toNat-(j+1)=k by omega];exact HG
     rw[show bM (H1++[⟨z,D,L,d-1⟩])=bM H1++bM [⟨z,D,L,d-1⟩] by simp[bM],xL];exact M
    case measure=>simp[intOf];omega
   ·obtain rfl:j=a.toNat:=by omega
    have hG:=HG.out;rw[Nat.sub_self,dW]at hG;have KN:Hid ((if bj ⟨f,g,n,o,y,H1⟩=J bs then some ⟨f,g,n,o,y,H1⟩else none)=R):=G (by rw[<-Kc.out,hG];rfl);have Kk:Sgs wr u H1:=xW HO.out;obtain⟨Au,cu,rfl,_,_⟩:=Kk.open_;have d:=AM ⟨f,g,n,o,y,H1⟩ (F Au H1.length cu) wr Kk;obtain⟨z,z,z,z,z,z⟩:=aj Kd.out;have Jq:=HB.ext HE.out;have z:=G Kk;obtain⟨pr,z⟩:∃pr,bj ⟨f,g,n,o,y,H1⟩=pr:=⟨_,rfl⟩;rw[z]at d;have HV:Hid ((if pr=J bs then some ⟨f,g,n,o,y,H1⟩else none)=R):=G (by rw[<-z];exact KN.out);have f:=G d;have d:((a.toNat:Nat):Int)=a:=by omega
    have d:¬(((a.toNat:Nat):Int)<a):=by omega
    go_wp2_with fail
    refine f.mono ?_;rintro e w8⟨⟨a,rfl,K7⟩,Z⟩;have Y:=G (H8.ext (xT H7 Z));have a:=G (Kd.ext Z);obtain⟨f0,f1,f2,f3,f4,f5⟩:=eN Y.out;obtain⟨g0,g1,g2,g3,g4,g5⟩:=aj Y.out;obtain⟨d,d,d,d,d,d⟩:=aj a.out;have Jf:=G (ai HO Z);have a:=G (xT HE Z);cases pr with
    |none=>
     obtain rfl:none=R:=HV.out;dsimp only[Pc];go_wp2_with fail
     refine bodyPost_ret (ij _ _ _ _ _ rfl rfl (cQ Y _ _ _ _ _ _) rfl) rfl ?_;exact iO _ _ _ rfl (dD (xT HE Z) (xN _) _ _ _ _ _ _)
    |some q=>
     dsimp only[Pc,Pd]at K7⊢;have a:=eh (P:=N) w8 33 9 5 underlying33 underlying5 underlying9 K7.bs;have a:=eh (P:=N) w8 33 9 5 underlying33 underlying5 underlying9 (Jq.ext Z);by_cases T:q=bs
     ·obtain rfl:some _=R:=by rw[<-HV.out,if_pos (by rw[T])]
      subst T;go_wp2_with fail
      refine bodyPost_ret (ij _ _ _ _ _ rfl rfl (cQ Y _ _ _ _ _ _) rfl) rfl ?_;exact⟨_,rfl,ay (NY Y (by decide) Jf _ _ _ _ _ _) (by first | exact xN _ | exact Kp.size | (have:=Kp.size;omega)),dD (xT HE Z) (xN _) _ _ _ _ _ _⟩
     ·obtain rfl:none=R:=by rw[<-HV.out,if_neg (by simpa using T)]
      have a:(q==bs)=false:=by simpa using T
      go_wp2_with fail
      refine bodyPost_ret (ij _ _ _ _ _ rfl rfl (cQ Y _ _ _ _ _ _) rfl) rfl ?_;exact iO _ _ _ rfl (dD (xT HE Z) (xN _) _ _ _ _ _ _)
end Go.Proofs.YteggfecbjgbndaaGreatDoor

namespace Go.Mv
open Go.RowKit
variable {A B:World}
theorem Moves.blk{M:Nat->Obj->Prop}(h:Moves M A B){b:Nat}{t:TypeId}{cs:Array Value}(hb:Blk A b t cs)(a:¬M b (I cs t (0,0))):Blk B b t cs:=h.same b _ hb a
theorem Moves.blkF{n:Nat}(h:Moves (am (λ_ _=>False) n) A B){b:Nat}{t:TypeId}{cs:Array Value}(hb:Blk A b t cs):Blk B b t cs:=h.blk hb (by rintro(h | ⟨_,h⟩);exact h;cases h)
theorem Moves.belowF{n:Nat}{w:World}(h:Moves (am (λ_ _=>False) n) A B)(he:Ext w A)(hn:w.heap.size<=n):Ext w B:=h.belowOf he (by rintro k o a(h | h);exact h;omega) (xN _)
end Go.Mv
namespace Go.Proofs.YteggfecbjgbndaaGreatDoor
open Go.RowKit Go.Mv Go.Shelf
attribute [local go_sem] Oper.semAt_some
theorem pM{W:World}{b:Nat}{t:TypeId}{cs:Array Value}(h:Blk W b t cs){D:Nat}{o:Obj}(hD:W.heap[D]?=J o)(hc:o.isCells=false)(a:Obj):Blk (W.putObj D a) b t cs:=by
 refine(World.putObj_heap_other (λe=>?_)).trans h;subst e;rw[show W.heap[b]?=_ from h]at hD;cases hD;cases hc
