/- Merged -/
import Derived.Test.YteggfecbjgbndaaGreatDoorZx13
import Derived.Test.YteggfecbjgbndaaGreatDoorZx16
set_option linter.all false
set_option maxHeartbeats 8000000
set_option maxRecDepth 100000
open Go.Proofs.Tryz
open List renaming length->V
open Go.Value renaming int->C,slice->F,bool->O,agg->T,pointer->U
open Go.IntKind renaming i64->E
open Go.Mv renaming aN->G
open Option renaming none->H,some->I
open Go.Proofs.Tryz renaming prog->J
open Go.Obj renaming cells->N
open List renaming not_mem_nil->P0,mem_cons->P1,length_nil->P2,mem_take_iff_getElem->P3,getElem_cons_zero->P4,getElem_cons_succ->P5,mem_flatMap->P6,all_eq_true->P7
open Go.Region renaming wanted->P8,ready->P9
open Option renaming isSome->Pa,getD->Pb
open Go.World renaming ownsRow_nil->Pc
open Nat renaming zero_add->Pd,reduceAdd->Pe,add_zero->Pf
open Bool renaming or_eq_true->Pg,eq_iff_iff->Ph
namespace Go.Proofs.YteggfecbjgbndaaGreatDoor
open Go.RowKit Go.Mv
variable {w:World}
def du(l:List Sg4):List Int:=l.flatMap λs=>[s.seq,s.fmt,s.first,s.count+1]
def cM(m:Mf):List Int:=[m.next,m.term,m.vote,m.sq,m.sf,(V m.segs:Int)]++du m.segs
def bj(m:Mf):Option (List UInt8):=if aZ m then some (bh rT (77::aF (cM m)))else none
def Ce(w:World)(r:Option (List UInt8))(e:Ending)(w':World):Prop:=(∃v,e=.returned (.tuple #[v,C E (if r.isSome then 0 else 2)])/\OwnB w' w.heap.size v (r.getD []))/\Ext w w'
theorem lE(l:List Sg4):V (du l)=4*V l:=by
 induction l with
 |nil=>rfl
 |cons e l ih=>simp only[du,List.flatMap_cons,xL,xC,P2]at ih⊢;omega
theorem tS(l:List Sg4)(k:Nat)(h:k<V l):du (l.take (k+1))=du (l.take k)++[l[k].seq,l[k].fmt,l[k].first,l[k].count+1]:=by
 rw[List.take_succ_eq_append_getElem h];unfold du;rw[List.flatMap_append];rfl
theorem lJ{m:Mf}(h:aZ m=true):(1<=m.next/\m.next<=1073741824)/\(0<=m.term/\m.term<=1073741824)/\(0<=m.vote/\m.vote<=5)/\V m.segs<=60/\((m.sq=0/\m.sf=0)\/(1<=m.sq/\m.sq<=m.next-1/\(m.sf=1\/m.sf=2))) /\
  ∀i (hi:i<V m.segs),cD m i m.segs[i]=true:=by
 unfold aZ dN dX at h;simp only[Bool.and_eq_true,Pg,decide_eq_true_eq,inB_b]at h;obtain⟨⟨⟨⟨⟨h1,h2⟩,h3⟩,h4⟩,h5⟩,c⟩:=h;refine⟨h1,h2,h3,h4,?_,λi hi=>?_⟩
 ·rcases h5 with h5 | h5
  ·exact .inl h5
  exact .inr (mZ h5)
 ·obtain⟨s,hs,d⟩:=oO c i hi;rw[List.getElem?_eq_getElem hi]at hs;cases hs;exact d
theorem ym{m:Mf}(h:aZ m=true):aG (cM m)=true:=by
 obtain⟨h1,h2,h3,h4,h5,c⟩:=lJ h;unfold aG;rw[P7];intro x hx;rw[numB_true];unfold cM at hx;rcases List.mem_append.1 hx with hx | hx
 ·simp only[P1,P0,or_false]at hx;rcases hx with rfl | rfl | rfl | rfl | rfl | rfl<;>omega
 ·obtain⟨s,hs,hx⟩:=P6.1 hx;obtain⟨i,hi,rfl⟩:=List.mem_iff_getElem.1 hs;obtain⟨d,_,e,_,e⟩:=si (c i hi);have c:=mZ d;simp only[P1,P0,or_false]at hx;rcases hx with rfl | rfl | rfl | rfl<;>omega
def OwnI(w:World)(base:Nat)(v:Value)(l:List Int):Prop:=w.ownsRow base 3 1 v l.length (l.map iv)
theorem OwnI.is{base:Nat}{v:Value}{l:List Int}(h:OwnI w base v l):Is w v l:=xW h
theorem OwnI.ext{w':World}{base:Nat}{v:Value}{l:List Int}(h:OwnI w base v l)(he:Ext w w'):OwnI w' base v l:=ai h he
theorem DV{ops:Array Oper}{rest:List Oper}{o:Oper}{a:Act}{Q:Exit->Act->World->Prop}(f:o.guard=none)(s x:Operand)(m:o.op=.call { callee:=.builtin .append,args:=#[s,x],argTypes:=#[64,64] })(base:Nat)(v:Value)(bs:List Int)(hs:a.eval s=v)(d:OwnI w base v bs)(vx:Value)(cs:List Int)(hx:a.eval x=vx)(n:Is w vx cs)(e:V bs+V cs<=40000000)(e:base<=w.heap.size)(h:∀A c w',OwnI w' base (F A (V bs+V cs) c) (bs++cs)->eP base w w'->wpList J ops Q rest (a.put o.dst (F A (V bs+V cs) c)) w'):wpList J ops Q (o::rest) a w:=by
 obtain⟨p,hi,g,i,j⟩:=info_parts m9;refine dT _ f s x 64 m base 3 p (C E 0) 1 8 underlying64 hi g i j rfl (by decide) v bs.length (bs.map iv) hs d vx cs.length (cs.map iv) hx n (BT _) (by unfold maxLen;omega) (by omega) e ?_;intro e w' h1 h2;obtain⟨A,c,rfl,_,_⟩:=xO (xW h1);refine h A c w' ?_ (λe e hb=>Ext.grownOwn e (ay d hb) h2);unfold OwnI;rw[xL,List.map_append];exact h1
theorem AM(m:Mf)(v:Value)(w:World)(Y:Sgs w v m.segs):
  Calls J 62 #[T #[C E m.next,C E m.term,C E m.vote,C E m.sq,C E m.sf,v]] w (Ce w (bj m)):=by
 obtain⟨A,c,rfl,Ko,JF⟩:=Y.open_;have Hh:=Blk.new w 30 #[C E m.next,C E m.term,C E m.vote,C E m.sq,C E m.sf,F A m.segs.length c];have hX:Ext w (w.alloc (N #[C E m.next,C E m.term,C E m.vote,C E m.sq,C E m.sf,F A m.segs.length c] 30)):=xA (xR _) _;have ea:=aj Hh;have HS:=G Y;have o:=Iw m (F A m.segs.length c) _ (Y.ext hX);have n:=G o;clear o Y;go_enter func62,ntmps62
 go_wp2_with fail
 refine n.mono ?_;rintro e f⟨rfl,Z⟩;have E1:=xT hX Z;have H5:=G E1;have Hb:=G (Hh.ext Z);clear Hh hX Z n ea;cases d:aZ m with
 |false=>
  have h:bj m=none:=by unfold bj;rw[d];rfl
  go_wp2_with fail
  go_ret2;rw[h];exact⟨⟨_,rfl,Pc _ _ _ _⟩,H5.out⟩
 |true=>
 have h:bj m=I (bh rT (77::aF (cM m))):=by unfold bj;rw[d];rfl
 have Hr:=G h;have KR:=G d;obtain⟨_,_,_,JI,_,_⟩:=lJ d;have ea:=aj Hb;clear h d E1;go_wp2_with fail;have K1:=ym KR;have Ky:=G K1;have hO:=be f ([m.next,m.term,m.vote,m.sq,m.sf,(V m.segs:Int)].map iv) 3 6 (xN _);have HO:=G hO;have KW:Ext f (f.alloc (N #[C E m.next,C E m.term,C E m.vote,C E m.sq,C E m.sf,C E (V m.segs:Int)] 3)):=xA (xR _) _;have KO:=G KW;obtain⟨H0,O⟩:∃H0,[m.next,m.term,m.vote,m.sq,m.sf,(V m.segs:Int)]=H0:=⟨_,rfl⟩;have R:V H0=6:=by rw[<-O];rfl
 have J7:cM m=H0++du m.segs:=by rw[<-O];rfl
 have Jh:=G O;have M:=G J7;clear hO KW J7 O K1 ea;go_loopw [4,5] (λvl x W=>∃(j:Nat) (a':Option Addr) (c':Nat),j<=V m.segs/\x=C E j/\vl=F a' (6+4*j) c'/\Hid (OwnI W f.heap.size (F a' (6+4*j) c') (H0++du (m.segs.take j)))/\Ext f W) (λ_ x _=>V m.segs-(intOf x).toNat)
 case atStart=>
  refine⟨0,_,_,by omega,rfl,rfl,G ?_,KO.out⟩;have:=HO.out;unfold OwnI;rw[List.take_zero,show du []=[]from rfl,List.append_nil,R,<-Jh.out];exact this
 case round=>
  obtain⟨j,a',c',hj,rfl,rfl,K,D⟩:=hrel;have Hi:=G D;have HE:=G (xT H5 D);obtain⟨_,_,_,_,_,M5⟩:=aj (Hb.ext D);clear D;have Ha:f.heap.size<=wr.heap.size:=Hi.size;by_cases g:j<V m.segs
  ·obtain⟨_,b,Ks,rfl,Hx⟩:=(HS.ext HE).at_ (by omega);have eb:=Hx j g;have Jd:=tS m.segs j g;have Jc:=(lJ KR).2.2.2.2.2 j g;generalize m.segs[j]=s at *;have JG:IntKind.i64.wrap (s.count+1)=s.count+1:=by
    obtain⟨_,_,_,_,h5⟩:=si Jc;rw[IntKind.wrap_i64];omega
   have Jn:=G Jd;clear Hx Jd Jc;have Gc:(j:Int)<(V m.segs:Int):=by omega
   have J2:=Blk.new wr 36 #[C E s.seq,C E s.fmt,C E s.first,C E s.count];have JD:Ext wr (wr.alloc (N #[C E s.seq,C E s.fmt,C E s.first,C E s.count] 36)):=xA (xR _) _;have ec:=aM J2;have hI:Is ((wr.alloc (N #[C E s.seq,C E s.fmt,C E s.first,C E s.count] 36)).alloc (N #[C E s.seq,C E s.fmt,C E s.first,C E (s.count+1)] 3)) (F (I ⟨wr.heap.size+1,0,H⟩) 4 4) [s.seq,s.fmt,s.first,s.count+1]:=by
    have:=be (wr.alloc (N #[C E s.seq,C E s.fmt,C E s.first,C E s.count] 36)) ([s.seq,s.fmt,s.first,s.count+1].map iv) 3 4 (xN _);rw[xS]at this;exact xW this
   have HI:=G hI;have KY:Ext wr ((wr.alloc (N #[C E s.seq,C E s.fmt,C E s.first,C E s.count] 36)).alloc (N #[C E s.seq,C E s.fmt,C E s.first,C E (s.count+1)] 3)):=xA JD _;have Kv:=G KY;obtain⟨P,X⟩:∃P,H0++du (m.segs.take j)=P:=⟨_,rfl⟩;have KX:V P=6+4*j:=by rw[<-X,xL,R,lE,List.length_take];omega
   rw[X]at K;have HP:=G X;clear J2 hI KY X;go_wp2_with (at_builtin;refine DV rfl (.tmp 40) (.tmp 50) rfl f.heap.size _ P rfl (K.ext Kv) _ [s.seq,s.fmt,s.first,s.count+1] rfl HI (by rw[KX];simp;omega) (Nat.le_trans Ha Kv.size) ?_;intro A3 c3 i p Jz;rw[KX]at p⊢;have KA:=Jz f (xT Hi Kv) (xN _))
   go_roundw
   case rel=>
    refine⟨j+1,_,_,by omega,by go_num,rfl,G ?_,KA⟩;rw[Jn.out,<-List.append_assoc,HP.out];exact p
   case measure=>simp[intOf];omega
  ·obtain rfl:j=V m.segs:=by omega
   have U:=K.out;rw[List.take_length,<-M.out]at U;have G0:=G U;have JL:V (cM m)<=2000000:=by rw[M.out,xL,R,lE];omega
   have o:=qq _ _ _ U.is Ky JL;have n:=G o;have JU:=eY (cM m);have JM:V (cM m)<=246:=by rw[M.out,xL,R,lE];omega
   clear U o K HO KO M HS;go_wp2_with fail
   refine n.mono ?_;rintro e i⟨v3,rfl,p,KA⟩;have KF:Bs i v3 (aF (cM m)):=xW p;obtain⟨A3,c3,rfl,_,_⟩:=xO KF;have KN:=G KF;have X3:=G (xT HE KA);obtain⟨L,q⟩:∃L,aF (cM m)=L:=⟨_,rfl⟩;have G6:V L<=2000:=by rw[<-q];omega
   have HL:=G q;rw[q]at KN;have K2:V (aF (cM m))=V L:=by rw[q]
   rw[K2]at *;clear KF p q JU K2 n;go_wp2_with (at_builtin;refine eu (.tmp 57) (.tmp 58) rfl i.heap.size _ [77] (be i [C .u8 77] 5 1 (xN _)) _ L (KN.ext (xA (xR _) _)) (by simp) ?_;intro A4 c4 w4 JO JA;have KV:Ext i w4:=JA i (xA (xR _) _) (xN _))
   refine(qU _ _ _ JO.bs (by simp;omega)).mono ?_;rintro e w5⟨A5,c5,rfl,HK,H4⟩;have h:bj m=I (bh rT ([77]++L)):=by rw[Hr.out,HL.out];rfl
   go_wp2_with fail
   go_ret2;rw[h];exact⟨⟨_,rfl,ay HK (xT X3 KV).size⟩,xT X3 (xT KV H4)⟩
end Go.Proofs.YteggfecbjgbndaaGreatDoor

namespace Go.Mv
open Go.RowKit
theorem mcMan5a0{P:Prop}(h:P:=by
 go_wp2_with fail
 refine HT.mono ?_;rintro e w2⟨vl,vr,rfl,_,_,HH⟩;have Hk:=G (Hu.ext HH);have ea:=eN Hk;obtain⟨g0,g1,g2,g3,g4,g5⟩:=aj Hk;dsimp only at *;go_wp2_with fail
 refine bodyPost_ret (ij _ _ _ _ _ rfl rfl (cQ Hk _ _ _ _ _ _) rfl) rfl ?_;exact iO _ _ _ rfl (dD (xT H5 HH) (xN _) _ _ _ _ _ _)):P:=h
section
variable {P:Program} {ops:Array Oper} {Q:Exit->Act->World->Prop} {md:Region.Mode} {S:World->Prop}
theorem oX{i:Nat}{o:Oper}{v:Value}{a:Act}{w w':World}{K:Act->World->Prop}(hi:ops.toList[i]?=I o)(d:P8 o (yielded ops a.tmps)=true)(h:(execOp a.eval o).run P w=.ok (.value v) w')(c:K (a.put o.dst v) w'):wpOp P ops Q i K a w:=by
 unfold Go.wpOp;simp only[show ops[i]?=I o by simpa using hi,d,if_true,Oper.wp,h,Oper.upon];exact .inl c
theorem qH{i j:Nat}{d f:Oper}{vi vj:Value}{fuel:Nat}{c:Array Bool}{a:Act}{w w':World}(hi:ops.toList[i]?=I d)(q:ops.toList[j]?=I f)(s:P9 md ops c=[i,j])(o:P9 md ops (c.setIfInBounds i true)=[j])(p:P9 md ops (c.setIfInBounds j true)=[i])(wi:P8 d (yielded ops a.tmps)=true)(wj:P8 f (yielded ops a.tmps)=true)(n:P8 f (yielded ops (a.put d.dst vi).tmps)=true)(m:P8 d (yielded ops (a.put f.dst vj).tmps)=true)(D:(c.setIfInBounds j true).setIfInBounds i true=(c.setIfInBounds i true).setIfInBounds j true)(C:(a.put f.dst vj).put d.dst vi=(a.put d.dst vi).put f.dst vj)(E:S w)(g:S w')(h1:(execOp a.eval d).run P w=.ok (.value vi) w)(h2:(execOp (a.put d.dst vi).eval f).run P w=.ok (.value vj) w')(h3:(execOp a.eval f).run P w=.ok (.value vj) w')(h4:(execOp (a.put f.dst vj).eval d).run P w'=.ok (.value vi) w')(h:wpAnyH P md ops Q S fuel ((c.setIfInBounds i true).setIfInBounds j true) ((a.put d.dst vi).put f.dst vj) w'):wpAnyH P md ops Q S (fuel+2) c a w:=by
 refine⟨(λe=>absurd (s.symm.trans e) (by simp)),λk hk=>?_⟩;rw[s]at hk;rcases(by simpa using hk:k=i\/k=j)with rfl | rfl
 ·refine oX hi wi h1 ⟨E,(λe=>absurd (o.symm.trans e) (by simp)),λk hk=>?_⟩;rw[o]at hk;obtain rfl:k=j:=by simpa using hk
  exact oX q n h2 ⟨g,h⟩
 ·refine oX q wj h3 ⟨g,(λe=>absurd (p.symm.trans e) (by simp)),λk hk=>?_⟩;rw[p]at hk;obtain rfl:k=i:=by simpa using hk
  exact oX hi m h4 ⟨g,by rw[D,C];exact h⟩
end
theorem BU{W:World}{base base' i d n n' m b s c:Nat}{e e':TypeId}{xs p:List Value}{q:Value}(KI:e≠e')(h:W.ownsRow base e i (F (I ⟨b,s,H⟩) n c) m xs)(D:W.ownsRow base' e' d q n' p):some b≠q.ownBlock:=by
 rcases h.2 with⟨o,_⟩|⟨g,cap,d,o,_,hg,_⟩
 ·cases o
 ·rcases D.2 with⟨rfl,_⟩|⟨C,d,d,rfl,_,f,_⟩
  ·intro j;cases j
  ·intro j;cases o;have:b=C:=by simpa[Value.ownBlock]using j
   subst this;rw[hg]at f;cases f;exact KI rfl
theorem Aj{W W':World}{base base' c d n n':Nat}{e e':TypeId}{xs f:List Value}{v j:Value}(KI:e≠e')(h:W.ownsRow base e c v n xs)(m:W.ownsRow base' e' d j n' f)(hg:W.grownBy W' j.ownBlock):W'.ownsRow base e c v n xs:=by
 have i:=h;rcases h.2 with⟨rfl,rfl⟩|⟨g,cap,c,rfl,_,_,_⟩
 ·exact⟨h.1,.inl ⟨rfl,rfl⟩⟩
 ·exact i.kept hg (.inr (BU KI i m))
end Go.Mv
namespace Go.Proofs.YteggfecbjgbndaaGreatDoor
open Go.RowKit Go.Mv
variable {l:List Int} {r:List UInt8} {b k:Nat} {t:TypeId} {a u v x y z:Value} {W:World}
theorem yY(l:List Sg4):∀u∈bM l,u.oneCell'=true:=by
 intro u c;obtain⟨s,_,c⟩:=P6.1 c;simp only[Sg4.cells,P1,P0,or_false]at c;rcases c with rfl | rfl | rfl | rfl<;>rfl
theorem yK(W:World)(es:List Sg4)(n:Nat)(hn:n=es.length)(hm:n<=maxLen:=by simp[maxLen]):SlR (W.alloc (N (bM es).toArray 36)) 4 (F (I ⟨W.heap.size,0,H⟩) n n) n (bM es):=by
 subst hn;refine⟨tR es,_,es.length,rfl,xN _,hm,λ_=>⟨W.heap.size,0,rfl,λj u hu=>?_⟩⟩;rw[Pd];exact(Blk.new W 36 (bM es).toArray).cell j (by simpa using hu)
def dW:Nat->List Sg4->List UInt8->Option (List Sg4)
 |0,H1,_=>some H1
 |k+1,H1,r=>if(ao 4 [] r).1=0 then dW k (H1++[⟨(ao 4 [] r).2.1.getD 0 0,(ao 4 [] r).2.1.getD 1 0,(ao 4 [] r).2.1.getD 2 0,(ao 4 [] r).2.1.getD 3 0-1⟩]) (ao 4 [] r).2.2 else none
def iD:Int×List Int×List UInt8->Option Mf
 |(e,l,r)=>if e≠0 then none else if 60<l.getD 5 0 then none else(dW (l.getD 5 0).toNat [] r).map λs=>⟨l.getD 0 0,l.getD 1 0,l.getD 2 0,l.getD 3 0,l.getD 4 0,s⟩
def fe(p:List UInt8):Option Mf:=if V p<1 then none else iD (ao 6 [] (p.drop 1))
def cA(b:List UInt8):Option Mf:=match bN rT b with
 |none=>none
 | some p=>match fe p with
  |none=>none
  |some m=>if bj m=I b then some m else none
def mf0:Mf:=⟨0,0,0,0,0,[]⟩
def OwnS(w:World)(base:Nat)(v:Value)(l:List Sg4):Prop:=w.ownsRow base 36 4 v l.length (bM l)
theorem OwnS.sgs{w:World}{base:Nat}{l:List Sg4}(h:OwnS w base v l):Sgs w v l:=xW h
def sC(w:World)(r:Option Mf)(e:Ending)(w':World):Prop:=
 ∃v,e=.returned (.tuple #[T #[C E (r.getD mf0).next,C E (r.getD mf0).term,C E (r.getD mf0).vote,C E (r.getD mf0).sq,C E (r.getD mf0).sf,v],C E (if r.isSome then 0 else 11)])/\OwnS w' w.heap.size v (r.getD mf0).segs/\Ext w w'
theorem lP:Tryz.prog.underlying 30=I (.struct (Tryz.prog.fieldsOf 30)):=by kernel_rfl
theorem ij(tmps:Array Value)(W:World)(b:Nat)(cs:Array Value)(u:Value)(h4:tmps.getD 2 undef=U (I ⟨b,0,H⟩))(h5:tmps.getD 3 undef=u)(hb:Blk W b 30 cs)(hs:cs.size=6):(results Tryz.f41 tmps).run J W=.ok (.tuple #[.agg cs,u]) W:=by
 have hl:=hb.load (P:=J) lP rfl (by rw[hs];kernel_rfl);have c:tmps[2]?.getD undef=U (I ⟨b,0,H⟩):=by simpa using h4
 have d:tmps[3]?.getD undef=u:=by simpa using h5
 simp[results,results41,c,d,asAddr,hl]
theorem eN{cs:Array Value}(h:Blk W b t cs):W.frozen? ⟨b,0,H⟩=false/\W.frozen? ⟨b,1,H⟩=false/\W.frozen? ⟨b,2,H⟩=false/\W.frozen? ⟨b,3,H⟩=false/\W.frozen? ⟨b,4,H⟩=false/\W.frozen? ⟨b,5,H⟩=false:=
 ⟨h.frozen 0,h.frozen 1,h.frozen 2,h.frozen 3,h.frozen 4,h.frozen 5⟩
theorem cQ(h:Blk W b t #[a,v,u,x,y,z])(c e d f g i:Value):Blk ((((((W.setCell ⟨b,0,H⟩ c).setCell ⟨b,1,H⟩ e).setCell ⟨b,2,H⟩ d).setCell ⟨b,3,H⟩ f).setCell ⟨b,4,H⟩ g).setCell ⟨b,5,H⟩ i) b t #[c,e,d,f,g,i]:=
 (((((h.set 0 c).set 1 e).set 2 d).set 3 f).set 4 g).set 5 i
theorem dD{w:World}(h:Ext w W)(hb:w.heap.size<=b)(c e d f g i:Value):Ext w ((((((W.setCell ⟨b,0,H⟩ c).setCell ⟨b,1,H⟩ e).setCell ⟨b,2,H⟩ d).setCell ⟨b,3,H⟩ f).setCell ⟨b,4,H⟩ g).setCell ⟨b,5,H⟩ i):=
 (((((Below.setCell h hb c).setCell hb e).setCell hb d).setCell hb f).setCell hb g).setCell hb i
theorem NY(m:Blk W b t #[a,v,u,x,y,z]){e:TypeId}(d:t≠e){base c:Nat}{o:Value}{xs:List Value}(n:W.ownsRow base e c o k xs)(f h g i j p:Value):((((((W.setCell ⟨b,0,H⟩ f).setCell ⟨b,1,H⟩ h).setCell ⟨b,2,H⟩ g).setCell ⟨b,3,H⟩ i).setCell ⟨b,4,H⟩ j).setCell ⟨b,5,H⟩ p).ownsRow base e c o k xs:=by
 have o:=n.kept (ar _ b 0 f) (.inr (m.not_row d n).symm);have c:=m.set 0 f;have m:=o.kept (ar _ b 1 h) (.inr (c.not_row d o).symm);have f:=c.set 1 h;have h:=m.kept (ar _ b 2 g) (.inr (f.not_row d m).symm);have c:=f.set 2 g;have g:=h.kept (ar _ b 3 i) (.inr (c.not_row d h).symm);have f:=c.set 3 i;have c:=g.kept (ar _ b 4 j) (.inr (f.not_row d g).symm);have g:=f.set 4 j;exact c.kept (ar _ b 5 p) (.inr (g.not_row d c).symm)
theorem iO(w W:World)(v:Value)(d:v=F none 0 0)(c:Ext w W):sC w none (.returned (.tuple #[T #[C E 0,C E 0,C E 0,C E 0,C E 0,v],C E 11])) W:=by
 subst d;exact⟨_,rfl,Pc _ _ _ _,c⟩
theorem six(h:V l=6):∃a b c d e f,l=[a,b,c,d,e,f]:=by
 match l,h with
 |[a,b,c,d,e,f],_=>exact⟨a,b,c,d,e,f,rfl⟩
theorem four(h:V l=4):∃a b c d,l=[a,b,c,d]:=by
 match l,h with
 |[a,b,c,d],_=>exact⟨a,b,c,d,rfl⟩
theorem mP{bs:List UInt8}(h:ao k [] bs=(0,l,r)):V l=k/\(∀x∈l,0<=x/\x<=1073741824)/\V r<=V bs:=by
 obtain⟨c,rfl,h1,h2,rfl⟩:=mQ _ _ _ _ _ h;refine⟨h1,λx hx=>?_,by simp⟩;unfold aG at h2;rw[P7]at h2;exact numB_true.1 (h2 x (by simpa using hx))
theorem zW{e:Int}(h:e≠0):iD (e,l,r)=none:=if_pos h
theorem Bi(h:60<l.getD 5 0):iD (0,l,r)=none:=by unfold iD;simp only[ne_eq,not_true_eq_false,if_false];rw[if_pos h]
theorem Bj(h:¬60<l.getD 5 0):iD (0,l,r)=(dW (l.getD 5 0).toNat [] r).map λs=>⟨l.getD 0 0,l.getD 1 0,l.getD 2 0,l.getD 3 0,l.getD 4 0,s⟩:=by unfold iD;simp only[ne_eq,not_true_eq_false,if_false];rw[if_neg h]
theorem zk{c:List Sg4}(h:(ao 4 [] r).1≠0):dW (k+1) c r=none:=by rw[dW,if_neg h]
theorem Ac{e:List Sg4}{f:List UInt8}{a b c d:Int}(h:ao 4 [] r=(0,[a,b,c,d],f)):dW (k+1) e r=dW k (e++[⟨a,b,c,d-1⟩]) f:=by rw[dW,h];rfl
theorem yI:(Tryz.prog.info? 36).map (λi=>(i.zero,i.size,i.bytes))=I (some (T #[C E 0,C E 0,C E 0,C E 0]),4,32):=by kernel_rfl
theorem Ic(v:Value)(bs:List UInt8)(w:World)(hB:Bs w v bs)(hl:V bs<=2000000):Calls J 41 #[v] w (sC w (cA bs)):=by
 obtain⟨A,c,rfl,h1,h2⟩:=xO hB;have Hh:=Blk.new w 30 #[C E 0,C E 0,C E 0,C E 0,C E 0,F none 0 0];have hX:Ext w (w.alloc (N #[C E 0,C E 0,C E 0,C E 0,C E 0,F none 0 0] 30)):=xA (xR _) _;have KH:=yi _ bs _ (hB.ext hX) hl;obtain⟨R,hR⟩:∃R,cA bs=R:=⟨_,rfl⟩;have Km:=hR;unfold cA at Km;rw[hR];have Y:∀p,bN rT bs=I p->V p<=2000000:=λp h=>by
  have:=pY h;omega
 obtain⟨r,hr⟩:∃r,bN rT bs=r:=⟨_,rfl⟩;rw[hr]at KH Km Y;have KT:=G KH;have HR:=G Km;have HB:=G hB;go_enter func41,ntmps41
 go_wp2_with fail
 refine KT.mono ?_;rintro e w1⟨⟨v1,rfl,K5⟩,H8⟩;have Hs:=Hh.ext H8;have E1:=xT hX H8;have H5:=G E1;have Hu:=G Hs;cases r with
 |none=>
  obtain rfl:none=R:=HR.out;have ea:=eN Hs;obtain⟨g0,g1,g2,g3,g4,g5⟩:=aj Hs;dsimp only[Pa];go_wp2_with fail
  refine bodyPost_ret (ij _ _ _ _ _ rfl rfl (cQ Hu _ _ _ _ _ _) rfl) rfl ?_;exact iO _ _ _ rfl (dD H5 (xN _) _ _ _ _ _ _)
 |some p=>
  have hp:=Y p rfl;dsimp only[Pa,Pb]at K5 HR⊢;obtain⟨A1,c1,rfl,h3,h4⟩:=xO K5.bs;by_cases hp1:V p<1
  ·have HW:fe p=none:=by unfold fe;rw[if_pos hp1]
   obtain rfl:none=R:=by rw[<-HR.out,HW]
   have ea:=eN Hs;obtain⟨g0,g1,g2,g3,g4,g5⟩:=aj Hs;have JP:(V p:Int)<1:=by omega
   go_wp2_with fail
   refine bodyPost_ret (ij _ _ _ _ _ rfl rfl (cQ Hu _ _ _ _ _ _) rfl) rfl ?_;exact iO _ _ _ rfl (dD H5 (xN _) _ _ _ _ _ _)
  obtain⟨_,b1,HN,rfl,_⟩:=Bs.at_ K5.bs (by omega);have JP:¬(V p:Int)<1:=by omega
  have HJ:=Bs.cut K5.bs 1 (by omega) rfl;have J3:V (p.drop 1)=V p-1:=by simp
  obtain⟨Q,hQ⟩:∃Q,p.drop 1=Q:=⟨_,rfl⟩;have HW:fe p=iD (ao 6 [] Q):=by unfold fe;rw[if_neg hp1,hQ]
  rw[hQ]at HJ J3;obtain⟨⟨er,ls,rs⟩,hq⟩:∃q,ao 6 [] Q=q:=⟨_,rfl⟩;rw[hq]at HW;have Hg:Hid ((match iD (er,ls,rs)with | none=>none | some m=>if bj m=I bs then some m else none)=R):=G (by rw[<-HW];exact HR.out);have Hq:=G hq;have K0:=G HJ;have H9:er≠0->none=R:=λh=>by rw[<-Hg.out,zW h]
  have H2:=G H9;by_cases Ko:c1=1
  ·have JB:Q=[]:=List.eq_nil_of_length_eq_zero (by omega);subst JB;have Kp:er≠0:=by
    intro h;subst h;obtain⟨l',_,k2,_,k3⟩:=mQ _ _ _ _ _ hq;have k4:=congrArg List.length k3;have k5:=ra l';simp at k4;omega
   have hT:Calls J 91 #[F (I ⟨b1,HN,H⟩) 0 0,C E 6] w1 (ir w1 (er,ls,rs)):=by
    have:=mA _ [] 6 w1 (SlR.empty (A:=I ⟨b1,HN,H⟩) (c:=0) _ 1 (by simp)) (by simp);rw[hq]at this;exact this
   have HT:=G hT;have JQ:V p=1:=by simp at J3;omega
   obtain rfl:=H2 Kp;subst Ko;rw[JQ]at *;exact mcMan5a0
  have hT:Calls J 91 #[F (I ⟨b1,HN+1,H⟩) (V p-1) (c1-1),C E 6] w1 (ir w1 (er,ls,rs)):=by
   have:=mA _ Q 6 _ K0 (by omega);rw[hq]at this;exact this
  have HT:=G hT;by_cases Kp:er=0
  case neg=>
   obtain rfl:=H2 Kp;exact mcMan5a0
  subst Kp;obtain⟨J5,K4,Ge⟩:=mP Hq;obtain⟨n,o,D,L,M,f,rfl⟩:=six J5;simp only[P1,P0,or_false,forall_eq_or_imp,forall_eq]at K4;have eb:=K4;go_wp2_with fail
  refine HT.mono ?_;rintro e w2⟨vl,vr,rfl,K6,J8,HH⟩;have Hk:=G (Hu.ext HH);have Kt:=G (xT H5 HH);dsimp only at K6 J8⊢;obtain⟨Al,cl,rfl,_,_⟩:=xO (xW K6);obtain⟨_,bl,Kd,rfl,Y⟩:=Is.at_ (l:=[n,o,D,L,M,f]) (xW K6) (by simp);have c0:=Y 0 (by simp);have c1:=Y 1 (by simp);have c2:=Y 2 (by simp);have c3:=Y 3 (by simp);have c4:=Y 4 (by simp);have c5:=Y 5 (by simp);simp only[P4,P5,Pf]at c0 c1 c2 c3 c4 c5;simp only[xC,P2,Pd,Pe]at *;by_cases h60:60<f
  ·have hR:none=R:=by rw[<-Hg.out,Bi (by simpa using h60)]
   subst hR;have ea:=eN Hk;obtain⟨g0,g1,g2,g3,g4,g5⟩:=aj Hk;go_wp2_with fail
   refine bodyPost_ret (ij _ _ _ _ _ rfl rfl (cQ Hk _ _ _ _ _ _) rfl) rfl ?_;exact iO _ _ _ rfl (dD (xT H5 HH) (xN _) _ _ _ _ _ _)
  have Kf:Hid ((match (dW f.toNat [] rs).map (λs=>(⟨n,o,D,L,M,s⟩:Mf))with | none=>none | some m=>if bj m=I bs then some m else none)=R):=G (by rw[<-Hg.out,Bj (by simpa using h60)];rfl);go_wp2_with fail;have Y:=G K6;refine wp_region_held_drew (S:=λW=>W.cell? ⟨bl,Kd,H⟩=I (C E n)/\W.cell? ⟨bl,Kd+1,H⟩=I (C E o)/\W.cell? ⟨bl,Kd+2,H⟩=I (C E D)/\W.cell? ⟨bl,Kd+3,H⟩=I (C E L)/\W.cell? ⟨bl,Kd+4,H⟩=I (C E M)) (by kernel_rfl) ⟨c0,c1,c2,c3,c4⟩ (λhHeld=>?_);refine ab 0 ?_;refine ab 1 ?_;refine ab 2 ?_;refine ab 3 ?_;refine ab 4 ?_;refine ab 5 ?_;refine ab 6 ?_;refine ab 7 ?_;refine ab 8 ?_;refine ab 9 ?_;refine ab 10 ?_;refine ab 11 ?_;refine ab 12 ?_;refine ab 13 ?_;refine ab 14 ?_;refine ab 15 ?_;refine ab 16 ?_;refine ah 17 (λK hK=>?_);go_simp;have Y:Ext w2 (w2.drew.alloc (N #[C E 0,C E 0,C E 0,C E 0,C E 0,F none 0 0] 30)):=xA (xD (xR _)) _;refine af hK _ _ ⟨Y.cell c0,Y.cell c1,Y.cell c2,Y.cell c3,Y.cell c4⟩ (λhHeld=>?_);refine ah 18 (λK hK=>?_);go_simp;have Y:Ext w2 (w2.alloc (N #[C E n,C E o,C E D,C E L,C E M,F none 0 0] 30)).drew:=xD (xA (xR _) _);have J0:Blk (w2.alloc (N #[C E n,C E o,C E D,C E L,C E M,F none 0 0] 30)).drew w2.heap.size 30 #[C E n,C E o,C E D,C E L,C E M,F none 0 0]:=(Blk.new w2 _ _).ext (xD (xR _));refine af hK _ _ ⟨Y.cell c0,Y.cell c1,Y.cell c2,Y.cell c3,Y.cell c4⟩ (λhHeld=>?_);refine aq ?_;generalize JC:(w2.alloc (N #[C E n,C E o,C E D,C E L,C E M,F none 0 0] 30)).drew=w4 at *;have KQ:=G Y;have Jj:=G J0;have Y:f.toNat<=60:=by omega
  have Y:V rs<=2000000:=by omega
  go_wp2_with fail
  go_loopw [7,10] (λY x W=>∃(j:Nat) (d:List Sg4) (rest:List UInt8) (u:Value) (vt':Value),j<=f.toNat/\x=C E j/\Y=vt'/\Hid (V d=j)/\V rest<=V rs/\Hid (Bs W vt' rest)/\Hid (dW f.toNat [] rs=dW (f.toNat-j) d rest) /\
   Hid (Blk W w2.heap.size 30 #[C E n,C E o,C E D,C E L,C E M,u])/\Hid (W.ownsRow w2.heap.size 36 4 u d.length (bM d))/\Ext w2 W) (λ_ x _=>f.toNat-(intOf x).toNat)
  case atStart=>
   exact⟨0,[],rs,_,_,by omega,rfl,rfl,rfl,xN _,G ((xW J8:Bs w2 vr rs).ext KQ),G rfl,Jj,G (Pc _ _ _ _),KQ.out⟩
  case round=>
   obtain⟨j,d,rest,u,Y,hj,rfl,rfl,HL,Y,Je,HG,Kg,HO,Y⟩:=hrel;have HE:=G (xT Kt Y);have Hi:=G Y;have JZ:=Y.cell c5;have Y:V d<=60:=by have:=HL.out;omega
   by_cases Y:j<f.toNat
   ·obtain⟨k,hk⟩:∃k,f.toNat-j=k+1:=⟨f.toNat-j-1,by omega⟩;have hG:=HG.out;rw[hk]at hG;have Y:=mA u7 rest 4 wr Je (by omega);obtain⟨⟨e4,l4,r4⟩,HV⟩:∃q,ao 4 [] rest=q:=⟨_,rfl⟩;rw[HV]at Y;have Ku:Hid (Calls J 91 #[u7,C E 4] wr (ir wr (e4,l4,r4))):=G Y;have Gb:(j:Int)<f:=by omega
    have Y:=G hj;by_cases he4:e4=0
    case neg=>
     have hR:none=R:=by rw[<-Kf.out,hG,zk (by rw[HV];exact he4)];rfl
     subst hR;go_wp2_with fail
     refine Ku.mono ?_;rintro e X⟨JW,JX,rfl,_,_,H4⟩;have Y:=G (Hk.ext (xT Hi H4));have ea:=eN Y;obtain⟨g0,g1,g2,g3,g4,g5⟩:=aj Y;dsimp only at *;go_wp2_with fail
     refine bodyPost_ret (ij _ _ _ _ _ rfl rfl (cQ Y _ _ _ _ _ _) rfl) rfl ?_;exact iO _ _ _ rfl (dD (xT HE H4) (xN _) _ _ _ _ _ _)
    subst he4;obtain⟨J4,Hz,Y⟩:=mP HV;obtain⟨O,T,U,g,rfl⟩:=four J4;simp only[P1,P0,or_false,forall_eq_or_imp,forall_eq]at Hz;have Y:=Hz;rw[Ac HV]at hG;have HG:=G hG;have Gf:IntKind.i64.wrap (g-1)=g-1:=by rw[IntKind.wrap_i64];omega
    go_wp2_with fail
    refine Ku.mono ?_;rintro e X⟨JW,JX,rfl,HK,Ka,H4⟩;dsimp only at HK Ka⊢;obtain⟨Y,G4,rfl,_,_⟩:=xO (xW HK);obtain⟨_,Ki,Kr,rfl,Y⟩:=Is.at_ (l:=[O,T,U,g]) (xW HK) (by simp);have d0:=Y 0 (by simp);have d1:=Y 1 (by simp);have d2:=Y 2 (by simp);have d3:=Y 3 (by simp);simp only[P4,P5,Pf]at d0 d1 d2 d3;simp only[xC,P2,Pd,Pe]at *;obtain⟨Au,cu,rfl,_,_⟩:=xO (xW HO);have HD:=G (Kg.ext H4);obtain⟨_,_,_,_,_,g5⟩:=aj HD;have HU:=G (ai HO H4);have KU:=G HK;have HQ:=G H4;go_wp2_with fail
    refine wp_region_held_drew (S:=λW=>W.cell? ⟨Ki,Kr,H⟩=I (C E O)/\W.cell? ⟨Ki,Kr+1,H⟩=I (C E T)/\W.cell? ⟨Ki,Kr+2,H⟩=I (C E U)/\W.cell? ⟨Ki,Kr+3,H⟩=I (C E g)) (by kernel_rfl) ⟨d0,d1,d2,d3⟩ (λhHeld=>?_);refine ab 0 ?_;refine ab 2 ?_;refine ab 3 ?_;refine ab 4 ?_;refine ab 5 ?_;refine ab 6 ?_;refine ab 7 ?_;refine ab 8 ?_;refine ab 9 ?_;refine ab 10 ?_;refine ab 11 ?_;refine ab 12 ?_;refine ab 13 ?_;refine ab 14 ?_;refine ab 15 ?_;have Y:Ext X (X.alloc (N #[C E O,C E T,C E U,C E (g-1)] 36)).drew:=xD (xA (xR _) _);have Js:X.drew.cell? ⟨w2.heap.size,5,H⟩=I (F Au d.length cu):=g5;have Jt:=Y.cell g5;refine qH (i:=1) (j:=16) (vi:=F Au d.length cu) (vj:=F (I ⟨X.heap.size,0,H⟩) 1 1) (w':=(X.alloc (N #[C E O,C E T,C E U,C E (g-1)] 36)).drew) rfl rfl (by kernel_rfl) (by kernel_rfl) (by kernel_rfl) (by rfl) (by rfl) (by rfl) (by rfl) (by rfl) (by rfl) hHeld ⟨Y.cell d0,Y.cell d1,Y.cell d2,Y.cell d3⟩ ?h1 ?h2 ?h3 ?h4 ?h5
    case h1=>go_simp
    case h2=>go_simp
    case h3=>go_simp
    case h4=>go_simp
    case' h5=>skip
    try simp only[Act.put,sA,sZ,sS]
    have J9:SlR (X.alloc (N #[C E O,C E T,C E U,C E (g-1)] 36)).drew 4 (F (I ⟨X.heap.size,0,H⟩) 1 1) 1 (bM [⟨O,T,U,g-1⟩]):=SlR.ext (yK X [⟨O,T,U,g-1⟩] 1 rfl) (xD (xR _));have H3:=G Y;have Jm:=G J9;have Hc:w2.heap.size<=(X.alloc (N #[C E O,C E T,C E U,C E (g-1)] 36)).drew.heap.size:=(xT Hi (xT HQ Y)).size;obtain⟨i0,hi,X,Y,KM⟩:=info_parts yI;refine ah 17 (λK hK=>?_);refine fJ _ (.tmp 78) (.tmp 93) 28 (by rfl) w2.heap.size 36 i0 _ 4 32 underlying28 hi X Y KM rfl (F Au d.length cu) d.length (bM d) (ai HU H3) _ 1 (bM [⟨O,T,U,g-1⟩]) Jm (yY _) Hc ?_;intro X w7 Kq X;have Y:=BU (by decide) (ai KU H3) (ai HU H3);have H6:=(HD.ext H3).kept X ((HD.ext H3).not_row (by decide) (ai HU H3));have E7:Ext w2 w7:=Ext.grownOwn (xT Hi (xT HQ H3)) (ai HU H3) X;refine af hK _ _ ⟨cg X (H3.cell d0) Y,cg X (H3.cell d1) Y,cg X (H3.cell d2) Y,cg X (H3.cell d3) Y⟩ (λhHeld=>?_);have Y:=H6.frozen 5;have Y:w7.cell? ⟨w2.heap.size,5,H⟩=I (F Au d.length cu):=H6.cell 5 rfl;have HM:=Aj (by decide) (ai Ka H3) (ai HU H3) X;have Y:=Aj (by decide) (ai KU H3) (ai HU H3) X;have K3:=H6.not_row (by decide) Y;have k0:=hHeld.1;have k1:=hHeld.2.1;have k2:=hHeld.2.2.1;have k3:=hHeld.2.2.2;obtain⟨A7,c7,rfl,_,_⟩:=xO (xW Kq);refine ab 18 ?_;refine ah 19 (λK hK=>?_);go_simp;have X:Ext w2 (w7.setCell ⟨w2.heap.size,5,H⟩ (F A7 (V d+1) c7)):=Below.setCell (p:=⟨w2.heap.size,5,H⟩) E7 (xN _) _;have Y:=H6.set 5 (F A7 (V d+1) c7);have K9:=Kq.kept (ar _ w2.heap.size 5 (F A7 (V d+1) c7)) (.inr (H6.not_row (by decide) Kq).symm);have Kb:=HM.kept (ar _ w2.heap.size 5 (F A7 (V d+1) c7)) (.inr (H6.not_row (by decide) HM).symm);refine af hK _ _ ⟨cg (ar _ w2.heap.size 5 (F A7 (V d+1) c7)) k0 K3.symm,cg (ar _ w2.heap.size 5 (F A7 (V d+1) c7)) k1 K3.symm,cg (ar _ w2.heap.size 5 (F A7 (V d+1) c7)) k2 K3.symm,cg (ar _ w2.heap.size 5 (F A7 (V d+1) c7)) k3 K3.symm⟩ (λhHeld=>?_);refine aq ?_;have Jf:=G X;have Hv:=G Y;have X:=G K9;have Y:=G Kb;go_wp2_with fail
    go_roundw
    case rel=>
     refine⟨j+1,d++[⟨O,T,U,g-1⟩],r4,_,_,by omega,by go_num,rfl,G (by simp[HL.out]),by omega,G (xW Y),?_,Hv,?_,Jf.out⟩
     ·rw[show f.toNat-(j+1)=k by omega];exact HG
     rw[show bM (d++[⟨O,T,U,g-1⟩])=bM d++bM [⟨O,T,U,g-1⟩] by simp[bM],xL];exact X
    case measure=>simp[intOf];omega
   ·obtain rfl:j=f.toNat:=by omega
    have hG:=HG.out;rw[Nat.sub_self,dW]at hG;have KP:Hid ((if bj ⟨n,o,D,L,M,d⟩=I bs then some ⟨n,o,D,L,M,d⟩else none)=R):=G (by rw[<-Kf.out,hG];rfl);have Kn:Sgs wr u d:=xW HO;obtain⟨Au,cu,rfl,_,_⟩:=Kn.open_;have g:=AM ⟨n,o,D,L,M,d⟩ (F Au d.length cu) wr Kn;have O:=aj Kg;have Jy:=HB.ext HE;have G1:=G Kn;obtain⟨pr,O⟩:∃pr,bj ⟨n,o,D,L,M,d⟩=pr:=⟨_,rfl⟩;rw[O]at g;have HZ:Hid ((if pr=I bs then some ⟨n,o,D,L,M,d⟩else none)=R):=G (by rw[<-O];exact KP.out);have d:=G g;have g:((f.toNat:Nat):Int)=f:=by omega
    have g:¬(((f.toNat:Nat):Int)<f):=by omega
    go_wp2_with fail
    refine d.mono ?_;rintro e w8⟨⟨d,rfl,K9⟩,Hw⟩;have Hv:=G (Hk.ext (xT Hi Hw));have Kx:=G (Kg.ext Hw);have ea:=eN Hv;obtain⟨g0,g1,g2,g3,g4,g5⟩:=aj Hv;have d:=aj Kx;have Ji:=G (ai HO Hw);have d:=G (xT HE Hw);cases pr with
    |none=>
     obtain rfl:none=R:=HZ.out;dsimp only[Pa];go_wp2_with fail
     refine bodyPost_ret (ij _ _ _ _ _ rfl rfl (cQ Hv _ _ _ _ _ _) rfl) rfl ?_;exact iO _ _ _ rfl (dD (xT HE Hw) (xN _) _ _ _ _ _ _)
    |some q=>
     dsimp only[Pa,Pb]at K9⊢;have d:=eh (P:=J) w8 33 9 5 underlying33 underlying5 underlying9 K9.bs;have d:=eh (P:=J) w8 33 9 5 underlying33 underlying5 underlying9 (Jy.ext Hw);by_cases Z:q=bs
     ·obtain rfl:some _=R:=by rw[<-HZ.out,if_pos (by rw[Z])]
      subst Z;go_wp2_with fail
      refine bodyPost_ret (ij _ _ _ _ _ rfl rfl (cQ Hv _ _ _ _ _ _) rfl) rfl ?_;exact⟨_,rfl,ay (NY Hv (by decide) Ji _ _ _ _ _ _) (by first | exact xN _ | exact Kt.size | (have:=Kt.size;omega)),dD (xT HE Hw) (xN _) _ _ _ _ _ _⟩
     ·obtain rfl:none=R:=by rw[<-HZ.out,if_neg (by simpa using Z)]
      have d:(q==bs)=false:=by simpa using Z
      go_wp2_with fail
      refine bodyPost_ret (ij _ _ _ _ _ rfl rfl (cQ Hv _ _ _ _ _ _) rfl) rfl ?_;exact iO _ _ _ rfl (dD (xT HE Hw) (xN _) _ _ _ _ _ _)
def ix(fs:List Fil):Bool:=decide (40<V fs)||(fs.take 41).any (λf=>decide (900<V f.2\/60<V f.1))
theorem IB(v:Value)(fs:List Fil)(w:World)(o:Fs w v fs)(hl:V fs<=4000000):Calls J 6 #[v] w λe w'=>e=.returned (O (ix fs))/\Ext w w':=by
 obtain⟨A,c,rfl,h1,h2⟩:=Fs.open_ o;obtain⟨R,d⟩:∃R,ix fs=R:=⟨_,rfl⟩;rw[d];have g:=G d;have F:=G o;clear d o;go_enter func6,ntmps6
 go_wp2_with fail
 go_loopw [3] (λi wr=>∃j:Nat,j<=V fs/\j<=41/\i=C E j/\Hid (∀q (_:q<j) (h2:q<V fs),V fs[q].2<=900/\V fs[q].1<=60)/\w=wr) (λi _=>V fs-(intOf i).toNat)
 case atStart=>exact⟨0,by omega,by omega,rfl,G λq n=>by omega,rfl⟩
 case round=>
  obtain⟨j,o,o,rfl,m,rfl⟩:=hrel;by_cases p:j<V fs
  ·by_cases h40:j<=40
   ·obtain⟨_,b,o,rfl,hc⟩:=F.at_ (by omega);obtain⟨I,o,o,o,K⟩:=hc j p;have H:(j:Int)<(V fs:Int):=by omega
    have D:(900<V fs[j].2\/60<V fs[j].1)->R=true:=λh=>by
     rw[<-g.out];unfold ix;rw[Pg];right
     rw[List.any_eq_true];exact⟨fs[j],P3.2 ⟨j,by omega,rfl⟩,by simpa using h⟩
    have n:V fs[j].2<=900/\V fs[j].1<=60->∀q (_:q<j+1) (h2:q<V fs),V fs[q].2<=900/\V fs[q].1<=60:=λh q h3 h2=>by
     by_cases e:q=j
     ·subst e;exact h
     exact m q (by omega) h2
    have s:=G D;have Hq:=G n;clear hc D n g m;generalize(V fs[j].2)=n2 at *;generalize hx:fs[j].1=x at *;simp only[sv]at I;clear K;by_cases o:900<n2
    ·have:=s (.inl o);subst this;have o:(900:Int)<(n2:Int):=by omega
     go_wp2_with fail;go_ret;exact⟨rfl,xR _⟩
    have o:¬(900:Int)<(n2:Int):=by omega
    by_cases o:60<V x
    ·have:=s (.inr o);subst this;have o:(60:Int)<(V x:Int):=by omega
     go_wp2_with fail;go_ret;exact⟨rfl,xR _⟩
    have o:¬(60:Int)<(V x:Int):=by omega
    have o:=G (Hq ⟨by omega,by omega⟩);go_wp2_with fail
    go_roundw
    case rel=>exact⟨j+1,by omega,by omega,by go_num,o,trivial⟩
    case measure=>simp[intOf];omega
   have d:R=true:=by rw[<-g.out];unfold ix;rw[decide_eq_true (by omega)];rfl
   subst d;have H:(j:Int)<(V fs:Int):=by omega
   have o:¬((j:Int)<=40):=by omega
   have o:(40:Int)<(V fs:Int):=by omega
   go_wp2_with fail;go_ret;exact⟨ret_bool (by simp),xR _⟩
  ·obtain rfl:j=V fs:=by omega
   have d:R=decide ((40:Int)<(V fs:Int)):=by
    rw[<-g.out];unfold ix;have:((fs.take 41).any (λf=>decide (900<V f.2\/60<V f.1)))=false:=by
     rw[List.any_eq_false];intro f hf;obtain⟨q,n,rfl⟩:=P3.1 hf;have:=m q (by omega) (by omega);simp;omega
    rw[this,Bool.or_false,Ph];simp;omega
   subst d;clear g m;go_wp2_with fail;go_ret;exact⟨rfl,xR _⟩
structure Tup where
 s:Sta
 log:List Ent
 term:Int
 vote:Int
def dF(t:Tup):Bool:=t.s.ok&&decide (t.s.idx<=1073740824)&&decide (V t.log<=200)&&decide (0<=t.vote)&&decide (t.vote<=5)
def goT:Int->List Ent->Option Int
 |c,[]=>some c
 |c,e::l=>if okB e.t e.k e.v&&decide (c<=e.t)then goT e.t l else none
def cT(t:Tup):Bool:=dF t&&(match goT t.s.term t.log with | none=>false | some x=>decide (x<=t.term)&&decide (0<=t.term)&&decide (t.term<=1073741824))
theorem aU{p q:Value}(h:Blk W b t #[a,v,u,x,y,z,p,q]):W.cell? ⟨b,0,H⟩=I a/\W.cell? ⟨b,1,H⟩=I v/\W.cell? ⟨b,2,H⟩=I u/\W.cell? ⟨b,3,H⟩=I x/\W.cell? ⟨b,4,H⟩=I y/\W.cell? ⟨b,5,H⟩=I z/\W.cell? ⟨b,6,H⟩=I p/\W.cell? ⟨b,7,H⟩=I q:=
 ⟨h.cell 0 rfl,h.cell 1 rfl,h.cell 2 rfl,h.cell 3 rfl,h.cell 4 rfl,h.cell 5 rfl,h.cell 6 rfl,h.cell 7 rfl⟩
theorem F7(t:Tup)(v:Value)(w:World)(I:Es w v t.log):Calls J 44 #[T #[C E t.s.idx,C E t.s.term,C E t.s.sum,C E t.s.lvl,O t.s.fin,v,C E t.term,C E t.vote]] w λe w'=>e=.returned (O (cT t))/\Ext w w':=by
 obtain⟨A,c,rfl,H,H⟩:=xO I;obtain⟨s,l,d,i⟩:=t;dsimp only at *;obtain⟨R,f⟩:∃R,cT ⟨s,l,d,i⟩=R:=⟨_,rfl⟩;rw[f];have H:=Blk.new w 44 #[C E s.idx,C E s.term,C E s.sum,C E s.lvl,O s.fin,F A l.length c,C E d,C E i];have X:Ext w (w.alloc (N #[C E s.idx,C E s.term,C E s.sum,C E s.lvl,O s.fin,F A l.length c,C E d,C E i] 44)):=xA (xR _) _;have ea:=aU H;have HX:=G X;have Hb:=G H;have HE:=G I;have K:dF ⟨s,l,d,i⟩=false->false=R:=λh=>by rw[<-f];unfold cT;rw[h];rfl
 have n:=G K;have L:=G f;clear X H I K f;go_enter func44,ntmps44
 go_wp2_with fail
 refine(qJ s _).mono ?_;rintro e w1⟨rfl,H⟩;have o:=G (xT HX H);have M:=G (Hb.ext H);have eb:=aU M;clear H ea;cases h1:s.ok with
 |false=>
  obtain rfl:=n (by unfold dF;simp[h1]);go_wp2_with fail;go_ret;exact⟨rfl,o.out⟩
 |true=>
 by_cases h2:s.idx<=1073740824
 case neg=>
  obtain rfl:=n (by unfold dF;simp[h2]);go_wp2_with fail;go_ret;exact⟨rfl,o.out⟩
 by_cases h3:(V l:Int)<=200
 case neg=>
  obtain rfl:=n (by unfold dF;simp;omega);go_wp2_with fail;go_ret;exact⟨rfl,o.out⟩
 by_cases h4:0<=i
 case neg=>
  obtain rfl:=n (by unfold dF;simp[h4]);go_wp2_with fail;go_ret;exact⟨rfl,o.out⟩
 by_cases h5:i<=5
 case neg=>
  obtain rfl:=n (by unfold dF;simp[h5]);go_wp2_with fail;go_ret;exact⟨rfl,o.out⟩
 have H:dF ⟨s,l,d,i⟩=true:=by unfold dF;simp[h1,h2,h4,h5];omega
 have q:Hid ((match goT s.term l with | none=>false | some x=>decide (x<=d)&&decide (0<=d)&&decide (d<=1073741824))=R):=G (by rw[<-L.out];unfold cT;rw[H];simp);clear H n L;go_wp2_with fail
 go_loopw [3,4] (λi x W=>∃(j:Nat) (m:Int),j<=V l/\x=C E j/\i=C E m/\Hid (goT s.term l=goT m (l.drop j))/\Ext w1 W) (λ_ x _=>V l-(intOf x).toNat)
 case atStart=>exact⟨0,s.term,by omega,rfl,rfl,G rfl,xR _⟩
 case round=>
  obtain⟨j,m,i,rfl,rfl,g,i⟩:=hrel;have Hi:=G i;have D:=G (xT o i);obtain⟨_,_,_,_,_,U,g6,_⟩:=aU (M.ext i);clear i eb;by_cases p:j<V l
  ·obtain⟨_,b,i,rfl,hc⟩:=Es.at_ (HE.ext D) (by omega);obtain⟨Z,k1,k2⟩:=hc j p;have i:=g.out;rw[List.drop_eq_getElem_cons p,goT]at i;have n:(j:Int)<(V l:Int):=by omega
   clear hc g;generalize l[j]=e at *;have g:=G i;clear i;go_wp2_with fail
   refine(pT _ _ _ _).mono ?_;rintro i w5⟨rfl,H4⟩;have H4:Ext wr w5:=H4;have HQ:=G H4;have i:=H4.cell U;have i:=H4.cell Z;clear U Z k1 k2 g6 H4;cases Y:okB e.t e.k e.v with
   |false=>
    have f:R=false:=by rw[<-q.out,g.out,Y];rfl
    subst f;go_wp2_with fail;go_ret;exact⟨rfl,xT D HQ⟩
   |true=>
    by_cases i:m<=e.t
    ·have n:=g.out;rw[if_pos (by simp[Y,i])]at n;have o:=G n;have JN:¬(e.t<m):=by omega
     clear n g;go_wp2_with fail
     go_roundw
     case rel=>exact⟨j+1,e.t,by omega,by go_num,rfl,o,xT Hi HQ⟩
     case measure=>simp[intOf];omega
    have f:R=false:=by rw[<-q.out,g.out,if_neg (by simp[i])]
    subst f;have JN:e.t<m:=by omega
    go_wp2_with fail;go_ret;exact⟨rfl,xT D HQ⟩
  ·obtain rfl:j=V l:=by omega
   have f:R=(decide (m<=d)&&decide (0<=d)&&decide (d<=1073741824)):=by
    rw[<-q.out,g.out,List.drop_length];rfl
   subst f;clear q g;go_wp2_with fail
   all_goals go_ret
   all_goals (refine⟨ret_bool ?_,D.out⟩;rw[Ph];simp;try omega)
end Go.Proofs.YteggfecbjgbndaaGreatDoor

namespace Go.Mv
open Go.RowKit
variable {A B:World}
theorem Moves.blk{M:Nat->Obj->Prop}(h:Moves M A B){b:Nat}{t:TypeId}{cs:Array Value}(hb:Blk A b t cs)(c:¬M b (N cs t (0,0))):Blk B b t cs:=h.same b _ hb c
theorem Moves.blkF{n:Nat}(h:Moves (am (λ_ _=>False) n) A B){b:Nat}{t:TypeId}{cs:Array Value}(hb:Blk A b t cs):Blk B b t cs:=h.blk hb (by rintro(h | ⟨_,h⟩);exact h;cases h)
theorem Moves.belowF{n:Nat}{w:World}(h:Moves (am (λ_ _=>False) n) A B)(he:Ext w A)(hn:w.heap.size<=n):Ext w B:=h.belowOf he (by rintro k o hk(h | h);exact h;omega) (xN _)
end Go.Mv
namespace Go.Proofs.YteggfecbjgbndaaGreatDoor
open Go.RowKit Go.Mv Go.Shelf
attribute [local go_sem] Oper.semAt_some
theorem pM{W:World}{b:Nat}{t:TypeId}{cs:Array Value}(h:Blk W b t cs){D:Nat}{o:Obj}(hD:W.heap[D]?=I o)(hc:o.isCells=false)(c:Obj):Blk (W.putObj D c) b t cs:=by
 refine(World.putObj_heap_other (λe=>?_)).trans h;subst e;rw[show W.heap[b]?=_ from h]at hD;cases hD;cases hc
