/- Merged -/
import Derived.Test.YteggfecbjgbndaaGreatDoorZx6
set_option linter.all false
set_option maxHeartbeats 8000000
set_option maxRecDepth 100000
open Go.Proofs.Tryz
open List renaming length->L
open Go.Value renaming slice->B,int->C,pointer->K
open Option renaming some->E,none->F
open Go.Proofs.Tryz renaming prog->G
open Go.IntKind renaming i64->H
open Go.Mv renaming aN->I
open UInt8 renaming ofNat->P0,toNat_ofNat'->P1,ofNat_toNat->P2
open List renaming take_succ_eq_append_getElem->P3,append_assoc->P4,cons_append->P5,eq_nil_of_length_eq_zero->P6,take_of_length_le->P7,take_append_drop->P8,append_toArray->P9,size_toArray->Pa,push_toArray->Pb,foldl_append->Pc,mem_append->Pd,length_nil->Pe
open Prod.mk renaming injEq->Pf
open Option.some renaming injEq->Pg
open Go.Mv.Ext renaming grown->Ph
open Go.World renaming ownsRow_nil->Pi
open Nat renaming pow_succ->Pj,le_trans->Pk,reduceSub->Pl,reduceAdd->Pm,add_assoc->Pn,zero_le->Po
open Go.Value renaming slice->Pp
open Array renaming replicate_zero->Pq,replicate_succ->Pr
namespace Go.Proofs.YteggfecbjgbndaaGreatDoor
open Go.RowKit Go.Mv
variable {es:List Ent} {bs r:List UInt8}
def dJ(n:Nat)(hs:List UInt8):Nat:=hs.foldl (λa x=>a*128+x.toNat % 128) n
theorem zE(n:Nat)(hs:List UInt8)(x:UInt8):dJ n (hs++[x])=dJ n hs*128+x.toNat % 128:=by unfold dJ;rw[Pc];rfl
theorem zD(n:Nat)(hs:List UInt8)(x:UInt8):dJ n (x::hs)=dJ (n*128+x.toNat % 128) hs:=rfl
theorem ML(f n:Nat)(l:List UInt8)(m:Nat)(r:List UInt8)(h:cI f n l=(0,m,r)):
  ∃hs b,l=hs++b::r/\L hs+1<=f/\(∀x∈hs,128<=x.toNat)/\b.toNat<128/\m=dJ n hs*128+b.toNat/\m<=1073741824:=by
 induction f generalizing n l with
 |zero=>simp[cI]at h
 |succ f ih=>
  cases l with
  |nil=>simp[cI]at h
  |cons b l=>
   rw[cI]at h;by_cases hb:128<=b.toNat
   ·rw[if_pos hb]at h;obtain⟨hs,c,rfl,h1,h2,h3,h4,h5⟩:=ih _ _ h;refine⟨b::hs,c,rfl,by simp;omega,?_,h3,h4,h5⟩;intro x hx;rcases List.mem_cons.1 hx with rfl | hx
    ·exact hb
    exact h2 x hx
   ·rw[if_neg hb]at h;split at h
    ·rename_i hm;simp only[Pf,true_and]at h;obtain⟨rfl,rfl⟩:=h;exact⟨[],b,rfl,by simp,by simp,by omega,by show _=n*128+_;omega,hm⟩
    ·simp at h
theorem Lc(f n:Nat)(hs:List UInt8)(b:UInt8)(r:List UInt8)(h1:L hs+1<=f)(h2:∀x∈hs,128<=x.toNat)(h3:b.toNat<128):
  cI f n (hs++b::r)=if dJ n hs*128+b.toNat<=1073741824 then(0,dJ n hs*128+b.toNat,r)else(11,0,[]):=by
 induction hs generalizing f n with
 |nil=>
  obtain⟨f,rfl⟩:∃g,f=g+1:=⟨f-1,by simp at h1;omega⟩;rw[xI,cI,if_neg (by omega),show b.toNat % 128=b.toNat from by omega];rfl
 |cons x hs ih=>
  obtain⟨f,rfl⟩:∃g,f=g+1:=⟨f-1,by simp at h1;omega⟩;rw[P5,cI,if_pos (h2 x (by simp)),ih f _ (by simp at h1;omega) (λy a=>h2 y (by simp[a]))];rfl
theorem lO{f m:Nat}(hm:m≠0):hiB (f+1) m=hiB f (m / 128)++[P0 (m % 128+128)]:=by rw[hiB,if_neg hm]
theorem sa(m:Nat):(P0 (m % 128+128)).toNat=m % 128+128:=by
 rw[P1];omega
theorem OS(f v:Nat):∀x∈hiB f v,128<=x.toNat:=by
 induction f generalizing v with
 |zero=>simp[hiB]
 |succ f ih=>
  by_cases a:v=0
  ·subst a;rw[lL];simp
  ·rw[lO a];intro x hx;rcases Pd.1 hx with hx | hx
   ·exact ih _ x hx
   ·have:x=P0 (v % 128+128):=by simpa using hx
    subst this;rw[sa];omega
theorem OU(f v:Nat)(h:v<128^f):dJ 0 (hiB f v)=v:=by
 induction f generalizing v with
 |zero=>
  have:v=0:=by simpa using h
  subst this;rfl
 |succ f ih=>
  by_cases a:v=0
  ·subst a;rw[lL];rfl
  ·rw[lO a,zE,ih _ (by rw[Pj]at h;omega),sa];omega
theorem OT(f k v:Nat)(h:v<128^k):L (hiB f v)<=k:=by
 induction f generalizing v k with
 |zero=>simp[hiB]
 |succ f ih=>
  by_cases a:v=0
  ·subst a;rw[lL];simp
  ·rw[lO a,xL];cases k with
   |zero=>simp at h;omega
   |succ k=>
    have:=ih k (v / 128) (by rw[Pj]at h;omega);simp;omega
theorem NH(f v:Nat)(h:v<128^f):(hiB f v).head?≠some 128:=by
 induction f generalizing v with
 |zero=>simp[hiB]
 |succ f ih=>
  by_cases a:v=0
  ·subst a;rw[lL];simp
  ·rw[lO a];by_cases h1:v / 128=0
   ·rw[h1,lL];intro e;have a:P0 (v % 128+128)=128:=by simpa using e
    have c:=congrArg UInt8.toNat a;rw[sa]at c;have:(128:UInt8).toNat=128:=rfl;omega
   ·have b:hiB f (v / 128)≠[]:=by
     cases f with
     |zero=>simp at h;omega
     |succ f=>rw[lO h1];simp
    have hi:=ih (v / 128) (by rw[Pj]at h;omega);cases a:hiB f (v / 128)with
    |nil=>exact absurd a b
    |cons y ys=>rw[a]at hi;simpa using hi
theorem Oj(n:Nat)(hs:List UInt8):n<=dJ n hs:=by
 induction hs generalizing n with
 |nil=>exact xN _
 |cons x hs ih=>rw[zD];exact Pk (by omega) (ih _)
theorem Nv{hs:List UInt8}(a:hs≠[])(h1:∀x∈hs,128<=x.toNat)(h2:hs.head?≠some 128):dJ 0 hs≠0:=by
 cases hs with
 |nil=>exact absurd rfl a
 |cons x hs=>
  rw[zD];have hx:x.toNat≠128:=λe=>h2 (by simp;apply UInt8.toNat_inj.1;simpa using e);have h:=h1 x (by simp);have hl:=x.toNat_lt;have:=Oj (0*128+x.toNat % 128) hs;omega
theorem PD(f:Nat)(hs:List UInt8)(hl:L hs<=f)(h1:∀x∈hs,128<=x.toNat)(h2:hs.head?≠some 128):hiB f (dJ 0 hs)=hs:=by
 induction f generalizing hs with
 |zero=>
  have:hs=[]:=P6 (by omega);subst this;rfl
 |succ f ih=>
  by_cases b:hs=[]
  ·subst b;rfl
  ·have c:=Nv b h1 h2;obtain⟨a,y,rfl⟩:∃a y,hs=a++[y]:=⟨hs.dropLast,hs.getLast b,(List.dropLast_concat_getLast b).symm⟩;rw[lO c,zE];have b:=h1 y (by simp);have b:=y.toNat_lt;have b:(dJ 0 a*128+y.toNat % 128) / 128=dJ 0 a:=by omega
   have c:(dJ 0 a*128+y.toNat % 128) % 128+128=y.toNat:=by omega
   rw[b,c,ih a (by simp at hl;omega) (λx hx=>h1 x (by simp[hx])) ?_,P2];cases a with
   |nil=>simp
   |cons z a=>simpa using h2
theorem EG(n:Nat)(hn:n<=1073741824):∃hs b,cO n=hs++[b]/\L hs<=4/\(∀x∈hs,128<=x.toNat)/\b.toNat<128/\hs.head?≠some 128/\n=dJ 0 hs*128+b.toNat:=by
 have hb:(P0 (n % 128)).toNat=n % 128:=by rw[P1];omega
 have h5:n / 128<128^5:=by have:(128:Nat)^5=34359738368:=by decide
                           omega
 have h4:n / 128<128^4:=by have:(128:Nat)^4=268435456:=by decide
                           omega
 exact⟨hiB 5 (n / 128),P0 (n % 128),q9 n hn,OT 5 4 _ h4,OS _ _,by omega,NH _ _ h5,by rw[OU _ _ h5,hb];omega⟩
theorem zw(n:Nat)(hn:n<=1073741824)(r:List UInt8):aJ (cO n++r)=(0,n,r):=by
 obtain⟨hs,b,a,h1,h2,h3,h4,h5⟩:=EG n hn;rw[a,P4];unfold aJ;have c:(hs++([b]++r)).head?≠some 128:=by
  cases hs with
  |nil=>
   intro e;have:b=128:=by simpa using e
   subst this;exact absurd h3 (by decide)
  |cons x hs=>simpa using h4
 rw[if_neg c];rw[show hs++([b]++r)=hs++b::r from rfl,Lc 5 0 hs b r (by omega) h2 h3,<-h5,if_pos hn]
theorem AZ{l:List UInt8}{m:Nat}(h:aJ l=(0,m,r)):l=cO m++r/\m<=1073741824:=by
 unfold aJ at h;split at h
 ·simp at h
 ·rename_i d;obtain⟨hs,b,rfl,h1,h2,h3,h4,h5⟩:=ML _ _ _ _ _ h;have a:hs.head?≠some 128:=by
   cases hs with
   |nil=>simp
   |cons x hs=>simpa using d
  refine⟨?_,h5⟩;have c:m / 128=dJ 0 hs:=by omega
  have hm:m % 128=b.toNat:=by omega
  rw[q9 m h5,c,hm,PD 5 hs (by omega) h2 a,P2,P4];rfl
theorem qw(l:List Int)(hl:aG l=true)(a:List Int)(r:List UInt8):ao l.length a (aF l++r)=(0,a++l,r):=by
 induction l generalizing a with
 |nil=>simp[ao,aF]
 |cons n l ih=>
  have hn:aB n=true/\aG l=true:=by simpa[aG]using hl
  obtain⟨hn,Hk⟩:=hn;have Kn:=numB_true.1 hn;have e:aJ (aF (n::l)++r)=(0,n.toNat,aF l++r):=by
   rw[show aF (n::l)++r=cO n.toNat++(aF l++r)from by simp[aF]];exact zw _ (by omega) _
  rw[xC,ao,e];simp only[if_true];rw[ih Hk,show((n.toNat:Nat):Int)=n from by omega,P4];rfl
theorem mQ(k:Nat)(a:List Int)(bs:List UInt8)(l:List Int)(r:List UInt8)(h:ao k a bs=(0,l,r)):
  ∃b,l=a++b/\L b=k/\aG b=true/\bs=aF b++r:=by
 induction k generalizing a bs with
 |zero=>
  simp only[ao,Pf,true_and]at h;obtain⟨rfl,rfl⟩:=h;exact⟨[],by simp,rfl,rfl,rfl⟩
 |succ k ih=>
  rw[ao]at h;rcases c:aJ bs with⟨e,m,a⟩
  rw[c]at h;dsimp only at h;by_cases he:e=0
  ·subst he;rw[if_pos rfl]at h;obtain⟨h1,h2⟩:=AZ c;obtain⟨b,rfl,h3,h4,h5⟩:=ih _ _ h;refine⟨(m:Int)::b,by simp,by simp[h3],?_,?_⟩
   ·simp only[aG,List.all_cons,Bool.and_eq_true]at h4⊢;exact⟨numB_true.2 ⟨by omega,by omega⟩,h4⟩
   rw[h1,h5];simp[aF]
  ·rw[if_neg he]at h;simp at h;exact absurd h.1 he
def bd(es:List Ent):List Int:=es.flatMap λe=>[e.t,e.k,e.v]
def dx:List Int->List Ent
 |t::k::v::l=>⟨t,k,v⟩::dx l
 |_=>[]
theorem MP(es:List Ent):dx (bd es)=es:=by
 induction es with
 |nil=>rfl
 |cons e es ih=>rw[show bd (e::es)=e.t::e.k::e.v::bd es from rfl,dx,ih]
theorem lr(es:List Ent):L (bd es)=3*L es:=by
 induction es with
 |nil=>rfl
 |cons e es ih=>rw[show bd (e::es)=e.t::e.k::e.v::bd es from rfl];simp[ih];omega
theorem qG(k:Nat)(l:List Int)(h:L l=3*k):bd (dx l)=l/\L (dx l)=k:=by
 induction k generalizing l with
 |zero=>
  have:l=[]:=P6 (by omega);subst this;exact⟨rfl,rfl⟩
 |succ k ih=>
  match l,h with
  |t::k'::v::l,h=>
   obtain⟨h1,h2⟩:=ih l (by simp at h;omega);rw[dx];exact⟨by rw[show bd (⟨t,k',v⟩::dx l)=t::k'::v::bd (dx l)from rfl,h1],by simp[h2]⟩
theorem zn(a b:List Int):aF (a++b)=aF a++aF b:=by simp[aF]
theorem tT(es:List Ent):aF (bd es)=es.flatMap dv:=by
 induction es with
 |nil=>rfl
 |cons e es ih=>rw[show bd (e::es)=[e.t,e.k,e.v]++bd es from rfl,zn,ih];rfl
theorem D6(h:bQ es=true):aG (bd es)=true:=by
 induction es with
 |nil=>rfl
 |cons e es ih=>
  have he:e.ok=true/\bQ es=true:=by simpa[bQ]using h
  have h1:=BJ he.1;have h2:=ih he.2;simp only[aG,List.all_eq_true]at h1 h2⊢;intro x hx;rcases Pd.1 (show x∈[e.t,e.k,e.v]++bd es from hx)with hx | hx
  ·exact h1 x hx
  ·exact h2 x hx
def dO:List UInt8->Option (List Ent×List UInt8)
 |[]=>none
 |c::r=>if c.toNat=0\/4<c.toNat then none else if(ao (3*c.toNat) [] r).1=0/\bQ (dx (ao (3*c.toNat) [] r).2.1)=true then some (dx (ao (3*c.toNat) [] r).2.1,(ao (3*c.toNat) [] r).2.2)else none
theorem lw(es:List Ent):fh es=true↔(0<L es/\L es<=4)/\bQ es=true:=by simp[fh]
theorem Il(h:fh es=true)(r:List UInt8):dO (bp es++r)=E (es,r):=by
 obtain⟨⟨h1,h2⟩,h3⟩:=(lw es).1 h;have hc:(P0 (L es)).toNat=L es:=by rw[P1];omega
 have a:=qw (bd es) (D6 h3) [] r;rw[lr,tT,xI]at a;rw[show bp es++r=P0 (L es)::(es.flatMap dv++r)from rfl,dO,hc,if_neg (by omega),a];dsimp only;rw[MP,if_pos ⟨rfl,h3⟩]
theorem rj(h:dO bs=E (es,r)):fh es=true/\bs=bp es++r:=by
 cases bs with
 |nil=>simp[dO]at h
 |cons c l=>
  rw[dO]at h;split at h
  ·simp at h
  ·rename_i hc;rcases a:ao (3*c.toNat) [] l with⟨e,b,i⟩
   rw[a]at h;dsimp only at h;split at h
   ·rename_i he;obtain⟨rfl,h3⟩:=he;obtain⟨g,Hk,h4,h5,d⟩:=mQ _ _ _ _ _ a;rw[xI]at Hk;subst Hk;simp only[Pg,Pf]at h;obtain⟨rfl,rfl⟩:=h;obtain⟨f,h8⟩:=qG c.toNat b h4;refine⟨(lw _).2 ⟨by omega,h3⟩,?_⟩;rw[d];conv=>lhs;rw[<-f]
    rw[tT];show _=P0 (L (dx b))::_;rw[h8,P2];rfl
   ·simp at h
def bX(p:Nat×Nat)(bs:List UInt8):Option (List Ent×List UInt8):=
 match dO bs with
 |none=>none
 |some x=>if 4<=L x.2/\x.2.take 4=aW (aD p (bp x.1))then some (x.1,x.2.drop 4)else none
theorem iM(p:Nat×Nat):L (aW p)=4:=rfl
theorem zR(p:Nat×Nat)(bs:List UInt8)(es:List Ent)(r:List UInt8):bX p bs=E (es,r)↔fh es=true/\bs=dI p es++r:=by
 constructor
 ·intro h;unfold bX at h;split at h
  ·simp at h
  rename_i x hx;split at h
  ·rename_i h4;simp only[Pg,Pf]at h;obtain⟨rfl,rfl⟩:=h;obtain⟨h5,a⟩:=rj (es:=x.1) (r:=x.2) hx;refine⟨h5,?_⟩;rw[a];unfold dI;rw[<-h4.2,P4,P8]
  simp at h
 ·rintro⟨h1,rfl⟩;have h2:=Il h1 (aW (aD p (bp es))++r);unfold bX;rw[show dI p es++r=bp es++(aW (aD p (bp es))++r)from by unfold dI;rw[P4],h2];dsimp only;have hl:=iM (aD p (bp es));rw[if_pos ⟨by simp[hl],List.take_left' hl⟩,List.drop_left' hl]
theorem My(p:Nat×Nat)(es:List Ent):5<=L (dI p es):=by unfold dI bp;rw[xL,iM,xC];omega
theorem Lz{p:Nat×Nat}(h:bX p bs=E (es,r)):L r<L bs:=by
 rw[((zR p bs es r).1 h).2,xL];have:=My p es;omega
def bZ(p:Nat×Nat)(bs:List UInt8):List Ent×(Nat×Nat)×List UInt8:=
 match h:bX p bs with
 |none=>([],p,bs)
 |some (es,r)=>(es++(bZ (aD p (bp es)) r).1,(bZ (aD p (bp es)) r).2)
termination_by (L bs)
decreasing_by all_goals exact Lz h
theorem zi{p:Nat×Nat}(h:bX p bs=none):bZ p bs=([],p,bs):=by
 rw[bZ];split
 ·rfl
 ·rename_i a;rw[h]at a;cases a
theorem zj{p:Nat×Nat}(h:bX p bs=E (es,r)):
  bZ p bs=(es++(bZ (aD p (bp es)) r).1,(bZ (aD p (bp es)) r).2):=by
 rw[bZ];split
 ·rename_i a;rw[h]at a;cases a
 ·rename_i a;rw[h]at a;cases a;rfl
def cV:List UInt8->Option (Nat×List UInt8)
 |[]=>none
 |c::r=>if c=2/\(aJ r).1=0/\(aJ r).2.1≠0 then some (aJ r).2 else none
theorem zM(bs:List UInt8)(first:Nat)(r:List UInt8):cV bs=E (first,r)↔(cK (first:Int)).1=0/\bs=(cK (first:Int)).2++r:=by
 have a:aF [(first:Int)]=cO first:=by simp[aF]
 constructor
 ·intro h;cases bs with
  |nil=>simp[cV]at h
  |cons c l=>
   rw[cV]at h;split at h
   ·rename_i hc;obtain⟨rfl,h1,h2⟩:=hc;rcases b:aJ l with⟨e,m,d⟩
    rw[b]at h h1 h2;dsimp only at h h1 h2;subst h1;simp only[Pg,Pf]at h;obtain⟨rfl,rfl⟩:=h;obtain⟨h3,h4⟩:=AZ b;unfold cK;rw[if_pos ⟨numB_true.2 ⟨by omega,by omega⟩,by omega⟩,a];exact⟨rfl,by rw[h3];rfl⟩
   simp at h
 ·rintro⟨h1,h2⟩;unfold cK at h1 h2;split at h1
  ·rename_i hc;rw[if_pos hc,a]at h2;have hn:=numB_true.1 hc.1;subst h2;rw[show(2::cO first)++r=2::(cO first++r)from rfl,cV,zw first (by omega)];dsimp only;rw[if_pos ⟨rfl,rfl,by omega⟩]
  ·simp at h1
theorem zN{first:Nat}(h:cV bs=E (first,r)):L r<=L bs/\bs.take (L bs-L r)=(cK (first:Int)).2:=by
 obtain⟨_,h2⟩:=(zM _ _ _).1 h;rw[h2];exact⟨by simp,by rw[xL,Nat.add_sub_cancel,List.take_left]⟩
structure zgM where
 err:Int
 first:Nat
 log:List Ent
 used:Nat
 pt:Nat×Nat
def cz(bs:List UInt8):zgM:=
 match cV bs with
 |none=>⟨11,0,[],0,(0,0)⟩
 |some x=>⟨0,x.1,(bZ (aD (0,0) (cK (x.1:Int)).2) x.2).1,L bs-L (bZ (aD (0,0) (cK (x.1:Int)).2) x.2).2.2,(bZ (aD (0,0) (cK (x.1:Int)).2) x.2).2.1⟩
open Go.RowKit Go.Mv Go.Shelf
attribute [local go_sem] Oper.semAt_some
theorem Dx(es:List Ent)(i:Nat)(h:i<L es):(bd es).drop (i*3)=es[i].t::es[i].k::es[i].v::(bd es).drop (i*3+3):=by
 induction es generalizing i with
 |nil=>simp at h
 |cons e es ih=>
  rw[show bd (e::es)=e.t::e.k::e.v::bd es from rfl];cases i with
  |zero=>rfl
  |succ i=>
   have:=ih i (by simpa using h);rw[show(i+1)*3=i*3+1+1+1 from by omega];simpa using this
theorem Lp{d:World}{b a n c:Nat}(h:Is d (B (E ⟨b,a,F⟩) n c) (bd es))(i:Nat)(hi:i<L es):
  Is d (B (E ⟨b,a+i*3,F⟩) 3 3) [es[i].t,es[i].k,es[i].v]:=by
 have hl:=lr es;obtain⟨d,A,c',e,h1,h2,h3⟩:=h;cases e;obtain⟨d,d,e',hc⟩:=h3 (by omega);cases e';refine⟨by simp,_,3,rfl,xN _,by simp[maxLen],λ_=>⟨b,a+i*3,rfl,λj u a=>?_⟩⟩;have d:=Dx es i hi;have f:j<3:=by
  have:=(List.getElem?_eq_some_iff.1 a).1;simpa using this
 rw[Pn];refine hc (i*3+j) u ?_;rw[<-a,<-List.getElem?_drop,<-List.map_drop,d];match j,f with
 |0,_=>rfl
 |1,_=>rfl
 |2,_=>rfl
theorem FM(Z m:World)(v:Value)(es:List Ent)(s:Is Z v (bd es))(Hx:es.length<=2000000)(bs g:Nat)(HZ:Boxed m bs 64 v)(K0:Boxed m g 3 (C H 3)):
  Seq G 149 #[K (E ⟨bs,0,F⟩),K (E ⟨g,0,F⟩)]
   (λ(e:Ent) av _=>∃b d,av = #[B (E ⟨b,d,F⟩) 3 3]/\Is Z (B (E ⟨b,d,F⟩) 3 3) [e.t,e.k,e.v]) (λk o=>(k=bs/\o.ty=E 64)\/(k=g/\o.ty=E 3)) (λ_ _=>False) es m:=by
 intro l J Jx hJ Kf V h0;have U:=lr es;obtain⟨A,c,rfl,h1,h2⟩:=xO s;rw[U]at *;refine(callsIn_wd (ro:=none) (n:=9)).1 ?_;refine callsIn_of_wp func149 rfl trivial ?_ rfl;simp only[ntmps149,Pa,xC,Pe,Pm,Pl,Pr,Pq,Pb,P9,xI,P5];have HP:=I s;clear U s;gi_wp2;gi_loopw [4] (λj W=>∃(i:Nat),j=C H (i*3:Nat)/\i<=es.length/\Hid (J (es.take i) W)/\Boxed W bs 64 (B A (3*es.length) c)/\Boxed W g 3 (C H 3)/\m.heap.size<=W.heap.size) (λj _=>3*es.length+4-(intOf j).toNat)
 case atStart=>exact⟨0,rfl,Po _,h0,HZ,K0,xN _⟩
 case round=>
  obtain⟨i,rfl,hk,z,O,P,M⟩:=hrel;have Q:=O.cell;have R:=P.cell;by_cases f:i<es.length
  ·have q:=HP.out;obtain⟨hx,b,d,rfl,hc⟩:=Is.at_ q (by rw[lr];omega);clear hc hx;have X:=Lp q i f;have N:=I X;have K5:(i*3:Nat)<3*es.length:=by omega
   have K4:(i*3:Nat)+3<=3*es.length:=by omega
   have D:es.take (i+1)=es.take i++[es[i]]:=P3 f;have x:=I D;have L:es=es.take i++es[i]::es.drop (i+1):=by rw[<-List.drop_eq_getElem_cons f,P8]
   have HS:=I L;clear X D L q;have w:((i*3:Nat):Int)=(i:Int)*3:=by omega
   obtain⟨k,a⟩:∃k,i*3=k:=⟨_,rfl⟩;have HQ:=I a;rw[a]at K5 K4 N;simp only[a];clear w a;gi_wp2;gi_region
   have y:(if((3*es.length-k:Nat):Int)<3 then((3*es.length-k:Nat):Int)else 3)=3:=by split<;>omega
   try rw[y]
   clear y;have Y:=V (es.take i) es[i] (es.drop (i+1)) HS wr.drew #[B (E ⟨b,d+k,F⟩) 3 3] (hJ _ _ _ z (Moves.refl.drew)) M ⟨b,d+k,rfl,N.out⟩;have Hy:=I Y;have HU:Boxed wr.drew bs 64 (B (E ⟨b,d,F⟩) (3*es.length) c):=O;have HW:Boxed wr.drew g 3 (C H 3):=P;clear Y V;gi_wp2;refine ew Hy ?_;rintro e W' ⟨h,⟨rfl,p⟩|⟨rfl,p⟩⟩
   ·refine⟨true,rfl,?_⟩;have d1:Boxed W' bs 64 (B (E ⟨b,d,F⟩) (3*es.length) c):=h.boxed HU (.inl (.inl ⟨rfl,rfl⟩));have S:Boxed W' g 3 (C H 3):=h.boxed HW (.inl (.inr ⟨rfl,rfl⟩));have e2:=S.cell;have K8:m.heap.size<=W'.heap.size:=Pk M h.size;have Hq:=I p;clear p h Q R;gi_wp2;refine⟨⟨i+1,?_,by omega,?_,d1,S,K8⟩,by simp[intOf];omega⟩
    ·have:=HQ.out;rw[show(i+1)*3=k+3 from by omega];go_num
    show J _ _;rw[x.out];exact Hq.out
   refine⟨false,rfl,?_⟩;have Hq:=I p;clear p h Q R;gi_wp2;refine bodyPost_ret (results_none rfl _ _ _) rfl ?_;refine⟨⟨_,rfl⟩,.inr ⟨es.take (i+1),?_,?_⟩⟩
   ·exact List.take_prefix _ _
   rw[x.out];exact Hq.out
  ·have T:es.take i=es:=P7 (by omega);have w:3*es.length<=i*3:=by omega
   have K3:¬(((i*3:Nat):Int)<((3*es.length:Nat):Int)):=by omega
   obtain⟨k,a⟩:∃k,i*3=k:=⟨_,rfl⟩;have HN:=I T;have Km:k<=3*es.length:=by omega
   rw[a]at w;simp only[a];clear T K3 a;gi_wp2;refine bodyPost_end (results_none rfl _ _ _) rfl ?_;exact⟨⟨_,rfl⟩,.inl (by have:=z.out;rw[HN.out]at this;exact this)⟩
theorem FZ(A:Option Addr)(n c:Nat)(w:World):Calls G 80 #[B A n c,C H 3] w λe w'=>
  e=.returned (.func (.func 149) #[] #[K (E ⟨w.heap.size,0,F⟩),K (E ⟨w.heap.size+1,0,F⟩)]) /\
  (w.alloc (.cells #[B A n c] 64)).alloc (.cells #[C H 3] 3)=w':=by
 go_enter func80,ntmps80
 go_wp2;go_ret;exact⟨rfl,rfl⟩
attribute [local go_sem] Oper.semAt_some
def cW(n:Nat):List UInt8:=a8 8 n false 4
def aP(l:List Int):List UInt8:=l.flatMap λn=>cW n.toNat
theorem DO(n:Nat)(k:Nat):L (a8 8 n false k)=k+1:=by
 induction k with
 |zero=>simp[a8]
 |succ k ih=>rw[a8,if_neg (by simp)];simp[ih]
theorem io(n:Nat):L (cW n)=5:=DO n 4
theorem mK(l:List Int):L (aP l)=5*L l:=by
 induction l with
 |nil=>rfl
 |cons n l ih=>rw[show aP (n::l)=cW n.toNat++aP l from rfl,xL,io,ih,xC];omega
theorem zd{l:List Int}{k:Nat}(h:k<L l):aP (l.take (k+1))=aP (l.take k)++cW l[k].toNat:=by
 rw[P3 h];unfold aP;rw[List.flatMap_append];simp
def LgI(base N:Nat)(w:World)(bs H4:List UInt8)(X:World):Prop:=
 ∃v,Boxed X N 33 v/\X.ownsRow base 5 1 v (bs++H4).length ((bs++H4).map bv)/\Below base w X
theorem IE(bs:List UInt8)(n:Nat)(hn:n<=1073741824)(O:Value)(base:Nat)(w:World)(H3:w.ownsRow base 5 1 O bs.length (bs.map bv))(q:base<=w.heap.size)(Hx:bs.length+5<=1099511627776):
  Calls G 280 #[O,C H n] w (BC base w (bs++cW n)):=by
 obtain⟨A,f,rfl,_,_⟩:=xO (xW H3);refine(callsIn_wd (ro:=none) (n:=9)).1 ?_;refine callsIn_of_wp_marks func280 rfl trivial ?_ rfl;simp only[ntmps280,Pa,xC,Pe,Pm,Pl,Pr,Pq,Pb,P9,xI,P5];gi_wp2_with (refine⟨trivial,?_⟩;gi_at_call 182;refine(callsIn_wd.2 (yp n 8 5 false _)).mono ?_;rintro e w' ⟨rfl,rfl⟩)
 have hN:w.heap.size+5=(eR (w.alloc (Obj.cells #[Pp A bs.length f] 33)) n 8 5 false).heap.size:=by rw[(nS _ n 8 5 false).1];simp
 obtain⟨_,y,z,I,J,j⟩:=nS (w.alloc (Obj.cells #[Pp A bs.length f] 33)) n 8 5 false;generalize eR (w.alloc (Obj.cells #[Pp A bs.length f] 33)) n 8 5 false=w2 at *;simp only[xS]at y z I J;have M:LgI base w.heap.size w bs [] w2:=by
  refine⟨_,(Boxed.new w _ _).kept (W':=w2) (row:=none) (Ph j none) (by simp),?_,?_⟩
  ·have h1:=H3.alloc (Obj.cells #[Pp A bs.length f] 33);simpa using h1.kept (w':=w2) (row:=none) (Ph j none) (by cases A<;>simp[Value.ownBlock])
  exact(((Below.refl base w).alloc q _).trans (j.mono (by simp;omega)))
 refine dV (a:=⟨_,_⟩) rfl (enters_of func222 (by kernel_rfl) rfl)
  (λW1 hb _=>yc 8 n 5 false (.inr rfl) hn (by omega) (by omega) (w.heap.size+1+2) (w.heap.size+1) (w.heap.size+1+1) (w.heap.size+1+3) (by omega) (by omega) W1
    (I.kept (row:=none) (Ph hb none) (by simp)) (y.kept (row:=none) (Ph hb none) (by simp))
    (z.kept (row:=none) (Ph hb none) (by simp)) (J.kept (row:=none) (Ph hb none) (by simp)))
  (λk o h=>eE h.2) (λk o h=>by rcases h with h | h<;>exact eE h.2) (λx av W h=>by rw[h];rfl)
  (LgI base w.heap.size w bs) (λ_ _ _=>False) ?hI (λ_ _ _ _ h _=>h) M
  (λx L _=>L=⟨#[B A bs.length f,C H n,K (E ⟨w.heap.size,0,F⟩),undef,B none 0 0,C .u8 x.toNat,C H n,sM (w.heap.size+1),C .u8 x.toNat,undef,undef,undef,undef,undef],[]⟩)
  (λ_ _ _ _ h _=>h) ?assign ?body ?done ?stop
 case hI=>
  rintro s X Y⟨v,d,N,b⟩hm;refine⟨v,hm.boxed d ?_,hm.ownsRow N ?_,hm.belowOf b ?_ q⟩
  ·rintro(h | h)
   ·have:=h.1;omega
   cases h.2
  ·rintro k P _(h | h)
   ·cases h.2
   cases h.2
  rintro k o hk(h | h)
  ·have:=h.1;omega
  have:=h.1;omega
 case assign=>
  rintro l H4 x V W av K' hx hi T rfl i;simp only[bv];gi_wp2;exact i _ _ Kept.refl hi rfl
 case body=>
  rintro l H4 x V L W hx hl N⟨v,d,H0,b⟩T rfl;have hm:(bs++H4).length=bs.length+H4.length:=by simp
  rw[hm]at H0;obtain⟨A',c',rfl,_,_⟩:=xO (xW H0);have Kq:H4.length<=4:=by
   have:=congrArg List.length hx;have:=qa 8 n false 4;simp at *;omega
  obtain⟨i0,hi,Z,Kb,Kc⟩:=info_parts dC;have hc:=d.cell;have Q:=d.not_row (e:=5) (by decide) H0;gi_wp2_with (gi_at_builtin;refine wpListIn_append_own _ rfl (.tmp 9) (.tmp 11) 33 rfl base 5 i0 (C .u8 0) 1 1 underlying33 hi Z Kb Kc rfl (by decide) (B A' (bs.length+H4.length) c') (bs.length+H4.length) ((bs++H4).map bv) rfl (H0.alloc _) ⟨W.heap.size,0,F⟩ 1 1 [C .u8 (x.toNat:Int)] rfl rfl (cell_one_new _ _ _) (by simp[Value.oneCell']) (by simp[maxLen];omega) (by simp;omega) (by have:=b.size;simp;omega) ?_;intro v' w1 m t _;obtain⟨g',U,rfl,_,_,_⟩:=ia m (hn:=by omega);have g:=(d.alloc _).kept t Q;have Ki:=g.cell;have Kl:=g.frozen)
  refine⟨Kept.appended _ d H0 t ?_ ?_,_,g.set _,?_,?_⟩
  ·rintro((⟨_,h⟩|⟨_,h⟩)| ⟨_,h⟩)<;>cases h
  ·rintro k P _((⟨_,h⟩|⟨_,h⟩)| ⟨_,h⟩)<;>cases h
  ·have h:=m.kept (grownBy_setCell' w1 w.heap.size (B (E ⟨g',0,F⟩) (bs.length+H4.length+1) U)) (.inr (g.not_row (by decide) m).symm);simpa[bv,Pn]using h
  refine(((b.alloc (by have:=b.size;omega) _).grown t (by have:=b.size;simp;omega) (λk ek=>?_)).setCell (p:=⟨w.heap.size,0,F⟩) q _);exact(H0.lt k ek).1
 case done=>
  rintro D W hD⟨v,d,H0,b⟩i;have hc:=d.cell;have Kg:w.heap.size<=w2.heap.size:=by omega
  clear M H3 y z I J j hN;have R:=ownsRow_putObj H0 (.deferred none) i rfl;obtain⟨A',c',rfl,_,_⟩:=xO (xW H0);gi_wp2;have S:(W.putObj D (.deferred none)).ownsRow base 5 1 (B A' (bs.length+(a8 8 n false 4).length) c') (bs++cW n).length ((bs++cW n).map bv):=by
   have h:=R;rw[xL]at h;rw[xL];exact h
  exact dh i (B A' (bs.length+(a8 8 n false 4).length) c') (by simp[results,results280,go_sem]) ⟨_,rfl,S,cp b (hD:=by omega) _⟩
 case stop=>
  rintro D c H4 W _ _ h _;exact h.elim
def sB(w:World)(l:List Int)(e:Ending)(w':World):Prop:=∃a,e=.returned (.tuple #[a,C H 0])/\w'.ownsRow w.heap.size 5 1 a (aP l).length ((aP l).map bv)/\Ext w w'
theorem IV(v:Value)(l:List Int)(w:World)(h:Is w v l)(hn:aG l=true)(hl:l.length<=2000000):
  Calls G 180 #[v,.func (.func 280) #[] #[]] w (sB w l):=by
 obtain⟨A,c,rfl,h1,h2⟩:=xO h;have n:=I hn;go_enter func180,ntmps180
 go_wp2_with (go_at_call 203;refine(ny _ _ _ h).mono ?_;rintro e w' ⟨rfl,rfl⟩)
 clear hn;go_loopw [4,13] (λp i wr=>∃k:Nat,k<=l.length/\i=C H k/\wr.ownsRow w.heap.size 5 1 p (aP (l.take k)).length ((aP (l.take k)).map bv)/\Ext w wr) (λ_ i _=>l.length-(intOf i).toNat)
 case atStart=>exact⟨0,Po _,rfl,Pi _ _ _ _,xR _⟩
 case round=>
  obtain⟨k,hk,rfl,H3,d⟩:=hrel;by_cases a:k<l.length
  ·obtain⟨_,b,q,rfl,hc⟩:=Is.at_ (h.ext d) (by omega);have s:=hc k a;clear hc;obtain⟨o,t⟩:=my n a;have x:=mK (l.take k);have y:(l.take k).length<=k:=List.length_take_le _ _;have key:=IE (aP (l.take k)) l[k].toNat (by omega) _ w.heap.size wr H3 d.size (by omega);rw[Int.toNat_of_nonneg o]at key;have j:=I key;clear key;go_wp2_with (go_at_call 280;refine j.out.mono ?_;rintro e B⟨z,rfl,g,m⟩)
   go_roundw
   case rel=>exact⟨k+1,by omega,by go_num,by rw[zd a];exact g,Below.trans d m⟩
   case measure=>simp[intOf];omega
  ·have f:l.take k=l:=P7 (by omega);rw[f]at H3;clear f;go_wp2_with fail
   go_ret2;exact⟨_,rfl,H3,d⟩
theorem zzL(v:Value)(l:List Int)(w:World)(h:Is w v l)(hn:aG l=false):Calls G 238 #[v] w (mV w):=by
 go_enter func238,ntmps238
 go_wp2_with (go_at_call 180;refine(zyR _ _ _ h hn _).mono ?_;rintro e w' ⟨rfl,hb⟩)
 go_ret2;exact⟨rfl,hb⟩
theorem M7(v:Value)(l:List Int)(w:World)(h:Is w v l)(hn:aG l=true)(hl:l.length<=2000000):Calls G 238 #[v] w (sB w l):=by
 go_enter func238,ntmps238
 go_wp2_with (go_at_call 180;refine(IV _ _ _ h hn hl).mono ?_;rintro e w' ⟨b,rfl,a,hb⟩)
 go_ret2;exact⟨_,rfl,a,hb⟩
def beN(l:List UInt8):Nat:=l.foldl (λa b=>a*256+b.toNat) 0
theorem AT(l:List UInt8)(b:UInt8):beN (l++[b])=beN l*256+b.toNat:=by unfold beN;rw[Pc];rfl
def az(bs:List UInt8):Int×Nat×List UInt8:=if L bs<5 then(10,0,[])else if beN (bs.take 5)<=1073741824 then(0,beN (bs.take 5),bs.drop 5)else(11,0,[])
theorem ml(v:Value)(bs:List UInt8)(w:World)(g:Bs w v bs)(hl:bs.length<=2000000):Calls G 204 #[v] w (iB w (az bs)):=by
 obtain⟨A,c,rfl,h1,h2⟩:=xO g;by_cases h5:(bs.length:Int)<5
 ·have P:az bs=(10,0,[]):=by unfold az;rw[if_pos (by omega)]
  have N:=I P;clear P;go_enter func204,ntmps204
  go_wp2_with fail
  go_ret3;exact⟨_,by rw[N.out];rfl,by rw[N.out];exact Pi _ _ _ _,xR _⟩
 obtain⟨_,b,i,rfl,hc⟩:=Bs.at_ g (by omega);have HC:=I hc;have Q:=I g;have z:az bs=if beN (bs.take 5)<=1073741824 then(0,beN (bs.take 5),bs.drop 5)else(11,0,[]):=by unfold az;rw[if_neg (by omega)]
 have s:=I z;have Ke:(5:Int)<=(c:Int):=by omega
 clear hc g z;go_enter func204,ntmps204
 go_wp2_with fail
 go_loop [2,13] (λnn m=>∃k n:Nat,k<=5/\Hid (n=beN (bs.take k))/\n<1099511627776/\Hid (n<256^k)/\nn=C H n/\m=C H k) (λ_ m=>5-(intOf m).toNat)
 case atStart=>exact⟨0,0,by omega,rfl,by omega,by show _<_;decide,rfl,rfl⟩
 case round=>
  obtain⟨k,n,hk,j,hn,p,rfl,rfl⟩:=hrel;by_cases hlt:k<5
  ·have x:k<bs.length:=by omega
   have Kj:=HC.out k x;have hq:=bs[k].toNat_lt;have y:beN (bs.take (k+1))=n*256+bs[k].toNat:=by rw[P3 x,AT,j.out]
   have Kp:n<4294967296:=Nat.lt_of_lt_of_le p (Pk (Nat.pow_le_pow_right (by decide) (show k<=4 by omega)) (by decide));have K:n*256+bs[k].toNat<256^(k+1):=by rw[Pj];have:=p.out;omega
   have S:=I y;have U:=I K;clear y K;generalize bs[k].toNat=q at *;have ho:bits .or .i64 ((n:Int)*256) (q:Int)=(n:Int)*256+(q:Int):=bits_join .i64 62 (by decide) lD 8 _ _ (by omega) (by omega) (by omega) (by omega) (by omega) (by omega);go_wp2_with fail
   go_round
   case rel=>exact⟨k+1,n*256+q,by omega,by show _=_;rw[S.out],by omega,U.out,by simp,by go_num⟩
   case measure=>simp[intOf];omega
  ·obtain rfl:k=5:=by omega
   have t:=xW (be w [C H (n:Int)] 3 1 (hm:=rfl) (hl:=by simp[maxLen]) (xN _));have J:Is (w.alloc (.cells #[C H (n:Int)] 3)) (B (E ⟨w.heap.size,0,F⟩) 1 1) [(n:Int)]:=t;have O:aG [(n:Int)]=decide (n<=1073741824):=by simp[aG,aB];omega
   have D:=I O;have h:Ext w (w.alloc (.cells #[C H (n:Int)] 3)):=xA (xR _) _;clear t O;have Y:∃o:Value,(∀W,Ext w W->Bs W o (bs.drop 5))/\o=B (if c=5 then some ⟨b,i,F⟩else some ⟨b,i+5,F⟩) (bs.length-5) (c-5):=by
    by_cases d:c=5
    ·exact⟨_,λW _=>Bs.cut0 (A:=E ⟨b,i,F⟩) (n:=bs.length) (k:=5) (c:=c-5) (bs:=bs) (by omega) rfl (by omega),by rw[if_pos d]⟩
    exact⟨_,λW Z=>Bs.cut (Q.out.ext Z) 5 (by omega) rfl,by rw[if_neg d]⟩
   obtain⟨o,L,M⟩:=Y;have R:=I L;have T:=I M;clear L M;by_cases a:n<=1073741824
   ·have f:az bs=(0,n,bs.drop 5):=by rw[s.out,<-j.out,if_pos a]
    have l:=I f;have Kk:(bs.drop 5).length<=2000000:=by rw[List.length_drop];omega
    clear f;go_wp2_with (first
     |(go_at_call 203;refine(ny _ _ _ J).mono ?_;rw[D.out,decide_eq_true a];rintro e w1⟨rfl,rfl⟩)
     |(go_at_call 147;rw[<-T.out];refine(ol _ _ _ (R.out _ h) (by omega)).mono ?_;rintro e w2⟨v2,rfl,X,V⟩))
    go_ret3;rw[l.out];exact⟨_,rfl,ay X h.size,xT h V⟩
   ·have f:az bs=(11,0,[]):=by rw[s.out,<-j.out,if_neg a]
    have l:=I f;clear f;go_wp2_with (go_at_call 203;refine(ny _ _ _ J).mono ?_;rw[D.out,decide_eq_false a];rintro e w1⟨rfl,rfl⟩)
    go_ret3;rw[l.out];exact⟨_,rfl,Pi _ _ _ _,h⟩
