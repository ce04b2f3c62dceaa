/- Merged -/
import Derived.Test.YteggfecbjgbndaaGreatDoorZy5
set_option linter.all false
set_option maxHeartbeats 8000000
set_option maxRecDepth 100000
open Go.Proofs.Tryz
open List renaming length->O
open Go.Value renaming int->B,slice->C,pointer->L
open Option renaming some->D,none->E
open Go.IntKind renaming i64->F,u8->K
open Go.Proofs.Tryz renaming prog->G
open Go.Mv renaming aN->I
open Go.Obj renaming cells->N
open List renaming eq_nil_of_length_eq_zero->P0,take_of_length_le->P1,append_assoc->P2,length_drop->P3,getElem?_eq_some_iff->P4,take_append_drop->P5,take_succ_eq_append_getElem->P6,length_take->P7,cons_append->P8,drop_eq_getElem_cons->P9,append_toArray->Pa,getElem?_drop->Pb,size_toArray->Pc,push_toArray->Pd,getElem?_map->Pe,take_prefix->Pf,mem_append->Pg,length_nil->Ph,length_map->Pi
open UInt8 renaming ofNat->Pj,toNat_ofNat'->Pk,ofNat_toNat->Pl
open Prod.mk renaming injEq->Pm
open Go.Oper renaming semAt_some->Pn
open Option.some renaming injEq->Po
open Nat renaming add_assoc->Pp,pow_succ->Pq,le_trans->Pr,reduceSub->Ps,reduceAdd->Pu,zero_mul->Pv,zero_le->Pw,one_mul->Px,add_mul->Py
open Array renaming replicate_zero->Pz,replicate_succ->Q0
namespace Go.Proofs.YteggfecbjgbndaaGreatDoor
open Go.RowKit Go.Mv
variable {es:List Ent} {bs r:List UInt8} {m:Nat} {wo:World}
theorem Eg(z v:Value)(es:List Ent)(w:World)(h:Es w v es)(hb:fh es=false):Calls G 268 #[z,v] w (M6 w):=by
 obtain⟨A,c,rfl,h1,h2⟩:=xO h;have b:=I (λw (h:Es w (C A es.length c) es)=>AE _ es w h);have H:=I h;by_cases hl:0<O es/\O es<=4
 ·have d:bQ es=false:=by simpa[fh,hl]using hb
  obtain⟨d,d⟩:=hl;have a:((O es:Int)==0)=false:=by rw[beq_eq_false_iff_ne];omega
  go_enter func268,ntmps268
  go_wp2_with (go_at_call 290;refine(b _ H.out).mono ?_;rintro e w' ⟨rfl,b⟩)
  go_ret3;exact⟨rfl,b⟩
 ·clear hb h;by_cases a:O es=0
  ·have e1:((O es:Int)==0)=true:=by rw[beq_iff_eq];omega
   go_enter func268,ntmps268
   go_wp2_with fail
   go_ret3;exact⟨rfl,xR _⟩
  ·have e1:((O es:Int)==0)=false:=by rw[beq_eq_false_iff_ne];omega
   have h4:4<O es:=by omega
   go_enter func268,ntmps268
   go_wp2_with fail
   go_ret3;exact⟨rfl,xR _⟩
theorem Ew(z J:Nat)(v:Value)(es:List Ent)(w:World)(h:Es w v es)(hb:fh es=true):Calls G 268 #[.complex .f64 z J,v] w (Oo (ptV (.complex .f64 z J)) es w):=by
 obtain⟨A,c,rfl,h1,h2⟩:=xO h;have hB:=I (λw (h:Es w (C A es.length c) es)=>AE _ es w h);have H:=I h;have hl:(0<es.length/\es.length<=4)/\bQ es=true:=by simpa[fh]using hb
 obtain⟨⟨Kk,Kl⟩,T⟩:=hl;have e0:((es.length:Int)==0)=false:=by rw[beq_eq_false_iff_ne];omega
 obtain⟨i0,hi,K3,K4,K5⟩:=info_parts dC;have Ha:=I T;rw[T]at hB;clear hb h T;go_enter func268,ntmps268
 go_wp2_with (go_at_call 290;refine(hB.out _ H.out).mono ?_;rintro e w1⟨rfl,V⟩)
 go_loopw [7,8] (λvb i wr=>∃k:Nat,k<=es.length/\i=B F k/\wr.ownsRow w.heap.size 5 1 vb (1+((es.take k).flatMap dv).length) (B K es.length::((es.take k).flatMap dv).map bv)/\Ext w wr) (λ_ i _=>es.length-(intOf i).toNat)
 case atStart=>
  refine⟨0,Pw _,rfl,?_,xA V _⟩;have:=be w1 [B K (es.length:Int)] 5 1 (hm:=rfl) (hl:=by simp[maxLen]) V.size;simpa using this
 case round=>
  obtain⟨k,hk,rfl,l,n⟩:=hrel;by_cases O:k<es.length
  ·have Hl:=Es.ext H.out n;obtain⟨_,b,L,rfl,hc⟩:=Es.at_ Hl (by omega);obtain⟨Y,Ke,Kf⟩:=hc k O;have Z:=BJ (Mr Ha.out k O);have Q:b<wr.heap.size:=World.block_lt_of_cell? wr _ Y;have R:=OO es k O;obtain⟨bs,o⟩:∃bs,aF [es[k].t,es[k].k,es[k].v]=bs:=⟨_,rfl⟩;rw[show dv es[k]=bs from o]at R;have HI:bs.length<=15:=by rw[<-o];exact AA es[k]
   have Hq:((es.take k).flatMap dv).length<=60:=by
    have:=zI (es.take k);rw[P7]at this;omega
   have K8:=I R;have K7:=I o;have Kb:=I Z;clear R o hc Z;generalize es[k].t=et at *;generalize es[k].k=ek at *;generalize es[k].v=ev at *;generalize(es.take k).flatMap dv=pre at *;obtain⟨y,x,rfl,_,_,_⟩:=ia l (hn:=by omega);go_wp2_with fail
   have X:Is (wr.alloc (N #[B F et,B F ek,B F ev] 3)).drew (C (D ⟨wr.heap.size,0,E⟩) 3 3) [et,ek,ev]:=xW (be wr.drew [B F et,B F ek,B F ev] 3 3 (hm:=rfl) (hl:=by simp[maxLen]) (xN _));have HC:=I (qq _ _ _ X Kb.out (by simp));clear X;go_region_held3 (λw'=>w'.cell? ⟨b,L+k*3,E⟩=D (B F et)/\w'.cell? ⟨b,L+k*3+1,E⟩=D (B F ek)/\w'.cell? ⟨b,L+k*3+2,E⟩=D (B F ev)) (first|go_keep | (refine⟨?_,?_,?_⟩<;>assumption))
    (first|(go_at_call 121;refine HC.out.mono ?_;rintro e w2⟨v2,rfl,S,Kc⟩;rw[K7.out]at S;have j:Ext wr w2:=xT (xD (xA (xR wr) _)) Kc;have g0:=Ext.cell j Y;have g1:=Ext.cell j Ke;have g2:=Ext.cell j Kf;obtain⟨A2,c2,rfl,_,_⟩:=xO (xW S)))
   have p:=ai l j;go_wp2_with (at_builtin;refine dT _ rfl (.tmp 55) (.tmp 56) 33 rfl w.heap.size 5 i0 (B K 0) 1 1 underlying33 hi K3 K4 K5 rfl (by decide) (C (D ⟨y,0,E⟩) (1+pre.length) x) (1+pre.length) _ rfl p (C A2 bs.length c2) bs.length (bs.map bv) rfl (xW S) (de _) (by unfold maxLen;omega) (by omega) (xT n j).size ?_;intro v' q H8 M)
   go_roundw
   case rel=>
    refine⟨k+1,by omega,by go_num,?_,Ext.grownOwn (xT n j) p M⟩;rw[K8.out];simpa[Pp]using H8
   case measure=>simp[intOf];omega
  ·have Hg:es.take k=es:=P1 (by omega);rw[Hg]at l;obtain⟨body,H3⟩:∃body,bp es=body:=⟨_,rfl⟩;have Q:body.length=1+(es.flatMap dv).length:=by rw[<-H3];unfold bp;simp;omega
   have HI:body.length<=61:=by have:=zI es;omega
   have HH:0<body.length:=by omega
   have U:(B K (es.length:Int):Value)::(es.flatMap dv).map bv=body.map bv:=by
    rw[<-H3];unfold bp;rw[List.map_cons];congr 1
    simp[bv];omega
   rw[U,<-Q]at l;have Hc:=I H3;clear Hg U H3 Q;obtain⟨y,x,rfl,_,_,_⟩:=ia l (hn:=HH);go_wp2_with (first
    | (go_at_call 218
       have o:Bs wr (C (D ⟨y,0,E⟩) body.length x) body:=xW l;have hp:Parts (wr.alloc (N #[C (D ⟨y,0,E⟩) body.length x] 33)) (C (D ⟨wr.heap.size,0,E⟩) 1 1) [body]:=lU o;refine(pS z J _ _ _ hp).mono ?_;rintro e w2⟨vz,rfl,s,rfl⟩;rw[show[body].flatten=body from by simp]at s;have K6:=I s;have K1:=s.pt;obtain⟨a1,b1,rfl,_,_⟩:=s;obtain⟨a,d,f,g,hf⟩:∃a d f g:UInt8,aW (aD (ptV (.complex .f64 z J)) body)=[a,d,f,g]:=⟨_,_,_,_,rfl⟩;have HF:Hid (∀W,Calls G 249 #[.complex .f64 a1 b1] W λe w'=>e=.returned (.agg #[B K a.toNat,B K d.toNat,B K f.toNat,B K g.toNat])/\Ext W w'):=by
        intro W;refine(tw a1 b1 W).mono ?_;rintro e w' ⟨rfl,n⟩;exact⟨by rw[K1,hf];rfl,n⟩
       have Hf:=I hf;clear hf K1)
    |(go_at_call 249;refine(HF.out _).mono ?_;rintro e q⟨rfl,j⟩)
    | (at_builtin
       have P:Ext wr ((q.alloc (N #[B K a.toNat,B K d.toNat,B K f.toNat,B K g.toNat] 188)).alloc (N #[B K a.toNat,B K d.toNat,B K f.toNat,B K g.toNat] 5)):=xA (xA (xT (xA (xR _) _) j) _) _;have p:=ai l P;have h4:SlR ((q.alloc (N #[B K a.toNat,B K d.toNat,B K f.toNat,B K g.toNat] 188)).alloc (N #[B K a.toNat,B K d.toNat,B K f.toNat,B K g.toNat] 5)) 1 (C (D ⟨q.heap.size+1,0,E⟩) 4 4) 4 ([a,d,f,g].map bv):=by
        have h:=be (q.alloc (N #[B K a.toNat,B K d.toNat,B K f.toNat,B K g.toNat] 188)) ([a,d,f,g].map bv) 5 4 (hm:=rfl) (hl:=by simp[maxLen]) (xN _);rw[xS]at h;exact xW h
       refine dT _ rfl (.tmp 64) (.tmp 73) 33 rfl w.heap.size 5 i0 (B K 0) 1 1 underlying33 hi K3 K4 K5 rfl (by decide) _ body.length _ rfl p _ 4 _ rfl h4 (de _) (by unfold maxLen;omega) (by omega) (xT n P).size ?_;intro v' w4 H8 M))
   go_ret3;refine⟨v',.complex .f64 a1 b1,rfl,?_,?_,Ext.grownOwn (xT n P) p M⟩
   ·rw[Hc.out];exact K6.out
   ·unfold dI;rw[Hc.out,Hf.out];simpa using H8
def qV:Value->Nat
 |C _ n _=>n
 |_=>0
def Ov(bs:List UInt8)(w:World)(e:Ending)(w':World):Prop:=∃a,e=.returned a/\PtV a (aD (0,0) bs)/\w=w'
theorem Dh(b:Value)(a:List (List UInt8))(w:World)(h:Parts w b a):Calls G 218 #[.complex .f64 0 0,b] w (Ov a.flatten w):=by
 have c:=PtV.zero.pt;have:=pS 0 0 b a w h;unfold sy at this;rw[c]at this;exact this
def dJ(n:Nat)(hs:List UInt8):Nat:=hs.foldl (λa x=>a*128+x.toNat % 128) n
theorem zE(n:Nat)(hs:List UInt8)(x:UInt8):dJ n (hs++[x])=dJ n hs*128+x.toNat % 128:=by unfold dJ;rw[List.foldl_append];rfl
theorem zD(n:Nat)(hs:List UInt8)(x:UInt8):dJ n (x::hs)=dJ (n*128+x.toNat % 128) hs:=rfl
theorem ML(f n:Nat)(l:List UInt8)(m:Nat)(r:List UInt8)(h:cI f n l=(0,m,r)):
  ∃hs b,l=hs++b::r/\O hs+1<=f/\(∀x∈hs,128<=x.toNat)/\b.toNat<128/\m=dJ n hs*128+b.toNat/\m<=1073741824:=by
 induction f generalizing n l with
 |zero=>simp[cI]at h
 |succ f ih=>
  cases l with
  |nil=>simp[cI]at h
  |cons b l=>
   rw[cI]at h;by_cases hb:128<=b.toNat
   ·rw[if_pos hb]at h;obtain⟨hs,c,rfl,h1,h2,h3,h4,h5⟩:=ih _ _ h;refine⟨b::hs,c,rfl,by simp;omega,?_,h3,h4,h5⟩;intro x hx;rcases List.mem_cons.1 hx with rfl | hx
    ·exact hb
    exact h2 x hx
   ·rw[if_neg hb]at h;split at h
    ·rename_i hm;simp only[Pm,true_and]at h;obtain⟨rfl,rfl⟩:=h;exact⟨[],b,rfl,by simp,by simp,by omega,by show _=n*128+_;omega,hm⟩
    ·simp at h
theorem Lc(f n:Nat)(hs:List UInt8)(b:UInt8)(r:List UInt8)(h1:O hs+1<=f)(h2:∀x∈hs,128<=x.toNat)(h3:b.toNat<128):
  cI f n (hs++b::r)=if dJ n hs*128+b.toNat<=1073741824 then(0,dJ n hs*128+b.toNat,r)else(11,0,[]):=by
 induction hs generalizing f n with
 |nil=>
  obtain⟨f,rfl⟩:∃g,f=g+1:=⟨f-1,by simp at h1;omega⟩;rw[xI,cI,if_neg (by omega),show b.toNat % 128=b.toNat from by omega];rfl
 |cons x hs ih=>
  obtain⟨f,rfl⟩:∃g,f=g+1:=⟨f-1,by simp at h1;omega⟩;rw[P8,cI,if_pos (h2 x (by simp)),ih f _ (by simp at h1;omega) (λy a=>h2 y (by simp[a]))];rfl
theorem lO{f:Nat}(hm:m≠0):hiB (f+1) m=hiB f (m / 128)++[Pj (m % 128+128)]:=by rw[hiB,if_neg hm]
theorem sa(m:Nat):(Pj (m % 128+128)).toNat=m % 128+128:=by
 rw[Pk];omega
theorem OS(f v:Nat):∀x∈hiB f v,128<=x.toNat:=by
 induction f generalizing v with
 |zero=>simp[hiB]
 |succ f ih=>
  by_cases a:v=0
  ·subst a;rw[lL];simp
  ·rw[lO a];intro x hx;rcases Pg.1 hx with hx | hx
   ·exact ih _ x hx
   ·have:x=Pj (v % 128+128):=by simpa using hx
    subst this;rw[sa];omega
theorem OU(f v:Nat)(h:v<128^f):dJ 0 (hiB f v)=v:=by
 induction f generalizing v with
 |zero=>
  have:v=0:=by simpa using h
  subst this;rfl
 |succ f ih=>
  by_cases a:v=0
  ·subst a;rw[lL];rfl
  ·rw[lO a,zE,ih _ (by rw[Pq]at h;omega),sa];omega
theorem OT(f k v:Nat)(h:v<128^k):O (hiB f v)<=k:=by
 induction f generalizing v k with
 |zero=>simp[hiB]
 |succ f ih=>
  by_cases a:v=0
  ·subst a;rw[lL];simp
  ·rw[lO a,xL];cases k with
   |zero=>simp at h;omega
   |succ k=>
    have:=ih k (v / 128) (by rw[Pq]at h;omega);simp;omega
theorem NH(f v:Nat)(h:v<128^f):(hiB f v).head?≠some 128:=by
 induction f generalizing v with
 |zero=>simp[hiB]
 |succ f ih=>
  by_cases a:v=0
  ·subst a;rw[lL];simp
  ·rw[lO a];by_cases h1:v / 128=0
   ·rw[h1,lL];intro e;have e2:Pj (v % 128+128)=128:=by simpa using e
    have e3:=congrArg UInt8.toNat e2;rw[sa]at e3;have:(128:UInt8).toNat=128:=rfl;omega
   ·have c:hiB f (v / 128)≠[]:=by
     cases f with
     |zero=>simp at h;omega
     |succ f=>rw[lO h1];simp
    have b:=ih (v / 128) (by rw[Pq]at h;omega);cases a:hiB f (v / 128)with
    |nil=>exact absurd a c
    |cons y ys=>rw[a]at b;simpa using b
theorem Oj(n:Nat)(hs:List UInt8):n<=dJ n hs:=by
 induction hs generalizing n with
 |nil=>exact xN _
 |cons x hs ih=>rw[zD];exact Pr (by omega) (ih _)
theorem Nv{hs:List UInt8}(a:hs≠[])(h1:∀x∈hs,128<=x.toNat)(h2:hs.head?≠some 128):dJ 0 hs≠0:=by
 cases hs with
 |nil=>exact absurd rfl a
 |cons x hs=>
  rw[zD];have hx:x.toNat≠128:=λe=>h2 (by simp;apply UInt8.toNat_inj.1;simpa using e);have h:=h1 x (by simp);have hl:=x.toNat_lt;have:=Oj (0*128+x.toNat % 128) hs;omega
theorem PD(f:Nat)(hs:List UInt8)(hl:O hs<=f)(h1:∀x∈hs,128<=x.toNat)(h2:hs.head?≠some 128):hiB f (dJ 0 hs)=hs:=by
 induction f generalizing hs with
 |zero=>
  have:hs=[]:=P0 (by omega);subst this;rfl
 |succ f ih=>
  by_cases b:hs=[]
  ·subst b;rfl
  ·have c:=Nv b h1 h2;obtain⟨a,y,rfl⟩:∃a y,hs=a++[y]:=⟨hs.dropLast,hs.getLast b,(List.dropLast_concat_getLast b).symm⟩;rw[lO c,zE];have b:=h1 y (by simp);have b:=y.toNat_lt;have e1:(dJ 0 a*128+y.toNat % 128) / 128=dJ 0 a:=by omega
   have e2:(dJ 0 a*128+y.toNat % 128) % 128+128=y.toNat:=by omega
   rw[e1,e2,ih a (by simp at hl;omega) (λx hx=>h1 x (by simp[hx])) ?_,Pl];cases a with
   |nil=>simp
   |cons z a=>simpa using h2
theorem EG(n:Nat)(hn:n<=1073741824):∃hs b,cO n=hs++[b]/\O hs<=4/\(∀x∈hs,128<=x.toNat)/\b.toNat<128/\hs.head?≠some 128/\n=dJ 0 hs*128+b.toNat:=by
 have hb:(Pj (n % 128)).toNat=n % 128:=by rw[Pk];omega
 have h5:n / 128<128^5:=by have:(128:Nat)^5=34359738368:=by decide
                           omega
 have h4:n / 128<128^4:=by have:(128:Nat)^4=268435456:=by decide
                           omega
 exact⟨hiB 5 (n / 128),Pj (n % 128),q9 n hn,OT 5 4 _ h4,OS _ _,by omega,NH _ _ h5,by rw[OU _ _ h5,hb];omega⟩
theorem zw(n:Nat)(hn:n<=1073741824)(r:List UInt8):aJ (cO n++r)=(0,n,r):=by
 obtain⟨hs,b,a,h1,h2,h3,h4,h5⟩:=EG n hn;rw[a,P2];unfold aJ;have c:(hs++([b]++r)).head?≠some 128:=by
  cases hs with
  |nil=>
   intro e;have:b=128:=by simpa using e
   subst this;exact absurd h3 (by decide)
  |cons x hs=>simpa using h4
 rw[if_neg c];rw[show hs++([b]++r)=hs++b::r from rfl,Lc 5 0 hs b r (by omega) h2 h3,<-h5,if_pos hn]
theorem AZ{l:List UInt8}(h:aJ l=(0,m,r)):l=cO m++r/\m<=1073741824:=by
 unfold aJ at h;split at h
 ·simp at h
 ·rename_i c;obtain⟨hs,b,rfl,h1,h2,h3,h4,h5⟩:=ML _ _ _ _ _ h;have a:hs.head?≠some 128:=by
   cases hs with
   |nil=>simp
   |cons x hs=>simpa using c
  refine⟨?_,h5⟩;have hd:m / 128=dJ 0 hs:=by omega
  have hm:m % 128=b.toNat:=by omega
  rw[q9 m h5,hd,hm,PD 5 hs (by omega) h2 a,Pl,P2];rfl
theorem qw(l:List Int)(hl:aG l=true)(a:List Int)(r:List UInt8):ao l.length a (aF l++r)=(0,a++l,r):=by
 induction l generalizing a with
 |nil=>simp[ao,aF]
 |cons n l ih=>
  have hn:aB n=true/\aG l=true:=by simpa[aG]using hl
  obtain⟨hn,a⟩:=hn;have b:=numB_true.1 hn;have e:aJ (aF (n::l)++r)=(0,n.toNat,aF l++r):=by
   rw[show aF (n::l)++r=cO n.toNat++(aF l++r)from by simp[aF]];exact zw _ (by omega) _
  rw[xC,ao,e];simp only[if_true];rw[ih a,show((n.toNat:Nat):Int)=n from by omega,P2];rfl
theorem mQ(k:Nat)(a:List Int)(bs:List UInt8)(l:List Int)(r:List UInt8)(h:ao k a bs=(0,l,r)):
  ∃b,l=a++b/\O b=k/\aG b=true/\bs=aF b++r:=by
 induction k generalizing a bs with
 |zero=>
  simp only[ao,Pm,true_and]at h;obtain⟨rfl,rfl⟩:=h;exact⟨[],by simp,rfl,rfl,rfl⟩
 |succ k ih=>
  rw[ao]at h;rcases c:aJ bs with⟨e,m,a⟩
  rw[c]at h;dsimp only at h;by_cases he:e=0
  ·subst he;rw[if_pos rfl]at h;obtain⟨h1,h2⟩:=AZ c;obtain⟨b,rfl,h3,h4,h5⟩:=ih _ _ h;refine⟨(m:Int)::b,by simp,by simp[h3],?_,?_⟩
   ·simp only[aG,List.all_cons,Bool.and_eq_true]at h4⊢;exact⟨numB_true.2 ⟨by omega,by omega⟩,h4⟩
   rw[h1,h5];simp[aF]
  ·rw[if_neg he]at h;simp at h;exact absurd h.1 he
def bd(es:List Ent):List Int:=es.flatMap λe=>[e.t,e.k,e.v]
def dx:List Int->List Ent
 |t::k::v::l=>⟨t,k,v⟩::dx l
 |_=>[]
theorem MP(es:List Ent):dx (bd es)=es:=by
 induction es with
 |nil=>rfl
 |cons e es ih=>rw[show bd (e::es)=e.t::e.k::e.v::bd es from rfl,dx,ih]
theorem lr(es:List Ent):O (bd es)=3*O es:=by
 induction es with
 |nil=>rfl
 |cons e es ih=>rw[show bd (e::es)=e.t::e.k::e.v::bd es from rfl];simp[ih];omega
theorem qG(k:Nat)(l:List Int)(h:O l=3*k):bd (dx l)=l/\O (dx l)=k:=by
 induction k generalizing l with
 |zero=>
  have:l=[]:=P0 (by omega);subst this;exact⟨rfl,rfl⟩
 |succ k ih=>
  match l,h with
  |t::k'::v::l,h=>
   obtain⟨h1,h2⟩:=ih l (by simp at h;omega);rw[dx];exact⟨by rw[show bd (⟨t,k',v⟩::dx l)=t::k'::v::bd (dx l)from rfl,h1],by simp[h2]⟩
theorem zn(a b:List Int):aF (a++b)=aF a++aF b:=by simp[aF]
theorem tT(es:List Ent):aF (bd es)=es.flatMap dv:=by
 induction es with
 |nil=>rfl
 |cons e es ih=>rw[show bd (e::es)=[e.t,e.k,e.v]++bd es from rfl,zn,ih];rfl
theorem D6(h:bQ es=true):aG (bd es)=true:=by
 induction es with
 |nil=>rfl
 |cons e es ih=>
  have he:e.ok=true/\bQ es=true:=by simpa[bQ]using h
  have h1:=BJ he.1;have h2:=ih he.2;simp only[aG,List.all_eq_true]at h1 h2⊢;intro x hx;rcases Pg.1 (show x∈[e.t,e.k,e.v]++bd es from hx)with hx | hx
  ·exact h1 x hx
  ·exact h2 x hx
def dO:List UInt8->Option (List Ent×List UInt8)
 |[]=>none
 |c::r=>if c.toNat=0\/4<c.toNat then none else if(ao (3*c.toNat) [] r).1=0/\bQ (dx (ao (3*c.toNat) [] r).2.1)=true then some (dx (ao (3*c.toNat) [] r).2.1,(ao (3*c.toNat) [] r).2.2)else none
theorem lw(es:List Ent):fh es=true↔(0<O es/\O es<=4)/\bQ es=true:=by simp[fh]
theorem Il(h:fh es=true)(r:List UInt8):dO (bp es++r)=D (es,r):=by
 obtain⟨⟨h1,h2⟩,h3⟩:=(lw es).1 h;have hc:(Pj (O es)).toNat=O es:=by rw[Pk];omega
 have a:=qw (bd es) (D6 h3) [] r;rw[lr,tT,xI]at a;rw[show bp es++r=Pj (O es)::(es.flatMap dv++r)from rfl,dO,hc,if_neg (by omega),a];dsimp only;rw[MP,if_pos ⟨rfl,h3⟩]
theorem rj(h:dO bs=D (es,r)):fh es=true/\bs=bp es++r:=by
 cases bs with
 |nil=>simp[dO]at h
 |cons c l=>
  rw[dO]at h;split at h
  ·simp at h
  ·rename_i hc;rcases b:ao (3*c.toNat) [] l with⟨e,d,j⟩
   rw[b]at h;dsimp only at h;split at h
   ·rename_i he;obtain⟨rfl,h3⟩:=he;obtain⟨i,a,h4,h5,f⟩:=mQ _ _ _ _ _ b;rw[xI]at a;subst a;simp only[Po,Pm]at h;obtain⟨rfl,rfl⟩:=h;obtain⟨g,h8⟩:=qG c.toNat d h4;refine⟨(lw _).2 ⟨by omega,h3⟩,?_⟩;rw[f];conv=>lhs;rw[<-g]
    rw[tT];show _=Pj (O (dx d))::_;rw[h8,Pl];rfl
   ·simp at h
def bX(p:Nat×Nat)(bs:List UInt8):Option (List Ent×List UInt8):=
 match dO bs with
 |none=>none
 |some x=>if 4<=O x.2/\x.2.take 4=aW (aD p (bp x.1))then some (x.1,x.2.drop 4)else none
theorem iM(p:Nat×Nat):O (aW p)=4:=rfl
theorem zR(p:Nat×Nat)(bs:List UInt8)(es:List Ent)(r:List UInt8):bX p bs=D (es,r)↔fh es=true/\bs=dI p es++r:=by
 constructor
 ·intro h;unfold bX at h;split at h
  ·simp at h
  rename_i x hx;split at h
  ·rename_i h4;simp only[Po,Pm]at h;obtain⟨rfl,rfl⟩:=h;obtain⟨h5,a⟩:=rj (es:=x.1) (r:=x.2) hx;refine⟨h5,?_⟩;rw[a];unfold dI;rw[<-h4.2,P2,P5]
  simp at h
 ·rintro⟨h1,rfl⟩;have h2:=Il h1 (aW (aD p (bp es))++r);unfold bX;rw[show dI p es++r=bp es++(aW (aD p (bp es))++r)from by unfold dI;rw[P2],h2];dsimp only;have hl:=iM (aD p (bp es));rw[if_pos ⟨by simp[hl],List.take_left' hl⟩,List.drop_left' hl]
theorem My(p:Nat×Nat)(es:List Ent):5<=O (dI p es):=by unfold dI bp;rw[xL,iM,xC];omega
theorem Lz{p:Nat×Nat}(h:bX p bs=D (es,r)):O r<O bs:=by
 rw[((zR p bs es r).1 h).2,xL];have:=My p es;omega
def bZ(p:Nat×Nat)(bs:List UInt8):List Ent×(Nat×Nat)×List UInt8:=
 match h:bX p bs with
 |none=>([],p,bs)
 |some (es,r)=>(es++(bZ (aD p (bp es)) r).1,(bZ (aD p (bp es)) r).2)
termination_by (O bs)
decreasing_by all_goals exact Lz h
theorem zi{p:Nat×Nat}(h:bX p bs=none):bZ p bs=([],p,bs):=by
 rw[bZ];split
 ·rfl
 ·rename_i a;rw[h]at a;cases a
theorem zj{p:Nat×Nat}(h:bX p bs=D (es,r)):
  bZ p bs=(es++(bZ (aD p (bp es)) r).1,(bZ (aD p (bp es)) r).2):=by
 rw[bZ];split
 ·rename_i a;rw[h]at a;cases a
 ·rename_i a;rw[h]at a;cases a;rfl
def cV:List UInt8->Option (Nat×List UInt8)
 |[]=>none
 |c::r=>if c=2/\(aJ r).1=0/\(aJ r).2.1≠0 then some (aJ r).2 else none
theorem zM(bs:List UInt8)(first:Nat)(r:List UInt8):cV bs=D (first,r)↔(cK (first:Int)).1=0/\bs=(cK (first:Int)).2++r:=by
 have a:aF [(first:Int)]=cO first:=by simp[aF]
 constructor
 ·intro h;cases bs with
  |nil=>simp[cV]at h
  |cons c l=>
   rw[cV]at h;split at h
   ·rename_i hc;obtain⟨rfl,h1,h2⟩:=hc;rcases b:aJ l with⟨e,m,d⟩
    rw[b]at h h1 h2;dsimp only at h h1 h2;subst h1;simp only[Po,Pm]at h;obtain⟨rfl,rfl⟩:=h;obtain⟨h3,h4⟩:=AZ b;unfold cK;rw[if_pos ⟨numB_true.2 ⟨by omega,by omega⟩,by omega⟩,a];exact⟨rfl,by rw[h3];rfl⟩
   simp at h
 ·rintro⟨h1,h2⟩;unfold cK at h1 h2;split at h1
  ·rename_i hc;rw[if_pos hc,a]at h2;have hn:=numB_true.1 hc.1;subst h2;rw[show(2::cO first)++r=2::(cO first++r)from rfl,cV,zw first (by omega)];dsimp only;rw[if_pos ⟨rfl,rfl,by omega⟩]
  ·simp at h1
theorem zN{first:Nat}(h:cV bs=D (first,r)):O r<=O bs/\bs.take (O bs-O r)=(cK (first:Int)).2:=by
 obtain⟨_,h2⟩:=(zM _ _ _).1 h;rw[h2];exact⟨by simp,by rw[xL,Nat.add_sub_cancel,List.take_left]⟩
structure zgM where
 err:Int
 first:Nat
 log:List Ent
 used:Nat
 pt:Nat×Nat
def cz(bs:List UInt8):zgM:=
 match cV bs with
 |none=>⟨11,0,[],0,(0,0)⟩
 |some x=>⟨0,x.1,(bZ (aD (0,0) (cK (x.1:Int)).2) x.2).1,O bs-O (bZ (aD (0,0) (cK (x.1:Int)).2) x.2).2.2,(bZ (aD (0,0) (cK (x.1:Int)).2) x.2).2.1⟩
open Go.RowKit Go.Mv Go.Shelf
attribute [local go_sem] Pn
theorem Dx(es:List Ent)(i:Nat)(h:i<O es):(bd es).drop (i*3)=es[i].t::es[i].k::es[i].v::(bd es).drop (i*3+3):=by
 induction es generalizing i with
 |nil=>simp at h
 |cons e es ih=>
  rw[show bd (e::es)=e.t::e.k::e.v::bd es from rfl];cases i with
  |zero=>rfl
  |succ i=>
   have:=ih i (by simpa using h);rw[show(i+1)*3=i*3+1+1+1 from by omega];simpa using this
theorem Lp{b a n c:Nat}(h:Is wo (C (D ⟨b,a,E⟩) n c) (bd es))(i:Nat)(d:i<O es):
  Is wo (C (D ⟨b,a+i*3,E⟩) 3 3) [es[i].t,es[i].k,es[i].v]:=by
 have hl:=lr es;obtain⟨f,A,c',e,h1,h2,h3⟩:=h;cases e;obtain⟨f,f,e',hc⟩:=h3 (by omega);cases e';refine⟨by simp,_,3,rfl,xN _,by simp[maxLen],λ_=>⟨b,a+i*3,rfl,λj u a=>?_⟩⟩;have hd:=Dx es i d;have d:j<3:=by
  have:=(P4.1 a).1;simpa using this
 rw[Pp];refine hc (i*3+j) u ?_;rw[<-a,<-Pb,<-List.map_drop,hd];match j,d with
 |0,_=>rfl
 |1,_=>rfl
 |2,_=>rfl
theorem FM(wo h:World)(v:Value)(es:List Ent)(Hl:Is wo v (bd es))(HP:es.length<=2000000)(bs f:Nat)(Y:Boxed h bs 64 v)(Z:Boxed h f 3 (B F 3)):
  Seq G 149 #[L (D ⟨bs,0,E⟩),L (D ⟨f,0,E⟩)]
   (λ(e:Ent) av _=>∃b d,av = #[C (D ⟨b,d,E⟩) 3 3]/\Is wo (C (D ⟨b,d,E⟩) 3 3) [e.t,e.k,e.v]) (λk o=>(k=bs/\o.ty=D 64)\/(k=f/\o.ty=D 3)) (λ_ _=>False) es h:=by
 intro l J Jx hJ Kd T h0;have S:=lr es;obtain⟨A,c,rfl,h1,h2⟩:=xO Hl;rw[S]at *;refine(callsIn_wd (ro:=none) (n:=9)).1 ?_;refine callsIn_of_wp func149 rfl trivial ?_ rfl;simp only[ntmps149,Pc,xC,Ph,Pu,Ps,Q0,Pz,Pd,Pa,xI,P8];have Hz:=I Hl;clear S Hl;gi_wp2;gi_loopw [4] (λj W=>∃(i:Nat),j=B F (i*3:Nat)/\i<=es.length/\Hid (J (es.take i) W)/\Boxed W bs 64 (C A (3*es.length) c)/\Boxed W f 3 (B F 3)/\h.heap.size<=W.heap.size) (λj _=>3*es.length+4-(intOf j).toNat)
 case atStart=>exact⟨0,rfl,Pw _,h0,Y,Z,xN _⟩
 case round=>
  obtain⟨i,rfl,hk,x,b1,b2,N⟩:=hrel;have O:=b1.cell;have P:=b2.cell;by_cases q:i<es.length
  ·have H1:=Hz.out;obtain⟨hx,b,d,rfl,hc⟩:=Is.at_ H1 (by rw[lr];omega);clear hc hx;have U:=Lp H1 i q;have M:=I U;have Kj:(i*3:Nat)<3*es.length:=by omega
   have Ki:(i*3:Nat)+3<=3*es.length:=by omega
   have y:es.take (i+1)=es.take i++[es[i]]:=P6 q;have H:=I y;have z:es=es.take i++es[i]::es.drop (i+1):=by rw[<-P9 q,P5]
   have X:=I z;clear U y z H1;have s:((i*3:Nat):Int)=(i:Int)*3:=by omega
   obtain⟨k,a⟩:∃k,i*3=k:=⟨_,rfl⟩;have Ka:=I a;rw[a]at Kj Ki M;simp only[a];clear s a;gi_wp2;gi_region
   have K:(if((3*es.length-k:Nat):Int)<3 then((3*es.length-k:Nat):Int)else 3)=3:=by split<;>omega
   try rw[K]
   clear K;have V:=T (es.take i) es[i] (es.drop (i+1)) X.out wr.drew #[C (D ⟨b,d+k,E⟩) 3 3] (hJ _ _ _ x.out (Moves.refl.drew)) N ⟨b,d+k,rfl,M.out⟩;have Hy:=I V;have Hs:Boxed wr.drew bs 64 (C (D ⟨b,d,E⟩) (3*es.length) c):=b1;have Ht:Boxed wr.drew f 3 (B F 3):=b2;clear V T;gi_wp2;refine ew Hy.out ?_;rintro e W' ⟨g,⟨rfl,p⟩|⟨rfl,p⟩⟩
   ·refine⟨true,rfl,?_⟩;have d1:Boxed W' bs 64 (C (D ⟨b,d,E⟩) (3*es.length) c):=g.boxed Hs (.inl (.inl ⟨rfl,rfl⟩));have Q:Boxed W' f 3 (B F 3):=g.boxed Ht (.inl (.inr ⟨rfl,rfl⟩));have e2:=Q.cell;have HT:h.heap.size<=W'.heap.size:=Pr N g.size;have w:=I p;clear p g O P;gi_wp2;refine⟨⟨i+1,?_,by omega,?_,d1,Q,HT⟩,by simp[intOf];omega⟩
    ·have:=Ka.out;rw[show(i+1)*3=k+3 from by omega];go_num
    show J _ _;rw[H.out];exact w.out
   refine⟨false,rfl,?_⟩;have w:=I p;clear p g O P;gi_wp2;refine bodyPost_ret (results_none rfl _ _ _) rfl ?_;refine⟨⟨_,rfl⟩,.inr ⟨es.take (i+1),?_,?_⟩⟩
   ·exact Pf _ _
   rw[H.out];exact w.out
  ·have R:es.take i=es:=P1 (by omega);have s:3*es.length<=i*3:=by omega
   have Kh:¬(((i*3:Nat):Int)<((3*es.length:Nat):Int)):=by omega
   obtain⟨k,a⟩:∃k,i*3=k:=⟨_,rfl⟩;have Hx:=I R;have Kp:k<=3*es.length:=by omega
   rw[a]at s;simp only[a];clear R Kh a;gi_wp2;refine bodyPost_end (results_none rfl _ _ _) rfl ?_;exact⟨⟨_,rfl⟩,.inl (by have:=x.out;rw[Hx.out]at this;exact this)⟩
theorem FZ(A:Option Addr)(n c:Nat)(w:World):Calls G 80 #[C A n c,B F 3] w λe w'=>
  e=.returned (.func (.func 149) #[] #[L (D ⟨w.heap.size,0,E⟩),L (D ⟨w.heap.size+1,0,E⟩)]) /\
  (w.alloc (N #[C A n c] 64)).alloc (N #[B F 3] 3)=w':=by
 go_enter func80,ntmps80
 go_wp2;go_ret;exact⟨rfl,rfl⟩
attribute [local go_sem] Pn pN
theorem Hold.moves{W W':World}{M:Nat->Obj->Prop}(h:Hold wo W)(hm:Moves M W W')(c:∀k o,k<wo.heap.size->o.isCells=true->¬M k o):Hold wo W':=by
 intro q u a;have b:=World.block_lt_of_cell? wo q a;exact hm.cell (h q u a) (λo _ hc=>c _ o b hc)
attribute [local go_sem] Pn
theorem FK(b:Value)(a:List (List UInt8))(w:World)(h:Parts w b a):Calls G 297 #[.complex .f64 0 0,b] w λe w'=>∃c,e=.returned c/\PtV c (aD (0,0) a.flatten)/\Ext w w':=by
 have c:=PtV.zero.pt;have:=qI 0 0 b a w h;unfold o6 at this;rw[c]at this;exact this
attribute [local go_sem] Pn
def bg(n:Nat)(bs:List UInt8):List (List UInt8):=
 if h:bs=[]\/n=0 then[]else bs.take n::bg n (bs.drop n)
termination_by (O bs)
decreasing_by
 have:0<O bs:=List.length_pos_iff.2 (λe=>h (.inl e));have:n≠0:=λe=>h (.inr e);simp;omega
theorem mw(n:Nat):bg n []=[]:=by rw[bg];simp
theorem mD(n:Nat)(bs:List UInt8)(hn:0<n)(h:0<O bs):bg n bs=bs.take n::bg n (bs.drop n):=by
 rw[bg,dif_neg];rintro(e | e)
 ·rw[e]at h;simp at h
 ·omega
theorem LK(n:Nat)(hn:0<n):∀(i:Nat) (bs:List UInt8),(i*n<O bs->(bg n bs)[i]?=D ((bs.drop (i*n)).take n))/\(O bs<=i*n->O (bg n bs)<=i):=by
 intro i;induction i with
 |zero=>
  intro bs;refine⟨λh=>?_,λh=>?_⟩
  ·rw[mD n bs hn (by omega),Pv];rfl
  have:bs=[]:=P0 (by omega);rw[this,mw];exact xN _
 |succ i ih=>
  intro bs;have hm:(i+1)*n=n+i*n:=by rw[Py,Px,Nat.add_comm]
  rcases Nat.eq_zero_or_pos (O bs)with a | a
  ·have:bs=[]:=P0 a;subst this;exact⟨λh=>by simp at h,λ_=>by rw[mw];simp⟩
  ·obtain⟨h1,h2⟩:=ih (bs.drop n);rw[P3]at h1 h2;rw[mD n bs hn a,hm];refine⟨λh=>?_,λh=>?_⟩
   ·rw[List.getElem?_cons_succ,h1 (by omega),List.drop_drop]
   ·have:=h2 (by omega);rw[xC];omega
theorem f8{b a c:Nat}(h:Bs wo (C (D ⟨b,a,E⟩) m c) bs)(k n:Nat)(d:k+n<=O bs):Bs wo (C (D ⟨b,a+k,E⟩) n n) ((bs.drop k).take n):=by
 obtain⟨d,A,c',e,h1,h2,h3⟩:=h;cases e;unfold Bs;have hl:O ((bs.drop k).take n)=n:=by rw[P7,P3];omega
 rw[hl];refine⟨by rw[Pi,hl];omega,_,n,rfl,xN _,by omega,λhn=>?_⟩;obtain⟨d,d,e',hc⟩:=h3 (by omega);cases e';refine⟨b,a+k,rfl,λj u a=>?_⟩;rw[Pp];refine hc (k+j) u ?_;rw[<-a,Pe,Pe,List.getElem?_take,Pb];have d:j<n:=by
  have:=(P4.1 a).1;rw[Pi,hl]at this;exact this
 rw[if_pos d]
theorem tp(n:Nat)(Kn:0<n)(Kz:n<=8)(wo q:World)(v:Value)(bs:List UInt8)(K:Bs wo v bs)(HP:bs.length<=2000000)(f d:Nat)(HB:Boxed q f 33 v)(HD:Boxed q d 3 (B F n)):
  Seq G 236 #[L (D ⟨f,0,E⟩),L (D ⟨d,0,E⟩)]
   (λ(p:List UInt8) av _=>∃b a,av = #[C (D ⟨b,a,E⟩) p.length p.length]/\Bs wo (C (D ⟨b,a,E⟩) p.length p.length) p/\0<p.length/\p.length<=n) (λk o=>(k=f/\o.ty=D 33)\/(k=d/\o.ty=D 3)) (λ_ _=>False) (bg n bs) q:=by
 intro l J Jx hJ Kd hY h0;obtain⟨A,c,rfl,h1,h2⟩:=xO K;refine(callsIn_wd (ro:=none) (n:=9)).1 ?_;refine callsIn_of_wp func236 rfl trivial ?_ rfl;simp only[ntmps236,Pc,xC,Ph,Pu,Ps,Q0,Pz,Pd,Pa,xI,P8];have Hz:=I K;clear K;gi_wp2;gi_loopw [4] (λj W=>∃(i k:Nat),j=B F k/\Hid (i*n=k)/\k<=bs.length+n/\Hid (J ((bg n bs).take i) W)/\Boxed W f 33 (C A bs.length c)/\Boxed W d 3 (B F n)/\q.heap.size<=W.heap.size) (λj _=>bs.length+16-(intOf j).toNat)
 case atStart=>exact⟨0,0,rfl,by show 0*n=0;rw[Pv],by omega,h0,HB,HD,xN _⟩
 case round=>
  obtain⟨i,k,rfl,Y,Kr,S,b1,b2,Hr⟩:=hrel;have y:=b1.cell;have z:=b2.cell;obtain⟨x,t⟩:=LK n Kn i bs;rw[Y.out]at x t;by_cases H7:k<bs.length
  ·have H1:=Hz.out;obtain⟨hx,b,a,rfl,hc⟩:=Bs.at_ H1 (by omega);clear hc hx;obtain⟨m,hm⟩:∃m,min n (bs.length-k)=m:=⟨_,rfl⟩;have Kw:m<=n:=by omega
   have Ku:0<m:=by omega
   have Km:k+m<=bs.length:=by omega
   obtain⟨p,H⟩:∃p,(bs.drop k).take n=p:=⟨_,rfl⟩;have w:p.length=m:=by rw[<-H,P7,P3,hm]
   have P:=f8 H1 k m Km;have K0:(bs.drop k).take m=p:=by
    rw[<-H];rcases Nat.le_total n (bs.length-k)with h | h
    ·rw[show m=n from by omega]
    rw[P1 (by rw[P3];omega),P1 (by rw[P3];omega)]
   rw[K0]at P;have Hp:=I P;have N:=x H7;rw[H]at N;obtain⟨O,M⟩:=P4.1 N;have U:(bg n bs).take (i+1)=(bg n bs).take i++[p]:=by rw[P6 O,M]
   have X:=I U;have V:bg n bs=(bg n bs).take i++p::(bg n bs).drop (i+1):=by rw[<-M,<-P9 O,P5]
   have HA:=I V;have T:(i+1)*n=k+n:=by have:=Y.out;rw[Py,Px,this]
   have K9:=I T;have Hm:=I hm;clear U V H1 x t N O M K0 P H T hm;gi_wp2;gi_region
   have Z:(if bs.length-k<n then((bs.length-k:Nat):Int)else(n:Int))=(m:Int):=by have:=Hm.out;split<;>omega
   rw[Z];clear Z;have R:=hY ((bg n bs).take i) p ((bg n bs).drop (i+1)) HA.out wr.drew #[C (D ⟨b,a+k,E⟩) p.length p.length] (hJ _ _ _ S.out (Moves.refl.drew)) Hr ⟨b,a+k,rfl,by rw[w];exact Hp.out,by omega,by omega⟩;rw[w]at R;have Hy:=I R;have Ko:=I w;have Hs:Boxed wr.drew f 33 (C (D ⟨b,a,E⟩) bs.length c):=b1;have Ht:Boxed wr.drew d 3 (B F n):=b2;have Ks:(k:Int)+(m:Int)<=(bs.length:Int):=by omega
   have Kv:(k:Int)+(m:Int)<=(c:Int):=by omega
   clear R hY w y z;have y:=Hs.cell;have z:=Ht.cell;gi_wp2;refine ew Hy.out ?_;rintro e W' ⟨g,⟨rfl,s⟩|⟨rfl,s⟩⟩
   ·refine⟨true,rfl,?_⟩;have d1:Boxed W' f 33 (C (D ⟨b,a,E⟩) bs.length c):=g.boxed Hs (.inl (.inl ⟨rfl,rfl⟩));have d2:Boxed W' d 3 (B F n):=g.boxed Ht (.inl (.inr ⟨rfl,rfl⟩));have e2:=d2.cell;have HT:q.heap.size<=W'.heap.size:=Pr Hr g.size;have Q:=I s;have Kt:(k:Int)+(n:Int)<=4000000:=by omega
    clear s g y z;gi_wp2;refine⟨⟨i+1,k+n,by go_num,K9.out,by omega,?_,d1,d2,HT⟩,by simp[intOf];omega⟩;show J _ _;rw[X.out];exact Q.out
   refine⟨false,rfl,?_⟩;have Q:=I s;clear s g y z;gi_wp2;refine bodyPost_ret (results_none rfl _ _ _) rfl ?_;refine⟨⟨_,rfl⟩,.inr ⟨(bg n bs).take (i+1),?_,?_⟩⟩
   ·exact Pf _ _
   rw[X.out];exact Q.out
  ·have hC:(bg n bs).take i=bg n bs:=P1 (t (by omega));have Hx:=I hC;have Kq:¬((k:Int)<(bs.length:Int)):=by omega
   clear hC x t;gi_wp2;refine bodyPost_end (results_none rfl _ _ _) rfl ?_;exact⟨⟨_,rfl⟩,.inl (by have:=S.out;rw[Hx.out]at this;exact this)⟩
theorem qg(A:Option Addr)(m c n:Nat)(hn:0<n)(w:World):Calls G 205 #[C A m c,B F n] w λe w'=>
  e=.returned (.func (.func 236) #[] #[L (D ⟨w.heap.size,0,E⟩),L (D ⟨w.heap.size+1,0,E⟩)]) /\
  (w.alloc (N #[C A m c] 33)).alloc (N #[B F n] 3)=w':=by
 have a:¬((n:Int)<1):=by omega
 go_enter func205,ntmps205
 go_wp2;go_ret;exact⟨rfl,rfl⟩
