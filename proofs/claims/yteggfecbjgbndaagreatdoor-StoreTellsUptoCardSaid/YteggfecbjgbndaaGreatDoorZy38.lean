/- Merged -/
import Derived.Test.YteggfecbjgbndaaGreatDoorZy19
import Derived.Test.YteggfecbjgbndaaGreatDoorZy25
set_option linter.all false
set_option maxHeartbeats 8000000
set_option maxRecDepth 100000
open Go.Proofs.Tryz
open List renaming length->N
open Go.Value renaming int->B,slice->C,pointer->L,bool->M
open Option renaming some->D,none->H
open Go.IntKind renaming u8->E,i64->F
open Go.Obj renaming cells->G
open Go.Mv renaming aN->I
open List renaming take_succ_eq_append_getElem->P0,map_cons->P1,map_nil->P2
namespace Go.Proofs.YteggfecbjgbndaaGreatDoor
open Go.RowKit Go.Mv
theorem oe:∀(k:Nat) (a:List Int) (bs:List UInt8),ao k a bs=if(ao k [] bs).1=0 then(0,a++(ao k [] bs).2.1,(ao k [] bs).2.2)else ao k [] bs
 |0,a,bs=>by simp[ao]
 | k+1,a,bs=>by
  rw[ao,ao];by_cases h:(aJ bs).1=0
  ·rw[if_pos h,if_pos h,oe k (a++_),oe k ([]++_)];by_cases h2:(ao k [] (aJ bs).2.2).1=0
   ·simp[h2]
   simp[h2]
  ·rw[if_neg h,if_neg h];simp[h]
theorem qv(b:Nat):∀(a:Nat) (acc:List Int) (bs:List UInt8),ao (a+b) acc bs=if(ao a acc bs).1=0 then ao b (ao a acc bs).2.1 (ao a acc bs).2.2 else ao a acc bs
 |0,acc,bs=>by simp[ao]
 | a+1,acc,bs=>by
  rw[show a+1+b=(a+b)+1 by omega,ao,ao];by_cases h:(aJ bs).1=0
  ·rw[if_pos h,if_pos h,qv b a]
  ·rw[if_neg h,if_neg h];simp[h]
def lh:List Int->List Sg4
 |a::b::c::d::l=>⟨a,b,c,d-1⟩::lh l
 |_=>[]
theorem tQ:∀(k:Nat) (f:List Sg4) (r:List UInt8),dW k f r=if(ao (4*k) [] r).1=0 then some (f++lh (ao (4*k) [] r).2.1)else none
 |0,f,r=>by simp[dW,ao,lh]
 | k+1,f,r=>by
  have f:=qv (4*k) 4 [] r;rw[show 4*(k+1)=4+4*k by omega,f];by_cases h:(ao 4 [] r).1=0
  ·rw[if_pos h];obtain⟨e,l,g,hl⟩:∃e l g,ao 4 [] r=(e,l,g):=⟨_,_,_,rfl⟩;rw[hl]at h;dsimp only at h;subst h;obtain⟨a,b,c,d,rfl⟩:=four (mP hl).1;rw[Ac hl,tQ k,hl];dsimp only;rw[oe (4*k) [a,b,c,d]];by_cases h2:(ao (4*k) [] g).1=0
   ·simp[h2,lh]
   simp[h2]
  ·rw[if_neg h,zk h,if_neg h]
theorem Ld{p:List UInt8}{a b c d e f:Int}{r:List UInt8}(g:1<=N p)(g:ao 6 [] (p.drop 1)=(0,[a,b,c,d,e,f],r))(h:f<=60):
  fe p=if(ao (6+4*f.toNat) [] (p.drop 1)).1=0 then some ⟨a,b,c,d,e,lh ((ao (6+4*f.toNat) [] (p.drop 1)).2.1.drop 6)⟩else none:=by
 unfold fe;rw[if_neg (by omega),g,Bj (show ¬60<[a,b,c,d,e,f].getD 5 0 by simpa using h),qv (4*f.toNat) 6,g];simp only[if_true];rw[oe (4*f.toNat) [a,b,c,d,e,f]];show(dW f.toNat [] r).map _=_;rw[tQ];by_cases h2:(ao (4*f.toNat) [] r).1=0
 ·simp[h2]
 ·simp[h2]
theorem ry{p:List UInt8}{e:Int}{l:List Int}{r:List UInt8}(a:ao 6 [] (p.drop 1)=(e,l,r))(h:e≠0\/60<l.getD 5 0):fe p=none:=by
 unfold fe;split
 ·rfl
 ·rw[a];by_cases he:e=0
  ·subst he;exact Bi (h.resolve_left (by simp))
  ·exact zW he
def eJ(m:Mf)(k:Nat)(u:Value):Prop:=u=B F 0\/u=B F m.sq\/∃s∈m.segs.take k,u=B F s.seq
theorem se{a b:Int}(h:B F a=B F b):a=b:=by injection h
theorem Nn(m:Mf)(k:Nat)(n:Int):eJ m k (B F n)↔n=0\/n=m.sq\/∃s∈m.segs.take k,s.seq=n:=by
 unfold eJ;constructor
 ·rintro(h | h | ⟨s,hs,h⟩)
  ·exact .inl (se h)
  ·exact .inr (.inl (se h))
  exact .inr (.inr ⟨s,hs,(se h).symm⟩)
 ·rintro(rfl | rfl | ⟨s,hs,rfl⟩)
  ·exact .inl rfl
  ·exact .inr (.inl rfl)
  ·exact .inr (.inr ⟨s,hs,rfl⟩)
theorem Dq{m:Mf}{i:Nat}(e:i<N m.segs):cD m i m.segs[i]=true ↔
  (cP m.next m.segs[i].seq m.segs[i].fmt=true/\¬eJ m i (B F m.segs[i].seq))/\(1<=m.segs[i].first/\m.segs[i].first<=1073741820) /\
  ((m.segs[i].count = -1/\i+1=N m.segs)\/(1<=m.segs[i].count/\m.segs[i].count<=4))/\(i=0\/∃p,m.segs[i-1]?=D p/\m.segs[i].first=p.first+p.count):=by
 rw[Nn];unfold cD inB;have a:∃p,m.segs[i-1]?=D p:=⟨_,List.getElem?_eq_getElem (show i-1<N m.segs by omega)⟩;obtain⟨p,a⟩:=a;rw[a];generalize m.segs[i]=s at *;simp only[Bool.and_eq_true,decide_eq_true_eq,List.all_eq_true,Bool.or_eq_true];constructor
 ·rintro⟨⟨⟨⟨⟨h1,h2⟩,h3⟩,h4⟩,h5⟩,d⟩;refine⟨⟨h1,?_⟩,h3,?_,?_⟩
  ·rintro(h | h | ⟨t,b,h⟩)
   ·have:=(mZ h1).1;omega
   ·exact h2 h
   exact h4 t b h
  ·rcases d with h | h
   ·exact .inr h
   exact .inl h
  rcases h5 with h | h
  ·exact .inl h
  exact .inr ⟨p,rfl,h⟩
 ·rintro⟨⟨h1,h2⟩,h3,h4,h5⟩;refine⟨⟨⟨⟨⟨h1,λh=>h2 (.inr (.inl h))⟩,h3⟩,λt b h=>h2 (.inr (.inr ⟨t,b,h⟩))⟩,?_⟩,?_⟩
  ·rcases h5 with h | ⟨f,h,c⟩
   ·exact .inl h
   cases h;exact .inr c
  ·rcases h4 with h | h
   ·exact .inr h
   ·exact .inl h
theorem Dp{m:Mf}{i:Nat}(a:i<N m.segs)(u:Value):eJ m (i+1) u↔eJ m i u\/u=B F m.segs[i].seq:=by
 unfold eJ;rw[P0 a];simp only[List.mem_append,List.mem_singleton];constructor
 ·rintro(h | h | ⟨s,h | rfl,h'⟩)
  ·exact .inl (.inl h)
  ·exact .inl (.inr (.inl h))
  ·exact .inl (.inr (.inr ⟨s,h,h'⟩))
  exact .inr h'
 ·rintro((h | h | ⟨s,h,h'⟩)| h)
  ·exact .inl h
  ·exact .inr (.inl h)
  ·exact .inr (.inr ⟨s,.inl h,h'⟩)
  ·exact .inr (.inr ⟨_,.inr rfl,h⟩)
variable {T:Tab}
theorem Dv(v:Value)(bs:List UInt8)(w:World)(h:Bs w v bs)(hl:4<=N bs)(HN:N bs<=100000)(Y:TabW T w):Calls Tryz.prog 78 #[v] w λe w'=>
  (match bN T bs with
  |some p=>∃A c,e=.returned (.tuple #[C A p.length c,M true])/\OwnB w' w.heap.size (C A p.length c) p
  |none=>e=.returned (.tuple #[C none 0 0,M false]))/\Ext w w':=by
 obtain⟨A,c,rfl,h1,h2⟩:=xO h;obtain⟨_,b,H0,rfl,hc⟩:=Bs.at_ h (by omega);obtain⟨n,hn⟩:∃n,N bs-4=n:=⟨_,rfl⟩;have X:N bs=n+4:=by omega
 have s:=Bs.take h n (by omega);have q:=Bs.cut h n (by omega) rfl;rw[show N bs-n=4 from by omega]at q;have z:n<=100000:=by omega
 have F:N (bs.take n)=n:=by rw[List.length_take];omega
 have z:N (bs.drop n)=4:=by rw[List.length_drop];omega
 unfold bN;rw[hn];obtain⟨p,Z⟩:∃p,bs.take n=p:=⟨_,rfl⟩;obtain⟨g,hg⟩:∃g,bs.drop n=g:=⟨_,rfl⟩;rw[Z]at s F⊢;rw[hg]at q z⊢;have J:=oK (T:=T) 0 p (by decide);obtain⟨o,L⟩:∃o,cR T 0 p=o:=⟨_,rfl⟩;rw[L]at J⊢;have R:=I Y;have r:=I s;have Hl:=I q;have W:=I L;obtain⟨a,d,f,i,hf⟩:∃a d f i:UInt8,ed o=[a,d,f,i]:=⟨_,_,_,_,rfl⟩;have U:=I hf;rw[hf];have HV:=I F;have HU:=I z;rw[X]at h1⊢;clear hc h s q Z hg L Y hn hl HN z X hf;subst F;have q:(N p:Int)<=(c:Int):=by omega
 have q:¬(c=N p):=by omega
 have q:(N p:Int)<=(N p:Int)+4:=by omega
 have m:Ext w (w.alloc (G #[C (D ⟨b,H0,H⟩) p.length c] 33)):=xA (xR _) _;by_cases k:[a,d,f,i]=g
 all_goals
  have V:=I k
 ·rw[if_pos k];clear k;go_enter func78,ntmps78
  go_wp2_with fail
  refine(mx (T:=T) w.heap.size _ c p _ (Boxed.new w _ _).cell (r.ext m) (by omega) (R.ext m)).mono ?_;rw[W.out];rintro e w1⟨rfl,t⟩;have O:=xT m t;go_wp2_with fail
  refine(mE o J _).mono ?_;rw[U.out];rintro e j⟨rfl,x⟩;simp only[P1,P2,bv];have P:=xT O x;have hb3:Blk (j.alloc (G #[B E (a.toNat:Int),B E (d.toNat:Int),B E (f.toNat:Int),B E (i.toNat:Int)] 188)) j.heap.size 188 ([a,d,f,i].map bv).toArray:=Blk.new j _ _;have l:Ext w (j.alloc (G #[B E (a.toNat:Int),B E (d.toNat:Int),B E (f.toNat:Int),B E (i.toNat:Int)] 188)):=xA P _;have h4:Bs (j.alloc (G #[B E (a.toNat:Int),B E (d.toNat:Int),B E (f.toNat:Int),B E (i.toNat:Int)] 188)) (C (D ⟨j.heap.size,0,H⟩) 4 4) [a,d,f,i]:=fZ hb3 rfl (by simp[maxLen]);go_wp2_with fail
  refine wp_region_held_drew (S:=λ_=>True) (by kernel_rfl) trivial (λ_=>?_);refine ab 0 ?_;refine ab 1 ?_;refine ab 2 ?_;refine ab 3 ?_;refine ah 4 (λK Q=>?_);go_simp;have y:=fI _ _ _ _ _ (h4.ext (xD (xR _))) (Hl.ext (xD l));refine y.mono ?_;rw[decide_eq_true V.out];rintro e w4⟨rfl,rfl⟩;try(go_wp2_with fail)
  refine af Q _ _ trivial (λ_=>?_);refine ab 5 ?_;refine aq ?_;go_wp2_with fail
  refine(oY _ p _ (r.ext (xD l)) (by omega)).mono ?_;rintro e q⟨A5,c5,rfl,s,q⟩;go_wp2_with fail
  go_ret2;exact⟨⟨A5,c5,rfl,ay s (xD l).size⟩,xT (xD l) q⟩
 ·rw[if_neg k];clear k;go_enter func78,ntmps78
  go_wp2_with fail
  refine(mx (T:=T) w.heap.size _ c p _ (Boxed.new w _ _).cell (r.ext m) (by omega) (R.ext m)).mono ?_;rw[W.out];rintro e w1⟨rfl,t⟩;have O:=xT m t;go_wp2_with fail
  refine(mE o J _).mono ?_;rw[U.out];rintro e j⟨rfl,x⟩;simp only[P1,P2,bv];have P:=xT O x;have hb3:Blk (j.alloc (G #[B E (a.toNat:Int),B E (d.toNat:Int),B E (f.toNat:Int),B E (i.toNat:Int)] 188)) j.heap.size 188 ([a,d,f,i].map bv).toArray:=Blk.new j _ _;have l:Ext w (j.alloc (G #[B E (a.toNat:Int),B E (d.toNat:Int),B E (f.toNat:Int),B E (i.toNat:Int)] 188)):=xA P _;have h4:Bs (j.alloc (G #[B E (a.toNat:Int),B E (d.toNat:Int),B E (f.toNat:Int),B E (i.toNat:Int)] 188)) (C (D ⟨j.heap.size,0,H⟩) 4 4) [a,d,f,i]:=fZ hb3 rfl (by simp[maxLen]);go_wp2_with fail
  refine wp_region_held_drew (S:=λ_=>True) (by kernel_rfl) trivial (λ_=>?_);refine ab 0 ?_;refine ab 1 ?_;refine ab 2 ?_;refine ab 3 ?_;refine ah 4 (λK Q=>?_);go_simp;have y:=fI _ _ _ _ _ (h4.ext (xD (xR _))) (Hl.ext (xD l));refine y.mono ?_;rw[decide_eq_false V.out];rintro e w4⟨rfl,rfl⟩;try(go_wp2_with fail)
  refine af Q _ _ trivial (λ_=>?_);refine ab 5 ?_;refine aq ?_;go_wp2_with fail
  go_ret2;exact⟨rfl,xD l⟩
theorem Du(v:Value)(bs:List UInt8)(w:World)(h:Bs w v bs)(hl:N bs<4):Calls Tryz.prog 78 #[v] w λe w'=>e=.returned (.tuple #[C none 0 0,M false])/\Ext w w':=by
 obtain⟨A,c,rfl,h1,h2⟩:=xO h;have a:wrap64 ((N bs:Int)-4)=(N bs:Int)-4:=by unfold wrap64;omega
 have hn:(N bs:Int)-4<0:=by omega
 have a:(N bs:Int)<4:=by omega
 go_enter func78,ntmps78
 go_wp2_with fail
 go_ret2;exact⟨rfl,xR _⟩
open Go.RowKit Go.Mv Go.Shelf
attribute [local go_sem] Oper.semAt_some
def ea(l:List Sg4):List Int:=l.flatMap λs=>[s.seq,s.fmt,s.first,s.count]
theorem qn(l:List Sg4):N (ea l)=4*N l:=by
 induction l with
 |nil=>rfl
 |cons s l ih=>rw[show ea (s::l)=s.seq::s.fmt::s.first::s.count::ea l from rfl];simp[ih];omega
theorem Ee(es:List Sg4)(i:Nat)(h:i<N es):(ea es).drop (i*4)=es[i].seq::es[i].fmt::es[i].first::es[i].count::(ea es).drop (i*4+4):=by
 induction es generalizing i with
 |nil=>simp at h
 |cons e es ih=>
  rw[show ea (e::es)=e.seq::e.fmt::e.first::e.count::ea es from rfl];cases i with
  |zero=>rfl
  |succ i=>
   have:=ih i (by simpa using h);rw[show(i+1)*4=i*4+1+1+1+1 from by omega];simpa using this
theorem Ni{d:World}{b a n c:Nat}{es:List Sg4}(h:Is d (C (D ⟨b,a,H⟩) n c) (ea es))(i:Nat)(f:i<N es):
  Is d (C (D ⟨b,a+i*4,H⟩) 4 4) [es[i].seq,es[i].fmt,es[i].first,es[i].count]:=by
 have hl:=qn es;obtain⟨d,A,c',e,h1,h2,h3⟩:=h;cases e;obtain⟨d,d,e',hc⟩:=h3 (by omega);cases e';refine⟨by simp,_,4,rfl,xN _,by simp[maxLen],λ_=>⟨b,a+i*4,rfl,λj u a=>?_⟩⟩;have hd:=Ee es i f;have d:j<4:=by
  have:=(List.getElem?_eq_some_iff.1 a).1;simpa using this
 rw[Nat.add_assoc];refine hc (i*4+j) u ?_;rw[<-a,<-List.getElem?_drop,<-List.map_drop,hd];match j,d with
 |0,_=>rfl
 |1,_=>rfl
 |2,_=>rfl
 |3,_=>rfl
theorem yb(x g:World)(v:Value)(es:List Sg4)(p:Is x v (ea es))(U:N es<=2000000)(bs f:Nat)(G:Boxed g bs 64 v)(K:Boxed g f 3 (B F 4)):
  Seq Tryz.prog 149 #[L (D ⟨bs,0,H⟩),L (D ⟨f,0,H⟩)]
   (λ(e:Sg4) av _=>∃b a,av = #[C (D ⟨b,a,H⟩) 4 4]/\Is x (C (D ⟨b,a,H⟩) 4 4) [e.seq,e.fmt,e.first,e.count]) (λk o=>(k=bs/\o.ty=D 64)\/(k=f/\o.ty=D 3)) (λ_ _=>False) es g:=by
 intro l J x S x E Q;have t:=qn es;obtain⟨A,c,rfl,h1,h2⟩:=xO p;rw[t]at *;refine(callsIn_wd (ro:=none) (n:=9)).1 ?_;refine callsIn_of_wp func149 rfl trivial ?_ rfl;simp only[ntmps149,List.size_toArray,xC,List.length_nil,Nat.reduceAdd,Nat.reduceSub,Array.replicate_succ,Array.replicate_zero,List.push_toArray,List.append_toArray,xI,List.cons_append];have P:=I p;clear t p;gi_wp2;gi_loopw [4] (λj W=>∃(i:Nat),j=B F (i*4:Nat)/\i<=N es/\Hid (J (es.take i) W)/\Boxed W bs 64 (C A (4*N es) c)/\Boxed W f 3 (B F 4)/\g.heap.size<=W.heap.size) (λj _=>4*N es+5-(intOf j).toNat)
 case atStart=>exact⟨0,rfl,Nat.zero_le _,Q,G,K,xN _⟩
 case round=>
  obtain⟨i,rfl,p,r,b1,b2,w⟩:=hrel;have y:=b1.cell;have z:=b2.cell;by_cases d:i<N es
  ·have m:=P.out;obtain⟨hx,b,a,rfl,hc⟩:=Is.at_ m (by rw[qn];omega);clear hc hx;have G:=Ni m i d;have p:=I G;have Q:(i*4:Nat)<4*N es:=by omega
   have P:(i*4:Nat)+4<=4*N es:=by omega
   have x:es.take (i+1)=es.take i++[es[i]]:=P0 d;have s:=I x;have t:es=es.take i++es[i]::es.drop (i+1):=by rw[<-List.drop_eq_getElem_cons d,List.take_append_drop]
   have K:=I t;clear G x t m;have q:((i*4:Nat):Int)=(i:Int)*4:=by omega
   obtain⟨k,H1⟩:∃k,i*4=k:=⟨_,rfl⟩;have R:=I H1;rw[H1]at Q P p;simp only[H1];clear q H1;gi_wp2;gi_region
   have d:min (4:Int) ((4*N es-k:Nat):Int)=4:=by omega
   have m:((k:Int)+4).toNat-k=4:=by omega
   have H8:=I d;have t:=I m;clear d m;have d:=E (es.take i) es[i] (es.drop (i+1)) K wr.drew #[C (D ⟨b,a+k,H⟩) 4 4] (S _ _ _ r (Moves.refl.drew)) w ⟨b,a+k,rfl,p.out⟩;have m:=I d;have M:Boxed wr.drew bs 64 (C (D ⟨b,a,H⟩) (4*N es) c):=b1;have O:Boxed wr.drew f 3 (B F 4):=b2;clear d E;gi_wp2;rw[H8.out,t.out];refine ew m.out ?_;rintro e W' ⟨H3,⟨rfl,h⟩|⟨rfl,h⟩⟩
   ·refine⟨true,rfl,?_⟩;have m:Boxed W' bs 64 (C (D ⟨b,a,H⟩) (4*N es) c):=H3.boxed M (.inl (.inl ⟨rfl,rfl⟩));have d:Boxed W' f 3 (B F 4):=H3.boxed O (.inl (.inr ⟨rfl,rfl⟩));have e2:=d.cell;have f:g.heap.size<=W'.heap.size:=Nat.le_trans w H3.size;have a:=I h;clear h H3 y z;gi_wp2;refine⟨⟨i+1,?_,by omega,?_,m,d,f⟩,by simp[intOf];omega⟩
    ·have:=R.out;rw[show(i+1)*4=k+4 from by omega];go_num
    show J _ _;rw[s.out];exact a.out
   refine⟨false,rfl,?_⟩;have a:=I h;clear h H3 y z;gi_wp2;refine bodyPost_ret (results_none rfl _ _ _) rfl ?_;refine⟨⟨_,rfl⟩,.inr ⟨es.take (i+1),?_,?_⟩⟩
   ·exact List.take_prefix _ _
   rw[s.out];exact a.out
  ·have a:es.take i=es:=List.take_of_length_le (by omega);have q:4*N es<=i*4:=by omega
   have d:¬(((i*4:Nat):Int)<((4*N es:Nat):Int)):=by omega
   obtain⟨k,H1⟩:∃k,i*4=k:=⟨_,rfl⟩;have f:=I a;have g:k<=4*N es:=by omega
   rw[H1]at q;simp only[H1];clear a d H1;gi_wp2;refine bodyPost_end (results_none rfl _ _ _) rfl ?_;exact⟨⟨_,rfl⟩,.inl (by have:=r.out;rw[f.out]at this;exact this)⟩
theorem tX(A:Option Addr)(n c:Nat)(w:World):Calls Tryz.prog 80 #[C A n c,B F 4] w λe w'=>
  e=.returned (.func (.func 149) #[] #[L (D ⟨w.heap.size,0,H⟩),L (D ⟨w.heap.size+1,0,H⟩)]) /\
  (w.alloc (G #[C A n c] 64)).alloc (G #[B F 4] 3)=w':=by
 go_enter func80,ntmps80
 go_wp2;go_ret;exact⟨rfl,rfl⟩
