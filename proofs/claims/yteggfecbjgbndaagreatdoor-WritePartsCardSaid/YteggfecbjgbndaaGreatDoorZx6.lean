/- Merged -/
import Derived.Test.YteggfecbjgbndaaGreatDoorZx5
import Derived.Laws.Bits64
set_option linter.all false
set_option maxHeartbeats 8000000
set_option maxRecDepth 100000
open Go.Proofs.Tryz
open List renaming length->U
open Go.Value renaming int->C,slice->E,pointer->S
open Go.Obj renaming cells->F
open Go.Proofs.Tryz renaming prog->G
open Option renaming some->I,none->M
open Go.IntKind renaming u8->K,i64->O
open Go.Mv renaming aN->R
open UInt8 renaming ofNat->P0
open List renaming take_of_length_le->P1,length_take->P2,length_drop->P3,eq_nil_of_length_eq_zero->P4,cons_append->P5,all_eq_true->P6,length_nil->P7,append_toArray->P8,size_toArray->P9,push_toArray->Pa,getElem?_eq_some_iff->Pb,length_pos_iff->Pc,foldl_append->Pd,append_assoc->Pe,map_cons->Pf
open BitVec renaming ofInt->Pg,ofInt_natCast->Ph,toNat_ofNat->Pi
open Nat renaming xor_lt_two_pow->Pj,eq_zero_or_pos->Pk,mod_eq_of_lt->Pl,strongRecOn->Pm,reduceSub->Pn,reduceAdd->Po,add_assoc->Pp,zero_le->Pq,min_eq_left->Pr,le_trans->Ps
open Array renaming replicate_zero->Pu,replicate_succ->Pv
open Go.Mv.Ext renaming grownOwn->Pw,cell->Px
open Go.IntKind renaming u32->Py,wrap_u32->Pz
namespace Go.Proofs.YteggfecbjgbndaaGreatDoor
open Go.RowKit Go.Mv Go.Shelf
variable {es:List Ent} {c m:Nat} {w:World}
theorem mcCrca0{P:Prop}(h:P:=by
 rw[K7];refine HV _ _ _ _ ?_ ?_
 ·intro W' hj hh hb hs;have Hj:=R hj;have Hh:=R hh;gi_wp2;refine wpIn_goto ?_;try simp only[Exit.then]
  refine bI ⟨?_,?_⟩
  ·rw[show((i:Int)+1)=((i+1:Nat):Int)from rfl];exact⟨i+1,_,_,_,_,_,_,_,_,_,_,_,_,_,_,_,_,_,_,_,_,_,⟨by have:=K5.out;omega,Hj,Hh,hb,hs⟩,rfl⟩
  have:=K5.out;simp[intOf];omega
 ·intro W' hj;have Hj:=R hj;gi_wp2;refine tn ?_;refine bodyPost_end (results_none rfl _ _ _) rfl ?_;exact⟨⟨_,rfl⟩,.inr ⟨_,Ho.out,Hj.out⟩⟩):P:=h
attribute [local go_sem] Oper.semAt_some
structure Tab where
 l:List Nat
 lt:∀ i,l.getD i 0<4294967296
variable {T:Tab}
def TabW(T:Tab)(w:World):Prop:=∀i,i<16->w.cell? ⟨1,i,M⟩=I (.int .u32 ((T.l.getD i 0:Nat):Int))
theorem TabW.ext{w':World}(h:TabW T w)(a:Ext w w'):TabW T w':=λi hi=>a.cell (h i hi)
theorem TabW.hold{w':World}(h:TabW T w)(a:Hold w w'):TabW T w':=λi hi=>a _ _ (h i hi)
def cH(T:Tab)(s h:Nat):Nat:=T.l.getD ((s ^^^ h) % 16) 0 ^^^ (s / 16)
def crcTab:List Nat:=[0,274646895,549293790,820201905,1098587580,1361435347,1640403810,1905808397,2197175160,2460548119,2722870694,2987750089,3280807620,3553878443,3811616794,4084100981]
theorem LL(i:Nat):crcTab.getD i 0<4294967296:=by
 by_cases h:i<16
 ·have:∀j,j<16->crcTab.getD j 0<4294967296:=by decide
  exact this i h
 ·rw[List.getD_eq_getElem?_getD,List.getElem?_eq_none (by simp[crcTab];omega)];decide
def rT:Tab:=⟨crcTab,LL⟩
theorem Cd(i:Nat):T.l.getD i 0<4294967296:=T.lt i
theorem rC{s:Nat}(h:Nat)(hs:s<4294967296):cH T s h<4294967296:=by
 have:cH T s h<2^32:=Pj (Cd _) (by omega);simpa using this
theorem mo(a b:Nat)(d:a<4294967296)(hb:b<4294967296):bits .xor .u32 (a:Int) (b:Int)=((a ^^^ b:Nat):Int):=by
 have hx:a ^^^ b<2^32:=Pj (by omega) (by omega);have h1:(Pg 32 (a:Int)).toNat=a:=by
  rw[Ph,Pi];exact Pl (by omega)
 have h2:(Pg 32 (b:Int)).toNat=b:=by
  rw[Ph,Pi];exact Pl (by omega)
 show Py.wrap ((Pg 32 (a:Int) ^^^ Pg 32 (b:Int)).toNat:Int)=_;rw[BitVec.toNat_xor,h1,h2,Pz];omega
theorem DF(a:Nat)(b:a<4294967296):bits .and .u32 (a:Int) 15=((a % 16:Nat):Int):=by
 have h1:(Pg 32 (a:Int)).toNat=a:=by
  rw[Ph,Pi];exact Pl (by omega)
 have h2:(Pg 32 (15:Int)).toNat=15:=rfl;show Py.wrap ((Pg 32 (a:Int) &&& Pg 32 (15:Int)).toNat:Int)=_;rw[BitVec.toNat_and,h1,h2,Pz,show(15:Nat)=2^4-1 from rfl,Nat.and_two_pow_sub_one_eq_mod];omega
theorem Mm(s h:Nat)(hs:s<4294967296)(a:h<256)(w:World)(b:TabW T w):Calls G 233 #[.int .u32 s,C K h] w λe w'=>e=.returned (.int .u32 (cH T s h))/\w=w':=by
 have hx:=mo s h hs (by omega);have a:s ^^^ h<2^32:=Pj (by omega) (by omega);have d:=DF (s ^^^ h) a;obtain⟨i,hi⟩:∃i,(s ^^^ h) % 16=i:=⟨_,rfl⟩;have a:i<16:=by omega
 rw[hi]at d;have hc:=b i a;obtain⟨t,a⟩:∃t,T.l.getD i 0=t:=⟨_,rfl⟩;have b:t<4294967296:=by rw[<-a];exact Cd i
 rw[a]at hc;have Kf:cH T s h=t ^^^ (s / 16):=by unfold cH;rw[hi,a]
 have a:bits .xor .u32 (t:Int) ((s:Int) / 16)=((t ^^^ (s / 16):Nat):Int):=by simpa using mo t (s / 16) b (by omega)
 have a:=R Kf;have b:(i:Int)<16:=by omega
 go_enter func233,ntmps233
 go_wp2_with fail;go_ret;exact⟨nj (by rw[a.out]),rfl⟩
def bC(bs:List UInt8):List UInt8:=bs.flatMap λb=>[P0 (b.toNat % 16),P0 (b.toNat / 16)]
theorem qj(bs:List UInt8):U (bC bs)=2*U bs:=by
 induction bs with
 |nil=>rfl
 |cons b bs ih=>rw[show bC (b::bs)=P0 (b.toNat % 16)::P0 (b.toNat / 16)::bC bs from rfl];simp[ih];omega
theorem Ft(bs:List UInt8):∀(j:Nat) (a:j<U bs),(bC bs)[2*j]?=I (P0 (bs[j].toNat % 16))/\(bC bs)[2*j+1]?=I (P0 (bs[j].toNat / 16)):=by
 induction bs with
 |nil=>intro j a;simp at a
 |cons b bs ih=>
  intro j a;rw[show bC (b::bs)=P0 (b.toNat % 16)::P0 (b.toNat / 16)::bC bs from rfl];cases j with
  |zero=>exact⟨rfl,rfl⟩
  |succ j=>
   obtain⟨d,h1⟩:=ih j (by simpa using a);rw[show 2*(j+1)=2*j+1+1 from by omega];simp only[List.getElem?_cons_succ,List.getElem_cons_succ];exact⟨d,h1⟩
theorem Dz(bs:List UInt8)(j p:Nat)(f:j<U bs)(g:p=0\/p=1):∃a,bC bs=(bC bs).take (2*j+p)++P0 (bs[j].toNat / 16^p % 16)::a:=by
 have hl:=qj bs;obtain⟨d,h1⟩:=Ft bs j f;have b:2*j+p<U (bC bs):=by omega
 have hb:=bs[j].toNat_lt;have he:(bC bs)[2*j+p]=P0 (bs[j].toNat / 16^p % 16):=by
  rcases g with rfl | rfl
  ·obtain⟨_,e⟩:=Pb.1 d;simpa using e
  obtain⟨_,e⟩:=Pb.1 h1;rw[e];congr 1
  omega
 refine⟨(bC bs).drop (2*j+p+1),?_⟩;rw[<-he];conv=>lhs;rw[<-List.take_append_drop (2*j+p) (bC bs),List.drop_eq_getElem_cons b]
theorem EX(bs:List UInt8)(i:Nat)(d:UInt8)(a:List UInt8)(hi:i<=U (bC bs))(h:bC bs=(bC bs).take i++d::a):(bC bs).take (i+1)=(bC bs).take i++[d]:=by
 have hl:U ((bC bs).take i)=i:=by rw[P2];omega
 conv=>lhs;rw[h]
 rw[List.take_append,hl,P1 (by omega),show i+1-i=1 from by omega];rfl
theorem tn{L:List Nat}{J:Nat->Act->World->Prop}{Q:Exit->Act->World->Prop}{a:Act}(h:Q .normal a w):Exit.jumps L J Q .normal a w:=h
def HvR(bs:List UInt8)(A:Option Addr)(c l B N:Nat)(b:World)(J:List UInt8->World->Prop)(a:Act)(w:World):Prop:=
 ∃(i:Nat) (u4 u5 u6 u7 u8 u9 Kh Ki Kj Kk Kl Km Kn Ko Kp Kq Kr Ks Kt Ku Kv:Value),(i<=2*U bs/\Hid (J ((bC bs).take i) w)/\Hid (Hold b w)/\Boxed w B 33 (E A bs.length c)/\N<=w.heap.size) /\
  a=⟨#[.func (.yield l) #[] #[],S (I ⟨B,0,M⟩),undef,C O i,u4,u5,u6,u7,u8,u9,Kh,Ki,Kj,Kk,Kl,Km,Kn,Ko,Kp,Kq,Kr,Ks,Kt,Ku,Kv],[]⟩
theorem EW(r g:World)(v:Value)(bs:List UInt8)(Y:Bs r v bs)(Hv:U bs<=2000000)(X:Hold r g)(z B:Nat)(KJ:r.heap.size<=z)(KK:B≠z)(W:Boxed g B 33 v):
  Seq G 278 #[S (I ⟨B,0,M⟩)] (λ(d:UInt8) av _=>av = #[bv d]) (λk o=>k≠z/\o.isCells=true) (λ_ _=>False) (bC bs) g:=by
 intro l J Jx hJ KI F D;obtain⟨A,c,rfl,h1,h2⟩:=xO Y;refine(callsIn_wd (ro:=none) (n:=9)).1 ?_;refine callsIn_of_wp func278 rfl trivial ?_ rfl;simp only[ntmps278,P9,xC,P7,Po,Pn,Pv,Pu,Pa,P8,xI,P5];refine tu 0 (HvR bs A c l B g.heap.size r J) (λa _=>2*U bs-(intOf (a.tmps.getD 3 undef)).toNat) rfl (λl' h=>by cases l'<;>first | exact absurd rfl h | rfl) ?_ ?_
 ·gi_wp2;exact⟨0,_,_,_,_,_,_,_,_,_,_,_,_,_,_,_,_,_,_,_,_,_,⟨by omega,D,X,W,xN _⟩,rfl⟩
 ·intro a w hR;obtain⟨i,u4,u5,u6,u7,u8,u9,Kh,Ki,Kj,Kk,Kl,Km,Kn,Ko,Kp,Kq,Kr,Ks,Kt,Ku,Kv,⟨hi,N,L,O,Hx⟩,rfl⟩:=hR;have c1:=O.cell;by_cases Hd:i<2*U bs
  ·obtain⟨j,p,x,Z⟩:∃j p,i=2*j+p/\(p=0\/p=1):=⟨i / 2,i % 2,by omega,by omega⟩;have hj:j<U bs:=by omega
   obtain⟨_,b,H6,rfl,hc⟩:=Bs.at_ Y (by omega);have Ka:=L _ _ (hc j hj);obtain⟨H7,s⟩:=Dz bs j p hj Z;have t:=EX bs _ _ H7 (by rw[qj];omega) s;rw[<-x]at s t;have hy:=F _ _ _ s _ #[bv (P0 (bs[j].toNat / 16^p % 16))] N Hx rfl;have P:(bC bs).take (i+1) <+: bC bs:=List.take_prefix _ _;have hq:=bs[j].toNat_lt;generalize bs[j].toNat=q at *;have KV:(i:Int)<2*(U bs:Int):=by omega
   have KW:(j:Int)<(U bs:Int):=by omega
   have hd:(i:Int) / 2=(j:Int):=by omega
   have KU:i / 2=j:=by omega
   have key:∀(o:Oper) (a:Act) (next:Act->World->Prop) (Q:Exit->Act->World->Prop),
     (∀W':World,J ((bC bs).take (i+1)) W'->Hold r W'->Boxed W' B 33 (E (I ⟨b,H6,M⟩) bs.length c)->g.heap.size<=W'.heap.size->next (a.put o.dst (.bool true)) W') ->
     (∀W':World,Jx ((bC bs).take (i+1)) W'->next (a.put o.dst (.bool false)) W') ->
     o.uponIn (Wd none) 9 G a next Q ((Instr.yield l #[bv (P0 (q / 16^p % 16))]).run G w):=by
    intro o a next Q h1 h2;refine ew hy ?_;rintro e W' ⟨Hk,⟨rfl,hj⟩|⟨rfl,hj⟩⟩
    ·refine⟨true,rfl,h1 W' (by rw[t];exact hj) (L.kept KJ Hk) (Hk.boxed O (.inl ⟨KK,rfl⟩)) (Ps Hx Hk.size)⟩
    refine⟨false,rfl,h2 W' (by rw[t];exact hj)⟩
   have HV:=R key;have V:=R x;have Ho:=R P;have K5:=R Hd;clear hc F hy key s t P x W X D;rcases Z with rfl | rfl
   ·have ha:bits .and .i64 (i:Int) 1=0:=(bits_mask .i64 62 (by decide) lD 1 (by decide) _ (by omega) (by omega)).trans (by have:=V.out;omega);have hv:bits .and .u8 (q:Int) 15=((q % 16:Nat):Int):=(bits_mask .u8 8 (by decide) wraps_u8 4 (by decide) _ (by omega) (by omega)).trans (by simp);gi_wp2;have K7:C K ((q:Int) % 16)=bv (P0 (q / 16^0 % 16)):=by rw[oE];congr 1;omega
    exact mcCrca0
   have ha:bits .and .i64 (i:Int) 1=1:=(bits_mask .i64 62 (by decide) lD 1 (by decide) _ (by omega) (by omega)).trans (by have:=V.out;omega);have hv:bits .and .u8 ((q:Int) / 16) 15=((q / 16:Nat):Int):=(bits_mask .u8 8 (by decide) wraps_u8 4 (by decide) _ (by omega) (by omega)).trans (by omega);gi_wp2;have K7:C K ((q:Int) / 16)=bv (P0 (q / 16^1 % 16)):=by rw[oE];congr 1;omega
   exact mcCrca0
  ·obtain rfl:i=2*U bs:=by omega
   have H:(bC bs).take (2*U bs)=bC bs:=P1 (by rw[qj];exact xN _);have y:=N.out;rw[H]at y;have Kx:=R y;clear y H F D;gi_wp2;refine⟨λf h=>(by cases h),?_⟩;gi_wp2;refine tn ?_;refine bodyPost_end (results_none rfl _ _ _) rfl ?_;exact⟨⟨_,rfl⟩,.inl Kx⟩
theorem Fu(A:Option Addr)(n c:Nat)(w:World):Calls G 232 #[E A n c] w λe w'=>e=.returned (.func (.func 278) #[] #[S (I ⟨w.heap.size,0,M⟩)])/\w.alloc (F #[E A n c] 33)=w':=by
 go_enter func232,ntmps232
 go_wp2;go_ret;exact⟨rfl,rfl⟩
def lf(T:Tab)(s:Nat)(bs:List UInt8):Nat:=(bC bs).foldl (λa h=>cH T a h.toNat) s
def cR(T:Tab)(s:Nat)(bs:List UInt8):Nat:=4294967295 ^^^ lf T (4294967295 ^^^ s) bs
theorem nV(s:Nat)(h:s<4294967296):4294967295 ^^^ s<4294967296:=by
 have:4294967295 ^^^ s<2^32:=Pj (by omega) (by omega);simpa using this
theorem oR(s:Nat)(h:s<4294967296):bits .xor .u32 Py.max (s:Int)=((4294967295 ^^^ s:Nat):Int):=mo 4294967295 s (by decide) h
theorem rQ(hs:List UInt8)(s:Nat)(h:s<4294967296):hs.foldl (λa h=>cH T a h.toNat) s<4294967296:=by
 induction hs generalizing s with
 |nil=>exact h
 |cons x hs ih=>exact ih _ (rC _ h)
def NxI(T:Tab)(w:World)(d:Nat)(b:List UInt8)(X:World):Prop:=Boxed X w.heap.size 190 (.int .u32 ((b.foldl (λa h=>cH T a h.toNat) d:Nat):Int))/\Below w.heap.size w X
theorem DL(s:Nat)(hs:s<4294967296)(v:Value)(bs:List UInt8)(w:World)(h:Bs w v bs)(N:bs.length<=2000000)(B:TabW T w):
  Calls G 202 #[.int .u32 s,v] w λe w'=>e=.returned (.int .u32 (cR T s bs))/\Ext w w':=by
 obtain⟨A,c,rfl,h1,h2⟩:=xO h;have J:=R h;have L:=R B;clear h B;have hn:=oR s hs;have y:=nV s hs;unfold cR lf;generalize 4294967295 ^^^ s=s0 at *;refine(callsIn_wd (ro:=none) (n:=9)).1 ?_;refine callsIn_of_wp_marks func202 rfl trivial ?_ rfl;simp only[ntmps202,P9,xC,P7,Po,Pn,Pv,Pu,Pa,P8,xI,P5];gi_wp2_with (refine⟨trivial,?_⟩;gi_at_call 232;refine(callsIn_wd.2 (Fu _ _ _ _)).mono ?_;rintro e w' ⟨rfl,rfl⟩)
 clear hn;have Z:Boxed ((w.alloc (F #[.int .u32 s0] 190)).alloc (F #[E A bs.length c] 33)) (w.heap.size+1) 33 (E A bs.length c):=by
  have:=Boxed.new (w.alloc (F #[.int .u32 s0] 190)) 33 (E A bs.length c);rwa[xS]at this
 have q:Ext w ((w.alloc (F #[.int .u32 s0] 190)).alloc (F #[E A bs.length c] 33)):=xA (xA (xR _) _) _;have V:NxI T w s0 [] ((w.alloc (F #[.int .u32 s0] 190)).alloc (F #[E A bs.length c] 33)):=⟨(Boxed.new w _ _).alloc _,q⟩;have KY:((w.alloc (F #[.int .u32 s0] 190)).alloc (F #[E A bs.length c] 33)).heap.size=w.heap.size+2:=by simp
 generalize(w.alloc (F #[.int .u32 s0] 190)).alloc (F #[E A bs.length c] 33)=w2 at *;refine dV (a:=⟨_,_⟩) rfl (enters_of func278 (by kernel_rfl) rfl)
  (λW1 hb _=>EW w W1 _ bs J N (λp u hc=>Px (xT q hb) hc) w.heap.size (w.heap.size+1) (xN _) (by omega) (Z.kept (row:=none) (Ext.grown hb none) (by simp)))
  (λk o h=>h.elim) (λk o h=>h.2) (λx U W h=>by rw[h];rfl)
  (NxI T w s0) (λ_ _ _=>False) ?hI (λ_ _ _ _ h _=>h) V
  (λx z _=>z=⟨#[.int .u32 s,E A bs.length c,S (I ⟨w.heap.size,0,M⟩),undef,.int .u32 0,C K x.toNat,.int .u32 s,.int .u32 s0,E A bs.length c,.func (.func 278) #[] #[S (I ⟨w.heap.size+1,0,M⟩)],C K x.toNat,undef,undef,undef,undef,undef],[]⟩)
  (λ_ _ _ _ h _=>h) ?assign ?body ?done ?stop
 case hI=>
  rintro s X Y⟨b,d⟩hm;refine⟨hm.boxed b ?_,hm.belowOf d ?_ (xN _)⟩
  ·rintro(h | h)
   ·exact h
   cases h.2
  rintro k o hk(h | h)
  ·exact h
  have:=h.1;omega
 case assign=>
  rintro l f x H W U K' hx hi Hx rfl j;simp only[bv];gi_wp2;exact j _ _ Kept.refl hi rfl
 case body=>
  rintro l f x H z W hx hl hr⟨b,d⟩Hx rfl;have hc:=b.cell;have hf:=b.frozen;have i:=rQ (T:=T) f s0 y;have KP:=R d;have t:(f++[x]).foldl (λa h=>cH T a h.toNat) s0=cH T (f.foldl (λa h=>cH T a h.toNat) s0) x.toNat:=by rw[Pd];rfl
  have Q:=R t;have r:TabW T W:=L.out.ext d;have P:=R r;clear t r;generalize f.foldl (λa h=>cH T a h.toNat) s0=g at *;gi_wp2_with (refine⟨trivial,?_⟩;gi_at_call 233;refine(callsIn_wd.2 (Mm g x.toNat i x.toNat_lt W P)).mono ?_;rintro e w' ⟨rfl,rfl⟩)
  refine⟨Kept.refl.setCell (λo ho hc=>?_) _,by show Boxed _ _ _ _;rw[Q.out];exact b.set _,d.setCell (p:=⟨w.heap.size,0,M⟩) (xN _) _⟩;rintro(h | h)
  ·exact h.1 rfl
  rw[hc]at h;cases h.2
 case done=>
  rintro D W hD⟨b,d⟩j;have hc:=b.cell;have i:=rQ (T:=T) (bC bs) s0 y;obtain⟨g,K3⟩:∃g,(bC bs).foldl (λa h=>cH T a h.toNat) s0=g:=⟨_,rfl⟩;rw[K3]at i hc;have O:=R K3;have KX:=oR g i;clear K3 b;gi_wp2;refine dh j (.int .u32 ((4294967295 ^^^ g:Nat):Int)) (by simp[results,results202,go_sem]) ?_;exact⟨by rw[O.out],cp d (hD:=by omega) _⟩
 case stop=>
  rintro D c f W _ _ h _;exact h.elim
open Go.RowKit Go.Mv
def dv(e:Ent):List UInt8:=aF [e.t,e.k,e.v]
def fh(es:List Ent):Bool:=decide (0<U es/\U es<=4)&&bQ es
def bp(es:List Ent):List UInt8:=P0 (U es)::es.flatMap dv
def dI(p:Nat×Nat)(es:List Ent):List UInt8:=bp es++aW (aD p (bp es))
theorem AA(e:Ent):U (dv e)<=15:=by have:=eY [e.t,e.k,e.v];simpa[dv]using this
theorem zI(es:List Ent):U (es.flatMap dv)<=15*U es:=by
 induction es with
 |nil=>simp
 |cons e es ih=>have:=AA e;rw[List.flatMap_cons,xL,xC];omega
theorem BJ{e:Ent}(h:e.ok=true):aG [e.t,e.k,e.v]=true:=by
 have:=okB_true.1 h;unfold Ent.okP at this;simp only[aG,List.all_cons,List.all_nil,Bool.and_true,Bool.and_eq_true,numB_true];omega
theorem Mr(h:bQ es=true)(k:Nat)(hk:k<U es):es[k].ok=true:=by
 unfold bQ at h;exact P6.1 h _ (List.getElem_mem hk)
theorem OO(es:List Ent)(k:Nat)(h:k<U es):(es.take (k+1)).flatMap dv=(es.take k).flatMap dv++dv es[k]:=by
 rw[List.take_succ_eq_append_getElem h,List.flatMap_append];simp
def Oo(p:Nat×Nat)(es:List Ent)(w:World)(e:Ending)(w':World):Prop:=
 ∃v a,e=.returned (.tuple #[v,a,C O 0])/\PtV a (aD p (bp es))/\w'.ownsRow w.heap.size 5 1 v (dI p es).length ((dI p es).map bv)/\Ext w w'
def M6(w:World)(e:Ending)(w':World):Prop:=e=.returned (.tuple #[E none 0 0,.complex .f64 0 0,C O 2])/\Ext w w'
theorem ybF(z v:Value)(es:List Ent)(w:World)(h:Es w v es)(hb:fh es=false):Calls G 370 #[z,v] w (M6 w):=by
 obtain⟨A,c,rfl,h1,h2⟩:=xO h;have b:=R (λw (h:Es w (E A es.length c) es)=>Ng _ es w h);have H:=R h;by_cases hl:0<U es/\U es<=4
 ·have d:bQ es=false:=by simpa[fh,hl]using hb
  obtain⟨d,d⟩:=hl;have a:((U es:Int)==0)=false:=by rw[beq_eq_false_iff_ne];omega
  go_enter func370,ntmps370
  go_wp2_with (go_at_call 361;refine(b _ H).mono ?_;rintro e w' ⟨rfl,b⟩)
  go_ret3;exact⟨rfl,b⟩
 ·clear hb h;by_cases a:U es=0
  ·have a:((U es:Int)==0)=true:=by rw[beq_iff_eq];omega
   go_enter func370,ntmps370
   go_wp2_with fail
   go_ret3;exact⟨rfl,xR _⟩
  ·have a:((U es:Int)==0)=false:=by rw[beq_eq_false_iff_ne];omega
   have h4:4<U es:=by omega
   go_enter func370,ntmps370
   go_wp2_with fail
   go_ret3;exact⟨rfl,xR _⟩
theorem zzH(s x:Nat)(v:Value)(es:List Ent)(w:World)(h:Es w v es)(hb:fh es=true):Calls G 370 #[.complex .f64 s x,v] w (Oo (ptV (.complex .f64 s x)) es w):=by
 obtain⟨A,c,rfl,h1,h2⟩:=xO h;have hB:=R (λw (h:Es w (E A es.length c) es)=>Ng _ es w h);have H:=R h;have hl:(0<es.length/\es.length<=4)/\bQ es=true:=by simpa[fh]using hb
 obtain⟨⟨K1,K2⟩,S⟩:=hl;have e0:((es.length:Int)==0)=false:=by rw[beq_eq_false_iff_ne];omega
 obtain⟨i0,hi,HI,HK,HL⟩:=info_parts dC;have Ha:=R S;rw[S]at hB;clear hb h S;go_enter func370,ntmps370
 go_wp2_with (go_at_call 361;refine(hB.out _ H).mono ?_;rintro e w1⟨rfl,X⟩)
 go_loopw [7,31] (λvb i wr=>∃k:Nat,k<=es.length/\i=C O k/\wr.ownsRow w.heap.size 5 1 vb (1+((es.take k).flatMap dv).length) (C K es.length::((es.take k).flatMap dv).map bv)/\Ext w wr) (λ_ i _=>es.length-(intOf i).toNat)
 case atStart=>
  refine⟨0,Pq _,rfl,?_,xA X _⟩;have:=be w1 [C K (es.length:Int)] 5 1 (hm:=rfl) (hl:=by simp[maxLen]) X.size;simpa using this
 case round=>
  obtain⟨k,hk,rfl,H0,j⟩:=hrel;by_cases y:k<es.length
  ·have Ht:=Es.ext H j;obtain⟨_,b,H6,rfl,hc⟩:=Es.at_ Ht (by omega);obtain⟨HO,K8,K9⟩:=hc k y;have Y:=BJ (Mr Ha k y);have Hq:b<wr.heap.size:=World.block_lt_of_cell? wr _ HO;have D:=OO es k y;obtain⟨bs,l⟩:∃bs,aF [es[k].t,es[k].k,es[k].v]=bs:=⟨_,rfl⟩;rw[show dv es[k]=bs from l]at D;have Hs:bs.length<=15:=by rw[<-l];exact AA es[k]
   have Hz:((es.take k).flatMap dv).length<=60:=by
    have:=zI (es.take k);rw[P2]at this;omega
   have HU:=R D;have HS:=R l;have HW:=R Y;clear D l hc Y;generalize es[k].t=et at *;generalize es[k].k=ek at *;generalize es[k].v=ev at *;generalize(es.take k).flatMap dv=Hc at *;obtain⟨Q,P,rfl,_,_,_⟩:=ia H0 (hn:=by omega);go_wp2_with (first
    | (go_at_call 119
       have HN:Is ((wr.alloc (F #[C O et,C O ek,C O ev] 54)).alloc (F #[C O et,C O ek,C O ev] 3)) (E (I ⟨wr.heap.size+1,0,M⟩) 3 3) [et,ek,ev]:=by
        have h:=be (wr.alloc (F #[C O et,C O ek,C O ev] 54)) [C O et,C O ek,C O ev] 3 3 (hm:=rfl) (hl:=by simp[maxLen]) (xN _);rw[xS]at h;exact xW h
       refine(AQ _ _ _ HN HW (by simp)).mono ?_;rintro e w2⟨v2,rfl,J,z⟩;rw[HS.out]at J;obtain⟨A2,c2,rfl,_,_⟩:=xO (xW J))
    | (at_builtin
       have n:Ext wr w2:=xT (xA (xA (xR _) _) _) z;have o:=ai H0 n;refine dT _ rfl (.tmp 46) (.tmp 47) 33 rfl w.heap.size 5 i0 (C K 0) 1 1 underlying33 hi HI HK HL rfl (by decide) _ (1+Hc.length) _ rfl o _ bs.length (bs.map bv) rfl (xW J) (de _) (by unfold maxLen;omega) (by omega) (xT j n).size ?_;intro v' p H4 H3))
   go_roundw
   case rel=>
    refine⟨k+1,by omega,by go_num,?_,Pw (xT j n) o H3⟩;rw[HU.out];simpa[Pp]using H4
   case measure=>simp[intOf];omega
  ·have Hi:es.take k=es:=P1 (by omega);rw[Hi]at H0;obtain⟨body,q⟩:∃body,bp es=body:=⟨_,rfl⟩;have Hq:body.length=1+(es.flatMap dv).length:=by rw[<-q];unfold bp;simp;omega
   have Hs:body.length<=61:=by have:=zI es;omega
   have Hr:0<body.length:=by omega
   have U:(C K (es.length:Int):Value)::(es.flatMap dv).map bv=body.map bv:=by
    rw[<-q];unfold bp;rw[Pf];congr 1
    simp[bv];omega
   rw[U,<-Hq]at H0;have V:=R q;clear Hi U q Hq;obtain⟨Q,P,rfl,_,_,_⟩:=ia H0 (hn:=Hr);go_wp2_with (first
    | (go_at_call 297
       have l:Bs wr (E (I ⟨Q,0,M⟩) body.length P) body:=xW H0;have hp:Parts (wr.alloc (F #[E (I ⟨Q,0,M⟩) body.length P] 33)) (E (I ⟨wr.heap.size,0,M⟩) 1 1) [body]:=lU l;refine(qI s x _ _ _ hp).mono ?_;rintro e w2⟨vz,rfl,r,z⟩;rw[show[body].flatten=body from by simp]at r;have HR:=R r;have Z:=r.pt;obtain⟨L,N,rfl,_,_⟩:=r;obtain⟨a,d,f,g,hf⟩:∃a d f g:UInt8,aW (aD (ptV (.complex .f64 s x)) body)=[a,d,f,g]:=⟨_,_,_,_,rfl⟩;have HF:Hid (∀W,Calls G 298 #[.complex .f64 L N] W λe w'=>e=.returned (.agg #[C K a.toNat,C K d.toNat,C K f.toNat,C K g.toNat])/\Ext W w'):=by
        intro W;refine(AJ L N W).mono ?_;rintro e w' ⟨rfl,j⟩;exact⟨by rw[Z,hf];rfl,j⟩
       have Hf:=R hf;clear hf Z)
    |(go_at_call 298;refine(HF.out _).mono ?_;rintro e p⟨rfl,n⟩)
    | (at_builtin
       have B:Ext wr (p.alloc (F #[C K a.toNat,C K d.toNat,C K f.toNat,C K g.toNat] 188)):=xA (xT (xT (xA (xR _) _) z) n) _;have o:=ai H0 B;have h4:SlR (p.alloc (F #[C K a.toNat,C K d.toNat,C K f.toNat,C K g.toNat] 188)) 1 (E (I ⟨p.heap.size,0,M⟩) 4 4) 4 ([a,d,f,g].map bv):=xW (be p ([a,d,f,g].map bv) 188 4 (hm:=rfl) (hl:=by simp[maxLen]) (xN _));refine dT _ rfl (.tmp 56) (.tmp 57) 33 rfl w.heap.size 5 i0 (C K 0) 1 1 underlying33 hi HI HK HL rfl (by decide) _ body.length _ rfl o _ 4 _ rfl h4 (de _) (by unfold maxLen;omega) (by omega) (xT j B).size ?_;intro v' w4 H4 H3))
   go_ret3;refine⟨v',.complex .f64 L N,rfl,?_,?_,Pw (xT j B) o H3⟩
   ·rw[V.out];exact HR.out
   ·unfold dI;rw[V.out,Hf.out];simpa using H4
theorem Eg(z v:Value)(es:List Ent)(w:World)(h:Es w v es)(hb:fh es=false):Calls G 268 #[z,v] w (M6 w):=by
 obtain⟨A,c,rfl,h1,h2⟩:=xO h;have b:=R (λw (h:Es w (E A es.length c) es)=>AE _ es w h);have H:=R h;by_cases hl:0<U es/\U es<=4
 ·have d:bQ es=false:=by simpa[fh,hl]using hb
  obtain⟨d,d⟩:=hl;have a:((U es:Int)==0)=false:=by rw[beq_eq_false_iff_ne];omega
  go_enter func268,ntmps268
  go_wp2_with (go_at_call 290;refine(b _ H).mono ?_;rintro e w' ⟨rfl,b⟩)
  go_ret3;exact⟨rfl,b⟩
 ·clear hb h;by_cases a:U es=0
  ·have a:((U es:Int)==0)=true:=by rw[beq_iff_eq];omega
   go_enter func268,ntmps268
   go_wp2_with fail
   go_ret3;exact⟨rfl,xR _⟩
  ·have a:((U es:Int)==0)=false:=by rw[beq_eq_false_iff_ne];omega
   have h4:4<U es:=by omega
   go_enter func268,ntmps268
   go_wp2_with fail
   go_ret3;exact⟨rfl,xR _⟩
theorem Ew(y z:Nat)(v:Value)(es:List Ent)(w:World)(h:Es w v es)(hb:fh es=true):Calls G 268 #[.complex .f64 y z,v] w (Oo (ptV (.complex .f64 y z)) es w):=by
 obtain⟨A,c,rfl,h1,h2⟩:=xO h;have hB:=R (λw (h:Es w (E A es.length c) es)=>AE _ es w h);have H:=R h;have hl:(0<es.length/\es.length<=4)/\bQ es=true:=by simpa[fh]using hb
 obtain⟨⟨K1,K2⟩,S⟩:=hl;have e0:((es.length:Int)==0)=false:=by rw[beq_eq_false_iff_ne];omega
 obtain⟨i0,hi,HI,HK,HL⟩:=info_parts dC;have Ha:=R S;rw[S]at hB;clear hb h S;go_enter func268,ntmps268
 go_wp2_with (go_at_call 290;refine(hB.out _ H).mono ?_;rintro e w1⟨rfl,X⟩)
 go_loopw [7,8] (λvb i wr=>∃k:Nat,k<=es.length/\i=C O k/\wr.ownsRow w.heap.size 5 1 vb (1+((es.take k).flatMap dv).length) (C K es.length::((es.take k).flatMap dv).map bv)/\Ext w wr) (λ_ i _=>es.length-(intOf i).toNat)
 case atStart=>
  refine⟨0,Pq _,rfl,?_,xA X _⟩;have:=be w1 [C K (es.length:Int)] 5 1 (hm:=rfl) (hl:=by simp[maxLen]) X.size;simpa using this
 case round=>
  obtain⟨k,hk,rfl,H0,l⟩:=hrel;by_cases D:k<es.length
  ·have Ht:=Es.ext H l;obtain⟨_,b,B,rfl,hc⟩:=Es.at_ Ht (by omega);obtain⟨HO,K8,K9⟩:=hc k D;have Y:=BJ (Mr Ha k D);have Hq:b<wr.heap.size:=World.block_lt_of_cell? wr _ HO;have L:=OO es k D;obtain⟨bs,n⟩:∃bs,aF [es[k].t,es[k].k,es[k].v]=bs:=⟨_,rfl⟩;rw[show dv es[k]=bs from n]at L;have Hs:bs.length<=15:=by rw[<-n];exact AA es[k]
   have Hz:((es.take k).flatMap dv).length<=60:=by
    have:=zI (es.take k);rw[P2]at this;omega
   have HU:=R L;have HS:=R n;have HW:=R Y;clear L n hc Y;generalize es[k].t=et at *;generalize es[k].k=ek at *;generalize es[k].v=ev at *;generalize(es.take k).flatMap dv=Hc at *;obtain⟨x,s,rfl,_,_,_⟩:=ia H0 (hn:=by omega);go_wp2_with fail
   have HN:Is (wr.alloc (F #[C O et,C O ek,C O ev] 3)).drew (E (I ⟨wr.heap.size,0,M⟩) 3 3) [et,ek,ev]:=xW (be wr.drew [C O et,C O ek,C O ev] 3 3 (hm:=rfl) (hl:=by simp[maxLen]) (xN _));have HC:=R (qq _ _ _ HN HW (by simp));clear HN;go_region_held3 (λw'=>w'.cell? ⟨b,B+k*3,M⟩=I (C O et)/\w'.cell? ⟨b,B+k*3+1,M⟩=I (C O ek)/\w'.cell? ⟨b,B+k*3+2,M⟩=I (C O ev)) (first|go_keep | (refine⟨?_,?_,?_⟩<;>assumption))
    (first|(go_at_call 121;refine HC.out.mono ?_;rintro e w2⟨v2,rfl,N,Hm⟩;rw[HS.out]at N;have j:Ext wr w2:=xT (xD (xA (xR wr) _)) Hm;have g0:=Px j HO;have g1:=Px j K8;have g2:=Px j K9;obtain⟨A2,c2,rfl,_,_⟩:=xO (xW N)))
   have o:=ai H0 j;go_wp2_with (at_builtin;refine dT _ rfl (.tmp 55) (.tmp 56) 33 rfl w.heap.size 5 i0 (C K 0) 1 1 underlying33 hi HI HK HL rfl (by decide) (E (I ⟨x,0,M⟩) (1+Hc.length) s) (1+Hc.length) _ rfl o (E A2 bs.length c2) bs.length (bs.map bv) rfl (xW N) (de _) (by unfold maxLen;omega) (by omega) (xT l j).size ?_;intro v' p H4 H3)
   go_roundw
   case rel=>
    refine⟨k+1,by omega,by go_num,?_,Pw (xT l j) o H3⟩;rw[HU.out];simpa[Pp]using H4
   case measure=>simp[intOf];omega
  ·have Hi:es.take k=es:=P1 (by omega);rw[Hi]at H0;obtain⟨body,q⟩:∃body,bp es=body:=⟨_,rfl⟩;have Hq:body.length=1+(es.flatMap dv).length:=by rw[<-q];unfold bp;simp;omega
   have Hs:body.length<=61:=by have:=zI es;omega
   have Hr:0<body.length:=by omega
   have U:(C K (es.length:Int):Value)::(es.flatMap dv).map bv=body.map bv:=by
    rw[<-q];unfold bp;rw[Pf];congr 1
    simp[bv];omega
   rw[U,<-Hq]at H0;have V:=R q;clear Hi U q Hq;obtain⟨x,s,rfl,_,_,_⟩:=ia H0 (hn:=Hr);go_wp2_with (first
    | (go_at_call 218
       have n:Bs wr (E (I ⟨x,0,M⟩) body.length s) body:=xW H0;have hp:Parts (wr.alloc (F #[E (I ⟨x,0,M⟩) body.length s] 33)) (E (I ⟨wr.heap.size,0,M⟩) 1 1) [body]:=lU n;refine(pS y z _ _ _ hp).mono ?_;rintro e w2⟨vz,rfl,r,rfl⟩;rw[show[body].flatten=body from by simp]at r;have HR:=R r;have Z:=r.pt;obtain⟨P,Q,rfl,_,_⟩:=r;obtain⟨a,d,f,g,hf⟩:∃a d f g:UInt8,aW (aD (ptV (.complex .f64 y z)) body)=[a,d,f,g]:=⟨_,_,_,_,rfl⟩;have HF:Hid (∀W,Calls G 249 #[.complex .f64 P Q] W λe w'=>e=.returned (.agg #[C K a.toNat,C K d.toNat,C K f.toNat,C K g.toNat])/\Ext W w'):=by
        intro W;refine(tw P Q W).mono ?_;rintro e w' ⟨rfl,l⟩;exact⟨by rw[Z,hf];rfl,l⟩
       have Hf:=R hf;clear hf Z)
    |(go_at_call 249;refine(HF.out _).mono ?_;rintro e p⟨rfl,j⟩)
    | (at_builtin
       have J:Ext wr ((p.alloc (F #[C K a.toNat,C K d.toNat,C K f.toNat,C K g.toNat] 188)).alloc (F #[C K a.toNat,C K d.toNat,C K f.toNat,C K g.toNat] 5)):=xA (xA (xT (xA (xR _) _) j) _) _;have o:=ai H0 J;have h4:SlR ((p.alloc (F #[C K a.toNat,C K d.toNat,C K f.toNat,C K g.toNat] 188)).alloc (F #[C K a.toNat,C K d.toNat,C K f.toNat,C K g.toNat] 5)) 1 (E (I ⟨p.heap.size+1,0,M⟩) 4 4) 4 ([a,d,f,g].map bv):=by
        have h:=be (p.alloc (F #[C K a.toNat,C K d.toNat,C K f.toNat,C K g.toNat] 188)) ([a,d,f,g].map bv) 5 4 (hm:=rfl) (hl:=by simp[maxLen]) (xN _);rw[xS]at h;exact xW h
       refine dT _ rfl (.tmp 64) (.tmp 73) 33 rfl w.heap.size 5 i0 (C K 0) 1 1 underlying33 hi HI HK HL rfl (by decide) _ body.length _ rfl o _ 4 _ rfl h4 (de _) (by unfold maxLen;omega) (by omega) (xT l J).size ?_;intro v' w4 H4 H3))
   go_ret3;refine⟨v',.complex .f64 P Q,rfl,?_,?_,Pw (xT l J) o H3⟩
   ·rw[V.out];exact HR.out
   ·unfold dI;rw[V.out,Hf.out];simpa using H4
def zwQ(p:Nat×Nat)(es:List Ent):List UInt8:=
 if h:es=[]then[]else dI p (es.take 4)++zwQ (aD p (bp (es.take 4))) (es.drop 4)
termination_by (U es)
decreasing_by
 have:0<U es:=Pc.2 h;simp;omega
theorem zxK(p:Nat×Nat):zwQ p []=[]:=by rw[zwQ];simp
theorem zxv(p:Nat×Nat)(es:List Ent)(h:0<U es):zwQ p es=dI p (es.take 4)++zwQ (aD p (bp (es.take 4))) (es.drop 4):=by
 rw[zwQ,dif_neg (λe=>by rw[e]at h;simp at h)]
theorem zzU(p:Nat×Nat)(es:List Ent):U (dI p es)<=5+15*U es:=by
 have:=zI es;unfold dI bp aW;rw[xL,xC];simp only[xC,P7];omega
theorem zxJ(p:Nat×Nat)(es:List Ent):U (zwQ p es)<=20*U es:=by
 generalize hn:U es=n;induction n using Pm generalizing p es with
 |_ n ih=>
  rcases Pk (U es)with h | h
  ·have:es=[]:=P4 h;subst this;rw[zxK];simp
  ·rw[zxv p es h,xL];have h1:=zzU p (es.take 4);have h2:=ih (es.drop 4).length (by simp;omega) (aD p (bp (es.take 4))) (es.drop 4) rfl;rw[P2]at h1;rw[P3]at h2;omega
theorem zyn(es:List Ent)(n:Nat):ax (es.take n)=(ax es).take (n*3):=by
 induction n generalizing es with
 |zero=>simp[ax]
 |succ n ih=>
  cases es with
  |nil=>simp[ax]
  |cons e es=>
   rw[List.take_succ_cons,show ax (e::es.take n)=e.cells++ax (es.take n)from rfl,show ax (e::es)=e.cells++ax es from rfl,ih,
    show(n+1)*3=U e.cells+n*3 from by simp[Ent.cells];omega,List.take_length_add_append]
theorem zym(es:List Ent)(n:Nat):ax (es.drop n)=(ax es).drop (n*3):=by
 induction n generalizing es with
 |zero=>simp[ax]
 |succ n ih=>
  cases es with
  |nil=>simp[ax]
  |cons e es=>
   rw[List.drop_succ_cons,show ax (e::es)=e.cells++ax es from rfl,ih,
    show(n+1)*3=U e.cells+n*3 from by simp[Ent.cells];omega,List.drop_length_add_append]
theorem Es.take{A:Option Addr}(h:Es w (E A m c) es)(n:Nat)(hn:n<=U es):Es w (E A n c) (es.take n):=by
 obtain⟨hl,A',c',e,h1,h2,h3⟩:=h;cases e;unfold Es;rw[P2,Pr hn,zyn];refine⟨by rw[P2,hl];omega,A,c,rfl,by omega,h2,λf=>?_⟩;obtain⟨b,d,rfl,hc⟩:=h3 (by omega);refine⟨b,d,rfl,λj u a=>hc j u ?_⟩;rw[List.getElem?_take]at a;split at a
 ·exact a
 ·cases a
theorem Es.drop{b a:Nat}(h:Es w (E (I ⟨b,a,M⟩) m c) es)(n:Nat)(hn:n<=U es):Es w (E (I ⟨b,a+n*3,M⟩) (m-n) (c-n)) (es.drop n):=by
 obtain⟨hl,A',c',e,h1,h2,h3⟩:=h;cases e;unfold Es;rw[P3,zym];refine⟨by rw[P3,hl];omega,_,_,rfl,by omega,by omega,λd=>?_⟩;obtain⟨d,d,e',hc⟩:=h3 (by omega);cases e';refine⟨b,a+n*3,rfl,λj u a=>?_⟩;rw[Pp];exact hc (n*3+j) u (by rw[<-a,List.getElem?_drop])
theorem zyt(h:bQ es=true)(n:Nat):bQ (es.take n)=true/\bQ (es.drop n)=true:=by
 unfold bQ at *;rw[P6]at h;exact⟨P6.2 λx hx=>h x (List.mem_of_mem_take hx),P6.2 λx hx=>h x (List.mem_of_mem_drop hx)⟩
def qV:Value->Nat
 |E _ n _=>n
 |_=>0
def zyq(first:Int)(es:List Ent):Int×List UInt8:=
 if(cK first).1=0/\bQ es=true then(0,(cK first).2++zwQ (aD (0,0) (cK first).2) es)else(2,[])
theorem zzo(first:Int):(cK first).1=0\/(cK first).1=2:=by unfold cK;split<;>simp
def Ov(bs:List UInt8)(w:World)(e:Ending)(w':World):Prop:=∃a,e=.returned a/\PtV a (aD (0,0) bs)/\w=w'
theorem Dh(b:Value)(a:List (List UInt8))(w:World)(h:Parts w b a):Calls G 218 #[.complex .f64 0 0,b] w (Ov a.flatten w):=by
 have d:=PtV.zero.pt;have:=pS 0 0 b a w h;unfold sy at this;rw[d]at this;exact this
attribute [local go_sem] Oper.semAt_some
theorem Es.cap{A:Option Addr}{c':Nat}(h:Es w (E A m c) es)(h1:U es<=c')(h2:c'<=9223372036854775807):Es w (E A m c') es:=by
 obtain⟨hl,A',a,e,_,_,h3⟩:=h;cases e;exact⟨hl,A,c',rfl,h1,by simpa[maxLen]using h2,h3⟩
def zwR(es:List Ent):List (List Ent):=
 if h:es=[]then[]else es.take 4::zwR (es.drop 4)
termination_by (U es)
decreasing_by
 have:0<U es:=Pc.2 h;simp;omega
theorem zxi:zwR []=[]:=by rw[zwR];simp
theorem zxc(es:List Ent)(h:0<U es):zwR es=es.take 4::zwR (es.drop 4):=by
 rw[zwR,dif_neg (λe=>by rw[e]at h;simp at h)]
theorem zy2(r f:World)(v:Value)(es:List Ent)(p:Es r v es)(P:U es<=2000000)(bs a:Nat)(t:Boxed f bs 42 v)(z:Boxed f a 3 (C O 4)):
  Seq G 373 #[S (I ⟨bs,0,M⟩),S (I ⟨a,0,M⟩)]
   (λ(part:List Ent) av _=>∃u,av = #[u]/\Es r u part) (λk o=>(k=bs/\o.ty=I 42)\/(k=a/\o.ty=I 3)) (λ_ _=>False) (zwR es) f:=by
 intro l J P K KI L H;obtain⟨A,c,rfl,h1,h2⟩:=xO p;refine(callsIn_wd (ro:=none) (n:=9)).1 ?_;refine callsIn_of_wp func373 rfl trivial ?_ rfl;simp only[ntmps373,P9,xC,P7,Po,Pn,Pv,Pu,Pa,P8,xI,P5];gi_wp2;gi_loopw [4] (λj W=>∃(k:Nat) (done:List (List Ent)),j=C O k/\k<=U es+3/\Hid (zwR es=done++zwR (es.drop k))/\Hid (J done W)/\Boxed W bs 42 (E A es.length c)/\Boxed W a 3 (C O 4)/\f.heap.size<=W.heap.size) (λj _=>U es+4-(intOf j).toNat)
 case atStart=>exact⟨0,[],rfl,Pq _,rfl,H,t,z,xN _⟩
 case round=>
  obtain⟨k,done,rfl,hk,HC,s,x,y,Hx⟩:=hrel;have t:=x.cell;have t:=y.cell;by_cases t:k<U es
  ·obtain⟨_,b,i,rfl,hc⟩:=Es.at_ p (by omega);gi_wp2;gi_region
   have t:(if((U es-k:Nat):Int)<4 then((U es-k:Nat):Int)else 4)=((min (U es-k) 4:Nat):Int):=by split<;>omega
   rw[t];have t:min (U es-k) 4<=4:=by omega
   have t:k+min (U es-k) 4<=U es:=by omega
   have t:0<min (U es-k) 4:=by omega
   have z:(es.drop k).take 4=(es.drop k).take (min (U es-k) 4):=by
    rcases Nat.le_total (U es-k) 4 with h | h
    ·rw[Pr h,P1 (by simp;omega),P1 (by simp)]
    rw[Nat.min_eq_right h]
   have t:=zxc (es.drop k) (by simp;omega);rw[List.drop_drop]at t;have g:=HC.out;rw[t,z]at g;generalize min (U es-k) 4=N at *;have d:=R g;have z:=R (K _ _ _ s (Moves.refl.drew));have t:Es r (E (I ⟨b,i+k*3,M⟩) N N) ((es.drop k).take N):=by
    refine Es.cap (Es.take (Es.drop p k (by omega)) N (by rw[P3];omega)) ?_ (by omega);rw[P2,P3];omega
   have p:=L done _ _ d wr.drew #[E (I ⟨b,i+k*3,M⟩) N N] z Hx ⟨_,rfl,t⟩;have r:=R p;have D:Boxed wr.drew bs 42 (E (I ⟨b,i,M⟩) es.length c):=x;have F:Boxed wr.drew a 3 (C O 4):=y;have p:done++[(es.drop k).take N] <+: zwR es:=by
    rw[d.out];exact⟨_,by rw[Pe];rfl⟩
   have B:=R p;gi_wp2;refine ew r ?_;rintro e W' ⟨Hk,⟨rfl,q⟩|⟨rfl,q⟩⟩
   ·refine⟨true,rfl,?_⟩;have p:Boxed W' bs 42 (E (I ⟨b,i,M⟩) es.length c):=Hk.boxed D (.inl (.inl ⟨rfl,rfl⟩));have i:Boxed W' a 3 (C O 4):=Hk.boxed F (.inl (.inr ⟨rfl,rfl⟩));have a:=i.cell;have a:f.heap.size<=W'.heap.size:=Ps Hx Hk.size;have HQ:=R q;gi_wp2;refine⟨⟨k+4,_,by go_num,by omega,?_,HQ,p,i,a⟩,by simp[intOf];omega⟩;show _=_;rw[d.out,Pe];rfl
   refine⟨false,rfl,?_⟩;have HQ:=R q;gi_wp2;refine bodyPost_ret (results_none rfl _ _ _) rfl ?_;exact⟨⟨_,rfl⟩,.inr ⟨_,B.out,HQ.out⟩⟩
  ·have g:=HC.out;rw[List.drop_of_length_le (by omega),zxi,List.append_nil]at g;have d:=R g;gi_wp2;refine bodyPost_end (results_none rfl _ _ _) rfl ?_;exact⟨⟨_,rfl⟩,.inl (by rw[d.out];exact s.out)⟩
theorem zzb(A:Option Addr)(n c:Nat)(w:World):Calls G 369 #[E A n c,C O 4] w λe w'=>
  e=.returned (.func (.func 373) #[] #[S (I ⟨w.heap.size,0,M⟩),S (I ⟨w.heap.size+1,0,M⟩)]) /\
  (w.alloc (F #[E A n c] 42)).alloc (F #[C O 4] 3)=w':=by
 go_enter func369,ntmps369
 go_wp2;go_ret;exact⟨rfl,rfl⟩
theorem zy1(a b:Nat)(A:Option Addr)(n c:Nat)(w:World):Calls G 363 #[.complex .f64 a b,E A n c] w λe w'=>
  e=.returned (.func (.func 368) #[] #[S (I ⟨w.heap.size+1,0,M⟩),S (I ⟨w.heap.size,0,M⟩)]) /\
  (w.alloc (F #[.complex .f64 a b] 212)).alloc (F #[E A n c] 42)=w':=by
 go_enter func363,ntmps363
 go_wp2;go_ret;exact⟨rfl,rfl⟩
def zwM(p:Nat×Nat):List (List Ent)->List (List UInt8)
 |[]=>[]
 |c::cs=>dI p c::zwM (aD p (bp c)) cs
theorem zx9(p:Nat×Nat)(es:List Ent):(zwM p (zwR es)).flatten=zwQ p es:=by
 generalize hn:U es=n;induction n using Pm generalizing p es with
 |_ n ih=>
  rcases Pk (U es)with h | h
  ·have:es=[]:=P4 h;subst this;rw[zxi,zxK];rfl
  ·rw[zxc es h,zxv p es h,zwM,List.flatten_cons,ih (es.drop 4).length (by simp;omega) _ _ rfl]
def zw8(p:Nat×Nat)(cs:List (List Ent)):Nat×Nat:=cs.foldl (λq c=>aD q (bp c)) p
theorem zyM(p:Nat×Nat)(cs:List (List Ent))(c:List Ent):zw8 p (cs++[c])=aD (zw8 p cs) (bp c):=by unfold zw8;rw[Pd];rfl
theorem zw2(p:Nat×Nat)(a b:List (List Ent)):zwM p (a++b)=zwM p a++zwM (zw8 p a) b:=by
 induction a generalizing p with
 |nil=>rfl
 |cons x a ih=>rw[P5,zwM,zwM,ih];rfl
theorem zy3(es:List Ent)(h:bQ es=true):∀c∈zwR es,fh c=true:=by
 generalize hn:U es=n;induction n using Pm generalizing es with
 |_ n ih=>
  rcases Pk (U es)with a | a
  ·have:es=[]:=P4 a;subst this;rw[zxi];intro c hc;cases hc
  ·rw[zxc es a];intro c hc;rcases List.mem_cons.1 hc with rfl | hc
   ·simp[fh,(zyt h 4).1];omega
   ·exact ih (es.drop 4).length (by simp;omega) (es.drop 4) (zyt h 4).2 rfl c hc
