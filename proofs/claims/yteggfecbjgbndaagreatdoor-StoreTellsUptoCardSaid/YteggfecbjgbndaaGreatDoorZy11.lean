/- Merged -/
import Derived.Test.YteggfecbjgbndaaGreatDoorZy10
set_option linter.all false
set_option maxHeartbeats 8000000
set_option maxRecDepth 100000
open Go.Proofs.Tryz
open List renaming length->d
open Go.Value renaming int->C,slice->H,pointer->Q,bool->V,agg->Z
open Go.IntKind renaming i64->E,u8->L
open Option renaming none->F,some->O
open Go.Mv renaming aN->G
open Go.Obj renaming cells->I
open Go.Proofs.Tryz renaming prog->M
open List renaming length_drop->P0,take_succ_eq_append_getElem->P1,length_nil->P2,append_toArray->P3,size_toArray->P4,push_toArray->P5,length_take->P6,cons_append->P7,getElem?_eq_getElem->P8,take_of_length_le->P9,length_take_le->Pa,append_assoc->Pb,append_nil->Pc,map_cons->Pd,map_nil->Pe
open Go.World renaming ownsRow_nil->Pf
open Go.RowKit.Below renaming setCell->Pg
open Go.Mv.Ext renaming grown->Ph
open Array renaming replicate_zero->Pi,replicate_succ->Pj
open Nat renaming le_trans->Pk,zero_le->Pl,reduceSub->Pm,reduceAdd->Pn,pow_le_pow_right->Po,lt_of_lt_of_le->Pp,pow_succ->Pq
open Go.Value renaming slice->Pr
open Go.Oper renaming semAt_some->Ps
namespace Go.Proofs.YteggfecbjgbndaaGreatDoor
open Go.RowKit Go.Mv Go.Shelf
variable {b p:List UInt8}
attribute [local go_sem] Ps
def cW(n:Nat):List UInt8:=a8 8 n false 4
def aP(l:List Int):List UInt8:=l.flatMap λn=>cW n.toNat
theorem DO(n:Nat)(k:Nat):d (a8 8 n false k)=k+1:=by
 induction k with
 |zero=>simp[a8]
 |succ k ih=>rw[a8,if_neg (by simp)];simp[ih]
theorem io(n:Nat):d (cW n)=5:=DO n 4
theorem mK(l:List Int):d (aP l)=5*d l:=by
 induction l with
 |nil=>rfl
 |cons n l ih=>rw[show aP (n::l)=cW n.toNat++aP l from rfl,xL,io,ih,xC];omega
theorem zd{l:List Int}{k:Nat}(h:k<d l):aP (l.take (k+1))=aP (l.take k)++cW l[k].toNat:=by
 rw[P1 h];unfold aP;rw[List.flatMap_append];simp
def LgI(base N:Nat)(w:World)(bs a:List UInt8)(X:World):Prop:=
 ∃v,Boxed X N 33 v/\X.ownsRow base 5 1 v (bs++a).length ((bs++a).map bv)/\Below base w X
theorem IE(bs:List UInt8)(n:Nat)(hn:n<=1073741824)(R:Value)(base:Nat)(w:World)(H1:w.ownsRow base 5 1 R bs.length (bs.map bv))(y:base<=w.heap.size)(Hu:bs.length+5<=1099511627776):
  Calls M 280 #[R,C E n] w (BC base w (bs++cW n)):=by
 obtain⟨A,j,rfl,_,_⟩:=xO (xW H1);refine(callsIn_wd (ro:=none) (n:=9)).1 ?_;refine callsIn_of_wp_marks func280 rfl trivial ?_ rfl;simp only[ntmps280,P4,xC,P2,Pn,Pm,Pj,Pi,P5,P3,xI,P7];gi_wp2_with (refine⟨trivial,?_⟩;gi_at_call 182;refine(callsIn_wd.2 (yp n 8 5 false _)).mono ?_;rintro e w' ⟨rfl,rfl⟩)
 have hN:w.heap.size+5=(eR (w.alloc (Obj.cells #[Pr A bs.length j] 33)) n 8 5 false).heap.size:=by rw[(nS _ n 8 5 false).1];simp
 obtain⟨_,G,I,J,K,r⟩:=nS (w.alloc (Obj.cells #[Pr A bs.length j] 33)) n 8 5 false;generalize eR (w.alloc (Obj.cells #[Pr A bs.length j] 33)) n 8 5 false=w2 at *;simp only[xS]at G I J K;have N:LgI base w.heap.size w bs [] w2:=by
  refine⟨_,(Boxed.new w _ _).kept (W':=w2) (row:=none) (Ph r none) (by simp),?_,?_⟩
  ·have h1:=H1.alloc (Obj.cells #[Pr A bs.length j] 33);simpa using h1.kept (w':=w2) (row:=none) (Ph r none) (by cases A<;>simp[Value.ownBlock])
  exact(((Below.refl base w).alloc y _).trans (r.mono (by simp;omega)))
 refine dV (a:=⟨_,_⟩) rfl (enters_of func222 (by kernel_rfl) rfl)
  (λW1 hb _=>yc 8 n 5 false (.inr rfl) hn (by omega) (by omega) (w.heap.size+1+2) (w.heap.size+1) (w.heap.size+1+1) (w.heap.size+1+3) (by omega) (by omega) W1
    (J.kept (row:=none) (Ph hb none) (by simp)) (G.kept (row:=none) (Ph hb none) (by simp))
    (I.kept (row:=none) (Ph hb none) (by simp)) (K.kept (row:=none) (Ph hb none) (by simp)))
  (λk o h=>eE h.2) (λk o h=>by rcases h with h | h<;>exact eE h.2) (λx av W h=>by rw[h];rfl)
  (LgI base w.heap.size w bs) (λ_ _ _=>False) ?hI (λ_ _ _ _ h _=>h) N
  (λx a' _=>a'=⟨#[H A bs.length j,C E n,Q (O ⟨w.heap.size,0,F⟩),undef,H none 0 0,C L x.toNat,C E n,sM (w.heap.size+1),C L x.toNat,undef,undef,undef,undef,undef],[]⟩)
  (λ_ _ _ _ h _=>h) ?assign ?body ?done ?stop
 case hI=>
  rintro s X Y⟨v,i,P,g⟩hm;refine⟨v,hm.boxed i ?_,hm.ownsRow P ?_,hm.belowOf g ?_ y⟩
  ·rintro(h | h)
   ·have:=h.1;omega
   cases h.2
  ·rintro k Jv _(h | h)
   ·cases h.2
   cases h.2
  rintro k o hk(h | h)
  ·have:=h.1;omega
  have:=h.1;omega
 case assign=>
  rintro l d x KU W av K' hx B S rfl q;simp only[bv];gi_wp2;exact q _ _ Kept.refl B rfl
 case body=>
  rintro l d x KU a' W hx hl P⟨v,i,f,g⟩S rfl;have hm:(bs++d).length=bs.length+d.length:=by simp
  rw[hm]at f;obtain⟨A',c',rfl,_,_⟩:=xO (xW f);have HK:d.length<=4:=by
   have:=congrArg List.length hx;have:=qa 8 n false 4;simp at *;omega
  obtain⟨i0,B,U,V,Z⟩:=info_parts dC;have hc:=i.cell;have Kc:=i.not_row (e:=5) (by decide) f;gi_wp2_with (gi_at_builtin;refine wpListIn_append_own _ rfl (.tmp 9) (.tmp 11) 33 rfl base 5 i0 (C L 0) 1 1 underlying33 B U V Z rfl (by decide) (H A' (bs.length+d.length) c') (bs.length+d.length) ((bs++d).map bv) rfl (f.alloc _) ⟨W.heap.size,0,F⟩ 1 1 [C L (x.toNat:Int)] rfl rfl (cell_one_new _ _ _) (by simp[Value.oneCell']) (by simp[maxLen];omega) (by simp;omega) (by have:=g.size;simp;omega) ?_;intro v' w1 t z _;obtain⟨g',KC,rfl,_,_,_⟩:=ia t (hn:=by omega);have m:=(i.alloc _).kept z Kc;have G2:=m.cell;have G3:=m.frozen)
  refine⟨Kept.appended _ i f z ?_ ?_,_,m.set _,?_,?_⟩
  ·rintro((⟨_,h⟩|⟨_,h⟩)| ⟨_,h⟩)<;>cases h
  ·rintro k Jv _((⟨_,h⟩|⟨_,h⟩)| ⟨_,h⟩)<;>cases h
  ·have h:=t.kept (grownBy_setCell' w1 w.heap.size (H (O ⟨g',0,F⟩) (bs.length+d.length+1) KC)) (.inr (m.not_row (by decide) t).symm);simpa[bv,Nat.add_assoc]using h
  refine(((g.alloc (by have:=g.size;omega) _).grown z (by have:=g.size;simp;omega) (λk ek=>?_)).setCell (p:=⟨w.heap.size,0,F⟩) y _);exact(f.lt k ek).1
 case done=>
  rintro D W hD⟨v,i,f,g⟩q;have hc:=i.cell;have G0:w.heap.size<=w2.heap.size:=by omega
  clear N H1 G I J K r hN;have Kg:=ownsRow_putObj f (.deferred none) q rfl;obtain⟨A',c',rfl,_,_⟩:=xO (xW f);gi_wp2;have Kh:(W.putObj D (.deferred none)).ownsRow base 5 1 (H A' (bs.length+(a8 8 n false 4).length) c') (bs++cW n).length ((bs++cW n).map bv):=by
   have h:=Kg;rw[xL]at h;rw[xL];exact h
  exact dh q (H A' (bs.length+(a8 8 n false 4).length) c') (by simp[results,results280,go_sem]) ⟨_,rfl,Kh,cp g (hD:=by omega) _⟩
 case stop=>
  rintro D c d W _ _ h _;exact h.elim
def sB(w:World)(l:List Int)(e:Ending)(w':World):Prop:=∃a,e=.returned (.tuple #[a,C E 0])/\w'.ownsRow w.heap.size 5 1 a (aP l).length ((aP l).map bv)/\Ext w w'
theorem IV(v:Value)(l:List Int)(w:World)(h:Is w v l)(hn:aG l=true)(hl:l.length<=2000000):
  Calls M 180 #[v,.func (.func 280) #[] #[]] w (sB w l):=by
 obtain⟨A,c,rfl,h1,h2⟩:=xO h;have j:=G hn;go_enter func180,ntmps180
 go_wp2_with (go_at_call 203;refine(ny _ _ _ h).mono ?_;rintro e w' ⟨rfl,rfl⟩)
 clear hn;go_loopw [4,13] (λq i wr=>∃k:Nat,k<=l.length/\i=C E k/\wr.ownsRow w.heap.size 5 1 q (aP (l.take k)).length ((aP (l.take k)).map bv)/\Ext w wr) (λ_ i _=>l.length-(intOf i).toNat)
 case atStart=>exact⟨0,Pl _,rfl,Pf _ _ _ _,xR _⟩
 case round=>
  obtain⟨k,z,rfl,H1,a⟩:=hrel;by_cases d:k<l.length
  ·obtain⟨_,b,r,rfl,hc⟩:=Is.at_ (h.ext a) (by omega);have t:=hc k d;clear hc;obtain⟨o,x⟩:=my j.out d;have s:=mK (l.take k);have y:(l.take k).length<=k:=Pa _ _;have key:=IE (aP (l.take k)) l[k].toNat (by omega) _ w.heap.size wr H1 a.size (by omega);rw[Int.toNat_of_nonneg o]at key;have n:=G key;clear key;go_wp2_with (go_at_call 280;refine n.out.mono ?_;rintro e D⟨B,rfl,g,m⟩)
   go_roundw
   case rel=>exact⟨k+1,by omega,by go_num,by rw[zd d];exact g,Below.trans a m⟩
   case measure=>simp[intOf];omega
  ·have f:l.take k=l:=P9 (by omega);rw[f]at H1;clear f;go_wp2_with fail
   go_ret2;exact⟨_,rfl,H1,a⟩
theorem M7(v:Value)(l:List Int)(w:World)(h:Is w v l)(hn:aG l=true)(hl:l.length<=2000000):Calls M 238 #[v] w (sB w l):=by
 go_enter func238,ntmps238
 go_wp2_with (go_at_call 180;refine(IV _ _ _ h hn hl).mono ?_;rintro e w' ⟨c,rfl,a,hb⟩)
 go_ret2;exact⟨_,rfl,a,hb⟩
def beN(l:List UInt8):Nat:=l.foldl (λa b=>a*256+b.toNat) 0
theorem AT(l:List UInt8)(b:UInt8):beN (l++[b])=beN l*256+b.toNat:=by unfold beN;rw[List.foldl_append];rfl
def az(bs:List UInt8):Int×Nat×List UInt8:=if d bs<5 then(10,0,[])else if beN (bs.take 5)<=1073741824 then(0,beN (bs.take 5),bs.drop 5)else(11,0,[])
theorem Mx(n:Nat)(h:n<=1073741824):beN (cW n)=n:=by
 simp[cW,a8,beN];omega
theorem DR(n:Nat)(h:n<=1073741824)(r:List UInt8):az (cW n++r)=(0,n,r):=by
 unfold az;have hl:=io n;rw[if_neg (by rw[xL,hl];omega),List.take_left' hl,List.drop_left' hl,Mx n h,if_pos h]
theorem ml(v:Value)(bs:List UInt8)(w:World)(Hs:Bs w v bs)(hl:bs.length<=2000000:=by omega):Calls M 204 #[v] w (iB w (az bs)):=by
 obtain⟨A,c,rfl,h1,h2⟩:=xO Hs;by_cases h5:(bs.length:Int)<5
 ·have ht:az bs=(10,0,[]):=by unfold az;rw[if_pos (by omega)]
  have Ht:=G ht;clear ht;go_enter Tryz.func204,Tryz.ntmps204
  go_wp2_with fail
  go_ret3;exact⟨_,by rw[Ht.out];rfl,by rw[Ht.out];exact Pf _ _ _ _,xR _⟩
 obtain⟨_,b,H7,rfl,hc⟩:=Bs.at_ Hs (by omega);have HC:=G hc;have Kt:=G Hs;have Kk:az bs=if beN (bs.take 5)<=1073741824 then(0,beN (bs.take 5),bs.drop 5)else(11,0,[]):=by unfold az;rw[if_neg (by omega)]
 have K1:=G Kk;have Jz:(5:Int)<=(c:Int):=by omega
 clear hc Hs Kk;go_enter Tryz.func204,Tryz.ntmps204
 go_wp2_with fail
 go_loop [2,13] (λnn ii=>∃k n:Nat,k<=5/\Hid (n=beN (bs.take k))/\n<1099511627776/\Hid (n<256^k)/\nn=C E n/\ii=C E k) (λ_ ii=>5-(intOf ii).toNat)
 case atStart=>exact⟨0,0,by omega,rfl,by omega,by show _<_;decide,rfl,rfl⟩
 case round=>
  obtain⟨k,n,hk,Hn,hn,HZ,rfl,rfl⟩:=hrel;by_cases Hc:k<5
  ·have HW:k<bs.length:=by omega
   have JG:=HC.out k HW;have hq:=bs[k].toNat_lt;have Ki:beN (bs.take (k+1))=n*256+bs[k].toNat:=by rw[P1 HW,AT,Hn.out]
   have JM:n<4294967296:=Pp HZ.out (Pk (Po (by decide) (show k<=4 by omega)) (by decide));have Hk:n*256+bs[k].toNat<256^(k+1):=by rw[Pq];have:=HZ.out;omega
   have KA:=G Ki;have HD:=G Hk;clear Ki Hk;generalize bs[k].toNat=q at *;have ho:bits .or .i64 ((n:Int)*256) (q:Int)=(n:Int)*256+(q:Int):=bits_join .i64 62 (by decide) lD 8 _ _ (by omega) (by omega) (by omega) (by omega) (by omega) (by omega);go_wp2_with fail
   go_round
   case rel=>exact⟨k+1,n*256+q,by omega,by show _=_;rw[KA.out],by omega,HD.out,by simp,by go_num⟩
   case measure=>simp[intOf];omega
  ·obtain rfl:k=5:=by omega
   have K6:=xW (be w [C E (n:Int)] 3 1 (hm:=rfl) (hl:=by simp[maxLen]) (xN _));have He:Is (w.alloc (I #[C E (n:Int)] 3)) (H (O ⟨w.heap.size,0,F⟩) 1 1) [(n:Int)]:=K6;have ha:aG [(n:Int)]=decide (n<=1073741824):=by simp[aG,aB];omega
   have Ha:=G ha;have H0:Ext w (w.alloc (I #[C E (n:Int)] 3)):=xA (xR _) _;clear K6 ha;have KT:∃vs:Value,(∀W,Ext w W->Bs W vs (bs.drop 5))/\vs=H (if c=5 then some ⟨b,H7,F⟩else some ⟨b,H7+5,F⟩) (bs.length-5) (c-5):=by
    by_cases hck:c=5
    ·exact⟨_,λW _=>Bs.cut0 (A:=O ⟨b,H7,F⟩) (n:=bs.length) (k:=5) (c:=c-5) (bs:=bs) (by omega) rfl (by omega),by rw[if_pos hck]⟩
    exact⟨_,λW hE=>Bs.cut (Kt.out.ext hE) 5 (by omega) rfl,by rw[if_neg hck]⟩
   obtain⟨vs,Hl,Ho⟩:=KT;have Kz:=G Hl;have HV:=G Ho;clear Hl Ho;by_cases hok:n<=1073741824
   ·have hr:az bs=(0,n,bs.drop 5):=by rw[K1.out,<-Hn.out,if_pos hok]
    have Hr:=G hr;have JI:(bs.drop 5).length<=2000000:=by rw[P0];omega
    clear hr;go_wp2_with (first
     |(go_at_call 203;refine(ny _ _ _ He).mono ?_;rw[Ha.out,decide_eq_true hok];rintro e w1⟨rfl,rfl⟩)
     |(go_at_call 147;rw[<-HV.out];refine(ol _ _ _ (Kz.out _ H0) (by omega)).mono ?_;rintro e w2⟨v2,rfl,JO,Hb⟩))
    go_ret3;rw[Hr.out];exact⟨_,rfl,ay JO H0.size,xT H0 Hb⟩
   ·have hr:az bs=(11,0,[]):=by rw[K1.out,<-Hn.out,if_neg hok]
    have Hr:=G hr;clear hr;go_wp2_with (go_at_call 203;refine(ny _ _ _ He).mono ?_;rw[Ha.out,decide_eq_false hok];rintro e w1⟨rfl,rfl⟩)
    go_ret3;rw[Hr.out];exact⟨_,rfl,Pf _ _ _ _,H0⟩
open Go.RowKit Go.Mv
variable {T:Tab}
theorem FN(b:List UInt8):d (bh T b)=d b+4:=by unfold bh;rw[xL,lx]
variable {T:Tab}
def bN(T:Tab)(b:List UInt8):Option (List UInt8):=if ed (cR T 0 (b.take (d b-4)))=b.drop (d b-4)then some (b.take (d b-4))else none
theorem DM(v:Value)(bs:List UInt8)(w:World)(h:Bs w v bs)(hl:5<=bs.length)(JK:bs.length<=100000)(Z:TabW T w):Calls M 78 #[v] w λe w'=>
  (match bN T bs with
  |some p=>∃A c,e=.returned (.tuple #[H A p.length c,V true])/\OwnB w' w.heap.size (H A p.length c) p
  |none=>e=.returned (.tuple #[H none 0 0,V false]))/\Ext w w':=by
 obtain⟨A,c,rfl,h1,h2⟩:=xO h;obtain⟨_,b,H7,rfl,hc⟩:=Bs.at_ h (by omega);obtain⟨n,hn⟩:∃n,bs.length-4=n:=⟨_,rfl⟩;have X:bs.length=n+4:=by omega
 have s:=Bs.take h n (by omega);have q:=Bs.cut h n (by omega) rfl;rw[show bs.length-n=4 from by omega]at q;have KQ:1<=n:=by omega
 have G6:n<=100000:=by omega
 have t:(bs.take n).length=n:=by rw[P6];omega
 have D:(bs.drop n).length=4:=by rw[P0];omega
 unfold bN;rw[hn];obtain⟨p,hp⟩:∃p,bs.take n=p:=⟨_,rfl⟩;obtain⟨g,hg⟩:∃g,bs.drop n=g:=⟨_,rfl⟩;rw[hp]at s t⊢;rw[hg]at q D⊢;have x:=oK (T:=T) 0 p (by decide);obtain⟨o,E⟩:∃o,cR T 0 p=o:=⟨_,rfl⟩;rw[E]at x⊢;have Q:=G Z;have z:=G s;have Y:=G q;have W:=G E;obtain⟨a,d,f,i,hf⟩:∃a d f i:UInt8,ed o=[a,d,f,i]:=⟨_,_,_,_,rfl⟩;have R:=G hf;rw[hf];have JX:=G t;have JW:=G D;rw[X]at h1⊢;clear hc h s q hp hg E Z hn hl JK D X hf;subst t;have G7:(p.length:Int)<=(c:Int):=by omega
 have JH:¬(c=p.length):=by omega
 have G8:(p.length:Int)<=(p.length:Int)+4:=by omega
 have m:Ext w (w.alloc (I #[H (O ⟨b,H7,F⟩) p.length c] 33)):=xA (xR _) _;by_cases k:[a,d,f,i]=g
 all_goals
  have U:=G k
 ·rw[if_pos k];clear k;go_enter func78,ntmps78
  go_wp2_with fail
  refine(mx (T:=T) w.heap.size _ c p _ (Boxed.new w _ _).cell (z.out.ext m) (by omega) (Q.out.ext m)).mono ?_;rw[W.out];rintro e w1⟨rfl,r⟩;have J:=xT m r;go_wp2_with fail
  refine(mE o x _).mono ?_;rw[R.out];rintro e j⟨rfl,y⟩;simp only[Pd,Pe,bv];have N:=xT J y;have hb3:Blk (j.alloc (I #[C L (a.toNat:Int),C L (d.toNat:Int),C L (f.toNat:Int),C L (i.toNat:Int)] 188)) j.heap.size 188 ([a,d,f,i].map bv).toArray:=Blk.new j _ _;have l:Ext w (j.alloc (I #[C L (a.toNat:Int),C L (d.toNat:Int),C L (f.toNat:Int),C L (i.toNat:Int)] 188)):=xA N _;have h4:Bs (j.alloc (I #[C L (a.toNat:Int),C L (d.toNat:Int),C L (f.toNat:Int),C L (i.toNat:Int)] 188)) (H (O ⟨j.heap.size,0,F⟩) 4 4) [a,d,f,i]:=fZ hb3 rfl (by simp[maxLen]);go_wp2_with fail
  refine wp_region_held_drew (S:=λ_=>True) (by kernel_rfl) trivial (λ_=>?_);refine ab 0 ?_;refine ab 1 ?_;refine ab 2 ?_;refine ab 3 ?_;refine ah 4 (λK P=>?_);go_simp;have B:=fI _ _ _ _ _ (h4.ext (xD (xR _))) (Y.out.ext (xD l));refine B.mono ?_;rw[decide_eq_true U.out];rintro e w4⟨rfl,rfl⟩;try(go_wp2_with fail)
  refine af P _ _ trivial (λ_=>?_);refine ab 5 ?_;refine aq ?_;go_wp2_with fail
  refine(yz _ p _ (z.out.ext (xD l)) (by omega) (by omega)).mono ?_;rintro e w5⟨A5,c5,rfl,HX,Hd⟩;go_wp2_with fail
  go_ret2;exact⟨⟨A5,c5,rfl,ay HX (xD l).size⟩,xT (xD l) Hd⟩
 ·rw[if_neg k];clear k;go_enter func78,ntmps78
  go_wp2_with fail
  refine(mx (T:=T) w.heap.size _ c p _ (Boxed.new w _ _).cell (z.out.ext m) (by omega) (Q.out.ext m)).mono ?_;rw[W.out];rintro e w1⟨rfl,r⟩;have J:=xT m r;go_wp2_with fail
  refine(mE o x _).mono ?_;rw[R.out];rintro e j⟨rfl,y⟩;simp only[Pd,Pe,bv];have N:=xT J y;have hb3:Blk (j.alloc (I #[C L (a.toNat:Int),C L (d.toNat:Int),C L (f.toNat:Int),C L (i.toNat:Int)] 188)) j.heap.size 188 ([a,d,f,i].map bv).toArray:=Blk.new j _ _;have l:Ext w (j.alloc (I #[C L (a.toNat:Int),C L (d.toNat:Int),C L (f.toNat:Int),C L (i.toNat:Int)] 188)):=xA N _;have h4:Bs (j.alloc (I #[C L (a.toNat:Int),C L (d.toNat:Int),C L (f.toNat:Int),C L (i.toNat:Int)] 188)) (H (O ⟨j.heap.size,0,F⟩) 4 4) [a,d,f,i]:=fZ hb3 rfl (by simp[maxLen]);go_wp2_with fail
  refine wp_region_held_drew (S:=λ_=>True) (by kernel_rfl) trivial (λ_=>?_);refine ab 0 ?_;refine ab 1 ?_;refine ab 2 ?_;refine ab 3 ?_;refine ah 4 (λK P=>?_);go_simp;have B:=fI _ _ _ _ _ (h4.ext (xD (xR _))) (Y.out.ext (xD l));refine B.mono ?_;rw[decide_eq_false U.out];rintro e w4⟨rfl,rfl⟩;try(go_wp2_with fail)
  refine af P _ _ trivial (λ_=>?_);refine ab 5 ?_;refine aq ?_;go_wp2_with fail
  go_ret2;exact⟨rfl,xD l⟩
def ei(T:Tab)(b:List UInt8):Option Ent:=
 match bN T b with
 |none=>none
 |some p=>
  if(az p).1=0 then
   (if(az ((az p).2.2.drop 1)).1=0 then
     (if okB (az p).2.1 (((az p).2.2.getD 0 0).toNat:Int) (az ((az p).2.2.drop 1)).2.1=true then some ⟨(az p).2.1,(((az p).2.2.getD 0 0).toNat:Int),(az ((az p).2.2.drop 1)).2.1⟩else none)
   else none)
  else none
def N0(w:World)(r:Option Ent)(e:Ending)(w':World):Prop:=(match r with
 |some x=>e=.returned (.tuple #[Z #[C E x.t,C E x.k,C E x.v],V true])
 |none=>e=.returned (.tuple #[Z #[C E 0,C E 0,C E 0],V false]))/\Ext w w'
theorem pY(h:bN T b=O p):d p=d b-4:=by
 unfold bN at h;split at h
 ·cases h;rw[P6];omega
 ·cases h
attribute [local go_sem] Ps
variable {T:Tab}
theorem Co:Tryz.prog.underlying 54=O (.struct (Tryz.prog.fieldsOf 54)):=by kernel_rfl
theorem Ag(tmps:Array Value)(W:World)(b:Nat)(cs:Array Value)(u:Value)(h2:tmps.getD 2 undef=Q (O ⟨b,0,F⟩))(h3:tmps.getD 3 undef=u)(hb:Blk W b 54 cs)(hs:cs.size=3):(results Tryz.f353 tmps).run M W=.ok (.tuple #[.agg cs,u]) W:=by
 have hl:=hb.load (P:=M) Co rfl (by rw[hs];kernel_rfl);have a:tmps[2]?.getD undef=Q (O ⟨b,0,F⟩):=by simpa using h2
 have c:tmps[3]?.getD undef=u:=by simpa using h3
 simp[results,results353,a,c,asAddr,hl]
theorem takeLong_rest(h:(az p).1=0):(az p).2.2=p.drop 5:=by
 unfold az at h⊢;split at h
 ·cases h
 ·rename_i h5;rw[if_neg h5];split at h
  ·rename_i hb;rw[if_pos hb]
  ·cases h
theorem tV:(az p).2.1<=1073741824:=by
 unfold az;split
 ·exact Pl _
 ·split
  ·assumption
  ·exact Pl _
def TkJ(w:World)(r:Option Ent)(a:Act)(W:World):Prop:=
 a.defers=[]/\a.tmps.size=46/\a.tmps.getD 2 undef=Q (O ⟨w.heap.size,0,F⟩)/\(∃x y z,Blk W w.heap.size 54 #[x,y,z])/\Ext w W/\Hid (r=none)
theorem Ib(v:Value)(bs:List UInt8)(w:World)(hB:Bs w v bs)(hl:bs.length=15)(hT:TabW T w):Calls M 353 #[v] w (N0 w (ei T bs)):=by
 obtain⟨A,c,rfl,h1,h2⟩:=xO hB;have KI:=Blk.new w 54 #[C E 0,C E 0,C E 0];have hX:Ext w (w.alloc (I #[C E 0,C E 0,C E 0] 54)):=xA (xR _) _;have Je:=DM (T:=T) _ bs _ (hB.ext hX) (by omega) (by omega) (hT.ext hX);have Hu:∀p,bN T bs=O p->p.length=11:=λp h=>by rw[pY h,hl]
 have JP:ei T bs=ei T bs:=rfl;obtain⟨R,f⟩:∃R,ei T bs=R:=⟨_,rfl⟩;have KH:=f;unfold ei at KH;rw[f];refine(callsIn_wd (ro:=none) (n:=9)).1 ?_;refine callsIn_of_wp_marks func353 rfl trivial ?_ rfl;simp only[ntmps353,P4,xC,P2,Pn,Pm,Pj,Pi,P5,P3,xI,P7];have HY:=G Je;have HB:=G Hu;have HR:=G KH;have Ga:w.heap.size<(w.alloc (I #[C E 0,C E 0,C E 0] 54)).heap.size:=by simp
 clear Je Hu JP f KH hB hT hl;gi_wp2;refine eU 0 (TkJ w R) (λa _=>0) (hf:=rfl) (λl' h=>by cases l'<;>first | exact absurd rfl h | rfl) ?_ ?_
 ·intro H3;clear H3;cases q:bN T bs with
  |none=>
   rw[q]at HY HR;have K:Hid (R=none):=HR.out.symm;clear HR HB q;gi_wp2_with (refine⟨trivial,?_⟩;gi_at_call 78;refine(callsIn_wd.2 HY.out).mono ?_;rintro e D⟨rfl,s⟩)
   refine wpIn_goto ?_;simp only[Exit.then];refine bI (h:=by simp) ?_;exact⟨rfl,rfl,rfl,⟨_,_,_,KI.ext s⟩,xT hX s,K.out⟩
  |some p=>
   have hp:=HB.out p q;rw[q]at HY HR;clear HB q;have HQ:=λ(w':World) (vv:Value) (h:Bs w' vv p)=>ml vv p w' h (hl:=by omega);have H3:=@takeLong_rest p;rcases Kl:az p with⟨e1,t,rest⟩
   rw[Kl]at HQ H3;have N:=HR.out;simp only[Kl]at N;have K3:=G HQ;clear HR HQ Kl;by_cases he1:e1=0
   ·subst he1;have Jh:rest.length=6:=by
     have h:=H3 rfl;dsimp only at h;rw[h,P0,hp]
    simp only[if_true]at N;obtain⟨d,KO⟩:∃d,rest.getD 0 0=d:=⟨_,rfl⟩;rw[KO]at N;have Jf:rest[0]?=O d:=by
     rw[P8 (by omega),<-KO];simp[List.getD_eq_getElem?_getD,P8 (show 0<rest.length by omega)]
    obtain⟨KN,Kb⟩:=List.getElem?_eq_some_iff.1 Jf;have HS:=λ(w':World) (vv:Value) (h:Bs w' vv (rest.drop 1))=>ml vv (rest.drop 1) w' h (hl:=by rw[P0];omega);rcases r:az (rest.drop 1)with⟨e2,B,rest2⟩
    rw[r]at HS;simp only[r]at N;have KB:=G HS;have Jq:=G Kb;have K0:=G Jh;clear HS r KO Jf H3 Kb Jh;have G5:IntKind.i64.wrap (d.toNat:Int)=(d.toNat:Int):=by
     have:=d.toNat_lt;rw[IntKind.wrap_i64];omega
    have KZ:=G N;have Hp:=G hp;clear N hp;gi_wp2_with (refine⟨trivial,?_⟩;gi_at_call 78;refine(callsIn_wd.2 HY.out).mono ?_;rintro e D⟨⟨A1,c1,rfl,Ke⟩,s⟩;have H9:Bs D (H A1 p.length c1) p:=xW Ke;have Hz:=G H9;have Ku:=G s;have Y:=KI.ext s;have Gb:w.heap.size<D.heap.size:=Y.lt;clear H9 Ke s;obtain⟨m,o,g,j,k,l⟩:=au Y)
    refine⟨trivial,?_⟩;refine(callsIn_wd.2 (K3.out D _ Hz.out)).mono ?_;rintro e J⟨vr,rfl,Jl,X⟩;have HO:OwnB J D.heap.size vr rest:=Jl;obtain⟨q2,c2,Jk,G9,KK,JF⟩:=ia HO (hn:=by rw[K0.out];omega);rw[K0.out]at Jk KK;subst Jk;have HF:=Y.ext X;have Km:=G X;have J6:=G HO;clear m o g j k l Jl HO X Y;obtain⟨m,o,g,j,k,l⟩:=au HF;have Kc:some q2≠some w.heap.size:=λh=>by cases h;omega
    have o1:OwnB (J.setCell ⟨w.heap.size,0,F⟩ (C E t)) D.heap.size (H (O ⟨q2,0,F⟩) 6 c2) rest:=World.ownsRow.kept J6.out (ar _ _ 0 _) (.inr Kc);have o2:OwnB ((J.setCell ⟨w.heap.size,0,F⟩ (C E t)).setCell ⟨w.heap.size,1,F⟩ (C E d.toNat)) D.heap.size (H (O ⟨q2,0,F⟩) 6 c2) rest:=World.ownsRow.kept o1 (ar _ _ 1 _) (.inr Kc);have JQ:(J.setCell ⟨w.heap.size,0,F⟩ (C E t)).cell? ⟨q2,0,F⟩=O (C L (d.toNat:Int)):=by
     obtain⟨_,b',JV,e',hc⟩:=Bs.at_ (xW o1) (by rw[K0.out];omega);cases e';have:=hc 0 KN;rw[Jq.out]at this;exact this
    have hb3:=(HF.set 0 (C E t)).set 1 (C E d.toNat);have J9:Ext w ((J.setCell ⟨w.heap.size,0,F⟩ (C E t)).setCell ⟨w.heap.size,1,F⟩ (C E d.toNat)):=Pg (p:=⟨w.heap.size,1,F⟩) (Pg (p:=⟨w.heap.size,0,F⟩) (xT hX (xT Ku.out Km.out)) (xN _) _) (xN _) _;have J8:Bs ((J.setCell ⟨w.heap.size,0,F⟩ (C E t)).setCell ⟨w.heap.size,1,F⟩ (C E d.toNat)) (H (O ⟨q2,0+1,F⟩) (6-1) (c2-1)) (rest.drop 1):=Bs.cut (xW o2) 1 (by rw[K0.out];omega) K0.out.symm;have KV:=G J8;have J0:=G hb3;have Kn:=G J9;clear J8 hb3 J9 o1 o2;have JE:¬(c2=1):=by omega
    gi_wp2;have K4:Bs ((J.setCell ⟨w.heap.size,0,F⟩ (C E t)).setCell ⟨w.heap.size,1,F⟩ (C E d.toNat)) (H (O ⟨q2,1,F⟩) 5 (c2-1)) (rest.drop 1):=KV.out;have K7:Blk ((J.setCell ⟨w.heap.size,0,F⟩ (C E t)).setCell ⟨w.heap.size,1,F⟩ (C E d.toNat)) w.heap.size 54 #[C E t,C E d.toNat,C E 0]:=J0.out;have K5:=Kn.out;clear KV J0 Kn m o g j k l HF Km JQ J6;generalize(J.setCell ⟨w.heap.size,0,F⟩ (C E t)).setCell ⟨w.heap.size,1,F⟩ (C E d.toNat)=w3 at *;have Kn:=G K5;have key:=KB.out w3 _ K4;clear K5 K4;refine⟨trivial,?_⟩;refine(callsIn_wd.2 key).mono ?_;rintro e w4⟨Gc,rfl,-,KD⟩;have K8:=K7.ext KD;have KX:=G (xT Kn.out KD);clear key KD K7;obtain⟨m,o,g,j,k,l⟩:=au K8;have f:=KZ.out;clear KZ;by_cases he2:e2=0
    ·subst he2;simp only[if_true]at f;have Jb:=K8.set 2 (C E B);have K9:Blk (w4.setCell ⟨w.heap.size,2,F⟩ (C E B)) w.heap.size 54 #[C E t,C E d.toNat,C E B]:=Jb;have KY:Hid (Ext w (w4.setCell ⟨w.heap.size,2,F⟩ (C E B))):=Pg (p:=⟨w.heap.size,2,F⟩) KX.out (xN _) _;have HU:=mI t d.toNat B (w4.setCell ⟨w.heap.size,2,F⟩ (C E B));have J1:=G K9;clear Jb K9;cases P:okB t d.toNat B with
     |true=>
      rw[P]at f HU;have Ky:=G HU;rw[if_pos rfl]at f;have Jo:=G f;clear f HU P;gi_wp2;refine⟨trivial,?_⟩;refine(callsIn_wd.2 Ky.out).mono ?_;rintro e w5⟨rfl,Hd⟩;have S:Ext (w4.setCell ⟨w.heap.size,2,F⟩ (C E B)) w5:=Hd;have Kr:=J1.out.ext S;have Kv:=G (xT KY.out S);clear m o g j k l Hd S K8;obtain⟨m,o,g,j,k,l⟩:=au Kr;gi_wp2;refine bJ ?_;refine fp (.tuple #[Z #[C E t,C E d.toNat,C E B],V true]) (Ag _ _ _ _ _ rfl rfl (bV Kr _ _ _) rfl) ?_;rw[<-Jo.out];refine⟨rfl,?_⟩;exact((Pg Kv.out (p:=⟨w.heap.size,0,F⟩) (xN _) _).setCell (p:=⟨w.heap.size,1,F⟩) (xN _) _).setCell (p:=⟨w.heap.size,2,F⟩) (xN _) _
     |false=>
      rw[P]at f HU;have Ky:=G HU;rw[if_neg (by decide)]at f;have K:Hid (R=none):=f.symm;clear f HU P;gi_wp2;refine⟨trivial,?_⟩;refine(callsIn_wd.2 Ky.out).mono ?_;rintro e w5⟨rfl,Hd⟩;have S:Ext (w4.setCell ⟨w.heap.size,2,F⟩ (C E B)) w5:=Hd;have Kr:=J1.out.ext S;have Kv:=G (xT KY.out S);clear m o g j k l Hd S K8;gi_wp2;refine wpIn_goto ?_;simp only[Exit.then];refine bI (h:=by simp) ?_;exact⟨rfl,rfl,rfl,⟨_,_,_,Kr⟩,Kv.out,K.out⟩
    have JL:((e2:Int) != 0)=true:=by simp[he2]
    rw[if_neg he2]at f;have K:Hid (R=none):=f.symm;clear f;gi_wp2;refine⟨trivial,?_⟩;gi_wp2;refine wpIn_goto ?_;simp only[Exit.then];refine bI (h:=by simp) ?_;exact⟨rfl,rfl,rfl,⟨_,_,_,K8.set 2 _⟩,Pg (p:=⟨w.heap.size,2,F⟩) KX.out (xN _) _,K.out⟩
   have Kc:((e1:Int) != 0)=true:=by simp[he1]
   rw[if_neg he1]at N;have K:Hid (R=none):=N.symm;have Hp:=G hp;clear N H3 hp;gi_wp2_with (first
    |(refine⟨trivial,?_⟩;gi_at_call 78;refine(callsIn_wd.2 HY.out).mono ?_;rintro e D⟨⟨A1,c1,rfl,Ke⟩,s⟩;have H9:Bs D (H A1 p.length c1) p:=xW Ke;have Hz:=G H9;have Ku:=G s;have Y:=KI.ext s;clear H9 Ke s;obtain⟨m,o,g,j,k,l⟩:=au Y)
    |(refine⟨trivial,?_⟩;gi_at_call 204;refine(callsIn_wd.2 (K3.out D _ Hz.out)).mono ?_;rintro e J⟨vr,rfl,-,X⟩;clear m o g j k l;have HF:=Y.ext X;have Km:=G X;clear X;obtain⟨m,o,g,j,k,l⟩:=au HF))
   refine wpIn_goto ?_;simp only[Exit.then];refine bI (h:=by simp) ?_;exact⟨rfl,rfl,rfl,⟨_,_,_,HF.set 0 _⟩,Pg (p:=⟨w.heap.size,0,F⟩) (xT hX (xT Ku.out Km.out)) (xN _) _,K.out⟩
 ·rintro⟨TT,df⟩W⟨hd,HM,h2,⟨x,y,z,hb⟩,hE,K⟩;cases hd;dsimp only at HM h2;have hT:=fM 46 TT HM;generalize hU:(λi=>TT.getD i undef)=U at hT;have g:U 2=Q (O ⟨w.heap.size,0,F⟩):=by rw[<-hU];exact h2
  have JC:TT = #[U 0,U 1,Q (O ⟨w.heap.size,0,F⟩),U 3,U 4,U 5,U 6,U 7,U 8,U 9,U 10,U 11,U 12,U 13,U 14,U 15,U 16,U 17,U 18,U 19,U 20,U 21,U 22,U 23,U 24,U 25,U 26,U 27,U 28,U 29,U 30,U 31,U 32,U 33,U 34,U 35,U 36,U 37,U 38,U 39,U 40,U 41,U 42,U 43,U 44,U 45]:=by rw[hT];show(#[U 0,U 1,U 2,U 3,U 4,U 5,U 6,U 7,U 8,U 9,U 10,U 11,U 12,U 13,U 14,U 15,U 16,U 17,U 18,U 19,U 20,U 21,U 22,U 23,U 24,U 25,U 26,U 27,U 28,U 29,U 30,U 31,U 32,U 33,U 34,U 35,U 36,U 37,U 38,U 39,U 40,U 41,U 42,U 43,U 44,U 45]:Array Value)=_;rw[g]
  clear hT hU HM g h2;subst JC;obtain⟨m,o,g,j,k,l⟩:=au hb;gi_wp2;refine bJ ?_;refine fp (.tuple #[Z #[C E 0,C E 0,C E 0],V false]) (Ag _ _ _ _ _ rfl rfl (bV hb _ _ _) rfl) ?_;rw[K.out];refine⟨rfl,?_⟩;exact((Pg hE (p:=⟨w.heap.size,0,F⟩) (xN _) _).setCell (p:=⟨w.heap.size,1,F⟩) (xN _) _).setCell (p:=⟨w.heap.size,2,F⟩) (xN _) _
attribute [local go_sem] Ps
variable {T:Tab}
def cG(T:Tab)(b:List UInt8)(p:Nat):List (Nat×Ent):=
 if h:d b<15 then[]else
  match ei T (b.take 15)with
  |none=>[]
  |some e=>(p+15,e)::cG T (b.drop 15) (p+15)
termination_by (d b)
decreasing_by
 simp;omega
theorem qo{p:Nat}(h:d b<15):cG T b p=[]:=by rw[cG,dif_pos h]
theorem qS{p:Nat}(h:¬d b<15)(hn:ei T (b.take 15)=none):cG T b p=[]:=by rw[cG,dif_neg h,hn]
theorem qT{p:Nat}{e:Ent}(h:¬d b<15)(hn:ei T (b.take 15)=O e):cG T b p=(p+15,e)::cG T (b.drop 15) (p+15):=by rw[cG,dif_neg h,hn]
def RcK(a c:Nat)(k:Nat)(o:Obj):Prop:=o.isCells=true/\k≠a/\(k<c\/o.ty≠some 54)
theorem Hold.keptR{a W W':World}{d e n:Nat}(h:Hold a W)(g:a.heap.size<=d)(g:a.heap.size<=e)(g:Kept (am (RcK d e) n) W W'):Hold a W':=by
 intro p u d;have e:=World.block_lt_of_cell? a p d;have hc:=h p u d;obtain⟨o,a,f⟩:=cells_of_cell hc;refine g.cell hc (λd c=>.inl ?_);rw[a]at c;cases c;exact⟨f,by omega,.inl (by omega)⟩
theorem Ef(m r:World)(v:Value)(bs:List UInt8)(KJ:Bs m v bs)(Hu:bs.length<=2000000)(hH:Hold m r)(hT:TabW T m)(B bo n0:Nat)(hB:Boxed r B 33 v)(JB:B≠bo)(h1:m.heap.size<=bo)(h2:m.heap.size<=n0):
  Seq M 352 #[Q (O ⟨B,0,F⟩)]
   (λ(x:Nat×Ent) av _=>av = #[C E x.1,Z #[C E x.2.t,C E x.2.k,C E x.2.v]]/\x.1<=bs.length) (RcK bo n0) (λ_ _=>False) (cG T (bs.drop 6) 6) r:=by
 intro l J Jx hJ JZ z h0;obtain⟨A,c,rfl,Hx,HF⟩:=xO KJ;refine(callsIn_wd (ro:=none) (n:=9)).1 ?_;refine callsIn_of_wp func352 rfl trivial ?_ rfl;simp only[ntmps352,P4,xC,P2,Pn,Pm,Pj,Pi,P5,P3,xI,P7];have J3:=G KJ;have Jp:=G hT;clear KJ hT;obtain⟨a,S⟩:∃a,cG T (bs.drop 6) 6=a:=⟨_,rfl⟩;rw[S]at z⊢;have HA:=G S;clear S;gi_wp2;gi_loopw [3] (λj W=>∃(k:Nat) (d:List (Nat×Ent)),j=C E k/\k<=bs.length+15/\Hid (a=d++cG T (bs.drop k) k)/\Hid (J d W)/\Hold m W/\Boxed W B 33 (H A bs.length c)/\r.heap.size<=W.heap.size) (λj _=>bs.length+30-(intOf j).toNat)
 case atStart=>exact⟨6,[],rfl,by omega,HA.out.symm,h0,hH,hB,xN _⟩
 case round=>
  obtain⟨k,d,rfl,HW,X,V,U,bB,HM⟩:=hrel;have N:=bB.cell;by_cases Hc:k+15<=bs.length
  ·obtain⟨_,b,P,rfl,hc⟩:=Bs.at_ J3.out (by omega);have H8:=f8 J3.out k 15 Hc;obtain⟨p,s⟩:∃p,(bs.drop k).take 15=p:=⟨_,rfl⟩;have HK:p.length=15:=by rw[<-s,P6,P0];omega
   rw[s]at H8;have K:¬(bs.drop k).length<15:=by rw[P0];omega
   have KL:(bs.drop k).drop 15=bs.drop (k+15):=by rw[List.drop_drop]
   have R:Bs wr (H (O ⟨b,P+k,F⟩) 15 (c-k)) p:=SlR.keep (SlR.capd H8 (by rw[HK];omega) (by omega)) U;have JD:TabW T wr:=Jp.out.hold U;have key:=Ib (T:=T) _ p wr R HK JD;have g:=X.out;cases w:ei T p with
   |none=>
    rw[w]at key;rw[qS K (by rw[s];exact w),Pc]at g;subst g;have Y:=G key;have JJ:(k:Int)+15<=(c:Int):=by omega
    clear key w R H8 s hc KL K z;gi_wp2;refine⟨trivial,?_⟩;refine(callsIn_wd.2 Y.out).mono ?_;rintro e i⟨rfl,o⟩;have Kp:=G (hJ _ wr (i.alloc (I #[C E 0,C E 0,C E 0] 54)) V.out ((Moves.refl.below o (xN _)).alloc _));clear o;gi_wp2;refine⟨λf h=>(by cases h),?_⟩;gi_wp2;refine bodyPost_ret (results_none rfl _ _ _) rfl ?_;exact⟨⟨_,rfl⟩,.inl Kp.out⟩
   |some x=>
    rw[w]at key;rw[qT K (by rw[s];exact w),KL]at g;have Y:=G key;have Kx:=G g;have JJ:(k:Int)+15<=(c:Int):=by omega
    have Js:=G z;clear key w R H8 s hc KL K z g;gi_wp2;refine⟨trivial,?_⟩;refine(callsIn_wd.2 Y.out).mono ?_;rintro e i⟨rfl,o⟩;have hb3:=Blk.new i 54 #[C E x.t,C E x.k,C E x.v];have L:Ext wr (i.alloc (I #[C E x.t,C E x.k,C E x.v] 54)):=xA o _;have Kp:=hJ d wr (i.alloc (I #[C E x.t,C E x.k,C E x.v] 54)) V.out ((Moves.refl.below o (xN _)).alloc _);have Kj:r.heap.size<=(i.alloc (I #[C E x.t,C E x.k,C E x.v] 54)).heap.size:=Pk HM L.size;have J7:Boxed (i.alloc (I #[C E x.t,C E x.k,C E x.v] 54)) B 33 (H (O ⟨b,P,F⟩) bs.length c):=bB.kept (row:=none) (Ph L none) (by simp);have Ja:Hold m (i.alloc (I #[C E x.t,C E x.k,C E x.v] 54)):=λq u hq=>Ext.cell L (U q u hq);have hy:=Js.out d (k+15,x) _ Kx.out _ #[C E ((k+15:Nat):Int),Z #[C E x.t,C E x.k,C E x.v]] Kp Kj ⟨rfl,by show k+15<=bs.length;omega⟩;have Hy:=G hy;have Jm:=G Ja;obtain⟨g0,g1,g2,f0,f1,f2⟩:=au hb3;clear hy Kp o Ja N L hb3;have N:=J7.cell;gi_wp2;refine ew Hy.out ?_;rintro e W' ⟨y,⟨rfl,D⟩|⟨rfl,D⟩⟩
    ·refine⟨true,rfl,?_⟩;have d1:Boxed W' B 33 (H (O ⟨b,P,F⟩) bs.length c):=y.boxed J7 (.inl ⟨rfl,JB,.inr (by intro h;cases h)⟩);have e1:=d1.cell;have JR:r.heap.size<=W'.heap.size:=Pk Kj y.size;have Jn:=G (Hold.keptR Jm.out h1 h2 y);have Kw:=G D;have Ji:a=(d++[(k+15,x)])++cG T (bs.drop (k+15)) (k+15):=by rw[Pb];exact Kx.out
     have Ju:=G Ji;clear D y N g0 g1 g2 f0 f1 f2 Ji Hy;gi_wp2;exact⟨⟨k+15,d++[(k+15,x)],by go_num,by omega,Ju.out,Kw.out,Jn.out,d1,JR⟩,by simp[intOf];omega⟩
    refine⟨false,rfl,?_⟩;have Kw:=G D;clear D y N g0 g1 g2 f0 f1 f2;gi_wp2;refine bodyPost_ret (results_none rfl _ _ _) rfl ?_;refine⟨⟨_,rfl⟩,.inr ⟨d++[(k+15,x)],?_,Kw.out⟩⟩;exact⟨cG T (bs.drop (k+15)) (k+15),by rw[Pb];exact Kx.out.symm⟩
  ·have Kd:cG T (bs.drop k) k=[]:=qo (by rw[P0];omega);have g:=X.out;rw[Kd,Pc]at g;subst g;have G4:¬((k:Int)+15<=(bs.length:Int)):=by omega
   clear Kd X z;gi_wp2;refine bodyPost_end (results_none rfl _ _ _) rfl ?_;exact⟨⟨_,rfl⟩,.inl V.out⟩
theorem iJ(v:Value)(bs:List UInt8)(w:World)(h:Bs w v bs)(hl:bs.length<=2000000):Calls M 167 #[v] w (iB w (az bs)):=by
 obtain⟨A,c,rfl,h1,h2⟩:=xO h;by_cases h5:(bs.length:Int)<5
 ·have R:az bs=(10,0,[]):=by unfold az;rw[if_pos (by omega)]
  have J:=G R;clear R;go_enter func167,ntmps167
  go_wp2_with fail
  go_ret3;exact⟨_,by rw[J.out];rfl,by rw[J.out];exact Pf _ _ _ _,xR _⟩
 obtain⟨_,b,i,rfl,hc⟩:=Bs.at_ h (by omega);have HC:=G hc;have Kt:=G h;have P:az bs=if beN (bs.take 5)<=1073741824 then(0,beN (bs.take 5),bs.drop 5)else(11,0,[]):=by unfold az;rw[if_neg (by omega)]
 have K:=G P;have Jz:(5:Int)<=(c:Int):=by omega
 have JY:(5:Int)<=(bs.length:Int):=by omega
 clear hc h P;go_enter func167,ntmps167
 go_wp2_with fail
 go_loop [5,6] (λnn o=>∃k n:Nat,k<=5/\Hid (n=beN (bs.take k))/\n<1099511627776/\Hid (n<256^k)/\nn=C E n/\o=C E k) (λ_ o=>5-(intOf o).toNat)
 case atStart=>exact⟨0,0,by omega,rfl,by omega,by show _<_;decide,rfl,rfl⟩
 case round=>
  obtain⟨k,n,hk,l,hn,x,rfl,rfl⟩:=hrel;by_cases Hc:k<5
  ·have s:k<bs.length:=by omega
   have JG:=HC.out k s;have hq:=bs[k].toNat_lt;have N:beN (bs.take (k+1))=n*256+bs[k].toNat:=by rw[P1 s,AT,l.out]
   have JM:n<4294967296:=Pp x.out (Pk (Po (by decide) (show k<=4 by omega)) (by decide));have B:n*256+bs[k].toNat<256^(k+1):=by rw[Pq];have:=x.out;omega
   have X:=G N;have S:=G B;clear N B;generalize bs[k].toNat=q at *;go_wp2_with fail
   go_round
   case rel=>exact⟨k+1,n*256+q,by omega,by show _=_;rw[X.out],by omega,S.out,by go_num,by go_num⟩
   case measure=>simp[intOf];omega
  ·obtain rfl:k=5:=by omega
   have L:=xW (be w [C E (n:Int)] 3 1 (hm:=rfl) (hl:=by simp[maxLen]) (xN _));have z:Is (w.alloc (I #[C E (n:Int)] 3)) (H (O ⟨w.heap.size,0,F⟩) 1 1) [(n:Int)]:=L;have Q:aG [(n:Int)]=decide (n<=1073741824):=by simp[aG,aB];omega
   have y:=G Q;have g:Ext w (w.alloc (I #[C E (n:Int)] 3)):=xA (xR _) _;clear L Q;have Z:∃r:Value,(∀W,Ext w W->Bs W r (bs.drop 5))/\r=H (if c=5 then some ⟨b,i,F⟩else some ⟨b,i+5,F⟩) (bs.length-5) (c-5):=by
    by_cases d:c=5
    ·exact⟨_,λW _=>Bs.cut0 (A:=O ⟨b,i,F⟩) (n:=bs.length) (k:=5) (c:=c-5) (bs:=bs) (by omega) rfl (by omega),by rw[if_pos d]⟩
    exact⟨_,λW hE=>Bs.cut (Kt.out.ext hE) 5 (by omega) rfl,by rw[if_neg d]⟩
   obtain⟨r,Hl,D⟩:=Z;have Kz:=G Hl;have U:=G D;clear Hl D;by_cases a:n<=1073741824
   ·have f:az bs=(0,n,bs.drop 5):=by rw[K.out,<-l.out,if_pos a]
    have m:=G f;have JI:(bs.drop 5).length<=2000000:=by rw[P0];omega
    have j:=iI (w.alloc (I #[C E (n:Int)] 3));rw[xS]at j;have Ka:=ay (base':=w.heap.size) j (by omega);clear j;clear f;go_wp2_with (first
     |(go_at_call 183;refine(lB _ _ _ z).mono ?_;rw[y.out,decide_eq_true a];rintro e w1⟨rfl,rfl⟩)
     |(at_builtin;refine eu (Ke:=rfl) (.tmp 27) (.tmp 29) rfl w.heap.size _ [] (hs:=rfl) Ka _ (bs.drop 5) (hx:=rfl) (U.out▸Kz.out _ (xA g _)) (by simp;omega) (xA g _).size ?_;intro A5 c5 w5 t Y;have V:Ext w w5:=Y w (xA g _) (xN _);simp only[P2,Nat.zero_add,xI,P0]at t⊢))
    all_goals (go_ret3;rw[m.out];exact⟨_,rfl,t,V⟩)
   ·have f:az bs=(11,0,[]):=by rw[K.out,<-l.out,if_neg a]
    have m:=G f;clear f;go_wp2_with (go_at_call 183;refine(lB _ _ _ z).mono ?_;rw[y.out,decide_eq_false a];rintro e w1⟨rfl,rfl⟩)
    go_ret3;rw[m.out];exact⟨_,rfl,Pf _ _ _ _,g⟩
theorem y9(n:Nat)(h:n<=1073741824):(cW n).map bv=[C L ((n:Int) / 4294967296),C L ((n:Int) / 16777216 % 256),C L ((n:Int) / 65536 % 256),C L ((n:Int) / 256 % 256),C L ((n:Int) % 256)]:=by
 simp[cW,a8,bv];omega
theorem I4(v:Value)(l:List Int)(w:World)(h:Is w v l)(hn:aG l=true)(hl:l.length<=2000):Calls M 212 #[v] w (sB w l):=by
 obtain⟨A,c,rfl,h1,h2⟩:=xO h;have n:=G hn;have t:=G h;clear hn;go_enter func212,ntmps212
 go_wp2_with (go_at_call 183;refine(lB _ _ _ h).mono ?_;rw[n.out];rintro e Y⟨rfl,rfl⟩)
 clear h;go_loopw [4,5,6] (λP i u wr=>∃k:Nat,k<=l.length/\i=C E k/\wr.ownsRow w.heap.size 5 1 P (aP (l.take k)).length ((aP (l.take k)).map bv)/\Ext w wr) (λ_ i _ _=>l.length-(intOf i).toNat)
 case atStart=>exact⟨0,Pl _,rfl,Pf _ _ _ _,xR _⟩
 case round=>
  obtain⟨k,X,rfl,H1,d⟩:=hrel;by_cases a:k<l.length
  ·obtain⟨_,b,S,rfl,hc⟩:=Is.at_ (t.out.ext d) (by omega);have z:=hc k a;obtain⟨U,K⟩:=my n.out a;have g:=mK (l.take k);have V:(l.take k).length<=k:=Pa _ _;have q:aP (l.take (k+1))=aP (l.take k)++cW l[k].toNat:=zd a;have o:=G q;clear hc q;obtain⟨m,hm⟩:∃m:Nat,l[k]=m:=⟨l[k].toNat,by omega⟩;have x:Hid (l[k].toNat=m):=by rw[Hid,hm];simp
   rw[hm]at z K;clear hm;have y:Bs (wr.alloc (I #[C L ((m:Int) / 4294967296),C L ((m:Int) / 16777216 % 256),C L ((m:Int) / 65536 % 256),C L ((m:Int) / 256 % 256),C L ((m:Int) % 256)] 5)) (H (O ⟨wr.heap.size,0,F⟩) 5 5) (cW m):=by
    have h5:=xW (be wr ((cW m).map bv) 5 5 (hm:=(by rw[List.length_map,io])) (hl:=by simp[maxLen]) (xN _));rw[y9 m (by omega)]at h5;unfold Bs;rw[io,y9 m (by omega)];exact h5
   have f:Ext w (wr.alloc (I #[C L ((m:Int) / 4294967296),C L ((m:Int) / 16777216 % 256),C L ((m:Int) / 65536 % 256),C L ((m:Int) / 256 % 256),C L ((m:Int) % 256)] 5)):=xA d _;have N:=ai H1 (xA (xR wr) (I #[C L ((m:Int) / 4294967296),C L ((m:Int) / 16777216 % 256),C L ((m:Int) / 65536 % 256),C L ((m:Int) / 256 % 256),C L ((m:Int) % 256)] 5));rw[x.out]at o;have B:=G (io m);have D:=G g;clear g;go_wp2_with (at_builtin;refine eu (Ke:=rfl) (.tmp 20) (.tmp 39) rfl w.heap.size _ (aP (l.take k)) (hs:=rfl) N _ (cW m) (hx:=rfl) y (by rw[D.out,B.out];omega) f.size ?_;intro R W Q r J;have s:Ext w Q:=J w f (xN _))
   go_roundw
   case rel=>exact⟨k+1,by omega,by go_num,by rw[o.out];exact r,s⟩
   case measure=>simp[intOf];omega
  ·have j:l.take k=l:=P9 (by omega);rw[j]at H1;clear j;go_wp2_with fail
   go_ret2;exact⟨_,rfl,H1,d⟩
