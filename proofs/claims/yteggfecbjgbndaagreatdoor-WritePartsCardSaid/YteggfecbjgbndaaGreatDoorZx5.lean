/- Merged -/
import Derived.Test.YteggfecbjgbndaaGreatDoorZx3
import Derived.Test.YteggfecbjgbndaaGreatDoorZx4
set_option linter.all false
set_option maxHeartbeats 8000000
set_option maxRecDepth 100000
open Go.Proofs.Tryz
open List renaming length->S
open Go.Value renaming slice->C,int->F,pointer->M,bool->N
open Go.Obj renaming cells->E
open Go.IntKind renaming i64->G,u8->O
open Option renaming some->H,none->L
open Go.Proofs.Tryz renaming prog->I
open Go.Mv renaming aN->K
open Go.World renaming ownsRow_nil->P0
open List renaming append_assoc->P1,take_of_length_le->P2,cons_append->P3,append_toArray->P4,drop_eq_getElem_cons->P5,size_toArray->P6,push_toArray->P7,getElem?_eq_getElem->P8,length_drop->P9,length_nil->Pa,take_succ_eq_append_getElem->Pb,eq_nil_of_length_eq_zero->Pc,drop_of_length_le->Pd,take_append_drop->Pe,getElem?_map->Pf,length_map->Pg,append_nil->Ph,take_zero->Pi
open Array renaming replicate_zero->Pj,replicate_succ->Pk
open Nat renaming zero_le->Pl,reduceSub->Pm,reduceAdd->Pn,le_trans->Po,pow_le_pow_right->Pp,lt_of_lt_of_le->Pq,pow_succ->Pr
open Go.Oper renaming semAt_some->Ps
namespace Go.Proofs.YteggfecbjgbndaaGreatDoor
open Go.RowKit Go.Mv Go.Shelf
theorem mcTakesa0{P:Prop}(h:P:=by
 have H9:(!aG [(n:Int)*128+(q':Int) % 128])=false:=by assumption
 have ht:=H1.out;rw[if_neg hb,if_pos (by simp[aG,aB]at H9;omega)]at ht;refine⟨v',by rw[ht];simp,?_,?_⟩
 ·rw[ht];rw[P9];simpa using H5
 ·refine Below.grown H0 H2 H0.size (λk ek=>?_);have:w.heap.size+1=k:=by simpa[Value.ownBlock]using ek
  omega):P:=h
theorem mcTakesa1{P:Prop}(h:P:=by
 have ht:=H1.out;rw[if_neg hb,if_neg (by simp[aG,aB]at Hq;omega)]at ht;exact⟨_,by rw[ht];rfl,by rw[ht];exact P0 _ _ _ _,xA (xR _) _⟩):P:=h
def cI:Nat->Nat->List UInt8->Int×Nat×List UInt8
 |0,_,_=>(11,0,[])
 |_+1,_,[]=>(10,0,[])
 |f+1,n,b::l=>if 128<=b.toNat then cI f (n*128+b.toNat % 128) l else if n*128+b.toNat % 128<=1073741824 then(0,n*128+b.toNat % 128,l)else(11,0,[])
def aJ(l:List UInt8):Int×Nat×List UInt8:=if l.head?=H 128 then(11,0,[])else cI 5 0 l
def iB(w:World)(r:Int×Nat×List UInt8)(e:Ending)(w':World):Prop:=
 ∃v,e=.returned (.tuple #[F G r.2.1,v,F G r.1])/\w'.ownsRow w.heap.size 5 1 v r.2.2.length (r.2.2.map bv)/\Ext w w'
theorem Bs.at_{w:World}{A:Option Addr}{m c:Nat}{l:List UInt8}(h:Bs w (C A m c) l)(hn:0<S l):m=S l/\∃b H4,A=H ⟨b,H4,L⟩/\∀(k:Nat) (hk:k<S l),w.cell? ⟨b,H4+k,L⟩=H (F O (l[k].toNat:Int)):=by
 obtain⟨rfl,b,H4,rfl,hc⟩:=SlR.at_ h hn;exact⟨rfl,b,H4,rfl,λk hk=>hc k _ (by simp[P8 hk,bv])⟩
def TkR(bs:List UInt8)(A:Option Addr)(c:Nat)(w:World)(a:Act)(w':World):Prop:=
 ∃(i n:Nat) (u6 u7 u8 u9 Ks Kt Ku Kv Kw Kx Ky Kz KA KC KD KE KF KH KI KJ KK KL KM KN KO KP KQ KR KT KU KV KW KX KY KZ J0 J1 J2 J3 J4 J5 J6 J7:Value),(i<=5/\i<=S bs/\n<128^i/\Hid (aJ bs=cI (5-i) n (bs.drop i))/\w=w')/\a=⟨#[C A bs.length c,undef,F G n,C none 0 0,F G 0,F G i,u6,u7,u8,u9,Ks,Kt,Ku,Kv,Kw,Kx,Ky,Kz,KA,KC,KD,KE,KF,KH,KI,KJ,KK,KL,KM,KN,KO,KP,KQ,KR,KT,KU,KV,KW,KX,KY,KZ,J0,J1,J2,J3,J4,J5,J6,J7],[]⟩
theorem AS(v:Value)(bs:List UInt8)(w:World)(k:Bs w v bs)(hl:bs.length<=140737488355328):Calls I 148 #[v] w (iB w (aJ bs)):=by
 obtain⟨A,c,rfl,h1,h2⟩:=xO k;refine(callsIn_wd (ro:=none) (n:=9)).1 ?_;refine callsIn_of_wp func148 rfl trivial ?_ rfl;simp only[ntmps148,P6,xC,Pa,Pn,Pm,Pk,Pj,P7,P4,xI,P3];gi_wp2;refine eU 0 (TkR bs A c w) (λa _=>5-(intOf (a.tmps.getD 5 undef)).toNat) rfl (λX h=>by cases X<;>first | exact absurd rfl h | rfl) ?_ ?_
 ·intro J;have M:=K J;clear J;by_cases s:bs.length=0
  ·have hz:¬(0<bs.length):=by omega
   have hb:bs=[]:=Pc s;subst hb;have r:Hid (aJ []=cI (5-0) 0 ([].drop 0)):=rfl;gi_wp2;refine wpIn_label ?_;gi_step;gi_step;exact M.out _ _ ⟨0,0,_,_,_,_,_,_,_,_,_,_,_,_,_,_,_,_,_,_,_,_,_,_,_,_,_,_,_,_,_,_,_,_,_,_,_,_,_,_,_,_,_,_,_,⟨by omega,by simp,by decide,r,rfl⟩,rfl⟩
  obtain⟨_,b,H4,rfl,hc⟩:=Bs.at_ k (by omega);have Kn:w.cell? ⟨b,H4,L⟩=H (F O (bs[0].toNat:Int)):=hc 0 (by omega);by_cases f:bs[0].toNat=128
  ·have e:((bs[0].toNat:Int)==128)=true:=by simp;omega
   have ht:aJ bs=(11,0,[]):=by
    have:bs[0]=128:=by apply UInt8.toNat_inj.1;simpa using f
    cases bs with
    |nil=>simp at s
    |cons x l=>simp at this;simp[aJ,this]
   have d:=K ht;clear ht hc;gi_wp2;refine bJ ?_;go_ret3;exact⟨_,by rw[d.out];rfl,by rw[d.out];exact P0 _ _ _ _,xR _⟩
  have e:((bs[0].toNat:Int)==128)=false:=by simp;omega
  have ht:aJ bs=cI (5-0) 0 (bs.drop 0):=by
   have:bs[0]≠128:=λe=>f (by rw[e];rfl);cases bs with
   |nil=>simp at s
   |cons x l=>simp at this;simp[aJ,this]
  have r:=K ht;clear ht hc;gi_wp2;refine wpIn_label ?_;gi_step;gi_step;exact M.out _ _ ⟨0,0,_,_,_,_,_,_,_,_,_,_,_,_,_,_,_,_,_,_,_,_,_,_,_,_,_,_,_,_,_,_,_,_,_,_,_,_,_,_,_,_,_,_,_,⟨by omega,by omega,by decide,r,rfl⟩,rfl⟩
 ·intro a w' V;obtain⟨i,n,u6,u7,u8,u9,Ks,Kt,Ku,Kv,Kw,Kx,Ky,Kz,KA,KC,KD,KE,KF,KH,KI,KJ,KK,KL,KM,KN,KO,KP,KQ,KR,KT,KU,KV,KW,KX,KY,KZ,Z,J1,J2,J3,J4,J5,J6,J7,⟨Je,Jf,hn,o,rfl⟩,rfl⟩:=V;by_cases h5:i=5
  ·subst h5;gi_wp2;refine bJ ?_;go_ret3;have ht:aJ bs=(11,0,[]):=o.out;exact⟨_,by rw[ht];rfl,by rw[ht];exact P0 _ _ _ _,xR _⟩
  have e1:((i:Int)==5)=false:=by simp;omega
  have S:i<=4:=by omega
  have hf:5-i=(4-i)+1:=by omega
  have g:=o.out;rw[hf]at g;by_cases j:i=bs.length
  ·have T:((i:Int)==(bs.length:Int))=true:=by simp;omega
   have ht:aJ bs=(10,0,[]):=by
    rw[g,Pd (by omega),cI]
   have d:=K ht;clear ht g hf j;gi_wp2;refine bJ ?_;go_ret3;exact⟨_,by rw[d.out];rfl,by rw[d.out];exact P0 _ _ _ _,xR _⟩
  obtain⟨_,b,H4,rfl,hc⟩:=Bs.at_ k (by omega);have z:i<bs.length:=by omega
  have Jc:=hc i z;have T:((i:Int)==(bs.length:Int))=false:=by simp;omega
  rw[P5 z,cI]at g;have Jg:n<268435456:=Pq hn (Po (Pp (by decide) S) (by decide));have hq:=bs[i].toNat_lt;generalize bs[i].toNat=q at *;have ha:bits .and .u8 (q:Int) 127=(q:Int) % 128:=bits_mask .u8 8 (by decide) wraps_u8 7 (by decide) _ (by omega) (by omega);have m:bits .or .i64 ((n:Int)*128) ((q:Int) % 128)=(n:Int)*128+(q:Int) % 128:=bits_join .i64 62 (by decide) lD 7 _ _ (by omega) (by omega) (by omega) (by omega) (by omega) (by omega);have H1:=K g;have D:n*128+q % 128<128^(i+1):=by rw[Pr];omega
  have R:=K D;clear g hf hc D hn o;by_cases hb:128<=q
  ·have p:=H1.out;rw[if_pos hb]at p;have Q:=K p;clear p;gi_wp2;refine wpIn_goto ?_;try simp only[Exit.then]
   refine bI (h:=by simp) ⟨?_,by simp[intOf];omega⟩;have U:((n:Int)*128+(q:Int) % 128)=((n*128+q % 128:Nat):Int):=by simp
   rw[U];exact⟨i+1,n*128+q % 128,_,_,_,_,_,_,_,_,_,_,_,_,_,_,_,_,_,_,_,_,_,_,_,_,_,_,_,_,_,_,_,_,_,_,_,_,_,_,_,_,_,_,_,⟨by omega,by omega,R.out,by show _=_;rw[Q.out,show 5-(i+1)=4-i from by omega],rfl⟩,rfl⟩
  ·have N:=xW (be w [F G ((n:Int)*128+(q:Int) % 128)] 3 1 (hm:=rfl) (hl:=by simp[maxLen]) (xN _));have P:Is (w.alloc (E #[F G ((n:Int)*128+(q:Int) % 128)] 3)) (C (H ⟨w.heap.size,0,L⟩) 1 1) [(n:Int)*128+(q:Int) % 128]:=N;clear N;gi_wp2_with (refine⟨trivial,?_⟩;gi_at_call 203;refine(callsIn_wd.2 (ny _ _ _ P)).mono ?_;rintro e w' ⟨rfl,rfl⟩)
   ·refine bJ ?_;go_ret3;have Hq:(!aG [(n:Int)*128+(q:Int) % 128])=true:=by assumption
    exact mcTakesa1
   all_goals
    have B:(!aG [(n:Int)*128+(q:Int) % 128])=false:=by assumption
    have ht:=H1.out;rw[if_neg hb,if_pos (by simp[aG,aB]at B;omega)]at ht;have d:=K ht;clear ht B H1
   ·refine⟨trivial,(callsIn_wd.2 (ol _ (bs.drop (i+1)) _ (Bs.cut0 (by omega) rfl (by omega)) (by simp;omega))).mono ?_⟩;rintro e Y⟨y,rfl,m,t⟩;gi_wp2;refine bJ ?_;go_ret3;exact⟨y,by rw[d.out];simp,by rw[d.out];exact ay m (by simp),xT (xA (xR _) _) t⟩
   ·refine⟨trivial,(callsIn_wd.2 (ol _ (bs.drop (i+1)) _ (Bs.cut (k.ext (xA (xR _) _)) (i+1) (by omega) rfl) (by simp;omega))).mono ?_⟩;rintro e Y⟨y,rfl,m,t⟩;gi_wp2;refine bJ ?_;go_ret3;exact⟨y,by rw[d.out];simp,by rw[d.out];exact ay m (by simp),xT (xA (xR _) _) t⟩
open Go.RowKit Go.Mv
theorem Dl(A:Option Addr)(c:Nat)(bs:List UInt8)(w:World)(e:¬(0<bs.length))(d:bs.length<5):Calls I 157 #[C A bs.length c] w (iB w (aJ bs)):=by
 have b:aJ bs=(10,0,[]):=by rw[Pc (by omega:bs.length=0)];rfl
 have a:=K b;clear b;go_enter func157,ntmps157
 go_wp2_with fail
 go_loop [5,6] (λn i=>∃k:Nat,Hid (k=0)/\n=F G k/\i=F G k) (λ_ i=>(intOf i).toNat)
 case atStart=>exact⟨0,rfl,rfl,rfl⟩
 case round=>
  obtain⟨k,hk,rfl,rfl⟩:=hrel;obtain rfl:k=0:=hk.out;go_wp2_with fail
  go_ret3;exact⟨_,by rw[a.out];rfl,by rw[a.out];exact P0 _ _ _ _,xR _⟩
theorem El(c:Nat)(bs:List UInt8)(w:World)(b H4 q:Nat)(r:Bs w (C (H ⟨b,H4,L⟩) bs.length c) bs)(hl:bs.length<=140737488355328)(h1:bs.length<=c)(h2:c<=9223372036854775807)(h0:0<bs.length)(hq:w.cell? ⟨b,H4,L⟩=H (F O q))(B:((q:Int)==128)=false)(a:Hid (aJ bs=cI 5 0 bs)):Calls I 157 #[C (H ⟨b,H4,L⟩) bs.length c] w (iB w (aJ bs)):=by
 obtain⟨D,hi,z,x,s⟩:=info_parts dC;go_enter func157,ntmps157
 go_wp2_with fail
 go_loop [5,6] (λR Q=>∃i n:Nat,i<=5/\i<=bs.length/\Hid (n<128^i)/\Hid (aJ bs=cI (5-i) n (bs.drop i))/\R=F G n/\Q=F G i) (λ_ i=>5-(intOf i).toNat)
 case atStart=>exact⟨0,0,by omega,by omega,by show _<_;decide,a.out,rfl,rfl⟩
 case round=>
  obtain⟨i,n,U,V,g,f,rfl,rfl⟩:=hrel;by_cases d:i<bs.length/\i<5
  ·obtain⟨l,Kq⟩:=d;obtain⟨_,b',Z,e',hc⟩:=Bs.at_ r (by omega);cases e';have T:=hc i l;have p:=f.out;rw[show 5-i=(4-i)+1 from by omega,P5 l,cI]at p;have X:n<268435456:=Pq g (Po (Pp (by decide) (by omega:i<=4)) (by decide));have Y:=bs[i].toNat_lt;generalize bs[i].toNat=q' at *;have t:n*128+q' % 128<128^(i+1):=by have:=g.out;rw[Pr];omega
   have H1:=K p;have M:=K t;clear p hc t g f a;by_cases hb:128<=q'
   ·have o:=H1.out;rw[if_pos hb]at o;have J:=K o;clear o;go_wp2_with fail
    go_round
    case rel=>exact⟨i+1,n*128+q' % 128,by omega,by omega,M.out,by show _=_;rw[J.out,show 5-(i+1)=4-i from by omega],by go_num,by go_num⟩
    case measure=>simp[intOf];omega
   have y:Is (w.alloc (E #[F G ((n:Int)*128+(q':Int) % 128)] 3)) (C (H ⟨w.heap.size,0,L⟩) 1 1) [(n:Int)*128+(q':Int) % 128]:=xW (be w [F G ((n:Int)*128+(q':Int) % 128)] 3 1 (hm:=rfl) (hl:=by simp[maxLen]) (xN _));have v:((w.alloc (E #[F G ((n:Int)*128+(q':Int) % 128)] 3)).alloc (E #[] 5)).ownsRow w.heap.size 5 1 (C (H ⟨w.heap.size+1,0,L⟩) 0 0) 0 []:=by
    have:=be (w.alloc (E #[F G ((n:Int)*128+(q':Int) % 128)] 3)) [] 5 0 (hm:=rfl) (hl:=by simp[maxLen]) (base:=w.heap.size) (by simp);rwa[xS]at this
   have H0:Ext w ((w.alloc (E #[F G ((n:Int)*128+(q':Int) % 128)] 3)).alloc (E #[] 5)):=xA (xA (xR w) _) _;by_cases N:c=i+1
   ·have m:SlR ((w.alloc (E #[F G ((n:Int)*128+(q':Int) % 128)] 3)).alloc (E #[] 5)) 1 (C (H ⟨b,H4,L⟩) (bs.length-(i+1)) 0) (bs.length-(i+1)) ((bs.drop (i+1)).map bv):=by
     have h:=Bs.cut0 (w:=((w.alloc (E #[F G ((n:Int)*128+(q':Int) % 128)] 3)).alloc (E #[] 5))) (A:=H ⟨b,H4,L⟩) (n:=bs.length) (k:=i+1) (c:=0) (bs:=bs) (by omega) rfl (by omega);unfold Bs at h;rwa[P9]at h
    go_wp2_with (first
     |(go_at_call 183;refine(lB _ _ _ y).mono ?_;rintro e w' ⟨rfl,rfl⟩)
     |(at_builtin;refine dT _ rfl (.tmp 45) (.tmp 49) 33 rfl w.heap.size 5 D (F O 0) 1 1 underlying33 hi z x s rfl (by decide) (C (H ⟨w.heap.size+1,0,L⟩) 0 0) 0 [] rfl v (C (H ⟨b,H4,L⟩) (bs.length-(i+1)) 0) (bs.length-(i+1)) ((bs.drop (i+1)).map bv) rfl m (de _) (by unfold maxLen;omega) (by omega) H0.size ?_;intro v' S H5 H2))
    ·go_ret3;have Hq:(!aG [(n:Int)*128+(q':Int) % 128])=true:=by assumption
     exact mcTakesa1
    go_ret3;exact mcTakesa0
   have m:SlR ((w.alloc (E #[F G ((n:Int)*128+(q':Int) % 128)] 3)).alloc (E #[] 5)) 1 (C (H ⟨b,H4+(i+1),L⟩) (bs.length-(i+1)) (c-(i+1))) (bs.length-(i+1)) ((bs.drop (i+1)).map bv):=by
    have h:=Bs.cut (r.ext H0) (i+1) (by omega) rfl;unfold Bs at h;rwa[P9]at h
   go_wp2_with (first
    |(go_at_call 183;refine(lB _ _ _ y).mono ?_;rintro e w' ⟨rfl,rfl⟩)
    |(at_builtin;refine dT _ rfl (.tmp 45) (.tmp 49) 33 rfl w.heap.size 5 D (F O 0) 1 1 underlying33 hi z x s rfl (by decide) (C (H ⟨w.heap.size+1,0,L⟩) 0 0) 0 [] rfl v (C (H ⟨b,H4+(i+1),L⟩) (bs.length-(i+1)) (c-(i+1))) (bs.length-(i+1)) ((bs.drop (i+1)).map bv) rfl m (de _) (by unfold maxLen;omega) (by omega) H0.size ?_;intro v' S H5 H2))
   ·go_ret3;have Hq:(!aG [(n:Int)*128+(q':Int) % 128])=true:=by assumption
    exact mcTakesa1
   go_ret3;exact mcTakesa0
  ·by_cases P:bs.length<5
   ·have l:¬(i<bs.length):=by omega
    have ht:aJ bs=(10,0,[]):=by
     rw[f.out,show 5-i=(4-i)+1 from by omega,Pd (by omega),cI]
    have j:=K ht;clear ht f a g;go_wp2_with fail
    go_ret3;exact⟨_,by rw[j.out];rfl,by rw[j.out];exact P0 _ _ _ _,xR _⟩
   ·have hi:i=5:=by omega
    subst hi;have ht:aJ bs=(11,0,[]):=f.out;have j:=K ht;clear ht f a g d;go_wp2_with fail
    all_goals go_ret3
    all_goals exact⟨_,by rw[j.out];rfl,by rw[j.out];exact P0 _ _ _ _,xR _⟩
theorem tO(v:Value)(bs:List UInt8)(w:World)(d:Bs w v bs)(hl:bs.length<=140737488355328):Calls I 157 #[v] w (iB w (aJ bs)):=by
 obtain⟨A,c,rfl,h1,h2⟩:=xO d;by_cases g:bs.length=0
 ·exact Dl A c bs w (by omega) (by omega)
 obtain⟨_,b,H4,rfl,hc⟩:=Bs.at_ d (by omega);have Kn:w.cell? ⟨b,H4,L⟩=H (F O (bs[0].toNat:Int)):=hc 0 (by omega);by_cases a:bs[0].toNat=128
 ·have e:((bs[0].toNat:Int)==128)=true:=by simp;omega
  have h:aJ bs=(11,0,[]):=by
   have:bs[0]=128:=by apply UInt8.toNat_inj.1;simpa using a
   cases bs with
   |nil=>simp at g
   |cons x l=>simp at this;simp[aJ,this]
  have f:=K h;clear h hc;go_enter func157,ntmps157
  go_wp2_with fail
  go_ret3;exact⟨_,by rw[f.out];rfl,by rw[f.out];exact P0 _ _ _ _,xR _⟩
 ·refine El c bs w b H4 bs[0].toNat d hl h1 h2 (by omega) Kn (by simp;omega) ?_;have:bs[0]≠128:=λe=>a (by rw[e];rfl);cases bs with
  |nil=>simp at g
  |cons x l=>simp at this;show aJ _=_;simp[aJ,this]
def ao:Nat->List Int->List UInt8->Int×List Int×List UInt8
 |0,H3,bs=>(0,H3,bs)
 |k+1,H3,bs=>if(aJ bs).1=0 then ao k (H3++[((aJ bs).2.1:Int)]) (aJ bs).2.2 else((aJ bs).1,[],[])
def ir(w:World)(r:Int×List Int×List UInt8)(e:Ending)(w':World):Prop:=
 ∃a b,e=.returned (.tuple #[a,b,F G r.1])/\w'.ownsRow w.heap.size 3 1 a r.2.1.length (r.2.1.map iv)/\w'.ownsRow w.heap.size 5 1 b r.2.2.length (r.2.2.map bv)/\Ext w w'
theorem EM(f n:Nat)(l:List UInt8):S (cI f n l).2.2<=S l:=by
 induction f generalizing n l with
 |zero=>simp[cI]
 |succ f ih=>
  cases l with
  |nil=>simp[cI]
  |cons b l=>
   simp only[cI];split
   ·have:=ih (n*128+b.toNat % 128) l;simp;omega
   ·split<;>simp
theorem oA(l:List UInt8):S (aJ l).2.2<=S l:=by
 unfold aJ;split
 ·simp
 ·exact EM _ _ _
theorem m9:(Tryz.prog.info? 3).map (λi=>(i.zero,i.size,i.bytes))=H (some (F G 0),1,8):=by kernel_rfl
theorem iN(v:Value)(bs:List UInt8)(many:Nat)(w:World)(H7:Bs w v bs)(hl:bs.length<=140737488355328)(hm:many<=2000000:=by decide):Calls I 79 #[v,F G many] w (ir w (ao many [] bs)):=by
 obtain⟨i0,hi,Hm,Hd,HA⟩:=info_parts m9;go_enter Tryz.func79,Tryz.ntmps79
 go_wp2_with (go_at_call 147;refine(ol _ _ _ H7 hl).mono ?_;rintro e w1⟨v1,rfl,Hk,Hc⟩)
 go_loopw [4,5,6,11] (λvl vr er i wr=>∃(k:Nat) (H3:List Int) (rest:List UInt8),k<=many/\i=F G k/\er=F G 0/\H3.length<=k/\rest.length<=bs.length/\Hid (ao many [] bs=ao (many-k) H3 rest) /\
   wr.ownsRow w.heap.size 3 1 vl H3.length (H3.map iv)/\wr.ownsRow w.heap.size 5 1 vr rest.length (rest.map bv)/\Ext w wr) (λ_ _ _ i _=>many-(intOf i).toNat)
 case atStart=>exact⟨0,[],bs,Pl _,rfl,rfl,by simp,xN _,rfl,P0 _ _ _ _,Hk,Hc⟩
 case round=>
    
  obtain⟨k,H3,rest,hk,rfl,rfl,Ke,Ha,HT,H6,HK,hE⟩:=hrel;by_cases H8:k<many
  ·have hT:=HT.out;rw[show many-k=(many-k-1)+1 from by omega,ao]at hT;have HX:=oA rest;have key:=AS _ rest wr (xW HK) (by omega);rcases hts:aJ rest with⟨er,n,r2⟩
   rw[hts]at hT HX key;simp only at hT HX;by_cases her:er=0
   ·subst her;simp only[if_true]at hT;have H1:=K hT;have Ho:=K key;go_wp2_with (first
     |(go_at_call 148;refine Ho.mono ?_;rintro e w2⟨v2,rfl,HG,H0⟩)
     |(at_builtin;refine dT _ rfl (.tmp 22) (.tmp 24) 64 rfl w.heap.size 3 i0 (F G 0) 1 8 Tryz.underlying64 hi Hm Hd HA rfl (by decide) _ H3.length (H3.map iv) rfl (ai H6 (xA H0 _)) (C (H ⟨w2.heap.size,0,L⟩) 1 1) 1 [F G n] rfl (xW (be w2 [F G n] 3 1 (xN _))) (by simp[Value.oneCell']) (by unfold maxLen;omega) (by omega) (by have:=hE.size;have:=H0.size;simp;omega) ?_;intro v' w3 H5 H2))
    go_roundw
    case rel=>
     have HF:Ext w w3:=Ext.grownOwn (xA (xT hE H0) _) (ai H6 (xA H0 _)) H2;refine⟨k+1,H3++[(n:Int)],r2,by omega,by go_num,rfl,by simp;omega,by omega,?_,by simpa[iv]using H5,?_,HF⟩
     ·show _=_;rw[H1.out,show many-(k+1)=many-k-1 from by omega]
     have HI:(w2.alloc (E #[F G n] 3)).ownsRow w.heap.size 5 1 v2 r2.length (r2.map bv):=ai (ay HG hE.size) (xA (xR _) _);have Kh:(w2.alloc (E #[F G n] 3)).ownsRow w.heap.size 3 1 _ H3.length (H3.map iv):=ai H6 (xA H0 _);exact HI.kept H2 (zT HI Kh (by decide))
    case measure=>simp[intOf];omega
   have Jh:((er:Int) != 0)=true:=by simp[her]
   rw[if_neg her]at hT;have H1:=K hT;have Ho:=K key;go_wp2_with (go_at_call 148;refine Ho.mono ?_;rintro e w2⟨v2,rfl,HG,H0⟩)
   go_ret3;exact⟨_,_,by rw[H1.out];rfl,by rw[H1.out];exact P0 _ _ _ _,by rw[H1.out];exact P0 _ _ _ _,xT hE H0⟩
  ·have hT:=HT.out;rw[show many-k=0 from by omega,ao]at hT;have H1:=K hT;go_wp2_with fail
   go_ret3;exact⟨_,_,by rw[H1.out];rfl,by rw[H1.out];exact H6,by rw[H1.out];exact HK,hE⟩
theorem mA(v:Value)(bs:List UInt8)(many:Nat)(w:World)(H7:Bs w v bs)(hl:bs.length<=140737488355328)(hm:many<=2000000:=by omega):Calls I 91 #[v,F G many] w (ir w (ao many [] bs)):=by
 obtain⟨i0,hi,Hm,Hd,HA⟩:=info_parts m9;go_enter Tryz.func91,Tryz.ntmps91
 obtain⟨j0,hj,Jm,Jn,Jo⟩:=info_parts dC;have HU:(w.alloc (E #[] 5)).ownsRow w.heap.size 5 1 (C (H ⟨w.heap.size,0,L⟩) 0 0) 0 []:=be w [] 5 0 (xN _);have Kd:Ext w (w.alloc (E #[] 5)):=xA (xR _) _;go_wp2_with (at_builtin;refine dT _ rfl (.tmp 13) (.tmp 14) 33 rfl w.heap.size 5 j0 (F O 0) 1 1 Tryz.underlying33 hj Jm Jn Jo rfl (by decide) (C (H ⟨w.heap.size,0,L⟩) 0 0) 0 [] rfl HU v bs.length (bs.map bv) rfl (SlR.ext H7 Kd) (de _) (by unfold maxLen;omega) (by omega) Kd.size ?_;intro v1 w1 Hk Hu)
 have Hc:Ext w w1:=Ext.grownOwn Kd HU Hu;go_loopw [7,8,9] (λvr vl i wr=>∃(k:Nat) (H3:List Int) (rest:List UInt8),k<=many/\i=F G k/\H3.length<=k/\rest.length<=bs.length/\Hid (ao many [] bs=ao (many-k) H3 rest) /\
   wr.ownsRow w.heap.size 3 1 vl H3.length (H3.map iv)/\wr.ownsRow w.heap.size 5 1 vr rest.length (rest.map bv)/\Ext w wr) (λ_ _ i _=>many-(intOf i).toNat)
 case atStart=>exact⟨0,[],bs,Pl _,rfl,by simp,xN _,rfl,P0 _ _ _ _,by simpa using Hk,Hc⟩
 case round=>
    
  obtain⟨k,H3,rest,hk,rfl,Ke,Ha,HT,H6,HK,hE⟩:=hrel;by_cases H8:k<many
  ·have hT:=HT.out;rw[show many-k=(many-k-1)+1 from by omega,ao]at hT;have HX:=oA rest;have key:=tO _ rest wr (xW HK) (by omega);rcases hts:aJ rest with⟨er,n,r2⟩
   rw[hts]at hT HX key;simp only at hT HX;by_cases her:er=0
   ·subst her;simp only[if_true]at hT;have H1:=K hT;have Ho:=K key;go_wp2_with (first
     |(go_at_call 157;refine Ho.mono ?_;rintro e w2⟨v2,rfl,HG,H0⟩)
     |(at_builtin;refine dT _ rfl (.tmp 30) (.tmp 32) 64 rfl w.heap.size 3 i0 (F G 0) 1 8 Tryz.underlying64 hi Hm Hd HA rfl (by decide) _ H3.length (H3.map iv) rfl (ai H6 (xA H0 _)) (C (H ⟨w2.heap.size,0,L⟩) 1 1) 1 [F G n] rfl (xW (be w2 [F G n] 3 1 (xN _))) (by simp[Value.oneCell']) (by unfold maxLen;omega) (by omega) (by have:=hE.size;have:=H0.size;simp;omega) ?_;intro v' w3 H5 H2))
    go_roundw
    case rel=>
     have HF:Ext w w3:=Ext.grownOwn (xA (xT hE H0) _) (ai H6 (xA H0 _)) H2;refine⟨k+1,H3++[(n:Int)],r2,by omega,by go_num,by simp;omega,by omega,?_,by simpa[iv]using H5,?_,HF⟩
     ·show _=_;rw[H1.out,show many-(k+1)=many-k-1 from by omega]
     have HI:(w2.alloc (E #[F G n] 3)).ownsRow w.heap.size 5 1 v2 r2.length (r2.map bv):=ai (ay HG hE.size) (xA (xR _) _);have Kh:(w2.alloc (E #[F G n] 3)).ownsRow w.heap.size 3 1 _ H3.length (H3.map iv):=ai H6 (xA H0 _);exact HI.kept H2 (zT HI Kh (by decide))
    case measure=>simp[intOf];omega
   have Jh:((er:Int) != 0)=true:=by simp[her]
   rw[if_neg her]at hT;have H1:=K hT;have Ho:=K key;go_wp2_with (go_at_call 157;refine Ho.mono ?_;rintro e w2⟨v2,rfl,HG,H0⟩)
   go_ret3;exact⟨_,_,by rw[H1.out];rfl,by rw[H1.out];exact P0 _ _ _ _,by rw[H1.out];exact P0 _ _ _ _,xT hE H0⟩
  ·have hT:=HT.out;rw[show many-k=0 from by omega,ao]at hT;have H1:=K hT;go_wp2_with fail
   go_ret3;exact⟨_,_,by rw[H1.out];rfl,by rw[H1.out];exact H6,by rw[H1.out];exact HK,hE⟩
end Go.Proofs.YteggfecbjgbndaaGreatDoor

namespace Go.Mv
open Go.RowKit
def aD(p:Nat×Nat)(bs:List UInt8):Nat×Nat:=bs.foldl cX p
theorem sY(p:Nat×Nat)(bs:List UInt8)(b:UInt8):aD p (bs++[b])=cX (aD p bs) b:=by unfold aD;rw[List.foldl_append];rfl
theorem PtV.pt{v:Value}{p:Nat×Nat}(h:PtV v p):ptV v=p:=by
 obtain⟨a,b,rfl,c,hb⟩:=h;unfold ptV;simp only[c,hb]
theorem PtV.zero:PtV (.complex .f64 0 0) (0,0):=⟨0,0,rfl,qR fQ (by decide) (λh=>by cases h),qR fQ (by decide) (λh=>by cases h)⟩
theorem zU{a b:Nat}(h:((aw a).isSome&&(aw b).isSome)=true):PtV (.complex .f64 a b) (ptV (.complex .f64 a b)):=by
 obtain⟨x,c⟩:∃x,aw a=H x:=by cases h:aw a<;>simp_all
 obtain⟨y,hb⟩:∃y,aw b=H y:=by cases h:aw b<;>simp_all
 have e:ptV (.complex .f64 a b)=(x,y):=by unfold ptV;simp only[c,hb]
 rw[e];exact⟨a,b,rfl,c,hb⟩
theorem BL{a b:Nat}(h:((aw a).isSome&&(aw b).isSome)=false):ptV (.complex .f64 a b)=(0,0):=by
 unfold ptV;cases c:aw a<;>cases hb:aw b<;>simp_all
end Go.Mv
namespace Go.Proofs.YteggfecbjgbndaaGreatDoor
open Go.RowKit Go.Mv
variable {W:World}
def sy(v:Value)(bs:List UInt8)(w:World)(e:Ending)(w':World):Prop:=∃a,e=.returned a/\PtV a (aD (ptV v) bs)/\w=w'
theorem pS(a b:Nat)(E:Value)(d:List (List UInt8))(w:World)(h:Parts w E d):
  Calls I 218 #[.complex .f64 a b,E] w (sy (.complex .f64 a b) d.flatten w):=by
 obtain⟨l,R,D,T⟩:=h;obtain⟨A,c,rfl,h1,h2⟩:=xO D;have V:S l<=S d:=by omega
 have X:S d<=S l:=by omega
 clear R;have q:=K (λw=>Di a b w);have hz:=K PtV.zero;have N:∃s:Value,PtV s (ptV (.complex .f64 a b))/\s=if((aw a).isSome&&(aw b).isSome)=true then .complex .f64 a b else .complex .f64 0 0:=by
  split
  ·rename_i h;exact⟨_,zU h,rfl⟩
  rename_i h;refine⟨_,?_,rfl⟩;rw[BL (by simpa using h)];exact PtV.zero
 obtain⟨s,M,o⟩:=N;unfold sy;generalize ptV (.complex .f64 a b)=p0 at *;cases g:((aw a).isSome&&(aw b).isSome)
 all_goals
  rw[g]at o;simp only[if_true,if_false,Bool.false_eq_true]at o;subst o;rw[g]at q;clear g;go_enter func218,ntmps218
  go_wp2_with (go_at_call 266;refine(q _).mono ?_;rintro e w' ⟨rfl,rfl⟩)
  clear q;go_loop [0,5] (λz i=>∃k:Nat,k<=S d/\i=F G k/\Hid (PtV z (aD p0 (d.take k).flatten))) (λ_ i=>S d-(intOf i).toNat)
  case atStart=>exact⟨0,Pl _,rfl,M⟩
  case round=>
   obtain⟨k,hk,rfl,n⟩:=hrel;by_cases t:k<S d
   ·obtain⟨_,ba,H4,rfl,hc⟩:=SlR.at_ D (by omega);have y:k<S l:=by omega
    have J:=hc k l[k] (P8 y);have p:=T k y t;obtain⟨A',c',C,h3,h4⟩:=xO p;rw[C]at J p;have Hx:=oo d k t;have Q:=K Hx;generalize d[k]=bk at *;clear hc C Hx;go_wp2_with fail
    go_loop [0,6] (λz j=>∃m:Nat,m<=S bk/\j=F G m/\Hid (PtV z (aD p0 ((d.take k).flatten++bk.take m)))) (λ_ j=>S bk-(intOf j).toNat)
    case atStart=>exact⟨0,Pl _,rfl,by show PtV _ _;rw[Pi,Ph];exact n.out⟩
    case round=>
     obtain⟨m,hm,rfl,HQ⟩:=hrel;by_cases f:m<S bk
     ·obtain⟨_,b2,Z,U,v⟩:=Bs.at_ p (by omega);cases U;have Y:=v m f;have B:bk.take (m+1)=bk.take m++[bk[m]]:=Pb f;have H:=K B;generalize O:bk[m]=bm at *;clear v B O;go_wp2_with (go_at_call 267;refine(EB _ _ HQ _ _).mono ?_;rintro e w' ⟨v',rfl,K3,rfl⟩)
      have L:=K K3;go_round
      case rel=>exact⟨m+1,by omega,by go_num,by show PtV _ _;rw[H.out,<-P1,sY];exact L.out⟩
      case measure=>simp[intOf];omega
     have r:=HQ.out;rw[P2 (show S bk<=m from by omega),<-Q.out]at r;have P:=K r;clear r;go_wp2_with fail
     go_round
     case rel=>exact⟨k+1,by omega,by go_num,P⟩
     case measure=>simp[intOf];omega
   ·have x:d.take k=d:=P2 (by omega);rw[x]at n;clear x;go_wp2_with fail;go_ret;exact⟨_,rfl,n.out,rfl⟩
open Go.RowKit Go.Mv Go.Shelf
theorem mcChaina0{P:Prop}(h:P:=by
 rintro l HB x K0 a' W hx hl hr⟨v,hv,Hl,hB⟩K2 rfl;have HD:=K Hl;obtain⟨va,vb,rfl,_,_⟩:=Hl;have hc:=hv.cell;have hf:=hv.frozen;gi_wp2_with (refine⟨trivial,?_⟩;gi_at_call 304;refine(callsIn_wd.2 (DC _ _ HD _ _)).mono ?_;rintro e w' ⟨v',rfl,K3,rfl⟩;have HV:=K K3;obtain⟨c1,c2,rfl,_,_⟩:=K3)
 refine⟨Kept.refl.setCell (λo ho hc=>?_) _,_,hv.set _,by rw[sY];exact HV.out,hB.setCell (p:=⟨w.heap.size,0,L⟩) (xN _) _⟩;rintro(h | h)
 ·exact h.1 rfl
 ·rw[hc]at h;cases h.2):P:=h
attribute [local go_sem] Ps
theorem MG{α:Type}(l:List α)(m:Nat)(h:m<S l)(R:List α):l++R=l.take m++l[m]::(l.drop (m+1)++R):=by
 have e:=Pe m l;rw[P5 h]at e
 calc l++R=(l.take m++l[m]::l.drop (m+1))++R:=by rw[e]
  _=_:=by rw[P1,P3]
def Hold(a W:World):Prop:=∀p u,a.cell? p=H u->W.cell? p=H u
theorem Hold.kept{a W':World}{b n:Nat}(h:Hold a W)(Km:a.heap.size<=b)(hk:Kept (am (λk o=>k≠b/\o.isCells=true) n) W W'):Hold a W':=by
 intro p u b;have d:=World.block_lt_of_cell? a p b;obtain⟨o,a,hc⟩:=cells_of_cell (h p u b);exact hk.cell (h p u b) (λb c=>by rw[a]at c;cases c;exact .inl ⟨by omega,hc⟩)
theorem yA(i h:World)(vp:Value)(b:List (List UInt8))(hP:Parts i vp b)(hE:Hold i h)(C B:Nat)(Km:i.heap.size<=C)(hB:Boxed h B 243 vp):
  Seq I 307 #[M (H ⟨B,0,L⟩)]
   (λ(d:UInt8) av _=>av = #[bv d]) (λk o=>k≠C/\o.isCells=true) (λ_ _=>False) b.flatten h:=by
 intro l J Jx hJ Jp hY h0;obtain⟨r,Ki,Hf,Kj⟩:=hP;obtain⟨A,c,rfl,h1,h2⟩:=xO Hf;have Jk:S r<=S b:=by omega
 have Jl:S b<=S r:=by omega
 have Ko:=hB.cell;clear Ki hB;refine(callsIn_wd (ro:=none) (n:=9)).1 ?_;refine callsIn_of_wp func307 rfl trivial ?_ rfl;simp only[ntmps307,P6,xC,Pa,Pn,Pm,Pk,Pj,P7,P4,xI,P3];gi_wp2;gi_loopw [9] (λj W=>∃k:Nat,k<=S b/\j=F G k/\Hid (J (b.take k).flatten W)/\Hid (Hold i W)/\h.heap.size<=W.heap.size) (λj _=>S b-(intOf j).toNat)
 case atStart=>exact⟨0,Pl _,rfl,h0,hE,xN _⟩
 case round=>
  obtain⟨k,hk,rfl,P,O,K2⟩:=hrel;by_cases E:k<S b
  ·obtain⟨_,ba,H4,rfl,hc⟩:=SlR.at_ Hf (by omega);have V:k<S r:=by omega
   have t:=hc k r[k] (P8 V);have w:=Kj k V E;obtain⟨A',c',Z,h3,h4⟩:=xO w;rw[Z]at t w;have T:=O _ _ t;have Hx:=oo b k E;have Kp:b.flatten=(b.take k).flatten++(b[k]++(b.drop (k+1)).flatten):=by
    conv=>lhs;rw[<-Pe (k+1) b,List.flatten_append,Hx,P1]
   have K9:=K Hx;have Ja:=K Kp;generalize b[k]=bk at *;clear hc Z Hx Kp t;gi_wp2;gi_loopw [15] (λj W=>∃m:Nat,m<=S bk/\j=F G m/\Hid (J ((b.take k).flatten++bk.take m) W)/\Hid (Hold i W)/\h.heap.size<=W.heap.size) (λj _=>S bk-(intOf j).toNat)
   case atStart=>exact⟨0,Pl _,rfl,by show J _ _;rw[Pi,Ph];exact P.out,O,K2⟩
   case round=>
    obtain⟨m,hm,rfl,HQ,z,y⟩:=hrel;by_cases g:m<S bk
    ·obtain⟨_,b2,Kl,e2,R⟩:=Bs.at_ w (by omega);cases e2;have Kg:=z _ _ (R m g);have Y:bk.take (m+1)=bk.take m++[bk[m]]:=Pb g;have x:b.flatten=((b.take k).flatten++bk.take m)++bk[m]::(bk.drop (m+1)++(b.drop (k+1)).flatten):=by
      rw[Ja.out,MG bk m g,P1]
     have q:=hY _ _ _ x _ #[bv bk[m]] HQ y rfl;have s:=K Y;have K8:=K x;generalize bk[m]=bm at *;have key:∀(o:Oper) (a:Act) (next:Act->World->Prop) (Q:Exit->Act->World->Prop) (W:World),
       Mv.YieldsAt I l #[bv bm] W (λe W'=>Kept (am (λk o=>k≠C/\o.isCells=true) h.heap.size) W W'/\((e=.returned (N true)/\J ((b.take k).flatten++bk.take m++[bm]) W')\/(e=.returned (N false)/\Jx ((b.take k).flatten++bk.take m++[bm]) W')))->Hold i W->h.heap.size<=W.heap.size ->
       (∀W':World,J ((b.take k).flatten++bk.take (m+1)) W'->Hold i W'->h.heap.size<=W'.heap.size->next (a.put o.dst (N true)) W') ->
       (∀W':World,Jx ((b.take k).flatten++bk.take (m+1)) W'->next (a.put o.dst (N false)) W') ->
       o.uponIn (Wd none) 9 I a next Q ((Instr.yield l #[bv bm]).run I W):=by
      intro o a next Q W q p hs h1 h2;refine ew q ?_;rintro e W' ⟨U,⟨rfl,f⟩|⟨rfl,f⟩⟩
      ·refine⟨true,rfl,h1 W' ?_ (p.kept Km U) (Po hs U.size)⟩;rw[s.out,<-P1];exact f
      refine⟨false,rfl,h2 W' ?_⟩;rw[s.out,<-P1];exact f
     have Ka:=K key;have Hy:=K q;have X:(b.take k).flatten++bk.take (m+1) <+: b.flatten:=by
      rw[K8.out,s.out];exact⟨bk.drop (m+1)++(b.drop (k+1)).flatten,by simp⟩
     have Kc:=K X;clear R Y x key q hY X;gi_wp2;refine Ka _ _ _ _ _ Hy z y ?_ ?_
     ·intro W' f p hs;have v:=K f;have Hh:=K p;clear f p Kg T Ko;gi_wp2;exact⟨⟨m+1,by omega,by go_num,v,Hh,hs⟩,by simp[intOf];omega⟩
     intro W' f;have v:=K f;clear f Kg T Ko;gi_wp2;refine bodyPost_ret (results_none rfl _ _ _) rfl ?_;exact⟨⟨_,rfl⟩,.inr ⟨_,Kc.out,v.out⟩⟩
    have D:=HQ.out;rw[P2 (show S bk<=m from by omega),<-K9.out]at D;have K5:=K D;clear D;gi_wp2;exact⟨⟨k+1,by omega,by go_num,K5,z,y⟩,by simp[intOf];omega⟩
  ·have f:=P.out;rw[P2 (show S b<=k from by omega)]at f;have J8:=K f;clear f;gi_wp2;refine bodyPost_end (results_none rfl _ _ _) rfl ?_;exact⟨⟨_,rfl⟩,.inl J8⟩
attribute [local go_sem] Ps
theorem pN(P:Program)(w:World)(a:Addr)(m:Mode)(x y:Nat):(store a (.complex .f64 x y) m).run P w=stored P w a (.complex .f64 x y) m:=run_store P w a _ m rfl
attribute [local go_sem] pN
theorem yr(A:Option Addr)(n c:Nat)(w:World):Calls I 303 #[C A n c] w λe w'=>e=.returned (.func (.func 307) #[] #[M (H ⟨w.heap.size,0,L⟩)])/\w.alloc (E #[C A n c] 243)=w':=by
 go_enter func303,ntmps303
 go_wp2;go_ret;exact⟨rfl,rfl⟩
def o6(v:Value)(bs:List UInt8)(w:World)(e:Ending)(w':World):Prop:=∃a,e=.returned a/\PtV a (aD (ptV v) bs)/\Ext w w'
def ChI(w:World)(b:Nat×Nat)(a:List UInt8)(X:World):Prop:=∃v,Boxed X w.heap.size 212 v/\PtV v (aD b a)/\Below w.heap.size w X
theorem qI(a b:Nat)(y:Value)(d:List (List UInt8))(w:World)(h:Parts w y d):
  Calls I 297 #[.complex .f64 a b,y] w (o6 (.complex .f64 a b) d.flatten w):=by
 obtain⟨A,c,rfl,h1,h2⟩:∃A c,y=C A d.length c/\S d<=c/\c<=9223372036854775807:=by obtain⟨y,_,hs,_⟩:=h;exact xO hs
 have i:=K (λw=>rX a b w);have z:=K h;cases f:((aw a).isSome&&(aw b).isSome)
 ·rw[f]at i;have r:PtV (.complex .f64 0 0) (ptV (.complex .f64 a b)):=by rw[BL f];exact PtV.zero
  unfold o6;generalize ptV (.complex .f64 a b)=p0 at *;have j:=K r;refine(callsIn_wd (ro:=none) (n:=9)).1 ?_;refine callsIn_of_wp_marks func297 rfl trivial ?_ rfl;simp only[ntmps297,P6,xC,Pa,Pn,Pm,Pk,Pj,P7,P4,xI,P3];gi_wp2_with (first
   |(refine⟨trivial,?_⟩;gi_at_call 302;refine(callsIn_wd.2 (i _)).mono ?_;rintro e w' ⟨rfl,rfl⟩)
   |(refine⟨trivial,?_⟩;gi_at_call 303;refine(callsIn_wd.2 (yr _ _ _ _)).mono ?_;rintro e w' ⟨rfl,rfl⟩))
  have t:Boxed ((w.alloc (E #[.complex .f64 0 0] 212)).alloc (E #[C A d.length c] 243)) (w.heap.size+1) 243 (C A d.length c):=by
   have:=Boxed.new (w.alloc (E #[.complex .f64 0 0] 212)) 243 (C A d.length c);rwa[xS]at this
  have H0:Ext w ((w.alloc (E #[.complex .f64 0 0] 212)).alloc (E #[C A d.length c] 243)):=xA (xA (xR _) _) _;have q:ChI w p0 [] ((w.alloc (E #[.complex .f64 0 0] 212)).alloc (E #[C A d.length c] 243)):=⟨_,(Boxed.new w _ _).alloc _,j.out,H0⟩;have B:((w.alloc (E #[.complex .f64 0 0] 212)).alloc (E #[C A d.length c] 243)).heap.size=w.heap.size+2:=by simp
  generalize(w.alloc (E #[.complex .f64 0 0] 212)).alloc (E #[C A d.length c] 243)=w2 at *;refine dV (a:=⟨_,_⟩) rfl (enters_of func307 (by kernel_rfl) rfl)
   (λW1 hb _=>yA w W1 _ d z (λp u hc=>Ext.cell (xT H0 hb) hc) w.heap.size (w.heap.size+1) (xN _) (t.kept (row:=none) (Ext.grown hb none) (by simp)))
   (λk o h=>h.elim) (λk o h=>h.2) (λx m W h=>by rw[h];rfl)
   (ChI w p0) (λ_ _ _=>False) ?hI (λ_ _ _ _ h _=>h) q
   (λx a' _=>a'=⟨#[.complex .f64 a b,C A d.length c,M (H ⟨w.heap.size,0,L⟩),undef,.complex .f64 0 0,F O x.toNat,.complex .f64 a b,N false,N true,C A d.length c,.func (.func 307) #[] #[M (H ⟨w.heap.size+1,0,L⟩)],F O x.toNat,undef,undef,undef,undef],[]⟩)
   (λ_ _ _ _ h _=>h) ?assign ?body ?done ?stop
  case hI=>
   rintro s X Y⟨v,hv,hr,hB⟩hm;refine⟨v,hm.boxed hv ?_,hr,hm.belowOf hB ?_ (xN _)⟩
   ·rintro(h | h)
    ·exact h
    cases h.2
   rintro k o hk(h | h)
   ·exact h
   have:=h.1;omega
  case assign=>
   rintro l HB x K0 W m G hx hi K2 rfl g;simp only[bv];gi_wp2;exact g _ _ Kept.refl hi rfl
  case body=>
   exact mcChaina0
  case done=>
   rintro D W hD⟨v,hv,Hl,hB⟩g;have HD:=K Hl;obtain⟨va,vb,rfl,_,_⟩:=Hl;have hc:=hv.cell;gi_wp2;refine dh g _ (results_tmp rfl _ _ _) ?_;exact⟨_,rfl,HD.out,cp hB _⟩
  case stop=>
   rintro D c HB W _ _ h _;exact h.elim
 ·rw[f]at i;have r:PtV (.complex .f64 a b) (ptV (.complex .f64 a b)):=zU f;unfold o6;generalize ptV (.complex .f64 a b)=p0 at *;have j:=K r;refine(callsIn_wd (ro:=none) (n:=9)).1 ?_;refine callsIn_of_wp_marks func297 rfl trivial ?_ rfl;simp only[ntmps297,P6,xC,Pa,Pn,Pm,Pk,Pj,P7,P4,xI,P3];gi_wp2_with (first
   |(refine⟨trivial,?_⟩;gi_at_call 302;refine(callsIn_wd.2 (i _)).mono ?_;rintro e w' ⟨rfl,rfl⟩)
   |(refine⟨trivial,?_⟩;gi_at_call 303;refine(callsIn_wd.2 (yr _ _ _ _)).mono ?_;rintro e w' ⟨rfl,rfl⟩))
  have t:Boxed ((w.alloc (E #[.complex .f64 a b] 212)).alloc (E #[C A d.length c] 243)) (w.heap.size+1) 243 (C A d.length c):=by
   have:=Boxed.new (w.alloc (E #[.complex .f64 a b] 212)) 243 (C A d.length c);rwa[xS]at this
  have H0:Ext w ((w.alloc (E #[.complex .f64 a b] 212)).alloc (E #[C A d.length c] 243)):=xA (xA (xR _) _) _;have q:ChI w p0 [] ((w.alloc (E #[.complex .f64 a b] 212)).alloc (E #[C A d.length c] 243)):=⟨_,(Boxed.new w _ _).alloc _,j.out,H0⟩;have B:((w.alloc (E #[.complex .f64 a b] 212)).alloc (E #[C A d.length c] 243)).heap.size=w.heap.size+2:=by simp
  generalize(w.alloc (E #[.complex .f64 a b] 212)).alloc (E #[C A d.length c] 243)=w2 at *;refine dV (a:=⟨_,_⟩) rfl (enters_of func307 (by kernel_rfl) rfl)
   (λW1 hb _=>yA w W1 _ d z (λp u hc=>Ext.cell (xT H0 hb) hc) w.heap.size (w.heap.size+1) (xN _) (t.kept (row:=none) (Ext.grown hb none) (by simp)))
   (λk o h=>h.elim) (λk o h=>h.2) (λx m W h=>by rw[h];rfl)
   (ChI w p0) (λ_ _ _=>False) ?hI (λ_ _ _ _ h _=>h) q
   (λx a' _=>a'=⟨#[.complex .f64 a b,C A d.length c,M (H ⟨w.heap.size,0,L⟩),undef,.complex .f64 0 0,F O x.toNat,.complex .f64 a b,N true,N false,C A d.length c,.func (.func 307) #[] #[M (H ⟨w.heap.size+1,0,L⟩)],F O x.toNat,undef,undef,undef,undef],[]⟩)
   (λ_ _ _ _ h _=>h) ?assign ?body ?done ?stop
  case hI=>
   rintro s X Y⟨v,hv,hr,hB⟩hm;refine⟨v,hm.boxed hv ?_,hr,hm.belowOf hB ?_ (xN _)⟩
   ·rintro(h | h)
    ·exact h
    cases h.2
   rintro k o hk(h | h)
   ·exact h
   have:=h.1;omega
  case assign=>
   rintro l HB x K0 W m G hx hi K2 rfl g;simp only[bv];gi_wp2;exact g _ _ Kept.refl hi rfl
  case body=>
   exact mcChaina0
  case done=>
   rintro D W hD⟨v,hv,Hl,hB⟩g;have HD:=K Hl;obtain⟨va,vb,rfl,_,_⟩:=Hl;have hc:=hv.cell;gi_wp2;refine dh g _ (results_tmp rfl _ _ _) ?_;exact⟨_,rfl,HD.out,cp hB _⟩
  case stop=>
   rintro D c HB W _ _ h _;exact h.elim
def cK(first:Int):Int×List UInt8:=if aB first=true/\first≠0 then(0,2::aF [first])else(2,[])
theorem L3(first:Int):S (cK first).2<=6:=by
 unfold cK;split
 ·have:=eY [first];simp at *;omega
 ·simp
theorem PM{c d:Value}{a b:List UInt8}(e:Bs W c a)(hb:Bs W d b):Parts (W.alloc (E #[c,d] 33)) (C (H ⟨W.heap.size,0,L⟩) 2 2) [a,b]:=by
 refine⟨[c,d],rfl,xW (be W [c,d] 33 2 (xN _)),λi hi c=>?_⟩;match i,hi with
 |0,_=>exact Bs.ext e (xA (xR _) _)
 |1,_=>exact Bs.ext hb (xA (xR _) _)
theorem lU{b:Value}{a:List UInt8}(c:Bs W b a):Parts (W.alloc (E #[b] 33)) (C (H ⟨W.heap.size,0,L⟩) 1 1) [a]:=by
 refine⟨[b],rfl,xW (be W [b] 33 1 (xN _)),λi hi b=>?_⟩;match i,hi with
 |0,_=>exact Bs.ext c (xA (xR _) _)
def zxh(w:World)(r:Int×List UInt8)(e:Ending)(w':World):Prop:=∃v,e=.returned (.tuple #[v,F G r.1])/\w'.ownsRow w.heap.size 5 1 v r.2.length (r.2.map bv)/\Ext w w'
theorem zzK(first:Int)(w:World):Calls I 360 #[F G first] w (zxh w (cK first)):=by
 have j:Is (w.alloc (E #[F G first] 3)) (C (H ⟨w.heap.size,0,L⟩) 1 1) [first]:=xW (be w [F G first] 3 1 (xN _));by_cases hn:aB first=true
 ·have i:aG [first]=true:=by simp[aG,hn]
  have g:=K (AQ _ _ _ j i (by simp));by_cases f:first=0
  ·have d:cK first=(2,[]):=by unfold cK;rw[if_neg (λh=>h.2 f)]
   unfold zxh;rw[d];subst f;go_enter func360,ntmps360
   go_wp2_with (go_at_call 119;refine g.mono ?_;rintro e a⟨l,rfl,Hk,b⟩)
   go_ret2;exact⟨_,rfl,P0 _ _ _ _,xT (xA (xR _) _) b⟩
  have d:cK first=(0,2::aF [first]):=by unfold cK;rw[if_pos ⟨hn,f⟩]
  have hl:=eY [first];unfold zxh;rw[d];have n:(first==0)=false:=by simpa using f
  obtain⟨bs,Kf⟩:∃bs,aF [first]=bs:=⟨_,rfl⟩;rw[Kf]at hl⊢;have k:=K Kf;go_enter func360,ntmps360
  go_wp2_with (first
   |(go_at_call 119;refine g.mono ?_;rintro e a⟨l,rfl,Hk,b⟩;rw[k.out]at Hk;obtain⟨A,c,rfl,_,_⟩:=xO (xW Hk))
   | (go_at_call 239
      have h2:Bs (a.alloc (E #[F O 2] 5)) (C (H ⟨a.heap.size,0,L⟩) 1 1) [2]:=xW (be a [F O 2] 5 1 (xN _));have h3:Bs a (C A bs.length c) bs:=xW Hk;have h4:Bs (a.alloc (E #[F O 2] 5)) (C A bs.length c) bs:=Bs.ext h3 (xA (xR _) _);have h5:=PM h2 h4;rw[xS]at h5;have f:S [[2],bs].flatten<=70368744177664:=by simp;simp at hl;omega
      refine(pG _ _ _ h5 f).mono ?_;rintro e m⟨f,rfl,k,H0⟩))
  go_ret2;have f:Ext w m:=xT (xA (xA (xT (xA (xR _) _) b) _) _) H0;refine⟨_,rfl,?_,f⟩;have hb:w.heap.size<=((a.alloc (E #[F O 2] 5)).alloc (E #[C (H ⟨a.heap.size,0,L⟩) 1 1,C A bs.length c] 33)).heap.size:=by have:=b.size;simp at *;omega
  simpa using ay k hb
 ·have i:aG [first]=false:=by simp[aG,hn]
  have g:=K (zzh _ _ _ j i);have d:cK first=(2,[]):=by unfold cK;rw[if_neg (λh=>hn h.1)]
  unfold zxh;rw[d];go_enter func360,ntmps360
  go_wp2_with (go_at_call 119;refine g.mono ?_;rintro e a⟨rfl,b⟩)
  go_ret2;exact⟨_,rfl,P0 _ _ _ _,xT (xA (xR _) _) b⟩
attribute [local go_sem] Ps
def bg(n:Nat)(bs:List UInt8):List (List UInt8):=
 if h:bs=[]\/n=0 then[]else bs.take n::bg n (bs.drop n)
termination_by (S bs)
decreasing_by
 have:0<S bs:=List.length_pos_iff.2 (λe=>h (.inl e));have:n≠0:=λe=>h (.inr e);simp;omega
theorem f8{a:World}{b H4 m c:Nat}{bs:List UInt8}(h:Bs a (C (H ⟨b,H4,L⟩) m c) bs)(k n:Nat)(hk:k+n<=S bs):Bs a (C (H ⟨b,H4+k,L⟩) n n) ((bs.drop k).take n):=by
 obtain⟨a,A,c',e,h1,h2,h3⟩:=h;cases e;unfold Bs;have hl:S ((bs.drop k).take n)=n:=by rw[List.length_take,P9];omega
 rw[hl];refine⟨by rw[Pg,hl];omega,_,n,rfl,xN _,by omega,λhn=>?_⟩;obtain⟨a,a,e',hc⟩:=h3 (by omega);cases e';refine⟨b,H4+k,rfl,λj u a=>?_⟩;rw[Nat.add_assoc];refine hc (k+j) u ?_;rw[<-a,Pf,Pf,List.getElem?_take,List.getElem?_drop];have d:j<n:=by
  have:=(List.getElem?_eq_some_iff.1 a).1;rw[Pg,hl]at this;exact this
 rw[if_pos d]
