/- Merged -/
import Derived.Test.YtgonhdeochgkoaaGreatDoorZx5
set_option linter.all false
set_option maxHeartbeats 8000000
set_option maxRecDepth 100000
open UInt8 renaming ofNat→P0,toNat_ofNat'→P1,ofNat_toNat→P2
open List renaming append_assoc→P3,eq_nil_of_length_eq_zero→P4,take_append_drop→P5,cons_append→P6,mem_append→P7
open Prod.mk renaming injEq→P8
open Option.some renaming injEq→P9
open Nat renaming pow_succ→Pa,le_trans→Pb
namespace Go.Proofs.YtgonhdeochgkoaaGreatDoor
open Go.RowKit Go.Mv
def zdI (n:Nat) (hs:List UInt8):Nat:=hs.foldl (fun a x=>a*128+x.toNat % 128) n
theorem zlA (n:Nat) (hs:List UInt8) (x:UInt8):zdI n (hs++[x])=zdI n hs*128+x.toNat % 128:=by unfold zdI;rw[List.foldl_append];rfl
theorem zlz (n:Nat) (hs:List UInt8) (x:UInt8):zdI n (x::hs)=zdI (n*128+x.toNat % 128) hs:=rfl
theorem zrZ (f n:Nat) (l:List UInt8) (m:Nat) (r:List UInt8) (h:zbL f n l=(0,m,r)) :
  ∃ hs b,l=hs++b::r∧hs.length+1≤f∧(∀ x∈hs,128≤x.toNat)∧b.toNat<128∧m=zdI n hs*128+b.toNat∧m≤1073741824:=by
 induction f generalizing n l with
 | zero=>simp[zbL] at h
 | succ f ih =>
  cases l with
  | nil=>simp[zbL] at h
  | cons b l =>
   rw[zbL] at h
   by_cases hb:128≤b.toNat
   ·rw[if_pos hb] at h
    obtain ⟨hs,c,rfl,h1,h2,h3,h4,h5⟩:=ih _ _ h
    refine ⟨b::hs,c,rfl,by simp;omega,?_,h3,h4,h5⟩
    intro x hx
    rcases List.mem_cons.1 hx with rfl | hx
    ·exact hb
    ·exact h2 x hx
   ·rw[if_neg hb] at h
    split at h
    ·rename_i hm
     simp only[P8,true_and] at h;obtain ⟨rfl,rfl⟩:=h
     exact ⟨[],b,rfl,by simp,by simp,by omega,by show _=n*128+_;omega,hm⟩
    ·simp at h
theorem zp1 (f n:Nat) (hs:List UInt8) (b:UInt8) (r:List UInt8) (h1:hs.length+1≤f) (h2:∀ x∈hs,128≤x.toNat) (h3:b.toNat<128) :
  zbL f n (hs++b::r)=if zdI n hs*128+b.toNat≤1073741824 then (0,zdI n hs*128+b.toNat,r) else (11,0,[]):=by
 induction hs generalizing f n with
 | nil =>
  obtain ⟨f,rfl⟩:∃ g,f=g+1:=⟨f-1,by simp at h1;omega⟩
  rw[xI,zbL,if_neg (by omega),show b.toNat % 128=b.toNat from by omega]
  rfl
 | cons x hs ih =>
  obtain ⟨f,rfl⟩:∃ g,f=g+1:=⟨f-1,by simp at h1;omega⟩
  rw[P6,zbL,if_pos (h2 x (by simp)),ih f _ (by simp at h1;omega) (fun y hy=>h2 y (by simp[hy]))]
  rfl
theorem zfC {f m:Nat} (hm:m≠0):hiB (f+1) m=hiB f (m / 128)++[P0 (m % 128+128)]:=by rw[hiB,if_neg hm]
theorem zkO (m:Nat):(P0 (m % 128+128)).toNat=m % 128+128:=by
 rw[P1];omega
theorem zt9 (f v:Nat):∀ x∈hiB f v,128≤x.toNat:=by
 induction f generalizing v with
 | zero=>simp[hiB]
 | succ f ih =>
  by_cases h0:v=0
  ·subst h0;rw[zeG];simp
  ·rw[zfC h0]
   intro x hx
   rcases P7.1 hx with hx | hx
   ·exact ih _ x hx
   ·have:x=P0 (v % 128+128):=by simpa using hx
    subst this;rw[zkO];omega
theorem zub (f v:Nat) (h:v<128^f):zdI 0 (hiB f v)=v:=by
 induction f generalizing v with
 | zero =>
  have:v=0:=by simpa using h
  subst this;rfl
 | succ f ih =>
  by_cases h0:v=0
  ·subst h0;rw[zeG];rfl
  ·rw[zfC h0,zlA,ih _ (by rw[Pa] at h;omega),zkO]
   omega
theorem zua (f k v:Nat) (h:v<128^k):(hiB f v).length≤k:=by
 induction f generalizing v k with
 | zero=>simp[hiB]
 | succ f ih =>
  by_cases h0:v=0
  ·subst h0;rw[zeG];simp
  ·rw[zfC h0,xL]
   cases k with
   | zero=>simp at h;omega
   | succ k =>
    have:=ih k (v / 128) (by rw[Pa] at h;omega)
    simp;omega
theorem zsU (f v:Nat) (h:v<128^f):(hiB f v).head?≠some 128:=by
 induction f generalizing v with
 | zero=>simp[hiB]
 | succ f ih =>
  by_cases h0:v=0
  ·subst h0;rw[zeG];simp
  ·rw[zfC h0]
   by_cases h1:v / 128=0
   ·rw[h1,zeG]
    intro e
    have e2:P0 (v % 128+128)=128:=by simpa using e
    have e3:=congrArg UInt8.toNat e2;rw[zkO] at e3
    have:(128:UInt8).toNat=128:=rfl
    omega
   ·have H9:hiB f (v / 128)≠[]:=by
     cases f with
     | zero=>simp at h;omega
     | succ f=>rw[zfC h1];simp
    have hi:=ih (v / 128) (by rw[Pa] at h;omega)
    cases hq:hiB f (v / 128) with
    | nil=>exact absurd hq H9
    | cons y ys=>rw[hq] at hi;simpa using hi
theorem zux (n:Nat) (hs:List UInt8):n≤zdI n hs:=by
 induction hs generalizing n with
 | nil=>exact xN _
 | cons x hs ih=>rw[zlz];exact Pb (by omega) (ih _)
theorem ztv {hs:List UInt8} (H9:hs≠[]) (h1:∀ x∈hs,128≤x.toNat) (h2:hs.head?≠some 128):zdI 0 hs≠0:=by
 cases hs with
 | nil=>exact absurd rfl H9
 | cons x hs =>
  rw[zlz]
  have hx:x.toNat≠128:=fun e=>h2 (by simp;apply UInt8.toNat_inj.1;simpa using e)
  have h:=h1 x (by simp);have hl:=x.toNat_lt
  have:=zux (0*128+x.toNat % 128) hs
  omega
theorem zuS (f:Nat) (hs:List UInt8) (hl:hs.length≤f) (h1:∀ x∈hs,128≤x.toNat) (h2:hs.head?≠some 128):hiB f (zdI 0 hs)=hs:=by
 induction f generalizing hs with
 | zero =>
  have:hs=[]:=P4 (by omega)
  subst this;rfl
 | succ f ih =>
  by_cases h0:hs=[]
  ·subst h0;rfl
  ·have hp:=ztv h0 h1 h2
   obtain ⟨ys,y,rfl⟩:∃ ys y,hs=ys++[y]:=⟨hs.dropLast,hs.getLast h0,(List.dropLast_concat_getLast h0).symm⟩;rw[zfC hp,zlA];have hy:=h1 y (by simp);have Hz:=y.toNat_lt
   have e1:(zdI 0 ys*128+y.toNat % 128) / 128=zdI 0 ys:=by omega
   have e2:(zdI 0 ys*128+y.toNat % 128) % 128+128=y.toNat:=by omega
   rw[e1,e2,ih ys (by simp at hl;omega) (fun x hx=>h1 x (by simp[hx])) ?_,P2]
   cases ys with
   | nil=>simp
   | cons z ys=>simpa using h2
theorem zoj (n:Nat) (hn:n≤1073741824):∃ hs b,zbO n=hs++[b]∧hs.length≤4∧(∀ x∈hs,128≤x.toNat)∧b.toNat<128∧hs.head?≠some 128∧n=zdI 0 hs*128+b.toNat:=by
 have hb:(P0 (n % 128)).toNat=n % 128:=by rw[P1];omega
 have h5:n / 128<128^5:=by have:(128:Nat)^5=34359738368:=by decide
                           omega
 have h4:n / 128<128^4:=by have:(128:Nat)^4=268435456:=by decide
                           omega
 exact ⟨hiB 5 (n / 128),P0 (n % 128),zim n hn,zua 5 4 _ h4,zt9 _ _,by omega,zsU _ _ h5,by rw[zub _ _ h5,hb];omega⟩
theorem zls (n:Nat) (hn:n≤1073741824) (r:List UInt8):zaK (zbO n++r)=(0,n,r):=by
 obtain ⟨hs,b,H5,h1,h2,h3,h4,h5⟩:=zoj n hn;rw[H5,P3];unfold zaK
 have hh:(hs++([b]++r)).head?≠some 128:=by
  cases hs with
  | nil =>
   intro e
   have:b=128:=by simpa using e
   subst this
   exact absurd h3 (by decide)
  | cons x hs=>simpa using h4
 rw[if_neg hh]
 rw[show hs++([b]++r)=hs++b::r from rfl,zp1 5 0 hs b r (by omega) h2 h3,←h5,if_pos hn]
theorem zne {l:List UInt8} {m:Nat} {r:List UInt8} (h:zaK l=(0,m,r)):l=zbO m++r∧m≤1073741824:=by
 unfold zaK at h
 split at h
 ·simp at h
 ·rename_i hh
  obtain ⟨hs,b,rfl,h1,h2,h3,h4,h5⟩:=zrZ _ _ _ _ _ h
  have Hn:hs.head?≠some 128:=by
   cases hs with
   | nil=>simp
   | cons x hs=>simpa using hh
  refine ⟨?_,h5⟩
  have hd:m / 128=zdI 0 hs:=by omega
  have hm:m % 128=b.toNat:=by omega
  rw[zim m h5,hd,hm,zuS 5 hs (by omega) h2 Hn,P2,P3];rfl
theorem zgs (l:List Int) (hl:zav l=true) (acc:List Int) (r:List UInt8):zae l.length acc (zaj l++r)=(0,acc++l,r):=by
 induction l generalizing acc with
 | nil=>simp[zae,zaj]
 | cons n l ih =>
  have hn:zaE n=true∧zav l=true:=by simpa [zav] using hl
  obtain ⟨hn,H4⟩:=hn;have Hx:=numB_true.1 hn
  have e:zaK (zaj (n::l)++r)=(0,n.toNat,zaj l++r):=by
   rw[show zaj (n::l)++r=zbO n.toNat++(zaj l++r) from by simp[zaj]]
   exact zls _ (by omega) _
  rw[xC,zae,e];simp only[if_true]
  rw[ih H4,show ((n.toNat:Nat):Int)=n from by omega,P3]
  rfl
theorem zfB (k:Nat) (acc:List Int) (bs:List UInt8) (l:List Int) (r:List UInt8) (h:zae k acc bs=(0,l,r)) :
  ∃ l',l=acc++l'∧l'.length=k∧zav l'=true∧bs=zaj l'++r:=by
 induction k generalizing acc bs with
 | zero =>
  simp only[zae,P8,true_and] at h;obtain ⟨rfl,rfl⟩:=h
  exact ⟨[],by simp,rfl,rfl,rfl⟩
 | succ k ih =>
  rw[zae] at h
  rcases ht:zaK bs with ⟨e,m,r1⟩
  rw[ht] at h;dsimp only at h
  by_cases he:e=0
  ·subst he
   rw[if_pos rfl] at h;obtain ⟨h1,h2⟩:=zne ht;obtain ⟨l',rfl,h3,h4,h5⟩:=ih _ _ h
   refine ⟨(m:Int)::l',by simp,by simp[h3],?_,?_⟩
   ·simp only[zav,List.all_cons,Bool.and_eq_true] at h4 ⊢
    exact ⟨numB_true.2 ⟨by omega,by omega⟩,h4⟩
   ·rw[h1,h5];simp[zaj]
  ·rw[if_neg he] at h
   simp at h;exact absurd h.1 he
def zaU (es:List Ent):List Int:=es.flatMap fun e=>[e.t,e.k,e.v]
def zee:List Int→List Ent
 | t::k::v::l=>⟨t,k,v⟩::zee l
 | _=>[]
theorem zr6 (es:List Ent):zee (zaU es)=es:=by
 induction es with
 | nil=>rfl
 | cons e es ih=>rw[show zaU (e::es)=e.t::e.k::e.v::zaU es from rfl,zee,ih]
theorem zdX (es:List Ent):(zaU es).length=3*es.length:=by
 induction es with
 | nil=>rfl
 | cons e es ih=>rw[show zaU (e::es)=e.t::e.k::e.v::zaU es from rfl];simp[ih];omega
theorem zk8 (k:Nat) (l:List Int) (h:l.length=3*k):zaU (zee l)=l∧(zee l).length=k:=by
 induction k generalizing l with
 | zero =>
  have:l=[]:=P4 (by omega)
  subst this;exact ⟨rfl,rfl⟩
 | succ k ih =>
  match l,h with
  | t::k'::v::l,h =>
   obtain ⟨h1,h2⟩:=ih l (by simp at h;omega);rw[zee]
   exact ⟨by rw[show zaU (⟨t,k',v⟩::zee l)=t::k'::v::zaU (zee l) from rfl,h1],by simp[h2]⟩
theorem zkB (a b:List Int):zaj (a++b)=zaj a++zaj b:=by simp[zaj]
theorem zjg (es:List Ent):zaj (zaU es)=es.flatMap zmo:=by
 induction es with
 | nil=>rfl
 | cons e es ih=>rw[show zaU (e::es)=[e.t,e.k,e.v]++zaU es from rfl,zkB,ih];rfl
theorem znu {es:List Ent} (h:zc0 es=true):zav (zaU es)=true:=by
 induction es with
 | nil=>rfl
 | cons e es ih =>
  have he:e.ok=true∧zc0 es=true:=by simpa [zc0] using h
  have h1:=zun he.1;have h2:=ih he.2
  simp only[zav,List.all_eq_true] at h1 h2 ⊢
  intro x hx
  rcases P7.1 (show x∈[e.t,e.k,e.v]++zaU es from hx) with hx | hx
  ·exact h1 x hx
  ·exact h2 x hx
def zd2:List UInt8→Option (List Ent×List UInt8)
 | []=>none
 | c::r=>if c.toNat=0∨4<c.toNat then none else if (zae (3*c.toNat) [] r).1=0∧zc0 (zee (zae (3*c.toNat) [] r).2.1)=true then some (zee (zae (3*c.toNat) [] r).2.1,(zae (3*c.toNat) [] r).2.2) else none
theorem zhX (es:List Ent):ziD es=true↔(0<es.length∧es.length≤4)∧zc0 es=true:=by simp[ziD]
theorem zp4 {es:List Ent} (h:ziD es=true) (r:List UInt8):zd2 (zbx es++r)=some (es,r):=by
 obtain ⟨⟨h1,h2⟩,h3⟩:=(zhX es).1 h
 have hc:(P0 es.length).toNat=es.length:=by rw[P1];omega
 have ht:=zgs (zaU es) (znu h3) [] r;rw[zdX,zjg,xI] at ht
 rw[show zbx es++r=P0 es.length::(es.flatMap zmo++r) from rfl,zd2,hc,if_neg (by omega),ht]
 dsimp only;rw[zr6,if_pos ⟨rfl,h3⟩]
theorem zlt {bs:List UInt8} {es:List Ent} {r:List UInt8} (h:zd2 bs=some (es,r)):ziD es=true∧bs=zbx es++r:=by
 cases bs with
 | nil=>simp[zd2] at h
 | cons c l =>
  rw[zd2] at h
  split at h
  ·simp at h
  ·rename_i hc
   rcases ht:zae (3*c.toNat) [] l with ⟨e,li,r1⟩
   rw[ht] at h;dsimp only at h
   split at h
   ·rename_i he
    obtain ⟨rfl,h3⟩:=he;obtain ⟨l',H4,h4,h5,h6⟩:=zfB _ _ _ _ _ ht;rw[xI] at H4;subst H4;simp only[P9,P8] at h;obtain ⟨rfl,rfl⟩:=h;obtain ⟨h7,h8⟩:=zk8 c.toNat li h4
    refine ⟨(zhX _).2 ⟨by omega,h3⟩,?_⟩
    rw[h6]
    conv=>lhs;rw[←h7]
    rw[zjg]
    show _=P0 (zee li).length::_
    rw[h8,P2];rfl
   ·simp at h
def zdi (p:Nat×Nat) (bs:List UInt8):Option (List Ent×List UInt8) :=
 match zd2 bs with
 | none=>none
 | some x=>if 4≤x.2.length∧x.2.take 4=zbp (zaL p (zbx x.1)) then some (x.1,x.2.drop 4) else none
theorem ze5 (p:Nat×Nat):(zbp p).length=4:=rfl
theorem zrn (p:Nat×Nat) (bs:List UInt8) (es:List Ent) (r:List UInt8):zdi p bs=some (es,r)↔ziD es=true∧bs=zkL p es++r:=by
 constructor
 ·intro h
  unfold zdi at h
  split at h
  ·simp at h
  ·rename_i x hx
   split at h
   ·rename_i h4
    simp only[P9,P8] at h;obtain ⟨rfl,rfl⟩:=h;obtain ⟨h5,h6⟩:=zlt (es:=x.1) (r:=x.2) hx
    refine ⟨h5,?_⟩
    rw[h6];unfold zkL
    rw[←h4.2,P3,P5]
   ·simp at h
 ·rintro ⟨h1,rfl⟩
  have h2:=zp4 h1 (zbp (zaL p (zbx es))++r);unfold zdi
  rw[show zkL p es++r=zbx es++(zbp (zaL p (zbx es))++r) from by unfold zkL;rw[P3],h2]
  dsimp only;have hl:=ze5 (zaL p (zbx es))
  rw[if_pos ⟨by simp[hl],List.take_left' hl⟩,List.drop_left' hl]
theorem zsu (p:Nat×Nat) (es:List Ent):5≤(zkL p es).length:=by unfold zkL zbx;rw[xL,ze5,xC];omega
theorem zro {p:Nat×Nat} {bs:List UInt8} {es:List Ent} {r:List UInt8} (h:zdi p bs=some (es,r)):r.length<bs.length:=by
 rw[((zrn p bs es r).1 h).2,xL]
 have:=zsu p es;omega
def zcm (p:Nat×Nat) (bs:List UInt8):List Ent×(Nat×Nat)×List UInt8 :=
 match h:zdi p bs with
 | none=>([],p,bs)
 | some (es,r)=>(es++(zcm (zaL p (zbx es)) r).1,(zcm (zaL p (zbx es)) r).2)
termination_by bs.length
decreasing_by all_goals exact zro h
theorem zpR {p:Nat×Nat} {bs:List UInt8} (h:zdi p bs=none):zcm p bs=([],p,bs):=by
 rw[zcm];split
 ·rfl
 ·rename_i h';rw[h] at h';cases h'
theorem zpS {p:Nat×Nat} {bs:List UInt8} {es:List Ent} {r:List UInt8} (h:zdi p bs=some (es,r)) :
  zcm p bs=(es++(zcm (zaL p (zbx es)) r).1,(zcm (zaL p (zbx es)) r).2):=by
 rw[zcm];split
 ·rename_i h';rw[h] at h';cases h'
 ·rename_i h';rw[h] at h';cases h';rfl
def zdv:List UInt8→Option (Nat×List UInt8)
 | []=>none
 | c::r=>if c=2∧(zaK r).1=0∧(zaK r).2.1≠0 then some (zaK r).2 else none
theorem zq7 (bs:List UInt8) (first:Nat) (r:List UInt8):zdv bs=some (first,r)↔(zcN (first:Int)).1=0∧bs=(zcN (first:Int)).2++r:=by
 have Hc:zaj [(first:Int)]=zbO first:=by simp[zaj]
 constructor
 ·intro h
  cases bs with
  | nil=>simp[zdv] at h
  | cons c l =>
   rw[zdv] at h
   split at h
   ·rename_i hc
    obtain ⟨rfl,h1,h2⟩:=hc
    rcases ht:zaK l with ⟨e,m,r1⟩
    rw[ht] at h h1 h2;dsimp only at h h1 h2;subst h1;simp only[P9,P8] at h;obtain ⟨rfl,rfl⟩:=h;obtain ⟨h3,h4⟩:=zne ht;unfold zcN
    rw[if_pos ⟨numB_true.2 ⟨by omega,by omega⟩,by omega⟩,Hc]
    exact ⟨rfl,by rw[h3];rfl⟩
   ·simp at h
 ·rintro ⟨h1,h2⟩
  unfold zcN at h1 h2
  split at h1
  ·rename_i hc
   rw[if_pos hc,Hc] at h2;have hn:=numB_true.1 hc.1;subst h2
   rw[show (2::zbO first)++r=2::(zbO first++r) from rfl,zdv,zls first (by omega)]
   dsimp only
   rw[if_pos ⟨rfl,rfl,by omega⟩]
  ·simp at h1
theorem zq8 {bs:List UInt8} {first:Nat} {r:List UInt8} (h:zdv bs=some (first,r)):r.length≤bs.length∧bs.take (bs.length-r.length)=(zcN (first:Int)).2:=by
 obtain ⟨_,h2⟩:=(zq7 _ _ _).1 h;rw[h2]
 exact ⟨by simp,by rw[xL,Nat.add_sub_cancel,List.take_left]⟩
structure zf1 where
 err:Int
 first:Nat
 log:List Ent
 used:Nat
 pt:Nat×Nat
def zc2 (bs:List UInt8):zf1 :=
 match zdv bs with
 | none=>⟨11,0,[],0,(0,0)⟩
 | some x=>⟨0,x.1,(zcm (zaL (0,0) (zcN (x.1:Int)).2) x.2).1,bs.length-(zcm (zaL (0,0) (zcN (x.1:Int)).2) x.2).2.2.length,(zcm (zaL (0,0) (zcN (x.1:Int)).2) x.2).2.1⟩
open Go.RowKit Go.Mv Go.Shelf
attribute [local go_sem] Oper.semAt_some
theorem zmn (es:List Ent) (i:Nat) (h:i<es.length):(zaU es).drop (i*3)=es[i].t::es[i].k::es[i].v::(zaU es).drop (i*3+3):=by
 induction es generalizing i with
 | nil=>simp at h
 | cons e es ih =>
  rw[show zaU (e::es)=e.t::e.k::e.v::zaU es from rfl]
  cases i with
  | zero=>rfl
  | succ i =>
   have:=ih i (by simpa using h)
   rw[show (i+1)*3=i*3+1+1+1 from by omega]
   simpa using this
theorem zrb {wo:World} {b H0 n c:Nat} {es:List Ent} (h:Is wo (.slice (some ⟨b,H0,none⟩) n c) (zaU es)) (i:Nat) (hi:i<es.length) :
  Is wo (.slice (some ⟨b,H0+i*3,none⟩) 3 3) [es[i].t,es[i].k,es[i].v]:=by
 have hl:=zdX es;obtain ⟨h0,A,c',e,h1,h2,h3⟩:=h
 cases e
 obtain ⟨b',Hu,e',hc⟩:=h3 (by omega)
 cases e'
 refine ⟨by simp,_,3,rfl,xN _,by simp[maxLen],fun _=>⟨b,H0+i*3,rfl,fun j u hu=>?_⟩⟩
 have hd:=zmn es i hi
 have hj:j<3:=by
  have:=(List.getElem?_eq_some_iff.1 hu).1
  simpa using this
 rw[Nat.add_assoc]
 refine hc (i*3+j) u ?_
 rw[←hu,←List.getElem?_drop,←List.map_drop,hd]
 match j,hj with
 | 0,_=>rfl
 | 1,_=>rfl
 | 2,_=>rfl
theorem zpf (wo W0:World) (v:Value) (es:List Ent) (H7:Is wo v (zaU es)) (Hs:es.length≤2000000) (bs bn:Nat) (Hl:Boxed W0 bs 96 v) (Hm:Boxed W0 bn 3 (.int .i64 3)) :
  Seq Tryz.prog 140 #[.pointer (some ⟨bs,0,none⟩),.pointer (some ⟨bn,0,none⟩)]
   (fun (e:Ent) av _=>∃ b H0,av = #[.slice (some ⟨b,H0,none⟩) 3 3]∧Is wo (.slice (some ⟨b,H0,none⟩) 3 3) [e.t,e.k,e.v]) (fun k o=>(k=bs∧o.ty=some 96)∨(k=bn∧o.ty=some 3)) (fun _ _=>False) es W0:=by
 intro l J Jx hJ Hv hY h0;have hL:=zdX es;obtain ⟨A,c,rfl,h1,h2⟩:=xO H7
 rw[hL] at *
 refine (callsIn_wd (ro:=none) (n:=9)).1 ?_
 refine callsIn_of_wp Tryz.func140 rfl trivial ?_ rfl
 simp only[Tryz.ntmps140,List.size_toArray,xC,List.length_nil,Nat.reduceAdd,Nat.reduceSub,Array.replicate_succ,Array.replicate_zero,List.push_toArray,List.append_toArray,xI,P6];have Hg:=zhd H7;clear hL H7
 gi_wp2
 gi_loopw [4] (fun j W=>∃ (i:Nat),j=.int .i64 (i*3:Nat)∧i≤es.length∧Hid (J (es.take i) W)∧Boxed W bs 96 (.slice A (3*es.length) c)∧Boxed W bn 3 (.int .i64 3)∧W0.heap.size≤W.heap.size) (fun j _=>3*es.length+4-(intOf j).toNat)
 case atStart=>exact ⟨0,rfl,Nat.zero_le _,h0,Hl,Hm,xN _⟩
 case round =>
  obtain ⟨i,rfl,hk,HJ,b1,b2,Hd⟩:=hrel;have c1:=b1.cell;have c2:=b2.cell
  by_cases hlt:i<es.length
  ·have H2:=Hg.out
   obtain ⟨hx,b,H0,rfl,hc⟩:=Is.at_ H2 (by rw[zdX];omega);clear hc hx;have hp:=zrb H2 i hlt;have Hp:=zhd hp
   have Hr:(i*3:Nat)<3*es.length:=by omega
   have Hq:(i*3:Nat)+3≤3*es.length:=by omega
   have He:es.take (i+1)=es.take i++[es[i]]:=List.take_succ_eq_append_getElem hlt
   have Ha:=zhd He
   have H5:es=es.take i++es[i]::es.drop (i+1):=by rw[←List.drop_eq_getElem_cons hlt,P5]
   have Hi:=zhd H5;clear hp He H5 H2
   have H8:((i*3:Nat):Int)=(i:Int)*3:=by omega
   obtain ⟨k,H1⟩:∃ k,i*3=k:=⟨_,rfl⟩;have Hh:=zhd H1;rw[H1] at Hr Hq Hp;simp only[H1];clear H8 H1
   gi_wp2
   gi_region
   have Hb:(if ((3*es.length-k:Nat):Int)<3 then ((3*es.length-k:Nat):Int) else 3)=3:=by split <;> omega
   try rw[Hb]
   clear Hb;have hy:=hY (es.take i) es[i] (es.drop (i+1)) Hi.out wr.drew #[.slice (some ⟨b,H0+k,none⟩) 3 3] (hJ _ _ _ HJ.out (Moves.refl.drew)) Hd ⟨b,H0+k,rfl,Hp.out⟩;have Hy:=zhd hy
   have Hj:Boxed wr.drew bs 96 (.slice (some ⟨b,H0,none⟩) (3*es.length) c):=b1
   have Hk:Boxed wr.drew bn 3 (.int .i64 3):=b2
   clear hy hY
   gi_wp2
   refine zbb Hy.out ?_
   rintro e W' ⟨H3,⟨rfl,hj⟩ | ⟨rfl,hj⟩⟩
   ·refine ⟨true,rfl,?_⟩
    have d1:Boxed W' bs 96 (.slice (some ⟨b,H0,none⟩) (3*es.length) c):=H3.boxed Hj (.inl (.inl ⟨rfl,rfl⟩))
    have d2:Boxed W' bn 3 (.int .i64 3):=H3.boxed Hk (.inl (.inr ⟨rfl,rfl⟩))
    have e2:=d2.cell
    have Ht:W0.heap.size≤W'.heap.size:=Pb Hd H3.size
    have H6:=zhd hj;clear hj H3 c1 c2
    gi_wp2
    refine ⟨⟨i+1,?_,by omega,?_,d1,d2,Ht⟩,by simp[intOf];omega⟩
    ·have:=Hh.out
     rw[show (i+1)*3=k+3 from by omega];go_num
    ·show J _ _;rw[Ha.out];exact H6.out
   ·refine ⟨false,rfl,?_⟩
    have H6:=zhd hj;clear hj H3 c1 c2
    gi_wp2
    refine bodyPost_ret (results_none rfl _ _ _) rfl ?_
    refine ⟨⟨_,rfl⟩,.inr ⟨es.take (i+1),?_,?_⟩⟩
    ·exact List.take_prefix _ _
    ·rw[Ha.out];exact H6.out
  ·have hC:es.take i=es:=List.take_of_length_le (by omega)
   have H8:3*es.length≤i*3:=by omega
   have Ho:¬ (((i*3:Nat):Int)<((3*es.length:Nat):Int)):=by omega
   obtain ⟨k,H1⟩:∃ k,i*3=k:=⟨_,rfl⟩;have Hf:=zhd hC
   have Hw:k≤3*es.length:=by omega
   rw[H1] at H8;simp only[H1];clear hC Ho H1
   gi_wp2
   refine bodyPost_end (results_none rfl _ _ _) rfl ?_
   exact ⟨⟨_,rfl⟩,.inl (by have:=HJ.out;rw[Hf.out] at this;exact this)⟩
theorem zoT (A:Option Addr) (n c:Nat) (w:World):Calls Tryz.prog 104 #[.slice A n c,.int .i64 3] w fun e w' =>
  e=.returned (.func (.func 140) #[] #[.pointer (some ⟨w.heap.size,0,none⟩),.pointer (some ⟨w.heap.size+1,0,none⟩)]) ∧
  (w.alloc (.cells #[.slice A n c] 96)).alloc (.cells #[.int .i64 3] 3)=w':=by
 go_enter Tryz.func104,Tryz.ntmps104
 go_wp2
 go_ret
 exact ⟨rfl,rfl⟩
end Go.Proofs.YtgonhdeochgkoaaGreatDoor
