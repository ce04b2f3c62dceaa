/- Merged: Plain ChunkI Round All -/
import Derived.Test.YtgonhdeochgkoaaGreatDoorStoreReads5
import Derived.OrdersIn
import Derived.WalkKit
import Derived.TacticsIn
import Derived.RangeFuncCalls
set_option linter.all false
set_option maxHeartbeats 8000000
set_option maxRecDepth 100000
namespace Go.Proofs.YtgonhdeochgkoaaGreatDoor
open Go.RowKit Go.Mv
def zds (n:Nat) (hs:List UInt8):Nat:=hs.foldl (fun a x=>a*128+x.toNat % 128) n
theorem zkR (n:Nat) (hs:List UInt8) (x:UInt8):zds n (hs++[x])=zds n hs*128+x.toNat % 128:=by unfold zds;rw[List.foldl_append];rfl
theorem zkQ (n:Nat) (hs:List UInt8) (x:UInt8):zds n (x::hs)=zds (n*128+x.toNat % 128) hs:=rfl
theorem zqP (f n:Nat) (l:List UInt8) (m:Nat) (r:List UInt8) (h:zbP f n l=(0,m,r)) :
  ∃ hs b,l=hs++b::r∧hs.length+1≤f∧(∀ x∈hs,128≤x.toNat)∧b.toNat<128∧m=zds n hs*128+b.toNat∧m≤1073741824:=by
 induction f generalizing n l with
 | zero=>simp[zbP] at h
 | succ f ih =>
  cases l with
  | nil=>simp[zbP] at h
  | cons b l =>
   rw[zbP] at h
   by_cases hb:128≤b.toNat
   ·rw[if_pos hb] at h
    obtain ⟨hs,c,rfl,h1,h2,h3,h4,h5⟩:=ih _ _ h
    refine ⟨b::hs,c,rfl,by simp;omega,?_,h3,h4,h5⟩
    intro x hx
    rcases List.mem_cons.1 hx with rfl | hx
    ·exact hb
    ·exact h2 x hx
   ·rw[if_neg hb] at h
    split at h
    ·rename_i hm
     simp only[Prod.mk.injEq,true_and] at h
     obtain ⟨rfl,rfl⟩:=h
     exact ⟨[],b,rfl,by simp,by simp,by omega,by show _=n*128+_;omega,hm⟩
    ·simp at h
theorem zoV (f n:Nat) (hs:List UInt8) (b:UInt8) (r:List UInt8) (h1:hs.length+1≤f) (h2:∀ x∈hs,128≤x.toNat) (h3:b.toNat<128) :
  zbP f n (hs++b::r)=if zds n hs*128+b.toNat≤1073741824 then (0,zds n hs*128+b.toNat,r) else (11,0,[]):=by
 induction hs generalizing f n with
 | nil =>
  obtain ⟨f,rfl⟩:∃ g,f=g+1:=⟨f-1,by simp at h1;omega⟩
  rw[List.nil_append,zbP,if_neg (by omega),show b.toNat % 128=b.toNat from by omega]
  rfl
 | cons x hs ih =>
  obtain ⟨f,rfl⟩:∃ g,f=g+1:=⟨f-1,by simp at h1;omega⟩
  rw[List.cons_append,zbP,if_pos (h2 x (by simp)),ih f _ (by simp at h1;omega) (fun y hy=>h2 y (by simp[hy]))]
  rfl
theorem zfi {f m:Nat} (hm:m≠0):hiB (f+1) m=hiB f (m / 128)++[UInt8.ofNat (m % 128+128)]:=by rw[hiB,if_neg hm]
theorem zjX (m:Nat):(UInt8.ofNat (m % 128+128)).toNat=m % 128+128:=by
 rw[UInt8.toNat_ofNat'];omega
theorem zsS (f v:Nat):∀ x∈hiB f v,128≤x.toNat:=by
 induction f generalizing v with
 | zero=>simp[hiB]
 | succ f ih =>
  by_cases h0:v=0
  ·subst h0;rw[zep];simp
  ·rw[zfi h0]
   intro x hx
   rcases List.mem_append.1 hx with hx | hx
   ·exact ih _ x hx
   ·have:x=UInt8.ofNat (v % 128+128):=by simpa using hx
    subst this;rw[zjX];omega
theorem zsU (f v:Nat) (h:v<128^f):zds 0 (hiB f v)=v:=by
 induction f generalizing v with
 | zero =>
  have:v=0:=by simpa using h
  subst this;rfl
 | succ f ih =>
  by_cases h0:v=0
  ·subst h0;rw[zep];rfl
  ·rw[zfi h0,zkR,ih _ (by rw[Nat.pow_succ] at h;omega),zjX]
   omega
theorem zsT (f k v:Nat) (h:v<128^k):(hiB f v).length≤k:=by
 induction f generalizing v k with
 | zero=>simp[hiB]
 | succ f ih =>
  by_cases h0:v=0
  ·subst h0;rw[zep];simp
  ·rw[zfi h0,List.length_append]
   cases k with
   | zero=>simp at h;omega
   | succ k =>
    have:=ih k (v / 128) (by rw[Nat.pow_succ] at h;omega)
    simp;omega
theorem zrI (f v:Nat) (h:v<128^f):(hiB f v).head?≠some 128:=by
 induction f generalizing v with
 | zero=>simp[hiB]
 | succ f ih =>
  by_cases h0:v=0
  ·subst h0;rw[zep];simp
  ·rw[zfi h0]
   by_cases h1:v / 128=0
   ·rw[h1,zep]
    intro e
    have e2:UInt8.ofNat (v % 128+128)=128:=by simpa using e
    have e3:=congrArg UInt8.toNat e2
    rw[zjX] at e3
    have:(128:UInt8).toNat=128:=rfl
    omega
   ·have hne:hiB f (v / 128)≠[]:=by
     cases f with
     | zero=>simp at h;omega
     | succ f=>rw[zfi h1];simp
    have hi:=ih (v / 128) (by rw[Nat.pow_succ] at h;omega)
    cases hq:hiB f (v / 128) with
    | nil=>exact absurd hq hne
    | cons y ys=>rw[hq] at hi;simpa using hi
theorem ztk (n:Nat) (hs:List UInt8):n≤zds n hs:=by
 induction hs generalizing n with
 | nil=>exact Nat.le_refl _
 | cons x hs ih=>rw[zkQ];exact Nat.le_trans (by omega) (ih _)
theorem zsj {hs:List UInt8} (hne:hs≠[]) (h1:∀ x∈hs,128≤x.toNat) (h2:hs.head?≠some 128):zds 0 hs≠0:=by
 cases hs with
 | nil=>exact absurd rfl hne
 | cons x hs =>
  rw[zkQ]
  have hx:x.toNat≠128:=fun e=>h2 (by simp;apply UInt8.toNat_inj.1;simpa using e)
  have h:=h1 x (by simp)
  have hl:=x.toNat_lt
  have:=ztk (0*128+x.toNat % 128) hs
  omega
theorem ztH (f:Nat) (hs:List UInt8) (hl:hs.length≤f) (h1:∀ x∈hs,128≤x.toNat) (h2:hs.head?≠some 128):hiB f (zds 0 hs)=hs:=by
 induction f generalizing hs with
 | zero =>
  have:hs=[]:=List.eq_nil_of_length_eq_zero (by omega)
  subst this;rfl
 | succ f ih =>
  by_cases h0:hs=[]
  ·subst h0;rfl
  ·have hp:=zsj h0 h1 h2
   obtain ⟨ys,y,rfl⟩:∃ ys y,hs=ys++[y]:=⟨hs.dropLast,hs.getLast h0,(List.dropLast_concat_getLast h0).symm⟩
   rw[zfi hp,zkR]
   have hy:=h1 y (by simp)
   have hyl:=y.toNat_lt
   have e1:(zds 0 ys*128+y.toNat % 128) / 128=zds 0 ys:=by omega
   have e2:(zds 0 ys*128+y.toNat % 128) % 128+128=y.toNat:=by omega
   rw[e1,e2,ih ys (by simp at hl;omega) (fun x hx=>h1 x (by simp[hx])) ?_,UInt8.ofNat_toNat]
   cases ys with
   | nil=>simp
   | cons z ys=>simpa using h2
theorem zne (n:Nat) (hn:n≤1073741824):∃ hs b,zbx n=hs++[b]∧hs.length≤4∧(∀ x∈hs,128≤x.toNat)∧b.toNat<128∧hs.head?≠some 128∧n=zds 0 hs*128+b.toNat:=by
 have hb:(UInt8.ofNat (n % 128)).toNat=n % 128:=by rw[UInt8.toNat_ofNat'];omega
 have h5:n / 128<128^5:=by have:(128:Nat)^5=34359738368:=by decide
                           omega
 have h4:n / 128<128^4:=by have:(128:Nat)^4=268435456:=by decide
                           omega
 exact ⟨hiB 5 (n / 128),UInt8.ofNat (n % 128),zhS n hn,zsT 5 4 _ h4,zsS _ _,by omega,zrI _ _ h5,by rw[zsU _ _ h5,hb];omega⟩
theorem zkJ (n:Nat) (hn:n≤1073741824) (r:List UInt8):zaY (zbx n++r)=(0,n,r):=by
 obtain ⟨hs,b,hsp,h1,h2,h3,h4,h5⟩:=zne n hn
 rw[hsp,List.append_assoc]
 unfold zaY
 have hh:(hs++([b]++r)).head?≠some 128:=by
  cases hs with
  | nil =>
   intro e
   have:b=128:=by simpa using e
   subst this
   exact absurd h3 (by decide)
  | cons x hs=>simpa using h4
 rw[if_neg hh]
 rw[show hs++([b]++r)=hs++b::r from rfl,zoV 5 0 hs b r (by omega) h2 h3,←h5,if_pos hn]
theorem zmi {l:List UInt8} {m:Nat} {r:List UInt8} (h:zaY l=(0,m,r)):l=zbx m++r∧m≤1073741824:=by
 unfold zaY at h
 split at h
 ·simp at h
 ·rename_i hh
  obtain ⟨hs,b,rfl,h1,h2,h3,h4,h5⟩:=zqP _ _ _ _ _ h
  have hh2:hs.head?≠some 128:=by
   cases hs with
   | nil=>simp
   | cons x hs=>simpa using hh
  refine ⟨?_,h5⟩
  have hd:m / 128=zds 0 hs:=by omega
  have hm:m % 128=b.toNat:=by omega
  rw[zhS m h5,hd,hm,ztH 5 hs (by omega) h2 hh2,UInt8.ofNat_toNat,List.append_assoc]
  rfl
theorem znm (l:List Int) (hl:zax l=true) (acc:List Int) (r:List UInt8):zac l.length acc (zar l++r)=(0,acc++l,r):=by
 induction l generalizing acc with
 | nil=>simp[zac,zar]
 | cons n l ih =>
  have hn:zaC n=true∧zax l=true:=by simpa [zax] using hl
  obtain ⟨hn,hl'⟩:=hn
  have hn':=numB_true.1 hn
  have e:zaY (zar (n::l)++r)=(0,n.toNat,zar l++r):=by
   rw[show zar (n::l)++r=zbx n.toNat++(zar l++r) from by simp[zar]]
   exact zkJ _ (by omega) _
  rw[List.length_cons,zac,e]
  simp only[if_true]
  rw[ih hl',show ((n.toNat:Nat):Int)=n from by omega,List.append_assoc]
  rfl
theorem zg6 (k:Nat) (acc:List Int) (bs:List UInt8) (l:List Int) (r:List UInt8) (h:zac k acc bs=(0,l,r)) :
  ∃ l',l=acc++l'∧l'.length=k∧zax l'=true∧bs=zar l'++r:=by
 induction k generalizing acc bs with
 | zero =>
  simp only[zac,Prod.mk.injEq,true_and] at h
  obtain ⟨rfl,rfl⟩:=h
  exact ⟨[],by simp,rfl,rfl,rfl⟩
 | succ k ih =>
  rw[zac] at h
  rcases ht:zaY bs with ⟨e,m,r1⟩
  rw[ht] at h
  dsimp only at h
  by_cases he:e=0
  ·subst he
   rw[if_pos rfl] at h
   obtain ⟨h1,h2⟩:=zmi ht
   obtain ⟨l',rfl,h3,h4,h5⟩:=ih _ _ h
   refine ⟨(m:Int)::l',by simp,by simp[h3],?_,?_⟩
   ·simp only[zax,List.all_cons,Bool.and_eq_true] at h4 ⊢
    exact ⟨numB_true.2 ⟨by omega,by omega⟩,h4⟩
   ·rw[h1,h5];simp[zar]
  ·rw[if_neg he] at h
   simp at h;exact absurd h.1 he
def zaM (es:List Ent):List Int:=es.flatMap fun e=>[e.t,e.k,e.v]
def zdU:List Int→List Ent
 | t::k::v::l=>⟨t,k,v⟩::zdU l
 | _=>[]
theorem zqT (es:List Ent):zdU (zaM es)=es:=by
 induction es with
 | nil=>rfl
 | cons e es ih=>rw[show zaM (e::es)=e.t::e.k::e.v::zaM es from rfl,zdU,ih]
theorem zdG (es:List Ent):(zaM es).length=3*es.length:=by
 induction es with
 | nil=>rfl
 | cons e es ih=>rw[show zaM (e::es)=e.t::e.k::e.v::zaM es from rfl];simp[ih];omega
theorem zko (k:Nat) (l:List Int) (h:l.length=3*k):zaM (zdU l)=l∧(zdU l).length=k:=by
 induction k generalizing l with
 | zero =>
  have:l=[]:=List.eq_nil_of_length_eq_zero (by omega)
  subst this;exact ⟨rfl,rfl⟩
 | succ k ih =>
  match l,h with
  | t::k'::v::l,h =>
   obtain ⟨h1,h2⟩:=ih l (by simp at h;omega)
   rw[zdU]
   exact ⟨by rw[show zaM (⟨t,k',v⟩::zdU l)=t::k'::v::zaM (zdU l) from rfl,h1],by simp[h2]⟩
theorem zjG (a b:List Int):zar (a++b)=zar a++zar b:=by simp[zar]
theorem ziD (es:List Ent):zar (zaM es)=es.flatMap zly:=by
 induction es with
 | nil=>rfl
 | cons e es ih=>rw[show zaM (e::es)=[e.t,e.k,e.v]++zaM es from rfl,zjG,ih];rfl
theorem zmy {es:List Ent} (h:zbL es=true):zax (zaM es)=true:=by
 induction es with
 | nil=>rfl
 | cons e es ih =>
  have he:e.ok=true∧zbL es=true:=by simpa [zbL] using h
  have h1:=zs8 he.1
  have h2:=ih he.2
  simp only[zax,List.all_eq_true] at h1 h2 ⊢
  intro x hx
  rcases List.mem_append.1 (show x∈[e.t,e.k,e.v]++zaM es from hx) with hx | hx
  ·exact h1 x hx
  ·exact h2 x hx
def zdK:List UInt8→Option (List Ent×List UInt8)
 | []=>none
 | c::r=>if c.toNat=0∨4<c.toNat then none else if (zac (3*c.toNat) [] r).1=0∧zbL (zdU (zac (3*c.toNat) [] r).2.1)=true then some (zdU (zac (3*c.toNat) [] r).2.1,(zac (3*c.toNat) [] r).2.2) else none
theorem zfJ (es:List Ent):zgv es=true↔(0<es.length∧es.length≤4)∧zbL es=true:=by simp[zgv]
theorem zoY {es:List Ent} (h:zgv es=true) (r:List UInt8):zdK (za1 es++r)=some (es,r):=by
 obtain ⟨⟨h1,h2⟩,h3⟩:=(zfJ es).1 h
 have hc:(UInt8.ofNat es.length).toNat=es.length:=by rw[UInt8.toNat_ofNat'];omega
 have ht:=znm (zaM es) (zmy h3) [] r
 rw[zdG,ziD,List.nil_append] at ht
 rw[show za1 es++r=UInt8.ofNat es.length::(es.flatMap zly++r) from rfl,zdK,hc,if_neg (by omega),ht]
 dsimp only
 rw[zqT,if_pos ⟨rfl,h3⟩]
theorem zkK {bs:List UInt8} {es:List Ent} {r:List UInt8} (h:zdK bs=some (es,r)):zgv es=true∧bs=za1 es++r:=by
 cases bs with
 | nil=>simp[zdK] at h
 | cons c l =>
  rw[zdK] at h
  split at h
  ·simp at h
  ·rename_i hc
   rcases ht:zac (3*c.toNat) [] l with ⟨e,li,r1⟩
   rw[ht] at h
   dsimp only at h
   split at h
   ·rename_i he
    obtain ⟨rfl,h3⟩:=he
    obtain ⟨l',hl',h4,h5,h6⟩:=zg6 _ _ _ _ _ ht
    rw[List.nil_append] at hl'
    subst hl'
    simp only[Option.some.injEq,Prod.mk.injEq] at h
    obtain ⟨rfl,rfl⟩:=h
    obtain ⟨h7,h8⟩:=zko c.toNat li h4
    refine ⟨(zfJ _).2 ⟨by omega,h3⟩,?_⟩
    rw[h6]
    conv=>lhs;rw[←h7]
    rw[ziD]
    show _=UInt8.ofNat (zdU li).length::_
    rw[h8,UInt8.ofNat_toNat];rfl
   ·simp at h
def zcw (p:Nat×Nat) (bs:List UInt8):Option (List Ent×List UInt8) :=
 match zdK bs with
 | none=>none
 | some x=>if 4≤x.2.length∧x.2.take 4=zbb (zaz p (za1 x.1)) then some (x.1,x.2.drop 4) else none
theorem zeN (p:Nat×Nat):(zbb p).length=4:=rfl
theorem zkv (p:Nat×Nat) (bs:List UInt8) (es:List Ent) (r:List UInt8):zcw p bs=some (es,r)↔zgv es=true∧bs=ziL p es++r:=by
 constructor
 ·intro h
  unfold zcw at h
  split at h
  ·simp at h
  ·rename_i x hx
   split at h
   ·rename_i h4
    simp only[Option.some.injEq,Prod.mk.injEq] at h
    obtain ⟨rfl,rfl⟩:=h
    obtain ⟨h5,h6⟩:=zkK (es:=x.1) (r:=x.2) hx
    refine ⟨h5,?_⟩
    rw[h6];unfold ziL
    rw[←h4.2,List.append_assoc,List.take_append_drop]
   ·simp at h
 ·rintro ⟨h1,rfl⟩
  have h2:=zoY h1 (zbb (zaz p (za1 es))++r)
  unfold zcw
  rw[show ziL p es++r=za1 es++(zbb (zaz p (za1 es))++r) from by unfold ziL;rw[List.append_assoc],h2]
  dsimp only
  have hl:=zeN (zaz p (za1 es))
  rw[if_pos ⟨by simp[hl],List.take_left' hl⟩,List.drop_left' hl]
theorem zrm (p:Nat×Nat) (es:List Ent):5≤(ziL p es).length:=by unfold ziL za1;rw[List.length_append,zeN,List.length_cons];omega
theorem zkw {p:Nat×Nat} {bs:List UInt8} {es:List Ent} {r:List UInt8} (h:zcw p bs=some (es,r)):r.length<bs.length:=by
 rw[((zkv p bs es r).1 h).2,List.length_append]
 have:=zrm p es;omega
def zbD (p:Nat×Nat) (bs:List UInt8):List Ent×(Nat×Nat)×List UInt8 :=
 match h:zcw p bs with
 | none=>([],p,bs)
 | some (es,r)=>(es++(zbD (zaz p (za1 es)) r).1,(zbD (zaz p (za1 es)) r).2)
termination_by bs.length
decreasing_by all_goals exact zkw h
theorem zjC {p:Nat×Nat} {bs:List UInt8} (h:zcw p bs=none):zbD p bs=([],p,bs):=by
 rw[zbD];split
 ·rfl
 ·rename_i h';rw[h] at h';cases h'
theorem zjD {p:Nat×Nat} {bs:List UInt8} {es:List Ent} {r:List UInt8} (h:zcw p bs=some (es,r)) :
  zbD p bs=(es++(zbD (zaz p (za1 es)) r).1,(zbD (zaz p (za1 es)) r).2):=by
 rw[zbD];split
 ·rename_i h';rw[h] at h';cases h'
 ·rename_i h';rw[h] at h';cases h';rfl
theorem zoN (p:Nat×Nat) (bs:List UInt8):∃ cs:List (List Ent),(∀ c∈cs,zgv c=true)∧(zbD p bs).1=cs.flatten∧(zbD p bs).2.1=zpy p cs∧bs=(zhv p cs).flatten++(zbD p bs).2.2∧zcw (zpy p cs) (zbD p bs).2.2=none:=by
 generalize hn:bs.length=n
 induction n using Nat.strongRecOn generalizing p bs with
 | _ n ih =>
  cases h:zcw p bs with
  | none=>rw[zjC h];exact ⟨[],by simp,rfl,rfl,rfl,h⟩
  | some x =>
   obtain ⟨es,r⟩:=x
   obtain ⟨h1,h2⟩:=(zkv _ _ _ _).1 h
   obtain ⟨cs,h3,h4,h5,h6,h7⟩:=ih r.length (by have:=zkw h;omega) (zaz p (za1 es)) r rfl
   rw[zjD h]
   dsimp only
   refine ⟨es::cs,?_,?_,?_,?_,?_⟩
   ·intro c hc
    rcases List.mem_cons.1 hc with rfl | hc
    ·exact h1
    ·exact h3 c hc
   ·rw[h4];rfl
   ·rw[h5];rfl
   ·rw[zhv,List.flatten_cons,List.append_assoc,←h6];exact h2
   ·exact h7
def zdc:List UInt8→Option (Nat×List UInt8)
 | []=>none
 | c::r=>if c=2∧(zaY r).1=0∧(zaY r).2.1≠0 then some (zaY r).2 else none
theorem zpY (bs:List UInt8) (first:Nat) (r:List UInt8):zdc bs=some (first,r)↔(zcp (first:Int)).1=0∧bs=(zcp (first:Int)).2++r:=by
 have hsh:zar [(first:Int)]=zbx first:=by simp[zar]
 constructor
 ·intro h
  cases bs with
  | nil=>simp[zdc] at h
  | cons c l =>
   rw[zdc] at h
   split at h
   ·rename_i hc
    obtain ⟨rfl,h1,h2⟩:=hc
    rcases ht:zaY l with ⟨e,m,r1⟩
    rw[ht] at h h1 h2
    dsimp only at h h1 h2
    subst h1
    simp only[Option.some.injEq,Prod.mk.injEq] at h
    obtain ⟨rfl,rfl⟩:=h
    obtain ⟨h3,h4⟩:=zmi ht
    unfold zcp
    rw[if_pos ⟨numB_true.2 ⟨by omega,by omega⟩,by omega⟩,hsh]
    exact ⟨rfl,by rw[h3];rfl⟩
   ·simp at h
 ·rintro ⟨h1,h2⟩
  unfold zcp at h1 h2
  split at h1
  ·rename_i hc
   rw[if_pos hc,hsh] at h2
   have hn:=numB_true.1 hc.1
   subst h2
   rw[show (2::zbx first)++r=2::(zbx first++r) from rfl,zdc,zkJ first (by omega)]
   dsimp only
   rw[if_pos ⟨rfl,rfl,by omega⟩]
  ·simp at h1
theorem zpZ {bs:List UInt8} {first:Nat} {r:List UInt8} (h:zdc bs=some (first,r)):r.length≤bs.length∧bs.take (bs.length-r.length)=(zcp (first:Int)).2:=by
 obtain ⟨_,h2⟩:=(zpY _ _ _).1 h
 rw[h2]
 exact ⟨by simp,by rw[List.length_append,Nat.add_sub_cancel,List.take_left]⟩
structure zfI where
 err:Int
 first:Nat
 log:List Ent
 used:Nat
 pt:Nat×Nat
def zcv (bs:List UInt8):zfI :=
 match zdc bs with
 | none=>⟨11,0,[],0,(0,0)⟩
 | some x=>⟨0,x.1,(zbD (zaz (0,0) (zcp (x.1:Int)).2) x.2).1,bs.length-(zbD (zaz (0,0) (zcp (x.1:Int)).2) x.2).2.2.length,(zbD (zaz (0,0) (zcp (x.1:Int)).2) x.2).2.1⟩
open Go.RowKit Go.Mv Go.Shelf
attribute [local go_sem] Oper.semAt_some
theorem zlx (es:List Ent) (i:Nat) (h:i<es.length):(zaM es).drop (i*3)=es[i].t::es[i].k::es[i].v::(zaM es).drop (i*3+3):=by
 induction es generalizing i with
 | nil=>simp at h
 | cons e es ih =>
  rw[show zaM (e::es)=e.t::e.k::e.v::zaM es from rfl]
  cases i with
  | zero=>rfl
  | succ i =>
   have:=ih i (by simpa using h)
   rw[show (i+1)*3=i*3+1+1+1 from by omega]
   simpa using this
theorem zp2 {wo:World} {b off n c:Nat} {es:List Ent} (h:Is wo (.slice (some ⟨b,off,none⟩) n c) (zaM es)) (i:Nat) (hi:i<es.length) :
  Is wo (.slice (some ⟨b,off+i*3,none⟩) 3 3) [es[i].t,es[i].k,es[i].v]:=by
 have hl:=zdG es
 obtain ⟨h0,A,c',e,h1,h2,h3⟩:=h
 cases e
 obtain ⟨b',off',e',hc⟩:=h3 (by omega)
 cases e'
 refine ⟨by simp,_,3,rfl,Nat.le_refl _,by simp[maxLen],fun _=>⟨b,off+i*3,rfl,fun j u hu=>?_⟩⟩
 have hd:=zlx es i hi
 have hj:j<3:=by
  have:=(List.getElem?_eq_some_iff.1 hu).1
  simpa using this
 rw[Nat.add_assoc]
 refine hc (i*3+j) u ?_
 rw[←hu,←List.getElem?_drop,←List.map_drop,hd]
 match j,hj with
 | 0,_=>rfl
 | 1,_=>rfl
 | 2,_=>rfl
theorem zn9 (wo W0:World) (v:Value) (es:List Ent) (hes:Is wo v (zaM es)) (hlen:es.length≤2000000) (bs bn:Nat) (hB1:Boxed W0 bs 96 v) (hB2:Boxed W0 bn 3 (.int .i64 3)) :
  Seq Tryz.prog 140 #[.pointer (some ⟨bs,0,none⟩),.pointer (some ⟨bn,0,none⟩)]
   (fun (e:Ent) av _=>∃ b off,av = #[.slice (some ⟨b,off,none⟩) 3 3]∧Is wo (.slice (some ⟨b,off,none⟩) 3 3) [e.t,e.k,e.v]) (fun k o=>(k=bs∧o.ty=some 96)∨(k=bn∧o.ty=some 3)) (fun _ _=>False) es W0:=by
 intro l J Jx hJ hJx hY h0
 have hL:=zdG es
 obtain ⟨A,c,rfl,h1,h2⟩:=SlR.open_ hes
 rw[hL] at *
 refine (callsIn_wd (ro:=none) (n:=9)).1 ?_
 refine callsIn_of_wp Tryz.func140 rfl trivial ?_ rfl
 simp only[Tryz.ntmps140,List.size_toArray,List.length_cons,List.length_nil,Nat.reduceAdd,Nat.reduceSub,Array.replicate_succ,Array.replicate_zero,List.push_toArray,List.append_toArray,List.nil_append,List.cons_append]
 have Hes:=zhd hes
 clear hL hes
 gi_wp2
 gi_loopw [4] (fun j W=>∃ (i:Nat),j=.int .i64 (i*3:Nat)∧i≤es.length∧Hid (J (es.take i) W)∧Boxed W bs 96 (.slice A (3*es.length) c)∧Boxed W bn 3 (.int .i64 3)∧W0.heap.size≤W.heap.size) (fun j _=>3*es.length+4-(intOf j).toNat)
 case atStart=>exact ⟨0,rfl,Nat.zero_le _,h0,hB1,hB2,Nat.le_refl _⟩
 case round =>
  obtain ⟨i,rfl,hk,HJ,b1,b2,hsz⟩:=hrel
  have c1:=b1.cell
  have c2:=b2.cell
  by_cases hlt:i<es.length
  ·have hes':=Hes.out
   obtain ⟨hx,b,off,rfl,hc⟩:=Is.at_ hes' (by rw[zdG];omega)
   clear hc hx
   have hp:=zp2 hes' i hlt
   have Hp:=zhd hp
   have hkk:(i*3:Nat)<3*es.length:=by omega
   have hk3:(i*3:Nat)+3≤3*es.length:=by omega
   have htk:es.take (i+1)=es.take i++[es[i]]:=List.take_succ_eq_append_getElem hlt
   have Htk:=zhd htk
   have hsp:es=es.take i++es[i]::es.drop (i+1):=by rw[←List.drop_eq_getElem_cons hlt,List.take_append_drop]
   have Hsp:=zhd hsp
   clear hp htk hsp hes'
   have hi3:((i*3:Nat):Int)=(i:Int)*3:=by omega
   obtain ⟨k,hkd⟩:∃ k,i*3=k:=⟨_,rfl⟩
   have Hkd:=zhd hkd
   rw[hkd] at hkk hk3 Hp
   simp only[hkd]
   clear hi3 hkd
   gi_wp2
   gi_region
   have hif:(if ((3*es.length-k:Nat):Int)<3 then ((3*es.length-k:Nat):Int) else 3)=3:=by split <;> omega
   try rw[hif]
   clear hif
   have hy:=hY (es.take i) es[i] (es.drop (i+1)) Hsp.out wr.drew #[.slice (some ⟨b,off+k,none⟩) 3 3] (hJ _ _ _ HJ.out (Moves.refl.drew)) hsz ⟨b,off+k,rfl,Hp.out⟩
   have Hy:=zhd hy
   have b1':Boxed wr.drew bs 96 (.slice (some ⟨b,off,none⟩) (3*es.length) c):=b1
   have b2':Boxed wr.drew bn 3 (.int .i64 3):=b2
   clear hy hY
   gi_wp2
   refine zaZ Hy.out ?_
   rintro e W' ⟨hk',⟨rfl,hj⟩ | ⟨rfl,hj⟩⟩
   ·refine ⟨true,rfl,?_⟩
    have d1:Boxed W' bs 96 (.slice (some ⟨b,off,none⟩) (3*es.length) c):=hk'.boxed b1' (.inl (.inl ⟨rfl,rfl⟩))
    have d2:Boxed W' bn 3 (.int .i64 3):=hk'.boxed b2' (.inl (.inr ⟨rfl,rfl⟩))
    have e2:=d2.cell
    have hs':W0.heap.size≤W'.heap.size:=Nat.le_trans hsz hk'.size
    have HJ3:=zhd hj
    clear hj hk' c1 c2
    gi_wp2
    refine ⟨⟨i+1,?_,by omega,?_,d1,d2,hs'⟩,by simp[intOf];omega⟩
    ·have:=Hkd.out
     rw[show (i+1)*3=k+3 from by omega];go_num
    ·show J _ _;rw[Htk.out];exact HJ3.out
   ·refine ⟨false,rfl,?_⟩
    have HJ3:=zhd hj
    clear hj hk' c1 c2
    gi_wp2
    refine bodyPost_ret (results_none rfl _ _ _) rfl ?_
    refine ⟨⟨_,rfl⟩,.inr ⟨es.take (i+1),?_,?_⟩⟩
    ·exact List.take_prefix _ _
    ·rw[Htk.out];exact HJ3.out
  ·have hC:es.take i=es:=List.take_of_length_le (by omega)
   have hi3:3*es.length≤i*3:=by omega
   have hi4:¬ (((i*3:Nat):Int)<((3*es.length:Nat):Int)):=by omega
   obtain ⟨k,hkd⟩:∃ k,i*3=k:=⟨_,rfl⟩
   have HC2:=zhd hC
   have hk6:k≤3*es.length:=by omega
   rw[hkd] at hi3
   simp only[hkd]
   clear hC hi4 hkd
   gi_wp2
   refine bodyPost_end (results_none rfl _ _ _) rfl ?_
   exact ⟨⟨_,rfl⟩,.inl (by have:=HJ.out;rw[HC2.out] at this;exact this)⟩
theorem znN (A:Option Addr) (n c:Nat) (w:World):Calls Tryz.prog 104 #[.slice A n c,.int .i64 3] w fun e w' =>
  e=.returned (.func (.func 140) #[] #[.pointer (some ⟨w.heap.size,0,none⟩),.pointer (some ⟨w.heap.size+1,0,none⟩)]) ∧
  (w.alloc (.cells #[.slice A n c] 96)).alloc (.cells #[.int .i64 3] 3)=w':=by
 go_enter Tryz.func104,Tryz.ntmps104
 go_wp2
 go_ret
 exact ⟨rfl,rfl⟩
end Go.Proofs.YtgonhdeochgkoaaGreatDoor

namespace Go.Mv
open Go.RowKit
section
variable {F:Fence} {n:Nat} {P:Program} {ops:Array Oper} {Q:Exit→Act→World→Prop} {md:Region.Mode}
def zgg (ops:Array Oper):Bool:=ops.all fun o=>match o.op with | .defer _=>false | _=>true
theorem zlS (h:zgg ops=true) {j:Nat} {o:Oper} (ho:ops[j]?=some o) (c:Call):o.op≠.defer c:=by
 intro heq
 have:=Array.all_eq_true_iff_forall_mem.1 h o (Array.mem_of_getElem? ho)
 simp[heq] at this
theorem zmt (l:Nat) (hd:zgg ops=true) (hro:F.round=none) {i:Nat} {K:Act→World→Prop} {a:Act} {w:World} (h:wpOpIn F n P ops Q i K a w):wpOpIn (F.inRound l) n P ops Q i K a w:=by
 unfold wpOpIn at *
 cases ho:ops[i]? with
 | none=>simpa [ho] using h
 | some o =>
  simp only[ho] at h ⊢
  split
  ·rename_i hw
   simp only[hw,if_true] at h
   unfold Oper.wpIn at *
   refine ⟨h.1,?_⟩
   have h:=h.2
   rw[hro,Oper.semAt_none] at h
   rw[Fence.inRound_round,Oper.semAt_some l _ o (zlS hd ho)]
   exact h
  ·rename_i hw
   simp only[hw] at h
   exact h
theorem zhh (l:Nat) (hd:zgg ops=true) (hro:F.round=none):∀ (fuel:Nat) (listed:Array Bool) (a:Act) (w:World),wpAnyIn F n P md ops Q fuel listed a w→wpAnyIn (F.inRound l) n P md ops Q fuel listed a w:=by
 intro fuel
 induction fuel with
 | zero=>intro listed a w h;exact h
 | succ fuel ih =>
  intro listed a w h
  exact ⟨h.1,fun i hi=>zmt l hd hro (wpOpIn_mono (fun a w=>ih _ a w) (h.2 i hi))⟩
def NoP (Q:Exit→Act→World→Prop):Exit→Act→World→Prop
 | .panic _,_,_=>False
 | e,a,w=>Q e a w
theorem NoP.imp {Q:Exit→Act→World→Prop} (e:Exit) (a:Act) (w:World) (h:NoP Q e a w):Q e a w:=by
 cases e <;> first | exact h | exact h.elim
theorem zb3 {l id:Nat} {a:Act} {w:World} (hm:P.follows .mixedOrders=true) (hd:zgg ops=true)
  (h:wpAnyIn (Wd none) n P .any ops (NoP Q) ops.size (Array.replicate ops.size false) a w.drew):(Code.region id ops true).wpIn (Wd (some l)) n P Q a w :=
 wpIn_mono (wpIn_region_any (F:=(Wd none).inRound l) hm (zhh l hd rfl _ _ _ _ h)) NoP.imp
theorem zco {id:Nat} {a:Act} {w:World} (hm:P.follows .mixedOrders=true)
  (h:wpAnyIn (Wd none) n P .any ops (NoP Q) ops.size (Array.replicate ops.size false) a w.drew):(Code.region id ops true).wpIn (Wd none) n P Q a w :=
 wpIn_mono (wpIn_region_any hm h) NoP.imp
theorem zbc {Q:Exit→Act→World→Prop} {a:Act} {w:World} (h:Q .normal a w):NoP Q .normal a w:=h
theorem zcj {fn:Func} {tmps:Array Value} {R:Ending→World→Prop} {W:World} (v:Value) (hres:(results fn tmps).run P W=.ok v W) (hR:R (.returned v) W):bodyPostM (Wd none) n P fn R .ret ⟨tmps,[]⟩ W:=⟨v,hres,hR⟩
theorem zdz {c:Code} {tm:Array Value} {ds:List Deferred} {W:World} (h:∀ T:Array Value,T=tm→c.wpIn F n P Q ⟨T,ds⟩ W):c.wpIn F n P Q ⟨tm,ds⟩ W:=h tm rfl
def Read4 (p q r s:Addr×Value) (W:World):Prop:=W.cell? p.1=some p.2∧W.cell? q.1=some q.2∧W.cell? r.1=some r.2∧W.cell? s.1=some s.2
theorem zcV {W:World} {p:Addr} {v:Value} (h:W.cell? p=some v) (o:Obj):(W.alloc o).cell? p=some v :=
 (Below.cell ((Below.refl W.heap.size W).alloc (Nat.le_refl _) o) (World.block_lt_of_cell? W p h)).trans h
theorem Read4.alloc {p q r s:Addr×Value} {W:World} (h:Read4 p q r s W) (o:Obj):Read4 p q r s (W.alloc o):=⟨zcV h.1 o,zcV h.2.1 o,zcV h.2.2.1 o,zcV h.2.2.2 o⟩
theorem zc3 {o:Oper} {a:Act} {w w':World} (s x:Operand) (t:TypeId) (ho:o.op=.call { callee:=.builtin .append,args:=#[s,x],argTypes:=#[t,t] })
  {v vx v':Value} (hs:a.eval s=v) (hx:a.eval x=vx) (hrun:(Builtin.append_ #[t,t] o.type #[v,vx]).run P w=.ok v' w'):(execOp a.eval o).run P w=.ok (.value v') w':=by
 unfold execOp
 simp only[ho,resolve,invoke,builtin,Sem.run_bind,Sem.run_pure,Result.andThen_ok,List.map_toArray,List.map_cons,List.map_nil,hs,hx,hrun]
theorem zcK {o:Oper} {a:Act} {w:World} (s x:Operand) (t:TypeId) (ho:o.op=.call { callee:=.builtin .append,args:=#[s,x],argTypes:=#[t,t] }):o.about P w a.eval=none:=by
 simp[Oper.about,ho,resolve,Target.leads,go_sem]
theorem zcX (n:Nat) (T:Array Value) (h:T.size=n):T=((List.range n).map fun i=>T.getD i undef).toArray:=by
 apply Array.ext
 ·simp[h]
 ·intro i h1 h2
  simp[h1]
theorem zn5 {W:World} {b:Nat} {t:TypeId} {v:Value} (h:Boxed W b t v) {k:Nat} {u:Value} (hc:W.cell? ⟨b,k,none⟩=some u):k=0:=by
 have h':W.heap[b]?=some (.cells #[v] t (0,0)):=h
 cases k with
 | zero=>rfl
 | succ k=>simp[World.cell?,h'] at hc
theorem zfv {i:Nat} {oi:Oper} (h:ops.toList[i]?=some oi):ops[i]?=some oi:=by simpa using h
def YieldsC (P:Program) (ops:Array Oper) (C:World→Prop) (o:Oper) (v:Value) (a:Act):Prop :=
 Region.wanted o (yielded ops a.tmps)=true∧(∀ w,C w→(execOp a.eval o).run P w=.ok (.value v) w)∧∀ w,o.about P w a.eval=none
def zje (P:Program) (C:World→Prop) (o:Oper):Prop:=∀ (ρ:Operand→Value) (w:World),C w→∀ r w',(execOp ρ o).run P w=.ok r w'→(∃ v,r=.value v)∧C w'
theorem YieldsC.wpOpIn {C:World→Prop} {i:Nat} {o:Oper} {v:Value} {a:Act} (hro:F.round=none) (hi:ops[i]?=some o) (hy:YieldsC P ops C o v a)
  {K:Act→World→Prop} {w:World} (hC:C w) (h:K (a.put o.dst v) w):wpOpIn F n P ops Q i K a w:=by
 unfold Go.wpOpIn
 obtain ⟨h1,h2,h3⟩:=hy
 have hab:∀ f,o.about P w a.eval=some f→F.fn f:=fun f hf=>by rw[h3 w] at hf;cases hf
 simp only[hi,h1,if_true,Oper.wpIn,hro,Oper.semAt_none,h2 w hC,Oper.uponIn]
 exact ⟨hab,h⟩
theorem YieldsC.of_same {C:World→Prop} {o:Oper} {v:Value} {a a':Act} (hy:YieldsC P ops C o v a) (he:execOp a'.eval o=execOp a.eval o)
  (hw:Region.wanted o (yielded ops a'.tmps)=Region.wanted o (yielded ops a.tmps)) (hb:∀ w,o.about P w a'.eval=o.about P w a.eval):YieldsC P ops C o v a' :=
 ⟨hw.trans hy.1,fun w h=>by rw[he];exact hy.2.1 w h,fun w=>by rw[hb w];exact hy.2.2 w⟩
theorem znq {C:World→Prop} {j:Nat} {oi oj:Oper} {v:Value} (hro:F.round=none) (hj:ops[j]?=some oj) (hap:oi.apart ops oj=true)
  (hsi:∀ cs b,oi.op≠.select cs b) (hsj:∀ cs b,oj.op≠.select cs b) (hkeep:zje P C oj)
  (hQ:∀ c a w,Q (.panic c) (a.put oi.dst v) w→Q (.panic c) a w) {K:Act→World→Prop} {a:Act} {w:World} (hC:C w)
  (hy:YieldsC P ops C oi v a) (h:wpOpIn F n P ops Q j K (a.put oi.dst v) w) :
  wpOpIn F n P ops Q j (fun a' w'=>(YieldsC P ops C oi v a'∧C w')∧K (a'.put oi.dst v) w') a w:=by
 obtain ⟨h1,h2,h3⟩:=Oper.apart_spec hap
 have keep:∀ (a:Act),YieldsC P ops C oi v a→∀ u,YieldsC P ops C oi v (a.put oj.dst u):=fun a hy u =>
  hy.of_same (execOp_put oi hsi a oj.dst u h3) (wanted_put oi a oj.dst u h3) (fun w=>about_put oi w a oj.dst u h3)
 unfold wpOpIn at *
 simp only[hj] at *
 rw[wanted_put oj a oi.dst v h1,about_put oj w a oi.dst v h1] at h
 split
 ·rename_i hw
  simp only[hw,if_true] at h
  unfold Oper.wpIn at *
  rw[about_put oj w a oi.dst v h1] at h
  refine ⟨h.1,?_⟩
  have h:=h.2
  rw[hro,Oper.semAt_none,execOp_put oj hsj a oi.dst v h1] at h
  rw[hro,Oper.semAt_none]
  have hk:=hkeep a.eval w hC
  generalize (execOp a.eval oj).run P w=r at *
  cases r with
  | ok x w' =>
   obtain ⟨⟨u,rfl⟩,hC'⟩:=hk _ _ rfl
   simp only[Oper.uponIn] at h ⊢
   exact ⟨⟨keep a hy u,hC'⟩,by rw[←Act.put_comm a v u h2];exact h⟩
  | halt x w' =>
   cases x <;> simp only[Oper.uponIn] at h ⊢
   case panic u=>exact hQ _ _ _ h
 ·rename_i hw
  simp only[hw] at h
  exact ⟨h.1,⟨keep a hy _,hC⟩,by rw[←Act.put_comm a v undef h2];exact h.2⟩
def zlg (md:Region.Mode) (ops:Array Oper) (i:Nat) (tl:List Nat):Bool :=
 tl.all fun j=>match ops[j]? with
  | some oj=>oj.after.any fun e=>Region.binds md e&&(e.on==i||tl.contains e.on)
  | none=>false
theorem zqO {i:Nat} {tl:List Nat} {listed:Array Bool} (ht:zlg md ops i tl=true) (hi:listed.getD i true=false) (hl:∀ k∈tl,listed.getD k true=false) {j:Nat} (hj:j∈Region.ready md ops listed):j ∉ tl:=by
 intro hjt
 obtain ⟨hjun,oj,hoj,hall⟩:=mem_ready.1 hj
 simp only[zlg,List.all_eq_true] at ht
 have h1:=ht j hjt
 simp only[hoj] at h1
 obtain ⟨e,he,hb⟩:=Array.any_eq_true'.1 h1
 simp only[Bool.and_eq_true,Bool.or_eq_true,beq_iff_eq,List.contains_iff_mem] at hb
 have h2:=hall e he hb.1
 have hno:∀ k,listed.getD k true=false→listed.getD k false=true→False:=by
  intro k a b
  rcases Nat.lt_or_ge k listed.size with h' | h'
  ·simp[h'] at a b;rw[a] at b;cases b
  ·simp[Array.getElem?_eq_none h'] at b
 rcases hb.2 with h | h
 ·rw[h] at h2;exact hno _ hi h2
 ·exact hno _ (hl _ h) h2
theorem zkc {C:World→Prop} {i:Nat} {oi:Oper} {v:Value} (tl:List Nat) (ht:zlg md ops i tl=true) (hro:F.round=none) (hi:ops[i]?=some oi) (hsel:∀ (j:Nat) (o:Oper) cs b,ops[j]?=some o→o.op≠.select cs b)
  (hQ:∀ c a w,Q (.panic c) (a.put oi.dst v) w→Q (.panic c) a w) :
  ∀ (fuel:Nat) (listed:Array Bool) (a:Act) (w:World),(∀ k∈tl,listed.getD k true=false) →
   (∀ j oj,ops[j]?=some oj→j≠i→j ∉ tl→listed.getD j true=false→(∀ e∈oj.after,Region.binds md e=true→e.on≠i)→oi.apart ops oj=true∧zje P C oj) →
   i∈Region.ready md ops listed→C w→YieldsC P ops C oi v a →
   wpAnyIn F n P md ops Q fuel (listed.setIfInBounds i true) (a.put oi.dst v) w→wpAnyIn F n P md ops Q (fuel+1) listed a w:=by
 intro fuel
 induction fuel with
 | zero =>
  intro listed a w _ _ hr hC hy H
  refine ⟨fun h=>(by rw[h] at hr;cases hr),fun j hj=>?_⟩
  by_cases hji:j=i
  ·subst hji;exact hy.wpOpIn hro hi hC H
  ·have:=ready_mono hj hji
   rw[H.1] at this
   cases this
 | succ fuel ih =>
  intro listed a w htl hfree hr hC hy H
  refine ⟨fun h=>(by rw[h] at hr;cases hr),fun j hj=>?_⟩
  by_cases hji:j=i
  ·subst hji;exact hy.wpOpIn hro hi hC H
  ·have h1:=H.2 j (ready_mono hj hji)
   have hjt:j ∉ tl:=zqO ht (mem_ready.1 hr).1 htl hj
   obtain ⟨hjun,oj,hoj,hall⟩:=mem_ready.1 hj
   have hnot:∀ e∈oj.after,Region.binds md e=true→e.on≠i:=fun e he hb heq=>by
    have h1:=hall e he hb
    have h0:=(mem_ready.1 hr).1
    rw[heq] at h1
    rcases Nat.lt_or_ge i listed.size with h' | h'
    ·simp[h'] at h0 h1;rw[h0] at h1;cases h1
    ·simp[Array.getElem?_eq_none h'] at h1
   obtain ⟨hap,hkp⟩:=hfree j oj hoj hji hjt hjun hnot
   have h2:=znq hro hoj hap (fun cs b=>hsel i oi cs b hi) (fun cs b=>hsel j oj cs b hoj) hkp hQ hC hy h1
   have hfree':∀ k ok,ops[k]?=some ok→k≠i→k ∉ tl→(listed.setIfInBounds j true).getD k true=false →
     (∀ e∈ok.after,Region.binds md e=true→e.on≠i)→oi.apart ops ok=true∧zje P C ok:=fun k ok hk hki hkt hun hno=>by
    refine hfree k ok hk hki hkt ?_ hno
    by_cases hjk:j=k
    ·subst hjk;exact hjun
    ·rw[getD_set_ne true hjk] at hun;exact hun
   have htl':∀ k∈tl,(listed.setIfInBounds j true).getD k true=false:=fun k hk=>by
    have hne:j≠k:=fun e=>hjt (by rw[e];exact hk)
    rw[getD_set_ne true hne];exact htl k hk
   refine wpOpIn_mono (fun a' w' h3=>ih (listed.setIfInBounds j true) a' w' htl' hfree' (ready_mono hr (Ne.symm hji)) h3.1.2 h3.1.1 ?_) h2
   rw[Array.setIfInBounds_comm _ _ hji]
   exact h3.2
def SameW {α:Type} (P:Program) (s:Sem α):Prop:=∀ w r w',s.run P w=.ok r w'→w'=w
def zdL {α:Type} (P:Program) (s:Sem α):Prop:=∀ w r w',s.run P w=.ok r w'→w'=w∨∃ o,w'=w.alloc o
theorem zb9 {α β:Type} {s:Sem α} {f:α→Sem β} (h1:SameW P s) (h2:∀ a,SameW P (f a)):SameW P (s >>= f):=by
 intro w r w' h
 rw[Sem.run_bind] at h
 cases hs:s.run P w with
 | ok a w1 =>
  rw[hs] at h
  rw[h1 _ _ _ hs] at h
  exact h2 a _ _ _ h
 | halt x w1=>rw[hs] at h;cases h
theorem zdX {α β:Type} {s:Sem α} {f:α→Sem β} (h1:SameW P s) (h2:∀ a,zdL P (f a)):zdL P (s >>= f):=by
 intro w r w' h
 rw[Sem.run_bind] at h
 cases hs:s.run P w with
 | ok a w1 =>
  rw[hs] at h
  rw[h1 _ _ _ hs] at h
  exact h2 a _ _ _ h
 | halt x w1=>rw[hs] at h;cases h
theorem zoi {α β:Type} {s:Sem α} {f:α→Sem β} (h1:zdL P s) (h2:∀ a,SameW P (f a)):zdL P (s >>= f):=by
 intro w r w' h
 rw[Sem.run_bind] at h
 cases hs:s.run P w with
 | ok a w1 =>
  rw[hs] at h
  have:=h2 a _ _ _ h
  subst this
  exact h1 _ _ _ hs
 | halt x w1=>rw[hs] at h;cases h
theorem zbZ {α:Type} (a:α):SameW P (pure a:Sem α):=by
 intro w r w' h
 rw[Sem.run_pure] at h
 cases h;rfl
theorem SameW.grow {α:Type} {s:Sem α} (h:SameW P s):zdL P s:=fun w r w' h'=>.inl (h w r w' h')
theorem zkB (a:Addr) (m:Mode):SameW P (load a m):=by
 intro w r w' h
 rw[run_load] at h
 split at h
 ·cases h;rfl
 ·split at h <;> cases h <;> rfl
theorem zea {α:Type} (m:String):SameW P (stuck m:Sem α):=by
 intro w r w' h
 simp[go_sem] at h
theorem zhR:SameW P program:=by
 intro w r w' h
 simp[go_sem] at h
 exact h.2.symm
theorem zhg (t:TypeId):SameW P (typeInfo t):=by
 unfold typeInfo
 refine zb9 zhR (fun p=>?_)
 split
 ·exact zbZ _
 ·exact zea _
theorem zfO (t:TypeId):SameW P (underlying t):=by
 unfold underlying
 refine zb9 zhR (fun p=>?_)
 split
 ·exact zbZ _
 ·exact zea _
theorem ziA (t:TypeId):SameW P (sizeOf t):=by unfold sizeOf;exact zb9 (zhg t) (fun _=>zbZ _)
theorem zoL (t:TypeId):SameW P (isAgg t):=by
 unfold isAgg
 refine zb9 (zfO t) (fun d=>?_)
 split <;> exact zbZ _
theorem zhQ (a:Addr) (n:Nat):∀ (i:Nat) (acc:Array Value),SameW P (loadCellsFrom a i n acc):=by
 induction n with
 | zero=>intro i acc;exact zbZ _
 | succ n ih=>intro i acc;exact zb9 (zkB _ _) (fun v=>ih _ _)
theorem zl9 (t:TypeId) (a:Addr):SameW P (loadVar t a):=by
 unfold loadVar
 refine zb9 (zoL t) (fun b=>?_)
 cases b
 ·exact zkB _ _
 ·exact zb9 (ziA t) (fun n=>zb9 (zhQ _ _ _ _) (fun _=>zbZ _))
theorem znc (t:TypeId) (v:Value):SameW P (Instr.loadAt t v):=by
 unfold Instr.loadAt
 refine zb9 ?_ (fun a=>zl9 t a)
 unfold Instr.sureAddr
 split
 ·exact zbZ _
 ·exact zea _
def zjm (o:Oper):Bool :=
 match o.op with
 | .move _=>true
 | .load _ _=>true
 | .buildSlice _ _ _=>true
 | _=>false
def zfo (ops:Array Oper) (listed:Array Bool) (i:Nat) (tl:List Nat):Bool :=
 tl.all (fun k=>!listed.getD k true)&&(List.range ops.size).all fun j=>j==i||tl.contains j||listed.getD j true||match ops[j]? with
   | some oj=>zjm oj
   | none=>true
theorem zkX {i:Nat} {tl:List Nat} {listed:Array Bool} (h:zfo ops listed i tl=true) (j:Nat) (oj:Oper)
  (hj:ops[j]?=some oj) (hne:j≠i) (hnt:j ∉ tl) (hun:listed.getD j true=false):zjm oj=true:=by
 simp only[zfo,Bool.and_eq_true,List.all_eq_true,List.mem_range] at h
 have h1:=h.2 j (Array.getElem?_eq_some_iff.1 hj).1
 simpa [hj,hne,hnt,hun] using h1
theorem zmG {i:Nat} {tl:List Nat} {listed:Array Bool} (h:zfo ops listed i tl=true):∀ k∈tl,listed.getD k true=false:=by
 simp only[zfo,Bool.and_eq_true,List.all_eq_true] at h
 intro k hk
 simpa using h.1 k hk
theorem zpV (t:TypeId):SameW P (zeroValue t):=by
 unfold zeroValue
 refine zb9 (zhg t) (fun i=>?_)
 split
 ·exact zbZ _
 ·intro w r w' h
  simp[go_sem] at h
theorem zmO (t:TypeId) (cs:Array Value):zdL P (newRow t cs):=by
 intro w r w' h
 simp[newRow,go_sem] at h
 exact .inr ⟨_,h.2.symm⟩
theorem zrF {α:Type} {c:Prop} [Decidable c] {s t:Sem α} (h1:zdL P s) (h2:zdL P t):zdL P (if c then s else t):=by split <;> assumption
theorem zjw (t:TypeId) (n:Nat) (ps:Array (Nat×Value)):zdL P (Instr.buildSlice t n ps):=by
 unfold Instr.buildSlice
 refine zdX (zfO t) (fun d=>?_)
 split
 ·refine zdX (ziA _) (fun size=>?_)
  have hu:∀ {α:Type} (u:Unsupported),SameW P (unsupported u:Sem α):=by
   intro α u w r w' h
   simp[go_sem] at h
  have hlast:∀ (zero:Array Value) (e:TypeId),zdL P (do
    let some cells:=Instr.fill (fun i=>some (i*size,size)) ((Array.range (n*size)).map (zero[· % zero.size]!)) ps.toList | stuck "buildSlice: a part of the wrong size"
    pure (Value.slice (some (←newRow e cells)) n n)):=by
   intro zero e
   split
   ·exact zoi (zmO _ _) (fun _=>zbZ _)
   ·exact (zea _).grow
  rename_i elem
  have hmid:zdL P (if n*size=0 then (do
    let zero ←(pure #[]:Sem (Array Value))
    match Instr.fill (fun i=>some (i*size,size)) ((Array.range (n*size)).map (zero[· % zero.size]!)) ps.toList with
     | some cells=>do
      let a ←newRow elem cells
      pure (Value.slice (some a) n n)
     | _=>stuck "buildSlice: a part of the wrong size")
   else (do
    let v ←zeroValue elem
    let zero ←(pure v.cells:Sem (Array Value))
    match Instr.fill (fun i=>some (i*size,size)) ((Array.range (n*size)).map (zero[· % zero.size]!)) ps.toList with
     | some cells=>do
      let a ←newRow elem cells
      pure (Value.slice (some a) n n)
     | _=>stuck "buildSlice: a part of the wrong size")):=by
   split
   ·exact zdX (zbZ _) (fun z=>hlast z elem)
   ·exact zdX (zpV _) (fun v=>zdX (zbZ _) (fun z=>hlast z elem))
  exact zrF (zdX (hu _) (fun _=>hmid)) hmid
 ·exact (zea _).grow
theorem zmo {s:Sem Value} {w w':World} {r:Next} (h:(do pure (Next.value (←s)):Sem Next).run P w=.ok r w'):∃ v,r=.value v∧s.run P w=.ok v w':=by
 rw[Sem.run_bind] at h
 cases hs:s.run P w with
 | ok a w1=>rw[hs] at h;cases h;exact ⟨a,rfl,rfl⟩
 | halt x w1=>rw[hs] at h;cases h
theorem zn7 {C:World→Prop} (hC:∀ w o,C w→C (w.alloc o)) {o:Oper} (h:zjm o=true):zje P C o:=by
 intro ρ w hw r w' hr
 unfold zjm at h
 unfold execOp at hr
 split at h
 ·rename_i x ho
  simp only[ho,Sem.run_pure] at hr
  cases hr;exact ⟨⟨_,rfl⟩,hw⟩
 ·rename_i t x ho
  simp only[ho] at hr
  obtain ⟨v,rfl,hs⟩:=zmo hr
  rw[znc _ _ _ _ _ hs]
  exact ⟨⟨_,rfl⟩,hw⟩
 ·rename_i t n ps ho
  simp only[ho] at hr
  obtain ⟨v,rfl,hs⟩:=zmo hr
  refine ⟨⟨_,rfl⟩,?_⟩
  rcases zjw _ _ _ _ _ _ hs with rfl | ⟨o',rfl⟩
  ·exact hw
  ·exact hC _ _ hw
 ·cases h
theorem zc1 (C:World→Prop) (tl:List Nat) {i:Nat} {oi:Oper} {v:Value} {fuel:Nat} {listed:Array Bool} {a:Act} {w:World} (hro:F.round=none) (hi:ops.toList[i]?=some oi)
  (hs:Region.noSelect ops=true) (hf:Region.free md ops listed i=true) (ht:zlg md ops i tl=true) (hcm:zfo ops listed i tl=true) (hr:(Region.ready md ops listed).contains i=true)
  (hQ:∀ c a w,Q (.panic c) (a.put oi.dst v) w→Q (.panic c) a w) (hal:∀ w o,C w→C (w.alloc o)) (hC:C w) (hy:YieldsC P ops C oi v a)
  (h:wpAnyIn F n P md ops Q fuel (listed.setIfInBounds i true) (a.put oi.dst v) w):wpAnyIn F n P md ops Q (fuel+1) listed a w :=
 zkc tl ht hro (zfv hi) (Region.noSelect_spec hs) hQ fuel listed a w (zmG hcm) (fun j oj hj hne hnt hun hno=>⟨Region.free_spec (zfv hi) hf j oj hj hne hun hno,zn7 hal (zkX hcm j oj hj hne hnt hun)⟩) (by simpa using hr) hC hy h
theorem zk6 {i:Nat} {oi:Oper} {v:Value} {fuel:Nat} {listed:Array Bool} {a:Act} {w:World} (hro:F.round=none) (hi:ops.toList[i]?=some oi)
  (hs:Region.noSelect ops=true) (hf:Region.free md ops listed i=true) (hr:(Region.ready md ops listed).contains i=true)
  (hQ:∀ c a w,Q (.panic c) (a.put oi.dst v) w→Q (.panic c) a w) (hy:YieldsFenced P ops oi v a)
  (h:wpAnyIn F n P md ops Q fuel (listed.setIfInBounds i true) (a.put oi.dst v) w):wpAnyIn F n P md ops Q (fuel+1) listed a w :=
 wpAnyIn_take hro (zfv hi) hs hf hr hQ hy h
theorem zto {o:Oper} {v:Value} {a:Act} (hg:o.guard=none) (hrun:∀ w,(execOp a.eval o).run P w=.ok (.value v) w) (hab:∀ w,o.about P w a.eval=none):YieldsFenced P ops o v a :=
 ⟨.inl ⟨by simp[Region.wanted,hg],hrun⟩,hab⟩
theorem tkF (i:Nat) {oi:Oper} {v:Value} {fuel:Nat} {listed:Array Bool} {a:Act} {w:World} (hro:F.round=none) (hi:ops.toList[i]?=some oi) (hg:oi.guard=none)
  (h:wpAnyIn F n P md ops Q fuel (listed.setIfInBounds i true) (a.put oi.dst v) w) (hrun:∀ w,(execOp a.eval oi).run P w=.ok (.value v) w:=by (intro w;go_simp;try with_reducible rfl)) (hab:∀ w,oi.about P w a.eval=none:=by exact fun w=>rfl) (hs:Region.noSelect ops=true:=by kernel_rfl) (hf:Region.free md ops listed i=true:=by kernel_rfl) (hr:(Region.ready md ops listed).contains i=true:=by kernel_rfl)
  (hQ:∀ c a w,Q (.panic c) (a.put oi.dst v) w→Q (.panic c) a w:=by exact fun _ _ _ h=>h):wpAnyIn F n P md ops Q (fuel+1) listed a w :=
 zk6 hro hi hs hf hr hQ (zto hg hrun hab) h
theorem zgo {C:World→Prop} {o:Oper} {v:Value} {a:Act} (hg:o.guard=none) (hrun:∀ w,C w→(execOp a.eval o).run P w=.ok (.value v) w) (hab:∀ w,o.about P w a.eval=none):YieldsC P ops C o v a :=
 ⟨by simp[Region.wanted,hg],hrun,hab⟩
theorem zak {i:Nat} {o:Oper} {v:Value} {fuel:Nat} {listed:Array Bool} {a:Act} {w w':World} (hro:F.round=none) (hr:Region.ready md ops listed=[i]) (hi0:ops.toList[i]?=some o) (hg:o.guard=none)
  (hab:o.about P w a.eval=none) (hrun:(execOp a.eval o).run P w=.ok (.value v) w') (h:wpAnyIn F n P md ops Q fuel (listed.setIfInBounds i true) (a.put o.dst v) w'):wpAnyIn F n P md ops Q (fuel+1) listed a w:=by
 have hi:=zfv hi0
 refine wpAnyIn_all hr (by simp) (fun j hj=>?_)
 have e:j=i:=by simpa using hj
 subst e
 unfold wpOpIn
 have hab':∀ f,o.about P w a.eval=some f→F.fn f:=fun f hf=>by rw[hab] at hf;cases hf
 have hw:Region.wanted o (yielded ops a.tmps)=true:=by simp[Region.wanted,hg]
 simp only[hi,hw,if_true,Oper.wpIn,hro,Oper.semAt_none,hrun,Oper.uponIn]
 exact ⟨hab',h⟩
theorem zby {i:Nat} {o:Oper} {fuel:Nat} {listed:Array Bool} {a:Act} {w w':World} (hro:F.round=none) (hr:Region.ready md ops listed=[i]) (hi0:ops.toList[i]?=some o) (hg:o.guard=none)
  (hab:o.about P w a.eval=none) (hrun:(execOp a.eval o).run P w=.ok .skip w') (h:wpAnyIn F n P md ops Q fuel (listed.setIfInBounds i true) (a.put o.dst undef) w'):wpAnyIn F n P md ops Q (fuel+1) listed a w:=by
 have hi:=zfv hi0
 refine wpAnyIn_all hr (by simp) (fun j hj=>?_)
 have e:j=i:=by simpa using hj
 subst e
 unfold wpOpIn
 have hab':∀ f,o.about P w a.eval=some f→F.fn f:=fun f hf=>by rw[hab] at hf;cases hf
 have hw:Region.wanted o (yielded ops a.tmps)=true:=by simp[Region.wanted,hg]
 simp only[hi,hw,if_true,Oper.wpIn,hro,Oper.semAt_none,hrun,Oper.uponIn]
 exact ⟨hab',h⟩
theorem zcP {i:Nat} {o:Oper} {f:FuncId} {args:Array Value} {fuel:Nat} {listed:Array Bool} {a:Act} {w w':World} (hr:Region.ready md ops listed=[i]) (hi0:ops.toList[i]?=some o) (hg:o.guard=none)
  (hrun:(execOp a.eval o).run P w=.ok (.enter f args) w') (h:Calls P f args w' fun e w2=>∃ v,e=.returned v∧wpAnyIn (Wd none) n P md ops Q fuel (listed.setIfInBounds i true) (a.put o.dst v) w2):wpAnyIn (Wd none) n P md ops Q (fuel+1) listed a w:=by
 have hi:=zfv hi0
 refine wpAnyIn_all hr (by simp) (fun j hj=>?_)
 have e:j=i:=by simpa using hj
 subst e
 unfold wpOpIn
 have hw:Region.wanted o (yielded ops a.tmps)=true:=by simp[Region.wanted,hg]
 simp only[hi,hw,if_true,Oper.wpIn,Oper.semAt_none,hrun,Oper.uponIn]
 refine ⟨fun _ _=>trivial,fun h=>by simp[Fence.wide] at h,(callsIn_wd.2 h).mono ?_⟩
 rintro e w2 ⟨v,rfl,h⟩
 exact h
theorem zjN {i j:Nat} {oi oj:Oper} {vi vj:Value} {fuel:Nat} {listed:Array Bool} {a:Act} {w wi wj:World} (hro:F.round=none) (hr:Region.ready md ops listed=[i,j]) (hi0:ops.toList[i]?=some oi) (hj0:ops.toList[j]?=some oj) (gi:oi.guard=none) (gj:oj.guard=none)
  (abi:oi.about P w a.eval=none) (abj:oj.about P w a.eval=none) (runi:(execOp a.eval oi).run P w=.ok (.value vi) wi) (runj:(execOp a.eval oj).run P w=.ok (.value vj) wj)
  (h1:wpAnyIn F n P md ops Q fuel (listed.setIfInBounds i true) (a.put oi.dst vi) wi) (h2:wpAnyIn F n P md ops Q fuel (listed.setIfInBounds j true) (a.put oj.dst vj) wj):wpAnyIn F n P md ops Q (fuel+1) listed a w:=by
 have hi:=zfv hi0
 have hj:=zfv hj0
 refine wpAnyIn_all hr (by simp) (fun k hk=>?_)
 have abi':∀ f,oi.about P w a.eval=some f→F.fn f:=fun f hf=>by rw[abi] at hf;cases hf
 have abj':∀ f,oj.about P w a.eval=some f→F.fn f:=fun f hf=>by rw[abj] at hf;cases hf
 have wi':Region.wanted oi (yielded ops a.tmps)=true:=by simp[Region.wanted,gi]
 have wj':Region.wanted oj (yielded ops a.tmps)=true:=by simp[Region.wanted,gj]
 rcases (by simpa using hk:k=i∨k=j) with rfl | rfl
 ·unfold wpOpIn
  simp only[hi,wi',if_true,Oper.wpIn,hro,Oper.semAt_none,runi,Oper.uponIn]
  exact ⟨abi',h1⟩
 ·unfold wpOpIn
  simp only[hj,wj',if_true,Oper.wpIn,hro,Oper.semAt_none,runj,Oper.uponIn]
  exact ⟨abj',h2⟩
end
end Go.Mv

namespace Go.Proofs.YtgonhdeochgkoaaGreatDoor
open Go.RowKit Go.Mv Go.Shelf
attribute [local go_sem] Oper.semAt_some zeu
theorem Hold.moves {wo W W':World} {M:Nat→Obj→Prop} (h:Hold wo W) (hm:Moves M W W') (hM:∀ k o,k<wo.heap.size→o.isCells=true→¬ M k o):Hold wo W':=by
 intro q u hq
 have hlt:=World.block_lt_of_cell? wo q hq
 exact hm.cell (h q u hq) (fun o _ hc=>hM _ o hlt hc)
attribute [local go_sem] Oper.semAt_some
end Go.Proofs.YtgonhdeochgkoaaGreatDoor
