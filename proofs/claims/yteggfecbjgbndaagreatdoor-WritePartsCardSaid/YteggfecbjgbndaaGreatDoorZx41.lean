/- Merged -/
import Derived.Test.YteggfecbjgbndaaGreatDoorZx18
import Derived.Test.YteggfecbjgbndaaGreatDoorZx39
import Derived.Test.YteggfecbjgbndaaGreatDoorZx40
set_option linter.all false
set_option maxHeartbeats 8000000
set_option maxRecDepth 100000
open Go.Proofs.Tryz
open List renaming length->i
open Go.Value renaming int->E,slice->F,bool->N,pointer->R,agg->Z
open Go.IntKind renaming i64->G,u8->V
open Go.Mv renaming aN->I
open Option renaming some->J,none->L
open Go.Proofs.Tryz renaming prog->O
open Go.Obj renaming cells->U
open Go.Mv.Blk renaming new->P0,ext->P1
open Go.RowKit.Below renaming setCell->P2
open Go.Mv.SlR renaming ext->P3
open List renaming length_nil->P4,append_toArray->P5,size_toArray->P6,push_toArray->P7,length_drop->P8,cons_append->P9
open Array renaming replicate_zero->Pa,replicate_succ->Pb
namespace Go.Proofs.YteggfecbjgbndaaGreatDoor
open Go.RowKit Go.Mv Go.Shelf
variable {cs:Array Value} {d:Dk} {b c e r:Nat} {A B:Option Addr} {t:TypeId} {W W' w:World}
theorem mcR8aa0{P:Prop}(h:P:=by
 obtain⟨JB,JC,rfl,Hd,Hf⟩:=H6;obtain⟨Af,cf,rfl,_,_⟩:=Fs.open_ Hd;obtain⟨Aq,cq,rfl,_,_⟩:=Qs.open_ Hf;have HP:=I (H.give Hc Hd Hf (by omega));have Ho:=H.br.ext Hc;have eb:=ae Ho;have ec:=aH Ho;clear Ho Hd Hf Hc H;go_wp2_with fail
 refine bodyPost_ret (te _ _ _ _ _ rfl rfl HP.1 rfl) rfl ?_;exact⟨⟨_,rfl,⟨_,_,rfl,HP.2.1,HP.2.2.1⟩⟩,HP.2.2.2⟩):P:=h
theorem mcR8aa1{P:Prop}(h:P:=by
 have HP:=I (H.give (xR _) H.f H.q (by omega));have Ho:=H.br;unfold aK at Ho;have eb:=ae Ho;have ec:=aH Ho;clear Ho H;go_wp2_with fail
 refine bodyPost_ret (te _ _ _ _ _ rfl rfl HP.1 rfl) rfl ?_;exact⟨⟨_,rfl,⟨_,_,rfl,HP.2.1,HP.2.2.1⟩⟩,HP.2.2.2⟩):P:=h
theorem eS(h:Blk W b t cs)(f:b≠c)(a v u x y:Value):Blk (aK W c a v u x y) b t cs:=((((h.other f 0 a).other f 1 v).other f 2 u).other f 3 x).other f 4 y
theorem te(tmps:Array Value)(W:World)(b:Nat)(cs:Array Value)(e:Value)(h4:tmps.getD 6 undef=R (J ⟨b,0,L⟩))(h3:tmps.getD 7 undef=e)(hb:Blk W b 25 cs)(hs:cs.size=5):(results Tryz.f18 tmps).run O W=.ok (.tuple #[.agg cs,e]) W:=by
 have f:tmps[6]?.getD undef=R (J ⟨b,0,L⟩):=by simpa using h4
 have a:tmps[7]?.getD undef=e:=by simpa using h3
 have hl:=hb.load (P:=O) em rfl (by rw[hs];kernel_rfl);simp[results,results18,f,a,asAddr,hl,Sem.run_bind,Sem.run_pure,Result.andThen_ok]
structure Pt (w W:World) (r:Nat) (A:Option Addr) (c:Nat) (B:Option Addr) (e:Nat) (d:Dk):Prop where
 b0:Blk W w.heap.size 25 (ap A d.fs.length c B d.q.length e d.quota d.fuse d.dead)
 br:Blk W r 25 (ap none 0 0 none 0 0 0 0 false)
 f:Fs W (F A d.fs.length c) d.fs
 q:Qs W (F B d.q.length e) d.q
 e:Ext w W
theorem Pt.ext(h:Pt w W r A c B e d)(a:Ext W W'):Pt w W' r A c B e d:=
 ⟨h.b0.ext a,h.br.ext a,h.f.ext a,h.q.ext a,xT h.e a⟩
theorem Pt.dk(h:Pt w W r A c B e d):DkV W (Z #[F A d.fs.length c,F B d.q.length e,E G d.quota,E G d.fuse,N d.dead]) d:=⟨_,_,rfl,h.f,h.q⟩
theorem Pt.store{a f:Option Addr}{g i:Nat}{D:Dk}(h:Pt w W r A c B e d)(j:Ext W W')(hf:Fs W' (F a D.fs.length g) D.fs)(k:Qs W' (F f D.q.length i) D.q)(l:w.heap.size<r):Pt w (aK W' w.heap.size (F a D.fs.length g) (F f D.q.length i) (E G D.quota) (E G D.fuse) (N D.dead)) r a g f i D:=
 have hb:=h.b0.ext j
 ⟨aT hb _ _ _ _ _,eS (h.br.ext j) (by omega) _ _ _ _ _,Fs.setBox hb hf _ _ _ _ _,Qs.setBox hb k _ _ _ _ _,aS (xT h.e j) (xN _) _ _ _ _ _⟩
theorem Pt.give{a f:Option Addr}{g i:Nat}{D:Dk}(h:Pt w W r A c B e d)(j:Ext W W')(hf:Fs W' (F a D.fs.length g) D.fs)(k:Qs W' (F f D.q.length i) D.q)(l:w.heap.size<r):
  Blk (aK W' r (F a D.fs.length g) (F f D.q.length i) (E G D.quota) (E G D.fuse) (N D.dead)) r 25 (ap a D.fs.length g f D.q.length i D.quota D.fuse D.dead)/\Fs (aK W' r (F a D.fs.length g) (F f D.q.length i) (E G D.quota) (E G D.fuse) (N D.dead)) (F a D.fs.length g) D.fs/\Qs (aK W' r (F a D.fs.length g) (F f D.q.length i) (E G D.quota) (E G D.fuse) (N D.dead)) (F f D.q.length i) D.q/\Ext w (aK W' r (F a D.fs.length g) (F f D.q.length i) (E G D.quota) (E G D.fuse) (N D.dead)):=
 have hb:=h.br.ext j
 ⟨aT hb _ _ _ _ _,Fs.setBox hb hf _ _ _ _ _,Qs.setBox hb k _ _ _ _ _,aS (xT h.e j) (Nat.le_of_lt l) _ _ _ _ _⟩
theorem yO(v:Value)(d:Dk)(n:Nat)(k s f:Int)(m:Value)(b:List UInt8)(w:World)(hS:StW w)(hD:DkV w v d)(hs:Sz n d)(Y:Bs w m b)(hn:n<=400000)(J6:i b<=100000):
  Calls O 18 #[v,Z #[E V k,E G s,E G f],m] w λe w'=>(∃u,e=.returned (.tuple #[u,E G (cj d (aE k s f) b).2])/\DkV w' u (cj d (aE k s f) b).1)/\Ext w w':=by
 obtain⟨m,m,rfl,hF,hQ⟩:=hD;obtain⟨A,c,rfl,_,_⟩:=Fs.open_ hF;obtain⟨B,L,rfl,_,_⟩:=Qs.open_ hQ;obtain⟨C,c2,rfl,_,_⟩:=xO Y;obtain⟨m,K⟩:∃m,((w.alloc (U #[F A d.fs.length c,F B d.q.length L,E G d.quota,E G d.fuse,N d.dead] 25)).alloc (U #[E V k,E G s,E G f] 32)).alloc (U #[F none 0 0,F none 0 0,E G 0,E G 0,N false] 25)=m:=⟨_,rfl⟩;have J:Ext w m:=by rw[<-K];exact xA (xA (xA (xR _) _) _) _
 have X:Blk m w.heap.size 25 (ap A d.fs.length c B d.q.length L d.quota d.fuse d.dead):=by rw[<-K];exact((P0 w _ _).alloc _).alloc _
 have h1:Blk m (w.heap.size+1) 32 #[E V k,E G s,E G f]:=by
  rw[<-K];have:=(P0 (w.alloc (U #[F A d.fs.length c,F B d.q.length L,E G d.quota,E G d.fuse,N d.dead] 25)) 32 #[E V k,E G s,E G f]).alloc (U #[F none 0 0,F none 0 0,E G 0,E G 0,N false] 25);rwa[xS]at this
 have h2:Blk m (w.heap.size+1+1) 25 (ap none 0 0 none 0 0 0 0 false):=by
  rw[<-K];have:=P0 ((w.alloc (U #[F A d.fs.length c,F B d.q.length L,E G d.quota,E G d.fuse,N d.dead] 25)).alloc (U #[E V k,E G s,E G f] 32)) 25 #[F none 0 0,F none 0 0,E G 0,E G 0,N false];rwa[xS,xS]at this
 have H:Hid (Pt w m (w.heap.size+1+1) A c B L d):=I ⟨X,h2,hF.ext J,hQ.ext J,J⟩;have HB:=I Y;have z:=I hs;have R:=I J6;have key:=qp k s f m (hS.ext J);obtain⟨a,m⟩:∃a,aE k s f=a:=⟨_,rfl⟩;rw[m]at key⊢;have H0:=I key;obtain⟨S,p⟩:∃S,cj d a b=S:=⟨_,rfl⟩;rw[p];have Km:=I p;have o:=ae X;have ee:=au h1;clear hF hQ J X h1 h2 hS m key Y hs J6 p;go_enter func18,ntmps18
 go_wp2_with fail;clear K;refine H0.mono ?_;rintro e w1⟨rfl,m⟩;replace H:=I (H.ext m);clear H0 m o ee;have o:=ae H.b0;cases a with
 |none=>
  have key:=mU _ d w1 H.dk (by have:=z.l;omega) (by have:=z.t;omega);have H0:=I key;clear key;have hs:=Km.out;simp only[cj]at hs;subst hs;clear Km;go_wp2_with fail
  refine H0.mono ?_;rintro e w2⟨u,rfl,m,Hc⟩;have H6:=m.dk;clear m H0 o;exact mcR8aa0
 |some a=>
  have p:=Km.out;simp only[cj,putS,ct]at p;have g:=I p;clear p Km;have key:=nt _ d (dP a) (F none 0 0) w1 H.dk (SlR.nil _ 1) (by have:=z.l;omega) (by have:=z.t;omega) (by simp[dP]) z.f;have p:=I (z.doS (dP a));obtain⟨⟨D,r1⟩,m⟩:∃x,d.doS (dP a)=x:=⟨_,rfl⟩;have hs:=g.out;rw[m]at key hs;dsimp only[dP,sv,P4]at key p hs;have P:=I (show Sz (n+1) D by have:=p.out;rw[show(d.doS ⟨1,a,[],[]⟩).1=D from congrArg Prod.fst m]at this;exact this);have H0:=I key;replace g:=I hs;clear key hs m p;simp only[Option.isSome,Option.getD,sv];go_wp2_with fail
  refine H0.mono ?_;rintro e w2⟨⟨u,rfl,H6⟩,Hc⟩;dsimp only at H6⊢;clear H0 o;obtain⟨JB,JC,rfl,Hd,Hf⟩:=H6;obtain⟨m,m,rfl,_,_⟩:=Fs.open_ Hd;obtain⟨m,m,rfl,_,_⟩:=Qs.open_ Hf;have y:=H.b0.ext Hc;have o:=ae y;have T:=aH y;replace H:=I (H.store Hc Hd Hf (by omega));clear y Hd Hf Hc;by_cases h:r1=0
  case neg=>
   have hs:=g.out;rw[if_neg h]at hs;subst hs;have Gh:(r1 != 0)=true:=by simpa using h
   clear g h;exact mcR8aa1
  have hs:=g.out;rw[if_pos h]at hs;replace g:=I hs;subst h;clear hs;have key:=nt _ D (d8 a b) (F C b.length c2) _ H.dk (HB.ext H.e) (by have:=P.l;omega) (by have:=P.t;omega) (by have:=R.out;exact this) P.f;have h:=I (P.doS (d8 a b));obtain⟨⟨M,r2⟩,m⟩:∃x,D.doS (d8 a b)=x:=⟨_,rfl⟩;have hs:=g.out;rw[m]at key hs;dsimp only[d8,sv]at key h hs;have Q:=I (show Sz (n+1+1+i b) M by have:=h.out;rw[show(D.doS ⟨2,a,[],b⟩).1=M from congrArg Prod.fst m]at this;exact this);have H0:=I key;replace g:=I hs;clear key hs m h;go_wp2_with fail
  refine H0.mono ?_;rintro e a⟨⟨u,rfl,H6⟩,Hc⟩;dsimp only at H6⊢;clear H0 o T;obtain⟨JB,JC,rfl,Hd,Hf⟩:=H6;obtain⟨a,a,rfl,_,_⟩:=Fs.open_ Hd;obtain⟨a,a,rfl,_,_⟩:=Qs.open_ Hf;have y:=H.b0.ext Hc;have o:=ae y;have T:=aH y;replace H:=I (H.store Hc Hd Hf (by omega));clear y Hd Hf Hc;by_cases j:r2=0
  case neg=>
   have hs:=g.out;rw[if_neg j]at hs;subst hs;have Gh:(r2 != 0)=true:=by simpa using j
   clear g j;exact mcR8aa1
  have hs:=g.out;rw[if_pos j]at hs;simp only[if_true]at hs;subst j;clear g;have key:=yS _ M _ H.dk (by have:=Q.l;have:=R.out;omega) (by have:=Q.t;have:=R.out;omega) Q.f;obtain⟨⟨a,a⟩,KW⟩:∃x,M.syncS=x:=⟨_,rfl⟩;rw[KW]at key hs;have H0:=I key;subst hs;clear key KW;go_wp2_with fail
  refine H0.mono ?_;rintro e a⟨⟨u,rfl,H6⟩,Hc⟩;dsimp only at H6⊢;clear H0 o T;exact mcR8aa0
def zxB(f:Int)(d d':Dk)(l:List Ent)(k:Nat)(g:Int):Prop:=∀(v a:Value) (W:World),StW W->DkV W v d->Es W a l->Calls O 73 #[v,E G f,a] W λa w'=>∃u,a=.returned (.tuple #[u,E G k,E G g])/\DkV w' u d'/\Ext W w'
def zzF(f:Int)(j:Dk)(a:Int):Nat->Dk->List Ent->Prop
 |0,_,_=>False
 |g+1,d,l=>0<i l/\∃k:Nat,k<=i l/\((zxB f d j l k a/\(a≠0\/k=i l))\/∃h,zxB f d h l k 0/\0<k/\k<i l/\zzF f j a g h (l.drop k))
def ybd:Value->Nat
 |F _ n _=>n
 |_=>0
theorem yav(tmps:Array Value)(W:World)(b:Nat)(cs:Array Value)(u:Value)(h4:tmps.getD 6 undef=R (J ⟨b,0,L⟩))(h5:tmps.getD 7 undef=u)(hb:Blk W b 25 cs)(hs:cs.size=5):(results Tryz.f72 tmps).run O W=.ok (.tuple #[.agg cs,u]) W:=by
 have hl:=hb.load (P:=O) em rfl (by rw[hs];kernel_rfl);have a:tmps[6]?.getD undef=R (J ⟨b,0,L⟩):=by simpa using h4
 have f:tmps[7]?.getD undef=u:=by simpa using h5
 simp[results,results72,a,f,asAddr,hl]
def ybH(w:World)(f j:Int)(h:Dk)(a:Act)(W:World):Prop:=∃(g:Nat) (d:Dk) (l:List Ent) (v vl:Value) (A:Option Addr) (c:Nat) (B:Option Addr) (e:Nat) (u8 u9 Jh Ji Jj Jk Jl Jm Jn Jo Jp Jq Jr Js Jt Ju Jv Jw Jx Jy Jz JA:Value),
 a=⟨#[v,E G f,vl,R (J ⟨w.heap.size,0,L⟩),undef,undef,R (J ⟨w.heap.size+1,0,L⟩),E G 0,u8,u9,Jh,Ji,Jj,Jk,Jl,Jm,Jn,Jo,Jp,Jq,Jr,Js,Jt,Ju,Jv,Jw,Jx,Jy,Jz,JA],[]⟩/\zzF f h j g d l/\i l<=100000/\Hid (Es w vl l) /\
 Hid (Blk W w.heap.size 25 (ap A d.fs.length c B d.q.length e d.quota d.fuse d.dead))/\Hid (DkV W (.agg (ap A d.fs.length c B d.q.length e d.quota d.fuse d.dead)) d)/\Hid (Blk W (w.heap.size+1) 25 (ap none 0 0 none 0 0 0 0 false))/\Ext w W
theorem zxI(f:Int)(d S:Dk)(l:List Ent)(H:Int)(g:Nat)(X:zzF f S H g d l)(Hx:i l<=100000)(v vl:Value)(w:World)(hS:StW w)(hD:DkV w v d)(Y:Es w vl l):
  Calls O 72 #[v,E G f,vl] w λV w'=>∃u,V=.returned (.tuple #[u,E G H])/\DkV w' u S/\Ext w w':=by
 have Hn:=hD;obtain⟨vf,vq,rfl,Hl,Hm⟩:=hD;obtain⟨A,c,rfl,_,_⟩:=Fs.open_ Hl;obtain⟨B,e,rfl,_,_⟩:=Qs.open_ Hm;obtain⟨W,hW⟩:∃W,(w.alloc (U #[F A d.fs.length c,F B d.q.length e,E G d.quota,E G d.fuse,N d.dead] 25)).alloc (U #[F none 0 0,F none 0 0,E G 0,E G 0,N false] 25)=W:=⟨_,rfl⟩;have D:Ext w W:=by rw[<-hW];exact xA (xA (xR _) _) _
 have h0:Blk W w.heap.size 25 (ap A d.fs.length c B d.q.length e d.quota d.fuse d.dead):=by rw[<-hW];exact(P0 w _ _).alloc _
 have h1:Blk W (w.heap.size+1) 25 #[F none 0 0,F none 0 0,E G 0,E G 0,N false]:=by
  rw[<-hW];have:=P0 (w.alloc (U #[F A d.fs.length c,F B d.q.length e,E G d.quota,E G d.fuse,N d.dead] 25)) 25 #[F none 0 0,F none 0 0,E G 0,E G 0,N false];rwa[xS]at this
 have HS:=I hS;have L:=I X;have Kq:=I Hx;have s:=I Y;have C:=I h0;have M:=I (Hn.ext D);have P:=I (show Blk W (w.heap.size+1) 25 (ap none 0 0 none 0 0 0 0 false)from h1);have n:=I D;go_enter func72,ntmps72
 go_wp2_with fail
 refine wp_scope_jumps 0 (ybH w f H S) (λa _=>ybd (a.tmps.getD 2 undef)) rfl ?first ?pass
 case' first=>
  go_wp2_with fail
  go_step3
 case' pass=>
  rintro a W⟨g,d,l,v,vl,A,c,B,e,S,S,S,S,S,S,S,S,S,S,S,S,S,S,S,S,S,S,S,S,S,S,rfl,X,Hx,Y,S,hD,hO,D⟩;have L:=I X;have Kq:=I Hx;have s:=I Y;have C:=I S;have M:=I hD;have P:=I hO;have n:=I D
 all_goals
  obtain⟨g,rfl⟩:∃D,g=D+1:=by
   cases g with
   |zero=>exact L.elim
   |succ g=>exact⟨g,rfl⟩
  obtain⟨KN,k,hk,Ki⟩:=L;obtain⟨D,cv,rfl,J7,D⟩:=xO s;obtain⟨_,bv,D,rfl,_⟩:=Es.at_ s KN;have hb:=C.out;unfold ap at hb;have D:=ae hb;have D:=Kq.out;have D:=I (show w.heap.size<W.heap.size from C.lt);rcases Ki with⟨Z,hs⟩|⟨d1,Z,D,D,o⟩
  ·have JU:=I hs;have Q:=I Z;go_wp2_with fail
   refine(Q _ _ _ (HS.ext n) M (P3 s n)).mono ?_;rintro V w3⟨u,rfl,z,m⟩;obtain⟨J,R,K,T,rfl⟩:=zwZ z;have h:=C.ext m;unfold ap at h;have eb:=aH h;have ec:=ae h;have D:=P.ext m;unfold ap at D;have L:=aH D;have L:=ae D;have j:=I h;have x:=I z;have p:=I D;have y:=I (xT n m);go_wp2_with fail
   all_goals first
    |(exfalso;have:=JU.out;omega)
    |skip
   all_goals simp only[Exit.jump]
   all_goals
    refine bodyPost_ret (yav _ _ (w.heap.size+1) _ _ rfl rfl (aT (eS p (by omega:w.heap.size+1≠w.heap.size) _ _ _ _ _) _ _ _ _ _) rfl) rfl ?_;first
     |exact⟨_,rfl,zwP (eS p (by omega:w.heap.size+1≠w.heap.size) _ _ _ _ _) (zwP j x _ _ _ _ _) _ _ _ _ _,aS (aS y (xN _) _ _ _ _ _) (by omega) _ _ _ _ _⟩
     | (have he:H=0:=by assumption
        subst he;exact⟨_,rfl,zwP (eS p (by omega:w.heap.size+1≠w.heap.size) _ _ _ _ _) (zwP j x _ _ _ _ _) _ _ _ _ _,aS (aS y (xN _) _ _ _ _ _) (by omega) _ _ _ _ _⟩)
  ·have Q:=I Z;have HN:=I o;go_wp2_with fail
   refine(Q _ _ _ (HS.ext n) M (P3 s n)).mono ?_;rintro V w3⟨u,rfl,z,m⟩;obtain⟨J,R,K,T,rfl⟩:=zwZ z;have h:=C.ext m;unfold ap at h;have eb:=aH h;have ec:=ae h;have j:=I h;have x:=I z;have p:=I (P.ext m);have y:=I (xT n m);have h:=I (Es.drop s k hk);have Gt:0<i l-k:=by omega
   have m:cv-k≠0:=by omega
   go_wp2_with fail
   go_step3
   first
    |exact⟨rfl,g,d1,l.drop k,_,_,J,R,K,T,_,_,_,_,_,_,_,_,_,_,_,_,_,_,_,_,_,_,_,_,_,_,rfl,HN.out,by rw[P8];omega,h.out,aT j _ _ _ _ _,zwP j x _ _ _ _ _,eS p (by omega:w.heap.size+1≠w.heap.size) _ _ _ _ _,aS y (xN _) _ _ _ _ _⟩
    |exact⟨rfl,⟨g,d1,l.drop k,_,_,J,R,K,T,_,_,_,_,_,_,_,_,_,_,_,_,_,_,_,_,_,_,_,_,_,_,rfl,HN.out,by rw[P8];omega,h.out,aT j _ _ _ _ _,zwP j x _ _ _ _ _,eS p (by omega:w.heap.size+1≠w.heap.size) _ _ _ _ _,aS y (xN _) _ _ _ _ _⟩,by simp[ybd];omega⟩
theorem zwY(h:Blk W b t cs)(f:∀(k:Nat) u,cs[k]?=J u->(∀s,u≠.string s)/\∀n,u≠E V n)(p:Addr)(u:Value)(g:p.block=b)(a:W.cell? p=J u):(∀s,u≠.string s)/\∀n,u≠E V n:=by
 subst g;unfold World.cell? at a;rw[show W.heap[p.block]?=J (U cs t (0,0))from h]at a;dsimp only at a;split at a
 ·cases a
 ·exact f _ _ a
theorem zxw(n:Int)(k:Nat)(u:Value)(h:(#[E G n]:Array Value)[k]?=J u):(∀s,u≠.string s)/\∀n,u≠E V n:=by
 match k,h with
 | 0,h=>obtain rfl:E G n=u:=by simpa using h
        exact⟨λ_ e=>(by cases e),λ_ e=>(by cases e)⟩
 |k+1,h=>simp at h
theorem yak{n:Nat}{m:Nat}{q f:Int}{d:Bool}(k:Nat)(u:Value)(h:(ap A n c B m e q f d)[k]?=J u):(∀s,u≠.string s)/\∀n,u≠E V n:=by
 rcases ng h with⟨x,rfl⟩|⟨_,_,_,rfl⟩|⟨_,rfl⟩<;>exact⟨λ_ e=>(by cases e),λ_ e=>(by cases e)⟩
theorem yab(k:Nat)(u:Value)(h:(#[F none 0 0,F none 0 0,E G 0,E G 0,N false]:Array Value)[k]?=J u):(∀s,u≠.string s)/\∀n,u≠E V n:=yak (A:=none) (n:=0) (c:=0) (B:=none) (m:=0) (e:=0) (q:=0) (f:=0) (d:=false) k u h
theorem zxp{p q:Addr}{u:Value}(h:W.cell? p=J u)(f:p.block≠q.block)(v:Value):(W.setCell q v).cell? p=J u:=by
 have a:(W.setCell q v).heap[p.block]?=W.heap[p.block]?:=Below.heap_setCell _ _ _ _ f;unfold World.cell? at h⊢;rw[a];exact h
def DkM(M:Nat->Obj->Prop)(W:World)(v:Value)(d:Dk):Prop:=∀W',(∀(p:Addr) x o,W.heap[p.block]?=J o->¬M p.block o->W.cell? p=J x->W'.cell? p=J x)->DkV W' v d
theorem DkM.of{M:Nat->Obj->Prop}{v:Value}(h:DkV W v d)(f:∀k o,M k o->∃n:Int,o=.cells #[E G n] 3 (0,0)):DkM M W v d:=λW' hk=>h.keepB λp u j i q g x hx=>by
 obtain⟨o,a,_⟩:=cells_of_cell hx;refine hk q x o a (λhm=>?_) hx;obtain⟨n,rfl⟩:=f _ _ hm;rw[g]at a;have h1:=zwY (show Blk W p.block 3 #[E G n]from a) (zxw n) p u rfl j;rcases i with⟨s,e⟩|⟨m,e⟩
 ·exact h1.1 s e
 ·exact h1.2 m e
theorem DkM.move{M:Nat->Obj->Prop}{A B:World}{v:Value}(h:DkM M A v d)(hm:∀k o,A.heap[k]?=J o->o.isCells=true->¬M k o->B.heap[k]?=J o):DkM M B v d:=λW' hk=>h W' λp x o a Kn hx=>by
 obtain⟨g,f,hc⟩:=cells_of_cell hx;obtain rfl:o=g:=by rw[a]at f;cases f;rfl
 have hb:=hm _ _ a hc Kn;exact hk p x o hb Kn ((World.cell?_of_block (hb.trans a.symm)).trans hx)
theorem zyO{P:Program}{o:Oper}{a:Act}{K:Act->World->Prop}{Q:Exit->Act->World->Prop}(x:Operand)(ty:TypeId)(g:o.op=.load ty x){d:TypeDesc}(hx:a.eval x=R (J ⟨b,0,L⟩))(hb:Blk w b t cs)(i:P.underlying ty=J d)(f:(match d with | .struct _ | .array _ _=>true | _=>false)=true)(hi:(P.info? ty).map (·.size)=J cs.size)(h:K (a.put o.dst (.agg cs)) w):Oper.wp P o a w K Q:=by
 unfold Oper.wp execOp;simp only[g,hx,Instr.loadAt,Instr.sureAddr,asAddr,Sem.run_bind,Sem.run_pure,Result.andThen_ok,hb.load i f hi];exact h
theorem zyl(tmps:Array Value)(W:World)(b a f:Nat)(cs:Array Value)(u g:Value)(h4:tmps.getD 6 undef=R (J ⟨b,0,L⟩))(h5:tmps.getD 7 undef=R (J ⟨a,0,L⟩))(k:tmps.getD 8 undef=R (J ⟨f,0,L⟩))(hb:Blk W b 25 cs)(hs:cs.size=5)(i:W.cell? ⟨a,0,L⟩=J u)(j:W.cell? ⟨f,0,L⟩=J g):(results Tryz.f73 tmps).run O W=.ok (.tuple #[.agg cs,u,g]) W:=by
 have hl:=hb.load (P:=O) em rfl (by rw[hs];kernel_rfl);have l:tmps[6]?.getD undef=R (J ⟨b,0,L⟩):=by simpa using h4
 have m:tmps[7]?.getD undef=R (J ⟨a,0,L⟩):=by simpa using h5
 have h:tmps[8]?.getD undef=R (J ⟨f,0,L⟩):=by simpa using k
 have k:(loadVar 3 ⟨a,0,L⟩).run O W=.ok u W:=by simp[go_sem,i]
 have a:(loadVar 45 ⟨f,0,L⟩).run O W=.ok g W:=by simp[go_sem,j]
 simp[results,results73,l,m,h,asAddr,hl,k,a]
attribute [local go_sem] Oper.semAt_some in
theorem zzk(v H:Value)(d:Dk)(f:Int)(l:List Ent)(n:Nat)(w:World)(Y:StW w)(hD:DkV w v d)(X:Es w H l)(hs:Sz n d)(hn:n<=90000)(hH:RdH d.now)(t:Tup)(m:Mf)(ht:b9 d.now=⟨0,t,m⟩)(Kg:cT t=true)(Hx:i t.log<=100000)(Ge:1<=i l/\i l<=1000)(Kf:cT (zxP t l)=false):
  Calls O 73 #[v,E G f,H] w λP w'=>∃u,P=.returned (.tuple #[u,E G 0,E G 2])/\DkV w' u d/\Ext w w':=by
 have Hn:=hD;obtain⟨H,H,rfl,Hl,Hm⟩:=hD;obtain⟨A,c,rfl,_,_⟩:=Fs.open_ Hl;obtain⟨B,e,rfl,_,_⟩:=Qs.open_ Hm;obtain⟨D,M,rfl,J7,_⟩:=xO X;obtain⟨W0,H,H,Gk,h0,h1,h2,h3,h4,h5⟩:=zzm w 25 3 42 25 3 45 #[F A d.fs.length c,F B d.q.length e,E G d.quota,E G d.fuse,N d.dead] #[E G f] #[F D l.length M] #[F none 0 0,F none 0 0,E G 0,E G 0,N false] #[E G 0] #[E G 0];have key:=zxz _ d n W0 (Y.ext H) (Hn.ext H) (by omega) hs hH 0 t m ht;have ea:=ae h0;have HS:=I Y;have HL:=I X;have X:=I hs;have Ky:=I Kg;have Kx:=I Kf;have K0:=I H;have H1:=I h1;have H2:=I h2;have H3:=I h3;have H4:=I h4;have H5:=I h5;have H0:=I key;refine(callsIn_wd (ro:=none) (n:=9)).1 ?_;refine callsIn_of_wp_marks func73 rfl trivial ?_ rfl;simp only[ntmps73,P6,xC,P4,Nat.reduceAdd,Nat.reduceSub,Pb,Pa,P7,P5,xI,P9];gi_wp2;refine⟨trivial,(callsIn_wd.2 H0).mono ?_⟩;rintro P s⟨u,rfl,hV,a⟩;have HV:=I hV;obtain⟨g,j,h,o,C,K,Q,cs,rfl,H,K8,Y,X⟩:=hV;have X:=I Y;have HX:=I (show DkV s (Z #[F g d.fs.length j,F h d.q.length o,E G d.quota,E G d.fuse,N d.dead]) d from⟨_,_,rfl,H,K8⟩);have S:=I (xT K0 a);have G1:=I (H1.ext a);have R:=I (H2.ext a);have G3:=I (H3.ext a);have G4:=I (H4.ext a);have z:=I (H5.ext a);have H:w.heap.size+1+1+1+1+1<s.heap.size:=by have:=a.size;omega
 have f5:=z.frozen 0;have T:=z.cell 0 rfl;have Y:=R.cell 0 rfl;have HG:=G1.cell 0 rfl;obtain⟨a,H⟩:∃W,s.alloc (U (zwO g j h o d C K t Q cs m) 178)=W:=⟨_,rfl⟩;have y:Ext s a:=by rw[<-H];exact xA (xR _) _
 have V:Blk a s.heap.size 178 (zwO g j h o d C K t Q cs m):=by rw[<-H];exact P0 s _ _
 have Q:a.cell? ⟨w.heap.size+1+1+1+1+1,0,L⟩=J (E G 0):=y.cell T;have g5:a.frozen? ⟨w.heap.size+1+1+1+1+1,0,L⟩=false:=(z.ext y).frozen 0;have Hg:=zwL Q;have Q:a.cell? ⟨w.heap.size+1+1,0,L⟩=J (F D l.length M):=y.cell Y;have Q:=V;unfold zwO at Q;obtain⟨x0,x1,x2,x3,x4,x5,x6,x7,x8,x9,HH,HI,HJ,HK,HM,HQ,HT,HU,HW⟩:=zwS Q;gi_wp2_with (refine zw9 rfl rfl (.tmp 9) (.tmp 15) 178 rfl rfl rfl (by kernel_rfl) (by rfl) (by simp[zwO,Value.oneCell']) ?_;rw[H])
 have key:=zys t Ky l (F C t.log.length K) (F D l.length M) a (P3 X y) (P3 HL (xT S y)) (by omega) (by omega);rw[Kx.out]at key;unfold bE at key;refine⟨trivial,(callsIn_wd.2 key).mono ?_⟩;rintro P w3⟨a,rfl,H⟩;have a:=xT y H;have K:=I (G1.ext a);have y:=I (R.ext a);have D:=I (G3.ext a);have y:=I (G4.ext a);have C:=I (z.ext a);have z:=I (V.ext H);have P:=I (xT S a);have H:=I (HV.ext a);have M:=I (HX.ext a);have a:s.heap.size<w3.heap.size:=z.lt;have f5:=C.frozen 0;have T:=C.cell 0 rfl;have HG:=K.cell 0 rfl;have a:=z.out;unfold zwO at a;obtain⟨x0,x1,x2,x3,x4,x5,x6,x7,x8,x9,HH,HI,HJ,HK,HM,HQ,HT,HU,HW⟩:=zwS a;simp only[Bool.false_eq_true,if_false];have a:=D.out;have s:=ae a;have s:=aH a;have a:=y.cell 0 rfl;have a:=y.frozen 0;gi_wp2;have a:w.heap.size+1+1+1≠w.heap.size+1+1+1+1+1:=by omega
 have z:w.heap.size+1+1+1≠w.heap.size+1+1+1+1:=by omega
 have s:w.heap.size+1+1+1+1≠w.heap.size+1+1+1+1+1:=by omega
 have H:=((aT (D.other a 0 (E G 2)) (F g d.fs.length j) (F h d.q.length o) (E G d.quota) (E G d.fuse) (N d.dead)).other z 0 (E G 0)).other a 0 (E G 2);have K:=((eS (y.other s 0 (E G 2)) z.symm (F g d.fs.length j) (F h d.q.length o) (E G d.quota) (E G d.fuse) (N d.dead)).set 0 (E G 0)).other s 0 (E G 2);have z:=((eS (C.set 0 (E G 2)) a.symm (F g d.fs.length j) (F h d.q.length o) (E G d.quota) (E G d.fuse) (N d.dead)).other s.symm 0 (E G 0)).set 0 (E G 2);refine fp _ (zyl _ _ (w.heap.size+1+1+1) (w.heap.size+1+1+1+1) (w.heap.size+1+1+1+1+1) _ _ _ rfl rfl rfl H rfl (K.cell 0 rfl) (z.cell 0 rfl)) ?_;refine⟨_,rfl,?_,?_⟩
 ·have z:DkN (λk=>k=w.heap.size+1+1+1\/k=w.heap.size+1+1+1+1\/k=w.heap.size+1+1+1+1+1) w3 _ d:=DkN.of M (λp u a s=>by
   rcases a with a | a | a
   ·exact zwY D yab p u a s
   ·exact zwY y (zxw 0) p u a s
   exact zwY C (zxw 0) p u a s)
  refine z _ λp x a hx=>?_;have y:p.block≠w.heap.size+1+1+1:=λe=>a (.inl e);have z:p.block≠w.heap.size+1+1+1+1:=λe=>a (.inr (.inl e));have s:p.block≠w.heap.size+1+1+1+1+1:=λe=>a (.inr (.inr e));exact zxp (zxp (nR (zxp hx s _) y _ _ _ _ _) z _) s _
 ·exact P2 (p:=⟨w.heap.size+1+1+1+1+1,0,L⟩) (P2 (p:=⟨w.heap.size+1+1+1+1,0,L⟩) (aS (P2 (p:=⟨w.heap.size+1+1+1+1+1,0,L⟩) P (by show w.heap.size<=w.heap.size+1+1+1+1+1;omega) _) (by omega) (F g d.fs.length j) (F h d.q.length o) (E G d.quota) (E G d.fuse) (N d.dead)) (by show w.heap.size<=w.heap.size+1+1+1+1;omega) _) (by show w.heap.size<=w.heap.size+1+1+1+1+1;omega) _
def PtI(f:World)(a:List Int)(X:World):Prop:=a=[]/\Ext f X
def PtX(w:World)(M:Nat->Obj->Prop)(f:Dk)(k:Nat)(a:Code)(g:List Int)(X:World):Prop:=a=Code.ret/\∃cs:Array Value,cs.size=5/\Blk X (w.heap.size+1+1+1) 25 cs/\DkM M X (.agg cs) f/\Boxed X (w.heap.size+1+1+1+1) 3 (E G k)/\Boxed X (w.heap.size+1+1+1+1+1) 45 (E G 0)/\Ext w X
attribute [local go_sem] Oper.semAt_some in
theorem zxO(v vl:Value)(d:Dk)(f:Int)(l:List Ent)(n:Nat)(w:World)(hS:StW w)(hD:DkV w v d)(hL:Es w vl l)(hs:Sz n d)(hH:RdH d.now)(t:Tup)(m:Mf)(ht:b9 d.now=⟨0,t,m⟩)(Kg:cT t=true)(r:Option (Sg4×Nat))(hr:zwT d m=r)(Ja:∀s k,r=J (s,k)->∃es,bw d.now s=J es)(k:Nat)(d2:Dk)(hA:∀(v vl:Value) (W:World),StW W->DirV W v d t m->Es W vl (l.take k)->Calls O 140 #[v,E G f,vl] W λen w'=>∃u,en=.returned (.tuple #[u,E G 0])/\DkV w' u d2/\Ext W w')(hn:n<=90000:=by decide)(Hx:t.log.length<=100000:=by decide)(Ge:1<=l.length/\l.length<=1000:=by decide)(Kf:cT (zxP t l)=true:=by kernel_rfl)(hf:f=1\/f=2:=by decide)(Gf:m.segs.length<=1000:=by decide)(hk:zxb r<=100000:=by decide)(Hq:zwW d m f=0:=by kernel_rfl)(Gb:k=min 4 l.length:=by decide):
  Calls O 73 #[v,E G f,vl] w λen w'=>∃u,en=.returned (.tuple #[u,E G k,E G 0])/\DkV w' u d2/\Ext w w':=by
 have Hn:=hD;obtain⟨vf,vq,rfl,Hl,Hm⟩:=hD;obtain⟨A,c,rfl,_,_⟩:=Fs.open_ Hl;obtain⟨B,e,rfl,_,_⟩:=Qs.open_ Hm;obtain⟨Av,cv,rfl,J7,_⟩:=xO hL;obtain⟨W0,Hi,Ha,Gk,h0,h1,h2,h3,h4,h5⟩:=zzm w 25 3 42 25 3 45 #[F A d.fs.length c,F B d.q.length e,E G d.quota,E G d.fuse,N d.dead] #[E G f] #[F Av l.length cv] #[F none 0 0,F none 0 0,E G 0,E G 0,N false] #[E G 0] #[E G 0];have key:=zxz _ d n W0 (hS.ext Ha) (Hn.ext Ha) (by omega) hs hH 0 t m ht;obtain⟨q0,q1,q2,q3,q4⟩:=ae h0;have HS:=I hS;have HL:=I hL;have KR:=I hs;have Ky:=I Kg;have Kx:=I Kf;have K0:=I Ha;have H1:=I h1;have H2:=I h2;have H3:=I h3;have H4:=I h4;have H5:=I h5;have H0:=I key;have HR:=I hr;have JM:=I Ja;have JT:=I Hq;have JF:=I hA;clear hr Ja Hq hA;clear Hn Hl Hm hS hL hs Kg Kf Ha h0 h1 h2 h3 h4 h5 key ht;refine(callsIn_wd (ro:=none) (n:=9)).1 ?_;refine callsIn_of_wp_marks Tryz.func73 rfl trivial ?_ rfl;simp only[Tryz.ntmps73,P6,xC,P4,Nat.reduceAdd,Nat.reduceSub,Pb,Pa,P7,P5,xI,P9];gi_wp2;refine⟨trivial,(callsIn_wd.2 H0).mono ?_⟩;rintro en w1⟨u,rfl,hV,H7⟩;have HV:=I hV;obtain⟨A1,c1,B1,e1,Al,cl,As,cs,rfl,K6,K8,K7,KJ⟩:=hV;have K1:=I K7;have HX:=I (show DkV w1 (Z #[F A1 d.fs.length c1,F B1 d.q.length e1,E G d.quota,E G d.fuse,N d.dead]) d from⟨_,_,rfl,K6,K8⟩);have Hr:=I (xT K0 H7);have G1:=I (H1.out.ext H7);have G2:=I (H2.out.ext H7);have G3:=I (H3.out.ext H7);have G4:=I (H4.out.ext H7);have G5:=I (H5.out.ext H7);have Gl:w.heap.size+1+1+1+1+1<w1.heap.size:=by have:=H7.size;omega
 clear Hi q0 q1 q2 q3 q4 H7 H0 K0 H1 H2 H3 H4 H5 K6 K8 K7 KJ;have f5:=G5.out.frozen 0;have c5:=G5.out.cell 0 rfl;have c2:=G2.out.cell 0 rfl;have HG:=G1.out.cell 0 rfl;obtain⟨W2,Hj⟩:∃W,w1.alloc (U (zwO A1 c1 B1 e1 d Al cl t As cs m) 178)=W:=⟨_,rfl⟩;have Hb:Ext w1 W2:=by rw[<-Hj];exact xA (xR _) _
 have h9:Blk W2 w1.heap.size 178 (zwO A1 c1 B1 e1 d Al cl t As cs m):=by rw[<-Hj];exact P0 w1 _ _
 have d5:W2.cell? ⟨w.heap.size+1+1+1+1+1,0,L⟩=J (E G 0):=Hb.cell c5;have g5:W2.frozen? ⟨w.heap.size+1+1+1+1+1,0,L⟩=false:=(G5.out.ext Hb).frozen 0;have Hg:=zwL d5;have d2:W2.cell? ⟨w.heap.size+1+1,0,L⟩=J (F Av l.length cv):=Hb.cell c2;have Hu:=h9;unfold zwO at Hu;obtain⟨x0,x1,x2,x3,x4,x5,x6,x7,x8,x9,HH,HI,HJ,HK,HM,HQ,HT,HU,HW⟩:=zwS Hu;clear Hu f5 c5 c2 HG;gi_wp2_with (refine zw9 rfl rfl (.tmp 9) (.tmp 15) 178 rfl rfl rfl (by kernel_rfl) (by rfl) (by simp[zwO,Value.oneCell']) ?_;rw[Hj])
 have key:=zys t Ky l (F Al t.log.length cl) (F Av l.length cv) W2 (P3 K1 Hb) (P3 HL (xT Hr Hb)) (by omega) (by omega);rw[Kx.out]at key;unfold bE at key;refine⟨trivial,(callsIn_wd.2 key).mono ?_⟩;clear key;rintro en w3⟨u2,rfl,H9⟩;have H8:=xT Hb H9;have J1:=I (G1.out.ext H8);have J2:=I (G2.out.ext H8);have J3:=I (G3.out.ext H8);have J4:=I (G4.out.ext H8);have J5:=I (G5.out.ext H8);have J9:=I (h9.ext H9);have JE:=I (xT Hr H8);have JV:=I (HV.out.ext H8);have JD:=I (HX.out.ext H8);have Jg:w1.heap.size<w3.heap.size:=J9.out.lt;clear d5 g5 d2 Hj Hb h9 Hg H9 H8 G1 G2 G3 G4 G5 Hr HV K1 HX x0 x1 x2 x3 x4 x5 x6 x7 x8 x9 HH HI HJ HK HM HQ HT HU HW;have f5:=J5.out.frozen 0;have c5:=J5.out.cell 0 rfl;have HG:=J1.out.cell 0 rfl;have j9:=J9.out;unfold zwO at j9;obtain⟨x0,x1,x2,x3,x4,x5,x6,x7,x8,x9,HH,HI,HJ,HK,HM,HQ,HT,HU,HW⟩:=zwS j9;clear j9;simp only[eq_self_iff_true,if_true];have KV:w3.cell? ⟨w.heap.size+1+1+1+1+1,0,L⟩=J (E G 0):=c5;have HF:=zwL KV;have JX:=J2.out.cell 0 rfl;have KU:=I J9;have key:=zxV _ d t m f n w3 (HS.out.ext JE) JV KR (by omega) Gf r HR JM hk;rw[JT.out]at key;have H0:=I key;clear key x0 x1 x2 x3 x4 x5 x6 x7 x8 x9 HH HI HJ HK HM HQ HT HU HW;have Ga:(f != 1)=false\/((f != 1)=true/\(f != 2)=false):=by
  rcases hf with rfl | rfl
  ·exact .inl rfl
  exact .inr ⟨rfl,rfl⟩
 clear hf;rcases Ga with hf1 | ⟨hf1,Hd⟩
 all_goals
  gi_wp2_with (refine zxH rfl (.tmp 9) 178 rfl rfl KU zxQ rfl (by kernel_rfl) ?_)
  refine⟨trivial,(callsIn_wd.2 H0).mono ?_⟩;rintro en w4⟨rfl,KH⟩;obtain⟨w5,KO⟩:∃X,w4.alloc (U #[E G 0] 3)=X:=⟨_,rfl⟩;have Hk:Ext w3 w5:=by rw[<-KO];exact xA KH _
  have L1:=I (J1.out.ext Hk);have L2:=I (J2.out.ext Hk);have L3:=I (J3.out.ext Hk);have L4:=I (J4.out.ext Hk);have L5:=I (J5.out.ext Hk);have L9:=I (J9.out.ext Hk);have LR:=I (show Blk w5 w4.heap.size 3 #[E G 0] by rw[<-KO];exact P0 w4 _ _);have LE:=I (xT JE Hk);have LV:=I (JV.out.ext Hk);have Gv:w1.heap.size<w4.heap.size:=Nat.lt_of_lt_of_le Jg KH.size;have l2:w5.cell? ⟨w.heap.size+1+1,0,L⟩=J (F Av l.length cv):=L2.out.cell 0 rfl;have lr:w5.cell? ⟨w4.heap.size,0,L⟩=J (E G 0):=LR.out.cell 0 rfl;have lf:w5.frozen? ⟨w4.heap.size,0,L⟩=false:=LR.out.frozen 0;have Gi:=zwL lr;clear Hk KH J1 J2 J3 J4 J5 J9 KU JE JV JD HG JX c5 f5 KV HF H0;gi_wp2_with (refine⟨trivial,?_⟩;gi_at_call 75;refine(callsIn_wd.2 (zyj 0 l.length _)).mono ?_;rintro e w6⟨rfl,Kj⟩)
  have KI:Ext w5 w6:=by rw[<-Kj];exact xA (xA (xR _) _) _
  have KZ:Boxed w6 w5.heap.size 3 (E G 0):=by
   rw[<-Kj];exact(P0 w5 3 #[E G 0]).alloc (U #[E G l.length] 3)
  have J0:Boxed w6 (w5.heap.size+1) 3 (E G l.length):=by
   rw[<-Kj];have:=P0 (w5.alloc (U #[E G 0] 3)) 3 #[E G l.length];rwa[xS]at this
  have Gx:w6.heap.size=w5.heap.size+1+1:=by rw[<-Kj];simp
  have h0:PtI w5 [] w6:=⟨rfl,KI⟩;have Gw:w4.heap.size<w5.heap.size:=LR.out.lt;have Jc:zwK 0 l.length=(k:Int)::zwN (l.length-1) 4 ((l.length:Int)-min 4 (l.length:Int)):=by
   unfold zwK;rw[if_pos (by omega:min (0:Int) 4<=0)];obtain⟨q,hq⟩:∃q,l.length=q+1:=⟨l.length-1,by omega⟩;rw[show(l.length:Int).toNat=q+1 by omega,zwN,if_pos (by omega),show l.length-1=q by omega,show min (4:Int) (l.length:Int)=(k:Int) by omega]
  have KQ:=I Jc;have JP:=I (show k<=l.length/\k<=1000 by omega);clear Jc Gb;have JG:=I KZ;have JH:=I J0;have Gm:=I KI;clear Kj KO KZ J0 KI l2 lr lf Gi;refine mB (λT hT=>?_);refine dV (n:=9) (Rp:=λ(x:Int) av _=>av = #[E G x]) (K:=PaK w5.heap.size (w5.heap.size+1)) (M:=PaK w5.heap.size (w5.heap.size+1)) (xs:=zwK 0 l.length) (gf:=141) (lb:=#[R (J ⟨w5.heap.size,0,L⟩),R (J ⟨w5.heap.size+1,0,L⟩)]) (a:=⟨T,[]⟩) (by subst hT;rfl) (enters_of Tryz.func141 (by kernel_rfl) rfl)
   ?hseq (λk o h=>h.cells) (λk o h=>h.cells) (λx av W h=>by rw[h];rfl) (PtI w5) (PtX w (PaK w5.heap.size (w5.heap.size+1)) d2 k) ?hI ?hIx h0
   (λx a' _=>a'=⟨(T.setIfInBounds 48 (E G x)).setIfInBounds 11 (E G x),[]⟩)
   (λ_ _ _ _ h _=>h) ?assign ?body ?done ?stop
  case hseq=>exact λW1 hb _=>zx3 0 l.length (by omega) _ _ (by omega) W1 (P1 JG hb) (P1 JH hb)
  case hI=>
   rintro s X Y⟨rfl,hE⟩hm;refine⟨rfl,hm.belowOf hE ?_ (xN _)⟩;rintro q o hq(⟨h | h,_⟩| h)
   ·omega
   ·omega
   have:=h.1;omega
  case hIx=>
   rintro cd s X Y⟨rfl,cs,Ka,hO,hD,hN,KF,hX⟩hm;refine⟨rfl,cs,Ka,hm.same _ _ hO ?_,hD.move (λq o ho hc Kn=>hm.same q o ho ?_),hm.boxed hN ?_,hm.boxed KF ?_,hm.belowOf hX ?_ (xN _)⟩
   ·rintro(⟨h | h,_⟩| h)
    ·omega
    ·omega
    cases h.2
   ·rintro(h | h)
    ·exact Kn h
    have:=h.2;rw[hc]at this;cases this
   ·rintro(⟨h | h,_⟩| h)
    ·omega
    ·omega
    cases h.2
   ·rintro(⟨h | h,_⟩| h)
    ·omega
    ·omega
    cases h.2
   rintro q o hq(⟨h | h,_⟩| h)
   ·omega
   ·omega
   have:=h.1;omega
  case assign=>
   rintro l' Kl x Kk W av K' hx hI Gj rfl hK;subst hT;gi_wp2;exact hK _ _ Kept.refl hI rfl
  case done=>
   rintro D W hD⟨Jd,hE⟩hK;rw[KQ.out]at Jd;cases Jd
  case stop=>
   rintro D cd Kl W hD Gg⟨rfl,cs,Ka,hO,G6,hN,KF,hX⟩hK;subst hT;gi_wp2;refine dh hK _ (zyl _ _ (w.heap.size+1+1+1) (w.heap.size+1+1+1+1) (w.heap.size+1+1+1+1+1) _ _ _ rfl rfl rfl (pM hO hK rfl _) Ka (fL hN.cell hK rfl _) (fL KF.cell hK rfl _)) ?_;exact⟨_,rfl,G6 _ (λp x o _ _ hx=>fL hx hK rfl _),cp hX (hD:=by omega) _⟩
  case body=>
   rintro l' Kl x Kk a' W hx Gu hr⟨rfl,hE⟩Gj rfl;rw[KQ.out]at hx;obtain⟨rfl,_⟩:(k:Int)=x/\_=Kk:=by simpa using hx
   subst hT;have g1:W.cell? ⟨w.heap.size+1,0,L⟩=J (E G f):=hE.cell (L1.out.cell 0 rfl);have g2:W.cell? ⟨w.heap.size+1+1,0,L⟩=J (F Av l.length cv):=hE.cell (L2.out.cell 0 rfl);have gr:W.cell? ⟨w4.heap.size,0,L⟩=J (E G 0):=hE.cell (LR.out.cell 0 rfl);have HE:=I hE;have Gn:=I hx;have Jb:=JP.out.1;have Gs:(k:Int)<=(cv:Int):=by omega
   have Gr:(0:Int)<=(k:Int):=by omega
   clear hE hx;gi_wp2;clear gr;refine sV (S:=λX=>X.cell? ⟨w.heap.size+1,0,L⟩=J (E G f)/\X.cell? ⟨w.heap.size+1+1,0,L⟩=J (F Av l.length cv)) (by kernel_rfl) (by kernel_rfl) ⟨g1,g2⟩ (λ_=>?_);refine ab 1 ?_;refine ab 2 ?_;refine ab 3 ?_;refine ab 4 ?_;refine ah 0 (λK hK=>?_);refine zyO (.tmp 9) 178 rfl rfl ((L9.out.ext HE).ext (xD (xR _))) zxQ rfl (by kernel_rfl) ?_;refine af hK _ _ ⟨g1,g2⟩ (λ_=>?_);refine ah 5 (λK hK=>?_);go_simp;have K4:Ext W W.drew:=xD (xR _);have K5:=xT HE K4;refine(JF.out _ _ _ (HS.out.ext (xT LE K5)) (LV.out.ext K5) (Es.take (P3 HL (xT LE K5)) k Jb)).mono ?_;rintro en w7⟨u7,rfl,H6,K3⟩;obtain⟨A7,c7,B7,e7,rfl⟩:=zwZ H6;have K9:=xT K5 K3;have s1:=(xT K4 K3).cell g1;have s2:=(xT K4 K3).cell g2;refine af hK _ _ ⟨s1,s2⟩ (λ_=>?_);refine ab 6 ?_;refine ab 7 ?_;refine ab 8 ?_;have M3:=L3.out.ext K9;have ea:=ae M3;have eb:=aH M3;have Kr:=I M3;have Ks:=I (L4.out.ext K9);have Kt:=I (L5.out.ext K9);have HY:=I H6;have KT:=I K9;have KP:=I (xT K4 K3);clear M3 H6 K9 K3 K4 K5;refine ah 9 (λK hK=>?_);go_simp;have KL:w.heap.size+1≠w.heap.size+1+1+1:=by omega
   have KM:w.heap.size+1+1≠w.heap.size+1+1+1:=by omega
   have Hp:w.heap.size+1+1+1+1≠w.heap.size+1+1+1:=by omega
   have Kc:w.heap.size+1+1+1+1+1≠w.heap.size+1+1+1:=by omega
   have Kd:w.heap.size+1+1+1+1+1≠w.heap.size+1+1+1+1:=by omega
   obtain⟨w8,Ko⟩:∃X,aK w7 (w.heap.size+1+1+1) (F A7 d2.fs.length c7) (F B7 d2.q.length e7) (E G d2.quota) (E G d2.fuse) (N d2.dead)=X:=⟨_,rfl⟩;have N3:=aT Kr.out (F A7 d2.fs.length c7) (F B7 d2.q.length e7) (E G d2.quota) (E G d2.fuse) (N d2.dead);have N4:=eS Ks Hp (F A7 d2.fs.length c7) (F B7 d2.q.length e7) (E G d2.quota) (E G d2.fuse) (N d2.dead);have N5:=eS Kt Kc (F A7 d2.fs.length c7) (F B7 d2.q.length e7) (E G d2.quota) (E G d2.fuse) (N d2.dead);have y1:=nR s1 KL (F A7 d2.fs.length c7) (F B7 d2.q.length e7) (E G d2.quota) (E G d2.fuse) (N d2.dead);have y2:=nR s2 KM (F A7 d2.fs.length c7) (F B7 d2.q.length e7) (E G d2.quota) (E G d2.fuse) (N d2.dead);have yE:=aS (xT LE KT) (by omega:w.heap.size<=w.heap.size+1+1+1) (F A7 d2.fs.length c7) (F B7 d2.q.length e7) (E G d2.quota) (E G d2.fuse) (N d2.dead);have hN:=DkN.of (S:=λq=>q=w.heap.size+1+1+1\/q=w.heap.size+1+1+1+1\/q=w.heap.size+1+1+1+1+1) HY (λp u hp hu=>by
    rcases hp with hp | hp | hp
    ·exact zwY Kr yab p u hp hu
    ·exact zwY Ks (zxw 0) p u hp hu
    exact zwY Kt (zxw 0) p u hp hu)
   have kp:∀X (q:Addr) v,Kept (am (PaK w5.heap.size (w5.heap.size+1)) w6.heap.size) W X->q.block<w5.heap.size->Kept (am (PaK w5.heap.size (w5.heap.size+1)) w6.heap.size) W (X.setCell q v):=λX q v h hq=>h.setCell (λo _ hc=>by
    rintro(⟨h | h,_⟩| h)
    ·omega
    ·omega
    rw[hc]at h;cases h.2) v
   have k8:Kept (am (PaK w5.heap.size (w5.heap.size+1)) w6.heap.size) W (aK w7 (w.heap.size+1+1+1) (F A7 d2.fs.length c7) (F B7 d2.q.length e7) (E G d2.quota) (E G d2.fuse) (N d2.dead)):=kp _ _ _ (kp _ _ _ (kp _ _ _ (kp _ _ _ (kp _ _ _ (Kept.refl.below KP (xN _)) (by show w.heap.size+1+1+1<w5.heap.size;omega)) (by show w.heap.size+1+1+1<w5.heap.size;omega)) (by show w.heap.size+1+1+1<w5.heap.size;omega)) (by show w.heap.size+1+1+1<w5.heap.size;omega)) (by show w.heap.size+1+1+1<w5.heap.size;omega);have KK:DkN (λq=>q=w.heap.size+1+1+1\/q=w.heap.size+1+1+1+1\/q=w.heap.size+1+1+1+1+1) (aK w7 (w.heap.size+1+1+1) (F A7 d2.fs.length c7) (F B7 d2.q.length e7) (E G d2.quota) (E G d2.fuse) (N d2.dead)) _ d2:=hN.move (λp x hp hx=>nR hx (λe=>hp (.inl e)) (F A7 d2.fs.length c7) (F B7 d2.q.length e7) (E G d2.quota) (E G d2.fuse) (N d2.dead));rw[Ko]at N4 N5 y1 y2 yE k8 KK;unfold aK at Ko;rw[Ko]at N3⊢;have Hs:=I N3;have Ku:=I N4;have Kv:=I N5;have JW:=I yE;have JN:=I k8;have JR:=I KK;have JQ:=I kp;clear N3 N4 N5 yE k8 KK hN kp Ko Kr Ks Kt HY KT KP s1 s2 ea eb;refine af hK _ _ ⟨y1,y2⟩ (λ_=>?_);have c8:w8.cell? ⟨w.heap.size+1+1+1+1+1,0,L⟩=J (E G 0):=Kv.out.cell 0 rfl;have f8:=Kv.out.frozen 0;have e8:=zwL c8;refine ah 10 (λK hK=>?_);go_simp;try rw[e8]
   refine af hK _ _ ⟨y1,y2⟩ (λ_=>?_);refine aq ?_;refine mC ?_;clear y1 y2;gi_wp2;have p0:w8.cell? ⟨w.heap.size+1+1+1,0,L⟩=J (F A7 d2.fs.length c7):=Hs.out.cell 0 rfl;have p1:w8.cell? ⟨w.heap.size+1+1+1,1,L⟩=J (F B7 d2.q.length e7):=Hs.out.cell 1 rfl;have p2:w8.cell? ⟨w.heap.size+1+1+1,2,L⟩=J (E G d2.quota):=Hs.out.cell 2 rfl;have p3:w8.cell? ⟨w.heap.size+1+1+1,3,L⟩=J (E G d2.fuse):=Hs.out.cell 3 rfl;have p4:w8.cell? ⟨w.heap.size+1+1+1,4,L⟩=J (N d2.dead):=Hs.out.cell 4 rfl;have q0:=zwL p0;have q1:=zwL p1;have q2:=zwL p2;have q3:=zwL p3;have q4:=zwL p4;have JY:=λq=>Hs.out.frozen q;refine sV (S:=λX=>X.cell? ⟨w.heap.size+1+1+1,0,L⟩=J (F A7 d2.fs.length c7)/\X.cell? ⟨w.heap.size+1+1+1,1,L⟩=J (F B7 d2.q.length e7)/\X.cell? ⟨w.heap.size+1+1+1,2,L⟩=J (E G d2.quota)/\X.cell? ⟨w.heap.size+1+1+1,3,L⟩=J (E G d2.fuse)/\X.cell? ⟨w.heap.size+1+1+1,4,L⟩=J (N d2.dead)/\X.cell? ⟨w.heap.size+1+1+1+1+1,0,L⟩=J (E G 0)) (by kernel_rfl) (by kernel_rfl) ⟨p0,p1,p2,p3,p4,c8⟩ (λ_=>?_);refine ab 0 ?_;refine ab 1 ?_;refine ab 2 ?_;refine ah 3 (λK hK=>?_);go_simp;try rw[q0,q1,q2,q3,q4]
   refine af hK _ _ ⟨p0,p1,p2,p3,p4,c8⟩ (λ_=>?_);have c4:w8.cell? ⟨w.heap.size+1+1+1+1,0,L⟩=J (E G 0):=Ku.out.cell 0 rfl;have f4:=Ku.out.frozen 0;refine ah 4 (λK hK=>?_);go_simp;have B3:=Hs.out.other Hp.symm 0 (E G k);have B4:=Ku.out.set 0 (E G k);have B5:=Kv.out.other Kd 0 (E G k);have k9:=JQ.out _ ⟨w.heap.size+1+1+1+1,0,L⟩ (E G k) JN (by show w.heap.size+1+1+1+1<w5.heap.size;omega);have KY:=JR.out.move (λp x hp hx=>zxp (q:=⟨w.heap.size+1+1+1+1,0,L⟩) hx (λe=>hp (.inr (.inl e))) (E G k));have KX:Ext w (w8.setCell ⟨w.heap.size+1+1+1+1,0,L⟩ (E G k)):=P2 (p:=⟨w.heap.size+1+1+1+1,0,L⟩) JW (by show w.heap.size<=w.heap.size+1+1+1+1;omega) _;have c9:(w8.setCell ⟨w.heap.size+1+1+1+1,0,L⟩ (E G k)).cell? ⟨w.heap.size+1+1+1+1+1,0,L⟩=J (E G 0):=B5.cell 0 rfl;have x0:=B3.cell 0 rfl;have x1:=B3.cell 1 rfl;have x2:=B3.cell 2 rfl;have x3:=B3.cell 3 rfl;have x4:=B3.cell 4 rfl;have f9:=B5.frozen 0;have JI:=I B3;have JJ:=I B4;have JK:=I B5;have JO:=I k9;have JS:=I KY;have JL:=I KX;clear B3 B4 B5 k9 KY KX p0 p1 p2 p3 p4 q0 q1 q2 q3 q4 JY c8 f8 e8 c4 f4;generalize w8.setCell ⟨w.heap.size+1+1+1+1,0,L⟩ (E G k)=w9 at *;have e9:=zwL c9;refine af hK _ _ ⟨x0,x1,x2,x3,x4,c9⟩ (λ_=>?_);refine ah 5 (λK hK=>?_);go_simp;try rw[e9]
   refine af hK _ _ ⟨x0,x1,x2,x3,x4,c9⟩ (λ_=>?_);refine aq ?_;refine mC ?_;clear x0 x1 x2 x3 x4 c9 f9 e9;gi_wp2;exact⟨JO.out.drew,rfl,_,rfl,JI.out,DkM.of (JS.out.dk.ext (xD (xR _))) (λq o h=>h.2),JJ.out,JK.out,xD JL⟩
