/- Merged -/
import Derived.Test.YteggfecbjgbndaaGreatDoorZx33
import Derived.Test.YteggfecbjgbndaaGreatDoorZx34
set_option linter.all false
set_option maxHeartbeats 8000000
set_option maxRecDepth 100000
open Go.Proofs.Tryz
open Go.Value renaming slice->F,int->G,string->N,bool->V,pointer->Y
open Go.Mv renaming aN->I
open Go.IntKind renaming i64->J,u8->Z
open Option renaming some->L,none->U
open Go.Proofs.Tryz renaming prog->O
open Go.Obj renaming cells->X
open Go.Proofs.YteggfecbjgbndaaGreatDoor.OwnX renaming base->P0
open Go.Proofs.YteggfecbjgbndaaGreatDoor.OwnQ renaming box1->P1
open Go.World renaming block_lt_of_cell?->P2,cell?_of_block->P3
open Go.Proofs.YteggfecbjgbndaaGreatDoor.OwnF renaming box1->P4
open List renaming take_succ_eq_append_getElem->P5,take_length->P6,mem_append->P7
open Go.Value renaming slice->P8
open Nat renaming le_succ->P9,le_trans->Pa,zero_le->Pb
open Go.Result renaming andThen_ok->Pc
open Go.Sem renaming run_pure->Pd,run_bind->Pe
namespace Go.Proofs.YteggfecbjgbndaaGreatDoor
open Go.RowKit Go.Mv Go.Shelf
variable {l:List Fil} {b c e:Nat} {A B:Option Addr} {u v:Value} {W:World}
theorem mcDDoa0{P:Prop}(h:P:=by
 refine ab 19 ?_;refine ab 20 ?_;refine aq ?_;clear k0 k1 k2 k3 g0 g1 g2 g3 g4;obtain⟨g0,g1,g2,g3,g4⟩:=ae H.b0;obtain⟨f0,f1,f2,f3,f4⟩:=aH H.b2;have ea:=ae H.b2;go_wp2_with fail
 refine bodyPost_ret (mY _ _ _ _ (G J 41) rfl rfl (aT H.b2 _ _ _ _ _) rfl) rfl ?_;exact⟨_,rfl,⟨_,_,_,_,rfl,P4 H.f.f H.b2,P1 (P0 H.q (by omega)) H.b2⟩,aS H.e (by omega) _ _ _ _ _⟩):P:=h
theorem mcDDoa1{P:Prop}(h:P:=by
 obtain⟨g0,g1,g2,g3,g4⟩:=ae H.b0;obtain⟨f0,f1,f2,f3,f4⟩:=aH H.b2;have ea:=ae H.b2;go_wp2_with fail
 refine bodyPost_ret (mY _ _ _ _ (G J 2) rfl rfl (aT H.b2 _ _ _ _ _) rfl) rfl ?_;exact⟨_,rfl,⟨_,_,_,_,rfl,P4 H.f.f H.b2,P1 (P0 H.q (by omega)) H.b2⟩,aS H.e (by omega) _ _ _ _ _⟩):P:=h
theorem Bf{α:Type}{f:Nat}{E:World->(Nat->Option Value)->α->Prop}(i:zec f E){o:Oper}{a:Act}{w:World}{K:Act->World->Prop}{Q:Exit->Act->World->Prop}(s x:Operand)(T:TypeId)(ho:o.op=.call { callee:=.builtin .append,args:=#[s,x],argTypes:=#[T,T] })(t:TypeId)(n:TypeInfo)(z:Value)(bytes:Nat)(V:Tryz.prog.underlying T=L (.slice t))(hi:Tryz.prog.info? t=L n)(I:n.zero=L z)(J:n.size=f)(M:n.bytes=bytes)(JH:z.cells.size=f)(Kd:0<f)(Z:bytes<=1000)(base:Nat)(v:Value)(l:List α)(hs:a.eval s=v)(Ky:OwnX f E t w base v l)(vx:Value)(m:List α)(q:List Value)(hx:a.eval x=vx)(X:SlR w f vx m.length q)(r:RowOf f E w q m)(G:0<m.length)(N:∀g,v.ownBlock=L g->∀u∈q,bF g u)(z:l.length+m.length<=4000000)(Y:base<=w.heap.size)(h:∀A c w',OwnX f E t w' base (F A (l.length+m.length) c) (l++m)->eP base w w'->w.grownBy w' v.ownBlock->K (a.put o.dst (F A (l.length+m.length) c)) w'):Oper.wp O o a w K Q:=by
 obtain⟨xs,h1,h2,h3⟩:=Ky;have R:(l.length+m.length)*bytes<=140737488355328:=Pa (Nat.mul_le_mul z Z) (by decide);obtain⟨z,w',H,S,C⟩:=ep (P:=O) w base T o.type t n _ f bytes V hi I J M JH Kd v l.length xs h1 vx m.length q X (r.one i) (by unfold maxLen;omega) R Y;have Ku:z.ownBlock=v.ownBlock\/z.ownBlock=L w.heap.size:=by
  obtain⟨hl,A,c,rfl,_,_,hc⟩:=X;obtain⟨b,y,rfl,z⟩:=hc G;have Q:∀j,(⟨b,y,U⟩:Addr).add j=⟨b,y+j,U⟩:=by intro j;unfold Addr.add;split<;>simp_all
  exact mn (P:=O) w base T o.type t n _ f bytes V hi I J M v l.length xs h1 ⟨b,y,U⟩ m.length c q hl G (λj u d=>by rw[Q];exact z j u d) (r.one i) (by unfold maxLen;omega) R H
 have Hk:∀ {n:List Value} {k:List α},RowOf f E w n k->(∀g,v.ownBlock=L g->∀u∈n,bF g u)->RowOf f E w' n k:=by
  intro n k D Jz;cases hg:v.ownBlock with
  |none=>
   refine D.keep i (D.fresh i) λp y hc _=>?_;exact(P3 (C.block _ (P2 _ _ hc) (by rw[hg];simp))).trans hc
  |some g=>
   refine D.keep i (Jz g hg) λp y hc H3=>?_;exact(P3 (C.block _ (P2 _ _ hc) (by rw[hg];simpa using H3))).trans hc
 unfold Oper.wp execOp;simp only[ho,resolve,invoke,builtin,Pe,Pd,Pc,List.map_toArray,List.map_cons,List.map_nil,hs,hx,H];obtain⟨A,c,rfl,_,_⟩:=xO (xW S);refine h A c w' ⟨xs++q,?_,(Hk h2 h3).append (Hk r N),λg hg u d=>?_⟩ (λf f hb=>Ext.grownOwn f (ay h1 hb) C) C
 ·rw[xL];exact S
 ·rcases Ku with hb | hb
  ·rw[hb]at hg;rcases P7.1 d with d | d
   ·exact h3 g hg u d
   exact N g hg u d
  ·rw[hb]at hg;cases hg;rcases P7.1 d with d | d
   ·exact h2.fresh i u d
   ·exact r.fresh i u d
theorem mY(tmps:Array Value)(W:World)(b:Nat)(cs:Array Value)(e:Value)(h4:tmps.getD 4 undef=Y (L ⟨b,0,U⟩))(h3:tmps.getD 5 undef=e)(hb:Blk W b 25 cs)(hs:cs.size=5):(results Tryz.f108 tmps).run O W=.ok (.tuple #[.agg cs,e]) W:=by
 have a:tmps[4]?.getD undef=Y (L ⟨b,0,U⟩):=by simpa using h4
 have Kn:tmps[5]?.getD undef=e:=by simpa using h3
 have hl:=hb.load (P:=O) em rfl (by rw[hs];kernel_rfl);simp[results,results108,a,Kn,asAddr,hl,Pe,Pd,Pc]
theorem NE(d:Dk)(n:List UInt8):ak n (bD d.fs d.q)=ak n d.now:=((rk d.fs d.q).g n).symm
theorem o4{d:Dk}{o:Oq}{m:Int}(h:d.may=m)(hm:m≠0):d.doS o=(d,m):=by
 subst h;unfold Dk.doS;rw[if_pos hm]
theorem lN{j:Nat}{t:TypeId}{cs:Array Value}{x:Value}{bs:List UInt8}(h:Bs W u bs)(d:Blk W b t cs)(a:∀(k:Nat) (n:Int),cs[k]?≠some (G Z n)):Bs (W.setCell ⟨b,j,U⟩ x) u bs:=
 Bs.away h (Bs.awayBlk h d a) λ_ _ hc H3=>eG hc H3
theorem BF{A':Option Addr}{n n' c':Nat}{B':Option Addr}{m m' e':Nat}{q f q' f':Int}{d d':Bool}{bs:List UInt8}(h:Bs W u bs)(j:Blk W b 25 (ap A n c B m e q f d)):
  Bs (aK W b (F A' n' c') (F B' m' e') (G J q') (G J f') (V d')) u bs:=by
 have a:Blk _ b 25 (ap A' n' c' B m e q f d):=j.set 0 (F A' n' c');have g:Blk _ b 25 (ap A' n' c' B' m' e' q f d):=a.set 1 (F B' m' e');have i:Blk _ b 25 (ap A' n' c' B' m' e' q' f d):=g.set 2 (G J q');have k:Blk _ b 25 (ap A' n' c' B' m' e' q' f' d):=i.set 3 (G J f');exact lN (lN (lN (lN (lN h j aQ) a aQ) g aQ) i aQ) k aQ
theorem OwnFA.grown{W':World}{base:Nat}{row:Option Nat}(h:OwnFA W base v l (λg=>row=L g))(hg:W.grownBy W' row)(H3:v.ownBlock=none\/v.ownBlock≠row):OwnF W' base v l:=by
 obtain⟨xs,h1,h2,h3,h4⟩:=h;refine⟨xs,h1.kept hg H3,?_,h3⟩;cases row with
 |none=>exact h2.keep dz (h2.fresh dz) λp x hc _=>(P3 (hg.block _ (P2 _ _ hc) (by simp))).trans hc
 |some g=>exact h2.keep dz (h4 g rfl) λp x hc H3=>(P3 (hg.block _ (P2 _ _ hc) (by simpa using H3))).trans hc
structure DoB (w W:World) (A:Option Addr) (c:Nat) (B:Option Addr) (e:Nat) (d:Dk) (vo:Value) (o:Oq):Prop where
 b0:Blk W w.heap.size 25 (ap A d.fs.length c B d.q.length e d.quota d.fuse d.dead)
 b1:Blk W (w.heap.size+1) 98 #[G Z o.k,N ⟨o.n.toArray⟩,N ⟨o.t.toArray⟩,vo]
 b2:Blk W (w.heap.size+1+1) 25 (ap none 0 0 none 0 0 0 0 false)
 f:OwnFA W w.heap.size (F A d.fs.length c) d.fs (fun g=>(P8 B d.q.length e).ownBlock=L g)
 q:OwnQ W (w.heap.size+3) (F B d.q.length e) d.q
 b:Bs W vo o.b
 e:Ext w W
theorem DoB.ext{w W':World}{d:Dk}{g:Value}{o:Oq}(h:DoB w W A c B e d g o)(a:Ext W W'):DoB w W' A c B e d g o:=
 ⟨h.b0.ext a,h.b1.ext a,h.b2.ext a,h.f.ext a,OwnX.ext dy h.q a,h.b.ext a,xT h.e a⟩
theorem Ow(v:Value)(d:Dk)(n:Nat)(o:Oq)(vo:Value)(w:World)(hD:DkV w v d)(hn:n<=1000000)(hs:Sz n d)(hB:Bs w vo o.b)(J0:o.b.length<=1000000):
  Calls O 108 #[v,.agg #[G Z o.k,sv o.n,sv o.t,vo]] w λe w'=>∃u,e=.returned (.tuple #[u,G J (d.doS o).2])/\OwnD w' w.heap.size u (d.doS o).1/\Ext w w':=by
 obtain⟨vf,vq,rfl,hF,hQ⟩:=hD;obtain⟨A,c,rfl,_,_⟩:=Fs.open_ hF;obtain⟨B,e2,rfl,_,_⟩:=Qs.open_ hQ;obtain⟨C,Q,rfl,_,_⟩:=xO hB;simp only[sv]at *;obtain⟨W0,Hd⟩:∃W0,((w.alloc (X #[F A d.fs.length c,F B d.q.length e2,G J d.quota,G J d.fuse,V d.dead] 25)).alloc (X #[G Z o.k,N ⟨o.n.toArray⟩,N ⟨o.t.toArray⟩,F C o.b.length Q] 98)).alloc (X #[F none 0 0,F none 0 0,G J 0,G J 0,V false] 25)=W0:=⟨_,rfl⟩;have Hb:Ext w W0:=by rw[<-Hd];exact xA (xA (xA (xR _) _) _) _
 have h0:Blk W0 w.heap.size 25 (ap A d.fs.length c B d.q.length e2 d.quota d.fuse d.dead):=by rw[<-Hd];exact((Blk.new w _ _).alloc _).alloc _
 have h1:Blk W0 (w.heap.size+1) 98 #[G Z o.k,N ⟨o.n.toArray⟩,N ⟨o.t.toArray⟩,F C o.b.length Q]:=by
  rw[<-Hd];have:=(Blk.new (w.alloc (X #[F A d.fs.length c,F B d.q.length e2,G J d.quota,G J d.fuse,V d.dead] 25)) 98 #[G Z o.k,N ⟨o.n.toArray⟩,N ⟨o.t.toArray⟩,F C o.b.length Q]).alloc (X #[F none 0 0,F none 0 0,G J 0,G J 0,V false] 25);rwa[xS]at this
 have h2:Blk W0 (w.heap.size+1+1) 25 (ap none 0 0 none 0 0 0 0 false):=by
  rw[<-Hd];have:=Blk.new ((w.alloc (X #[F A d.fs.length c,F B d.q.length e2,G J d.quota,G J d.fuse,V d.dead] 25)).alloc (X #[G Z o.k,N ⟨o.n.toArray⟩,N ⟨o.t.toArray⟩,F C o.b.length Q] 98)) 25 #[F none 0 0,F none 0 0,G J 0,G J 0,V false];rwa[xS,xS]at this
 have Hj:=I Hb;have H0:=I h0;have H1:=I h1;have H2:=I h2;have HB:=I (hB.ext Hb);have HC:=I (nz _ d n _ (show DkV W0 _ d from⟨_,_,rfl,hF.ext Hb,hQ.ext Hb⟩) hn hs);clear h1 h2 hF hQ hB Hb;obtain⟨g0,g1,g2,g3,g4⟩:=ae h0;clear h0;have HZ:=I hs;obtain⟨S,hS⟩:∃S,d.doS o=S:=⟨_,rfl⟩;rw[hS];have s:=I hS;have Ki:=I J0;clear hs hS J0;go_enter func108,ntmps108
 go_wp2_with fail;clear g0 g1 g2 g3 g4;refine HC.mono ?_;rintro e w1⟨u,rfl,⟨A3,c3,Y,e3,rfl,of,oq⟩,Hc⟩;have Ho:=H0.ext Hc;obtain⟨g0,g1,g2,g3,g4⟩:=ae Ho;obtain⟨f0,f1,f2,f3,f4⟩:=aH Ho;have H3:w.heap.size+1≠w.heap.size:=by omega
 have H4:w.heap.size+1+1≠w.heap.size:=by omega
 have KI:DoB w (aK w1 w.heap.size (F A3 d.fs.length c3) (F Y d.q.length e3) (G J d.quota) (G J d.fuse) (V d.dead)) A3 c3 Y e3 d (F C o.b.length Q) o:=
  ⟨aT Ho _ _ _ _ _,(((((H1.ext Hc).other H3 0 _).other H3 1 _).other H3 2 _).other H3 3 _).other H3 4 _,(((((H2.ext Hc).other H4 0 _).other H4 1 _).other H4 2 _).other H4 3 _).other H4 4 _,
    OwnFA.box1 (of.base Hj.size) Ho,P1 (P0 oq (by rw[<-Hd];simp only[xS];omega)) Ho,BF (HB.ext Hc) Ho,aS (xT Hj Hc) (xN _) _ _ _ _ _⟩
 have H:=I KI;clear Ho H3 H4 KI of oq Hc HC Hj H0 H1 H2 HB;go_wp2_with fail;clear f0 f1 f2 f3 f4 g0 g1 g2 g3 g4;refine(BS _ d n _ (show DkV _ _ d from⟨_,_,rfl,H.f.f.fs,H.q.qs⟩) hn HZ).mono ?_;rintro e w2⟨rfl,H9⟩;replace H:=I (H.ext H9);clear H9;rcases zQ d with hm | hm | hm
 case inr.inl=>
  have m:S=(d,2):=by rw[<-s.out];exact o4 hm (by decide)
  subst m;rw[hm];clear s;exact mcDDoa1
 case inr.inr=>
  have m:S=(d,40):=by rw[<-s.out];exact o4 hm (by decide)
  subst m;rw[hm];clear s;obtain⟨g0,g1,g2,g3,g4⟩:=ae H.b0;obtain⟨f0,f1,f2,f3,f4⟩:=aH H.b2;have ea:=ae H.b2;go_wp2_with fail
  refine bodyPost_ret (mY _ _ _ _ (G J 40) rfl rfl (aT H.b2 _ _ _ _ _) rfl) rfl ?_;exact⟨_,rfl,⟨_,_,_,_,rfl,P4 H.f.f H.b2,P1 (P0 H.q (by omega)) H.b2⟩,aS H.e (by omega) _ _ _ _ _⟩
 have HM:=I hm;rw[hm];clear hm;obtain⟨g0,g1,g2,g3,g4⟩:=ae H.b0;go_wp2_with fail;clear g0 g1 g2 g3 g4;refine(rM _ d _ (show DkV _ _ d from⟨_,_,rfl,H.f.f.fs,H.q.qs⟩) (by have:=HZ.l;omega) (by have:=HZ.l;omega) (by have:=HZ.t;omega)).mono ?_;rintro e w3⟨r,rfl,KZ,_,KJ⟩;replace H:=I (H.ext KJ);have Hy:=I KZ;clear KJ KZ;obtain⟨k0,k1,k2,k3⟩:=blk4 H.b1;obtain⟨is,KU⟩:∃is,(ak o.n (bD d.fs d.q)).isSome=is:=⟨_,rfl⟩;have HI:=I KU;clear KU;go_wp2_with (at_lookup;refine nJ rfl (.tmp 21) (.tmp 23) true rfl underlying142 underlying9 (nq _) r (bD d.fs d.q) rfl Hy o.n rfl ?_;rw[HI.out];intro A1 c1 Hv;simp only[if_true];clear Hv;obtain⟨v1,J4⟩:∃v1,P8 A1 ((ak o.n (bD d.fs d.q)).getD []).length c1=v1:=⟨_,rfl⟩;rw[J4];clear J4)
 refine(yT o _ w3 H.b).mono ?_;rintro e w4⟨rfl,Hu⟩;clear k0 k1 k2 k3;replace H:=I (H.ext Hu);replace Hy:=I (Hy.ext Hu);clear Hu;cases M:bO o with
 |false=>
  have m:S=(d,2):=by rw[<-s.out];unfold Dk.doS;rw[if_neg (by rw[HM.out];simp),if_pos M]
  subst m;clear s M;exact mcDDoa1
 |true=>
 have HF:=I M;clear M;obtain⟨k0,k1,k2,k3⟩:=blk4 H.b1;have K9:ak o.n (bD d.fs d.q)=ak o.n d.now:=NE d o.n;by_cases E:o.k≠1/\is=false
 case pos=>
  obtain⟨E,rfl⟩:=E;have m:S=(d,42):=by rw[<-s.out];unfold Dk.doS;rw[if_neg (by rw[HM.out];simp),if_neg (by rw[HF.out];simp),if_pos ⟨by rw[<-K9];simpa using HI.out,E⟩]
  subst m;have JD:(o.k==1)=false:=by simpa using E
  have JE:(o.k != 1)=true:=by simpa using E
  clear s E K9;obtain⟨g0,g1,g2,g3,g4⟩:=ae H.b0;obtain⟨f0,f1,f2,f3,f4⟩:=aH H.b2;have ea:=ae H.b2;go_wp2_with fail
  refine bodyPost_ret (mY _ _ _ _ (G J 42) rfl rfl (aT H.b2 _ _ _ _ _) rfl) rfl ?_;exact⟨_,rfl,⟨_,_,_,_,rfl,P4 H.f.f H.b2,P1 (P0 H.q (by omega)) H.b2⟩,aS H.e (by omega) _ _ _ _ _⟩
 have HN:=I (show ¬(ak o.n d.now=none/\o.k≠1)from λh=>E ⟨h.2,by rw[<-HI.out,K9,h.1];rfl⟩);have HK:is=true\/is=false/\(o.k==1)=true/\(o.k != 1)=false:=by
  cases is with
  |true=>exact .inl rfl
  |false=>
   have:o.k=1:=Classical.not_not.1 λh=>E ⟨h,rfl⟩;exact .inr ⟨rfl,by simp[this],by simp[this]⟩
 clear E K9;have Ht:Hid (S=if(o.k=2/\d.quota<(tot (bD d.fs d.q):Int)+(o.b.length:Int))\/d.q.length=400 then(d,41)else({ d with q:=d.q++[o] }.burn,0)):=
  I (by rw[<-s.out];unfold Dk.doS;rw[if_neg (by rw[HM.out];simp),if_neg (by rw[HF.out];simp),if_neg HN,show tot d.now=tot (bD d.fs d.q)from oW d.fs d.q])
 have E:=mT d.fs d.q;have HT:=I (show tot (bD d.fs d.q)<=2000000 by have:=HZ.t;omega);have hw:IntKind.i64.wrap ((tot (bD d.fs d.q):Int)+(o.b.length:Int))=(tot (bD d.fs d.q):Int)+(o.b.length:Int):=by have:=HT.out;have:=Ki.out;rw[IntKind.wrap_i64];omega
 clear s HN HF HM HI E;obtain⟨g0,g1,g2,g3,g4⟩:=ae H.b0;rcases HK with rfl | ⟨rfl,JD,JE⟩
 all_goals
  go_wp2_with fail
  refine wp_region_held_drew (S:=λW=>W.cell? ⟨w.heap.size+1,0,U⟩=L (G Z o.k)/\W.cell? ⟨w.heap.size+1,3,U⟩=L (F C o.b.length Q)/\W.cell? ⟨w.heap.size,1,U⟩=L (F Y d.q.length e3)/\W.cell? ⟨w.heap.size,2,U⟩=L (G J d.quota)) (by kernel_rfl) ⟨k0,k3,g1,g2⟩ (λ_=>?_);by_cases s:o.k=2
  case' neg=>
   have KV:(o.k==2)=false:=by simpa using s
   refine ab 0 ?_;refine ab 1 ?_;refine ab 2 ?_;refine ab 3 ?_;refine ag 4 ?_;refine ag 5 ?_;refine ag 6 ?_;refine ag 7 ?_;refine ag 8 ?_;refine ag 9 ?_;refine ag 10 ?_;refine ag 11 ?_;refine ag 12 ?_;refine ab 13 ?_;refine ab 14 ?_;refine ab 15 ?_;refine ab 16 ?_;refine ab 17 ?_;obtain⟨E,J5⟩:∃E,w4.drew=E:=⟨_,rfl⟩;replace H:=I (show DoB w E A3 c3 Y e3 d (F C o.b.length Q) o by rw[<-J5];exact H.ext (xD (xR _)));have Hz:=I (show S=if d.q.length=400 then(d,41)else({ d with q:=d.q++[o] }.burn,0) by rw[Ht.out];simp[s]);clear s
  case' pos=>
   have KV:(o.k==2)=true:=by simpa using s
   have Jv:=I s;clear s;refine ab 0 ?_;refine ab 1 ?_;refine ab 2 ?_;refine ab 3 ?_;refine ab 4 ?_;refine ab 6 ?_;refine ab 7 ?_;refine ab 8 ?_;refine ab 10 ?_;refine ab 11 ?_;refine ah 5 (λK a=>?_);go_simp;refine(Bc r _ _ (Hy.ext (xD (xR _))) (by have:=HT.out;omega)).mono ?_;rintro e E⟨rfl,s⟩;replace H:=I (H.ext (xT (xD (xR _)) s));clear s k0 k1 k2 k3 g0 g1 g2 g3 g4;obtain⟨k0,k1,k2,k3⟩:=blk4 H.b1;obtain⟨g0,g1,g2,g3,g4⟩:=ae H.b0;refine af a _ _ ⟨k0,k3,g1,g2⟩ (λ_=>?_);refine ab 9 ?_;by_cases P:d.quota<(tot (bD d.fs d.q):Int)+(o.b.length:Int)
   case pos=>
    have Kx:decide (d.quota<(tot (bD d.fs d.q):Int)+(o.b.length:Int))=true:=by simpa using P
    have m:S=(d,41):=by rw[Ht.out,if_pos (.inl ⟨Jv.out,P⟩)]
    subst m;refine ab 12 ?_;refine ab 13 ?_;refine ab 14 ?_;refine ag 15 ?_;refine ag 16 ?_;refine ag 17 ?_;refine ag 18 ?_;exact mcDDoa0
   have Kx:decide (d.quota<(tot (bD d.fs d.q):Int)+(o.b.length:Int))=false:=by simpa using P
   refine ab 12 ?_;refine ab 13 ?_;refine ab 14 ?_;refine ab 15 ?_;refine ab 16 ?_;refine ab 17 ?_;have Hz:=I (show S=if d.q.length=400 then(d,41)else({ d with q:=d.q++[o] }.burn,0) by rw[Ht.out];simp[P])
 all_goals
  clear Ht KV Hy;by_cases y:d.q.length=400
  case pos=>
   have J1:(((d.q.length:Nat):Int)==400)=true:=by simp;omega
   have m:S=(d,41):=by rw[Hz.out,if_pos y]
   subst m;clear Hz y;refine ab 18 ?_;exact mcDDoa0
  have J1:(((d.q.length:Nat):Int)==400)=false:=by simp;omega
  have s:=I y;have m:S=({ d with q:=d.q++[o] }.burn,0):=by rw[Hz.out,if_neg y]
  subst m;clear Hz y;refine ab 18 ?_;refine ab 19 ?_;refine ab 20 ?_;refine aq ?_;try rw[J5]
  clear J1 k0 k1 k2 k3 g0 g1 g2 g3 g4;obtain⟨k0,k1,k2,k3⟩:=blk4 H.b1;obtain⟨g0,g1,g2,g3,g4⟩:=ae H.b0;go_wp2_with fail
 all_goals
  refine wp_region_held_drew (S:=λW=>W.cell? ⟨w.heap.size+1,0,U⟩=L (G Z o.k)/\W.cell? ⟨w.heap.size+1,1,U⟩=L (N ⟨o.n.toArray⟩)/\W.cell? ⟨w.heap.size+1,2,U⟩=L (N ⟨o.t.toArray⟩)/\W.cell? ⟨w.heap.size+1,3,U⟩=L (F C o.b.length Q)) (by kernel_rfl) ⟨k0,k1,k2,k3⟩ (λ_=>?_);refine ab 0 ?_;refine ab 2 ?_;refine AllReadyH.two (i:=1) (j:=3) rfl rfl (by kernel_rfl) (by rfl) (by rfl) (λK a=>?_) (λK a=>?_);go_simp;refine af a _ _ ⟨k0,k1,k2,k3⟩ (λ_=>?_);refine ah 3 (λK a=>?_);go_simp;refine(su o _ _ (H.b.ext (xD (xR _))) (by have:=Ki.out;omega)).mono ?_;rintro e w6⟨R,c6,rfl,HY,HH⟩;have Kg:=I HY;replace H:=I (H.ext (xT (xD (xR _)) HH));clear HH HY k0 k1 k2 k3 g0 g1 g2 g3 g4;obtain⟨k0,k1,k2,k3⟩:=blk4 H.b1;refine af a _ _ ⟨k0,k1,k2,k3⟩ (λ_=>?_);refine ah 4 (λK a=>?_);go_simp;refine af a _ _ (blk4 (H.b1.alloc _)) (λ_=>?_);rotate_left
  go_simp;refine(su o _ _ (H.b.ext (xD (xR _))) (by have:=Ki.out;omega)).mono ?_;rintro e w6⟨R,c6,rfl,HY,HH⟩;have Kg:=I HY;replace H:=I (H.ext (xT (xD (xR _)) HH));clear HH HY k0 k1 k2 k3 g0 g1 g2 g3 g4;obtain⟨k0,k1,k2,k3⟩:=blk4 H.b1;obtain⟨g0,g1,g2,g3,g4⟩:=ae H.b0;refine af a _ _ ⟨k0,k1,k2,k3⟩ (λ_=>?_);refine AllReadyH.two (i:=1) (j:=4) rfl rfl (by kernel_rfl) (by rfl) (by rfl) (λK a=>?_) (λK a=>?_);go_simp;refine af a _ _ ⟨k0,k1,k2,k3⟩ (λ_=>?_);refine ah 4 (λK a=>?_);go_simp;refine af a _ _ (blk4 (H.b1.alloc _)) (λ_=>?_);rotate_left
  go_simp;refine af a _ _ (blk4 (H.b1.alloc _)) (λ_=>?_);have m:(w6.alloc (X #[G Z o.k,sv o.n,sv o.t,F R o.b.length c6] 98)).cell? ⟨w.heap.size,1,U⟩=L (F Y d.q.length e3):=(H.b0.alloc _).cell 1 rfl;refine ah 1 (λK a=>?_);go_simp;refine af a _ _ (blk4 (H.b1.alloc _)) (λ_=>?_);rotate_left
 all_goals
  clear k0 k1 k2 k3;try clear g0 g1 g2 g3 g4
  try clear m
  have Ks:Ext w6 (w6.alloc (X #[G Z o.k,sv o.n,sv o.t,F R o.b.length c6] 98)):=xA (xR _) _;have J2:=fu w6 [G Z o.k,sv o.n,sv o.t,F R o.b.length c6] 98 4 rfl;have Hs:=ip (o:=o) (Bs.ext Kg.bs Ks);have z:=H.ext Ks;have KN:∀g,(P8 Y d.q.length e3).ownBlock=L g->∀y∈[G Z o.k,sv o.n,sv o.t,F R o.b.length c6],bF g y:=by
   intro g hg y m;obtain⟨_,cs,JB⟩:=ee H.q hg;simp only[List.mem_cons,List.not_mem_nil,or_false]at m;rcases m with rfl | rfl | rfl | rfl
   ·exact iP _ _ _
   ·exact da _ _
   ·exact da _ _
   exact OwnB.awayT Kg JB (by decide)
  obtain⟨i0,hi,K4,K5,K6⟩:=info_parts mR;have KY:d.q.length+1<=4000000:=by have:=HZ.l;omega
  have Kd:w.heap.size+3<=(w6.alloc (X #[G Z o.k,sv o.n,sv o.t,F R o.b.length c6] 98)).heap.size:=by have:=z.b2.lt;omega
  refine ah 5 (λK a=>?_);refine Bf dy (.tmp 64) (.tmp 67) 23 rfl 98 i0 _ 64 underlying23 hi K4 K5 K6 rfl (by decide) (by decide) (w.heap.size+3) _ d.q rfl z.q _ [o] [G Z o.k,sv o.n,sv o.t,F R o.b.length c6] rfl J2 Hs (by simp) KN (by simpa using KY) Kd ?_;intro T c7 w7 Ka KM HW;have Hh:d.q.length+[o].length=(d.q++[o]).length:=by simp
  rw[Hh]at Ka⊢;obtain⟨D,K0⟩:∃D,d.q++[o]=D:=⟨_,rfl⟩;rw[K0]at Ka⊢;have Hi:∀b,b<w.heap.size+3->some b≠(P8 Y d.q.length e3).ownBlock:=λb hb e=>by have:=(ee z.q e.symm).1;omega
  have b0:=z.b0.kept HW (Hi _ (by omega));have b1:=z.b1.kept HW (Hi _ (by omega));have b2:=z.b2.kept HW (Hi _ (by omega));have KR:OwnF w7 w.heap.size (F A3 d.fs.length c3) d.fs:=OwnFA.grown z.f HW (by
   cases hf:(P8 A3 d.fs.length c3).ownBlock with
   |none=>exact .inl rfl
   |some g=>
    refine .inr λe=>?_;obtain⟨_,cs,h1⟩:=ee z.q e.symm;obtain⟨_,m,h2⟩:=ee z.f.f hf;rw[h1]at h2;cases h2)
  have m:Ext w w7:=KM w z.e (by omega);have s:Blk _ w.heap.size 25 (ap A3 d.fs.length c3 T D.length c7 d.quota d.fuse d.dead):=Blk.set (b:=w.heap.size) b0 1 (F T D.length c7);have H3:w.heap.size+1≠w.heap.size:=by omega
  have H4:w.heap.size+1+1≠w.heap.size:=by omega
  have B1:=I (b1.other H3 1 (F T D.length c7));have B2:=I (b2.other H4 1 (F T D.length c7));have OF:=I (OwnF.setD (j:=1) (u:=F T D.length c7) KR (by decide) b0 aQ);have OQ:=I (OwnQ.setD (j:=1) (u:=F T D.length c7) (P0 Ka (show w.heap.size<=_ by omega)) (by decide) b0 aQ);have OE:=I (Below.setCell (p:=⟨w.heap.size,1,U⟩) m (xN _) (F T D.length c7));have C0:=I s;refine af a _ _ (blk4 b1) (λ_=>?_);refine ab 6 ?_;have g1:=b0.cell 1 rfl;have f1:=b0.frozen 1;clear b0 b1 b2 s KR m Ka KM HW Hi Hh KN J2 Hs z Ks H KY Kd hi K4 K5 K6 i0 H3 H4;refine ah 7 (λK a=>?_);go_simp;refine af a _ _ (blk4 B1) (λ_=>?_);refine aq ?_;clear g1 f1;go_wp2_with fail
  refine(AV w.heap.size _ _ d.quota d.fuse d.dead _ C0 HZ.f).mono ?_;rintro e a⟨rfl,z⟩;obtain⟨Hv,m,s,y,Hq⟩:=Am (d:={ d with q:=D }) C0 OF OQ;rw[z]at Hv m s y Hq;have a:=y _ _ _ (show w.heap.size+1+1≠w.heap.size by omega) B2;have Hu:=Hq _ OE (xN _);obtain⟨E,HP⟩:∃x,({ d with q:=D }:Dk).burn=x:=⟨_,rfl⟩;rw[HP]at Hv m s;have D:=I HP;have E:=I K0;clear HP K0;obtain⟨g0,g1,g2,g3,g4⟩:=ae Hv;obtain⟨f0,f1,f2,f3,f4⟩:=aH a;have ea:=ae a;have Q1:=I a;have Q2:=I m;have Q3:=I s;have Q4:=I Hu;clear Hv a m s y Hq Hu C0 OF OQ B1 B2 OE z;go_wp2_with fail
  refine bodyPost_ret (mY _ _ _ _ (G J 0) rfl rfl (aT Q1 _ _ _ _ _) rfl) rfl ?_;have HP:=D.out;have K0:=E.out;subst HP;subst K0;exact⟨_,rfl,⟨_,_,_,_,rfl,P4 Q2 Q1,P1 Q3 Q1⟩,aS Q4 (by omega) _ _ _ _ _⟩
theorem Qs.setD{j:Nat}{t:TypeId}{cs:Array Value}{l:List Oq}(h:Qs W v l)(f:Blk W b t cs)(a:∀(k:Nat) (n:Int),cs[k]?≠some (G Z n)):Qs (W.setCell ⟨b,j,U⟩ u) v l:=by
 obtain⟨xs,h1,h2⟩:=h;obtain⟨hl,A,c,rfl,m,o,p⟩:=h1;refine⟨xs,⟨hl,A,c,rfl,m,o,λhn=>?_⟩,h2.keep dy (zZ h2 f a) λ_ _ hc m=>eG hc m⟩;obtain⟨d,g,rfl,hc⟩:=p hn;have m:=(h2.2 0 hn).1;have i:xs[0]?=L (G Z l[0].k):=by simpa using m
 have H3:d≠b:=by
  rintro rfl;have:=hc 0 _ i;exact a _ _ (rI f this)
 exact⟨d,g,rfl,λj u a=>eG (hc j u a) H3⟩
theorem Qs.box1{A':Option Addr}{n n' c':Nat}{B':Option Addr}{m m' e':Nat}{q f q' f':Int}{d d':Bool}{l:List Oq}(h:Qs W v l)(j:Blk W b 25 (ap A n c B m e q f d)):
  Qs (aK W b (F A' n' c') (F B' m' e') (G J q') (G J f') (V d')) v l:=by
 have a:Blk _ b 25 (ap A' n' c' B m e q f d):=j.set 0 (F A' n' c');have g:Blk _ b 25 (ap A' n' c' B' m' e' q f d):=a.set 1 (F B' m' e');have i:Blk _ b 25 (ap A' n' c' B' m' e' q' f d):=g.set 2 (G J q');have k:Blk _ b 25 (ap A' n' c' B' m' e' q' f' d):=i.set 3 (G J f');exact Qs.setD (Qs.setD (Qs.setD (Qs.setD (Qs.setD h j aQ) a aQ) g aQ) i aQ) k aQ
theorem oF{a x y:Value}{p:Addr}{z:Value}(h:W.cell? p=L z)(d:p.block≠b):(aK W b a v u x y).cell? p=L z:=eG (eG (eG (eG (eG h d) d) d) d) d
theorem rN(tmps:Array Value)(W:World)(b:Nat)(cs:Array Value)(e:Value)(h4:tmps.getD 6 undef=Y (L ⟨b,0,U⟩))(h3:tmps.getD 7 undef=e)(hb:Blk W b 25 cs)(hs:cs.size=5):(results Tryz.f52 tmps).run O W=.ok (.tuple #[.agg cs,e]) W:=by
 have a:tmps[6]?.getD undef=Y (L ⟨b,0,U⟩):=by simpa using h4
 have Kn:tmps[7]?.getD undef=e:=by simpa using h3
 have hl:=hb.load (P:=O) em rfl (by rw[hs];kernel_rfl);simp[results,results52,a,Kn,asAddr,hl,Pe,Pd,Pc]
structure SdI (w:World) (sync:Bool) (T:Dk×Int) (v:Value) (ql:List Oq) (A:Option Addr) (c:Nat) (B:Option Addr) (e:Nat) (d:Dk) (n:Nat) (W:World):Prop where
 bx:Blk W (w.heap.size+1) 25 (ap A d.fs.length c B d.q.length e d.quota d.fuse d.dead)
 f:OwnF W w.heap.size (F A d.fs.length c) d.fs
 q:OwnQ W w.heap.size (F B d.q.length e) d.q
 qs:Qs W v ql
 t:ct sync d ql=T
 x:Ext w W
 sz:Sz n d
 le:n+ql.length+aL ql<=1000000
def SdR(w:World)(sync:Bool)(T:Dk×Int)(a:Act)(W:World):Prop:=
 ∃(q:List Oq) (C:Option Addr) (c2:Nat) (A:Option Addr) (c:Nat) (B:Option Addr) (e:Nat) (d:Dk) (n:Nat) (u0 u8 u9 J7 J8 J9 Ja Jb Jc Jd Je Jf Jg Jh Ji Jj Jk Jl Jm Jn Jo Jp Jq Jr Js Jt:Value),Hid (SdI w sync T (F C q.length c2) q A c B e d n W)/\a=⟨#[u0,V sync,F C q.length c2,Y (L ⟨w.heap.size,0,U⟩),undef,undef,Y (L ⟨w.heap.size+1,0,U⟩),G J 0,u8,u9,J7,J8,J9,Ja,Jb,Jc,Jd,Je,Jf,Jg,Jh,Ji,Jj,Jk,Jl,Jm,Jn,Jo,Jp,Jq,Jr,Js,Jt],[]⟩
theorem qM(v:Value)(d:Dk)(n:Nat)(sync:Bool)(vq:Value)(q:List Oq)(w:World)(hD:DkV w v d)(hs:Sz n d)(Kr:Qs w vq q)(KW:n+q.length+aL q<=1000000):
  Calls O 52 #[v,V sync,vq] w λe w'=>∃u,e=.returned (.tuple #[u,G J (ct sync d q).2])/\OwnD w' w.heap.size u (ct sync d q).1/\Ext w w':=by
 obtain⟨vf,JQ,rfl,hF,hQ⟩:=hD;obtain⟨A,c,rfl,_,_⟩:=Fs.open_ hF;obtain⟨B,e2,rfl,_,_⟩:=Qs.open_ hQ;obtain⟨C,c2,rfl,_,_⟩:=Qs.open_ Kr;obtain⟨Y,Hd⟩:∃Y,(w.alloc (X #[F A d.fs.length c,F B d.q.length e2,G J d.quota,G J d.fuse,V d.dead] 25)).alloc (X #[F none 0 0,F none 0 0,G J 0,G J 0,V false] 25)=Y:=⟨_,rfl⟩;have Hb:Ext w Y:=by rw[<-Hd];exact xA (xA (xR _) _) _
 have h0:Blk Y w.heap.size 25 (ap A d.fs.length c B d.q.length e2 d.quota d.fuse d.dead):=by rw[<-Hd];exact(Blk.new w _ _).alloc _
 have h2:Blk Y (w.heap.size+1) 25 (ap none 0 0 none 0 0 0 0 false):=by
  rw[<-Hd];have:=Blk.new (w.alloc (X #[F A d.fs.length c,F B d.q.length e2,G J d.quota,G J d.fuse,V d.dead] 25)) 25 #[F none 0 0,F none 0 0,G J 0,G J 0,V false];rwa[xS]at this
 have Hj:=I Hb;have H2:=I h2;have HQ:=I (Kr.ext Hb);have HC:=I (nz _ d n _ (show DkV Y _ d from⟨_,_,rfl,hF.ext Hb,hQ.ext Hb⟩) (by omega) hs);clear h2 hF hQ Hb Kr;have H:=ae h0;clear h0;have HZ:=I hs;have Hx:=I KW;obtain⟨T,hT⟩:∃T,ct sync d q=T:=⟨_,rfl⟩;rw[hT];have P:=I hT;clear hs hT KW;refine(callsIn_wd (ro:=none) (n:=9)).1 ?_;refine callsIn_of_wp func52 rfl trivial ?_ rfl;simp only[ntmps52,List.size_toArray,xC,List.length_nil,Nat.reduceAdd,Nat.reduceSub,Array.replicate_succ,Array.replicate_zero,List.push_toArray,List.append_toArray,xI,List.cons_append];gi_wp2;refine eU 0 (SdR w sync T) (λa _=>lenOf (a.tmps.getD 2 undef)) rfl (λl' h=>by cases l'<;>first | exact absurd rfl h | rfl) ?_ ?_
 ·intro Hl;have HD:=I Hl;clear Hl;gi_wp2_with (refine⟨trivial,?_⟩;gi_at_call 51;refine(callsIn_wd.2 HC).mono ?_;rintro e w1⟨u,rfl,⟨A3,c3,B3,e3,rfl,of,oq⟩,Hc⟩;have j:=H2.ext Hc;obtain⟨d0,m,g,d3,d4⟩:=ae j;have eb:=aH j)
  refine wpIn_label ?_;gi_step;gi_step;refine HD _ _ ⟨q,C,c2,A3,c3,B3,e3,d,n,_,_,_,_,_,_,_,_,_,_,_,_,_,_,_,_,_,_,_,_,_,_,_,_,_,_,I ?_,rfl⟩;exact⟨aT j _ _ _ _ _,P4 (P0 of.f Hj.size) j,P1 (P0 oq Hj.size) j,Qs.box1 (HQ.ext Hc) j,P.out,aS (xT Hj Hc) (P9 _) _ _ _ _ _,HZ.out,Hx.out⟩
 ·clear Hj H2 HQ HC HZ Hx P Hd Y H;rintro a w1⟨q1,Y,c1,A1,k1,B1,e1,m,n1,Y,Y,Y,J7,Y,Y,Y,Y,Y,Y,Y,Y,Y,Y,Y,Y,Y,Y,Y,Y,Y,Y,Y,Y,Y,Y,i,rfl⟩;cases q1 with
  |nil=>
   cases sync with
   |false=>
    have H:=ae i.bx;have eb:=aH i.bx;gi_wp2;refine bJ ?_;have y:=i.t;subst y;refine bodyPost_ret (rN _ _ _ _ (G J 0) rfl rfl (aT i.bx _ _ _ _ _) rfl) rfl ?_;exact⟨_,rfl,⟨_,_,_,_,rfl,P4 i.f i.bx,P1 i.q i.bx⟩,aS i.x (P9 _) _ _ _ _ _⟩
   |true=>
    have H:=ae i.bx;gi_wp2_with (refine⟨trivial,?_⟩;gi_at_call 109;refine(callsIn_wd.2 (Mn _ m n1 _ (show DkV w1 _ m from⟨_,_,rfl,i.f.fs,i.q.qs⟩) (by have:=i.le;omega) i.sz)).mono ?_;rintro e w2⟨u,rfl,⟨p,z,r,s,rfl,of,oq⟩,k⟩;have j:=i.bx.ext k;obtain⟨d0,Y,g,d3,d4⟩:=ae j;have eb:=aH j)
    refine bJ ?_;have y:=i.t;subst y;refine bodyPost_ret (rN _ _ _ _ (G J m.syncS.2) rfl rfl (aT j _ _ _ _ _) rfl) rfl ?_;exact⟨_,rfl,⟨_,_,_,_,rfl,P4 (P0 of i.x.size) j,P1 (P0 oq i.x.size) j⟩,aS (xT i.x k) (P9 _) _ _ _ _ _⟩
  |cons o q1=>
   obtain⟨_,b,Ha,rfl,hc⟩:=i.qs.at_ (by simp);obtain⟨k0,k2,k3,D,dd,k4,Kv⟩:=hc 0 (by simp);simp only[List.getElem_cons_zero,Nat.zero_mul,Nat.add_zero]at k0 k2 k3 k4 Kv;have KC:=I Kv;obtain⟨_,_,e,j,j⟩:=Qs.open_ i.qs;cases e;clear hc Kv;obtain⟨ok,on,ot,M⟩:=o;dsimp only at *;simp only[xC]at *;gi_wp2;refine mq (S:=λW=>W.cell? ⟨b,Ha,U⟩=L (G Z ok)/\W.cell? ⟨b,Ha+1,U⟩=L (N ⟨on.toArray⟩)/\W.cell? ⟨b,Ha+2,U⟩=L (N ⟨ot.toArray⟩)/\W.cell? ⟨b,Ha+3,U⟩=L (F D M.length dd)) (by kernel_rfl) ⟨k0,k2,k3,k4⟩ (λ_=>?_);refine ab 1 ?_;refine ab 2 ?_;refine ab 3 ?_;have H:=ae (i.bx.ext (xD (xR _)));refine ah 0 (λK hK=>?_);go_simp;refine af hK _ _ ⟨k0,k2,k3,k4⟩ (λ_=>?_);refine ah 4 (λK hK=>?_);go_simp;have Hf:b≠w.heap.size+1:=by
    rintro rfl;exact aQ _ _ (rI i.bx k0)
   have KX:M.length<=1000000:=by have:=i.le;rw[eH]at this;dsimp only at this;omega
   obtain⟨⟨g,E⟩,hR⟩:∃R,m.doS ⟨ok,on,ot,M⟩=R:=⟨_,rfl⟩;have K2:Sz (n1+1+M.length) g:=by have:=Sz.doS i.sz ⟨ok,on,ot,M⟩;rw[hR]at this;exact this
   have hC:=Ow _ m n1 ⟨ok,on,ot,M⟩ _ w1.drew (show DkV w1.drew (.agg #[F A1 m.fs.length k1,F B1 m.q.length e1,G J m.quota,G J m.fuse,V m.dead]) m from⟨_,_,rfl,Fs.ext i.f.fs (xD (xR _)),Qs.ext i.q.qs (xD (xR _))⟩) (by have:=i.le;omega) i.sz (Bs.ext KC (xD (xR _))) KX;rw[hR]at hC;refine hC.mono ?_;rintro e w2⟨u,rfl,⟨p,z,r,s,rfl,of,oq⟩,Y⟩;have k:Ext w1 w2:=xT (xD (xR _)) Y;have y:=i.t;rw[ct,hR]at y;have P:=I y;have HR:=I hR;have Ht:=I K2;have j:=I (i.bx.ext k);have Kh:=I (P4 (A':=p) (n':=g.fs.length) (c':=z) (B':=r) (m':=g.q.length) (e':=s) (q':=g.quota) (f':=g.fuse) (d':=g.dead) (P0 of (Pa i.x.size (by simp))) j);have Kj:=I (P1 (A':=p) (n':=g.fs.length) (c':=z) (B':=r) (m':=g.q.length) (e':=s) (q':=g.quota) (f':=g.fuse) (d':=g.dead) (P0 oq (Pa i.x.size (by simp))) j);have Kk:=I (Qs.box1 (A':=p) (n':=g.fs.length) (c':=z) (B':=r) (m':=g.q.length) (e':=s) (q':=g.quota) (f':=g.fuse) (d':=g.dead) (i.qs.ext k) j);have HX:=I (aS (xT i.x k) (P9 w.heap.size) (F p g.fs.length z) (F r g.q.length s) (G J g.quota) (G J g.fuse) (V g.dead));have Q:=I (show Blk (aK w2 (w.heap.size+1) (F p g.fs.length z) (F r g.q.length s) (G J g.quota) (G J g.fuse) (V g.dead)) (w.heap.size+1) 25 (ap p g.fs.length z r g.q.length s g.quota g.fuse g.dead)from aT j _ _ _ _ _);have Hx:=I (show n1+1+M.length+q1.length+aL q1<=1000000 by have:=i.le;rw[eH]at this;dsimp only[List.length_cons]at this;omega);have m:=k.cell k0;have e2:=k.cell k2;have e3:=k.cell k3;have D:=k.cell k4;clear k0 k2 k3 k4 hC of oq k Y i KC hR K2 KX y H;refine af hK _ _ ⟨m,e2,e3,D⟩ (λ_=>?_);refine ab 5 ?_;refine ab 6 ?_;refine ab 7 ?_;have H:=ae j;have eb:=aH j;refine ah 8 (λK hK=>?_);go_simp;refine af hK _ _ ⟨oF m Hf,oF e2 Hf,oF e3 Hf,oF D Hf⟩ (λ_=>?_);refine ab 9 ?_;refine aq ?_;refine mC ?_;clear m e2 e3 D H eb;obtain⟨m,i⟩:∃m,aK w2 (w.heap.size+1) (F p g.fs.length z) (F r g.q.length s) (G J g.quota) (G J g.fuse) (V g.dead)=m:=⟨_,rfl⟩;rw[i]at Kh Kj Kk HX Q;delta aK at i
   rw[i];clear i j;have i:q1.length<=1000000:=by have:=Hx.out;omega
   by_cases hE:E=0
   ·subst hE;have i:=I (show ct sync g q1=T from by have:=P.out;rwa[if_pos rfl]at this);clear P HR;gi_wp2
    all_goals
     refine wpIn_goto ?_;try simp only[Exit.then]
     refine bI ⟨⟨q1,_,_,p,z,r,s,g,n1+1+M.length,_,_,_,_,_,_,_,_,_,_,_,_,_,_,_,_,_,_,_,_,_,_,_,_,_,_,I ?_,rfl⟩,by simp[lenOf]⟩;refine⟨Q.out,Kh.out,Kj.out,?_,i.out,HX.out,Ht.out,Hx.out⟩;first
      |exact Qs.tail Kk _ (λ_=>rfl)
      |(have j:=Qs.tail Kk (L ⟨b,Ha,U⟩) (λh=>by omega);rwa[show c1-1=0 from by omega]at j)
   ·have k:(E==0)=false:=by simpa using hE
    have i:=I (show(g,E)=T from by have:=P.out;rwa[if_neg hE]at this);clear P HR hE;have H:=ae Q;have eb:=aH Q;gi_wp2
    all_goals
     refine bJ ?_;have y:=i.out;subst y;refine bodyPost_ret (rN _ _ _ _ (G J E) rfl rfl (aT Q _ _ _ _ _) rfl) rfl ?_;exact⟨_,rfl,⟨_,_,_,_,rfl,P4 Kh Q,P1 Kj Q⟩,aS HX (P9 _) _ _ _ _ _⟩
theorem By(p:Fil):∀l:List Fil,(dn p l).length=l.length+1
 |[]=>rfl
 | q::l=>by
  rw[dn];split
  ·rw[xC,By p l,xC]
  ·rfl
theorem oI(l:List Fil)(p:Fil):(withS l p).length<=l.length+1:=by
 unfold Go.Proofs.YteggfecbjgbndaaGreatDoor.withS;rw[By];have:=(eX p.1 l).length_le;omega
theorem oJ{p q:Fil}(h:q∈withS l p):q=p\/q∈l:=by
 unfold Go.Proofs.YteggfecbjgbndaaGreatDoor.withS at h;rcases(sd p _ q).1 h with h | h
 ·exact .inl h
 ·exact .inr ((eX p.1 l).subset h)
theorem Lu(l:List Fil)(o:Oq):(dE l o).length<=l.length+1:=by
 unfold dE;split
 ·exact oI _ _
 ·split
  ·omega
  ·split
   ·exact oI _ _
   ·split
    ·have:=oI (aV o.n l) (o.t,‹List UInt8›);have:=(eX o.n l).length_le;omega
    ·split
     ·have:=(eX o.n l).length_le;omega
     ·omega
theorem Lx{o:Oq}{M:Nat}(a:∀f∈l,f.2.length<=M){q:Fil}(h:q∈dE l o):q.2.length<=M+o.b.length:=by
 unfold dE at h;split at h
 ·rcases oJ h with rfl | h
  ·simp
  have:=a q h;omega
 ·split at h
  ·have:=a q h;omega
  ·rename_i b hb;have d:b.length<=M:=a _ (ib hb);split at h
   ·rcases oJ h with rfl | h
    ·dsimp only;rw[xL];omega
    have:=a q h;omega
   ·split at h
    ·rcases oJ h with rfl | h
     ·dsimp only;omega
     have:=a q ((eX o.n l).subset h);omega
    ·split at h
     ·have:=a q ((eX o.n l).subset h);omega
     ·have:=a q h;omega
theorem oB{α β:Type}(f:β->α->β)(b:β)(l:List α){i:Nat}(h:i<l.length):(l.take (i+1)).foldl f b=f ((l.take i).foldl f b) l[i]:=by
 rw[P5 h,List.foldl_append];rfl
theorem qC{fs:List Fil}:∀ {i:Nat},i<=fs.length->((fs.take i).foldl ci []).length<=i/\∀f∈(fs.take i).foldl ci [],f∈fs
 |0,_=>⟨by simp,λf hf=>by simp at hf⟩
 | i+1,h=>by
  obtain⟨h1,h2⟩:=qC (fs:=fs) (i:=i) (by omega);rw[oB _ _ _ (by omega)];unfold ci;split
  ·refine⟨?_,λf hf=>?_⟩
   ·have:=oI ((fs.take i).foldl ci []) (fs[i]'(by omega));unfold ci at this h1;omega
   rcases oJ hf with rfl | hf
   ·exact List.getElem_mem _
   exact h2 f hf
  ·exact⟨by unfold ci at h1;omega,h2⟩
theorem Ay{fs:List Fil}{q:List Oq}:∀ {i:Nat},i<=q.length->((q.take i).foldl dE (fs.foldl ci [])).length<=fs.length+i/\∀f∈(q.take i).foldl dE (fs.foldl ci []),f.2.length<=tot fs+aL (q.take i)
 | 0,_=>by
  have h:=qC (fs:=fs) (i:=fs.length) (xN _);rw[P6]at h;refine⟨by simpa using h.1,λf hf=>?_⟩;have:=iW (h.2 f (by simpa using hf));omega
 | i+1,h=>by
  obtain⟨h1,h2⟩:=Ay (fs:=fs) (q:=q) (i:=i) (by omega);rw[oB _ _ _ (by omega)];refine⟨?_,λf hf=>?_⟩
  ·have:=Lu ((q.take i).foldl dE (fs.foldl ci [])) (q[i]'(by omega));omega
  ·have:=Lx h2 hf;rw[P5 (by omega),mG,eH];omega
theorem Mq(v H:Value)(fs:List Fil)(q:List Oq)(w:World)(E:Fs w v fs)(F:Qs w H q)(hl:fs.length+q.length<=900000)(hb:tot fs+aL q<=900000):
  Calls O 76 #[v,H] w λe w'=>(∃H,e=.returned H/\Fs w' H (mb fs q))/\Ext w w':=by
 obtain⟨A,c,rfl,h1,h2⟩:=Fs.open_ E;obtain⟨B,H,rfl,_,_⟩:=Qs.open_ F;unfold mb;obtain⟨R,H⟩:∃R,q.foldl dE (fs.foldl ci [])=R:=⟨_,rfl⟩;rw[H];have L:=I E;have HQ:=I F;have N:=I H;have K:=I hb;have M:=I hl;go_enter func76,ntmps76
 go_wp2_with fail
 go_loopw [5,6] (λC i wr=>∃j:Nat,j<=fs.length/\i=G J j/\Hid (Fs wr C ((fs.take j).foldl ci []))/\Hid (Ext w wr)) (λ_ i _=>fs.length-(intOf i).toNat)
 case atStart=>exact⟨0,Pb _,rfl,⟨[],SlR.nil _ _,λi hi=>by simp at hi⟩,xR _⟩
 case round=>
  obtain⟨j,z,rfl,d,g⟩:=hrel;by_cases a:j<fs.length
  ·obtain⟨_,b,P,rfl,hc⟩:=(L.ext g).at_ (by omega);obtain⟨h,E,E,k,E⟩:=hc j a;have F:=(qC (fs:=fs) z).1;have K3:=oB ci [] fs a;have m:=I K3;have D:=I F;have t:=I E;generalize(fs.take j).foldl ci []=l at *;obtain⟨p,E⟩:∃p,fs[j]=p:=⟨_,rfl⟩;rw[E]at h k t m;obtain⟨n,r⟩:=p;dsimp only at h k t;have key:=om _ l n _ d (by have:=D.out;omega);have S:=@place_get n l;have Q:(j:Int)<(fs.length:Int):=by omega
   unfold sv at key h;have Km:=I key;go_wp2_with fail
   refine Km.mono ?_;rintro e E⟨rfl,rfl⟩;rcases S with⟨E,hg⟩|⟨i,hi,E,hg⟩
   ·have s:ci l (n,r)=withS l (n,r):=by unfold ci;rw[if_pos (by rw[hg];rfl)]
    have Kf:=I s;have E:=oh _ l n r _ _ d t (by have:=D.out;omega);unfold sv at E;have t:=I E;go_wp2_with fail
    refine t.mono ?_;rintro e U⟨⟨T,rfl,y⟩,x⟩;go_wp2_with fail
    go_roundw
    case rel=>exact⟨j+1,by omega,by go_num,by unfold Hid;rw[m.out,Kf.out];exact y,xT g x⟩
    case measure=>simp[intOf];omega
   have s:ci l (n,r)=l:=by unfold ci;rw[if_neg (by rw[hg];simp)]
   have Kf:=I s;have r:¬(bS l n<0):=by omega
   go_wp2_with fail
   go_roundw
   case rel=>exact⟨j+1,by omega,by go_num,by unfold Hid;rw[m.out,Kf.out];exact d.out,g.out⟩
   case measure=>simp[intOf];omega
  ·obtain rfl:j=fs.length:=by omega
   rw[P6]at d;go_wp2_with fail
   go_loopw [5,7] (λC i r=>∃j:Nat,j<=q.length/\i=G J j/\Hid (Fs r C ((q.take j).foldl dE (fs.foldl ci [])))/\Hid (Ext w r)) (λ_ i _=>q.length-(intOf i).toNat)
   case atStart=>exact⟨0,Pb _,rfl,d,g⟩
   case round=>
    obtain⟨j,z,rfl,d,g⟩:=hrel;by_cases a:j<q.length
    ·obtain⟨_,b,P,rfl,hc⟩:=(HQ.ext g).at_ (by omega);obtain⟨h,k,r,s,s,s,C⟩:=hc j a;have D:=Ay (fs:=fs) (q:=q) z;have K3:=oB dE (fs.foldl ci []) q a;have t:aL (q.take j)+q[j].b.length<=aL q:=by
      have h1:=congrArg aL (List.take_append_drop (j+1) q);rw[mG,P5 a,mG,eH]at h1;omega
     have m:=I K3;have a:=I D;have z:=I t;have t:=I C;have key:=LU _ _ q[j] _ _ d t (by have h1:=a.1;have h2:=M;omega) (λf hf=>by have h1:=a.2 f hf;have h2:=z.out;have h3:=K.out;omega);rw[<-m.out]at key;obtain⟨o,a⟩:∃o,q[j]=o:=⟨_,rfl⟩;rw[a]at h k r s key;obtain⟨ok,on,a,a⟩:=o;dsimp only at h k r s key;have Q:(j:Int)<(q.length:Int):=by omega
     unfold sv at key k r;have Km:=I key;go_wp2_with fail
     refine Km.mono ?_;rintro e U⟨⟨T,rfl,y⟩,x⟩;go_wp2_with fail
     go_roundw
     case rel=>exact⟨j+1,by omega,by go_num,y,xT g x⟩
     case measure=>simp[intOf];omega
    ·obtain rfl:j=q.length:=by omega
     rw[P6,N.out]at d;go_wp2_with fail;go_ret;exact⟨⟨_,rfl,d.out⟩,g.out⟩
