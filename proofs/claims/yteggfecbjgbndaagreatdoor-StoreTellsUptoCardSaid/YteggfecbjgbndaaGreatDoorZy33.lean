/- Merged -/
import Derived.Test.YteggfecbjgbndaaGreatDoorZy32
set_option linter.all false
set_option maxHeartbeats 8000000
set_option maxRecDepth 100000
open Go.Proofs.Tryz
open List renaming length->X
open Go.Value renaming slice->E,int->F,bool->J,string->M,pointer->T,agg->V
open Go.IntKind renaming i64->I,u8->U
open Go.Mv renaming aN->L
open Go.Obj renaming cells->N
open Option renaming none->O,some->R
open Go.Proofs.Tryz renaming prog->Q
open Go.Proofs.YteggfecbjgbndaaGreatDoor.Fs renaming setBox->P0,open_->P1
open Go.Mv.Blk renaming new->P2
open Go.RowKit.Below renaming setCell->P3
open Go.Result renaming andThen_ok->P4
open Go.Value renaming slice->P5
open Go.Sem renaming run_pure->P6,run_bind->P7
namespace Go.Proofs.YteggfecbjgbndaaGreatDoor
open Go.RowKit Go.Mv Go.Shelf
variable {ocs:Array Value} {d:Dk} {b c c1 e e1 n r:Nat} {A A1 B B1:Option Addr} {P:Prop} {t:TypeId} {v vb:Value} {W W' w:World}
theorem mcR7ba0(h:P:=by
 generalize w4.drew=w5 at *;have e1:S=({ d with q:=d.q++[o] }.burn,0):=by rw[<-H5.out];unfold Dk.doS;rw[if_neg (by rw[HM.out];decide),if_neg (by rw[Hv.out];decide),if_neg Hw,if_neg (λh=>h.elim HX HY)]
 subst e1;have HE:=L (show Ext w5 (w5.alloc (N #[] 5))from xA (xR _) _);have Kr:=L (iI w5);have Kp:=L (H.b.ext HE);obtain⟨j0,j1,j2,j3⟩:=blk4 (H.b1.ext HE);have Ks:=L (show w5.heap.size<=(w5.alloc (N #[] 5)).heap.size from HE.size);have KL:=L KQ;obtain⟨iq,KR,Kl,Km,Kn⟩:=info_parts mR;clear H5 HM Hv Hw HX HY;go_wp2_with (first
  | (at_builtin
     refine eu (.tmp 54) (.tmp 56) rfl w5.heap.size _ [] Kr _ o.b Kp (by have:=KL.out;simp;omega) Ks ?_;intro A5 c5 w6 Ki Ky;simp only[List.length_nil,Nat.zero_add,xI]at Ki⊢;have H6:=L (H.ext (Ky w5 HE (xN _)));have K9:=L Ki;clear j0 j1 j2 j3 Ki Ky;obtain⟨g0,g1,g2,g3,g4⟩:=ae H6.b0;rw[Hd.out]at g4;obtain⟨j0,j1,j2,j3⟩:=blk4 H6.b1;have f3:=H6.b1.frozen 3)
  | (at_builtin
     have HA:Ext (w6.setCell ⟨w.heap.size+1,3,O⟩ (E A5 o.b.length c5)) ((w6.setCell ⟨w.heap.size+1,3,O⟩ (E A5 o.b.length c5)).alloc (N #[F U o.k,M ⟨o.n.toArray⟩,M ⟨o.t.toArray⟩,E A5 o.b.length c5] 98)):=xA (xR _) _;have Kt:=(H6.b0.other (by omega:w.heap.size≠w.heap.size+1) 3 (E A5 o.b.length c5)).ext HA;have Kc:=(H6.b2.other (by omega:w.heap.size+1+1≠w.heap.size+1) 3 (E A5 o.b.length c5)).ext HA;have Kd:=(OwnFA.setSl (x:=E A5 o.b.length c5) j3 H6.b1 H6.fa).ext HA;have HW:=OwnX.ext dy (OwnQ.setSl (x:=E A5 o.b.length c5) j3 (by omega) H6.oq) HA;have e':=xT (P3 (p:=⟨w.heap.size+1,3,O⟩) H6.e (Nat.le_succ _) (E A5 o.b.length c5)) HA;have KF:=K9.kept (ar _ (w.heap.size+1) 3 (E A5 o.b.length c5)) (.inr (H6.b1.not_row (by decide) K9).symm);have Kj:OwnB _ w5.heap.size (E A5 o.b.length c5) o.b:=ai KF HA;have KA:∀g,(P5 B1 d.q.length e1).ownBlock=R g->∀y∈[F U o.k,M ⟨o.n.toArray⟩,M ⟨o.t.toArray⟩,E A5 o.b.length c5],bF g y:=by
      intro g hg y hy;obtain⟨_,cs,KO⟩:=ee HW hg;simp only[List.mem_cons,List.not_mem_nil,or_false]at hy;rcases hy with rfl | rfl | rfl | rfl
      ·exact iP _ _ _
      ·exact da _ o.n
      ·exact da _ o.t
      exact OwnB.awayT Kj KO (by decide)
     refine me dy rfl (.tmp 60) (.tmp 62) 23 rfl 98 iq _ 64 Tryz.underlying23 KR Kl Km Kn rfl (by decide) (by decide) (w.heap.size+1+1+1) _ d.q rfl HW _ [o] [F U o.k,M ⟨o.n.toArray⟩,M ⟨o.t.toArray⟩,E A5 o.b.length c5] rfl (fu (w6.setCell ⟨w.heap.size+1,3,O⟩ (E A5 o.b.length c5)) [F U o.k,M ⟨o.n.toArray⟩,M ⟨o.t.toArray⟩,E A5 o.b.length c5] 98 4 (by simp only[World.size_setCell])) (ip (o:=o) (xW Kj)) (by simp) KA (by have:=K0.out;simp;omega) (by have:=Kc.lt;omega) ?_;intro A7 c7 w9 K3 Kz K1;have HQ:d.q.length+[o].length=(d.q++[o]).length:=by simp
     rw[HQ]at K3⊢;obtain⟨q7,Kk⟩:∃q7,d.q++[o]=q7:=⟨_,rfl⟩;rw[Kk]at K3⊢;have KM:=L Kk;have Kh:∀b,b<w.heap.size+1+1+1->some b≠(P5 B1 d.q.length e1).ownBlock:=λb hb e=>by have:=(ee HW e.symm).1;omega
     have b0:=Kt.kept K1 (Kh _ (by omega));have b2:=Kc.kept K1 (Kh _ (by omega));have KE:OwnF w9 w.heap.size (E A1 d.fs.length c1) d.fs:=OwnFA.grown Kd K1 (by
      cases hf:(P5 A1 d.fs.length c1).ownBlock with
      |none=>exact .inl rfl
      |some g=>
       refine .inr λe=>?_;obtain⟨_,cs,h1⟩:=ee HW e.symm;obtain⟨_,KW,h2⟩:=ee Kd.f hf;rw[h1]at h2;cases h2)
     have Kx:Ext w w9:=Kz w e' (by omega);have c0:Blk _ w.heap.size 25 (ap A1 d.fs.length c1 A7 q7.length c7 d.quota d.fuse d.dead):=Blk.set (b:=w.heap.size) b0 1 (E A7 q7.length c7);have B2:=L (b2.other (by omega:w.heap.size+1+1≠w.heap.size) 1 (E A7 q7.length c7));have OF:=L (OwnF.setD (j:=1) (u:=E A7 q7.length c7) KE (by decide) b0 aQ);have OQ:=L (OwnQ.setD (j:=1) (u:=E A7 q7.length c7) (OwnX.base K3 (show w.heap.size<=_ by omega)) (by decide) b0 aQ);have OE:=L (P3 (p:=⟨w.heap.size,1,O⟩) Kx (xN _) (E A7 q7.length c7));clear g0 g1 g2 g3 g4;obtain⟨g0,g1,g2,g3,g4⟩:=ae b0;obtain⟨f0,f1,f2,KN,f4⟩:=aH b0;obtain⟨d0,d1,d2,d3,d4⟩:=ae c0;rw[Hd.out]at g4 d4;have key:=sT (V #[E A1 d.fs.length c1,E A7 q7.length c7,F I d.quota,F I d.fuse,J false]) { d with q:=q7 } _ ⟨_,_,by rw[Hd.out],OwnF.fs OF,OwnQ.qs OQ⟩ K8;have KB:=L key;clear key Kk HA Kt Kc Kd HW e' KF Kj KA K3 Kz K1 HQ Kh b0 b2 KE Kx c0 j0 j1 j2 j3 f3 H6 K9 H HE Kr Kp Ks))
 refine KB.mono ?_;rintro e KV⟨⟨u,rfl,Hj⟩,Hi⟩;obtain⟨D,Hy⟩:∃D,Dk.burn { d with q:=q7 }=D:=⟨_,rfl⟩;rw[Hy]at Hj;have K7:=L Hy;obtain⟨K4,K5,rfl,H9,Ha⟩:=Hj;obtain⟨Af,cf,rfl,_,_⟩:=P1 H9;obtain⟨Aq,cq,rfl,_,_⟩:=Qs.open_ Ha;have H3:=B2.ext Hi;have Hb:=P0 H3 H9 (E Af D.fs.length cf) (E Aq D.q.length cq) (F I D.quota) (F I D.fuse) (J D.dead);have Hc:=Qs.setBox H3 Ha (E Af D.fs.length cf) (E Aq D.q.length cq) (F I D.quota) (F I D.fuse) (J D.dead);have Hl:=L (aT H3 (E Af D.fs.length cf) (E Aq D.q.length cq) (F I D.quota) (F I D.fuse) (J D.dead));have Hm:=L (aS (xT OE Hi) (by omega:w.heap.size<=w.heap.size+1+1) (E Af D.fs.length cf) (E Aq D.q.length cq) (F I D.quota) (F I D.fuse) (J D.dead));have Hn:=L Hb;have Ho:=L Hc;clear g0 g1 g2 g3 g4 f0 f1 f2 KN f4 d0 d1 d2 d3 d4;have ea:=ae H3;have eb:=aH H3;clear H3 Hb Hc H9 Ha Hi Hy KB OE OF OQ B2;go_wp2_with fail
 refine bodyPost_ret (nL _ _ _ _ _ rfl rfl Hl rfl) rfl ?_;rw[KM.out];show(∃u,_=Ending.returned (.tuple #[u,F I 0])/\DkV _ u (Dk.burn { d with q:=q7 }))/\_;rw[K7.out];exact⟨⟨_,rfl,⟨_,_,rfl,Hn.out,Ho.out⟩⟩,Hm.out⟩):P:=h
theorem mcR7ba1(h:P:=by
 have H3:=H.b2;have Hb:=P0 H3 H.f (E A1 d.fs.length c1) (E B1 d.q.length e1) (F I d.quota) (F I d.fuse) (J false);have Hc:=Qs.setBox H3 H.q (E A1 d.fs.length c1) (E B1 d.q.length e1) (F I d.quota) (F I d.fuse) (J false);have Hl:=L (aT H3 (E A1 d.fs.length c1) (E B1 d.q.length e1) (F I d.quota) (F I d.fuse) (J false));have Hm:=L (aS H.e (by omega:w.heap.size<=w.heap.size+1+1) (E A1 d.fs.length c1) (E B1 d.q.length e1) (F I d.quota) (F I d.fuse) (J false));have Hn:=L Hb;have Ho:=L Hc;have ea:=ae H3;have eb:=aH H3;clear H3 Hb Hc;go_wp2_with fail
 refine bodyPost_ret (nL _ _ _ _ _ rfl rfl Hl rfl) rfl ?_;exact⟨⟨_,rfl,⟨_,_,by rw[Hd.out],Hn.out,Ho.out⟩⟩,Hm.out⟩):P:=h
theorem Qs.setBox{m:Nat}{q f:Int}{d:Bool}(hb:Blk W b t (ap A n c B m e q f d)){l:List Oq}(h:Qs W v l)(a' z y C D:Value):Qs (aK W b a' z y C D) v l:=by
 obtain⟨xs,h1,h2⟩:=h;refine⟨xs,?_,h2.1,λk F=>?_⟩
 ·obtain⟨hl,A',c',rfl,g,i,hc⟩:=h1;refine⟨hl,A',c',rfl,g,i,λa=>?_⟩;obtain⟨p,o,rfl,H8⟩:=hc a;refine⟨p,o,rfl,λj u s=>nR (H8 j u s) ?_ _ _ _ _ _⟩;rintro rfl;have hn:xs[0*4+1]?=R (sv l[0].n):=(h2.2 0 a).2.1;rcases ng (nv hb (H8 1 _ hn))with⟨x,hx⟩|⟨_,_,_,hx⟩|⟨_,hx⟩<;>cases hx
 ·obtain⟨y,z,C,u,D,E⟩:=h2.2 k F;refine⟨y,z,C,u,D,?_⟩;obtain⟨hl,A',c',rfl,g,i,hc⟩:=E;refine⟨hl,A',c',rfl,g,i,λa=>?_⟩;obtain⟨p,o,rfl,H8⟩:=hc a;refine⟨p,o,rfl,λj u s=>nR (H8 j u s) ?_ _ _ _ _ _⟩;rintro rfl;rcases ng (nv hb (H8 0 _ (by rw[List.getElem?_map,List.getElem?_eq_getElem a];rfl)))with⟨x,hx⟩|⟨_,_,_,hx⟩|⟨_,hx⟩<;>cases hx
theorem nL(tmps:Array Value)(W:World)(b:Nat)(cs:Array Value)(e:Value)(h4:tmps.getD 4 undef=T (R ⟨b,0,O⟩))(h3:tmps.getD 5 undef=e)(hb:Blk W b 25 cs)(hs:cs.size=5):(results Tryz.f55 tmps).run Q W=.ok (.tuple #[.agg cs,e]) W:=by
 have f:tmps[4]?.getD undef=T (R ⟨b,0,O⟩):=by simpa using h4
 have a:tmps[5]?.getD undef=e:=by simpa using h3
 have hl:=hb.load (P:=Q) em rfl (by rw[hs];kernel_rfl);simp[results,results55,f,a,asAddr,hl,P7,P6,P4]
structure Do4 (w W:World) (A1:Option Addr) (c1:Nat) (B1:Option Addr) (e1:Nat) (d:Dk) (ocs:Array Value) (vb:Value) (o:Oq):Prop where
 b0:Blk W w.heap.size 25 (ap A1 d.fs.length c1 B1 d.q.length e1 d.quota d.fuse d.dead)
 b1:Blk W (w.heap.size+1) 98 ocs
 b2:Blk W (w.heap.size+1+1) 25 (ap none 0 0 none 0 0 0 0 false)
 fa:OwnFA W w.heap.size (E A1 d.fs.length c1) d.fs (fun g=>(P5 B1 d.q.length e1).ownBlock=R g)
 oq:OwnQ W (w.heap.size+1+1+1) (E B1 d.q.length e1) d.q
 b:Bs W vb o.b
 e:Ext w W
theorem Do4.ext{o:Oq}(h:Do4 w W A1 c1 B1 e1 d ocs vb o)(a:Ext W W'):Do4 w W' A1 c1 B1 e1 d ocs vb o:=
 ⟨h.b0.ext a,h.b1.ext a,h.b2.ext a,h.fa.ext a,OwnX.ext dy h.oq a,h.b.ext a,xT h.e a⟩
theorem Do4.f{o:Oq}(h:Do4 w W A1 c1 B1 e1 d ocs vb o):Fs W (E A1 d.fs.length c1) d.fs:=OwnF.fs h.fa.f
theorem Do4.q{o:Oq}(h:Do4 w W A1 c1 B1 e1 d ocs vb o):Qs W (E B1 d.q.length e1) d.q:=OwnQ.qs h.oq
theorem OwnFA.setSl{base j:Nat}{x:Value}{l:List Fil}{G:Nat->Prop}{cs:Array Value}(m:W.cell? ⟨b,j,O⟩=R (E A n c))(a:Blk W b 98 cs)(h:OwnFA W base v l G):OwnFA (W.setCell ⟨b,j,O⟩ x) base v l G:=by
 obtain⟨xs,h1,h2,h3,h4⟩:=h;refine⟨xs,ey a (by decide) h1 x,⟨h2.1,λk i=>?_⟩,h3,h4⟩;obtain⟨a,u,f,g⟩:=h2.2 k i;exact⟨a,u,f,Bs.setSl m g⟩
theorem nt(v:Value)(d:Dk)(o:Oq)(vo:Value)(w:World)(hD:DkV w v d)(hB:Bs w vo o.b)(hl:X d.fs+X d.q<=800000)(hb:tot d.fs+aL d.q<=800000)(KQ:X o.b<=100000)(HO:d.fuse<=9223372036854775807):
  Calls Q 55 #[v,V #[F U o.k,sv o.n,sv o.t,vo]] w λe w'=>(∃u,e=.returned (.tuple #[u,F I (d.doS o).2])/\DkV w' u (d.doS o).1)/\Ext w w':=by
 obtain⟨vf,vq,rfl,hF,hQ⟩:=hD;obtain⟨A,c,rfl,_,_⟩:=P1 hF;obtain⟨B,e2,rfl,_,_⟩:=Qs.open_ hQ;obtain⟨C,c2,rfl,_,_⟩:=xO hB;unfold sv;obtain⟨W0,Hf⟩:∃W0,((w.alloc (N #[E A d.fs.length c,E B d.q.length e2,F I d.quota,F I d.fuse,J d.dead] 25)).alloc (N #[F U o.k,M ⟨o.n.toArray⟩,M ⟨o.t.toArray⟩,E C o.b.length c2] 98)).alloc (N #[E none 0 0,E none 0 0,F I 0,F I 0,J false] 25)=W0:=⟨_,rfl⟩;have Hh:Ext w W0:=by rw[<-Hf];exact xA (xA (xA (xR _) _) _) _
 have h0:Blk W0 w.heap.size 25 (ap A d.fs.length c B d.q.length e2 d.quota d.fuse d.dead):=by rw[<-Hf];exact((P2 w _ _).alloc _).alloc _
 have h1:Blk W0 (w.heap.size+1) 98 #[F U o.k,M ⟨o.n.toArray⟩,M ⟨o.t.toArray⟩,E C o.b.length c2]:=by
  rw[<-Hf];have:=(P2 (w.alloc (N #[E A d.fs.length c,E B d.q.length e2,F I d.quota,F I d.fuse,J d.dead] 25)) 98 #[F U o.k,M ⟨o.n.toArray⟩,M ⟨o.t.toArray⟩,E C o.b.length c2]).alloc (N #[E none 0 0,E none 0 0,F I 0,F I 0,J false] 25);rwa[xS]at this
 have h2:Blk W0 (w.heap.size+1+1) 25 (ap none 0 0 none 0 0 0 0 false):=by
  rw[<-Hf];have:=P2 ((w.alloc (N #[E A d.fs.length c,E B d.q.length e2,F I d.quota,F I d.fuse,J d.dead] 25)).alloc (N #[F U o.k,M ⟨o.n.toArray⟩,M ⟨o.t.toArray⟩,E C o.b.length c2] 98)) 25 #[E none 0 0,E none 0 0,F I 0,F I 0,J false];rwa[xS,xS]at this
 have KH:W0.heap.size=w.heap.size+1+1+1:=by rw[<-Hf,xS,xS,xS]
 have KP:=fR d;have KU:=lY d;have key:=yN (V #[E A d.fs.length c,E B d.q.length e2,F I d.quota,F I d.fuse,J d.dead]) d W0 ⟨_,_,rfl,hF.ext Hh,hQ.ext Hh⟩ (by omega) (by omega);rw[KH]at key;have T:=L key;have HB:=L (hB.ext Hh);have HD:=L Hh;have H0:=L h0;have H1:=L h1;have H2:=L h2;have K8:=L HO;obtain⟨S,hS⟩:∃S,d.doS o=S:=⟨_,rfl⟩;have H5:=L hS;rw[hS];obtain⟨g0,g1,g2,g3,g4⟩:=ae h0;clear hS key h0 h1 h2 hF hQ Hh hB HO KH;go_enter func55,ntmps55
 go_wp2_with fail;clear Hf;refine T.mono ?_;rintro e w1⟨u,rfl,⟨A1,c1,B1,e1,rfl,HT,HU⟩,Hk⟩;have H7:=H0.ext Hk;have H:Hid (Do4 w (aK w1 w.heap.size (E A1 d.fs.length c1) (E B1 d.q.length e1) (F I d.quota) (F I d.fuse) (J d.dead)) A1 c1 B1 e1 d #[F U o.k,M ⟨o.n.toArray⟩,M ⟨o.t.toArray⟩,E C o.b.length c2] (E C o.b.length c2) o):=by
  have HJ:=H1.ext Hk;have HK:=H2.ext Hk;refine⟨aT H7 _ _ _ _ _,((((HJ.other (by omega) 0 _).other (by omega) 1 _).other (by omega) 2 _).other (by omega) 3 _).other (by omega) 4 _,((((HK.other (by omega) 0 _).other (by omega) 1 _).other (by omega) 2 _).other (by omega) 3 _).other (by omega) 4 _,OwnFA.box1 (OwnFA.base HT (by omega)) H7,OwnQ.box1 HU H7,BF (HB.ext Hk) H7,aS (xT HD Hk) (xN w.heap.size) _ _ _ _ _⟩
 have key:=yx _ d _ (show DkV (aK w1 w.heap.size (E A1 d.fs.length c1) (E B1 d.q.length e1) (F I d.quota) (F I d.fuse) (J d.dead)) (V #[E A1 d.fs.length c1,E B1 d.q.length e1,F I d.quota,F I d.fuse,J d.dead]) d from⟨_,_,rfl,H.f,H.q⟩) (by omega) (by omega) (by omega);have Hq:=L key;obtain⟨f0,f1,f2,f3,f4⟩:=aH H7;clear g0 g1 g2 g3 g4;obtain⟨g0,g1,g2,g3,g4⟩:=ae H7;clear key HT HU H7 Hk T H0 H1 H2 HD HB;go_wp2_with fail
 refine Hq.mono ?_;rintro e w2⟨rfl,HH⟩;replace H:=L (H.ext HH);clear g0 g1 g2 g3 g4 f0 f1 f2 f3 f4 HH Hq;obtain⟨g0,g1,g2,g3,g4⟩:=ae H.b0;rcases hr:d.right with _ | _
 case false=>
  have e1:S=(d,2):=by rw[<-H5.out,o4 (m:=2) (by unfold Dk.may;rw[hr];rfl) (by decide)]
  subst e1;clear H5;have H3:=H.b2;have Hb:=P0 H3 H.f (E A1 d.fs.length c1) (E B1 d.q.length e1) (F I d.quota) (F I d.fuse) (J d.dead);have Hc:=Qs.setBox H3 H.q (E A1 d.fs.length c1) (E B1 d.q.length e1) (F I d.quota) (F I d.fuse) (J d.dead);have Hl:=L (aT H3 (E A1 d.fs.length c1) (E B1 d.q.length e1) (F I d.quota) (F I d.fuse) (J d.dead));have Hm:=L (aS H.e (by omega:w.heap.size<=w.heap.size+1+1) (E A1 d.fs.length c1) (E B1 d.q.length e1) (F I d.quota) (F I d.fuse) (J d.dead));have Hn:=L Hb;have Ho:=L Hc;have ea:=ae H3;have eb:=aH H3;clear H3 Hb Hc;go_wp2_with fail
  refine bodyPost_ret (nL _ _ _ _ _ rfl rfl Hl rfl) rfl ?_;exact⟨⟨_,rfl,⟨_,_,rfl,Hn.out,Ho.out⟩⟩,Hm.out⟩
 rcases s:d.dead with _ | _
 case true=>
  have e1:S=(d,40):=by rw[<-H5.out,o4 (m:=40) (by unfold Dk.may;rw[hr,s];rfl) (by decide)]
  subst e1;clear H5 hr;rw[s]at g4;have Hd:=L s;clear s;have H3:=H.b2;have Hb:=P0 H3 H.f (E A1 d.fs.length c1) (E B1 d.q.length e1) (F I d.quota) (F I d.fuse) (J true);have Hc:=Qs.setBox H3 H.q (E A1 d.fs.length c1) (E B1 d.q.length e1) (F I d.quota) (F I d.fuse) (J true);have Hl:=L (aT H3 (E A1 d.fs.length c1) (E B1 d.q.length e1) (F I d.quota) (F I d.fuse) (J true));have Hm:=L (aS H.e (by omega:w.heap.size<=w.heap.size+1+1) (E A1 d.fs.length c1) (E B1 d.q.length e1) (F I d.quota) (F I d.fuse) (J true));have Hn:=L Hb;have Ho:=L Hc;have ea:=ae H3;have eb:=aH H3;clear H3 Hb Hc;go_wp2_with fail
  refine bodyPost_ret (nL _ _ _ _ _ rfl rfl Hl rfl) rfl ?_;exact⟨⟨_,rfl,⟨_,_,by rw[Hd.out],Hn.out,Ho.out⟩⟩,Hm.out⟩
 rw[s]at g4;have HM:=L (show d.may=0 by unfold Dk.may;rw[hr,s];rfl);have Hd:=L s;have K0:=L (show X d.q<=400 from((Lj d).1 hr).l);clear hr s;obtain⟨j0,j1,j2,j3⟩:=blk4 H.b1;have key:=zJ o _ w2 H.b;unfold sv at key;have T:=L key;clear key;go_wp2_with fail
 refine T.mono ?_;rintro e w3⟨rfl,s⟩;replace H:=L (H.ext s);clear T s g0 g1 g2 g3 g4 j0 j1 j2 j3;obtain⟨g0,g1,g2,g3,g4⟩:=ae H.b0;obtain⟨j0,j1,j2,j3⟩:=blk4 H.b1;rw[Hd.out]at g4;rcases hfi:bO o with _ | _
 case false=>
  have e1:S=(d,2):=by rw[<-H5.out];unfold Dk.doS;rw[if_neg (by rw[HM.out];decide),if_pos hfi]
  subst e1;clear H5 hfi;exact mcR7ba1
 have Hv:=L hfi;clear hfi;have key:=lH _ d w3 (show DkV w3 (V #[E A1 d.fs.length c1,E B1 d.q.length e1,F I d.quota,F I d.fuse,J false]) d from⟨_,_,by rw[Hd.out],H.f,H.q⟩) (by omega) (by omega);have T:=L key;clear key;go_wp2_with fail
 refine T.mono ?_;rintro e w4⟨⟨s,rfl,Ht⟩,HI⟩;obtain⟨s,s,rfl,_,_⟩:=P1 Ht;have Kq:=L Ht;replace H:=L (H.ext HI);clear T HI Ht g0 g1 g2 g3 g4 j0 j1 j2 j3;obtain⟨g0,g1,g2,g3,g4⟩:=ae H.b0;obtain⟨j0,j1,j2,j3⟩:=blk4 H.b1;rw[Hd.out]at g4;by_cases z:o.k=1
 ·have Hg:(o.k != 1)=false:=by simpa using z
  have Z:(o.k==2)=false:=by rw[z];rfl
  have Hw:=L (show ¬(ak o.n d.now=none/\o.k≠1)from λh=>h.2 z);have HX:=L (show ¬(o.k=2/\d.quota<(tot d.now:Int)+(X o.b:Int))from λh=>by rw[z]at h;exact absurd h.1 (by decide));clear z;go_wp2_with fail
  refine wp_region_held_drew (S:=λW=>W.cell? ⟨w.heap.size+1,0,O⟩=R (F U o.k)/\W.cell? ⟨w.heap.size,1,O⟩=R (E B1 d.q.length e1)) (by kernel_rfl) ⟨j0,g1⟩ (λ_=>?_);by_cases a:X d.q=400
  ·have Y:(400:Int)<=(X d.q:Int):=by omega
   have e1:S=(d,41):=by rw[<-H5.out];unfold Dk.doS;rw[if_neg (by rw[HM.out];decide),if_neg (by rw[Hv.out];decide),if_neg Hw,if_pos (.inr a)]
   subst e1;clear H5 a;refine ab 0 ?_;refine ab 1 ?_;refine ab 2 ?_;refine ab 3 ?_;refine ag 4 ?_;refine ag 5 ?_;refine ag 6 ?_;refine ag 7 ?_;refine ag 8 ?_;refine ag 9 ?_;refine ag 10 ?_;refine ag 11 ?_;refine ag 12 ?_;refine ab 13 ?_;refine ab 14 ?_;refine ab 15 ?_;refine ab 16 ?_;refine ab 17 ?_;refine ab 18 ?_;refine ab 19 ?_;refine aq ?_;replace H:=L (H.ext (xD (xR _)));clear g0 g1 g2 g3 g4 j0 j1 j2 j3 Y Hg Z;generalize w4.drew=w5 at *;obtain⟨g0,g1,g2,g3,g4⟩:=ae H.b0;rw[Hd.out]at g4;exact mcR7ba1
  have Y:¬(400:Int)<=(X d.q:Int):=by have:=K0.out;omega
  have HY:=L a;clear a;refine ab 0 ?_;refine ab 1 ?_;refine ab 2 ?_;refine ab 3 ?_;refine ag 4 ?_;refine ag 5 ?_;refine ag 6 ?_;refine ag 7 ?_;refine ag 8 ?_;refine ag 9 ?_;refine ag 10 ?_;refine ag 11 ?_;refine ag 12 ?_;refine ab 13 ?_;refine ab 14 ?_;refine ab 15 ?_;refine ab 16 ?_;refine ab 17 ?_;refine ab 18 ?_;refine ab 19 ?_;refine aq ?_;replace H:=L (H.ext (xD (xR _)));clear g0 g1 g2 g3 g4 j0 j1 j2 j3 Y Hg Z;exact mcR7ba0
 ·have Hg:(o.k != 1)=true:=by simpa using z
  have key:=om _ d.now o.n w4 Kq (by omega);unfold sv at key;have T:=L key;have KI:=L z;clear key z;go_wp2_with fail
  refine T.mono ?_;rintro e _⟨rfl,rfl⟩;clear T;rcases Fm o.n d.now with⟨hp,hg⟩|⟨kp,hkp,hp,K2,hg⟩
  ·rw[hp];have e1:S=(d,42):=by rw[<-H5.out];unfold Dk.doS;rw[if_neg (by rw[HM.out];decide),if_neg (by rw[Hv.out];decide),if_pos ⟨hg,KI.out⟩]
   subst e1;clear H5 hp hg;exact mcR7ba1
  ·rw[hp];have s:¬(kp:Int)<0:=by omega
   have Hw:=L (show ¬(ak o.n d.now=none/\o.k≠1)from λh=>by rw[hg]at h;cases h.1);clear hp hg K2 hkp;by_cases G:o.k=2
   ·have Z:(o.k==2)=true:=by simpa using G
    have KJ:=L G;clear G;go_wp2_with fail
    have Ko:IntKind.i64.wrap ((tot d.now:Int)+(X o.b:Int))=(tot d.now:Int)+(X o.b:Int):=by rw[IntKind.wrap_i64];all_goals omega
    refine wp_region_held_drew (S:=λW=>W.cell? ⟨w.heap.size+1,0,O⟩=R (F U o.k)/\W.cell? ⟨w.heap.size,1,O⟩=R (E B1 d.q.length e1)/\W.cell? ⟨w.heap.size+1,3,O⟩=R (E C o.b.length c2)/\W.cell? ⟨w.heap.size,2,O⟩=R (F I d.quota)) (by kernel_rfl) ⟨j0,g1,j3,g2⟩ (λ_=>?_);refine ab 0 ?_;refine ab 1 ?_;refine ab 2 ?_;refine ab 3 ?_;refine ab 4 ?_;refine ab 6 ?_;refine ab 7 ?_;refine ab 8 ?_;refine ab 10 ?_;refine ab 11 ?_;refine ah 5 (λK hK=>?_);go_simp;refine(Ad _ d.now _ (Kq.ext (xD (xR _))) (by omega) (by omega)).mono ?_;rintro e _⟨rfl,rfl⟩;refine af hK _ _ ⟨j0,g1,j3,g2⟩ (λ_=>?_);by_cases i:d.quota<(tot d.now:Int)+(X o.b:Int)
    ·have e1:S=(d,41):=by rw[<-H5.out];unfold Dk.doS;rw[if_neg (by rw[HM.out];decide),if_neg (by rw[Hv.out];decide),if_neg Hw,if_pos (.inl ⟨KJ.out,i⟩)]
     subst e1;clear H5;refine ab 9 ?_;refine ab 12 ?_;refine ab 13 ?_;refine ab 14 ?_;refine ag 15 ?_;refine ag 16 ?_;refine ag 17 ?_;refine ag 18 ?_;refine ab 19 ?_;refine aq ?_;replace H:=L (H.ext (xD (xR _)));clear g0 g1 g2 g3 g4 j0 j1 j2 j3 Hg Z Ko i;generalize w4.drew=w5 at *;obtain⟨g0,g1,g2,g3,g4⟩:=ae H.b0;rw[Hd.out]at g4;exact mcR7ba1
    have HX:=L (show ¬(o.k=2/\d.quota<(tot d.now:Int)+(X o.b:Int))from λh=>i h.2);by_cases a:X d.q=400
    ·have Y:(400:Int)<=(X d.q:Int):=by omega
     have e1:S=(d,41):=by rw[<-H5.out];unfold Dk.doS;rw[if_neg (by rw[HM.out];decide),if_neg (by rw[Hv.out];decide),if_neg Hw,if_pos (.inr a)]
     subst e1;clear H5 a;refine ab 9 ?_;refine ab 12 ?_;refine ab 13 ?_;refine ab 14 ?_;refine ab 15 ?_;refine ab 16 ?_;refine ab 17 ?_;refine ab 18 ?_;refine ab 19 ?_;refine aq ?_;replace H:=L (H.ext (xD (xR _)));clear g0 g1 g2 g3 g4 j0 j1 j2 j3 Hg Z Ko i Y;generalize w4.drew=w5 at *;obtain⟨g0,g1,g2,g3,g4⟩:=ae H.b0;rw[Hd.out]at g4;exact mcR7ba1
    have Y:¬(400:Int)<=(X d.q:Int):=by have:=K0.out;omega
    have HY:=L a;clear a;refine ab 9 ?_;refine ab 12 ?_;refine ab 13 ?_;refine ab 14 ?_;refine ab 15 ?_;refine ab 16 ?_;refine ab 17 ?_;refine ab 18 ?_;refine ab 19 ?_;refine aq ?_;replace H:=L (H.ext (xD (xR _)));clear g0 g1 g2 g3 g4 j0 j1 j2 j3 Hg Z Ko i Y;exact mcR7ba0
   ·have Z:(o.k==2)=false:=by simpa using G
    have HX:=L (show ¬(o.k=2/\d.quota<(tot d.now:Int)+(X o.b:Int))from λh=>G h.1);clear G;go_wp2_with fail
    refine wp_region_held_drew (S:=λW=>W.cell? ⟨w.heap.size+1,0,O⟩=R (F U o.k)/\W.cell? ⟨w.heap.size,1,O⟩=R (E B1 d.q.length e1)) (by kernel_rfl) ⟨j0,g1⟩ (λ_=>?_);by_cases a:X d.q=400
    ·have Y:(400:Int)<=(X d.q:Int):=by omega
     have e1:S=(d,41):=by rw[<-H5.out];unfold Dk.doS;rw[if_neg (by rw[HM.out];decide),if_neg (by rw[Hv.out];decide),if_neg Hw,if_pos (.inr a)]
     subst e1;clear H5 a;refine ab 0 ?_;refine ab 1 ?_;refine ab 2 ?_;refine ab 3 ?_;refine ag 4 ?_;refine ag 5 ?_;refine ag 6 ?_;refine ag 7 ?_;refine ag 8 ?_;refine ag 9 ?_;refine ag 10 ?_;refine ag 11 ?_;refine ag 12 ?_;refine ab 13 ?_;refine ab 14 ?_;refine ab 15 ?_;refine ab 16 ?_;refine ab 17 ?_;refine ab 18 ?_;refine ab 19 ?_;refine aq ?_;replace H:=L (H.ext (xD (xR _)));clear g0 g1 g2 g3 g4 j0 j1 j2 j3 Y Hg Z;generalize w4.drew=w5 at *;obtain⟨g0,g1,g2,g3,g4⟩:=ae H.b0;rw[Hd.out]at g4;exact mcR7ba1
    ·have Y:¬(400:Int)<=(X d.q:Int):=by have:=K0.out;omega
     have HY:=L a;clear a;refine ab 0 ?_;refine ab 1 ?_;refine ab 2 ?_;refine ab 3 ?_;refine ag 4 ?_;refine ag 5 ?_;refine ag 6 ?_;refine ag 7 ?_;refine ag 8 ?_;refine ag 9 ?_;refine ag 10 ?_;refine ag 11 ?_;refine ag 12 ?_;refine ab 13 ?_;refine ab 14 ?_;refine ab 15 ?_;refine ab 16 ?_;refine ab 17 ?_;refine ab 18 ?_;refine ab 19 ?_;refine aq ?_;replace H:=L (H.ext (xD (xR _)));clear g0 g1 g2 g3 g4 j0 j1 j2 j3 Y Hg Z;exact mcR7ba0
theorem Fs.setBox1{k:Nat}{m:Nat}{q f:Int}{d:Bool}(hb:Blk W b t (ap A n c B m e q f d)){fs:List Fil}(h:Fs W v fs)(x:Value):Fs (W.setCell ⟨b,k,O⟩ x) v fs:=by
 obtain⟨g,h1,h2⟩:=h;refine⟨g,?_,λi s=>?_⟩
 ·obtain⟨hl,A',c',rfl,g,l,hc⟩:=h1;refine⟨hl,A',c',rfl,g,l,λa=>?_⟩;obtain⟨p,o,rfl,H8⟩:=hc a;refine⟨p,o,rfl,λj u g=>eG (H8 j u g) ?_⟩;rintro rfl;rcases ng (nv hb (H8 0 _ (h2 0 a).1))with⟨x,hx⟩|⟨_,_,_,hx⟩|⟨_,hx⟩<;>cases hx
 ·obtain⟨h3,u,h4,h5⟩:=h2 i s;exact⟨h3,u,h4,lN h5 hb aQ⟩
theorem rh(tmps:Array Value)(W:World)(b:Nat)(cs:Array Value)(e:Value)(h4:tmps.getD 2 undef=T (R ⟨b,0,O⟩))(h3:tmps.getD 3 undef=e)(hb:Blk W b 25 cs)(hs:cs.size=5):(results Tryz.f56 tmps).run Q W=.ok (.tuple #[.agg cs,e]) W:=by
 have f:tmps[2]?.getD undef=T (R ⟨b,0,O⟩):=by simpa using h4
 have a:tmps[3]?.getD undef=e:=by simpa using h3
 have hl:=hb.load (P:=Q) em rfl (by rw[hs];kernel_rfl);simp[results,results56,f,a,asAddr,hl,P7,P6,P4]
structure Sy4 (w W:World) (A1:Option Addr) (c1:Nat) (B1:Option Addr) (e1:Nat) (d:Dk):Prop where
 b0:Blk W w.heap.size 25 (ap A1 d.fs.length c1 B1 d.q.length e1 d.quota d.fuse d.dead)
 b2:Blk W (w.heap.size+1) 25 (ap none 0 0 none 0 0 0 0 false)
 f:Fs W (E A1 d.fs.length c1) d.fs
 q:Qs W (E B1 d.q.length e1) d.q
 e:Ext w W
theorem Sy4.ext(h:Sy4 w W A1 c1 B1 e1 d)(a:Ext W W'):Sy4 w W' A1 c1 B1 e1 d:=
 ⟨h.b0.ext a,h.b2.ext a,h.f.ext a,h.q.ext a,xT h.e a⟩
theorem AW{m:Int}(h:d.may=m)(hm:m≠0):d.syncS=(d,m):=by
 subst h;unfold Dk.syncS;rw[if_pos hm]
theorem yS(v:Value)(d:Dk)(w:World)(hD:DkV w v d)(hl:X d.fs+X d.q<=800000)(hb:tot d.fs+aL d.q<=800000)(HO:d.fuse<=9223372036854775807):
  Calls Q 56 #[v] w λe w'=>(∃u,e=.returned (.tuple #[u,F I (d.syncS).2])/\DkV w' u (d.syncS).1)/\Ext w w':=by
 obtain⟨T,T,rfl,hF,hQ⟩:=hD;obtain⟨A,c,rfl,_,_⟩:=P1 hF;obtain⟨B,e2,rfl,_,_⟩:=Qs.open_ hQ;obtain⟨T,Hf⟩:∃T,(w.alloc (N #[E A d.fs.length c,E B d.q.length e2,F I d.quota,F I d.fuse,J d.dead] 25)).alloc (N #[E none 0 0,E none 0 0,F I 0,F I 0,J false] 25)=T:=⟨_,rfl⟩;have Hh:Ext w T:=by rw[<-Hf];exact xA (xA (xR _) _) _
 have h0:Blk T w.heap.size 25 (ap A d.fs.length c B d.q.length e2 d.quota d.fuse d.dead):=by rw[<-Hf];exact(P2 w _ _).alloc _
 have h2:Blk T (w.heap.size+1) 25 (ap none 0 0 none 0 0 0 0 false):=by
  rw[<-Hf];have:=P2 (w.alloc (N #[E A d.fs.length c,E B d.q.length e2,F I d.quota,F I d.fuse,J d.dead] 25)) 25 #[E none 0 0,E none 0 0,F I 0,F I 0,J false];rwa[xS]at this
 have KP:=fR d;have KU:=lY d;have key:=mU (V #[E A d.fs.length c,E B d.q.length e2,F I d.quota,F I d.fuse,J d.dead]) d T ⟨_,_,rfl,hF.ext Hh,hQ.ext Hh⟩ (by omega) (by omega);have U:=L key;have HD:=L Hh;have H0:=L h0;have H2:=L h2;have K8:=L HO;obtain⟨S,T⟩:∃S,d.syncS=S:=⟨_,rfl⟩;have K:=L T;rw[T];obtain⟨y,z,C,G,o⟩:=ae h0;clear T key h0 h2 hF hQ Hh HO;go_enter func56,ntmps56
 go_wp2_with fail;clear Hf;refine U.mono ?_;rintro e w1⟨u,rfl,⟨A1,c1,B1,e1,rfl,HT,HU⟩,T⟩;have h:=H0.ext T;have H:Hid (Sy4 w (aK w1 w.heap.size (E A1 d.fs.length c1) (E B1 d.q.length e1) (F I d.quota) (F I d.fuse) (J d.dead)) A1 c1 B1 e1 d):=by
  have HK:=H2.ext T;refine⟨aT h _ _ _ _ _,((((HK.other (by omega) 0 _).other (by omega) 1 _).other (by omega) 2 _).other (by omega) 3 _).other (by omega) 4 _,OwnF.fs (OwnF.box1 HT h),OwnQ.qs (OwnQ.box1 HU h),aS (xT HD T) (xN w.heap.size) _ _ _ _ _⟩
 have key:=yx _ d _ (show DkV (aK w1 w.heap.size (E A1 d.fs.length c1) (E B1 d.q.length e1) (F I d.quota) (F I d.fuse) (J d.dead)) (V #[E A1 d.fs.length c1,E B1 d.q.length e1,F I d.quota,F I d.fuse,J d.dead]) d from⟨_,_,rfl,H.f,H.q⟩) (by omega) (by omega) (by omega);have Hq:=L key;have ea:=aH h;clear y z C G o;obtain⟨y,z,C,G,o⟩:=ae h;clear key HT HU h T U H0 H2 HD;go_wp2_with fail
 refine Hq.mono ?_;rintro e w2⟨rfl,T⟩;replace H:=L (H.ext T);clear y z C G o T Hq ea;obtain⟨y,z,C,G,o⟩:=ae H.b0;rcases hr:d.right with _ | _
 case false=>
  have e1:S=(d,2):=by rw[<-K.out,AW (m:=2) (by unfold Dk.may;rw[hr];rfl) (by decide)]
  subst e1;clear K;have H3:=H.b2;have s:=P0 H3 H.f (E A1 d.fs.length c1) (E B1 d.q.length e1) (F I d.quota) (F I d.fuse) (J d.dead);have x:=Qs.setBox H3 H.q (E A1 d.fs.length c1) (E B1 d.q.length e1) (F I d.quota) (F I d.fuse) (J d.dead);have Hl:=L (aT H3 (E A1 d.fs.length c1) (E B1 d.q.length e1) (F I d.quota) (F I d.fuse) (J d.dead));have Z:=L (aS H.e (by omega:w.heap.size<=w.heap.size+1) (E A1 d.fs.length c1) (E B1 d.q.length e1) (F I d.quota) (F I d.fuse) (J d.dead));have Hn:=L s;have Ho:=L x;have eb:=ae H3;have ec:=aH H3;clear H3 s x;go_wp2_with fail
  refine bodyPost_ret (rh _ _ _ _ _ rfl rfl Hl rfl) rfl ?_;exact⟨⟨_,rfl,⟨_,_,rfl,Hn.out,Ho.out⟩⟩,Z.out⟩
 rcases a:d.dead with _ | _
 case true=>
  have e1:S=(d,40):=by rw[<-K.out,AW (m:=40) (by unfold Dk.may;rw[hr,a];rfl) (by decide)]
  subst e1;clear K hr;rw[a]at o;have Y:=L a;clear a;have H3:=H.b2;have s:=P0 H3 H.f (E A1 d.fs.length c1) (E B1 d.q.length e1) (F I d.quota) (F I d.fuse) (J true);have x:=Qs.setBox H3 H.q (E A1 d.fs.length c1) (E B1 d.q.length e1) (F I d.quota) (F I d.fuse) (J true);have Hl:=L (aT H3 (E A1 d.fs.length c1) (E B1 d.q.length e1) (F I d.quota) (F I d.fuse) (J true));have Z:=L (aS H.e (by omega:w.heap.size<=w.heap.size+1) (E A1 d.fs.length c1) (E B1 d.q.length e1) (F I d.quota) (F I d.fuse) (J true));have Hn:=L s;have Ho:=L x;have eb:=ae H3;have ec:=aH H3;clear H3 s x;go_wp2_with fail
  refine bodyPost_ret (rh _ _ _ _ _ rfl rfl Hl rfl) rfl ?_;exact⟨⟨_,rfl,⟨_,_,by rw[Y.out],Hn.out,Ho.out⟩⟩,Z.out⟩
 rw[a]at o;have e1:S=(Dk.burn { d with fs:=d.now,q:=[] },0):=by rw[<-K.out];unfold Dk.syncS;rw[if_neg (by rw[show d.may=0 by unfold Dk.may;rw[hr,a];rfl];decide)]
 subst e1;have Y:=L a;clear hr a K;have key:=lH _ d w2 (show DkV w2 (V #[E A1 d.fs.length c1,E B1 d.q.length e1,F I d.quota,F I d.fuse,J false]) d from⟨_,_,by rw[Y.out],H.f,H.q⟩) (by omega) (by omega);have U:=L key;clear key;go_wp2_with fail
 refine U.mono ?_;rintro e w4⟨⟨a,rfl,Ht⟩,HI⟩;obtain⟨i,j,rfl,_,_⟩:=P1 Ht;replace H:=L (H.ext HI);clear U HI y z C G o;obtain⟨g,a⟩:∃l,d.now=l:=⟨_,rfl⟩;rw[a]at Ht⊢;have KK:=L a;clear a;have h:=H.b0;have a:Blk (w4.setCell ⟨w.heap.size,0,O⟩ (E i g.length j)) w.heap.size 25 (ap i g.length j B1 d.q.length e1 d.quota d.fuse d.dead):=h.set 0 (E i g.length j);have M:=Fs.setBox1 (k:=1) a (Fs.setBox1 (k:=0) h Ht (E i g.length j)) (E none 0 0);have HK:Blk ((w4.setCell ⟨w.heap.size,0,O⟩ (E i g.length j)).setCell ⟨w.heap.size,1,O⟩ (E none 0 0)) w.heap.size 25 (ap i g.length j none 0 0 d.quota d.fuse d.dead):=a.set 1 (E none 0 0);have R:Qs ((w4.setCell ⟨w.heap.size,0,O⟩ (E i g.length j)).setCell ⟨w.heap.size,1,O⟩ (E none 0 0)) (E none 0 0) []:=⟨[],SlR.nil _ 4,RowOf.nil⟩;have Kw:Ext w ((w4.setCell ⟨w.heap.size,0,O⟩ (E i g.length j)).setCell ⟨w.heap.size,1,O⟩ (E none 0 0)):=P3 (p:=⟨w.heap.size,1,O⟩) (P3 (p:=⟨w.heap.size,0,O⟩) H.e (xN _) _) (xN _) _;have K:=((H.b2.other (by omega:w.heap.size+1≠w.heap.size) 0 (E i g.length j)).other (by omega:w.heap.size+1≠w.heap.size) 1 (E none 0 0));have key:=sT (V #[E i g.length j,E none 0 0,F I d.quota,F I d.fuse,J false]) { d with fs:=g,q:=[] } _ ⟨_,_,by rw[Y.out],M,R⟩ K8;have KB:=L key;have OE:=L Kw;have B2:=L K;obtain⟨y,z,C,G,o⟩:=ae h;have ea:=aH h;rw[Y.out]at o;clear key a h M HK R Kw K Ht H;go_wp2_with fail
 refine KB.mono ?_;rintro e a⟨⟨u,rfl,Hj⟩,Hi⟩;obtain⟨D,Hy⟩:∃D,Dk.burn { d with fs:=g,q:=[] }=D:=⟨_,rfl⟩;rw[Hy]at Hj;have K7:=L Hy;obtain⟨a,a,rfl,M,R⟩:=Hj;obtain⟨Af,cf,rfl,_,_⟩:=P1 M;obtain⟨Aq,cq,rfl,_,_⟩:=Qs.open_ R;have H3:=B2.ext Hi;have s:=P0 H3 M (E Af D.fs.length cf) (E Aq D.q.length cq) (F I D.quota) (F I D.fuse) (J D.dead);have x:=Qs.setBox H3 R (E Af D.fs.length cf) (E Aq D.q.length cq) (F I D.quota) (F I D.fuse) (J D.dead);have Hl:=L (aT H3 (E Af D.fs.length cf) (E Aq D.q.length cq) (F I D.quota) (F I D.fuse) (J D.dead));have Z:=L (aS (xT OE Hi) (by omega:w.heap.size<=w.heap.size+1) (E Af D.fs.length cf) (E Aq D.q.length cq) (F I D.quota) (F I D.fuse) (J D.dead));have Hn:=L s;have Ho:=L x;clear y z C G o ea;have eb:=ae H3;have ec:=aH H3;clear H3 s x M R Hi Hy KB OE B2;go_wp2_with fail
 refine bodyPost_ret (rh _ _ _ _ _ rfl rfl Hl rfl) rfl ?_;rw[KK.out];show(∃u,_=Ending.returned (.tuple #[u,F I 0])/\DkV _ u (Dk.burn { d with fs:=g,q:=[] }))/\_;rw[K7.out];exact⟨⟨_,rfl,⟨_,_,rfl,Hn.out,Ho.out⟩⟩,Z.out⟩
theorem mcR8aa0(h:P:=by
 obtain⟨K4,K5,rfl,H9,Ha⟩:=Hj;obtain⟨Af,cf,rfl,_,_⟩:=P1 H9;obtain⟨Aq,cq,rfl,_,_⟩:=Qs.open_ Ha;have HP:=L (H.give Hp H9 Ha (by omega));have H3:=H.br.ext Hp;have eb:=ae H3;have ec:=aH H3;clear H3 H9 Ha Hp H;go_wp2_with fail
 refine bodyPost_ret (te _ _ _ _ _ rfl rfl HP.1 rfl) rfl ?_;exact⟨⟨_,rfl,⟨_,_,rfl,HP.2.1,HP.2.2.1⟩⟩,HP.2.2.2⟩):P:=h
theorem mcR8aa1(h:P:=by
 have HP:=L (H.give (xR _) H.f H.q (by omega));have H3:=H.br;unfold aK at H3;have eb:=ae H3;have ec:=aH H3;clear H3 H;go_wp2_with fail
 refine bodyPost_ret (te _ _ _ _ _ rfl rfl HP.1 rfl) rfl ?_;exact⟨⟨_,rfl,⟨_,_,rfl,HP.2.1,HP.2.2.1⟩⟩,HP.2.2.2⟩):P:=h
theorem eS{cs:Array Value}(h:Blk W b t cs)(f:b≠c)(a v u x y:Value):Blk (aK W c a v u x y) b t cs:=((((h.other f 0 a).other f 1 v).other f 2 u).other f 3 x).other f 4 y
theorem te(tmps:Array Value)(W:World)(b:Nat)(cs:Array Value)(e:Value)(h4:tmps.getD 6 undef=T (R ⟨b,0,O⟩))(h3:tmps.getD 7 undef=e)(hb:Blk W b 25 cs)(hs:cs.size=5):(results Tryz.f18 tmps).run Q W=.ok (.tuple #[.agg cs,e]) W:=by
 have f:tmps[6]?.getD undef=T (R ⟨b,0,O⟩):=by simpa using h4
 have a:tmps[7]?.getD undef=e:=by simpa using h3
 have hl:=hb.load (P:=Q) em rfl (by rw[hs];kernel_rfl);simp[results,results18,f,a,asAddr,hl,P7,P6,P4]
structure Pt (w W:World) (r:Nat) (A:Option Addr) (c:Nat) (B:Option Addr) (e:Nat) (d:Dk):Prop where
 b0:Blk W w.heap.size 25 (ap A d.fs.length c B d.q.length e d.quota d.fuse d.dead)
 br:Blk W r 25 (ap none 0 0 none 0 0 0 0 false)
 f:Fs W (E A d.fs.length c) d.fs
 q:Qs W (E B d.q.length e) d.q
 e:Ext w W
theorem Pt.ext(h:Pt w W r A c B e d)(a:Ext W W'):Pt w W' r A c B e d:=
 ⟨h.b0.ext a,h.br.ext a,h.f.ext a,h.q.ext a,xT h.e a⟩
theorem Pt.dk(h:Pt w W r A c B e d):DkV W (V #[E A d.fs.length c,E B d.q.length e,F I d.quota,F I d.fuse,J d.dead]) d:=⟨_,_,rfl,h.f,h.q⟩
theorem Pt.store{a f:Option Addr}{g i:Nat}{D:Dk}(h:Pt w W r A c B e d)(j:Ext W W')(hf:Fs W' (E a D.fs.length g) D.fs)(k:Qs W' (E f D.q.length i) D.q)(l:w.heap.size<r):Pt w (aK W' w.heap.size (E a D.fs.length g) (E f D.q.length i) (F I D.quota) (F I D.fuse) (J D.dead)) r a g f i D:=
 have hb:=h.b0.ext j
 ⟨aT hb _ _ _ _ _,eS (h.br.ext j) (by omega) _ _ _ _ _,P0 hb hf _ _ _ _ _,Qs.setBox hb k _ _ _ _ _,aS (xT h.e j) (xN _) _ _ _ _ _⟩
theorem Pt.give{a f:Option Addr}{g i:Nat}{D:Dk}(h:Pt w W r A c B e d)(j:Ext W W')(hf:Fs W' (E a D.fs.length g) D.fs)(k:Qs W' (E f D.q.length i) D.q)(l:w.heap.size<r):
  Blk (aK W' r (E a D.fs.length g) (E f D.q.length i) (F I D.quota) (F I D.fuse) (J D.dead)) r 25 (ap a D.fs.length g f D.q.length i D.quota D.fuse D.dead)/\Fs (aK W' r (E a D.fs.length g) (E f D.q.length i) (F I D.quota) (F I D.fuse) (J D.dead)) (E a D.fs.length g) D.fs/\Qs (aK W' r (E a D.fs.length g) (E f D.q.length i) (F I D.quota) (F I D.fuse) (J D.dead)) (E f D.q.length i) D.q/\Ext w (aK W' r (E a D.fs.length g) (E f D.q.length i) (F I D.quota) (F I D.fuse) (J D.dead)):=
 have hb:=h.br.ext j
 ⟨aT hb _ _ _ _ _,P0 hb hf _ _ _ _ _,Qs.setBox hb k _ _ _ _ _,aS (xT h.e j) (Nat.le_of_lt l) _ _ _ _ _⟩
theorem yO(v:Value)(d:Dk)(n:Nat)(k s f:Int)(vb:Value)(b:List UInt8)(w:World)(hS:StW w)(hD:DkV w v d)(hs:Sz n d)(hB:Bs w vb b)(hn:n<=400000)(KC:X b<=100000):
  Calls Q 18 #[v,V #[F U k,F I s,F I f],vb] w λe w'=>(∃u,e=.returned (.tuple #[u,F I (cj d (aE k s f) b).2])/\DkV w' u (cj d (aE k s f) b).1)/\Ext w w':=by
 obtain⟨j,j,rfl,hF,hQ⟩:=hD;obtain⟨A,c,rfl,_,_⟩:=P1 hF;obtain⟨B,e2,rfl,_,_⟩:=Qs.open_ hQ;obtain⟨C,c2,rfl,_,_⟩:=xO hB;obtain⟨j,D⟩:∃j,((w.alloc (N #[E A d.fs.length c,E B d.q.length e2,F I d.quota,F I d.fuse,J d.dead] 25)).alloc (N #[F U k,F I s,F I f] 32)).alloc (N #[E none 0 0,E none 0 0,F I 0,F I 0,J false] 25)=j:=⟨_,rfl⟩;have G:Ext w j:=by rw[<-D];exact xA (xA (xA (xR _) _) _) _
 have h0:Blk j w.heap.size 25 (ap A d.fs.length c B d.q.length e2 d.quota d.fuse d.dead):=by rw[<-D];exact((P2 w _ _).alloc _).alloc _
 have h1:Blk j (w.heap.size+1) 32 #[F U k,F I s,F I f]:=by
  rw[<-D];have:=(P2 (w.alloc (N #[E A d.fs.length c,E B d.q.length e2,F I d.quota,F I d.fuse,J d.dead] 25)) 32 #[F U k,F I s,F I f]).alloc (N #[E none 0 0,E none 0 0,F I 0,F I 0,J false] 25);rwa[xS]at this
 have h2:Blk j (w.heap.size+1+1) 25 (ap none 0 0 none 0 0 0 0 false):=by
  rw[<-D];have:=P2 ((w.alloc (N #[E A d.fs.length c,E B d.q.length e2,F I d.quota,F I d.fuse,J d.dead] 25)).alloc (N #[F U k,F I s,F I f] 32)) 25 #[E none 0 0,E none 0 0,F I 0,F I 0,J false];rwa[xS,xS]at this
 have H:Hid (Pt w j (w.heap.size+1+1) A c B e2 d):=L ⟨h0,h2,hF.ext G,hQ.ext G,G⟩;have HB:=L hB;have y:=L hs;have Y:=L KC;have key:=qp k s f j (hS.ext G);obtain⟨g,j⟩:∃g,aE k s f=g:=⟨_,rfl⟩;rw[j]at key⊢;have a:=L key;obtain⟨S,p⟩:∃S,cj d g b=S:=⟨_,rfl⟩;rw[p];have O:=L p;have m:=ae h0;have ee:=au h1;clear hF hQ G h0 h1 h2 hS j key hB hs KC p;go_enter func18,ntmps18
 go_wp2_with fail;clear D;refine a.mono ?_;rintro e w1⟨rfl,j⟩;replace H:=L (H.ext j);clear a j m ee;have m:=ae H.b0;cases g with
 |none=>
  have key:=mU _ d w1 H.dk (by have:=y.l;omega) (by have:=y.t;omega);have a:=L key;clear key;have hs:=O.out;simp only[cj]at hs;subst hs;clear O;go_wp2_with fail
  refine a.mono ?_;rintro e w2⟨u,rfl,KD,Hp⟩;have Hj:=KD.dk;clear KD a m;exact mcR8aa0
 |some g=>
  have p:=O.out;simp only[cj,putS,ct]at p;have h:=L p;clear p O;have key:=nt _ d (dP g) (E none 0 0) w1 H.dk (SlR.nil _ 1) (by have:=y.l;omega) (by have:=y.t;omega) (by simp[dP]) y.f;have j:=L (y.doS (dP g));obtain⟨⟨z,r1⟩,Ke⟩:∃x,d.doS (dP g)=x:=⟨_,rfl⟩;have hs:=h.out;rw[Ke]at key hs;dsimp only[dP,sv,List.length_nil]at key j hs;have R:=L (show Sz (n+1) z by have:=j.out;rw[show(d.doS ⟨1,g,[],[]⟩).1=z from congrArg Prod.fst Ke]at this;exact this);have a:=L key;replace h:=L hs;clear key hs Ke j;simp only[Option.isSome,Option.getD,sv];go_wp2_with fail
  refine a.mono ?_;rintro e w2⟨⟨u,rfl,Hj⟩,Hp⟩;dsimp only at Hj⊢;clear a m;obtain⟨K4,K5,rfl,H9,Ha⟩:=Hj;obtain⟨j,j,rfl,_,_⟩:=P1 H9;obtain⟨j,e3,rfl,_,_⟩:=Qs.open_ Ha;have o:=H.b0.ext Hp;have m:=ae o;have Z:=aH o;replace H:=L (H.store Hp H9 Ha (by omega));clear o H9 Ha Hp;by_cases i:r1=0
  case neg=>
   have hs:=h.out;rw[if_neg i]at hs;subst hs;have KT:(r1 != 0)=true:=by simpa using i
   clear h i;exact mcR8aa1
  have hs:=h.out;rw[if_pos i]at hs;replace h:=L hs;subst i;clear hs;have key:=nt _ z (d8 g b) (E C b.length c2) _ H.dk (HB.ext H.e) (by have:=R.l;omega) (by have:=R.t;omega) (by have:=Y.out;exact this) R.f;have Kb:=L (R.doS (d8 g b));obtain⟨⟨M,r2⟩,i⟩:∃x,z.doS (d8 g b)=x:=⟨_,rfl⟩;have hs:=h.out;rw[i]at key hs;dsimp only[d8,sv]at key Kb hs;have T:=L (show Sz (n+1+1+X b) M by have:=Kb.out;rw[show(z.doS ⟨2,g,[],b⟩).1=M from congrArg Prod.fst i]at this;exact this);have a:=L key;replace h:=L hs;clear key hs i Kb;go_wp2_with fail
  refine a.mono ?_;rintro e g⟨⟨u,rfl,Hj⟩,Hp⟩;dsimp only at Hj⊢;clear a m Z;obtain⟨K4,K5,rfl,H9,Ha⟩:=Hj;obtain⟨g,g,rfl,_,_⟩:=P1 H9;obtain⟨g,g,rfl,_,_⟩:=Qs.open_ Ha;have o:=H.b0.ext Hp;have m:=ae o;have Z:=aH o;replace H:=L (H.store Hp H9 Ha (by omega));clear o H9 Ha Hp;by_cases K:r2=0
  case neg=>
   have hs:=h.out;rw[if_neg K]at hs;subst hs;have KT:(r2 != 0)=true:=by simpa using K
   clear h K;exact mcR8aa1
  have hs:=h.out;rw[if_pos K]at hs;simp only[if_true]at hs;subst K;clear h;have key:=yS _ M _ H.dk (by have:=T.l;have:=Y.out;omega) (by have:=T.t;have:=Y.out;omega) T.f;obtain⟨⟨g,g⟩,Ku⟩:∃x,M.syncS=x:=⟨_,rfl⟩;rw[Ku]at key hs;have a:=L key;subst hs;clear key Ku;go_wp2_with fail
  refine a.mono ?_;rintro e g⟨⟨u,rfl,Hj⟩,Hp⟩;dsimp only at Hj⊢;clear a m Z;exact mcR8aa0
