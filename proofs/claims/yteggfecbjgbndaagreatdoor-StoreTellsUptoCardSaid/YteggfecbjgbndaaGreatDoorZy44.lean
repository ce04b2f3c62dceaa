/- Merged -/
import Derived.Test.YteggfecbjgbndaaGreatDoorZy34
import Derived.Test.YteggfecbjgbndaaGreatDoorZy43
import Derived.Lib.SlBytesConst
set_option linter.all false
set_option maxHeartbeats 8000000
set_option maxRecDepth 100000
open Go.Proofs.Tryz
open Go.Value renaming int->E,slice->G,bool->L,pointer->Q,agg->U
open Go.IntKind renaming i64->F
open Go.Obj renaming cells->I
open Go.Mv renaming aN->J
open Go.Proofs.Tryz renaming prog->M
open Option renaming some->N,none->O
open List renaming length_nil->P0
open Go.Mv.Blk renaming new->P1
namespace Go.Proofs.YteggfecbjgbndaaGreatDoor
open Go.RowKit Go.Mv Go.Shelf
theorem mcR8ca0{P:Prop}(h:P:=by
 have HP:=J (H.give (xR _) H.f H.q (by omega));have Ha:=H.br;unfold aK at Ha;have ec:=ae Ha;have ed:=aH Ha;clear Ha H;go_wp2_with fail
 refine bodyPost_ret (pE _ _ _ _ _ rfl rfl HP.1 rfl) rfl ?_;exact⟨⟨_,rfl,⟨_,_,rfl,HP.2.1,HP.2.2.1⟩⟩,HP.2.2.2⟩):P:=h
theorem pE(tmps:Array Value)(W:World)(b:Nat)(cs:Array Value)(e:Value)(h4:tmps.getD 4 undef=Q (N ⟨b,0,O⟩))(h3:tmps.getD 5 undef=e)(hb:Blk W b 25 cs)(hs:cs.size=5):(results Tryz.f23 tmps).run M W=.ok (.tuple #[.agg cs,e]) W:=by
 have c:tmps[4]?.getD undef=Q (N ⟨b,0,O⟩):=by simpa using h4
 have a:tmps[5]?.getD undef=e:=by simpa using h3
 have hl:=hb.load (P:=M) em rfl (by rw[hs];kernel_rfl);simp[results,results23,c,a,asAddr,hl,Sem.run_bind,Sem.run_pure,Result.andThen_ok]
theorem Sz.putS{n:Nat}{d:Dk}(h:Sz n d)(x b:List UInt8):Sz (n+2+b.length) (putS d x b).1:=by
 have h1:=Sz.does [dP x,d8 x b] true h;refine Sz.mono h1 ?_;simp[aL,dP,d8]
theorem FB(v:Value)(d:Dk)(n:Nat)(m:Mf)(vs:Value)(w:World)(hS:StW w)(hD:DkV w v d)(hs:Sz n d)(hn:n<=90000)(hG:Sgs w vs m.segs)(KH:m.segs.length<=1000000)(KF:(cY m).length<=1000000)(K0:∀b,bj m=N b->b.length<=100000):
  Calls M 23 #[v,U #[E F m.next,E F m.term,E F m.vote,E F m.sq,E F m.sf,vs]] w λe w'=>(∃u,e=.returned (.tuple #[u,E F (eL d m).2])/\DkV w' u (eL d m).1)/\Ext w w':=by
 obtain⟨vf,vq,rfl,hF,hQ⟩:=hD;obtain⟨A,c,rfl,_,_⟩:=Fs.open_ hF;obtain⟨B,e2,rfl,_,_⟩:=Qs.open_ hQ;obtain⟨C,c2,rfl,_,_⟩:=hG.open_;obtain⟨R,HI⟩:∃R,((w.alloc (I #[G A d.fs.length c,G B d.q.length e2,E F d.quota,E F d.fuse,L d.dead] 25)).alloc (I #[E F m.next,E F m.term,E F m.vote,E F m.sq,E F m.sf,G C m.segs.length c2] 30)).alloc (I #[G none 0 0,G none 0 0,E F 0,E F 0,L false] 25)=R:=⟨_,rfl⟩;have Z:Ext w R:=by rw[<-HI];exact xA (xA (xA (xR _) _) _) _
 have h0:Blk R w.heap.size 25 (ap A d.fs.length c B d.q.length e2 d.quota d.fuse d.dead):=by rw[<-HI];exact((P1 w _ _).alloc _).alloc _
 have h1:Blk R (w.heap.size+1) 30 #[E F m.next,E F m.term,E F m.vote,E F m.sq,E F m.sf,G C m.segs.length c2]:=by
  rw[<-HI];have:=(P1 (w.alloc (I #[G A d.fs.length c,G B d.q.length e2,E F d.quota,E F d.fuse,L d.dead] 25)) 30 #[E F m.next,E F m.term,E F m.vote,E F m.sq,E F m.sf,G C m.segs.length c2]).alloc (I #[G none 0 0,G none 0 0,E F 0,E F 0,L false] 25);rwa[xS]at this
 have h2:Blk R (w.heap.size+1+1) 25 (ap none 0 0 none 0 0 0 0 false):=by
  rw[<-HI];have:=P1 ((w.alloc (I #[G A d.fs.length c,G B d.q.length e2,E F d.quota,E F d.fuse,L d.dead] 25)).alloc (I #[E F m.next,E F m.term,E F m.vote,E F m.sq,E F m.sf,G C m.segs.length c2] 30)) 25 #[G none 0 0,G none 0 0,E F 0,E F 0,L false];rwa[xS,xS]at this
 have H:Hid (Pt w R (w.heap.size+1+1) A c B e2 d):=J ⟨h0,h2,hF.ext Z,hQ.ext Z,Z⟩;have j:=J h1;have Kt:=J hS;have HG:=J hG;have HZ:=J hs;have KP:=J KH;have KO:=J KF;have Q:=J hn;have Kb:=J K0;have key:=AM m _ R (hG.ext Z);have P:=ae h0;have ea:=aj h1;obtain⟨S,HH⟩:∃S,eL d m=S:=⟨_,rfl⟩;rw[HH];unfold eL at HH;obtain⟨pm,KJ⟩:∃pm,bj m=pm:=⟨_,rfl⟩;rw[KJ]at key HH K0;have k:=J key;have i:=J HH;have Kb:=J K0;clear hF hQ Z h0 h1 h2 hS hG hs KH KF K0 KJ key HH hn;go_enter func23,ntmps23
 go_wp2_with fail;clear HI;refine k.mono ?_;rintro e w1⟨⟨vb,rfl,HK⟩,H9⟩;replace H:=J (H.ext H9);replace j:=J (j.ext H9);clear k H9 ea P;have P:=ae H.b0;cases pm with
 |none=>
  dsimp only[Option.isSome,Option.getD]at HK⊢;have hs:=i.out;dsimp only at hs;subst hs;have key:=mU _ d w1 H.dk (by have:=HZ.l;have:=Q.out;omega) (by have:=HZ.t;have:=Q.out;omega);have k:=J key;clear key i HK;go_wp2_with fail
  refine k.mono ?_;rintro e w2⟨u,rfl,KE,a⟩;have o:=KE.dk;clear KE k P;obtain⟨K2,K3,rfl,g,H3⟩:=o;obtain⟨Af,cf,rfl,_,_⟩:=Fs.open_ g;obtain⟨Aq,cq,rfl,_,_⟩:=Qs.open_ H3;have HP:=J (H.give a g H3 (by omega));have Ha:=H.br.ext a;have ec:=ae Ha;have ed:=aH Ha;clear Ha g H3 a H;go_wp2_with fail
  refine bodyPost_ret (pE _ _ _ _ _ rfl rfl HP.1 rfl) rfl ?_;exact⟨⟨_,rfl,⟨_,_,rfl,HP.2.1,HP.2.2.1⟩⟩,HP.2.2.2⟩
 |some b=>
  dsimp only[Option.isSome,Option.getD]at HK⊢;have Hp:Bs w1 vb b:=xW HK;obtain⟨Ab,cb,rfl,_,_⟩:=xO Hp;have Y:=J (Kb b rfl);have hs:=i.out;dsimp only[l7]at hs;have key:=yO _ d n 2 0 0 _ b w1 (Kt.ext H.e) H.dk HZ Hp (by have:=Q.out;omega) Y;rw[show aE 2 0 0=N bq from by rfl]at key;dsimp only[cj]at key;have Hs:=HZ.putS bq b;obtain⟨⟨V,r1⟩,Kx⟩:∃x,putS d bq b=x:=⟨_,rfl⟩;rw[Kx]at key hs Hs;dsimp only at key hs Hs;have k:=J key;replace i:=J hs;have HV:=J Hs;clear key hs Kx Hs HK Hp Kb;go_wp2_with fail
  refine k.mono ?_;rintro e w2⟨⟨u,rfl,o⟩,a⟩;dsimp only at o⊢;clear k P;obtain⟨K2,K3,rfl,g,H3⟩:=o;obtain⟨A2,c3,rfl,_,_⟩:=Fs.open_ g;obtain⟨B2,e3,rfl,_,_⟩:=Qs.open_ H3;have s:=H.b0.ext a;have P:=ae s;have ee:=aH s;replace H:=J (H.store a g H3 (by omega));replace j:=J (eS (j.ext a) (by omega:w.heap.size+1≠w.heap.size) (G A2 V.fs.length c3) (G B2 V.q.length e3) (E F V.quota) (E F V.fuse) (L V.dead));clear s g H3 a;by_cases y:r1=0
  case neg=>
   have hs:=i.out;rw[if_pos y]at hs;subst hs;have KK:(r1 != 0)=true:=by simpa using y
   clear i y;exact mcR8ca0
  have hs:=i.out;rw[if_neg (by simpa using y)]at hs;subst y;have key:=nt _ V (dM bq dm) (G none 0 0) _ H.dk (SlR.nil _ 1) (by have:=HV.l;have:=Y.out;have:=Q.out;omega) (by have:=HV.t;have:=Y.out;have:=Q.out;omega) (by decide) HV.f;have Ht:=HV.doS (dM bq dm);simp only[ct]at hs;obtain⟨⟨X,r2⟩,Ky⟩:∃x,V.doS (dM bq dm)=x:=⟨_,rfl⟩;rw[Ky]at key hs Ht;dsimp only[dM,bq,dm,sv,P0]at key hs Ht;have k:=J key;replace i:=J hs;have HW:=J Ht;clear key hs Ky Ht;go_wp2_with fail
  refine k.mono ?_;rintro e w4⟨⟨u,rfl,o⟩,a⟩;dsimp only at o⊢;clear k P ee;obtain⟨K2,K3,rfl,g,H3⟩:=o;obtain⟨A4,c4,rfl,_,_⟩:=Fs.open_ g;obtain⟨B4,e4,rfl,_,_⟩:=Qs.open_ H3;have s:=H.b0.ext a;have P:=ae s;have ee:=aH s;replace H:=J (H.store a g H3 (by omega));replace j:=J (eS (j.ext a) (by omega:w.heap.size+1≠w.heap.size) (G A4 X.fs.length c4) (G B4 X.q.length e4) (E F X.quota) (E F X.fuse) (L X.dead));clear s g H3 a;by_cases p:r2=0
  case neg=>
   have hs:=i.out;rw[if_neg p,if_pos p]at hs;subst hs;have KK:(r2 != 0)=true:=by simpa using p
   clear i p;exact mcR8ca0
  have hs:=i.out;simp only[if_pos p,if_true]at hs;subst p;have key:=yS _ X _ H.dk (by have:=HW.l;have:=Y.out;have:=Q.out;omega) (by have:=HW.t;have:=Y.out;have:=Q.out;omega) HW.f;have K1:=HW.sync;obtain⟨⟨r,r3⟩,HB⟩:∃x,X.syncS=x:=⟨_,rfl⟩;rw[HB]at key hs K1;dsimp only at key hs K1;have k:=J key;replace i:=J hs;have KY:=J K1;clear key hs HB K1;go_wp2_with fail
  refine k.mono ?_;rintro e w6⟨⟨u,rfl,o⟩,a⟩;dsimp only at o⊢;clear k P ee;obtain⟨K2,K3,rfl,g,H3⟩:=o;obtain⟨A6,c6,rfl,_,_⟩:=Fs.open_ g;obtain⟨B6,e6,rfl,_,_⟩:=Qs.open_ H3;have s:=H.b0.ext a;have P:=ae s;have ee:=aH s;replace H:=J (H.store a g H3 (by omega));replace j:=J (eS (j.ext a) (by omega:w.heap.size+1≠w.heap.size) (G A6 r.fs.length c6) (G B6 r.q.length e6) (E F r.quota) (E F r.fuse) (L r.dead));clear s g H3 a;by_cases z:r3=0
  case neg=>
   have hs:=i.out;rw[if_pos z]at hs;subst hs;have KK:(r3 != 0)=true:=by simpa using z
   clear i z;exact mcR8ca0
  have hs:=i.out;rw[if_neg (by simpa using z)]at hs;subst z;clear i;go_wp2_with fail;clear P ee;refine wp_region_held_drew (S:=λW=>(W.cell? ⟨w.heap.size,0,O⟩=N (G A6 r.fs.length c6)/\W.cell? ⟨w.heap.size,1,O⟩=N (G B6 r.q.length e6)/\W.cell? ⟨w.heap.size,2,O⟩=N (E F r.quota)/\W.cell? ⟨w.heap.size,3,O⟩=N (E F r.fuse)/\W.cell? ⟨w.heap.size,4,O⟩=N (L r.dead))/\(W.cell? ⟨w.heap.size+1,0,O⟩=N (E F m.next)/\W.cell? ⟨w.heap.size+1,1,O⟩=N (E F m.term)/\W.cell? ⟨w.heap.size+1,2,O⟩=N (E F m.vote)/\W.cell? ⟨w.heap.size+1,3,O⟩=N (E F m.sq)/\W.cell? ⟨w.heap.size+1,4,O⟩=N (E F m.sf)/\W.cell? ⟨w.heap.size+1,5,O⟩=N (G C m.segs.length c2))) (by kernel_rfl) ⟨ae H.b0,aj j⟩ (λ_=>?_);refine ab 0 ?_;refine ab 1 ?_;refine ah 2 (λK hK=>?_);go_simp;refine(MZ m _ _ (HG.ext (xT H.e (xD (xR _)))) KP).mono ?_;rintro e w7⟨vk,rfl,hk,HF⟩;have Ki:=xT (xD (xR _)) HF;replace H:=J (H.ext Ki);replace j:=J (j.ext Ki);clear Ki HF;refine af hK _ _ ⟨ae H.b0,aj j⟩ (λ_=>?_);refine ah 3 (λK hK=>?_);go_simp;refine(yv _ r _ _ (cY m) w7 (Kt.ext H.e) H.dk KY (xW hk) KO (by have:=Y.out;have:=Q.out;omega)).mono ?_;rintro e w8⟨⟨u,rfl,o⟩,a⟩;clear hk;obtain⟨T,hT⟩:∃T,eQ r (aA (cY m))=T:=⟨_,rfl⟩;rw[hT]at o hs;subst hs;obtain⟨D,r9⟩:=T;dsimp only at o;refine af hK _ _ ⟨ae (H.b0.ext a),aj (j.ext a)⟩ (λ_=>?_);refine ab 4 ?_;refine ab 5 ?_;obtain⟨K2,K3,rfl,g,H3⟩:=o;obtain⟨Af,cf,rfl,_,_⟩:=Fs.open_ g;obtain⟨Aq,cq,rfl,_,_⟩:=Qs.open_ H3;have HP:=J (H.give a g H3 (by omega));have KR:=J (eS (H.b0.ext a) (by omega:w.heap.size≠w.heap.size+1+1) (G Af D.fs.length cf) (G Aq D.q.length cq) (E F D.quota) (E F D.fuse) (L D.dead));have KT:=J (eS (j.ext a) (by omega:w.heap.size+1≠w.heap.size+1+1) (G Af D.fs.length cf) (G Aq D.q.length cq) (E F D.quota) (E F D.fuse) (L D.dead));have Ha:=H.br.ext a;have ec:=ae Ha;have ed:=aH Ha;clear Ha g H3 a H j;refine ah 6 (λK hK=>?_);go_simp;show K _ (aK w8 (w.heap.size+1+1) (G Af D.fs.length cf) (G Aq D.q.length cq) (E F D.quota) (E F D.fuse) (L D.dead));refine af hK _ _ ⟨ae KR,aj KT⟩ (λ_=>?_);refine ab 7 ?_;refine aq ?_;clear ec ed;go_wp2_with fail
  refine bodyPost_ret (pE _ _ _ _ _ rfl rfl HP.1 rfl) rfl ?_;exact⟨⟨_,rfl,⟨_,_,rfl,HP.2.1,HP.2.2.1⟩⟩,HP.2.2.2⟩
theorem IP(tmps:Array Value)(W:World)(b c:Nat)(cs a:Array Value)(u:Value)(h2:tmps.getD 2 undef=Q (N ⟨b,0,O⟩))(h3:tmps.getD 3 undef=Q (N ⟨c,0,O⟩))(h4:tmps.getD 4 undef=u)(hb:Blk W b 44 cs)(hc:Blk W c 30 a)(hs:cs.size=8)(hd:a.size=6):(results Tryz.f14 tmps).run M W=.ok (.tuple #[.agg cs,.agg a,u]) W:=by
 have hl:=hb.load (P:=M) oG rfl (by rw[hs];kernel_rfl);have hm:=hc.load (P:=M) lP rfl (by rw[hd];kernel_rfl);have a:tmps[2]?.getD undef=Q (N ⟨b,0,O⟩):=by simpa using h2
 have d:tmps[3]?.getD undef=Q (N ⟨c,0,O⟩):=by simpa using h3
 have e:tmps[4]?.getD undef=u:=by simpa using h4
 simp[results,results14,a,d,e,asAddr,hl,hm]
theorem F1(v:Value)(d:Dk)(n:Nat)(w:World)(W:StW w)(hD:DkV w v d)(hn:n<=100000)(hs:Sz n d):Calls M 14 #[v] w (TellO w (b9 d.now)):=by
 obtain⟨R,O⟩:∃R,b9 d.now=R:=⟨_,rfl⟩;rw[O];have HR:=J O;clear O;obtain⟨vf,vq,rfl,N,y⟩:=hD;obtain⟨A,c,rfl,_,_⟩:=Fs.open_ N;obtain⟨xs,K,H3⟩:=y;obtain⟨B,e,rfl,_,_⟩:=xO K;have y:Qs w (G B d.q.length e) d.q:=⟨xs,K,H3⟩;clear K H3;obtain⟨z1,Hs⟩:∃x:Array Value,#[E F 0,E F 0,E F 0,E F 0,L false,G none 0 0,E F 0,E F 0]=x:=⟨_,rfl⟩;obtain⟨z2,Ht⟩:∃x:Array Value,#[E F 0,E F 0,E F 0,E F 0,E F 0,G none 0 0]=x:=⟨_,rfl⟩;obtain⟨h,T⟩:∃x:Array Value,#[G A d.fs.length c,G B d.q.length e,E F d.quota,E F d.fuse,L d.dead]=x:=⟨_,rfl⟩;have j:Ext w (((w.alloc (I h 25)).alloc (I z1 44)).alloc (I z2 30)):=xA (xA (xA (xR _) _) _) _;have U:=((P1 w 25 h).alloc (I z1 44)).alloc (I z2 30);have b1:=(P1 (w.alloc (I h 25)) 44 z1).alloc (I z2 30);have b2:=P1 ((w.alloc (I h 25)).alloc (I z1 44)) 30 z2;rw[xS]at b1;rw[xS,xS]at b2;have P:DkV (((w.alloc (I h 25)).alloc (I z1 44)).alloc (I z2 30)) (.agg h) d:=by
  subst T;exact⟨_,_,rfl,N.ext j,y.ext j⟩
 have key:=lH _ d _ P (by have:=hs.l;omega) (by have:=hs.t;omega);have S:=W.ext j;subst T Hs Ht;have hl:d.now.length<=4000000:=by have:=fR d;have:=hs.l;omega
 have hb:∀f∈d.now,f.2.length<=100000:=λf hf=>by have h1:=iW hf;have h2:=lY d;have h3:=hs.t;omega
 have ec:=ae U;have Y:=J key;have HX:=J j;have HS:=J S;have HQ:=J b1;have HT:=J b2;have Z:=J hl;have He:=J hb;clear key j S U b1 b2 hl hb P N y W hs hn;go_enter func14,ntmps14
 go_wp2_with fail
 refine Y.mono ?_;rintro e1 X⟨⟨v1,rfl,H⟩,i⟩;obtain⟨A1,c1,rfl,_,_⟩:=Fs.open_ H;have C:=yw _ d.now X (HS.ext i) H Z (λf hf=>by have:=He f hf;omega);rw[HR.out]at C;have Kf:=J C;have Q:=J (xT HX i);have K5:=J (HQ.ext i);have K6:=J (HT.ext i);clear C i H ec;go_wp2_with fail
 refine Kf.mono ?_;obtain⟨er,t,m⟩:=R;rintro e2 w2⟨vl,vs,rfl,k,H8,r⟩;dsimp only at k H8⊢;obtain⟨a,g,rfl,_,_⟩:=xO (OwnE.es k);obtain⟨b,cs,rfl,_,_⟩:=Sgs.open_ (OwnS.sgs H8);have p:=K5.ext r;have z:=K6.ext r;have Kw:w.heap.size<=X.heap.size:=Q.size;have V:=xT Q r;have o:=dB z (by omega:w.heap.size+1+1≠w.heap.size+1) (E F t.s.idx) (E F t.s.term) (E F t.s.sum) (E F t.s.lvl) (L t.s.fin) (G a t.log.length g) (E F t.term) (E F t.vote);have ea:=aU p;have eb:=cS p;obtain⟨i0,i1,i2,i3,i4,i5⟩:=aj o;obtain⟨j0,j1,j2,j3,j4,j5⟩:=eN o;have H1:=J p;have H2:=J z;have D:=J o;have KN:=J k;have KU:=J H8;have KM:=J V;have Kp:=J Kw;clear p z o k H8 V r Kw;unfold aY at i0 i1 i2 i3 i4 i5 j0 j1 j2 j3 j4 j5;go_wp2_with fail;have Hu:=J (dA (fO H1 (E F t.s.idx) (E F t.s.term) (E F t.s.sum) (E F t.s.lvl) (L t.s.fin) (G a t.log.length g) (E F t.term) (E F t.vote)) (by omega:w.heap.size+1≠w.heap.size+1+1) (E F m.next) (E F m.term) (E F m.vote) (E F m.sq) (E F m.sf) (G b m.segs.length cs));have Hv:=J (cQ D (E F m.next) (E F m.term) (E F m.vote) (E F m.sq) (E F m.sf) (G b m.segs.length cs));refine bodyPost_ret (IP _ _ (w.heap.size+1) (w.heap.size+1+1) _ _ _ rfl rfl rfl Hu Hv rfl rfl) rfl ?_;have J0:=cU D (dQ H1 KN (E F t.s.idx) (E F t.s.term) (E F t.s.sum) (E F t.s.lvl) (L t.s.fin) (G a t.log.length g) (E F t.term) (E F t.vote)) (E F m.next) (E F m.term) (E F m.vote) (E F m.sq) (E F m.sf) (G b m.segs.length cs);have J1:=cU D (dQ H1 KU (E F t.s.idx) (E F t.s.term) (E F t.s.sum) (E F t.s.lvl) (L t.s.fin) (G a t.log.length g) (E F t.term) (E F t.vote)) (E F m.next) (E F m.term) (E F m.vote) (E F m.sq) (E F m.sf) (G b m.segs.length cs);have J2:=dD (iS KM (by omega:w.heap.size<=w.heap.size+1) (E F t.s.idx) (E F t.s.term) (E F t.s.sum) (E F t.s.lvl) (L t.s.fin) (G a t.log.length g) (E F t.term) (E F t.vote)) (by omega:w.heap.size<=w.heap.size+1+1) (E F m.next) (E F m.term) (E F m.vote) (E F m.sq) (E F m.sf) (G b m.segs.length cs);exact⟨G a t.log.length g,G b m.segs.length cs,rfl,ay J0 Kp,ay J1 Kp,J2⟩
def m13:Mf:=⟨1,3,2,0,0,[]⟩
def b13:List UInt8:=[77,1,3,2,0,0,0,49,129,35,90]
def d13:Dk:=⟨[],[],100,0,false⟩
def e13:Dk:=⟨[([77],b13)],[],100,0,false⟩
theorem OY:bj m13=N b13:=by decide
theorem NK:eL d13 m13=(e13,0):=by rfl
theorem PG:eL e13 mf0=(e13,2):=by rfl
theorem OX:e13.now=[([77],b13)]:=by rfl
theorem NL:b9 e13.now=⟨0,⟨⟨0,0,0,1,false⟩,[],3,2⟩,m13⟩:=by rfl
theorem OV:b9 [([77],[120])]=bL 130:=by rfl
theorem OW:b9 []=bL 42:=by rfl
theorem PA:Sz 100 d13:=⟨by decide,by decide,by decide⟩
theorem Ck:Sz 100 e13:=⟨by decide,by decide,by decide⟩
theorem PO(W:World):Qs W (G none 0 0) []:=⟨[],SlR.nil W 4,RowOf.nil⟩
theorem PT(w:World)(a:StW w):Calls M 22 #[U #[G none 0 0,G none 0 0,E F 100,E F 0,L false],U #[E F 1,E F 3,E F 2,E F 0,E F 0,G none 0 0]] w (pj w (e13,0)):=by
 have h:=qN _ d13 100 m13 (G none 0 0) w a (show DkV w (U #[G none 0 0,G none 0 0,E F 100,E F 0,L false]) d13 from⟨_,_,rfl,B0 w,PO w⟩) PA (Sgs.nil w) (by decide) (by decide) (λb hb=>by rw[OY]at hb;cases hb;decide);rw[NK]at h;exact h
theorem Oi(v:Value)(w:World)(a:StW w)(hD:DkV w v e13):Calls M 22 #[v,U #[E F 0,E F 0,E F 0,E F 0,E F 0,G none 0 0]] w (pj w (e13,2)):=by
 have h:=qN v e13 100 mf0 (G none 0 0) w a hD Ck (Sgs.nil w) (by decide) (by decide) (λb hb=>by rw[show bj mf0=none by decide]at hb;cases hb);rw[PG]at h;exact h
theorem Oy(W:World)(x:UInt8):Bs (W.alloc (I #[bv x] 5 (1,2))) (G (N ⟨W.heap.size,0,O⟩) 1 1) [x]:=by
 refine⟨rfl,_,1,rfl,xN _,by simp[maxLen],λ_=>⟨W.heap.size,0,rfl,λj u a=>?_⟩⟩;rw[Nat.zero_add];have hb:(W.alloc (I #[bv x] 5 (1,2))).heap[W.heap.size]?=N (I #[bv x] 5 (1,2)):=World.alloc_heap_new W _;match j,a with
 |0,a=>cases a;unfold World.cell?;rw[hb];rfl
 |j+1,a=>cases a
theorem Cu(w:World)(Q:StW w):Calls M 8 #[] w λe w'=>e=.returned (L true)/\Ext w w':=by
 have key:=qL (G none 0 0) [] w Q (B0 w) (by decide) (λf hf=>by cases hf);rw[OW]at key;have H4:=J key;have m:=J Q;clear key Q;go_enter func8,ntmps8
 go_wp2_with fail
 refine H4.mono ?_;rintro e Q⟨vl,vs,rfl,d,H8,H9⟩;obtain⟨Q,Q,rfl,_,_⟩:=xO d;obtain⟨Q,Q,rfl,_,_⟩:=Sgs.open_ H8;have Q:=J H9;clear d H8 H9 H4;dsimp only[bL,eT,mf0,staZ];go_wp2_with fail
 have HE:=λa b=>xA (xA Q a) b;refine(Md 100 (by decide) _).mono ?_;rintro e w2⟨rfl,Q⟩;have C:Hid (Ext w w2):=J (xT (HE _ _) Q);clear HE Q;go_wp2_with fail
 refine(PT _ (m.ext C)).mono ?_;rintro e s⟨u,rfl,⟨t,T,v,e3,rfl,of,r⟩,Q⟩;have Kr:=J (xT C Q);clear Q;dsimp only;go_wp2_with fail
 have H6:DkV s (U #[G t e13.fs.length T,G v e13.q.length e3,E F e13.quota,E F e13.fuse,L e13.dead]) e13:=⟨_,_,rfl,OwnF.fs of,OwnQ.qs r⟩;have hbd:=P1 s 25 #[G t e13.fs.length T,G v e13.q.length e3,E F e13.quota,E F e13.fuse,L e13.dead];have Q:Ext s (s.alloc (I #[G t e13.fs.length T,G v e13.q.length e3,E F e13.quota,E F e13.fuse,L e13.dead] 25)):=xA (xR _) _;have Kq:=J hbd;have D:=J (xT Kr Q);have B:=J (H6.ext Q);clear H6 hbd Q of r C Kr;have S:=ID _ e13 100 _ (m.ext D) B (by decide) Ck;rw[NL]at S;refine S.mono ?_;rintro e c⟨vl,vs,rfl,d,H8,n⟩;clear S;obtain⟨A4,c4,rfl,_,_⟩:=xO d;obtain⟨A5,c5,rfl,_,_⟩:=Sgs.open_ H8;dsimp only[m13,P0];have H:=J (xT D n);have Hw:=J (Kq.ext n);have Hy:=J (B.ext n);clear d H8 n D Kq B;obtain⟨j,J3⟩:∃x:Array Value,#[E F 0,E F 0,E F 0,E F 1,L false,G A4 0 c4,E F 3,E F 2]=x:=⟨_,rfl⟩;obtain⟨k,J4⟩:∃x:Array Value,#[E F 1,E F 3,E F 2,E F 0,E F 0,G A5 0 c5]=x:=⟨_,rfl⟩;have y:=(((P1 c 44 j).alloc (I k 30)).alloc (I #[E .u8 120] 5 (1,2))).alloc (I #[sv [77],G (N ⟨c.heap.size+1+1,0,O⟩) 1 1] 68);have p:=((P1 (c.alloc (I j 44)) 30 k).alloc (I #[E .u8 120] 5 (1,2))).alloc (I #[sv [77],G (N ⟨c.heap.size+1+1,0,O⟩) 1 1] 68);rw[xS]at p;have g:Ext c ((((c.alloc (I j 44)).alloc (I k 30)).alloc (I #[E .u8 120] 5 (1,2))).alloc (I #[sv [77],G (N ⟨c.heap.size+1+1,0,O⟩) 1 1] 68)):=xA (xA (xA (xA (xR _) _) _) _) _;have Hp:Bs (((c.alloc (I j 44)).alloc (I k 30)).alloc (I #[E .u8 120] 5 (1,2))) (G (N ⟨c.heap.size+1+1,0,O⟩) 1 1) [120]:=by
  have:=Oy ((c.alloc (I j 44)).alloc (I k 30)) 120;rw[xS,xS]at this;exact this
 have R:=PC _ [77] [120] _ Hp;rw[xS,xS,xS]at R;have o:=qL _ [([77],[120])] _ (m.ext (xT H g)) R (by decide) (λf hf=>by
  obtain rfl:f=([77],[120]):=by simpa using hf
  decide)
 rw[OV]at o;unfold sv at o y p g;have HA:=J o;have HQ:=J y;have HT:=J p;have Kv:=J (xT H g);have Hx:=J (Hw.ext g);have Hz:=J (Hy.ext g);clear o y p g Hp R H Hw Hy;have KD:=Lib.run_convert_bytes_const (P:=M) ((c.alloc (I j 44)).alloc (I k 30)) 33 5 #[E .u8 120] 1 1 underlying33 underlying5;rw[xS,xS]at KD;simp only[List.size_toArray,xC,P0,Nat.zero_add,Nat.reduceAdd]at KD;subst J3 J4;go_wp2_with fail
 refine HA.mono ?_;rintro e w5⟨vl,vs,rfl,d,H8,Hl⟩;obtain⟨c,c,rfl,_,_⟩:=xO d;obtain⟨c,c,rfl,_,_⟩:=Sgs.open_ H8;dsimp only[bL,eT,mf0,staZ,P0];have Ke:=J (xT Kv Hl);have z:=J (Hx.ext Hl);have A:=J (Hz.ext Hl);have Ku:=J (HQ.ext Hl);have Ks:=J (HT.ext Hl);clear d H8 Hl Kv Hx Hz HQ HT HA;have l:=λa b=>(xA (xA (xR w5) a) b:Ext w5 ((w5.alloc a).alloc b));have i:=λa b=>z.ext (l a b);have V:=λa b=>(ae (i a b)).1;have W:=λa b=>(ae (i a b)).2.1;have X:=λa b=>(ae (i a b)).2.2.1;have Y:=λa b=>(ae (i a b)).2.2.2.1;have Z:=λa b=>(ae (i a b)).2.2.2.2;go_wp2_with fail
 refine(Oi _ _ (m.ext (xT Ke (l _ _))) (A.ext (l _ _))).mono ?_;rintro e w8⟨u,rfl,⟨b,b,b,b,rfl,of,r⟩,c⟩;have b:=xT (l _ _) c;have KW:=J (xT Ke b);have d:=J (z.ext b);have g:=J (A.ext b);have k:=J (Ku.ext b);have j:=J (Ks.ext b);clear l i c b of r V W X Y Z Ke z A Ku Ks;dsimp only;have h:=λa=>(xA (xR w8) a:Ext w8 (w8.alloc a));have b:=λa=>d.ext (h a);have c:=λa=>k.ext (h a);have d:=λa=>j.ext (h a);have V:=λa=>(ae (b a)).1;have W:=λa=>(ae (b a)).2.1;have X:=λa=>(ae (b a)).2.2.1;have Y:=λa=>(ae (b a)).2.2.2.1;have Z:=λa=>(ae (b a)).2.2.2.2;have t3:=λa=>(aU (c a)).2.2.2.1;have t5:=λa=>(aU (c a)).2.2.2.2.2.1;have t6:=λa=>(aU (c a)).2.2.2.2.2.2.1;have t7:=λa=>(aU (c a)).2.2.2.2.2.2.2;have q0:=λa=>(aj (d a)).1;clear b c d;go_wp2_with fail
 refine(lH _ e13 _ (g.ext (h _)) (by decide) (by decide)).mono ?_;rintro e a⟨⟨a,rfl,K⟩,KB⟩;have KX:=J (xT KW (xT (h _) KB));rw[OX]at K;obtain⟨a,a,rfl,_,_⟩:=Fs.open_ K;clear V W X Y Z t3 t5 t6 t7 q0 h KB K;dsimp only[List.length_cons,P0];go_wp2_with fail;go_ret;exact⟨rfl,KX.out⟩
theorem OR{fs:List Fil}(h:ix fs=false):fs.length<=40/\∀f∈fs,f.2.length<=2000:=by
 unfold ix at h;rw[Bool.or_eq_false_iff,decide_eq_false_iff_not,List.any_eq_false]at h;obtain⟨h1,h2⟩:=h;refine⟨by omega,λf hf=>?_⟩;rw[List.take_of_length_le (by omega)]at h2;have:=h2 f hf;simp only[decide_eq_true_eq]at this;omega
