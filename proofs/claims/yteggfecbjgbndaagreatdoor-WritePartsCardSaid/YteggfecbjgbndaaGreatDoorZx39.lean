/- Merged -/
import Derived.Test.YteggfecbjgbndaaGreatDoorZx38
set_option linter.all false
set_option maxHeartbeats 8000000
set_option maxRecDepth 100000
open Go.Proofs.Tryz
open List renaming length->V
open Go.Value renaming int->D,slice->E,bool->I,string->O,pointer->Q,agg->U
open Go.IntKind renaming i64->F,u8->R
open Go.Mv renaming aN->G
open Option renaming none->H,some->M
open Go.Obj renaming cells->J
open Go.Proofs.Tryz renaming prog->L
open Go.Proofs.YteggfecbjgbndaaGreatDoor.OwnX renaming base->P0
open List renaming take_succ_eq_append_getElem->P1,take_length->P2,map_append->P3,length_map->P4,length_take->P5
open Go.Proofs.YteggfecbjgbndaaGreatDoor.OwnQ renaming box1->P6,qs->P7
open Go.Proofs.YteggfecbjgbndaaGreatDoor.OwnF renaming box1->P8,fs->P9
open Option renaming isSome_some->Pa,isSome_none->Pb,getD_some->Pc,isSome->Pd
open Go.Mv.Blk renaming new->Pe
open Go.Mv.SlR renaming ext->Pf,nil->Pg
namespace Go.Proofs.YteggfecbjgbndaaGreatDoor
open Go.RowKit Go.Mv Go.Shelf
theorem Ma(tmps:Array Value)(W:World)(b:Nat)(cs:Array Value)(e:Value)(h4:tmps.getD 4 undef=Q (M ⟨b,0,H⟩))(h3:tmps.getD 5 undef=e)(hb:Blk W b 25 cs)(hs:cs.size=5):(results Tryz.f20 tmps).run L W=.ok (.tuple #[.agg cs,e]) W:=by
 have c:tmps[4]?.getD undef=Q (M ⟨b,0,H⟩):=by simpa using h4
 have a:tmps[5]?.getD undef=e:=by simpa using h3
 have hl:=hb.load (P:=L) em rfl (by rw[hs];kernel_rfl);simp[results,results20,c,a,asAddr,hl,Sem.run_bind,Sem.run_pure,Result.andThen_ok]
theorem yF(a:List (List UInt8)):aL (a.map cE)=0:=by
 induction a with
 |nil=>rfl
 |cons n a ih=>rw[List.map_cons,eH,ih];rfl
theorem oL(l:List Fil)(a:List (List UInt8)):V (bG l a)<=V l:=by
 unfold bG;exact Nat.le_trans (List.length_filter_le _ _) (Nat.le_of_eq (P4 _))
theorem td(v:Value)(d:Dk)(n:Nat)(f:Value)(a:List (Int×Int×Int))(w:World)(hS:StW w)(hD:DkV w v d)(hs:Sz n d)(Q:SlR w 3 f a.length (bH a))(Jk:V a<=1000000)(KI:n+n<=1000000):
  Calls L 20 #[v,f] w λe w'=>∃u,e=.returned (.tuple #[u,D F (eQ d (aA a)).2])/\OwnD w' w.heap.size u (eQ d (aA a)).1/\Ext w w':=by
 obtain⟨f,f,rfl,P,S⟩:=hD;obtain⟨A,c,rfl,_,_⟩:=Fs.open_ P;obtain⟨B,t,rfl,_,_⟩:=Qs.open_ S;obtain⟨C,f,rfl,_,_⟩:=xO Q;obtain⟨f,m⟩:∃f,(w.alloc (J #[E A d.fs.length c,E B d.q.length t,D F d.quota,D F d.fuse,I d.dead] 25)).alloc (J #[E none 0 0,E none 0 0,D F 0,D F 0,I false] 25)=f:=⟨_,rfl⟩;have H3:Ext w f:=by rw[<-m];exact xA (xA (xR _) _) _
 have K:Blk f w.heap.size 25 (ap A d.fs.length c B d.q.length t d.quota d.fuse d.dead):=by rw[<-m];exact(Pe w _ _).alloc _
 have h2:Blk f (w.heap.size+1) 25 (ap none 0 0 none 0 0 0 0 false):=by
  rw[<-m];have:=Pe (w.alloc (J #[E A d.fs.length c,E B d.q.length t,D F d.quota,D F d.fuse,I d.dead] 25)) 25 #[E none 0 0,E none 0 0,D F 0,D F 0,I false];rwa[xS]at this
 have Z:=G H3;have H0:=G K;have H2:=G h2;have X:=G (show DkV f (U #[E A d.fs.length c,E B d.q.length t,D F d.quota,D F d.fuse,I d.dead]) d from⟨_,_,rfl,P.ext H3,S.ext H3⟩);have Kw:=G (hS.ext H3);have Kt:=G (Pf Q H3);have H:=ae K;have Y:=G hs;have KX:=G KI;have Jz:=G Jk;have Jn:=fR d;have KJ:=oL d.now (aA a);have t:=hs.l;obtain⟨T,f⟩:∃T,eQ d (aA a)=T:=⟨_,rfl⟩;rw[f];unfold eQ at f;have HT:=G f;have JD:=G (show V d.now<=1000000 by omega);have JE:=G (show V (bG d.now (aA a))<=n by omega);clear K h2 P S H3 hs hS Q KI Jk Jn KJ t f;obtain⟨i0,hi,KL,KM,KN⟩:=info_parts mR;go_enter func20,ntmps20
 go_wp2_with fail
 refine(sD _ d n _ X (by have:=KX.out;omega) Y).mono ?_;rintro e w1⟨f,f,rfl,t,f⟩;clear m;have r:=IG _ d.now _ a w1 (Kw.ext f) t.fs (Pf Kt f) JD Jz;have He:=G t;have W:=G f;have r:=G r;clear t f;go_wp2_with fail
 refine r.mono ?_;rintro e j⟨f,f,rfl,f,H4⟩;clear r He H;generalize m:bG d.now (aA a)=N at *;have JM:=G (xT W H4);have JF:=G f;clear f H4 W;go_frame
 go_wp2_with fail
 go_loopw [6,14] (λf a wr=>∃k:Nat,k<=V N/\a=D F k/\(∃A' c',f=E A' k c')/\Hid (OwnQ wr j.heap.size f ((N.take k).map cE))/\Hid (Ext j wr)) (λ_ a _=>V N-(intOf a).toNat)
 case atStart=>exact⟨0,Nat.zero_le _,rfl,⟨_,_,rfl⟩,OwnX.nil _ _ _,xR _⟩
 case round=>
  obtain⟨k,hk,rfl,⟨A',c',rfl⟩,p,s⟩:=hrel;have Jn:=JE.out;have KI:=KX.out;by_cases i:k<V N
  ·obtain⟨_,b,Kl,rfl,hc⟩:=SlR.at_ (Pf (xW JF) s) (by omega);have m:=hc k (sv N[k]) (by rw[List.getElem?_map,List.getElem?_eq_getElem i];rfl);have f:(N.take (k+1)).map cE=(N.take k).map cE++[cE N[k]]:=by rw[P1 i,P3];rfl
   have a:V ((N.take k).map cE)=k:=by rw[P4,P5];omega
   have JL:=G f;have y:=G a;clear hc f a;generalize N[k]=x at *;simp only[sv,Nat.mul_one]at m;have z:Ext wr (wr.alloc (J #[D R 4,O ⟨x.toArray⟩,O ⟨#[]⟩,E none 0 0] 98)):=xA (xR _) _;have a:j.heap.size<=wr.heap.size:=s.size;have JG:=G (OwnX.ext dy p z);have Jg:∀g,(Value.slice A' k c').ownBlock=M g->∀u∈[D R 4,O ⟨x.toArray⟩,O ⟨#[]⟩,E none 0 0],bF g u:=by
    intro g _ u a;simp only[List.mem_cons,List.not_mem_nil,or_false]at a;rcases a with rfl | rfl | rfl | rfl
    ·exact iP _ _ _
    ·exact da _ x
    ·exact da _ []
    intro b Kl n c _ h;cases h
   have a:=G Jg;have m:=G z;clear Jg z;go_wp2_with (at_builtin;refine me dy rfl (.tmp 18) (.tmp 21) 23 rfl 98 i0 _ 64 underlying23 hi KL KM KN rfl (by decide) (by decide) j.heap.size _ ((N.take k).map cE) rfl JG _ [cE x] [D R 4,O ⟨x.toArray⟩,O ⟨#[]⟩,E none 0 0] rfl (fu wr [D R 4,O ⟨x.toArray⟩,O ⟨#[]⟩,E none 0 0] 98 4 rfl) (ip (o:=cE x) (Pg _ 1)) (by simp) a (by rw[y.out];simp;omega) (by rw[xS];omega) ?_;intro a a a a f i;rw[<-JL.out,y.out]at a;simp only[y.out,xC,List.length_nil,Nat.zero_add]at a⊢;have i:=f j (xT s m) (xN _))
   exact⟨⟨k+1,by omega,by go_num,⟨_,_,rfl⟩,a,i⟩,by simp[intOf];omega⟩
  ·obtain rfl:k=V N:=by omega
   have a:=p.out;rw[P2]at a;have p:=G a;clear a;have a:=xT JM s;have H:=ae (H0.ext a);have f:=qM _ d n false _ (N.map cE) wr (X.ext a) Y p.qs (by rw[P4,yF];omega);rw[HT.out]at f;have HC:=G f;have J5:=G a;clear f a;go_wp2_with fail
   refine HC.mono ?_;rintro e a⟨u,rfl,⟨a,a,a,a,rfl,of,m⟩,K3⟩;have f:=xT J5 K3;have a:=H2.ext f;have i:=aH a;have i:=ae a;have i:=G a;have p:=G of;have r:=G m;have s:=G (xT Z f);have j:=G (xT Z J5).size;clear a of m f K3 H;go_wp2_with fail
   refine bodyPost_ret (Ma _ _ _ _ (D F T.2) rfl rfl (aT i _ _ _ _ _) rfl) rfl ?_;exact⟨_,rfl,⟨_,_,_,_,rfl,P8 (P0 p j) i,P6 (P0 r j) i⟩,aS s (by omega) _ _ _ _ _⟩
theorem mcSwapa0{P:Prop}(h:P:=by
 refine ah 3 (λK hK=>?_);go_simp;have KF:=td _ r.1 (n+2+b.length+1) _ (cY m) w9 (Kw.ext (xT Hy E9)) (show DkV w9 (U #[E A4 r.1.fs.length c4,E B4 r.1.q.length e4,D F r.1.quota,D F r.1.fuse,I r.1.dead]) r.1 from⟨_,_,rfl,(P9 Jy).ext E9,(P7 JJ).ext E9⟩) (JN.mono (by simp[aL,dM])) (xW Hu) JA (by have:=Ko.out;have:=HN.out;omega);rw[Kv.out]at KF;refine KF.mono ?_;rintro e JV⟨u,rfl,⟨A6,c6,B6,e6,rfl,of,oq⟩,K2⟩;have Km:=xT E9 K2;refine af hK _ _ trivial (λ_=>?_);refine ab 4 ?_;refine ab 5 ?_;have Hi:Blk JV (w.heap.size+1+1) 25 (ap A4 r.1.fs.length c4 B4 r.1.q.length e4 r.1.quota r.1.fuse r.1.dead):=Ho.ext Km;have ed:=aH Hi;have ee:=ae Hi;have Jt:=(xT Hy E9).size;have Hn:=G Hi;have He:=G of;have Hh:=G oq;have Ky:=G (xT Hy Km);have J6:=G Jt;clear Hi of oq Jt E9 Km HA K2 KF Hu;refine ah 6 (λK hK=>?_);go_simp;refine af hK _ _ trivial (λ_=>?_);refine ab 7 ?_;refine aq ?_;go_wp2_with fail
 refine bodyPost_ret (n8 _ _ _ _ (D F S.2) rfl rfl (aT Hn (E A6 S.1.fs.length c6) (E B6 S.1.q.length e6) (D F S.1.quota) (D F S.1.fuse) (I S.1.dead)) rfl) rfl ?_;have Ka:=P8 (A':=A6) (n':=S.1.fs.length) (c':=c6) (B':=B6) (m':=S.1.q.length) (e':=e6) (q':=S.1.quota) (f':=S.1.fuse) (d':=S.1.dead) (P0 He J6) Hn;have Kb:=P6 (A':=A6) (n':=S.1.fs.length) (c':=c6) (B':=B6) (m':=S.1.q.length) (e':=e6) (q':=S.1.quota) (f':=S.1.fuse) (d':=S.1.dead) (P0 Hh J6) Hn;have K9:=aS Ky (by omega:w.heap.size<=w.heap.size+1+1) (E A6 S.1.fs.length c6) (E B6 S.1.q.length e6) (D F S.1.quota) (D F S.1.fuse) (I S.1.dead);exact pV Ka Kb K9):P:=h
theorem Sz.does:∀(q:List Oq) {n:Nat} {d:Dk} (sync:Bool),Sz n d->Sz (n+V q+aL q) (ct sync d q).1
 | [],n,d,sync,h=>by
  rw[ct];split
  ·exact h.sync.mono (by omega)
  exact h.mono (by omega)
 | o::q,n,d,sync,h=>by
  rw[ct,eH,xC];split
  ·exact(Sz.does q sync (h.doS o)).mono (by omega)
  ·exact(h.doS o).mono (by omega)
def eL(d:Dk)(m:Mf):Dk×Int:=match bj m with | none=>(d,2) | some b=>l7 d b (aA (cY m))
theorem n8(tmps:Array Value)(W:World)(b:Nat)(cs:Array Value)(e:Value)(h4:tmps.getD 4 undef=Q (M ⟨b,0,H⟩))(h3:tmps.getD 5 undef=e)(hb:Blk W b 25 cs)(hs:cs.size=5):(results Tryz.f22 tmps).run L W=.ok (.tuple #[.agg cs,e]) W:=by
 have c:tmps[4]?.getD undef=Q (M ⟨b,0,H⟩):=by simpa using h4
 have a:tmps[5]?.getD undef=e:=by simpa using h3
 have hl:=hb.load (P:=L) em rfl (by rw[hs];kernel_rfl);simp[results,results22,c,a,asAddr,hl,Sem.run_bind,Sem.run_pure,Result.andThen_ok]
def pj(w:World)(r:Dk×Int)(e:Ending)(w':World):Prop:=∃u,e=.returned (.tuple #[u,D F r.2])/\OwnD w' w.heap.size u r.1/\Ext w w'
theorem pV{w W:World}{r:Dk×Int}{A B:Option Addr}{c e:Nat}(a:OwnF W w.heap.size (E A r.1.fs.length c) r.1.fs)(b:OwnQ W w.heap.size (E B r.1.q.length e) r.1.q)(d:Ext w W):pj w r (.returned (.tuple #[.agg (ap A r.1.fs.length c B r.1.q.length e r.1.quota r.1.fuse r.1.dead),D F r.2])) W:=⟨_,rfl,⟨A,c,B,e,rfl,a,b⟩,d⟩
theorem qN(v:Value)(d:Dk)(n:Nat)(m:Mf)(vs:Value)(w:World)(y:StW w)(hD:DkV w v d)(hs:Sz n d)(hn:n<=100000)(hG:Sgs w vs m.segs)(Hk:V m.segs<=1000000)(Jl:V (cY m)<=1000000)(Jp:∀b,bj m=M b->V b<=100000):
  Calls L 22 #[v,U #[D F m.next,D F m.term,D F m.vote,D F m.sq,D F m.sf,vs]] w (pj w (eL d m)):=by
 obtain⟨vf,vq,rfl,hF,hQ⟩:=hD;obtain⟨A,c,rfl,_,_⟩:=Fs.open_ hF;obtain⟨B,e2,rfl,_,_⟩:=Qs.open_ hQ;obtain⟨C,W,rfl,_,_⟩:=hG.open_;obtain⟨O,X⟩:∃O,((w.alloc (J #[E A d.fs.length c,E B d.q.length e2,D F d.quota,D F d.fuse,I d.dead] 25)).alloc (J #[D F m.next,D F m.term,D F m.vote,D F m.sq,D F m.sf,E C m.segs.length W] 30)).alloc (J #[E none 0 0,E none 0 0,D F 0,D F 0,I false] 25)=O:=⟨_,rfl⟩;have H3:Ext w O:=by rw[<-X];exact xA (xA (xA (xR _) _) _) _
 have h0:Blk O w.heap.size 25 (ap A d.fs.length c B d.q.length e2 d.quota d.fuse d.dead):=by rw[<-X];exact((Pe w _ _).alloc _).alloc _
 have h1:Blk O (w.heap.size+1) 30 #[D F m.next,D F m.term,D F m.vote,D F m.sq,D F m.sf,E C m.segs.length W]:=by
  rw[<-X];have:=(Pe (w.alloc (J #[E A d.fs.length c,E B d.q.length e2,D F d.quota,D F d.fuse,I d.dead] 25)) 30 #[D F m.next,D F m.term,D F m.vote,D F m.sq,D F m.sf,E C m.segs.length W]).alloc (J #[E none 0 0,E none 0 0,D F 0,D F 0,I false] 25);rwa[xS]at this
 have h2:Blk O (w.heap.size+1+1) 25 (ap none 0 0 none 0 0 0 0 false):=by
  rw[<-X];have:=Pe ((w.alloc (J #[E A d.fs.length c,E B d.q.length e2,D F d.quota,D F d.fuse,I d.dead] 25)).alloc (J #[D F m.next,D F m.term,D F m.vote,D F m.sq,D F m.sf,E C m.segs.length W] 30)) 25 #[E none 0 0,E none 0 0,D F 0,D F 0,I false];rwa[xS,xS]at this
 have Hb:=G H3;have H0:=G h0;have H1:=G h1;have H2:=G h2;have Kw:=G y;have Kr:=G hG;have HS:=G (y.ext H3);have HF:=G (hF.ext H3);have HQ:=G (hQ.ext H3);have HG:=G (hG.ext H3);have HP:=G (yG m _ O (hG.ext H3) (y.ext H3));have HZ:=G hs;have HN:=G hn;have Ku:=G Hk;have JA:=G Jl;have JH:=G Jp;have ea:=aj h1;clear h0 h1 h2 hF hQ hG H3 hs y hn Hk Jl Jp;obtain⟨S,y⟩:∃S,eL d m=S:=⟨_,rfl⟩;rw[y];unfold eL at y;obtain⟨rb,K8⟩:∃r,bj m=r:=⟨_,rfl⟩;rw[K8]at HP y;have HW:=G y;have JK:=G K8;clear y K8;go_enter func22,ntmps22
 go_wp2_with fail
 refine HP.mono ?_;rintro e w1⟨⟨vb,rfl,Kk⟩,H5⟩;have N:=G H5;have Kc:=G Kk;clear H5 X ea;have ec:=ae (H0.ext N);cases rb with
 |none=>
  have J1:=HW.out;dsimp only at J1;subst J1;simp only[Pb,Bool.false_eq_true,if_false];obtain⟨Ab,cb,rfl,_,_⟩:=xO (xW Kk);clear Kk;go_wp2_with fail;clear ec;refine(nz _ d n w1 (show DkV w1 _ d from⟨_,_,rfl,HF.ext N,HQ.ext N⟩) (by have:=HN.out;omega) HZ).mono ?_;rintro e w2⟨u,rfl,⟨a,k,g,l,rfl,of,oq⟩,H4⟩;have Hj:=H2.ext (xT N H4);have hX:=xT Hb (xT N H4);have Je:=xT Hb N;have ed:=aH Hj;have ee:=ae Hj;have Q1:=G Hj;have Q2:=G of;have Q3:=G oq;have Q4:=G hX;have Q5:=G Je.size;clear Hj of oq hX Je H4;go_wp2_with fail
  refine bodyPost_ret (n8 _ _ _ _ (D F 2) rfl rfl (aT Q1 _ _ _ _ _) rfl) rfl ?_;exact⟨_,rfl,⟨_,_,_,_,rfl,P8 (P0 Q2.f Q5) Q1,P6 (P0 Q3 Q5) Q1⟩,aS Q4 (by omega) _ _ _ _ _⟩
 |some b=>
  have HW:Hid (l7 d b (aA (cY m))=S):=HW;simp only[Pa,if_true];have Jj:=JH b JK;have Ko:=G Jj;have Kc:Hid (OwnB w1 O.heap.size vb b):=Kc;obtain⟨Ab,cb,rfl,_,_⟩:=xO (xW Kc);have KZ:=G (lG 2 0 0 w1 (HS.ext N));clear Kk Jj;go_wp2_with fail
  refine KZ.mono ?_;rintro e w2⟨rfl,H4⟩;have Hp:=G (xT N H4);have KU:=G (Pf (xW Kc) H4);have J0:=G (lG 1 0 0 w2 (HS.ext Hp));clear H4 KZ ec;go_wp2_with fail
  refine J0.mono ?_;rintro e w3⟨rfl,Hz⟩;have T:=G (xT Hp Hz);have Jv:Hid (Bs w3 (E Ab b.length cb) b):=G (Pf KU Hz);clear Hz J0 KU;have ec:=ae (H0.ext T);rw[show aE 2 0 0=M bq from by decide,show aE 1 0 0=M dm from by decide];simp only[Pc,Pa,if_true,sv];go_wp2_with fail;clear ec;have Hl:=AR _ d n 2 0 0 _ b w3 (HS.ext T) (show DkV w3 (U #[E A d.fs.length c,E B d.q.length e2,D F d.quota,D F d.fuse,I d.dead]) d from⟨_,_,rfl,HF.ext T,HQ.ext T⟩) HZ Jv (by have:=Ko.out;have:=HN.out;omega);rw[show cj d (aE 2 0 0) b=putS d bq b from by rw[show aE 2 0 0=M bq from by decide];rfl]at Hl;have KO:Sz (n+2+V b) (putS d bq b).1:=(HZ.does [dP bq,d8 bq b] true).mono (by simp[aL,dP,d8]);have s:=HW.out;unfold l7 at s;obtain⟨p,hp⟩:∃p,putS d bq b=p:=⟨_,rfl⟩;rw[hp]at Hl KO s;refine Hl.mono ?_;rintro e z⟨u,rfl,⟨a,k,g,l,rfl,of,oq⟩,K3⟩;have E4:=xT T K3;have K4:=H2.ext E4;have Jh:=aT (show Blk z (w.heap.size+1+1) 25 #[E none 0 0,E none 0 0,D F 0,D F 0,I false]from K4) (E a p.1.fs.length k) (E g p.1.q.length l) (D F p.1.quota) (D F p.1.fuse) (I p.1.dead);have HH:=xT Hb E4;have ed:=aH K4;have ee:=ae K4;have J3:=G (xT Hb T).size;have Y:=G K4;have Z:=G Jh;have He:=G of;have Hh:=G oq;have KW:=G E4;have Kz:=G HH;have J7:=G KO;have Hq:=G s;clear Hl KO s hp K4 Jh HH of oq K3 E4 HW;by_cases t:p.2=0
  case neg=>
   have JS:(p.2 != 0)=true:=by simpa using t
   obtain rfl:p=S:=by have h:=Hq.out;rwa[if_pos t]at h
   clear t;go_wp2_with fail
   refine bodyPost_ret (n8 _ _ _ _ (D F p.2) rfl rfl (aT Z (E a p.1.fs.length k) (E g p.1.q.length l) (D F p.1.quota) (D F p.1.fuse) (I p.1.dead)) rfl) rfl ?_;have KQ:=P8 (A':=a) (n':=V p.1.fs) (c':=k) (B':=g) (m':=V p.1.q) (e':=l) (q':=p.1.quota) (f':=p.1.fuse) (d':=p.1.dead) He Y;have KR:=P6 (A':=a) (n':=V p.1.fs) (c':=k) (B':=g) (m':=V p.1.q) (e':=l) (q':=p.1.quota) (f':=p.1.fuse) (d':=p.1.dead) Hh Y;have Ka:=P8 (A':=a) (n':=V p.1.fs) (c':=k) (B':=g) (m':=V p.1.q) (e':=l) (q':=p.1.quota) (f':=p.1.fuse) (d':=p.1.dead) (P0 KQ J3) Z;have Kb:=P6 (A':=a) (n':=V p.1.fs) (c':=k) (B':=g) (m':=V p.1.q) (e':=l) (q':=p.1.quota) (f':=p.1.fuse) (d':=p.1.dead) (P0 KR J3) Z;have K9:=aS (aS Kz (by omega:w.heap.size<=w.heap.size+1+1) (E a p.1.fs.length k) (E g p.1.q.length l) (D F p.1.quota) (D F p.1.fuse) (I p.1.dead)) (by omega:w.heap.size<=w.heap.size+1+1) (E a p.1.fs.length k) (E g p.1.q.length l) (D F p.1.quota) (D F p.1.fuse) (I p.1.dead);exact pV Ka Kb K9
  have JS:(p.2 != 0)=false:=by simpa using t
  have s:=Hq.out;rw[if_neg (by simpa using t)]at s;have HY:=G s;clear s t Hq;go_wp2_with fail
  have Kn:Hid (Blk (((((z.setCell ⟨w.heap.size+1+1,0,H⟩ (E a p.1.fs.length k)).setCell ⟨w.heap.size+1+1,1,H⟩ (E g p.1.q.length l)).setCell ⟨w.heap.size+1+1,2,H⟩ (D F p.1.quota)).setCell ⟨w.heap.size+1+1,3,H⟩ (D F p.1.fuse)).setCell ⟨w.heap.size+1+1,4,H⟩ (I p.1.dead)) (w.heap.size+1+1) 25 (ap a p.1.fs.length k g p.1.q.length l p.1.quota p.1.fuse p.1.dead)):=Z;have Jx:Hid (OwnF (((((z.setCell ⟨w.heap.size+1+1,0,H⟩ (E a p.1.fs.length k)).setCell ⟨w.heap.size+1+1,1,H⟩ (E g p.1.q.length l)).setCell ⟨w.heap.size+1+1,2,H⟩ (D F p.1.quota)).setCell ⟨w.heap.size+1+1,3,H⟩ (D F p.1.fuse)).setCell ⟨w.heap.size+1+1,4,H⟩ (I p.1.dead)) w3.heap.size (E a p.1.fs.length k) p.1.fs):=G (P8 (A':=a) (n':=V p.1.fs) (c':=k) (B':=g) (m':=V p.1.q) (e':=l) (q':=p.1.quota) (f':=p.1.fuse) (d':=p.1.dead) He Y);have JI:Hid (OwnQ (((((z.setCell ⟨w.heap.size+1+1,0,H⟩ (E a p.1.fs.length k)).setCell ⟨w.heap.size+1+1,1,H⟩ (E g p.1.q.length l)).setCell ⟨w.heap.size+1+1,2,H⟩ (D F p.1.quota)).setCell ⟨w.heap.size+1+1,3,H⟩ (D F p.1.fuse)).setCell ⟨w.heap.size+1+1,4,H⟩ (I p.1.dead)) w3.heap.size (E g p.1.q.length l) p.1.q):=G (P6 (A':=a) (n':=V p.1.fs) (c':=k) (B':=g) (m':=V p.1.q) (e':=l) (q':=p.1.quota) (f':=p.1.fuse) (d':=p.1.dead) Hh Y);have J4:Hid (Ext w (((((z.setCell ⟨w.heap.size+1+1,0,H⟩ (E a p.1.fs.length k)).setCell ⟨w.heap.size+1+1,1,H⟩ (E g p.1.q.length l)).setCell ⟨w.heap.size+1+1,2,H⟩ (D F p.1.quota)).setCell ⟨w.heap.size+1+1,3,H⟩ (D F p.1.fuse)).setCell ⟨w.heap.size+1+1,4,H⟩ (I p.1.dead))):=G (aS Kz (by omega:w.heap.size<=w.heap.size+1+1) (E a p.1.fs.length k) (E g p.1.q.length l) (D F p.1.quota) (D F p.1.fuse) (I p.1.dead));have JB:Hid (Blk (((((z.setCell ⟨w.heap.size+1+1,0,H⟩ (E a p.1.fs.length k)).setCell ⟨w.heap.size+1+1,1,H⟩ (E g p.1.q.length l)).setCell ⟨w.heap.size+1+1,2,H⟩ (D F p.1.quota)).setCell ⟨w.heap.size+1+1,3,H⟩ (D F p.1.fuse)).setCell ⟨w.heap.size+1+1,4,H⟩ (I p.1.dead)) (w.heap.size+1) 30 #[D F m.next,D F m.term,D F m.vote,D F m.sq,D F m.sf,E C m.segs.length W]):=G (lI (H1.ext KW) (by omega:w.heap.size+1≠w.heap.size+1+1) (E a p.1.fs.length k) (E g p.1.q.length l) (D F p.1.quota) (D F p.1.fuse) (I p.1.dead));have Js:(((((z.setCell ⟨w.heap.size+1+1,0,H⟩ (E a p.1.fs.length k)).setCell ⟨w.heap.size+1+1,1,H⟩ (E g p.1.q.length l)).setCell ⟨w.heap.size+1+1,2,H⟩ (D F p.1.quota)).setCell ⟨w.heap.size+1+1,3,H⟩ (D F p.1.fuse)).setCell ⟨w.heap.size+1+1,4,H⟩ (I p.1.dead)).heap.size=z.heap.size:=by simp only[World.size_setCell]
  clear Z Y He Hh Kz KW ed ee;generalize(((((z.setCell ⟨w.heap.size+1+1,0,H⟩ (E a p.1.fs.length k)).setCell ⟨w.heap.size+1+1,1,H⟩ (E g p.1.q.length l)).setCell ⟨w.heap.size+1+1,2,H⟩ (D F p.1.quota)).setCell ⟨w.heap.size+1+1,3,H⟩ (D F p.1.fuse)).setCell ⟨w.heap.size+1+1,4,H⟩ (I p.1.dead))=w5 at *;have Kf:Hid (Ext w5 (w5.alloc (J #[D R 3,sv bq,sv dm,E none 0 0] 98))):=G (xA (xR _) _);have Jq:Qs (w5.alloc (J #[D R 3,sv bq,sv dm,E none 0 0] 98)) (E (M ⟨z.heap.size,0,H⟩) 1 1) [dM bq dm]:=
   ⟨[D R 3,sv bq,sv dm,E none 0 0],BO w5 _ 98 4 1 rfl (by omega) Js,ip (o:=dM bq dm) (Pg _ 1)⟩
  have hC:=qM _ p.1 (n+2+V b) true _ [dM bq dm] _ (show DkV (w5.alloc (J #[D R 3,sv bq,sv dm,E none 0 0] 98)) (U #[E a p.1.fs.length k,E g p.1.q.length l,D F p.1.quota,D F p.1.fuse,I p.1.dead]) p.1 from⟨_,_,rfl,(P9 Jx).ext Kf,(P7 JI).ext Kf⟩) J7 Jq (by have:=Ko.out;have:=HN.out;simp[aL,dM];omega);have KP:=J7.does [dM bq dm] true;have s:=HY.out;obtain⟨r,hr⟩:∃r,ct true p.1 [dM bq dm]=r:=⟨_,rfl⟩;rw[hr]at hC KP s;refine hC.mono ?_;rintro e P⟨u,rfl,⟨A4,c4,B4,e4,rfl,of,oq⟩,Jb⟩;have E7:=xT Kf Jb;have K5:=Kn.ext E7;have Ji:=aT (show Blk P (w.heap.size+1+1) 25 #[E a p.1.fs.length k,E g p.1.q.length l,D F p.1.quota,D F p.1.fuse,I p.1.dead]from K5) (E A4 r.1.fs.length c4) (E B4 r.1.q.length e4) (D F r.1.quota) (D F r.1.fuse) (I r.1.dead);have Jf:=xT J4 E7;have ed:=aH K5;have ee:=ae K5;have K0:=G (xT J4 Kf).size;have HL:=G K5;have Ho:=G Ji;have He:=G of;have Hh:=G oq;have KY:=G (JB.ext E7);have KA:=G Jf;have JN:=G KP;have Hr:=G s;clear hC KP s hr K5 Ji Jf of oq Jb E7 Jq HY Js;by_cases x:r.2=0
  case neg=>
   have K8:(r.2 != 0)=true:=by simpa using x
   obtain rfl:r=S:=by have h:=Hr.out;rwa[if_pos x]at h
   clear x;go_wp2_with fail
   refine bodyPost_ret (n8 _ _ _ _ (D F r.2) rfl rfl (aT Ho (E A4 r.1.fs.length c4) (E B4 r.1.q.length e4) (D F r.1.quota) (D F r.1.fuse) (I r.1.dead)) rfl) rfl ?_;have KQ:=P8 (A':=A4) (n':=V r.1.fs) (c':=c4) (B':=B4) (m':=V r.1.q) (e':=e4) (q':=r.1.quota) (f':=r.1.fuse) (d':=r.1.dead) He HL;have KR:=P6 (A':=A4) (n':=V r.1.fs) (c':=c4) (B':=B4) (m':=V r.1.q) (e':=e4) (q':=r.1.quota) (f':=r.1.fuse) (d':=r.1.dead) Hh HL;have Ka:=P8 (A':=A4) (n':=V r.1.fs) (c':=c4) (B':=B4) (m':=V r.1.q) (e':=e4) (q':=r.1.quota) (f':=r.1.fuse) (d':=r.1.dead) (P0 KQ K0) Ho;have Kb:=P6 (A':=A4) (n':=V r.1.fs) (c':=c4) (B':=B4) (m':=V r.1.q) (e':=e4) (q':=r.1.quota) (f':=r.1.fuse) (d':=r.1.dead) (P0 KR K0) Ho;have K9:=aS (aS KA (by omega:w.heap.size<=w.heap.size+1+1) (E A4 r.1.fs.length c4) (E B4 r.1.q.length e4) (D F r.1.quota) (D F r.1.fuse) (I r.1.dead)) (by omega:w.heap.size<=w.heap.size+1+1) (E A4 r.1.fs.length c4) (E B4 r.1.q.length e4) (D F r.1.quota) (D F r.1.fuse) (I r.1.dead);exact pV Ka Kb K9
  have K8:(r.2 != 0)=false:=by simpa using x
  have s:=Hr.out;rw[if_neg (by simpa using x)]at s;have Kv:=G s;clear s x Hr;go_wp2_with fail
  have Jy:Hid (OwnF (((((P.setCell ⟨w.heap.size+1+1,0,H⟩ (E A4 r.1.fs.length c4)).setCell ⟨w.heap.size+1+1,1,H⟩ (E B4 r.1.q.length e4)).setCell ⟨w.heap.size+1+1,2,H⟩ (D F r.1.quota)).setCell ⟨w.heap.size+1+1,3,H⟩ (D F r.1.fuse)).setCell ⟨w.heap.size+1+1,4,H⟩ (I r.1.dead)) _ (E A4 r.1.fs.length c4) r.1.fs):=G (P8 (A':=A4) (n':=V r.1.fs) (c':=c4) (B':=B4) (m':=V r.1.q) (e':=e4) (q':=r.1.quota) (f':=r.1.fuse) (d':=r.1.dead) He HL);have JJ:Hid (OwnQ (((((P.setCell ⟨w.heap.size+1+1,0,H⟩ (E A4 r.1.fs.length c4)).setCell ⟨w.heap.size+1+1,1,H⟩ (E B4 r.1.q.length e4)).setCell ⟨w.heap.size+1+1,2,H⟩ (D F r.1.quota)).setCell ⟨w.heap.size+1+1,3,H⟩ (D F r.1.fuse)).setCell ⟨w.heap.size+1+1,4,H⟩ (I r.1.dead)) _ (E B4 r.1.q.length e4) r.1.q):=G (P6 (A':=A4) (n':=V r.1.fs) (c':=c4) (B':=B4) (m':=V r.1.q) (e':=e4) (q':=r.1.quota) (f':=r.1.fuse) (d':=r.1.dead) Hh HL);have Hy:Hid (Ext w (((((P.setCell ⟨w.heap.size+1+1,0,H⟩ (E A4 r.1.fs.length c4)).setCell ⟨w.heap.size+1+1,1,H⟩ (E B4 r.1.q.length e4)).setCell ⟨w.heap.size+1+1,2,H⟩ (D F r.1.quota)).setCell ⟨w.heap.size+1+1,3,H⟩ (D F r.1.fuse)).setCell ⟨w.heap.size+1+1,4,H⟩ (I r.1.dead))):=G (aS KA (by omega:w.heap.size<=w.heap.size+1+1) (E A4 r.1.fs.length c4) (E B4 r.1.q.length e4) (D F r.1.quota) (D F r.1.fuse) (I r.1.dead));have JC:Hid (Blk (((((P.setCell ⟨w.heap.size+1+1,0,H⟩ (E A4 r.1.fs.length c4)).setCell ⟨w.heap.size+1+1,1,H⟩ (E B4 r.1.q.length e4)).setCell ⟨w.heap.size+1+1,2,H⟩ (D F r.1.quota)).setCell ⟨w.heap.size+1+1,3,H⟩ (D F r.1.fuse)).setCell ⟨w.heap.size+1+1,4,H⟩ (I r.1.dead)) (w.heap.size+1) 30 #[D F m.next,D F m.term,D F m.vote,D F m.sq,D F m.sf,E C m.segs.length W]):=G (lI KY (by omega:w.heap.size+1≠w.heap.size+1+1) (E A4 r.1.fs.length c4) (E B4 r.1.q.length e4) (D F r.1.quota) (D F r.1.fuse) (I r.1.dead));have Ho:Hid (Blk (((((P.setCell ⟨w.heap.size+1+1,0,H⟩ (E A4 r.1.fs.length c4)).setCell ⟨w.heap.size+1+1,1,H⟩ (E B4 r.1.q.length e4)).setCell ⟨w.heap.size+1+1,2,H⟩ (D F r.1.quota)).setCell ⟨w.heap.size+1+1,3,H⟩ (D F r.1.fuse)).setCell ⟨w.heap.size+1+1,4,H⟩ (I r.1.dead)) (w.heap.size+1+1) 25 #[E A4 r.1.fs.length c4,E B4 r.1.q.length e4,D F r.1.quota,D F r.1.fuse,I r.1.dead]):=Ho;clear HL He Hh KA KY ed ee;generalize(((((P.setCell ⟨w.heap.size+1+1,0,H⟩ (E A4 r.1.fs.length c4)).setCell ⟨w.heap.size+1+1,1,H⟩ (E B4 r.1.q.length e4)).setCell ⟨w.heap.size+1+1,2,H⟩ (D F r.1.quota)).setCell ⟨w.heap.size+1+1,3,H⟩ (D F r.1.fuse)).setCell ⟨w.heap.size+1+1,4,H⟩ (I r.1.dead))=w8 at *;obtain⟨k0,k1,k2,k3,k4⟩:=ae Ho;have eb:=aj JC;refine wp_region_held_drew (S:=λ_=>True) (by kernel_rfl) trivial (λ_=>?_);have Q:Ext w8 w8.drew:=xD (xR _);refine AllReadyH.two (i:=0) (j:=1) rfl rfl (by kernel_rfl) (by rfl) (by rfl) (λK hK=>?_) (λK hK=>?_)
  ·go_simp;refine af hK _ _ trivial (λ_=>?_);refine ah 1 (λK hK=>?_);go_simp;refine af hK _ _ trivial (λ_=>?_);clear k0 k1 k2 k3 k4 eb;refine ah 2 (λK hK=>?_);go_simp;refine(qK m _ _ (Kr.ext (xT Hy Q)) Ku).mono ?_;rintro e w9⟨vk,rfl,Hu,HA⟩;have E9:=xT Q HA;obtain⟨Ak,ck,rfl,_,_⟩:=xO (xW Hu);refine af hK _ _ trivial (λ_=>?_);exact mcSwapa0
  ·go_simp;refine af hK _ _ trivial (λ_=>?_);refine AllReadyH.two (i:=0) (j:=2) rfl rfl (by kernel_rfl) (by rfl) (by rfl) (λK hK=>?_) (λK hK=>?_)
   ·go_simp;refine af hK _ _ trivial (λ_=>?_);clear k0 k1 k2 k3 k4 eb;refine ah 2 (λK hK=>?_);go_simp;refine(qK m _ _ (Kr.ext (xT Hy Q)) Ku).mono ?_;rintro e w9⟨vk,rfl,Hu,HA⟩;have E9:=xT Q HA;obtain⟨Ak,ck,rfl,_,_⟩:=xO (xW Hu);refine af hK _ _ trivial (λ_=>?_);exact mcSwapa0
   ·go_simp;refine(qK m _ _ (Kr.ext (xT Hy Q)) Ku).mono ?_;rintro e w9⟨vk,rfl,Hu,HA⟩;have E9:=xT Q HA;obtain⟨Ak,ck,rfl,_,_⟩:=xO (xW Hu);refine af hK _ _ trivial (λ_=>?_);have m0:=E9.cell k0;have m1:=E9.cell k1;have m2:=E9.cell k2;have m3:=E9.cell k3;have m4:=E9.cell k4;clear k0 k1 k2 k3 k4 eb;refine ah 0 (λK hK=>?_);go_simp;refine af hK _ _ trivial (λ_=>?_);clear m0 m1 m2 m3 m4;exact mcSwapa0
def zwT(d:Dk)(m:Mf):Option (Sg4×Nat):=match m.segs.getLast? with
 |some s=>if s.count = -1 then some (s,V ((bw d.now s).getD []))else none
 |none=>none
def zwW(d:Dk)(m:Mf)(f:Int):Int:=match zwT d m with
 |some (s,n)=>if s.fmt=f then 4-(n:Int)else 0
 |none=>0
def zxF(l:List Sg4)(n:Nat):List Sg4:=match l.getLast? with
 |some s=>l.dropLast++[{ s with count:=n }]
 |none=>l
def zw3(d:Dk)(t:Tup)(m:Mf)(f:Int):Mf:=
 ⟨m.next+1,m.term,m.vote,m.sq,m.sf,(match zwT d m with | some (_,n)=>zxF m.segs n | none=>m.segs)++[⟨m.next,f,t.s.idx+V t.log+1,-1⟩]⟩
def zyF:Option (Sg4×Nat)->Array Value
 |some (s,_)=>#[D F s.seq,D F s.fmt,D F s.first,D F s.count]
 |none=>#[D F 0,D F 0,D F 0,D F 0]
def zxb:Option (Sg4×Nat)->Nat
 |some (_,n)=>n
 |none=>0
theorem zy6{d:Dk}{m:Mf}(h:zwT d m=none):(zw7 m.segs).2=false:=by
 unfold zwT at h;unfold zw7;cases hl:m.segs.getLast? with
 |none=>rfl
 |some s=>
  rw[hl]at h;dsimp only at h⊢;by_cases hc:s.count = -1
  ·rw[if_pos hc]at h;cases h
  ·rw[if_neg hc]
theorem zxY{d:Dk}{m:Mf}{s:Sg4}{n:Nat}(h:zwT d m=M (s,n)):(∃l,m.segs=l++[s])/\s.count = -1/\V ((bw d.now s).getD [])=n:=by
 unfold zwT at h;cases hl:m.segs.getLast? with
 |none=>rw[hl]at h;cases h
 |some x=>
  rw[hl]at h;dsimp only at h;by_cases hc:x.count = -1
  ·rw[if_pos hc]at h;injection h with h
   injection h with h1 h2
   subst h1;refine⟨?_,hc,h2⟩;obtain⟨l,a⟩:=List.getLast?_eq_some_iff.1 hl;exact⟨l,a⟩
  ·rw[if_neg hc]at h;cases h
theorem zyg(v:Value)(d:Dk)(t:Tup)(m:Mf)(n:Nat)(w:World)(x:StW w)(y:DirV w v d t m)(hs:Sz n d)(hn:n<=100000)(Hk:V m.segs<=1000)(r:Option (Sg4×Nat))(h:zwT d m=r)(i:∀s k,r=M (s,k)->∃es,bw d.now s=M es):
  Calls L 193 #[v] w λj w'=>j=.returned (.tuple #[.agg (zyF r),D F (zxb r),I r.isSome])/\Ext w w':=by
 obtain⟨A,c,B,e,a,f,b,cs,rfl,o,q,_,g⟩:=y;cases r with
 |none=>exact zyZ A c B e d a f t b cs m w g Hk (zy6 h)
 |some p=>
  obtain⟨s,k⟩:=p;obtain⟨⟨l,h1⟩,h2,h3⟩:=zxY h;obtain⟨es,h4⟩:=i s k rfl;rw[h4]at h3;dsimp only[Option.getD]at h3;subst h3;exact zy0 A c B e d a f t b cs m l s h1 h2 n w x o q g hs hn Hk es h4
theorem zxV(v:Value)(d:Dk)(t:Tup)(m:Mf)(f:Int)(n:Nat)(w:World)(N:StW w)(a:DirV w v d t m)(hs:Sz n d)(hn:n<=100000)(Hk:V m.segs<=1000)(r:Option (Sg4×Nat))(q:zwT d m=r)(z:∀s k,r=M (s,k)->∃es,bw d.now s=M es)(hk:zxb r<=100000):
  Calls L 138 #[v,D F f] w λo w'=>o=.returned (D F (zwW d m f))/\Ext w w':=by
 obtain⟨A,c,B,e,b,h,g,cs,rfl,E,K,I,H⟩:=a;obtain⟨a,l⟩:∃a,w.alloc (J (zwO A c B e d b h t g cs m) 178)=a:=⟨_,rfl⟩;have H3:Ext w a:=by rw[<-l];exact xA (xR _) _
 have C:Blk a w.heap.size 178 (zwO A c B e d b h t g cs m):=by rw[<-l];exact Pe w _ _
 have l:DirV a (.agg (zwO A c B e d b h t g cs m)) d t m:=⟨A,c,B,e,b,h,g,cs,rfl,E.ext H3,K.ext H3,Pf I H3,H.ext H3⟩;have key:=zyg _ d t m n a (N.ext H3) l hs hn Hk r q z;unfold zwO at *;have H0:=G C;have a:=G key;have y:=G H3;have x:=G q;go_enter func138,ntmps138
 go_wp2_with (refine zwX rfl (.tmp 2) 178 rfl rfl H0 zxQ rfl ?_)
 refine a.mono ?_;rintro o a⟨rfl,a⟩;have i:=G (xT y a);have j:=x.out;cases r with
 |none=>
  have a:zwW d m f=0:=by unfold zwW;rw[j]
  dsimp only[zyF,zxb,Pd];have HQ:=G a;go_wp2_with fail;go_ret;exact⟨by rw[HQ.out];rfl,xA i _⟩
 |some p=>
  obtain⟨s,k⟩:=p;dsimp only[zyF,zxb,Pd]at hk⊢;by_cases hf:s.fmt=f
  ·have a:zwW d m f=4-(k:Int):=by unfold zwW;rw[j];dsimp only;rw[if_pos hf]
   have hb:(s.fmt != f)=false:=by simpa using hf
   have HQ:=G a;go_wp2_with fail;go_ret;exact⟨by rw[HQ.out];rfl,xA i _⟩
  ·have a:zwW d m f=0:=by unfold zwW;rw[j];dsimp only;rw[if_neg hf]
   have hb:(s.fmt != f)=true:=by simpa using hf
   have HQ:=G a;go_wp2_with fail;go_ret;exact⟨by rw[HQ.out];rfl,xA i _⟩
theorem zyh(v:Value)(d:Dk)(f:Int)(n:Nat)(w:World)(U:StW w)(hD:DkV w v d)(hs:Sz n d)(hn:n<=100000)(T:RdH d.now)(t:Tup)(m:Mf)(Y:b9 d.now=⟨0,t,m⟩)(Hk:V m.segs<=1000)(r:Option (Sg4×Nat))(X:zwT d m=r)(h:∀s k,r=M (s,k)->∃es,bw d.now s=M es)(hk:zxb r<=100000):
  Calls L 74 #[v,D F f] w λi w'=>i=.returned (D F (zwW d m f))/\Ext w w':=by
 have R:=hD;obtain⟨Z,Z,rfl,g,y⟩:=hD;obtain⟨A,c,rfl,_,_⟩:=Fs.open_ g;obtain⟨B,e,rfl,_,_⟩:=Qs.open_ y;have H3:Ext w (w.alloc (J #[E A d.fs.length c,E B d.q.length e,D F d.quota,D F d.fuse,I d.dead] 25)):=xA (xR _) _;have g:=ae (Pe w 25 #[E A d.fs.length c,E B d.q.length e,D F d.quota,D F d.fuse,I d.dead]);have y:=G (R.ext H3);have z:=G (U.ext H3);have P:=G H3;have Kx:=G hs;have N:=G X;have g:=G Y;have S:=G h;go_enter func74,ntmps74
 go_wp2_with fail
 refine(zxz _ d n _ z y hn Kx T 0 t m g).mono ?_;rintro i b⟨u,rfl,a,x⟩;have O:=G a;obtain⟨j,C,p,K,l,H,o,cs,rfl,_,_,_,_⟩:=a;obtain⟨h,a⟩:∃W,b.alloc (J (zwO j C p K d l H t o cs m) 178)=W:=⟨_,rfl⟩;have g:Ext b h:=by rw[<-a];exact xA (xR _) _
 have y:=G (show Blk h b.heap.size 178 (zwO j C p K d l H t o cs m) by rw[<-a];exact Pe b _ _);have Q:=G (xT (xT P x) g);have key:=zxV _ d t m f n h ((z.ext x).ext g) (O.ext g) Kx hn Hk r N S hk;have b:=G key;unfold zwO at a y b;unfold zwO;go_wp2_with (first
  |(refine zxT rfl rfl (.tmp 5) (.tmp 10) 178 rfl rfl rfl (by kernel_rfl) (by rfl) (by simp[Value.oneCell']) ?_;rw[a])
  |(refine zwX rfl (.tmp 5) 178 rfl rfl y zxQ rfl ?_))
 refine b.mono ?_;rintro i a⟨rfl,H4⟩;go_wp2_with fail;go_ret;exact⟨rfl,xT Q H4⟩
theorem Li{fs:List Fil}{j:Nat}(h:j<V fs)(a:List (List UInt8)):bG (fs.take (j+1)) a=bG (fs.take j) a++(if fs[j].1∈a then[]else[fs[j].1]):=by
 rw[P1 h];unfold bG;rw[P3,List.filter_append];congr 1
 by_cases h2:fs[j].1∈a<;>simp[h2]
theorem IR{a:List (Int×Int×Int)}{k:Nat}(h:k<V a):aA (a.take (k+1))=aA (a.take k)++(aE a[k].1 a[k].2.1 a[k].2.2).toList:=by
 rw[P1 h,ye]
structure R5I (w:World) (l:List (List UInt8)) (v:Value) (W:World):Prop where
 sl:∃ A c,v=E A l.length c
 o:W.ownsRow w.heap.size 9 1 v l.length (l.map sv)
 e:Ext w W
theorem F5(v:Value)(fs:List Fil)(vk:Value)(d:List (Int×Int×Int))(w:World)(hS:StW w)(hF:Fs w v fs)(hK:SlR w 3 vk d.length (bH d))(hl:fs.length<=1000000)(JX:d.length<=1000000):
  Calls L 59 #[v,vk] w λe w'=>(∃A c,e=.returned (E A (bG fs (aA d)).length c)/\w'.ownsRow w.heap.size 9 1 (E A (bG fs (aA d)).length c) (bG fs (aA d)).length ((bG fs (aA d)).map sv))/\Ext w w':=by
 obtain⟨A,c,rfl,_,_⟩:=Fs.open_ hF;obtain⟨B,e2,rfl,_,_⟩:=xO hK;have HS:=G hS;have HF:=G hF;have Kt:=G hK;clear hF hK hS;obtain⟨i0,hi,KL,KM,KN⟩:=info_parts rS;go_enter func59,ntmps59
 go_wp2_with fail
 go_loopw [5,6] (λo i wr=>∃j:Nat,j<=fs.length/\i=D F j/\Hid (R5I w (bG (fs.take j) (aA d)) o wr)) (λ_ i _=>fs.length-(intOf i).toNat)
 case atStart=>exact⟨0,by omega,rfl,⟨⟨none,0,rfl⟩,⟨rfl,.inl ⟨rfl,rfl⟩⟩,xR _⟩⟩
 case round=>
  obtain⟨j,hj,rfl,s⟩:=hrel;by_cases S:j<fs.length
  ·have JY:(j:Int)<(fs.length:Int):=by omega
   obtain⟨_,b,Kl,rfl,hc⟩:=HF.out.at_ (by omega);obtain⟨Z,_⟩:=hc j S;have f:=Li S (aA d);obtain⟨n,hn⟩:∃n,fs[j].1=n:=⟨_,rfl⟩;rw[hn]at Z f;have V:=G f;have Kp:=G Z;clear hc f hn Z;go_wp2_with fail
   go_loopw [7,8] (λkp i l=>∃k:Nat,k<=d.length/\i=D F k/\kp=.bool (decide (n∈aA (d.take k)))/\Hid (Ext wr l)) (λ_ i _=>d.length-(intOf i).toNat)
   case atStart=>exact⟨0,by omega,rfl,by simp[aA],xR _⟩
   case round=>
    rename World=>l
    obtain⟨k,hk,rfl,rfl,p⟩:=hrel;by_cases r:k<d.length
    ·have JR:(k:Int)<(d.length:Int):=by omega
     have H4:=xT s.out.e p;obtain⟨_,b2,JU,rfl,hc⟩:=(Pf Kt H4).at_ (by omega);obtain⟨x0,x1,x2⟩:=qf d r;have c0:=hc _ _ x0;have Q:=hc _ _ x1;have c2:=hc _ _ x2;have KK:=IR r;have Jm:=Kp.out;have C:l.cell? ⟨b,Kl+j*2,H⟩=M (sv n):=(H4).cell Jm;generalize d[k]=x at *;obtain⟨xk,xs,xf⟩:=x;dsimp only at *;obtain⟨t,Jo⟩:∃t,aE xk xs xf=t:=⟨_,rfl⟩;have X:=G (qp xk xs xf l (HS.out.ext H4));rw[Jo]at X KK;have Hx:=G KK;clear hc x0 x1 x2 KK Jo Jm H4;rw[<-Nat.add_assoc]at Q c2;have call:∀ {K:Ending->World->Prop},(∀y,Ext l y->K (.returned (.tuple #[sv (t.getD []),D F (if t.isSome=true then 0 else 2)])) y)->Calls L 53 #[U #[D R xk,D F xs,D F xf]] l K:=λh=>X.out.mono (by rintro e y⟨rfl,m⟩;exact h y m);have z:=G (λ(K:Ending->World->Prop) h=>@call K h);clear call X;by_cases a:n∈aA (d.take k)
     ·have g:decide (n∈aA (d.take k))=true:=by simpa using a
      have q:decide (n∈aA (d.take (k+1)))=true:=by rw[Hx.out];simp[a]
      rw[g];have I:=G q;clear a g q Hx;go_wp2_with fail
      refine z.out _ (λy m=>?_);go_wp2_with fail
      go_roundw
      case rel=>exact⟨k+1,by omega,by go_num,by rw[I.out],xT p m⟩
      case measure=>simp[intOf];omega
     ·have g:decide (n∈aA (d.take k))=false:=by simpa using a
      rw[g];cases t with
      |none=>
       have q:decide (n∈aA (d.take (k+1)))=false:=by rw[Hx.out];simp[a]
       have I:=G q;clear a g q Hx;simp only[Option.getD_none,Pb,Bool.false_eq_true,if_false,sv]at z;go_wp2_with fail
       refine z.out _ (λy m=>?_);go_wp2_with fail
       go_roundw
       case rel=>exact⟨k+1,by omega,by go_num,by rw[I.out],xT p m⟩
       case measure=>simp[intOf];omega
      |some t=>
       simp only[Pc,Pa,if_true]at z;have q:decide (n∈aA (d.take (k+1)))=(t==n):=by
        rw[Hx.out,Bool.eq_iff_iff];simp[a];exact eq_comm
       have I:=G q;clear a g q Hx;unfold sv at z C;go_wp2_with fail
       refine z.out _ (λy m=>?_);have JW:=m.cell C;clear C c0 Q c2;go_wp2_with fail
       go_roundw
       case rel=>exact⟨k+1,by omega,by go_num,by rw[I.out],xT p m⟩
       case measure=>simp[intOf];omega
    obtain rfl:k=d.length:=by omega
    have H4:=xT s.out.e p;have C:l.cell? ⟨b,Kl+j*2,H⟩=M (sv n):=H4.cell Kp;have P:=ai s.out.o p;obtain⟨A1,Q,W⟩:=s.out.sl;rw[P2];by_cases a:n∈aA d
    ·have g:decide (n∈aA d)=true:=by simpa using a
     rw[g];have f:=V.out;rw[if_pos a,List.append_nil]at f;have HU:=G f;have Ks:=G (show R5I w (bG (fs.take (j+1)) (aA d)) _ l from by rw[f];exact⟨s.out.sl,P,H4⟩);clear a g f V P H4 C;go_wp2_with fail
     go_roundw
     case rel=>exact⟨j+1,by omega,by go_num,Ks⟩
     case measure=>simp[intOf];omega
    have g:decide (n∈aA d)=false:=by simpa using a
    rw[g];have f:=V.out;rw[if_neg a]at f;have Hf:(bG (fs.take j) (aA d)).length<=1000000:=by
     have h1:=oL (fs.take j) (aA d);rw[P5]at h1;omega
    have HU:=G f;have Hc:=G Hf;have Kx:=G H4.size;have Hp:=G H4;rw[W]at P;generalize bG (fs.take j) (aA d)=N at *;subst W;have T:=G P;have hX:Ext l (l.alloc (J #[sv n] 9)):=xA (xR _) _;have O:=G hX;have J2:=G (fu l [sv n] 9 1 (hs:=rfl) rfl);clear a g f V P H4 Hf hX Kp;unfold sv at C O J2;go_wp2_with (at_builtin;refine dT _ rfl (.tmp 47) (.tmp 53) 102 rfl w.heap.size 9 i0 _ 1 16 underlying102 hi KL KM KN rfl (by decide) _ N.length (N.map sv) rfl (ai T O) _ 1 [sv n] rfl J2 (sr [n]) (by have:=Hc.out;unfold maxLen;omega) (by have:=Hc.out;omega) (xT Hp O).size ?_;intro v3 W3 Y KH)
    obtain⟨A3,c3,rfl,_,_⟩:=xO (xW Y);have Hz:Ext w W3:=Ext.grownOwn (xT Hp O) (ay (ai T O) (xN _)) KH;have Ks:=G (show R5I w (bG (fs.take (j+1)) (aA d)) (E A3 (N.length+1) c3) W3 from by rw[HU.out];exact⟨⟨A3,c3,by simp⟩,by rw[xL,P3];exact Y,Hz⟩);clear Y KH Hz;go_wp2_with fail
    go_roundw
    case rel=>exact⟨j+1,by omega,by go_num,Ks⟩
    case measure=>simp[intOf];omega
  ·obtain rfl:j=fs.length:=by omega
   have hI:=s.out;rw[P2]at hI;obtain⟨A1,Q,W⟩:=hI.sl;subst W;have p:=G hI.e;have T:=G hI.o;clear hI s;go_wp2_with fail;go_ret;exact⟨⟨A1,Q,rfl,T.out⟩,p.out⟩
