/- Merged -/
import Derived.Test.YteggfecbjgbndaaGreatDoorZx41
set_option linter.all false
set_option maxHeartbeats 8000000
set_option maxRecDepth 100000
open Go.Proofs.Tryz
open List renaming length->V
open Go.Value renaming int->E,slice->G,pointer->M,bool->O,string->U
open Go.IntKind renaming i64->F
open Option renaming none->I,some->J
open Go.Mv renaming aN->L
open Go.Obj renaming cells->Q
open Go.Proofs.Tryz renaming prog->R
open Go.Mv.Blk renaming new->P0
open Go.RowKit.Below renaming setCell->P1
open Go.Act renaming put->P2
namespace Go.Proofs.YteggfecbjgbndaaGreatDoor
open Go.RowKit Go.Mv Go.Shelf
variable {base c:Nat} {W:World}
theorem mcWp8a0{P:Prop}(h:P:=by
 rw[<-H4];have:=P0 (w.alloc (Q #[G A d.fs.length c,G B d.q.length e2,E F d.quota,E F d.fuse,O d.dead] 25)) 25 #[G none 0 0,G none 0 0,E F 0,E F 0,O false];rwa[xS]at this):P:=h
theorem yas(tmps:Array Value)(W:World)(b:Nat)(cs:Array Value)(u:Value)(h4:tmps.getD 5 undef=M (J ⟨b,0,I⟩))(h5:tmps.getD 6 undef=u)(hb:Blk W b 25 cs)(hs:cs.size=5):(results Tryz.f199 tmps).run R W=.ok (.tuple #[.agg cs,u]) W:=by
 have hl:=hb.load (P:=R) em rfl (by rw[hs];kernel_rfl);have a:tmps[5]?.getD undef=M (J ⟨b,0,I⟩):=by simpa using h4
 have d:tmps[6]?.getD undef=u:=by simpa using h5
 simp[results,results199,a,d,asAddr,hl]
theorem zyX(bs j a:Nat)(h f S N g:Int)(k:Value)(b:List UInt8)(v:Value)(d:Dk)(n:Nat)(w:World)(U:StW w)(hD:DkV w v d)(hs:Sz n d)(o:n+2+V b<=1000000)(t:Blk w bs 36 #[E F h,E F f,E F S,E F N])(C:Blk w j 3 #[E F g])(z:Blk w a 33 #[k])(T:Bs w k b)(r:Dk×Int)(X:cj d (aE 3 h g) b=r):
  Calls R 199 #[v,M (J ⟨bs,0,I⟩),M (J ⟨j,0,I⟩),M (J ⟨a,0,I⟩)] w λa w'=>∃u,a=.returned (.tuple #[u,E F r.2])/\DkV w' u r.1/\Ext w w':=by
 have H:=hD;obtain⟨a,a,rfl,p,D⟩:=hD;obtain⟨A,c,rfl,_,_⟩:=Fs.open_ p;obtain⟨B,e2,rfl,_,_⟩:=Qs.open_ D;obtain⟨a,H4⟩:∃a,(w.alloc (Q #[G A d.fs.length c,G B d.q.length e2,E F d.quota,E F d.fuse,O d.dead] 25)).alloc (Q #[G none 0 0,G none 0 0,E F 0,E F 0,O false] 25)=a:=⟨_,rfl⟩;have H3:Ext w a:=by rw[<-H4];exact xA (xA (xR _) _) _
 have j:Blk a w.heap.size 25 #[G A d.fs.length c,G B d.q.length e2,E F d.quota,E F d.fuse,O d.dead]:=by rw[<-H4];exact(P0 w _ _).alloc _
 have k:Blk a (w.heap.size+1) 25 #[G none 0 0,G none 0 0,E F 0,E F 0,O false]:=by
  exact mcWp8a0
 have a:=ae j;have s:=L k;have x:=L H3;have D:=L (H.ext H3);have k:=L (U.ext H3);have p:=L hs;have a:=L (T.ext H3);have j:=L X;have H:=(t.ext H3).cell 0 rfl;have t:=(C.ext H3).cell 0 rfl;have t:=(z.ext H3).cell 0 rfl;go_enter func199,ntmps199
 go_wp2_with fail;have key:=AR _ d n 3 h g _ b _ k D p a o;rw[j.out]at key;refine key.mono ?_;rintro e a⟨u,rfl,y,i⟩;obtain⟨l,K,m,P,rfl,of,h⟩:=y;have a:=s.ext i;have g:=aH a;have g:=ae a;have g:=L a;have a:=L (OwnD.dk ⟨l,K,m,P,rfl,of,h⟩);have h:=L (xT x i);go_wp2_with fail
 refine bodyPost_ret (yas _ _ _ _ _ rfl rfl (aT g _ _ _ _ _) rfl) rfl ?_;exact⟨_,rfl,zwP g a _ _ _ _ _,aS h (by omega) _ _ _ _ _⟩
theorem yat(tmps:Array Value)(W:World)(b:Nat)(cs:Array Value)(u:Value)(h4:tmps.getD 3 undef=M (J ⟨b,0,I⟩))(h5:tmps.getD 4 undef=u)(hb:Blk W b 25 cs)(hs:cs.size=5):(results Tryz.f200 tmps).run R W=.ok (.tuple #[.agg cs,u]) W:=by
 have hl:=hb.load (P:=R) em rfl (by rw[hs];kernel_rfl);have a:tmps[3]?.getD undef=M (J ⟨b,0,I⟩):=by simpa using h4
 have d:tmps[4]?.getD undef=u:=by simpa using h5
 simp[results,results200,a,d,asAddr,hl]
theorem zyY(o:Nat)(m:Mf)(h:Option Addr)(cs:Nat)(v:Value)(d:Dk)(n:Nat)(w:World)(t:StW w)(hD:DkV w v d)(hs:Sz n d)(hn:n<=100000)(hb:Blk w o 30 #[E F m.next,E F m.term,E F m.vote,E F m.sq,E F m.sf,G h m.segs.length cs])(s:Sgs w (G h m.segs.length cs) m.segs)(J7:V m.segs<=1000000)(Z:V (cY m)<=1000000)(Hk:∀b,bj m=J b->V b<=100000)(r:Dk×Int)(x:eL d m=r):
  Calls R 200 #[v,M (J ⟨o,0,I⟩)] w λen w'=>∃u,en=.returned (.tuple #[u,E F r.2])/\DkV w' u r.1/\Ext w w':=by
 have l:=hD;obtain⟨vf,vq,rfl,j,k⟩:=hD;obtain⟨A,c,rfl,_,_⟩:=Fs.open_ j;obtain⟨B,e2,rfl,_,_⟩:=Qs.open_ k;obtain⟨a,H4⟩:∃a,(w.alloc (Q #[G A d.fs.length c,G B d.q.length e2,E F d.quota,E F d.fuse,O d.dead] 25)).alloc (Q #[G none 0 0,G none 0 0,E F 0,E F 0,O false] 25)=a:=⟨_,rfl⟩;have H3:Ext w a:=by rw[<-H4];exact xA (xA (xR _) _) _
 have p:Blk a w.heap.size 25 #[G A d.fs.length c,G B d.q.length e2,E F d.quota,E F d.fuse,O d.dead]:=by rw[<-H4];exact(P0 w _ _).alloc _
 have y:Blk a (w.heap.size+1) 25 #[G none 0 0,G none 0 0,E F 0,E F 0,O false]:=by
  exact mcWp8a0
 have eb:=ae p;have X:=L y;have Y:=L H3;have KL:=L (l.ext H3);have T:=L (t.ext H3);have U:=L hs;have N:=L (s.ext H3);have S:=L x;have P:=L Hk;have ea:=aj (hb.ext H3);clear H3 p y l j k t hs s hb x Hk;go_enter func200,ntmps200
 go_wp2_with fail;have key:=qN _ d n m _ _ T KL U hn N J7 Z P;rw[S.out]at key;refine key.mono ?_;clear key;rintro e w1⟨u,rfl,Jd,g⟩;clear ea;obtain⟨C,c1,D,e1,rfl,of,z⟩:=Jd;have f:=X.ext g;have ec:=aH f;have ed:=ae f;have i:=L f;have H:=L (OwnD.dk ⟨C,c1,D,e1,rfl,of,z⟩);have K:=L (xT Y g);clear H4 f of z g eb;go_wp2_with fail
 refine bodyPost_ret (yat _ _ _ _ _ rfl rfl (aT i _ _ _ _ _) rfl) rfl ?_;exact⟨_,rfl,zwP i H _ _ _ _ _,aS K (by omega) _ _ _ _ _⟩
theorem zxM(g:Int):∀(l:List Sg4) (j:Nat) (hj:j<V l),bM (l.set j { l[j]with count:=g })=(bM l).set (j*4+3) (E F g)
 |[],j,hj=>by simp at hj
 | x::l,0,_=>by
  show Sg4.cells { x with count:=g }++bM l=(x.cells++bM l).set 3 _;rfl
 | x::l,j+1,hj=>by
  have a:j<V l:=by simpa using hj
  have b:=zxM g l j a;show x.cells++bM (l.set j { l[j]with count:=g })=(x.cells++bM l).set ((j+1)*4+3) _;rw[b,show(j+1)*4+3=(j*4+3)+4 from by omega];rfl
theorem yam{a n:Nat}{l:List Sg4}(h:OwnS W base (G (J ⟨a,0,I⟩) n c) l)(j:Nat)(d:j<V l)(g:Int):OwnS (W.setCell ⟨a,j*4+3,I⟩ (E F g)) base (G (J ⟨a,0,I⟩) n c) (l.set j { l[j]with count:=g }):=by
 obtain⟨h1,h2⟩:=h;rcases h2 with⟨h2,_⟩|⟨q,cap,b,h2,hb,e,hn,hc,hs,f⟩
 ·cases h2
 ·injection h2 with e1 e2 e3
  injection e1 with e1
  injection e1 with e1
  subst e1 e2 e3;have d:Blk W a 36 b:=e;have b:=d.set (j*4+3) (E F g);unfold OwnS;rw[List.length_set,zxM];refine⟨by rw[List.length_set];exact h1,.inr ⟨a,c,_,rfl,hb,b,hn,hc,by rw[Array.size_setIfInBounds];exact hs,?_⟩⟩;rw[Array.toList_setIfInBounds,List.take_set,f]
theorem zzx{a n:Nat}{l:List Sg4}(h:OwnS W base (G (J ⟨a,0,I⟩) n c) l)(j:Nat)(g:j<V l):W.frozen? ⟨a,j*4+3,I⟩=false/\∃v,W.cell? ⟨a,j*4+3,I⟩=J v/\base<=a:=by
 obtain⟨_,b,k,e,hc⟩:=(OwnS.sgs h).at_ (by omega);cases e;have f:=(hc j g).2.2.2;rcases h.2 with⟨h2,_⟩|⟨q,cap,d,h2,hb,i,_⟩
 ·cases h2
 ·injection h2 with e1
  injection e1 with e1
  injection e1 with e1
  subst e1;have g:Blk W a 36 d:=i;rw[Nat.zero_add]at f;exact⟨g.frozen _,_,f,hb⟩
theorem zx6(l:List Sg4)(s:Sg4)(n:Nat):zxF (l++[s]) n=(l++[s]).set (V l) { s with count:=n }:=by
 unfold zxF;rw[List.getLast?_append];simp
theorem zzC(l:List Sg4)(n:Nat):V (zxF l n)=V l:=by
 rcases List.eq_nil_or_concat l with rfl | ⟨l,s,a⟩
 ·rfl
 ·rw[List.concat_eq_append]at a;subst a;rw[zx6,List.length_set]
theorem yau(tmps:Array Value)(W:World)(b:Nat)(cs:Array Value)(u:Value)(h4:tmps.getD 6 undef=M (J ⟨b,0,I⟩))(h5:tmps.getD 7 undef=u)(hb:Blk W b 25 cs)(hs:cs.size=5):(results Tryz.f140 tmps).run R W=.ok (.tuple #[.agg cs,u]) W:=by
 have hl:=hb.load (P:=R) em rfl (by rw[hs];kernel_rfl);have a:tmps[6]?.getD undef=M (J ⟨b,0,I⟩):=by simpa using h4
 have d:tmps[7]?.getD undef=u:=by simpa using h5
 simp[results,results140,a,d,asAddr,hl]
theorem zxu(v:Value)(d:Dk)(t:Tup)(m:Mf)(f:Int)(l:List Ent)(vl:Value)(n:Nat)(w:World)(hS:StW w)(hV:DirV w v d t m)(hl:Es w vl l)(hs:Sz n d)(r:Option (Sg4×Nat))(hr:zwT d m=r)(Jv:∀s k,r=J (s,k)->∃es,bw d.now s=J es)(K1:aZ (zw3 d t m f)=true)(fb:List UInt8)(K2:zxD rT f (t.s.idx+t.log.length+1) l=(0,fb))(d1 d2:Dk)(hp:cj d (aE 3 m.next f) fb=(d1,0))(hw:eL d1 (zw3 d t m f)=(d2,0))(n1:Nat)(JI:Sz n1 d1)(J6:(cY (zw3 d t m f)).length<=1000000)(Hk:∀b,bj (zw3 d t m f)=J b->b.length<=100000)(hn:n<=90000:=by decide)(J7:m.segs.length<=1000:=by decide)(Gw:0<=m.next/\m.next<=1073741824:=by decide)(hi:0<=t.s.idx/\t.s.idx<=1073741824:=by decide)(Gu:t.log.length<=100000:=by decide)(Gt:l.length<=1000:=by decide)(hk:zxb r<=100000:=by decide)(KI:n1<=100000:=by decide)(G1:n+2+fb.length<=1000000:=by decide):
  Calls R 140 #[v,E F f,vl] w λen w'=>∃u,en=.returned (.tuple #[u,E F 0])/\DkV w' u d2/\Ext w w':=by
 have Gv:∀(fn:Fn) (first cap:Array Value) (w:World),(Instr.makeFunc fn first cap).run R w=.ok (.func fn first cap) w:=λ_ _ _ _=>rfl;have Jr:=hV;obtain⟨A,c,B,e,Al,cl,As,cs,rfl,hF,hQ,hL,hG⟩:=hV;obtain⟨Av,cv,rfl,_,_⟩:=xO hl;obtain⟨W0,H4⟩:∃W0,((w.alloc (Q (zwO A c B e d Al cl t As cs m) 178)).alloc (Q #[E F f] 3)).alloc (Q #[G none 0 0,G none 0 0,E F 0,E F 0,O false] 25)=W0:=⟨_,rfl⟩;have H3:Ext w W0:=by rw[<-H4];exact xA (xA (xA (xR _) _) _) _
 have h0:Blk W0 w.heap.size 178 (zwO A c B e d Al cl t As cs m):=by rw[<-H4];exact((P0 w _ _).alloc _).alloc _
 have h1:Blk W0 (w.heap.size+1) 3 #[E F f]:=by
  rw[<-H4];have:=(P0 (w.alloc (Q (zwO A c B e d Al cl t As cs m) 178)) 3 #[E F f]).alloc (Q #[G none 0 0,G none 0 0,E F 0,E F 0,O false] 25);rwa[xS]at this
 have h2:Blk W0 (w.heap.size+1+1) 25 #[G none 0 0,G none 0 0,E F 0,E F 0,O false]:=by
  rw[<-H4];have:=P0 ((w.alloc (Q (zwO A c B e d Al cl t As cs m) 178)).alloc (Q #[E F f] 3)) 25 #[G none 0 0,G none 0 0,E F 0,E F 0,O false];rwa[xS,xS]at this
 have GB:W0.heap.size=w.heap.size+1+1+1:=by rw[<-H4];simp
 have HV:=L Jr;have HS:=L hS;have HL:=L hl;have Jk:=L hL;have Kq:=L (show DkV w (.agg #[G A d.fs.length c,G B d.q.length e,E F d.quota,E F d.fuse,O d.dead]) d from⟨_,_,rfl,hF,hQ⟩);have Hu:=L H3;have H0:=L h0;have H1:=L h1;have H2:=L h2;have HU:=L hs;have HR:=L hr;have JN:=L Jv;have JM:=L K1;have JO:=L K2;have HP:=L hp;have HW:=L hw;have JU:=L Hk;have JX:=L JI;have HG:=L (hG.ext H3);have key:=zzM m (G As m.segs.length cs) W0 HG (by omega);have H5:=L key;unfold zwO at h0;obtain⟨x0,x1,x2,x3,x4,x5,x6,x7,x8,x9,Gg,Gh,Gi,Gj,Gk,Gl,Gm,Gn,Gp⟩:=zwS h0;clear H3 h0 h1 h2 Jr hF hQ hL hG hl hS hs hr Jv K1 K2 hp hw Hk JI key;go_enter Tryz.func140,Tryz.ntmps140
 go_wp2_with fail
 refine H5.mono ?_;rintro en w1⟨v1,rfl,Jb,H8⟩;obtain⟨A1,c1,rfl,_,_⟩:=(OwnS.sgs Jb).open_;obtain⟨w2,JJ⟩:∃X,w1.alloc (Q #[E F m.next,E F m.term,E F m.vote,E F m.sq,E F m.sf,G A1 m.segs.length c1] 30)=X:=⟨_,rfl⟩;have J3:Ext w1 w2:=by rw[<-JJ];exact xA (xR _) _
 have Hp:=xT H8 J3;have HM:=L (show Blk w2 w1.heap.size 30 #[E F m.next,E F m.term,E F m.vote,E F m.sq,E F m.sf,G A1 m.segs.length c1] by rw[<-JJ];exact P0 w1 _ _);have HO:=L (ai Jb J3);have KO:=L (H0.ext Hp);have Jh:=L (H1.ext Hp);have Ji:=L (H2.ext Hp);have Kr:=L (xT Hu Hp);have GF:w.heap.size+1+1<w1.heap.size:=by have:=H8.size;omega
 clear H4 H5 Jb H8 Hp J3 H0 H1 H2 x0 x1 x2 x3 x4 x5 x6 x7 x8 x9 Gg Gh Gi Gj Gk Gl Gm Gn Gp;have key:=zyg _ d t m n w2 (HS.ext Kr) (HV.ext Kr) HU (by omega) J7 r HR JN;have Jf:=L KO;have K9:=L key;clear key;go_wp2_with (refine zwX rfl (.tmp 3) 178 rfl rfl Jf zxQ rfl ?_)
 refine K9.mono ?_;clear K9;rintro en w3⟨rfl,KA⟩;have Jg:=L KA;clear Jf;cases r
 case' none=>
  obtain⟨wA,Hl⟩:∃X,w3.alloc (Q #[E F 0,E F 0,E F 0,E F 0] 36)=X:=⟨_,rfl⟩;have H7:Ext w2 wA:=by rw[<-Hl];exact xA Jg _
  obtain⟨sg,Hd⟩:∃sg,m.segs=sg:=⟨_,rfl⟩;have hM:zw3 d t m f=⟨m.next+1,m.term,m.vote,m.sq,m.sf,sg++[⟨m.next,f,t.s.idx+t.log.length+1,-1⟩]⟩:=by unfold zw3;rw[HR.out,Hd]
  have J9:sg.length=m.segs.length:=by rw[Hd]
  have K4:=ai HO H7;rw[Hd]at K4;have K3:=HM.ext H7;have Kw:=KO.ext H7;have Kx:=Jh.ext H7;have Ky:=Ji.ext H7;have KV:=xT Kr H7;have K4:OwnS wA W0.heap.size (G A1 m.segs.length c1) sg:=by rw[<-Hd];exact ai HO H7
  have JV:=L Hd;have K7:Blk wA w3.heap.size 36 #[E F 0,E F 0,E F 0,E F 0]:=by rw[<-Hl];exact P0 w3 _ _
  have z0:wA.cell? ⟨w3.heap.size,0,I⟩=J (E F 0):=K7.cell 0 rfl;have z1:wA.cell? ⟨w3.heap.size,1,I⟩=J (E F 0):=K7.cell 1 rfl;have z2:wA.cell? ⟨w3.heap.size,2,I⟩=J (E F 0):=K7.cell 2 rfl;have z3:wA.cell? ⟨w3.heap.size,3,I⟩=J (E F 0):=K7.cell 3 rfl;have fz:=λk=>K7.frozen k;have e0:=zwL z0;have e1:=zwL z1;have e2:=zwL z2;have e3:=zwL z3;clear Hd H7 K7;dsimp only[zyF,zxb,Option.isSome];go_wp2_with fail
  try simp only[e0,e1,e2,e3]
  clear z0 z1 z2 z3 fz e0 e1 e2 e3
 case' some p=>
  obtain⟨s,k⟩:=p;obtain⟨⟨l9,KE⟩,Ga,_⟩:=zxY HR;have J8:m.segs.length=l9.length+1:=by rw[KE];simp
  obtain⟨wX,Gd⟩:∃X,w3.alloc (Q #[E F s.seq,E F s.fmt,E F s.first,E F s.count] 36)=X:=⟨_,rfl⟩;have H7:Ext w2 wX:=by rw[<-Gd];exact xA Jg _
  have Ht:OwnS wX W0.heap.size (G A1 m.segs.length c1) m.segs:=ai HO H7;obtain⟨gb,rfl⟩:∃gb,A1=J ⟨gb,0,I⟩:=by
   rcases Ht.2 with⟨h2,_⟩|⟨q,cap,cur,h2,_⟩
   ·injection h2 with e1 e2
    omega
   injection h2 with e1
   exact⟨q,e1⟩
  have KH:=HM.ext H7;have KR:=KO.ext H7;have KT:=Jh.ext H7;have KU:=Ji.ext H7;have JB:w.heap.size≠gb:=λe=>KR.not_row (by decide) Ht (by show some w.heap.size=J gb;rw[e]);have KI:w.heap.size+1≠gb:=λe=>KT.not_row (by decide) Ht (by show some (w.heap.size+1)=J gb;rw[e]);have JC:w.heap.size+1+1≠gb:=λe=>KU.not_row (by decide) Ht (by show some (w.heap.size+1+1)=J gb;rw[e]);have JD:w1.heap.size≠gb:=λe=>KH.not_row (by decide) Ht (by show some w1.heap.size=J gb;rw[e]);obtain⟨G3,v9,Gb,G4⟩:=zzx Ht (m.segs.length-1) (by omega);obtain⟨sg,Hd⟩:∃sg,zxF m.segs k=sg:=⟨_,rfl⟩;have hM:zw3 d t m f=⟨m.next+1,m.term,m.vote,m.sq,m.sf,sg++[⟨m.next,f,t.s.idx+t.log.length+1,-1⟩]⟩:=by unfold zw3;rw[HR.out];dsimp only;rw[Hd]
  have J9:sg.length=m.segs.length:=by rw[<-Hd,zzC]
  obtain⟨wA,Hl⟩:∃X,wX.setCell ⟨gb,(m.segs.length-1)*4+3,I⟩ (E F k)=X:=⟨_,rfl⟩;have K4:OwnS wA W0.heap.size (G (J ⟨gb,0,I⟩) m.segs.length c1) sg:=by
   have:=yam Ht (m.segs.length-1) (by omega) k;rw[Hl]at this;have he:zxF m.segs k=m.segs.set (m.segs.length-1) { m.segs[m.segs.length-1]'(by omega)with count:=(k:Int) }:=by
    simp only[KE];rw[zx6];simp
   rw[<-Hd,he];exact this
  have K3:=KH.other JD ((m.segs.length-1)*4+3) (E F k);rw[Hl]at K3;have Kw:=KR.other JB ((m.segs.length-1)*4+3) (E F k);rw[Hl]at Kw;have Kx:=KT.other KI ((m.segs.length-1)*4+3) (E F k);rw[Hl]at Kx;have Ky:=KU.other JC ((m.segs.length-1)*4+3) (E F k);rw[Hl]at Ky;have KV:Ext w wA:=by rw[<-Hl];exact P1 (p:=⟨gb,(m.segs.length-1)*4+3,I⟩) (xT Kr H7) (by show w.heap.size<=gb;omega) _
  have ea:=aj KH;have Gz:wrap64 ((m.segs.length:Int)-1)=(m.segs.length:Int)-1:=by unfold wrap64;omega
  have Gy:0<m.segs.length:=by omega
  have JV:=L Hd;have Gq:=L KE;clear Hd KE H7 Ht KH KR KT KU J8 Ga;dsimp only[zyF,zxb,Option.isSome];go_wp2_with fail;obtain⟨A1,Jo⟩:∃A,(J ⟨gb,0,I⟩:Option Addr)=A:=⟨_,rfl⟩;rw[Jo]at K3 K4;clear Jo G3 Gb G4 JB KI JC JD ea
 all_goals
  have K8:=L K3;have Kt:=L K4;have Ko:=L Kw;have Kp:=L Kx;have KK:=L Ky;have Ks:=L KV;have Jj:=L hM;have Jm:=L (show w1.heap.size<wA.heap.size from K3.lt);clear K3 K4 Kw Kx Ky KV hM;have Kk:∀W,Ext wA W->W.cell? ⟨w1.heap.size,0,I⟩=J (E F m.next)/\W.cell? ⟨w.heap.size+1,0,I⟩=J (E F f)/\W.cell? ⟨w.heap.size,5,I⟩=J (E F t.s.idx)/\W.cell? ⟨w.heap.size,6,I⟩=J (E F t.s.term)/\W.cell? ⟨w.heap.size,7,I⟩=J (E F t.s.sum)/\W.cell? ⟨w.heap.size,8,I⟩=J (E F t.s.lvl)/\W.cell? ⟨w.heap.size,9,I⟩=J (O t.s.fin)/\W.cell? ⟨w.heap.size,10,I⟩=J (G Al t.log.length cl)/\W.cell? ⟨w.heap.size,11,I⟩=J (E F t.term)/\W.cell? ⟨w.heap.size,12,I⟩=J (E F t.vote):=λW h=>by
   have g0:=Ko.ext h;unfold zwO at g0;exact⟨(K8.ext h).cell 0 rfl,(Kp.ext h).cell 0 rfl,g0.cell 5 rfl,g0.cell 6 rfl,g0.cell 7 rfl,g0.cell 8 rfl,g0.cell 9 rfl,g0.cell 10 rfl,g0.cell 11 rfl,g0.cell 12 rfl⟩
  have Hn:=L Kk;clear Kk;refine wp_region_held_drew (S:=λW=>W.cell? ⟨w1.heap.size,0,I⟩=J (E F m.next)/\W.cell? ⟨w.heap.size+1,0,I⟩=J (E F f)/\W.cell? ⟨w.heap.size,5,I⟩=J (E F t.s.idx)/\W.cell? ⟨w.heap.size,6,I⟩=J (E F t.s.term)/\W.cell? ⟨w.heap.size,7,I⟩=J (E F t.s.sum)/\W.cell? ⟨w.heap.size,8,I⟩=J (E F t.s.lvl)/\W.cell? ⟨w.heap.size,9,I⟩=J (O t.s.fin)/\W.cell? ⟨w.heap.size,10,I⟩=J (G Al t.log.length cl)/\W.cell? ⟨w.heap.size,11,I⟩=J (E F t.term)/\W.cell? ⟨w.heap.size,12,I⟩=J (E F t.vote)) (by kernel_rfl) (Hn _ (xD (xR _))) (λ_=>?_);have JK:IntKind.i64.wrap (t.s.idx+(t.log.length:Int)+1)=t.s.idx+(t.log.length:Int)+1:=by rw[IntKind.wrap_i64];omega
  have GA:wrap64 (t.s.idx+(t.log.length:Int)+1)=t.s.idx+(t.log.length:Int)+1:=by unfold wrap64;omega
  refine ab 0 ?_;refine ab 1 ?_;refine ab 2 ?_;refine ab 3 ?_;refine ab 4 ?_;refine AllReadyH.two (i:=5) (j:=8) rfl rfl (by kernel_rfl) (by rfl) (by rfl) (λK hK=>?_) (λK hK=>?_)
  case' refine_1=>
   go_simp;have KX:Ext wA wA.drew:=xD (xR _);have key:=zye t (G Al t.log.length cl) wA.drew (SlR.ext Jk (xT Ks KX)) (by omega) hi;unfold bE at key;refine key.mono ?_;clear key;rintro en w5⟨rfl,H9⟩;have Hi:=L (xT KX H9);clear H9 KX;refine af hK _ _ (Hn _ Hi) (λ_=>?_);refine ab 6 ?_;refine ab 7 ?_;refine ah 8 (λK hK=>?_);go_simp;have HD:Ext w5 (w5.alloc (Q #[E F 0,E F 0,E F 0,E F 0] 36)):=xA (xR _) _;refine af hK _ _ (Hn _ (xT Hi HD)) (λ_=>?_);refine ah 9 (λK hK=>?_);go_simp;try simp only[JK]
   obtain⟨bS,HE⟩:∃b,w5.heap.size=b:=⟨_,rfl⟩;obtain⟨wS,Hm⟩:∃X,w5.alloc (Q #[E F m.next,E F f,E F (t.s.idx+(t.log.length:Int)+1),E F (-1)] 36)=X:=⟨_,rfl⟩;have Kv:=L (show Blk wS bS 36 #[E F m.next,E F f,E F (t.s.idx+(t.log.length:Int)+1),E F (-1)] by rw[<-Hm,<-HE];exact P0 w5 _ _);have Hw:=L (show Ext wA wS by rw[<-Hm];exact xA Hi _);have Hx:=L (show wA.heap.size<=bS by rw[<-HE];exact Hi.size);rw[Hm,HE];clear Hm HE Hi HD;refine af hK _ _ (Hn _ Hw) (λ_=>?_);refine aq ?_
  case' refine_2=>
   go_simp;have HD:Ext wA (wA.alloc (Q #[E F 0,E F 0,E F 0,E F 0] 36)).drew:=xD (xA (xR _) _);refine af hK _ _ (Hn _ HD) (λ_=>?_);refine ah 5 (λK hK=>?_);go_simp;have key:=zye t (G Al t.log.length cl) _ (SlR.ext Jk (xT Ks HD)) (by omega) hi;unfold bE at key;refine key.mono ?_;clear key;rintro en w5⟨rfl,H9⟩;have HH:Blk w5 wA.heap.size 36 #[E F 0,E F 0,E F 0,E F 0]:=((P0 wA 36 #[E F 0,E F 0,E F 0,E F 0]).ext (xD (xR _))).ext H9;have Hi:=L (xT HD H9);refine af hK _ _ (Hn _ Hi) (λ_=>?_);refine ab 6 ?_;refine ab 7 ?_;have z0:w5.cell? ⟨wA.heap.size,0,I⟩=J (E F 0):=HH.cell 0 rfl;have z1:w5.cell? ⟨wA.heap.size,1,I⟩=J (E F 0):=HH.cell 1 rfl;have z2:w5.cell? ⟨wA.heap.size,2,I⟩=J (E F 0):=HH.cell 2 rfl;have z3:w5.cell? ⟨wA.heap.size,3,I⟩=J (E F 0):=HH.cell 3 rfl;have fz:=λk=>HH.frozen k;refine ah 9 (λK hK=>?_);go_simp;try simp only[JK]
   obtain⟨bS,HE⟩:∃b,wA.heap.size=b:=⟨_,rfl⟩;obtain⟨wS,Hm⟩:∃X,(((w5.setCell ⟨wA.heap.size,0,I⟩ (E F m.next)).setCell ⟨wA.heap.size,1,I⟩ (E F f)).setCell ⟨wA.heap.size,2,I⟩ (E F (t.s.idx+(t.log.length:Int)+1))).setCell ⟨wA.heap.size,3,I⟩ (E F (-1))=X:=⟨_,rfl⟩;have h1:Blk wS wA.heap.size 36 #[E F m.next,E F f,E F (t.s.idx+(t.log.length:Int)+1),E F (-1)]:=by rw[<-Hm];exact(((HH.set 0 (E F m.next)).set 1 (E F f)).set 2 (E F (t.s.idx+(t.log.length:Int)+1))).set 3 (E F (-1))
   have h2:Ext wA wS:=by rw[<-Hm];exact P1 (p:=⟨wA.heap.size,3,I⟩) (P1 (p:=⟨wA.heap.size,2,I⟩) (P1 (p:=⟨wA.heap.size,1,I⟩) (P1 (p:=⟨wA.heap.size,0,I⟩) Hi (xN _) _) (xN _) _) (xN _) _) (xN _) _
   rw[Hm];rw[HE]at h1⊢;have Kv:=L h1;have Hw:=L h2;have Hx:=L (show wA.heap.size<=bS by rw[<-HE];exact xN _);clear Hm h1 h2 z0 z1 z2 z3 fz HH H9 HD Hi;refine af hK _ _ (Hn _ Hw) (λ_=>?_);refine aq ?_
  all_goals
   have JE:some bS≠(Value.slice A1 m.segs.length c1).ownBlock:=λe=>by
    obtain⟨_,cs,fr,G0⟩:=fH Kt e.symm;have h1:=(Array.getElem?_eq_some_iff.1 G0).1;have h2:=Hx.out;omega
   have J4:=K8.ext Hw;have Hs:=Kv.out;have Kk:∀W,Ext wS W->W.cell? ⟨w1.heap.size,5,I⟩=J (G A1 m.segs.length c1)/\W.cell? ⟨w1.heap.size,0,I⟩=J (E F m.next)/\W.cell? ⟨bS,0,I⟩=J (E F m.next)/\W.cell? ⟨bS,1,I⟩=J (E F f)/\W.cell? ⟨bS,2,I⟩=J (E F (t.s.idx+(t.log.length:Int)+1))/\W.cell? ⟨bS,3,I⟩=J (E F (-1)):=λW h=>⟨(J4.ext h).cell 5 rfl,(J4.ext h).cell 0 rfl,(Hs.ext h).cell 0 rfl,(Hs.ext h).cell 1 rfl,(Hs.ext h).cell 2 rfl,(Hs.ext h).cell 3 rfl⟩;have KN:=L Kk;clear Hn J4 Hs Kk;go_wp2_with fail
   refine zyc [1,2,3,4,6] (λW=>W.cell? ⟨w1.heap.size,5,I⟩=J (G A1 m.segs.length c1)/\W.cell? ⟨w1.heap.size,0,I⟩=J (E F m.next)/\W.cell? ⟨bS,0,I⟩=J (E F m.next)/\W.cell? ⟨bS,1,I⟩=J (E F f)/\W.cell? ⟨bS,2,I⟩=J (E F (t.s.idx+(t.log.length:Int)+1))/\W.cell? ⟨bS,3,I⟩=J (E F (-1))) (by kernel_rfl) (KN _ (xD (xR _))) (λ_=>?_);refine zxq (i:=0) (v:=?_) rfl (by kernel_rfl) (by kernel_rfl) (by rfl) (by kernel_rfl) (λ_ _ _ h=>h) (by rfl) (λw=>?_) ?_;rotate_left
   ·go_simp;try with_reducible rfl
   try simp only[P2,sA,sZ,sS]
   refine zxq (i:=5) (v:=?_) rfl (by kernel_rfl) (by kernel_rfl) (by rfl) (by kernel_rfl) (λ_ _ _ h=>h) (by rfl) (λw=>?_) ?_;rotate_left
   ·go_simp;try with_reducible rfl
   try simp only[P2,sA,sZ,sS]
   refine zxl (i:=6) (v:=?_) rfl (by kernel_rfl) (by kernel_rfl) (by kernel_rfl) (by kernel_rfl) (λ_ _ _ h=>h) (by rfl) (by assumption) (λw hw=>?_) ?_;rotate_left
   ·(try dsimp only at hw);go_simp;try with_reducible rfl
   try simp only[P2,sA,sZ,sS]
   refine zxq (i:=7) (v:=?_) rfl (by kernel_rfl) (by kernel_rfl) (by rfl) (by kernel_rfl) (λ_ _ _ h=>h) (by rfl) (λw=>?_) ?_;rotate_left
   ·go_simp;try with_reducible rfl
   try simp only[P2,sA,sZ,sS]
   refine zxl (i:=1) (v:=?_) rfl (by kernel_rfl) (by kernel_rfl) (by kernel_rfl) (by kernel_rfl) (λ_ _ _ h=>h) (by rfl) (by assumption) (λw hw=>?_) ?_;rotate_left
   ·(try dsimp only at hw);go_simp;try with_reducible rfl
   try simp only[P2,sA,sZ,sS]
   refine zxl (i:=2) (v:=?_) rfl (by kernel_rfl) (by kernel_rfl) (by kernel_rfl) (by kernel_rfl) (λ_ _ _ h=>h) (by rfl) (by assumption) (λw hw=>?_) ?_;rotate_left
   ·(try dsimp only at hw);go_simp;try with_reducible rfl
   try simp only[P2,sA,sZ,sS]
   refine zw0 (i:=3) rfl (by kernel_rfl) (by rfl) (λK hL=>?_);go_simp;obtain⟨w6,KJ⟩:∃X,(wS.alloc (Q #[E F m.next,E F f,E F (t.s.idx+(t.log.length:Int)+1),E F (-1)] 36)).drew=X:=⟨_,rfl⟩;have X6:Ext wS w6:=by rw[<-KJ];exact xD (xA (xR _) _)
   have JH:SlR w6 4 (G (J ⟨wS.heap.size,0,I⟩) 1 1) 1 (bM [⟨m.next,f,t.s.idx+t.log.length+1,-1⟩]):=by rw[<-KJ];exact SlR.ext (yK wS [⟨m.next,f,t.s.idx+t.log.length+1,-1⟩] 1 rfl) (xD (xR _))
   have JL:W0.heap.size<=w6.heap.size:=by
    have h1:=X6.size;have h2:=Hw.size;have h3:=Jm.out;omega
   rw[KJ];refine hL _ _ (λ_=>KN.out _ X6) (λ_=>?_);clear hL K;try simp only[P2,sA,sZ,sS]
   have Hc:=L (xT Hw X6);have Jn:=L JH;clear KJ JH;obtain⟨i0,Jw,Jx,Jy,Jz⟩:=info_parts yI;refine zw0 (i:=4) rfl (by kernel_rfl) (by rfl) (λK hL=>?_);refine fJ _ (.tmp 44) (.tmp 46) 28 (by rfl) W0.heap.size 36 i0 _ 4 32 Tryz.underlying28 Jw Jx Jy Jz rfl (G A1 m.segs.length c1) sg.length (bM sg) (ai Kt Hc) _ 1 (bM [⟨m.next,f,t.s.idx+t.log.length+1,-1⟩]) Jn (yY _) JL ?_;intro v7 w7 Kl HI;rw[J9]at Kl;have K5:=ai Kt Hc;have H6:=(K8.ext Hc).kept HI ((K8.ext Hc).not_row (by decide) K5);have Hb:=(Kv.ext X6).kept HI JE;have Kf:=(Ko.ext Hc).kept HI ((Ko.ext Hc).not_row (by decide) K5);have Kg:=(Kp.ext Hc).kept HI ((Kp.ext Hc).not_row (by decide) K5);have Kh:=(KK.ext Hc).kept HI ((KK.ext Hc).not_row (by decide) K5);have E7:Ext w w7:=Ext.grownOwn (xT Ks Hc) (ay K5 Hu.size) HI;obtain⟨A7,c7,rfl,_,_⟩:=xO (xW Kl);refine hL _ _ (λ_=>⟨H6.cell 5 rfl,H6.cell 0 rfl,Hb.cell 0 rfl,Hb.cell 1 rfl,Hb.cell 2 rfl,Hb.cell 3 rfl⟩) (λ_=>?_);clear hL K;try simp only[P2,sA,sZ,sS]
   have k5:=H6.cell 5 rfl;have k0:=H6.cell 0 rfl;have f7:=λk=>H6.frozen k;refine zw0 (i:=8) rfl (by kernel_rfl) (by rfl) (λK hL=>?_);go_simp;refine hL _ _ (λh=>absurd h (by decide)) (λ_=>?_);clear hL K;try simp only[P2,sA,sZ,sS]
   refine zw0 (i:=9) rfl (by kernel_rfl) (by rfl) (λK hL=>?_);go_simp;refine hL _ _ (λh=>absurd h (by decide)) (λ_=>?_);clear hL K;try simp only[P2,sA,sZ,sS]
   refine zw0 (i:=10) rfl (by kernel_rfl) (by rfl) (λK hL=>?_);go_simp;refine hL _ _ (λh=>absurd h (by decide)) (λ_=>?_);clear hL K;try simp only[P2,sA,sZ,sS]
   refine zw0 (i:=11) rfl (by kernel_rfl) (by rfl) (λK hL=>?_);go_simp;refine hL _ _ (λh=>absurd h (by decide)) (λ_=>?_);clear hL K;try simp only[P2,sA,sZ,sS]
   refine zyQ (by kernel_rfl) ?_ _;have Gc:IntKind.i64.wrap (m.next+1)=m.next+1:=by rw[IntKind.wrap_i64];omega
   simp only[Gc];obtain⟨x,hx⟩:∃x:Sg4,x=⟨m.next,f,t.s.idx+t.log.length+1,-1⟩:=⟨_,rfl⟩;rw[<-hx]at Kl;have Hj:(sg++[x]).length=m.segs.length+1:=by simp[J9]
   have J2:OwnS w7 W0.heap.size (G A7 (m.segs.length+1) c7) (sg++[x]):=by
    unfold OwnS;rw[Hj,show bM (sg++[x])=bM sg++bM [x]from List.flatMap_append];exact Kl
   obtain⟨wM,K6⟩:∃X,(w7.setCell ⟨w1.heap.size,5,I⟩ (G A7 (m.segs.length+1) c7)).setCell ⟨w1.heap.size,0,I⟩ (E F (m.next+1))=X:=⟨_,rfl⟩;rw[K6];have GC:=Jm.out;have GG:=Hu.size;have oM:OwnS wM W0.heap.size (G A7 (m.segs.length+1) c7) (sg++[x]):=by
    rw[<-K6];have o5:OwnS (w7.setCell ⟨w1.heap.size,5,I⟩ (G A7 (m.segs.length+1) c7)) W0.heap.size (G A7 (m.segs.length+1) c7) (sg++[x]):=J2.kept (ar _ _ 5 _) (.inr (H6.not_row (by decide) J2).symm);exact World.ownsRow.kept o5 (ar _ _ 0 _) (.inr ((H6.set 5 (G A7 (m.segs.length+1) c7)).not_row (by decide) o5).symm)
   have mM:Blk wM w1.heap.size 30 #[E F (m.next+1),E F m.term,E F m.vote,E F m.sq,E F m.sf,G A7 (m.segs.length+1) c7]:=by rw[<-K6];exact(H6.set 5 _).set 0 _
   have KY:=(Kf.other (show w.heap.size≠w1.heap.size by omega) 5 (G A7 (m.segs.length+1) c7)).other (show w.heap.size≠w1.heap.size by omega) 0 (E F (m.next+1));have KZ:=(Kg.other (show w.heap.size+1≠w1.heap.size by omega) 5 (G A7 (m.segs.length+1) c7)).other (show w.heap.size+1≠w1.heap.size by omega) 0 (E F (m.next+1));have J0:=(Kh.other (show w.heap.size+1+1≠w1.heap.size by omega) 5 (G A7 (m.segs.length+1) c7)).other (show w.heap.size+1+1≠w1.heap.size by omega) 0 (E F (m.next+1));have J1:=(Hb.other (show bS≠w1.heap.size by have:=Hx.out;omega) 5 (G A7 (m.segs.length+1) c7)).other (show bS≠w1.heap.size by have:=Hx.out;omega) 0 (E F (m.next+1));rw[K6]at KY KZ J0 J1;have eM:Ext w wM:=by rw[<-K6];exact P1 (p:=⟨w1.heap.size,0,I⟩) (P1 (p:=⟨w1.heap.size,5,I⟩) E7 (by show w.heap.size<=w1.heap.size;omega) _) (by show w.heap.size<=w1.heap.size;omega) _
   have Jp:zw3 d t m f=⟨m.next+1,m.term,m.vote,m.sq,m.sf,sg++[x]⟩:=by rw[hx];exact Jj.out
   have K1:=JM.out;have HJ:=J6;have Hk:=JU.out;have hw:=HW.out;rw[Jp]at K1 HJ Hk hw;have MO:=L oM;have MM:=L mM;have M0:=L KY;have M1:=L KZ;have M2:=L J0;have MS:=L J1;have ME:=L eM;have KM:=L HJ;have PL:=L Hk;have WW:=L hw;have key:=F2 ⟨m.next+1,m.term,m.vote,m.sq,m.sf,sg++[x]⟩ (G A7 (m.segs.length+1) c7) wM (OwnS.sgs oM);rw[K1,if_pos rfl]at key;have H5:=L key;have ea:=aj mM;clear JE KN X6 JL Hc Jn Jw Jx Jy Jz Kl HI K5 H6 Hb Kf Kg Kh E7 k5 k0 f7 J2 K6 oM mM KY KZ J0 J1 eM Jp K1 HJ Hk hw Kv Hw Hx K8 Kt Ko Kp KK Ks Jj key;go_wp2_with fail
   refine H5.mono ?_;clear H5 ea;rintro en w8⟨rfl,HX⟩;have key:=zzd (T:=rT) f (t.s.idx+t.log.length+1) (G Av l.length cv) l w8 (HS.ext (xT ME HX)).tab (SlR.ext HL (xT ME HX)) (by omega);rw[JO.out]at key;have H5:=L key;have t0:=(M1.ext HX).cell 0 rfl;have s2:=(MS.ext HX).cell 2 rfl;have E8:=L HX;clear HX key;go_wp2_with fail
   refine H5.mono ?_;clear H5 t0 s2;rintro en w9⟨Ab,cb,rfl,Jc,Ke⟩;dsimp only at Jc⊢;have E9:=L (xT E8 Ke);have OB:=L Jc.bs;have h9:=M0.ext (xA E9 (Q #[G Ab fb.length cb] 33));unfold zwO at h9;have q0:=h9.cell 0 rfl;have q1:=h9.cell 1 rfl;have q2:=h9.cell 2 rfl;have q3:=h9.cell 3 rfl;have q4:=h9.cell 4 rfl;clear Jc Ke E8 h9;go_wp2_with fail;obtain⟨wZ,Kn⟩:∃X,(w9.alloc (Q #[G Ab fb.length cb] 33)).alloc (Q #[.func (.func 199) #[] #[M (J ⟨bS,0,I⟩),M (J ⟨w.heap.size+1,0,I⟩),M (J ⟨w9.heap.size,0,I⟩)],.func (.func 200) #[] #[M (J ⟨w1.heap.size,0,I⟩)]] 100)=X:=⟨_,rfl⟩;rw[Kn];have Hz:Ext w9 wZ:=by rw[<-Kn];exact xA (xA (xR _) _) _
   have HA:Ext wM wZ:=xT E9 Hz;have He:=xT ME HA;have Ju:Blk wZ w9.heap.size 33 #[G Ab fb.length cb]:=by rw[<-Kn];exact(P0 w9 _ _).alloc _
   have hL:SlR wZ 1 (G (J ⟨w9.heap.size+1,0,I⟩) 2 2) 2 [.func (.func 199) #[] #[M (J ⟨bS,0,I⟩),M (J ⟨w.heap.size+1,0,I⟩),M (J ⟨w9.heap.size,0,I⟩)],.func (.func 200) #[] #[M (J ⟨w1.heap.size,0,I⟩)]]:=by
    have h9:=fZ (P0 (w9.alloc (Q #[G Ab fb.length cb] 33)) 100 [Value.func (.func 199) #[] #[M (J ⟨bS,0,I⟩),M (J ⟨w.heap.size+1,0,I⟩),M (J ⟨w9.heap.size,0,I⟩)],.func (.func 200) #[] #[M (J ⟨w1.heap.size,0,I⟩)]].toArray) (n:=2) rfl (by decide);rw[xS]at h9;rw[<-Kn];exact h9
   have S1:zyp 199 #[M (J ⟨bS,0,I⟩),M (J ⟨w.heap.size+1,0,I⟩),M (J ⟨w9.heap.size,0,I⟩)] d d1 wZ:=λW v hE hd=>
    zyX bS (w.heap.size+1) w9.heap.size m.next f (t.s.idx+t.log.length+1) (-1) f (G Ab fb.length cb) fb v d n W (HS.ext (xT He hE)) hd HU G1 (MS.ext (xT HA hE)) (M1.ext (xT HA hE)) (Ju.ext hE) (SlR.ext OB (xT Hz hE)) (d1,0) HP
   have S2:zyp 200 #[M (J ⟨w1.heap.size,0,I⟩)] d1 d2 wZ:=λW v hE hd=>
    zyY w1.heap.size ⟨m.next+1,m.term,m.vote,m.sq,m.sf,sg++[x]⟩ A7 c7 v d1 n1 W (HS.ext (xT He hE)) hd JX KI (by rw[Hj];exact MM.ext (xT HA hE)) (by rw[Hj];exact OwnS.sgs (ai MO (xT HA hE))) (by rw[Hj];omega) KM PL (d2,0) WW
   have key:=zzj _ _ _ _ _ d d1 d2 wZ (Kq.ext He) hL S1 S2;have H5:=L key;have EZ:=L HA;have EW:=L He;clear key Kn Hz HA He Ju hL S1 S2 q0 q1 q2 q3 q4;refine H5.mono ?_;clear H5;rintro en wE⟨u,rfl,Hh,KW⟩;obtain⟨A5,c5,B5,e5,rfl⟩:=zwZ Hh;have KC:=M2.ext (xT EZ KW);have eb:=aH KC;have ec:=ae KC;have G5:=L KC;have GD:=L Hh;have GE:=L (xT EW KW);clear KC Hh KW;go_wp2_with fail
   refine bodyPost_ret (yau _ _ (w.heap.size+1+1) _ _ rfl rfl (aT G5 _ _ _ _ _) rfl) rfl ?_;exact⟨_,rfl,zwP G5 GD _ _ _ _ _,aS GE (by omega) _ _ _ _ _⟩
theorem mcR8ba0{P:Prop}(h:P:=by
 obtain⟨⟨D,r1⟩,Kz⟩:∃y,dk.doS (cE x)=y:=⟨_,rfl⟩;have KQ:=L (Ho.out.doS (cE x));rw[Kz]at Hh⊢;have HN:=HS.out;rw[Kq.out]at HN;simp only[ct]at HN;rw[Kz]at HN;rw[Kz]at KQ;dsimp only at Hh HN KQ⊢;obtain⟨GH,GI,rfl,J5,HK⟩:=Hh;obtain⟨Af,cf,rfl,_,_⟩:=Fs.open_ J5;obtain⟨Aq,cq,rfl,_,_⟩:=Qs.open_ HK;have eb:=ae Hg;have ec:=aH Hg;have HP:=L ((H.out.ext H9).oth Hg J5 HK (by omega) (by omega));have KP:=L (tW Hg (by decide) (ai HO H9) (G Af D.fs.length cf) (G Aq D.q.length cq) (E F D.quota) (E F D.fuse) (O D.dead));have Ku:=L HN;have Ke:Ext wr (aK w5 bo (G Af D.fs.length cf) (G Aq D.q.length cq) (E F D.quota) (E F D.fuse) (O D.dead)):=aS H9 Kj (G Af D.fs.length cf) (G Aq D.q.length cq) (E F D.quota) (E F D.fuse) (O D.dead);clear J5 HK Hg H9 HO H Ho HS Kq HN Kz;refine ah 11 (λK hK=>?_);go_simp;show K _ (aK w5 bo (G Af D.fs.length cf) (G Aq D.q.length cq) (E F D.quota) (E F D.fuse) (O D.dead));clear eb ec;generalize aK w5 bo (G Af D.fs.length cf) (G Aq D.q.length cq) (E F D.quota) (E F D.fuse) (O D.dead)=w9 at *;refine af hK _ _ (HQ.out _ Ke) (λ_=>?_);refine ab 12 ?_;refine aq ?_;clear Ke Kj KF HQ;have eb:=ae HP.out.1;by_cases hr1:r1=0
 case neg=>
  have Gx:(r1 != 0)=true:=by simpa using hr1
  have hs:=Ku.out;rw[if_neg hr1]at hs;subst hs;have HG:=L (Pt.give HP.out.2.2.2 (xR _) HP.out.2.1 HP.out.2.2.1 (Nat.lt_succ_self _));have HF:=HP.out.2.2.2.br;have ed:=ae HF;have ec:=aH HF;clear HF Ku hr1 HP KP;go_wp2_with fail
  refine bodyPost_ret (tq _ _ _ _ _ rfl rfl HG.out.1 rfl) rfl ?_;exact⟨⟨_,rfl,⟨_,_,rfl,HG.out.2.1,HG.out.2.2.1⟩⟩,HG.out.2.2.2⟩
 have hs:=Ku.out;rw[if_pos hr1]at hs;subst hr1;have Hr:=HP.out.2.2.2.b0;have ed:=ae Hr;have ec:=aH Hr;have HG:=L (Pt.store HP.out.2.2.2 (xR _) HP.out.2.1 HP.out.2.2.1 (Nat.lt_succ_self _));have JS:=L (tW Hr (by decide) KP (G Af D.fs.length cf) (G Aq D.q.length cq) (E F D.quota) (E F D.fuse) (O D.dead));have Hx:=L hs;clear Hr hs Ku HP KP;go_wp2_with fail
 go_roundw
 case rel=>exact⟨k+1,by have:=Hf.out.1;omega,by go_num,D,_,_,_,_,HG.out,Hx.out,KQ.out.mono (by simp[cE];omega),JS.out⟩
 case measure=>simp[intOf];have:=Hf.out.1;omega):P:=h
theorem tW{b:Nat}{t:TypeId}{cs:Array Value}(h:Blk W b t cs){e:TypeId}(Km:t≠e){d k:Nat}{f:Value}{xs:List Value}(j:W.ownsRow base e d f k xs)(a v u x y:Value):(aK W b a v u x y).ownsRow base e d f k xs:=by
 have d:=h.set 0 a;have f:=d.set 1 v;have g:=f.set 2 u;have i:=g.set 3 x;exact ey i Km (ey g Km (ey f Km (ey d Km (ey h Km j a) v) u) x) y
theorem Pt.oth{w:World}{r a:Nat}{A B b g:Option Addr}{e i j:Nat}{d D:Dk}(h:Pt w W r A c B e d)(hb:Blk W a 25 (ap none 0 0 none 0 0 0 0 false))(hf:Fs W (G b D.fs.length i) D.fs)(k:Qs W (G g D.q.length j) D.q)(l:w.heap.size<a)(l:r<a):
  Blk (aK W a (G b D.fs.length i) (G g D.q.length j) (E F D.quota) (E F D.fuse) (O D.dead)) a 25 (ap b D.fs.length i g D.q.length j D.quota D.fuse D.dead)/\Fs (aK W a (G b D.fs.length i) (G g D.q.length j) (E F D.quota) (E F D.fuse) (O D.dead)) (G b D.fs.length i) D.fs/\Qs (aK W a (G b D.fs.length i) (G g D.q.length j) (E F D.quota) (E F D.fuse) (O D.dead)) (G g D.q.length j) D.q/\Pt w (aK W a (G b D.fs.length i) (G g D.q.length j) (E F D.quota) (E F D.fuse) (O D.dead)) r A c B e d:=
 ⟨aT hb _ _ _ _ _,Fs.setBox hb hf _ _ _ _ _,Qs.setBox hb k _ _ _ _ _,⟨eS h.b0 (by omega) _ _ _ _ _,eS h.br (by omega) _ _ _ _ _,Fs.setBox hb h.f _ _ _ _ _,Qs.setBox hb h.q _ _ _ _ _,aS h.e (by omega) _ _ _ _ _⟩⟩
theorem tq(tmps:Array Value)(W:World)(b:Nat)(cs:Array Value)(e:Value)(h4:tmps.getD 4 undef=M (J ⟨b,0,I⟩))(h3:tmps.getD 5 undef=e)(hb:Blk W b 25 cs)(hs:cs.size=5):(results Tryz.f21 tmps).run R W=.ok (.tuple #[.agg cs,e]) W:=by
 have a:tmps[4]?.getD undef=M (J ⟨b,0,I⟩):=by simpa using h4
 have d:tmps[5]?.getD undef=e:=by simpa using h3
 have hl:=hb.load (P:=R) em rfl (by rw[hs];kernel_rfl);simp[results,results21,a,d,asAddr,hl,Sem.run_bind,Sem.run_pure,Result.andThen_ok]
theorem yv(v:Value)(d:Dk)(n:Nat)(vk:Value)(a:List (Int×Int×Int))(w:World)(hS:StW w)(hD:DkV w v d)(hs:Sz n d)(hK:SlR w 3 vk a.length (bH a))(JA:a.length<=1000000)(hn:n<=200000):
  Calls R 21 #[v,vk] w λe w'=>(∃u,e=.returned (.tuple #[u,E F (eQ d (aA a)).2])/\DkV w' u (eQ d (aA a)).1)/\Ext w w':=by
 obtain⟨vf,vq,rfl,hF,hQ⟩:=hD;obtain⟨A,c,rfl,_,_⟩:=Fs.open_ hF;obtain⟨B,e2,rfl,_,_⟩:=Qs.open_ hQ;obtain⟨C,c2,rfl,_,_⟩:=xO hK;obtain⟨o,H4⟩:∃o,(w.alloc (Q #[G A d.fs.length c,G B d.q.length e2,E F d.quota,E F d.fuse,O d.dead] 25)).alloc (Q #[G none 0 0,G none 0 0,E F 0,E F 0,O false] 25)=o:=⟨_,rfl⟩;have H3:Ext w o:=by rw[<-H4];exact xA (xA (xR _) _) _
 have h0:Blk o w.heap.size 25 (ap A d.fs.length c B d.q.length e2 d.quota d.fuse d.dead):=by rw[<-H4];exact(P0 w _ _).alloc _
 have h2:Blk o (w.heap.size+1) 25 (ap none 0 0 none 0 0 0 0 false):=by
  rw[<-H4];have:=P0 (w.alloc (Q #[G A d.fs.length c,G B d.q.length e2,E F d.quota,E F d.fuse,O d.dead] 25)) 25 #[G none 0 0,G none 0 0,E F 0,E F 0,O false];rwa[xS]at this
 have H:Hid (Pt w o (w.heap.size+1) A c B e2 d):=L ⟨h0,h2,hF.ext H3,hQ.ext H3,H3⟩;have JW:=L hS;have JP:=L hK;have HZ:=L hs;have JQ:=L JA;have m:=L hn;have G8:=fR d;have Ja:=oL d.now (aA a);have Ge:=hs.l;have Gf:=hs.t;obtain⟨T,hT⟩:∃T,eQ d (aA a)=T:=⟨_,rfl⟩;rw[hT];unfold eQ at hT;have HT:=L hT;have JR:=L (show d.now.length<=1000000 by omega);have Jl:=L (show(bG d.now (aA a)).length<=n by omega);have key:=mU _ d o H.out.dk (by omega) (by omega);have g:=L key;obtain⟨p,r,s,z,M⟩:=ae h0;clear h0 h2 hF hQ H3 hs hS hK JA hn G8 Ja Ge Gf hT key;go_enter func21,ntmps21
 go_wp2_with fail;clear H4;refine g.out.mono ?_;rintro e w1⟨u,rfl,⟨A1,c1,B1,e1,rfl,JF,JG⟩,H8⟩;clear p r s z M g;have Hr:=H.out.b0.ext H8;obtain⟨p,r,s,z,M⟩:=ae Hr;have ea:=aH Hr;replace H:=L (H.out.store H8 JF.fs JG.qs (Nat.lt_succ_self _));clear Hr JF JG H8;have key:=lH _ d _ H.out.dk (by have:=HZ.out.l;have:=m.out;omega) (by have:=HZ.out.t;have:=m.out;omega);have g:=L key;clear key;go_wp2_with fail;clear p r s z M ea;refine g.out.mono ?_;rintro e w2⟨⟨vl,rfl,K2⟩,Hp⟩;obtain⟨AL,cL,rfl,_,_⟩:=Fs.open_ K2;replace H:=L (H.out.ext Hp);have key:=F5 _ d.now _ a w2 (JW.out.ext H.out.e) K2 (SlR.ext JP H.out.e) JR JQ;replace g:=L key;clear Hp K2 key;go_wp2_with fail
 refine g.out.mono ?_;rintro e w3⟨⟨AN,cN,rfl,Jq⟩,KA⟩;replace H:=L (H.out.ext KA);have JT:=L Jq;clear Jq KA g;generalize bG d.now (aA a)=N at *;go_wp2_with fail
 go_loopw [7] (λi wr=>∃k:Nat,k<=N.length/\i=E F k/\∃dk A c B e,Hid (Pt w wr (w.heap.size+1) A c B e dk)/\Hid (ct false dk ((N.drop k).map cE)=T)/\Hid (Sz (n+k) dk)/\Hid (wr.ownsRow w2.heap.size 9 1 (G AN N.length cN) N.length (N.map sv))) (λi _=>N.length-(intOf i).toNat)
 case atStart=>exact⟨0,Nat.zero_le _,rfl,d,_,_,_,_,H.out,HT.out,HZ.out,JT.out⟩
 case round=>
  obtain⟨k,hk,rfl,dk,Ak,ck,Bk,ek,H,HS,Ho,HO⟩:=hrel;obtain⟨p,r,s,z,M⟩:=ae H.out.b0;by_cases P:k<N.length
  ·obtain⟨_,b,Je,JZ,hc⟩:=SlR.at_ (xW HO) (by omega);subst JZ;have KD:=hc k (sv N[k]) (by rw[List.getElem?_map,List.getElem?_eq_getElem P];rfl);have Ki:(N.drop k).map cE=cE N[k]::(N.drop (k+1)).map cE:=by rw[List.drop_eq_getElem_cons P];rfl
   have Kq:=L Ki;have Gs:(k:Int)<(N.length:Int):=by omega
   have Gr:N.length<=200000:=Nat.le_trans Jl m;have Hf:=L (show k<N.length/\N.length<=n from⟨P,Jl.out⟩);clear hc Ki;generalize N[k]=x at *;simp only[sv,Nat.mul_one]at KD;go_wp2_with fail
   have HQ:=L (λW (h:Ext wr W)=>show W.cell? ⟨w.heap.size,0,I⟩=J (G Ak dk.fs.length ck)/\W.cell? ⟨w.heap.size,1,I⟩=J (G Bk dk.q.length ek)/\W.cell? ⟨w.heap.size,2,I⟩=J (E F dk.quota)/\W.cell? ⟨w.heap.size,3,I⟩=J (E F dk.fuse)/\W.cell? ⟨w.heap.size,4,I⟩=J (O dk.dead)/\W.cell? ⟨b,Je+k,I⟩=J (U ⟨x.toArray⟩)from⟨h.cell p,h.cell r,h.cell s,h.cell z,h.cell M,h.cell KD⟩);refine wp_region_held_drew (S:=λW=>W.cell? ⟨w.heap.size,0,I⟩=J (G Ak dk.fs.length ck)/\W.cell? ⟨w.heap.size,1,I⟩=J (G Bk dk.q.length ek)/\W.cell? ⟨w.heap.size,2,I⟩=J (E F dk.quota)/\W.cell? ⟨w.heap.size,3,I⟩=J (E F dk.fuse)/\W.cell? ⟨w.heap.size,4,I⟩=J (O dk.dead)/\W.cell? ⟨b,Je+k,I⟩=J (U ⟨x.toArray⟩)) (by kernel_rfl) ⟨p,r,s,z,M,KD⟩ (λ_=>?_);refine ab 0 ?_;refine ab 1 ?_;refine ab 2 ?_;refine ab 3 ?_;refine ab 4 ?_;refine ab 5 ?_;clear KD p r s z M;refine AllReadyH.two (i:=6) (j:=10) rfl rfl (by kernel_rfl) (by rfl) (by rfl) (λK hK=>?_) (λK hK=>?_)
   ·go_simp;refine(nt _ dk (cE x) (G none 0 0) _ (H.out.ext (xD (xR _))).dk (SlR.nil _ 1) (by have:=Ho.out.l;have:=m.out;have:=Hf.out.1;have:=Hf.out.2;omega) (by have:=Ho.out.t;have:=m.out;have:=Hf.out.1;have:=Hf.out.2;omega) (by simp[cE]) Ho.out.f).mono ?_;rintro e V⟨⟨u,rfl,Hh⟩,Y⟩;have X:=xT (xD (xR _)) Y;refine af hK _ _ (HQ.out _ X) (λ_=>?_);refine ab 7 ?_;refine ab 8 ?_;refine ab 9 ?_;refine ah 10 (λK hK=>?_);go_simp;refine af hK _ _ (HQ.out _ (xA X _)) (λ_=>?_);have Hq:Ext V (V.alloc (Q #[G none 0 0,G none 0 0,E F 0,E F 0,O false] 25)):=xA (xR _) _;have Hg:=P0 V 25 #[G none 0 0,G none 0 0,E F 0,E F 0,O false];replace Hh:=Hh.ext Hq;have H9:=xT X Hq;have Kj:wr.heap.size<=V.heap.size:=X.size;have KF:w.heap.size+1<V.heap.size:=by have:=(H.out.br.ext X).lt;omega
    obtain⟨bo,Z⟩:∃bo,V.heap.size=bo:=⟨_,rfl⟩;rw[Z]at Hg KF Kj⊢;generalize V.alloc (Q #[G none 0 0,G none 0 0,E F 0,E F 0,O false] 25)=w5 at *;clear X Y Hq Z;exact mcR8ba0
   go_simp;have Hq:Ext wr (wr.drew.alloc (Q #[G none 0 0,G none 0 0,E F 0,E F 0,O false] 25)):=xA (xD (xR _)) _;have Hg:Blk (wr.drew.alloc (Q #[G none 0 0,G none 0 0,E F 0,E F 0,O false] 25)) wr.heap.size 25 #[G none 0 0,G none 0 0,E F 0,E F 0,O false]:=P0 wr.drew 25 #[G none 0 0,G none 0 0,E F 0,E F 0,O false];have KF:w.heap.size+1<wr.heap.size:=(H.out.br.ext (xD (xR _))).lt;have Kj:wr.heap.size<=wr.heap.size:=xN _;refine af hK _ _ (HQ.out _ Hq) (λ_=>?_);refine ah 6 (λK hK=>?_);go_simp;refine(nt _ dk (cE x) (G none 0 0) _ (H.out.ext Hq).dk (SlR.nil _ 1) (by have:=Ho.out.l;have:=m.out;have:=Hf.out.1;have:=Hf.out.2;omega) (by have:=Ho.out.t;have:=m.out;have:=Hf.out.1;have:=Hf.out.2;omega) (by simp[cE]) Ho.out.f).mono ?_;rintro e w5⟨⟨u,rfl,Hh⟩,Y⟩;have H9:=xT Hq Y;replace Hg:=Hg.ext Y;obtain⟨bo,Z⟩:∃bo,wr.heap.size=bo:=⟨_,rfl⟩;rw[Z]at Hg KF⊢;replace Kj:wr.heap.size<=bo:=Nat.le_of_eq Z;refine af hK _ _ (HQ.out _ H9) (λ_=>?_);refine ab 7 ?_;refine ab 8 ?_;refine ab 9 ?_;clear Y Hq Z;exact mcR8ba0
  ·obtain rfl:k=N.length:=by omega
   have hs:=HS.out;rw[List.drop_length]at hs;simp only[List.map_nil,ct]at hs;subst hs;have HG:=L (Pt.give H (xR _) H.out.f H.out.q (Nat.lt_succ_self _));have HF:=H.out.br;have ed:=ae HF;have ec:=aH HF;clear HF HS H HO;go_wp2_with fail
   refine bodyPost_ret (tq _ _ _ _ _ rfl rfl HG.out.1 rfl) rfl ?_;exact⟨⟨_,rfl,⟨_,_,rfl,HG.out.2.1,HG.out.2.2.1⟩⟩,HG.out.2.2.2⟩
