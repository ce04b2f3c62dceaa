/- Merged -/
import Derived.Test.YteggfecbjgbndaaGreatDoorZy42
set_option linter.all false
set_option maxHeartbeats 8000000
set_option maxRecDepth 100000
open Go.Proofs.Tryz
open List renaming length->Q
open Go.Value renaming int->D,slice->F,bool->H,pointer->M,agg->O
open Go.IntKind renaming i64->E
open Option renaming none->G,some->N
open Go.Mv renaming aN->I
open Go.Obj renaming cells->J
open Go.Proofs.Tryz renaming prog->L
open Go.Mv.Blk renaming new->P0
open List renaming length_nil->P1
open Go.World renaming drew->P2,ownsRow_nil->P3
namespace Go.Proofs.YteggfecbjgbndaaGreatDoor
open Go.RowKit Go.Mv
variable {d:Dk} {a t:Nat}
def sH(r:Rd)(e c:Nat)(w:World)(b:Ending)(w':World):Prop:=if r.err=0 then b=.returned (D E 0)/\zvY w e c r w' else b=.returned (D E r.err)/\Ext w w'
theorem zx(fs:List Fil):(b9 fs).err=0\/(∃e,b9 fs=bL e/\e≠0):=by
 unfold b9;split
 ·exact .inr ⟨42,rfl,by decide⟩
 ·split
  ·exact .inr ⟨130,rfl,by decide⟩
  ·split
   ·exact .inr ⟨130,rfl,by decide⟩
   ·split
    ·exact .inl rfl
    ·exact .inr ⟨130,rfl,by decide⟩
theorem MO(v:Value)(fs:List Fil)(B g c:Nat)(w:World)(X:StW w)(V:Fs w v fs)(hl:fs.length<=4000000)(j:∀f∈fs,f.2.length<=100000)(U:w.cell? ⟨B,0,G⟩=N v)(A:Blk w g 44 (bE eT (F none 0 0)))(z:Blk w c 30 (mfC mf0 (F none 0 0)))(Ky:g≠c):
  Calls L 32 #[.func (.func 33) #[] #[M (N ⟨B,0,G⟩),M (N ⟨g,0,G⟩),M (N ⟨c,0,G⟩)]] w (sH (b9 fs) g c w):=by
 have JD:∀(fn:Fn) (first cap:Array Value) (w:World),(Instr.makeFunc fn first cap).run L w=.ok (.func fn first cap) w:=λ_ _ _ _=>rfl;have i:Ext w (w.alloc (J #[D E 0] 45)):=xA (xR _) _;have he:=P0 w 45 #[D E 0];have key:=IK v fs B g c _ (X.ext i) (V.ext i) hl j (i.cell U) (A.ext i) (z.ext i) Ky;unfold sH;unfold R1P at key;have P:=zx fs;obtain⟨R,W⟩:∃R,b9 fs=R:=⟨_,rfl⟩;rw[W]at key P⊢;have n:=A.lt;have m:=z.lt;have HM:=I key;have l:=I i;have C:=I he;have Q:=I (And.intro n m);clear key W X V j A z U i he n m;go_enter_defers func32,ntmps32
 go_wp2_with fail
 refine HM.out.mono ?_;rintro e s r;by_cases o:R.err=0
 case neg=>
  rw[if_neg o]at r;obtain⟨rfl,H8⟩:=r;have y:=C.out.ext H8;refine leaves_cons (f:=77) (args:=#[M (N ⟨w.heap.size,0,G⟩)]) (by simp) (by simp[go_sem]) ?_;refine(zz ⟨w.heap.size,0,G⟩ _ R.err [] _ (y.cell 0 rfl) (y.frozen 0)).mono ?_;rintro e u' w2⟨rfl,rfl,rfl⟩;have hs:=y.set 0 (D E R.err);have hc:=hs.cell 0 rfl;simp[Leaves,settle,results,results32,go_sem,hc];rw[if_neg o];exact Below.setCell (p:=⟨w.heap.size,0,G⟩) (xT l.out H8) (xN _) _
 case pos=>
  rw[if_pos o]at r;obtain⟨rfl,⟨vl,vs,n,m,K,O⟩,H,j⟩:=r;obtain⟨Y,Z⟩:=Q.out;have q:=j _ _ _ (by omega) (by omega) C.out;have f0:=q.frozen 0;have g0:=q.cell 0 rfl;have x:=I q;have Jt:=I H;have Hk:=I j;have Jo:=I n;have Jn:=I m;have S:=I K;have T:=I O;have HZ:=I o;clear q H j n m K O o P Y Z;go_wp2_with fail
  refine leaves_cons (f:=77) (args:=#[M (N ⟨w.heap.size,0,G⟩)]) (by simp) (by simp[go_sem]) ?_;refine(zt ⟨w.heap.size,0,G⟩ _).mono ?_;rintro e u' w4⟨rfl,rfl,rfl⟩;have hs:=x.out.set 0 (D E 0);have hc:(s.setCell ⟨w.heap.size,0,G⟩ (D E 0)).cell? ⟨w.heap.size,0,G⟩=N (D E 0):=hs.cell 0 rfl;obtain⟨Y,Z⟩:=Q.out;have b1:=Jo.out.other (show g≠w.heap.size by omega) 0 (D E 0);have b2:=Jn.out.other (show c≠w.heap.size by omega) 0 (D E 0);have o1:OwnE _ _ _ _:=ay (S.out.kept (ar _ w.heap.size 0 (D E 0)) (.inr (x.out.not_row (by decide) S.out).symm)) l.out.size;have o2:OwnS _ _ _ _:=ay (T.out.kept (ar _ w.heap.size 0 (D E 0)) (.inr (x.out.not_row (by decide) T.out).symm)) l.out.size;have g1:∀k,Ext k w->k.heap.size<=g->k.heap.size<=c->Ext k (s.setCell ⟨w.heap.size,0,G⟩ (D E 0)):=λk h h1 h2=>Below.setCell (p:=⟨w.heap.size,0,G⟩) (Jt.out k (xT h l.out) h1 h2) h.size _;have k1:∀b t cs,b≠g->b≠c->Blk w b t cs->Blk (s.setCell ⟨w.heap.size,0,G⟩ (D E 0)) b t cs:=λb t cs h1 h2 h3=>(Hk.out b t cs h1 h2 (h3.ext l.out)).other (by have:=h3.lt;omega) 0 _;generalize s.setCell ⟨w.heap.size,0,G⟩ (D E 0)=w5 at *;simp[Leaves,settle,results,results32,go_sem,hc];exact⟨⟨vl,vs,b1,b2,o1,o2⟩,g1,k1⟩
theorem MH(tmps:Array Value)(W:World)(b c:Nat)(cs e:Array Value)(u:Value)(h2:tmps.getD 2 undef=M (N ⟨b,0,G⟩))(h3:tmps.getD 3 undef=M (N ⟨c,0,G⟩))(h4:tmps.getD 4 undef=u)(hb:Blk W b 44 cs)(hc:Blk W c 30 e)(hs:cs.size=8)(hd:e.size=6):(results Tryz.f9 tmps).run L W=.ok (.tuple #[.agg cs,.agg e,u]) W:=by
 have hl:=hb.load (P:=L) oG rfl (by rw[hs];kernel_rfl);have hm:=hc.load (P:=L) lP rfl (by rw[hd];kernel_rfl);have g:tmps[2]?.getD undef=M (N ⟨b,0,G⟩):=by simpa using h2
 have e:tmps[3]?.getD undef=M (N ⟨c,0,G⟩):=by simpa using h3
 have f:tmps[4]?.getD undef=u:=by simpa using h4
 simp[results,results9,g,e,f,asAddr,hl,hm]
def RdW(w:World)(r:Rd)(e:Ending)(W:World):Prop:=e=.returned (D E r.err)/\∃b c,Blk W (w.heap.size+1) 44 (bE r.t b)/\Blk W (w.heap.size+1+1) 30 (mfC r.m c)/\OwnE W w.heap.size b r.t.log/\OwnS W w.heap.size c r.m.segs/\Ext w W
theorem PP(v:Value)(fs:List Fil)(w:World)(m:StW w)(l:Fs w v fs)(hl:Q fs<=4000000)(g:∀f∈fs,Q f.2<=100000){z1 z2:Array Value}(i:z1=bE eT (F none 0 0))(j:z2=mfC mf0 (F none 0 0)):
  Calls L 32 #[.func (.func 33) #[] #[M (N ⟨w.heap.size,0,G⟩),M (N ⟨w.heap.size+1,0,G⟩),M (N ⟨w.heap.size+1+1,0,G⟩)]] (((w.alloc (J #[v] 22)).alloc (J z1 44)).alloc (J z2 30)) (RdW w (b9 fs)):=by
 subst i j;have b:Ext w (((w.alloc (J #[v] 22)).alloc (J (bE eT (F none 0 0)) 44)).alloc (J (mfC mf0 (F none 0 0)) 30)):=xA (xA (xA (xR _) _) _) _;have i:=((P0 w 22 #[v]).alloc (J (bE eT (F none 0 0)) 44)).alloc (J (mfC mf0 (F none 0 0)) 30);have b1:=(P0 (w.alloc (J #[v] 22)) 44 (bE eT (F none 0 0))).alloc (J (mfC mf0 (F none 0 0)) 30);have b2:=P0 ((w.alloc (J #[v] 22)).alloc (J (bE eT (F none 0 0)) 44)) 30 (mfC mf0 (F none 0 0));rw[xS]at b1;rw[xS,xS]at b2;have j:w.heap.size+1+1+1=(((w.alloc (J #[v] 22)).alloc (J (bE eT (F none 0 0)) 44)).alloc (J (mfC mf0 (F none 0 0)) 30)).heap.size:=by rw[xS,xS,xS]
 refine(MO v fs w.heap.size (w.heap.size+1) (w.heap.size+1+1) _ (m.ext b) (l.ext b) hl g (i.cell 0 rfl) b1 b2 (by omega)).mono ?_;generalize(((w.alloc (J #[v] 22)).alloc (J (bE eT (F none 0 0)) 44)).alloc (J (mfC mf0 (F none 0 0)) 30))=w3 at *;rintro e W h;unfold sH at h;rcases zx fs with c | ⟨e1,c,k⟩
 ·rw[if_pos c]at h;obtain⟨rfl,⟨g,i,h1,h2,h3,h4⟩,hg,_⟩:=h;exact⟨by rw[c],g,i,h1,h2,ay h3 (by omega),ay h4 (by omega),hg w b (by omega) (by omega)⟩
 ·rw[c]at h⊢;rw[if_neg (show ¬(bL e1).err=0 from k)]at h;obtain⟨rfl,c⟩:=h;exact⟨rfl,F none 0 0,F none 0 0,b1.ext c,b2.ext c,P3 _ _ _ _,P3 _ _ _ _,xT b c⟩
theorem yP(v:Value)(fs:List Fil)(w:World)(hS:StW w)(hF:Fs w v fs)(hl:Q fs<=4000000)(H4:∀f∈fs,Q f.2<=100000):Calls L 9 #[v] w (TellO w (b9 fs)):=by
 have JD:∀(fn:Fn) (first cap:Array Value) (w:World),(Instr.makeFunc fn first cap).run L w=.ok (.func fn first cap) w:=λ_ _ _ _=>rfl;obtain⟨A,c,rfl,_,_⟩:=Fs.open_ hF;have key:=PP (F A fs.length c) fs w hS hF hl H4 (z1:=#[D E 0,D E 0,D E 0,D E 0,H false,F none 0 0,D E 0,D E 0]) (z2:=#[D E 0,D E 0,D E 0,D E 0,D E 0,F none 0 0]) rfl rfl;obtain⟨R,hR⟩:∃R,b9 fs=R:=⟨_,rfl⟩;rw[hR]at key⊢;have HM:=I key;clear key hS hF H4 hR;go_enter func9,ntmps9
 go_wp2_with fail
 refine HM.mono ?_;obtain⟨er,t,m⟩:=R;rintro e X⟨rfl,vl,vs,hb,hc,Y,H3,hE⟩;dsimp only at hb hc Y H3⊢;obtain⟨i,j,rfl,_,_⟩:=xO (OwnE.es Y);obtain⟨b,cs,rfl,_,_⟩:=Sgs.open_ (OwnS.sgs H3);obtain⟨k,Ja⟩:∃n,Q t.log=n:=⟨_,rfl⟩;obtain⟨g,Jb⟩:∃n,Q m.segs=n:=⟨_,rfl⟩;rw[Ja]at hb Y;rw[Jb]at hc H3;have T:=I (show Blk X (w.heap.size+1) 44 #[D E t.s.idx,D E t.s.term,D E t.s.sum,D E t.s.lvl,H t.s.fin,F i k j,D E t.term,D E t.vote]from hb);have HC:=I (show Blk X (w.heap.size+1+1) 30 #[D E m.next,D E m.term,D E m.vote,D E m.sq,D E m.sf,F b g cs]from hc);have Kk:=I Y;have Hc:=I H3;have HE:=I hE;clear hb hc Y H3 hE Ja Jb;obtain⟨l,o,p,q,r,x,y,z⟩:=aU T;obtain⟨B,C,J,M,O,P⟩:=aj HC;go_wp2_with fail
 refine wp_region_held_drew (S:=λW=>W.cell? ⟨w.heap.size+1,0,G⟩=N (D E t.s.idx)/\W.cell? ⟨w.heap.size+1,1,G⟩=N (D E t.s.term)/\W.cell? ⟨w.heap.size+1,2,G⟩=N (D E t.s.sum)/\W.cell? ⟨w.heap.size+1,3,G⟩=N (D E t.s.lvl)/\W.cell? ⟨w.heap.size+1,4,G⟩=N (H t.s.fin)/\W.cell? ⟨w.heap.size+1,5,G⟩=N (F i k j)/\W.cell? ⟨w.heap.size+1,6,G⟩=N (D E t.term)/\W.cell? ⟨w.heap.size+1,7,G⟩=N (D E t.vote)/\W.cell? ⟨w.heap.size+1+1,0,G⟩=N (D E m.next)/\W.cell? ⟨w.heap.size+1+1,1,G⟩=N (D E m.term)/\W.cell? ⟨w.heap.size+1+1,2,G⟩=N (D E m.vote)/\W.cell? ⟨w.heap.size+1+1,3,G⟩=N (D E m.sq)/\W.cell? ⟨w.heap.size+1+1,4,G⟩=N (D E m.sf)/\W.cell? ⟨w.heap.size+1+1,5,G⟩=N (F b g cs)) (by kernel_rfl) ⟨l,o,p,q,r,x,y,z,B,C,J,M,O,P⟩ (λ_=>?_);clear l o p q r x y z B C J M O P;refine ab 0 ?_;refine ab 1 ?_;refine ab 2 ?_;obtain⟨Z,f1,f2,f3,f4,f5,f6,f7⟩:=cS T;obtain⟨g0,g1,g2,g3,g4,g5,g6,g7⟩:=aU T;refine ah 3 (λK hK=>?_);go_simp;show K _ (P2 (aY X (w.heap.size+1) (D E t.s.idx) (D E t.s.term) (D E t.s.sum) (D E t.s.lvl) (H t.s.fin) (F i k j) (D E t.term) (D E t.vote)));have V:Ext (aY X (w.heap.size+1) (D E t.s.idx) (D E t.s.term) (D E t.s.sum) (D E t.s.lvl) (H t.s.fin) (F i k j) (D E t.term) (D E t.vote)) (P2 (aY X (w.heap.size+1) (D E t.s.idx) (D E t.s.term) (D E t.s.sum) (D E t.s.lvl) (H t.s.fin) (F i k j) (D E t.term) (D E t.vote))):=xD (xR _);have KI:=I ((fO T (D E t.s.idx) (D E t.s.term) (D E t.s.sum) (D E t.s.lvl) (H t.s.fin) (F i k j) (D E t.term) (D E t.vote)).ext V);have U:=I ((dB HC (by omega:w.heap.size+1+1≠w.heap.size+1) (D E t.s.idx) (D E t.s.term) (D E t.s.sum) (D E t.s.lvl) (H t.s.fin) (F i k j) (D E t.term) (D E t.vote)).ext V);have Kl:=I (OwnE.ext (dQ T Kk (D E t.s.idx) (D E t.s.term) (D E t.s.sum) (D E t.s.lvl) (H t.s.fin) (F i k j) (D E t.term) (D E t.vote)) V);have Kp:=I (ai (dQ T Hc (D E t.s.idx) (D E t.s.term) (D E t.s.sum) (D E t.s.lvl) (H t.s.fin) (F i k j) (D E t.term) (D E t.vote)) V);have Jp:=I (xT (iS HE (by omega:w.heap.size<=w.heap.size+1) (D E t.s.idx) (D E t.s.term) (D E t.s.sum) (D E t.s.lvl) (H t.s.fin) (F i k j) (D E t.term) (D E t.vote)) V);clear V Z f1 f2 f3 f4 f5 f6 f7 g0 g1 g2 g3 g4 g5 g6 g7;generalize(P2 (aY X (w.heap.size+1) (D E t.s.idx) (D E t.s.term) (D E t.s.sum) (D E t.s.lvl) (H t.s.fin) (F i k j) (D E t.term) (D E t.vote)))=w9 at *;obtain⟨l,o,p,q,r,x,y,z⟩:=aU KI;obtain⟨B,C,J,M,O,P⟩:=aj U;refine af hK _ _ ⟨l,o,p,q,r,x,y,z,B,C,J,M,O,P⟩ (λ_=>?_);clear l o p q r x y z B C J M O P;obtain⟨Z,f1,f2,f3,f4,f5⟩:=eN U;obtain⟨g0,g1,g2,g3,g4,g5⟩:=aj U;refine ah 4 (λK hK=>?_);go_simp;show K _ (aO w9 (w.heap.size+1+1) (D E m.next) (D E m.term) (D E m.vote) (D E m.sq) (D E m.sf) (F b g cs));have H5:=I (dA KI (by omega:w.heap.size+1≠w.heap.size+1+1) (D E m.next) (D E m.term) (D E m.vote) (D E m.sq) (D E m.sf) (F b g cs));have HD:Hid (Blk (aO w9 (w.heap.size+1+1) (D E m.next) (D E m.term) (D E m.vote) (D E m.sq) (D E m.sf) (F b g cs)) (w.heap.size+1+1) 30 #[D E m.next,D E m.term,D E m.vote,D E m.sq,D E m.sf,F b g cs]):=I (cQ U (D E m.next) (D E m.term) (D E m.vote) (D E m.sq) (D E m.sf) (F b g cs));have HH:Hid (OwnE (aO w9 (w.heap.size+1+1) (D E m.next) (D E m.term) (D E m.vote) (D E m.sq) (D E m.sf) (F b g cs)) _ _ t.log):=I (cU U Kl (D E m.next) (D E m.term) (D E m.vote) (D E m.sq) (D E m.sf) (F b g cs));have HI:Hid (OwnS (aO w9 (w.heap.size+1+1) (D E m.next) (D E m.term) (D E m.vote) (D E m.sq) (D E m.sf) (F b g cs)) _ _ m.segs):=I (cU U Kp (D E m.next) (D E m.term) (D E m.vote) (D E m.sq) (D E m.sf) (F b g cs));have Kj:Hid (Ext w (aO w9 (w.heap.size+1+1) (D E m.next) (D E m.term) (D E m.vote) (D E m.sq) (D E m.sf) (F b g cs))):=I (dD Jp (by omega:w.heap.size<=w.heap.size+1+1) (D E m.next) (D E m.term) (D E m.vote) (D E m.sq) (D E m.sf) (F b g cs));clear Z f1 f2 f3 f4 f5 g0 g1 g2 g3 g4 g5;generalize aO w9 (w.heap.size+1+1) (D E m.next) (D E m.term) (D E m.vote) (D E m.sq) (D E m.sf) (F b g cs)=Jk at *;obtain⟨l,o,p,q,r,x,y,z⟩:=aU H5;obtain⟨B,C,J,M,O,P⟩:=aj HD;refine af hK _ _ ⟨l,o,p,q,r,x,y,z,B,C,J,M,O,P⟩ (λ_=>?_);clear l o p q r x y z B C J M O P;refine ab 5 ?_;refine aq ?_;go_wp2_with fail
 refine bodyPost_ret (MH _ _ (w.heap.size+1) (w.heap.size+1+1) _ _ _ rfl rfl rfl H5 HD rfl rfl) rfl ?_;exact⟨_,_,rfl,HH.out,HI.out,Kj.out⟩
theorem qL(v:Value)(fs:List Fil)(w:World)(e:StW w)(c:Fs w v fs)(hl:Q fs<=4000000)(b:∀f∈fs,Q f.2<=100000):Calls L 9 #[v] w (pk w (b9 fs)):=(yP v fs w e c hl b).mono λ_ _ h=>h.tell
open Go.RowKit Go.Mv Go.Shelf
theorem NN(tmps:Array Value)(W:World)(b c:Nat)(cs e:Array Value)(u:Value)(h2:tmps.getD 2 undef=M (N ⟨b,0,G⟩))(h3:tmps.getD 3 undef=M (N ⟨c,0,G⟩))(h4:tmps.getD 4 undef=u)(hb:Blk W b 44 cs)(hc:Blk W c 30 e)(hs:cs.size=8)(hd:e.size=6):(results Tryz.f13 tmps).run L W=.ok (.tuple #[.agg cs,.agg e,u]) W:=by
 have hl:=hb.load (P:=L) oG rfl (by rw[hs];kernel_rfl);have hm:=hc.load (P:=L) lP rfl (by rw[hd];kernel_rfl);have g:tmps[2]?.getD undef=M (N ⟨b,0,G⟩):=by simpa using h2
 have e:tmps[3]?.getD undef=M (N ⟨c,0,G⟩):=by simpa using h3
 have f:tmps[4]?.getD undef=u:=by simpa using h4
 simp[results,results13,g,e,f,asAddr,hl,hm]
theorem AK(v:Value)(d:Dk)(n:Nat)(w:World)(Z:StW w)(hD:DkV w v d)(hn:n<=100000)(hs:Sz n d):Calls L 13 #[v] w (TellO w (b9 d.now)):=by
 obtain⟨R,M⟩:∃R,b9 d.now=R:=⟨_,rfl⟩;rw[M];have HR:=I M;clear M;obtain⟨vf,vq,rfl,K,r⟩:=hD;obtain⟨A,c,rfl,_,_⟩:=Fs.open_ K;obtain⟨xs,G,S⟩:=r;obtain⟨B,e,rfl,_,_⟩:=xO G;have r:Qs w (F B d.q.length e) d.q:=⟨xs,G,S⟩;clear G S;obtain⟨z1,KA⟩:∃x:Array Value,#[D E 0,D E 0,D E 0,D E 0,H false,F none 0 0,D E 0,D E 0]=x:=⟨_,rfl⟩;obtain⟨z2,KB⟩:∃x:Array Value,#[D E 0,D E 0,D E 0,D E 0,D E 0,F none 0 0]=x:=⟨_,rfl⟩;obtain⟨i,T⟩:∃x:Array Value,#[F A d.fs.length c,F B d.q.length e,D E d.quota,D E d.fuse,H d.dead]=x:=⟨_,rfl⟩;have j:Ext w (((w.alloc (J i 25)).alloc (J z1 44)).alloc (J z2 30)):=xA (xA (xA (xR _) _) _) _;have X:=((P0 w 25 i).alloc (J z1 44)).alloc (J z2 30);have b1:=(P0 (w.alloc (J i 25)) 44 z1).alloc (J z2 30);have b2:=P0 ((w.alloc (J i 25)).alloc (J z1 44)) 30 z2;rw[xS]at b1;rw[xS,xS]at b2;have W:DkV (((w.alloc (J i 25)).alloc (J z1 44)).alloc (J z2 30)) (.agg i) d:=by
  subst T;exact⟨_,_,rfl,K.ext j,r.ext j⟩
 have key:=sD _ d n _ W (by omega) hs;have P:=Z.ext j;subst T KA KB;have hl:Q d.now<=4000000:=by have:=fR d;have:=hs.l;omega
 have hb:∀f∈d.now,Q f.2<=100000:=λf hf=>by have h1:=iW hf;have h2:=lY d;have h3:=hs.t;omega
 have ec:=ae X;have HM:=I key;have HX:=I j;have HS:=I P;have Jl:=I b1;have K7:=I b2;have HL:=I hl;have Hk:=I hb;clear key j P X b1 b2 hl hb W K r Z hs hn;go_enter func13,ntmps13
 go_wp2_with fail
 refine HM.mono ?_;rintro e1 w1⟨A1,c1,rfl,O,H8⟩;have z:=yP _ d.now w1 (HS.ext H8) (OwnF.fs O) HL Hk;rw[HR.out]at z;have Kt:=I z;have N:=I (xT HX H8);have Kg:=I (Jl.ext H8);have Kh:=I (K7.ext H8);clear z H8 O ec;go_wp2_with fail
 refine Kt.mono ?_;obtain⟨er,t,m⟩:=R;rintro e2 w2⟨vl,vs,rfl,o,H3,k⟩;dsimp only at o H3⊢;obtain⟨b,h,rfl,_,_⟩:=xO (OwnE.es o);obtain⟨g,cs,rfl,_,_⟩:=Sgs.open_ (OwnS.sgs H3);have Kb:=Kg.ext k;have y:=Kh.ext k;have V:w.heap.size<=w1.heap.size:=N.size;have Y:=xT N k;have p:=dB y (by omega:w.heap.size+1+1≠w.heap.size+1) (D E t.s.idx) (D E t.s.term) (D E t.s.sum) (D E t.s.lvl) (H t.s.fin) (F b t.log.length h) (D E t.term) (D E t.vote);have ea:=aU Kb;have eb:=cS Kb;obtain⟨i0,i1,i2,i3,i4,i5⟩:=aj p;obtain⟨j0,j1,j2,j3,j4,j5⟩:=eN p;have H1:=I Kb;have H2:=I y;have C:=I p;have Kk:=I o;have Hc:=I H3;have Jq:=I Y;have U:=I V;clear Kb y p o H3 Y k V;unfold aY at i0 i1 i2 i3 i4 i5 j0 j1 j2 j3 j4 j5;go_wp2_with fail;have Hw:=I (dA (fO H1 (D E t.s.idx) (D E t.s.term) (D E t.s.sum) (D E t.s.lvl) (H t.s.fin) (F b t.log.length h) (D E t.term) (D E t.vote)) (by omega:w.heap.size+1≠w.heap.size+1+1) (D E m.next) (D E m.term) (D E m.vote) (D E m.sq) (D E m.sf) (F g m.segs.length cs));have Hx:=I (cQ C (D E m.next) (D E m.term) (D E m.vote) (D E m.sq) (D E m.sf) (F g m.segs.length cs));refine bodyPost_ret (NN _ _ (w.heap.size+1) (w.heap.size+1+1) _ _ _ rfl rfl rfl Hw Hx rfl rfl) rfl ?_;have JE:=cU C (dQ H1 Kk (D E t.s.idx) (D E t.s.term) (D E t.s.sum) (D E t.s.lvl) (H t.s.fin) (F b t.log.length h) (D E t.term) (D E t.vote)) (D E m.next) (D E m.term) (D E m.vote) (D E m.sq) (D E m.sf) (F g m.segs.length cs);have JF:=cU C (dQ H1 Hc (D E t.s.idx) (D E t.s.term) (D E t.s.sum) (D E t.s.lvl) (H t.s.fin) (F b t.log.length h) (D E t.term) (D E t.vote)) (D E m.next) (D E m.term) (D E m.vote) (D E m.sq) (D E m.sf) (F g m.segs.length cs);have JG:=dD (iS Jq (by omega:w.heap.size<=w.heap.size+1) (D E t.s.idx) (D E t.s.term) (D E t.s.sum) (D E t.s.lvl) (H t.s.fin) (F b t.log.length h) (D E t.term) (D E t.vote)) (by omega:w.heap.size<=w.heap.size+1+1) (D E m.next) (D E m.term) (D E m.vote) (D E m.sq) (D E m.sf) (F g m.segs.length cs);exact⟨F b t.log.length h,F g m.segs.length cs,rfl,ay JE U,ay JF U,JG⟩
theorem ID(v:Value)(d:Dk)(n:Nat)(w:World)(b:StW w)(hD:DkV w v d)(hn:n<=100000)(hs:Sz n d):Calls L 13 #[v] w (pk w (b9 d.now)):=(AK v d n w b hD hn hs).mono λ_ _ h=>h.tell
theorem mcSwapa0{P:Prop}(h:P:=by
 refine ah 3 (λK hK=>?_);go_simp;have Kw:=td _ r.1 (n+2+b.length+1) _ (cY m) w9 (JB.ext (xT Hs E9)) (show DkV w9 (O #[F A4 r.1.fs.length c4,F B4 r.1.q.length e4,D E r.1.quota,D E r.1.fuse,H r.1.dead]) r.1 from⟨_,_,rfl,(OwnF.fs Js).ext E9,(OwnQ.qs Jz).ext E9⟩) (JC.mono (by simp[aL,dM])) (xW Hn) Ju (by have:=Hk.out;have:=HN.out;omega);rw[Ko.out]at Kw;refine Kw.mono ?_;rintro e Jk⟨u,rfl,⟨A6,c6,B6,e6,rfl,of,oq⟩,HU⟩;have Ke:=xT E9 HU;refine af hK _ _ trivial (λ_=>?_);refine ab 4 ?_;refine ab 5 ?_;have Hd:Blk Jk (w.heap.size+1+1) 25 (ap A4 r.1.fs.length c4 B4 r.1.q.length e4 r.1.quota r.1.fuse r.1.dead):=Hj.ext Ke;have ed:=aH Hd;have ee:=ae Hd;have Jj:=(xT Hs E9).size;have H5:=I Hd;have Ha:=I of;have Hb:=I oq;have Kq:=I (xT Hs Ke);have KU:=I Jj;clear Hd of oq Jj E9 Ke Hu HU Kw Hn;refine ah 6 (λK hK=>?_);go_simp;refine af hK _ _ trivial (λ_=>?_);refine ab 7 ?_;refine aq ?_;go_wp2_with fail
 refine bodyPost_ret (n8 _ _ _ _ (D E S.2) rfl rfl (aT H5 (F A6 S.1.fs.length c6) (F B6 S.1.q.length e6) (D E S.1.quota) (D E S.1.fuse) (H S.1.dead)) rfl) rfl ?_;have K5:=OwnF.box1 (A':=A6) (n':=S.1.fs.length) (c':=c6) (B':=B6) (m':=S.1.q.length) (e':=e6) (q':=S.1.quota) (f':=S.1.fuse) (d':=S.1.dead) (OwnX.base Ha KU) H5;have K6:=OwnQ.box1 (A':=A6) (n':=S.1.fs.length) (c':=c6) (B':=B6) (m':=S.1.q.length) (e':=e6) (q':=S.1.quota) (f':=S.1.fuse) (d':=S.1.dead) (OwnX.base Hb KU) H5;have K4:=aS Kq (by omega:w.heap.size<=w.heap.size+1+1) (F A6 S.1.fs.length c6) (F B6 S.1.q.length e6) (D E S.1.quota) (D E S.1.fuse) (H S.1.dead);exact pV K5 K6 K4):P:=h
theorem Sz.does:∀(q:List Oq) {n:Nat} {d:Dk} (sync:Bool),Sz n d->Sz (n+Q q+aL q) (ct sync d q).1
 | [],n,d,sync,h=>by
  rw[ct];split
  ·exact h.sync.mono (by omega)
  exact h.mono (by omega)
 | o::q,n,d,sync,h=>by
  rw[ct,eH,xC];split
  ·exact(Sz.does q sync (h.doS o)).mono (by omega)
  ·exact(h.doS o).mono (by omega)
def eL(d:Dk)(m:Mf):Dk×Int:=match bj m with | none=>(d,2) | some b=>l7 d b (aA (cY m))
theorem n8(tmps:Array Value)(W:World)(b:Nat)(cs:Array Value)(e:Value)(h4:tmps.getD 4 undef=M (N ⟨b,0,G⟩))(h3:tmps.getD 5 undef=e)(hb:Blk W b 25 cs)(hs:cs.size=5):(results Tryz.f22 tmps).run L W=.ok (.tuple #[.agg cs,e]) W:=by
 have f:tmps[4]?.getD undef=M (N ⟨b,0,G⟩):=by simpa using h4
 have c:tmps[5]?.getD undef=e:=by simpa using h3
 have hl:=hb.load (P:=L) em rfl (by rw[hs];kernel_rfl);simp[results,results22,f,c,asAddr,hl,Sem.run_bind,Sem.run_pure,Result.andThen_ok]
def pj(w:World)(r:Dk×Int)(e:Ending)(w':World):Prop:=∃u,e=.returned (.tuple #[u,D E r.2])/\OwnD w' w.heap.size u r.1/\Ext w w'
theorem pV{w W:World}{r:Dk×Int}{A B:Option Addr}{c e:Nat}(b:OwnF W w.heap.size (F A r.1.fs.length c) r.1.fs)(f:OwnQ W w.heap.size (F B r.1.q.length e) r.1.q)(g:Ext w W):pj w r (.returned (.tuple #[.agg (ap A r.1.fs.length c B r.1.q.length e r.1.quota r.1.fuse r.1.dead),D E r.2])) W:=⟨_,rfl,⟨A,c,B,e,rfl,b,f⟩,g⟩
theorem qN(v:Value)(d:Dk)(n:Nat)(m:Mf)(vs:Value)(w:World)(hS:StW w)(hD:DkV w v d)(hs:Sz n d)(hG:Sgs w vs m.segs)(J9:m.segs.length<=1000000)(J8:(cY m).length<=1000000)(Je:∀b,bj m=N b->b.length<=100000)(hn:n<=100000:=by decide):
  Calls L 22 #[v,O #[D E m.next,D E m.term,D E m.vote,D E m.sq,D E m.sf,vs]] w (pj w (eL d m)):=by
 obtain⟨vf,vq,rfl,hF,hQ⟩:=hD;obtain⟨A,c,rfl,_,_⟩:=Fs.open_ hF;obtain⟨B,e2,rfl,_,_⟩:=Qs.open_ hQ;obtain⟨C,c2,rfl,_,_⟩:=hG.open_;obtain⟨W0,HV⟩:∃W0,((w.alloc (J #[F A d.fs.length c,F B d.q.length e2,D E d.quota,D E d.fuse,H d.dead] 25)).alloc (J #[D E m.next,D E m.term,D E m.vote,D E m.sq,D E m.sf,F C m.segs.length c2] 30)).alloc (J #[F none 0 0,F none 0 0,D E 0,D E 0,H false] 25)=W0:=⟨_,rfl⟩;have Hh:Ext w W0:=by rw[<-HV];exact xA (xA (xA (xR _) _) _) _
 have h0:Blk W0 w.heap.size 25 (ap A d.fs.length c B d.q.length e2 d.quota d.fuse d.dead):=by rw[<-HV];exact((P0 w _ _).alloc _).alloc _
 have h1:Blk W0 (w.heap.size+1) 30 #[D E m.next,D E m.term,D E m.vote,D E m.sq,D E m.sf,F C m.segs.length c2]:=by
  rw[<-HV];have:=(P0 (w.alloc (J #[F A d.fs.length c,F B d.q.length e2,D E d.quota,D E d.fuse,H d.dead] 25)) 30 #[D E m.next,D E m.term,D E m.vote,D E m.sq,D E m.sf,F C m.segs.length c2]).alloc (J #[F none 0 0,F none 0 0,D E 0,D E 0,H false] 25);rwa[xS]at this
 have h2:Blk W0 (w.heap.size+1+1) 25 (ap none 0 0 none 0 0 0 0 false):=by
  rw[<-HV];have:=P0 ((w.alloc (J #[F A d.fs.length c,F B d.q.length e2,D E d.quota,D E d.fuse,H d.dead] 25)).alloc (J #[D E m.next,D E m.term,D E m.vote,D E m.sq,D E m.sf,F C m.segs.length c2] 30)) 25 #[F none 0 0,F none 0 0,D E 0,D E 0,H false];rwa[xS,xS]at this
 have K8:=I Hh;have H0:=I h0;have H1:=I h1;have H2:=I h2;have JB:=I hS;have Km:=I hG;have HS:=I (hS.ext Hh);have HF:=I (hF.ext Hh);have HQ:=I (hQ.ext Hh);have HG:=I (hG.ext Hh);have HP:=I (yG m _ W0 (hG.ext Hh) (hS.ext Hh));have HZ:=I hs;have HN:=I hn;have Kn:=I J9;have Ju:=I J8;have Jx:=I Je;have ea:=aj h1;clear h0 h1 h2 hF hQ hG Hh hs hS hn J9 J8 Je;obtain⟨S,hS⟩:∃S,eL d m=S:=⟨_,rfl⟩;rw[hS];unfold eL at hS;obtain⟨rb,K3⟩:∃r,bj m=r:=⟨_,rfl⟩;rw[K3]at HP hS;have Hc:=I hS;have JA:=I K3;clear hS K3;go_enter Tryz.func22,Tryz.ntmps22
 go_wp2_with fail
 refine HP.mono ?_;rintro e w1⟨⟨vb,rfl,Kd⟩,H8⟩;have H7:=I H8;have K9:=I Kd;clear H8 HV ea;have ec:=ae (H0.ext H7);cases rb with
 |none=>
  have KQ:=Hc.out;dsimp only at KQ;subst KQ;simp only[Option.isSome_none,Bool.false_eq_true,if_false];obtain⟨Ab,cb,rfl,_,_⟩:=xO (xW Kd);clear Kd;go_wp2_with fail;clear ec;refine(nz _ d n w1 (show DkV w1 _ d from⟨_,_,rfl,HF.ext H7,HQ.ext H7⟩) (by have:=HN.out;omega) HZ).mono ?_;rintro e w2⟨u,rfl,⟨A3,c3,B3,e3,rfl,of,oq⟩,H6⟩;have Hi:=H2.ext (xT H7 H6);have hX:=xT K8 (xT H7 H6);have J2:=xT K8 H7;have ed:=aH Hi;have ee:=ae Hi;have Q1:=I Hi;have Q2:=I of;have Q3:=I oq;have Q4:=I hX;have Q5:=I J2.size;clear Hi of oq hX J2 H6;go_wp2_with fail
  refine bodyPost_ret (n8 _ _ _ _ (D E 2) rfl rfl (aT Q1 _ _ _ _ _) rfl) rfl ?_;exact⟨_,rfl,⟨_,_,_,_,rfl,OwnF.box1 (OwnX.base Q2.f Q5) Q1,OwnQ.box1 (OwnX.base Q3 Q5) Q1⟩,aS Q4 (by omega) _ _ _ _ _⟩
 |some b=>
  have Hc:Hid (l7 d b (aA (cY m))=S):=Hc;simp only[Option.isSome_some,if_true];have H4:=Jx b JA;have Hk:=I H4;have K9:Hid (OwnB w1 W0.heap.size vb b):=K9;obtain⟨Ab,cb,rfl,_,_⟩:=xO (xW K9);have KM:=I (lG 2 0 0 w1 (HS.ext H7));clear Kd H4;go_wp2_with fail
  refine KM.mono ?_;rintro e w2⟨rfl,H6⟩;have Hq:=I (xT H7 H6);have K7:=I (SlR.ext (xW K9) H6);have KN:=I (lG 1 0 0 w2 (HS.ext Hq));clear H6 KM ec;go_wp2_with fail
  refine KN.mono ?_;rintro e w3⟨rfl,Kv⟩;have Hr:=I (xT Hq Kv);have Jm:Hid (Bs w3 (F Ab b.length cb) b):=I (SlR.ext K7 Kv);clear Kv KN K7;have ec:=ae (H0.ext Hr);rw[show aE 2 0 0=N bq from by decide,show aE 1 0 0=N dm from by decide];simp only[Option.getD_some,Option.isSome_some,if_true,sv];go_wp2_with fail;clear ec;have Hg:=AR _ d n 2 0 0 _ b w3 (HS.ext Hr) (show DkV w3 (O #[F A d.fs.length c,F B d.q.length e2,D E d.quota,D E d.fuse,H d.dead]) d from⟨_,_,rfl,HF.ext Hr,HQ.ext Hr⟩) HZ Jm (by have:=Hk.out;have:=HN.out;omega);rw[show cj d (aE 2 0 0) b=putS d bq b from by rw[show aE 2 0 0=N bq from by decide];rfl]at Hg;have KC:Sz (n+2+b.length) (putS d bq b).1:=(HZ.does [dP bq,d8 bq b] true).mono (by simp[aL,dP,d8]);have H3:=Hc.out;unfold l7 at H3;obtain⟨p,hp⟩:∃p,putS d bq b=p:=⟨_,rfl⟩;rw[hp]at Hg KC H3;refine Hg.mono ?_;rintro e w4⟨u,rfl,⟨A3,c3,B3,e3,rfl,of,oq⟩,KY⟩;have E4:=xT Hr KY;have HW:=H2.ext E4;have J5:=aT (show Blk w4 (w.heap.size+1+1) 25 #[F none 0 0,F none 0 0,D E 0,D E 0,H false]from HW) (F A3 p.1.fs.length c3) (F B3 p.1.q.length e3) (D E p.1.quota) (D E p.1.fuse) (H p.1.dead);have J3:=xT K8 E4;have ed:=aH HW;have ee:=ae HW;have KR:=I (xT K8 Hr).size;have Hy:=I HW;have Hz:=I J5;have Ha:=I of;have Hb:=I oq;have KJ:=I E4;have Kr:=I J3;have KV:=I KC;have Hl:=I H3;clear Hg KC H3 hp HW J5 J3 of oq KY E4 Hc;by_cases hp2:p.2=0
  case neg=>
   have JH:(p.2 != 0)=true:=by simpa using hp2
   obtain rfl:p=S:=by have h:=Hl.out;rwa[if_pos hp2]at h
   clear hp2;go_wp2_with fail
   refine bodyPost_ret (n8 _ _ _ _ (D E p.2) rfl rfl (aT Hz (F A3 p.1.fs.length c3) (F B3 p.1.q.length e3) (D E p.1.quota) (D E p.1.fuse) (H p.1.dead)) rfl) rfl ?_;have KE:=OwnF.box1 (A':=A3) (n':=p.1.fs.length) (c':=c3) (B':=B3) (m':=p.1.q.length) (e':=e3) (q':=p.1.quota) (f':=p.1.fuse) (d':=p.1.dead) Ha Hy;have KF:=OwnQ.box1 (A':=A3) (n':=p.1.fs.length) (c':=c3) (B':=B3) (m':=p.1.q.length) (e':=e3) (q':=p.1.quota) (f':=p.1.fuse) (d':=p.1.dead) Hb Hy;have K5:=OwnF.box1 (A':=A3) (n':=p.1.fs.length) (c':=c3) (B':=B3) (m':=p.1.q.length) (e':=e3) (q':=p.1.quota) (f':=p.1.fuse) (d':=p.1.dead) (OwnX.base KE KR) Hz;have K6:=OwnQ.box1 (A':=A3) (n':=p.1.fs.length) (c':=c3) (B':=B3) (m':=p.1.q.length) (e':=e3) (q':=p.1.quota) (f':=p.1.fuse) (d':=p.1.dead) (OwnX.base KF KR) Hz;have K4:=aS (aS Kr (by omega:w.heap.size<=w.heap.size+1+1) (F A3 p.1.fs.length c3) (F B3 p.1.q.length e3) (D E p.1.quota) (D E p.1.fuse) (H p.1.dead)) (by omega:w.heap.size<=w.heap.size+1+1) (F A3 p.1.fs.length c3) (F B3 p.1.q.length e3) (D E p.1.quota) (D E p.1.fuse) (H p.1.dead);exact pV K5 K6 K4
  have JH:(p.2 != 0)=false:=by simpa using hp2
  have H3:=Hl.out;rw[if_neg (by simpa using hp2)]at H3;have HJ:=I H3;clear H3 hp2 Hl;go_wp2_with fail
  have Ki:Hid (Blk (((((w4.setCell ⟨w.heap.size+1+1,0,G⟩ (F A3 p.1.fs.length c3)).setCell ⟨w.heap.size+1+1,1,G⟩ (F B3 p.1.q.length e3)).setCell ⟨w.heap.size+1+1,2,G⟩ (D E p.1.quota)).setCell ⟨w.heap.size+1+1,3,G⟩ (D E p.1.fuse)).setCell ⟨w.heap.size+1+1,4,G⟩ (H p.1.dead)) (w.heap.size+1+1) 25 (ap A3 p.1.fs.length c3 B3 p.1.q.length e3 p.1.quota p.1.fuse p.1.dead)):=Hz;have Jr:Hid (OwnF (((((w4.setCell ⟨w.heap.size+1+1,0,G⟩ (F A3 p.1.fs.length c3)).setCell ⟨w.heap.size+1+1,1,G⟩ (F B3 p.1.q.length e3)).setCell ⟨w.heap.size+1+1,2,G⟩ (D E p.1.quota)).setCell ⟨w.heap.size+1+1,3,G⟩ (D E p.1.fuse)).setCell ⟨w.heap.size+1+1,4,G⟩ (H p.1.dead)) w3.heap.size (F A3 p.1.fs.length c3) p.1.fs):=I (OwnF.box1 (A':=A3) (n':=p.1.fs.length) (c':=c3) (B':=B3) (m':=p.1.q.length) (e':=e3) (q':=p.1.quota) (f':=p.1.fuse) (d':=p.1.dead) Ha Hy);have Jy:Hid (OwnQ (((((w4.setCell ⟨w.heap.size+1+1,0,G⟩ (F A3 p.1.fs.length c3)).setCell ⟨w.heap.size+1+1,1,G⟩ (F B3 p.1.q.length e3)).setCell ⟨w.heap.size+1+1,2,G⟩ (D E p.1.quota)).setCell ⟨w.heap.size+1+1,3,G⟩ (D E p.1.fuse)).setCell ⟨w.heap.size+1+1,4,G⟩ (H p.1.dead)) w3.heap.size (F B3 p.1.q.length e3) p.1.q):=I (OwnQ.box1 (A':=A3) (n':=p.1.fs.length) (c':=c3) (B':=B3) (m':=p.1.q.length) (e':=e3) (q':=p.1.quota) (f':=p.1.fuse) (d':=p.1.dead) Hb Hy);have KT:Hid (Ext w (((((w4.setCell ⟨w.heap.size+1+1,0,G⟩ (F A3 p.1.fs.length c3)).setCell ⟨w.heap.size+1+1,1,G⟩ (F B3 p.1.q.length e3)).setCell ⟨w.heap.size+1+1,2,G⟩ (D E p.1.quota)).setCell ⟨w.heap.size+1+1,3,G⟩ (D E p.1.fuse)).setCell ⟨w.heap.size+1+1,4,G⟩ (H p.1.dead))):=I (aS Kr (by omega:w.heap.size<=w.heap.size+1+1) (F A3 p.1.fs.length c3) (F B3 p.1.q.length e3) (D E p.1.quota) (D E p.1.fuse) (H p.1.dead));have Jv:Hid (Blk (((((w4.setCell ⟨w.heap.size+1+1,0,G⟩ (F A3 p.1.fs.length c3)).setCell ⟨w.heap.size+1+1,1,G⟩ (F B3 p.1.q.length e3)).setCell ⟨w.heap.size+1+1,2,G⟩ (D E p.1.quota)).setCell ⟨w.heap.size+1+1,3,G⟩ (D E p.1.fuse)).setCell ⟨w.heap.size+1+1,4,G⟩ (H p.1.dead)) (w.heap.size+1) 30 #[D E m.next,D E m.term,D E m.vote,D E m.sq,D E m.sf,F C m.segs.length c2]):=I (lI (H1.ext KJ) (by omega:w.heap.size+1≠w.heap.size+1+1) (F A3 p.1.fs.length c3) (F B3 p.1.q.length e3) (D E p.1.quota) (D E p.1.fuse) (H p.1.dead));have Ji:(((((w4.setCell ⟨w.heap.size+1+1,0,G⟩ (F A3 p.1.fs.length c3)).setCell ⟨w.heap.size+1+1,1,G⟩ (F B3 p.1.q.length e3)).setCell ⟨w.heap.size+1+1,2,G⟩ (D E p.1.quota)).setCell ⟨w.heap.size+1+1,3,G⟩ (D E p.1.fuse)).setCell ⟨w.heap.size+1+1,4,G⟩ (H p.1.dead)).heap.size=w4.heap.size:=by simp only[World.size_setCell]
  clear Hz Hy Ha Hb Kr KJ ed ee;generalize(((((w4.setCell ⟨w.heap.size+1+1,0,G⟩ (F A3 p.1.fs.length c3)).setCell ⟨w.heap.size+1+1,1,G⟩ (F B3 p.1.q.length e3)).setCell ⟨w.heap.size+1+1,2,G⟩ (D E p.1.quota)).setCell ⟨w.heap.size+1+1,3,G⟩ (D E p.1.fuse)).setCell ⟨w.heap.size+1+1,4,G⟩ (H p.1.dead))=w5 at *;have Ka:Hid (Ext w5 (w5.alloc (J #[D .u8 3,sv bq,sv dm,F none 0 0] 98))):=I (xA (xR _) _);have Jg:Qs (w5.alloc (J #[D .u8 3,sv bq,sv dm,F none 0 0] 98)) (F (N ⟨w4.heap.size,0,G⟩) 1 1) [dM bq dm]:=
   ⟨[D .u8 3,sv bq,sv dm,F none 0 0],BO w5 _ 98 4 1 rfl (by omega) Ji,ip (o:=dM bq dm) (SlR.nil _ 1)⟩
  have hC:=qM _ p.1 (n+2+b.length) true _ [dM bq dm] _ (show DkV (w5.alloc (J #[D .u8 3,sv bq,sv dm,F none 0 0] 98)) (O #[F A3 p.1.fs.length c3,F B3 p.1.q.length e3,D E p.1.quota,D E p.1.fuse,H p.1.dead]) p.1 from⟨_,_,rfl,(OwnF.fs Jr).ext Ka,(OwnQ.qs Jy).ext Ka⟩) KV Jg (by have:=Hk.out;have:=HN.out;simp[aL,dM];omega);have KD:=KV.does [dM bq dm] true;have H3:=HJ.out;obtain⟨r,hr⟩:∃r,ct true p.1 [dM bq dm]=r:=⟨_,rfl⟩;rw[hr]at hC KD H3;refine hC.mono ?_;rintro e w7⟨u,rfl,⟨A4,c4,B4,e4,rfl,of,oq⟩,KZ⟩;have E7:=xT Ka KZ;have HY:=Ki.ext E7;have J6:=aT (show Blk w7 (w.heap.size+1+1) 25 #[F A3 p.1.fs.length c3,F B3 p.1.q.length e3,D E p.1.quota,D E p.1.fuse,H p.1.dead]from HY) (F A4 r.1.fs.length c4) (F B4 r.1.q.length e4) (D E r.1.quota) (D E r.1.fuse) (H r.1.dead);have J4:=xT KT E7;have ed:=aH HY;have ee:=ae HY;have HK:=I (xT KT Ka).size;have HA:=I HY;have Hj:=I J6;have Ha:=I of;have Hb:=I oq;have KL:=I (Jv.ext E7);have Ks:=I J4;have JC:=I KD;have Hm:=I H3;clear hC KD H3 hr HY J6 J4 of oq KZ E7 Jg HJ Ji;by_cases hr2:r.2=0
  case neg=>
   have K3:(r.2 != 0)=true:=by simpa using hr2
   obtain rfl:r=S:=by have h:=Hm.out;rwa[if_pos hr2]at h
   clear hr2;go_wp2_with fail
   refine bodyPost_ret (n8 _ _ _ _ (D E r.2) rfl rfl (aT Hj (F A4 r.1.fs.length c4) (F B4 r.1.q.length e4) (D E r.1.quota) (D E r.1.fuse) (H r.1.dead)) rfl) rfl ?_;have KE:=OwnF.box1 (A':=A4) (n':=r.1.fs.length) (c':=c4) (B':=B4) (m':=r.1.q.length) (e':=e4) (q':=r.1.quota) (f':=r.1.fuse) (d':=r.1.dead) Ha HA;have KF:=OwnQ.box1 (A':=A4) (n':=r.1.fs.length) (c':=c4) (B':=B4) (m':=r.1.q.length) (e':=e4) (q':=r.1.quota) (f':=r.1.fuse) (d':=r.1.dead) Hb HA;have K5:=OwnF.box1 (A':=A4) (n':=r.1.fs.length) (c':=c4) (B':=B4) (m':=r.1.q.length) (e':=e4) (q':=r.1.quota) (f':=r.1.fuse) (d':=r.1.dead) (OwnX.base KE HK) Hj;have K6:=OwnQ.box1 (A':=A4) (n':=r.1.fs.length) (c':=c4) (B':=B4) (m':=r.1.q.length) (e':=e4) (q':=r.1.quota) (f':=r.1.fuse) (d':=r.1.dead) (OwnX.base KF HK) Hj;have K4:=aS (aS Ks (by omega:w.heap.size<=w.heap.size+1+1) (F A4 r.1.fs.length c4) (F B4 r.1.q.length e4) (D E r.1.quota) (D E r.1.fuse) (H r.1.dead)) (by omega:w.heap.size<=w.heap.size+1+1) (F A4 r.1.fs.length c4) (F B4 r.1.q.length e4) (D E r.1.quota) (D E r.1.fuse) (H r.1.dead);exact pV K5 K6 K4
  have K3:(r.2 != 0)=false:=by simpa using hr2
  have H3:=Hm.out;rw[if_neg (by simpa using hr2)]at H3;have Ko:=I H3;clear H3 hr2 Hm;go_wp2_with fail
  have Js:Hid (OwnF (((((w7.setCell ⟨w.heap.size+1+1,0,G⟩ (F A4 r.1.fs.length c4)).setCell ⟨w.heap.size+1+1,1,G⟩ (F B4 r.1.q.length e4)).setCell ⟨w.heap.size+1+1,2,G⟩ (D E r.1.quota)).setCell ⟨w.heap.size+1+1,3,G⟩ (D E r.1.fuse)).setCell ⟨w.heap.size+1+1,4,G⟩ (H r.1.dead)) _ (F A4 r.1.fs.length c4) r.1.fs):=I (OwnF.box1 (A':=A4) (n':=r.1.fs.length) (c':=c4) (B':=B4) (m':=r.1.q.length) (e':=e4) (q':=r.1.quota) (f':=r.1.fuse) (d':=r.1.dead) Ha HA);have Jz:Hid (OwnQ (((((w7.setCell ⟨w.heap.size+1+1,0,G⟩ (F A4 r.1.fs.length c4)).setCell ⟨w.heap.size+1+1,1,G⟩ (F B4 r.1.q.length e4)).setCell ⟨w.heap.size+1+1,2,G⟩ (D E r.1.quota)).setCell ⟨w.heap.size+1+1,3,G⟩ (D E r.1.fuse)).setCell ⟨w.heap.size+1+1,4,G⟩ (H r.1.dead)) _ (F B4 r.1.q.length e4) r.1.q):=I (OwnQ.box1 (A':=A4) (n':=r.1.fs.length) (c':=c4) (B':=B4) (m':=r.1.q.length) (e':=e4) (q':=r.1.quota) (f':=r.1.fuse) (d':=r.1.dead) Hb HA);have Hs:Hid (Ext w (((((w7.setCell ⟨w.heap.size+1+1,0,G⟩ (F A4 r.1.fs.length c4)).setCell ⟨w.heap.size+1+1,1,G⟩ (F B4 r.1.q.length e4)).setCell ⟨w.heap.size+1+1,2,G⟩ (D E r.1.quota)).setCell ⟨w.heap.size+1+1,3,G⟩ (D E r.1.fuse)).setCell ⟨w.heap.size+1+1,4,G⟩ (H r.1.dead))):=I (aS Ks (by omega:w.heap.size<=w.heap.size+1+1) (F A4 r.1.fs.length c4) (F B4 r.1.q.length e4) (D E r.1.quota) (D E r.1.fuse) (H r.1.dead));have Jw:Hid (Blk (((((w7.setCell ⟨w.heap.size+1+1,0,G⟩ (F A4 r.1.fs.length c4)).setCell ⟨w.heap.size+1+1,1,G⟩ (F B4 r.1.q.length e4)).setCell ⟨w.heap.size+1+1,2,G⟩ (D E r.1.quota)).setCell ⟨w.heap.size+1+1,3,G⟩ (D E r.1.fuse)).setCell ⟨w.heap.size+1+1,4,G⟩ (H r.1.dead)) (w.heap.size+1) 30 #[D E m.next,D E m.term,D E m.vote,D E m.sq,D E m.sf,F C m.segs.length c2]):=I (lI KL (by omega:w.heap.size+1≠w.heap.size+1+1) (F A4 r.1.fs.length c4) (F B4 r.1.q.length e4) (D E r.1.quota) (D E r.1.fuse) (H r.1.dead));have Hj:Hid (Blk (((((w7.setCell ⟨w.heap.size+1+1,0,G⟩ (F A4 r.1.fs.length c4)).setCell ⟨w.heap.size+1+1,1,G⟩ (F B4 r.1.q.length e4)).setCell ⟨w.heap.size+1+1,2,G⟩ (D E r.1.quota)).setCell ⟨w.heap.size+1+1,3,G⟩ (D E r.1.fuse)).setCell ⟨w.heap.size+1+1,4,G⟩ (H r.1.dead)) (w.heap.size+1+1) 25 #[F A4 r.1.fs.length c4,F B4 r.1.q.length e4,D E r.1.quota,D E r.1.fuse,H r.1.dead]):=Hj;clear HA Ha Hb Ks KL ed ee;generalize(((((w7.setCell ⟨w.heap.size+1+1,0,G⟩ (F A4 r.1.fs.length c4)).setCell ⟨w.heap.size+1+1,1,G⟩ (F B4 r.1.q.length e4)).setCell ⟨w.heap.size+1+1,2,G⟩ (D E r.1.quota)).setCell ⟨w.heap.size+1+1,3,G⟩ (D E r.1.fuse)).setCell ⟨w.heap.size+1+1,4,G⟩ (H r.1.dead))=w8 at *;obtain⟨k0,k1,k2,k3,k4⟩:=ae Hj;have eb:=aj Jw;refine wp_region_held_drew (S:=λ_=>True) (by kernel_rfl) trivial (λ_=>?_);have Hv:Ext w8 w8.drew:=xD (xR _);refine AllReadyH.two (i:=0) (j:=1) rfl rfl (by kernel_rfl) (by rfl) (by rfl) (λK hK=>?_) (λK hK=>?_)
  ·go_simp;refine af hK _ _ trivial (λ_=>?_);refine ah 1 (λK hK=>?_);go_simp;refine af hK _ _ trivial (λ_=>?_);clear k0 k1 k2 k3 k4 eb;refine ah 2 (λK hK=>?_);go_simp;refine(qK m _ _ (Km.ext (xT Hs Hv)) Kn).mono ?_;rintro e w9⟨vk,rfl,Hn,Hu⟩;have E9:=xT Hv Hu;obtain⟨Ak,ck,rfl,_,_⟩:=xO (xW Hn);refine af hK _ _ trivial (λ_=>?_);exact mcSwapa0
  ·go_simp;refine af hK _ _ trivial (λ_=>?_);refine AllReadyH.two (i:=0) (j:=2) rfl rfl (by kernel_rfl) (by rfl) (by rfl) (λK hK=>?_) (λK hK=>?_)
   ·go_simp;refine af hK _ _ trivial (λ_=>?_);clear k0 k1 k2 k3 k4 eb;refine ah 2 (λK hK=>?_);go_simp;refine(qK m _ _ (Km.ext (xT Hs Hv)) Kn).mono ?_;rintro e w9⟨vk,rfl,Hn,Hu⟩;have E9:=xT Hv Hu;obtain⟨Ak,ck,rfl,_,_⟩:=xO (xW Hn);refine af hK _ _ trivial (λ_=>?_);exact mcSwapa0
   ·go_simp;refine(qK m _ _ (Km.ext (xT Hs Hv)) Kn).mono ?_;rintro e w9⟨vk,rfl,Hn,Hu⟩;have E9:=xT Hv Hu;obtain⟨Ak,ck,rfl,_,_⟩:=xO (xW Hn);refine af hK _ _ trivial (λ_=>?_);have m0:=E9.cell k0;have m1:=E9.cell k1;have m2:=E9.cell k2;have m3:=E9.cell k3;have m4:=E9.cell k4;clear k0 k1 k2 k3 k4 eb;refine ah 0 (λK hK=>?_);go_simp;refine af hK _ _ trivial (λ_=>?_);clear m0 m1 m2 m3 m4;exact mcSwapa0
structure Sy (a t:Nat) (d:Dk):Prop where
 l:d.fs.length+d.q.length<=a
 t:tot d.fs+aL d.q<=t
 f:d.fuse<=9223372036854775807
theorem Sy.mono{a' t':Nat}(h:Sy a t d)(h1:a<=a')(h2:t<=t'):Sy a' t' d:=⟨Nat.le_trans h.l h1,Nat.le_trans h.t h2,h.f⟩
theorem Sy.burn(h:Sy a t d):Sy a t d.burn:=by
 obtain⟨h1,h2,h3⟩:=h;unfold Dk.burn;split
 ·exact⟨h1,h2,by dsimp only;omega⟩
 ·exact⟨h1,h2,h3⟩
theorem Sy.sync(h:Sy a t d):Sy a t d.syncS.1:=by
 unfold Dk.syncS;split
 ·exact h
 ·refine Sy.burn ⟨?_,?_,h.f⟩
  ·have:=fR d;have:=h.l;simp only[P1];omega
  ·have:=lY d;have:=h.t;show tot d.now+0<=t;omega
theorem Sy.doS(h:Sy a t d)(o:Oq):Sy (a+1) (t+Q o.b) (d.doS o).1:=by
 have hm:=h.mono (a':=a+1) (t':=t+Q o.b) (by omega) (by omega);unfold Dk.doS;split
 ·exact hm
 ·split
  ·exact hm
  ·split
   ·exact hm
   ·split
    ·exact hm
    ·refine Sy.burn ⟨?_,?_,h.f⟩
     ·have:=h.l;show Q d.fs+Q (d.q++[o])<=_;simp;omega
     ·have:=h.t;show tot d.fs+aL (d.q++[o])<=_;rw[mG,eH];show _+(aL d.q+(Q o.b+0))<=_;omega
theorem Sy.does:∀(q:List Oq) {a t:Nat} {d:Dk} (sync:Bool),Sy a t d->Sy (a+Q q) (t+aL q) (ct sync d q).1
 | [],a,t,d,sync,h=>by
  rw[ct];split
  ·exact h.sync.mono (by omega) (by omega)
  exact h.mono (by omega) (by omega)
 | o::q,a,t,d,sync,h=>by
  rw[ct,eH,xC];split
  ·exact(Sy.does q sync (h.doS o)).mono (by omega) (by omega)
  ·exact(h.doS o).mono (by omega) (by omega)
theorem Sy.put(h:Sy a t d)(n b:List UInt8):Sy (a+2) (t+Q b) (putS d n b).1:=
 (Sy.does [dP n,d8 n b] true h).mono (by simp) (by simp[aL,dP,d8])
theorem Sy.drop(h:Sy a t d)(b:List (List UInt8)):Sy (a+a) t (eQ d b).1:=by
 refine(Sy.does ((bG d.now b).map cE) false h).mono ?_ ?_
 ·rw[List.length_map];have:=oL d.now b;have:=fR d;have:=h.l;omega
 ·rw[yF];omega
theorem Sy.swap(h:Sy a t d)(b:List UInt8)(c:List (List UInt8)):Sy (a+a+6) (t+Q b) (l7 d b c).1:=by
 have h1:=h.put bq b;have h2:=Sy.does [dM bq dm] true h1;have e:aL [dM bq dm]=0:=rfl;rw[e]at h2;unfold l7;split
 ·exact h1.mono (by omega) (by omega)
 ·split
  ·exact h2.mono (by simp only[xC,P1];omega) (by omega)
  ·exact(h2.drop c).mono (by simp only[xC,P1];omega) (by omega)
theorem FL{m:Mf}(hc:aZ m=true):Q m.segs<=60:=by
 unfold aZ dN at hc;simp only[Bool.and_eq_true,decide_eq_true_eq]at hc;exact hc.1.1.2
theorem IX{m:Mf}{b:List UInt8}(hb:bj m=N b):Q b<=1300:=by
 have hc:=IW hb;have hs:=FL hc;unfold bj at hb;rw[if_pos hc]at hb;have hb:=Option.some.inj hb;have h1:=eY (cM m);have h2:Q (cM m)=6+4*Q m.segs:=by
  unfold cM;rw[xL,lE];rfl
 rw[<-hb,FN,xC];omega
theorem zh(t:Tup):nC t t=true:=by
 unfold nC;simp[(MJ t.s t.s).2 rfl]
