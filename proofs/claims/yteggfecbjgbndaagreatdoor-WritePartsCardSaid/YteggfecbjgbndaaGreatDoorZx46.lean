/- Merged -/
import Derived.Test.YteggfecbjgbndaaGreatDoorZx42
import Derived.Test.YteggfecbjgbndaaGreatDoorZx45
set_option linter.all false
set_option maxHeartbeats 8000000
set_option maxRecDepth 100000
open Go.Proofs.Tryz
open Go.Value renaming int->E,slice->G,bool->J,pointer->Q,agg->R
open Go.IntKind renaming i64->F
open Go.Mv renaming aN->I
open Option renaming some->L,none->O
open Go.Proofs.Tryz renaming prog->M
open Go.Obj renaming cells->N
open Go.Mv.Blk renaming new->P0
open List renaming length_nil->P1
open Nat renaming lt_of_lt_of_le->P2,zero_add->P3
namespace Go.Proofs.YteggfecbjgbndaaGreatDoor
open Go.RowKit Go.Mv Go.Shelf
theorem mcR8ca0{P:Prop}(h:P:=by
 have HP:=I (H.give (xR _) H.f H.q (by omega));have Hl:=H.br;unfold aK at Hl;have ec:=ae Hl;have ed:=aH Hl;clear Hl H;go_wp2_with fail
 refine bodyPost_ret (pE _ _ _ _ _ rfl rfl HP.1 rfl) rfl ?_;exact⟨⟨_,rfl,⟨_,_,rfl,HP.2.1,HP.2.2.1⟩⟩,HP.2.2.2⟩):P:=h
theorem pE(tmps:Array Value)(W:World)(b:Nat)(cs:Array Value)(e:Value)(h4:tmps.getD 4 undef=Q (L ⟨b,0,O⟩))(h3:tmps.getD 5 undef=e)(hb:Blk W b 25 cs)(hs:cs.size=5):(results Tryz.f23 tmps).run M W=.ok (.tuple #[.agg cs,e]) W:=by
 have c:tmps[4]?.getD undef=Q (L ⟨b,0,O⟩):=by simpa using h4
 have a:tmps[5]?.getD undef=e:=by simpa using h3
 have hl:=hb.load (P:=M) em rfl (by rw[hs];kernel_rfl);simp[results,results23,c,a,asAddr,hl,Sem.run_bind,Sem.run_pure,Result.andThen_ok]
theorem Sz.putS{n:Nat}{d:Dk}(h:Sz n d)(x b:List UInt8):Sz (n+2+b.length) (putS d x b).1:=by
 have h1:=Sz.does [dP x,d8 x b] true h;refine Sz.mono h1 ?_;simp[aL,dP,d8]
theorem FB(v:Value)(d:Dk)(n:Nat)(m:Mf)(vs:Value)(w:World)(hS:StW w)(hD:DkV w v d)(hs:Sz n d)(hn:n<=90000)(hG:Sgs w vs m.segs)(Jw:m.segs.length<=1000000)(Jv:(cY m).length<=1000000)(Kv:∀b,bj m=L b->b.length<=100000):
  Calls M 23 #[v,R #[E F m.next,E F m.term,E F m.vote,E F m.sq,E F m.sf,vs]] w λe w'=>(∃u,e=.returned (.tuple #[u,E F (eL d m).2])/\DkV w' u (eL d m).1)/\Ext w w':=by
 obtain⟨vf,vq,rfl,hF,hQ⟩:=hD;obtain⟨A,c,rfl,_,_⟩:=Fs.open_ hF;obtain⟨B,e2,rfl,_,_⟩:=Qs.open_ hQ;obtain⟨C,c2,rfl,_,_⟩:=hG.open_;obtain⟨V,Kh⟩:∃V,((w.alloc (N #[G A d.fs.length c,G B d.q.length e2,E F d.quota,E F d.fuse,J d.dead] 25)).alloc (N #[E F m.next,E F m.term,E F m.vote,E F m.sq,E F m.sf,G C m.segs.length c2] 30)).alloc (N #[G none 0 0,G none 0 0,E F 0,E F 0,J false] 25)=V:=⟨_,rfl⟩;have Hu:Ext w V:=by rw[<-Kh];exact xA (xA (xA (xR _) _) _) _
 have h0:Blk V w.heap.size 25 (ap A d.fs.length c B d.q.length e2 d.quota d.fuse d.dead):=by rw[<-Kh];exact((P0 w _ _).alloc _).alloc _
 have h1:Blk V (w.heap.size+1) 30 #[E F m.next,E F m.term,E F m.vote,E F m.sq,E F m.sf,G C m.segs.length c2]:=by
  rw[<-Kh];have:=(P0 (w.alloc (N #[G A d.fs.length c,G B d.q.length e2,E F d.quota,E F d.fuse,J d.dead] 25)) 30 #[E F m.next,E F m.term,E F m.vote,E F m.sq,E F m.sf,G C m.segs.length c2]).alloc (N #[G none 0 0,G none 0 0,E F 0,E F 0,J false] 25);rwa[xS]at this
 have h2:Blk V (w.heap.size+1+1) 25 (ap none 0 0 none 0 0 0 0 false):=by
  rw[<-Kh];have:=P0 ((w.alloc (N #[G A d.fs.length c,G B d.q.length e2,E F d.quota,E F d.fuse,J d.dead] 25)).alloc (N #[E F m.next,E F m.term,E F m.vote,E F m.sq,E F m.sf,G C m.segs.length c2] 30)) 25 #[G none 0 0,G none 0 0,E F 0,E F 0,J false];rwa[xS,xS]at this
 have H:Hid (Pt w V (w.heap.size+1+1) A c B e2 d):=I ⟨h0,h2,hF.ext Hu,hQ.ext Hu,Hu⟩;have k:=I h1;have Jl:=I hS;have HG:=I hG;have HZ:=I hs;have JF:=I Jw;have JE:=I Jv;have U:=I hn;have KT:=I Kv;have key:=AM m _ V (hG.ext Hu);have Q:=ae h0;have ea:=aj h1;obtain⟨S,Kg⟩:∃S,eL d m=S:=⟨_,rfl⟩;rw[Kg];unfold eL at Kg;obtain⟨pm,Jx⟩:∃pm,bj m=pm:=⟨_,rfl⟩;rw[Jx]at key Kg Kv;have p:=I key;have j:=I Kg;have KT:=I Kv;clear hF hQ Hu h0 h1 h2 hS hG hs Jw Jv Kv Jx key Kg hn;go_enter func23,ntmps23
 go_wp2_with fail;clear Kh;refine p.mono ?_;rintro e w1⟨⟨vb,rfl,Kk⟩,Ha⟩;replace H:=I (H.ext Ha);replace k:=I (k.ext Ha);clear p Ha ea Q;have Q:=ae H.b0;cases pm with
 |none=>
  dsimp only[Option.isSome,Option.getD]at Kk⊢;have hs:=j.out;dsimp only at hs;subst hs;have key:=mU _ d w1 H.dk (by have:=HZ.l;have:=U.out;omega) (by have:=HZ.t;have:=U.out;omega);have p:=I key;clear key j Kk;go_wp2_with fail
  refine p.mono ?_;rintro e w2⟨u,rfl,Jt,a⟩;have o:=Jt.dk;clear Jt p Q;obtain⟨Kz,KA,rfl,g,i⟩:=o;obtain⟨Af,cf,rfl,_,_⟩:=Fs.open_ g;obtain⟨Aq,cq,rfl,_,_⟩:=Qs.open_ i;have HP:=I (H.give a g i (by omega));have Hl:=H.br.ext a;have ec:=ae Hl;have ed:=aH Hl;clear Hl g i a H;go_wp2_with fail
  refine bodyPost_ret (pE _ _ _ _ _ rfl rfl HP.1 rfl) rfl ?_;exact⟨⟨_,rfl,⟨_,_,rfl,HP.2.1,HP.2.2.1⟩⟩,HP.2.2.2⟩
 |some b=>
  dsimp only[Option.isSome,Option.getD]at Kk⊢;have J3:Bs w1 vb b:=xW Kk;obtain⟨Ab,cb,rfl,_,_⟩:=xO J3;have Z:=I (KT b rfl);have hs:=j.out;dsimp only[l7]at hs;have key:=yO _ d n 2 0 0 _ b w1 (Jl.ext H.e) H.dk HZ J3 (by have:=U.out;omega) Z;rw[show aE 2 0 0=L bq from by rfl]at key;dsimp only[cj]at key;have Kx:=HZ.putS bq b;obtain⟨⟨X,r1⟩,Jo⟩:∃x,putS d bq b=x:=⟨_,rfl⟩;rw[Jo]at key hs Kx;dsimp only at key hs Kx;have p:=I key;replace j:=I hs;have Ks:=I Kx;clear key hs Jo Kx Kk J3 KT;go_wp2_with fail
  refine p.mono ?_;rintro e w2⟨⟨u,rfl,o⟩,a⟩;dsimp only at o⊢;clear p Q;obtain⟨Kz,KA,rfl,g,i⟩:=o;obtain⟨A2,c3,rfl,_,_⟩:=Fs.open_ g;obtain⟨B2,e3,rfl,_,_⟩:=Qs.open_ i;have y:=H.b0.ext a;have Q:=ae y;have ee:=aH y;replace H:=I (H.store a g i (by omega));replace k:=I (eS (k.ext a) (by omega:w.heap.size+1≠w.heap.size) (G A2 X.fs.length c3) (G B2 X.q.length e3) (E F X.quota) (E F X.fuse) (J X.dead));clear y g i a;by_cases z:r1=0
  case neg=>
   have hs:=j.out;rw[if_pos z]at hs;subst hs;have Jy:(r1 != 0)=true:=by simpa using z
   clear j z;exact mcR8ca0
  have hs:=j.out;rw[if_neg (by simpa using z)]at hs;subst z;have key:=nt _ X (dM bq dm) (G none 0 0) _ H.dk (SlR.nil _ 1) (by have:=Ks.l;have:=Z.out;have:=U.out;omega) (by have:=Ks.t;have:=Z.out;have:=U.out;omega) (by decide) Ks.f;have Ky:=Ks.doS (dM bq dm);simp only[ct]at hs;obtain⟨⟨Y,r2⟩,Jp⟩:∃x,X.doS (dM bq dm)=x:=⟨_,rfl⟩;rw[Jp]at key hs Ky;dsimp only[dM,bq,dm,sv,P1]at key hs Ky;have p:=I key;replace j:=I hs;have Kt:=I Ky;clear key hs Jp Ky;go_wp2_with fail
  refine p.mono ?_;rintro e w4⟨⟨u,rfl,o⟩,a⟩;dsimp only at o⊢;clear p Q ee;obtain⟨Kz,KA,rfl,g,i⟩:=o;obtain⟨A4,c4,rfl,_,_⟩:=Fs.open_ g;obtain⟨B4,e4,rfl,_,_⟩:=Qs.open_ i;have y:=H.b0.ext a;have Q:=ae y;have ee:=aH y;replace H:=I (H.store a g i (by omega));replace k:=I (eS (k.ext a) (by omega:w.heap.size+1≠w.heap.size) (G A4 Y.fs.length c4) (G B4 Y.q.length e4) (E F Y.quota) (E F Y.fuse) (J Y.dead));clear y g i a;by_cases r:r2=0
  case neg=>
   have hs:=j.out;rw[if_neg r,if_pos r]at hs;subst hs;have Jy:(r2 != 0)=true:=by simpa using r
   clear j r;exact mcR8ca0
  have hs:=j.out;simp only[if_pos r,if_true]at hs;subst r;have key:=yS _ Y _ H.dk (by have:=Kt.l;have:=Z.out;have:=U.out;omega) (by have:=Kt.t;have:=Z.out;have:=U.out;omega) Kt.f;have HU:=Kt.sync;obtain⟨⟨s,r3⟩,Jq⟩:∃x,Y.syncS=x:=⟨_,rfl⟩;rw[Jq]at key hs HU;dsimp only at key hs HU;have p:=I key;replace j:=I hs;have JK:=I HU;clear key hs Jq HU;go_wp2_with fail
  refine p.mono ?_;rintro e w6⟨⟨u,rfl,o⟩,a⟩;dsimp only at o⊢;clear p Q ee;obtain⟨Kz,KA,rfl,g,i⟩:=o;obtain⟨A6,c6,rfl,_,_⟩:=Fs.open_ g;obtain⟨B6,e6,rfl,_,_⟩:=Qs.open_ i;have y:=H.b0.ext a;have Q:=ae y;have ee:=aH y;replace H:=I (H.store a g i (by omega));replace k:=I (eS (k.ext a) (by omega:w.heap.size+1≠w.heap.size) (G A6 s.fs.length c6) (G B6 s.q.length e6) (E F s.quota) (E F s.fuse) (J s.dead));clear y g i a;by_cases P:r3=0
  case neg=>
   have hs:=j.out;rw[if_pos P]at hs;subst hs;have Jy:(r3 != 0)=true:=by simpa using P
   clear j P;exact mcR8ca0
  have hs:=j.out;rw[if_neg (by simpa using P)]at hs;subst P;clear j;go_wp2_with fail;clear Q ee;refine wp_region_held_drew (S:=λW=>(W.cell? ⟨w.heap.size,0,O⟩=L (G A6 s.fs.length c6)/\W.cell? ⟨w.heap.size,1,O⟩=L (G B6 s.q.length e6)/\W.cell? ⟨w.heap.size,2,O⟩=L (E F s.quota)/\W.cell? ⟨w.heap.size,3,O⟩=L (E F s.fuse)/\W.cell? ⟨w.heap.size,4,O⟩=L (J s.dead))/\(W.cell? ⟨w.heap.size+1,0,O⟩=L (E F m.next)/\W.cell? ⟨w.heap.size+1,1,O⟩=L (E F m.term)/\W.cell? ⟨w.heap.size+1,2,O⟩=L (E F m.vote)/\W.cell? ⟨w.heap.size+1,3,O⟩=L (E F m.sq)/\W.cell? ⟨w.heap.size+1,4,O⟩=L (E F m.sf)/\W.cell? ⟨w.heap.size+1,5,O⟩=L (G C m.segs.length c2))) (by kernel_rfl) ⟨ae H.b0,aj k⟩ (λ_=>?_);refine ab 0 ?_;refine ab 1 ?_;refine ah 2 (λK hK=>?_);go_simp;refine(MZ m _ _ (HG.ext (xT H.e (xD (xR _)))) JF).mono ?_;rintro e w7⟨vk,rfl,hk,Kf⟩;have HB:=xT (xD (xR _)) Kf;replace H:=I (H.ext HB);replace k:=I (k.ext HB);clear HB Kf;refine af hK _ _ ⟨ae H.b0,aj k⟩ (λ_=>?_);refine ah 3 (λK hK=>?_);go_simp;refine(yv _ s _ _ (cY m) w7 (Jl.ext H.e) H.dk JK (xW hk) JE (by have:=Z.out;have:=U.out;omega)).mono ?_;rintro e w8⟨⟨u,rfl,o⟩,a⟩;clear hk;obtain⟨T,hT⟩:∃T,eQ s (aA (cY m))=T:=⟨_,rfl⟩;rw[hT]at o hs;subst hs;obtain⟨D,r9⟩:=T;dsimp only at o;refine af hK _ _ ⟨ae (H.b0.ext a),aj (k.ext a)⟩ (λ_=>?_);refine ab 4 ?_;refine ab 5 ?_;obtain⟨Kz,KA,rfl,g,i⟩:=o;obtain⟨Af,cf,rfl,_,_⟩:=Fs.open_ g;obtain⟨Aq,cq,rfl,_,_⟩:=Qs.open_ i;have HP:=I (H.give a g i (by omega));have JG:=I (eS (H.b0.ext a) (by omega:w.heap.size≠w.heap.size+1+1) (G Af D.fs.length cf) (G Aq D.q.length cq) (E F D.quota) (E F D.fuse) (J D.dead));have JH:=I (eS (k.ext a) (by omega:w.heap.size+1≠w.heap.size+1+1) (G Af D.fs.length cf) (G Aq D.q.length cq) (E F D.quota) (E F D.fuse) (J D.dead));have Hl:=H.br.ext a;have ec:=ae Hl;have ed:=aH Hl;clear Hl g i a H k;refine ah 6 (λK hK=>?_);go_simp;show K _ (aK w8 (w.heap.size+1+1) (G Af D.fs.length cf) (G Aq D.q.length cq) (E F D.quota) (E F D.fuse) (J D.dead));refine af hK _ _ ⟨ae JG,aj JH⟩ (λ_=>?_);refine ab 7 ?_;refine aq ?_;clear ec ed;go_wp2_with fail
  refine bodyPost_ret (pE _ _ _ _ _ rfl rfl HP.1 rfl) rfl ?_;exact⟨⟨_,rfl,⟨_,_,rfl,HP.2.1,HP.2.2.1⟩⟩,HP.2.2.2⟩
theorem zxm{fs:List Fil}{b:List UInt8}{m:Mf}(hb:bu fs (aE 1 0 0)=L b)(hm:cA b=L m)(a:m.sq=0):zxg fs:=λc m' h1 h2=>by
 rw[hb]at h1;cases h1;rw[hm]at h2;cases h2;exact a
def l14:List Ent:=[⟨1,0,0⟩,⟨1,0,0⟩,⟨1,0,0⟩,⟨1,0,0⟩,⟨1,0,0⟩]
def d14A:Dk:=⟨[([77],[77,1,0,0,0,0,0,68,18,119,173])],[],2000,0,false⟩
def zya:Mf:=⟨1,0,0,0,0,[]⟩
def zz1:Tup:=⟨⟨0,0,0,1,false⟩,[],0,0⟩
def zzP:List UInt8:=[77,1,0,0,0,0,0,68,18,119,173]
def d14B:Dk:=⟨[([77],[77,1,1,0,0,0,0,232,125,102,149])],[],2000,0,false⟩
def m14B:Mf:=⟨1,1,0,0,0,[]⟩
def t14B:Tup:=⟨⟨0,0,0,1,false⟩,[],1,0⟩
def zzQ:List UInt8:=[77,1,1,0,0,0,0,232,125,102,149]
def d14C:Dk:=⟨[([77],[77,2,1,0,0,0,1,1,2,1,0,219,205,200,106]),([115,49,46,50],[2,1,4,1,0,0,1,0,0,1,0,0,1,0,0,4,70,32,207])],[],2000,0,false⟩
def m14C:Mf:=⟨2,1,0,0,0,[⟨1,2,1,-1⟩]⟩
def t14C:Tup:=⟨⟨0,0,0,1,false⟩,[⟨1,0,0⟩,⟨1,0,0⟩,⟨1,0,0⟩,⟨1,0,0⟩],1,0⟩
def zzR:List UInt8:=[77,2,1,0,0,0,1,1,2,1,0,219,205,200,106]
def d14D:Dk:=⟨[([77],[77,3,1,0,0,0,2,1,2,1,5,2,2,5,0,141,61,215,40]),([115,49,46,50],[2,1,4,1,0,0,1,0,0,1,0,0,1,0,0,4,70,32,207]),([115,50,46,50],[2,5,1,1,0,0,16,220,23,158])],[],2000,0,false⟩
def m14D:Mf:=⟨3,1,0,0,0,[⟨1,2,1,4⟩,⟨2,2,5,-1⟩]⟩
def t14D:Tup:=⟨⟨0,0,0,1,false⟩,[⟨1,0,0⟩,⟨1,0,0⟩,⟨1,0,0⟩,⟨1,0,0⟩,⟨1,0,0⟩],1,0⟩
def zzS:List UInt8:=[77,3,1,0,0,0,2,1,2,1,5,2,2,5,0,141,61,215,40]
def d14E:Dk:=⟨[([77],[77,4,1,0,0,0,3,1,2,1,5,2,2,5,2,3,1,6,0,219,133,151,241]),([115,49,46,50],[2,1,4,1,0,0,1,0,0,1,0,0,1,0,0,4,70,32,207]),([115,50,46,50],[2,5,1,1,0,0,16,220,23,158]),([115,51,46,49],[1,0,0,0,0,6,0,0,0,0,1,0,0,0,0,0,0,48,154,210,194])],[],2000,0,false⟩
def zxj:Mf:=⟨4,1,0,0,0,[⟨1,2,1,4⟩,⟨2,2,5,1⟩,⟨3,1,6,-1⟩]⟩
def ybi:Tup:=⟨⟨0,0,0,1,false⟩,[⟨1,0,0⟩,⟨1,0,0⟩,⟨1,0,0⟩,⟨1,0,0⟩,⟨1,0,0⟩,⟨1,0,0⟩],1,0⟩
def zzT:List UInt8:=[77,4,1,0,0,0,3,1,2,1,5,2,2,5,2,3,1,6,0,219,133,151,241]
def yaA:List UInt8:=[2,1,4,1,0,0,1,0,0,1,0,0,1,0,0,4,70,32,207]
def zzW:Dk:=⟨[([77],[77,1,1,0,0,0,0,232,125,102,149]),([115,49,46,50],[2,1,4,1,0,0,1,0,0,1,0,0,1,0,0,4,70,32,207])],[],2000,0,false⟩
def yaB:List UInt8:=[2,5,1,1,0,0,16,220,23,158]
def zzX:Dk:=⟨[([77],[77,2,1,0,0,0,1,1,2,1,0,219,205,200,106]),([115,49,46,50],[2,1,4,1,0,0,1,0,0,1,0,0,1,0,0,4,70,32,207]),([115,50,46,50],[2,5,1,1,0,0,16,220,23,158])],[],2000,0,false⟩
def yaC:List UInt8:=[1,0,0,0,0,6,0,0,0,0,1,0,0,0,0,0,0,48,154,210,194]
def zzY:Dk:=⟨[([77],[77,3,1,0,0,0,2,1,2,1,5,2,2,5,0,141,61,215,40]),([115,49,46,50],[2,1,4,1,0,0,1,0,0,1,0,0,1,0,0,4,70,32,207]),([115,50,46,50],[2,5,1,1,0,0,16,220,23,158]),([115,51,46,49],[1,0,0,0,0,6,0,0,0,0,1,0,0,0,0,0,0,48,154,210,194])],[],2000,0,false⟩
theorem yaE:bu d14A.now (aE 1 0 0)=L zzP:=by kernel_rfl
theorem yaR:cA zzP=L zya:=by kernel_rfl
theorem yaW:bj zya=L zzP:=by kernel_rfl
theorem ya6:b9 d14A.now=⟨0,zz1,zya⟩:=by kernel_rfl
theorem zz8:Sz 1000 d14A:=⟨by decide,by decide,by decide⟩
theorem ybo:zxg d14A.now:=zxm yaE yaR rfl
theorem ybs:RdH d14A.now:=zxx _ ybo
theorem ybx:cT zz1=true:=by kernel_rfl
theorem yaF:bu d14B.now (aE 1 0 0)=L zzQ:=by kernel_rfl
theorem yaS:cA zzQ=L m14B:=by kernel_rfl
theorem yaX:bj m14B=L zzQ:=by kernel_rfl
theorem ya7:b9 d14B.now=⟨0,t14B,m14B⟩:=by kernel_rfl
theorem zz9:Sz 1000 d14B:=⟨by decide,by decide,by decide⟩
theorem ybp:zxg d14B.now:=zxm yaF yaS rfl
theorem ybt:RdH d14B.now:=zxx _ ybp
theorem yby:cT t14B=true:=by kernel_rfl
theorem yaG:bu d14C.now (aE 1 0 0)=L zzR:=by kernel_rfl
theorem yaT:cA zzR=L m14C:=by kernel_rfl
theorem yaY:bj m14C=L zzR:=by kernel_rfl
theorem ya8:b9 d14C.now=⟨0,t14C,m14C⟩:=by kernel_rfl
theorem yaa:Sz 1000 d14C:=⟨by decide,by decide,by decide⟩
theorem ybq:zxg d14C.now:=zxm yaG yaT rfl
theorem ybu:RdH d14C.now:=zxx _ ybq
theorem ybz:cT t14C=true:=by kernel_rfl
theorem yaH:bu d14D.now (aE 1 0 0)=L zzS:=by kernel_rfl
theorem yaU:cA zzS=L m14D:=by kernel_rfl
theorem yaZ:bj m14D=L zzS:=by kernel_rfl
theorem zyz:b9 d14D.now=⟨0,t14D,m14D⟩:=by kernel_rfl
theorem zyr:Sz 1000 d14D:=⟨by decide,by decide,by decide⟩
theorem zz6:zxg d14D.now:=zxm yaH yaU rfl
theorem zz7:RdH d14D.now:=zxx _ zz6
theorem ybA:cT t14D=true:=by kernel_rfl
theorem yaI:bu d14E.now (aE 1 0 0)=L zzT:=by kernel_rfl
theorem yaV:cA zzT=L zxj:=by kernel_rfl
theorem ya0:bj zxj=L zzT:=by kernel_rfl
theorem ya9:b9 d14E.now=⟨0,ybi,zxj⟩:=by kernel_rfl
theorem ybB:Sz 1000 d14E:=⟨by decide,by decide,by decide⟩
theorem ybr:zxg d14E.now:=zxm yaI yaV rfl
theorem ybv:RdH d14E.now:=zxx _ ybr
theorem ya1:eL (⟨[],[],2000,0,false⟩:Dk) zya=(d14A,0):=by kernel_rfl
theorem ya2:eL d14A m14B=(d14B,0):=by kernel_rfl
theorem yaN:zxD rT 2 (t14B.s.idx+t14B.log.length+1) [⟨1,0,0⟩,⟨1,0,0⟩,⟨1,0,0⟩,⟨1,0,0⟩]=(0,yaA):=by kernel_rfl
theorem yba:cj d14B (aE 3 m14B.next 2) yaA=(zzW,0):=by kernel_rfl
theorem zxZ:zw3 d14B t14B m14B 2=m14C:=by kernel_rfl
theorem yaJ:aZ m14C=true:=by kernel_rfl
theorem ya3:eL zzW m14C=(d14C,0):=by kernel_rfl
theorem ybC:Sz 2000 zzW:=⟨by decide,by decide,by decide⟩
theorem yaO:zxD rT 2 (t14C.s.idx+t14C.log.length+1) [⟨1,0,0⟩]=(0,yaB):=by kernel_rfl
theorem ybb:cj d14C (aE 3 m14C.next 2) yaB=(zzX,0):=by kernel_rfl
theorem zx0:zw3 d14C t14C m14C 2=m14D:=by kernel_rfl
theorem yaK:aZ m14D=true:=by kernel_rfl
theorem ya4:eL zzX m14D=(d14D,0):=by kernel_rfl
theorem ybD:Sz 2000 zzX:=⟨by decide,by decide,by decide⟩
theorem yaP:zxD rT 1 (t14D.s.idx+t14D.log.length+1) [⟨1,0,0⟩]=(0,yaC):=by kernel_rfl
theorem ybc:cj d14D (aE 3 m14D.next 1) yaC=(zzY,0):=by kernel_rfl
theorem zx1:zw3 d14D t14D m14D 1=zxj:=by kernel_rfl
theorem yaL:aZ zxj=true:=by kernel_rfl
theorem ya5:eL zzY zxj=(d14E,0):=by kernel_rfl
theorem ybE:Sz 2000 zzY:=⟨by decide,by decide,by decide⟩
theorem zzr:zwT d14B m14B=none:=by kernel_rfl
theorem zzp:∀s k,(none:Option (Sg4×Nat))=L (s,k)->∃es,bw d14B.now s=L es:=λ_ _ h=>by cases h
theorem zzs:zwT d14C m14C=L (⟨1,2,1,-1⟩,4):=by kernel_rfl
theorem zzq:∀s k,(some (⟨1,2,1,-1⟩,4):Option (Sg4×Nat))=L (s,k)->∃es,bw d14C.now s=L es:=λ_ _ h=>by cases h;exact⟨[⟨1,0,0⟩,⟨1,0,0⟩,⟨1,0,0⟩,⟨1,0,0⟩],by kernel_rfl⟩
theorem zyy:zwT d14D m14D=L (⟨2,2,5,-1⟩,1):=by kernel_rfl
theorem zyx:∀s k,(some (⟨2,2,5,-1⟩,1):Option (Sg4×Nat))=L (s,k)->∃es,bw d14D.now s=L es:=λ_ _ h=>by cases h;exact⟨[⟨1,0,0⟩],by kernel_rfl⟩
theorem yaQ:zwT d14E zxj=L (⟨3,1,6,-1⟩,1):=by kernel_rfl
theorem yaM:∀s k,(some (⟨3,1,6,-1⟩,1):Option (Sg4×Nat))=L (s,k)->∃es,bw d14E.now s=L es:=λ_ _ h=>by cases h;exact⟨[⟨1,0,0⟩],by kernel_rfl⟩
theorem yag(v a:Value)(W:World)(d:StW W)(e:DirV W v d14B t14B m14B)(hl:Es W a (l14.take 4)):Calls M 140 #[v,E F 2,a] W λc w'=>∃u,c=.returned (.tuple #[u,E F 0])/\DkV w' u d14C/\Ext W w':=
 zxu v d14B t14B m14B 2 _ a 1000 W d e hl zz9 _ zzr zzp (by rw[zxZ];exact yaJ) _ yaN _ _ yba (by rw[zxZ];exact ya3) 2000 ybC (by rw[zxZ];decide) (λb hb=>by rw[zxZ,yaY]at hb;cases hb;decide)
theorem yao:zxB 2 d14B d14C l14 4 0:=λv c W b hD a=>
 zxO v c d14B 2 _ 1000 W b hD a zz9 ybt t14B m14B ya7 yby _ zzr zzp 4 d14C yag
theorem yah(v a:Value)(W:World)(d:StW W)(e:DirV W v d14C t14C m14C)(hl:Es W a ((l14.drop 4).take 1)):Calls M 140 #[v,E F 2,a] W λc w'=>∃u,c=.returned (.tuple #[u,E F 0])/\DkV w' u d14D/\Ext W w':=
 zxu v d14C t14C m14C 2 _ a 1000 W d e hl yaa _ zzs zzq (by rw[zx0];exact yaK) _ yaO _ _ ybb (by rw[zx0];exact ya4) 2000 ybD (by rw[zx0];decide) (λb hb=>by rw[zx0,yaZ]at hb;cases hb;decide)
theorem yap:zxB 2 d14C d14D (l14.drop 4) 1 0:=λv c W b hD a=>
 zxO v c d14C 2 _ 1000 W b hD a yaa ybu t14C m14C ya8 ybz _ zzs zzq 1 d14D yah
theorem yai(v a:Value)(W:World)(d:StW W)(e:DirV W v d14D t14D m14D)(hl:Es W a ([⟨1,0,0⟩].take 1)):Calls M 140 #[v,E F 1,a] W λc w'=>∃u,c=.returned (.tuple #[u,E F 0])/\DkV w' u d14E/\Ext W w':=
 zxu v d14D t14D m14D 1 _ a 1000 W d e hl zyr _ zyy zyx (by rw[zx1];exact yaL) _ yaP _ _ ybc (by rw[zx1];exact ya5) 2000 ybE (by rw[zx1];decide) (λb hb=>by rw[zx1,ya0]at hb;cases hb;decide)
theorem zyb:zxB 1 d14D d14E [⟨1,0,0⟩] 1 0:=λv c W b hD a=>
 zxO v c d14D 1 _ 1000 W b hD a zyr zz7 t14D m14D zyz ybA _ zyy zyx 1 d14E yai
theorem ybn:zxB 1 d14A d14A l14 0 2:=λv c W b hD a=>
 zzk v c d14A 1 l14 1000 W b hD a zz8 (by decide) ybs zz1 zya ya6 ybx (by decide) (by decide) (by kernel_rfl)
theorem yay(v a:Value)(w:World)(d:StW w)(hD:DkV w v d14A)(c:Es w a l14):Calls M 72 #[v,E F 1,a] w λb w'=>∃u,b=.returned (.tuple #[u,E F 2])/\DkV w' u d14A/\Ext w w':=
 zxI 1 d14A d14A l14 2 1 ⟨by decide,0,by decide,.inl ⟨ybn,.inl (by decide)⟩⟩ (by decide) v a w d hD c
theorem ybm(v a:Value)(w:World)(d:StW w)(hD:DkV w v d14B)(c:Es w a l14):Calls M 72 #[v,E F 2,a] w λb w'=>∃u,b=.returned (.tuple #[u,E F 0])/\DkV w' u d14D/\Ext w w':=
 zxI 2 d14B d14D l14 0 2 ⟨by decide,4,by decide,.inr ⟨d14C,yao,by decide,by decide,by decide,1,by decide,.inl ⟨yap,.inr rfl⟩⟩⟩ (by decide) v a w d hD c
theorem zz4(tmps:Array Value)(W:World)(b:Nat)(cs:Array Value)(h4:tmps.getD 2 undef=Q (L ⟨b,0,O⟩))(hb:Blk W b 25 cs)(hs:cs.size=5):(results Tryz.f135 tmps).run M W=.ok (.agg cs) W:=by
 have hl:=hb.load (P:=M) em rfl (by rw[hs];kernel_rfl);have a:tmps[2]?.getD undef=Q (L ⟨b,0,O⟩):=by simpa using h4
 simp[results,results135,a,asAddr,hl]
theorem zzO(q:Int)(a:0<=q)(w:World):Calls M 135 #[E F q] w λe w'=>e=.returned (R #[G none 0 0,G none 0 0,E F q,E F 0,J false])/\Ext w w':=by
 go_enter func135,ntmps135
 go_wp2;rw[show max q 0=q by omega];refine bodyPost_ret (zz4 _ _ _ _ rfl (P0 w _ _) rfl) rfl ?_;exact⟨rfl,xA (xR _) _⟩
theorem zzE(tmps:Array Value)(W:World)(b:Nat)(cs:Array Value)(u:Value)(h4:tmps.getD 2 undef=Q (L ⟨b,0,O⟩))(h5:tmps.getD 3 undef=u)(hb:Blk W b 25 cs)(hs:cs.size=5):(results Tryz.f71 tmps).run M W=.ok (.tuple #[.agg cs,u]) W:=by
 have hl:=hb.load (P:=M) em rfl (by rw[hs];kernel_rfl);have c:tmps[2]?.getD undef=Q (L ⟨b,0,O⟩):=by simpa using h4
 have a:tmps[3]?.getD undef=u:=by simpa using h5
 simp[results,results71,c,a,asAddr,hl]
theorem ybI(W:World):Qs W (G none 0 0) []:=⟨[],SlR.nil W 4,RowOf.nil⟩
theorem yaD(w:World)(o:StW w):Calls M 71 #[E F 2000] w λk w'=>∃u,k=.returned (.tuple #[u,E F 0])/\DkV w' u d14A/\Ext w w':=by
 have k:Ext w (w.alloc (N #[G none 0 0,G none 0 0,E F 0,E F 0,J false] 25)):=xA (xR _) _;have j:=I (P0 w 25 #[G none 0 0,G none 0 0,E F 0,E F 0,J false]);have g:=I k;have d:=I o;go_enter func71,ntmps71
 go_wp2_with fail
 refine(zzO 2000 (by decide) _).mono ?_;rintro e a⟨rfl,c⟩;go_wp2_with fail
 have key:=qN (R #[G none 0 0,G none 0 0,E F 2000,E F 0,J false]) (⟨[],[],2000,0,false⟩:Dk) 10 zya (G none 0 0) a (d.ext (xT g c)) ⟨_,_,rfl,B0 a,ybI a⟩ ⟨by decide,by decide,by decide⟩ (by decide) (Sgs.nil a) (by decide) (by decide) (λb hb=>by rw[yaW]at hb;cases hb;decide);rw[ya1]at key;refine key.mono ?_;rintro e a⟨u,rfl,l,f⟩;obtain⟨h,m,i,n,rfl,of,k⟩:=l;have a:=j.ext (xT c f);have d:=aH a;have d:=ae a;have d:=I a;have a:=I (OwnD.dk ⟨h,m,i,n,rfl,of,k⟩);have h:=I (xT g (xT c f));go_wp2_with fail
 refine bodyPost_ret (zzE _ _ _ _ _ rfl rfl (aT d _ _ _ _ _) rfl) rfl ?_;exact⟨_,rfl,zwP d a _ _ _ _ _,aS h (by omega) _ _ _ _ _⟩
theorem ybh(v:Value)(w:World)(a:StW w)(hD:DkV w v d14A):Calls M 23 #[v,R #[E F 1,E F 1,E F 0,E F 0,E F 0,G none 0 0]] w λe w'=>(∃u,e=.returned (.tuple #[u,E F 0])/\DkV w' u d14B)/\Ext w w':=by
 have h:=FB v d14A 1000 m14B (G none 0 0) w a hD zz8 (by decide) (Sgs.nil w) (by decide) (by decide) (λb hb=>by rw[yaX]at hb;cases hb;decide);rw[ya2]at h;exact h
theorem ybe(v:Value)(w:World)(g:StW w)(hD:DkV w v d14D):Calls M 14 #[v] w λe w'=>∃A c B d,e=.returned (.tuple #[R #[E F 0,E F 0,E F 0,E F 1,J false,G A 5 c,E F 1,E F 0],R #[E F 3,E F 1,E F 0,E F 0,E F 0,G B 2 d],E F 0])/\Ext w w':=by
 have h:=zyJ v d14D 1000 w g hD (by decide) zyr zz6;rw[zyz]at h;refine h.mono ?_;rintro e w' ⟨g,g,rfl,a,b,f⟩;obtain⟨A,c,rfl,_,_⟩:=xO (OwnE.es a);obtain⟨B,d,rfl,_,_⟩:=(OwnS.sgs b).open_;exact⟨A,c,B,d,rfl,f⟩
theorem zzB(f:Int)(v:Value)(w:World)(b:StW w)(hD:DkV w v d14D):Calls M 74 #[v,E F f] w λa w'=>a=.returned (E F (zwW d14D m14D f))/\Ext w w':=
 zyh v d14D f 1000 w b hD zyr (by decide) zz7 t14D m14D zyz (by decide) _ zyy zyx (by decide)
theorem yaq(v:Value)(w:World)(b:StW w)(hD:DkV w v d14E):Calls M 74 #[v,E F 1] w λa w'=>a=.returned (E F (zwW d14E zxj 1))/\Ext w w':=
 zyh v d14E 1 1000 w b hD ybB (by decide) ybv ybi zxj ya9 (by decide) _ yaQ yaM (by decide)
def c14:Array Value:=#[E F 1,E F 0,E F 0,E F 1,E F 0,E F 0,E F 1,E F 0,E F 0,E F 1,E F 0,E F 0,E F 1,E F 0,E F 0]
theorem yaz{W:World}{b:Nat}(h:Blk W b 54 c14):Es W (G (L ⟨b,0,O⟩) 5 5) l14:=⟨by decide,_,_,rfl,by decide,by decide,λ_=>⟨_,0,rfl,λj u a=>h.cell (0+j) (by rw[P3];simpa[l14,ax,Ent.cells,c14]using a)⟩⟩
theorem zy5{W:World}{b:Nat}(h:Blk W b 54 #[E F 1,E F 0,E F 0]):Es W (G (L ⟨b,0,O⟩) 1 1) [⟨1,0,0⟩]:=⟨by decide,_,_,rfl,by decide,by decide,λ_=>⟨_,0,rfl,λj u a=>h.cell (0+j) (by rw[P3];simpa[ax,Ent.cells]using a)⟩⟩
theorem zxN(w:World)(hS:StW w):Calls M 27 #[] w λe w'=>e=.returned (J true)/\Ext w w':=by
 have D:=I hS;clear hS;go_enter func27,ntmps27
 go_wp2_with fail
 refine(zxs 1 6 _ (by decide)).mono ?_;rintro e w1⟨vp,rfl,HJ,Ha⟩;rw[show zwK 1 6=[1,4,1]from by decide]at HJ;have J5:=OwnI.is HJ;obtain⟨Ap,cp,rfl,_,_⟩:=xO J5;obtain⟨_,bp,op,rfl,hc⟩:=Is.at_ J5 (by decide);have HW:Hid (w1.cell? ⟨bp,op,O⟩=L (E F 1)):=hc 0 (by decide);have Kq:Hid (w1.cell? ⟨bp,op+1,O⟩=L (E F 4)):=hc 1 (by decide);have Kr:Hid (w1.cell? ⟨bp,op+2,O⟩=L (E F 1)):=hc 2 (by decide);have Hz:=I Ha;clear Ha HJ J5 hc;dsimp only[List.length_cons,P1,Nat.reduceAdd];go_wp2_with fail
 refine(yaD _ (D.ext Hz)).mono ?_;rintro e d⟨u,rfl,f,Y⟩;obtain⟨A2,c2,B2,e2,rfl⟩:=zwZ f;obtain⟨w3,JT,HO,HU,hb,hl⟩:=zyu d 25 54 #[G A2 d14A.fs.length c2,G B2 d14A.q.length e2,E F d14A.quota,E F d14A.fuse,J d14A.dead] #[E F 1,E F 0,E F 0,E F 1,E F 0,E F 0,E F 1,E F 0,E F 0,E F 1,E F 0,E F 0,E F 1,E F 0,E F 0];have KK:=I (xT (xT Hz Y) HO);have KF:=I (f.ext HO);have KD:=I hb;have KO:Hid (Blk w3 (d.heap.size+1) 54 c14):=I hl;have JU:w.heap.size<=d.heap.size:=(xT Hz Y).size;have JX:bp<d.heap.size:=P2 (World.block_lt_of_cell? w1 _ HW) Y.size;have HW:=I ((xT Y HO).cell HW);have Kq:=I ((xT Y HO).cell Kq);have Kr:=I ((xT Y HO).cell Kr);obtain⟨k,l,o,p,r⟩:=ae hb;clear Y HO f hb hl Hz HU;go_wp2_with fail
 refine(yay _ _ _ (D.ext KK) KF (yaz KO)).mono ?_;rintro e w4⟨u,rfl,Km,J2⟩;obtain⟨A4,c4,B4,e4,rfl⟩:=zwZ Km;obtain⟨w5,Jz⟩:∃X,w4.alloc (N #[G A4 d14A.fs.length c4,G B4 d14A.q.length e4,E F d14A.quota,E F d14A.fuse,J d14A.dead] 25)=X:=⟨_,rfl⟩;have Y:Ext w3 w5:=by rw[<-Jz];exact xA J2 _
 have KL:=I (xT KK Y);have Jh:=I (KF.ext Y);have KE:=I (KD.ext Y);have KP:=I (KO.ext Y);have HY:=I (Y.cell HW);have K3:=I (Y.cell Kq);have K7:=I (Y.cell Kr);have G0:d.heap.size<w4.heap.size:=P2 KD.lt J2.size;clear Y J2 Km k l o p r KK KF KD KO HW Kq Kr JT;obtain⟨k,l,o,p,r⟩:=ae KE;go_wp2_with fail
 refine(ybh _ _ (D.ext KL) Jh).mono ?_;rintro e w6⟨⟨u,rfl,HH⟩,V⟩;obtain⟨Q,Z,T,e6,rfl⟩:=zwZ HH;have Y:=KE.ext V;have ea:=aH Y;obtain⟨w7,Kw⟩:∃X,aK w6 d.heap.size (G Q d14B.fs.length Z) (G T d14B.q.length e6) (E F d14B.quota) (E F d14B.fuse) (J d14B.dead)=X:=⟨_,rfl⟩;have Ku:=aT Y (G Q d14B.fs.length Z) (G T d14B.q.length e6) (E F d14B.quota) (E F d14B.fuse) (J d14B.dead);have J4:=zwP Y HH (G Q d14B.fs.length Z) (G T d14B.q.length e6) (E F d14B.quota) (E F d14B.fuse) (J d14B.dead);have HB:=aS (xT KL V) JU (G Q d14B.fs.length Z) (G T d14B.q.length e6) (E F d14B.quota) (E F d14B.fuse) (J d14B.dead);have J6:=eS (KP.ext V) (by omega:d.heap.size+1≠d.heap.size) (G Q d14B.fs.length Z) (G T d14B.q.length e6) (E F d14B.quota) (E F d14B.fuse) (J d14B.dead);have J7:=nR (V.cell HY) (show bp≠d.heap.size by omega) (G Q d14B.fs.length Z) (G T d14B.q.length e6) (E F d14B.quota) (E F d14B.fuse) (J d14B.dead);have J8:=nR (V.cell K3) (show bp≠d.heap.size by omega) (G Q d14B.fs.length Z) (G T d14B.q.length e6) (E F d14B.quota) (E F d14B.fuse) (J d14B.dead);have J9:=nR (V.cell K7) (show bp≠d.heap.size by omega) (G Q d14B.fs.length Z) (G T d14B.q.length e6) (E F d14B.quota) (E F d14B.fuse) (J d14B.dead);have G1:d.heap.size+1<w6.heap.size:=(KP.ext V).lt;rw[Kw]at J4 HB J6 J7 J8 J9;unfold aK at Kw;rw[Kw]at Ku;have JD:=I Ku;have Ji:=I J4;have KM:=I HB;have KQ:=I J6;have K0:=I J7;have K4:=I J8;have K8:=I J9;have eb:=ae Y;have ec:=ae Ku;clear Y Ku J4 HB J6 J7 J8 J9 HH V KL Jh KE KP HY K3 K7 k l o p r Jz;go_wp2_with fail
 refine(ybm _ _ _ (D.ext KM) Ji (yaz KQ)).mono ?_;rintro e t⟨u,rfl,HI,HQ⟩;obtain⟨A8,c8,B8,e8,rfl⟩:=zwZ HI;obtain⟨T,Jb⟩:∃X,t.alloc (N #[G A8 d14D.fs.length c8,G B8 d14D.q.length e8,E F d14D.quota,E F d14D.fuse,J d14D.dead] 25)=X:=⟨_,rfl⟩;have Q:Ext t T:=by rw[<-Jb];exact xA (xR _) _
 have KY:=I (show Blk T t.heap.size 25 #[G A8 d14D.fs.length c8,G B8 d14D.q.length e8,E F d14D.quota,E F d14D.fuse,J d14D.dead] by rw[<-Jb];exact P0 t _ _);have KH:=I (HI.ext Q);have KN:=I (xT KM (xT HQ Q));have Jk:=I (KQ.ext (xT HQ Q));have K1:=I ((xT HQ Q).cell K0);have K5:=I ((xT HQ Q).cell K4);have K9:=I ((xT HQ Q).cell K8);clear HQ Q HI KM KQ K0 K4 K8 JD Ji Kw ea eb ec;obtain⟨k,l,o,p,r⟩:=ae KY;go_wp2_with fail
 refine(ybe _ _ (D.ext KN) KH).mono ?_;rintro e Jd⟨Je,Jm,Jf,Jn,rfl,Z⟩;obtain⟨H0,Ja,Kc,Jc,Y,V⟩:=zyu Jd 44 30 #[E F 0,E F 0,E F 0,E F 1,J false,G Je 5 Jm,E F 1,E F 0] #[E F 3,E F 1,E F 0,E F 0,E F 0,G Jf 2 Jn];have Q:=xT Z Kc;have Hq:=I (KY.ext Q);have H7:=I (KH.ext Q);have Hb:=I (xT KN Q);have T:=I (Jk.ext Q);have HX:=I (Q.cell K1);have K2:=I (Q.cell K5);have K6:=I (Q.cell K9);have KV:=I Y;have KR:=I V;clear Q Z Kc Y V KY KH KN Jk K1 K5 K9 k l o p r Jb Jc;obtain⟨k,l,o,p,r⟩:=ae Hq;have Q:∀W,Ext H0 W->W.cell? ⟨t.heap.size,0,O⟩=L (G A8 d14D.fs.length c8)/\W.cell? ⟨t.heap.size,1,O⟩=L (G B8 d14D.q.length e8)/\W.cell? ⟨t.heap.size,2,O⟩=L (E F d14D.quota)/\W.cell? ⟨t.heap.size,3,O⟩=L (E F d14D.fuse)/\W.cell? ⟨t.heap.size,4,O⟩=L (J d14D.dead)/\W.cell? ⟨d.heap.size+1,0,O⟩=L (E F 1)/\W.cell? ⟨d.heap.size+1,1,O⟩=L (E F 0)/\W.cell? ⟨d.heap.size+1,2,O⟩=L (E F 0):=λW h=>by
  obtain⟨k,l,o,p,r⟩:=ae (Hq.ext h);exact⟨k,l,o,p,r,(T.ext h).cell 0 rfl,(T.ext h).cell 1 rfl,(T.ext h).cell 2 rfl⟩
 have Hk:=I Q;clear Q;go_wp2_with fail;clear k l o p r Ja;refine wp_region_held_drew (S:=λW=>W.cell? ⟨t.heap.size,0,O⟩=L (G A8 d14D.fs.length c8)/\W.cell? ⟨t.heap.size,1,O⟩=L (G B8 d14D.q.length e8)/\W.cell? ⟨t.heap.size,2,O⟩=L (E F d14D.quota)/\W.cell? ⟨t.heap.size,3,O⟩=L (E F d14D.fuse)/\W.cell? ⟨t.heap.size,4,O⟩=L (J d14D.dead)/\W.cell? ⟨d.heap.size+1,0,O⟩=L (E F 1)/\W.cell? ⟨d.heap.size+1,1,O⟩=L (E F 0)/\W.cell? ⟨d.heap.size+1,2,O⟩=L (E F 0)) (by kernel_rfl) (Hk _ (xD (xR _))) (λ_=>?_);refine ab 0 ?_;refine ab 1 ?_;refine ab 2 ?_;refine ab 3 ?_;refine AllReadyH.two (i:=4) (j:=10) rfl rfl (by kernel_rfl) (by rfl) (by rfl) (λK a=>?_) (λK a=>?_)
 case' refine_2=>
  go_simp;have HD:Ext H0 ((H0.alloc (N #[G none 0 0,G none 0 0,E F 0,E F 0,J false] 25))).drew:=xD (xA (xR _) _);have Kl:Blk ((H0.alloc (N #[G none 0 0,G none 0 0,E F 0,E F 0,J false] 25))).drew H0.heap.size 25 #[G none 0 0,G none 0 0,E F 0,E F 0,J false]:=(P0 H0 25 #[G none 0 0,G none 0 0,E F 0,E F 0,J false]).ext (xD (xR _));refine af a _ _ (Hk _ HD) (λ_=>?_);refine ah 4 (λK a=>?_);go_simp;have HE:Ext ((H0.alloc (N #[G none 0 0,G none 0 0,E F 0,E F 0,J false] 25))).drew (((H0.alloc (N #[G none 0 0,G none 0 0,E F 0,E F 0,J false] 25))).alloc (N #[E F 1,E F 0,E F 0] 54)).drew:=xA (xR ((H0.alloc (N #[G none 0 0,G none 0 0,E F 0,E F 0,J false] 25))).drew) (N #[E F 1,E F 0,E F 0] 54);have Kj:Blk (((H0.alloc (N #[G none 0 0,G none 0 0,E F 0,E F 0,J false] 25))).alloc (N #[E F 1,E F 0,E F 0] 54)).drew (H0.heap.size+1) 54 #[E F 1,E F 0,E F 0]:=by
   have:=P0 ((H0.alloc (N #[G none 0 0,G none 0 0,E F 0,E F 0,J false] 25))) 54 #[E F 1,E F 0,E F 0];rw[show((H0.alloc (N #[G none 0 0,G none 0 0,E F 0,E F 0,J false] 25))).heap.size=H0.heap.size+1 from xS _ _]at this;exact this.ext (xD (xR _))
  have P:=I (xT HD HE);have Hy:=I (Kl.ext HE);have Hx:=I Kj;clear HE Kl HD Kj;refine af a _ _ (Hk _ P) (λ_=>?_);refine ah 5 (λK a=>?_);go_simp;refine(zyb _ _ _ (D.ext (xT Hb P)) (H7.ext P) (zy5 Hx)).mono ?_;rintro en w12⟨u,rfl,f,H4⟩;obtain⟨x,z,y,C,rfl⟩:=zwZ f;have H3:=I (xT P H4);have U:=I f;have H:=I (Hy.ext H4);clear f H4;refine af a _ _ (Hk _ H3) (λ_=>?_);refine ab 6 ?_;refine ab 7 ?_;refine ab 8 ?_;refine ab 9 ?_;have eb:=ae H;have ea:=aH H;refine ah 11 (λK a=>?_);go_simp;obtain⟨bY,HT⟩:∃b,H0.heap.size=b:=⟨_,rfl⟩;obtain⟨wY,g⟩:∃X,aK w12 (H0.heap.size) (G x d14E.fs.length z) (G y d14E.q.length C) (E F d14E.quota) (E F d14E.fuse) (J d14E.dead)=X:=⟨_,rfl⟩;have h1:=aT H (G x d14E.fs.length z) (G y d14E.q.length C) (E F d14E.quota) (E F d14E.fuse) (J d14E.dead);have h2:=zwP (A:=none) (n:=0) (c:=0) (B:=none) (m:=0) (e:=0) H U (G x d14E.fs.length z) (G y d14E.q.length C) (E F d14E.quota) (E F d14E.fuse) (J d14E.dead);have h3:=aS H3 (by omega:H0.heap.size<=H0.heap.size) (G x d14E.fs.length z) (G y d14E.q.length C) (E F d14E.quota) (E F d14E.fuse) (J d14E.dead);rw[g]at h2 h3;unfold aK at g;rw[g]at h1⊢;rw[HT]at h1⊢;have J0:=I h1;have J1:=I h2;have s:=I h3;clear h1 h2 h3 g H U H3 ea eb;refine af a _ _ (Hk _ s) (λ_=>?_);refine ab 12 ?_;refine ab 13 ?_;refine aq ?_
 case' refine_1=>
  go_simp;have HD:Ext H0 (H0.alloc (N #[E F 1,E F 0,E F 0] 54)).drew:=xD (xA (xR _) _);have Kj:Blk (H0.alloc (N #[E F 1,E F 0,E F 0] 54)).drew H0.heap.size 54 #[E F 1,E F 0,E F 0]:=(P0 H0 54 #[E F 1,E F 0,E F 0]).ext (xD (xR _));have Kp:=I HD;have Jg:=I Kj;clear Kj;refine af a _ _ (Hk _ HD) (λ_=>?_);clear HD;refine AllReadyH.two (i:=5) (j:=10) rfl rfl (by kernel_rfl) (by rfl) (by rfl) (λK a=>?_) (λK a=>?_)
 case' refine_1.refine_1=>
  go_simp;refine(zyb _ _ _ (D.ext (xT Hb Kp)) (H7.ext Kp) (zy5 Jg)).mono ?_;rintro en w12⟨u,rfl,f,H4⟩;obtain⟨x,z,y,C,rfl⟩:=zwZ f;have H3:=I (xT Kp H4);have U:=I f;clear f H4;refine af a _ _ (Hk _ H3) (λ_=>?_);refine ab 6 ?_;refine ab 7 ?_;refine ab 8 ?_;refine ab 9 ?_;refine ah 10 (λK a=>?_);go_simp;refine af a _ _ (Hk _ (xT H3 (xA (xR w12) (N #[G none 0 0,G none 0 0,E F 0,E F 0,J false] 25)))) (λ_=>?_);refine ah 11 (λK a=>?_);go_simp;obtain⟨bY,HT⟩:∃b,w12.heap.size=b:=⟨_,rfl⟩;obtain⟨wY,g⟩:∃X,w12.alloc (N #[G x d14E.fs.length z,G y d14E.q.length C,E F d14E.quota,E F d14E.fuse,J d14E.dead] 25)=X:=⟨_,rfl⟩;have J0:=I (show Blk wY bY 25 #[G x d14E.fs.length z,G y d14E.q.length C,E F d14E.quota,E F d14E.fuse,J d14E.dead] by rw[<-g,<-HT];exact P0 w12 _ _);have J1:=I (show DkV wY (R #[G x d14E.fs.length z,G y d14E.q.length C,E F d14E.quota,E F d14E.fuse,J d14E.dead]) d14E by rw[<-g];exact U.ext (xA (xR _) _));have s:=I (show Ext H0 wY by rw[<-g];exact xA H3 _);rw[g,HT];clear g U H3;refine af a _ _ (Hk _ s) (λ_=>?_);refine ab 12 ?_;refine ab 13 ?_;refine aq ?_
 case' refine_1.refine_2=>
  go_simp;have HE:Ext (H0.alloc (N #[E F 1,E F 0,E F 0] 54)).drew ((H0.alloc (N #[E F 1,E F 0,E F 0] 54)).drew.alloc (N #[G none 0 0,G none 0 0,E F 0,E F 0,J false] 25)):=xA (xR _) _;have Kl:Blk ((H0.alloc (N #[E F 1,E F 0,E F 0] 54)).drew.alloc (N #[G none 0 0,G none 0 0,E F 0,E F 0,J false] 25)) (H0.heap.size+1) 25 #[G none 0 0,G none 0 0,E F 0,E F 0,J false]:=by
   have:=P0 (H0.alloc (N #[E F 1,E F 0,E F 0] 54)).drew 25 #[G none 0 0,G none 0 0,E F 0,E F 0,J false];rwa[show((H0.alloc (N #[E F 1,E F 0,E F 0] 54)).drew).heap.size=H0.heap.size+1 from xS _ _]at this
  have P:=I (xT Kp HE);have Hy:=I Kl;have Hx:=I (Jg.ext HE);clear HE Kl;refine af a _ _ (Hk _ P) (λ_=>?_);refine ah 5 (λK a=>?_);go_simp;refine(zyb _ _ _ (D.ext (xT Hb P)) (H7.ext P) (zy5 Hx)).mono ?_;rintro en w12⟨u,rfl,f,H4⟩;obtain⟨x,z,y,C,rfl⟩:=zwZ f;have H3:=I (xT P H4);have U:=I f;have H:=I (Hy.ext H4);clear f H4;refine af a _ _ (Hk _ H3) (λ_=>?_);refine ab 6 ?_;refine ab 7 ?_;refine ab 8 ?_;refine ab 9 ?_;have eb:=ae H;have ea:=aH H;refine ah 11 (λK a=>?_);go_simp;obtain⟨bY,HT⟩:∃b,H0.heap.size+1=b:=⟨_,rfl⟩;obtain⟨wY,g⟩:∃X,aK w12 (H0.heap.size+1) (G x d14E.fs.length z) (G y d14E.q.length C) (E F d14E.quota) (E F d14E.fuse) (J d14E.dead)=X:=⟨_,rfl⟩;have h1:=aT H (G x d14E.fs.length z) (G y d14E.q.length C) (E F d14E.quota) (E F d14E.fuse) (J d14E.dead);have h2:=zwP (A:=none) (n:=0) (c:=0) (B:=none) (m:=0) (e:=0) H U (G x d14E.fs.length z) (G y d14E.q.length C) (E F d14E.quota) (E F d14E.fuse) (J d14E.dead);have h3:=aS H3 (by omega:H0.heap.size<=H0.heap.size+1) (G x d14E.fs.length z) (G y d14E.q.length C) (E F d14E.quota) (E F d14E.fuse) (J d14E.dead);rw[g]at h2 h3;unfold aK at g;rw[g]at h1⊢;rw[HT]at h1⊢;have J0:=I h1;have J1:=I h2;have s:=I h3;clear h1 h2 h3 g H U H3 ea eb;refine af a _ _ (Hk _ s) (λ_=>?_);refine ab 12 ?_;refine ab 13 ?_;refine aq ?_
 all_goals
  have d:zwW d14D m14D 2=3:=by kernel_rfl
  have a:zwW d14D m14D 1=0:=by kernel_rfl
  have f:zwW d14E zxj 1=3:=by kernel_rfl
  have a0:=s.cell HX;have a1:=s.cell K2;have a2:=s.cell K6;have JM:wY.cell? ⟨Jd.heap.size,5,O⟩=L (G Je 5 Jm):=(KV.ext s).cell 5 rfl;have JL:wY.cell? ⟨Jd.heap.size+1,5,O⟩=L (G Jf 2 Jn):=(KR.ext s).cell 5 rfl;obtain⟨k,l,o,p,r⟩:=ae (Hq.ext s);have HR:=I (And.intro d (And.intro a f));clear d a f;go_wp2_with fail
  refine(zzB 2 _ _ (D.ext (xT Hb s)) (H7.ext s)).mono ?_;rintro e G4⟨rfl,a⟩;rw[HR.out.1];have Ho:=I (xT s a);have KZ:=I (J0.ext a);have KW:=I (J1.ext a);clear a a0 a1 a2 JM JL k l o p r;obtain⟨k,l,o,p,r⟩:=ae (Hq.ext Ho);go_wp2_with fail
  refine(zzB 1 _ _ (D.ext (xT Hb Ho)) (H7.ext Ho)).mono ?_;rintro e a⟨rfl,a⟩;rw[HR.out.2.1];have HV:=I (xT Ho a);have d:=I (KW.ext a);clear k l o p r;obtain⟨k,l,o,p,r⟩:=ae (KZ.ext a);clear a;go_wp2_with fail
  refine(yaq _ _ (D.ext (xT Hb HV)) d).mono ?_;rintro e a⟨rfl,a⟩;rw[HR.out.2.2];have KI:=I (xT HV a);clear a k l o p r;go_wp2_with fail
  refine(zxs 4 0 _ (by decide)).mono ?_;rintro e a⟨v,rfl,HJ,Ke⟩;rw[show zwK 4 0=[]from by decide]at HJ;obtain⟨a,a,rfl,_,_⟩:=xO (OwnI.is HJ);have a:=I (xT Hb (xT KI Ke));clear HJ Ke;dsimp only[P1];go_wp2_with fail;go_ret;exact⟨rfl,a.out⟩
theorem zx8(a d:Int)(w:World)(z:StW w)(U:-9223372036854775808<=a/\a<=9223372036854775807)(Q:-9223372036854775808<=d):Calls M 5 #[E F a,E F d] w λe w'=>e=.returned (J true)/\Ext w w':=by
 have r:=I z;clear z;by_cases hm:500<d
 case pos=>
  go_enter func5,ntmps5
  go_wp2_with fail
  refine(zxN _ r).mono ?_;rintro e B⟨rfl,m⟩;go_wp2_with fail;go_ret;exact⟨rfl,m⟩
 case neg=>
  go_enter func5,ntmps5
  go_wp2_with fail
  refine(zxs a d _ (by omega)).mono ?_;rintro e B⟨v,rfl,q,m⟩;have Kn:=zy7 a d;have t:=zy8 a d;obtain⟨A,c,rfl,_,_⟩:=xO (xW q);have G:=I (xW q);have s:=I m;have C:=I Kn;have H:=I t;clear q m Kn t;go_wp2_with fail
  go_loop [6,7] (λn i=>∃k:Nat,k<=(zwK a d).length/\i=E F k/\n=E F (((zwK a d).take k).sum)) (λ_ i=>(zwK a d).length-(intOf i).toNat)
  case atStart=>exact⟨0,Nat.zero_le _,rfl,rfl⟩
  case round=>
   obtain⟨k,hk,rfl,rfl⟩:=hrel;by_cases f:k<(zwK a d).length
   ·obtain⟨_,b,P,rfl,hc⟩:=Is.at_ (show Is B _ (zwK a d)from G.out) (by omega);have O:=hc k f;obtain⟨S,T,y⟩:=zyi a d k _ (List.getElem?_eq_getElem f);have hs:=zz0 a d k f;obtain⟨L,N⟩:=ybg a d k;have hl:=C.out;have R:zwV a k<=4:=by unfold zwV;split<;>omega
    have p:=I hs;have o:=I y;clear hc hs y;generalize(zwK a d)[k]=x at *;by_cases j:k=0
    ·subst j;simp only[Nat.add_zero,List.take_zero,List.sum_nil]at O L N⊢;by_cases l:0<a
     ·have g:zwV a 0=min a 4:=by unfold zwV;rw[if_pos ⟨rfl,l⟩]
      go_wp2_with fail
      all_goals first
       |(exfalso;have h3:=o.out;rw[g]at h3;omega)
       |exact⟨⟨0+1,by omega,rfl,by rw[p.out];simp⟩,by simp[intOf];omega⟩
     have g:zwV a 0=4:=by unfold zwV;rw[if_neg (λh=>l h.2)]
     go_wp2_with fail
     all_goals first
      |(exfalso;have h3:=o.out;rw[g]at h3;omega)
      |exact⟨⟨0+1,by omega,rfl,by rw[p.out];simp⟩,by simp[intOf];omega⟩
    have g:zwV a k=4:=by unfold zwV;rw[if_neg (λh=>j h.1)]
    go_wp2_with fail
    all_goals first
     |(exfalso;have h3:=o.out;rw[g]at h3;omega)
     |exact⟨⟨k+1,by omega,rfl,by rw[p.out]⟩,by simp[intOf];omega⟩
   ·have K:k=(zwK a d).length:=by omega
    subst K;have hs:((zwK a d).take (zwK a d).length).sum=max d 0:=by rw[List.take_length];exact H.out
    rw[hs];clear hs;go_wp2_with (go_at_call 27;refine(zxN _ (r.out.ext s)).mono ?_;rintro e V⟨rfl,D⟩)
    go_ret;exact⟨rfl,xT s D⟩
