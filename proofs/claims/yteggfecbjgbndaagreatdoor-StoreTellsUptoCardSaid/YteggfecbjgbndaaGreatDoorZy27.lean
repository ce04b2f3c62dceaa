/- Merged -/
import Derived.Test.YteggfecbjgbndaaGreatDoorZy26
set_option linter.all false
set_option maxHeartbeats 8000000
set_option maxRecDepth 100000
open Go.Value renaming slice->C,int->D,bool->G
open Go.IntKind renaming i64->E
open Go.Mv renaming aN->F
open Option renaming none->H,some->I
namespace Go.Proofs.YteggfecbjgbndaaGreatDoor
open Go.RowKit Go.Mv Go.Shelf
theorem mcDRighta0{P:Prop}(h:P:=by
 refine ab 15 ?_;refine ab 16 ?_;refine ag 17 ?_;refine ag 18 ?_;refine ag 19 ?_;refine ag 20 ?_;refine ag 21 ?_;refine ab 22 ?_;refine ab 23 ?_;refine aq ?_;go_wp2_with fail;go_ret;exact⟨rfl,xD H2.out⟩):P:=h
theorem N2{l n:List UInt8}(h:ltB l n=true):Op.bytesLess n l=false/\(n==l)=false:=by
 constructor
 ·rw[Bool.eq_false_iff];intro h2;have:=qY h h2;rw[qO]at this;cases this
 ·simpa using(sj h).symm
theorem L6{l n:List UInt8}(h:ltB l n=false):(Op.bytesLess n l||n==l)=true:=by
 by_cases he:n=l
 ·simp[he]
 ·rw[show Op.bytesLess n l=true from Bz h (Ne.symm he)];rfl
structure RiI (w:World) (d:Dk) (b:Nat) (cs:Array Value) (l:List UInt8) (k:Nat) (W:World):Prop where
 ri:dj [] d.fs=dj l (d.fs.drop k)
 bl:Blk W b 25 cs
 e:Ext w W
theorem FR(v:Value)(d:Dk)(w:World)(hD:DkV w v d)(Hg:d.fs.length<=2000000)(Hc:d.q.length<=2000000)(hb:tot d.fs+aL d.q<=70000000):
  Calls Tryz.prog 221 #[v] w λe w'=>e=.returned (G d.right)/\Ext w w':=by
 obtain⟨vf,vq,rfl,T,U⟩:=hD;obtain⟨A,c,rfl,_,_⟩:=Fs.open_ T;obtain⟨B,e2,rfl,_,_⟩:=Qs.open_ U;have H3:Ext w (w.alloc (.cells #[C A d.fs.length c,C B d.q.length e2,D E d.quota,D E d.fuse,G d.dead] 25)):=xA (xR _) _;have O:=Blk.new w 25 #[C A d.fs.length c,C B d.q.length e2,D E d.quota,D E d.fuse,G d.dead];have Y:=F T;have Z:=F U;have HB:=F hb;have g:=F (show RiI w d w.heap.size #[C A d.fs.length c,C B d.q.length e2,D E d.quota,D E d.fuse,G d.dead] [] 0 _ from⟨rfl,O,H3⟩);obtain⟨R,V⟩:∃R,d.right=R:=⟨_,rfl⟩;have P:=F V;rw[V];clear T U hb H3 V;obtain⟨j,m,o,p,r⟩:=ae O;clear O;go_enter Tryz.func221,Tryz.ntmps221
 go_wp2_with fail;clear j m o p r;go_loopw [3,10] (λvl i wr=>∃(k:Nat) (l:List UInt8),k<=d.fs.length/\i=D E k/\vl=.string ⟨l.toArray⟩/\Hid (RiI w d w.heap.size #[C A d.fs.length c,C B d.q.length e2,D E d.quota,D E d.fuse,G d.dead] l k wr)) (λ_ i _=>d.fs.length-(intOf i).toNat)
 case atStart=>exact⟨0,[],Nat.zero_le _,rfl,rfl,g⟩
 case round=>
  clear g;obtain⟨k,l,hk,rfl,rfl,g⟩:=hrel;by_cases J:k<d.fs.length
  ·obtain⟨_,b,Hq,rfl,hc⟩:=(Y.out.ext g.out.e).at_ (by omega);obtain⟨Hn,B2,d2,Ho,_⟩:=hc k J;have t:=g.out.ri;rw[List.drop_eq_getElem_cons J,dj]at t;have H8:=F t;have z:=F g.out.bl;have y:=F g.out.e;clear hc t g;generalize d.fs[k]=x at *;obtain⟨n,bb⟩:=x;dsimp only at *;have HX:=F (Blk.new wr 68 #[sv n,C B2 bb.length d2]);obtain⟨x0,x1⟩:=iF HX.out;simp only[sv]at *;cases a:ltB l n with
   |false=>
    have Hl:=L6 a;have hf:false=R:=by
     rw[<-P.out];unfold Dk.right;rw[H8.out,a];rfl
    subst hf;clear a;go_wp2_with fail;go_ret;exact⟨rfl,xA y.out _⟩
   |true=>
    obtain⟨Hl,Hp⟩:=N2 a;have Hd:=F (show dj [] d.fs=dj n (d.fs.drop (k+1))from by rw[H8.out,a,Bool.true_and]);clear a;go_wp2_with fail
    go_roundw
    case rel=>exact⟨k+1,n,by omega,by go_num,rfl,⟨Hd.out,z.out.alloc _,xA y.out _⟩⟩
    case measure=>simp[intOf];omega
  ·obtain rfl:k=d.fs.length:=by omega
   have t:=g.out.ri;rw[List.drop_length,dj]at t;have H8:=F t;have z:=F g.out.bl;have y:=F g.out.e;clear g t;obtain⟨j,m,o,p,r⟩:=ae z.out;go_wp2_with fail
   refine(Cz _ d.q _ (Z.out.ext y.out) Hc).mono ?_;rintro e w1⟨rfl,N⟩;clear j m o p r;have Ha:=F (z.out.ext N);have H2:=F (xT y.out N);clear z y N;obtain⟨j,m,o,p,r⟩:=ae Ha.out;have M:=F (show(d.q.all bO&&decide (d.q.length<=400)&&decide (0<=d.quota)&&decide (0<=d.fuse)&&decide ((tot d.now:Int)<=d.quota))=R from by rw[<-P.out];unfold Dk.right;rw[H8.out,Bool.true_and]);clear P H8;cases f:d.q.all bO with
   |false=>
    have hf:false=R:=by rw[<-M.out,f];rfl
    subst hf;clear M f;go_wp2_with fail
    refine wp_region_held_drew (S:=λW=>W.cell? ⟨w.heap.size,0,H⟩=I (C A d.fs.length c)/\W.cell? ⟨w.heap.size,1,H⟩=I (C B d.q.length e2)/\W.cell? ⟨w.heap.size,2,H⟩=I (D E d.quota)/\W.cell? ⟨w.heap.size,3,H⟩=I (D E d.fuse)/\W.cell? ⟨w.heap.size,4,H⟩=I (G d.dead)) (by kernel_rfl) ⟨j,m,o,p,r⟩ (λ_=>?_);refine ab 0 ?_;refine ab 1 ?_;refine ab 2 ?_;refine ag 3 ?_;refine ag 4 ?_;refine ag 5 ?_;refine ag 6 ?_;refine ab 7 ?_;refine ab 8 ?_;refine ag 9 ?_;refine ag 10 ?_;refine ag 11 ?_;refine ag 12 ?_;refine ag 13 ?_;refine ag 14 ?_;exact mcDRighta0
   |true=>
    have L:=F (show(decide (d.q.length<=400)&&decide (0<=d.quota)&&decide (0<=d.fuse)&&decide ((tot d.now:Int)<=d.quota))=R from by rw[<-M.out,f,Bool.true_and]);clear M f;go_wp2_with fail
    refine wp_region_held_drew (S:=λW=>W.cell? ⟨w.heap.size,0,H⟩=I (C A d.fs.length c)/\W.cell? ⟨w.heap.size,1,H⟩=I (C B d.q.length e2)/\W.cell? ⟨w.heap.size,2,H⟩=I (D E d.quota)/\W.cell? ⟨w.heap.size,3,H⟩=I (D E d.fuse)/\W.cell? ⟨w.heap.size,4,H⟩=I (G d.dead)) (by kernel_rfl) ⟨j,m,o,p,r⟩ (λ_=>?_);by_cases h4:d.q.length<=400
    case neg=>
     have Hk:decide (((d.q.length:Nat):Int)<=400)=false:=by simp;omega
     have hf:false=R:=by rw[<-L.out];simp[h4]
     subst hf;clear L h4;refine ab 0 ?_;refine ab 1 ?_;refine ab 2 ?_;refine ab 3 ?_;refine ab 4 ?_;refine ab 5 ?_;refine ab 6 ?_;refine ab 7 ?_;refine ab 8 ?_;refine ag 9 ?_;refine ag 10 ?_;refine ag 11 ?_;refine ag 12 ?_;refine ag 13 ?_;refine ag 14 ?_;exact mcDRighta0
    have Hk:decide (((d.q.length:Nat):Int)<=400)=true:=by simp;omega
    have H1:=F (show(decide (0<=d.quota)&&decide (0<=d.fuse)&&decide ((tot d.now:Int)<=d.quota))=R from by rw[<-L.out];simp[h4]);clear L h4;by_cases s:0<=min d.quota d.fuse
    case neg=>
     have Hm:decide (0<=min d.quota d.fuse)=false:=by simpa using s
     have hf:false=R:=by
      rw[<-H1.out];by_cases h1:0<=d.quota
      ·have h2:¬0<=d.fuse:=by omega
       simp[h2]
      simp[h1]
     subst hf;clear H1 s;refine ab 0 ?_;refine ab 1 ?_;refine ab 2 ?_;refine ab 3 ?_;refine ab 4 ?_;refine ab 5 ?_;refine ab 6 ?_;refine ab 7 ?_;refine ab 8 ?_;refine ab 9 ?_;refine ab 10 ?_;refine ab 11 ?_;refine ab 12 ?_;refine ab 13 ?_;refine ab 14 ?_;exact mcDRighta0
    have Hm:decide (0<=min d.quota d.fuse)=true:=by simpa using s
    have He:=F (show decide ((tot d.now:Int)<=d.quota)=R from by
     rw[<-H1.out];have h1:0<=d.quota:=by omega
     have h2:0<=d.fuse:=by omega
     simp[h1,h2])
    clear H1 s;refine ab 0 ?_;refine ab 1 ?_;refine ab 2 ?_;refine ab 3 ?_;refine ab 4 ?_;refine ab 5 ?_;refine ab 6 ?_;refine ab 7 ?_;refine ab 8 ?_;refine ab 9 ?_;refine ab 10 ?_;refine ab 11 ?_;refine ab 12 ?_;refine ab 13 ?_;refine ab 14 ?_;refine ab 15 ?_;refine ab 16 ?_;refine ab 17 ?_;refine ab 19 ?_;refine ab 20 ?_;refine ah 18 (λK hK=>?_);go_simp;refine(Mo _ d _ (show DkV _ _ d from⟨_,_,rfl,Y.out.ext (xD H2.out),Z.out.ext (xD H2.out)⟩) Hg Hc HB.out).mono ?_;rintro e w2⟨rfl,X⟩;have Q:=xT (xD (xR _)) X;have Hj:=F (xT H2.out Q);clear j m o p r;obtain⟨j,m,o,p,r⟩:=ae (Ha.out.ext Q);clear Q X;refine af hK _ _ ⟨j,m,o,p,r⟩ (λ_=>?_);refine ab 21 ?_;refine ab 22 ?_;refine ab 23 ?_;refine aq ?_;go_wp2_with fail;go_ret;exact⟨by rw[<-He.out];rfl,Hj.out⟩
theorem L9(v:Value)(d:Dk)(w:World)(hD:DkV w v d)(l:d.fs.length<=2000000)(k:d.q.length<=2000000)(hb:tot d.fs+aL d.q<=70000000):
  Calls Tryz.prog 171 #[v] w λe w'=>e=.returned (D E d.may)/\Ext w w':=by
 obtain⟨h,h,rfl,i,j⟩:=hD;obtain⟨A,c,rfl,_,_⟩:=Fs.open_ i;obtain⟨B,e2,rfl,_,_⟩:=Qs.open_ j;have H3:Ext w (w.alloc (.cells #[C A d.fs.length c,C B d.q.length e2,D E d.quota,D E d.fuse,G d.dead] 25)):=xA (xR _) _;have h:=Blk.new w 25 #[C A d.fs.length c,C B d.q.length e2,D E d.quota,D E d.fuse,G d.dead];have HC:=F (FR _ d _ (show DkV _ _ d from⟨_,_,rfl,i.ext H3,j.ext H3⟩) l k hb);have n:=F H3;have m:=F h;obtain⟨M,i⟩:∃M,d.may=M:=⟨_,rfl⟩;rw[i];have b:=F i;obtain⟨o,p,r,s,f⟩:=ae h;go_enter Tryz.func171,Tryz.ntmps171
 go_wp2_with fail
 refine HC.mono ?_;rintro e h⟨rfl,h⟩;have i:=F (m.ext h);have a:=F (xT n h);obtain⟨o,p,r,s,f⟩:=ae i.out;cases g:d.right with
 |false=>
  have hm:(2:Int)=M:=by rw[<-b.out];unfold Dk.may;rw[if_pos g]
  subst hm;go_wp2_with fail;go_ret;exact⟨rfl,a.out⟩
 |true=>
  cases hd:d.dead with
  |true=>
   have hm:(40:Int)=M:=by rw[<-b.out];unfold Dk.may;rw[if_neg (by rw[g];simp),if_pos hd]
   subst hm;rw[hd]at f;go_wp2_with fail;go_ret;exact⟨rfl,a.out⟩
  |false=>
   have hm:(0:Int)=M:=by rw[<-b.out];unfold Dk.may;rw[if_neg (by rw[g];simp),if_neg (by rw[hd];simp)]
   subst hm;rw[hd]at f;go_wp2_with fail;go_ret;exact⟨rfl,a.out⟩
def iC(W:World)(b:Nat)(f:Int):World:=if 0<f then(W.setCell ⟨b,3,H⟩ (D E (f-1))).setCell ⟨b,4,H⟩ (G (f-1==0))else W
theorem AV(b:Nat)(d g:Value)(q f:Int)(c:Bool)(w:World)(a:Blk w b 25 #[d,g,D E q,D E f,G c])(hf:f<=9223372036854775807):
  Calls Tryz.prog 174 #[.pointer (I ⟨b,0,H⟩)] w λe w'=>e=.returned (.tuple #[])/\iC w b f=w':=by
 obtain⟨c,c,c,c,c⟩:=ae a;have c:=a.frozen 3;have c:=a.frozen 4;unfold iC;by_cases a:0<f
 ·rw[if_pos a];have c:wrap64 (f-1)=f-1:=by unfold wrap64;omega
  go_enter Tryz.func174,Tryz.ntmps174
  go_wp2_with fail
  refine bodyPost_end (results_none rfl _ _ _) rfl ?_;exact⟨rfl,rfl⟩
 ·rw[if_neg a];go_enter Tryz.func174,Tryz.ntmps174
  go_wp2_with fail
  refine bodyPost_end (results_none rfl _ _ _) rfl ?_;exact⟨rfl,rfl⟩
