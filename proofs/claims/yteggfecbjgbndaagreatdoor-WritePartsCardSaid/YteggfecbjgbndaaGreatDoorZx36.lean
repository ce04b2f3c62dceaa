/- Merged -/
import Derived.Test.YteggfecbjgbndaaGreatDoorZx35
set_option linter.all false
set_option maxHeartbeats 8000000
set_option maxRecDepth 100000
open Go.Proofs.Tryz
open List renaming length->T
open Go.Value renaming slice->C,int->D,string->G,bool->M,pointer->O
open Go.IntKind renaming i64->E,u8->Q
open Go.Mv renaming aN->H
open Option renaming none->I,some->N
open Go.Obj renaming cells->J
open Go.Proofs.Tryz renaming prog->L
open List renaming take_succ_eq_append_getElem->P0,length_nil->P1,take_length->P2,drop_eq_getElem_cons->P3,not_mem_nil->P4,getElem_mem->P5,drop_length->P6,mem_cons->P7
open Go.Mv.Blk renaming new->P8
open Bool renaming true_and->P9,eq_iff_iff->Pa,false_and->Pb
open Nat renaming zero_add->Pc,zero_le->Pd
namespace Go.Proofs.YteggfecbjgbndaaGreatDoor
open Go.RowKit Go.Mv Go.Shelf
variable {fs:List Fil} {k:Nat}
theorem NU(tmps:Array Value)(W:World)(b:Nat)(cs:Array Value)(h4:tmps.getD 2 undef=O (N ⟨b,0,I⟩))(hb:Blk W b 25 cs)(hs:cs.size=5):(results Tryz.f54 tmps).run L W=.ok (.agg cs) W:=by
 have hl:=hb.load (P:=L) em rfl (by rw[hs];kernel_rfl);have a:tmps[2]?.getD undef=O (N ⟨b,0,I⟩):=by simpa using h4
 simp[results,results54,a,asAddr,hl]
theorem yd{α:Type}(l:List α)(h:k<=T l):T (l.take k)=k:=by rw[List.length_take];omega
theorem Mu{W:World}{base:Nat}{v:Value}{l:List Fil}(h:OwnF W base v l){n:List UInt8}{b:Nat}{u:Value}{bs:List UInt8}(c:OwnB W b u bs):∀g,v.ownBlock=N g->∀x∈[sv n,u],bF g x:=by
 intro g hg x hx;obtain⟨_,cs,a⟩:=ee h hg;simp only[P7,P4,or_false]at hx;rcases hx with rfl | rfl
 ·exact da _ _
 ·exact OwnB.awayT c a (by decide)
theorem yN(v:Value)(d:Dk)(w:World)(hD:DkV w v d)(hl:T d.fs+T d.q<=900000)(hb:tot d.fs+aL d.q<=900000):
  Calls L 54 #[v] w λe w'=>∃u,e=.returned u/\OwnDs w' w.heap.size u d/\Ext w w':=by
 obtain⟨X,X,rfl,hF,hQ⟩:=hD;obtain⟨A,c,rfl,_,_⟩:=Fs.open_ hF;obtain⟨B,e2,rfl,_,_⟩:=Qs.open_ hQ;obtain⟨y,X⟩:∃y,(w.alloc (J #[C A d.fs.length c,C B d.q.length e2,D E d.quota,D E d.fuse,M d.dead] 25)).alloc (J #[C none 0 0,C none 0 0,D E 0,D E 0,M false] 25)=y:=⟨_,rfl⟩;have Y:Ext w y:=by rw[<-X];exact xA (xA (xR _) _) _
 have h0:Blk y w.heap.size 25 (ap A d.fs.length c B d.q.length e2 d.quota d.fuse d.dead):=by rw[<-X];exact(P8 w _ _).alloc _
 have h1:Blk y (w.heap.size+1) 25 (ap none 0 0 none 0 0 0 0 false):=by
  rw[<-X];have:=P8 (w.alloc (J #[C A d.fs.length c,C B d.q.length e2,D E d.quota,D E d.fuse,M d.dead] 25)) 25 #[C none 0 0,C none 0 0,D E 0,D E 0,M false];rwa[xS]at this
 have KW:y.heap.size=w.heap.size+1+1:=by rw[<-X,xS,xS]
 have HG:=H Y;have H0:=H h0;have H1:=H h1;have HF:=H (hF.ext Y);have HQ:=H (hQ.ext Y);have HB:=H hb;have HL:=H hl;have Ju:=H KW;obtain⟨i0,hi,Ky,Js,Jt⟩:=info_parts sc;clear h0 h1 hF hQ Y hb hl KW;go_enter func54,ntmps54
 go_wp2_with fail;clear X;go_loopw [3,4] (λvl i wr=>∃j:Nat,j<=T d.fs/\i=D E j/\(∃A' c',vl=C A' j c')/\Hid (OwnF wr y.heap.size vl (d.fs.take j))/\Hid (Ext y wr)) (λ_ i _=>T d.fs-(intOf i).toNat)
 case atStart=>exact⟨0,Pd _,rfl,⟨_,_,rfl⟩,OwnX.nil _ _ _,xR _⟩
 case round=>
  obtain⟨j,hj,rfl,⟨A',c',rfl⟩,HO,z⟩:=hrel;obtain⟨s0,s1,_,_,_⟩:=ae H0;have d0:=z.cell s0;by_cases r:j<T d.fs
  ·obtain⟨_,b,O,rfl,hc⟩:=HF.at_ (by omega);obtain⟨t0,B1,KD,t1,X⟩:=hc j r;have K4:d.fs.take (j+1)=d.fs.take j++[d.fs[j]]:=P0 r;have Kq:=iW (P5 r);have HK:=H K4;have Kf:=H X;have Hc:=yd d.fs hj;have Ha:=H Hc;have Hb:T d.fs[j].2<=900000:=by have:=HB.out;omega
   have R:=H Hb;clear hc K4 X Kq Hc Hb;obtain⟨p,X⟩:∃p,d.fs[j]=p:=⟨_,rfl⟩;rw[X]at t0 t1 Kf HK R;obtain⟨n,Y⟩:=p;dsimp only at t0 t1 Kf R;have JB:(j:Int)<(T d.fs:Int):=by omega
   unfold sv at t0;clear X;have hold:∀X,Ext y X->X.cell? ⟨w.heap.size,0,I⟩=N (C (N ⟨b,O,I⟩) d.fs.length c)/\X.cell? ⟨b,O+j*2,I⟩=N (G ⟨n.toArray⟩)/\X.cell? ⟨b,O+j*2+1,I⟩=N (C B1 Y.length KD):=λX h=>⟨h.cell s0,h.cell t0,h.cell t1⟩;obtain⟨_,Hh,Hw⟩:=hold wr z;have Hj:=H hold;clear hold s0 s1 t0 t1;go_wp2_with fail
   refine wp_region_held_drew (S:=λW=>W.cell? ⟨w.heap.size,0,I⟩=N (C (N ⟨b,O,I⟩) d.fs.length c)/\W.cell? ⟨b,O+j*2,I⟩=N (G ⟨n.toArray⟩)/\W.cell? ⟨b,O+j*2+1,I⟩=N (C B1 Y.length KD)) (by kernel_rfl) ⟨d0,Hh,Hw⟩ (λ_=>?_);clear d0 Hh Hw;refine ab 0 ?_;refine ab 1 ?_;refine ab 2 ?_;refine ab 3 ?_;refine ab 4 ?_;refine ab 5 ?_;refine ab 6 ?_;refine ab 8 ?_;refine ab 9 ?_;refine ab 10 ?_;refine ab 11 ?_;refine ab 12 ?_;refine ab 13 ?_;refine ah 7 (λK X=>?_);go_simp;have K9:Ext wr (wr.alloc (J #[] 5)).drew:=xD (xA (xR _) _);have HZ:OwnB (wr.alloc (J #[] 5)).drew wr.heap.size (C (N ⟨wr.heap.size,0,I⟩) 0 0) []:=ai (iI wr) (xD (xR _));refine af X _ _ (Hj _ (xT z K9)) (λ_=>?_);refine ah 14 (λK X=>?_);refine rt (.tmp 22) (.tmp 28) rfl wr.heap.size _ [] rfl HZ _ Y rfl (Kf.ext (xT z K9)) (by have:=R.out;simp;omega) K9.size ?_;intro l m F Z Ka;have Hz:=Ka _ K9 (xN _);simp only[P1,Pc,xI]at Z⊢;refine af X _ _ (Hj _ (xT z Hz)) (λ_=>?_);refine ab 15 ?_;refine ah 16 (λK X=>?_);go_simp;have HU:Ext F (F.alloc (J #[G ⟨n.toArray⟩,C l Y.length m] 68)):=xA (xR _) _;have U:=xT Hz HU;have Jo:=iX (P8 F 68 #[G ⟨n.toArray⟩,C l Y.length m]);have HY:=ai Z HU;have K0:=OwnX.ext dz HO U;have Kb:=Mu (n:=n) K0 HY;refine af X _ _ (Hj _ (xT z U)) (λ_=>?_);refine ah 17 (λK X=>?_);refine Bf dz (.tmp 15) (.tmp 31) 22 rfl 68 i0 _ 40 underlying22 hi Ky Js Jt rfl (by decide) (by decide) y.heap.size _ (d.fs.take j) rfl K0 _ [(n,Y)] [sv n,C l Y.length m] rfl Jo (rz (xW HY)) (by simp) Kb (by rw[Ha.out];have:=HL.out;simp;omega) (xT z U).size ?_;intro Y Y Y Hx Y _;have V:=Y y (xT z U) (xN _);simp only[xC,P1,Pc,Ha.out]at Hx⊢;rw[<-HK.out]at Hx;refine af X _ _ (Hj _ V) (λ_=>?_);refine ab 18 ?_;refine aq ?_;go_wp2_with fail
   go_roundw
   case rel=>exact⟨j+1,by omega,by go_num,⟨_,_,rfl⟩,Hx,V⟩
   case measure=>simp[intOf];omega
  ·obtain rfl:j=T d.fs:=by omega
   rw[P2]at HO;have Y:=HO.out;have J8:=H Y;have X:=z.out;have KC:=H X;obtain⟨iq,Jn,Kv,Kw,Kx⟩:=info_parts mR;clear s0 Y X HO z;go_wp2_with fail
   go_loopw [5,6] (λvl i a=>∃k:Nat,k<=T d.q/\i=D E k/\(∃s t,vl=C s k t)/\Hid (OwnQ a wr.heap.size vl (d.q.take k))/\Hid (Ext wr a)) (λ_ i _=>T d.q-(intOf i).toNat)
   case atStart=>exact⟨0,Pd _,rfl,⟨_,_,rfl⟩,OwnX.nil _ _ _,xR _⟩
   case round=>
    rename World=>a
    clear d0;obtain⟨k,hk,rfl,⟨s,t,rfl⟩,HH,Hq⟩:=hrel;have P:=xT KC Hq;have d1:=P.cell s1;by_cases r:k<T d.q
    ·obtain⟨_,b,O,rfl,hc⟩:=(HQ.ext P).at_ (by omega);obtain⟨Hh,Hw,X,z,O,KM,HP⟩:=hc k r;have K4:d.q.take (k+1)=d.q.take k++[d.q[k]]:=P0 r;have Kq:=rU (P5 r);have Hb:T d.q[k].b<=900000:=by have:=HB.out;omega
     have Hc:=yd d.q hk;have HK:=H K4;have Y:=H HP;have Ha:=H Hc;have R:=H Hb;clear hc K4 HP Kq Hb Hc;obtain⟨o,ho⟩:∃o,d.q[k]=o:=⟨_,rfl⟩;rw[ho]at Hh Hw X KM Y HK R;obtain⟨ok,on,x,f⟩:=o;dsimp only at Hh Hw X KM Y R;have r:(k:Int)<(T d.q:Int):=by omega
     unfold sv at Hw X;have X:Ext a (a.alloc (J #[D Q ok,G ⟨on.toArray⟩,G ⟨x.toArray⟩,C z f.length O] 98)):=xA (xR _) _;have r:=P8 a 98 #[D Q ok,G ⟨on.toArray⟩,G ⟨x.toArray⟩,C z f.length O];have Kp:Ext (a.alloc (J #[D Q ok,G ⟨on.toArray⟩,G ⟨x.toArray⟩,C z f.length O] 98)) ((a.alloc (J #[D Q ok,G ⟨on.toArray⟩,G ⟨x.toArray⟩,C z f.length O] 98)).alloc (J #[] 5)):=xA (xR _) _;have HZ:=iI (a.alloc (J #[D Q ok,G ⟨on.toArray⟩,G ⟨x.toArray⟩,C z f.length O] 98));rw[xS]at HZ;have KK:=Y.ext (xT X Kp);have Y:a.heap.size+1<=((a.alloc (J #[D Q ok,G ⟨on.toArray⟩,G ⟨x.toArray⟩,C z f.length O] 98)).alloc (J #[] 5)).heap.size:=by rw[xS,xS];omega
     obtain⟨x0,x1,x2,x3⟩:=aM r;have O:=H HZ;have Jd:=H X;have Je:=H Kp;have z:=H r;have Kh:=H KK;have Jc:=H Y;clear X r Kp HZ KK Y ho P;go_wp2_with (first
      |(at_builtin;refine eu (.tmp 45) (.tmp 47) rfl (a.heap.size+1) _ [] O _ f Kh (Kn:=by have:=R.out;simp;omega) Jc ?_;intro l m F Z Ka;simp only[P1,Pc,xI]at Z⊢;have Hz:=Ka _ Je (by rw[xS];omega);have r:=z.ext Hz;clear x0 x1 x2 x3;obtain⟨x0,x1,x2,x3⟩:=aM r;have z:=r.frozen 3;have z:=H Z;have O:=H Hz;have R:=H r;clear Z Ka Hz r)
      | (at_builtin
         have U:Ext a (F.setCell ⟨a.heap.size,3,I⟩ (C l f.length m)):=Below.setCell (p:=⟨a.heap.size,3,I⟩) (xT Jd O) (xN _) _;have Ht:Ext (F.setCell ⟨a.heap.size,3,I⟩ (C l f.length m)) ((F.setCell ⟨a.heap.size,3,I⟩ (C l f.length m)).alloc (J #[D Q ok,G ⟨on.toArray⟩,G ⟨x.toArray⟩,C l f.length m] 98)):=xA (xR _) _;have V:=xT U Ht;have HY:=z.kept (ar _ a.heap.size 3 (C l f.length m)) (.inr (R.not_row (by decide) z).symm);have Hx:OwnB ((F.setCell ⟨a.heap.size,3,I⟩ (C l f.length m)).alloc (J #[D Q ok,G ⟨on.toArray⟩,G ⟨x.toArray⟩,C l f.length m] 98)) (a.heap.size+1) (C l f.length m) f:=ai HY Ht;have K2:=OwnX.ext dy HH V;have Kb:∀g,(Value.slice s k t).ownBlock=N g->∀u∈[D Q ok,G ⟨on.toArray⟩,G ⟨x.toArray⟩,C l f.length m],bF g u:=by
          intro g hg u r;have z:=sw HH hg;simp only[P7,P4,or_false]at r;rcases r with rfl | rfl | rfl | rfl
          ·exact iP _ _ _
          ·exact da _ on
          ·exact da _ x
          exact Hx.away (by omega)
         refine me dy rfl (.tmp 50) (.tmp 52) 23 rfl 98 iq _ 64 underlying23 Jn Kv Kw Kx rfl (by decide) (by decide) wr.heap.size _ (d.q.take k) rfl K2 _ [⟨ok,on,x,f⟩] [D Q ok,G ⟨on.toArray⟩,G ⟨x.toArray⟩,C l f.length m] rfl (fu (F.setCell ⟨a.heap.size,3,I⟩ (C l f.length m)) [D Q ok,G ⟨on.toArray⟩,G ⟨x.toArray⟩,C l f.length m] 98 4 (by simp only[World.size_setCell])) (ip (o:=⟨ok,on,x,f⟩) (xW Hx)) (by simp) Kb (by rw[Ha.out];have:=HL.out;simp;omega) (xT Hq V).size ?_;intro f f f f m _;simp only[xC,P1,Pc,Ha.out]at f⊢;rw[<-HK.out]at f;have l:=m wr (xT Hq V) (xN _);have x:=H f;have r:=H l;clear U Ht V HY Hx K2 Kb f m l))
     go_roundw
     case rel=>exact⟨k+1,by omega,by go_num,⟨_,_,rfl⟩,x,r⟩
     case measure=>simp[intOf];omega
    ·obtain rfl:k=T d.q:=by omega
     rw[P2]at HH;have H4:=H0.ext P;have f:=H1.ext P;have F:=xT HG P;have l:=(f.other (by omega:w.heap.size+1≠w.heap.size) 0 (C A' d.fs.length c')).other (by omega:w.heap.size+1≠w.heap.size) 1 (C s d.q.length t);have m:Blk (a.setCell ⟨w.heap.size,0,I⟩ (C A' d.fs.length c')) w.heap.size 25 (ap A' d.fs.length c' B d.q.length e2 d.quota d.fuse d.dead):=H4.set 0 (C A' d.fs.length c');have r:OwnFA ((a.setCell ⟨w.heap.size,0,I⟩ (C A' d.fs.length c')).setCell ⟨w.heap.size,1,I⟩ (C s d.q.length t)) y.heap.size (C A' d.fs.length c') d.fs (λg=>(Value.slice s d.q.length t).ownBlock=N g):=OwnFA.setD (OwnFA.setD (OwnFA.ext (OwnFA.of J8 (λg hg=>(ee HH hg).1)) Hq) (by decide) H4 aQ) (by decide) m aQ;have x:OwnQ ((a.setCell ⟨w.heap.size,0,I⟩ (C A' d.fs.length c')).setCell ⟨w.heap.size,1,I⟩ (C s d.q.length t)) wr.heap.size (C s d.q.length t) d.q:=OwnQ.setD (OwnQ.setD HH (by decide) H4 aQ) (by decide) m aQ;have y:=OwnFA.box1 (A':=A') (n':=T d.fs) (c':=c') (B':=s) (m':=T d.q) (e':=t) (q':=d.quota) (f':=d.fuse) (d':=d.dead) r l;have K3:=OwnQ.box1 (A':=A') (n':=T d.fs) (c':=c') (B':=s) (m':=T d.q) (e':=t) (q':=d.quota) (f':=d.fuse) (d':=d.dead) x l;have z:Ext w (aK ((a.setCell ⟨w.heap.size,0,I⟩ (C A' d.fs.length c')).setCell ⟨w.heap.size,1,I⟩ (C s d.q.length t)) (w.heap.size+1) (C A' d.fs.length c') (C s d.q.length t) (D E d.quota) (D E d.fuse) (M d.dead)):=aS (Below.setCell (p:=⟨w.heap.size,1,I⟩) (Below.setCell (p:=⟨w.heap.size,0,I⟩) F (xN _) _) (xN _) _) (Nat.le_succ _) (C A' d.fs.length c') (C s d.q.length t) (D E d.quota) (D E d.fuse) (M d.dead);have a:=aT l (C A' d.fs.length c') (C s d.q.length t) (D E d.quota) (D E d.fuse) (M d.dead);have O:=H (OwnFA.base y HG.size);have R:=H (OwnX.base K3 (Nat.le_trans HG.size KC.size));have t:=H z;have s:=H a;obtain⟨x0,x1,x2,x3,U⟩:=ae H4;have U:=aH H4;have U:=ae f;have U:=aH f;clear H4 f l m r x y K3 z a F P d1;go_wp2_with fail
     refine bodyPost_ret (NU _ _ _ _ rfl s rfl) rfl ?_;exact⟨_,rfl,⟨_,_,_,_,rfl,O.out,R.out⟩,t.out⟩
theorem mU(v:Value)(d:Dk)(w:World)(hD:DkV w v d)(hl:T d.fs+T d.q<=900000)(hb:tot d.fs+aL d.q<=900000):
  Calls L 54 #[v] w λe w'=>∃u,e=.returned u/\OwnD w' w.heap.size u d/\Ext w w':=
 (yN v d w hD hl hb).mono λ_ _ ⟨u,h1,h2,h3⟩=>⟨u,h1,OwnDs.d h2,h3⟩
theorem lH(v:Value)(d:Dk)(w:World)(hD:DkV w v d)(hl:d.fs.length+d.q.length<=900000)(hb:tot d.fs+aL d.q<=900000):
  Calls L 31 #[v] w λe w'=>(∃F,e=.returned F/\Fs w' F d.now)/\Ext w w':=by
 obtain⟨S,T,rfl,n,o⟩:=hD;obtain⟨A,c,rfl,_,_⟩:=Fs.open_ n;obtain⟨B,b,rfl,_,_⟩:=Qs.open_ o;have f:Ext w (w.alloc (J #[C A d.fs.length c,C B d.q.length b,D E d.quota,D E d.fuse,M d.dead] 25)):=xA (xR _) _;have H4:Blk _ w.heap.size 25 (ap A d.fs.length c B d.q.length b d.quota d.fuse d.dead):=P8 w _ _;have key:=mU _ d _ (show DkV (w.alloc (J #[C A d.fs.length c,C B d.q.length b,D E d.quota,D E d.fuse,M d.dead] 25)) (.agg #[C A d.fs.length c,C B d.q.length b,D E d.quota,D E d.fuse,M d.dead]) d from⟨_,_,rfl,n.ext f,o.ext f⟩) hl hb;have m:=ae H4;have O:=H key;have K:=H f;have P:=H H4;have I:=H hl;have G:=H hb;clear key f H4 n o hl hb;go_enter func31,ntmps31
 go_wp2_with fail
 refine O.out.mono ?_;rintro e U⟨u,rfl,⟨g,j,h,l,rfl,t,x⟩,i⟩;have a:=P.out.ext i;have p:=OwnF.box1 (A':=g) (n':=d.fs.length) (c':=j) (B':=h) (m':=d.q.length) (e':=l) (q':=d.quota) (f':=d.fuse) (d':=d.dead) t a;have r:=OwnQ.box1 (A':=g) (n':=d.fs.length) (c':=j) (B':=h) (m':=d.q.length) (e':=l) (q':=d.quota) (f':=d.fuse) (d':=d.dead) x a;have s:=aS (xT K i) (xN w.heap.size) (C g d.fs.length j) (C h d.q.length l) (D E d.quota) (D E d.fuse) (M d.dead);have y:=Mq _ _ d.fs d.q _ (OwnF.fs p) (OwnQ.qs r) I G;clear m;have m:=ae a;have Q:=aH a;have Kn:=H y;have Hq:=H s;clear y s p r a t x i;go_wp2_with fail
 refine Kn.out.mono ?_;rintro e V⟨⟨R,rfl,KI⟩,z⟩;have J7:=H KI;have N:=H (xT Hq z);clear KI z m Q;go_wp2_with fail;go_ret;exact⟨⟨_,rfl,J7.out⟩,N.out⟩
theorem An(tmps:Array Value)(W:World)(b:Nat)(cs:Array Value)(h4:tmps.getD 2 undef=O (N ⟨b,0,I⟩))(hb:Blk W b 25 cs)(hs:cs.size=5):(results Tryz.f115 tmps).run L W=.ok (.agg cs) W:=by
 have hl:=hb.load (P:=L) em rfl (by rw[hs];kernel_rfl);have a:tmps[2]?.getD undef=O (N ⟨b,0,I⟩):=by simpa using h4
 simp[results,results115,a,asAddr,hl]
theorem sT(v:Value)(d:Dk)(w:World)(hD:DkV w v d)(g:d.fuse<=9223372036854775807):
  Calls L 115 #[v] w λe w'=>(∃u,e=.returned u/\DkV w' u d.burn)/\Ext w w':=by
 obtain⟨g,g,rfl,b,f⟩:=hD;obtain⟨A,c,rfl,_,_⟩:=Fs.open_ b;obtain⟨B,a,rfl,_,_⟩:=Qs.open_ f;have i:=H b;have HQ:=H f;clear b f;by_cases j:0<d.fuse
 ·have hb:d.burn=⟨d.fs,d.q,d.quota,d.fuse-1,decide (d.fuse-1=0)⟩:=by unfold Dk.burn;rw[if_pos j]
  have b:IntKind.i64.wrap (d.fuse-1)=d.fuse-1:=by rw[IntKind.wrap_i64];all_goals omega
  have g:Ext w ((w.alloc (J #[C A d.fs.length c,C B d.q.length a,D E d.quota,D E (d.fuse-1),M (d.fuse-1==0)] 25)).alloc (J #[C A d.fs.length c,C B d.q.length a,D E d.quota,D E (d.fuse-1),M (d.fuse-1==0)] 25)):=xA (xA (xR _) _) _;have b:=P8 (w.alloc (J #[C A d.fs.length c,C B d.q.length a,D E d.quota,D E (d.fuse-1),M (d.fuse-1==0)] 25)) 25 #[C A d.fs.length c,C B d.q.length a,D E d.quota,D E (d.fuse-1),M (d.fuse-1==0)];rw[xS]at b;have f:=H g;have h:=H b;rw[hb];clear g b hb;go_enter func115,ntmps115
  go_wp2_with fail
  refine bodyPost_ret (An _ _ _ _ rfl h rfl) rfl ?_;refine⟨⟨_,rfl,⟨_,_,?_,i.ext f,HQ.ext f⟩⟩,f.out⟩;have e:(d.fuse-1==0)=decide (d.fuse-1=0):=by rw[Pa];simp
  rw[e]
 ·have hb:d.burn=d:=by unfold Dk.burn;rw[if_neg j]
  have g:Ext w ((w.alloc (J #[C A d.fs.length c,C B d.q.length a,D E d.quota,D E d.fuse,M d.dead] 25)).alloc (J #[C A d.fs.length c,C B d.q.length a,D E d.quota,D E d.fuse,M d.dead] 25)):=xA (xA (xR _) _) _;have b:=P8 (w.alloc (J #[C A d.fs.length c,C B d.q.length a,D E d.quota,D E d.fuse,M d.dead] 25)) 25 #[C A d.fs.length c,C B d.q.length a,D E d.quota,D E d.fuse,M d.dead];rw[xS]at b;have f:=H g;have h:=H b;rw[hb];clear g b hb;go_enter func115,ntmps115
  go_wp2_with fail
  refine bodyPost_ret (An _ _ _ _ rfl h rfl) rfl ?_;exact⟨⟨_,rfl,⟨_,_,rfl,i.ext f,HQ.ext f⟩⟩,f.out⟩
theorem C2(h:k<T fs):tot (fs.take (k+1))=tot (fs.take k)+T fs[k].2:=by
 rw[P0 h,zu];simp[tot]
theorem EN(fs:List Fil)(k:Nat):tot (fs.take k)<=tot fs:=by
 have:=congrArg tot (List.take_append_drop k fs);rw[zu]at this;omega
theorem Ad(v:Value)(fs:List Fil)(w:World)(d:Fs w v fs)(hl:T fs<=4000000)(hb:tot fs<=2000000000):Calls L 114 #[v] w λe w'=>e=.returned (D E (tot fs))/\w=w':=by
 obtain⟨A,c,rfl,h1,h2⟩:=Fs.open_ d;have g:=H d;have f:=H hb;clear d hb;go_enter func114,ntmps114
 go_wp2_with fail
 go_loopw [3,4] (λn i wr=>∃j:Nat,j<=T fs/\i=D E j/\n=D E (tot (fs.take j))/\w=wr) (λ_ i _=>T fs-(intOf i).toNat)
 case atStart=>exact⟨0,by omega,rfl,rfl,rfl⟩
 case round=>
  obtain⟨j,d,rfl,rfl,rfl⟩:=hrel;by_cases a:j<T fs
  ·obtain⟨_,b,d,rfl,hc⟩:=g.at_ (by omega);obtain⟨_,d,d,d,_⟩:=hc j a;have d:=C2 a;have g:=EN fs (j+1);have h:=f.out;have a:=H d;have f:(tot (fs.take j):Int)+(T fs[j].2:Int)<=2000000000:=by omega
   clear hc d g h;generalize(T fs[j].2)=m at *;go_wp2_with fail
   go_roundw
   case rel=>exact⟨j+1,by omega,by go_num,by rw[a.out];go_num,trivial⟩
   case measure=>simp[intOf];omega
  ·obtain rfl:j=T fs:=by omega
   go_wp2_with fail;go_ret;exact⟨by rw[P2];rfl,rfl⟩
theorem Ig(v:Value)(d:Dk)(w:World)(hD:DkV w v d)(hl:d.fs.length+d.q.length<=900000)(hb:tot d.fs+aL d.q<=900000)(hn:d.now.length<=4000000):
  Calls L 175 #[v] w λe w'=>e=.returned (D E (tot d.now))/\Ext w w':=by
 obtain⟨y,z,rfl,b,f⟩:=hD;obtain⟨A,c,rfl,_,_⟩:=Fs.open_ b;obtain⟨B,i,rfl,_,_⟩:=Qs.open_ f;have a:Ext w (w.alloc (J #[C A d.fs.length c,C B d.q.length i,D E d.quota,D E d.fuse,M d.dead] 25)):=xA (xR _) _;have H4:=P8 w 25 #[C A d.fs.length c,C B d.q.length i,D E d.quota,D E d.fuse,M d.dead];have hc:=lH _ d _ (show DkV _ _ d from⟨_,_,rfl,b.ext a,f.ext a⟩) hl hb;have HC:=H hc;have j:=H a;have p:=mT d.fs d.q;have r:tot d.now=tot (bD d.fs d.q):=oW d.fs d.q;have m:=H (show tot d.now<=2000000000 by omega);have l:=H hn;clear b f a hc p r hb hn;have s:=ae H4;clear H4;go_enter func175,ntmps175
 go_wp2_with fail
 refine HC.out.mono ?_;rintro e t⟨⟨x,rfl,h⟩,g⟩;have o:=H h;have n:=H (xT j g);clear h g HC s;go_wp2_with fail
 refine(Ad _ _ t o l m).mono ?_;rintro e F⟨rfl,rfl⟩;go_wp2_with fail;go_ret;exact⟨rfl,n.out⟩
theorem zJ(o:Oq)(v:Value)(w:World)(a:Bs w v o.b):Calls L 112 #[.agg #[D Q o.k,sv o.n,sv o.t,v]] w λe w'=>e=.returned (M (bO o))/\Ext w w':=by
 obtain⟨A,c,rfl,_,_⟩:=xO a;obtain⟨k,n,t,b⟩:=o;dsimp only at *;have d:Ext w (w.alloc (J #[D Q k,sv n,sv t,C A b.length c] 98)):=xA (xR _) _;have f:=P8 w 98 #[D Q k,sv n,sv t,C A b.length c];have h:=H d;clear d a;simp only[sv]at *;obtain⟨F,d⟩:∃F,bO ⟨k,n,t,b⟩=F:=⟨_,rfl⟩;rw[d];have a:=lK ⟨k,n,t,b⟩;rw[d]at a;dsimp only at a;have g:=H a;clear d a;have a:=blk4 f;clear f;go_enter func112,ntmps112
 go_wp2_with fail
 all_goals
  try(have i:k=3:=(by assumption);subst i)
  first
   | (have j:n=[]:=(by assumption)
      subst j;go_ret;refine⟨ret_bool ?_,h.out⟩;have a:=g.out;rw[Pa,a];simp;done)
   | (go_ret
      refine⟨ret_bool ?_,h.out⟩;have a:=g.out;rw[Pa,a];by_cases hn:n=[]<;>by_cases a:t=[]<;>first | contradiction | (simp[hn,a];done) | (simp[hn,a];omega))
theorem mcR5ca0{P:Prop}(h:P:=by
 subst hf;refine ab 0 ?_;refine ab 1 ?_;refine ab 2 ?_;refine ab 3 ?_;refine ab 4 ?_;refine ab 5 ?_;refine ab 6 ?_;refine ab 7 ?_;refine ag 8 ?_;refine ag 9 ?_;refine ag 10 ?_;refine ag 11 ?_;refine ag 12 ?_;refine ag 13 ?_;refine ag 14 ?_;refine ag 15 ?_;refine ag 16 ?_;refine ag 17 ?_;refine ag 18 ?_;refine ag 19 ?_;refine ag 20 ?_;refine ag 21 ?_;refine ag 22 ?_;refine ag 23 ?_;refine ag 24 ?_;refine ag 25 ?_;refine ab 26 ?_;refine aq ?_;go_wp2_with fail;go_ret;exact⟨rfl,xD HE⟩):P:=h
theorem mcR5ca1{P:Prop}(h:P:=by
 refine ab 13 ?_;refine ab 14 ?_;refine ag 15 ?_;refine ag 16 ?_;refine ag 17 ?_;refine ag 18 ?_;refine ag 19 ?_;refine ab 20 ?_;refine ab 21 ?_;refine aq ?_;go_wp2_with fail;go_ret;exact⟨rfl,xD HE⟩):P:=h
def eK(fs:List Fil)(k:Nat):List UInt8:=if k=0 then[]else((fs[k-1]?).map (·.1)).getD []
theorem I7(h:k<T fs):dj (eK fs k) (fs.drop k)=(ltB (eK fs k) fs[k].1&&dj (eK fs (k+1)) (fs.drop (k+1))):=by
 rw[P3 h,dj];have:eK fs (k+1)=fs[k].1:=by
  unfold eK;rw[if_neg (by omega)];simp[h]
 rw[this]
theorem qX(h:k<T fs):eK fs (k+1)=fs[k].1:=by
 unfold eK;rw[if_neg (by omega)];simp[h]
structure R4I (w:World) (b:Nat) (cs:Array Value) (W:World):Prop where
 bl:Blk W b 25 cs
 e:Ext w W
theorem yx(v:Value)(d:Dk)(w:World)(hD:DkV w v d)(hl:T d.fs+T d.q<=900000)(hb:tot d.fs+aL d.q<=900000)(KT:T d.now<=4000000):
  Calls L 111 #[v] w λe w'=>e=.returned (M d.right)/\Ext w w':=by
 obtain⟨vf,vq,rfl,hF,hQ⟩:=hD;obtain⟨A,c,rfl,_,_⟩:=Fs.open_ hF;obtain⟨B,P,rfl,_,_⟩:=Qs.open_ hQ;have H9:Ext w (w.alloc (J #[C A d.fs.length c,C B d.q.length P,D E d.quota,D E d.fuse,M d.dead] 25)):=xA (xR _) _;have H4:=P8 w 25 #[C A d.fs.length c,C B d.q.length P,D E d.quota,D E d.fuse,M d.dead];have HF:=H hF;have HQ:=H hQ;have KZ:=H hb;have J9:=H KT;have f:=H (show R4I w w.heap.size #[C A d.fs.length c,C B d.q.length P,D E d.quota,D E d.fuse,M d.dead] _ from⟨H4,H9⟩);obtain⟨R,hR⟩:∃R,d.right=R:=⟨_,rfl⟩;have X:=H hR;rw[hR];clear hF hQ hb H9 hR KT;obtain⟨m,r,s,t,x⟩:=ae H4;clear H4;go_enter func111,ntmps111
 go_wp2_with fail;clear m r s t x;go_loopw [3] (λi wr=>∃k:Nat,k<=T d.fs/\i=D E k/\Hid (dj [] d.fs=dj (eK d.fs k) (d.fs.drop k))/\Hid (R4I w w.heap.size #[C A d.fs.length c,C B d.q.length P,D E d.quota,D E d.fuse,M d.dead] wr)) (λi _=>T d.fs-(intOf i).toNat)
 case atStart=>exact⟨0,Pd _,rfl,rfl,f⟩
 case round=>
  clear f;obtain⟨k,hk,rfl,K8,f⟩:=hrel;have HE:=H f.e;obtain⟨m,r,s,t,x⟩:=ae f.bl;by_cases p:k<T d.fs
  ·obtain⟨_,b,F,rfl,hc⟩:=(HF.ext f.e).at_ (by omega);obtain⟨Y,_⟩:=hc k p;have g:=K8.out;rw[I7 p]at g;have V:=H g;have JF:(k:Int)<(T d.fs:Int):=by omega
   clear g K8;cases k with
   |zero=>
    clear hc;generalize d.fs[0].1=n at *;simp only[sv]at *;simp only[Nat.zero_mul,Nat.add_zero]at Y;go_wp2_with fail
    refine wp_region_held_drew (S:=λW=>W.cell? ⟨w.heap.size,0,I⟩=N (C (N ⟨b,F,I⟩) d.fs.length c)/\W.cell? ⟨b,F,I⟩=N (G ⟨n.toArray⟩)) (by kernel_rfl) ⟨m,Y⟩ (λ_=>?_);by_cases hn:n=[]
    case pos=>
     have Ks:(n==[])=true:=by simpa using hn
     have hf:false=R:=by
      rw[<-X.out];unfold Dk.right;rw[V.out,hn,show ltB (eK d.fs 0) []=false from rfl,Pb];rfl
     exact mcR5ca0
    have Ks:(n==[])=false:=by simpa using hn
    have H3:=H (show dj [] d.fs=dj (eK d.fs 1) (d.fs.drop 1) by rw[V.out,show ltB (eK d.fs 0) n=true from ltB_nil.2 hn,P9]);clear hn V;refine ab 0 ?_;refine ab 1 ?_;refine ab 2 ?_;refine ab 3 ?_;refine ab 4 ?_;refine ab 5 ?_;refine ab 6 ?_;refine ab 7 ?_;refine ab 8 ?_;refine ab 9 ?_;refine ab 10 ?_;refine ag 11 ?_;refine ag 12 ?_;refine ag 13 ?_;refine ag 14 ?_;refine ag 15 ?_;refine ag 16 ?_;refine ag 17 ?_;refine ag 18 ?_;refine ag 19 ?_;refine ag 20 ?_;refine ag 21 ?_;refine ag 22 ?_;refine ag 23 ?_;refine ag 24 ?_;refine ab 25 ?_;refine ab 26 ?_;refine aq ?_;go_wp2_with fail
    go_roundw
    case rel=>exact⟨1,by omega,by go_num,H3,⟨f.bl.ext (xD (xR _)),xD HE⟩⟩
    case measure=>simp[intOf];omega
   |succ j=>
    obtain⟨KU,_⟩:=hc j (by omega);have Jx:(0:Int)<=(j:Int)+1:=by omega
    have Jy:(0:Int)<(j:Int)+1:=by omega
    have Jz:IntKind.i64.wrap (j:Int)=(j:Int):=by rw[IntKind.wrap_i64];omega
    have JA:(j:Int)<(T d.fs:Int):=by omega
    have g:=V.out;rw[qX (by omega:j<T d.fs),qX p]at g;have Ki:=H (qX p);have H3:=H g;have JE:j+1<T d.fs:=p;clear g V;clear hc;obtain⟨n,V⟩:∃n,d.fs[j+1].1=n:=⟨_,rfl⟩;obtain⟨l,p⟩:∃l,d.fs[j].1=l:=⟨_,rfl⟩;rw[V]at Y H3 Ki;rw[p]at KU H3;clear V p;simp only[sv]at *;go_wp2_with fail
    refine wp_region_held_drew (S:=λW=>W.cell? ⟨w.heap.size,0,I⟩=N (C (N ⟨b,F,I⟩) d.fs.length c)/\W.cell? ⟨b,F+(j+1)*2,I⟩=N (G ⟨n.toArray⟩)/\W.cell? ⟨b,F+j*2,I⟩=N (G ⟨l.toArray⟩)) (by kernel_rfl) ⟨m,Y,KU⟩ (λ_=>?_);by_cases hn:n=[]
    case pos=>
     have Ks:(n==[])=true:=by simpa using hn
     have hf:false=R:=by
      rw[<-X.out];unfold Dk.right;rw[H3.out,hn,show ltB l []=false from(by cases l<;>rfl),Pb];rfl
     exact mcR5ca0
    have Ks:(n==[])=false:=by simpa using hn
    clear hn;cases a:ltB l n with
    |false=>
     have HW:Op.bytesLess l n=false:=a;have hf:false=R:=by
      rw[<-X.out];unfold Dk.right;rw[H3.out,a];rfl
     subst hf;clear a;refine ab 0 ?_;refine ab 1 ?_;refine ab 2 ?_;refine ab 3 ?_;refine ab 4 ?_;refine ab 5 ?_;refine ab 6 ?_;refine ab 7 ?_;refine ab 8 ?_;refine ab 9 ?_;refine ab 10 ?_;refine ab 11 ?_;refine ab 12 ?_;refine ab 13 ?_;refine ab 14 ?_;refine ab 15 ?_;refine ab 16 ?_;refine ab 17 ?_;refine ab 18 ?_;refine ab 19 ?_;refine ab 20 ?_;refine ab 21 ?_;refine ab 22 ?_;refine ab 23 ?_;refine ab 24 ?_;refine ab 25 ?_;refine ab 26 ?_;refine aq ?_;go_wp2_with fail;go_ret;exact⟨rfl,xD HE⟩
    |true=>
     have HW:Op.bytesLess l n=true:=a;have p:=H (show dj [] d.fs=dj (eK d.fs (j+1+1)) (d.fs.drop (j+1+1))from by rw[H3.out,a,P9,Ki.out]);clear a H3 Ki;refine ab 0 ?_;refine ab 1 ?_;refine ab 2 ?_;refine ab 3 ?_;refine ab 4 ?_;refine ab 5 ?_;refine ab 6 ?_;refine ab 7 ?_;refine ab 8 ?_;refine ab 9 ?_;refine ab 10 ?_;refine ab 11 ?_;refine ab 12 ?_;refine ab 13 ?_;refine ab 14 ?_;refine ab 15 ?_;refine ab 16 ?_;refine ab 17 ?_;refine ab 18 ?_;refine ab 19 ?_;refine ab 20 ?_;refine ab 21 ?_;refine ab 22 ?_;refine ab 23 ?_;refine ab 24 ?_;refine ab 25 ?_;refine ab 26 ?_;refine aq ?_;go_wp2_with fail
     go_roundw
     case rel=>exact⟨j+1+1,by omega,by go_num,p,⟨f.bl.ext (xD (xR _)),xD HE⟩⟩
     case measure=>simp[intOf];omega
  ·obtain rfl:k=T d.fs:=by omega
   have g:=K8.out;rw[P6,dj]at g;have K7:=H (show(d.q.all bO&&decide (T d.q<=400)&&decide (0<=d.quota)&&decide (0<=d.fuse)&&decide ((tot d.now:Int)<=d.quota))=R from by rw[<-X.out];unfold Dk.right;rw[g,P9]);clear K8 g X;go_wp2_with fail;clear m r s t x;go_loopw [4] (λi wr=>∃k:Nat,k<=T d.q/\i=D E k/\Hid (d.q.all bO=(d.q.drop k).all bO)/\Hid (R4I w w.heap.size #[C A d.fs.length c,C B d.q.length P,D E d.quota,D E d.fuse,M d.dead] wr)) (λi _=>T d.q-(intOf i).toNat)
   case atStart=>exact⟨0,Pd _,rfl,rfl,f⟩
   case round=>
    clear f HE;obtain⟨U,a,rfl,Hn,f⟩:=hrel;have HE:=H f.e;obtain⟨m,r,s,t,x⟩:=ae f.bl;by_cases z:U<T d.q
    ·obtain⟨_,b,F,rfl,hc⟩:=(HQ.ext f.e).at_ (by omega);obtain⟨a,a,a,a,a,a,a⟩:=hc U z;have O:=Hn.out;rw[P3 z,List.all_cons]at O;have K6:=H O;have HC:=H (λW g=>zJ d.q[U] _ W (Bs.ext a g));clear hc O Hn a;generalize d.q[U]=o at *;simp only[sv]at *;go_wp2_with fail
     refine(HC _ (xR _)).mono ?_;rintro e w1⟨rfl,a⟩;have Kz:=H (show R4I w w.heap.size #[C A d.fs.length c,C (N ⟨b,F,I⟩) d.q.length P,D E d.quota,D E d.fuse,M d.dead] w1 from⟨f.bl.ext a,xT HE a⟩);clear m r s t x f HE a;cases Q:bO o with
     |false=>
      have hf:false=R:=by rw[<-K7.out,K6.out,Q];rfl
      subst hf;clear K6 K7;go_wp2_with fail;go_ret;exact⟨rfl,Kz.e⟩
     |true=>
      have a:=H (show d.q.all bO=(d.q.drop (U+1)).all bO by rw[K6.out,Q,P9]);clear K6 Q;go_wp2_with fail
      go_roundw
      case rel=>exact⟨U+1,by omega,by go_num,a,Kz⟩
      case measure=>simp[intOf];omega
    ·obtain rfl:U=T d.q:=by omega
     have O:=Hn.out;rw[P6]at O;have Hk:=H (show(decide (T d.q<=400)&&decide (0<=d.quota)&&decide (0<=d.fuse)&&decide ((tot d.now:Int)<=d.quota))=R from by rw[<-K7.out,O];rfl);clear O Hn K7;have Hi:=H f.bl;go_wp2_with fail
     refine wp_region_held_drew (S:=λW=>W.cell? ⟨w.heap.size,0,I⟩=N (C A d.fs.length c)/\W.cell? ⟨w.heap.size,1,I⟩=N (C B d.q.length P)/\W.cell? ⟨w.heap.size,2,I⟩=N (D E d.quota)/\W.cell? ⟨w.heap.size,3,I⟩=N (D E d.fuse)/\W.cell? ⟨w.heap.size,4,I⟩=N (M d.dead)) (by kernel_rfl) ⟨m,r,s,t,x⟩ (λ_=>?_);by_cases h4:T d.q<=400
     case neg=>
      have Jk:decide (((T d.q:Nat):Int)<=400)=false:=by simp;omega
      have hf:false=R:=by rw[<-Hk.out];simp[h4]
      subst hf;clear Hk h4;refine ab 0 ?_;refine ab 1 ?_;refine ab 2 ?_;refine ab 3 ?_;refine ab 4 ?_;refine ag 5 ?_;refine ag 6 ?_;refine ag 7 ?_;refine ab 8 ?_;refine ab 9 ?_;refine ag 10 ?_;refine ag 11 ?_;refine ag 12 ?_;exact mcR5ca1
     have Jk:decide (((T d.q:Nat):Int)<=400)=true:=by simp;omega
     have Z:=H (show(decide (0<=d.quota)&&decide (0<=d.fuse)&&decide ((tot d.now:Int)<=d.quota))=R from by rw[<-Hk.out];simp[h4]);clear Hk h4;by_cases y:0<=d.quota
     case neg=>
      have Ku:decide (0<=d.quota)=false:=by simpa using y
      have hf:false=R:=by rw[<-Z.out,Ku];rfl
      subst hf;clear Z y;refine ab 0 ?_;refine ab 1 ?_;refine ab 2 ?_;refine ab 3 ?_;refine ab 4 ?_;refine ab 5 ?_;refine ab 6 ?_;refine ab 7 ?_;refine ab 8 ?_;refine ab 9 ?_;refine ag 10 ?_;refine ag 11 ?_;refine ag 12 ?_;exact mcR5ca1
     have Ku:decide (0<=d.quota)=true:=by simpa using y
     have Hm:=H (show(decide (0<=d.fuse)&&decide ((tot d.now:Int)<=d.quota))=R from by rw[<-Z.out,Ku];rfl);clear Z y;by_cases hf0:0<=d.fuse
     case neg=>
      have Kr:decide (0<=d.fuse)=false:=by simpa using hf0
      have hf:false=R:=by rw[<-Hm.out,Kr];rfl
      subst hf;clear Hm hf0;refine ab 0 ?_;refine ab 1 ?_;refine ab 2 ?_;refine ab 3 ?_;refine ab 4 ?_;refine ab 5 ?_;refine ab 6 ?_;refine ab 7 ?_;refine ab 8 ?_;refine ab 9 ?_;refine ab 10 ?_;refine ab 11 ?_;refine ab 12 ?_;exact mcR5ca1
     have Kr:decide (0<=d.fuse)=true:=by simpa using hf0
     have Km:=H (show decide ((tot d.now:Int)<=d.quota)=R from by rw[<-Hm.out,Kr];rfl);clear Hm hf0;refine ab 0 ?_;refine ab 1 ?_;refine ab 2 ?_;refine ab 3 ?_;refine ab 4 ?_;refine ab 5 ?_;refine ab 6 ?_;refine ab 7 ?_;refine ab 8 ?_;refine ab 9 ?_;refine ab 10 ?_;refine ab 11 ?_;refine ab 12 ?_;refine ab 13 ?_;refine ab 14 ?_;refine ab 15 ?_;refine ab 17 ?_;refine ab 18 ?_;refine ah 16 (λK hK=>?_);go_simp;refine(Ig _ d _ (show DkV _ _ d from⟨_,_,rfl,HF.ext (xD HE),HQ.ext (xD HE)⟩) hl KZ J9).mono ?_;rintro e a⟨rfl,f⟩;have a:=xT (xD (xR _)) f;have Hq:=H (xT HE a);clear m r s t x;obtain⟨m,r,s,t,x⟩:=ae (Hi.ext a);clear a f;refine af hK _ _ ⟨m,r,s,t,x⟩ (λ_=>?_);refine ab 19 ?_;refine ab 20 ?_;refine ab 21 ?_;refine aq ?_;go_wp2_with fail;go_ret;exact⟨by rw[<-Km.out];rfl,Hq.out⟩
theorem IP(tmps:Array Value)(W:World)(b c:Nat)(cs a:Array Value)(u:Value)(h2:tmps.getD 2 undef=O (N ⟨b,0,I⟩))(h3:tmps.getD 3 undef=O (N ⟨c,0,I⟩))(h4:tmps.getD 4 undef=u)(hb:Blk W b 44 cs)(hc:Blk W c 30 a)(hs:cs.size=8)(d:a.size=6):(results Tryz.f14 tmps).run L W=.ok (.tuple #[.agg cs,.agg a,u]) W:=by
 have hl:=hb.load (P:=L) oG rfl (by rw[hs];kernel_rfl);have hm:=hc.load (P:=L) lP rfl (by rw[d];kernel_rfl);have d:tmps[2]?.getD undef=O (N ⟨b,0,I⟩):=by simpa using h2
 have e:tmps[3]?.getD undef=O (N ⟨c,0,I⟩):=by simpa using h3
 have a:tmps[4]?.getD undef=u:=by simpa using h4
 simp[results,results14,d,e,a,asAddr,hl,hm]
