/- Merged -/
import Derived.Test.YteggfecbjgbndaaGreatDoorZy29
set_option linter.all false
set_option maxHeartbeats 8000000
set_option maxRecDepth 100000
open Go.Proofs.Tryz
open List renaming length->T
open Go.Value renaming slice->C,int->D,string->E,bool->N,pointer->Q
open Option renaming none->G,some->I
open Go.IntKind renaming i64->H,u8->O
open Go.Mv renaming aN->J
open Go.Obj renaming cells->L
open Go.Proofs.Tryz renaming prog->M
open Go.Mv.Blk renaming new->P0
open List renaming take_succ_eq_append_getElem->P1,length_nil->P2,take_length->P3,drop_eq_getElem_cons->P4,not_mem_nil->P5,getElem_mem->P6,drop_length->P7,mem_cons->P8
open Nat renaming zero_le->P9,zero_add->Pa
open Bool renaming true_and->Pb,eq_iff_iff->Pc,false_and->Pd
namespace Go.Proofs.YteggfecbjgbndaaGreatDoor
open Go.RowKit Go.Mv Go.Shelf
variable {fs:List Fil} {k:Nat} {P:Prop}
theorem NU(tmps:Array Value)(W:World)(b:Nat)(cs:Array Value)(h4:tmps.getD 2 undef=Q (I ⟨b,0,G⟩))(hb:Blk W b 25 cs)(hs:cs.size=5):(results Tryz.f54 tmps).run M W=.ok (.agg cs) W:=by
 have hl:=hb.load (P:=M) em rfl (by rw[hs];kernel_rfl);have a:tmps[2]?.getD undef=Q (I ⟨b,0,G⟩):=by simpa using h4
 simp[results,results54,a,asAddr,hl]
theorem yd{α:Type}(l:List α)(h:k<=T l):T (l.take k)=k:=by rw[List.length_take];omega
theorem Mu{W:World}{base:Nat}{v:Value}{l:List Fil}(h:OwnF W base v l){n:List UInt8}{b2:Nat}{u:Value}{bs:List UInt8}(b:OwnB W b2 u bs):∀g,v.ownBlock=I g->∀x∈[sv n,u],bF g x:=by
 intro g hg x hx;obtain⟨_,cs,a⟩:=ee h hg;simp only[P8,P5,or_false]at hx;rcases hx with rfl | rfl
 ·exact da _ _
 ·exact OwnB.awayT b a (by decide)
theorem yN(v:Value)(d:Dk)(w:World)(hD:DkV w v d)(hl:T d.fs+T d.q<=900000)(hb:tot d.fs+aL d.q<=900000):
  Calls M 54 #[v] w λe w'=>∃u,e=.returned u/\OwnDs w' w.heap.size u d/\Ext w w':=by
 obtain⟨X,X,rfl,hF,hQ⟩:=hD;obtain⟨A,c,rfl,_,_⟩:=Fs.open_ hF;obtain⟨B,e2,rfl,_,_⟩:=Qs.open_ hQ;obtain⟨y,X⟩:∃y,(w.alloc (L #[C A d.fs.length c,C B d.q.length e2,D H d.quota,D H d.fuse,N d.dead] 25)).alloc (L #[C none 0 0,C none 0 0,D H 0,D H 0,N false] 25)=y:=⟨_,rfl⟩;have Z:Ext w y:=by rw[<-X];exact xA (xA (xR _) _) _
 have h0:Blk y w.heap.size 25 (ap A d.fs.length c B d.q.length e2 d.quota d.fuse d.dead):=by rw[<-X];exact(P0 w _ _).alloc _
 have h1:Blk y (w.heap.size+1) 25 (ap none 0 0 none 0 0 0 0 false):=by
  rw[<-X];have:=P0 (w.alloc (L #[C A d.fs.length c,C B d.q.length e2,D H d.quota,D H d.fuse,N d.dead] 25)) 25 #[C none 0 0,C none 0 0,D H 0,D H 0,N false];rwa[xS]at this
 have Je:y.heap.size=w.heap.size+1+1:=by rw[<-X,xS,xS]
 have K2:=J Z;have H0:=J h0;have H1:=J h1;have HF:=J (hF.ext Z);have HQ:=J (hQ.ext Z);have HB:=J hb;have HL:=J hl;have JI:=J Je;obtain⟨i0,hi,KW,JG,JH⟩:=info_parts sc;clear h0 h1 hF hQ Z hb hl Je;go_enter func54,ntmps54
 go_wp2_with fail;clear X;go_loopw [3,4] (λvl i wr=>∃j:Nat,j<=T d.fs/\i=D H j/\(∃A' c',vl=C A' j c')/\Hid (OwnF wr y.heap.size vl (d.fs.take j))/\Hid (Ext y wr)) (λ_ i _=>T d.fs-(intOf i).toNat)
 case atStart=>exact⟨0,P9 _,rfl,⟨_,_,rfl⟩,OwnX.nil _ _ _,xR _⟩
 case round=>
  obtain⟨j,hj,rfl,⟨A',c',rfl⟩,HO,z⟩:=hrel;obtain⟨s0,s1,_,_,_⟩:=ae H0.out;have d0:=z.cell s0;by_cases r:j<T d.fs
  ·obtain⟨_,b,Q,rfl,hc⟩:=HF.at_ (by omega);obtain⟨t0,B1,J0,t1,X⟩:=hc j r;have Kg:d.fs.take (j+1)=d.fs.take j++[d.fs[j]]:=P1 r;have KM:=iW (P6 r);have K5:=J Kg;have K0:=J X;have Hg:=yd d.fs hj;have Hd:=J Hg;have He:T d.fs[j].2<=900000:=by have:=HB.out;omega
   have Y:=J He;clear hc Kg X KM Hg He;obtain⟨p,X⟩:∃p,d.fs[j]=p:=⟨_,rfl⟩;rw[X]at t0 t1 K0 K5 Y;obtain⟨n,Z⟩:=p;dsimp only at t0 t1 K0 Y;have JP:(j:Int)<(T d.fs:Int):=by omega
   unfold sv at t0;clear X;have hold:∀X,Ext y X->X.cell? ⟨w.heap.size,0,G⟩=I (C (I ⟨b,Q,G⟩) d.fs.length c)/\X.cell? ⟨b,Q+j*2,G⟩=I (E ⟨n.toArray⟩)/\X.cell? ⟨b,Q+j*2+1,G⟩=I (C B1 Z.length J0):=λX h=>⟨h.cell s0,h.cell t0,h.cell t1⟩;obtain⟨_,Hl,Hb⟩:=hold wr z.out;have Hn:=J hold;clear hold s0 s1 t0 t1;go_wp2_with fail
   refine wp_region_held_drew (S:=λW=>W.cell? ⟨w.heap.size,0,G⟩=I (C (I ⟨b,Q,G⟩) d.fs.length c)/\W.cell? ⟨b,Q+j*2,G⟩=I (E ⟨n.toArray⟩)/\W.cell? ⟨b,Q+j*2+1,G⟩=I (C B1 Z.length J0)) (by kernel_rfl) ⟨d0,Hl,Hb⟩ (λ_=>?_);clear d0 Hl Hb;refine ab 0 ?_;refine ab 1 ?_;refine ab 2 ?_;refine ab 3 ?_;refine ab 4 ?_;refine ab 5 ?_;refine ab 6 ?_;refine ab 8 ?_;refine ab 9 ?_;refine ab 10 ?_;refine ab 11 ?_;refine ab 12 ?_;refine ab 13 ?_;refine ah 7 (λK X=>?_);go_simp;have Kl:Ext wr (wr.alloc (L #[] 5)).drew:=xD (xA (xR _) _);have Kb:OwnB (wr.alloc (L #[] 5)).drew wr.heap.size (C (I ⟨wr.heap.size,0,G⟩) 0 0) []:=ai (iI wr) (xD (xR _));refine af X _ _ (Hn _ (xT z Kl)) (λ_=>?_);refine ah 14 (λK X=>?_);refine rt (.tmp 22) (.tmp 28) rfl wr.heap.size _ [] rfl Kb _ Z rfl (K0.ext (xT z Kl)) (by have:=Y.out;simp;omega) Kl.size ?_;intro l m F HZ Km;have Hc:=Km _ Kl (xN _);simp only[P2,Pa,xI]at HZ⊢;refine af X _ _ (Hn _ (xT z Hc)) (λ_=>?_);refine ab 15 ?_;refine ah 16 (λK X=>?_);go_simp;have K9:Ext F (F.alloc (L #[E ⟨n.toArray⟩,C l Z.length m] 68)):=xA (xR _) _;have R:=xT Hc K9;have JC:=iX (P0 F 68 #[E ⟨n.toArray⟩,C l Z.length m]);have Ka:=ai HZ K9;have Kc:=OwnX.ext dz HO R;have Kn:=Mu (n:=n) Kc Ka;refine af X _ _ (Hn _ (xT z R)) (λ_=>?_);refine ah 17 (λK X=>?_);refine Bf dz (.tmp 15) (.tmp 31) 22 rfl 68 i0 _ 40 underlying22 hi KW JG JH rfl (by decide) (by decide) y.heap.size _ (d.fs.take j) rfl Kc _ [(n,Z)] [sv n,C l Z.length m] rfl JC (rz (xW Ka)) (by simp) Kn (by rw[Hd.out];have:=HL.out;simp;omega) (xT z R).size ?_;intro Z Z Z V Z _;have U:=Z y (xT z R) (xN _);simp only[xC,P2,Pa,Hd.out]at V⊢;rw[<-K5.out]at V;refine af X _ _ (Hn _ U) (λ_=>?_);refine ab 18 ?_;refine aq ?_;go_wp2_with fail
   go_roundw
   case rel=>exact⟨j+1,by omega,by go_num,⟨_,_,rfl⟩,V,U⟩
   case measure=>simp[intOf];omega
  ·obtain rfl:j=T d.fs:=by omega
   rw[P3]at HO;have Z:=HO.out;have Jo:=J Z;have X:=z.out;have KZ:=J X;obtain⟨iq,JB,KT,KU,KV⟩:=info_parts mR;clear s0 Z X HO z;go_wp2_with fail
   go_loopw [5,6] (λvl i a=>∃k:Nat,k<=T d.q/\i=D H k/\(∃s t,vl=C s k t)/\Hid (OwnQ a wr.heap.size vl (d.q.take k))/\Hid (Ext wr a)) (λ_ i _=>T d.q-(intOf i).toNat)
   case atStart=>exact⟨0,P9 _,rfl,⟨_,_,rfl⟩,OwnX.nil _ _ _,xR _⟩
   case round=>
    rename World=>a
    clear d0;obtain⟨k,hk,rfl,⟨s,t,rfl⟩,K3,Hx⟩:=hrel;have H8:=xT KZ Hx.out;have d1:=H8.cell s1;by_cases r:k<T d.q
    ·obtain⟨_,b,Q,rfl,hc⟩:=(HQ.ext H8).at_ (by omega);obtain⟨Hl,Hb,X,z,Q,Z,K6⟩:=hc k r;have Kg:d.q.take (k+1)=d.q.take k++[d.q[k]]:=P1 r;have KM:=rU (P6 r);have He:T d.q[k].b<=900000:=by have:=HB.out;omega
     have Hg:=yd d.q hk;have K5:=J Kg;have Ku:=J K6;have Hd:=J Hg;have Y:=J He;clear hc Kg K6 KM He Hg;obtain⟨o,ho⟩:∃o,d.q[k]=o:=⟨_,rfl⟩;rw[ho]at Hl Hb X Z Ku K5 Y;obtain⟨ok,on,x,f⟩:=o;dsimp only at Hl Hb X Z Ku Y;have r:(k:Int)<(T d.q:Int):=by omega
     unfold sv at Hb X;have X:Ext a (a.alloc (L #[D O ok,E ⟨on.toArray⟩,E ⟨x.toArray⟩,C z f.length Q] 98)):=xA (xR _) _;have r:=P0 a 98 #[D O ok,E ⟨on.toArray⟩,E ⟨x.toArray⟩,C z f.length Q];have Z:Ext (a.alloc (L #[D O ok,E ⟨on.toArray⟩,E ⟨x.toArray⟩,C z f.length Q] 98)) ((a.alloc (L #[D O ok,E ⟨on.toArray⟩,E ⟨x.toArray⟩,C z f.length Q] 98)).alloc (L #[] 5)):=xA (xR _) _;have Kb:=iI (a.alloc (L #[D O ok,E ⟨on.toArray⟩,E ⟨x.toArray⟩,C z f.length Q] 98));rw[xS]at Kb;have hb3:=Ku.ext (xT X Z);have Jd:a.heap.size+1<=((a.alloc (L #[D O ok,E ⟨on.toArray⟩,E ⟨x.toArray⟩,C z f.length Q] 98)).alloc (L #[] 5)).heap.size:=by rw[xS,xS];omega
     obtain⟨x0,x1,x2,x3⟩:=aM r;have z:=J Kb;have Q:=J X;have Ju:=J Z;have K1:=J r;have Kv:=J hb3;have Jt:=J Jd;clear X r Z Kb hb3 Jd ho H8;go_wp2_with (first
      |(at_builtin;refine eu (.tmp 45) (.tmp 47) rfl (a.heap.size+1) _ [] z _ f Kv (by have:=Y.out;simp;omega) Jt.out ?_;intro l m F HZ Km;simp only[P2,Pa,xI]at HZ⊢;have Hc:=Km _ Ju (by rw[xS];omega);have r:=K1.ext Hc;clear x0 x1 x2 x3;obtain⟨x0,x1,x2,x3⟩:=aM r;have z:=r.frozen 3;have z:=J HZ;have Y:=J Hc;have X:=J r;clear HZ Km Hc r)
      | (at_builtin
         have R:Ext a (F.setCell ⟨a.heap.size,3,G⟩ (C l f.length m)):=Below.setCell (p:=⟨a.heap.size,3,G⟩) (xT Q Y.out) (xN _) _;have HH:Ext (F.setCell ⟨a.heap.size,3,G⟩ (C l f.length m)) ((F.setCell ⟨a.heap.size,3,G⟩ (C l f.length m)).alloc (L #[D O ok,E ⟨on.toArray⟩,E ⟨x.toArray⟩,C l f.length m] 98)):=xA (xR _) _;have U:=xT R HH;have Ka:=z.kept (ar _ a.heap.size 3 (C l f.length m)) (.inr (X.not_row (by decide) z.out).symm);have V:OwnB ((F.setCell ⟨a.heap.size,3,G⟩ (C l f.length m)).alloc (L #[D O ok,E ⟨on.toArray⟩,E ⟨x.toArray⟩,C l f.length m] 98)) (a.heap.size+1) (C l f.length m) f:=ai Ka HH;have Ke:=OwnX.ext dy K3 U;have Kn:∀g,(Value.slice s k t).ownBlock=I g->∀u∈[D O ok,E ⟨on.toArray⟩,E ⟨x.toArray⟩,C l f.length m],bF g u:=by
          intro g hg u r;have z:=sw K3 hg;simp only[P8,P5,or_false]at r;rcases r with rfl | rfl | rfl | rfl
          ·exact iP _ _ _
          ·exact da _ on
          ·exact da _ x
          exact V.away (by omega)
         refine me dy rfl (.tmp 50) (.tmp 52) 23 rfl 98 iq _ 64 underlying23 JB KT KU KV rfl (by decide) (by decide) wr.heap.size _ (d.q.take k) rfl Ke _ [⟨ok,on,x,f⟩] [D O ok,E ⟨on.toArray⟩,E ⟨x.toArray⟩,C l f.length m] rfl (fu (F.setCell ⟨a.heap.size,3,G⟩ (C l f.length m)) [D O ok,E ⟨on.toArray⟩,E ⟨x.toArray⟩,C l f.length m] 98 4 (by simp only[World.size_setCell])) (ip (o:=⟨ok,on,x,f⟩) (xW V)) (by simp) Kn (by rw[Hd.out];have:=HL.out;simp;omega) (xT Hx U).size ?_;intro f f f Kp l _;simp only[xC,P2,Pa,Hd.out]at Kp⊢;rw[<-K5.out]at Kp;have f:=l wr (xT Hx U) (xN _);have r:=J Kp;have m:=J f;clear R HH U Ka V Ke Kn Kp l f))
     go_roundw
     case rel=>exact⟨k+1,by omega,by go_num,⟨_,_,rfl⟩,r,m⟩
     case measure=>simp[intOf];omega
    ·obtain rfl:k=T d.q:=by omega
     rw[P3]at K3;have H3:=H0.ext H8;have f:=H1.ext H8;have F:=xT K2 H8;have l:=(f.other (by omega:w.heap.size+1≠w.heap.size) 0 (C A' d.fs.length c')).other (by omega:w.heap.size+1≠w.heap.size) 1 (C s d.q.length t);have m:Blk (a.setCell ⟨w.heap.size,0,G⟩ (C A' d.fs.length c')) w.heap.size 25 (ap A' d.fs.length c' B d.q.length e2 d.quota d.fuse d.dead):=H3.set 0 (C A' d.fs.length c');have r:OwnFA ((a.setCell ⟨w.heap.size,0,G⟩ (C A' d.fs.length c')).setCell ⟨w.heap.size,1,G⟩ (C s d.q.length t)) y.heap.size (C A' d.fs.length c') d.fs (λg=>(Value.slice s d.q.length t).ownBlock=I g):=OwnFA.setD (OwnFA.setD (OwnFA.ext (OwnFA.of Jo (λg hg=>(ee K3 hg).1)) Hx.out) (by decide) H3 aQ) (by decide) m aQ;have x:OwnQ ((a.setCell ⟨w.heap.size,0,G⟩ (C A' d.fs.length c')).setCell ⟨w.heap.size,1,G⟩ (C s d.q.length t)) wr.heap.size (C s d.q.length t) d.q:=OwnQ.setD (OwnQ.setD K3 (by decide) H3 aQ) (by decide) m aQ;have z:=OwnFA.box1 (A':=A') (n':=T d.fs) (c':=c') (B':=s) (m':=T d.q) (e':=t) (q':=d.quota) (f':=d.fuse) (d':=d.dead) r l;have B:=OwnQ.box1 (A':=A') (n':=T d.fs) (c':=c') (B':=s) (m':=T d.q) (e':=t) (q':=d.quota) (f':=d.fuse) (d':=d.dead) x l;have y:Ext w (aK ((a.setCell ⟨w.heap.size,0,G⟩ (C A' d.fs.length c')).setCell ⟨w.heap.size,1,G⟩ (C s d.q.length t)) (w.heap.size+1) (C A' d.fs.length c') (C s d.q.length t) (D H d.quota) (D H d.fuse) (N d.dead)):=aS (Below.setCell (p:=⟨w.heap.size,1,G⟩) (Below.setCell (p:=⟨w.heap.size,0,G⟩) F (xN _) _) (xN _) _) (Nat.le_succ _) (C A' d.fs.length c') (C s d.q.length t) (D H d.quota) (D H d.fuse) (N d.dead);have a:=aT l (C A' d.fs.length c') (C s d.q.length t) (D H d.quota) (D H d.fuse) (N d.dead);have R:=J (OwnFA.base z K2.size);have Q:=J (OwnX.base B (Nat.le_trans K2.size KZ.size));have t:=J y;have s:=J a;obtain⟨x0,x1,x2,x3,U⟩:=ae H3;obtain⟨U,U,U,U,U⟩:=aH H3;obtain⟨U,z1,z2,U,U⟩:=ae f;obtain⟨U,U,U,U,U⟩:=aH f;clear H3 f l m r x z B y a F H8 d1;go_wp2_with fail
     refine bodyPost_ret (NU _ _ _ _ rfl s rfl) rfl ?_;exact⟨_,rfl,⟨_,_,_,_,rfl,R.out,Q.out⟩,t.out⟩
theorem mU(v:Value)(d:Dk)(w:World)(hD:DkV w v d)(hl:T d.fs+T d.q<=900000)(hb:tot d.fs+aL d.q<=900000):
  Calls M 54 #[v] w λe w'=>∃u,e=.returned u/\OwnD w' w.heap.size u d/\Ext w w':=
 (yN v d w hD hl hb).mono λ_ _ ⟨u,h1,h2,h3⟩=>⟨u,h1,OwnDs.d h2,h3⟩
theorem lH(v:Value)(d:Dk)(w:World)(hD:DkV w v d)(hl:d.fs.length+d.q.length<=900000)(hb:tot d.fs+aL d.q<=900000):
  Calls M 31 #[v] w λe w'=>(∃G,e=.returned G/\Fs w' G d.now)/\Ext w w':=by
 obtain⟨vf,vq,rfl,p,r⟩:=hD;obtain⟨A,c,rfl,_,_⟩:=Fs.open_ p;obtain⟨B,e2,rfl,_,_⟩:=Qs.open_ r;have b:Ext w (w.alloc (L #[C A d.fs.length c,C B d.q.length e2,D H d.quota,D H d.fuse,N d.dead] 25)):=xA (xR _) _;have H3:Blk _ w.heap.size 25 (ap A d.fs.length c B d.q.length e2 d.quota d.fuse d.dead):=P0 w _ _;have key:=mU _ d _ (show DkV (w.alloc (L #[C A d.fs.length c,C B d.q.length e2,D H d.quota,D H d.fuse,N d.dead] 25)) (.agg #[C A d.fs.length c,C B d.q.length e2,D H d.quota,D H d.fuse,N d.dead]) d from⟨_,_,rfl,p.ext b,r.ext b⟩) hl hb;obtain⟨j,l,m,n,o⟩:=ae H3;have T:=J key;have O:=J b;have U:=J H3;have K:=J hl;have I:=J hb;clear key b H3 p r hl hb;go_enter func31,ntmps31
 go_wp2_with fail
 refine T.out.mono ?_;rintro e w1⟨u,rfl,⟨f,i,g,e1,rfl,E,Ke⟩,h⟩;have a:=U.out.ext h;have t:=OwnF.box1 (A':=f) (n':=d.fs.length) (c':=i) (B':=g) (m':=d.q.length) (e':=e1) (q':=d.quota) (f':=d.fuse) (d':=d.dead) E a;have x:=OwnQ.box1 (A':=f) (n':=d.fs.length) (c':=i) (B':=g) (m':=d.q.length) (e':=e1) (q':=d.quota) (f':=d.fuse) (d':=d.dead) Ke a;have s:=aS (xT O.out h) (xN w.heap.size) (C f d.fs.length i) (C g d.q.length e1) (D H d.quota) (D H d.fuse) (N d.dead);have F:=Mq _ _ d.fs d.q _ (OwnF.fs t) (OwnQ.qs x) K.out I.out;clear j l m n o;obtain⟨j,l,m,n,o⟩:=ae a;obtain⟨V,W,X,Y,Z⟩:=aH a;have KD:=J F;have Q:=J s;clear F s t x a E Ke h;go_wp2_with fail
 refine KD.out.mono ?_;rintro e w2⟨⟨v2,rfl,z⟩,y⟩;have S:=J z;have R:=J (xT Q.out y);clear j l m n o V W X Y Z z y;go_wp2_with fail;go_ret;exact⟨⟨_,rfl,S.out⟩,R.out⟩
theorem mcR6aa0(h:P:=by
 have Hu:=eh (P:=M) _ 33 9 5 Tryz.underlying33 Tryz.underlying5 Tryz.underlying9 (SlR.ext Ks Hc);have Hv:=eh (P:=M) _ 33 9 5 Tryz.underlying33 Tryz.underlying5 Tryz.underlying9 (SlR.ext Kt Hc);have Kx:=J Hc;clear HP HY K7 Hc;go_wp2_with fail
 go_roundw
 case rel=>exact⟨k+1,by omega,by go_num,xT HX Kx.out⟩
 case measure=>simp[intOf];omega):P:=h
theorem DY(g j:Value)(fs:List Fil)(w:World)(d:Fs w g fs)(f:Fs w j fs)(hl:T fs<=4000000):
  Calls M 57 #[g,j] w λe w'=>e=.returned (N true)/\Ext w w':=by
 obtain⟨A,c,rfl,_,_⟩:=Fs.open_ d;obtain⟨B,e2,rfl,_,_⟩:=Fs.open_ f;have l:=J d;have m:=J f;clear d f;go_enter func57,ntmps57
 go_wp2_with fail
 go_loopw [5] (λi wr=>∃k:Nat,k<=T fs/\i=D H k/\Hid (Ext w wr)) (λi _=>T fs-(intOf i).toNat)
 case atStart=>exact⟨0,P9 _,rfl,xR _⟩
 case round=>
  obtain⟨k,d,rfl,b⟩:=hrel;by_cases a:k<T fs
  ·have d:(k:Int)<(T fs:Int):=by omega
   obtain⟨_,b1,v,n,p⟩:=(l.ext b.out).at_ (by omega);subst n;obtain⟨_,b2,y,o,q⟩:=(m.ext b.out).at_ (by omega);subst o;obtain⟨d,m,s,l,r⟩:=p k a;obtain⟨f,n,t,e1,o⟩:=q k a;have g:=eh (P:=M) wr.drew 33 9 5 underlying33 underlying5 underlying9 (SlR.ext r (xD (xR _)));have j:=eh (P:=M) wr.drew 33 9 5 underlying33 underlying5 underlying9 (SlR.ext o (xD (xR _)));unfold sv at d f;clear p q r o;generalize fs[k]=x at *;obtain⟨o,a⟩:=x;dsimp only at d l f e1 g j;go_wp2_with fail
   refine wp_region_held_drew (S:=λW=>W.cell? ⟨b1,v+k*2,G⟩=I (E ⟨o.toArray⟩)/\W.cell? ⟨b1,v+k*2+1,G⟩=I (C m a.length s)/\W.cell? ⟨b2,y+k*2,G⟩=I (E ⟨o.toArray⟩)/\W.cell? ⟨b2,y+k*2+1,G⟩=I (C n a.length t)/\(convert 33 9 (C m a.length s)).run M W=.ok (E ⟨a.toArray⟩) W/\(convert 33 9 (C n a.length t)).run M W=.ok (E ⟨a.toArray⟩) W) (by kernel_rfl) ⟨d,l,f,e1,g,j⟩ (λ_=>?_);clear d l f e1 g j;refine ab 0 ?_;refine ab 1 ?_;refine ab 2 ?_;refine ab 3 ?_;refine ab 4 ?_;refine ab 5 ?_;refine ab 6 ?_;refine ab 7 ?_;refine ab 8 ?_;refine ab 9 ?_;refine ab 10 ?_;refine ab 11 ?_;refine ab 12 ?_;refine ab 13 ?_;refine ab 14 ?_;refine ab 15 ?_;refine ab 16 ?_;refine ab 17 ?_;refine ab 18 ?_;refine ab 19 ?_;refine ab 20 ?_;refine ab 21 ?_;refine ab 22 ?_;refine ab 23 ?_;refine ab 24 ?_;refine ab 25 ?_;refine aq ?_;go_wp2_with fail
   go_roundw
   case rel=>exact⟨k+1,by omega,by go_num,xD b.out⟩
   case measure=>simp[intOf];omega
  ·obtain rfl:k=T fs:=by omega
   go_wp2_with fail;go_ret;exact⟨rfl,b.out⟩
theorem qh(a b:Value)(d:Dk)(w:World)(g:DkV w a d)(n:DkV w b d)(hl:T d.fs<=4000000)(JS:T d.q<=4000000):
  Calls M 19 #[a,b] w λe w'=>e=.returned (N true)/\Ext w w':=by
 obtain⟨a,a,rfl,r,s⟩:=g;obtain⟨a,a,rfl,o,p⟩:=n;obtain⟨A,c,rfl,_,_⟩:=Fs.open_ r;obtain⟨B,e2,rfl,_,_⟩:=Qs.open_ s;obtain⟨A',c',rfl,_,_⟩:=Fs.open_ o;obtain⟨B',t,rfl,_,_⟩:=Qs.open_ p;obtain⟨b,g⟩:∃b,(w.alloc (L #[C A d.fs.length c,C B d.q.length e2,D H d.quota,D H d.fuse,N d.dead] 25)).alloc (L #[C A' d.fs.length c',C B' d.q.length t,D H d.quota,D H d.fuse,N d.dead] 25)=b:=⟨_,rfl⟩;have a:Ext w b:=by rw[<-g];exact xA (xA (xR _) _) _
 have H3:Blk b w.heap.size 25 #[C A d.fs.length c,C B d.q.length e2,D H d.quota,D H d.fuse,N d.dead]:=by rw[<-g];exact(P0 w _ _).alloc _
 have n:Blk b (w.heap.size+1) 25 #[C A' d.fs.length c',C B' d.q.length t,D H d.quota,D H d.fuse,N d.dead]:=by
  rw[<-g];have:=P0 (w.alloc (L #[C A d.fs.length c,C B d.q.length e2,D H d.quota,D H d.fuse,N d.dead] 25)) 25 #[C A' d.fs.length c',C B' d.q.length t,D H d.quota,D H d.fuse,N d.dead];rw[xS]at this;exact this
 have b:=J (r.ext a);have B:=J (o.ext a);have y:=J (s.ext a);have Q:=J (p.ext a);have X:=J H3;have R:=J n;have HE:=J a;obtain⟨Y,z,Z,g3,g4⟩:=ae H3;obtain⟨j0,F,j2,j3,j4⟩:=ae n;clear r o s p a H3 n;go_enter func19,ntmps19
 go_wp2_with fail;clear g;refine(DY _ _ d.fs _ b B hl).mono ?_;rintro e w1⟨rfl,a⟩;have Kw:=J a;clear a Y z Z g3 g4 j0 F j2 j3 j4;go_wp2_with fail
 go_loopw [5] (λi wr=>∃k:Nat,k<=T d.q/\i=D H k/\Hid (Ext w1 wr)) (λi _=>T d.q-(intOf i).toNat)
 case atStart=>exact⟨0,P9 _,rfl,xR _⟩
 case round=>
  obtain⟨k,hk,rfl,HX⟩:=hrel;have v:=J (xT Kw HX.out);obtain⟨Y,z,Z,g3,g4⟩:=ae (X.ext v.out);obtain⟨j0,F,j2,j3,j4⟩:=ae (R.ext v.out);by_cases f:k<T d.q
  ·have a:(k:Int)<(T d.q:Int):=by omega
   obtain⟨_,b1,l,U,Hb⟩:=(y.ext v.out).at_ (by omega);subst U;obtain⟨_,b2,m,V,Hf⟩:=(Q.ext v.out).at_ (by omega);subst V;obtain⟨R,s,y,n,p,U,Q⟩:=Hb k f;obtain⟨V,e1,e3,o,r,X,B⟩:=Hf k f;unfold sv at s y e1 e3;clear Hb Hf;have HK:=J hk;generalize d.q[k]=x at *;obtain⟨b,f,g,a⟩:=x;dsimp only at R s y U V e1 e3 X Q B;have Ks:=J Q;have Kt:=J B;have HC:=J (show wr.cell? ⟨w.heap.size,1,G⟩=I (C (I ⟨b1,l,G⟩) d.q.length e2)/\wr.cell? ⟨w.heap.size+1,1,G⟩=I (C (I ⟨b2,m,G⟩) d.q.length t)/\wr.cell? ⟨b1,l+k*4,G⟩=I (D O b)/\wr.cell? ⟨b1,l+k*4+1,G⟩=I (E ⟨f.toArray⟩)/\wr.cell? ⟨b1,l+k*4+2,G⟩=I (E ⟨g.toArray⟩)/\wr.cell? ⟨b1,l+k*4+3,G⟩=I (C n a.length p)/\wr.cell? ⟨b2,m+k*4,G⟩=I (D O b)/\wr.cell? ⟨b2,m+k*4+1,G⟩=I (E ⟨f.toArray⟩)/\wr.cell? ⟨b2,m+k*4+2,G⟩=I (E ⟨g.toArray⟩)/\wr.cell? ⟨b2,m+k*4+3,G⟩=I (C o a.length r)from⟨z,F,R,s,y,U,V,e1,e3,X⟩);clear Q B R s y U V e1 e3 X HK;go_wp2_with fail;clear Y z Z g3 g4 j0 F j2 j3 j4;refine wp_region_held_drew (S:=λW=>W.cell? ⟨w.heap.size,1,G⟩=I (C (I ⟨b1,l,G⟩) d.q.length e2)/\W.cell? ⟨w.heap.size+1,1,G⟩=I (C (I ⟨b2,m,G⟩) d.q.length t)/\W.cell? ⟨b1,l+k*4,G⟩=I (D O b)/\W.cell? ⟨b1,l+k*4+1,G⟩=I (E ⟨f.toArray⟩)/\W.cell? ⟨b1,l+k*4+2,G⟩=I (E ⟨g.toArray⟩)/\W.cell? ⟨b1,l+k*4+3,G⟩=I (C n a.length p)/\W.cell? ⟨b2,m+k*4,G⟩=I (D O b)/\W.cell? ⟨b2,m+k*4+1,G⟩=I (E ⟨f.toArray⟩)/\W.cell? ⟨b2,m+k*4+2,G⟩=I (E ⟨g.toArray⟩)/\W.cell? ⟨b2,m+k*4+3,G⟩=I (C o a.length r)) (by kernel_rfl) HC (λ_=>?_);refine ab 0 ?_;refine ab 1 ?_;refine ab 2 ?_;refine ab 3 ?_;refine ab 4 ?_;refine ab 5 ?_;refine ab 6 ?_;refine ab 7 ?_;refine ab 8 ?_;refine ab 9 ?_;have s:=J (λW (h:Ext wr W)=>show W.cell? ⟨w.heap.size,1,G⟩=I (C (I ⟨b1,l,G⟩) d.q.length e2)/\W.cell? ⟨w.heap.size+1,1,G⟩=I (C (I ⟨b2,m,G⟩) d.q.length t)/\W.cell? ⟨b1,l+k*4,G⟩=I (D O b)/\W.cell? ⟨b1,l+k*4+1,G⟩=I (E ⟨f.toArray⟩)/\W.cell? ⟨b1,l+k*4+2,G⟩=I (E ⟨g.toArray⟩)/\W.cell? ⟨b1,l+k*4+3,G⟩=I (C n a.length p)/\W.cell? ⟨b2,m+k*4,G⟩=I (D O b)/\W.cell? ⟨b2,m+k*4+1,G⟩=I (E ⟨f.toArray⟩)/\W.cell? ⟨b2,m+k*4+2,G⟩=I (E ⟨g.toArray⟩)/\W.cell? ⟨b2,m+k*4+3,G⟩=I (C o a.length r)from by obtain⟨l,m,t,y,z,B,F,Q,R,U⟩:=HC;exact⟨h.cell l,h.cell m,h.cell t,h.cell y,h.cell z,h.cell B,h.cell F,h.cell Q,h.cell R,h.cell U⟩);have K7:Ext wr wr.drew:=xD (xR _);clear HC;refine AllReadyH.two (i:=10) (j:=11) rfl rfl (by kernel_rfl) (by rfl) (by rfl) (λK l=>?_) (λK l=>?_)
   ·go_simp;refine af l _ _ (s _ (xA K7 _)) (λ_=>?_);refine ah 11 (λK l=>?_);go_simp;refine af l _ _ (s _ (xA (xA K7 _) _)) (λ_=>?_);refine ah 12 (λK l=>?_);go_simp;refine af l _ _ (s _ (xD (xA (xA (xR _) _) _))) (λ_=>?_);refine ah 13 (λK l=>?_);go_simp;refine af l _ _ (s _ (xD (xA (xA (xR _) _) _))) (λ_=>?_);refine aq ?_;have Hc:Ext wr ((wr.alloc (L #[D O b,E ⟨f.toArray⟩,E ⟨g.toArray⟩,C n a.length p] 98)).alloc (L #[D O b,E ⟨f.toArray⟩,E ⟨g.toArray⟩,C o a.length r] 98)).drew:=xD (xA (xA (xR _) _) _);have HP:=((P0 wr 98 #[D O b,E ⟨f.toArray⟩,E ⟨g.toArray⟩,C n a.length p]).alloc (L #[D O b,E ⟨f.toArray⟩,E ⟨g.toArray⟩,C o a.length r] 98)).ext (xD (xR _));have HY:=(P0 (wr.alloc (L #[D O b,E ⟨f.toArray⟩,E ⟨g.toArray⟩,C n a.length p] 98)) 98 #[D O b,E ⟨f.toArray⟩,E ⟨g.toArray⟩,C o a.length r]).ext (xD (xR _));rw[xS]at HY;obtain⟨m,t,y,z⟩:=blk4 HP;obtain⟨B,F,Q,R⟩:=blk4 HY;exact mcR6aa0
   go_simp;refine af l _ _ (s _ (xA K7 _)) (λ_=>?_);refine ah 10 (λK l=>?_);go_simp;refine af l _ _ (s _ (xA (xA K7 _) _)) (λ_=>?_);refine ah 12 (λK l=>?_);go_simp;refine af l _ _ (s _ (xD (xA (xA (xR _) _) _))) (λ_=>?_);refine ah 13 (λK l=>?_);go_simp;refine af l _ _ (s _ (xD (xA (xA (xR _) _) _))) (λ_=>?_);refine aq ?_;have Hc:Ext wr ((wr.alloc (L #[D O b,E ⟨f.toArray⟩,E ⟨g.toArray⟩,C o a.length r] 98)).alloc (L #[D O b,E ⟨f.toArray⟩,E ⟨g.toArray⟩,C n a.length p] 98)).drew:=xD (xA (xA (xR _) _) _);have HP:=((P0 wr 98 #[D O b,E ⟨f.toArray⟩,E ⟨g.toArray⟩,C o a.length r]).alloc (L #[D O b,E ⟨f.toArray⟩,E ⟨g.toArray⟩,C n a.length p] 98)).ext (xD (xR _));have HY:=(P0 (wr.alloc (L #[D O b,E ⟨f.toArray⟩,E ⟨g.toArray⟩,C o a.length r] 98)) 98 #[D O b,E ⟨f.toArray⟩,E ⟨g.toArray⟩,C n a.length p]).ext (xD (xR _));rw[xS]at HY;obtain⟨m,t,y,z⟩:=blk4 HY;obtain⟨B,F,Q,R⟩:=blk4 HP;exact mcR6aa0
  ·obtain rfl:k=T d.q:=by omega
   go_wp2_with fail;go_ret;exact⟨rfl,xT HE v.out⟩
theorem An(tmps:Array Value)(W:World)(b:Nat)(cs:Array Value)(h4:tmps.getD 2 undef=Q (I ⟨b,0,G⟩))(hb:Blk W b 25 cs)(hs:cs.size=5):(results Tryz.f115 tmps).run M W=.ok (.agg cs) W:=by
 have hl:=hb.load (P:=M) em rfl (by rw[hs];kernel_rfl);have a:tmps[2]?.getD undef=Q (I ⟨b,0,G⟩):=by simpa using h4
 simp[results,results115,a,asAddr,hl]
theorem sT(v:Value)(d:Dk)(w:World)(hD:DkV w v d)(f:d.fuse<=9223372036854775807):
  Calls M 115 #[v] w λe w'=>(∃u,e=.returned u/\DkV w' u d.burn)/\Ext w w':=by
 obtain⟨f,f,rfl,a,b⟩:=hD;obtain⟨A,c,rfl,_,_⟩:=Fs.open_ a;obtain⟨B,e2,rfl,_,_⟩:=Qs.open_ b;have h:=J a;have i:=J b;clear a b;by_cases j:0<d.fuse
 ·have hb:d.burn=⟨d.fs,d.q,d.quota,d.fuse-1,decide (d.fuse-1=0)⟩:=by unfold Dk.burn;rw[if_pos j]
  have a:IntKind.i64.wrap (d.fuse-1)=d.fuse-1:=by rw[IntKind.wrap_i64];all_goals omega
  have f:Ext w ((w.alloc (L #[C A d.fs.length c,C B d.q.length e2,D H d.quota,D H (d.fuse-1),N (d.fuse-1==0)] 25)).alloc (L #[C A d.fs.length c,C B d.q.length e2,D H d.quota,D H (d.fuse-1),N (d.fuse-1==0)] 25)):=xA (xA (xR _) _) _;have b:=P0 (w.alloc (L #[C A d.fs.length c,C B d.q.length e2,D H d.quota,D H (d.fuse-1),N (d.fuse-1==0)] 25)) 25 #[C A d.fs.length c,C B d.q.length e2,D H d.quota,D H (d.fuse-1),N (d.fuse-1==0)];rw[xS]at b;have a:=J f;have g:=J b;rw[hb];clear f b hb;go_enter func115,ntmps115
  go_wp2_with fail
  refine bodyPost_ret (An _ _ _ _ rfl g rfl) rfl ?_;refine⟨⟨_,rfl,⟨_,_,?_,h.ext a.out,i.ext a.out⟩⟩,a.out⟩;have e:(d.fuse-1==0)=decide (d.fuse-1=0):=by rw[Pc];simp
  rw[e]
 ·have hb:d.burn=d:=by unfold Dk.burn;rw[if_neg j]
  have f:Ext w ((w.alloc (L #[C A d.fs.length c,C B d.q.length e2,D H d.quota,D H d.fuse,N d.dead] 25)).alloc (L #[C A d.fs.length c,C B d.q.length e2,D H d.quota,D H d.fuse,N d.dead] 25)):=xA (xA (xR _) _) _;have b:=P0 (w.alloc (L #[C A d.fs.length c,C B d.q.length e2,D H d.quota,D H d.fuse,N d.dead] 25)) 25 #[C A d.fs.length c,C B d.q.length e2,D H d.quota,D H d.fuse,N d.dead];rw[xS]at b;have a:=J f;have g:=J b;rw[hb];clear f b hb;go_enter func115,ntmps115
  go_wp2_with fail
  refine bodyPost_ret (An _ _ _ _ rfl g rfl) rfl ?_;exact⟨⟨_,rfl,⟨_,_,rfl,h.ext a.out,i.ext a.out⟩⟩,a.out⟩
theorem C2(h:k<T fs):tot (fs.take (k+1))=tot (fs.take k)+T fs[k].2:=by
 rw[P1 h,zu];simp[tot]
theorem EN(fs:List Fil)(k:Nat):tot (fs.take k)<=tot fs:=by
 have:=congrArg tot (List.take_append_drop k fs);rw[zu]at this;omega
theorem Ad(v:Value)(fs:List Fil)(w:World)(d:Fs w v fs)(hl:T fs<=4000000)(hb:tot fs<=2000000000):Calls M 114 #[v] w λe w'=>e=.returned (D H (tot fs))/\w=w':=by
 obtain⟨A,c,rfl,h1,h2⟩:=Fs.open_ d;have g:=J d;have f:=J hb;clear d hb;go_enter func114,ntmps114
 go_wp2_with fail
 go_loopw [3,4] (λn i wr=>∃j:Nat,j<=T fs/\i=D H j/\n=D H (tot (fs.take j))/\w=wr) (λ_ i _=>T fs-(intOf i).toNat)
 case atStart=>exact⟨0,by omega,rfl,rfl,rfl⟩
 case round=>
  obtain⟨j,d,rfl,rfl,rfl⟩:=hrel;by_cases a:j<T fs
  ·obtain⟨_,b,d,rfl,hc⟩:=g.at_ (by omega);obtain⟨_,d,d,d,_⟩:=hc j a;have d:=C2 a;have g:=EN fs (j+1);have h:=f.out;have a:=J d;have f:(tot (fs.take j):Int)+(T fs[j].2:Int)<=2000000000:=by omega
   clear hc d g h;generalize(T fs[j].2)=m at *;go_wp2_with fail
   go_roundw
   case rel=>exact⟨j+1,by omega,by go_num,by rw[a.out];go_num,trivial⟩
   case measure=>simp[intOf];omega
  ·obtain rfl:j=T fs:=by omega
   go_wp2_with fail;go_ret;exact⟨by rw[P3];rfl,rfl⟩
theorem Ig(v:Value)(d:Dk)(w:World)(hD:DkV w v d)(hl:d.fs.length+d.q.length<=900000)(hb:tot d.fs+aL d.q<=900000)(hn:d.now.length<=4000000):
  Calls M 175 #[v] w λe w'=>e=.returned (D H (tot d.now))/\Ext w w':=by
 obtain⟨E,F,rfl,b,f⟩:=hD;obtain⟨A,c,rfl,_,_⟩:=Fs.open_ b;obtain⟨B,e2,rfl,_,_⟩:=Qs.open_ f;have a:Ext w (w.alloc (L #[C A d.fs.length c,C B d.q.length e2,D H d.quota,D H d.fuse,N d.dead] 25)):=xA (xR _) _;have H3:=P0 w 25 #[C A d.fs.length c,C B d.q.length e2,D H d.quota,D H d.fuse,N d.dead];have hc:=lH _ d _ (show DkV _ _ d from⟨_,_,rfl,b.ext a,f.ext a⟩) hl hb;have HC:=J hc;have n:=J a;have l:=mT d.fs d.q;have o:tot d.now=tot (bD d.fs d.q):=oW d.fs d.q;have j:=J (show tot d.now<=2000000000 by omega);have i:=J hn;clear b f a hc l o hb hn;obtain⟨p,r,s,t,x⟩:=ae H3;clear H3;go_enter func175,ntmps175
 go_wp2_with fail
 refine HC.out.mono ?_;rintro e y⟨⟨z,rfl,h⟩,g⟩;have m:=J h;have Kw:=J (xT n.out g);clear h g p r s t x HC;go_wp2_with fail
 refine(Ad _ _ y m.out i.out j.out).mono ?_;rintro e G⟨rfl,rfl⟩;go_wp2_with fail;go_ret;exact⟨rfl,Kw.out⟩
theorem zJ(o:Oq)(v:Value)(w:World)(a:Bs w v o.b):Calls M 112 #[.agg #[D O o.k,sv o.n,sv o.t,v]] w λe w'=>e=.returned (N (bO o))/\Ext w w':=by
 obtain⟨A,c,rfl,_,_⟩:=xO a;obtain⟨k,n,t,b⟩:=o;dsimp only at *;have d:Ext w (w.alloc (L #[D O k,sv n,sv t,C A b.length c] 98)):=xA (xR _) _;have h:=P0 w 98 #[D O k,sv n,sv t,C A b.length c];have g:=J d;clear d a;simp only[sv]at *;obtain⟨F,d⟩:∃F,bO ⟨k,n,t,b⟩=F:=⟨_,rfl⟩;rw[d];have a:=lK ⟨k,n,t,b⟩;rw[d]at a;dsimp only at a;have f:=J a;clear d a;obtain⟨a,a,a,a⟩:=blk4 h;clear h;go_enter func112,ntmps112
 go_wp2_with fail
 all_goals
  try(have i:k=3:=(by assumption);subst i)
  first
   | (have j:n=[]:=(by assumption)
      subst j;go_ret;refine⟨ret_bool ?_,g.out⟩;have a:=f.out;rw[Pc,a];simp;done)
   | (go_ret
      refine⟨ret_bool ?_,g.out⟩;have a:=f.out;rw[Pc,a];by_cases hn:n=[]<;>by_cases a:t=[]<;>first | contradiction | (simp[hn,a];done) | (simp[hn,a];omega))
theorem mcR5ca0(h:P:=by
 subst hf;refine ab 0 ?_;refine ab 1 ?_;refine ab 2 ?_;refine ab 3 ?_;refine ab 4 ?_;refine ab 5 ?_;refine ab 6 ?_;refine ab 7 ?_;refine ag 8 ?_;refine ag 9 ?_;refine ag 10 ?_;refine ag 11 ?_;refine ag 12 ?_;refine ag 13 ?_;refine ag 14 ?_;refine ag 15 ?_;refine ag 16 ?_;refine ag 17 ?_;refine ag 18 ?_;refine ag 19 ?_;refine ag 20 ?_;refine ag 21 ?_;refine ag 22 ?_;refine ag 23 ?_;refine ag 24 ?_;refine ag 25 ?_;refine ab 26 ?_;refine aq ?_;go_wp2_with fail;go_ret;exact⟨rfl,xD HE.out⟩):P:=h
theorem mcR5ca1(h:P:=by
 refine ab 13 ?_;refine ab 14 ?_;refine ag 15 ?_;refine ag 16 ?_;refine ag 17 ?_;refine ag 18 ?_;refine ag 19 ?_;refine ab 20 ?_;refine ab 21 ?_;refine aq ?_;go_wp2_with fail;go_ret;exact⟨rfl,xD HE.out⟩):P:=h
def eK(fs:List Fil)(k:Nat):List UInt8:=if k=0 then[]else((fs[k-1]?).map (·.1)).getD []
theorem I7(h:k<T fs):dj (eK fs k) (fs.drop k)=(ltB (eK fs k) fs[k].1&&dj (eK fs (k+1)) (fs.drop (k+1))):=by
 rw[P4 h,dj];have:eK fs (k+1)=fs[k].1:=by
  unfold eK;rw[if_neg (by omega)];simp[h]
 rw[this]
theorem qX(h:k<T fs):eK fs (k+1)=fs[k].1:=by
 unfold eK;rw[if_neg (by omega)];simp[h]
structure R4I (w:World) (b:Nat) (cs:Array Value) (W:World):Prop where
 bl:Blk W b 25 cs
 e:Ext w W
theorem yx(v:Value)(d:Dk)(w:World)(hD:DkV w v d)(hl:T d.fs+T d.q<=900000)(hb:tot d.fs+aL d.q<=900000)(Jb:T d.now<=4000000):
  Calls M 111 #[v] w λe w'=>e=.returned (N d.right)/\Ext w w':=by
 obtain⟨vf,vq,rfl,hF,hQ⟩:=hD;obtain⟨A,c,rfl,_,_⟩:=Fs.open_ hF;obtain⟨B,e2,rfl,_,_⟩:=Qs.open_ hQ;have H4:Ext w (w.alloc (L #[C A d.fs.length c,C B d.q.length e2,D H d.quota,D H d.fuse,N d.dead] 25)):=xA (xR _) _;have H3:=P0 w 25 #[C A d.fs.length c,C B d.q.length e2,D H d.quota,D H d.fuse,N d.dead];have HF:=J hF;have HQ:=J hQ;have Jg:=J hb;have Jp:=J Jb;have f:=J (show R4I w w.heap.size #[C A d.fs.length c,C B d.q.length e2,D H d.quota,D H d.fuse,N d.dead] _ from⟨H3,H4⟩);obtain⟨R,hR⟩:∃R,d.right=R:=⟨_,rfl⟩;have X:=J hR;rw[hR];clear hF hQ hb H4 hR Jb;obtain⟨m,r,s,t,x⟩:=ae H3;clear H3;go_enter func111,ntmps111
 go_wp2_with fail;clear m r s t x;go_loopw [3] (λi wr=>∃k:Nat,k<=T d.fs/\i=D H k/\Hid (dj [] d.fs=dj (eK d.fs k) (d.fs.drop k))/\Hid (R4I w w.heap.size #[C A d.fs.length c,C B d.q.length e2,D H d.quota,D H d.fuse,N d.dead] wr)) (λi _=>T d.fs-(intOf i).toNat)
 case atStart=>exact⟨0,P9 _,rfl,rfl,f⟩
 case round=>
  clear f;obtain⟨k,hk,rfl,Kk,f⟩:=hrel;have HE:=J f.e;obtain⟨m,r,s,t,x⟩:=ae f.bl;by_cases p:k<T d.fs
  ·obtain⟨_,b,O,rfl,hc⟩:=(HF.ext f.e).at_ (by omega);obtain⟨Hl,_⟩:=hc k p;have g:=Kk.out;rw[I7 p]at g;have Y:=J g;have JU:(k:Int)<(T d.fs:Int):=by omega
   clear g Kk;cases k with
   |zero=>
    clear hc;generalize d.fs[0].1=n at *;simp only[sv]at *;simp only[Nat.zero_mul,Nat.add_zero]at Hl;go_wp2_with fail
    refine wp_region_held_drew (S:=λW=>W.cell? ⟨w.heap.size,0,G⟩=I (C (I ⟨b,O,G⟩) d.fs.length c)/\W.cell? ⟨b,O,G⟩=I (E ⟨n.toArray⟩)) (by kernel_rfl) ⟨m,Hl⟩ (λ_=>?_);by_cases hn:n=[]
    case pos=>
     have KP:(n==[])=true:=by simpa using hn
     have hf:false=R:=by
      rw[<-X.out];unfold Dk.right;rw[Y.out,hn,show ltB (eK d.fs 0) []=false from rfl,Pd];rfl
     exact mcR5ca0
    have KP:(n==[])=false:=by simpa using hn
    have z:=J (show dj [] d.fs=dj (eK d.fs 1) (d.fs.drop 1) by rw[Y.out,show ltB (eK d.fs 0) n=true from ltB_nil.2 hn,Pb]);clear hn Y;refine ab 0 ?_;refine ab 1 ?_;refine ab 2 ?_;refine ab 3 ?_;refine ab 4 ?_;refine ab 5 ?_;refine ab 6 ?_;refine ab 7 ?_;refine ab 8 ?_;refine ab 9 ?_;refine ab 10 ?_;refine ag 11 ?_;refine ag 12 ?_;refine ag 13 ?_;refine ag 14 ?_;refine ag 15 ?_;refine ag 16 ?_;refine ag 17 ?_;refine ag 18 ?_;refine ag 19 ?_;refine ag 20 ?_;refine ag 21 ?_;refine ag 22 ?_;refine ag 23 ?_;refine ag 24 ?_;refine ab 25 ?_;refine ab 26 ?_;refine aq ?_;go_wp2_with fail
    go_roundw
    case rel=>exact⟨1,by omega,by go_num,z,⟨f.bl.ext (xD (xR _)),xD HE.out⟩⟩
    case measure=>simp[intOf];omega
   |succ j=>
    obtain⟨Jc,_⟩:=hc j (by omega);have JL:(0:Int)<=(j:Int)+1:=by omega
    have JM:(0:Int)<(j:Int)+1:=by omega
    have JN:IntKind.i64.wrap (j:Int)=(j:Int):=by rw[IntKind.wrap_i64];omega
    have JO:(j:Int)<(T d.fs:Int):=by omega
    have g:=Y.out;rw[qX (by omega:j<T d.fs),qX p]at g;have Ky:=J (qX p);have z:=J g;have JT:j+1<T d.fs:=p;clear g Y;clear hc;obtain⟨n,Y⟩:∃n,d.fs[j+1].1=n:=⟨_,rfl⟩;obtain⟨l,p⟩:∃l,d.fs[j].1=l:=⟨_,rfl⟩;rw[Y]at Hl z Ky;rw[p]at Jc z;clear Y p;simp only[sv]at *;go_wp2_with fail
    refine wp_region_held_drew (S:=λW=>W.cell? ⟨w.heap.size,0,G⟩=I (C (I ⟨b,O,G⟩) d.fs.length c)/\W.cell? ⟨b,O+(j+1)*2,G⟩=I (E ⟨n.toArray⟩)/\W.cell? ⟨b,O+j*2,G⟩=I (E ⟨l.toArray⟩)) (by kernel_rfl) ⟨m,Hl,Jc⟩ (λ_=>?_);by_cases hn:n=[]
    case pos=>
     have KP:(n==[])=true:=by simpa using hn
     have hf:false=R:=by
      rw[<-X.out];unfold Dk.right;rw[z.out,hn,show ltB l []=false from(by cases l<;>rfl),Pd];rfl
     exact mcR5ca0
    have KP:(n==[])=false:=by simpa using hn
    clear hn;cases a:ltB l n with
    |false=>
     have Hf:Op.bytesLess l n=false:=a;have hf:false=R:=by
      rw[<-X.out];unfold Dk.right;rw[z.out,a];rfl
     subst hf;clear a;refine ab 0 ?_;refine ab 1 ?_;refine ab 2 ?_;refine ab 3 ?_;refine ab 4 ?_;refine ab 5 ?_;refine ab 6 ?_;refine ab 7 ?_;refine ab 8 ?_;refine ab 9 ?_;refine ab 10 ?_;refine ab 11 ?_;refine ab 12 ?_;refine ab 13 ?_;refine ab 14 ?_;refine ab 15 ?_;refine ab 16 ?_;refine ab 17 ?_;refine ab 18 ?_;refine ab 19 ?_;refine ab 20 ?_;refine ab 21 ?_;refine ab 22 ?_;refine ab 23 ?_;refine ab 24 ?_;refine ab 25 ?_;refine ab 26 ?_;refine aq ?_;go_wp2_with fail;go_ret;exact⟨rfl,xD HE.out⟩
    |true=>
     have Hf:Op.bytesLess l n=true:=a;have p:=J (show dj [] d.fs=dj (eK d.fs (j+1+1)) (d.fs.drop (j+1+1))from by rw[z.out,a,Pb,Ky.out]);clear a z Ky;refine ab 0 ?_;refine ab 1 ?_;refine ab 2 ?_;refine ab 3 ?_;refine ab 4 ?_;refine ab 5 ?_;refine ab 6 ?_;refine ab 7 ?_;refine ab 8 ?_;refine ab 9 ?_;refine ab 10 ?_;refine ab 11 ?_;refine ab 12 ?_;refine ab 13 ?_;refine ab 14 ?_;refine ab 15 ?_;refine ab 16 ?_;refine ab 17 ?_;refine ab 18 ?_;refine ab 19 ?_;refine ab 20 ?_;refine ab 21 ?_;refine ab 22 ?_;refine ab 23 ?_;refine ab 24 ?_;refine ab 25 ?_;refine ab 26 ?_;refine aq ?_;go_wp2_with fail
     go_roundw
     case rel=>exact⟨j+1+1,by omega,by go_num,p,⟨f.bl.ext (xD (xR _)),xD HE.out⟩⟩
     case measure=>simp[intOf];omega
  ·obtain rfl:k=T d.fs:=by omega
   have g:=Kk.out;rw[P7,dj]at g;have Kj:=J (show(d.q.all bO&&decide (T d.q<=400)&&decide (0<=d.quota)&&decide (0<=d.fuse)&&decide ((tot d.now:Int)<=d.quota))=R from by rw[<-X.out];unfold Dk.right;rw[g,Pb]);clear Kk g X;go_wp2_with fail;clear m r s t x;go_loopw [4] (λi wr=>∃k:Nat,k<=T d.q/\i=D H k/\Hid (d.q.all bO=(d.q.drop k).all bO)/\Hid (R4I w w.heap.size #[C A d.fs.length c,C B d.q.length e2,D H d.quota,D H d.fuse,N d.dead] wr)) (λi _=>T d.q-(intOf i).toNat)
   case atStart=>exact⟨0,P9 _,rfl,rfl,f⟩
   case round=>
    clear f HE;obtain⟨V,a,rfl,Hr,f⟩:=hrel;have HE:=J f.e;obtain⟨m,r,s,t,x⟩:=ae f.bl;by_cases F:V<T d.q
    ·obtain⟨_,b,O,rfl,hc⟩:=(HQ.ext f.e).at_ (by omega);obtain⟨a,a,a,a,a,a,a⟩:=hc V F;have Q:=Hr.out;rw[P4 F,List.all_cons]at Q;have Ki:=J Q;have HC:=J (λW g=>zJ d.q[V] _ W (Bs.ext a g));clear hc Q Hr a;generalize d.q[V]=o at *;simp only[sv]at *;go_wp2_with fail
     refine(HC _ (xR _)).mono ?_;rintro e w1⟨rfl,a⟩;have KX:=J (show R4I w w.heap.size #[C A d.fs.length c,C (I ⟨b,O,G⟩) d.q.length e2,D H d.quota,D H d.fuse,N d.dead] w1 from⟨f.bl.ext a,xT HE a⟩);clear m r s t x f HE a;cases U:bO o with
     |false=>
      have hf:false=R:=by rw[<-Kj.out,Ki.out,U];rfl
      subst hf;clear Ki Kj;go_wp2_with fail;go_ret;exact⟨rfl,KX.e⟩
     |true=>
      have a:=J (show d.q.all bO=(d.q.drop (V+1)).all bO by rw[Ki.out,U,Pb]);clear Ki U;go_wp2_with fail
      go_roundw
      case rel=>exact⟨V+1,by omega,by go_num,a,KX⟩
      case measure=>simp[intOf];omega
    ·obtain rfl:V=T d.q:=by omega
     have Q:=Hr.out;rw[P7]at Q;have Z:=J (show(decide (T d.q<=400)&&decide (0<=d.quota)&&decide (0<=d.fuse)&&decide ((tot d.now:Int)<=d.quota))=R from by rw[<-Kj.out,Q];rfl);clear Q Hr Kj;have Hm:=J f.bl;go_wp2_with fail
     refine wp_region_held_drew (S:=λW=>W.cell? ⟨w.heap.size,0,G⟩=I (C A d.fs.length c)/\W.cell? ⟨w.heap.size,1,G⟩=I (C B d.q.length e2)/\W.cell? ⟨w.heap.size,2,G⟩=I (D H d.quota)/\W.cell? ⟨w.heap.size,3,G⟩=I (D H d.fuse)/\W.cell? ⟨w.heap.size,4,G⟩=I (N d.dead)) (by kernel_rfl) ⟨m,r,s,t,x⟩ (λ_=>?_);by_cases h4:T d.q<=400
     case neg=>
      have Jy:decide (((T d.q:Nat):Int)<=400)=false:=by simp;omega
      have hf:false=R:=by rw[<-Z.out];simp[h4]
      subst hf;clear Z h4;refine ab 0 ?_;refine ab 1 ?_;refine ab 2 ?_;refine ab 3 ?_;refine ab 4 ?_;refine ag 5 ?_;refine ag 6 ?_;refine ag 7 ?_;refine ab 8 ?_;refine ab 9 ?_;refine ag 10 ?_;refine ag 11 ?_;refine ag 12 ?_;exact mcR5ca1
     have Jy:decide (((T d.q:Nat):Int)<=400)=true:=by simp;omega
     have Hp:=J (show(decide (0<=d.quota)&&decide (0<=d.fuse)&&decide ((tot d.now:Int)<=d.quota))=R from by rw[<-Z.out];simp[h4]);clear Z h4;by_cases y:0<=d.quota
     case neg=>
      have KR:decide (0<=d.quota)=false:=by simpa using y
      have hf:false=R:=by rw[<-Hp.out,KR];rfl
      subst hf;clear Hp y;refine ab 0 ?_;refine ab 1 ?_;refine ab 2 ?_;refine ab 3 ?_;refine ab 4 ?_;refine ab 5 ?_;refine ab 6 ?_;refine ab 7 ?_;refine ab 8 ?_;refine ab 9 ?_;refine ag 10 ?_;refine ag 11 ?_;refine ag 12 ?_;exact mcR5ca1
     have KR:decide (0<=d.quota)=true:=by simpa using y
     have Hq:=J (show(decide (0<=d.fuse)&&decide ((tot d.now:Int)<=d.quota))=R from by rw[<-Hp.out,KR];rfl);clear Hp y;by_cases hf0:0<=d.fuse
     case neg=>
      have KN:decide (0<=d.fuse)=false:=by simpa using hf0
      have hf:false=R:=by rw[<-Hq.out,KN];rfl
      subst hf;clear Hq hf0;refine ab 0 ?_;refine ab 1 ?_;refine ab 2 ?_;refine ab 3 ?_;refine ab 4 ?_;refine ab 5 ?_;refine ab 6 ?_;refine ab 7 ?_;refine ab 8 ?_;refine ab 9 ?_;refine ab 10 ?_;refine ab 11 ?_;refine ab 12 ?_;exact mcR5ca1
     have KN:decide (0<=d.fuse)=true:=by simpa using hf0
     have KC:=J (show decide ((tot d.now:Int)<=d.quota)=R from by rw[<-Hq.out,KN];rfl);clear Hq hf0;refine ab 0 ?_;refine ab 1 ?_;refine ab 2 ?_;refine ab 3 ?_;refine ab 4 ?_;refine ab 5 ?_;refine ab 6 ?_;refine ab 7 ?_;refine ab 8 ?_;refine ab 9 ?_;refine ab 10 ?_;refine ab 11 ?_;refine ab 12 ?_;refine ab 13 ?_;refine ab 14 ?_;refine ab 15 ?_;refine ab 17 ?_;refine ab 18 ?_;refine ah 16 (λK hK=>?_);go_simp;refine(Ig _ d _ (show DkV _ _ d from⟨_,_,rfl,HF.ext (xD HE.out),HQ.ext (xD HE.out)⟩) hl Jg Jp.out).mono ?_;rintro e a⟨rfl,f⟩;have a:=xT (xD (xR _)) f;have g:=J (xT HE a);clear m r s t x;obtain⟨m,r,s,t,x⟩:=ae (Hm.ext a);clear a f;refine af hK _ _ ⟨m,r,s,t,x⟩ (λ_=>?_);refine ab 19 ?_;refine ab 20 ?_;refine ab 21 ?_;refine aq ?_;go_wp2_with fail;go_ret;exact⟨by rw[<-KC.out];rfl,g.out⟩
