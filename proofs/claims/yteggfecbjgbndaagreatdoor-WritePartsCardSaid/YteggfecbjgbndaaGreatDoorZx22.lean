/- Merged -/
import Derived.Test.YteggfecbjgbndaaGreatDoorZx21
set_option linter.all false
set_option maxHeartbeats 8000000
set_option maxRecDepth 100000
open Go.Proofs.Tryz
open List renaming length->U
open Go.Value renaming int->C,pointer->L,slice->O,bool->S,agg->T
open Go.IntKind renaming i64->F
open Option renaming none->G,some->N
open Go.Proofs.Tryz renaming prog->H
open Go.Mv renaming aN->I
open Go.Obj renaming cells->Q
open Go.RowKit.Below renaming setCell->P0
open Array renaming replicate->P1,replicate_zero->P2,replicate_succ->P3
open Go.Value renaming slice->P4,ownBlock->P5
open Go.IntKind renaming wrap_i64->P6,i64->P7
open Go.Mv.Blk renaming new->P8
open List renaming take_length->P9,length_nil->Pa,drop_eq_getElem_cons->Pb,append_toArray->Pc,size_toArray->Pd,push_toArray->Pe,append_assoc->Pf,length_drop->Pg,drop_length->Ph,cons_append->Pi,drop_left->Pj
open Go.Mv.Ext renaming grown->Pk,cell->Pl
open Nat renaming reduceSub->Pm,reduceAdd->Pn,le_trans->Po
namespace Go.Proofs.YteggfecbjgbndaaGreatDoor
open Go.RowKit Go.Mv
variable {cs:Array Value} {m:Mf} {b:Nat} {t:TypeId} {W:World}
theorem Lv(v vs:Value)(fs:List Fil)(m:Mf)(index:Int)(w:World)(hS:StW w)(hF:Fs w v fs)(hG:Sgs w vs m.segs)(hl:U fs<=4000000)(HI:∀f∈fs,U f.2<=2000000)(HQ:∀s∈m.segs,1<=s.first/\s.first<=1073741820/\-1<=s.count/\s.count<=4)(JA:0<=index/\index<=1073741824)(hn:U m.segs<=60):
  Calls H 43 #[v,T #[C F m.next,C F m.term,C F m.vote,C F m.sq,C F m.sf,vs],C F index] w (Cq w (fk fs m index)):=by
 obtain⟨A,c,rfl,_,_⟩:=Fs.open_ hF;obtain⟨B,d,rfl,_,_⟩:=hG.open_;have Hk:=P8 w 30 #[C F m.next,C F m.term,C F m.vote,C F m.sq,C F m.sf,O B m.segs.length d];have hX:Ext w (w.alloc (Q #[C F m.next,C F m.term,C F m.vote,C F m.sq,C F m.sf,O B m.segs.length d] 30)):=xA (xR _) _;have K2:(w.alloc (Q #[C F m.next,C F m.term,C F m.vote,C F m.sq,C F m.sf,O B m.segs.length d] 30)).heap.size=w.heap.size+1:=by simp
 have Gu:P7.wrap (index+1)=index+1:=by rw[P6];omega
 obtain⟨R,o⟩:∃R,fk fs m index=R:=⟨_,rfl⟩;rw[o];unfold fk at o;have HR:=I o;have HX:=I hX;have Hb:=I Hk;have HF:=I hF;have HG:=I hG;have HS:=I hS;have JU:=I HI;have Kb:=I HQ;have Gk:=I JA;obtain⟨G6,G7⟩:=JA;clear o hX Hk hF hG hS HI HQ;go_enter func43,ntmps43
 go_wp2_with fail
 go_loopw [8,9,10] (λvo vl x W=>∃(j:Nat) (J:Option Addr) (V:Nat) (i:List Ent) (a:Int),j<=U m.segs/\x=C F j/\vo=O J i.length V/\vl=C F a/\Hid (fi fs index m.segs (index+1) []=fi fs index (m.segs.drop j) a i)/\Hid (U i<=4*j)/\Hid (OwnE W (w.heap.size+1) (O J i.length V) i)/\Ext (w.alloc (Q #[C F m.next,C F m.term,C F m.vote,C F m.sq,C F m.sf,O B m.segs.length d] 30)) W) (λ_ _ x _=>U m.segs-(intOf x).toNat)
 case atStart=>exact⟨0,none,0,[],index+1,by omega,rfl,rfl,rfl,I rfl,I (by simp),I (World.ownsRow_nil _ _ _ _),xR _⟩
 case round=>
  rename World=>wo
  obtain⟨j,J,V,i,a,hj,rfl,rfl,rfl,HP,Jh,HO,K1⟩:=hrel;have JM:=I K1;have M:=I (xT HX K1);obtain⟨_,_,_,_,_,M5⟩:=aj (Hb.ext K1);by_cases p:j<U m.segs
  ·obtain⟨_,b,Hv,rfl,Y⟩:=(HG.ext M).at_ (by omega);obtain⟨s0,s1,s2,s3⟩:=Y j p;have hP:=HP.out;rw[Pb p,fi]at hP;obtain⟨k1,k2,k3,k4⟩:=Kb _ (List.getElem_mem p);obtain⟨s,hs⟩:∃s,m.segs[j]=s:=⟨_,rfl⟩;have t2:w.cell? ⟨b,Hv+j*4+2,G⟩=N (C F s.first):=by
    obtain⟨_,b1,Gi,Hi,G5⟩:=HG.at_ (by omega);cases Hi;have:=(G5 j p).2.2.1;rwa[hs]at this
   rw[hs]at s0 s1 s2 s3 hP k1 k2 k3 k4;have key:=tC (O A fs.length c) fs s wo (HS.ext M) (HF.ext M) hl JU;obtain⟨rx,Ko⟩:∃r,bw fs s=r:=⟨_,rfl⟩;rw[Ko]at key hP;have JB:=λx (h:rx=N x)=>qc (Ko.trans h);have Jl:=I JB;have H9:=I key;have K8:=I hP;have Gr:(j:Int)<(U m.segs:Int):=by omega
   clear Y hP key Ko JB HP K1 hs;go_wp2_with fail
   refine H9.mono ?_;rintro e w2⟨vx,rfl,Z,HZ⟩;have Jg:=I HZ;have K6:=I (ai HO HZ);have K3:=I Z;have Gn:=HZ.cell M5;obtain⟨K,X,rfl,_,_⟩:=xO (xW Z);cases rx with
   |none=>
    have o:=HR.out;rw[K8.out]at o;obtain rfl:(([],false):List Ent×Bool)=R:=o;dsimp only[Option.isSome];go_wp2_with fail
    go_ret2;exact⟨_,rfl,World.ownsRow_nil _ _ _ _,xT M Jg⟩
   |some x=>
    obtain⟨l1,l2⟩:=Jl x rfl;dsimp only[Option.isSome,Option.getD]at K3⊢;have Gh:U x<=4:=by
     by_cases h:s.count = -1
     ·exact(l1 h).2
     have:=l2 h;omega
    have JQ:Hid (fi fs index m.segs (index+1) []=fi fs index (m.segs.drop (j+1)) (if U x=0 then a else s.first+U x-1) (i++x.drop (index+1-s.first).toNat)):=I K8;have HT:∀q,(P4 K x.length X).ownBlock=N q->(P4 J i.length V).ownBlock≠some q:=by
     intro q z n;rcases Z.2 with⟨h,_⟩|⟨g,cap,cur,h,hb,_⟩
     ·rw[show(P4 K x.length X)=_ from h]at z;cases z
     rw[show(P4 K x.length X)=_ from h]at z;obtain rfl:g=q:=by simpa[P5]using z
     rcases HO.2 with⟨h2,_⟩|⟨g2,cap2,cur2,h2,_,hg2,_⟩
     ·rw[h2]at n;cases n
     rw[h2]at n;obtain rfl:g2=g:=by simpa[P5]using n
     have:=(Array.getElem?_eq_some_iff.1 hg2).1;omega
    have Kc:=I HT;have Ka:=I (And.intro k1 (And.intro k2 Gh));have K3:Hid (OwnE w2 wo.heap.size (O K x.length X) x):=I Z;clear HT K8 Jl l1 l2 k3 k4 k1 k2 Z s0 s1 s2 s3 M5 HZ;go_wp2_with fail
    go_loopw [8,9,13] (λvo vl y W=>∃(k:Nat) (E:Option Addr) (P:Nat) (H0:List Ent) (Ha:Int),k<=U x/\y=C F k/\vo=O E H0.length P/\vl=C F Ha/\Hid (H0=i++(x.take k).drop (index+1-s.first).toNat)/\Hid (Ha=if k=0 then a else s.first+k-1)/\Hid (OwnE W (w.heap.size+1) (O E H0.length P) H0)/\Hid (OwnE W wo.heap.size (O K x.length X) x)/\Hid (∀q,(P4 K x.length X).ownBlock=N q->(P4 E H0.length P).ownBlock≠some q)/\Ext (w.alloc (Q #[C F m.next,C F m.term,C F m.vote,C F m.sq,C F m.sf,O (N ⟨b,Hv,G⟩) m.segs.length d] 30)) W) (λ_ _ y _=>U x-(intOf y).toNat)
    case atStart=>exact⟨0,J,V,i,a,by omega,rfl,rfl,rfl,I (by simp),I rfl,K6,K3,Kc,xT JM Jg⟩
    case round=>
     obtain⟨k,E,P,H0,Ha,hk,rfl,rfl,rfl,H8,Hr,K7,Jj,Kd,K0⟩:=hrel;have HW:=I K0;have L:=Jj;have K4:=I (xT HX K0);obtain⟨_,_,_,_,_,N5⟩:=aj (Hb.ext K0);have T2:=K4.cell t2;obtain⟨q1,q2,q3⟩:=Ka;have Gv:P7.wrap (s.first+(k:Int))=s.first+(k:Int):=by rw[P6];omega
     have Gf:P7.wrap ((k:Int)+1)=((k+1:Nat):Int):=by rw[P6];omega
     by_cases Km:k<U x
     ·obtain⟨_,bx,ox,rfl,Jw⟩:=Es.at_ (xW L) (by omega);clear Jj;obtain⟨d0,d1,d2⟩:=Jw k Km;have Kk:=LV (first:=s.first) (index:=index) Km;have Gs:(k:Int)<(U x:Int):=by omega
      obtain⟨e,he⟩:∃e,x[k]=e:=⟨_,rfl⟩;rw[he]at d0 d1 d2 Kk;have Jk:=I Kk;have Hq:=I q3;clear he Kk Jw t2 K0 q1 q2 q3;by_cases hgt:index<s.first+(k:Int)
      ·have Jz:=o5 wr e;have Kh:Ext wr (wr.alloc (Q #[C F e.t,C F e.k,C F e.v] 54)):=xA (xR _) _;have Jt:=OwnE.ext K7 Kh;have Gp:=OwnE.ext L Kh;obtain⟨r1,r2⟩:U H0<=244/\w.heap.size+1<=wr.heap.size:=by
        refine⟨?_,?_⟩
        ·have h1:=congrArg List.length H8;rw[xL,Pg,List.length_take]at h1;have h2:=Jh.out;have h3:=Hq.out;omega
        have h4:=HW.size;simp at h4;omega
       have JY:=I r1;have JZ:=I r2;clear r1 r2;go_wp2_with (at_builtin;go_loud (refine C5 rfl (.tmp 52) (.tmp 57) rfl (w.heap.size+1) _ H0 rfl Jt _ [e] rfl Jz (by simp) (by show U H0+1<=_;have:=JY.out;omega) (by rw[xS];have:=JZ.out;omega) ?_);intro A8 c8 w8 JC Jq Kl HD;refine Hid.out ?_)
       refine I ?_;have Hm:Ext (w.alloc (Q #[C F m.next,C F m.term,C F m.vote,C F m.sq,C F m.sf,O (N ⟨b,Hv,G⟩) m.segs.length d] 30)) w8:=Jq _ (xT HW Kh) (by rw[xS];omega);have Gj:=I Hm;simp only[xC,Pa,Nat.zero_add]at JC HD⊢;clear Jt Jz Jq;go_wp2_with fail
       go_roundw
       case rel=>
        have Jv:=L.out;refine⟨k+1,A8,c8,H0++[e],s.first+k,by omega,by go_num,by simp,rfl,?_,?_,?_,?_,?_,Hm⟩
        ·refine I ?_;rw[Jk.out,if_pos hgt,<-Pf,<-H8.out]
        ·refine I ?_;rw[if_neg (by omega)];omega
        ·refine I ?_;rw[show U (H0++[e])=U H0+1 from by simp];exact JC
        ·refine I ?_;have Gg:=OwnE.ext L (xA (xR wr) (Q #[C F e.t,C F e.k,C F e.v] 54));refine Gg.kept Kl (.inr λhh=>?_);exact Kd _ rfl hh.symm
        refine I λq z n=>?_;rw[show U (H0++[e])=U H0+1 from by simp]at n;rcases HD with hh | hh
        ·rw[hh]at n;exact Kd q z n
        rw[hh,xS]at n;have:=(L.lt q z).2;have:wr.heap.size+1=q:=by simpa using n
        omega
       case measure=>simp[intOf];omega
      go_wp2_with fail
      go_roundw
      case rel=>
       refine⟨k+1,E,P,H0,s.first+k,by omega,by go_num,rfl,rfl,?_,?_,K7,L,Kd,HW.out⟩
       ·refine I ?_;rw[Jk.out,if_neg hgt,List.append_nil];exact H8.out
       refine I ?_;rw[if_neg (by omega)];omega
      case measure=>simp[intOf];omega
     obtain rfl:k=U x:=by omega
     go_wp2_with fail
     go_roundw
     case rel=>
      have ho:=H8.out;rw[P9]at ho;refine⟨j+1,E,P,H0,Ha,by omega,by go_num,rfl,rfl,?_,?_,K7,HW.out⟩
      ·refine I ?_;rw[JQ.out,ho,Hr.out]
      refine I ?_;have h1:=Jh.out;rw[ho,xL,Pg];omega
     case measure=>simp[intOf];omega
  ·obtain rfl:j=U m.segs:=by omega
   have o:=HR.out;rw[HP.out,Ph,fi]at o;obtain rfl:=o;have K6:=I (ay HO (Nat.le_succ w.heap.size));clear HP HR HO;have HM:∀W q,Ext wo W->Cq w (i,q) (.returned (.tuple #[O J i.length V,S q])) W:=λW q hE=>⟨_,rfl,ai K6 hE,xT M hE⟩;have Hp:=I HM;clear HM;by_cases hlast:index<a
   ·have hd:decide (index<a)=true:=by simp;omega
    cases D:m.segs with
    |nil=>
     rw[D]at M5;go_wp2_with fail
     go_quiet (fail)
     go_wp2_with fail
     go_ret2;exact Hp _ true (fl (xR _) _)
    |cons s l=>
     have HN:0<U m.segs:=by rw[D];simp
     obtain⟨_,b,Hv,rfl,Y⟩:=(HG.ext M).at_ HN;obtain⟨_,_,s2,_⟩:=Y 0 HN;have e0:m.segs[0]=s:=by simp[D]
     rw[e0]at s2;have e1:((U l:Int)+1==0)=false:=by simp;omega
     clear Y;go_wp2_with fail
     go_quiet (fail)
     go_wp2_with fail
     go_ret2;exact Hp _ (decide (s.first<=index+1)) (fl (xR _) _)
   ·have hd:decide (index<a)=false:=by simp;omega
    go_wp2_with fail
    go_quiet (fail)
    go_wp2_with fail
    go_ret2;exact Hp _ false (fl (xR _) _)
def eT:Tup:=⟨staZ,[],0,0⟩
structure Rd where
 err:Int
 t:Tup
 m:Mf
def bL(e:Int):Rd:=⟨e,eT,mf0⟩
def b9(fs:List Fil):Rd:=match bu fs (aE 1 0 0)with
 |none=>bL 42
 | some b=>match cA b with
  |none=>bL 130
  | some m=>match eI fs m with
   |none=>bL 130
   |some s=>if(fk fs m s.idx).2&&cT ⟨s,(fk fs m s.idx).1,m.term,m.vote⟩then⟨0,⟨s,(fk fs m s.idx).1,m.term,m.vote⟩,m⟩else bL 130
def bE(t:Tup)(v:Value):Array Value:=#[C F t.s.idx,C F t.s.term,C F t.s.sum,C F t.s.lvl,S t.s.fin,v,C F t.term,C F t.vote]
def zxU(w:World)(r:Rd)(e:Ending)(w':World):Prop:=∃a c,e=.returned (.tuple #[T #[C F r.t.s.idx,C F r.t.s.term,C F r.t.s.sum,C F r.t.s.lvl,S r.t.s.fin,a,C F r.t.term,C F r.t.vote],T #[C F r.m.next,C F r.m.term,C F r.m.vote,C F r.m.sq,C F r.m.sf,c],C F r.err])/\OwnE w' w.heap.size a r.t.log/\OwnS w' w.heap.size c r.m.segs/\Ext w w'
theorem yD{b:List UInt8}(h:cA b=N m):aZ m=true/\bj m=N b:=by
 unfold cA at h;split at h
 ·cases h
 ·split at h
  ·cases h
  ·split at h
   ·rename_i a;cases h;refine⟨?_,a⟩;unfold bj at a;split at a
    ·assumption
    cases a
   ·cases h
theorem pP(h:aZ m=true):∀s∈m.segs,1<=s.first/\s.first<=1073741820/\-1<=s.count/\s.count<=4:=by
 intro s hs;unfold aZ at h;rw[Bool.and_eq_true]at h;exact tx h.2 s (by rw[P9];exact hs)
theorem zp{fs:List Fil}{s:Sta}(h:eI fs m=N s):s.ok=true/\0<=s.idx/\s.idx<=1073741824:=by
 have a:s.ok=true:=by
  unfold eI at h;split at h
  ·cases h;rfl
  split at h
  ·cases h
  exact(zq h).1
 have:=(Sta.okP a).1;unfold aB at this;simp at this;exact⟨a,this⟩
theorem cS(h:Blk W b t cs):W.frozen? ⟨b,0,G⟩=false/\W.frozen? ⟨b,1,G⟩=false/\W.frozen? ⟨b,2,G⟩=false/\W.frozen? ⟨b,3,G⟩=false/\W.frozen? ⟨b,4,G⟩=false/\W.frozen? ⟨b,5,G⟩=false/\W.frozen? ⟨b,6,G⟩=false/\W.frozen? ⟨b,7,G⟩=false:=
 ⟨h.frozen 0,h.frozen 1,h.frozen 2,h.frozen 3,h.frozen 4,h.frozen 5,h.frozen 6,h.frozen 7⟩
def aY(W:World)(b:Nat)(a v u x y z p q:Value):World:=(((((((W.setCell ⟨b,0,G⟩ a).setCell ⟨b,1,G⟩ v).setCell ⟨b,2,G⟩ u).setCell ⟨b,3,G⟩ x).setCell ⟨b,4,G⟩ y).setCell ⟨b,5,G⟩ z).setCell ⟨b,6,G⟩ p).setCell ⟨b,7,G⟩ q
theorem fO{a v u x y z p q:Value}(h:Blk W b t #[a,v,u,x,y,z,p,q])(c d e f g i j q':Value):Blk (aY W b c d e f g i j q') b t #[c,d,e,f,g,i,j,q']:=by
 have k:Blk _ b t #[c,v,u,x,y,z,p,q]:=h.set 0 c;have h1:Blk _ b t #[c,d,u,x,y,z,p,q]:=k.set 1 d;have h2:Blk _ b t #[c,d,e,x,y,z,p,q]:=h1.set 2 e;have h3:Blk _ b t #[c,d,e,f,y,z,p,q]:=h2.set 3 f;have h4:Blk _ b t #[c,d,e,f,g,z,p,q]:=h3.set 4 g;have h5:Blk _ b t #[c,d,e,f,g,i,p,q]:=h4.set 5 i;have k:Blk _ b t #[c,d,e,f,g,i,j,q]:=h5.set 6 j;have l:Blk _ b t #[c,d,e,f,g,i,j,q']:=k.set 7 q';exact l
theorem dB{c:Nat}(h:Blk W b t cs)(H3:b≠c)(a f e g i j d q':Value):Blk (aY W c a f e g i j d q') b t cs:=
 (((((((h.other H3 0 a).other H3 1 f).other H3 2 e).other H3 3 g).other H3 4 i).other H3 5 j).other H3 6 d).other H3 7 q'
theorem iS{w:World}(h:Ext w W)(hb:w.heap.size<=b)(a e d f g i c q':Value):Ext w (aY W b a e d f g i c q'):=
 (((((((P0 h hb a).setCell hb e).setCell hb d).setCell hb f).setCell hb g).setCell hb i).setCell hb c).setCell hb q'
def aO(W:World)(b:Nat)(a v u x y z:Value):World:=(((((W.setCell ⟨b,0,G⟩ a).setCell ⟨b,1,G⟩ v).setCell ⟨b,2,G⟩ u).setCell ⟨b,3,G⟩ x).setCell ⟨b,4,G⟩ y).setCell ⟨b,5,G⟩ z
theorem dA{c:Nat}(h:Blk W b t cs)(H3:b≠c)(a e d f g i:Value):Blk (aO W c a e d f g i) b t cs:=
 (((((h.other H3 0 a).other H3 1 e).other H3 2 d).other H3 3 f).other H3 4 g).other H3 5 i
theorem dQ(hB:Blk W b t cs){e:TypeId}{base size k:Nat}{vv:Value}{xs:List Value}(hr:W.ownsRow base e size vv k xs)(a' v' u' x' y' z' p' q':Value)(H4:t≠e:=by decide):(aY W b a' v' u' x' y' z' p' q').ownsRow base e size vv k xs:=by
 have r0:=hr.kept (ar _ b 0 a') (.inr (hB.not_row H4 hr).symm);have b0:=hB.set 0 a';have r1:=r0.kept (ar _ b 1 v') (.inr (b0.not_row H4 r0).symm);have b1:=b0.set 1 v';have r2:=r1.kept (ar _ b 2 u') (.inr (b1.not_row H4 r1).symm);have b2:=b1.set 2 u';have r3:=r2.kept (ar _ b 3 x') (.inr (b2.not_row H4 r2).symm);have b3:=b2.set 3 x';have r4:=r3.kept (ar _ b 4 y') (.inr (b3.not_row H4 r3).symm);have b4:=b3.set 4 y';have r5:=r4.kept (ar _ b 5 z') (.inr (b4.not_row H4 r4).symm);have b5:=b4.set 5 z';have r6:=r5.kept (ar _ b 6 p') (.inr (b5.not_row H4 r5).symm);have b6:=b5.set 6 p';have r7:=r6.kept (ar _ b 7 q') (.inr (b6.not_row H4 r6).symm);have b7:=b6.set 7 q';exact r7
theorem cU(hB:Blk W b t cs){e:TypeId}{base size k:Nat}{vv:Value}{xs:List Value}(hr:W.ownsRow base e size vv k xs)(a' v' u' x' y' z':Value)(H4:t≠e:=by decide):(aO W b a' v' u' x' y' z').ownsRow base e size vv k xs:=by
 have r0:=hr.kept (ar _ b 0 a') (.inr (hB.not_row H4 hr).symm);have b0:=hB.set 0 a';have r1:=r0.kept (ar _ b 1 v') (.inr (b0.not_row H4 r0).symm);have b1:=b0.set 1 v';have r2:=r1.kept (ar _ b 2 u') (.inr (b1.not_row H4 r1).symm);have b2:=b1.set 2 u';have r3:=r2.kept (ar _ b 3 x') (.inr (b2.not_row H4 r2).symm);have b3:=b2.set 3 x';have r4:=r3.kept (ar _ b 4 y') (.inr (b3.not_row H4 r3).symm);have b4:=b3.set 4 y';have r5:=r4.kept (ar _ b 5 z') (.inr (b4.not_row H4 r4).symm);have b5:=b4.set 5 z';exact r5
theorem oG:Tryz.prog.underlying 44=N (.struct (Tryz.prog.fieldsOf 44)):=by kernel_rfl
theorem Ba(tmps:Array Value)(W:World)(b c:Nat)(cs a:Array Value)(u:Value)(h2:tmps.getD 2 undef=L (N ⟨b,0,G⟩))(h3:tmps.getD 3 undef=L (N ⟨c,0,G⟩))(h4:tmps.getD 4 undef=u)(hb:Blk W b 44 cs)(hc:Blk W c 30 a)(hs:cs.size=8)(d:a.size=6):(results Tryz.f10 tmps).run H W=.ok (.tuple #[.agg cs,.agg a,u]) W:=by
 have hl:=hb.load (P:=H) oG rfl (by rw[hs];kernel_rfl);have hm:=hc.load (P:=H) lP rfl (by rw[d];kernel_rfl);have a:tmps[2]?.getD undef=L (N ⟨b,0,G⟩):=by simpa using h2
 have d:tmps[3]?.getD undef=L (N ⟨c,0,G⟩):=by simpa using h3
 have Hx:tmps[4]?.getD undef=u:=by simpa using h4
 simp[results,results10,a,d,Hx,asAddr,hl,hm]
theorem mS(tmps:Array Value)(w W:World)(b c:Nat)(x0 x1 x2 x3 x4 x5 x6 x7 y0 y1 y2 y3 y4 y5:Value)(er:Int)(R:Rd)(hR:bL er=R)(h2:tmps.getD 2 undef=L (N ⟨b,0,G⟩))(h3:tmps.getD 3 undef=L (N ⟨c,0,G⟩))(h4:tmps.getD 4 undef=C F er)(hb:Blk W b 44 #[x0,x1,x2,x3,x4,x5,x6,x7])(hc:Blk W c 30 #[y0,y1,y2,y3,y4,y5])(hE:Ext w W)(Hk:w.heap.size<=b:=by omega)(G4:w.heap.size<=c:=by omega)(H3:b≠c:=by omega):
  bodyPost H Tryz.f10 (zxU w R) .ret { tmps:=tmps,defers:=[] } (aO (aY W b (C F 0) (C F 0) (C F 0) (C F 0) (S false) (O none 0 0) (C F 0) (C F 0)) c (C F 0) (C F 0) (C F 0) (C F 0) (C F 0) (O none 0 0)):=by
 refine bodyPost_ret (Ba _ _ b c _ _ _ h2 h3 h4 (dA (fO hb _ _ _ _ _ _ _ _) H3 _ _ _ _ _ _) (cQ (dB hc H3.symm _ _ _ _ _ _ _ _) _ _ _ _ _ _) rfl rfl) rfl ?_;subst hR;exact⟨_,_,rfl,⟨rfl,.inl ⟨rfl,rfl⟩⟩,⟨rfl,.inl ⟨rfl,rfl⟩⟩,dD (iS hE Hk _ _ _ _ _ _ _ _) G4 _ _ _ _ _ _⟩
theorem mcTRighta0{P:Prop}(h:P:=by
 gi_wp2_with (first|(refine⟨trivial,?_⟩;gi_at_call 154;refine(callsIn_wd.2 (ik t.s _)).mono ?_;rintro e w1⟨rfl,H2⟩;have Hi:=HB.ext H2;have eb:=l8 Hi) | (refine⟨trivial,?_⟩;gi_at_call 153;(first|refine(callsIn_wd.2 (ln _)).mono ?_ | refine(callsIn_wd.2 (pJ (by omega) _)).mono ?_);rintro e w2⟨he,rfl⟩;obtain rfl:e=.panicked (fz 2):=he) | (refine⟨trivial,?_⟩))
 exact⟨rfl,xT HX H2⟩):P:=h
theorem mcTRighta1{P:Prop}(h:P:=by
 gi_wp2_with (first|(refine⟨trivial,?_⟩;gi_at_call 153;refine(callsIn_wd.2 (ln _)).mono ?_;rintro e w2⟨he,rfl⟩;obtain rfl:e=.panicked (fz 2):=he))
 exact⟨rfl,K9.out⟩):P:=h
theorem oQ(w:World):Calls H 153 #[.bool true] w λa w'=>a=.returned (.tuple #[])/\w=w':=by
 go_enter func153,ntmps153
 go_wp2;go_end0;exact⟨rfl,rfl⟩
theorem ln(w:World):Calls H 153 #[.bool false] w λa w'=>a=pan 2/\w=w':=by
 go_enter func153,ntmps153
 go_wp2;exact⟨rfl,rfl,rfl⟩
theorem pJ{p:Prop}{a:Decidable p}(h:¬p)(w:World):Calls H 153 #[.bool (@decide p a)] w λa w'=>a=pan 2/\w=w':=by
 rw[decide_eq_false h];exact ln w
theorem Ir(p:Addr)(y:Value)(e:Int)(a:List PanicEntry)(w:World)(hc:w.cell? p=N y)(d:w.frozen? p=false):
  CallsD H 152 #[L (some p)] (.panicking ({ v:=.iface 45 (C F e),recovered:=false }::a)) w λc f w'=>
   c=.returned (.tuple #[])/\f=.panicking ({ v:=.iface 45 (C F e),recovered:=true }::a)/\w'=w.setCell p (C F e):=by
 refine callsD_of_wpS func152 rfl λa cs a=>?_;have h1:=AY e;apply wpS_seq;apply wpS_region;simp[wpOpsS,go_sem,recoverD,a,ntmps152,Exit.thenS,h1];apply wpS_seq;apply wpS_region;simp[wpOpsS,go_sem,Exit.thenS,P1];refine wpS_cond (t:=true) (by simp[Act.eval,P1]) ?_;simp only[if_true];apply wpS_region;simp[wpOpsS,go_sem,hc,d,bodyPostS,results,results152,P1]
theorem EO(p:Addr)(w:World):
  CallsD H 152 #[L (some p)] .returning w λc d w'=>c=.returned (.tuple #[])/\d=.returning/\w'=w:=by
 refine callsD_of_wpS func152 rfl λa cs c=>?_;have h1:=Cc;apply wpS_seq;apply wpS_region;simp[wpOpsS,go_sem,recoverD,c,ntmps152,Exit.thenS,h1];apply wpS_seq;apply wpS_region;simp[wpOpsS,go_sem,Exit.thenS,P1];refine wpS_cond (t:=false) (by simp[Act.eval,P1]) ?_;simp only[Bool.false_eq_true,if_false];refine wpS_of_wp ?_;cases a;simp_all[wp_skip,bodyPostS,results,results152]
theorem DS(cs:Array Value)(hs:cs.size=8)(w:World):Calls H 155 #[.agg cs] w λe w'=>e=.returned (.func (.func 208) #[] #[L (N ⟨w.heap.size,0,G⟩)])/\w.alloc (Q cs 44)=w':=by
 obtain⟨a,c,d,f,g,h,i,j,rfl⟩:∃a c d f g h i j,cs = #[a,c,d,f,g,h,i,j]:=by
  obtain⟨l⟩:=cs;match l,hs with
  |[a,c,d,f,g,h,i,j],_=>exact⟨_,_,_,_,_,_,_,_,rfl⟩
 go_enter func155,ntmps155
 go_wp2;go_ret;exact⟨rfl,rfl⟩
attribute [local go_sem] Oper.semAt_some in
theorem Do(h g:World)(t:Tup)(v:Value)(y:Es h v t.log)(r:U t.log<=4000000)(hH:Hold h g)(B r:Nat)(w:Blk g B 44 (bE t v))(V:B≠r)(h1:h.heap.size<=r):
  py H 208 #[L (N ⟨B,0,G⟩)] (λ(x:Ent) av _=>∃n,av = #[C F n,x.val]) (λk o=>k≠r/\o.isCells=true) (λ_ _=>False) t.log none g:=by
 intro l J r r hJ r r z h0;obtain⟨A,c,rfl,r,r⟩:=xO y;refine(callsIn_wd (ro:=none) (n:=9)).1 ?_;refine callsIn_of_wp func208 rfl trivial ?_ rfl;simp only[ntmps208,Pd,xC,Pa,Pn,Pm,P3,P2,Pe,Pc,xI,Pi];have JW:=I y;clear y;obtain⟨s,a,S,T⟩:=t;dsimp only at *;have r:g.cell? ⟨B,5,G⟩=N (O A a.length c):=w.cell 5 rfl;have i:=I w;clear w;gi_wp2;clear r;gi_loopw [8] (λj W=>∃k:Nat,j=C F k/\k<=U a/\Hid (J (a.take k) W)/\Hold h W/\Hid (Blk W B 44 (bE ⟨s,a,S,T⟩ (O A a.length c)))/\g.heap.size<=W.heap.size) (λj _=>U a+1-(intOf j).toNat)
 case atStart=>exact⟨0,rfl,by omega,h0,hH,i,xN _⟩
 case round=>
  clear i;obtain⟨k,rfl,Km,p,D,i,K2⟩:=hrel;by_cases f:k<U a
  ·obtain⟨_,b,X,rfl,hc⟩:=Es.at_ (JW.keep D) (by omega);have P:=hc k f;have w:a.take (k+1)=a.take k++[a[k]]:=List.take_succ_eq_append_getElem f;have r:a=a.take k++a[k]::a.drop (k+1):=by rw[<-Pb f,List.take_append_drop]
   have J:=I z;have JS:=I w;have K:=I r;clear hc z w r;generalize a[k]=x at *;have f:Ext wr (wr.alloc (Q #[C F x.t,C F x.k,C F x.v] 54)):=xA (xR _) _;have w:=hJ _ wr (wr.alloc (Q #[C F x.t,C F x.k,C F x.v] 54)) p (Moves.refl.alloc _);have E:=Po K2 f.size;have r:=i.ext f;have i:Hold h (wr.alloc (Q #[C F x.t,C F x.k,C F x.v] 54)):=λq u h=>Pl f (D q u h);have y:=λn=>J.out _ x _ K _ #[C F n,x.val] w E ⟨n,rfl⟩;have D:=I y;have Z:=I i;have h:=P8 wr 54 #[C F x.t,C F x.k,C F x.v];have R:=ez h;have M:(wr.alloc (Q #[C F x.t,C F x.k,C F x.v] 54)).cell? ⟨B,0,G⟩=N (C F s.idx):=r.cell 0 rfl;have Y:=I r;clear y w i f h r;gi_wp2;refine C3 (D _) ?_;rintro e W' (⟨hk',⟨rfl,d⟩|⟨rfl,d⟩⟩|⟨cc,rfl,d⟩)
   ·refine .inl ⟨true,rfl,?_⟩;have h:Blk W' B 44 (bE ⟨s,a,S,T⟩ (O (N ⟨b,X,G⟩) a.length c)):=hk'.same _ _ Y (.inl ⟨V,rfl⟩);have i:g.heap.size<=W'.heap.size:=Po E hk'.size;have r:=I (Hold.keptK Z (λ_ _ hk f=>⟨by omega,f⟩) hk');have f:=I d;have g:=I h;clear d hk' M h P R;gi_wp2;exact⟨⟨k+1,by go_num,by omega,by rw[JS.out];exact f.out,r.out,g,i⟩,by simp[intOf];omega⟩
   ·refine .inl ⟨false,rfl,?_⟩;have f:=I d;clear d hk' M P R;gi_wp2;refine bodyPost_ret (results_none rfl _ _ _) rfl ?_;refine .inr (.inr (.inl ⟨⟨_,rfl⟩,a.take k++[x],⟨a.drop (k+1),?_⟩,f.out⟩));rw[Pf];exact K.symm
   refine .inr ⟨cc,rfl,?_⟩;exact⟨rfl,.inr (.inr (.inr ⟨cc,rfl,d⟩))⟩
  ·obtain rfl:k=U a:=by omega
   have d:=p.out;rw[P9]at d;have p:=I d;clear z d;gi_wp2;refine bodyPost_end (results_none rfl _ _ _) rfl ?_;exact .inl ⟨trivial,⟨_,rfl⟩,p.out⟩
def iZ(t:Tup):Ending:=if cT t then .returned (.tuple #[])else pan 2
theorem l8{ty:TypeId}{t:Tup}{v:Value}(h:Blk W b ty (bE t v)):W.cell? ⟨b,0,G⟩=N (C F t.s.idx)/\W.cell? ⟨b,1,G⟩=N (C F t.s.term)/\W.cell? ⟨b,2,G⟩=N (C F t.s.sum)/\W.cell? ⟨b,3,G⟩=N (C F t.s.lvl)/\W.cell? ⟨b,4,G⟩=N (S t.s.fin)/\W.cell? ⟨b,5,G⟩=N v/\W.cell? ⟨b,6,G⟩=N (C F t.term)/\W.cell? ⟨b,7,G⟩=N (C F t.vote):=aU h
structure CkI (w:World) (bl:Nat) (t:Tup) (v:Value) (Ho:List Ent) (W:World):Prop where
 bx:Blk W w.heap.size 44 (bE t v)
 la:∃ c,Boxed W bl 3 (C F c)/\goT t.s.term t.log=goT c (t.log.drop Ho.length)
 e:Ext w W
theorem Ca:∀(l:List Ent) (c x:Int),goT c l=N x->c<=x
 |[],c,x,h=>by unfold goT at h;cases h;exact Int.le_refl _
 | e::l,c,x,h=>by
  unfold goT at h;split at h
  ·rename_i hc;have:=Ca l _ _ h;simp at hc;omega
  ·cases h
theorem nN{P:Program}{n:Nat}{fn:Func}{tmps:Array Value}{R:Ending->World->Prop}{D:Nat}{c:List PanicEntry}(a:W.heap[D]?=N (.deferred (some [])))(d:R (.panicked c) (W.putObj D (.deferred none))):
  bodyPostM (Wd none) n P fn R (.panic c) ⟨tmps,[{ target:=.collected D,args:=#[] }]⟩ W:=
 ⟨by simp,.inl ⟨_,_,rfl,run_takeDeferred a,d⟩⟩
def fz(e:Int):List PanicEntry:=[{ v:=.iface 45 (C F e),recovered:=false }]
theorem iY{t:Tup}(h:cT t=false):iZ t=pan 2:=by unfold iZ;rw[h];rfl
theorem rZ{t:Tup}(h:cT t=true):iZ t=.returned (.tuple #[]):=by unfold iZ;rw[h];rfl
attribute [local go_sem] Oper.semAt_some in
theorem LJ(t:Tup)(v:Value)(w:World)(f:Es w v t.log)(H7:U t.log<=4000000):
  Calls H 88 #[.agg (bE t v)] w λen w'=>en=iZ t/\Ext w w':=by
 obtain⟨A,c,rfl,Hi,G3⟩:=xO f;obtain⟨E,Ki⟩:∃E,iZ t=E:=⟨_,rfl⟩;rw[Ki];have P:=I Ki;have HE:=I f;clear Ki f;refine(callsIn_wd (ro:=none) (n:=9)).1 ?_;refine CK func88 rfl ?_;simp only[ntmps88,Pd,xC,Pa,Pn,Pm,P3,P2,Pe,Pc,xI,Pi];have Hk:Blk _ w.heap.size 44 (bE t (O A t.log.length c)):=P8 w 44 (bE t (O A t.log.length c));have hX:Ext w (w.alloc (Q (bE t (O A t.log.length c)) 44)):=xA (xR _) _;have ea:=l8 Hk;have HX:=I hX;have HB:=I Hk;clear Hk hX;have HA:dF t=false->pan 2=E:=λh=>by rw[<-P.out];exact(iY (by unfold cT;rw[h];rfl)).symm
 have B:=I HA;clear HA;unfold bE at *;refine lM (lR (n:=9) ?_);gi_wp2;refine lM (lR (n:=9) ?_);by_cases h1:t.s.ok=true
 case neg=>
  obtain rfl:=B (by unfold dF;simp[h1]);have h1:t.s.ok=false:=by simpa using h1
  exact mcTRighta0
 by_cases h2:t.s.idx<=1073740824
 case neg=>
  obtain rfl:=B (by unfold dF;simp[h2]);exact mcTRighta0
 by_cases h3:(U t.log:Int)<=200
 case neg=>
  obtain rfl:=B (by unfold dF;simp;omega);have Jo:¬(U t.log<=200):=by omega
  exact mcTRighta0
 gi_wp2_with (first|(refine⟨trivial,?_⟩;gi_at_call 154;refine(callsIn_wd.2 (ik t.s _)).mono ?_;rintro e w1⟨rfl,H2⟩;have Hi:=HB.ext H2;have eb:=l8 Hi) | (refine⟨trivial,?_⟩;gi_at_call 153;refine(callsIn_wd.2 (oQ _)).mono ?_;rintro e w2⟨rfl,rfl⟩))
 have Ju:=xT HX H2;have K9:=I Ju;have Hw:=I Hi;have HL:=I h3;clear H2 Hi HX HB Ju ea;refine lM (lR (n:=9) ?_);by_cases h4:0<=t.vote
 case neg=>
  obtain rfl:=B (by unfold dF;simp[h4]);exact mcTRighta1
 by_cases h5:t.vote<=5
 case neg=>
  obtain rfl:=B (by unfold dF;simp[h5]);exact mcTRighta1
 have Hn:dF t=true:=by unfold dF;simp[h1,h2,h4,h5];omega
 have Kn:cT t=(match goT t.s.term t.log with | none=>false | some x=>decide (x<=t.term)&&decide (0<=t.term)&&decide (t.term<=1073741824)):=by unfold cT;rw[Hn,Bool.true_and];cases goT t.s.term t.log<;>rfl
 have JF:0<=t.s.term:=by have:=(Sta.okP h1).2.1;unfold aB at this;simp at this;exact this.1
 by_cases h6:t.term<=1073741824
 case neg=>
  obtain rfl:pan 2=E:=by
   rw[<-P.out];refine(iY ?_).symm;rw[Kn];cases goT t.s.term t.log<;>simp[h6]
  exact mcTRighta1
 gi_wp2_with (first|(refine⟨trivial,?_⟩;gi_at_call 153;refine(callsIn_wd.2 (oQ _)).mono ?_;rintro e w2⟨rfl,rfl⟩))
 have HY:=I Kn;have JR:=I JF;have H6:=I h6;clear h1 h2 h3 h4 h5 h6 Hn B Kn JF;refine lM (lR (n:=9) ?_);gi_wp2;have B:Ext w1 (w1.alloc (Q #[C F t.s.term] 3)):=xA (xR _) _;have HI:=Boxed.new w1 3 (C F t.s.term);have G9:w.heap.size<w1.heap.size:=Hw.lt;have JJ:=I HI;have JT:=I (xT K9 B);have Jf:=I (Hw.ext B);have Ge:w1.heap.size<(w1.alloc (Q #[C F t.s.term] 3)).heap.size:=by simp
 clear B HI K9 Hw eb;have eb:=l8 Jf;refine lM (lM (lR (n:=9) ?_));generalize w1.alloc (Q #[C F t.s.term] 3)=w3 at *;gi_wp2_with (refine⟨trivial,?_⟩;gi_at_call 155;refine(callsIn_wd.2 (DS _ rfl _)).mono ?_;rintro e l⟨rfl,Kp⟩)
 have B:Ext w3 l:=by rw[<-Kp];exact xA (xR _) _
 have Kf:Blk l w3.heap.size 44 (bE t (O A t.log.length c)):=by rw[<-Kp];exact P8 w3 _ _
 have h0:CkI w w1.heap.size t (O A t.log.length c) [] l:=⟨Jf.ext B,⟨t.s.term,JJ.kept (row:=none) (Pk B none) (by simp),rfl⟩,xT JT B⟩;have B:w3.heap.size<l.heap.size:=Kf.lt;have Gw:w.heap.size<=l.heap.size:=h0.e.size;have JI:=I Kf;clear Kp Kf eb;have B:Hid (∀W1,Below l.heap.size l W1->py H 208 #[L (N ⟨w3.heap.size,0,G⟩)] (λ(x:Ent) av _=>∃n,av = #[C F n,x.val]) (λk o=>k≠w1.heap.size/\o.isCells=true) (λ_ _=>False) t.log none W1):=λW1 hb=>Do w W1 t (O A t.log.length c) HE H7 (λq u hq=>Pl (xT h0.e hb) hq) w3.heap.size w1.heap.size (JI.ext hb) (by omega) (by omega);refine Iv ?_;refine MU (n:=9) (Rp:=λ(x:Ent) av _=>∃n,av = #[C F n,x.val]) (K:=λk o=>k≠w1.heap.size/\o.isCells=true) (M:=λ_ _=>False) (xs:=t.log) (pn:=none) (gf:=208) (lb:=#[L (N ⟨w3.heap.size,0,G⟩)]) ?hf0 (a:=⟨_,_⟩) ?hg ?eg ?hseq ?h1 ?h2 ?h3 (CkI w w1.heap.size t (O A t.log.length c)) (λ_ _ _=>False) (λc W=>c=fz 2/\pan 2=E/\Ext w W) ?hI (λ_ _ _ _ h _=>h) ?hIp h0
  (λx a' W=>∃(T:Nat) (u0 u3 u5 u6 u7 u8 u9 Kq Kr Ks Kt Ku Kv Kw Kx Ky Kz KA KC KD KE KF KH KI KJ KK KL KM KN KO KP KQ KR KT KU KV KW KX KY KZ J0 J1 J2 J3 J4 J5 J6 J7 J8 J9 Ja Jb Jc Jd Je:Value),a'=⟨#[u0,L (N ⟨w.heap.size,0,G⟩),L (N ⟨w1.heap.size,0,G⟩),u3,L (N ⟨T,0,G⟩),u5,u6,u7,u8,u9,Kq,Kr,Ks,Kt,Ku,Kv,Kw,Kx,Ky,Kz,KA,KC,KD,KE,KF,KH,KI,KJ,KK,KL,KM,KN,KO,KP,KQ,KR,KT,KU,KV,KW,KX,KY,KZ,J0,J1,J2,J3,J4,J5,J6,J7,J8,J9,Ja,Jb,Jc,Jd,Je],[]⟩/\Blk W T 54 #[C F x.t,C F x.k,C F x.v])
  ?hAx ?assign ?body ?done ?pan ?pan2 ?stop
 case hf0=>exact⟨_,func88⟩
 case hg=>exact rfl
 case eg=>exact enters_of func208 (by kernel_rfl) rfl
 case hseq=>exact λW1 hb hs=>B.out W1 hb
 case h1=>exact λk o h=>h.elim
 case h2=>exact λk o h r e=>by rw[e]at h;cases h.2
 case h3=>exact λx av W h=>by obtain⟨n,rfl⟩:=h;rfl
 case hI=>
  rintro s X Y⟨y,⟨i,hb,hg⟩,f⟩hm;refine⟨hm.same _ _ y ?_,⟨i,hm.boxed hb ?_,hg⟩,hm.belowOf f ?_ (xN _)⟩
  ·rintro(h | h)
   ·exact h
   cases h.2
  ·rintro(h | h)
   ·exact h
   cases h.2
  rintro k o hk(h | h)
  ·exact h
  have:=h.1;omega
 case hIp=>
  rintro i X Y⟨rfl,h1,f⟩hm;refine⟨rfl,h1,hm.belowOf f ?_ (xN _)⟩;rintro k o hk(h | h)
  ·exact h
  have:=h.1;omega
 case hAx=>
  rintro x a' X Y⟨T,u0,u3,u5,u6,u7,u8,u9,Kq,Kr,Ks,Kt,Ku,Kv,Kw,Kx,Ky,Kz,KA,KC,KD,KE,KF,KH,KI,KJ,KK,KL,KM,KN,KO,KP,KQ,KR,KT,KU,KV,KW,KX,KY,KZ,J0,J1,J2,J3,J4,J5,J6,J7,J8,J9,Ja,Jb,Jc,Jd,Je,rfl,hb⟩hm;refine⟨T,_,_,_,_,_,_,_,_,_,_,_,_,_,_,_,_,_,_,_,_,_,_,_,_,_,_,_,_,_,_,_,_,_,_,_,_,_,_,_,_,_,_,_,_,_,_,_,_,_,_,_,_,_,_,_,rfl,hm.same _ _ hb ?_⟩;rintro(h | h)
  ·exact h
  cases h.2
 case assign=>
  rintro l' J x Hf W av B hx⟨y,⟨i,hb,hg⟩,f⟩K2⟨n,rfl⟩S;clear hx;unfold Ent.val at *;gi_wp2;have B:Ext W (W.alloc (Q #[C F x.t,C F x.k,C F x.v] 54)):=xA (xR _) _;exact S _ _ (Kept.refl.alloc _) ⟨y.ext B,⟨i,hb.kept (row:=none) (Pk B none) (by simp),hg⟩,xT f B⟩ ⟨_,_,_,_,_,_,_,_,_,_,_,_,_,_,_,_,_,_,_,_,_,_,_,_,_,_,_,_,_,_,_,_,_,_,_,_,_,_,_,_,_,_,_,_,_,_,_,_,_,_,_,_,_,_,_,_,rfl,P8 _ _ _⟩
 case body=>
  rintro l' J x Hf a' W hx Gt hr⟨y,⟨i,hb,hg⟩,f⟩K2⟨T,u0,u3,u5,u6,u7,u8,u9,Kq,Kr,Ks,Kt,Ku,Kv,Kw,Kx,Ky,Kz,KA,KC,KD,KE,KF,KH,KI,KJ,KK,KL,KM,KN,KO,KP,KQ,KR,KT,KU,KV,KW,KX,KY,KZ,J0,J1,J2,J3,J4,J5,J6,J7,J8,J9,Ja,Jb,Jc,Jd,Je,rfl,Z⟩;have Jy:t.log.drop (U J)=x::Hf:=by rw[hx,Pj]
  have HK:t.log.drop (U (J++[x]))=Hf:=by rw[hx,show J++x::Hf=(J++[x])++Hf from by simp,Pj]
  rw[Jy,goT]at hg;have z:=I hg;have JL:=I HK;have B:=ez Z;have cl:=hb.cell;have H3:T≠w1.heap.size:=by
   rintro rfl;have h1:W.heap[w1.heap.size]?=N (Obj.cells #[C F x.t,C F x.k,C F x.v] 54 (0,0)):=Z;have h2:W.heap[w1.heap.size]?=N (Obj.cells #[C F i] 3 (0,0)):=hb;rw[h2]at h1;simp at h1
  clear hg Jy HK hx hr;cases ho:okB x.t x.k x.v with
  |false=>
   obtain rfl:pan 2=E:=by
    rw[<-P.out];refine(iY ?_).symm;rw[HY.out,z.out,ho];rfl
   gi_wp2_with (first|(refine⟨trivial,?_⟩;gi_at_call 156;refine(callsIn_wd.2 (mI x.t x.k x.v _)).mono ?_;rintro e V⟨rfl,d⟩;have d:Ext W V:=d;have q5:=Z.ext d;have j:=hb.kept (row:=none) (Pk d none) (by simp);have ed:=ez q5;have Jm:=j.cell;have Jn:=j.frozen) | (refine⟨trivial,?_⟩;gi_at_call 153;refine(callsIn_wd.2 (ln _)).mono ?_;rintro e w2⟨he,rfl⟩;obtain rfl:e=.panicked (fz 2):=he))
   (refine⟨rfl,Kept.refl.below d (xN _),?_⟩;first | exact⟨rfl,rfl,xT f d⟩ | exact⟨rfl,xT f d⟩)
  |true=>
   by_cases g:i<=x.t
   ·gi_wp2_with (first|(refine⟨trivial,?_⟩;gi_at_call 156;refine(callsIn_wd.2 (mI x.t x.k x.v _)).mono ?_;rintro e V⟨rfl,d⟩;have d:Ext W V:=d;have q5:=Z.ext d;have j:=hb.kept (row:=none) (Pk d none) (by simp);have ed:=ez q5;have Jm:=j.cell;have Jn:=j.frozen) | (refine⟨trivial,?_⟩;gi_at_call 153;refine(callsIn_wd.2 (oQ _)).mono ?_;rintro e w2⟨rfl,rfl⟩))
    have B:Kept (am (λk o=>k≠w1.heap.size/\o.isCells=true) l.heap.size) W V:=Kept.refl.below d (xN _);refine⟨B.setCell (λo _ _=>?_) _,?_⟩
    ·rintro(⟨h,_⟩|⟨h,_⟩)
     ·exact h rfl
     dsimp only at h;omega
    refine⟨(y.ext d).other (by omega) 0 _,⟨x.t,j.set _,?_⟩,P0 (p:=⟨w1.heap.size,0,G⟩) (xT f d) (by show w.heap.size<=w1.heap.size;omega) _⟩;rw[z.out,JL.out,ho];simp[g]
   obtain rfl:pan 2=E:=by
    rw[<-P.out];refine(iY ?_).symm;rw[HY.out,z.out,ho];simp[g]
   gi_wp2_with (first|(refine⟨trivial,?_⟩;gi_at_call 156;refine(callsIn_wd.2 (mI x.t x.k x.v _)).mono ?_;rintro e V⟨rfl,d⟩;have d:Ext W V:=d;have q5:=Z.ext d;have j:=hb.kept (row:=none) (Pk d none) (by simp);have ed:=ez q5;have Jm:=j.cell;have Jn:=j.frozen) | (refine⟨trivial,?_⟩;gi_at_call 153;refine(callsIn_wd.2 (pJ (by omega) _)).mono ?_;rintro e w2⟨he,rfl⟩;obtain rfl:e=.panicked (fz 2):=he) | (refine⟨trivial,?_⟩;gi_at_call 153;refine(callsIn_wd.2 (ln _)).mono ?_;rintro e w2⟨he,rfl⟩;obtain rfl:e=.panicked (fz 2):=he))
   (refine⟨rfl,Kept.refl.below d (xN _),?_⟩;first | exact⟨rfl,rfl,xT f d⟩ | exact⟨rfl,xT f d⟩)
 case done=>
  rintro D W _ hD⟨y,⟨i,hb,hg⟩,f⟩S;rw[Ph,goT]at hg;have cl:=hb.cell;have eb:=l8 y;have d:t.s.term<=i:=Ca _ _ _ hg;have JH:w.heap.size<=D:=by omega
  have z:=I hg;refine lR (n:=9) ?_;by_cases g:i<=t.term
  ·obtain rfl:Ending.returned (.tuple #[])=E:=by
    rw[<-P.out];refine(rZ ?_).symm;rw[HY.out,z.out];have:=H6.out;have:=JR.out;simp;omega
   gi_wp2_with (first|(refine⟨trivial,?_⟩;gi_at_call 153;refine(callsIn_wd.2 (oQ _)).mono ?_;rintro e w2⟨rfl,rfl⟩))
   exact rO S (.tuple #[]) (results_none rfl _ _ _) ⟨rfl,cp f (hD:=JH) _⟩
  obtain rfl:pan 2=E:=by
   rw[<-P.out];refine(iY ?_).symm;rw[HY.out,z.out];simp[g]
  have d:=I g;clear g;gi_wp2_with (first|(refine⟨trivial,?_⟩;gi_at_call 153;refine(callsIn_wd.2 (pJ d _)).mono ?_;rintro e w2⟨he,rfl⟩;obtain rfl:e=.panicked (fz 2):=he) | (refine⟨trivial,?_⟩;gi_at_call 153;refine(callsIn_wd.2 (ln _)).mono ?_;rintro e w2⟨he,rfl⟩;obtain rfl:e=.panicked (fz 2):=he))
  refine nN (R:=λen w'=>en=pan 2/\Ext w w') (c:=fz 2) S ?_;exact⟨rfl,cp f (hD:=JH) _⟩
 case pan=>
  rintro D c' W h;cases h
 case pan2=>
  rintro D c' W hD⟨rfl,rfl,f⟩S;refine nN (R:=λen w'=>en=pan 2/\Ext w w') (c:=fz 2) S ?_;exact⟨rfl,cp f _⟩
 case stop=>
  rintro D d J W _ _ h _;exact h.elim
theorem D5(t:Tup)(v:Value)(p:Nat)(w:World)(f:Es w v t.log)(h:U t.log<=4000000)(k:Blk w p 44 (bE t v)):
  Calls H 87 #[L (N ⟨p,0,G⟩)] w λj w'=>j=iZ t/\Ext w w':=by
 obtain⟨A,c,rfl,_,_⟩:=xO f;have i:=l8 k;have key:=LJ t _ w f h;unfold bE at key;have a:=I key;clear key;cases g:cT t with
 |true=>
  rw[rZ g]at a⊢;go_enter func87,ntmps87
  go_wp2_with fail
  refine a.mono ?_;rintro e l⟨rfl,d⟩;clear i;go_wp2_with fail
  go_end0;exact⟨rfl,d⟩
 |false=>
  rw[iY g]at a⊢;go_enter func87,ntmps87
  go_wp2_with fail
  refine a.mono ?_;rintro e l⟨rfl,d⟩;exact⟨rfl,rfl,d⟩
theorem MQ(t:Tup)(v:Value)(p:Nat)(w:World)(l:Es w v t.log)(o:U t.log<=4000000)(k:Blk w p 44 (bE t v)):
  Calls H 86 #[.func (.func 87) #[] #[L (N ⟨p,0,G⟩)]] w λd w'=>d=.returned (C F (if cT t then 0 else 2))/\Ext w w':=by
 have Gb:∀(fn:Fn) (first cap:Array Value) (w:World),(Instr.makeFunc fn first cap).run H w=.ok (.func fn first cap) w:=λ_ _ _ _=>rfl;have d:Ext w (w.alloc (Q #[C F 0] 45)):=xA (xR _) _;have he:=P8 w 45 #[C F 0];have key:=D5 t v p _ (SlR.ext l d) o (k.ext d);have i:=I d;have j:=I he;clear k d he l;cases g:cT t with
 |false=>
  rw[iY g]at key;have h:=I key;clear key g;go_enter_defers func86,ntmps86
  go_wp2_with fail
  refine h.mono ?_;rintro e n⟨rfl,c⟩;have a:=j.ext c;refine leaves_cons (f:=152) (args:=#[L (N ⟨w.heap.size,0,G⟩)]) (by simp) (by simp[go_sem]) ?_;refine(Ir ⟨w.heap.size,0,G⟩ _ 2 [] _ (a.cell 0 rfl) (a.frozen 0)).mono ?_;rintro e s d⟨rfl,rfl,rfl⟩;have hs:=a.set 0 (C F 2);have hc:=hs.cell 0 rfl;simp[Leaves,settle,results,results86,go_sem,hc];exact P0 (p:=⟨w.heap.size,0,G⟩) (xT i c) (xN _) _
 |true=>
  rw[rZ g]at key;have h:=I key;clear key g;go_enter_defers func86,ntmps86
  go_wp2_with fail
  refine h.mono ?_;rintro e n⟨rfl,c⟩;have a:=j.ext c;have d:=a.frozen 0;have d:=a.cell 0 rfl;have q:=I (xT i c);have r:=I a;clear c a;go_wp2_with fail
  refine leaves_cons (f:=152) (args:=#[L (N ⟨w.heap.size,0,G⟩)]) (by simp) (by simp[go_sem]) ?_;refine(EO ⟨w.heap.size,0,G⟩ _).mono ?_;rintro e s a⟨rfl,rfl,rfl⟩;have hs:=r.set 0 (C F 0);have hc:(n.setCell ⟨w.heap.size,0,G⟩ (C F 0)).cell? ⟨w.heap.size,0,G⟩=N (C F 0):=hs.cell 0 rfl;simp[Leaves,settle,results,results86,go_sem,hc];exact P0 (p:=⟨w.heap.size,0,G⟩) q (xN _) _
theorem FC(t:Tup)(v:Value)(w:World)(g:Es w v t.log)(j:U t.log<=4000000):
  Calls H 39 #[T #[C F t.s.idx,C F t.s.term,C F t.s.sum,C F t.s.lvl,S t.s.fin,v,C F t.term,C F t.vote]] w λh w'=>h=.returned (S (cT t))/\Ext w w':=by
 have Gb:∀(fn:Fn) (first cap:Array Value) (w:World),(Instr.makeFunc fn first cap).run H w=.ok (.func fn first cap) w:=λ_ _ _ _=>rfl;obtain⟨A,c,rfl,_,_⟩:=xO g;have h:Ext w (w.alloc (Q (bE t (O A t.log.length c)) 44)):=xA (xR _) _;have key:=MQ t _ w.heap.size _ (SlR.ext g h) j (P8 w 44 (bE t (O A t.log.length c)));unfold bE at *;have i:=I h;clear h g;cases a:cT t with
 |false=>
  rw[a]at key;have f:=I key;clear key a;go_enter func39,ntmps39
  go_wp2_with fail
  refine f.mono ?_;rintro e k⟨rfl,d⟩;simp only[Bool.false_eq_true,if_false];go_wp2_with fail;go_ret;exact⟨rfl,xT i d⟩
 |true=>
  rw[a]at key;have f:=I key;clear key a;go_enter func39,ntmps39
  go_wp2_with fail
  refine f.mono ?_;rintro e k⟨rfl,d⟩;simp only[if_true];go_wp2_with fail;go_ret;exact⟨rfl,xT i d⟩
def zw1:World->Nat->Nat->List Value->World
 |W,_,_,[]=>W
 |W,b,k,v::l=>zw1 (W.setCell ⟨b,k,G⟩ v) b (k+1) l
def zyE:Array Value->Nat->List Value->Array Value
 |cs,_,[]=>cs
 |cs,k,v::l=>zyE (cs.setIfInBounds k v) (k+1) l
theorem zxo:∀(l:List Value) {W:World} {b k:Nat} {t:TypeId} {cs:Array Value},Blk W b t cs->Blk (zw1 W b k l) b t (zyE cs k l)
 |[],_,_,_,_,_,h=>h
 |v::l,_,_,k,_,_,h=>zxo l (h.set k v)
theorem zyA:∀(l:List Value) {W:World} {b c k:Nat} {t:TypeId} {cs:Array Value},Blk W b t cs->b≠c->Blk (zw1 W c k l) b t cs
 |[],_,_,_,_,_,_,h,_=>h
 |v::l,_,_,_,k,_,_,h,hn=>zyA l (h.other hn k v) hn
theorem zw5:∀(l:List Value) {w W:World} {b k:Nat},Ext w W->w.heap.size<=b->Ext w (zw1 W b k l)
 |[],_,_,_,_,h,_=>h
 |v::l,_,_,b,k,h,hb=>zw5 l (P0 (p:=⟨b,k,G⟩) h hb v) hb
theorem zxd:∀(l:List Value) {W:World} {b k:Nat} {t:TypeId} {cs:Array Value},Blk W b t cs->∀ {e:TypeId},t≠e->∀ {base size n:Nat} {vv:Value} {xs:List Value},W.ownsRow base e size vv n xs->(zw1 W b k l).ownsRow base e size vv n xs
 |[],_,_,_,_,_,_,_,_,_,_,_,_,_,h=>h
 |v::l,_,b,k,_,_,hB,_,H4,_,_,_,_,_,hr=>zxd l (hB.set k v) H4 (hr.kept (ar _ b k v) (.inr (hB.not_row H4 hr).symm))
theorem zz3(tmps:Array Value)(W:World)(b:Nat)(cs:Array Value)(h4:tmps.getD 2 undef=L (N ⟨b,0,G⟩))(hb:Blk W b 44 cs)(hs:cs.size=8):(results Tryz.f224 tmps).run H W=.ok (.agg cs) W:=by
 have hl:=hb.load (P:=H) oG rfl (by rw[hs];kernel_rfl);have Hx:tmps[2]?.getD undef=L (N ⟨b,0,G⟩):=by simpa using h4
 simp[results,results224,Hx,asAddr,hl]
theorem zyS(tmps:Array Value)(W:World)(b:Nat)(cs:Array Value)(u:Value)(h4:tmps.getD 4 undef=L (N ⟨b,0,G⟩))(h5:tmps.getD 5 undef=u)(hb:Blk W b 44 cs)(hs:cs.size=8):(results Tryz.f186 tmps).run H W=.ok (.tuple #[.agg cs,u]) W:=by
 have hl:=hb.load (P:=H) oG rfl (by rw[hs];kernel_rfl);have Hx:tmps[4]?.getD undef=L (N ⟨b,0,G⟩):=by simpa using h4
 have G1:tmps[5]?.getD undef=u:=by simpa using h5
 simp[results,results186,Hx,G1,asAddr,hl]
theorem zzn{W':World}(c:Ext W W')(k:Nat)(v:Value):eP b W (W'.setCell ⟨b,k,G⟩ v):=λa a hl=>P0 (p:=⟨b,k,G⟩) (xT a c) hl v
