/- Merged -/
import Derived.Test.YteggfecbjgbndaaGreatDoorZy19
import Derived.Test.YteggfecbjgbndaaGreatDoorZy20
set_option linter.all false
set_option maxHeartbeats 8000000
set_option maxRecDepth 100000
open Go.Proofs.Tryz
open List renaming length->V
open Go.Value renaming int->C,slice->F,bool->L,pointer->T,agg->U
open Go.IntKind renaming i64->E
open Go.Mv renaming aN->H
open Option renaming none->I,some->J
open Go.Proofs.Tryz renaming prog->N
open Go.Obj renaming cells->O
open List renaming getElem_cons_zero->P0,take_succ_cons->P1,append_assoc->P2,take_zero->P3,mem_take_iff_getElem->P4,getElem_cons_succ->P5,foldl_cons->P6
open Option renaming isSome->P7,getD->P8
open Array renaming getElem?_eq_some_iff->P9
open Go.Mv.Blk renaming new->Pa
namespace Go.Proofs.YteggfecbjgbndaaGreatDoor
open Go.RowKit Go.Mv
variable {cs:Array Value} {xs:List Value} {m:Mf} {b base size:Nat} {e t:TypeId} {v:Value} {W:World}
def ix(fs:List Fil):Bool:=decide (40<V fs)||(fs.take 41).any (λf=>decide (900<V f.2\/60<V f.1))
theorem IB(v:Value)(fs:List Fil)(w:World)(o:Fs w v fs)(hl:V fs<=4000000):Calls N 6 #[v] w λe w'=>e=.returned (L (ix fs))/\Ext w w':=by
 obtain⟨A,c,rfl,h1,h2⟩:=Fs.open_ o;obtain⟨R,d⟩:∃R,ix fs=R:=⟨_,rfl⟩;rw[d];have g:=H d;have y:=H o;clear d o;go_enter func6,ntmps6
 go_wp2_with fail
 go_loopw [3] (λi wr=>∃j:Nat,j<=V fs/\j<=41/\i=C E j/\Hid (∀q (_:q<j) (h2:q<V fs),V fs[q].2<=900/\V fs[q].1<=60)/\w=wr) (λi _=>V fs-(intOf i).toNat)
 case atStart=>exact⟨0,by omega,by omega,rfl,H λq l=>by omega,rfl⟩
 case round=>
  obtain⟨j,o,o,rfl,k,rfl⟩:=hrel;by_cases p:j<V fs
  ·by_cases h40:j<=40
   ·obtain⟨_,b,o,rfl,hc⟩:=y.at_ (by omega);obtain⟨Kw,o,o,o,D⟩:=hc j p;have F:(j:Int)<(V fs:Int):=by omega
    have s:(900<V fs[j].2\/60<V fs[j].1)->R=true:=λh=>by
     rw[<-g.out];unfold ix;rw[Bool.or_eq_true];right
     rw[List.any_eq_true];exact⟨fs[j],P4.2 ⟨j,by omega,rfl⟩,by simpa using h⟩
    have l:V fs[j].2<=900/\V fs[j].1<=60->∀q (_:q<j+1) (h2:q<V fs),V fs[q].2<=900/\V fs[q].1<=60:=λh q h3 h2=>by
     by_cases e:q=j
     ·subst e;exact h
     exact k q (by omega) h2
    have r:=H s;have z:=H l;clear hc s l g k;generalize(V fs[j].2)=n2 at *;generalize hx:fs[j].1=x at *;simp only[sv]at Kw;clear D;by_cases o:900<n2
    ·have:=r (.inl o);subst this;have o:(900:Int)<(n2:Int):=by omega
     go_wp2_with fail;go_ret;exact⟨rfl,xR _⟩
    have o:¬(900:Int)<(n2:Int):=by omega
    by_cases o:60<V x
    ·have:=r (.inr o);subst this;have o:(60:Int)<(V x:Int):=by omega
     go_wp2_with fail;go_ret;exact⟨rfl,xR _⟩
    have o:¬(60:Int)<(V x:Int):=by omega
    have o:=H (z ⟨by omega,by omega⟩);go_wp2_with fail
    go_roundw
    case rel=>exact⟨j+1,by omega,by omega,by go_num,o,trivial⟩
    case measure=>simp[intOf];omega
   have d:R=true:=by rw[<-g.out];unfold ix;rw[decide_eq_true (by omega)];rfl
   subst d;have F:(j:Int)<(V fs:Int):=by omega
   have o:¬((j:Int)<=40):=by omega
   have o:(40:Int)<(V fs:Int):=by omega
   go_wp2_with fail;go_ret;exact⟨ret_bool (by simp),xR _⟩
  ·obtain rfl:j=V fs:=by omega
   have d:R=decide ((40:Int)<(V fs:Int)):=by
    rw[<-g.out];unfold ix;have:((fs.take 41).any (λf=>decide (900<V f.2\/60<V f.1)))=false:=by
     rw[List.any_eq_false];intro f hf;obtain⟨q,l,rfl⟩:=P4.1 hf;have:=k q (by omega) (by omega);simp;omega
    rw[this,Bool.or_false,Bool.eq_iff_iff];simp;omega
   subst d;clear g k;go_wp2_with fail;go_ret;exact⟨rfl,xR _⟩
structure Tup where
 s:Sta
 log:List Ent
 term:Int
 vote:Int
def dF(t:Tup):Bool:=t.s.ok&&decide (t.s.idx<=1073740824)&&decide (V t.log<=200)&&decide (0<=t.vote)&&decide (t.vote<=5)
def goT:Int->List Ent->Option Int
 |c,[]=>some c
 |c,e::l=>if okB e.t e.k e.v&&decide (c<=e.t)then goT e.t l else none
def cT(t:Tup):Bool:=dF t&&(match goT t.s.term t.log with | none=>false | some x=>decide (x<=t.term)&&decide (0<=t.term)&&decide (t.term<=1073741824))
theorem aU{a u x y z p q:Value}(h:Blk W b t #[a,v,u,x,y,z,p,q]):W.cell? ⟨b,0,I⟩=J a/\W.cell? ⟨b,1,I⟩=J v/\W.cell? ⟨b,2,I⟩=J u/\W.cell? ⟨b,3,I⟩=J x/\W.cell? ⟨b,4,I⟩=J y/\W.cell? ⟨b,5,I⟩=J z/\W.cell? ⟨b,6,I⟩=J p/\W.cell? ⟨b,7,I⟩=J q:=
 ⟨h.cell 0 rfl,h.cell 1 rfl,h.cell 2 rfl,h.cell 3 rfl,h.cell 4 rfl,h.cell 5 rfl,h.cell 6 rfl,h.cell 7 rfl⟩
theorem F7(t:Tup)(v:Value)(w:World)(D:Es w v t.log):Calls N 44 #[U #[C E t.s.idx,C E t.s.term,C E t.s.sum,C E t.s.lvl,L t.s.fin,v,C E t.term,C E t.vote]] w λe w'=>e=.returned (L (cT t))/\Ext w w':=by
 obtain⟨A,c,rfl,J,J⟩:=xO D;obtain⟨s,l,d,i⟩:=t;dsimp only at *;obtain⟨R,f⟩:∃R,cT ⟨s,l,d,i⟩=R:=⟨_,rfl⟩;rw[f];have H8:=Pa w 44 #[C E s.idx,C E s.term,C E s.sum,C E s.lvl,L s.fin,F A l.length c,C E d,C E i];have X:Ext w (w.alloc (O #[C E s.idx,C E s.term,C E s.sum,C E s.lvl,L s.fin,F A l.length c,C E d,C E i] 44)):=xA (xR _) _;obtain⟨m0,m1,m2,m3,m4,m5,m6,m7⟩:=aU H8;have HX:=H X;have Hb:=H H8;have HE:=H D;have J:dF ⟨s,l,d,i⟩=false->false=R:=λh=>by rw[<-f];unfold cT;rw[h];rfl
 have p:=H J;have K:=H f;clear X H8 D J f;go_enter func44,ntmps44
 go_wp2_with fail
 refine(qJ s _).mono ?_;rintro e w1⟨rfl,D⟩;have q:=H (xT HX D);have M:=H (Hb.ext D);obtain⟨p0,p1,p2,p3,p4,p5,p6,p7⟩:=aU M.out;clear m0 m1 m2 m3 m4 m5 m6 m7 D;cases h1:s.ok with
 |false=>
  obtain rfl:=p (by unfold dF;simp[h1]);go_wp2_with fail;go_ret;exact⟨rfl,q.out⟩
 |true=>
 by_cases h2:s.idx<=1073740824
 case neg=>
  obtain rfl:=p (by unfold dF;simp[h2]);go_wp2_with fail;go_ret;exact⟨rfl,q.out⟩
 by_cases h3:(V l:Int)<=200
 case neg=>
  obtain rfl:=p (by unfold dF;simp;omega);go_wp2_with fail;go_ret;exact⟨rfl,q.out⟩
 by_cases h4:0<=i
 case neg=>
  obtain rfl:=p (by unfold dF;simp[h4]);go_wp2_with fail;go_ret;exact⟨rfl,q.out⟩
 by_cases h5:i<=5
 case neg=>
  obtain rfl:=p (by unfold dF;simp[h5]);go_wp2_with fail;go_ret;exact⟨rfl,q.out⟩
 have D:dF ⟨s,l,d,i⟩=true:=by unfold dF;simp[h1,h2,h4,h5];omega
 have z:Hid ((match goT s.term l with | none=>false | some x=>decide (x<=d)&&decide (0<=d)&&decide (d<=1073741824))=R):=H (by rw[<-K.out];unfold cT;rw[D];simp);clear D p K;go_wp2_with fail
 go_loopw [3,4] (λi x W=>∃(j:Nat) (o:Int),j<=V l/\x=C E j/\i=C E o/\Hid (goT s.term l=goT o (l.drop j))/\Ext w1 W) (λ_ x _=>V l-(intOf x).toNat)
 case atStart=>exact⟨0,s.term,by omega,rfl,rfl,H rfl,xR _⟩
 case round=>
  obtain⟨j,o,i,rfl,rfl,g,i⟩:=hrel;have J8:=H i;have y:=H (xT q i);obtain⟨_,_,_,_,_,T,g6,_⟩:=aU (M.ext i);clear p0 p1 p2 p3 p4 p5 p6 p7 i;by_cases r:j<V l
  ·obtain⟨_,b,i,rfl,hc⟩:=Es.at_ (HE.ext y.out) (by omega);obtain⟨Z,k1,k2⟩:=hc j r;have i:=g.out;rw[List.drop_eq_getElem_cons r,goT]at i;have p:(j:Int)<(V l:Int):=by omega
   clear hc g;generalize l[j]=e at *;have g:=H i;clear i;go_wp2_with fail
   refine(pT _ _ _ _).mono ?_;rintro e2 w5⟨rfl,i⟩;have i:Ext wr w5:=i;have I:=H i;have p:=i.cell T;have p:=i.cell Z;clear T Z k1 k2 g6 i;cases Y:okB e.t e.k e.v with
   |false=>
    have f:R=false:=by rw[<-z.out,g.out,Y];rfl
    subst f;go_wp2_with fail;go_ret;exact⟨rfl,xT y I.out⟩
   |true=>
    by_cases i:o<=e.t
    ·have p:=g.out;rw[if_pos (by simp[Y,i])]at p;have q:=H p;have JA:¬(e.t<o):=by omega
     clear p g;go_wp2_with fail
     go_roundw
     case rel=>exact⟨j+1,e.t,by omega,by go_num,rfl,q,xT J8 I.out⟩
     case measure=>simp[intOf];omega
    have f:R=false:=by rw[<-z.out,g.out,if_neg (by simp[i])]
    subst f;have JA:e.t<o:=by omega
    go_wp2_with fail;go_ret;exact⟨rfl,xT y I.out⟩
  ·obtain rfl:j=V l:=by omega
   have f:R=(decide (o<=d)&&decide (0<=d)&&decide (d<=1073741824)):=by
    rw[<-z.out,g.out,List.drop_length];rfl
   subst f;clear z g;go_wp2_with fail
   all_goals go_ret
   all_goals (refine⟨ret_bool ?_,y.out⟩;rw[Bool.eq_iff_iff];simp;try omega)
def nC(a b:Tup):Bool:=fg a.s b.s&&decide (a.term=b.term)&&decide (a.vote=b.vote)&&decide (a.log=b.log)
theorem yR(a b:Tup)(g y:Value)(w:World)(D:Es w g a.log)(I:Es w y b.log):
  Calls N 11 #[U #[C E a.s.idx,C E a.s.term,C E a.s.sum,C E a.s.lvl,L a.s.fin,g,C E a.term,C E a.vote],U #[C E b.s.idx,C E b.s.term,C E b.s.sum,C E b.s.lvl,L b.s.fin,y,C E b.term,C E b.vote]] w λe w'=>e=.returned (L (nC a b))/\Ext w w':=by
 obtain⟨A,c,rfl,_,_⟩:=xO D;obtain⟨B,d,rfl,_,_⟩:=xO I;obtain⟨s1,h,l,p⟩:=a;obtain⟨f,i,o,r⟩:=b;dsimp only at *;obtain⟨g,KD⟩:∃x:Array Value,#[C E s1.idx,C E s1.term,C E s1.sum,C E s1.lvl,L s1.fin,F A h.length c,C E l,C E p]=x:=⟨_,rfl⟩;obtain⟨y,M⟩:∃x:Array Value,#[C E f.idx,C E f.term,C E f.sum,C E f.lvl,L f.fin,F B i.length d,C E o,C E r]=x:=⟨_,rfl⟩;have H8:=Pa w 44 g;have J:=H8.alloc (O y 44);have z:=Pa (w.alloc (O g 44)) 44 y;rw[xS]at z;have k:Ext w ((w.alloc (O g 44)).alloc (O y 44)):=xA (xA (xR _) _) _;subst KD M;obtain⟨g,g,g,g,g,g,g,g⟩:=aU J;obtain⟨g,g,g,g,g,g,g,g⟩:=aU z;have y:=rg s1 f;obtain⟨R,g⟩:∃R,nC ⟨s1,h,l,p⟩ ⟨f,i,o,r⟩=R:=⟨_,rfl⟩;rw[g];unfold nC at g;dsimp only at g;have key:=Mj (F A h.length c) (F B i.length d) h i _ (D.ext k) (I.ext k);obtain⟨q,z⟩:∃q,fg s1 f=q:=⟨_,rfl⟩;rw[z]at g y;have j:=H g;have T:=H key;have K:=H k;have f:=rB;go_enter func11,ntmps11
 cases q with
 |false=>
  have:R=false:=by rw[<-j.out];rfl
  subst this;go_wp2_with fail;go_ret;exact⟨rfl,xA (xA (xR _) _) _⟩
 |true=>
  by_cases h2:l=o
  case neg=>
   have:R=false:=by rw[<-j.out];simp[h2]
   subst this;go_wp2_with fail;go_ret;exact⟨rfl,xA (xA (xR _) _) _⟩
  by_cases h3:p=r
  case neg=>
   have:R=false:=by rw[<-j.out];simp[h3]
   subst this;go_wp2_with fail;go_ret;exact⟨rfl,xA (xA (xR _) _) _⟩
  have:R=decide (h=i):=by rw[<-j.out];simp[h2,h3]
  subst this h2 h3;go_wp2_with fail
  refine T.mono ?_;rintro e V⟨rfl,f⟩;have f:Ext _ V:=f;go_wp2_with fail;go_ret;exact⟨rfl,xT K f⟩
def eT:Tup:=⟨staZ,[],0,0⟩
structure Rd where
 err:Int
 t:Tup
 m:Mf
def bL(e:Int):Rd:=⟨e,eT,mf0⟩
def b9(fs:List Fil):Rd:=match bu fs (aE 1 0 0)with
 |none=>bL 42
 | some b=>match cA b with
  |none=>bL 130
  | some m=>match eI fs m with
   |none=>bL 130
   |some s=>if(fk fs m s.idx).2&&cT ⟨s,(fk fs m s.idx).1,m.term,m.vote⟩then⟨0,⟨s,(fk fs m s.idx).1,m.term,m.vote⟩,m⟩else bL 130
def bE(t:Tup)(v:Value):Array Value:=#[C E t.s.idx,C E t.s.term,C E t.s.sum,C E t.s.lvl,L t.s.fin,v,C E t.term,C E t.vote]
def pk(w:World)(r:Rd)(e:Ending)(w':World):Prop:=∃c d,e=.returned (.tuple #[U #[C E r.t.s.idx,C E r.t.s.term,C E r.t.s.sum,C E r.t.s.lvl,L r.t.s.fin,c,C E r.t.term,C E r.t.vote],U #[C E r.m.next,C E r.m.term,C E r.m.vote,C E r.m.sq,C E r.m.sf,d],C E r.err])/\Es w' c r.t.log/\Sgs w' d r.m.segs/\Ext w w'
def TellO(w:World)(r:Rd)(e:Ending)(w':World):Prop:=∃c d,e=.returned (.tuple #[U #[C E r.t.s.idx,C E r.t.s.term,C E r.t.s.sum,C E r.t.s.lvl,L r.t.s.fin,c,C E r.t.term,C E r.t.vote],U #[C E r.m.next,C E r.m.term,C E r.m.vote,C E r.m.sq,C E r.m.sf,d],C E r.err])/\OwnE w' w.heap.size c r.t.log/\OwnS w' w.heap.size d r.m.segs/\Ext w w'
theorem TellO.tell{w:World}{r:Rd}{e:Ending}{w':World}(h:TellO w r e w'):pk w r e w':=by
 obtain⟨c,d,h1,h2,h3,h4⟩:=h;exact⟨c,d,h1,OwnE.es h2,OwnS.sgs h3,h4⟩
theorem yD{b:List UInt8}(h:cA b=J m):aZ m=true/\bj m=J b:=by
 unfold cA at h;split at h
 ·cases h
 ·split at h
  ·cases h
  ·split at h
   ·rename_i c;cases h;refine⟨?_,c⟩;unfold bj at c;split at c
    ·assumption
    cases c
   ·cases h
theorem pP(h:aZ m=true):∀s∈m.segs,1<=s.first/\s.first<=1073741820/\-1<=s.count/\s.count<=4:=by
 intro s hs;unfold aZ at h;rw[Bool.and_eq_true]at h;exact tx h.2 s (by rw[List.take_length];exact hs)
theorem zp{fs:List Fil}{s:Sta}(h:eI fs m=J s):s.ok=true/\0<=s.idx/\s.idx<=1073741824:=by
 have c:s.ok=true:=by
  unfold eI at h;split at h
  ·cases h;rfl
  split at h
  ·cases h
  exact(zq h).1
 have:=(Sta.okP c).1;unfold aB at this;simp at this;exact⟨c,this⟩
theorem cS(h:Blk W b t cs):W.frozen? ⟨b,0,I⟩=false/\W.frozen? ⟨b,1,I⟩=false/\W.frozen? ⟨b,2,I⟩=false/\W.frozen? ⟨b,3,I⟩=false/\W.frozen? ⟨b,4,I⟩=false/\W.frozen? ⟨b,5,I⟩=false/\W.frozen? ⟨b,6,I⟩=false/\W.frozen? ⟨b,7,I⟩=false:=
 ⟨h.frozen 0,h.frozen 1,h.frozen 2,h.frozen 3,h.frozen 4,h.frozen 5,h.frozen 6,h.frozen 7⟩
def aY(W:World)(b:Nat)(a v u x y z p q:Value):World:=(((((((W.setCell ⟨b,0,I⟩ a).setCell ⟨b,1,I⟩ v).setCell ⟨b,2,I⟩ u).setCell ⟨b,3,I⟩ x).setCell ⟨b,4,I⟩ y).setCell ⟨b,5,I⟩ z).setCell ⟨b,6,I⟩ p).setCell ⟨b,7,I⟩ q
theorem fO{a u x y z p q:Value}(h:Blk W b t #[a,v,u,x,y,z,p,q])(a' c d f g i j q':Value):Blk (aY W b a' c d f g i j q') b t #[a',c,d,f,g,i,j,q']:=by
 have k:Blk _ b t #[a',v,u,x,y,z,p,q]:=h.set 0 a';have h1:Blk _ b t #[a',c,u,x,y,z,p,q]:=k.set 1 c;have h2:Blk _ b t #[a',c,d,x,y,z,p,q]:=h1.set 2 d;have h3:Blk _ b t #[a',c,d,f,y,z,p,q]:=h2.set 3 f;have h4:Blk _ b t #[a',c,d,f,g,z,p,q]:=h3.set 4 g;have h5:Blk _ b t #[a',c,d,f,g,i,p,q]:=h4.set 5 i;have k:Blk _ b t #[a',c,d,f,g,i,j,q]:=h5.set 6 j;have l:Blk _ b t #[a',c,d,f,g,i,j,q']:=k.set 7 q';exact l
theorem dB{c:Nat}(h:Blk W b t cs)(H1:b≠c)(a' g f i j k d q':Value):Blk (aY W c a' g f i j k d q') b t cs:=
 (((((((h.other H1 0 a').other H1 1 g).other H1 2 f).other H1 3 i).other H1 4 j).other H1 5 k).other H1 6 d).other H1 7 q'
theorem iS{w:World}(h:Ext w W)(hb:w.heap.size<=b)(a' f d g i j c q':Value):Ext w (aY W b a' f d g i j c q'):=
 (((((((Below.setCell h hb a').setCell hb f).setCell hb d).setCell hb g).setCell hb i).setCell hb j).setCell hb c).setCell hb q'
def aO(W:World)(b:Nat)(a v u x y z:Value):World:=(((((W.setCell ⟨b,0,I⟩ a).setCell ⟨b,1,I⟩ v).setCell ⟨b,2,I⟩ u).setCell ⟨b,3,I⟩ x).setCell ⟨b,4,I⟩ y).setCell ⟨b,5,I⟩ z
theorem dA{c:Nat}(h:Blk W b t cs)(H1:b≠c)(a' f d g i j:Value):Blk (aO W c a' f d g i j) b t cs:=
 (((((h.other H1 0 a').other H1 1 f).other H1 2 d).other H1 3 g).other H1 4 i).other H1 5 j
theorem dQ(hB:Blk W b t cs){k:Nat}{vv:Value}(hr:W.ownsRow base e size vv k xs)(a' v' u' x' y' z' p' q':Value)(H3:t≠e:=by decide):(aY W b a' v' u' x' y' z' p' q').ownsRow base e size vv k xs:=by
 have r0:=hr.kept (ar _ b 0 a') (.inr (hB.not_row H3 hr).symm);have b0:=hB.set 0 a';have r1:=r0.kept (ar _ b 1 v') (.inr (b0.not_row H3 r0).symm);have b1:=b0.set 1 v';have r2:=r1.kept (ar _ b 2 u') (.inr (b1.not_row H3 r1).symm);have b2:=b1.set 2 u';have r3:=r2.kept (ar _ b 3 x') (.inr (b2.not_row H3 r2).symm);have b3:=b2.set 3 x';have r4:=r3.kept (ar _ b 4 y') (.inr (b3.not_row H3 r3).symm);have b4:=b3.set 4 y';have r5:=r4.kept (ar _ b 5 z') (.inr (b4.not_row H3 r4).symm);have b5:=b4.set 5 z';have r6:=r5.kept (ar _ b 6 p') (.inr (b5.not_row H3 r5).symm);have b6:=b5.set 6 p';have r7:=r6.kept (ar _ b 7 q') (.inr (b6.not_row H3 r6).symm);have b7:=b6.set 7 q';exact r7
theorem cU(hB:Blk W b t cs){k:Nat}{vv:Value}(hr:W.ownsRow base e size vv k xs)(a' v' u' x' y' z':Value)(H3:t≠e:=by decide):(aO W b a' v' u' x' y' z').ownsRow base e size vv k xs:=by
 have r0:=hr.kept (ar _ b 0 a') (.inr (hB.not_row H3 hr).symm);have b0:=hB.set 0 a';have r1:=r0.kept (ar _ b 1 v') (.inr (b0.not_row H3 r0).symm);have b1:=b0.set 1 v';have r2:=r1.kept (ar _ b 2 u') (.inr (b1.not_row H3 r1).symm);have b2:=b1.set 2 u';have r3:=r2.kept (ar _ b 3 x') (.inr (b2.not_row H3 r2).symm);have b3:=b2.set 3 x';have r4:=r3.kept (ar _ b 4 y') (.inr (b3.not_row H3 r3).symm);have b4:=b3.set 4 y';have r5:=r4.kept (ar _ b 5 z') (.inr (b4.not_row H3 r4).symm);have b5:=b4.set 5 z';exact r5
theorem oG:Tryz.prog.underlying 44=J (.struct (Tryz.prog.fieldsOf 44)):=by kernel_rfl
theorem Ba(tmps:Array Value)(W:World)(b c:Nat)(cs d:Array Value)(u:Value)(h2:tmps.getD 2 undef=T (J ⟨b,0,I⟩))(h3:tmps.getD 3 undef=T (J ⟨c,0,I⟩))(h4:tmps.getD 4 undef=u)(hb:Blk W b 44 cs)(hc:Blk W c 30 d)(hs:cs.size=8)(hd:d.size=6):(results Tryz.f10 tmps).run N W=.ok (.tuple #[.agg cs,.agg d,u]) W:=by
 have hl:=hb.load (P:=N) oG rfl (by rw[hs];kernel_rfl);have hm:=hc.load (P:=N) lP rfl (by rw[hd];kernel_rfl);have d:tmps[2]?.getD undef=T (J ⟨b,0,I⟩):=by simpa using h2
 have f:tmps[3]?.getD undef=T (J ⟨c,0,I⟩):=by simpa using h3
 have g:tmps[4]?.getD undef=u:=by simpa using h4
 simp[results,results10,d,f,g,asAddr,hl,hm]
theorem mS(tmps:Array Value)(w W:World)(b c:Nat)(x0 x1 x2 x3 x4 x5 x6 x7 y0 y1 y2 y3 y4 y5:Value)(er:Int)(R:Rd)(hR:bL er=R)(h2:tmps.getD 2 undef=T (J ⟨b,0,I⟩))(h3:tmps.getD 3 undef=T (J ⟨c,0,I⟩))(h4:tmps.getD 4 undef=C E er)(hb:Blk W b 44 #[x0,x1,x2,x3,x4,x5,x6,x7])(hc:Blk W c 30 #[y0,y1,y2,y3,y4,y5])(hE:Ext w W)(H8:w.heap.size<=b:=by omega)(Kw:w.heap.size<=c:=by omega)(H1:b≠c:=by omega):
  bodyPost N Tryz.f10 (TellO w R) .ret { tmps:=tmps,defers:=[] } (aO (aY W b (C E 0) (C E 0) (C E 0) (C E 0) (L false) (F none 0 0) (C E 0) (C E 0)) c (C E 0) (C E 0) (C E 0) (C E 0) (C E 0) (F none 0 0)):=by
 refine bodyPost_ret (Ba _ _ b c _ _ _ h2 h3 h4 (dA (fO hb _ _ _ _ _ _ _ _) H1 _ _ _ _ _ _) (cQ (dB hc H1.symm _ _ _ _ _ _ _ _) _ _ _ _ _ _) rfl rfl) rfl ?_;subst hR;exact⟨_,_,rfl,⟨rfl,.inl ⟨rfl,rfl⟩⟩,⟨rfl,.inl ⟨rfl,rfl⟩⟩,dD (iS hE H8 _ _ _ _ _ _ _ _) Kw _ _ _ _ _ _⟩
theorem yw(v:Value)(fs:List Fil)(w:World)(hS:StW w)(hF:Fs w v fs)(hl:V fs<=4000000)(Hk:∀f∈fs,V f.2<=2000000):
  Calls N 10 #[v] w (TellO w (b9 fs)):=by
 obtain⟨A,c,rfl,_,_⟩:=Fs.open_ hF;obtain⟨x1,KD⟩:∃x:Array Value,#[C E 0,C E 0,C E 0,C E 0,L false,F none 0 0,C E 0,C E 0]=x:=⟨_,rfl⟩;obtain⟨x2,KE⟩:∃x:Array Value,#[C E 0,C E 0,C E 0,C E 0,C E 0,F none 0 0]=x:=⟨_,rfl⟩;have H8:=Pa w 44 x1;have HL:=H8.alloc (O x2 30);have Hj:=Pa (w.alloc (O x1 44)) 30 x2;rw[xS]at Hj;have hX:Ext w ((w.alloc (O x1 44)).alloc (O x2 30)):=xA (xA (xR _) _) _;subst KD KE;have key:=pO _ fs 1 0 0 _ (hS.ext hX) (hF.ext hX) hl;obtain⟨R,g⟩:∃R,b9 fs=R:=⟨_,rfl⟩;rw[g];unfold b9 at g;have Ho:∀b,bu fs (aE 1 0 0)=J b->V b<=2000000:=λb h=>by
  obtain⟨f,hf,rfl⟩:=oc h;exact Hk f hf
 obtain⟨rb,J2⟩:∃r,bu fs (aE 1 0 0)=r:=⟨_,rfl⟩;rw[J2]at key g Ho;have HR:=H g;have Hm:=H HL;have Hr:=H Hj;have HX:=H hX;have Kq:=H key;have HS:=H hS;have HF:=H hF;have KV:=H Hk;have Kp:=H Ho;clear H8 HL Hj hX key hF hS Hk Ho J2 g;go_enter func10,ntmps10
 go_wp2_with fail
 refine Kq.mono ?_;rintro e w1⟨v1,rfl,Kr,H4⟩;have H7:=H (xT HX H4);have K4:=Hm.ext H4;have K0:=Hr.ext H4;have Kk:=H K4;have K9:=H K0;cases rb with
 |none=>
  have g:bL 42=R:=HR.out;obtain⟨f0,f1,f2,f3,f4,f5,f6,f7⟩:=cS K4;obtain⟨d0,d1,d2,d3,d4,d5,d6,d7⟩:=cS K0;obtain⟨g0,g1,g2,g3,g4,g5,g6,g7⟩:=aU K4;obtain⟨c0,c1,c2,c3,c4,c5⟩:=aj K0;dsimp only[P7];go_wp2_with fail
  exact mS _ w w1 w.heap.size (w.heap.size+1) _ _ _ _ _ _ _ _ _ _ _ _ _ _ 42 R g rfl rfl rfl Kk K9 H7.out
 |some b=>
  have Hk:=Kp b rfl;dsimp only[P7,P8]at Kr⊢;have Hs:=Ic v1 b w1 Kr Hk;have Ha:=HR.out;dsimp only at Ha;obtain⟨rm,Kz⟩:∃r,cA b=r:=⟨_,rfl⟩;have KX:∀m,rm=J m->aZ m=true:=λm h=>(yD (Kz.trans h)).1;rw[Kz]at Hs Ha;have KW:=H KX;have Kg:=H Ha;have HB:=H Hs;clear Hs HR Ha Kz KX Kr K4 K0;go_wp2_with fail
  refine HB.mono ?_;rintro e j⟨vs,rfl,Ku,HJ⟩;have He:=Ku.sgs;obtain⟨B,d,rfl,_,_⟩:=He.open_;cases rm with
  |none=>
   have g:bL 130=R:=Kg.out;dsimp only[P7,P8];obtain⟨y,hy⟩:∃y:Array Value,#[C E mf0.next,C E mf0.term,C E mf0.vote,C E mf0.sq,C E mf0.sf,F B mf0.segs.length d]=y:=⟨_,rfl⟩;have Hc:Ext w1 (j.alloc (O y 30)):=xA HJ _;have Hy:=H (xT H7 Hc);have K5:=Kk.ext Hc;have K1:=K9.ext Hc;subst hy;have Km:=H K5;have Kb:=H K1;obtain⟨f0,f1,f2,f3,f4,f5,f6,f7⟩:=cS K5;obtain⟨d0,d1,d2,d3,d4,d5,d6,d7⟩:=cS K1;obtain⟨g0,g1,g2,g3,g4,g5,g6,g7⟩:=aU K5;obtain⟨c0,c1,c2,c3,c4,c5⟩:=aj K1;clear K5 K1 Hc HJ He H4;go_wp2_with fail
   exact mS _ w _ w.heap.size (w.heap.size+1) _ _ _ _ _ _ _ _ _ _ _ _ _ _ 130 R g rfl rfl rfl Km Kb Hy.out
  |some m=>
   have HN:=KW m rfl;dsimp only[P7,P8]at He Ku⊢;have HU:=Kg.out;dsimp only at HU;obtain⟨y,hy⟩:∃y:Array Value,#[C E m.next,C E m.term,C E m.vote,C E m.sq,C E m.sf,F B m.segs.length d]=y:=⟨_,rfl⟩;have Hc:Ext w1 (j.alloc (O y 30)):=xA HJ _;have Jf:Hid (OwnS (j.alloc (O y 30)) w1.heap.size (F B m.segs.length d) m.segs):=H (ai Ku (xA (xR j) _));have KJ:=H (He.ext (xA (xR j) (O y 30)));have Hy:=H (xT H7 Hc);have Km:=H (Kk.ext Hc);have Kb:=H (K9.ext Hc);have KL:=H (Pa j 30 y);have JB:w.heap.size+2<=j.heap.size:=by
    have h1:=H4.size;have h2:=HJ.size;simp at h1;omega
   subst hy;have Ht:=EL _ _ fs m _ (HS.ext Hy.out) (HF.ext Hy.out) KJ hl KV.out;obtain⟨rs,KA⟩:∃r,eI fs m=r:=⟨_,rfl⟩;have KY:∀s,rs=J s->0<=s.idx/\s.idx<=1073741824:=λs h=>(zp (KA.trans h)).2;rw[KA]at Ht HU;have Kh:=H HU;have Jn:=H KY;have HD:=H Ht;have HA:=H HN;obtain⟨o,p,q,D,M,T⟩:=aj KL.out;clear Kg HU KY Ht KA HN Hc HJ H4 He HB KW;go_wp2_with fail
   refine HD.mono ?_;rintro e w4⟨rfl,Hd⟩;have K6:=Km.ext Hd;have K2:=Kb.ext Hd;have Kv:=KL.ext Hd;have KF:=H (xT Hy Hd);have Ja:=H (KJ.ext Hd);have Jg:=H (ai Jf Hd);have KB:=Hd.size;rw[xS]at KB;clear o p q D M T HD;cases rs with
   |none=>
    have g:bL 130=R:=Kh.out;obtain⟨z,hz⟩:∃z:Array Value,#[C E staZ.idx,C E staZ.term,C E staZ.sum,C E staZ.lvl,L staZ.fin]=z:=⟨_,rfl⟩;have X:Ext w4 (w4.alloc (O z 41)):=xA (xR _) _;have H9:=H (xT KF X);have K7:=K6.ext X;have K3:=K2.ext X;subst hz;have Kn:=H K7;have Kc:=H K3;obtain⟨f0,f1,f2,f3,f4,f5,f6,f7⟩:=cS K7;obtain⟨d0,d1,d2,d3,d4,d5,d6,d7⟩:=cS K3;obtain⟨g0,g1,g2,g3,g4,g5,g6,g7⟩:=aU K7;obtain⟨c0,c1,c2,c3,c4,c5⟩:=aj K3;clear K7 K3 K6 K2 Kv X Hd;dsimp only[P7,P8];go_wp2_with fail
    exact mS _ w _ w.heap.size (w.heap.size+1) _ _ _ _ _ _ _ _ _ _ _ _ _ _ 130 R g rfl rfl rfl Kn Kc H9.out
   |some s=>
    obtain⟨J5,J6⟩:=Jn s rfl;have HV:=Kh.out;dsimp only at HV;dsimp only[P7,P8];obtain⟨z,hz⟩:∃z:Array Value,#[C E s.idx,C E s.term,C E s.sum,C E s.lvl,L s.fin]=z:=⟨_,rfl⟩;have X:Ext w4 (w4.alloc (O z 41)):=xA (xR _) _;have H9:=H (xT KF X);have Kn:=H (K6.ext X);have Kc:=H (K2.ext X);have Kf:=H (Kv.ext X);have KK:=H (Ja.ext X);have Jh:=H (ai Jg X);have KT:=H (Pa w4 41 z);subst hz;obtain⟨o,p,q,D,M,T⟩:=aj Kf.out;obtain⟨z0,z1,z2,z3,z4⟩:=ae KT.out;have HP:=pP HA.out;have HO:V m.segs<=60:=(lJ HA.out).2.2.2.1;have Hu:=Lv _ _ fs m s.idx _ (HS.ext H9.out) (HF.ext H9.out) KK hl KV HP ⟨J5,J6⟩ HO;obtain⟨rl,J3⟩:∃r,fk fs m s.idx=r:=⟨_,rfl⟩;rw[J3]at Hu HV;obtain⟨i,ok⟩:=rl;have KO:=H HV;have HH:=H Hu;clear HP HO Hu J3 HV K6 K2 Kv X Hd J5 J6 Kh;go_wp2_with fail
    refine HH.mono ?_;rintro e U⟨vl,rfl,Kt,HK⟩;dsimp only at Kt⊢;have Ks:=OwnE.es Kt;have KC:=HK.size;rw[xS]at KC;obtain⟨k,l,rfl,_,_⟩:=xO Ks;obtain⟨o,p,q,D,M,T⟩:=aj (Kf.ext HK);obtain⟨z0,z1,z2,z3,z4⟩:=ae (KT.ext HK);obtain⟨y,hy⟩:∃y:Array Value,#[C E s.idx,C E s.term,C E s.sum,C E s.lvl,L s.fin,F k i.length l,C E m.term,C E m.vote]=y:=⟨_,rfl⟩;have HY:Ext U (U.alloc (O y 44)):=xA (xR _) _;have H2:=xT HK HY;have KH:=H (xT H9 H2);have HW:=H (Kn.ext H2);have HT:=H (Kc.ext H2);have Jl:=H (Kf.ext H2);have JD:=H (KK.ext H2);have Ji:=H (ai Jh H2);have Je:=H (Es.ext Ks HY);have Jb:=H (OwnE.ext Kt HY);have KP:=H (Pa U 44 y);subst hy;clear H2 HY HK Ks HH;have Hv:=F7 ⟨s,i,m.term,m.vote⟩ _ _ Je.out;obtain⟨rr,J4⟩:∃r,cT ⟨s,i,m.term,m.vote⟩=r:=⟨_,rfl⟩;have Ki:=KO.out;rw[J4]at Hv Ki;have Kj:=H Ki;have HI:=H Hv;clear Hv Ki KO J4;obtain⟨Y,Z,t2,t3,t4,t5,t6,t7⟩:=aU KP.out;cases ok with
    |false=>
     have g:bL 130=R:=Kj.out;clear Y Z t2 t3 t4 t5 t6 t7;obtain⟨f0,f1,f2,f3,f4,f5,f6,f7⟩:=cS HW.out;obtain⟨d0,d1,d2,d3,d4,d5,d6,d7⟩:=cS HT.out;obtain⟨g0,g1,g2,g3,g4,g5,g6,g7⟩:=aU HW.out;obtain⟨c0,c1,c2,c3,c4,c5⟩:=aj HT.out;go_wp2_with fail
     exact mS _ w _ w.heap.size (w.heap.size+1) _ _ _ _ _ _ _ _ _ _ _ _ _ _ 130 R g rfl rfl rfl HW HT KH.out
    |true=>
     go_wp2_with fail
     refine HI.mono ?_;rintro e w8⟨rfl,Hg⟩;have Hf:=H (HW.ext Hg);have Hx:=H (HT.ext Hg);have KM:=H (Jl.ext Hg);have KQ:=H (KP.ext Hg);have KI:=H (xT KH Hg);have Jc:=H (OwnE.ext Jb Hg);have Jj:=H (ai Ji Hg);clear o p q D M T z0 z1 z2 z3 z4 Y Z t2 t3 t4 t5 t6 t7 Hg HI;cases rr with
     |false=>
      have g:bL 130=R:=Kj.out;obtain⟨f0,f1,f2,f3,f4,f5,f6,f7⟩:=cS Hf.out;obtain⟨d0,d1,d2,d3,d4,d5,d6,d7⟩:=cS Hx.out;obtain⟨g0,g1,g2,g3,g4,g5,g6,g7⟩:=aU Hf.out;obtain⟨c0,c1,c2,c3,c4,c5⟩:=aj Hx.out;go_wp2_with fail
      exact mS _ w _ w.heap.size (w.heap.size+1) _ _ _ _ _ _ _ _ _ _ _ _ _ _ 130 R g rfl rfl rfl Hf Hx KI.out
     |true=>
      obtain⟨o,p,q,D,M,T⟩:=aj KM.out;obtain⟨Y,Z,t2,t3,t4,t5,t6,t7⟩:=aU KQ.out;obtain⟨f0,f1,f2,f3,f4,f5,f6,f7⟩:=cS Hf.out;obtain⟨d0,d1,d2,d3,d4,d5,d6,d7⟩:=cS Hx.out;obtain⟨g0,g1,g2,g3,g4,g5,g6,g7⟩:=aU Hf.out;obtain⟨c0,c1,c2,c3,c4,c5⟩:=aj Hx.out;go_wp2_with fail
      have g:(⟨0,⟨s,i,m.term,m.vote⟩,m⟩:Rd)=R:=Kj.out;have Jz:U.heap.size≠w.heap.size:=by omega
      have Jy:j.heap.size≠w.heap.size:=by omega
      have Ky:U.heap.size≠w.heap.size+1:=by omega
      have Kx:j.heap.size≠w.heap.size+1:=by omega
      refine wp_region_held_drew (S:=λW=>W.cell? ⟨U.heap.size,0,I⟩=J (C E s.idx)/\W.cell? ⟨U.heap.size,1,I⟩=J (C E s.term)/\W.cell? ⟨U.heap.size,2,I⟩=J (C E s.sum)/\W.cell? ⟨U.heap.size,3,I⟩=J (C E s.lvl)/\W.cell? ⟨U.heap.size,4,I⟩=J (L s.fin)/\W.cell? ⟨U.heap.size,5,I⟩=J (F k i.length l)/\W.cell? ⟨U.heap.size,6,I⟩=J (C E m.term)/\W.cell? ⟨U.heap.size,7,I⟩=J (C E m.vote)/\W.cell? ⟨j.heap.size,0,I⟩=J (C E m.next)/\W.cell? ⟨j.heap.size,1,I⟩=J (C E m.term)/\W.cell? ⟨j.heap.size,2,I⟩=J (C E m.vote)/\W.cell? ⟨j.heap.size,3,I⟩=J (C E m.sq)/\W.cell? ⟨j.heap.size,4,I⟩=J (C E m.sf)/\W.cell? ⟨j.heap.size,5,I⟩=J (F B m.segs.length d)) (by kernel_rfl) ⟨Y,Z,t2,t3,t4,t5,t6,t7,o,p,q,D,M,T⟩ (λ_=>?_);clear Y Z t2 t3 t4 t5 t6 t7 o p q D M T;refine ab 0 ?_;refine ab 1 ?_;refine ah 2 (λK hK=>?_);go_simp;show K _ (World.drew (aY w8 w.heap.size (C E s.idx) (C E s.term) (C E s.sum) (C E s.lvl) (L s.fin) (F k i.length l) (C E m.term) (C E m.vote)));have hD:Ext (aY w8 w.heap.size (C E s.idx) (C E s.term) (C E s.sum) (C E s.lvl) (L s.fin) (F k i.length l) (C E m.term) (C E m.vote)) (World.drew (aY w8 w.heap.size (C E s.idx) (C E s.term) (C E s.sum) (C E s.lvl) (L s.fin) (F k i.length l) (C E m.term) (C E m.vote))):=xD (xR _);have KR:=H ((dB KQ Jz (C E s.idx) (C E s.term) (C E s.sum) (C E s.lvl) (L s.fin) (F k i.length l) (C E m.term) (C E m.vote)).ext hD);have KN:=H ((dB KM Jy (C E s.idx) (C E s.term) (C E s.sum) (C E s.lvl) (L s.fin) (F k i.length l) (C E m.term) (C E m.vote)).ext hD);have Hz:=H ((dB Hx (by omega:w.heap.size+1≠w.heap.size) (C E s.idx) (C E s.term) (C E s.sum) (C E s.lvl) (L s.fin) (F k i.length l) (C E m.term) (C E m.vote)).ext hD);have Jm:=H ((fO Hf (C E s.idx) (C E s.term) (C E s.sum) (C E s.lvl) (L s.fin) (F k i.length l) (C E m.term) (C E m.vote)).ext hD);have J7:=H (xT (iS KI (xN _) (C E s.idx) (C E s.term) (C E s.sum) (C E s.lvl) (L s.fin) (F k i.length l) (C E m.term) (C E m.vote)) hD);have Jd:=H (OwnE.ext (dQ Hf Jc (C E s.idx) (C E s.term) (C E s.sum) (C E s.lvl) (L s.fin) (F k i.length l) (C E m.term) (C E m.vote)) hD);have Jk:=H (ai (dQ Hf Jj (C E s.idx) (C E s.term) (C E s.sum) (C E s.lvl) (L s.fin) (F k i.length l) (C E m.term) (C E m.vote)) hD);clear hD;clear f0 f1 f2 f3 f4 f5 f6 f7 d0 d1 d2 d3 d4 d5 d6 d7 g0 g1 g2 g3 g4 g5 g6 g7 c0 c1 c2 c3 c4 c5;generalize(World.drew (aY w8 w.heap.size (C E s.idx) (C E s.term) (C E s.sum) (C E s.lvl) (L s.fin) (F k i.length l) (C E m.term) (C E m.vote)))=w9 at *;obtain⟨Y,Z,t2,t3,t4,t5,t6,t7⟩:=aU KR.out;obtain⟨o,p,q,D,M,T⟩:=aj KN.out;refine af hK _ _ ⟨Y,Z,t2,t3,t4,t5,t6,t7,o,p,q,D,M,T⟩ (λ_=>?_);clear Y Z t2 t3 t4 t5 t6 t7 o p q D M T;obtain⟨d0,d1,d2,d3,d4,d5,d6,d7⟩:=cS Hz.out;obtain⟨c0,c1,c2,c3,c4,c5⟩:=aj Hz.out;refine ah 3 (λK hK=>?_);go_simp;show K _ (aO w9 (w.heap.size+1) (C E m.next) (C E m.term) (C E m.vote) (C E m.sq) (C E m.sf) (F B m.segs.length d));have Ko:=H (dA KR Ky (C E m.next) (C E m.term) (C E m.vote) (C E m.sq) (C E m.sf) (F B m.segs.length d));have Ke:=H (dA KN Kx (C E m.next) (C E m.term) (C E m.vote) (C E m.sq) (C E m.sf) (F B m.segs.length d));have Kl:=H (dA Jm (by omega:w.heap.size≠w.heap.size+1) (C E m.next) (C E m.term) (C E m.vote) (C E m.sq) (C E m.sf) (F B m.segs.length d));have Ka:Hid (Blk (aO w9 (w.heap.size+1) (C E m.next) (C E m.term) (C E m.vote) (C E m.sq) (C E m.sf) (F B m.segs.length d)) (w.heap.size+1) 30 #[C E m.next,C E m.term,C E m.vote,C E m.sq,C E m.sf,F B m.segs.length d]):=H (cQ Hz _ _ _ _ _ _);have Hi:=H (dD J7 (Nat.le_succ w.heap.size) (C E m.next) (C E m.term) (C E m.vote) (C E m.sq) (C E m.sf) (F B m.segs.length d));have Hi:Hid (Ext w (aO w9 (w.heap.size+1) (C E m.next) (C E m.term) (C E m.vote) (C E m.sq) (C E m.sf) (F B m.segs.length d))):=Hi;have K8:Hid (OwnE (aO w9 (w.heap.size+1) (C E m.next) (C E m.term) (C E m.vote) (C E m.sq) (C E m.sf) (F B m.segs.length d)) _ _ i):=H (cU Hz Jd (C E m.next) (C E m.term) (C E m.vote) (C E m.sq) (C E m.sf) (F B m.segs.length d));have Kd:Hid (OwnS (aO w9 (w.heap.size+1) (C E m.next) (C E m.term) (C E m.vote) (C E m.sq) (C E m.sf) (F B m.segs.length d)) _ _ m.segs):=H (cU Hz Jk (C E m.next) (C E m.term) (C E m.vote) (C E m.sq) (C E m.sf) (F B m.segs.length d));clear c0 c1 c2 c3 c4 c5 d0 d1 d2 d3 d4 d5 d6 d7;generalize(aO w9 (w.heap.size+1) (C E m.next) (C E m.term) (C E m.vote) (C E m.sq) (C E m.sf) (F B m.segs.length d))=w10 at *;obtain⟨Y,Z,t2,t3,t4,t5,t6,t7⟩:=aU Ko.out;obtain⟨o,p,q,D,M,T⟩:=aj Ke.out;refine af hK _ _ ⟨Y,Z,t2,t3,t4,t5,t6,t7,o,p,q,D,M,T⟩ (λ_=>?_);clear Y Z t2 t3 t4 t5 t6 t7 o p q D M T;refine ab 4 ?_;refine aq ?_;go_wp2_with fail
      refine bodyPost_ret (Ba _ _ w.heap.size (w.heap.size+1) _ _ _ rfl rfl rfl Kl Ka rfl rfl) rfl ?_;subst g;exact⟨_,_,rfl,ay K8 H9.size,ay Kd H7.size,Hi.out⟩
theorem F4(v:Value)(fs:List Fil)(w:World)(g:StW w)(d:Fs w v fs)(hl:V fs<=4000000)(c:∀f∈fs,V f.2<=2000000):
  Calls N 10 #[v] w (pk w (b9 fs)):=(yw v fs w g d hl c).mono λ_ _ h=>h.tell
open Go.RowKit Go.Mv Go.Shelf
attribute [local go_sem] Oper.semAt_some
theorem ze{n:Nat}(h:W.ownsRow base e size v n xs){D:Nat}{o:Obj}(hD:W.heap[D]?=J o)(hc:o.isCells=false)(f:Obj):(W.putObj D f).ownsRow base e size v n xs:=by
 refine⟨h.1,?_⟩;rcases h.2 with hn | ⟨g,c,d,i,hb,hg,rest⟩
 ·exact .inl hn
 ·exact .inr ⟨g,c,d,i,hb,pM (W:=W) (b:=g) (t:=e) (cs:=d) hg hD hc f,rest⟩
end Go.Proofs.YteggfecbjgbndaaGreatDoor

namespace Go.Mv
open Go.RowKit
variable {a:Act} {df:List Deferred} {w:World}
section
variable {n:Nat} {P:Program} {ops:Array Oper} {Q:Exit->Act->World->Prop} {md:Region.Mode} {S:World->Prop}
def NoH(Q:Exit->Act->World->Prop)(df:List Deferred)(d:List PanicEntry->World->Prop):Exit->Act->World->Prop
 |.normal,a,w=>Q .normal a w
 |.panic c,a,w=>a.defers=df/\d c w
 |_,_,_=>False
theorem pI{c:List PanicEntry->World->Prop}(h:Q .normal a w):NoH Q df c .normal a w:=h
theorem Nw{d:List PanicEntry->World->Prop}{i:Nat}{K:Act->World->Prop}(h:wpOp P ops (NoH Q df d) i K a w):wpOpIn (Wd none) n P ops (NoH Q df d) i K a w:=by
 unfold wpOp at h;unfold wpOpIn;cases f:ops[i]? with
 |none=>rw[f]at h;exact h
 |some o=>
  rw[f]at h;dsimp only at h⊢;split
  ·rename_i c;rw[if_pos c]at h;rcases h with h | ⟨_,_,_,h⟩
   ·refine⟨λ_ _=>trivial,?_⟩;rw[show(Wd none).round=none from rfl,Oper.semAt_none];exact BP h
   exact h.elim
  ·rename_i c;rw[if_neg c]at h;exact⟨λ_ _=>trivial,h⟩
theorem zF{c:List PanicEntry->World->Prop}:∀(fuel:Nat) (listed:Array Bool) (a:Act) (w:World),wpAny P md ops (NoH Q df c) fuel listed a w->wpAnyIn (Wd none) n P md ops (NoH Q df c) fuel listed a w
 |0,_,_,_,h=>h
 |fuel+1,listed,a,w,h=>⟨h.1,λi c=>wpOpIn_mono (λa w=>zF fuel _ a w) (Nw (h.2 i c))⟩
theorem mj{i:Nat}(df:List Deferred)(d:List PanicEntry->World->Prop)(g:∀c a w,a.defers=df->d c w->Q (.panic c) a w)(hm:P.follows .mixedOrders=true)(f:S w.drew)(h:S w.drew->wpAnyH P .any ops (NoH Q df d) S ops.size (Array.replicate ops.size false) a w.drew):(Code.region i ops true).wpIn (Wd none) n P Q a w:=
 wpIn_mono (wpIn_region_any hm (zF _ _ _ _ (wpAny_of_held _ _ _ _ (h f)))) λe a w h=>by
  cases e<;>first | exact h | exact g _ _ _ h.1 h.2 | exact h.elim
end
end Go.Mv
namespace Go.Proofs.YteggfecbjgbndaaGreatDoor
open Go.RowKit Go.Mv
variable {n:Nat} {G:Nat->Prop} {v:Value} {A B:World}
abbrev HC(A B:World):Prop:=Kept (λ_ o=>o.isCells=true) A B
theorem HC.of_ext(h:Ext A B):HC A B:=⟨h.size,λk _ c _=>(h.block k (P9.1 c).1).trans c⟩
theorem HC.keptG{c W W':World}(h:HC c W)(d:Kept (am (KG G) n) W W')(f:∀k,G k->c.heap.size<=k):HC c W':=
 ⟨Nat.le_trans h.size d.size,λk o h1 h2=>d.same k o (h.same k o h1 h2) (.inl ⟨h2,λhg=>by
   have:=f k hg;have:=(P9.1 h1).1;omega⟩)⟩
theorem HC.cell{p:Addr}{u:Value}(h:HC A B)(hc:A.cell? p=J u):B.cell? p=J u:=by
 obtain⟨o,d,Hl⟩:=cells_of_cell hc;exact Kept.cell h hc (λf c=>by rw[d]at c;cases c;exact Hl)
theorem Fs.hc{fs:List Fil}(h:Fs A v fs)(c:HC A B):Fs B v fs:=by
 obtain⟨d,h1,h2⟩:=h;refine⟨d,h1.keep λ_ _ hc=>c.cell hc,λi d=>?_⟩;obtain⟨h3,u,h4,h5⟩:=h2 i d;exact⟨h3,u,h4,SlR.keep h5 λ_ _ hc=>c.cell hc⟩
theorem Sgs.hc{l:List Sg4}(h:Sgs A v l)(c:HC A B):Sgs B v l:=h.keep λ_ _ hc=>c.cell hc
theorem StW.hc (h:StW A) (hk:HC A B):StW B:=by
 refine ⟨fun i hi=>hk.cell (h.tab i hi),?_⟩;have h:=h.pow;unfold Lib.TabIs World.var? at *;cases hg:(N).globalNamed "internal/strconv.uint64pow10" with
 | none=>simp[hg] at h
 | some g =>
  simp only[hg,Option.bind_some] at h ⊢;cases ho:A.heap[g]? with
  | none=>simp[ho] at h
  | some o =>
   cases o with
   | cells cs t d=>rw[hk.same g _ ho rfl];simp only[ho] at h;exact h
   | _=>simp[ho] at h
theorem Blk.keptG{b:Nat}{t:TypeId}{cs:Array Value}(h:Blk A b t cs)(d:Kept (am (KG G) n) A B)(c:¬G b):Blk B b t cs:=d.same b _ h (.inl ⟨rfl,c⟩)
theorem OwnE.keptG{base:Nat}{l:List Ent}(h:OwnE A base v l)(j:Kept (am (KG G) n) A B)(i:∀q,v.ownBlock=J q->¬G q):OwnE B base v l:=by
 refine⟨h.1,?_⟩;rcases h.2 with hn | ⟨g,c,f,e,hb,d,rest⟩
 ·exact .inl hn
 ·exact .inr ⟨g,c,f,e,hb,j.same _ _ d (.inl ⟨rfl,i g (by rw[e];rfl)⟩),rest⟩
theorem Moves.of_ext{M:Nat->Obj->Prop}(h:Ext A B):Moves M A B:=⟨h.os,h.tape,h.output,h.size,λk _ c _=>(h.block k (P9.1 c).1).trans c⟩
def cy:Int->List Ent->List (Int×Ent)
 |_,[]=>[]
 |n,e::x=>(n,e)::cy (n+1) x
def aI(fs:List Fil):List Sg4->List (Int×Ent)×Bool
 |[]=>([],true)
 | s::l=>match bw fs s with
  |none=>([],false)
  |some x=>(cy s.first x++(aI fs l).1,(aI fs l).2)
def fC(index:Int)(c:Int×List Ent)(p:Int×Ent):Int×List Ent:=(p.1,if index<p.1 then c.2++[p.2]else c.2)
theorem Bo(index:Int):∀(x:List Ent) (first last:Int) (out:List Ent),(cy first x).foldl (fC index) (last,out)=(if V x=0 then last else first+V x-1,out++x.drop (index+1-first).toNat)
 |[],first,last,out=>by simp[cy]
 | e::x,first,last,out=>by
  rw[cy,P6,show fC index (last,out) (first,e)=(first,if index<first then out++[e]else out)from rfl,Bo index x];have h1:(if V x=0 then first else first+1+(V x:Int)-1)=(if V (e::x)=0 then last else first+(V (e::x):Nat)-1):=by
   rw[if_neg (show ¬V (e::x)=0 by simp),xC];split<;>omega
  rw[h1];congr 1
  by_cases h:index<first
  ·rw[if_pos h,show(index+1-(first+1)).toNat=0 from by omega,show(index+1-first).toNat=0 from by omega,P2];rfl
  ·rw[if_neg h,show(index+1-first).toNat=(index+1-(first+1)).toNat+1 from by omega,List.drop_succ_cons]
theorem qk(fs:List Fil)(index:Int):∀(l:List Sg4) (last:Int) (out:List Ent),fi fs index l last out=if(aI fs l).2=true then some ((aI fs l).1.foldl (fC index) (last,out))else none
 |[],last,out=>by rw[fi,aI,if_pos rfl];rfl
 | s::l,last,out=>by
  rw[fi,aI];cases h:bw fs s with
  |none=>simp
  |some x=>
   dsimp only;rw[qk fs index l,List.foldl_append,Bo]
theorem oN:∀(x:List Ent) (n:Int),V (cy n x)=V x
 |[],_=>rfl
 |_::x,n=>by rw[cy,xC,oN x,xC]
theorem rA:∀(x:List Ent) (n:Int) (k:Nat) (h:k<V x),(cy n x)[k]?=J (n+k,x[k])
 |e::x,n,0,_=>by simp[cy]
 | e::x,n,k+1,h=>by
  rw[cy,List.getElem?_cons_succ,rA x (n+1) k (by simpa using h)];rw[show n+1+(k:Int)=n+((k+1:Nat):Int) by omega];rfl
theorem MD(x:List Ent)(n:Int)(k:Nat)(h:k<V x):(cy n x).take (k+1)=(cy n x).take k++[(n+k,x[k])]:=by
 have h1:=rA x n k h;rw[List.take_succ,h1];rfl
theorem rR(index:Int):∀(l:List (Int×Ent)) (st:Int×List Ent),V (l.foldl (fC index) st).2<=V st.2+V l
 |[],_=>xN _
 | p::l,st=>by
  have:=rR index l (fC index st p);rw[P6,xC];have h2:V (fC index st p).2<=V st.2+1:=by
   unfold fC;dsimp only;split<;>simp
  omega
theorem Ih(fs:List Fil)(l:List Sg4)(k:Nat)(h:k<V l)(c:(aI fs (l.take k)).2=true):aI fs (l.take (k+1))=match bw fs l[k]with
  |none=>((aI fs (l.take k)).1,false)
  |some x=>((aI fs (l.take k)).1++cy l[k].first x,true):=by
 induction l generalizing k with
 |nil=>simp at h
 |cons s l ih=>
  cases k with
  |zero=>
   simp only[P3,P1,P0,aI];cases bw fs s<;>simp
  |succ k=>
   simp only[P1,aI,P5]at c⊢;cases he:bw fs s with
   |none=>rw[he]at c;cases c
   |some x=>
    rw[he]at c;dsimp only at c⊢;rw[ih k (by simpa using h) c];cases bw fs (l[k]'(by simpa using h))with
    |none=>rfl
    |some y=>simp[P2]
theorem Ms(fs:List Fil)(l:List Sg4)(k:Nat)(h:k<V l)(c:(aI fs (l.take k)).2=true)(he:bw fs l[k]=none):aI fs l=((aI fs (l.take k)).1,false):=by
 induction l generalizing k with
 |nil=>simp at h
 |cons s l ih=>
  cases k with
  |zero=>
   simp only[P0]at he;simp only[P3,aI,he]
  |succ k=>
   rw[P1]at c⊢;rw[aI]at c⊢;rw[aI];cases hs:bw fs s with
   |none=>simp[hs]at c
   |some x=>
    rw[hs]at c;dsimp only at c⊢;rw[ih k (by simpa using h) c he]
theorem Mt(fs:List Fil)(l:List Sg4)(k:Nat)(h:k<V l)(c:(aI fs (l.take k)).2=true){x:List Ent}(he:bw fs l[k]=J x):∃d,(aI fs l).1=(aI fs (l.take k)).1++cy l[k].first x++d:=by
 induction l generalizing k with
 |nil=>simp at h
 |cons s l ih=>
  cases k with
  |zero=>
   simp only[P0]at he;refine⟨(aI fs l).1,?_⟩;simp only[P3,aI,he,P0,xI]
  |succ k=>
   rw[P1]at c⊢;rw[aI]at c⊢;rw[aI];cases hs:bw fs s with
   |none=>simp[hs]at c
   |some y=>
    rw[hs]at c;dsimp only at c⊢;obtain⟨d,f⟩:=ih k (by simpa using h) c (by simpa using he);refine⟨d,?_⟩;rw[f,P5];simp only[P2]
