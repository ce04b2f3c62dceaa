/- Merged -/
import Derived.Test.YteggfecbjgbndaaGreatDoorZy30
set_option linter.all false
set_option maxHeartbeats 8000000
set_option maxRecDepth 100000
open List renaming length->H
open Go.Value renaming slice->C,int->D,bool->G
open Go.IntKind renaming i64->E
open Go.Mv renaming aN->F
open List renaming mem_take_iff_getElem->P0,getElem_of_mem->P1,any_eq_false->P2,any_eq_true->P3,length_map->P4,mem_map->P5
open Nat renaming lt_or_ge->P6
namespace Go.Proofs.YteggfecbjgbndaaGreatDoor
open Go.RowKit Go.Mv Go.Shelf
variable {d:Dk}
theorem mcR5ba0{P:Prop}(h:P:=by
 clear g0 g1 g2 g3 g4;go_loopw [4] (λi wr=>∃j:Nat,j<=d.q.length/\j<=61/\i=D E j/\Hid (∀q (_:q<j) (h2:q<d.q.length),d.q[q].b.length<=1000)/\Hid (Blk wr w.heap.size 25 #[C A d.fs.length c,C B d.q.length e2,D E d.quota,D E d.fuse,G d.dead])/\Hid (Ext w wr)) (λi _=>d.q.length-(intOf i).toNat)
 case atStart=>exact⟨0,by omega,by omega,rfl,F λq hq=>by omega,HB,HE⟩
 case round=>
  clear HB HE;obtain⟨j2,hj,Hi,rfl,Hn,HB,HE⟩:=hrel;obtain⟨g0,g1,g2,g3,g4⟩:=ae HB.out;by_cases H2:j2<d.q.length/\j2<=60
  ·obtain⟨H2,H5⟩:=H2;obtain⟨_,b,Hk,rfl,hc⟩:=(HQ.ext HE.out).at_ (by omega);obtain⟨H9,Hd,Hh,B2,d2,Hm,H8⟩:=hc j2 H2;have Hj:(j2:Int)<(d.q.length:Int):=by omega
   have hp:1000<d.q[j2].b.length->R=true:=λh=>by rw[<-HR.out];exact yH H2 H5 h
   have hq:d.q[j2].b.length<=1000->∀q (_:q<j2+1) (h2:q<d.q.length),d.q[q].b.length<=1000:=λh q h3 h2=>by
    by_cases e:q=j2
    ·subst e;exact h
    exact Hn q (by omega) h2
   have Hp:=F hp;have Hq:=F hq;clear hc hp hq HR Hn H8 H9 Hd Hh;generalize d.q[j2].b.length=n2 at *;by_cases c1:1000<n2
   ·have:=Hp c1;subst this;have H7:(1000:Int)<(n2:Int):=by omega
    go_wp2_with fail;go_ret;exact⟨rfl,HE.out⟩
   have H7:¬(1000:Int)<(n2:Int):=by omega
   have H6:=F (Hq (by omega));clear Hp Hq;go_wp2_with fail
   go_roundw
   case rel=>exact⟨j2+1,by omega,by omega,by go_num,H6,HB,HE⟩
   case measure=>simp[intOf];omega
  ·have H0:∀q (_:q<=60) (h2:q<d.q.length),d.q[q].b.length<=1000:=λq h1 h2=>Hn.out q (by omega) h2;have Ha:=F H0;clear H0 Hn;have Hb:=F (show dY d=(decide (30<d.fs.length)||decide (60<d.q.length))from CY HN Ha.out);clear HN Ha;by_cases hlt3:(j2:Int)<(d.q.length:Int)
   ·have Hl:¬(j2:Int)<=60:=by omega
    go_wp2_with fail
    all_goals
     go_ret;refine⟨ret_bool ?_,HE.out⟩;rw[<-HR.out,Hb.out,Bool.eq_iff_iff];simp;omega
   ·go_wp2_with fail
    all_goals
     go_ret;refine⟨ret_bool ?_,HE.out⟩;rw[<-HR.out,Hb.out,Bool.eq_iff_iff];simp;omega):P:=h
def dY(d:Dk):Bool:=(d.fs.take 31).any (λf=>decide (1000<H f.2))||(d.q.take 61).any (λo=>decide (1000<H o.b))||decide (30<H d.fs)||decide (60<H d.q)
theorem zL{j:Nat}(h:j<H d.fs)(h2:j<=30)(h3:1000<H d.fs[j].2):dY d=true:=by
 unfold dY;have:(d.fs.take 31).any (λf=>decide (1000<H f.2))=true:=by
  rw[P3];exact⟨d.fs[j],P0.2 ⟨j,by omega,rfl⟩,by simpa using h3⟩
 rw[this];simp
theorem yH{j:Nat}(h:j<H d.q)(h2:j<=60)(h3:1000<H d.q[j].b):dY d=true:=by
 unfold dY;have:(d.q.take 61).any (λo=>decide (1000<H o.b))=true:=by
  rw[P3];exact⟨d.q[j],P0.2 ⟨j,by omega,rfl⟩,by simpa using h3⟩
 rw[this];simp
theorem qd(h:30<H d.fs\/60<H d.q):dY d=true:=by
 unfold dY;rcases h with h | h<;>simp[h]
theorem LZ(h1:∀q (_:q<=30) (h2:q<H d.fs),H d.fs[q].2<=1000)(h2:∀q (_:q<=60) (h2:q<H d.q),H d.q[q].b<=1000)(h3:H d.fs<=30)(h4:H d.q<=60):dY d=false:=by
 unfold dY;have a1:(d.fs.take 31).any (λf=>decide (1000<H f.2))=false:=by
  rw[P2];intro x hx;obtain⟨j,a,rfl⟩:=P0.1 hx;have:=h1 j (by omega) (by omega);simpa using this
 have a2:(d.q.take 61).any (λo=>decide (1000<H o.b))=false:=by
  rw[P2];intro x hx;obtain⟨j,a,rfl⟩:=P0.1 hx;have:=h2 j (by omega) (by omega);simpa using this
 rw[a1,a2];simp;omega
theorem Dy(h:dY d=false):H d.fs<=30/\H d.q<=60/\tot d.fs<=30000/\aL d.q<=60000:=by
 have h3:H d.fs<=30:=by
  rcases P6 30 (H d.fs)with h1 | h1
  ·rw[qd (.inl h1)]at h;cases h
  exact h1
 have h4:H d.q<=60:=by
  rcases P6 60 (H d.q)with h1 | h1
  ·rw[qd (.inr h1)]at h;cases h
  exact h1
 have a1:∀f∈d.fs,H f.2<=1000:=by
  intro f hf;obtain⟨j,a,rfl⟩:=P1 hf;rcases P6 1000 (H d.fs[j].2)with h1 | h1
  ·rw[zL a (by omega) h1]at h;cases h
  exact h1
 have a2:∀o∈d.q,H o.b<=1000:=by
  intro f hf;obtain⟨j,a,rfl⟩:=P1 hf;rcases P6 1000 (H d.q[j].b)with h1 | h1
  ·rw[yH a (by omega) h1]at h;cases h
  exact h1
 have s:∀(l:List Nat),(∀x∈l,x<=1000)->l.sum<=H l*1000:=by
  intro l;induction l with
  |nil=>intro _;simp
  |cons x l ih=>
   intro hx;have:=ih λy a=>hx y (List.mem_cons_of_mem _ a);have:=hx x (List.mem_cons_self ..);simp only[List.sum_cons,xC];omega
 refine⟨h3,h4,?_,?_⟩
 ·have:=s (d.fs.map λp=>H p.2) (by intro x hx;obtain⟨f,hf,rfl⟩:=P5.1 hx;exact a1 f hf);rw[P4]at this;unfold tot;omega
 ·have:=s (d.q.map λp=>H p.b) (by intro x hx;obtain⟨f,hf,rfl⟩:=P5.1 hx;exact a2 f hf);rw[P4]at this;unfold aL;omega
theorem CY(h1:∀q (_:q<=30) (h2:q<H d.fs),H d.fs[q].2<=1000)(h2:∀q (_:q<=60) (h2:q<H d.q),H d.q[q].b<=1000):dY d=(decide (30<H d.fs)||decide (60<H d.q)):=by
 by_cases h:30<H d.fs\/60<H d.q
 ·rw[qd h];rcases h with h | h<;>simp[h]
 ·rw[LZ h1 h2 (by omega) (by omega)];symm
  simp;omega
theorem F0(v:Value)(d:Dk)(w:World)(hD:DkV w v d)(g:H d.fs<=2000000)(g:H d.q<=2000000):Calls Tryz.prog 29 #[v] w λe w'=>e=.returned (G (dY d))/\Ext w w':=by
 obtain⟨g,g,rfl,a,f⟩:=hD;obtain⟨A,c,rfl,_,_⟩:=Fs.open_ a;obtain⟨B,e2,rfl,_,_⟩:=Qs.open_ f;have H3:Ext w (w.alloc (.cells #[C A d.fs.length c,C B d.q.length e2,D E d.quota,D E d.fuse,G d.dead] 25)):=xA (xR _) _;have k:=Blk.new w 25 #[C A d.fs.length c,C B d.q.length e2,D E d.quota,D E d.fuse,G d.dead];obtain⟨R,g⟩:∃R,dY d=R:=⟨_,rfl⟩;rw[g];have HR:=F g;have l:=F a;have HQ:=F f;have HE:=F H3;have HB:=F k;clear g a f H3 k;obtain⟨g0,g1,g2,g3,g4⟩:=ae HB.out;go_enter Tryz.func29,Tryz.ntmps29
 go_wp2_with fail;clear g0 g1 g2 g3 g4;go_loopw [3] (λi wr=>∃j:Nat,j<=H d.fs/\j<=31/\i=D E j/\Hid (∀q (_:q<j) (h2:q<H d.fs),H d.fs[q].2<=1000)/\Hid (Blk wr w.heap.size 25 #[C A d.fs.length c,C B d.q.length e2,D E d.quota,D E d.fuse,G d.dead])/\Hid (Ext w wr)) (λi _=>H d.fs-(intOf i).toNat)
 case atStart=>exact⟨0,by omega,by omega,rfl,F λq hq=>by omega,HB,HE⟩
 case round=>
  clear HB HE;obtain⟨j,hj,Hi,rfl,Hn,HB,HE⟩:=hrel;obtain⟨g0,g1,g2,g3,g4⟩:=ae HB.out;by_cases H2:j<H d.fs/\j<=30
  ·obtain⟨H2,H5⟩:=H2;obtain⟨_,b,Hk,rfl,hc⟩:=(l.ext HE.out).at_ (by omega);obtain⟨H9,B2,d2,Hd,H8⟩:=hc j H2;have Hj:(j:Int)<(H d.fs:Int):=by omega
   have hp:1000<H d.fs[j].2->R=true:=λh=>by rw[<-HR.out];exact zL H2 H5 h
   have hq:H d.fs[j].2<=1000->∀q (_:q<j+1) (h2:q<H d.fs),H d.fs[q].2<=1000:=λh q h3 h2=>by
    by_cases e:q=j
    ·subst e;exact h
    exact Hn q (by omega) h2
   have Hp:=F hp;have Hq:=F hq;clear hc hp hq HR Hn H8 H9;generalize(H d.fs[j].2)=n2 at *;by_cases c1:1000<n2
   ·have:=Hp c1;subst this;have H7:(1000:Int)<(n2:Int):=by omega
    go_wp2_with fail;go_ret;exact⟨rfl,HE.out⟩
   have H7:¬(1000:Int)<(n2:Int):=by omega
   have H6:=F (Hq (by omega));clear Hp Hq;go_wp2_with fail
   go_roundw
   case rel=>exact⟨j+1,by omega,by omega,by go_num,H6,HB,HE⟩
   case measure=>simp[intOf];omega
  ·have H1:∀q (_:q<=30) (h2:q<H d.fs),H d.fs[q].2<=1000:=λq h1 h2=>Hn.out q (by omega) h2;have HN:=F H1;clear H1 Hn;by_cases a:(j:Int)<(H d.fs:Int)
   ·have H5:¬(j:Int)<=30:=by omega
    go_wp2_with fail
    exact mcR5ba0
   ·go_wp2_with fail
    exact mcR5ba0
theorem EU(v:Value)(d:Dk)(w:World)(hD:DkV w v d)(h:H d.fs<=2000000)(i:H d.q<=2000000):Calls Tryz.prog 7 #[v] w λe w'=>e=.returned (G (dY d))/\Ext w w':=by
 obtain⟨f,f,rfl,a,b⟩:=hD;obtain⟨A,c,rfl,_,_⟩:=Fs.open_ a;obtain⟨B,e2,rfl,_,_⟩:=Qs.open_ b;have H3:Ext w (w.alloc (.cells #[C A d.fs.length c,C B d.q.length e2,D E d.quota,D E d.fuse,G d.dead] 25)):=xA (xR _) _;have f:=Blk.new w 25 #[C A d.fs.length c,C B d.q.length e2,D E d.quota,D E d.fuse,G d.dead];have HC:=F (F0 _ d _ (show DkV _ _ d from⟨_,_,rfl,a.ext H3,b.ext H3⟩) h i);have g:=F H3;clear a b H3;obtain⟨j,k,l,m,n⟩:=ae f;clear f;go_enter Tryz.func7,Tryz.ntmps7
 go_wp2_with fail
 refine HC.mono ?_;rintro e a⟨rfl,a⟩;have b:=F (xT g a);clear j k l m n a;go_wp2_with fail;go_ret;exact⟨rfl,b.out⟩
