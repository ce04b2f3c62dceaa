/- Merged -/
import Derived.Test.YteggfecbjgbndaaGreatDoorZy14
set_option linter.all false
set_option maxHeartbeats 8000000
set_option maxRecDepth 100000
open Go.Value renaming int->A,bool->E,pointer->G
open Go.IntKind renaming i64->B
open Option renaming none->C,some->D
open Go.Proofs.Tryz renaming prog->F
namespace Go.Proofs.YteggfecbjgbndaaGreatDoor
open Go.RowKit Go.Mv
variable {f:Int} {b:Nat} {W:World}
theorem mcSnapTa0{P:Prop}(h:P:=by
 have Hj:=aN H1;clear f0 f1 f2 f3 f4 g0 g1 g2 g3 g4 H1 Hg;obtain⟨g0,g1,g2,g3,g4⟩:=ae hb3;obtain⟨f0,f1,f2,f3,f4⟩:=bR hb3;go_wp2_with fail
 refine Hj.out.mono ?_;rintro e w4⟨rfl,rfl⟩;go_wp2_with fail
 refine bodyPost_ret (qW _ _ _ _ _ rfl rfl (cB hb3 _ _ _ _ _) rfl) rfl ⟨by rw[H7.out];exact rfl,cC (xT Hc H6) (xN _) _ _ _ _ _⟩):P:=h
def dG(s:Sta)(f:Int):Option (List UInt8):=if s.ok=true then(if f=1 then some (dS s)else if f=2 then some (cJ s)else none)else none
def sN(w:World)(r:Option (List UInt8))(e:Ending)(w':World):Prop:=match r with | some l=>ma w l e w' | none=>mV w e w'
theorem Na(s:Sta)(f:Int)(w:World)(a:TabW rT w):Calls F 151 #[.agg #[A B s.idx,A B s.term,A B s.sum,A B s.lvl,E s.fin],A B f] w (sN w (dG s f)):=by
 unfold dG sN;by_cases h:s.ok=true
 ·rw[if_pos h];by_cases h1:f=1
  ·subst h1;exact Nb s w h a
  rw[if_neg h1];by_cases h2:f=2
  ·subst h2;exact Nc s w h a
  rw[if_neg h2];exact BD s f w (by omega)
 ·rw[if_neg h];exact BD s f w (.inl (by simpa using h))
theorem yE(k:Nat):∀(a:List Int) (bs:List UInt8),(ao k a bs).1=0->(ao k a bs).2.1.length=a.length+k:=by
 induction k with
 |zero=>intro a bs _;rfl
 |succ k ih=>
  intro a bs h;unfold ao at h⊢;split at h
  ·rename_i c;rw[if_pos c,ih _ _ h];simp;omega
  ·rename_i c;exact absurd h c
theorem E5(k:Nat):∀(a:List Int) (bs:List UInt8) (l:List Int),dp k a bs=D l->l.length=a.length+k:=by
 induction k with
 |zero=>intro a bs l h;cases h;rfl
 |succ k ih=>
  intro a bs l h;unfold dp at h;split at h
  ·rw[ih _ _ _ h];simp;omega
  ·cases h
theorem Le{b:List UInt8}{l:List Int}(h:ff b f=D l):l.length=5:=by
 unfold ff at h;split at h
 ·unfold iz at h;split at h
  ·cases h
  split at h
  ·rename_i a;cases h;exact yE 5 [] _ a
  cases h
 ·unfold eA at h;split at h
  ·cases hl:dp 3 [] (b.drop 1)with
   |none=>rw[hl]at h;cases h
   |some l0=>
    rw[hl]at h;cases h;have:=E5 3 [] _ _ hl;simp[this]
  ·cases h
def di(b:List UInt8)(f:Int):Option Sta:=
 match ff b f with
 |none=>none
 | some l=>match dG (fV l) f with
  |none=>none
  |some c=>if b=c then some (fV l)else none
def staZ:Sta:=⟨0,0,0,0,false⟩
def nA(w:World)(r:Option Sta)(e:Ending)(w':World):Prop:=
 (match r with
 |some s=>e=.returned (.tuple #[.agg #[A B s.idx,A B s.term,A B s.sum,A B s.lvl,E s.fin],A B 0])
 |none=>e=.returned (.tuple #[.agg #[A B 0,A B 0,A B 0,A B 0,E false],A B 11]))/\Ext w w'
theorem qW(tmps:Array Value)(W:World)(b:Nat)(cs:Array Value)(u:Value)(h4:tmps.getD 4 undef=G (D ⟨b,0,C⟩))(h5:tmps.getD 5 undef=u)(hb:Blk W b 41 cs)(hs:cs.size=5):(results Tryz.f84 tmps).run F W=.ok (.tuple #[.agg cs,u]) W:=by
 have hl:=hb.load (P:=F) fN rfl (by rw[hs];kernel_rfl);have a:tmps[4]?.getD undef=G (D ⟨b,0,C⟩):=by simpa using h4
 have c:tmps[5]?.getD undef=u:=by simpa using h5
 simp[results,Tryz.results84,a,c,asAddr,hl]
theorem bR{t:TypeId}{cs:Array Value}(h:Blk W b t cs):W.frozen? ⟨b,0,C⟩=false/\W.frozen? ⟨b,1,C⟩=false/\W.frozen? ⟨b,2,C⟩=false/\W.frozen? ⟨b,3,C⟩=false/\W.frozen? ⟨b,4,C⟩=false:=
 ⟨h.frozen 0,h.frozen 1,h.frozen 2,h.frozen 3,h.frozen 4⟩
theorem cB{t:TypeId}{a v u x y:Value}(h:Blk W b t #[a,v,u,x,y])(a' d c e g:Value):Blk (((((W.setCell ⟨b,0,C⟩ a').setCell ⟨b,1,C⟩ d).setCell ⟨b,2,C⟩ c).setCell ⟨b,3,C⟩ e).setCell ⟨b,4,C⟩ g) b t #[a',d,c,e,g]:=
 ((((h.set 0 a').set 1 d).set 2 c).set 3 e).set 4 g
theorem cC{w:World}(h:Ext w W)(hb:w.heap.size<=b)(a' c a d e:Value):Ext w (((((W.setCell ⟨b,0,C⟩ a').setCell ⟨b,1,C⟩ c).setCell ⟨b,2,C⟩ a).setCell ⟨b,3,C⟩ d).setCell ⟨b,4,C⟩ e):=
 ((((Below.setCell h hb a').setCell hb c).setCell hb a).setCell hb d).setCell hb e
theorem Id(v:Value)(bs:List UInt8)(f:Int)(w:World)(a:Bs w v bs)(hl:bs.length<=2000000)(d:ff bs f=none):Calls F 84 #[v,A B f] w (nA w none):=by
 have hb:=Blk.new w 41 #[A B 0,A B 0,A B 0,A B 0,E false];have c:Ext w (w.alloc (.cells #[A B 0,A B 0,A B 0,A B 0,E false] 41)):=xA (xR _) _;have key:=Bl v bs f (w.alloc (.cells #[A B 0,A B 0,A B 0,A B 0,E false] 41)) (a.ext c) hl;rw[d]at key;have a:=aN key;go_enter Tryz.func84,Tryz.ntmps84
 go_wp2_with fail
 refine a.mono ?_;rintro e a⟨a,rfl,-,a⟩;obtain⟨d,d,d,d,d⟩:=ae (hb.ext a);have H8:=hb.ext a;obtain⟨d,d,d,d,d⟩:=bR H8;try simp only[Option.isSome]
 go_wp2_with fail
 refine bodyPost_ret (qW _ _ _ _ _ rfl rfl (cB H8 _ _ _ _ _) rfl) rfl ⟨rfl,cC (xT c a) (xN _) _ _ _ _ _⟩
theorem im{q k:Nat}{z:Value}(h:W.cell? ⟨q,k,C⟩=D z)(i:b≠q)(a' c a d g:Value):(((((W.setCell ⟨b,0,C⟩ a').setCell ⟨b,1,C⟩ c).setCell ⟨b,2,C⟩ a).setCell ⟨b,3,C⟩ d).setCell ⟨b,4,C⟩ g).cell? ⟨q,k,C⟩=D z:=by
 have hn:some q≠some b:=λe=>i (by cases e;rfl);exact cg (ar _ b 4 g) (cg (ar _ b 3 d) (cg (ar _ b 2 a) (cg (ar _ b 1 c) (cg (ar _ b 0 a') h hn) hn) hn) hn) hn
theorem Cp{l:List Int}(h:l.length=5):∃a b c d e,l=[a,b,c,d,e]:=by
 match l,h with
 |[a,b,c,d,e],_=>exact⟨a,b,c,d,e,rfl⟩
theorem Ie(v:Value)(bs:List UInt8)(f:Int)(w:World)(X:TabW rT w)(H:Bs w v bs)(hl:bs.length<=2000000)(l:List Int)(y:ff bs f=D l):Calls F 84 #[v,A B f] w (nA w (di bs f)):=by
 have hb:=Blk.new w 41 #[A B 0,A B 0,A B 0,A B 0,E false];have Y:Ext w (w.alloc (.cells #[A B 0,A B 0,A B 0,A B 0,E false] 41)):=xA (xR _) _;have key:=Bl v bs f (w.alloc (.cells #[A B 0,A B 0,A B 0,A B 0,E false] 41)) (H.ext Y) hl;rw[y]at key;have Hi:=aN key;obtain⟨a,d,g,i,j,rfl⟩:=Cp (Le y);obtain⟨s,hs⟩:∃s:Sta,s=⟨a,d,g,i,j==1⟩:=⟨_,rfl⟩;have H3:di bs f=match dG s f with | none=>none | some c=>if bs=c then some s else none:=by
  unfold di;rw[y,hs];rfl
 have H7:=aN H3;have V:=aN hs;clear H3 hs;have Hq:=aN H;have Z:=aN X;clear key y H X;go_enter Tryz.func84,Tryz.ntmps84
 go_wp2_with fail
 refine Hi.out.mono ?_;rintro e p⟨v1,rfl,P,Q⟩;obtain⟨q,Hz,rfl,hq,Hx,HA⟩:=ia (P _ rfl) (hn:=by simp);obtain⟨_,q',Hy,e',hc⟩:=SlR.at_ (xW (P _ rfl)) (by simp);cases e';have J:=hc 0 _ rfl;have Hl:=hc 1 _ rfl;have L:=hc 2 _ rfl;have M:=hc 3 _ rfl;have N:=hc 4 _ rfl;simp only[Nat.zero_add,iv]at J Hl L M N;clear hc;simp only[xC,List.length_nil,Nat.zero_add,Nat.reduceAdd]at Hx⊢;have H8:=hb.ext Q;try simp only[Option.isSome]
 go_wp2_with fail
 have n:p.cell? ⟨q,0,C⟩=D (A B a)/\p.cell? ⟨q,1,C⟩=D (A B d)/\p.cell? ⟨q,2,C⟩=D (A B g)/\p.cell? ⟨q,3,C⟩=D (A B i)/\p.cell? ⟨q,4,C⟩=D (A B j):=⟨J,Hl,L,M,N⟩;have t:w.heap.size≠q:=by rw[xS]at hq;omega
 clear J Hl L M N P;refine wp_region_held_drew (S:=λw'=>w'.cell? ⟨q,0,C⟩=D (A B a)/\w'.cell? ⟨q,1,C⟩=D (A B d)/\w'.cell? ⟨q,2,C⟩=D (A B g)/\w'.cell? ⟨q,3,C⟩=D (A B i)/\w'.cell? ⟨q,4,C⟩=D (A B j)) (by kernel_rfl) n (λ_=>?_);refine ab 0 ?_;refine ab 1 ?_;refine ab 2 ?_;refine ab 3 ?_;refine ab 4 ?_;refine ab 5 ?_;refine ab 6 ?_;refine ab 7 ?_;refine ab 8 ?_;refine ab 9 ?_;refine ab 10 ?_;refine ab 11 ?_;refine ab 12 ?_;refine ab 13 ?_;refine ab 14 ?_;refine ab 15 ?_;refine ab 16 ?_;obtain⟨g0,g1,g2,g3,g4⟩:=ae H8;obtain⟨f0,f1,f2,f3,f4⟩:=bR H8;refine ah 17 (λK hK=>?_);go_simp;have m:=cB H8 (A B a) (A B d) (A B g) (A B i) (E (j==1));have Hc:=cC (xT Y Q) (xN _) (A B a) (A B d) (A B g) (A B i) (E (j==1));have k0:=im n.1 t (A B a) (A B d) (A B g) (A B i) (E (j==1));have k1:=im n.2.1 t (A B a) (A B d) (A B g) (A B i) (E (j==1));have k2:=im n.2.2.1 t (A B a) (A B d) (A B g) (A B i) (E (j==1));have k3:=im n.2.2.2.1 t (A B a) (A B d) (A B g) (A B i) (E (j==1));have k4:=im n.2.2.2.2 t (A B a) (A B d) (A B g) (A B i) (E (j==1));clear f0 f1 f2 f3 f4 g0 g1 g2 g3 g4 H8 n;generalize(((((p.setCell ⟨w.heap.size,0,C⟩ (A B a)).setCell ⟨w.heap.size,1,C⟩ (A B d)).setCell ⟨w.heap.size,2,C⟩ (A B g)).setCell ⟨w.heap.size,3,C⟩ (A B i)).setCell ⟨w.heap.size,4,C⟩ (E (j==1)))=w1' at *;have T:w1'.drew.cell? ⟨q,0,C⟩=D (A B a)/\w1'.drew.cell? ⟨q,1,C⟩=D (A B d)/\w1'.drew.cell? ⟨q,2,C⟩=D (A B g)/\w1'.drew.cell? ⟨q,3,C⟩=D (A B i)/\w1'.drew.cell? ⟨q,4,C⟩=D (A B j):=⟨k0,k1,k2,k3,k4⟩;have m:Blk w1'.drew w.heap.size 41 #[A B a,A B d,A B g,A B i,E (j==1)]:=m;have Hc:Ext w w1'.drew:=xD Hc;generalize w1'.drew=w2 at *;refine af hK _ _ T (λ_=>?_);refine aq ?_;clear T;obtain⟨g0,g1,g2,g3,g4⟩:=ae m;obtain⟨f0,f1,f2,f3,f4⟩:=bR m;have o:=Na s f w2 (Z.out.ext Hc);have Hr:=V.out;subst Hr;dsimp only at o;have R:Hid (Bs w2 v bs):=Hq.out.ext Hc;obtain⟨r,U⟩:∃r,dG ⟨a,d,g,i,j==1⟩ f=r:=⟨_,rfl⟩;have H3:=H7.out;rw[U]at o H3;clear H7 U V;cases r with
 |none=>
  have x:Hid (Calls _ _ _ _ (mV w2)):=o;have H7:Hid (di bs f=none):=H3;clear o H3;go_wp2_with fail
  refine x.out.mono ?_;rintro e z⟨rfl,H6⟩;have hb3:=m.ext H6;clear f0 f1 f2 f3 f4 g0 g1 g2 g3 g4;obtain⟨g0,g1,g2,g3,g4⟩:=ae hb3;obtain⟨f0,f1,f2,f3,f4⟩:=bR hb3;go_wp2_with fail
  refine bodyPost_ret (qW _ _ _ _ _ rfl rfl (cB hb3 _ _ _ _ _) rfl) rfl ⟨by rw[H7.out];exact rfl,cC (xT Hc H6) (xN _) _ _ _ _ _⟩
 |some cs=>
  have x:Hid (Calls _ _ _ _ (ma w2 cs)):=o;clear o;by_cases k:bs=cs
  ·have H7:Hid (di bs f=D ⟨a,d,g,i,j==1⟩):=by
    rw[Hid,H3];exact if_pos k
   have I:=aN k;clear H3 k;go_wp2_with fail
   refine x.out.mono ?_;rintro e z⟨G,O,rfl,Hg,H6⟩;have hb3:=m.ext H6;have H1:=fI v (.slice G cs.length O) bs cs z (R.out.ext H6) (xW Hg);rw[decide_eq_true I.out]at H1;exact mcSnapTa0
  ·have H7:Hid (di bs f=none):=by
    rw[Hid,H3];exact if_neg k
   have I:=aN k;clear H3 k;go_wp2_with fail
   refine x.out.mono ?_;rintro e z⟨G,O,rfl,Hg,H6⟩;have hb3:=m.ext H6;have H1:=fI v (.slice G cs.length O) bs cs z (R.out.ext H6) (xW Hg);rw[decide_eq_false I.out]at H1;exact mcSnapTa0
theorem IL(v:Value)(bs:List UInt8)(f:Int)(w:World)(d:TabW rT w)(c:Bs w v bs)(hl:bs.length<=2000000):Calls F 84 #[v,A B f] w (nA w (di bs f)):=by
 cases a:ff bs f with
 |none=>
  have:di bs f=none:=by unfold di;rw[a]
  rw[this];exact Id v bs f w c hl a
 |some l=>exact Ie v bs f w d c hl l a
theorem zq{b:List UInt8}{s:Sta}(h:di b f=D s):s.ok=true/\((f=1/\b=dS s)\/(f=2/\b=cJ s))/\dG s f=D b:=by
 unfold di at h;cases g:ff b f with
 |none=>rw[g]at h;cases h
 |some l=>
  rw[g]at h;dsimp only at h;cases a:dG (fV l) f with
  |none=>rw[a]at h;cases h
  |some c=>
   rw[a]at h;dsimp only at h;split at h
   ·rename_i d;cases h;have i:=a;unfold dG at a;split at a
    ·rename_i e;refine⟨e,?_,by rw[i,d]⟩;split at a
     ·rename_i h1;cases a;exact .inl ⟨h1,d⟩
     split at a
     ·rename_i h2;cases a;exact .inr ⟨h2,d⟩
     cases a
    cases a
   ·cases h
theorem MM{b:List UInt8}{s:Sta}(h:dG s f=D b):di b f=D s:=by
 have c:=h;unfold dG at h;split at h
 ·rename_i a;unfold di ff;split at h
  ·rename_i h1;cases h;subst h1;rw[if_neg (by decide),zV s a];dsimp only;rw[oz,c];dsimp only;rw[if_pos rfl]
  split at h
  ·rename_i h1 h2;cases h;subst h2;rw[if_pos rfl,LI s a];dsimp only;rw[oz,c];dsimp only;rw[if_pos rfl]
  cases h
 ·cases h
