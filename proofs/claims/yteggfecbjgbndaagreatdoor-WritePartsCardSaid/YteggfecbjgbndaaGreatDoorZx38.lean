/- Merged -/
import Derived.Test.YteggfecbjgbndaaGreatDoorZx37
set_option linter.all false
set_option maxHeartbeats 8000000
set_option maxRecDepth 100000
open Go.Proofs.Tryz
open List renaming length->Q
open Go.Value renaming int->C,slice->E,bool->F,pointer->M,agg->O
open Go.IntKind renaming i64->D,u8->N
open Option renaming none->G,some->H
open Go.Mv renaming aN->I
open Go.Proofs.Tryz renaming prog->J
open Go.Obj renaming cells->L
open List renaming setIfInBounds_toArray->P0,getElem_append_right->P1,getElem_cons_zero->P2
open Nat renaming reduceAdd->P3,sub_self->P4
open Go.Mv.Blk renaming new->P5
open Array renaming getElem?_setIfInBounds->P6,getElem?_eq_none->P7
namespace Go.Proofs.YteggfecbjgbndaaGreatDoor
open Go.RowKit Go.Mv Go.Shelf
variable {b:Nat} {t:TypeId} {W:World}
theorem mcWp4a0 {P:Prop} (h:P:=by
 by_cases hk:k<19
 ·match k,hk with
  | 0,_ | 1,_ | 2,_ | 3,_ | 4,_ | 5,_ | 6,_ | 7,_ | 8,_ | 9,_ | 10,_ | 11,_ | 12,_ | 13,_ | 14,_ | 15,_ | 16,_ | 17,_ | 18,_=>simp at h
 ·rw[P7 (by simp;omega)] at h
  cases h):P:=h
def zwO(A:Option Addr)(c:Nat)(B:Option Addr)(e:Nat)(d:Dk)(a:Option Addr)(g:Nat)(t:Tup)(f:Option Addr)(cs:Nat)(m:Mf):Array Value:=
 #[E A d.fs.length c,E B d.q.length e,C D d.quota,C D d.fuse,F d.dead,C D t.s.idx,C D t.s.term,C D t.s.sum,C D t.s.lvl,F t.s.fin,E a t.log.length g,C D t.term,C D t.vote,C D m.next,C D m.term,C D m.vote,C D m.sq,C D m.sf,E f m.segs.length cs]
def DirV(w:World)(v:Value)(d:Dk)(t:Tup)(m:Mf):Prop:=∃A c B e a g f cs,v=.agg (zwO A c B e d a g t f cs m)/\Fs w (E A d.fs.length c) d.fs/\Qs w (E B d.q.length e) d.q/\Es w (E a t.log.length g) t.log/\Sgs w (E f m.segs.length cs) m.segs
theorem DirV.ext{w w':World}{v:Value}{d:Dk}{t:Tup}{m:Mf}(h:DirV w v d t m)(a:Ext w w'):DirV w' v d t m:=by
 obtain⟨A,c,B,e,f,i,g,cs,h1,h2,h3,h4,h5⟩:=h;exact⟨A,c,B,e,f,i,g,cs,h1,h2.ext a,h3.ext a,SlR.ext h4 a,SlR.ext h5 a⟩
theorem zwS{k l m n o p q r s v c d e Hk f g i j a:Value}(h:Blk W b t #[k,l,m,n,o,p,q,r,s,v,c,d,e,Hk,f,g,i,j,a]):W.cell? ⟨b,0,G⟩=H k/\W.cell? ⟨b,1,G⟩=H l/\W.cell? ⟨b,2,G⟩=H m/\W.cell? ⟨b,3,G⟩=H n/\W.cell? ⟨b,4,G⟩=H o/\W.cell? ⟨b,5,G⟩=H p/\W.cell? ⟨b,6,G⟩=H q/\W.cell? ⟨b,7,G⟩=H r/\W.cell? ⟨b,8,G⟩=H s/\W.cell? ⟨b,9,G⟩=H v/\W.cell? ⟨b,10,G⟩=H c/\W.cell? ⟨b,11,G⟩=H d/\W.cell? ⟨b,12,G⟩=H e/\W.cell? ⟨b,13,G⟩=H Hk/\W.cell? ⟨b,14,G⟩=H f/\W.cell? ⟨b,15,G⟩=H g/\W.cell? ⟨b,16,G⟩=H i/\W.cell? ⟨b,17,G⟩=H j/\W.cell? ⟨b,18,G⟩=H a:=
 ⟨h.cell 0 rfl,h.cell 1 rfl,h.cell 2 rfl,h.cell 3 rfl,h.cell 4 rfl,h.cell 5 rfl,h.cell 6 rfl,h.cell 7 rfl,h.cell 8 rfl,h.cell 9 rfl,h.cell 10 rfl,h.cell 11 rfl,h.cell 12 rfl,h.cell 13 rfl,h.cell 14 rfl,h.cell 15 rfl,h.cell 16 rfl,h.cell 17 rfl,h.cell 18 rfl⟩
theorem zxe:∀ (l:List Value) {W:World} {base b k:Nat} {v:Value} {fs:List Fil} {t:TypeId} {cs:Array Value},OwnF W base v fs->t≠68->Blk W b t cs->(∀ (k:Nat) (n:Int),cs[k]?≠some (C N n))->(∀ (k:Nat) (n:Int),l[k]?≠some (C N n))->OwnF (zw1 W b k l) base v fs
 | [],_,_,_,_,_,_,_,_,h,_,_,_,_=>h
 | x::l,_,_,_,k,_,_,_,cs,h,ht,hB,hno,hl=>zxe l (h.setD ht hB hno) ht (hB.set k x) (fun j n a=>by
   by_cases c:j=k
   ·subst c
    rw[P6] at a
    split at a
    ·split at a
     ·exact hl 0 n (by simpa using a)
     ·cases a
    ·exact hno _ _ a
   ·rw[Array.getElem?_setIfInBounds_ne (Ne.symm c)] at a
    exact hno _ _ a) (fun j n=>hl (j+1) n)
theorem zxf:∀ (l:List Value) {W:World} {base b k:Nat} {v:Value} {fs:List Oq} {t:TypeId} {cs:Array Value},OwnQ W base v fs->t≠98->Blk W b t cs->(∀ (k:Nat) (n:Int),cs[k]?≠some (C N n))->(∀ (k:Nat) (n:Int),l[k]?≠some (C N n))->OwnQ (zw1 W b k l) base v fs
 | [],_,_,_,_,_,_,_,_,h,_,_,_,_=>h
 | x::l,_,_,_,k,_,_,_,cs,h,ht,hB,hno,hl=>zxf l (h.setD ht hB hno) ht (hB.set k x) (fun j n a=>by
   by_cases c:j=k
   ·subst c
    rw[P6] at a
    split at a
    ·split at a
     ·exact hl 0 n (by simpa using a)
     ·cases a
    ·exact hno _ _ a
   ·rw[Array.getElem?_setIfInBounds_ne (Ne.symm c)] at a
    exact hno _ _ a) (fun j n=>hl (j+1) n)
theorem ybf{A:Option Addr}{c:Nat}{B:Option Addr}{e:Nat}{d:Dk}{a:Option Addr}{g:Nat}{t:Tup}{f:Option Addr}{cs:Nat}{m:Mf}(k:Nat)(n:Int):(zwO A c B e d a g t f cs m)[k]?≠some (C N n):=by
 intro h;unfold zwO at h;exact mcWp4a0
theorem zzv(k:Nat)(n:Int):(#[E none 0 0,E none 0 0,C D 0,C D 0,F false,C D 0,C D 0,C D 0,C D 0,F false,E none 0 0,C D 0,C D 0,C D 0,C D 0,C D 0,C D 0,C D 0,E none 0 0]:Array Value)[k]?≠some (C N n):=by
 intro h;exact mcWp4a0
theorem zw4{m n o p q a B A z y x H4 H3 k j i g f e:Value}(h:Blk W b t #[m,n,o,p,q,a,B,A,z,y,x,H4,H3,k,j,i,g,f,e])(d l s v w a c r:Value):Blk (zw1 W b 5 [d,l,s,v,w,a,c,r]) b t #[m,n,o,p,q,d,l,s,v,w,a,c,r,k,j,i,g,f,e]:=by
 have h5:Blk _ b t #[m,n,o,p,q,d,B,A,z,y,x,H4,H3,k,j,i,g,f,e]:=h.set 5 d;have B:Blk _ b t #[m,n,o,p,q,d,l,A,z,y,x,H4,H3,k,j,i,g,f,e]:=h5.set 6 l;have A:Blk _ b t #[m,n,o,p,q,d,l,s,z,y,x,H4,H3,k,j,i,g,f,e]:=B.set 7 s;have h8:Blk _ b t #[m,n,o,p,q,d,l,s,v,y,x,H4,H3,k,j,i,g,f,e]:=A.set 8 v;have y:Blk _ b t #[m,n,o,p,q,d,l,s,v,w,x,H4,H3,k,j,i,g,f,e]:=h8.set 9 w;have x:Blk _ b t #[m,n,o,p,q,d,l,s,v,w,a,H4,H3,k,j,i,g,f,e]:=y.set 10 a;have y:Blk _ b t #[m,n,o,p,q,d,l,s,v,w,a,c,H3,k,j,i,g,f,e]:=x.set 11 c;have KI:Blk _ b t #[m,n,o,p,q,d,l,s,v,w,a,c,r,k,j,i,g,f,e]:=y.set 12 r;exact KI
theorem zy4{j k l m n o p q r s i H4 H3 a z y x w v:Value}(h:Blk W b t #[j,k,l,m,n,o,p,q,r,s,i,H4,H3,a,z,y,x,w,v])(a c d e f g:Value):Blk (zw1 W b 13 [a,c,d,e,f,g]) b t #[j,k,l,m,n,o,p,q,r,s,i,H4,H3,a,c,d,e,f,g]:=by
 have A:Blk _ b t #[j,k,l,m,n,o,p,q,r,s,i,H4,H3,a,z,y,x,w,v]:=h.set 13 a;have z:Blk _ b t #[j,k,l,m,n,o,p,q,r,s,i,H4,H3,a,c,y,x,w,v]:=A.set 14 c;have y:Blk _ b t #[j,k,l,m,n,o,p,q,r,s,i,H4,H3,a,c,d,x,w,v]:=z.set 15 d;have x:Blk _ b t #[j,k,l,m,n,o,p,q,r,s,i,H4,H3,a,c,d,e,w,v]:=y.set 16 e;have h17:Blk _ b t #[j,k,l,m,n,o,p,q,r,s,i,H4,H3,a,c,d,e,f,v]:=x.set 17 f;have v:Blk _ b t #[j,k,l,m,n,o,p,q,r,s,i,H4,H3,a,c,d,e,f,g]:=h17.set 18 g;exact v
theorem zxQ:Tryz.prog.underlying 178=H (.struct (Tryz.prog.fieldsOf 178)):=by kernel_rfl
theorem ybk(tmps:Array Value)(W:World)(b:Nat)(cs:Array Value)(u:Value)(h4:tmps.getD 2 undef=M (H ⟨b,0,G⟩))(h5:tmps.getD 3 undef=u)(hb:Blk W b 178 cs)(hs:cs.size=19):(results Tryz.f136 tmps).run J W=.ok (.tuple #[.agg cs,u]) W:=by
 have hl:=hb.load (P:=J) zxQ rfl (by rw[hs];kernel_rfl);have HQ:tmps[2]?.getD undef=M (H ⟨b,0,G⟩):=by simpa using h4
 have a:tmps[3]?.getD undef=u:=by simpa using h5
 simp[results,results136,HQ,a,asAddr,hl]
theorem zxz(v:Value)(d:Dk)(n:Nat)(w:World)(hS:StW w)(hD:DkV w v d)(hn:n<=100000)(hs:Sz n d)(hH:RdH d.now)(er:Int)(t:Tup)(m:Mf)(ht:b9 d.now=⟨er,t,m⟩):Calls J 136 #[v] w λen w'=>∃u,en=.returned (.tuple #[u,C D er])/\DirV w' u d t m/\Ext w w':=by
 have HU:=hD;obtain⟨vf,vq,rfl,Ke,Kf⟩:=hD;obtain⟨A,c,rfl,_,_⟩:=Fs.open_ Ke;obtain⟨B,e,rfl,_,_⟩:=Qs.open_ Kf;obtain⟨z,Q⟩:∃z,(w.alloc (L #[E A d.fs.length c,E B d.q.length e,C D d.quota,C D d.fuse,F d.dead] 25)).alloc (L #[E none 0 0,E none 0 0,C D 0,C D 0,F false,C D 0,C D 0,C D 0,C D 0,F false,E none 0 0,C D 0,C D 0,C D 0,C D 0,C D 0,C D 0,C D 0,E none 0 0] 178)=z:=⟨_,rfl⟩;have T:Ext w z:=by rw[<-Q];exact xA (xA (xR _) _) _
 have h0:Blk z w.heap.size 25 #[E A d.fs.length c,E B d.q.length e,C D d.quota,C D d.fuse,F d.dead]:=by rw[<-Q];exact(P5 w _ _).alloc _
 have h1:Blk z (w.heap.size+1) 178 #[E none 0 0,E none 0 0,C D 0,C D 0,F false,C D 0,C D 0,C D 0,C D 0,F false,E none 0 0,C D 0,C D 0,C D 0,C D 0,C D 0,C D 0,C D 0,E none 0 0]:=by
  rw[<-Q];have:=P5 (w.alloc (L #[E A d.fs.length c,E B d.q.length e,C D d.quota,C D d.fuse,F d.dead] 25)) 178 #[E none 0 0,E none 0 0,C D 0,C D 0,F false,C D 0,C D 0,C D 0,C D 0,F false,E none 0 0,C D 0,C D 0,C D 0,C D 0,C D 0,C D 0,C D 0,E none 0 0];rwa[xS]at this
 have ea:=ae h0;have Hv:=I T;have H0:=I h0;have H1:=I h1;have HM:=I HU;have Hx:=I (HU.ext T);have HS:=I hS;have HF:=I hs;have HT:=I ht;clear T h0 h1 HU hS hs ht Ke Kf;go_enter func136,ntmps136
 go_wp2_with fail
 refine(nz _ d n _ Hx (by omega) HF).mono ?_;rintro en w1⟨u,rfl,Ko,H⟩;obtain⟨g,l,i,p,rfl,of,oq⟩:=Ko.d;have Hr:=H0.ext H;have x:=H1.ext H;have F1:∀k,w1.frozen? ⟨w.heap.size+1,k,G⟩=false:=λk=>x.frozen k;obtain⟨x0,x1,x2,x3,x4,x5,x6,x7,x8,x9,Hh,Hi,Hj,Hk,Hl,Hm,Hn,Ho,Hf⟩:=zwS x;obtain⟨X,S⟩:∃X,zw1 w1 (w.heap.size+1) 0 [E g d.fs.length l,E i d.q.length p,C D d.quota,C D d.fuse,F d.dead]=X:=⟨_,rfl⟩;have V:=I (zxo [E g d.fs.length l,E i d.q.length p,C D d.quota,C D d.fuse,F d.dead] (k:=0) x);have U:=I (zyA [E g d.fs.length l,E i d.q.length p,C D d.quota,C D d.fuse,F d.dead] (k:=0) Hr (by omega:w.heap.size≠w.heap.size+1));have Y:=I (zxe [E g d.fs.length l,E i d.q.length p,C D d.quota,C D d.fuse,F d.dead] (k:=0) of (by decide:(178:TypeId)≠68) x zzv (λj n a=>by match j with | 0 | 1 | 2 | 3 | 4=>simp at a | j+5=>simp at a));have Z:=I (zxf [E g d.fs.length l,E i d.q.length p,C D d.quota,C D d.fuse,F d.dead] (k:=0) oq (by decide:(178:TypeId)≠98) x zzv (λj n a=>by match j with | 0 | 1 | 2 | 3 | 4=>simp at a | j+5=>simp at a));simp only[zyE,P0,List.set_cons_succ,List.set_cons_zero,P3,S]at V U Y Z;have K:Hid (Ext w X):=I (by rw[<-S];exact zw5 _ (xT Hv H) (by omega));simp only[zw1,P3]at S;clear Q Ko of oq Hr x H H0 H1 Hv Hx ea;have ea:=ae U;go_wp2_with fail;have key:=yax _ d n X (HS.ext K) (HM.ext K) hn HF hH;rw[HT.out]at key;refine key.mono ?_;clear key;rintro en w2⟨vl,vs,rfl,M,O,y⟩;dsimp only at M O⊢;obtain⟨h,o,rfl,_,_⟩:=xO (OwnE.es M);obtain⟨r,cs,rfl,_,_⟩:=(OwnS.sgs O).open_;have f:=V.ext y;have Kp:=OwnX.ext dz Y y;have Ks:=OwnX.ext dy Z y;have hE:=xT K y;clear x0 x1 x2 x3 x4 x5 x6 x7 x8 x9 Hh Hi Hj Hk Hl Hm Hn Ho Hf F1 U V Y Z K y S ea;have F2:∀k,w2.frozen? ⟨w.heap.size+1,k,G⟩=false:=λk=>f.frozen k;have K6:∀(k:Nat) (n:Int),(#[E g d.fs.length l,E i d.q.length p,C D d.quota,C D d.fuse,F d.dead,C D 0,C D 0,C D 0,C D 0,F false,E none 0 0,C D 0,C D 0,C D 0,C D 0,C D 0,C D 0,C D 0,E none 0 0]:Array Value)[k]?≠some (C N n):=ybf (t:=eT) (m:=mf0);obtain⟨R,K5⟩:∃R,zw1 w2 (w.heap.size+1) 5 [C D t.s.idx,C D t.s.term,C D t.s.sum,C D t.s.lvl,F t.s.fin,E h t.log.length o,C D t.term,C D t.vote]=R:=⟨_,rfl⟩;obtain⟨X2,K4⟩:∃X2,zw1 R (w.heap.size+1) 13 [C D m.next,C D m.term,C D m.vote,C D m.sq,C D m.sf,E r m.segs.length cs]=X2:=⟨_,rfl⟩;have P:Blk R (w.heap.size+1) 178 #[E g d.fs.length l,E i d.q.length p,C D d.quota,C D d.fuse,F d.dead,C D t.s.idx,C D t.s.term,C D t.s.sum,C D t.s.lvl,F t.s.fin,E h t.log.length o,C D t.term,C D t.vote,C D 0,C D 0,C D 0,C D 0,C D 0,E none 0 0]:=by rw[<-K5];exact zw4 f _ _ _ _ _ _ _ _
 have Kt:Blk X2 (w.heap.size+1) 178 #[E g d.fs.length l,E i d.q.length p,C D d.quota,C D d.fuse,F d.dead,C D t.s.idx,C D t.s.term,C D t.s.sum,C D t.s.lvl,F t.s.fin,E h t.log.length o,C D t.term,C D t.vote,C D m.next,C D m.term,C D m.vote,C D m.sq,C D m.sf,E r m.segs.length cs]:=by rw[<-K4];exact zy4 P _ _ _ _ _ _
 have K7:∀(k:Nat) (n:Int),(#[E g d.fs.length l,E i d.q.length p,C D d.quota,C D d.fuse,F d.dead,C D t.s.idx,C D t.s.term,C D t.s.sum,C D t.s.lvl,F t.s.fin,E h t.log.length o,C D t.term,C D t.vote,C D 0,C D 0,C D 0,C D 0,C D 0,E none 0 0]:Array Value)[k]?≠some (C N n):=λk n a=>by
  by_cases hk:k<19
  ·match k,hk with
   |0,_ | 1,_ | 2,_ | 3,_ | 4,_ | 5,_ | 6,_ | 7,_ | 8,_ | 9,_ | 10,_ | 11,_ | 12,_ | 13,_ | 14,_ | 15,_ | 16,_ | 17,_ | 18,_=>simp at a
  rw[P7 (by simp;omega)]at a;cases a
 have Ka:=zxe [C D m.next,C D m.term,C D m.vote,C D m.sq,C D m.sf,E r m.segs.length cs] (k:=13) (zxe [C D t.s.idx,C D t.s.term,C D t.s.sum,C D t.s.lvl,F t.s.fin,E h t.log.length o,C D t.term,C D t.vote] (k:=5) Kp (by decide:(178:TypeId)≠68) f K6 (λj n a=>by match j with | 0 | 1 | 2 | 3 | 4 | 5 | 6 | 7=>simp at a | j+8=>simp at a)) (by decide:(178:TypeId)≠68) (zw4 f _ _ _ _ _ _ _ _) K7 (λj n a=>by match j with | 0 | 1 | 2 | 3 | 4 | 5=>simp at a | j+6=>simp at a);have Kb:=zxf [C D m.next,C D m.term,C D m.vote,C D m.sq,C D m.sf,E r m.segs.length cs] (k:=13) (zxf [C D t.s.idx,C D t.s.term,C D t.s.sum,C D t.s.lvl,F t.s.fin,E h t.log.length o,C D t.term,C D t.vote] (k:=5) Ks (by decide:(178:TypeId)≠98) f K6 (λj n a=>by match j with | 0 | 1 | 2 | 3 | 4 | 5 | 6 | 7=>simp at a | j+8=>simp at a)) (by decide:(178:TypeId)≠98) (zw4 f _ _ _ _ _ _ _ _) K7 (λj n a=>by match j with | 0 | 1 | 2 | 3 | 4 | 5=>simp at a | j+6=>simp at a);have K9:=zxd [C D m.next,C D m.term,C D m.vote,C D m.sq,C D m.sf,E r m.segs.length cs] (k:=13) (zw4 f _ _ _ _ _ _ _ _) (by decide:(178:TypeId)≠54) (zxd [C D t.s.idx,C D t.s.term,C D t.s.sum,C D t.s.lvl,F t.s.fin,E h t.log.length o,C D t.term,C D t.vote] (k:=5) f (by decide:(178:TypeId)≠54) M);have Kc:=zxd [C D m.next,C D m.term,C D m.vote,C D m.sq,C D m.sf,E r m.segs.length cs] (k:=13) (zw4 f _ _ _ _ _ _ _ _) (by decide:(178:TypeId)≠36) (zxd [C D t.s.idx,C D t.s.term,C D t.s.sum,C D t.s.lvl,F t.s.fin,E h t.log.length o,C D t.term,C D t.vote] (k:=5) f (by decide:(178:TypeId)≠36) O);have K8:=zw5 [C D m.next,C D m.term,C D m.vote,C D m.sq,C D m.sf,E r m.segs.length cs] (k:=13) (zw5 [C D t.s.idx,C D t.s.term,C D t.s.sum,C D t.s.lvl,F t.s.fin,E h t.log.length o,C D t.term,C D t.vote] (k:=5) hE (by omega:w.heap.size<=w.heap.size+1)) (by omega:w.heap.size<=w.heap.size+1);rw[K5,K4]at Ka Kb K9 Kc K8;simp only[zw1,P3]at K4 K5;obtain⟨x0,x1,x2,x3,x4,x5,x6,x7,x8,x9,Hh,Hi,Hj,Hk,Hl,Hm,Hn,Ho,Hf⟩:=zwS f;obtain⟨y0,y1,y2,y3,y4,y5,y6,y7,y8,y9,H7,H4,H3,Hd,Hc,Ha,H8,H5,H2⟩:=zwS P;have FY:=λk=>P.frozen k;have HY:=I Kt;have Ky:=I Ka;have Kz:=I Kb;have Kx:=I K9;have KA:=I Kc;have KC:=I K8;clear P Kt Ka Kb K9 Kc K8 K6 K7 f Kp Ks M O hE;go_wp2_with (first
  |(refine zwX rfl (.tmp 2) 178 rfl rfl HY zxQ rfl ?_)
  |(refine zxS rfl rfl (.tmp 2) (.tmp 15) 178 rfl rfl rfl HY (by kernel_rfl) (by simp[Value.oneCell']) ?_))
 refine bodyPost_ret (ybk _ _ (w.heap.size+1) _ _ rfl rfl HY rfl) rfl ?_;exact⟨_,rfl,⟨g,l,i,p,h,o,r,cs,rfl,OwnF.fs Ky,OwnQ.qs Kz,OwnE.es Kx,OwnS.sgs KA⟩,KC.out⟩
def zw7(l:List Sg4):Int×Bool:=match l.getLast? with | some s=>if s.count = -1 then((Q l:Int)-1,true)else(-1,false) | none=>(-1,false)
theorem zzw:zw7 []=(-1,false):=rfl
theorem zx2(l:List Sg4)(s:Sg4):zw7 (l++[s])=if s.count = -1 then((Q l:Int),true)else(-1,false):=by
 unfold zw7;rw[List.getLast?_append];simp
theorem zyd(m:Mf)(v:Value)(w:World)(a:Sgs w v m.segs)(hl:Q m.segs<=1000000):Calls J 229 #[O #[C D m.next,C D m.term,C D m.vote,C D m.sq,C D m.sf,v]] w λe w'=>
  e=.returned (.tuple #[C D (zw7 m.segs).1,F (zw7 m.segs).2])/\Ext w w':=by
 obtain⟨h,k,n,j,i,l⟩:=m;dsimp only at a hl⊢;obtain⟨A,c,rfl,_,_⟩:=a.open_;rcases List.eq_nil_or_concat l with rfl | ⟨l,s,q⟩
 ·have d:=P5 w 30 #[C D h,C D k,C D n,C D j,C D i,E A 0 c];have z:=d.cell 5 rfl;rw[zzw];dsimp only[List.length_nil];clear d a;go_enter func229,ntmps229
  go_wp2;go_ret2;exact⟨rfl,xA (xR _) _⟩
 ·rw[List.concat_eq_append]at q;subst q;have d:=P5 w 30 #[C D h,C D k,C D n,C D j,C D i,E A (Q l+1) c];have z:=d.cell 5 rfl;have f:Ext w (w.alloc (L #[C D h,C D k,C D n,C D j,C D i,E A (Q l+1) c] 30)):=xA (xR _) _;rw[zx2];rw[xL,List.length_singleton]at a hl⊢;have p:=a.ext f;obtain⟨-,b,B,rfl,hc⟩:=Sgs.at_ p (by simp);obtain⟨r,x,y,g⟩:=hc l.length (by simp);rw[P1 (xN _)]at g;simp only[P4,P2]at g;have H:Q l<=1000000:=by omega
  have K:wrap64 (Q l:Int)=(Q l:Int):=by unfold wrap64;omega
  have o:=I f;clear d a p hc f r x y;by_cases Hq:s.count = -1
  ·rw[if_pos Hq];rw[Hq]at g;clear Hq;go_enter func229,ntmps229
   go_wp2;go_ret2;exact⟨rfl,o.out⟩
  ·rw[if_neg Hq];have G:(s.count != -1)=true:=by simpa using Hq
   generalize s.count=cn at *;clear Hq;go_enter func229,ntmps229
   go_wp2;go_ret2;exact⟨rfl,o.out⟩
theorem ybJ:Tryz.prog.underlying 36=H (.struct (Tryz.prog.fieldsOf 36)):=by kernel_rfl
theorem zyk(tmps:Array Value)(W:World)(b:Nat)(cs:Array Value)(u a:Value)(h4:tmps.getD 2 undef=M (H ⟨b,0,G⟩))(h5:tmps.getD 3 undef=u)(e:tmps.getD 4 undef=a)(hb:Blk W b 36 cs)(hs:cs.size=4):(results Tryz.f193 tmps).run J W=.ok (.tuple #[.agg cs,u,a]) W:=by
 have hl:=hb.load (P:=J) ybJ rfl (by rw[hs];kernel_rfl);have HQ:tmps[2]?.getD undef=M (H ⟨b,0,G⟩):=by simpa using h4
 have c:tmps[3]?.getD undef=u:=by simpa using h5
 have d:tmps[4]?.getD undef=a:=by simpa using e
 simp[results,results193,HQ,c,d,asAddr,hl]
theorem zyZ(A:Option Addr)(c:Nat)(B:Option Addr)(e:Nat)(d:Dk)(g:Option Addr)(h:Nat)(t:Tup)(f:Option Addr)(cs:Nat)(m:Mf)(w:World)(s:Sgs w (E f m.segs.length cs) m.segs)(Km:Q m.segs<=1000)(l:(zw7 m.segs).2=false):
  Calls J 193 #[.agg (zwO A c B e d g h t f cs m)] w λo w'=>o=.returned (.tuple #[O #[C D 0,C D 0,C D 0,C D 0],C D 0,F false])/\Ext w w':=by
 obtain⟨a,j⟩:∃a,(w.alloc (L (zwO A c B e d g h t f cs m) 178)).alloc (L #[C D 0,C D 0,C D 0,C D 0] 36)=a:=⟨_,rfl⟩;have n:Ext w a:=by rw[<-j];exact xA (xA (xR _) _) _
 have r:Blk a w.heap.size 178 (zwO A c B e d g h t f cs m):=by rw[<-j];exact(P5 w _ _).alloc _
 have v:Blk a (w.heap.size+1) 36 #[C D 0,C D 0,C D 0,C D 0]:=by
  rw[<-j];have:=P5 (w.alloc (L (zwO A c B e d g h t f cs m) 178)) 36 #[C D 0,C D 0,C D 0,C D 0];rwa[xS]at this
 unfold zwO at *;obtain⟨f,f,f,f,f,f,f,f,f,f,f,f,f,Hk,f,f,f,f,f⟩:=zwS r;have key:=zyd m _ a (s.ext n) (by omega);obtain⟨f,a⟩:∃x,zw7 m.segs=x:=⟨_,rfl⟩;rw[a]at key l;obtain⟨i,b⟩:=f;dsimp only at key l;subst l;have a:=I key;have p:=I v;have q:=I n;go_enter func193,ntmps193
 go_wp2_with fail
 refine a.mono ?_;rintro o y⟨rfl,f⟩;have a:=p.ext f;have g:∀k,y.frozen? ⟨w.heap.size+1,k,G⟩=false:=λk=>a.frozen k;have g:=a.cell 0 rfl;have z1:=a.cell 1 rfl;have z2:=a.cell 2 rfl;have g:=a.cell 3 rfl;have h:=I a;have g:=I (xT q f);go_wp2_with fail;have a:=zxo [C D 0,C D 0,C D 0,C D 0] (k:=0) h;have hx:=zw5 [C D 0,C D 0,C D 0,C D 0] (k:=0) g (by omega:w.heap.size<=w.heap.size+1);simp only[zw1,zyE,P0,List.set_cons_succ,List.set_cons_zero,P3]at a hx;refine bodyPost_ret (zyk _ _ (w.heap.size+1) _ _ _ rfl rfl rfl a rfl) rfl ?_;exact⟨rfl,hx⟩
theorem zy0(A:Option Addr)(c:Nat)(B:Option Addr)(e:Nat)(d:Dk)(v:Option Addr)(N:Nat)(t:Tup)(p:Option Addr)(cs:Nat)(m:Mf)(l:List Sg4)(s:Sg4)(hm:m.segs=l++[s])(Hq:s.count = -1)(n:Nat)(w:World)(hS:StW w)(hF:Fs w (E A d.fs.length c) d.fs)(hQ:Qs w (E B d.q.length e) d.q)(hG:Sgs w (E p m.segs.length cs) m.segs)(hs:Sz n d)(hn:n<=100000)(Km:m.segs.length<=1000)(es:List Ent)(he:bw d.now s=H es):
  Calls J 193 #[.agg (zwO A c B e d v N t p cs m)] w λP w'=>P=.returned (.tuple #[O #[C D s.seq,C D s.fmt,C D s.first,C D s.count],C D es.length,F true])/\Ext w w':=by
 obtain⟨o,y⟩:∃o,(w.alloc (L (zwO A c B e d v N t p cs m) 178)).alloc (L #[C D 0,C D 0,C D 0,C D 0] 36)=o:=⟨_,rfl⟩;have i:Ext w o:=by rw[<-y];exact xA (xA (xR _) _) _
 have h0:Blk o w.heap.size 178 (zwO A c B e d v N t p cs m):=by rw[<-y];exact(P5 w _ _).alloc _
 have hz:Blk o (w.heap.size+1) 36 #[C D 0,C D 0,C D 0,C D 0]:=by
  rw[<-y];have:=P5 (w.alloc (L (zwO A c B e d v N t p cs m) 178)) 36 #[C D 0,C D 0,C D 0,C D 0];rwa[xS]at this
 unfold zwO at *;have key:=zyd m _ o (hG.ext i) (by omega);have Ki:=hG.ext i;have HA:m.segs.length=l.length+1:=by rw[hm];simp
 have Kr:zw7 m.segs=((l.length:Int),true):=by rw[hm,zx2,if_pos Hq]
 rw[Kr]at key;obtain⟨_,b,a,rfl,hc⟩:=Sgs.at_ Ki (by omega);obtain⟨Q,R,T,U⟩:=hc l.length (by omega);simp only[hm,P1 (xN _),P4,P2]at Q R T U;obtain⟨X,Y,Z,x3,x4,x5,x6,x7,x8,x9,Hh,Hi,Hj,Hk,Hl,Hm,Hn,Ho,z⟩:=zwS h0;have HM:=I (show DkV o (O #[E A d.fs.length c,E B d.q.length e,C D d.quota,C D d.fuse,F d.dead]) d from⟨_,_,rfl,hF.ext i,hQ.ext i⟩);have hl:d.now.length<=4000000:=by have:=fR d;have:=hs.l;omega
 have Kk:∀f∈d.now,f.2.length<=2000000:=λf hf=>by have h1:=iW hf;have h2:=lY d;have h3:=hs.t;omega
 have r:=I key;have HS:=I (hS.ext i);have HZ:=I hz;have HX:=I h0;have Hv:=I i;have HF:=I hs;have HL:=I hl;have Ku:=I Kk;have Kv:=I he;have K0:=I Q;have K1:=I R;have K2:=I T;have K3:=I U;rw[HA]at *;clear h0 hz i key hG Ki hc hF hQ hS hs hl Kk he Q R T U hm Hq HA Km Kr;go_enter func193,ntmps193
 go_wp2_with fail
 refine r.out.mono ?_;rintro P V⟨rfl,g⟩;clear X Y Z x3 x4 x5 x6 x7 x8 x9 Hh Hi Hj Hk Hl Hm Hn Ho z;obtain⟨X,Y,Z,x3,x4,x5,x6,x7,x8,x9,Hh,Hi,Hj,Hk,Hl,Hm,Hn,Ho,z⟩:=zwS (HX.out.ext g);have Kl:∀W,Ext V W->W.cell? ⟨w.heap.size,0,G⟩=H (E A d.fs.length c)/\W.cell? ⟨w.heap.size,1,G⟩=H (E B d.q.length e)/\W.cell? ⟨w.heap.size,2,G⟩=H (C D d.quota)/\W.cell? ⟨w.heap.size,3,G⟩=H (C D d.fuse)/\W.cell? ⟨w.heap.size,4,G⟩=H (F d.dead)/\W.cell? ⟨w.heap.size,18,G⟩=H (E (H ⟨b,a,G⟩) (l.length+1) cs)/\W.cell? ⟨b,a+l.length*4,G⟩=H (C D s.seq)/\W.cell? ⟨b,a+l.length*4+1,G⟩=H (C D s.fmt)/\W.cell? ⟨b,a+l.length*4+2,G⟩=H (C D s.first)/\W.cell? ⟨b,a+l.length*4+3,G⟩=H (C D s.count):=λW h=>
  ⟨h.cell X,h.cell Y,h.cell Z,h.cell x3,h.cell x4,h.cell z,h.cell (g.cell K0),h.cell (g.cell K1),h.cell (g.cell K2),h.cell (g.cell K3)⟩
 have x:=I Kl;have Hy:=I g;clear r g Kl;go_wp2_with fail;clear X Y Z x3 x4 x5 x6 x7 x8 x9 Hh Hi Hj Hk Hl Hm Hn Ho z y;have KP:(l.length:Int)<(l.length:Int)+1:=by omega
 refine wp_region_held_drew (S:=λW=>W.cell? ⟨w.heap.size,0,G⟩=H (E A d.fs.length c)/\W.cell? ⟨w.heap.size,1,G⟩=H (E B d.q.length e)/\W.cell? ⟨w.heap.size,2,G⟩=H (C D d.quota)/\W.cell? ⟨w.heap.size,3,G⟩=H (C D d.fuse)/\W.cell? ⟨w.heap.size,4,G⟩=H (F d.dead)/\W.cell? ⟨w.heap.size,18,G⟩=H (E (H ⟨b,a,G⟩) (l.length+1) cs)/\W.cell? ⟨b,a+l.length*4,G⟩=H (C D s.seq)/\W.cell? ⟨b,a+l.length*4+1,G⟩=H (C D s.fmt)/\W.cell? ⟨b,a+l.length*4+2,G⟩=H (C D s.first)/\W.cell? ⟨b,a+l.length*4+3,G⟩=H (C D s.count)) (by kernel_rfl) (x.out _ (xD (xR _))) (λ_=>?_);refine ab 0 ?_;refine ab 1 ?_;refine ab 3 ?_;refine ab 4 ?_;refine ab 5 ?_;refine ab 6 ?_;refine ab 7 ?_;refine ab 8 ?_;refine ah 2 (λK hK=>?_);go_simp;have HV:Ext V V.drew:=xD (xR _);refine(sD _ d n V.drew (HM.out.ext (xT Hy HV)) (by omega) HF).mono ?_;rintro P w2⟨A2,c2,rfl,Kh,Hz⟩;have M:=xT HV Hz;refine af hK _ _ (x.out _ M) (λ_=>?_);have key:=DD _ d.now s w2 (HS.out.ext (xT Hy M)) (OwnF.fs Kh) HL Ku;rw[Kv.out]at key;have r:=I key;have Kd:=I M;clear key M Hz HV Kh;refine ah 9 (λK hK=>?_);go_simp;refine r.out.mono ?_;rintro P w3⟨v3,rfl,Kn,Kg⟩;obtain⟨A3,c3,rfl,_,_⟩:=xO (OwnE.es Kn);have HN:=I (xT Kd Kg);clear Kn Kg r Kd;refine af hK _ _ (x.out _ HN) (λ_=>?_);refine ab 10 ?_;refine ab 11 ?_;refine ab 12 ?_;refine ab 13 ?_;refine ab 14 ?_;refine aq ?_;have HW:=xT Hy HN;obtain⟨g0,g1,g2,g3,g4,H2,Q,R,T,U⟩:=x.out _ HN;have j:=HZ.out.ext HW;have F1:∀k,w3.frozen? ⟨w.heap.size+1,k,G⟩=false:=λk=>j.frozen k;have z0:=j.cell 0 rfl;have z1:=j.cell 1 rfl;have z2:=j.cell 2 rfl;have z3:=j.cell 3 rfl;have KE:=I j;have Kw:=I (xT Hv HW);clear j HW g0 g1 g2 g3 g4;go_wp2_with fail;have hy:=zxo [C D s.seq,C D s.fmt,C D s.first,C D s.count] (k:=0) KE;have hx:=zw5 [C D s.seq,C D s.fmt,C D s.first,C D s.count] (k:=0) Kw (by omega:w.heap.size<=w.heap.size+1);simp only[zw1,zyE,P0,List.set_cons_succ,List.set_cons_zero,P3]at hy hx;refine bodyPost_ret (zyk _ _ (w.heap.size+1) _ _ _ rfl rfl rfl hy rfl) rfl ?_;exact⟨rfl,hx⟩
