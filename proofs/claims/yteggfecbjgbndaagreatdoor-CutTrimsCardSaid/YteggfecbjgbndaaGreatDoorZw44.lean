/- Merged -/
import Derived.Test.YteggfecbjgbndaaGreatDoorZw40
set_option linter.all false
set_option maxHeartbeats 8000000
set_option maxRecDepth 100000
open Go.Value renaming slice→E,int→F,bool→I,pointer→L
open Go.IntKind renaming i64→G
open Go.Mv renaming zhd→J
open Go.Obj renaming cells→K
namespace Go.Proofs.YteggfecbjgbndaaGreatDoor
open Go.RowKit Go.Mv Go.Shelf
theorem mcR8aa0 {P:Prop} (h:P:=by
 obtain ⟨Ho,Hp,rfl,H2,H3⟩:=H5;obtain ⟨Af,cf,rfl,_,_⟩:=Fs.open_ H2;obtain ⟨Aq,cq,rfl,_,_⟩:=Qs.open_ H3;have HP:=J (H.out.give H1 H2 H3 (by omega));have H6:=H.out.br.ext H1;obtain ⟨x0,x1,x2,x3,x4⟩:=zaa H6;obtain ⟨y0,y1,y2,y3,y4⟩:=zam H6;clear H6 H2 H3 H1 H;go_wp2_with fail
 refine bodyPost_ret (zf2 _ _ _ _ _ rfl rfl HP.out.1 rfl) rfl ?_
 exact ⟨⟨_,rfl,⟨_,_,rfl,HP.out.2.1,HP.out.2.2.1⟩⟩,HP.out.2.2.2⟩):P:=h
theorem mcR8aa1 {P:Prop} (h:P:=by
 have HP:=J (H.out.give (xR _) H.out.f H.out.q (by omega));have H6:=H.out.br;unfold zaR at H6;obtain ⟨x0,x1,x2,x3,x4⟩:=zaa H6;obtain ⟨y0,y1,y2,y3,y4⟩:=zam H6;clear H6 H;go_wp2_with fail
 refine bodyPost_ret (zf2 _ _ _ _ _ rfl rfl HP.out.1 rfl) rfl ?_
 exact ⟨⟨_,rfl,⟨_,_,rfl,HP.out.2.1,HP.out.2.2.1⟩⟩,HP.out.2.2.2⟩):P:=h
theorem zhX {W:World} {b c:Nat} {t:TypeId} {cs:Array Value} (h:Blk W b t cs) (Hc:b≠c) (a v u x y:Value):Blk (zaR W c a v u x y) b t cs:=((((h.other Hc 0 a).other Hc 1 v).other Hc 2 u).other Hc 3 x).other Hc 4 y
theorem zf2 (tmps:Array Value) (W:World) (b:Nat) (cs:Array Value) (e:Value) (h4:tmps.getD 6 undef=L (some ⟨b,0,none⟩)) (h3:tmps.getD 7 undef=e) (hb:Blk W b 25 cs) (hs:cs.size=5):(results Tryz.f18 tmps).run Tryz.prog W=.ok (.tuple #[.agg cs,e]) W:=by
 have Hr:tmps[6]?.getD undef=L (some ⟨b,0,none⟩):=by simpa using h4
 have Hq:tmps[7]?.getD undef=e:=by simpa using h3
 have hl:=hb.load (P:=Tryz.prog) zc3 rfl (by rw[hs];kernel_rfl)
 simp[results,Tryz.results18,Hr,Hq,asAddr,hl,Sem.run_bind,Sem.run_pure,Result.andThen_ok]
structure Pt (w W:World) (r:Nat) (A:Option Addr) (c:Nat) (B:Option Addr) (e:Nat) (d:Dk):Prop where
 b0:Blk W w.heap.size 25 (zan A d.fs.length c B d.q.length e d.quota d.fuse d.dead)
 br:Blk W r 25 (zan none 0 0 none 0 0 0 0 false)
 f:Fs W (E A d.fs.length c) d.fs
 q:Qs W (E B d.q.length e) d.q
 e:Ext w W
theorem Pt.ext {w W W':World} {r:Nat} {A B:Option Addr} {c e:Nat} {d:Dk} (h:Pt w W r A c B e d) (hE:Ext W W'):Pt w W' r A c B e d :=
 ⟨h.b0.ext hE,h.br.ext hE,h.f.ext hE,h.q.ext hE,xT h.e hE⟩
theorem Pt.dk {w W:World} {r:Nat} {A B:Option Addr} {c e:Nat} {d:Dk} (h:Pt w W r A c B e d):DkV W (.agg #[E A d.fs.length c,E B d.q.length e,F G d.quota,F G d.fuse,I d.dead]) d:=⟨_,_,rfl,h.f,h.q⟩
theorem Pt.store {w W W':World} {r:Nat} {A B Af Aq:Option Addr} {c e cf cq:Nat} {d D:Dk} (h:Pt w W r A c B e d) (hE:Ext W W') (hf:Fs W' (E Af D.fs.length cf) D.fs) (hq:Qs W' (E Aq D.q.length cq) D.q) (hr:w.heap.size<r):Pt w (zaR W' w.heap.size (E Af D.fs.length cf) (E Aq D.q.length cq) (F G D.quota) (F G D.fuse) (I D.dead)) r Af cf Aq cq D :=
 have hb:=h.b0.ext hE
 ⟨zal hb _ _ _ _ _,zhX (h.br.ext hE) (by omega) _ _ _ _ _,Fs.setBox hb hf _ _ _ _ _,Qs.setBox hb hq _ _ _ _ _,zae (xT h.e hE) (xN _) _ _ _ _ _⟩
theorem Pt.give {w W W':World} {r:Nat} {A B Af Aq:Option Addr} {c e cf cq:Nat} {d D:Dk} (h:Pt w W r A c B e d) (hE:Ext W W') (hf:Fs W' (E Af D.fs.length cf) D.fs) (hq:Qs W' (E Aq D.q.length cq) D.q) (hr:w.heap.size<r) :
  Blk (zaR W' r (E Af D.fs.length cf) (E Aq D.q.length cq) (F G D.quota) (F G D.fuse) (I D.dead)) r 25 (zan Af D.fs.length cf Aq D.q.length cq D.quota D.fuse D.dead)∧Fs (zaR W' r (E Af D.fs.length cf) (E Aq D.q.length cq) (F G D.quota) (F G D.fuse) (I D.dead)) (E Af D.fs.length cf) D.fs∧Qs (zaR W' r (E Af D.fs.length cf) (E Aq D.q.length cq) (F G D.quota) (F G D.fuse) (I D.dead)) (E Aq D.q.length cq) D.q∧Ext w (zaR W' r (E Af D.fs.length cf) (E Aq D.q.length cq) (F G D.quota) (F G D.fuse) (I D.dead)) :=
 have hb:=h.br.ext hE
 ⟨zal hb _ _ _ _ _,Fs.setBox hb hf _ _ _ _ _,Qs.setBox hb hq _ _ _ _ _,zae (xT h.e hE) (Nat.le_of_lt hr) _ _ _ _ _⟩
theorem zqw (v:Value) (d:Dk) (n:Nat) (k s f:Int) (vb:Value) (b:List UInt8) (w:World) (hS:StW w) (hD:DkV w v d) (hs:Sz n d) (hB:Bs w vb b) (hn:n≤400000) (Hl:b.length≤100000) :
  Calls Tryz.prog 18 #[v,.agg #[F .u8 k,F G s,F G f],vb] w fun e w'=>(∃ u,e=.returned (.tuple #[u,F G (zbG d (zaw k s f) b).2])∧DkV w' u (zbG d (zaw k s f) b).1)∧Ext w w':=by
 obtain ⟨vf,vq,rfl,hF,hQ⟩:=hD;obtain ⟨A,c,rfl,_,_⟩:=Fs.open_ hF;obtain ⟨B,e2,rfl,_,_⟩:=Qs.open_ hQ;obtain ⟨C,c2,rfl,_,_⟩:=xO hB;obtain ⟨W0,Hb⟩:∃ W0,((w.alloc (K #[E A d.fs.length c,E B d.q.length e2,F G d.quota,F G d.fuse,I d.dead] 25)).alloc (K #[F .u8 k,F G s,F G f] 32)).alloc (K #[E none 0 0,E none 0 0,F G 0,F G 0,I false] 25)=W0:=⟨_,rfl⟩
 have Ha:Ext w W0:=by rw[←Hb];exact xA (xA (xA (xR _) _) _) _
 have h0:Blk W0 w.heap.size 25 (zan A d.fs.length c B d.q.length e2 d.quota d.fuse d.dead):=by rw[←Hb];exact ((Blk.new w _ _).alloc _).alloc _
 have h1:Blk W0 (w.heap.size+1) 32 #[F .u8 k,F G s,F G f]:=by
  rw[←Hb]
  have:=(Blk.new (w.alloc (K #[E A d.fs.length c,E B d.q.length e2,F G d.quota,F G d.fuse,I d.dead] 25)) 32 #[F .u8 k,F G s,F G f]).alloc (K #[E none 0 0,E none 0 0,F G 0,F G 0,I false] 25)
  rwa [xS] at this
 have h2:Blk W0 (w.heap.size+1+1) 25 (zan none 0 0 none 0 0 0 0 false):=by
  rw[←Hb]
  have:=Blk.new ((w.alloc (K #[E A d.fs.length c,E B d.q.length e2,F G d.quota,F G d.fuse,I d.dead] 25)).alloc (K #[F .u8 k,F G s,F G f] 32)) 25 #[E none 0 0,E none 0 0,F G 0,F G 0,I false]
  rwa [xS,xS] at this
 have H:Hid (Pt w W0 (w.heap.size+1+1) A c B e2 d):=J ⟨h0,h2,hF.ext Ha,hQ.ext Ha,Ha⟩
 have HB:=J hB;have HZ:=J hs;have He:=J Hl;have key:=zgn k s f W0 (hS.ext Ha);obtain ⟨nm,Hn⟩:∃ nm,zaw k s f=nm:=⟨_,rfl⟩
 rw[Hn] at key ⊢
 have H0:=J key;obtain ⟨S,H8⟩:∃ S,zbG d nm b=S:=⟨_,rfl⟩;rw[H8];have Hd:=J H8;obtain ⟨g0,g1,g2,g3,g4⟩:=zaa h0;obtain ⟨j0,j1,j2⟩:=zba h1;clear hF hQ Ha h0 h1 h2 hS Hn key hB hs Hl H8
 go_enter Tryz.func18,Tryz.ntmps18
 go_wp2_with fail;clear Hb
 refine H0.out.mono ?_
 rintro e w1 ⟨rfl,Hk⟩
 replace H:=J (H.out.ext Hk)
 clear g0 g1 g2 g3 g4 j0 j1 j2 H0 Hk;obtain ⟨g0,g1,g2,g3,g4⟩:=zaa H.out.b0
 cases nm with
 | none =>
  have key:=zfl _ d w1 H.out.dk (by have:=HZ.out.l;omega) (by have:=HZ.out.t;omega);have H0:=J key;clear key;have hs:=Hd.out;simp only[zbG] at hs;subst hs;clear Hd;go_wp2_with fail
  refine H0.out.mono ?_
  rintro e w2 ⟨u,rfl,Hm,H1⟩;have H5:=Hm.dk;clear Hm H0 g0 g1 g2 g3 g4
  exact mcR8aa0
 | some nm =>
  have H8:=Hd.out;simp only[zbG,putS,zbT] at H8;have HS:=J H8;clear H8 Hd;have key:=zgw _ d (zca nm) (E none 0 0) w1 H.out.dk (SlR.nil _ 1) (by have:=HZ.out.l;omega) (by have:=HZ.out.t;omega) (by simp[zca]) HZ.out.f;have Hf:=J (HZ.out.doS (zca nm));obtain ⟨⟨D1,r1⟩,Hh⟩:∃ x,d.doS (zca nm)=x:=⟨_,rfl⟩;have hs:=HS.out;rw[Hh] at key hs
  dsimp only[zca,sv,List.length_nil] at key Hf hs
  have H4:=J (show Sz (n+1) D1 by have:=Hf.out;rw[show (d.doS ⟨1,nm,[],[]⟩).1=D1 from congrArg Prod.fst Hh] at this;exact this)
  have H0:=J key
  replace HS:=J hs
  clear key hs Hh Hf;simp only[Option.isSome,Option.getD,sv];go_wp2_with fail
  refine H0.out.mono ?_
  rintro e w2 ⟨⟨u,rfl,H5⟩,H1⟩
  dsimp only at H5 ⊢
  clear H0 g0 g1 g2 g3 g4;obtain ⟨Ho,Hp,rfl,H2,H3⟩:=H5;obtain ⟨A2,c3,rfl,_,_⟩:=Fs.open_ H2;obtain ⟨B2,e3,rfl,_,_⟩:=Qs.open_ H3;have H9:=H.out.b0.ext H1;obtain ⟨g0,g1,g2,g3,g4⟩:=zaa H9;obtain ⟨f0,f1,f2,f3,f4⟩:=zam H9
  replace H:=J (H.out.store H1 H2 H3 (by omega))
  clear H9 H2 H3 H1
  by_cases hr1:r1=0
  case neg =>
   have hs:=HS.out;rw[if_neg hr1] at hs;subst hs
   have Hs:(r1 != 0)=true:=by simpa using hr1
   clear HS hr1
   exact mcR8aa1
  have hs:=HS.out;rw[if_pos hr1] at hs
  replace HS:=J hs
  subst hr1;clear hs;have key:=zgw _ D1 (zcn nm b) (E C b.length c2) _ H.out.dk (HB.out.ext H.out.e) (by have:=H4.out.l;omega) (by have:=H4.out.t;omega) (by have:=He.out;exact this) H4.out.f;have Hg:=J (H4.out.doS (zcn nm b));obtain ⟨⟨D2,r2⟩,Hi⟩:∃ x,D1.doS (zcn nm b)=x:=⟨_,rfl⟩;have hs:=HS.out;rw[Hi] at key hs
  dsimp only[zcn,sv] at key Hg hs
  have H7:=J (show Sz (n+1+1+b.length) D2 by have:=Hg.out;rw[show (D1.doS ⟨2,nm,[],b⟩).1=D2 from congrArg Prod.fst Hi] at this;exact this)
  have H0:=J key
  replace HS:=J hs
  clear key hs Hi Hg;go_wp2_with fail
  refine H0.out.mono ?_
  rintro e w4 ⟨⟨u,rfl,H5⟩,H1⟩
  dsimp only at H5 ⊢
  clear H0 g0 g1 g2 g3 g4 f0 f1 f2 f3 f4;obtain ⟨Ho,Hp,rfl,H2,H3⟩:=H5;obtain ⟨A4,c4,rfl,_,_⟩:=Fs.open_ H2;obtain ⟨B4,e4,rfl,_,_⟩:=Qs.open_ H3;have H9:=H.out.b0.ext H1;obtain ⟨g0,g1,g2,g3,g4⟩:=zaa H9;obtain ⟨f0,f1,f2,f3,f4⟩:=zam H9
  replace H:=J (H.out.store H1 H2 H3 (by omega))
  clear H9 H2 H3 H1
  by_cases hr2:r2=0
  case neg =>
   have hs:=HS.out;rw[if_neg hr2] at hs;subst hs
   have Hs:(r2 != 0)=true:=by simpa using hr2
   clear HS hr2
   exact mcR8aa1
  have hs:=HS.out;rw[if_pos hr2] at hs;simp only[if_true] at hs;subst hr2;clear HS;have key:=zkz _ D2 _ H.out.dk (by have:=H7.out.l;have:=He.out;omega) (by have:=H7.out.t;have:=He.out;omega) H7.out.f;obtain ⟨⟨D3,r3⟩,Hj⟩:∃ x,D2.syncS=x:=⟨_,rfl⟩;rw[Hj] at key hs;have H0:=J key;subst hs;clear key Hj;go_wp2_with fail
  refine H0.out.mono ?_
  rintro e w6 ⟨⟨u,rfl,H5⟩,H1⟩
  dsimp only at H5 ⊢
  clear H0 g0 g1 g2 g3 g4 f0 f1 f2 f3 f4
  exact mcR8aa0
end Go.Proofs.YteggfecbjgbndaaGreatDoor
