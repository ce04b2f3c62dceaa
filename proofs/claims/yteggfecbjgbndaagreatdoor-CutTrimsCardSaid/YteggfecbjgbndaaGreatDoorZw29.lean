/- Merged -/
import Derived.Test.YteggfecbjgbndaaGreatDoorZw28
set_option linter.all false
set_option maxHeartbeats 8000000
set_option maxRecDepth 100000
open Go.Value renaming slice→F,int→G,bool→N,string→V,pointer→Y,agg→Z
open Go.IntKind renaming i64→I,u8→X
open Go.Mv renaming zhd→J
open Go.Obj renaming cells→L
open Option renaming some→M,none→U
open Go.Proofs.Tryz renaming prog→O
open Go.Proofs.YteggfecbjgbndaaGreatDoor.OwnX renaming base→P0
open Go.Proofs.YteggfecbjgbndaaGreatDoor.OwnQ renaming box1→P1
open Go.Proofs.YteggfecbjgbndaaGreatDoor.OwnF renaming box1→P2
open Go.World renaming block_lt_of_cell?→P3,cell?_of_block→P4
open Go.Result renaming andThen_ok→P5
open Go.Mv.Blk renaming new→P6
open Go.Value renaming slice→P7
open Nat renaming le_succ→P8,le_trans→P9
open Go.Sem renaming run_pure→Pa,run_bind→Pb
namespace Go.Proofs.YteggfecbjgbndaaGreatDoor
open Go.RowKit Go.Mv Go.Shelf
theorem mcDDoa0 {P:Prop} (h:P:=by
 refine tkN 19 ?_;refine tkN 20 ?_;refine wdD ?_;clear k0 k1 k2 k3 g0 g1 g2 g3 g4;obtain ⟨g0,g1,g2,g3,g4⟩:=zaa H.out.b0;obtain ⟨f0,f1,f2,f3,f4⟩:=zam H.out.b2;obtain ⟨d0,d1,d2,d3,d4⟩:=zaa H.out.b2;go_wp2_with fail
 refine bodyPost_ret (zft _ _ _ _ (G I 41) rfl rfl (zal H.out.b2 _ _ _ _ _) rfl) rfl ?_
 exact ⟨_,rfl,⟨_,_,_,_,rfl,P2 H.out.f.f H.out.b2,P1 (P0 H.out.q (by omega)) H.out.b2⟩,zae H.out.e (by omega) _ _ _ _ _⟩):P:=h
theorem mcDDoa1 {P:Prop} (h:P:=by
 obtain ⟨g0,g1,g2,g3,g4⟩:=zaa H.out.b0;obtain ⟨f0,f1,f2,f3,f4⟩:=zam H.out.b2;obtain ⟨d0,d1,d2,d3,d4⟩:=zaa H.out.b2;go_wp2_with fail
 refine bodyPost_ret (zft _ _ _ _ (G I 2) rfl rfl (zal H.out.b2 _ _ _ _ _) rfl) rfl ?_
 exact ⟨_,rfl,⟨_,_,_,_,rfl,P2 H.out.f.f H.out.b2,P1 (P0 H.out.q (by omega)) H.out.b2⟩,zae H.out.e (by omega) _ _ _ _ _⟩):P:=h
theorem zna {α:Type} {sz:Nat} {E:World→(Nat→Option Value)→α→Prop} (hE:zdA sz E) {o:Oper} {a:Act} {w:World} {K:Act→World→Prop} {Q:Exit→Act→World→Prop} (s x:Operand) (T:TypeId)
  (ho:o.op=.call { callee:=.builtin .append,args:=#[s,x],argTypes:=#[T,T] }) (t:TypeId) (i0:TypeInfo) (z:Value) (bytes:Nat) (hT:Tryz.prog.underlying T=M (.slice t)) (hi:Tryz.prog.info? t=M i0) (K0:i0.zero=M z) (K1:i0.size=sz) (K2:i0.bytes=bytes) (Jk:z.cells.size=sz) (K8:0<sz) (Jf:bytes≤1000)
  (base:Nat) (v:Value) (l:List α) (hs:a.eval s=v) (Kl:OwnX sz E t w base v l) (vx:Value) (m:List α) (ys:List Value) (hx:a.eval x=vx) (hr:SlR w sz vx m.length ys) (Hu:RowOf sz E w ys m) (Kx:0<m.length)
  (Kv:∀ g,v.ownBlock=M g→∀ u∈ys,zaZ g u) (Hk:l.length+m.length≤4000000) (HH:base≤w.heap.size)
  (h:∀ A c w',OwnX sz E t w' base (F A (l.length+m.length) c) (l++m)→zcz base w w'→w.grownBy w' v.ownBlock→K (a.put o.dst (F A (l.length+m.length) c)) w'):Oper.wp O o a w K Q:=by
 obtain ⟨xs,h1,h2,h3⟩:=Kl
 have Kw:(l.length+m.length)*bytes≤140737488355328:=P9 (Nat.mul_le_mul Hk Jf) (by decide)
 obtain ⟨v',w',HW,g1,g2⟩:=zbD (P:=O) w base T o.type t i0 _ sz bytes hT hi K0 K1 K2 Jk K8 v l.length xs h1 vx m.length ys hr (Hu.one hE) (by unfold maxLen;omega) Kw HH
 have Ki:v'.ownBlock=v.ownBlock∨v'.ownBlock=M w.heap.size:=by
  obtain ⟨hl,A,c,rfl,_,_,hc⟩:=hr;obtain ⟨b,Hf,rfl,HK⟩:=hc Kx
  have Kh:∀ j,(⟨b,Hf,U⟩:Addr).add j=⟨b,Hf+j,U⟩:=by intro j;unfold Addr.add;split <;> simp_all
  exact zd7 (P:=O) w base T o.type t i0 _ sz bytes hT hi K0 K1 K2 v l.length xs h1 ⟨b,Hf,U⟩ m.length c ys hl Kx (fun j u hu=>by rw[Kh];exact HK j u hu) (Hu.one hE) (by unfold maxLen;omega) Kw HW
 have Hn:∀ {zs:List Value} {k:List α},RowOf sz E w zs k→(∀ g,v.ownBlock=M g→∀ u∈zs,zaZ g u)→RowOf sz E w' zs k:=by
  intro zs k Km Je
  cases hg:v.ownBlock with
  | none =>
   refine Km.keep hE (Km.fresh hE) fun p y hc _=>?_
   exact (P4 (g2.block _ (P3 _ _ hc) (by rw[hg];simp))).trans hc
  | some g =>
   refine Km.keep hE (Je g hg) fun p y hc H8=>?_
   exact (P4 (g2.block _ (P3 _ _ hc) (by rw[hg];simpa using H8))).trans hc
 unfold Oper.wp execOp;simp only[ho,resolve,invoke,builtin,Pb,Pa,P5,List.map_toArray,List.map_cons,List.map_nil,hs,hx,HW];obtain ⟨A,c,rfl,_,_⟩:=xO (xW g1)
 refine h A c w' ⟨xs++ys,?_,(Hn h2 h3).append (Hn Hu Kv),fun g hg u hu=>?_⟩ (fun W0 hX hb=>Ext.grownOwn hX (zaf h1 hb) g2) g2
 ·rw[xL]
  exact g1
 ·rcases Ki with hb | hb
  ·rw[hb] at hg
   rcases List.mem_append.1 hu with hu | hu
   ·exact h3 g hg u hu
   ·exact Kv g hg u hu
  ·rw[hb] at hg
   cases hg
   rcases List.mem_append.1 hu with hu | hu
   ·exact h2.fresh hE u hu
   ·exact Hu.fresh hE u hu
theorem zft (tmps:Array Value) (W:World) (b:Nat) (cs:Array Value) (e:Value) (h4:tmps.getD 4 undef=Y (M ⟨b,0,U⟩)) (h3:tmps.getD 5 undef=e) (hb:Blk W b 25 cs) (hs:cs.size=5):(results Tryz.f108 tmps).run O W=.ok (.tuple #[.agg cs,e]) W:=by
 have HD:tmps[4]?.getD undef=Y (M ⟨b,0,U⟩):=by simpa using h4
 have HA:tmps[5]?.getD undef=e:=by simpa using h3
 have hl:=hb.load (P:=O) zc3 rfl (by rw[hs];kernel_rfl)
 simp[results,Tryz.results108,HD,HA,asAddr,hl,Pb,Pa,P5]
theorem zsI (d:Dk) (n:List UInt8):zaj n (zbF d.fs d.q)=zaj n d.now:=((zh8 d.fs d.q).g n).symm
theorem zjG {d:Dk} {o:Oq} {m:Int} (h:d.may=m) (hm:m≠0):d.doS o=(d,m):=by
 subst h;unfold Dk.doS;rw[if_pos hm]
theorem zfe {W:World} {b j:Nat} {t:TypeId} {cs:Array Value} {u x:Value} {bs:List UInt8} (h:Bs W u bs) (hB:Blk W b t cs) (Hl:∀ (k:Nat) (n:Int),cs[k]?≠some (G X n)):Bs (W.setCell ⟨b,j,U⟩ x) u bs :=
 Bs.away h (Bs.awayBlk h hB Hl) fun _ _ hc H8=>zbS hc H8
theorem zoe {W:World} {b:Nat} {A A':Option Addr} {n c n' c':Nat} {B B':Option Addr} {m e m' e':Nat} {q f q' f':Int} {d d':Bool} {u:Value} {bs:List UInt8} (h:Bs W u bs) (hB:Blk W b 25 (zan A n c B m e q f d)) :
  Bs (zaR W b (F A' n' c') (F B' m' e') (G I q') (G I f') (N d')) u bs:=by
 have b0:Blk _ b 25 (zan A' n' c' B m e q f d):=hB.set 0 (F A' n' c')
 have b1:Blk _ b 25 (zan A' n' c' B' m' e' q f d):=b0.set 1 (F B' m' e')
 have b2:Blk _ b 25 (zan A' n' c' B' m' e' q' f d):=b1.set 2 (G I q')
 have b3:Blk _ b 25 (zan A' n' c' B' m' e' q' f' d):=b2.set 3 (G I f')
 exact zfe (zfe (zfe (zfe (zfe h hB zay) b0 zay) b1 zay) b2 zay) b3 zay
theorem OwnFA.grown {W W':World} {base:Nat} {v:Value} {l:List Fil} {row:Option Nat} (h:OwnFA W base v l (fun g=>row=M g)) (hg:W.grownBy W' row) (H8:v.ownBlock=none∨v.ownBlock≠row):OwnF W' base v l:=by
 obtain ⟨xs,h1,h2,h3,h4⟩:=h
 refine ⟨xs,h1.kept hg H8,?_,h3⟩
 cases row with
 | none=>exact h2.keep zbq (h2.fresh zbq) fun p x hc _=>(P4 (hg.block _ (P3 _ _ hc) (by simp))).trans hc
 | some g=>exact h2.keep zbq (h4 g rfl) fun p x hc H8=>(P4 (hg.block _ (P3 _ _ hc) (by simpa using H8))).trans hc
structure DoB (w W:World) (A:Option Addr) (c:Nat) (B:Option Addr) (e:Nat) (d:Dk) (vo:Value) (o:Oq):Prop where
 b0:Blk W w.heap.size 25 (zan A d.fs.length c B d.q.length e d.quota d.fuse d.dead)
 b1:Blk W (w.heap.size+1) 98 #[G X o.k,V ⟨o.n.toArray⟩,V ⟨o.t.toArray⟩,vo]
 b2:Blk W (w.heap.size+1+1) 25 (zan none 0 0 none 0 0 0 0 false)
 f:OwnFA W w.heap.size (F A d.fs.length c) d.fs (fun g=>(P7 B d.q.length e).ownBlock=M g)
 q:OwnQ W (w.heap.size+3) (F B d.q.length e) d.q
 b:Bs W vo o.b
 e:Ext w W
theorem DoB.ext {w W W':World} {A:Option Addr} {c:Nat} {B:Option Addr} {e:Nat} {d:Dk} {vo:Value} {o:Oq} (h:DoB w W A c B e d vo o) (hX:Ext W W'):DoB w W' A c B e d vo o :=
 ⟨h.b0.ext hX,h.b1.ext hX,h.b2.ext hX,h.f.ext hX,OwnX.ext zbt h.q hX,h.b.ext hX,xT h.e hX⟩
theorem zuo (v:Value) (d:Dk) (n:Nat) (o:Oq) (vo:Value) (w:World) (hD:DkV w v d) (hn:n≤1000000) (hs:Sz n d) (hB:Bs w vo o.b) (KF:o.b.length≤1000000) :
  Calls O 108 #[v,Z #[G X o.k,sv o.n,sv o.t,vo]] w fun e w'=>∃ u,e=.returned (.tuple #[u,G I (d.doS o).2])∧OwnD w' w.heap.size u (d.doS o).1∧Ext w w':=by
 obtain ⟨vf,vq,rfl,hF,hQ⟩:=hD;obtain ⟨A,c,rfl,_,_⟩:=Fs.open_ hF;obtain ⟨B,e2,rfl,_,_⟩:=Qs.open_ hQ;obtain ⟨C,c2,rfl,_,_⟩:=xO hB
 simp only[sv] at *
 obtain ⟨W0,Hb⟩:∃ W0,((w.alloc (L #[F A d.fs.length c,F B d.q.length e2,G I d.quota,G I d.fuse,N d.dead] 25)).alloc (L #[G X o.k,V ⟨o.n.toArray⟩,V ⟨o.t.toArray⟩,F C o.b.length c2] 98)).alloc (L #[F none 0 0,F none 0 0,G I 0,G I 0,N false] 25)=W0:=⟨_,rfl⟩
 have Ha:Ext w W0:=by rw[←Hb];exact xA (xA (xA (xR _) _) _) _
 have h0:Blk W0 w.heap.size 25 (zan A d.fs.length c B d.q.length e2 d.quota d.fuse d.dead):=by rw[←Hb];exact ((P6 w _ _).alloc _).alloc _
 have h1:Blk W0 (w.heap.size+1) 98 #[G X o.k,V ⟨o.n.toArray⟩,V ⟨o.t.toArray⟩,F C o.b.length c2]:=by
  rw[←Hb]
  have:=(P6 (w.alloc (L #[F A d.fs.length c,F B d.q.length e2,G I d.quota,G I d.fuse,N d.dead] 25)) 98 #[G X o.k,V ⟨o.n.toArray⟩,V ⟨o.t.toArray⟩,F C o.b.length c2]).alloc (L #[F none 0 0,F none 0 0,G I 0,G I 0,N false] 25)
  rwa [xS] at this
 have h2:Blk W0 (w.heap.size+1+1) 25 (zan none 0 0 none 0 0 0 0 false):=by
  rw[←Hb]
  have:=P6 ((w.alloc (L #[F A d.fs.length c,F B d.q.length e2,G I d.quota,G I d.fuse,N d.dead] 25)).alloc (L #[G X o.k,V ⟨o.n.toArray⟩,V ⟨o.t.toArray⟩,F C o.b.length c2] 98)) 25 #[F none 0 0,F none 0 0,G I 0,G I 0,N false]
  rwa [xS,xS] at this
 have He:=J Ha;have H0:=J h0;have H1:=J h1;have H2:=J h2;have HB:=J (hB.ext Ha)
 have HC:=J (zfm _ d n _ (show DkV W0 _ d from ⟨_,_,rfl,hF.ext Ha,hQ.ext Ha⟩) hn hs)
 clear h1 h2 hF hQ hB Ha;obtain ⟨g0,g1,g2,g3,g4⟩:=zaa h0;clear h0;have HZ:=J hs;obtain ⟨S,hS⟩:∃ S,d.doS o=S:=⟨_,rfl⟩;rw[hS];have HS:=J hS;have Kb:=J KF;clear hs hS KF
 go_enter Tryz.func108,Tryz.ntmps108
 go_wp2_with fail;clear g0 g1 g2 g3 g4
 refine HC.out.mono ?_
 rintro e w1 ⟨u,rfl,⟨A3,c3,B3,e3,rfl,of,oq⟩,Hd⟩;have Hr:=H0.out.ext Hd;obtain ⟨g0,g1,g2,g3,g4⟩:=zaa Hr;obtain ⟨f0,f1,f2,f3,f4⟩:=zam Hr
 have H8:w.heap.size+1≠w.heap.size:=by omega
 have H9:w.heap.size+1+1≠w.heap.size:=by omega
 have Ko:DoB w (zaR w1 w.heap.size (F A3 d.fs.length c3) (F B3 d.q.length e3) (G I d.quota) (G I d.fuse) (N d.dead)) A3 c3 B3 e3 d (F C o.b.length c2) o :=
  ⟨zal Hr _ _ _ _ _,(((((H1.out.ext Hd).other H8 0 _).other H8 1 _).other H8 2 _).other H8 3 _).other H8 4 _,(((((H2.out.ext Hd).other H9 0 _).other H9 1 _).other H9 2 _).other H9 3 _).other H9 4 _,
    OwnFA.box1 (of.base He.out.size) Hr,P1 (P0 oq (by rw[←Hb];simp only[xS];omega)) Hr,zoe (HB.out.ext Hd) Hr,zae (xT He.out Hd) (xN _) _ _ _ _ _⟩
 have H:=J Ko;clear Hr H8 H9 Ko of oq Hd HC He H0 H1 H2 HB;go_wp2_with fail;clear f0 f1 f2 f3 f4 g0 g1 g2 g3 g4
 refine (zro _ d n _ (show DkV _ _ d from ⟨_,_,rfl,H.out.f.f.fs,H.out.q.qs⟩) hn HZ.out).mono ?_
 rintro e w2 ⟨rfl,H4⟩
 replace H:=J (H.out.ext H4)
 clear H4
 rcases zkL d with hm | hm | hm
 case inr.inl =>
  have e1:S=(d,2):=by rw[←HS.out];exact zjG hm (by decide)
  subst e1;rw[hm];clear HS
  exact mcDDoa1
 case inr.inr =>
  have e1:S=(d,40):=by rw[←HS.out];exact zjG hm (by decide)
  subst e1;rw[hm];clear HS;obtain ⟨g0,g1,g2,g3,g4⟩:=zaa H.out.b0;obtain ⟨f0,f1,f2,f3,f4⟩:=zam H.out.b2;obtain ⟨d0,d1,d2,d3,d4⟩:=zaa H.out.b2;go_wp2_with fail
  refine bodyPost_ret (zft _ _ _ _ (G I 40) rfl rfl (zal H.out.b2 _ _ _ _ _) rfl) rfl ?_
  exact ⟨_,rfl,⟨_,_,_,_,rfl,P2 H.out.f.f H.out.b2,P1 (P0 H.out.q (by omega)) H.out.b2⟩,zae H.out.e (by omega) _ _ _ _ _⟩
 have HM:=J hm;rw[hm];clear hm;obtain ⟨g0,g1,g2,g3,g4⟩:=zaa H.out.b0;go_wp2_with fail;clear g0 g1 g2 g3 g4
 refine (zi2 _ d _ (show DkV _ _ d from ⟨_,_,rfl,H.out.f.f.fs,H.out.q.qs⟩) (by have:=HZ.out.l;omega) (by have:=HZ.out.l;omega) (by have:=HZ.out.t;omega)).mono ?_
 rintro e w3 ⟨r,rfl,KE,_,Kp⟩
 replace H:=J (H.out.ext Kp)
 have Hx:=J KE;clear Kp KE;obtain ⟨k0,k1,k2,k3⟩:=blk4 H.out.b1;obtain ⟨is,Kz⟩:∃ is,(zaj o.n (zbF d.fs d.q)).isSome=is:=⟨_,rfl⟩;have HI:=J Kz;clear Kz
 go_wp2_with (at_lookup;refine zcK rfl (.tmp 21) (.tmp 23) true rfl Tryz.underlying142 Tryz.underlying9 (zgM _) r (zbF d.fs d.q) rfl Hx.out o.n rfl ?_;rw[HI.out];intro A1 c1 Hw;simp only[if_true];clear Hw;obtain ⟨v1,KK⟩:∃ v1,P7 A1 ((zaj o.n (zbF d.fs d.q)).getD []).length c1=v1:=⟨_,rfl⟩;rw[KK];clear KK)
 refine (zkE o _ w3 H.out.b).mono ?_
 rintro e w4 ⟨rfl,Hv⟩;clear k0 k1 k2 k3
 replace H:=J (H.out.ext Hv)
 replace Hx:=J (Hx.out.ext Hv)
 clear Hv
 cases hfi:zbo o with
 | false =>
  have e1:S=(d,2):=by rw[←HS.out];unfold Dk.doS;rw[if_neg (by rw[HM.out];simp),if_pos hfi]
  subst e1;clear HS hfi
  exact mcDDoa1
 | true =>
 have HF:=J hfi;clear hfi;obtain ⟨k0,k1,k2,k3⟩:=blk4 H.out.b1
 have K4:zaj o.n (zbF d.fs d.q)=zaj o.n d.now:=zsI d o.n
 by_cases Hj:o.k≠1∧is=false
 case pos =>
  obtain ⟨Hj,rfl⟩:=Hj
  have e1:S=(d,42):=by rw[←HS.out];unfold Dk.doS;rw[if_neg (by rw[HM.out];simp),if_neg (by rw[HF.out];simp),if_pos ⟨by rw[←K4];simpa using HI.out,Hj⟩]
  subst e1
  have Jh:(o.k==1)=false:=by simpa using Hj
  have Ji:(o.k != 1)=true:=by simpa using Hj
  clear HS Hj K4;obtain ⟨g0,g1,g2,g3,g4⟩:=zaa H.out.b0;obtain ⟨f0,f1,f2,f3,f4⟩:=zam H.out.b2;obtain ⟨d0,d1,d2,d3,d4⟩:=zaa H.out.b2;go_wp2_with fail
  refine bodyPost_ret (zft _ _ _ _ (G I 42) rfl rfl (zal H.out.b2 _ _ _ _ _) rfl) rfl ?_
  exact ⟨_,rfl,⟨_,_,_,_,rfl,P2 H.out.f.f H.out.b2,P1 (P0 H.out.q (by omega)) H.out.b2⟩,zae H.out.e (by omega) _ _ _ _ _⟩
 have HN:=J (show ¬ (zaj o.n d.now=none∧o.k≠1) from fun h=>Hj ⟨h.2,by rw[←HI.out,K4,h.1];rfl⟩)
 have HJ:is=true∨is=false∧(o.k==1)=true∧(o.k != 1)=false:=by
  cases is with
  | true=>exact .inl rfl
  | false =>
   have:o.k=1:=Classical.not_not.1 fun h=>Hj ⟨h,rfl⟩
   exact .inr ⟨rfl,by simp[this],by simp[this]⟩
 clear Hj K4
 have Hc:Hid (S=if (o.k=2∧d.quota<(tot (zbF d.fs d.q):Int)+(o.b.length:Int))∨d.q.length=400 then (d,41) else ({ d with q:=d.q++[o] }.burn,0)) :=
  J (by rw[←HS.out];unfold Dk.doS;rw[if_neg (by rw[HM.out];simp),if_neg (by rw[HF.out];simp),if_neg HN.out,show tot d.now=tot (zbF d.fs d.q) from ziy d.fs d.q])
 have Jj:=zfO d.fs d.q
 have HT:=J (show tot (zbF d.fs d.q)≤2000000 by have:=HZ.out.t;omega)
 have hw:IntKind.i64.wrap ((tot (zbF d.fs d.q):Int)+(o.b.length:Int))=(tot (zbF d.fs d.q):Int)+(o.b.length:Int):=by have:=HT.out;have:=Kb.out;rw[IntKind.wrap_i64];omega
 clear HS HN HF HM HI Jj;obtain ⟨g0,g1,g2,g3,g4⟩:=zaa H.out.b0
 rcases HJ with rfl | ⟨rfl,Jh,Ji⟩
 all_goals
  go_wp2_with fail
  refine wp_region_held_drew (S:=fun W=>W.cell? ⟨w.heap.size+1,0,U⟩=M (G X o.k)∧W.cell? ⟨w.heap.size+1,3,U⟩=M (F C o.b.length c2)∧W.cell? ⟨w.heap.size,1,U⟩=M (F B3 d.q.length e3)∧W.cell? ⟨w.heap.size,2,U⟩=M (G I d.quota)) (by kernel_rfl) ⟨k0,k3,g1,g2⟩ (fun _=>?_)
  by_cases hk4:o.k=2
  case' neg =>
   have KA:(o.k==2)=false:=by simpa using hk4
   refine tkN 0 ?_;refine tkN 1 ?_;refine tkN 2 ?_;refine tkN 3 ?_;refine tkS 4 ?_;refine tkS 5 ?_;refine tkS 6 ?_;refine tkS 7 ?_;refine tkS 8 ?_;refine tkS 9 ?_;refine tkS 10 ?_;refine tkS 11 ?_;refine tkS 12 ?_;refine tkN 13 ?_;refine tkN 14 ?_;refine tkN 15 ?_;refine tkN 16 ?_;refine tkN 17 ?_;obtain ⟨w5,KL⟩:∃ w5,w4.drew=w5:=⟨_,rfl⟩
   replace H:=J (show DoB w w5 A3 c3 B3 e3 d (F C o.b.length c2) o by rw[←KL];exact H.out.ext (xD (xR _)))
   have Hy:=J (show S=if d.q.length=400 then (d,41) else ({ d with q:=d.q++[o] }.burn,0) by rw[Hc.out];simp[hk4])
   clear hk4
  case' pos =>
   have KA:(o.k==2)=true:=by simpa using hk4
   have Jb:=J hk4;clear hk4;refine tkN 0 ?_;refine tkN 1 ?_;refine tkN 2 ?_;refine tkN 3 ?_;refine tkN 4 ?_;refine tkN 6 ?_;refine tkN 7 ?_;refine tkN 8 ?_;refine tkN 10 ?_;refine tkN 11 ?_
   refine ar1 5 (fun K hK=>?_)
   go_simp
   refine (zm0 r _ _ (Hx.out.ext (xD (xR _))) (by have:=HT.out;omega)).mono ?_
   rintro e w5 ⟨rfl,Kq⟩
   replace H:=J (H.out.ext (xT (xD (xR _)) Kq))
   clear Kq k0 k1 k2 k3 g0 g1 g2 g3 g4;obtain ⟨k0,k1,k2,k3⟩:=blk4 H.out.b1;obtain ⟨g0,g1,g2,g3,g4⟩:=zaa H.out.b0
   refine shK hK _ _ ⟨k0,k3,g1,g2⟩ (fun _=>?_)
   refine tkN 9 ?_
   by_cases hov:d.quota<(tot (zbF d.fs d.q):Int)+(o.b.length:Int)
   case pos =>
    have Kk:decide (d.quota<(tot (zbF d.fs d.q):Int)+(o.b.length:Int))=true:=by simpa using hov
    have e1:S=(d,41):=by rw[Hc.out,if_pos (.inl ⟨Jb.out,hov⟩)]
    subst e1;refine tkN 12 ?_;refine tkN 13 ?_;refine tkN 14 ?_;refine tkS 15 ?_;refine tkS 16 ?_;refine tkS 17 ?_;refine tkS 18 ?_
    exact mcDDoa0
   have Kk:decide (d.quota<(tot (zbF d.fs d.q):Int)+(o.b.length:Int))=false:=by simpa using hov
   refine tkN 12 ?_;refine tkN 13 ?_;refine tkN 14 ?_;refine tkN 15 ?_;refine tkN 16 ?_;refine tkN 17 ?_
   have Hy:=J (show S=if d.q.length=400 then (d,41) else ({ d with q:=d.q++[o] }.burn,0) by rw[Hc.out];simp[hov])
 all_goals
  clear Hc KA Hx
  by_cases hq4:d.q.length=400
  case pos =>
   have KH:(((d.q.length:Nat):Int)==400)=true:=by simp;omega
   have e1:S=(d,41):=by rw[Hy.out,if_pos hq4]
   subst e1;clear Hy hq4;refine tkN 18 ?_
   exact mcDDoa0
  have KH:(((d.q.length:Nat):Int)==400)=false:=by simp;omega
  have Jl:=J hq4
  have e1:S=({ d with q:=d.q++[o] }.burn,0):=by rw[Hy.out,if_neg hq4]
  subst e1;clear Hy hq4;refine tkN 18 ?_;refine tkN 19 ?_;refine tkN 20 ?_;refine wdD ?_
  try rw[KL]
  clear KH k0 k1 k2 k3 g0 g1 g2 g3 g4;obtain ⟨k0,k1,k2,k3⟩:=blk4 H.out.b1;obtain ⟨g0,g1,g2,g3,g4⟩:=zaa H.out.b0;go_wp2_with fail
 all_goals
  refine wp_region_held_drew (S:=fun W=>W.cell? ⟨w.heap.size+1,0,U⟩=M (G X o.k)∧W.cell? ⟨w.heap.size+1,1,U⟩=M (V ⟨o.n.toArray⟩)∧W.cell? ⟨w.heap.size+1,2,U⟩=M (V ⟨o.t.toArray⟩)∧W.cell? ⟨w.heap.size+1,3,U⟩=M (F C o.b.length c2)) (by kernel_rfl) ⟨k0,k1,k2,k3⟩ (fun _=>?_)
  refine tkN 0 ?_;refine tkN 2 ?_
  refine AllReadyH.two (i:=1) (j:=3) rfl rfl (by kernel_rfl) (by rfl) (by rfl) (fun K hK=>?_) (fun K hK=>?_)
  go_simp
  refine shK hK _ _ ⟨k0,k1,k2,k3⟩ (fun _=>?_)
  refine ar1 3 (fun K hK=>?_)
  go_simp
  refine (zmp o _ _ (H.out.b.ext (xD (xR _))) (by have:=Kb.out;omega)).mono ?_
  rintro e w6 ⟨A6,c6,rfl,HU,HG⟩;have K9:=J HU
  replace H:=J (H.out.ext (xT (xD (xR _)) HG))
  clear HG HU k0 k1 k2 k3 g0 g1 g2 g3 g4;obtain ⟨k0,k1,k2,k3⟩:=blk4 H.out.b1
  refine shK hK _ _ ⟨k0,k1,k2,k3⟩ (fun _=>?_)
  refine ar1 4 (fun K hK=>?_)
  go_simp
  refine shK hK _ _ (blk4 (H.out.b1.alloc _)) (fun _=>?_)
  rotate_left
  go_simp
  refine (zmp o _ _ (H.out.b.ext (xD (xR _))) (by have:=Kb.out;omega)).mono ?_
  rintro e w6 ⟨A6,c6,rfl,HU,HG⟩;have K9:=J HU
  replace H:=J (H.out.ext (xT (xD (xR _)) HG))
  clear HG HU k0 k1 k2 k3 g0 g1 g2 g3 g4;obtain ⟨k0,k1,k2,k3⟩:=blk4 H.out.b1;obtain ⟨g0,g1,g2,g3,g4⟩:=zaa H.out.b0
  refine shK hK _ _ ⟨k0,k1,k2,k3⟩ (fun _=>?_)
  refine AllReadyH.two (i:=1) (j:=4) rfl rfl (by kernel_rfl) (by rfl) (by rfl) (fun K hK=>?_) (fun K hK=>?_)
  go_simp
  refine shK hK _ _ ⟨k0,k1,k2,k3⟩ (fun _=>?_)
  refine ar1 4 (fun K hK=>?_)
  go_simp
  refine shK hK _ _ (blk4 (H.out.b1.alloc _)) (fun _=>?_)
  rotate_left
  go_simp
  refine shK hK _ _ (blk4 (H.out.b1.alloc _)) (fun _=>?_)
  have Jc:(w6.alloc (L #[G X o.k,sv o.n,sv o.t,F A6 o.b.length c6] 98)).cell? ⟨w.heap.size,1,U⟩=M (F B3 d.q.length e3):=(H.out.b0.alloc _).cell 1 rfl
  refine ar1 1 (fun K hK=>?_)
  go_simp
  refine shK hK _ _ (blk4 (H.out.b1.alloc _)) (fun _=>?_)
  rotate_left
 all_goals
  clear k0 k1 k2 k3
  try clear g0 g1 g2 g3 g4
  try clear Jc
  have Kg:Ext w6 (w6.alloc (L #[G X o.k,sv o.n,sv o.t,F A6 o.b.length c6] 98)):=xA (xR _) _
  have KJ:=zda w6 [G X o.k,sv o.n,sv o.t,F A6 o.b.length c6] 98 4 rfl rfl;have Hu:=zdO (o:=o) (Bs.ext K9.out.bs Kg);have H6:=H.out.ext Kg
  have Ku:∀ g,(P7 B3 d.q.length e3).ownBlock=M g→∀ y∈[G X o.k,sv o.n,sv o.t,F A6 o.b.length c6],zaZ g y:=by
   intro g hg y hy;obtain ⟨_,cs,Jg⟩:=zaS H.out.q hg;simp only[List.mem_cons,List.not_mem_nil,or_false] at hy
   rcases hy with rfl | rfl | rfl | rfl
   ·exact zc2 _ _ _
   ·exact zaB _ _
   ·exact zaB _ _
   ·exact OwnB.awayT K9.out Jg (by decide)
  obtain ⟨i0,hi,K0,K1,K2⟩:=info_parts zer
  have KD:d.q.length+1≤4000000:=by have:=HZ.out.l;omega
  have K8:w.heap.size+3≤(w6.alloc (L #[G X o.k,sv o.n,sv o.t,F A6 o.b.length c6] 98)).heap.size:=by have:=H6.b2.lt;omega
  refine ar1 5 (fun K hK=>?_)
  refine zna zbt (.tmp 64) (.tmp 67) 23 rfl 98 i0 _ 64 Tryz.underlying23 hi K0 K1 K2 rfl (by decide) (by decide) (w.heap.size+3) _ d.q rfl H6.q _ [o] [G X o.k,sv o.n,sv o.t,F A6 o.b.length c6] rfl KJ Hu (by simp) Ku (by simpa using KD) K8 ?_
  intro A7 c7 w7 K5 Ks HO
  have Hk:d.q.length+[o].length=(d.q++[o]).length:=by simp
  rw[Hk] at K5 ⊢
  obtain ⟨q7,HV⟩:∃ q7,d.q++[o]=q7:=⟨_,rfl⟩
  rw[HV] at K5 ⊢
  have Hl:∀ b,b<w.heap.size+3→some b≠(P7 B3 d.q.length e3).ownBlock:=fun b hb e=>by have:=(zaS H6.q e.symm).1;omega
  have b0:=H6.b0.kept HO (Hl _ (by omega));have b1:=H6.b1.kept HO (Hl _ (by omega));have b2:=H6.b2.kept HO (Hl _ (by omega))
  have Ky:OwnF w7 w.heap.size (F A3 d.fs.length c3) d.fs:=OwnFA.grown H6.f HO (by
   cases hf:(P7 A3 d.fs.length c3).ownBlock with
   | none=>exact .inl rfl
   | some g =>
    refine .inr fun e=>?_
    obtain ⟨_,cs,h1⟩:=zaS H6.q e.symm;obtain ⟨_,Jm,h2⟩:=zaS H6.f.f hf;rw[h1] at h2
    cases h2)
  have Kr:Ext w w7:=Ks w H6.e (by omega)
  have c0:Blk _ w.heap.size 25 (zan A3 d.fs.length c3 A7 q7.length c7 d.quota d.fuse d.dead):=Blk.set (b:=w.heap.size) b0 1 (F A7 q7.length c7)
  have H8:w.heap.size+1≠w.heap.size:=by omega
  have H9:w.heap.size+1+1≠w.heap.size:=by omega
  have B1:=J (b1.other H8 1 (F A7 q7.length c7));have B2:=J (b2.other H9 1 (F A7 q7.length c7));have OF:=J (OwnF.setD (j:=1) (u:=F A7 q7.length c7) Ky (by decide) b0 zay)
  have OQ:=J (OwnQ.setD (j:=1) (u:=F A7 q7.length c7) (P0 K5 (show w.heap.size≤_ by omega)) (by decide) b0 zay)
  have OE:=J (Below.setCell (p:=⟨w.heap.size,1,U⟩) Kr (xN _) (F A7 q7.length c7));have C0:=J c0
  refine shK hK _ _ (blk4 b1) (fun _=>?_)
  refine tkN 6 ?_;have g1:=b0.cell 1 rfl;have f1:=b0.frozen 1;clear b0 b1 b2 c0 Ky Kr K5 Ks HO Hl Hk Ku KJ Hu H6 Kg H KD K8 hi K0 K1 K2 i0 H8 H9
  refine ar1 7 (fun K hK=>?_)
  go_simp
  refine shK hK _ _ (blk4 B1.out) (fun _=>?_)
  refine wdD ?_;clear g1 f1;go_wp2_with fail
  refine (zlW w.heap.size _ _ d.quota d.fuse d.dead _ C0.out HZ.out.f).mono ?_
  rintro e w8 ⟨rfl,KM⟩;obtain ⟨Hw,K6,K7,Ht,Hs⟩:=zlX (d:={ d with q:=q7 }) C0.out OF.out OQ.out;rw[KM] at Hw K6 K7 Ht Hs
  have H3:=Ht _ _ _ (show w.heap.size+1+1≠w.heap.size by omega) B2.out
  have Hv:=Hs _ OE.out (xN _);obtain ⟨d5,HL⟩:∃ x,({ d with q:=q7 }:Dk).burn=x:=⟨_,rfl⟩;rw[HL] at Hw K6 K7;have H5:=J HL;have H7:=J HV;clear HL HV;obtain ⟨g0,g1,g2,g3,g4⟩:=zaa Hw;obtain ⟨f0,f1,f2,f3,f4⟩:=zam H3;obtain ⟨d0,d1,d2,d3,d4⟩:=zaa H3;have Q1:=J H3;have Q2:=J K6;have Q3:=J K7;have Q4:=J Hv;clear Hw H3 K6 K7 Ht Hs Hv C0 OF OQ B1 B2 OE KM;go_wp2_with fail
  refine bodyPost_ret (zft _ _ _ _ (G I 0) rfl rfl (zal Q1.out _ _ _ _ _) rfl) rfl ?_
  have HL:=H5.out;have HV:=H7.out;subst HL;subst HV
  exact ⟨_,rfl,⟨_,_,_,_,rfl,P2 Q2.out Q1.out,P1 Q3.out Q1.out⟩,zae Q4.out (by omega) _ _ _ _ _⟩
theorem Qs.setD {W:World} {b j:Nat} {t:TypeId} {cs:Array Value} {v u:Value} {l:List Oq} (h:Qs W v l) (hB:Blk W b t cs) (Hl:∀ (k:Nat) (n:Int),cs[k]?≠some (G X n)):Qs (W.setCell ⟨b,j,U⟩ u) v l:=by
 obtain ⟨xs,h1,h2⟩:=h;obtain ⟨hl,A,c,rfl,g1,g2,g3⟩:=h1
 refine ⟨xs,⟨hl,A,c,rfl,g1,g2,fun hn=>?_⟩,h2.keep zbt (zkT h2 hB Hl) fun _ _ hc hp=>zbS hc hp⟩
 obtain ⟨b',Hf,rfl,hc⟩:=g3 hn;have h0:=(h2.2 0 hn).1
 have Jd:xs[0]?=M (G X l[0].k):=by simpa using h0
 have H8:b'≠b:=by
  rintro rfl
  have:=hc 0 _ Jd
  exact Hl _ _ (zfp hB this)
 exact ⟨b',Hf,rfl,fun j u hu=>zbS (hc j u hu) H8⟩
theorem Qs.box1 {W:World} {b:Nat} {A A':Option Addr} {n c n' c':Nat} {B B':Option Addr} {m e m' e':Nat} {q f q' f':Int} {d d':Bool} {v:Value} {l:List Oq} (h:Qs W v l) (hB:Blk W b 25 (zan A n c B m e q f d)) :
  Qs (zaR W b (F A' n' c') (F B' m' e') (G I q') (G I f') (N d')) v l:=by
 have b0:Blk _ b 25 (zan A' n' c' B m e q f d):=hB.set 0 (F A' n' c')
 have b1:Blk _ b 25 (zan A' n' c' B' m' e' q f d):=b0.set 1 (F B' m' e')
 have b2:Blk _ b 25 (zan A' n' c' B' m' e' q' f d):=b1.set 2 (G I q')
 have b3:Blk _ b 25 (zan A' n' c' B' m' e' q' f' d):=b2.set 3 (G I f')
 exact Qs.setD (Qs.setD (Qs.setD (Qs.setD (Qs.setD h hB zay) b0 zay) b1 zay) b2 zay) b3 zay
theorem zgS {W:World} {b:Nat} {a v u x y:Value} {p:Addr} {z:Value} (h:W.cell? p=M z) (hp:p.block≠b):(zaR W b a v u x y).cell? p=M z:=zbS (zbS (zbS (zbS (zbS h hp) hp) hp) hp) hp
theorem zi4 (tmps:Array Value) (W:World) (b:Nat) (cs:Array Value) (e:Value) (h4:tmps.getD 6 undef=Y (M ⟨b,0,U⟩)) (h3:tmps.getD 7 undef=e) (hb:Blk W b 25 cs) (hs:cs.size=5):(results Tryz.f52 tmps).run O W=.ok (.tuple #[.agg cs,e]) W:=by
 have HD:tmps[6]?.getD undef=Y (M ⟨b,0,U⟩):=by simpa using h4
 have HA:tmps[7]?.getD undef=e:=by simpa using h3
 have hl:=hb.load (P:=O) zc3 rfl (by rw[hs];kernel_rfl)
 simp[results,Tryz.results52,HD,HA,asAddr,hl,Pb,Pa,P5]
structure SdI (w:World) (sync:Bool) (T:Dk×Int) (v:Value) (ql:List Oq) (A:Option Addr) (c:Nat) (B:Option Addr) (e:Nat) (d:Dk) (n:Nat) (W:World):Prop where
 bx:Blk W (w.heap.size+1) 25 (zan A d.fs.length c B d.q.length e d.quota d.fuse d.dead)
 f:OwnF W w.heap.size (F A d.fs.length c) d.fs
 q:OwnQ W w.heap.size (F B d.q.length e) d.q
 qs:Qs W v ql
 t:zbT sync d ql=T
 x:Ext w W
 sz:Sz n d
 le:n+ql.length+zaW ql≤1000000
def SdR (w:World) (sync:Bool) (T:Dk×Int) (a:Act) (W:World):Prop :=
 ∃ (q:List Oq) (C:Option Addr) (c2:Nat) (A:Option Addr) (c:Nat) (B:Option Addr) (e:Nat) (d:Dk) (n:Nat) (u0 u8 u9 KN KO KP KQ KR KT KU KV KW KX KY KZ J0 J1 J2 J3 J4 J5 J6 J7 J8 J9 Ja:Value),Hid (SdI w sync T (F C q.length c2) q A c B e d n W)∧a=⟨#[u0,N sync,F C q.length c2,Y (M ⟨w.heap.size,0,U⟩),undef,undef,Y (M ⟨w.heap.size+1,0,U⟩),G I 0,u8,u9,KN,KO,KP,KQ,KR,KT,KU,KV,KW,KX,KY,KZ,J0,J1,J2,J3,J4,J5,J6,J7,J8,J9,Ja],[]⟩
theorem zhC (v:Value) (d:Dk) (n:Nat) (sync:Bool) (vq:Value) (q:List Oq) (w:World) (hD:DkV w v d) (hs:Sz n d) (Kf:Qs w vq q) (HP:n+q.length+zaW q≤1000000) :
  Calls O 52 #[v,N sync,vq] w fun e w'=>∃ u,e=.returned (.tuple #[u,G I (zbT sync d q).2])∧OwnD w' w.heap.size u (zbT sync d q).1∧Ext w w':=by
 obtain ⟨vf,Jr,rfl,hF,hQ⟩:=hD;obtain ⟨A,c,rfl,_,_⟩:=Fs.open_ hF;obtain ⟨B,e2,rfl,_,_⟩:=Qs.open_ hQ;obtain ⟨C,c2,rfl,_,_⟩:=Qs.open_ Kf;obtain ⟨W0,Hb⟩:∃ W0,(w.alloc (L #[F A d.fs.length c,F B d.q.length e2,G I d.quota,G I d.fuse,N d.dead] 25)).alloc (L #[F none 0 0,F none 0 0,G I 0,G I 0,N false] 25)=W0:=⟨_,rfl⟩
 have Ha:Ext w W0:=by rw[←Hb];exact xA (xA (xR _) _) _
 have h0:Blk W0 w.heap.size 25 (zan A d.fs.length c B d.q.length e2 d.quota d.fuse d.dead):=by rw[←Hb];exact (P6 w _ _).alloc _
 have h2:Blk W0 (w.heap.size+1) 25 (zan none 0 0 none 0 0 0 0 false):=by
  rw[←Hb]
  have:=P6 (w.alloc (L #[F A d.fs.length c,F B d.q.length e2,G I d.quota,G I d.fuse,N d.dead] 25)) 25 #[F none 0 0,F none 0 0,G I 0,G I 0,N false]
  rwa [xS] at this
 have He:=J Ha;have H2:=J h2;have HQ:=J (Kf.ext Ha)
 have HC:=J (zfm _ d n _ (show DkV W0 _ d from ⟨_,_,rfl,hF.ext Ha,hQ.ext Ha⟩) (by omega) hs)
 clear h2 hF hQ Ha Kf;obtain ⟨g0,g1,g2,g3,g4⟩:=zaa h0;clear h0;have HZ:=J hs;have Hm:=J HP;obtain ⟨T,hT⟩:∃ T,zbT sync d q=T:=⟨_,rfl⟩;rw[hT];have HT:=J hT;clear hs hT HP
 refine (callsIn_wd (ro:=none) (n:=9)).1 ?_
 refine callsIn_of_wp Tryz.func52 rfl trivial ?_ rfl
 simp only[Tryz.ntmps52,List.size_toArray,xC,List.length_nil,Nat.reduceAdd,Nat.reduceSub,Array.replicate_succ,Array.replicate_zero,List.push_toArray,List.append_toArray,xI,List.cons_append]
 gi_wp2
 refine zcX 0 (SdR w sync T) (fun a _=>lenOf (a.tmps.getD 2 undef)) rfl (fun l' h=>by cases l' <;> first | exact absurd rfl h | rfl) ?_ ?_
 ·intro Ho
  have Hz:=J Ho;clear Ho
  gi_wp2_with (refine ⟨trivial,?_⟩;gi_at_call 51;refine (callsIn_wd.2 HC.out).mono ?_;rintro e w1 ⟨u,rfl,⟨A3,c3,B3,e3,rfl,of,oq⟩,Hd⟩;have H3:=H2.out.ext Hd;obtain ⟨d0,d1,d2,d3,d4⟩:=zaa H3;obtain ⟨f0,f1,f2,f3,f4⟩:=zam H3)
  refine wpIn_label ?_
  gi_step
  gi_step
  refine Hz.out _ _ ⟨q,C,c2,A3,c3,B3,e3,d,n,_,_,_,_,_,_,_,_,_,_,_,_,_,_,_,_,_,_,_,_,_,_,_,_,_,_,J ?_,rfl⟩
  exact ⟨zal H3 _ _ _ _ _,P2 (P0 of.f He.out.size) H3,P1 (P0 oq He.out.size) H3,Qs.box1 (HQ.out.ext Hd) H3,HT.out,zae (xT He.out Hd) (P8 _) _ _ _ _ _,HZ.out,Hm.out⟩
 ·clear He H2 HQ HC HZ Hm HT g0 g1 g2 g3 g4 Hb W0
  rintro a w1 ⟨q1,C1,c1,A1,k1,B1,e1,d1,n1,u0,u8,u9,KN,KO,KP,KQ,KR,KT,KU,KV,KW,KX,KY,KZ,J0,J1,J2,J3,J4,J5,J6,J7,J8,J9,Ja,HI,rfl⟩
  cases q1 with
  | nil =>
   cases sync with
   | false =>
    obtain ⟨g0,g1,g2,g3,g4⟩:=zaa HI.out.bx;obtain ⟨f0,f1,f2,f3,f4⟩:=zam HI.out.bx
    gi_wp2
    refine za5 ?_
    have ht:=HI.out.t;subst ht
    refine bodyPost_ret (zi4 _ _ _ _ (G I 0) rfl rfl (zal HI.out.bx _ _ _ _ _) rfl) rfl ?_
    exact ⟨_,rfl,⟨_,_,_,_,rfl,P2 HI.out.f HI.out.bx,P1 HI.out.q HI.out.bx⟩,zae HI.out.x (P8 _) _ _ _ _ _⟩
   | true =>
    obtain ⟨g0,g1,g2,g3,g4⟩:=zaa HI.out.bx
    gi_wp2_with (refine ⟨trivial,?_⟩;gi_at_call 109;refine (callsIn_wd.2 (zse _ d1 n1 _ (show DkV w1 _ d1 from ⟨_,_,rfl,HI.out.f.fs,HI.out.q.qs⟩) (by have:=HI.out.le;omega) HI.out.sz)).mono ?_;rintro e w2 ⟨u,rfl,⟨A5,k5,B5,e5,rfl,of,oq⟩,H4⟩;have H3:=HI.out.bx.ext H4;obtain ⟨d0,Jn,d2,d3,d4⟩:=zaa H3;obtain ⟨f0,f1,f2,f3,f4⟩:=zam H3)
    refine za5 ?_
    have ht:=HI.out.t;subst ht
    refine bodyPost_ret (zi4 _ _ _ _ (G I d1.syncS.2) rfl rfl (zal H3 _ _ _ _ _) rfl) rfl ?_
    exact ⟨_,rfl,⟨_,_,_,_,rfl,P2 (P0 of HI.out.x.size) H3,P1 (P0 oq HI.out.x.size) H3⟩,zae (xT HI.out.x H4) (P8 _) _ _ _ _ _⟩
  | cons o q1 =>
   obtain ⟨_,b,Hf,rfl,hc⟩:=HI.out.qs.at_ (by simp);obtain ⟨k0,k2,k3,D,dd,k4,Kj⟩:=hc 0 (by simp);simp only[List.getElem_cons_zero,Nat.zero_mul,Nat.add_zero] at k0 k2 k3 k4 Kj;have Kn:=J Kj;obtain ⟨_,_,e,Jo,Jp⟩:=Qs.open_ HI.out.qs
   cases e
   clear hc Kj;obtain ⟨ok,on,ot,ob⟩:=o
   dsimp only at *
   simp only[xC] at *
   gi_wp2
   refine zcW (S:=fun W=>W.cell? ⟨b,Hf,U⟩=M (G X ok)∧W.cell? ⟨b,Hf+1,U⟩=M (V ⟨on.toArray⟩)∧W.cell? ⟨b,Hf+2,U⟩=M (V ⟨ot.toArray⟩)∧W.cell? ⟨b,Hf+3,U⟩=M (F D ob.length dd)) (by kernel_rfl) ⟨k0,k2,k3,k4⟩ (fun _=>?_)
   refine tkN 1 ?_;refine tkN 2 ?_;refine tkN 3 ?_;obtain ⟨g0,g1,g2,g3,g4⟩:=zaa (HI.out.bx.ext (xD (xR _)))
   refine ar1 0 (fun K hK=>?_)
   go_simp
   refine shK hK _ _ ⟨k0,k2,k3,k4⟩ (fun _=>?_)
   refine ar1 4 (fun K hK=>?_)
   go_simp
   have Hi:b≠w.heap.size+1:=by
    rintro rfl
    exact zay _ _ (zfp HI.out.bx k0)
   have KC:ob.length≤1000000:=by have:=HI.out.le;rw[zcm] at this;dsimp only at this;omega
   obtain ⟨⟨d2,E⟩,hR⟩:∃ R,d1.doS ⟨ok,on,ot,ob⟩=R:=⟨_,rfl⟩
   have HY:Sz (n1+1+ob.length) d2:=by have:=Sz.doS HI.out.sz ⟨ok,on,ot,ob⟩;rw[hR] at this;exact this
   have hC:=zuo _ d1 n1 ⟨ok,on,ot,ob⟩ _ w1.drew (show DkV w1.drew (Z #[F A1 d1.fs.length k1,F B1 d1.q.length e1,G I d1.quota,G I d1.fuse,N d1.dead]) d1 from ⟨_,_,rfl,Fs.ext HI.out.f.fs (xD (xR _)),Qs.ext HI.out.q.qs (xD (xR _))⟩) (by have:=HI.out.le;omega) HI.out.sz (Bs.ext Kn.out (xD (xR _))) KC
   rw[hR] at hC
   refine hC.mono ?_
   rintro e w2 ⟨u,rfl,⟨A5,k5,B5,e5,rfl,of,oq⟩,HE⟩
   have H4:Ext w1 w2:=xT (xD (xR _)) HE
   have ht:=HI.out.t;rw[zbT,hR] at ht;have HT:=J ht;have HR:=J hR;have Hc:=J HY;have Hp:=J (HI.out.bx.ext H4);have Ka:=J (P2 (A':=A5) (n':=d2.fs.length) (c':=k5) (B':=B5) (m':=d2.q.length) (e':=e5) (q':=d2.quota) (f':=d2.fuse) (d':=d2.dead) (P0 of (P9 HI.out.x.size (by simp))) Hp.out);have Kc:=J (P1 (A':=A5) (n':=d2.fs.length) (c':=k5) (B':=B5) (m':=d2.q.length) (e':=e5) (q':=d2.quota) (f':=d2.fuse) (d':=d2.dead) (P0 oq (P9 HI.out.x.size (by simp))) Hp.out);have Kd:=J (Qs.box1 (A':=A5) (n':=d2.fs.length) (c':=k5) (B':=B5) (m':=d2.q.length) (e':=e5) (q':=d2.quota) (f':=d2.fuse) (d':=d2.dead) (HI.out.qs.ext H4) Hp.out);have HX:=J (zae (xT HI.out.x H4) (P8 w.heap.size) (F A5 d2.fs.length k5) (F B5 d2.q.length e5) (G I d2.quota) (G I d2.fuse) (N d2.dead))
   have Hq:=J (show Blk (zaR w2 (w.heap.size+1) (F A5 d2.fs.length k5) (F B5 d2.q.length e5) (G I d2.quota) (G I d2.fuse) (N d2.dead)) (w.heap.size+1) 25 (zan A5 d2.fs.length k5 B5 d2.q.length e5 d2.quota d2.fuse d2.dead) from zal Hp.out _ _ _ _ _)
   have Hm:=J (show n1+1+ob.length+q1.length+zaW q1≤1000000 by have:=HI.out.le;rw[zcm] at this;dsimp only[List.length_cons] at this;omega)
   have e0:=H4.cell k0;have e2:=H4.cell k2;have e3:=H4.cell k3;have e4:=H4.cell k4;clear g0 g1 g2 g3 g4 k0 k2 k3 k4 hC of oq H4 HE HI Kn hR HY KC ht
   refine shK hK _ _ ⟨e0,e2,e3,e4⟩ (fun _=>?_)
   refine tkN 5 ?_;refine tkN 6 ?_;refine tkN 7 ?_;obtain ⟨g0,g1,g2,g3,g4⟩:=zaa Hp.out;obtain ⟨f0,f1,f2,f3,f4⟩:=zam Hp.out
   refine ar1 8 (fun K hK=>?_)
   go_simp
   refine shK hK _ _ ⟨zgS e0 Hi,zgS e2 Hi,zgS e3 Hi,zgS e4 Hi⟩ (fun _=>?_)
   refine tkN 9 ?_;refine wdD ?_
   refine ze4 ?_
   clear g0 g1 g2 g3 g4 f0 f1 f2 f3 f4 e0 e2 e3 e4;obtain ⟨W3,K3⟩:∃ W3,zaR w2 (w.heap.size+1) (F A5 d2.fs.length k5) (F B5 d2.q.length e5) (G I d2.quota) (G I d2.fuse) (N d2.dead)=W3:=⟨_,rfl⟩;rw[K3] at Ka Kc Kd HX Hq
   delta zaR at K3
   rw[K3];clear K3 Hp
   have Jq:q1.length≤1000000:=by have:=Hm.out;omega
   by_cases hE:E=0
   ·subst hE
    have Ke:=J (show zbT sync d2 q1=T from by have:=HT.out;rwa [if_pos rfl] at this)
    clear HT HR
    gi_wp2
    all_goals
     refine wpIn_goto ?_
     try simp only[Exit.then]
     refine zar (by simp) ⟨⟨q1,_,_,A5,k5,B5,e5,d2,n1+1+ob.length,_,_,_,_,_,_,_,_,_,_,_,_,_,_,_,_,_,_,_,_,_,_,_,_,_,_,J ?_,rfl⟩,by simp[lenOf]⟩
     refine ⟨Hq.out,Ka.out,Kc.out,?_,Ke.out,HX.out,Hc.out,Hm.out⟩
     first
      | exact Qs.tail Kd.out _ (fun _=>rfl)
      | (have h9:=Qs.tail Kd.out (M ⟨b,Hf,U⟩) (fun h=>by omega);rwa [show c1-1=0 from by omega] at h9)
   ·have H4:(E==0)=false:=by simpa using hE
    have Ke:=J (show (d2,E)=T from by have:=HT.out;rwa [if_neg hE] at this)
    clear HT HR hE;obtain ⟨g0,g1,g2,g3,g4⟩:=zaa Hq.out;obtain ⟨f0,f1,f2,f3,f4⟩:=zam Hq.out
    gi_wp2
    all_goals
     refine za5 ?_
     have ht:=Ke.out;subst ht
     refine bodyPost_ret (zi4 _ _ _ _ (G I E) rfl rfl (zal Hq.out _ _ _ _ _) rfl) rfl ?_
     exact ⟨_,rfl,⟨_,_,_,_,rfl,P2 Ka.out Hq.out,P1 Kc.out Hq.out⟩,zae HX.out (P8 _) _ _ _ _ _⟩
theorem ziu (W:World) (cs:List Value) (t:TypeId) (sz m:Nat) (hs:cs.length=m*sz) (hm:m≤1000) {n:Nat} (hn:W.heap.size=n):SlR (W.alloc (L cs.toArray t)) sz (F (M ⟨n,0,U⟩) m m) m cs:=by
 subst hn
 refine ⟨hs,_,_,rfl,xN _,by unfold maxLen;omega,fun _=>⟨_,0,rfl,fun j u hu=>?_⟩⟩
 have:=(P6 W t cs.toArray).cell (0+j) (by simpa using hu)
 exact this
theorem zow (tmps:Array Value) (W:World) (b:Nat) (cs:Array Value) (e:Value) (h4:tmps.getD 6 undef=Y (M ⟨b,0,U⟩)) (h3:tmps.getD 7 undef=e) (hb:Blk W b 25 cs) (hs:cs.size=5):(results Tryz.f17 tmps).run O W=.ok (.tuple #[.agg cs,e]) W:=by
 have HD:tmps[6]?.getD undef=Y (M ⟨b,0,U⟩):=by simpa using h4
 have HA:tmps[7]?.getD undef=e:=by simpa using h3
 have hl:=hb.load (P:=O) zc3 rfl (by rw[hs];kernel_rfl)
 simp[results,Tryz.results17,HD,HA,asAddr,hl,Pb,Pa,P5]
def zbG (d:Dk) (nm:Option (List UInt8)) (b:List UInt8):Dk×Int:=match nm with | none=>(d,2) | some n=>putS d n b
theorem zlR (v:Value) (d:Dk) (n:Nat) (k s f:Int) (vb:Value) (b:List UInt8) (w:World) (hS:StW w) (hD:DkV w v d) (hs:Sz n d) (hB:Bs w vb b) (HP:n+2+b.length≤1000000) :
  Calls O 17 #[v,Z #[G X k,G I s,G I f],vb] w fun e w'=>∃ u,e=.returned (.tuple #[u,G I (zbG d (zaw k s f) b).2])∧OwnD w' w.heap.size u (zbG d (zaw k s f) b).1∧Ext w w':=by
 obtain ⟨vf,vq,rfl,hF,hQ⟩:=hD;obtain ⟨A,c,rfl,_,_⟩:=Fs.open_ hF;obtain ⟨B,e2,rfl,_,_⟩:=Qs.open_ hQ;obtain ⟨C,c2,rfl,_,_⟩:=xO hB;obtain ⟨W0,Hb⟩:∃ W0,((w.alloc (L #[F A d.fs.length c,F B d.q.length e2,G I d.quota,G I d.fuse,N d.dead] 25)).alloc (L #[G X k,G I s,G I f] 32)).alloc (L #[F none 0 0,F none 0 0,G I 0,G I 0,N false] 25)=W0:=⟨_,rfl⟩
 have Ha:Ext w W0:=by rw[←Hb];exact xA (xA (xA (xR _) _) _) _
 have h0:Blk W0 w.heap.size 25 (zan A d.fs.length c B d.q.length e2 d.quota d.fuse d.dead):=by rw[←Hb];exact ((P6 w _ _).alloc _).alloc _
 have h1:Blk W0 (w.heap.size+1) 32 #[G X k,G I s,G I f]:=by
  rw[←Hb]
  have:=(P6 (w.alloc (L #[F A d.fs.length c,F B d.q.length e2,G I d.quota,G I d.fuse,N d.dead] 25)) 32 #[G X k,G I s,G I f]).alloc (L #[F none 0 0,F none 0 0,G I 0,G I 0,N false] 25)
  rwa [xS] at this
 have h2:Blk W0 (w.heap.size+1+1) 25 (zan none 0 0 none 0 0 0 0 false):=by
  rw[←Hb]
  have:=P6 ((w.alloc (L #[F A d.fs.length c,F B d.q.length e2,G I d.quota,G I d.fuse,N d.dead] 25)).alloc (L #[G X k,G I s,G I f] 32)) 25 #[F none 0 0,F none 0 0,G I 0,G I 0,N false]
  rwa [xS,xS] at this
 have He:=J Ha;have H0:=J h0;have H2:=J h2;have HB:=J (hB.ext Ha);have HF:=J (hF.ext Ha);have HQ:=J (hQ.ext Ha);have HN:=J (zel k s f W0 (hS.ext Ha));obtain ⟨g0,g1,g2,g3,g4⟩:=zaa h0;have i0:=h1.cell 0 rfl;have i1:=h1.cell 1 rfl;have i2:=h1.cell 2 rfl;have HZ:=J hs;have Hm:=J HP;clear h0 h1 h2 hF hQ hB Ha hs hS HP;obtain ⟨S,hS⟩:∃ S,zbG d (zaw k s f) b=S:=⟨_,rfl⟩;rw[hS];have HS:=J hS;clear hS
 go_enter Tryz.func17,Tryz.ntmps17
 go_wp2_with fail
 refine HN.out.mono ?_
 rintro e w1 ⟨rfl,Hd⟩;clear i0 i1 i2 g0 g1 g2 g3 g4 HN Hb;obtain ⟨g0,g1,g2,g3,g4⟩:=zaa (H0.out.ext Hd);have Hg:=J Hd;clear Hd
 cases hn:zaw k s f with
 | none =>
  have Hc:=HS.out;rw[hn] at Hc;subst Hc;simp only[Option.getD_none,Option.isSome_none,Bool.false_eq_true,if_false,sv];clear HS hn;go_wp2_with fail;clear g0 g1 g2 g3 g4
  refine (zfm _ d n w1 (show DkV w1 _ d from ⟨_,_,rfl,HF.out.ext Hg.out,HQ.out.ext Hg.out⟩) (by have:=Hm.out;omega) HZ.out).mono ?_
  rintro e w2 ⟨u,rfl,⟨A3,c3,B3,e3,rfl,of,oq⟩,H4⟩;have H3:=H2.out.ext (xT Hg.out H4);have hX:=xT He.out (xT Hg.out H4);have Hh:=xT He.out Hg.out;obtain ⟨f0,f1,f2,f3,f4⟩:=zam H3;obtain ⟨d0,d1,d2,d3,d4⟩:=zaa H3;have Q1:=J H3;have Q2:=J of;have Q3:=J oq;have Q4:=J hX;have Q5:=J Hh.size;clear H3 of oq hX Hh H4;go_wp2_with fail
  refine bodyPost_ret (zow _ _ _ _ (G I 2) rfl rfl (zal Q1.out _ _ _ _ _) rfl) rfl ?_
  exact ⟨_,rfl,⟨_,_,_,_,rfl,P2 (P0 Q2.out.f Q5.out) Q1.out,P1 (P0 Q3.out Q5.out) Q1.out⟩,zae Q4.out (by omega) _ _ _ _ _⟩
 | some nm =>
  have Hc:=HS.out;rw[hn] at Hc;simp only[zbG,putS] at Hc;simp only[Option.getD_some,Option.isSome_some,if_true,sv];have HS:=J Hc;clear Hc hn;go_wp2_with fail;clear g0 g1 g2 g3 g4
  have Hh:Ext w1 (w1.alloc (L #[G X 1,sv nm,sv [],F none 0 0,G X 2,sv nm,sv [],F C b.length c2] 98)):=xA (xR _) _
  have KI:Qs (w1.alloc (L #[G X 1,sv nm,sv [],F none 0 0,G X 2,sv nm,sv [],F C b.length c2] 98)) (F (M ⟨w1.heap.size,0,U⟩) 2 2) [zca nm,zcn nm b] :=
   ⟨[G X 1,sv nm,sv [],F none 0 0,G X 2,sv nm,sv [],F C b.length c2],ziu w1 _ 98 4 2 rfl (by omega) rfl,
     RowOf.append (xs:=[G X 1,sv nm,sv [],F none 0 0]) (zdO (o:=zca nm) (SlR.nil _ 1)) (zdO (o:=zcn nm b) (Bs.ext (HB.out.ext Hg.out) Hh))⟩
  have hC:=zhC _ d n true _ [zca nm,zcn nm b] _ (show DkV (w1.alloc (L #[G X 1,sv nm,sv [],F none 0 0,G X 2,sv nm,sv [],F C b.length c2] 98)) (Z #[F A d.fs.length c,F B d.q.length e2,G I d.quota,G I d.fuse,N d.dead]) d from ⟨_,_,rfl,(HF.out.ext Hg.out).ext Hh,(HQ.out.ext Hg.out).ext Hh⟩) HZ.out KI (by have:=Hm.out;simp[zaW,zca,zcn];omega)
  rw[HS.out] at hC
  refine hC.mono ?_
  rintro e w2 ⟨u,rfl,⟨A3,c3,B3,e3,rfl,of,oq⟩,H4⟩;have hY:=xT Hg.out (xT Hh H4);have H3:=H2.out.ext hY;have hX:=xT He.out hY;have Kt:=xT He.out (xT Hg.out Hh);obtain ⟨f0,f1,f2,f3,f4⟩:=zam H3;obtain ⟨d0,d1,d2,d3,d4⟩:=zaa H3;have Q1:=J H3;have Q2:=J of;have Q3:=J oq;have Q4:=J hX;have Q5:=J Kt.size;clear H3 of oq hX Hh Kt H4 KI hC hY;go_wp2_with fail
  refine bodyPost_ret (zow _ _ _ _ (G I S.2) rfl rfl (zal Q1.out _ _ _ _ _) rfl) rfl ?_
  exact ⟨_,rfl,⟨_,_,_,_,rfl,P2 (P0 Q2.out Q5.out) Q1.out,P1 (P0 Q3.out Q5.out) Q1.out⟩,zae Q4.out (by omega) _ _ _ _ _⟩
end Go.Proofs.YteggfecbjgbndaaGreatDoor
