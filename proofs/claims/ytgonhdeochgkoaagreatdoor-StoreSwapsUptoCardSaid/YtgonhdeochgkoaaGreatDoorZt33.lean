/- Merged: DDo Sdoes -/
import Derived.Test.YtgonhdeochgkoaaGreatDoorZt27
set_option linter.all false
set_option maxHeartbeats 8000000
set_option maxRecDepth 100000
namespace Go.Proofs.YtgonhdeochgkoaaGreatDoor
open Go.RowKit Go.Mv Go.Shelf
theorem mcDDoa0 {P:Prop} (h:P:=by
 refine zai (i:=19) (v:=?_) rfl (by kernel_rfl) (by kernel_rfl) (by kernel_rfl) (fun _ _ _ h=>h) (by rfl) (by assumption) (fun w hw=>?_) ?_
 rotate_left
 ·(try dsimp only at hw);go_simp;try with_reducible rfl
 try simp only[Act.put,sA,sZ,sS]
 refine zai (i:=20) (v:=?_) rfl (by kernel_rfl) (by kernel_rfl) (by kernel_rfl) (fun _ _ _ h=>h) (by rfl) (by assumption) (fun w hw=>?_) ?_
 rotate_left
 ·(try dsimp only at hw);go_simp;try with_reducible rfl
 try simp only[Act.put,sA,sZ,sS]
 refine wpAnyH_done (by kernel_rfl) ?_ _;clear k0 k1 k2 k3 g0 g1 g2 g3 g4;obtain ⟨g0,g1,g2,g3,g4⟩:=zac H.out.b0;obtain ⟨f0,f1,f2,f3,f4⟩:=zby H.out.b2;obtain ⟨d0,d1,d2,d3,d4⟩:=zac H.out.b2;go_wp2_with fail
 refine bodyPost_ret (zf2 _ _ _ _ (.int .i64 41) rfl rfl (zaS H.out.b2 _ _ _ _ _) rfl) rfl ?_
 exact ⟨_,rfl,⟨_,_,_,_,rfl,OwnF.box1 H.out.f.f H.out.b2,OwnQ.box1 (OwnX.base H.out.q (by omega)) H.out.b2⟩,zaL H.out.e (by omega) _ _ _ _ _⟩):P:=h
theorem znU {α:Type} {sz:Nat} {E:World→(Nat→Option Value)→α→Prop} (hE:zdO sz E) {o:Oper} {a:Act} {w:World} {K:Act→World→Prop} {Q:Exit→Act→World→Prop} (s x:Operand) (T:TypeId)
  (ho:o.op=.call { callee:=.builtin .append,args:=#[s,x],argTypes:=#[T,T] }) (t:TypeId) (i0:TypeInfo) (z:Value) (bytes:Nat) (hT:Tryz.prog.underlying T=some (.slice t)) (hi:Tryz.prog.info? t=some i0) (hz0:i0.zero=some z) (hz1:i0.size=sz) (hz2:i0.bytes=bytes) (hzs:z.cells.size=sz) (hsz:0<sz) (hby:bytes≤1000)
  (base:Nat) (v:Value) (l:List α) (hs:a.eval s=v) (hown:OwnX sz E t w base v l) (vx:Value) (m:List α) (ys:List Value) (hx:a.eval x=vx) (hr:SlR w sz vx m.length ys) (hry:RowOf sz E w ys m) (hc0:0<m.length)
  (hay:∀ g,v.ownBlock=some g→∀ u∈ys,zbx g u) (hlen:l.length+m.length≤4000000) (hbase:base≤w.heap.size)
  (h:∀ A c w',OwnX sz E t w' base (.slice A (l.length+m.length) c) (l++m)→ze7 base w w'→w.grownBy w' v.ownBlock→K (a.put o.dst (.slice A (l.length+m.length) c)) w'):Oper.wp Tryz.prog o a w K Q:=by
 obtain ⟨xs,h1,h2,h3⟩:=hown
 have hbb:(l.length+m.length)*bytes≤140737488355328:=Nat.le_trans (Nat.mul_le_mul hlen hby) (by decide)
 obtain ⟨v',w',hrun,g1,g2⟩:=za4 (P:=Tryz.prog) w base T o.type t i0 _ sz bytes hT hi hz0 hz1 hz2 hzs hsz v l.length xs h1 vx m.length ys hr (hry.one hE) (by unfold maxLen;omega) hbb hbase
 have hblk:v'.ownBlock=v.ownBlock∨v'.ownBlock=some w.heap.size:=by
  obtain ⟨hl,A,c,rfl,_,_,hc⟩:=hr;obtain ⟨b,off,rfl,hcell⟩:=hc hc0
  have hadd:∀ j,(⟨b,off,none⟩:Addr).add j=⟨b,off+j,none⟩:=by intro j;unfold Addr.add;split <;> simp_all
  exact zdA (P:=Tryz.prog) w base T o.type t i0 _ sz bytes hT hi hz0 hz1 hz2 v l.length xs h1 ⟨b,off,none⟩ m.length c ys hl hc0 (fun j u hu=>by rw[hadd];exact hcell j u hu) (hry.one hE) (by unfold maxLen;omega) hbb hrun
 have hkeep:∀ {zs:List Value} {k:List α},RowOf sz E w zs k→(∀ g,v.ownBlock=some g→∀ u∈zs,zbx g u)→RowOf sz E w' zs k:=by
  intro zs k hzk haz
  cases hg:v.ownBlock with
  | none =>
   refine hzk.keep hE (hzk.fresh hE) fun p y hc _=>?_
   exact (World.cell?_of_block (g2.block _ (World.block_lt_of_cell? _ _ hc) (by rw[hg];simp))).trans hc
  | some g =>
   refine hzk.keep hE (haz g hg) fun p y hc hne=>?_
   exact (World.cell?_of_block (g2.block _ (World.block_lt_of_cell? _ _ hc) (by rw[hg];simpa using hne))).trans hc
 unfold Oper.wp execOp;simp only[ho,resolve,invoke,builtin,Sem.run_bind,Sem.run_pure,Result.andThen_ok,List.map_toArray,List.map_cons,List.map_nil,hs,hx,hrun];obtain ⟨A,c,rfl,_,_⟩:=SlR.open_ (SlR.of_own g1)
 refine h A c w' ⟨xs++ys,?_,(hkeep h2 h3).append (hkeep hry hay),fun g hg u hu=>?_⟩ (fun W0 hX hb=>Ext.grownOwn hX (zaj h1 hb) g2) g2
 ·rw[List.length_append]
  exact g1
 ·rcases hblk with hb | hb
  ·rw[hb] at hg
   rcases List.mem_append.1 hu with hu | hu
   ·exact h3 g hg u hu
   ·exact hay g hg u hu
  ·rw[hb] at hg
   cases hg
   rcases List.mem_append.1 hu with hu | hu
   ·exact h2.fresh hE u hu
   ·exact hry.fresh hE u hu
theorem zf2 (tmps:Array Value) (W:World) (b:Nat) (cs:Array Value) (e:Value) (h4:tmps.getD 4 undef=.pointer (some ⟨b,0,none⟩)) (h3:tmps.getD 5 undef=e) (hb:Blk W b 25 cs) (hs:cs.size=5):(results Tryz.f92 tmps).run Tryz.prog W=.ok (.tuple #[.agg cs,e]) W:=by
 have h4':tmps[4]?.getD undef=.pointer (some ⟨b,0,none⟩):=by simpa using h4
 have h3':tmps[5]?.getD undef=e:=by simpa using h3
 have hl:=hb.load (P:=Tryz.prog) ziq rfl (by rw[hs];kernel_rfl)
 simp[results,Tryz.results92,h4',h3',asAddr,hl,Sem.run_bind,Sem.run_pure,Result.andThen_ok]
theorem ztC (d:Dk) (n:List UInt8):zae n (zbF d.fs d.q)=zae n d.now:=((zfy d.fs d.q).g n).symm
theorem zrt {d:Dk} {o:Oq} {m:Int} (h:d.may=m) (hm:m≠0):d.doS o=(d,m):=by
 subst h;unfold Dk.doS;rw[if_pos hm]
theorem zgP {W:World} {b j:Nat} {t:TypeId} {cs:Array Value} {u x:Value} {bs:List UInt8} (h:Bs W u bs) (hB:Blk W b t cs) (hno:∀ (k:Nat) (n:Int),cs[k]?≠some (.int .u8 n)):Bs (W.setCell ⟨b,j,none⟩ x) u bs :=
 Bs.away h (Bs.awayBlk h hB hno) fun _ _ hc hne=>zcl hc hne
theorem zuF {W:World} {b:Nat} {A A':Option Addr} {n c n' c':Nat} {B B':Option Addr} {m e m' e':Nat} {q f q' f':Int} {d d':Bool} {u:Value} {bs:List UInt8} (h:Bs W u bs) (hB:Blk W b 25 (zaE A n c B m e q f d)) :
  Bs (zeF W b (.slice A' n' c') (.slice B' m' e') (.int .i64 q') (.int .i64 f') (.bool d')) u bs:=by
 have b0:Blk _ b 25 (zaE A' n' c' B m e q f d):=hB.set 0 (.slice A' n' c')
 have b1:Blk _ b 25 (zaE A' n' c' B' m' e' q f d):=b0.set 1 (.slice B' m' e')
 have b2:Blk _ b 25 (zaE A' n' c' B' m' e' q' f d):=b1.set 2 (.int .i64 q')
 have b3:Blk _ b 25 (zaE A' n' c' B' m' e' q' f' d):=b2.set 3 (.int .i64 f')
 exact zgP (zgP (zgP (zgP (zgP h hB zaG) b0 zaG) b1 zaG) b2 zaG) b3 zaG
theorem OwnFA.grown {W W':World} {base:Nat} {v:Value} {l:List Fil} {row:Option Nat} (h:OwnFA W base v l (fun g=>row=some g)) (hg:W.grownBy W' row) (hne:v.ownBlock=none∨v.ownBlock≠row):OwnF W' base v l:=by
 obtain ⟨xs,h1,h2,h3,h4⟩:=h
 refine ⟨xs,h1.kept hg hne,?_,h3⟩
 cases row with
 | none=>exact h2.keep zbP (h2.fresh zbP) fun p x hc _=>(World.cell?_of_block (hg.block _ (World.block_lt_of_cell? _ _ hc) (by simp))).trans hc
 | some g=>exact h2.keep zbP (h4 g rfl) fun p x hc hne=>(World.cell?_of_block (hg.block _ (World.block_lt_of_cell? _ _ hc) (by simpa using hne))).trans hc
structure DoB (w W:World) (A:Option Addr) (c:Nat) (B:Option Addr) (e:Nat) (d:Dk) (vo:Value) (o:Oq):Prop where
 b0:Blk W w.heap.size 25 (zaE A d.fs.length c B d.q.length e d.quota d.fuse d.dead)
 b1:Blk W (w.heap.size+1) 86 #[.int .u8 o.k,.string ⟨o.n.toArray⟩,.string ⟨o.t.toArray⟩,vo]
 b2:Blk W (w.heap.size+1+1) 25 (zaE none 0 0 none 0 0 0 0 false)
 f:OwnFA W w.heap.size (.slice A d.fs.length c) d.fs (fun g=>(Value.slice B d.q.length e).ownBlock=some g)
 q:OwnQ W (w.heap.size+3) (.slice B d.q.length e) d.q
 b:Bs W vo o.b
 e:Ext w W
theorem DoB.ext {w W W':World} {A:Option Addr} {c:Nat} {B:Option Addr} {e:Nat} {d:Dk} {vo:Value} {o:Oq} (h:DoB w W A c B e d vo o) (hX:Ext W W'):DoB w W' A c B e d vo o :=
 ⟨h.b0.ext hX,h.b1.ext hX,h.b2.ext hX,h.f.ext hX,OwnX.ext zcS h.q hX,h.b.ext hX,Ext.trans h.e hX⟩
theorem zvv (v:Value) (d:Dk) (n:Nat) (o:Oq) (vo:Value) (w:World) (hD:DkV w v d) (hn:n≤1000000) (hs:Sz n d) (hB:Bs w vo o.b) (hol:o.b.length≤1000000) :
  Calls Tryz.prog 92 #[v,.agg #[.int .u8 o.k,sv o.n,sv o.t,vo]] w fun e w'=>∃ u,e=.returned (.tuple #[u,.int .i64 (d.doS o).2])∧zjG w' w.heap.size u (d.doS o).1∧Ext w w':=by
 obtain ⟨vf,vq,rfl,hF,hQ⟩:=hD;obtain ⟨A,c,rfl,_,_⟩:=Fs.open_ hF;obtain ⟨B,e2,rfl,_,_⟩:=Qs.open_ hQ;obtain ⟨C,c2,rfl,_,_⟩:=SlR.open_ hB
 simp only[sv] at *
 obtain ⟨W0,hW0⟩:∃ W0,((w.alloc (.cells #[.slice A d.fs.length c,.slice B d.q.length e2,.int .i64 d.quota,.int .i64 d.fuse,.bool d.dead] 25)).alloc (.cells #[.int .u8 o.k,.string ⟨o.n.toArray⟩,.string ⟨o.t.toArray⟩,.slice C o.b.length c2] 86)).alloc (.cells #[.slice none 0 0,.slice none 0 0,.int .i64 0,.int .i64 0,.bool false] 25)=W0:=⟨_,rfl⟩
 have hE0:Ext w W0:=by rw[←hW0];exact Ext.alloc (Ext.alloc (Ext.alloc (Ext.refl _) _) _) _
 have h0:Blk W0 w.heap.size 25 (zaE A d.fs.length c B d.q.length e2 d.quota d.fuse d.dead):=by rw[←hW0];exact ((Blk.new w _ _).alloc _).alloc _
 have h1:Blk W0 (w.heap.size+1) 86 #[.int .u8 o.k,.string ⟨o.n.toArray⟩,.string ⟨o.t.toArray⟩,.slice C o.b.length c2]:=by
  rw[←hW0]
  have:=(Blk.new (w.alloc (.cells #[.slice A d.fs.length c,.slice B d.q.length e2,.int .i64 d.quota,.int .i64 d.fuse,.bool d.dead] 25)) 86 #[.int .u8 o.k,.string ⟨o.n.toArray⟩,.string ⟨o.t.toArray⟩,.slice C o.b.length c2]).alloc (.cells #[.slice none 0 0,.slice none 0 0,.int .i64 0,.int .i64 0,.bool false] 25)
  rwa [World.size_alloc] at this
 have h2:Blk W0 (w.heap.size+1+1) 25 (zaE none 0 0 none 0 0 0 0 false):=by
  rw[←hW0]
  have:=Blk.new ((w.alloc (.cells #[.slice A d.fs.length c,.slice B d.q.length e2,.int .i64 d.quota,.int .i64 d.fuse,.bool d.dead] 25)).alloc (.cells #[.int .u8 o.k,.string ⟨o.n.toArray⟩,.string ⟨o.t.toArray⟩,.slice C o.b.length c2] 86)) 25 #[.slice none 0 0,.slice none 0 0,.int .i64 0,.int .i64 0,.bool false]
  rwa [World.size_alloc,World.size_alloc] at this
 have HE0:=zhd hE0;have H0:=zhd h0;have H1:=zhd h1;have H2:=zhd h2;have HB:=zhd (hB.ext hE0)
 have HC:=zhd (zie _ d n _ (show DkV W0 _ d from ⟨_,_,rfl,hF.ext hE0,hQ.ext hE0⟩) hn hs)
 clear h1 h2 hF hQ hB hE0;obtain ⟨g0,g1,g2,g3,g4⟩:=zac h0;clear h0;have HZ:=zhd hs;obtain ⟨S,hS⟩:∃ S,d.doS o=S:=⟨_,rfl⟩;rw[hS];have HS:=zhd hS;have HOL:=zhd hol;clear hs hS hol
 go_enter Tryz.func92,Tryz.ntmps92
 go_wp2_with fail;clear g0 g1 g2 g3 g4
 refine HC.out.mono ?_
 rintro e w1 ⟨u,rfl,⟨A3,c3,B3,e3,rfl,of,oq⟩,hE1⟩;have hb0:=H0.out.ext hE1;obtain ⟨g0,g1,g2,g3,g4⟩:=zac hb0;obtain ⟨f0,f1,f2,f3,f4⟩:=zby hb0
 have hne:w.heap.size+1≠w.heap.size:=by omega
 have hne2:w.heap.size+1+1≠w.heap.size:=by omega
 have hD1:DoB w (zeF w1 w.heap.size (.slice A3 d.fs.length c3) (.slice B3 d.q.length e3) (.int .i64 d.quota) (.int .i64 d.fuse) (.bool d.dead)) A3 c3 B3 e3 d (.slice C o.b.length c2) o :=
  ⟨zaS hb0 _ _ _ _ _,(((((H1.out.ext hE1).other hne 0 _).other hne 1 _).other hne 2 _).other hne 3 _).other hne 4 _,(((((H2.out.ext hE1).other hne2 0 _).other hne2 1 _).other hne2 2 _).other hne2 3 _).other hne2 4 _,
    OwnFA.box1 (of.base HE0.out.size) hb0,OwnQ.box1 (OwnX.base oq (by rw[←hW0];simp only[World.size_alloc];omega)) hb0,zuF (HB.out.ext hE1) hb0,zaL (Ext.trans HE0.out hE1) (Nat.le_refl _) _ _ _ _ _⟩
 have H:=zhd hD1;clear hb0 hne hne2 hD1 of oq hE1 HC HE0 H0 H1 H2 HB;go_wp2_with fail;clear f0 f1 f2 f3 f4 g0 g1 g2 g3 g4
 refine (zrZ _ d n _ (show DkV _ _ d from ⟨_,_,rfl,H.out.f.f.fs,H.out.q.qs⟩) hn HZ.out).mono ?_
 rintro e w2 ⟨rfl,hE2⟩
 replace H:=zhd (H.out.ext hE2)
 clear hE2
 rcases zlL d with hm | hm | hm
 case inr.inl =>
  have e1:S=(d,2):=by rw[←HS.out];exact zrt hm (by decide)
  subst e1;rw[hm];clear HS;obtain ⟨g0,g1,g2,g3,g4⟩:=zac H.out.b0;obtain ⟨f0,f1,f2,f3,f4⟩:=zby H.out.b2;obtain ⟨d0,d1,d2,d3,d4⟩:=zac H.out.b2;go_wp2_with fail
  refine bodyPost_ret (zf2 _ _ _ _ (.int .i64 2) rfl rfl (zaS H.out.b2 _ _ _ _ _) rfl) rfl ?_
  exact ⟨_,rfl,⟨_,_,_,_,rfl,OwnF.box1 H.out.f.f H.out.b2,OwnQ.box1 (OwnX.base H.out.q (by omega)) H.out.b2⟩,zaL H.out.e (by omega) _ _ _ _ _⟩
 case inr.inr =>
  have e1:S=(d,40):=by rw[←HS.out];exact zrt hm (by decide)
  subst e1;rw[hm];clear HS;obtain ⟨g0,g1,g2,g3,g4⟩:=zac H.out.b0;obtain ⟨f0,f1,f2,f3,f4⟩:=zby H.out.b2;obtain ⟨d0,d1,d2,d3,d4⟩:=zac H.out.b2;go_wp2_with fail
  refine bodyPost_ret (zf2 _ _ _ _ (.int .i64 40) rfl rfl (zaS H.out.b2 _ _ _ _ _) rfl) rfl ?_
  exact ⟨_,rfl,⟨_,_,_,_,rfl,OwnF.box1 H.out.f.f H.out.b2,OwnQ.box1 (OwnX.base H.out.q (by omega)) H.out.b2⟩,zaL H.out.e (by omega) _ _ _ _ _⟩
 have HM:=zhd hm;rw[hm];clear hm;obtain ⟨g0,g1,g2,g3,g4⟩:=zac H.out.b0;go_wp2_with fail;clear g0 g1 g2 g3 g4
 refine (zjO _ d _ (show DkV _ _ d from ⟨_,_,rfl,H.out.f.f.fs,H.out.q.qs⟩) (by have:=HZ.out.l;omega) (by have:=HZ.out.l;omega) (by have:=HZ.out.t;omega)).mono ?_
 rintro e w3 ⟨r,rfl,hm3,_,hE3⟩
 replace H:=zhd (H.out.ext hE3)
 have HM3:=zhd hm3;clear hE3 hm3;obtain ⟨k0,k1,k2,k3⟩:=blk4 H.out.b1;obtain ⟨is,his⟩:∃ is,(zae o.n (zbF d.fs d.q)).isSome=is:=⟨_,rfl⟩;have HI:=zhd his;clear his
 go_wp2_with (at_lookup;refine zcW rfl (.tmp 21) (.tmp 23) true rfl Tryz.underlying160 Tryz.underlying9 (zg4 _) r (zbF d.fs d.q) rfl HM3.out o.n rfl ?_;rw[HI.out];intro A1 c1 hb1;simp only[if_true];clear hb1;obtain ⟨v1,hv1⟩:∃ v1,Value.slice A1 ((zae o.n (zbF d.fs d.q)).getD []).length c1=v1:=⟨_,rfl⟩;rw[hv1];clear hv1)
 refine (zlC o _ w3 H.out.b).mono ?_
 rintro e w4 ⟨rfl,hE4⟩;clear k0 k1 k2 k3
 replace H:=zhd (H.out.ext hE4)
 replace HM3:=zhd (HM3.out.ext hE4)
 clear hE4
 cases hfi:zbi o with
 | false =>
  have e1:S=(d,2):=by rw[←HS.out];unfold Dk.doS;rw[if_neg (by rw[HM.out];simp),if_pos hfi]
  subst e1;clear HS hfi;obtain ⟨g0,g1,g2,g3,g4⟩:=zac H.out.b0;obtain ⟨f0,f1,f2,f3,f4⟩:=zby H.out.b2;obtain ⟨d0,d1,d2,d3,d4⟩:=zac H.out.b2;go_wp2_with fail
  refine bodyPost_ret (zf2 _ _ _ _ (.int .i64 2) rfl rfl (zaS H.out.b2 _ _ _ _ _) rfl) rfl ?_
  exact ⟨_,rfl,⟨_,_,_,_,rfl,OwnF.box1 H.out.f.f H.out.b2,OwnQ.box1 (OwnX.base H.out.q (by omega)) H.out.b2⟩,zaL H.out.e (by omega) _ _ _ _ _⟩
 | true =>
 have HF:=zhd hfi;clear hfi;obtain ⟨k0,k1,k2,k3⟩:=blk4 H.out.b1
 have hgn:zae o.n (zbF d.fs d.q)=zae o.n d.now:=ztC d o.n
 by_cases hk1:o.k≠1∧is=false
 case pos =>
  obtain ⟨hk1,rfl⟩:=hk1
  have e1:S=(d,42):=by rw[←HS.out];unfold Dk.doS;rw[if_neg (by rw[HM.out];simp),if_neg (by rw[HF.out];simp),if_pos ⟨by rw[←hgn];simpa using HI.out,hk1⟩]
  subst e1
  have hk2:(o.k==1)=false:=by simpa using hk1
  have hk3:(o.k != 1)=true:=by simpa using hk1
  clear HS hk1 hgn;obtain ⟨g0,g1,g2,g3,g4⟩:=zac H.out.b0;obtain ⟨f0,f1,f2,f3,f4⟩:=zby H.out.b2;obtain ⟨d0,d1,d2,d3,d4⟩:=zac H.out.b2;go_wp2_with fail
  refine bodyPost_ret (zf2 _ _ _ _ (.int .i64 42) rfl rfl (zaS H.out.b2 _ _ _ _ _) rfl) rfl ?_
  exact ⟨_,rfl,⟨_,_,_,_,rfl,OwnF.box1 H.out.f.f H.out.b2,OwnQ.box1 (OwnX.base H.out.q (by omega)) H.out.b2⟩,zaL H.out.e (by omega) _ _ _ _ _⟩
 have HN:=zhd (show ¬ (zae o.n d.now=none∧o.k≠1) from fun h=>hk1 ⟨h.2,by rw[←HI.out,hgn,h.1];rfl⟩)
 have hcase:is=true∨is=false∧(o.k==1)=true∧(o.k != 1)=false:=by
  cases is with
  | true=>exact .inl rfl
  | false =>
   have:o.k=1:=Classical.not_not.1 fun h=>hk1 ⟨h,rfl⟩
   exact .inr ⟨rfl,by simp[this],by simp[this]⟩
 clear hk1 hgn
 have HS2:Hid (S=if (o.k=2∧d.quota<(tot (zbF d.fs d.q):Int)+(o.b.length:Int))∨d.q.length=400 then (d,41) else ({ d with q:=d.q++[o] }.burn,0)) :=
  zhd (by rw[←HS.out];unfold Dk.doS;rw[if_neg (by rw[HM.out];simp),if_neg (by rw[HF.out];simp),if_neg HN.out,show tot d.now=tot (zbF d.fs d.q) from zfY d.fs d.q])
 have htn:=zgd d.fs d.q
 have HT:=zhd (show tot (zbF d.fs d.q)≤2000000 by have:=HZ.out.t;omega)
 have hw:IntKind.i64.wrap ((tot (zbF d.fs d.q):Int)+(o.b.length:Int))=(tot (zbF d.fs d.q):Int)+(o.b.length:Int):=by have:=HT.out;have:=HOL.out;rw[IntKind.wrap_i64];omega
 clear HS HN HF HM HI htn;obtain ⟨g0,g1,g2,g3,g4⟩:=zac H.out.b0
 rcases hcase with rfl | ⟨rfl,hk2,hk3⟩
 all_goals
  go_wp2_with fail
  refine wp_region_held_drew (S:=fun W=>W.cell? ⟨w.heap.size+1,0,none⟩=some (.int .u8 o.k)∧W.cell? ⟨w.heap.size+1,3,none⟩=some (.slice C o.b.length c2)∧W.cell? ⟨w.heap.size,1,none⟩=some (.slice B3 d.q.length e3)∧W.cell? ⟨w.heap.size,2,none⟩=some (.int .i64 d.quota)) (by kernel_rfl) ⟨k0,k3,g1,g2⟩ (fun _=>?_)
  by_cases hk4:o.k=2
  case' neg =>
   have hk5:(o.k==2)=false:=by simpa using hk4
   refine zai (i:=0) (v:=?_) rfl (by kernel_rfl) (by kernel_rfl) (by kernel_rfl) (fun _ _ _ h=>h) (by rfl) (by assumption) (fun w hw=>?_) ?_
   rotate_left
   ·(try dsimp only at hw);go_simp;try with_reducible rfl
   try simp only[Act.put,sA,sZ,sS]
   refine zai (i:=1) (v:=?_) rfl (by kernel_rfl) (by kernel_rfl) (by kernel_rfl) (fun _ _ _ h=>h) (by rfl) (by assumption) (fun w hw=>?_) ?_
   rotate_left
   ·(try dsimp only at hw);go_simp;try with_reducible rfl
   try simp only[Act.put,sA,sZ,sS]
   refine zai (i:=2) (v:=?_) rfl (by kernel_rfl) (by kernel_rfl) (by kernel_rfl) (fun _ _ _ h=>h) (by rfl) (by assumption) (fun w hw=>?_) ?_
   rotate_left
   ·(try dsimp only at hw);go_simp;try with_reducible rfl
   try simp only[Act.put,sA,sZ,sS]
   refine zai (i:=3) (v:=?_) rfl (by kernel_rfl) (by kernel_rfl) (by kernel_rfl) (fun _ _ _ h=>h) (by rfl) (by assumption) (fun w hw=>?_) ?_
   rotate_left
   ·(try dsimp only at hw);go_simp;try with_reducible rfl
   try simp only[Act.put,sA,sZ,sS]
   refine tkS 4 rfl ?_;refine tkS 5 rfl ?_;refine tkS 6 rfl ?_;refine tkS 7 rfl ?_;refine tkS 8 rfl ?_;refine tkS 9 rfl ?_;refine tkS 10 rfl ?_;refine tkS 11 rfl ?_;refine tkS 12 rfl ?_
   refine zai (i:=13) (v:=?_) rfl (by kernel_rfl) (by kernel_rfl) (by kernel_rfl) (fun _ _ _ h=>h) (by rfl) (by assumption) (fun w hw=>?_) ?_
   rotate_left
   ·(try dsimp only at hw);go_simp;try with_reducible rfl
   try simp only[Act.put,sA,sZ,sS]
   refine zai (i:=14) (v:=?_) rfl (by kernel_rfl) (by kernel_rfl) (by kernel_rfl) (fun _ _ _ h=>h) (by rfl) (by assumption) (fun w hw=>?_) ?_
   rotate_left
   ·(try dsimp only at hw);go_simp;try with_reducible rfl
   try simp only[Act.put,sA,sZ,sS]
   refine zai (i:=15) (v:=?_) rfl (by kernel_rfl) (by kernel_rfl) (by kernel_rfl) (fun _ _ _ h=>h) (by rfl) (by assumption) (fun w hw=>?_) ?_
   rotate_left
   ·(try dsimp only at hw);go_simp;try with_reducible rfl
   try simp only[Act.put,sA,sZ,sS]
   refine zai (i:=16) (v:=?_) rfl (by kernel_rfl) (by kernel_rfl) (by kernel_rfl) (fun _ _ _ h=>h) (by rfl) (by assumption) (fun w hw=>?_) ?_
   rotate_left
   ·(try dsimp only at hw);go_simp;try with_reducible rfl
   try simp only[Act.put,sA,sZ,sS]
   refine zai (i:=17) (v:=?_) rfl (by kernel_rfl) (by kernel_rfl) (by kernel_rfl) (fun _ _ _ h=>h) (by rfl) (by assumption) (fun w hw=>?_) ?_
   rotate_left
   ·(try dsimp only at hw);go_simp;try with_reducible rfl
   try simp only[Act.put,sA,sZ,sS]
   obtain ⟨w5,hw5⟩:∃ w5,w4.drew=w5:=⟨_,rfl⟩
   replace H:=zhd (show DoB w w5 A3 c3 B3 e3 d (.slice C o.b.length c2) o by rw[←hw5];exact H.out.ext (Ext.drew (Ext.refl _)))
   have HS3:=zhd (show S=if d.q.length=400 then (d,41) else ({ d with q:=d.q++[o] }.burn,0) by rw[HS2.out];simp[hk4])
   clear hk4
  case' pos =>
   have hk5:(o.k==2)=true:=by simpa using hk4
   have HK4:=zhd hk4;clear hk4
   refine zai (i:=0) (v:=?_) rfl (by kernel_rfl) (by kernel_rfl) (by kernel_rfl) (fun _ _ _ h=>h) (by rfl) (by assumption) (fun w hw=>?_) ?_
   rotate_left
   ·(try dsimp only at hw);go_simp;try with_reducible rfl
   try simp only[Act.put,sA,sZ,sS]
   refine zai (i:=1) (v:=?_) rfl (by kernel_rfl) (by kernel_rfl) (by kernel_rfl) (fun _ _ _ h=>h) (by rfl) (by assumption) (fun w hw=>?_) ?_
   rotate_left
   ·(try dsimp only at hw);go_simp;try with_reducible rfl
   try simp only[Act.put,sA,sZ,sS]
   refine zai (i:=2) (v:=?_) rfl (by kernel_rfl) (by kernel_rfl) (by kernel_rfl) (fun _ _ _ h=>h) (by rfl) (by assumption) (fun w hw=>?_) ?_
   rotate_left
   ·(try dsimp only at hw);go_simp;try with_reducible rfl
   try simp only[Act.put,sA,sZ,sS]
   refine zai (i:=3) (v:=?_) rfl (by kernel_rfl) (by kernel_rfl) (by kernel_rfl) (fun _ _ _ h=>h) (by rfl) (by assumption) (fun w hw=>?_) ?_
   rotate_left
   ·(try dsimp only at hw);go_simp;try with_reducible rfl
   try simp only[Act.put,sA,sZ,sS]
   refine zai (i:=4) (v:=?_) rfl (by kernel_rfl) (by kernel_rfl) (by kernel_rfl) (fun _ _ _ h=>h) (by rfl) (by assumption) (fun w hw=>?_) ?_
   rotate_left
   ·(try dsimp only at hw);go_simp;try with_reducible rfl
   try simp only[Act.put,sA,sZ,sS]
   refine zai (i:=6) (v:=?_) rfl (by kernel_rfl) (by kernel_rfl) (by kernel_rfl) (fun _ _ _ h=>h) (by rfl) (by assumption) (fun w hw=>?_) ?_
   rotate_left
   ·(try dsimp only at hw);go_simp;try with_reducible rfl
   try simp only[Act.put,sA,sZ,sS]
   refine zai (i:=7) (v:=?_) rfl (by kernel_rfl) (by kernel_rfl) (by kernel_rfl) (fun _ _ _ h=>h) (by rfl) (by assumption) (fun w hw=>?_) ?_
   rotate_left
   ·(try dsimp only at hw);go_simp;try with_reducible rfl
   try simp only[Act.put,sA,sZ,sS]
   refine zai (i:=8) (v:=?_) rfl (by kernel_rfl) (by kernel_rfl) (by kernel_rfl) (fun _ _ _ h=>h) (by rfl) (by assumption) (fun w hw=>?_) ?_
   rotate_left
   ·(try dsimp only at hw);go_simp;try with_reducible rfl
   try simp only[Act.put,sA,sZ,sS]
   refine zai (i:=10) (v:=?_) rfl (by kernel_rfl) (by kernel_rfl) (by kernel_rfl) (fun _ _ _ h=>h) (by rfl) (by assumption) (fun w hw=>?_) ?_
   rotate_left
   ·(try dsimp only at hw);go_simp;try with_reducible rfl
   try simp only[Act.put,sA,sZ,sS]
   refine zai (i:=11) (v:=?_) rfl (by kernel_rfl) (by kernel_rfl) (by kernel_rfl) (fun _ _ _ h=>h) (by rfl) (by assumption) (fun w hw=>?_) ?_
   rotate_left
   ·(try dsimp only at hw);go_simp;try with_reducible rfl
   try simp only[Act.put,sA,sZ,sS]
   refine ar1 5 rfl (fun K hK=>?_)
   go_simp
   refine (znM r _ _ (HM3.out.ext (Ext.drew (Ext.refl _))) (by have:=HT.out;omega)).mono ?_
   rintro e w5 ⟨rfl,hE5⟩
   replace H:=zhd (H.out.ext (Ext.trans (Ext.drew (Ext.refl _)) hE5))
   clear hE5 k0 k1 k2 k3 g0 g1 g2 g3 g4;obtain ⟨k0,k1,k2,k3⟩:=blk4 H.out.b1;obtain ⟨g0,g1,g2,g3,g4⟩:=zac H.out.b0
   refine shK hK _ _ ⟨k0,k3,g1,g2⟩ (fun _=>?_)
   refine zai (i:=9) (v:=?_) rfl (by kernel_rfl) (by kernel_rfl) (by kernel_rfl) (fun _ _ _ h=>h) (by rfl) (by assumption) (fun w hw=>?_) ?_
   rotate_left
   ·(try dsimp only at hw);go_simp;try with_reducible rfl
   try simp only[Act.put,sA,sZ,sS]
   by_cases hov:d.quota<(tot (zbF d.fs d.q):Int)+(o.b.length:Int)
   case pos =>
    have hov5:decide (d.quota<(tot (zbF d.fs d.q):Int)+(o.b.length:Int))=true:=by simpa using hov
    have e1:S=(d,41):=by rw[HS2.out,if_pos (.inl ⟨HK4.out,hov⟩)]
    subst e1
    refine zai (i:=12) (v:=?_) rfl (by kernel_rfl) (by kernel_rfl) (by kernel_rfl) (fun _ _ _ h=>h) (by rfl) (by assumption) (fun w hw=>?_) ?_
    rotate_left
    ·(try dsimp only at hw);go_simp;try with_reducible rfl
    try simp only[Act.put,sA,sZ,sS]
    refine zai (i:=13) (v:=?_) rfl (by kernel_rfl) (by kernel_rfl) (by kernel_rfl) (fun _ _ _ h=>h) (by rfl) (by assumption) (fun w hw=>?_) ?_
    rotate_left
    ·(try dsimp only at hw);go_simp;try with_reducible rfl
    try simp only[Act.put,sA,sZ,sS]
    refine zai (i:=14) (v:=?_) rfl (by kernel_rfl) (by kernel_rfl) (by kernel_rfl) (fun _ _ _ h=>h) (by rfl) (by assumption) (fun w hw=>?_) ?_
    rotate_left
    ·(try dsimp only at hw);go_simp;try with_reducible rfl
    try simp only[Act.put,sA,sZ,sS]
    refine tkS 15 rfl ?_;refine tkS 16 rfl ?_;refine tkS 17 rfl ?_;refine tkS 18 rfl ?_
    exact mcDDoa0
   have hov5:decide (d.quota<(tot (zbF d.fs d.q):Int)+(o.b.length:Int))=false:=by simpa using hov
   refine zai (i:=12) (v:=?_) rfl (by kernel_rfl) (by kernel_rfl) (by kernel_rfl) (fun _ _ _ h=>h) (by rfl) (by assumption) (fun w hw=>?_) ?_
   rotate_left
   ·(try dsimp only at hw);go_simp;try with_reducible rfl
   try simp only[Act.put,sA,sZ,sS]
   refine zai (i:=13) (v:=?_) rfl (by kernel_rfl) (by kernel_rfl) (by kernel_rfl) (fun _ _ _ h=>h) (by rfl) (by assumption) (fun w hw=>?_) ?_
   rotate_left
   ·(try dsimp only at hw);go_simp;try with_reducible rfl
   try simp only[Act.put,sA,sZ,sS]
   refine zai (i:=14) (v:=?_) rfl (by kernel_rfl) (by kernel_rfl) (by kernel_rfl) (fun _ _ _ h=>h) (by rfl) (by assumption) (fun w hw=>?_) ?_
   rotate_left
   ·(try dsimp only at hw);go_simp;try with_reducible rfl
   try simp only[Act.put,sA,sZ,sS]
   refine zai (i:=15) (v:=?_) rfl (by kernel_rfl) (by kernel_rfl) (by kernel_rfl) (fun _ _ _ h=>h) (by rfl) (by assumption) (fun w hw=>?_) ?_
   rotate_left
   ·(try dsimp only at hw);go_simp;try with_reducible rfl
   try simp only[Act.put,sA,sZ,sS]
   refine zai (i:=16) (v:=?_) rfl (by kernel_rfl) (by kernel_rfl) (by kernel_rfl) (fun _ _ _ h=>h) (by rfl) (by assumption) (fun w hw=>?_) ?_
   rotate_left
   ·(try dsimp only at hw);go_simp;try with_reducible rfl
   try simp only[Act.put,sA,sZ,sS]
   refine zai (i:=17) (v:=?_) rfl (by kernel_rfl) (by kernel_rfl) (by kernel_rfl) (fun _ _ _ h=>h) (by rfl) (by assumption) (fun w hw=>?_) ?_
   rotate_left
   ·(try dsimp only at hw);go_simp;try with_reducible rfl
   try simp only[Act.put,sA,sZ,sS]
   have HS3:=zhd (show S=if d.q.length=400 then (d,41) else ({ d with q:=d.q++[o] }.burn,0) by rw[HS2.out];simp[hov])
 all_goals
  clear HS2 hk5 HM3
  by_cases hq4:d.q.length=400
  case pos =>
   have hq5:(((d.q.length:Nat):Int)==400)=true:=by simp;omega
   have e1:S=(d,41):=by rw[HS3.out,if_pos hq4]
   subst e1;clear HS3 hq4
   refine zai (i:=18) (v:=?_) rfl (by kernel_rfl) (by kernel_rfl) (by kernel_rfl) (fun _ _ _ h=>h) (by rfl) (by assumption) (fun w hw=>?_) ?_
   rotate_left
   ·(try dsimp only at hw);go_simp;try with_reducible rfl
   try simp only[Act.put,sA,sZ,sS]
   exact mcDDoa0
  have hq5:(((d.q.length:Nat):Int)==400)=false:=by simp;omega
  have HQ4:=zhd hq4
  have e1:S=({ d with q:=d.q++[o] }.burn,0):=by rw[HS3.out,if_neg hq4]
  subst e1;clear HS3 hq4
  refine zai (i:=18) (v:=?_) rfl (by kernel_rfl) (by kernel_rfl) (by kernel_rfl) (fun _ _ _ h=>h) (by rfl) (by assumption) (fun w hw=>?_) ?_
  rotate_left
  ·(try dsimp only at hw);go_simp;try with_reducible rfl
  try simp only[Act.put,sA,sZ,sS]
  refine zai (i:=19) (v:=?_) rfl (by kernel_rfl) (by kernel_rfl) (by kernel_rfl) (fun _ _ _ h=>h) (by rfl) (by assumption) (fun w hw=>?_) ?_
  rotate_left
  ·(try dsimp only at hw);go_simp;try with_reducible rfl
  try simp only[Act.put,sA,sZ,sS]
  refine zai (i:=20) (v:=?_) rfl (by kernel_rfl) (by kernel_rfl) (by kernel_rfl) (fun _ _ _ h=>h) (by rfl) (by assumption) (fun w hw=>?_) ?_
  rotate_left
  ·(try dsimp only at hw);go_simp;try with_reducible rfl
  try simp only[Act.put,sA,sZ,sS]
  refine wpAnyH_done (by kernel_rfl) ?_ _
  try rw[hw5]
  clear hq5 k0 k1 k2 k3 g0 g1 g2 g3 g4;obtain ⟨k0,k1,k2,k3⟩:=blk4 H.out.b1;obtain ⟨g0,g1,g2,g3,g4⟩:=zac H.out.b0;go_wp2_with fail
 all_goals
  refine wp_region_held_drew (S:=fun W=>W.cell? ⟨w.heap.size+1,0,none⟩=some (.int .u8 o.k)∧W.cell? ⟨w.heap.size+1,1,none⟩=some (.string ⟨o.n.toArray⟩)∧W.cell? ⟨w.heap.size+1,2,none⟩=some (.string ⟨o.t.toArray⟩)∧W.cell? ⟨w.heap.size+1,3,none⟩=some (.slice C o.b.length c2)) (by kernel_rfl) ⟨k0,k1,k2,k3⟩ (fun _=>?_)
  refine zai (i:=0) (v:=?_) rfl (by kernel_rfl) (by kernel_rfl) (by kernel_rfl) (fun _ _ _ h=>h) (by rfl) (by assumption) (fun w hw=>?_) ?_
  rotate_left
  ·(try dsimp only at hw);go_simp;try with_reducible rfl
  try simp only[Act.put,sA,sZ,sS]
  refine zai (i:=2) (v:=?_) rfl (by kernel_rfl) (by kernel_rfl) (by kernel_rfl) (fun _ _ _ h=>h) (by rfl) (by assumption) (fun w hw=>?_) ?_
  rotate_left
  ·(try dsimp only at hw);go_simp;try with_reducible rfl
  try simp only[Act.put,sA,sZ,sS]
  refine AllReadyH.two (i:=1) (j:=3) rfl rfl (by kernel_rfl) (by rfl) (by rfl) (fun K hK=>?_) (fun K hK=>?_)
  go_simp
  refine shK hK _ _ ⟨k0,k1,k2,k3⟩ (fun _=>?_)
  refine ar1 3 rfl (fun K hK=>?_)
  go_simp
  refine (zni o _ _ (H.out.b.ext (Ext.drew (Ext.refl _))) (by have:=HOL.out;omega)).mono ?_
  rintro e w6 ⟨A6,c6,rfl,ho6,hE6⟩;have HO6:=zhd ho6
  replace H:=zhd (H.out.ext (Ext.trans (Ext.drew (Ext.refl _)) hE6))
  clear hE6 ho6 k0 k1 k2 k3 g0 g1 g2 g3 g4;obtain ⟨k0,k1,k2,k3⟩:=blk4 H.out.b1
  refine shK hK _ _ ⟨k0,k1,k2,k3⟩ (fun _=>?_)
  refine ar1 4 rfl (fun K hK=>?_)
  go_simp
  refine shK hK _ _ (blk4 (H.out.b1.alloc _)) (fun _=>?_)
  rotate_left
  go_simp
  refine (zni o _ _ (H.out.b.ext (Ext.drew (Ext.refl _))) (by have:=HOL.out;omega)).mono ?_
  rintro e w6 ⟨A6,c6,rfl,ho6,hE6⟩;have HO6:=zhd ho6
  replace H:=zhd (H.out.ext (Ext.trans (Ext.drew (Ext.refl _)) hE6))
  clear hE6 ho6 k0 k1 k2 k3 g0 g1 g2 g3 g4;obtain ⟨k0,k1,k2,k3⟩:=blk4 H.out.b1;obtain ⟨g0,g1,g2,g3,g4⟩:=zac H.out.b0
  refine shK hK _ _ ⟨k0,k1,k2,k3⟩ (fun _=>?_)
  refine AllReadyH.two (i:=1) (j:=4) rfl rfl (by kernel_rfl) (by rfl) (by rfl) (fun K hK=>?_) (fun K hK=>?_)
  go_simp
  refine shK hK _ _ ⟨k0,k1,k2,k3⟩ (fun _=>?_)
  refine ar1 4 rfl (fun K hK=>?_)
  go_simp
  refine shK hK _ _ (blk4 (H.out.b1.alloc _)) (fun _=>?_)
  rotate_left
  go_simp
  refine shK hK _ _ (blk4 (H.out.b1.alloc _)) (fun _=>?_)
  have g1':(w6.alloc (.cells #[.int .u8 o.k,sv o.n,sv o.t,.slice A6 o.b.length c6] 86)).cell? ⟨w.heap.size,1,none⟩=some (.slice B3 d.q.length e3):=(H.out.b0.alloc _).cell 1 rfl
  refine ar1 1 rfl (fun K hK=>?_)
  go_simp
  refine shK hK _ _ (blk4 (H.out.b1.alloc _)) (fun _=>?_)
  rotate_left
 all_goals
  clear k0 k1 k2 k3
  try clear g0 g1 g2 g3 g4
  try clear g1'
  have hX6:Ext w6 (w6.alloc (.cells #[.int .u8 o.k,sv o.n,sv o.t,.slice A6 o.b.length c6] 86)):=Ext.alloc (Ext.refl _) _
  have hr6:=zeH w6 [.int .u8 o.k,sv o.n,sv o.t,.slice A6 o.b.length c6] 86 4 rfl rfl;have hry:=zf9 (o:=o) (Bs.ext HO6.out.bs hX6);have H6:=H.out.ext hX6
  have haw:∀ g,(Value.slice B3 d.q.length e3).ownBlock=some g→∀ y∈[.int .u8 o.k,sv o.n,sv o.t,.slice A6 o.b.length c6],zbx g y:=by
   intro g hg y hy;obtain ⟨_,cs,hcs⟩:=zcT H.out.q hg;simp only[List.mem_cons,List.not_mem_nil,or_false] at hy
   rcases hy with rfl | rfl | rfl | rfl
   ·exact zeO _ _ _
   ·exact za2 _ _
   ·exact za2 _ _
   ·exact OwnB.awayT HO6.out hcs (by decide)
  obtain ⟨i0,hi,hz0,hz1,hz2⟩:=info_parts ziY
  have hlq:d.q.length+1≤4000000:=by have:=HZ.out.l;omega
  have hsz:w.heap.size+3≤(w6.alloc (.cells #[.int .u8 o.k,sv o.n,sv o.t,.slice A6 o.b.length c6] 86)).heap.size:=by have:=H6.b2.lt;omega
  refine ar1 5 rfl (fun K hK=>?_)
  refine znU zcS (.tmp 64) (.tmp 67) 23 rfl 86 i0 _ 64 Tryz.underlying23 hi hz0 hz1 hz2 rfl (by decide) (by decide) (w.heap.size+3) _ d.q rfl H6.q _ [o] [.int .u8 o.k,sv o.n,sv o.t,.slice A6 o.b.length c6] rfl hr6 hry (by simp) haw (by simpa using hlq) hsz ?_
  intro A7 c7 w7 ho7 hG7 hg7
  have hlen:d.q.length+[o].length=(d.q++[o]).length:=by simp
  rw[hlen] at ho7 ⊢
  obtain ⟨q7,hq7⟩:∃ q7,d.q++[o]=q7:=⟨_,rfl⟩
  rw[hq7] at ho7 ⊢
  have hno:∀ b,b<w.heap.size+3→some b≠(Value.slice B3 d.q.length e3).ownBlock:=fun b hb e=>by have:=(zcT H6.q e.symm).1;omega
  have b0:=H6.b0.kept hg7 (hno _ (by omega));have b1:=H6.b1.kept hg7 (hno _ (by omega));have b2:=H6.b2.kept hg7 (hno _ (by omega))
  have hff:OwnF w7 w.heap.size (.slice A3 d.fs.length c3) d.fs:=OwnFA.grown H6.f hg7 (by
   cases hf:(Value.slice A3 d.fs.length c3).ownBlock with
   | none=>exact .inl rfl
   | some g =>
    refine .inr fun e=>?_
    obtain ⟨_,cs,h1⟩:=zcT H6.q e.symm;obtain ⟨_,cs',h2⟩:=zcT H6.f.f hf;rw[h1] at h2
    cases h2)
  have hE7:Ext w w7:=hG7 w H6.e (by omega)
  have c0:Blk _ w.heap.size 25 (zaE A3 d.fs.length c3 A7 q7.length c7 d.quota d.fuse d.dead):=Blk.set (b:=w.heap.size) b0 1 (.slice A7 q7.length c7)
  have hne:w.heap.size+1≠w.heap.size:=by omega
  have hne2:w.heap.size+1+1≠w.heap.size:=by omega
  have B1:=zhd (b1.other hne 1 (.slice A7 q7.length c7));have B2:=zhd (b2.other hne2 1 (.slice A7 q7.length c7));have OF:=zhd (OwnF.setD (j:=1) (u:=.slice A7 q7.length c7) hff (by decide) b0 zaG)
  have OQ:=zhd (OwnQ.setD (j:=1) (u:=.slice A7 q7.length c7) (OwnX.base ho7 (show w.heap.size≤_ by omega)) (by decide) b0 zaG)
  have OE:=zhd (Below.setCell (p:=⟨w.heap.size,1,none⟩) hE7 (Nat.le_refl _) (.slice A7 q7.length c7));have C0:=zhd c0
  refine shK hK _ _ (blk4 b1) (fun _=>?_)
  refine zai (i:=6) (v:=?_) rfl (by kernel_rfl) (by kernel_rfl) (by kernel_rfl) (fun _ _ _ h=>h) (by rfl) (by assumption) (fun w hw=>?_) ?_
  rotate_left
  ·(try dsimp only at hw);go_simp;try with_reducible rfl
  try simp only[Act.put,sA,sZ,sS]
  have g1:=b0.cell 1 rfl;have f1:=b0.frozen 1;clear b0 b1 b2 c0 hff hE7 ho7 hG7 hg7 hno hlen haw hr6 hry H6 hX6 H hlq hsz hi hz0 hz1 hz2 i0 hne hne2
  refine ar1 7 rfl (fun K hK=>?_)
  go_simp
  refine shK hK _ _ (blk4 B1.out) (fun _=>?_)
  refine wpAnyH_done (by kernel_rfl) ?_ _;clear g1 f1;go_wp2_with fail
  refine (zmL w.heap.size _ _ d.quota d.fuse d.dead _ C0.out HZ.out.f).mono ?_
  rintro e w8 ⟨rfl,hw8⟩;obtain ⟨hb1,hof,hoq,hoth,hext⟩:=zmN (d:={ d with q:=q7 }) C0.out OF.out OQ.out;rw[hw8] at hb1 hof hoq hoth hext
  have hb2:=hoth _ _ _ (show w.heap.size+1+1≠w.heap.size by omega) B2.out
  have hE4:=hext _ OE.out (Nat.le_refl _);obtain ⟨d5,hd5⟩:∃ x,({ d with q:=q7 }:Dk).burn=x:=⟨_,rfl⟩;rw[hd5] at hb1 hof hoq;have H5:=zhd hd5;have H7:=zhd hq7;clear hd5 hq7;obtain ⟨g0,g1,g2,g3,g4⟩:=zac hb1;obtain ⟨f0,f1,f2,f3,f4⟩:=zby hb2;obtain ⟨d0,d1,d2,d3,d4⟩:=zac hb2;have Q1:=zhd hb2;have Q2:=zhd hof;have Q3:=zhd hoq;have Q4:=zhd hE4;clear hb1 hb2 hof hoq hoth hext hE4 C0 OF OQ B1 B2 OE hw8;go_wp2_with fail
  refine bodyPost_ret (zf2 _ _ _ _ (.int .i64 0) rfl rfl (zaS Q1.out _ _ _ _ _) rfl) rfl ?_
  have hd5:=H5.out;have hq7:=H7.out;subst hd5;subst hq7
  exact ⟨_,rfl,⟨_,_,_,_,rfl,OwnF.box1 Q2.out Q1.out,OwnQ.box1 Q3.out Q1.out⟩,zaL Q4.out (by omega) _ _ _ _ _⟩
theorem Qs.setD {W:World} {b j:Nat} {t:TypeId} {cs:Array Value} {v u:Value} {l:List Oq} (h:Qs W v l) (hB:Blk W b t cs) (hno:∀ (k:Nat) (n:Int),cs[k]?≠some (.int .u8 n)):Qs (W.setCell ⟨b,j,none⟩ u) v l:=by
 obtain ⟨xs,h1,h2⟩:=h;obtain ⟨hl,A,c,rfl,g1,g2,g3⟩:=h1
 refine ⟨xs,⟨hl,A,c,rfl,g1,g2,fun hn=>?_⟩,h2.keep zcS (zlS h2 hB hno) fun _ _ hc hp=>zcl hc hp⟩
 obtain ⟨b',off,rfl,hc⟩:=g3 hn;have h0:=(h2.2 0 hn).1
 have h00:xs[0]?=some (.int .u8 l[0].k):=by simpa using h0
 have hne:b'≠b:=by
  rintro rfl
  have:=hc 0 _ h00
  exact hno _ _ (zjK hB this)
 exact ⟨b',off,rfl,fun j u hu=>zcl (hc j u hu) hne⟩
theorem Qs.box1 {W:World} {b:Nat} {A A':Option Addr} {n c n' c':Nat} {B B':Option Addr} {m e m' e':Nat} {q f q' f':Int} {d d':Bool} {v:Value} {l:List Oq} (h:Qs W v l) (hB:Blk W b 25 (zaE A n c B m e q f d)) :
  Qs (zeF W b (.slice A' n' c') (.slice B' m' e') (.int .i64 q') (.int .i64 f') (.bool d')) v l:=by
 have b0:Blk _ b 25 (zaE A' n' c' B m e q f d):=hB.set 0 (.slice A' n' c')
 have b1:Blk _ b 25 (zaE A' n' c' B' m' e' q f d):=b0.set 1 (.slice B' m' e')
 have b2:Blk _ b 25 (zaE A' n' c' B' m' e' q' f d):=b1.set 2 (.int .i64 q')
 have b3:Blk _ b 25 (zaE A' n' c' B' m' e' q' f' d):=b2.set 3 (.int .i64 f')
 exact Qs.setD (Qs.setD (Qs.setD (Qs.setD (Qs.setD h hB zaG) b0 zaG) b1 zaG) b2 zaG) b3 zaG
theorem zhf {W:World} {b:Nat} {a v u x y:Value} {p:Addr} {z:Value} (h:W.cell? p=some z) (hp:p.block≠b):(zeF W b a v u x y).cell? p=some z:=zcl (zcl (zcl (zcl (zcl h hp) hp) hp) hp) hp
theorem zjP (tmps:Array Value) (W:World) (b:Nat) (cs:Array Value) (e:Value) (h4:tmps.getD 6 undef=.pointer (some ⟨b,0,none⟩)) (h3:tmps.getD 7 undef=e) (hb:Blk W b 25 cs) (hs:cs.size=5):(results Tryz.f49 tmps).run Tryz.prog W=.ok (.tuple #[.agg cs,e]) W:=by
 have h4':tmps[6]?.getD undef=.pointer (some ⟨b,0,none⟩):=by simpa using h4
 have h3':tmps[7]?.getD undef=e:=by simpa using h3
 have hl:=hb.load (P:=Tryz.prog) ziq rfl (by rw[hs];kernel_rfl)
 simp[results,Tryz.results49,h4',h3',asAddr,hl,Sem.run_bind,Sem.run_pure,Result.andThen_ok]
structure SdI (w:World) (sync:Bool) (T:Dk×Int) (v:Value) (ql:List Oq) (A:Option Addr) (c:Nat) (B:Option Addr) (e:Nat) (d:Dk) (n:Nat) (W:World):Prop where
 bx:Blk W (w.heap.size+1) 25 (zaE A d.fs.length c B d.q.length e d.quota d.fuse d.dead)
 f:OwnF W w.heap.size (.slice A d.fs.length c) d.fs
 q:OwnQ W w.heap.size (.slice B d.q.length e) d.q
 qs:Qs W v ql
 t:zaF sync d ql=T
 x:Ext w W
 sz:Sz n d
 le:n+ql.length+zaT ql≤1000000
def SdR (w:World) (sync:Bool) (T:Dk×Int) (a:Act) (W:World):Prop :=
 ∃ (q:List Oq) (C:Option Addr) (c2:Nat) (A:Option Addr) (c:Nat) (B:Option Addr) (e:Nat) (d:Dk) (n:Nat) (u0 u8 u9 u10 u11 u12 u13 u14 u15 u16 u17 u18 u19 u20 u21 u22 u23 u24 u25 u26 u27 u28 u29 u30 u31 u32:Value),Hid (SdI w sync T (.slice C q.length c2) q A c B e d n W)∧a=⟨#[u0,.bool sync,.slice C q.length c2,.pointer (some ⟨w.heap.size,0,none⟩),undef,undef,.pointer (some ⟨w.heap.size+1,0,none⟩),.int .i64 0,u8,u9,u10,u11,u12,u13,u14,u15,u16,u17,u18,u19,u20,u21,u22,u23,u24,u25,u26,u27,u28,u29,u30,u31,u32],[]⟩
theorem zif (v:Value) (d:Dk) (n:Nat) (sync:Bool) (vq:Value) (q:List Oq) (w:World) (hD:DkV w v d) (hs:Sz n d) (hQ0:Qs w vq q) (hle:n+q.length+zaT q≤1000000) :
  Calls Tryz.prog 49 #[v,.bool sync,vq] w fun e w'=>∃ u,e=.returned (.tuple #[u,.int .i64 (zaF sync d q).2])∧zjG w' w.heap.size u (zaF sync d q).1∧Ext w w':=by
 obtain ⟨vf,vq0,rfl,hF,hQ⟩:=hD;obtain ⟨A,c,rfl,_,_⟩:=Fs.open_ hF;obtain ⟨B,e2,rfl,_,_⟩:=Qs.open_ hQ;obtain ⟨C,c2,rfl,_,_⟩:=Qs.open_ hQ0;obtain ⟨W0,hW0⟩:∃ W0,(w.alloc (.cells #[.slice A d.fs.length c,.slice B d.q.length e2,.int .i64 d.quota,.int .i64 d.fuse,.bool d.dead] 25)).alloc (.cells #[.slice none 0 0,.slice none 0 0,.int .i64 0,.int .i64 0,.bool false] 25)=W0:=⟨_,rfl⟩
 have hE0:Ext w W0:=by rw[←hW0];exact Ext.alloc (Ext.alloc (Ext.refl _) _) _
 have h0:Blk W0 w.heap.size 25 (zaE A d.fs.length c B d.q.length e2 d.quota d.fuse d.dead):=by rw[←hW0];exact (Blk.new w _ _).alloc _
 have h2:Blk W0 (w.heap.size+1) 25 (zaE none 0 0 none 0 0 0 0 false):=by
  rw[←hW0]
  have:=Blk.new (w.alloc (.cells #[.slice A d.fs.length c,.slice B d.q.length e2,.int .i64 d.quota,.int .i64 d.fuse,.bool d.dead] 25)) 25 #[.slice none 0 0,.slice none 0 0,.int .i64 0,.int .i64 0,.bool false]
  rwa [World.size_alloc] at this
 have HE0:=zhd hE0;have H2:=zhd h2;have HQ:=zhd (hQ0.ext hE0)
 have HC:=zhd (zie _ d n _ (show DkV W0 _ d from ⟨_,_,rfl,hF.ext hE0,hQ.ext hE0⟩) (by omega) hs)
 clear h2 hF hQ hE0 hQ0;obtain ⟨g0,g1,g2,g3,g4⟩:=zac h0;clear h0;have HZ:=zhd hs;have HLE:=zhd hle;obtain ⟨T,hT⟩:∃ T,zaF sync d q=T:=⟨_,rfl⟩;rw[hT];have HT:=zhd hT;clear hs hT hle
 refine (callsIn_wd (ro:=none) (n:=9)).1 ?_
 refine callsIn_of_wp Tryz.func49 rfl trivial ?_ rfl
 simp only[Tryz.ntmps49,List.size_toArray,List.length_cons,List.length_nil,Nat.reduceAdd,Nat.reduceSub,Array.replicate_succ,Array.replicate_zero,List.push_toArray,List.append_toArray,List.nil_append,List.cons_append]
 gi_wp2
 refine zbq 0 (SdR w sync T) (fun a _=>lenOf (a.tmps.getD 2 undef)) rfl (fun l' h=>by cases l' <;> first | exact absurd rfl h | rfl) ?_ ?_
 ·intro hrest
  have Hrest:=zhd hrest;clear hrest
  gi_wp2_with (refine ⟨trivial,?_⟩;gi_at_call 47;refine (callsIn_wd.2 HC.out).mono ?_;rintro e w1 ⟨u,rfl,⟨A3,c3,B3,e3,rfl,of,oq⟩,hE1⟩;have hb2:=H2.out.ext hE1;obtain ⟨d0,d1,d2,d3,d4⟩:=zac hb2;obtain ⟨f0,f1,f2,f3,f4⟩:=zby hb2)
  refine wpIn_label ?_
  gi_step
  gi_step
  refine Hrest.out _ _ ⟨q,C,c2,A3,c3,B3,e3,d,n,_,_,_,_,_,_,_,_,_,_,_,_,_,_,_,_,_,_,_,_,_,_,_,_,_,_,zhd ?_,rfl⟩
  exact ⟨zaS hb2 _ _ _ _ _,OwnF.box1 (OwnX.base of.f HE0.out.size) hb2,OwnQ.box1 (OwnX.base oq HE0.out.size) hb2,Qs.box1 (HQ.out.ext hE1) hb2,HT.out,zaL (Ext.trans HE0.out hE1) (Nat.le_succ _) _ _ _ _ _,HZ.out,HLE.out⟩
 ·clear HE0 H2 HQ HC HZ HLE HT g0 g1 g2 g3 g4 hW0 W0
  rintro a w1 ⟨q1,C1,c1,A1,k1,B1,e1,d1,n1,u0,u8,u9,u10,u11,u12,u13,u14,u15,u16,u17,u18,u19,u20,u21,u22,u23,u24,u25,u26,u27,u28,u29,u30,u31,u32,HI,rfl⟩
  cases q1 with
  | nil =>
   cases sync with
   | false =>
    obtain ⟨g0,g1,g2,g3,g4⟩:=zac HI.out.bx;obtain ⟨f0,f1,f2,f3,f4⟩:=zby HI.out.bx
    gi_wp2
    refine zas ?_
    have ht:=HI.out.t;subst ht
    refine bodyPost_ret (zjP _ _ _ _ (.int .i64 0) rfl rfl (zaS HI.out.bx _ _ _ _ _) rfl) rfl ?_
    exact ⟨_,rfl,⟨_,_,_,_,rfl,OwnF.box1 HI.out.f HI.out.bx,OwnQ.box1 HI.out.q HI.out.bx⟩,zaL HI.out.x (Nat.le_succ _) _ _ _ _ _⟩
   | true =>
    obtain ⟨g0,g1,g2,g3,g4⟩:=zac HI.out.bx
    gi_wp2_with (refine ⟨trivial,?_⟩;gi_at_call 93;refine (callsIn_wd.2 (zs7 _ d1 n1 _ (show DkV w1 _ d1 from ⟨_,_,rfl,HI.out.f.fs,HI.out.q.qs⟩) (by have:=HI.out.le;omega) HI.out.sz)).mono ?_;rintro e w2 ⟨u,rfl,⟨A5,k5,B5,e5,rfl,of,oq⟩,hE2⟩;have hb2:=HI.out.bx.ext hE2;obtain ⟨d0,d1',d2,d3,d4⟩:=zac hb2;obtain ⟨f0,f1,f2,f3,f4⟩:=zby hb2)
    refine zas ?_
    have ht:=HI.out.t;subst ht
    refine bodyPost_ret (zjP _ _ _ _ (.int .i64 d1.syncS.2) rfl rfl (zaS hb2 _ _ _ _ _) rfl) rfl ?_
    exact ⟨_,rfl,⟨_,_,_,_,rfl,OwnF.box1 (OwnX.base of HI.out.x.size) hb2,OwnQ.box1 (OwnX.base oq HI.out.x.size) hb2⟩,zaL (Ext.trans HI.out.x hE2) (Nat.le_succ _) _ _ _ _ _⟩
  | cons o q1 =>
   obtain ⟨_,b,off,rfl,hc⟩:=HI.out.qs.at_ (by simp);obtain ⟨k0,k2,k3,D,dd,k4,hbs⟩:=hc 0 (by simp);simp only[List.getElem_cons_zero,Nat.zero_mul,Nat.add_zero] at k0 k2 k3 k4 hbs;have HBS:=zhd hbs;obtain ⟨_,_,e,hcc,hcm⟩:=Qs.open_ HI.out.qs
   cases e
   clear hc hbs;obtain ⟨ok,on,ot,ob⟩:=o
   dsimp only at *
   simp only[List.length_cons] at *
   gi_wp2
   refine zc9 (S:=fun W=>W.cell? ⟨b,off,none⟩=some (.int .u8 ok)∧W.cell? ⟨b,off+1,none⟩=some (.string ⟨on.toArray⟩)∧W.cell? ⟨b,off+2,none⟩=some (.string ⟨ot.toArray⟩)∧W.cell? ⟨b,off+3,none⟩=some (.slice D ob.length dd)) (by kernel_rfl) ⟨k0,k2,k3,k4⟩ (fun _=>?_)
   refine tkN 1 rfl ?_;refine tkN 2 rfl ?_;refine tkN 3 rfl ?_;obtain ⟨g0,g1,g2,g3,g4⟩:=zac (HI.out.bx.ext (Ext.drew (Ext.refl _)))
   refine ar1 0 rfl (fun K hK=>?_)
   go_simp
   refine shK hK _ _ ⟨k0,k2,k3,k4⟩ (fun _=>?_)
   refine ar1 4 rfl (fun K hK=>?_)
   go_simp
   have hbne:b≠w.heap.size+1:=by
    rintro rfl
    exact zaG _ _ (zjK HI.out.bx k0)
   have hlo:ob.length≤1000000:=by have:=HI.out.le;rw[zb9] at this;dsimp only at this;omega
   obtain ⟨⟨d2,E⟩,hR⟩:∃ R,d1.doS ⟨ok,on,ot,ob⟩=R:=⟨_,rfl⟩
   have hsz2:Sz (n1+1+ob.length) d2:=by have:=Sz.doS HI.out.sz ⟨ok,on,ot,ob⟩;rw[hR] at this;exact this
   have hC:=zvv _ d1 n1 ⟨ok,on,ot,ob⟩ _ w1.drew (show DkV w1.drew (.agg #[.slice A1 d1.fs.length k1,.slice B1 d1.q.length e1,.int .i64 d1.quota,.int .i64 d1.fuse,.bool d1.dead]) d1 from ⟨_,_,rfl,Fs.ext HI.out.f.fs (Ext.drew (Ext.refl _)),Qs.ext HI.out.q.qs (Ext.drew (Ext.refl _))⟩) (by have:=HI.out.le;omega) HI.out.sz (Bs.ext HBS.out (Ext.drew (Ext.refl _))) hlo
   rw[hR] at hC
   refine hC.mono ?_
   rintro e w2 ⟨u,rfl,⟨A5,k5,B5,e5,rfl,of,oq⟩,hE2'⟩
   have hE2:Ext w1 w2:=Ext.trans (Ext.drew (Ext.refl _)) hE2'
   have ht:=HI.out.t;rw[zaF,hR] at ht;have HT:=zhd ht;have HR:=zhd hR;have HS2:=zhd hsz2;have HB2:=zhd (HI.out.bx.ext hE2);have HOF:=zhd (OwnF.box1 (A':=A5) (n':=d2.fs.length) (c':=k5) (B':=B5) (m':=d2.q.length) (e':=e5) (q':=d2.quota) (f':=d2.fuse) (d':=d2.dead) (OwnX.base of (Nat.le_trans HI.out.x.size (by simp))) HB2.out);have HOQ:=zhd (OwnQ.box1 (A':=A5) (n':=d2.fs.length) (c':=k5) (B':=B5) (m':=d2.q.length) (e':=e5) (q':=d2.quota) (f':=d2.fuse) (d':=d2.dead) (OwnX.base oq (Nat.le_trans HI.out.x.size (by simp))) HB2.out);have HQS:=zhd (Qs.box1 (A':=A5) (n':=d2.fs.length) (c':=k5) (B':=B5) (m':=d2.q.length) (e':=e5) (q':=d2.quota) (f':=d2.fuse) (d':=d2.dead) (HI.out.qs.ext hE2) HB2.out);have HX:=zhd (zaL (Ext.trans HI.out.x hE2) (Nat.le_succ w.heap.size) (.slice A5 d2.fs.length k5) (.slice B5 d2.q.length e5) (.int .i64 d2.quota) (.int .i64 d2.fuse) (.bool d2.dead))
   have HBX:=zhd (show Blk (zeF w2 (w.heap.size+1) (.slice A5 d2.fs.length k5) (.slice B5 d2.q.length e5) (.int .i64 d2.quota) (.int .i64 d2.fuse) (.bool d2.dead)) (w.heap.size+1) 25 (zaE A5 d2.fs.length k5 B5 d2.q.length e5 d2.quota d2.fuse d2.dead) from zaS HB2.out _ _ _ _ _)
   have HLE:=zhd (show n1+1+ob.length+q1.length+zaT q1≤1000000 by have:=HI.out.le;rw[zb9] at this;dsimp only[List.length_cons] at this;omega)
   have e0:=hE2.cell k0;have e2:=hE2.cell k2;have e3:=hE2.cell k3;have e4:=hE2.cell k4;clear g0 g1 g2 g3 g4 k0 k2 k3 k4 hC of oq hE2 hE2' HI HBS hR hsz2 hlo ht
   refine shK hK _ _ ⟨e0,e2,e3,e4⟩ (fun _=>?_)
   refine tkN 5 rfl ?_;refine tkN 6 rfl ?_;refine tkN 7 rfl ?_;obtain ⟨g0,g1,g2,g3,g4⟩:=zac HB2.out;obtain ⟨f0,f1,f2,f3,f4⟩:=zby HB2.out
   refine ar1 8 rfl (fun K hK=>?_)
   go_simp
   refine shK hK _ _ ⟨zhf e0 hbne,zhf e2 hbne,zhf e3 hbne,zhf e4 hbne⟩ (fun _=>?_)
   refine tkN 9 rfl ?_;refine wpAnyH_done (by kernel_rfl) ?_ _
   refine zdW ?_
   clear g0 g1 g2 g3 g4 f0 f1 f2 f3 f4 e0 e2 e3 e4;obtain ⟨W3,hW3⟩:∃ W3,zeF w2 (w.heap.size+1) (.slice A5 d2.fs.length k5) (.slice B5 d2.q.length e5) (.int .i64 d2.quota) (.int .i64 d2.fuse) (.bool d2.dead)=W3:=⟨_,rfl⟩;rw[hW3] at HOF HOQ HQS HX HBX
   delta zeF at hW3
   rw[hW3];clear hW3 HB2
   have hll:q1.length≤1000000:=by have:=HLE.out;omega
   by_cases hE:E=0
   ·subst hE
    have HT2:=zhd (show zaF sync d2 q1=T from by have:=HT.out;rwa [if_pos rfl] at this)
    clear HT HR
    gi_wp2
    all_goals
     refine wpIn_goto ?_
     try simp only[Exit.then]
     refine zah (by simp) ⟨⟨q1,_,_,A5,k5,B5,e5,d2,n1+1+ob.length,_,_,_,_,_,_,_,_,_,_,_,_,_,_,_,_,_,_,_,_,_,_,_,_,_,_,zhd ?_,rfl⟩,by simp[lenOf]⟩
     refine ⟨HBX.out,HOF.out,HOQ.out,?_,HT2.out,HX.out,HS2.out,HLE.out⟩
     first
      | exact Qs.tail HQS.out _ (fun _=>rfl)
      | (have h9:=Qs.tail HQS.out (some ⟨b,off,none⟩) (fun h=>by omega);rwa [show c1-1=0 from by omega] at h9)
   ·have hE2:(E==0)=false:=by simpa using hE
    have HT2:=zhd (show (d2,E)=T from by have:=HT.out;rwa [if_neg hE] at this)
    clear HT HR hE;obtain ⟨g0,g1,g2,g3,g4⟩:=zac HBX.out;obtain ⟨f0,f1,f2,f3,f4⟩:=zby HBX.out
    gi_wp2
    all_goals
     refine zas ?_
     have ht:=HT2.out;subst ht
     refine bodyPost_ret (zjP _ _ _ _ (.int .i64 E) rfl rfl (zaS HBX.out _ _ _ _ _) rfl) rfl ?_
     exact ⟨_,rfl,⟨_,_,_,_,rfl,OwnF.box1 HOF.out HBX.out,OwnQ.box1 HOQ.out HBX.out⟩,zaL HX.out (Nat.le_succ _) _ _ _ _ _⟩
end Go.Proofs.YtgonhdeochgkoaaGreatDoor
