/- Merged -/
import Derived.Test.YtgonhdeochgkoaaGreatDoorZx25
set_option linter.all false
set_option maxHeartbeats 8000000
set_option maxRecDepth 100000
open Go.Act renaming put→P0
open Go.Proofs.YtgonhdeochgkoaaGreatDoor.OwnX renaming base→P1
open Go.Proofs.YtgonhdeochgkoaaGreatDoor.OwnQ renaming box1→P2
open Go.World renaming block_lt_of_cell?→P3,cell?_of_block→P4
open Go.Proofs.YtgonhdeochgkoaaGreatDoor.OwnF renaming box1→P5
open Go.Value renaming slice→P6
open Nat renaming le_succ→P7,le_trans→P8
open Go.Result renaming andThen_ok→P9
open Go.Sem renaming run_pure→Pa,run_bind→Pb
namespace Go.Proofs.YtgonhdeochgkoaaGreatDoor
open Go.RowKit Go.Mv Go.Shelf
theorem mcDDoa0 {P:Prop} (h:P:=by
 refine zaa (i:=19) (v:=?_) rfl (by kernel_rfl) (by kernel_rfl) (by kernel_rfl) (fun _ _ _ h=>h) (by rfl) (by assumption) (fun w hw=>?_) ?_
 rotate_left
 ·(try dsimp only at hw);go_simp;try with_reducible rfl
 try simp only[P0,sA,sZ,sS]
 refine zaa (i:=20) (v:=?_) rfl (by kernel_rfl) (by kernel_rfl) (by kernel_rfl) (fun _ _ _ h=>h) (by rfl) (by assumption) (fun w hw=>?_) ?_
 rotate_left
 ·(try dsimp only at hw);go_simp;try with_reducible rfl
 try simp only[P0,sA,sZ,sS]
 refine wpAnyH_done (by kernel_rfl) ?_ _;clear k0 k1 k2 k3 g0 g1 g2 g3 g4;obtain ⟨g0,g1,g2,g3,g4⟩:=zac H.out.b0;obtain ⟨f0,f1,f2,f3,f4⟩:=za4 H.out.b2;obtain ⟨d0,d1,d2,d3,d4⟩:=zac H.out.b2;go_wp2_with fail
 refine bodyPost_ret (zfK _ _ _ _ (.int .i64 41) rfl rfl (zaJ H.out.b2 _ _ _ _ _) rfl) rfl ?_
 exact ⟨_,rfl,⟨_,_,_,_,rfl,P5 H.out.f.f H.out.b2,P2 (P1 H.out.q (by omega)) H.out.b2⟩,zaB H.out.e (by omega) _ _ _ _ _⟩):P:=h
theorem mcDDoa1 {P:Prop} (h:P:=by
 obtain ⟨g0,g1,g2,g3,g4⟩:=zac H.out.b0;obtain ⟨f0,f1,f2,f3,f4⟩:=za4 H.out.b2;obtain ⟨d0,d1,d2,d3,d4⟩:=zac H.out.b2;go_wp2_with fail
 refine bodyPost_ret (zfK _ _ _ _ (.int .i64 2) rfl rfl (zaJ H.out.b2 _ _ _ _ _) rfl) rfl ?_
 exact ⟨_,rfl,⟨_,_,_,_,rfl,P5 H.out.f.f H.out.b2,P2 (P1 H.out.q (by omega)) H.out.b2⟩,zaB H.out.e (by omega) _ _ _ _ _⟩):P:=h
theorem znq {α:Type} {sz:Nat} {E:World→(Nat→Option Value)→α→Prop} (hE:zdJ sz E) {o:Oper} {a:Act} {w:World} {K:Act→World→Prop} {Q:Exit→Act→World→Prop} (s x:Operand) (T:TypeId)
  (ho:o.op=.call { callee:=.builtin .append,args:=#[s,x],argTypes:=#[T,T] }) (t:TypeId) (i0:TypeInfo) (z:Value) (bytes:Nat) (hT:Tryz.prog.underlying T=some (.slice t)) (hi:Tryz.prog.info? t=some i0) (HP:i0.zero=some z) (HU:i0.size=sz) (HV:i0.bytes=bytes) (Jf:z.cells.size=sz) (K3:0<sz) (Ja:bytes≤1000)
  (base:Nat) (v:Value) (l:List α) (hs:a.eval s=v) (Ki:OwnX sz E t w base v l) (vx:Value) (m:List α) (ys:List Value) (hx:a.eval x=vx) (hr:SlR w sz vx m.length ys) (Hq:RowOf sz E w ys m) (Kt:0<m.length)
  (Kr:∀ g,v.ownBlock=some g→∀ u∈ys,zbu g u) (Hg:l.length+m.length≤4000000) (HA:base≤w.heap.size)
  (h:∀ A c w',OwnX sz E t w' base (.slice A (l.length+m.length) c) (l++m)→zgP base w w'→w.grownBy w' v.ownBlock→K (a.put o.dst (.slice A (l.length+m.length) c)) w'):Oper.wp Tryz.prog o a w K Q:=by
 obtain ⟨xs,h1,h2,h3⟩:=Ki
 have Ks:(l.length+m.length)*bytes≤140737488355328:=P8 (Nat.mul_le_mul Hg Ja) (by decide)
 obtain ⟨v',w',HL,g1,g2⟩:=za6 (P:=Tryz.prog) w base T o.type t i0 _ sz bytes hT hi HP HU HV Jf K3 v l.length xs h1 vx m.length ys hr (Hq.one hE) (by unfold maxLen;omega) Ks HA
 have Kf:v'.ownBlock=v.ownBlock∨v'.ownBlock=some w.heap.size:=by
  obtain ⟨hl,A,c,rfl,_,_,hc⟩:=hr;obtain ⟨b,Hb,rfl,HE⟩:=hc Kt
  have Ke:∀ j,(⟨b,Hb,none⟩:Addr).add j=⟨b,Hb+j,none⟩:=by intro j;unfold Addr.add;split <;> simp_all
  exact zel (P:=Tryz.prog) w base T o.type t i0 _ sz bytes hT hi HP HU HV v l.length xs h1 ⟨b,Hb,none⟩ m.length c ys hl Kt (fun j u hu=>by rw[Ke];exact HE j u hu) (Hq.one hE) (by unfold maxLen;omega) Ks HL
 have Hj:∀ {zs:List Value} {k:List α},RowOf sz E w zs k→(∀ g,v.ownBlock=some g→∀ u∈zs,zbu g u)→RowOf sz E w' zs k:=by
  intro zs k Kj J9
  cases hg:v.ownBlock with
  | none =>
   refine Kj.keep hE (Kj.fresh hE) fun p y hc _=>?_
   exact (P4 (g2.block _ (P3 _ _ hc) (by rw[hg];simp))).trans hc
  | some g =>
   refine Kj.keep hE (J9 g hg) fun p y hc H3=>?_
   exact (P4 (g2.block _ (P3 _ _ hc) (by rw[hg];simpa using H3))).trans hc
 unfold Oper.wp execOp;simp only[ho,resolve,invoke,builtin,Pb,Pa,P9,List.map_toArray,List.map_cons,List.map_nil,hs,hx,HL];obtain ⟨A,c,rfl,_,_⟩:=xO (xW g1)
 refine h A c w' ⟨xs++ys,?_,(Hj h2 h3).append (Hj Hq Kr),fun g hg u hu=>?_⟩ (fun W0 hX hb=>Ext.grownOwn hX (zai h1 hb) g2) g2
 ·rw[xL]
  exact g1
 ·rcases Kf with hb | hb
  ·rw[hb] at hg
   rcases List.mem_append.1 hu with hu | hu
   ·exact h3 g hg u hu
   ·exact Kr g hg u hu
  ·rw[hb] at hg
   cases hg
   rcases List.mem_append.1 hu with hu | hu
   ·exact h2.fresh hE u hu
   ·exact Hq.fresh hE u hu
theorem zfK (tmps:Array Value) (W:World) (b:Nat) (cs:Array Value) (e:Value) (h4:tmps.getD 4 undef=.pointer (some ⟨b,0,none⟩)) (h3:tmps.getD 5 undef=e) (hb:Blk W b 25 cs) (hs:cs.size=5):(results Tryz.f92 tmps).run Tryz.prog W=.ok (.tuple #[.agg cs,e]) W:=by
 have Kb:tmps[4]?.getD undef=.pointer (some ⟨b,0,none⟩):=by simpa using h4
 have Ka:tmps[5]?.getD undef=e:=by simpa using h3
 have hl:=hb.load (P:=Tryz.prog) zg3 rfl (by rw[hs];kernel_rfl)
 simp[results,Tryz.results92,Kb,Ka,asAddr,hl,Pb,Pa,P9]
theorem zsR (d:Dk) (n:List UInt8):zah n (zbE d.fs d.q)=zah n d.now:=((zgc d.fs d.q).g n).symm
theorem zqQ {d:Dk} {o:Oq} {m:Int} (h:d.may=m) (hm:m≠0):d.doS o=(d,m):=by
 subst h;unfold Dk.doS;rw[if_pos hm]
theorem zgy {W:World} {b j:Nat} {t:TypeId} {cs:Array Value} {u x:Value} {bs:List UInt8} (h:Bs W u bs) (hB:Blk W b t cs) (Hh:∀ (k:Nat) (n:Int),cs[k]?≠some (.int .u8 n)):Bs (W.setCell ⟨b,j,none⟩ x) u bs :=
 Bs.away h (Bs.awayBlk h hB Hh) fun _ _ hc H3=>zcg hc H3
theorem ztR {W:World} {b:Nat} {A A':Option Addr} {n c n' c':Nat} {B B':Option Addr} {m e m' e':Nat} {q f q' f':Int} {d d':Bool} {u:Value} {bs:List UInt8} (h:Bs W u bs) (hB:Blk W b 25 (zaz A n c B m e q f d)) :
  Bs (zcX W b (.slice A' n' c') (.slice B' m' e') (.int .i64 q') (.int .i64 f') (.bool d')) u bs:=by
 have b0:Blk _ b 25 (zaz A' n' c' B m e q f d):=hB.set 0 (.slice A' n' c')
 have b1:Blk _ b 25 (zaz A' n' c' B' m' e' q f d):=b0.set 1 (.slice B' m' e')
 have b2:Blk _ b 25 (zaz A' n' c' B' m' e' q' f d):=b1.set 2 (.int .i64 q')
 have b3:Blk _ b 25 (zaz A' n' c' B' m' e' q' f' d):=b2.set 3 (.int .i64 f')
 exact zgy (zgy (zgy (zgy (zgy h hB zaI) b0 zaI) b1 zaI) b2 zaI) b3 zaI
theorem OwnFA.grown {W W':World} {base:Nat} {v:Value} {l:List Fil} {row:Option Nat} (h:OwnFA W base v l (fun g=>row=some g)) (hg:W.grownBy W' row) (H3:v.ownBlock=none∨v.ownBlock≠row):OwnF W' base v l:=by
 obtain ⟨xs,h1,h2,h3,h4⟩:=h
 refine ⟨xs,h1.kept hg H3,?_,h3⟩
 cases row with
 | none=>exact h2.keep zbU (h2.fresh zbU) fun p x hc _=>(P4 (hg.block _ (P3 _ _ hc) (by simp))).trans hc
 | some g=>exact h2.keep zbU (h4 g rfl) fun p x hc H3=>(P4 (hg.block _ (P3 _ _ hc) (by simpa using H3))).trans hc
structure DoB (w W:World) (A:Option Addr) (c:Nat) (B:Option Addr) (e:Nat) (d:Dk) (vo:Value) (o:Oq):Prop where
 b0:Blk W w.heap.size 25 (zaz A d.fs.length c B d.q.length e d.quota d.fuse d.dead)
 b1:Blk W (w.heap.size+1) 86 #[.int .u8 o.k,.string ⟨o.n.toArray⟩,.string ⟨o.t.toArray⟩,vo]
 b2:Blk W (w.heap.size+1+1) 25 (zaz none 0 0 none 0 0 0 0 false)
 f:OwnFA W w.heap.size (.slice A d.fs.length c) d.fs (fun g=>(P6 B d.q.length e).ownBlock=some g)
 q:OwnQ W (w.heap.size+3) (.slice B d.q.length e) d.q
 b:Bs W vo o.b
 e:Ext w W
theorem DoB.ext {w W W':World} {A:Option Addr} {c:Nat} {B:Option Addr} {e:Nat} {d:Dk} {vo:Value} {o:Oq} (h:DoB w W A c B e d vo o) (hX:Ext W W'):DoB w W' A c B e d vo o :=
 ⟨h.b0.ext hX,h.b1.ext hX,h.b2.ext hX,h.f.ext hX,OwnX.ext zcQ h.q hX,h.b.ext hX,xT h.e hX⟩
theorem zuD (v:Value) (d:Dk) (n:Nat) (o:Oq) (vo:Value) (w:World) (hD:DkV w v d) (hn:n≤1000000) (hs:Sz n d) (hB:Bs w vo o.b) (KB:o.b.length≤1000000) :
  Calls Tryz.prog 92 #[v,.agg #[.int .u8 o.k,sv o.n,sv o.t,vo]] w fun e w'=>∃ u,e=.returned (.tuple #[u,.int .i64 (d.doS o).2])∧zjn w' w.heap.size u (d.doS o).1∧Ext w w':=by
 obtain ⟨vf,vq,rfl,hF,hQ⟩:=hD;obtain ⟨A,c,rfl,_,_⟩:=Fs.open_ hF;obtain ⟨B,e2,rfl,_,_⟩:=Qs.open_ hQ;obtain ⟨C,c2,rfl,_,_⟩:=xO hB
 simp only[sv] at *
 obtain ⟨W0,Hd⟩:∃ W0,((w.alloc (.cells #[.slice A d.fs.length c,.slice B d.q.length e2,.int .i64 d.quota,.int .i64 d.fuse,.bool d.dead] 25)).alloc (.cells #[.int .u8 o.k,.string ⟨o.n.toArray⟩,.string ⟨o.t.toArray⟩,.slice C o.b.length c2] 86)).alloc (.cells #[.slice none 0 0,.slice none 0 0,.int .i64 0,.int .i64 0,.bool false] 25)=W0:=⟨_,rfl⟩
 have Ha:Ext w W0:=by rw[←Hd];exact xA (xA (xA (xR _) _) _) _
 have h0:Blk W0 w.heap.size 25 (zaz A d.fs.length c B d.q.length e2 d.quota d.fuse d.dead):=by rw[←Hd];exact ((Blk.new w _ _).alloc _).alloc _
 have h1:Blk W0 (w.heap.size+1) 86 #[.int .u8 o.k,.string ⟨o.n.toArray⟩,.string ⟨o.t.toArray⟩,.slice C o.b.length c2]:=by
  rw[←Hd]
  have:=(Blk.new (w.alloc (.cells #[.slice A d.fs.length c,.slice B d.q.length e2,.int .i64 d.quota,.int .i64 d.fuse,.bool d.dead] 25)) 86 #[.int .u8 o.k,.string ⟨o.n.toArray⟩,.string ⟨o.t.toArray⟩,.slice C o.b.length c2]).alloc (.cells #[.slice none 0 0,.slice none 0 0,.int .i64 0,.int .i64 0,.bool false] 25)
  rwa [xS] at this
 have h2:Blk W0 (w.heap.size+1+1) 25 (zaz none 0 0 none 0 0 0 0 false):=by
  rw[←Hd]
  have:=Blk.new ((w.alloc (.cells #[.slice A d.fs.length c,.slice B d.q.length e2,.int .i64 d.quota,.int .i64 d.fuse,.bool d.dead] 25)).alloc (.cells #[.int .u8 o.k,.string ⟨o.n.toArray⟩,.string ⟨o.t.toArray⟩,.slice C o.b.length c2] 86)) 25 #[.slice none 0 0,.slice none 0 0,.int .i64 0,.int .i64 0,.bool false]
  rwa [xS,xS] at this
 have Hi:=zhd Ha;have H0:=zhd h0;have H1:=zhd h1;have H2:=zhd h2;have HB:=zhd (hB.ext Ha)
 have HC:=zhd (zhQ _ d n _ (show DkV W0 _ d from ⟨_,_,rfl,hF.ext Ha,hQ.ext Ha⟩) hn hs)
 clear h1 h2 hF hQ hB Ha;obtain ⟨g0,g1,g2,g3,g4⟩:=zac h0;clear h0;have HZ:=zhd hs;obtain ⟨S,hS⟩:∃ S,d.doS o=S:=⟨_,rfl⟩;rw[hS];have HS:=zhd hS;have K6:=zhd KB;clear hs hS KB
 go_enter Tryz.func92,Tryz.ntmps92
 go_wp2_with fail;clear g0 g1 g2 g3 g4
 refine HC.out.mono ?_
 rintro e w1 ⟨u,rfl,⟨A3,c3,B3,e3,rfl,of,oq⟩,Hc⟩;have Hn:=H0.out.ext Hc;obtain ⟨g0,g1,g2,g3,g4⟩:=zac Hn;obtain ⟨f0,f1,f2,f3,f4⟩:=za4 Hn
 have H3:w.heap.size+1≠w.heap.size:=by omega
 have H4:w.heap.size+1+1≠w.heap.size:=by omega
 have Kl:DoB w (zcX w1 w.heap.size (.slice A3 d.fs.length c3) (.slice B3 d.q.length e3) (.int .i64 d.quota) (.int .i64 d.fuse) (.bool d.dead)) A3 c3 B3 e3 d (.slice C o.b.length c2) o :=
  ⟨zaJ Hn _ _ _ _ _,(((((H1.out.ext Hc).other H3 0 _).other H3 1 _).other H3 2 _).other H3 3 _).other H3 4 _,(((((H2.out.ext Hc).other H4 0 _).other H4 1 _).other H4 2 _).other H4 3 _).other H4 4 _,
    OwnFA.box1 (of.base Hi.out.size) Hn,P2 (P1 oq (by rw[←Hd];simp only[xS];omega)) Hn,ztR (HB.out.ext Hc) Hn,zaB (xT Hi.out Hc) (xN _) _ _ _ _ _⟩
 have H:=zhd Kl;clear Hn H3 H4 Kl of oq Hc HC Hi H0 H1 H2 HB;go_wp2_with fail;clear f0 f1 f2 f3 f4 g0 g1 g2 g3 g4
 refine (zrj _ d n _ (show DkV _ _ d from ⟨_,_,rfl,H.out.f.f.fs,H.out.q.qs⟩) hn HZ.out).mono ?_
 rintro e w2 ⟨rfl,H9⟩
 replace H:=zhd (H.out.ext H9)
 clear H9
 rcases zld d with hm | hm | hm
 case inr.inl =>
  have e1:S=(d,2):=by rw[←HS.out];exact zqQ hm (by decide)
  subst e1;rw[hm];clear HS
  exact mcDDoa1
 case inr.inr =>
  have e1:S=(d,40):=by rw[←HS.out];exact zqQ hm (by decide)
  subst e1;rw[hm];clear HS;obtain ⟨g0,g1,g2,g3,g4⟩:=zac H.out.b0;obtain ⟨f0,f1,f2,f3,f4⟩:=za4 H.out.b2;obtain ⟨d0,d1,d2,d3,d4⟩:=zac H.out.b2;go_wp2_with fail
  refine bodyPost_ret (zfK _ _ _ _ (.int .i64 40) rfl rfl (zaJ H.out.b2 _ _ _ _ _) rfl) rfl ?_
  exact ⟨_,rfl,⟨_,_,_,_,rfl,P5 H.out.f.f H.out.b2,P2 (P1 H.out.q (by omega)) H.out.b2⟩,zaB H.out.e (by omega) _ _ _ _ _⟩
 have HM:=zhd hm;rw[hm];clear hm;obtain ⟨g0,g1,g2,g3,g4⟩:=zac H.out.b0;go_wp2_with fail;clear g0 g1 g2 g3 g4
 refine (zju _ d _ (show DkV _ _ d from ⟨_,_,rfl,H.out.f.f.fs,H.out.q.qs⟩) (by have:=HZ.out.l;omega) (by have:=HZ.out.l;omega) (by have:=HZ.out.t;omega)).mono ?_
 rintro e w3 ⟨r,rfl,KA,_,Km⟩
 replace H:=zhd (H.out.ext Km)
 have Hv:=zhd KA;clear Km KA;obtain ⟨k0,k1,k2,k3⟩:=blk4 H.out.b1;obtain ⟨is,Kv⟩:∃ is,(zah o.n (zbE d.fs d.q)).isSome=is:=⟨_,rfl⟩;have HI:=zhd Kv;clear Kv
 go_wp2_with (at_lookup;refine zcT rfl (.tmp 21) (.tmp 23) true rfl Tryz.underlying160 Tryz.underlying9 (zgM _) r (zbE d.fs d.q) rfl Hv.out o.n rfl ?_;rw[HI.out];intro A1 c1 Ht;simp only[if_true];clear Ht;obtain ⟨v1,KE⟩:∃ v1,P6 A1 ((zah o.n (zbE d.fs d.q)).getD []).length c1=v1:=⟨_,rfl⟩;rw[KE];clear KE)
 refine (zk5 o _ w3 H.out.b).mono ?_
 rintro e w4 ⟨rfl,Hs⟩;clear k0 k1 k2 k3
 replace H:=zhd (H.out.ext Hs)
 replace Hv:=zhd (Hv.out.ext Hs)
 clear Hs
 cases hfi:zbn o with
 | false =>
  have e1:S=(d,2):=by rw[←HS.out];unfold Dk.doS;rw[if_neg (by rw[HM.out];simp),if_pos hfi]
  subst e1;clear HS hfi
  exact mcDDoa1
 | true =>
 have HF:=zhd hfi;clear hfi;obtain ⟨k0,k1,k2,k3⟩:=blk4 H.out.b1
 have HY:zah o.n (zbE d.fs d.q)=zah o.n d.now:=zsR d o.n
 by_cases Hf:o.k≠1∧is=false
 case pos =>
  obtain ⟨Hf,rfl⟩:=Hf
  have e1:S=(d,42):=by rw[←HS.out];unfold Dk.doS;rw[if_neg (by rw[HM.out];simp),if_neg (by rw[HF.out];simp),if_pos ⟨by rw[←HY];simpa using HI.out,Hf⟩]
  subst e1
  have Jc:(o.k==1)=false:=by simpa using Hf
  have Jd:(o.k != 1)=true:=by simpa using Hf
  clear HS Hf HY;obtain ⟨g0,g1,g2,g3,g4⟩:=zac H.out.b0;obtain ⟨f0,f1,f2,f3,f4⟩:=za4 H.out.b2;obtain ⟨d0,d1,d2,d3,d4⟩:=zac H.out.b2;go_wp2_with fail
  refine bodyPost_ret (zfK _ _ _ _ (.int .i64 42) rfl rfl (zaJ H.out.b2 _ _ _ _ _) rfl) rfl ?_
  exact ⟨_,rfl,⟨_,_,_,_,rfl,P5 H.out.f.f H.out.b2,P2 (P1 H.out.q (by omega)) H.out.b2⟩,zaB H.out.e (by omega) _ _ _ _ _⟩
 have HN:=zhd (show ¬ (zah o.n d.now=none∧o.k≠1) from fun h=>Hf ⟨h.2,by rw[←HI.out,HY,h.1];rfl⟩)
 have HD:is=true∨is=false∧(o.k==1)=true∧(o.k != 1)=false:=by
  cases is with
  | true=>exact .inl rfl
  | false =>
   have:o.k=1:=Classical.not_not.1 fun h=>Hf ⟨h,rfl⟩
   exact .inr ⟨rfl,by simp[this],by simp[this]⟩
 clear Hf HY
 have Hr:Hid (S=if (o.k=2∧d.quota<(tot (zbE d.fs d.q):Int)+(o.b.length:Int))∨d.q.length=400 then (d,41) else ({ d with q:=d.q++[o] }.burn,0)) :=
  zhd (by rw[←HS.out];unfold Dk.doS;rw[if_neg (by rw[HM.out];simp),if_neg (by rw[HF.out];simp),if_neg HN.out,show tot d.now=tot (zbE d.fs d.q) from zfF d.fs d.q])
 have Je:=zfX d.fs d.q
 have HT:=zhd (show tot (zbE d.fs d.q)≤2000000 by have:=HZ.out.t;omega)
 have hw:IntKind.i64.wrap ((tot (zbE d.fs d.q):Int)+(o.b.length:Int))=(tot (zbE d.fs d.q):Int)+(o.b.length:Int):=by have:=HT.out;have:=K6.out;rw[IntKind.wrap_i64];omega
 clear HS HN HF HM HI Je;obtain ⟨g0,g1,g2,g3,g4⟩:=zac H.out.b0
 rcases HD with rfl | ⟨rfl,Jc,Jd⟩
 all_goals
  go_wp2_with fail
  refine wp_region_held_drew (S:=fun W=>W.cell? ⟨w.heap.size+1,0,none⟩=some (.int .u8 o.k)∧W.cell? ⟨w.heap.size+1,3,none⟩=some (.slice C o.b.length c2)∧W.cell? ⟨w.heap.size,1,none⟩=some (.slice B3 d.q.length e3)∧W.cell? ⟨w.heap.size,2,none⟩=some (.int .i64 d.quota)) (by kernel_rfl) ⟨k0,k3,g1,g2⟩ (fun _=>?_)
  by_cases hk4:o.k=2
  case' neg =>
   have Kw:(o.k==2)=false:=by simpa using hk4
   refine zaa (i:=0) (v:=?_) rfl (by kernel_rfl) (by kernel_rfl) (by kernel_rfl) (fun _ _ _ h=>h) (by rfl) (by assumption) (fun w hw=>?_) ?_
   rotate_left
   ·(try dsimp only at hw);go_simp;try with_reducible rfl
   try simp only[P0,sA,sZ,sS]
   refine zaa (i:=1) (v:=?_) rfl (by kernel_rfl) (by kernel_rfl) (by kernel_rfl) (fun _ _ _ h=>h) (by rfl) (by assumption) (fun w hw=>?_) ?_
   rotate_left
   ·(try dsimp only at hw);go_simp;try with_reducible rfl
   try simp only[P0,sA,sZ,sS]
   refine zaa (i:=2) (v:=?_) rfl (by kernel_rfl) (by kernel_rfl) (by kernel_rfl) (fun _ _ _ h=>h) (by rfl) (by assumption) (fun w hw=>?_) ?_
   rotate_left
   ·(try dsimp only at hw);go_simp;try with_reducible rfl
   try simp only[P0,sA,sZ,sS]
   refine zaa (i:=3) (v:=?_) rfl (by kernel_rfl) (by kernel_rfl) (by kernel_rfl) (fun _ _ _ h=>h) (by rfl) (by assumption) (fun w hw=>?_) ?_
   rotate_left
   ·(try dsimp only at hw);go_simp;try with_reducible rfl
   try simp only[P0,sA,sZ,sS]
   refine tkS 4 rfl ?_;refine tkS 5 rfl ?_;refine tkS 6 rfl ?_;refine tkS 7 rfl ?_;refine tkS 8 rfl ?_;refine tkS 9 rfl ?_;refine tkS 10 rfl ?_;refine tkS 11 rfl ?_;refine tkS 12 rfl ?_
   refine zaa (i:=13) (v:=?_) rfl (by kernel_rfl) (by kernel_rfl) (by kernel_rfl) (fun _ _ _ h=>h) (by rfl) (by assumption) (fun w hw=>?_) ?_
   rotate_left
   ·(try dsimp only at hw);go_simp;try with_reducible rfl
   try simp only[P0,sA,sZ,sS]
   refine zaa (i:=14) (v:=?_) rfl (by kernel_rfl) (by kernel_rfl) (by kernel_rfl) (fun _ _ _ h=>h) (by rfl) (by assumption) (fun w hw=>?_) ?_
   rotate_left
   ·(try dsimp only at hw);go_simp;try with_reducible rfl
   try simp only[P0,sA,sZ,sS]
   refine zaa (i:=15) (v:=?_) rfl (by kernel_rfl) (by kernel_rfl) (by kernel_rfl) (fun _ _ _ h=>h) (by rfl) (by assumption) (fun w hw=>?_) ?_
   rotate_left
   ·(try dsimp only at hw);go_simp;try with_reducible rfl
   try simp only[P0,sA,sZ,sS]
   refine zaa (i:=16) (v:=?_) rfl (by kernel_rfl) (by kernel_rfl) (by kernel_rfl) (fun _ _ _ h=>h) (by rfl) (by assumption) (fun w hw=>?_) ?_
   rotate_left
   ·(try dsimp only at hw);go_simp;try with_reducible rfl
   try simp only[P0,sA,sZ,sS]
   refine zaa (i:=17) (v:=?_) rfl (by kernel_rfl) (by kernel_rfl) (by kernel_rfl) (fun _ _ _ h=>h) (by rfl) (by assumption) (fun w hw=>?_) ?_
   rotate_left
   ·(try dsimp only at hw);go_simp;try with_reducible rfl
   try simp only[P0,sA,sZ,sS]
   obtain ⟨w5,KF⟩:∃ w5,w4.drew=w5:=⟨_,rfl⟩
   replace H:=zhd (show DoB w w5 A3 c3 B3 e3 d (.slice C o.b.length c2) o by rw[←KF];exact H.out.ext (xD (xR _)))
   have Hw:=zhd (show S=if d.q.length=400 then (d,41) else ({ d with q:=d.q++[o] }.burn,0) by rw[Hr.out];simp[hk4])
   clear hk4
  case' pos =>
   have Kw:(o.k==2)=true:=by simpa using hk4
   have J6:=zhd hk4;clear hk4
   refine zaa (i:=0) (v:=?_) rfl (by kernel_rfl) (by kernel_rfl) (by kernel_rfl) (fun _ _ _ h=>h) (by rfl) (by assumption) (fun w hw=>?_) ?_
   rotate_left
   ·(try dsimp only at hw);go_simp;try with_reducible rfl
   try simp only[P0,sA,sZ,sS]
   refine zaa (i:=1) (v:=?_) rfl (by kernel_rfl) (by kernel_rfl) (by kernel_rfl) (fun _ _ _ h=>h) (by rfl) (by assumption) (fun w hw=>?_) ?_
   rotate_left
   ·(try dsimp only at hw);go_simp;try with_reducible rfl
   try simp only[P0,sA,sZ,sS]
   refine zaa (i:=2) (v:=?_) rfl (by kernel_rfl) (by kernel_rfl) (by kernel_rfl) (fun _ _ _ h=>h) (by rfl) (by assumption) (fun w hw=>?_) ?_
   rotate_left
   ·(try dsimp only at hw);go_simp;try with_reducible rfl
   try simp only[P0,sA,sZ,sS]
   refine zaa (i:=3) (v:=?_) rfl (by kernel_rfl) (by kernel_rfl) (by kernel_rfl) (fun _ _ _ h=>h) (by rfl) (by assumption) (fun w hw=>?_) ?_
   rotate_left
   ·(try dsimp only at hw);go_simp;try with_reducible rfl
   try simp only[P0,sA,sZ,sS]
   refine zaa (i:=4) (v:=?_) rfl (by kernel_rfl) (by kernel_rfl) (by kernel_rfl) (fun _ _ _ h=>h) (by rfl) (by assumption) (fun w hw=>?_) ?_
   rotate_left
   ·(try dsimp only at hw);go_simp;try with_reducible rfl
   try simp only[P0,sA,sZ,sS]
   refine zaa (i:=6) (v:=?_) rfl (by kernel_rfl) (by kernel_rfl) (by kernel_rfl) (fun _ _ _ h=>h) (by rfl) (by assumption) (fun w hw=>?_) ?_
   rotate_left
   ·(try dsimp only at hw);go_simp;try with_reducible rfl
   try simp only[P0,sA,sZ,sS]
   refine zaa (i:=7) (v:=?_) rfl (by kernel_rfl) (by kernel_rfl) (by kernel_rfl) (fun _ _ _ h=>h) (by rfl) (by assumption) (fun w hw=>?_) ?_
   rotate_left
   ·(try dsimp only at hw);go_simp;try with_reducible rfl
   try simp only[P0,sA,sZ,sS]
   refine zaa (i:=8) (v:=?_) rfl (by kernel_rfl) (by kernel_rfl) (by kernel_rfl) (fun _ _ _ h=>h) (by rfl) (by assumption) (fun w hw=>?_) ?_
   rotate_left
   ·(try dsimp only at hw);go_simp;try with_reducible rfl
   try simp only[P0,sA,sZ,sS]
   refine zaa (i:=10) (v:=?_) rfl (by kernel_rfl) (by kernel_rfl) (by kernel_rfl) (fun _ _ _ h=>h) (by rfl) (by assumption) (fun w hw=>?_) ?_
   rotate_left
   ·(try dsimp only at hw);go_simp;try with_reducible rfl
   try simp only[P0,sA,sZ,sS]
   refine zaa (i:=11) (v:=?_) rfl (by kernel_rfl) (by kernel_rfl) (by kernel_rfl) (fun _ _ _ h=>h) (by rfl) (by assumption) (fun w hw=>?_) ?_
   rotate_left
   ·(try dsimp only at hw);go_simp;try with_reducible rfl
   try simp only[P0,sA,sZ,sS]
   refine ar1 5 rfl (fun K hK=>?_)
   go_simp
   refine (znk r _ _ (Hv.out.ext (xD (xR _))) (by have:=HT.out;omega)).mono ?_
   rintro e w5 ⟨rfl,Kn⟩
   replace H:=zhd (H.out.ext (xT (xD (xR _)) Kn))
   clear Kn k0 k1 k2 k3 g0 g1 g2 g3 g4;obtain ⟨k0,k1,k2,k3⟩:=blk4 H.out.b1;obtain ⟨g0,g1,g2,g3,g4⟩:=zac H.out.b0
   refine shK hK _ _ ⟨k0,k3,g1,g2⟩ (fun _=>?_)
   refine zaa (i:=9) (v:=?_) rfl (by kernel_rfl) (by kernel_rfl) (by kernel_rfl) (fun _ _ _ h=>h) (by rfl) (by assumption) (fun w hw=>?_) ?_
   rotate_left
   ·(try dsimp only at hw);go_simp;try with_reducible rfl
   try simp only[P0,sA,sZ,sS]
   by_cases hov:d.quota<(tot (zbE d.fs d.q):Int)+(o.b.length:Int)
   case pos =>
    have Kh:decide (d.quota<(tot (zbE d.fs d.q):Int)+(o.b.length:Int))=true:=by simpa using hov
    have e1:S=(d,41):=by rw[Hr.out,if_pos (.inl ⟨J6.out,hov⟩)]
    subst e1
    refine zaa (i:=12) (v:=?_) rfl (by kernel_rfl) (by kernel_rfl) (by kernel_rfl) (fun _ _ _ h=>h) (by rfl) (by assumption) (fun w hw=>?_) ?_
    rotate_left
    ·(try dsimp only at hw);go_simp;try with_reducible rfl
    try simp only[P0,sA,sZ,sS]
    refine zaa (i:=13) (v:=?_) rfl (by kernel_rfl) (by kernel_rfl) (by kernel_rfl) (fun _ _ _ h=>h) (by rfl) (by assumption) (fun w hw=>?_) ?_
    rotate_left
    ·(try dsimp only at hw);go_simp;try with_reducible rfl
    try simp only[P0,sA,sZ,sS]
    refine zaa (i:=14) (v:=?_) rfl (by kernel_rfl) (by kernel_rfl) (by kernel_rfl) (fun _ _ _ h=>h) (by rfl) (by assumption) (fun w hw=>?_) ?_
    rotate_left
    ·(try dsimp only at hw);go_simp;try with_reducible rfl
    try simp only[P0,sA,sZ,sS]
    refine tkS 15 rfl ?_;refine tkS 16 rfl ?_;refine tkS 17 rfl ?_;refine tkS 18 rfl ?_
    exact mcDDoa0
   have Kh:decide (d.quota<(tot (zbE d.fs d.q):Int)+(o.b.length:Int))=false:=by simpa using hov
   refine zaa (i:=12) (v:=?_) rfl (by kernel_rfl) (by kernel_rfl) (by kernel_rfl) (fun _ _ _ h=>h) (by rfl) (by assumption) (fun w hw=>?_) ?_
   rotate_left
   ·(try dsimp only at hw);go_simp;try with_reducible rfl
   try simp only[P0,sA,sZ,sS]
   refine zaa (i:=13) (v:=?_) rfl (by kernel_rfl) (by kernel_rfl) (by kernel_rfl) (fun _ _ _ h=>h) (by rfl) (by assumption) (fun w hw=>?_) ?_
   rotate_left
   ·(try dsimp only at hw);go_simp;try with_reducible rfl
   try simp only[P0,sA,sZ,sS]
   refine zaa (i:=14) (v:=?_) rfl (by kernel_rfl) (by kernel_rfl) (by kernel_rfl) (fun _ _ _ h=>h) (by rfl) (by assumption) (fun w hw=>?_) ?_
   rotate_left
   ·(try dsimp only at hw);go_simp;try with_reducible rfl
   try simp only[P0,sA,sZ,sS]
   refine zaa (i:=15) (v:=?_) rfl (by kernel_rfl) (by kernel_rfl) (by kernel_rfl) (fun _ _ _ h=>h) (by rfl) (by assumption) (fun w hw=>?_) ?_
   rotate_left
   ·(try dsimp only at hw);go_simp;try with_reducible rfl
   try simp only[P0,sA,sZ,sS]
   refine zaa (i:=16) (v:=?_) rfl (by kernel_rfl) (by kernel_rfl) (by kernel_rfl) (fun _ _ _ h=>h) (by rfl) (by assumption) (fun w hw=>?_) ?_
   rotate_left
   ·(try dsimp only at hw);go_simp;try with_reducible rfl
   try simp only[P0,sA,sZ,sS]
   refine zaa (i:=17) (v:=?_) rfl (by kernel_rfl) (by kernel_rfl) (by kernel_rfl) (fun _ _ _ h=>h) (by rfl) (by assumption) (fun w hw=>?_) ?_
   rotate_left
   ·(try dsimp only at hw);go_simp;try with_reducible rfl
   try simp only[P0,sA,sZ,sS]
   have Hw:=zhd (show S=if d.q.length=400 then (d,41) else ({ d with q:=d.q++[o] }.burn,0) by rw[Hr.out];simp[hov])
 all_goals
  clear Hr Kw Hv
  by_cases hq4:d.q.length=400
  case pos =>
   have KC:(((d.q.length:Nat):Int)==400)=true:=by simp;omega
   have e1:S=(d,41):=by rw[Hw.out,if_pos hq4]
   subst e1;clear Hw hq4
   refine zaa (i:=18) (v:=?_) rfl (by kernel_rfl) (by kernel_rfl) (by kernel_rfl) (fun _ _ _ h=>h) (by rfl) (by assumption) (fun w hw=>?_) ?_
   rotate_left
   ·(try dsimp only at hw);go_simp;try with_reducible rfl
   try simp only[P0,sA,sZ,sS]
   exact mcDDoa0
  have KC:(((d.q.length:Nat):Int)==400)=false:=by simp;omega
  have Jg:=zhd hq4
  have e1:S=({ d with q:=d.q++[o] }.burn,0):=by rw[Hw.out,if_neg hq4]
  subst e1;clear Hw hq4
  refine zaa (i:=18) (v:=?_) rfl (by kernel_rfl) (by kernel_rfl) (by kernel_rfl) (fun _ _ _ h=>h) (by rfl) (by assumption) (fun w hw=>?_) ?_
  rotate_left
  ·(try dsimp only at hw);go_simp;try with_reducible rfl
  try simp only[P0,sA,sZ,sS]
  refine zaa (i:=19) (v:=?_) rfl (by kernel_rfl) (by kernel_rfl) (by kernel_rfl) (fun _ _ _ h=>h) (by rfl) (by assumption) (fun w hw=>?_) ?_
  rotate_left
  ·(try dsimp only at hw);go_simp;try with_reducible rfl
  try simp only[P0,sA,sZ,sS]
  refine zaa (i:=20) (v:=?_) rfl (by kernel_rfl) (by kernel_rfl) (by kernel_rfl) (fun _ _ _ h=>h) (by rfl) (by assumption) (fun w hw=>?_) ?_
  rotate_left
  ·(try dsimp only at hw);go_simp;try with_reducible rfl
  try simp only[P0,sA,sZ,sS]
  refine wpAnyH_done (by kernel_rfl) ?_ _
  try rw[KF]
  clear KC k0 k1 k2 k3 g0 g1 g2 g3 g4;obtain ⟨k0,k1,k2,k3⟩:=blk4 H.out.b1;obtain ⟨g0,g1,g2,g3,g4⟩:=zac H.out.b0;go_wp2_with fail
 all_goals
  refine wp_region_held_drew (S:=fun W=>W.cell? ⟨w.heap.size+1,0,none⟩=some (.int .u8 o.k)∧W.cell? ⟨w.heap.size+1,1,none⟩=some (.string ⟨o.n.toArray⟩)∧W.cell? ⟨w.heap.size+1,2,none⟩=some (.string ⟨o.t.toArray⟩)∧W.cell? ⟨w.heap.size+1,3,none⟩=some (.slice C o.b.length c2)) (by kernel_rfl) ⟨k0,k1,k2,k3⟩ (fun _=>?_)
  refine zaa (i:=0) (v:=?_) rfl (by kernel_rfl) (by kernel_rfl) (by kernel_rfl) (fun _ _ _ h=>h) (by rfl) (by assumption) (fun w hw=>?_) ?_
  rotate_left
  ·(try dsimp only at hw);go_simp;try with_reducible rfl
  try simp only[P0,sA,sZ,sS]
  refine zaa (i:=2) (v:=?_) rfl (by kernel_rfl) (by kernel_rfl) (by kernel_rfl) (fun _ _ _ h=>h) (by rfl) (by assumption) (fun w hw=>?_) ?_
  rotate_left
  ·(try dsimp only at hw);go_simp;try with_reducible rfl
  try simp only[P0,sA,sZ,sS]
  refine AllReadyH.two (i:=1) (j:=3) rfl rfl (by kernel_rfl) (by rfl) (by rfl) (fun K hK=>?_) (fun K hK=>?_)
  go_simp
  refine shK hK _ _ ⟨k0,k1,k2,k3⟩ (fun _=>?_)
  refine ar1 3 rfl (fun K hK=>?_)
  go_simp
  refine (zmK o _ _ (H.out.b.ext (xD (xR _))) (by have:=K6.out;omega)).mono ?_
  rintro e w6 ⟨A6,c6,rfl,HJ,Hz⟩;have K4:=zhd HJ
  replace H:=zhd (H.out.ext (xT (xD (xR _)) Hz))
  clear Hz HJ k0 k1 k2 k3 g0 g1 g2 g3 g4;obtain ⟨k0,k1,k2,k3⟩:=blk4 H.out.b1
  refine shK hK _ _ ⟨k0,k1,k2,k3⟩ (fun _=>?_)
  refine ar1 4 rfl (fun K hK=>?_)
  go_simp
  refine shK hK _ _ (blk4 (H.out.b1.alloc _)) (fun _=>?_)
  rotate_left
  go_simp
  refine (zmK o _ _ (H.out.b.ext (xD (xR _))) (by have:=K6.out;omega)).mono ?_
  rintro e w6 ⟨A6,c6,rfl,HJ,Hz⟩;have K4:=zhd HJ
  replace H:=zhd (H.out.ext (xT (xD (xR _)) Hz))
  clear Hz HJ k0 k1 k2 k3 g0 g1 g2 g3 g4;obtain ⟨k0,k1,k2,k3⟩:=blk4 H.out.b1;obtain ⟨g0,g1,g2,g3,g4⟩:=zac H.out.b0
  refine shK hK _ _ ⟨k0,k1,k2,k3⟩ (fun _=>?_)
  refine AllReadyH.two (i:=1) (j:=4) rfl rfl (by kernel_rfl) (by rfl) (by rfl) (fun K hK=>?_) (fun K hK=>?_)
  go_simp
  refine shK hK _ _ ⟨k0,k1,k2,k3⟩ (fun _=>?_)
  refine ar1 4 rfl (fun K hK=>?_)
  go_simp
  refine shK hK _ _ (blk4 (H.out.b1.alloc _)) (fun _=>?_)
  rotate_left
  go_simp
  refine shK hK _ _ (blk4 (H.out.b1.alloc _)) (fun _=>?_)
  have J7:(w6.alloc (.cells #[.int .u8 o.k,sv o.n,sv o.t,.slice A6 o.b.length c6] 86)).cell? ⟨w.heap.size,1,none⟩=some (.slice B3 d.q.length e3):=(H.out.b0.alloc _).cell 1 rfl
  refine ar1 1 rfl (fun K hK=>?_)
  go_simp
  refine shK hK _ _ (blk4 (H.out.b1.alloc _)) (fun _=>?_)
  rotate_left
 all_goals
  clear k0 k1 k2 k3
  try clear g0 g1 g2 g3 g4
  try clear J7
  have Kd:Ext w6 (w6.alloc (.cells #[.int .u8 o.k,sv o.n,sv o.t,.slice A6 o.b.length c6] 86)):=xA (xR _) _
  have KD:=zfc w6 [.int .u8 o.k,sv o.n,sv o.t,.slice A6 o.b.length c6] 86 4 rfl rfl;have Hq:=zfU (o:=o) (Bs.ext K4.out.bs Kd);have H6:=H.out.ext Kd
  have Kq:∀ g,(P6 B3 d.q.length e3).ownBlock=some g→∀ y∈[.int .u8 o.k,sv o.n,sv o.t,.slice A6 o.b.length c6],zbu g y:=by
   intro g hg y hy;obtain ⟨_,cs,Jb⟩:=zcv H.out.q hg;simp only[List.mem_cons,List.not_mem_nil,or_false] at hy
   rcases hy with rfl | rfl | rfl | rfl
   ·exact zeB _ _ _
   ·exact za0 _ _
   ·exact za0 _ _
   ·exact OwnB.awayT K4.out Jb (by decide)
  obtain ⟨i0,hi,HP,HU,HV⟩:=info_parts ziF
  have Kz:d.q.length+1≤4000000:=by have:=HZ.out.l;omega
  have K3:w.heap.size+3≤(w6.alloc (.cells #[.int .u8 o.k,sv o.n,sv o.t,.slice A6 o.b.length c6] 86)).heap.size:=by have:=H6.b2.lt;omega
  refine ar1 5 rfl (fun K hK=>?_)
  refine znq zcQ (.tmp 64) (.tmp 67) 23 rfl 86 i0 _ 64 Tryz.underlying23 hi HP HU HV rfl (by decide) (by decide) (w.heap.size+3) _ d.q rfl H6.q _ [o] [.int .u8 o.k,sv o.n,sv o.t,.slice A6 o.b.length c6] rfl KD Hq (by simp) Kq (by simpa using Kz) K3 ?_
  intro A7 c7 w7 K0 Kp HH
  have Hg:d.q.length+[o].length=(d.q++[o]).length:=by simp
  rw[Hg] at K0 ⊢
  obtain ⟨q7,HK⟩:∃ q7,d.q++[o]=q7:=⟨_,rfl⟩
  rw[HK] at K0 ⊢
  have Hh:∀ b,b<w.heap.size+3→some b≠(P6 B3 d.q.length e3).ownBlock:=fun b hb e=>by have:=(zcv H6.q e.symm).1;omega
  have b0:=H6.b0.kept HH (Hh _ (by omega));have b1:=H6.b1.kept HH (Hh _ (by omega));have b2:=H6.b2.kept HH (Hh _ (by omega))
  have Ku:OwnF w7 w.heap.size (.slice A3 d.fs.length c3) d.fs:=OwnFA.grown H6.f HH (by
   cases hf:(P6 A3 d.fs.length c3).ownBlock with
   | none=>exact .inl rfl
   | some g =>
    refine .inr fun e=>?_
    obtain ⟨_,cs,h1⟩:=zcv H6.q e.symm;obtain ⟨_,Jh,h2⟩:=zcv H6.f.f hf;rw[h1] at h2
    cases h2)
  have Ko:Ext w w7:=Kp w H6.e (by omega)
  have c0:Blk _ w.heap.size 25 (zaz A3 d.fs.length c3 A7 q7.length c7 d.quota d.fuse d.dead):=Blk.set (b:=w.heap.size) b0 1 (.slice A7 q7.length c7)
  have H3:w.heap.size+1≠w.heap.size:=by omega
  have H4:w.heap.size+1+1≠w.heap.size:=by omega
  have B1:=zhd (b1.other H3 1 (.slice A7 q7.length c7));have B2:=zhd (b2.other H4 1 (.slice A7 q7.length c7));have OF:=zhd (OwnF.setD (j:=1) (u:=.slice A7 q7.length c7) Ku (by decide) b0 zaI)
  have OQ:=zhd (OwnQ.setD (j:=1) (u:=.slice A7 q7.length c7) (P1 K0 (show w.heap.size≤_ by omega)) (by decide) b0 zaI)
  have OE:=zhd (Below.setCell (p:=⟨w.heap.size,1,none⟩) Ko (xN _) (.slice A7 q7.length c7));have C0:=zhd c0
  refine shK hK _ _ (blk4 b1) (fun _=>?_)
  refine zaa (i:=6) (v:=?_) rfl (by kernel_rfl) (by kernel_rfl) (by kernel_rfl) (fun _ _ _ h=>h) (by rfl) (by assumption) (fun w hw=>?_) ?_
  rotate_left
  ·(try dsimp only at hw);go_simp;try with_reducible rfl
  try simp only[P0,sA,sZ,sS]
  have g1:=b0.cell 1 rfl;have f1:=b0.frozen 1;clear b0 b1 b2 c0 Ku Ko K0 Kp HH Hh Hg Kq KD Hq H6 Kd H Kz K3 hi HP HU HV i0 H3 H4
  refine ar1 7 rfl (fun K hK=>?_)
  go_simp
  refine shK hK _ _ (blk4 B1.out) (fun _=>?_)
  refine wpAnyH_done (by kernel_rfl) ?_ _;clear g1 f1;go_wp2_with fail
  refine (zmg w.heap.size _ _ d.quota d.fuse d.dead _ C0.out HZ.out.f).mono ?_
  rintro e w8 ⟨rfl,KH⟩;obtain ⟨Ht,K1,K2,Hp,Ho⟩:=zmi (d:={ d with q:=q7 }) C0.out OF.out OQ.out;rw[KH] at Ht K1 K2 Hp Ho
  have H8:=Hp _ _ _ (show w.heap.size+1+1≠w.heap.size by omega) B2.out
  have Hs:=Ho _ OE.out (xN _);obtain ⟨d5,HG⟩:∃ x,({ d with q:=q7 }:Dk).burn=x:=⟨_,rfl⟩;rw[HG] at Ht K1 K2;have H5:=zhd HG;have H7:=zhd HK;clear HG HK;obtain ⟨g0,g1,g2,g3,g4⟩:=zac Ht;obtain ⟨f0,f1,f2,f3,f4⟩:=za4 H8;obtain ⟨d0,d1,d2,d3,d4⟩:=zac H8;have Q1:=zhd H8;have Q2:=zhd K1;have Q3:=zhd K2;have Q4:=zhd Hs;clear Ht H8 K1 K2 Hp Ho Hs C0 OF OQ B1 B2 OE KH;go_wp2_with fail
  refine bodyPost_ret (zfK _ _ _ _ (.int .i64 0) rfl rfl (zaJ Q1.out _ _ _ _ _) rfl) rfl ?_
  have HG:=H5.out;have HK:=H7.out;subst HG;subst HK
  exact ⟨_,rfl,⟨_,_,_,_,rfl,P5 Q2.out Q1.out,P2 Q3.out Q1.out⟩,zaB Q4.out (by omega) _ _ _ _ _⟩
theorem Qs.setD {W:World} {b j:Nat} {t:TypeId} {cs:Array Value} {v u:Value} {l:List Oq} (h:Qs W v l) (hB:Blk W b t cs) (Hh:∀ (k:Nat) (n:Int),cs[k]?≠some (.int .u8 n)):Qs (W.setCell ⟨b,j,none⟩ u) v l:=by
 obtain ⟨xs,h1,h2⟩:=h;obtain ⟨hl,A,c,rfl,g1,g2,g3⟩:=h1
 refine ⟨xs,⟨hl,A,c,rfl,g1,g2,fun hn=>?_⟩,h2.keep zcQ (zll h2 hB Hh) fun _ _ hc hp=>zcg hc hp⟩
 obtain ⟨b',Hb,rfl,hc⟩:=g3 hn;have h0:=(h2.2 0 hn).1
 have J8:xs[0]?=some (.int .u8 l[0].k):=by simpa using h0
 have H3:b'≠b:=by
  rintro rfl
  have:=hc 0 _ J8
  exact Hh _ _ (zjr hB this)
 exact ⟨b',Hb,rfl,fun j u hu=>zcg (hc j u hu) H3⟩
theorem Qs.box1 {W:World} {b:Nat} {A A':Option Addr} {n c n' c':Nat} {B B':Option Addr} {m e m' e':Nat} {q f q' f':Int} {d d':Bool} {v:Value} {l:List Oq} (h:Qs W v l) (hB:Blk W b 25 (zaz A n c B m e q f d)) :
  Qs (zcX W b (.slice A' n' c') (.slice B' m' e') (.int .i64 q') (.int .i64 f') (.bool d')) v l:=by
 have b0:Blk _ b 25 (zaz A' n' c' B m e q f d):=hB.set 0 (.slice A' n' c')
 have b1:Blk _ b 25 (zaz A' n' c' B' m' e' q f d):=b0.set 1 (.slice B' m' e')
 have b2:Blk _ b 25 (zaz A' n' c' B' m' e' q' f d):=b1.set 2 (.int .i64 q')
 have b3:Blk _ b 25 (zaz A' n' c' B' m' e' q' f' d):=b2.set 3 (.int .i64 f')
 exact Qs.setD (Qs.setD (Qs.setD (Qs.setD (Qs.setD h hB zaI) b0 zaI) b1 zaI) b2 zaI) b3 zaI
theorem zgX {W:World} {b:Nat} {a v u x y:Value} {p:Addr} {z:Value} (h:W.cell? p=some z) (hp:p.block≠b):(zcX W b a v u x y).cell? p=some z:=zcg (zcg (zcg (zcg (zcg h hp) hp) hp) hp) hp
theorem zjv (tmps:Array Value) (W:World) (b:Nat) (cs:Array Value) (e:Value) (h4:tmps.getD 6 undef=.pointer (some ⟨b,0,none⟩)) (h3:tmps.getD 7 undef=e) (hb:Blk W b 25 cs) (hs:cs.size=5):(results Tryz.f49 tmps).run Tryz.prog W=.ok (.tuple #[.agg cs,e]) W:=by
 have Kb:tmps[6]?.getD undef=.pointer (some ⟨b,0,none⟩):=by simpa using h4
 have Ka:tmps[7]?.getD undef=e:=by simpa using h3
 have hl:=hb.load (P:=Tryz.prog) zg3 rfl (by rw[hs];kernel_rfl)
 simp[results,Tryz.results49,Kb,Ka,asAddr,hl,Pb,Pa,P9]
structure SdI (w:World) (sync:Bool) (T:Dk×Int) (v:Value) (ql:List Oq) (A:Option Addr) (c:Nat) (B:Option Addr) (e:Nat) (d:Dk) (n:Nat) (W:World):Prop where
 bx:Blk W (w.heap.size+1) 25 (zaz A d.fs.length c B d.q.length e d.quota d.fuse d.dead)
 f:OwnF W w.heap.size (.slice A d.fs.length c) d.fs
 q:OwnQ W w.heap.size (.slice B d.q.length e) d.q
 qs:Qs W v ql
 t:zaN sync d ql=T
 x:Ext w W
 sz:Sz n d
 le:n+ql.length+zaG ql≤1000000
def SdR (w:World) (sync:Bool) (T:Dk×Int) (a:Act) (W:World):Prop :=
 ∃ (q:List Oq) (C:Option Addr) (c2:Nat) (A:Option Addr) (c:Nat) (B:Option Addr) (e:Nat) (d:Dk) (n:Nat) (u0 u8 u9 KI KJ KK KL KM KN KO KP KQ KR KT KU KV KW KX KY KZ J0 J1 J2 J3 J4 J5:Value),Hid (SdI w sync T (.slice C q.length c2) q A c B e d n W)∧a=⟨#[u0,.bool sync,.slice C q.length c2,.pointer (some ⟨w.heap.size,0,none⟩),undef,undef,.pointer (some ⟨w.heap.size+1,0,none⟩),.int .i64 0,u8,u9,KI,KJ,KK,KL,KM,KN,KO,KP,KQ,KR,KT,KU,KV,KW,KX,KY,KZ,J0,J1,J2,J3,J4,J5],[]⟩
theorem zhR (v:Value) (d:Dk) (n:Nat) (sync:Bool) (vq:Value) (q:List Oq) (w:World) (hD:DkV w v d) (hs:Sz n d) (Kc:Qs w vq q) (Kx:n+q.length+zaG q≤1000000) :
  Calls Tryz.prog 49 #[v,.bool sync,vq] w fun e w'=>∃ u,e=.returned (.tuple #[u,.int .i64 (zaN sync d q).2])∧zjn w' w.heap.size u (zaN sync d q).1∧Ext w w':=by
 obtain ⟨vf,Jm,rfl,hF,hQ⟩:=hD;obtain ⟨A,c,rfl,_,_⟩:=Fs.open_ hF;obtain ⟨B,e2,rfl,_,_⟩:=Qs.open_ hQ;obtain ⟨C,c2,rfl,_,_⟩:=Qs.open_ Kc;obtain ⟨W0,Hd⟩:∃ W0,(w.alloc (.cells #[.slice A d.fs.length c,.slice B d.q.length e2,.int .i64 d.quota,.int .i64 d.fuse,.bool d.dead] 25)).alloc (.cells #[.slice none 0 0,.slice none 0 0,.int .i64 0,.int .i64 0,.bool false] 25)=W0:=⟨_,rfl⟩
 have Ha:Ext w W0:=by rw[←Hd];exact xA (xA (xR _) _) _
 have h0:Blk W0 w.heap.size 25 (zaz A d.fs.length c B d.q.length e2 d.quota d.fuse d.dead):=by rw[←Hd];exact (Blk.new w _ _).alloc _
 have h2:Blk W0 (w.heap.size+1) 25 (zaz none 0 0 none 0 0 0 0 false):=by
  rw[←Hd]
  have:=Blk.new (w.alloc (.cells #[.slice A d.fs.length c,.slice B d.q.length e2,.int .i64 d.quota,.int .i64 d.fuse,.bool d.dead] 25)) 25 #[.slice none 0 0,.slice none 0 0,.int .i64 0,.int .i64 0,.bool false]
  rwa [xS] at this
 have Hi:=zhd Ha;have H2:=zhd h2;have HQ:=zhd (Kc.ext Ha)
 have HC:=zhd (zhQ _ d n _ (show DkV W0 _ d from ⟨_,_,rfl,hF.ext Ha,hQ.ext Ha⟩) (by omega) hs)
 clear h2 hF hQ Ha Kc;obtain ⟨g0,g1,g2,g3,g4⟩:=zac h0;clear h0;have HZ:=zhd hs;have Hu:=zhd Kx;obtain ⟨T,hT⟩:∃ T,zaN sync d q=T:=⟨_,rfl⟩;rw[hT];have HT:=zhd hT;clear hs hT Kx
 refine (callsIn_wd (ro:=none) (n:=9)).1 ?_
 refine callsIn_of_wp Tryz.func49 rfl trivial ?_ rfl
 simp only[Tryz.ntmps49,List.size_toArray,xC,List.length_nil,Nat.reduceAdd,Nat.reduceSub,Array.replicate_succ,Array.replicate_zero,List.push_toArray,List.append_toArray,xI,List.cons_append]
 gi_wp2
 refine zbl 0 (SdR w sync T) (fun a _=>lenOf (a.tmps.getD 2 undef)) rfl (fun l' h=>by cases l' <;> first | exact absurd rfl h | rfl) ?_ ?_
 ·intro Hk
  have Hx:=zhd Hk;clear Hk
  gi_wp2_with (refine ⟨trivial,?_⟩;gi_at_call 47;refine (callsIn_wd.2 HC.out).mono ?_;rintro e w1 ⟨u,rfl,⟨A3,c3,B3,e3,rfl,of,oq⟩,Hc⟩;have H8:=H2.out.ext Hc;obtain ⟨d0,d1,d2,d3,d4⟩:=zac H8;obtain ⟨f0,f1,f2,f3,f4⟩:=za4 H8)
  refine wpIn_label ?_
  gi_step
  gi_step
  refine Hx.out _ _ ⟨q,C,c2,A3,c3,B3,e3,d,n,_,_,_,_,_,_,_,_,_,_,_,_,_,_,_,_,_,_,_,_,_,_,_,_,_,_,zhd ?_,rfl⟩
  exact ⟨zaJ H8 _ _ _ _ _,P5 (P1 of.f Hi.out.size) H8,P2 (P1 oq Hi.out.size) H8,Qs.box1 (HQ.out.ext Hc) H8,HT.out,zaB (xT Hi.out Hc) (P7 _) _ _ _ _ _,HZ.out,Hu.out⟩
 ·clear Hi H2 HQ HC HZ Hu HT g0 g1 g2 g3 g4 Hd W0
  rintro a w1 ⟨q1,C1,c1,A1,k1,B1,e1,d1,n1,u0,u8,u9,KI,KJ,KK,KL,KM,KN,KO,KP,KQ,KR,KT,KU,KV,KW,KX,KY,KZ,J0,J1,J2,J3,J4,J5,HI,rfl⟩
  cases q1 with
  | nil =>
   cases sync with
   | false =>
    obtain ⟨g0,g1,g2,g3,g4⟩:=zac HI.out.bx;obtain ⟨f0,f1,f2,f3,f4⟩:=za4 HI.out.bx
    gi_wp2
    refine zat ?_
    have ht:=HI.out.t;subst ht
    refine bodyPost_ret (zjv _ _ _ _ (.int .i64 0) rfl rfl (zaJ HI.out.bx _ _ _ _ _) rfl) rfl ?_
    exact ⟨_,rfl,⟨_,_,_,_,rfl,P5 HI.out.f HI.out.bx,P2 HI.out.q HI.out.bx⟩,zaB HI.out.x (P7 _) _ _ _ _ _⟩
   | true =>
    obtain ⟨g0,g1,g2,g3,g4⟩:=zac HI.out.bx
    gi_wp2_with (refine ⟨trivial,?_⟩;gi_at_call 93;refine (callsIn_wd.2 (zsm _ d1 n1 _ (show DkV w1 _ d1 from ⟨_,_,rfl,HI.out.f.fs,HI.out.q.qs⟩) (by have:=HI.out.le;omega) HI.out.sz)).mono ?_;rintro e w2 ⟨u,rfl,⟨A5,k5,B5,e5,rfl,of,oq⟩,H9⟩;have H8:=HI.out.bx.ext H9;obtain ⟨d0,Ji,d2,d3,d4⟩:=zac H8;obtain ⟨f0,f1,f2,f3,f4⟩:=za4 H8)
    refine zat ?_
    have ht:=HI.out.t;subst ht
    refine bodyPost_ret (zjv _ _ _ _ (.int .i64 d1.syncS.2) rfl rfl (zaJ H8 _ _ _ _ _) rfl) rfl ?_
    exact ⟨_,rfl,⟨_,_,_,_,rfl,P5 (P1 of HI.out.x.size) H8,P2 (P1 oq HI.out.x.size) H8⟩,zaB (xT HI.out.x H9) (P7 _) _ _ _ _ _⟩
  | cons o q1 =>
   obtain ⟨_,b,Hb,rfl,hc⟩:=HI.out.qs.at_ (by simp);obtain ⟨k0,k2,k3,D,dd,k4,Kg⟩:=hc 0 (by simp);simp only[List.getElem_cons_zero,Nat.zero_mul,Nat.add_zero] at k0 k2 k3 k4 Kg;have Kk:=zhd Kg;obtain ⟨_,_,e,Jj,Jk⟩:=Qs.open_ HI.out.qs
   cases e
   clear hc Kg;obtain ⟨ok,on,ot,ob⟩:=o
   dsimp only at *
   simp only[xC] at *
   gi_wp2
   refine zc8 (S:=fun W=>W.cell? ⟨b,Hb,none⟩=some (.int .u8 ok)∧W.cell? ⟨b,Hb+1,none⟩=some (.string ⟨on.toArray⟩)∧W.cell? ⟨b,Hb+2,none⟩=some (.string ⟨ot.toArray⟩)∧W.cell? ⟨b,Hb+3,none⟩=some (.slice D ob.length dd)) (by kernel_rfl) ⟨k0,k2,k3,k4⟩ (fun _=>?_)
   refine tkN 1 rfl ?_;refine tkN 2 rfl ?_;refine tkN 3 rfl ?_;obtain ⟨g0,g1,g2,g3,g4⟩:=zac (HI.out.bx.ext (xD (xR _)))
   refine ar1 0 rfl (fun K hK=>?_)
   go_simp
   refine shK hK _ _ ⟨k0,k2,k3,k4⟩ (fun _=>?_)
   refine ar1 4 rfl (fun K hK=>?_)
   go_simp
   have He:b≠w.heap.size+1:=by
    rintro rfl
    exact zaI _ _ (zjr HI.out.bx k0)
   have Ky:ob.length≤1000000:=by have:=HI.out.le;rw[zbJ] at this;dsimp only at this;omega
   obtain ⟨⟨d2,E⟩,hR⟩:∃ R,d1.doS ⟨ok,on,ot,ob⟩=R:=⟨_,rfl⟩
   have HO:Sz (n1+1+ob.length) d2:=by have:=Sz.doS HI.out.sz ⟨ok,on,ot,ob⟩;rw[hR] at this;exact this
   have hC:=zuD _ d1 n1 ⟨ok,on,ot,ob⟩ _ w1.drew (show DkV w1.drew (.agg #[.slice A1 d1.fs.length k1,.slice B1 d1.q.length e1,.int .i64 d1.quota,.int .i64 d1.fuse,.bool d1.dead]) d1 from ⟨_,_,rfl,Fs.ext HI.out.f.fs (xD (xR _)),Qs.ext HI.out.q.qs (xD (xR _))⟩) (by have:=HI.out.le;omega) HI.out.sz (Bs.ext Kk.out (xD (xR _))) Ky
   rw[hR] at hC
   refine hC.mono ?_
   rintro e w2 ⟨u,rfl,⟨A5,k5,B5,e5,rfl,of,oq⟩,Hy⟩
   have H9:Ext w1 w2:=xT (xD (xR _)) Hy
   have ht:=HI.out.t;rw[zaN,hR] at ht;have HT:=zhd ht;have HR:=zhd hR;have Hr:=zhd HO;have Hl:=zhd (HI.out.bx.ext H9);have K5:=zhd (P5 (A':=A5) (n':=d2.fs.length) (c':=k5) (B':=B5) (m':=d2.q.length) (e':=e5) (q':=d2.quota) (f':=d2.fuse) (d':=d2.dead) (P1 of (P8 HI.out.x.size (by simp))) Hl.out);have K7:=zhd (P2 (A':=A5) (n':=d2.fs.length) (c':=k5) (B':=B5) (m':=d2.q.length) (e':=e5) (q':=d2.quota) (f':=d2.fuse) (d':=d2.dead) (P1 oq (P8 HI.out.x.size (by simp))) Hl.out);have K8:=zhd (Qs.box1 (A':=A5) (n':=d2.fs.length) (c':=k5) (B':=B5) (m':=d2.q.length) (e':=e5) (q':=d2.quota) (f':=d2.fuse) (d':=d2.dead) (HI.out.qs.ext H9) Hl.out);have HX:=zhd (zaB (xT HI.out.x H9) (P7 w.heap.size) (.slice A5 d2.fs.length k5) (.slice B5 d2.q.length e5) (.int .i64 d2.quota) (.int .i64 d2.fuse) (.bool d2.dead))
   have Hm:=zhd (show Blk (zcX w2 (w.heap.size+1) (.slice A5 d2.fs.length k5) (.slice B5 d2.q.length e5) (.int .i64 d2.quota) (.int .i64 d2.fuse) (.bool d2.dead)) (w.heap.size+1) 25 (zaz A5 d2.fs.length k5 B5 d2.q.length e5 d2.quota d2.fuse d2.dead) from zaJ Hl.out _ _ _ _ _)
   have Hu:=zhd (show n1+1+ob.length+q1.length+zaG q1≤1000000 by have:=HI.out.le;rw[zbJ] at this;dsimp only[List.length_cons] at this;omega)
   have e0:=H9.cell k0;have e2:=H9.cell k2;have e3:=H9.cell k3;have e4:=H9.cell k4;clear g0 g1 g2 g3 g4 k0 k2 k3 k4 hC of oq H9 Hy HI Kk hR HO Ky ht
   refine shK hK _ _ ⟨e0,e2,e3,e4⟩ (fun _=>?_)
   refine tkN 5 rfl ?_;refine tkN 6 rfl ?_;refine tkN 7 rfl ?_;obtain ⟨g0,g1,g2,g3,g4⟩:=zac Hl.out;obtain ⟨f0,f1,f2,f3,f4⟩:=za4 Hl.out
   refine ar1 8 rfl (fun K hK=>?_)
   go_simp
   refine shK hK _ _ ⟨zgX e0 He,zgX e2 He,zgX e3 He,zgX e4 He⟩ (fun _=>?_)
   refine tkN 9 rfl ?_;refine wpAnyH_done (by kernel_rfl) ?_ _
   refine zdR ?_
   clear g0 g1 g2 g3 g4 f0 f1 f2 f3 f4 e0 e2 e3 e4;obtain ⟨W3,HW⟩:∃ W3,zcX w2 (w.heap.size+1) (.slice A5 d2.fs.length k5) (.slice B5 d2.q.length e5) (.int .i64 d2.quota) (.int .i64 d2.fuse) (.bool d2.dead)=W3:=⟨_,rfl⟩;rw[HW] at K5 K7 K8 HX Hm
   delta zcX at HW
   rw[HW];clear HW Hl
   have Jl:q1.length≤1000000:=by have:=Hu.out;omega
   by_cases hE:E=0
   ·subst hE
    have K9:=zhd (show zaN sync d2 q1=T from by have:=HT.out;rwa [if_pos rfl] at this)
    clear HT HR
    gi_wp2
    all_goals
     refine wpIn_goto ?_
     try simp only[Exit.then]
     refine zag (by simp) ⟨⟨q1,_,_,A5,k5,B5,e5,d2,n1+1+ob.length,_,_,_,_,_,_,_,_,_,_,_,_,_,_,_,_,_,_,_,_,_,_,_,_,_,_,zhd ?_,rfl⟩,by simp[lenOf]⟩
     refine ⟨Hm.out,K5.out,K7.out,?_,K9.out,HX.out,Hr.out,Hu.out⟩
     first
      | exact Qs.tail K8.out _ (fun _=>rfl)
      | (have h9:=Qs.tail K8.out (some ⟨b,Hb,none⟩) (fun h=>by omega);rwa [show c1-1=0 from by omega] at h9)
   ·have H9:(E==0)=false:=by simpa using hE
    have K9:=zhd (show (d2,E)=T from by have:=HT.out;rwa [if_neg hE] at this)
    clear HT HR hE;obtain ⟨g0,g1,g2,g3,g4⟩:=zac Hm.out;obtain ⟨f0,f1,f2,f3,f4⟩:=za4 Hm.out
    gi_wp2
    all_goals
     refine zat ?_
     have ht:=K9.out;subst ht
     refine bodyPost_ret (zjv _ _ _ _ (.int .i64 E) rfl rfl (zaJ Hm.out _ _ _ _ _) rfl) rfl ?_
     exact ⟨_,rfl,⟨_,_,_,_,rfl,P5 K5.out Hm.out,P2 K7.out Hm.out⟩,zaB HX.out (P7 _) _ _ _ _ _⟩
end Go.Proofs.YtgonhdeochgkoaaGreatDoor
