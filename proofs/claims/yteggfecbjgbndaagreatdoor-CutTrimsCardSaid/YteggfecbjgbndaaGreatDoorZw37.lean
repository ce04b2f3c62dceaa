/- Merged -/
import Derived.Test.YteggfecbjgbndaaGreatDoorZw21
import Derived.Test.YteggfecbjgbndaaGreatDoorZw31
import Derived.Test.YteggfecbjgbndaaGreatDoorZw35
import Derived.Test.YteggfecbjgbndaaGreatDoorZw36
set_option linter.all false
set_option maxHeartbeats 8000000
set_option maxRecDepth 100000
open Go.Value renaming int→E,slice→I,bool→L,pointer→O,agg→V
open Go.IntKind renaming i64→H
open Option renaming none→J,some→T
open Go.Mv renaming zhd→M
open Go.Obj renaming cells→N
open Go.Proofs.Tryz renaming prog→U
open Go.RowKit.Below renaming heap_setCell→P0,setCell→P1
open Go.Mv.Blk renaming new→P2
open Go.World renaming drew→P3,ownsRow_nil→P4
namespace Go.Proofs.YteggfecbjgbndaaGreatDoor
open Go.RowKit Go.Mv
/-! What Read$1 lays into the boxes of t and m -/
structure zus (w:World) (bt bm:Nat) (r:Rd) (w':World):Prop where
 ok:∃ vl vs,Blk w' bt 44 (zbK r.t vl)∧Blk w' bm 30 (mfC r.m vs)∧OwnE w' w.heap.size vl r.t.log∧OwnS w' w.heap.size vs r.m.segs
 gr:∀ W0,Ext W0 w→W0.heap.size≤bt→W0.heap.size≤bm→Ext W0 w'
 bl:∀ b t cs,b≠bt→b≠bm→Blk w b t cs→Blk w' b t cs
def R1P (r:Rd) (bt bm:Nat) (w:World) (en:Ending) (w':World):Prop:=if r.err=0 then en=.returned (.tuple #[])∧zus w bt bm r w' else en=pan r.err∧Ext w w'
theorem zuL {r:Rd} {bt bm:Nat} {w:World} {en:Ending} {w':World} {e:Int} (h:r=zcC e) (he:e≠0) (h1:en=pan e) (h2:Ext w w'):R1P r bt bm w en w':=by
 subst h;unfold R1P
 rw[if_neg (show ¬ (zcC e).err=0 from he)]
 exact ⟨h1,h2⟩
theorem zrd {W:World} {b k:Nat} (h:k≠b) (a v u x y z p q:Value):(zb8 W b a v u x y z p q).heap[k]?=W.heap[k]?:=by
 unfold zb8;rw[P0 _ _ _ _ h,P0 _ _ _ _ h,P0 _ _ _ _ h,P0 _ _ _ _ h,P0 _ _ _ _ h,P0 _ _ _ _ h,P0 _ _ _ _ h,P0 _ _ _ _ h]
theorem zps (X:World) (k:Nat):X.drew.heap[k]?=X.heap[k]?:=rfl
theorem zpu {W:World} {b k:Nat} (h:k≠b) (a v u x y z p q:Value):(P3 (zb8 W b a v u x y z p q)).heap[k]?=W.heap[k]?:=(zps _ k).trans (zrd h a v u x y z p q)
theorem zi1 {W:World} {b D:Nat} {t:TypeId} {cs:Array Value} (h:Blk W b t cs) (hD:b≠D) (o:Obj):Blk (W.putObj D o) b t cs:=(World.putObj_heap_other hD).trans h
theorem zrc {W:World} {b k:Nat} (h:k≠b) (a v u x y z:Value):(zbB W b a v u x y z).heap[k]?=W.heap[k]?:=by
 unfold zbB;rw[P0 _ _ _ _ h,P0 _ _ _ _ h,P0 _ _ _ _ h,P0 _ _ _ _ h,P0 _ _ _ _ h,P0 _ _ _ _ h]
theorem zm5 {F:Fence} {n:Nat} {P:Program} {x:Code} {a:Act} {w:World} {K:Act→World→Prop} {Q:Exit→Act→World→Prop} (G:Act→World→Prop) (h1:x.wpIn F n P (Exit.then G Q) a w) (h2:∀ a' w',G a' w'→K a' w'):x.wpIn F n P (Exit.then K Q) a w:=by
 refine wpIn_mono h1 ?_
 intro e a' w' h
 cases e <;> first | exact h2 _ _ h | exact h
attribute [local go_sem] Oper.semAt_some in
def zoX (r:Rd) (bt bm:Nat) (w:World) (en:Ending) (w':World):Prop:=if r.err=0 then en=.returned (E H 0)∧zus w bt bm r w' else en=.returned (E H r.err)∧Ext w w'
theorem zk5 (fs:List Fil):(zby fs).err=0∨(∃ e,zby fs=zcC e∧e≠0):=by
 unfold zby
 split
 ·exact .inr ⟨42,rfl,by decide⟩
 ·split
  ·exact .inr ⟨130,rfl,by decide⟩
  ·split
   ·exact .inr ⟨130,rfl,by decide⟩
   ·split
    ·exact .inl rfl
    ·exact .inr ⟨130,rfl,by decide⟩
theorem zrJ (tmps:Array Value) (W:World) (b c:Nat) (cs ds:Array Value) (u:Value) (h2:tmps.getD 2 undef=O (T ⟨b,0,J⟩)) (h3:tmps.getD 3 undef=O (T ⟨c,0,J⟩)) (h4:tmps.getD 4 undef=u) (hb:Blk W b 44 cs) (hc:Blk W c 30 ds) (hs:cs.size=8) (hd:ds.size=6):(results Tryz.f9 tmps).run U W=.ok (.tuple #[.agg cs,.agg ds,u]) W:=by
 have hl:=hb.load (P:=U) zc7 rfl (by rw[hs];kernel_rfl);have hm:=hc.load (P:=U) zd2 rfl (by rw[hd];kernel_rfl)
 have Kt:tmps[2]?.getD undef=O (T ⟨b,0,J⟩):=by simpa using h2
 have HM:tmps[3]?.getD undef=O (T ⟨c,0,J⟩):=by simpa using h3
 have HO:tmps[4]?.getD undef=u:=by simpa using h4
 simp[results,Tryz.results9,Kt,HM,HO,asAddr,hl,hm]
def RdW (w:World) (r:Rd) (e:Ending) (W:World):Prop:=e=.returned (E H r.err)∧∃ vl vs,Blk W (w.heap.size+1) 44 (zbK r.t vl)∧Blk W (w.heap.size+1+1) 30 (mfC r.m vs)∧OwnE W w.heap.size vl r.t.log∧OwnS W w.heap.size vs r.m.segs∧Ext w W
open Go.RowKit Go.Mv Go.Shelf
def RdH (fs:List Fil):Prop:=∀ (v:Value) (pl bt bm:Nat) (w:World),StW w→Fs w v fs→w.cell? ⟨pl,0,J⟩=T v→Blk w bt 44 (zbK zeU (I none 0 0))→Blk w bm 30 (mfC mf0 (I none 0 0))→bt≠bm→Calls U 33 #[O (T ⟨pl,0,J⟩),O (T ⟨bt,0,J⟩),O (T ⟨bm,0,J⟩)] w (R1P (zby fs) bt bm w)
theorem zuc (v:Value) (fs:List Fil) (pl bt bm:Nat) (w:World) (hS:StW w) (hF:Fs w v fs) (hH:RdH fs) (h0:w.cell? ⟨pl,0,J⟩=T v)
  (hT:Blk w bt 44 (zbK zeU (I none 0 0))) (hM:Blk w bm 30 (mfC mf0 (I none 0 0))) (Kx:bt≠bm) :
  Calls U 32 #[.func (.func 33) #[] #[O (T ⟨pl,0,J⟩),O (T ⟨bt,0,J⟩),O (T ⟨bm,0,J⟩)]] w (zoX (zby fs) bt bm w):=by
 have JD:∀ (fn:Fn) (first cap:Array Value) (w:World),(Instr.makeFunc fn first cap).run U w=.ok (.func fn first cap) w:=fun _ _ _ _=>rfl
 have hX:Ext w (w.alloc (N #[E H 0] 45)):=xA (xR _) _
 have he:=P2 w 45 #[E H 0];have key:=hH v pl bt bm _ (hS.ext hX) (hF.ext hX) (hX.cell h0) (hT.ext hX) (hM.ext hX) Kx;unfold zoX;unfold R1P at key;have K1:=zk5 fs;obtain ⟨R,hR⟩:∃ R,zby fs=R:=⟨_,rfl⟩
 rw[hR] at key K1 ⊢
 have K0:=hT.lt;have HY:=hM.lt;have HL:=M key;have HX:=M hX;have He:=M he;have KK:=M (And.intro K0 HY);clear key hR hS hF hH hT hM h0 hX he K0 HY
 go_enter_defers Tryz.func32,Tryz.ntmps32
 go_wp2_with fail
 refine HL.out.mono ?_
 rintro e w1 hr
 by_cases hz:R.err=0
 case neg =>
  rw[if_neg hz] at hr;obtain ⟨rfl,H7⟩:=hr;have Kw:=He.out.ext H7
  refine leaves_cons (f:=77) (args:=#[O (T ⟨w.heap.size,0,J⟩)]) (by simp) (by simp[go_sem]) ?_
  refine (zrS ⟨w.heap.size,0,J⟩ _ R.err [] _ (Kw.cell 0 rfl) (Kw.frozen 0)).mono ?_
  rintro e u' w2 ⟨rfl,rfl,rfl⟩;have hs:=Kw.set 0 (E H R.err);have hc:=hs.cell 0 rfl
  simp[Leaves,settle,results,Tryz.results32,go_sem,hc]
  rw[if_neg hz]
  exact P1 (p:=⟨w.heap.size,0,J⟩) (xT HX.out H7) (xN _) _
 case pos =>
  rw[if_pos hz] at hr;obtain ⟨rfl,⟨vl,vs,K0,HY,Jc,Jd⟩,J7,Hu⟩:=hr;obtain ⟨l1,l2⟩:=KK.out;have Kb:=Hu _ _ _ (by omega) (by omega) He.out;have f0:=Kb.frozen 0;have g0:=Kb.cell 0 rfl;have Ho:=M Kb;have Jt:=M J7;have HA:=M Hu;have Jo:=M K0;have Jn:=M HY;have KO:=M Jc;have KP:=M Jd;have HZ:=M hz;clear Kb J7 Hu K0 HY Jc Jd hz K1 l1 l2;go_wp2_with fail
  refine leaves_cons (f:=77) (args:=#[O (T ⟨w.heap.size,0,J⟩)]) (by simp) (by simp[go_sem]) ?_
  refine (zqc ⟨w.heap.size,0,J⟩ _).mono ?_
  rintro e u' w4 ⟨rfl,rfl,rfl⟩;have hs:=Ho.out.set 0 (E H 0)
  have hc:(w1.setCell ⟨w.heap.size,0,J⟩ (E H 0)).cell? ⟨w.heap.size,0,J⟩=T (E H 0):=hs.cell 0 rfl
  obtain ⟨l1,l2⟩:=KK.out
  have b1:=Jo.out.other (show bt≠w.heap.size by omega) 0 (E H 0)
  have b2:=Jn.out.other (show bm≠w.heap.size by omega) 0 (E H 0)
  have o1:OwnE _ _ _ _:=zaf (KO.out.kept (zad _ w.heap.size 0 (E H 0)) (.inr (Ho.out.not_row (by decide) KO.out).symm)) HX.out.size
  have o2:OwnS _ _ _ _:=zaf (KP.out.kept (zad _ w.heap.size 0 (E H 0)) (.inr (Ho.out.not_row (by decide) KP.out).symm)) HX.out.size
  have g1:∀ W0,Ext W0 w→W0.heap.size≤bt→W0.heap.size≤bm→Ext W0 (w1.setCell ⟨w.heap.size,0,J⟩ (E H 0)):=fun W0 h h1 h2=>P1 (p:=⟨w.heap.size,0,J⟩) (Jt.out W0 (xT h HX.out) h1 h2) h.size _
  have k1:∀ b t cs,b≠bt→b≠bm→Blk w b t cs→Blk (w1.setCell ⟨w.heap.size,0,J⟩ (E H 0)) b t cs:=fun b t cs h1 h2 h3=>(HA.out b t cs h1 h2 (h3.ext HX.out)).other (by have:=h3.lt;omega) 0 _
  generalize w1.setCell ⟨w.heap.size,0,J⟩ (E H 0)=w5 at *
  simp[Leaves,settle,results,Tryz.results32,go_sem,hc]
  exact ⟨⟨vl,vs,b1,b2,o1,o2⟩,g1,k1⟩
theorem zu1 (v:Value) (fs:List Fil) (w:World) (hS:StW w) (hF:Fs w v fs) (hH:RdH fs) {z1 z2:Array Value} (Kz:z1=zbK zeU (I none 0 0)) (KA:z2=mfC mf0 (I none 0 0)) :
  Calls U 32 #[.func (.func 33) #[] #[O (T ⟨w.heap.size,0,J⟩),O (T ⟨w.heap.size+1,0,J⟩),O (T ⟨w.heap.size+1+1,0,J⟩)]] (((w.alloc (N #[v] 22)).alloc (N z1 44)).alloc (N z2 30)) (RdW w (zby fs)):=by
 subst Kz KA
 have hX:Ext w (((w.alloc (N #[v] 22)).alloc (N (zbK zeU (I none 0 0)) 44)).alloc (N (mfC mf0 (I none 0 0)) 30)):=xA (xA (xA (xR _) _) _) _
 have b0:=((P2 w 22 #[v]).alloc (N (zbK zeU (I none 0 0)) 44)).alloc (N (mfC mf0 (I none 0 0)) 30);have b1:=(P2 (w.alloc (N #[v] 22)) 44 (zbK zeU (I none 0 0))).alloc (N (mfC mf0 (I none 0 0)) 30);have b2:=P2 ((w.alloc (N #[v] 22)).alloc (N (zbK zeU (I none 0 0)) 44)) 30 (mfC mf0 (I none 0 0));rw[xS] at b1;rw[xS,xS] at b2
 have JI:w.heap.size+1+1+1=(((w.alloc (N #[v] 22)).alloc (N (zbK zeU (I none 0 0)) 44)).alloc (N (mfC mf0 (I none 0 0)) 30)).heap.size:=by rw[xS,xS,xS]
 refine (zuc v fs w.heap.size (w.heap.size+1) (w.heap.size+1+1) _ (hS.ext hX) (hF.ext hX) hH (b0.cell 0 rfl) b1 b2 (by omega)).mono ?_
 generalize (((w.alloc (N #[v] 22)).alloc (N (zbK zeU (I none 0 0)) 44)).alloc (N (mfC mf0 (I none 0 0)) 30))=w3 at *
 rintro e W h;unfold zoX at h
 rcases zk5 fs with hz | ⟨e1,hz,Kx⟩
 ·rw[if_pos hz] at h
  obtain ⟨rfl,⟨vl,vs,h1,h2,h3,h4⟩,hg,_⟩:=h
  exact ⟨by rw[hz],vl,vs,h1,h2,zaf h3 (by omega),zaf h4 (by omega),hg w hX (by omega) (by omega)⟩
 ·rw[hz] at h ⊢
  rw[if_neg (show ¬ (zcC e1).err=0 from Kx)] at h
  obtain ⟨rfl,hE⟩:=h
  exact ⟨rfl,I none 0 0,I none 0 0,b1.ext hE,b2.ext hE,P4 _ _ _ _,P4 _ _ _ _,xT hX hE⟩
theorem ztF (v:Value) (fs:List Fil) (w:World) (hS:StW w) (hF:Fs w v fs) (hH:RdH fs):Calls U 9 #[v] w (zju w (zby fs)):=by
 have JD:∀ (fn:Fn) (first cap:Array Value) (w:World),(Instr.makeFunc fn first cap).run U w=.ok (.func fn first cap) w:=fun _ _ _ _=>rfl
 obtain ⟨A,c,rfl,_,_⟩:=Fs.open_ hF;have key:=zu1 (I A fs.length c) fs w hS hF hH (z1:=#[E H 0,E H 0,E H 0,E H 0,L false,I none 0 0,E H 0,E H 0]) (z2:=#[E H 0,E H 0,E H 0,E H 0,E H 0,I none 0 0]) rfl rfl;obtain ⟨R,hR⟩:∃ R,zby fs=R:=⟨_,rfl⟩
 rw[hR] at key ⊢
 have HL:=M key;clear key hS hF hH hR
 go_enter Tryz.func9,Tryz.ntmps9
 go_wp2_with fail
 refine HL.out.mono ?_
 obtain ⟨er,t,m⟩:=R;rintro e w4 ⟨rfl,vl,vs,hb,hc,H8,H3,hE⟩
 dsimp only at hb hc H8 H3 ⊢
 obtain ⟨Al,cl,rfl,_,_⟩:=xO (OwnE.es H8);obtain ⟨As,cs,rfl,_,_⟩:=Sgs.open_ (OwnS.sgs H3);obtain ⟨nl,Ja⟩:∃ n,t.log.length=n:=⟨_,rfl⟩;obtain ⟨ns,Jb⟩:∃ n,m.segs.length=n:=⟨_,rfl⟩;rw[Ja] at hb H8;rw[Jb] at hc H3
 have HB:=M (show Blk w4 (w.heap.size+1) 44 #[E H t.s.idx,E H t.s.term,E H t.s.sum,E H t.s.lvl,L t.s.fin,I Al nl cl,E H t.term,E H t.vote] from hb)
 have HC:=M (show Blk w4 (w.heap.size+1+1) 30 #[E H m.next,E H m.term,E H m.vote,E H m.sq,E H m.sf,I As ns cs] from hc)
 have Kj:=M H8;have Hb:=M H3;have HE:=M hE;clear hb hc H8 H3 hE Ja Jb;obtain ⟨p0,p1,p2,p3,p4,p5,p6,p7⟩:=zaQ HB.out;obtain ⟨q0,q1,q2,q3,q4,q5⟩:=zag HC.out;go_wp2_with fail
 refine wp_region_held_drew (S:=fun W=>W.cell? ⟨w.heap.size+1,0,J⟩=T (E H t.s.idx)∧W.cell? ⟨w.heap.size+1,1,J⟩=T (E H t.s.term)∧W.cell? ⟨w.heap.size+1,2,J⟩=T (E H t.s.sum)∧W.cell? ⟨w.heap.size+1,3,J⟩=T (E H t.s.lvl)∧W.cell? ⟨w.heap.size+1,4,J⟩=T (L t.s.fin)∧W.cell? ⟨w.heap.size+1,5,J⟩=T (I Al nl cl)∧W.cell? ⟨w.heap.size+1,6,J⟩=T (E H t.term)∧W.cell? ⟨w.heap.size+1,7,J⟩=T (E H t.vote)∧W.cell? ⟨w.heap.size+1+1,0,J⟩=T (E H m.next)∧W.cell? ⟨w.heap.size+1+1,1,J⟩=T (E H m.term)∧W.cell? ⟨w.heap.size+1+1,2,J⟩=T (E H m.vote)∧W.cell? ⟨w.heap.size+1+1,3,J⟩=T (E H m.sq)∧W.cell? ⟨w.heap.size+1+1,4,J⟩=T (E H m.sf)∧W.cell? ⟨w.heap.size+1+1,5,J⟩=T (I As ns cs)) (by kernel_rfl) ⟨p0,p1,p2,p3,p4,p5,p6,p7,q0,q1,q2,q3,q4,q5⟩ (fun _=>?_)
 clear p0 p1 p2 p3 p4 p5 p6 p7 q0 q1 q2 q3 q4 q5;refine tkN 0 ?_;refine tkN 1 ?_;refine tkN 2 ?_;obtain ⟨f0,f1,f2,f3,f4,f5,f6,f7⟩:=za9 HB.out;obtain ⟨g0,g1,g2,g3,g4,g5,g6,g7⟩:=zaQ HB.out
 refine ar1 3 (fun K hK=>?_)
 go_simp
 show K _ (P3 (zb8 w4 (w.heap.size+1) (E H t.s.idx) (E H t.s.term) (E H t.s.sum) (E H t.s.lvl) (L t.s.fin) (I Al nl cl) (E H t.term) (E H t.vote)))
 have Hr:Ext (zb8 w4 (w.heap.size+1) (E H t.s.idx) (E H t.s.term) (E H t.s.sum) (E H t.s.lvl) (L t.s.fin) (I Al nl cl) (E H t.term) (E H t.vote)) (P3 (zb8 w4 (w.heap.size+1) (E H t.s.idx) (E H t.s.term) (E H t.s.sum) (E H t.s.lvl) (L t.s.fin) (I Al nl cl) (E H t.term) (E H t.vote))):=xD (xR _)
 have KI:=M ((zbY HB.out (E H t.s.idx) (E H t.s.term) (E H t.s.sum) (E H t.s.lvl) (L t.s.fin) (I Al nl cl) (E H t.term) (E H t.vote)).ext Hr);have Hn:=M ((zbX HC.out (by omega:w.heap.size+1+1≠w.heap.size+1) (E H t.s.idx) (E H t.s.term) (E H t.s.sum) (E H t.s.lvl) (L t.s.fin) (I Al nl cl) (E H t.term) (E H t.vote)).ext Hr);have Kk:=M (OwnE.ext (zdd HB.out (by decide) Kj.out (E H t.s.idx) (E H t.s.term) (E H t.s.sum) (E H t.s.lvl) (L t.s.fin) (I Al nl cl) (E H t.term) (E H t.vote)) Hr);have Ko:=M (zab (zdd HB.out (by decide) Hb.out (E H t.s.idx) (E H t.s.term) (E H t.s.sum) (E H t.s.lvl) (L t.s.fin) (I Al nl cl) (E H t.term) (E H t.vote)) Hr);have Jp:=M (xT (zbA HE.out (by omega:w.heap.size≤w.heap.size+1) (E H t.s.idx) (E H t.s.term) (E H t.s.sum) (E H t.s.lvl) (L t.s.fin) (I Al nl cl) (E H t.term) (E H t.vote)) Hr);clear Hr f0 f1 f2 f3 f4 f5 f6 f7 g0 g1 g2 g3 g4 g5 g6 g7
 generalize (P3 (zb8 w4 (w.heap.size+1) (E H t.s.idx) (E H t.s.term) (E H t.s.sum) (E H t.s.lvl) (L t.s.fin) (I Al nl cl) (E H t.term) (E H t.vote)))=w9 at *
 obtain ⟨p0,p1,p2,p3,p4,p5,p6,p7⟩:=zaQ KI.out;obtain ⟨q0,q1,q2,q3,q4,q5⟩:=zag Hn.out
 refine shK hK _ _ ⟨p0,p1,p2,p3,p4,p5,p6,p7,q0,q1,q2,q3,q4,q5⟩ (fun _=>?_)
 clear p0 p1 p2 p3 p4 p5 p6 p7 q0 q1 q2 q3 q4 q5;obtain ⟨f0,f1,f2,f3,f4,f5⟩:=zdQ Hn.out;obtain ⟨g0,g1,g2,g3,g4,g5⟩:=zag Hn.out
 refine ar1 4 (fun K hK=>?_)
 go_simp
 show K _ (zbB w9 (w.heap.size+1+1) (E H m.next) (E H m.term) (E H m.vote) (E H m.sq) (E H m.sf) (I As ns cs))
 have H4:=M (zco KI.out (by omega:w.heap.size+1≠w.heap.size+1+1) (E H m.next) (E H m.term) (E H m.vote) (E H m.sq) (E H m.sf) (I As ns cs))
 have HD:Hid (Blk (zbB w9 (w.heap.size+1+1) (E H m.next) (E H m.term) (E H m.vote) (E H m.sq) (E H m.sf) (I As ns cs)) (w.heap.size+1+1) 30 #[E H m.next,E H m.term,E H m.vote,E H m.sq,E H m.sf,I As ns cs]):=M (zbl Hn.out (E H m.next) (E H m.term) (E H m.vote) (E H m.sq) (E H m.sf) (I As ns cs))
 have HH:Hid (OwnE (zbB w9 (w.heap.size+1+1) (E H m.next) (E H m.term) (E H m.vote) (E H m.sq) (E H m.sf) (I As ns cs)) _ _ t.log):=M (zcU Hn.out (by decide) Kk.out (E H m.next) (E H m.term) (E H m.vote) (E H m.sq) (E H m.sf) (I As ns cs))
 have HI:Hid (OwnS (zbB w9 (w.heap.size+1+1) (E H m.next) (E H m.term) (E H m.vote) (E H m.sq) (E H m.sf) (I As ns cs)) _ _ m.segs):=M (zcU Hn.out (by decide) Ko.out (E H m.next) (E H m.term) (E H m.vote) (E H m.sq) (E H m.sf) (I As ns cs))
 have Ki:Hid (Ext w (zbB w9 (w.heap.size+1+1) (E H m.next) (E H m.term) (E H m.vote) (E H m.sq) (E H m.sf) (I As ns cs))):=M (zbm Jp.out (by omega:w.heap.size≤w.heap.size+1+1) (E H m.next) (E H m.term) (E H m.vote) (E H m.sq) (E H m.sf) (I As ns cs))
 clear f0 f1 f2 f3 f4 f5 g0 g1 g2 g3 g4 g5
 generalize zbB w9 (w.heap.size+1+1) (E H m.next) (E H m.term) (E H m.vote) (E H m.sq) (E H m.sf) (I As ns cs)=Jk at *
 obtain ⟨p0,p1,p2,p3,p4,p5,p6,p7⟩:=zaQ H4.out;obtain ⟨q0,q1,q2,q3,q4,q5⟩:=zag HD.out
 refine shK hK _ _ ⟨p0,p1,p2,p3,p4,p5,p6,p7,q0,q1,q2,q3,q4,q5⟩ (fun _=>?_)
 clear p0 p1 p2 p3 p4 p5 p6 p7 q0 q1 q2 q3 q4 q5;refine tkN 5 ?_;refine wdD ?_;go_wp2_with fail
 refine bodyPost_ret (zrJ _ _ (w.heap.size+1) (w.heap.size+1+1) _ _ _ rfl rfl rfl H4.out HD.out rfl rfl) rfl ?_
 exact ⟨_,_,rfl,HH.out,HI.out,Ki.out⟩
theorem zrk (tmps:Array Value) (W:World) (b c:Nat) (cs ds:Array Value) (u:Value) (h2:tmps.getD 2 undef=O (T ⟨b,0,J⟩)) (h3:tmps.getD 3 undef=O (T ⟨c,0,J⟩)) (h4:tmps.getD 4 undef=u) (hb:Blk W b 44 cs) (hc:Blk W c 30 ds) (hs:cs.size=8) (hd:ds.size=6):(results Tryz.f13 tmps).run U W=.ok (.tuple #[.agg cs,.agg ds,u]) W:=by
 have hl:=hb.load (P:=U) zc7 rfl (by rw[hs];kernel_rfl);have hm:=hc.load (P:=U) zd2 rfl (by rw[hd];kernel_rfl)
 have Kt:tmps[2]?.getD undef=O (T ⟨b,0,J⟩):=by simpa using h2
 have HM:tmps[3]?.getD undef=O (T ⟨c,0,J⟩):=by simpa using h3
 have HO:tmps[4]?.getD undef=u:=by simpa using h4
 simp[results,Tryz.results13,Kt,HM,HO,asAddr,hl,hm]
theorem zqt (v:Value) (d:Dk) (n:Nat) (w:World) (hS:StW w) (hD:DkV w v d) (hn:n≤100000) (hs:Sz n d) (hH:RdH d.now):Calls U 13 #[v] w (zju w (zby d.now)):=by
 obtain ⟨R,hR⟩:∃ R,zby d.now=R:=⟨_,rfl⟩;rw[hR];have HR:=M hR;clear hR;obtain ⟨vf,vq,rfl,hF,hQ⟩:=hD;obtain ⟨A,c,rfl,_,_⟩:=Fs.open_ hF;obtain ⟨xs,Ky,Jf⟩:=hQ;obtain ⟨B,e,rfl,_,_⟩:=xO Ky
 have hQ:Qs w (I B d.q.length e) d.q:=⟨xs,Ky,Jf⟩
 clear Ky Jf;obtain ⟨z1,Kz⟩:∃ x:Array Value,#[E H 0,E H 0,E H 0,E H 0,L false,I none 0 0,E H 0,E H 0]=x:=⟨_,rfl⟩;obtain ⟨z2,KA⟩:∃ x:Array Value,#[E H 0,E H 0,E H 0,E H 0,E H 0,I none 0 0]=x:=⟨_,rfl⟩;obtain ⟨z0,Jh⟩:∃ x:Array Value,#[I A d.fs.length c,I B d.q.length e,E H d.quota,E H d.fuse,L d.dead]=x:=⟨_,rfl⟩
 have hX:Ext w (((w.alloc (N z0 25)).alloc (N z1 44)).alloc (N z2 30)):=xA (xA (xA (xR _) _) _) _
 have b0:=((P2 w 25 z0).alloc (N z1 44)).alloc (N z2 30);have b1:=(P2 (w.alloc (N z0 25)) 44 z1).alloc (N z2 30);have b2:=P2 ((w.alloc (N z0 25)).alloc (N z1 44)) 30 z2;rw[xS] at b1;rw[xS,xS] at b2
 have KX:DkV (((w.alloc (N z0 25)).alloc (N z1 44)).alloc (N z2 30)) (.agg z0) d:=by
  subst Jh
  exact ⟨_,_,rfl,hF.ext hX,hQ.ext hX⟩
 have key:=zlM _ d n _ KX (by omega) hs;have J1:=hS.ext hX;subst Jh Kz KA;obtain ⟨q0,q1,q2,q3,q4⟩:=zaa b0;have HL:=M key;have HX:=M hX;have HS:=M J1;have Jl:=M b1;have K6:=M b2;clear key hX J1 b0 b1 b2 KX hF hQ hS hs hn
 go_enter Tryz.func13,Tryz.ntmps13
 go_wp2_with fail
 refine HL.out.mono ?_
 rintro e1 w1 ⟨A1,c1,rfl,J0,H7⟩;have Hm:=ztF _ d.now w1 (HS.out.ext H7) (OwnF.fs J0) hH;rw[HR.out] at Hm;have Ks:=M Hm;have H6:=M (xT HX.out H7);have Kf:=M (Jl.out.ext H7);have Kg:=M (K6.out.ext H7);clear Hm H7 J0 q0 q1 q2 q3 q4;go_wp2_with fail
 refine Ks.out.mono ?_
 obtain ⟨er,t,m⟩:=R;rintro e2 w2 ⟨vl,vs,rfl,H8,H3,H5⟩
 dsimp only at H8 H3 ⊢
 obtain ⟨Al,cl,rfl,_,_⟩:=xO (OwnE.es H8);obtain ⟨As,cs,rfl,_,_⟩:=Sgs.open_ (OwnS.sgs H3);have Ka:=Kf.out.ext H5;have Hh:=Kg.out.ext H5
 have KW:w.heap.size≤w1.heap.size:=H6.out.size
 have hE:=xT H6.out H5;have Hd:=zbX Hh (by omega:w.heap.size+1+1≠w.heap.size+1) (E H t.s.idx) (E H t.s.term) (E H t.s.sum) (E H t.s.lvl) (L t.s.fin) (I Al t.log.length cl) (E H t.term) (E H t.vote);obtain ⟨g0,g1,g2,g3,g4,g5,g6,g7⟩:=zaQ Ka;obtain ⟨f0,f1,f2,f3,f4,f5,f6,f7⟩:=za9 Ka;obtain ⟨i0,i1,i2,i3,i4,i5⟩:=zag Hd;obtain ⟨j0,j1,j2,j3,j4,j5⟩:=zdQ Hd;have H1:=M Ka;have H2:=M Hh;have Ke:=M Hd;have Kj:=M H8;have Hb:=M H3;have Jq:=M hE;have KH:=M KW;clear Ka Hh Hd H8 H3 hE H5 KW;unfold zb8 at i0 i1 i2 i3 i4 i5 j0 j1 j2 j3 j4 j5;go_wp2_with fail;have Hv:=M (zco (zbY H1.out (E H t.s.idx) (E H t.s.term) (E H t.s.sum) (E H t.s.lvl) (L t.s.fin) (I Al t.log.length cl) (E H t.term) (E H t.vote)) (by omega:w.heap.size+1≠w.heap.size+1+1) (E H m.next) (E H m.term) (E H m.vote) (E H m.sq) (E H m.sf) (I As m.segs.length cs));have Hw:=M (zbl Ke.out (E H m.next) (E H m.term) (E H m.vote) (E H m.sq) (E H m.sf) (I As m.segs.length cs))
 refine bodyPost_ret (zrk _ _ (w.heap.size+1) (w.heap.size+1+1) _ _ _ rfl rfl rfl Hv.out Hw.out rfl rfl) rfl ?_
 have JE:=zcU Ke.out (by decide) (zdd H1.out (by decide) Kj.out (E H t.s.idx) (E H t.s.term) (E H t.s.sum) (E H t.s.lvl) (L t.s.fin) (I Al t.log.length cl) (E H t.term) (E H t.vote)) (E H m.next) (E H m.term) (E H m.vote) (E H m.sq) (E H m.sf) (I As m.segs.length cs);have JF:=zcU Ke.out (by decide) (zdd H1.out (by decide) Hb.out (E H t.s.idx) (E H t.s.term) (E H t.s.sum) (E H t.s.lvl) (L t.s.fin) (I Al t.log.length cl) (E H t.term) (E H t.vote)) (E H m.next) (E H m.term) (E H m.vote) (E H m.sq) (E H m.sf) (I As m.segs.length cs);have JG:=zbm (zbA Jq.out (by omega:w.heap.size≤w.heap.size+1) (E H t.s.idx) (E H t.s.term) (E H t.s.sum) (E H t.s.lvl) (L t.s.fin) (I Al t.log.length cl) (E H t.term) (E H t.vote)) (by omega:w.heap.size≤w.heap.size+1+1) (E H m.next) (E H m.term) (E H m.vote) (E H m.sq) (E H m.sf) (I As m.segs.length cs)
 exact ⟨I Al t.log.length cl,I As m.segs.length cs,rfl,zaf JE KH.out,zaf JF KH.out,JG⟩
theorem mcSwapa0 {P:Prop} (h:P:=by
 refine ar1 3 (fun K hK=>?_)
 go_simp
 have Kv:=zhD _ r.1 (n+2+b.length+1) _ (zb4 m) w9 (JB.out.ext (xT Hq.out E9)) (show DkV w9 (V #[I A4 r.1.fs.length c4,I B4 r.1.q.length e4,E H r.1.quota,E H r.1.fuse,L r.1.dead]) r.1 from ⟨_,_,rfl,(OwnF.fs Js.out).ext E9,(OwnQ.qs Jz.out).ext E9⟩) (JC.out.mono (by simp[zaW,zbR])) (xW Hl) Ju.out (by have:=HA.out;have:=HN.out;omega)
 rw[Kn.out] at Kv
 refine Kv.mono ?_
 rintro e Jk ⟨u,rfl,⟨A6,c6,B6,e6,rfl,of,oq⟩,HT⟩;have Kd:=xT E9 HT
 refine shK hK _ _ trivial (fun _=>?_)
 refine tkN 4 ?_;refine tkN 5 ?_
 have Hc:Blk Jk (w.heap.size+1+1) 25 (zan A4 r.1.fs.length c4 B4 r.1.q.length e4 r.1.quota r.1.fuse r.1.dead):=Hi.out.ext Kd
 obtain ⟨f0,f1,f2,f3,f4⟩:=zam Hc;obtain ⟨d0,d1,d2,d3,d4⟩:=zaa Hc;have Jj:=(xT Hq.out E9).size;have H4:=M Hc;have H9:=M of;have Ha:=M oq;have Kp:=M (xT Hq.out Kd);have KU:=M Jj;clear Hc of oq Jj E9 Kd Hs HT Kv Hl
 refine ar1 6 (fun K hK=>?_)
 go_simp
 refine shK hK _ _ trivial (fun _=>?_)
 refine tkN 7 ?_;refine wdD ?_;go_wp2_with fail
 refine bodyPost_ret (zey _ _ _ _ (E H S.2) rfl rfl (zal H4.out (I A6 S.1.fs.length c6) (I B6 S.1.q.length e6) (E H S.1.quota) (E H S.1.fuse) (L S.1.dead)) rfl) rfl ?_
 have K4:=OwnF.box1 (A':=A6) (n':=S.1.fs.length) (c':=c6) (B':=B6) (m':=S.1.q.length) (e':=e6) (q':=S.1.quota) (f':=S.1.fuse) (d':=S.1.dead) (OwnX.base H9.out KU.out) H4.out;have K5:=OwnQ.box1 (A':=A6) (n':=S.1.fs.length) (c':=c6) (B':=B6) (m':=S.1.q.length) (e':=e6) (q':=S.1.quota) (f':=S.1.fuse) (d':=S.1.dead) (OwnX.base Ha.out KU.out) H4.out;have K3:=zae Kp.out (by omega:w.heap.size≤w.heap.size+1+1) (I A6 S.1.fs.length c6) (I B6 S.1.q.length e6) (E H S.1.quota) (E H S.1.fuse) (L S.1.dead)
 exact zfK K4 K5 K3):P:=h
theorem Sz.does:∀ (q:List Oq) {n:Nat} {d:Dk} (sync:Bool),Sz n d→Sz (n+q.length+zaW q) (zbT sync d q).1
 | [],n,d,sync,h=>by
  rw[zbT]
  split
  ·exact h.sync.mono (by omega)
  ·exact h.mono (by omega)
 | o::q,n,d,sync,h=>by
  rw[zbT,zcm,xC]
  split
  ·exact (Sz.does q sync (h.doS o)).mono (by omega)
  ·exact (h.doS o).mono (by omega)
def zdk (d:Dk) (m:Mf):Dk×Int:=match zbH m with | none=>(d,2) | some b=>zlF d b (zaq (zb4 m))
theorem zey (tmps:Array Value) (W:World) (b:Nat) (cs:Array Value) (e:Value) (h4:tmps.getD 4 undef=O (T ⟨b,0,J⟩)) (h3:tmps.getD 5 undef=e) (hb:Blk W b 25 cs) (hs:cs.size=5):(results Tryz.f22 tmps).run U W=.ok (.tuple #[.agg cs,e]) W:=by
 have HO:tmps[4]?.getD undef=O (T ⟨b,0,J⟩):=by simpa using h4
 have HM:tmps[5]?.getD undef=e:=by simpa using h3
 have hl:=hb.load (P:=U) zc3 rfl (by rw[hs];kernel_rfl)
 simp[results,Tryz.results22,HO,HM,asAddr,hl,Sem.run_bind,Sem.run_pure,Result.andThen_ok]
def ztt (w:World) (r:Dk×Int) (e:Ending) (w':World):Prop:=∃ u,e=.returned (.tuple #[u,E H r.2])∧OwnD w' w.heap.size u r.1∧Ext w w'
theorem zfK {w W:World} {r:Dk×Int} {A B:Option Addr} {c e:Nat} (hA:OwnF W w.heap.size (I A r.1.fs.length c) r.1.fs) (hB:OwnQ W w.heap.size (I B r.1.q.length e) r.1.q) (hE:Ext w W):ztt w r (.returned (.tuple #[.agg (zan A r.1.fs.length c B r.1.q.length e r.1.quota r.1.fuse r.1.dead),E H r.2])) W:=⟨_,rfl,⟨A,c,B,e,rfl,hA,hB⟩,hE⟩
theorem zky (v:Value) (d:Dk) (n:Nat) (m:Mf) (vs:Value) (w:World) (hS:StW w) (hD:DkV w v d) (hs:Sz n d) (hn:n≤100000) (hG:Sgs w vs m.segs) (J9:m.segs.length≤1000000) (J8:(zb4 m).length≤1000000) (Je:∀ b,zbH m=T b→b.length≤100000) :
  Calls U 22 #[v,V #[E H m.next,E H m.term,E H m.vote,E H m.sq,E H m.sf,vs]] w (ztt w (zdk d m)):=by
 obtain ⟨vf,vq,rfl,hF,hQ⟩:=hD;obtain ⟨A,c,rfl,_,_⟩:=Fs.open_ hF;obtain ⟨B,e2,rfl,_,_⟩:=Qs.open_ hQ;obtain ⟨C,c2,rfl,_,_⟩:=hG.open_;obtain ⟨W0,HU⟩:∃ W0,((w.alloc (N #[I A d.fs.length c,I B d.q.length e2,E H d.quota,E H d.fuse,L d.dead] 25)).alloc (N #[E H m.next,E H m.term,E H m.vote,E H m.sq,E H m.sf,I C m.segs.length c2] 30)).alloc (N #[I none 0 0,I none 0 0,E H 0,E H 0,L false] 25)=W0:=⟨_,rfl⟩
 have Hg:Ext w W0:=by rw[←HU];exact xA (xA (xA (xR _) _) _) _
 have h0:Blk W0 w.heap.size 25 (zan A d.fs.length c B d.q.length e2 d.quota d.fuse d.dead):=by rw[←HU];exact ((P2 w _ _).alloc _).alloc _
 have h1:Blk W0 (w.heap.size+1) 30 #[E H m.next,E H m.term,E H m.vote,E H m.sq,E H m.sf,I C m.segs.length c2]:=by
  rw[←HU]
  have:=(P2 (w.alloc (N #[I A d.fs.length c,I B d.q.length e2,E H d.quota,E H d.fuse,L d.dead] 25)) 30 #[E H m.next,E H m.term,E H m.vote,E H m.sq,E H m.sf,I C m.segs.length c2]).alloc (N #[I none 0 0,I none 0 0,E H 0,E H 0,L false] 25)
  rwa [xS] at this
 have h2:Blk W0 (w.heap.size+1+1) 25 (zan none 0 0 none 0 0 0 0 false):=by
  rw[←HU]
  have:=P2 ((w.alloc (N #[I A d.fs.length c,I B d.q.length e2,E H d.quota,E H d.fuse,L d.dead] 25)).alloc (N #[E H m.next,E H m.term,E H m.vote,E H m.sq,E H m.sf,I C m.segs.length c2] 30)) 25 #[I none 0 0,I none 0 0,E H 0,E H 0,L false]
  rwa [xS,xS] at this
 have K7:=M Hg;have H0:=M h0;have H1:=M h1;have H2:=M h2;have JB:=M hS;have Kl:=M hG;have HS:=M (hS.ext Hg);have HF:=M (hF.ext Hg);have HQ:=M (hQ.ext Hg);have HG:=M (hG.ext Hg);have HP:=M (zlK m _ W0 (hG.ext Hg) (hS.ext Hg));have HZ:=M hs;have HN:=M hn;have Km:=M J9;have Ju:=M J8;have Jx:=M Je;obtain ⟨q0,q1,q2,q3,q4,q5⟩:=zag h1;clear h0 h1 h2 hF hQ hG Hg hs hS hn J9 J8 Je;obtain ⟨S,hS⟩:∃ S,zdk d m=S:=⟨_,rfl⟩;rw[hS];unfold zdk at hS;obtain ⟨rb,K2⟩:∃ r,zbH m=r:=⟨_,rfl⟩;rw[K2] at HP hS;have Hb:=M hS;have JA:=M K2;clear hS K2
 go_enter Tryz.func22,Tryz.ntmps22
 go_wp2_with fail
 refine HP.out.mono ?_
 rintro e w1 ⟨⟨vb,rfl,Kc⟩,H7⟩;have H6:=M H7;have K8:=M Kc;clear q0 q1 q2 q3 q4 q5 H7 HU;obtain ⟨g0,g1,g2,g3,g4⟩:=zaa (H0.out.ext H6.out)
 cases rb with
 | none =>
  have KQ:=Hb.out;dsimp only at KQ;subst KQ;simp only[Option.isSome_none,Bool.false_eq_true,if_false];obtain ⟨Ab,cb,rfl,_,_⟩:=xO (xW Kc);clear Kc;go_wp2_with fail;clear g0 g1 g2 g3 g4
  refine (zfm _ d n w1 (show DkV w1 _ d from ⟨_,_,rfl,HF.out.ext H6.out,HQ.out.ext H6.out⟩) (by have:=HN.out;omega) HZ.out).mono ?_
  rintro e w2 ⟨u,rfl,⟨A3,c3,B3,e3,rfl,of,oq⟩,H5⟩;have Hh:=H2.out.ext (xT H6.out H5);have hX:=xT K7.out (xT H6.out H5);have J2:=xT K7.out H6.out;obtain ⟨f0,f1,f2,f3,f4⟩:=zam Hh;obtain ⟨d0,d1,d2,d3,d4⟩:=zaa Hh;have Q1:=M Hh;have Q2:=M of;have Q3:=M oq;have Q4:=M hX;have Q5:=M J2.size;clear Hh of oq hX J2 H5;go_wp2_with fail
  refine bodyPost_ret (zey _ _ _ _ (E H 2) rfl rfl (zal Q1.out _ _ _ _ _) rfl) rfl ?_
  exact ⟨_,rfl,⟨_,_,_,_,rfl,OwnF.box1 (OwnX.base Q2.out.f Q5.out) Q1.out,OwnQ.box1 (OwnX.base Q3.out Q5.out) Q1.out⟩,zae Q4.out (by omega) _ _ _ _ _⟩
 | some b =>
  have Hb:Hid (zlF d b (zaq (zb4 m))=S):=Hb
  simp only[Option.isSome_some,if_true];have Hu:=Jx.out b JA.out;have HA:=M Hu
  have K8:Hid (OwnB w1 W0.heap.size vb b):=K8
  obtain ⟨Ab,cb,rfl,_,_⟩:=xO (xW K8.out);have KM:=M (zel 2 0 0 w1 (HS.out.ext H6.out));clear Kc Hu;go_wp2_with fail
  refine KM.out.mono ?_
  rintro e w2 ⟨rfl,H5⟩;have Ho:=M (xT H6.out H5);have K6:=M (SlR.ext (xW K8.out) H5);have KN:=M (zel 1 0 0 w2 (HS.out.ext Ho.out));clear H5 KM g0 g1 g2 g3 g4;go_wp2_with fail
  refine KN.out.mono ?_
  rintro e w3 ⟨rfl,Ku⟩;have Hp:=M (xT Ho.out Ku)
  have Jm:Hid (Bs w3 (I Ab b.length cb) b):=M (SlR.ext K6.out Ku)
  clear Ku KN K6;obtain ⟨g0,g1,g2,g3,g4⟩:=zaa (H0.out.ext Hp.out)
  rw[show zaw 2 0 0=T zbE from by decide,show zaw 1 0 0=T zds from by decide]
  simp only[Option.getD_some,Option.isSome_some,if_true,sv];go_wp2_with fail;clear g0 g1 g2 g3 g4
  have Hf:=zlR _ d n 2 0 0 _ b w3 (HS.out.ext Hp.out) (show DkV w3 (V #[I A d.fs.length c,I B d.q.length e2,E H d.quota,E H d.fuse,L d.dead]) d from ⟨_,_,rfl,HF.out.ext Hp.out,HQ.out.ext Hp.out⟩) HZ.out Jm.out (by have:=HA.out;have:=HN.out;omega)
  rw[show zbG d (zaw 2 0 0) b=putS d zbE b from by rw[show zaw 2 0 0=T zbE from by decide];rfl] at Hf
  have KC:Sz (n+2+b.length) (putS d zbE b).1:=(HZ.out.does [zca zbE,zcn zbE b] true).mono (by simp[zaW,zca,zcn])
  have H3:=Hb.out;unfold zlF at H3;obtain ⟨p,hp⟩:∃ p,putS d zbE b=p:=⟨_,rfl⟩;rw[hp] at Hf KC H3
  refine Hf.mono ?_
  rintro e w4 ⟨u,rfl,⟨A3,c3,B3,e3,rfl,of,oq⟩,KY⟩;have E4:=xT Hp.out KY;have HV:=H2.out.ext E4
  have J5:=zal (show Blk w4 (w.heap.size+1+1) 25 #[I none 0 0,I none 0 0,E H 0,E H 0,L false] from HV) (I A3 p.1.fs.length c3) (I B3 p.1.q.length e3) (E H p.1.quota) (E H p.1.fuse) (L p.1.dead)
  have J3:=xT K7.out E4;obtain ⟨f0,f1,f2,f3,f4⟩:=zam HV;obtain ⟨d0,d1,d2,d3,d4⟩:=zaa HV;have KR:=M (xT K7.out Hp.out).size;have Hx:=M HV;have Hy:=M J5;have H9:=M of;have Ha:=M oq;have KJ:=M E4;have Kq:=M J3;have KV:=M KC;have Hj:=M H3;clear Hf KC H3 hp HV J5 J3 of oq KY E4 Hb
  by_cases hp2:p.2=0
  case neg =>
   have JH:(p.2 != 0)=true:=by simpa using hp2
   obtain rfl:p=S:=by have h:=Hj.out;rwa [if_pos hp2] at h
   clear hp2;go_wp2_with fail
   refine bodyPost_ret (zey _ _ _ _ (E H p.2) rfl rfl (zal Hy.out (I A3 p.1.fs.length c3) (I B3 p.1.q.length e3) (E H p.1.quota) (E H p.1.fuse) (L p.1.dead)) rfl) rfl ?_
   have KE:=OwnF.box1 (A':=A3) (n':=p.1.fs.length) (c':=c3) (B':=B3) (m':=p.1.q.length) (e':=e3) (q':=p.1.quota) (f':=p.1.fuse) (d':=p.1.dead) H9.out Hx.out;have KF:=OwnQ.box1 (A':=A3) (n':=p.1.fs.length) (c':=c3) (B':=B3) (m':=p.1.q.length) (e':=e3) (q':=p.1.quota) (f':=p.1.fuse) (d':=p.1.dead) Ha.out Hx.out;have K4:=OwnF.box1 (A':=A3) (n':=p.1.fs.length) (c':=c3) (B':=B3) (m':=p.1.q.length) (e':=e3) (q':=p.1.quota) (f':=p.1.fuse) (d':=p.1.dead) (OwnX.base KE KR.out) Hy.out;have K5:=OwnQ.box1 (A':=A3) (n':=p.1.fs.length) (c':=c3) (B':=B3) (m':=p.1.q.length) (e':=e3) (q':=p.1.quota) (f':=p.1.fuse) (d':=p.1.dead) (OwnX.base KF KR.out) Hy.out;have K3:=zae (zae Kq.out (by omega:w.heap.size≤w.heap.size+1+1) (I A3 p.1.fs.length c3) (I B3 p.1.q.length e3) (E H p.1.quota) (E H p.1.fuse) (L p.1.dead)) (by omega:w.heap.size≤w.heap.size+1+1) (I A3 p.1.fs.length c3) (I B3 p.1.q.length e3) (E H p.1.quota) (E H p.1.fuse) (L p.1.dead)
   exact zfK K4 K5 K3
  have JH:(p.2 != 0)=false:=by simpa using hp2
  have H3:=Hj.out;rw[if_neg (by simpa using hp2)] at H3;have HJ:=M H3;clear H3 hp2 Hj;go_wp2_with fail
  have Kh:Hid (Blk (((((w4.setCell ⟨w.heap.size+1+1,0,J⟩ (I A3 p.1.fs.length c3)).setCell ⟨w.heap.size+1+1,1,J⟩ (I B3 p.1.q.length e3)).setCell ⟨w.heap.size+1+1,2,J⟩ (E H p.1.quota)).setCell ⟨w.heap.size+1+1,3,J⟩ (E H p.1.fuse)).setCell ⟨w.heap.size+1+1,4,J⟩ (L p.1.dead)) (w.heap.size+1+1) 25 (zan A3 p.1.fs.length c3 B3 p.1.q.length e3 p.1.quota p.1.fuse p.1.dead)):=Hy
  have Jr:Hid (OwnF (((((w4.setCell ⟨w.heap.size+1+1,0,J⟩ (I A3 p.1.fs.length c3)).setCell ⟨w.heap.size+1+1,1,J⟩ (I B3 p.1.q.length e3)).setCell ⟨w.heap.size+1+1,2,J⟩ (E H p.1.quota)).setCell ⟨w.heap.size+1+1,3,J⟩ (E H p.1.fuse)).setCell ⟨w.heap.size+1+1,4,J⟩ (L p.1.dead)) w3.heap.size (I A3 p.1.fs.length c3) p.1.fs):=M (OwnF.box1 (A':=A3) (n':=p.1.fs.length) (c':=c3) (B':=B3) (m':=p.1.q.length) (e':=e3) (q':=p.1.quota) (f':=p.1.fuse) (d':=p.1.dead) H9.out Hx.out)
  have Jy:Hid (OwnQ (((((w4.setCell ⟨w.heap.size+1+1,0,J⟩ (I A3 p.1.fs.length c3)).setCell ⟨w.heap.size+1+1,1,J⟩ (I B3 p.1.q.length e3)).setCell ⟨w.heap.size+1+1,2,J⟩ (E H p.1.quota)).setCell ⟨w.heap.size+1+1,3,J⟩ (E H p.1.fuse)).setCell ⟨w.heap.size+1+1,4,J⟩ (L p.1.dead)) w3.heap.size (I B3 p.1.q.length e3) p.1.q):=M (OwnQ.box1 (A':=A3) (n':=p.1.fs.length) (c':=c3) (B':=B3) (m':=p.1.q.length) (e':=e3) (q':=p.1.quota) (f':=p.1.fuse) (d':=p.1.dead) Ha.out Hx.out)
  have KT:Hid (Ext w (((((w4.setCell ⟨w.heap.size+1+1,0,J⟩ (I A3 p.1.fs.length c3)).setCell ⟨w.heap.size+1+1,1,J⟩ (I B3 p.1.q.length e3)).setCell ⟨w.heap.size+1+1,2,J⟩ (E H p.1.quota)).setCell ⟨w.heap.size+1+1,3,J⟩ (E H p.1.fuse)).setCell ⟨w.heap.size+1+1,4,J⟩ (L p.1.dead))):=M (zae Kq.out (by omega:w.heap.size≤w.heap.size+1+1) (I A3 p.1.fs.length c3) (I B3 p.1.q.length e3) (E H p.1.quota) (E H p.1.fuse) (L p.1.dead))
  have Jv:Hid (Blk (((((w4.setCell ⟨w.heap.size+1+1,0,J⟩ (I A3 p.1.fs.length c3)).setCell ⟨w.heap.size+1+1,1,J⟩ (I B3 p.1.q.length e3)).setCell ⟨w.heap.size+1+1,2,J⟩ (E H p.1.quota)).setCell ⟨w.heap.size+1+1,3,J⟩ (E H p.1.fuse)).setCell ⟨w.heap.size+1+1,4,J⟩ (L p.1.dead)) (w.heap.size+1) 30 #[E H m.next,E H m.term,E H m.vote,E H m.sq,E H m.sf,I C m.segs.length c2]):=M (zlV (H1.out.ext KJ.out) (by omega:w.heap.size+1≠w.heap.size+1+1) (I A3 p.1.fs.length c3) (I B3 p.1.q.length e3) (E H p.1.quota) (E H p.1.fuse) (L p.1.dead))
  have Ji:(((((w4.setCell ⟨w.heap.size+1+1,0,J⟩ (I A3 p.1.fs.length c3)).setCell ⟨w.heap.size+1+1,1,J⟩ (I B3 p.1.q.length e3)).setCell ⟨w.heap.size+1+1,2,J⟩ (E H p.1.quota)).setCell ⟨w.heap.size+1+1,3,J⟩ (E H p.1.fuse)).setCell ⟨w.heap.size+1+1,4,J⟩ (L p.1.dead)).heap.size=w4.heap.size:=by simp only[World.size_setCell]
  clear Hy Hx H9 Ha Kq KJ f0 f1 f2 f3 f4 d0 d1 d2 d3 d4
  generalize (((((w4.setCell ⟨w.heap.size+1+1,0,J⟩ (I A3 p.1.fs.length c3)).setCell ⟨w.heap.size+1+1,1,J⟩ (I B3 p.1.q.length e3)).setCell ⟨w.heap.size+1+1,2,J⟩ (E H p.1.quota)).setCell ⟨w.heap.size+1+1,3,J⟩ (E H p.1.fuse)).setCell ⟨w.heap.size+1+1,4,J⟩ (L p.1.dead))=w5 at *
  have K9:Hid (Ext w5 (w5.alloc (N #[E .u8 3,sv zbE,sv zds,I none 0 0] 98))):=M (xA (xR _) _)
  have Jg:Qs (w5.alloc (N #[E .u8 3,sv zbE,sv zds,I none 0 0] 98)) (I (T ⟨w4.heap.size,0,J⟩) 1 1) [zbR zbE zds] :=
   ⟨[E .u8 3,sv zbE,sv zds,I none 0 0],ziu w5 _ 98 4 1 rfl (by omega) Ji,zdO (o:=zbR zbE zds) (SlR.nil _ 1)⟩
  have hC:=zhC _ p.1 (n+2+b.length) true _ [zbR zbE zds] _ (show DkV (w5.alloc (N #[E .u8 3,sv zbE,sv zds,I none 0 0] 98)) (V #[I A3 p.1.fs.length c3,I B3 p.1.q.length e3,E H p.1.quota,E H p.1.fuse,L p.1.dead]) p.1 from ⟨_,_,rfl,(OwnF.fs Jr.out).ext K9.out,(OwnQ.qs Jy.out).ext K9.out⟩) KV.out Jg (by have:=HA.out;have:=HN.out;simp[zaW,zbR];omega)
  have KD:=KV.out.does [zbR zbE zds] true;have H3:=HJ.out;obtain ⟨r,hr⟩:∃ r,zbT true p.1 [zbR zbE zds]=r:=⟨_,rfl⟩;rw[hr] at hC KD H3
  refine hC.mono ?_
  rintro e w7 ⟨u,rfl,⟨A4,c4,B4,e4,rfl,of,oq⟩,KZ⟩;have E7:=xT K9.out KZ;have HW:=Kh.out.ext E7
  have J6:=zal (show Blk w7 (w.heap.size+1+1) 25 #[I A3 p.1.fs.length c3,I B3 p.1.q.length e3,E H p.1.quota,E H p.1.fuse,L p.1.dead] from HW) (I A4 r.1.fs.length c4) (I B4 r.1.q.length e4) (E H r.1.quota) (E H r.1.fuse) (L r.1.dead)
  have J4:=xT KT.out E7;obtain ⟨f0,f1,f2,f3,f4⟩:=zam HW;obtain ⟨d0,d1,d2,d3,d4⟩:=zaa HW;have HK:=M (xT KT.out K9.out).size;have Hz:=M HW;have Hi:=M J6;have H9:=M of;have Ha:=M oq;have KL:=M (Jv.out.ext E7);have Kr:=M J4;have JC:=M KD;have Hk:=M H3;clear hC KD H3 hr HW J6 J4 of oq KZ E7 Jg HJ Ji
  by_cases hr2:r.2=0
  case neg =>
   have K2:(r.2 != 0)=true:=by simpa using hr2
   obtain rfl:r=S:=by have h:=Hk.out;rwa [if_pos hr2] at h
   clear hr2;go_wp2_with fail
   refine bodyPost_ret (zey _ _ _ _ (E H r.2) rfl rfl (zal Hi.out (I A4 r.1.fs.length c4) (I B4 r.1.q.length e4) (E H r.1.quota) (E H r.1.fuse) (L r.1.dead)) rfl) rfl ?_
   have KE:=OwnF.box1 (A':=A4) (n':=r.1.fs.length) (c':=c4) (B':=B4) (m':=r.1.q.length) (e':=e4) (q':=r.1.quota) (f':=r.1.fuse) (d':=r.1.dead) H9.out Hz.out;have KF:=OwnQ.box1 (A':=A4) (n':=r.1.fs.length) (c':=c4) (B':=B4) (m':=r.1.q.length) (e':=e4) (q':=r.1.quota) (f':=r.1.fuse) (d':=r.1.dead) Ha.out Hz.out;have K4:=OwnF.box1 (A':=A4) (n':=r.1.fs.length) (c':=c4) (B':=B4) (m':=r.1.q.length) (e':=e4) (q':=r.1.quota) (f':=r.1.fuse) (d':=r.1.dead) (OwnX.base KE HK.out) Hi.out;have K5:=OwnQ.box1 (A':=A4) (n':=r.1.fs.length) (c':=c4) (B':=B4) (m':=r.1.q.length) (e':=e4) (q':=r.1.quota) (f':=r.1.fuse) (d':=r.1.dead) (OwnX.base KF HK.out) Hi.out;have K3:=zae (zae Kr.out (by omega:w.heap.size≤w.heap.size+1+1) (I A4 r.1.fs.length c4) (I B4 r.1.q.length e4) (E H r.1.quota) (E H r.1.fuse) (L r.1.dead)) (by omega:w.heap.size≤w.heap.size+1+1) (I A4 r.1.fs.length c4) (I B4 r.1.q.length e4) (E H r.1.quota) (E H r.1.fuse) (L r.1.dead)
   exact zfK K4 K5 K3
  have K2:(r.2 != 0)=false:=by simpa using hr2
  have H3:=Hk.out;rw[if_neg (by simpa using hr2)] at H3;have Kn:=M H3;clear H3 hr2 Hk;go_wp2_with fail
  have Js:Hid (OwnF (((((w7.setCell ⟨w.heap.size+1+1,0,J⟩ (I A4 r.1.fs.length c4)).setCell ⟨w.heap.size+1+1,1,J⟩ (I B4 r.1.q.length e4)).setCell ⟨w.heap.size+1+1,2,J⟩ (E H r.1.quota)).setCell ⟨w.heap.size+1+1,3,J⟩ (E H r.1.fuse)).setCell ⟨w.heap.size+1+1,4,J⟩ (L r.1.dead)) _ (I A4 r.1.fs.length c4) r.1.fs):=M (OwnF.box1 (A':=A4) (n':=r.1.fs.length) (c':=c4) (B':=B4) (m':=r.1.q.length) (e':=e4) (q':=r.1.quota) (f':=r.1.fuse) (d':=r.1.dead) H9.out Hz.out)
  have Jz:Hid (OwnQ (((((w7.setCell ⟨w.heap.size+1+1,0,J⟩ (I A4 r.1.fs.length c4)).setCell ⟨w.heap.size+1+1,1,J⟩ (I B4 r.1.q.length e4)).setCell ⟨w.heap.size+1+1,2,J⟩ (E H r.1.quota)).setCell ⟨w.heap.size+1+1,3,J⟩ (E H r.1.fuse)).setCell ⟨w.heap.size+1+1,4,J⟩ (L r.1.dead)) _ (I B4 r.1.q.length e4) r.1.q):=M (OwnQ.box1 (A':=A4) (n':=r.1.fs.length) (c':=c4) (B':=B4) (m':=r.1.q.length) (e':=e4) (q':=r.1.quota) (f':=r.1.fuse) (d':=r.1.dead) Ha.out Hz.out)
  have Hq:Hid (Ext w (((((w7.setCell ⟨w.heap.size+1+1,0,J⟩ (I A4 r.1.fs.length c4)).setCell ⟨w.heap.size+1+1,1,J⟩ (I B4 r.1.q.length e4)).setCell ⟨w.heap.size+1+1,2,J⟩ (E H r.1.quota)).setCell ⟨w.heap.size+1+1,3,J⟩ (E H r.1.fuse)).setCell ⟨w.heap.size+1+1,4,J⟩ (L r.1.dead))):=M (zae Kr.out (by omega:w.heap.size≤w.heap.size+1+1) (I A4 r.1.fs.length c4) (I B4 r.1.q.length e4) (E H r.1.quota) (E H r.1.fuse) (L r.1.dead))
  have Jw:Hid (Blk (((((w7.setCell ⟨w.heap.size+1+1,0,J⟩ (I A4 r.1.fs.length c4)).setCell ⟨w.heap.size+1+1,1,J⟩ (I B4 r.1.q.length e4)).setCell ⟨w.heap.size+1+1,2,J⟩ (E H r.1.quota)).setCell ⟨w.heap.size+1+1,3,J⟩ (E H r.1.fuse)).setCell ⟨w.heap.size+1+1,4,J⟩ (L r.1.dead)) (w.heap.size+1) 30 #[E H m.next,E H m.term,E H m.vote,E H m.sq,E H m.sf,I C m.segs.length c2]):=M (zlV KL.out (by omega:w.heap.size+1≠w.heap.size+1+1) (I A4 r.1.fs.length c4) (I B4 r.1.q.length e4) (E H r.1.quota) (E H r.1.fuse) (L r.1.dead))
  have Hi:Hid (Blk (((((w7.setCell ⟨w.heap.size+1+1,0,J⟩ (I A4 r.1.fs.length c4)).setCell ⟨w.heap.size+1+1,1,J⟩ (I B4 r.1.q.length e4)).setCell ⟨w.heap.size+1+1,2,J⟩ (E H r.1.quota)).setCell ⟨w.heap.size+1+1,3,J⟩ (E H r.1.fuse)).setCell ⟨w.heap.size+1+1,4,J⟩ (L r.1.dead)) (w.heap.size+1+1) 25 #[I A4 r.1.fs.length c4,I B4 r.1.q.length e4,E H r.1.quota,E H r.1.fuse,L r.1.dead]):=Hi
  clear Hz H9 Ha Kr KL f0 f1 f2 f3 f4 d0 d1 d2 d3 d4
  generalize (((((w7.setCell ⟨w.heap.size+1+1,0,J⟩ (I A4 r.1.fs.length c4)).setCell ⟨w.heap.size+1+1,1,J⟩ (I B4 r.1.q.length e4)).setCell ⟨w.heap.size+1+1,2,J⟩ (E H r.1.quota)).setCell ⟨w.heap.size+1+1,3,J⟩ (E H r.1.fuse)).setCell ⟨w.heap.size+1+1,4,J⟩ (L r.1.dead))=w8 at *
  obtain ⟨k0,k1,k2,k3,k4⟩:=zaa Hi.out;obtain ⟨l0,l1,l2,l3,l4,l5⟩:=zag Jw.out
  refine wp_region_held_drew (S:=fun _=>True) (by kernel_rfl) trivial (fun _=>?_)
  have Ht:Ext w8 w8.drew:=xD (xR _)
  refine AllReadyH.two (i:=0) (j:=1) rfl rfl (by kernel_rfl) (by rfl) (by rfl) (fun K hK=>?_) (fun K hK=>?_)
  ·go_simp
   refine shK hK _ _ trivial (fun _=>?_)
   refine ar1 1 (fun K hK=>?_)
   go_simp
   refine shK hK _ _ trivial (fun _=>?_)
   clear k0 k1 k2 k3 k4 l0 l1 l2 l3 l4 l5
   refine ar1 2 (fun K hK=>?_)
   go_simp
   refine (zhB m _ _ (Kl.out.ext (xT Hq.out Ht)) Km.out).mono ?_
   rintro e w9 ⟨vk,rfl,Hl,Hs⟩;have E9:=xT Ht Hs;obtain ⟨Ak,ck,rfl,_,_⟩:=xO (xW Hl)
   refine shK hK _ _ trivial (fun _=>?_)
   exact mcSwapa0
  ·go_simp
   refine shK hK _ _ trivial (fun _=>?_)
   refine AllReadyH.two (i:=0) (j:=2) rfl rfl (by kernel_rfl) (by rfl) (by rfl) (fun K hK=>?_) (fun K hK=>?_)
   ·go_simp
    refine shK hK _ _ trivial (fun _=>?_)
    clear k0 k1 k2 k3 k4 l0 l1 l2 l3 l4 l5
    refine ar1 2 (fun K hK=>?_)
    go_simp
    refine (zhB m _ _ (Kl.out.ext (xT Hq.out Ht)) Km.out).mono ?_
    rintro e w9 ⟨vk,rfl,Hl,Hs⟩;have E9:=xT Ht Hs;obtain ⟨Ak,ck,rfl,_,_⟩:=xO (xW Hl)
    refine shK hK _ _ trivial (fun _=>?_)
    exact mcSwapa0
   ·go_simp
    refine (zhB m _ _ (Kl.out.ext (xT Hq.out Ht)) Km.out).mono ?_
    rintro e w9 ⟨vk,rfl,Hl,Hs⟩;have E9:=xT Ht Hs;obtain ⟨Ak,ck,rfl,_,_⟩:=xO (xW Hl)
    refine shK hK _ _ trivial (fun _=>?_)
    have m0:=E9.cell k0;have m1:=E9.cell k1;have m2:=E9.cell k2;have m3:=E9.cell k3;have m4:=E9.cell k4;clear k0 k1 k2 k3 k4 l0 l1 l2 l3 l4 l5
    refine ar1 0 (fun K hK=>?_)
    go_simp
    refine shK hK _ _ trivial (fun _=>?_)
    clear m0 m1 m2 m3 m4
    exact mcSwapa0
end Go.Proofs.YteggfecbjgbndaaGreatDoor
