/- Merged -/
import Derived.Test.YtgonhdeochgkoaaGreatDoorZx39
set_option linter.all false
set_option maxHeartbeats 8000000
set_option maxRecDepth 100000
open Go.Mv.Blk renaming new→P0
open Go.World renaming drew→P1,ownsRow_nil→P2
namespace Go.Proofs.YtgonhdeochgkoaaGreatDoor
open Go.RowKit Go.Mv
def zo7 (r:Rd) (bt bm:Nat) (w:World) (en:Ending) (w':World):Prop:=if r.err=0 then en=.returned (.int .i64 0)∧zuG w bt bm r w' else en=.returned (.int .i64 r.err)∧Ext w w'
theorem zlu (fs:List Fil):(zbB fs).err=0∨(∃ e,zbB fs=zbS e∧e≠0):=by
 unfold zbB
 split
 ·exact .inr ⟨42,rfl,by decide⟩
 ·split
  ·exact .inr ⟨130,rfl,by decide⟩
  ·split
   ·exact .inr ⟨130,rfl,by decide⟩
   ·split
    ·exact .inl rfl
    ·exact .inr ⟨130,rfl,by decide⟩
theorem zr3 (v:Value) (fs:List Fil) (pl bt bm:Nat) (w:World) (hS:StW w) (hF:Fs w v fs) (hl:fs.length≤4000000) (H4:∀ f∈fs,f.2.length≤100000) (h0:w.cell? ⟨pl,0,none⟩=some v)
  (hT:Blk w bt 56 (zbT zfi (.slice none 0 0))) (hM:Blk w bm 30 (mfC mf0 (.slice none 0 0))) (Ky:bt≠bm) :
  Calls Tryz.prog 58 #[.func (.func 59) #[] #[.pointer (some ⟨pl,0,none⟩),.pointer (some ⟨bt,0,none⟩),.pointer (some ⟨bm,0,none⟩)]] w (zo7 (zbB fs) bt bm w):=by
 have JD:∀ (fn:Fn) (first cap:Array Value) (w:World),(Instr.makeFunc fn first cap).run Tryz.prog w=.ok (.func fn first cap) w:=fun _ _ _ _=>rfl
 have hX:Ext w (w.alloc (.cells #[.int .i64 0] 32)):=xA (xR _) _
 have he:=P0 w 32 #[.int .i64 0];have key:=zqp v fs pl bt bm _ (hS.ext hX) (hF.ext hX) hl H4 (hX.cell h0) (hT.ext hX) (hM.ext hX) Ky;unfold zo7;unfold R1P at key;have K2:=zlu fs;obtain ⟨R,hR⟩:∃ R,zbB fs=R:=⟨_,rfl⟩
 rw[hR] at key K2 ⊢
 have K1:=hT.lt;have K0:=hM.lt;have HM:=zhd key;have HX:=zhd hX;have He:=zhd he;have KK:=zhd (And.intro K1 K0);clear key hR hS hF H4 hT hM h0 hX he K1 K0
 go_enter_defers Tryz.func58,Tryz.ntmps58
 go_wp2_with fail
 refine HM.out.mono ?_
 rintro e w1 hr
 by_cases hz:R.err=0
 case neg =>
  rw[if_neg hz] at hr;obtain ⟨rfl,H8⟩:=hr;have Kx:=He.out.ext H8
  refine leaves_cons (f:=101) (args:=#[.pointer (some ⟨w.heap.size,0,none⟩)]) (by simp) (by simp[go_sem]) ?_
  refine (zr2 ⟨w.heap.size,0,none⟩ _ R.err [] _ (Kx.cell 0 rfl) (Kx.frozen 0)).mono ?_
  rintro e u' w2 ⟨rfl,rfl,rfl⟩;have hs:=Kx.set 0 (.int .i64 R.err);have hc:=hs.cell 0 rfl
  simp[Leaves,settle,results,Tryz.results58,go_sem,hc]
  rw[if_neg hz]
  exact Below.setCell (p:=⟨w.heap.size,0,none⟩) (xT HX.out H8) (xN _) _
 case pos =>
  rw[if_pos hz] at hr;obtain ⟨rfl,⟨vl,vs,K1,K0,Jc,Jd⟩,J7,H4⟩:=hr;obtain ⟨l1,l2⟩:=KK.out;have Kc:=H4 _ _ _ (by omega) (by omega) He.out;have f0:=Kc.frozen 0;have g0:=Kc.cell 0 rfl;have Hq:=zhd Kc;have Jt:=zhd J7;have Hk:=zhd H4;have Jo:=zhd K1;have Jn:=zhd K0;have KO:=zhd Jc;have KP:=zhd Jd;have HZ:=zhd hz;clear Kc J7 H4 K1 K0 Jc Jd hz K2 l1 l2;go_wp2_with fail
  refine leaves_cons (f:=101) (args:=#[.pointer (some ⟨w.heap.size,0,none⟩)]) (by simp) (by simp[go_sem]) ?_
  refine (zp8 ⟨w.heap.size,0,none⟩ _).mono ?_
  rintro e u' w4 ⟨rfl,rfl,rfl⟩;have hs:=Hq.out.set 0 (.int .i64 0)
  have hc:(w1.setCell ⟨w.heap.size,0,none⟩ (.int .i64 0)).cell? ⟨w.heap.size,0,none⟩=some (.int .i64 0):=hs.cell 0 rfl
  obtain ⟨l1,l2⟩:=KK.out
  have b1:=Jo.out.other (show bt≠w.heap.size by omega) 0 (.int .i64 0)
  have b2:=Jn.out.other (show bm≠w.heap.size by omega) 0 (.int .i64 0)
  have o1:OwnE _ _ _ _:=zai (KO.out.kept (zab _ w.heap.size 0 (.int .i64 0)) (.inr (Hq.out.not_row (by decide) KO.out).symm)) HX.out.size
  have o2:OwnS _ _ _ _:=zai (KP.out.kept (zab _ w.heap.size 0 (.int .i64 0)) (.inr (Hq.out.not_row (by decide) KP.out).symm)) HX.out.size
  have g1:∀ W0,Ext W0 w→W0.heap.size≤bt→W0.heap.size≤bm→Ext W0 (w1.setCell ⟨w.heap.size,0,none⟩ (.int .i64 0)):=fun W0 h h1 h2=>Below.setCell (p:=⟨w.heap.size,0,none⟩) (Jt.out W0 (xT h HX.out) h1 h2) h.size _
  have k1:∀ b t cs,b≠bt→b≠bm→Blk w b t cs→Blk (w1.setCell ⟨w.heap.size,0,none⟩ (.int .i64 0)) b t cs:=fun b t cs h1 h2 h3=>(Hk.out b t cs h1 h2 (h3.ext HX.out)).other (by have:=h3.lt;omega) 0 _
  generalize w1.setCell ⟨w.heap.size,0,none⟩ (.int .i64 0)=w5 at *
  simp[Leaves,settle,results,Tryz.results58,go_sem,hc]
  exact ⟨⟨vl,vs,b1,b2,o1,o2⟩,g1,k1⟩
theorem zrS (tmps:Array Value) (W:World) (b c:Nat) (cs ds:Array Value) (u:Value) (h2:tmps.getD 2 undef=.pointer (some ⟨b,0,none⟩)) (h3:tmps.getD 3 undef=.pointer (some ⟨c,0,none⟩)) (h4:tmps.getD 4 undef=u) (hb:Blk W b 56 cs) (hc:Blk W c 30 ds) (hs:cs.size=8) (hd:ds.size=6):(results Tryz.f19 tmps).run Tryz.prog W=.ok (.tuple #[.agg cs,.agg ds,u]) W:=by
 have hl:=hb.load (P:=Tryz.prog) znj rfl (by rw[hs];kernel_rfl);have hm:=hc.load (P:=Tryz.prog) ziH rfl (by rw[hd];kernel_rfl)
 have Ku:tmps[2]?.getD undef=.pointer (some ⟨b,0,none⟩):=by simpa using h2
 have HO:tmps[3]?.getD undef=.pointer (some ⟨c,0,none⟩):=by simpa using h3
 have HT:tmps[4]?.getD undef=u:=by simpa using h4
 simp[results,Tryz.results19,Ku,HO,HT,asAddr,hl,hm]
def RdW (w:World) (r:Rd) (e:Ending) (W:World):Prop:=e=.returned (.int .i64 r.err)∧∃ vl vs,Blk W (w.heap.size+1) 56 (zbT r.t vl)∧Blk W (w.heap.size+1+1) 30 (mfC r.m vs)∧OwnE W w.heap.size vl r.t.log∧OwnS W w.heap.size vs r.m.segs∧Ext w W
theorem zu3 (v:Value) (fs:List Fil) (w:World) (hS:StW w) (hF:Fs w v fs) (hl:fs.length≤4000000) (H4:∀ f∈fs,f.2.length≤100000) {z1 z2:Array Value} (KA:z1=zbT zfi (.slice none 0 0)) (KB:z2=mfC mf0 (.slice none 0 0)) :
  Calls Tryz.prog 58 #[.func (.func 59) #[] #[.pointer (some ⟨w.heap.size,0,none⟩),.pointer (some ⟨w.heap.size+1,0,none⟩),.pointer (some ⟨w.heap.size+1+1,0,none⟩)]] (((w.alloc (.cells #[v] 22)).alloc (.cells z1 56)).alloc (.cells z2 30)) (RdW w (zbB fs)):=by
 subst KA KB
 have hX:Ext w (((w.alloc (.cells #[v] 22)).alloc (.cells (zbT zfi (.slice none 0 0)) 56)).alloc (.cells (mfC mf0 (.slice none 0 0)) 30)):=xA (xA (xA (xR _) _) _) _
 have b0:=((P0 w 22 #[v]).alloc (.cells (zbT zfi (.slice none 0 0)) 56)).alloc (.cells (mfC mf0 (.slice none 0 0)) 30);have b1:=(P0 (w.alloc (.cells #[v] 22)) 56 (zbT zfi (.slice none 0 0))).alloc (.cells (mfC mf0 (.slice none 0 0)) 30);have b2:=P0 ((w.alloc (.cells #[v] 22)).alloc (.cells (zbT zfi (.slice none 0 0)) 56)) 30 (mfC mf0 (.slice none 0 0));rw[xS] at b1;rw[xS,xS] at b2
 have JI:w.heap.size+1+1+1=(((w.alloc (.cells #[v] 22)).alloc (.cells (zbT zfi (.slice none 0 0)) 56)).alloc (.cells (mfC mf0 (.slice none 0 0)) 30)).heap.size:=by rw[xS,xS,xS]
 refine (zr3 v fs w.heap.size (w.heap.size+1) (w.heap.size+1+1) _ (hS.ext hX) (hF.ext hX) hl H4 (b0.cell 0 rfl) b1 b2 (by omega)).mono ?_
 generalize (((w.alloc (.cells #[v] 22)).alloc (.cells (zbT zfi (.slice none 0 0)) 56)).alloc (.cells (mfC mf0 (.slice none 0 0)) 30))=w3 at *
 rintro e W h;unfold zo7 at h
 rcases zlu fs with hz | ⟨e1,hz,Ky⟩
 ·rw[if_pos hz] at h
  obtain ⟨rfl,⟨vl,vs,h1,h2,h3,h4⟩,hg,_⟩:=h
  exact ⟨by rw[hz],vl,vs,h1,h2,zai h3 (by omega),zai h4 (by omega),hg w hX (by omega) (by omega)⟩
 ·rw[hz] at h ⊢
  rw[if_neg (show ¬ (zbS e1).err=0 from Ky)] at h
  obtain ⟨rfl,hE⟩:=h
  exact ⟨rfl,.slice none 0 0,.slice none 0 0,b1.ext hE,b2.ext hE,P2 _ _ _ _,P2 _ _ _ _,xT hX hE⟩
theorem zk3 (v:Value) (fs:List Fil) (w:World) (hS:StW w) (hF:Fs w v fs) (hl:fs.length≤4000000) (H4:∀ f∈fs,f.2.length≤100000):Calls Tryz.prog 19 #[v] w (TellO w (zbB fs)):=by
 have JD:∀ (fn:Fn) (first cap:Array Value) (w:World),(Instr.makeFunc fn first cap).run Tryz.prog w=.ok (.func fn first cap) w:=fun _ _ _ _=>rfl
 obtain ⟨A,c,rfl,_,_⟩:=Fs.open_ hF;have key:=zu3 (.slice A fs.length c) fs w hS hF hl H4 (z1:=#[.int .i64 0,.int .i64 0,.int .i64 0,.int .i64 0,.bool false,.slice none 0 0,.int .i64 0,.int .i64 0]) (z2:=#[.int .i64 0,.int .i64 0,.int .i64 0,.int .i64 0,.int .i64 0,.slice none 0 0]) rfl rfl;obtain ⟨R,hR⟩:∃ R,zbB fs=R:=⟨_,rfl⟩
 rw[hR] at key ⊢
 have HM:=zhd key;clear key hS hF H4 hR
 go_enter Tryz.func19,Tryz.ntmps19
 go_wp2_with fail
 refine HM.out.mono ?_
 obtain ⟨er,t,m⟩:=R;rintro e w4 ⟨rfl,vl,vs,hb,hc,H9,H3,hE⟩
 dsimp only at hb hc H9 H3 ⊢
 obtain ⟨Al,cl,rfl,_,_⟩:=xO (OwnE.es H9);obtain ⟨As,cs,rfl,_,_⟩:=Sgs.open_ (OwnS.sgs H3);obtain ⟨nl,Ja⟩:∃ n,t.log.length=n:=⟨_,rfl⟩;obtain ⟨ns,Jb⟩:∃ n,m.segs.length=n:=⟨_,rfl⟩;rw[Ja] at hb H9;rw[Jb] at hc H3
 have HB:=zhd (show Blk w4 (w.heap.size+1) 56 #[.int .i64 t.s.idx,.int .i64 t.s.term,.int .i64 t.s.sum,.int .i64 t.s.lvl,.bool t.s.fin,.slice Al nl cl,.int .i64 t.term,.int .i64 t.vote] from hb)
 have HC:=zhd (show Blk w4 (w.heap.size+1+1) 30 #[.int .i64 m.next,.int .i64 m.term,.int .i64 m.vote,.int .i64 m.sq,.int .i64 m.sf,.slice As ns cs] from hc)
 have Kk:=zhd H9;have Hc:=zhd H3;have HE:=zhd hE;clear hb hc H9 H3 hE Ja Jb;obtain ⟨p0,p1,p2,p3,p4,p5,p6,p7⟩:=zbW HB.out;obtain ⟨q0,q1,q2,q3,q4,q5⟩:=zan HC.out;go_wp2_with fail
 refine wp_region_held_drew (S:=fun W=>W.cell? ⟨w.heap.size+1,0,none⟩=some (.int .i64 t.s.idx)∧W.cell? ⟨w.heap.size+1,1,none⟩=some (.int .i64 t.s.term)∧W.cell? ⟨w.heap.size+1,2,none⟩=some (.int .i64 t.s.sum)∧W.cell? ⟨w.heap.size+1,3,none⟩=some (.int .i64 t.s.lvl)∧W.cell? ⟨w.heap.size+1,4,none⟩=some (.bool t.s.fin)∧W.cell? ⟨w.heap.size+1,5,none⟩=some (.slice Al nl cl)∧W.cell? ⟨w.heap.size+1,6,none⟩=some (.int .i64 t.term)∧W.cell? ⟨w.heap.size+1,7,none⟩=some (.int .i64 t.vote)∧W.cell? ⟨w.heap.size+1+1,0,none⟩=some (.int .i64 m.next)∧W.cell? ⟨w.heap.size+1+1,1,none⟩=some (.int .i64 m.term)∧W.cell? ⟨w.heap.size+1+1,2,none⟩=some (.int .i64 m.vote)∧W.cell? ⟨w.heap.size+1+1,3,none⟩=some (.int .i64 m.sq)∧W.cell? ⟨w.heap.size+1+1,4,none⟩=some (.int .i64 m.sf)∧W.cell? ⟨w.heap.size+1+1,5,none⟩=some (.slice As ns cs)) (by kernel_rfl) ⟨p0,p1,p2,p3,p4,p5,p6,p7,q0,q1,q2,q3,q4,q5⟩ (fun _=>?_)
 clear p0 p1 p2 p3 p4 p5 p6 p7 q0 q1 q2 q3 q4 q5;refine tkN 0 rfl ?_;refine tkN 1 rfl ?_;refine tkN 2 rfl ?_;obtain ⟨f0,f1,f2,f3,f4,f5,f6,f7⟩:=zj2 HB.out;obtain ⟨g0,g1,g2,g3,g4,g5,g6,g7⟩:=zbW HB.out
 refine ar1 3 rfl (fun K hK=>?_)
 go_simp
 show K _ (P1 (zdj w4 (w.heap.size+1) (.int .i64 t.s.idx) (.int .i64 t.s.term) (.int .i64 t.s.sum) (.int .i64 t.s.lvl) (.bool t.s.fin) (.slice Al nl cl) (.int .i64 t.term) (.int .i64 t.vote)))
 have Ht:Ext (zdj w4 (w.heap.size+1) (.int .i64 t.s.idx) (.int .i64 t.s.term) (.int .i64 t.s.sum) (.int .i64 t.s.lvl) (.bool t.s.fin) (.slice Al nl cl) (.int .i64 t.term) (.int .i64 t.vote)) (P1 (zdj w4 (w.heap.size+1) (.int .i64 t.s.idx) (.int .i64 t.s.term) (.int .i64 t.s.sum) (.int .i64 t.s.lvl) (.bool t.s.fin) (.slice Al nl cl) (.int .i64 t.term) (.int .i64 t.vote))):=xD (xR _)
 have KI:=zhd ((zgU HB.out (.int .i64 t.s.idx) (.int .i64 t.s.term) (.int .i64 t.s.sum) (.int .i64 t.s.lvl) (.bool t.s.fin) (.slice Al nl cl) (.int .i64 t.term) (.int .i64 t.vote)).ext Ht);have Hp:=zhd ((zeE HC.out (by omega:w.heap.size+1+1≠w.heap.size+1) (.int .i64 t.s.idx) (.int .i64 t.s.term) (.int .i64 t.s.sum) (.int .i64 t.s.lvl) (.bool t.s.fin) (.slice Al nl cl) (.int .i64 t.term) (.int .i64 t.vote)).ext Ht);have Kl:=zhd (OwnE.ext (zfD HB.out (by decide) Kk.out (.int .i64 t.s.idx) (.int .i64 t.s.term) (.int .i64 t.s.sum) (.int .i64 t.s.lvl) (.bool t.s.fin) (.slice Al nl cl) (.int .i64 t.term) (.int .i64 t.vote)) Ht);have Kp:=zhd (zaf (zfD HB.out (by decide) Hc.out (.int .i64 t.s.idx) (.int .i64 t.s.term) (.int .i64 t.s.sum) (.int .i64 t.s.lvl) (.bool t.s.fin) (.slice Al nl cl) (.int .i64 t.term) (.int .i64 t.vote)) Ht);have Jp:=zhd (xT (zg4 HE.out (by omega:w.heap.size≤w.heap.size+1) (.int .i64 t.s.idx) (.int .i64 t.s.term) (.int .i64 t.s.sum) (.int .i64 t.s.lvl) (.bool t.s.fin) (.slice Al nl cl) (.int .i64 t.term) (.int .i64 t.vote)) Ht);clear Ht f0 f1 f2 f3 f4 f5 f6 f7 g0 g1 g2 g3 g4 g5 g6 g7
 generalize (P1 (zdj w4 (w.heap.size+1) (.int .i64 t.s.idx) (.int .i64 t.s.term) (.int .i64 t.s.sum) (.int .i64 t.s.lvl) (.bool t.s.fin) (.slice Al nl cl) (.int .i64 t.term) (.int .i64 t.vote)))=w9 at *
 obtain ⟨p0,p1,p2,p3,p4,p5,p6,p7⟩:=zbW KI.out;obtain ⟨q0,q1,q2,q3,q4,q5⟩:=zan Hp.out
 refine shK hK _ _ ⟨p0,p1,p2,p3,p4,p5,p6,p7,q0,q1,q2,q3,q4,q5⟩ (fun _=>?_)
 clear p0 p1 p2 p3 p4 p5 p6 p7 q0 q1 q2 q3 q4 q5;obtain ⟨f0,f1,f2,f3,f4,f5⟩:=zeQ Hp.out;obtain ⟨g0,g1,g2,g3,g4,g5⟩:=zan Hp.out
 refine ar1 4 rfl (fun K hK=>?_)
 go_simp
 show K _ (zbY w9 (w.heap.size+1+1) (.int .i64 m.next) (.int .i64 m.term) (.int .i64 m.vote) (.int .i64 m.sq) (.int .i64 m.sf) (.slice As ns cs))
 have H5:=zhd (zeD KI.out (by omega:w.heap.size+1≠w.heap.size+1+1) (.int .i64 m.next) (.int .i64 m.term) (.int .i64 m.vote) (.int .i64 m.sq) (.int .i64 m.sf) (.slice As ns cs))
 have HD:Hid (Blk (zbY w9 (w.heap.size+1+1) (.int .i64 m.next) (.int .i64 m.term) (.int .i64 m.vote) (.int .i64 m.sq) (.int .i64 m.sf) (.slice As ns cs)) (w.heap.size+1+1) 30 #[.int .i64 m.next,.int .i64 m.term,.int .i64 m.vote,.int .i64 m.sq,.int .i64 m.sf,.slice As ns cs]):=zhd (zby Hp.out (.int .i64 m.next) (.int .i64 m.term) (.int .i64 m.vote) (.int .i64 m.sq) (.int .i64 m.sf) (.slice As ns cs))
 have HH:Hid (OwnE (zbY w9 (w.heap.size+1+1) (.int .i64 m.next) (.int .i64 m.term) (.int .i64 m.vote) (.int .i64 m.sq) (.int .i64 m.sf) (.slice As ns cs)) _ _ t.log):=zhd (zc6 Hp.out (by decide) Kl.out (.int .i64 m.next) (.int .i64 m.term) (.int .i64 m.vote) (.int .i64 m.sq) (.int .i64 m.sf) (.slice As ns cs))
 have HI:Hid (OwnS (zbY w9 (w.heap.size+1+1) (.int .i64 m.next) (.int .i64 m.term) (.int .i64 m.vote) (.int .i64 m.sq) (.int .i64 m.sf) (.slice As ns cs)) _ _ m.segs):=zhd (zc6 Hp.out (by decide) Kp.out (.int .i64 m.next) (.int .i64 m.term) (.int .i64 m.vote) (.int .i64 m.sq) (.int .i64 m.sf) (.slice As ns cs))
 have Kj:Hid (Ext w (zbY w9 (w.heap.size+1+1) (.int .i64 m.next) (.int .i64 m.term) (.int .i64 m.vote) (.int .i64 m.sq) (.int .i64 m.sf) (.slice As ns cs))):=zhd (zbM Jp.out (by omega:w.heap.size≤w.heap.size+1+1) (.int .i64 m.next) (.int .i64 m.term) (.int .i64 m.vote) (.int .i64 m.sq) (.int .i64 m.sf) (.slice As ns cs))
 clear f0 f1 f2 f3 f4 f5 g0 g1 g2 g3 g4 g5
 generalize zbY w9 (w.heap.size+1+1) (.int .i64 m.next) (.int .i64 m.term) (.int .i64 m.vote) (.int .i64 m.sq) (.int .i64 m.sf) (.slice As ns cs)=Jk at *
 obtain ⟨p0,p1,p2,p3,p4,p5,p6,p7⟩:=zbW H5.out;obtain ⟨q0,q1,q2,q3,q4,q5⟩:=zan HD.out
 refine shK hK _ _ ⟨p0,p1,p2,p3,p4,p5,p6,p7,q0,q1,q2,q3,q4,q5⟩ (fun _=>?_)
 clear p0 p1 p2 p3 p4 p5 p6 p7 q0 q1 q2 q3 q4 q5;refine tkN 5 rfl ?_;refine wpAnyH_done (by kernel_rfl) ?_ _;go_wp2_with fail
 refine bodyPost_ret (zrS _ _ (w.heap.size+1) (w.heap.size+1+1) _ _ _ rfl rfl rfl H5.out HD.out rfl rfl) rfl ?_
 exact ⟨_,_,rfl,HH.out,HI.out,Kj.out⟩
theorem ze0 (v:Value) (fs:List Fil) (w:World) (hS:StW w) (hF:Fs w v fs) (hl:fs.length≤4000000) (H4:∀ f∈fs,f.2.length≤100000):Calls Tryz.prog 19 #[v] w (zo6 w (zbB fs)):=(zk3 v fs w hS hF hl H4).mono fun _ _ h=>h.tell
open Go.RowKit Go.Mv Go.Shelf
theorem zs2 (tmps:Array Value) (W:World) (b c:Nat) (cs ds:Array Value) (u:Value) (h2:tmps.getD 2 undef=.pointer (some ⟨b,0,none⟩)) (h3:tmps.getD 3 undef=.pointer (some ⟨c,0,none⟩)) (h4:tmps.getD 4 undef=u) (hb:Blk W b 56 cs) (hc:Blk W c 30 ds) (hs:cs.size=8) (hd:ds.size=6):(results Tryz.f25 tmps).run Tryz.prog W=.ok (.tuple #[.agg cs,.agg ds,u]) W:=by
 have hl:=hb.load (P:=Tryz.prog) znj rfl (by rw[hs];kernel_rfl);have hm:=hc.load (P:=Tryz.prog) ziH rfl (by rw[hd];kernel_rfl)
 have Ku:tmps[2]?.getD undef=.pointer (some ⟨b,0,none⟩):=by simpa using h2
 have HO:tmps[3]?.getD undef=.pointer (some ⟨c,0,none⟩):=by simpa using h3
 have HT:tmps[4]?.getD undef=u:=by simpa using h4
 simp[results,Tryz.results25,Ku,HO,HT,asAddr,hl,hm]
theorem zse (v:Value) (d:Dk) (n:Nat) (w:World) (hS:StW w) (hD:DkV w v d) (hn:n≤100000) (hs:Sz n d):Calls Tryz.prog 25 #[v] w (TellO w (zbB d.now)):=by
 obtain ⟨R,hR⟩:∃ R,zbB d.now=R:=⟨_,rfl⟩;rw[hR];have HR:=zhd hR;clear hR;obtain ⟨vf,vq,rfl,hF,hQ⟩:=hD;obtain ⟨A,c,rfl,_,_⟩:=Fs.open_ hF;obtain ⟨xs,Kz,Jf⟩:=hQ;obtain ⟨B,e,rfl,_,_⟩:=xO Kz
 have hQ:Qs w (.slice B d.q.length e) d.q:=⟨xs,Kz,Jf⟩
 clear Kz Jf;obtain ⟨z1,KA⟩:∃ x:Array Value,#[.int .i64 0,.int .i64 0,.int .i64 0,.int .i64 0,.bool false,.slice none 0 0,.int .i64 0,.int .i64 0]=x:=⟨_,rfl⟩;obtain ⟨z2,KB⟩:∃ x:Array Value,#[.int .i64 0,.int .i64 0,.int .i64 0,.int .i64 0,.int .i64 0,.slice none 0 0]=x:=⟨_,rfl⟩;obtain ⟨z0,Jh⟩:∃ x:Array Value,#[.slice A d.fs.length c,.slice B d.q.length e,.int .i64 d.quota,.int .i64 d.fuse,.bool d.dead]=x:=⟨_,rfl⟩
 have hX:Ext w (((w.alloc (.cells z0 25)).alloc (.cells z1 56)).alloc (.cells z2 30)):=xA (xA (xA (xR _) _) _) _
 have b0:=((P0 w 25 z0).alloc (.cells z1 56)).alloc (.cells z2 30);have b1:=(P0 (w.alloc (.cells z0 25)) 56 z1).alloc (.cells z2 30);have b2:=P0 ((w.alloc (.cells z0 25)).alloc (.cells z1 56)) 30 z2;rw[xS] at b1;rw[xS,xS] at b2
 have KX:DkV (((w.alloc (.cells z0 25)).alloc (.cells z1 56)).alloc (.cells z2 30)) (.agg z0) d:=by
  subst Jh
  exact ⟨_,_,rfl,hF.ext hX,hQ.ext hX⟩
 have key:=zl6 _ d n _ KX (by omega) hs;have J1:=hS.ext hX;subst Jh KA KB
 have hl:d.now.length≤4000000:=by have:=zdP d;have:=hs.l;omega
 have hb:∀ f∈d.now,f.2.length≤100000:=fun f hf=>by have h1:=zcy hf;have h2:=zit d;have h3:=hs.t;omega
 obtain ⟨q0,q1,q2,q3,q4⟩:=zac b0;have HM:=zhd key;have HX:=zhd hX;have HS:=zhd J1;have Jl:=zhd b1;have K7:=zhd b2;have HL:=zhd hl;have Hk:=zhd hb;clear key hX J1 b0 b1 b2 hl hb KX hF hQ hS hs hn
 go_enter Tryz.func25,Tryz.ntmps25
 go_wp2_with fail
 refine HM.out.mono ?_
 rintro e1 w1 ⟨A1,c1,rfl,J0,H8⟩;have Ho:=zk3 _ d.now w1 (HS.out.ext H8) (OwnF.fs J0) HL.out Hk.out;rw[HR.out] at Ho;have Kt:=zhd Ho;have H7:=zhd (xT HX.out H8);have Kg:=zhd (Jl.out.ext H8);have Kh:=zhd (K7.out.ext H8);clear Ho H8 J0 q0 q1 q2 q3 q4;go_wp2_with fail
 refine Kt.out.mono ?_
 obtain ⟨er,t,m⟩:=R;rintro e2 w2 ⟨vl,vs,rfl,H9,H3,H6⟩
 dsimp only at H9 H3 ⊢
 obtain ⟨Al,cl,rfl,_,_⟩:=xO (OwnE.es H9);obtain ⟨As,cs,rfl,_,_⟩:=Sgs.open_ (OwnS.sgs H3);have Kb:=Kg.out.ext H6;have Hi:=Kh.out.ext H6
 have KW:w.heap.size≤w1.heap.size:=H7.out.size
 have hE:=xT H7.out H6;have Hf:=zeE Hi (by omega:w.heap.size+1+1≠w.heap.size+1) (.int .i64 t.s.idx) (.int .i64 t.s.term) (.int .i64 t.s.sum) (.int .i64 t.s.lvl) (.bool t.s.fin) (.slice Al t.log.length cl) (.int .i64 t.term) (.int .i64 t.vote);obtain ⟨g0,g1,g2,g3,g4,g5,g6,g7⟩:=zbW Kb;obtain ⟨f0,f1,f2,f3,f4,f5,f6,f7⟩:=zj2 Kb;obtain ⟨i0,i1,i2,i3,i4,i5⟩:=zan Hf;obtain ⟨j0,j1,j2,j3,j4,j5⟩:=zeQ Hf;have H1:=zhd Kb;have H2:=zhd Hi;have Kf:=zhd Hf;have Kk:=zhd H9;have Hc:=zhd H3;have Jq:=zhd hE;have KH:=zhd KW;clear Kb Hi Hf H9 H3 hE H6 KW;unfold zdj at i0 i1 i2 i3 i4 i5 j0 j1 j2 j3 j4 j5;go_wp2_with fail;have Hw:=zhd (zeD (zgU H1.out (.int .i64 t.s.idx) (.int .i64 t.s.term) (.int .i64 t.s.sum) (.int .i64 t.s.lvl) (.bool t.s.fin) (.slice Al t.log.length cl) (.int .i64 t.term) (.int .i64 t.vote)) (by omega:w.heap.size+1≠w.heap.size+1+1) (.int .i64 m.next) (.int .i64 m.term) (.int .i64 m.vote) (.int .i64 m.sq) (.int .i64 m.sf) (.slice As m.segs.length cs));have Hx:=zhd (zby Kf.out (.int .i64 m.next) (.int .i64 m.term) (.int .i64 m.vote) (.int .i64 m.sq) (.int .i64 m.sf) (.slice As m.segs.length cs))
 refine bodyPost_ret (zs2 _ _ (w.heap.size+1) (w.heap.size+1+1) _ _ _ rfl rfl rfl Hw.out Hx.out rfl rfl) rfl ?_
 have JE:=zc6 Kf.out (by decide) (zfD H1.out (by decide) Kk.out (.int .i64 t.s.idx) (.int .i64 t.s.term) (.int .i64 t.s.sum) (.int .i64 t.s.lvl) (.bool t.s.fin) (.slice Al t.log.length cl) (.int .i64 t.term) (.int .i64 t.vote)) (.int .i64 m.next) (.int .i64 m.term) (.int .i64 m.vote) (.int .i64 m.sq) (.int .i64 m.sf) (.slice As m.segs.length cs);have JF:=zc6 Kf.out (by decide) (zfD H1.out (by decide) Hc.out (.int .i64 t.s.idx) (.int .i64 t.s.term) (.int .i64 t.s.sum) (.int .i64 t.s.lvl) (.bool t.s.fin) (.slice Al t.log.length cl) (.int .i64 t.term) (.int .i64 t.vote)) (.int .i64 m.next) (.int .i64 m.term) (.int .i64 m.vote) (.int .i64 m.sq) (.int .i64 m.sf) (.slice As m.segs.length cs);have JG:=zbM (zg4 Jq.out (by omega:w.heap.size≤w.heap.size+1) (.int .i64 t.s.idx) (.int .i64 t.s.term) (.int .i64 t.s.sum) (.int .i64 t.s.lvl) (.bool t.s.fin) (.slice Al t.log.length cl) (.int .i64 t.term) (.int .i64 t.vote)) (by omega:w.heap.size≤w.heap.size+1+1) (.int .i64 m.next) (.int .i64 m.term) (.int .i64 m.vote) (.int .i64 m.sq) (.int .i64 m.sf) (.slice As m.segs.length cs)
 exact ⟨.slice Al t.log.length cl,.slice As m.segs.length cs,rfl,zai JE KH.out,zai JF KH.out,JG⟩
theorem zqi (v:Value) (d:Dk) (n:Nat) (w:World) (hS:StW w) (hD:DkV w v d) (hn:n≤100000) (hs:Sz n d):Calls Tryz.prog 25 #[v] w (zo6 w (zbB d.now)):=(zse v d n w hS hD hn hs).mono fun _ _ h=>h.tell
theorem mcSwapa0 {P:Prop} (h:P:=by
 refine ar1 3 rfl (fun K hK=>?_)
 go_simp
 have Kw:=zhS _ r.1 (n+2+b.length+1) _ (zaO m) w9 (JB.out.ext (xT Hs.out E9)) (show DkV w9 (.agg #[.slice A4 r.1.fs.length c4,.slice B4 r.1.q.length e4,.int .i64 r.1.quota,.int .i64 r.1.fuse,.bool r.1.dead]) r.1 from ⟨_,_,rfl,(OwnF.fs Js.out).ext E9,(OwnQ.qs Jz.out).ext E9⟩) (JC.out.mono (by simp[zaG,zaS])) (xW Hn) Ju.out (by have:=Hk.out;have:=HN.out;omega)
 rw[Ko.out] at Kw
 refine Kw.mono ?_
 rintro e Jk ⟨u,rfl,⟨A6,c6,B6,e6,rfl,of,oq⟩,HU⟩;have Ke:=xT E9 HU
 refine shK hK _ _ trivial (fun _=>?_)
 refine tkN 4 rfl ?_;refine tkN 5 rfl ?_
 have Hd:Blk Jk (w.heap.size+1+1) 25 (zaz A4 r.1.fs.length c4 B4 r.1.q.length e4 r.1.quota r.1.fuse r.1.dead):=Hj.out.ext Ke
 obtain ⟨f0,f1,f2,f3,f4⟩:=za4 Hd;obtain ⟨d0,d1,d2,d3,d4⟩:=zac Hd;have Jj:=(xT Hs.out E9).size;have H5:=zhd Hd;have Ha:=zhd of;have Hb:=zhd oq;have Kq:=zhd (xT Hs.out Ke);have KU:=zhd Jj;clear Hd of oq Jj E9 Ke Hu HU Kw Hn
 refine ar1 6 rfl (fun K hK=>?_)
 go_simp
 refine shK hK _ _ trivial (fun _=>?_)
 refine tkN 7 rfl ?_;refine wpAnyH_done (by kernel_rfl) ?_ _;go_wp2_with fail
 refine bodyPost_ret (zeM _ _ _ _ (.int .i64 S.2) rfl rfl (zaJ H5.out (.slice A6 S.1.fs.length c6) (.slice B6 S.1.q.length e6) (.int .i64 S.1.quota) (.int .i64 S.1.fuse) (.bool S.1.dead)) rfl) rfl ?_
 have K5:=OwnF.box1 (A':=A6) (n':=S.1.fs.length) (c':=c6) (B':=B6) (m':=S.1.q.length) (e':=e6) (q':=S.1.quota) (f':=S.1.fuse) (d':=S.1.dead) (OwnX.base Ha.out KU.out) H5.out;have K6:=OwnQ.box1 (A':=A6) (n':=S.1.fs.length) (c':=c6) (B':=B6) (m':=S.1.q.length) (e':=e6) (q':=S.1.quota) (f':=S.1.fuse) (d':=S.1.dead) (OwnX.base Hb.out KU.out) H5.out;have K4:=zaB Kq.out (by omega:w.heap.size≤w.heap.size+1+1) (.slice A6 S.1.fs.length c6) (.slice B6 S.1.q.length e6) (.int .i64 S.1.quota) (.int .i64 S.1.fuse) (.bool S.1.dead)
 exact zfW K5 K6 K4):P:=h
theorem Sz.does:∀ (q:List Oq) {n:Nat} {d:Dk} (sync:Bool),Sz n d→Sz (n+q.length+zaG q) (zaN sync d q).1
 | [],n,d,sync,h=>by
  rw[zaN]
  split
  ·exact h.sync.mono (by omega)
  ·exact h.mono (by omega)
 | o::q,n,d,sync,h=>by
  rw[zaN,zbJ,xC]
  split
  ·exact (Sz.does q sync (h.doS o)).mono (by omega)
  ·exact (h.doS o).mono (by omega)
def zd5 (d:Dk) (m:Mf):Dk×Int:=match zbs m with | none=>(d,2) | some b=>zcn d b (zaD (zaO m))
theorem zeM (tmps:Array Value) (W:World) (b:Nat) (cs:Array Value) (e:Value) (h4:tmps.getD 4 undef=.pointer (some ⟨b,0,none⟩)) (h3:tmps.getD 5 undef=e) (hb:Blk W b 25 cs) (hs:cs.size=5):(results Tryz.f12 tmps).run Tryz.prog W=.ok (.tuple #[.agg cs,e]) W:=by
 have HT:tmps[4]?.getD undef=.pointer (some ⟨b,0,none⟩):=by simpa using h4
 have HO:tmps[5]?.getD undef=e:=by simpa using h3
 have hl:=hb.load (P:=Tryz.prog) zg3 rfl (by rw[hs];kernel_rfl)
 simp[results,Tryz.results12,HT,HO,asAddr,hl,Sem.run_bind,Sem.run_pure,Result.andThen_ok]
def zlW (w:World) (r:Dk×Int) (e:Ending) (w':World):Prop:=∃ u,e=.returned (.tuple #[u,.int .i64 r.2])∧zjn w' w.heap.size u r.1∧Ext w w'
theorem zfW {w W:World} {r:Dk×Int} {A B:Option Addr} {c e:Nat} (hA:OwnF W w.heap.size (.slice A r.1.fs.length c) r.1.fs) (hB:OwnQ W w.heap.size (.slice B r.1.q.length e) r.1.q) (hE:Ext w W):zlW w r (.returned (.tuple #[.agg (zaz A r.1.fs.length c B r.1.q.length e r.1.quota r.1.fuse r.1.dead),.int .i64 r.2])) W:=⟨_,rfl,⟨A,c,B,e,rfl,hA,hB⟩,hE⟩
theorem zhT (v:Value) (d:Dk) (n:Nat) (m:Mf) (vs:Value) (w:World) (hS:StW w) (hD:DkV w v d) (hs:Sz n d) (hn:n≤100000) (hG:Sgs w vs m.segs) (J9:m.segs.length≤1000000) (J8:(zaO m).length≤1000000) (Je:∀ b,zbs m=some b→b.length≤100000) :
  Calls Tryz.prog 12 #[v,.agg #[.int .i64 m.next,.int .i64 m.term,.int .i64 m.vote,.int .i64 m.sq,.int .i64 m.sf,vs]] w (zlW w (zd5 d m)):=by
 obtain ⟨vf,vq,rfl,hF,hQ⟩:=hD;obtain ⟨A,c,rfl,_,_⟩:=Fs.open_ hF;obtain ⟨B,e2,rfl,_,_⟩:=Qs.open_ hQ;obtain ⟨C,c2,rfl,_,_⟩:=hG.open_;obtain ⟨W0,HV⟩:∃ W0,((w.alloc (.cells #[.slice A d.fs.length c,.slice B d.q.length e2,.int .i64 d.quota,.int .i64 d.fuse,.bool d.dead] 25)).alloc (.cells #[.int .i64 m.next,.int .i64 m.term,.int .i64 m.vote,.int .i64 m.sq,.int .i64 m.sf,.slice C m.segs.length c2] 30)).alloc (.cells #[.slice none 0 0,.slice none 0 0,.int .i64 0,.int .i64 0,.bool false] 25)=W0:=⟨_,rfl⟩
 have Hh:Ext w W0:=by rw[←HV];exact xA (xA (xA (xR _) _) _) _
 have h0:Blk W0 w.heap.size 25 (zaz A d.fs.length c B d.q.length e2 d.quota d.fuse d.dead):=by rw[←HV];exact ((P0 w _ _).alloc _).alloc _
 have h1:Blk W0 (w.heap.size+1) 30 #[.int .i64 m.next,.int .i64 m.term,.int .i64 m.vote,.int .i64 m.sq,.int .i64 m.sf,.slice C m.segs.length c2]:=by
  rw[←HV]
  have:=(P0 (w.alloc (.cells #[.slice A d.fs.length c,.slice B d.q.length e2,.int .i64 d.quota,.int .i64 d.fuse,.bool d.dead] 25)) 30 #[.int .i64 m.next,.int .i64 m.term,.int .i64 m.vote,.int .i64 m.sq,.int .i64 m.sf,.slice C m.segs.length c2]).alloc (.cells #[.slice none 0 0,.slice none 0 0,.int .i64 0,.int .i64 0,.bool false] 25)
  rwa [xS] at this
 have h2:Blk W0 (w.heap.size+1+1) 25 (zaz none 0 0 none 0 0 0 0 false):=by
  rw[←HV]
  have:=P0 ((w.alloc (.cells #[.slice A d.fs.length c,.slice B d.q.length e2,.int .i64 d.quota,.int .i64 d.fuse,.bool d.dead] 25)).alloc (.cells #[.int .i64 m.next,.int .i64 m.term,.int .i64 m.vote,.int .i64 m.sq,.int .i64 m.sf,.slice C m.segs.length c2] 30)) 25 #[.slice none 0 0,.slice none 0 0,.int .i64 0,.int .i64 0,.bool false]
  rwa [xS,xS] at this
 have K8:=zhd Hh;have H0:=zhd h0;have H1:=zhd h1;have H2:=zhd h2;have JB:=zhd hS;have Km:=zhd hG;have HS:=zhd (hS.ext Hh);have HF:=zhd (hF.ext Hh);have HQ:=zhd (hQ.ext Hh);have HG:=zhd (hG.ext Hh);have HP:=zhd (zjm m _ W0 (hG.ext Hh) (hS.ext Hh));have HZ:=zhd hs;have HN:=zhd hn;have Kn:=zhd J9;have Ju:=zhd J8;have Jx:=zhd Je;obtain ⟨q0,q1,q2,q3,q4,q5⟩:=zan h1;clear h0 h1 h2 hF hQ hG Hh hs hS hn J9 J8 Je;obtain ⟨S,hS⟩:∃ S,zd5 d m=S:=⟨_,rfl⟩;rw[hS];unfold zd5 at hS;obtain ⟨rb,K3⟩:∃ r,zbs m=r:=⟨_,rfl⟩;rw[K3] at HP hS;have Hc:=zhd hS;have JA:=zhd K3;clear hS K3
 go_enter Tryz.func12,Tryz.ntmps12
 go_wp2_with fail
 refine HP.out.mono ?_
 rintro e w1 ⟨⟨vb,rfl,Kd⟩,H8⟩;have H7:=zhd H8;have K9:=zhd Kd;clear q0 q1 q2 q3 q4 q5 H8 HV;obtain ⟨g0,g1,g2,g3,g4⟩:=zac (H0.out.ext H7.out)
 cases rb with
 | none =>
  have KQ:=Hc.out;dsimp only at KQ;subst KQ;simp only[Option.isSome_none,Bool.false_eq_true,if_false];obtain ⟨Ab,cb,rfl,_,_⟩:=xO (xW Kd);clear Kd;go_wp2_with fail;clear g0 g1 g2 g3 g4
  refine (zhQ _ d n w1 (show DkV w1 _ d from ⟨_,_,rfl,HF.out.ext H7.out,HQ.out.ext H7.out⟩) (by have:=HN.out;omega) HZ.out).mono ?_
  rintro e w2 ⟨u,rfl,⟨A3,c3,B3,e3,rfl,of,oq⟩,H6⟩;have Hi:=H2.out.ext (xT H7.out H6);have hX:=xT K8.out (xT H7.out H6);have J2:=xT K8.out H7.out;obtain ⟨f0,f1,f2,f3,f4⟩:=za4 Hi;obtain ⟨d0,d1,d2,d3,d4⟩:=zac Hi;have Q1:=zhd Hi;have Q2:=zhd of;have Q3:=zhd oq;have Q4:=zhd hX;have Q5:=zhd J2.size;clear Hi of oq hX J2 H6;go_wp2_with fail
  refine bodyPost_ret (zeM _ _ _ _ (.int .i64 2) rfl rfl (zaJ Q1.out _ _ _ _ _) rfl) rfl ?_
  exact ⟨_,rfl,⟨_,_,_,_,rfl,OwnF.box1 (OwnX.base Q2.out.f Q5.out) Q1.out,OwnQ.box1 (OwnX.base Q3.out Q5.out) Q1.out⟩,zaB Q4.out (by omega) _ _ _ _ _⟩
 | some b =>
  have Hc:Hid (zcn d b (zaD (zaO m))=S):=Hc
  simp only[Option.isSome_some,if_true];have H4:=Jx.out b JA.out;have Hk:=zhd H4
  have K9:Hid (OwnB w1 W0.heap.size vb b):=K9
  obtain ⟨Ab,cb,rfl,_,_⟩:=xO (xW K9.out);have KM:=zhd (zeA 2 0 0 w1 (HS.out.ext H7.out));clear Kd H4;go_wp2_with fail
  refine KM.out.mono ?_
  rintro e w2 ⟨rfl,H6⟩;have Hq:=zhd (xT H7.out H6);have K7:=zhd (SlR.ext (xW K9.out) H6);have KN:=zhd (zeA 1 0 0 w2 (HS.out.ext Hq.out));clear H6 KM g0 g1 g2 g3 g4;go_wp2_with fail
  refine KN.out.mono ?_
  rintro e w3 ⟨rfl,Kv⟩;have Hr:=zhd (xT Hq.out Kv)
  have Jm:Hid (Bs w3 (.slice Ab b.length cb) b):=zhd (SlR.ext K7.out Kv)
  clear Kv KN K7;obtain ⟨g0,g1,g2,g3,g4⟩:=zac (H0.out.ext Hr.out)
  rw[show zas 2 0 0=some zaA from by decide,show zas 1 0 0=some zbq from by decide]
  simp only[Option.getD_some,Option.isSome_some,if_true,sv];go_wp2_with fail;clear g0 g1 g2 g3 g4
  have Hg:=zsk _ d n 2 0 0 _ b w3 (HS.out.ext Hr.out) (show DkV w3 (.agg #[.slice A d.fs.length c,.slice B d.q.length e2,.int .i64 d.quota,.int .i64 d.fuse,.bool d.dead]) d from ⟨_,_,rfl,HF.out.ext Hr.out,HQ.out.ext Hr.out⟩) HZ.out Jm.out (by have:=Hk.out;have:=HN.out;omega)
  rw[show zdG d (zas 2 0 0) b=zdH d zaA b from by rw[show zas 2 0 0=some zaA from by decide];rfl] at Hg
  have KC:Sz (n+2+b.length) (zdH d zaA b).1:=(HZ.out.does [za3 zaA,za2 zaA b] true).mono (by simp[zaG,za3,za2])
  have H3:=Hc.out;unfold zcn at H3;obtain ⟨p,hp⟩:∃ p,zdH d zaA b=p:=⟨_,rfl⟩;rw[hp] at Hg KC H3
  refine Hg.mono ?_
  rintro e w4 ⟨u,rfl,⟨A3,c3,B3,e3,rfl,of,oq⟩,KY⟩;have E4:=xT Hr.out KY;have HW:=H2.out.ext E4
  have J5:=zaJ (show Blk w4 (w.heap.size+1+1) 25 #[.slice none 0 0,.slice none 0 0,.int .i64 0,.int .i64 0,.bool false] from HW) (.slice A3 p.1.fs.length c3) (.slice B3 p.1.q.length e3) (.int .i64 p.1.quota) (.int .i64 p.1.fuse) (.bool p.1.dead)
  have J3:=xT K8.out E4;obtain ⟨f0,f1,f2,f3,f4⟩:=za4 HW;obtain ⟨d0,d1,d2,d3,d4⟩:=zac HW;have KR:=zhd (xT K8.out Hr.out).size;have Hy:=zhd HW;have Hz:=zhd J5;have Ha:=zhd of;have Hb:=zhd oq;have KJ:=zhd E4;have Kr:=zhd J3;have KV:=zhd KC;have Hl:=zhd H3;clear Hg KC H3 hp HW J5 J3 of oq KY E4 Hc
  by_cases hp2:p.2=0
  case neg =>
   have JH:(p.2 != 0)=true:=by simpa using hp2
   obtain rfl:p=S:=by have h:=Hl.out;rwa [if_pos hp2] at h
   clear hp2;go_wp2_with fail
   refine bodyPost_ret (zeM _ _ _ _ (.int .i64 p.2) rfl rfl (zaJ Hz.out (.slice A3 p.1.fs.length c3) (.slice B3 p.1.q.length e3) (.int .i64 p.1.quota) (.int .i64 p.1.fuse) (.bool p.1.dead)) rfl) rfl ?_
   have KE:=OwnF.box1 (A':=A3) (n':=p.1.fs.length) (c':=c3) (B':=B3) (m':=p.1.q.length) (e':=e3) (q':=p.1.quota) (f':=p.1.fuse) (d':=p.1.dead) Ha.out Hy.out;have KF:=OwnQ.box1 (A':=A3) (n':=p.1.fs.length) (c':=c3) (B':=B3) (m':=p.1.q.length) (e':=e3) (q':=p.1.quota) (f':=p.1.fuse) (d':=p.1.dead) Hb.out Hy.out;have K5:=OwnF.box1 (A':=A3) (n':=p.1.fs.length) (c':=c3) (B':=B3) (m':=p.1.q.length) (e':=e3) (q':=p.1.quota) (f':=p.1.fuse) (d':=p.1.dead) (OwnX.base KE KR.out) Hz.out;have K6:=OwnQ.box1 (A':=A3) (n':=p.1.fs.length) (c':=c3) (B':=B3) (m':=p.1.q.length) (e':=e3) (q':=p.1.quota) (f':=p.1.fuse) (d':=p.1.dead) (OwnX.base KF KR.out) Hz.out;have K4:=zaB (zaB Kr.out (by omega:w.heap.size≤w.heap.size+1+1) (.slice A3 p.1.fs.length c3) (.slice B3 p.1.q.length e3) (.int .i64 p.1.quota) (.int .i64 p.1.fuse) (.bool p.1.dead)) (by omega:w.heap.size≤w.heap.size+1+1) (.slice A3 p.1.fs.length c3) (.slice B3 p.1.q.length e3) (.int .i64 p.1.quota) (.int .i64 p.1.fuse) (.bool p.1.dead)
   exact zfW K5 K6 K4
  have JH:(p.2 != 0)=false:=by simpa using hp2
  have H3:=Hl.out;rw[if_neg (by simpa using hp2)] at H3;have HJ:=zhd H3;clear H3 hp2 Hl;go_wp2_with fail
  have Ki:Hid (Blk (((((w4.setCell ⟨w.heap.size+1+1,0,none⟩ (.slice A3 p.1.fs.length c3)).setCell ⟨w.heap.size+1+1,1,none⟩ (.slice B3 p.1.q.length e3)).setCell ⟨w.heap.size+1+1,2,none⟩ (.int .i64 p.1.quota)).setCell ⟨w.heap.size+1+1,3,none⟩ (.int .i64 p.1.fuse)).setCell ⟨w.heap.size+1+1,4,none⟩ (.bool p.1.dead)) (w.heap.size+1+1) 25 (zaz A3 p.1.fs.length c3 B3 p.1.q.length e3 p.1.quota p.1.fuse p.1.dead)):=Hz
  have Jr:Hid (OwnF (((((w4.setCell ⟨w.heap.size+1+1,0,none⟩ (.slice A3 p.1.fs.length c3)).setCell ⟨w.heap.size+1+1,1,none⟩ (.slice B3 p.1.q.length e3)).setCell ⟨w.heap.size+1+1,2,none⟩ (.int .i64 p.1.quota)).setCell ⟨w.heap.size+1+1,3,none⟩ (.int .i64 p.1.fuse)).setCell ⟨w.heap.size+1+1,4,none⟩ (.bool p.1.dead)) w3.heap.size (.slice A3 p.1.fs.length c3) p.1.fs):=zhd (OwnF.box1 (A':=A3) (n':=p.1.fs.length) (c':=c3) (B':=B3) (m':=p.1.q.length) (e':=e3) (q':=p.1.quota) (f':=p.1.fuse) (d':=p.1.dead) Ha.out Hy.out)
  have Jy:Hid (OwnQ (((((w4.setCell ⟨w.heap.size+1+1,0,none⟩ (.slice A3 p.1.fs.length c3)).setCell ⟨w.heap.size+1+1,1,none⟩ (.slice B3 p.1.q.length e3)).setCell ⟨w.heap.size+1+1,2,none⟩ (.int .i64 p.1.quota)).setCell ⟨w.heap.size+1+1,3,none⟩ (.int .i64 p.1.fuse)).setCell ⟨w.heap.size+1+1,4,none⟩ (.bool p.1.dead)) w3.heap.size (.slice B3 p.1.q.length e3) p.1.q):=zhd (OwnQ.box1 (A':=A3) (n':=p.1.fs.length) (c':=c3) (B':=B3) (m':=p.1.q.length) (e':=e3) (q':=p.1.quota) (f':=p.1.fuse) (d':=p.1.dead) Hb.out Hy.out)
  have KT:Hid (Ext w (((((w4.setCell ⟨w.heap.size+1+1,0,none⟩ (.slice A3 p.1.fs.length c3)).setCell ⟨w.heap.size+1+1,1,none⟩ (.slice B3 p.1.q.length e3)).setCell ⟨w.heap.size+1+1,2,none⟩ (.int .i64 p.1.quota)).setCell ⟨w.heap.size+1+1,3,none⟩ (.int .i64 p.1.fuse)).setCell ⟨w.heap.size+1+1,4,none⟩ (.bool p.1.dead))):=zhd (zaB Kr.out (by omega:w.heap.size≤w.heap.size+1+1) (.slice A3 p.1.fs.length c3) (.slice B3 p.1.q.length e3) (.int .i64 p.1.quota) (.int .i64 p.1.fuse) (.bool p.1.dead))
  have Jv:Hid (Blk (((((w4.setCell ⟨w.heap.size+1+1,0,none⟩ (.slice A3 p.1.fs.length c3)).setCell ⟨w.heap.size+1+1,1,none⟩ (.slice B3 p.1.q.length e3)).setCell ⟨w.heap.size+1+1,2,none⟩ (.int .i64 p.1.quota)).setCell ⟨w.heap.size+1+1,3,none⟩ (.int .i64 p.1.fuse)).setCell ⟨w.heap.size+1+1,4,none⟩ (.bool p.1.dead)) (w.heap.size+1) 30 #[.int .i64 m.next,.int .i64 m.term,.int .i64 m.vote,.int .i64 m.sq,.int .i64 m.sf,.slice C m.segs.length c2]):=zhd (zeC (H1.out.ext KJ.out) (by omega:w.heap.size+1≠w.heap.size+1+1) (.slice A3 p.1.fs.length c3) (.slice B3 p.1.q.length e3) (.int .i64 p.1.quota) (.int .i64 p.1.fuse) (.bool p.1.dead))
  have Ji:(((((w4.setCell ⟨w.heap.size+1+1,0,none⟩ (.slice A3 p.1.fs.length c3)).setCell ⟨w.heap.size+1+1,1,none⟩ (.slice B3 p.1.q.length e3)).setCell ⟨w.heap.size+1+1,2,none⟩ (.int .i64 p.1.quota)).setCell ⟨w.heap.size+1+1,3,none⟩ (.int .i64 p.1.fuse)).setCell ⟨w.heap.size+1+1,4,none⟩ (.bool p.1.dead)).heap.size=w4.heap.size:=by simp only[World.size_setCell]
  clear Hz Hy Ha Hb Kr KJ f0 f1 f2 f3 f4 d0 d1 d2 d3 d4
  generalize (((((w4.setCell ⟨w.heap.size+1+1,0,none⟩ (.slice A3 p.1.fs.length c3)).setCell ⟨w.heap.size+1+1,1,none⟩ (.slice B3 p.1.q.length e3)).setCell ⟨w.heap.size+1+1,2,none⟩ (.int .i64 p.1.quota)).setCell ⟨w.heap.size+1+1,3,none⟩ (.int .i64 p.1.fuse)).setCell ⟨w.heap.size+1+1,4,none⟩ (.bool p.1.dead))=w5 at *
  have Ka:Hid (Ext w5 (w5.alloc (.cells #[.int .u8 3,sv zaA,sv zbq,.slice none 0 0] 86))):=zhd (xA (xR _) _)
  have Jg:Qs (w5.alloc (.cells #[.int .u8 3,sv zaA,sv zbq,.slice none 0 0] 86)) (.slice (some ⟨w4.heap.size,0,none⟩) 1 1) [zaS zaA zbq] :=
   ⟨[.int .u8 3,sv zaA,sv zbq,.slice none 0 0],zoP w5 _ 86 4 1 rfl (by omega) Ji,zfU (o:=zaS zaA zbq) (SlR.nil _ 1)⟩
  have hC:=zhR _ p.1 (n+2+b.length) true _ [zaS zaA zbq] _ (show DkV (w5.alloc (.cells #[.int .u8 3,sv zaA,sv zbq,.slice none 0 0] 86)) (.agg #[.slice A3 p.1.fs.length c3,.slice B3 p.1.q.length e3,.int .i64 p.1.quota,.int .i64 p.1.fuse,.bool p.1.dead]) p.1 from ⟨_,_,rfl,(OwnF.fs Jr.out).ext Ka.out,(OwnQ.qs Jy.out).ext Ka.out⟩) KV.out Jg (by have:=Hk.out;have:=HN.out;simp[zaG,zaS];omega)
  have KD:=KV.out.does [zaS zaA zbq] true;have H3:=HJ.out;obtain ⟨r,hr⟩:∃ r,zaN true p.1 [zaS zaA zbq]=r:=⟨_,rfl⟩;rw[hr] at hC KD H3
  refine hC.mono ?_
  rintro e w7 ⟨u,rfl,⟨A4,c4,B4,e4,rfl,of,oq⟩,KZ⟩;have E7:=xT Ka.out KZ;have HY:=Ki.out.ext E7
  have J6:=zaJ (show Blk w7 (w.heap.size+1+1) 25 #[.slice A3 p.1.fs.length c3,.slice B3 p.1.q.length e3,.int .i64 p.1.quota,.int .i64 p.1.fuse,.bool p.1.dead] from HY) (.slice A4 r.1.fs.length c4) (.slice B4 r.1.q.length e4) (.int .i64 r.1.quota) (.int .i64 r.1.fuse) (.bool r.1.dead)
  have J4:=xT KT.out E7;obtain ⟨f0,f1,f2,f3,f4⟩:=za4 HY;obtain ⟨d0,d1,d2,d3,d4⟩:=zac HY;have HK:=zhd (xT KT.out Ka.out).size;have HA:=zhd HY;have Hj:=zhd J6;have Ha:=zhd of;have Hb:=zhd oq;have KL:=zhd (Jv.out.ext E7);have Ks:=zhd J4;have JC:=zhd KD;have Hm:=zhd H3;clear hC KD H3 hr HY J6 J4 of oq KZ E7 Jg HJ Ji
  by_cases hr2:r.2=0
  case neg =>
   have K3:(r.2 != 0)=true:=by simpa using hr2
   obtain rfl:r=S:=by have h:=Hm.out;rwa [if_pos hr2] at h
   clear hr2;go_wp2_with fail
   refine bodyPost_ret (zeM _ _ _ _ (.int .i64 r.2) rfl rfl (zaJ Hj.out (.slice A4 r.1.fs.length c4) (.slice B4 r.1.q.length e4) (.int .i64 r.1.quota) (.int .i64 r.1.fuse) (.bool r.1.dead)) rfl) rfl ?_
   have KE:=OwnF.box1 (A':=A4) (n':=r.1.fs.length) (c':=c4) (B':=B4) (m':=r.1.q.length) (e':=e4) (q':=r.1.quota) (f':=r.1.fuse) (d':=r.1.dead) Ha.out HA.out;have KF:=OwnQ.box1 (A':=A4) (n':=r.1.fs.length) (c':=c4) (B':=B4) (m':=r.1.q.length) (e':=e4) (q':=r.1.quota) (f':=r.1.fuse) (d':=r.1.dead) Hb.out HA.out;have K5:=OwnF.box1 (A':=A4) (n':=r.1.fs.length) (c':=c4) (B':=B4) (m':=r.1.q.length) (e':=e4) (q':=r.1.quota) (f':=r.1.fuse) (d':=r.1.dead) (OwnX.base KE HK.out) Hj.out;have K6:=OwnQ.box1 (A':=A4) (n':=r.1.fs.length) (c':=c4) (B':=B4) (m':=r.1.q.length) (e':=e4) (q':=r.1.quota) (f':=r.1.fuse) (d':=r.1.dead) (OwnX.base KF HK.out) Hj.out;have K4:=zaB (zaB Ks.out (by omega:w.heap.size≤w.heap.size+1+1) (.slice A4 r.1.fs.length c4) (.slice B4 r.1.q.length e4) (.int .i64 r.1.quota) (.int .i64 r.1.fuse) (.bool r.1.dead)) (by omega:w.heap.size≤w.heap.size+1+1) (.slice A4 r.1.fs.length c4) (.slice B4 r.1.q.length e4) (.int .i64 r.1.quota) (.int .i64 r.1.fuse) (.bool r.1.dead)
   exact zfW K5 K6 K4
  have K3:(r.2 != 0)=false:=by simpa using hr2
  have H3:=Hm.out;rw[if_neg (by simpa using hr2)] at H3;have Ko:=zhd H3;clear H3 hr2 Hm;go_wp2_with fail
  have Js:Hid (OwnF (((((w7.setCell ⟨w.heap.size+1+1,0,none⟩ (.slice A4 r.1.fs.length c4)).setCell ⟨w.heap.size+1+1,1,none⟩ (.slice B4 r.1.q.length e4)).setCell ⟨w.heap.size+1+1,2,none⟩ (.int .i64 r.1.quota)).setCell ⟨w.heap.size+1+1,3,none⟩ (.int .i64 r.1.fuse)).setCell ⟨w.heap.size+1+1,4,none⟩ (.bool r.1.dead)) _ (.slice A4 r.1.fs.length c4) r.1.fs):=zhd (OwnF.box1 (A':=A4) (n':=r.1.fs.length) (c':=c4) (B':=B4) (m':=r.1.q.length) (e':=e4) (q':=r.1.quota) (f':=r.1.fuse) (d':=r.1.dead) Ha.out HA.out)
  have Jz:Hid (OwnQ (((((w7.setCell ⟨w.heap.size+1+1,0,none⟩ (.slice A4 r.1.fs.length c4)).setCell ⟨w.heap.size+1+1,1,none⟩ (.slice B4 r.1.q.length e4)).setCell ⟨w.heap.size+1+1,2,none⟩ (.int .i64 r.1.quota)).setCell ⟨w.heap.size+1+1,3,none⟩ (.int .i64 r.1.fuse)).setCell ⟨w.heap.size+1+1,4,none⟩ (.bool r.1.dead)) _ (.slice B4 r.1.q.length e4) r.1.q):=zhd (OwnQ.box1 (A':=A4) (n':=r.1.fs.length) (c':=c4) (B':=B4) (m':=r.1.q.length) (e':=e4) (q':=r.1.quota) (f':=r.1.fuse) (d':=r.1.dead) Hb.out HA.out)
  have Hs:Hid (Ext w (((((w7.setCell ⟨w.heap.size+1+1,0,none⟩ (.slice A4 r.1.fs.length c4)).setCell ⟨w.heap.size+1+1,1,none⟩ (.slice B4 r.1.q.length e4)).setCell ⟨w.heap.size+1+1,2,none⟩ (.int .i64 r.1.quota)).setCell ⟨w.heap.size+1+1,3,none⟩ (.int .i64 r.1.fuse)).setCell ⟨w.heap.size+1+1,4,none⟩ (.bool r.1.dead))):=zhd (zaB Ks.out (by omega:w.heap.size≤w.heap.size+1+1) (.slice A4 r.1.fs.length c4) (.slice B4 r.1.q.length e4) (.int .i64 r.1.quota) (.int .i64 r.1.fuse) (.bool r.1.dead))
  have Jw:Hid (Blk (((((w7.setCell ⟨w.heap.size+1+1,0,none⟩ (.slice A4 r.1.fs.length c4)).setCell ⟨w.heap.size+1+1,1,none⟩ (.slice B4 r.1.q.length e4)).setCell ⟨w.heap.size+1+1,2,none⟩ (.int .i64 r.1.quota)).setCell ⟨w.heap.size+1+1,3,none⟩ (.int .i64 r.1.fuse)).setCell ⟨w.heap.size+1+1,4,none⟩ (.bool r.1.dead)) (w.heap.size+1) 30 #[.int .i64 m.next,.int .i64 m.term,.int .i64 m.vote,.int .i64 m.sq,.int .i64 m.sf,.slice C m.segs.length c2]):=zhd (zeC KL.out (by omega:w.heap.size+1≠w.heap.size+1+1) (.slice A4 r.1.fs.length c4) (.slice B4 r.1.q.length e4) (.int .i64 r.1.quota) (.int .i64 r.1.fuse) (.bool r.1.dead))
  have Hj:Hid (Blk (((((w7.setCell ⟨w.heap.size+1+1,0,none⟩ (.slice A4 r.1.fs.length c4)).setCell ⟨w.heap.size+1+1,1,none⟩ (.slice B4 r.1.q.length e4)).setCell ⟨w.heap.size+1+1,2,none⟩ (.int .i64 r.1.quota)).setCell ⟨w.heap.size+1+1,3,none⟩ (.int .i64 r.1.fuse)).setCell ⟨w.heap.size+1+1,4,none⟩ (.bool r.1.dead)) (w.heap.size+1+1) 25 #[.slice A4 r.1.fs.length c4,.slice B4 r.1.q.length e4,.int .i64 r.1.quota,.int .i64 r.1.fuse,.bool r.1.dead]):=Hj
  clear HA Ha Hb Ks KL f0 f1 f2 f3 f4 d0 d1 d2 d3 d4
  generalize (((((w7.setCell ⟨w.heap.size+1+1,0,none⟩ (.slice A4 r.1.fs.length c4)).setCell ⟨w.heap.size+1+1,1,none⟩ (.slice B4 r.1.q.length e4)).setCell ⟨w.heap.size+1+1,2,none⟩ (.int .i64 r.1.quota)).setCell ⟨w.heap.size+1+1,3,none⟩ (.int .i64 r.1.fuse)).setCell ⟨w.heap.size+1+1,4,none⟩ (.bool r.1.dead))=w8 at *
  obtain ⟨k0,k1,k2,k3,k4⟩:=zac Hj.out;obtain ⟨l0,l1,l2,l3,l4,l5⟩:=zan Jw.out
  refine wp_region_held_drew (S:=fun _=>True) (by kernel_rfl) trivial (fun _=>?_)
  have Hv:Ext w8 w8.drew:=xD (xR _)
  refine AllReadyH.two (i:=0) (j:=1) rfl rfl (by kernel_rfl) (by rfl) (by rfl) (fun K hK=>?_) (fun K hK=>?_)
  ·go_simp
   refine shK hK _ _ trivial (fun _=>?_)
   refine ar1 1 rfl (fun K hK=>?_)
   go_simp
   refine shK hK _ _ trivial (fun _=>?_)
   clear k0 k1 k2 k3 k4 l0 l1 l2 l3 l4 l5
   refine ar1 2 rfl (fun K hK=>?_)
   go_simp
   refine (zhP m _ _ (Km.out.ext (xT Hs.out Hv)) Kn.out).mono ?_
   rintro e w9 ⟨vk,rfl,Hn,Hu⟩;have E9:=xT Hv Hu;obtain ⟨Ak,ck,rfl,_,_⟩:=xO (xW Hn)
   refine shK hK _ _ trivial (fun _=>?_)
   exact mcSwapa0
  ·go_simp
   refine shK hK _ _ trivial (fun _=>?_)
   refine AllReadyH.two (i:=0) (j:=2) rfl rfl (by kernel_rfl) (by rfl) (by rfl) (fun K hK=>?_) (fun K hK=>?_)
   ·go_simp
    refine shK hK _ _ trivial (fun _=>?_)
    clear k0 k1 k2 k3 k4 l0 l1 l2 l3 l4 l5
    refine ar1 2 rfl (fun K hK=>?_)
    go_simp
    refine (zhP m _ _ (Km.out.ext (xT Hs.out Hv)) Kn.out).mono ?_
    rintro e w9 ⟨vk,rfl,Hn,Hu⟩;have E9:=xT Hv Hu;obtain ⟨Ak,ck,rfl,_,_⟩:=xO (xW Hn)
    refine shK hK _ _ trivial (fun _=>?_)
    exact mcSwapa0
   ·go_simp
    refine (zhP m _ _ (Km.out.ext (xT Hs.out Hv)) Kn.out).mono ?_
    rintro e w9 ⟨vk,rfl,Hn,Hu⟩;have E9:=xT Hv Hu;obtain ⟨Ak,ck,rfl,_,_⟩:=xO (xW Hn)
    refine shK hK _ _ trivial (fun _=>?_)
    have m0:=E9.cell k0;have m1:=E9.cell k1;have m2:=E9.cell k2;have m3:=E9.cell k3;have m4:=E9.cell k4;clear k0 k1 k2 k3 k4 l0 l1 l2 l3 l4 l5
    refine ar1 0 rfl (fun K hK=>?_)
    go_simp
    refine shK hK _ _ trivial (fun _=>?_)
    clear m0 m1 m2 m3 m4
    exact mcSwapa0
end Go.Proofs.YtgonhdeochgkoaaGreatDoor
