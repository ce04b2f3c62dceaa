/- Merged: SRead2 SRead3 -/
import Derived.Test.YtgonhdeochgkoaaGreatDoorZt31
set_option linter.all false
set_option maxHeartbeats 8000000
set_option maxRecDepth 100000
namespace Go.Proofs.YtgonhdeochgkoaaGreatDoor
open Go.RowKit Go.Mv
def zpE (r:Rd) (bt bm:Nat) (w:World) (en:Ending) (w':World):Prop:=if r.err=0 then en=.returned (.int .i64 0)∧zvA w bt bm r w' else en=.returned (.int .i64 r.err)∧Ext w w'
theorem zl2 (fs:List Fil):(zaI fs).err=0∨(∃ e,zaI fs=zbM e∧e≠0):=by
 unfold zaI
 split
 ·exact .inr ⟨42,rfl,by decide⟩
 ·split
  ·exact .inr ⟨130,rfl,by decide⟩
  ·split
   ·exact .inr ⟨130,rfl,by decide⟩
   ·split
    ·exact .inl rfl
    ·exact .inr ⟨130,rfl,by decide⟩
theorem zsP (v:Value) (fs:List Fil) (pl bt bm:Nat) (w:World) (hS:StW w) (hF:Fs w v fs) (hl:fs.length≤4000000) (hbl:∀ f∈fs,f.2.length≤100000) (h0:w.cell? ⟨pl,0,none⟩=some v)
  (hT:Blk w bt 56 (zbV zem (.slice none 0 0))) (hM:Blk w bm 30 (mfC mf0 (.slice none 0 0))) (hne:bt≠bm) :
  Calls Tryz.prog 58 #[.func (.func 59) #[] #[.pointer (some ⟨pl,0,none⟩),.pointer (some ⟨bt,0,none⟩),.pointer (some ⟨bm,0,none⟩)]] w (zpE (zaI fs) bt bm w):=by
 have hmf:∀ (fn:Fn) (first cap:Array Value) (w:World),(Instr.makeFunc fn first cap).run Tryz.prog w=.ok (.func fn first cap) w:=fun _ _ _ _=>rfl
 have hX:Ext w (w.alloc (.cells #[.int .i64 0] 32)):=Ext.alloc (Ext.refl _) _
 have he:=Blk.new w 32 #[.int .i64 0];have key:=zq1 v fs pl bt bm _ (hS.ext hX) (hF.ext hX) hl hbl (hX.cell h0) (hT.ext hX) (hM.ext hX) hne;unfold zpE;unfold R1P at key;have herr:=zl2 fs;obtain ⟨R,hR⟩:∃ R,zaI fs=R:=⟨_,rfl⟩
 rw[hR] at key herr ⊢
 have hbt:=hT.lt;have hbm:=hM.lt;have Key:=zhd key;have HX:=zhd hX;have He:=zhd he;have HLT:=zhd (And.intro hbt hbm);clear key hR hS hF hbl hT hM h0 hX he hbt hbm
 go_enter_defers Tryz.func58,Tryz.ntmps58
 go_wp2_with fail
 refine Key.out.mono ?_
 rintro e w1 hr
 by_cases hz:R.err=0
 case neg =>
  rw[if_neg hz] at hr;obtain ⟨rfl,hE1⟩:=hr;have he1:=He.out.ext hE1
  refine leaves_cons (f:=101) (args:=#[.pointer (some ⟨w.heap.size,0,none⟩)]) (by simp) (by simp[go_sem]) ?_
  refine (zl3 ⟨w.heap.size,0,none⟩ _ R.err [] _ (he1.cell 0 rfl) (he1.frozen 0)).mono ?_
  rintro e u' w2 ⟨rfl,rfl,rfl⟩;have hs:=he1.set 0 (.int .i64 R.err);have hc:=hs.cell 0 rfl
  simp[Leaves,settle,results,Tryz.results58,go_sem,hc]
  rw[if_neg hz]
  exact Below.setCell (p:=⟨w.heap.size,0,none⟩) (Ext.trans HX.out hE1) (Nat.le_refl _) _
 case pos =>
  rw[if_pos hz] at hr;obtain ⟨rfl,⟨vl,vs,hbt,hbm,hol,hos⟩,hgr,hbl⟩:=hr;obtain ⟨l1,l2⟩:=HLT.out;have he2:=hbl _ _ _ (by omega) (by omega) He.out;have f0:=he2.frozen 0;have g0:=he2.cell 0 rfl;have HE2:=zhd he2;have HGR:=zhd hgr;have HBL:=zhd hbl;have HBT:=zhd hbt;have HBM:=zhd hbm;have HOL:=zhd hol;have HOS:=zhd hos;have HZ:=zhd hz;clear he2 hgr hbl hbt hbm hol hos hz herr l1 l2;go_wp2_with fail
  refine leaves_cons (f:=101) (args:=#[.pointer (some ⟨w.heap.size,0,none⟩)]) (by simp) (by simp[go_sem]) ?_
  refine (zk2 ⟨w.heap.size,0,none⟩ _).mono ?_
  rintro e u' w4 ⟨rfl,rfl,rfl⟩;have hs:=HE2.out.set 0 (.int .i64 0)
  have hc:(w1.setCell ⟨w.heap.size,0,none⟩ (.int .i64 0)).cell? ⟨w.heap.size,0,none⟩=some (.int .i64 0):=hs.cell 0 rfl
  obtain ⟨l1,l2⟩:=HLT.out
  have b1:=HBT.out.other (show bt≠w.heap.size by omega) 0 (.int .i64 0)
  have b2:=HBM.out.other (show bm≠w.heap.size by omega) 0 (.int .i64 0)
  have o1:OwnE _ _ _ _:=zaj (HOL.out.kept (zaa _ w.heap.size 0 (.int .i64 0)) (.inr (HE2.out.not_row (by decide) HOL.out).symm)) HX.out.size
  have o2:OwnS _ _ _ _:=zaj (HOS.out.kept (zaa _ w.heap.size 0 (.int .i64 0)) (.inr (HE2.out.not_row (by decide) HOS.out).symm)) HX.out.size
  have g1:∀ W0,Ext W0 w→W0.heap.size≤bt→W0.heap.size≤bm→Ext W0 (w1.setCell ⟨w.heap.size,0,none⟩ (.int .i64 0)):=fun W0 h h1 h2=>Below.setCell (p:=⟨w.heap.size,0,none⟩) (HGR.out W0 (Ext.trans h HX.out) h1 h2) h.size _
  have k1:∀ b t cs,b≠bt→b≠bm→Blk w b t cs→Blk (w1.setCell ⟨w.heap.size,0,none⟩ (.int .i64 0)) b t cs:=fun b t cs h1 h2 h3=>(HBL.out b t cs h1 h2 (h3.ext HX.out)).other (by have:=h3.lt;omega) 0 _
  generalize w1.setCell ⟨w.heap.size,0,none⟩ (.int .i64 0)=w5 at *
  simp[Leaves,settle,results,Tryz.results58,go_sem,hc]
  exact ⟨⟨vl,vs,b1,b2,o1,o2⟩,g1,k1⟩
theorem zsB (tmps:Array Value) (W:World) (b c:Nat) (cs ds:Array Value) (u:Value) (h2:tmps.getD 2 undef=.pointer (some ⟨b,0,none⟩)) (h3:tmps.getD 3 undef=.pointer (some ⟨c,0,none⟩)) (h4:tmps.getD 4 undef=u) (hb:Blk W b 56 cs) (hc:Blk W c 30 ds) (hs:cs.size=8) (hd:ds.size=6):(results Tryz.f19 tmps).run Tryz.prog W=.ok (.tuple #[.agg cs,.agg ds,u]) W:=by
 have hl:=hb.load (P:=Tryz.prog) znL rfl (by rw[hs];kernel_rfl);have hm:=hc.load (P:=Tryz.prog) zlm rfl (by rw[hd];kernel_rfl)
 have h2':tmps[2]?.getD undef=.pointer (some ⟨b,0,none⟩):=by simpa using h2
 have h3':tmps[3]?.getD undef=.pointer (some ⟨c,0,none⟩):=by simpa using h3
 have h4':tmps[4]?.getD undef=u:=by simpa using h4
 simp[results,Tryz.results19,h2',h3',h4',asAddr,hl,hm]
def TellO (w:World) (r:Rd) (e:Ending) (w':World):Prop:=∃ vl vs,e=.returned (.tuple #[.agg #[.int .i64 r.t.s.idx,.int .i64 r.t.s.term,.int .i64 r.t.s.sum,.int .i64 r.t.s.lvl,.bool r.t.s.fin,vl,.int .i64 r.t.term,.int .i64 r.t.vote],.agg #[.int .i64 r.m.next,.int .i64 r.m.term,.int .i64 r.m.vote,.int .i64 r.m.sq,.int .i64 r.m.sf,vs],.int .i64 r.err])∧OwnE w' w.heap.size vl r.t.log∧OwnS w' w.heap.size vs r.m.segs∧Ext w w'
theorem TellO.tell {w:World} {r:Rd} {e:Ending} {w':World} (h:TellO w r e w'):zpC w r e w':=by
 obtain ⟨vl,vs,h1,h2,h3,h4⟩:=h
 exact ⟨vl,vs,h1,OwnE.es h2,OwnS.sgs h3,h4⟩
def RdW (w:World) (r:Rd) (e:Ending) (W:World):Prop:=e=.returned (.int .i64 r.err)∧∃ vl vs,Blk W (w.heap.size+1) 56 (zbV r.t vl)∧Blk W (w.heap.size+1+1) 30 (mfC r.m vs)∧OwnE W w.heap.size vl r.t.log∧OwnS W w.heap.size vs r.m.segs∧Ext w W
theorem zvY (v:Value) (fs:List Fil) (w:World) (hS:StW w) (hF:Fs w v fs) (hl:fs.length≤4000000) (hbl:∀ f∈fs,f.2.length≤100000) {z1 z2:Array Value} (hz1:z1=zbV zem (.slice none 0 0)) (hz2:z2=mfC mf0 (.slice none 0 0)) :
  Calls Tryz.prog 58 #[.func (.func 59) #[] #[.pointer (some ⟨w.heap.size,0,none⟩),.pointer (some ⟨w.heap.size+1,0,none⟩),.pointer (some ⟨w.heap.size+1+1,0,none⟩)]] (((w.alloc (.cells #[v] 22)).alloc (.cells z1 56)).alloc (.cells z2 30)) (RdW w (zaI fs)):=by
 subst hz1 hz2
 have hX:Ext w (((w.alloc (.cells #[v] 22)).alloc (.cells (zbV zem (.slice none 0 0)) 56)).alloc (.cells (mfC mf0 (.slice none 0 0)) 30)):=Ext.alloc (Ext.alloc (Ext.alloc (Ext.refl _) _) _) _
 have b0:=((Blk.new w 22 #[v]).alloc (.cells (zbV zem (.slice none 0 0)) 56)).alloc (.cells (mfC mf0 (.slice none 0 0)) 30);have b1:=(Blk.new (w.alloc (.cells #[v] 22)) 56 (zbV zem (.slice none 0 0))).alloc (.cells (mfC mf0 (.slice none 0 0)) 30);have b2:=Blk.new ((w.alloc (.cells #[v] 22)).alloc (.cells (zbV zem (.slice none 0 0)) 56)) 30 (mfC mf0 (.slice none 0 0));rw[World.size_alloc] at b1;rw[World.size_alloc,World.size_alloc] at b2
 have hsz:w.heap.size+1+1+1=(((w.alloc (.cells #[v] 22)).alloc (.cells (zbV zem (.slice none 0 0)) 56)).alloc (.cells (mfC mf0 (.slice none 0 0)) 30)).heap.size:=by rw[World.size_alloc,World.size_alloc,World.size_alloc]
 refine (zsP v fs w.heap.size (w.heap.size+1) (w.heap.size+1+1) _ (hS.ext hX) (hF.ext hX) hl hbl (b0.cell 0 rfl) b1 b2 (by omega)).mono ?_
 generalize (((w.alloc (.cells #[v] 22)).alloc (.cells (zbV zem (.slice none 0 0)) 56)).alloc (.cells (mfC mf0 (.slice none 0 0)) 30))=w3 at *
 rintro e W h;unfold zpE at h
 rcases zl2 fs with hz | ⟨e1,hz,hne⟩
 ·rw[if_pos hz] at h
  obtain ⟨rfl,⟨vl,vs,h1,h2,h3,h4⟩,hg,_⟩:=h
  exact ⟨by rw[hz],vl,vs,h1,h2,zaj h3 (by omega),zaj h4 (by omega),hg w hX (by omega) (by omega)⟩
 ·rw[hz] at h ⊢
  rw[if_neg (show ¬ (zbM e1).err=0 from hne)] at h
  obtain ⟨rfl,hE⟩:=h
  exact ⟨rfl,.slice none 0 0,.slice none 0 0,b1.ext hE,b2.ext hE,World.ownsRow_nil _ _ _ _,World.ownsRow_nil _ _ _ _,Ext.trans hX hE⟩
theorem zlA (v:Value) (fs:List Fil) (w:World) (hS:StW w) (hF:Fs w v fs) (hl:fs.length≤4000000) (hbl:∀ f∈fs,f.2.length≤100000):Calls Tryz.prog 19 #[v] w (TellO w (zaI fs)):=by
 have hmf:∀ (fn:Fn) (first cap:Array Value) (w:World),(Instr.makeFunc fn first cap).run Tryz.prog w=.ok (.func fn first cap) w:=fun _ _ _ _=>rfl
 obtain ⟨A,c,rfl,_,_⟩:=Fs.open_ hF;have key:=zvY (.slice A fs.length c) fs w hS hF hl hbl (z1:=#[.int .i64 0,.int .i64 0,.int .i64 0,.int .i64 0,.bool false,.slice none 0 0,.int .i64 0,.int .i64 0]) (z2:=#[.int .i64 0,.int .i64 0,.int .i64 0,.int .i64 0,.int .i64 0,.slice none 0 0]) rfl rfl;obtain ⟨R,hR⟩:∃ R,zaI fs=R:=⟨_,rfl⟩
 rw[hR] at key ⊢
 have Key:=zhd key;clear key hS hF hbl hR
 go_enter Tryz.func19,Tryz.ntmps19
 go_wp2_with fail
 refine Key.out.mono ?_
 obtain ⟨er,t,m⟩:=R;rintro e w4 ⟨rfl,vl,vs,hb,hc,hes,hss,hE⟩
 dsimp only at hb hc hes hss ⊢
 obtain ⟨Al,cl,rfl,_,_⟩:=SlR.open_ (OwnE.es hes);obtain ⟨As,cs,rfl,_,_⟩:=Sgs.open_ (OwnS.sgs hss);obtain ⟨nl,hnl⟩:∃ n,t.log.length=n:=⟨_,rfl⟩;obtain ⟨ns,hns⟩:∃ n,m.segs.length=n:=⟨_,rfl⟩;rw[hnl] at hb hes;rw[hns] at hc hss
 have HB:=zhd (show Blk w4 (w.heap.size+1) 56 #[.int .i64 t.s.idx,.int .i64 t.s.term,.int .i64 t.s.sum,.int .i64 t.s.lvl,.bool t.s.fin,.slice Al nl cl,.int .i64 t.term,.int .i64 t.vote] from hb)
 have HC:=zhd (show Blk w4 (w.heap.size+1+1) 30 #[.int .i64 m.next,.int .i64 m.term,.int .i64 m.vote,.int .i64 m.sq,.int .i64 m.sf,.slice As ns cs] from hc)
 have HES:=zhd hes;have HSS:=zhd hss;have HE:=zhd hE;clear hb hc hes hss hE hnl hns;obtain ⟨p0,p1,p2,p3,p4,p5,p6,p7⟩:=zbU HB.out;obtain ⟨q0,q1,q2,q3,q4,q5⟩:=zap HC.out;go_wp2_with fail
 refine wp_region_held_drew (S:=fun W=>W.cell? ⟨w.heap.size+1,0,none⟩=some (.int .i64 t.s.idx)∧W.cell? ⟨w.heap.size+1,1,none⟩=some (.int .i64 t.s.term)∧W.cell? ⟨w.heap.size+1,2,none⟩=some (.int .i64 t.s.sum)∧W.cell? ⟨w.heap.size+1,3,none⟩=some (.int .i64 t.s.lvl)∧W.cell? ⟨w.heap.size+1,4,none⟩=some (.bool t.s.fin)∧W.cell? ⟨w.heap.size+1,5,none⟩=some (.slice Al nl cl)∧W.cell? ⟨w.heap.size+1,6,none⟩=some (.int .i64 t.term)∧W.cell? ⟨w.heap.size+1,7,none⟩=some (.int .i64 t.vote)∧W.cell? ⟨w.heap.size+1+1,0,none⟩=some (.int .i64 m.next)∧W.cell? ⟨w.heap.size+1+1,1,none⟩=some (.int .i64 m.term)∧W.cell? ⟨w.heap.size+1+1,2,none⟩=some (.int .i64 m.vote)∧W.cell? ⟨w.heap.size+1+1,3,none⟩=some (.int .i64 m.sq)∧W.cell? ⟨w.heap.size+1+1,4,none⟩=some (.int .i64 m.sf)∧W.cell? ⟨w.heap.size+1+1,5,none⟩=some (.slice As ns cs)) (by kernel_rfl) ⟨p0,p1,p2,p3,p4,p5,p6,p7,q0,q1,q2,q3,q4,q5⟩ (fun _=>?_)
 clear p0 p1 p2 p3 p4 p5 p6 p7 q0 q1 q2 q3 q4 q5;refine tkN 0 rfl ?_;refine tkN 1 rfl ?_;refine tkN 2 rfl ?_;obtain ⟨f0,f1,f2,f3,f4,f5,f6,f7⟩:=zkp HB.out;obtain ⟨g0,g1,g2,g3,g4,g5,g6,g7⟩:=zbU HB.out
 refine ar1 3 rfl (fun K hK=>?_)
 go_simp
 show K _ (World.drew (zdj w4 (w.heap.size+1) (.int .i64 t.s.idx) (.int .i64 t.s.term) (.int .i64 t.s.sum) (.int .i64 t.s.lvl) (.bool t.s.fin) (.slice Al nl cl) (.int .i64 t.term) (.int .i64 t.vote)))
 have hD9:Ext (zdj w4 (w.heap.size+1) (.int .i64 t.s.idx) (.int .i64 t.s.term) (.int .i64 t.s.sum) (.int .i64 t.s.lvl) (.bool t.s.fin) (.slice Al nl cl) (.int .i64 t.term) (.int .i64 t.vote)) (World.drew (zdj w4 (w.heap.size+1) (.int .i64 t.s.idx) (.int .i64 t.s.term) (.int .i64 t.s.sum) (.int .i64 t.s.lvl) (.bool t.s.fin) (.slice Al nl cl) (.int .i64 t.term) (.int .i64 t.vote))):=Ext.drew (Ext.refl _)
 have HB9:=zhd ((zhb HB.out (.int .i64 t.s.idx) (.int .i64 t.s.term) (.int .i64 t.s.sum) (.int .i64 t.s.lvl) (.bool t.s.fin) (.slice Al nl cl) (.int .i64 t.term) (.int .i64 t.vote)).ext hD9);have HC9:=zhd ((zeR HC.out (by omega:w.heap.size+1+1≠w.heap.size+1) (.int .i64 t.s.idx) (.int .i64 t.s.term) (.int .i64 t.s.sum) (.int .i64 t.s.lvl) (.bool t.s.fin) (.slice Al nl cl) (.int .i64 t.term) (.int .i64 t.vote)).ext hD9);have HES9:=zhd (OwnE.ext (zfW HB.out (by decide) HES.out (.int .i64 t.s.idx) (.int .i64 t.s.term) (.int .i64 t.s.sum) (.int .i64 t.s.lvl) (.bool t.s.fin) (.slice Al nl cl) (.int .i64 t.term) (.int .i64 t.vote)) hD9);have HSS9:=zhd (zag (zfW HB.out (by decide) HSS.out (.int .i64 t.s.idx) (.int .i64 t.s.term) (.int .i64 t.s.sum) (.int .i64 t.s.lvl) (.bool t.s.fin) (.slice Al nl cl) (.int .i64 t.term) (.int .i64 t.vote)) hD9);have HE9:=zhd (Ext.trans (zho HE.out (by omega:w.heap.size≤w.heap.size+1) (.int .i64 t.s.idx) (.int .i64 t.s.term) (.int .i64 t.s.sum) (.int .i64 t.s.lvl) (.bool t.s.fin) (.slice Al nl cl) (.int .i64 t.term) (.int .i64 t.vote)) hD9);clear hD9 f0 f1 f2 f3 f4 f5 f6 f7 g0 g1 g2 g3 g4 g5 g6 g7
 generalize (World.drew (zdj w4 (w.heap.size+1) (.int .i64 t.s.idx) (.int .i64 t.s.term) (.int .i64 t.s.sum) (.int .i64 t.s.lvl) (.bool t.s.fin) (.slice Al nl cl) (.int .i64 t.term) (.int .i64 t.vote)))=w9 at *
 obtain ⟨p0,p1,p2,p3,p4,p5,p6,p7⟩:=zbU HB9.out;obtain ⟨q0,q1,q2,q3,q4,q5⟩:=zap HC9.out
 refine shK hK _ _ ⟨p0,p1,p2,p3,p4,p5,p6,p7,q0,q1,q2,q3,q4,q5⟩ (fun _=>?_)
 clear p0 p1 p2 p3 p4 p5 p6 p7 q0 q1 q2 q3 q4 q5;obtain ⟨f0,f1,f2,f3,f4,f5⟩:=zpH HC9.out;obtain ⟨g0,g1,g2,g3,g4,g5⟩:=zap HC9.out
 refine ar1 4 rfl (fun K hK=>?_)
 go_simp
 show K _ (zb2 w9 (w.heap.size+1+1) (.int .i64 m.next) (.int .i64 m.term) (.int .i64 m.vote) (.int .i64 m.sq) (.int .i64 m.sf) (.slice As ns cs))
 have HB10:=zhd (zeQ HB9.out (by omega:w.heap.size+1≠w.heap.size+1+1) (.int .i64 m.next) (.int .i64 m.term) (.int .i64 m.vote) (.int .i64 m.sq) (.int .i64 m.sf) (.slice As ns cs))
 have HC10:Hid (Blk (zb2 w9 (w.heap.size+1+1) (.int .i64 m.next) (.int .i64 m.term) (.int .i64 m.vote) (.int .i64 m.sq) (.int .i64 m.sf) (.slice As ns cs)) (w.heap.size+1+1) 30 #[.int .i64 m.next,.int .i64 m.term,.int .i64 m.vote,.int .i64 m.sq,.int .i64 m.sf,.slice As ns cs]):=zhd (zde HC9.out (.int .i64 m.next) (.int .i64 m.term) (.int .i64 m.vote) (.int .i64 m.sq) (.int .i64 m.sf) (.slice As ns cs))
 have HES10:Hid (OwnE (zb2 w9 (w.heap.size+1+1) (.int .i64 m.next) (.int .i64 m.term) (.int .i64 m.vote) (.int .i64 m.sq) (.int .i64 m.sf) (.slice As ns cs)) _ _ t.log):=zhd (zc6 HC9.out (by decide) HES9.out (.int .i64 m.next) (.int .i64 m.term) (.int .i64 m.vote) (.int .i64 m.sq) (.int .i64 m.sf) (.slice As ns cs))
 have HSS10:Hid (OwnS (zb2 w9 (w.heap.size+1+1) (.int .i64 m.next) (.int .i64 m.term) (.int .i64 m.vote) (.int .i64 m.sq) (.int .i64 m.sf) (.slice As ns cs)) _ _ m.segs):=zhd (zc6 HC9.out (by decide) HSS9.out (.int .i64 m.next) (.int .i64 m.term) (.int .i64 m.vote) (.int .i64 m.sq) (.int .i64 m.sf) (.slice As ns cs))
 have HE10:Hid (Ext w (zb2 w9 (w.heap.size+1+1) (.int .i64 m.next) (.int .i64 m.term) (.int .i64 m.vote) (.int .i64 m.sq) (.int .i64 m.sf) (.slice As ns cs))):=zhd (zeb HE9.out (by omega:w.heap.size≤w.heap.size+1+1) (.int .i64 m.next) (.int .i64 m.term) (.int .i64 m.vote) (.int .i64 m.sq) (.int .i64 m.sf) (.slice As ns cs))
 clear f0 f1 f2 f3 f4 f5 g0 g1 g2 g3 g4 g5
 generalize zb2 w9 (w.heap.size+1+1) (.int .i64 m.next) (.int .i64 m.term) (.int .i64 m.vote) (.int .i64 m.sq) (.int .i64 m.sf) (.slice As ns cs)=w10 at *
 obtain ⟨p0,p1,p2,p3,p4,p5,p6,p7⟩:=zbU HB10.out;obtain ⟨q0,q1,q2,q3,q4,q5⟩:=zap HC10.out
 refine shK hK _ _ ⟨p0,p1,p2,p3,p4,p5,p6,p7,q0,q1,q2,q3,q4,q5⟩ (fun _=>?_)
 clear p0 p1 p2 p3 p4 p5 p6 p7 q0 q1 q2 q3 q4 q5;refine tkN 5 rfl ?_;refine wpAnyH_done (by kernel_rfl) ?_ _;go_wp2_with fail
 refine bodyPost_ret (zsB _ _ (w.heap.size+1) (w.heap.size+1+1) _ _ _ rfl rfl rfl HB10.out HC10.out rfl rfl) rfl ?_
 exact ⟨_,_,rfl,HES10.out,HSS10.out,HE10.out⟩
theorem zen (v:Value) (fs:List Fil) (w:World) (hS:StW w) (hF:Fs w v fs) (hl:fs.length≤4000000) (hbl:∀ f∈fs,f.2.length≤100000):Calls Tryz.prog 19 #[v] w (zpC w (zaI fs)):=(zlA v fs w hS hF hl hbl).mono fun _ _ h=>h.tell
end Go.Proofs.YtgonhdeochgkoaaGreatDoor
