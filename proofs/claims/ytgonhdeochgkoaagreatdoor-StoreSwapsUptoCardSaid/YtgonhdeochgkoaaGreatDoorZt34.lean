/- Merged: SLoad -/
import Derived.Test.YtgonhdeochgkoaaGreatDoorZt32
import Derived.Test.YtgonhdeochgkoaaGreatDoorZt33
set_option linter.all false
set_option maxHeartbeats 8000000
set_option maxRecDepth 100000
namespace Go.Proofs.YtgonhdeochgkoaaGreatDoor
open Go.RowKit Go.Mv Go.Shelf
theorem ztM (tmps:Array Value) (W:World) (b c:Nat) (cs ds:Array Value) (u:Value) (h2:tmps.getD 2 undef=.pointer (some ⟨b,0,none⟩)) (h3:tmps.getD 3 undef=.pointer (some ⟨c,0,none⟩)) (h4:tmps.getD 4 undef=u) (hb:Blk W b 56 cs) (hc:Blk W c 30 ds) (hs:cs.size=8) (hd:ds.size=6):(results Tryz.f25 tmps).run Tryz.prog W=.ok (.tuple #[.agg cs,.agg ds,u]) W:=by
 have hl:=hb.load (P:=Tryz.prog) znL rfl (by rw[hs];kernel_rfl);have hm:=hc.load (P:=Tryz.prog) zlm rfl (by rw[hd];kernel_rfl)
 have h2':tmps[2]?.getD undef=.pointer (some ⟨b,0,none⟩):=by simpa using h2
 have h3':tmps[3]?.getD undef=.pointer (some ⟨c,0,none⟩):=by simpa using h3
 have h4':tmps[4]?.getD undef=u:=by simpa using h4
 simp[results,Tryz.results25,h2',h3',h4',asAddr,hl,hm]
theorem zsZ (v:Value) (d:Dk) (n:Nat) (w:World) (hS:StW w) (hD:DkV w v d) (hn:n≤100000) (hs:Sz n d):Calls Tryz.prog 25 #[v] w (TellO w (zaI d.now)):=by
 obtain ⟨R,hR⟩:∃ R,zaI d.now=R:=⟨_,rfl⟩;rw[hR];have HR:=zhd hR;clear hR;obtain ⟨vf,vq,rfl,hF,hQ⟩:=hD;obtain ⟨A,c,rfl,_,_⟩:=Fs.open_ hF;obtain ⟨xs,hq1,hq2⟩:=hQ;obtain ⟨B,e,rfl,_,_⟩:=SlR.open_ hq1
 have hQ:Qs w (.slice B d.q.length e) d.q:=⟨xs,hq1,hq2⟩
 clear hq1 hq2;obtain ⟨z1,hz1⟩:∃ x:Array Value,#[.int .i64 0,.int .i64 0,.int .i64 0,.int .i64 0,.bool false,.slice none 0 0,.int .i64 0,.int .i64 0]=x:=⟨_,rfl⟩;obtain ⟨z2,hz2⟩:∃ x:Array Value,#[.int .i64 0,.int .i64 0,.int .i64 0,.int .i64 0,.int .i64 0,.slice none 0 0]=x:=⟨_,rfl⟩;obtain ⟨z0,hz0⟩:∃ x:Array Value,#[.slice A d.fs.length c,.slice B d.q.length e,.int .i64 d.quota,.int .i64 d.fuse,.bool d.dead]=x:=⟨_,rfl⟩
 have hX:Ext w (((w.alloc (.cells z0 25)).alloc (.cells z1 56)).alloc (.cells z2 30)):=Ext.alloc (Ext.alloc (Ext.alloc (Ext.refl _) _) _) _
 have b0:=((Blk.new w 25 z0).alloc (.cells z1 56)).alloc (.cells z2 30);have b1:=(Blk.new (w.alloc (.cells z0 25)) 56 z1).alloc (.cells z2 30);have b2:=Blk.new ((w.alloc (.cells z0 25)).alloc (.cells z1 56)) 30 z2;rw[World.size_alloc] at b1;rw[World.size_alloc,World.size_alloc] at b2
 have hD3:DkV (((w.alloc (.cells z0 25)).alloc (.cells z1 56)).alloc (.cells z2 30)) (.agg z0) d:=by
  subst hz0
  exact ⟨_,_,rfl,hF.ext hX,hQ.ext hX⟩
 have key:=zmB _ d n _ hD3 (by omega) hs;have hS3:=hS.ext hX;subst hz0 hz1 hz2
 have hl:d.now.length≤4000000:=by have:=zeW d;have:=hs.l;omega
 have hb:∀ f∈d.now,f.2.length≤100000:=fun f hf=>by have h1:=zeY hf;have h2:=zk4 d;have h3:=hs.t;omega
 obtain ⟨q0,q1,q2,q3,q4⟩:=zac b0;have Key:=zhd key;have HX:=zhd hX;have HS:=zhd hS3;have HB1:=zhd b1;have HB2:=zhd b2;have HL:=zhd hl;have HBL:=zhd hb;clear key hX hS3 b0 b1 b2 hl hb hD3 hF hQ hS hs hn
 go_enter Tryz.func25,Tryz.ntmps25
 go_wp2_with fail
 refine Key.out.mono ?_
 rintro e1 w1 ⟨A1,c1,rfl,hF1,hE1⟩;have key2:=zlA _ d.now w1 (HS.out.ext hE1) (OwnF.fs hF1) HL.out HBL.out;rw[HR.out] at key2;have Key2:=zhd key2;have HE1:=zhd (Ext.trans HX.out hE1);have HB1':=zhd (HB1.out.ext hE1);have HB2':=zhd (HB2.out.ext hE1);clear key2 hE1 hF1 q0 q1 q2 q3 q4;go_wp2_with fail
 refine Key2.out.mono ?_
 obtain ⟨er,t,m⟩:=R;rintro e2 w2 ⟨vl,vs,rfl,hes,hss,hE2⟩
 dsimp only at hes hss ⊢
 obtain ⟨Al,cl,rfl,_,_⟩:=SlR.open_ (OwnE.es hes);obtain ⟨As,cs,rfl,_,_⟩:=Sgs.open_ (OwnS.sgs hss);have hb1:=HB1'.out.ext hE2;have hb2:=HB2'.out.ext hE2
 have h1z:w.heap.size≤w1.heap.size:=HE1.out.size
 have hE:=Ext.trans HE1.out hE2;have hb2':=zeR hb2 (by omega:w.heap.size+1+1≠w.heap.size+1) (.int .i64 t.s.idx) (.int .i64 t.s.term) (.int .i64 t.s.sum) (.int .i64 t.s.lvl) (.bool t.s.fin) (.slice Al t.log.length cl) (.int .i64 t.term) (.int .i64 t.vote);obtain ⟨g0,g1,g2,g3,g4,g5,g6,g7⟩:=zbU hb1;obtain ⟨f0,f1,f2,f3,f4,f5,f6,f7⟩:=zkp hb1;obtain ⟨i0,i1,i2,i3,i4,i5⟩:=zap hb2';obtain ⟨j0,j1,j2,j3,j4,j5⟩:=zpH hb2';have H1:=zhd hb1;have H2:=zhd hb2;have H2':=zhd hb2';have HES:=zhd hes;have HSS:=zhd hss;have HEE:=zhd hE;have H1Z:=zhd h1z;clear hb1 hb2 hb2' hes hss hE hE2 h1z;unfold zdj at i0 i1 i2 i3 i4 i5 j0 j1 j2 j3 j4 j5;go_wp2_with fail;have HB1'':=zhd (zeQ (zhb H1.out (.int .i64 t.s.idx) (.int .i64 t.s.term) (.int .i64 t.s.sum) (.int .i64 t.s.lvl) (.bool t.s.fin) (.slice Al t.log.length cl) (.int .i64 t.term) (.int .i64 t.vote)) (by omega:w.heap.size+1≠w.heap.size+1+1) (.int .i64 m.next) (.int .i64 m.term) (.int .i64 m.vote) (.int .i64 m.sq) (.int .i64 m.sf) (.slice As m.segs.length cs));have HB2'':=zhd (zde H2'.out (.int .i64 m.next) (.int .i64 m.term) (.int .i64 m.vote) (.int .i64 m.sq) (.int .i64 m.sf) (.slice As m.segs.length cs))
 refine bodyPost_ret (ztM _ _ (w.heap.size+1) (w.heap.size+1+1) _ _ _ rfl rfl rfl HB1''.out HB2''.out rfl rfl) rfl ?_
 have ho1:=zc6 H2'.out (by decide) (zfW H1.out (by decide) HES.out (.int .i64 t.s.idx) (.int .i64 t.s.term) (.int .i64 t.s.sum) (.int .i64 t.s.lvl) (.bool t.s.fin) (.slice Al t.log.length cl) (.int .i64 t.term) (.int .i64 t.vote)) (.int .i64 m.next) (.int .i64 m.term) (.int .i64 m.vote) (.int .i64 m.sq) (.int .i64 m.sf) (.slice As m.segs.length cs);have ho2:=zc6 H2'.out (by decide) (zfW H1.out (by decide) HSS.out (.int .i64 t.s.idx) (.int .i64 t.s.term) (.int .i64 t.s.sum) (.int .i64 t.s.lvl) (.bool t.s.fin) (.slice Al t.log.length cl) (.int .i64 t.term) (.int .i64 t.vote)) (.int .i64 m.next) (.int .i64 m.term) (.int .i64 m.vote) (.int .i64 m.sq) (.int .i64 m.sf) (.slice As m.segs.length cs);have ho3:=zeb (zho HEE.out (by omega:w.heap.size≤w.heap.size+1) (.int .i64 t.s.idx) (.int .i64 t.s.term) (.int .i64 t.s.sum) (.int .i64 t.s.lvl) (.bool t.s.fin) (.slice Al t.log.length cl) (.int .i64 t.term) (.int .i64 t.vote)) (by omega:w.heap.size≤w.heap.size+1+1) (.int .i64 m.next) (.int .i64 m.term) (.int .i64 m.vote) (.int .i64 m.sq) (.int .i64 m.sf) (.slice As m.segs.length cs)
 exact ⟨.slice Al t.log.length cl,.slice As m.segs.length cs,rfl,zaj ho1 H1Z.out,zaj ho2 H1Z.out,ho3⟩
theorem zlz (v:Value) (d:Dk) (n:Nat) (w:World) (hS:StW w) (hD:DkV w v d) (hn:n≤100000) (hs:Sz n d):Calls Tryz.prog 25 #[v] w (zpC w (zaI d.now)):=(zsZ v d n w hS hD hn hs).mono fun _ _ h=>h.tell
end Go.Proofs.YtgonhdeochgkoaaGreatDoor
