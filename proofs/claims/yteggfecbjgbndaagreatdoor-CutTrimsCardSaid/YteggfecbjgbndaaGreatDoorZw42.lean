/- Merged -/
import Derived.Test.YteggfecbjgbndaaGreatDoorZw41
set_option linter.all false
set_option maxHeartbeats 8000000
set_option maxRecDepth 100000
open Go.Value renaming int→C,slice→E,bool→G,pointer→J,agg→M
open Go.IntKind renaming i64→D
open Go.Obj renaming cells→F
open Go.Mv renaming zhd→H
open Go.Proofs.Tryz renaming prog→I
open Option renaming some→K,none→L
open Go.Mv.Blk renaming new→P0
open Go.Instr renaming makeFunc→P1
namespace Go.Proofs.YteggfecbjgbndaaGreatDoor
open Go.RowKit Go.Mv Go.Shelf
theorem mcCd8a0 {P:Prop} (h:P:=by
 have hl:=hb.load (P:=I) zc3 rfl (by rw[hs];kernel_rfl)
 have Hm:tmps[6]?.getD undef=J (K ⟨b,0,L⟩):=by simpa using h4
 have Hn:tmps[7]?.getD undef=u:=by simpa using h5
 simp[results,Tryz.results69,Hm,Hn,asAddr,hl]):P:=h
theorem zst (tmps:Array Value) (W:World) (b:Nat) (cs:Array Value) (u:Value) (h4:tmps.getD 6 undef=J (K ⟨b,0,L⟩)) (h5:tmps.getD 7 undef=u) (hb:Blk W b 25 cs) (hs:cs.size=5):(results Tryz.f67 tmps).run I W=.ok (.tuple #[.agg cs,u]) W:=by
 have hl:=hb.load (P:=I) zc3 rfl (by rw[hs];kernel_rfl)
 have Hm:tmps[6]?.getD undef=J (K ⟨b,0,L⟩):=by simpa using h4
 have Hn:tmps[7]?.getD undef=u:=by simpa using h5
 simp[results,Tryz.results67,Hm,Hn,asAddr,hl]
theorem zr1 (v:Value) (d:Dk) (w:World) (hS:StW w) (hD:DkV w v d) (hs:Sz 1000 d) (Hf:KnW w) (hd:zby d.now=⟨0,tW 0 0,m15⟩∧RdH d.now) (hq:d.q=[]) (hf:∀ f∈d.fs,2≤f.2.length) (r:Dk×Int) (hr:r=(d,0)) :
  Calls I 67 #[v,C D 1,C D 1] w (zgb w r):=by
 have Ht:∀ (fn:Fn) (first cap:Array Value) (w:World),(P1 fn first cap).run I w=.ok (.func fn first cap) w:=fun _ _ _ _=>rfl
 obtain ⟨vf,vq,rfl,H6,H7⟩:=hD;obtain ⟨A,c,rfl,_,_⟩:=Fs.open_ H6;obtain ⟨B,e2,rfl,_,_⟩:=Qs.open_ H7;obtain ⟨W0,H4⟩:∃ W0,((((w.alloc (F #[E A d.fs.length c,E B d.q.length e2,C D d.quota,C D d.fuse,G d.dead] 25)).alloc (F #[C D 1] 3)).alloc (F #[C D 1] 3)).alloc (F #[E none 0 0,E none 0 0,C D 0,C D 0,G false] 25))=W0:=⟨_,rfl⟩
 have H5:Ext w W0:=by rw[←H4];exact xA (xA (xA (xA (xR _) _) _) _) _
 have h0:Blk W0 w.heap.size 25 #[E A d.fs.length c,E B d.q.length e2,C D d.quota,C D d.fuse,G d.dead]:=by rw[←H4];exact (((P0 w _ _).alloc (F #[C D 1] 3)).alloc (F #[C D 1] 3)).alloc (F #[E none 0 0,E none 0 0,C D 0,C D 0,G false] 25)
 have h1:Blk W0 (w.heap.size+1) 3 #[C D 1]:=by
  rw[←H4]
  have:=((P0 (w.alloc (F #[E A d.fs.length c,E B d.q.length e2,C D d.quota,C D d.fuse,G d.dead] 25)) 3 #[C D 1]).alloc (F #[C D 1] 3)).alloc (F #[E none 0 0,E none 0 0,C D 0,C D 0,G false] 25)
  rwa [xS] at this
 have h2:Blk W0 (w.heap.size+1+1) 3 #[C D 1]:=by
  rw[←H4]
  have:=(P0 ((w.alloc (F #[E A d.fs.length c,E B d.q.length e2,C D d.quota,C D d.fuse,G d.dead] 25)).alloc (F #[C D 1] 3)) 3 #[C D 1]).alloc (F #[E none 0 0,E none 0 0,C D 0,C D 0,G false] 25)
  rwa [xS,xS] at this
 have h3:Blk W0 (w.heap.size+1+1+1) 25 #[E none 0 0,E none 0 0,C D 0,C D 0,G false]:=by
  rw[←H4]
  have:=P0 (((w.alloc (F #[E A d.fs.length c,E B d.q.length e2,C D d.quota,C D d.fuse,G d.dead] 25)).alloc (F #[C D 1] 3)).alloc (F #[C D 1] 3)) 25 #[E none 0 0,E none 0 0,C D 0,C D 0,G false]
  rwa [xS,xS,xS] at this
 have Hc:DkV W0 (M #[E A d.fs.length c,E B d.q.length e2,C D d.quota,C D d.fuse,G d.dead]) d:=⟨_,_,rfl,H6.ext H5,H7.ext H5⟩
 obtain ⟨q0,q1,q2,q3,q4⟩:=zaa h0;have Hd:=H H5;have He:=H (hS.ext H5);have Hg:=H Hc;have Hl:=H hs;have H0:=H h0;have H1:=H h1;have H2:=H h2;have H3:=H h3;have p0:=h2.cell 0 rfl;have Hb:=H Hf;have Hh:=H hd;have Hj:=H hq;have Hi:=H hf;have Hk:=H hr;clear H5 hS Hc hs H6 H7 h0 h1 h2 h3 Hf hd hq hf hr
 go_enter Tryz.func67,Tryz.ntmps67
 go_wp2_with fail
 refine (zi3 124 (enters_of Tryz.func124 (by kernel_rfl) rfl) #[J (K ⟨w.heap.size+1,0,L⟩),J (K ⟨w.heap.size+1+1,0,L⟩)] _ d _ He.out (Hb.out.ext Hd.out) Hg.out Hl.out Hh.out Hj.out Hi.out 1 (.inl rfl) true m15 0 0 0 [] rfl r (.inl ⟨rfl,Hk.out⟩) (fun W b D0 D1 D2 D3 D4 A c A' c' hE _ hc Ho hb=>zqI D0 D1 D2 D3 D4 A c hc A' c' Ho b _ _ W hb (H1.out.ext hE) (H2.out.ext hE))).mono ?_
 rintro e w1 ⟨u,rfl,⟨x,y,rfl,H9,Ha⟩,H8⟩;obtain ⟨A1,c1,rfl,_,_⟩:=Fs.open_ H9;obtain ⟨B1,e1,rfl,_,_⟩:=Qs.open_ Ha;have g2:=H3.out.ext H8;obtain ⟨f0,f1,f2,f3,f4⟩:=zam g2;obtain ⟨r0,r1,r2,r3,r4⟩:=zaa g2;have G2:=H g2
 have GD:=H (show DkV w1 (M #[E A1 r.1.fs.length c1,E B1 r.1.q.length e1,C D r.1.quota,C D r.1.fuse,G r.1.dead]) r.1 from ⟨_,_,rfl,H9,Ha⟩)
 have GE:=H (xT Hd.out H8);clear H4 g2 H9 Ha H8 q0 q1 q2 q3 q4 p0;go_wp2_with fail
 refine bodyPost_ret (zst _ _ _ _ _ rfl rfl (zal G2.out _ _ _ _ _) rfl) rfl ?_
 exact ⟨_,rfl,zcq G2.out GD.out _ _ _ _ _,zae GE.out (by omega) _ _ _ _ _⟩
theorem zqJ (tmps:Array Value) (W:World) (b:Nat) (cs:Array Value) (u:Value) (h4:tmps.getD 6 undef=J (K ⟨b,0,L⟩)) (h5:tmps.getD 7 undef=u) (hb:Blk W b 25 cs) (hs:cs.size=5):(results Tryz.f68 tmps).run I W=.ok (.tuple #[.agg cs,u]) W:=by
 have hl:=hb.load (P:=I) zc3 rfl (by rw[hs];kernel_rfl)
 have Hm:tmps[6]?.getD undef=J (K ⟨b,0,L⟩):=by simpa using h4
 have Hn:tmps[7]?.getD undef=u:=by simpa using h5
 simp[results,Tryz.results68,Hm,Hn,asAddr,hl]
theorem zql (v:Value) (d:Dk) (w:World) (hS:StW w) (hD:DkV w v d) (hs:Sz 1000 d) (Hf:KnW w) (hd:zby d.now=⟨0,tW 0 0,m15⟩∧RdH d.now) (hq:d.q=[]) (hf:∀ f∈d.fs,2≤f.2.length) (r:Dk×Int) (hr:r=zdk d ⟨1,3,2,0,0,[]⟩) (hp:∀ b,zbH ⟨1,3,2,0,0,[]⟩=K b→b.length≤100000) :
  Calls I 68 #[v,C D 3,C D 2] w (zgb w r):=by
 have Ht:∀ (fn:Fn) (first cap:Array Value) (w:World),(P1 fn first cap).run I w=.ok (.func fn first cap) w:=fun _ _ _ _=>rfl
 obtain ⟨vf,vq,rfl,H6,H7⟩:=hD;obtain ⟨A,c,rfl,_,_⟩:=Fs.open_ H6;obtain ⟨B,e2,rfl,_,_⟩:=Qs.open_ H7;obtain ⟨W0,H4⟩:∃ W0,((((w.alloc (F #[E A d.fs.length c,E B d.q.length e2,C D d.quota,C D d.fuse,G d.dead] 25)).alloc (F #[C D 3] 3)).alloc (F #[C D 2] 3)).alloc (F #[E none 0 0,E none 0 0,C D 0,C D 0,G false] 25))=W0:=⟨_,rfl⟩
 have H5:Ext w W0:=by rw[←H4];exact xA (xA (xA (xA (xR _) _) _) _) _
 have h0:Blk W0 w.heap.size 25 #[E A d.fs.length c,E B d.q.length e2,C D d.quota,C D d.fuse,G d.dead]:=by rw[←H4];exact (((P0 w _ _).alloc (F #[C D 3] 3)).alloc (F #[C D 2] 3)).alloc (F #[E none 0 0,E none 0 0,C D 0,C D 0,G false] 25)
 have h1:Blk W0 (w.heap.size+1) 3 #[C D 3]:=by
  rw[←H4]
  have:=((P0 (w.alloc (F #[E A d.fs.length c,E B d.q.length e2,C D d.quota,C D d.fuse,G d.dead] 25)) 3 #[C D 3]).alloc (F #[C D 2] 3)).alloc (F #[E none 0 0,E none 0 0,C D 0,C D 0,G false] 25)
  rwa [xS] at this
 have h2:Blk W0 (w.heap.size+1+1) 3 #[C D 2]:=by
  rw[←H4]
  have:=(P0 ((w.alloc (F #[E A d.fs.length c,E B d.q.length e2,C D d.quota,C D d.fuse,G d.dead] 25)).alloc (F #[C D 3] 3)) 3 #[C D 2]).alloc (F #[E none 0 0,E none 0 0,C D 0,C D 0,G false] 25)
  rwa [xS,xS] at this
 have h3:Blk W0 (w.heap.size+1+1+1) 25 #[E none 0 0,E none 0 0,C D 0,C D 0,G false]:=by
  rw[←H4]
  have:=P0 (((w.alloc (F #[E A d.fs.length c,E B d.q.length e2,C D d.quota,C D d.fuse,G d.dead] 25)).alloc (F #[C D 3] 3)).alloc (F #[C D 2] 3)) 25 #[E none 0 0,E none 0 0,C D 0,C D 0,G false]
  rwa [xS,xS,xS] at this
 have Hc:DkV W0 (M #[E A d.fs.length c,E B d.q.length e2,C D d.quota,C D d.fuse,G d.dead]) d:=⟨_,_,rfl,H6.ext H5,H7.ext H5⟩
 obtain ⟨q0,q1,q2,q3,q4⟩:=zaa h0;have Hd:=H H5;have He:=H (hS.ext H5);have Hg:=H Hc;have Hl:=H hs;have H0:=H h0;have H1:=H h1;have H2:=H h2;have H3:=H h3;have Hb:=H Hf;have Hh:=H hd;have Hj:=H hq;have Hi:=H hf;have Hk:=H hr;have Hr:=H hp;clear H5 hS Hc hs H6 H7 h0 h1 h2 h3 Hf hd hq hf hr hp
 go_enter Tryz.func68,Tryz.ntmps68
 go_wp2_with fail
 refine (zi3 129 (enters_of Tryz.func129 (by kernel_rfl) rfl) #[J (K ⟨w.heap.size+1,0,L⟩),J (K ⟨w.heap.size+1+1,0,L⟩)] _ d _ He.out (Hb.out.ext Hd.out) Hg.out Hl.out Hh.out Hj.out Hi.out 1 (.inl rfl) false ⟨1,3,2,0,0,[]⟩ 0 0 0 [] rfl r (.inr (.inl ⟨rfl,rfl,by decide,Hk.out,Hr.out⟩)) (fun W b D0 D1 D2 D3 D4 A c A' c' hE Hx hc Ho hb=>zo6 D0 D1 D2 D3 D4 A c hc A' c' Ho b _ _ W hb (H1.out.ext hE) (H2.out.ext hE) (by have:=H1.out.lt;omega) (by have:=H2.out.lt;omega))).mono ?_
 rintro e w1 ⟨u,rfl,⟨x,y,rfl,H9,Ha⟩,H8⟩;obtain ⟨A1,c1,rfl,_,_⟩:=Fs.open_ H9;obtain ⟨B1,e1,rfl,_,_⟩:=Qs.open_ Ha;have g2:=H3.out.ext H8;obtain ⟨f0,f1,f2,f3,f4⟩:=zam g2;obtain ⟨r0,r1,r2,r3,r4⟩:=zaa g2;have G2:=H g2
 have GD:=H (show DkV w1 (M #[E A1 r.1.fs.length c1,E B1 r.1.q.length e1,C D r.1.quota,C D r.1.fuse,G r.1.dead]) r.1 from ⟨_,_,rfl,H9,Ha⟩)
 have GE:=H (xT Hd.out H8);clear H4 g2 H9 Ha H8 q0 q1 q2 q3 q4;go_wp2_with fail
 refine bodyPost_ret (zqJ _ _ _ _ _ rfl rfl (zal G2.out _ _ _ _ _) rfl) rfl ?_
 exact ⟨_,rfl,zcq G2.out GD.out _ _ _ _ _,zae GE.out (by omega) _ _ _ _ _⟩
theorem zqM (tmps:Array Value) (W:World) (b:Nat) (cs:Array Value) (u:Value) (h4:tmps.getD 6 undef=J (K ⟨b,0,L⟩)) (h5:tmps.getD 7 undef=u) (hb:Blk W b 25 cs) (hs:cs.size=5):(results Tryz.f69 tmps).run I W=.ok (.tuple #[.agg cs,u]) W:=by
 exact mcCd8a0
theorem zqm (v:Value) (d:Dk) (w:World) (hS:StW w) (hD:DkV w v d) (hs:Sz 1000 d) (Hf:KnW w) (hd:zby d.now=⟨0,tW 0 0,m15⟩∧RdH d.now) (hq:d.q=[]) (hf:∀ f∈d.fs,2≤f.2.length) (r:Dk×Int) (hr:r=zdk (zbG d (zaw 4 1 2) (zbb sW)).1 ⟨2,0,0,1,2,[]⟩) (hp:∀ b,zbH ⟨2,0,0,1,2,[]⟩=K b→b.length≤100000) (Hv:(zbG d (zaw 4 1 2) (zbb sW)).2=0) (Hw:Sz 3000 (zbG d (zaw 4 1 2) (zbb sW)).1) :
  Calls I 69 #[v,M #[C D 0,C D 0,C D 0,C D 1,G false],C D 2] w (zgb w r):=by
 have Ht:∀ (fn:Fn) (first cap:Array Value) (w:World),(P1 fn first cap).run I w=.ok (.func fn first cap) w:=fun _ _ _ _=>rfl
 obtain ⟨vf,vq,rfl,H6,H7⟩:=hD;obtain ⟨A,c,rfl,_,_⟩:=Fs.open_ H6;obtain ⟨B,e2,rfl,_,_⟩:=Qs.open_ H7;obtain ⟨W0,H4⟩:∃ W0,((((w.alloc (F #[E A d.fs.length c,E B d.q.length e2,C D d.quota,C D d.fuse,G d.dead] 25)).alloc (F #[C D 0,C D 0,C D 0,C D 1,G false] 41)).alloc (F #[C D 2] 3)).alloc (F #[E none 0 0,E none 0 0,C D 0,C D 0,G false] 25))=W0:=⟨_,rfl⟩
 have H5:Ext w W0:=by rw[←H4];exact xA (xA (xA (xA (xR _) _) _) _) _
 have h0:Blk W0 w.heap.size 25 #[E A d.fs.length c,E B d.q.length e2,C D d.quota,C D d.fuse,G d.dead]:=by rw[←H4];exact (((P0 w _ _).alloc (F #[C D 0,C D 0,C D 0,C D 1,G false] 41)).alloc (F #[C D 2] 3)).alloc (F #[E none 0 0,E none 0 0,C D 0,C D 0,G false] 25)
 have h1:Blk W0 (w.heap.size+1) 41 #[C D 0,C D 0,C D 0,C D 1,G false]:=by
  rw[←H4]
  have:=((P0 (w.alloc (F #[E A d.fs.length c,E B d.q.length e2,C D d.quota,C D d.fuse,G d.dead] 25)) 41 #[C D 0,C D 0,C D 0,C D 1,G false]).alloc (F #[C D 2] 3)).alloc (F #[E none 0 0,E none 0 0,C D 0,C D 0,G false] 25)
  rwa [xS] at this
 have h2:Blk W0 (w.heap.size+1+1) 3 #[C D 2]:=by
  rw[←H4]
  have:=(P0 ((w.alloc (F #[E A d.fs.length c,E B d.q.length e2,C D d.quota,C D d.fuse,G d.dead] 25)).alloc (F #[C D 0,C D 0,C D 0,C D 1,G false] 41)) 3 #[C D 2]).alloc (F #[E none 0 0,E none 0 0,C D 0,C D 0,G false] 25)
  rwa [xS,xS] at this
 have h3:Blk W0 (w.heap.size+1+1+1) 25 #[E none 0 0,E none 0 0,C D 0,C D 0,G false]:=by
  rw[←H4]
  have:=P0 (((w.alloc (F #[E A d.fs.length c,E B d.q.length e2,C D d.quota,C D d.fuse,G d.dead] 25)).alloc (F #[C D 0,C D 0,C D 0,C D 1,G false] 41)).alloc (F #[C D 2] 3)) 25 #[E none 0 0,E none 0 0,C D 0,C D 0,G false]
  rwa [xS,xS,xS] at this
 have Hc:DkV W0 (M #[E A d.fs.length c,E B d.q.length e2,C D d.quota,C D d.fuse,G d.dead]) d:=⟨_,_,rfl,H6.ext H5,H7.ext H5⟩
 obtain ⟨q0,q1,q2,q3,q4⟩:=zaa h0;have Hd:=H H5;have He:=H (hS.ext H5);have Hg:=H Hc;have Hl:=H hs;have H0:=H h0;have H1:=H h1;have H2:=H h2;have H3:=H h3;have p0:=h2.cell 0 rfl;have Hb:=H Hf;have Hh:=H hd;have Hj:=H hq;have Hi:=H hf;have Hk:=H hr;have Hr:=H hp;have Hq:=H Hv;have Hs:=H Hw;clear H5 hS Hc hs H6 H7 h0 h1 h2 h3 Hf hd hq hf hr hp Hv Hw
 go_enter Tryz.func69,Tryz.ntmps69
 go_wp2_with fail
 refine (zi3 131 (enters_of Tryz.func131 (by kernel_rfl) rfl) #[J (K ⟨w.heap.size+1,0,L⟩),J (K ⟨w.heap.size+1+1,0,L⟩)] _ d _ He.out (Hb.out.ext Hd.out) Hg.out Hl.out Hh.out Hj.out Hi.out 2 (.inr rfl) false ⟨2,0,0,1,2,[]⟩ 4 1 2 (zbb sW) rfl r (.inr (.inr ⟨rfl,rfl,by decide,by rw[zuQ];decide,Hq.out,Hs.out,Hk.out,Hr.out⟩)) (fun W b D0 D1 D2 D3 D4 A c A' c' hE _ hc Ho hb=>zo7 D0 D1 D2 D3 D4 A c hc A' c' Ho b _ _ W (He.out.ext hE) hb (H1.out.ext hE) (H2.out.ext hE))).mono ?_
 rintro e w1 ⟨u,rfl,⟨x,y,rfl,H9,Ha⟩,H8⟩;obtain ⟨A1,c1,rfl,_,_⟩:=Fs.open_ H9;obtain ⟨B1,e1,rfl,_,_⟩:=Qs.open_ Ha;have g2:=H3.out.ext H8;obtain ⟨f0,f1,f2,f3,f4⟩:=zam g2;obtain ⟨r0,r1,r2,r3,r4⟩:=zaa g2;have G2:=H g2
 have GD:=H (show DkV w1 (M #[E A1 r.1.fs.length c1,E B1 r.1.q.length e1,C D r.1.quota,C D r.1.fuse,G r.1.dead]) r.1 from ⟨_,_,rfl,H9,Ha⟩)
 have GE:=H (xT Hd.out H8);clear H4 g2 H9 Ha H8 q0 q1 q2 q3 q4 p0;go_wp2_with fail
 refine bodyPost_ret (zqM _ _ _ _ _ rfl rfl (zal G2.out _ _ _ _ _) rfl) rfl ?_
 exact ⟨_,rfl,zcq G2.out GD.out _ _ _ _ _,zae GE.out (by omega) _ _ _ _ _⟩
theorem zpc (tmps:Array Value) (W:World) (b:Nat) (cs:Array Value) (u:Value) (h4:tmps.getD 6 undef=J (K ⟨b,0,L⟩)) (h5:tmps.getD 7 undef=u) (hb:Blk W b 25 cs) (hs:cs.size=5):(results Tryz.f69 tmps).run I W=.ok (.tuple #[.agg cs,u]) W:=by
 exact mcCd8a0
theorem zoD (v:Value) (d:Dk) (w:World) (hS:StW w) (hD:DkV w v d) (hs:Sz 1000 d) (e0:Int) (Hu:e0≠0) (hd:zby d.now=zcC e0∧RdH d.now) (hq:d.q=[]) (hf:∀ f∈d.fs,2≤f.2.length) (r:Dk×Int) (hr:r=(d,e0)) :
  Calls I 69 #[v,M #[C D 0,C D 0,C D 0,C D 1,G false],C D 1] w (zgb w r):=by
 have Ht:∀ (fn:Fn) (first cap:Array Value) (w:World),(P1 fn first cap).run I w=.ok (.func fn first cap) w:=fun _ _ _ _=>rfl
 obtain ⟨vf,vq,rfl,H6,H7⟩:=hD;obtain ⟨A,c,rfl,_,_⟩:=Fs.open_ H6;obtain ⟨B,e2,rfl,_,_⟩:=Qs.open_ H7;obtain ⟨W0,H4⟩:∃ W0,((((w.alloc (F #[E A d.fs.length c,E B d.q.length e2,C D d.quota,C D d.fuse,G d.dead] 25)).alloc (F #[C D 0,C D 0,C D 0,C D 1,G false] 41)).alloc (F #[C D 1] 3)).alloc (F #[E none 0 0,E none 0 0,C D 0,C D 0,G false] 25))=W0:=⟨_,rfl⟩
 have H5:Ext w W0:=by rw[←H4];exact xA (xA (xA (xA (xR _) _) _) _) _
 have h0:Blk W0 w.heap.size 25 #[E A d.fs.length c,E B d.q.length e2,C D d.quota,C D d.fuse,G d.dead]:=by rw[←H4];exact (((P0 w _ _).alloc (F #[C D 0,C D 0,C D 0,C D 1,G false] 41)).alloc (F #[C D 1] 3)).alloc (F #[E none 0 0,E none 0 0,C D 0,C D 0,G false] 25)
 have h1:Blk W0 (w.heap.size+1) 41 #[C D 0,C D 0,C D 0,C D 1,G false]:=by
  rw[←H4]
  have:=((P0 (w.alloc (F #[E A d.fs.length c,E B d.q.length e2,C D d.quota,C D d.fuse,G d.dead] 25)) 41 #[C D 0,C D 0,C D 0,C D 1,G false]).alloc (F #[C D 1] 3)).alloc (F #[E none 0 0,E none 0 0,C D 0,C D 0,G false] 25)
  rwa [xS] at this
 have h2:Blk W0 (w.heap.size+1+1) 3 #[C D 1]:=by
  rw[←H4]
  have:=(P0 ((w.alloc (F #[E A d.fs.length c,E B d.q.length e2,C D d.quota,C D d.fuse,G d.dead] 25)).alloc (F #[C D 0,C D 0,C D 0,C D 1,G false] 41)) 3 #[C D 1]).alloc (F #[E none 0 0,E none 0 0,C D 0,C D 0,G false] 25)
  rwa [xS,xS] at this
 have h3:Blk W0 (w.heap.size+1+1+1) 25 #[E none 0 0,E none 0 0,C D 0,C D 0,G false]:=by
  rw[←H4]
  have:=P0 (((w.alloc (F #[E A d.fs.length c,E B d.q.length e2,C D d.quota,C D d.fuse,G d.dead] 25)).alloc (F #[C D 0,C D 0,C D 0,C D 1,G false] 41)).alloc (F #[C D 1] 3)) 25 #[E none 0 0,E none 0 0,C D 0,C D 0,G false]
  rwa [xS,xS,xS] at this
 have Hc:DkV W0 (M #[E A d.fs.length c,E B d.q.length e2,C D d.quota,C D d.fuse,G d.dead]) d:=⟨_,_,rfl,H6.ext H5,H7.ext H5⟩
 obtain ⟨q0,q1,q2,q3,q4⟩:=zaa h0;have Hd:=H H5;have He:=H (hS.ext H5);have Hg:=H Hc;have Hl:=H hs;have H0:=H h0;have H1:=H h1;have H2:=H h2;have H3:=H h3;have p0:=h2.cell 0 rfl;have Hp:=H Hu;have Hh:=H hd;have Hj:=H hq;have Hi:=H hf;have Hk:=H hr;clear H5 hS Hc hs H6 H7 h0 h1 h2 h3 Hu hd hq hf hr
 go_enter Tryz.func69,Tryz.ntmps69
 go_wp2_with fail
 refine (zsC 131 #[J (K ⟨w.heap.size+1,0,L⟩),J (K ⟨w.heap.size+1+1,0,L⟩)] _ d _ He.out Hg.out Hl.out e0 Hp.out Hh.out Hj.out Hi.out 1 r Hk.out).mono ?_
 rintro e w1 ⟨u,rfl,⟨x,y,rfl,H9,Ha⟩,H8⟩;obtain ⟨A1,c1,rfl,_,_⟩:=Fs.open_ H9;obtain ⟨B1,e1,rfl,_,_⟩:=Qs.open_ Ha;have g2:=H3.out.ext H8;obtain ⟨f0,f1,f2,f3,f4⟩:=zam g2;obtain ⟨r0,r1,r2,r3,r4⟩:=zaa g2;have G2:=H g2
 have GD:=H (show DkV w1 (M #[E A1 r.1.fs.length c1,E B1 r.1.q.length e1,C D r.1.quota,C D r.1.fuse,G r.1.dead]) r.1 from ⟨_,_,rfl,H9,Ha⟩)
 have GE:=H (xT Hd.out H8);clear H4 g2 H9 Ha H8 q0 q1 q2 q3 q4 p0;go_wp2_with fail
 refine bodyPost_ret (zpc _ _ _ _ _ rfl rfl (zal G2.out _ _ _ _ _) rfl) rfl ?_
 exact ⟨_,rfl,zcq G2.out GD.out _ _ _ _ _,zae GE.out (by omega) _ _ _ _ _⟩
end Go.Proofs.YteggfecbjgbndaaGreatDoor
