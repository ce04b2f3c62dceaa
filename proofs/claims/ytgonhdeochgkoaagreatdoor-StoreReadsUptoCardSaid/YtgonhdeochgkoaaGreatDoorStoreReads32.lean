/- Merged: SLoad Sput Sdrop MKeep -/
import Derived.Test.YtgonhdeochgkoaaGreatDoorStoreReads31
set_option linter.all false
set_option maxHeartbeats 8000000
set_option maxRecDepth 100000
namespace Go.Proofs.YtgonhdeochgkoaaGreatDoor
open Go.RowKit Go.Mv Go.Shelf
theorem zrP (tmps:Array Value) (W:World) (b c:Nat) (cs ds:Array Value) (u:Value) (h2:tmps.getD 2 undef=.pointer (some ⟨b,0,none⟩)) (h3:tmps.getD 3 undef=.pointer (some ⟨c,0,none⟩)) (h4:tmps.getD 4 undef=u) (hb:Blk W b 56 cs) (hc:Blk W c 30 ds) (hs:cs.size=8) (hd:ds.size=6):(results Tryz.f25 tmps).run Tryz.prog W=.ok (.tuple #[.agg cs,.agg ds,u]) W:=by
 have hl:=hb.load (P:=Tryz.prog) zmm rfl (by rw[hs];kernel_rfl)
 have hm:=hc.load (P:=Tryz.prog) zj5 rfl (by rw[hd];kernel_rfl)
 have h2':tmps[2]?.getD undef=.pointer (some ⟨b,0,none⟩):=by simpa using h2
 have h3':tmps[3]?.getD undef=.pointer (some ⟨c,0,none⟩):=by simpa using h3
 have h4':tmps[4]?.getD undef=u:=by simpa using h4
 simp[results,Tryz.results25,h2',h3',h4',asAddr,hl,hm]
theorem zq3 (v:Value) (d:Dk) (n:Nat) (w:World) (hS:StW w) (hD:DkV w v d) (hn:n≤100000) (hs:Sz n d):Calls Tryz.prog 25 #[v] w (TellO w (zaK d.now)):=by
 obtain ⟨R,hR⟩:∃ R,zaK d.now=R:=⟨_,rfl⟩
 rw[hR]
 have HR:=zhd hR
 clear hR
 obtain ⟨vf,vq,rfl,hF,hQ⟩:=hD
 obtain ⟨A,c,rfl,_,_⟩:=Fs.open_ hF
 obtain ⟨xs,hq1,hq2⟩:=hQ
 obtain ⟨B,e,rfl,_,_⟩:=SlR.open_ hq1
 have hQ:Qs w (.slice B d.q.length e) d.q:=⟨xs,hq1,hq2⟩
 clear hq1 hq2
 obtain ⟨z1,hz1⟩:∃ x:Array Value,#[.int .i64 0,.int .i64 0,.int .i64 0,.int .i64 0,.bool false,.slice none 0 0,.int .i64 0,.int .i64 0]=x:=⟨_,rfl⟩
 obtain ⟨z2,hz2⟩:∃ x:Array Value,#[.int .i64 0,.int .i64 0,.int .i64 0,.int .i64 0,.int .i64 0,.slice none 0 0]=x:=⟨_,rfl⟩
 obtain ⟨z0,hz0⟩:∃ x:Array Value,#[.slice A d.fs.length c,.slice B d.q.length e,.int .i64 d.quota,.int .i64 d.fuse,.bool d.dead]=x:=⟨_,rfl⟩
 have hX:Ext w (((w.alloc (.cells z0 25)).alloc (.cells z1 56)).alloc (.cells z2 30)):=Ext.alloc (Ext.alloc (Ext.alloc (Ext.refl _) _) _) _
 have b0:=((Blk.new w 25 z0).alloc (.cells z1 56)).alloc (.cells z2 30)
 have b1:=(Blk.new (w.alloc (.cells z0 25)) 56 z1).alloc (.cells z2 30)
 have b2:=Blk.new ((w.alloc (.cells z0 25)).alloc (.cells z1 56)) 30 z2
 rw[World.size_alloc] at b1
 rw[World.size_alloc,World.size_alloc] at b2
 have hD3:DkV (((w.alloc (.cells z0 25)).alloc (.cells z1 56)).alloc (.cells z2 30)) (.agg z0) d:=by
  subst hz0
  exact ⟨_,_,rfl,hF.ext hX,hQ.ext hX⟩
 have key:=zlk _ d n _ hD3 (by omega) hs
 have hS3:=hS.ext hX
 subst hz0 hz1 hz2
 have hl:d.now.length≤4000000:=by have:=zj4 d;have:=hs.l;omega
 have hb:∀ f∈d.now,f.2.length≤100000:=fun f hf=>by have h1:=zfj hf;have h2:=zqS d;have h3:=hs.t;omega
 obtain ⟨q0,q1,q2,q3,q4⟩:=zad b0
 have Key:=zhd key
 have HX:=zhd hX
 have HS:=zhd hS3
 have HB1:=zhd b1
 have HB2:=zhd b2
 have HL:=zhd hl
 have HBL:=zhd hb
 clear key hX hS3 b0 b1 b2 hl hb hD3 hF hQ hS hs hn
 go_enter Tryz.func25,Tryz.ntmps25
 go_wp2_with fail
 refine Key.out.mono ?_
 rintro e1 w1 ⟨A1,c1,rfl,hF1,hE1⟩
 have key2:=zki _ d.now w1 (HS.out.ext hE1) (OwnF.fs hF1) HL.out HBL.out
 rw[HR.out] at key2
 have Key2:=zhd key2
 have HE1:=zhd (Ext.trans HX.out hE1)
 have HB1':=zhd (HB1.out.ext hE1)
 have HB2':=zhd (HB2.out.ext hE1)
 clear key2 hE1 hF1 q0 q1 q2 q3 q4
 go_wp2_with fail
 refine Key2.out.mono ?_
 obtain ⟨er,t,m⟩:=R
 rintro e2 w2 ⟨vl,vs,rfl,hes,hss,hE2⟩
 dsimp only at hes hss ⊢
 obtain ⟨Al,cl,rfl,_,_⟩:=SlR.open_ (OwnE.es hes)
 obtain ⟨As,cs,rfl,_,_⟩:=Sgs.open_ (OwnS.sgs hss)
 have hb1:=HB1'.out.ext hE2
 have hb2:=HB2'.out.ext hE2
 have h1z:w.heap.size≤w1.heap.size:=HE1.out.size
 have hE:=Ext.trans HE1.out hE2
 have hb2':=zel hb2 (by omega:w.heap.size+1+1≠w.heap.size+1) (.int .i64 t.s.idx) (.int .i64 t.s.term) (.int .i64 t.s.sum) (.int .i64 t.s.lvl) (.bool t.s.fin) (.slice Al t.log.length cl) (.int .i64 t.term) (.int .i64 t.vote)
 obtain ⟨g0,g1,g2,g3,g4,g5,g6,g7⟩:=zbQ hb1
 obtain ⟨f0,f1,f2,f3,f4,f5,f6,f7⟩:=zjh hb1
 obtain ⟨i0,i1,i2,i3,i4,i5⟩:=zao hb2'
 obtain ⟨j0,j1,j2,j3,j4,j5⟩:=zn4 hb2'
 have H1:=zhd hb1
 have H2:=zhd hb2
 have H2':=zhd hb2'
 have HES:=zhd hes
 have HSS:=zhd hss
 have HEE:=zhd hE
 have H1Z:=zhd h1z
 clear hb1 hb2 hb2' hes hss hE hE2 h1z
 unfold zcY at i0 i1 i2 i3 i4 i5 j0 j1 j2 j3 j4 j5
 go_wp2_with fail
 have HB1'':=zhd (zek (zgw H1.out (.int .i64 t.s.idx) (.int .i64 t.s.term) (.int .i64 t.s.sum) (.int .i64 t.s.lvl) (.bool t.s.fin) (.slice Al t.log.length cl) (.int .i64 t.term) (.int .i64 t.vote)) (by omega:w.heap.size+1≠w.heap.size+1+1) (.int .i64 m.next) (.int .i64 m.term) (.int .i64 m.vote) (.int .i64 m.sq) (.int .i64 m.sf) (.slice As m.segs.length cs))
 have HB2'':=zhd (zcU H2'.out (.int .i64 m.next) (.int .i64 m.term) (.int .i64 m.vote) (.int .i64 m.sq) (.int .i64 m.sf) (.slice As m.segs.length cs))
 refine bodyPost_ret (zrP _ _ (w.heap.size+1) (w.heap.size+1+1) _ _ _ rfl rfl rfl HB1''.out HB2''.out rfl rfl) rfl ?_
 have ho1:=zcM H2'.out (by decide) (zfk H1.out (by decide) HES.out (.int .i64 t.s.idx) (.int .i64 t.s.term) (.int .i64 t.s.sum) (.int .i64 t.s.lvl) (.bool t.s.fin) (.slice Al t.log.length cl) (.int .i64 t.term) (.int .i64 t.vote)) (.int .i64 m.next) (.int .i64 m.term) (.int .i64 m.vote) (.int .i64 m.sq) (.int .i64 m.sf) (.slice As m.segs.length cs)
 have ho2:=zcM H2'.out (by decide) (zfk H1.out (by decide) HSS.out (.int .i64 t.s.idx) (.int .i64 t.s.term) (.int .i64 t.s.sum) (.int .i64 t.s.lvl) (.bool t.s.fin) (.slice Al t.log.length cl) (.int .i64 t.term) (.int .i64 t.vote)) (.int .i64 m.next) (.int .i64 m.term) (.int .i64 m.vote) (.int .i64 m.sq) (.int .i64 m.sf) (.slice As m.segs.length cs)
 have ho3:=zdP (zgC HEE.out (by omega:w.heap.size≤w.heap.size+1) (.int .i64 t.s.idx) (.int .i64 t.s.term) (.int .i64 t.s.sum) (.int .i64 t.s.lvl) (.bool t.s.fin) (.slice Al t.log.length cl) (.int .i64 t.term) (.int .i64 t.vote)) (by omega:w.heap.size≤w.heap.size+1+1) (.int .i64 m.next) (.int .i64 m.term) (.int .i64 m.vote) (.int .i64 m.sq) (.int .i64 m.sf) (.slice As m.segs.length cs)
 exact ⟨.slice Al t.log.length cl,.slice As m.segs.length cs,rfl,zah ho1 H1Z.out,zah ho2 H1Z.out,ho3⟩
theorem zpc (v:Value) (d:Dk) (n:Nat) (w:World) (hS:StW w) (hD:DkV w v d) (hn:n≤100000) (hs:Sz n d):Calls Tryz.prog 25 #[v] w (znZ w (zaK d.now)):=(zq3 v d n w hS hD hn hs).mono fun _ _ h=>h.tell
theorem znJ (W:World) (cs:List Value) (t:TypeId) (sz m:Nat) (hs:cs.length=m*sz) (hm:m≤1000) {n:Nat} (hn:W.heap.size=n):SlR (W.alloc (.cells cs.toArray t)) sz (.slice (some ⟨n,0,none⟩) m m) m cs:=by
 subst hn
 refine ⟨hs,_,_,rfl,Nat.le_refl _,by unfold maxLen;omega,fun _=>⟨_,0,rfl,fun j u hu=>?_⟩⟩
 have:=(Blk.new W t cs.toArray).cell (0+j) (by simpa using hu)
 exact this
theorem znG (tmps:Array Value) (W:World) (b:Nat) (cs:Array Value) (e:Value) (h4:tmps.getD 6 undef=.pointer (some ⟨b,0,none⟩)) (h3:tmps.getD 7 undef=e) (hb:Blk W b 25 cs) (hs:cs.size=5):(results Tryz.f27 tmps).run Tryz.prog W=.ok (.tuple #[.agg cs,e]) W:=by
 have h4':tmps[6]?.getD undef=.pointer (some ⟨b,0,none⟩):=by simpa using h4
 have h3':tmps[7]?.getD undef=e:=by simpa using h3
 have hl:=hb.load (P:=Tryz.prog) zhz rfl (by rw[hs];kernel_rfl)
 simp[results,Tryz.results27,h4',h3',asAddr,hl,Sem.run_bind,Sem.run_pure,Result.andThen_ok]
def zdq (d:Dk) (nm:Option (List UInt8)) (b:List UInt8):Dk×Int:=match nm with | none=>(d,2) | some n=>zf0 d n b
theorem zrb (v:Value) (d:Dk) (n:Nat) (k s f:Int) (vb:Value) (b:List UInt8) (w:World) (hS:StW w) (hD:DkV w v d) (hs:Sz n d) (hB:Bs w vb b) (hle:n+2+b.length≤1000000) :
  Calls Tryz.prog 27 #[v,.agg #[.int .u8 k,.int .i64 s,.int .i64 f],vb] w fun e w'=>∃ u,e=.returned (.tuple #[u,.int .i64 (zdq d (zav k s f) b).2])∧ziI w' w.heap.size u (zdq d (zav k s f) b).1∧Ext w w':=by
 obtain ⟨vf,vq,rfl,hF,hQ⟩:=hD
 obtain ⟨A,c,rfl,_,_⟩:=Fs.open_ hF
 obtain ⟨B,e2,rfl,_,_⟩:=Qs.open_ hQ
 obtain ⟨C,c2,rfl,_,_⟩:=SlR.open_ hB
 obtain ⟨W0,hW0⟩:∃ W0,((w.alloc (.cells #[.slice A d.fs.length c,.slice B d.q.length e2,.int .i64 d.quota,.int .i64 d.fuse,.bool d.dead] 25)).alloc (.cells #[.int .u8 k,.int .i64 s,.int .i64 f] 49)).alloc (.cells #[.slice none 0 0,.slice none 0 0,.int .i64 0,.int .i64 0,.bool false] 25)=W0:=⟨_,rfl⟩
 have hE0:Ext w W0:=by rw[←hW0];exact Ext.alloc (Ext.alloc (Ext.alloc (Ext.refl _) _) _) _
 have h0:Blk W0 w.heap.size 25 (zaA A d.fs.length c B d.q.length e2 d.quota d.fuse d.dead):=by rw[←hW0];exact ((Blk.new w _ _).alloc _).alloc _
 have h1:Blk W0 (w.heap.size+1) 49 #[.int .u8 k,.int .i64 s,.int .i64 f]:=by
  rw[←hW0]
  have:=(Blk.new (w.alloc (.cells #[.slice A d.fs.length c,.slice B d.q.length e2,.int .i64 d.quota,.int .i64 d.fuse,.bool d.dead] 25)) 49 #[.int .u8 k,.int .i64 s,.int .i64 f]).alloc (.cells #[.slice none 0 0,.slice none 0 0,.int .i64 0,.int .i64 0,.bool false] 25)
  rwa [World.size_alloc] at this
 have h2:Blk W0 (w.heap.size+1+1) 25 (zaA none 0 0 none 0 0 0 0 false):=by
  rw[←hW0]
  have:=Blk.new ((w.alloc (.cells #[.slice A d.fs.length c,.slice B d.q.length e2,.int .i64 d.quota,.int .i64 d.fuse,.bool d.dead] 25)).alloc (.cells #[.int .u8 k,.int .i64 s,.int .i64 f] 49)) 25 #[.slice none 0 0,.slice none 0 0,.int .i64 0,.int .i64 0,.bool false]
  rwa [World.size_alloc,World.size_alloc] at this
 have HE0:=zhd hE0
 have H0:=zhd h0
 have H2:=zhd h2
 have HB:=zhd (hB.ext hE0)
 have HF:=zhd (hF.ext hE0)
 have HQ:=zhd (hQ.ext hE0)
 have HN:=zhd (zeg k s f W0 (hS.ext hE0))
 obtain ⟨g0,g1,g2,g3,g4⟩:=zad h0
 have i0:=h1.cell 0 rfl
 have i1:=h1.cell 1 rfl
 have i2:=h1.cell 2 rfl
 have HZ:=zhd hs
 have HLE:=zhd hle
 clear h0 h1 h2 hF hQ hB hE0 hs hS hle
 obtain ⟨S,hS⟩:∃ S,zdq d (zav k s f) b=S:=⟨_,rfl⟩
 rw[hS]
 have HS:=zhd hS
 clear hS
 go_enter Tryz.func27,Tryz.ntmps27
 go_wp2_with fail
 refine HN.out.mono ?_
 rintro e w1 ⟨rfl,hE1⟩
 clear i0 i1 i2 g0 g1 g2 g3 g4 HN hW0
 obtain ⟨g0,g1,g2,g3,g4⟩:=zad (H0.out.ext hE1)
 have HE1:=zhd hE1
 clear hE1
 cases hn:zav k s f with
 | none =>
  have HS2:=HS.out
  rw[hn] at HS2
  subst HS2
  simp only[Option.getD_none,Option.isSome_none,Bool.false_eq_true,if_false,sv]
  clear HS hn
  go_wp2_with fail
  clear g0 g1 g2 g3 g4
  refine (zho _ d n w1 (show DkV w1 _ d from ⟨_,_,rfl,HF.out.ext HE1.out,HQ.out.ext HE1.out⟩) (by have:=HLE.out;omega) HZ.out).mono ?_
  rintro e w2 ⟨u,rfl,⟨A3,c3,B3,e3,rfl,of,oq⟩,hE2⟩
  have hb2:=H2.out.ext (Ext.trans HE1.out hE2)
  have hX:=Ext.trans HE0.out (Ext.trans HE1.out hE2)
  have hX1:=Ext.trans HE0.out HE1.out
  obtain ⟨f0,f1,f2,f3,f4⟩:=zbg hb2
  obtain ⟨d0,d1,d2,d3,d4⟩:=zad hb2
  have Q1:=zhd hb2
  have Q2:=zhd of
  have Q3:=zhd oq
  have Q4:=zhd hX
  have Q5:=zhd hX1.size
  clear hb2 of oq hX hX1 hE2
  go_wp2_with fail
  refine bodyPost_ret (znG _ _ _ _ (.int .i64 2) rfl rfl (zaJ Q1.out _ _ _ _ _) rfl) rfl ?_
  exact ⟨_,rfl,⟨_,_,_,_,rfl,OwnF.box1 (OwnX.base Q2.out.f Q5.out) Q1.out,OwnQ.box1 (OwnX.base Q3.out Q5.out) Q1.out⟩,zaE Q4.out (by omega) _ _ _ _ _⟩
 | some nm =>
  have HS2:=HS.out
  rw[hn] at HS2
  simp only[zdq,zf0] at HS2
  simp only[Option.getD_some,Option.isSome_some,if_true,sv]
  have HS:=zhd HS2
  clear HS2 hn
  go_wp2_with fail
  clear g0 g1 g2 g3 g4
  have hX1:Ext w1 (w1.alloc (.cells #[.int .u8 1,sv nm,sv [],.slice none 0 0,.int .u8 2,sv nm,sv [],.slice C b.length c2] 86)):=Ext.alloc (Ext.refl _) _
  have hqs:Qs (w1.alloc (.cells #[.int .u8 1,sv nm,sv [],.slice none 0 0,.int .u8 2,sv nm,sv [],.slice C b.length c2] 86)) (.slice (some ⟨w1.heap.size,0,none⟩) 2 2) [zem nm,zeh nm b] :=
   ⟨[.int .u8 1,sv nm,sv [],.slice none 0 0,.int .u8 2,sv nm,sv [],.slice C b.length c2],znJ w1 _ 86 4 2 rfl (by omega) rfl,
     RowOf.append (xs:=[.int .u8 1,sv nm,sv [],.slice none 0 0]) (zfA (o:=zem nm) (SlR.nil _ 1)) (zfA (o:=zeh nm b) (Bs.ext (HB.out.ext HE1.out) hX1))⟩
  have hC:=zhp _ d n true _ [zem nm,zeh nm b] _ (show DkV (w1.alloc (.cells #[.int .u8 1,sv nm,sv [],.slice none 0 0,.int .u8 2,sv nm,sv [],.slice C b.length c2] 86)) (.agg #[.slice A d.fs.length c,.slice B d.q.length e2,.int .i64 d.quota,.int .i64 d.fuse,.bool d.dead]) d from ⟨_,_,rfl,(HF.out.ext HE1.out).ext hX1,(HQ.out.ext HE1.out).ext hX1⟩) HZ.out hqs (by have:=HLE.out;simp[za8,zem,zeh];omega)
  rw[HS.out] at hC
  refine hC.mono ?_
  rintro e w2 ⟨u,rfl,⟨A3,c3,B3,e3,rfl,of,oq⟩,hE2⟩
  have hY:=Ext.trans HE1.out (Ext.trans hX1 hE2)
  have hb2:=H2.out.ext hY
  have hX:=Ext.trans HE0.out hY
  have hX2:=Ext.trans HE0.out (Ext.trans HE1.out hX1)
  obtain ⟨f0,f1,f2,f3,f4⟩:=zbg hb2
  obtain ⟨d0,d1,d2,d3,d4⟩:=zad hb2
  have Q1:=zhd hb2
  have Q2:=zhd of
  have Q3:=zhd oq
  have Q4:=zhd hX
  have Q5:=zhd hX2.size
  clear hb2 of oq hX hX1 hX2 hE2 hqs hC hY
  go_wp2_with fail
  refine bodyPost_ret (znG _ _ _ _ (.int .i64 S.2) rfl rfl (zaJ Q1.out _ _ _ _ _) rfl) rfl ?_
  exact ⟨_,rfl,⟨_,_,_,_,rfl,OwnF.box1 (OwnX.base Q2.out Q5.out) Q1.out,OwnQ.box1 (OwnX.base Q3.out Q5.out) Q1.out⟩,zaE Q4.out (by omega) _ _ _ _ _⟩
theorem zrx (tmps:Array Value) (W:World) (b:Nat) (cs:Array Value) (e:Value) (h4:tmps.getD 4 undef=.pointer (some ⟨b,0,none⟩)) (h3:tmps.getD 5 undef=e) (hb:Blk W b 25 cs) (hs:cs.size=5):(results Tryz.f29 tmps).run Tryz.prog W=.ok (.tuple #[.agg cs,e]) W:=by
 have h4':tmps[4]?.getD undef=.pointer (some ⟨b,0,none⟩):=by simpa using h4
 have h3':tmps[5]?.getD undef=e:=by simpa using h3
 have hl:=hb.load (P:=Tryz.prog) zhz rfl (by rw[hs];kernel_rfl)
 simp[results,Tryz.results29,h4',h3',asAddr,hl,Sem.run_bind,Sem.run_pure,Result.andThen_ok]
theorem znn (ns:List (List UInt8)):za8 (ns.map zcN)=0:=by
 induction ns with
 | nil=>rfl
 | cons n ns ih=>rw[List.map_cons,zcb,ih];rfl
theorem zr6 (l:List Fil) (ks:List (List UInt8)):(zcJ l ks).length≤l.length:=by
 unfold zcJ
 exact Nat.le_trans (List.length_filter_le _ _) (Nat.le_of_eq (List.length_map _))
theorem zhq (v:Value) (d:Dk) (n:Nat) (vk:Value) (ks:List (Int×Int×Int)) (w:World) (hS:StW w) (hD:DkV w v d) (hs:Sz n d) (hK:SlR w 3 vk ks.length (idCells ks)) (hkl:ks.length≤1000000) (hle:n+n≤1000000) :
  Calls Tryz.prog 29 #[v,vk] w fun e w'=>∃ u,e=.returned (.tuple #[u,.int .i64 (zjr d (zaS ks)).2])∧ziI w' w.heap.size u (zjr d (zaS ks)).1∧Ext w w':=by
 obtain ⟨vf,vq,rfl,hF,hQ⟩:=hD
 obtain ⟨A,c,rfl,_,_⟩:=Fs.open_ hF
 obtain ⟨B,e2,rfl,_,_⟩:=Qs.open_ hQ
 obtain ⟨C,c2,rfl,_,_⟩:=SlR.open_ hK
 obtain ⟨W0,hW0⟩:∃ W0,(w.alloc (.cells #[.slice A d.fs.length c,.slice B d.q.length e2,.int .i64 d.quota,.int .i64 d.fuse,.bool d.dead] 25)).alloc (.cells #[.slice none 0 0,.slice none 0 0,.int .i64 0,.int .i64 0,.bool false] 25)=W0:=⟨_,rfl⟩
 have hE0:Ext w W0:=by rw[←hW0];exact Ext.alloc (Ext.alloc (Ext.refl _) _) _
 have h0:Blk W0 w.heap.size 25 (zaA A d.fs.length c B d.q.length e2 d.quota d.fuse d.dead):=by rw[←hW0];exact (Blk.new w _ _).alloc _
 have h2:Blk W0 (w.heap.size+1) 25 (zaA none 0 0 none 0 0 0 0 false):=by
  rw[←hW0]
  have:=Blk.new (w.alloc (.cells #[.slice A d.fs.length c,.slice B d.q.length e2,.int .i64 d.quota,.int .i64 d.fuse,.bool d.dead] 25)) 25 #[.slice none 0 0,.slice none 0 0,.int .i64 0,.int .i64 0,.bool false]
  rwa [World.size_alloc] at this
 have HE0:=zhd hE0
 have H0:=zhd h0
 have H2:=zhd h2
 have HD:=zhd (show DkV W0 (.agg #[.slice A d.fs.length c,.slice B d.q.length e2,.int .i64 d.quota,.int .i64 d.fuse,.bool d.dead]) d from ⟨_,_,rfl,hF.ext hE0,hQ.ext hE0⟩)
 have HSW:=zhd (hS.ext hE0)
 have HKK:=zhd (SlR.ext hK hE0)
 obtain ⟨g0,g1,g2,g3,g4⟩:=zad h0
 have HZ:=zhd hs
 have HLE:=zhd hle
 have HKL:=zhd hkl
 have hnl:=zj4 d
 have hnl2:=zr6 d.now (zaS ks)
 have hzl:=hs.l
 obtain ⟨T,hT⟩:∃ T,zjr d (zaS ks)=T:=⟨_,rfl⟩
 rw[hT]
 unfold zjr at hT
 have HT:=zhd hT
 have HN0:=zhd (show d.now.length≤1000000 by omega)
 have HNL:=zhd (show (zcJ d.now (zaS ks)).length≤n by omega)
 clear h0 h2 hF hQ hE0 hs hS hK hle hkl hnl hnl2 hzl hT
 obtain ⟨i0,hi,hz0,hz1,hz2⟩:=info_parts zh6
 go_enter Tryz.func29,Tryz.ntmps29
 go_wp2_with fail
 refine (zlk _ d n _ HD.out (by have:=HLE.out;omega) HZ.out).mono ?_
 rintro e w1 ⟨A1,c1,rfl,hOF,hE1⟩
 clear hW0
 have HRS:=zpg _ d.now _ ks w1 (HSW.out.ext hE1) hOF.fs (SlR.ext HKK.out hE1) HN0.out HKL.out
 have HOF:=zhd hOF
 have HE1:=zhd hE1
 have HRS:=zhd HRS
 clear hOF hE1
 go_wp2_with fail
 refine HRS.out.mono ?_
 rintro e w2 ⟨A2,k2,rfl,hON,hE2⟩
 clear g0 g1 g2 g3 g4 HRS HOF
 generalize hN:zcJ d.now (zaS ks)=N at *
 have HX2:=zhd (Ext.trans HE1.out hE2)
 have HON:=zhd hON
 clear hON hE2 HE1
 go_frame
 go_wp2_with fail
 go_loopw [6,14] (fun v6 v14 wr=>∃ k:Nat,k≤N.length∧v14=.int .i64 k∧(∃ A' c',v6=.slice A' k c')∧Hid (OwnQ wr w2.heap.size v6 ((N.take k).map zcN))∧Hid (Ext w2 wr)) (fun _ v14 _=>N.length-(intOf v14).toNat)
 case atStart=>exact ⟨0,Nat.zero_le _,rfl,⟨_,_,rfl⟩,OwnX.nil _ _ _,Ext.refl _⟩
 case round =>
  obtain ⟨k,hk,rfl,⟨A',c',rfl⟩,HO,HXr⟩:=hrel
  have hnl:=HNL.out
  have hle:=HLE.out
  by_cases hlt:k<N.length
  ·obtain ⟨_,b,off,rfl,hc⟩:=SlR.at_ (SlR.ext (SlR.of_own HON.out) HXr.out) (by omega)
   have hc0:=hc k (sv N[k]) (by rw[List.getElem?_map,List.getElem?_eq_getElem hlt];rfl)
   have htk:(N.take (k+1)).map zcN=(N.take k).map zcN++[zcN N[k]]:=by rw[List.take_succ_eq_append_getElem hlt,List.map_append];rfl
   have hlen:((N.take k).map zcN).length=k:=by rw[List.length_map,List.length_take];omega
   have HTK:=zhd htk
   have HLEN:=zhd hlen
   clear hc htk hlen
   generalize N[k]=x at *
   simp only[sv,Nat.mul_one] at hc0
   have hE15:Ext wr (wr.alloc (.cells #[.int .u8 4,.string ⟨x.toArray⟩,.string ⟨#[]⟩,.slice none 0 0] 86)):=Ext.alloc (Ext.refl _) _
   have hws:w2.heap.size≤wr.heap.size:=HXr.out.size
   have HOX:=zhd (OwnX.ext zcx HO.out hE15)
   have haw:∀ g,(Value.slice A' k c').ownBlock=some g→∀ u∈[.int .u8 4,.string ⟨x.toArray⟩,.string ⟨#[]⟩,.slice none 0 0],zbf g u:=by
    intro g _ u hu
    simp only[List.mem_cons,List.not_mem_nil,or_false] at hu
    rcases hu with rfl | rfl | rfl | rfl
    ·exact zei _ _ _
    ·exact zaR _ x
    ·exact zaR _ []
    ·intro b off n c _ h
     cases h
   have HAW:=zhd haw
   have HE15:=zhd hE15
   clear haw hE15
   go_wp2_with (at_builtin;refine zee zcx rfl (.tmp 18) (.tmp 21) 23 rfl 86 i0 _ 64 Tryz.underlying23 hi hz0 hz1 hz2 rfl (by decide) (by decide) w2.heap.size _ ((N.take k).map zcN) rfl HOX.out _ [zcN x] [.int .u8 4,.string ⟨x.toArray⟩,.string ⟨#[]⟩,.slice none 0 0] rfl (zeW wr [.int .u8 4,.string ⟨x.toArray⟩,.string ⟨#[]⟩,.slice none 0 0] 86 4 rfl rfl) (zfA (o:=zcN x) (SlR.nil _ 1)) (by simp) HAW.out (by rw[HLEN.out];simp;omega) (by rw[World.size_alloc];omega) ?_;intro A3 c3 w3 ho3 hG3 hg3;rw[←HTK.out,HLEN.out] at ho3;simp only[HLEN.out,List.length_cons,List.length_nil,Nat.zero_add] at ho3 ⊢;have hX3:=hG3 w2 (Ext.trans HXr.out HE15.out) (Nat.le_refl _))
   exact ⟨⟨k+1,by omega,by go_num,⟨_,_,rfl⟩,ho3,hX3⟩,by simp[intOf];omega⟩
  ·obtain rfl:k=N.length:=by omega
   have hO:=HO.out
   rw[List.take_length] at hO
   have HO:=zhd hO
   clear hO
   have hXw:=Ext.trans HX2.out HXr.out
   obtain ⟨g0,g1,g2,g3,g4⟩:=zad (H0.out.ext hXw)
   have hC:=zhp _ d n false _ (N.map zcN) wr (HD.out.ext hXw) HZ.out HO.out.qs (by rw[List.length_map,znn];omega)
   rw[HT.out] at hC
   have HC:=zhd hC
   have HXW:=zhd hXw
   clear hC hXw
   go_wp2_with fail
   refine HC.out.mono ?_
   rintro e w4 ⟨u,rfl,⟨A5,k5,B5,e5,rfl,of,oq⟩,hE4⟩
   have hX4:=Ext.trans HXW.out hE4
   have hb2:=H2.out.ext hX4
   obtain ⟨f0,f1,f2,f3,f4⟩:=zbg hb2
   obtain ⟨d0,d1,d2,d3,d4⟩:=zad hb2
   have Q1:=zhd hb2
   have Q2:=zhd of
   have Q3:=zhd oq
   have Q4:=zhd (Ext.trans HE0.out hX4)
   have Q5:=zhd (Ext.trans HE0.out HXW.out).size
   clear hb2 of oq hX4 hE4 g0 g1 g2 g3 g4
   go_wp2_with fail
   refine bodyPost_ret (zrx _ _ _ _ (.int .i64 T.2) rfl rfl (zaJ Q1.out _ _ _ _ _) rfl) rfl ?_
   exact ⟨_,rfl,⟨_,_,_,_,rfl,OwnF.box1 (OwnX.base Q2.out Q5.out) Q1.out,OwnQ.box1 (OwnX.base Q3.out Q5.out) Q1.out⟩,zaE Q4.out (by omega) _ _ _ _ _⟩
theorem mcMKeep0 {P:Prop} (h:P:=by
 generalize sg[k]=s at *
 have X1:Ext wr (wr.alloc (.cells #[.int .i64 s.seq,.int .i64 s.fmt,.int .i64 s.first,.int .i64 s.count] 74)):=Ext.alloc (Ext.refl _) _
 have X2:Ext wr ((wr.alloc (.cells #[.int .i64 s.seq,.int .i64 s.fmt,.int .i64 s.first,.int .i64 s.count] 74)).alloc (.cells #[.int .u8 3,.int .i64 s.seq,.int .i64 s.fmt] 49)):=Ext.alloc X1 _
 have hn:=zeT (wr.alloc (.cells #[.int .i64 s.seq,.int .i64 s.fmt,.int .i64 s.first,.int .i64 s.count] 74)) (3,s.seq,s.fmt)
 rw[World.size_alloc] at hn
 have HN:=zhd (SlR.of_own hn)
 have HO2:=zhd (zae HOk.out X2)
 have HX2:=zhd (Ext.trans HXk.out X2)
 have hbx:=Blk.new wr 74 #[.int .i64 s.seq,.int .i64 s.fmt,.int .i64 s.first,.int .i64 s.count]
 obtain ⟨x0,x1,x2,x3⟩:=zat hbx
 clear X1 X2 hn hbx
 go_wp2_with (at_builtin;refine zdO rfl (.tmp 29) (.tmp 35) rfl w.heap.size _ L rfl HO2.out _ (3,s.seq,s.fmt) rfl HN.out (by rw[HLN.out];omega) HX2.out.size ?_;intro A1 c1' w1 ho1 hg1)
 have HX3:=zhd (Ext.grownOwn HX2.out HO2.out hg1)
 have HO3:=zhd ho1
 clear ho1 hg1 c0 c1 c2 c3 x0 x1 x2 x3
 go_wp2_with fail
 go_roundw
 case rel=>exact ⟨k+1,by omega,by go_num,by rw[HTK.out];exact HO3,HX3⟩
 case measure=>simp[intOf];omega):P:=h
theorem zhn (m:Mf) (v:Value) (w:World) (hS:Sgs w v m.segs) (hl:m.segs.length≤1000000) :
  Calls Tryz.prog 50 #[.agg #[.int .i64 m.next,.int .i64 m.term,.int .i64 m.vote,.int .i64 m.sq,.int .i64 m.sf,v]] w fun e w'=>∃ v',e=.returned v'∧zc7 w' w.heap.size v' (zbh m)∧Ext w w':=by
 obtain ⟨A,c,rfl,_,_⟩:=hS.open_
 have HS:=zhd hS
 clear hS
 obtain ⟨nx,tm,vt,sq,sf,sg⟩:=m
 dsimp only at *
 have hb:=Blk.new w 30 #[.int .i64 nx,.int .i64 tm,.int .i64 vt,.int .i64 sq,.int .i64 sf,.slice A sg.length c]
 have hX:Ext w ((w.alloc (.cells #[.int .i64 nx,.int .i64 tm,.int .i64 vt,.int .i64 sq,.int .i64 sf,.slice A sg.length c] 30)).alloc (.cells #[.int .u8 1,.int .i64 0,.int .i64 0] 49)):=Ext.alloc (Ext.alloc (Ext.refl _) _) _
 have hbX:Blk ((w.alloc (.cells #[.int .i64 nx,.int .i64 tm,.int .i64 vt,.int .i64 sq,.int .i64 sf,.slice A sg.length c] 30)).alloc (.cells #[.int .u8 1,.int .i64 0,.int .i64 0] 49)) w.heap.size 30 #[.int .i64 nx,.int .i64 tm,.int .i64 vt,.int .i64 sq,.int .i64 sf,.slice A sg.length c]:=hb.alloc _
 have hoX:zc7 ((w.alloc (.cells #[.int .i64 nx,.int .i64 tm,.int .i64 vt,.int .i64 sq,.int .i64 sf,.slice A sg.length c] 30)).alloc (.cells #[.int .u8 1,.int .i64 0,.int .i64 0] 49)) w.heap.size (.slice (some ⟨w.heap.size+1,0,none⟩) 1 1) [(1,0,0)]:=by
  have:=zeT (w.alloc (.cells #[.int .i64 nx,.int .i64 tm,.int .i64 vt,.int .i64 sq,.int .i64 sf,.slice A sg.length c] 30)) (1,0,0)
  rw[World.size_alloc] at this
  exact zah this (Nat.le_succ _)
 obtain ⟨m0,m1,m2,m3,m4,m5⟩:=zao hbX
 have HX:=zhd hX
 have HB:=zhd hbX
 have HO:=zhd hoX
 obtain ⟨W1,hW1⟩:∃ W1,(w.alloc (.cells #[.int .i64 nx,.int .i64 tm,.int .i64 vt,.int .i64 sq,.int .i64 sf,.slice A sg.length c] 30)).alloc (.cells #[.int .u8 1,.int .i64 0,.int .i64 0] 49)=W1:=⟨_,rfl⟩
 clear hb hX hbX hoX
 by_cases hq:sq=0
 ·subst hq
  have hk0:zbh ⟨nx,tm,vt,0,sf,sg⟩=[(1,0,0)]++sg.map zaN:=by unfold zbh zfM;rw[if_pos rfl]
  rw[hk0]
  clear hk0 hW1
  go_enter Tryz.func50,Tryz.ntmps50
  go_wp2_with fail
  clear m0 m1 m2 m3 m4 m5
  go_loopw [3,25] (fun v3 v25 wr=>∃ k:Nat,k≤sg.length∧v25=.int .i64 k∧Hid (zc7 wr w.heap.size v3 ([(1,0,0)]++(sg.take k).map zaN))∧Hid (Ext w wr)) (fun _ v25 _=>sg.length-(intOf v25).toNat)
  case atStart=>exact ⟨0,Nat.zero_le _,rfl,HO,HX⟩
  case round =>
   obtain ⟨k,hk,rfl,HOk,HXk⟩:=hrel
   obtain ⟨Ao,co,rfl,_,_⟩:=SlR.open_ (SlR.of_own HOk.out)
   by_cases hlt:k<sg.length
   ·have hlen:([(1,0,0)]++(sg.take k).map zaN).length=k+1:=by simp;omega
    obtain ⟨_,bs,of,rfl,hcells⟩:=Sgs.at_ HS.out (by omega)
    obtain ⟨d0,d1,d2,d3⟩:=hcells k hlt
    have c0:=HXk.out.cell d0
    have c1:=HXk.out.cell d1
    have c2:=HXk.out.cell d2
    have c3:=HXk.out.cell d3
    have htk:[(1,0,0)]++(sg.take (k+1)).map zaN=([(1,0,0)]++(sg.take k).map zaN)++[zaN sg[k]]:=by rw[List.take_succ_eq_append_getElem hlt,List.map_append,List.append_assoc];rfl
    have HTK:=zhd htk
    have HLN:=zhd hlen
    clear hcells d0 d1 d2 d3 htk hlen
    generalize [(1,0,0)]++(sg.take k).map zaN=L at *
    exact mcMKeep0
   ·obtain rfl:k=sg.length:=by omega
    have ek:[(1,0,0)]++(sg.take sg.length).map zaN=[(1,0,0)]++sg.map zaN:=by rw[List.take_length]
    have EK:=zhd ek
    clear ek
    go_wp2_with fail
    go_ret
    refine ⟨_,rfl,?_,HXk.out⟩
    show zc7 _ _ _ ([(1,0,0)]++sg.map zaN)
    rw[←EK.out]
    exact HOk.out
 ·have hk0:zbh ⟨nx,tm,vt,sq,sf,sg⟩=[(1,0,0),(4,sq,sf)]++sg.map zaN:=by unfold zbh zfM;rw[if_neg hq]
  rw[hk0]
  have hn:=zeT ((w.alloc (.cells #[.int .i64 nx,.int .i64 tm,.int .i64 vt,.int .i64 sq,.int .i64 sf,.slice A sg.length c] 30)).alloc (.cells #[.int .u8 1,.int .i64 0,.int .i64 0] 49)) (4,sq,sf)
  have X1:Ext ((w.alloc (.cells #[.int .i64 nx,.int .i64 tm,.int .i64 vt,.int .i64 sq,.int .i64 sf,.slice A sg.length c] 30)).alloc (.cells #[.int .u8 1,.int .i64 0,.int .i64 0] 49)) (((w.alloc (.cells #[.int .i64 nx,.int .i64 tm,.int .i64 vt,.int .i64 sq,.int .i64 sf,.slice A sg.length c] 30)).alloc (.cells #[.int .u8 1,.int .i64 0,.int .i64 0] 49)).alloc (.cells #[.int .u8 4,.int .i64 sq,.int .i64 sf] 49)):=Ext.alloc (Ext.refl _) _
  replace HX:=zhd (Ext.trans HX.out X1)
  replace HB:=zhd (HB.out.ext X1)
  replace HO:=zhd (zae HO.out X1)
  rw[World.size_alloc,World.size_alloc] at hn
  have HN:=zhd (SlR.of_own hn)
  have Hq:=zhd hq
  clear hk0 hn X1 hW1
  go_enter Tryz.func50,Tryz.ntmps50
  go_wp2_with (at_builtin;refine zdO rfl (.tmp 12) (.tmp 20) rfl w.heap.size _ [(1,0,0)] rfl HO.out _ (4,sq,sf) rfl HN.out (by decide) HX.out.size ?_;intro A1 c1 w1 ho1 hg1;obtain ⟨q0,q1,q2,q3,q4,q5⟩:=zao (HB.out.kept hg1 (HB.out.not_row (by decide) HO.out)))
  replace HX:=zhd (Ext.grownOwn HX.out HO.out hg1)
  replace HO:=zhd ho1
  clear m0 m1 m2 m3 m4 m5 q0 q1 q2 q3 q4 q5 ho1 hg1 HN HB
  go_loopw [3,25] (fun v3 v25 wr=>∃ k:Nat,k≤sg.length∧v25=.int .i64 k∧Hid (zc7 wr w.heap.size v3 ([(1,0,0),(4,sq,sf)]++(sg.take k).map zaN))∧Hid (Ext w wr)) (fun _ v25 _=>sg.length-(intOf v25).toNat)
  case atStart=>exact ⟨0,Nat.zero_le _,rfl,HO,HX⟩
  case round =>
   obtain ⟨k,hk,rfl,HOk,HXk⟩:=hrel
   obtain ⟨Ao,co,rfl,_,_⟩:=SlR.open_ (SlR.of_own HOk.out)
   by_cases hlt:k<sg.length
   ·have hlen:([(1,0,0),(4,sq,sf)]++(sg.take k).map zaN).length=k+2:=by simp;omega
    obtain ⟨_,bs,of,rfl,hcells⟩:=Sgs.at_ HS.out (by omega)
    obtain ⟨d0,d1,d2,d3⟩:=hcells k hlt
    have c0:=HXk.out.cell d0
    have c1:=HXk.out.cell d1
    have c2:=HXk.out.cell d2
    have c3:=HXk.out.cell d3
    have htk:[(1,0,0),(4,sq,sf)]++(sg.take (k+1)).map zaN=([(1,0,0),(4,sq,sf)]++(sg.take k).map zaN)++[zaN sg[k]]:=by rw[List.take_succ_eq_append_getElem hlt,List.map_append,List.append_assoc];rfl
    have HTK:=zhd htk
    have HLN:=zhd hlen
    clear hcells d0 d1 d2 d3 htk hlen
    generalize [(1,0,0),(4,sq,sf)]++(sg.take k).map zaN=L at *
    exact mcMKeep0
   ·obtain rfl:k=sg.length:=by omega
    have ek:[(1,0,0),(4,sq,sf)]++(sg.take sg.length).map zaN=[(1,0,0),(4,sq,sf)]++sg.map zaN:=by rw[List.take_length]
    have EK:=zhd ek
    clear ek
    go_wp2_with fail
    go_ret
    refine ⟨_,rfl,?_,HXk.out⟩
    show zc7 _ _ _ ([(1,0,0),(4,sq,sf)]++sg.map zaN)
    rw[←EK.out]
    exact HOk.out
end Go.Proofs.YtgonhdeochgkoaaGreatDoor
