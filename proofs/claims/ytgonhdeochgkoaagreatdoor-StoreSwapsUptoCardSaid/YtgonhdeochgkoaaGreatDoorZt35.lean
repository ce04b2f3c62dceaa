/- Merged: Sput Sdrop -/
import Derived.Test.YtgonhdeochgkoaaGreatDoorZt28
import Derived.Test.YtgonhdeochgkoaaGreatDoorZt33
set_option linter.all false
set_option maxHeartbeats 8000000
set_option maxRecDepth 100000
namespace Go.Proofs.YtgonhdeochgkoaaGreatDoor
open Go.RowKit Go.Mv Go.Shelf
theorem zpj (W:World) (cs:List Value) (t:TypeId) (sz m:Nat) (hs:cs.length=m*sz) (hm:m≤1000) {n:Nat} (hn:W.heap.size=n):SlR (W.alloc (.cells cs.toArray t)) sz (.slice (some ⟨n,0,none⟩) m m) m cs:=by
 subst hn
 refine ⟨hs,_,_,rfl,Nat.le_refl _,by unfold maxLen;omega,fun _=>⟨_,0,rfl,fun j u hu=>?_⟩⟩
 have:=(Blk.new W t cs.toArray).cell (0+j) (by simpa using hu)
 exact this
theorem zpg (tmps:Array Value) (W:World) (b:Nat) (cs:Array Value) (e:Value) (h4:tmps.getD 6 undef=.pointer (some ⟨b,0,none⟩)) (h3:tmps.getD 7 undef=e) (hb:Blk W b 25 cs) (hs:cs.size=5):(results Tryz.f27 tmps).run Tryz.prog W=.ok (.tuple #[.agg cs,e]) W:=by
 have h4':tmps[6]?.getD undef=.pointer (some ⟨b,0,none⟩):=by simpa using h4
 have h3':tmps[7]?.getD undef=e:=by simpa using h3
 have hl:=hb.load (P:=Tryz.prog) ziq rfl (by rw[hs];kernel_rfl)
 simp[results,Tryz.results27,h4',h3',asAddr,hl,Sem.run_bind,Sem.run_pure,Result.andThen_ok]
def zbL (d:Dk) (nm:Option (List UInt8)) (b:List UInt8):Dk×Int:=match nm with | none=>(d,2) | some n=>zdL d n b
theorem zmF (v:Value) (d:Dk) (n:Nat) (k s f:Int) (vb:Value) (b:List UInt8) (w:World) (hS:StW w) (hD:DkV w v d) (hs:Sz n d) (hB:Bs w vb b) (hle:n+2+b.length≤1000000) :
  Calls Tryz.prog 27 #[v,.agg #[.int .u8 k,.int .i64 s,.int .i64 f],vb] w fun e w'=>∃ u,e=.returned (.tuple #[u,.int .i64 (zbL d (zak k s f) b).2])∧zjG w' w.heap.size u (zbL d (zak k s f) b).1∧Ext w w':=by
 obtain ⟨vf,vq,rfl,hF,hQ⟩:=hD;obtain ⟨A,c,rfl,_,_⟩:=Fs.open_ hF;obtain ⟨B,e2,rfl,_,_⟩:=Qs.open_ hQ;obtain ⟨C,c2,rfl,_,_⟩:=SlR.open_ hB;obtain ⟨W0,hW0⟩:∃ W0,((w.alloc (.cells #[.slice A d.fs.length c,.slice B d.q.length e2,.int .i64 d.quota,.int .i64 d.fuse,.bool d.dead] 25)).alloc (.cells #[.int .u8 k,.int .i64 s,.int .i64 f] 49)).alloc (.cells #[.slice none 0 0,.slice none 0 0,.int .i64 0,.int .i64 0,.bool false] 25)=W0:=⟨_,rfl⟩
 have hE0:Ext w W0:=by rw[←hW0];exact Ext.alloc (Ext.alloc (Ext.alloc (Ext.refl _) _) _) _
 have h0:Blk W0 w.heap.size 25 (zaE A d.fs.length c B d.q.length e2 d.quota d.fuse d.dead):=by rw[←hW0];exact ((Blk.new w _ _).alloc _).alloc _
 have h1:Blk W0 (w.heap.size+1) 49 #[.int .u8 k,.int .i64 s,.int .i64 f]:=by
  rw[←hW0]
  have:=(Blk.new (w.alloc (.cells #[.slice A d.fs.length c,.slice B d.q.length e2,.int .i64 d.quota,.int .i64 d.fuse,.bool d.dead] 25)) 49 #[.int .u8 k,.int .i64 s,.int .i64 f]).alloc (.cells #[.slice none 0 0,.slice none 0 0,.int .i64 0,.int .i64 0,.bool false] 25)
  rwa [World.size_alloc] at this
 have h2:Blk W0 (w.heap.size+1+1) 25 (zaE none 0 0 none 0 0 0 0 false):=by
  rw[←hW0]
  have:=Blk.new ((w.alloc (.cells #[.slice A d.fs.length c,.slice B d.q.length e2,.int .i64 d.quota,.int .i64 d.fuse,.bool d.dead] 25)).alloc (.cells #[.int .u8 k,.int .i64 s,.int .i64 f] 49)) 25 #[.slice none 0 0,.slice none 0 0,.int .i64 0,.int .i64 0,.bool false]
  rwa [World.size_alloc,World.size_alloc] at this
 have HE0:=zhd hE0;have H0:=zhd h0;have H2:=zhd h2;have HB:=zhd (hB.ext hE0);have HF:=zhd (hF.ext hE0);have HQ:=zhd (hQ.ext hE0);have HN:=zhd (zeM k s f W0 (hS.ext hE0));obtain ⟨g0,g1,g2,g3,g4⟩:=zac h0;have i0:=h1.cell 0 rfl;have i1:=h1.cell 1 rfl;have i2:=h1.cell 2 rfl;have HZ:=zhd hs;have HLE:=zhd hle;clear h0 h1 h2 hF hQ hB hE0 hs hS hle;obtain ⟨S,hS⟩:∃ S,zbL d (zak k s f) b=S:=⟨_,rfl⟩;rw[hS];have HS:=zhd hS;clear hS
 go_enter Tryz.func27,Tryz.ntmps27
 go_wp2_with fail
 refine HN.out.mono ?_
 rintro e w1 ⟨rfl,hE1⟩;clear i0 i1 i2 g0 g1 g2 g3 g4 HN hW0;obtain ⟨g0,g1,g2,g3,g4⟩:=zac (H0.out.ext hE1);have HE1:=zhd hE1;clear hE1
 cases hn:zak k s f with
 | none =>
  have HS2:=HS.out;rw[hn] at HS2;subst HS2;simp only[Option.getD_none,Option.isSome_none,Bool.false_eq_true,if_false,sv];clear HS hn;go_wp2_with fail;clear g0 g1 g2 g3 g4
  refine (zie _ d n w1 (show DkV w1 _ d from ⟨_,_,rfl,HF.out.ext HE1.out,HQ.out.ext HE1.out⟩) (by have:=HLE.out;omega) HZ.out).mono ?_
  rintro e w2 ⟨u,rfl,⟨A3,c3,B3,e3,rfl,of,oq⟩,hE2⟩;have hb2:=H2.out.ext (Ext.trans HE1.out hE2);have hX:=Ext.trans HE0.out (Ext.trans HE1.out hE2);have hX1:=Ext.trans HE0.out HE1.out;obtain ⟨f0,f1,f2,f3,f4⟩:=zby hb2;obtain ⟨d0,d1,d2,d3,d4⟩:=zac hb2;have Q1:=zhd hb2;have Q2:=zhd of;have Q3:=zhd oq;have Q4:=zhd hX;have Q5:=zhd hX1.size;clear hb2 of oq hX hX1 hE2;go_wp2_with fail
  refine bodyPost_ret (zpg _ _ _ _ (.int .i64 2) rfl rfl (zaS Q1.out _ _ _ _ _) rfl) rfl ?_
  exact ⟨_,rfl,⟨_,_,_,_,rfl,OwnF.box1 (OwnX.base Q2.out.f Q5.out) Q1.out,OwnQ.box1 (OwnX.base Q3.out Q5.out) Q1.out⟩,zaL Q4.out (by omega) _ _ _ _ _⟩
 | some nm =>
  have HS2:=HS.out;rw[hn] at HS2;simp only[zbL,zdL] at HS2;simp only[Option.getD_some,Option.isSome_some,if_true,sv];have HS:=zhd HS2;clear HS2 hn;go_wp2_with fail;clear g0 g1 g2 g3 g4
  have hX1:Ext w1 (w1.alloc (.cells #[.int .u8 1,sv nm,sv [],.slice none 0 0,.int .u8 2,sv nm,sv [],.slice C b.length c2] 86)):=Ext.alloc (Ext.refl _) _
  have hqs:Qs (w1.alloc (.cells #[.int .u8 1,sv nm,sv [],.slice none 0 0,.int .u8 2,sv nm,sv [],.slice C b.length c2] 86)) (.slice (some ⟨w1.heap.size,0,none⟩) 2 2) [za3 nm,za6 nm b] :=
   ⟨[.int .u8 1,sv nm,sv [],.slice none 0 0,.int .u8 2,sv nm,sv [],.slice C b.length c2],zpj w1 _ 86 4 2 rfl (by omega) rfl,
     RowOf.append (xs:=[.int .u8 1,sv nm,sv [],.slice none 0 0]) (zf9 (o:=za3 nm) (SlR.nil _ 1)) (zf9 (o:=za6 nm b) (Bs.ext (HB.out.ext HE1.out) hX1))⟩
  have hC:=zif _ d n true _ [za3 nm,za6 nm b] _ (show DkV (w1.alloc (.cells #[.int .u8 1,sv nm,sv [],.slice none 0 0,.int .u8 2,sv nm,sv [],.slice C b.length c2] 86)) (.agg #[.slice A d.fs.length c,.slice B d.q.length e2,.int .i64 d.quota,.int .i64 d.fuse,.bool d.dead]) d from ⟨_,_,rfl,(HF.out.ext HE1.out).ext hX1,(HQ.out.ext HE1.out).ext hX1⟩) HZ.out hqs (by have:=HLE.out;simp[zaT,za3,za6];omega)
  rw[HS.out] at hC
  refine hC.mono ?_
  rintro e w2 ⟨u,rfl,⟨A3,c3,B3,e3,rfl,of,oq⟩,hE2⟩;have hY:=Ext.trans HE1.out (Ext.trans hX1 hE2);have hb2:=H2.out.ext hY;have hX:=Ext.trans HE0.out hY;have hX2:=Ext.trans HE0.out (Ext.trans HE1.out hX1);obtain ⟨f0,f1,f2,f3,f4⟩:=zby hb2;obtain ⟨d0,d1,d2,d3,d4⟩:=zac hb2;have Q1:=zhd hb2;have Q2:=zhd of;have Q3:=zhd oq;have Q4:=zhd hX;have Q5:=zhd hX2.size;clear hb2 of oq hX hX1 hX2 hE2 hqs hC hY;go_wp2_with fail
  refine bodyPost_ret (zpg _ _ _ _ (.int .i64 S.2) rfl rfl (zaS Q1.out _ _ _ _ _) rfl) rfl ?_
  exact ⟨_,rfl,⟨_,_,_,_,rfl,OwnF.box1 (OwnX.base Q2.out Q5.out) Q1.out,OwnQ.box1 (OwnX.base Q3.out Q5.out) Q1.out⟩,zaL Q4.out (by omega) _ _ _ _ _⟩
theorem ztt (tmps:Array Value) (W:World) (b:Nat) (cs:Array Value) (e:Value) (h4:tmps.getD 4 undef=.pointer (some ⟨b,0,none⟩)) (h3:tmps.getD 5 undef=e) (hb:Blk W b 25 cs) (hs:cs.size=5):(results Tryz.f29 tmps).run Tryz.prog W=.ok (.tuple #[.agg cs,e]) W:=by
 have h4':tmps[4]?.getD undef=.pointer (some ⟨b,0,none⟩):=by simpa using h4
 have h3':tmps[5]?.getD undef=e:=by simpa using h3
 have hl:=hb.load (P:=Tryz.prog) ziq rfl (by rw[hs];kernel_rfl)
 simp[results,Tryz.results29,h4',h3',asAddr,hl,Sem.run_bind,Sem.run_pure,Result.andThen_ok]
theorem zgL (ns:List (List UInt8)):zaT (ns.map zbb)=0:=by
 induction ns with
 | nil=>rfl
 | cons n ns ih=>rw[List.map_cons,zb9,ih];rfl
theorem zei (l:List Fil) (ks:List (List UInt8)):(zaH l ks).length≤l.length:=by
 unfold zaH
 exact Nat.le_trans (List.length_filter_le _ _) (Nat.le_of_eq (List.length_map _))
theorem zeo (v:Value) (d:Dk) (n:Nat) (vk:Value) (ks:List (Int×Int×Int)) (w:World) (hS:StW w) (hD:DkV w v d) (hs:Sz n d) (hK:SlR w 3 vk ks.length (idCells ks)) (hkl:ks.length≤1000000) (hle:n+n≤1000000) :
  Calls Tryz.prog 29 #[v,vk] w fun e w'=>∃ u,e=.returned (.tuple #[u,.int .i64 (zb1 d (zaf ks)).2])∧zjG w' w.heap.size u (zb1 d (zaf ks)).1∧Ext w w':=by
 obtain ⟨vf,vq,rfl,hF,hQ⟩:=hD;obtain ⟨A,c,rfl,_,_⟩:=Fs.open_ hF;obtain ⟨B,e2,rfl,_,_⟩:=Qs.open_ hQ;obtain ⟨C,c2,rfl,_,_⟩:=SlR.open_ hK;obtain ⟨W0,hW0⟩:∃ W0,(w.alloc (.cells #[.slice A d.fs.length c,.slice B d.q.length e2,.int .i64 d.quota,.int .i64 d.fuse,.bool d.dead] 25)).alloc (.cells #[.slice none 0 0,.slice none 0 0,.int .i64 0,.int .i64 0,.bool false] 25)=W0:=⟨_,rfl⟩
 have hE0:Ext w W0:=by rw[←hW0];exact Ext.alloc (Ext.alloc (Ext.refl _) _) _
 have h0:Blk W0 w.heap.size 25 (zaE A d.fs.length c B d.q.length e2 d.quota d.fuse d.dead):=by rw[←hW0];exact (Blk.new w _ _).alloc _
 have h2:Blk W0 (w.heap.size+1) 25 (zaE none 0 0 none 0 0 0 0 false):=by
  rw[←hW0]
  have:=Blk.new (w.alloc (.cells #[.slice A d.fs.length c,.slice B d.q.length e2,.int .i64 d.quota,.int .i64 d.fuse,.bool d.dead] 25)) 25 #[.slice none 0 0,.slice none 0 0,.int .i64 0,.int .i64 0,.bool false]
  rwa [World.size_alloc] at this
 have HE0:=zhd hE0;have H0:=zhd h0;have H2:=zhd h2
 have HD:=zhd (show DkV W0 (.agg #[.slice A d.fs.length c,.slice B d.q.length e2,.int .i64 d.quota,.int .i64 d.fuse,.bool d.dead]) d from ⟨_,_,rfl,hF.ext hE0,hQ.ext hE0⟩)
 have HSW:=zhd (hS.ext hE0);have HKK:=zhd (SlR.ext hK hE0);obtain ⟨g0,g1,g2,g3,g4⟩:=zac h0;have HZ:=zhd hs;have HLE:=zhd hle;have HKL:=zhd hkl;have hnl:=zeW d;have hnl2:=zei d.now (zaf ks);have hzl:=hs.l;obtain ⟨T,hT⟩:∃ T,zb1 d (zaf ks)=T:=⟨_,rfl⟩;rw[hT];unfold zb1 at hT;have HT:=zhd hT
 have HN0:=zhd (show d.now.length≤1000000 by omega)
 have HNL:=zhd (show (zaH d.now (zaf ks)).length≤n by omega)
 clear h0 h2 hF hQ hE0 hs hS hK hle hkl hnl hnl2 hzl hT;obtain ⟨i0,hi,hz0,hz1,hz2⟩:=info_parts ziY
 go_enter Tryz.func29,Tryz.ntmps29
 go_wp2_with fail
 refine (zmB _ d n _ HD.out (by have:=HLE.out;omega) HZ.out).mono ?_
 rintro e w1 ⟨A1,c1,rfl,hOF,hE1⟩;clear hW0;have HRS:=zqZ _ d.now _ ks w1 (HSW.out.ext hE1) hOF.fs (SlR.ext HKK.out hE1) HN0.out HKL.out;have HOF:=zhd hOF;have HE1:=zhd hE1;have HRS:=zhd HRS;clear hOF hE1;go_wp2_with fail
 refine HRS.out.mono ?_
 rintro e w2 ⟨A2,k2,rfl,hON,hE2⟩;clear g0 g1 g2 g3 g4 HRS HOF
 generalize hN:zaH d.now (zaf ks)=N at *
 have HX2:=zhd (Ext.trans HE1.out hE2);have HON:=zhd hON;clear hON hE2 HE1
 go_frame
 go_wp2_with fail
 go_loopw [6,14] (fun v6 v14 wr=>∃ k:Nat,k≤N.length∧v14=.int .i64 k∧(∃ A' c',v6=.slice A' k c')∧Hid (OwnQ wr w2.heap.size v6 ((N.take k).map zbb))∧Hid (Ext w2 wr)) (fun _ v14 _=>N.length-(intOf v14).toNat)
 case atStart=>exact ⟨0,Nat.zero_le _,rfl,⟨_,_,rfl⟩,OwnX.nil _ _ _,Ext.refl _⟩
 case round =>
  obtain ⟨k,hk,rfl,⟨A',c',rfl⟩,HO,HXr⟩:=hrel;have hnl:=HNL.out;have hle:=HLE.out
  by_cases hlt:k<N.length
  ·obtain ⟨_,b,off,rfl,hc⟩:=SlR.at_ (SlR.ext (SlR.of_own HON.out) HXr.out) (by omega)
   have hc0:=hc k (sv N[k]) (by rw[List.getElem?_map,List.getElem?_eq_getElem hlt];rfl)
   have htk:(N.take (k+1)).map zbb=(N.take k).map zbb++[zbb N[k]]:=by rw[List.take_succ_eq_append_getElem hlt,List.map_append];rfl
   have hlen:((N.take k).map zbb).length=k:=by rw[List.length_map,List.length_take];omega
   have HTK:=zhd htk;have HLEN:=zhd hlen;clear hc htk hlen
   generalize N[k]=x at *
   simp only[sv,Nat.mul_one] at hc0
   have hE15:Ext wr (wr.alloc (.cells #[.int .u8 4,.string ⟨x.toArray⟩,.string ⟨#[]⟩,.slice none 0 0] 86)):=Ext.alloc (Ext.refl _) _
   have hws:w2.heap.size≤wr.heap.size:=HXr.out.size
   have HOX:=zhd (OwnX.ext zcS HO.out hE15)
   have haw:∀ g,(Value.slice A' k c').ownBlock=some g→∀ u∈[.int .u8 4,.string ⟨x.toArray⟩,.string ⟨#[]⟩,.slice none 0 0],zbx g u:=by
    intro g _ u hu;simp only[List.mem_cons,List.not_mem_nil,or_false] at hu
    rcases hu with rfl | rfl | rfl | rfl
    ·exact zeO _ _ _
    ·exact za2 _ x
    ·exact za2 _ []
    ·intro b off n c _ h
     cases h
   have HAW:=zhd haw;have HE15:=zhd hE15;clear haw hE15
   go_wp2_with (at_builtin;refine zeK zcS rfl (.tmp 18) (.tmp 21) 23 rfl 86 i0 _ 64 Tryz.underlying23 hi hz0 hz1 hz2 rfl (by decide) (by decide) w2.heap.size _ ((N.take k).map zbb) rfl HOX.out _ [zbb x] [.int .u8 4,.string ⟨x.toArray⟩,.string ⟨#[]⟩,.slice none 0 0] rfl (zeH wr [.int .u8 4,.string ⟨x.toArray⟩,.string ⟨#[]⟩,.slice none 0 0] 86 4 rfl rfl) (zf9 (o:=zbb x) (SlR.nil _ 1)) (by simp) HAW.out (by rw[HLEN.out];simp;omega) (by rw[World.size_alloc];omega) ?_;intro A3 c3 w3 ho3 hG3 hg3;rw[←HTK.out,HLEN.out] at ho3;simp only[HLEN.out,List.length_cons,List.length_nil,Nat.zero_add] at ho3 ⊢;have hX3:=hG3 w2 (Ext.trans HXr.out HE15.out) (Nat.le_refl _))
   exact ⟨⟨k+1,by omega,by go_num,⟨_,_,rfl⟩,ho3,hX3⟩,by simp[intOf];omega⟩
  ·obtain rfl:k=N.length:=by omega
   have hO:=HO.out;rw[List.take_length] at hO;have HO:=zhd hO;clear hO;have hXw:=Ext.trans HX2.out HXr.out;obtain ⟨g0,g1,g2,g3,g4⟩:=zac (H0.out.ext hXw);have hC:=zif _ d n false _ (N.map zbb) wr (HD.out.ext hXw) HZ.out HO.out.qs (by rw[List.length_map,zgL];omega);rw[HT.out] at hC;have HC:=zhd hC;have HXW:=zhd hXw;clear hC hXw;go_wp2_with fail
   refine HC.out.mono ?_
   rintro e w4 ⟨u,rfl,⟨A5,k5,B5,e5,rfl,of,oq⟩,hE4⟩;have hX4:=Ext.trans HXW.out hE4;have hb2:=H2.out.ext hX4;obtain ⟨f0,f1,f2,f3,f4⟩:=zby hb2;obtain ⟨d0,d1,d2,d3,d4⟩:=zac hb2;have Q1:=zhd hb2;have Q2:=zhd of;have Q3:=zhd oq;have Q4:=zhd (Ext.trans HE0.out hX4);have Q5:=zhd (Ext.trans HE0.out HXW.out).size;clear hb2 of oq hX4 hE4 g0 g1 g2 g3 g4;go_wp2_with fail
   refine bodyPost_ret (ztt _ _ _ _ (.int .i64 T.2) rfl rfl (zaS Q1.out _ _ _ _ _) rfl) rfl ?_
   exact ⟨_,rfl,⟨_,_,_,_,rfl,OwnF.box1 (OwnX.base Q2.out Q5.out) Q1.out,OwnQ.box1 (OwnX.base Q3.out Q5.out) Q1.out⟩,zaL Q4.out (by omega) _ _ _ _ _⟩
end Go.Proofs.YtgonhdeochgkoaaGreatDoor
