/- Merged: Swap R4a -/
import Derived.Test.YtgonhdeochgkoaaGreatDoorStoreReads32
set_option linter.all false
set_option maxHeartbeats 8000000
set_option maxRecDepth 100000
namespace Go.Proofs.YtgonhdeochgkoaaGreatDoor
open Go.RowKit Go.Mv Go.Shelf
theorem mcSwap0 {P:Prop} (h:P:=by
 refine ar1 3 rfl (fun K hK=>?_)
 go_simp
 have hdr:=zhq _ r.1 (n+2+b.length+1) _ (zbh m) w9 (HSW.out.ext (Ext.trans HX8.out E9)) (show DkV w9 (.agg #[.slice A4 r.1.fs.length c4,.slice B4 r.1.q.length e4,.int .i64 r.1.quota,.int .i64 r.1.fuse,.bool r.1.dead]) r.1 from ⟨_,_,rfl,(OwnF.fs HF8.out).ext E9,(OwnQ.qs HQ8.out).ext E9⟩) (HZR.out.mono (by simp[za8,zcr])) (SlR.of_own hko) HKM.out (by have:=HBL.out;have:=HN.out;omega)
 rw[HSS5.out] at hdr
 refine hdr.mono ?_
 rintro e w10 ⟨u,rfl,⟨A6,c6,B6,e6,rfl,of,oq⟩,hE10⟩
 have E10:=Ext.trans E9 hE10
 refine shK hK _ _ trivial (fun _=>?_)
 refine tkN 4 rfl ?_
 refine tkN 5 rfl ?_
 have hb10:Blk w10 (w.heap.size+1+1) 25 (zaA A4 r.1.fs.length c4 B4 r.1.q.length e4 r.1.quota r.1.fuse r.1.dead):=HB8.out.ext E10
 obtain ⟨f0,f1,f2,f3,f4⟩:=zbg hb10
 obtain ⟨d0,d1,d2,d3,d4⟩:=zad hb10
 have hz9:=(Ext.trans HX8.out E9).size
 have HB10:=zhd hb10
 have HOF:=zhd of
 have HOQ:=zhd oq
 have HX10:=zhd (Ext.trans HX8.out E10)
 have HZ9:=zhd hz9
 clear hb10 of oq hz9 E9 E10 hE9 hE10 hdr hko
 refine ar1 6 rfl (fun K hK=>?_)
 go_simp
 refine shK hK _ _ trivial (fun _=>?_)
 refine tkN 7 rfl ?_
 refine wpAnyH_done (by kernel_rfl) ?_ _
 go_wp2_with fail
 refine bodyPost_ret (zev _ _ _ _ (.int .i64 S.2) rfl rfl (zaJ HB10.out (.slice A6 S.1.fs.length c6) (.slice B6 S.1.q.length e6) (.int .i64 S.1.quota) (.int .i64 S.1.fuse) (.bool S.1.dead)) rfl) rfl ?_
 have of6:=OwnF.box1 (A':=A6) (n':=S.1.fs.length) (c':=c6) (B':=B6) (m':=S.1.q.length) (e':=e6) (q':=S.1.quota) (f':=S.1.fuse) (d':=S.1.dead) (OwnX.base HOF.out HZ9.out) HB10.out
 have oq6:=OwnQ.box1 (A':=A6) (n':=S.1.fs.length) (c':=c6) (B':=B6) (m':=S.1.q.length) (e':=e6) (q':=S.1.quota) (f':=S.1.fuse) (d':=S.1.dead) (OwnX.base HOQ.out HZ9.out) HB10.out
 have oe6:=zaE HX10.out (by omega:w.heap.size≤w.heap.size+1+1) (.slice A6 S.1.fs.length c6) (.slice B6 S.1.q.length e6) (.int .i64 S.1.quota) (.int .i64 S.1.fuse) (.bool S.1.dead)
 exact zfC of6 oq6 oe6):P:=h
theorem Sz.does:∀ (q:List Oq) {n:Nat} {d:Dk} (sync:Bool),Sz n d→Sz (n+q.length+za8 q) (zcH sync d q).1
 | [],n,d,sync,h=>by
  rw[zcH]
  split
  ·exact h.sync.mono (by omega)
  ·exact h.mono (by omega)
 | o::q,n,d,sync,h=>by
  rw[zcH,zcb,List.length_cons]
  split
  ·exact (Sz.does q sync (h.doS o)).mono (by omega)
  ·exact (h.doS o).mono (by omega)
def zjI (d:Dk) (m:Mf):Dk×Int:=match zb7 m with | none=>(d,2) | some b=>zoU d b (zaS (zbh m))
theorem zev (tmps:Array Value) (W:World) (b:Nat) (cs:Array Value) (e:Value) (h4:tmps.getD 4 undef=.pointer (some ⟨b,0,none⟩)) (h3:tmps.getD 5 undef=e) (hb:Blk W b 25 cs) (hs:cs.size=5):(results Tryz.f12 tmps).run Tryz.prog W=.ok (.tuple #[.agg cs,e]) W:=by
 have h4':tmps[4]?.getD undef=.pointer (some ⟨b,0,none⟩):=by simpa using h4
 have h3':tmps[5]?.getD undef=e:=by simpa using h3
 have hl:=hb.load (P:=Tryz.prog) zhz rfl (by rw[hs];kernel_rfl)
 simp[results,Tryz.results12,h4',h3',asAddr,hl,Sem.run_bind,Sem.run_pure,Result.andThen_ok]
def zlb (w:World) (r:Dk×Int) (e:Ending) (w':World):Prop:=∃ u,e=.returned (.tuple #[u,.int .i64 r.2])∧ziI w' w.heap.size u r.1∧Ext w w'
theorem zfC {w W:World} {r:Dk×Int} {A B:Option Addr} {c e:Nat} (hA:OwnF W w.heap.size (.slice A r.1.fs.length c) r.1.fs) (hB:OwnQ W w.heap.size (.slice B r.1.q.length e) r.1.q) (hE:Ext w W):zlb w r (.returned (.tuple #[.agg (zaA A r.1.fs.length c B r.1.q.length e r.1.quota r.1.fuse r.1.dead),.int .i64 r.2])) W:=⟨_,rfl,⟨A,c,B,e,rfl,hA,hB⟩,hE⟩
theorem zkj (v:Value) (d:Dk) (n:Nat) (m:Mf) (vs:Value) (w:World) (hS:StW w) (hD:DkV w v d) (hs:Sz n d) (hn:n≤100000) (hG:Sgs w vs m.segs) (hlm:m.segs.length≤1000000) (hkm:(zbh m).length≤1000000) (hpl:∀ b,zb7 m=some b→b.length≤100000) :
  Calls Tryz.prog 12 #[v,.agg #[.int .i64 m.next,.int .i64 m.term,.int .i64 m.vote,.int .i64 m.sq,.int .i64 m.sf,vs]] w (zlb w (zjI d m)):=by
 obtain ⟨vf,vq,rfl,hF,hQ⟩:=hD
 obtain ⟨A,c,rfl,_,_⟩:=Fs.open_ hF
 obtain ⟨B,e2,rfl,_,_⟩:=Qs.open_ hQ
 obtain ⟨C,c2,rfl,_,_⟩:=hG.open_
 obtain ⟨W0,hW0⟩:∃ W0,((w.alloc (.cells #[.slice A d.fs.length c,.slice B d.q.length e2,.int .i64 d.quota,.int .i64 d.fuse,.bool d.dead] 25)).alloc (.cells #[.int .i64 m.next,.int .i64 m.term,.int .i64 m.vote,.int .i64 m.sq,.int .i64 m.sf,.slice C m.segs.length c2] 30)).alloc (.cells #[.slice none 0 0,.slice none 0 0,.int .i64 0,.int .i64 0,.bool false] 25)=W0:=⟨_,rfl⟩
 have hE0:Ext w W0:=by rw[←hW0];exact Ext.alloc (Ext.alloc (Ext.alloc (Ext.refl _) _) _) _
 have h0:Blk W0 w.heap.size 25 (zaA A d.fs.length c B d.q.length e2 d.quota d.fuse d.dead):=by rw[←hW0];exact ((Blk.new w _ _).alloc _).alloc _
 have h1:Blk W0 (w.heap.size+1) 30 #[.int .i64 m.next,.int .i64 m.term,.int .i64 m.vote,.int .i64 m.sq,.int .i64 m.sf,.slice C m.segs.length c2]:=by
  rw[←hW0]
  have:=(Blk.new (w.alloc (.cells #[.slice A d.fs.length c,.slice B d.q.length e2,.int .i64 d.quota,.int .i64 d.fuse,.bool d.dead] 25)) 30 #[.int .i64 m.next,.int .i64 m.term,.int .i64 m.vote,.int .i64 m.sq,.int .i64 m.sf,.slice C m.segs.length c2]).alloc (.cells #[.slice none 0 0,.slice none 0 0,.int .i64 0,.int .i64 0,.bool false] 25)
  rwa [World.size_alloc] at this
 have h2:Blk W0 (w.heap.size+1+1) 25 (zaA none 0 0 none 0 0 0 0 false):=by
  rw[←hW0]
  have:=Blk.new ((w.alloc (.cells #[.slice A d.fs.length c,.slice B d.q.length e2,.int .i64 d.quota,.int .i64 d.fuse,.bool d.dead] 25)).alloc (.cells #[.int .i64 m.next,.int .i64 m.term,.int .i64 m.vote,.int .i64 m.sq,.int .i64 m.sf,.slice C m.segs.length c2] 30)) 25 #[.slice none 0 0,.slice none 0 0,.int .i64 0,.int .i64 0,.bool false]
  rwa [World.size_alloc,World.size_alloc] at this
 have HE0:=zhd hE0
 have H0:=zhd h0
 have H1:=zhd h1
 have H2:=zhd h2
 have HSW:=zhd hS
 have HGW:=zhd hG
 have HS:=zhd (hS.ext hE0)
 have HF:=zhd (hF.ext hE0)
 have HQ:=zhd (hQ.ext hE0)
 have HG:=zhd (hG.ext hE0)
 have HP:=zhd (ziH m _ W0 (hG.ext hE0) (hS.ext hE0))
 have HZ:=zhd hs
 have HN:=zhd hn
 have HLM:=zhd hlm
 have HKM:=zhd hkm
 have HPL:=zhd hpl
 obtain ⟨q0,q1,q2,q3,q4,q5⟩:=zao h1
 clear h0 h1 h2 hF hQ hG hE0 hs hS hn hlm hkm hpl
 obtain ⟨S,hS⟩:∃ S,zjI d m=S:=⟨_,rfl⟩
 rw[hS]
 unfold zjI at hS
 obtain ⟨rb,hrb⟩:∃ r,zb7 m=r:=⟨_,rfl⟩
 rw[hrb] at HP hS
 have HSS:=zhd hS
 have HRB:=zhd hrb
 clear hS hrb
 go_enter Tryz.func12,Tryz.ntmps12
 go_wp2_with fail
 refine HP.out.mono ?_
 rintro e w1 ⟨⟨vb,rfl,hob⟩,hE1⟩
 have HE1:=zhd hE1
 have HOB:=zhd hob
 clear q0 q1 q2 q3 q4 q5 hE1 hW0
 obtain ⟨g0,g1,g2,g3,g4⟩:=zad (H0.out.ext HE1.out)
 cases rb with
 | none =>
  have HS2:=HSS.out
  dsimp only at HS2
  subst HS2
  simp only[Option.isSome_none,Bool.false_eq_true,if_false]
  obtain ⟨Ab,cb,rfl,_,_⟩:=SlR.open_ (SlR.of_own hob)
  clear hob
  go_wp2_with fail
  clear g0 g1 g2 g3 g4
  refine (zho _ d n w1 (show DkV w1 _ d from ⟨_,_,rfl,HF.out.ext HE1.out,HQ.out.ext HE1.out⟩) (by have:=HN.out;omega) HZ.out).mono ?_
  rintro e w2 ⟨u,rfl,⟨A3,c3,B3,e3,rfl,of,oq⟩,hE2⟩
  have hb2:=H2.out.ext (Ext.trans HE1.out hE2)
  have hX:=Ext.trans HE0.out (Ext.trans HE1.out hE2)
  have hX1:=Ext.trans HE0.out HE1.out
  obtain ⟨f0,f1,f2,f3,f4⟩:=zbg hb2
  obtain ⟨d0,d1,d2,d3,d4⟩:=zad hb2
  have Q1:=zhd hb2
  have Q2:=zhd of
  have Q3:=zhd oq
  have Q4:=zhd hX
  have Q5:=zhd hX1.size
  clear hb2 of oq hX hX1 hE2
  go_wp2_with fail
  refine bodyPost_ret (zev _ _ _ _ (.int .i64 2) rfl rfl (zaJ Q1.out _ _ _ _ _) rfl) rfl ?_
  exact ⟨_,rfl,⟨_,_,_,_,rfl,OwnF.box1 (OwnX.base Q2.out.f Q5.out) Q1.out,OwnQ.box1 (OwnX.base Q3.out Q5.out) Q1.out⟩,zaE Q4.out (by omega) _ _ _ _ _⟩
 | some b =>
  have HSS:Hid (zoU d b (zaS (zbh m))=S):=HSS
  simp only[Option.isSome_some,if_true]
  have hbl:=HPL.out b HRB.out
  have HBL:=zhd hbl
  have HOB:Hid (OwnB w1 W0.heap.size vb b):=HOB
  obtain ⟨Ab,cb,rfl,_,_⟩:=SlR.open_ (SlR.of_own HOB.out)
  have HN1:=zhd (zeg 2 0 0 w1 (HS.out.ext HE1.out))
  clear hob hbl
  go_wp2_with fail
  refine HN1.out.mono ?_
  rintro e w2 ⟨rfl,hE2⟩
  have HE2:=zhd (Ext.trans HE1.out hE2)
  have HB2:=zhd (SlR.ext (SlR.of_own HOB.out) hE2)
  have HN2:=zhd (zeg 1 0 0 w2 (HS.out.ext HE2.out))
  clear hE2 HN1 g0 g1 g2 g3 g4
  go_wp2_with fail
  refine HN2.out.mono ?_
  rintro e w3 ⟨rfl,hE3⟩
  have HE3:=zhd (Ext.trans HE2.out hE3)
  have HB3:Hid (Bs w3 (.slice Ab b.length cb) b):=zhd (SlR.ext HB2.out hE3)
  clear hE3 HN2 HB2
  obtain ⟨g0,g1,g2,g3,g4⟩:=zad (H0.out.ext HE3.out)
  rw[show zav 2 0 0=some zb5 from by decide,show zav 1 0 0=some zeq from by decide]
  simp only[Option.getD_some,Option.isSome_some,if_true,sv]
  go_wp2_with fail
  clear g0 g1 g2 g3 g4
  have hput:=zrb _ d n 2 0 0 _ b w3 (HS.out.ext HE3.out) (show DkV w3 (.agg #[.slice A d.fs.length c,.slice B d.q.length e2,.int .i64 d.quota,.int .i64 d.fuse,.bool d.dead]) d from ⟨_,_,rfl,HF.out.ext HE3.out,HQ.out.ext HE3.out⟩) HZ.out HB3.out (by have:=HBL.out;have:=HN.out;omega)
  rw[show zdq d (zav 2 0 0) b=zf0 d zb5 b from by rw[show zav 2 0 0=some zb5 from by decide];rfl] at hput
  have hzp:Sz (n+2+b.length) (zf0 d zb5 b).1:=(HZ.out.does [zem zb5,zeh zb5 b] true).mono (by simp[za8,zem,zeh])
  have hss:=HSS.out
  unfold zoU at hss
  obtain ⟨p,hp⟩:∃ p,zf0 d zb5 b=p:=⟨_,rfl⟩
  rw[hp] at hput hzp hss
  refine hput.mono ?_
  rintro e w4 ⟨u,rfl,⟨A3,c3,B3,e3,rfl,of,oq⟩,hE4⟩
  have E4:=Ext.trans HE3.out hE4
  have hb4:=H2.out.ext E4
  have hb5:=zaJ (show Blk w4 (w.heap.size+1+1) 25 #[.slice none 0 0,.slice none 0 0,.int .i64 0,.int .i64 0,.bool false] from hb4) (.slice A3 p.1.fs.length c3) (.slice B3 p.1.q.length e3) (.int .i64 p.1.quota) (.int .i64 p.1.fuse) (.bool p.1.dead)
  have hX4:=Ext.trans HE0.out E4
  obtain ⟨f0,f1,f2,f3,f4⟩:=zbg hb4
  obtain ⟨d0,d1,d2,d3,d4⟩:=zad hb4
  have HX3:=zhd (Ext.trans HE0.out HE3.out).size
  have HB4:=zhd hb4
  have HB5:=zhd hb5
  have HOF:=zhd of
  have HOQ:=zhd oq
  have HE4:=zhd E4
  have HX4:=zhd hX4
  have HZP:=zhd hzp
  have HSS2:=zhd hss
  clear hput hzp hss hp hb4 hb5 hX4 of oq hE4 E4 HSS
  by_cases hp2:p.2=0
  case neg =>
   have hpb:(p.2 != 0)=true:=by simpa using hp2
   obtain rfl:p=S:=by have h:=HSS2.out;rwa [if_pos hp2] at h
   clear hp2
   go_wp2_with fail
   refine bodyPost_ret (zev _ _ _ _ (.int .i64 p.2) rfl rfl (zaJ HB5.out (.slice A3 p.1.fs.length c3) (.slice B3 p.1.q.length e3) (.int .i64 p.1.quota) (.int .i64 p.1.fuse) (.bool p.1.dead)) rfl) rfl ?_
   have of5:=OwnF.box1 (A':=A3) (n':=p.1.fs.length) (c':=c3) (B':=B3) (m':=p.1.q.length) (e':=e3) (q':=p.1.quota) (f':=p.1.fuse) (d':=p.1.dead) HOF.out HB4.out
   have oq5:=OwnQ.box1 (A':=A3) (n':=p.1.fs.length) (c':=c3) (B':=B3) (m':=p.1.q.length) (e':=e3) (q':=p.1.quota) (f':=p.1.fuse) (d':=p.1.dead) HOQ.out HB4.out
   have of6:=OwnF.box1 (A':=A3) (n':=p.1.fs.length) (c':=c3) (B':=B3) (m':=p.1.q.length) (e':=e3) (q':=p.1.quota) (f':=p.1.fuse) (d':=p.1.dead) (OwnX.base of5 HX3.out) HB5.out
   have oq6:=OwnQ.box1 (A':=A3) (n':=p.1.fs.length) (c':=c3) (B':=B3) (m':=p.1.q.length) (e':=e3) (q':=p.1.quota) (f':=p.1.fuse) (d':=p.1.dead) (OwnX.base oq5 HX3.out) HB5.out
   have oe6:=zaE (zaE HX4.out (by omega:w.heap.size≤w.heap.size+1+1) (.slice A3 p.1.fs.length c3) (.slice B3 p.1.q.length e3) (.int .i64 p.1.quota) (.int .i64 p.1.fuse) (.bool p.1.dead)) (by omega:w.heap.size≤w.heap.size+1+1) (.slice A3 p.1.fs.length c3) (.slice B3 p.1.q.length e3) (.int .i64 p.1.quota) (.int .i64 p.1.fuse) (.bool p.1.dead)
   exact zfC of6 oq6 oe6
  have hpb:(p.2 != 0)=false:=by simpa using hp2
  have hss:=HSS2.out
  rw[if_neg (by simpa using hp2)] at hss
  have HSS3:=zhd hss
  clear hss hp2 HSS2
  go_wp2_with fail
  have HB5':Hid (Blk (((((w4.setCell ⟨w.heap.size+1+1,0,none⟩ (.slice A3 p.1.fs.length c3)).setCell ⟨w.heap.size+1+1,1,none⟩ (.slice B3 p.1.q.length e3)).setCell ⟨w.heap.size+1+1,2,none⟩ (.int .i64 p.1.quota)).setCell ⟨w.heap.size+1+1,3,none⟩ (.int .i64 p.1.fuse)).setCell ⟨w.heap.size+1+1,4,none⟩ (.bool p.1.dead)) (w.heap.size+1+1) 25 (zaA A3 p.1.fs.length c3 B3 p.1.q.length e3 p.1.quota p.1.fuse p.1.dead)):=HB5
  have HF5:Hid (OwnF (((((w4.setCell ⟨w.heap.size+1+1,0,none⟩ (.slice A3 p.1.fs.length c3)).setCell ⟨w.heap.size+1+1,1,none⟩ (.slice B3 p.1.q.length e3)).setCell ⟨w.heap.size+1+1,2,none⟩ (.int .i64 p.1.quota)).setCell ⟨w.heap.size+1+1,3,none⟩ (.int .i64 p.1.fuse)).setCell ⟨w.heap.size+1+1,4,none⟩ (.bool p.1.dead)) w3.heap.size (.slice A3 p.1.fs.length c3) p.1.fs):=zhd (OwnF.box1 (A':=A3) (n':=p.1.fs.length) (c':=c3) (B':=B3) (m':=p.1.q.length) (e':=e3) (q':=p.1.quota) (f':=p.1.fuse) (d':=p.1.dead) HOF.out HB4.out)
  have HQ5:Hid (OwnQ (((((w4.setCell ⟨w.heap.size+1+1,0,none⟩ (.slice A3 p.1.fs.length c3)).setCell ⟨w.heap.size+1+1,1,none⟩ (.slice B3 p.1.q.length e3)).setCell ⟨w.heap.size+1+1,2,none⟩ (.int .i64 p.1.quota)).setCell ⟨w.heap.size+1+1,3,none⟩ (.int .i64 p.1.fuse)).setCell ⟨w.heap.size+1+1,4,none⟩ (.bool p.1.dead)) w3.heap.size (.slice B3 p.1.q.length e3) p.1.q):=zhd (OwnQ.box1 (A':=A3) (n':=p.1.fs.length) (c':=c3) (B':=B3) (m':=p.1.q.length) (e':=e3) (q':=p.1.quota) (f':=p.1.fuse) (d':=p.1.dead) HOQ.out HB4.out)
  have HX5:Hid (Ext w (((((w4.setCell ⟨w.heap.size+1+1,0,none⟩ (.slice A3 p.1.fs.length c3)).setCell ⟨w.heap.size+1+1,1,none⟩ (.slice B3 p.1.q.length e3)).setCell ⟨w.heap.size+1+1,2,none⟩ (.int .i64 p.1.quota)).setCell ⟨w.heap.size+1+1,3,none⟩ (.int .i64 p.1.fuse)).setCell ⟨w.heap.size+1+1,4,none⟩ (.bool p.1.dead))):=zhd (zaE HX4.out (by omega:w.heap.size≤w.heap.size+1+1) (.slice A3 p.1.fs.length c3) (.slice B3 p.1.q.length e3) (.int .i64 p.1.quota) (.int .i64 p.1.fuse) (.bool p.1.dead))
  have HM5:Hid (Blk (((((w4.setCell ⟨w.heap.size+1+1,0,none⟩ (.slice A3 p.1.fs.length c3)).setCell ⟨w.heap.size+1+1,1,none⟩ (.slice B3 p.1.q.length e3)).setCell ⟨w.heap.size+1+1,2,none⟩ (.int .i64 p.1.quota)).setCell ⟨w.heap.size+1+1,3,none⟩ (.int .i64 p.1.fuse)).setCell ⟨w.heap.size+1+1,4,none⟩ (.bool p.1.dead)) (w.heap.size+1) 30 #[.int .i64 m.next,.int .i64 m.term,.int .i64 m.vote,.int .i64 m.sq,.int .i64 m.sf,.slice C m.segs.length c2]):=zhd (zej (H1.out.ext HE4.out) (by omega:w.heap.size+1≠w.heap.size+1+1) (.slice A3 p.1.fs.length c3) (.slice B3 p.1.q.length e3) (.int .i64 p.1.quota) (.int .i64 p.1.fuse) (.bool p.1.dead))
  have hz5:(((((w4.setCell ⟨w.heap.size+1+1,0,none⟩ (.slice A3 p.1.fs.length c3)).setCell ⟨w.heap.size+1+1,1,none⟩ (.slice B3 p.1.q.length e3)).setCell ⟨w.heap.size+1+1,2,none⟩ (.int .i64 p.1.quota)).setCell ⟨w.heap.size+1+1,3,none⟩ (.int .i64 p.1.fuse)).setCell ⟨w.heap.size+1+1,4,none⟩ (.bool p.1.dead)).heap.size=w4.heap.size:=by simp only[World.size_setCell]
  clear HB5 HB4 HOF HOQ HX4 HE4 f0 f1 f2 f3 f4 d0 d1 d2 d3 d4
  generalize (((((w4.setCell ⟨w.heap.size+1+1,0,none⟩ (.slice A3 p.1.fs.length c3)).setCell ⟨w.heap.size+1+1,1,none⟩ (.slice B3 p.1.q.length e3)).setCell ⟨w.heap.size+1+1,2,none⟩ (.int .i64 p.1.quota)).setCell ⟨w.heap.size+1+1,3,none⟩ (.int .i64 p.1.fuse)).setCell ⟨w.heap.size+1+1,4,none⟩ (.bool p.1.dead))=w5 at *
  have HX6:Hid (Ext w5 (w5.alloc (.cells #[.int .u8 3,sv zb5,sv zeq,.slice none 0 0] 86))):=zhd (Ext.alloc (Ext.refl _) _)
  have hqs:Qs (w5.alloc (.cells #[.int .u8 3,sv zb5,sv zeq,.slice none 0 0] 86)) (.slice (some ⟨w4.heap.size,0,none⟩) 1 1) [zcr zb5 zeq] :=
   ⟨[.int .u8 3,sv zb5,sv zeq,.slice none 0 0],znJ w5 _ 86 4 1 rfl (by omega) hz5,zfA (o:=zcr zb5 zeq) (SlR.nil _ 1)⟩
  have hC:=zhp _ p.1 (n+2+b.length) true _ [zcr zb5 zeq] _ (show DkV (w5.alloc (.cells #[.int .u8 3,sv zb5,sv zeq,.slice none 0 0] 86)) (.agg #[.slice A3 p.1.fs.length c3,.slice B3 p.1.q.length e3,.int .i64 p.1.quota,.int .i64 p.1.fuse,.bool p.1.dead]) p.1 from ⟨_,_,rfl,(OwnF.fs HF5.out).ext HX6.out,(OwnQ.qs HQ5.out).ext HX6.out⟩) HZP.out hqs (by have:=HBL.out;have:=HN.out;simp[za8,zcr];omega)
  have hzr:=HZP.out.does [zcr zb5 zeq] true
  have hss:=HSS3.out
  obtain ⟨r,hr⟩:∃ r,zcH true p.1 [zcr zb5 zeq]=r:=⟨_,rfl⟩
  rw[hr] at hC hzr hss
  refine hC.mono ?_
  rintro e w7 ⟨u,rfl,⟨A4,c4,B4,e4,rfl,of,oq⟩,hE7⟩
  have E7:=Ext.trans HX6.out hE7
  have hb7:=HB5'.out.ext E7
  have hb8:=zaJ (show Blk w7 (w.heap.size+1+1) 25 #[.slice A3 p.1.fs.length c3,.slice B3 p.1.q.length e3,.int .i64 p.1.quota,.int .i64 p.1.fuse,.bool p.1.dead] from hb7) (.slice A4 r.1.fs.length c4) (.slice B4 r.1.q.length e4) (.int .i64 r.1.quota) (.int .i64 r.1.fuse) (.bool r.1.dead)
  have hX7:=Ext.trans HX5.out E7
  obtain ⟨f0,f1,f2,f3,f4⟩:=zbg hb7
  obtain ⟨d0,d1,d2,d3,d4⟩:=zad hb7
  have HX6s:=zhd (Ext.trans HX5.out HX6.out).size
  have HB7:=zhd hb7
  have HB8:=zhd hb8
  have HOF:=zhd of
  have HOQ:=zhd oq
  have HM7:=zhd (HM5.out.ext E7)
  have HX7:=zhd hX7
  have HZR:=zhd hzr
  have HSS4:=zhd hss
  clear hC hzr hss hr hb7 hb8 hX7 of oq hE7 E7 hqs HSS3 hz5
  by_cases hr2:r.2=0
  case neg =>
   have hrb:(r.2 != 0)=true:=by simpa using hr2
   obtain rfl:r=S:=by have h:=HSS4.out;rwa [if_pos hr2] at h
   clear hr2
   go_wp2_with fail
   refine bodyPost_ret (zev _ _ _ _ (.int .i64 r.2) rfl rfl (zaJ HB8.out (.slice A4 r.1.fs.length c4) (.slice B4 r.1.q.length e4) (.int .i64 r.1.quota) (.int .i64 r.1.fuse) (.bool r.1.dead)) rfl) rfl ?_
   have of5:=OwnF.box1 (A':=A4) (n':=r.1.fs.length) (c':=c4) (B':=B4) (m':=r.1.q.length) (e':=e4) (q':=r.1.quota) (f':=r.1.fuse) (d':=r.1.dead) HOF.out HB7.out
   have oq5:=OwnQ.box1 (A':=A4) (n':=r.1.fs.length) (c':=c4) (B':=B4) (m':=r.1.q.length) (e':=e4) (q':=r.1.quota) (f':=r.1.fuse) (d':=r.1.dead) HOQ.out HB7.out
   have of6:=OwnF.box1 (A':=A4) (n':=r.1.fs.length) (c':=c4) (B':=B4) (m':=r.1.q.length) (e':=e4) (q':=r.1.quota) (f':=r.1.fuse) (d':=r.1.dead) (OwnX.base of5 HX6s.out) HB8.out
   have oq6:=OwnQ.box1 (A':=A4) (n':=r.1.fs.length) (c':=c4) (B':=B4) (m':=r.1.q.length) (e':=e4) (q':=r.1.quota) (f':=r.1.fuse) (d':=r.1.dead) (OwnX.base oq5 HX6s.out) HB8.out
   have oe6:=zaE (zaE HX7.out (by omega:w.heap.size≤w.heap.size+1+1) (.slice A4 r.1.fs.length c4) (.slice B4 r.1.q.length e4) (.int .i64 r.1.quota) (.int .i64 r.1.fuse) (.bool r.1.dead)) (by omega:w.heap.size≤w.heap.size+1+1) (.slice A4 r.1.fs.length c4) (.slice B4 r.1.q.length e4) (.int .i64 r.1.quota) (.int .i64 r.1.fuse) (.bool r.1.dead)
   exact zfC of6 oq6 oe6
  have hrb:(r.2 != 0)=false:=by simpa using hr2
  have hss:=HSS4.out
  rw[if_neg (by simpa using hr2)] at hss
  have HSS5:=zhd hss
  clear hss hr2 HSS4
  go_wp2_with fail
  have HF8:Hid (OwnF (((((w7.setCell ⟨w.heap.size+1+1,0,none⟩ (.slice A4 r.1.fs.length c4)).setCell ⟨w.heap.size+1+1,1,none⟩ (.slice B4 r.1.q.length e4)).setCell ⟨w.heap.size+1+1,2,none⟩ (.int .i64 r.1.quota)).setCell ⟨w.heap.size+1+1,3,none⟩ (.int .i64 r.1.fuse)).setCell ⟨w.heap.size+1+1,4,none⟩ (.bool r.1.dead)) _ (.slice A4 r.1.fs.length c4) r.1.fs):=zhd (OwnF.box1 (A':=A4) (n':=r.1.fs.length) (c':=c4) (B':=B4) (m':=r.1.q.length) (e':=e4) (q':=r.1.quota) (f':=r.1.fuse) (d':=r.1.dead) HOF.out HB7.out)
  have HQ8:Hid (OwnQ (((((w7.setCell ⟨w.heap.size+1+1,0,none⟩ (.slice A4 r.1.fs.length c4)).setCell ⟨w.heap.size+1+1,1,none⟩ (.slice B4 r.1.q.length e4)).setCell ⟨w.heap.size+1+1,2,none⟩ (.int .i64 r.1.quota)).setCell ⟨w.heap.size+1+1,3,none⟩ (.int .i64 r.1.fuse)).setCell ⟨w.heap.size+1+1,4,none⟩ (.bool r.1.dead)) _ (.slice B4 r.1.q.length e4) r.1.q):=zhd (OwnQ.box1 (A':=A4) (n':=r.1.fs.length) (c':=c4) (B':=B4) (m':=r.1.q.length) (e':=e4) (q':=r.1.quota) (f':=r.1.fuse) (d':=r.1.dead) HOQ.out HB7.out)
  have HX8:Hid (Ext w (((((w7.setCell ⟨w.heap.size+1+1,0,none⟩ (.slice A4 r.1.fs.length c4)).setCell ⟨w.heap.size+1+1,1,none⟩ (.slice B4 r.1.q.length e4)).setCell ⟨w.heap.size+1+1,2,none⟩ (.int .i64 r.1.quota)).setCell ⟨w.heap.size+1+1,3,none⟩ (.int .i64 r.1.fuse)).setCell ⟨w.heap.size+1+1,4,none⟩ (.bool r.1.dead))):=zhd (zaE HX7.out (by omega:w.heap.size≤w.heap.size+1+1) (.slice A4 r.1.fs.length c4) (.slice B4 r.1.q.length e4) (.int .i64 r.1.quota) (.int .i64 r.1.fuse) (.bool r.1.dead))
  have HM8:Hid (Blk (((((w7.setCell ⟨w.heap.size+1+1,0,none⟩ (.slice A4 r.1.fs.length c4)).setCell ⟨w.heap.size+1+1,1,none⟩ (.slice B4 r.1.q.length e4)).setCell ⟨w.heap.size+1+1,2,none⟩ (.int .i64 r.1.quota)).setCell ⟨w.heap.size+1+1,3,none⟩ (.int .i64 r.1.fuse)).setCell ⟨w.heap.size+1+1,4,none⟩ (.bool r.1.dead)) (w.heap.size+1) 30 #[.int .i64 m.next,.int .i64 m.term,.int .i64 m.vote,.int .i64 m.sq,.int .i64 m.sf,.slice C m.segs.length c2]):=zhd (zej HM7.out (by omega:w.heap.size+1≠w.heap.size+1+1) (.slice A4 r.1.fs.length c4) (.slice B4 r.1.q.length e4) (.int .i64 r.1.quota) (.int .i64 r.1.fuse) (.bool r.1.dead))
  have HB8:Hid (Blk (((((w7.setCell ⟨w.heap.size+1+1,0,none⟩ (.slice A4 r.1.fs.length c4)).setCell ⟨w.heap.size+1+1,1,none⟩ (.slice B4 r.1.q.length e4)).setCell ⟨w.heap.size+1+1,2,none⟩ (.int .i64 r.1.quota)).setCell ⟨w.heap.size+1+1,3,none⟩ (.int .i64 r.1.fuse)).setCell ⟨w.heap.size+1+1,4,none⟩ (.bool r.1.dead)) (w.heap.size+1+1) 25 #[.slice A4 r.1.fs.length c4,.slice B4 r.1.q.length e4,.int .i64 r.1.quota,.int .i64 r.1.fuse,.bool r.1.dead]):=HB8
  clear HB7 HOF HOQ HX7 HM7 f0 f1 f2 f3 f4 d0 d1 d2 d3 d4
  generalize (((((w7.setCell ⟨w.heap.size+1+1,0,none⟩ (.slice A4 r.1.fs.length c4)).setCell ⟨w.heap.size+1+1,1,none⟩ (.slice B4 r.1.q.length e4)).setCell ⟨w.heap.size+1+1,2,none⟩ (.int .i64 r.1.quota)).setCell ⟨w.heap.size+1+1,3,none⟩ (.int .i64 r.1.fuse)).setCell ⟨w.heap.size+1+1,4,none⟩ (.bool r.1.dead))=w8 at *
  obtain ⟨k0,k1,k2,k3,k4⟩:=zad HB8.out
  obtain ⟨l0,l1,l2,l3,l4,l5⟩:=zao HM8.out
  refine wp_region_held_drew (S:=fun _=>True) (by kernel_rfl) trivial (fun _=>?_)
  have hEd:Ext w8 w8.drew:=Ext.drew (Ext.refl _)
  refine AllReadyH.two (i:=0) (j:=1) rfl rfl (by kernel_rfl) (by rfl) (by rfl) (fun K hK=>?_) (fun K hK=>?_)
  ·go_simp
   refine shK hK _ _ trivial (fun _=>?_)
   refine ar1 1 rfl (fun K hK=>?_)
   go_simp
   refine shK hK _ _ trivial (fun _=>?_)
   clear k0 k1 k2 k3 k4 l0 l1 l2 l3 l4 l5
   refine ar1 2 rfl (fun K hK=>?_)
   go_simp
   refine (zhn m _ _ (HGW.out.ext (Ext.trans HX8.out hEd)) HLM.out).mono ?_
   rintro e w9 ⟨vk,rfl,hko,hE9⟩
   have E9:=Ext.trans hEd hE9
   obtain ⟨Ak,ck,rfl,_,_⟩:=SlR.open_ (SlR.of_own hko)
   refine shK hK _ _ trivial (fun _=>?_)
   exact mcSwap0
  ·go_simp
   refine shK hK _ _ trivial (fun _=>?_)
   refine AllReadyH.two (i:=0) (j:=2) rfl rfl (by kernel_rfl) (by rfl) (by rfl) (fun K hK=>?_) (fun K hK=>?_)
   ·go_simp
    refine shK hK _ _ trivial (fun _=>?_)
    clear k0 k1 k2 k3 k4 l0 l1 l2 l3 l4 l5
    refine ar1 2 rfl (fun K hK=>?_)
    go_simp
    refine (zhn m _ _ (HGW.out.ext (Ext.trans HX8.out hEd)) HLM.out).mono ?_
    rintro e w9 ⟨vk,rfl,hko,hE9⟩
    have E9:=Ext.trans hEd hE9
    obtain ⟨Ak,ck,rfl,_,_⟩:=SlR.open_ (SlR.of_own hko)
    refine shK hK _ _ trivial (fun _=>?_)
    exact mcSwap0
   ·go_simp
    refine (zhn m _ _ (HGW.out.ext (Ext.trans HX8.out hEd)) HLM.out).mono ?_
    rintro e w9 ⟨vk,rfl,hko,hE9⟩
    have E9:=Ext.trans hEd hE9
    obtain ⟨Ak,ck,rfl,_,_⟩:=SlR.open_ (SlR.of_own hko)
    refine shK hK _ _ trivial (fun _=>?_)
    have m0:=E9.cell k0
    have m1:=E9.cell k1
    have m2:=E9.cell k2
    have m3:=E9.cell k3
    have m4:=E9.cell k4
    clear k0 k1 k2 k3 k4 l0 l1 l2 l3 l4 l5
    refine ar1 0 rfl (fun K hK=>?_)
    go_simp
    refine shK hK _ _ trivial (fun _=>?_)
    clear m0 m1 m2 m3 m4
    exact mcSwap0
theorem zrT (tmps:Array Value) (W:World) (b:Nat) (cs:Array Value) (h4:tmps.getD 2 undef=.pointer (some ⟨b,0,none⟩)) (hb:Blk W b 25 cs) (hs:cs.size=5):(results Tryz.f45 tmps).run Tryz.prog W=.ok (.agg cs) W:=by
 have hl:=hb.load (P:=Tryz.prog) (show Tryz.prog.underlying 25=some (.struct (Tryz.prog.fieldsOf 25)) by kernel_rfl) rfl (by rw[hs];kernel_rfl)
 have h4':tmps[2]?.getD undef=.pointer (some ⟨b,0,none⟩):=by simpa using h4
 simp[results,Tryz.results45,h4',asAddr,hl]
theorem zq4 (q:Int) (hq:0≤q) (w:World):Calls Tryz.prog 45 #[.int .i64 q] w fun e w'=>e=.returned (.agg #[.slice none 0 0,.slice none 0 0,.int .i64 q,.int .i64 0,.bool false])∧Ext w w':=by
 go_enter Tryz.func45,Tryz.ntmps45
 go_wp2
 rw[show max q 0=q by omega]
 refine bodyPost_ret (zrT _ _ _ _ rfl (Blk.new w _ _) rfl) rfl ?_
 exact ⟨rfl,Ext.alloc (Ext.refl _) _⟩
theorem zhB (v:Value) (fs:List Fil) (n:List UInt8) (w:World) (hF:Fs w v fs) (hl:fs.length≤4000000):Calls Tryz.prog 94 #[v,sv n] w fun e w'=>e=.returned (.int .i64 (zbo fs n))∧w=w':=by
 obtain ⟨A,c,rfl,h1,h2⟩:=Fs.open_ hF
 have HF:=zhd hF
 unfold sv
 clear hF
 go_enter Tryz.func94,Tryz.ntmps94
 go_wp2_with fail
 go_loopw [5] (fun i wr=>∃ j:Nat,j≤fs.length∧i=.int .i64 j∧Hid (∀ q (_:q<j) (h2:q<fs.length),fs[q].1≠n)∧w=wr) (fun i _=>fs.length-(intOf i).toNat)
 case atStart=>exact ⟨0,by omega,rfl,fun q hq=>by omega,rfl⟩
 case round =>
  obtain ⟨j,hj,rfl,Hn,rfl⟩:=hrel
  by_cases hlt:j<fs.length
  ·obtain ⟨_,b,off,rfl,hc⟩:=HF.out.at_ (by omega)
   obtain ⟨hc0,_⟩:=hc j hlt
   have hp:fs[j].1=n→zbo fs n=j:=fun h=>ziZ hlt h Hn.out
   have hq:fs[j].1≠n→∀ q (_:q<j+1) (h2:q<fs.length),fs[q].1≠n:=fun h q h3 h2=>by
    by_cases e:q=j
    ·subst e;exact h
    ·exact Hn.out q (by omega) h2
   have Hp:=zhd hp
   have Hq:=zhd hq
   clear hc hp hq
   generalize fs[j].1=x at *
   simp only[sv] at hc0
   by_cases hx:x=n
   ·have hxe:(x==n)=true:=by simpa using hx
    have hfin:=zhd (Hp.out hx)
    go_wp2_with fail
    go_ret
    exact ⟨by rw[hfin.out];rfl,rfl⟩
   ·have hxe:(x==n)=false:=by simpa using hx
    have Hq2:=zhd (Hq.out hx)
    go_wp2_with fail
    go_roundw
    case rel=>exact ⟨j+1,by omega,by go_num,Hq2,trivial⟩
    case measure=>simp[intOf];omega
  ·obtain rfl:j=fs.length:=by omega
   have hfin:=zhd (show zbo fs n = -1 from zgU fun q h2=>Hn.out q h2 h2)
   go_wp2_with fail
   go_ret
   exact ⟨by rw[hfin.out];rfl,rfl⟩
/-! Parts of rows of files -/
theorem zbR (W:World):FRow W [] []:=⟨rfl,fun i hi=>by simp at hi⟩
theorem zhI {W:World} {xs:List Value} {l:List Fil} (h:FRow W xs l) (k:Nat) (hk:k≤l.length):FRow W (xs.take (k*2)) (l.take k):=by
 obtain ⟨h1,h2⟩:=h
 refine ⟨by rw[List.length_take,List.length_take,h1];omega,fun i hi=>?_⟩
 have hi2:i<k:=by rw[List.length_take] at hi;omega
 obtain ⟨a,u,b,c⟩:=h2 i (by omega)
 rw[List.getElem?_take_of_lt (by omega),List.getElem?_take_of_lt (by omega)]
 simp only[List.getElem_take]
 exact ⟨a,u,b,c⟩
theorem zhH {W:World} {xs:List Value} {l:List Fil} (h:FRow W xs l) (k:Nat) (hk:k≤l.length):FRow W (xs.drop (k*2)) (l.drop k):=by
 obtain ⟨h1,h2⟩:=h
 refine ⟨by rw[List.length_drop,List.length_drop,h1];omega,fun i hi=>?_⟩
 rw[List.length_drop] at hi
 obtain ⟨a,u,b,c⟩:=h2 (k+i) (by omega)
 rw[List.getElem?_drop,List.getElem?_drop]
 simp only[List.getElem_drop]
 rw[show k*2+i*2=(k+i)*2 by omega,show k*2+(i*2+1)=(k+i)*2+1 by omega]
 exact ⟨a,u,b,c⟩
theorem zhU {w:World} {A:Option Addr} {n c:Nat} {xs:List Value} (h:SlR w 2 (.slice A n c) n xs) (k:Nat) (hk:k≤n):SlR w 2 (.slice A k c) k (xs.take (k*2)):=by
 obtain ⟨hl,A',c',e,h1,h2,h3⟩:=h
 cases e
 refine ⟨by rw[List.length_take,hl];omega,A,c,rfl,by omega,h2,fun hn=>?_⟩
 obtain ⟨b,off,rfl,hc⟩:=h3 (by omega)
 exact ⟨b,off,rfl,fun j u hu=>hc j u (by
  rw[List.getElem?_take] at hu
  split at hu
  ·exact hu
  ·cases hu)⟩
theorem zqG {w:World} {b off n c:Nat} {xs:List Value} (h:SlR w 2 (.slice (some ⟨b,off,none⟩) n c) n xs) (k:Nat) (hk:k≤n):SlR w 2 (.slice (some ⟨b,off+k*2,none⟩) (n-k) (c-k)) (n-k) (xs.drop (k*2)):=by
 obtain ⟨hl,A',c',e,h1,h2,h3⟩:=h
 cases e
 refine ⟨by rw[List.length_drop,hl];omega,_,_,rfl,by omega,by omega,fun hn=>?_⟩
 obtain ⟨b',off',e,hc⟩:=h3 (by omega)
 cases e
 refine ⟨b,off+k*2,rfl,fun j u hu=>?_⟩
 rw[List.getElem?_drop] at hu
 have:=hc _ u hu
 rwa [←Nat.add_assoc] at this
theorem zfP {w:World} {b off n c:Nat} {xs:List Value} (h:SlR w 2 (.slice (some ⟨b,off,none⟩) n c) n xs) (k:Nat) (hk:k≤n):SlR w 2 (.slice (if c=k then some ⟨b,off,none⟩ else some ⟨b,off+k*2,none⟩) (n-k) (c-k)) (n-k) (xs.drop (k*2)):=by
 have h0:=zqG h k hk
 split
 ·rename_i hc
  obtain ⟨hl,A',c',e,h1,h2,h3⟩:=h
  cases e
  obtain ⟨gl,A2,c2,e2,g1,g2,g3⟩:=h0
  cases e2
  exact ⟨gl,_,_,rfl,g1,g2,fun hn=>by omega⟩
 ·exact h0
theorem zba {o:Oper} {a:Act} {w:World} {K:Act→World→Prop} {Q:Exit→Act→World→Prop} (s x:Operand)
  (ho:o.op=.call { callee:=.builtin .append,args:=#[s,x],argTypes:=#[22,22] })
  (W0:World) (hE0:Ext W0 w) (v:Value) (n:Nat) (xs:List Value) (hs:a.eval s=v) (hown:w.ownsRow W0.heap.size 51 2 v n xs)
  (vx:Value) (m:Nat) (ys:List Value) (gs:List Fil) (hx:a.eval x=vx) (hy:SlR w 2 vx m ys) (hyr:FRow W0 ys gs) (hlen:n+m≤4000000)
  (h:∀ A c w',w'.ownsRow W0.heap.size 51 2 (.slice A (n+m) c) (n+m) (xs++ys)→Ext W0 w'→w.grownBy w' v.ownBlock→K (a.put o.dst (.slice A (n+m) c)) w'):Oper.wp Tryz.prog o a w K Q:=by
 obtain ⟨i0,hi,hz0,hz1,hz2⟩:=info_parts zlF
 obtain ⟨v',w',hrun,h1,h2⟩:=zaT (P:=Tryz.prog) w W0.heap.size 22 o.type 51 i0 _ 2 40 Tryz.underlying22 hi hz0 hz1 hz2 rfl (by decide) v n xs hown vx m ys hy hyr.one (by unfold maxLen;omega) (by omega) hE0.size
 have hE:Ext W0 w':=Ext.grownOwn hE0 (zah hown (Nat.le_refl _)) h2
 unfold Oper.wp execOp
 simp only[ho,resolve,invoke,builtin,Sem.run_bind,Sem.run_pure,Result.andThen_ok,List.map_toArray,List.map_cons,List.map_nil,hs,hx,hrun]
 obtain ⟨A,c,rfl,_,_⟩:=SlR.open_ (SlR.of_own h1)
 exact h A c w' h1 hE h2
theorem zct {W0 W:World} {base:Nat} {v:Value} {n:Nat} {xs:List Value} {l:List Fil} (h:W.ownsRow base 51 2 v n xs) (hr:FRow W0 xs l) (hn:n=l.length) (hE:Ext W0 W):Fs W v l:=by
 subst hn
 exact ⟨xs,SlR.of_own h,(hr.ext hE).2⟩
def zg9 (l:List Fil) (at_:Int):List Fil:=if at_<0 then l else l.take at_.toNat++l.drop (at_.toNat+1)
theorem zfE (v:Value) (fs:List Fil) (k:Int) (w:World) (hF:Fs w v fs) (hl:fs.length≤1000000) (hk:-1≤k∧k<fs.length):Calls Tryz.prog 96 #[v,.int .i64 k] w fun e w'=>(∃ v',e=.returned v'∧Fs w' v' (zg9 fs k))∧Ext w w':=by
 obtain ⟨A,c,rfl,h1,h2⟩:=Fs.open_ hF
 obtain ⟨k0,k1⟩:=hk
 by_cases hneg:k<0
 ·have hu:zg9 fs k=fs:=by unfold zg9;rw[if_pos hneg]
  rw[hu]
  have HF:=zhd hF
  clear hF hu
  go_enter Tryz.func96,Tryz.ntmps96
  go_wp2
  go_ret
  exact ⟨⟨_,rfl,HF.out⟩,Ext.refl _⟩
 ·obtain ⟨i,rfl⟩:∃ i:Nat,k=(i:Int):=⟨k.toNat,by omega⟩
  have hu:zg9 fs (i:Int)=fs.take i++fs.drop (i+1):=by unfold zg9;rw[if_neg hneg];rfl
  rw[hu]
  obtain ⟨xs,hx1,hx2⟩:=hF
  have hlt:i<fs.length:=by omega
  have hrw:FRow w xs fs:=⟨hx1.1,hx2⟩
  obtain ⟨_,b,off,rfl,_⟩:=Fs.at_ (show Fs w (.slice A fs.length c) fs from ⟨xs,hx1,hx2⟩) (by omega)
  have hX:Ext w (w.alloc (.cells #[] 51)):=Ext.alloc (Ext.refl _) _
  have r1:=zhI hrw i (by omega)
  have r2:=zhH hrw (i+1) (by omega)
  have s1:=zhU hx1 i (by omega)
  have s2:=zfP hx1 (i+1) (by omega)
  have hw1:IntKind.i64.wrap ((i:Int)+1)=((i+1:Nat):Int):=by rw[IntKind.wrap_i64];omega
  have hic:i≤c:=by omega
  have hin:i+1≤fs.length:=by omega
  have hin2:0≤(i:Int)+1∧(i:Int)+1≤(fs.length:Int):=by omega
  have HX:=zhd hX
  have R1:=zhd r1
  have R2:=zhd r2
  have S1:=zhd s1
  have S2:=zhd s2
  clear hx1 hx2 hrw hX r1 r2 s1 s2 hu
  go_enter Tryz.func96,Tryz.ntmps96
  go_wp2_with fail
  refine wp_region_held_drew (S:=fun _=>True) (by kernel_rfl) trivial (fun _=>?_)
  refine tkN 1 rfl ?_
  refine tkN 2 rfl ?_
  refine tkN 3 rfl ?_
  refine tkN 5 rfl ?_
  refine tkN 6 rfl ?_
  refine tkN 7 rfl ?_
  refine tkN 8 rfl ?_
  refine ar1 0 rfl (fun K hK=>?_)
  go_simp
  refine shK hK _ _ trivial (fun _=>?_)
  refine ar1 4 rfl (fun K hK=>?_)
  refine zba (.tmp 8) (.tmp 11) rfl w (Ext.drew (Ext.alloc (Ext.refl _) _)) _ 0 [] rfl (zae (zfw w [] 0 rfl (by simp[maxLen]) (Nat.le_refl _)) (Ext.drew (Ext.refl _))) _ i _ _ rfl (S1.out.ext (Ext.drew (Ext.alloc (Ext.refl _) _))) R1.out (by omega) ?_
  intro A1 c1 w1 ho1 hE1 _
  refine shK hK _ _ trivial (fun _=>?_)
  refine ar1 9 rfl (fun K hK=>?_)
  refine zba (.tmp 12) (.tmp 16) rfl w hE1 _ (0+i) _ rfl ho1 _ (fs.length-(i+1)) _ _ rfl (S2.out.ext hE1) R2.out (by omega) ?_
  intro A2 c2 w2 ho2 hE2 _
  refine shK hK _ _ trivial (fun _=>?_)
  refine tkN 10 rfl ?_
  refine wpAnyH_done (by kernel_rfl) ?_ _
  have hfr:FRow w _ (fs.take i++fs.drop (i+1)):=FRow.append (FRow.append (zbR w) R1.out) R2.out
  simp only[Nat.zero_add] at ho2
  have hln:i+(fs.length-(i+1))=(fs.take i++fs.drop (i+1)).length:=by
   rw[List.length_append,List.length_take,List.length_drop,Nat.min_eq_left (by omega)]
  have HFI:=zhd (zct ho2 hfr hln hE2)
  have HE2:=zhd hE2
  clear hfr ho2 hln hE2
  go_wp2_with fail
  all_goals go_ret
  all_goals exact ⟨⟨_,rfl,HFI.out⟩,HE2.out⟩
end Go.Proofs.YtgonhdeochgkoaaGreatDoor
