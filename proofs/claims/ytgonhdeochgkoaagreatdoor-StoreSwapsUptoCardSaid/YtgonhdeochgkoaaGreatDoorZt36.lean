/- Merged: MKeep Swap -/
import Derived.Test.YtgonhdeochgkoaaGreatDoorZt34
import Derived.Test.YtgonhdeochgkoaaGreatDoorZt35
set_option linter.all false
set_option maxHeartbeats 8000000
set_option maxRecDepth 100000
namespace Go.Proofs.YtgonhdeochgkoaaGreatDoor
open Go.RowKit Go.Mv Go.Shelf
theorem mcMKeepa0 {P:Prop} (h:P:=by
 generalize sg[k]=s at *
 have X1:Ext wr (wr.alloc (.cells #[.int .i64 s.seq,.int .i64 s.fmt,.int .i64 s.first,.int .i64 s.count] 74)):=Ext.alloc (Ext.refl _) _
 have X2:Ext wr ((wr.alloc (.cells #[.int .i64 s.seq,.int .i64 s.fmt,.int .i64 s.first,.int .i64 s.count] 74)).alloc (.cells #[.int .u8 3,.int .i64 s.seq,.int .i64 s.fmt] 49)):=Ext.alloc X1 _
 have hn:=zfv (wr.alloc (.cells #[.int .i64 s.seq,.int .i64 s.fmt,.int .i64 s.first,.int .i64 s.count] 74)) (3,s.seq,s.fmt);rw[World.size_alloc] at hn;have HN:=zhd (SlR.of_own hn);have HO2:=zhd (zag HOk.out X2);have HX2:=zhd (Ext.trans HXk.out X2);have hbx:=Blk.new wr 74 #[.int .i64 s.seq,.int .i64 s.fmt,.int .i64 s.first,.int .i64 s.count];obtain ⟨x0,x1,x2,x3⟩:=zay hbx;clear X1 X2 hn hbx
 go_wp2_with (at_builtin;refine zea rfl (.tmp 29) (.tmp 35) rfl w.heap.size _ L rfl HO2.out _ (3,s.seq,s.fmt) rfl HN.out (by rw[HLN.out];omega) HX2.out.size ?_;intro A1 c1' w1 ho1 hg1)
 have HX3:=zhd (Ext.grownOwn HX2.out HO2.out hg1);have HO3:=zhd ho1;clear ho1 hg1 c0 c1 c2 c3 x0 x1 x2 x3;go_wp2_with fail
 go_roundw
 case rel=>exact ⟨k+1,by omega,by go_num,by rw[HTK.out];exact HO3,HX3⟩
 case measure=>simp[intOf];omega):P:=h
theorem zid (m:Mf) (v:Value) (w:World) (hS:Sgs w v m.segs) (hl:m.segs.length≤1000000) :
  Calls Tryz.prog 50 #[.agg #[.int .i64 m.next,.int .i64 m.term,.int .i64 m.vote,.int .i64 m.sq,.int .i64 m.sf,v]] w fun e w'=>∃ v',e=.returned v'∧zdr w' w.heap.size v' (zau m)∧Ext w w':=by
 obtain ⟨A,c,rfl,_,_⟩:=hS.open_;have HS:=zhd hS;clear hS;obtain ⟨nx,tm,vt,sq,sf,sg⟩:=m
 dsimp only at *
 have hb:=Blk.new w 30 #[.int .i64 nx,.int .i64 tm,.int .i64 vt,.int .i64 sq,.int .i64 sf,.slice A sg.length c]
 have hX:Ext w ((w.alloc (.cells #[.int .i64 nx,.int .i64 tm,.int .i64 vt,.int .i64 sq,.int .i64 sf,.slice A sg.length c] 30)).alloc (.cells #[.int .u8 1,.int .i64 0,.int .i64 0] 49)):=Ext.alloc (Ext.alloc (Ext.refl _) _) _
 have hbX:Blk ((w.alloc (.cells #[.int .i64 nx,.int .i64 tm,.int .i64 vt,.int .i64 sq,.int .i64 sf,.slice A sg.length c] 30)).alloc (.cells #[.int .u8 1,.int .i64 0,.int .i64 0] 49)) w.heap.size 30 #[.int .i64 nx,.int .i64 tm,.int .i64 vt,.int .i64 sq,.int .i64 sf,.slice A sg.length c]:=hb.alloc _
 have hoX:zdr ((w.alloc (.cells #[.int .i64 nx,.int .i64 tm,.int .i64 vt,.int .i64 sq,.int .i64 sf,.slice A sg.length c] 30)).alloc (.cells #[.int .u8 1,.int .i64 0,.int .i64 0] 49)) w.heap.size (.slice (some ⟨w.heap.size+1,0,none⟩) 1 1) [(1,0,0)]:=by
  have:=zfv (w.alloc (.cells #[.int .i64 nx,.int .i64 tm,.int .i64 vt,.int .i64 sq,.int .i64 sf,.slice A sg.length c] 30)) (1,0,0)
  rw[World.size_alloc] at this
  exact zaj this (Nat.le_succ _)
 obtain ⟨m0,m1,m2,m3,m4,m5⟩:=zap hbX;have HX:=zhd hX;have HB:=zhd hbX;have HO:=zhd hoX;obtain ⟨W1,hW1⟩:∃ W1,(w.alloc (.cells #[.int .i64 nx,.int .i64 tm,.int .i64 vt,.int .i64 sq,.int .i64 sf,.slice A sg.length c] 30)).alloc (.cells #[.int .u8 1,.int .i64 0,.int .i64 0] 49)=W1:=⟨_,rfl⟩;clear hb hX hbX hoX
 by_cases hq:sq=0
 ·subst hq
  have hk0:zau ⟨nx,tm,vt,0,sf,sg⟩=[(1,0,0)]++sg.map zaX:=by unfold zau zfc;rw[if_pos rfl]
  rw[hk0];clear hk0 hW1
  go_enter Tryz.func50,Tryz.ntmps50
  go_wp2_with fail;clear m0 m1 m2 m3 m4 m5
  go_loopw [3,25] (fun v3 v25 wr=>∃ k:Nat,k≤sg.length∧v25=.int .i64 k∧Hid (zdr wr w.heap.size v3 ([(1,0,0)]++(sg.take k).map zaX))∧Hid (Ext w wr)) (fun _ v25 _=>sg.length-(intOf v25).toNat)
  case atStart=>exact ⟨0,Nat.zero_le _,rfl,HO,HX⟩
  case round =>
   obtain ⟨k,hk,rfl,HOk,HXk⟩:=hrel;obtain ⟨Ao,co,rfl,_,_⟩:=SlR.open_ (SlR.of_own HOk.out)
   by_cases hlt:k<sg.length
   ·have hlen:([(1,0,0)]++(sg.take k).map zaX).length=k+1:=by simp;omega
    obtain ⟨_,bs,of,rfl,hcells⟩:=Sgs.at_ HS.out (by omega);obtain ⟨d0,d1,d2,d3⟩:=hcells k hlt;have c0:=HXk.out.cell d0;have c1:=HXk.out.cell d1;have c2:=HXk.out.cell d2;have c3:=HXk.out.cell d3
    have htk:[(1,0,0)]++(sg.take (k+1)).map zaX=([(1,0,0)]++(sg.take k).map zaX)++[zaX sg[k]]:=by rw[List.take_succ_eq_append_getElem hlt,List.map_append,List.append_assoc];rfl
    have HTK:=zhd htk;have HLN:=zhd hlen;clear hcells d0 d1 d2 d3 htk hlen
    generalize [(1,0,0)]++(sg.take k).map zaX=L at *
    exact mcMKeepa0
   ·obtain rfl:k=sg.length:=by omega
    have ek:[(1,0,0)]++(sg.take sg.length).map zaX=[(1,0,0)]++sg.map zaX:=by rw[List.take_length]
    have EK:=zhd ek;clear ek;go_wp2_with fail;go_ret
    refine ⟨_,rfl,?_,HXk.out⟩
    show zdr _ _ _ ([(1,0,0)]++sg.map zaX)
    rw[←EK.out]
    exact HOk.out
 ·have hk0:zau ⟨nx,tm,vt,sq,sf,sg⟩=[(1,0,0),(4,sq,sf)]++sg.map zaX:=by unfold zau zfc;rw[if_neg hq]
  rw[hk0];have hn:=zfv ((w.alloc (.cells #[.int .i64 nx,.int .i64 tm,.int .i64 vt,.int .i64 sq,.int .i64 sf,.slice A sg.length c] 30)).alloc (.cells #[.int .u8 1,.int .i64 0,.int .i64 0] 49)) (4,sq,sf)
  have X1:Ext ((w.alloc (.cells #[.int .i64 nx,.int .i64 tm,.int .i64 vt,.int .i64 sq,.int .i64 sf,.slice A sg.length c] 30)).alloc (.cells #[.int .u8 1,.int .i64 0,.int .i64 0] 49)) (((w.alloc (.cells #[.int .i64 nx,.int .i64 tm,.int .i64 vt,.int .i64 sq,.int .i64 sf,.slice A sg.length c] 30)).alloc (.cells #[.int .u8 1,.int .i64 0,.int .i64 0] 49)).alloc (.cells #[.int .u8 4,.int .i64 sq,.int .i64 sf] 49)):=Ext.alloc (Ext.refl _) _
  replace HX:=zhd (Ext.trans HX.out X1)
  replace HB:=zhd (HB.out.ext X1)
  replace HO:=zhd (zag HO.out X1)
  rw[World.size_alloc,World.size_alloc] at hn;have HN:=zhd (SlR.of_own hn);have Hq:=zhd hq;clear hk0 hn X1 hW1
  go_enter Tryz.func50,Tryz.ntmps50
  go_wp2_with (at_builtin;refine zea rfl (.tmp 12) (.tmp 20) rfl w.heap.size _ [(1,0,0)] rfl HO.out _ (4,sq,sf) rfl HN.out (by decide) HX.out.size ?_;intro A1 c1 w1 ho1 hg1;obtain ⟨q0,q1,q2,q3,q4,q5⟩:=zap (HB.out.kept hg1 (HB.out.not_row (by decide) HO.out)))
  replace HX:=zhd (Ext.grownOwn HX.out HO.out hg1)
  replace HO:=zhd ho1
  clear m0 m1 m2 m3 m4 m5 q0 q1 q2 q3 q4 q5 ho1 hg1 HN HB
  go_loopw [3,25] (fun v3 v25 wr=>∃ k:Nat,k≤sg.length∧v25=.int .i64 k∧Hid (zdr wr w.heap.size v3 ([(1,0,0),(4,sq,sf)]++(sg.take k).map zaX))∧Hid (Ext w wr)) (fun _ v25 _=>sg.length-(intOf v25).toNat)
  case atStart=>exact ⟨0,Nat.zero_le _,rfl,HO,HX⟩
  case round =>
   obtain ⟨k,hk,rfl,HOk,HXk⟩:=hrel;obtain ⟨Ao,co,rfl,_,_⟩:=SlR.open_ (SlR.of_own HOk.out)
   by_cases hlt:k<sg.length
   ·have hlen:([(1,0,0),(4,sq,sf)]++(sg.take k).map zaX).length=k+2:=by simp;omega
    obtain ⟨_,bs,of,rfl,hcells⟩:=Sgs.at_ HS.out (by omega);obtain ⟨d0,d1,d2,d3⟩:=hcells k hlt;have c0:=HXk.out.cell d0;have c1:=HXk.out.cell d1;have c2:=HXk.out.cell d2;have c3:=HXk.out.cell d3
    have htk:[(1,0,0),(4,sq,sf)]++(sg.take (k+1)).map zaX=([(1,0,0),(4,sq,sf)]++(sg.take k).map zaX)++[zaX sg[k]]:=by rw[List.take_succ_eq_append_getElem hlt,List.map_append,List.append_assoc];rfl
    have HTK:=zhd htk;have HLN:=zhd hlen;clear hcells d0 d1 d2 d3 htk hlen
    generalize [(1,0,0),(4,sq,sf)]++(sg.take k).map zaX=L at *
    exact mcMKeepa0
   ·obtain rfl:k=sg.length:=by omega
    have ek:[(1,0,0),(4,sq,sf)]++(sg.take sg.length).map zaX=[(1,0,0),(4,sq,sf)]++sg.map zaX:=by rw[List.take_length]
    have EK:=zhd ek;clear ek;go_wp2_with fail;go_ret
    refine ⟨_,rfl,?_,HXk.out⟩
    show zdr _ _ _ ([(1,0,0),(4,sq,sf)]++sg.map zaX)
    rw[←EK.out]
    exact HOk.out
theorem mcSwapa0 {P:Prop} (h:P:=by
 refine ar1 3 rfl (fun K hK=>?_)
 go_simp
 have hdr:=zeo _ r.1 (n+2+b.length+1) _ (zau m) w9 (HSW.out.ext (Ext.trans HX8.out E9)) (show DkV w9 (.agg #[.slice A4 r.1.fs.length c4,.slice B4 r.1.q.length e4,.int .i64 r.1.quota,.int .i64 r.1.fuse,.bool r.1.dead]) r.1 from ⟨_,_,rfl,(OwnF.fs HF8.out).ext E9,(OwnQ.qs HQ8.out).ext E9⟩) (HZR.out.mono (by simp[zaT,zaZ])) (SlR.of_own hko) HKM.out (by have:=HBL.out;have:=HN.out;omega)
 rw[HSS5.out] at hdr
 refine hdr.mono ?_
 rintro e w10 ⟨u,rfl,⟨A6,c6,B6,e6,rfl,of,oq⟩,hE10⟩;have E10:=Ext.trans E9 hE10
 refine shK hK _ _ trivial (fun _=>?_)
 refine tkN 4 rfl ?_;refine tkN 5 rfl ?_
 have hb10:Blk w10 (w.heap.size+1+1) 25 (zaE A4 r.1.fs.length c4 B4 r.1.q.length e4 r.1.quota r.1.fuse r.1.dead):=HB8.out.ext E10
 obtain ⟨f0,f1,f2,f3,f4⟩:=zby hb10;obtain ⟨d0,d1,d2,d3,d4⟩:=zac hb10;have hz9:=(Ext.trans HX8.out E9).size;have HB10:=zhd hb10;have HOF:=zhd of;have HOQ:=zhd oq;have HX10:=zhd (Ext.trans HX8.out E10);have HZ9:=zhd hz9;clear hb10 of oq hz9 E9 E10 hE9 hE10 hdr hko
 refine ar1 6 rfl (fun K hK=>?_)
 go_simp
 refine shK hK _ _ trivial (fun _=>?_)
 refine tkN 7 rfl ?_;refine wpAnyH_done (by kernel_rfl) ?_ _;go_wp2_with fail
 refine bodyPost_ret (ze4 _ _ _ _ (.int .i64 S.2) rfl rfl (zaS HB10.out (.slice A6 S.1.fs.length c6) (.slice B6 S.1.q.length e6) (.int .i64 S.1.quota) (.int .i64 S.1.fuse) (.bool S.1.dead)) rfl) rfl ?_
 have of6:=OwnF.box1 (A':=A6) (n':=S.1.fs.length) (c':=c6) (B':=B6) (m':=S.1.q.length) (e':=e6) (q':=S.1.quota) (f':=S.1.fuse) (d':=S.1.dead) (OwnX.base HOF.out HZ9.out) HB10.out;have oq6:=OwnQ.box1 (A':=A6) (n':=S.1.fs.length) (c':=c6) (B':=B6) (m':=S.1.q.length) (e':=e6) (q':=S.1.quota) (f':=S.1.fuse) (d':=S.1.dead) (OwnX.base HOQ.out HZ9.out) HB10.out;have oe6:=zaL HX10.out (by omega:w.heap.size≤w.heap.size+1+1) (.slice A6 S.1.fs.length c6) (.slice B6 S.1.q.length e6) (.int .i64 S.1.quota) (.int .i64 S.1.fuse) (.bool S.1.dead)
 exact zgc of6 oq6 oe6):P:=h
theorem Sz.does:∀ (q:List Oq) {n:Nat} {d:Dk} (sync:Bool),Sz n d→Sz (n+q.length+zaT q) (zaF sync d q).1
 | [],n,d,sync,h=>by
  rw[zaF]
  split
  ·exact h.sync.mono (by omega)
  ·exact h.mono (by omega)
 | o::q,n,d,sync,h=>by
  rw[zaF,zb9,List.length_cons]
  split
  ·exact (Sz.does q sync (h.doS o)).mono (by omega)
  ·exact (h.doS o).mono (by omega)
def zb5 (d:Dk) (m:Mf):Dk×Int:=match zbm m with | none=>(d,2) | some b=>zck d b (zaf (zau m))
theorem ze4 (tmps:Array Value) (W:World) (b:Nat) (cs:Array Value) (e:Value) (h4:tmps.getD 4 undef=.pointer (some ⟨b,0,none⟩)) (h3:tmps.getD 5 undef=e) (hb:Blk W b 25 cs) (hs:cs.size=5):(results Tryz.f12 tmps).run Tryz.prog W=.ok (.tuple #[.agg cs,e]) W:=by
 have h4':tmps[4]?.getD undef=.pointer (some ⟨b,0,none⟩):=by simpa using h4
 have h3':tmps[5]?.getD undef=e:=by simpa using h3
 have hl:=hb.load (P:=Tryz.prog) ziq rfl (by rw[hs];kernel_rfl)
 simp[results,Tryz.results12,h4',h3',asAddr,hl,Sem.run_bind,Sem.run_pure,Result.andThen_ok]
def zms (w:World) (r:Dk×Int) (e:Ending) (w':World):Prop:=∃ u,e=.returned (.tuple #[u,.int .i64 r.2])∧zjG w' w.heap.size u r.1∧Ext w w'
theorem zgc {w W:World} {r:Dk×Int} {A B:Option Addr} {c e:Nat} (hA:OwnF W w.heap.size (.slice A r.1.fs.length c) r.1.fs) (hB:OwnQ W w.heap.size (.slice B r.1.q.length e) r.1.q) (hE:Ext w W):zms w r (.returned (.tuple #[.agg (zaE A r.1.fs.length c B r.1.q.length e r.1.quota r.1.fuse r.1.dead),.int .i64 r.2])) W:=⟨_,rfl,⟨A,c,B,e,rfl,hA,hB⟩,hE⟩
theorem zih (v:Value) (d:Dk) (n:Nat) (m:Mf) (vs:Value) (w:World) (hS:StW w) (hD:DkV w v d) (hs:Sz n d) (hn:n≤100000) (hG:Sgs w vs m.segs) (hlm:m.segs.length≤1000000) (hkm:(zau m).length≤1000000) (hpl:∀ b,zbm m=some b→b.length≤100000) :
  Calls Tryz.prog 12 #[v,.agg #[.int .i64 m.next,.int .i64 m.term,.int .i64 m.vote,.int .i64 m.sq,.int .i64 m.sf,vs]] w (zms w (zb5 d m)):=by
 obtain ⟨vf,vq,rfl,hF,hQ⟩:=hD;obtain ⟨A,c,rfl,_,_⟩:=Fs.open_ hF;obtain ⟨B,e2,rfl,_,_⟩:=Qs.open_ hQ;obtain ⟨C,c2,rfl,_,_⟩:=hG.open_;obtain ⟨W0,hW0⟩:∃ W0,((w.alloc (.cells #[.slice A d.fs.length c,.slice B d.q.length e2,.int .i64 d.quota,.int .i64 d.fuse,.bool d.dead] 25)).alloc (.cells #[.int .i64 m.next,.int .i64 m.term,.int .i64 m.vote,.int .i64 m.sq,.int .i64 m.sf,.slice C m.segs.length c2] 30)).alloc (.cells #[.slice none 0 0,.slice none 0 0,.int .i64 0,.int .i64 0,.bool false] 25)=W0:=⟨_,rfl⟩
 have hE0:Ext w W0:=by rw[←hW0];exact Ext.alloc (Ext.alloc (Ext.alloc (Ext.refl _) _) _) _
 have h0:Blk W0 w.heap.size 25 (zaE A d.fs.length c B d.q.length e2 d.quota d.fuse d.dead):=by rw[←hW0];exact ((Blk.new w _ _).alloc _).alloc _
 have h1:Blk W0 (w.heap.size+1) 30 #[.int .i64 m.next,.int .i64 m.term,.int .i64 m.vote,.int .i64 m.sq,.int .i64 m.sf,.slice C m.segs.length c2]:=by
  rw[←hW0]
  have:=(Blk.new (w.alloc (.cells #[.slice A d.fs.length c,.slice B d.q.length e2,.int .i64 d.quota,.int .i64 d.fuse,.bool d.dead] 25)) 30 #[.int .i64 m.next,.int .i64 m.term,.int .i64 m.vote,.int .i64 m.sq,.int .i64 m.sf,.slice C m.segs.length c2]).alloc (.cells #[.slice none 0 0,.slice none 0 0,.int .i64 0,.int .i64 0,.bool false] 25)
  rwa [World.size_alloc] at this
 have h2:Blk W0 (w.heap.size+1+1) 25 (zaE none 0 0 none 0 0 0 0 false):=by
  rw[←hW0]
  have:=Blk.new ((w.alloc (.cells #[.slice A d.fs.length c,.slice B d.q.length e2,.int .i64 d.quota,.int .i64 d.fuse,.bool d.dead] 25)).alloc (.cells #[.int .i64 m.next,.int .i64 m.term,.int .i64 m.vote,.int .i64 m.sq,.int .i64 m.sf,.slice C m.segs.length c2] 30)) 25 #[.slice none 0 0,.slice none 0 0,.int .i64 0,.int .i64 0,.bool false]
  rwa [World.size_alloc,World.size_alloc] at this
 have HE0:=zhd hE0;have H0:=zhd h0;have H1:=zhd h1;have H2:=zhd h2;have HSW:=zhd hS;have HGW:=zhd hG;have HS:=zhd (hS.ext hE0);have HF:=zhd (hF.ext hE0);have HQ:=zhd (hQ.ext hE0);have HG:=zhd (hG.ext hE0);have HP:=zhd (zjF m _ W0 (hG.ext hE0) (hS.ext hE0));have HZ:=zhd hs;have HN:=zhd hn;have HLM:=zhd hlm;have HKM:=zhd hkm;have HPL:=zhd hpl;obtain ⟨q0,q1,q2,q3,q4,q5⟩:=zap h1;clear h0 h1 h2 hF hQ hG hE0 hs hS hn hlm hkm hpl;obtain ⟨S,hS⟩:∃ S,zb5 d m=S:=⟨_,rfl⟩;rw[hS];unfold zb5 at hS;obtain ⟨rb,hrb⟩:∃ r,zbm m=r:=⟨_,rfl⟩;rw[hrb] at HP hS;have HSS:=zhd hS;have HRB:=zhd hrb;clear hS hrb
 go_enter Tryz.func12,Tryz.ntmps12
 go_wp2_with fail
 refine HP.out.mono ?_
 rintro e w1 ⟨⟨vb,rfl,hob⟩,hE1⟩;have HE1:=zhd hE1;have HOB:=zhd hob;clear q0 q1 q2 q3 q4 q5 hE1 hW0;obtain ⟨g0,g1,g2,g3,g4⟩:=zac (H0.out.ext HE1.out)
 cases rb with
 | none =>
  have HS2:=HSS.out;dsimp only at HS2;subst HS2;simp only[Option.isSome_none,Bool.false_eq_true,if_false];obtain ⟨Ab,cb,rfl,_,_⟩:=SlR.open_ (SlR.of_own hob);clear hob;go_wp2_with fail;clear g0 g1 g2 g3 g4
  refine (zie _ d n w1 (show DkV w1 _ d from ⟨_,_,rfl,HF.out.ext HE1.out,HQ.out.ext HE1.out⟩) (by have:=HN.out;omega) HZ.out).mono ?_
  rintro e w2 ⟨u,rfl,⟨A3,c3,B3,e3,rfl,of,oq⟩,hE2⟩;have hb2:=H2.out.ext (Ext.trans HE1.out hE2);have hX:=Ext.trans HE0.out (Ext.trans HE1.out hE2);have hX1:=Ext.trans HE0.out HE1.out;obtain ⟨f0,f1,f2,f3,f4⟩:=zby hb2;obtain ⟨d0,d1,d2,d3,d4⟩:=zac hb2;have Q1:=zhd hb2;have Q2:=zhd of;have Q3:=zhd oq;have Q4:=zhd hX;have Q5:=zhd hX1.size;clear hb2 of oq hX hX1 hE2;go_wp2_with fail
  refine bodyPost_ret (ze4 _ _ _ _ (.int .i64 2) rfl rfl (zaS Q1.out _ _ _ _ _) rfl) rfl ?_
  exact ⟨_,rfl,⟨_,_,_,_,rfl,OwnF.box1 (OwnX.base Q2.out.f Q5.out) Q1.out,OwnQ.box1 (OwnX.base Q3.out Q5.out) Q1.out⟩,zaL Q4.out (by omega) _ _ _ _ _⟩
 | some b =>
  have HSS:Hid (zck d b (zaf (zau m))=S):=HSS
  simp only[Option.isSome_some,if_true];have hbl:=HPL.out b HRB.out;have HBL:=zhd hbl
  have HOB:Hid (OwnB w1 W0.heap.size vb b):=HOB
  obtain ⟨Ab,cb,rfl,_,_⟩:=SlR.open_ (SlR.of_own HOB.out);have HN1:=zhd (zeM 2 0 0 w1 (HS.out.ext HE1.out));clear hob hbl;go_wp2_with fail
  refine HN1.out.mono ?_
  rintro e w2 ⟨rfl,hE2⟩;have HE2:=zhd (Ext.trans HE1.out hE2);have HB2:=zhd (SlR.ext (SlR.of_own HOB.out) hE2);have HN2:=zhd (zeM 1 0 0 w2 (HS.out.ext HE2.out));clear hE2 HN1 g0 g1 g2 g3 g4;go_wp2_with fail
  refine HN2.out.mono ?_
  rintro e w3 ⟨rfl,hE3⟩;have HE3:=zhd (Ext.trans HE2.out hE3)
  have HB3:Hid (Bs w3 (.slice Ab b.length cb) b):=zhd (SlR.ext HB2.out hE3)
  clear hE3 HN2 HB2;obtain ⟨g0,g1,g2,g3,g4⟩:=zac (H0.out.ext HE3.out)
  rw[show zak 2 0 0=some zbd from by decide,show zak 1 0 0=some zcg from by decide]
  simp only[Option.getD_some,Option.isSome_some,if_true,sv];go_wp2_with fail;clear g0 g1 g2 g3 g4
  have hput:=zmF _ d n 2 0 0 _ b w3 (HS.out.ext HE3.out) (show DkV w3 (.agg #[.slice A d.fs.length c,.slice B d.q.length e2,.int .i64 d.quota,.int .i64 d.fuse,.bool d.dead]) d from ⟨_,_,rfl,HF.out.ext HE3.out,HQ.out.ext HE3.out⟩) HZ.out HB3.out (by have:=HBL.out;have:=HN.out;omega)
  rw[show zbL d (zak 2 0 0) b=zdL d zbd b from by rw[show zak 2 0 0=some zbd from by decide];rfl] at hput
  have hzp:Sz (n+2+b.length) (zdL d zbd b).1:=(HZ.out.does [za3 zbd,za6 zbd b] true).mono (by simp[zaT,za3,za6])
  have hss:=HSS.out;unfold zck at hss;obtain ⟨p,hp⟩:∃ p,zdL d zbd b=p:=⟨_,rfl⟩;rw[hp] at hput hzp hss
  refine hput.mono ?_
  rintro e w4 ⟨u,rfl,⟨A3,c3,B3,e3,rfl,of,oq⟩,hE4⟩;have E4:=Ext.trans HE3.out hE4;have hb4:=H2.out.ext E4
  have hb5:=zaS (show Blk w4 (w.heap.size+1+1) 25 #[.slice none 0 0,.slice none 0 0,.int .i64 0,.int .i64 0,.bool false] from hb4) (.slice A3 p.1.fs.length c3) (.slice B3 p.1.q.length e3) (.int .i64 p.1.quota) (.int .i64 p.1.fuse) (.bool p.1.dead)
  have hX4:=Ext.trans HE0.out E4;obtain ⟨f0,f1,f2,f3,f4⟩:=zby hb4;obtain ⟨d0,d1,d2,d3,d4⟩:=zac hb4;have HX3:=zhd (Ext.trans HE0.out HE3.out).size;have HB4:=zhd hb4;have HB5:=zhd hb5;have HOF:=zhd of;have HOQ:=zhd oq;have HE4:=zhd E4;have HX4:=zhd hX4;have HZP:=zhd hzp;have HSS2:=zhd hss;clear hput hzp hss hp hb4 hb5 hX4 of oq hE4 E4 HSS
  by_cases hp2:p.2=0
  case neg =>
   have hpb:(p.2 != 0)=true:=by simpa using hp2
   obtain rfl:p=S:=by have h:=HSS2.out;rwa [if_pos hp2] at h
   clear hp2;go_wp2_with fail
   refine bodyPost_ret (ze4 _ _ _ _ (.int .i64 p.2) rfl rfl (zaS HB5.out (.slice A3 p.1.fs.length c3) (.slice B3 p.1.q.length e3) (.int .i64 p.1.quota) (.int .i64 p.1.fuse) (.bool p.1.dead)) rfl) rfl ?_
   have of5:=OwnF.box1 (A':=A3) (n':=p.1.fs.length) (c':=c3) (B':=B3) (m':=p.1.q.length) (e':=e3) (q':=p.1.quota) (f':=p.1.fuse) (d':=p.1.dead) HOF.out HB4.out;have oq5:=OwnQ.box1 (A':=A3) (n':=p.1.fs.length) (c':=c3) (B':=B3) (m':=p.1.q.length) (e':=e3) (q':=p.1.quota) (f':=p.1.fuse) (d':=p.1.dead) HOQ.out HB4.out;have of6:=OwnF.box1 (A':=A3) (n':=p.1.fs.length) (c':=c3) (B':=B3) (m':=p.1.q.length) (e':=e3) (q':=p.1.quota) (f':=p.1.fuse) (d':=p.1.dead) (OwnX.base of5 HX3.out) HB5.out;have oq6:=OwnQ.box1 (A':=A3) (n':=p.1.fs.length) (c':=c3) (B':=B3) (m':=p.1.q.length) (e':=e3) (q':=p.1.quota) (f':=p.1.fuse) (d':=p.1.dead) (OwnX.base oq5 HX3.out) HB5.out;have oe6:=zaL (zaL HX4.out (by omega:w.heap.size≤w.heap.size+1+1) (.slice A3 p.1.fs.length c3) (.slice B3 p.1.q.length e3) (.int .i64 p.1.quota) (.int .i64 p.1.fuse) (.bool p.1.dead)) (by omega:w.heap.size≤w.heap.size+1+1) (.slice A3 p.1.fs.length c3) (.slice B3 p.1.q.length e3) (.int .i64 p.1.quota) (.int .i64 p.1.fuse) (.bool p.1.dead)
   exact zgc of6 oq6 oe6
  have hpb:(p.2 != 0)=false:=by simpa using hp2
  have hss:=HSS2.out;rw[if_neg (by simpa using hp2)] at hss;have HSS3:=zhd hss;clear hss hp2 HSS2;go_wp2_with fail
  have HB5':Hid (Blk (((((w4.setCell ⟨w.heap.size+1+1,0,none⟩ (.slice A3 p.1.fs.length c3)).setCell ⟨w.heap.size+1+1,1,none⟩ (.slice B3 p.1.q.length e3)).setCell ⟨w.heap.size+1+1,2,none⟩ (.int .i64 p.1.quota)).setCell ⟨w.heap.size+1+1,3,none⟩ (.int .i64 p.1.fuse)).setCell ⟨w.heap.size+1+1,4,none⟩ (.bool p.1.dead)) (w.heap.size+1+1) 25 (zaE A3 p.1.fs.length c3 B3 p.1.q.length e3 p.1.quota p.1.fuse p.1.dead)):=HB5
  have HF5:Hid (OwnF (((((w4.setCell ⟨w.heap.size+1+1,0,none⟩ (.slice A3 p.1.fs.length c3)).setCell ⟨w.heap.size+1+1,1,none⟩ (.slice B3 p.1.q.length e3)).setCell ⟨w.heap.size+1+1,2,none⟩ (.int .i64 p.1.quota)).setCell ⟨w.heap.size+1+1,3,none⟩ (.int .i64 p.1.fuse)).setCell ⟨w.heap.size+1+1,4,none⟩ (.bool p.1.dead)) w3.heap.size (.slice A3 p.1.fs.length c3) p.1.fs):=zhd (OwnF.box1 (A':=A3) (n':=p.1.fs.length) (c':=c3) (B':=B3) (m':=p.1.q.length) (e':=e3) (q':=p.1.quota) (f':=p.1.fuse) (d':=p.1.dead) HOF.out HB4.out)
  have HQ5:Hid (OwnQ (((((w4.setCell ⟨w.heap.size+1+1,0,none⟩ (.slice A3 p.1.fs.length c3)).setCell ⟨w.heap.size+1+1,1,none⟩ (.slice B3 p.1.q.length e3)).setCell ⟨w.heap.size+1+1,2,none⟩ (.int .i64 p.1.quota)).setCell ⟨w.heap.size+1+1,3,none⟩ (.int .i64 p.1.fuse)).setCell ⟨w.heap.size+1+1,4,none⟩ (.bool p.1.dead)) w3.heap.size (.slice B3 p.1.q.length e3) p.1.q):=zhd (OwnQ.box1 (A':=A3) (n':=p.1.fs.length) (c':=c3) (B':=B3) (m':=p.1.q.length) (e':=e3) (q':=p.1.quota) (f':=p.1.fuse) (d':=p.1.dead) HOQ.out HB4.out)
  have HX5:Hid (Ext w (((((w4.setCell ⟨w.heap.size+1+1,0,none⟩ (.slice A3 p.1.fs.length c3)).setCell ⟨w.heap.size+1+1,1,none⟩ (.slice B3 p.1.q.length e3)).setCell ⟨w.heap.size+1+1,2,none⟩ (.int .i64 p.1.quota)).setCell ⟨w.heap.size+1+1,3,none⟩ (.int .i64 p.1.fuse)).setCell ⟨w.heap.size+1+1,4,none⟩ (.bool p.1.dead))):=zhd (zaL HX4.out (by omega:w.heap.size≤w.heap.size+1+1) (.slice A3 p.1.fs.length c3) (.slice B3 p.1.q.length e3) (.int .i64 p.1.quota) (.int .i64 p.1.fuse) (.bool p.1.dead))
  have HM5:Hid (Blk (((((w4.setCell ⟨w.heap.size+1+1,0,none⟩ (.slice A3 p.1.fs.length c3)).setCell ⟨w.heap.size+1+1,1,none⟩ (.slice B3 p.1.q.length e3)).setCell ⟨w.heap.size+1+1,2,none⟩ (.int .i64 p.1.quota)).setCell ⟨w.heap.size+1+1,3,none⟩ (.int .i64 p.1.fuse)).setCell ⟨w.heap.size+1+1,4,none⟩ (.bool p.1.dead)) (w.heap.size+1) 30 #[.int .i64 m.next,.int .i64 m.term,.int .i64 m.vote,.int .i64 m.sq,.int .i64 m.sf,.slice C m.segs.length c2]):=zhd (zeP (H1.out.ext HE4.out) (by omega:w.heap.size+1≠w.heap.size+1+1) (.slice A3 p.1.fs.length c3) (.slice B3 p.1.q.length e3) (.int .i64 p.1.quota) (.int .i64 p.1.fuse) (.bool p.1.dead))
  have hz5:(((((w4.setCell ⟨w.heap.size+1+1,0,none⟩ (.slice A3 p.1.fs.length c3)).setCell ⟨w.heap.size+1+1,1,none⟩ (.slice B3 p.1.q.length e3)).setCell ⟨w.heap.size+1+1,2,none⟩ (.int .i64 p.1.quota)).setCell ⟨w.heap.size+1+1,3,none⟩ (.int .i64 p.1.fuse)).setCell ⟨w.heap.size+1+1,4,none⟩ (.bool p.1.dead)).heap.size=w4.heap.size:=by simp only[World.size_setCell]
  clear HB5 HB4 HOF HOQ HX4 HE4 f0 f1 f2 f3 f4 d0 d1 d2 d3 d4
  generalize (((((w4.setCell ⟨w.heap.size+1+1,0,none⟩ (.slice A3 p.1.fs.length c3)).setCell ⟨w.heap.size+1+1,1,none⟩ (.slice B3 p.1.q.length e3)).setCell ⟨w.heap.size+1+1,2,none⟩ (.int .i64 p.1.quota)).setCell ⟨w.heap.size+1+1,3,none⟩ (.int .i64 p.1.fuse)).setCell ⟨w.heap.size+1+1,4,none⟩ (.bool p.1.dead))=w5 at *
  have HX6:Hid (Ext w5 (w5.alloc (.cells #[.int .u8 3,sv zbd,sv zcg,.slice none 0 0] 86))):=zhd (Ext.alloc (Ext.refl _) _)
  have hqs:Qs (w5.alloc (.cells #[.int .u8 3,sv zbd,sv zcg,.slice none 0 0] 86)) (.slice (some ⟨w4.heap.size,0,none⟩) 1 1) [zaZ zbd zcg] :=
   ⟨[.int .u8 3,sv zbd,sv zcg,.slice none 0 0],zpj w5 _ 86 4 1 rfl (by omega) hz5,zf9 (o:=zaZ zbd zcg) (SlR.nil _ 1)⟩
  have hC:=zif _ p.1 (n+2+b.length) true _ [zaZ zbd zcg] _ (show DkV (w5.alloc (.cells #[.int .u8 3,sv zbd,sv zcg,.slice none 0 0] 86)) (.agg #[.slice A3 p.1.fs.length c3,.slice B3 p.1.q.length e3,.int .i64 p.1.quota,.int .i64 p.1.fuse,.bool p.1.dead]) p.1 from ⟨_,_,rfl,(OwnF.fs HF5.out).ext HX6.out,(OwnQ.qs HQ5.out).ext HX6.out⟩) HZP.out hqs (by have:=HBL.out;have:=HN.out;simp[zaT,zaZ];omega)
  have hzr:=HZP.out.does [zaZ zbd zcg] true;have hss:=HSS3.out;obtain ⟨r,hr⟩:∃ r,zaF true p.1 [zaZ zbd zcg]=r:=⟨_,rfl⟩;rw[hr] at hC hzr hss
  refine hC.mono ?_
  rintro e w7 ⟨u,rfl,⟨A4,c4,B4,e4,rfl,of,oq⟩,hE7⟩;have E7:=Ext.trans HX6.out hE7;have hb7:=HB5'.out.ext E7
  have hb8:=zaS (show Blk w7 (w.heap.size+1+1) 25 #[.slice A3 p.1.fs.length c3,.slice B3 p.1.q.length e3,.int .i64 p.1.quota,.int .i64 p.1.fuse,.bool p.1.dead] from hb7) (.slice A4 r.1.fs.length c4) (.slice B4 r.1.q.length e4) (.int .i64 r.1.quota) (.int .i64 r.1.fuse) (.bool r.1.dead)
  have hX7:=Ext.trans HX5.out E7;obtain ⟨f0,f1,f2,f3,f4⟩:=zby hb7;obtain ⟨d0,d1,d2,d3,d4⟩:=zac hb7;have HX6s:=zhd (Ext.trans HX5.out HX6.out).size;have HB7:=zhd hb7;have HB8:=zhd hb8;have HOF:=zhd of;have HOQ:=zhd oq;have HM7:=zhd (HM5.out.ext E7);have HX7:=zhd hX7;have HZR:=zhd hzr;have HSS4:=zhd hss;clear hC hzr hss hr hb7 hb8 hX7 of oq hE7 E7 hqs HSS3 hz5
  by_cases hr2:r.2=0
  case neg =>
   have hrb:(r.2 != 0)=true:=by simpa using hr2
   obtain rfl:r=S:=by have h:=HSS4.out;rwa [if_pos hr2] at h
   clear hr2;go_wp2_with fail
   refine bodyPost_ret (ze4 _ _ _ _ (.int .i64 r.2) rfl rfl (zaS HB8.out (.slice A4 r.1.fs.length c4) (.slice B4 r.1.q.length e4) (.int .i64 r.1.quota) (.int .i64 r.1.fuse) (.bool r.1.dead)) rfl) rfl ?_
   have of5:=OwnF.box1 (A':=A4) (n':=r.1.fs.length) (c':=c4) (B':=B4) (m':=r.1.q.length) (e':=e4) (q':=r.1.quota) (f':=r.1.fuse) (d':=r.1.dead) HOF.out HB7.out;have oq5:=OwnQ.box1 (A':=A4) (n':=r.1.fs.length) (c':=c4) (B':=B4) (m':=r.1.q.length) (e':=e4) (q':=r.1.quota) (f':=r.1.fuse) (d':=r.1.dead) HOQ.out HB7.out;have of6:=OwnF.box1 (A':=A4) (n':=r.1.fs.length) (c':=c4) (B':=B4) (m':=r.1.q.length) (e':=e4) (q':=r.1.quota) (f':=r.1.fuse) (d':=r.1.dead) (OwnX.base of5 HX6s.out) HB8.out;have oq6:=OwnQ.box1 (A':=A4) (n':=r.1.fs.length) (c':=c4) (B':=B4) (m':=r.1.q.length) (e':=e4) (q':=r.1.quota) (f':=r.1.fuse) (d':=r.1.dead) (OwnX.base oq5 HX6s.out) HB8.out;have oe6:=zaL (zaL HX7.out (by omega:w.heap.size≤w.heap.size+1+1) (.slice A4 r.1.fs.length c4) (.slice B4 r.1.q.length e4) (.int .i64 r.1.quota) (.int .i64 r.1.fuse) (.bool r.1.dead)) (by omega:w.heap.size≤w.heap.size+1+1) (.slice A4 r.1.fs.length c4) (.slice B4 r.1.q.length e4) (.int .i64 r.1.quota) (.int .i64 r.1.fuse) (.bool r.1.dead)
   exact zgc of6 oq6 oe6
  have hrb:(r.2 != 0)=false:=by simpa using hr2
  have hss:=HSS4.out;rw[if_neg (by simpa using hr2)] at hss;have HSS5:=zhd hss;clear hss hr2 HSS4;go_wp2_with fail
  have HF8:Hid (OwnF (((((w7.setCell ⟨w.heap.size+1+1,0,none⟩ (.slice A4 r.1.fs.length c4)).setCell ⟨w.heap.size+1+1,1,none⟩ (.slice B4 r.1.q.length e4)).setCell ⟨w.heap.size+1+1,2,none⟩ (.int .i64 r.1.quota)).setCell ⟨w.heap.size+1+1,3,none⟩ (.int .i64 r.1.fuse)).setCell ⟨w.heap.size+1+1,4,none⟩ (.bool r.1.dead)) _ (.slice A4 r.1.fs.length c4) r.1.fs):=zhd (OwnF.box1 (A':=A4) (n':=r.1.fs.length) (c':=c4) (B':=B4) (m':=r.1.q.length) (e':=e4) (q':=r.1.quota) (f':=r.1.fuse) (d':=r.1.dead) HOF.out HB7.out)
  have HQ8:Hid (OwnQ (((((w7.setCell ⟨w.heap.size+1+1,0,none⟩ (.slice A4 r.1.fs.length c4)).setCell ⟨w.heap.size+1+1,1,none⟩ (.slice B4 r.1.q.length e4)).setCell ⟨w.heap.size+1+1,2,none⟩ (.int .i64 r.1.quota)).setCell ⟨w.heap.size+1+1,3,none⟩ (.int .i64 r.1.fuse)).setCell ⟨w.heap.size+1+1,4,none⟩ (.bool r.1.dead)) _ (.slice B4 r.1.q.length e4) r.1.q):=zhd (OwnQ.box1 (A':=A4) (n':=r.1.fs.length) (c':=c4) (B':=B4) (m':=r.1.q.length) (e':=e4) (q':=r.1.quota) (f':=r.1.fuse) (d':=r.1.dead) HOQ.out HB7.out)
  have HX8:Hid (Ext w (((((w7.setCell ⟨w.heap.size+1+1,0,none⟩ (.slice A4 r.1.fs.length c4)).setCell ⟨w.heap.size+1+1,1,none⟩ (.slice B4 r.1.q.length e4)).setCell ⟨w.heap.size+1+1,2,none⟩ (.int .i64 r.1.quota)).setCell ⟨w.heap.size+1+1,3,none⟩ (.int .i64 r.1.fuse)).setCell ⟨w.heap.size+1+1,4,none⟩ (.bool r.1.dead))):=zhd (zaL HX7.out (by omega:w.heap.size≤w.heap.size+1+1) (.slice A4 r.1.fs.length c4) (.slice B4 r.1.q.length e4) (.int .i64 r.1.quota) (.int .i64 r.1.fuse) (.bool r.1.dead))
  have HM8:Hid (Blk (((((w7.setCell ⟨w.heap.size+1+1,0,none⟩ (.slice A4 r.1.fs.length c4)).setCell ⟨w.heap.size+1+1,1,none⟩ (.slice B4 r.1.q.length e4)).setCell ⟨w.heap.size+1+1,2,none⟩ (.int .i64 r.1.quota)).setCell ⟨w.heap.size+1+1,3,none⟩ (.int .i64 r.1.fuse)).setCell ⟨w.heap.size+1+1,4,none⟩ (.bool r.1.dead)) (w.heap.size+1) 30 #[.int .i64 m.next,.int .i64 m.term,.int .i64 m.vote,.int .i64 m.sq,.int .i64 m.sf,.slice C m.segs.length c2]):=zhd (zeP HM7.out (by omega:w.heap.size+1≠w.heap.size+1+1) (.slice A4 r.1.fs.length c4) (.slice B4 r.1.q.length e4) (.int .i64 r.1.quota) (.int .i64 r.1.fuse) (.bool r.1.dead))
  have HB8:Hid (Blk (((((w7.setCell ⟨w.heap.size+1+1,0,none⟩ (.slice A4 r.1.fs.length c4)).setCell ⟨w.heap.size+1+1,1,none⟩ (.slice B4 r.1.q.length e4)).setCell ⟨w.heap.size+1+1,2,none⟩ (.int .i64 r.1.quota)).setCell ⟨w.heap.size+1+1,3,none⟩ (.int .i64 r.1.fuse)).setCell ⟨w.heap.size+1+1,4,none⟩ (.bool r.1.dead)) (w.heap.size+1+1) 25 #[.slice A4 r.1.fs.length c4,.slice B4 r.1.q.length e4,.int .i64 r.1.quota,.int .i64 r.1.fuse,.bool r.1.dead]):=HB8
  clear HB7 HOF HOQ HX7 HM7 f0 f1 f2 f3 f4 d0 d1 d2 d3 d4
  generalize (((((w7.setCell ⟨w.heap.size+1+1,0,none⟩ (.slice A4 r.1.fs.length c4)).setCell ⟨w.heap.size+1+1,1,none⟩ (.slice B4 r.1.q.length e4)).setCell ⟨w.heap.size+1+1,2,none⟩ (.int .i64 r.1.quota)).setCell ⟨w.heap.size+1+1,3,none⟩ (.int .i64 r.1.fuse)).setCell ⟨w.heap.size+1+1,4,none⟩ (.bool r.1.dead))=w8 at *
  obtain ⟨k0,k1,k2,k3,k4⟩:=zac HB8.out;obtain ⟨l0,l1,l2,l3,l4,l5⟩:=zap HM8.out
  refine wp_region_held_drew (S:=fun _=>True) (by kernel_rfl) trivial (fun _=>?_)
  have hEd:Ext w8 w8.drew:=Ext.drew (Ext.refl _)
  refine AllReadyH.two (i:=0) (j:=1) rfl rfl (by kernel_rfl) (by rfl) (by rfl) (fun K hK=>?_) (fun K hK=>?_)
  ·go_simp
   refine shK hK _ _ trivial (fun _=>?_)
   refine ar1 1 rfl (fun K hK=>?_)
   go_simp
   refine shK hK _ _ trivial (fun _=>?_)
   clear k0 k1 k2 k3 k4 l0 l1 l2 l3 l4 l5
   refine ar1 2 rfl (fun K hK=>?_)
   go_simp
   refine (zid m _ _ (HGW.out.ext (Ext.trans HX8.out hEd)) HLM.out).mono ?_
   rintro e w9 ⟨vk,rfl,hko,hE9⟩;have E9:=Ext.trans hEd hE9;obtain ⟨Ak,ck,rfl,_,_⟩:=SlR.open_ (SlR.of_own hko)
   refine shK hK _ _ trivial (fun _=>?_)
   exact mcSwapa0
  ·go_simp
   refine shK hK _ _ trivial (fun _=>?_)
   refine AllReadyH.two (i:=0) (j:=2) rfl rfl (by kernel_rfl) (by rfl) (by rfl) (fun K hK=>?_) (fun K hK=>?_)
   ·go_simp
    refine shK hK _ _ trivial (fun _=>?_)
    clear k0 k1 k2 k3 k4 l0 l1 l2 l3 l4 l5
    refine ar1 2 rfl (fun K hK=>?_)
    go_simp
    refine (zid m _ _ (HGW.out.ext (Ext.trans HX8.out hEd)) HLM.out).mono ?_
    rintro e w9 ⟨vk,rfl,hko,hE9⟩;have E9:=Ext.trans hEd hE9;obtain ⟨Ak,ck,rfl,_,_⟩:=SlR.open_ (SlR.of_own hko)
    refine shK hK _ _ trivial (fun _=>?_)
    exact mcSwapa0
   ·go_simp
    refine (zid m _ _ (HGW.out.ext (Ext.trans HX8.out hEd)) HLM.out).mono ?_
    rintro e w9 ⟨vk,rfl,hko,hE9⟩;have E9:=Ext.trans hEd hE9;obtain ⟨Ak,ck,rfl,_,_⟩:=SlR.open_ (SlR.of_own hko)
    refine shK hK _ _ trivial (fun _=>?_)
    have m0:=E9.cell k0;have m1:=E9.cell k1;have m2:=E9.cell k2;have m3:=E9.cell k3;have m4:=E9.cell k4;clear k0 k1 k2 k3 k4 l0 l1 l2 l3 l4 l5
    refine ar1 0 rfl (fun K hK=>?_)
    go_simp
    refine shK hK _ _ trivial (fun _=>?_)
    clear m0 m1 m2 m3 m4
    exact mcSwapa0
end Go.Proofs.YtgonhdeochgkoaaGreatDoor
