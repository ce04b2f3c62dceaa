/- Merged: R4e Wk13 Rdl1 -/
import Derived.Test.YtgonhdeochgkoaaGreatDoorStoreReads34
import Derived.Lib.SlBytesConst
set_option linter.all false
set_option maxHeartbeats 8000000
set_option maxRecDepth 100000
namespace Go.Proofs.YtgonhdeochgkoaaGreatDoor
open Go.RowKit Go.Mv Go.Shelf
theorem zrV (tmps:Array Value) (W:World) (b:Nat) (cs:Array Value) (h4:tmps.getD 2 undef=.pointer (some ⟨b,0,none⟩)) (hb:Blk W b 25 cs) (hs:cs.size=5):(results Tryz.f51 tmps).run Tryz.prog W=.ok (.agg cs) W:=by
 have hl:=hb.load (P:=Tryz.prog) zhz rfl (by rw[hs];kernel_rfl)
 have h4':tmps[2]?.getD undef=.pointer (some ⟨b,0,none⟩):=by simpa using h4
 simp[results,Tryz.results51,h4',asAddr,hl]
theorem zit {α:Type} (l:List α) {k:Nat} (h:k≤l.length):(l.take k).length=k:=by rw[List.length_take];omega
theorem zrj {W:World} {base:Nat} {v:Value} {l:List Fil} (h:OwnF W base v l) {n:List UInt8} {b2:Nat} {u:Value} {bs:List UInt8} (hu:OwnB W b2 u bs):∀ g,v.ownBlock=some g→∀ x∈[sv n,u],zbf g x:=by
 intro g hg x hx
 obtain ⟨_,cs,hcs⟩:=zcy h hg
 simp only[List.mem_cons,List.not_mem_nil,or_false] at hx
 rcases hx with rfl | rfl
 ·exact zaR _ _
 ·exact OwnB.awayT hu hcs (by decide)
theorem zq6 (v:Value) (d:Dk) (w:World) (hD:DkV w v d) (hl:d.fs.length+d.q.length≤900000) (hb:tot d.fs+za8 d.q≤900000) :
  Calls Tryz.prog 51 #[v] w fun e w'=>∃ u,e=.returned u∧ziI w' w.heap.size u d∧Ext w w':=by
 obtain ⟨vf,vq,rfl,hF,hQ⟩:=hD
 obtain ⟨A,c,rfl,_,_⟩:=Fs.open_ hF
 obtain ⟨B,e2,rfl,_,_⟩:=Qs.open_ hQ
 obtain ⟨W0,hW0⟩:∃ W0,(w.alloc (.cells #[.slice A d.fs.length c,.slice B d.q.length e2,.int .i64 d.quota,.int .i64 d.fuse,.bool d.dead] 25)).alloc (.cells #[.slice none 0 0,.slice none 0 0,.int .i64 0,.int .i64 0,.bool false] 25)=W0:=⟨_,rfl⟩
 have hE0:Ext w W0:=by rw[←hW0];exact Ext.alloc (Ext.alloc (Ext.refl _) _) _
 have h0:Blk W0 w.heap.size 25 (zaA A d.fs.length c B d.q.length e2 d.quota d.fuse d.dead):=by rw[←hW0];exact (Blk.new w _ _).alloc _
 have h1:Blk W0 (w.heap.size+1) 25 (zaA none 0 0 none 0 0 0 0 false):=by
  rw[←hW0]
  have:=Blk.new (w.alloc (.cells #[.slice A d.fs.length c,.slice B d.q.length e2,.int .i64 d.quota,.int .i64 d.fuse,.bool d.dead] 25)) 25 #[.slice none 0 0,.slice none 0 0,.int .i64 0,.int .i64 0,.bool false]
  rwa [World.size_alloc] at this
 have hz0:W0.heap.size=w.heap.size+1+1:=by rw[←hW0,World.size_alloc,World.size_alloc]
 have HE0:=zhd hE0
 have H0:=zhd h0
 have H1:=zhd h1
 have HF:=zhd (hF.ext hE0)
 have HQ:=zhd (hQ.ext hE0)
 have HB:=zhd hb
 have HL:=zhd hl
 have HZ0:=zhd hz0
 obtain ⟨i0,hi,hz0',hz1,hz2⟩:=info_parts zjY
 clear h0 h1 hF hQ hE0 hb hl hz0
 go_enter Tryz.func51,Tryz.ntmps51
 go_wp2_with fail
 clear hW0
 go_loopw [3,4] (fun vl i wr=>∃ j:Nat,j≤d.fs.length∧i=.int .i64 j∧(∃ A' c',vl=.slice A' j c')∧Hid (OwnF wr W0.heap.size vl (d.fs.take j))∧Hid (Ext W0 wr)) (fun _ i _=>d.fs.length-(intOf i).toNat)
 case atStart=>exact ⟨0,Nat.zero_le _,rfl,⟨_,_,rfl⟩,OwnX.nil _ _ _,Ext.refl _⟩
 case round =>
  obtain ⟨j,hj,rfl,⟨A',c',rfl⟩,HO,HE⟩:=hrel
  obtain ⟨s0,s1,_,_,_⟩:=zad H0.out
  have d0:=HE.out.cell s0
  by_cases hlt:j<d.fs.length
  ·obtain ⟨_,b,off,rfl,hc⟩:=HF.out.at_ (by omega)
   obtain ⟨t0,B1,d1',t1,hB1⟩:=hc j hlt
   have htk:d.fs.take (j+1)=d.fs.take j++[d.fs[j]]:=List.take_succ_eq_append_getElem hlt
   have hbl:=zfj (List.getElem_mem hlt)
   have HTK:=zhd htk
   have HB1:=zhd hB1
   have hlen:=zit d.fs hj
   have HLEN:=zhd hlen
   have hbl2:d.fs[j].2.length≤900000:=by have:=HB.out;omega
   have HBL:=zhd hbl2
   clear hc htk hB1 hbl hlen hbl2
   obtain ⟨p,hp⟩:∃ p,d.fs[j]=p:=⟨_,rfl⟩
   rw[hp] at t0 t1 HB1 HTK HBL
   obtain ⟨n,pb⟩:=p
   dsimp only at t0 t1 HB1 HBL
   have hjz:(j:Int)<(d.fs.length:Int):=by omega
   unfold sv at t0
   clear hp
   have hold:∀ X,Ext W0 X→X.cell? ⟨w.heap.size,0,none⟩=some (.slice (some ⟨b,off,none⟩) d.fs.length c)∧X.cell? ⟨b,off+j*2,none⟩=some (.string ⟨n.toArray⟩)∧X.cell? ⟨b,off+j*2+1,none⟩=some (.slice B1 pb.length d1'):=fun X h=>⟨h.cell s0,h.cell t0,h.cell t1⟩
   obtain ⟨_,hc0,hc1⟩:=hold wr HE.out
   have HOLD:=zhd hold
   clear hold s0 s1 t0 t1
   go_wp2_with fail
   refine wp_region_held_drew (S:=fun W=>W.cell? ⟨w.heap.size,0,none⟩=some (.slice (some ⟨b,off,none⟩) d.fs.length c)∧W.cell? ⟨b,off+j*2,none⟩=some (.string ⟨n.toArray⟩)∧W.cell? ⟨b,off+j*2+1,none⟩=some (.slice B1 pb.length d1')) (by kernel_rfl) ⟨d0,hc0,hc1⟩ (fun _=>?_)
   clear d0 hc0 hc1
   refine tkN 0 rfl ?_
   refine tkN 1 rfl ?_
   refine tkN 2 rfl ?_
   refine tkN 3 rfl ?_
   refine tkN 4 rfl ?_
   refine tkN 5 rfl ?_
   refine tkN 6 rfl ?_
   refine tkN 8 rfl ?_
   refine tkN 9 rfl ?_
   refine tkN 10 rfl ?_
   refine tkN 11 rfl ?_
   refine tkN 12 rfl ?_
   refine tkN 13 rfl ?_
   refine ar1 7 rfl (fun K hK=>?_)
   go_simp
   have hEe:Ext wr (wr.alloc (.cells #[] 5)).drew:=Ext.drew (Ext.alloc (Ext.refl _) _)
   have hoe:OwnB (wr.alloc (.cells #[] 5)).drew wr.heap.size (.slice (some ⟨wr.heap.size,0,none⟩) 0 0) []:=zae (zd7 wr) (Ext.drew (Ext.refl _))
   refine shK hK _ _ (HOLD.out _ (Ext.trans HE.out hEe)) (fun _=>?_)
   refine ar1 14 rfl (fun K hK=>?_)
   refine zh0 (.tmp 22) (.tmp 28) rfl wr.heap.size _ [] rfl hoe _ pb rfl (HB1.out.ext (Ext.trans HE.out hEe)) (by have:=HBL.out;simp;omega) hEe.size ?_
   intro A5 c5 w5 ho5 hG5
   have hE5:=hG5 _ hEe (Nat.le_refl _)
   simp only[List.length_nil,Nat.zero_add,List.nil_append] at ho5 ⊢
   refine shK hK _ _ (HOLD.out _ (Ext.trans HE.out hE5)) (fun _=>?_)
   refine tkN 15 rfl ?_
   refine ar1 16 rfl (fun K hK=>?_)
   go_simp
   have hE6':Ext w5 (w5.alloc (.cells #[.string ⟨n.toArray⟩,.slice A5 pb.length c5] 51)):=Ext.alloc (Ext.refl _) _
   have hE6:=Ext.trans hE5 hE6'
   have hs6:=zc6 (Blk.new w5 51 #[.string ⟨n.toArray⟩,.slice A5 pb.length c5])
   have ho6:=zae ho5 hE6'
   have hof:=OwnX.ext zbw HO.out hE6
   have haw:=zrj (n:=n) hof ho6
   refine shK hK _ _ (HOLD.out _ (Ext.trans HE.out hE6)) (fun _=>?_)
   refine ar1 17 rfl (fun K hK=>?_)
   refine zmu zbw (.tmp 15) (.tmp 31) 22 rfl 51 i0 _ 40 Tryz.underlying22 hi hz0' hz1 hz2 rfl (by decide) (by decide) W0.heap.size _ (d.fs.take j) rfl hof _ [(n,pb)] [sv n,.slice A5 pb.length c5] rfl hs6 (zi4 (SlR.of_own ho6)) (by simp) haw (by rw[HLEN.out];have:=HL.out;simp;omega) (Ext.trans HE.out hE6).size ?_
   intro A7 c7 w7 ho7 hG7 _
   have hE7:=hG7 W0 (Ext.trans HE.out hE6) (Nat.le_refl _)
   simp only[List.length_cons,List.length_nil,Nat.zero_add,HLEN.out] at ho7 ⊢
   rw[←HTK.out] at ho7
   refine shK hK _ _ (HOLD.out _ hE7) (fun _=>?_)
   refine tkN 18 rfl ?_
   refine wpAnyH_done (by kernel_rfl) ?_ _
   go_wp2_with fail
   go_roundw
   case rel=>exact ⟨j+1,by omega,by go_num,⟨_,_,rfl⟩,ho7,hE7⟩
   case measure=>simp[intOf];omega
  ·obtain rfl:j=d.fs.length:=by omega
   rw[List.take_length] at HO
   have hfs:=HO.out
   have HFS:=zhd hfs
   have hE1:=HE.out
   have HW1:=zhd hE1
   obtain ⟨iq,hqi,hqz0,hqz1,hqz2⟩:=info_parts zh6
   clear s0 hfs hE1 HO HE
   go_wp2_with fail
   go_loopw [5,6] (fun vl i wr2=>∃ k:Nat,k≤d.q.length∧i=.int .i64 k∧(∃ A2 c2,vl=.slice A2 k c2)∧Hid (OwnQ wr2 wr.heap.size vl (d.q.take k))∧Hid (Ext wr wr2)) (fun _ i _=>d.q.length-(intOf i).toNat)
   case atStart=>exact ⟨0,Nat.zero_le _,rfl,⟨_,_,rfl⟩,OwnX.nil _ _ _,Ext.refl _⟩
   case round =>
    rename World=>wr2
    clear d0
    obtain ⟨k,hk,rfl,⟨A2,c2,rfl⟩,HOQ,HE2⟩:=hrel
    have hE02:=Ext.trans HW1.out HE2.out
    have d1:=hE02.cell s1
    by_cases hlt:k<d.q.length
    ·obtain ⟨_,b,off,rfl,hc⟩:=(HQ.out.ext hE02).at_ (by omega)
     obtain ⟨hc0,hc1,hc2,B3,d3,hc3,hB3⟩:=hc k hlt
     have htk:d.q.take (k+1)=d.q.take k++[d.q[k]]:=List.take_succ_eq_append_getElem hlt
     have hbl:=ziV (List.getElem_mem hlt)
     have hbl2:d.q[k].b.length≤900000:=by have:=HB.out;omega
     have hlen:=zit d.q hk
     have HTK:=zhd htk
     have HB3:=zhd hB3
     have HLEN:=zhd hlen
     have HBL:=zhd hbl2
     clear hc htk hB3 hbl hbl2 hlen
     obtain ⟨o,ho⟩:∃ o,d.q[k]=o:=⟨_,rfl⟩
     rw[ho] at hc0 hc1 hc2 hc3 HB3 HTK HBL
     obtain ⟨ok,on,ot,ob⟩:=o
     dsimp only at hc0 hc1 hc2 hc3 HB3 HBL
     have hkz:(k:Int)<(d.q.length:Int):=by omega
     unfold sv at hc1 hc2
     have hX1:Ext wr2 (wr2.alloc (.cells #[.int .u8 ok,.string ⟨on.toArray⟩,.string ⟨ot.toArray⟩,.slice B3 ob.length d3] 86)):=Ext.alloc (Ext.refl _) _
     have hbx:=Blk.new wr2 86 #[.int .u8 ok,.string ⟨on.toArray⟩,.string ⟨ot.toArray⟩,.slice B3 ob.length d3]
     have hX2:Ext (wr2.alloc (.cells #[.int .u8 ok,.string ⟨on.toArray⟩,.string ⟨ot.toArray⟩,.slice B3 ob.length d3] 86)) ((wr2.alloc (.cells #[.int .u8 ok,.string ⟨on.toArray⟩,.string ⟨ot.toArray⟩,.slice B3 ob.length d3] 86)).alloc (.cells #[] 5)):=Ext.alloc (Ext.refl _) _
     have hoe:=zd7 (wr2.alloc (.cells #[.int .u8 ok,.string ⟨on.toArray⟩,.string ⟨ot.toArray⟩,.slice B3 ob.length d3] 86))
     rw[World.size_alloc] at hoe
     have hb3:=HB3.out.ext (Ext.trans hX1 hX2)
     have hsz:wr2.heap.size+1≤((wr2.alloc (.cells #[.int .u8 ok,.string ⟨on.toArray⟩,.string ⟨ot.toArray⟩,.slice B3 ob.length d3] 86)).alloc (.cells #[] 5)).heap.size:=by rw[World.size_alloc,World.size_alloc];omega
     obtain ⟨x0,x1,x2,x3⟩:=zat hbx
     have HOE:=zhd hoe
     have HX1:=zhd hX1
     have HX2:=zhd hX2
     have HBX:=zhd hbx
     have HB3':=zhd hb3
     have HSZ:=zhd hsz
     clear hX1 hbx hX2 hoe hb3 hsz ho hE02
     go_wp2_with (first
      | (at_builtin;refine zdt rfl (.tmp 45) (.tmp 47) rfl (wr2.heap.size+1) _ [] rfl HOE.out _ ob rfl HB3'.out (by have:=HBL.out;simp;omega) HSZ.out ?_;intro A5 c5 w5 ho5 hG5;simp only[List.length_nil,Nat.zero_add,List.nil_append] at ho5 ⊢;have hE5:=hG5 _ HX2.out (by rw[World.size_alloc];omega);have hb5:=HBX.out.ext hE5;clear x0 x1 x2 x3;obtain ⟨x0,x1,x2,x3⟩:=zat hb5;have f3:=hb5.frozen 3;have HO5:=zhd ho5;have HE5:=zhd hE5;have HB5:=zhd hb5;clear ho5 hG5 hE5 hb5)
      | (at_builtin
         have hE6:Ext wr2 (w5.setCell ⟨wr2.heap.size,3,none⟩ (.slice A5 ob.length c5)):=Below.setCell (p:=⟨wr2.heap.size,3,none⟩) (Ext.trans HX1.out HE5.out) (Nat.le_refl _) _
         have hE7':Ext (w5.setCell ⟨wr2.heap.size,3,none⟩ (.slice A5 ob.length c5)) ((w5.setCell ⟨wr2.heap.size,3,none⟩ (.slice A5 ob.length c5)).alloc (.cells #[.int .u8 ok,.string ⟨on.toArray⟩,.string ⟨ot.toArray⟩,.slice A5 ob.length c5] 86)):=Ext.alloc (Ext.refl _) _
         have hE7:=Ext.trans hE6 hE7'
         have ho6:=HO5.out.kept (zaa _ wr2.heap.size 3 (.slice A5 ob.length c5)) (.inr (HB5.out.not_row (by decide) HO5.out).symm)
         have ho7:OwnB ((w5.setCell ⟨wr2.heap.size,3,none⟩ (.slice A5 ob.length c5)).alloc (.cells #[.int .u8 ok,.string ⟨on.toArray⟩,.string ⟨ot.toArray⟩,.slice A5 ob.length c5] 86)) (wr2.heap.size+1) (.slice A5 ob.length c5) ob:=zae ho6 hE7'
         have hoq:=OwnX.ext zcx HOQ.out hE7
         have haw:∀ g,(Value.slice A2 k c2).ownBlock=some g→∀ u∈[.int .u8 ok,.string ⟨on.toArray⟩,.string ⟨ot.toArray⟩,.slice A5 ob.length c5],zbf g u:=by
          intro g hg u hu
          have hgl:=zlW HOQ.out hg
          simp only[List.mem_cons,List.not_mem_nil,or_false] at hu
          rcases hu with rfl | rfl | rfl | rfl
          ·exact zei _ _ _
          ·exact zaR _ on
          ·exact zaR _ ot
          ·exact ho7.away (by omega)
         refine zee zcx rfl (.tmp 50) (.tmp 52) 23 rfl 86 iq _ 64 Tryz.underlying23 hqi hqz0 hqz1 hqz2 rfl (by decide) (by decide) wr.heap.size _ (d.q.take k) rfl hoq _ [⟨ok,on,ot,ob⟩] [.int .u8 ok,.string ⟨on.toArray⟩,.string ⟨ot.toArray⟩,.slice A5 ob.length c5] rfl (zeW (w5.setCell ⟨wr2.heap.size,3,none⟩ (.slice A5 ob.length c5)) [.int .u8 ok,.string ⟨on.toArray⟩,.string ⟨ot.toArray⟩,.slice A5 ob.length c5] 86 4 rfl (by simp only[World.size_setCell])) (zfA (o:=⟨ok,on,ot,ob⟩) (SlR.of_own ho7)) (by simp) haw (by rw[HLEN.out];have:=HL.out;simp;omega) (Ext.trans HE2.out hE7).size ?_
         intro A9 c9 w9 ho9 hG9 _
         simp only[List.length_cons,List.length_nil,Nat.zero_add,HLEN.out] at ho9 ⊢
         rw[←HTK.out] at ho9
         have hE9:=hG9 wr (Ext.trans HE2.out hE7) (Nat.le_refl _)
         have HO9:=zhd ho9
         have HE9:=zhd hE9
         clear hE6 hE7' hE7 ho6 ho7 hoq haw ho9 hG9 hE9))
     go_roundw
     case rel=>exact ⟨k+1,by omega,by go_num,⟨_,_,rfl⟩,HO9,HE9⟩
     case measure=>simp[intOf];omega
    ·obtain rfl:k=d.q.length:=by omega
     rw[List.take_length] at HOQ
     have hb0:=H0.out.ext hE02
     have hb1:=H1.out.ext hE02
     have hE:=Ext.trans HE0.out hE02
     have hb1':=(hb1.other (by omega:w.heap.size+1≠w.heap.size) 0 (.slice A' d.fs.length c')).other (by omega:w.heap.size+1≠w.heap.size) 1 (.slice A2 d.q.length c2)
     have hb0a:Blk (wr2.setCell ⟨w.heap.size,0,none⟩ (.slice A' d.fs.length c')) w.heap.size 25 (zaA A' d.fs.length c' B d.q.length e2 d.quota d.fuse d.dead):=hb0.set 0 (.slice A' d.fs.length c')
     have hof1:OwnF ((wr2.setCell ⟨w.heap.size,0,none⟩ (.slice A' d.fs.length c')).setCell ⟨w.heap.size,1,none⟩ (.slice A2 d.q.length c2)) W0.heap.size (.slice A' d.fs.length c') d.fs:=OwnF.setD (OwnF.setD (OwnX.ext zbw HFS.out HE2.out) (by decide) hb0 zaB) (by decide) hb0a zaB
     have hoq1:OwnQ ((wr2.setCell ⟨w.heap.size,0,none⟩ (.slice A' d.fs.length c')).setCell ⟨w.heap.size,1,none⟩ (.slice A2 d.q.length c2)) wr.heap.size (.slice A2 d.q.length c2) d.q:=OwnQ.setD (OwnQ.setD HOQ.out (by decide) hb0 zaB) (by decide) hb0a zaB
     have hof2:=OwnF.box1 (A':=A') (n':=d.fs.length) (c':=c') (B':=A2) (m':=d.q.length) (e':=c2) (q':=d.quota) (f':=d.fuse) (d':=d.dead) hof1 hb1'
     have hoq2:=OwnQ.box1 (A':=A') (n':=d.fs.length) (c':=c') (B':=A2) (m':=d.q.length) (e':=c2) (q':=d.quota) (f':=d.fuse) (d':=d.dead) hoq1 hb1'
     have hee:Ext w (zeb ((wr2.setCell ⟨w.heap.size,0,none⟩ (.slice A' d.fs.length c')).setCell ⟨w.heap.size,1,none⟩ (.slice A2 d.q.length c2)) (w.heap.size+1) (.slice A' d.fs.length c') (.slice A2 d.q.length c2) (.int .i64 d.quota) (.int .i64 d.fuse) (.bool d.dead)):=zaE (Below.setCell (p:=⟨w.heap.size,1,none⟩) (Below.setCell (p:=⟨w.heap.size,0,none⟩) hE (Nat.le_refl _) _) (Nat.le_refl _) _) (Nat.le_succ _) (.slice A' d.fs.length c') (.slice A2 d.q.length c2) (.int .i64 d.quota) (.int .i64 d.fuse) (.bool d.dead)
     have hbf:=zaJ hb1' (.slice A' d.fs.length c') (.slice A2 d.q.length c2) (.int .i64 d.quota) (.int .i64 d.fuse) (.bool d.dead)
     have HOF2:=zhd (OwnX.base hof2 HE0.out.size)
     have HOQ2:=zhd (OwnX.base hoq2 (Nat.le_trans HE0.out.size HW1.out.size))
     have HEE:=zhd hee
     have HBF:=zhd hbf
     obtain ⟨x0,x1,x2,x3,x4⟩:=zad hb0
     obtain ⟨y0,y1,y2,y3,y4⟩:=zbg hb0
     obtain ⟨z0,z1,z2,z3,z4⟩:=zad hb1
     obtain ⟨v0,v1,v2,v3,v4⟩:=zbg hb1
     clear hb0 hb1 hb1' hb0a hof1 hoq1 hof2 hoq2 hee hbf hE hE02 d1
     go_wp2_with fail
     refine bodyPost_ret (zrV _ _ _ _ rfl HBF.out rfl) rfl ?_
     exact ⟨_,rfl,⟨_,_,_,_,rfl,HOF2.out,HOQ2.out⟩,HEE.out⟩
theorem zq5 (v:Value) (d:Dk) (w:World) (hD:DkV w v d) (hl:d.fs.length+d.q.length≤900000) (hb:tot d.fs+za8 d.q≤900000) :
  Calls Tryz.prog 23 #[v] w fun e w'=>(∃ v',e=.returned v'∧Fs w' v' d.now)∧Ext w w':=by
 obtain ⟨vf,vq,rfl,hF,hQ⟩:=hD
 obtain ⟨A,c,rfl,_,_⟩:=Fs.open_ hF
 obtain ⟨B,e2,rfl,_,_⟩:=Qs.open_ hQ
 have hX:Ext w (w.alloc (.cells #[.slice A d.fs.length c,.slice B d.q.length e2,.int .i64 d.quota,.int .i64 d.fuse,.bool d.dead] 25)):=Ext.alloc (Ext.refl _) _
 have hb0:Blk _ w.heap.size 25 (zaA A d.fs.length c B d.q.length e2 d.quota d.fuse d.dead):=Blk.new w _ _
 have key:=zq6 _ d _ (show DkV (w.alloc (.cells #[.slice A d.fs.length c,.slice B d.q.length e2,.int .i64 d.quota,.int .i64 d.fuse,.bool d.dead] 25)) (.agg #[.slice A d.fs.length c,.slice B d.q.length e2,.int .i64 d.quota,.int .i64 d.fuse,.bool d.dead]) d from ⟨_,_,rfl,hF.ext hX,hQ.ext hX⟩) hl hb
 obtain ⟨g0,g1,g2,g3,g4⟩:=zad hb0
 have Key:=zhd key
 have HX:=zhd hX
 have HB0:=zhd hb0
 have HL:=zhd hl
 have HB:=zhd hb
 clear key hX hb0 hF hQ hl hb
 go_enter Tryz.func23,Tryz.ntmps23
 go_wp2_with fail
 refine Key.out.mono ?_
 rintro e w1 ⟨u,rfl,⟨A1,c1,B1,e1,rfl,hof,hoq⟩,hE1⟩
 have hb1:=HB0.out.ext hE1
 have hof1:=OwnF.box1 (A':=A1) (n':=d.fs.length) (c':=c1) (B':=B1) (m':=d.q.length) (e':=e1) (q':=d.quota) (f':=d.fuse) (d':=d.dead) hof hb1
 have hoq1:=OwnQ.box1 (A':=A1) (n':=d.fs.length) (c':=c1) (B':=B1) (m':=d.q.length) (e':=e1) (q':=d.quota) (f':=d.fuse) (d':=d.dead) hoq hb1
 have hE2:=zaE (Ext.trans HX.out hE1) (Nat.le_refl w.heap.size) (.slice A1 d.fs.length c1) (.slice B1 d.q.length e1) (.int .i64 d.quota) (.int .i64 d.fuse) (.bool d.dead)
 have key2:=zrg _ _ d.fs d.q _ (OwnF.fs hof1) (OwnQ.qs hoq1) HL.out HB.out
 clear g0 g1 g2 g3 g4
 obtain ⟨g0,g1,g2,g3,g4⟩:=zad hb1
 obtain ⟨f0,f1,f2,f3,f4⟩:=zbg hb1
 have Key2:=zhd key2
 have HE2:=zhd hE2
 clear key2 hE2 hof1 hoq1 hb1 hof hoq hE1
 go_wp2_with fail
 refine Key2.out.mono ?_
 rintro e w2 ⟨⟨v2,rfl,hF2⟩,hE3⟩
 have HF2:=zhd hF2
 have HE3:=zhd (Ext.trans HE2.out hE3)
 clear g0 g1 g2 g3 g4 f0 f1 f2 f3 f4 hF2 hE3
 go_wp2_with fail
 go_ret
 exact ⟨⟨_,rfl,HF2.out⟩,HE3.out⟩
def m13:Mf:=⟨1,3,2,0,0,[]⟩
def b13:List UInt8:=[77,1,3,2,0,0,0,49,129,35,90]
def d13:Dk:=⟨[],[],100,0,false⟩
def e13:Dk:=⟨[([77],b13)],[],100,0,false⟩
theorem zsY:zb7 m13=some b13:=by decide
theorem zrK:zjI d13 m13=(e13,0):=by rfl
theorem ztK:zjI e13 mf0=(e13,2):=by rfl
theorem zsX:e13.now=[([77],b13)]:=by rfl
theorem zrL:zaK e13.now=⟨0,⟨⟨0,0,0,1,false⟩,[],3,2⟩,m13⟩:=by rfl
theorem zsV:zaK [([77],[120])]=zbs 130:=by rfl
theorem zsW:zaK []=zbs 42:=by rfl
theorem zuf:Sz 100 d13:=⟨by decide,by decide,by decide⟩
theorem zsv:Sz 100 e13:=⟨by decide,by decide,by decide⟩
theorem ztQ (W:World):Qs W (.slice none 0 0) []:=⟨[],SlR.nil W 4,RowOf.nil⟩
theorem ztV (w:World) (hS:StW w):Calls Tryz.prog 12 #[.agg #[.slice none 0 0,.slice none 0 0,.int .i64 100,.int .i64 0,.bool false],.agg #[.int .i64 1,.int .i64 3,.int .i64 2,.int .i64 0,.int .i64 0,.slice none 0 0]] w (zlb w (e13,0)):=by
 have h:=zkj _ d13 100 m13 (.slice none 0 0) w hS (show DkV w (.agg #[.slice none 0 0,.slice none 0 0,.int .i64 100,.int .i64 0,.bool false]) d13 from ⟨_,_,rfl,zpS w,ztQ w⟩) zuf (by decide) (Sgs.nil w) (by decide) (by decide) (fun b hb=>by rw[zsY] at hb;cases hb;decide)
 rw[zrK] at h
 exact h
theorem ztj (v:Value) (w:World) (hS:StW w) (hD:DkV w v e13):Calls Tryz.prog 12 #[v,.agg #[.int .i64 0,.int .i64 0,.int .i64 0,.int .i64 0,.int .i64 0,.slice none 0 0]] w (zlb w (e13,2)):=by
 have h:=zkj v e13 100 mf0 (.slice none 0 0) w hS hD zsv (by decide) (Sgs.nil w) (by decide) (by decide) (fun b hb=>by rw[show zb7 mf0=none by decide] at hb;cases hb)
 rw[ztK] at h
 exact h
theorem zsF (W:World) (x:UInt8):Bs (W.alloc (.cells #[bv x] 5 (1,2))) (.slice (some ⟨W.heap.size,0,none⟩) 1 1) [x]:=by
 refine ⟨rfl,_,1,rfl,Nat.le_refl _,by simp[maxLen],fun _=>⟨W.heap.size,0,rfl,fun j u hu=>?_⟩⟩
 rw[Nat.zero_add]
 have hb:(W.alloc (.cells #[bv x] 5 (1,2))).heap[W.heap.size]?=some (.cells #[bv x] 5 (1,2)):=World.alloc_heap_new W _
 match j,hu with
 | 0,hu=>cases hu;unfold World.cell?;rw[hb];rfl
 | j+1,hu=>cases hu
theorem zeE (w:World) (hS:StW w):Calls Tryz.prog 11 #[] w fun e w'=>e=.returned (.bool true)∧Ext w w':=by
 have key:=zeI (.slice none 0 0) [] w hS (zpS w) (by decide) (fun f hf=>by cases hf)
 rw[zsW] at key
 have Key:=zhd key
 have HS:=zhd hS
 clear key hS
 go_enter Tryz.func11,Tryz.ntmps11
 go_wp2_with fail
 refine Key.out.mono ?_
 rintro e w1 ⟨vl,vs,rfl,hes,hss,hE1⟩
 obtain ⟨A1,c1,rfl,_,_⟩:=SlR.open_ hes
 obtain ⟨A2,c2,rfl,_,_⟩:=Sgs.open_ hss
 have HE1:=zhd hE1
 clear hes hss hE1 Key
 dsimp only[zbs,zdV,mf0,zmg]
 go_wp2_with fail
 have hE1a:=fun o1 o2=>Ext.alloc (Ext.alloc HE1.out o1) o2
 refine (zq4 100 (by decide) _).mono ?_
 rintro e w2 ⟨rfl,hE2⟩
 have HE2:Hid (Ext w w2):=zhd (Ext.trans (hE1a _ _) hE2)
 clear hE1a hE2
 go_wp2_with fail
 refine (ztV _ (HS.out.ext HE2.out)).mono ?_
 rintro e w3 ⟨u,rfl,⟨A3,c3,B3,e3,rfl,of,oq⟩,hE3⟩
 have HE3:=zhd (Ext.trans HE2.out hE3)
 clear hE3
 dsimp only
 go_wp2_with fail
 have hdk:DkV w3 (.agg #[.slice A3 e13.fs.length c3,.slice B3 e13.q.length e3,.int .i64 e13.quota,.int .i64 e13.fuse,.bool e13.dead]) e13:=⟨_,_,rfl,OwnF.fs of,OwnQ.qs oq⟩
 have hbd:=Blk.new w3 25 #[.slice A3 e13.fs.length c3,.slice B3 e13.q.length e3,.int .i64 e13.quota,.int .i64 e13.fuse,.bool e13.dead]
 have hX3:Ext w3 (w3.alloc (.cells #[.slice A3 e13.fs.length c3,.slice B3 e13.q.length e3,.int .i64 e13.quota,.int .i64 e13.fuse,.bool e13.dead] 25)):=Ext.alloc (Ext.refl _) _
 have HBD:=zhd hbd
 have HX3:=zhd (Ext.trans HE3.out hX3)
 have HDK:=zhd (hdk.ext hX3)
 clear hdk hbd hX3 of oq HE2 HE3
 have hld:=zpc _ e13 100 _ (HS.out.ext HX3.out) HDK.out (by decide) zsv
 rw[zrL] at hld
 refine hld.mono ?_
 rintro e w4 ⟨vl,vs,rfl,hes,hss,hE4⟩
 clear hld
 obtain ⟨A4,c4,rfl,_,_⟩:=SlR.open_ hes
 obtain ⟨A5,c5,rfl,_,_⟩:=Sgs.open_ hss
 dsimp only[m13,List.length_nil]
 have HX4:=zhd (Ext.trans HX3.out hE4)
 have HBD4:=zhd (HBD.out.ext hE4)
 have HDK4:=zhd (HDK.out.ext hE4)
 clear hes hss hE4 HX3 HBD HDK
 obtain ⟨x1,hx1⟩:∃ x:Array Value,#[.int .i64 0,.int .i64 0,.int .i64 0,.int .i64 1,.bool false,.slice A4 0 c4,.int .i64 3,.int .i64 2]=x:=⟨_,rfl⟩
 obtain ⟨x2,hx2⟩:∃ x:Array Value,#[.int .i64 1,.int .i64 3,.int .i64 2,.int .i64 0,.int .i64 0,.slice A5 0 c5]=x:=⟨_,rfl⟩
 have hb1:=(((Blk.new w4 56 x1).alloc (.cells x2 30)).alloc (.cells #[.int .u8 120] 5 (1,2))).alloc (.cells #[sv [77],.slice (some ⟨w4.heap.size+1+1,0,none⟩) 1 1] 51)
 have hb2:=((Blk.new (w4.alloc (.cells x1 56)) 30 x2).alloc (.cells #[.int .u8 120] 5 (1,2))).alloc (.cells #[sv [77],.slice (some ⟨w4.heap.size+1+1,0,none⟩) 1 1] 51)
 rw[World.size_alloc] at hb2
 have hX5:Ext w4 ((((w4.alloc (.cells x1 56)).alloc (.cells x2 30)).alloc (.cells #[.int .u8 120] 5 (1,2))).alloc (.cells #[sv [77],.slice (some ⟨w4.heap.size+1+1,0,none⟩) 1 1] 51)):=Ext.alloc (Ext.alloc (Ext.alloc (Ext.alloc (Ext.refl _) _) _) _) _
 have hbs:Bs (((w4.alloc (.cells x1 56)).alloc (.cells x2 30)).alloc (.cells #[.int .u8 120] 5 (1,2))) (.slice (some ⟨w4.heap.size+1+1,0,none⟩) 1 1) [120]:=by
  have:=zsF ((w4.alloc (.cells x1 56)).alloc (.cells x2 30)) 120
  rw[World.size_alloc,World.size_alloc] at this
  exact this
 have hfs:=ztG _ [77] [120] _ hbs
 rw[World.size_alloc,World.size_alloc,World.size_alloc] at hfs
 have key5:=zeI _ [([77],[120])] _ (HS.out.ext (Ext.trans HX4.out hX5)) hfs (by decide) (fun f hf=>by
  obtain rfl:f=([77],[120]):=by simpa using hf
  decide)
 rw[zsV] at key5
 unfold sv at key5 hb1 hb2 hX5
 have Key5:=zhd key5
 have HB1:=zhd hb1
 have HB2:=zhd hb2
 have HX5:=zhd (Ext.trans HX4.out hX5)
 have HBD5:=zhd (HBD4.out.ext hX5)
 have HDK5:=zhd (HDK4.out.ext hX5)
 clear key5 hb1 hb2 hX5 hbs hfs HX4 HBD4 HDK4
 have hcv:=Lib.run_convert_bytes_const (P:=Tryz.prog) ((w4.alloc (.cells x1 56)).alloc (.cells x2 30)) 38 5 #[.int .u8 120] 1 1 Tryz.underlying38 Tryz.underlying5
 rw[World.size_alloc,World.size_alloc] at hcv
 simp only[List.size_toArray,List.length_cons,List.length_nil,Nat.zero_add,Nat.reduceAdd] at hcv
 subst hx1 hx2
 go_wp2_with fail
 refine Key5.out.mono ?_
 rintro e w5 ⟨vl,vs,rfl,hes,hss,hE5⟩
 obtain ⟨A6,c6,rfl,_,_⟩:=SlR.open_ hes
 obtain ⟨A7,c7,rfl,_,_⟩:=Sgs.open_ hss
 dsimp only[zbs,zdV,mf0,zmg,List.length_nil]
 have HX6:=zhd (Ext.trans HX5.out hE5)
 have HBD6:=zhd (HBD5.out.ext hE5)
 have HDK6:=zhd (HDK5.out.ext hE5)
 have HT6:=zhd (HB1.out.ext hE5)
 have HM6:=zhd (HB2.out.ext hE5)
 clear hes hss hE5 HX5 HBD5 HDK5 HB1 HB2 Key5
 have hX7:=fun o1 o2=>(Ext.alloc (Ext.alloc (Ext.refl w5) o1) o2:Ext w5 ((w5.alloc o1).alloc o2))
 have hd7:=fun o1 o2=>HBD6.out.ext (hX7 o1 o2)
 have d0:=fun o1 o2=>(zad (hd7 o1 o2)).1
 have d1:=fun o1 o2=>(zad (hd7 o1 o2)).2.1
 have d2:=fun o1 o2=>(zad (hd7 o1 o2)).2.2.1
 have d3:=fun o1 o2=>(zad (hd7 o1 o2)).2.2.2.1
 have d4:=fun o1 o2=>(zad (hd7 o1 o2)).2.2.2.2
 go_wp2_with fail
 refine (ztj _ _ (HS.out.ext (Ext.trans HX6.out (hX7 _ _))) (HDK6.out.ext (hX7 _ _))).mono ?_
 rintro e w8 ⟨u,rfl,⟨A8,c8,B8,e8,rfl,of,oq⟩,hE8⟩
 have hX8:=Ext.trans (hX7 _ _) hE8
 have HX8:=zhd (Ext.trans HX6.out hX8)
 have HBD8:=zhd (HBD6.out.ext hX8)
 have HDK8:=zhd (HDK6.out.ext hX8)
 have HT8:=zhd (HT6.out.ext hX8)
 have HM8:=zhd (HM6.out.ext hX8)
 clear hX7 hd7 hE8 hX8 of oq d0 d1 d2 d3 d4 HX6 HBD6 HDK6 HT6 HM6
 dsimp only
 have hX9:=fun o1=>(Ext.alloc (Ext.refl w8) o1:Ext w8 (w8.alloc o1))
 have hd9:=fun o1=>HBD8.out.ext (hX9 o1)
 have ht9:=fun o1=>HT8.out.ext (hX9 o1)
 have hm9:=fun o1=>HM8.out.ext (hX9 o1)
 have d0:=fun o1=>(zad (hd9 o1)).1
 have d1:=fun o1=>(zad (hd9 o1)).2.1
 have d2:=fun o1=>(zad (hd9 o1)).2.2.1
 have d3:=fun o1=>(zad (hd9 o1)).2.2.2.1
 have d4:=fun o1=>(zad (hd9 o1)).2.2.2.2
 have t3:=fun o1=>(zbQ (ht9 o1)).2.2.2.1
 have t5:=fun o1=>(zbQ (ht9 o1)).2.2.2.2.2.1
 have t6:=fun o1=>(zbQ (ht9 o1)).2.2.2.2.2.2.1
 have t7:=fun o1=>(zbQ (ht9 o1)).2.2.2.2.2.2.2
 have q0:=fun o1=>(zao (hm9 o1)).1
 clear hd9 ht9 hm9
 go_wp2_with fail
 refine (zq5 _ e13 _ (HDK8.out.ext (hX9 _)) (by decide) (by decide)).mono ?_
 rintro e w9 ⟨⟨v9,rfl,hF9⟩,hE9⟩
 have HX9:=zhd (Ext.trans HX8.out (Ext.trans (hX9 _) hE9))
 rw[zsX] at hF9
 obtain ⟨A9,c9,rfl,_,_⟩:=Fs.open_ hF9
 clear d0 d1 d2 d3 d4 t3 t5 t6 t7 q0 hX9 hE9 hF9
 dsimp only[List.length_cons,List.length_nil]
 go_wp2_with fail
 go_ret
 exact ⟨rfl,HX9.out⟩
theorem zqb (v:Value) (fs:List Fil) (w:World) (hS:StW w) (hF:Fs w v fs) (hl:fs.length≤1000000) (hbl:∀ f∈fs,f.2.length≤2000000) :
  Calls Tryz.prog 15 #[v] w fun e w'=>e=.returned (.tuple #[sv ((zaF fs (some [77])).getD []),.bool (zaF fs (some [77])).isSome])∧Ext w w':=by
 obtain ⟨A,c,rfl,_,_⟩:=Fs.open_ hF
 have key:=zna (.slice A fs.length c) fs 1 0 0 w hS hF (by omega)
 rw[show zav 1 0 0=some [77] from by decide] at key
 obtain ⟨R,hR⟩:∃ R,zaF fs (some [77])=R:=⟨_,rfl⟩
 rw[hR]
 unfold zaF at hR
 have HF:=zhd hF
 have Key:=zhd key
 clear key hF hS
 by_cases hneg:zcW fs (some [77])<0
 ·rw[if_pos hneg] at hR
  subst hR
  go_enter Tryz.func15,Tryz.ntmps15
  go_wp2_with fail
  refine Key.out.mono ?_
  rintro e w1 ⟨rfl,hE⟩
  go_wp2_with fail
  go_ret2
  exact ⟨rfl,hE⟩
 ·obtain ⟨i,hi,hil⟩:=zlB fs (some [77]) hneg
  rw[if_neg hneg,hi,show ((i:Int).toNat)=i from by omega,List.getElem?_eq_getElem hil] at hR
  have hR:some fs[i].2=R:=hR
  subst hR
  rw[hi] at Key
  obtain ⟨_,b,off,rfl,hc⟩:=HF.out.at_ (by omega)
  obtain ⟨hc0,B2,d2,hc1,hB2⟩:=hc i hil
  have hbb:=hbl _ (List.getElem_mem hil)
  generalize fs[i].2=y at *
  have HB2:=zhd hB2
  clear hc hc0 hB2 hneg hi
  have hx0:¬ ((i:Int)<0):=by omega
  have hlz:(i:Int)<(fs.length:Int):=by omega
  go_enter Tryz.func15,Tryz.ntmps15
  go_wp2_with fail
  refine Key.out.mono ?_
  rintro e w1 ⟨rfl,hE⟩
  have hcc:=hE.cell hc1
  have hcv:=zdC (P:=Tryz.prog) w1 38 9 5 Tryz.underlying38 Tryz.underlying5 Tryz.underlying9 (HB2.out.ext hE)
  clear hc1
  go_wp2_with fail
  go_ret2
  exact ⟨rfl,hE⟩
theorem zsR {fs:List Fil} (h:zeP fs=false):fs.length≤40∧∀ f∈fs,f.2.length≤2000:=by
 unfold zeP at h
 rw[Bool.or_eq_false_iff,decide_eq_false_iff_not,List.any_eq_false] at h
 obtain ⟨h1,h2⟩:=h
 refine ⟨by omega,fun f hf=>?_⟩
 rw[List.take_of_length_le (by omega)] at h2
 have:=h2 f hf
 simp only[decide_eq_true_eq] at this
 omega
theorem zkm {fs:List Fil} {l:List Sg4} {j:Nat} (h:j<l.length) {x:List Ent} (hx:zay fs l[j]=some x):zen fs (l.take (j+1))=zen fs (l.take j)+x.length:=by
 unfold zen
 rw[List.take_succ_eq_append_getElem h,List.map_append,List.sum_append]
 simp[hx]
theorem zjW {fs:List Fil} {m:Mf} (hm:zaD m=true) (he:∀ x∈m.segs,∃ y,zay fs x=some y):∀ (j:Nat),j≤m.segs.length→zen fs (m.segs.take j)≤4*j
 | 0,_=>by simp[zen]
 | j+1,h=>by
  have ih:=zjW hm he j (by omega)
  obtain ⟨y,hy⟩:=he _ (List.getElem_mem (show j<m.segs.length by omega))
  have:=(znv hm (show j<m.segs.length by omega) hy).2
  rw[zkm (by omega) hy]
  omega
theorem zqz (x:Int) (n:Nat) (hn:0<n) (hb:n≤1000000):∃ j:Nat,j<n∧(wrap64 (x.tmod (n:Int)+(n:Int))).tmod (n:Int)=(j:Int):=by
 have h0:(0:Int)<(n:Int):=by omega
 have h1:x.tmod (n:Int)<(n:Int):=Int.tmod_lt_of_pos x h0
 have h2:-(n:Int)<x.tmod (n:Int):=by
  have h3:(-x).tmod (n:Int)<(n:Int):=Int.tmod_lt_of_pos (-x) h0
  rw[Int.neg_tmod] at h3
  omega
 have h4:wrap64 (x.tmod (n:Int)+(n:Int))=x.tmod (n:Int)+(n:Int):=by unfold wrap64;omega
 rw[h4,Int.tmod_eq_emod_of_nonneg (by omega)]
 have h5:=Int.emod_nonneg (x.tmod (n:Int)+(n:Int)) (show (n:Int)≠0 by omega)
 have h6:=Int.emod_lt_of_pos (x.tmod (n:Int)+(n:Int)) h0
 exact ⟨((x.tmod (n:Int)+(n:Int)) % (n:Int)).toNat,by omega,by omega⟩
theorem idCells_get:∀ {l:List (Int×Int×Int)} {j:Nat} {k s f:Int},l[j]?=some (k,s,f)→(idCells l)[j*3]?=some (.int .u8 k)∧(idCells l)[j*3+1]?=some (.int .i64 s)∧(idCells l)[j*3+2]?=some (.int .i64 f)
 | [],j,_,_,_,h=>by simp at h
 | x::l,0,_,_,_,h=>by
  obtain rfl:x=_:=by simpa using h
  exact ⟨rfl,rfl,rfl⟩
 | x::l,j+1,k,s,f,h=>by
  obtain ⟨h1,h2,h3⟩:=@idCells_get l j k s f (by simpa using h)
  have e:idCells (x::l)=idC x++idCells l:=by unfold idCells;rw[List.flatMap_cons]
  have hl:(idC x).length=3:=rfl
  rw[e,List.getElem?_append_right (by omega),List.getElem?_append_right (by omega),List.getElem?_append_right (by omega),hl]
  rw[show (j+1)*3-3=j*3 by omega,show (j+1)*3+1-3=j*3+1 by omega,show (j+1)*3+2-3=j*3+2 by omega]
  exact ⟨h1,h2,h3⟩
theorem zrN (m:Mf):0<(zbh m).length:=by unfold zbh zfM;simp
theorem zrM (m:Mf):(zbh m).length≤m.segs.length+2:=by
 unfold zbh
 rw[List.length_append,List.length_map]
 have:=zp4 m
 omega
theorem zp5 {m:Mf} (hm:zaD m=true) {j:Nat} {k s f:Int} (h:(zbh m)[j]?=some (k,s,f)):∃ n,zav k s f=some n:=by
 rcases zgG h with ⟨_,e⟩ | ⟨_,hth⟩
 ·obtain ⟨rfl,rfl,rfl⟩:k=1∧s=0∧f=0:=by simpa using e
  exact ⟨[77],by decide⟩
 ·obtain ⟨hk,⟨h1,h2⟩,hf⟩:=zj2 hm hth
  exact ⟨_,zov hk h1 h2 hf⟩
theorem zmp {fs:List Fil} {n:List UInt8} {j:Nat} (h:j<fs.length):zaV (fs.take (j+1)) n=zaV (fs.take j) n++(if fs[j].1=n then [] else [fs[j]]):=by
 unfold zaV
 rw[List.take_succ_eq_append_getElem h,List.filter_append]
 congr 1
 by_cases hx:fs[j].1=n <;> simp[hx]
theorem zpW {fs:List Fil} {n:List UInt8} {j:Nat} (h:j<fs.length):zcu (fs.take (j+1)) n=zcu (fs.take j) n++[if fs[j].1=n then (n,[9]) else fs[j]]:=by
 unfold zcu
 rw[List.take_succ_eq_append_getElem h,List.map_append]
 rfl
theorem ziF {fs:List Fil} {n:List UInt8}:(zaV fs n).length≤fs.length:=by unfold zaV;exact List.length_filter_le _ _
theorem harm_len {fs:List Fil} {n:List UInt8}:(zcu fs n).length=fs.length:=by unfold zcu;rw[List.length_map]
theorem znp {fs:List Fil} {n:List UInt8} {f:Fil} (h:f∈zaV fs n):f∈fs:=by unfold zaV at h;exact (List.mem_filter.1 h).1
theorem zrH {fs:List Fil} {n:List UInt8} {f:Fil} (h:f∈zcu fs n):f.2.length≤1∨f∈fs:=by
 unfold zcu at h
 obtain ⟨p,hp,rfl⟩:=List.mem_map.1 h
 split
 ·exact .inl (Nat.le_refl _)
 ·exact .inr hp
def HRow (W0 W:World) (xs:List Value) (l:List Fil):Prop:=xs.length=l.length*2∧∀ (i:Nat) (hi:i<l.length),xs[i*2]?=some (sv l[i].1)∧∃ u,xs[i*2+1]?=some u∧(Bs W0 u l[i].2∨∃ g,u=.slice (some ⟨g,0,none⟩) 1 1∧Blk W g 5 #[.int .u8 9]∧l[i].2=[9])
theorem zs6 {W:World} {g:Nat} (h:Blk W g 5 #[.int .u8 9]):Bs W (.slice (some ⟨g,0,none⟩) 1 1) [9]:=by
 refine ⟨rfl,_,1,rfl,Nat.le_refl _,by simp[maxLen],fun _=>⟨g,0,rfl,fun j u hu=>?_⟩⟩
 rw[Nat.zero_add]
 match j,hu with
 | 0,hu=>cases hu;exact h.cell 0 rfl
 | j+1,hu=>cases hu
theorem HRow.fs {W0 W:World} {xs:List Value} {l:List Fil} (h:HRow W0 W xs l) (hE:Ext W0 W):FRow W xs l:=⟨h.1,fun i hi=>by
 obtain ⟨h1,u,h2,h3⟩:=h.2 i hi
 refine ⟨h1,u,h2,?_⟩
 rcases h3 with h3 | ⟨g,rfl,hb,he⟩
 ·exact h3.ext hE
 ·rw[he];exact zs6 hb⟩
theorem HRow.nil (W0 W:World):HRow W0 W [] []:=⟨rfl,fun i hi=>by simp at hi⟩
theorem HRow.grow {W0 W W':World} {xs:List Value} {l:List Fil} {row:Option Nat} (h:HRow W0 W xs l) (hg:W.grownBy W' row) (hr:∀ g cs,row=some g→W.heap[g]?≠some (.cells cs 5 (0,0))):HRow W0 W' xs l:=⟨h.1,fun i hi=>by
 obtain ⟨h1,u,h2,h3⟩:=h.2 i hi
 refine ⟨h1,u,h2,?_⟩
 rcases h3 with h3 | ⟨g,rfl,hb,he⟩
 ·exact .inl h3
 ·exact .inr ⟨g,rfl,hb.kept hg (fun e=>hr g _ e.symm hb),he⟩⟩
theorem HRow.ext {W0 W W':World} {xs:List Value} {l:List Fil} (h:HRow W0 W xs l) (hE:Ext W W'):HRow W0 W' xs l:=h.grow (Ext.grown hE none) (fun g cs e=>by cases e)
theorem HRow.snoc {W0 W:World} {xs:List Value} {l:List Fil} (h:HRow W0 W xs l) {n b:List UInt8} {u:Value} (hu:Bs W0 u b∨∃ g,u=.slice (some ⟨g,0,none⟩) 1 1∧Blk W g 5 #[.int .u8 9]∧b=[9]):HRow W0 W (xs++[sv n,u]) (l++[(n,b)]):=by
 refine ⟨by rw[List.length_append,List.length_append,h.1];simp;omega,fun i hi=>?_⟩
 have hl:=h.1
 rw[List.length_append] at hi
 by_cases hlt:i<l.length
 ·rw[List.getElem?_append_left (by omega),List.getElem?_append_left (by omega)]
  simp only[List.getElem_append_left hlt]
  exact h.2 i hlt
 ·obtain rfl:i=l.length:=by simp at hi;omega
  have e1:l.length*2-xs.length=0:=by omega
  have e2:l.length*2+1-xs.length=1:=by omega
  rw[List.getElem?_append_right (by omega),List.getElem?_append_right (by omega),e1,e2]
  simp only[List.getElem_append_right (Nat.le_refl _),Nat.sub_self,List.getElem_cons_zero]
  exact ⟨rfl,u,rfl,hu⟩
theorem zes {W:World} {base:Nat} {v:Value} {n:Nat} {xs:List Value} (h:W.ownsRow base 51 2 v n xs):∀ g cs,v.ownBlock=some g→W.heap[g]?≠some (.cells cs 5 (0,0)):=by
 intro g cs hg hh
 rcases h.2 with ⟨hn,_⟩ | ⟨g',cap,cur,e,hb,hgg,_⟩
 ·rw[hn] at hg;cases hg
 ·rw[e] at hg
  obtain rfl:g'=g:=by simpa [Value.ownBlock] using hg
  rw[hh] at hgg
  simp at hgg
theorem zj7 {W:World} {base:Nat} {v:Value} {n:Nat} {xs:List Value} (h:W.ownsRow base 51 2 v n xs) {g:Nat} (hg:v.ownBlock=some g):g<W.heap.size:=(h.lt g hg).2
theorem ziX {n:List UInt8} {A:Option Addr} {k c:Nat}:∀ u∈[sv n,.slice A k c],u.oneCell'=true:=by
 intro u hu
 simp only[List.mem_cons,List.not_mem_nil,or_false] at hu
 rcases hu with rfl | rfl <;> rfl
theorem zfF {ops:Array Oper} {rest:List Oper} {o:Oper} {a:Act} {w:World} {Q:Exit→Act→World→Prop} (hgd:o.guard=none) (s x:Operand)
  (ho:o.op=.call { callee:=.builtin .append,args:=#[s,x],argTypes:=#[22,22] })
  (W0:World) (hE0:Ext W0 w) (v:Value) (n:Nat) (xs:List Value) (hs:a.eval s=v) (hown:w.ownsRow W0.heap.size 51 2 v n xs)
  (vx:Value) (ys:List Value) (hx:a.eval x=vx) (hy:SlR w 2 vx 1 ys) (hyo:∀ u∈ys,u.oneCell'=true) (hlen:n≤1000000)
  (h:∀ A c w',w'.ownsRow W0.heap.size 51 2 (.slice A (n+1) c) (n+1) (xs++ys)→Ext W0 w'→w.grownBy w' v.ownBlock→((Value.slice A (n+1) c).ownBlock=v.ownBlock∨(Value.slice A (n+1) c).ownBlock=some w.heap.size)→wpList Tryz.prog ops Q rest (a.put o.dst (.slice A (n+1) c)) w'):wpList Tryz.prog ops Q (o::rest) a w:=by
 obtain ⟨i0,hi,hz0,hz1,hz2⟩:=info_parts zlF
 obtain ⟨v',w',hrun,h1,h2⟩:=zaT (P:=Tryz.prog) w W0.heap.size 22 o.type 51 i0 _ 2 40 Tryz.underlying22 hi hz0 hz1 hz2 rfl (by decide) v n xs hown vx 1 ys hy hyo (by unfold maxLen;omega) (by omega) hE0.size
 have hE:Ext W0 w':=Ext.grownOwn hE0 (zah hown (Nat.le_refl _)) h2
 have hblk:v'.ownBlock=v.ownBlock∨v'.ownBlock=some w.heap.size:=by
  obtain ⟨hl,A,c,rfl,_,_,hc⟩:=hy
  obtain ⟨b,off,rfl,hcell⟩:=hc (by omega)
  have hadd:∀ j,(⟨b,off,none⟩:Addr).add j=⟨b,off+j,none⟩:=by intro j;unfold Addr.add;split <;> simp_all
  exact zdf (P:=Tryz.prog) w W0.heap.size 22 o.type 51 i0 _ 2 40 Tryz.underlying22 hi hz0 hz1 hz2 v n xs hown ⟨b,off,none⟩ 1 c ys hl (by omega) (fun j u hu=>by rw[hadd];exact hcell j u hu) hyo (by unfold maxLen;omega) (by omega) hrun
 refine wpList_plain hgd fun K hK=>?_
 unfold Oper.wp execOp
 simp only[ho,resolve,invoke,builtin,Sem.run_bind,Sem.run_pure,Result.andThen_ok,List.map_toArray,List.map_cons,List.map_nil,hs,hx,hrun]
 refine hK _ _ ?_
 obtain ⟨A,c,rfl,_,_⟩:=SlR.open_ (SlR.of_own h1)
 exact h A c w' h1 hE h2 hblk
end Go.Proofs.YtgonhdeochgkoaaGreatDoor
