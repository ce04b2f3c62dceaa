/- Merged: R4d R4e Wk13 -/
import Derived.Test.YtgonhdeochgkoaaGreatDoorZt36
import Derived.Test.YtgonhdeochgkoaaGreatDoorZt37
import Derived.Lib.SlBytesConst
set_option linter.all false
set_option maxHeartbeats 8000000
set_option maxRecDepth 100000
namespace Go.Proofs.YtgonhdeochgkoaaGreatDoor
open Go.RowKit Go.Mv Go.Shelf
theorem zo7 (p:Fil):∀ l:List Fil,(zcF p l).length=l.length+1
 | []=>rfl
 | q::l=>by
  rw[zcF]
  split
  ·rw[List.length_cons,zo7 p l,List.length_cons]
  ·rfl
theorem zhz (l:List Fil) (p:Fil):(withS l p).length≤l.length+1:=by
 unfold Go.Proofs.YtgonhdeochgkoaaGreatDoor.withS;rw[zo7]
 have:=(zb0 p.1 l).length_le
 omega
theorem zhC {l:List Fil} {p q:Fil} (h:q∈withS l p):q=p∨q∈l:=by
 unfold Go.Proofs.YtgonhdeochgkoaaGreatDoor.withS at h
 rcases (ziZ p _ q).1 h with h | h
 ·exact .inl h
 ·exact .inr ((zb0 p.1 l).subset h)
theorem zrV (l:List Fil) (o:Oq):(zbt l o).length≤l.length+1:=by
 unfold zbt
 split
 ·exact zhz _ _
 ·split
  ·omega
  ·split
   ·exact zhz _ _
   ·split
    ·have:=zhz (za8 o.n l) (o.t,‹List UInt8›)
     have:=(zb0 o.n l).length_le
     omega
    ·split
     ·have:=(zb0 o.n l).length_le;omega
     ·omega
theorem zr0 {l:List Fil} {o:Oq} {M:Nat} (hM:∀ f∈l,f.2.length≤M) {q:Fil} (h:q∈zbt l o):q.2.length≤M+o.b.length:=by
 unfold zbt at h
 split at h
 ·rcases zhC h with rfl | h
  ·simp
  ·have:=hM q h;omega
 ·split at h
  ·have:=hM q h;omega
  ·rename_i b hb
   have hbm:b.length≤M:=hM _ (zcZ hb)
   split at h
   ·rcases zhC h with rfl | h
    ·dsimp only;rw[List.length_append];omega
    ·have:=hM q h;omega
   ·split at h
    ·rcases zhC h with rfl | h
     ·dsimp only;omega
     ·have:=hM q ((zb0 o.n l).subset h);omega
    ·split at h
     ·have:=hM q ((zb0 o.n l).subset h);omega
     ·have:=hM q h;omega
theorem zfS {α β:Type} (f:β→α→β) (b:β) (l:List α) {i:Nat} (h:i<l.length):(l.take (i+1)).foldl f b=f ((l.take i).foldl f b) l[i]:=by
 rw[List.take_succ_eq_append_getElem h,List.foldl_append];rfl
theorem zit {fs:List Fil}:∀ {i:Nat},i≤fs.length→((fs.take i).foldl zbl []).length≤i∧∀ f∈(fs.take i).foldl zbl [],f∈fs
 | 0,_=>⟨by simp,fun f hf=>by simp at hf⟩
 | i+1,h=>by
  obtain ⟨h1,h2⟩:=zit (fs:=fs) (i:=i) (by omega);rw[zfS _ _ _ (by omega)];unfold zbl
  split
  ·refine ⟨?_,fun f hf=>?_⟩
   ·have:=zhz ((fs.take i).foldl zbl []) (fs[i]'(by omega))
    unfold zbl at this h1;omega
   ·rcases zhC hf with rfl | hf
    ·exact List.getElem_mem _
    ·exact h2 f hf
  ·exact ⟨by unfold zbl at h1;omega,h2⟩
theorem zmS {fs:List Fil} {q:List Oq}:∀ {i:Nat},i≤q.length→((q.take i).foldl zbt (fs.foldl zbl [])).length≤fs.length+i∧∀ f∈(q.take i).foldl zbt (fs.foldl zbl []),f.2.length≤tot fs+zaT (q.take i)
 | 0,_=>by
  have h:=zit (fs:=fs) (i:=fs.length) (Nat.le_refl _);rw[List.take_length] at h
  refine ⟨by simpa using h.1,fun f hf=>?_⟩
  have:=zeY (h.2 f (by simpa using hf))
  omega
 | i+1,h=>by
  obtain ⟨h1,h2⟩:=zmS (fs:=fs) (q:=q) (i:=i) (by omega);rw[zfS _ _ _ (by omega)]
  refine ⟨?_,fun f hf=>?_⟩
  ·have:=zrV ((q.take i).foldl zbt (fs.foldl zbl [])) (q[i]'(by omega))
   omega
  ·have:=zr0 h2 hf
   rw[List.take_succ_eq_append_getElem (by omega),zd6,zb9];omega
theorem zta (v vq:Value) (fs:List Fil) (q:List Oq) (w:World) (hF:Fs w v fs) (hQ:Qs w vq q) (hl:fs.length+q.length≤900000) (hb:tot fs+zaT q≤900000) :
  Calls Tryz.prog 52 #[v,vq] w fun e w'=>(∃ v',e=.returned v'∧Fs w' v' (zed fs q))∧Ext w w':=by
 obtain ⟨A,c,rfl,h1,h2⟩:=Fs.open_ hF;obtain ⟨B,e2,rfl,_,_⟩:=Qs.open_ hQ;unfold zed;obtain ⟨R,hR⟩:∃ R,q.foldl zbt (fs.foldl zbl [])=R:=⟨_,rfl⟩;rw[hR];have HF:=zhd hF;have HQ:=zhd hQ;have HR:=zhd hR;have HB:=zhd hb;have HL:=zhd hl;clear hF hQ hR hb
 go_enter Tryz.func52,Tryz.ntmps52
 go_wp2_with fail
 go_loopw [5,6] (fun vl i wr=>∃ j:Nat,j≤fs.length∧i=.int .i64 j∧Hid (Fs wr vl ((fs.take j).foldl zbl []))∧Hid (Ext w wr)) (fun _ i _=>fs.length-(intOf i).toNat)
 case atStart=>exact ⟨0,Nat.zero_le _,rfl,⟨[],SlR.nil _ _,fun i hi=>by simp at hi⟩,Ext.refl _⟩
 case round =>
  obtain ⟨j,hj,rfl,HV,HE⟩:=hrel
  by_cases hlt:j<fs.length
  ·obtain ⟨_,b,off,rfl,hc⟩:=(HF.out.ext HE.out).at_ (by omega)
   obtain ⟨hc0,B1,d1,hc1,hB1⟩:=hc j hlt;have hfm:=(zit (fs:=fs) hj).1;have htk:=zfS zbl [] fs hlt;have HTK:=zhd htk;have HFM:=zhd hfm;have HB1:=zhd hB1;clear hc htk hfm hB1
   generalize (fs.take j).foldl zbl []=l at *
   obtain ⟨p,hp⟩:∃ p,fs[j]=p:=⟨_,rfl⟩;rw[hp] at hc0 hc1 HB1 HTK;obtain ⟨n,pb⟩:=p;dsimp only at hc0 hc1 HB1;have key:=zis _ l n _ HV.out (by have:=HFM.out;omega);have hpg:=@place_get n l
   have hjz:(j:Int)<(fs.length:Int):=by omega
   unfold sv at key hc0;have Key:=zhd key;clear key hp;go_wp2_with fail
   refine Key.out.mono ?_
   rintro e w1 ⟨rfl,rfl⟩
   rcases hpg with ⟨hneg,hg⟩ | ⟨i,hi,hpi,hg⟩
   ·have hfr:zbl l (n,pb)=withS l (n,pb):=by unfold zbl;rw[if_pos (by rw[hg];rfl)]
    have HFR:=zhd hfr;have hw:=zgs _ l n pb _ _ HV.out HB1.out (by have:=HFM.out;omega);unfold sv at hw;have Hw:=zhd hw;clear hg hfr hw;go_wp2_with fail
    refine Hw.out.mono ?_
    rintro e w9 ⟨⟨v9,rfl,hF9⟩,hE9⟩;go_wp2_with fail
    go_roundw
    case rel=>exact ⟨j+1,by omega,by go_num,by unfold Hid;rw[HTK.out,HFR.out];exact hF9,Ext.trans HE.out hE9⟩
    case measure=>simp[intOf];omega
   ·have hfr:zbl l (n,pb)=l:=by unfold zbl;rw[if_neg (by rw[hg];simp)]
    have HFR:=zhd hfr
    have hin:¬ (za5 l n<0):=by omega
    clear hg hfr hpi;go_wp2_with fail
    go_roundw
    case rel=>exact ⟨j+1,by omega,by go_num,by unfold Hid;rw[HTK.out,HFR.out];exact HV.out,HE.out⟩
    case measure=>simp[intOf];omega
  ·obtain rfl:j=fs.length:=by omega
   rw[List.take_length] at HV;go_wp2_with fail
   go_loopw [5,7] (fun vl i wr2=>∃ j:Nat,j≤q.length∧i=.int .i64 j∧Hid (Fs wr2 vl ((q.take j).foldl zbt (fs.foldl zbl [])))∧Hid (Ext w wr2)) (fun _ i _=>q.length-(intOf i).toNat)
   case atStart=>exact ⟨0,Nat.zero_le _,rfl,HV,HE⟩
   case round =>
    clear HV HE;obtain ⟨j,hj,rfl,HV,HE⟩:=hrel
    by_cases hlt:j<q.length
    ·obtain ⟨_,b,off,rfl,hc⟩:=(HQ.out.ext HE.out).at_ (by omega)
     obtain ⟨hc0,hc1,hc2,B3,d3,hc3,hB3⟩:=hc j hlt;have hdm:=zmS (fs:=fs) (q:=q) hj;have htk:=zfS zbt (fs.foldl zbl []) q hlt
     have htq:zaT (q.take j)+q[j].b.length≤zaT q:=by
      have h1:=congrArg zaT (List.take_append_drop (j+1) q);rw[zd6,List.take_succ_eq_append_getElem hlt,zd6,zb9] at h1;omega
     have HTK:=zhd htk;have HDM:=zhd hdm;have HTQ:=zhd htq;have HB3:=zhd hB3;clear hc htk hdm hB3 htq
     have key:=zru _ _ q[j] _ _ HV.out HB3.out (by have h1:=HDM.out.1;have h2:=HL;omega) (fun f hf=>by have h1:=HDM.out.2 f hf;have h2:=HTQ.out;have h3:=HB.out;omega)
     rw[←HTK.out] at key;obtain ⟨o,ho⟩:∃ o,q[j]=o:=⟨_,rfl⟩;rw[ho] at hc0 hc1 hc2 hc3 key;obtain ⟨ok,on,ot,ob⟩:=o;dsimp only at hc0 hc1 hc2 hc3 key
     have hjz:(j:Int)<(q.length:Int):=by omega
     unfold sv at key hc1 hc2;have Key:=zhd key;clear key ho HB3;go_wp2_with fail
     refine Key.out.mono ?_
     rintro e w9 ⟨⟨v9,rfl,hF9⟩,hE9⟩;clear hc0 hc1 hc2 hc3;go_wp2_with fail
     go_roundw
     case rel=>exact ⟨j+1,by omega,by go_num,hF9,Ext.trans HE.out hE9⟩
     case measure=>simp[intOf];omega
    ·obtain rfl:j=q.length:=by omega
     rw[List.take_length,HR.out] at HV;go_wp2_with fail;go_ret
     exact ⟨⟨_,rfl,HV.out⟩,HE.out⟩
theorem ztT (tmps:Array Value) (W:World) (b:Nat) (cs:Array Value) (h4:tmps.getD 2 undef=.pointer (some ⟨b,0,none⟩)) (hb:Blk W b 25 cs) (hs:cs.size=5):(results Tryz.f51 tmps).run Tryz.prog W=.ok (.agg cs) W:=by
 have hl:=hb.load (P:=Tryz.prog) ziq rfl (by rw[hs];kernel_rfl)
 have h4':tmps[2]?.getD undef=.pointer (some ⟨b,0,none⟩):=by simpa using h4
 simp[results,Tryz.results51,h4',asAddr,hl]
theorem zjn {α:Type} (l:List α) {k:Nat} (h:k≤l.length):(l.take k).length=k:=by rw[List.length_take];omega
theorem ztd {W:World} {base:Nat} {v:Value} {l:List Fil} (h:OwnF W base v l) {n:List UInt8} {b2:Nat} {u:Value} {bs:List UInt8} (hu:OwnB W b2 u bs):∀ g,v.ownBlock=some g→∀ x∈[sv n,u],zbx g x:=by
 intro g hg x hx;obtain ⟨_,cs,hcs⟩:=zcT h hg;simp only[List.mem_cons,List.not_mem_nil,or_false] at hx
 rcases hx with rfl | rfl
 ·exact za2 _ _
 ·exact OwnB.awayT hu hcs (by decide)
theorem zs1 (v:Value) (d:Dk) (w:World) (hD:DkV w v d) (hl:d.fs.length+d.q.length≤900000) (hb:tot d.fs+zaT d.q≤900000) :
  Calls Tryz.prog 51 #[v] w fun e w'=>∃ u,e=.returned u∧zjG w' w.heap.size u d∧Ext w w':=by
 obtain ⟨vf,vq,rfl,hF,hQ⟩:=hD;obtain ⟨A,c,rfl,_,_⟩:=Fs.open_ hF;obtain ⟨B,e2,rfl,_,_⟩:=Qs.open_ hQ;obtain ⟨W0,hW0⟩:∃ W0,(w.alloc (.cells #[.slice A d.fs.length c,.slice B d.q.length e2,.int .i64 d.quota,.int .i64 d.fuse,.bool d.dead] 25)).alloc (.cells #[.slice none 0 0,.slice none 0 0,.int .i64 0,.int .i64 0,.bool false] 25)=W0:=⟨_,rfl⟩
 have hE0:Ext w W0:=by rw[←hW0];exact Ext.alloc (Ext.alloc (Ext.refl _) _) _
 have h0:Blk W0 w.heap.size 25 (zaE A d.fs.length c B d.q.length e2 d.quota d.fuse d.dead):=by rw[←hW0];exact (Blk.new w _ _).alloc _
 have h1:Blk W0 (w.heap.size+1) 25 (zaE none 0 0 none 0 0 0 0 false):=by
  rw[←hW0]
  have:=Blk.new (w.alloc (.cells #[.slice A d.fs.length c,.slice B d.q.length e2,.int .i64 d.quota,.int .i64 d.fuse,.bool d.dead] 25)) 25 #[.slice none 0 0,.slice none 0 0,.int .i64 0,.int .i64 0,.bool false]
  rwa [World.size_alloc] at this
 have hz0:W0.heap.size=w.heap.size+1+1:=by rw[←hW0,World.size_alloc,World.size_alloc]
 have HE0:=zhd hE0;have H0:=zhd h0;have H1:=zhd h1;have HF:=zhd (hF.ext hE0);have HQ:=zhd (hQ.ext hE0);have HB:=zhd hb;have HL:=zhd hl;have HZ0:=zhd hz0;obtain ⟨i0,hi,hz0',hz1,hz2⟩:=info_parts zli;clear h0 h1 hF hQ hE0 hb hl hz0
 go_enter Tryz.func51,Tryz.ntmps51
 go_wp2_with fail;clear hW0
 go_loopw [3,4] (fun vl i wr=>∃ j:Nat,j≤d.fs.length∧i=.int .i64 j∧(∃ A' c',vl=.slice A' j c')∧Hid (OwnF wr W0.heap.size vl (d.fs.take j))∧Hid (Ext W0 wr)) (fun _ i _=>d.fs.length-(intOf i).toNat)
 case atStart=>exact ⟨0,Nat.zero_le _,rfl,⟨_,_,rfl⟩,OwnX.nil _ _ _,Ext.refl _⟩
 case round =>
  obtain ⟨j,hj,rfl,⟨A',c',rfl⟩,HO,HE⟩:=hrel;obtain ⟨s0,s1,_,_,_⟩:=zac H0.out;have d0:=HE.out.cell s0
  by_cases hlt:j<d.fs.length
  ·obtain ⟨_,b,off,rfl,hc⟩:=HF.out.at_ (by omega)
   obtain ⟨t0,B1,d1',t1,hB1⟩:=hc j hlt
   have htk:d.fs.take (j+1)=d.fs.take j++[d.fs[j]]:=List.take_succ_eq_append_getElem hlt
   have hbl:=zeY (List.getElem_mem hlt);have HTK:=zhd htk;have HB1:=zhd hB1;have hlen:=zjn d.fs hj;have HLEN:=zhd hlen
   have hbl2:d.fs[j].2.length≤900000:=by have:=HB.out;omega
   have HBL:=zhd hbl2;clear hc htk hB1 hbl hlen hbl2;obtain ⟨p,hp⟩:∃ p,d.fs[j]=p:=⟨_,rfl⟩;rw[hp] at t0 t1 HB1 HTK HBL;obtain ⟨n,pb⟩:=p;dsimp only at t0 t1 HB1 HBL
   have hjz:(j:Int)<(d.fs.length:Int):=by omega
   unfold sv at t0;clear hp
   have hold:∀ X,Ext W0 X→X.cell? ⟨w.heap.size,0,none⟩=some (.slice (some ⟨b,off,none⟩) d.fs.length c)∧X.cell? ⟨b,off+j*2,none⟩=some (.string ⟨n.toArray⟩)∧X.cell? ⟨b,off+j*2+1,none⟩=some (.slice B1 pb.length d1'):=fun X h=>⟨h.cell s0,h.cell t0,h.cell t1⟩
   obtain ⟨_,hc0,hc1⟩:=hold wr HE.out;have HOLD:=zhd hold;clear hold s0 s1 t0 t1;go_wp2_with fail
   refine wp_region_held_drew (S:=fun W=>W.cell? ⟨w.heap.size,0,none⟩=some (.slice (some ⟨b,off,none⟩) d.fs.length c)∧W.cell? ⟨b,off+j*2,none⟩=some (.string ⟨n.toArray⟩)∧W.cell? ⟨b,off+j*2+1,none⟩=some (.slice B1 pb.length d1')) (by kernel_rfl) ⟨d0,hc0,hc1⟩ (fun _=>?_)
   clear d0 hc0 hc1;refine tkN 0 rfl ?_;refine tkN 1 rfl ?_;refine tkN 2 rfl ?_;refine tkN 3 rfl ?_;refine tkN 4 rfl ?_;refine tkN 5 rfl ?_;refine tkN 6 rfl ?_;refine tkN 8 rfl ?_;refine tkN 9 rfl ?_;refine tkN 10 rfl ?_;refine tkN 11 rfl ?_;refine tkN 12 rfl ?_;refine tkN 13 rfl ?_
   refine ar1 7 rfl (fun K hK=>?_)
   go_simp
   have hEe:Ext wr (wr.alloc (.cells #[] 5)).drew:=Ext.drew (Ext.alloc (Ext.refl _) _)
   have hoe:OwnB (wr.alloc (.cells #[] 5)).drew wr.heap.size (.slice (some ⟨wr.heap.size,0,none⟩) 0 0) []:=zag (zez wr) (Ext.drew (Ext.refl _))
   refine shK hK _ _ (HOLD.out _ (Ext.trans HE.out hEe)) (fun _=>?_)
   refine ar1 14 rfl (fun K hK=>?_)
   refine ziS (.tmp 22) (.tmp 28) rfl wr.heap.size _ [] rfl hoe _ pb rfl (HB1.out.ext (Ext.trans HE.out hEe)) (by have:=HBL.out;simp;omega) hEe.size ?_
   intro A5 c5 w5 ho5 hG5;have hE5:=hG5 _ hEe (Nat.le_refl _)
   simp only[List.length_nil,Nat.zero_add,List.nil_append] at ho5 ⊢
   refine shK hK _ _ (HOLD.out _ (Ext.trans HE.out hE5)) (fun _=>?_)
   refine tkN 15 rfl ?_
   refine ar1 16 rfl (fun K hK=>?_)
   go_simp
   have hE6':Ext w5 (w5.alloc (.cells #[.string ⟨n.toArray⟩,.slice A5 pb.length c5] 51)):=Ext.alloc (Ext.refl _) _
   have hE6:=Ext.trans hE5 hE6';have hs6:=zdq (Blk.new w5 51 #[.string ⟨n.toArray⟩,.slice A5 pb.length c5]);have ho6:=zag ho5 hE6';have hof:=OwnX.ext zbP HO.out hE6;have haw:=ztd (n:=n) hof ho6
   refine shK hK _ _ (HOLD.out _ (Ext.trans HE.out hE6)) (fun _=>?_)
   refine ar1 17 rfl (fun K hK=>?_)
   refine znU zbP (.tmp 15) (.tmp 31) 22 rfl 51 i0 _ 40 Tryz.underlying22 hi hz0' hz1 hz2 rfl (by decide) (by decide) W0.heap.size _ (d.fs.take j) rfl hof _ [(n,pb)] [sv n,.slice A5 pb.length c5] rfl hs6 (zka (SlR.of_own ho6)) (by simp) haw (by rw[HLEN.out];have:=HL.out;simp;omega) (Ext.trans HE.out hE6).size ?_
   intro A7 c7 w7 ho7 hG7 _;have hE7:=hG7 W0 (Ext.trans HE.out hE6) (Nat.le_refl _)
   simp only[List.length_cons,List.length_nil,Nat.zero_add,HLEN.out] at ho7 ⊢
   rw[←HTK.out] at ho7
   refine shK hK _ _ (HOLD.out _ hE7) (fun _=>?_)
   refine tkN 18 rfl ?_;refine wpAnyH_done (by kernel_rfl) ?_ _;go_wp2_with fail
   go_roundw
   case rel=>exact ⟨j+1,by omega,by go_num,⟨_,_,rfl⟩,ho7,hE7⟩
   case measure=>simp[intOf];omega
  ·obtain rfl:j=d.fs.length:=by omega
   rw[List.take_length] at HO;have hfs:=HO.out;have HFS:=zhd hfs;have hE1:=HE.out;have HW1:=zhd hE1;obtain ⟨iq,hqi,hqz0,hqz1,hqz2⟩:=info_parts ziY;clear s0 hfs hE1 HO HE;go_wp2_with fail
   go_loopw [5,6] (fun vl i wr2=>∃ k:Nat,k≤d.q.length∧i=.int .i64 k∧(∃ A2 c2,vl=.slice A2 k c2)∧Hid (OwnQ wr2 wr.heap.size vl (d.q.take k))∧Hid (Ext wr wr2)) (fun _ i _=>d.q.length-(intOf i).toNat)
   case atStart=>exact ⟨0,Nat.zero_le _,rfl,⟨_,_,rfl⟩,OwnX.nil _ _ _,Ext.refl _⟩
   case round =>
    rename World=>wr2
    clear d0;obtain ⟨k,hk,rfl,⟨A2,c2,rfl⟩,HOQ,HE2⟩:=hrel;have hE02:=Ext.trans HW1.out HE2.out;have d1:=hE02.cell s1
    by_cases hlt:k<d.q.length
    ·obtain ⟨_,b,off,rfl,hc⟩:=(HQ.out.ext hE02).at_ (by omega)
     obtain ⟨hc0,hc1,hc2,B3,d3,hc3,hB3⟩:=hc k hlt
     have htk:d.q.take (k+1)=d.q.take k++[d.q[k]]:=List.take_succ_eq_append_getElem hlt
     have hbl:=zj0 (List.getElem_mem hlt)
     have hbl2:d.q[k].b.length≤900000:=by have:=HB.out;omega
     have hlen:=zjn d.q hk;have HTK:=zhd htk;have HB3:=zhd hB3;have HLEN:=zhd hlen;have HBL:=zhd hbl2;clear hc htk hB3 hbl hbl2 hlen;obtain ⟨o,ho⟩:∃ o,d.q[k]=o:=⟨_,rfl⟩;rw[ho] at hc0 hc1 hc2 hc3 HB3 HTK HBL;obtain ⟨ok,on,ot,ob⟩:=o;dsimp only at hc0 hc1 hc2 hc3 HB3 HBL
     have hkz:(k:Int)<(d.q.length:Int):=by omega
     unfold sv at hc1 hc2
     have hX1:Ext wr2 (wr2.alloc (.cells #[.int .u8 ok,.string ⟨on.toArray⟩,.string ⟨ot.toArray⟩,.slice B3 ob.length d3] 86)):=Ext.alloc (Ext.refl _) _
     have hbx:=Blk.new wr2 86 #[.int .u8 ok,.string ⟨on.toArray⟩,.string ⟨ot.toArray⟩,.slice B3 ob.length d3]
     have hX2:Ext (wr2.alloc (.cells #[.int .u8 ok,.string ⟨on.toArray⟩,.string ⟨ot.toArray⟩,.slice B3 ob.length d3] 86)) ((wr2.alloc (.cells #[.int .u8 ok,.string ⟨on.toArray⟩,.string ⟨ot.toArray⟩,.slice B3 ob.length d3] 86)).alloc (.cells #[] 5)):=Ext.alloc (Ext.refl _) _
     have hoe:=zez (wr2.alloc (.cells #[.int .u8 ok,.string ⟨on.toArray⟩,.string ⟨ot.toArray⟩,.slice B3 ob.length d3] 86));rw[World.size_alloc] at hoe;have hb3:=HB3.out.ext (Ext.trans hX1 hX2)
     have hsz:wr2.heap.size+1≤((wr2.alloc (.cells #[.int .u8 ok,.string ⟨on.toArray⟩,.string ⟨ot.toArray⟩,.slice B3 ob.length d3] 86)).alloc (.cells #[] 5)).heap.size:=by rw[World.size_alloc,World.size_alloc];omega
     obtain ⟨x0,x1,x2,x3⟩:=zay hbx;have HOE:=zhd hoe;have HX1:=zhd hX1;have HX2:=zhd hX2;have HBX:=zhd hbx;have HB3':=zhd hb3;have HSZ:=zhd hsz;clear hX1 hbx hX2 hoe hb3 hsz ho hE02
     go_wp2_with (first
      | (at_builtin;refine zdN rfl (.tmp 45) (.tmp 47) rfl (wr2.heap.size+1) _ [] rfl HOE.out _ ob rfl HB3'.out (by have:=HBL.out;simp;omega) HSZ.out ?_;intro A5 c5 w5 ho5 hG5;simp only[List.length_nil,Nat.zero_add,List.nil_append] at ho5 ⊢;have hE5:=hG5 _ HX2.out (by rw[World.size_alloc];omega);have hb5:=HBX.out.ext hE5;clear x0 x1 x2 x3;obtain ⟨x0,x1,x2,x3⟩:=zay hb5;have f3:=hb5.frozen 3;have HO5:=zhd ho5;have HE5:=zhd hE5;have HB5:=zhd hb5;clear ho5 hG5 hE5 hb5)
      | (at_builtin
         have hE6:Ext wr2 (w5.setCell ⟨wr2.heap.size,3,none⟩ (.slice A5 ob.length c5)):=Below.setCell (p:=⟨wr2.heap.size,3,none⟩) (Ext.trans HX1.out HE5.out) (Nat.le_refl _) _
         have hE7':Ext (w5.setCell ⟨wr2.heap.size,3,none⟩ (.slice A5 ob.length c5)) ((w5.setCell ⟨wr2.heap.size,3,none⟩ (.slice A5 ob.length c5)).alloc (.cells #[.int .u8 ok,.string ⟨on.toArray⟩,.string ⟨ot.toArray⟩,.slice A5 ob.length c5] 86)):=Ext.alloc (Ext.refl _) _
         have hE7:=Ext.trans hE6 hE7';have ho6:=HO5.out.kept (zaa _ wr2.heap.size 3 (.slice A5 ob.length c5)) (.inr (HB5.out.not_row (by decide) HO5.out).symm)
         have ho7:OwnB ((w5.setCell ⟨wr2.heap.size,3,none⟩ (.slice A5 ob.length c5)).alloc (.cells #[.int .u8 ok,.string ⟨on.toArray⟩,.string ⟨ot.toArray⟩,.slice A5 ob.length c5] 86)) (wr2.heap.size+1) (.slice A5 ob.length c5) ob:=zag ho6 hE7'
         have hoq:=OwnX.ext zcS HOQ.out hE7
         have haw:∀ g,(Value.slice A2 k c2).ownBlock=some g→∀ u∈[.int .u8 ok,.string ⟨on.toArray⟩,.string ⟨ot.toArray⟩,.slice A5 ob.length c5],zbx g u:=by
          intro g hg u hu;have hgl:=znj HOQ.out hg;simp only[List.mem_cons,List.not_mem_nil,or_false] at hu
          rcases hu with rfl | rfl | rfl | rfl
          ·exact zeO _ _ _
          ·exact za2 _ on
          ·exact za2 _ ot
          ·exact ho7.away (by omega)
         refine zeK zcS rfl (.tmp 50) (.tmp 52) 23 rfl 86 iq _ 64 Tryz.underlying23 hqi hqz0 hqz1 hqz2 rfl (by decide) (by decide) wr.heap.size _ (d.q.take k) rfl hoq _ [⟨ok,on,ot,ob⟩] [.int .u8 ok,.string ⟨on.toArray⟩,.string ⟨ot.toArray⟩,.slice A5 ob.length c5] rfl (zeH (w5.setCell ⟨wr2.heap.size,3,none⟩ (.slice A5 ob.length c5)) [.int .u8 ok,.string ⟨on.toArray⟩,.string ⟨ot.toArray⟩,.slice A5 ob.length c5] 86 4 rfl (by simp only[World.size_setCell])) (zf9 (o:=⟨ok,on,ot,ob⟩) (SlR.of_own ho7)) (by simp) haw (by rw[HLEN.out];have:=HL.out;simp;omega) (Ext.trans HE2.out hE7).size ?_
         intro A9 c9 w9 ho9 hG9 _
         simp only[List.length_cons,List.length_nil,Nat.zero_add,HLEN.out] at ho9 ⊢
         rw[←HTK.out] at ho9;have hE9:=hG9 wr (Ext.trans HE2.out hE7) (Nat.le_refl _);have HO9:=zhd ho9;have HE9:=zhd hE9
         clear hE6 hE7' hE7 ho6 ho7 hoq haw ho9 hG9 hE9))
     go_roundw
     case rel=>exact ⟨k+1,by omega,by go_num,⟨_,_,rfl⟩,HO9,HE9⟩
     case measure=>simp[intOf];omega
    ·obtain rfl:k=d.q.length:=by omega
     rw[List.take_length] at HOQ;have hb0:=H0.out.ext hE02;have hb1:=H1.out.ext hE02;have hE:=Ext.trans HE0.out hE02;have hb1':=(hb1.other (by omega:w.heap.size+1≠w.heap.size) 0 (.slice A' d.fs.length c')).other (by omega:w.heap.size+1≠w.heap.size) 1 (.slice A2 d.q.length c2)
     have hb0a:Blk (wr2.setCell ⟨w.heap.size,0,none⟩ (.slice A' d.fs.length c')) w.heap.size 25 (zaE A' d.fs.length c' B d.q.length e2 d.quota d.fuse d.dead):=hb0.set 0 (.slice A' d.fs.length c')
     have hof1:OwnF ((wr2.setCell ⟨w.heap.size,0,none⟩ (.slice A' d.fs.length c')).setCell ⟨w.heap.size,1,none⟩ (.slice A2 d.q.length c2)) W0.heap.size (.slice A' d.fs.length c') d.fs:=OwnF.setD (OwnF.setD (OwnX.ext zbP HFS.out HE2.out) (by decide) hb0 zaG) (by decide) hb0a zaG
     have hoq1:OwnQ ((wr2.setCell ⟨w.heap.size,0,none⟩ (.slice A' d.fs.length c')).setCell ⟨w.heap.size,1,none⟩ (.slice A2 d.q.length c2)) wr.heap.size (.slice A2 d.q.length c2) d.q:=OwnQ.setD (OwnQ.setD HOQ.out (by decide) hb0 zaG) (by decide) hb0a zaG
     have hof2:=OwnF.box1 (A':=A') (n':=d.fs.length) (c':=c') (B':=A2) (m':=d.q.length) (e':=c2) (q':=d.quota) (f':=d.fuse) (d':=d.dead) hof1 hb1';have hoq2:=OwnQ.box1 (A':=A') (n':=d.fs.length) (c':=c') (B':=A2) (m':=d.q.length) (e':=c2) (q':=d.quota) (f':=d.fuse) (d':=d.dead) hoq1 hb1'
     have hee:Ext w (zeF ((wr2.setCell ⟨w.heap.size,0,none⟩ (.slice A' d.fs.length c')).setCell ⟨w.heap.size,1,none⟩ (.slice A2 d.q.length c2)) (w.heap.size+1) (.slice A' d.fs.length c') (.slice A2 d.q.length c2) (.int .i64 d.quota) (.int .i64 d.fuse) (.bool d.dead)):=zaL (Below.setCell (p:=⟨w.heap.size,1,none⟩) (Below.setCell (p:=⟨w.heap.size,0,none⟩) hE (Nat.le_refl _) _) (Nat.le_refl _) _) (Nat.le_succ _) (.slice A' d.fs.length c') (.slice A2 d.q.length c2) (.int .i64 d.quota) (.int .i64 d.fuse) (.bool d.dead)
     have hbf:=zaS hb1' (.slice A' d.fs.length c') (.slice A2 d.q.length c2) (.int .i64 d.quota) (.int .i64 d.fuse) (.bool d.dead);have HOF2:=zhd (OwnX.base hof2 HE0.out.size);have HOQ2:=zhd (OwnX.base hoq2 (Nat.le_trans HE0.out.size HW1.out.size));have HEE:=zhd hee;have HBF:=zhd hbf;obtain ⟨x0,x1,x2,x3,x4⟩:=zac hb0;obtain ⟨y0,y1,y2,y3,y4⟩:=zby hb0;obtain ⟨z0,z1,z2,z3,z4⟩:=zac hb1;obtain ⟨v0,v1,v2,v3,v4⟩:=zby hb1;clear hb0 hb1 hb1' hb0a hof1 hoq1 hof2 hoq2 hee hbf hE hE02 d1;go_wp2_with fail
     refine bodyPost_ret (ztT _ _ _ _ rfl HBF.out rfl) rfl ?_
     exact ⟨_,rfl,⟨_,_,_,_,rfl,HOF2.out,HOQ2.out⟩,HEE.out⟩
theorem zdx (v:Value) (d:Dk) (w:World) (hD:DkV w v d) (hl:d.fs.length+d.q.length≤900000) (hb:tot d.fs+zaT d.q≤900000) :
  Calls Tryz.prog 23 #[v] w fun e w'=>(∃ v',e=.returned v'∧Fs w' v' d.now)∧Ext w w':=by
 obtain ⟨vf,vq,rfl,hF,hQ⟩:=hD;obtain ⟨A,c,rfl,_,_⟩:=Fs.open_ hF;obtain ⟨B,e2,rfl,_,_⟩:=Qs.open_ hQ
 have hX:Ext w (w.alloc (.cells #[.slice A d.fs.length c,.slice B d.q.length e2,.int .i64 d.quota,.int .i64 d.fuse,.bool d.dead] 25)):=Ext.alloc (Ext.refl _) _
 have hb0:Blk _ w.heap.size 25 (zaE A d.fs.length c B d.q.length e2 d.quota d.fuse d.dead):=Blk.new w _ _
 have key:=zs1 _ d _ (show DkV (w.alloc (.cells #[.slice A d.fs.length c,.slice B d.q.length e2,.int .i64 d.quota,.int .i64 d.fuse,.bool d.dead] 25)) (.agg #[.slice A d.fs.length c,.slice B d.q.length e2,.int .i64 d.quota,.int .i64 d.fuse,.bool d.dead]) d from ⟨_,_,rfl,hF.ext hX,hQ.ext hX⟩) hl hb
 obtain ⟨g0,g1,g2,g3,g4⟩:=zac hb0;have Key:=zhd key;have HX:=zhd hX;have HB0:=zhd hb0;have HL:=zhd hl;have HB:=zhd hb;clear key hX hb0 hF hQ hl hb
 go_enter Tryz.func23,Tryz.ntmps23
 go_wp2_with fail
 refine Key.out.mono ?_
 rintro e w1 ⟨u,rfl,⟨A1,c1,B1,e1,rfl,hof,hoq⟩,hE1⟩;have hb1:=HB0.out.ext hE1;have hof1:=OwnF.box1 (A':=A1) (n':=d.fs.length) (c':=c1) (B':=B1) (m':=d.q.length) (e':=e1) (q':=d.quota) (f':=d.fuse) (d':=d.dead) hof hb1;have hoq1:=OwnQ.box1 (A':=A1) (n':=d.fs.length) (c':=c1) (B':=B1) (m':=d.q.length) (e':=e1) (q':=d.quota) (f':=d.fuse) (d':=d.dead) hoq hb1;have hE2:=zaL (Ext.trans HX.out hE1) (Nat.le_refl w.heap.size) (.slice A1 d.fs.length c1) (.slice B1 d.q.length e1) (.int .i64 d.quota) (.int .i64 d.fuse) (.bool d.dead);have key2:=zta _ _ d.fs d.q _ (OwnF.fs hof1) (OwnQ.qs hoq1) HL.out HB.out;clear g0 g1 g2 g3 g4;obtain ⟨g0,g1,g2,g3,g4⟩:=zac hb1;obtain ⟨f0,f1,f2,f3,f4⟩:=zby hb1;have Key2:=zhd key2;have HE2:=zhd hE2;clear key2 hE2 hof1 hoq1 hb1 hof hoq hE1;go_wp2_with fail
 refine Key2.out.mono ?_
 rintro e w2 ⟨⟨v2,rfl,hF2⟩,hE3⟩;have HF2:=zhd hF2;have HE3:=zhd (Ext.trans HE2.out hE3);clear g0 g1 g2 g3 g4 f0 f1 f2 f3 f4 hF2 hE3;go_wp2_with fail;go_ret
 exact ⟨⟨_,rfl,HF2.out⟩,HE3.out⟩
def m13:Mf:=⟨1,3,2,0,0,[]⟩
def b13:List UInt8:=[77,1,3,2,0,0,0,49,129,35,90]
def d13:Dk:=⟨[],[],100,0,false⟩
def e13:Dk:=⟨[([77],b13)],[],100,0,false⟩
theorem zu2:zbm m13=some b13:=by decide
theorem ztI:zb5 d13 m13=(e13,0):=by rfl
theorem zvQ:zb5 e13 mf0=(e13,2):=by rfl
theorem zu1:e13.now=[([77],b13)]:=by rfl
theorem ztJ:zaI e13.now=⟨0,⟨⟨0,0,0,1,false⟩,[],3,2⟩,m13⟩:=by rfl
theorem zuZ:zaI [([77],[120])]=zbM 130:=by rfl
theorem zu0:zaI []=zbM 42:=by rfl
theorem zwm:Sz 100 d13:=⟨by decide,by decide,by decide⟩
theorem zuu:Sz 100 e13:=⟨by decide,by decide,by decide⟩
theorem zvX (W:World):Qs W (.slice none 0 0) []:=⟨[],SlR.nil W 4,RowOf.nil⟩
theorem zv2 (w:World) (hS:StW w):Calls Tryz.prog 12 #[.agg #[.slice none 0 0,.slice none 0 0,.int .i64 100,.int .i64 0,.bool false],.agg #[.int .i64 1,.int .i64 3,.int .i64 2,.int .i64 0,.int .i64 0,.slice none 0 0]] w (zms w (e13,0)):=by
 have h:=zih _ d13 100 m13 (.slice none 0 0) w hS (show DkV w (.agg #[.slice none 0 0,.slice none 0 0,.int .i64 100,.int .i64 0,.bool false]) d13 from ⟨_,_,rfl,zrE w,zvX w⟩) zwm (by decide) (Sgs.nil w) (by decide) (by decide) (fun b hb=>by rw[zu2] at hb;cases hb;decide)
 rw[ztI] at h
 exact h
theorem zvp (v:Value) (w:World) (hS:StW w) (hD:DkV w v e13):Calls Tryz.prog 12 #[v,.agg #[.int .i64 0,.int .i64 0,.int .i64 0,.int .i64 0,.int .i64 0,.slice none 0 0]] w (zms w (e13,2)):=by
 have h:=zih v e13 100 mf0 (.slice none 0 0) w hS hD zuu (by decide) (Sgs.nil w) (by decide) (by decide) (fun b hb=>by rw[show zbm mf0=none by decide] at hb;cases hb)
 rw[zvQ] at h
 exact h
theorem zuE (W:World) (x:UInt8):Bs (W.alloc (.cells #[bv x] 5 (1,2))) (.slice (some ⟨W.heap.size,0,none⟩) 1 1) [x]:=by
 refine ⟨rfl,_,1,rfl,Nat.le_refl _,by simp[maxLen],fun _=>⟨W.heap.size,0,rfl,fun j u hu=>?_⟩⟩
 rw[Nat.zero_add]
 have hb:(W.alloc (.cells #[bv x] 5 (1,2))).heap[W.heap.size]?=some (.cells #[bv x] 5 (1,2)):=World.alloc_heap_new W _
 match j,hu with
 | 0,hu=>cases hu;unfold World.cell?;rw[hb];rfl
 | j+1,hu=>cases hu
theorem zaO (w:World) (hS:StW w):Calls Tryz.prog 11 #[] w fun e w'=>e=.returned (.bool true)∧Ext w w':=by
 have key:=zen (.slice none 0 0) [] w hS (zrE w) (by decide) (fun f hf=>by cases hf)
 rw[zu0] at key;have Key:=zhd key;have HS:=zhd hS;clear key hS
 go_enter Tryz.func11,Tryz.ntmps11
 go_wp2_with fail
 refine Key.out.mono ?_
 rintro e w1 ⟨vl,vs,rfl,hes,hss,hE1⟩;obtain ⟨A1,c1,rfl,_,_⟩:=SlR.open_ hes;obtain ⟨A2,c2,rfl,_,_⟩:=Sgs.open_ hss;have HE1:=zhd hE1;clear hes hss hE1 Key
 dsimp only[zbM,zem,mf0,znE]
 go_wp2_with fail
 have hE1a:=fun o1 o2=>Ext.alloc (Ext.alloc HE1.out o1) o2
 refine (zs0 100 (by decide) _).mono ?_
 rintro e w2 ⟨rfl,hE2⟩
 have HE2:Hid (Ext w w2):=zhd (Ext.trans (hE1a _ _) hE2)
 clear hE1a hE2;go_wp2_with fail
 refine (zv2 _ (HS.out.ext HE2.out)).mono ?_
 rintro e w3 ⟨u,rfl,⟨A3,c3,B3,e3,rfl,of,oq⟩,hE3⟩;have HE3:=zhd (Ext.trans HE2.out hE3);clear hE3;dsimp only;go_wp2_with fail
 have hdk:DkV w3 (.agg #[.slice A3 e13.fs.length c3,.slice B3 e13.q.length e3,.int .i64 e13.quota,.int .i64 e13.fuse,.bool e13.dead]) e13:=⟨_,_,rfl,OwnF.fs of,OwnQ.qs oq⟩
 have hbd:=Blk.new w3 25 #[.slice A3 e13.fs.length c3,.slice B3 e13.q.length e3,.int .i64 e13.quota,.int .i64 e13.fuse,.bool e13.dead]
 have hX3:Ext w3 (w3.alloc (.cells #[.slice A3 e13.fs.length c3,.slice B3 e13.q.length e3,.int .i64 e13.quota,.int .i64 e13.fuse,.bool e13.dead] 25)):=Ext.alloc (Ext.refl _) _
 have HBD:=zhd hbd;have HX3:=zhd (Ext.trans HE3.out hX3);have HDK:=zhd (hdk.ext hX3);clear hdk hbd hX3 of oq HE2 HE3;have hld:=zlz _ e13 100 _ (HS.out.ext HX3.out) HDK.out (by decide) zuu;rw[ztJ] at hld
 refine hld.mono ?_
 rintro e w4 ⟨vl,vs,rfl,hes,hss,hE4⟩;clear hld;obtain ⟨A4,c4,rfl,_,_⟩:=SlR.open_ hes;obtain ⟨A5,c5,rfl,_,_⟩:=Sgs.open_ hss
 dsimp only[m13,List.length_nil]
 have HX4:=zhd (Ext.trans HX3.out hE4);have HBD4:=zhd (HBD.out.ext hE4);have HDK4:=zhd (HDK.out.ext hE4);clear hes hss hE4 HX3 HBD HDK;obtain ⟨x1,hx1⟩:∃ x:Array Value,#[.int .i64 0,.int .i64 0,.int .i64 0,.int .i64 1,.bool false,.slice A4 0 c4,.int .i64 3,.int .i64 2]=x:=⟨_,rfl⟩;obtain ⟨x2,hx2⟩:∃ x:Array Value,#[.int .i64 1,.int .i64 3,.int .i64 2,.int .i64 0,.int .i64 0,.slice A5 0 c5]=x:=⟨_,rfl⟩;have hb1:=(((Blk.new w4 56 x1).alloc (.cells x2 30)).alloc (.cells #[.int .u8 120] 5 (1,2))).alloc (.cells #[sv [77],.slice (some ⟨w4.heap.size+1+1,0,none⟩) 1 1] 51);have hb2:=((Blk.new (w4.alloc (.cells x1 56)) 30 x2).alloc (.cells #[.int .u8 120] 5 (1,2))).alloc (.cells #[sv [77],.slice (some ⟨w4.heap.size+1+1,0,none⟩) 1 1] 51);rw[World.size_alloc] at hb2
 have hX5:Ext w4 ((((w4.alloc (.cells x1 56)).alloc (.cells x2 30)).alloc (.cells #[.int .u8 120] 5 (1,2))).alloc (.cells #[sv [77],.slice (some ⟨w4.heap.size+1+1,0,none⟩) 1 1] 51)):=Ext.alloc (Ext.alloc (Ext.alloc (Ext.alloc (Ext.refl _) _) _) _) _
 have hbs:Bs (((w4.alloc (.cells x1 56)).alloc (.cells x2 30)).alloc (.cells #[.int .u8 120] 5 (1,2))) (.slice (some ⟨w4.heap.size+1+1,0,none⟩) 1 1) [120]:=by
  have:=zuE ((w4.alloc (.cells x1 56)).alloc (.cells x2 30)) 120
  rw[World.size_alloc,World.size_alloc] at this
  exact this
 have hfs:=zvL _ [77] [120] _ hbs;rw[World.size_alloc,World.size_alloc,World.size_alloc] at hfs
 have key5:=zen _ [([77],[120])] _ (HS.out.ext (Ext.trans HX4.out hX5)) hfs (by decide) (fun f hf=>by
  obtain rfl:f=([77],[120]):=by simpa using hf
  decide)
 rw[zuZ] at key5;unfold sv at key5 hb1 hb2 hX5;have Key5:=zhd key5;have HB1:=zhd hb1;have HB2:=zhd hb2;have HX5:=zhd (Ext.trans HX4.out hX5);have HBD5:=zhd (HBD4.out.ext hX5);have HDK5:=zhd (HDK4.out.ext hX5);clear key5 hb1 hb2 hX5 hbs hfs HX4 HBD4 HDK4;have hcv:=Lib.run_convert_bytes_const (P:=Tryz.prog) ((w4.alloc (.cells x1 56)).alloc (.cells x2 30)) 38 5 #[.int .u8 120] 1 1 Tryz.underlying38 Tryz.underlying5;rw[World.size_alloc,World.size_alloc] at hcv;simp only[List.size_toArray,List.length_cons,List.length_nil,Nat.zero_add,Nat.reduceAdd] at hcv;subst hx1 hx2;go_wp2_with fail
 refine Key5.out.mono ?_
 rintro e w5 ⟨vl,vs,rfl,hes,hss,hE5⟩;obtain ⟨A6,c6,rfl,_,_⟩:=SlR.open_ hes;obtain ⟨A7,c7,rfl,_,_⟩:=Sgs.open_ hss
 dsimp only[zbM,zem,mf0,znE,List.length_nil]
 have HX6:=zhd (Ext.trans HX5.out hE5);have HBD6:=zhd (HBD5.out.ext hE5);have HDK6:=zhd (HDK5.out.ext hE5);have HT6:=zhd (HB1.out.ext hE5);have HM6:=zhd (HB2.out.ext hE5);clear hes hss hE5 HX5 HBD5 HDK5 HB1 HB2 Key5
 have hX7:=fun o1 o2=>(Ext.alloc (Ext.alloc (Ext.refl w5) o1) o2:Ext w5 ((w5.alloc o1).alloc o2))
 have hd7:=fun o1 o2=>HBD6.out.ext (hX7 o1 o2)
 have d0:=fun o1 o2=>(zac (hd7 o1 o2)).1
 have d1:=fun o1 o2=>(zac (hd7 o1 o2)).2.1
 have d2:=fun o1 o2=>(zac (hd7 o1 o2)).2.2.1
 have d3:=fun o1 o2=>(zac (hd7 o1 o2)).2.2.2.1
 have d4:=fun o1 o2=>(zac (hd7 o1 o2)).2.2.2.2
 go_wp2_with fail
 refine (zvp _ _ (HS.out.ext (Ext.trans HX6.out (hX7 _ _))) (HDK6.out.ext (hX7 _ _))).mono ?_
 rintro e w8 ⟨u,rfl,⟨A8,c8,B8,e8,rfl,of,oq⟩,hE8⟩;have hX8:=Ext.trans (hX7 _ _) hE8;have HX8:=zhd (Ext.trans HX6.out hX8);have HBD8:=zhd (HBD6.out.ext hX8);have HDK8:=zhd (HDK6.out.ext hX8);have HT8:=zhd (HT6.out.ext hX8);have HM8:=zhd (HM6.out.ext hX8);clear hX7 hd7 hE8 hX8 of oq d0 d1 d2 d3 d4 HX6 HBD6 HDK6 HT6 HM6;dsimp only
 have hX9:=fun o1=>(Ext.alloc (Ext.refl w8) o1:Ext w8 (w8.alloc o1))
 have hd9:=fun o1=>HBD8.out.ext (hX9 o1)
 have ht9:=fun o1=>HT8.out.ext (hX9 o1)
 have hm9:=fun o1=>HM8.out.ext (hX9 o1)
 have d0:=fun o1=>(zac (hd9 o1)).1
 have d1:=fun o1=>(zac (hd9 o1)).2.1
 have d2:=fun o1=>(zac (hd9 o1)).2.2.1
 have d3:=fun o1=>(zac (hd9 o1)).2.2.2.1
 have d4:=fun o1=>(zac (hd9 o1)).2.2.2.2
 have t3:=fun o1=>(zbU (ht9 o1)).2.2.2.1
 have t5:=fun o1=>(zbU (ht9 o1)).2.2.2.2.2.1
 have t6:=fun o1=>(zbU (ht9 o1)).2.2.2.2.2.2.1
 have t7:=fun o1=>(zbU (ht9 o1)).2.2.2.2.2.2.2
 have q0:=fun o1=>(zap (hm9 o1)).1
 clear hd9 ht9 hm9;go_wp2_with fail
 refine (zdx _ e13 _ (HDK8.out.ext (hX9 _)) (by decide) (by decide)).mono ?_
 rintro e w9 ⟨⟨v9,rfl,hF9⟩,hE9⟩;have HX9:=zhd (Ext.trans HX8.out (Ext.trans (hX9 _) hE9));rw[zu1] at hF9;obtain ⟨A9,c9,rfl,_,_⟩:=Fs.open_ hF9;clear d0 d1 d2 d3 d4 t3 t5 t6 t7 q0 hX9 hE9 hF9
 dsimp only[List.length_cons,List.length_nil]
 go_wp2_with fail;go_ret
 exact ⟨rfl,HX9.out⟩
end Go.Proofs.YtgonhdeochgkoaaGreatDoor
