/- Merged -/
import Derived.Test.YtgonhdeochgkoaaGreatDoorZx21
import Derived.Test.YtgonhdeochgkoaaGreatDoorZx26
set_option linter.all false
set_option maxHeartbeats 8000000
set_option maxRecDepth 100000
open List renaming take_succ_eq_append_getElem→P0,take_length→P1,mem_take_iff_getElem→P2,length_nil→P3,getElem_mem→P4,take_append_drop→P5,getElem_of_mem→P6,any_eq_false→P7,not_mem_nil→P8,any_eq_true→P9,length_map→Pa,mem_cons→Pb,mem_map→Pc
open Bool renaming eq_iff_iff→Pd
open Go.Mv.Blk renaming new→Pe
open Nat renaming zero_add→Pf,lt_or_ge→Pg,zero_le→Ph
namespace Go.Proofs.YtgonhdeochgkoaaGreatDoor
open Go.RowKit Go.Mv Go.Shelf
theorem zoD (p:Fil):∀ l:List Fil,(zcC p l).length=l.length+1
 | []=>rfl
 | q::l=>by
  rw[zcC]
  split
  ·rw[xC,zoD p l,xC]
  ·rfl
theorem zhb (l:List Fil) (p:Fil):(withS l p).length≤l.length+1:=by
 unfold Go.Proofs.YtgonhdeochgkoaaGreatDoor.withS;rw[zoD]
 have:=(zbX p.1 l).length_le
 omega
theorem zhg {l:List Fil} {p q:Fil} (h:q∈withS l p):q=p∨q∈l:=by
 unfold Go.Proofs.YtgonhdeochgkoaaGreatDoor.withS at h
 rcases (ziG p _ q).1 h with h | h
 ·exact .inl h
 ·exact .inr ((zbX p.1 l).subset h)
theorem zrg (l:List Fil) (o:Oq):(za1 l o).length≤l.length+1:=by
 unfold za1
 split
 ·exact zhb _ _
 ·split
  ·omega
  ·split
   ·exact zhb _ _
   ·split
    ·have:=zhb (zbg o.n l) (o.t,‹List UInt8›)
     have:=(zbX o.n l).length_le
     omega
    ·split
     ·have:=(zbX o.n l).length_le;omega
     ·omega
theorem zrk {l:List Fil} {o:Oq} {M:Nat} (hM:∀ f∈l,f.2.length≤M) {q:Fil} (h:q∈za1 l o):q.2.length≤M+o.b.length:=by
 unfold za1 at h
 split at h
 ·rcases zhg h with rfl | h
  ·simp
  ·have:=hM q h;omega
 ·split at h
  ·have:=hM q h;omega
  ·rename_i b hb
   have Jr:b.length≤M:=hM _ (zdh hb)
   split at h
   ·rcases zhg h with rfl | h
    ·dsimp only;rw[xL];omega
    ·have:=hM q h;omega
   ·split at h
    ·rcases zhg h with rfl | h
     ·dsimp only;omega
     ·have:=hM q ((zbX o.n l).subset h);omega
    ·split at h
     ·have:=hM q ((zbX o.n l).subset h);omega
     ·have:=hM q h;omega
theorem zfA {α β:Type} (f:β→α→β) (b:β) (l:List α) {i:Nat} (h:i<l.length):(l.take (i+1)).foldl f b=f ((l.take i).foldl f b) l[i]:=by
 rw[P0 h,List.foldl_append];rfl
theorem zh5 {fs:List Fil}:∀ {i:Nat},i≤fs.length→((fs.take i).foldl za8 []).length≤i∧∀ f∈(fs.take i).foldl za8 [],f∈fs
 | 0,_=>⟨by simp,fun f hf=>by simp at hf⟩
 | i+1,h=>by
  obtain ⟨h1,h2⟩:=zh5 (fs:=fs) (i:=i) (by omega);rw[zfA _ _ _ (by omega)];unfold za8
  split
  ·refine ⟨?_,fun f hf=>?_⟩
   ·have:=zhb ((fs.take i).foldl za8 []) (fs[i]'(by omega))
    unfold za8 at this h1;omega
   ·rcases zhg hf with rfl | hf
    ·exact P4 _
    ·exact h2 f hf
  ·exact ⟨by unfold za8 at h1;omega,h2⟩
theorem zmm {fs:List Fil} {q:List Oq}:∀ {i:Nat},i≤q.length→((q.take i).foldl za1 (fs.foldl za8 [])).length≤fs.length+i∧∀ f∈(q.take i).foldl za1 (fs.foldl za8 []),f.2.length≤tot fs+zaG (q.take i)
 | 0,_=>by
  have h:=zh5 (fs:=fs) (i:=fs.length) (xN _);rw[P1] at h
  refine ⟨by simpa using h.1,fun f hf=>?_⟩
  have:=zcy (h.2 f (by simpa using hf))
  omega
 | i+1,h=>by
  obtain ⟨h1,h2⟩:=zmm (fs:=fs) (q:=q) (i:=i) (by omega);rw[zfA _ _ _ (by omega)]
  refine ⟨?_,fun f hf=>?_⟩
  ·have:=zrg ((q.take i).foldl za1 (fs.foldl za8 [])) (q[i]'(by omega))
   omega
  ·have:=zrk h2 hf
   rw[P0 (by omega),zcf,zbJ];omega
theorem zjp (v vq:Value) (fs:List Fil) (q:List Oq) (w:World) (hF:Fs w v fs) (hQ:Qs w vq q) (hl:fs.length+q.length≤900000) (hb:tot fs+zaG q≤900000) :
  Calls Tryz.prog 52 #[v,vq] w fun e w'=>(∃ v',e=.returned v'∧Fs w' v' (zba fs q))∧Ext w w':=by
 obtain ⟨A,c,rfl,h1,h2⟩:=Fs.open_ hF;obtain ⟨B,e2,rfl,_,_⟩:=Qs.open_ hQ;unfold zba;obtain ⟨R,hR⟩:∃ R,q.foldl za1 (fs.foldl za8 [])=R:=⟨_,rfl⟩;rw[hR];have HF:=zhd hF;have HQ:=zhd hQ;have HR:=zhd hR;have HB:=zhd hb;have HL:=zhd hl;clear hF hQ hR hb
 go_enter Tryz.func52,Tryz.ntmps52
 go_wp2_with fail
 go_loopw [5,6] (fun vl i wr=>∃ j:Nat,j≤fs.length∧i=.int .i64 j∧Hid (Fs wr vl ((fs.take j).foldl za8 []))∧Hid (Ext w wr)) (fun _ i _=>fs.length-(intOf i).toNat)
 case atStart=>exact ⟨0,Ph _,rfl,⟨[],SlR.nil _ _,fun i hi=>by simp at hi⟩,xR _⟩
 case round =>
  obtain ⟨j,hj,rfl,HV,HE⟩:=hrel
  by_cases H3:j<fs.length
  ·obtain ⟨_,b,Hb,rfl,hc⟩:=(HF.out.ext HE.out).at_ (by omega)
   obtain ⟨H7,B1,d1,H5,HU⟩:=hc j H3;have KM:=(zh5 (fs:=fs) hj).1;have Hj:=zfA za8 [] fs H3;have Hd:=zhd Hj;have Kx:=zhd KM;have Hs:=zhd HU;clear hc Hj KM HU
   generalize (fs.take j).foldl za8 []=l at *
   obtain ⟨p,hp⟩:∃ p,fs[j]=p:=⟨_,rfl⟩;rw[hp] at H7 H5 Hs Hd;obtain ⟨n,pb⟩:=p;dsimp only at H7 H5 Hs;have key:=zh4 _ l n _ HV.out (by have:=Kx.out;omega);have Jh:=@place_get n l
   have KO:(j:Int)<(fs.length:Int):=by omega
   unfold sv at key H7;have HS:=zhd key;clear key hp;go_wp2_with fail
   refine HS.out.mono ?_
   rintro e w1 ⟨rfl,rfl⟩
   rcases Jh with ⟨hneg,hg⟩ | ⟨i,hi,hpi,hg⟩
   ·have K0:za8 l (n,pb)=withS l (n,pb):=by unfold za8;rw[if_pos (by rw[hg];rfl)]
    have Kg:=zhd K0;have hw:=zgd _ l n pb _ _ HV.out Hs.out (by have:=Kx.out;omega);unfold sv at hw;have Hw:=zhd hw;clear hg K0 hw;go_wp2_with fail
    refine Hw.out.mono ?_
    rintro e w9 ⟨⟨v9,rfl,Kn⟩,HI⟩;go_wp2_with fail
    go_roundw
    case rel=>exact ⟨j+1,by omega,by go_num,by unfold Hid;rw[Hd.out,Kg.out];exact Kn,xT HE.out HI⟩
    case measure=>simp[intOf];omega
   ·have K0:za8 l (n,pb)=l:=by unfold za8;rw[if_neg (by rw[hg];simp)]
    have Kg:=zhd K0
    have Jt:¬ (zbz l n<0):=by omega
    clear hg K0 hpi;go_wp2_with fail
    go_roundw
    case rel=>exact ⟨j+1,by omega,by go_num,by unfold Hid;rw[Hd.out,Kg.out];exact HV.out,HE.out⟩
    case measure=>simp[intOf];omega
  ·obtain rfl:j=fs.length:=by omega
   rw[P1] at HV;go_wp2_with fail
   go_loopw [5,7] (fun vl i H2=>∃ j:Nat,j≤q.length∧i=.int .i64 j∧Hid (Fs H2 vl ((q.take j).foldl za1 (fs.foldl za8 [])))∧Hid (Ext w H2)) (fun _ i _=>q.length-(intOf i).toNat)
   case atStart=>exact ⟨0,Ph _,rfl,HV,HE⟩
   case round =>
    clear HV HE;obtain ⟨j,hj,rfl,HV,HE⟩:=hrel
    by_cases H3:j<q.length
    ·obtain ⟨_,b,Hb,rfl,hc⟩:=(HQ.out.ext HE.out).at_ (by omega)
     obtain ⟨H7,H5,Hl,B3,d3,Hz,HW⟩:=hc j H3;have KJ:=zmm (fs:=fs) (q:=q) hj;have Hj:=zfA za1 (fs.foldl za8 []) q H3
     have KT:zaG (q.take j)+q[j].b.length≤zaG q:=by
      have h1:=congrArg zaG (P5 (j+1) q);rw[zcf,P0 H3,zcf,zbJ] at h1;omega
     have Hd:=zhd Hj;have Kw:=zhd KJ;have J9:=zhd KT;have HD:=zhd HW;clear hc Hj KJ HW KT
     have key:=zk6 _ _ q[j] _ _ HV.out HD.out (by have h1:=Kw.out.1;have h2:=HL;omega) (fun f hf=>by have h1:=Kw.out.2 f hf;have h2:=J9.out;have h3:=HB.out;omega)
     rw[←Hd.out] at key;obtain ⟨o,ho⟩:∃ o,q[j]=o:=⟨_,rfl⟩;rw[ho] at H7 H5 Hl Hz key;obtain ⟨ok,on,ot,ob⟩:=o;dsimp only at H7 H5 Hl Hz key
     have KO:(j:Int)<(q.length:Int):=by omega
     unfold sv at key H5 Hl;have HS:=zhd key;clear key ho HD;go_wp2_with fail
     refine HS.out.mono ?_
     rintro e w9 ⟨⟨v9,rfl,Kn⟩,HI⟩;clear H7 H5 Hl Hz;go_wp2_with fail
     go_roundw
     case rel=>exact ⟨j+1,by omega,by go_num,Kn,xT HE.out HI⟩
     case measure=>simp[intOf];omega
    ·obtain rfl:j=q.length:=by omega
     rw[P1,HR.out] at HV;go_wp2_with fail;go_ret
     exact ⟨⟨_,rfl,HV.out⟩,HE.out⟩
theorem zs9 (tmps:Array Value) (W:World) (b:Nat) (cs:Array Value) (h4:tmps.getD 2 undef=.pointer (some ⟨b,0,none⟩)) (hb:Blk W b 25 cs) (hs:cs.size=5):(results Tryz.f51 tmps).run Tryz.prog W=.ok (.agg cs) W:=by
 have hl:=hb.load (P:=Tryz.prog) zg3 rfl (by rw[hs];kernel_rfl)
 have Jc:tmps[2]?.getD undef=.pointer (some ⟨b,0,none⟩):=by simpa using h4
 simp[results,Tryz.results51,Jc,asAddr,hl]
theorem zi5 {α:Type} (l:List α) {k:Nat} (h:k≤l.length):(l.take k).length=k:=by rw[List.length_take];omega
theorem zsr {W:World} {base:Nat} {v:Value} {l:List Fil} (h:OwnF W base v l) {n:List UInt8} {b2:Nat} {u:Value} {bs:List UInt8} (hu:OwnB W b2 u bs):∀ g,v.ownBlock=some g→∀ x∈[sv n,u],zbu g x:=by
 intro g hg x hx;obtain ⟨_,cs,Je⟩:=zcv h hg;simp only[Pb,P8,or_false] at hx
 rcases hx with rfl | rfl
 ·exact za0 _ _
 ·exact OwnB.awayT hu Je (by decide)
theorem zqo (v:Value) (d:Dk) (w:World) (hD:DkV w v d) (hl:d.fs.length+d.q.length≤900000) (hb:tot d.fs+zaG d.q≤900000) :
  Calls Tryz.prog 51 #[v] w fun e w'=>∃ u,e=.returned u∧OwnDs w' w.heap.size u d∧Ext w w':=by
 obtain ⟨vf,vq,rfl,hF,hQ⟩:=hD;obtain ⟨A,c,rfl,_,_⟩:=Fs.open_ hF;obtain ⟨B,e2,rfl,_,_⟩:=Qs.open_ hQ;obtain ⟨W0,HZ⟩:∃ W0,(w.alloc (.cells #[.slice A d.fs.length c,.slice B d.q.length e2,.int .i64 d.quota,.int .i64 d.fuse,.bool d.dead] 25)).alloc (.cells #[.slice none 0 0,.slice none 0 0,.int .i64 0,.int .i64 0,.bool false] 25)=W0:=⟨_,rfl⟩
 have H6:Ext w W0:=by rw[←HZ];exact xA (xA (xR _) _) _
 have h0:Blk W0 w.heap.size 25 (zaz A d.fs.length c B d.q.length e2 d.quota d.fuse d.dead):=by rw[←HZ];exact (Pe w _ _).alloc _
 have h1:Blk W0 (w.heap.size+1) 25 (zaz none 0 0 none 0 0 0 0 false):=by
  rw[←HZ]
  have:=Pe (w.alloc (.cells #[.slice A d.fs.length c,.slice B d.q.length e2,.int .i64 d.quota,.int .i64 d.fuse,.bool d.dead] 25)) 25 #[.slice none 0 0,.slice none 0 0,.int .i64 0,.int .i64 0,.bool false]
  rwa [xS] at this
 have KU:W0.heap.size=w.heap.size+1+1:=by rw[←HZ,xS,xS]
 have HM:=zhd H6;have H0:=zhd h0;have H1:=zhd h1;have HF:=zhd (hF.ext H6);have HQ:=zhd (hQ.ext H6);have HB:=zhd hb;have HL:=zhd hl;have Jp:=zhd KU;obtain ⟨i0,hi,Kv,Jn,Jo⟩:=info_parts zkP;clear h0 h1 hF hQ H6 hb hl KU
 go_enter Tryz.func51,Tryz.ntmps51
 go_wp2_with fail;clear HZ
 go_loopw [3,4] (fun vl i wr=>∃ j:Nat,j≤d.fs.length∧i=.int .i64 j∧(∃ A' c',vl=.slice A' j c')∧Hid (OwnF wr W0.heap.size vl (d.fs.take j))∧Hid (Ext W0 wr)) (fun _ i _=>d.fs.length-(intOf i).toNat)
 case atStart=>exact ⟨0,Ph _,rfl,⟨_,_,rfl⟩,OwnX.nil _ _ _,xR _⟩
 case round =>
  obtain ⟨j,hj,rfl,⟨A',c',rfl⟩,HO,HE⟩:=hrel;obtain ⟨s0,s1,_,_,_⟩:=zac H0.out;have d0:=HE.out.cell s0
  by_cases H3:j<d.fs.length
  ·obtain ⟨_,b,Hb,rfl,hc⟩:=HF.out.at_ (by omega)
   obtain ⟨t0,B1,KC,t1,HU⟩:=hc j H3
   have Hj:d.fs.take (j+1)=d.fs.take j++[d.fs[j]]:=P0 H3
   have Kq:=zcy (P4 H3);have Hd:=zhd Hj;have Hs:=zhd HU;have Hg:=zi5 d.fs hj;have Hc:=zhd Hg
   have He:d.fs[j].2.length≤900000:=by have:=HB.out;omega
   have Ht:=zhd He;clear hc Hj HU Kq Hg He;obtain ⟨p,hp⟩:∃ p,d.fs[j]=p:=⟨_,rfl⟩;rw[hp] at t0 t1 Hs Hd Ht;obtain ⟨n,pb⟩:=p;dsimp only at t0 t1 Hs Ht
   have KO:(j:Int)<(d.fs.length:Int):=by omega
   unfold sv at t0;clear hp
   have hold:∀ X,Ext W0 X→X.cell? ⟨w.heap.size,0,none⟩=some (.slice (some ⟨b,Hb,none⟩) d.fs.length c)∧X.cell? ⟨b,Hb+j*2,none⟩=some (.string ⟨n.toArray⟩)∧X.cell? ⟨b,Hb+j*2+1,none⟩=some (.slice B1 pb.length KC):=fun X h=>⟨h.cell s0,h.cell t0,h.cell t1⟩
   obtain ⟨_,H7,H5⟩:=hold wr HE.out;have Hm:=zhd hold;clear hold s0 s1 t0 t1;go_wp2_with fail
   refine wp_region_held_drew (S:=fun W=>W.cell? ⟨w.heap.size,0,none⟩=some (.slice (some ⟨b,Hb,none⟩) d.fs.length c)∧W.cell? ⟨b,Hb+j*2,none⟩=some (.string ⟨n.toArray⟩)∧W.cell? ⟨b,Hb+j*2+1,none⟩=some (.slice B1 pb.length KC)) (by kernel_rfl) ⟨d0,H7,H5⟩ (fun _=>?_)
   clear d0 H7 H5;refine tkN 0 rfl ?_;refine tkN 1 rfl ?_;refine tkN 2 rfl ?_;refine tkN 3 rfl ?_;refine tkN 4 rfl ?_;refine tkN 5 rfl ?_;refine tkN 6 rfl ?_;refine tkN 8 rfl ?_;refine tkN 9 rfl ?_;refine tkN 10 rfl ?_;refine tkN 11 rfl ?_;refine tkN 12 rfl ?_;refine tkN 13 rfl ?_
   refine ar1 7 rfl (fun K hK=>?_)
   go_simp
   have K9:Ext wr (wr.alloc (.cells #[] 5)).drew:=xD (xA (xR _) _)
   have K2:OwnB (wr.alloc (.cells #[] 5)).drew wr.heap.size (.slice (some ⟨wr.heap.size,0,none⟩) 0 0) []:=zaf (zeq wr) (xD (xR _))
   refine shK hK _ _ (Hm.out _ (xT HE.out K9)) (fun _=>?_)
   refine ar1 14 rfl (fun K hK=>?_)
   refine zix (.tmp 22) (.tmp 28) rfl wr.heap.size _ [] rfl K2 _ pb rfl (Hs.out.ext (xT HE.out K9)) (by have:=Ht.out;simp;omega) K9.size ?_
   intro A5 c5 w5 HK Ka;have HH:=Ka _ K9 (xN _)
   simp only[P3,Pf,xI] at HK ⊢
   refine shK hK _ _ (Hm.out _ (xT HE.out HH)) (fun _=>?_)
   refine tkN 15 rfl ?_
   refine ar1 16 rfl (fun K hK=>?_)
   go_simp
   have HY:Ext w5 (w5.alloc (.cells #[.string ⟨n.toArray⟩,.slice A5 pb.length c5] 51)):=xA (xR _) _
   have Hu:=xT HH HY;have Jj:=zeL (Pe w5 51 #[.string ⟨n.toArray⟩,.slice A5 pb.length c5]);have K1:=zaf HK HY;have K3:=OwnX.ext zbU HO.out Hu;have Kb:=zsr (n:=n) K3 K1
   refine shK hK _ _ (Hm.out _ (xT HE.out Hu)) (fun _=>?_)
   refine ar1 17 rfl (fun K hK=>?_)
   refine znq zbU (.tmp 15) (.tmp 31) 22 rfl 51 i0 _ 40 Tryz.underlying22 hi Kv Jn Jo rfl (by decide) (by decide) W0.heap.size _ (d.fs.take j) rfl K3 _ [(n,pb)] [sv n,.slice A5 pb.length c5] rfl Jj (zjN (xW K1)) (by simp) Kb (by rw[Hc.out];have:=HL.out;simp;omega) (xT HE.out Hu).size ?_
   intro A7 c7 w7 HA Jd _;have Hv:=Jd W0 (xT HE.out Hu) (xN _)
   simp only[xC,P3,Pf,Hc.out] at HA ⊢
   rw[←Hd.out] at HA
   refine shK hK _ _ (Hm.out _ Hv) (fun _=>?_)
   refine tkN 18 rfl ?_;refine wpAnyH_done (by kernel_rfl) ?_ _;go_wp2_with fail
   go_roundw
   case rel=>exact ⟨j+1,by omega,by go_num,⟨_,_,rfl⟩,HA,Hv⟩
   case measure=>simp[intOf];omega
  ·obtain rfl:j=d.fs.length:=by omega
   rw[P1] at HO;have KN:=HO.out;have J5:=zhd KN;have Ha:=HE.out;have KB:=zhd Ha;obtain ⟨iq,Ji,Ks,Kt,Ku⟩:=info_parts ziF;clear s0 KN Ha HO HE;go_wp2_with fail
   go_loopw [5,6] (fun vl i H2=>∃ k:Nat,k≤d.q.length∧i=.int .i64 k∧(∃ A2 c2,vl=.slice A2 k c2)∧Hid (OwnQ H2 wr.heap.size vl (d.q.take k))∧Hid (Ext wr H2)) (fun _ i _=>d.q.length-(intOf i).toNat)
   case atStart=>exact ⟨0,Ph _,rfl,⟨_,_,rfl⟩,OwnX.nil _ _ _,xR _⟩
   case round =>
    rename World=>H2
    clear d0;obtain ⟨k,hk,rfl,⟨A2,c2,rfl⟩,HP,HG⟩:=hrel;have H8:=xT KB.out HG.out;have d1:=H8.cell s1
    by_cases H3:k<d.q.length
    ·obtain ⟨_,b,Hb,rfl,hc⟩:=(HQ.out.ext H8).at_ (by omega)
     obtain ⟨H7,H5,Hl,B3,d3,Hz,HW⟩:=hc k H3
     have Hj:d.q.take (k+1)=d.q.take k++[d.q[k]]:=P0 H3
     have Kq:=zjE (P4 H3)
     have He:d.q[k].b.length≤900000:=by have:=HB.out;omega
     have Hg:=zi5 d.q hk;have Hd:=zhd Hj;have HD:=zhd HW;have Hc:=zhd Hg;have Ht:=zhd He;clear hc Hj HW Kq He Hg;obtain ⟨o,ho⟩:∃ o,d.q[k]=o:=⟨_,rfl⟩;rw[ho] at H7 H5 Hl Hz HD Hd Ht;obtain ⟨ok,on,ot,ob⟩:=o;dsimp only at H7 H5 Hl Hz HD Ht
     have Ju:(k:Int)<(d.q.length:Int):=by omega
     unfold sv at H5 Hl
     have Ko:Ext H2 (H2.alloc (.cells #[.int .u8 ok,.string ⟨on.toArray⟩,.string ⟨ot.toArray⟩,.slice B3 ob.length d3] 86)):=xA (xR _) _
     have HJ:=Pe H2 86 #[.int .u8 ok,.string ⟨on.toArray⟩,.string ⟨ot.toArray⟩,.slice B3 ob.length d3]
     have Kp:Ext (H2.alloc (.cells #[.int .u8 ok,.string ⟨on.toArray⟩,.string ⟨ot.toArray⟩,.slice B3 ob.length d3] 86)) ((H2.alloc (.cells #[.int .u8 ok,.string ⟨on.toArray⟩,.string ⟨ot.toArray⟩,.slice B3 ob.length d3] 86)).alloc (.cells #[] 5)):=xA (xR _) _
     have K2:=zeq (H2.alloc (.cells #[.int .u8 ok,.string ⟨on.toArray⟩,.string ⟨ot.toArray⟩,.slice B3 ob.length d3] 86));rw[xS] at K2;have hb3:=HD.out.ext (xT Ko Kp)
     have KR:H2.heap.size+1≤((H2.alloc (.cells #[.int .u8 ok,.string ⟨on.toArray⟩,.string ⟨ot.toArray⟩,.slice B3 ob.length d3] 86)).alloc (.cells #[] 5)).heap.size:=by rw[xS,xS];omega
     obtain ⟨x0,x1,x2,x3⟩:=zay HJ;have J7:=zhd K2;have Ja:=zhd Ko;have Jb:=zhd Kp;have KY:=zhd HJ;have Ke:=zhd hb3;have J8:=zhd KR;clear Ko HJ Kp K2 hb3 KR ho H8
     go_wp2_with (first
      | (at_builtin;refine zc9 rfl (.tmp 45) (.tmp 47) rfl (H2.heap.size+1) _ [] rfl J7.out _ ob rfl Ke.out (by have:=Ht.out;simp;omega) J8.out ?_;intro A5 c5 w5 HK Ka;simp only[P3,Pf,xI] at HK ⊢;have HH:=Ka _ Jb.out (by rw[xS];omega);have Kc:=KY.out.ext HH;clear x0 x1 x2 x3;obtain ⟨x0,x1,x2,x3⟩:=zay Kc;have f3:=Kc.frozen 3;have Kz:=zhd HK;have J0:=zhd HH;have KW:=zhd Kc;clear HK Ka HH Kc)
      | (at_builtin
         have Hu:Ext H2 (w5.setCell ⟨H2.heap.size,3,none⟩ (.slice A5 ob.length c5)):=Below.setCell (p:=⟨H2.heap.size,3,none⟩) (xT Ja.out J0.out) (xN _) _
         have Hx:Ext (w5.setCell ⟨H2.heap.size,3,none⟩ (.slice A5 ob.length c5)) ((w5.setCell ⟨H2.heap.size,3,none⟩ (.slice A5 ob.length c5)).alloc (.cells #[.int .u8 ok,.string ⟨on.toArray⟩,.string ⟨ot.toArray⟩,.slice A5 ob.length c5] 86)):=xA (xR _) _
         have Hv:=xT Hu Hx;have K1:=Kz.out.kept (zab _ H2.heap.size 3 (.slice A5 ob.length c5)) (.inr (KW.out.not_row (by decide) Kz.out).symm)
         have HA:OwnB ((w5.setCell ⟨H2.heap.size,3,none⟩ (.slice A5 ob.length c5)).alloc (.cells #[.int .u8 ok,.string ⟨on.toArray⟩,.string ⟨ot.toArray⟩,.slice A5 ob.length c5] 86)) (H2.heap.size+1) (.slice A5 ob.length c5) ob:=zaf K1 Hx
         have K5:=OwnX.ext zcQ HP.out Hv
         have Kb:∀ g,(Value.slice A2 k c2).ownBlock=some g→∀ u∈[.int .u8 ok,.string ⟨on.toArray⟩,.string ⟨ot.toArray⟩,.slice A5 ob.length c5],zbu g u:=by
          intro g hg u hu;have Js:=zmM HP.out hg;simp only[Pb,P8,or_false] at hu
          rcases hu with rfl | rfl | rfl | rfl
          ·exact zeB _ _ _
          ·exact za0 _ on
          ·exact za0 _ ot
          ·exact HA.away (by omega)
         refine zey zcQ rfl (.tmp 50) (.tmp 52) 23 rfl 86 iq _ 64 Tryz.underlying23 Ji Ks Kt Ku rfl (by decide) (by decide) wr.heap.size _ (d.q.take k) rfl K5 _ [⟨ok,on,ot,ob⟩] [.int .u8 ok,.string ⟨on.toArray⟩,.string ⟨ot.toArray⟩,.slice A5 ob.length c5] rfl (zfc (w5.setCell ⟨H2.heap.size,3,none⟩ (.slice A5 ob.length c5)) [.int .u8 ok,.string ⟨on.toArray⟩,.string ⟨ot.toArray⟩,.slice A5 ob.length c5] 86 4 rfl (by simp only[World.size_setCell])) (zfU (o:=⟨ok,on,ot,ob⟩) (xW HA)) (by simp) Kb (by rw[Hc.out];have:=HL.out;simp;omega) (xT HG.out Hv).size ?_
         intro A9 c9 w9 Kd KH _
         simp only[xC,P3,Pf,Hc.out] at Kd ⊢
         rw[←Hd.out] at Kd;have HI:=KH wr (xT HG.out Hv) (xN _);have J6:=zhd Kd;have J1:=zhd HI
         clear Hu Hx Hv K1 HA K5 Kb Kd KH HI))
     go_roundw
     case rel=>exact ⟨k+1,by omega,by go_num,⟨_,_,rfl⟩,J6,J1⟩
     case measure=>simp[intOf];omega
    ·obtain rfl:k=d.q.length:=by omega
     rw[P1] at HP;have H4:=H0.out.ext H8;have Hk:=H1.out.ext H8;have hE:=xT HM.out H8;have Ho:=(Hk.other (by omega:w.heap.size+1≠w.heap.size) 0 (.slice A' d.fs.length c')).other (by omega:w.heap.size+1≠w.heap.size) 1 (.slice A2 d.q.length c2)
     have Hy:Blk (H2.setCell ⟨w.heap.size,0,none⟩ (.slice A' d.fs.length c')) w.heap.size 25 (zaz A' d.fs.length c' B d.q.length e2 d.quota d.fuse d.dead):=H4.set 0 (.slice A' d.fs.length c')
     have Hh:OwnFA ((H2.setCell ⟨w.heap.size,0,none⟩ (.slice A' d.fs.length c')).setCell ⟨w.heap.size,1,none⟩ (.slice A2 d.q.length c2)) W0.heap.size (.slice A' d.fs.length c') d.fs (fun g=>(Value.slice A2 d.q.length c2).ownBlock=some g):=OwnFA.setD (OwnFA.setD (OwnFA.ext (OwnFA.of J5.out (fun g hg=>(zcv HP.out hg).1)) HG.out) (by decide) H4 zaI) (by decide) Hy zaI
     have Hi:OwnQ ((H2.setCell ⟨w.heap.size,0,none⟩ (.slice A' d.fs.length c')).setCell ⟨w.heap.size,1,none⟩ (.slice A2 d.q.length c2)) wr.heap.size (.slice A2 d.q.length c2) d.q:=OwnQ.setD (OwnQ.setD HP.out (by decide) H4 zaI) (by decide) Hy zaI
     have K4:=OwnFA.box1 (A':=A') (n':=d.fs.length) (c':=c') (B':=A2) (m':=d.q.length) (e':=c2) (q':=d.quota) (f':=d.fuse) (d':=d.dead) Hh Ho;have K6:=OwnQ.box1 (A':=A') (n':=d.fs.length) (c':=c') (B':=A2) (m':=d.q.length) (e':=c2) (q':=d.quota) (f':=d.fuse) (d':=d.dead) Hi Ho
     have KK:Ext w (zcX ((H2.setCell ⟨w.heap.size,0,none⟩ (.slice A' d.fs.length c')).setCell ⟨w.heap.size,1,none⟩ (.slice A2 d.q.length c2)) (w.heap.size+1) (.slice A' d.fs.length c') (.slice A2 d.q.length c2) (.int .i64 d.quota) (.int .i64 d.fuse) (.bool d.dead)):=zaB (Below.setCell (p:=⟨w.heap.size,1,none⟩) (Below.setCell (p:=⟨w.heap.size,0,none⟩) hE (xN _) _) (xN _) _) (Nat.le_succ _) (.slice A' d.fs.length c') (.slice A2 d.q.length c2) (.int .i64 d.quota) (.int .i64 d.fuse) (.bool d.dead)
     have KI:=zaJ Ho (.slice A' d.fs.length c') (.slice A2 d.q.length c2) (.int .i64 d.quota) (.int .i64 d.fuse) (.bool d.dead);have Kh:=zhd (OwnFA.base K4 HM.out.size);have Ki:=zhd (OwnX.base K6 (Nat.le_trans HM.out.size KB.out.size));have J2:=zhd KK;have KX:=zhd KI;obtain ⟨x0,x1,x2,x3,x4⟩:=zac H4;obtain ⟨y0,y1,y2,y3,y4⟩:=za4 H4;obtain ⟨z0,z1,z2,z3,z4⟩:=zac Hk;obtain ⟨v0,v1,v2,v3,v4⟩:=za4 Hk;clear H4 Hk Ho Hy Hh Hi K4 K6 KK KI hE H8 d1;go_wp2_with fail
     refine bodyPost_ret (zs9 _ _ _ _ rfl KX.out rfl) rfl ?_
     exact ⟨_,rfl,⟨_,_,_,_,rfl,Kh.out,Ki.out⟩,J2.out⟩
theorem zl7 (v:Value) (d:Dk) (w:World) (hD:DkV w v d) (hl:d.fs.length+d.q.length≤900000) (hb:tot d.fs+zaG d.q≤900000) :
  Calls Tryz.prog 51 #[v] w fun e w'=>∃ u,e=.returned u∧zjn w' w.heap.size u d∧Ext w w' :=
 (zqo v d w hD hl hb).mono fun _ _ ⟨u,h1,h2,h3⟩=>⟨u,h1,OwnDs.d h2,h3⟩
theorem zl5 (v:Value) (d:Dk) (w:World) (hD:DkV w v d) (hl:d.fs.length+d.q.length≤900000) (hb:tot d.fs+zaG d.q≤900000) :
  Calls Tryz.prog 23 #[v] w fun e w'=>(∃ v',e=.returned v'∧Fs w' v' d.now)∧Ext w w':=by
 obtain ⟨vf,vq,rfl,hF,hQ⟩:=hD;obtain ⟨A,c,rfl,_,_⟩:=Fs.open_ hF;obtain ⟨B,e2,rfl,_,_⟩:=Qs.open_ hQ
 have hX:Ext w (w.alloc (.cells #[.slice A d.fs.length c,.slice B d.q.length e2,.int .i64 d.quota,.int .i64 d.fuse,.bool d.dead] 25)):=xA (xR _) _
 have H4:Blk _ w.heap.size 25 (zaz A d.fs.length c B d.q.length e2 d.quota d.fuse d.dead):=Pe w _ _
 have key:=zl7 _ d _ (show DkV (w.alloc (.cells #[.slice A d.fs.length c,.slice B d.q.length e2,.int .i64 d.quota,.int .i64 d.fuse,.bool d.dead] 25)) (.agg #[.slice A d.fs.length c,.slice B d.q.length e2,.int .i64 d.quota,.int .i64 d.fuse,.bool d.dead]) d from ⟨_,_,rfl,hF.ext hX,hQ.ext hX⟩) hl hb
 obtain ⟨g0,g1,g2,g3,g4⟩:=zac H4;have HS:=zhd key;have HX:=zhd hX;have KV:=zhd H4;have HL:=zhd hl;have HB:=zhd hb;clear key hX H4 hF hQ hl hb
 go_enter Tryz.func23,Tryz.ntmps23
 go_wp2_with fail
 refine HS.out.mono ?_
 rintro e w1 ⟨u,rfl,⟨A1,c1,B1,e1,rfl,K3,K5⟩,Ha⟩;have Hk:=KV.out.ext Ha;have Hh:=OwnF.box1 (A':=A1) (n':=d.fs.length) (c':=c1) (B':=B1) (m':=d.q.length) (e':=e1) (q':=d.quota) (f':=d.fuse) (d':=d.dead) K3 Hk;have Hi:=OwnQ.box1 (A':=A1) (n':=d.fs.length) (c':=c1) (B':=B1) (m':=d.q.length) (e':=e1) (q':=d.quota) (f':=d.fuse) (d':=d.dead) K5 Hk;have KD:=zaB (xT HX.out Ha) (xN w.heap.size) (.slice A1 d.fs.length c1) (.slice B1 d.q.length e1) (.int .i64 d.quota) (.int .i64 d.fuse) (.bool d.dead);have K7:=zjp _ _ d.fs d.q _ (OwnF.fs Hh) (OwnQ.qs Hi) HL.out HB.out;clear g0 g1 g2 g3 g4;obtain ⟨g0,g1,g2,g3,g4⟩:=zac Hk;obtain ⟨f0,f1,f2,f3,f4⟩:=za4 Hk;have Kk:=zhd K7;have HG:=zhd KD;clear K7 KD Hh Hi Hk K3 K5 Ha;go_wp2_with fail
 refine Kk.out.mono ?_
 rintro e w2 ⟨⟨v2,rfl,KF⟩,KE⟩;have J4:=zhd KF;have KZ:=zhd (xT HG.out KE);clear g0 g1 g2 g3 g4 f0 f1 f2 f3 f4 KF KE;go_wp2_with fail;go_ret
 exact ⟨⟨_,rfl,J4.out⟩,KZ.out⟩
theorem zlO {fs:List Fil} {k:Nat} (h:k<fs.length):tot (fs.take (k+1))=tot (fs.take k)+fs[k].2.length:=by
 rw[P0 h,zkD]
 simp[tot]
theorem zop (fs:List Fil) (k:Nat):tot (fs.take k)≤tot fs:=by
 have:=congrArg tot (P5 k fs)
 rw[zkD] at this;omega
theorem zrO (v:Value) (fs:List Fil) (w:World) (hF:Fs w v fs) (hl:fs.length≤4000000) (hb:tot fs≤2000000000):Calls Tryz.prog 81 #[v] w fun e w'=>e=.returned (.int .i64 (tot fs))∧w=w':=by
 obtain ⟨A,c,rfl,h1,h2⟩:=Fs.open_ hF;have HF:=zhd hF;have HB:=zhd hb;clear hF hb
 go_enter Tryz.func81,Tryz.ntmps81
 go_wp2_with fail
 go_loopw [3,4] (fun n i wr=>∃ j:Nat,j≤fs.length∧i=.int .i64 j∧n=.int .i64 (tot (fs.take j))∧w=wr) (fun _ i _=>fs.length-(intOf i).toNat)
 case atStart=>exact ⟨0,by omega,rfl,rfl,rfl⟩
 case round =>
  obtain ⟨j,hj,rfl,rfl,rfl⟩:=hrel
  by_cases H3:j<fs.length
  ·obtain ⟨_,b,Hb,rfl,hc⟩:=HF.out.at_ (by omega)
   obtain ⟨_,B2,d2,H5,_⟩:=hc j H3;have ht:=zlO H3;have Jk:=zop fs (j+1);have Jl:=HB.out;have HT:=zhd ht
   have hz:(tot (fs.take j):Int)+(fs[j].2.length:Int)≤2000000000:=by omega
   clear hc ht Jk Jl
   generalize fs[j].2.length=m at *
   go_wp2_with fail
   go_roundw
   case rel=>exact ⟨j+1,by omega,by go_num,by rw[HT.out];go_num,trivial⟩
   case measure=>simp[intOf];omega
  ·obtain rfl:j=fs.length:=by omega
   go_wp2_with fail;go_ret
   exact ⟨by rw[P1];rfl,rfl⟩
theorem zqz (v:Value) (d:Dk) (w:World) (hD:DkV w v d) (hl:d.fs.length+d.q.length≤900000) (hb:tot d.fs+zaG d.q≤900000) (hn:d.now.length≤4000000) :
  Calls Tryz.prog 41 #[v] w fun e w'=>e=.returned (.int .i64 (tot d.now))∧Ext w w':=by
 obtain ⟨vf,vq,rfl,hF,hQ⟩:=hD;obtain ⟨A,c,rfl,_,_⟩:=Fs.open_ hF;obtain ⟨B,e2,rfl,_,_⟩:=Qs.open_ hQ
 have H6:Ext w (w.alloc (.cells #[.slice A d.fs.length c,.slice B d.q.length e2,.int .i64 d.quota,.int .i64 d.fuse,.bool d.dead] 25)):=xA (xR _) _
 have H4:=Pe w 25 #[.slice A d.fs.length c,.slice B d.q.length e2,.int .i64 d.quota,.int .i64 d.fuse,.bool d.dead]
 have hc:=zl5 _ d _ (show DkV _ _ d from ⟨_,_,rfl,hF.ext H6,hQ.ext H6⟩) hl hb
 have HC:=zhd hc;have HM:=zhd H6;have Jm:=zfX d.fs d.q
 have Kr:tot d.now=tot (zbE d.fs d.q):=zfF d.fs d.q
 have HT:=zhd (show tot d.now≤2000000000 by omega)
 have HN:=zhd hn;clear hF hQ H6 hc Jm Kr hb hn;obtain ⟨g0,g1,g2,g3,g4⟩:=zac H4;clear H4
 go_enter Tryz.func41,Tryz.ntmps41
 go_wp2_with fail
 refine HC.out.mono ?_
 rintro e w1 ⟨⟨v1,rfl,KL⟩,Ha⟩;have J3:=zhd KL;have Kf:=zhd (xT HM.out Ha);clear KL Ha g0 g1 g2 g3 g4 HC;go_wp2_with fail
 refine (zrO _ _ w1 J3.out HN.out HT.out).mono ?_
 rintro e w2 ⟨rfl,rfl⟩;go_wp2_with fail;go_ret
 exact ⟨rfl,Kf.out⟩
theorem zqY (o:Oq) (v:Value) (w:World) (hB:Bs w v o.b):Calls Tryz.prog 40 #[.agg #[.int .u8 o.k,sv o.n,sv o.t,v]] w fun e w'=>e=.returned (.bool (zbn o))∧Ext w w':=by
 obtain ⟨A,c,rfl,_,_⟩:=xO hB;obtain ⟨k,n,t,b⟩:=o
 dsimp only at *
 have hX:Ext w (w.alloc (.cells #[.int .u8 k,sv n,sv t,.slice A b.length c] 86)):=xA (xR _) _
 have HJ:=Pe w 86 #[.int .u8 k,sv n,sv t,.slice A b.length c];have HX:=zhd hX;clear hX hB
 simp only[sv] at *
 obtain ⟨F,hF⟩:∃ F,zbn ⟨k,n,t,b⟩=F:=⟨_,rfl⟩;rw[hF];have Hr:=zde ⟨k,n,t,b⟩;rw[hF] at Hr;dsimp only at Hr;have HF:=zhd Hr;clear hF Hr;obtain ⟨g0,g1,g2,g3⟩:=blk4 HJ;clear HJ
 go_enter Tryz.func40,Tryz.ntmps40
 go_wp2_with fail
 all_goals
  try (have h33:k=3:=(by assumption);subst h33)
  first
   | (have h35:n=[]:=(by assumption)
      subst h35;go_ret
      refine ⟨ret_bool ?_,HX.out⟩
      have h9:=HF.out;rw[Pd,h9]
      simp
      done)
   | (go_ret
      refine ⟨ret_bool ?_,HX.out⟩
      have h9:=HF.out;rw[Pd,h9]
      by_cases hn:n=[] <;> by_cases ht:t=[] <;> first | contradiction | (simp[hn,ht];done) | (simp[hn,ht];omega))
theorem mcR5ba0 {P:Prop} (h:P:=by
 clear g0 g1 g2 g3 g4
 go_loopw [4] (fun i wr=>∃ j:Nat,j≤d.q.length∧j≤61∧i=.int .i64 j∧Hid (∀ q (_:q<j) (h2:q<d.q.length),d.q[q].b.length≤1000)∧Hid (Blk wr w.heap.size 25 #[.slice A d.fs.length c,.slice B d.q.length e2,.int .i64 d.quota,.int .i64 d.fuse,.bool d.dead])∧Hid (Ext w wr)) (fun i _=>d.q.length-(intOf i).toNat)
 case atStart=>exact ⟨0,by omega,by omega,rfl,zhd fun q hq=>by omega,HB,HE⟩
 case round =>
  clear HB HE;obtain ⟨j2,hj,Jf,rfl,Hn,HB,HE⟩:=hrel;obtain ⟨g0,g1,g2,g3,g4⟩:=zac HB.out
  by_cases H3:j2<d.q.length∧j2≤60
  ·obtain ⟨H3,K8⟩:=H3
   obtain ⟨_,b,Hb,rfl,hc⟩:=(HQ.out.ext HE.out).at_ (by omega);obtain ⟨H7,H5,Hl,B2,d2,Hz,Km⟩:=hc j2 H3
   have Jg:(j2:Int)<(d.q.length:Int):=by omega
   have hp:1000<d.q[j2].b.length→R=true:=fun h=>by rw[←HR.out];exact zjB H3 K8 h
   have hq:d.q[j2].b.length≤1000→∀ q (_:q<j2+1) (h2:q<d.q.length),d.q[q].b.length≤1000:=fun h q h3 h2=>by
    by_cases e:q=j2
    ·subst e;exact h
    ·exact Hn.out q (by omega) h2
   have Hp:=zhd hp;have Hq:=zhd hq;clear hc hp hq HR Hn Km H7 H5 Hl
   generalize d.q[j2].b.length=n2 at *
   by_cases c1:1000<n2
   ·have:=Hp.out c1
    subst this
    have Kl:(1000:Int)<(n2:Int):=by omega
    go_wp2_with fail;go_ret
    exact ⟨rfl,HE.out⟩
   ·have Kl:¬ (1000:Int)<(n2:Int):=by omega
    have Kj:=zhd (Hq.out (by omega));clear Hp Hq;go_wp2_with fail
    go_roundw
    case rel=>exact ⟨j2+1,by omega,by omega,by go_num,Kj,HB,HE⟩
    case measure=>simp[intOf];omega
  ·have H9:∀ q (_:q≤60) (h2:q<d.q.length),d.q[q].b.length≤1000:=fun q h1 h2=>Hn.out q (by omega) h2
   have Ky:=zhd H9;clear H9 Hn
   have KA:=zhd (show zcq d=(decide (30<d.fs.length)||decide (60<d.q.length)) from zkh HN.out Ky.out)
   clear HN Ky
   by_cases hlt3:(j2:Int)<(d.q.length:Int)
   ·have Jq:¬ (j2:Int)≤60:=by omega
    go_wp2_with fail
    all_goals
     go_ret
     refine ⟨ret_bool ?_,HE.out⟩
     rw[←HR.out,KA.out,Pd]
     simp
     omega
   ·go_wp2_with fail
    all_goals
     go_ret
     refine ⟨ret_bool ?_,HE.out⟩
     rw[←HR.out,KA.out,Pd]
     simp
     omega):P:=h
def zcq (d:Dk):Bool:=(d.fs.take 31).any (fun f=>decide (1000<f.2.length))||(d.q.take 61).any (fun o=>decide (1000<o.b.length))||decide (30<d.fs.length)||decide (60<d.q.length)
theorem zk7 {d:Dk} {j:Nat} (h:j<d.fs.length) (h2:j≤30) (h3:1000<d.fs[j].2.length):zcq d=true:=by
 unfold zcq
 have:(d.fs.take 31).any (fun f=>decide (1000<f.2.length))=true:=by
  rw[P9]
  exact ⟨d.fs[j],P2.2 ⟨j,by omega,rfl⟩,by simpa using h3⟩
 rw[this];simp
theorem zjB {d:Dk} {j:Nat} (h:j<d.q.length) (h2:j≤60) (h3:1000<d.q[j].b.length):zcq d=true:=by
 unfold zcq
 have:(d.q.take 61).any (fun o=>decide (1000<o.b.length))=true:=by
  rw[P9]
  exact ⟨d.q[j],P2.2 ⟨j,by omega,rfl⟩,by simpa using h3⟩
 rw[this];simp
theorem zg6 {d:Dk} (h:30<d.fs.length∨60<d.q.length):zcq d=true:=by
 unfold zcq
 rcases h with h | h <;> simp[h]
theorem zq4 {d:Dk} (h1:∀ q (_:q≤30) (h2:q<d.fs.length),d.fs[q].2.length≤1000) (h2:∀ q (_:q≤60) (h2:q<d.q.length),d.q[q].b.length≤1000) (h3:d.fs.length≤30) (h4:d.q.length≤60):zcq d=false:=by
 unfold zcq
 have a1:(d.fs.take 31).any (fun f=>decide (1000<f.2.length))=false:=by
  rw[P7];intro x hx;obtain ⟨j,hj,rfl⟩:=P2.1 hx
  have:=h1 j (by omega) (by omega)
  simpa using this
 have a2:(d.q.take 61).any (fun o=>decide (1000<o.b.length))=false:=by
  rw[P7];intro x hx;obtain ⟨j,hj,rfl⟩:=P2.1 hx
  have:=h2 j (by omega) (by omega)
  simpa using this
 rw[a1,a2]
 simp;omega
theorem zmu {d:Dk} (h:zcq d=false):d.fs.length≤30∧d.q.length≤60∧tot d.fs≤30000∧zaG d.q≤60000:=by
 have h3:d.fs.length≤30:=by
  rcases Pg 30 d.fs.length with h1 | h1
  ·rw[zg6 (.inl h1)] at h;cases h
  ·exact h1
 have h4:d.q.length≤60:=by
  rcases Pg 60 d.q.length with h1 | h1
  ·rw[zg6 (.inr h1)] at h;cases h
  ·exact h1
 have a1:∀ f∈d.fs,f.2.length≤1000:=by
  intro f hf;obtain ⟨j,hj,rfl⟩:=P6 hf
  rcases Pg 1000 d.fs[j].2.length with h1 | h1
  ·rw[zk7 hj (by omega) h1] at h;cases h
  ·exact h1
 have a2:∀ o∈d.q,o.b.length≤1000:=by
  intro f hf;obtain ⟨j,hj,rfl⟩:=P6 hf
  rcases Pg 1000 d.q[j].b.length with h1 | h1
  ·rw[zjB hj (by omega) h1] at h;cases h
  ·exact h1
 have s:∀ (l:List Nat),(∀ x∈l,x≤1000)→l.sum≤l.length*1000:=by
  intro l
  induction l with
  | nil=>intro _;simp
  | cons x l ih =>
   intro hx
   have:=ih fun y hy=>hx y (List.mem_cons_of_mem _ hy)
   have:=hx x (List.mem_cons_self ..)
   simp only[List.sum_cons,xC];omega
 refine ⟨h3,h4,?_,?_⟩
 ·have:=s (d.fs.map fun p=>p.2.length) (by intro x hx;obtain ⟨f,hf,rfl⟩:=Pc.1 hx;exact a1 f hf)
  rw[Pa] at this;unfold tot;omega
 ·have:=s (d.q.map fun p=>p.b.length) (by intro x hx;obtain ⟨f,hf,rfl⟩:=Pc.1 hx;exact a2 f hf)
  rw[Pa] at this;unfold zaG;omega
theorem zkh {d:Dk} (h1:∀ q (_:q≤30) (h2:q<d.fs.length),d.fs[q].2.length≤1000) (h2:∀ q (_:q≤60) (h2:q<d.q.length),d.q[q].b.length≤1000):zcq d=(decide (30<d.fs.length)||decide (60<d.q.length)):=by
 by_cases h:30<d.fs.length∨60<d.q.length
 ·rw[zg6 h]
  rcases h with h | h <;> simp[h]
 ·rw[zq4 h1 h2 (by omega) (by omega)]
  symm
  simp
  omega
theorem zoV (v:Value) (d:Dk) (w:World) (hD:DkV w v d) (KP:d.fs.length≤2000000) (KQ:d.q.length≤2000000):Calls Tryz.prog 39 #[v] w fun e w'=>e=.returned (.bool (zcq d))∧Ext w w':=by
 obtain ⟨vf,vq,rfl,hF,hQ⟩:=hD;obtain ⟨A,c,rfl,_,_⟩:=Fs.open_ hF;obtain ⟨B,e2,rfl,_,_⟩:=Qs.open_ hQ
 have H6:Ext w (w.alloc (.cells #[.slice A d.fs.length c,.slice B d.q.length e2,.int .i64 d.quota,.int .i64 d.fuse,.bool d.dead] 25)):=xA (xR _) _
 have H4:=Pe w 25 #[.slice A d.fs.length c,.slice B d.q.length e2,.int .i64 d.quota,.int .i64 d.fuse,.bool d.dead];obtain ⟨R,hR⟩:∃ R,zcq d=R:=⟨_,rfl⟩;rw[hR];have HR:=zhd hR;have HF:=zhd hF;have HQ:=zhd hQ;have HE:=zhd H6;have HB:=zhd H4;clear hR hF hQ H6 H4;obtain ⟨g0,g1,g2,g3,g4⟩:=zac HB.out
 go_enter Tryz.func39,Tryz.ntmps39
 go_wp2_with fail;clear g0 g1 g2 g3 g4
 go_loopw [3] (fun i wr=>∃ j:Nat,j≤d.fs.length∧j≤31∧i=.int .i64 j∧Hid (∀ q (_:q<j) (h2:q<d.fs.length),d.fs[q].2.length≤1000)∧Hid (Blk wr w.heap.size 25 #[.slice A d.fs.length c,.slice B d.q.length e2,.int .i64 d.quota,.int .i64 d.fuse,.bool d.dead])∧Hid (Ext w wr)) (fun i _=>d.fs.length-(intOf i).toNat)
 case atStart=>exact ⟨0,by omega,by omega,rfl,zhd fun q hq=>by omega,HB,HE⟩
 case round =>
  clear HB HE;obtain ⟨j,hj,Jf,rfl,Hn,HB,HE⟩:=hrel;obtain ⟨g0,g1,g2,g3,g4⟩:=zac HB.out
  by_cases H3:j<d.fs.length∧j≤30
  ·obtain ⟨H3,K8⟩:=H3
   obtain ⟨_,b,Hb,rfl,hc⟩:=(HF.out.ext HE.out).at_ (by omega);obtain ⟨H7,B2,d2,H5,Km⟩:=hc j H3
   have Jg:(j:Int)<(d.fs.length:Int):=by omega
   have hp:1000<d.fs[j].2.length→R=true:=fun h=>by rw[←HR.out];exact zk7 H3 K8 h
   have hq:d.fs[j].2.length≤1000→∀ q (_:q<j+1) (h2:q<d.fs.length),d.fs[q].2.length≤1000:=fun h q h3 h2=>by
    by_cases e:q=j
    ·subst e;exact h
    ·exact Hn.out q (by omega) h2
   have Hp:=zhd hp;have Hq:=zhd hq;clear hc hp hq HR Hn Km H7
   generalize d.fs[j].2.length=n2 at *
   by_cases c1:1000<n2
   ·have:=Hp.out c1
    subst this
    have Kl:(1000:Int)<(n2:Int):=by omega
    go_wp2_with fail;go_ret
    exact ⟨rfl,HE.out⟩
   ·have Kl:¬ (1000:Int)<(n2:Int):=by omega
    have Kj:=zhd (Hq.out (by omega));clear Hp Hq;go_wp2_with fail
    go_roundw
    case rel=>exact ⟨j+1,by omega,by omega,by go_num,Kj,HB,HE⟩
    case measure=>simp[intOf];omega
  ·have Hf:∀ q (_:q≤30) (h2:q<d.fs.length),d.fs[q].2.length≤1000:=fun q h1 h2=>Hn.out q (by omega) h2
   have HN:=zhd Hf;clear Hf Hn
   by_cases hlt2:(j:Int)<(d.fs.length:Int)
   ·have K8:¬ (j:Int)≤30:=by omega
    go_wp2_with fail
    exact mcR5ba0
   ·go_wp2_with fail
    exact mcR5ba0
theorem znQ (v:Value) (d:Dk) (w:World) (hD:DkV w v d) (KP:d.fs.length≤2000000) (KQ:d.q.length≤2000000):Calls Tryz.prog 8 #[v] w fun e w'=>e=.returned (.bool (zcq d))∧Ext w w':=by
 obtain ⟨vf,vq,rfl,hF,hQ⟩:=hD;obtain ⟨A,c,rfl,_,_⟩:=Fs.open_ hF;obtain ⟨B,e2,rfl,_,_⟩:=Qs.open_ hQ
 have H6:Ext w (w.alloc (.cells #[.slice A d.fs.length c,.slice B d.q.length e2,.int .i64 d.quota,.int .i64 d.fuse,.bool d.dead] 25)):=xA (xR _) _
 have H4:=Pe w 25 #[.slice A d.fs.length c,.slice B d.q.length e2,.int .i64 d.quota,.int .i64 d.fuse,.bool d.dead]
 have HC:=zhd (zoV _ d _ (show DkV _ _ d from ⟨_,_,rfl,hF.ext H6,hQ.ext H6⟩) KP KQ)
 have HE:=zhd H6;clear hF hQ H6;obtain ⟨g0,g1,g2,g3,g4⟩:=zac H4;clear H4
 go_enter Tryz.func8,Tryz.ntmps8
 go_wp2_with fail
 refine HC.out.mono ?_
 rintro e w1 ⟨rfl,Ha⟩;have Kf:=zhd (xT HE.out Ha);clear g0 g1 g2 g3 g4 Ha;go_wp2_with fail;go_ret
 exact ⟨rfl,Kf.out⟩
end Go.Proofs.YtgonhdeochgkoaaGreatDoor
