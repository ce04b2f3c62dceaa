/- Merged -/
import Derived.Test.YtgonhdeochgkoaaGreatDoorZt50
set_option linter.all false
set_option maxHeartbeats 8000000
set_option maxRecDepth 100000
namespace Go.Proofs.YtgonhdeochgkoaaGreatDoor
open Go.RowKit Go.Mv Go.Shelf Ext
theorem mcStSwapsf0 {P:Prop} (h:P:=by
 go_wp2_with fail
 refine (zaO _ (HS.out.ext HW.out)).mono ?_
 rintro e wz ⟨rfl,J6⟩;go_wp2_with fail;go_ret
 exact ⟨rfl,trans HE.out (trans HW.out J6)⟩):P:=h
theorem mcStSwapsf1 {P:Prop} (h:P:=by
 refine tkN 22 rfl ?_;refine tkN 23 rfl ?_;refine wpAnyH_done (by kernel_rfl) ?_ _;go_wp2_with fail
 go_roundw
 case rel=>exact ⟨i9+1,by omega,by have:=KJ.out;omega,by go_num,drew Ku.out⟩
 case measure=>simp[intOf];have:=KJ.out;omega):P:=h
theorem znY (v:Value) (d:Dk) (m:Mf) (vs:Value) (w:World) (hS:StW w) (hD:DkV w v d) (KK:d.fuse≤9223372036854775807) (hG:Sgs w vs m.segs)
  (J7:d.fs.length≤2000000) (J8:d.q.length≤2000000) (Jh:m.segs.length≤2000000) :
  Calls Tryz.prog 4 #[v,.agg #[.int .i64 m.next,.int .i64 m.term,.int .i64 m.vote,.int .i64 m.sq,.int .i64 m.sf,vs]] w fun e w'=>e=.returned (.bool true)∧Ext w w':=by
 obtain ⟨vf,vq,rfl,hF,hQ⟩:=hD;obtain ⟨A,c,rfl,_,_⟩:=Fs.open_ hF;obtain ⟨B,e2,rfl,_,_⟩:=Qs.open_ hQ;obtain ⟨C,c2,rfl,_,_⟩:=hG.open_;obtain ⟨W0,Ki⟩:∃ W0,(w.alloc (.cells #[.slice A d.fs.length c,.slice B d.q.length e2,.int .i64 d.quota,.int .i64 d.fuse,.bool d.dead] 25)).alloc (.cells #[.int .i64 m.next,.int .i64 m.term,.int .i64 m.vote,.int .i64 m.sq,.int .i64 m.sf,.slice C m.segs.length c2] 30)=W0:=⟨_,rfl⟩
 have Hu:Ext w W0:=by rw[←Ki];exact alloc (alloc (refl _) _) _
 have Kv:Blk W0 w.heap.size 25 #[.slice A d.fs.length c,.slice B d.q.length e2,.int .i64 d.quota,.int .i64 d.fuse,.bool d.dead]:=by rw[←Ki];exact (Blk.new w _ _).alloc _
 have Kw:Blk W0 (w.heap.size+1) 30 #[.int .i64 m.next,.int .i64 m.term,.int .i64 m.vote,.int .i64 m.sq,.int .i64 m.sf,.slice C m.segs.length c2]:=by
  rw[←Ki]
  have:=Blk.new (w.alloc (.cells #[.slice A d.fs.length c,.slice B d.q.length e2,.int .i64 d.quota,.int .i64 d.fuse,.bool d.dead] 25)) 30 #[.int .i64 m.next,.int .i64 m.term,.int .i64 m.vote,.int .i64 m.sq,.int .i64 m.sf,.slice C m.segs.length c2]
  rw[World.size_alloc] at this
  exact this
 have Kx:DkV W0 (.agg #[.slice A d.fs.length c,.slice B d.q.length e2,.int .i64 d.quota,.int .i64 d.fuse,.bool d.dead]) d:=⟨_,_,rfl,hF.ext Hu,hQ.ext Hu⟩
 have L8:=zjm _ d W0 Kx J7 J8;have L9:=zhd L8;have HS:=zhd (hS.ext Hu);have HD:=zhd Kx;have HG:=zhd (hG.ext Hu);have Hv:=zhd Kv;have Hw:=zhd Kw;have HE:=zhd Hu;have J9:=zhd KK;obtain ⟨g0,g1,g2,g3,g4⟩:=zac Kv;obtain ⟨j0,j1,j2,j3,j4,j5⟩:=zap Kw;clear hS hF hQ hG L8 Hu Kx Kv Kw KK
 go_enter Tryz.func4,Tryz.ntmps4
 go_wp2_with fail;clear Ki
 refine L9.out.mono ?_
 rintro e w1 ⟨rfl,Kj⟩;have Kk:=zhd Kj;clear L9 g0 g1 g2 g3 g4 j0 j1 j2 j3 j4 j5;obtain ⟨g0,g1,g2,g3,g4⟩:=zac (Hv.out.ext Kj);obtain ⟨j0,j1,j2,j3,j4,j5⟩:=zap (Hw.out.ext Kj);clear Kj
 rcases hg:zcm d with _ | _
 case true =>
  have HW:=Kk
  exact mcStSwapsf0
 obtain ⟨m1,m2,m3,m4⟩:=ziz hg;have Ji:=zeW d;have L8:=zkm _ d w1 (HD.out.ext Kk.out) (by omega) (by omega) (by omega);have L9:=zhd L8;clear hg L8;go_wp2_with fail
 refine L9.out.mono ?_
 rintro e w2 ⟨rfl,KL⟩;have Hh:=zhd (trans Kk.out KL);clear L9 g0 g1 g2 g3 g4 j0 j1 j2 j3 j4 j5 Kk KL;obtain ⟨g0,g1,g2,g3,g4⟩:=zac (Hv.out.ext Hh.out);obtain ⟨j0,j1,j2,j3,j4,j5⟩:=zap (Hw.out.ext Hh.out)
 rcases hr:d.right with _ | _
 case false =>
  have HW:=Hh
  exact mcStSwapsf0
 have HH:=zhd ((ziH d).1 hr);clear hr;have L8:=zlw m _ w2 (HG.out.ext Hh.out)
 rcases hc:zav m with _ | _
 case false =>
  rw[hc,if_neg (by decide)] at L8;have L9:=zhd L8;clear L8 hc;go_wp2_with fail
  refine L9.out.mono ?_
  rintro e w3 ⟨rfl,HI⟩;have H9:=zhd (trans Hh.out HI);clear L9 g0 g1 g2 g3 g4 j0 j1 j2 j3 j4 j5 Hh HI;have HW:=H9
  exact mcStSwapsf0
 rw[hc,if_pos rfl] at L8;have L9:=zhd L8;have HC:=zhd hc;clear L8 hc;go_wp2_with fail
 refine L9.out.mono ?_
 rintro e w3 ⟨rfl,HI⟩;have H9:=zhd (trans Hh.out HI);clear L9 g0 g1 g2 g3 g4 j0 j1 j2 j3 j4 j5 Hh HI;obtain ⟨g0,g1,g2,g3,g4⟩:=zac (Hv.out.ext H9.out);obtain ⟨j0,j1,j2,j3,j4,j5⟩:=zap (Hw.out.ext H9.out);obtain ⟨b,hb⟩:=zsa HC.out;have Jj:=zkP hb;have Jk:=zrR HC.out;have Jl:=zhi HC.out
 have Kl:Sy 90 90000 d:=⟨by omega,by omega,J9.out⟩
 have L8:=zih _ d 90000 m _ w3 (HS.out.ext H9.out) (HD.out.ext H9.out) (Kl.sz (by omega) (by omega)) (by omega) (HG.out.ext H9.out) (by omega) (by omega) (fun b' h=>by have:=zkP h;omega)
 have L9:=zhd L8;have HB:=zhd hb;clear L8 hb;go_wp2_with fail
 refine L9.out.mono ?_
 rintro e w4 ⟨u,rfl,ho,KM⟩;have H4:=zsI HH.out HB.out;have H0:=zqE HH.out HB.out;have H5:=Kl.swap b (zaf (zau m));rw[←zej HB.out] at H5;obtain ⟨⟨o,pe⟩,hP⟩:∃ r,zb5 d m=r:=⟨_,rfl⟩;rw[hP] at ho H4 H0 H5;rw[hP]
 dsimp only at ho H4 H5 ⊢
 obtain ⟨A4,c4,B4,e4,rfl,KN,KO⟩:=ho;have HP:=zhd hP
 have Km:Ext w4 (w4.alloc (.cells #[.slice A4 o.fs.length c4,.slice B4 o.q.length e4,.int .i64 o.quota,.int .i64 o.fuse,.bool o.dead] 25)):=alloc (refl _) _
 have HJ:=zhd (Blk.new w4 25 #[.slice A4 o.fs.length c4,.slice B4 o.q.length e4,.int .i64 o.quota,.int .i64 o.fuse,.bool o.dead])
 have Kn:=zhd (show DkV (w4.alloc (.cells #[.slice A4 o.fs.length c4,.slice B4 o.q.length e4,.int .i64 o.quota,.int .i64 o.fuse,.bool o.dead] 25)) (.agg #[.slice A4 o.fs.length c4,.slice B4 o.q.length e4,.int .i64 o.quota,.int .i64 o.fuse,.bool o.dead]) o from ⟨_,_,rfl,(OwnF.fs KN).ext Km,(OwnQ.qs KO).ext Km⟩)
 have H7:=zhd (trans H9.out (trans KM Km));have Jm:=zhd Kl;have Ko:=zhd H5;clear L9 g0 g1 g2 g3 g4 j0 j1 j2 j3 j4 j5 H9 KM KN KO hP Km Kl H5;obtain ⟨o0,o1,o2,o3,o4⟩:=zac HJ.out;obtain ⟨g0,g1,g2,g3,g4⟩:=zac (Hv.out.ext H7.out);obtain ⟨j0,j1,j2,j3,j4,j5⟩:=zap (Hw.out.ext H7.out)
 by_cases hpe:pe=0
 case neg =>
  by_cases Hx:d.dead=true
  ·have he:=H0 Hx
   injection he with he1 he2
   subst he1 he2
   have H1:∀ (W:World) (p:Addr),W.cell? p=some (.bool o.dead)→W.cell? p=some (.bool true):=fun W p h=>by rw[←Hx];exact h
   have HL:∀ (W:World) (x y z u:Value),DkV W (.agg #[x,y,z,u,.bool o.dead]) o→DkV W (.agg #[x,y,z,u,.bool true]) o:=fun W x y z u h=>by rw[←Hx];exact h
   have KP:=HL _ _ _ _ _ (HD.out.ext H7.out);have KQ:=Kn.out
   replace g4:=H1 _ _ g4
   have L8:=zpw _ _ o _ KQ KP (by omega) (by omega);have L9:=zhd L8;clear H0 H4 hpe KP KQ L8 Hx H1 HL;go_wp2_with fail
   refine L9.out.mono ?_
   rintro e w6 ⟨rfl,KR⟩;have Hy:=zhd (trans H7.out KR);clear L9 KR g0 g1 g2 g3 g4 j0 j1 j2 j3 j4 j5 o0 o1 o2 o3 o4;have HW:=Hy
   exact mcStSwapsf0
  ·have KS:d.dead=false:=by simpa using Hx
   have H1:∀ (W:World) (p:Addr),W.cell? p=some (.bool d.dead)→W.cell? p=some (.bool false):=fun W p h=>by rw[←KS];exact h
   replace g4:=H1 _ _ g4
   clear KS H1;clear H0 Hx
   rcases H4 with h | h | h
   ·exact absurd h hpe
   all_goals
    subst h;clear hpe;have HW:=H7
    exact mcStSwapsf0
 subst hpe;clear H4 H0
 have Ha:=zhd (fun (j:Nat) (hj:0<j) (k s f:Int) (hx:(zau m)[j]?=some (k,s,f))=>zoQ HH.out HB.out (by rw[HP.out]) hj hx)
 have Hb:=zhd (zqF HH.out HB.out (by rw[HP.out]));have Hq:=zhd (zoR HH.out HB.out (by rw[HP.out]));rw[HP.out] at Ha Hb Hq;dsimp only at Ha Hb Hq;go_wp2_with fail
 refine wp_region_held_drew (S:=fun W=>W.cell? ⟨w4.heap.size,0,none⟩=some (.slice A4 o.fs.length c4)∧W.cell? ⟨w4.heap.size,1,none⟩=some (.slice B4 o.q.length e4)∧W.cell? ⟨w4.heap.size,2,none⟩=some (.int .i64 o.quota)∧W.cell? ⟨w4.heap.size,3,none⟩=some (.int .i64 o.fuse)∧W.cell? ⟨w4.heap.size,4,none⟩=some (.bool o.dead)∧W.cell? ⟨w.heap.size,0,none⟩=some (.slice A d.fs.length c)∧W.cell? ⟨w.heap.size,1,none⟩=some (.slice B d.q.length e2)∧W.cell? ⟨w.heap.size,2,none⟩=some (.int .i64 d.quota)∧W.cell? ⟨w.heap.size,3,none⟩=some (.int .i64 d.fuse)∧W.cell? ⟨w.heap.size,4,none⟩=some (.bool d.dead)) (by kernel_rfl) ⟨o0,o1,o2,o3,o4,g0,g1,g2,g3,g4⟩ (fun _=>?_)
 clear o0 o1 o2 o3 o4 g0 g1 g2 g3 g4 j0 j1 j2 j3 j4 j5;refine tkN 0 rfl ?_;refine tkN 2 rfl ?_
 refine ar1 1 rfl (fun K hK=>?_)
 go_simp
 refine (zdx _ o _ (Kn.out.ext (drew (refl _))) (by have:=Ko.out.l;omega) (by have:=Ko.out.t;omega)).mono ?_
 rintro e w5 ⟨⟨v,rfl,hv⟩,hE5'⟩;obtain ⟨A6,c6,rfl,_,_⟩:=Fs.open_ hv;have HM:=trans (drew (refl _)) hE5';obtain ⟨o0,o1,o2,o3,o4⟩:=zac (HJ.out.ext HM);obtain ⟨g0,g1,g2,g3,g4⟩:=zac (Hv.out.ext (trans H7.out HM))
 refine shK hK _ _ ⟨o0,o1,o2,o3,o4,g0,g1,g2,g3,g4⟩ (fun _=>?_)
 clear o0 o1 o2 o3 o4 g0 g1 g2 g3 g4
 refine ar1 3 rfl (fun K hK=>?_)
 go_simp
 refine (zdx _ d w5 (HD.out.ext (trans H7.out HM)) (by omega) (by omega)).mono ?_
 rintro e w6 ⟨⟨u,rfl,hu⟩,hE6'⟩;obtain ⟨A7,c7,rfl,_,_⟩:=Fs.open_ hu;have Hz:=trans HM hE6';obtain ⟨o0,o1,o2,o3,o4⟩:=zac (HJ.out.ext Hz);obtain ⟨g0,g1,g2,g3,g4⟩:=zac (Hv.out.ext (trans H7.out Hz))
 refine shK hK _ _ ⟨o0,o1,o2,o3,o4,g0,g1,g2,g3,g4⟩ (fun _=>?_)
 clear o0 o1 o2 o3 o4 g0 g1 g2 g3 g4;refine tkN 4 rfl ?_;refine tkN 5 rfl ?_;refine wpAnyH_done (by kernel_rfl) ?_ _;have Hy:=zhd (trans H7.out Hz);have HO:=zhd (HJ.out.ext Hz);have HQ:=zhd (Kn.out.ext Hz);have HN:=zhd (hv.ext hE6');have KT:=zhd hu;clear hv hu HM hE5' hE6' Hz H7 HJ Kn;obtain ⟨j0,j1,j2,j3,j4,j5⟩:=zap (Hw.out.ext Hy.out);have L8:=zmz m _ w6 (HG.out.ext Hy.out) (by omega);have L9:=zhd L8;clear L8;go_wp2_with fail
 refine L9.out.mono ?_
 rintro e w7 ⟨vk,rfl,hk,HA⟩;obtain ⟨Ak,ck,rfl,_,_⟩:=SlR.open_ (SlR.of_own hk)
 have HK:=zhd (show SlR w7 3 (.slice Ak (zau m).length ck) (zau m).length (idCells (zau m)) from SlR.of_own hk)
 have Ky:=zhd (trans Hy.out HA);have HT:=zhd (HO.out.ext HA);have HU:=zhd (HQ.out.ext HA);have Kz:=zhd (HN.out.ext HA);have HV:=zhd (KT.out.ext HA);have Jn:=zeW o;have Jo:=Ko.out.l;have L8:=zdy _ o.now _ (zau m) w7 (HS.out.ext Ky.out) Kz.out HK.out (by omega) (by omega);have L9:=zhd L8;clear L8 hk HA j0 j1 j2 j3 j4 j5 Hy HO HQ HN KT;go_wp2_with fail
 refine L9.out.mono ?_
 rintro e w8 ⟨⟨A8,c8,rfl⟩,Hr⟩
 have KU:(zaH o.now (zaf (zau m))).length=0:=by rw[Hb.out];rfl
 have Kp:=zhd (trans Ky.out Hr);have HY:=zhd (HT.out.ext Hr);have HZ:=zhd (HU.out.ext Hr);have KA:=zhd (Kz.out.ext Hr);have Hc:=zhd (HV.out.ext Hr);have KV:=zhd (SlR.ext HK.out Hr);clear L9 Hr Ky HT HU Kz HV HK Hb
 generalize (zaH o.now (zaf (zau m))).length=z0 at KU ⊢
 subst KU;go_wp2_with fail;have Ja:=zm6 m
 go_loopw [10] (fun i wr=>∃ i9:Nat,1≤i9∧i9≤(zau m).length∧i=.int .i64 i9∧Hid (Ext w8 wr)) (fun i _=>(zau m).length-(intOf i).toNat)
 case atStart=>exact ⟨1,Nat.le_refl _,Ja,rfl,refl _⟩
 case round =>
  obtain ⟨i9,KW,KX,rfl,HX⟩:=hrel
  by_cases KY:i9<(zau m).length
  ·have Jb:(i9:Int)<((zau m).length:Int):=by omega
   obtain ⟨_,bk,ok,Jc,Kq⟩:=SlR.at_ (SlR.ext KV.out HX.out) (by omega);subst Jc;obtain ⟨⟨ik,is,if_⟩,KB⟩:∃ x,(zau m)[i9]?=some x:=⟨_,List.getElem?_eq_getElem KY⟩;obtain ⟨i0,i1,i2⟩:=idCells_get KB;have y0:=Kq _ _ i0;have y1:=Kq _ _ i1;have y2:=Kq _ _ i2;rw[←Nat.add_assoc] at y1 y2;have K0:=Ha.out i9 (by omega) _ _ _ KB;have Jd:=zhd K0;have Jp:=zhd (And.intro KW KX);have KJ:=zhd KY;clear Kq i0 i1 i2 KB K0 KW KX;go_wp2_with fail
   refine wp_region_held_drew (S:=fun W=>W.cell? ⟨bk,ok+i9*3,none⟩=some (.int .u8 ik)∧W.cell? ⟨bk,ok+i9*3+1,none⟩=some (.int .i64 is)∧W.cell? ⟨bk,ok+i9*3+2,none⟩=some (.int .i64 if_)) (by kernel_rfl) ⟨y0,y1,y2⟩ (fun _=>?_)
   refine tkN 0 rfl ?_;refine tkN 1 rfl ?_;refine tkN 2 rfl ?_;refine tkN 3 rfl ?_;refine tkN 4 rfl ?_;refine tkN 6 rfl ?_;refine tkN 7 rfl ?_;refine tkN 8 rfl ?_;refine tkN 9 rfl ?_;refine tkN 10 rfl ?_
   refine ar1 5 rfl (fun K hK=>?_)
   go_simp
   refine (zfe _ d.now ik is if_ _ (HS.out.ext (trans Kp.out (trans HX.out (drew (refl _))))) (Hc.out.ext (trans HX.out (drew (refl _)))) (by omega)).mono ?_
   rintro e wa ⟨rfl,hEa'⟩;have H8:=trans (drew (refl _)) hEa'
   refine shK hK _ _ ⟨H8.cell y0,H8.cell y1,H8.cell y2⟩ (fun _=>?_)
   refine ar1 11 rfl (fun K hK=>?_)
   go_simp
   refine (zfe _ o.now ik is if_ wa (HS.out.ext (trans Kp.out (trans HX.out H8))) (KA.out.ext (trans HX.out H8)) (by omega)).mono ?_
   rintro e w9 ⟨rfl,hEb'⟩;have K1:=trans H8 hEb'
   refine shK hK _ _ ⟨K1.cell y0,K1.cell y1,K1.cell y2⟩ (fun _=>?_)
   refine tkN 12 rfl ?_;refine tkN 13 rfl ?_;refine wpAnyH_done (by kernel_rfl) ?_ _;have Ku:=zhd (trans HX.out K1);clear K1 H8 hEa' hEb' y0 y1 y2
   rcases Jd.out with ⟨h1,h2⟩ | ⟨p,q,hp,hq,h1,h2,hpq⟩
   ·rw[h1,h2]
    clear h1 h2;go_wp2_with fail
    refine wp_region_held_drew (S:=fun _=>True) (by kernel_rfl) trivial (fun _=>?_)
    refine tkN 0 rfl ?_;refine tkN 1 rfl ?_;refine tkN 2 rfl ?_;refine tkN 3 rfl ?_;refine tkN 4 rfl ?_;refine tkN 5 rfl ?_;refine tkN 6 rfl ?_;refine tkN 7 rfl ?_;refine tkN 8 rfl ?_;refine tkS 9 rfl ?_;refine tkS 10 rfl ?_;refine tkS 11 rfl ?_;refine tkS 12 rfl ?_;refine tkS 13 rfl ?_;refine tkS 14 rfl ?_;refine tkS 15 rfl ?_;refine tkS 16 rfl ?_;refine tkS 17 rfl ?_;refine tkS 18 rfl ?_;refine tkS 19 rfl ?_;refine tkS 20 rfl ?_;refine tkS 21 rfl ?_
    exact mcStSwapsf1
   ·rw[h1,h2]
    obtain ⟨_,b1,o1,Je,KZ⟩:=(Hc.out.ext Ku.out).at_ (by omega);subst Je;obtain ⟨_,b2,o2,Jf,J0⟩:=(KA.out.ext Ku.out).at_ (by omega);subst Jf;obtain ⟨n1,B1,d1,c1,J1⟩:=KZ p hp;obtain ⟨n2,B2,d2,e1,KC⟩:=J0 q hq;rw[←hpq] at e1 KC;have K2:=zaM (P:=Tryz.prog) w9.drew 38 9 5 Tryz.underlying38 Tryz.underlying5 Tryz.underlying9 (SlR.ext J1 (drew (refl _)));have K3:=zaM (P:=Tryz.prog) w9.drew 38 9 5 Tryz.underlying38 Tryz.underlying5 Tryz.underlying9 (SlR.ext KC (drew (refl _)))
    have Jq:(p:Int)<(d.now.length:Int):=by omega
    have Jr:(q:Int)<(o.now.length:Int):=by omega
    have Js:¬ (p:Int)<0:=by omega
    have Jt:¬ (q:Int)<0:=by omega
    have Ju:(0:Int)≤(p:Int):=by omega
    clear KZ J0 J1 KC h1 h2 hpq n1 n2
    generalize d.now[p].2=xb at *
    go_wp2_with fail
    refine wp_region_held_drew (S:=fun W=>W.cell? ⟨b1,o1+p*2+1,none⟩=some (.slice B1 xb.length d1)∧W.cell? ⟨b2,o2+q*2+1,none⟩=some (.slice B2 xb.length d2)∧(convert 38 9 (.slice B1 xb.length d1)).run Tryz.prog W=.ok (.string ⟨xb.toArray⟩) W∧(convert 38 9 (.slice B2 xb.length d2)).run Tryz.prog W=.ok (.string ⟨xb.toArray⟩) W) (by kernel_rfl) ⟨c1,e1,K2,K3⟩ (fun _=>?_)
    clear c1 e1 K2 K3;refine tkN 0 rfl ?_;refine tkN 1 rfl ?_;refine tkN 2 rfl ?_;refine tkN 3 rfl ?_;refine tkN 4 rfl ?_;refine tkN 5 rfl ?_;refine tkN 6 rfl ?_;refine tkN 7 rfl ?_;refine tkN 8 rfl ?_;refine tkN 9 rfl ?_;refine tkN 10 rfl ?_;refine tkN 11 rfl ?_;refine tkN 12 rfl ?_;refine tkN 13 rfl ?_;refine tkN 14 rfl ?_;refine tkN 15 rfl ?_;refine tkN 16 rfl ?_;refine tkN 17 rfl ?_;refine tkN 18 rfl ?_;refine tkN 19 rfl ?_;refine tkN 20 rfl ?_;refine tkN 21 rfl ?_
    exact mcStSwapsf1
  ·obtain rfl:i9=(zau m).length:=by omega
   have Kr:=zhd (trans Kp.out HX.out);have K4:=zhd (HY.out.ext HX.out);have K5:=zhd (HZ.out.ext HX.out);have K6:=zhd (Hc.out.ext HX.out);clear HX Kp HY HZ KA Hc KV Ha;obtain ⟨j0,j1,j2,j3,j4,j5⟩:=zap (Hw.out.ext Kr.out);have L8:=zmC m _ _ (HG.out.ext Kr.out);rw[HB.out] at L8;have L9:=zhd L8;clear L8;go_wp2_with fail
   refine L9.out.mono ?_
   rintro e w10 ⟨⟨vb,rfl,KD⟩,H6⟩
   dsimp only[Option.isSome,Option.getD] at KD ⊢
   have KE:Bs w10 vb b:=SlR.of_own KD
   obtain ⟨Ab,cb,rfl,_,_⟩:=SlR.open_ KE;have K7:=zhd (trans Kr.out H6);have Hi:=zhd (K4.out.ext H6);have Hj:=zhd (K5.out.ext H6);have Hk:=zhd (K6.out.ext H6);have J2:=zhd KE
   have H8:Ext w10 (w10.alloc (.cells #[.string ⟨#[77]⟩,.slice Ab b.length cb] 51)):=alloc (refl _) _
   have K8:=ze1 w10 [.string ⟨#[77]⟩,.slice Ab b.length cb] 1 rfl (by simp[maxLen]) (Nat.le_refl _);have J3:=zhd H8;have K9:=zhd K8;clear L9 H6 KD KE H8 K8 Kr K4 K5 K6 j0 j1 j2 j3 j4 j5
   go_wp2_with (at_builtin;refine znR rfl (.tmp 122) (.tmp 123) rfl w10 J3.out _ [([77],b)] _ rfl K9.out (FRow.one' J2.out) _ d.now rfl Hk.out (by rw[List.length_singleton];omega) ?_;intro Ar cr w11 Ka Hd;have Kb:=zhd Ka;have Hs:=zhd (trans K7.out Hd);have Hl:=zhd (Hi.out.ext Hd);have Hm:=zhd (Hj.out.ext Hd);clear Ka Hd)
   have Jg:=zk4 d
   have L8:=zen _ ([([77],b)]++d.now) w11 (HS.out.ext Hs.out) Kb.out (by simp;omega) (fun f hf=>by
    rcases List.mem_append.1 hf with hf | hf
    ·rw[List.mem_singleton] at hf;subst hf;dsimp only;omega
    ·have:=zeY hf;omega)
   rw[show ([([77],b)]++d.now:List Fil)=(([77],b)::d.now) from rfl,Hq.out] at L8
   have L9:=zhd L8;clear L8 Jg;go_wp2_with fail
   refine L9.out.mono ?_
   obtain ⟨⟨er,t,n⟩,hR⟩:∃ r,zaI o.now=r:=⟨_,rfl⟩;rw[hR];rintro e w12 ⟨vl,vg,rfl,Ks,Kt,He⟩
   dsimp only at Ks Kt ⊢
   obtain ⟨L,lc,rfl,_,_⟩:=SlR.open_ Ks;obtain ⟨G,gc,rfl,_,_⟩:=Sgs.open_ Kt
   have HF:Ext w12 ((w12.alloc (.cells #[.int .i64 t.s.idx,.int .i64 t.s.term,.int .i64 t.s.sum,.int .i64 t.s.lvl,.bool t.s.fin,.slice L t.log.length lc,.int .i64 t.term,.int .i64 t.vote] 56)).alloc (.cells #[.int .i64 n.next,.int .i64 n.term,.int .i64 n.vote,.int .i64 n.sq,.int .i64 n.sf,.slice G n.segs.length gc] 30)):=alloc (alloc (refl _) _) _
   have pT:=zhd ((Blk.new w12 56 #[.int .i64 t.s.idx,.int .i64 t.s.term,.int .i64 t.s.sum,.int .i64 t.s.lvl,.bool t.s.fin,.slice L t.log.length lc,.int .i64 t.term,.int .i64 t.vote]).alloc (.cells #[.int .i64 n.next,.int .i64 n.term,.int .i64 n.vote,.int .i64 n.sq,.int .i64 n.sf,.slice G n.segs.length gc] 30));have KF:=Blk.new (w12.alloc (.cells #[.int .i64 t.s.idx,.int .i64 t.s.term,.int .i64 t.s.sum,.int .i64 t.s.lvl,.bool t.s.fin,.slice L t.log.length lc,.int .i64 t.term,.int .i64 t.vote] 56)) 30 #[.int .i64 n.next,.int .i64 n.term,.int .i64 n.vote,.int .i64 n.sq,.int .i64 n.sf,.slice G n.segs.length gc];rw[World.size_alloc] at KF;have pM:=zhd KF;have Ht:=zhd (trans Hs.out (trans He HF));have Hn:=zhd (Hl.out.ext (trans He HF));have Ho:=zhd (Hm.out.ext (trans He HF));have J4:=zhd (Es.ext Ks HF);have J5:=zhd (Kt.ext HF);have HR:=zhd hR;clear L9 He HF KF Ks Kt hR K7 Hi Hj Hk Hs Hl Hm Kb J2 J3 K9;obtain ⟨o0,o1,o2,o3,o4⟩:=zac Hn.out;have L8:=zlz _ o 92000 _ (HS.out.ext Ht.out) Ho.out (by omega) (Ko.out.sz (by omega) (by omega));rw[HR.out] at L8;have L9:=zhd L8;clear L8;go_wp2_with fail
   refine L9.out.mono ?_
   rintro e w14 ⟨vl2,vg2,rfl,Hf,Hg,H2⟩
   dsimp only at Hf Hg ⊢
   obtain ⟨L2,l2c,rfl,_,_⟩:=SlR.open_ Hf;obtain ⟨G2,g2c,rfl,_,_⟩:=Sgs.open_ Hg
   have Hp:Ext w14 ((w14.alloc (.cells #[.int .i64 t.s.idx,.int .i64 t.s.term,.int .i64 t.s.sum,.int .i64 t.s.lvl,.bool t.s.fin,.slice L2 t.log.length l2c,.int .i64 t.term,.int .i64 t.vote] 56)).alloc (.cells #[.int .i64 n.next,.int .i64 n.term,.int .i64 n.vote,.int .i64 n.sq,.int .i64 n.sf,.slice G2 n.segs.length g2c] 30)):=alloc (alloc (refl _) _) _
   have qT:=zhd ((Blk.new w14 56 #[.int .i64 t.s.idx,.int .i64 t.s.term,.int .i64 t.s.sum,.int .i64 t.s.lvl,.bool t.s.fin,.slice L2 t.log.length l2c,.int .i64 t.term,.int .i64 t.vote]).alloc (.cells #[.int .i64 n.next,.int .i64 n.term,.int .i64 n.vote,.int .i64 n.sq,.int .i64 n.sf,.slice G2 n.segs.length g2c] 30));have KG:=Blk.new (w14.alloc (.cells #[.int .i64 t.s.idx,.int .i64 t.s.term,.int .i64 t.s.sum,.int .i64 t.s.lvl,.bool t.s.fin,.slice L2 t.log.length l2c,.int .i64 t.term,.int .i64 t.vote] 56)) 30 #[.int .i64 n.next,.int .i64 n.term,.int .i64 n.vote,.int .i64 n.sq,.int .i64 n.sf,.slice G2 n.segs.length g2c];rw[World.size_alloc] at KG;have qM:=zhd KG;have Kc:=zhd (trans Ht.out (trans H2 Hp));have Kd:=zhd (Es.ext J4.out (trans H2 Hp));have Ke:=zhd (J5.out.ext (trans H2 Hp));have Kf:=zhd (Es.ext Hf Hp);have Kg:=zhd (Hg.ext Hp);have pT5:=zhd (pT.out.ext (trans H2 Hp));have pM5:=zhd (pM.out.ext (trans H2 Hp));clear L9 H2 Hp KG Hf Hg Ht Hn Ho J4 J5 pT pM o0 o1 o2 o3 o4;obtain ⟨t0,t1,t2,t3,t4,t5,t6,t7⟩:=zbU pT5.out;obtain ⟨k0,k1,k2,k3,k4,k5,k6,k7⟩:=zbU qT.out;have L8:=zq3 t t _ _ _ Kd.out Kf.out;rw[zqt] at L8;have L9:=zhd L8;clear L8;go_wp2_with fail
   refine L9.out.mono ?_
   rintro e w16 ⟨rfl,H3⟩;have KH:=zhd (trans Kc.out H3);have HSS1':=zhd (Ke.out.ext H3);have HSS2':=zhd (Kg.out.ext H3);clear L9 t0 t1 t2 t3 t4 t5 t6 t7 k0 k1 k2 k3 k4 k5 k6 k7 Kd Kf Ke Kg Kc;obtain ⟨t0,t1,t2,t3,t4,t5⟩:=zap (pM5.out.ext H3);obtain ⟨k0,k1,k2,k3,k4,k5⟩:=zap (qM.out.ext H3);have L8:=zlB n n _ _ w16 HSS1'.out HSS2'.out;rw[decide_eq_true rfl] at L8;have L9:=zhd L8;clear L8 H3;go_wp2_with fail
   refine L9.out.mono ?_
   rintro e w17 ⟨rfl,Kh⟩;have KI:=zhd (trans KH.out Kh);clear L9 Kh t0 t1 t2 t3 t4 t5 k0 k1 k2 k3 k4 k5;have HW:=KI
   exact mcStSwapsf0
end Go.Proofs.YtgonhdeochgkoaaGreatDoor
