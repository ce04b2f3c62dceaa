/- Merged: Keep PutsQ StPuts Open13 -/
import Derived.Test.YtgonhdeochgkoaaGreatDoorZt42
set_option linter.all false
set_option maxHeartbeats 8000000
set_option maxRecDepth 100000
namespace Go.Proofs.YtgonhdeochgkoaaGreatDoor
open Go.RowKit Go.Mv Go.Shelf
theorem zoo (l:List (Int×Int×Int)):(idCells l).length=l.length*3:=by
 induction l with
 | nil=>rfl
 | cons x l ih=>unfold idCells at ih ⊢;rw[List.flatMap_cons,List.length_append,ih];simp[idC];omega
open Go.RowKit Go.Mv
theorem zjt (n:List UInt8) (fs:List Fil):(za5 fs n = -1∧zae n fs=none)∨∃ (k:Nat) (h:k<fs.length),za5 fs n=(k:Int)∧fs[k].1=n∧zae n fs=some fs[k].2:=by
 rw[←zaN]
 have hb:zax fs (some n)=if za5 fs n<0 then none else (fs[(za5 fs n).toNat]?).map (·.2):=rfl
 rw[hb]
 have hp:za5 fs n=match fs.findIdx? (fun f=>f.1==n) with | none=>-1 | some i=>(i:Int):=rfl
 cases h:fs.findIdx? (fun f=>f.1==n) with
 | none =>
  rw[h] at hp;dsimp only at hp;rw[hp]
  exact .inl ⟨rfl,by simp⟩
 | some k =>
  obtain ⟨hk,h1,h2⟩:=List.findIdx?_eq_some_iff_getElem.1 h;rw[h] at hp;dsimp only at hp;rw[hp]
  refine .inr ⟨k,hk,rfl,by simpa using h1,?_⟩
  clear hp hb h
  have hk0:¬ (((k:Nat):Int)<0):=Int.not_lt.2 (Int.natCast_nonneg k)
  rw[if_neg hk0]
  have e:((k:Nat):Int).toNat=k:=Int.toNat_natCast k
  rw[e,List.getElem?_eq_getElem hk];rfl
theorem zj1 {k s f:Int} {n:List UInt8} (h:zak k s f=some n):n≠[]:=by
 unfold zak at h
 split at h
 ·cases h
  unfold zfd
  split
  ·simp
  ·split
   ·simp
   ·simp
 ·cases h
theorem zvd {d o:Dk} (h:Rt d) {n b:List UInt8} (hg:∀ x,zae x o.fs=if x=n then some b else zae x d.now) :
  ∃ (at_:Nat) (hk:at_<o.fs.length),za5 o.fs n=(at_:Int)∧o.fs[at_].1=n∧o.fs[at_].2=b ∧
   ∀ p∈d.now,∃ (j:Nat) (hj:j<o.fs.length),o.fs[j].1=p.1∧(j=at_∨o.fs[j].2=p.2):=by
 have hgn:=hg n;rw[if_pos rfl] at hgn
 rcases zjt n o.fs with ⟨_,h2⟩ | ⟨a,ha,h2,h3,h4⟩
 ·rw[h2] at hgn;cases hgn
 ·rw[h4] at hgn
  refine ⟨a,ha,h2,h3,Option.some.inj hgn,fun p hp=>?_⟩
  have hgp:=hg p.1
  by_cases hpn:p.1=n
  ·exact ⟨a,ha,by rw[h3,hpn],.inl rfl⟩
  ·rw[if_neg hpn,zbZ (zco h).1.apart (show (p.1,p.2)∈d.now from hp)] at hgp
   rcases zjt p.1 o.fs with ⟨_,g2⟩ | ⟨j,hj,g2,g3,g4⟩
   ·rw[g2] at hgp;cases hgp
   ·rw[g4] at hgp
    exact ⟨j,hj,g3,.inr (Option.some.inj hgp)⟩
theorem zqh {d:Dk} (h:Rt d) {k s f:Int} {b:List UInt8} (he:(zbL d (zak k s f) b).2=0) :
  ∃ (n:List UInt8) (at_:Nat) (hk:at_<(zbL d (zak k s f) b).1.fs.length),zak k s f=some n∧za5 (zbL d (zak k s f) b).1.fs n=(at_:Int)∧(zbL d (zak k s f) b).1.fs[at_].1=n∧(zbL d (zak k s f) b).1.fs[at_].2=b∧(zbL d (zak k s f) b).1.q=[] ∧
   ∀ p∈d.now,∃ (j:Nat) (hj:j<(zbL d (zak k s f) b).1.fs.length),(zbL d (zak k s f) b).1.fs[j].1=p.1∧(j=at_∨(zbL d (zak k s f) b).1.fs[j].2=p.2):=by
 cases hn:zak k s f with
 | none=>rw[hn] at he;cases he
 | some n =>
  rw[hn] at he;obtain ⟨h1,_⟩:=zi2 h b (zj1 hn);obtain ⟨hq,hs,_,hg⟩:=h1 he;obtain ⟨a,ha,g1,g2,g3,g4⟩:=zvd h hg
  exact ⟨n,a,ha,rfl,g1,g2,g3,hq,g4⟩
theorem ztZ {d:Dk} (h:Rt d) {k s f:Int} {b:List UInt8} (he:(zbL d (zak k s f) b).2=2):zak k s f=none:=by
 cases hn:zak k s f with
 | none=>rfl
 | some n =>
  rw[hn] at he;simp only[zbL,zdL] at he;obtain ⟨_,h1⟩:=zi2 h b (zj1 hn);omega
theorem zkE (ks:List (List UInt8)):∀ l:List Fil,(l.filter fun p=>decide (p.1∈ks)).length+(zaH l ks).length=l.length
 | []=>rfl
 | p::l=>by
  have ih:=zkE ks l
  unfold zaH at ih ⊢
  rw[List.filter_cons,List.map_cons,List.filter_cons]
  by_cases hp:p.1∈ks
  ·rw[if_pos (by simpa using hp),if_neg (by simpa using hp),List.length_cons,List.length_cons]
   omega
  ·rw[if_neg (by simpa using hp),if_pos (by simpa using hp),List.length_cons,List.length_cons]
   omega
theorem zoL (ks:List (List UInt8)) (l:List Fil):zaH (l.filter fun p=>decide (p.1∈ks)) ks=[]:=by
 unfold zaH;rw[List.filter_eq_nil_iff];intro n hn;obtain ⟨p,hp,rfl⟩:=List.mem_map.1 hn
 have:=(List.mem_filter.1 hp).2
 simpa using this
theorem zhn {d:Dk} (h:Rt d) (ks:List (List UInt8)) (he:(zb1 d ks).2=0):zaH (zb1 d ks).1.now ks=[]∧(zb1 d ks).1.now.length+(zaH d.now ks).length=d.now.length:=by
 obtain ⟨h1,_⟩:=zhm h ks;obtain ⟨_,h2⟩:=h1 he;rw[h2]
 exact ⟨zoL ks _,zkE ks _⟩
theorem mcStPutsd0 {P:Prop} (h:P:=by
 have key:=zeo _ d 90000 _ ks _ (HS.out.ext HEX.out) (HD.out.ext HEX.out) ⟨by omega,by omega,HFU.out⟩ (SlR.ext HK.out HEX.out) (by omega) (by omega)
 have Key:=zhd key;clear key;obtain ⟨g0,g1,g2,g3,g4⟩:=zac (HB0.out.ext HEX.out);go_wp2_with fail
 refine Key.out.mono ?_
 rintro e w8 ⟨u8,rfl,ho8,hE8⟩
 have hsz:=zlo (ks:=zaf ks) (n:=90000) (d:=d) ⟨by omega,by omega,HFU.out⟩
 have herr:=zio HRT.out (zaf ks);have hgone:=zhn HRT.out (zaf ks);obtain ⟨⟨o8,pf⟩,hP8⟩:∃ r,zb1 d (zaf ks)=r:=⟨_,rfl⟩;rw[hP8] at ho8 hsz herr hgone;rw[hP8]
 dsimp only at ho8 hsz herr hgone ⊢
 obtain ⟨A8,c8,B8,e8,rfl,hof8,hoq8⟩:=ho8
 have hX9:Ext w8 (w8.alloc (.cells #[.slice A8 o8.fs.length c8,.slice B8 o8.q.length e8,.int .i64 o8.quota,.int .i64 o8.fuse,.bool o8.dead] 25)):=Ext.alloc (Ext.refl _) _
 have HD9:=zhd (show DkV _ (.agg #[.slice A8 o8.fs.length c8,.slice B8 o8.q.length e8,.int .i64 o8.quota,.int .i64 o8.fuse,.bool o8.dead]) o8 from ⟨_,_,rfl,(OwnF.fs hof8).ext hX9,(OwnQ.qs hoq8).ext hX9⟩)
 have HE9:=zhd (Ext.trans HEX.out (Ext.trans hE8 hX9));have HF9:=zhd (HFX.out.ext (Ext.trans hE8 hX9));have hb9:=Blk.new w8 25 #[.slice A8 o8.fs.length c8,.slice B8 o8.q.length e8,.int .i64 o8.quota,.int .i64 o8.fuse,.bool o8.dead];obtain ⟨q0,q1,q2,q3,q4⟩:=zac hb9;clear g0 g1 g2 g3 g4 hE8 hof8 hoq8 hX9 Key hP8 hb9;have HGONE:=zhd hgone;clear hgone
 by_cases hpf:pf=0
 case neg =>
  rcases herr with h | h | h
  ·exact absurd h hpf
  all_goals
   subst h;clear hpf HGONE;go_wp2_with fail
   refine (zaO _ (HS.out.ext HE9.out)).mono ?_
   rintro e w10 ⟨rfl,hE10⟩;go_wp2_with fail;go_ret
   exact ⟨rfl,Ext.trans HE.out (Ext.trans HE9.out hE10)⟩
 subst hpf;clear herr;obtain ⟨hg1,hg2⟩:=HGONE.out rfl;have HG1:=zhd hg1;have HG2:=zhd hg2;have hl8:=zgV o8;have key:=zdx _ o8 _ HD9.out (by have:=hsz.l;omega) (by have:=hsz.t;omega);have Key:=zhd key;clear key hg1 hg2;go_wp2_with fail
 refine Key.out.mono ?_
 rintro e w10 ⟨⟨v10,rfl,hf10⟩,hE10⟩;obtain ⟨A10,c10,rfl,_,_⟩:=Fs.open_ hf10;have HE10:=zhd (Ext.trans HE9.out hE10);have HF10:=zhd (HF9.out.ext hE10);have hl9:=hsz.l;have key:=zdy _ o8.now _ ks w10 (HS.out.ext HE10.out) hf10 (SlR.ext HK.out HE10.out) (by omega) (by omega);have Key:=zhd key;clear key hf10 hE10 q0 q1 q2 q3 q4;go_wp2_with fail
 refine Key.out.mono ?_
 rintro e w11 ⟨⟨A11,c11,rfl⟩,hE11⟩;have HE11:=zhd (Ext.trans HE10.out hE11)
 have hn0:(zaH o8.now (zaf ks)).length=0:=by rw[HG1.out];rfl
 have key:=zdy _ d.now _ ks w11 (HS.out.ext HE11.out) (HF10.out.ext hE11) (SlR.ext HK.out HE11.out) (by omega) (by omega);have Key:=zhd key;clear key hE11
 generalize (zaH o8.now (zaf ks)).length=z0 at hn0 ⊢
 subst hn0;go_wp2_with fail
 refine Key.out.mono ?_
 rintro e w12 ⟨⟨A12,c12,rfl⟩,hE12⟩;have HE12:=zhd (Ext.trans HE11.out hE12);have hsum:=HG2.out;have hrl:=zei d.now (zaf ks);clear hE12
 generalize hz1:(zaH d.now (zaf ks)).length=z1 at *
 have hwr:IntKind.i64.wrap ((d.now.length:Int)-(z1:Int))=(o8.now.length:Int):=by rw[IntKind.wrap_i64];all_goals omega
 go_wp2_with fail
 refine (zaO _ (HS.out.ext HE12.out)).mono ?_
 rintro e w13 ⟨rfl,hE13⟩;go_wp2_with fail;go_ret
 exact ⟨rfl,Ext.trans HE.out (Ext.trans HE12.out hE13)⟩):P:=h
theorem zgV (d:Dk):d.now.length≤d.fs.length+d.q.length:=by
 have h1:=(zk1 (zfy d.fs d.q)).length_eq;have h2:=zjY d.fs d.q;unfold Dk.now;omega
theorem zt0 {d:Dk} (h:Rt d) (nm:Option (List UInt8)) (b:List UInt8) (hp:nm≠some []):(zbL d nm b).2=0∨(zbL d nm b).2=2∨(zbL d nm b).2=40∨(zbL d nm b).2=41:=by
 cases nm with
 | none=>exact .inr (.inl rfl)
 | some n =>
  obtain ⟨_,h1⟩:=zi2 h b (fun (e:n=[])=>hp (congrArg some e))
  rcases h1 with h1 | h1 | h1
  ·exact .inl h1
  ·exact .inr (.inr (.inl h1))
  ·exact .inr (.inr (.inr h1))
theorem zio {d:Dk} (h:Rt d) (ks:List (List UInt8)):(zb1 d ks).2=0∨(zb1 d ks).2=40∨(zb1 d ks).2=41:=(zhm h ks).2
theorem zve {n:Nat} {d:Dk} {nm:Option (List UInt8)} {b:List UInt8} (h:Sz n d):Sz (n+2+b.length) (zbL d nm b).1:=by
 cases nm with
 | none=>exact h.mono (by omega)
 | some x =>
  have h1:=Sz.does [za3 x,za6 x b] true h
  refine Sz.mono h1 ?_
  simp[zaT,za3,za6]
theorem zlo {n:Nat} {d:Dk} {ks:List (List UInt8)} (h:Sz n d):Sz (n+(d.fs.length+d.q.length)) (zb1 d ks).1:=by
 have h1:=Sz.does ((zaH d.now ks).map zbb) false h
 refine Sz.mono h1 ?_
 rw[zgL,List.length_map]
 have:=zei d.now ks
 have:=zgV d
 omega
theorem zpz (v:Value) (d:Dk) (k s f:Int) (vb:Value) (b:List UInt8) (vk:Value) (ks:List (Int×Int×Int)) (w:World) (hS:StW w) (hD:DkV w v d) (hfu:d.fuse≤9223372036854775807) (hB:Bs w vb b) (hK:SlR w 3 vk ks.length (idCells ks))
  (hl1:d.fs.length≤2000000) (hl2:d.q.length≤2000000) (hl3:b.length≤2000000) (hl4:ks.length≤2000000) :
  Calls Tryz.prog 5 #[v,.agg #[.int .u8 k,.int .i64 s,.int .i64 f],vb,vk] w fun e w'=>e=.returned (.bool true)∧Ext w w':=by
 obtain ⟨vf,vq,rfl,hF,hQ⟩:=hD;obtain ⟨A,c,rfl,_,_⟩:=Fs.open_ hF;obtain ⟨B,e2,rfl,_,_⟩:=Qs.open_ hQ;obtain ⟨Ab,cb,rfl,_,_⟩:=SlR.open_ hB;obtain ⟨Ak,ck,rfl,_,_⟩:=SlR.open_ hK;obtain ⟨W0,hW0⟩:∃ W0,(w.alloc (.cells #[.slice A d.fs.length c,.slice B d.q.length e2,.int .i64 d.quota,.int .i64 d.fuse,.bool d.dead] 25)).alloc (.cells #[.int .u8 k,.int .i64 s,.int .i64 f] 49)=W0:=⟨_,rfl⟩
 have hE0:Ext w W0:=by rw[←hW0];exact Ext.alloc (Ext.alloc (Ext.refl _) _) _
 have hb0:Blk W0 w.heap.size 25 #[.slice A d.fs.length c,.slice B d.q.length e2,.int .i64 d.quota,.int .i64 d.fuse,.bool d.dead]:=by rw[←hW0];exact (Blk.new w _ _).alloc _
 have hb1:Blk W0 (w.heap.size+1) 49 #[.int .u8 k,.int .i64 s,.int .i64 f]:=by
  rw[←hW0]
  have:=Blk.new (w.alloc (.cells #[.slice A d.fs.length c,.slice B d.q.length e2,.int .i64 d.quota,.int .i64 d.fuse,.bool d.dead] 25)) 49 #[.int .u8 k,.int .i64 s,.int .i64 f]
  rw[World.size_alloc] at this
  exact this
 have hd0:DkV W0 (.agg #[.slice A d.fs.length c,.slice B d.q.length e2,.int .i64 d.quota,.int .i64 d.fuse,.bool d.dead]) d:=⟨_,_,rfl,hF.ext hE0,hQ.ext hE0⟩
 have key:=zjm _ d W0 hd0 hl1 hl2;have Key:=zhd key;have HS:=zhd (hS.ext hE0);have HD:=zhd hd0;have HB:=zhd (hB.ext hE0);have HK:=zhd (SlR.ext hK hE0);have HB0:=zhd hb0;have HB1:=zhd hb1;have HE:=zhd hE0;have HFU:=zhd hfu;obtain ⟨g0,g1,g2,g3,g4⟩:=zac hb0;obtain ⟨j0,j1,j2⟩:=za7 hb1;clear hS hF hQ hB hK key hE0 hd0 hb0 hb1 hfu
 go_enter Tryz.func5,Tryz.ntmps5
 go_wp2_with fail;clear hW0
 refine Key.out.mono ?_
 rintro e w1 ⟨rfl,hE1⟩;have HE1:=zhd hE1;clear Key g0 g1 g2 g3 g4 j0 j1 j2;obtain ⟨g0,g1,g2,g3,g4⟩:=zac (HB0.out.ext hE1);obtain ⟨j0,j1,j2⟩:=za7 (HB1.out.ext hE1);have HD1:=zhd (HD.out.ext hE1);clear hE1
 rcases hg:zcm d with _ | _
 case true =>
  go_wp2_with fail
  refine (zaO _ (HS.out.ext HE1.out)).mono ?_
  rintro e w2 ⟨rfl,hE2⟩;go_wp2_with fail;go_ret
  exact ⟨rfl,Ext.trans HE.out (Ext.trans HE1.out hE2)⟩
 obtain ⟨m1,m2,m3,m4⟩:=ziz hg;have hnl:=zgV d;have key:=zkm _ d w1 HD1.out (by omega) (by omega) (by omega);have Key:=zhd key;clear hg key;go_wp2_with fail
 refine Key.out.mono ?_
 rintro e w2 ⟨rfl,hE2⟩;have HE2:=zhd (Ext.trans HE1.out hE2);clear Key g0 g1 g2 g3 g4 j0 j1 j2 HD1 HE1 hE2;obtain ⟨g0,g1,g2,g3,g4⟩:=zac (HB0.out.ext HE2.out);obtain ⟨j0,j1,j2⟩:=za7 (HB1.out.ext HE2.out)
 rcases hr:d.right with _ | _
 case false =>
  go_wp2_with fail
  refine (zaO _ (HS.out.ext HE2.out)).mono ?_
  rintro e w3 ⟨rfl,hE3⟩;go_wp2_with fail;go_ret
  exact ⟨rfl,Ext.trans HE.out (Ext.trans HE2.out hE3)⟩
 have HRT:=zhd ((ziH d).1 hr);clear hr
 by_cases hb9:b.length≤900
 case neg =>
  have hbz:(900:Int)<(b.length:Int):=by omega
  go_wp2_with fail
  refine (zaO _ (HS.out.ext HE2.out)).mono ?_
  rintro e w3 ⟨rfl,hE3⟩;go_wp2_with fail;go_ret
  exact ⟨rfl,Ext.trans HE.out (Ext.trans HE2.out hE3)⟩
 by_cases hk4:ks.length≤40
 case neg =>
  have hbz:¬ (900:Int)<(b.length:Int):=by omega
  have hkz:(40:Int)<(ks.length:Int):=by omega
  go_wp2_with fail
  refine (zaO _ (HS.out.ext HE2.out)).mono ?_
  rintro e w3 ⟨rfl,hE3⟩;go_wp2_with fail;go_ret
  exact ⟨rfl,Ext.trans HE.out (Ext.trans HE2.out hE3)⟩
 have hbz:¬ (900:Int)<(b.length:Int):=by omega
 have hkz:¬ (40:Int)<(ks.length:Int):=by omega
 have key:=zdx _ d w2 (HD.out.ext HE2.out) (by omega) (by omega);have Key:=zhd key;clear key;go_wp2_with fail
 refine Key.out.mono ?_
 rintro e w3 ⟨⟨v3,rfl,hf3⟩,hE3⟩;obtain ⟨A3,c3,rfl,_,_⟩:=Fs.open_ hf3;have HF3:=zhd hf3;have HE3:=zhd (Ext.trans HE2.out hE3);clear Key g0 g1 g2 g3 g4 j0 j1 j2 HE2 hE3 hf3;obtain ⟨g0,g1,g2,g3,g4⟩:=zac (HB0.out.ext HE3.out);obtain ⟨j0,j1,j2⟩:=za7 (HB1.out.ext HE3.out)
 have key:=zmF _ d 90000 k s f _ b w3 (HS.out.ext HE3.out) (HD.out.ext HE3.out) ⟨by omega,by omega,HFU.out⟩ (HB.out.ext HE3.out) (by omega)
 have Key:=zhd key;clear key;go_wp2_with fail
 refine Key.out.mono ?_
 rintro e w4 ⟨u,rfl,ho,hE4⟩;obtain ⟨⟨o,pe⟩,hP⟩:∃ r,zbL d (zak k s f) b=r:=⟨_,rfl⟩;rw[hP] at ho;rw[hP]
 dsimp only at ho ⊢
 obtain ⟨A4,c4,B4,e4,rfl,hof,hoq⟩:=ho;have HE4:=zhd (Ext.trans HE3.out hE4);have HP:=zhd hP
 have hX5:Ext w4 (w4.alloc (.cells #[.slice A4 o.fs.length c4,.slice B4 o.q.length e4,.int .i64 o.quota,.int .i64 o.fuse,.bool o.dead] 25)):=Ext.alloc (Ext.refl _) _
 have HBO:=zhd (Blk.new w4 25 #[.slice A4 o.fs.length c4,.slice B4 o.q.length e4,.int .i64 o.quota,.int .i64 o.fuse,.bool o.dead]);have HFO:=zhd ((OwnF.fs hof).ext hX5);have HE5:=zhd (Ext.trans HE4.out hX5);have HF5:=zhd (HF3.out.ext (Ext.trans hE4 hX5));clear Key g0 g1 g2 g3 g4 j0 j1 j2 HE3 hE4 hof hoq hP hX5 HE4 HF3;obtain ⟨o0,o1,o2,o3,o4⟩:=zac HBO.out;obtain ⟨g0,g1,g2,g3,g4⟩:=zac (HB0.out.ext HE5.out);obtain ⟨j0,j1,j2⟩:=za7 (HB1.out.ext HE5.out)
 by_cases hpe:pe=0
 case neg =>
  have herr:=zt0 HRT.out (zak k s f) b (fun e=>zj1 e rfl)
  have hbad:=ztZ HRT.out (k:=k) (s:=s) (f:=f) (b:=b);rw[HP.out] at herr hbad;dsimp only at herr hbad;have HEX:=HE5;have HFX:=HF5;clear HE5 HF5 HFO HBO o0 o1 o2 o3 o4
  by_cases hp2:pe=2
  ·subst hp2
   have hnn:=hbad rfl
   have hmb:zeX k s f=false:=by
    unfold zak at hnn
    cases hm:zeX k s f
    ·rfl
    ·rw[hm] at hnn;cases hnn
   have key:=zfT k s f;have Key:=zhd key;clear key hnn hpe herr hbad;rw[hmb] at Key;go_wp2_with fail
   refine (Key.out _).mono ?_
   rintro e w6 ⟨rfl,hE6⟩
   replace HFX:=zhd (HFX.out.ext hE6)
   replace HEX:=zhd (Ext.trans HEX.out hE6)
   clear Key g0 g1 g2 g3 g4 j0 j1 j2 hE6
   exact mcStPutsd0
  ·have hp3:pe=40∨pe=41:=by omega
   clear hbad herr
   rcases hp3 with h | h
   all_goals
    subst h;clear hpe hp2
    exact mcStPutsd0
 subst hpe
 have hos:o.fs.length≤1000000:=by have:=zve (nm:=zak k s f) (b:=b) (n:=90000) (d:=d) ⟨by omega,by omega,HFU.out⟩;rw[HP.out] at this;have:=this.l;dsimp only at this;omega
 have key:=zfe _ o.fs k s f _ (HS.out.ext HE5.out) HFO.out (by omega);have hpt:=zqh HRT.out (k:=k) (s:=s) (f:=f) (b:=b) (by rw[HP.out]);rw[HP.out] at hpt;dsimp only at hpt;obtain ⟨n,at_,hat,hnm,hpl,hn1,hn2,hq,hall⟩:=hpt;rw[hnm] at key
 rw[show zbS o.fs (some n)=(at_:Int) from hpl] at key
 have Key:=zhd key;have HALL:=zhd hall;have HN2:=zhd hn2;have HQE:=zhd hq;clear key hpl hn1 hall hn2 hnm hq;go_wp2_with fail
 refine Key.out.mono ?_
 rintro e w6 ⟨rfl,hE6⟩;have HE6:=zhd (Ext.trans HE5.out hE6);have HBO6:=zhd (HBO.out.ext hE6);have HFO6:=zhd (HFO.out.ext hE6);have HF6:=zhd (HF5.out.ext hE6);clear Key o0 o1 o2 o3 o4 g0 g1 g2 g3 g4 j0 j1 j2 hE6 HBO HFO HF5 HE5;obtain ⟨_,bf,off,hA4,hc⟩:=HFO6.out.at_ (by omega);subst hA4;obtain ⟨_,B1,d1,c1,hB1⟩:=hc at_ hat;rw[HN2.out] at c1 hB1;obtain ⟨o0,o1,o2,o3,o4⟩:=zac HBO6.out;rw[HQE.out] at o1
 dsimp only[List.length_nil] at o1
 have hcv1:=zaM (P:=Tryz.prog) w6.drew 38 9 5 Tryz.underlying38 Tryz.underlying5 Tryz.underlying9 (SlR.ext hB1 (Ext.drew (Ext.refl _)));have hcv2:=zaM (P:=Tryz.prog) w6.drew 38 9 5 Tryz.underlying38 Tryz.underlying5 Tryz.underlying9 (SlR.ext HB.out (Ext.trans HE6.out (Ext.drew (Ext.refl _))))
 have hat1:(at_:Int)<(o.fs.length:Int):=by omega
 have hat2:¬ (at_:Int)<0:=by omega
 clear hc hB1;go_wp2_with fail
 refine wp_region_held_drew (S:=fun W=>W.cell? ⟨w4.heap.size,0,none⟩=some (.slice (some ⟨bf,off,none⟩) o.fs.length c4)∧W.cell? ⟨w4.heap.size,1,none⟩=some (.slice B4 0 e4)∧W.cell? ⟨bf,off+at_*2+1,none⟩=some (.slice B1 b.length d1)∧(convert 38 9 (.slice B1 b.length d1)).run Tryz.prog W=.ok (.string ⟨b.toArray⟩) W∧(convert 38 9 (.slice Ab b.length cb)).run Tryz.prog W=.ok (.string ⟨b.toArray⟩) W) (by kernel_rfl) ⟨o0,o1,c1,hcv1,hcv2⟩ (fun _=>?_)
 refine tkN 0 rfl ?_;refine tkN 1 rfl ?_;refine tkN 2 rfl ?_;refine tkN 3 rfl ?_;refine tkN 4 rfl ?_;refine tkN 5 rfl ?_;refine tkN 6 rfl ?_;refine tkN 7 rfl ?_;refine tkN 8 rfl ?_;refine tkN 9 rfl ?_;refine tkN 10 rfl ?_;refine tkN 11 rfl ?_;refine tkN 12 rfl ?_;refine tkN 13 rfl ?_;refine tkN 14 rfl ?_;refine tkN 15 rfl ?_;refine tkN 16 rfl ?_;refine tkN 17 rfl ?_;refine tkN 18 rfl ?_;refine tkN 19 rfl ?_;refine wpAnyH_done (by kernel_rfl) ?_ _;clear hcv1 hcv2 c1
 have hx7:Ext w6 w6.drew:=Ext.drew (Ext.refl _)
 have HX7:=zhd hx7;have HFO7:=zhd (HFO6.out.ext hx7);have HF7:=zhd (HF6.out.ext hx7);have HBO7:=zhd (HBO6.out.ext hx7);have HE7:=zhd (Ext.trans HE6.out hx7);clear o0 o1 o2 o3 o4 hx7 HFO6 HF6 HBO6 HE6
 generalize w6.drew=w7 at *
 clear HX7;go_wp2_with fail
 go_loopw [13] (fun i wr=>∃ i9:Nat,i9≤d.now.length∧i=.int .i64 i9∧Hid (Ext w7 wr)) (fun i _=>d.now.length-(intOf i).toNat)
 case atStart=>exact ⟨0,Nat.zero_le _,rfl,Ext.refl _⟩
 case round =>
  obtain ⟨i9,hi9,rfl,HX⟩:=hrel
  by_cases hlt:i9<d.now.length
  ·have hltz:(i9:Int)<(d.now.length:Int):=by omega
   obtain ⟨_,bn,offn,hA3,hc⟩:=HF7.out.at_ (by omega);subst hA3;obtain ⟨p0,Bp,dp,p1,hBp⟩:=hc i9 hlt;obtain ⟨jm,hjm,hm1,hm2⟩:=HALL.out _ (List.getElem_mem hlt);clear hc;obtain ⟨p,hp⟩:∃ p,d.now[i9]=p:=⟨_,rfl⟩;rw[hp] at p0 p1 hBp hm1 hm2;obtain ⟨pn,pb⟩:=p;dsimp only at p0 p1 hBp hm1 hm2;have HP0:=zhd p0;have HP1:=zhd p1;have HBP:=zhd hBp
   have HM:=zhd (show ∃ q,∃ (h:q<o.fs.length),q<o.fs.length∧o.fs[q].1=pn∧(q=at_∨o.fs[q].2=pb) from ⟨jm,hjm,hjm,hm1,hm2⟩)
   clear p0 p1 hBp hm1 hm2 hp hjm;go_wp2_with fail
   go_loopw [14,15] (fun sm k wr2=>∃ (k9:Nat) (sb:Bool),k9≤o.fs.length∧k=.int .i64 k9∧sm=.bool sb∧Hid (sb=true↔∃ q,∃ (h:q<o.fs.length),q<k9∧o.fs[q].1=pn∧(q=at_∨o.fs[q].2=pb))∧Hid (Ext w7 wr2)) (fun _ k _=>o.fs.length-(intOf k).toNat)
   case atStart=>exact ⟨0,false,Nat.zero_le _,rfl,rfl,zhd ⟨(fun h=>by cases h),(fun ⟨q,_,h,_⟩=>by omega)⟩,HX⟩
   case round =>
    rename World=>wr2
    clear HX;obtain ⟨k9,sb,hk9,rfl,rfl,Hsb,HX⟩:=hrel;obtain ⟨o0,o1,o2,o3,o4⟩:=zac (HBO7.out.ext HX.out)
    by_cases hlt2:k9<o.fs.length
    ·have hltz2:(k9:Int)<(o.fs.length:Int):=by omega
     obtain ⟨_,bf2,off2,hA4,hc⟩:=HFO7.out.at_ (by omega)
     cases hA4
     obtain ⟨q0,Bq,dq,q1,hBq⟩:=hc k9 hlt2;have hsb2:=Hsb.out;obtain ⟨x,hx⟩:∃ x,o.fs[k9]=x:=⟨_,rfl⟩;rw[hx] at q0 q1 hBq
     have hstep:∀ sb2:Bool,(sb2=true↔(sb=true∨(x.1=pn∧(k9=at_∨x.2=pb))))→(sb2=true↔∃ q,∃ (h:q<o.fs.length),q<k9+1∧o.fs[q].1=pn∧(q=at_∨o.fs[q].2=pb)):=by
      intro sb2 h2;rw[h2,hsb2]
      constructor
      ·rintro (⟨q,h1,h3,h4⟩ | h3)
       ·exact ⟨q,h1,by omega,h4⟩
       ·exact ⟨k9,hlt2,by omega,by rw[hx];exact h3⟩
      ·rintro ⟨q,h1,h3,h4⟩
       by_cases e:q=k9
       ·subst e;rw[hx] at h4;exact .inr h4
       ·exact .inl ⟨q,h1,by omega,h4⟩
     have HST:=zhd hstep;clear hc hsb2 hstep Hsb hx;obtain ⟨xn,xb⟩:=x;dsimp only at q0 q1 hBq HST;have c0:=HX.out.cell q0;have c1:=HX.out.cell q1;have e0:=HX.out.cell HP0.out;have e1:=HX.out.cell HP1.out;have hcv1:=zaM (P:=Tryz.prog) wr2.drew 38 9 5 Tryz.underlying38 Tryz.underlying5 Tryz.underlying9 (SlR.ext hBq (Ext.trans HX.out (Ext.drew (Ext.refl _))));have hcv2:=zaM (P:=Tryz.prog) wr2.drew 38 9 5 Tryz.underlying38 Tryz.underlying5 Tryz.underlying9 (SlR.ext HBP.out (Ext.trans HX.out (Ext.drew (Ext.refl _))));clear q0 q1 hBq;unfold sv at c0 e0;go_wp2_with fail
     refine wp_region_held_drew (S:=fun W=>W.cell? ⟨w4.heap.size,0,none⟩=some (.slice (some ⟨bf,off,none⟩) o.fs.length c4)∧W.cell? ⟨bf,off+k9*2,none⟩=some (.string ⟨xn.toArray⟩)∧W.cell? ⟨bf,off+k9*2+1,none⟩=some (.slice Bq xb.length dq)∧W.cell? ⟨bn,offn+i9*2,none⟩=some (.string ⟨pn.toArray⟩)∧W.cell? ⟨bn,offn+i9*2+1,none⟩=some (.slice Bp pb.length dp)∧(convert 38 9 (.slice Bq xb.length dq)).run Tryz.prog W=.ok (.string ⟨xb.toArray⟩) W∧(convert 38 9 (.slice Bp pb.length dp)).run Tryz.prog W=.ok (.string ⟨pb.toArray⟩) W) (by kernel_rfl) ⟨o0,c0,c1,e0,e1,hcv1,hcv2⟩ (fun _=>?_)
     clear o0 o1 o2 o3 o4 c0 c1 e0 e1 hcv1 hcv2
     cases sb with
     | true =>
      have HS2:=zhd (HST.out true (by simp));clear HST;refine tkN 0 rfl ?_;refine tkN 1 rfl ?_;refine tkS 2 rfl ?_;refine tkS 3 rfl ?_;refine tkS 4 rfl ?_;refine tkS 5 rfl ?_;refine tkS 6 rfl ?_;refine tkS 7 rfl ?_;refine tkS 8 rfl ?_;refine tkS 9 rfl ?_;refine tkS 10 rfl ?_;refine tkS 11 rfl ?_;refine tkS 12 rfl ?_;refine tkS 13 rfl ?_;refine tkS 14 rfl ?_;refine tkS 15 rfl ?_;refine tkS 16 rfl ?_;refine tkS 17 rfl ?_;refine tkS 18 rfl ?_;refine tkS 19 rfl ?_;refine tkS 20 rfl ?_;refine tkS 21 rfl ?_;refine tkS 22 rfl ?_;refine tkS 23 rfl ?_;refine tkS 24 rfl ?_;refine tkS 25 rfl ?_;refine tkS 26 rfl ?_;refine tkS 27 rfl ?_;refine tkS 28 rfl ?_;refine tkS 29 rfl ?_;refine tkS 30 rfl ?_;refine tkS 31 rfl ?_;refine tkS 32 rfl ?_;refine tkS 33 rfl ?_;refine tkS 34 rfl ?_;refine tkN 35 rfl ?_;refine tkN 36 rfl ?_;refine wpAnyH_done (by kernel_rfl) ?_ _;go_wp2_with fail
      go_roundw
      case rel=>exact ⟨k9+1,true,by omega,by go_num,rfl,HS2,Ext.drew HX.out⟩
      case measure=>simp[intOf];omega
     | false =>
      by_cases hxn:xn=pn
      case neg =>
       have hne:(xn==pn)=false:=by simpa using hxn
       have HS2:=zhd (HST.out false (by simp[hxn]));clear HST hxn;refine tkN 0 rfl ?_;refine tkN 1 rfl ?_;refine tkN 2 rfl ?_;refine tkN 3 rfl ?_;refine tkN 4 rfl ?_;refine tkN 5 rfl ?_;refine tkN 6 rfl ?_;refine tkN 7 rfl ?_;refine tkN 8 rfl ?_;refine tkN 9 rfl ?_;refine tkN 10 rfl ?_;refine tkN 11 rfl ?_;refine tkN 12 rfl ?_;refine tkN 13 rfl ?_;refine tkN 14 rfl ?_;refine tkS 15 rfl ?_;refine tkS 16 rfl ?_;refine tkS 17 rfl ?_;refine tkS 18 rfl ?_;refine tkS 19 rfl ?_;refine tkS 20 rfl ?_;refine tkS 21 rfl ?_;refine tkS 22 rfl ?_;refine tkS 23 rfl ?_;refine tkS 24 rfl ?_;refine tkS 25 rfl ?_;refine tkS 26 rfl ?_;refine tkS 27 rfl ?_;refine tkS 28 rfl ?_;refine tkS 29 rfl ?_;refine tkS 30 rfl ?_;refine tkS 31 rfl ?_;refine tkS 32 rfl ?_;refine tkS 33 rfl ?_;refine tkN 34 rfl ?_;refine tkN 35 rfl ?_;refine tkN 36 rfl ?_;refine wpAnyH_done (by kernel_rfl) ?_ _;go_wp2_with fail
       go_roundw
       case rel=>exact ⟨k9+1,false,by omega,by go_num,rfl,HS2,Ext.drew HX.out⟩
       case measure=>simp[intOf];omega
      have hne:(xn==pn)=true:=by simpa using hxn
      by_cases hka:k9=at_
      ·have hkz:((k9:Int)==(at_:Int))=true:=by simp[hka]
       have HS2:=zhd (HST.out true (by simp[hxn,hka]));have HXN:=zhd hxn;have HKA:=zhd hka;clear HST hxn hka;refine tkN 0 rfl ?_;refine tkN 1 rfl ?_;refine tkN 2 rfl ?_;refine tkN 3 rfl ?_;refine tkN 4 rfl ?_;refine tkN 5 rfl ?_;refine tkN 6 rfl ?_;refine tkN 7 rfl ?_;refine tkN 8 rfl ?_;refine tkN 9 rfl ?_;refine tkN 10 rfl ?_;refine tkN 11 rfl ?_;refine tkN 12 rfl ?_;refine tkN 13 rfl ?_;refine tkN 14 rfl ?_;refine tkN 15 rfl ?_;refine tkN 16 rfl ?_;refine tkN 17 rfl ?_;refine tkN 18 rfl ?_;refine tkS 19 rfl ?_;refine tkS 20 rfl ?_;refine tkS 21 rfl ?_;refine tkS 22 rfl ?_;refine tkS 23 rfl ?_;refine tkS 24 rfl ?_;refine tkS 25 rfl ?_;refine tkS 26 rfl ?_;refine tkS 27 rfl ?_;refine tkS 28 rfl ?_;refine tkS 29 rfl ?_;refine tkS 30 rfl ?_;refine tkS 31 rfl ?_;refine tkS 32 rfl ?_;refine tkN 33 rfl ?_;refine tkN 34 rfl ?_;refine tkN 35 rfl ?_;refine tkN 36 rfl ?_;refine wpAnyH_done (by kernel_rfl) ?_ _;go_wp2_with fail
       go_roundw
       case rel=>exact ⟨k9+1,true,by omega,by go_num,rfl,HS2,Ext.drew HX.out⟩
       case measure=>simp[intOf];omega
      ·have hkz:((k9:Int)==(at_:Int))=false:=by simp;omega
       have HS2:=zhd (HST.out (xb==pb) (by simp[hxn,hka]));have HXN:=zhd hxn;have HKA:=zhd hka;clear HST hxn hka;refine tkN 0 rfl ?_;refine tkN 1 rfl ?_;refine tkN 2 rfl ?_;refine tkN 3 rfl ?_;refine tkN 4 rfl ?_;refine tkN 5 rfl ?_;refine tkN 6 rfl ?_;refine tkN 7 rfl ?_;refine tkN 8 rfl ?_;refine tkN 9 rfl ?_;refine tkN 10 rfl ?_;refine tkN 11 rfl ?_;refine tkN 12 rfl ?_;refine tkN 13 rfl ?_;refine tkN 14 rfl ?_;refine tkN 15 rfl ?_;refine tkN 16 rfl ?_;refine tkN 17 rfl ?_;refine tkN 18 rfl ?_;refine tkN 19 rfl ?_;refine tkN 20 rfl ?_;refine tkN 21 rfl ?_;refine tkN 22 rfl ?_;refine tkN 23 rfl ?_;refine tkN 24 rfl ?_;refine tkN 25 rfl ?_;refine tkN 26 rfl ?_;refine tkN 27 rfl ?_;refine tkN 28 rfl ?_;refine tkN 29 rfl ?_;refine tkN 30 rfl ?_;refine tkN 31 rfl ?_;refine tkN 32 rfl ?_;refine tkN 33 rfl ?_;refine tkN 34 rfl ?_;refine tkN 35 rfl ?_;refine tkN 36 rfl ?_;refine wpAnyH_done (by kernel_rfl) ?_ _;go_wp2_with fail
       go_roundw
       case rel=>exact ⟨k9+1,xb==pb,by omega,by go_num,rfl,HS2,Ext.drew HX.out⟩
       case measure=>simp[intOf];omega
    ·obtain rfl:k9=o.fs.length:=by omega
     have hsb:sb=true:=Hsb.out.2 HM.out
     subst hsb;go_wp2_with fail
     go_roundw
     case rel=>exact ⟨i9+1,by omega,by go_num,HX⟩
     case measure=>simp[intOf];omega
  ·obtain rfl:i9=d.now.length:=by omega
   have HEX:=zhd (Ext.trans HE7.out HX.out);have HFX:=zhd (HF7.out.ext HX.out);clear HX HE7 HF7 HALL HN2 HQE HFO7 HBO7
   exact mcStPutsd0
open Go.ChangeShapes Go.WideShapes Go.ChangeAt Go.RowKit Go.Deep Go.Mv Go.WideElems
theorem zo3:Tryz.prog.cellsOf 49=3:=by kernel_rfl
section
variable {H:Type} {enc:TypeId×Value→H} {W:World} {base:Nat} {v:Value} {d:DataW H} {p:List MemPlace}
def IdE (_:World) (c:Nat→Option Value) (x:Int×Int×Int):Prop:=c 0=some (.int .u8 x.1)∧c 1=some (.int .i64 x.2.1)∧c 2=some (.int .i64 x.2.2)
theorem zvN (n:Nat) (cs:List Value) (x:DataW H×List MemPlace) (hl:cs.length=3) (hf:DataW.trod enc Tryz.prog W 0 (fun _=>true) true n 49 cs=some x):∃ a:Int×Int×Int,IdE W (fun i=>if i<3 then cs[i]? else none) a∧0≤Rows.uptoBulk x.1:=by
 match cs,hl with
 | [c0,c1,c2],_ =>
  obtain ⟨xs,n',_,hxx,_,hxl,hg⟩:=DataW.trod_struct Tryz.underlying49 hf;have g0:=hg 0 _ rfl;have g1:=hg 1 _ rfl;have g2:=hg 2 _ rfl
  have hxl':xs.length=3:=hxl
  match xs,hxl' with
  | [x0,x1,x2],_ =>
   obtain ⟨n0,e0,_,wf0⟩:=DataW.trod_int Tryz.underlying5 g0
   have k0:c0=.int .u8 n0:=by have h:List.take (Tryz.prog.cellsOf 5) [c0,c1,c2]=[Value.int .u8 n0]:=e0;rw[zjN] at h;simpa using h
   obtain ⟨n1,e1,_,wf1⟩:=DataW.trod_int Tryz.underlying3 g1
   have k1:c1=.int .i64 n1:=by have h:List.take (Tryz.prog.cellsOf 3) [c1,c2]=[Value.int .i64 n1]:=e1;rw[zbC] at h;simpa using h
   obtain ⟨n2,e2,_,wf2⟩:=DataW.trod_int Tryz.underlying3 g2
   have k2:c2=.int .i64 n2:=by have h:List.take (Tryz.prog.cellsOf 3) [c2]=[Value.int .i64 n2]:=e2;rw[zbC] at h;simpa using h
   subst k0 k1 k2
   exact ⟨(n0,n1,n2),⟨rfl,rfl,rfl⟩,Nat.zero_le _⟩
theorem zm1 {n:Nat} {c:Value} {x:DataW H×List MemPlace} (hf:DataW.trod enc Tryz.prog W 0 (fun _=>true) true n 43 [c]=some x):∃ ks,SlR W 3 c ks.length (idCells ks)∧ks.length≤Rows.uptoBulk x.1:=by
 obtain ⟨l,xs,h1,h2,h3,_⟩:=zeC Tryz.underlying43 zo3 (by decide) IdE (fun _=>0) zvN hf
 have he:xs=idCells l:=by
  have hl2:=zoo l
  refine List.ext_getElem? fun j=>?_
  by_cases hj:j<l.length*3
  ·obtain ⟨g0,g1,g2⟩:=zhs l (k:=j / 3) (by omega)
   obtain ⟨f0,f1,f2⟩:=h2.2 (j / 3) (by omega)
   have f0:xs[j / 3*3+0]?=_:=f0
   have f1:xs[j / 3*3+1]?=_:=f1
   have f2:xs[j / 3*3+2]?=_:=f2
   have hc:j=j / 3*3+0∨j=j / 3*3+1∨j=j / 3*3+2:=by omega
   rcases hc with h | h | h
   ·rw[h,f0];exact g0.symm
   ·rw[h,f1];exact g1.symm
   ·rw[h,f2];exact g2.symm
  ·rw[List.getElem?_eq_none (by rw[h2.1];omega),List.getElem?_eq_none (by rw[hl2];omega)]
 exact ⟨l,he ▸ h1,h3⟩
theorem zmK (hv:Value.okWide Tryz.prog W .any base 38 v) (h:DataW.Trod enc Tryz.prog W 0 (fun _=>true) true 38 v d p):∃ b,Bs W v b∧b.length≤Rows.uptoBulk d:=by
 obtain ⟨a0,len,cap,rfl⟩:=okWide_slice Tryz.underlying38 hv;obtain ⟨fuel,hf⟩:=h
 have hf':DataW.trod enc Tryz.prog W 0 (fun _=>true) true fuel 38 [.slice a0 len cap]=some (d,p):=by simpa [Value.cells] using hf
 exact ze9 hf'
theorem zop (hv:Value.okWide Tryz.prog W .any base 43 v) (h:DataW.Trod enc Tryz.prog W 0 (fun _=>true) true 43 v d p):∃ ks,SlR W 3 v ks.length (idCells ks)∧ks.length≤Rows.uptoBulk d:=by
 obtain ⟨a0,len,cap,rfl⟩:=okWide_slice Tryz.underlying43 hv;obtain ⟨fuel,hf⟩:=h
 have hf':DataW.trod enc Tryz.prog W 0 (fun _=>true) true fuel 43 [.slice a0 len cap]=some (d,p):=by simpa [Value.cells] using hf
 exact zm1 hf'
theorem zp5 (hv:Value.okWide Tryz.prog W .any base 49 v) (h:DataW.Trod enc Tryz.prog W 0 (fun _=>true) true 49 v d p):∃ k s f:Int,v=.agg #[.int .u8 k,.int .i64 s,.int .i64 f]:=by
 obtain ⟨cs,rfl,hsz⟩:=okWide_struct Tryz.underlying49 hv;rw[zo3] at hsz;obtain ⟨l⟩:=cs;obtain ⟨fuel,hf⟩:=h
 match l,hsz with
 | [c0,c1,c2],_ =>
  obtain ⟨xs,n',_,hxx,_,hxl,hg⟩:=DataW.trod_struct Tryz.underlying49 hf;have g0:=hg 0 _ rfl;have g1:=hg 1 _ rfl;have g2:=hg 2 _ rfl
  have hxl':xs.length=3:=hxl
  match xs,hxl' with
  | [x0,x1,x2],_ =>
   obtain ⟨n0,e0,_,wf0⟩:=DataW.trod_int Tryz.underlying5 g0
   have k0:c0=.int .u8 n0:=by have h:List.take (Tryz.prog.cellsOf 5) [c0,c1,c2]=[Value.int .u8 n0]:=e0;rw[zjN] at h;simpa using h
   obtain ⟨n1,e1,_,wf1⟩:=DataW.trod_int Tryz.underlying3 g1
   have k1:c1=.int .i64 n1:=by have h:List.take (Tryz.prog.cellsOf 3) [c1,c2]=[Value.int .i64 n1]:=e1;rw[zbC] at h;simpa using h
   obtain ⟨n2,e2,_,wf2⟩:=DataW.trod_int Tryz.underlying3 g2
   have k2:c2=.int .i64 n2:=by have h:List.take (Tryz.prog.cellsOf 3) [c2]=[Value.int .i64 n2]:=e2;rw[zbC] at h;simpa using h
   subst k0 k1 k2
   exact ⟨n0,n1,n2,rfl⟩
end
end Go.Proofs.YtgonhdeochgkoaaGreatDoor
