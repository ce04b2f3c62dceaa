/- Merged -/
import Derived.Test.YtgonhdeochgkoaaGreatDoorZx28
import Derived.Test.YtgonhdeochgkoaaGreatDoorZx31
import Derived.Lib.ConvBytes
set_option linter.all false
set_option maxHeartbeats 8000000
set_option maxRecDepth 100000
open List renaming length_take→P0,getElem?_eq_getElem→P1,getElem?_eq_none→P2,getElem?_take→P3,getElem?_map→P4,append_nil→P5
open Go.RowKit.Below renaming heap_setCell→P6
open Nat renaming le_succ→P7,zero_add→P8
namespace Go.Proofs.YtgonhdeochgkoaaGreatDoor
open Go.RowKit Go.Mv Go.Shelf
theorem mcR6ba0 {P:Prop} (h:P:=by
 have H2:=Hu.out;have Hb:=Fs.setBox H2 Hw.out (.slice A3 (zba d.fs (d.q.take kk)).length c3) (.slice none 0 0) (.int .i64 d.quota) (.int .i64 0) (.bool false);have Hl:=zhd (zaJ H2 (.slice A3 (zba d.fs (d.q.take kk)).length c3) (.slice none 0 0) (.int .i64 d.quota) (.int .i64 0) (.bool false));have Hm:=zhd (zaB Hv.out (P7 w.heap.size) (.slice A3 (zba d.fs (d.q.take kk)).length c3) (.slice none 0 0) (.int .i64 d.quota) (.int .i64 0) (.bool false));have Hn:=zhd Hb;obtain ⟨x0,x1,x2,x3,x4⟩:=zac H2;obtain ⟨y0,y1,y2,y3,y4⟩:=za4 H2;obtain ⟨z0,z1,z2,z3,z4⟩:=zac Hg.out;clear H2 Hb;go_wp2_with fail
 refine bodyPost_ret (zf3 _ _ _ _ rfl Hl.out rfl) rfl ?_
 exact ⟨⟨_,rfl,⟨_,_,rfl,by rw[←Hh.out];exact Hn.out,⟨[],SlR.nil _ 4,RowOf.nil⟩⟩⟩,Hm.out⟩):P:=h
theorem zoy {A:Option Addr} {n c:Nat} {B:Option Addr} {m e:Nat} {q f:Int} {d:Bool} {k:Nat} {u:Value} (h:(zaz A n c B m e q f d)[k]?=some u):(∃ x,u=.int .i64 x)∨(∃ A n c,u=.slice A n c)∨∃ b,u=.bool b:=by
 match k,h with
 | 0,h | 1,h=>exact .inr (.inl ⟨_,_,_,by injection h with h;exact h.symm⟩)
 | 2,h | 3,h=>exact .inl ⟨_,by injection h with h;exact h.symm⟩
 | 4,h=>exact .inr (.inr ⟨_,by injection h with h;exact h.symm⟩)
 | k+5,h=>simp[zaz] at h
theorem zj8 {W:World} {b:Nat} {p:Addr} {u:Value} (h:W.cell? p=some u) (hp:p.block≠b) (a' v' u' x' y':Value):(zcX W b a' v' u' x' y').cell? p=some u:=by
 have hh:(zcX W b a' v' u' x' y').heap[p.block]?=W.heap[p.block]?:=by
  unfold zcX;rw[P6 _ _ _ _ hp,P6 _ _ _ _ hp,P6 _ _ _ _ hp,P6 _ _ _ _ hp,P6 _ _ _ _ hp]
 unfold World.cell? at h ⊢
 rw[hh]
 exact h
theorem Fs.setBox {W:World} {b:Nat} {t:TypeId} {A:Option Addr} {n c:Nat} {B:Option Addr} {m e:Nat} {q f:Int} {d:Bool} (hb:Blk W b t (zaz A n c B m e q f d)) {v:Value} {fs:List Fil} (h:Fs W v fs) (a' v' u' x' y':Value):Fs (zcX W b a' v' u' x' y') v fs:=by
 obtain ⟨vs,h1,h2⟩:=h
 refine ⟨vs,?_,fun i hi=>?_⟩
 ·obtain ⟨hl,A',c',rfl,HI,HJ,hc⟩:=h1
  refine ⟨hl,A',c',rfl,HI,HJ,fun h0=>?_⟩
  obtain ⟨b',Hf,rfl,H3⟩:=hc h0
  refine ⟨b',Hf,rfl,fun j u hu=>zj8 (H3 j u hu) ?_ _ _ _ _ _⟩
  rintro rfl
  rcases zoy (zov hb (H3 0 _ (h2 0 h0).1)) with ⟨x,hx⟩ | ⟨_,_,_,hx⟩ | ⟨_,hx⟩ <;> cases hx
 ·obtain ⟨h3,u,h4,h5⟩:=h2 i hi
  refine ⟨h3,u,h4,?_⟩
  obtain ⟨hl,A',c',rfl,HI,HJ,hc⟩:=h5
  refine ⟨hl,A',c',rfl,HI,HJ,fun h0=>?_⟩
  obtain ⟨b',Hf,rfl,H3⟩:=hc h0
  refine ⟨b',Hf,rfl,fun j u hu=>zj8 (H3 j u hu) ?_ _ _ _ _ _⟩
  rintro rfl
  rcases zoy (zov hb (H3 0 _ (by rw[P4,P1 h0];rfl))) with ⟨x,hx⟩ | ⟨_,_,_,hx⟩ | ⟨_,hx⟩ <;> cases hx
theorem zoM {W:World} {A:Option Addr} {c:Nat} {l:List Oq} (h:Qs W (.slice A l.length c) l) (k:Nat) (hk:k≤l.length):Qs W (.slice A k c) (l.take k):=by
 obtain ⟨xs,h1,h2⟩:=h;obtain ⟨hl,A',c',e,g1,g2,g3⟩:=h1
 cases e
 have H6:(l.take k).length=k:=by rw[P0];omega
 refine ⟨xs.take (k*4),?_,?_⟩
 ·rw[H6]
  refine ⟨by rw[P0,hl];omega,A,c,rfl,by omega,g2,fun hn=>?_⟩
  obtain ⟨b,Hf,rfl,hc⟩:=g3 (by omega)
  exact ⟨b,Hf,rfl,fun j u hu=>hc j u (by
   rw[P3] at hu
   split at hu
   ·exact hu
   ·cases hu)⟩
 ·refine ⟨by rw[P0,H6,hl];omega,fun i hi=>?_⟩
  rw[H6] at hi;have g:=h2.2 i (by omega);simp only[List.getElem_take]
  have e:(fun j=>if j<4 then (xs.take (k*4))[i*4+j]? else none)=fun j=>if j<4 then xs[i*4+j]? else none:=by
   funext j
   by_cases hj:j<4
   ·rw[if_pos hj,if_pos hj,List.getElem?_take_of_lt (by omega)]
   ·rw[if_neg hj,if_neg hj]
  rw[e]
  exact g
theorem ztS {w:World} {A:Option Addr} {n c:Nat} {bs:List UInt8} (h:Bs w (.slice A n c) bs) (k:Nat) (hk:k≤bs.length):Bs w (.slice A k c) (bs.take k):=by
 obtain ⟨hl,A',c',e,h1,h2,h3⟩:=h
 cases e
 have H6:(bs.take k).length=k:=by rw[P0];omega
 unfold Bs;rw[H6]
 refine ⟨by rw[List.length_map,H6,Nat.mul_one],A,c,rfl,by omega,h2,fun hn=>?_⟩
 obtain ⟨b,Hf,rfl,hc⟩:=h3 (by omega)
 exact ⟨b,Hf,rfl,fun j u hu=>hc j u (by
  rw[List.map_take,P3] at hu
  split at hu
  ·exact hu
  ·cases hu)⟩
theorem zrq (fs:List Fil) (q:List Oq) (o:Oq):zba fs (q++[o])=za1 (zba fs q) o:=by unfold zba;rw[List.foldl_append];rfl
theorem zr5 (q:List Oq) (keep:Int):min (max keep 0) (q.length:Int)=(zb0 q keep:Int)∧zb0 q keep≤q.length:=by unfold zb0;omega
theorem zr4 {q:List Oq} {keep:Int} (torn:Int) {o:Oq} (h:q[zb0 q keep]?=some o) (hk:o.k=2):zbw q keep torn=q.take (zb0 q keep)++[zhz o torn]:=by unfold zbw;rw[h];dsimp only;rw[if_pos hk]
theorem zts {q:List Oq} {keep:Int} (torn:Int) {o:Oq} (h:q[zb0 q keep]?=some o) (hk:¬ o.k=2):zbw q keep torn=q.take (zb0 q keep):=by unfold zbw;rw[h];dsimp only;rw[if_neg hk,P5]
theorem zlv {q:List Oq} {keep:Int} (torn:Int) (h:¬ zb0 q keep<q.length):zbw q keep torn=q.take (zb0 q keep):=by unfold zbw;rw[P2 (by omega)];exact P5 _
theorem zjS (q:List Oq) (k:Nat):zaG (q.take k)≤zaG q:=by
 have h1:zaG (q.take k)+zaG (q.drop k)=zaG q:=by rw[←zcf,List.take_append_drop]
 omega
theorem zow (w:World) (b:List UInt8) (hl:b.length≤1000000):Bs (Lib.bytesWorld w 5 ⟨b.toArray⟩) (.slice (some ⟨w.heap.size,0,none⟩) b.length (grownCap w b.length 0 5)) b:=by
 refine ⟨by simp,_,_,rfl,grownCap_ge _ _ _ _,grownCap_le_maxLen _ _ _ _ (by unfold maxLen;omega),fun hn=>⟨_,_,rfl,fun j u hu=>?_⟩⟩
 rw[P4] at hu
 have hj:j<b.length:=by
  rcases Nat.lt_or_ge j b.length with h | h
  ·exact h
  ·rw[P2 h] at hu;cases hu
 rw[P8,Lib.bytesWorld_cell w _ _ j (by show j<b.toArray.size;simpa using hj)];rw[P1 hj] at hu;rw[←Option.some.inj hu]
 simp[bv,List.getD,P1 hj]
theorem zmp (w:World) (b:List UInt8):Ext w (Lib.bytesWorld w 5 ⟨b.toArray⟩):=⟨rfl,rfl,rfl,by rw[Lib.bytesWorld_size];omega,fun k hk=>Lib.bytesWorld_at_old w _ _ k (by omega)⟩
theorem zf3 (tmps:Array Value) (W:World) (b:Nat) (cs:Array Value) (h4:tmps.getD 6 undef=.pointer (some ⟨b,0,none⟩)) (hb:Blk W b 25 cs) (hs:cs.size=5):(results Tryz.f13 tmps).run Tryz.prog W=.ok (.agg cs) W:=by
 have hl:=hb.load (P:=Tryz.prog) zg3 rfl (by rw[hs];kernel_rfl)
 have Kp:tmps[6]?.getD undef=.pointer (some ⟨b,0,none⟩):=by simpa using h4
 simp[results,Tryz.results13,Kp,asAddr,hl]
theorem zoU (v:Value) (d:Dk) (keep torn:Int) (w:World) (hD:DkV w v d) (hr:d.right=true) (hl:d.fs.length+d.q.length≤900000) (hb:tot d.fs+zaG d.q≤900000) :
  Calls Tryz.prog 13 #[v,.int .i64 keep,.int .i64 torn] w fun e w'=>(∃ u,e=.returned u∧DkV w' u ⟨zba d.fs (zbw d.q keep torn),[],d.quota,0,false⟩)∧Ext w w':=by
 obtain ⟨vf,vq,rfl,hF,hQ⟩:=hD;obtain ⟨A,c,rfl,_,_⟩:=Fs.open_ hF;obtain ⟨B,e2,rfl,_,_⟩:=Qs.open_ hQ;obtain ⟨W0,Hz⟩:∃ W0,(w.alloc (.cells #[.slice A d.fs.length c,.slice B d.q.length e2,.int .i64 d.quota,.int .i64 d.fuse,.bool d.dead] 25)).alloc (.cells #[.slice none 0 0,.slice none 0 0,.int .i64 0,.int .i64 0,.bool false] 25)=W0:=⟨_,rfl⟩
 have Hx:Ext w W0:=by rw[←Hz];exact xA (xA (xR _) _) _
 have h0:Blk W0 w.heap.size 25 (zaz A d.fs.length c B d.q.length e2 d.quota d.fuse d.dead):=by rw[←Hz];exact (Blk.new w _ _).alloc _
 have h1:Blk W0 (w.heap.size+1) 25 (zaz none 0 0 none 0 0 0 0 false):=by
  rw[←Hz]
  have:=Blk.new (w.alloc (.cells #[.slice A d.fs.length c,.slice B d.q.length e2,.int .i64 d.quota,.int .i64 d.fuse,.bool d.dead] 25)) 25 #[.slice none 0 0,.slice none 0 0,.int .i64 0,.int .i64 0,.bool false]
  rwa [xS] at this
 have Kv:=zdP d;have key:=zl7 (.agg #[.slice A d.fs.length c,.slice B d.q.length e2,.int .i64 d.quota,.int .i64 d.fuse,.bool d.dead]) d W0 ⟨_,_,rfl,hF.ext Hx,hQ.ext Hx⟩ hl hb;have K4:=zhd key;have HU:=zhd Hx;have H0:=zhd h0;have H1:=zhd h1;have HR:=zhd hr;have HL:=zhd hl;have HB:=zhd hb;obtain ⟨T,hT⟩:∃ T,zba d.fs (zbw d.q keep torn)=T:=⟨_,rfl⟩;have HT:=zhd hT;rw[hT];obtain ⟨g0,g1,g2,g3,g4⟩:=zac h0;clear hT key h0 h1 hF hQ Hx hr hl hb
 go_enter Tryz.func13,Tryz.ntmps13
 go_wp2_with fail;clear Hz
 refine K4.out.mono ?_
 rintro e w1 ⟨u,rfl,⟨A1,c1,B1,e1,rfl,Ke,HO⟩,Hy⟩;have Hk:=H0.out.ext Hy;have K7:=H1.out.ext Hy
 have K6:Ext w (zcX w1 w.heap.size (.slice A1 d.fs.length c1) (.slice B1 d.q.length e1) (.int .i64 d.quota) (.int .i64 d.fuse) (.bool d.dead)):=zaB (xT HU.out Hy) (xN w.heap.size) _ _ _ _ _
 have Hs:=OwnF.box1 (A':=A1) (n':=d.fs.length) (c':=c1) (B':=B1) (m':=d.q.length) (e':=e1) (q':=d.quota) (f':=d.fuse) (d':=d.dead) Ke Hk;have Ht:=OwnQ.box1 (A':=A1) (n':=d.fs.length) (c':=c1) (B':=B1) (m':=d.q.length) (e':=e1) (q':=d.quota) (f':=d.fuse) (d':=d.dead) HO Hk;have K9:=zaJ Hk (.slice A1 d.fs.length c1) (.slice B1 d.q.length e1) (.int .i64 d.quota) (.int .i64 d.fuse) (.bool d.dead)
 have K8:Blk (zcX w1 w.heap.size (.slice A1 d.fs.length c1) (.slice B1 d.q.length e1) (.int .i64 d.quota) (.int .i64 d.fuse) (.bool d.dead)) (w.heap.size+1) 25 (zaz none 0 0 none 0 0 0 0 false):=((((K7.other (by omega) 0 _).other (by omega) 1 _).other (by omega) 2 _).other (by omega) 3 _).other (by omega) 4 _
 obtain ⟨f0,f1,f2,f3,f4⟩:=za4 Hk
 have HD:(B1=none∧e1=0∧d.q.length=0)∨∃ g,B1=some ⟨g,0,none⟩:=by
  obtain ⟨xs,hx,_,_⟩:=HO
  rcases hx.2 with ⟨h1,h2⟩ | ⟨g,cap,cur,h,_⟩
  ·injection h1 with h3 h4 h5;exact .inl ⟨h3,h5,h4⟩
  ·injection h with h _ _;exact .inr ⟨g,h⟩
 have Kn:=zhd HD;clear g0 g1 g2 g3 g4;obtain ⟨g0,g1,g2,g3,g4⟩:=zac Hk;have HG:=OwnF.fs Hs;have HH:=OwnQ.qs Ht
 have key:=zjZ _ d _ (show DkV (zcX w1 w.heap.size (.slice A1 d.fs.length c1) (.slice B1 d.q.length e1) (.int .i64 d.quota) (.int .i64 d.fuse) (.bool d.dead)) (.agg #[.slice A1 d.fs.length c1,.slice B1 d.q.length e1,.int .i64 d.quota,.int .i64 d.fuse,.bool d.dead]) d from ⟨_,_,rfl,HG,HH⟩) HL.out HB.out (by have:=HL.out;omega)
 rw[HR.out] at key;have Hp:=zhd key;have HV:=zhd K6;have HP:=zhd K9;have HQ:=zhd K8;have HX:=zhd HG;have K1:=zhd HH;clear key K6 K9 K8 HG HH Hs Ht Ke HO Hk K7 Hy K4 H0 H1 HU HD;go_wp2_with fail
 refine Hp.out.mono ?_
 rintro e w2 ⟨rfl,Hj⟩;have HW:=zhd (xT HV.out Hj);have HE:=zhd (HP.out.ext Hj);have HS:=zhd (HQ.out.ext Hj);have HY:=zhd (HX.out.ext Hj);have Ho:=zhd (K1.out.ext Hj);clear g0 g1 g2 g3 g4 f0 f1 f2 f3 f4 Hj Hp HV HP HQ HX K1;obtain ⟨g0,g1,g2,g3,g4⟩:=zac HE.out
 rcases Kn.out with ⟨rfl,rfl,hz⟩ | ⟨g,rfl⟩
 ·have HZ:=zhd hz
  clear hz;go_wp2_with fail;obtain ⟨Hq,Ha⟩:=zr5 d.q keep;rw[Hq];have K0:=zhd Ha
  have HM:(zb0 d.q keep:Int)≤(d.q.length:Int):=by omega
  have HK:zb0 d.q keep≤0:=by have:=HZ.out;omega
  generalize Hc:zb0 d.q keep=kk at *
  obtain rfl:kk=0:=by have:=HZ.out;have:=K0.out;omega
  simp only[Int.natCast_zero,Int.cast_ofNat_Int]
  refine wp_region_held_drew (S:=fun W=>W.cell? ⟨w.heap.size,0,none⟩=some (.slice A1 d.fs.length c1)∧W.cell? ⟨w.heap.size,1,none⟩=some (.slice none d.q.length 0)) (by kernel_rfl) ⟨g0,g1⟩ (fun _=>?_)
  clear g0 g1 g2 g3 g4;refine tkN 0 rfl ?_;refine tkN 1 rfl ?_;refine tkN 2 rfl ?_;refine tkN 3 rfl ?_;refine tkN 4 rfl ?_;refine tkN 5 rfl ?_
  refine ar1 6 rfl (fun K hK=>?_)
  go_simp
  refine (zjp _ _ d.fs (d.q.take 0) _ (HY.out.ext (xD (xR _))) ((zoM Ho.out 0 (by omega)).ext (xD (xR _))) (by rw[P0];have:=HL.out;omega) (by have:=zjS d.q 0;have:=HB.out;omega)).mono ?_
  rintro e w3 ⟨⟨v3,rfl,Hd⟩,H8⟩;have H7:=xT (xD (xR _)) H8;have Hv:=zhd (xT HW.out H7);have Hg:=zhd (HE.out.ext H7);have Hu:=zhd (HS.out.ext H7);have Hw:=zhd Hd;have K2:=zhd (Ho.out.ext H7);obtain ⟨A3,c3,rfl,_,_⟩:=Fs.open_ Hd;obtain ⟨g0,g1,g2,g3,g4⟩:=zac Hg.out
  refine shK hK _ _ ⟨g0,g1⟩ (fun _=>?_)
  refine tkN 7 rfl ?_;refine wpAnyH_done (by kernel_rfl) ?_ _;clear H7 H8 Hd
  have Hr:¬ (0:Int)<(d.q.length:Int):=by have:=HZ.out;omega
  have H4:=zlv (q:=d.q) (keep:=keep) torn (by have:=HZ.out;omega);rw[Hc] at H4;have Hh:=zhd (by have:=HT.out;rw[H4] at this;exact this);clear H4;have H2:=Hu.out;have Hb:=Fs.setBox H2 Hw.out (.slice A3 (zba d.fs (d.q.take 0)).length c3) (.slice none 0 0) (.int .i64 d.quota) (.int .i64 0) (.bool false);have Hl:=zhd (zaJ H2 (.slice A3 (zba d.fs (d.q.take 0)).length c3) (.slice none 0 0) (.int .i64 d.quota) (.int .i64 0) (.bool false));have Hm:=zhd (zaB Hv.out (P7 w.heap.size) (.slice A3 (zba d.fs (d.q.take 0)).length c3) (.slice none 0 0) (.int .i64 d.quota) (.int .i64 0) (.bool false));have Hn:=zhd Hb;obtain ⟨x0,x1,x2,x3,x4⟩:=zac H2;obtain ⟨y0,y1,y2,y3,y4⟩:=za4 H2;obtain ⟨z0,z1,z2,z3,z4⟩:=zac Hg.out;clear H2 Hb;go_wp2_with fail
  refine bodyPost_ret (zf3 _ _ _ _ rfl Hl.out rfl) rfl ?_
  exact ⟨⟨_,rfl,⟨_,_,rfl,by rw[←Hh.out];exact Hn.out,⟨[],SlR.nil _ 4,RowOf.nil⟩⟩⟩,Hm.out⟩
 ·go_wp2_with fail
  obtain ⟨Hq,Ha⟩:=zr5 d.q keep;rw[Hq];have K0:=zhd Ha
  have HM:(zb0 d.q keep:Int)≤(d.q.length:Int):=by omega
  have HK:zb0 d.q keep≤e1:=by have:=Ho.out;obtain ⟨xs,h,_⟩:=this;obtain ⟨_,A',c',h,h1,_⟩:=h;cases h;omega
  generalize Hc:zb0 d.q keep=kk at *
  refine wp_region_held_drew (S:=fun W=>W.cell? ⟨w.heap.size,0,none⟩=some (.slice A1 d.fs.length c1)∧W.cell? ⟨w.heap.size,1,none⟩=some (.slice (some ⟨g,0,none⟩) d.q.length e1)) (by kernel_rfl) ⟨g0,g1⟩ (fun _=>?_)
  clear g0 g1 g2 g3 g4;refine tkN 0 rfl ?_;refine tkN 1 rfl ?_;refine tkN 2 rfl ?_;refine tkN 3 rfl ?_;refine tkN 4 rfl ?_;refine tkN 5 rfl ?_
  refine ar1 6 rfl (fun K hK=>?_)
  go_simp
  refine (zjp _ _ d.fs (d.q.take kk) _ (HY.out.ext (xD (xR _))) ((zoM Ho.out kk (by omega)).ext (xD (xR _))) (by rw[P0];have:=HL.out;omega) (by have:=zjS d.q kk;have:=HB.out;omega)).mono ?_
  rintro e w3 ⟨⟨v3,rfl,Hd⟩,H8⟩;have H7:=xT (xD (xR _)) H8;have Hv:=zhd (xT HW.out H7);have Hg:=zhd (HE.out.ext H7);have Hu:=zhd (HS.out.ext H7);have Hw:=zhd Hd;have K2:=zhd (Ho.out.ext H7);obtain ⟨A3,c3,rfl,_,_⟩:=Fs.open_ Hd;obtain ⟨g0,g1,g2,g3,g4⟩:=zac Hg.out
  refine shK hK _ _ ⟨g0,g1⟩ (fun _=>?_)
  refine tkN 7 rfl ?_;refine wpAnyH_done (by kernel_rfl) ?_ _;clear H7 H8 Hd
  by_cases H6:kk<d.q.length
  case neg =>
   have Hr:¬ (kk:Int)<(d.q.length:Int):=by omega
   have H4:=zlv (q:=d.q) (keep:=keep) torn (by omega);rw[Hc] at H4;have Hh:=zhd (by have:=HT.out;rw[H4] at this;exact this);clear H4
   exact mcR6ba0
  have Hr:(kk:Int)<(d.q.length:Int):=by omega
  obtain ⟨_,bq,oq,HF,Ka⟩:=K2.out.at_ (by omega)
  injection HF with HF
  injection HF with HD hq2 _
  subst HD hq2;obtain ⟨p0,p1,p2,Bq,dq,p3,Hi⟩:=Ka kk H6
  have H5:d.q[zb0 d.q keep]?=some d.q[kk]:=by rw[Hc];exact P1 H6
  have He:=zjS d.q (kk+1);rw[List.take_succ_eq_append_getElem H6,zcf,zbJ] at He;obtain ⟨x,hx⟩:∃ x,d.q[kk]=x:=⟨_,rfl⟩;rw[hx] at p0 p1 p2 p3 Hi H5 He;unfold sv at p1 p2;clear Ka hx;obtain ⟨xk,xn,xt,xb⟩:=x;dsimp only at p0 p1 p2 p3 Hi H5 He;simp only[P8] at p0 p1 p2 p3
  by_cases Ha:xk=2
  case neg =>
   have Kq:(xk==2)=false:=by simpa using Ha
   have H4:=zts torn H5 Ha;rw[Hc] at H4;have Hh:=zhd (by have:=HT.out;rw[H4] at this;exact this);clear H4 H5 He Hi p1 p2 p3 Ha Hc HM HK Hq H6
   exact mcR6ba0
  have H4:=zr4 torn H5 Ha;rw[Hc] at H4;have Hh:=zhd (by have:=HT.out;rw[H4,zrq] at this;exact this);clear H4;subst Ha
  obtain ⟨kt,Kd⟩:∃ kt:Nat,min (max torn 0) (xb.length:Int)=(kt:Int):=⟨(min (max torn 0) (xb.length:Int)).toNat,by omega⟩
  have HN:kt≤xb.length:=by omega
  have Kf:(zhz ⟨2,xn,xt,xb⟩ torn).b=xb.take kt:=by unfold zhz;dsimp only;rw[Kd,Int.toNat_natCast]
  have Kw:xb.length≤dq:=by obtain ⟨_,A',c',Ks,Kt,_⟩:=Hi;cases Ks;exact Kt
  have Kr:kt≤dq:=by omega
  have Ku:=zhd Kd;have K3:=zhd Kf;have Ki:=zhd Hi;have Ko:=zhd He
  have Kb:(zba d.fs (d.q.take kk)).length≤900000:=by
   have h:=zdP ⟨d.fs,d.q.take kk,0,0,false⟩;have h2:=HL.out;unfold Dk.now at h;dsimp only at h;rw[P0] at h;omega
  have Kc:tot (zba d.fs (d.q.take kk))+xb.length≤900000:=by
   have h:=zit ⟨d.fs,d.q.take kk,0,0,false⟩;have h2:=HB.out;unfold Dk.now at h;dsimp only at h He;omega
  have Kl:=zhd Kb;have Km:=zhd Kc;clear Kf Hi H5 He Hc HM HK Hq Kb Kc H6;go_wp2_with fail
  refine (zk6 _ (zba d.fs (d.q.take kk)) (zhz ⟨2,xn,xt,xb⟩ torn) _ _ (Hw.out.ext (xA (xR _) _)) (by rw[K3.out];exact ztS (Ki.out.ext (xA (xR _) _)) kt HN) (by have:=Kl.out;omega) (fun f hf=>by
   have h1:=zcy hf;have h2:=Km.out;rw[K3.out,P0]
   omega)).mono ?_
  rintro e w4 ⟨⟨v4,rfl,HA⟩,K5⟩;rw[Hh.out] at HA;obtain ⟨A4,c4,rfl,_,_⟩:=Fs.open_ HA;have H9:=xT (xA (xR w3) _) K5;have Kj:=zhd (xT Hv.out H9);have Kg:=zhd (Hg.out.ext H9);have Kh:=zhd (Hu.out.ext H9);have Kk:=zhd HA;clear K5 H9 HA g0 g1 g2 g3 g4 p0 p1 p2 p3;have H2:=Kh.out;have Hb:=Fs.setBox H2 Kk.out (.slice A4 T.length c4) (.slice none 0 0) (.int .i64 d.quota) (.int .i64 0) (.bool false);have Hl:=zhd (zaJ H2 (.slice A4 T.length c4) (.slice none 0 0) (.int .i64 d.quota) (.int .i64 0) (.bool false));have Hm:=zhd (zaB Kj.out (P7 w.heap.size) (.slice A4 T.length c4) (.slice none 0 0) (.int .i64 d.quota) (.int .i64 0) (.bool false));have Hn:=zhd Hb;obtain ⟨x0,x1,x2,x3,x4⟩:=zac H2;obtain ⟨y0,y1,y2,y3,y4⟩:=za4 H2;obtain ⟨z0,z1,z2,z3,z4⟩:=zac Kg.out;clear H2 Hb;go_wp2_with fail
  refine bodyPost_ret (zf3 _ _ _ _ rfl Hl.out rfl) rfl ?_
  exact ⟨⟨_,rfl,⟨_,_,rfl,Hn.out,⟨[],SlR.nil _ 4,RowOf.nil⟩⟩⟩,Hm.out⟩
end Go.Proofs.YtgonhdeochgkoaaGreatDoor
