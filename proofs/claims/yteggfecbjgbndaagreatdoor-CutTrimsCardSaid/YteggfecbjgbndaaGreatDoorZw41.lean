/- Merged -/
import Derived.Test.YteggfecbjgbndaaGreatDoorZw30
import Derived.Test.YteggfecbjgbndaaGreatDoorZw37
import Derived.Test.YteggfecbjgbndaaGreatDoorZw40
set_option linter.all false
set_option maxHeartbeats 8000000
set_option maxRecDepth 100000
open Go.Value renaming int→C,slice→G,bool→H,pointer→N,agg→R
open Go.IntKind renaming i64→E,u8→Q
open Go.Mv renaming zhd→I
open Option renaming some→J,none→L
open Go.Obj renaming cells→M
open Go.Proofs.Tryz renaming prog→O
open Nat renaming reduceAdd→P0
namespace Go.Proofs.YteggfecbjgbndaaGreatDoor
open Go.RowKit Go.Mv Go.Shelf
theorem mcCd6a0 {P:Prop} (h:P:=by
 have KC:=I K5;have Kl:=I (OwnD.dk ⟨_,_,_,_,rfl,Ky,Kz⟩);clear x0 x1 x2 x3 x4 x5 x6 x7 x8 x9 Hv Hw Hx Ha Hb x15 Hc Hd He Hk Hl Hm Hn y0 y1 y2 y3 y4 Ky Kz Kf H4
 refine shK hK _ _ ⟨Hr.cell 13 rfl,Hr.cell 14 rfl,Hr.cell 15 rfl,Hr.cell 16 rfl,Hr.cell 17 rfl,Hr.cell 18 rfl⟩ (fun _=>?_)
 refine tkN 6 ?_;refine tkN 7 ?_;obtain ⟨f0,f1,f2,f3,f4⟩:=zam K5;obtain ⟨r0,r1,r2,r3,r4⟩:=zaa K5
 refine ar1 8 (fun K hK=>?_)
 go_simp
 have H3:=zb2 [G A9 r.1.fs.length c9,G B9 r.1.q.length e9,C E r.1.quota,C E r.1.fuse,H r.1.dead] (k:=0) Hr (by omega:w.heap.size+1+1≠w.heap.size+1);simp only[zcf,P0] at H3
 refine shK hK _ _ ⟨H3.cell 13 rfl,H3.cell 14 rfl,H3.cell 15 rfl,H3.cell 16 rfl,H3.cell 17 rfl,H3.cell 18 rfl⟩ (fun _=>?_)
 refine tkN 9 ?_;refine wdD ?_;clear H3 Hr K5 f0 f1 f2 f3 f4 r0 r1 r2 r3 r4;go_wp2_with fail
 refine bodyPost_ret (zfU _ _ _ _ _ rfl rfl (zal KC.out _ _ _ _ _) rfl) rfl ?_
 exact ⟨_,rfl,zcq KC.out Kl.out _ _ _ _ _,zae KD.out (by omega) _ _ _ _ _⟩):P:=h
structure KnW (w:World):Prop where
 k1:w.cell? ⟨0,1,L⟩=J (H true)
 k2:w.cell? ⟨0,2,L⟩=J (H true)
theorem KnW.ext {w w':World} (h:KnW w) (hE:Ext w w'):KnW w':=⟨hE.cell h.k1,hE.cell h.k2⟩
theorem zcq {W:World} {b:Nat} {t:TypeId} {A:Option Addr} {n c:Nat} {B:Option Addr} {m e:Nat} {q f:Int} {d:Bool} (hb:Blk W b t (zan A n c B m e q f d)) {v:Value} {D:Dk} (h:DkV W v D) (a' v' u' x' y':Value):DkV (zaR W b a' v' u' x' y') v D:=by
 obtain ⟨x,y,h1,h2,h3⟩:=h
 exact ⟨x,y,h1,Fs.setBox hb h2 a' v' u' x' y',Qs.setBox hb h3 a' v' u' x' y'⟩
theorem zme {m:Mf} (h:m.segs=[]):(zb4 m).length≤1000000:=by
 have:=zrg m
 unfold zb4;rw[h]
 simp
 omega
theorem zno (k:Nat) (n m':Int) (h1:(#[G none 0 0,G none 0 0,C E 0,C E 0,H false,C E 0,C E 0,C E 0,C E 0,H false,G none 0 0,C E 0,C E 0,C E 0,C E 0,C E 0,C E 0,C E 0,G none 0 0,C Q 0,C E 0,C E 0,G none 0 0]:Array Value)[k]?=J (C Q n)) (h2:(#[G none 0 0,G none 0 0,C E 0,C E 0,H false,C E 0,C E 0,C E 0,C E 0,H false,G none 0 0,C E 0,C E 0,C E 0,C E 0,C E 0,C E 0,C E 0,G none 0 0,C Q 0,C E 0,C E 0,G none 0 0]:Array Value)[k+1]?=J (C Q m')):False:=by
 by_cases hk:k<23
 ·match k,hk with
  | 0,_ | 1,_ | 2,_ | 3,_ | 4,_ | 5,_ | 6,_ | 7,_ | 8,_ | 9,_ | 10,_ | 11,_ | 12,_ | 13,_ | 14,_ | 15,_ | 16,_ | 17,_ | 18,_ | 20,_ | 21,_ | 22,_=>simp at h1
  | 19,_=>simp at h2
 ·rw[Array.getElem?_eq_none (by simp;omega)] at h1
  cases h1
def zgb (w:World) (r:Dk×Int) (e:Ending) (w':World):Prop:=∃ u,e=.returned (.tuple #[u,C E r.2])∧DkV w' u r.1∧Ext w w'
theorem zfU (tmps:Array Value) (W:World) (b:Nat) (cs:Array Value) (e:Value) (h4:tmps.getD 6 undef=N (J ⟨b,0,L⟩)) (h3:tmps.getD 7 undef=e) (hb:Blk W b 25 cs) (hs:cs.size=5):(results Tryz.f123 tmps).run O W=.ok (.tuple #[.agg cs,e]) W:=by
 have J3:tmps[6]?.getD undef=N (J ⟨b,0,L⟩):=by simpa using h4
 have J2:tmps[7]?.getD undef=e:=by simpa using h3
 have hl:=hb.load (P:=O) zc3 rfl (by rw[hs];kernel_rfl)
 simp[results,Tryz.results123,J3,J2,asAddr,hl,Sem.run_bind,Sem.run_pure,Result.andThen_ok]
theorem zi3 (F:Nat) (J6:∀ (args:Array Value) (W:World),(callFunc F args).run O W=.ok (.enter F args) W) (cap:Array Value) (v:Value) (d:Dk) (w:World) (hS:StW w) (KK:KnW w) (hD:DkV w v d) (hs:Sz 1000 d) (hd:zby d.now=⟨0,tW 0 0,m15⟩∧RdH d.now) (hq:d.q=[]) (hf:∀ f∈d.fs,2≤f.2.length) (fmt:Int) (KP:fmt=1∨fmt=2) (done:Bool) (m':Mf) (k s f:Int) (fb:List UInt8) (KU:m'.segs=[]) (r:Dk×Int)
  (Ht:(done=true∧r=(d,0))∨(done=false∧k=0∧zaF m'=true∧r=zdk d m'∧∀ b,zbH m'=J b→b.length≤100000)∨(done=false∧k=4∧zaF m'=true∧fb.length≤1000∧(zbG d (zaw k s f) fb).2=0∧Sz 3000 (zbG d (zaw k s f) fb).1∧r=zdk (zbG d (zaw k s f) fb).1 m'∧∀ b,zbH m'=J b→b.length≤100000))
  (hF:∀ W b D0 D1 D2 D3 D4 A c A' c',Ext w W→w.heap.size≤b→c≤9223372036854775807→c'≤9223372036854775807→Blk W b 168 (wkC D0 D1 D2 D3 D4 A c m15 (G A' 0 c') 0 0 0 (G none 0 0))→Calls O F (#[N (J ⟨b,0,L⟩)]++cap) W (ToP done b D0 D1 D2 D3 D4 m' k s f fb W)) :
  Calls O 123 #[v,C E fmt,.func (.func F) #[] cap] w (zgb w r):=by
 obtain ⟨vf,vq,rfl,HK,HL⟩:=hD;obtain ⟨A,c,rfl,_,_⟩:=Fs.open_ HK;obtain ⟨B,e2,rfl,_,_⟩:=Qs.open_ HL;obtain ⟨W0,H9⟩:∃ W0,((w.alloc (M #[G A d.fs.length c,G B d.q.length e2,C E d.quota,C E d.fuse,H d.dead] 25)).alloc (M #[G none 0 0,G none 0 0,C E 0,C E 0,H false] 25)).alloc (M #[G none 0 0,G none 0 0,C E 0,C E 0,H false,C E 0,C E 0,C E 0,C E 0,H false,G none 0 0,C E 0,C E 0,C E 0,C E 0,C E 0,C E 0,C E 0,G none 0 0,C Q 0,C E 0,C E 0,G none 0 0] 168)=W0:=⟨_,rfl⟩
 have Hp:Ext w W0:=by rw[←H9];exact xA (xA (xA (xR _) _) _) _
 have Hj:W0.heap.size=w.heap.size+1+1+1:=by rw[←H9];simp
 have h0:Blk W0 w.heap.size 25 #[G A d.fs.length c,G B d.q.length e2,C E d.quota,C E d.fuse,H d.dead]:=by rw[←H9];exact ((Blk.new w _ _).alloc _).alloc _
 have h1:Blk W0 (w.heap.size+1) 25 #[G none 0 0,G none 0 0,C E 0,C E 0,H false]:=by
  rw[←H9]
  have:=(Blk.new (w.alloc (M #[G A d.fs.length c,G B d.q.length e2,C E d.quota,C E d.fuse,H d.dead] 25)) 25 #[G none 0 0,G none 0 0,C E 0,C E 0,H false]).alloc (M #[G none 0 0,G none 0 0,C E 0,C E 0,H false,C E 0,C E 0,C E 0,C E 0,H false,G none 0 0,C E 0,C E 0,C E 0,C E 0,C E 0,C E 0,C E 0,G none 0 0,C Q 0,C E 0,C E 0,G none 0 0] 168)
  rwa [xS] at this
 have h2:Blk W0 (w.heap.size+1+1) 168 #[G none 0 0,G none 0 0,C E 0,C E 0,H false,C E 0,C E 0,C E 0,C E 0,H false,G none 0 0,C E 0,C E 0,C E 0,C E 0,C E 0,C E 0,C E 0,G none 0 0,C Q 0,C E 0,C E 0,G none 0 0]:=by
  rw[←H9]
  have:=Blk.new ((w.alloc (M #[G A d.fs.length c,G B d.q.length e2,C E d.quota,C E d.fuse,H d.dead] 25)).alloc (M #[G none 0 0,G none 0 0,C E 0,C E 0,H false] 25)) 168 #[G none 0 0,G none 0 0,C E 0,C E 0,H false,C E 0,C E 0,C E 0,C E 0,H false,G none 0 0,C E 0,C E 0,C E 0,C E 0,C E 0,C E 0,C E 0,G none 0 0,C Q 0,C E 0,C E 0,G none 0 0]
  rwa [xS,xS] at this
 have K1:DkV W0 (R #[G A d.fs.length c,G B d.q.length e2,C E d.quota,C E d.fuse,H d.dead]) d:=⟨_,_,rfl,HK.ext Hp,HL.ext Hp⟩
 obtain ⟨q0,q1,q2,q3,q4⟩:=zaa h0;have HY:=I Hp;have Ku:=I Hj;have H0:=I h0;have H1:=I h1;have H2:=I h2;have HH:=I K1;have HS:=I hS;have KH:=I KK;have HJ:=I hs;have HD:=I hd;have HQ:=I hq;have Ko:=I hf;have Hg:=I Ht;have HF:=I hF;have HM:=I KU;have J0:=I KP;clear Hp Hj h0 h1 h2 K1 hS KK hs hd hq hf Ht hF HK HL KU KP
 go_enter Tryz.func123,Tryz.ntmps123
 go_wp2_with fail
 refine wp_scope_jumps 0 (fun a W=>a.defers=[]∧a.tmps.size=94∧a.tmps.getD 6 undef=N (J ⟨w.heap.size+1,0,L⟩)∧a.tmps.getD 7 undef=C E r.2∧(∃ A c B e,Blk W (w.heap.size+1) 25 (zan A r.1.fs.length c B r.1.q.length e r.1.quota r.1.fuse r.1.dead)∧DkV W (R #[G A r.1.fs.length c,G B r.1.q.length e,C E r.1.quota,C E r.1.fuse,H r.1.dead]) r.1)∧Ext w W) (fun _ _=>0) rfl ?_ ?_
 ·go_wp2_with fail
  refine (zfm _ d 1000 _ HH.out (by omega) HJ.out).mono ?_
  rintro e w1 ⟨u,rfl,K8,H8⟩;obtain ⟨A3,c3,B3,e3,rfl,of,oq⟩:=K8.d;clear K8 H9;have H5:=H1.out.ext H8;obtain ⟨f0,f1,f2,f3,f4⟩:=zam H5;obtain ⟨r0,r1,r2,r3,r4⟩:=zaa H5;have K3:=H0.out.ext H8;have H6:=H2.out.ext H8;have HV:=I (zal H5 (G A3 d.fs.length c3) (G B3 d.q.length e3) (C E d.quota) (C E d.fuse) (H d.dead));have Hs:=I (zb2 [G A3 d.fs.length c3,G B3 d.q.length e3,C E d.quota,C E d.fuse,H d.dead] (k:=0) K3 (by omega:w.heap.size≠w.heap.size+1));have Hy:=I (zb2 [G A3 d.fs.length c3,G B3 d.q.length e3,C E d.quota,C E d.fuse,H d.dead] (k:=0) H6 (by omega:w.heap.size+1+1≠w.heap.size+1))
  have HZ:=I (show OwnD (zaR w1 (w.heap.size+1) (G A3 d.fs.length c3) (G B3 d.q.length e3) (C E d.quota) (C E d.fuse) (H d.dead)) W0.heap.size (R #[G A3 d.fs.length c3,G B3 d.q.length e3,C E d.quota,C E d.fuse,H d.dead]) d from ⟨_,_,_,_,rfl,OwnF.box1 of H5,OwnQ.box1 oq H5⟩)
  have HI:=I (zae (xT HY.out H8) (by omega:w.heap.size≤w.heap.size+1) (G A3 d.fs.length c3) (G B3 d.q.length e3) (C E d.quota) (C E d.fuse) (H d.dead));have Hh:=I (zcq H5 (HH.out.ext H8) (G A3 d.fs.length c3) (G B3 d.q.length e3) (C E d.quota) (C E d.fuse) (H d.dead));simp only[zcf,P0] at Hs Hy;clear of oq K3 H5 H6 H8 q0 q1 q2 q3 q4 H0 H1 H2 HH HY;obtain ⟨q0,q1,q2,q3,q4⟩:=zaa Hs.out;go_wp2_with fail;have K2:=HS.out.ext HI.out
  refine (zqt _ d 1000 _ K2 Hh.out (by omega) HJ.out HD.out.2).mono ?_
  rw[HD.out.1];rintro e w2 ⟨vl,vs,rfl,K7,Ka,H7⟩;obtain ⟨Al,cl,rfl,_,KN⟩:=xO (OwnE.es K7);obtain ⟨As,cs,rfl,_,KO⟩:=(OwnS.sgs Ka).open_;clear K7 Ka K2 f0 f1 f2 f3 f4 r0 r1 r2 r3 r4 q0 q1 q2 q3 q4;have Hf:=I (HV.out.ext H7);have Kg:=I (Hs.out.ext H7);have H6:=Hy.out.ext H7
  have Ho:=I (show OwnD w2 W0.heap.size (R #[G A3 d.fs.length c3,G B3 d.q.length e3,C E d.quota,C E d.fuse,H d.dead]) d from by
   obtain ⟨a1,a2,a3,a4,h1,h2,h3⟩:=HZ.out
   exact ⟨a1,a2,a3,a4,h1,OwnX.ext zbq h2 H7,OwnX.ext zbt h3 H7⟩)
  have Km:=I (xT HI.out H7);clear Hs HV Hy HZ HI Hh H7
  dsimp only[tW,m15,List.length_nil]
  have F2:∀ k,w2.frozen? ⟨w.heap.size+1+1,k,L⟩=false:=fun k=>H6.frozen k
  obtain ⟨x0,x1,x2,x3,x4,x5,x6,x7,x8,x9,Hv,Hw,Hx,Ha,Hb,x15,Hc,Hd,He,Hk,Hl,Hm,Hn⟩:=zdz H6;obtain ⟨y0,y1,y2,y3,y4⟩:=zaa Hf.out;go_wp2_with fail;obtain ⟨X,hX⟩:∃ X,zcf (zcf w2 (w.heap.size+1+1) 5 [C E 0,C E 0,C E 0,C E 1,H false,G Al 0 cl,C E 0,C E 0,C E 1,C E 0,C E 0,C E 0,C E 0,G As 0 cs]) (w.heap.size+1+1) 0 [G A3 d.fs.length c3,G B3 d.q.length e3,C E d.quota,C E d.fuse,H d.dead]=X:=⟨_,rfl⟩;have Kb:=I (zdW [G A3 d.fs.length c3,G B3 d.q.length e3,C E d.quota,C E d.fuse,H d.dead] (k:=0) (zdW [C E 0,C E 0,C E 0,C E 1,H false,G Al 0 cl,C E 0,C E 0,C E 1,C E 0,C E 0,C E 0,C E 0,G As 0 cs] (k:=5) H6));simp only[zkl,List.setIfInBounds_toArray,List.set_cons_succ,List.set_cons_zero,P0,hX] at Kb
  have Kn:Hid (Ext w X):=I (by rw[←hX];exact zc4 _ (zc4 _ Km.out (by omega)) (by omega))
  have KI:Hid (KB (w.heap.size+1+1) w2 X):=I (by rw[←hX];exact zes _ (zes _ (KB.ext (xR _))))
  have KA:=I H6;simp only[zcf,P0] at hX;rw[hX]
  have J4:w.heap.size+1+1<X.heap.size:=Kb.out.lt
  clear hX H6 F2 x0 x1 x2 x3 x4 x5 x6 x7 x8 x9 Hv Hw Hx Ha Hb x15 Hc Hd He Hk Hl Hm Hn y0 y1 y2 y3 y4
  refine (HF.out X _ _ _ _ _ _ Al cl As cs Kn.out (by omega) KN KO Kb.out).mono ?_
  rintro e w3 ⟨rfl,⟨Aw,cw,vw,J9,J7,KL,KV,KQ⟩,KR,KT⟩;have Kc:=I (KR w Kn.out (by omega));have KF:=I (KB.trans KI.out KT);have Kj:=I KL;have Kr:=I KV;have KE:=I KQ;have HT:=I (zof Ho.out (by have:=Ku.out;omega) KA.out zno HQ.out Ko.out KF.out);have HW:=I (KB.blk KF.out Hf.out (by omega));clear KL KV KQ KR KT Kb Kn KI KA Ho Hf Kg J4 HF
  rcases Hg.out with ⟨rfl,rfl⟩ | hc2
  ·clear Hg
   go_wp2_with fail
   refine wp_goto ?_
   exact ⟨rfl,rfl,rfl,rfl,rfl,⟨_,_,_,_,HW.out,HT.out⟩,Kc.out⟩
  obtain ⟨J5,KM⟩:done=false∧zaF m'=true:=by rcases hc2 with h | h;exact ⟨h.1,h.2.2.1⟩;exact ⟨h.1,h.2.2.1⟩
  subst J5;have Kk:=I hc2;have KY:=I KM;obtain ⟨Av,cv,rfl,_,_⟩:=Kr.out.open_;obtain ⟨Af,cf,rfl,_,_⟩:=xO KE.out;unfold wkC at Kj;obtain ⟨x0,x1,x2,x3,x4,x5,x6,x7,x8,x9,Hv,Hw,Hx,Ha,Hb,x15,Hc,Hd,He,Hk,Hl,Hm,Hn⟩:=zdz Kj.out;have k1:=(KH.out.ext Kc.out).k1;have k2:=(KH.out.ext Kc.out).k2;clear hc2 KM Hg
  rcases J0.out with rfl | rfl
  all_goals
   go_wp2_with fail
   refine (zjq m' _ _ Kr.out).mono ?_
   rw[KY.out];rintro e w4 ⟨rfl,HN⟩;have Kd:=I (xT Kc.out HN);have Kh:=I (HW.out.ext HN);have HX:=I (HT.out.ext HN);have K0:=I (Kr.out.ext HN)
   have Kp:Hid (Bs w4 (G Af fb.length cf) fb):=I (SlR.ext KE.out HN)
   have Hz:=I (Kj.out.ext HN);clear HN x0 x1 x2 x3 x4 x5 x6 x7 x8 x9 Hv Hw Hx Ha Hb x15 Hc Hd He Hk Hl Hm Hn k1 k2;simp only[if_true];obtain ⟨x0,x1,x2,x3,x4,x5,x6,x7,x8,x9,Hv,Hw,Hx,Ha,Hb,x15,Hc,Hd,He,Hk,Hl,Hm,Hn⟩:=zdz Hz.out;obtain ⟨y0,y1,y2,y3,y4⟩:=zaa Kh.out
   rcases Kk.out with ⟨_,rfl,_,hr,hpl⟩ | ⟨_,rfl,_,hfl,hpe,hsz2,hr,hpl⟩
   ·have Kq:=I hpl
    have HR:=I hr;clear hpl Kk hr;go_wp2_with fail
    refine wp_region_held_drew (S:=fun W=>W.cell? ⟨w.heap.size+1+1,13,L⟩=J (C E m'.next)∧W.cell? ⟨w.heap.size+1+1,14,L⟩=J (C E m'.term)∧W.cell? ⟨w.heap.size+1+1,15,L⟩=J (C E m'.vote)∧W.cell? ⟨w.heap.size+1+1,16,L⟩=J (C E m'.sq)∧W.cell? ⟨w.heap.size+1+1,17,L⟩=J (C E m'.sf)∧W.cell? ⟨w.heap.size+1+1,18,L⟩=J (G Av m'.segs.length cv)) (by kernel_rfl) ⟨Ha,Hb,x15,Hc,Hd,He⟩ (fun _=>?_)
    refine tkN 1 ?_;refine tkN 2 ?_;refine tkN 3 ?_;refine tkN 4 ?_
    refine ar1 0 (fun K hK=>?_)
    go_simp
    refine shK hK _ _ ⟨Ha,Hb,x15,Hc,Hd,He⟩ (fun _=>?_)
    refine ar1 5 (fun K hK=>?_)
    go_simp
    refine (zky _ d 1000 m' _ _ (HS.out.ext (xD Kd.out)) (HX.out.ext (xD (xR _))) HJ.out (by omega) (K0.out.ext (xD (xR _))) (by rw[HM.out];decide) (zme HM.out) Kq.out).mono ?_
    rintro e w9 ⟨u9,K6,Hi,Kf⟩;rw[←HR.out] at K6 Hi;subst K6;obtain ⟨A9,c9,B9,e9,rfl,Ky,Kz⟩:=Hi;have H4:=xT (xD (xR w4)) Kf;have K5:=Kh.out.ext H4;have Hr:=Hz.out.ext H4;have KD:=I (xT Kd.out H4)
    exact mcCd6a0
   ·have Kq:=I hpl
    obtain ⟨P,hP⟩:∃ x,zbG d (zaw 4 s f) fb=x:=⟨_,rfl⟩;rw[hP] at hpe hsz2 hr;have HR:=I hr;have HP:=I hP;have J1:=I hpe;have Kt:=I hsz2;have KZ:=I hfl;clear hpl Kk hr hP hpe hsz2 hfl;go_wp2_with fail
    refine wp_region_held_drew (S:=fun W=>W.cell? ⟨w.heap.size+1+1,19,L⟩=J (C Q 4)∧W.cell? ⟨w.heap.size+1+1,20,L⟩=J (C E s)∧W.cell? ⟨w.heap.size+1+1,21,L⟩=J (C E f)∧W.cell? ⟨w.heap.size+1+1,22,L⟩=J (G Af fb.length cf)) (by kernel_rfl) ⟨Hk,Hl,Hm,Hn⟩ (fun _=>?_)
    refine tkN 1 ?_;refine tkN 2 ?_;refine tkN 3 ?_;refine tkN 4 ?_;refine tkN 5 ?_;refine tkN 6 ?_;refine tkN 7 ?_;refine tkN 8 ?_
    refine ar1 0 (fun K hK=>?_)
    go_simp
    refine shK hK _ _ ⟨Hk,Hl,Hm,Hn⟩ (fun _=>?_)
    refine ar1 9 (fun K hK=>?_)
    go_simp
    refine (zlR _ d 1000 4 s f _ fb _ (HS.out.ext (xD Kd.out)) (HX.out.ext (xD (xR _))) HJ.out (SlR.ext Kp.out (xD (xR _))) (by have:=KZ.out;omega)).mono ?_
    rintro e w8 ⟨u8,Kx,K9,KJ⟩;rw[HP.out] at Kx K9;rw[J1.out] at Kx;subst Kx;obtain ⟨A8,c8,B8,e8,rfl,KW,KX⟩:=K9;have Hq:=xT (xD (xR w4)) KJ;have K4:=Kh.out.ext Hq;have HU:=Hz.out.ext Hq;have Ki:=I (zal K4 (G A8 P.1.fs.length c8) (G B8 P.1.q.length e8) (C E P.1.quota) (C E P.1.fuse) (H P.1.dead));have H3:=zb2 [G A8 P.1.fs.length c8,G B8 P.1.q.length e8,C E P.1.quota,C E P.1.fuse,H P.1.dead] (k:=0) HU (by omega:w.heap.size+1+1≠w.heap.size+1);have HG:=I (zcq K4 (OwnD.dk ⟨_,_,_,_,rfl,KW,KX⟩) (G A8 P.1.fs.length c8) (G B8 P.1.q.length e8) (C E P.1.quota) (C E P.1.fuse) (H P.1.dead));have Ke:=I (zae (xT Kd.out Hq) (by omega:w.heap.size≤w.heap.size+1) (G A8 P.1.fs.length c8) (G B8 P.1.q.length e8) (C E P.1.quota) (C E P.1.fuse) (H P.1.dead));simp only[zcf,P0] at H3;clear x0 x1 x2 x3 x4 x5 x6 x7 x8 x9 Hv Hw Hx Ha Hb x15 Hc Hd He Hk Hl Hm Hn y0 y1 y2 y3 y4 KW KX KJ Hq
    refine shK hK _ _ ⟨HU.cell 19 rfl,HU.cell 20 rfl,HU.cell 21 rfl,HU.cell 22 rfl⟩ (fun _=>?_)
    refine tkN 10 ?_;refine tkN 11 ?_;refine tkN 12 ?_;obtain ⟨f0,f1,f2,f3,f4⟩:=zam K4;obtain ⟨r0,r1,r2,r3,r4⟩:=zaa K4
    refine ar1 13 (fun K hK=>?_)
    go_simp
    refine shK hK _ _ ⟨H3.cell 19 rfl,H3.cell 20 rfl,H3.cell 21 rfl,H3.cell 22 rfl⟩ (fun _=>?_)
    refine tkN 14 ?_;refine wdD ?_;have HA:=I H3;obtain ⟨W8,Kw⟩:∃ x,zaR w8 (w.heap.size+1) (G A8 P.1.fs.length c8) (G B8 P.1.q.length e8) (C E P.1.quota) (C E P.1.fuse) (H P.1.dead)=x:=⟨_,rfl⟩;unfold zaR at Kw HG Ke
    rw[Kw] at Ki HG Ke HA ⊢
    have Ks:Hid (Sgs W8 (G Av m'.segs.length cv) m'.segs):=I (by
     obtain ⟨a,c,e,_,h2⟩:=K0.out.open_
     cases e
     have key:∀ l:List Sg4,l=[]→Sgs W8 (G Av l.length cv) l:=by rintro _ rfl;exact zfI _ _ h2
     exact key _ HM.out)
    clear HU K4 Kw f0 f1 f2 f3 f4 r0 r1 r2 r3 r4 H3;obtain ⟨x0,x1,x2,x3,x4,x5,x6,x7,x8,x9,Hv,Hw,Hx,Ha,Hb,x15,Hc,Hd,He,Hk,Hl,Hm,Hn⟩:=zdz HA.out;obtain ⟨y0,y1,y2,y3,y4⟩:=zaa Ki.out;go_wp2_with fail
    refine wp_region_held_drew (S:=fun W=>W.cell? ⟨w.heap.size+1+1,13,L⟩=J (C E m'.next)∧W.cell? ⟨w.heap.size+1+1,14,L⟩=J (C E m'.term)∧W.cell? ⟨w.heap.size+1+1,15,L⟩=J (C E m'.vote)∧W.cell? ⟨w.heap.size+1+1,16,L⟩=J (C E m'.sq)∧W.cell? ⟨w.heap.size+1+1,17,L⟩=J (C E m'.sf)∧W.cell? ⟨w.heap.size+1+1,18,L⟩=J (G Av m'.segs.length cv)) (by kernel_rfl) ⟨Ha,Hb,x15,Hc,Hd,He⟩ (fun _=>?_)
    refine tkN 1 ?_;refine tkN 2 ?_;refine tkN 3 ?_;refine tkN 4 ?_
    refine ar1 0 (fun K hK=>?_)
    go_simp
    refine shK hK _ _ ⟨Ha,Hb,x15,Hc,Hd,He⟩ (fun _=>?_)
    refine ar1 5 (fun K hK=>?_)
    go_simp
    refine (zky _ P.1 3000 m' _ _ (HS.out.ext (xD Ke.out)) (HG.out.ext (xD (xR _))) Kt.out (by omega) (Ks.out.ext (xD (xR _))) (by rw[HM.out];decide) (zme HM.out) Kq.out).mono ?_
    rintro e w9 ⟨u9,K6,Hi,Kf⟩;rw[←HR.out] at K6 Hi;subst K6;obtain ⟨A9,c9,B9,e9,rfl,Ky,Kz⟩:=Hi;have H4:=xT (xD (xR W8)) Kf;have K5:=Ki.out.ext H4;have Hr:=HA.out.ext H4;have KD:=I (xT Ke.out H4)
    exact mcCd6a0
 ·rintro ⟨T,df⟩ W ⟨hd,HO,h6,h7,⟨A5,c5,B5,e5,hb,Hu⟩,hE⟩
  dsimp only at hd HO h6 h7;subst hd;have hT:=zdo 94 T HO
  generalize hU:(fun i=>T.getD i undef)=U at hT
  have g6:U 6=N (J ⟨w.heap.size+1,0,L⟩):=by rw[←hU];exact h6
  have g7:U 7=C E r.2:=by rw[←hU];exact h7
  have Kv:T = #[U 0,U 1,U 2,U 3,U 4,U 5,N (J ⟨w.heap.size+1,0,L⟩),C E r.2,U 8,U 9,U 10,U 11,U 12,U 13,U 14,U 15,U 16,U 17,U 18,U 19,U 20,U 21,U 22,U 23,U 24,U 25,U 26,U 27,U 28,U 29,U 30,U 31,U 32,U 33,U 34,U 35,U 36,U 37,U 38,U 39,U 40,U 41,U 42,U 43,U 44,U 45,U 46,U 47,U 48,U 49,U 50,U 51,U 52,U 53,U 54,U 55,U 56,U 57,U 58,U 59,U 60,U 61,U 62,U 63,U 64,U 65,U 66,U 67,U 68,U 69,U 70,U 71,U 72,U 73,U 74,U 75,U 76,U 77,U 78,U 79,U 80,U 81,U 82,U 83,U 84,U 85,U 86,U 87,U 88,U 89,U 90,U 91,U 92,U 93]:=by rw[hT];show (#[U 0,U 1,U 2,U 3,U 4,U 5,U 6,U 7,U 8,U 9,U 10,U 11,U 12,U 13,U 14,U 15,U 16,U 17,U 18,U 19,U 20,U 21,U 22,U 23,U 24,U 25,U 26,U 27,U 28,U 29,U 30,U 31,U 32,U 33,U 34,U 35,U 36,U 37,U 38,U 39,U 40,U 41,U 42,U 43,U 44,U 45,U 46,U 47,U 48,U 49,U 50,U 51,U 52,U 53,U 54,U 55,U 56,U 57,U 58,U 59,U 60,U 61,U 62,U 63,U 64,U 65,U 66,U 67,U 68,U 69,U 70,U 71,U 72,U 73,U 74,U 75,U 76,U 77,U 78,U 79,U 80,U 81,U 82,U 83,U 84,U 85,U 86,U 87,U 88,U 89,U 90,U 91,U 92,U 93]:Array Value)=_;rw[g6,g7]
  clear hT hU HO g6 h6 g7 h7;subst Kv;obtain ⟨r0,r1,r2,r3,r4⟩:=zaa hb;obtain ⟨f0,f1,f2,f3,f4⟩:=zam hb;have HB:=I hb;have HT:=I Hu;have HE:=I hE;clear hb Hu hE;go_wp2_with fail
  refine bodyPost_ret (zfU _ _ _ _ _ rfl rfl (zal HB.out _ _ _ _ _) rfl) rfl ?_
  exact ⟨_,rfl,zcq HB.out HT.out _ _ _ _ _,zae HE.out (by omega) _ _ _ _ _⟩
theorem zsC (F:Nat) (cap:Array Value) (v:Value) (d:Dk) (w:World) (hS:StW w) (hD:DkV w v d) (hs:Sz 1000 d) (e0:Int) (J8:e0≠0) (hd:zby d.now=zcC e0∧RdH d.now) (hq:d.q=[]) (hf:∀ f∈d.fs,2≤f.2.length) (fmt:Int) (r:Dk×Int) (hr:r=(d,e0)) :
  Calls O 123 #[v,C E fmt,.func (.func F) #[] cap] w (zgb w r):=by
 subst hr;obtain ⟨vf,vq,rfl,HK,HL⟩:=hD;obtain ⟨A,c,rfl,_,_⟩:=Fs.open_ HK;obtain ⟨B,e2,rfl,_,_⟩:=Qs.open_ HL;obtain ⟨W0,H9⟩:∃ W0,((w.alloc (M #[G A d.fs.length c,G B d.q.length e2,C E d.quota,C E d.fuse,H d.dead] 25)).alloc (M #[G none 0 0,G none 0 0,C E 0,C E 0,H false] 25)).alloc (M #[G none 0 0,G none 0 0,C E 0,C E 0,H false,C E 0,C E 0,C E 0,C E 0,H false,G none 0 0,C E 0,C E 0,C E 0,C E 0,C E 0,C E 0,C E 0,G none 0 0,C Q 0,C E 0,C E 0,G none 0 0] 168)=W0:=⟨_,rfl⟩
 have Hp:Ext w W0:=by rw[←H9];exact xA (xA (xA (xR _) _) _) _
 have Hj:W0.heap.size=w.heap.size+1+1+1:=by rw[←H9];simp
 have h0:Blk W0 w.heap.size 25 #[G A d.fs.length c,G B d.q.length e2,C E d.quota,C E d.fuse,H d.dead]:=by rw[←H9];exact ((Blk.new w _ _).alloc _).alloc _
 have h1:Blk W0 (w.heap.size+1) 25 #[G none 0 0,G none 0 0,C E 0,C E 0,H false]:=by
  rw[←H9]
  have:=(Blk.new (w.alloc (M #[G A d.fs.length c,G B d.q.length e2,C E d.quota,C E d.fuse,H d.dead] 25)) 25 #[G none 0 0,G none 0 0,C E 0,C E 0,H false]).alloc (M #[G none 0 0,G none 0 0,C E 0,C E 0,H false,C E 0,C E 0,C E 0,C E 0,H false,G none 0 0,C E 0,C E 0,C E 0,C E 0,C E 0,C E 0,C E 0,G none 0 0,C Q 0,C E 0,C E 0,G none 0 0] 168)
  rwa [xS] at this
 have h2:Blk W0 (w.heap.size+1+1) 168 #[G none 0 0,G none 0 0,C E 0,C E 0,H false,C E 0,C E 0,C E 0,C E 0,H false,G none 0 0,C E 0,C E 0,C E 0,C E 0,C E 0,C E 0,C E 0,G none 0 0,C Q 0,C E 0,C E 0,G none 0 0]:=by
  rw[←H9]
  have:=Blk.new ((w.alloc (M #[G A d.fs.length c,G B d.q.length e2,C E d.quota,C E d.fuse,H d.dead] 25)).alloc (M #[G none 0 0,G none 0 0,C E 0,C E 0,H false] 25)) 168 #[G none 0 0,G none 0 0,C E 0,C E 0,H false,C E 0,C E 0,C E 0,C E 0,H false,G none 0 0,C E 0,C E 0,C E 0,C E 0,C E 0,C E 0,C E 0,G none 0 0,C Q 0,C E 0,C E 0,G none 0 0]
  rwa [xS,xS] at this
 have K1:DkV W0 (R #[G A d.fs.length c,G B d.q.length e2,C E d.quota,C E d.fuse,H d.dead]) d:=⟨_,_,rfl,HK.ext Hp,HL.ext Hp⟩
 obtain ⟨q0,q1,q2,q3,q4⟩:=zaa h0;have HY:=I Hp;have Ku:=I Hj;have H0:=I h0;have H1:=I h1;have H2:=I h2;have HH:=I K1;have HS:=I hS;have HJ:=I hs;have HD:=I hd;have HQ:=I hq;have Ko:=I hf;clear Hp Hj h0 h1 h2 K1 hS hs hd hq hf HK HL
 go_enter Tryz.func123,Tryz.ntmps123
 go_wp2_with fail
 refine wp_scope_jumps 0 (fun a W=>a.defers=[]∧a.tmps.size=94∧a.tmps.getD 6 undef=N (J ⟨w.heap.size+1,0,L⟩)∧a.tmps.getD 7 undef=C E e0∧(∃ A c B e,Blk W (w.heap.size+1) 25 (zan A d.fs.length c B d.q.length e d.quota d.fuse d.dead)∧DkV W (R #[G A d.fs.length c,G B d.q.length e,C E d.quota,C E d.fuse,H d.dead]) d)∧Ext w W) (fun _ _=>0) rfl ?_ ?_
 ·go_wp2_with fail
  refine (zfm _ d 1000 _ HH.out (by omega) HJ.out).mono ?_
  rintro e w1 ⟨u,rfl,K8,H8⟩;obtain ⟨A3,c3,B3,e3,rfl,of,oq⟩:=K8.d;clear K8 H9;have H5:=H1.out.ext H8;obtain ⟨f0,f1,f2,f3,f4⟩:=zam H5;obtain ⟨r0,r1,r2,r3,r4⟩:=zaa H5;have K3:=H0.out.ext H8;have H6:=H2.out.ext H8;have HV:=I (zal H5 (G A3 d.fs.length c3) (G B3 d.q.length e3) (C E d.quota) (C E d.fuse) (H d.dead));have Hs:=I (zb2 [G A3 d.fs.length c3,G B3 d.q.length e3,C E d.quota,C E d.fuse,H d.dead] (k:=0) K3 (by omega:w.heap.size≠w.heap.size+1));have Hy:=I (zb2 [G A3 d.fs.length c3,G B3 d.q.length e3,C E d.quota,C E d.fuse,H d.dead] (k:=0) H6 (by omega:w.heap.size+1+1≠w.heap.size+1))
  have HZ:=I (show OwnD (zaR w1 (w.heap.size+1) (G A3 d.fs.length c3) (G B3 d.q.length e3) (C E d.quota) (C E d.fuse) (H d.dead)) W0.heap.size (R #[G A3 d.fs.length c3,G B3 d.q.length e3,C E d.quota,C E d.fuse,H d.dead]) d from ⟨_,_,_,_,rfl,OwnF.box1 of H5,OwnQ.box1 oq H5⟩)
  have HI:=I (zae (xT HY.out H8) (by omega:w.heap.size≤w.heap.size+1) (G A3 d.fs.length c3) (G B3 d.q.length e3) (C E d.quota) (C E d.fuse) (H d.dead));have Hh:=I (zcq H5 (HH.out.ext H8) (G A3 d.fs.length c3) (G B3 d.q.length e3) (C E d.quota) (C E d.fuse) (H d.dead));simp only[zcf,P0] at Hs Hy;clear of oq K3 H5 H6 H8 q0 q1 q2 q3 q4 H0 H1 H2 HH HY;obtain ⟨q0,q1,q2,q3,q4⟩:=zaa Hs.out;go_wp2_with fail;have K2:=HS.out.ext HI.out
  refine (zqt _ d 1000 _ K2 Hh.out (by omega) HJ.out HD.out.2).mono ?_
  rw[HD.out.1];rintro e w2 ⟨vl,vs,rfl,K7,Ka,H7⟩;obtain ⟨Al,cl,rfl,_,KN⟩:=xO (OwnE.es K7);obtain ⟨As,cs,rfl,_,KO⟩:=(OwnS.sgs Ka).open_;clear K7 Ka K2 f0 f1 f2 f3 f4 r0 r1 r2 r3 r4 q0 q1 q2 q3 q4;have Hf:=I (HV.out.ext H7);have H6:=Hy.out.ext H7
  have Ho:=I (show OwnD w2 W0.heap.size (R #[G A3 d.fs.length c3,G B3 d.q.length e3,C E d.quota,C E d.fuse,H d.dead]) d from by
   obtain ⟨a1,a2,a3,a4,h1,h2,h3⟩:=HZ.out
   exact ⟨a1,a2,a3,a4,h1,OwnX.ext zbq h2 H7,OwnX.ext zbt h3 H7⟩)
  have Km:=I (xT HI.out H7);clear Hs HV Hy HZ HI Hh H7
  dsimp only[zcC,zeU,mf0,staZ,List.length_nil]
  have F2:∀ k,w2.frozen? ⟨w.heap.size+1+1,k,L⟩=false:=fun k=>H6.frozen k
  obtain ⟨x0,x1,x2,x3,x4,x5,x6,x7,x8,x9,Hv,Hw,Hx,Ha,Hb,x15,Hc,Hd,He,Hk,Hl,Hm,Hn⟩:=zdz H6;go_wp2_with fail
  refine wp_goto ?_
  have Hu:=zof Ho.out (by have:=Ku.out;omega) H6 zno HQ.out Ko.out (zes [C E 0,C E 0,C E 0,C E 0,H false,G Al 0 cl,C E 0,C E 0,C E 0,C E 0,C E 0,C E 0,C E 0,G As 0 cs] (k:=5) (KB.ext (xR w2)));have hb:=zb2 [C E 0,C E 0,C E 0,C E 0,H false,G Al 0 cl,C E 0,C E 0,C E 0,C E 0,C E 0,C E 0,C E 0,G As 0 cs] (k:=5) Hf.out (by omega:w.heap.size+1≠w.heap.size+1+1);have he:=zc4 [C E 0,C E 0,C E 0,C E 0,H false,G Al 0 cl,C E 0,C E 0,C E 0,C E 0,C E 0,C E 0,C E 0,G As 0 cs] (k:=5) Km.out (by omega:w.heap.size≤w.heap.size+1+1);simp only[zcf,P0] at Hu hb he
  exact ⟨rfl,rfl,rfl,rfl,rfl,⟨_,_,_,_,hb,Hu⟩,he⟩
 ·rintro ⟨T,df⟩ W ⟨hd,HO,h6,h7,⟨A5,c5,B5,e5,hb,Hu⟩,hE⟩
  dsimp only at hd HO h6 h7;subst hd;have hT:=zdo 94 T HO
  generalize hU:(fun i=>T.getD i undef)=U at hT
  have g6:U 6=N (J ⟨w.heap.size+1,0,L⟩):=by rw[←hU];exact h6
  have g7:U 7=C E e0:=by rw[←hU];exact h7
  have Kv:T = #[U 0,U 1,U 2,U 3,U 4,U 5,N (J ⟨w.heap.size+1,0,L⟩),C E e0,U 8,U 9,U 10,U 11,U 12,U 13,U 14,U 15,U 16,U 17,U 18,U 19,U 20,U 21,U 22,U 23,U 24,U 25,U 26,U 27,U 28,U 29,U 30,U 31,U 32,U 33,U 34,U 35,U 36,U 37,U 38,U 39,U 40,U 41,U 42,U 43,U 44,U 45,U 46,U 47,U 48,U 49,U 50,U 51,U 52,U 53,U 54,U 55,U 56,U 57,U 58,U 59,U 60,U 61,U 62,U 63,U 64,U 65,U 66,U 67,U 68,U 69,U 70,U 71,U 72,U 73,U 74,U 75,U 76,U 77,U 78,U 79,U 80,U 81,U 82,U 83,U 84,U 85,U 86,U 87,U 88,U 89,U 90,U 91,U 92,U 93]:=by rw[hT];show (#[U 0,U 1,U 2,U 3,U 4,U 5,U 6,U 7,U 8,U 9,U 10,U 11,U 12,U 13,U 14,U 15,U 16,U 17,U 18,U 19,U 20,U 21,U 22,U 23,U 24,U 25,U 26,U 27,U 28,U 29,U 30,U 31,U 32,U 33,U 34,U 35,U 36,U 37,U 38,U 39,U 40,U 41,U 42,U 43,U 44,U 45,U 46,U 47,U 48,U 49,U 50,U 51,U 52,U 53,U 54,U 55,U 56,U 57,U 58,U 59,U 60,U 61,U 62,U 63,U 64,U 65,U 66,U 67,U 68,U 69,U 70,U 71,U 72,U 73,U 74,U 75,U 76,U 77,U 78,U 79,U 80,U 81,U 82,U 83,U 84,U 85,U 86,U 87,U 88,U 89,U 90,U 91,U 92,U 93]:Array Value)=_;rw[g6,g7]
  clear hT hU HO g6 h6 g7 h7;subst Kv;obtain ⟨r0,r1,r2,r3,r4⟩:=zaa hb;obtain ⟨f0,f1,f2,f3,f4⟩:=zam hb;have HB:=I hb;have HT:=I Hu;have HE:=I hE;clear hb Hu hE;go_wp2_with fail
  refine bodyPost_ret (zfU _ _ _ _ _ rfl rfl (zal HB.out _ _ _ _ _) rfl) rfl ?_
  exact ⟨_,rfl,zcq HB.out HT.out _ _ _ _ _,zae HE.out (by omega) _ _ _ _ _⟩
end Go.Proofs.YteggfecbjgbndaaGreatDoor
