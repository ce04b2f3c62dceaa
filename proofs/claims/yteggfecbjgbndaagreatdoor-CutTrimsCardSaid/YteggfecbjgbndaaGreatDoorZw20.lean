/- Merged -/
import Derived.Test.YteggfecbjgbndaaGreatDoorZw14
import Derived.Test.YteggfecbjgbndaaGreatDoorZw17
import Derived.Test.YteggfecbjgbndaaGreatDoorZw19
set_option linter.all false
set_option maxHeartbeats 8000000
set_option maxRecDepth 100000
open Go.Value renaming int→C,slice→G,pointer→Q,bool→T
open Go.IntKind renaming i64→F
open Go.Mv renaming zhd→H
open Option renaming none→I,some→L
open Go.Proofs.Tryz renaming prog→N
open Go.Obj renaming cells→O
open Option renaming isSome→P0,getD→P1
open Array renaming replicate→P2,replicate_zero→P3,replicate_succ→P4
open Go.Mv.Blk renaming new→P5
open Go.Mv.Ext renaming grown→P6,cell→P7
open Go.Oper renaming semAt_some→P8
open List renaming append_toArray→P9,size_toArray→Pa,push_toArray→Pb,take_length→Pc,cons_append→Pd,length_nil→Pe,drop_left→Pf
open Nat renaming reduceSub→Pg,reduceAdd→Ph,le_trans→Pi
namespace Go.Proofs.YteggfecbjgbndaaGreatDoor
open Go.RowKit Go.Mv
def zeU:Tup:=⟨staZ,[],0,0⟩
structure Rd where
 err:Int
 t:Tup
 m:Mf
def zcC (e:Int):Rd:=⟨e,zeU,mf0⟩
def zby (fs:List Fil):Rd:=match zbc fs (zaw 1 0 0) with
 | none=>zcC 42
 | some b=>match zhn b with
  | none=>zcC 130
  | some m=>match zfJ fs m with
   | none=>zcC 130
   | some s=>if (zi9 fs m s.idx).2&&zbf ⟨s,(zi9 fs m s.idx).1,m.term,m.vote⟩ then ⟨0,⟨s,(zi9 fs m s.idx).1,m.term,m.vote⟩,m⟩ else zcC 130
def zbK (t:Tup) (v:Value):Array Value:=#[C F t.s.idx,C F t.s.term,C F t.s.sum,C F t.s.lvl,T t.s.fin,v,C F t.term,C F t.vote]
def zju (w:World) (r:Rd) (e:Ending) (w':World):Prop:=∃ vl vs,e=.returned (.tuple #[.agg #[C F r.t.s.idx,C F r.t.s.term,C F r.t.s.sum,C F r.t.s.lvl,T r.t.s.fin,vl,C F r.t.term,C F r.t.vote],.agg #[C F r.m.next,C F r.m.term,C F r.m.vote,C F r.m.sq,C F r.m.sf,vs],C F r.err])∧OwnE w' w.heap.size vl r.t.log∧OwnS w' w.heap.size vs r.m.segs∧Ext w w'
theorem zn5 {b:List UInt8} {m:Mf} (h:zhn b=L m):zaF m=true∧zbH m=L b:=by
 unfold zhn at h
 split at h
 ·cases h
 ·split at h
  ·cases h
  ·split at h
   ·rename_i hp
    cases h
    refine ⟨?_,hp⟩
    unfold zbH at hp
    split at hp
    ·assumption
    ·cases hp
   ·cases h
theorem zgf {m:Mf} (h:zaF m=true):∀ s∈m.segs,1≤s.first∧s.first≤1073741820∧-1≤s.count∧s.count≤4:=by
 intro s hs;unfold zaF at h;rw[Bool.and_eq_true] at h
 exact zgq h.2 s (by rw[Pc];exact hs)
theorem zp3 {fs:List Fil} {m:Mf} {s:Sta} (h:zfJ fs m=L s):s.ok=true∧0≤s.idx∧s.idx≤1073741824:=by
 have G8:s.ok=true:=by
  unfold zfJ at h
  split at h
  ·cases h;rfl
  ·split at h
   ·cases h
   ·exact (zjY h).1
 have:=(Sta.okP G8).1
 unfold zaD at this
 simp at this
 exact ⟨G8,this⟩
theorem za9 {W:World} {b:Nat} {t:TypeId} {cs:Array Value} (h:Blk W b t cs):W.frozen? ⟨b,0,I⟩=false∧W.frozen? ⟨b,1,I⟩=false∧W.frozen? ⟨b,2,I⟩=false∧W.frozen? ⟨b,3,I⟩=false∧W.frozen? ⟨b,4,I⟩=false∧W.frozen? ⟨b,5,I⟩=false∧W.frozen? ⟨b,6,I⟩=false∧W.frozen? ⟨b,7,I⟩=false :=
 ⟨h.frozen 0,h.frozen 1,h.frozen 2,h.frozen 3,h.frozen 4,h.frozen 5,h.frozen 6,h.frozen 7⟩
def zb8 (W:World) (b:Nat) (a v u x y z p q:Value):World:=(((((((W.setCell ⟨b,0,I⟩ a).setCell ⟨b,1,I⟩ v).setCell ⟨b,2,I⟩ u).setCell ⟨b,3,I⟩ x).setCell ⟨b,4,I⟩ y).setCell ⟨b,5,I⟩ z).setCell ⟨b,6,I⟩ p).setCell ⟨b,7,I⟩ q
theorem zbY {W:World} {b:Nat} {t:TypeId} {a v u x y z p q:Value} (h:Blk W b t #[a,v,u,x,y,z,p,q]) (a' v' u' x' y' z' p' q':Value):Blk (zb8 W b a' v' u' x' y' z' p' q') b t #[a',v',u',x',y',z',p',q']:=by
 have h0:Blk _ b t #[a',v,u,x,y,z,p,q]:=h.set 0 a'
 have h1:Blk _ b t #[a',v',u,x,y,z,p,q]:=h0.set 1 v'
 have h2:Blk _ b t #[a',v',u',x,y,z,p,q]:=h1.set 2 u'
 have h3:Blk _ b t #[a',v',u',x',y,z,p,q]:=h2.set 3 x'
 have h4:Blk _ b t #[a',v',u',x',y',z,p,q]:=h3.set 4 y'
 have h5:Blk _ b t #[a',v',u',x',y',z',p,q]:=h4.set 5 z'
 have h6:Blk _ b t #[a',v',u',x',y',z',p',q]:=h5.set 6 p'
 have h7:Blk _ b t #[a',v',u',x',y',z',p',q']:=h6.set 7 q'
 exact h7
theorem zbX {W:World} {b c:Nat} {t:TypeId} {cs:Array Value} (h:Blk W b t cs) (H1:b≠c) (a' v' u' x' y' z' p' q':Value):Blk (zb8 W c a' v' u' x' y' z' p' q') b t cs :=
 (((((((h.other H1 0 a').other H1 1 v').other H1 2 u').other H1 3 x').other H1 4 y').other H1 5 z').other H1 6 p').other H1 7 q'
theorem zbA {w W:World} (h:Ext w W) {b:Nat} (hb:w.heap.size≤b) (a' v' u' x' y' z' p' q':Value):Ext w (zb8 W b a' v' u' x' y' z' p' q') :=
 (((((((Below.setCell h hb a').setCell hb v').setCell hb u').setCell hb x').setCell hb y').setCell hb z').setCell hb p').setCell hb q'
def zbB (W:World) (b:Nat) (a v u x y z:Value):World:=(((((W.setCell ⟨b,0,I⟩ a).setCell ⟨b,1,I⟩ v).setCell ⟨b,2,I⟩ u).setCell ⟨b,3,I⟩ x).setCell ⟨b,4,I⟩ y).setCell ⟨b,5,I⟩ z
theorem zco {W:World} {b c:Nat} {t:TypeId} {cs:Array Value} (h:Blk W b t cs) (H1:b≠c) (a' v' u' x' y' z':Value):Blk (zbB W c a' v' u' x' y' z') b t cs :=
 (((((h.other H1 0 a').other H1 1 v').other H1 2 u').other H1 3 x').other H1 4 y').other H1 5 z'
theorem zdd {W:World} {b:Nat} {t:TypeId} {cs:Array Value} (hB:Blk W b t cs) {e:TypeId} (H3:t≠e) {base size k:Nat} {vv:Value} {xs:List Value} (hr:W.ownsRow base e size vv k xs) (a' v' u' x' y' z' p' q':Value):(zb8 W b a' v' u' x' y' z' p' q').ownsRow base e size vv k xs:=by
 have r0:=hr.kept (zad _ b 0 a') (.inr (hB.not_row H3 hr).symm);have b0:=hB.set 0 a';have r1:=r0.kept (zad _ b 1 v') (.inr (b0.not_row H3 r0).symm);have b1:=b0.set 1 v';have r2:=r1.kept (zad _ b 2 u') (.inr (b1.not_row H3 r1).symm);have b2:=b1.set 2 u';have r3:=r2.kept (zad _ b 3 x') (.inr (b2.not_row H3 r2).symm);have b3:=b2.set 3 x';have r4:=r3.kept (zad _ b 4 y') (.inr (b3.not_row H3 r3).symm);have b4:=b3.set 4 y';have r5:=r4.kept (zad _ b 5 z') (.inr (b4.not_row H3 r4).symm);have b5:=b4.set 5 z';have r6:=r5.kept (zad _ b 6 p') (.inr (b5.not_row H3 r5).symm);have b6:=b5.set 6 p';have r7:=r6.kept (zad _ b 7 q') (.inr (b6.not_row H3 r6).symm);have b7:=b6.set 7 q'
 exact r7
theorem zcU {W:World} {b:Nat} {t:TypeId} {cs:Array Value} (hB:Blk W b t cs) {e:TypeId} (H3:t≠e) {base size k:Nat} {vv:Value} {xs:List Value} (hr:W.ownsRow base e size vv k xs) (a' v' u' x' y' z':Value):(zbB W b a' v' u' x' y' z').ownsRow base e size vv k xs:=by
 have r0:=hr.kept (zad _ b 0 a') (.inr (hB.not_row H3 hr).symm);have b0:=hB.set 0 a';have r1:=r0.kept (zad _ b 1 v') (.inr (b0.not_row H3 r0).symm);have b1:=b0.set 1 v';have r2:=r1.kept (zad _ b 2 u') (.inr (b1.not_row H3 r1).symm);have b2:=b1.set 2 u';have r3:=r2.kept (zad _ b 3 x') (.inr (b2.not_row H3 r2).symm);have b3:=b2.set 3 x';have r4:=r3.kept (zad _ b 4 y') (.inr (b3.not_row H3 r3).symm);have b4:=b3.set 4 y';have r5:=r4.kept (zad _ b 5 z') (.inr (b4.not_row H3 r4).symm);have b5:=b4.set 5 z'
 exact r5
theorem zc7:Tryz.prog.underlying 44=L (.struct (Tryz.prog.fieldsOf 44)):=by kernel_rfl
theorem zmX (tmps:Array Value) (W:World) (b c:Nat) (cs ds:Array Value) (u:Value) (h2:tmps.getD 2 undef=Q (L ⟨b,0,I⟩)) (h3:tmps.getD 3 undef=Q (L ⟨c,0,I⟩)) (h4:tmps.getD 4 undef=u) (hb:Blk W b 44 cs) (hc:Blk W c 30 ds) (hs:cs.size=8) (hd:ds.size=6):(results Tryz.f10 tmps).run N W=.ok (.tuple #[.agg cs,.agg ds,u]) W:=by
 have hl:=hb.load (P:=N) zc7 rfl (by rw[hs];kernel_rfl);have hm:=hc.load (P:=N) zd2 rfl (by rw[hd];kernel_rfl)
 have GL:tmps[2]?.getD undef=Q (L ⟨b,0,I⟩):=by simpa using h2
 have G1:tmps[3]?.getD undef=Q (L ⟨c,0,I⟩):=by simpa using h3
 have GM:tmps[4]?.getD undef=u:=by simpa using h4
 simp[results,Tryz.results10,GL,G1,GM,asAddr,hl,hm]
theorem zfM (tmps:Array Value) (w W:World) (b c:Nat) (x0 x1 x2 x3 x4 x5 x6 x7 y0 y1 y2 y3 y4 y5:Value) (er:Int) (R:Rd) (hR:zcC er=R) (h2:tmps.getD 2 undef=Q (L ⟨b,0,I⟩)) (h3:tmps.getD 3 undef=Q (L ⟨c,0,I⟩)) (h4:tmps.getD 4 undef=C F er)
  (hb:Blk W b 44 #[x0,x1,x2,x3,x4,x5,x6,x7]) (hc:Blk W c 30 #[y0,y1,y2,y3,y4,y5]) (hE:Ext w W) (Hf:w.heap.size≤b) (GO:w.heap.size≤c) (H1:b≠c) :
  bodyPost N Tryz.f10 (zju w R) .ret { tmps:=tmps,defers:=[] } (zbB (zb8 W b (C F 0) (C F 0) (C F 0) (C F 0) (T false) (G none 0 0) (C F 0) (C F 0)) c (C F 0) (C F 0) (C F 0) (C F 0) (C F 0) (G none 0 0)):=by
 refine bodyPost_ret (zmX _ _ b c _ _ _ h2 h3 h4 (zco (zbY hb _ _ _ _ _ _ _ _) H1 _ _ _ _ _ _) (zbl (zbX hc H1.symm _ _ _ _ _ _ _ _) _ _ _ _ _ _) rfl rfl) rfl ?_
 subst hR
 exact ⟨_,_,rfl,⟨rfl,.inl ⟨rfl,rfl⟩⟩,⟨rfl,.inl ⟨rfl,rfl⟩⟩,zbm (zbA hE Hf _ _ _ _ _ _ _ _) GO _ _ _ _ _ _⟩
theorem zoL (v:Value) (fs:List Fil) (w:World) (hS:StW w) (hF:Fs w v fs) (hl:fs.length≤4000000) (Hg:∀ f∈fs,f.2.length≤2000000) :
  Calls N 10 #[v] w (zju w (zby fs)):=by
 obtain ⟨A,c,rfl,_,_⟩:=Fs.open_ hF;obtain ⟨x1,Hn⟩:∃ x:Array Value,#[C F 0,C F 0,C F 0,C F 0,T false,G none 0 0,C F 0,C F 0]=x:=⟨_,rfl⟩;obtain ⟨x2,GY⟩:∃ x:Array Value,#[C F 0,C F 0,C F 0,C F 0,C F 0,G none 0 0]=x:=⟨_,rfl⟩;have Hf:=P5 w 44 x1;have H9:=Hf.alloc (O x2 30);have HQ:=P5 (w.alloc (O x1 44)) 30 x2;rw[xS] at HQ
 have hX:Ext w ((w.alloc (O x1 44)).alloc (O x2 30)):=xA (xA (xR _) _) _
 subst Hn GY;have key:=zgc _ fs 1 0 0 _ (hS.ext hX) (hF.ext hX) hl;obtain ⟨R,hR⟩:∃ R,zby fs=R:=⟨_,rfl⟩;rw[hR];unfold zby at hR
 have Hl:∀ b,zbc fs (zaw 1 0 0)=L b→b.length≤2000000:=fun b h=>by
  obtain ⟨f,hf,rfl⟩:=ziJ h;exact Hg f hf
 obtain ⟨rb,G9⟩:∃ r,zbc fs (zaw 1 0 0)=r:=⟨_,rfl⟩;rw[G9] at key hR Hl;have HR:=H hR;have Hm:=H H9;have Hr:=H HQ;have HX:=H hX;have GK:=H key;have HS:=H hS;have HF:=H hF;have JX:=H Hg;have KA:=H Hl;clear Hf H9 HQ hX key hF hS Hg Hl G9 hR
 go_enter Tryz.func10,Tryz.ntmps10
 go_wp2_with fail
 refine GK.out.mono ?_
 rintro e w1 ⟨v1,rfl,Hk,H5⟩;have K1:=H (xT HX.out H5);have Kd:=Hm.out.ext H5;have K9:=Hr.out.ext H5;have Ku:=H Kd;have Kj:=H K9
 cases rb with
 | none =>
  have hR:zcC 42=R:=HR.out
  obtain ⟨f0,f1,f2,f3,f4,f5,f6,f7⟩:=za9 Kd;obtain ⟨d0,d1,d2,d3,d4,d5,d6,d7⟩:=za9 K9;obtain ⟨g0,g1,g2,g3,g4,g5,g6,g7⟩:=zaQ Kd;obtain ⟨c0,c1,c2,c3,c4,c5⟩:=zag K9
  dsimp only[P0]
  go_wp2_with fail
  exact zfM _ w w1 w.heap.size (w.heap.size+1) _ _ _ _ _ _ _ _ _ _ _ _ _ _ 42 R hR rfl rfl rfl Ku.out Kj.out K1.out (by omega) (by omega) (by omega)
 | some b =>
  have Hg:=KA.out b rfl
  dsimp only[P0,P1] at Hk ⊢
  have Ho:=zqC v1 b w1 Hk Hg;have K3:=HR.out;dsimp only at K3;obtain ⟨rm,KM⟩:∃ r,zhn b=r:=⟨_,rfl⟩
  have G5:∀ m,rm=L m→zaF m=true:=fun m h=>(zn5 (KM.trans h)).1
  rw[KM] at Ho K3;have JY:=H G5;have Kq:=H K3;have HD:=H Ho;clear Ho HR K3 KM G5 Hk Kd K9;go_wp2_with fail
  refine HD.out.mono ?_
  rintro e w2 ⟨vs,rfl,KH,HN⟩;have HP:=KH.sgs;obtain ⟨B,d,rfl,_,_⟩:=HP.open_
  cases rm with
  | none =>
   have hR:zcC 130=R:=Kq.out
   dsimp only[P0,P1]
   obtain ⟨y,hy⟩:∃ y:Array Value,#[C F mf0.next,C F mf0.term,C F mf0.vote,C F mf0.sq,C F mf0.sf,G B mf0.segs.length d]=y:=⟨_,rfl⟩
   have Hb:Ext w1 (w2.alloc (O y 30)):=xA HN _
   have Hx:=H (xT K1.out Hb);have Ke:=Ku.out.ext Hb;have Ka:=Kj.out.ext Hb;subst hy;have Kw:=H Ke;have Kl:=H Ka;obtain ⟨f0,f1,f2,f3,f4,f5,f6,f7⟩:=za9 Ke;obtain ⟨d0,d1,d2,d3,d4,d5,d6,d7⟩:=za9 Ka;obtain ⟨g0,g1,g2,g3,g4,g5,g6,g7⟩:=zaQ Ke;obtain ⟨c0,c1,c2,c3,c4,c5⟩:=zag Ka;clear Ke Ka Hb HN HP H5;go_wp2_with fail
   exact zfM _ w _ w.heap.size (w.heap.size+1) _ _ _ _ _ _ _ _ _ _ _ _ _ _ 130 R hR rfl rfl rfl Kw.out Kl.out Hx.out (by omega) (by omega) (by omega)
  | some m =>
   have HU:=JY.out m rfl
   dsimp only[P0,P1] at HP KH ⊢
   have K4:=Kq.out;dsimp only at K4;obtain ⟨y,hy⟩:∃ y:Array Value,#[C F m.next,C F m.term,C F m.vote,C F m.sq,C F m.sf,G B m.segs.length d]=y:=⟨_,rfl⟩
   have Hb:Ext w1 (w2.alloc (O y 30)):=xA HN _
   have Gw:Hid (OwnS (w2.alloc (O y 30)) w1.heap.size (G B m.segs.length d) m.segs):=H (zab KH (xA (xR w2) _))
   have JM:=H (HP.ext (xA (xR w2) (O y 30)));have Hx:=H (xT K1.out Hb);have Kw:=H (Ku.out.ext Hb);have Kl:=H (Kj.out.ext Hb);have JO:=H (P5 w2 30 y)
   have GW:w.heap.size+2≤w2.heap.size:=by
    have h1:=H5.size;have h2:=HN.size
    simp at h1
    omega
   subst hy;have Hp:=zn3 _ _ fs m _ (HS.out.ext Hx.out) (HF.out.ext Hx.out) JM.out hl JX.out;obtain ⟨rs,KN⟩:∃ r,zfJ fs m=r:=⟨_,rfl⟩
   have G7:∀ s,rs=L s→0≤s.idx∧s.idx≤1073741824:=fun s h=>(zp3 (KN.trans h)).2
   rw[KN] at Hp K4;have Kr:=H K4;have GI:=H G7;have HI:=H Hp;have HA:=H HU;obtain ⟨q0,q1,q2,q3,q4,q5⟩:=zag JO.out;clear Kq K4 G7 Hp KN HU Hb HN H5 HP HD JY;go_wp2_with fail
   refine HI.out.mono ?_
   rintro e w4 ⟨rfl,H7⟩;have Kf:=Kw.out.ext H7;have Kb:=Kl.out.ext H7;have KI:=JO.out.ext H7;have JJ:=H (xT Hx.out H7);have Gn:=H (JM.out.ext H7);have Gx:=H (zab Gw.out H7);have KQ:=H7.size;rw[xS] at KQ;clear q0 q1 q2 q3 q4 q5 HI
   cases rs with
   | none =>
    have hR:zcC 130=R:=Kr.out
    obtain ⟨z,hz⟩:∃ z:Array Value,#[C F staZ.idx,C F staZ.term,C F staZ.sum,C F staZ.lvl,T staZ.fin]=z:=⟨_,rfl⟩
    have H0:Ext w4 (w4.alloc (O z 41)):=xA (xR _) _
    have Ht:=H (xT JJ.out H0);have Kg:=Kf.ext H0;have Kc:=Kb.ext H0;subst hz;have Kx:=H Kg;have Km:=H Kc;obtain ⟨f0,f1,f2,f3,f4,f5,f6,f7⟩:=za9 Kg;obtain ⟨d0,d1,d2,d3,d4,d5,d6,d7⟩:=za9 Kc;obtain ⟨g0,g1,g2,g3,g4,g5,g6,g7⟩:=zaQ Kg;obtain ⟨c0,c1,c2,c3,c4,c5⟩:=zag Kc;clear Kg Kc Kf Kb KI H0 H7
    dsimp only[P0,P1]
    go_wp2_with fail
    exact zfM _ w _ w.heap.size (w.heap.size+1) _ _ _ _ _ _ _ _ _ _ _ _ _ _ 130 R hR rfl rfl rfl Kx.out Km.out Ht.out (by omega) (by omega) (by omega)
   | some s =>
    obtain ⟨Gg,Gh⟩:=GI.out s rfl;have K5:=Kr.out;dsimp only at K5
    dsimp only[P0,P1]
    obtain ⟨z,hz⟩:∃ z:Array Value,#[C F s.idx,C F s.term,C F s.sum,C F s.lvl,T s.fin]=z:=⟨_,rfl⟩
    have H0:Ext w4 (w4.alloc (O z 41)):=xA (xR _) _
    have Ht:=H (xT JJ.out H0);have Kx:=H (Kf.ext H0);have Km:=H (Kb.ext H0);have Kp:=H (KI.ext H0);have JN:=H (Gn.out.ext H0);have Gy:=H (zab Gx.out H0);have JW:=H (P5 w4 41 z);subst hz;obtain ⟨q0,q1,q2,q3,q4,q5⟩:=zag Kp.out;obtain ⟨z0,z1,z2,z3,z4⟩:=zaa JW.out;have HZ:=zgf HA.out
    have HY:m.segs.length≤60:=(zfr HA.out).2.2.2.1
    have Hq:=zrl _ _ fs m s.idx _ (HS.out.ext Ht.out) (HF.out.ext Ht.out) JN.out hl JX.out HZ ⟨Gg,Gh⟩ HY;obtain ⟨rl,Ga⟩:∃ r,zi9 fs m s.idx=r:=⟨_,rfl⟩;rw[Ga] at Hq K5;obtain ⟨lg,ok⟩:=rl;have JR:=H K5;have HK:=H Hq;clear HZ HY Hq Ga K5 Kf Kb KI H0 H7 Gg Gh Kr;go_wp2_with fail
    refine HK.out.mono ?_
    rintro e w6 ⟨vl,rfl,KF,HO⟩
    dsimp only at KF ⊢
    have KE:=OwnE.es KF;have KR:=HO.size;rw[xS] at KR;obtain ⟨Al,cl,rfl,_,_⟩:=xO KE;obtain ⟨q0,q1,q2,q3,q4,q5⟩:=zag (Kp.out.ext HO);obtain ⟨z0,z1,z2,z3,z4⟩:=zaa (JW.out.ext HO);obtain ⟨y,hy⟩:∃ y:Array Value,#[C F s.idx,C F s.term,C F s.sum,C F s.lvl,T s.fin,G Al lg.length cl,C F m.term,C F m.vote]=y:=⟨_,rfl⟩
    have K8:Ext w6 (w6.alloc (O y 44)):=xA (xR _) _
    have H2:=xT HO K8;have JK:=H (xT Ht.out H2);have K7:=H (Kx.out.ext H2);have K2:=H (Km.out.ext H2);have GC:=H (Kp.out.ext H2);have h8:=H (JN.out.ext H2);have Gz:=H (zab Gy.out H2);have Gu:=H (Es.ext KE K8);have Gr:=H (OwnE.ext KF K8);have JT:=H (P5 w6 44 y);subst hy;clear H2 K8 HO KE HK;have Hs:=zoP ⟨s,lg,m.term,m.vote⟩ _ _ Gu.out;obtain ⟨rr,Gb⟩:∃ r,zbf ⟨s,lg,m.term,m.vote⟩=r:=⟨_,rfl⟩;have Ks:=JR.out;rw[Gb] at Hs Ks;have Kt:=H Ks;have HM:=H Hs;clear Hs Ks JR Gb;obtain ⟨t0,t1,t2,t3,t4,t5,t6,t7⟩:=zaQ JT.out
    cases ok with
    | false =>
     have hR:zcC 130=R:=Kt.out
     clear t0 t1 t2 t3 t4 t5 t6 t7;obtain ⟨f0,f1,f2,f3,f4,f5,f6,f7⟩:=za9 K7.out;obtain ⟨d0,d1,d2,d3,d4,d5,d6,d7⟩:=za9 K2.out;obtain ⟨g0,g1,g2,g3,g4,g5,g6,g7⟩:=zaQ K7.out;obtain ⟨c0,c1,c2,c3,c4,c5⟩:=zag K2.out;go_wp2_with fail
     exact zfM _ w _ w.heap.size (w.heap.size+1) _ _ _ _ _ _ _ _ _ _ _ _ _ _ 130 R hR rfl rfl rfl K7.out K2.out JK.out (by omega) (by omega) (by omega)
    | true =>
     go_wp2_with fail
     refine HM.out.mono ?_
     rintro e w8 ⟨rfl,Hd⟩;have Hc:=H (K7.out.ext Hd);have Hv:=H (K2.out.ext Hd);have JP:=H (GC.out.ext Hd);have JU:=H (JT.out.ext Hd);have JL:=H (xT JK.out Hd);have Gs:=H (OwnE.ext Gr.out Hd);have GA:=H (zab Gz.out Hd);clear q0 q1 q2 q3 q4 q5 z0 z1 z2 z3 z4 t0 t1 t2 t3 t4 t5 t6 t7 Hd HM
     cases rr with
     | false =>
      have hR:zcC 130=R:=Kt.out
      obtain ⟨f0,f1,f2,f3,f4,f5,f6,f7⟩:=za9 Hc.out;obtain ⟨d0,d1,d2,d3,d4,d5,d6,d7⟩:=za9 Hv.out;obtain ⟨g0,g1,g2,g3,g4,g5,g6,g7⟩:=zaQ Hc.out;obtain ⟨c0,c1,c2,c3,c4,c5⟩:=zag Hv.out;go_wp2_with fail
      exact zfM _ w _ w.heap.size (w.heap.size+1) _ _ _ _ _ _ _ _ _ _ _ _ _ _ 130 R hR rfl rfl rfl Hc.out Hv.out JL.out (by omega) (by omega) (by omega)
     | true =>
      obtain ⟨q0,q1,q2,q3,q4,q5⟩:=zag JP.out;obtain ⟨t0,t1,t2,t3,t4,t5,t6,t7⟩:=zaQ JU.out;obtain ⟨f0,f1,f2,f3,f4,f5,f6,f7⟩:=za9 Hc.out;obtain ⟨d0,d1,d2,d3,d4,d5,d6,d7⟩:=za9 Hv.out;obtain ⟨g0,g1,g2,g3,g4,g5,g6,g7⟩:=zaQ Hc.out;obtain ⟨c0,c1,c2,c3,c4,c5⟩:=zag Hv.out;go_wp2_with fail
      have hR:(⟨0,⟨s,lg,m.term,m.vote⟩,m⟩:Rd)=R:=Kt.out
      have GT:w6.heap.size≠w.heap.size:=by omega
      have GS:w2.heap.size≠w.heap.size:=by omega
      have KL:w6.heap.size≠w.heap.size+1:=by omega
      have KK:w2.heap.size≠w.heap.size+1:=by omega
      refine wp_region_held_drew (S:=fun W=>W.cell? ⟨w6.heap.size,0,I⟩=L (C F s.idx)∧W.cell? ⟨w6.heap.size,1,I⟩=L (C F s.term)∧W.cell? ⟨w6.heap.size,2,I⟩=L (C F s.sum)∧W.cell? ⟨w6.heap.size,3,I⟩=L (C F s.lvl)∧W.cell? ⟨w6.heap.size,4,I⟩=L (T s.fin)∧W.cell? ⟨w6.heap.size,5,I⟩=L (G Al lg.length cl)∧W.cell? ⟨w6.heap.size,6,I⟩=L (C F m.term)∧W.cell? ⟨w6.heap.size,7,I⟩=L (C F m.vote)∧W.cell? ⟨w2.heap.size,0,I⟩=L (C F m.next)∧W.cell? ⟨w2.heap.size,1,I⟩=L (C F m.term)∧W.cell? ⟨w2.heap.size,2,I⟩=L (C F m.vote)∧W.cell? ⟨w2.heap.size,3,I⟩=L (C F m.sq)∧W.cell? ⟨w2.heap.size,4,I⟩=L (C F m.sf)∧W.cell? ⟨w2.heap.size,5,I⟩=L (G B m.segs.length d)) (by kernel_rfl) ⟨t0,t1,t2,t3,t4,t5,t6,t7,q0,q1,q2,q3,q4,q5⟩ (fun _=>?_)
      clear t0 t1 t2 t3 t4 t5 t6 t7 q0 q1 q2 q3 q4 q5;refine tkN 0 ?_;refine tkN 1 ?_
      refine ar1 2 (fun K hK=>?_)
      go_simp
      show K _ (World.drew (zb8 w8 w.heap.size (C F s.idx) (C F s.term) (C F s.sum) (C F s.lvl) (T s.fin) (G Al lg.length cl) (C F m.term) (C F m.vote)))
      have hD:Ext (zb8 w8 w.heap.size (C F s.idx) (C F s.term) (C F s.sum) (C F s.lvl) (T s.fin) (G Al lg.length cl) (C F m.term) (C F m.vote)) (World.drew (zb8 w8 w.heap.size (C F s.idx) (C F s.term) (C F s.sum) (C F s.lvl) (T s.fin) (G Al lg.length cl) (C F m.term) (C F m.vote))):=xD (xR _)
      have JV:=H ((zbX JU.out GT (C F s.idx) (C F s.term) (C F s.sum) (C F s.lvl) (T s.fin) (G Al lg.length cl) (C F m.term) (C F m.vote)).ext hD);have JQ:=H ((zbX JP.out GS (C F s.idx) (C F s.term) (C F s.sum) (C F s.lvl) (T s.fin) (G Al lg.length cl) (C F m.term) (C F m.vote)).ext hD);have Hz:=H ((zbX Hv.out (by omega:w.heap.size+1≠w.heap.size) (C F s.idx) (C F s.term) (C F s.sum) (C F s.lvl) (T s.fin) (G Al lg.length cl) (C F m.term) (C F m.vote)).ext hD);have GE:=H ((zbY Hc.out (C F s.idx) (C F s.term) (C F s.sum) (C F s.lvl) (T s.fin) (G Al lg.length cl) (C F m.term) (C F m.vote)).ext hD);have Gm:=H (xT (zbA JL.out (xN _) (C F s.idx) (C F s.term) (C F s.sum) (C F s.lvl) (T s.fin) (G Al lg.length cl) (C F m.term) (C F m.vote)) hD);have Gt:=H (OwnE.ext (zdd Hc.out (by decide) Gs.out (C F s.idx) (C F s.term) (C F s.sum) (C F s.lvl) (T s.fin) (G Al lg.length cl) (C F m.term) (C F m.vote)) hD);have GB:=H (zab (zdd Hc.out (by decide) GA.out (C F s.idx) (C F s.term) (C F s.sum) (C F s.lvl) (T s.fin) (G Al lg.length cl) (C F m.term) (C F m.vote)) hD);clear hD;clear f0 f1 f2 f3 f4 f5 f6 f7 d0 d1 d2 d3 d4 d5 d6 d7 g0 g1 g2 g3 g4 g5 g6 g7 c0 c1 c2 c3 c4 c5
      generalize (World.drew (zb8 w8 w.heap.size (C F s.idx) (C F s.term) (C F s.sum) (C F s.lvl) (T s.fin) (G Al lg.length cl) (C F m.term) (C F m.vote)))=w9 at *
      obtain ⟨t0,t1,t2,t3,t4,t5,t6,t7⟩:=zaQ JV.out;obtain ⟨q0,q1,q2,q3,q4,q5⟩:=zag JQ.out
      refine shK hK _ _ ⟨t0,t1,t2,t3,t4,t5,t6,t7,q0,q1,q2,q3,q4,q5⟩ (fun _=>?_)
      clear t0 t1 t2 t3 t4 t5 t6 t7 q0 q1 q2 q3 q4 q5;obtain ⟨d0,d1,d2,d3,d4,d5,d6,d7⟩:=za9 Hz.out;obtain ⟨c0,c1,c2,c3,c4,c5⟩:=zag Hz.out
      refine ar1 3 (fun K hK=>?_)
      go_simp
      show K _ (zbB w9 (w.heap.size+1) (C F m.next) (C F m.term) (C F m.vote) (C F m.sq) (C F m.sf) (G B m.segs.length d))
      have Kz:=H (zco JV.out KL (C F m.next) (C F m.term) (C F m.vote) (C F m.sq) (C F m.sf) (G B m.segs.length d));have Ko:=H (zco JQ.out KK (C F m.next) (C F m.term) (C F m.vote) (C F m.sq) (C F m.sf) (G B m.segs.length d));have Kv:=H (zco GE.out (by omega:w.heap.size≠w.heap.size+1) (C F m.next) (C F m.term) (C F m.vote) (C F m.sq) (C F m.sf) (G B m.segs.length d))
      have Kk:Hid (Blk (zbB w9 (w.heap.size+1) (C F m.next) (C F m.term) (C F m.vote) (C F m.sq) (C F m.sf) (G B m.segs.length d)) (w.heap.size+1) 30 #[C F m.next,C F m.term,C F m.vote,C F m.sq,C F m.sf,G B m.segs.length d]):=H (zbl Hz.out _ _ _ _ _ _)
      have Hj:=H (zbm Gm.out (Nat.le_succ w.heap.size) (C F m.next) (C F m.term) (C F m.vote) (C F m.sq) (C F m.sf) (G B m.segs.length d))
      have Hj:Hid (Ext w (zbB w9 (w.heap.size+1) (C F m.next) (C F m.term) (C F m.vote) (C F m.sq) (C F m.sf) (G B m.segs.length d))):=Hj
      have Ki:Hid (OwnE (zbB w9 (w.heap.size+1) (C F m.next) (C F m.term) (C F m.vote) (C F m.sq) (C F m.sf) (G B m.segs.length d)) _ _ lg):=H (zcU Hz.out (by decide) Gt.out (C F m.next) (C F m.term) (C F m.vote) (C F m.sq) (C F m.sf) (G B m.segs.length d))
      have Kn:Hid (OwnS (zbB w9 (w.heap.size+1) (C F m.next) (C F m.term) (C F m.vote) (C F m.sq) (C F m.sf) (G B m.segs.length d)) _ _ m.segs):=H (zcU Hz.out (by decide) GB.out (C F m.next) (C F m.term) (C F m.vote) (C F m.sq) (C F m.sf) (G B m.segs.length d))
      clear c0 c1 c2 c3 c4 c5 d0 d1 d2 d3 d4 d5 d6 d7
      generalize (zbB w9 (w.heap.size+1) (C F m.next) (C F m.term) (C F m.vote) (C F m.sq) (C F m.sf) (G B m.segs.length d))=w10 at *
      obtain ⟨t0,t1,t2,t3,t4,t5,t6,t7⟩:=zaQ Kz.out;obtain ⟨q0,q1,q2,q3,q4,q5⟩:=zag Ko.out
      refine shK hK _ _ ⟨t0,t1,t2,t3,t4,t5,t6,t7,q0,q1,q2,q3,q4,q5⟩ (fun _=>?_)
      clear t0 t1 t2 t3 t4 t5 t6 t7 q0 q1 q2 q3 q4 q5;refine tkN 4 ?_;refine wdD ?_;go_wp2_with fail
      refine bodyPost_ret (zmX _ _ w.heap.size (w.heap.size+1) _ _ _ rfl rfl rfl Kv.out Kk.out rfl rfl) rfl ?_
      subst hR
      exact ⟨_,_,rfl,zaf Ki.out Ht.out.size,zaf Kn.out K1.out.size,Hj.out⟩
theorem mcTRighta0 {P:Prop} (h:P:=by
 gi_wp2_with (first | (refine ⟨trivial,?_⟩;gi_at_call 154;refine (callsIn_wd.2 (zdV t.s _)).mono ?_;rintro e w1 ⟨rfl,H5⟩;have H9:=HB.out.ext H5;obtain ⟨p0,p1,p2,p3,p4,p5,p6,p7⟩:=zib H9) | (refine ⟨trivial,?_⟩;gi_at_call 153;(first | refine (callsIn_wd.2 (zcl _)).mono ?_ | refine (callsIn_wd.2 (zeR (by omega) _)).mono ?_);rintro e w2 ⟨he,rfl⟩;obtain rfl:e=.panicked (zec 2):=he) | (refine ⟨trivial,?_⟩))
 exact ⟨rfl,xT HX.out H5⟩):P:=h
theorem mcTRighta1 {P:Prop} (h:P:=by
 gi_wp2_with (first | (refine ⟨trivial,?_⟩;gi_at_call 153;refine (callsIn_wd.2 (zcl _)).mono ?_;rintro e w2 ⟨he,rfl⟩;obtain rfl:e=.panicked (zec 2):=he))
 exact ⟨rfl,Ky.out⟩):P:=h
theorem zdY (w:World):Calls N 153 #[.bool true] w fun en w'=>en=.returned (.tuple #[])∧w=w':=by
 go_enter Tryz.func153,Tryz.ntmps153
 go_wp2
 go_end0
 exact ⟨rfl,rfl⟩
theorem zcl (w:World):Calls N 153 #[.bool false] w fun en w'=>en=pan 2∧w=w':=by
 go_enter Tryz.func153,Tryz.ntmps153
 go_wp2
 exact ⟨rfl,rfl,rfl⟩
theorem zeR {p:Prop} {inst:Decidable p} (h:¬ p) (w:World):Calls N 153 #[.bool (@decide p inst)] w fun en w'=>en=pan 2∧w=w':=by
 rw[decide_eq_false h]
 exact zcl w
theorem zqe (p:Addr) (y:Value) (e:Int) (older:List PanicEntry) (w:World) (hc:w.cell? p=L y) (hz:w.frozen? p=false) :
  CallsD N 152 #[Q (some p)] (.panicking ({ v:=.iface 45 (C F e),recovered:=false }::older)) w fun en u' w' =>
   en=.returned (.tuple #[])∧u'=.panicking ({ v:=.iface 45 (C F e),recovered:=true }::older)∧w'=w.setCell p (C F e):=by
 refine callsD_of_wpS Tryz.func152 rfl fun c₀ cs hu=>?_
 have h1:=zmU e
 apply wpS_seq
 apply wpS_region
 simp[wpOpsS,go_sem,recoverD,hu,Tryz.ntmps152,Exit.thenS,h1]
 apply wpS_seq
 apply wpS_region
 simp[wpOpsS,go_sem,Exit.thenS,P2]
 refine wpS_cond (t:=true) (by simp[Act.eval,P2]) ?_
 simp only[if_true]
 apply wpS_region
 simp[wpOpsS,go_sem,hc,hz,bodyPostS,results,Tryz.results152,P2]
theorem ziY (p:Addr) (w:World) :
  CallsD N 152 #[Q (some p)] .returning w fun en u' w'=>en=.returned (.tuple #[])∧u'=.returning∧w'=w:=by
 refine callsD_of_wpS Tryz.func152 rfl fun c₀ cs hu=>?_
 have h1:=zrM
 apply wpS_seq
 apply wpS_region
 simp[wpOpsS,go_sem,recoverD,hu,Tryz.ntmps152,Exit.thenS,h1]
 apply wpS_seq
 apply wpS_region
 simp[wpOpsS,go_sem,Exit.thenS,P2]
 refine wpS_cond (t:=false) (by simp[Act.eval,P2]) ?_
 simp only[Bool.false_eq_true,if_false]
 refine wpS_of_wp ?_
 cases c₀
 simp_all [wp_skip,bodyPostS,results,Tryz.results152]
theorem zmY (cs:Array Value) (hs:cs.size=8) (w:World):Calls N 155 #[.agg cs] w fun e w'=>e=.returned (.func (.func 208) #[] #[Q (L ⟨w.heap.size,0,I⟩)])∧w.alloc (O cs 44)=w':=by
 obtain ⟨a0,a1,a2,a3,a4,a5,a6,a7,rfl⟩:∃ a0 a1 a2 a3 a4 a5 a6 a7,cs = #[a0,a1,a2,a3,a4,a5,a6,a7]:=by
  obtain ⟨l⟩:=cs
  match l,hs with
  | [a0,a1,a2,a3,a4,a5,a6,a7],_=>exact ⟨_,_,_,_,_,_,_,_,rfl⟩
 go_enter Tryz.func155,Tryz.ntmps155
 go_wp2
 go_ret
 exact ⟨rfl,rfl⟩
attribute [local go_sem] P8 in
theorem zlr (wo W0:World) (t:Tup) (v:Value) (hE:Es wo v t.log) (HW:t.log.length≤4000000) (hH:Hold wo W0) (B bo:Nat) (hB:Blk W0 B 44 (zbK t v)) (GN:B≠bo) (h1:wo.heap.size≤bo) :
  zoR N 208 #[Q (L ⟨B,0,I⟩)] (fun (x:Ent) av _=>∃ n,av = #[C F n,x.val]) (fun k o=>k≠bo∧o.isCells=true) (fun _ _=>False) t.log none W0:=by
 intro l J Jx Jp hJ ha h9 hY h0;obtain ⟨A,c,rfl,H9,HQ⟩:=xO hE
 refine (callsIn_wd (ro:=none) (n:=9)).1 ?_
 refine callsIn_of_wp Tryz.func208 rfl trivial ?_ rfl
 simp only[Tryz.ntmps208,Pa,xC,Pe,Ph,Pg,P4,P3,Pb,P9,xI,Pd];have GH:=H hE;clear hE;obtain ⟨s,all,tm,vt⟩:=t
 dsimp only at *
 have c5:W0.cell? ⟨B,5,I⟩=L (G A all.length c):=hB.cell 5 rfl
 have HB:=H hB;clear hB
 gi_wp2
 clear c5
 gi_loopw [8] (fun j W=>∃ k:Nat,j=C F k∧k≤all.length∧Hid (J (all.take k) W)∧Hold wo W∧Hid (Blk W B 44 (zbK ⟨s,all,tm,vt⟩ (G A all.length c)))∧W0.heap.size≤W.heap.size) (fun j _=>all.length+1-(intOf j).toNat)
 case atStart=>exact ⟨0,rfl,by omega,h0,hH,HB,xN _⟩
 case round =>
  clear HB;obtain ⟨k,rfl,ht,HJ,HH,HB,KP⟩:=hrel
  by_cases hlt:k<all.length
  ·obtain ⟨_,b,GZ,rfl,hc⟩:=Es.at_ (GH.out.keep HH) (by omega)
   obtain ⟨k0,k1,k2⟩:=hc k hlt
   have Ge:all.take (k+1)=all.take k++[all[k]]:=List.take_succ_eq_append_getElem hlt
   have Gc:all=all.take k++all[k]::all.drop (k+1):=by rw[←List.drop_eq_getElem_cons hlt,List.take_append_drop]
   have GJ:=H hY;have GF:=H Ge;have JS:=H Gc;clear hc hY Ge Gc
   generalize all[k]=x at *
   have He:Ext wr (wr.alloc (O #[C F x.t,C F x.k,C F x.v] 54)):=xA (xR _) _
   have G3:=hJ _ wr (wr.alloc (O #[C F x.t,C F x.k,C F x.v] 54)) HJ.out (Moves.refl.alloc _);have K0:=Pi KP He.size;have Hk:=HB.out.ext He
   have G2:Hold wo (wr.alloc (O #[C F x.t,C F x.k,C F x.v] 54)):=fun q u hq=>P7 He (HH q u hq)
   have hy:=fun n=>GJ.out _ x _ JS.out _ #[C F n,x.val] G3 K0 ⟨n,rfl⟩
   have Hy:=H hy;have Gp:=H G2;have Ha:=P5 wr 54 #[C F x.t,C F x.k,C F x.v];obtain ⟨g0,g1,g2⟩:=zdI Ha
   have c0:(wr.alloc (O #[C F x.t,C F x.k,C F x.v] 54)).cell? ⟨B,0,I⟩=L (C F s.idx):=Hk.cell 0 rfl
   have Hw:=H Hk;clear hy G3 G2 He Ha Hk
   gi_wp2
   refine zlt (Hy.out _) ?_
   rintro e W' (⟨hk',⟨rfl,hj⟩ | ⟨rfl,hj⟩⟩ | ⟨cc,rfl,hj⟩)
   ·refine .inl ⟨true,rfl,?_⟩
    have d1:Blk W' B 44 (zbK ⟨s,all,tm,vt⟩ (G (L ⟨b,GZ,I⟩) all.length c)):=hk'.same _ _ Hw.out (.inl ⟨GN,rfl⟩)
    have GU:W0.heap.size≤W'.heap.size:=Pi K0 hk'.size
    have Gq:=H (Hold.keptK Gp.out (fun _ _ hk ho=>⟨by omega,ho⟩) hk')
    have Kh:=H hj;have Gk:=H d1;clear hj hk' g0 g1 g2 c0 k0 k1 k2 d1
    gi_wp2
    exact ⟨⟨k+1,by go_num,by omega,by rw[GF.out];exact Kh.out,Gq.out,Gk,GU⟩,by simp[intOf];omega⟩
   ·refine .inl ⟨false,rfl,?_⟩
    have Kh:=H hj;clear hj hk' g0 g1 g2 c0 k0 k1 k2
    gi_wp2
    refine bodyPost_ret (results_none rfl _ _ _) rfl ?_
    refine .inr (.inr (.inl ⟨⟨_,rfl⟩,all.take k++[x],⟨all.drop (k+1),?_⟩,Kh.out⟩))
    rw[List.append_assoc]
    exact JS.out.symm
   ·refine .inr ⟨cc,rfl,?_⟩
    exact ⟨rfl,.inr (.inr (.inr ⟨cc,rfl,hj⟩))⟩
  ·obtain rfl:k=all.length:=by omega
   have hj:=HJ.out;rw[Pc] at hj;have HJ:=H hj;clear hY hj
   gi_wp2
   refine bodyPost_end (results_none rfl _ _ _) rfl ?_
   exact .inl ⟨trivial,⟨_,rfl⟩,HJ.out⟩
def zgT (t:Tup):Ending:=if zbf t then .returned (.tuple #[]) else pan 2
theorem zib {W:World} {b:Nat} {ty:TypeId} {t:Tup} {v:Value} (h:Blk W b ty (zbK t v)):W.cell? ⟨b,0,I⟩=L (C F t.s.idx)∧W.cell? ⟨b,1,I⟩=L (C F t.s.term)∧W.cell? ⟨b,2,I⟩=L (C F t.s.sum)∧W.cell? ⟨b,3,I⟩=L (C F t.s.lvl)∧W.cell? ⟨b,4,I⟩=L (T t.s.fin)∧W.cell? ⟨b,5,I⟩=L v∧W.cell? ⟨b,6,I⟩=L (C F t.term)∧W.cell? ⟨b,7,I⟩=L (C F t.vote):=zaQ h
structure CkI (w:World) (bl:Nat) (t:Tup) (v:Value) (Hi:List Ent) (W:World):Prop where
 bx:Blk W w.heap.size 44 (zbK t v)
 la:∃ c,Boxed W bl 3 (C F c)∧goT t.s.term t.log=goT c (t.log.drop Hi.length)
 e:Ext w W
theorem zq9:∀ (l:List Ent) (c x:Int),goT c l=L x→c≤x
 | [],c,x,h=>by unfold goT at h;cases h;exact Int.le_refl _
 | e::l,c,x,h=>by
  unfold goT at h
  split at h
  ·rename_i hc
   have:=zq9 l _ _ h
   simp at hc
   omega
  ·cases h
theorem zmt {P:Program} {n:Nat} {fn:Func} {tmps:Array Value} {R:Ending→World→Prop} {D:Nat} {W:World} {c:List PanicEntry} (hK:W.heap[D]?=L (.deferred (some []))) (hR:R (.panicked c) (W.putObj D (.deferred none))) :
  bodyPostM (Wd none) n P fn R (.panic c) ⟨tmps,[{ target:=.collected D,args:=#[] }]⟩ W :=
 ⟨by simp,.inl ⟨_,_,rfl,run_takeDeferred hK,hR⟩⟩
def zec (e:Int):List PanicEntry:=[{ v:=.iface 45 (C F e),recovered:=false }]
theorem zfs {t:Tup} (h:zbf t=false):zgT t=pan 2:=by unfold zgT;rw[h];rfl
theorem zin {t:Tup} (h:zbf t=true):zgT t=.returned (.tuple #[]):=by unfold zgT;rw[h];rfl
attribute [local go_sem] P8 in
theorem zkD (t:Tup) (v:Value) (w:World) (hE:Es w v t.log) (HW:t.log.length≤4000000) :
  Calls N 88 #[.agg (zbK t v)] w fun en w'=>en=zgT t∧Ext w w':=by
 obtain ⟨A,c,rfl,H9,HQ⟩:=xO hE;obtain ⟨E,KD⟩:∃ E,zgT t=E:=⟨_,rfl⟩;rw[KD];have Hu:=H KD;have HE:=H hE;clear KD hE
 refine (callsIn_wd (ro:=none) (n:=9)).1 ?_
 refine zjz Tryz.func88 rfl ?_
 simp only[Tryz.ntmps88,Pa,xC,Pe,Ph,Pg,P4,P3,Pb,P9,xI,Pd]
 have Hf:Blk _ w.heap.size 44 (zbK t (G A t.log.length c)):=P5 w 44 (zbK t (G A t.log.length c))
 have hX:Ext w (w.alloc (O (zbK t (G A t.log.length c)) 44)):=xA (xR _) _
 obtain ⟨m0,m1,m2,m3,m4,m5,m6,m7⟩:=zib Hf;have HX:=H hX;have HB:=H Hf;clear Hf hX
 have HT:zb5 t=false→pan 2=E:=fun h=>by rw[←Hu.out];exact (zfs (by unfold zbf;rw[h];rfl)).symm
 have H4:=H HT;clear HT
 unfold zbK at *
 refine zez (zfj (n:=9) ?_)
 gi_wp2
 refine zez (zfj (n:=9) ?_)
 by_cases h1:t.s.ok=true
 case neg =>
  obtain rfl:=H4.out (by unfold zb5;simp[h1])
  have h1:t.s.ok=false:=by simpa using h1
  exact mcTRighta0
 by_cases h2:t.s.idx≤1073740824
 case neg =>
  obtain rfl:=H4.out (by unfold zb5;simp[h2])
  exact mcTRighta0
 by_cases h3:(t.log.length:Int)≤200
 case neg =>
  obtain rfl:=H4.out (by unfold zb5;simp;omega)
  have G1:¬ (t.log.length≤200):=by omega
  exact mcTRighta0
 gi_wp2_with (first | (refine ⟨trivial,?_⟩;gi_at_call 154;refine (callsIn_wd.2 (zdV t.s _)).mono ?_;rintro e w1 ⟨rfl,H5⟩;have H9:=HB.out.ext H5;obtain ⟨p0,p1,p2,p3,p4,p5,p6,p7⟩:=zib H9) | (refine ⟨trivial,?_⟩;gi_at_call 153;refine (callsIn_wd.2 (zdY _)).mono ?_;rintro e w2 ⟨rfl,rfl⟩))
 have G4:=xT HX.out H5;have Ky:=H G4;have Hw:=H H9;have HL:=H h3;clear m0 m1 m2 m3 m4 m5 m6 m7 H5 H9 HX HB G4
 refine zez (zfj (n:=9) ?_)
 by_cases h4:0≤t.vote
 case neg =>
  obtain rfl:=H4.out (by unfold zb5;simp[h4])
  exact mcTRighta1
 by_cases h5:t.vote≤5
 case neg =>
  obtain rfl:=H4.out (by unfold zb5;simp[h5])
  exact mcTRighta1
 have Hh:zb5 t=true:=by unfold zb5;simp[h1,h2,h4,h5];omega
 have KO:zbf t=(match goT t.s.term t.log with | none=>false | some x=>decide (x≤t.term)&&decide (0≤t.term)&&decide (t.term≤1073741824)):=by unfold zbf;rw[Hh,Bool.true_and];cases goT t.s.term t.log <;> rfl
 have Gd:0≤t.s.term:=by have:=(Sta.okP h1).2.1;unfold zaD at this;simp at this;exact this.1
 by_cases h6:t.term≤1073741824
 case neg =>
  obtain rfl:pan 2=E:=by
   rw[←Hu.out]
   refine (zfs ?_).symm
   rw[KO]
   cases goT t.s.term t.log <;> simp[h6]
  exact mcTRighta1
 gi_wp2_with (first | (refine ⟨trivial,?_⟩;gi_at_call 153;refine (callsIn_wd.2 (zdY _)).mono ?_;rintro e w2 ⟨rfl,rfl⟩))
 have K6:=H KO;have GD:=H Gd;have H6:=H h6;clear h1 h2 h3 h4 h5 h6 Hh H4 KO Gd
 refine zez (zfj (n:=9) ?_)
 gi_wp2
 have KJ:Ext w1 (w1.alloc (O #[C F t.s.term] 3)):=xA (xR _) _
 have Hg:=Boxed.new w1 3 (C F t.s.term)
 have GQ:w.heap.size<w1.heap.size:=Hw.out.lt
 have Gj:=H Hg;have GG:=H (xT Ky.out KJ);have JI:=H (Hw.out.ext KJ)
 have GX:w1.heap.size<(w1.alloc (O #[C F t.s.term] 3)).heap.size:=by simp
 clear p0 p1 p2 p3 p4 p5 p6 p7 KJ Hg Ky Hw;obtain ⟨p0,p1,p2,p3,p4,p5,p6,p7⟩:=zib JI.out
 refine zez (zez (zfj (n:=9) ?_))
 generalize w1.alloc (O #[C F t.s.term] 3)=w3 at *
 gi_wp2_with (refine ⟨trivial,?_⟩;gi_at_call 155;refine (callsIn_wd.2 (zmY _ rfl _)).mono ?_;rintro e w4 ⟨rfl,KT⟩)
 have H7:Ext w3 w4:=by rw[←KT];exact xA (xR _) _
 have KC:Blk w4 w3.heap.size 44 (zbK t (G A t.log.length c)):=by rw[←KT];exact P5 w3 _ _
 have h0:CkI w w1.heap.size t (G A t.log.length c) [] w4:=⟨JI.out.ext H7,⟨t.s.term,Gj.out.kept (row:=none) (P6 H7 none) (by simp),rfl⟩,xT GG.out H7⟩
 have GR:w3.heap.size<w4.heap.size:=KC.lt
 have hA:w.heap.size≤w4.heap.size:=h0.e.size
 have Gi:=H KC;clear KT KC p0 p1 p2 p3 p4 p5 p6 p7
 have GV:Hid (∀ W1,Below w4.heap.size w4 W1→zoR N 208 #[Q (L ⟨w3.heap.size,0,I⟩)] (fun (x:Ent) av _=>∃ n,av = #[C F n,x.val]) (fun k o=>k≠w1.heap.size∧o.isCells=true) (fun _ _=>False) t.log none W1):=fun W1 hb=>zlr w W1 t (G A t.log.length c) HE.out HW (fun q u hq=>P7 (xT h0.e hb) hq) w3.heap.size w1.heap.size (Gi.out.ext hb) (by omega) (by omega)
 refine zqk ?_
 refine zrZ (n:=9) (Rp:=fun (x:Ent) av _=>∃ n,av = #[C F n,x.val]) (K:=fun k o=>k≠w1.heap.size∧o.isCells=true) (M:=fun _ _=>False) (xs:=t.log) (pn:=none) (gf:=208) (lb:=#[Q (L ⟨w3.heap.size,0,I⟩)]) ?hf0 (a:=⟨_,_⟩) ?hg ?eg ?hseq ?h1 ?h2 ?h3 (CkI w w1.heap.size t (G A t.log.length c)) (fun _ _ _=>False) (fun c W=>c=zec 2∧pan 2=E∧Ext w W) ?hI (fun _ _ _ _ h _=>h) ?hIp h0
  (fun x a' W=>∃ (nb:Nat) (u0 u3 u5 u6 u7 u8 u9 KU KV KW KX KY KZ J0 J1 J2 J3 J4 J5 J6 J7 J8 J9 Ja Jb Jc Jd Je Jf Jg Jh Ji Jj Jk Jl Jm Jn Jo Jq Jr Js Jt Ju Jv Jw Jy Jz JA JB JC JD JE JF JG JH:Value),a'=⟨#[u0,Q (L ⟨w.heap.size,0,I⟩),Q (L ⟨w1.heap.size,0,I⟩),u3,Q (L ⟨nb,0,I⟩),u5,u6,u7,u8,u9,KU,KV,KW,KX,KY,KZ,J0,J1,J2,J3,J4,J5,J6,J7,J8,J9,Ja,Jb,Jc,Jd,Je,Jf,Jg,Jh,Ji,Jj,Jk,Jl,Jm,Jn,Jo,Jq,Jr,Js,Jt,Ju,Jv,Jw,Jy,Jz,JA,JB,JC,JD,JE,JF,JG,JH],[]⟩∧Blk W nb 54 #[C F x.t,C F x.k,C F x.v])
  ?hAx ?assign ?body ?done ?pan ?pan2 ?stop
 case hf0=>exact ⟨_,Tryz.func88⟩
 case hg=>exact rfl
 case eg=>exact enters_of Tryz.func208 (by kernel_rfl) rfl
 case hseq=>exact fun W1 hb hs=>GV.out W1 hb
 case h1=>exact fun k o h=>h.elim
 case h2=>exact fun k o h r e=>by rw[e] at h;cases h.2
 case h3=>exact fun x av W h=>by obtain ⟨n,rfl⟩:=h;rfl
 case hI =>
  rintro s X Y ⟨Ha,⟨cc,hb,hg⟩,hE⟩ hm
  refine ⟨hm.same _ _ Ha ?_,⟨cc,hm.boxed hb ?_,hg⟩,hm.belowOf hE ?_ (xN _)⟩
  ·rintro (h | h)
   ·exact h
   ·cases h.2
  ·rintro (h | h)
   ·exact h
   ·cases h.2
  ·rintro k o hk (h | h)
   ·exact h
   ·have:=h.1;omega
 case hIp =>
  rintro cc X Y ⟨rfl,h1,hE⟩ hm
  refine ⟨rfl,h1,hm.belowOf hE ?_ (xN _)⟩
  rintro k o hk (h | h)
  ·exact h
  ·have:=h.1;omega
 case hAx =>
  rintro x a' X Y ⟨nb,u0,u3,u5,u6,u7,u8,u9,KU,KV,KW,KX,KY,KZ,J0,J1,J2,J3,J4,J5,J6,J7,J8,J9,Ja,Jb,Jc,Jd,Je,Jf,Jg,Jh,Ji,Jj,Jk,Jl,Jm,Jn,Jo,Jq,Jr,Js,Jt,Ju,Jv,Jw,Jy,Jz,JA,JB,JC,JD,JE,JF,JG,JH,rfl,hb⟩ hm
  refine ⟨nb,_,_,_,_,_,_,_,_,_,_,_,_,_,_,_,_,_,_,_,_,_,_,_,_,_,_,_,_,_,_,_,_,_,_,_,_,_,_,_,_,_,_,_,_,_,_,_,_,_,_,_,_,_,_,_,rfl,hm.same _ _ hb ?_⟩
  rintro (h | h)
  ·exact h
  ·cases h.2
 case assign =>
  rintro l' Hi x H8 W av K' hx ⟨Ha,⟨cc,hb,hg⟩,hE⟩ KP ⟨n,rfl⟩ hK;clear hx
  unfold Ent.val at *
  gi_wp2
  have He:Ext W (W.alloc (O #[C F x.t,C F x.k,C F x.v] 54)):=xA (xR _) _
  exact hK _ _ (Kept.refl.alloc _) ⟨Ha.ext He,⟨cc,hb.kept (row:=none) (P6 He none) (by simp),hg⟩,xT hE He⟩ ⟨_,_,_,_,_,_,_,_,_,_,_,_,_,_,_,_,_,_,_,_,_,_,_,_,_,_,_,_,_,_,_,_,_,_,_,_,_,_,_,_,_,_,_,_,_,_,_,_,_,_,_,_,_,_,_,_,rfl,P5 _ _ _⟩
 case body =>
  rintro l' Hi x H8 a' W hx hw hr ⟨Ha,⟨cc,hb,hg⟩,hE⟩ KP ⟨nb,u0,u3,u5,u6,u7,u8,u9,KU,KV,KW,KX,KY,KZ,J0,J1,J2,J3,J4,J5,J6,J7,J8,J9,Ja,Jb,Jc,Jd,Je,Jf,Jg,Jh,Ji,Jj,Jk,Jl,Jm,Jn,Jo,Jq,Jr,Js,Jt,Ju,Jv,Jw,Jy,Jz,JA,JB,JC,JD,JE,JF,JG,JH,rfl,Hn⟩
  have G6:t.log.drop Hi.length=x::H8:=by rw[hx,Pf]
  have HV:t.log.drop (Hi++[x]).length=H8:=by rw[hx,show Hi++x::H8=(Hi++[x])++H8 from by simp,Pf]
  rw[G6,goT] at hg;have HG:=H hg;have Gl:=H HV;obtain ⟨x0,x1,x2⟩:=zdI Hn;have cl:=hb.cell
  have H1:nb≠w1.heap.size:=by
   rintro rfl
   have h1:W.heap[w1.heap.size]?=L (Obj.cells #[C F x.t,C F x.k,C F x.v] 54 (0,0)):=Hn
   have h2:W.heap[w1.heap.size]?=L (Obj.cells #[C F cc] 3 (0,0)):=hb
   rw[h2] at h1
   simp at h1
  clear hg G6 HV hx hr
  cases ho:okB x.t x.k x.v with
  | false =>
   obtain rfl:pan 2=E:=by
    rw[←Hu.out]
    refine (zfs ?_).symm
    rw[K6.out,HG.out,ho];rfl
   gi_wp2_with (first | (refine ⟨trivial,?_⟩;gi_at_call 156;refine (callsIn_wd.2 (zfS x.t x.k x.v _)).mono ?_;rintro e w5 ⟨rfl,H0⟩;have H0:Ext W w5:=H0;have q5:=Hn.ext H0;have b5:=hb.kept (row:=none) (P6 H0 none) (by simp);obtain ⟨y0,y1,y2⟩:=zdI q5;have JZ:=b5.cell;have G0:=b5.frozen) | (refine ⟨trivial,?_⟩;gi_at_call 153;refine (callsIn_wd.2 (zcl _)).mono ?_;rintro e w2 ⟨he,rfl⟩;obtain rfl:e=.panicked (zec 2):=he))
   (refine ⟨rfl,Kept.refl.below H0 (xN _),?_⟩;first | exact ⟨rfl,rfl,xT hE H0⟩ | exact ⟨rfl,xT hE H0⟩)
  | true =>
   by_cases hle:cc≤x.t
   ·gi_wp2_with (first | (refine ⟨trivial,?_⟩;gi_at_call 156;refine (callsIn_wd.2 (zfS x.t x.k x.v _)).mono ?_;rintro e w5 ⟨rfl,H0⟩;have H0:Ext W w5:=H0;have q5:=Hn.ext H0;have b5:=hb.kept (row:=none) (P6 H0 none) (by simp);obtain ⟨y0,y1,y2⟩:=zdI q5;have JZ:=b5.cell;have G0:=b5.frozen) | (refine ⟨trivial,?_⟩;gi_at_call 153;refine (callsIn_wd.2 (zdY _)).mono ?_;rintro e w2 ⟨rfl,rfl⟩))
    have GP:Kept (zac (fun k o=>k≠w1.heap.size∧o.isCells=true) w4.heap.size) W w5:=Kept.refl.below H0 (xN _)
    refine ⟨GP.setCell (fun o _ _=>?_) _,?_⟩
    ·rintro (⟨h,_⟩ | ⟨h,_⟩)
     ·exact h rfl
     ·dsimp only at h;omega
    ·refine ⟨(Ha.ext H0).other (by omega) 0 _,⟨x.t,b5.set _,?_⟩,Below.setCell (p:=⟨w1.heap.size,0,I⟩) (xT hE H0) (by show w.heap.size≤w1.heap.size;omega) _⟩
     rw[HG.out,Gl.out,ho]
     simp[hle]
   ·obtain rfl:pan 2=E:=by
     rw[←Hu.out]
     refine (zfs ?_).symm
     rw[K6.out,HG.out,ho]
     simp[hle]
    gi_wp2_with (first | (refine ⟨trivial,?_⟩;gi_at_call 156;refine (callsIn_wd.2 (zfS x.t x.k x.v _)).mono ?_;rintro e w5 ⟨rfl,H0⟩;have H0:Ext W w5:=H0;have q5:=Hn.ext H0;have b5:=hb.kept (row:=none) (P6 H0 none) (by simp);obtain ⟨y0,y1,y2⟩:=zdI q5;have JZ:=b5.cell;have G0:=b5.frozen) | (refine ⟨trivial,?_⟩;gi_at_call 153;refine (callsIn_wd.2 (zeR (by omega) _)).mono ?_;rintro e w2 ⟨he,rfl⟩;obtain rfl:e=.panicked (zec 2):=he) | (refine ⟨trivial,?_⟩;gi_at_call 153;refine (callsIn_wd.2 (zcl _)).mono ?_;rintro e w2 ⟨he,rfl⟩;obtain rfl:e=.panicked (zec 2):=he))
    (refine ⟨rfl,Kept.refl.below H0 (xN _),?_⟩;first | exact ⟨rfl,rfl,xT hE H0⟩ | exact ⟨rfl,xT hE H0⟩)
 case done =>
  rintro D W _ hD ⟨Ha,⟨cc,hb,hg⟩,hE⟩ hK;rw[List.drop_length,goT] at hg;have cl:=hb.cell;obtain ⟨p0,p1,p2,p3,p4,p5,p6,p7⟩:=zib Ha
  have hh:t.s.term≤cc:=zq9 _ _ _ hg
  have Gf:w.heap.size≤D:=by omega
  have HG:=H hg
  refine zfj (n:=9) ?_
  by_cases hle:cc≤t.term
  ·obtain rfl:Ending.returned (.tuple #[])=E:=by
    rw[←Hu.out]
    refine (zin ?_).symm
    rw[K6.out,HG.out]
    have:=H6.out
    have:=GD.out
    simp
    omega
   gi_wp2_with (first | (refine ⟨trivial,?_⟩;gi_at_call 153;refine (callsIn_wd.2 (zdY _)).mono ?_;rintro e w2 ⟨rfl,rfl⟩))
   exact zi5 hK (.tuple #[]) (results_none rfl _ _ _) ⟨rfl,zaN hE Gf _⟩
  ·obtain rfl:pan 2=E:=by
    rw[←Hu.out]
    refine (zfs ?_).symm
    rw[K6.out,HG.out]
    simp[hle]
   have Gv:=H hle;clear hle
   gi_wp2_with (first | (refine ⟨trivial,?_⟩;gi_at_call 153;refine (callsIn_wd.2 (zeR Gv.out _)).mono ?_;rintro e w2 ⟨he,rfl⟩;obtain rfl:e=.panicked (zec 2):=he) | (refine ⟨trivial,?_⟩;gi_at_call 153;refine (callsIn_wd.2 (zcl _)).mono ?_;rintro e w2 ⟨he,rfl⟩;obtain rfl:e=.panicked (zec 2):=he))
   refine zmt (R:=fun en w'=>en=pan 2∧Ext w w') (c:=zec 2) hK ?_
   exact ⟨rfl,zaN hE Gf _⟩
 case pan =>
  rintro D c' W h
  cases h
 case pan2 =>
  rintro D c' W hD ⟨rfl,rfl,hE⟩ hK
  refine zmt (R:=fun en w'=>en=pan 2∧Ext w w') (c:=zec 2) hK ?_
  exact ⟨rfl,zaN hE (by omega) _⟩
 case stop =>
  rintro D cd Hi W _ _ h _
  exact h.elim
open Go.RowKit Go.Mv Go.Shelf
attribute [local go_sem] P8
theorem zjQ {W:World} {base:Nat} {e:TypeId} {size:Nat} {v:Value} {n:Nat} {xs:List Value} (h:W.ownsRow base e size v n xs) {D:Nat} {o:Obj} (hD:W.heap[D]?=L o) (hc:o.isCells=false) (o':Obj):(W.putObj D o').ownsRow base e size v n xs:=by
 refine ⟨h.1,?_⟩
 rcases h.2 with hn | ⟨g,cap,cur,hv,hb,hg,rest⟩
 ·exact .inl hn
 ·exact .inr ⟨g,cap,cur,hv,hb,zjw (W:=W) (b:=g) (t:=e) (cs:=cur) hg hD hc o',rest⟩
/-! Names -/
/-! Files -/
theorem znp (f:Fil) (fs:List Fil) (n:List UInt8):zbc (f::fs) (some n)=if f.1=n then some f.2 else zbc fs (some n):=by
 unfold zbc zc5 za4;simp only[List.findIdx?_cons]
 by_cases h:f.1=n
 ·simp[h]
 ·have hb:(f.1==n)=false:=by simpa using h
  rw[if_neg h,hb];simp only[Bool.false_eq_true,if_false]
  cases hi:fs.findIdx? (fun f=>f.1==n) with
  | none=>simp
  | some i =>
   simp only[Option.map_some];rw[if_neg (by omega),if_neg (by omega)]
   have e1:((i+1:Nat):Int).toNat=i+1:=by omega
   have e2:((i:Nat):Int).toNat=i:=by omega
   rw[e1,e2,List.getElem?_cons_succ]
/-! Manifests -/
/-! Segments -/
/-! A step -/
/-! What a shadow says -/
theorem zq7 (W:World):Fs W (G none 0 0) []:=⟨[],SlR.nil W 2,fun i hi=>absurd hi (by simp)⟩
end Go.Proofs.YteggfecbjgbndaaGreatDoor
