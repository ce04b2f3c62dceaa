/- Merged -/
import Derived.Test.YteggfecbjgbndaaGreatDoorZw37
set_option linter.all false
set_option maxHeartbeats 8000000
set_option maxRecDepth 100000
open Go.Value renaming int→C,slice→F,pointer→L,bool→O,agg→V
open Go.IntKind renaming i64→E
open Option renaming some→H,none→I
open Go.Mv renaming zhd→N
open Go.Proofs.Tryz renaming prog→Q
open Go.Obj renaming cells→R
open Go.World renaming drew→P0,ownsRow_nil→P1
open Go.Mv.Blk renaming new→P2
open Array renaming replicate_zero→P3,replicate_succ→P4,getElem?_eq_some_iff→P5
open List renaming append_toArray→P6,size_toArray→P7,push_toArray→P8,cons_append→P9,length_nil→Pa,length_drop→Pb
open And renaming intro→Pc
open Go.Oper renaming semAt_some→Pd
open Nat renaming reduceSub→Pe,reduceAdd→Pf,zero_le→Pg
open Go.IntKind renaming i64→Ph,signed→Pi,wrap→Pj,bits→Pk,wrap_i64→Pl
namespace Go.Proofs.YteggfecbjgbndaaGreatDoor
open Go.RowKit Go.Mv Go.Shelf
theorem zvo (tmps:Array Value) (W:World) (b:Nat) (cs:Array Value) (u:Value) (h4:tmps.getD 2 undef=L (H ⟨b,0,I⟩)) (h5:tmps.getD 3 undef=u) (hb:Blk W b 30 cs) (hs:cs.size=6):(results Tryz.f34 tmps).run Q W=.ok (.tuple #[.agg cs,u]) W:=by
 have hl:=hb.load (P:=Q) zd2 rfl (by rw[hs];kernel_rfl)
 have Gr:tmps[2]?.getD undef=L (H ⟨b,0,I⟩):=by simpa using h4
 have Gs:tmps[3]?.getD undef=u:=by simpa using h5
 simp[results,Tryz.results34,Gr,Gs,asAddr,hl,Sem.run_bind,Sem.run_pure,Result.andThen_ok]
theorem zvn {W:World} {D:Nat} {o:Obj} (h:W.heap[D]?=H o) (hc:o.isCells=false) (b:Nat) (a v u x y z:Value):(zbB W b a v u x y z).heap[D]?=H o :=
 zaA (zaA (zaA (zaA (zaA (zaA h hc _ _) hc _ _) hc _ _) hc _ _) hc _ _) hc _ _
theorem zvp {f:Nat} (h:f≤60):Ph.wrap (6+4*(f:Int))=((6+4*f:Nat):Int):=by
 unfold Pj
 simp[Pk,Pi]
 omega
theorem zvq {f:Nat} (h:f≤60):Ph.wrap (4*(f:Int))=4*(f:Int):=by
 unfold Pj
 simp[Pk,Pi]
 omega
theorem ztU (W:World) (A:Option Addr) {n c:Nat} (hn:n=0) (hc:c≤9223372036854775807):Is W (F A n c) []:=by subst hn;exact ⟨rfl,A,c,rfl,Pg _,hc,fun h=>absurd h (Nat.lt_irrefl _)⟩
theorem ztg (W:World):Sgs W (F none 0 0) []:=⟨rfl,none,0,rfl,Pg _,by decide,fun h=>absurd h (Nat.lt_irrefl _)⟩
theorem znd (A:Option Addr) (n c:Nat) (w:World):Calls Q 80 #[F A n c,C E 4] w fun e w' =>
  e=.returned (.func (.func 149) #[] #[L (H ⟨w.heap.size,0,I⟩),L (H ⟨w.heap.size+1,0,I⟩)])∧Boxed w' w.heap.size 64 (F A n c)∧Boxed w' (w.heap.size+1) 3 (C E 4)∧Ext w w':=by
 refine (znc A n c w).mono ?_
 rintro e w' ⟨rfl,rfl⟩;have h2:=Boxed.new (w.alloc (R #[F A n c] 64)) 3 (C E 4);rw[xS] at h2
 exact ⟨rfl,(Boxed.new w _ _).alloc _,h2,xA (xA (xR _) _) _⟩
attribute [local go_sem] Pd in
theorem zoI (v:Value) (b p:List UInt8) (n0 n1 n2 n3 n4:Int) (f:Nat) (q3:List UInt8) (w:World) (hT:StW w) (hB:Bs w v b) (hl:b.length≤100000) (KF:4≤b.length) (Jl:za6 rT b=H p) (Jx:2≤p.length) (Jy:p.length≤100000) (hq:zap 6 [] (p.drop 1)=(0,[n0,n1,n2,n3,n4,(f:Int)],q3)) (hf:f=0) (H5:zbH ⟨n0,n1,n2,n3,n4,[]⟩=H b) :
  Calls Q 34 #[v] w (zjr w (H ⟨n0,n1,n2,n3,n4,[]⟩)):=by
 obtain ⟨A,c,rfl,GV,GW⟩:=xO hB
 have Ke:Ext w (w.alloc (R #[C E 0,C E 0,C E 0,C E 0,C E 0,F none 0 0] 30)):=xA (xR _) _
 have Ji:=P2 w 30 #[C E 0,C E 0,C E 0,C E 0,C E 0,F none 0 0];have KI:=zl0 (T:=rT) _ b _ (hB.ext Ke) (by omega) hl (hT.ext Ke).tab;rw[Jl] at KI
 have GZ:((p.length:Int)==0)=false:=by rw[beq_eq_false_iff_ne];omega
 have h7:(1:Int)≤(p.length:Int):=by omega
 have HI:f≤60:=by omega
 have Kr:=N (show 0<p.length by omega)
 have Gd:=N Jx;have J6:=N Jy;have JS:=N KI;have HT:=N hT;have HB:=N hB;have Gp:=N Ke;have KW:=N Ji;have HQ:=N hq
 have Ku:Hid (zap (6+4*f) [] (p.drop 1)=(0,[n0,n1,n2,n3,n4,(f:Int)],q3)):=by subst hf;exact hq
 have Kx:Hid ([n0,n1,n2,n3,n4,(f:Int)].length=6+4*f):=by subst hf;exact rfl
 have Ks:=N H5;have JY:=N hf;have KV:=N HI;have Gn:=N (zvp HI);clear Ke Ji hB hT KI Jl Jx Jy hq H5 hf
 refine (callsIn_wd (ro:=none) (n:=9)).1 ?_
 refine callsIn_of_wp_marks Tryz.func34 rfl trivial ?_ rfl
 simp only[Tryz.ntmps34,P7,xC,Pa,Pf,Pe,P4,P3,P8,P6,xI,P9]
 gi_wp2
 refine zcX 0 (fun _ _=>False) (fun a _=>0) rfl (fun l' h=>by cases l' <;> first | exact absurd rfl h | rfl) ?_ (fun _ _ h=>h.elim)
 ·intro K2
  clear K2;obtain ⟨ys,JI⟩:∃ y,[n0,n1,n2,n3,n4,(f:Int)]=y:=⟨_,rfl⟩;rw[JI] at Ku Kx;clear JI
  gi_wp2_with (first
    | (refine ⟨trivial,?_⟩;gi_at_call 78;refine (callsIn_wd.2 JS.out).mono ?_;rintro e w1 ⟨⟨A1,c1,rfl,K1⟩,Hd⟩;obtain ⟨HZ,b1,GE,rfl,Gv⟩:=Bs.at_ K1.bs Kr.out;clear HZ Gv;obtain ⟨_,_,e9,Gy,Gz⟩:=xO K1.bs;cases e9;have GX:¬ c1=1:=by (have:=Gd.out;omega))
    | (refine ⟨trivial,?_⟩;gi_at_call 79;refine (callsIn_wd.2 (zkC _ (p.drop 1) 6 (by decide) w1 (Bs.cut K1.bs 1 (by have:=Kr.out;omega) rfl) (by rw[Pb];have:=J6.out;omega))).mono ?_;rw[HQ.out];rintro e w2 ⟨vl,vr,rfl,Ho,GB,Hc⟩;have Ho:w2.ownsRow w1.heap.size 3 1 vl 6 ([n0,n1,n2,n3,n4,(f:Int)].map iv):=Ho;obtain ⟨A2,c2,rfl,Gw,Gx⟩:=xO (xW Ho);obtain ⟨HZ,b2,H1,rfl,Hn⟩:=SlR.at_ (xW Ho) (by decide);clear HZ;have KJ:w2.cell? ⟨b2,H1+5,I⟩=H (C E f):=Hn 5 _ rfl;have J2:Hid (w2.cell? ⟨b2,H1,I⟩=H (C E n0)∧w2.cell? ⟨b2,H1+1,I⟩=H (C E n1)∧w2.cell? ⟨b2,H1+2,I⟩=H (C E n2)∧w2.cell? ⟨b2,H1+3,I⟩=H (C E n3)∧w2.cell? ⟨b2,H1+4,I⟩=H (C E n4)):=⟨Hn 0 _ rfl,Hn 1 _ rfl,Hn 2 _ rfl,Hn 3 _ rfl,Hn 4 _ rfl⟩;clear Hn))
  have Kz:Ext w1 w2:=Hc
  have KN:=N Ho
  have Kg:w1.heap.size≤b2:=(zdF Ho rfl).1
  have GU:w.heap.size<w1.heap.size:=(KW.out.ext Hd).lt
  have JP:=N (Bs.cut K1.bs 1 (by have:=Kr.out;omega) rfl);have Kn:=N (xT Hd Hc);have Ko:=N Hc;clear Ho GB Hc Kz K1
  refine zcW (S:=fun W=>W.cell? ⟨b2,H1+5,I⟩=H (C E (f:Int))) (by kernel_rfl) KJ (fun _=>?_)
  have GD:=zvq KV.out;refine tkN 0 ?_;refine tkN 1 ?_;refine tkN 2 ?_;refine tkN 3 ?_;refine tkN 4 ?_;refine tkN 5 ?_;refine tkN 6 ?_;clear GD
  refine ar1 7 (fun K hK=>?_)
  go_simp
  rw[Gn.out]
  with_reducible refine (zkC _ (p.drop 1) (6+4*f) (by have:=KV.out;omega) _ ((JP.out.ext Ko.out).ext (xD (xR _))) (by rw[Pb];have:=J6.out;omega)).mono ?_
  rw[Ku.out];rintro e w3 ⟨GN,ht,rfl,H8,KO,Jc⟩;dsimp only
  have H8:w3.ownsRow w2.drew.heap.size 3 1 GN ys.length (ys.map iv):=H8
  have H4:=N (xT (xD (xR w2)) Jc);have HE:=N H8;obtain ⟨A3,c3,rfl,HU,HV⟩:=xO (xW H8);clear Jc H8 KO
  refine shK hK _ _ (H4.out.cell KJ) (fun _=>?_)
  refine tkN 8 ?_;refine tkN 9 ?_;refine tkN 10 ?_;refine tkN 11 ?_;refine tkN 12 ?_;refine tkN 13 ?_;refine wdD ?_
  refine ze4 ?_
  have Hx:=N (xT Kn.out H4.out);have He:=KW.out.ext Hx.out;have f0:=He.frozen 0;have f1:=He.frozen 1;have f2:=He.frozen 2;have f3:=He.frozen 3;have f4:=He.frozen 4;have f5:=He.frozen 5;obtain ⟨m0,m1,m2,m3,m4,m5⟩:=zag He;obtain ⟨l0,l1,l2,l3,l4⟩:=J2.out;have k0:=H4.out.cell l0;have k1:=H4.out.cell l1;have k2:=H4.out.cell l2;have k3:=H4.out.cell l3;have k4:=H4.out.cell l4;have K5:=N He;clear He l0 l1 l2 l3 l4 Ku KJ;clear f0 f1 f2 f3 f4 f5 m0 m1 m2 m3 m4 m5
  gi_wp2
  refine zcW (S:=fun W=>W.cell? ⟨b2,H1,I⟩=H (C E n0)∧W.cell? ⟨b2,H1+1,I⟩=H (C E n1)∧W.cell? ⟨b2,H1+2,I⟩=H (C E n2)∧W.cell? ⟨b2,H1+3,I⟩=H (C E n3)∧W.cell? ⟨b2,H1+4,I⟩=H (C E n4)) (by kernel_rfl) ⟨k0,k1,k2,k3,k4⟩ (fun _=>?_)
  refine tkN 0 ?_;refine tkN 1 ?_;refine tkN 2 ?_;refine tkN 3 ?_;refine tkN 4 ?_;refine tkN 5 ?_;refine tkN 6 ?_;refine tkN 7 ?_;refine tkN 8 ?_;refine tkN 9 ?_;refine tkN 10 ?_;refine tkN 11 ?_;refine tkN 12 ?_;refine tkN 13 ?_;refine tkN 14 ?_;refine tkN 15 ?_;refine tkN 16 ?_;have H3:=K5.out;have f0:=H3.frozen 0;have f1:=H3.frozen 1;have f2:=H3.frozen 2;have f3:=H3.frozen 3;have f4:=H3.frozen 4;have f5:=H3.frozen 5;obtain ⟨m0,m1,m2,m3,m4,m5⟩:=zag H3
  refine ar1 17 (fun K hK=>?_)
  go_simp
  have Hf:∀ k,((⟨b2,k,I⟩:Addr).block≠w.heap.size):=fun k=>by dsimp only;omega
  refine shK hK _ _ ⟨Ext.cell (xD (xR _)) (zeJ k0 (Hf _) _ _ _ _ _ _),Ext.cell (xD (xR _)) (zeJ k1 (Hf _) _ _ _ _ _ _),Ext.cell (xD (xR _)) (zeJ k2 (Hf _) _ _ _ _ _ _),Ext.cell (xD (xR _)) (zeJ k3 (Hf _) _ _ _ _ _ _),Ext.cell (xD (xR _)) (zeJ k4 (Hf _) _ _ _ _ _ _)⟩ (fun _=>?_)
  refine wdD ?_
  refine ze4 ?_
  have H7:Ext w (zbB w3 w.heap.size (C E n0) (C E n1) (C E n2) (C E n3) (C E n4) (F none 0 0)).drew:=xD (zbm (xT Gp.out Hx.out) (xN _) _ _ _ _ _ _)
  have Hm:Blk (zbB w3 w.heap.size (C E n0) (C E n1) (C E n2) (C E n3) (C E n4) (F none 0 0)).drew w.heap.size 30 #[C E n0,C E n1,C E n2,C E n3,C E n4,F none 0 0]:=(zbl K5.out (C E n0) (C E n1) (C E n2) (C E n3) (C E n4) (F none 0 0)).ext (xD (xR _))
  have Hp:(zbB w3 w.heap.size (C E n0) (C E n1) (C E n2) (C E n3) (C E n4) (F none 0 0)).drew.ownsRow w2.drew.heap.size 3 1 (F A3 ys.length c3) ys.length (ys.map iv):=zab (zcU K5.out (by decide:(30:TypeId)≠3) HE.out (C E n0) (C E n1) (C E n2) (C E n3) (C E n4) (F none 0 0)) (xD (xR _))
  obtain ⟨W4,Kd⟩:∃ W4,(zbB w3 w.heap.size (C E n0) (C E n1) (C E n2) (C E n3) (C E n4) (F none 0 0)).drew=W4:=⟨_,rfl⟩;rw[Kd] at H7 Hm Hp
  delta zbB at Kd
  rw[Kd]
  have JH:ys.length=6:=by have:=Kx.out;have:=JY.out;omega
  have KX:=N Hm;have JT:=N H7;have J5:=N Hp
  have ha:(6:Int)≤(ys.length:Int):=by omega
  have GO:=N HU;have Kl:=N HV;have Ja:=N JH;clear Kd f0 f1 f2 f3 f4 f5 m0 m1 m2 m3 m4 m5 k0 k1 k2 k3 k4 H3 Hf H7 Hm Hp JH K5 HE HU HV J2 KN Kx;obtain ⟨HZ,b3,GF,rfl,KH⟩:=SlR.at_ (xW J5.out) (by have:=Ja.out;omega);clear HZ KH J5
  rcases Nat.decEq c3 6 with hc6 | hc6
  all_goals
   gi_wp2_with (refine ⟨trivial,?_⟩;gi_at_call 80;refine (callsIn_wd.2 (znd _ _ _ _)).mono ?_;rintro e w5 ⟨rfl,q1,q2,Hc⟩)
   have Jj:=KX.out.ext Hc;have HK:=xT JT.out Hc
   have Jd:∀ X:World,∃ u,Is X u []∧Boxed w5 W4.heap.size 64 u:=fun X=>⟨_,ztU X _ (by have:=Ja.out;omega) (by have:=Kl.out;unfold maxLen at this;omega),q1⟩
   obtain ⟨u5,JE,q1⟩:=Jd w5
   have h9:w.heap.size<w5.heap.size:=Jj.lt
   have Ge:=N q1;have Gf:=N q2;have Gl:=N JE
   have GT:w.heap.size<W4.heap.size:=KX.out.lt
   clear q1 q2 Hc Jd JE
   refine zpm (fun T hT=>?_)
   refine zcy (a:=⟨T,[]⟩) (by subst hT;rfl) (enters_of Tryz.func149 (by kernel_rfl) rfl)
    (fun W1 hb hs=>znt w5 W1 _ [] Gl.out (by decide) W4.heap.size (W4.heap.size+1) (Ge.out.kept (row:=none) (Ext.grown hb none) (by simp)) (Gf.out.kept (row:=none) (Ext.grown hb none) (by simp)))
    (fun k o h=>h.elim) (fun k o h=>by rcases h with h | h <;> exact zce h.2) (fun x av W h=>by obtain ⟨_,_,rfl,_⟩:=h;rfl)
    (fun _ X=>Blk X w.heap.size 30 #[C E n0,C E n1,C E n2,C E n3,C E n4,F none 0 0]∧Ext w X) (fun _ _ _=>False) ?hI (fun _ _ _ _ h _=>h) ⟨Jj,HK⟩
    (fun _ _ _=>False) (fun _ _ _ _ h _=>h) ?assign ?body ?done (fun _ _ _ _ _ _ h _=>h.elim)
   case hI =>
    rintro s X Y ⟨hB,hE⟩ hm
    exact ⟨hm.blkF hB,hm.belowF hE (by omega)⟩
   case assign =>
    rintro l' JK e K4 W av K' hx
    simp at hx
   case body =>
    rintro l' JK x K4 a' W hx
    simp at hx
   case done =>
    rintro D W hD ⟨hB,hE⟩ hK;have H5:=zlK ⟨n0,n1,n2,n3,n4,[]⟩ (F none 0 0) W (ztg W) (HT.out.ext hE);rw[Ks.out] at H5;obtain ⟨s,hs⟩:∃ s,b=s:=⟨_,rfl⟩;rw[hs] at H5
    have GY:decide (b=s)=true:=by simpa using hs
    have Kt:=N H5;have J1:=N hK;have JR:=N hB;have KZ:=N hE;obtain ⟨m0,m1,m2,m3,m4,m5⟩:=zag hB;clear H5 hK hB hE hs;subst hT
    gi_wp2_with (first
    | (refine ⟨trivial,?_⟩;gi_at_call 60;refine (callsIn_wd.2 Kt.out).mono ?_;rintro e w6 ⟨⟨vs,rfl,GA⟩,Kb⟩;have b6:=JR.out.ext Kb;obtain ⟨hh,hi,hj,ho,hp,hr⟩:=zag b6;have f0:=b6.frozen 0;have f1:=b6.frozen 1;have f2:=b6.frozen 2;have f3:=b6.frozen 3;have f4:=b6.frozen 4;have f5:=b6.frozen 5;have Je:w6.heap[D]?=H (.deferred (some [])):=(Kb.block D (P5.1 J1.out).1).trans J1.out;have K9:=N Je;have JN:=N b6;have JU:=N Kb;clear b6 Je)
    | (refine ⟨trivial,?_⟩;gi_at_call 81;refine (callsIn_wd.2 (zem _ _ b s w6 (HB.out.ext (xT KZ.out Kb)) (xW GA))).mono ?_;rintro e w7 ⟨rfl,rfl⟩))
    refine za5 ?_
    have Jf:=zvn K9.out rfl w.heap.size (C E n0) (C E n1) (C E n2) (C E n3) (C E n4) (F none 0 0)
    exact zbO Jf (.tuple #[V #[C E n0,C E n1,C E n2,C E n3,C E n4,F none 0 0],C E 0]) (zvo _ _ _ _ (C E 0) rfl rfl (zjw (zbl JN.out (C E n0) (C E n1) (C E n2) (C E n3) (C E n4) (F none 0 0)) Jf rfl _) rfl) ⟨F none 0 0,rfl,P1 _ _ _ _,zaN (zbm (xT KZ.out JU.out) (xN _) _ _ _ _ _ _) (by omega) _⟩
open Go.RowKit Go.Mv
theorem ztG (A:Option Addr) (n c:Nat) (sq sf:Int) (h0:sq=0) (w:World):Calls Q 37 #[F A n c,V #[C E sq,C E sf]] w (zsc w (H ⟨0,0,0,1,false⟩)):=by
 subst h0;have Kg:=P2 (w.alloc (R #[C E 0,C E sf] 27)) 41 #[C E 0,C E 0,C E 0,C E 0,O false];rw[xS] at Kg
 have HX:=N (show Ext w ((w.alloc (R #[C E 0,C E sf] 27)).alloc (R #[C E 0,C E 0,C E 0,C E 0,O false] 41)) from xA (xA (xR _) _) _)
 go_enter Tryz.func37,Tryz.ntmps37
 go_wp2_with fail
 refine (zkv _).mono ?_
 rintro e w1 ⟨rfl,Hd⟩;have Ky:=N (Kg.ext Hd);have K7:=N (xT HX.out Hd);obtain ⟨f0,f1,f2,f3,f4⟩:=zbJ Ky.out;obtain ⟨g0,g1,g2,g3,g4⟩:=zaa Ky.out;clear Kg;go_wp2_with fail
 refine bodyPost_ret (zp2 _ _ _ _ rfl (za2 Ky.out _ _ _ _ _) rfl) rfl ?_
 exact ⟨rfl,za3 K7.out (by omega) _ _ _ _ _⟩
attribute [local go_sem] Pd in
theorem zsh (v:Value) (A:Option Addr) (c:Nat) (m:Mf) (pl pm:Nat) (Rp:Int×Ent→Array Value→World→Prop) (Gok:(Nat→Prop)→Prop) (W0:World) (Hl:Blk W0 pl 22 #[v]) (HJ:Blk W0 pm 30 #[C E m.next,C E m.term,C E m.vote,C E m.sq,C E m.sf,F A 0 c]) :
  zut Q 85 #[L (H ⟨pm,0,I⟩),L (H ⟨pl,0,I⟩)] Rp (fun _ _=>False) [] none Gok W0:=by
 intro lp J hJ Gu hY G0 Gt h0
 refine (callsIn_wd (ro:=none) (n:=9)).1 ?_
 refine callsIn_of_wp Tryz.func85 rfl trivial ?_ rfl
 simp only[Tryz.ntmps85,P7,xC,Pa,Pf,Pe,P4,P3,P8,P6,xI,P9];obtain ⟨_,_,_,_,_,m5⟩:=zag HJ;have J0:=N h0;clear hJ Gu hY Gt h0 Hl HJ
 gi_wp2
 gi_loopw [11] (fun GM W=>GM=C E 0∧Hid (J G0 [] W)) (fun _ _=>0)
 case atStart=>exact ⟨rfl,J0⟩
 case round =>
  clear J0 m5;obtain ⟨rfl,JZ⟩:=hrel
  gi_wp2
  refine bodyPost_end (results_none rfl _ _ _) rfl ?_
  exact ⟨G0,JZ.out,.inl ⟨trivial,_,rfl⟩⟩
attribute [local go_sem] Pd in
theorem zoM (v:Value) (fs:List Fil) (b:List UInt8) (m:Mf) (s:Sta) (hm:m.segs=[]) (JA:0≤s.idx) (JB:s.idx≤1073741824) (Jz:zbf ⟨s,[],m.term,m.vote⟩=true) (Jk:zbc fs (zaw 1 0 0)=H b) (hl:fs.length≤4000000)
  (Jg:∀ v1 W,StW W→Bs W v1 b→Calls Q 34 #[v1] W (zjr W (some m)))
  (Jh:∀ A n c W,Calls Q 37 #[F A n c,V #[C E m.sq,C E m.sf]] W (zsc W (some s)))
  (pl bt bm:Nat) (w:World) (hS:StW w) (hF:Fs w v fs) (h0:w.cell? ⟨pl,0,I⟩=H v)
  (hT:Blk w bt 44 (zbK zeU (F none 0 0))) (hM:Blk w bm 30 (mfC mf0 (F none 0 0))) (Hf:bt≠bm) :
  Calls Q 33 #[L (H ⟨pl,0,I⟩),L (H ⟨bt,0,I⟩),L (H ⟨bm,0,I⟩)] w (R1P ⟨0,⟨s,[],m.term,m.vote⟩,m⟩ bt bm w):=by
 obtain ⟨A,c,rfl,_,_⟩:=Fs.open_ hF;have key:=zjt (F A fs.length c) fs 1 0 0 42 w hS hF hl;rw[Jk] at key
 have HW:m.segs.length=0:=by rw[hm];rfl
 have HS:=N hS;have HT:=N hT;have HM:=N hM;have J4:=N Hf;have Jb:=N key;have H0:=N h0;have G7:=N Jg;have Gj:=N Jh;have Gg:=N Jz;have HD:=N hm;have G4:=N HW;have Hz:=N (Pc JA JB);clear hS hF hT hM Hf key hl Jg Jh Jz hm Jk JA JB HW
 refine (callsIn_wd (ro:=none) (n:=9)).1 ?_
 refine callsIn_of_wp_marks Tryz.func33 rfl trivial ?_ rfl
 simp only[Tryz.ntmps33,P7,xC,Pa,Pf,Pe,P4,P3,P8,P6,xI,P9]
 gi_wp2
 refine ⟨trivial,(callsIn_wd.2 Jb.out).mono ?_⟩
 rintro e w1 ⟨GC,Hd⟩;obtain ⟨v1,rfl,Hl⟩:=GC;have key:=G7.out v1 w1 (HS.out.ext Hd) Hl;have HH:=N key;have K7:=N Hd;clear key Hd Hl h0
 gi_wp2
 refine ⟨trivial,(callsIn_wd.2 HH.out).mono ?_⟩
 rintro e w2 ⟨vs,rfl,Hi,Hc⟩;have K8:=N (xT K7.out Hc)
 dsimp only[Option.isSome,Option.getD] at Hi ⊢
 have he:w.heap.size≤w2.heap.size:=K8.out.size
 rw[HD.out] at Hi;obtain ⟨B,d,rfl,_,_⟩:=(OwnS.sgs Hi).open_
 have Hi:OwnS w2 w1.heap.size (F B 0 d) []:=Hi
 have hn:=P2 w2 30 (mfC m (F B 0 d))
 have Kc:Ext w2 (w2.alloc (R (mfC m (F B 0 d)) 30)):=xA (xR _) _
 have GP:=N Hi;have Ha:=N (xT K8.out Kc);have Hy:=N (zab Hi Kc);have HN:=N hn;have Gm:=N K7.out.size;clear Hi hn HH Jb;unfold mfC at Ha Hy HN Kc
 gi_wp2
 refine ⟨trivial,(callsIn_wd.2 (zkj _ _)).mono ?_⟩
 rintro e w3 ⟨rfl,rfl⟩
 gi_wp2
 have Ka:=Ha.out.cell H0.out;obtain ⟨q0,q1,q2,q3,q4,q5⟩:=zag HN.out
 have key:=fun W (h:Ext (w2.alloc (R #[C E m.next,C E m.term,C E m.vote,C E m.sq,C E m.sf,F B 0 d] 30)) W)=>Gj.out A fs.length c W
 have H6:=N key;obtain ⟨wn,Hj⟩:∃ x,w2.alloc (R #[C E m.next,C E m.term,C E m.vote,C E m.sq,C E m.sf,F B 0 d] 30)=x:=⟨_,rfl⟩
 have JG:wn.heap.size=w2.heap.size+1:=by rw[←Hj,xS]
 rw[Hj] at Ka q0 q1 q2 q3 q4 q5
 have HN:Hid (Blk wn w2.heap.size 30 (mfC m (F B 0 d))):=by rw[←Hj];exact HN
 have Ha:Hid (Ext w wn):=by rw[←Hj];exact Ha
 have Hy:Hid (OwnS wn w1.heap.size (F B 0 d) []):=by rw[←Hj];exact Hy
 have H6:Hid (∀ W,Ext wn W→Calls Q 37 #[F A fs.length c,V #[C E m.sq,C E m.sf]] W (zsc W (some s))):=by rw[←Hj];exact H6
 rw[Hj];have GR:=N JG;clear Kc key JG Hj
 refine zm5 (fun a' w'=>a'.defers=[]∧a'.tmps.size=79∧a'.tmps.getD 0 undef=L (H ⟨pl,0,I⟩)∧a'.tmps.getD 1 undef=L (H ⟨bt,0,I⟩)∧a'.tmps.getD 2 undef=L (H ⟨bm,0,I⟩)∧a'.tmps.getD 3 undef=L (H ⟨w2.heap.size,0,I⟩)∧∃ (bx:Nat),a'.tmps.getD 5 undef=L (H ⟨bx,0,I⟩)∧wn.heap.size≤bx∧Blk w' bx 44 #[C E s.idx,C E s.term,C E s.sum,C E s.lvl,O s.fin,F none 0 0,C E m.term,C E m.vote]∧Ext wn w') ?_ ?_
 ·refine zht [] (fun _ _=>False) (fun _ _ _ _ h=>h.elim) (S:=fun W=>W.cell? ⟨pl,0,I⟩=H (F A fs.length c)∧W.cell? ⟨w2.heap.size,1,I⟩=H (C E m.term)∧W.cell? ⟨w2.heap.size,2,I⟩=H (C E m.vote)∧W.cell? ⟨w2.heap.size,3,I⟩=H (C E m.sq)∧W.cell? ⟨w2.heap.size,4,I⟩=H (C E m.sf)) (by kernel_rfl) ⟨Ka,q1,q2,q3,q4⟩ (fun _=>?_)
  have H9:∀ W,Ext wn W→W.cell? ⟨pl,0,I⟩=H (F A fs.length c)∧W.cell? ⟨w2.heap.size,1,I⟩=H (C E m.term)∧W.cell? ⟨w2.heap.size,2,I⟩=H (C E m.vote)∧W.cell? ⟨w2.heap.size,3,I⟩=H (C E m.sq)∧W.cell? ⟨w2.heap.size,4,I⟩=H (C E m.sf):=fun W h=>⟨h.cell Ka,h.cell q1,h.cell q2,h.cell q3,h.cell q4⟩
  have H2:=N H9;clear Ka q0 q1 q2 q3 q4 q5 H9;refine tkN 0 ?_;refine tkN 1 ?_;refine tkN 2 ?_;refine tkN 4 ?_;refine tkN 5 ?_;refine tkN 6 ?_;refine tkN 7 ?_
  refine AllReadyH.two (i:=3) (j:=9) rfl rfl (by kernel_rfl) (by rfl) (by rfl) (fun K hK=>?_) (fun K hK=>?_)
  ·go_simp
   refine (H6.out _ (xD (xR _))).mono ?_
   rintro e w4 ⟨h4,KA⟩;have H7:=xT (xD (xR wn)) KA
   obtain rfl:=h4
   refine shK hK _ _ (H2.out _ H7) (fun _=>?_)
   refine tkN 8 ?_
   refine ar1 9 (fun K hK=>?_)
   go_simp
   have KQ:=P2 w4 44 #[C E 0,C E 0,C E 0,C E 0,O false,F none 0 0,C E 0,C E 0]
   refine shK hK _ _ (H2.out _ (xA H7 _)) (fun _=>?_)
   obtain ⟨f0,f1,f2,f3,f4,f5,f6,f7⟩:=za9 KQ
   refine ar1 10 (fun K hK=>?_)
   go_simp
   have Hg:Hid (Blk (w4.alloc (R #[C E s.idx,C E s.term,C E s.sum,C E s.lvl,O s.fin,F none 0 0,C E m.term,C E m.vote] 44)) w4.heap.size 44 #[C E s.idx,C E s.term,C E s.sum,C E s.lvl,O s.fin,F none 0 0,C E m.term,C E m.vote]):=N (P2 w4 _ _)
   have Hb:=N (xA H7 (R #[C E s.idx,C E s.term,C E s.sum,C E s.lvl,O s.fin,F none 0 0,C E m.term,C E m.vote] 44))
   refine shK hK _ _ (H2.out _ Hb.out) (fun _=>?_)
   refine wdD ?_
   refine zg8 ⟨rfl,rfl,rfl,rfl,rfl,rfl,_,rfl,H7.size,Hg.out,Hb.out⟩
  ·go_simp
   have KQ:=(P2 wn 44 #[C E 0,C E 0,C E 0,C E 0,O false,F none 0 0,C E 0,C E 0]).ext (xD (xR _))
   have HK:Ext wn (wn.alloc (R #[C E 0,C E 0,C E 0,C E 0,O false,F none 0 0,C E 0,C E 0] 44)).drew:=xD (xA (xR _) _)
   refine shK hK _ _ (H2.out _ HK) (fun _=>?_)
   refine ar1 3 (fun K hK=>?_)
   go_simp
   refine (H6.out _ HK).mono ?_
   rintro e w4 ⟨h4,H7⟩;have E4:=xT HK H7
   obtain rfl:=h4
   refine shK hK _ _ (H2.out _ E4) (fun _=>?_)
   refine tkN 8 ?_;have KR:=KQ.ext H7;obtain ⟨f0,f1,f2,f3,f4,f5,f6,f7⟩:=za9 KR;obtain ⟨g0,g1,g2,g3,g4,g5,g6,g7⟩:=zaQ KR
   refine ar1 10 (fun K hK=>?_)
   go_simp
   have Hg:=N (zbY KR (C E s.idx) (C E s.term) (C E s.sum) (C E s.lvl) (O s.fin) (F none 0 0) (C E m.term) (C E m.vote));have Hb:=N (zbA E4 (xN _) (C E s.idx) (C E s.term) (C E s.sum) (C E s.lvl) (O s.fin) (F none 0 0) (C E m.term) (C E m.vote))
   refine shK hK _ _ (H2.out _ Hb.out) (fun _=>?_)
   refine wdD ?_
   refine zg8 ⟨rfl,rfl,rfl,rfl,rfl,rfl,_,rfl,xN _,Hg.out,Hb.out⟩
 ·rintro ⟨T2,df⟩ W5 ⟨hd,Hq,t0,t1,t2,t3,bx,t5,Hs,Hg,Hb⟩
  dsimp only at hd Hq t0 t1 t2 t3 t5;subst hd;have hT:=zdo 79 T2 Hq
  generalize hU:(fun i=>T2.getD i undef)=U at hT
  have g0:U 0=L (H ⟨pl,0,I⟩):=by rw[←hU];exact t0
  have g1:U 1=L (H ⟨bt,0,I⟩):=by rw[←hU];exact t1
  have g2:U 2=L (H ⟨bm,0,I⟩):=by rw[←hU];exact t2
  have g3:U 3=L (H ⟨w2.heap.size,0,I⟩):=by rw[←hU];exact t3
  have g5:U 5=L (H ⟨bx,0,I⟩):=by rw[←hU];exact t5
  have KE:T2 = #[L (H ⟨pl,0,I⟩),L (H ⟨bt,0,I⟩),L (H ⟨bm,0,I⟩),L (H ⟨w2.heap.size,0,I⟩),U 4,L (H ⟨bx,0,I⟩),U 6,U 7,U 8,U 9,U 10,U 11,U 12,U 13,U 14,U 15,U 16,U 17,U 18,U 19,U 20,U 21,U 22,U 23,U 24,U 25,U 26,U 27,U 28,U 29,U 30,U 31,U 32,U 33,U 34,U 35,U 36,U 37,U 38,U 39,U 40,U 41,U 42,U 43,U 44,U 45,U 46,U 47,U 48,U 49,U 50,U 51,U 52,U 53,U 54,U 55,U 56,U 57,U 58,U 59,U 60,U 61,U 62,U 63,U 64,U 65,U 66,U 67,U 68,U 69,U 70,U 71,U 72,U 73,U 74,U 75,U 76,U 77,U 78]:=by rw[hT];show (#[U 0,U 1,U 2,U 3,U 4,U 5,U 6,U 7,U 8,U 9,U 10,U 11,U 12,U 13,U 14,U 15,U 16,U 17,U 18,U 19,U 20,U 21,U 22,U 23,U 24,U 25,U 26,U 27,U 28,U 29,U 30,U 31,U 32,U 33,U 34,U 35,U 36,U 37,U 38,U 39,U 40,U 41,U 42,U 43,U 44,U 45,U 46,U 47,U 48,U 49,U 50,U 51,U 52,U 53,U 54,U 55,U 56,U 57,U 58,U 59,U 60,U 61,U 62,U 63,U 64,U 65,U 66,U 67,U 68,U 69,U 70,U 71,U 72,U 73,U 74,U 75,U 76,U 77,U 78]:Array Value)=_;rw[g0,g1,g2,g3,g5]
  clear hT hU Hq g0 t0 g1 t1 g2 t2 g3 t3 g5 t5;subst KE;obtain ⟨KT,KU⟩:=Hz.out
  have JF:wrap64 (s.idx+1)=s.idx+1:=by unfold wrap64;omega
  obtain ⟨p0,p1,p2,p3,p4,p5,p6,p7⟩:=zaQ Hg;have l5:=Hb.cell (Ha.out.cell H0.out)
  have KK:Blk W5 w2.heap.size 30 #[C E m.next,C E m.term,C E m.vote,C E m.sq,C E m.sf,F B 0 d]:=Blk.ext HN.out Hb
  obtain ⟨q0,q1,q2,q3,q4,q5⟩:=zag KK
  have HL:Ext W5 (W5.alloc (R #[C E (s.idx+1)] 3)):=xA (xR _) _
  have l6:=HL.cell l5;obtain ⟨GG,GH,GI,GJ,GK,GL⟩:=zag (KK.ext HL);have HO:=P2 W5 3 #[C E (s.idx+1)];have HP:=Hg.ext HL;have G5:=N Hg.lt;have J7:=N (xT Hb HL);have Hu:=N HO;have Hv:=N HP;have Hw:=N Hs;clear KK HL HO HP Hs H6 KT KU Hg Hb
  gi_wp2
  refine ⟨trivial,(callsIn_wd.2 (ztc _ _ _ _ m _)).mono ?_⟩
  rintro e w7 ⟨rfl,Ht⟩;unfold mfC at Ht
  have Kf:Ext (W5.alloc (R #[C E (s.idx+1)] 3)) w7:=by rw[←Ht];exact xA (xA (xR _) _) _
  have Hl:Blk w7 (W5.heap.size+1) 22 #[F A fs.length c]:=by
   rw[←Ht]
   have:=(P2 (W5.alloc (R #[C E (s.idx+1)] 3)) 22 #[F A fs.length c]).alloc (R #[C E m.next,C E m.term,C E m.vote,C E m.sq,C E m.sf,F B 0 d] 30)
   rwa [xS] at this
  have HJ:Blk w7 (W5.heap.size+1+1) 30 (mfC m (F B 0 d)):=by
   rw[←Ht]
   have:=P2 ((W5.alloc (R #[C E (s.idx+1)] 3)).alloc (R #[F A fs.length c] 22)) 30 (mfC m (F B 0 d))
   rwa [xS,xS] at this
  have JJ:w7.heap.size=W5.heap.size+1+1+1:=by rw[←Ht,xS,xS,xS]
  have J8:=N (xT J7.out Kf);have Kj:=N (Hv.out.ext Kf);have Ki:=N (Hu.out.ext Kf);have JL:=N Hl;have JM:=N HJ
  have K3:wn.heap.size≤w7.heap.size:=J8.out.size
  have HG:=N K3;have GS:=N JJ;have GQ:=N (OwnS.sgs Hy.out)
  have HR:bx≠W5.heap.size:=by have:=G5.out;omega
  have JQ:=N HR;clear Ht p0 p1 p2 p3 p4 p5 p6 p7 l5 l6 q0 q1 q2 q3 q4 q5 GG GH GI GJ GK GL JF Kf Hl HJ HR Hv Hu J7;clear K3 JJ
  gi_wp2
  refine zrY (a:=⟨_,_⟩) (n:=9) (Rp:=fun (x:Int×Ent) av _=>av = #[C E x.1,V #[C E x.2.t,C E x.2.k,C E x.2.v]]) (M:=fun _ _=>False) (xs:=[]) (pn:=none) (Gok:=fun _=>True) (gf:=85) (lb:=#[L (H ⟨W5.heap.size+1+1,0,I⟩),L (H ⟨W5.heap.size+1,0,I⟩)]) ?hg ?eg ?hseq ?hMc ?hps (fun G _ X=>(∀ k,¬ G k)∧Blk X bx 44 (zbK ⟨s,[],m.term,m.vote⟩ (F none 0 0))∧Blk X W5.heap.size 3 #[C E (s.idx+1)]∧Ext wn X) ?hI (fun G _ _ h k hk=>(h.1 k hk).elim) (fun _=>False) trivial ⟨fun _ h=>h,Kj.out,Ki.out,J8.out⟩
   (fun _ _ _=>False) (fun _ _ _ _ h _=>h) ?assign (fun _ _ _ _ _ _ _ _ _ _ _ _ h=>h.elim) ?done (fun _ _ _ _ h=>by cases h)
  case hg=>exact rfl
  case eg=>exact enters_of Tryz.func85 (by kernel_rfl) rfl
  case hseq=>exact fun W1 hb hs=>zsh (F A fs.length c) B d m _ _ _ _ W1 (JL.out.ext hb) (JM.out.ext hb)
  case hMc=>exact fun k o h=>h.elim
  case hps=>exact fun x av W h=>by rw[h];rfl
  case hI =>
   rintro G q X Y ⟨h1,h2,h3,h6⟩ hm
   exact ⟨h1,hm.blkF h2,hm.blkF h3,hm.belowF h6 HG.out⟩
  case assign =>
   rintro G l' JK x K4 W av K' hx
   simp at hx
  case done =>
   rintro G D W _ hD ⟨_,Hs,KF,hE⟩ hK;have Jp:=xT Ha.out hE
   have Jo:w.heap.size≤D:=by have:=Ha.out.size;have:=HG.out;omega
   have Jr:∀ X,Calls Q 39 #[V #[C E s.idx,C E s.term,C E s.sum,C E s.lvl,O s.fin,F none 0 0,C E m.term,C E m.vote]] X fun en w'=>en=.returned (O true)∧Ext X w':=fun X=>by
    have h:=zoV ⟨s,[],m.term,m.vote⟩ (F none 0 0) X (zl4 X none (by decide)) (Pg _);rw[Gg.out] at h
    exact h
   have KM:=HN.out.ext hE;obtain ⟨KT,KU⟩:=Hz.out
   have JF:wrap64 (s.idx+1)=s.idx+1:=by unfold wrap64;omega
   have h8:Ph.wrap (s.idx+1)=s.idx+1:=by rw[Pl];omega
   have c0:=KF.cell 0 rfl
   obtain ⟨p0,p1,p2,p3,p4,p5,p6,p7⟩:=zaQ (show Blk W bx 44 #[C E s.idx,C E s.term,C E s.sum,C E s.lvl,O s.fin,F none 0 0,C E m.term,C E m.vote] from Hs)
   obtain ⟨_,_,_,_,_,n5⟩:=zag (show Blk W w2.heap.size 30 #[C E m.next,C E m.term,C E m.vote,C E m.sq,C E m.sf,F B 0 d] from KM)
   have K9:=N hK;have JX:=N Jp;have K6:=N Jo;have G3:=N Jr;have Ga:=N KM;have Kk:=N Hs;have JW:=N hE
   have Js:s.idx<s.idx+1:=by omega
   clear hK Jp Jo Jr KM Hs hE KF KT KU
   gi_wp2
   refine zm5 (fun a' w'=>a'.defers=[{ target:=.collected D,args:=#[] }]∧a'.tmps.size=79∧a'.tmps.getD 1 undef=L (H ⟨bt,0,I⟩)∧a'.tmps.getD 2 undef=L (H ⟨bm,0,I⟩)∧a'.tmps.getD 3 undef=L (H ⟨w2.heap.size,0,I⟩)∧a'.tmps.getD 5 undef=L (H ⟨bx,0,I⟩)∧Ext W w') ?_ ?_
   ·refine zht [{ target:=.collected D,args:=#[] }] (fun _ _=>False) (fun _ _ _ _ h=>h.elim) (S:=fun W=>W.cell? ⟨W5.heap.size,0,I⟩=H (C E (s.idx+1))∧W.cell? ⟨bx,0,I⟩=H (C E s.idx)∧W.cell? ⟨bx,1,I⟩=H (C E s.term)∧W.cell? ⟨bx,2,I⟩=H (C E s.sum)∧W.cell? ⟨bx,3,I⟩=H (C E s.lvl)∧W.cell? ⟨bx,4,I⟩=H (O s.fin)∧W.cell? ⟨bx,5,I⟩=H (F none 0 0)∧W.cell? ⟨bx,6,I⟩=H (C E m.term)∧W.cell? ⟨bx,7,I⟩=H (C E m.vote)∧W.cell? ⟨w2.heap.size,5,I⟩=H (F B 0 d)) (by kernel_rfl) ⟨c0,p0,p1,p2,p3,p4,p5,p6,p7,n5⟩ (fun _=>?_)
    have H9:∀ X,Ext W X→(X.cell? ⟨W5.heap.size,0,I⟩=H (C E (s.idx+1))∧X.cell? ⟨bx,0,I⟩=H (C E s.idx)∧X.cell? ⟨bx,1,I⟩=H (C E s.term)∧X.cell? ⟨bx,2,I⟩=H (C E s.sum)∧X.cell? ⟨bx,3,I⟩=H (C E s.lvl)∧X.cell? ⟨bx,4,I⟩=H (O s.fin)∧X.cell? ⟨bx,5,I⟩=H (F none 0 0)∧X.cell? ⟨bx,6,I⟩=H (C E m.term)∧X.cell? ⟨bx,7,I⟩=H (C E m.vote)∧X.cell? ⟨w2.heap.size,5,I⟩=H (F B 0 d)):=fun X hX=>⟨hX.cell c0,hX.cell p0,hX.cell p1,hX.cell p2,hX.cell p3,hX.cell p4,hX.cell p5,hX.cell p6,hX.cell p7,hX.cell n5⟩
    have H2:=N H9;clear H9 c0 p0 p1 p2 p3 p4 p5 p6 p7 n5;refine tkN 0 ?_;refine tkN 1 ?_;refine tkN 2 ?_;refine tkN 3 ?_;refine tkN 4 ?_;refine tkN 5 ?_;refine tkN 6 ?_;refine tkN 7 ?_;refine tkN 8 ?_;refine tkN 9 ?_;refine tkN 10 ?_;refine tkS 11 ?_;refine tkS 12 ?_;refine tkS 13 ?_;refine tkS 14 ?_;refine tkS 15 ?_;refine tkS 16 ?_;refine tkS 17 ?_;refine tkS 18 ?_;refine tkS 19 ?_;refine tkS 20 ?_;refine tkN 21 ?_;refine tkN 22 ?_;refine tkN 23 ?_;refine tkN 24 ?_
    refine ar1 25 (fun K hK=>?_)
    go_simp
    refine (G3.out _).mono ?_
    rintro e w9 ⟨rfl,KD⟩;have KC:=xT (xD (xR W)) KD
    refine shK hK _ _ (H2.out _ KC) (fun _=>?_)
    refine tkN 26 ?_
    refine ar1 27 (fun K hK=>?_)
    go_simp
    refine (zkj _ _).mono ?_
    rintro e hu ⟨rfl,rfl⟩
    refine shK hK _ _ (H2.out _ KC) (fun _=>?_)
    refine wdD ?_
    exact zg8 ⟨rfl,rfl,rfl,rfl,rfl,rfl,KC⟩
   ·rintro ⟨T4,df⟩ W8 ⟨hd,Hq,t1,t2,t3,t5,Hr⟩
    dsimp only at hd Hq t1 t2 t3 t5;subst hd;have hT:=zdo 79 T4 Hq
    generalize hU:(fun i=>T4.getD i undef)=U at hT
    have g1:U 1=L (H ⟨bt,0,I⟩):=by rw[←hU];exact t1
    have g2:U 2=L (H ⟨bm,0,I⟩):=by rw[←hU];exact t2
    have g3:U 3=L (H ⟨w2.heap.size,0,I⟩):=by rw[←hU];exact t3
    have g5:U 5=L (H ⟨bx,0,I⟩):=by rw[←hU];exact t5
    have KE:T4 = #[U 0,L (H ⟨bt,0,I⟩),L (H ⟨bm,0,I⟩),L (H ⟨w2.heap.size,0,I⟩),U 4,L (H ⟨bx,0,I⟩),U 6,U 7,U 8,U 9,U 10,U 11,U 12,U 13,U 14,U 15,U 16,U 17,U 18,U 19,U 20,U 21,U 22,U 23,U 24,U 25,U 26,U 27,U 28,U 29,U 30,U 31,U 32,U 33,U 34,U 35,U 36,U 37,U 38,U 39,U 40,U 41,U 42,U 43,U 44,U 45,U 46,U 47,U 48,U 49,U 50,U 51,U 52,U 53,U 54,U 55,U 56,U 57,U 58,U 59,U 60,U 61,U 62,U 63,U 64,U 65,U 66,U 67,U 68,U 69,U 70,U 71,U 72,U 73,U 74,U 75,U 76,U 77,U 78]:=by rw[hT];show (#[U 0,U 1,U 2,U 3,U 4,U 5,U 6,U 7,U 8,U 9,U 10,U 11,U 12,U 13,U 14,U 15,U 16,U 17,U 18,U 19,U 20,U 21,U 22,U 23,U 24,U 25,U 26,U 27,U 28,U 29,U 30,U 31,U 32,U 33,U 34,U 35,U 36,U 37,U 38,U 39,U 40,U 41,U 42,U 43,U 44,U 45,U 46,U 47,U 48,U 49,U 50,U 51,U 52,U 53,U 54,U 55,U 56,U 57,U 58,U 59,U 60,U 61,U 62,U 63,U 64,U 65,U 66,U 67,U 68,U 69,U 70,U 71,U 72,U 73,U 74,U 75,U 76,U 77,U 78]:Array Value)=_;rw[g1,g2,g3,g5]
    clear hT hU Hq g1 t1 g2 t2 g3 t3 g5 t5;subst KE
    have KP:Blk W8 bx 44 #[C E s.idx,C E s.term,C E s.sum,C E s.lvl,O s.fin,F none 0 0,C E m.term,C E m.vote]:=Kk.out.ext Hr
    have KL:Blk W8 w2.heap.size 30 #[C E m.next,C E m.term,C E m.vote,C E m.sq,C E m.sf,F B 0 d]:=Ga.out.ext Hr
    have E8:=xT JX.out Hr;have JD:=HT.out.ext E8;have Jt:=HM.out.ext E8
    have Jq:W8.heap[D]?=H (.deferred (some [])):=(Hr.block D (P5.1 K9.out).1).trans K9.out
    have Jw:OwnE W8 (wn.heap.size+1) (F none 0 0) []:=P1 _ _ _ _
    have JC:=zab Hy.out (xT JW.out Hr)
    have Jv:bx≠bt:=by have h1:=HT.out.lt;have h2:=Hw.out;have h3:=Ha.out.size;omega
    have Ju:bx≠bm:=by have h1:=HM.out.lt;have h2:=Hw.out;have h3:=Ha.out.size;omega
    have K0:w2.heap.size≠bt:=by have h1:=HT.out.lt;have h3:=K8.out.size;omega
    have HY:w2.heap.size≠bm:=by have h1:=HM.out.lt;have h3:=K8.out.size;omega
    have Jn:bt≠D:=by have h1:=HT.out.lt;have h2:=K6.out;omega
    have Jm:bm≠D:=by have h1:=HM.out.lt;have h2:=K6.out;omega
    obtain ⟨p0,p1,p2,p3,p4,p5,p6,p7⟩:=zaQ KP;obtain ⟨q0,q1,q2,q3,q4,q5⟩:=zag KL;have Gq:=N KP;have G8:=N KL;have KY:=N E8;have HF:=N JD;have G6:=N Jt;have G1:=N Jq;have Gb:=N Jw;have Gh:=N JC;have G9:=N (Pc Jv (Pc Ju (Pc K0 (Pc HY (Pc Jn Jm)))));clear KP KL E8 JD Jt Jq Jw JC Jv Ju K0 HY Jn Jm Hr
    gi_wp2
    refine zcW (S:=fun W=>W.cell? ⟨bx,0,I⟩=H (C E s.idx)∧W.cell? ⟨bx,1,I⟩=H (C E s.term)∧W.cell? ⟨bx,2,I⟩=H (C E s.sum)∧W.cell? ⟨bx,3,I⟩=H (C E s.lvl)∧W.cell? ⟨bx,4,I⟩=H (O s.fin)∧W.cell? ⟨bx,5,I⟩=H (F none 0 0)∧W.cell? ⟨bx,6,I⟩=H (C E m.term)∧W.cell? ⟨bx,7,I⟩=H (C E m.vote)∧W.cell? ⟨w2.heap.size,0,I⟩=H (C E m.next)∧W.cell? ⟨w2.heap.size,1,I⟩=H (C E m.term)∧W.cell? ⟨w2.heap.size,2,I⟩=H (C E m.vote)∧W.cell? ⟨w2.heap.size,3,I⟩=H (C E m.sq)∧W.cell? ⟨w2.heap.size,4,I⟩=H (C E m.sf)∧W.cell? ⟨w2.heap.size,5,I⟩=H (F B 0 d)) (by kernel_rfl) ⟨p0,p1,p2,p3,p4,p5,p6,p7,q0,q1,q2,q3,q4,q5⟩ (fun _=>?_)
    clear p0 p1 p2 p3 p4 p5 p6 p7 q0 q1 q2 q3 q4 q5;refine tkN 0 ?_;refine tkN 1 ?_;obtain ⟨f0,f1,f2,f3,f4,f5,f6,f7⟩:=za9 HF.out
    obtain ⟨g0,g1,g2,g3,g4,g5,g6,g7⟩:=zaQ (show Blk W8 bt 44 #[C E 0,C E 0,C E 0,C E 0,O false,F none 0 0,C E 0,C E 0] from HF.out)
    refine ar1 2 (fun K hK=>?_)
    go_simp
    show K _ (P0 (zb8 W8 bt (C E s.idx) (C E s.term) (C E s.sum) (C E s.lvl) (O s.fin) (F none 0 0) (C E m.term) (C E m.vote)))
    obtain ⟨n1,n2,n3,n4,n5,n6⟩:=G9.out
    have Hh:Ext (zb8 W8 bt (C E s.idx) (C E s.term) (C E s.sum) (C E s.lvl) (O s.fin) (F none 0 0) (C E m.term) (C E m.vote)) (P0 (zb8 W8 bt (C E s.idx) (C E s.term) (C E s.sum) (C E s.lvl) (O s.fin) (F none 0 0) (C E m.term) (C E m.vote))):=xD (xR _)
    have J9:=N ((zbX Gq.out n1 (C E s.idx) (C E s.term) (C E s.sum) (C E s.lvl) (O s.fin) (F none 0 0) (C E m.term) (C E m.vote)).ext Hh);have J3:=N ((zbX G8.out n3 (C E s.idx) (C E s.term) (C E s.sum) (C E s.lvl) (O s.fin) (F none 0 0) (C E m.term) (C E m.vote)).ext Hh);have HA:=N ((zbX G6.out (Ne.symm J4.out) (C E s.idx) (C E s.term) (C E s.sum) (C E s.lvl) (O s.fin) (F none 0 0) (C E m.term) (C E m.vote)).ext Hh)
    have Gk:=N ((zbY (show Blk W8 bt 44 #[C E 0,C E 0,C E 0,C E 0,O false,F none 0 0,C E 0,C E 0] from HF.out) (C E s.idx) (C E s.term) (C E s.sum) (C E s.lvl) (O s.fin) (F none 0 0) (C E m.term) (C E m.vote)).ext Hh)
    have Gc:=N (OwnE.ext (zdd HF.out (by decide) Gb.out (C E s.idx) (C E s.term) (C E s.sum) (C E s.lvl) (O s.fin) (F none 0 0) (C E m.term) (C E m.vote)) Hh);have Gi:=N (zab (zdd HF.out (by decide) Gh.out (C E s.idx) (C E s.term) (C E s.sum) (C E s.lvl) (O s.fin) (F none 0 0) (C E m.term) (C E m.vote)) Hh)
    have G2:Hid ((P0 (zb8 W8 bt (C E s.idx) (C E s.term) (C E s.sum) (C E s.lvl) (O s.fin) (F none 0 0) (C E m.term) (C E m.vote))).heap[D]?=H (.deferred (some []))):=N ((zpu (Ne.symm n5) (C E s.idx) (C E s.term) (C E s.sum) (C E s.lvl) (O s.fin) (F none 0 0) (C E m.term) (C E m.vote)).trans G1.out)
    have JV:Hid (∀ W0,Ext W0 w→W0.heap.size≤bt→Ext W0 (P0 (zb8 W8 bt (C E s.idx) (C E s.term) (C E s.sum) (C E s.lvl) (O s.fin) (F none 0 0) (C E m.term) (C E m.vote)))):=N fun W0 h hb=>xD (zbA (xT h KY.out) hb (C E s.idx) (C E s.term) (C E s.sum) (C E s.lvl) (O s.fin) (F none 0 0) (C E m.term) (C E m.vote))
    have JO:Hid (∀ b t cs,b≠bt→Blk w b t cs→Blk (P0 (zb8 W8 bt (C E s.idx) (C E s.term) (C E s.sum) (C E s.lvl) (O s.fin) (F none 0 0) (C E m.term) (C E m.vote))) b t cs):=N fun b t cs h1 h2=>(zbX (h2.ext KY.out) h1 (C E s.idx) (C E s.term) (C E s.sum) (C E s.lvl) (O s.fin) (F none 0 0) (C E m.term) (C E m.vote)).ext Hh
    clear Hh f0 f1 f2 f3 f4 f5 f6 f7 g0 g1 g2 g3 g4 g5 g6 g7
    generalize (P0 (zb8 W8 bt (C E s.idx) (C E s.term) (C E s.sum) (C E s.lvl) (O s.fin) (F none 0 0) (C E m.term) (C E m.vote)))=W9 at *
    obtain ⟨p0,p1,p2,p3,p4,p5,p6,p7⟩:=zaQ J9.out;obtain ⟨q0,q1,q2,q3,q4,q5⟩:=zag J3.out
    refine shK hK _ _ ⟨p0,p1,p2,p3,p4,p5,p6,p7,q0,q1,q2,q3,q4,q5⟩ (fun _=>?_)
    clear p0 p1 p2 p3 p4 p5 p6 p7 q0 q1 q2 q3 q4 q5;obtain ⟨f0,f1,f2,f3,f4,f5⟩:=zdQ HA.out
    obtain ⟨g0,g1,g2,g3,g4,g5⟩:=zag (show Blk W9 bm 30 #[C E 0,C E 0,C E 0,C E 0,C E 0,F none 0 0] from HA.out)
    refine ar1 3 (fun K hK=>?_)
    go_simp
    show K _ (zbB W9 bm (C E m.next) (C E m.term) (C E m.vote) (C E m.sq) (C E m.sf) (F B 0 d))
    obtain ⟨p0,p1,p2,p3,p4,p5,p6,p7⟩:=zaQ (zco J9.out n2 (C E m.next) (C E m.term) (C E m.vote) (C E m.sq) (C E m.sf) (F B 0 d));obtain ⟨q0,q1,q2,q3,q4,q5⟩:=zag (zco J3.out n4 (C E m.next) (C E m.term) (C E m.vote) (C E m.sq) (C E m.sf) (F B 0 d));have Kw:=N (zco Gk.out J4.out (C E m.next) (C E m.term) (C E m.vote) (C E m.sq) (C E m.sf) (F B 0 d))
    have Kp:Hid (Blk (zbB W9 bm (C E m.next) (C E m.term) (C E m.vote) (C E m.sq) (C E m.sf) (F B 0 d)) bm 30 (mfC m (F B 0 d))):=N (zbl (show Blk W9 bm 30 #[C E 0,C E 0,C E 0,C E 0,C E 0,F none 0 0] from HA.out) (C E m.next) (C E m.term) (C E m.vote) (C E m.sq) (C E m.sf) (F B 0 d))
    have Kq:=N (zcU HA.out (by decide) Gc.out (C E m.next) (C E m.term) (C E m.vote) (C E m.sq) (C E m.sf) (F B 0 d));have Kv:=N (zcU HA.out (by decide) Gi.out (C E m.next) (C E m.term) (C E m.vote) (C E m.sq) (C E m.sf) (F B 0 d))
    have Hk:Hid ((zbB W9 bm (C E m.next) (C E m.term) (C E m.vote) (C E m.sq) (C E m.sf) (F B 0 d)).heap[D]?=H (.deferred (some []))):=N ((zrc (Ne.symm n6) (C E m.next) (C E m.term) (C E m.vote) (C E m.sq) (C E m.sf) (F B 0 d)).trans G2.out)
    have Km:Hid (∀ W0,Ext W0 w→W0.heap.size≤bt→W0.heap.size≤bm→Ext W0 (zbB W9 bm (C E m.next) (C E m.term) (C E m.vote) (C E m.sq) (C E m.sf) (F B 0 d))):=N fun W0 h hb hc=>zbm (JV.out W0 h hb) hc (C E m.next) (C E m.term) (C E m.vote) (C E m.sq) (C E m.sf) (F B 0 d)
    have Kh:Hid (∀ b t cs,b≠bt→b≠bm→Blk w b t cs→Blk (zbB W9 bm (C E m.next) (C E m.term) (C E m.vote) (C E m.sq) (C E m.sf) (F B 0 d)) b t cs):=N fun b t cs h1 h2 h3=>zco (JO.out b t cs h1 h3) h2 (C E m.next) (C E m.term) (C E m.vote) (C E m.sq) (C E m.sf) (F B 0 d)
    refine shK hK _ _ ⟨p0,p1,p2,p3,p4,p5,p6,p7,q0,q1,q2,q3,q4,q5⟩ (fun _=>?_)
    clear p0 p1 p2 p3 p4 p5 p6 p7 q0 q1 q2 q3 q4 q5 f0 f1 f2 f3 f4 f5 g0 g1 g2 g3 g4 g5;refine wdD ?_
    generalize zbB W9 bm (C E m.next) (C E m.term) (C E m.vote) (C E m.sq) (C E m.sf) (F B 0 d)=W10 at *
    gi_wp2
    refine zi5 Hk.out (.tuple #[]) (results_none rfl _ _ _) ?_
    unfold R1P;rw[if_pos rfl]
    refine ⟨rfl,⟨⟨F none 0 0,F B 0 d,zi1 Kw.out n5 _,zi1 Kp.out n6 _,zaf (ownsRow_putObj Kq.out (.deferred none) Hk.out rfl) (by have:=Ha.out.size;omega),by rw[show (⟨0,⟨s,[],m.term,m.vote⟩,m⟩:Rd).m.segs=[] from HD.out];exact zaf (ownsRow_putObj Kv.out (.deferred none) Hk.out rfl) Gm.out⟩,fun W0 h1 h2 h3=>zaN (Km.out W0 h1 h2 h3) (by have:=h1.size;have:=K6.out;omega) _,fun b t cs h1 h2 h3=>zi1 (Kh.out b t cs h1 h2 h3) (by have:=h3.lt;have:=K6.out;omega) _⟩⟩
end Go.Proofs.YteggfecbjgbndaaGreatDoor
