/- Merged -/
import Derived.Test.YteggfecbjgbndaaGreatDoorZw10
import Derived.Test.YteggfecbjgbndaaGreatDoorZw12
set_option linter.all false
set_option maxHeartbeats 8000000
set_option maxRecDepth 100000
open Go.Value renaming int→B,slice→D,pointer→J,bool→M,agg→N
open Go.IntKind renaming i64→C
open Go.Proofs.Tryz renaming prog→E
open Go.Obj renaming cells→F
open Go.Mv renaming zhd→G
open Option renaming none→H,some→I
open List renaming length_drop→P0,getD_eq_getElem?_getD→P1,getElem?_eq_getElem→P2,length_take→P3,length_map→P4,append_nil→P5
open Go.Mv.Blk renaming new→P6
open Go.World renaming ownsRow_nil→P7
namespace Go.Proofs.YteggfecbjgbndaaGreatDoor
open Go.RowKit Go.Mv
theorem mcRonea0 {P:Prop} (h:P:=by
 rw[hr] at key ⊢
 have Hg:=G key;clear key hr
 go_enter Tryz.func49,Tryz.ntmps49
 go_wp2_with fail
 refine Hg.out.mono ?_
 rintro e w1 ⟨vl,rfl,ho,hE⟩;have H0:=H8.ext hE;obtain ⟨g0,g1,g2,f0,f1,f2⟩:=zba H0;obtain ⟨A1,c1,rfl,_,_⟩:=xO (xW ho);go_wp2_with fail
 refine bodyPost_ret (zhk _ _ _ _ _ rfl rfl (zbL H0 _ _ _) rfl) rfl ?_
 exact ⟨_,rfl,zfC H0 (by decide) (zaf ho hX.size) _ _ _,zbM (xT hX hE) (xN _) _ _ _⟩):P:=h
theorem zf7 (tmps:Array Value) (W:World) (b:Nat) (cs:Array Value) (u:Value) (h2:tmps.getD 2 undef=J (I ⟨b,0,H⟩)) (h3:tmps.getD 3 undef=u) (hb:Blk W b 54 cs) (hs:cs.size=3):(results Tryz.f168 tmps).run E W=.ok (.tuple #[.agg cs,u]) W:=by
 have hl:=hb.load (P:=E) zvd rfl (by rw[hs];kernel_rfl)
 have HQ:tmps[2]?.getD undef=J (I ⟨b,0,H⟩):=by simpa using h2
 have HS:tmps[3]?.getD undef=u:=by simpa using h3
 simp[results,Tryz.results168,HQ,HS,asAddr,hl]
def zoc (w:World) (r:Option Ent) (e:Ending) (w':World):Prop:=(match r with
 | some x=>e=.returned (.tuple #[N #[B C x.t,B C x.k,B C x.v],M true])
 | none=>∃ a b c:Int,e=.returned (.tuple #[N #[B C a,B C b,B C c],M false]))∧Ext w w'
theorem zmG (v:Value) (bs:List UInt8) (w:World) (hB:Bs w v bs) (hl:bs.length=15):Calls E 168 #[v] w (zoc w (zfL rT bs)):=by
 obtain ⟨A,c,rfl,h1,h2⟩:=xO hB;have H8:=P6 w 54 #[B C 0,B C 0,B C 0]
 have hX:Ext w (w.alloc (F #[B C 0,B C 0,B C 0] 54)):=xA (xR _) _
 have Kb:=zh0 _ bs _ (hB.ext hX) (by omega)
 have Hm:∀ p,za6 rT bs=I p→p.length=11:=fun p h=>by rw[zhI h,hl]
 obtain ⟨R,hR⟩:∃ R,zfL rT bs=R:=⟨_,rfl⟩;have K8:=hR;unfold zfL at K8;rw[hR];obtain ⟨r,hr⟩:∃ r,za6 rT bs=r:=⟨_,rfl⟩;rw[hr] at Kb Hm K8
 rw[hl] at Kb h1 ⊢
 have Kj:=G Kb;have HR:=G K8;clear Kb hr hR K8 hB hl
 have Hd:∀ (W:World) (a b c:Int),Ext w W→R=none→zoc w R (.returned (.tuple #[N #[B C a,B C b,B C c],M false])) W:=by
  intro W a b c hE hn;subst hn
  exact ⟨⟨a,b,c,rfl⟩,hE⟩
 have H1:=G Hd;clear Hd
 cases r with
 | none =>
  have hn:R=none:=HR.out.symm
  go_enter Tryz.func168,Tryz.ntmps168
  go_wp2_with fail
  refine Kj.out.mono ?_
  rintro e w1 ⟨⟨v1,rfl,HG⟩,H6⟩;obtain ⟨g0,g1,g2,f0,f1,f2⟩:=zba (H8.ext H6);have H3:=xT hX H6;have H0:=H8.ext H6;have Hn:=G hn;clear hn;go_wp2_with fail
  refine bodyPost_ret (zf7 _ _ _ _ _ rfl rfl (zbL H0 _ _ _) rfl) rfl ?_
  exact H1.out _ _ _ _ (zbM H3 (xN _) _ _ _) Hn.out
 | some p =>
  have hp:=Hm p rfl;clear Hm;dsimp only at HR
  have HJ:=fun (W:World) (u:Value) (h:Bs W u p)=>zbN u p W h (by omega)
  obtain ⟨q,hq⟩:∃ q,zah p=q:=⟨_,rfl⟩
  have He:q.1=0→q.2.2=p.drop 5:=fun h=>by rw[←hq] at h ⊢;exact zdT h
  have Kc:q.2.1≤1073741824:=by rw[←hq];exact ziX
  rw[hq] at HJ;have Kh:=HR.out;rw[hq] at Kh;have K3:=G Kh;have HO:=G HJ;have Hp:=G hp;clear HR Kh HJ hq hp;obtain ⟨er,n,rest⟩:=q;dsimp only at K3 He Kc
  go_enter Tryz.func168,Tryz.ntmps168
  go_wp2_with fail
  refine Kj.out.mono ?_
  rintro e w1 ⟨⟨v1,rfl,HG⟩,H6⟩
  have HH:OwnB w1 (w.heap.size+1) v1 p:=by simpa using HG
  obtain ⟨A1,c1,rfl,KO,_⟩:=xO (xW HH);have H0:=H8.ext H6;obtain ⟨g0,g1,g2,f0,f1,f2⟩:=zba H0;have H3:=xT hX H6
  have Hx:Bs w1 (D A1 p.length c1) p:=HH.bs
  rw[Hp.out] at Hx KO ⊢
  clear HG HH;go_wp2_with fail
  refine (HO.out _ _ Hx).mono ?_
  rintro e w2 ⟨v2,rfl,Kd,KC⟩
  dsimp only at Kd ⊢
  have Hi:=xT H3 KC;have HX:=H0.ext KC;obtain ⟨A2,c2,rfl,J5,KP⟩:=xO (xW Kd)
  have Kz:Bs w2 (D A2 rest.length c2) rest:=xW Kd
  clear Kd Hx g0 g1 g2 f0 f1 f2;obtain ⟨g0,g1,g2,f0,f1,f2⟩:=zba HX
  by_cases her:er=0
  case neg =>
   have hn:R=none:=by rw[←K3.out,if_neg her]
   have Hn:=G hn
   have H4:((er:Int) != 0)=true:=by simp[her]
   clear hn;go_wp2_with fail
   refine bodyPost_ret (zf7 _ _ _ _ _ rfl rfl (zbL HX _ _ _) rfl) rfl ?_
   exact H1.out _ _ _ _ (zbM Hi (xN _) _ _ _) Hn.out
  case pos =>
   subst her;have KH:=He rfl
   have Kw:rest.length=6:=by rw[KH,P0,Hp.out]
   have KU:((rest.length:Int) != 6)=false:=by rw[Kw];rfl
   have J4:(1:Int)≤(rest.length:Int):=by omega
   have J3:(0:Int)<(rest.length:Int):=by omega
   obtain ⟨_,b2,o2,rfl,KE⟩:=Bs.at_ Kz (by omega);have HD:=KE 0 (by omega);rw[Nat.add_zero] at HD
   have HE:rest.getD 0 0=rest[0]:=by rw[P1,P2 (by omega)];rfl
   have HN:=K3.out;rw[if_pos rfl,HE] at HN;have KA:=Bs.cut Kz 1 (by omega) rfl;have J7:=rest[0].toNat_lt
   generalize rest[0].toNat=k0 at *
   have HK:=fun (W:World) (u:Value) (h:Bs W u (rest.drop 1))=>zbN u (rest.drop 1) W h (by rw[P0];omega)
   obtain ⟨q2,KF⟩:∃ q,zah (rest.drop 1)=q:=⟨_,rfl⟩;rw[KF] at HK HN;obtain ⟨Ky,n2,KI⟩:=q2;dsimp only at HN;have K4:=G HN;have Kk:=G HK;have KJ:=G KA
   have J2:(1:Int)≤(c2:Int):=by omega
   have KQ:¬ (c2=1):=by omega
   have J1:=G Kw;clear KE KH He HK KF K3 HN KA HE HO Kj Kw;go_wp2_with fail
   first | (with_reducible refine (Kk.out _ _ KJ.out).mono ?_) | (trace_state;fail)
   rintro e w3 ⟨v3,rfl,KW,K6⟩;dsimp only;have Hy:=xT Hi K6;have hb3:=HX.ext K6;have KR:=K6.cell HD;have HM:=P6 w3 54 #[B C (n:Int),B C (k0:Int),B C (n2:Int)]
   have HU:Ext w (w3.alloc (F #[B C (n:Int),B C (k0:Int),B C (n2:Int)] 54)):=xA Hy _
   have K9:=hb3.alloc (F #[B C (n:Int),B C (k0:Int),B C (n2:Int)] 54);clear KW K6 g0 g1 g2 f0 f1 f2 HD
   by_cases her2:Ky=0
   case pos =>
    subst her2;have Ki:=K4.out;rw[if_pos rfl] at Ki;have Kx:=G Ki;clear K4 Ki;go_wp2_with fail;obtain ⟨x0,x1,x2,_,_,_⟩:=zba HM;obtain ⟨_,_,_,y0,y1,y2⟩:=zba K9
    refine wp_region_held_drew (S:=fun W=>W.cell? ⟨w3.heap.size,0,H⟩=I (B C (n:Int))∧W.cell? ⟨w3.heap.size,1,H⟩=I (B C (k0:Int))∧W.cell? ⟨w3.heap.size,2,H⟩=I (B C (n2:Int))) (by kernel_rfl) ⟨x0,x1,x2⟩ (fun _=>?_)
    refine tkN 0 ?_;refine tkN 1 ?_;refine tkN 2 ?_;refine tkN 3 ?_;refine tkN 4 ?_
    refine ar1 5 (fun K hK=>?_)
    go_simp
    refine (zfF _ _ _ _).mono ?_
    rintro e w5 ⟨rfl,HW⟩
    have Hz:Ext (w3.alloc (F #[B C (n:Int),B C (k0:Int),B C (n2:Int)] 54)) w5:=xT (xD (xR _)) HW
    have Hj:=xT HU Hz;have Hl:=HM.ext Hz;have Ka:=K9.ext Hz;obtain ⟨z0,z1,z2,_,_,_⟩:=zba Hl
    refine shK hK _ _ ⟨z0,z1,z2⟩ (fun _=>?_)
    refine tkN 6 ?_;obtain ⟨y6,y7,y8,y0,y1,y2⟩:=zba Ka
    refine ar1 7 (fun K hK=>?_)
    go_simp
    have H4:w3.heap.size≠w.heap.size:=by have:=Hy.size;have:=hb3.lt;omega
    have HA:=((Hl.other H4 0 (B C (n:Int))).other H4 1 (B C (k0:Int))).other H4 2 (B C (n2:Int));obtain ⟨z0,z1,z2,_,_,_⟩:=zba HA
    refine shK hK _ _ ⟨z0,z1,z2⟩ (fun _=>?_)
    refine tkN 8 ?_;refine wdD ?_;go_wp2_with fail
    refine bodyPost_ret (zf7 _ _ _ _ _ rfl rfl (zbL Ka _ _ _) rfl) rfl ?_
    cases hok:okB (n:Int) (k0:Int) (n2:Int) with
    | true =>
     have hr:=Kx.out;rw[if_pos hok] at hr;subst hr
     exact ⟨rfl,zbM Hj (xN _) _ _ _⟩
    | false =>
     have hr:=Kx.out
     rw[if_neg (by rw[hok];simp)] at hr
     exact H1.out _ _ _ _ (zbM Hj (xN _) _ _ _) hr.symm
   case neg =>
    have hn:R=none:=by rw[←K4.out,if_neg her2]
    have Hn:=G hn
    have Ku:((Ky:Int)==0)=false:=by simp[her2]
    clear hn K4;go_wp2_with fail;obtain ⟨x0,x1,x2,_,_,_⟩:=zba HM
    refine wp_region_held_drew (S:=fun W=>W.cell? ⟨w3.heap.size,0,H⟩=I (B C (n:Int))∧W.cell? ⟨w3.heap.size,1,H⟩=I (B C (k0:Int))∧W.cell? ⟨w3.heap.size,2,H⟩=I (B C (n2:Int))) (by kernel_rfl) ⟨x0,x1,x2⟩ (fun _=>?_)
    refine tkN 0 ?_;refine tkN 1 ?_;refine tkN 2 ?_;refine tkN 3 ?_;refine tkS 4 ?_;refine tkS 5 ?_;refine tkN 6 ?_
    have hD:Ext (w3.alloc (F #[B C (n:Int),B C (k0:Int),B C (n2:Int)] 54)) (w3.alloc (F #[B C (n:Int),B C (k0:Int),B C (n2:Int)] 54)).drew:=xD (xR _)
    have Hl:=HM.ext hD;have Ka:=K9.ext hD;have Hj:=xT HU hD;obtain ⟨y6,y7,y8,y0,y1,y2⟩:=zba K9
    refine ar1 7 (fun K hK=>?_)
    go_simp
    have H4:w3.heap.size≠w.heap.size:=by have:=Hy.size;have:=hb3.lt;omega
    have HA:=((Hl.other H4 0 (B C (n:Int))).other H4 1 (B C (k0:Int))).other H4 2 (B C (n2:Int));obtain ⟨z0,z1,z2,_,_,_⟩:=zba HA
    refine shK hK _ _ ⟨z0,z1,z2⟩ (fun _=>?_)
    refine tkN 8 ?_;refine wdD ?_;go_wp2_with fail
    refine bodyPost_ret (zf7 _ _ _ _ _ rfl rfl (zbL Ka _ _ _) rfl) rfl ?_
    exact H1.out _ _ _ _ (zbM Hj (xN _) _ _ _) Hn.out
theorem zm8 {ops:Array Oper} {rest:List Oper} {o:Oper} {a:Act} {w:World} {Q:Exit→Act→World→Prop} (HE:o.guard=none) (s x:Operand)
  (ho:o.op=.call { callee:=.builtin .append,args:=#[s,x],argTypes:=#[42,42] })
  (base:Nat) (v:Value) (bs:List Ent) (hs:a.eval s=v) (K0:OwnE w base v bs) (vx:Value) (cs:List Ent) (hx:a.eval x=vx) (hr:Es w vx cs)
  (Hm:bs.length+cs.length≤2000000) (HY:base≤w.heap.size)
  (h:∀ A c w',OwnE w' base (D A (bs.length+cs.length) c) (bs++cs)→zcz base w w'→w.grownBy w' v.ownBlock→wpList E ops Q rest (a.put o.dst (D A (bs.length+cs.length) c)) w'):wpList E ops Q (o::rest) a w:=by
 obtain ⟨i0,hi,KY,KZ,J0⟩:=info_parts zeq
 refine zaC _ HE s x 42 ho base 54 i0 _ 3 24 Tryz.underlying42 hi KY KZ J0 rfl (by decide) v bs.length (zat bs) hs K0 vx cs.length (zat cs) hx hr (zfz _) (by unfold maxLen;omega) (by omega) HY ?_
 intro v' w' h1 h2;obtain ⟨A,c,rfl,_,_⟩:=xO (xW h1)
 refine h A c w' ?_ (fun W0 hE hb=>Ext.grownOwn hE (zaf K0 hb) h2) h2
 unfold OwnE
 rw[xL,show zat (bs++cs)=zat bs++zat cs from by simp[zat]]
 exact h1
theorem zd5 (tmps:Array Value) (W:World) (b:Nat) (cs:Array Value) (u:Value) (h2:tmps.getD 2 undef=J (I ⟨b,0,H⟩)) (h3:tmps.getD 3 undef=u) (hb:Blk W b 90 cs) (hs:cs.size=3):(results Tryz.f99 tmps).run E W=.ok (.tuple #[.agg cs,u]) W:=by
 have hl:=hb.load (P:=E) zty rfl (by rw[hs];kernel_rfl)
 have HQ:tmps[2]?.getD undef=J (I ⟨b,0,H⟩):=by simpa using h2
 have HS:tmps[3]?.getD undef=u:=by simpa using h3
 simp[results,Tryz.results99,HQ,HS,asAddr,hl]
theorem zmE (v:Value) (bs:List UInt8) (w:World) (hB:Bs w v bs) (hl:bs.length≤2000000) (h:(zch rT bs).err=11):Calls E 99 #[v] w (zii w (zch rT bs)):=by
 obtain ⟨A,c,rfl,h1,h2⟩:=xO hB;have H8:=P6 w 90 #[B C 0,D none 0 0,B C 0]
 have hX:Ext w (w.alloc (F #[B C 0,D none 0 0,B C 0] 90)):=xA (xR _) _
 have hr:zch rT bs=⟨11,0,[],0,(0,0)⟩:=by
  unfold zch at h ⊢
  split
  ·rfl
  ·rename_i hd
   rw[if_neg hd] at h
   split
   ·rename_i h2;rw[if_pos h2] at h;cases h
   ·rfl
 have Hr:=G hr
 have Hd:∀ (W:World),Ext w W→zii w (zch rT bs) (.returned (.tuple #[N #[B C 0,D none 0 0,B C 0],B C 11])) W:=by
  intro W hE;rw[Hr.out]
  exact ⟨_,rfl,P7 _ _ _ _,hE⟩
 have H1:=G Hd;clear hr Hd;obtain ⟨g0,g1,g2,f0,f1,f2⟩:=zba H8
 by_cases h6:bs.length<6
 ·have e6:((bs.length:Int)<6):=by omega
  clear h hB
  go_enter Tryz.func99,Tryz.ntmps99
  go_wp2_with fail
  refine bodyPost_ret (zd5 _ _ _ _ _ rfl rfl (P6 w _ _) rfl) rfl ?_
  exact H1.out _ hX
 ·obtain ⟨_,b,Kg,rfl,hc⟩:=Bs.at_ hB (by omega)
  have Kp:=hX.cell (hc 0 (by omega));rw[Nat.add_zero] at Kp
  have e6:¬ ((bs.length:Int)<6):=by omega
  by_cases H0:bs[0]=1
  case neg =>
   have H4:((bs[0].toNat:Int) != 1)=true:=by
    have:bs[0].toNat≠1:=fun e=>H0 (UInt8.toNat_inj.1 e)
    simp;omega
   generalize bs[0].toNat=q at *
   clear h hB hc
   go_enter Tryz.func99,Tryz.ntmps99
   go_wp2_with fail
   refine bodyPost_ret (zd5 _ _ _ _ _ rfl rfl (P6 w _ _) rfl) rfl ?_
   exact H1.out _ hX
  case pos =>
   have H4:((bs[0].toNat:Int) != 1)=false:=by rw[H0];rfl
   have hp:=zeY hB 1 5 (by omega)
   have HI:((bs.drop 1).take 5).length=5:=by rw[P3,P0];omega
   have HE:bs.getD 0 0=1:=by rw[P1,P2 (by omega)];exact H0
   unfold zch at h
   rw[if_neg (by rintro (h9 | h9);· omega
                 ·exact h9 HE)] at h
   obtain ⟨p,K2⟩:∃ p,(bs.drop 1).take 5=p:=⟨_,rfl⟩;rw[K2] at h hp HI
   have key:=fun (W:World) (u:Value) (h:Bs W u p)=>zbN u p W h (by omega)
   obtain ⟨q,hq⟩:∃ q,zah p=q:=⟨_,rfl⟩;rw[hq] at h key;obtain ⟨er,n,rest⟩:=q;dsimp only at h
   have Ko:er≠0∨n=0:=by
    by_cases he:er=0
    ·by_cases hn:n=0
     ·exact .inr hn
     ·rw[if_pos ⟨he,hn⟩] at h;cases h
    ·exact .inl he
   have Hg:=G key
   have K1:Bs w (D (I ⟨b,Kg+1,H⟩) 5 (c-1)) p:=SlR.capd hp (by rw[HI];omega) (by omega)
   have Hp:=G K1
   have e5:(6:Int)≤(c:Int):=by omega
   generalize bs[0].toNat=q at *
   clear h hB hc key hq hp K1 K2 HE H0
   go_enter Tryz.func99,Tryz.ntmps99
   go_wp2_with fail
   first | (with_reducible refine (Hg.out _ _ (Hp.out.ext hX)).mono ?_) | (trace_state;fail)
   rintro e w1 ⟨v1,rfl,HG,H6⟩;dsimp only;have H0:=H8.ext H6;have H3:=xT hX H6;clear g0 g1 g2 f0 f1 f2 HG;obtain ⟨g0,g1,g2,f0,f1,f2⟩:=zba H0
   by_cases he:er=0
   ·subst he
    obtain rfl:n=0:=by rcases Ko with h | h;exact absurd rfl h;exact h
    go_wp2_with fail
    refine bodyPost_ret (zd5 _ _ _ _ _ rfl rfl (zbL H0 _ _ _) rfl) rfl ?_
    exact H1.out _ (zbM H3 (xN _) _ _ _)
   ·have Ku:((er:Int) != 0)=true:=by simp[he]
    go_wp2_with fail
    refine bodyPost_ret (zd5 _ _ _ _ _ rfl rfl (zbL H0 _ _ _) rfl) rfl ?_
    exact H1.out _ (zbM H3 (xN _) _ _ _)
theorem zsS {bs:List UInt8} (h:(zch rT bs).err≠11):¬ bs.length<6∧bs.getD 0 0=1∧(zah ((bs.drop 1).take 5)).1=0∧(zah ((bs.drop 1).take 5)).2.1≠0 ∧
  zch rT bs=⟨0,(zah ((bs.drop 1).take 5)).2.1,(zc6 rT (bs.drop 6) 6).map (·.2),zjN 6 (zc6 rT (bs.drop 6) 6),(0,0)⟩:=by
 unfold zch at h ⊢
 by_cases h1:bs.length<6∨bs.getD 0 0≠1
 ·rw[if_pos h1] at h;exact absurd rfl h
 ·rw[if_neg h1] at h ⊢
  by_cases h2:(zah ((bs.drop 1).take 5)).1=0∧(zah ((bs.drop 1).take 5)).2.1≠0
  ·rw[if_pos h2]
   exact ⟨fun h=>h1 (.inl h),Classical.byContradiction fun h=>h1 (.inr h),h2.1,h2.2,rfl⟩
  ·rw[if_neg h2] at h;exact absurd rfl h
theorem znX (v:Value) (bs:List UInt8) (w:World) (hB:Bs w v bs) (hl:bs.length≤2000000) (h:(zch rT bs).err≠11):Calls E 99 #[v] w (zii w (zch rT bs)):=by
 obtain ⟨A,c,rfl,h1,h2⟩:=xO hB;have H8:=P6 w 90 #[B C 0,D none 0 0,B C 0]
 have hX:Ext w (w.alloc (F #[B C 0,D none 0 0,B C 0] 90)):=xA (xR _) _
 obtain ⟨h6,H0,Ke,Kf,hr⟩:=zsS h;obtain ⟨_,b,Kg,rfl,hc⟩:=Bs.at_ hB (by omega);have Kp:=hX.cell (hc 0 (by omega));rw[Nat.add_zero] at Kp
 have e6:¬ ((bs.length:Int)<6):=by omega
 have H4:((bs[0].toNat:Int) != 1)=false:=by
  rw[P1,P2 (by omega)] at H0
  rw[show bs[0]=1 from H0];rfl
 have hp:=zeY hB 1 5 (by omega)
 have HI:((bs.drop 1).take 5).length=5:=by rw[P3,P0];omega
 obtain ⟨p,K2⟩:∃ p,(bs.drop 1).take 5=p:=⟨_,rfl⟩;rw[K2] at Ke Kf hp HI hr
 have key:=fun (W:World) (u:Value) (h:Bs W u p)=>zbN u p W h (by omega)
 obtain ⟨q,hq⟩:∃ q,zah p=q:=⟨_,rfl⟩
 have KV:q.2.1≤1073741824:=by rw[←hq];exact ziX
 rw[hq] at Ke Kf key hr;obtain ⟨er,n,rest⟩:=q;dsimp only at Ke Kf hr KV;subst Ke
 have Ks:¬ ((n:Int)<1):=by omega
 have Hg:=G key
 have K1:Bs w (D (I ⟨b,Kg+1,H⟩) 5 (c-1)) p:=SlR.capd hp (by rw[HI];omega) (by omega)
 have Hp:=G K1;have HB:=G hB;obtain ⟨L,hL⟩:∃ L,zc6 rT (bs.drop 6) 6=L:=⟨_,rfl⟩;rw[hL] at hr;have HL:=G hL;have Hr:=G hr
 have e5:(6:Int)≤(c:Int):=by omega
 have Hc:=G hc;clear hL hr hc
 generalize bs[0].toNat=q at *
 clear h hB key hq hp K1 K2 HI H0 Kf
 go_enter Tryz.func99,Tryz.ntmps99
 go_wp2_with fail
 first | (with_reducible refine (Hg.out _ _ (Hp.out.ext hX)).mono ?_) | (trace_state;fail)
 rintro e w1 ⟨v1,rfl,HG,H6⟩;dsimp only;have H0:=H8.ext H6;have H3:=xT hX H6
 have KN:Blk (w1.alloc (F #[B C (n:Int),D none 0 0,B C 6] 90)) w1.heap.size 90 #[B C (n:Int),D none 0 0,B C 6]:=P6 w1 _ _
 have Hi:Ext w (w1.alloc (F #[B C (n:Int),D none 0 0,B C 6] 90)):=xA H3 _
 have HX:=H0.alloc (F #[B C (n:Int),D none 0 0,B C 6] 90)
 have KX:w.heap.size<w1.heap.size:=by have:=H6.size;simp at this;omega
 clear HG;go_wp2_with fail
 go_loopw [8,9] (fun u8 u9 wr=>∃ (k:Nat) (H9:List (Nat×Ent)) (vl:Value),k≤bs.length∧Hid (L=H9++zc6 rT (bs.drop k) k)∧Hid (zjN 6 H9=k)∧H9.length*15≤k∧Blk wr w1.heap.size 90 #[B C (n:Int),vl,B C k] ∧
   OwnE wr w.heap.size vl (H9.map (·.2))∧Blk wr w.heap.size 90 #[B C 0,D none 0 0,B C 0]∧Ext w wr) (fun _ _ wr=>bs.length+30-zen wr w1.heap.size)
 case atStart=>exact ⟨6,[],_,by omega,HL.out.symm,rfl,by simp,KN,P7 _ _ _ _,HX,Hi⟩
 case round =>
  obtain ⟨k,H9,vl,hk,Ha,Hq,HI,K5,hO,HT,hE⟩:=hrel;obtain ⟨g0,g1,g2,f0,f1,f2⟩:=zba K5
  by_cases Kc:k+15≤bs.length
  ·have H5:=zeY HB.out k 15 Kc
   obtain ⟨p15,H7⟩:∃ p,(bs.drop k).take 15=p:=⟨_,rfl⟩
   have Hs:p15.length=15:=by rw[←H7,P3,P0];omega
   rw[H7] at H5
   have Ho:¬ (bs.drop k).length<15:=by rw[P0];omega
   have Kq:(bs.drop k).drop 15=bs.drop (k+15):=by rw[List.drop_drop]
   have Hx:Bs wr (D (I ⟨b,Kg+k,H⟩) 15 (c-k)) p15:=(SlR.capd H5 (by rw[Hs];omega) (by omega)).ext hE
   have key:=zmG _ p15 wr Hx Hs;have Hf:=Ha.out
   have ec:(k:Int)+15≤(c:Int):=by omega
   cases ht:zfL rT p15 with
   | none =>
    rw[ht] at key
    rw[zpO Ho (by rw[H7];exact ht),P5] at Hf
    have Ht:=G Hf;have Hg:=G key;clear key ht Hx H5 H7 Kq Ho Hf Ha Hc;go_wp2_with fail
    first | (with_reducible refine Hg.out.mono ?_) | (trace_state;fail)
    rintro e w5 ⟨⟨x0,x1,x2,rfl⟩,HW⟩
    have H2:Ext wr (w5.alloc (F #[B C x0,B C x1,B C x2] 54)):=xA HW _
    have Hb:=K5.ext H2;have Hu:=HT.ext H2;have KM:=zab hO H2;have Km:=xT hE H2;clear g0 g1 g2 f0 f1 f2;obtain ⟨g0,g1,g2,f0,f1,f2⟩:=zba Hb;obtain ⟨r0,r1,r2,s0,s1,s2⟩:=zba Hu;obtain ⟨Al,cl,rfl,_,_⟩:=xO (xW hO);go_wp2_with fail
    refine bodyPost_ret (zd5 _ _ _ _ _ rfl rfl (zbL Hu _ _ _) rfl) rfl ?_
    rw[Hr.out]
    refine ⟨D Al (H9.map (·.2)).length cl,?_,?_,zbM Km (xN _) _ _ _⟩
    ·dsimp only;rw[Ht.out,Hq.out,P4];rfl
    ·dsimp only;rw[Ht.out];exact zfC Hu (by decide) KM _ _ _
   | some x =>
    rw[ht] at key
    rw[zpP Ho (by rw[H7];exact ht),Kq] at Hf
    have Ht:=G Hf;have Hg:=G key
    have Kn:(H9.map (·.2)).length=H9.length:=by rw[P4]
    obtain ⟨P,hP⟩:∃ P,H9.map (·.2)=P:=⟨_,rfl⟩;rw[hP] at hO Kn;have HP:=G hP;have KK:=G Kn;clear hP Kn;clear key ht Hx H5 H7 Kq Ho Hf Ha Hc;go_wp2_with fail
    first | (with_reducible refine Hg.out.mono ?_) | (trace_state;fail)
    rintro e w5 ⟨rfl,HW⟩
    have H2:Ext wr (w5.alloc (F #[B C x.t,B C x.k,B C x.v] 54)):=xA HW _
    have Hb:=K5.ext H2;have HM:=P6 w5 54 #[B C x.t,B C x.k,B C x.v];have Kr:=zqZ (w5.alloc (F #[B C x.t,B C x.k,B C x.v] 54)) x;rw[xS] at Kr
    have Hk:Ext (w5.alloc (F #[B C x.t,B C x.k,B C x.v] 54)) ((w5.alloc (F #[B C x.t,B C x.k,B C x.v] 54)).alloc (F #[B C x.t,B C x.k,B C x.v] 54)):=xA (xR _) _
    have K7:=zab hO (xT H2 Hk);have HV:=xT hE (xT H2 Hk);have Hw:=Hb.ext Hk;have Hv:=HT.ext (xT H2 Hk);clear g0 g1 g2 f0 f1 f2;obtain ⟨g0,g1,g2,f0,f1,f2⟩:=zba Hb;obtain ⟨r0,r1,r2,_,_,_⟩:=zba HM;obtain ⟨Al,cl,rfl,_,_⟩:=xO (xW hO)
    have KT:P.length+[x].length≤2000000:=by rw[KK.out];simp;omega
    go_wp2_with (at_builtin;refine zm8 rfl (.tmp 57) (.tmp 59) rfl w.heap.size _ P rfl K7 _ [x] rfl Kr (by simp at KT ⊢;omega) HV.size ?_;intro A8 c8 w8 Kv KD HF;have KL:Ext w w8:=KD w HV (xN _);refine Hid.out ?_)
    refine G ?_
    have Hh:=Hw.kept HF (Hw.not_row (by decide) K7);have Kl:=Hv.kept HF (Hv.not_row (by decide) K7)
    simp only[xC,List.length_nil,Nat.zero_add] at Kv ⊢
    clear g0 g1 g2 f0 f1 f2 r0 r1 r2 Hw Hv Hb K7 Kr HF KD;obtain ⟨g0,g1,g2,f0,f1,f2⟩:=zba Hh;go_wp2_with fail
    go_roundw
    case rel =>
     have Ks:=Hh.set 1 (D A8 (P.length+1) c8);have Kt:=Ks.set 2 (B C ((k+15:Nat):Int))
     have H4:w.heap.size≠w1.heap.size:=by omega
     have r1:=Kv.kept (zad _ w1.heap.size 1 (D A8 (P.length+1) c8)) (.inr (Hh.not_row (by decide) Kv).symm);have r2:=r1.kept (zad _ w1.heap.size 2 (B C ((k+15:Nat):Int))) (.inr (Ks.not_row (by decide) r1).symm)
     refine ⟨k+15,H9++[(k+15,x)],_,Kc,?_,?_,?_,Kt,?_,(Kl.other H4 1 _).other H4 2 _,Below.setCell (p:=⟨w1.heap.size,2,H⟩) (Below.setCell (p:=⟨w1.heap.size,1,H⟩) KL (by show w.heap.size≤w1.heap.size;omega) _) (by show w.heap.size≤w1.heap.size;omega) _⟩
     ·show L=_;rw[Ht.out,List.append_assoc];rfl
     ·exact zpB H9 _ 6
     ·rw[xL];simp;omega
     ·rw[List.map_append,HP.out];exact r2
    case measure =>
     have Kt:=(Hh.set 1 (D A8 (P.length+1) c8)).set 2 (B C ((k+15:Nat):Int))
     have e1:zen wr w1.heap.size=k:=by unfold zen;rw[K5.cell 2 rfl];simp
     have e2:zen ((w8.setCell ⟨w1.heap.size,1,H⟩ (D A8 (P.length+1) c8)).setCell ⟨w1.heap.size,2,H⟩ (B C ((k+15:Nat):Int))) w1.heap.size=k+15:=by unfold zen;rw[Kt.cell 2 rfl];simp;omega
     have e3:((k:Int)+15)=((k+15:Nat):Int):=by omega
     rw[e1,e3,e2];omega
  ·have HZ:zc6 rT (bs.drop k) k=[]:=znR (by rw[P0];omega)
   have Hf:=Ha.out;rw[HZ,P5] at Hf;have Ht:=G Hf
   have J6:¬ ((k:Int)+15≤(bs.length:Int)):=by omega
   obtain ⟨r0,r1,r2,s0,s1,s2⟩:=zba HT;obtain ⟨Al,cl,rfl,_,_⟩:=xO (xW hO);clear HZ Hf Ha;go_wp2_with fail
   refine bodyPost_ret (zd5 _ _ _ _ _ rfl rfl (zbL HT _ _ _) rfl) rfl ?_
   rw[Hr.out]
   refine ⟨D Al (H9.map (·.2)).length cl,?_,?_,zbM hE (xN _) _ _ _⟩
   ·dsimp only;rw[Ht.out,Hq.out,P4];rfl
   ·dsimp only;rw[Ht.out];exact zfC HT (by decide) hO _ _ _
theorem zmD (v:Value) (bs:List UInt8) (w:World) (hB:Bs w v bs) (hl:bs.length≤2000000):Calls E 99 #[v] w (zii w (zch rT bs)):=by
 by_cases h:(zch rT bs).err=11
 ·exact zmE v bs w hB hl h
 ·exact znX v bs w hB hl h
theorem zhk (tmps:Array Value) (W:World) (b:Nat) (cs:Array Value) (u:Value) (h2:tmps.getD 4 undef=J (I ⟨b,0,H⟩)) (h3:tmps.getD 5 undef=u) (hb:Blk W b 90 cs) (hs:cs.size=3):(results Tryz.f49 tmps).run E W=.ok (.tuple #[.agg cs,u]) W:=by
 have hl:=hb.load (P:=E) zty rfl (by rw[hs];kernel_rfl)
 have HQ:tmps[4]?.getD undef=J (I ⟨b,0,H⟩):=by simpa using h2
 have HS:tmps[5]?.getD undef=u:=by simpa using h3
 simp[results,Tryz.results49,HQ,HS,asAddr,hl]
theorem zlm (v:Value) (bs:List UInt8) (m:Int) (w:World) (hB:Bs w v bs) (hl:bs.length≤2000000):Calls E 49 #[v,B C m] w (zii w (zdj rT bs m)):=by
 have H8:=P6 w 90 #[B C 0,D none 0 0,B C 0]
 have hX:Ext w (w.alloc (F #[B C 0,D none 0 0,B C 0] 90)):=xA (xR _) _
 by_cases h1:m=1
 ·subst h1
  have hr:zdj rT bs 1=zch rT bs:=rfl
  rw[hr];have key:=zmD v bs _ (hB.ext hX) hl;obtain ⟨r,hr⟩:∃ r,zch rT bs=r:=⟨_,rfl⟩
  exact mcRonea0
 ·by_cases h2:m=2
  ·subst h2
   have hr:zdj rT bs 2=zdE bs:=rfl
   rw[hr];have key:=znY v bs _ (hB.ext hX) hl;obtain ⟨r,hr⟩:∃ r,zdE bs=r:=⟨_,rfl⟩
   exact mcRonea0
  ·have hr:zdj rT bs m=⟨2,0,[],0,(0,0)⟩:=by unfold zdj;rw[if_neg h1,if_neg h2]
   have Hr:=G hr;clear hr;obtain ⟨g0,g1,g2,f0,f1,f2⟩:=zba H8
   go_enter Tryz.func49,Tryz.ntmps49
   go_wp2_with fail
   refine bodyPost_ret (zhk _ _ _ _ _ rfl rfl H8 rfl) rfl ?_
   rw[Hr.out]
   exact ⟨_,rfl,P7 _ _ _ _,hX⟩
end Go.Proofs.YteggfecbjgbndaaGreatDoor
