/- Merged -/
import Derived.Test.YteggfecbjgbndaaGreatDoorZw37
import Derived.Test.YteggfecbjgbndaaGreatDoorZw44
set_option linter.all false
set_option maxHeartbeats 8000000
set_option maxRecDepth 100000
open Go.Value renaming int→E,slice→G,bool→J,pointer→U,string→V
open Go.IntKind renaming i64→F
open Go.Mv renaming zhd→I
open Go.Obj renaming cells→L
open Option renaming some→M,none→O
open Go.Proofs.Tryz renaming prog→Q
open Go.Proofs.YteggfecbjgbndaaGreatDoor.Fs renaming open_→P0,setBox→P1
open Go.Mv.Blk renaming new→P2
open List renaming take_succ_eq_append_getElem→P3,take_length→P4,map_append→P5
namespace Go.Proofs.YteggfecbjgbndaaGreatDoor
open Go.RowKit Go.Mv Go.Shelf
theorem zrA {fs:List Fil} {j:Nat} (h:j<fs.length) (ns:List (List UInt8)):zbi (fs.take (j+1)) ns=zbi (fs.take j) ns++(if fs[j].1∈ns then [] else [fs[j].1]):=by
 rw[P3 h];unfold zbi;rw[P5,List.filter_append]
 congr 1
 by_cases h2:fs[j].1∈ns <;> simp[h2]
theorem zpF {ks:List (Int×Int×Int)} {k:Nat} (h:k<ks.length):zaq (ks.take (k+1))=zaq (ks.take k)++(zaw ks[k].1 ks[k].2.1 ks[k].2.2).toList:=by
 rw[P3 h,ziM]
structure R5I (w:World) (l:List (List UInt8)) (v:Value) (W:World):Prop where
 sl:∃ A c,v=G A l.length c
 o:W.ownsRow w.heap.size 9 1 v l.length (l.map sv)
 e:Ext w W
theorem zoN (v:Value) (fs:List Fil) (vk:Value) (ks:List (Int×Int×Int)) (w:World) (hS:StW w) (hF:Fs w v fs) (hK:SlR w 3 vk ks.length (zaM ks)) (hl:fs.length≤1000000) (Jt:ks.length≤1000000) :
  Calls Q 59 #[v,vk] w fun e w'=>(∃ A c,e=.returned (G A (zbi fs (zaq ks)).length c)∧w'.ownsRow w.heap.size 9 1 (G A (zbi fs (zaq ks)).length c) (zbi fs (zaq ks)).length ((zbi fs (zaq ks)).map sv))∧Ext w w':=by
 obtain ⟨A,c,rfl,_,_⟩:=P0 hF;obtain ⟨B,e2,rfl,_,_⟩:=xO hK;have HS:=I hS;have HF:=I hF;have Kq:=I hK;clear hF hK hS;obtain ⟨i0,hi,Kj,Hq,Hr⟩:=info_parts zi8
 go_enter Tryz.func59,Tryz.ntmps59
 go_wp2_with fail
 go_loopw [5,6] (fun o i wr=>∃ j:Nat,j≤fs.length∧i=E F j∧Hid (R5I w (zbi (fs.take j) (zaq ks)) o wr)) (fun _ i _=>fs.length-(intOf i).toNat)
 case atStart=>exact ⟨0,by omega,rfl,⟨⟨none,0,rfl⟩,⟨rfl,.inl ⟨rfl,rfl⟩⟩,xR _⟩⟩
 case round =>
  obtain ⟨j,hj,rfl,HI⟩:=hrel
  by_cases hlt:j<fs.length
  ·have Ju:(j:Int)<(fs.length:Int):=by omega
   obtain ⟨_,b,K6,rfl,hc⟩:=HF.out.at_ (by omega);obtain ⟨Ho,_⟩:=hc j hlt;have He:=zrA hlt (zaq ks);obtain ⟨n,hn⟩:∃ n,fs[j].1=n:=⟨_,rfl⟩;rw[hn] at Ho He;have K9:=I He;have Ko:=I Ho;clear hc He hn Ho;go_wp2_with fail
   go_loopw [7,8] (fun kp i Hf=>∃ k:Nat,k≤ks.length∧i=E F k∧kp=.bool (decide (n∈zaq (ks.take k)))∧Hid (Ext wr Hf)) (fun _ i _=>ks.length-(intOf i).toNat)
   case atStart=>exact ⟨0,by omega,rfl,by simp[zaq],xR _⟩
   case round =>
    rename World=>Hf
    obtain ⟨k,hk,rfl,rfl,HE⟩:=hrel
    by_cases hlt2:k<ks.length
    ·have Jj:(k:Int)<(ks.length:Int):=by omega
     have H9:=xT HI.out.e HE.out;obtain ⟨_,b2,Jo,rfl,hc⟩:=(SlR.ext Kq.out H9).at_ (by omega);obtain ⟨x0,x1,x2⟩:=zjM ks hlt2;have c0:=hc _ _ x0;have c1:=hc _ _ x1;have c2:=hc _ _ x2;have KA:=zpF hlt2;have KX:=Ko.out
     have cn:Hf.cell? ⟨b,K6+j*2,O⟩=M (sv n):=(H9).cell KX
     generalize ks[k]=x at *
     obtain ⟨xk,xs,xf⟩:=x
     dsimp only at *
     obtain ⟨nm,KY⟩:∃ nm,zaw xk xs xf=nm:=⟨_,rfl⟩;have HN:=I (zgn xk xs xf Hf (HS.out.ext H9));rw[KY] at HN KA;have Hw:=I KA;clear hc x0 x1 x2 KA KY KX H9;rw[←Nat.add_assoc] at c1 c2
     have call:∀ {K:Ending→World→Prop},(∀ w1,Ext Hf w1→K (.returned (.tuple #[sv (nm.getD []),E F (if nm.isSome=true then 0 else 2)])) w1)→Calls Q 53 #[.agg #[E .u8 xk,E F xs,E F xf]] Hf K:=fun h=>HN.out.mono (by rintro e w1 ⟨rfl,H6⟩;exact h w1 H6)
     have Hb:=I (fun (K:Ending→World→Prop) h=>@call K h)
     clear call HN
     by_cases hkp:n∈zaq (ks.take k)
     ·have hd:decide (n∈zaq (ks.take k))=true:=by simpa using hkp
      have Hp:decide (n∈zaq (ks.take (k+1)))=true:=by rw[Hw.out];simp[hkp]
      rw[hd];have HH:=I Hp;clear hkp hd Hp Hw;go_wp2_with fail
      refine Hb.out _ (fun w1 H6=>?_)
      go_wp2_with fail
      go_roundw
      case rel=>exact ⟨k+1,by omega,by go_num,by rw[HH.out],xT HE.out H6⟩
      case measure=>simp[intOf];omega
     ·have hd:decide (n∈zaq (ks.take k))=false:=by simpa using hkp
      rw[hd]
      cases nm with
      | none =>
       have Hp:decide (n∈zaq (ks.take (k+1)))=false:=by rw[Hw.out];simp[hkp]
       have HH:=I Hp;clear hkp hd Hp Hw;simp only[Option.getD_none,Option.isSome_none,Bool.false_eq_true,if_false,sv] at Hb;go_wp2_with fail
       refine Hb.out _ (fun w1 H6=>?_)
       go_wp2_with fail
       go_roundw
       case rel=>exact ⟨k+1,by omega,by go_num,by rw[HH.out],xT HE.out H6⟩
       case measure=>simp[intOf];omega
      | some nm =>
       simp only[Option.getD_some,Option.isSome_some,if_true] at Hb
       have Hp:decide (n∈zaq (ks.take (k+1)))=(nm==n):=by
        rw[Hw.out,Bool.eq_iff_iff]
        simp[hkp]
        exact eq_comm
       have HH:=I Hp;clear hkp hd Hp Hw;unfold sv at Hb cn;go_wp2_with fail
       refine Hb.out _ (fun w1 H6=>?_)
       have Jq:=H6.cell cn;clear cn c0 c1 c2;go_wp2_with fail
       go_roundw
       case rel=>exact ⟨k+1,by omega,by go_num,by rw[HH.out],xT HE.out H6⟩
       case measure=>simp[intOf];omega
    ·obtain rfl:k=ks.length:=by omega
     have H9:=xT HI.out.e HE.out
     have cn:Hf.cell? ⟨b,K6+j*2,O⟩=M (sv n):=H9.cell Ko.out
     have Hu:=zab HI.out.o HE.out;obtain ⟨A1,c1,hv⟩:=HI.out.sl;rw[P4]
     by_cases hkp:n∈zaq ks
     ·have hd:decide (n∈zaq ks)=true:=by simpa using hkp
      rw[hd];have He:=K9.out;rw[if_pos hkp,List.append_nil] at He;have HK:=I He
      have Kp:=I (show R5I w (zbi (fs.take (j+1)) (zaq ks)) _ Hf from by rw[He];exact ⟨HI.out.sl,Hu,H9⟩)
      clear hkp hd He K9 Hu H9 cn;go_wp2_with fail
      go_roundw
      case rel=>exact ⟨j+1,by omega,by go_num,Kp⟩
      case measure=>simp[intOf];omega
     ·have hd:decide (n∈zaq ks)=false:=by simpa using hkp
      rw[hd];have He:=K9.out;rw[if_neg hkp] at He
      have K3:(zbi (fs.take j) (zaq ks)).length≤1000000:=by
       have h1:=zjf (fs.take j) (zaq ks);rw[List.length_take] at h1;omega
      have HK:=I He;have HJ:=I K3;have Jp:=I H9.size;have KI:=I H9;rw[hv] at Hu
      generalize zbi (fs.take j) (zaq ks)=N at *
      subst hv;have HO:=I Hu
      have hX:Ext Hf (Hf.alloc (L #[sv n] 9)):=xA (xR _) _
      have HX:=I hX;have KK:=I (zda Hf [sv n] 9 1 rfl rfl);clear hkp hd He K9 Hu H9 K3 hX Ko;unfold sv at cn HX KK
      go_wp2_with (at_builtin;refine zaC _ rfl (.tmp 47) (.tmp 53) 102 rfl w.heap.size 9 i0 _ 1 16 Tryz.underlying102 hi Kj Hq Hr rfl (by decide) _ N.length (N.map sv) rfl (zab HO.out HX.out) _ 1 [sv n] rfl KK.out (zmo [n]) (by have:=HJ.out;unfold maxLen;omega) (by have:=HJ.out;omega) (xT KI.out HX.out).size ?_;intro v3 W3 K4 KT)
      obtain ⟨A3,c3,rfl,_,_⟩:=xO (xW K4)
      have HW:Ext w W3:=Ext.grownOwn (xT KI.out HX.out) (zaf (zab HO.out HX.out) (xN _)) KT
      have Kp:=I (show R5I w (zbi (fs.take (j+1)) (zaq ks)) (G A3 (N.length+1) c3) W3 from by rw[HK.out];exact ⟨⟨A3,c3,by simp⟩,by rw[xL,P5];exact K4,HW⟩)
      clear K4 KT HW;go_wp2_with fail
      go_roundw
      case rel=>exact ⟨j+1,by omega,by go_num,Kp⟩
      case measure=>simp[intOf];omega
  ·obtain rfl:j=fs.length:=by omega
   have hI:=HI.out;rw[P4] at hI;obtain ⟨A1,c1,hv⟩:=hI.sl;subst hv;have HE:=I hI.e;have HO:=I hI.o;clear hI HI;go_wp2_with fail;go_ret
   exact ⟨⟨A1,c1,rfl,HO.out⟩,HE.out⟩
theorem mcR8ba0 {P:Prop} (h:P:=by
 obtain ⟨⟨D,r1⟩,Kd⟩:∃ y,dk.doS (za0 x)=y:=⟨_,rfl⟩;have Hl:=I (Hm.out.doS (za0 x))
 rw[Kd] at H7 ⊢
 have Hx:=HS.out;rw[KF.out] at Hx;simp only[zbT] at Hx;rw[Kd] at Hx;rw[Kd] at Hl
 dsimp only at H7 Hx Hl ⊢
 obtain ⟨K7,K8,rfl,H5,H3⟩:=H7;obtain ⟨Af,cf,rfl,_,_⟩:=P0 H5;obtain ⟨Aq,cq,rfl,_,_⟩:=Qs.open_ H3;obtain ⟨x0,x1,x2,x3,x4⟩:=zaa Ha;obtain ⟨y0,y1,y2,y3,y4⟩:=zam Ha;have HP:=I ((H.out.ext Hz).oth Ha H5 H3 (by omega) (by omega));have Kr:=I (zis Ha (by decide) (zab HO.out Hz) (G Af D.fs.length cf) (G Aq D.q.length cq) (E F D.quota) (E F D.fuse) (J D.dead));have Ka:=I Hx
 have KO:Ext wr (zaR w5 bo (G Af D.fs.length cf) (G Aq D.q.length cq) (E F D.quota) (E F D.fuse) (J D.dead)):=zae Hz K2 (G Af D.fs.length cf) (G Aq D.q.length cq) (E F D.quota) (E F D.fuse) (J D.dead)
 clear H5 H3 Ha Hz HO H Hm HS KF Hx Kd
 refine ar1 11 (fun K hK=>?_)
 go_simp
 show K _ (zaR w5 bo (G Af D.fs.length cf) (G Aq D.q.length cq) (E F D.quota) (E F D.fuse) (J D.dead))
 clear x0 x1 x2 x3 x4 y0 y1 y2 y3 y4
 generalize zaR w5 bo (G Af D.fs.length cf) (G Aq D.q.length cq) (E F D.quota) (E F D.fuse) (J D.dead)=w9 at *
 refine shK hK _ _ (Hy.out _ KO) (fun _=>?_)
 refine tkN 12 ?_;refine wdD ?_;clear KO K2 Kg Hy;obtain ⟨x0,x1,x2,x3,x4⟩:=zaa HP.out.1
 by_cases hr1:r1=0
 case neg =>
  have KD:(r1 != 0)=true:=by simpa using hr1
  have hs:=Ka.out;rw[if_neg hr1] at hs;subst hs;have HG:=I (Pt.give HP.out.2.2.2 (xR _) HP.out.2.1 HP.out.2.2.1 (Nat.lt_succ_self _));have Ht:=HP.out.2.2.2.br;obtain ⟨z0,z1,z2,z3,z4⟩:=zaa Ht;obtain ⟨y0,y1,y2,y3,y4⟩:=zam Ht;clear Ht Ka hr1 HP Kr;go_wp2_with fail
  refine bodyPost_ret (zgW _ _ _ _ _ rfl rfl HG.out.1 rfl) rfl ?_
  exact ⟨⟨_,rfl,⟨_,_,rfl,HG.out.2.1,HG.out.2.2.1⟩⟩,HG.out.2.2.2⟩
 have hs:=Ka.out;rw[if_pos hr1] at hs;subst hr1;have H8:=HP.out.2.2.2.b0;obtain ⟨z0,z1,z2,z3,z4⟩:=zaa H8;obtain ⟨y0,y1,y2,y3,y4⟩:=zam H8;have HG:=I (Pt.store HP.out.2.2.2 (xR _) HP.out.2.1 HP.out.2.2.1 (Nat.lt_succ_self _));have Jc:=I (zis H8 (by decide) Kr.out (G Af D.fs.length cf) (G Aq D.q.length cq) (E F D.quota) (E F D.fuse) (J D.dead));have Je:=I hs;clear H8 hs Ka HP Kr;go_wp2_with fail
 go_roundw
 case rel=>exact ⟨k+1,by have:=Hg.out.1;omega,by go_num,D,_,_,_,_,HG.out,Je.out,Hl.out.mono (by simp[za0];omega),Jc.out⟩
 case measure=>simp[intOf];have:=Hg.out.1;omega):P:=h
theorem zis {W:World} {b:Nat} {t:TypeId} {cs:Array Value} (hB:Blk W b t cs) {e:TypeId} (K5:t≠e) {base size k:Nat} {vv:Value} {xs:List Value} (hr:W.ownsRow base e size vv k xs) (a v u x y:Value):(zaR W b a v u x y).ownsRow base e size vv k xs:=by
 have b0:=hB.set 0 a;have b1:=b0.set 1 v;have b2:=b1.set 2 u;have b3:=b2.set 3 x
 exact zb3 b3 K5 (zb3 b2 K5 (zb3 b1 K5 (zb3 b0 K5 (zb3 hB K5 hr a) v) u) x) y
theorem Pt.oth {w W:World} {r bo:Nat} {A B Af Aq:Option Addr} {c e cf cq:Nat} {d D:Dk} (h:Pt w W r A c B e d) (hb:Blk W bo 25 (zan none 0 0 none 0 0 0 0 false)) (hf:Fs W (G Af D.fs.length cf) D.fs) (hq:Qs W (G Aq D.q.length cq) D.q) (h0:w.heap.size<bo) (hr:r<bo) :
  Blk (zaR W bo (G Af D.fs.length cf) (G Aq D.q.length cq) (E F D.quota) (E F D.fuse) (J D.dead)) bo 25 (zan Af D.fs.length cf Aq D.q.length cq D.quota D.fuse D.dead)∧Fs (zaR W bo (G Af D.fs.length cf) (G Aq D.q.length cq) (E F D.quota) (E F D.fuse) (J D.dead)) (G Af D.fs.length cf) D.fs∧Qs (zaR W bo (G Af D.fs.length cf) (G Aq D.q.length cq) (E F D.quota) (E F D.fuse) (J D.dead)) (G Aq D.q.length cq) D.q∧Pt w (zaR W bo (G Af D.fs.length cf) (G Aq D.q.length cq) (E F D.quota) (E F D.fuse) (J D.dead)) r A c B e d :=
 ⟨zal hb _ _ _ _ _,P1 hb hf _ _ _ _ _,Qs.setBox hb hq _ _ _ _ _,⟨zhX h.b0 (by omega) _ _ _ _ _,zhX h.br (by omega) _ _ _ _ _,P1 hb h.f _ _ _ _ _,Qs.setBox hb h.q _ _ _ _ _,zae h.e (by omega) _ _ _ _ _⟩⟩
theorem zgW (tmps:Array Value) (W:World) (b:Nat) (cs:Array Value) (e:Value) (h4:tmps.getD 4 undef=U (M ⟨b,0,O⟩)) (h3:tmps.getD 5 undef=e) (hb:Blk W b 25 cs) (hs:cs.size=5):(results Tryz.f21 tmps).run Q W=.ok (.tuple #[.agg cs,e]) W:=by
 have HU:tmps[4]?.getD undef=U (M ⟨b,0,O⟩):=by simpa using h4
 have HQ:tmps[5]?.getD undef=e:=by simpa using h3
 have hl:=hb.load (P:=Q) zc3 rfl (by rw[hs];kernel_rfl)
 simp[results,Tryz.results21,HU,HQ,asAddr,hl,Sem.run_bind,Sem.run_pure,Result.andThen_ok]
theorem zoG (v:Value) (d:Dk) (n:Nat) (vk:Value) (ks:List (Int×Int×Int)) (w:World) (hS:StW w) (hD:DkV w v d) (hs:Sz n d) (hK:SlR w 3 vk ks.length (zaM ks)) (KU:ks.length≤1000000) (hn:n≤200000) :
  Calls Q 21 #[v,vk] w fun e w'=>(∃ u,e=.returned (.tuple #[u,E F (zeB d (zaq ks)).2])∧DkV w' u (zeB d (zaq ks)).1)∧Ext w w':=by
 obtain ⟨vf,vq,rfl,hF,hQ⟩:=hD;obtain ⟨A,c,rfl,_,_⟩:=P0 hF;obtain ⟨B,e2,rfl,_,_⟩:=Qs.open_ hQ;obtain ⟨C,c2,rfl,_,_⟩:=xO hK;obtain ⟨W0,Hi⟩:∃ W0,(w.alloc (L #[G A d.fs.length c,G B d.q.length e2,E F d.quota,E F d.fuse,J d.dead] 25)).alloc (L #[G none 0 0,G none 0 0,E F 0,E F 0,J false] 25)=W0:=⟨_,rfl⟩
 have Hh:Ext w W0:=by rw[←Hi];exact xA (xA (xR _) _) _
 have h0:Blk W0 w.heap.size 25 (zan A d.fs.length c B d.q.length e2 d.quota d.fuse d.dead):=by rw[←Hi];exact (P2 w _ _).alloc _
 have h2:Blk W0 (w.heap.size+1) 25 (zan none 0 0 none 0 0 0 0 false):=by
  rw[←Hi]
  have:=P2 (w.alloc (L #[G A d.fs.length c,G B d.q.length e2,E F d.quota,E F d.fuse,J d.dead] 25)) 25 #[G none 0 0,G none 0 0,E F 0,E F 0,J false]
  rwa [xS] at this
 have H:Hid (Pt w W0 (w.heap.size+1) A c B e2 d):=I ⟨h0,h2,hF.ext Hh,hQ.ext Hh,Hh⟩
 have Kb:=I hS;have Kq:=I hK;have HZ:=I hs;have J6:=I KU;have Hs:=I hn;have Jk:=zfg d;have Kz:=zjf d.now (zaq ks);have Jm:=hs.l;have Jn:=hs.t;obtain ⟨T,hT⟩:∃ T,zeB d (zaq ks)=T:=⟨_,rfl⟩;rw[hT];unfold zeB at hT;have HT:=I hT
 have J9:=I (show d.now.length≤1000000 by omega)
 have KJ:=I (show (zbi d.now (zaq ks)).length≤n by omega)
 have key:=zfl _ d W0 H.out.dk (by omega) (by omega);have H4:=I key;obtain ⟨g0,g1,g2,g3,g4⟩:=zaa h0;clear h0 h2 hF hQ Hh hs hS hK KU hn Jk Kz Jm Jn hT key
 go_enter Tryz.func21,Tryz.ntmps21
 go_wp2_with fail;clear Hi
 refine H4.out.mono ?_
 rintro e w1 ⟨u,rfl,⟨A1,c1,B1,e1,rfl,KZ,J0⟩,H6⟩;clear g0 g1 g2 g3 g4 H4;have H8:=H.out.b0.ext H6;obtain ⟨g0,g1,g2,g3,g4⟩:=zaa H8;obtain ⟨f0,f1,f2,f3,f4⟩:=zam H8
 replace H:=I (H.out.store H6 KZ.fs J0.qs (Nat.lt_succ_self _))
 clear H8 KZ J0 H6;have key:=zfk _ d _ H.out.dk (by have:=HZ.out.l;have:=Hs.out;omega) (by have:=HZ.out.t;have:=Hs.out;omega);have H4:=I key;clear key;go_wp2_with fail;clear g0 g1 g2 g3 g4 f0 f1 f2 f3 f4
 refine H4.out.mono ?_
 rintro e w2 ⟨⟨vl,rfl,Ky⟩,H9⟩;obtain ⟨AL,cL,rfl,_,_⟩:=P0 Ky
 replace H:=I (H.out.ext H9)
 have key:=zoN _ d.now _ ks w2 (Kb.out.ext H.out.e) Ky (SlR.ext Kq.out H.out.e) J9.out J6.out
 replace H4:=I key
 clear H9 Ky key;go_wp2_with fail
 refine H4.out.mono ?_
 rintro e w3 ⟨⟨AN,cN,rfl,KP⟩,HW⟩
 replace H:=I (H.out.ext HW)
 have Jd:=I KP;clear KP HW H4
 generalize zbi d.now (zaq ks)=N at *
 go_wp2_with fail
 go_loopw [7] (fun i wr=>∃ k:Nat,k≤N.length∧i=E F k∧∃ dk A c B e,Hid (Pt w wr (w.heap.size+1) A c B e dk)∧Hid (zbT false dk ((N.drop k).map za0)=T)∧Hid (Sz (n+k) dk)∧Hid (wr.ownsRow w2.heap.size 9 1 (G AN N.length cN) N.length (N.map sv))) (fun i _=>N.length-(intOf i).toNat)
 case atStart=>exact ⟨0,Nat.zero_le _,rfl,d,_,_,_,_,H.out,HT.out,HZ.out,Jd.out⟩
 case round =>
  obtain ⟨k,hk,rfl,dk,Ak,ck,Bk,ek,H,HS,Hm,HO⟩:=hrel;obtain ⟨g0,g1,g2,g3,g4⟩:=zaa H.out.b0
  by_cases hlt:k<N.length
  ·obtain ⟨_,b,K6,Ji,hc⟩:=SlR.at_ (xW HO.out) (by omega)
   subst Ji;have Ho:=hc k (sv N[k]) (by rw[List.getElem?_map,List.getElem?_eq_getElem hlt];rfl)
   have K1:(N.drop k).map za0=za0 N[k]::(N.drop (k+1)).map za0:=by rw[List.drop_eq_getElem_cons hlt];rfl
   have KF:=I K1
   have Js:(k:Int)<(N.length:Int):=by omega
   have Jr:N.length≤200000:=Nat.le_trans KJ.out Hs.out
   have Hg:=I (show k<N.length∧N.length≤n from ⟨hlt,KJ.out⟩)
   clear hc K1
   generalize N[k]=x at *
   simp only[sv,Nat.mul_one] at Ho;go_wp2_with fail
   have Hy:=I (fun W (h:Ext wr W)=>show W.cell? ⟨w.heap.size,0,O⟩=M (G Ak dk.fs.length ck)∧W.cell? ⟨w.heap.size,1,O⟩=M (G Bk dk.q.length ek)∧W.cell? ⟨w.heap.size,2,O⟩=M (E F dk.quota)∧W.cell? ⟨w.heap.size,3,O⟩=M (E F dk.fuse)∧W.cell? ⟨w.heap.size,4,O⟩=M (J dk.dead)∧W.cell? ⟨b,K6+k,O⟩=M (V ⟨x.toArray⟩) from ⟨h.cell g0,h.cell g1,h.cell g2,h.cell g3,h.cell g4,h.cell Ho⟩)
   refine wp_region_held_drew (S:=fun W=>W.cell? ⟨w.heap.size,0,O⟩=M (G Ak dk.fs.length ck)∧W.cell? ⟨w.heap.size,1,O⟩=M (G Bk dk.q.length ek)∧W.cell? ⟨w.heap.size,2,O⟩=M (E F dk.quota)∧W.cell? ⟨w.heap.size,3,O⟩=M (E F dk.fuse)∧W.cell? ⟨w.heap.size,4,O⟩=M (J dk.dead)∧W.cell? ⟨b,K6+k,O⟩=M (V ⟨x.toArray⟩)) (by kernel_rfl) ⟨g0,g1,g2,g3,g4,Ho⟩ (fun _=>?_)
   refine tkN 0 ?_;refine tkN 1 ?_;refine tkN 2 ?_;refine tkN 3 ?_;refine tkN 4 ?_;refine tkN 5 ?_;clear Ho g0 g1 g2 g3 g4
   refine AllReadyH.two (i:=6) (j:=10) rfl rfl (by kernel_rfl) (by rfl) (by rfl) (fun K hK=>?_) (fun K hK=>?_)
   ·go_simp
    refine (zgw _ dk (za0 x) (G none 0 0) _ (H.out.ext (xD (xR _))).dk (SlR.nil _ 1) (by have:=Hm.out.l;have:=Hs.out;have:=Hg.out.1;have:=Hg.out.2;omega) (by have:=Hm.out.t;have:=Hs.out;have:=Hg.out.1;have:=Hg.out.2;omega) (by simp[za0]) Hm.out.f).mono ?_
    rintro e w4 ⟨⟨u,rfl,H7⟩,Hc⟩;have H0:=xT (xD (xR _)) Hc
    refine shK hK _ _ (Hy.out _ H0) (fun _=>?_)
    refine tkN 7 ?_;refine tkN 8 ?_;refine tkN 9 ?_
    refine ar1 10 (fun K hK=>?_)
    go_simp
    refine shK hK _ _ (Hy.out _ (xA H0 _)) (fun _=>?_)
    have Hn:Ext w4 (w4.alloc (L #[G none 0 0,G none 0 0,E F 0,E F 0,J false] 25)):=xA (xR _) _
    have Ha:=P2 w4 25 #[G none 0 0,G none 0 0,E F 0,E F 0,J false]
    replace H7:=H7.ext Hn
    have Hz:=xT H0 Hn
    have K2:wr.heap.size≤w4.heap.size:=H0.size
    have Kg:w.heap.size+1<w4.heap.size:=by have:=(H.out.br.ext H0).lt;omega
    obtain ⟨bo,HA⟩:∃ bo,w4.heap.size=bo:=⟨_,rfl⟩
    rw[HA] at Ha Kg K2 ⊢
    generalize w4.alloc (L #[G none 0 0,G none 0 0,E F 0,E F 0,J false] 25)=w5 at *
    clear H0 Hc Hn HA
    exact mcR8ba0
   ·go_simp
    have Hn:Ext wr (wr.drew.alloc (L #[G none 0 0,G none 0 0,E F 0,E F 0,J false] 25)):=xA (xD (xR _)) _
    have Ha:Blk (wr.drew.alloc (L #[G none 0 0,G none 0 0,E F 0,E F 0,J false] 25)) wr.heap.size 25 #[G none 0 0,G none 0 0,E F 0,E F 0,J false]:=P2 wr.drew 25 #[G none 0 0,G none 0 0,E F 0,E F 0,J false]
    have Kg:w.heap.size+1<wr.heap.size:=(H.out.br.ext (xD (xR _))).lt
    have K2:wr.heap.size≤wr.heap.size:=xN _
    refine shK hK _ _ (Hy.out _ Hn) (fun _=>?_)
    refine ar1 6 (fun K hK=>?_)
    go_simp
    refine (zgw _ dk (za0 x) (G none 0 0) _ (H.out.ext Hn).dk (SlR.nil _ 1) (by have:=Hm.out.l;have:=Hs.out;have:=Hg.out.1;have:=Hg.out.2;omega) (by have:=Hm.out.t;have:=Hs.out;have:=Hg.out.1;have:=Hg.out.2;omega) (by simp[za0]) Hm.out.f).mono ?_
    rintro e w5 ⟨⟨u,rfl,H7⟩,Hc⟩;have Hz:=xT Hn Hc
    replace Ha:=Ha.ext Hc
    obtain ⟨bo,HA⟩:∃ bo,wr.heap.size=bo:=⟨_,rfl⟩
    rw[HA] at Ha Kg ⊢
    replace K2:wr.heap.size≤bo:=Nat.le_of_eq HA
    refine shK hK _ _ (Hy.out _ Hz) (fun _=>?_)
    refine tkN 7 ?_;refine tkN 8 ?_;refine tkN 9 ?_;clear Hc Hn HA
    exact mcR8ba0
  ·obtain rfl:k=N.length:=by omega
   have hs:=HS.out;rw[List.drop_length] at hs;simp only[List.map_nil,zbT] at hs;subst hs;have HG:=I (Pt.give H.out (xR _) H.out.f H.out.q (Nat.lt_succ_self _));have Ht:=H.out.br;obtain ⟨z0,z1,z2,z3,z4⟩:=zaa Ht;obtain ⟨y0,y1,y2,y3,y4⟩:=zam Ht;clear Ht HS H HO;go_wp2_with fail
   refine bodyPost_ret (zgW _ _ _ _ _ rfl rfl HG.out.1 rfl) rfl ?_
   exact ⟨⟨_,rfl,⟨_,_,rfl,HG.out.2.1,HG.out.2.2.1⟩⟩,HG.out.2.2.2⟩
theorem mcR8ca0 {P:Prop} (h:P:=by
 have HP:=I (H.out.give (xR _) H.out.f H.out.q (by omega));have Hd:=H.out.br;unfold zaR at Hd;obtain ⟨x0,x1,x2,x3,x4⟩:=zaa Hd;obtain ⟨y0,y1,y2,y3,y4⟩:=zam Hd;clear Hd H;go_wp2_with fail
 refine bodyPost_ret (zeh _ _ _ _ _ rfl rfl HP.out.1 rfl) rfl ?_
 exact ⟨⟨_,rfl,⟨_,_,rfl,HP.out.2.1,HP.out.2.2.1⟩⟩,HP.out.2.2.2⟩):P:=h
theorem zeh (tmps:Array Value) (W:World) (b:Nat) (cs:Array Value) (e:Value) (h4:tmps.getD 4 undef=U (M ⟨b,0,O⟩)) (h3:tmps.getD 5 undef=e) (hb:Blk W b 25 cs) (hs:cs.size=5):(results Tryz.f23 tmps).run Q W=.ok (.tuple #[.agg cs,e]) W:=by
 have HU:tmps[4]?.getD undef=U (M ⟨b,0,O⟩):=by simpa using h4
 have HQ:tmps[5]?.getD undef=e:=by simpa using h3
 have hl:=hb.load (P:=Q) zc3 rfl (by rw[hs];kernel_rfl)
 simp[results,Tryz.results23,HU,HQ,asAddr,hl,Sem.run_bind,Sem.run_pure,Result.andThen_ok]
theorem Sz.putS {n:Nat} {d:Dk} (h:Sz n d) (x b:List UInt8):Sz (n+2+b.length) (putS d x b).1:=by
 have h1:=Sz.does [zca x,zcn x b] true h
 refine Sz.mono h1 ?_
 simp[zaW,zca,zcn]
theorem zoT (v:Value) (d:Dk) (n:Nat) (m:Mf) (vs:Value) (w:World) (hS:StW w) (hD:DkV w v d) (hs:Sz n d) (hn:n≤90000) (hG:Sgs w vs m.segs) (KW:m.segs.length≤1000000) (KV:(zb4 m).length≤1000000) (Kh:∀ b,zbH m=M b→b.length≤100000) :
  Calls Q 23 #[v,.agg #[E F m.next,E F m.term,E F m.vote,E F m.sq,E F m.sf,vs]] w fun e w'=>(∃ u,e=.returned (.tuple #[u,E F (zdk d m).2])∧DkV w' u (zdk d m).1)∧Ext w w':=by
 obtain ⟨vf,vq,rfl,hF,hQ⟩:=hD;obtain ⟨A,c,rfl,_,_⟩:=P0 hF;obtain ⟨B,e2,rfl,_,_⟩:=Qs.open_ hQ;obtain ⟨C,c2,rfl,_,_⟩:=hG.open_;obtain ⟨W0,Hi⟩:∃ W0,((w.alloc (L #[G A d.fs.length c,G B d.q.length e2,E F d.quota,E F d.fuse,J d.dead] 25)).alloc (L #[E F m.next,E F m.term,E F m.vote,E F m.sq,E F m.sf,G C m.segs.length c2] 30)).alloc (L #[G none 0 0,G none 0 0,E F 0,E F 0,J false] 25)=W0:=⟨_,rfl⟩
 have Hh:Ext w W0:=by rw[←Hi];exact xA (xA (xA (xR _) _) _) _
 have h0:Blk W0 w.heap.size 25 (zan A d.fs.length c B d.q.length e2 d.quota d.fuse d.dead):=by rw[←Hi];exact ((P2 w _ _).alloc _).alloc _
 have h1:Blk W0 (w.heap.size+1) 30 #[E F m.next,E F m.term,E F m.vote,E F m.sq,E F m.sf,G C m.segs.length c2]:=by
  rw[←Hi]
  have:=(P2 (w.alloc (L #[G A d.fs.length c,G B d.q.length e2,E F d.quota,E F d.fuse,J d.dead] 25)) 30 #[E F m.next,E F m.term,E F m.vote,E F m.sq,E F m.sf,G C m.segs.length c2]).alloc (L #[G none 0 0,G none 0 0,E F 0,E F 0,J false] 25)
  rwa [xS] at this
 have h2:Blk W0 (w.heap.size+1+1) 25 (zan none 0 0 none 0 0 0 0 false):=by
  rw[←Hi]
  have:=P2 ((w.alloc (L #[G A d.fs.length c,G B d.q.length e2,E F d.quota,E F d.fuse,J d.dead] 25)).alloc (L #[E F m.next,E F m.term,E F m.vote,E F m.sq,E F m.sf,G C m.segs.length c2] 30)) 25 #[G none 0 0,G none 0 0,E F 0,E F 0,J false]
  rwa [xS,xS] at this
 have H:Hid (Pt w W0 (w.heap.size+1+1) A c B e2 d):=I ⟨h0,h2,hF.ext Hh,hQ.ext Hh,Hh⟩
 have HM:=I h1;have Kb:=I hS;have HG:=I hG;have HZ:=I hs;have J8:=I KW;have J7:=I KV;have HN:=I hn;have Ks:=I Kh;have key:=zlN m _ W0 (hG.ext Hh);obtain ⟨g0,g1,g2,g3,g4⟩:=zaa h0;obtain ⟨j0,j1,j2,j3,j4,j5⟩:=zag h1;obtain ⟨S,K0⟩:∃ S,zdk d m=S:=⟨_,rfl⟩;rw[K0];unfold zdk at K0;obtain ⟨pm,J1⟩:∃ pm,zbH m=pm:=⟨_,rfl⟩;rw[J1] at key K0 Kh;have H4:=I key;have HS:=I K0;have Ks:=I Kh;clear hF hQ Hh h0 h1 h2 hS hG hs KW KV Kh J1 key K0 hn
 go_enter Tryz.func23,Tryz.ntmps23
 go_wp2_with fail;clear Hi
 refine H4.out.mono ?_
 rintro e w1 ⟨⟨vb,rfl,Ha⟩,H6⟩
 replace H:=I (H.out.ext H6)
 replace HM:=I (HM.out.ext H6)
 clear g0 g1 g2 g3 g4 j0 j1 j2 j3 j4 j5 H4 H6;obtain ⟨g0,g1,g2,g3,g4⟩:=zaa H.out.b0
 cases pm with
 | none =>
  dsimp only[Option.isSome,Option.getD] at Ha ⊢
  have hs:=HS.out;dsimp only at hs;subst hs;have key:=zfl _ d w1 H.out.dk (by have:=HZ.out.l;have:=HN.out;omega) (by have:=HZ.out.t;have:=HN.out;omega);have H4:=I key;clear key HS Ha;go_wp2_with fail
  refine H4.out.mono ?_
  rintro e w2 ⟨u,rfl,KR,H0⟩;have H7:=KR.dk;clear KR H4 g0 g1 g2 g3 g4;obtain ⟨K7,K8,rfl,H5,H3⟩:=H7;obtain ⟨Af,cf,rfl,_,_⟩:=P0 H5;obtain ⟨Aq,cq,rfl,_,_⟩:=Qs.open_ H3;have HP:=I (H.out.give H0 H5 H3 (by omega));have Hd:=H.out.br.ext H0;obtain ⟨x0,x1,x2,x3,x4⟩:=zaa Hd;obtain ⟨y0,y1,y2,y3,y4⟩:=zam Hd;clear Hd H5 H3 H0 H;go_wp2_with fail
  refine bodyPost_ret (zeh _ _ _ _ _ rfl rfl HP.out.1 rfl) rfl ?_
  exact ⟨⟨_,rfl,⟨_,_,rfl,HP.out.2.1,HP.out.2.2.1⟩⟩,HP.out.2.2.2⟩
 | some b =>
  dsimp only[Option.isSome,Option.getD] at Ha ⊢
  have Kx:Bs w1 vb b:=xW Ha
  obtain ⟨Ab,cb,rfl,_,_⟩:=xO Kx;have Hk:=I (Ks.out b rfl);have hs:=HS.out
  dsimp only[zlF] at hs
  have key:=zqw _ d n 2 0 0 _ b w1 (Kb.out.ext H.out.e) H.out.dk HZ.out Kx (by have:=HN.out;omega) Hk.out
  rw[show zaw 2 0 0=M zbE from by rfl] at key
  dsimp only[zbG] at key
  have Hq:=HZ.out.putS zbE b;obtain ⟨⟨D1,r1⟩,KM⟩:∃ x,putS d zbE b=x:=⟨_,rfl⟩;rw[KM] at key hs Hq;dsimp only at key hs Hq;have H4:=I key
  replace HS:=I hs
  have Kc:=I Hq;clear key hs KM Hq Ha Kx Ks;go_wp2_with fail
  refine H4.out.mono ?_
  rintro e w2 ⟨⟨u,rfl,H7⟩,H0⟩
  dsimp only at H7 ⊢
  clear H4 g0 g1 g2 g3 g4;obtain ⟨K7,K8,rfl,H5,H3⟩:=H7;obtain ⟨A2,c3,rfl,_,_⟩:=P0 H5;obtain ⟨B2,e3,rfl,_,_⟩:=Qs.open_ H3;have H8:=H.out.b0.ext H0;obtain ⟨g0,g1,g2,g3,g4⟩:=zaa H8;obtain ⟨f0,f1,f2,f3,f4⟩:=zam H8
  replace H:=I (H.out.store H0 H5 H3 (by omega))
  replace HM:=I (zhX (HM.out.ext H0) (by omega:w.heap.size+1≠w.heap.size) (G A2 D1.fs.length c3) (G B2 D1.q.length e3) (E F D1.quota) (E F D1.fuse) (J D1.dead))
  clear H8 H5 H3 H0
  by_cases hr1:r1=0
  case neg =>
   have hs:=HS.out;rw[if_pos hr1] at hs;subst hs
   have KD:(r1 != 0)=true:=by simpa using hr1
   clear HS hr1
   exact mcR8ca0
  have hs:=HS.out;rw[if_neg (by simpa using hr1)] at hs;subst hr1;have key:=zgw _ D1 (zbR zbE zds) (G none 0 0) _ H.out.dk (SlR.nil _ 1) (by have:=Kc.out.l;have:=Hk.out;have:=HN.out;omega) (by have:=Kc.out.t;have:=Hk.out;have:=HN.out;omega) (by decide) Kc.out.f;have Hr:=Kc.out.doS (zbR zbE zds);simp only[zbT] at hs;obtain ⟨⟨D2,r2⟩,KN⟩:∃ x,D1.doS (zbR zbE zds)=x:=⟨_,rfl⟩;rw[KN] at key hs Hr
  dsimp only[zbR,zbE,zds,sv,List.length_nil] at key hs Hr
  have H4:=I key
  replace HS:=I hs
  have Hl:=I Hr;clear key hs KN Hr;go_wp2_with fail
  refine H4.out.mono ?_
  rintro e w4 ⟨⟨u,rfl,H7⟩,H0⟩
  dsimp only at H7 ⊢
  clear H4 g0 g1 g2 g3 g4 f0 f1 f2 f3 f4;obtain ⟨K7,K8,rfl,H5,H3⟩:=H7;obtain ⟨A4,c4,rfl,_,_⟩:=P0 H5;obtain ⟨B4,e4,rfl,_,_⟩:=Qs.open_ H3;have H8:=H.out.b0.ext H0;obtain ⟨g0,g1,g2,g3,g4⟩:=zaa H8;obtain ⟨f0,f1,f2,f3,f4⟩:=zam H8
  replace H:=I (H.out.store H0 H5 H3 (by omega))
  replace HM:=I (zhX (HM.out.ext H0) (by omega:w.heap.size+1≠w.heap.size) (G A4 D2.fs.length c4) (G B4 D2.q.length e4) (E F D2.quota) (E F D2.fuse) (J D2.dead))
  clear H8 H5 H3 H0
  by_cases hr2:r2=0
  case neg =>
   have hs:=HS.out;rw[if_neg hr2,if_pos hr2] at hs;subst hs
   have KD:(r2 != 0)=true:=by simpa using hr2
   clear HS hr2
   exact mcR8ca0
  have hs:=HS.out;simp only[if_pos hr2,if_true] at hs;subst hr2;have key:=zkz _ D2 _ H.out.dk (by have:=Hl.out.l;have:=Hk.out;have:=HN.out;omega) (by have:=Hl.out.t;have:=Hk.out;have:=HN.out;omega) Hl.out.f;have Kk:=Hl.out.sync;obtain ⟨⟨D3,r3⟩,HV⟩:∃ x,D2.syncS=x:=⟨_,rfl⟩;rw[HV] at key hs Kk;dsimp only at key hs Kk;have H4:=I key
  replace HS:=I hs
  have Jg:=I Kk;clear key hs HV Kk;go_wp2_with fail
  refine H4.out.mono ?_
  rintro e w6 ⟨⟨u,rfl,H7⟩,H0⟩
  dsimp only at H7 ⊢
  clear H4 g0 g1 g2 g3 g4 f0 f1 f2 f3 f4;obtain ⟨K7,K8,rfl,H5,H3⟩:=H7;obtain ⟨A6,c6,rfl,_,_⟩:=P0 H5;obtain ⟨B6,e6,rfl,_,_⟩:=Qs.open_ H3;have H8:=H.out.b0.ext H0;obtain ⟨g0,g1,g2,g3,g4⟩:=zaa H8;obtain ⟨f0,f1,f2,f3,f4⟩:=zam H8
  replace H:=I (H.out.store H0 H5 H3 (by omega))
  replace HM:=I (zhX (HM.out.ext H0) (by omega:w.heap.size+1≠w.heap.size) (G A6 D3.fs.length c6) (G B6 D3.q.length e6) (E F D3.quota) (E F D3.fuse) (J D3.dead))
  clear H8 H5 H3 H0
  by_cases hr3:r3=0
  case neg =>
   have hs:=HS.out;rw[if_pos hr3] at hs;subst hs
   have KD:(r3 != 0)=true:=by simpa using hr3
   clear HS hr3
   exact mcR8ca0
  have hs:=HS.out;rw[if_neg (by simpa using hr3)] at hs;subst hr3;clear HS;go_wp2_with fail;clear g0 g1 g2 g3 g4 f0 f1 f2 f3 f4
  refine wp_region_held_drew (S:=fun W=>(W.cell? ⟨w.heap.size,0,O⟩=M (G A6 D3.fs.length c6)∧W.cell? ⟨w.heap.size,1,O⟩=M (G B6 D3.q.length e6)∧W.cell? ⟨w.heap.size,2,O⟩=M (E F D3.quota)∧W.cell? ⟨w.heap.size,3,O⟩=M (E F D3.fuse)∧W.cell? ⟨w.heap.size,4,O⟩=M (J D3.dead))∧(W.cell? ⟨w.heap.size+1,0,O⟩=M (E F m.next)∧W.cell? ⟨w.heap.size+1,1,O⟩=M (E F m.term)∧W.cell? ⟨w.heap.size+1,2,O⟩=M (E F m.vote)∧W.cell? ⟨w.heap.size+1,3,O⟩=M (E F m.sq)∧W.cell? ⟨w.heap.size+1,4,O⟩=M (E F m.sf)∧W.cell? ⟨w.heap.size+1,5,O⟩=M (G C m.segs.length c2))) (by kernel_rfl) ⟨zaa H.out.b0,zag HM.out⟩ (fun _=>?_)
  refine tkN 0 ?_;refine tkN 1 ?_
  refine ar1 2 (fun K hK=>?_)
  go_simp
  refine (zr6 m _ _ (HG.out.ext (xT H.out.e (xD (xR _)))) J8.out).mono ?_
  rintro e w7 ⟨vk,rfl,hk,HY⟩;have Ku:=xT (xD (xR _)) HY
  replace H:=I (H.out.ext Ku)
  replace HM:=I (HM.out.ext Ku)
  clear Ku HY
  refine shK hK _ _ ⟨zaa H.out.b0,zag HM.out⟩ (fun _=>?_)
  refine ar1 3 (fun K hK=>?_)
  go_simp
  refine (zoG _ D3 _ _ (zb4 m) w7 (Kb.out.ext H.out.e) H.out.dk Jg.out (xW hk) J7.out (by have:=Hk.out;have:=HN.out;omega)).mono ?_
  rintro e w8 ⟨⟨u,rfl,H7⟩,H0⟩;clear hk;obtain ⟨T,hT⟩:∃ T,zeB D3 (zaq (zb4 m))=T:=⟨_,rfl⟩;rw[hT] at H7 hs;subst hs;obtain ⟨D,r9⟩:=T;dsimp only at H7
  refine shK hK _ _ ⟨zaa (H.out.b0.ext H0),zag (HM.out.ext H0)⟩ (fun _=>?_)
  refine tkN 4 ?_;refine tkN 5 ?_;obtain ⟨K7,K8,rfl,H5,H3⟩:=H7;obtain ⟨Af,cf,rfl,_,_⟩:=P0 H5;obtain ⟨Aq,cq,rfl,_,_⟩:=Qs.open_ H3;have HP:=I (H.out.give H0 H5 H3 (by omega));have Ja:=I (zhX (H.out.b0.ext H0) (by omega:w.heap.size≠w.heap.size+1+1) (G Af D.fs.length cf) (G Aq D.q.length cq) (E F D.quota) (E F D.fuse) (J D.dead));have Jb:=I (zhX (HM.out.ext H0) (by omega:w.heap.size+1≠w.heap.size+1+1) (G Af D.fs.length cf) (G Aq D.q.length cq) (E F D.quota) (E F D.fuse) (J D.dead));have Hd:=H.out.br.ext H0;obtain ⟨x0,x1,x2,x3,x4⟩:=zaa Hd;obtain ⟨y0,y1,y2,y3,y4⟩:=zam Hd;clear Hd H5 H3 H0 H HM
  refine ar1 6 (fun K hK=>?_)
  go_simp
  show K _ (zaR w8 (w.heap.size+1+1) (G Af D.fs.length cf) (G Aq D.q.length cq) (E F D.quota) (E F D.fuse) (J D.dead))
  refine shK hK _ _ ⟨zaa Ja.out,zag Jb.out⟩ (fun _=>?_)
  refine tkN 7 ?_;refine wdD ?_;clear x0 x1 x2 x3 x4 y0 y1 y2 y3 y4;go_wp2_with fail
  refine bodyPost_ret (zeh _ _ _ _ _ rfl rfl HP.out.1 rfl) rfl ?_
  exact ⟨⟨_,rfl,⟨_,_,rfl,HP.out.2.1,HP.out.2.2.1⟩⟩,HP.out.2.2.2⟩
theorem zpC (tmps:Array Value) (W:World) (b c:Nat) (cs ds:Array Value) (u:Value) (h2:tmps.getD 2 undef=U (M ⟨b,0,O⟩)) (h3:tmps.getD 3 undef=U (M ⟨c,0,O⟩)) (h4:tmps.getD 4 undef=u) (hb:Blk W b 44 cs) (hc:Blk W c 30 ds) (hs:cs.size=8) (hd:ds.size=6):(results Tryz.f14 tmps).run Q W=.ok (.tuple #[.agg cs,.agg ds,u]) W:=by
 have hl:=hb.load (P:=Q) zc7 rfl (by rw[hs];kernel_rfl);have hm:=hc.load (P:=Q) zd2 rfl (by rw[hd];kernel_rfl)
 have Jh:tmps[2]?.getD undef=U (M ⟨b,0,O⟩):=by simpa using h2
 have HQ:tmps[3]?.getD undef=U (M ⟨c,0,O⟩):=by simpa using h3
 have HU:tmps[4]?.getD undef=u:=by simpa using h4
 simp[results,Tryz.results14,Jh,HQ,HU,asAddr,hl,hm]
theorem zjp (v:Value) (d:Dk) (n:Nat) (w:World) (hS:StW w) (hD:DkV w v d) (hn:n≤100000) (hs:Sz n d):Calls Q 14 #[v] w (zju w (zby d.now)):=by
 obtain ⟨R,hR⟩:∃ R,zby d.now=R:=⟨_,rfl⟩;rw[hR];have HR:=I hR;clear hR;obtain ⟨vf,vq,rfl,hF,hQ⟩:=hD;obtain ⟨A,c,rfl,_,_⟩:=P0 hF;obtain ⟨xs,KC,H3⟩:=hQ;obtain ⟨B,e,rfl,_,_⟩:=xO KC
 have hQ:Qs w (G B d.q.length e) d.q:=⟨xs,KC,H3⟩
 clear KC H3;obtain ⟨z1,Hq⟩:∃ x:Array Value,#[E F 0,E F 0,E F 0,E F 0,J false,G none 0 0,E F 0,E F 0]=x:=⟨_,rfl⟩;obtain ⟨z2,Hr⟩:∃ x:Array Value,#[E F 0,E F 0,E F 0,E F 0,E F 0,G none 0 0]=x:=⟨_,rfl⟩;obtain ⟨z0,Kj⟩:∃ x:Array Value,#[G A d.fs.length c,G B d.q.length e,E F d.quota,E F d.fuse,J d.dead]=x:=⟨_,rfl⟩
 have hX:Ext w (((w.alloc (L z0 25)).alloc (L z1 44)).alloc (L z2 30)):=xA (xA (xA (xR _) _) _) _
 have b0:=((P2 w 25 z0).alloc (L z1 44)).alloc (L z2 30);have b1:=(P2 (w.alloc (L z0 25)) 44 z1).alloc (L z2 30);have b2:=P2 ((w.alloc (L z0 25)).alloc (L z1 44)) 30 z2;rw[xS] at b1;rw[xS,xS] at b2
 have HV:DkV (((w.alloc (L z0 25)).alloc (L z1 44)).alloc (L z2 30)) (.agg z0) d:=by
  subst Kj
  exact ⟨_,_,rfl,hF.ext hX,hQ.ext hX⟩
 have key:=zfk _ d _ HV (by have:=hs.l;omega) (by have:=hs.t;omega);have KQ:=hS.ext hX;subst Kj Hq Hr
 have hl:d.now.length≤4000000:=by have:=zfg d;have:=hs.l;omega
 have hb:∀ f∈d.now,f.2.length≤100000:=fun f hf=>by have h1:=zfh hf;have h2:=zj1 d;have h3:=hs.t;omega
 obtain ⟨q0,q1,q2,q3,q4⟩:=zaa b0;have H4:=I key;have HX:=I hX;have HS:=I KQ;have J2:=I b1;have J3:=I b2;have HL:=I hl;have Hk:=I hb;clear key hX KQ b0 b1 b2 hl hb HV hF hQ hS hs hn
 go_enter Tryz.func14,Tryz.ntmps14
 go_wp2_with fail
 refine H4.out.mono ?_
 rintro e1 w1 ⟨⟨v1,rfl,Kv⟩,H6⟩;obtain ⟨A1,c1,rfl,_,_⟩:=P0 Kv
 have Hv:=zoL _ d.now w1 (HS.out.ext H6) Kv HL.out (fun f hf=>by have:=Hk.out f hf;omega)
 rw[HR.out] at Hv;have Kt:=I Hv;have KH:=I (xT HX.out H6);have Km:=I (J2.out.ext H6);have Kn:=I (J3.out.ext H6);clear Hv H6 Kv q0 q1 q2 q3 q4;go_wp2_with fail
 refine Kt.out.mono ?_
 obtain ⟨er,t,m⟩:=R;rintro e2 w2 ⟨vl,vs,rfl,Kf,Ki,H9⟩
 dsimp only at Kf Ki ⊢
 obtain ⟨Al,cl,rfl,_,_⟩:=xO (OwnE.es Kf);obtain ⟨As,cs,rfl,_,_⟩:=Sgs.open_ (OwnS.sgs Ki);have Ke:=Km.out.ext H9;have Kw:=Kn.out.ext H9
 have KL:w.heap.size≤w1.heap.size:=KH.out.size
 have hE:=xT KH.out H9;have Hj:=zbX Kw (by omega:w.heap.size+1+1≠w.heap.size+1) (E F t.s.idx) (E F t.s.term) (E F t.s.sum) (E F t.s.lvl) (J t.s.fin) (G Al t.log.length cl) (E F t.term) (E F t.vote);obtain ⟨g0,g1,g2,g3,g4,g5,g6,g7⟩:=zaQ Ke;obtain ⟨f0,f1,f2,f3,f4,f5,f6,f7⟩:=za9 Ke;obtain ⟨i0,i1,i2,i3,i4,i5⟩:=zag Hj;obtain ⟨j0,j1,j2,j3,j4,j5⟩:=zdQ Hj;have H1:=I Ke;have H2:=I Kw;have Kl:=I Hj;have J5:=I Kf;have Jf:=I Ki;have J4:=I hE;have KE:=I KL;clear Ke Kw Hj Kf Ki hE H9 KL;unfold zb8 at i0 i1 i2 i3 i4 i5 j0 j1 j2 j3 j4 j5;go_wp2_with fail;have HB:=I (zco (zbY H1.out (E F t.s.idx) (E F t.s.term) (E F t.s.sum) (E F t.s.lvl) (J t.s.fin) (G Al t.log.length cl) (E F t.term) (E F t.vote)) (by omega:w.heap.size+1≠w.heap.size+1+1) (E F m.next) (E F m.term) (E F m.vote) (E F m.sq) (E F m.sf) (G As m.segs.length cs));have HD:=I (zbl Kl.out (E F m.next) (E F m.term) (E F m.vote) (E F m.sq) (E F m.sf) (G As m.segs.length cs))
 refine bodyPost_ret (zpC _ _ (w.heap.size+1) (w.heap.size+1+1) _ _ _ rfl rfl rfl HB.out HD.out rfl rfl) rfl ?_
 have Jl:=zcU Kl.out (by decide) (zdd H1.out (by decide) J5.out (E F t.s.idx) (E F t.s.term) (E F t.s.sum) (E F t.s.lvl) (J t.s.fin) (G Al t.log.length cl) (E F t.term) (E F t.vote)) (E F m.next) (E F m.term) (E F m.vote) (E F m.sq) (E F m.sf) (G As m.segs.length cs);have Hu:=zcU Kl.out (by decide) (zdd H1.out (by decide) Jf.out (E F t.s.idx) (E F t.s.term) (E F t.s.sum) (E F t.s.lvl) (J t.s.fin) (G Al t.log.length cl) (E F t.term) (E F t.vote)) (E F m.next) (E F m.term) (E F m.vote) (E F m.sq) (E F m.sf) (G As m.segs.length cs);have K4:=zbm (zbA J4.out (by omega:w.heap.size≤w.heap.size+1) (E F t.s.idx) (E F t.s.term) (E F t.s.sum) (E F t.s.lvl) (J t.s.fin) (G Al t.log.length cl) (E F t.term) (E F t.vote)) (by omega:w.heap.size≤w.heap.size+1+1) (E F m.next) (E F m.term) (E F m.vote) (E F m.sq) (E F m.sf) (G As m.segs.length cs)
 exact ⟨G Al t.log.length cl,G As m.segs.length cs,rfl,zaf Jl KE.out,zaf Hu KE.out,K4⟩
end Go.Proofs.YteggfecbjgbndaaGreatDoor
