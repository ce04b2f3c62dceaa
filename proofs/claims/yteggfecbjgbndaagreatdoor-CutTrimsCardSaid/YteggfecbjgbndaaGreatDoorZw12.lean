/- Merged -/
import Derived.Test.YteggfecbjgbndaaGreatDoorZw8
set_option linter.all false
set_option maxHeartbeats 8000000
set_option maxRecDepth 100000
open Go.Value renaming int→C,slice→D,string→L
open Go.IntKind renaming i64→E
open Go.Proofs.Tryz renaming prog→F
open Option renaming none→G,some→H
open Go.Obj renaming cells→I
open Go.Mv renaming zhd→J
open List renaming eq_nil_of_length_eq_zero→P0,length_drop→P1,getElem?_map→P2,length→P3,getElem_cons_zero→P4,drop_left→P5
open Go.Mv.Ext renaming cell→P6,grownOwn→P7
open Go.IntWalk renaming i64_in→P8
open Go.RowKit.Below renaming setCell→P9
open Go.IntKind renaming i64→Pa
open Go.World renaming ownsRow_nil→Pb,block_lt_of_cell?→Pc
namespace Go.Proofs.YteggfecbjgbndaaGreatDoor
open Go.RowKit Go.Mv
def zje (p:Nat×Nat) (bs:List UInt8):List Ent×(Nat×Nat)×Nat:=match zcB p bs with | none=>([],(0,0),0) | some x=>(x.1,zas p (zaL x.1),bs.length-x.2.length)
def RBlkP (w:World) (r:List Ent×(Nat×Nat)×Nat) (e:Ending) (w':World):Prop :=
 ∃ vl vz,e=.returned (.tuple #[vl,vz,C E r.2.2])∧w'.ownsRow w.heap.size 54 3 vl r.1.length (zat r.1)∧PtV vz r.2.1∧Ext w w'
theorem RBlkP.none {w w':World} {p:Nat×Nat} {bs:List UInt8} (h:zcB p bs=none) (hE:Ext w w'):RBlkP w (zje p bs) (.returned (.tuple #[D none 0 0,.complex .f64 0 0,C E 0])) w':=by
 unfold zje;rw[h]
 exact ⟨_,_,rfl,Pb _ _ _ _,PtV.zero,hE⟩
theorem zeC {p:Nat×Nat} {bs:List UInt8} (h:zdb bs=none):zcB p bs=none:=by unfold zcB;rw[h]
theorem zpK {p:Nat×Nat} {bs:List UInt8} {es:List Ent} {r:List UInt8} (h:zdb bs=H (es,r)) (h4:4≤r.length) :
  ∃ nn,bs.length-r.length+4=nn∧r.length≤bs.length∧nn≤bs.length∧((zdm p es=bs.take nn∧zje p bs=(es,zas p (zaL es),nn))∨(zdm p es≠bs.take nn∧zcB p bs=none)):=by
 obtain ⟨h1,h2⟩:=zk3 h;have hl:=congrArg P3 h2;rw[xL] at hl
 have ht:bs.take (bs.length-r.length+4)=zaL es++r.take 4:=by
  rw[hl,Nat.add_sub_cancel,h2,List.take_length_add_append]
 refine ⟨_,rfl,by omega,by omega,?_⟩
 have hn:zcB p bs=if 4≤r.length∧r.take 4=zaT (zas p (zaL es)) then some (es,r.drop 4) else none:=by unfold zcB;rw[h]
 by_cases hf:r.take 4=zaT (zas p (zaL es))
 ·rw[if_pos ⟨h4,hf⟩] at hn
  refine .inl ⟨by rw[ht,hf];rfl,?_⟩
  unfold zje;rw[hn];dsimp only
  rw[P1,show bs.length-(r.length-4)=bs.length-r.length+4 from by omega]
 ·rw[if_neg (fun h=>hf h.2)] at hn
  refine .inr ⟨fun e=>hf ?_,hn⟩
  rw[ht] at e;unfold zdm at e
  exact (List.append_cancel_left e).symm
theorem zph (es:List Ent):∀ (k:Nat) (hk:k<es.length),(zbd es)[3*k]?=H es[k].t∧(zbd es)[3*k+1]?=H es[k].k∧(zbd es)[3*k+2]?=H es[k].v:=by
 induction es with
 | nil=>intro k hk;simp at hk
 | cons e es ih =>
  intro k hk
  rw[show zbd (e::es)=e.t::e.k::e.v::zbd es from rfl]
  cases k with
  | zero=>exact ⟨rfl,rfl,rfl⟩
  | succ k =>
   obtain ⟨h0,h1,h2⟩:=ih k (by simpa using hk)
   rw[show 3*(k+1)=3*k+1+1+1 from by omega,show 3*k+1+1+1+1=(3*k+1)+1+1+1 from rfl,show 3*k+1+1+1+2=(3*k+2)+1+1+1 from rfl]
   simp only[List.getElem?_cons_succ,List.getElem_cons_succ]
   exact ⟨h0,h1,h2⟩
theorem zpQ (za zb:Nat) (p:Nat×Nat) (v:Value) (bs:List UInt8) (w:World) (hz:PtV (.complex .f64 za zb) p) (H5:Bs w v bs) (hl:bs.length≤2000000):Calls F 219 #[.complex .f64 za zb,v] w (RBlkP w (zje p bs)):=by
 obtain ⟨A,c,rfl,h1,h2⟩:=xO H5;have Jm:=hz.pt;clear hz
 by_cases h0:bs.length=0
 ·have hb:bs=[]:=P0 h0
  subst hb;have hN:=J (zeC (p:=p) (bs:=[]) rfl)
  go_enter Tryz.func219,Tryz.ntmps219
  go_wp2_with fail
  go_ret3
  exact RBlkP.none hN.out (xR _)
 obtain ⟨_,b,H2,rfl,hc⟩:=Bs.at_ H5 (by omega)
 have He:w.cell? ⟨b,H2,G⟩=H (C .u8 (bs[0].toNat:Int)):=hc 0 (by omega)
 obtain ⟨x,l,rfl⟩:∃ x l,bs=x::l:=by cases bs with | nil=>exact absurd rfl h0 | cons x l=>exact ⟨x,l,rfl⟩
 simp only[P4] at He
 have Ke:b<w.heap.size:=Pc w _ He
 have Hl:=J H5
 have e0:¬ ((l.length:Int)+1<1):=by omega
 clear hc H5 h0
 simp only[xC] at *
 have hx:=x.toNat_lt
 by_cases hx0:x.toNat=0∨4<x.toNat
 ·have hN:=J (zeC (p:=p) (bs:=x::l) (by rw[zdb,if_pos hx0]))
  by_cases KT:x.toNat=0
  ·rw[KT] at He
   go_enter Tryz.func219,Tryz.ntmps219
   go_wp2_with fail
   go_ret3
   exact RBlkP.none hN.out (xR _)
  ·have Jr:(4:Int)<(x.toNat:Int):=by omega
   have JJ:¬ ((x.toNat:Int)<1):=by omega
   go_enter Tryz.func219,Tryz.ntmps219
   go_wp2_with fail
   go_ret3
   exact RBlkP.none hN.out (xR _)
 have KT:¬ ((x.toNat:Int)<1):=by omega
 have Jr:¬ ((4:Int)<(x.toNat:Int)):=by omega
 have HT:Hid (∀ (W:World) (u:Value),Bs W u l→Calls F 91 #[u,C E (3*(x.toNat:Int))] W (zfn W (zap (3*x.toNat) [] l))):=by
  intro W u hu
  have:=zdw u l (3*x.toNat) (by omega) W hu (by omega)
  rwa [show ((3*x.toNat:Nat):Int)=3*(x.toNat:Int) from by omega] at this
 have Ht:Hid (zdb (x::l)=if (zap (3*x.toNat) [] l).1=0∧zcA (zei (zap (3*x.toNat) [] l).2.1)=true then some (zei (zap (3*x.toNat) [] l).2.1,(zap (3*x.toNat) [] l).2.2) else none):=by
  show _=_
  rw[zdb,if_neg hx0]
 have Ks:=J (zfd (3*x.toNat) [] l)
 generalize zap (3*x.toNat) [] l=tk at *
 obtain ⟨er,li,r⟩:=tk
 dsimp only at *
 have HA:∀ W:World,Ext w W→Bs W (D (H ⟨b,H2+1,G⟩) l.length (c-1)) l:=by
  intro W hE;have h:=Bs.cut (Hl.out.ext hE) 1 (by simp) rfl
  simpa using h
 have Hf:=J HA
 have Ja:∀ W:World,Bs W (D (H ⟨b,H2,G⟩) 0 0) []:=fun W=>SlR.empty W 1 (by simp)
 clear HA hx0
 have Kn:∃ vs:Value,(∀ W,Ext w W→Bs W vs l)∧vs=D (if c=1 then some ⟨b,H2,G⟩ else some ⟨b,H2+1,G⟩) l.length (c-1):=by
  by_cases hc1:c=1
  ·obtain rfl:l=[]:=P0 (by omega)
   exact ⟨_,fun W _=>SlR.empty W 1 (by omega),rfl⟩
  ·exact ⟨_,fun W hE=>Hf.out W hE,by rw[if_neg hc1]⟩
 obtain ⟨vs,Hc,H3⟩:=Kn;have HP:=J Hc
 have J9:(1:Int)≤(l.length:Int)+1:=by omega
 have Kd:(1:Int)≤(c:Int):=by omega
 have Jo:Pa.wrap (x.toNat:Int)=(x.toNat:Int):=P8 _ (by omega)
 have Jp:Pa.wrap (3*(x.toNat:Int))=3*(x.toNat:Int):=P8 _ (by omega)
 have HV:=J H3;clear Hc Ja H3
 go_enter Tryz.func219,Tryz.ntmps219
 go_wp2_with fail
 go_region_held3 (fun w'=>w'.cell? ⟨b,H2,G⟩=H (C .u8 (x.toNat:Int))) (first | go_keep | assumption)
  (first | (go_at_call 91;(try rw[Jo,Jp]);rw[←HV.out];refine (HT.out _ _ (HP.out _ (xD (xR _)))).mono ?_;rintro e w1 ⟨vl,vr,rfl,Ha,KO,Hd⟩;have H8:Ext w w1:=xT (xD (xR _)) Hd;have g0:=P6 H8 He;dsimp only at Ha KO;obtain ⟨Al,cl,rfl,_,_⟩:=xO (xW Ha);obtain ⟨Ar,cr,rfl,_,_⟩:=xO (xW KO)))
 by_cases her:er=0
 case neg =>
  have e6:(er != 0)=true:=by simpa using her
  have KY:=J her;clear her;go_wp2_with fail
  go_ret3
  exact RBlkP.none (zeC (by rw[Ht.out,if_neg (fun h=>KY.out h.1)])) H8
 subst her
 by_cases hr4:(r.length:Int)<4
 ·go_wp2_with fail
  go_ret3
  refine RBlkP.none ?_ H8
  unfold zcB;rw[Ht.out]
  split
  ·rfl
  ·rename_i y hy
   split at hy
   ·cases hy
    rw[if_neg (fun h=>by have:=h.1;dsimp only at this;omega)]
   ·cases hy
 obtain ⟨l',KK,h4,Kl,Kk⟩:=Ks.out li r rfl;rw[xI] at KK;subst KK;obtain ⟨h7,h8⟩:=zkJ x.toNat li h4;obtain ⟨es,KC⟩:∃ es,zei li=es:=⟨_,rfl⟩;rw[KC] at Ht h7 h8;have Hi:=congrArg P3 Kk;rw[xL] at Hi;have Jy:=J Kk;subst h7;have Jw:=ziK es
 have HB:es.length≤4:=by omega
 have Ki:0<es.length:=by omega
 have KN:(x.toNat:Int)=(es.length:Int):=by omega
 have HN:=J KN
 have KU:x.toNat=es.length:=by omega
 have HX:=J KU;have K5:=J Hi;clear Ks h4 KC HT Kl Kk h8 KN KU Hi;obtain ⟨i0,hi,Ho,Hp,Hr⟩:=info_parts zeq
 have J7:Is w1 (D Al (zbd es).length cl) (zbd es):=xW Ha
 obtain ⟨_,bi,oi,rfl,HY⟩:=SlR.at_ J7 (by omega)
 have KV:Hid (∀ k,(hk:k<es.length)→w1.cell? ⟨bi,oi+3*k,G⟩=H (C E es[k].t)∧w1.cell? ⟨bi,oi+(3*k+1),G⟩=H (C E es[k].k)∧w1.cell? ⟨bi,oi+(3*k+2),G⟩=H (C E es[k].v)):=by
  intro k hk;obtain ⟨e0,e1,e2⟩:=zph es k hk
  exact ⟨HY _ _ (by rw[P2,e0];rfl),HY _ _ (by rw[P2,e1];rfl),HY _ _ (by rw[P2,e2];rfl)⟩
 clear HY;go_wp2_with fail
 go_loopw [10,11] (fun vo i wr=>∃ k:Nat,Hid (k≤es.length)∧i=C E k∧wr.ownsRow w1.heap.size 54 3 vo k (zat (es.take k))∧Ext w1 wr) (fun _ i _=>x.toNat-(intOf i).toNat)
 case atStart=>exact ⟨0,Nat.zero_le _,rfl,Pb _ _ _ _,xR _⟩
 case round =>
  obtain ⟨k,Hk,rfl,H0,hE⟩:=hrel;have g1:=P6 hE g0
  by_cases hlt:(k:Int)<(x.toNat:Int)
  ·have KI:k<es.length:=by have:=HN.out;omega
   obtain ⟨q0,q1,q2⟩:=KV.out k KI;have Kp:=P6 hE q0;have Kq:=P6 hE q1;have Kr:=P6 hE q2
   have KR:zat (es.take (k+1))=zat (es.take k)++[C E es[k].t,C E es[k].k,C E es[k].v]:=by
    rw[List.take_succ_eq_append_getElem KI]
    show (es.take k++[es[k]]).flatMap Ent.cells=_
    rw[List.flatMap_append];rfl
   have J3:=J KR;clear KR
   generalize es[k].t=et at *
   generalize es[k].k=ek at *
   generalize es[k].v=ev at *
   have JD:k<4:=by omega
   obtain ⟨j0,KD⟩:∃ j0,3*k=j0:=⟨_,rfl⟩;obtain ⟨j1,KE⟩:∃ j1,3*k+1=j1:=⟨_,rfl⟩;obtain ⟨j2,KF⟩:∃ j2,3*k+2=j2:=⟨_,rfl⟩;rw[KD] at Kp q0;rw[KE] at Kq q1;rw[KF] at Kr q2
   have y0:Pa.wrap (3*(k:Int))=(j0:Int):=by rw[P8 _ (by omega)];omega
   have y1:Pa.wrap ((j0:Int)+1)=(j1:Int):=by rw[P8 _ (by omega)];omega
   have y2:Pa.wrap ((j0:Int)+2)=(j2:Int):=by rw[P8 _ (by omega)];omega
   have y3:(j0:Int)<3*(es.length:Int):=by omega
   have y4:(j1:Int)<3*(es.length:Int):=by omega
   have y5:(j2:Int)<3*(es.length:Int):=by omega
   clear KD KE KF;go_wp2_with fail
   refine wp_region_held_drew (S:=fun w'=>w'.cell? ⟨bi,oi+j0,G⟩=H (C E et)∧w'.cell? ⟨bi,oi+j1,G⟩=H (C E ek)∧w'.cell? ⟨bi,oi+j2,G⟩=H (C E ev)) (by kernel_rfl) ⟨Kp,Kq,Kr⟩ (fun _=>?_)
   refine tkN 0 ?_;refine tkN 1 ?_;refine tkN 2 ?_;refine tkN 3 ?_;refine tkN 4 ?_;refine tkN 5 ?_;refine tkN 6 ?_;refine tkN 7 ?_;refine tkN 8 ?_;refine tkN 9 ?_;refine tkN 10 ?_;refine tkN 11 ?_;refine tkN 12 ?_;refine tkN 13 ?_;refine tkN 14 ?_;refine tkN 15 ?_;refine tkN 16 ?_;refine tkN 17 ?_;refine tkN 18 ?_
   refine ar1 19 (fun K hK=>?_)
   go_simp
   have Hw:Ext wr (wr.drew.alloc (I #[C E et,C E ek,C E ev] 54)):=xA (xD (xR _)) _
   refine shK hK _ _ ⟨P6 Hw Kp,P6 Hw Kq,P6 Hw Kr⟩ (fun _=>?_)
   refine ar1 20 (fun K hK=>?_)
   have KP:=zab H0 Hw
   refine wp_append_lies _ (.tmp 58) (.tmp 77) 42 (by rfl) w1.heap.size 54 i0 _ 3 24 Tryz.underlying42 hi Ho Hp Hr rfl (by decide) _ k (zat (es.take k)) (by rfl) KP ⟨wr.heap.size,0,G⟩ 1 1 [C E et,C E ek,C E ev] (by rfl) rfl (World.news_of_block (heap_alloc_new _ _)) (by simp[Value.oneCell']) (by omega) (by unfold maxLen;omega) (by omega) (by have:=hE.size;simp;omega) _ rfl ?_
   intro g' Jz w3 HG HD _ _
   have HR:Ext w1 w3:=P7 (xT hE Hw) KP HD
   refine shK hK _ _ ⟨P6 HR q0,P6 HR q1,P6 HR q2⟩ (fun _=>?_)
   refine tkN 21 ?_;refine wdD ?_;go_wp2_with fail
   go_roundw
   case rel =>
    refine ⟨k+1,by show _≤_;omega,by go_num,?_,HR⟩
    rw[J3.out]
    exact HG
   case measure=>simp[intOf];omega
  ·have Je:k=es.length:=by have h1:=Hk.out;have h2:=HN.out;omega
   subst Je;rw[List.take_of_length_le (xN _)] at H0
   have H9:Es wr u10 es:=xW H0
   have Ka:Ext w wr:=xT H8 hE
   obtain ⟨Ao,co,rfl,_,_⟩:=xO H9;go_wp2_with fail
   have Km:r.length≤l.length:=by have:=K5.out;omega
   cases hok:zeA es with
   | false =>
    have Jk:Hid (zcB p (x::l)=none):=by
     show _=_
     refine zeC ?_
     rw[Ht.out,if_neg];rintro ⟨_,h⟩;rw[(zeI es).2 ⟨⟨Ki,HB⟩,h⟩] at hok
     cases hok
    refine (zmA _ _ es wr H9 hok).mono ?_
    rintro e w4 ⟨rfl,H4⟩;clear hok;go_wp2_with fail
    refine wp_region_held_drew (S:=fun _=>True) (by kernel_rfl) trivial (fun _=>?_)
    refine tkN 0 ?_;refine tkN 1 ?_;refine tkN 2 ?_;refine tkS 3 ?_;refine tkS 4 ?_;refine tkS 5 ?_;refine tkS 6 ?_;refine tkS 7 ?_;refine tkS 8 ?_;refine tkS 9 ?_;refine tkN 10 ?_;refine wdD ?_;go_wp2_with fail
    go_ret3
    exact RBlkP.none Jk.out (xD (xT Ka H4))
   | true =>
    have HM:zdb (x::l)=H (es,r):=by rw[Ht.out,if_pos (by simp[((zeI es).1 hok).2])]
    obtain ⟨nn,HE,_,KM,KA⟩:=zpK (p:=p) HM (by omega);rw[xC] at HE KM
    have Jj:(l.length:Int)+1-(r.length:Int)+4=(nn:Int):=by omega
    refine (znS za zb _ es wr H9 hok).mono ?_
    rw[Jm];rintro e w4 ⟨v4,vz,rfl,HI,Hj,H4⟩;clear hok HM HE;obtain ⟨KB,Kb⟩:∃ KB,zdm p es=KB:=⟨_,rfl⟩;rw[Kb] at Hj KA
    have HS:Bs w4 v4 KB:=xW Hj
    obtain ⟨A4,c4,rfl,_,_⟩:=xO HS;obtain ⟨z3,z4,rfl,Js,Jt⟩:=HI
    have Kf:Bs w4 (D (H ⟨b,H2,G⟩) nn c) ((x::l).take nn):=Bs.take (Hl.out.ext (xT Ka H4)) nn (by simpa using KM)
    have Kz:=zaE (P:=F) w4.drew 33 9 5 Tryz.underlying33 Tryz.underlying5 Tryz.underlying9 (SlR.ext HS (xD (xR _)));have HW:=zaE (P:=F) w4.drew 33 9 5 Tryz.underlying33 Tryz.underlying5 Tryz.underlying9 (SlR.ext Kf (xD (xR _)))
    have JI:(nn:Int)≤(c:Int):=by omega
    have Hv:Ext w w4:=xT Ka H4
    have Jl:w4.ownsRow w1.heap.size 54 3 (D Ao es.length co) es.length (zat es):=zab H0 H4
    rcases KA with ⟨hq,hrb⟩ | ⟨hq,hrb⟩
    ·have K4:=J hrb
     rw[←hq] at HW;clear hrb hq Kb HS Kf H9 H0;go_wp2_with fail
     refine wp_region_held_drew (S:=fun W=>(convert 33 9 (D A4 KB.length c4)).run F W=.ok (L ⟨KB.toArray⟩) W∧(convert 33 9 (D (H ⟨b,H2,G⟩) nn c)).run F W=.ok (L ⟨KB.toArray⟩) W) (by kernel_rfl) ⟨Kz,HW⟩ (fun _=>?_)
     refine tkN 0 ?_;refine tkN 1 ?_;refine tkN 2 ?_;refine tkN 3 ?_;refine tkN 4 ?_;refine tkN 5 ?_;refine tkN 6 ?_;refine tkN 7 ?_;refine tkN 8 ?_;refine tkN 9 ?_;refine tkN 10 ?_;refine wdD ?_;go_wp2_with fail
     go_ret3
     rw[K4.out]
     exact ⟨_,_,rfl,zaf (zab Jl (xD (xR _))) H8.size,⟨_,_,rfl,Js,Jt⟩,xD Hv⟩
    ·have K4:=J hrb
     obtain ⟨TB,Ky⟩:∃ TB,(x::l).take nn=TB:=⟨_,rfl⟩;rw[Ky] at HW hq
     have Ji:(KB==TB)=false:=by rw[beq_eq_false_iff_ne];exact hq
     clear hrb Kb HS Kf H9 H0 Ky;go_wp2_with fail
     refine wp_region_held_drew (S:=fun W=>(convert 33 9 (D A4 KB.length c4)).run F W=.ok (L ⟨KB.toArray⟩) W∧(convert 33 9 (D (H ⟨b,H2,G⟩) nn c)).run F W=.ok (L ⟨TB.toArray⟩) W) (by kernel_rfl) ⟨Kz,HW⟩ (fun _=>?_)
     refine tkN 0 ?_;refine tkN 1 ?_;refine tkN 2 ?_;refine tkN 3 ?_;refine tkN 4 ?_;refine tkN 5 ?_;refine tkN 6 ?_;refine tkN 7 ?_;refine tkN 8 ?_;refine tkN 9 ?_;refine tkN 10 ?_;refine wdD ?_;go_wp2_with fail
     go_ret3
     exact RBlkP.none K4.out (xD Hv)
theorem mcRefScana0 {P:Prop} (h:P:=by
 go_enter Tryz.func169,Tryz.ntmps169
 go_wp2_with (go_at_call 157;rw[←HV.out];refine (HT.out _ _ (HP.out _ Hm)).mono ?_;rintro e w1 ⟨v1,rfl,Ha,Hd⟩;have Hh:=Hg.ext Hd;obtain ⟨c0,c1,c2,f0,f1,f2⟩:=zba Hh)
 exact bodyPost_ret (zdN _ _ _ _ _ _ _ _ rfl rfl rfl (zbL Hh _ _ _)) rfl (zim (zf0 Hs.out) (zbM (xT Hm Hd) (xN _) _ _ _))):P:=h
theorem zdN (tmps:Array Value) (W:World) (N:Nat) (a v u vz ve:Value) (h2:tmps.getD 2 undef=.pointer (H ⟨N,0,G⟩)) (h3:tmps.getD 3 undef=vz) (h4:tmps.getD 4 undef=ve) (hb:Blk W N 90 #[a,v,u]) :
  (results Tryz.f169 tmps).run F W=.ok (.tuple #[.agg #[a,v,u],vz,ve]) W:=by
 obtain ⟨c0,c1,c2,_⟩:=zba hb;simp only[Array.getD_eq_getD_getElem?] at h2 h3 h4
 simp[results,Tryz.results169,go_sem,h2,h3,h4,c0,c1,c2]
theorem zrn {bs:List UInt8} {k:Nat} {q:Nat×Nat} {es:List Ent} {r:List UInt8} (hk:k≤bs.length) (h:zcB q (bs.drop k)=H (es,r)) :
  ∃ nn,(bs.drop k).length-r.length=nn∧0<nn∧k+nn≤bs.length∧es.length≤nn∧es.length≤4∧bs.drop (k+nn)=r ∧
   zcd q (bs.drop k)=(es++(zcd (zas q (zaL es)) (bs.drop (k+nn))).1,(zcd (zas q (zaL es)) (bs.drop (k+nn))).2):=by
 obtain ⟨h1,h2⟩:=(zkM _ _ _ _).1 h;have hl:=congrArg P3 h2;have JB:=znn es
 have HU:(zdm q es).length=(zaL es).length+4:=by unfold zdm;rw[xL];rfl
 rw[xL,P1] at hl
 have hd:bs.drop (k+(zdm q es).length)=r:=by rw[←List.drop_drop,h2,P5]
 refine ⟨(zdm q es).length,by rw[P1];omega,by omega,by omega,by omega,((zeI es).1 h1).1.2,hd,?_⟩
 rw[hd]
 exact zpY h
def zen (W:World) (B:Nat):Nat:=match W.cell? ⟨B,2,G⟩ with | some (.int _ k)=>k.toNat | _=>0
theorem znU (v:Value) (bs:List UInt8) (w:World) (H5:Bs w v bs) (hl:bs.length≤2000000):Calls F 169 #[v] w (zoH w (zdE bs)):=by
 obtain ⟨A,c,rfl,h1,h2⟩:=xO H5;obtain ⟨i0,hi,Ho,Hp,Hr⟩:=info_parts zeq
 have Hm:Ext w (w.alloc (I #[C E 0,D none 0 0,C E 0] 90)):=xA (xR _) _
 have Hg:Blk (w.alloc (I #[C E 0,D none 0 0,C E 0] 90)) w.heap.size 90 #[C E 0,D none 0 0,C E 0]:=Blk.new w _ _
 by_cases h0:bs.length=0
 ·obtain rfl:bs=[]:=P0 h0
  obtain ⟨c0,c1,c2,f0,f1,f2⟩:=zba Hg
  go_enter Tryz.func169,Tryz.ntmps169
  go_wp2_with fail
  exact bodyPost_ret (zdN _ _ _ _ _ _ _ _ rfl rfl rfl Hg) rfl (zim (zf0 rfl) Hm)
 obtain ⟨_,b,H2,rfl,hc⟩:=Bs.at_ H5 (by omega)
 have He:w.cell? ⟨b,H2,G⟩=H (C .u8 (bs[0].toNat:Int)):=hc 0 (by omega)
 obtain ⟨x,l,rfl⟩:∃ x l,bs=x::l:=by cases bs with | nil=>exact absurd rfl h0 | cons x l=>exact ⟨x,l,rfl⟩
 simp only[P4] at He
 have Ke:b<w.heap.size:=Pc w _ He
 have Hl:=J H5
 have e0:¬ ((l.length:Int)+1<1):=by omega
 clear hc H5 h0
 simp only[xC] at *
 by_cases hx:x.toNat=2
 case neg =>
  have e1:((x.toNat:Int) != 2)=true:=by simp;omega
  obtain ⟨c0,c1,c2,f0,f1,f2⟩:=zba Hg
  have hN:Hid (zdi (x::l)=none):=by show _=_;rw[zdi,if_neg (fun h=>hx (by rw[h.1];rfl))]
  clear hx
  go_enter Tryz.func169,Tryz.ntmps169
  go_wp2_with fail
  exact bodyPost_ret (zdN _ _ _ _ _ _ _ _ rfl rfl rfl Hg) rfl (zim (zf0 hN.out) Hm)
 have Jq:x=2:=UInt8.toNat_inj.1 (by simpa using hx)
 subst Jq
 have HT:Hid (∀ (W:World) (u:Value),Bs W u l→Calls F 157 #[u] W (zij W (zaI l))):=fun W u hu=>ziR u l W hu (by omega)
 have HH:Hid (zdi (2::l)=if (zaI l).1=0∧(zaI l).2.1≠0 then some (zaI l).2 else none):=by show _=_;rw[zdi];simp
 have Km:=zho l
 have K1:Hid (l=[]→(zaI l).1≠0):=by rintro rfl;decide
 rcases HM:zaI l with ⟨er,m,r⟩
 rw[HM] at HT HH Km K1;dsimp only at HH Km K1;clear HM hx
 have Hf:Hid (∀ W:World,Ext w W→Bs W (D (H ⟨b,H2+1,G⟩) l.length (c-1)) l):=by
  intro W hE;have h:=Bs.cut (Hl.out.ext hE) 1 (by simp) rfl
  simpa using h
 have Kn:∃ vs:Value,(∀ W,Ext w W→Bs W vs l)∧vs=D (if c=1 then some ⟨b,H2,G⟩ else some ⟨b,H2+1,G⟩) l.length (c-1):=by
  by_cases hc1:c=1
  ·obtain rfl:l=[]:=P0 (by omega)
   exact ⟨_,fun W _=>SlR.empty W 1 (by omega),rfl⟩
  ·exact ⟨_,fun W hE=>Hf.out W hE,by rw[if_neg hc1]⟩
 obtain ⟨vs,Hc,H3⟩:=Kn;have HP:=J Hc;have HV:=J H3
 have J9:(1:Int)≤(l.length:Int)+1:=by omega
 have Kd:(1:Int)≤(c:Int):=by omega
 clear Hc H3
 by_cases hbad:er=0∧m≠0
 case neg =>
  have Hs:Hid (zdi (2::l)=none):=by show _=_;rw[HH.out,if_neg hbad]
  by_cases her:er=0
  ·subst her
   have hm:m=0:=Decidable.byContradiction (fun h=>hbad ⟨rfl,h⟩)
   subst hm;clear hbad HH
   exact mcRefScana0
  ·have e6:(er != 0)=true:=by simpa using her
   clear hbad HH her
   exact mcRefScana0
 obtain ⟨rfl,hm⟩:=hbad
 have JH:¬ ((m:Int)<1):=by omega
 have Hs:Hid (zdi (2::l)=H (m,r)):=by show _=_;rw[HH.out,if_pos ⟨rfl,hm⟩]
 obtain ⟨k0,KH⟩:∃ k,l.length+1-r.length=k:=⟨_,rfl⟩
 have Jc:k0≤l.length+1:=by omega
 have Jn:(l.length:Int)+1-(r.length:Int)=(k0:Int):=by omega
 have Kg:(2::l).drop k0=r:=by
  have h:=((zkI _ _ _).1 Hs.out).2;have Jf:=congrArg P3 h;rw[xC,xL] at Jf
  rw[h,show k0=(zcP (m:Int)).2.length from by omega,P5]
 have KZ:Hid ((2::l).take k0=(zcP (m:Int)).2):=by
  have:=(zrb Hs.out).2
  simp only[xC] at this;rw[KH] at this
  exact this
 have Kj:=zrm Hs.out;rw[←Kg] at Kj;have J0:=J Kj;have Jx:=J Kg
 have JE:(k0:Int)≤(c:Int):=by omega
 clear hm HH K1 KH Kj Kg
 go_enter Tryz.func169,Tryz.ntmps169
 go_wp2_with (first
  | (go_at_call 157;rw[←HV.out];refine (HT.out _ _ (HP.out _ Hm)).mono ?_;rintro e w1 ⟨v1,rfl,Ha,Hd⟩;have Hh:=Hg.ext Hd;obtain ⟨c0,c1,c2,f0,f1,f2⟩:=zba Hh;obtain ⟨Ar,cr,rfl,_,_⟩:=xO (xW Ha))
  | (go_at_call 218
     have K9:Ext w (w1.alloc (I #[C E m,D none 0 0,C E k0] 90)):=xA (xT Hm Hd) _
     have HU:=Bs.take (Hl.out.ext K9) k0 (by simp;omega);rw[KZ.out] at HU;have hp:=zjR HU;rw[xS] at hp
     refine (zlk _ _ _ hp).mono ?_
     rintro e w3 ⟨vz,rfl,HI,rfl⟩
     rw[show [(zcP (m:Int)).2].flatten=(zcP (m:Int)).2 from by simp] at HI
     have KX:=J HI
     obtain ⟨z1,z2,rfl,_,_⟩:=HI))
 have Kv:Blk ((w1.alloc (I #[C E m,D none 0 0,C E k0] 90)).alloc (I #[D (H ⟨b,H2,G⟩) k0 c] 33)) w1.heap.size 90 #[C E m,D none 0 0,C E k0]:=(Blk.new w1 _ _).alloc _
 have Kx:Blk ((w1.alloc (I #[C E m,D none 0 0,C E k0] 90)).alloc (I #[D (H ⟨b,H2,G⟩) k0 c] 33)) w.heap.size 90 #[C E 0,D none 0 0,C E 0]:=(Hh.alloc _).alloc _
 have Kw:Ext w ((w1.alloc (I #[C E m,D none 0 0,C E k0] 90)).alloc (I #[D (H ⟨b,H2,G⟩) k0 c] 33)):=xA K9 _
 have JA:w.heap.size<w1.heap.size:=Hh.lt
 clear c0 c1 c2 f0 f1 f2 Hh K9 Ha hp HU Hg
 go_loopw [9] (fun zv wr=>∃ (log:List Ent) (k:Nat) (q:Nat×Nat) (vl:Value),Hid (PtV zv q)∧Hid (k≤l.length+1∧log.length≤k) ∧
   Hid (zdE (2::l)=⟨0,m,log++(zcd q ((2::l).drop k)).1,(2::l).length-(zcd q ((2::l).drop k)).2.2.length,(zcd q ((2::l).drop k)).2.1⟩) ∧
   Hid (Blk wr w1.heap.size 90 #[C E m,vl,C E k])∧Hid (Blk wr w.heap.size 90 #[C E 0,D none 0 0,C E 0])∧wr.ownsRow w.heap.size 54 3 vl log.length (zat log)∧Ext w wr) (fun _ wr=>l.length+1-zen wr w1.heap.size)
 case atStart=>exact ⟨[],k0,zas (0,0) (zcP (m:Int)).2,D none 0 0,KX.out,⟨Jc,Nat.zero_le _⟩,J0.out,Kv,Kx,Pb _ _ _ _,Kw⟩
 case round =>
  clear Kv Kx Kw;obtain ⟨log,k,q,vl,Hz,Hk,Hq,K3,Kt,H0,hE⟩:=hrel;have Ko:=Hz.out;obtain ⟨z3,z4,rfl,_,_⟩:=Ko;obtain ⟨Av,cv,rfl,_,_⟩:=xO (xW H0);obtain ⟨c0,c1,c2,f0,f1,f2⟩:=zba K3.out;have hk:=Hk.out.1;have JG:=Hk.out.2
  have JF:(k:Int)≤(l.length:Int)+1:=by omega
  have Jd:(k:Int)≤(c:Int):=by omega
  have H3:∃ K0:Value,Bs wr K0 ((2::l).drop k)∧K0=D (if c=k then some ⟨b,H2,G⟩ else some ⟨b,H2+k,G⟩) (l.length+1-k) (c-k):=by
   by_cases hck:c=k
   ·exact ⟨_,Bs.cut0 (A:=H ⟨b,H2,G⟩) (n:=l.length+1) (k:=k) (c:=c-k) (bs:=2::l) (by simp;omega) (by simp) (by omega),by rw[if_pos hck]⟩
   ·exact ⟨_,Bs.cut (Hl.out.ext hE) k (by simp;omega) (by simp),by rw[if_neg hck]⟩
  obtain ⟨K0,H3,HO⟩:=H3;have Ku:=J HO;have H1:=zpQ z3 z4 q K0 _ wr Hz.out H3 (by rw[P1,xC];omega);clear HO H3
  cases hn:zcB q ((2::l).drop k) with
  | none =>
   have HF:zdE (2::l)=⟨0,m,log,k,q⟩:=by
    rw[Hq.out,zpX hn];simp only[List.append_nil,P1,xC]
    rw[show l.length+1-(l.length+1-k)=k from by omega]
   have K6:=J HF;unfold zje at H1;rw[hn] at H1;have K2:=J H1;clear HF H1 hn
   go_wp2_with (go_at_call 219;rw[←Ku.out];refine K2.out.mono ?_;rintro e w4 ⟨Ju,Jv,rfl,Hj,HZ,H4⟩;obtain ⟨z5,z6,rfl,_,_⟩:=HZ;have Hu:=K3.out.ext H4;have Hn:=Kt.out.ext H4;obtain ⟨d0,d1,d2,J4,J5,J6⟩:=zba Hu;obtain ⟨r0,r1,r2,s0,s1,s2⟩:=zba Hn)
   refine bodyPost_ret (zdN _ _ _ _ _ _ _ _ rfl rfl rfl (zbL Hn _ _ _)) rfl ?_
   rw[K6.out]
   exact ⟨_,_,rfl,zfC Hn (by decide) (zab H0 H4) _ _ _,Hz.out,zbM (xT hE H4) (xN _) _ _ _⟩
  | some y =>
   obtain ⟨es,r'⟩:=y;obtain ⟨nn,HE,KL,KJ,JC,HB,Kh,KQ⟩:=zrn (bs:=2::l) (k:=k) (by simp;omega) hn;rw[xC] at KJ;unfold zje at H1;rw[hn] at H1;dsimp only at H1;rw[HE] at H1;have K2:=J H1;have J2:=J KQ;have J1:=J KL
   have Ji:((nn:Int)==0)=false:=by rw[beq_eq_false_iff_ne];omega
   have Jj:(k:Int)+(nn:Int)≤2000000:=by omega
   clear H1 hn KQ HE Kh KL
   go_wp2_with (first
    | (go_at_call 219
       rw[←Ku.out]
       refine K2.out.mono ?_
       rintro e w4 ⟨Ju,Jv,rfl,Hj,HZ,H4⟩;dsimp only at Hj;have KW:=J HZ;obtain ⟨z5,z6,rfl,_,_⟩:=HZ;obtain ⟨A4,c4,rfl,_,_⟩:=xO (xW Hj);have Hu:=K3.out.ext H4;have Hn:=Kt.out.ext H4;have H7:=zab H0 H4
       obtain ⟨d0,d1,d2,J4,J5,J6⟩:=zba Hu)
    | (at_builtin
       refine zaC _ rfl (.tmp 65) (.tmp 66) 42 rfl w.heap.size 54 i0 _ 3 24 Tryz.underlying42 hi Ho Hp Hr rfl (by decide) _ log.length (zat log) rfl H7 _ es.length (zat es) rfl (xW Hj) (zfz _) (by unfold maxLen;omega) (by omega) (xT hE H4).size ?_
       intro v5 w5 Hb H6;obtain ⟨A5,K7,rfl,_,_⟩:=xO (xW Hb);have K8:=Hu.kept H6 (Hu.not_row (by decide) H7);have J8:=Hn.kept H6 (Hn.not_row (by decide) H7);have HQ:=K8.set 1 (D A5 (log.length+es.length) K7);obtain ⟨m0,m1,m2,n0,n1,n2⟩:=zba K8
       obtain ⟨p0,p1,p2,q0,q1,q2⟩:=zba HQ))
   go_roundw
   case rel =>
    have r1:=Hb.kept (zad w5 w1.heap.size 1 (D A5 (log.length+es.length) K7)) (.inr (K8.not_row (by decide) Hb).symm);have r2:=r1.kept (zad _ w1.heap.size 2 (C E ((k:Int)+nn))) (.inr (HQ.not_row (by decide) r1).symm)
    refine ⟨log++es,k+nn,zas q (zaL es),D A5 (log.length+es.length) K7,KW.out,⟨KJ,by rw[xL];omega⟩,?_,HQ.set 2 (C E ((k:Int)+nn)),(J8.other (by omega) 1 _).other (by omega) 2 _,?_,?_⟩
    ·show _=_
     rw[Hq.out,J2.out];dsimp only;rw[List.append_assoc]
    ·rw[xL,show zat (log++es)=zat log++zat es from by simp[zat]]
     exact r2
    ·exact P9 (p:=⟨w1.heap.size,2,G⟩) (P9 (p:=⟨w1.heap.size,1,G⟩) (P7 (xT hE H4) H7 H6) (by show _≤w1.heap.size;omega) _) (by show _≤w1.heap.size;omega) _
   case measure =>
    have Jh:=(zba (HQ.set 2 (C E ((k:Int)+nn)))).2.2.1
    have:=J1.out
    unfold zen;rw[Jh,c2];dsimp only;omega
theorem znV (v:Value) (bs:List UInt8) (w:World) (H5:Bs w v bs) (hl:bs.length≤2000000):∀ W,Ext w W→Calls F 169 #[v] W (zoH W (zdE bs)):=fun W hE=>znU v bs W (Bs.ext H5 hE) hl
theorem znY (v:Value) (bs:List UInt8) (w:World) (H5:Bs w v bs) (hl:bs.length≤2000000):Calls F 100 #[v] w (zii w (zdE bs)):=by
 have HL:=J (znV v bs w H5 hl);obtain ⟨A,c,rfl,_,_⟩:=xO H5;clear H5
 generalize zdE bs=R at *
 obtain ⟨er,first,log,used,pt⟩:=R
 go_enter Tryz.func100,Tryz.ntmps100
 go_wp2_with (go_at_call 169;refine (HL.out _ (xA (xR _) _)).mono ?_;rintro e w1 ⟨vl,vz,rfl,Ha,hp,Hd⟩;dsimp only at Ha;obtain ⟨Av,cv,rfl,_,_⟩:=xO (xW Ha);obtain ⟨z1,z2,rfl,_,_⟩:=hp;have hB:=((Blk.new w 90 #[C E 0,D none 0 0,C E 0]).ext Hd).alloc (I #[C E first,D Av log.length cv,C E used] 90);obtain ⟨c0,c1,c2,f0,f1,f2⟩:=zba hB)
 have Kd:=zbL hB (C E first) (D Av log.length cv) (C E used);have HJ:=zab Ha (xA (xR w1) (I #[C E first,D Av log.length cv,C E used] 90));have r1:=HJ.kept (zad _ w.heap.size 0 (C E first)) (.inr (hB.not_row (by decide) HJ).symm);have b1:=hB.set 0 (C E first);have r2:=r1.kept (zad _ w.heap.size 1 (D Av log.length cv)) (.inr (b1.not_row (by decide) r1).symm);have b2:=b1.set 1 (D Av log.length cv);have r3:=r2.kept (zad _ w.heap.size 2 (C E used)) (.inr (b2.not_row (by decide) r2).symm);obtain ⟨g0,g1,g2,_,_,_⟩:=zba Kd
 refine bodyPost_ret (v:=.tuple #[.agg #[C E first,D Av log.length cv,C E used],C E er]) (by simp[results,Tryz.results100,go_sem,g0,g1,g2]) rfl ⟨_,rfl,zaf r3 (by simp),?_⟩
 exact P9 (p:=⟨w.heap.size,2,G⟩) (P9 (p:=⟨w.heap.size,1,G⟩) (P9 (p:=⟨w.heap.size,0,G⟩) (xA (xT (xA (xR _) _) Hd) _) (xN _) _) (xN _) _) (xN _) _
theorem zlx {ops:Array Oper} {rest:List Oper} {o:Oper} {a:Act} {w:World} {Q:Exit→Act→World→Prop} (Jb:o.guard=none) (s x:Operand)
  (ho:o.op=.call { callee:=.builtin .append,args:=#[s,x],argTypes:=#[42,42] })
  (base:Nat) (v:Value) (bs:List Ent) (hs:a.eval s=v) (H0:OwnE w base v bs) (vx:Value) (cs:List Ent) (hx:a.eval x=vx) (hr:Es w vx cs) (He:0<cs.length)
  (Jg:bs.length+cs.length≤2000000) (Hx:base≤w.heap.size)
  (h:∀ A c w',OwnE w' base (D A (bs.length+cs.length) c) (bs++cs)→zcz base w w'→w.grownBy w' v.ownBlock→((Value.slice A (bs.length+cs.length) c).ownBlock=v.ownBlock∨(Value.slice A (bs.length+cs.length) c).ownBlock=H w.heap.size)→wpList F ops Q rest (a.put o.dst (D A (bs.length+cs.length) c)) w'):wpList F ops Q (o::rest) a w:=by
 obtain ⟨i0,hi,Ho,Hp,Hr⟩:=info_parts zeq;obtain ⟨v',w',HK,h1,h2⟩:=zbD (P:=F) w base 42 o.type 54 i0 _ 3 24 Tryz.underlying42 hi Ho Hp Hr rfl (by decide) v bs.length (zat bs) H0 vx cs.length (zat cs) hr (zfz _) (by unfold maxLen;omega) (by omega) Hx
 have H1:v'.ownBlock=v.ownBlock∨v'.ownBlock=H w.heap.size:=by
  obtain ⟨hl,A,c,rfl,_,_,hc⟩:=hr;obtain ⟨b,H2,rfl,Hy⟩:=hc He
  have Kc:∀ j,(⟨b,H2,G⟩:Addr).add j=⟨b,H2+j,G⟩:=by intro j;unfold Addr.add;split <;> simp_all
  exact zd7 (P:=F) w base 42 o.type 54 i0 _ 3 24 Tryz.underlying42 hi Ho Hp Hr v bs.length (zat bs) H0 ⟨b,H2,G⟩ cs.length c (zat cs) hl He (fun j u hu=>by rw[Kc];exact Hy j u hu) (zfz _) (by unfold maxLen;omega) (by omega) HK
 refine wpList_plain Jb fun K hK=>?_
 unfold Oper.wp execOp;simp only[ho,resolve,invoke,builtin,Sem.run_bind,Sem.run_pure,Result.andThen_ok,List.map_toArray,List.map_cons,List.map_nil,hs,hx,HK]
 refine hK _ _ ?_
 obtain ⟨A,c,rfl,_,_⟩:=xO (xW h1)
 refine h A c w' ?_ (fun W0 hE hb=>P7 hE (zaf H0 hb) h2) h2 H1
 unfold OwnE
 rw[xL,show zat (bs++cs)=zat bs++zat cs from by simp[zat]]
 exact h1
end Go.Proofs.YteggfecbjgbndaaGreatDoor
