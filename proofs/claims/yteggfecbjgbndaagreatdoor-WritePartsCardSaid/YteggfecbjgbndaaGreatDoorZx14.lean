/- Merged -/
import Derived.Test.YteggfecbjgbndaaGreatDoorZx10
set_option linter.all false
set_option maxHeartbeats 8000000
set_option maxRecDepth 100000
open Go.Proofs.Tryz
open List renaming length->M
open Go.Value renaming int->C,slice->D,string->L
open Go.IntKind renaming i64->E
open Go.Proofs.Tryz renaming prog->F
open Option renaming none->G,some->H
open Go.Obj renaming cells->I
open Go.Mv renaming aN->J
open List renaming eq_nil_of_length_eq_zero->P0,length_drop->P1,getElem?_map->P2,length->P3,getElem_cons_zero->P4,drop_left->P5
open Go.Mv.Ext renaming cell->P6,grownOwn->P7
open Go.IntWalk renaming i64_in->P8
open Go.RowKit.Below renaming setCell->P9
open Go.IntKind renaming i64->Pa
open Go.World renaming ownsRow_nil->Pb,block_lt_of_cell?->Pc
namespace Go.Proofs.YteggfecbjgbndaaGreatDoor
open Go.RowKit Go.Mv
variable {bs:List UInt8}
def lj(p:Nat×Nat)(bs:List UInt8):List Ent×(Nat×Nat)×Nat:=match bX p bs with | none=>([],(0,0),0) | some x=>(x.1,aD p (bp x.1),M bs-M x.2)
def RBlkP(w:World)(r:List Ent×(Nat×Nat)×Nat)(e:Ending)(w':World):Prop:=
 ∃a b,e=.returned (.tuple #[a,b,C E r.2.2])/\w'.ownsRow w.heap.size 54 3 a r.1.length (ax r.1)/\PtV b r.2.1/\Ext w w'
theorem RBlkP.none{w w':World}{p:Nat×Nat}(h:bX p bs=none)(a:Ext w w'):RBlkP w (lj p bs) (.returned (.tuple #[D none 0 0,.complex .f64 0 0,C E 0])) w':=by
 unfold lj;rw[h];exact⟨_,_,rfl,Pb _ _ _ _,PtV.zero,a⟩
theorem od{p:Nat×Nat}(h:dO bs=none):bX p bs=none:=by unfold bX;rw[h]
theorem IZ{p:Nat×Nat}{es:List Ent}{r:List UInt8}(h:dO bs=H (es,r))(h4:4<=M r):
  ∃a,M bs-M r+4=a/\M r<=M bs/\a<=M bs/\((dI p es=bs.take a/\lj p bs=(es,aD p (bp es),a))\/(dI p es≠bs.take a/\bX p bs=none)):=by
 obtain⟨h1,h2⟩:=rj h;have hl:=congrArg P3 h2;rw[xL]at hl;have a:bs.take (M bs-M r+4)=bp es++r.take 4:=by
  rw[hl,Nat.add_sub_cancel,h2,List.take_length_add_append]
 refine⟨_,rfl,by omega,by omega,?_⟩;have hn:bX p bs=if 4<=M r/\r.take 4=aW (aD p (bp es))then some (es,r.drop 4)else none:=by unfold bX;rw[h]
 by_cases hf:r.take 4=aW (aD p (bp es))
 ·rw[if_pos ⟨h4,hf⟩]at hn;refine .inl ⟨by rw[a,hf];rfl,?_⟩;unfold lj;rw[hn];dsimp only;rw[P1,show M bs-(M r-4)=M bs-M r+4 from by omega]
 ·rw[if_neg (λh=>hf h.2)]at hn;refine .inr ⟨λe=>hf ?_,hn⟩;rw[a]at e;unfold dI at e;exact(List.append_cancel_left e).symm
theorem Gt(es:List Ent):∀(k:Nat) (hk:k<M es),(bd es)[3*k]?=H es[k].t/\(bd es)[3*k+1]?=H es[k].k/\(bd es)[3*k+2]?=H es[k].v:=by
 induction es with
 |nil=>intro k hk;simp at hk
 |cons e es ih=>
  intro k hk;rw[show bd (e::es)=e.t::e.k::e.v::bd es from rfl];cases k with
  |zero=>exact⟨rfl,rfl,rfl⟩
  |succ k=>
   obtain⟨a,h1,h2⟩:=ih k (by simpa using hk);rw[show 3*(k+1)=3*k+1+1+1 from by omega,show 3*k+1+1+1+1=(3*k+1)+1+1+1 from rfl,show 3*k+1+1+1+2=(3*k+2)+1+1+1 from rfl];simp only[List.getElem?_cons_succ,List.getElem_cons_succ];exact⟨a,h1,h2⟩
theorem I3(za zb:Nat)(p:Nat×Nat)(v:Value)(bs:List UInt8)(w:World)(hz:PtV (.complex .f64 za zb) p)(X:Bs w v bs)(hl:M bs<=2000000):Calls F 219 #[.complex .f64 za zb,v] w (RBlkP w (lj p bs)):=by
 obtain⟨A,c,rfl,h1,h2⟩:=xO X;have Jj:=hz.pt;clear hz;by_cases h0:M bs=0
 ·have hb:bs=[]:=P0 h0;subst hb;have hN:=J (od (p:=p) (bs:=[]) rfl);go_enter func219,ntmps219
  go_wp2_with fail
  go_ret3;exact RBlkP.none hN (xR _)
 obtain⟨_,b,j,rfl,hc⟩:=Bs.at_ X (by omega);have He:w.cell? ⟨b,j,G⟩=H (C .u8 (bs[0].toNat:Int)):=hc 0 (by omega);obtain⟨x,l,rfl⟩:∃x l,bs=x::l:=by cases bs with | nil=>exact absurd rfl h0 | cons x l=>exact⟨x,l,rfl⟩
 simp only[P4]at He;have Ke:b<w.heap.size:=Pc w _ He;have Hl:=J X;have e0:¬((M l:Int)+1<1):=by omega
 clear hc X h0;simp only[xC]at *;have hx:=x.toNat_lt;by_cases o:x.toNat=0\/4<x.toNat
 ·have hN:=J (od (p:=p) (bs:=x::l) (by rw[dO,if_pos o]));by_cases KT:x.toNat=0
  ·rw[KT]at He;go_enter func219,ntmps219
   go_wp2_with fail
   go_ret3;exact RBlkP.none hN (xR _)
  have Jo:(4:Int)<(x.toNat:Int):=by omega
  have JG:¬((x.toNat:Int)<1):=by omega
  go_enter func219,ntmps219
  go_wp2_with fail
  go_ret3;exact RBlkP.none hN (xR _)
 have KT:¬((x.toNat:Int)<1):=by omega
 have Jo:¬((4:Int)<(x.toNat:Int)):=by omega
 have HT:Hid (∀(W:World) (u:Value),Bs W u l->Calls F 91 #[u,C E (3*(x.toNat:Int))] W (ir W (ao (3*x.toNat) [] l))):=by
  intro W u hu;have:=mA u l (3*x.toNat) W hu (by omega);rwa[show((3*x.toNat:Nat):Int)=3*(x.toNat:Int)from by omega]at this
 have Q:Hid (dO (x::l)=if(ao (3*x.toNat) [] l).1=0/\bQ (dx (ao (3*x.toNat) [] l).2.1)=true then some (dx (ao (3*x.toNat) [] l).2.1,(ao (3*x.toNat) [] l).2.2)else none):=by
  show _=_;rw[dO,if_neg o]
 have Ks:=J (mQ (3*x.toNat) [] l);generalize ao (3*x.toNat) [] l=tk at *;obtain⟨er,li,r⟩:=tk;dsimp only at *;have HA:∀W:World,Ext w W->Bs W (D (H ⟨b,j+1,G⟩) l.length (c-1)) l:=by
  intro W d;have h:=Bs.cut (Hl.ext d) 1 (by simp) rfl;simpa using h
 have Hf:=J HA;have J7:∀W:World,Bs W (D (H ⟨b,j,G⟩) 0 0) []:=λW=>SlR.empty W 1 (by simp);clear HA o;have Kn:∃vs:Value,(∀W,Ext w W->Bs W vs l)/\vs=D (if c=1 then some ⟨b,j,G⟩else some ⟨b,j+1,G⟩) l.length (c-1):=by
  by_cases hc1:c=1
  ·obtain rfl:l=[]:=P0 (by omega);exact⟨_,λW _=>SlR.empty W 1 (by omega),rfl⟩
  exact⟨_,λW d=>Hf.out W d,by rw[if_neg hc1]⟩
 obtain⟨vs,Hc,H3⟩:=Kn;have HP:=J Hc;have J6:(1:Int)<=(M l:Int)+1:=by omega
 have Kd:(1:Int)<=(c:Int):=by omega
 have Jl:Pa.wrap (x.toNat:Int)=(x.toNat:Int):=P8 _ (by omega);have Jm:Pa.wrap (3*(x.toNat:Int))=3*(x.toNat:Int):=P8 _ (by omega);have HV:=J H3;clear Hc J7 H3;go_enter func219,ntmps219
 go_wp2_with fail
 go_region_held3 (λw'=>w'.cell? ⟨b,j,G⟩=H (C .u8 (x.toNat:Int))) (first|go_keep | assumption)
  (first|(go_at_call 91;(try rw[Jl,Jm]);rw[<-HV.out];refine(HT _ _ (HP _ (xD (xR _)))).mono ?_;rintro e g⟨vl,vr,rfl,Ha,KO,Hd⟩;have N:Ext w g:=xT (xD (xR _)) Hd;have g0:=P6 N He;dsimp only at Ha KO;obtain⟨Al,cl,rfl,_,_⟩:=xO (xW Ha);obtain⟨Ar,cr,rfl,_,_⟩:=xO (xW KO)))
 by_cases m:er=0
 case neg=>
  have e6:(er != 0)=true:=by simpa using m
  have KY:=J m;clear m;go_wp2_with fail
  go_ret3;exact RBlkP.none (od (by rw[Q.out,if_neg (λh=>KY.out h.1)])) N
 subst m;by_cases hr4:(M r:Int)<4
 ·go_wp2_with fail
  go_ret3;refine RBlkP.none ?_ N;unfold bX;rw[Q.out];split
  ·rfl
  rename_i y hy;split at hy
  ·cases hy;rw[if_neg (λh=>by have:=h.1;dsimp only at this;omega)]
  cases hy
 obtain⟨l',KK,h4,Kl,Kk⟩:=Ks li r rfl;rw[xI]at KK;subst KK;obtain⟨h7,h8⟩:=qG x.toNat li h4;obtain⟨es,KC⟩:∃es,dx li=es:=⟨_,rfl⟩;rw[KC]at Q h7 h8;have Hi:=congrArg P3 Kk;rw[xL]at Hi;have Jv:=J Kk;subst h7;have Jt:=lr es;have HB:M es<=4:=by omega
 have Ki:0<M es:=by omega
 have KN:(x.toNat:Int)=(M es:Int):=by omega
 have HN:=J KN;have KU:x.toNat=M es:=by omega
 have HX:=J KU;have K5:=J Hi;clear Ks h4 KC HT Kl Kk h8 KN KU Hi;obtain⟨i0,hi,Ho,Hp,Hr⟩:=info_parts ic;have J4:Is g (D Al (bd es).length cl) (bd es):=xW Ha;obtain⟨_,z,B,rfl,HY⟩:=SlR.at_ J4 (by omega);have KV:Hid (∀k,(hk:k<M es)->g.cell? ⟨z,B+3*k,G⟩=H (C E es[k].t)/\g.cell? ⟨z,B+(3*k+1),G⟩=H (C E es[k].k)/\g.cell? ⟨z,B+(3*k+2),G⟩=H (C E es[k].v)):=by
  intro k hk;obtain⟨e0,e1,e2⟩:=Gt es k hk;exact⟨HY _ _ (by rw[P2,e0];rfl),HY _ _ (by rw[P2,e1];rfl),HY _ _ (by rw[P2,e2];rfl)⟩
 clear HY;go_wp2_with fail
 go_loopw [10,11] (λvo i wr=>∃k:Nat,Hid (k<=M es)/\i=C E k/\wr.ownsRow g.heap.size 54 3 vo k (ax (es.take k))/\Ext g wr) (λ_ i _=>x.toNat-(intOf i).toNat)
 case atStart=>exact⟨0,Nat.zero_le _,rfl,Pb _ _ _ _,xR _⟩
 case round=>
  obtain⟨k,Hk,rfl,H0,d⟩:=hrel;have g1:=P6 d g0;by_cases hlt:(k:Int)<(x.toNat:Int)
  ·have KI:k<M es:=by have:=HN.out;omega
   obtain⟨q0,q1,q2⟩:=KV k KI;have Kp:=P6 d q0;have Kq:=P6 d q1;have Kr:=P6 d q2;have KR:ax (es.take (k+1))=ax (es.take k)++[C E es[k].t,C E es[k].k,C E es[k].v]:=by
    rw[List.take_succ_eq_append_getElem KI];show(es.take k++[es[k]]).flatMap Ent.cells=_;rw[List.flatMap_append];rfl
   have J3:=J KR;clear KR;generalize es[k].t=et at *;generalize es[k].k=ek at *;generalize es[k].v=ev at *;have JA:k<4:=by omega
   obtain⟨q,KD⟩:∃q,3*k=q:=⟨_,rfl⟩;obtain⟨U,KE⟩:∃U,3*k+1=U:=⟨_,rfl⟩;obtain⟨V,KF⟩:∃V,3*k+2=V:=⟨_,rfl⟩;rw[KD]at Kp q0;rw[KE]at Kq q1;rw[KF]at Kr q2;have y0:Pa.wrap (3*(k:Int))=(q:Int):=by rw[P8 _ (by omega)];omega
   have y1:Pa.wrap ((q:Int)+1)=(U:Int):=by rw[P8 _ (by omega)];omega
   have y2:Pa.wrap ((q:Int)+2)=(V:Int):=by rw[P8 _ (by omega)];omega
   have y3:(q:Int)<3*(M es:Int):=by omega
   have y4:(U:Int)<3*(M es:Int):=by omega
   have y5:(V:Int)<3*(M es:Int):=by omega
   clear KD KE KF;go_wp2_with fail
   refine wp_region_held_drew (S:=λw'=>w'.cell? ⟨z,B+q,G⟩=H (C E et)/\w'.cell? ⟨z,B+U,G⟩=H (C E ek)/\w'.cell? ⟨z,B+V,G⟩=H (C E ev)) (by kernel_rfl) ⟨Kp,Kq,Kr⟩ (λ_=>?_);refine ab 0 ?_;refine ab 1 ?_;refine ab 2 ?_;refine ab 3 ?_;refine ab 4 ?_;refine ab 5 ?_;refine ab 6 ?_;refine ab 7 ?_;refine ab 8 ?_;refine ab 9 ?_;refine ab 10 ?_;refine ab 11 ?_;refine ab 12 ?_;refine ab 13 ?_;refine ab 14 ?_;refine ab 15 ?_;refine ab 16 ?_;refine ab 17 ?_;refine ab 18 ?_;refine ah 19 (λK hK=>?_);go_simp;have R:Ext wr (wr.drew.alloc (I #[C E et,C E ek,C E ev] 54)):=xA (xD (xR _)) _;refine af hK _ _ ⟨P6 R Kp,P6 R Kq,P6 R Kr⟩ (λ_=>?_);refine ah 20 (λK hK=>?_);have KP:=ai H0 R;refine wp_append_lies _ (.tmp 58) (.tmp 77) 42 (by rfl) g.heap.size 54 i0 _ 3 24 underlying42 hi Ho Hp Hr rfl (by decide) _ k (ax (es.take k)) (by rfl) KP ⟨wr.heap.size,0,G⟩ 1 1 [C E et,C E ek,C E ev] (by rfl) rfl (World.news_of_block (heap_alloc_new _ _)) (by simp[Value.oneCell']) (by omega) (by unfold maxLen;omega) (by omega) (by have:=d.size;simp;omega) _ rfl ?_;intro g' Jw w3 HG HD _ _;have Y:Ext g w3:=P7 (xT d R) KP HD;refine af hK _ _ ⟨P6 Y q0,P6 Y q1,P6 Y q2⟩ (λ_=>?_);refine ab 21 ?_;refine aq ?_;go_wp2_with fail
   go_roundw
   case rel=>
    refine⟨k+1,by show _<=_;omega,by go_num,?_,Y⟩;rw[J3.out];exact HG
   case measure=>simp[intOf];omega
  ·have Jb:k=M es:=by have h1:=Hk.out;have h2:=HN.out;omega
   subst Jb;rw[List.take_of_length_le (xN _)]at H0;have O:Es wr u10 es:=xW H0;have Ka:Ext w wr:=xT N d;obtain⟨Ao,co,rfl,_,_⟩:=xO O;go_wp2_with fail
   have Km:M r<=M l:=by have:=K5.out;omega
   cases a:fh es with
   |false=>
    have Jh:Hid (bX p (x::l)=none):=by
     show _=_;refine od ?_;rw[Q.out,if_neg];rintro⟨_,h⟩;rw[(lw es).2 ⟨⟨Ki,HB⟩,h⟩]at a;cases a
    refine(Eg _ _ es wr O a).mono ?_;rintro e s⟨rfl,H4⟩;clear a;go_wp2_with fail
    refine wp_region_held_drew (S:=λ_=>True) (by kernel_rfl) trivial (λ_=>?_);refine ab 0 ?_;refine ab 1 ?_;refine ab 2 ?_;refine ag 3 ?_;refine ag 4 ?_;refine ag 5 ?_;refine ag 6 ?_;refine ag 7 ?_;refine ag 8 ?_;refine ag 9 ?_;refine ab 10 ?_;refine aq ?_;go_wp2_with fail
    go_ret3;exact RBlkP.none Jh (xD (xT Ka H4))
   |true=>
    have HM:dO (x::l)=H (es,r):=by rw[Q.out,if_pos (by simp[((lw es).1 a).2])]
    obtain⟨n,HE,_,KM,KA⟩:=IZ (p:=p) HM (by omega);rw[xC]at HE KM;have Jg:(M l:Int)+1-(M r:Int)+4=(n:Int):=by omega
    refine(Ew za zb _ es wr O a).mono ?_;rw[Jj];rintro e s⟨v4,vz,rfl,HI,Hj,H4⟩;clear a HM HE;obtain⟨KB,Kb⟩:∃KB,dI p es=KB:=⟨_,rfl⟩;rw[Kb]at Hj KA;have Z:Bs s v4 KB:=xW Hj;obtain⟨A4,c4,rfl,_,_⟩:=xO Z;obtain⟨z3,z4,rfl,Jp,Jq⟩:=HI;have Kf:Bs s (D (H ⟨b,j,G⟩) n c) ((x::l).take n):=Bs.take (Hl.ext (xT Ka H4)) n (by simpa using KM);have Kz:=eh (P:=F) s.drew 33 9 5 underlying33 underlying5 underlying9 (SlR.ext Z (xD (xR _)));have HW:=eh (P:=F) s.drew 33 9 5 underlying33 underlying5 underlying9 (SlR.ext Kf (xD (xR _)));have JF:(n:Int)<=(c:Int):=by omega
    have Hv:Ext w s:=xT Ka H4;have Ji:s.ownsRow g.heap.size 54 3 (D Ao es.length co) es.length (ax es):=ai H0 H4;rcases KA with⟨T,f⟩|⟨T,f⟩
    ·have K4:=J f;rw[<-T]at HW;clear f T Kb Z Kf O H0;go_wp2_with fail
     refine wp_region_held_drew (S:=λW=>(convert 33 9 (D A4 KB.length c4)).run F W=.ok (L ⟨KB.toArray⟩) W/\(convert 33 9 (D (H ⟨b,j,G⟩) n c)).run F W=.ok (L ⟨KB.toArray⟩) W) (by kernel_rfl) ⟨Kz,HW⟩ (λ_=>?_);refine ab 0 ?_;refine ab 1 ?_;refine ab 2 ?_;refine ab 3 ?_;refine ab 4 ?_;refine ab 5 ?_;refine ab 6 ?_;refine ab 7 ?_;refine ab 8 ?_;refine ab 9 ?_;refine ab 10 ?_;refine aq ?_;go_wp2_with fail
     go_ret3;rw[K4.out];exact⟨_,_,rfl,ay (ai Ji (xD (xR _))) N.size,⟨_,_,rfl,Jp,Jq⟩,xD Hv⟩
    ·have K4:=J f;obtain⟨TB,Ky⟩:∃TB,(x::l).take n=TB:=⟨_,rfl⟩;rw[Ky]at HW T;have Jf:(KB==TB)=false:=by rw[beq_eq_false_iff_ne];exact T
     clear f Kb Z Kf O H0 Ky;go_wp2_with fail
     refine wp_region_held_drew (S:=λW=>(convert 33 9 (D A4 KB.length c4)).run F W=.ok (L ⟨KB.toArray⟩) W/\(convert 33 9 (D (H ⟨b,j,G⟩) n c)).run F W=.ok (L ⟨TB.toArray⟩) W) (by kernel_rfl) ⟨Kz,HW⟩ (λ_=>?_);refine ab 0 ?_;refine ab 1 ?_;refine ab 2 ?_;refine ab 3 ?_;refine ab 4 ?_;refine ab 5 ?_;refine ab 6 ?_;refine ab 7 ?_;refine ab 8 ?_;refine ab 9 ?_;refine ab 10 ?_;refine aq ?_;go_wp2_with fail
     go_ret3;exact RBlkP.none K4 (xD Hv)
theorem mcRefScana0{P:Prop}(h:P:=by
 go_enter Tryz.func169,Tryz.ntmps169
 go_wp2_with (go_at_call 157;rw[<-HV.out];refine(HT _ _ (HP _ Hm)).mono ?_;rintro e w1⟨v1,rfl,Ha,Hd⟩;have Hh:=Hg.ext Hd;obtain⟨c0,c1,c2,f0,f1,f2⟩:=au Hh)
 exact bodyPost_ret (nQ _ _ _ _ _ _ _ _ rfl rfl rfl (bV Hh _ _ _)) rfl (iT (iH Hs) (cZ (xT Hm Hd) (xN _) _ _ _))):P:=h
theorem nQ(tmps:Array Value)(W:World)(N:Nat)(a v u c b:Value)(h2:tmps.getD 2 undef=.pointer (H ⟨N,0,G⟩))(h3:tmps.getD 3 undef=c)(h4:tmps.getD 4 undef=b)(hb:Blk W N 90 #[a,v,u]):
  (results Tryz.f169 tmps).run F W=.ok (.tuple #[.agg #[a,v,u],c,b]) W:=by
 obtain⟨b,c,d,_⟩:=au hb;simp only[Array.getD_eq_getD_getElem?]at h2 h3 h4;simp[results,results169,go_sem,h2,h3,h4,b,c,d]
theorem Lw{k:Nat}{q:Nat×Nat}{es:List Ent}{r:List UInt8}(hk:k<=M bs)(h:bX q (bs.drop k)=H (es,r)):
  ∃a,M (bs.drop k)-M r=a/\0<a/\k+a<=M bs/\M es<=a/\M es<=4/\bs.drop (k+a)=r /\
   bZ q (bs.drop k)=(es++(bZ (aD q (bp es)) (bs.drop (k+a))).1,(bZ (aD q (bp es)) (bs.drop (k+a))).2):=by
 obtain⟨h1,h2⟩:=(zR _ _ _ _).1 h;have hl:=congrArg P3 h2;have a:=tZ es;have a:M (dI q es)=M (bp es)+4:=by unfold dI;rw[xL];rfl
 rw[xL,P1]at hl;have a:bs.drop (k+M (dI q es))=r:=by rw[<-List.drop_drop,h2,P5]
 refine⟨M (dI q es),by rw[P1];omega,by omega,by omega,by omega,((lw es).1 h1).1.2,a,?_⟩;rw[a];exact zj h
def iU(W:World)(B:Nat):Nat:=match W.cell? ⟨B,2,G⟩with | some (.int _ k)=>k.toNat | _=>0
theorem Ez(v:Value)(bs:List UInt8)(w:World)(L:Bs w v bs)(hl:bs.length<=2000000):Calls F 169 #[v] w (LookP w (cz bs)):=by
 obtain⟨A,c,rfl,h1,h2⟩:=xO L;obtain⟨i0,hi,Ho,Hp,Hr⟩:=info_parts ic;have Hm:Ext w (w.alloc (I #[C E 0,D none 0 0,C E 0] 90)):=xA (xR _) _;have Hg:Blk (w.alloc (I #[C E 0,D none 0 0,C E 0] 90)) w.heap.size 90 #[C E 0,D none 0 0,C E 0]:=Blk.new w _ _;by_cases h0:bs.length=0
 ·obtain rfl:bs=[]:=P0 h0;obtain⟨c0,c1,c2,f0,f1,f2⟩:=au Hg;go_enter func169,ntmps169
  go_wp2_with fail
  exact bodyPost_ret (nQ _ _ _ _ _ _ _ _ rfl rfl rfl Hg) rfl (iT (iH rfl) Hm)
 obtain⟨_,b,i,rfl,hc⟩:=Bs.at_ L (by omega);have He:w.cell? ⟨b,i,G⟩=H (C .u8 (bs[0].toNat:Int)):=hc 0 (by omega);obtain⟨x,l,rfl⟩:∃x l,bs=x::l:=by cases bs with | nil=>exact absurd rfl h0 | cons x l=>exact⟨x,l,rfl⟩
 simp only[P4]at He;have Ke:b<w.heap.size:=Pc w _ He;have V:=J L;have e0:¬((l.length:Int)+1<1):=by omega
 clear hc L h0;simp only[xC]at *;by_cases hx:x.toNat=2
 case neg=>
  have e1:((x.toNat:Int) != 2)=true:=by simp;omega
  obtain⟨c0,c1,c2,f0,f1,f2⟩:=au Hg;have hN:Hid (cV (x::l)=none):=by show _=_;rw[cV,if_neg (λh=>hx (by rw[h.1];rfl))]
  clear hx;go_enter func169,ntmps169
  go_wp2_with fail
  exact bodyPost_ret (nQ _ _ _ _ _ _ _ _ rfl rfl rfl Hg) rfl (iT (iH hN) Hm)
 have Jn:x=2:=UInt8.toNat_inj.1 (by simpa using hx);subst Jn;have HT:Hid (∀(W:World) (u:Value),Bs W u l->Calls F 157 #[u] W (iB W (aJ l))):=λW u hu=>tO u l W hu (by omega);have o:Hid (cV (2::l)=if(aJ l).1=0/\(aJ l).2.1≠0 then some (aJ l).2 else none):=by show _=_;rw[cV];simp
 have Km:=oA l;have Y:Hid (l=[]->(aJ l).1≠0):=by rintro rfl;decide
 rcases HM:aJ l with⟨er,m,r⟩
 rw[HM]at HT o Km Y;dsimp only at o Km Y;clear HM hx;have Hf:Hid (∀W:World,Ext w W->Bs W (D (H ⟨b,i+1,G⟩) l.length (c-1)) l):=by
  intro W j;have h:=Bs.cut (V.out.ext j) 1 (by simp) rfl;simpa using h
 have Kn:∃vs:Value,(∀W,Ext w W->Bs W vs l)/\vs=D (if c=1 then some ⟨b,i,G⟩else some ⟨b,i+1,G⟩) l.length (c-1):=by
  by_cases hc1:c=1
  ·obtain rfl:l=[]:=P0 (by omega);exact⟨_,λW _=>SlR.empty W 1 (by omega),rfl⟩
  exact⟨_,λW j=>Hf.out W j,by rw[if_neg hc1]⟩
 obtain⟨vs,Hc,H3⟩:=Kn;have HP:=J Hc;have HV:=J H3;have J6:(1:Int)<=(l.length:Int)+1:=by omega
 have Kd:(1:Int)<=(c:Int):=by omega
 clear Hc H3;by_cases d:er=0/\m≠0
 case neg=>
  have Hs:Hid (cV (2::l)=none):=by show _=_;rw[o.out,if_neg d]
  by_cases s:er=0
  ·subst s;have hm:m=0:=Decidable.byContradiction (λh=>d ⟨rfl,h⟩);subst hm;clear d o;exact mcRefScana0
  have e6:(er != 0)=true:=by simpa using s
  clear d o s;exact mcRefScana0
 obtain⟨rfl,hm⟩:=d;have JE:¬((m:Int)<1):=by omega
 have Hs:Hid (cV (2::l)=H (m,r)):=by show _=_;rw[o.out,if_pos ⟨rfl,hm⟩]
 obtain⟨f,KH⟩:∃k,l.length+1-r.length=k:=⟨_,rfl⟩;have J9:f<=l.length+1:=by omega
 have Jk:(l.length:Int)+1-(r.length:Int)=(f:Int):=by omega
 have Kg:(2::l).drop f=r:=by
  have h:=((zM _ _ _).1 Hs).2;have Jc:=congrArg P3 h;rw[xC,xL]at Jc;rw[h,show f=(cK (m:Int)).2.length from by omega,P5]
 have KZ:Hid ((2::l).take f=(cK (m:Int)).2):=by
  have:=(zN Hs).2;simp only[xC]at this;rw[KH]at this;exact this
 have Kj:=zP Hs;rw[<-Kg]at Kj;have J0:=J Kj;have Ju:=J Kg;have JB:(f:Int)<=(c:Int):=by omega
 clear hm o Y KH Kj Kg;go_enter func169,ntmps169
 go_wp2_with (first
  |(go_at_call 157;rw[<-HV.out];refine(HT.out _ _ (HP.out _ Hm)).mono ?_;rintro e w1⟨v1,rfl,Ha,Hd⟩;have Hh:=Hg.ext Hd;obtain⟨c0,c1,c2,f0,f1,f2⟩:=au Hh;obtain⟨Ar,cr,rfl,_,_⟩:=xO (xW Ha))
  | (go_at_call 218
     have K9:Ext w (w1.alloc (I #[C E m,D none 0 0,C E f] 90)):=xA (xT Hm Hd) _;have T:=Bs.take (V.out.ext K9) f (by simp;omega);rw[KZ.out]at T;have hp:=lU T;rw[xS]at hp;refine(Dh _ _ _ hp).mono ?_;rintro e w3⟨vz,rfl,S,rfl⟩;rw[show[(cK (m:Int)).2].flatten=(cK (m:Int)).2 from by simp]at S;have KX:=J S;obtain⟨z1,z2,rfl,_,_⟩:=S))
 have Kv:Blk ((w1.alloc (I #[C E m,D none 0 0,C E f] 90)).alloc (I #[D (H ⟨b,i,G⟩) f c] 33)) w1.heap.size 90 #[C E m,D none 0 0,C E f]:=(Blk.new w1 _ _).alloc _;have Kx:Blk ((w1.alloc (I #[C E m,D none 0 0,C E f] 90)).alloc (I #[D (H ⟨b,i,G⟩) f c] 33)) w.heap.size 90 #[C E 0,D none 0 0,C E 0]:=(Hh.alloc _).alloc _;have Kw:Ext w ((w1.alloc (I #[C E m,D none 0 0,C E f] 90)).alloc (I #[D (H ⟨b,i,G⟩) f c] 33)):=xA K9 _;have Jx:w.heap.size<w1.heap.size:=Hh.lt;clear c0 c1 c2 f0 f1 f2 Hh K9 Ha hp T Hg;go_loopw [9] (λzv wr=>∃(a:List Ent) (k:Nat) (q:Nat×Nat) (vl:Value),Hid (PtV zv q)/\Hid (k<=l.length+1/\a.length<=k) /\
   Hid (cz (2::l)=⟨0,m,a++(bZ q ((2::l).drop k)).1,(2::l).length-(bZ q ((2::l).drop k)).2.2.length,(bZ q ((2::l).drop k)).2.1⟩) /\
   Hid (Blk wr w1.heap.size 90 #[C E m,vl,C E k])/\Hid (Blk wr w.heap.size 90 #[C E 0,D none 0 0,C E 0])/\wr.ownsRow w.heap.size 54 3 vl a.length (ax a)/\Ext w wr) (λ_ wr=>l.length+1-iU wr w1.heap.size)
 case atStart=>exact⟨[],f,aD (0,0) (cK (m:Int)).2,D none 0 0,KX.out,⟨J9,Nat.zero_le _⟩,J0.out,Kv,Kx,Pb _ _ _ _,Kw⟩
 case round=>
  clear Kv Kx Kw;obtain⟨a,k,q,vl,X,Hk,Hq,K3,Kt,H0,j⟩:=hrel;have Ko:=X.out;obtain⟨z3,z4,rfl,_,_⟩:=Ko;obtain⟨Av,cv,rfl,_,_⟩:=xO (xW H0);obtain⟨c0,c1,c2,f0,f1,f2⟩:=au K3;have hk:=Hk.out.1;have JD:=Hk.out.2;have JC:(k:Int)<=(l.length:Int)+1:=by omega
  have Ja:(k:Int)<=(c:Int):=by omega
  have H3:∃P:Value,Bs wr P ((2::l).drop k)/\P=D (if c=k then some ⟨b,i,G⟩else some ⟨b,i+k,G⟩) (l.length+1-k) (c-k):=by
   by_cases K:c=k
   ·exact⟨_,Bs.cut0 (A:=H ⟨b,i,G⟩) (n:=l.length+1) (k:=k) (c:=c-k) (bs:=2::l) (by simp;omega) (by simp) (by omega),by rw[if_pos K]⟩
   exact⟨_,Bs.cut (V.out.ext j) k (by simp;omega) (by simp),by rw[if_neg K]⟩
  obtain⟨P,H3,HO⟩:=H3;have Ku:=J HO;have g:=I3 z3 z4 q P _ wr X H3 (by rw[P1,xC];omega);clear HO H3;cases hn:bX q ((2::l).drop k)with
  |none=>
   have HF:cz (2::l)=⟨0,m,a,k,q⟩:=by
    rw[Hq.out,zi hn];simp only[List.append_nil,P1,xC];rw[show l.length+1-(l.length+1-k)=k from by omega]
   have K6:=J HF;unfold lj at g;rw[hn]at g;have Z:=J g;clear HF g hn;go_wp2_with (go_at_call 219;rw[<-Ku.out];refine Z.out.mono ?_;rintro e w4⟨Jr,Js,rfl,O,N,H4⟩;obtain⟨z5,z6,rfl,_,_⟩:=N;have B:=K3.out.ext H4;have t:=Kt.out.ext H4;have ea:=au B;obtain⟨r0,r1,r2,s0,s1,s2⟩:=au t)
   refine bodyPost_ret (nQ _ _ _ _ _ _ _ _ rfl rfl rfl (bV t _ _ _)) rfl ?_;rw[K6.out];exact⟨_,_,rfl,fK t (Kx:=by decide) (ai H0 H4) _ _ _,X.out,cZ (xT j H4) (xN _) _ _ _⟩
  |some y=>
   obtain⟨es,r'⟩:=y;obtain⟨z,HE,KL,KJ,Jz,HB,Kh,KQ⟩:=Lw (bs:=2::l) (k:=k) (by simp;omega) hn;rw[xC]at KJ;unfold lj at g;rw[hn]at g;dsimp only at g;rw[HE]at g;have Z:=J g;have J2:=J KQ;have J1:=J KL;have Jf:((z:Int)==0)=false:=by rw[beq_eq_false_iff_ne];omega
   have Jg:(k:Int)+(z:Int)<=2000000:=by omega
   clear g hn KQ HE Kh KL;go_wp2_with (first
    | (go_at_call 219
       rw[<-Ku.out];refine Z.out.mono ?_;rintro e w4⟨Jr,Js,rfl,O,N,H4⟩;dsimp only at O;have KW:=J N;obtain⟨z5,z6,rfl,_,_⟩:=N;obtain⟨A4,c4,rfl,_,_⟩:=xO (xW O);have B:=K3.out.ext H4;have t:=Kt.out.ext H4;have M:=ai H0 H4;have ea:=au B)
    | (at_builtin
       refine dT _ rfl (.tmp 65) (.tmp 66) 42 rfl w.heap.size 54 i0 _ 3 24 underlying42 hi Ho Hp Hr rfl (by decide) _ a.length (ax a) rfl M _ es.length (ax es) rfl (xW O) (ie _) (by unfold maxLen;omega) (by omega) (xT j H4).size ?_;intro v5 w5 U R;obtain⟨Q,K7,rfl,_,_⟩:=xO (xW U);have K8:=B.kept R (B.not_row (by decide) M);have J5:=t.kept R (t.not_row (by decide) M);have HQ:=K8.set 1 (D Q (a.length+es.length) K7);have eb:=au K8;have ec:=au HQ))
   go_roundw
   case rel=>
    have r1:=U.kept (ar w5 w1.heap.size 1 (D Q (a.length+es.length) K7)) (.inr (K8.not_row (by decide) U).symm);have r2:=r1.kept (ar _ w1.heap.size 2 (C E ((k:Int)+z))) (.inr (HQ.not_row (by decide) r1).symm);refine⟨a++es,k+z,aD q (bp es),D Q (a.length+es.length) K7,KW.out,⟨KJ,by rw[xL];omega⟩,?_,HQ.set 2 (C E ((k:Int)+z)),(J5.other (by omega) 1 _).other (by omega) 2 _,?_,?_⟩
    ·show _=_;rw[Hq.out,J2.out];dsimp only;rw[List.append_assoc]
    ·rw[xL,show ax (a++es)=ax a++ax es from by simp[ax]];exact r2
    exact P9 (p:=⟨w1.heap.size,2,G⟩) (P9 (p:=⟨w1.heap.size,1,G⟩) (P7 (xT j H4) M R) (by show _<=w1.heap.size;omega) _) (by show _<=w1.heap.size;omega) _
   case measure=>
    have Je:=(au (HQ.set 2 (C E ((k:Int)+z)))).2.2.1;have:=J1.out;unfold iU;rw[Je,c2];dsimp only;omega
theorem EA(v:Value)(bs:List UInt8)(w:World)(a:Bs w v bs)(hl:M bs<=2000000):∀W,Ext w W->Calls F 169 #[v] W (LookP W (cz bs)):=λW b=>Ez v bs W (Bs.ext a b) hl
theorem ED(v:Value)(bs:List UInt8)(w:World)(g:Bs w v bs)(hl:M bs<=2000000):Calls F 100 #[v] w (eB w (cz bs)):=by
 have i:=J (EA v bs w g hl);obtain⟨A,c,rfl,_,_⟩:=xO g;generalize cz bs=R at *;obtain⟨m,first,b,a,pt⟩:=R;go_enter func100,ntmps100
 go_wp2_with (go_at_call 169;refine(i _ (xA (xR _) _)).mono ?_;rintro e n⟨g,g,rfl,h,k,j⟩;dsimp only at h;obtain⟨d,f,rfl,_,_⟩:=xO (xW h);obtain⟨z1,z2,rfl,_,_⟩:=k;have g:=((Blk.new w 90 #[C E 0,D none 0 0,C E 0]).ext j).alloc (I #[C E first,D d b.length f,C E a] 90);have i:=au g)
 have l:=bV g (C E first) (D d b.length f) (C E a);have i:=ai h (xA (xR n) (I #[C E first,D d b.length f,C E a] 90));have k:=i.kept (ar _ w.heap.size 0 (C E first)) (.inr (g.not_row (by decide) i).symm);have h:=g.set 0 (C E first);have g:=k.kept (ar _ w.heap.size 1 (D d b.length f)) (.inr (h.not_row (by decide) k).symm);have i:=h.set 1 (D d b.length f);have k:=g.kept (ar _ w.heap.size 2 (C E a)) (.inr (i.not_row (by decide) g).symm);obtain⟨g,h,i,_,_,_⟩:=au l;refine bodyPost_ret (v:=.tuple #[.agg #[C E first,D d b.length f,C E a],C E m]) (by simp[results,results100,go_sem,g,h,i]) rfl ⟨_,rfl,ay k (by simp),?_⟩;exact P9 (p:=⟨w.heap.size,2,G⟩) (P9 (p:=⟨w.heap.size,1,G⟩) (P9 (p:=⟨w.heap.size,0,G⟩) (xA (xT (xA (xR _) _) j) _) (xN _) _) (xN _) _) (xN _) _
theorem C5{d:Array Oper}{rest:List Oper}{o:Oper}{a:Act}{w:World}{Q:Exit->Act->World->Prop}(q:o.guard=none)(s x:Operand)(r:o.op=.call { callee:=.builtin .append,args:=#[s,x],argTypes:=#[42,42] })(base:Nat)(v:Value)(bs:List Ent)(hs:a.eval s=v)(H0:OwnE w base v bs)(vx:Value)(cs:List Ent)(hx:a.eval x=vx)(m:Es w vx cs)(g:0<M cs)(t:M bs+M cs<=2000000)(Hx:base<=w.heap.size)(h:∀A c w',OwnE w' base (D A (M bs+M cs) c) (bs++cs)->eP base w w'->w.grownBy w' v.ownBlock->((Value.slice A (M bs+M cs) c).ownBlock=v.ownBlock\/(Value.slice A (M bs+M cs) c).ownBlock=H w.heap.size)->wpList F d Q rest (a.put o.dst (D A (M bs+M cs) c)) w'):wpList F d Q (o::rest) a w:=by
 obtain⟨n,hi,i,k,l⟩:=info_parts ic;obtain⟨d,w',f,h1,h2⟩:=ep (P:=F) w base 42 o.type 54 n _ 3 24 underlying42 hi i k l rfl (by decide) v bs.length (ax bs) H0 vx cs.length (ax cs) m (ie _) (by unfold maxLen;omega) (by omega) Hx;have p:d.ownBlock=v.ownBlock\/d.ownBlock=H w.heap.size:=by
  obtain⟨hl,A,c,rfl,_,_,hc⟩:=m;obtain⟨b,e,rfl,d⟩:=hc g;have m:∀j,(⟨b,e,G⟩:Addr).add j=⟨b,e+j,G⟩:=by intro j;unfold Addr.add;split<;>simp_all
  exact mn (P:=F) w base 42 o.type 54 n _ 3 24 underlying42 hi i k l v bs.length (ax bs) H0 ⟨b,e,G⟩ cs.length c (ax cs) hl g (λj u e=>by rw[m];exact d j u e) (ie _) (by unfold maxLen;omega) (by omega) f
 refine wpList_plain q λK d=>?_;unfold Oper.wp execOp;simp only[r,resolve,invoke,builtin,Sem.run_bind,Sem.run_pure,Result.andThen_ok,List.map_toArray,List.map_cons,List.map_nil,hs,hx,f];refine d _ _ ?_;obtain⟨A,c,rfl,_,_⟩:=xO (xW h1);refine h A c w' ?_ (λd d hb=>P7 d (ay H0 hb) h2) h2 p;unfold OwnE;rw[xL,show ax (bs++cs)=ax bs++ax cs from by simp[ax]];exact h1
