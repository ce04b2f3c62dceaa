/- Merged -/
import Derived.Test.YteggfecbjgbndaaGreatDoorZy8
set_option linter.all false
set_option maxHeartbeats 8000000
set_option maxRecDepth 100000
open Go.Proofs.Tryz
open List renaming length->O
open Go.Value renaming int->B,slice->C,pointer->I,agg->M
open Option renaming none->D,some->G
open Go.IntKind renaming i64->E,u8->H
open Go.Proofs.Tryz renaming prog->F
open Go.Obj renaming cells->J
open Go.Mv renaming aN->L
open Go.RowKit.Below renaming setCell->P0,grown->P1
open List renaming eq_nil_of_length_eq_zero->P2,append_nil->P3,length_drop->P4,drop_of_length_le->P5,take_of_length_le->P6,length_pos_iff->P7,append_assoc->P8,length_take->P9,take_left'->Pa,take_left->Pb
open Go.Region renaming ready->Pc,wanted->Pd,noSelect->Pe,free->Pf
open Go.World renaming cell?_setCell_other->Pg,block_lt_of_cell?->Ph,ownsRow_nil->Pi,setCell->Pj
open Go.Act renaming put->Pk,eval->Pl
open Nat renaming eq_zero_or_pos->Pm,strongRecOn->Pn,le_trans->Po
namespace Go.Proofs.YteggfecbjgbndaaGreatDoor
open Go.RowKit Go.Mv Go.Shelf
variable {a a':Act} {base first fuel i:Nat} {o oi:Oper} {P:Prop} {v:Value} {W w:World}
theorem mcLooka0(h:P:=by
 refine nI (i:=3) (v:=C Aa (log.length+es.length) ca) (w':=wa) rfl (by kernel_rfl) rfl rfl (nK _ _ _ rfl) (nH (v:=C Av log.length cv) (vx:=C A2 es.length HU) (.tmp 85) (.tmp 86) 42 rfl (by simp[Pl,Pk]) (by simp[Pl,Pk]) HN.out) ?_;refine bT 14 ?_;refine iG 15 ?_;refine bT 16 ?_;refine iG 17 ?_;refine bT 18 ?_;refine bT 19 ?_;refine wpAnyIn_done (by kernel_rfl) (eV ?_) _;simp only[Pk,sA,sZ,sS];rw[K4.out];gi_wp2;refine wpIn_goto ?_;try simp only[Exit.then]
 exact bI (h:=by simp) ⟨HE.out _ rfl rfl rfl rfl rfl,by simp[qV];omega⟩):P:=h
theorem mcLooka1(h:P:=by
 gi_wp2_with (refine⟨trivial,?_⟩;gi_at_call 148;refine(callsIn_wd.2 (HT.out _ _ (HD.out _ Hp))).mono ?_;rintro e w1⟨v1,rfl,Hg,H7⟩;have Hj:=HO.ext H7;obtain⟨c0,c1,c2,f0,f1,f2⟩:=au Hj)
 refine bJ ?_;exact bodyPost_ret (lq _ _ _ _ _ _ _ _ rfl rfl rfl (bV Hj _ _ _)) rfl (iT (iH HA.out) (P0 (p:=⟨w.heap.size,2,D⟩) (P0 (p:=⟨w.heap.size,1,D⟩) (P0 (p:=⟨w.heap.size,0,D⟩) (xT Hp H7) (xN _) _) (xN _) _) (xN _) _))):P:=h
theorem mcLooka2(h:P:=by
 gi_wp2_with (refine⟨trivial,?_⟩;gi_at_call 371;refine(callsIn_wd.2 HT.out).mono ?_;rintro e w2⟨v2,rfl,Kg,Hq⟩;have HX:=HW.ext Hq;obtain⟨c0,c1,c2,f0,f1,f2⟩:=au HX)
 refine bJ ?_;exact bodyPost_ret (lq _ _ _ _ _ _ _ _ rfl rfl rfl (bV HX _ _ _)) rfl (yJ Hu.out HI.out.pt HX (ai HI.out.row Hq) HI.out.lo (xT HI.out.ext Hq) Hn.out HI.out.out)):P:=h
def LookP(w:World)(r:zgM)(e:Ending)(w':World):Prop:=
 ∃b c,e=.returned (.tuple #[M #[B E r.first,b,B E r.used],c,B E r.err])/\w'.ownsRow w.heap.size 54 3 b r.log.length (ax r.log)/\PtV c r.pt/\Ext w w'
structure LkI (w w1:World) (bs:List UInt8) (first z1 z2:Nat) (q:Nat×Nat) (log:List Ent) (H0:Value) (Ar:Option Addr) (cr:Nat) (rest:List UInt8) (g:Array Value) (W:World):Prop where
 pt:PtV (.complex .f64 z1 z2) q
 box:Blk W w.heap.size 90 #[B E first,H0,B E (bs.length-rest.length:Nat)]
 four:Blk W (w.heap.size+1) 188 g
 gsz:g.size=4
 row:W.ownsRow w1.heap.size 54 3 H0 log.length (ax log)
 rst:Bs w1 (C Ar rest.length cr) rest
 apart:∀ b Hd,Ar=G ⟨b,Hd,D⟩->0<rest.length->b≠w.heap.size/\b≠w.heap.size+1
 hold:∀ p u,p.block≠w.heap.size->p.block≠w.heap.size+1->w1.cell? p=G u->W.cell? p=G u
 ext:Ext w W
 sz:w1.heap.size<=W.heap.size
 lo:w.heap.size+1<w1.heap.size
 le:log.length+rest.length<=bs.length
 out:cz bs=⟨0,first,log++(bZ q rest).1,bs.length-(bZ q rest).2.2.length,(bZ q rest).2.1⟩
def LkR(w b:World)(bs:List UInt8)(first:Nat)(a:Act)(W:World):Prop:=
 ∃(z1 z2:Nat) (q:Nat×Nat) (log:List Ent) (H0:Value) (Ar:Option Addr) (cr:Nat) (rest:List UInt8) (g:Array Value),LkI w b bs first z1 z2 q log H0 Ar cr rest g W/\a.defers=[]/\a.tmps.size=100 /\
  a.tmps.getD 2 undef=I (G ⟨w.heap.size,0,D⟩)/\a.tmps.getD 3 undef=.complex .f64 z1 z2/\a.tmps.getD 5 undef=I (G ⟨w.heap.size+1,0,D⟩)/\a.tmps.getD 8 undef=C Ar rest.length cr
theorem lq(tmps:Array Value)(W:World)(N:Nat)(a v u c b:Value)(h2:tmps.getD 2 undef=I (G ⟨N,0,D⟩))(h3:tmps.getD 3 undef=c)(h4:tmps.getD 4 undef=b)(hb:Blk W N 90 #[a,v,u]):
  (results Tryz.f365 tmps).run F W=.ok (.tuple #[M #[a,v,u],c,b]) W:=by
 obtain⟨b,c,d,_⟩:=au hb;simp only[Array.getD_eq_getD_getElem?]at h2 h3 h4;simp[results,results365,go_sem,h2,h3,h4,b,c,d]
theorem iH{bs:List UInt8}(h:cV bs=none):cz bs=⟨11,0,[],0,(0,0)⟩:=by unfold cz;rw[h]
theorem zP{bs:List UInt8}{first:Nat}{r:List UInt8}(h:cV bs=G (first,r)):cz bs=⟨0,first,[]++(bZ (aD (0,0) (cK (first:Int)).2) r).1,O bs-O (bZ (aD (0,0) (cK (first:Int)).2) r).2.2,(bZ (aD (0,0) (cK (first:Int)).2) r).2.1⟩:=by unfold cz;rw[h];rfl
theorem iT{r:zgM}(h:r=⟨11,0,[],0,(0,0)⟩)(b:Ext w W):LookP w r (.returned (.tuple #[M #[B E 0,C none 0 0,B E 0],.complex .f64 0 0,B E 11])) W:=by
 subst h;exact⟨_,_,rfl,Pi _ _ _ _,PtV.zero,b⟩
theorem tZ(es:List Ent):1+O es<=O (bp es):=by
 have h:O es<=O (es.flatMap dv):=by
  induction es with
  |nil=>exact xN _
  |cons e es ih=>
   have h1:=ra [e.t,e.k,e.v];have h2:3<=O (dv e):=h1;rw[List.flatMap_cons,xL,xC];omega
 unfold bp;rw[xC];omega
theorem ie(es:List Ent):∀u∈ax es,u.oneCell'=true:=by
 intro u b;obtain⟨e,_,h⟩:=List.mem_flatMap.1 b;simp[Ent.cells]at h;rcases h with rfl | rfl | rfl<;>rfl
theorem LA(q:Nat×Nat)(rest:List UInt8):(fP rest=([],0)/\bX q rest=none)\/∃es r,fh es=true/\fP rest=(es,O (bp es))/\rest=bp es++r /\
  bX q rest=(if 4<=O r/\r.take 4=aW (aD q (bp es))then some (es,r.drop 4)else none):=by
 cases h:dO rest with
 |none=>exact .inl ⟨by unfold fP;rw[h],by unfold bX;rw[h]⟩
 |some x=>
  obtain⟨es,r⟩:=x;obtain⟨h1,h2⟩:=rj h;refine .inr ⟨es,r,h1,?_,h2,by unfold bX;rw[h]⟩;unfold fP;rw[h,h2];simp
theorem yJ{f:World}{bs:List UInt8}{z1 z2 d:Nat}{q:Nat×Nat}{b:List Ent}{c:Value}{rest:List UInt8}(h:O bs-O rest=d)(K3:PtV (.complex .f64 z1 z2) q)(hb:Blk W w.heap.size 90 #[B E first,c,B E d])(e:W.ownsRow f.heap.size 54 3 c b.length (ax b))(g:w.heap.size+1<f.heap.size)(g:Ext w W)(hn:bX q rest=none)(f:cz bs=⟨0,first,b++(bZ q rest).1,O bs-O (bZ q rest).2.2,(bZ q rest).2.1⟩):
  LookP w (cz bs) (.returned (.tuple #[M #[B E first,c,B E d],.complex .f64 z1 z2,B E 0]))
   (((W.setCell ⟨w.heap.size,0,D⟩ (B E first)).setCell ⟨w.heap.size,1,D⟩ c).setCell ⟨w.heap.size,2,D⟩ (B E d)):=by
 rw[f,zi hn];refine⟨_,_,by dsimp only;rw[h],?_,K3,P0 (p:=⟨w.heap.size,2,D⟩) (P0 (p:=⟨w.heap.size,1,D⟩) (P0 (p:=⟨w.heap.size,0,D⟩) g (xN _) _) (xN _) _) (xN _) _⟩;dsimp only;rw[P3];have b:=e.kept (ar W w.heap.size 0 (B E first)) (.inr (hb.not_row (by decide) e).symm);have b1:=hb.set 0 (B E first);have d:=b.kept (ar _ w.heap.size 1 c) (.inr (b1.not_row (by decide) b).symm);have b2:=b1.set 1 c;exact ay (d.kept (ar _ w.heap.size 2 _) (.inr (b2.not_row (by decide) d).symm)) (by omega)
theorem LookP.drew{r:zgM}{e:Ending}(h:LookP w r e W):LookP w r e W.drew:=by
 obtain⟨f,g,he,d,c,b⟩:=h;exact⟨f,g,he,d,c,b.drew⟩
theorem LkI.restW{m:World}{bs:List UInt8}{z1 z2:Nat}{q:Nat×Nat}{d:List Ent}{k:Value}{f:Option Addr}{j:Nat}{rest:List UInt8}{g:Array Value}(hI:LkI w m bs first z1 z2 q d k f j rest g W):
  Bs W (C f rest.length j) rest:=by
 rcases Pm (O rest)with c | c
 ·obtain rfl:rest=[]:=P2 c;obtain⟨_,_,_,e,_,h,_⟩:=hI.rst;cases e;exact SlR.empty W 1 h
 ·obtain⟨_,b,l,rfl,_⟩:=Bs.at_ hI.rst c;have d:=hI.apart b l rfl c;exact SlR.keepB hI.rst (λo u hc=>hI.hold _ _ d.1 d.2 hc)
theorem NP(v:Value)(bs:List UInt8)(w:World)(He:Bs w v bs)(hl:bs.length<=2000000):Calls F 365 #[v] w (LookP w (cz bs)):=by
 obtain⟨A,c,rfl,h1,h2⟩:=xO He;refine(callsIn_wd (ro:=none) (n:=9)).1 ?_;refine callsIn_of_wp func365 rfl trivial ?_ rfl;simp only[ntmps365,List.size_toArray,xC,List.length_nil,Nat.reduceAdd,Nat.reduceSub,Array.replicate_succ,Array.replicate_zero,List.push_toArray,List.append_toArray,xI,List.cons_append];have Hp:Ext w ((w.alloc (J #[B E 0,C none 0 0,B E 0] 90)).alloc (J #[B H 0,B H 0,B H 0,B H 0] 188)):=xA (xA (xR _) _) _;have HO:Blk ((w.alloc (J #[B E 0,C none 0 0,B E 0] 90)).alloc (J #[B H 0,B H 0,B H 0,B H 0] 188)) w.heap.size 90 #[B E 0,C none 0 0,B E 0]:=(Blk.new w _ _).alloc _;have KI:Blk ((w.alloc (J #[B E 0,C none 0 0,B E 0] 90)).alloc (J #[B H 0,B H 0,B H 0,B H 0] 188)) (w.heap.size+1) 188 #[B H 0,B H 0,B H 0,B H 0]:=by
  have:=Blk.new (w.alloc (J #[B E 0,C none 0 0,B E 0] 90)) 188 #[B H 0,B H 0,B H 0,B H 0];rwa[xS]at this
 gi_wp2;refine eU 0 (λa W=>∃w1 first,LkR w w1 bs first a W) (λa _=>qV (a.tmps.getD 8 undef)) (hf:=rfl) (λl' h=>by cases l'<;>first | exact absurd rfl h | rfl) ?_ ?_
 ·intro Ho;have HM:=L Ho;clear Ho;by_cases h0:bs.length=0
  ·obtain rfl:bs=[]:=P2 h0;gi_wp2;refine bJ ?_;exact bodyPost_ret (lq _ _ _ _ _ _ _ _ rfl rfl rfl HO) rfl (iT (iH rfl) Hp)
  obtain⟨_,b,Hd,rfl,hc⟩:=Bs.at_ He (by omega);have HP:w.cell? ⟨b,Hd,D⟩=G (B H (bs[0].toNat:Int)):=hc 0 (by omega);obtain⟨x,l,rfl⟩:∃x l,bs=x::l:=by cases bs with | nil=>exact absurd rfl h0 | cons x l=>exact⟨x,l,rfl⟩
  simp only[List.getElem_cons_zero]at HP;have KT:b<w.heap.size:=Ph w _ HP;have Kr:=L He;have e0:((l.length:Int)+1==0)=false:=by simp;omega
  clear hc He h0;simp only[xC]at *;by_cases hx:x.toNat=2
  ·have KB:x=2:=UInt8.toNat_inj.1 (by simpa using hx);subst KB;have HT:Hid (∀(W:World) (u:Value),Bs W u l->Calls F 148 #[u] W (iB W (aJ l))):=λW u hu=>AS u l W hu (by omega);have N:Hid (cV (2::l)=if(aJ l).1=0/\(aJ l).2.1≠0 then some (aJ l).2 else none):=by show _=_;rw[cV];simp
   have Kk:=oA l;have Hz:Hid (l=[]->(aJ l).1≠0):=by rintro rfl;decide
   rcases htk:aJ l with⟨er,m,r⟩
   rw[htk]at HT N Kk Hz;dsimp only at N Kk Hz;clear htk hx;have HD:Hid (∀W:World,Ext w W->Bs W (C (G ⟨b,Hd+1,D⟩) l.length (c-1)) l):=by
    intro W hE;have h:=Bs.cut (Kr.out.ext hE) 1 (by simp) rfl;simpa using h
   by_cases hc1:c=1
   ·obtain rfl:l=[]:=P2 (by omega);have e6:(er != 0)=true:=by simpa using Hz.out rfl
    have KC:=L (Hz.out rfl);subst hc1;gi_wp2_with (refine⟨trivial,?_⟩;gi_at_call 148;refine(callsIn_wd.2 (HT.out _ _ (SlR.empty _ 1 (by simp)))).mono ?_;rintro e w1⟨v1,rfl,Hg,H7⟩;have Hj:=HO.ext H7;obtain⟨c0,c1,c2,f0,f1,f2⟩:=au Hj)
    refine bJ ?_;refine bodyPost_ret (lq _ _ _ _ _ _ _ _ rfl rfl rfl (bV Hj _ _ _)) rfl (iT (iH ?_) (P0 (p:=⟨w.heap.size,2,D⟩) (P0 (p:=⟨w.heap.size,1,D⟩) (P0 (p:=⟨w.heap.size,0,D⟩) (xT Hp H7) (xN _) _) (xN _) _) (xN _) _));rw[N.out,if_neg (λh=>KC.out h.1)]
   by_cases s:er=0/\m≠0
   ·obtain⟨rfl,hm⟩:=s;have e6:((m:Int)==0)=false:=by simp;omega
    have Km:((l.length:Int)+1-(r.length:Int))=((l.length+1-r.length:Nat):Int):=by omega
    have HA:Hid (cV (2::l)=G (m,r)):=by show _=_;rw[N.out,if_pos ⟨rfl,hm⟩]
    obtain⟨k,hk⟩:∃k,l.length+1-r.length=k:=⟨_,rfl⟩;have J7:k<=l.length+1:=by omega
    rw[hk]at Km;have Hk:=L hk;clear hk;have KD:Hid ((2::l).take k=(cK (m:Int)).2):=by
     have:=(zN HA.out).2;simp only[xC]at this;rw[Hk.out]at this;exact this
    have J6:=L3 (m:Int);clear hm N Hz;gi_wp2_with (first
     |(refine⟨trivial,?_⟩;gi_at_call 148;refine(callsIn_wd.2 (HT.out _ _ (HD.out _ Hp))).mono ?_;rintro e w1⟨v1,rfl,Hg,H7⟩;have Hj:=HO.ext H7;have KJ:=KI.ext H7;obtain⟨c0,c1,c2,f0,f1,f2⟩:=au Hj;obtain⟨Ar,y,rfl,_,_⟩:=xO (xW Hg))
     | (refine⟨trivial,?_⟩;gi_at_call 297
        have Ks:Ext w ((w1.setCell ⟨w.heap.size,0,D⟩ (B E m)).setCell ⟨w.heap.size,2,D⟩ (B E k)):=P0 (p:=⟨w.heap.size,2,D⟩) (P0 (p:=⟨w.heap.size,0,D⟩) (xT Hp H7) (xN _) _) (xN _) _;have HS:((w1.setCell ⟨w.heap.size,0,D⟩ (B E m)).setCell ⟨w.heap.size,2,D⟩ (B E k)).heap.size=w1.heap.size:=by simp[Pj]
        have Ku:=Bs.take (Kr.out.ext Ks) k (by simp;omega);rw[KD.out]at Ku;have V:=lU Ku;rw[HS]at V;refine(callsIn_wd.2 (FK _ _ _ V)).mono ?_;rintro e w3⟨vz,rfl,O,HZ⟩;rw[show[(cK (m:Int)).2].flatten=(cK (m:Int)).2 from by simp]at O;have K5:=L O;obtain⟨z1,z2,rfl,_,_⟩:=O))
    refine wpIn_label ?_;gi_step;gi_step;have Hl:Ext ((w1.setCell ⟨w.heap.size,0,D⟩ (B E m)).setCell ⟨w.heap.size,2,D⟩ (B E k)) w3:=xT (xA (xR _) _) HZ;refine HM.out _ _ ⟨w1,m,z1,z2,aD (0,0) (cK (m:Int)).2,[],C none 0 0,Ar,y,r,_,⟨K5.out,?_,((KJ.other (by omega) 0 _).other (by omega) 2 _).ext Hl,rfl,Pi _ _ _ _,xW Hg,?_,?_,xT Ks Hl,by rw[<-HS];exact Hl.size,?_,by simp;omega,zP HA.out⟩,rfl,rfl,rfl,rfl,rfl,rfl⟩
    ·have:=((Hj.set 0 (B E m)).set 2 (B E k)).ext Hl;rw[xC,Hk.out];exact this
    ·intro b' J5 e V;subst e;have:=(Hg.lt b' rfl).1;simp at this;omega
    ·intro p u Ht Ki hc;have h1:=(Pg w1 ⟨w.heap.size,0,D⟩ p (B E m) (λe=>Ht (by rw[<-e]))).trans hc;exact Hl.cell ((Pg _ ⟨w.heap.size,2,D⟩ p (B E k) (λe=>Ht (by rw[<-e]))).trans h1)
    have:=H7.size;simp at this;omega
   by_cases her:er=0
   ·subst her;have hm:m=0:=Decidable.byContradiction (λh=>s ⟨rfl,h⟩);subst hm;have HA:Hid (cV (2::l)=none):=by show _=_;rw[N.out,if_neg s]
    clear s N;exact mcLooka1
   have e6:(er != 0)=true:=by simpa using her
   have HA:Hid (cV (2::l)=none):=by show _=_;rw[N.out,if_neg s]
   clear s N her;exact mcLooka1
  have e1:((x.toNat:Int) != 2)=true:=by simp;omega
  gi_wp2;refine bJ ?_;exact bodyPost_ret (lq _ _ _ _ _ _ _ _ rfl rfl rfl HO) rfl (iT (iH (by rw[cV,if_neg (λh=>hx (by rw[h.1];rfl))])) Hp)
 ·rintro a W⟨w1,first,hR⟩;obtain⟨z1,z2,q,log,H0,Ar,y,rest,g,hI,hd,Kn,h2,h3,h5,h8⟩:=hR;obtain⟨T,ds⟩:=a;dsimp only at hd Kn h2 h3 h5 h8;subst hd;have hT:=fM 100 T Kn;generalize hU:(λi=>T.getD i undef)=U at hT;have Y:U 2=I (G ⟨w.heap.size,0,D⟩):=by rw[<-hU];exact h2
  have Z:U 3=.complex .f64 z1 z2:=by rw[<-hU];exact h3
  have g5:U 5=I (G ⟨w.heap.size+1,0,D⟩):=by rw[<-hU];exact h5
  have g8:U 8=C Ar rest.length y:=by rw[<-hU];exact h8
  have Ka:T = #[U 0,U 1,I (G ⟨w.heap.size,0,D⟩),.complex .f64 z1 z2,U 4,I (G ⟨w.heap.size+1,0,D⟩),U 6,U 7,C Ar rest.length y,U 9,U 10,U 11,U 12,U 13,U 14,U 15,U 16,U 17,U 18,U 19,U 20,U 21,U 22,U 23,U 24,U 25,U 26,U 27,U 28,U 29,U 30,U 31,U 32,U 33,U 34,U 35,U 36,U 37,U 38,U 39,U 40,U 41,U 42,U 43,U 44,U 45,U 46,U 47,U 48,U 49,U 50,U 51,U 52,U 53,U 54,U 55,U 56,U 57,U 58,U 59,U 60,U 61,U 62,U 63,U 64,U 65,U 66,U 67,U 68,U 69,U 70,U 71,U 72,U 73,U 74,U 75,U 76,U 77,U 78,U 79,U 80,U 81,U 82,U 83,U 84,U 85,U 86,U 87,U 88,U 89,U 90,U 91,U 92,U 93,U 94,U 95,U 96,U 97,U 98,U 99]:=by rw[hT];show(#[U 0,U 1,U 2,U 3,U 4,U 5,U 6,U 7,U 8,U 9,U 10,U 11,U 12,U 13,U 14,U 15,U 16,U 17,U 18,U 19,U 20,U 21,U 22,U 23,U 24,U 25,U 26,U 27,U 28,U 29,U 30,U 31,U 32,U 33,U 34,U 35,U 36,U 37,U 38,U 39,U 40,U 41,U 42,U 43,U 44,U 45,U 46,U 47,U 48,U 49,U 50,U 51,U 52,U 53,U 54,U 55,U 56,U 57,U 58,U 59,U 60,U 61,U 62,U 63,U 64,U 65,U 66,U 67,U 68,U 69,U 70,U 71,U 72,U 73,U 74,U 75,U 76,U 77,U 78,U 79,U 80,U 81,U 82,U 83,U 84,U 85,U 86,U 87,U 88,U 89,U 90,U 91,U 92,U 93,U 94,U 95,U 96,U 97,U 98,U 99]:Array Value)=_;rw[Y,Z,g5,g8]
  clear hT hU Kn Y h2 Z h3 g5 h5 g8 h8;subst Ka;obtain⟨Av,cv,rfl,_,_⟩:=xO (xW hI.row);have HI:=L hI;have Hv:=hI.restW;have HW:=hI.box;have Kk:rest.length<=2000000:=by have:=hI.le;omega
  obtain⟨t,Kq⟩:∃t,bs.length-rest.length=t:=⟨_,rfl⟩;rw[Kq]at HW;have Jb:t<=2000000:=by omega
  have KA:log.length<=2000000:=by have:=hI.le;omega
  have Hu:=L Kq;clear Kq;obtain⟨Kw,Kx⟩:rest.length<=y/\y<=9223372036854775807:=by
   obtain⟨_,_,_,e,h,h',_⟩:=hI.rst;cases e;exact⟨h,by simpa[maxLen]using h'⟩
  have HT:=L (MN _ rest W Hv (by omega));rcases LA q rest with⟨ht,hn⟩|⟨es,r,hok,ht,K,hn⟩
  ·rw[ht]at HT;have Hn:=L hn;clear hI hn ht Hv;exact mcLooka2
  ·rw[ht]at HT;have Kv:=tZ es;obtain⟨body,H5⟩:∃body,bp es=body:=⟨_,rfl⟩;rw[H5]at K hn Kv HT;have Ha:=congrArg List.length K;rw[xL]at Ha;have K7:=L K;have KU:es.length<=4:=by have:=(lw es).1 hok;omega
   obtain⟨d,K2⟩:∃d,body.length=d:=⟨_,rfl⟩;rw[K2]at HT Kv Ha;have HJ:=L K2;have HB:=L H5;have KV:0<d:=by omega
   have e6:((d:Int)==0)=false:=by simp;omega
   have HG:=L Ha;have Ky:d+r.length<=y:=by omega
   have Kz:d+r.length<=2000000:=by omega
   by_cases h4:r.length<4
   ·have Hn:Hid (bX q rest=none):=by show _=_;rw[hn,if_neg (by omega)]
    have KE:rest.length<d+4:=by omega
    clear hI hn ht Hv Ha K K2 H5;exact mcLooka2
   ·have KE:d+4<=rest.length:=by omega
    have K6:Hid (∀W',Ext W W'->Bs W' (C Ar d y) body):=by
     intro W' hE;have:=Bs.take (Bs.ext Hv hE) d (by omega);rwa[K7.out,<-HJ.out,Pb,HJ.out]at this
    obtain⟨R,H3,KF⟩:∃R H3,Ar=G ⟨R,H3,D⟩:=by obtain⟨_,R,H3,e,_⟩:=Bs.at_ Hv (by omega);exact⟨R,H3,e⟩
    subst KF;have KK:=hI.four;obtain⟨g0,g1,Y,Z,rfl⟩:∃g0 g1 Y Z,g = #[g0,g1,Y,Z]:=by
     have:=hI.gsz;obtain⟨l⟩:=g;match l,this with
     |[g0,g1,Y,Z],_=>exact⟨g0,g1,Y,Z,rfl⟩
    clear hI ht Hv Ha K K2 H5;gi_wp2_with (first
     |(refine⟨trivial,?_⟩;gi_at_call 371;refine(callsIn_wd.2 HT.out).mono ?_;rintro e w2⟨v2,rfl,Kg,Hq⟩;have HX:=HW.ext Hq;obtain⟨A2,HU,rfl,_,_⟩:=xO (xW Kg))
     | (refine⟨trivial,?_⟩;gi_at_call 297
        have V:=lU (K6.out w2 Hq);refine(callsIn_wd.2 (qI z1 z2 _ _ _ V)).mono ?_;rintro e w3⟨vz,rfl,O,HZ⟩;rw[show[body].flatten=body from by simp,HI.out.pt.pt]at O;have K5:=L O;have K3:=O.pt;obtain⟨a1,b1,rfl,_,_⟩:=O;obtain⟨f0,f1,f2,z,hf⟩:∃f0 f1 f2 z:UInt8,aW (aD q body)=[f0,f1,f2,z]:=⟨_,_,_,_,rfl⟩;have HF:Hid (∀W,Calls F 298 #[.complex .f64 a1 b1] W λe w'=>e=.returned (M #[B H f0.toNat,B H f1.toNat,B H f2.toNat,B H z.toNat])/\Ext W w'):=by
         intro W;refine(AJ a1 b1 W).mono ?_;rintro e w' ⟨rfl,hE⟩;exact⟨by rw[K3,hf];rfl,hE⟩
        have Hf:=L hf;clear hf K3)
     | (refine⟨trivial,?_⟩;gi_at_call 298;refine(callsIn_wd.2 (HF.out _)).mono ?_;rintro e w4⟨rfl,Hl⟩
        have X:Ext W w4:=xT (xT (xA Hq _) HZ) Hl;have KH:=HW.ext X;have K0:=KK.ext X;obtain⟨c0,c1,c2,c3,d0,d1,d2,d3⟩:=blk4 K0))
    have Hs:w4.grownBy ((((w4.setCell ⟨w.heap.size+1,0,D⟩ (B H f0.toNat)).setCell ⟨w.heap.size+1,1,D⟩ (B H f1.toNat)).setCell ⟨w.heap.size+1,2,D⟩ (B H f2.toNat)).setCell ⟨w.heap.size+1,3,D⟩ (B H z.toNat)) (some (w.heap.size+1)):=
     pK (pK (pK (ar _ _ _ _) (ar _ _ _ _)) (ar _ _ _ _)) (ar _ _ _ _)
    have K9:Blk ((((w4.setCell ⟨w.heap.size+1,0,D⟩ (B H f0.toNat)).setCell ⟨w.heap.size+1,1,D⟩ (B H f1.toNat)).setCell ⟨w.heap.size+1,2,D⟩ (B H f2.toNat)).setCell ⟨w.heap.size+1,3,D⟩ (B H z.toNat)) (w.heap.size+1) 188 ([f0,f1,f2,z].map bv).toArray:=
     (((K0.set 0 (B H f0.toNat)).set 1 (B H f1.toNat)).set 2 (B H f2.toNat)).set 3 (B H z.toNat)
    generalize(((w4.setCell ⟨w.heap.size+1,0,D⟩ (B H f0.toNat)).setCell ⟨w.heap.size+1,1,D⟩ (B H f1.toNat)).setCell ⟨w.heap.size+1,2,D⟩ (B H f2.toNat)).setCell ⟨w.heap.size+1,3,D⟩ (B H z.toNat)=W5 at *;have Hr:Blk W5 w.heap.size 90 #[B E first,C Av log.length cv,B E t]:=KH.kept Hs (by simp);have Kt:=HI.out.apart R H3 rfl (by omega);have Hi:Hid (∀p u,p.block≠w.heap.size+1->W.cell? p=G u->W5.cell? p=G u):=λp u V hc=>cg Hs (X.cell hc) (λe=>V (by injection e));have K8:Ext w W5:=P1 (xT HI.out.ext X) Hs (by have:=HI.out.ext.size;have:=X.size;omega) (λk e=>by injection e with e;omega);have Ko:W.heap.size<=W5.heap.size:=Po X.size Hs.size;have H2:W5.ownsRow w1.heap.size 54 3 (C Av log.length cv) log.length (ax log):=by
     have h:=ai HI.out.row X;exact h.kept Hs (.inr (K0.not_row (by decide) h).symm)
    have Kl:W5.ownsRow W.heap.size 54 3 (C A2 es.length HU) es.length (ax es):=by
     have h:=ai Kg (xT (xT (xA (xR _) _) HZ) Hl);exact h.kept Hs (.inr (K0.not_row (by decide) h).symm)
    have Kj:Bs W5 (C (G ⟨R,H3+d,D⟩) 4 (y-d)) (r.take 4):=by
     have h1:=Bs.cut HI.out.restW d (by omega) rfl;have h2:=Bs.take h1 4 (by rw[P4];omega);rw[K7.out,<-HJ.out,List.drop_left,HJ.out]at h2;exact SlR.keepB h2 (λo u hc=>Hi.out _ _ Kt.2 hc)
    have Kd:Bs W5 (C (G ⟨w.heap.size+1,0,D⟩) 4 4) [f0,f1,f2,z]:=fZ K9 rfl (by simp[maxLen]);have HQ:=L (fI _ _ _ _ W5.drew Kd Kj);have KW:IntKind.i64.wrap ((d:Int)+4)=(d:Int)+4:=IntWalk.i64_in _ (by omega);have KX:((d:Int)+4).toNat=d+4:=by omega
    have KY:(0:Int)<=(d:Int):=by omega
    have KZ:(d:Int)<=(d:Int)+4:=by omega
    have J0:(d:Int)+4<=(rest.length:Int):=by omega
    have J1:¬y=d:=by omega
    have J2:(d:Int)+4<=(y:Int):=by omega
    have J3:d+4-d=4:=by omega
    have J4:(0:Int)<=(d:Int)+4:=by omega
    cases hd:decide ([f0,f1,f2,z]=r.take 4)
    ·rw[hd]at HQ;have Hn:Hid (bX q rest=none):=by
      show _=_;rw[hn,if_neg];rintro⟨_,h⟩;rw[Hf.out]at h;simp only[decide_eq_false_iff_not]at hd;exact hd h.symm
     clear hd hn Kj Kd c0 c1 c2 c3 d0 d1 d2 d3;refine mc (hm:=by kernel_rfl) ?_;refine aC 0 ?_;refine aC 1 ?_;refine aC 2 ?_;refine aC 3 ?_;refine aC 4 ?_;refine aC 5 ?_;refine lv (i:=6) (f:=81) (args:=?b8) (w':=?w8) (by kernel_rfl) rfl rfl ?h8 ?r8
     case h8=>go_simp;try(first|with_reducible rfl | (refine⟨?_,?_⟩<;>with_reducible rfl))
     refine HQ.out.mono ?_;rintro e w6⟨rfl,rfl⟩;refine⟨_,rfl,?_⟩;refine bT 7 ?_;refine wpAnyIn_done (by kernel_rfl) (eV ?_) _;simp only[Pk,sA,sZ,sS];obtain⟨c0,c1,c2,d0,d1,d2⟩:=au Hr;clear KW KX KY KZ J0 J1 J2 J3 J4;gi_wp2;refine bJ ?_;exact bodyPost_ret (lq _ _ _ _ _ _ _ _ rfl rfl rfl (bV Hr _ _ _)) rfl (LookP.drew (yJ Hu.out HI.out.pt Hr H2 HI.out.lo K8 Hn.out HI.out.out))
    ·rw[hd]at HQ;have Hn:Hid (bX q rest=G (es,r.drop 4)):=by
      show _=_;rw[hn,if_pos];simp only[decide_eq_true_eq]at hd;exact⟨by omega,by rw[Hf.out,hd]⟩
     clear hd hn Kj Kd c0 c1 c2 c3 d0 d1 d2 d3;refine mc (hm:=by kernel_rfl) ?_;refine aC 0 ?_;refine aC 1 ?_;refine aC 2 ?_;refine aC 3 ?_;refine aC 4 ?_;refine aC 5 ?_;refine lv (i:=6) (f:=81) (args:=?b17) (w':=?w17) (by kernel_rfl) rfl rfl ?h17 ?r17
     case h17=>go_simp;try(first|with_reducible rfl | (refine⟨?_,?_⟩<;>with_reducible rfl))
     refine HQ.out.mono ?_;rintro e w6⟨rfl,rfl⟩;refine⟨_,rfl,?_⟩;refine bT 7 ?_;refine wpAnyIn_done (by kernel_rfl) (eV ?_) _;simp only[Pk,sA,sZ,sS];gi_wp2;obtain⟨c0,c1,c2,d0,d1,d2⟩:=au Hr;have Jc:IntKind.i64.wrap ((t:Int)+(d:Int))=(t:Int)+(d:Int):=IntWalk.i64_in _ (by omega);have KB:IntKind.i64.wrap ((t:Int)+(d:Int)+4)=(t:Int)+(d:Int)+4:=IntWalk.i64_in _ (by omega);obtain⟨i0,hi,Hw,Hx,Hy⟩:=info_parts ic;have KR:w1.heap.size<=W5.heap.size:=Po HI.out.sz Ko;obtain⟨va,wa,Hc,H1,H6⟩:=ep (P:=F) W5.drew.drew w1.heap.size 42 42 54 i0 _ 3 24 underlying42 hi Hw Hx Hy rfl (by decide)
      (C Av log.length cv) log.length (ax log) H2 (C A2 es.length HU) es.length (ax es) (xW Kl) (ie es) (by unfold maxLen;omega) (by omega) KR
     obtain⟨Aa,ca,rfl,_,_⟩:=xO (xW H1);have HN:=L Hc;have HK:=L H1;have H8:=L H6;have HY:Blk wa w.heap.size 90 #[B E first,C Av log.length cv,B E t]:=Blk.kept (W:=W5.drew.drew) Hr H6 (Hr.not_row (by decide) H2);have KL:Blk wa (w.heap.size+1) 188 ([f0,f1,f2,z].map bv).toArray:=Blk.kept (W:=W5.drew.drew) K9 H6 (K9.not_row (by decide) H2);obtain⟨e0,e1,e2,t0,t1,t2⟩:=au HY;clear Hc H1 H6;have K1:=HI.out.le;have Hh:(r.drop 4).length=rest.length-(d+4):=by rw[P4];have:=HG.out;omega
     obtain⟨AX,HV⟩:∃AX:Option Addr,(if y=d+4 then some ⟨R,H3,D⟩else some ⟨R,H3+(d+4),D⟩)=AX:=⟨_,rfl⟩;have K4:=L HV;clear HV;have HE:Hid (∀T:Array Value,T.size=100->T.getD 2 undef=I (G ⟨w.heap.size,0,D⟩)->T.getD 3 undef=.complex .f64 a1 b1->T.getD 5 undef=I (G ⟨w.heap.size+1,0,D⟩) ->
       T.getD 8 undef=C AX (rest.length-(d+4)) (y-(d+4)) ->
       ∃w1 first,LkR w w1 bs first ⟨T,[]⟩ ((wa.setCell ⟨w.heap.size,1,D⟩ (C Aa (log.length+es.length) ca)).setCell ⟨w.heap.size,2,D⟩ (B E ((t:Int)+d+4)))):=by
      intro T KM Ka KN KO KP;have HV:=K4.out;subst HV;refine⟨w1,first,a1,b1,aD q body,log++es,C Aa (log.length+es.length) ca,_,y-(d+4),r.drop 4,([f0,f1,f2,z].map bv).toArray,⟨K5.out,?_,(KL.other (by omega) 1 _).other (by omega) 2 _,rfl,?_,?_,?_,?_,?_,?_,HI.out.lo,?_,?_⟩,rfl,KM,Ka,KN,KO,by rw[Hh];exact KP⟩
      ·have hv:((bs.length-(r.drop 4).length:Nat):Int)=(t:Int)+d+4:=by
        have:=Hu.out;rw[Hh];omega
       rw[hv];exact(HY.set 1 (C Aa (log.length+es.length) ca)).set 2 (B E ((t:Int)+d+4))
      ·have ec:ax (log++es)=ax log++ax es:=by simp[ax]
       rw[ec,xL];have r1:=HK.out.kept (ar wa w.heap.size 1 (C Aa (log.length+es.length) ca)) (.inr (HY.not_row (by decide) HK.out).symm);have b1:=HY.set 1 (C Aa (log.length+es.length) ca);exact r1.kept (ar _ w.heap.size 2 _) (.inr (b1.not_row (by decide) r1).symm)
      ·by_cases h44:r.length=4
       ·rw[show r.drop 4=[]from P5 (by omega)];exact SlR.empty w1 1 (by simp[maxLen];omega)
       rw[if_neg (by have:=HG.out;omega)];have h:=Bs.cut HI.out.rst (d+4) (by omega) rfl;rw[Hh];rw[show rest.drop (d+4)=r.drop 4 from by rw[K7.out,<-HJ.out];simp]at h;exact h
      ·intro b Hd e V;split at e<;>(injection e with e;injection e with e1 _;rw[<-e1];exact Kt)
      ·intro p u Ht Ki hc;have J9:=Ph w1 p hc;have k1:W5.drew.drew.cell? p=G u:=Hi.out p u Ki (HI.out.hold p u Ht Ki hc);have k2:=cg H8.out k1 (λe=>by have:=(H2.lt _ e.symm).1;omega);have k3:=(Pg wa ⟨w.heap.size,1,D⟩ p (C Aa (log.length+es.length) ca) (λe=>Ht (by rw[<-e]))).trans k2;exact(Pg _ ⟨w.heap.size,2,D⟩ p (B E ((t:Int)+d+4)) (λe=>Ht (by rw[<-e]))).trans k3
      ·refine P0 (p:=⟨w.heap.size,2,D⟩) (P0 (p:=⟨w.heap.size,1,D⟩) (P1 ((K8.drew).drew) H8.out ?_ ?_) (xN _) _) (xN _) _
       ·have:=K8.size;exact this
       intro k ek;have:=(H2.lt _ ek).1;have:=HI.out.lo;omega
      ·have:=H8.out.size;have h2:W5.drew.drew.heap.size=W5.heap.size:=rfl;simp[Pj];omega
      ·rw[xL,Hh];omega
      rw[HI.out.out,zj Hn.out,HB.out];simp[P8]
     have Ja:rest.length-(d+4)<rest.length:=by omega
     refine mc (hm:=by kernel_rfl) ?_;refine aC 0 ?_;refine aC 2 ?_;refine aC 4 ?_;refine aC 6 ?_;refine aC 9 ?_;refine aC 10 ?_;refine aC 11 ?_;refine aC 12 ?_;refine aC 13 ?_;refine yV (i:=1) (j:=5) (vi:=C Av log.length cv) (vj:=B E t) (wi:=W5.drew.drew) (wj:=W5.drew.drew) rfl (by kernel_rfl) rfl rfl rfl rfl rfl rfl (by go_simp) (by go_simp) ?_ ?_
     ·refine yV (i:=3) (j:=5) (vi:=C Aa (log.length+es.length) ca) (vj:=B E t) (wi:=wa) (wj:=W5.drew.drew) rfl (by kernel_rfl) rfl rfl rfl rfl (nK _ _ _ rfl) rfl (nH (v:=C Av log.length cv) (vx:=C A2 es.length HU) (.tmp 85) (.tmp 86) 42 rfl (by simp[Pl,Pk]) (by simp[Pl,Pk]) HN.out) (by go_simp) ?_ ?_
      ·skip;refine bT 5 ?_;refine aC 7 ?_;refine aC 8 ?_;refine bT 14 ?_;refine iG 15 ?_;refine bT 16 ?_;refine iG 17 ?_;refine bT 18 ?_;refine bT 19 ?_;refine wpAnyIn_done (by kernel_rfl) (eV ?_) _;simp only[Pk,sA,sZ,sS];rw[K4.out];gi_wp2;refine wpIn_goto ?_;try simp only[Exit.then]
       exact bI (h:=by simp) ⟨HE.out _ rfl rfl rfl rfl rfl,by simp[qV];omega⟩
      skip;refine aC 7 ?_;refine aC 8 ?_;exact mcLooka0
     ·skip;refine aC 7 ?_;refine aC 8 ?_;refine bT 1 ?_;exact mcLooka0
open Go.RowKit Go.Mv
def eB(w:World)(r:zgM)(e:Ending)(w':World):Prop:=
 ∃b,e=.returned (.tuple #[M #[B E r.first,b,B E r.used],B E r.err])/\w'.ownsRow w.heap.size 54 3 b r.log.length (ax r.log)/\Ext w w'
theorem NQ(v:Value)(bs:List UInt8)(w:World)(b:Bs w v bs)(hl:O bs<=2000000):∀W,Ext w W->Calls F 365 #[v] W (LookP W (cz bs)):=λW c=>NP v bs W (Bs.ext b c) hl
theorem Ml(v:Value)(bs:List UInt8)(w:World)(j:Bs w v bs)(hl:bs.length<=2000000):Calls F 359 #[v] w (eB w (cz bs)):=by
 have r:=L (NQ v bs w j hl);obtain⟨A,c,rfl,_,_⟩:=xO j;clear j;generalize cz bs=R at *;obtain⟨t,first,d,b,pt⟩:=R;go_enter func359,ntmps359
 go_wp2_with (go_at_call 365;refine(r.out _ (xA (xR _) _)).mono ?_;rintro e I⟨X,Y,rfl,k,G,l⟩;dsimp only at k;obtain⟨f,g,rfl,_,_⟩:=xO (xW k);obtain⟨z1,z2,rfl,_,_⟩:=G;have h:=((Blk.new w 90 #[B E 0,C none 0 0,B E 0]).ext l).alloc (J #[B E first,C f d.length g,B E b] 90);obtain⟨K,N,O,T,U,V⟩:=au h)
 have s:=bV h (B E first) (C f d.length g) (B E b);have m:=ai k (xA (xR I) (J #[B E first,C f d.length g,B E b] 90));have n:=m.kept (ar _ w.heap.size 0 (B E first)) (.inr (h.not_row (by decide) m).symm);have b1:=h.set 0 (B E first);have q:=n.kept (ar _ w.heap.size 1 (C f d.length g)) (.inr (b1.not_row (by decide) n).symm);have b2:=b1.set 1 (C f d.length g);have H:=q.kept (ar _ w.heap.size 2 (B E b)) (.inr (b2.not_row (by decide) q).symm);obtain⟨x,y,z,_,_,_⟩:=au s;refine bodyPost_ret (v:=.tuple #[M #[B E first,C f d.length g,B E b],B E t]) (by simp[results,results359,go_sem,x,y,z]) rfl ⟨_,rfl,ay H (by simp),?_⟩;exact P0 (p:=⟨w.heap.size,2,D⟩) (P0 (p:=⟨w.heap.size,1,D⟩) (P0 (p:=⟨w.heap.size,0,D⟩) (xA (xT (xA (xR _) _) l) _) (xN _) _) (xN _) _) (xN _) _
def w12:List Ent:=[⟨1,0,0⟩,⟨2,1,7⟩]
def OwnB(w:World)(base:Nat)(v:Value)(bs:List UInt8):Prop:=w.ownsRow base 5 1 v bs.length (bs.map bv)
def OwnE(w:World)(base:Nat)(v:Value)(es:List Ent):Prop:=w.ownsRow base 54 3 v es.length (ax es)
def eP(base:Nat)(w w':World):Prop:=∀b,Ext b w->b.heap.size<=base->Ext b w'
theorem OwnB.bs{l:List UInt8}(h:OwnB w base v l):Bs w v l:=xW h
theorem OwnE.es{l:List Ent}(h:OwnE w base v l):Es w v l:=xW h
theorem OwnB.ext{w':World}{l:List UInt8}(h:OwnB w base v l)(he:Ext w w'):OwnB w' base v l:=ai h he
theorem OwnE.ext{w':World}{l:List Ent}(h:OwnE w base v l)(he:Ext w w'):OwnE w' base v l:=ai h he
theorem iI(W:World):OwnB (W.alloc (J #[] 5)) W.heap.size (C (G ⟨W.heap.size,0,D⟩) 0 0) []:=be W [] 5 0 (xN _)
theorem eu{ops:Array Oper}{rest:List Oper}{Q:Exit->Act->World->Prop}(s x:Operand)(ho:o.op=.call { callee:=.builtin .append,args:=#[s,x],argTypes:=#[33,33] })(base:Nat)(v:Value)(bs:List UInt8)(H1:OwnB w base v bs)(vx:Value)(cs:List UInt8)(hr:Bs w vx cs)(Kf:bs.length+cs.length<=40000000)(H9:base<=w.heap.size)(h:∀A c w',OwnB w' base (C A (bs.length+cs.length) c) (bs++cs)->eP base w w'->wpList F ops Q rest (a.put o.dst (C A (bs.length+cs.length) c)) w')(Ke:o.guard=none:=by exact rfl)(hs:a.eval s=v:=by exact rfl)(hx:a.eval x=vx:=by exact rfl):wpList F ops Q (o::rest) a w:=by
 obtain⟨i0,hi,Hw,Hx,Hy⟩:=info_parts dC;refine dT _ Ke s x 33 ho base 5 i0 (B H 0) 1 1 Tryz.underlying33 hi Hw Hx Hy rfl (by decide) v bs.length (bs.map bv) hs H1 vx cs.length (cs.map bv) hx hr (de _) (by unfold maxLen;omega) (by omega) H9 ?_;intro v' w' h1 h2;obtain⟨A,c,rfl,_,_⟩:=xO (xW h1);refine h A c w' ?_ (λW0 hE hb=>Ext.grownOwn hE (ay H1 hb) h2);unfold OwnB;rw[xL,List.map_append];exact h1
section
variable {P:Program} {ops:Array Oper} {Q:Exit->Act->World->Prop} {md:Region.Mode} {S:World->Prop}
theorem nZ{b:Array Bool}(f:ops.toList[i]?=G oi)(hs:Pe ops=true)(hf:Pf md ops b i=true)(g:(Pc md ops b).contains i=true)(d:∀c a w,Q (.panic c) (a.put oi.dst v) w->Q (.panic c) a w)(j:Pd oi (yielded ops a.tmps)=true)(e:S w)(k:∀w,S w->(execOp a.eval oi).run P w=.ok (.value v) w)(h:wpAnyH P md ops Q S fuel (b.setIfInBounds i true) (a.put oi.dst v) w):wpAnyH P md ops Q S (fuel+1) b a w:=
 wpAnyH_take (by simpa using f) hs hf g d (.inl ⟨j,k⟩) e h
theorem Qh(i:Nat){listed:Array Bool}(h:wpAnyH P md ops Q S fuel (listed.setIfInBounds i true) (a.put oi.dst v) w)(hi:ops.toList[i]?=some oi:=by exact rfl)(hy:∀w,S w->(execOp a.eval oi).run P w=.ok (.value v) w:=by (intro w hw;(try dsimp only at hw);go_simp;try with_reducible rfl))(hs:Region.noSelect ops=true:=by kernel_rfl)(hf:Region.free md ops listed i=true:=by kernel_rfl)(hr:(Region.ready md ops listed).contains i=true:=by kernel_rfl)(hQ:∀c a w,Q (.panic c) (a.put oi.dst v) w->Q (.panic c) a w:=by exact λ_ _ _ h=>h)(hw:Region.wanted oi (yielded ops a.tmps)=true:=by rfl)(hS:S w:=by assumption):wpAnyH P md ops Q S (fuel+1) listed a w:=
 nZ hi hs hf hr hQ hw hS hy h
theorem Qg(i:Nat){listed:Array Bool}(hy:∀w,S w->(execOp a.eval oi).run P w=.ok (.value v) w)(h:wpAnyH P md ops Q S fuel (listed.setIfInBounds i true) (a.put oi.dst v) w)(hi:ops.toList[i]?=some oi:=by exact rfl)(hs:Region.noSelect ops=true:=by kernel_rfl)(hf:Region.free md ops listed i=true:=by kernel_rfl)(hr:(Region.ready md ops listed).contains i=true:=by kernel_rfl)(hQ:∀c a w,Q (.panic c) (a.put oi.dst v) w->Q (.panic c) a w:=by exact λ_ _ _ h=>h)(hw:Region.wanted oi (yielded ops a.tmps)=true:=by rfl)(hS:S w:=by assumption):wpAnyH P md ops Q S (fuel+1) listed a w:=
 nZ hi hs hf hr hQ hw hS hy h
theorem ab(i:Nat){listed:Array Bool}(h:wpAnyH P md ops Q S fuel (listed.setIfInBounds i true) a' w)(hi:ops.toList[i]?=some oi:=by exact rfl)(hy:∀w,S w->(execOp a.eval oi).run P w=.ok (.value v) w:=by (intro w hw;(try dsimp only at hw);go_simp;try with_reducible rfl))(hp:a.put oi.dst v=a':=by (first|(simp only[Act.put,sA,sZ,sS];done) | (simp only[Act.put,sA,sZ,sS];rfl) | rfl))(hs:Region.noSelect ops=true:=by kernel_rfl)(hf:Region.free md ops listed i=true:=by kernel_rfl)(hr:(Region.ready md ops listed).contains i=true:=by kernel_rfl)(hQ:∀c a w,Q (.panic c) (a.put oi.dst v) w->Q (.panic c) a w:=by exact λ_ _ _ h=>h)(hw:Region.wanted oi (yielded ops a.tmps)=true:=by rfl)(hS:S w:=by assumption):wpAnyH P md ops Q S (fuel+1) listed a w:=by
 subst hp;exact nZ hi hs hf hr hQ hw hS hy h
theorem DT{b:Array Bool}(f:ops.toList[i]?=G oi)(hs:Pe ops=true)(hf:Pf md ops b i=true)(g:(Pc md ops b).contains i=true)(d:∀c a w,Q (.panic c) (a.put oi.dst undef) w->Q (.panic c) a w)(j:Pd oi (yielded ops a.tmps)=false)(e:S w)(h:wpAnyH P md ops Q S fuel (b.setIfInBounds i true) (a.put oi.dst undef) w):wpAnyH P md ops Q S (fuel+1) b a w:=
 wpAnyH_take (by simpa using f) hs hf g d (.inr ⟨j,rfl⟩) e h
theorem ag(i:Nat){listed:Array Bool}(h:wpAnyH P md ops Q S fuel (listed.setIfInBounds i true) a' w)(hi:ops.toList[i]?=some oi:=by exact rfl)(hp:a.put oi.dst undef=a':=by (first|(simp only[Act.put,sA,sZ,sS];done) | (simp only[Act.put,sA,sZ,sS];rfl) | rfl))(hs:Region.noSelect ops=true:=by kernel_rfl)(hf:Region.free md ops listed i=true:=by kernel_rfl)(hr:(Region.ready md ops listed).contains i=true:=by kernel_rfl)(hQ:∀c a w,Q (.panic c) (a.put oi.dst undef) w->Q (.panic c) a w:=by exact λ_ _ _ h=>h)(hw:Region.wanted oi (yielded ops a.tmps)=false:=by rfl)(hS:S w:=by assumption):wpAnyH P md ops Q S (fuel+1) listed a w:=by
 subst hp;exact DT hi hs hf hr hQ hw hS h
theorem AllReadyH.one{b:Array Bool}(d:ops.toList[i]?=G o)(e:Pc md ops b=[i])(f:Pd o (yielded ops a.tmps)=true)(h:∀c:Act->World->Prop,Shut (∀a w,S w->(S w->wpAnyH P md ops Q S fuel (b.setIfInBounds i true) a w)->c a w)->Oper.wp P o a w c Q):wpAnyH P md ops Q S (fuel+1) b a w:=
 wpAnyH_ready e (by simp) (AllReadyH.cons (by simpa using d) (λK b=>by rw[if_pos f];exact h K b) AllReadyH.nil)
theorem af{K:Act->World->Prop}{listed:Array Bool}(hK:Shut (∀a w,S w->(S w->wpAnyH P md ops Q S fuel listed a w)->K a w))(a:Act)(w:World)(hS:S w)(h:S w->wpAnyH P md ops Q S fuel listed a' w)(hp:a=a':=by (first|(simp only[Act.put,sA,sZ,sS];done) | (simp only[Act.put,sA,sZ,sS];rfl) | rfl)):K a w:=by
 subst hp;exact hK _ _ hS h
theorem ah(i:Nat){listed:Array Bool}(h:∀K':Act->World->Prop,Shut (∀a w,S w->(S w->wpAnyH P md ops Q S fuel (listed.setIfInBounds i true) a w)->K' a w)->Oper.wp P o a w K' Q)(ho:ops.toList[i]?=some o:=by exact rfl)(hr:Region.ready md ops listed=[i]:=by kernel_rfl)(hw:Region.wanted o (yielded ops a.tmps)=true:=by rfl):wpAnyH P md ops Q S (fuel+1) listed a w:=AllReadyH.one ho hr hw h
theorem aq{listed:Array Bool}(h:Q .normal a w)(hr:Region.ready md ops listed=[]:=by kernel_rfl):wpAnyH P md ops Q S fuel listed a w:=wpAnyH_done hr h fuel
end
def dw(W:World)(b:Nat)(a v u:Value):World:=((W.setCell ⟨b,0,D⟩ a).setCell ⟨b,1,D⟩ v).setCell ⟨b,2,D⟩ u
theorem fK{b:Nat}{t:TypeId}{a u:Value}(hB:Blk W b t #[a,v,u]){e:TypeId}{size k:Nat}{y:Value}{xs:List Value}(hr:W.ownsRow base e size y k xs)(a' v' u':Value)(Kp:t≠e:=by decide):(dw W b a' v' u').ownsRow base e size y k xs:=by
 have r1:=hr.kept (ar _ b 0 a') (.inr (hB.not_row Kp hr).symm);have b1:=hB.set 0 a';have r2:=r1.kept (ar _ b 1 v') (.inr (b1.not_row Kp r1).symm);have b2:=b1.set 1 v';exact r2.kept (ar _ b 2 u') (.inr (b2.not_row Kp r2).symm)
theorem cZ(h:Ext w W){b:Nat}(c:w.heap.size<=b)(a v u:Value):Ext w (dw W b a v u):=
 P0 (p:=⟨b,2,D⟩) (P0 (p:=⟨b,1,D⟩) (P0 (p:=⟨b,0,D⟩) h c _) c _) c _
open Go.RowKit Go.Mv
structure Sta where
 idx:Int
 term:Int
 sum:Int
 lvl:Int
 fin:Bool
def Sta.ok(s:Sta):Bool:=
 if s.idx=0 then decide (s.term=0/\s.sum=0/\s.lvl=1/\s.fin=false)
 else(if s.fin=true then decide (s.lvl=2)else decide (s.lvl=1\/s.lvl=2))&&aB s.idx&&decide (0<s.term)&&aB s.term&&aB s.sum
def Sta.finI(s:Sta):Int:=if s.fin=true then 1 else 0
def Sta.ints(s:Sta):List Int:=[s.idx,s.term,s.sum,s.lvl,s.finI]
theorem Sta.okP{s:Sta}(h:s.ok=true):aB s.idx=true/\aB s.term=true/\aB s.sum=true/\(s.lvl=1\/s.lvl=2):=by
 unfold Sta.ok at h;split at h
 ·rename_i b;have:=of_decide_eq_true h;obtain⟨h1,h2,h3,h4⟩:=this;rw[b,h1,h2,h3];exact⟨by decide,by decide,by decide,.inl rfl⟩
 ·simp only[Bool.and_eq_true]at h;obtain⟨⟨⟨⟨h1,h2⟩,h3⟩,h4⟩,h5⟩:=h;refine⟨h2,h4,h5,?_⟩;split at h1
  ·exact .inr (of_decide_eq_true h1)
  ·exact of_decide_eq_true h1
theorem Sta.finP(s:Sta):s.finI=0\/s.finI=1:=by unfold Sta.finI;split<;>simp
theorem Sta.nums{s:Sta}(h:s.ok=true):aG s.ints=true:=by
 obtain⟨h1,h2,h3,h4⟩:=Sta.okP h;have h5:aB s.lvl=true:=by rcases h4 with e | e<;>rw[e]<;>decide
 have b:aB s.finI=true:=by rcases s.finP with e | e<;>rw[e]<;>decide
 simp[aG,Sta.ints,h1,h2,h3,h5,b]
def bA(z:Nat×Nat)(t:List UInt8):List UInt8:=
 if h:t=[]then[]else t.take 4++(aW (aD z (t.take 4))++bA (aD z (t.take 4)) (t.drop 4))
termination_by (O t)
decreasing_by
 have:0<O t:=P7.2 h;simp;omega
theorem mF(z:Nat×Nat):bA z []=[]:=by rw[bA];simp
theorem mh(z:Nat×Nat)(t:List UInt8)(h:0<O t):bA z t=t.take 4++(aW (aD z (t.take 4))++bA (aD z (t.take 4)) (t.drop 4)):=by
 rw[bA,dif_neg (λe=>by rw[e]at h;simp at h)]
theorem qm(z:Nat×Nat)(t:List UInt8):O (bA z t)=O t+(O t+3) / 4*4:=by
 generalize hn:O t=n;induction n using Pn generalizing z t with
 |_ n ih=>
  rcases Pm (O t)with h | h
  ·have:t=[]:=P2 h;subst this;rw[mF];simp at hn;subst hn;rfl
  ·have h1:=ih (t.drop 4).length (by simp;omega) (aD z (t.take 4)) (t.drop 4) rfl;rw[mh z t h,xL,xL,h1,iM,P9,P4];omega
def fF(b:List UInt8):List UInt8:=
 if h:b=[]then[]else(b.take 8).take (O (b.take 8)-4)++fF (b.drop 8)
termination_by (O b)
decreasing_by
 have:0<O b:=P7.2 h;simp;omega
theorem rE:fF []=[]:=by rw[fF];simp
theorem rq(b:List UInt8)(h:0<O b):fF b=(b.take 8).take (O (b.take 8)-4)++fF (b.drop 8):=by
 rw[fF,dif_neg (λe=>by rw[e]at h;simp at h)]
theorem LX(p:Nat×Nat):∃a b c d,aW p=[a,b,c,d]:=⟨_,_,_,_,rfl⟩
theorem Eb(z:Nat×Nat)(t X:List UInt8)(h:4<=O t):fF (bA z t++X)=t.take 4++fF (bA (aD z (t.take 4)) (t.drop 4)++X):=by
 have h4:O (t.take 4)=4:=by rw[P9];omega
 have h8:O (t.take 4++aW (aD z (t.take 4)))=8:=by rw[xL,h4,iM]
 have e:bA z t++X=(t.take 4++aW (aD z (t.take 4)))++(bA (aD z (t.take 4)) (t.drop 4)++X):=by
  rw[mh z t (by omega)];simp only[P8]
 rw[e,rq _ (by rw[xL,h8];omega),Pa h8,List.drop_left' h8,h8,show 8-4=4 from rfl,Pa h4]
theorem yU(z:Nat×Nat)(t:List UInt8):fF (bA z t)=t:=by
 generalize hn:O t=n;induction n using Pn generalizing z t with
 |_ n ih=>
  by_cases h4:4<=O t
  ·have h:=Eb z t [] h4;rw[P3,P3]at h;rw[h,ih (t.drop 4).length (by rw[P4];omega) _ (t.drop 4) rfl,List.take_append_drop]
  ·rcases Pm (O t)with h | h
   ·have:t=[]:=P2 h;subst this;rw[mF,rE]
   ·have b:t.take 4=t:=P6 (by omega);have hd:t.drop 4=[]:=P5 (by omega);rw[mh z t h,b,hd,mF,P3];have hl:O (t++aW (aD z t))=O t+4:=by rw[xL,iM]
    rw[rq _ (by omega),P6 (l:=t++aW (aD z t)) (i:=8) (by omega),hl,Nat.add_sub_cancel,Pb,P5 (by omega),rE,P3]
theorem C5{ops:Array Oper}{rest:List Oper}{Q:Exit->Act->World->Prop}(Ke:o.guard=none)(s x:Operand)(y:o.op=.call { callee:=.builtin .append,args:=#[s,x],argTypes:=#[42,42] })(base:Nat)(v:Value)(bs:List Ent)(hs:a.eval s=v)(H1:OwnE w base v bs)(vx:Value)(cs:List Ent)(hx:a.eval x=vx)(n:Es w vx cs)(e:0<O cs)(q:O bs+O cs<=2000000)(r:base<=w.heap.size)(h:∀A c w',OwnE w' base (C A (O bs+O cs) c) (bs++cs)->eP base w w'->w.grownBy w' v.ownBlock->((Value.slice A (O bs+O cs) c).ownBlock=v.ownBlock\/(Value.slice A (O bs+O cs) c).ownBlock=G w.heap.size)->wpList F ops Q rest (a.put o.dst (C A (O bs+O cs) c)) w'):wpList F ops Q (o::rest) a w:=by
 obtain⟨p,m,g,k,l⟩:=info_parts ic;obtain⟨q,w',f,h1,h2⟩:=ep (P:=F) w base 42 o.type 54 p _ 3 24 underlying42 m g k l rfl (by decide) v bs.length (ax bs) H1 vx cs.length (ax cs) n (ie _) (by unfold maxLen;omega) (by omega) r;have t:q.ownBlock=v.ownBlock\/q.ownBlock=G w.heap.size:=by
  obtain⟨hl,A,c,rfl,_,_,hc⟩:=n;obtain⟨b,d,rfl,n⟩:=hc e;have Kb:∀j,(⟨b,d,D⟩:Addr).add j=⟨b,d+j,D⟩:=by intro j;unfold Addr.add;split<;>simp_all
  exact mn (P:=F) w base 42 o.type 54 p _ 3 24 underlying42 m g k l v bs.length (ax bs) H1 ⟨b,d,D⟩ cs.length c (ax cs) hl e (λj u d=>by rw[Kb];exact n j u d) (ie _) (by unfold maxLen;omega) (by omega) f
 refine wpList_plain Ke λK d=>?_;unfold Oper.wp execOp;simp only[y,resolve,invoke,builtin,Sem.run_bind,Sem.run_pure,Result.andThen_ok,List.map_toArray,List.map_cons,List.map_nil,hs,hx,f];refine d _ _ ?_;obtain⟨A,c,rfl,_,_⟩:=xO (xW h1);refine h A c w' ?_ (λd d hb=>Ext.grownOwn d (ay H1 hb) h2) h2 t;unfold OwnE;rw[xL,show ax (bs++cs)=ax bs++ax cs from by simp[ax]];exact h1
