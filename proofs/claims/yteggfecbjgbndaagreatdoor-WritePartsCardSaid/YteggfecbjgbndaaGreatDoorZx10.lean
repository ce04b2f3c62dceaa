/- Merged -/
import Derived.Test.YteggfecbjgbndaaGreatDoorZx9
import Derived.Deep.QuietTactic
import Derived.BigQuiet
set_option linter.all false
set_option maxHeartbeats 8000000
set_option maxRecDepth 100000
open Go.Proofs.Tryz
open List renaming length->O
open Go.Value renaming int->B,slice->C,pointer->L,agg->M
open Option renaming none->D,some->G
open Go.IntKind renaming i64->E,u8->H
open Go.Proofs.Tryz renaming prog->F
open Go.Obj renaming cells->I
open Go.Mv renaming aN->J
open Go.RowKit.Below renaming setCell->P0,grown->P1
open Go.Region renaming ready->P2,wanted->P3,noSelect->P4,free->P5
open Go.World renaming cell?_setCell_other->P6,ownsRow_nil->P7,block_lt_of_cell?->P8,setCell->P9
open Go.Act renaming put->Pa,eval->Pb
open List renaming eq_nil_of_length_eq_zero->Pc,length_drop->Pd,length_nil->Pe
namespace Go.Proofs.YteggfecbjgbndaaGreatDoor
open Go.RowKit Go.Mv Go.Shelf
variable {a a':Act} {base first fuel i:Nat} {o oi:Oper} {P:Prop} {v:Value} {W w:World}
theorem mcLooka0(h:P:=by
 refine nI (i:=3) (v:=C Aa (log.length+es.length) ca) (w':=wa) rfl (by kernel_rfl) rfl rfl (nK _ _ _ rfl) (nH (v:=C Av log.length cv) (vx:=C A2 es.length K4) (.tmp 85) (.tmp 86) 42 rfl (by simp[Pb,Pa]) (by simp[Pb,Pa]) HN) ?_;refine bT 14 ?_;refine iG 15 ?_;refine bT 16 ?_;refine iG 17 ?_;refine bT 18 ?_;refine bT 19 ?_;refine wpAnyIn_done (by kernel_rfl) (eV ?_) _;simp only[Pa,sA,sZ,sS];rw[Ke.out];gi_wp2;refine wpIn_goto ?_;try simp only[Exit.then]
 exact bI (h:=by simp) ⟨HE.out _ rfl rfl rfl rfl rfl,by simp[qV];omega⟩):P:=h
theorem mcLooka1(h:P:=by
 gi_wp2_with (refine⟨trivial,?_⟩;gi_at_call 148;refine(callsIn_wd.2 (HT.out _ _ (HD.out _ Hp))).mono ?_;rintro e w1⟨v1,rfl,Hg,H3⟩;have Hj:=HO.ext H3;obtain⟨c0,c1,c2,f0,f1,f2⟩:=au Hj)
 refine bJ ?_;exact bodyPost_ret (lq _ _ _ _ _ _ _ _ rfl rfl rfl (bV Hj _ _ _)) rfl (iT (iH HA) (P0 (p:=⟨w.heap.size,2,D⟩) (P0 (p:=⟨w.heap.size,1,D⟩) (P0 (p:=⟨w.heap.size,0,D⟩) (xT Hp H3) (xN _) _) (xN _) _) (xN _) _))):P:=h
theorem mcLooka2(h:P:=by
 gi_wp2_with (refine⟨trivial,?_⟩;gi_at_call 371;refine(callsIn_wd.2 HT).mono ?_;rintro e w2⟨v2,rfl,Ko,Hq⟩;have K7:=K6.ext Hq;obtain⟨c0,c1,c2,f0,f1,f2⟩:=au K7)
 refine bJ ?_;exact bodyPost_ret (lq _ _ _ _ _ _ _ _ rfl rfl rfl (bV K7 _ _ _)) rfl (yJ Hu HI.out.pt K7 (ai HI.out.row Hq) HI.out.lo (xT HI.out.ext Hq) Hn HI.out.out)):P:=h
def LookP(w:World)(r:zgM)(e:Ending)(w':World):Prop:=
 ∃b c,e=.returned (.tuple #[M #[B E r.first,b,B E r.used],c,B E r.err])/\w'.ownsRow w.heap.size 54 3 b r.log.length (ax r.log)/\PtV c r.pt/\Ext w w'
structure LkI (w w1:World) (bs:List UInt8) (first z1 z2:Nat) (q:Nat×Nat) (log:List Ent) (H0:Value) (Ar:Option Addr) (cr:Nat) (rest:List UInt8) (g:Array Value) (W:World):Prop where
 pt:PtV (.complex .f64 z1 z2) q
 box:Blk W w.heap.size 90 #[B E first,H0,B E (bs.length-rest.length:Nat)]
 four:Blk W (w.heap.size+1) 188 g
 gsz:g.size=4
 row:W.ownsRow w1.heap.size 54 3 H0 log.length (ax log)
 rst:Bs w1 (C Ar rest.length cr) rest
 apart:∀ b He,Ar=G ⟨b,He,D⟩->0<rest.length->b≠w.heap.size/\b≠w.heap.size+1
 hold:∀ p u,p.block≠w.heap.size->p.block≠w.heap.size+1->w1.cell? p=G u->W.cell? p=G u
 ext:Ext w W
 sz:w1.heap.size<=W.heap.size
 lo:w.heap.size+1<w1.heap.size
 le:log.length+rest.length<=bs.length
 out:cz bs=⟨0,first,log++(bZ q rest).1,bs.length-(bZ q rest).2.2.length,(bZ q rest).2.1⟩
def LkR(w b:World)(bs:List UInt8)(first:Nat)(a:Act)(W:World):Prop:=
 ∃(z1 z2:Nat) (q:Nat×Nat) (log:List Ent) (H0:Value) (Ar:Option Addr) (cr:Nat) (rest:List UInt8) (g:Array Value),LkI w b bs first z1 z2 q log H0 Ar cr rest g W/\a.defers=[]/\a.tmps.size=100 /\
  a.tmps.getD 2 undef=L (G ⟨w.heap.size,0,D⟩)/\a.tmps.getD 3 undef=.complex .f64 z1 z2/\a.tmps.getD 5 undef=L (G ⟨w.heap.size+1,0,D⟩)/\a.tmps.getD 8 undef=C Ar rest.length cr
theorem lq(tmps:Array Value)(W:World)(N:Nat)(a v u c b:Value)(h2:tmps.getD 2 undef=L (G ⟨N,0,D⟩))(h3:tmps.getD 3 undef=c)(h4:tmps.getD 4 undef=b)(hb:Blk W N 90 #[a,v,u]):
  (results Tryz.f365 tmps).run F W=.ok (.tuple #[M #[a,v,u],c,b]) W:=by
 obtain⟨b,c,d,_⟩:=au hb;simp only[Array.getD_eq_getD_getElem?]at h2 h3 h4;simp[results,results365,go_sem,h2,h3,h4,b,c,d]
theorem iH{bs:List UInt8}(h:cV bs=none):cz bs=⟨11,0,[],0,(0,0)⟩:=by unfold cz;rw[h]
theorem zP{bs:List UInt8}{first:Nat}{r:List UInt8}(h:cV bs=G (first,r)):cz bs=⟨0,first,[]++(bZ (aD (0,0) (cK (first:Int)).2) r).1,O bs-O (bZ (aD (0,0) (cK (first:Int)).2) r).2.2,(bZ (aD (0,0) (cK (first:Int)).2) r).2.1⟩:=by unfold cz;rw[h];rfl
theorem iT{r:zgM}(h:r=⟨11,0,[],0,(0,0)⟩)(b:Ext w W):LookP w r (.returned (.tuple #[M #[B E 0,C none 0 0,B E 0],.complex .f64 0 0,B E 11])) W:=by
 subst h;exact⟨_,_,rfl,P7 _ _ _ _,PtV.zero,b⟩
theorem tZ(es:List Ent):1+O es<=O (bp es):=by
 have h:O es<=O (es.flatMap dv):=by
  induction es with
  |nil=>exact xN _
  |cons e es ih=>
   have h1:=ra [e.t,e.k,e.v];have h2:3<=O (dv e):=h1;rw[List.flatMap_cons,xL,xC];omega
 unfold bp;rw[xC];omega
theorem ie(es:List Ent):∀u∈ax es,u.oneCell'=true:=by
 intro u b;obtain⟨e,_,h⟩:=List.mem_flatMap.1 b;simp[Ent.cells]at h;rcases h with rfl | rfl | rfl<;>rfl
theorem LA(q:Nat×Nat)(rest:List UInt8):(fP rest=([],0)/\bX q rest=none)\/∃es r,fh es=true/\fP rest=(es,O (bp es))/\rest=bp es++r /\
  bX q rest=(if 4<=O r/\r.take 4=aW (aD q (bp es))then some (es,r.drop 4)else none):=by
 cases h:dO rest with
 |none=>exact .inl ⟨by unfold fP;rw[h],by unfold bX;rw[h]⟩
 |some x=>
  obtain⟨es,r⟩:=x;obtain⟨h1,h2⟩:=rj h;refine .inr ⟨es,r,h1,?_,h2,by unfold bX;rw[h]⟩;unfold fP;rw[h,h2];simp
theorem yJ{e:World}{bs:List UInt8}{z1 z2 c:Nat}{q:Nat×Nat}{b:List Ent}{H0:Value}{rest:List UInt8}(h:O bs-O rest=c)(f:PtV (.complex .f64 z1 z2) q)(hb:Blk W w.heap.size 90 #[B E first,H0,B E c])(d:W.ownsRow e.heap.size 54 3 H0 b.length (ax b))(g:w.heap.size+1<e.heap.size)(g:Ext w W)(hn:bX q rest=none)(e:cz bs=⟨0,first,b++(bZ q rest).1,O bs-O (bZ q rest).2.2,(bZ q rest).2.1⟩):
  LookP w (cz bs) (.returned (.tuple #[M #[B E first,H0,B E c],.complex .f64 z1 z2,B E 0]))
   (((W.setCell ⟨w.heap.size,0,D⟩ (B E first)).setCell ⟨w.heap.size,1,D⟩ H0).setCell ⟨w.heap.size,2,D⟩ (B E c)):=by
 rw[e,zi hn];refine⟨_,_,by dsimp only;rw[h],?_,f,P0 (p:=⟨w.heap.size,2,D⟩) (P0 (p:=⟨w.heap.size,1,D⟩) (P0 (p:=⟨w.heap.size,0,D⟩) g (xN _) _) (xN _) _) (xN _) _⟩;dsimp only;rw[List.append_nil];have c:=d.kept (ar W w.heap.size 0 (B E first)) (.inr (hb.not_row (by decide) d).symm);have b:=hb.set 0 (B E first);have d:=c.kept (ar _ w.heap.size 1 H0) (.inr (b.not_row (by decide) c).symm);have c:=b.set 1 H0;exact ay (d.kept (ar _ w.heap.size 2 _) (.inr (c.not_row (by decide) d).symm)) (by omega)
theorem LookP.drew{r:zgM}{e:Ending}(h:LookP w r e W):LookP w r e W.drew:=by
 obtain⟨f,g,he,d,c,b⟩:=h;exact⟨f,g,he,d,c,b.drew⟩
theorem LkI.restW{l:World}{bs:List UInt8}{z1 z2:Nat}{q:Nat×Nat}{d:List Ent}{H0:Value}{f:Option Addr}{j:Nat}{rest:List UInt8}{g:Array Value}(hI:LkI w l bs first z1 z2 q d H0 f j rest g W):
  Bs W (C f rest.length j) rest:=by
 rcases Nat.eq_zero_or_pos (O rest)with c | c
 ·obtain rfl:rest=[]:=Pc c;obtain⟨_,_,_,e,_,h,_⟩:=hI.rst;cases e;exact SlR.empty W 1 h
 ·obtain⟨_,b,k,rfl,_⟩:=Bs.at_ hI.rst c;have d:=hI.apart b k rfl c;exact SlR.keepB hI.rst (λo u hc=>hI.hold _ _ d.1 d.2 hc)
theorem NP(v:Value)(bs:List UInt8)(w:World)(H5:Bs w v bs)(hl:bs.length<=2000000):Calls F 365 #[v] w (LookP w (cz bs)):=by
 obtain⟨A,c,rfl,h1,h2⟩:=xO H5;refine(callsIn_wd (ro:=none) (n:=9)).1 ?_;refine callsIn_of_wp func365 rfl trivial ?_ rfl;simp only[ntmps365,List.size_toArray,xC,Pe,Nat.reduceAdd,Nat.reduceSub,Array.replicate_succ,Array.replicate_zero,List.push_toArray,List.append_toArray,xI,List.cons_append];have Hp:Ext w ((w.alloc (I #[B E 0,C none 0 0,B E 0] 90)).alloc (I #[B H 0,B H 0,B H 0,B H 0] 188)):=xA (xA (xR _) _) _;have HO:Blk ((w.alloc (I #[B E 0,C none 0 0,B E 0] 90)).alloc (I #[B H 0,B H 0,B H 0,B H 0] 188)) w.heap.size 90 #[B E 0,C none 0 0,B E 0]:=(Blk.new w _ _).alloc _;have J1:Blk ((w.alloc (I #[B E 0,C none 0 0,B E 0] 90)).alloc (I #[B H 0,B H 0,B H 0,B H 0] 188)) (w.heap.size+1) 188 #[B H 0,B H 0,B H 0,B H 0]:=by
  have:=Blk.new (w.alloc (I #[B E 0,C none 0 0,B E 0] 90)) 188 #[B H 0,B H 0,B H 0,B H 0];rwa[xS]at this
 gi_wp2;refine eU 0 (λa W=>∃w1 first,LkR w w1 bs first a W) (λa _=>qV (a.tmps.getD 8 undef)) rfl (λl' h=>by cases l'<;>first | exact absurd rfl h | rfl) ?_ ?_
 ·intro Ho;have HM:=J Ho;clear Ho;by_cases h0:bs.length=0
  ·obtain rfl:bs=[]:=Pc h0;gi_wp2;refine bJ ?_;exact bodyPost_ret (lq _ _ _ _ _ _ _ _ rfl rfl rfl HO) rfl (iT (iH rfl) Hp)
  obtain⟨_,b,He,rfl,hc⟩:=Bs.at_ H5 (by omega);have KI:w.cell? ⟨b,He,D⟩=G (B H (bs[0].toNat:Int)):=hc 0 (by omega);obtain⟨x,l,rfl⟩:∃x l,bs=x::l:=by cases bs with | nil=>exact absurd rfl h0 | cons x l=>exact⟨x,l,rfl⟩
  simp only[List.getElem_cons_zero]at KI;have Jc:b<w.heap.size:=P8 w _ KI;have K3:=J H5;have e0:((l.length:Int)+1==0)=false:=by simp;omega
  clear hc H5 h0;simp only[xC]at *;by_cases hx:x.toNat=2
  ·have KT:x=2:=UInt8.toNat_inj.1 (by simpa using hx);subst KT;have HT:Hid (∀(W:World) (u:Value),Bs W u l->Calls F 148 #[u] W (iB W (aJ l))):=λW u hu=>AS u l W hu (by omega);have O:Hid (cV (2::l)=if(aJ l).1=0/\(aJ l).2.1≠0 then some (aJ l).2 else none):=by show _=_;rw[cV];simp
   have Ks:=oA l;have Hz:Hid (l=[]->(aJ l).1≠0):=by rintro rfl;decide
   rcases htk:aJ l with⟨er,m,r⟩
   rw[htk]at HT O Ks Hz;dsimp only at O Ks Hz;clear htk hx;have HD:Hid (∀W:World,Ext w W->Bs W (C (G ⟨b,He+1,D⟩) l.length (c-1)) l):=by
    intro W hE;have h:=Bs.cut (K3.out.ext hE) 1 (by simp) rfl;simpa using h
   by_cases hc1:c=1
   ·obtain rfl:l=[]:=Pc (by omega);have e6:(er != 0)=true:=by simpa using Hz.out rfl
    have KV:=J (Hz.out rfl);subst hc1;gi_wp2_with (refine⟨trivial,?_⟩;gi_at_call 148;refine(callsIn_wd.2 (HT.out _ _ (SlR.empty _ 1 (by simp)))).mono ?_;rintro e w1⟨v1,rfl,Hg,H3⟩;have Hj:=HO.ext H3;obtain⟨c0,c1,c2,f0,f1,f2⟩:=au Hj)
    refine bJ ?_;refine bodyPost_ret (lq _ _ _ _ _ _ _ _ rfl rfl rfl (bV Hj _ _ _)) rfl (iT (iH ?_) (P0 (p:=⟨w.heap.size,2,D⟩) (P0 (p:=⟨w.heap.size,1,D⟩) (P0 (p:=⟨w.heap.size,0,D⟩) (xT Hp H3) (xN _) _) (xN _) _) (xN _) _));rw[O.out,if_neg (λh=>KV.out h.1)]
   by_cases s:er=0/\m≠0
   ·obtain⟨rfl,hm⟩:=s;have e6:((m:Int)==0)=false:=by simp;omega
    have Ku:((l.length:Int)+1-(r.length:Int))=((l.length+1-r.length:Nat):Int):=by omega
    have HA:Hid (cV (2::l)=G (m,r)):=by show _=_;rw[O.out,if_pos ⟨rfl,hm⟩]
    obtain⟨k,hk⟩:∃k,l.length+1-r.length=k:=⟨_,rfl⟩;have Jw:k<=l.length+1:=by omega
    rw[hk]at Ku;have Hk:=J hk;clear hk;have KW:Hid ((2::l).take k=(cK (m:Int)).2):=by
     have:=(zN HA).2;simp only[xC]at this;rw[Hk.out]at this;exact this
    have Jv:=L3 (m:Int);clear hm O Hz;gi_wp2_with (first
     |(refine⟨trivial,?_⟩;gi_at_call 148;refine(callsIn_wd.2 (HT.out _ _ (HD.out _ Hp))).mono ?_;rintro e w1⟨v1,rfl,Hg,H3⟩;have Hj:=HO.ext H3;have J2:=J1.ext H3;obtain⟨c0,c1,c2,f0,f1,f2⟩:=au Hj;obtain⟨Ar,y,rfl,_,_⟩:=xO (xW Hg))
     | (refine⟨trivial,?_⟩;gi_at_call 297
        have KC:Ext w ((w1.setCell ⟨w.heap.size,0,D⟩ (B E m)).setCell ⟨w.heap.size,2,D⟩ (B E k)):=P0 (p:=⟨w.heap.size,2,D⟩) (P0 (p:=⟨w.heap.size,0,D⟩) (xT Hp H3) (xN _) _) (xN _) _;have HX:((w1.setCell ⟨w.heap.size,0,D⟩ (B E m)).setCell ⟨w.heap.size,2,D⟩ (B E k)).heap.size=w1.heap.size:=by simp[P9]
        have KF:=Bs.take (K3.out.ext KC) k (by simp;omega);rw[KW.out]at KF;have Y:=lU KF;rw[HX]at Y;refine(callsIn_wd.2 (FK _ _ _ Y)).mono ?_;rintro e w3⟨vz,rfl,V,K9⟩;rw[show[(cK (m:Int)).2].flatten=(cK (m:Int)).2 from by simp]at V;have Kf:=J V;obtain⟨z1,z2,rfl,_,_⟩:=V))
    refine wpIn_label ?_;gi_step;gi_step;have R:Ext ((w1.setCell ⟨w.heap.size,0,D⟩ (B E m)).setCell ⟨w.heap.size,2,D⟩ (B E k)) w3:=xT (xA (xR _) _) K9;refine HM.out _ _ ⟨w1,m,z1,z2,aD (0,0) (cK (m:Int)).2,[],C none 0 0,Ar,y,r,_,⟨Kf.out,?_,((J2.other (by omega) 0 _).other (by omega) 2 _).ext R,rfl,P7 _ _ _ _,xW Hg,?_,?_,xT KC R,by rw[<-HX];exact R.size,?_,by simp;omega,zP HA⟩,rfl,rfl,rfl,rfl,rfl,rfl⟩
    ·have:=((Hj.set 0 (B E m)).set 2 (B E k)).ext R;rw[xC,Hk.out];exact this
    ·intro b' Jq e Y;subst e;have:=(Hg.lt b' rfl).1;simp at this;omega
    ·intro p u Hx Kq hc;have h1:=(P6 w1 ⟨w.heap.size,0,D⟩ p (B E m) (λe=>Hx (by rw[<-e]))).trans hc;exact R.cell ((P6 _ ⟨w.heap.size,2,D⟩ p (B E k) (λe=>Hx (by rw[<-e]))).trans h1)
    have:=H3.size;simp at this;omega
   by_cases her:er=0
   ·subst her;have hm:m=0:=Decidable.byContradiction (λh=>s ⟨rfl,h⟩);subst hm;have HA:Hid (cV (2::l)=none):=by show _=_;rw[O.out,if_neg s]
    clear s O;exact mcLooka1
   have e6:(er != 0)=true:=by simpa using her
   have HA:Hid (cV (2::l)=none):=by show _=_;rw[O.out,if_neg s]
   clear s O her;exact mcLooka1
  have e1:((x.toNat:Int) != 2)=true:=by simp;omega
  gi_wp2;refine bJ ?_;exact bodyPost_ret (lq _ _ _ _ _ _ _ _ rfl rfl rfl HO) rfl (iT (iH (by rw[cV,if_neg (λh=>hx (by rw[h.1];rfl))])) Hp)
 ·rintro a W⟨w1,first,hR⟩;obtain⟨z1,z2,q,log,H0,Ar,y,rest,g,hI,K,Kv,h2,h3,h5,h8⟩:=hR;obtain⟨T,ds⟩:=a;dsimp only at K Kv h2 h3 h5 h8;subst K;have hT:=fM 100 T Kv;generalize hU:(λi=>T.getD i undef)=U at hT;have g2:U 2=L (G ⟨w.heap.size,0,D⟩):=by rw[<-hU];exact h2
  have g3:U 3=.complex .f64 z1 z2:=by rw[<-hU];exact h3
  have g5:U 5=L (G ⟨w.heap.size+1,0,D⟩):=by rw[<-hU];exact h5
  have g8:U 8=C Ar rest.length y:=by rw[<-hU];exact h8
  have Kk:T = #[U 0,U 1,L (G ⟨w.heap.size,0,D⟩),.complex .f64 z1 z2,U 4,L (G ⟨w.heap.size+1,0,D⟩),U 6,U 7,C Ar rest.length y,U 9,U 10,U 11,U 12,U 13,U 14,U 15,U 16,U 17,U 18,U 19,U 20,U 21,U 22,U 23,U 24,U 25,U 26,U 27,U 28,U 29,U 30,U 31,U 32,U 33,U 34,U 35,U 36,U 37,U 38,U 39,U 40,U 41,U 42,U 43,U 44,U 45,U 46,U 47,U 48,U 49,U 50,U 51,U 52,U 53,U 54,U 55,U 56,U 57,U 58,U 59,U 60,U 61,U 62,U 63,U 64,U 65,U 66,U 67,U 68,U 69,U 70,U 71,U 72,U 73,U 74,U 75,U 76,U 77,U 78,U 79,U 80,U 81,U 82,U 83,U 84,U 85,U 86,U 87,U 88,U 89,U 90,U 91,U 92,U 93,U 94,U 95,U 96,U 97,U 98,U 99]:=by rw[hT];show(#[U 0,U 1,U 2,U 3,U 4,U 5,U 6,U 7,U 8,U 9,U 10,U 11,U 12,U 13,U 14,U 15,U 16,U 17,U 18,U 19,U 20,U 21,U 22,U 23,U 24,U 25,U 26,U 27,U 28,U 29,U 30,U 31,U 32,U 33,U 34,U 35,U 36,U 37,U 38,U 39,U 40,U 41,U 42,U 43,U 44,U 45,U 46,U 47,U 48,U 49,U 50,U 51,U 52,U 53,U 54,U 55,U 56,U 57,U 58,U 59,U 60,U 61,U 62,U 63,U 64,U 65,U 66,U 67,U 68,U 69,U 70,U 71,U 72,U 73,U 74,U 75,U 76,U 77,U 78,U 79,U 80,U 81,U 82,U 83,U 84,U 85,U 86,U 87,U 88,U 89,U 90,U 91,U 92,U 93,U 94,U 95,U 96,U 97,U 98,U 99]:Array Value)=_;rw[g2,g3,g5,g8]
  clear hT hU Kv g2 h2 g3 h3 g5 h5 g8 h8;subst Kk;obtain⟨Av,cv,rfl,_,_⟩:=xO (xW hI.row);have HI:=J hI;have Hy:=hI.restW;have K6:=hI.box;have Ks:rest.length<=2000000:=by have:=hI.le;omega
  obtain⟨t,Ky⟩:∃t,bs.length-rest.length=t:=⟨_,rfl⟩;rw[Ky]at K6;have JA:t<=2000000:=by omega
  have KO:log.length<=2000000:=by have:=hI.le;omega
  have Hu:=J Ky;clear Ky;obtain⟨KJ,KK⟩:rest.length<=y/\y<=9223372036854775807:=by
   obtain⟨_,_,_,e,h,h',_⟩:=hI.rst;cases e;exact⟨h,by simpa[maxLen]using h'⟩
  have HT:=J (MN _ rest W Hy (by omega));rcases LA q rest with⟨ht,hn⟩|⟨es,r,hok,ht,N,hn⟩
  ·rw[ht]at HT;have Hn:=J hn;clear hI hn ht Hy;exact mcLooka2
  ·rw[ht]at HT;have KH:=tZ es;obtain⟨body,H7⟩:∃body,bp es=body:=⟨_,rfl⟩;rw[H7]at N hn KH HT;have Hc:=congrArg List.length N;rw[xL]at Hc;have Ki:=J N;have Jd:es.length<=4:=by have:=(lw es).1 hok;omega
   obtain⟨d,Kc⟩:∃d,body.length=d:=⟨_,rfl⟩;rw[Kc]at HT KH Hc;have HJ:=J Kc;have HB:=J H7;have Jf:0<d:=by omega
   have e6:((d:Int)==0)=false:=by simp;omega
   have HG:=J Hc;have KL:d+r.length<=y:=by omega
   have KM:d+r.length<=2000000:=by omega
   by_cases h4:r.length<4
   ·have Hn:Hid (bX q rest=none):=by show _=_;rw[hn,if_neg (by omega)]
    have KY:rest.length<d+4:=by omega
    clear hI hn ht Hy Hc N Kc H7;exact mcLooka2
   ·have KY:d+4<=rest.length:=by omega
    have Kg:Hid (∀W',Ext W W'->Bs W' (C Ar d y) body):=by
     intro W' hE;have:=Bs.take (Bs.ext Hy hE) d (by omega);rwa[Ki.out,<-HJ.out,List.take_left,HJ.out]at this
    obtain⟨X,H4,KZ⟩:∃X H4,Ar=G ⟨X,H4,D⟩:=by obtain⟨_,X,H4,e,_⟩:=Bs.at_ Hy (by omega);exact⟨X,H4,e⟩
    subst KZ;have J3:=hI.four;obtain⟨g0,g1,g2,g3,rfl⟩:∃g0 g1 g2 g3,g = #[g0,g1,g2,g3]:=by
     have:=hI.gsz;obtain⟨l⟩:=g;match l,this with
     |[g0,g1,g2,g3],_=>exact⟨g0,g1,g2,g3,rfl⟩
    clear hI ht Hy Hc N Kc H7;gi_wp2_with (first
     |(refine⟨trivial,?_⟩;gi_at_call 371;refine(callsIn_wd.2 HT).mono ?_;rintro e w2⟨v2,rfl,Ko,Hq⟩;have K7:=K6.ext Hq;obtain⟨A2,K4,rfl,_,_⟩:=xO (xW Ko))
     | (refine⟨trivial,?_⟩;gi_at_call 297
        have Y:=lU (Kg.out w2 Hq);refine(callsIn_wd.2 (qI z1 z2 _ _ _ Y)).mono ?_;rintro e w3⟨vz,rfl,V,K9⟩;rw[show[body].flatten=body from by simp,HI.out.pt.pt]at V;have Kf:=J V;have Kd:=V.pt;obtain⟨a1,b1,rfl,_,_⟩:=V;obtain⟨f0,f1,f2,z,hf⟩:∃f0 f1 f2 z:UInt8,aW (aD q body)=[f0,f1,f2,z]:=⟨_,_,_,_,rfl⟩;have HF:Hid (∀W,Calls F 298 #[.complex .f64 a1 b1] W λe w'=>e=.returned (M #[B H f0.toNat,B H f1.toNat,B H f2.toNat,B H z.toNat])/\Ext W w'):=by
         intro W;refine(AJ a1 b1 W).mono ?_;rintro e w' ⟨rfl,hE⟩;exact⟨by rw[Kd,hf];rfl,hE⟩
        have Hf:=J hf;clear hf Kd)
     | (refine⟨trivial,?_⟩;gi_at_call 298;refine(callsIn_wd.2 (HF.out _)).mono ?_;rintro e w4⟨rfl,R⟩
        have Z:Ext W w4:=xT (xT (xA Hq _) K9) R;have J0:=K6.ext Z;have Ka:=J3.ext Z;obtain⟨c0,c1,c2,c3,d0,d1,d2,d3⟩:=blk4 Ka))
    have Hw:w4.grownBy ((((w4.setCell ⟨w.heap.size+1,0,D⟩ (B H f0.toNat)).setCell ⟨w.heap.size+1,1,D⟩ (B H f1.toNat)).setCell ⟨w.heap.size+1,2,D⟩ (B H f2.toNat)).setCell ⟨w.heap.size+1,3,D⟩ (B H z.toNat)) (some (w.heap.size+1)):=
     pK (pK (pK (ar _ _ _ _) (ar _ _ _ _)) (ar _ _ _ _)) (ar _ _ _ _)
    have Kj:Blk ((((w4.setCell ⟨w.heap.size+1,0,D⟩ (B H f0.toNat)).setCell ⟨w.heap.size+1,1,D⟩ (B H f1.toNat)).setCell ⟨w.heap.size+1,2,D⟩ (B H f2.toNat)).setCell ⟨w.heap.size+1,3,D⟩ (B H z.toNat)) (w.heap.size+1) 188 ([f0,f1,f2,z].map bv).toArray:=
     (((Ka.set 0 (B H f0.toNat)).set 1 (B H f1.toNat)).set 2 (B H f2.toNat)).set 3 (B H z.toNat)
    generalize(((w4.setCell ⟨w.heap.size+1,0,D⟩ (B H f0.toNat)).setCell ⟨w.heap.size+1,1,D⟩ (B H f1.toNat)).setCell ⟨w.heap.size+1,2,D⟩ (B H f2.toNat)).setCell ⟨w.heap.size+1,3,D⟩ (B H z.toNat)=W5 at *;have Hv:Blk W5 w.heap.size 90 #[B E first,C Av log.length cv,B E t]:=J0.kept Hw (by simp);have KE:=HI.out.apart X H4 rfl (by omega);have Hi:Hid (∀p u,p.block≠w.heap.size+1->W.cell? p=G u->W5.cell? p=G u):=λp u Y hc=>cg Hw (Z.cell hc) (λe=>Y (by injection e));have HP:Ext w W5:=P1 (xT HI.out.ext Z) Hw (by have:=HI.out.ext.size;have:=Z.size;omega) (λk e=>by injection e with e;omega);have Kw:W.heap.size<=W5.heap.size:=Nat.le_trans Z.size Hw.size;have H1:W5.ownsRow w1.heap.size 54 3 (C Av log.length cv) log.length (ax log):=by
     have h:=ai HI.out.row Z;exact h.kept Hw (.inr (Ka.not_row (by decide) h).symm)
    have Kt:W5.ownsRow W.heap.size 54 3 (C A2 es.length K4) es.length (ax es):=by
     have h:=ai Ko (xT (xT (xA (xR _) _) K9) R);exact h.kept Hw (.inr (Ka.not_row (by decide) h).symm)
    have Kr:Bs W5 (C (G ⟨X,H4+d,D⟩) 4 (y-d)) (r.take 4):=by
     have h1:=Bs.cut HI.out.restW d (by omega) rfl;have h2:=Bs.take h1 4 (by rw[Pd];omega);rw[Ki.out,<-HJ.out,List.drop_left,HJ.out]at h2;exact SlR.keepB h2 (λo u hc=>Hi.out _ _ KE.2 hc)
    have Kl:Bs W5 (C (G ⟨w.heap.size+1,0,D⟩) 4 4) [f0,f1,f2,z]:=fZ Kj rfl (by simp[maxLen]);have HQ:=J (fI _ _ _ _ W5.drew Kl Kr);have Jh:IntKind.i64.wrap ((d:Int)+4)=(d:Int)+4:=IntWalk.i64_in _ (by omega);have Ji:((d:Int)+4).toNat=d+4:=by omega
    have Jj:(0:Int)<=(d:Int):=by omega
    have Jk:(d:Int)<=(d:Int)+4:=by omega
    have Jl:(d:Int)+4<=(rest.length:Int):=by omega
    have Jm:¬y=d:=by omega
    have Jn:(d:Int)+4<=(y:Int):=by omega
    have Jo:d+4-d=4:=by omega
    have Jp:(0:Int)<=(d:Int)+4:=by omega
    cases K:decide ([f0,f1,f2,z]=r.take 4)
    ·rw[K]at HQ;have Hn:Hid (bX q rest=none):=by
      show _=_;rw[hn,if_neg];rintro⟨_,h⟩;rw[Hf.out]at h;simp only[decide_eq_false_iff_not]at K;exact K h.symm
     clear K hn Kr Kl c0 c1 c2 c3 d0 d1 d2 d3;refine mc (hm:=by kernel_rfl) ?_;refine aC 0 ?_;refine aC 1 ?_;refine aC 2 ?_;refine aC 3 ?_;refine aC 4 ?_;refine aC 5 ?_;refine lv (i:=6) (f:=81) (args:=?b8) (w':=?w8) (by kernel_rfl) rfl rfl ?h8 ?r8
     case h8=>go_simp;try(first|with_reducible rfl | (refine⟨?_,?_⟩<;>with_reducible rfl))
     refine HQ.out.mono ?_;rintro e w6⟨rfl,rfl⟩;refine⟨_,rfl,?_⟩;refine bT 7 ?_;refine wpAnyIn_done (by kernel_rfl) (eV ?_) _;simp only[Pa,sA,sZ,sS];obtain⟨c0,c1,c2,d0,d1,d2⟩:=au Hv;clear Jh Ji Jj Jk Jl Jm Jn Jo Jp;gi_wp2;refine bJ ?_;exact bodyPost_ret (lq _ _ _ _ _ _ _ _ rfl rfl rfl (bV Hv _ _ _)) rfl (LookP.drew (yJ Hu HI.out.pt Hv H1 HI.out.lo HP Hn HI.out.out))
    ·rw[K]at HQ;have Hn:Hid (bX q rest=G (es,r.drop 4)):=by
      show _=_;rw[hn,if_pos];simp only[decide_eq_true_eq]at K;exact⟨by omega,by rw[Hf.out,K]⟩
     clear K hn Kr Kl c0 c1 c2 c3 d0 d1 d2 d3;refine mc (hm:=by kernel_rfl) ?_;refine aC 0 ?_;refine aC 1 ?_;refine aC 2 ?_;refine aC 3 ?_;refine aC 4 ?_;refine aC 5 ?_;refine lv (i:=6) (f:=81) (args:=?b17) (w':=?w17) (by kernel_rfl) rfl rfl ?h17 ?r17
     case h17=>go_simp;try(first|with_reducible rfl | (refine⟨?_,?_⟩<;>with_reducible rfl))
     refine HQ.out.mono ?_;rintro e w6⟨rfl,rfl⟩;refine⟨_,rfl,?_⟩;refine bT 7 ?_;refine wpAnyIn_done (by kernel_rfl) (eV ?_) _;simp only[Pa,sA,sZ,sS];gi_wp2;obtain⟨c0,c1,c2,d0,d1,d2⟩:=au Hv;have JB:IntKind.i64.wrap ((t:Int)+(d:Int))=(t:Int)+(d:Int):=IntWalk.i64_in _ (by omega);have KT:IntKind.i64.wrap ((t:Int)+(d:Int)+4)=(t:Int)+(d:Int)+4:=IntWalk.i64_in _ (by omega);obtain⟨i0,hi,K0,K1,K2⟩:=info_parts ic;have Jb:w1.heap.size<=W5.heap.size:=Nat.le_trans HI.out.sz Kw;obtain⟨va,wa,HW,H2,H8⟩:=ep (P:=F) W5.drew.drew w1.heap.size 42 42 54 i0 _ 3 24 underlying42 hi K0 K1 K2 rfl (by decide)
      (C Av log.length cv) log.length (ax log) H1 (C A2 es.length K4) es.length (ax es) (xW Kt) (ie es) (by unfold maxLen;omega) (by omega) Jb
     obtain⟨Aa,ca,rfl,_,_⟩:=xO (xW H2);have HN:=J HW;have HK:=J H2;have H9:=J H8;have K8:Blk wa w.heap.size 90 #[B E first,C Av log.length cv,B E t]:=Blk.kept (W:=W5.drew.drew) Hv H8 (Hv.not_row (by decide) H1);have J4:Blk wa (w.heap.size+1) 188 ([f0,f1,f2,z].map bv).toArray:=Blk.kept (W:=W5.drew.drew) Kj H8 (Kj.not_row (by decide) H1);obtain⟨e0,e1,e2,t0,t1,t2⟩:=au K8;clear HW H2 H8;have Kb:=HI.out.le;have Hh:(r.drop 4).length=rest.length-(d+4):=by rw[Pd];have:=HG.out;omega
     obtain⟨AX,K5⟩:∃AX:Option Addr,(if y=d+4 then some ⟨X,H4,D⟩else some ⟨X,H4+(d+4),D⟩)=AX:=⟨_,rfl⟩;have Ke:=J K5;clear K5;have HE:Hid (∀T:Array Value,T.size=100->T.getD 2 undef=L (G ⟨w.heap.size,0,D⟩)->T.getD 3 undef=.complex .f64 a1 b1->T.getD 5 undef=L (G ⟨w.heap.size+1,0,D⟩) ->
       T.getD 8 undef=C AX (rest.length-(d+4)) (y-(d+4)) ->
       ∃w1 first,LkR w w1 bs first ⟨T,[]⟩ ((wa.setCell ⟨w.heap.size,1,D⟩ (C Aa (log.length+es.length) ca)).setCell ⟨w.heap.size,2,D⟩ (B E ((t:Int)+d+4)))):=by
      intro T J6 Kk J7 J8 J9;have K5:=Ke.out;subst K5;refine⟨w1,first,a1,b1,aD q body,log++es,C Aa (log.length+es.length) ca,_,y-(d+4),r.drop 4,([f0,f1,f2,z].map bv).toArray,⟨Kf.out,?_,(J4.other (by omega) 1 _).other (by omega) 2 _,rfl,?_,?_,?_,?_,?_,?_,HI.out.lo,?_,?_⟩,rfl,J6,Kk,J7,J8,by rw[Hh];exact J9⟩
      ·have hv:((bs.length-(r.drop 4).length:Nat):Int)=(t:Int)+d+4:=by
        have:=Hu.out;rw[Hh];omega
       rw[hv];exact(K8.set 1 (C Aa (log.length+es.length) ca)).set 2 (B E ((t:Int)+d+4))
      ·have ec:ax (log++es)=ax log++ax es:=by simp[ax]
       rw[ec,xL];have r1:=HK.out.kept (ar wa w.heap.size 1 (C Aa (log.length+es.length) ca)) (.inr (K8.not_row (by decide) HK).symm);have b1:=K8.set 1 (C Aa (log.length+es.length) ca);exact r1.kept (ar _ w.heap.size 2 _) (.inr (b1.not_row (by decide) r1).symm)
      ·by_cases h44:r.length=4
       ·rw[show r.drop 4=[]from List.drop_of_length_le (by omega)];exact SlR.empty w1 1 (by simp[maxLen];omega)
       rw[if_neg (by have:=HG.out;omega)];have h:=Bs.cut HI.out.rst (d+4) (by omega) rfl;rw[Hh];rw[show rest.drop (d+4)=r.drop 4 from by rw[Ki.out,<-HJ.out];simp]at h;exact h
      ·intro b He e Y;split at e<;>(injection e with e;injection e with e1 _;rw[<-e1];exact KE)
      ·intro p u Hx Kq hc;have Je:=P8 w1 p hc;have k1:W5.drew.drew.cell? p=G u:=Hi.out p u Kq (HI.out.hold p u Hx Kq hc);have k2:=cg H9 k1 (λe=>by have:=(H1.lt _ e.symm).1;omega);have k3:=(P6 wa ⟨w.heap.size,1,D⟩ p (C Aa (log.length+es.length) ca) (λe=>Hx (by rw[<-e]))).trans k2;exact(P6 _ ⟨w.heap.size,2,D⟩ p (B E ((t:Int)+d+4)) (λe=>Hx (by rw[<-e]))).trans k3
      ·refine P0 (p:=⟨w.heap.size,2,D⟩) (P0 (p:=⟨w.heap.size,1,D⟩) (P1 ((HP.drew).drew) H9 ?_ ?_) (xN _) _) (xN _) _
       ·have:=HP.size;exact this
       intro k ek;have:=(H1.lt _ ek).1;have:=HI.out.lo;omega
      ·have:=H9.out.size;have h2:W5.drew.drew.heap.size=W5.heap.size:=rfl;simp[P9];omega
      ·rw[xL,Hh];omega
      rw[HI.out.out,zj Hn.out,HB.out];simp[List.append_assoc]
     have Jy:rest.length-(d+4)<rest.length:=by omega
     refine mc (hm:=by kernel_rfl) ?_;refine aC 0 ?_;refine aC 2 ?_;refine aC 4 ?_;refine aC 6 ?_;refine aC 9 ?_;refine aC 10 ?_;refine aC 11 ?_;refine aC 12 ?_;refine aC 13 ?_;refine yV (i:=1) (j:=5) (vi:=C Av log.length cv) (vj:=B E t) (wi:=W5.drew.drew) (wj:=W5.drew.drew) rfl (by kernel_rfl) rfl rfl rfl rfl rfl rfl (by go_simp) (by go_simp) ?_ ?_
     ·refine yV (i:=3) (j:=5) (vi:=C Aa (log.length+es.length) ca) (vj:=B E t) (wi:=wa) (wj:=W5.drew.drew) rfl (by kernel_rfl) rfl rfl rfl rfl (nK _ _ _ rfl) rfl (nH (v:=C Av log.length cv) (vx:=C A2 es.length K4) (.tmp 85) (.tmp 86) 42 rfl (by simp[Pb,Pa]) (by simp[Pb,Pa]) HN) (by go_simp) ?_ ?_
      ·skip;refine bT 5 ?_;refine aC 7 ?_;refine aC 8 ?_;refine bT 14 ?_;refine iG 15 ?_;refine bT 16 ?_;refine iG 17 ?_;refine bT 18 ?_;refine bT 19 ?_;refine wpAnyIn_done (by kernel_rfl) (eV ?_) _;simp only[Pa,sA,sZ,sS];rw[Ke.out];gi_wp2;refine wpIn_goto ?_;try simp only[Exit.then]
       exact bI (h:=by simp) ⟨HE.out _ rfl rfl rfl rfl rfl,by simp[qV];omega⟩
      skip;refine aC 7 ?_;refine aC 8 ?_;exact mcLooka0
     ·skip;refine aC 7 ?_;refine aC 8 ?_;refine bT 1 ?_;exact mcLooka0
open Go.RowKit Go.Mv
def eB(w:World)(r:zgM)(e:Ending)(w':World):Prop:=
 ∃b,e=.returned (.tuple #[M #[B E r.first,b,B E r.used],B E r.err])/\w'.ownsRow w.heap.size 54 3 b r.log.length (ax r.log)/\Ext w w'
theorem NQ(v:Value)(bs:List UInt8)(w:World)(b:Bs w v bs)(hl:O bs<=2000000):∀W,Ext w W->Calls F 365 #[v] W (LookP W (cz bs)):=λW c=>NP v bs W (Bs.ext b c) hl
theorem Ml(v:Value)(bs:List UInt8)(w:World)(j:Bs w v bs)(hl:bs.length<=2000000):Calls F 359 #[v] w (eB w (cz bs)):=by
 have r:=J (NQ v bs w j hl);obtain⟨A,c,rfl,_,_⟩:=xO j;clear j;generalize cz bs=R at *;obtain⟨x,first,d,b,pt⟩:=R;go_enter func359,ntmps359
 go_wp2_with (go_at_call 365;refine(r.out _ (xA (xR _) _)).mono ?_;rintro e L⟨O,T,rfl,k,H,H3⟩;dsimp only at k;obtain⟨f,g,rfl,_,_⟩:=xO (xW k);obtain⟨z1,z2,rfl,_,_⟩:=H;have h:=((Blk.new w 90 #[B E 0,C none 0 0,B E 0]).ext H3).alloc (I #[B E first,C f d.length g,B E b] 90);have N:=au h)
 have s:=bV h (B E first) (C f d.length g) (B E b);have l:=ai k (xA (xR L) (I #[B E first,C f d.length g,B E b] 90));have n:=l.kept (ar _ w.heap.size 0 (B E first)) (.inr (h.not_row (by decide) l).symm);have m:=h.set 0 (B E first);have q:=n.kept (ar _ w.heap.size 1 (C f d.length g)) (.inr (m.not_row (by decide) n).symm);have t:=m.set 1 (C f d.length g);have K:=q.kept (ar _ w.heap.size 2 (B E b)) (.inr (t.not_row (by decide) q).symm);obtain⟨y,z,G,_,_,_⟩:=au s;refine bodyPost_ret (v:=.tuple #[M #[B E first,C f d.length g,B E b],B E x]) (by simp[results,results359,go_sem,y,z,G]) rfl ⟨_,rfl,ay K (by simp),?_⟩;exact P0 (p:=⟨w.heap.size,2,D⟩) (P0 (p:=⟨w.heap.size,1,D⟩) (P0 (p:=⟨w.heap.size,0,D⟩) (xA (xT (xA (xR _) _) H3) _) (xN _) _) (xN _) _) (xN _) _
def w12:List Ent:=[⟨1,0,0⟩,⟨2,1,7⟩]
def OwnB(w:World)(base:Nat)(v:Value)(bs:List UInt8):Prop:=w.ownsRow base 5 1 v bs.length (bs.map bv)
def OwnE(w:World)(base:Nat)(v:Value)(es:List Ent):Prop:=w.ownsRow base 54 3 v es.length (ax es)
def eP(base:Nat)(w w':World):Prop:=∀b,Ext b w->b.heap.size<=base->Ext b w'
theorem OwnB.bs{l:List UInt8}(h:OwnB w base v l):Bs w v l:=xW h
theorem OwnE.es{l:List Ent}(h:OwnE w base v l):Es w v l:=xW h
theorem OwnB.ext{w':World}{l:List UInt8}(h:OwnB w base v l)(he:Ext w w'):OwnB w' base v l:=ai h he
theorem OwnE.ext{w':World}{l:List Ent}(h:OwnE w base v l)(he:Ext w w'):OwnE w' base v l:=ai h he
theorem iI(W:World):OwnB (W.alloc (I #[] 5)) W.heap.size (C (G ⟨W.heap.size,0,D⟩) 0 0) []:=be W [] 5 0 (xN _)
theorem eu{ops:Array Oper}{rest:List Oper}{Q:Exit->Act->World->Prop}(s x:Operand)(ho:o.op=.call { callee:=.builtin .append,args:=#[s,x],argTypes:=#[33,33] })(base:Nat)(v:Value)(bs:List UInt8)(H2:OwnB w base v bs)(vx:Value)(cs:List UInt8)(hr:Bs w vx cs)(Hb:base<=w.heap.size)(h:∀A c w',OwnB w' base (C A (bs.length+cs.length) c) (bs++cs)->eP base w w'->wpList F ops Q rest (a.put o.dst (C A (bs.length+cs.length) c)) w')(Km:o.guard=none:=by exact rfl)(hs:a.eval s=v:=by exact rfl)(hx:a.eval x=vx:=by exact rfl)(Kn:bs.length+cs.length<=40000000:=by simp;omega):wpList F ops Q (o::rest) a w:=by
 obtain⟨i0,hi,K0,K1,K2⟩:=info_parts dC;refine dT _ Km s x 33 ho base 5 i0 (B H 0) 1 1 Tryz.underlying33 hi K0 K1 K2 rfl (by decide) v bs.length (bs.map bv) hs H2 vx cs.length (cs.map bv) hx hr (de _) (by unfold maxLen;omega) (by omega) Hb ?_;intro v' w' h1 h2;obtain⟨A,c,rfl,_,_⟩:=xO (xW h1);refine h A c w' ?_ (λW0 hE hb=>Ext.grownOwn hE (ay H2 hb) h2);unfold OwnB;rw[xL,List.map_append];exact h1
theorem zyH{ops:Array Oper}{rest:List Oper}{Q:Exit->Act->World->Prop}(Km:o.guard=none)(s x:Operand)(j:o.op=.call { callee:=.builtin .append,args:=#[s,x],argTypes:=#[42,42] })(base:Nat)(v:Value)(bs:List Ent)(hs:a.eval s=v)(b:OwnE w base v bs)(vx:Value)(cs:List Ent)(hx:a.eval x=vx)(k:Es w vx cs)(Kn:O bs+O cs<=2000000)(d:base<=w.heap.size)(h:∀A c w',OwnE w' base (C A (O bs+O cs) c) (bs++cs)->eP base w w'->wpList F ops Q rest (a.put o.dst (C A (O bs+O cs) c)) w'):wpList F ops Q (o::rest) a w:=by
 obtain⟨l,hi,e,f,g⟩:=info_parts ic;refine dT _ Km s x 42 j base 54 l _ 3 24 underlying42 hi e f g rfl (by decide) v bs.length (ax bs) hs b vx cs.length (ax cs) hx k (ie _) (by unfold maxLen;omega) (by omega) d ?_;intro d w' h1 h2;obtain⟨A,c,rfl,_,_⟩:=xO (xW h1);refine h A c w' ?_ (λd d hb=>Ext.grownOwn d (ay b hb) h2);unfold OwnE;rw[xL,show ax (bs++cs)=ax bs++ax cs from by simp[ax]];exact h1
section
variable {P:Program} {ops:Array Oper} {Q:Exit->Act->World->Prop} {md:Region.Mode} {S:World->Prop}
theorem nZ{b:Array Bool}(hi:ops.toList[i]?=G oi)(hs:P4 ops=true)(hf:P5 md ops b i=true)(f:(P2 md ops b).contains i=true)(d:∀c a w,Q (.panic c) (a.put oi.dst v) w->Q (.panic c) a w)(g:P3 oi (yielded ops a.tmps)=true)(e:S w)(j:∀w,S w->(execOp a.eval oi).run P w=.ok (.value v) w)(h:wpAnyH P md ops Q S fuel (b.setIfInBounds i true) (a.put oi.dst v) w):wpAnyH P md ops Q S (fuel+1) b a w:=
 wpAnyH_take (by simpa using hi) hs hf f d (.inl ⟨g,j⟩) e h
theorem Qh(i:Nat){listed:Array Bool}(h:wpAnyH P md ops Q S fuel (listed.setIfInBounds i true) (a.put oi.dst v) w)(hi:ops.toList[i]?=some oi:=by exact rfl)(hy:∀w,S w->(execOp a.eval oi).run P w=.ok (.value v) w:=by (intro w hw;(try dsimp only at hw);go_simp;try with_reducible rfl))(hs:Region.noSelect ops=true:=by kernel_rfl)(hf:Region.free md ops listed i=true:=by kernel_rfl)(hr:(Region.ready md ops listed).contains i=true:=by kernel_rfl)(hQ:∀c a w,Q (.panic c) (a.put oi.dst v) w->Q (.panic c) a w:=by exact λ_ _ _ h=>h)(hw:Region.wanted oi (yielded ops a.tmps)=true:=by rfl)(hS:S w:=by assumption):wpAnyH P md ops Q S (fuel+1) listed a w:=
 nZ hi hs hf hr hQ hw hS hy h
theorem Qg(i:Nat){listed:Array Bool}(hy:∀w,S w->(execOp a.eval oi).run P w=.ok (.value v) w)(h:wpAnyH P md ops Q S fuel (listed.setIfInBounds i true) (a.put oi.dst v) w)(hi:ops.toList[i]?=some oi:=by exact rfl)(hs:Region.noSelect ops=true:=by kernel_rfl)(hf:Region.free md ops listed i=true:=by kernel_rfl)(hr:(Region.ready md ops listed).contains i=true:=by kernel_rfl)(hQ:∀c a w,Q (.panic c) (a.put oi.dst v) w->Q (.panic c) a w:=by exact λ_ _ _ h=>h)(hw:Region.wanted oi (yielded ops a.tmps)=true:=by rfl)(hS:S w:=by assumption):wpAnyH P md ops Q S (fuel+1) listed a w:=
 nZ hi hs hf hr hQ hw hS hy h
theorem ab(i:Nat){listed:Array Bool}(h:wpAnyH P md ops Q S fuel (listed.setIfInBounds i true) a' w)(hi:ops.toList[i]?=some oi:=by exact rfl)(hy:∀w,S w->(execOp a.eval oi).run P w=.ok (.value v) w:=by (intro w hw;(try dsimp only at hw);go_simp;try with_reducible rfl))(hp:a.put oi.dst v=a':=by (first|(simp only[Act.put,sA,sZ,sS];done) | (simp only[Act.put,sA,sZ,sS];rfl) | rfl))(hs:Region.noSelect ops=true:=by kernel_rfl)(hf:Region.free md ops listed i=true:=by kernel_rfl)(hr:(Region.ready md ops listed).contains i=true:=by kernel_rfl)(hQ:∀c a w,Q (.panic c) (a.put oi.dst v) w->Q (.panic c) a w:=by exact λ_ _ _ h=>h)(hw:Region.wanted oi (yielded ops a.tmps)=true:=by rfl)(hS:S w:=by assumption):wpAnyH P md ops Q S (fuel+1) listed a w:=by
 subst hp;exact nZ hi hs hf hr hQ hw hS hy h
theorem DT{b:Array Bool}(hi:ops.toList[i]?=G oi)(hs:P4 ops=true)(hf:P5 md ops b i=true)(f:(P2 md ops b).contains i=true)(d:∀c a w,Q (.panic c) (a.put oi.dst undef) w->Q (.panic c) a w)(g:P3 oi (yielded ops a.tmps)=false)(e:S w)(h:wpAnyH P md ops Q S fuel (b.setIfInBounds i true) (a.put oi.dst undef) w):wpAnyH P md ops Q S (fuel+1) b a w:=
 wpAnyH_take (by simpa using hi) hs hf f d (.inr ⟨g,rfl⟩) e h
theorem ag(i:Nat){listed:Array Bool}(h:wpAnyH P md ops Q S fuel (listed.setIfInBounds i true) a' w)(hi:ops.toList[i]?=some oi:=by exact rfl)(hp:a.put oi.dst undef=a':=by (first|(simp only[Act.put,sA,sZ,sS];done) | (simp only[Act.put,sA,sZ,sS];rfl) | rfl))(hs:Region.noSelect ops=true:=by kernel_rfl)(hf:Region.free md ops listed i=true:=by kernel_rfl)(hr:(Region.ready md ops listed).contains i=true:=by kernel_rfl)(hQ:∀c a w,Q (.panic c) (a.put oi.dst undef) w->Q (.panic c) a w:=by exact λ_ _ _ h=>h)(hw:Region.wanted oi (yielded ops a.tmps)=false:=by rfl)(hS:S w:=by assumption):wpAnyH P md ops Q S (fuel+1) listed a w:=by
 subst hp;exact DT hi hs hf hr hQ hw hS h
theorem AllReadyH.one{b:Array Bool}(d:ops.toList[i]?=G o)(e:P2 md ops b=[i])(f:P3 o (yielded ops a.tmps)=true)(h:∀c:Act->World->Prop,Shut (∀a w,S w->(S w->wpAnyH P md ops Q S fuel (b.setIfInBounds i true) a w)->c a w)->Oper.wp P o a w c Q):wpAnyH P md ops Q S (fuel+1) b a w:=
 wpAnyH_ready e (by simp) (AllReadyH.cons (by simpa using d) (λK b=>by rw[if_pos f];exact h K b) AllReadyH.nil)
theorem af{K:Act->World->Prop}{listed:Array Bool}(hK:Shut (∀a w,S w->(S w->wpAnyH P md ops Q S fuel listed a w)->K a w))(a:Act)(w:World)(hS:S w)(h:S w->wpAnyH P md ops Q S fuel listed a' w)(hp:a=a':=by (first|(simp only[Act.put,sA,sZ,sS];done) | (simp only[Act.put,sA,sZ,sS];rfl) | rfl)):K a w:=by
 subst hp;exact hK _ _ hS h
theorem ah(i:Nat){listed:Array Bool}(h:∀K':Act->World->Prop,Shut (∀a w,S w->(S w->wpAnyH P md ops Q S fuel (listed.setIfInBounds i true) a w)->K' a w)->Oper.wp P o a w K' Q)(ho:ops.toList[i]?=some o:=by exact rfl)(hr:Region.ready md ops listed=[i]:=by kernel_rfl)(hw:Region.wanted o (yielded ops a.tmps)=true:=by rfl):wpAnyH P md ops Q S (fuel+1) listed a w:=AllReadyH.one ho hr hw h
theorem aq{listed:Array Bool}(h:Q .normal a w)(hr:Region.ready md ops listed=[]:=by kernel_rfl):wpAnyH P md ops Q S fuel listed a w:=wpAnyH_done hr h fuel
end
def dw(W:World)(b:Nat)(a v u:Value):World:=((W.setCell ⟨b,0,D⟩ a).setCell ⟨b,1,D⟩ v).setCell ⟨b,2,D⟩ u
theorem fK{b:Nat}{t:TypeId}{a u:Value}(hB:Blk W b t #[a,v,u]){e:TypeId}{size k:Nat}{y:Value}{xs:List Value}(hr:W.ownsRow base e size y k xs)(a' v' u':Value)(Kx:t≠e:=by decide):(dw W b a' v' u').ownsRow base e size y k xs:=by
 have r1:=hr.kept (ar _ b 0 a') (.inr (hB.not_row Kx hr).symm);have b1:=hB.set 0 a';have r2:=r1.kept (ar _ b 1 v') (.inr (b1.not_row Kx r1).symm);have b2:=b1.set 1 v';exact r2.kept (ar _ b 2 u') (.inr (b2.not_row Kx r2).symm)
theorem cZ(h:Ext w W){b:Nat}(c:w.heap.size<=b)(a v u:Value):Ext w (dw W b a v u):=
 P0 (p:=⟨b,2,D⟩) (P0 (p:=⟨b,1,D⟩) (P0 (p:=⟨b,0,D⟩) h c _) c _) c _
open Go.RowKit Go.Mv
structure Sta where
 idx:Int
 term:Int
 sum:Int
 lvl:Int
 fin:Bool
def Sta.ok(s:Sta):Bool:=
 if s.idx=0 then decide (s.term=0/\s.sum=0/\s.lvl=1/\s.fin=false)
 else(if s.fin=true then decide (s.lvl=2)else decide (s.lvl=1\/s.lvl=2))&&aB s.idx&&decide (0<s.term)&&aB s.term&&aB s.sum
def Sta.finI(s:Sta):Int:=if s.fin=true then 1 else 0
def Sta.ints(s:Sta):List Int:=[s.idx,s.term,s.sum,s.lvl,s.finI]
theorem Sta.okP{s:Sta}(h:s.ok=true):aB s.idx=true/\aB s.term=true/\aB s.sum=true/\(s.lvl=1\/s.lvl=2):=by
 unfold Sta.ok at h;split at h
 ·rename_i b;have:=of_decide_eq_true h;obtain⟨h1,h2,h3,h4⟩:=this;rw[b,h1,h2,h3];exact⟨by decide,by decide,by decide,.inl rfl⟩
 ·simp only[Bool.and_eq_true]at h;obtain⟨⟨⟨⟨h1,h2⟩,h3⟩,h4⟩,h5⟩:=h;refine⟨h2,h4,h5,?_⟩;split at h1
  ·exact .inr (of_decide_eq_true h1)
  ·exact of_decide_eq_true h1
def bA(z:Nat×Nat)(t:List UInt8):List UInt8:=
 if h:t=[]then[]else t.take 4++(aW (aD z (t.take 4))++bA (aD z (t.take 4)) (t.drop 4))
termination_by (O t)
decreasing_by
 have:0<O t:=List.length_pos_iff.2 h;simp;omega
theorem iJ(v:Value)(bs:List UInt8)(w:World)(h:Bs w v bs)(hl:bs.length<=2000000):Calls F 167 #[v] w (iB w (az bs)):=by
 obtain⟨A,c,rfl,h1,h2⟩:=xO h;by_cases h5:(bs.length:Int)<5
 ·have X:az bs=(10,0,[]):=by unfold az;rw[if_pos (by omega)]
  have K:=J X;clear X;go_enter func167,ntmps167
  go_wp2_with fail
  go_ret3;exact⟨_,by rw[K.out];rfl,by rw[K.out];exact P7 _ _ _ _,xR _⟩
 obtain⟨_,b,j,rfl,hc⟩:=Bs.at_ h (by omega);have HC:=J hc;have K3:=J h;have T:az bs=if beN (bs.take 5)<=1073741824 then(0,beN (bs.take 5),bs.drop 5)else(11,0,[]):=by unfold az;rw[if_neg (by omega)]
 have L:=J T;have Jr:(5:Int)<=(c:Int):=by omega
 have Js:(5:Int)<=(bs.length:Int):=by omega
 clear hc h T;go_enter func167,ntmps167
 go_wp2_with fail
 go_loop [5,6] (λnn r=>∃k n:Nat,k<=5/\Hid (n=beN (bs.take k))/\n<1099511627776/\Hid (n<256^k)/\nn=B E n/\r=B E k) (λ_ r=>5-(intOf r).toNat)
 case atStart=>exact⟨0,0,by omega,rfl,by omega,by show _<_;decide,rfl,rfl⟩
 case round=>
  obtain⟨k,n,hk,l,hn,U,rfl,rfl⟩:=hrel;by_cases Je:k<5
  ·have N:k<bs.length:=by omega
   have Jt:=HC.out k N;have hq:=bs[k].toNat_lt;have R:beN (bs.take (k+1))=n*256+bs[k].toNat:=by rw[List.take_succ_eq_append_getElem N,AT,l.out]
   have Jz:n<4294967296:=Nat.lt_of_lt_of_le U (Nat.le_trans (Nat.pow_le_pow_right (by decide) (show k<=4 by omega)) (by decide));have x:n*256+bs[k].toNat<256^(k+1):=by rw[Nat.pow_succ];have:=U.out;omega
   have KX:=J R;have Kh:=J x;clear R x;generalize bs[k].toNat=q at *;go_wp2_with fail
   go_round
   case rel=>exact⟨k+1,n*256+q,by omega,by show _=_;rw[KX.out],by omega,Kh.out,by go_num,by go_num⟩
   case measure=>simp[intOf];omega
  ·obtain rfl:k=5:=by omega
   have M:=xW (be w [B E (n:Int)] 3 1 (hm:=rfl) (hl:=by simp[maxLen]) (xN _));have t:Is (w.alloc (I #[B E (n:Int)] 3)) (C (G ⟨w.heap.size,0,D⟩) 1 1) [(n:Int)]:=M;have V:aG [(n:Int)]=decide (n<=1073741824):=by simp[aG,aB];omega
   have H:=J V;have H3:Ext w (w.alloc (I #[B E (n:Int)] 3)):=xA (xR _) _;clear M V;have Jg:∃s:Value,(∀W,Ext w W->Bs W s (bs.drop 5))/\s=C (if c=5 then some ⟨b,j,D⟩else some ⟨b,j+5,D⟩) (bs.length-5) (c-5):=by
    by_cases f:c=5
    ·exact⟨_,λW _=>Bs.cut0 (A:=G ⟨b,j,D⟩) (n:=bs.length) (k:=5) (c:=c-5) (bs:=bs) (by omega) rfl (by omega),by rw[if_pos f]⟩
    exact⟨_,λW hE=>Bs.cut (K3.out.ext hE) 5 (by omega) rfl,by rw[if_neg f]⟩
   obtain⟨s,y,z⟩:=Jg;have KU:=J y;have HV:=J z;clear y z;by_cases d:n<=1073741824
   ·have g:az bs=(0,n,bs.drop 5):=by rw[L.out,<-l.out,if_pos d]
    have m:=J g;have Ju:(bs.drop 5).length<=2000000:=by rw[Pd];omega
    have p:=iI (w.alloc (I #[B E (n:Int)] 3));rw[xS]at p;have Z:=ay (base':=w.heap.size) p (by omega);clear p;clear g;go_wp2_with (first
     |(go_at_call 183;refine(lB _ _ _ t).mono ?_;rw[H.out,decide_eq_true d];rintro e w1⟨rfl,rfl⟩)
     |(at_builtin;refine eu (Km:=rfl) (.tmp 27) (.tmp 29) rfl w.heap.size _ [] (hs:=rfl) Z _ (bs.drop 5) (hx:=rfl) (HV.out▸KU.out _ (xA H3 _)) (Kn:=by simp;omega) (xA H3 _).size ?_;intro A5 c5 w5 O J5;have Y:Ext w w5:=J5 w (xA H3 _) (xN _);simp only[Pe,Nat.zero_add,xI,Pd]at O⊢))
    all_goals (go_ret3;rw[m.out];exact⟨_,rfl,O,Y⟩)
   ·have g:az bs=(11,0,[]):=by rw[L.out,<-l.out,if_neg d]
    have m:=J g;clear g;go_wp2_with (go_at_call 183;refine(lB _ _ _ t).mono ?_;rw[H.out,decide_eq_false d];rintro e w1⟨rfl,rfl⟩)
    go_ret3;rw[m.out];exact⟨_,rfl,P7 _ _ _ _,H3⟩
