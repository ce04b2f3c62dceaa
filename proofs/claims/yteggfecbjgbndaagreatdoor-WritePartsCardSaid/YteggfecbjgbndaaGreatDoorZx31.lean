/- Merged -/
import Derived.Test.YteggfecbjgbndaaGreatDoorZx29
import Derived.Test.YteggfecbjgbndaaGreatDoorZx30
set_option linter.all false
set_option maxHeartbeats 8000000
set_option maxRecDepth 100000
open Go.Value renaming int->B,slice->E,bool->H,pointer->L
open Go.IntKind renaming i64->C
open Option renaming some->F,none->G
open Go.Mv renaming aN->I
open Go.Obj renaming cells->J
open Go.World renaming cell?_setCell_other->P0,ownsRow_nil->P1,block_lt_of_cell?->P2
open List renaming length_drop->P3,drop_of_length_le->P4,length_map->P5,length->P6
open Array renaming getElem?_eq_some_iff->P7
open Option.some renaming inj->P8
open Go.IntKind renaming i64->P9,wrap_i64->Pa,signed->Pb,wrap->Pc,bits->Pd
open Go.Mv.Ext renaming cell->Pe,grown->Pf
namespace Go.Proofs.YteggfecbjgbndaaGreatDoor
open Go.RowKit Go.Mv Go.Shelf
variable {b:Nat} {P:Prop}
theorem mcMTakea0(h:P:=by
 rintro D W hD⟨Av,cv,hB,hO,hE,hH⟩hK;have HZ:=yG ⟨n0,n1,n2,n3,n4,es.map dec⟩ (E Av es.length cv) W (by
  show SlR W 4 (E Av es.length cv) (es.map dec).length _;rw[P5];exact xW hO) (HT.out.ext hE)
 have hm:=K5.out.2 _ K9;rw[HR.out]at hm;have hm:R=if bj ⟨n0,n1,n2,n3,n4,es.map dec⟩=F b then some ⟨n0,n1,n2,n3,n4,es.map dec⟩else none:=hm;obtain⟨P,hP⟩:∃P,bj ⟨n0,n1,n2,n3,n4,es.map dec⟩=P:=⟨_,rfl⟩;rw[hP]at HZ hm;have HL:=I HZ;have HM:=I hm;have K4:=I hK;have HJ:=I hB;have Hv:=I hO;have HA:=I hE;have eb:=aj hB;clear HZ hm hP hK hB hO hE hH;subst hT;cases P with
 |none=>
  have Kd:R=none:=by rw[HM.out];rfl
  clear HM;subst Kd;gi_wp2_with (first
   |(refine⟨trivial,?_⟩;gi_at_call 60;refine(callsIn_wd.2 HL).mono ?_;rintro e w6⟨⟨vs,rfl,Kr⟩,He⟩;have b6:=HJ.out.ext He;have ea:=aj b6;have f0:=b6.frozen 0;have f1:=b6.frozen 1;have f2:=b6.frozen 2;have f3:=b6.frozen 3;have f4:=b6.frozen 4;have f5:=b6.frozen 5;have HG:w6.heap[D]?=F (.deferred (some [])):=(He.block D (P7.1 K4).1).trans K4.out;have HD:=I HG;have K2:=I b6;have K3:=I He;clear b6 HG)
   |(refine⟨trivial,?_⟩))
  refine wpIn_label ?_;gi_step;gi_step;refine HE.out _ _ ⟨HR.out,.inr ⟨D,rfl,HD.out,by omega⟩,rfl,rfl,⟨_,_,_,_,_,_,K2.out⟩,xT HA K3⟩
 |some s=>
  by_cases hsb:b=s
  ·have JJ:decide (b=s)=true:=by simpa using hsb
   have JG:R=F ⟨n0,n1,n2,n3,n4,es.map dec⟩:=by rw[HM.out,if_pos (congrArg some hsb.symm)]
   clear hsb HM;subst JG;gi_wp2_with (first
    |(refine⟨trivial,?_⟩;gi_at_call 60;refine(callsIn_wd.2 HL).mono ?_;rintro e w6⟨⟨vs,rfl,Kr⟩,He⟩;have b6:=HJ.out.ext He;have ea:=aj b6;have f0:=b6.frozen 0;have f1:=b6.frozen 1;have f2:=b6.frozen 2;have f3:=b6.frozen 3;have f4:=b6.frozen 4;have f5:=b6.frozen 5;have HG:w6.heap[D]?=F (.deferred (some [])):=(He.block D (P7.1 K4).1).trans K4.out;have HD:=I HG;have K2:=I b6;have K3:=I He;clear b6 HG)
    |(refine⟨trivial,?_⟩;gi_at_call 81;refine(callsIn_wd.2 (fI _ _ b s w6 (HB.out.ext (xT HA He)) (xW Kr))).mono ?_;rintro e w7⟨rfl,rfl⟩))
   refine bJ ?_;have KN:=yL HD rfl w.heap.size (B C n0) (B C n1) (B C n2) (B C n3) (B C n4) (E Av es.length cv);refine dh KN (.tuple #[.agg #[B C n0,B C n1,B C n2,B C n3,B C n4,E Av es.length cv],B C 0]) (rv _ _ _ _ (B C 0) rfl rfl (pM (cQ K2 (B C n0) (B C n1) (B C n2) (B C n3) (B C n4) (E Av es.length cv)) KN rfl _) rfl) ⟨E Av es.length cv,rfl,?_,cp (dD (xT HA K3) (xN _) _ _ _ _ _ _) (hD:=by omega) _⟩;show World.ownsRow _ w.heap.size 36 4 (E Av es.length cv) (es.map dec).length (bM (es.map dec));rw[P5];exact ay (ownsRow_putObj (cU K2 (H4:=(by decide:(30:TypeId)≠36)) (ai Hv K3) (B C n0) (B C n1) (B C n2) (B C n3) (B C n4) (E Av es.length cv)) (.deferred none) KN rfl) (by omega)
  ·have JJ:decide (b=s)=false:=by simpa using hsb
   have Kd:R=none:=by rw[HM.out,if_neg (λh=>hsb (P8 h).symm)]
   clear hsb HM;subst Kd;gi_wp2_with (first
    |(refine⟨trivial,?_⟩;gi_at_call 60;refine(callsIn_wd.2 HL).mono ?_;rintro e w6⟨⟨vs,rfl,Kr⟩,He⟩;have b6:=HJ.out.ext He;have ea:=aj b6;have f0:=b6.frozen 0;have f1:=b6.frozen 1;have f2:=b6.frozen 2;have f3:=b6.frozen 3;have f4:=b6.frozen 4;have f5:=b6.frozen 5;have HG:w6.heap[D]?=F (.deferred (some [])):=(He.block D (P7.1 K4).1).trans K4.out;have HD:=I HG;have K2:=I b6;have K3:=I He;clear b6 HG)
    |(refine⟨trivial,?_⟩;gi_at_call 81;refine(callsIn_wd.2 (fI _ _ b s w6 (HB.out.ext (xT HA He)) (xW Kr))).mono ?_;rintro e w7⟨rfl,rfl⟩))
   refine wpIn_label ?_;gi_step;gi_step;refine HE.out _ _ ⟨HR.out,.inr ⟨D,rfl,HD.out,by omega⟩,rfl,rfl,⟨_,_,_,_,_,_,K2.out⟩,xT HA K3⟩):P:=h
theorem mcMTakea1(h:P:=by
 try simp only[Act.put,sA,sZ,sS]
 have Jm:SlR (W.alloc (J #[B C y0,B C y1,B C y2,B C (y3-1)] 36)).drew 4 (E (F ⟨W.heap.size,0,G⟩) 1 1) 1 (bM [⟨y0,y1,y2,y3-1⟩]):=SlR.ext (yK W [⟨y0,y1,y2,y3-1⟩] 1 rfl (hm:=by simp[maxLen])) (xD (xR _));have Hl:=I X6;have JA:=I Jm;have Hn:w5.heap.size<=(W.alloc (J #[B C y0,B C y1,B C y2,B C (y3-1)] 36)).drew.heap.size:=Nat.le_trans K0 X6.size;obtain⟨i0,hi,JR,JS,JT⟩:=info_parts yI;clear Jm X6 J5 J6;refine ah 17 (λK hK=>?_);refine fJ _ (.tmp 74) (.tmp 89) 28 (by rfl) w5.heap.size 36 i0 _ 4 32 Tryz.underlying28 hi JR JS JT rfl (K3:=by decide) (E Av H2.length cv) H2.length (bM (H2.map dec)) (hs:=by rfl) (ai Hv Hl) _ 1 (bM [⟨y0,y1,y2,y3-1⟩]) (hx:=by rfl) JA (yY _) (HQ:=by unfold maxLen;omega) (H0:=by omega) Hn ?_;intro v7 w7 Ks Hx;have KO:=HJ.out.ext Hl;have Ki:some b'≠(Value.slice Av H2.length cv).ownBlock:=λe=>by
  obtain⟨Jh,cs,fr,Hj⟩:=fH Hv e.symm;omega
 have Ho:=KO.kept Hx (KO.not_row (by decide) (ai Hv Hl));have E7:Ext w w7:=Ext.grownOwn (xT HA Hl) (ay (ai Hv Hl) (Nat.le_of_lt Jr)) Hx;refine af hK _ _ ⟨cg Hx (Hl.out.cell d0) Ki,cg Hx (Hl.out.cell d1) Ki,cg Hx (Hl.out.cell d2) Ki,cg Hx (Hl.out.cell d3) Ki⟩ (λhHeld=>?_);have JB:=Ho.frozen 5;have JC:w7.cell? ⟨w.heap.size,5,G⟩=F (E Av H2.length cv):=Ho.cell 5 rfl;have k0:=hHeld.1;have k1:=hHeld.2.1;have k2:=hHeld.2.2.1;have k3:=hHeld.2.2.2;obtain⟨A7,c7,rfl,_,_⟩:=xO (xW Ks);refine ab 18 ?_;refine ah 19 (λK hK=>?_);go_simp;have Hq:some b'≠some w.heap.size:=λe=>H7 (P8 e);refine af hK _ _ ⟨cg (ar _ w.heap.size 5 (E A7 (H2.length+1) c7)) k0 Hq,cg (ar _ w.heap.size 5 (E A7 (H2.length+1) c7)) k1 Hq,cg (ar _ w.heap.size 5 (E A7 (H2.length+1) c7)) k2 Hq,cg (ar _ w.heap.size 5 (E A7 (H2.length+1) c7)) k3 Hq⟩ (λhHeld=>?_);refine aq ?_;refine mC ?_;have J8:Kept (am (λk o=>(k=W4.heap.size/\o.ty=F 64)\/(k=W4.heap.size+1/\o.ty=F 3)) w5.heap.size) W (w7.setCell ⟨w.heap.size,5,G⟩ (E A7 (H2.length+1) c7)):=by
  refine((Kept.refl.below Hl (xN _)).grown Hx (λk o ek hk=>?_)).setCell (λo hk _=>?_) _
  ·obtain⟨Jh,cs,fr,Hj⟩:=fH Hv ek;rw[hk]at Hj;cases Hj;rintro((⟨_,h⟩|⟨_,h⟩)| ⟨_,h⟩)
   ·cases h
   ·cases h
   cases h
  have JM:o=_:=P8 ((show W.heap[w.heap.size]?=F o from hk).symm.trans HJ.out);subst JM;rintro((⟨h,_⟩|⟨h,_⟩)| ⟨_,h⟩)
  ·dsimp only at h;omega
  ·dsimp only at h;omega
  cases h
 have E8:Ext w (w7.setCell ⟨w.heap.size,5,G⟩ (E A7 (H2.length+1) c7)):=Below.setCell (p:=⟨w.heap.size,5,G⟩) E7 (xN _) _;have Jb:=Ho.set 5 (E A7 (H2.length+1) c7);have Jj:=Ks.kept (ar _ w.heap.size 5 (E A7 (H2.length+1) c7)) (.inr (Ho.not_row (by decide) Ks).symm);have Ji:∀(p:Addr) (u:Value),p.block≠w.heap.size->wo.cell? p=F u->(w7.setCell ⟨w.heap.size,5,G⟩ (E A7 (H2.length+1) c7)).cell? p=F u:=by
  intro p u hp hq;have JY:=P2 w5 p (KC.out p u hp hq);refine cg (ar _ w.heap.size 5 (E A7 (H2.length+1) c7)) (cg Hx (Hl.out.cell (KZ.out p u hp hq)) λe=>?_) λe=>hp (P8 e);obtain⟨Jh,cs,fr,Hj⟩:=fH Hv e.symm;omega
 have HF:=I (show TkS w w5.heap.size n0 n1 n2 n3 n4 wo (H2++[⟨y0,y1,y2,y3⟩]) (w7.setCell ⟨w.heap.size,5,G⟩ (E A7 (H2.length+1) c7))from⟨A7,c7,by rw[xL];exact Jb,by
  rw[Ka.out,xL,show bM (H2.map dec++[dec ⟨y0,y1,y2,y3⟩])=bM (H2.map dec)++bM [⟨y0,y1,y2,y3-1⟩] by simp[bM,dec]];exact Jj,E8,Ji⟩)
 have Jy:=I J8;clear J8 E8 Jb Jj Ji hHeld k0 k1 k2 k3 Ki Hq JC JB E7 Ho Hx Ks Hn KO;gi_wp2;exact⟨Jy.out,HF.out⟩):P:=h
theorem mcMTakea2(h:P:=by
 rintro l' H2 e Kk W av K' hx hi K0⟨b',H4,rfl,hu⟩hK;obtain⟨Av,cv,hB,hO,hE,hH⟩:=hi;obtain⟨Ku,Jo,Jp,Jq⟩:=is4 hu;have H7:b'≠w.heap.size:=by
  rintro rfl;have hq:=Ku;simp only[World.cell?,show wo.heap[w.heap.size]?=_ from KX.out]at hq;match H4,hq with
  |0,hq=>cases hq
  |1,hq=>cases hq
  |2,hq=>cases hq
  |3,hq=>cases hq
  |4,hq=>cases hq
  |5,hq=>cases hq
  |j+6,hq=>simp at hq
 have HO:b'<w5.heap.size:=P2 w5 _ (KC.out _ _ H7 Ku);have JO:Is W (E (F ⟨b',H4,G⟩) 4 4) [e.seq,e.fmt,e.first,e.count]:=Lq (hH _ _ H7 Ku) (hH _ _ H7 Jo) (hH _ _ H7 Jp) (hH _ _ H7 Jq);have Hi:Hid (TkS w w5.heap.size n0 n1 n2 n3 n4 wo H2 W):=⟨Av,cv,hB,hO,hE,hH⟩;clear hx Ku Jo Jp Jq hH hB hO hE;subst hT;gi_wp2;exact hK _ _ Kept.refl Hi ⟨b',H4,JO,⟨H7,HO⟩,rfl⟩):P:=h
theorem mcMTakea3(h:P:=by
 all_goals
  refine wpIn_goto ?_;try simp only[Exit.then]
  refine(show Exit.jumps [0] (λ_=>oH w b) _ (Exit.goto 0) _ _ from ?_);refine bI (h:=by simp) ?_;exact⟨H1,.inl rfl,rfl,rfl,⟨_,_,_,_,_,_,K7.out.ext (xT Hh H6)⟩,xT HN (xT Hh H6)⟩):P:=h
theorem mcMTakea4(h:P:=by
 all_goals
  refine wpIn_goto ?_;try simp only[Exit.then]
  refine(show Exit.jumps [0] (λ_=>oH w b) _ (Exit.goto 0) _ _ from ?_);refine bI (h:=by simp) ?_;exact⟨H1,.inl rfl,rfl,rfl,⟨_,_,_,_,_,_,K7.out.ext Hh⟩,xT HN Hh⟩):P:=h
theorem mcMTakea5(h:P:=by
 rintro s X Y⟨Av,cv,hB,hO,hE,hH⟩hm;refine⟨Av,cv,hm.blkF hB,hm.ownsRow hO ?_,hm.belowF hE (by omega),λp u hp hc=>hm.cell (hH p u hp hc) ?_⟩
 ·rintro k JU _(h | h)
  ·exact h
  cases h.2
 ·rintro o _ hc(h | h)
  ·exact h
  ·rw[hc]at h;cases h.2):P:=h
theorem rv(tmps:Array Value)(W:World)(b:Nat)(cs:Array Value)(u:Value)(h4:tmps.getD 2 undef=L (F ⟨b,0,G⟩))(h5:tmps.getD 3 undef=u)(hb:Blk W b 30 cs)(hs:cs.size=6):(results Tryz.f34 tmps).run Tryz.prog W=.ok (.tuple #[.agg cs,u]) W:=by
 have hl:=hb.load (P:=Tryz.prog) lP rfl (by rw[hs];kernel_rfl);have a:tmps[2]?.getD undef=L (F ⟨b,0,G⟩):=by simpa using h4
 have c:tmps[3]?.getD undef=u:=by simpa using h5
 simp[results,Tryz.results34,a,c,asAddr,hl,Sem.run_bind,Sem.run_pure,Result.andThen_ok]
theorem yL{W:World}{D:Nat}{o:Obj}(h:W.heap[D]?=F o)(hc:o.isCells=false)(b:Nat)(a v u x y z:Value):(aO W b a v u x y z).heap[D]?=F o:=
 dK (dK (dK (dK (dK (dK h hc _ _) hc _ _) hc _ _) hc _ _) hc _ _) hc _ _
theorem DN{b p:List UInt8}(h:bN rT b=F p):p.length<=b.length:=by
 unfold bN at h;split at h
 ·cases h;rw[List.length_take];omega
 ·cases h
theorem Ol{f:Nat}(h:f<=60):P9.wrap (6+4*(f:Int))=((6+4*f:Nat):Int):=by
 unfold Pc;simp[Pd,Pb];omega
theorem PV{f:Nat}(h:f<=60):P9.wrap (4*(f:Int))=4*(f:Int):=by
 unfold Pc;simp[Pd,Pb];omega
theorem BV:∀(l:List Int) (k:Nat),l.length=4*k->∃es:List Sg4,ea es=l/\es.length=k/\lh l=es.map λs=>⟨s.seq,s.fmt,s.first,s.count-1⟩
 | [],k,h=>⟨[],rfl,by
   have e:(0:Nat)=4*k:=h;show 0=k;omega,rfl⟩
 |[_],k,h=>by simp at h;omega
 |[_,_],k,h=>by simp at h;omega
 |[_,_,_],k,h=>by simp at h;omega
 | a::b::c::d::l,k,h=>by
  obtain⟨es,h1,h2,h3⟩:=BV l (k-1) (by simp at h;omega);refine⟨⟨a,b,c,d⟩::es,?_,by simp at h;simp;omega,?_⟩
  ·rw[show ea (⟨a,b,c,d⟩::es)=a::b::c::d::ea es from rfl,h1]
  ·rw[lh,h3];rfl
theorem Nt{b p:List UInt8}(h:bN rT b=F p):(fe p=none->cA b=none)/\∀m,fe p=F m->cA b=if bj m=F b then some m else none:=by
 constructor
 ·intro a;unfold cA;rw[h];dsimp only;rw[a]
 ·intro m a;unfold cA;rw[h];dsimp only;rw[a]
def dec(s:Sg4):Sg4:=⟨s.seq,s.fmt,s.first,s.count-1⟩
def TkS(w:World)(N:Nat)(d n1 e f g:Int)(h:World)(a:List Sg4)(X:World):Prop:=
 ∃A c,Blk X w.heap.size 30 #[B C d,B C n1,B C e,B C f,B C g,E A a.length c]/\X.ownsRow N 36 4 (E A a.length c) a.length (bM (a.map dec))/\Ext w X/\(∀p u,p.block≠w.heap.size->h.cell? p=F u->X.cell? p=F u)
theorem zl{W:World}{a v u x y z t:Value}{p:Addr}(d:p.block≠b)(h:(aO W b a v u x y z).cell? p=F t):W.cell? p=F t:=by
 have c:∀k,(⟨b,k,G⟩:Addr)≠p:=λk e=>d (by rw[<-e]);unfold aO at h;rwa[P0 _ _ _ _ (c _),P0 _ _ _ _ (c _),P0 _ _ _ _ (c _),P0 _ _ _ _ (c _),P0 _ _ _ _ (c _),P0 _ _ _ _ (c _)]at h
theorem LF{es:List Sg4}{s:Sg4}(h:s∈es):s.count∈ea es:=List.mem_flatMap.2 ⟨s,h,by simp⟩
theorem is4{w:World}{f:Nat}{a c d e:Int}(h:Is w (E (F ⟨b,f,G⟩) 4 4) [a,c,d,e]):w.cell? ⟨b,f,G⟩=F (B C a)/\w.cell? ⟨b,f+1,G⟩=F (B C c)/\w.cell? ⟨b,f+2,G⟩=F (B C d)/\w.cell? ⟨b,f+3,G⟩=F (B C e):=by
 obtain⟨_,A,c',e,_,_,h3⟩:=h;cases e;obtain⟨f,H4,e',hc⟩:=h3 (by simp);cases e';exact⟨hc 0 _ rfl,hc 1 _ rfl,hc 2 _ rfl,hc 3 _ rfl⟩
theorem Lq{w:World}{f:Nat}{a c d e:Int}(h:w.cell? ⟨b,f,G⟩=F (B C a))(h1:w.cell? ⟨b,f+1,G⟩=F (B C c))(h2:w.cell? ⟨b,f+2,G⟩=F (B C d))(h3:w.cell? ⟨b,f+3,G⟩=F (B C e)):Is w (E (F ⟨b,f,G⟩) 4 4) [a,c,d,e]:=by
 refine⟨rfl,_,4,rfl,xN _,by simp[maxLen],λ_=>⟨b,f,rfl,λj u g=>?_⟩⟩;match j with
 |0=>cases g;exact h
 |1=>cases g;exact h1
 |2=>cases g;exact h2
 |3=>cases g;exact h3
 |j+4=>simp at g
def oH(w:World)(b:List UInt8)(a:Act)(W:World):Prop:=cA b=none/\(a.defers=[]\/∃D,a.defers=[{ target:=.collected D,args:=#[] }]/\W.heap[D]?=F (.deferred (some []))/\w.heap.size<=D)/\a.tmps.size=106/\a.tmps.getD 2 undef=L (F ⟨w.heap.size,0,G⟩) /\
 (∃c d e f g h,Blk W w.heap.size 30 #[c,d,e,f,g,h])/\Ext w W
attribute [local go_sem] Oper.semAt_some in
theorem IF(v:Value)(b:List UInt8)(w:World)(hT:StW w)(hB:Bs w v b)(hl:b.length<=100000):
  Calls Tryz.prog 34 #[v] w (sC w (cA b)):=by
 obtain⟨A,c,rfl,JW,JX⟩:=xO hB;obtain⟨R,hR⟩:∃R,cA b=R:=⟨_,rfl⟩;rw[hR];have HR:=I hR;have J9:Ext w (w.alloc (J #[B C 0,B C 0,B C 0,B C 0,B C 0,E none 0 0] 30)):=xA (xR _) _;have Ja:=Blk.new w 30 #[B C 0,B C 0,B C 0,B C 0,B C 0,E none 0 0];have HT:=I hT;have HB:=I hB;have HN:=I J9;have K7:=I Ja;clear hR J9 Ja hB hT;refine(callsIn_wd (ro:=none) (n:=9)).1 ?_;refine callsIn_of_wp_marks Tryz.func34 rfl trivial ?_ rfl;simp only[Tryz.ntmps34,List.size_toArray,xC,List.length_nil,Nat.reduceAdd,Nat.reduceSub,Array.replicate_succ,Array.replicate_zero,List.push_toArray,List.append_toArray,xI,List.cons_append];gi_wp2;refine eU 0 (oH w b) (λa _=>0) rfl (λl' h=>by cases l'<;>first | exact absurd rfl h | rfl) ?_ ?_
 ·intro HI;have HE:=I HI;clear HI;by_cases hs4:b.length<4
  ·have H1:cA b=none:=by
    unfold cA;rw[show bN rT b=none from Dd hs4]
   gi_wp2_with (refine⟨trivial,?_⟩;gi_at_call 78;refine(callsIn_wd.2 (Du _ b _ (HB.out.ext HN) hs4)).mono ?_;rintro e N⟨rfl,Hh⟩)
   all_goals exact mcMTakea4
  ·have K6:=Dv (T:=rT) _ b _ (HB.out.ext HN) (by omega) hl (HT.out.ext HN).tab;cases Hj:bN rT b with
   |none=>
    have H1:cA b=none:=by unfold cA;rw[Hj]
    rw[Hj]at K6;have HK:=I K6;clear K6 Hj;gi_wp2_with (refine⟨trivial,?_⟩;gi_at_call 78;refine(callsIn_wd.2 HK).mono ?_;rintro e N⟨rfl,Hh⟩)
    all_goals exact mcMTakea4
   |some p=>
    rw[Hj]at K6;have HK:=I K6;have Jn:=Nt Hj;have Ko:=I (Nat.le_trans (DN Hj) hl);have K5:=I Jn;clear K6 Hj Jn;by_cases hp0:p.length=0
    ·obtain rfl:p=[]:=List.eq_nil_of_length_eq_zero hp0;have H1:cA b=none:=K5.out.1 rfl;gi_wp2_with (refine⟨trivial,?_⟩;gi_at_call 78;refine(callsIn_wd.2 HK).mono ?_;rintro e N⟨⟨A1,c1,rfl,y⟩,Hh⟩)
     all_goals exact mcMTakea4
    have JZ:((p.length:Int)==0)=false:=by rw[beq_eq_false_iff_ne];omega
    have G0:(1:Int)<=(p.length:Int):=by omega
    have Hk:=I (show 0<p.length by omega);by_cases hp3:p.length=1
    ·have Je:p.drop 1=[]:=P4 (by omega);have Hs:(ao 6 [] (p.drop 1)).1≠0:=by rw[Je];decide
     have H1:cA b=none:=K5.out.1 (by
      obtain⟨e,l,r,hq⟩:∃e l r,ao 6 [] (p.drop 1)=(e,l,r):=⟨_,_,_,rfl⟩;rw[hq]at Hs;exact ry hq (.inl Hs))
     obtain⟨q,hq⟩:∃q,ao 6 [] (p.drop 1)=q:=⟨_,rfl⟩;rw[hq]at Hs;have Jf:(q.1 != 0)=true:=by simpa using Hs
     have HQ:=I hq;have J0:=I hp3;clear hp3 Je hq Hs;gi_wp2_with (first
      |(refine⟨trivial,?_⟩;gi_at_call 78;refine(callsIn_wd.2 HK).mono ?_;rintro e N⟨⟨A1,c1,rfl,y⟩,Hh⟩;obtain⟨V,b1,K1,rfl,HS⟩:=Bs.at_ y.bs Hk;clear V HS;obtain⟨_,_,e9,HU,HV⟩:=xO y.bs;cases e9)
      |(refine⟨trivial,?_⟩;gi_at_call 79;refine(callsIn_wd.2 (iN _ (p.drop 1) 6 (hm:=by decide) N (by first | exact Bs.cut y.bs 1 (by have:=Hk.out;omega) rfl | exact Bs.cut0 (by rw[J0.out];exact xN _) rfl (by omega)) (by rw[P3,J0.out];decide))).mono ?_;rw[HQ.out];rintro e g⟨vl,vr,rfl,O,Kt,H6⟩))
     all_goals exact mcMTakea3
    have Jk:2<=p.length:=by have:=Hk.out;omega
    have KD:=I Jk;obtain⟨q,hq⟩:∃q,ao 6 [] (p.drop 1)=q:=⟨_,rfl⟩;have HQ:=I hq;clear hp3 Jk;by_cases Hs:q.1=0
    case neg=>
     have H1:cA b=none:=K5.out.1 (by
      obtain⟨q1,q2,q3⟩:=q;exact ry hq (.inl Hs))
     have Jf:(q.1 != 0)=true:=by simpa using Hs
     clear Hs hq;gi_wp2_with (first
      |(refine⟨trivial,?_⟩;gi_at_call 78;refine(callsIn_wd.2 HK).mono ?_;rintro e N⟨⟨A1,c1,rfl,y⟩,Hh⟩;obtain⟨V,b1,K1,rfl,HS⟩:=Bs.at_ y.bs Hk;clear V HS;obtain⟨_,_,e9,HU,HV⟩:=xO y.bs;cases e9;have Jd:¬c1=1:=by (have:=KD.out;omega))
      |(refine⟨trivial,?_⟩;gi_at_call 79;refine(callsIn_wd.2 (iN _ (p.drop 1) 6 (hm:=by decide) N (Bs.cut y.bs 1 (by have:=Hk.out;omega) rfl) (by rw[P3];have:=Ko.out;omega))).mono ?_;rw[HQ.out];rintro e g⟨vl,vr,rfl,O,Kt,H6⟩))
     all_goals exact mcMTakea3
    obtain⟨q1,q2,q3⟩:=q;obtain rfl:q1=0:=Hs;obtain⟨Jl,KV,_⟩:=mP hq;obtain⟨n0,n1,n2,n3,n4,n5,rfl⟩:∃n0 n1 n2 n3 n4 n5,q2=[n0,n1,n2,n3,n4,n5]:=by
     match q2,Jl with
     |[n0,n1,n2,n3,n4,n5],_=>exact⟨_,_,_,_,_,_,rfl⟩
    have JL:=KV n5 (by simp);obtain⟨f,rfl⟩:∃f:Nat,n5=(f:Int):=⟨n5.toNat,by omega⟩;clear Jl JL;by_cases h60:(f:Int)<=60
    case neg=>
     have H1:cA b=none:=K5.out.1 (ry hq (.inr (by simp;omega)));clear hq KV;gi_wp2_with (first
      |(refine⟨trivial,?_⟩;gi_at_call 78;refine(callsIn_wd.2 HK).mono ?_;rintro e N⟨⟨A1,c1,rfl,y⟩,Hh⟩;obtain⟨V,b1,K1,rfl,HS⟩:=Bs.at_ y.bs Hk;clear V HS;obtain⟨_,_,e9,HU,HV⟩:=xO y.bs;cases e9;have Jd:¬c1=1:=by (have:=KD.out;omega))
      |(refine⟨trivial,?_⟩;gi_at_call 79;refine(callsIn_wd.2 (iN _ (p.drop 1) 6 (hm:=by decide) N (Bs.cut y.bs 1 (by have:=Hk.out;omega) rfl) (by rw[P3];have:=Ko.out;omega))).mono ?_;rw[HQ.out];rintro e g⟨vl,vr,rfl,O,Kt,H6⟩;have O:g.ownsRow N.heap.size 3 1 vl 6 ([n0,n1,n2,n3,n4,(f:Int)].map iv):=O;obtain⟨A2,c2,rfl,KP,KQ⟩:=xO (xW O);obtain⟨V,m,H0,rfl,M⟩:=SlR.at_ (xW O) (by decide);clear V;have Kq:g.cell? ⟨m,H0+5,G⟩=F (B C f):=M 5 _ rfl;have Kz:Hid (g.cell? ⟨m,H0,G⟩=F (B C n0)/\g.cell? ⟨m,H0+1,G⟩=F (B C n1)/\g.cell? ⟨m,H0+2,G⟩=F (B C n2)/\g.cell? ⟨m,H0+3,G⟩=F (B C n3)/\g.cell? ⟨m,H0+4,G⟩=F (B C n4)):=⟨M 0 _ rfl,M 1 _ rfl,M 2 _ rfl,M 3 _ rfl,M 4 _ rfl⟩;clear M))
     all_goals exact mcMTakea3
    have Kb:f<=60:=by omega
    have Hy:=Ld (by have:=Hk.out;omega:1<=p.length) hq h60;rw[show(f:Int).toNat=f from by omega]at Hy;obtain⟨r,hr⟩:∃r,ao (6+4*f) [] (p.drop 1)=r:=⟨_,rfl⟩;rw[hr]at Hy;have KH:=I Hy;have KI:=I hr;have Kv:=I Kb;clear Hy hq KV hr;have Jz:=I (Ol Kb);gi_wp2_with (first
      |(refine⟨trivial,?_⟩;gi_at_call 78;refine(callsIn_wd.2 HK).mono ?_;rintro e N⟨⟨A1,c1,rfl,y⟩,Hh⟩;obtain⟨V,b1,K1,rfl,HS⟩:=Bs.at_ y.bs Hk;clear V HS;obtain⟨_,_,e9,HU,HV⟩:=xO y.bs;cases e9;have Jd:¬c1=1:=by (have:=KD.out;omega))
      |(refine⟨trivial,?_⟩;gi_at_call 79;refine(callsIn_wd.2 (iN _ (p.drop 1) 6 (hm:=by decide) N (Bs.cut y.bs 1 (by have:=Hk.out;omega) rfl) (by rw[P3];have:=Ko.out;omega))).mono ?_;rw[HQ.out];rintro e g⟨vl,vr,rfl,O,Kt,H6⟩;have O:g.ownsRow N.heap.size 3 1 vl 6 ([n0,n1,n2,n3,n4,(f:Int)].map iv):=O;obtain⟨A2,c2,rfl,KP,KQ⟩:=xO (xW O);obtain⟨V,m,H0,rfl,M⟩:=SlR.at_ (xW O) (by decide);clear V;have Kq:g.cell? ⟨m,H0+5,G⟩=F (B C f):=M 5 _ rfl;have Kz:Hid (g.cell? ⟨m,H0,G⟩=F (B C n0)/\g.cell? ⟨m,H0+1,G⟩=F (B C n1)/\g.cell? ⟨m,H0+2,G⟩=F (B C n2)/\g.cell? ⟨m,H0+3,G⟩=F (B C n3)/\g.cell? ⟨m,H0+4,G⟩=F (B C n4)):=⟨M 0 _ rfl,M 1 _ rfl,M 2 _ rfl,M 3 _ rfl,M 4 _ rfl⟩;clear M))
    have KK:Ext N g:=H6;have KT:=I O;have JV:N.heap.size<=m:=(fH O rfl).1;have Hr:w.heap.size<N.heap.size:=(K7.out.ext Hh).lt;have Jw:=I (Bs.cut y.bs 1 (by have:=Hk.out;omega) rfl);have Kw:=I (xT Hh H6);have Kx:=I H6;clear O Kt H6 KK y;refine mq (S:=λW=>W.cell? ⟨m,H0+5,G⟩=F (B C (f:Int))) (by kernel_rfl) Kq (λhHeld=>?_);have JQ:=PV Kv;refine ab 0 ?_;refine ab 1 ?_;refine ab 2 ?_;refine ab 3 ?_;refine ab 4 ?_;refine ab 5 ?_;refine ab 6 ?_;clear JQ;refine ah 7 (λK hK=>?_);go_simp;rw[Jz.out];with_reducible refine(iN _ (p.drop 1) (6+4*f) (hm:=by have:=Kv.out;omega) _ ((Jw.out.ext Kx.out).ext (xD (xR _))) (by rw[P3];have:=Ko.out;omega)).mono ?_
    rw[KI.out];rintro e w3⟨G2,G3,rfl,HW,KU,J7⟩;have Ha:=I (xT (xD (xR g)) J7);have K8:=I HW;obtain⟨A3,c3,rfl,Ke,JI⟩:=xO (xW HW);clear J7 HW KU;refine af hK _ _ (Ha.out.cell Kq) (λhHeld=>?_);refine ab 8 ?_;refine ab 9 ?_;refine ab 10 ?_;refine ab 11 ?_;refine ab 12 ?_;refine ab 13 ?_;refine aq ?_;refine mC ?_;have Hu:=I (xT Kw Ha);by_cases he7:r.1=0
    case neg=>
     have H1:cA b=none:=K5.out.1 (by rw[KH.out,if_neg he7]);have Jf:(r.1 != 0)=true:=by simpa using he7
     clear he7;gi_wp2
     all_goals
      refine wpIn_goto ?_;try simp only[Exit.then]
      refine(show Exit.jumps [0] (λ_=>oH w b) _ (Exit.goto 0) _ _ from ?_);refine bI (h:=by simp) ?_;exact⟨H1,.inl rfl,rfl,rfl,⟨_,_,_,_,_,_,K7.out.ext Hu⟩,xT HN Hu⟩
    obtain⟨r1,d,r3⟩:=r;obtain rfl:r1=0:=he7;have Hy:=KH.out;rw[if_pos rfl]at Hy;dsimp only at Hy;obtain⟨Jt,Ju,_⟩:=mP KI;have Hw:=K7.out.ext Hu;have f0:=Hw.frozen 0;have f1:=Hw.frozen 1;have f2:=Hw.frozen 2;have f3:=Hw.frozen 3;have f4:=Hw.frozen 4;have f5:=Hw.frozen 5;have eb:=aj Hw;obtain⟨l0,l1,l2,l3,l4⟩:=Kz.out;have k0:=Ha.out.cell l0;have k1:=Ha.out.cell l1;have k2:=Ha.out.cell l2;have k3:=Ha.out.cell l3;have k4:=Ha.out.cell l4;have Km:=I Hw;have K9:=I Hy;have J2:=I Jt;have J3:=I Ju;clear Hy Jt Ju Hw l0 l1 l2 l3 l4 KH KI hHeld Kq;clear f0 f1 f2 f3 f4 f5 eb;gi_wp2;refine mq (S:=λW=>W.cell? ⟨m,H0,G⟩=F (B C n0)/\W.cell? ⟨m,H0+1,G⟩=F (B C n1)/\W.cell? ⟨m,H0+2,G⟩=F (B C n2)/\W.cell? ⟨m,H0+3,G⟩=F (B C n3)/\W.cell? ⟨m,H0+4,G⟩=F (B C n4)) (by kernel_rfl) ⟨k0,k1,k2,k3,k4⟩ (λhHeld=>?_);refine ab 0 ?_;refine ab 1 ?_;refine ab 2 ?_;refine ab 3 ?_;refine ab 4 ?_;refine ab 5 ?_;refine ab 6 ?_;refine ab 7 ?_;refine ab 8 ?_;refine ab 9 ?_;refine ab 10 ?_;refine ab 11 ?_;refine ab 12 ?_;refine ab 13 ?_;refine ab 14 ?_;refine ab 15 ?_;refine ab 16 ?_;have H9:=Km.out;have f0:=H9.frozen 0;have f1:=H9.frozen 1;have f2:=H9.frozen 2;have f3:=H9.frozen 3;have f4:=H9.frozen 4;have f5:=H9.frozen 5;have eb:=aj H9;refine ah 17 (λK hK=>?_);go_simp;have Ht:∀k,((⟨m,k,G⟩:Addr).block≠w.heap.size):=λk=>by dsimp only;omega
    refine af hK _ _ ⟨Pe (xD (xR _)) (mJ k0 (Ht _) _ _ _ _ _ _),Pe (xD (xR _)) (mJ k1 (Ht _) _ _ _ _ _ _),Pe (xD (xR _)) (mJ k2 (Ht _) _ _ _ _ _ _),Pe (xD (xR _)) (mJ k3 (Ht _) _ _ _ _ _ _),Pe (xD (xR _)) (mJ k4 (Ht _) _ _ _ _ _ _)⟩ (λhHeld=>?_);refine aq ?_;refine mC ?_;have KL:Ext w (aO w3 w.heap.size (B C n0) (B C n1) (B C n2) (B C n3) (B C n4) (E none 0 0)).drew:=xD (dD (xT HN Hu) (xN _) _ _ _ _ _ _);have HP:Blk (aO w3 w.heap.size (B C n0) (B C n1) (B C n2) (B C n3) (B C n4) (E none 0 0)).drew w.heap.size 30 #[B C n0,B C n1,B C n2,B C n3,B C n4,E none 0 0]:=(cQ Km (B C n0) (B C n1) (B C n2) (B C n3) (B C n4) (E none 0 0)).ext (xD (xR _));have HX:(aO w3 w.heap.size (B C n0) (B C n1) (B C n2) (B C n3) (B C n4) (E none 0 0)).drew.ownsRow g.drew.heap.size 3 1 (E A3 d.length c3) d.length (d.map iv):=ai (cU Km (H4:=(by decide:(30:TypeId)≠3)) K8 (B C n0) (B C n1) (B C n2) (B C n3) (B C n4) (E none 0 0)) (xD (xR _));obtain⟨W4,Kp⟩:∃W4,(aO w3 w.heap.size (B C n0) (B C n1) (B C n2) (B C n3) (B C n4) (E none 0 0)).drew=W4:=⟨_,rfl⟩;rw[Kp]at KL HP HX;delta aO at Kp
    rw[Kp];have Js:d.length=6+4*f:=J2.out;obtain⟨es,Kf,Kg,Kh⟩:=BV (d.drop 6) f (by rw[P3];omega);rw[Kh]at K9;have KJ:=I Kf;have Kn:=I Kg;have Kl:=I HP;have KY:=I KL;have KA:=I HX;have G1:(6:Int)<=(d.length:Int):=by omega
    have Jx:=I Ke;have J1:=I Js;clear Kp f0 f1 f2 f3 f4 f5 k0 k1 k2 k3 k4 hHeld H9 Ht KL HP HX Js Kf Kg Kh Km K8 Ke Kz KT J2 eb;obtain⟨V,z,H3,rfl,KR⟩:=SlR.at_ (xW KA) (by have:=J1.out;omega);clear V KR;have J4:Hid (∀s∈es,0<=s.count/\s.count<=1073741824):=λs hs=>J3.out _ (List.mem_of_mem_drop (by rw[<-KJ.out];exact LF hs));have HH:es.length<=60:=by have:=Kn.out;have:=Kv.out;omega
    have Hc:=I HH;clear HH J3;by_cases hc6:c3=6
    ·have Kc:∀X:World,X.ownsRow g.drew.heap.size 3 1 (E (F ⟨z,H3,G⟩) d.length c3) d.length (d.map iv)->Is X (E (F ⟨z,H3,G⟩) (d.length-6) 0) (ea es):=by
      intro X hX;have:=Jx.out;have e1:d.length-6=0:=by omega
      rw[KJ.out,P4 (by omega),e1];exact SlR.empty _ 1 (Nat.zero_le _)
     have Ky:=I Kc;clear Kc;gi_wp2_with (refine⟨trivial,?_⟩;gi_at_call 80;refine(callsIn_wd.2 (tX _ _ _ _)).mono ?_;rintro e w' ⟨rfl,rfl⟩)
     have q1:Boxed ((W4.alloc (J #[E (F ⟨z,H3,G⟩) (d.length-6) 0] 64)).alloc (J #[B C 4] 3)) W4.heap.size 64 (E (F ⟨z,H3,G⟩) (d.length-6) 0):=(Boxed.new W4 _ _).alloc _;have q2:Boxed ((W4.alloc (J #[E (F ⟨z,H3,G⟩) (d.length-6) 0] 64)).alloc (J #[B C 4] 3)) (W4.heap.size+1) 3 (B C 4):=by
      have:=Boxed.new (W4.alloc (J #[E (F ⟨z,H3,G⟩) (d.length-6) 0] 64)) 3 (B C 4);rwa[xS]at this
     have H6:Ext W4 ((W4.alloc (J #[E (F ⟨z,H3,G⟩) (d.length-6) 0] 64)).alloc (J #[B C 4] 3)):=xA (xA (xR _) _) _;generalize(W4.alloc (J #[E (F ⟨z,H3,G⟩) (d.length-6) 0] 64)).alloc (J #[B C 4] 3)=w5 at *;have Q:=Kl.out.ext H6;have Hr:=cQ Q (H true) (H true) (H true) (H true) (H true) (H true);have Hm:=Ky.out _ (cU Q (H4:=(by decide:(30:TypeId)≠3)) (ai KA H6) (H true) (H true) (H true) (H true) (H true) (H true));obtain⟨wo,Hz⟩:∃wo,aO w5 w.heap.size (H true) (H true) (H true) (H true) (H true) (H true)=wo:=⟨_,rfl⟩;have HY:∀(p:Addr) (u:Value),p.block≠w.heap.size->wo.cell? p=F u->w5.cell? p=F u:=λp u hp h=>zl hp (by rw[Hz];exact h);have Hr:Blk wo w.heap.size 30 #[.bool true,H true,H true,H true,H true,H true]:=by rw[<-Hz];exact Hr
     rw[Hz]at Hm;have KM:=xT KY H6;have h0:TkS w w5.heap.size n0 n1 n2 n3 n4 wo [] w5:=⟨_,_,Q,P1 _ _ _ _,KM,HY⟩;have JF:w.heap.size<W4.heap.size:=Kl.out.lt;have Jr:w.heap.size<w5.heap.size:=Q.lt;have KE:=I q1;have KF:=I q2;have Jv:=I Q;have KX:=I Hr;have KC:=I HY;clear q1 q2 H6 Q Hr HY Hz;refine mB (λT hT=>?_);refine dV (a:=⟨T,[]⟩) (by subst hT;rfl) (enters_of Tryz.func149 (by kernel_rfl) rfl)
      (λW1 hb hs=>yb wo W1 _ es Hm (by have:=Hc.out;omega) W4.heap.size (W4.heap.size+1) (KE.out.kept (row:=none) (Pf hb none) (by simp)) (KF.out.kept (row:=none) (Pf hb none) (by simp)))
      (λk o h=>h.elim) (λk o h=>by rcases h with h | h<;>exact eE h.2) (λx av W h=>by obtain⟨_,_,rfl,_⟩:=h;rfl)
      (TkS w w5.heap.size n0 n1 n2 n3 n4 wo) (λ_ _ _=>False) ?hIp (λ_ _ _ _ h _=>h) h0
      (λe a' W=>∃b Z,Is W (E (F ⟨b,Z,G⟩) 4 4) [e.seq,e.fmt,e.first,e.count]/\(b≠w.heap.size/\b<w5.heap.size)/\a'=⟨(T.setIfInBounds 72 (E (F ⟨b,Z,G⟩) 4 4)).setIfInBounds 8 (E (F ⟨b,Z,G⟩) 4 4),[]⟩)
      ?hAxp ?assignp ?bodyp ?donep (λ_ _ _ _ _ _ h _=>h.elim)
     case hIp=>
      exact mcMTakea5
     case hAxp=>
      rintro e a' X Y⟨b,Z,hu,Ht,rfl⟩hm;refine⟨b,Z,SlR.keep hu (λq t hq=>hm.cell hq (λo _ hc=>?_)),Ht,rfl⟩;rintro(h | h)
      ·exact h
      rw[hc]at h;cases h.2
     case assignp=>
      exact mcMTakea2
     case bodyp=>
      rintro l' H2 x Kk a' W hx JK hr⟨Av,cv,hB,hO,hE,hH⟩K0⟨b',H4,hu,⟨H7,HO⟩,rfl⟩;have JN:H2.length<=60:=by have:=congrArg P6 hx;have:=Hc.out;simp at *;omega
      have Kj:=J4.out x (by rw[hx];simp);have Hp:(H2++[x]).map dec=H2.map dec++[dec x]:=by simp
      have Ka:=I Hp;clear hx Hp;obtain⟨y0,y1,y2,y3⟩:=x;dsimp only at hu Kj;obtain⟨d0,d1,d2,d3⟩:=is4 hu;have JP:P9.wrap (y3-1)=y3-1:=by rw[Pa];omega
      obtain⟨_,_,_,_,_,g5⟩:=aj hB;have HJ:=I hB;have Hv:=I hO;have HA:=I hE;have KZ:=I hH;clear hB hO hE hH hu Kj;subst hT;gi_wp2;refine sV (S:=λW=>W.cell? ⟨b',H4,G⟩=F (B C y0)/\W.cell? ⟨b',H4+1,G⟩=F (B C y1)/\W.cell? ⟨b',H4+2,G⟩=F (B C y2)/\W.cell? ⟨b',H4+3,G⟩=F (B C y3)) (by kernel_rfl) (by kernel_rfl) ⟨d0,d1,d2,d3⟩ (λhHeld=>?_);refine ab 0 ?_;refine ab 2 ?_;refine ab 3 ?_;refine ab 4 ?_;refine ab 5 ?_;refine ab 6 ?_;refine ab 7 ?_;refine ab 8 ?_;refine ab 9 ?_;refine ab 10 ?_;refine ab 11 ?_;refine ab 12 ?_;refine ab 13 ?_;refine ab 14 ?_;refine ab 15 ?_;have X6:Ext W (W.alloc (J #[B C y0,B C y1,B C y2,B C (y3-1)] 36)).drew:=xD (xA (xR _) _);have J5:W.drew.cell? ⟨w.heap.size,5,G⟩=F (E Av H2.length cv):=g5;have J6:=X6.cell g5;refine qH (i:=1) (j:=16) (vi:=E Av H2.length cv) (vj:=E (F ⟨W.heap.size,0,G⟩) 1 1) (w':=(W.alloc (J #[B C y0,B C y1,B C y2,B C (y3-1)] 36)).drew) rfl rfl (by kernel_rfl) (by kernel_rfl) (by kernel_rfl) (by rfl) (by rfl) (by rfl) (by rfl) (by rfl) (by rfl) hHeld ⟨X6.cell d0,X6.cell d1,X6.cell d2,X6.cell d3⟩ ?h1p ?h2p ?h3p ?h4p ?h5p
      case h1p=>go_simp
      case h2p=>go_simp
      case h3p=>go_simp
      case h4p=>go_simp
      case' h5p=>skip
      exact mcMTakea1
     case donep=>
      exact mcMTakea0
    have Kc:∀X:World,X.ownsRow g.drew.heap.size 3 1 (E (F ⟨z,H3,G⟩) d.length c3) d.length (d.map iv)->Is X (E (F ⟨z,H3+6,G⟩) (d.length-6) (c3-6)) (ea es):=by
     intro X hX;have:=SlR.drop1 (xW hX) 6 (by have:=J1.out;omega);rw[KJ.out];unfold Is;rw[P3,List.map_drop];exact this
    have Ky:=I Kc;clear Kc;gi_wp2_with (refine⟨trivial,?_⟩;gi_at_call 80;refine(callsIn_wd.2 (tX _ _ _ _)).mono ?_;rintro e w' ⟨rfl,rfl⟩)
    have q1:Boxed ((W4.alloc (J #[E (F ⟨z,H3+6,G⟩) (d.length-6) (c3-6)] 64)).alloc (J #[B C 4] 3)) W4.heap.size 64 (E (F ⟨z,H3+6,G⟩) (d.length-6) (c3-6)):=(Boxed.new W4 _ _).alloc _;have q2:Boxed ((W4.alloc (J #[E (F ⟨z,H3+6,G⟩) (d.length-6) (c3-6)] 64)).alloc (J #[B C 4] 3)) (W4.heap.size+1) 3 (B C 4):=by
     have:=Boxed.new (W4.alloc (J #[E (F ⟨z,H3+6,G⟩) (d.length-6) (c3-6)] 64)) 3 (B C 4);rwa[xS]at this
    have H6:Ext W4 ((W4.alloc (J #[E (F ⟨z,H3+6,G⟩) (d.length-6) (c3-6)] 64)).alloc (J #[B C 4] 3)):=xA (xA (xR _) _) _;generalize(W4.alloc (J #[E (F ⟨z,H3+6,G⟩) (d.length-6) (c3-6)] 64)).alloc (J #[B C 4] 3)=w5 at *;have Q:=Kl.out.ext H6;have Hr:=cQ Q (H true) (H true) (H true) (H true) (H true) (H true);have Hm:=Ky.out _ (cU Q (H4:=(by decide:(30:TypeId)≠3)) (ai KA H6) (H true) (H true) (H true) (H true) (H true) (H true));obtain⟨wo,Hz⟩:∃wo,aO w5 w.heap.size (H true) (H true) (H true) (H true) (H true) (H true)=wo:=⟨_,rfl⟩;have HY:∀(p:Addr) (u:Value),p.block≠w.heap.size->wo.cell? p=F u->w5.cell? p=F u:=λp u hp h=>zl hp (by rw[Hz];exact h);have Hr:Blk wo w.heap.size 30 #[.bool true,H true,H true,H true,H true,H true]:=by rw[<-Hz];exact Hr
    rw[Hz]at Hm;have KM:=xT KY H6;have h0:TkS w w5.heap.size n0 n1 n2 n3 n4 wo [] w5:=⟨_,_,Q,P1 _ _ _ _,KM,HY⟩;have JF:w.heap.size<W4.heap.size:=Kl.out.lt;have Jr:w.heap.size<w5.heap.size:=Q.lt;have KE:=I q1;have KF:=I q2;have Jv:=I Q;have KX:=I Hr;have KC:=I HY;clear q1 q2 H6 Q Hr HY Hz;refine mB (λT hT=>?_);refine dV (a:=⟨T,[]⟩) (by subst hT;rfl) (enters_of Tryz.func149 (by kernel_rfl) rfl)
     (λW1 hb hs=>yb wo W1 _ es Hm (by have:=Hc.out;omega) W4.heap.size (W4.heap.size+1) (KE.out.kept (row:=none) (Pf hb none) (by simp)) (KF.out.kept (row:=none) (Pf hb none) (by simp)))
     (λk o h=>h.elim) (λk o h=>by rcases h with h | h<;>exact eE h.2) (λx av W h=>by obtain⟨_,_,rfl,_⟩:=h;rfl)
     (TkS w w5.heap.size n0 n1 n2 n3 n4 wo) (λ_ _ _=>False) ?hIq (λ_ _ _ _ h _=>h) h0
     (λe a' W=>∃b Z,Is W (E (F ⟨b,Z,G⟩) 4 4) [e.seq,e.fmt,e.first,e.count]/\(b≠w.heap.size/\b<w5.heap.size)/\a'=⟨(T.setIfInBounds 72 (E (F ⟨b,Z,G⟩) 4 4)).setIfInBounds 8 (E (F ⟨b,Z,G⟩) 4 4),[]⟩)
     ?hAxq ?assignq ?bodyq ?doneq (λ_ _ _ _ _ _ h _=>h.elim)
    case hIq=>
     exact mcMTakea5
    case hAxq=>
     rintro e a' X Y⟨b,Z,hu,Ht,rfl⟩hm;refine⟨b,Z,SlR.keep hu (λq t hq=>hm.cell hq (λo _ hc=>?_)),Ht,rfl⟩;rintro(h | h)
     ·exact h
     rw[hc]at h;cases h.2
    case assignq=>
     exact mcMTakea2
    case bodyq=>
     rintro l' H2 x Kk a' W hx JK hr⟨Av,cv,hB,hO,hE,hH⟩K0⟨b',H4,hu,⟨H7,HO⟩,rfl⟩;have JN:H2.length<=60:=by have:=congrArg P6 hx;have:=Hc.out;simp at *;omega
     have Kj:=J4.out x (by rw[hx];simp);have Hp:(H2++[x]).map dec=H2.map dec++[dec x]:=by simp
     have Ka:=I Hp;clear hx Hp;obtain⟨y0,y1,y2,y3⟩:=x;dsimp only at hu Kj;obtain⟨d0,d1,d2,d3⟩:=is4 hu;have JP:P9.wrap (y3-1)=y3-1:=by rw[Pa];omega
     obtain⟨_,_,_,_,_,g5⟩:=aj hB;have HJ:=I hB;have Hv:=I hO;have HA:=I hE;have KZ:=I hH;clear hB hO hE hH hu Kj;subst hT;gi_wp2;refine sV (S:=λW=>W.cell? ⟨b',H4,G⟩=F (B C y0)/\W.cell? ⟨b',H4+1,G⟩=F (B C y1)/\W.cell? ⟨b',H4+2,G⟩=F (B C y2)/\W.cell? ⟨b',H4+3,G⟩=F (B C y3)) (by kernel_rfl) (by kernel_rfl) ⟨d0,d1,d2,d3⟩ (λhHeld=>?_);refine ab 0 ?_;refine ab 2 ?_;refine ab 3 ?_;refine ab 4 ?_;refine ab 5 ?_;refine ab 6 ?_;refine ab 7 ?_;refine ab 8 ?_;refine ab 9 ?_;refine ab 10 ?_;refine ab 11 ?_;refine ab 12 ?_;refine ab 13 ?_;refine ab 14 ?_;refine ab 15 ?_;have X6:Ext W (W.alloc (J #[B C y0,B C y1,B C y2,B C (y3-1)] 36)).drew:=xD (xA (xR _) _);have J5:W.drew.cell? ⟨w.heap.size,5,G⟩=F (E Av H2.length cv):=g5;have J6:=X6.cell g5;refine qH (i:=1) (j:=16) (vi:=E Av H2.length cv) (vj:=E (F ⟨W.heap.size,0,G⟩) 1 1) (w':=(W.alloc (J #[B C y0,B C y1,B C y2,B C (y3-1)] 36)).drew) rfl rfl (by kernel_rfl) (by kernel_rfl) (by kernel_rfl) (by rfl) (by rfl) (by rfl) (by rfl) (by rfl) (by rfl) hHeld ⟨X6.cell d0,X6.cell d1,X6.cell d2,X6.cell d3⟩ ?h1q ?h2q ?h3q ?h4q ?h5q
     case h1q=>go_simp
     case h2q=>go_simp
     case h3q=>go_simp
     case h4q=>go_simp
     case' h5q=>skip
     exact mcMTakea1
    case doneq=>
     exact mcMTakea0
 ·rintro⟨TT,df⟩W⟨H1,hd,K0,h2,⟨x0,x1,x2,x3,x4,x5,hb⟩,hE⟩;dsimp only at K0 h2 hd;have hT:=fM 106 TT K0;generalize hU:(λi=>TT.getD i undef)=U at hT;have g2:U 2=L (F ⟨w.heap.size,0,G⟩):=by rw[<-hU];exact h2
  have JH:TT = #[U 0,U 1,L (F ⟨w.heap.size,0,G⟩),U 3,U 4,U 5,U 6,U 7,U 8,U 9,U 10,U 11,U 12,U 13,U 14,U 15,U 16,U 17,U 18,U 19,U 20,U 21,U 22,U 23,U 24,U 25,U 26,U 27,U 28,U 29,U 30,U 31,U 32,U 33,U 34,U 35,U 36,U 37,U 38,U 39,U 40,U 41,U 42,U 43,U 44,U 45,U 46,U 47,U 48,U 49,U 50,U 51,U 52,U 53,U 54,U 55,U 56,U 57,U 58,U 59,U 60,U 61,U 62,U 63,U 64,U 65,U 66,U 67,U 68,U 69,U 70,U 71,U 72,U 73,U 74,U 75,U 76,U 77,U 78,U 79,U 80,U 81,U 82,U 83,U 84,U 85,U 86,U 87,U 88,U 89,U 90,U 91,U 92,U 93,U 94,U 95,U 96,U 97,U 98,U 99,U 100,U 101,U 102,U 103,U 104,U 105]:=by rw[hT];show(#[U 0,U 1,U 2,U 3,U 4,U 5,U 6,U 7,U 8,U 9,U 10,U 11,U 12,U 13,U 14,U 15,U 16,U 17,U 18,U 19,U 20,U 21,U 22,U 23,U 24,U 25,U 26,U 27,U 28,U 29,U 30,U 31,U 32,U 33,U 34,U 35,U 36,U 37,U 38,U 39,U 40,U 41,U 42,U 43,U 44,U 45,U 46,U 47,U 48,U 49,U 50,U 51,U 52,U 53,U 54,U 55,U 56,U 57,U 58,U 59,U 60,U 61,U 62,U 63,U 64,U 65,U 66,U 67,U 68,U 69,U 70,U 71,U 72,U 73,U 74,U 75,U 76,U 77,U 78,U 79,U 80,U 81,U 82,U 83,U 84,U 85,U 86,U 87,U 88,U 89,U 90,U 91,U 92,U 93,U 94,U 95,U 96,U 97,U 98,U 99,U 100,U 101,U 102,U 103,U 104,U 105]:Array Value)=_;rw[g2]
  clear hT hU K0 g2 h2;subst JH;have Kd:R=none:=by rw[<-HR.out];exact H1
  subst Kd;clear H1;have f0:=hb.frozen 0;have f1:=hb.frozen 1;have f2:=hb.frozen 2;have f3:=hb.frozen 3;have f4:=hb.frozen 4;have f5:=hb.frozen 5;have eb:=aj hb;have Jc:=cQ hb (B C 0) (B C 0) (B C 0) (B C 0) (B C 0) (E none 0 0);have Jg:=dD hE (b:=w.heap.size) (xN _) (B C 0) (B C 0) (B C 0) (B C 0) (B C 0) (E none 0 0);have KW:=I Jc;have Kn:=I Jg;clear Jc Jg;rcases hd with rfl | ⟨D,rfl,hK,hD⟩
  ·gi_wp2;refine bJ ?_;exact⟨.tuple #[.agg #[B C 0,B C 0,B C 0,B C 0,B C 0,E none 0 0],B C 11],rv _ _ _ _ (B C 11) rfl rfl KW rfl,E none 0 0,rfl,P1 _ _ _ _,Kn.out⟩
  ·have HD:=I (yL hK rfl w.heap.size (B C 0) (B C 0) (B C 0) (B C 0) (B C 0) (E none 0 0));clear hK;gi_wp2;refine bJ ?_;exact dh HD (.tuple #[.agg #[B C 0,B C 0,B C 0,B C 0,B C 0,E none 0 0],B C 11]) (rv _ _ _ _ (B C 11) rfl rfl (pM KW HD rfl _) rfl) ⟨E none 0 0,rfl,P1 _ _ _ _,cp Kn (hD:=hD) _⟩
