/- Merged -/
import Derived.Test.YtgonhdeochgkoaaGreatDoorZx36
import Derived.Test.YtgonhdeochgkoaaGreatDoorZx37
set_option linter.all false
set_option maxHeartbeats 8000000
set_option maxRecDepth 100000
open Go.World renaming cell?_setCell_other→P0,ownsRow_nil→P1,block_lt_of_cell?→P2
open List renaming length_drop→P3,drop_of_length_le→P4,length_map→P5,length→P6
open Array renaming getElem?_eq_some_iff→P7
open Option.some renaming inj→P8
open Go.IntKind renaming i64→P9,wrap_i64→Pa,signed→Pb,wrap→Pc,bits→Pd
open Go.Mv.Ext renaming cell→Pe,grown→Pf
namespace Go.Proofs.YtgonhdeochgkoaaGreatDoor
open Go.RowKit Go.Mv Go.Shelf
theorem mcMTakea0 {P:Prop} (h:P:=by
 rintro D W hD ⟨Av,cv,hB,hO,hE,hH⟩ hK
 have HZ:=zjm ⟨n0,n1,n2,n3,n4,es.map dec⟩ (.slice Av es.length cv) W (by
  show SlR W 4 (.slice Av es.length cv) (es.map dec).length _
  rw[P5]
  exact xW hO) (HT.out.ext hE)
 have hm:=K5.out.2 _ K9.out;rw[HR.out] at hm
 have hm:R=if zbs ⟨n0,n1,n2,n3,n4,es.map dec⟩=some b then some ⟨n0,n1,n2,n3,n4,es.map dec⟩ else none:=hm
 obtain ⟨P,hP⟩:∃ P,zbs ⟨n0,n1,n2,n3,n4,es.map dec⟩=P:=⟨_,rfl⟩;rw[hP] at HZ hm;have HL:=zhd HZ;have HM:=zhd hm;have K4:=zhd hK;have HJ:=zhd hB;have Hv:=zhd hO;have HA:=zhd hE;obtain ⟨m0,m1,m2,m3,m4,m5⟩:=zan hB;clear HZ hm hP hK hB hO hE hH;subst hT
 cases P with
 | none =>
  have Kd:R=none:=by rw[HM.out];rfl
  clear HM;subst Kd
  gi_wp2_with (first
   | (refine ⟨trivial,?_⟩;gi_at_call 46;refine (callsIn_wd.2 HL.out).mono ?_;rintro e w6 ⟨⟨vs,rfl,Kr⟩,He⟩;have b6:=HJ.out.ext He;obtain ⟨Ju,Jv,Jw,Jx,Jy,Jz⟩:=zan b6;have f0:=b6.frozen 0;have f1:=b6.frozen 1;have f2:=b6.frozen 2;have f3:=b6.frozen 3;have f4:=b6.frozen 4;have f5:=b6.frozen 5;have HG:w6.heap[D]?=some (.deferred (some [])):=(He.block D (P7.1 K4.out).1).trans K4.out;have HD:=zhd HG;have K2:=zhd b6;have K3:=zhd He;clear b6 HG)
   | (refine ⟨trivial,?_⟩))
  refine wpIn_label ?_
  gi_step
  gi_step
  refine HE.out _ _ ⟨HR.out,.inr ⟨D,rfl,HD.out,by omega⟩,rfl,rfl,⟨_,_,_,_,_,_,K2.out⟩,xT HA.out K3.out⟩
 | some s =>
  by_cases hsb:b=s
  ·have JO:decide (b=s)=true:=by simpa using hsb
   have JL:R=some ⟨n0,n1,n2,n3,n4,es.map dec⟩:=by rw[HM.out,if_pos (congrArg some hsb.symm)]
   clear hsb HM;subst JL
   gi_wp2_with (first
    | (refine ⟨trivial,?_⟩;gi_at_call 46;refine (callsIn_wd.2 HL.out).mono ?_;rintro e w6 ⟨⟨vs,rfl,Kr⟩,He⟩;have b6:=HJ.out.ext He;obtain ⟨Ju,Jv,Jw,Jx,Jy,Jz⟩:=zan b6;have f0:=b6.frozen 0;have f1:=b6.frozen 1;have f2:=b6.frozen 2;have f3:=b6.frozen 3;have f4:=b6.frozen 4;have f5:=b6.frozen 5;have HG:w6.heap[D]?=some (.deferred (some [])):=(He.block D (P7.1 K4.out).1).trans K4.out;have HD:=zhd HG;have K2:=zhd b6;have K3:=zhd He;clear b6 HG)
    | (refine ⟨trivial,?_⟩;gi_at_call 105;refine (callsIn_wd.2 (zbk _ _ b s w6 (HB.out.ext (xT HA.out He)) (xW Kr))).mono ?_;rintro e w7 ⟨rfl,rfl⟩))
   refine zat ?_
   have KM:=zjG HD.out rfl w.heap.size (.int .i64 n0) (.int .i64 n1) (.int .i64 n2) (.int .i64 n3) (.int .i64 n4) (.slice Av es.length cv)
   refine zbc KM (.tuple #[.agg #[.int .i64 n0,.int .i64 n1,.int .i64 n2,.int .i64 n3,.int .i64 n4,.slice Av es.length cv],.int .i64 0]) (ziI _ _ _ _ (.int .i64 0) rfl rfl (zfk (zby K2.out (.int .i64 n0) (.int .i64 n1) (.int .i64 n2) (.int .i64 n3) (.int .i64 n4) (.slice Av es.length cv)) KM rfl _) rfl) ⟨.slice Av es.length cv,rfl,?_,zaq (zbM (xT HA.out K3.out) (xN _) _ _ _ _ _ _) (by omega) _⟩
   show World.ownsRow _ w.heap.size 74 4 (.slice Av es.length cv) (es.map dec).length (zaF (es.map dec))
   rw[P5]
   exact zai (ownsRow_putObj (zc6 K2.out (by decide:(30:TypeId)≠74) (zaf Hv.out K3.out) (.int .i64 n0) (.int .i64 n1) (.int .i64 n2) (.int .i64 n3) (.int .i64 n4) (.slice Av es.length cv)) (.deferred none) KM rfl) (by omega)
  ·have JO:decide (b=s)=false:=by simpa using hsb
   have Kd:R=none:=by rw[HM.out,if_neg (fun h=>hsb (P8 h).symm)]
   clear hsb HM;subst Kd
   gi_wp2_with (first
    | (refine ⟨trivial,?_⟩;gi_at_call 46;refine (callsIn_wd.2 HL.out).mono ?_;rintro e w6 ⟨⟨vs,rfl,Kr⟩,He⟩;have b6:=HJ.out.ext He;obtain ⟨Ju,Jv,Jw,Jx,Jy,Jz⟩:=zan b6;have f0:=b6.frozen 0;have f1:=b6.frozen 1;have f2:=b6.frozen 2;have f3:=b6.frozen 3;have f4:=b6.frozen 4;have f5:=b6.frozen 5;have HG:w6.heap[D]?=some (.deferred (some [])):=(He.block D (P7.1 K4.out).1).trans K4.out;have HD:=zhd HG;have K2:=zhd b6;have K3:=zhd He;clear b6 HG)
    | (refine ⟨trivial,?_⟩;gi_at_call 105;refine (callsIn_wd.2 (zbk _ _ b s w6 (HB.out.ext (xT HA.out He)) (xW Kr))).mono ?_;rintro e w7 ⟨rfl,rfl⟩))
   refine wpIn_label ?_
   gi_step
   gi_step
   refine HE.out _ _ ⟨HR.out,.inr ⟨D,rfl,HD.out,by omega⟩,rfl,rfl,⟨_,_,_,_,_,_,K2.out⟩,xT HA.out K3.out⟩):P:=h
theorem mcMTakea1 {P:Prop} (h:P:=by
 try simp only[Act.put,sA,sZ,sS]
 have Jl:SlR (W.alloc (.cells #[.int .i64 y0,.int .i64 y1,.int .i64 y2,.int .i64 (y3-1)] 74)).drew 4 (.slice (some ⟨W.heap.size,0,none⟩) 1 1) 1 (zaF [⟨y0,y1,y2,y3-1⟩]):=SlR.ext (zjF W [⟨y0,y1,y2,y3-1⟩] 1 rfl (by simp[maxLen])) (xD (xR _))
 have Hl:=zhd X6;have JF:=zhd Jl
 have Hn:w5.heap.size≤(W.alloc (.cells #[.int .i64 y0,.int .i64 y1,.int .i64 y2,.int .i64 (y3-1)] 74)).drew.heap.size:=Nat.le_trans K0 X6.size
 obtain ⟨i0,hi,JW,JX,JY⟩:=info_parts zjC;clear Jl X6 J4 J5
 refine ar1 17 rfl (fun K hK=>?_)
 refine zcK _ (.tmp 74) (.tmp 89) 28 (by rfl) w5.heap.size 74 i0 _ 4 32 Tryz.underlying28 hi JW JX JY rfl (by decide) (.slice Av H2.length cv) H2.length (zaF (H2.map dec)) (by rfl) (zaf Hv.out Hl.out) _ 1 (zaF [⟨y0,y1,y2,y3-1⟩]) (by rfl) JF.out (zkT _) (by unfold maxLen;omega) (by omega) Hn ?_
 intro v7 w7 Ks Hx;have KN:=HJ.out.ext Hl.out
 have Ki:some b'≠(Value.slice Av H2.length cv).ownBlock:=fun e=>by
  obtain ⟨Jg,cs,fr,Hj⟩:=zbR Hv.out e.symm;omega
 have Ho:=KN.kept Hx (KN.not_row (by decide) (zaf Hv.out Hl.out))
 have E7:Ext w w7:=Ext.grownOwn (xT HA.out Hl.out) (zai (zaf Hv.out Hl.out) (Nat.le_of_lt Jq)) Hx
 refine shK hK _ _ ⟨zar Hx (Hl.out.cell d0) Ki,zar Hx (Hl.out.cell d1) Ki,zar Hx (Hl.out.cell d2) Ki,zar Hx (Hl.out.cell d3) Ki⟩ (fun hHeld=>?_)
 have JG:=Ho.frozen 5
 have JH:w7.cell? ⟨w.heap.size,5,none⟩=some (.slice Av H2.length cv):=Ho.cell 5 rfl
 have k0:=hHeld.1;have k1:=hHeld.2.1;have k2:=hHeld.2.2.1;have k3:=hHeld.2.2.2;obtain ⟨A7,c7,rfl,_,_⟩:=xO (xW Ks);refine tkN 18 rfl ?_
 refine ar1 19 rfl (fun K hK=>?_)
 go_simp
 have Hq:some b'≠some w.heap.size:=fun e=>H7 (P8 e)
 refine shK hK _ _ ⟨zar (zab _ w.heap.size 5 (.slice A7 (H2.length+1) c7)) k0 Hq,zar (zab _ w.heap.size 5 (.slice A7 (H2.length+1) c7)) k1 Hq,zar (zab _ w.heap.size 5 (.slice A7 (H2.length+1) c7)) k2 Hq,zar (zab _ w.heap.size 5 (.slice A7 (H2.length+1) c7)) k3 Hq⟩ (fun hHeld=>?_)
 refine wpAnyH_done (by kernel_rfl) ?_ _
 refine zdR ?_
 have J7:Kept (zad (fun k o=>(k=W4.heap.size∧o.ty=some 96)∨(k=W4.heap.size+1∧o.ty=some 3)) w5.heap.size) W (w7.setCell ⟨w.heap.size,5,none⟩ (.slice A7 (H2.length+1) c7)):=by
  refine ((Kept.refl.below Hl.out (xN _)).grown Hx (fun k o ek hk=>?_)).setCell (fun o hk _=>?_) _
  ·obtain ⟨Jg,cs,fr,Hj⟩:=zbR Hv.out ek
   rw[hk] at Hj
   cases Hj
   rintro ((⟨_,h⟩ | ⟨_,h⟩) | ⟨_,h⟩)
   ·cases h
   ·cases h
   ·cases h
  ·have JR:o=_:=P8 ((show W.heap[w.heap.size]?=some o from hk).symm.trans HJ.out)
   subst JR
   rintro ((⟨h,_⟩ | ⟨h,_⟩) | ⟨_,h⟩)
   ·dsimp only at h;omega
   ·dsimp only at h;omega
   ·cases h
 have E8:Ext w (w7.setCell ⟨w.heap.size,5,none⟩ (.slice A7 (H2.length+1) c7)):=Below.setCell (p:=⟨w.heap.size,5,none⟩) E7 (xN _) _
 have Ja:=Ho.set 5 (.slice A7 (H2.length+1) c7);have Ji:=Ks.kept (zab _ w.heap.size 5 (.slice A7 (H2.length+1) c7)) (.inr (Ho.not_row (by decide) Ks).symm)
 have Jh:∀ (p:Addr) (u:Value),p.block≠w.heap.size→wo.cell? p=some u→(w7.setCell ⟨w.heap.size,5,none⟩ (.slice A7 (H2.length+1) c7)).cell? p=some u:=by
  intro p u hp hq;have G3:=P2 w5 p (KB.out p u hp hq)
  refine zar (zab _ w.heap.size 5 (.slice A7 (H2.length+1) c7)) (zar Hx (Hl.out.cell (KY.out p u hp hq)) fun e=>?_) fun e=>hp (P8 e)
  obtain ⟨Jg,cs,fr,Hj⟩:=zbR Hv.out e.symm;omega
 have HF:=zhd (show TkS w w5.heap.size n0 n1 n2 n3 n4 wo (H2++[⟨y0,y1,y2,y3⟩]) (w7.setCell ⟨w.heap.size,5,none⟩ (.slice A7 (H2.length+1) c7)) from ⟨A7,c7,by rw[xL];exact Ja,by
  rw[Ka.out,xL,show zaF (H2.map dec++[dec ⟨y0,y1,y2,y3⟩])=zaF (H2.map dec)++zaF [⟨y0,y1,y2,y3-1⟩] by simp[zaF,dec]]
  exact Ji,E8,Jh⟩)
 have JD:=zhd J7;clear J7 E8 Ja Ji Jh hHeld k0 k1 k2 k3 Ki Hq JH JG E7 Ho Hx Ks Hn KN
 gi_wp2
 exact ⟨JD.out,HF.out⟩):P:=h
theorem mcMTakea2 {P:Prop} (h:P:=by
 rintro l' H2 e Kk W av K' hx hi K0 ⟨b',H4,rfl,hu⟩ hK;obtain ⟨Av,cv,hB,hO,hE,hH⟩:=hi;obtain ⟨Ku,Jn,Jo,Jp⟩:=is4 hu
 have H7:b'≠w.heap.size:=by
  rintro rfl;have hq:=Ku
  simp only[World.cell?,show wo.heap[w.heap.size]?=_ from KW.out] at hq
  match H4,hq with
  | 0,hq=>cases hq
  | 1,hq=>cases hq
  | 2,hq=>cases hq
  | 3,hq=>cases hq
  | 4,hq=>cases hq
  | 5,hq=>cases hq
  | j+6,hq=>simp at hq
 have HO:b'<w5.heap.size:=P2 w5 _ (KB.out _ _ H7 Ku)
 have JT:Is W (.slice (some ⟨b',H4,none⟩) 4 4) [e.seq,e.fmt,e.first,e.count]:=zrc (hH _ _ H7 Ku) (hH _ _ H7 Jn) (hH _ _ H7 Jo) (hH _ _ H7 Jp)
 have Hi:Hid (TkS w w5.heap.size n0 n1 n2 n3 n4 wo H2 W):=⟨Av,cv,hB,hO,hE,hH⟩
 clear hx Ku Jn Jo Jp hH hB hO hE;subst hT
 gi_wp2
 exact hK _ _ Kept.refl Hi.out ⟨b',H4,JT,⟨H7,HO⟩,rfl⟩):P:=h
theorem mcMTakea3 {P:Prop} (h:P:=by
 all_goals
  refine wpIn_goto ?_
  try simp only[Exit.then]
  refine (show Exit.jumps [0] (fun _=>zhU w b) _ (Exit.goto 0) _ _ from ?_)
  refine zag (by simp) ?_
  exact ⟨H1,.inl rfl,rfl,rfl,⟨_,_,_,_,_,_,K7.out.ext (xT Hh H6)⟩,xT HN.out (xT Hh H6)⟩):P:=h
theorem mcMTakea4 {P:Prop} (h:P:=by
 all_goals
  refine wpIn_goto ?_
  try simp only[Exit.then]
  refine (show Exit.jumps [0] (fun _=>zhU w b) _ (Exit.goto 0) _ _ from ?_)
  refine zag (by simp) ?_
  exact ⟨H1,.inl rfl,rfl,rfl,⟨_,_,_,_,_,_,K7.out.ext Hh⟩,xT HN.out Hh⟩):P:=h
theorem mcMTakea5 {P:Prop} (h:P:=by
 rintro s X Y ⟨Av,cv,hB,hO,hE,hH⟩ hm
 refine ⟨Av,cv,hm.blkF hB,hm.ownsRow hO ?_,hm.belowF hE (by omega),fun p u hp hc=>hm.cell (hH p u hp hc) ?_⟩
 ·rintro k JZ _ (h | h)
  ·exact h
  ·cases h.2
 ·rintro o _ hc (h | h)
  ·exact h
  ·rw[hc] at h;cases h.2):P:=h
theorem ziI (tmps:Array Value) (W:World) (b:Nat) (cs:Array Value) (u:Value) (h4:tmps.getD 2 undef=.pointer (some ⟨b,0,none⟩)) (h5:tmps.getD 3 undef=u) (hb:Blk W b 30 cs) (hs:cs.size=6):(results Tryz.f60 tmps).run Tryz.prog W=.ok (.tuple #[.agg cs,u]) W:=by
 have hl:=hb.load (P:=Tryz.prog) ziH rfl (by rw[hs];kernel_rfl)
 have JI:tmps[2]?.getD undef=.pointer (some ⟨b,0,none⟩):=by simpa using h4
 have JJ:tmps[3]?.getD undef=u:=by simpa using h5
 simp[results,Tryz.results60,JI,JJ,asAddr,hl,Sem.run_bind,Sem.run_pure,Result.andThen_ok]
theorem zjG {W:World} {D:Nat} {o:Obj} (h:W.heap[D]?=some o) (hc:o.isCells=false) (b:Nat) (a v u x y z:Value):(zbY W b a v u x y z).heap[D]?=some o :=
 zaC (zaC (zaC (zaC (zaC (zaC h hc _ _) hc _ _) hc _ _) hc _ _) hc _ _) hc _ _
theorem znF {b p:List UInt8} (h:zaM rT b=some p):p.length≤b.length:=by
 unfold zaM at h
 split at h
 ·cases h
  rw[List.length_take];omega
 ·cases h
theorem zuz {f:Nat} (h:f≤60):P9.wrap (6+4*(f:Int))=((6+4*f:Nat):Int):=by
 unfold Pc
 simp[Pd,Pb]
 omega
theorem zva {f:Nat} (h:f≤60):P9.wrap (4*(f:Int))=4*(f:Int):=by
 unfold Pc
 simp[Pd,Pb]
 omega
theorem zrD:∀ (l:List Int) (k:Nat),l.length=4*k→∃ es:List Sg4,zca es=l∧es.length=k∧zhr l=es.map fun s=>⟨s.seq,s.fmt,s.first,s.count-1⟩
 | [],k,h=>⟨[],rfl,by
   have h':(0:Nat)=4*k:=h
   show 0=k
   omega,rfl⟩
 | [_],k,h=>by simp at h;omega
 | [_,_],k,h=>by simp at h;omega
 | [_,_,_],k,h=>by simp at h;omega
 | a::b::c::d::l,k,h=>by
  obtain ⟨es,h1,h2,h3⟩:=zrD l (k-1) (by simp at h;omega)
  refine ⟨⟨a,b,c,d⟩::es,?_,by simp at h;simp;omega,?_⟩
  ·rw[show zca (⟨a,b,c,d⟩::es)=a::b::c::d::zca es from rfl,h1]
  ·rw[zhr,h3]
   rfl
theorem ztq {b p:List UInt8} (h:zaM rT b=some p):(zdS p=none→zbe b=none)∧∀ m,zdS p=some m→zbe b=if zbs m=some b then some m else none:=by
 constructor
 ·intro hr
  unfold zbe;rw[h];dsimp only;rw[hr]
 ·intro m hr
  unfold zbe;rw[h];dsimp only;rw[hr]
def dec (s:Sg4):Sg4:=⟨s.seq,s.fmt,s.first,s.count-1⟩
def TkS (w:World) (N:Nat) (n0 n1 n2 n3 n4:Int) (wo:World) (H2:List Sg4) (X:World):Prop :=
 ∃ A c,Blk X w.heap.size 30 #[.int .i64 n0,.int .i64 n1,.int .i64 n2,.int .i64 n3,.int .i64 n4,.slice A H2.length c]∧X.ownsRow N 74 4 (.slice A H2.length c) H2.length (zaF (H2.map dec))∧Ext w X∧(∀ p u,p.block≠w.heap.size→wo.cell? p=some u→X.cell? p=some u)
theorem zkz {W:World} {b:Nat} {a v u x y z t:Value} {p:Addr} (hp:p.block≠b) (h:(zbY W b a v u x y z).cell? p=some t):W.cell? p=some t:=by
 have ne:∀ k,(⟨b,k,none⟩:Addr)≠p:=fun k e=>hp (by rw[←e])
 unfold zbY at h
 rwa [P0 _ _ _ _ (ne _),P0 _ _ _ _ (ne _),P0 _ _ _ _ (ne _),P0 _ _ _ _ (ne _),P0 _ _ _ _ (ne _),P0 _ _ _ _ (ne _)] at h
theorem zrC {es:List Sg4} {s:Sg4} (h:s∈es):s.count∈zca es:=List.mem_flatMap.2 ⟨s,h,by simp⟩
theorem is4 {w:World} {b H5:Nat} {a c d e:Int} (h:Is w (.slice (some ⟨b,H5,none⟩) 4 4) [a,c,d,e]):w.cell? ⟨b,H5,none⟩=some (.int .i64 a)∧w.cell? ⟨b,H5+1,none⟩=some (.int .i64 c)∧w.cell? ⟨b,H5+2,none⟩=some (.int .i64 d)∧w.cell? ⟨b,H5+3,none⟩=some (.int .i64 e):=by
 obtain ⟨_,A,c',e,_,_,h3⟩:=h
 cases e
 obtain ⟨b',H4,e',hc⟩:=h3 (by simp)
 cases e'
 exact ⟨hc 0 _ rfl,hc 1 _ rfl,hc 2 _ rfl,hc 3 _ rfl⟩
theorem zrc {w:World} {b H5:Nat} {a c d e:Int} (h0:w.cell? ⟨b,H5,none⟩=some (.int .i64 a)) (h1:w.cell? ⟨b,H5+1,none⟩=some (.int .i64 c)) (h2:w.cell? ⟨b,H5+2,none⟩=some (.int .i64 d)) (h3:w.cell? ⟨b,H5+3,none⟩=some (.int .i64 e)):Is w (.slice (some ⟨b,H5,none⟩) 4 4) [a,c,d,e]:=by
 refine ⟨rfl,_,4,rfl,xN _,by simp[maxLen],fun _=>⟨b,H5,rfl,fun j u hu=>?_⟩⟩
 match j with
 | 0=>cases hu;exact h0
 | 1=>cases hu;exact h1
 | 2=>cases hu;exact h2
 | 3=>cases hu;exact h3
 | j+4=>simp at hu
def zhU (w:World) (b:List UInt8) (a:Act) (W:World):Prop:=zbe b=none∧(a.defers=[]∨∃ D,a.defers=[{ target:=.collected D,args:=#[] }]∧W.heap[D]?=some (.deferred (some []))∧w.heap.size≤D)∧a.tmps.size=106∧a.tmps.getD 2 undef=.pointer (some ⟨w.heap.size,0,none⟩) ∧
 (∃ x0 x1 x2 x3 x4 x5,Blk W w.heap.size 30 #[x0,x1,x2,x3,x4,x5])∧Ext w W
attribute [local go_sem] Oper.semAt_some in
theorem zql (v:Value) (b:List UInt8) (w:World) (hT:StW w) (hB:Bs w v b) (hl:b.length≤100000) :
  Calls Tryz.prog 60 #[v] w (zl3 w (zbe b)):=by
 obtain ⟨A,c,rfl,G1,G2⟩:=xO hB;obtain ⟨R,hR⟩:∃ R,zbe b=R:=⟨_,rfl⟩;rw[hR];have HR:=zhd hR
 have J8:Ext w (w.alloc (.cells #[.int .i64 0,.int .i64 0,.int .i64 0,.int .i64 0,.int .i64 0,.slice none 0 0] 30)):=xA (xR _) _
 have J9:=Blk.new w 30 #[.int .i64 0,.int .i64 0,.int .i64 0,.int .i64 0,.int .i64 0,.slice none 0 0];have HT:=zhd hT;have HB:=zhd hB;have HN:=zhd J8;have K7:=zhd J9;clear hR J8 J9 hB hT
 refine (callsIn_wd (ro:=none) (n:=9)).1 ?_
 refine callsIn_of_wp_marks Tryz.func60 rfl trivial ?_ rfl
 simp only[Tryz.ntmps60,List.size_toArray,xC,List.length_nil,Nat.reduceAdd,Nat.reduceSub,Array.replicate_succ,Array.replicate_zero,List.push_toArray,List.append_toArray,xI,List.cons_append]
 gi_wp2
 refine zbl 0 (zhU w b) (fun a _=>0) rfl (fun l' h=>by cases l' <;> first | exact absurd rfl h | rfl) ?_ ?_
 ·intro HI
  have HE:=zhd HI;clear HI
  by_cases hs4:b.length<4
  ·have H1:zbe b=none:=by
    unfold zbe
    rw[show zaM rT b=none from zhD hs4]
   gi_wp2_with (refine ⟨trivial,?_⟩;gi_at_call 102;refine (callsIn_wd.2 (zmj _ b _ (HB.out.ext HN.out) hs4)).mono ?_;rintro e w1 ⟨rfl,Hh⟩)
   all_goals exact mcMTakea4
  ·have K6:=zmk (T:=rT) _ b _ (HB.out.ext HN.out) (by omega) hl (HT.out.ext HN.out).tab
   cases Hj:zaM rT b with
   | none =>
    have H1:zbe b=none:=by unfold zbe;rw[Hj]
    rw[Hj] at K6;have HK:=zhd K6;clear K6 Hj
    gi_wp2_with (refine ⟨trivial,?_⟩;gi_at_call 102;refine (callsIn_wd.2 HK.out).mono ?_;rintro e w1 ⟨rfl,Hh⟩)
    all_goals exact mcMTakea4
   | some p =>
    rw[Hj] at K6;have HK:=zhd K6;have Jm:=ztq Hj;have Ko:=zhd (Nat.le_trans (znF Hj) hl);have K5:=zhd Jm;clear K6 Hj Jm
    by_cases hp0:p.length=0
    ·obtain rfl:p=[]:=List.eq_nil_of_length_eq_zero hp0
     have H1:zbe b=none:=K5.out.1 rfl
     gi_wp2_with (refine ⟨trivial,?_⟩;gi_at_call 102;refine (callsIn_wd.2 HK.out).mono ?_;rintro e w1 ⟨⟨A1,c1,rfl,H8⟩,Hh⟩)
     all_goals exact mcMTakea4
    ·have G4:((p.length:Int)==0)=false:=by rw[beq_eq_false_iff_ne];omega
     have G5:(1:Int)≤(p.length:Int):=by omega
     have Hk:=zhd (show 0<p.length by omega)
     by_cases hp3:p.length=1
     ·have Jd:p.drop 1=[]:=P4 (by omega)
      have Hs:(zae 6 [] (p.drop 1)).1≠0:=by rw[Jd];decide
      have H1:zbe b=none:=K5.out.1 (by
       obtain ⟨e,l,r,hq⟩:∃ e l r,zae 6 [] (p.drop 1)=(e,l,r):=⟨_,_,_,rfl⟩;rw[hq] at Hs
       exact zjK hq (.inl Hs))
      obtain ⟨q,hq⟩:∃ q,zae 6 [] (p.drop 1)=q:=⟨_,rfl⟩;rw[hq] at Hs
      have Je:(q.1 != 0)=true:=by simpa using Hs
      have HQ:=zhd hq;have KZ:=zhd hp3;clear hp3 Jd hq Hs
      gi_wp2_with (first
       | (refine ⟨trivial,?_⟩;gi_at_call 102;refine (callsIn_wd.2 HK.out).mono ?_;rintro e w1 ⟨⟨A1,c1,rfl,H8⟩,Hh⟩;obtain ⟨Hg,b1,K1,rfl,HS⟩:=Bs.at_ H8.bs Hk.out;clear Hg HS;obtain ⟨_,_,e9,HU,HV⟩:=xO H8.bs;cases e9)
       | (refine ⟨trivial,?_⟩;gi_at_call 103;refine (callsIn_wd.2 (zdb _ (p.drop 1) 6 (by decide) w1 (by first | exact Bs.cut H8.bs 1 (by have:=Hk.out;omega) rfl | exact Bs.cut0 (by rw[KZ.out];exact xN _) rfl (by omega)) (by rw[P3,KZ.out];decide))).mono ?_;rw[HQ.out];rintro e w2 ⟨vl,vr,rfl,Hd,Kt,H6⟩))
      all_goals exact mcMTakea3
     ·have Jj:2≤p.length:=by have:=Hk.out;omega
      have KC:=zhd Jj;obtain ⟨q,hq⟩:∃ q,zae 6 [] (p.drop 1)=q:=⟨_,rfl⟩;have HQ:=zhd hq;clear hp3 Jj
      by_cases Hs:q.1=0
      case neg =>
       have H1:zbe b=none:=K5.out.1 (by
        obtain ⟨q1,q2,q3⟩:=q
        exact zjK hq (.inl Hs))
       have Je:(q.1 != 0)=true:=by simpa using Hs
       clear Hs hq
       gi_wp2_with (first
        | (refine ⟨trivial,?_⟩;gi_at_call 102;refine (callsIn_wd.2 HK.out).mono ?_;rintro e w1 ⟨⟨A1,c1,rfl,H8⟩,Hh⟩;obtain ⟨Hg,b1,K1,rfl,HS⟩:=Bs.at_ H8.bs Hk.out;clear Hg HS;obtain ⟨_,_,e9,HU,HV⟩:=xO H8.bs;cases e9;have Jc:¬ c1=1:=by (have:=KC.out;omega))
        | (refine ⟨trivial,?_⟩;gi_at_call 103;refine (callsIn_wd.2 (zdb _ (p.drop 1) 6 (by decide) w1 (Bs.cut H8.bs 1 (by have:=Hk.out;omega) rfl) (by rw[P3];have:=Ko.out;omega))).mono ?_;rw[HQ.out];rintro e w2 ⟨vl,vr,rfl,Hd,Kt,H6⟩))
       all_goals exact mcMTakea3
      obtain ⟨q1,q2,q3⟩:=q
      obtain rfl:q1=0:=Hs
      obtain ⟨Jk,KU,_⟩:=zfe hq
      obtain ⟨n0,n1,n2,n3,n4,n5,rfl⟩:∃ n0 n1 n2 n3 n4 n5,q2=[n0,n1,n2,n3,n4,n5]:=by
       match q2,Jk with
       | [n0,n1,n2,n3,n4,n5],_=>exact ⟨_,_,_,_,_,_,rfl⟩
      have JQ:=KU n5 (by simp)
      obtain ⟨f,rfl⟩:∃ f:Nat,n5=(f:Int):=⟨n5.toNat,by omega⟩
      clear Jk JQ
      by_cases h60:(f:Int)≤60
      case neg =>
       have H1:zbe b=none:=K5.out.1 (zjK hq (.inr (by simp;omega)))
       clear hq KU
       gi_wp2_with (first
        | (refine ⟨trivial,?_⟩;gi_at_call 102;refine (callsIn_wd.2 HK.out).mono ?_;rintro e w1 ⟨⟨A1,c1,rfl,H8⟩,Hh⟩;obtain ⟨Hg,b1,K1,rfl,HS⟩:=Bs.at_ H8.bs Hk.out;clear Hg HS;obtain ⟨_,_,e9,HU,HV⟩:=xO H8.bs;cases e9;have Jc:¬ c1=1:=by (have:=KC.out;omega))
        | (refine ⟨trivial,?_⟩;gi_at_call 103;refine (callsIn_wd.2 (zdb _ (p.drop 1) 6 (by decide) w1 (Bs.cut H8.bs 1 (by have:=Hk.out;omega) rfl) (by rw[P3];have:=Ko.out;omega))).mono ?_;rw[HQ.out];rintro e w2 ⟨vl,vr,rfl,Hd,Kt,H6⟩;have Hd:w2.ownsRow w1.heap.size 3 1 vl 6 ([n0,n1,n2,n3,n4,(f:Int)].map iv):=Hd;obtain ⟨A2,c2,rfl,KO,KP⟩:=xO (xW Hd);obtain ⟨Hg,b2,H0,rfl,Hb⟩:=SlR.at_ (xW Hd) (by decide);clear Hg;have Kq:w2.cell? ⟨b2,H0+5,none⟩=some (.int .i64 f):=Hb 5 _ rfl;have Kz:Hid (w2.cell? ⟨b2,H0,none⟩=some (.int .i64 n0)∧w2.cell? ⟨b2,H0+1,none⟩=some (.int .i64 n1)∧w2.cell? ⟨b2,H0+2,none⟩=some (.int .i64 n2)∧w2.cell? ⟨b2,H0+3,none⟩=some (.int .i64 n3)∧w2.cell? ⟨b2,H0+4,none⟩=some (.int .i64 n4)):=⟨Hb 0 _ rfl,Hb 1 _ rfl,Hb 2 _ rfl,Hb 3 _ rfl,Hb 4 _ rfl⟩;clear Hb))
       all_goals exact mcMTakea3
      have Kb:f≤60:=by omega
      have Hy:=zrG (by have:=Hk.out;omega:1≤p.length) hq h60
      rw[show (f:Int).toNat=f from by omega] at Hy
      obtain ⟨r,hr⟩:∃ r,zae (6+4*f) [] (p.drop 1)=r:=⟨_,rfl⟩;rw[hr] at Hy;have KF:=zhd Hy;have KH:=zhd hr;have Kv:=zhd Kb;clear Hy hq KU hr;have JE:=zhd (zuz Kb)
      gi_wp2_with (first
        | (refine ⟨trivial,?_⟩;gi_at_call 102;refine (callsIn_wd.2 HK.out).mono ?_;rintro e w1 ⟨⟨A1,c1,rfl,H8⟩,Hh⟩;obtain ⟨Hg,b1,K1,rfl,HS⟩:=Bs.at_ H8.bs Hk.out;clear Hg HS;obtain ⟨_,_,e9,HU,HV⟩:=xO H8.bs;cases e9;have Jc:¬ c1=1:=by (have:=KC.out;omega))
        | (refine ⟨trivial,?_⟩;gi_at_call 103;refine (callsIn_wd.2 (zdb _ (p.drop 1) 6 (by decide) w1 (Bs.cut H8.bs 1 (by have:=Hk.out;omega) rfl) (by rw[P3];have:=Ko.out;omega))).mono ?_;rw[HQ.out];rintro e w2 ⟨vl,vr,rfl,Hd,Kt,H6⟩;have Hd:w2.ownsRow w1.heap.size 3 1 vl 6 ([n0,n1,n2,n3,n4,(f:Int)].map iv):=Hd;obtain ⟨A2,c2,rfl,KO,KP⟩:=xO (xW Hd);obtain ⟨Hg,b2,H0,rfl,Hb⟩:=SlR.at_ (xW Hd) (by decide);clear Hg;have Kq:w2.cell? ⟨b2,H0+5,none⟩=some (.int .i64 f):=Hb 5 _ rfl;have Kz:Hid (w2.cell? ⟨b2,H0,none⟩=some (.int .i64 n0)∧w2.cell? ⟨b2,H0+1,none⟩=some (.int .i64 n1)∧w2.cell? ⟨b2,H0+2,none⟩=some (.int .i64 n2)∧w2.cell? ⟨b2,H0+3,none⟩=some (.int .i64 n3)∧w2.cell? ⟨b2,H0+4,none⟩=some (.int .i64 n4)):=⟨Hb 0 _ rfl,Hb 1 _ rfl,Hb 2 _ rfl,Hb 3 _ rfl,Hb 4 _ rfl⟩;clear Hb))
      have KJ:Ext w1 w2:=H6
      have KR:=zhd Hd
      have G0:w1.heap.size≤b2:=(zbR Hd rfl).1
      have Hr:w.heap.size<w1.heap.size:=(K7.out.ext Hh).lt
      have JB:=zhd (Bs.cut H8.bs 1 (by have:=Hk.out;omega) rfl);have Kw:=zhd (xT Hh H6);have Kx:=zhd H6;clear Hd Kt H6 KJ H8
      refine zc8 (S:=fun W=>W.cell? ⟨b2,H0+5,none⟩=some (.int .i64 (f:Int))) (by kernel_rfl) Kq (fun hHeld=>?_)
      have JV:=zva Kv.out;refine tkN 0 rfl ?_;refine tkN 1 rfl ?_;refine tkN 2 rfl ?_;refine tkN 3 rfl ?_;refine tkN 4 rfl ?_;refine tkN 5 rfl ?_;refine tkN 6 rfl ?_;clear JV
      refine ar1 7 rfl (fun K hK=>?_)
      go_simp
      rw[JE.out]
      with_reducible refine (zdb _ (p.drop 1) (6+4*f) (by have:=Kv.out;omega) _ ((JB.out.ext Kx.out).ext (xD (xR _))) (by rw[P3];have:=Ko.out;omega)).mono ?_
      rw[KH.out];rintro e w3 ⟨G7,G8,rfl,HW,KT,J6⟩;have Ha:=zhd (xT (xD (xR w2)) J6);have K8:=zhd HW;obtain ⟨A3,c3,rfl,Ke,JN⟩:=xO (xW HW);clear J6 HW KT
      refine shK hK _ _ (Ha.out.cell Kq) (fun hHeld=>?_)
      refine tkN 8 rfl ?_;refine tkN 9 rfl ?_;refine tkN 10 rfl ?_;refine tkN 11 rfl ?_;refine tkN 12 rfl ?_;refine tkN 13 rfl ?_;refine wpAnyH_done (by kernel_rfl) ?_ _
      refine zdR ?_
      have Hu:=zhd (xT Kw.out Ha.out)
      by_cases he7:r.1=0
      case neg =>
       have H1:zbe b=none:=K5.out.1 (by rw[KF.out,if_neg he7])
       have Je:(r.1 != 0)=true:=by simpa using he7
       clear he7
       gi_wp2
       all_goals
        refine wpIn_goto ?_
        try simp only[Exit.then]
        refine (show Exit.jumps [0] (fun _=>zhU w b) _ (Exit.goto 0) _ _ from ?_)
        refine zag (by simp) ?_
        exact ⟨H1,.inl rfl,rfl,rfl,⟨_,_,_,_,_,_,K7.out.ext Hu.out⟩,xT HN.out Hu.out⟩
      obtain ⟨r1,ys,r3⟩:=r
      obtain rfl:r1=0:=he7
      have Hy:=KF.out;rw[if_pos rfl] at Hy;dsimp only at Hy;obtain ⟨Js,Jt,_⟩:=zfe KH.out;have Hw:=K7.out.ext Hu.out;have f0:=Hw.frozen 0;have f1:=Hw.frozen 1;have f2:=Hw.frozen 2;have f3:=Hw.frozen 3;have f4:=Hw.frozen 4;have f5:=Hw.frozen 5;obtain ⟨m0,m1,m2,m3,m4,m5⟩:=zan Hw;obtain ⟨l0,l1,l2,l3,l4⟩:=Kz.out;have k0:=Ha.out.cell l0;have k1:=Ha.out.cell l1;have k2:=Ha.out.cell l2;have k3:=Ha.out.cell l3;have k4:=Ha.out.cell l4;have Km:=zhd Hw;have K9:=zhd Hy;have J1:=zhd Js;have J2:=zhd Jt;clear Hy Js Jt Hw l0 l1 l2 l3 l4 KF KH hHeld Kq;clear f0 f1 f2 f3 f4 f5 m0 m1 m2 m3 m4 m5
      gi_wp2
      refine zc8 (S:=fun W=>W.cell? ⟨b2,H0,none⟩=some (.int .i64 n0)∧W.cell? ⟨b2,H0+1,none⟩=some (.int .i64 n1)∧W.cell? ⟨b2,H0+2,none⟩=some (.int .i64 n2)∧W.cell? ⟨b2,H0+3,none⟩=some (.int .i64 n3)∧W.cell? ⟨b2,H0+4,none⟩=some (.int .i64 n4)) (by kernel_rfl) ⟨k0,k1,k2,k3,k4⟩ (fun hHeld=>?_)
      refine tkN 0 rfl ?_;refine tkN 1 rfl ?_;refine tkN 2 rfl ?_;refine tkN 3 rfl ?_;refine tkN 4 rfl ?_;refine tkN 5 rfl ?_;refine tkN 6 rfl ?_;refine tkN 7 rfl ?_;refine tkN 8 rfl ?_;refine tkN 9 rfl ?_;refine tkN 10 rfl ?_;refine tkN 11 rfl ?_;refine tkN 12 rfl ?_;refine tkN 13 rfl ?_;refine tkN 14 rfl ?_;refine tkN 15 rfl ?_;refine tkN 16 rfl ?_;have H9:=Km.out;have f0:=H9.frozen 0;have f1:=H9.frozen 1;have f2:=H9.frozen 2;have f3:=H9.frozen 3;have f4:=H9.frozen 4;have f5:=H9.frozen 5;obtain ⟨m0,m1,m2,m3,m4,m5⟩:=zan H9
      refine ar1 17 rfl (fun K hK=>?_)
      go_simp
      have Ht:∀ k,((⟨b2,k,none⟩:Addr).block≠w.heap.size):=fun k=>by dsimp only;omega
      refine shK hK _ _ ⟨Pe (xD (xR _)) (ze2 k0 (Ht _) _ _ _ _ _ _),Pe (xD (xR _)) (ze2 k1 (Ht _) _ _ _ _ _ _),Pe (xD (xR _)) (ze2 k2 (Ht _) _ _ _ _ _ _),Pe (xD (xR _)) (ze2 k3 (Ht _) _ _ _ _ _ _),Pe (xD (xR _)) (ze2 k4 (Ht _) _ _ _ _ _ _)⟩ (fun hHeld=>?_)
      refine wpAnyH_done (by kernel_rfl) ?_ _
      refine zdR ?_
      have KK:Ext w (zbY w3 w.heap.size (.int .i64 n0) (.int .i64 n1) (.int .i64 n2) (.int .i64 n3) (.int .i64 n4) (.slice none 0 0)).drew:=xD (zbM (xT HN.out Hu.out) (xN _) _ _ _ _ _ _)
      have HP:Blk (zbY w3 w.heap.size (.int .i64 n0) (.int .i64 n1) (.int .i64 n2) (.int .i64 n3) (.int .i64 n4) (.slice none 0 0)).drew w.heap.size 30 #[.int .i64 n0,.int .i64 n1,.int .i64 n2,.int .i64 n3,.int .i64 n4,.slice none 0 0]:=(zby Km.out (.int .i64 n0) (.int .i64 n1) (.int .i64 n2) (.int .i64 n3) (.int .i64 n4) (.slice none 0 0)).ext (xD (xR _))
      have HX:(zbY w3 w.heap.size (.int .i64 n0) (.int .i64 n1) (.int .i64 n2) (.int .i64 n3) (.int .i64 n4) (.slice none 0 0)).drew.ownsRow w2.drew.heap.size 3 1 (.slice A3 ys.length c3) ys.length (ys.map iv):=zaf (zc6 Km.out (by decide:(30:TypeId)≠3) K8.out (.int .i64 n0) (.int .i64 n1) (.int .i64 n2) (.int .i64 n3) (.int .i64 n4) (.slice none 0 0)) (xD (xR _))
      obtain ⟨W4,Kp⟩:∃ W4,(zbY w3 w.heap.size (.int .i64 n0) (.int .i64 n1) (.int .i64 n2) (.int .i64 n3) (.int .i64 n4) (.slice none 0 0)).drew=W4:=⟨_,rfl⟩;rw[Kp] at KK HP HX
      delta zbY at Kp
      rw[Kp]
      have Jr:ys.length=6+4*f:=J1.out
      obtain ⟨es,Kf,Kg,Kh⟩:=zrD (ys.drop 6) f (by rw[P3];omega);rw[Kh] at K9;have KI:=zhd Kf;have Kn:=zhd Kg;have Kl:=zhd HP;have KX:=zhd KK;have KA:=zhd HX
      have G6:(6:Int)≤(ys.length:Int):=by omega
      have JC:=zhd Ke;have J0:=zhd Jr;clear Kp f0 f1 f2 f3 f4 f5 m0 m1 m2 m3 m4 m5 k0 k1 k2 k3 k4 hHeld H9 Ht KK HP HX Jr Kf Kg Kh Km K8 Ke Kz KR J1;obtain ⟨Hg,b3,H3,rfl,KQ⟩:=SlR.at_ (xW KA.out) (by have:=J0.out;omega);clear Hg KQ
      have J3:Hid (∀ s∈es,0≤s.count∧s.count≤1073741824):=fun s hs=>J2.out _ (List.mem_of_mem_drop (by rw[←KI.out];exact zrC hs))
      have HH:es.length≤60:=by have:=Kn.out;have:=Kv.out;omega
      have Hc:=zhd HH;clear HH J2
      by_cases hc6:c3=6
      ·have Kc:∀ X:World,X.ownsRow w2.drew.heap.size 3 1 (.slice (some ⟨b3,H3,none⟩) ys.length c3) ys.length (ys.map iv)→Is X (.slice (some ⟨b3,H3,none⟩) (ys.length-6) 0) (zca es):=by
        intro X hX
        have:=JC.out
        have e1:ys.length-6=0:=by omega
        rw[KI.out,P4 (by omega),e1]
        exact SlR.empty _ 1 (Nat.zero_le _)
       have Ky:=zhd Kc;clear Kc
       gi_wp2_with (refine ⟨trivial,?_⟩;gi_at_call 104;refine (callsIn_wd.2 (ziV _ _ _ _)).mono ?_;rintro e w' ⟨rfl,rfl⟩)
       have q1:Boxed ((W4.alloc (.cells #[.slice (some ⟨b3,H3,none⟩) (ys.length-6) 0] 96)).alloc (.cells #[.int .i64 4] 3)) W4.heap.size 96 (.slice (some ⟨b3,H3,none⟩) (ys.length-6) 0):=(Boxed.new W4 _ _).alloc _
       have q2:Boxed ((W4.alloc (.cells #[.slice (some ⟨b3,H3,none⟩) (ys.length-6) 0] 96)).alloc (.cells #[.int .i64 4] 3)) (W4.heap.size+1) 3 (.int .i64 4):=by
        have:=Boxed.new (W4.alloc (.cells #[.slice (some ⟨b3,H3,none⟩) (ys.length-6) 0] 96)) 3 (.int .i64 4)
        rwa [xS] at this
       have H6:Ext W4 ((W4.alloc (.cells #[.slice (some ⟨b3,H3,none⟩) (ys.length-6) 0] 96)).alloc (.cells #[.int .i64 4] 3)):=xA (xA (xR _) _) _
       generalize (W4.alloc (.cells #[.slice (some ⟨b3,H3,none⟩) (ys.length-6) 0] 96)).alloc (.cells #[.int .i64 4] 3)=w5 at *
       have Hf:=Kl.out.ext H6;have Hr:=zby Hf (.bool true) (.bool true) (.bool true) (.bool true) (.bool true) (.bool true);have Hm:=Ky.out _ (zc6 Hf (by decide:(30:TypeId)≠3) (zaf KA.out H6) (.bool true) (.bool true) (.bool true) (.bool true) (.bool true) (.bool true));obtain ⟨wo,Hz⟩:∃ wo,zbY w5 w.heap.size (.bool true) (.bool true) (.bool true) (.bool true) (.bool true) (.bool true)=wo:=⟨_,rfl⟩
       have HY:∀ (p:Addr) (u:Value),p.block≠w.heap.size→wo.cell? p=some u→w5.cell? p=some u:=fun p u hp h=>zkz hp (by rw[Hz];exact h)
       have Hr:Blk wo w.heap.size 30 #[.bool true,.bool true,.bool true,.bool true,.bool true,.bool true]:=by rw[←Hz];exact Hr
       rw[Hz] at Hm;have KL:=xT KX.out H6
       have h0:TkS w w5.heap.size n0 n1 n2 n3 n4 wo [] w5:=⟨_,_,Hf,P1 _ _ _ _,KL,HY⟩
       have JK:w.heap.size<W4.heap.size:=Kl.out.lt
       have Jq:w.heap.size<w5.heap.size:=Hf.lt
       have KD:=zhd q1;have KE:=zhd q2;have JA:=zhd Hf;have KW:=zhd Hr;have KB:=zhd HY;clear q1 q2 H6 Hf Hr HY Hz
       refine zdO (fun T hT=>?_)
       refine zbN (a:=⟨T,[]⟩) (by subst hT;rfl) (enters_of Tryz.func140 (by kernel_rfl) rfl)
        (fun W1 hb hs=>zi2 wo W1 _ es Hm (by have:=Hc.out;omega) W4.heap.size (W4.heap.size+1) (KD.out.kept (row:=none) (Pf hb none) (by simp)) (KE.out.kept (row:=none) (Pf hb none) (by simp)))
        (fun k o h=>h.elim) (fun k o h=>by rcases h with h | h <;> exact za5 h.2) (fun x av W h=>by obtain ⟨_,_,rfl,_⟩:=h;rfl)
        (TkS w w5.heap.size n0 n1 n2 n3 n4 wo) (fun _ _ _=>False) ?hIp (fun _ _ _ _ h _=>h) h0
        (fun e a' W=>∃ b H5,Is W (.slice (some ⟨b,H5,none⟩) 4 4) [e.seq,e.fmt,e.first,e.count]∧(b≠w.heap.size∧b<w5.heap.size)∧a'=⟨(T.setIfInBounds 72 (.slice (some ⟨b,H5,none⟩) 4 4)).setIfInBounds 8 (.slice (some ⟨b,H5,none⟩) 4 4),[]⟩)
        ?hAxp ?assignp ?bodyp ?donep (fun _ _ _ _ _ _ h _=>h.elim)
       case hIp =>
        exact mcMTakea5
       case hAxp =>
        rintro e a' X Y ⟨b,H5,hu,Ht,rfl⟩ hm
        refine ⟨b,H5,SlR.keep hu (fun q t hq=>hm.cell hq (fun o _ hc=>?_)),Ht,rfl⟩
        rintro (h | h)
        ·exact h
        ·rw[hc] at h;cases h.2
       case assignp =>
        exact mcMTakea2
       case bodyp =>
        rintro l' H2 x Kk a' W hx JP hr ⟨Av,cv,hB,hO,hE,hH⟩ K0 ⟨b',H4,hu,⟨H7,HO⟩,rfl⟩
        have JS:H2.length≤60:=by have:=congrArg P6 hx;have:=Hc.out;simp at *;omega
        have Kj:=J3.out x (by rw[hx];simp)
        have Hp:(H2++[x]).map dec=H2.map dec++[dec x]:=by simp
        have Ka:=zhd Hp;clear hx Hp;obtain ⟨y0,y1,y2,y3⟩:=x;dsimp only at hu Kj;obtain ⟨d0,d1,d2,d3⟩:=is4 hu
        have JU:P9.wrap (y3-1)=y3-1:=by rw[Pa];omega
        obtain ⟨_,_,_,_,_,g5⟩:=zan hB;have HJ:=zhd hB;have Hv:=zhd hO;have HA:=zhd hE;have KY:=zhd hH;clear hB hO hE hH hu Kj;subst hT
        gi_wp2
        refine zge (S:=fun W=>W.cell? ⟨b',H4,none⟩=some (.int .i64 y0)∧W.cell? ⟨b',H4+1,none⟩=some (.int .i64 y1)∧W.cell? ⟨b',H4+2,none⟩=some (.int .i64 y2)∧W.cell? ⟨b',H4+3,none⟩=some (.int .i64 y3)) (by kernel_rfl) (by kernel_rfl) ⟨d0,d1,d2,d3⟩ (fun hHeld=>?_)
        refine tkN 0 rfl ?_;refine tkN 2 rfl ?_;refine tkN 3 rfl ?_;refine tkN 4 rfl ?_;refine tkN 5 rfl ?_;refine tkN 6 rfl ?_;refine tkN 7 rfl ?_;refine tkN 8 rfl ?_;refine tkN 9 rfl ?_;refine tkN 10 rfl ?_;refine tkN 11 rfl ?_;refine tkN 12 rfl ?_;refine tkN 13 rfl ?_;refine tkN 14 rfl ?_;refine tkN 15 rfl ?_
        have X6:Ext W (W.alloc (.cells #[.int .i64 y0,.int .i64 y1,.int .i64 y2,.int .i64 (y3-1)] 74)).drew:=xD (xA (xR _) _)
        have J4:W.drew.cell? ⟨w.heap.size,5,none⟩=some (.slice Av H2.length cv):=g5
        have J5:=X6.cell g5
        refine zhB (i:=1) (j:=16) (vi:=.slice Av H2.length cv) (vj:=.slice (some ⟨W.heap.size,0,none⟩) 1 1) (w':=(W.alloc (.cells #[.int .i64 y0,.int .i64 y1,.int .i64 y2,.int .i64 (y3-1)] 74)).drew) rfl rfl (by kernel_rfl) (by kernel_rfl) (by kernel_rfl) (by rfl) (by rfl) (by rfl) (by rfl) (by rfl) (by rfl) hHeld ⟨X6.cell d0,X6.cell d1,X6.cell d2,X6.cell d3⟩ ?h1p ?h2p ?h3p ?h4p ?h5p
        case h1p=>go_simp
        case h2p=>go_simp
        case h3p=>go_simp
        case h4p=>go_simp
        case' h5p=>skip
        exact mcMTakea1
       case donep =>
        exact mcMTakea0
      ·have Kc:∀ X:World,X.ownsRow w2.drew.heap.size 3 1 (.slice (some ⟨b3,H3,none⟩) ys.length c3) ys.length (ys.map iv)→Is X (.slice (some ⟨b3,H3+6,none⟩) (ys.length-6) (c3-6)) (zca es):=by
        intro X hX
        have:=SlR.drop1 (xW hX) 6 (by have:=J0.out;omega)
        rw[KI.out];unfold Is;rw[P3,List.map_drop]
        exact this
       have Ky:=zhd Kc;clear Kc
       gi_wp2_with (refine ⟨trivial,?_⟩;gi_at_call 104;refine (callsIn_wd.2 (ziV _ _ _ _)).mono ?_;rintro e w' ⟨rfl,rfl⟩)
       have q1:Boxed ((W4.alloc (.cells #[.slice (some ⟨b3,H3+6,none⟩) (ys.length-6) (c3-6)] 96)).alloc (.cells #[.int .i64 4] 3)) W4.heap.size 96 (.slice (some ⟨b3,H3+6,none⟩) (ys.length-6) (c3-6)):=(Boxed.new W4 _ _).alloc _
       have q2:Boxed ((W4.alloc (.cells #[.slice (some ⟨b3,H3+6,none⟩) (ys.length-6) (c3-6)] 96)).alloc (.cells #[.int .i64 4] 3)) (W4.heap.size+1) 3 (.int .i64 4):=by
        have:=Boxed.new (W4.alloc (.cells #[.slice (some ⟨b3,H3+6,none⟩) (ys.length-6) (c3-6)] 96)) 3 (.int .i64 4)
        rwa [xS] at this
       have H6:Ext W4 ((W4.alloc (.cells #[.slice (some ⟨b3,H3+6,none⟩) (ys.length-6) (c3-6)] 96)).alloc (.cells #[.int .i64 4] 3)):=xA (xA (xR _) _) _
       generalize (W4.alloc (.cells #[.slice (some ⟨b3,H3+6,none⟩) (ys.length-6) (c3-6)] 96)).alloc (.cells #[.int .i64 4] 3)=w5 at *
       have Hf:=Kl.out.ext H6;have Hr:=zby Hf (.bool true) (.bool true) (.bool true) (.bool true) (.bool true) (.bool true);have Hm:=Ky.out _ (zc6 Hf (by decide:(30:TypeId)≠3) (zaf KA.out H6) (.bool true) (.bool true) (.bool true) (.bool true) (.bool true) (.bool true));obtain ⟨wo,Hz⟩:∃ wo,zbY w5 w.heap.size (.bool true) (.bool true) (.bool true) (.bool true) (.bool true) (.bool true)=wo:=⟨_,rfl⟩
       have HY:∀ (p:Addr) (u:Value),p.block≠w.heap.size→wo.cell? p=some u→w5.cell? p=some u:=fun p u hp h=>zkz hp (by rw[Hz];exact h)
       have Hr:Blk wo w.heap.size 30 #[.bool true,.bool true,.bool true,.bool true,.bool true,.bool true]:=by rw[←Hz];exact Hr
       rw[Hz] at Hm;have KL:=xT KX.out H6
       have h0:TkS w w5.heap.size n0 n1 n2 n3 n4 wo [] w5:=⟨_,_,Hf,P1 _ _ _ _,KL,HY⟩
       have JK:w.heap.size<W4.heap.size:=Kl.out.lt
       have Jq:w.heap.size<w5.heap.size:=Hf.lt
       have KD:=zhd q1;have KE:=zhd q2;have JA:=zhd Hf;have KW:=zhd Hr;have KB:=zhd HY;clear q1 q2 H6 Hf Hr HY Hz
       refine zdO (fun T hT=>?_)
       refine zbN (a:=⟨T,[]⟩) (by subst hT;rfl) (enters_of Tryz.func140 (by kernel_rfl) rfl)
        (fun W1 hb hs=>zi2 wo W1 _ es Hm (by have:=Hc.out;omega) W4.heap.size (W4.heap.size+1) (KD.out.kept (row:=none) (Pf hb none) (by simp)) (KE.out.kept (row:=none) (Pf hb none) (by simp)))
        (fun k o h=>h.elim) (fun k o h=>by rcases h with h | h <;> exact za5 h.2) (fun x av W h=>by obtain ⟨_,_,rfl,_⟩:=h;rfl)
        (TkS w w5.heap.size n0 n1 n2 n3 n4 wo) (fun _ _ _=>False) ?hIq (fun _ _ _ _ h _=>h) h0
        (fun e a' W=>∃ b H5,Is W (.slice (some ⟨b,H5,none⟩) 4 4) [e.seq,e.fmt,e.first,e.count]∧(b≠w.heap.size∧b<w5.heap.size)∧a'=⟨(T.setIfInBounds 72 (.slice (some ⟨b,H5,none⟩) 4 4)).setIfInBounds 8 (.slice (some ⟨b,H5,none⟩) 4 4),[]⟩)
        ?hAxq ?assignq ?bodyq ?doneq (fun _ _ _ _ _ _ h _=>h.elim)
       case hIq =>
        exact mcMTakea5
       case hAxq =>
        rintro e a' X Y ⟨b,H5,hu,Ht,rfl⟩ hm
        refine ⟨b,H5,SlR.keep hu (fun q t hq=>hm.cell hq (fun o _ hc=>?_)),Ht,rfl⟩
        rintro (h | h)
        ·exact h
        ·rw[hc] at h;cases h.2
       case assignq =>
        exact mcMTakea2
       case bodyq =>
        rintro l' H2 x Kk a' W hx JP hr ⟨Av,cv,hB,hO,hE,hH⟩ K0 ⟨b',H4,hu,⟨H7,HO⟩,rfl⟩
        have JS:H2.length≤60:=by have:=congrArg P6 hx;have:=Hc.out;simp at *;omega
        have Kj:=J3.out x (by rw[hx];simp)
        have Hp:(H2++[x]).map dec=H2.map dec++[dec x]:=by simp
        have Ka:=zhd Hp;clear hx Hp;obtain ⟨y0,y1,y2,y3⟩:=x;dsimp only at hu Kj;obtain ⟨d0,d1,d2,d3⟩:=is4 hu
        have JU:P9.wrap (y3-1)=y3-1:=by rw[Pa];omega
        obtain ⟨_,_,_,_,_,g5⟩:=zan hB;have HJ:=zhd hB;have Hv:=zhd hO;have HA:=zhd hE;have KY:=zhd hH;clear hB hO hE hH hu Kj;subst hT
        gi_wp2
        refine zge (S:=fun W=>W.cell? ⟨b',H4,none⟩=some (.int .i64 y0)∧W.cell? ⟨b',H4+1,none⟩=some (.int .i64 y1)∧W.cell? ⟨b',H4+2,none⟩=some (.int .i64 y2)∧W.cell? ⟨b',H4+3,none⟩=some (.int .i64 y3)) (by kernel_rfl) (by kernel_rfl) ⟨d0,d1,d2,d3⟩ (fun hHeld=>?_)
        refine tkN 0 rfl ?_;refine tkN 2 rfl ?_;refine tkN 3 rfl ?_;refine tkN 4 rfl ?_;refine tkN 5 rfl ?_;refine tkN 6 rfl ?_;refine tkN 7 rfl ?_;refine tkN 8 rfl ?_;refine tkN 9 rfl ?_;refine tkN 10 rfl ?_;refine tkN 11 rfl ?_;refine tkN 12 rfl ?_;refine tkN 13 rfl ?_;refine tkN 14 rfl ?_;refine tkN 15 rfl ?_
        have X6:Ext W (W.alloc (.cells #[.int .i64 y0,.int .i64 y1,.int .i64 y2,.int .i64 (y3-1)] 74)).drew:=xD (xA (xR _) _)
        have J4:W.drew.cell? ⟨w.heap.size,5,none⟩=some (.slice Av H2.length cv):=g5
        have J5:=X6.cell g5
        refine zhB (i:=1) (j:=16) (vi:=.slice Av H2.length cv) (vj:=.slice (some ⟨W.heap.size,0,none⟩) 1 1) (w':=(W.alloc (.cells #[.int .i64 y0,.int .i64 y1,.int .i64 y2,.int .i64 (y3-1)] 74)).drew) rfl rfl (by kernel_rfl) (by kernel_rfl) (by kernel_rfl) (by rfl) (by rfl) (by rfl) (by rfl) (by rfl) (by rfl) hHeld ⟨X6.cell d0,X6.cell d1,X6.cell d2,X6.cell d3⟩ ?h1q ?h2q ?h3q ?h4q ?h5q
        case h1q=>go_simp
        case h2q=>go_simp
        case h3q=>go_simp
        case h4q=>go_simp
        case' h5q=>skip
        exact mcMTakea1
       case doneq =>
        exact mcMTakea0
 ·rintro ⟨TT,df⟩ W ⟨H1,hd,K0,h2,⟨x0,x1,x2,x3,x4,x5,hb⟩,hE⟩
  dsimp only at K0 h2 hd;have hT:=zdf 106 TT K0
  generalize hU:(fun i=>TT.getD i undef)=U at hT
  have g2:U 2=.pointer (some ⟨w.heap.size,0,none⟩):=by rw[←hU];exact h2
  have JM:TT = #[U 0,U 1,.pointer (some ⟨w.heap.size,0,none⟩),U 3,U 4,U 5,U 6,U 7,U 8,U 9,U 10,U 11,U 12,U 13,U 14,U 15,U 16,U 17,U 18,U 19,U 20,U 21,U 22,U 23,U 24,U 25,U 26,U 27,U 28,U 29,U 30,U 31,U 32,U 33,U 34,U 35,U 36,U 37,U 38,U 39,U 40,U 41,U 42,U 43,U 44,U 45,U 46,U 47,U 48,U 49,U 50,U 51,U 52,U 53,U 54,U 55,U 56,U 57,U 58,U 59,U 60,U 61,U 62,U 63,U 64,U 65,U 66,U 67,U 68,U 69,U 70,U 71,U 72,U 73,U 74,U 75,U 76,U 77,U 78,U 79,U 80,U 81,U 82,U 83,U 84,U 85,U 86,U 87,U 88,U 89,U 90,U 91,U 92,U 93,U 94,U 95,U 96,U 97,U 98,U 99,U 100,U 101,U 102,U 103,U 104,U 105]:=by rw[hT];show (#[U 0,U 1,U 2,U 3,U 4,U 5,U 6,U 7,U 8,U 9,U 10,U 11,U 12,U 13,U 14,U 15,U 16,U 17,U 18,U 19,U 20,U 21,U 22,U 23,U 24,U 25,U 26,U 27,U 28,U 29,U 30,U 31,U 32,U 33,U 34,U 35,U 36,U 37,U 38,U 39,U 40,U 41,U 42,U 43,U 44,U 45,U 46,U 47,U 48,U 49,U 50,U 51,U 52,U 53,U 54,U 55,U 56,U 57,U 58,U 59,U 60,U 61,U 62,U 63,U 64,U 65,U 66,U 67,U 68,U 69,U 70,U 71,U 72,U 73,U 74,U 75,U 76,U 77,U 78,U 79,U 80,U 81,U 82,U 83,U 84,U 85,U 86,U 87,U 88,U 89,U 90,U 91,U 92,U 93,U 94,U 95,U 96,U 97,U 98,U 99,U 100,U 101,U 102,U 103,U 104,U 105]:Array Value)=_;rw[g2]
  clear hT hU K0 g2 h2;subst JM
  have Kd:R=none:=by rw[←HR.out];exact H1
  subst Kd;clear H1;have f0:=hb.frozen 0;have f1:=hb.frozen 1;have f2:=hb.frozen 2;have f3:=hb.frozen 3;have f4:=hb.frozen 4;have f5:=hb.frozen 5;obtain ⟨m0,m1,m2,m3,m4,m5⟩:=zan hb;have Jb:=zby hb (.int .i64 0) (.int .i64 0) (.int .i64 0) (.int .i64 0) (.int .i64 0) (.slice none 0 0);have Jf:=zbM hE (b:=w.heap.size) (xN _) (.int .i64 0) (.int .i64 0) (.int .i64 0) (.int .i64 0) (.int .i64 0) (.slice none 0 0);have KV:=zhd Jb;have Kn:=zhd Jf;clear Jb Jf
  rcases hd with rfl | ⟨D,rfl,hK,hD⟩
  ·gi_wp2
   refine zat ?_
   exact ⟨.tuple #[.agg #[.int .i64 0,.int .i64 0,.int .i64 0,.int .i64 0,.int .i64 0,.slice none 0 0],.int .i64 11],ziI _ _ _ _ (.int .i64 11) rfl rfl KV.out rfl,.slice none 0 0,rfl,P1 _ _ _ _,Kn.out⟩
  ·have HD:=zhd (zjG hK rfl w.heap.size (.int .i64 0) (.int .i64 0) (.int .i64 0) (.int .i64 0) (.int .i64 0) (.slice none 0 0))
   clear hK
   gi_wp2
   refine zat ?_
   exact zbc HD.out (.tuple #[.agg #[.int .i64 0,.int .i64 0,.int .i64 0,.int .i64 0,.int .i64 0,.slice none 0 0],.int .i64 11]) (ziI _ _ _ _ (.int .i64 11) rfl rfl (zfk KV.out HD.out rfl _) rfl) ⟨.slice none 0 0,rfl,P1 _ _ _ _,zaq Kn.out hD _⟩
end Go.Proofs.YtgonhdeochgkoaaGreatDoor
