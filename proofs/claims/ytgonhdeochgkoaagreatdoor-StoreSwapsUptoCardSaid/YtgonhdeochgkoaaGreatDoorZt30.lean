/- Merged: MTake -/
import Derived.Test.YtgonhdeochgkoaaGreatDoorZt28
import Derived.Test.YtgonhdeochgkoaaGreatDoorZt29
set_option linter.all false
set_option maxHeartbeats 8000000
set_option maxRecDepth 100000
namespace Go.Proofs.YtgonhdeochgkoaaGreatDoor
open Go.RowKit Go.Mv Go.Shelf
theorem mcMTakea0 {P:Prop} (h:P:=by
 rintro D W hD ⟨Av,cv,hB,hO,hE,hH⟩ hK
 have hput:=zjF ⟨n0,n1,n2,n3,n4,es.map dec⟩ (.slice Av es.length cv) W (by
  show SlR W 4 (.slice Av es.length cv) (es.map dec).length _
  rw[List.length_map]
  exact SlR.of_own hO) (HT.out.ext hE)
 have hm:=HTK.out.2 _ HRA2.out;rw[HR.out] at hm
 have hm:R=if zbm ⟨n0,n1,n2,n3,n4,es.map dec⟩=some b then some ⟨n0,n1,n2,n3,n4,es.map dec⟩ else none:=hm
 obtain ⟨P,hP⟩:∃ P,zbm ⟨n0,n1,n2,n3,n4,es.map dec⟩=P:=⟨_,rfl⟩;rw[hP] at hput hm;have HPut:=zhd hput;have HM:=zhd hm;have HKK:=zhd hK;have HBm:=zhd hB;have HOo:=zhd hO;have HEe:=zhd hE;obtain ⟨m0,m1,m2,m3,m4,m5⟩:=zap hB;clear hput hm hP hK hB hO hE hH;subst hT
 cases P with
 | none =>
  have hRn:R=none:=by rw[HM.out];rfl
  clear HM;subst hRn
  gi_wp2_with (first
   | (refine ⟨trivial,?_⟩;gi_at_call 46;refine (callsIn_wd.2 HPut.out).mono ?_;rintro e w6 ⟨⟨vs,rfl,ho6⟩,hE6⟩;have b6:=HBm.out.ext hE6;obtain ⟨n0',n1',n2',n3',n4',n5'⟩:=zap b6;have f0:=b6.frozen 0;have f1:=b6.frozen 1;have f2:=b6.frozen 2;have f3:=b6.frozen 3;have f4:=b6.frozen 4;have f5:=b6.frozen 5;have hK6:w6.heap[D]?=some (.deferred (some [])):=(hE6.block D (Array.getElem?_eq_some_iff.1 HKK.out).1).trans HKK.out;have HKD:=zhd hK6;have HB6:=zhd b6;have HE6:=zhd hE6;clear b6 hK6)
   | (refine ⟨trivial,?_⟩))
  refine wpIn_label ?_
  gi_step
  gi_step
  refine Hrest.out _ _ ⟨HR.out,.inr ⟨D,rfl,HKD.out,by omega⟩,rfl,rfl,⟨_,_,_,_,_,_,HB6.out⟩,Ext.trans HEe.out HE6.out⟩
 | some s =>
  by_cases hsb:b=s
  ·have hdd:decide (b=s)=true:=by simpa using hsb
   have hRs:R=some ⟨n0,n1,n2,n3,n4,es.map dec⟩:=by rw[HM.out,if_pos (congrArg some hsb.symm)]
   clear hsb HM;subst hRs
   gi_wp2_with (first
    | (refine ⟨trivial,?_⟩;gi_at_call 46;refine (callsIn_wd.2 HPut.out).mono ?_;rintro e w6 ⟨⟨vs,rfl,ho6⟩,hE6⟩;have b6:=HBm.out.ext hE6;obtain ⟨n0',n1',n2',n3',n4',n5'⟩:=zap b6;have f0:=b6.frozen 0;have f1:=b6.frozen 1;have f2:=b6.frozen 2;have f3:=b6.frozen 3;have f4:=b6.frozen 4;have f5:=b6.frozen 5;have hK6:w6.heap[D]?=some (.deferred (some [])):=(hE6.block D (Array.getElem?_eq_some_iff.1 HKK.out).1).trans HKK.out;have HKD:=zhd hK6;have HB6:=zhd b6;have HE6:=zhd hE6;clear b6 hK6)
    | (refine ⟨trivial,?_⟩;gi_at_call 105;refine (callsIn_wd.2 (zbp _ _ b s w6 (HB.out.ext (Ext.trans HEe.out hE6)) (SlR.of_own ho6))).mono ?_;rintro e w7 ⟨rfl,rfl⟩))
   refine zas ?_
   have hKD:=zj2 HKD.out rfl w.heap.size (.int .i64 n0) (.int .i64 n1) (.int .i64 n2) (.int .i64 n3) (.int .i64 n4) (.slice Av es.length cv)
   refine zbg hKD (.tuple #[.agg #[.int .i64 n0,.int .i64 n1,.int .i64 n2,.int .i64 n3,.int .i64 n4,.slice Av es.length cv],.int .i64 0]) (zi0 _ _ _ _ (.int .i64 0) rfl rfl (zfE (zde HB6.out (.int .i64 n0) (.int .i64 n1) (.int .i64 n2) (.int .i64 n3) (.int .i64 n4) (.slice Av es.length cv)) hKD rfl _) rfl) ⟨.slice Av es.length cv,rfl,?_,zar (zeb (Ext.trans HEe.out HE6.out) (Nat.le_refl _) _ _ _ _ _ _) (by omega) _⟩
   show World.ownsRow _ w.heap.size 74 4 (.slice Av es.length cv) (es.map dec).length (zaW (es.map dec))
   rw[List.length_map]
   exact zaj (ownsRow_putObj (zc6 HB6.out (by decide:(30:TypeId)≠74) (zag HOo.out HE6.out) (.int .i64 n0) (.int .i64 n1) (.int .i64 n2) (.int .i64 n3) (.int .i64 n4) (.slice Av es.length cv)) (.deferred none) hKD rfl) (by omega)
  ·have hdd:decide (b=s)=false:=by simpa using hsb
   have hRn:R=none:=by rw[HM.out,if_neg (fun h=>hsb (Option.some.inj h).symm)]
   clear hsb HM;subst hRn
   gi_wp2_with (first
    | (refine ⟨trivial,?_⟩;gi_at_call 46;refine (callsIn_wd.2 HPut.out).mono ?_;rintro e w6 ⟨⟨vs,rfl,ho6⟩,hE6⟩;have b6:=HBm.out.ext hE6;obtain ⟨n0',n1',n2',n3',n4',n5'⟩:=zap b6;have f0:=b6.frozen 0;have f1:=b6.frozen 1;have f2:=b6.frozen 2;have f3:=b6.frozen 3;have f4:=b6.frozen 4;have f5:=b6.frozen 5;have hK6:w6.heap[D]?=some (.deferred (some [])):=(hE6.block D (Array.getElem?_eq_some_iff.1 HKK.out).1).trans HKK.out;have HKD:=zhd hK6;have HB6:=zhd b6;have HE6:=zhd hE6;clear b6 hK6)
    | (refine ⟨trivial,?_⟩;gi_at_call 105;refine (callsIn_wd.2 (zbp _ _ b s w6 (HB.out.ext (Ext.trans HEe.out hE6)) (SlR.of_own ho6))).mono ?_;rintro e w7 ⟨rfl,rfl⟩))
   refine wpIn_label ?_
   gi_step
   gi_step
   refine Hrest.out _ _ ⟨HR.out,.inr ⟨D,rfl,HKD.out,by omega⟩,rfl,rfl,⟨_,_,_,_,_,_,HB6.out⟩,Ext.trans HEe.out HE6.out⟩):P:=h
theorem mcMTakea1 {P:Prop} (h:P:=by
 try simp only[Act.put,sA,sZ,sS]
 have hr6:SlR (W.alloc (.cells #[.int .i64 y0,.int .i64 y1,.int .i64 y2,.int .i64 (y3-1)] 74)).drew 4 (.slice (some ⟨W.heap.size,0,none⟩) 1 1) 1 (zaW [⟨y0,y1,y2,y3-1⟩]):=SlR.ext (znb W [⟨y0,y1,y2,y3-1⟩] 1 rfl (by simp[maxLen])) (Ext.drew (Ext.refl _))
 have HX6:=zhd X6;have Hr6:=zhd hr6
 have hbase6:w5.heap.size≤(W.alloc (.cells #[.int .i64 y0,.int .i64 y1,.int .i64 y2,.int .i64 (y3-1)] 74)).drew.heap.size:=Nat.le_trans hsz X6.size
 obtain ⟨i0,hi,hz0,hz1,hz2⟩:=info_parts zm2;clear hr6 X6 g5d g5x
 refine ar1 17 rfl (fun K hK=>?_)
 refine zda _ (.tmp 74) (.tmp 89) 28 (by rfl) w5.heap.size 74 i0 _ 4 32 Tryz.underlying28 hi hz0 hz1 hz2 rfl (by decide) (.slice Av pre.length cv) pre.length (zaW (pre.map dec)) (by rfl) (zag HOo.out HX6.out) _ 1 (zaW [⟨y0,y1,y2,y3-1⟩]) (by rfl) Hr6.out (zpe _) (by unfold maxLen;omega) (by omega) hbase6 ?_
 intro v7 w7 ho7 hg7;have hb6:=HBm.out.ext HX6.out
 have hnb:some b'≠(Value.slice Av pre.length cv).ownBlock:=fun e=>by
  obtain ⟨hge,cs,fr,hcs⟩:=zbT HOo.out e.symm;omega
 have hbm7:=hb6.kept hg7 (hb6.not_row (by decide) (zag HOo.out HX6.out))
 have E7:Ext w w7:=Ext.grownOwn (Ext.trans HEe.out HX6.out) (zaj (zag HOo.out HX6.out) (Nat.le_of_lt hw5)) hg7
 refine shK hK _ _ ⟨zaB hg7 (HX6.out.cell d0) hnb,zaB hg7 (HX6.out.cell d1) hnb,zaB hg7 (HX6.out.cell d2) hnb,zaB hg7 (HX6.out.cell d3) hnb⟩ (fun hHeld=>?_)
 have f57:=hbm7.frozen 5
 have g57:w7.cell? ⟨w.heap.size,5,none⟩=some (.slice Av pre.length cv):=hbm7.cell 5 rfl
 have k0:=hHeld.1;have k1:=hHeld.2.1;have k2:=hHeld.2.2.1;have k3:=hHeld.2.2.2;obtain ⟨A7,c7,rfl,_,_⟩:=SlR.open_ (SlR.of_own ho7);refine tkN 18 rfl ?_
 refine ar1 19 rfl (fun K hK=>?_)
 go_simp
 have hnbw:some b'≠some w.heap.size:=fun e=>hbne (Option.some.inj e)
 refine shK hK _ _ ⟨zaB (zaa _ w.heap.size 5 (.slice A7 (pre.length+1) c7)) k0 hnbw,zaB (zaa _ w.heap.size 5 (.slice A7 (pre.length+1) c7)) k1 hnbw,zaB (zaa _ w.heap.size 5 (.slice A7 (pre.length+1) c7)) k2 hnbw,zaB (zaa _ w.heap.size 5 (.slice A7 (pre.length+1) c7)) k3 hnbw⟩ (fun hHeld=>?_)
 refine wpAnyH_done (by kernel_rfl) ?_ _
 refine zdW ?_
 have hK7:Kept (zab (fun k o=>(k=W4.heap.size∧o.ty=some 96)∨(k=W4.heap.size+1∧o.ty=some 3)) w5.heap.size) W (w7.setCell ⟨w.heap.size,5,none⟩ (.slice A7 (pre.length+1) c7)):=by
  refine ((Kept.refl.below HX6.out (Nat.le_refl _)).grown hg7 (fun k o ek hk=>?_)).setCell (fun o hk _=>?_) _
  ·obtain ⟨hge,cs,fr,hcs⟩:=zbT HOo.out ek
   rw[hk] at hcs
   cases hcs
   rintro ((⟨_,h⟩ | ⟨_,h⟩) | ⟨_,h⟩)
   ·cases h
   ·cases h
   ·cases h
  ·have hoo:o=_:=Option.some.inj ((show W.heap[w.heap.size]?=some o from hk).symm.trans HBm.out)
   subst hoo
   rintro ((⟨h,_⟩ | ⟨h,_⟩) | ⟨_,h⟩)
   ·dsimp only at h;omega
   ·dsimp only at h;omega
   ·cases h
 have E8:Ext w (w7.setCell ⟨w.heap.size,5,none⟩ (.slice A7 (pre.length+1) c7)):=Below.setCell (p:=⟨w.heap.size,5,none⟩) E7 (Nat.le_refl _) _
 have hb8:=hbm7.set 5 (.slice A7 (pre.length+1) c7);have ho8:=ho7.kept (zaa _ w.heap.size 5 (.slice A7 (pre.length+1) c7)) (.inr (hbm7.not_row (by decide) ho7).symm)
 have hh8:∀ (p:Addr) (u:Value),p.block≠w.heap.size→wo.cell? p=some u→(w7.setCell ⟨w.heap.size,5,none⟩ (.slice A7 (pre.length+1) c7)).cell? p=some u:=by
  intro p u hp hq;have hlt:=World.block_lt_of_cell? w5 p (HOT.out p u hp hq)
  refine zaB (zaa _ w.heap.size 5 (.slice A7 (pre.length+1) c7)) (zaB hg7 (HX6.out.cell (HHh.out p u hp hq)) fun e=>?_) fun e=>hp (Option.some.inj e)
  obtain ⟨hge,cs,fr,hcs⟩:=zbT HOo.out e.symm;omega
 have HF:=zhd (show TkS w w5.heap.size n0 n1 n2 n3 n4 wo (pre++[⟨y0,y1,y2,y3⟩]) (w7.setCell ⟨w.heap.size,5,none⟩ (.slice A7 (pre.length+1) c7)) from ⟨A7,c7,by rw[List.length_append];exact hb8,by
  rw[Hdec.out,List.length_append,show zaW (pre.map dec++[dec ⟨y0,y1,y2,y3⟩])=zaW (pre.map dec)++zaW [⟨y0,y1,y2,y3-1⟩] by simp[zaW,dec]]
  exact ho8,E8,hh8⟩)
 have HK7:=zhd hK7;clear hK7 E8 hb8 ho8 hh8 hHeld k0 k1 k2 k3 hnb hnbw g57 f57 E7 hbm7 hg7 ho7 hbase6 hb6
 gi_wp2
 exact ⟨HK7.out,HF.out⟩):P:=h
theorem mcMTakea2 {P:Prop} (h:P:=by
 rintro l' pre e post W av K' hx hi hsz ⟨b',off',rfl,hu⟩ hK;obtain ⟨Av,cv,hB,hO,hE,hH⟩:=hi;obtain ⟨hu0,hu1,hu2,hu3⟩:=is4 hu
 have hbne:b'≠w.heap.size:=by
  rintro rfl;have hq:=hu0
  simp only[World.cell?,show wo.heap[w.heap.size]?=_ from HBW.out] at hq
  match off',hq with
  | 0,hq=>cases hq
  | 1,hq=>cases hq
  | 2,hq=>cases hq
  | 3,hq=>cases hq
  | 4,hq=>cases hq
  | 5,hq=>cases hq
  | j+6,hq=>simp at hq
 have hblt:b'<w5.heap.size:=World.block_lt_of_cell? w5 _ (HOT.out _ _ hbne hu0)
 have huW:Is W (.slice (some ⟨b',off',none⟩) 4 4) [e.seq,e.fmt,e.first,e.count]:=zrQ (hH _ _ hbne hu0) (hH _ _ hbne hu1) (hH _ _ hbne hu2) (hH _ _ hbne hu3)
 have Hi:Hid (TkS w w5.heap.size n0 n1 n2 n3 n4 wo pre W):=⟨Av,cv,hB,hO,hE,hH⟩
 clear hx hu0 hu1 hu2 hu3 hH hB hO hE;subst hT
 gi_wp2
 exact hK _ _ Kept.refl Hi.out ⟨b',off',huW,⟨hbne,hblt⟩,rfl⟩):P:=h
theorem zi0 (tmps:Array Value) (W:World) (b:Nat) (cs:Array Value) (u:Value) (h4:tmps.getD 2 undef=.pointer (some ⟨b,0,none⟩)) (h5:tmps.getD 3 undef=u) (hb:Blk W b 30 cs) (hs:cs.size=6):(results Tryz.f60 tmps).run Tryz.prog W=.ok (.tuple #[.agg cs,u]) W:=by
 have hl:=hb.load (P:=Tryz.prog) zlm rfl (by rw[hs];kernel_rfl)
 have h4':tmps[2]?.getD undef=.pointer (some ⟨b,0,none⟩):=by simpa using h4
 have h5':tmps[3]?.getD undef=u:=by simpa using h5
 simp[results,Tryz.results60,h4',h5',asAddr,hl,Sem.run_bind,Sem.run_pure,Result.andThen_ok]
theorem zj2 {W:World} {D:Nat} {o:Obj} (h:W.heap[D]?=some o) (hc:o.isCells=false) (b:Nat) (a v u x y z:Value):(zb2 W b a v u x y z).heap[D]?=some o :=
 zaC (zaC (zaC (zaC (zaC (zaC h hc _ _) hc _ _) hc _ _) hc _ _) hc _ _) hc _ _
theorem zoa {b p:List UInt8} (h:zbs rT b=some p):p.length≤b.length:=by
 unfold zbs at h
 split at h
 ·cases h
  rw[List.length_take];omega
 ·cases h
theorem zvs {f:Nat} (h:f≤60):IntKind.i64.wrap (6+4*(f:Int))=((6+4*f:Nat):Int):=by
 unfold IntKind.wrap
 simp[IntKind.bits,IntKind.signed]
 omega
theorem zv5 {f:Nat} (h:f≤60):IntKind.i64.wrap (4*(f:Int))=4*(f:Int):=by
 unfold IntKind.wrap
 simp[IntKind.bits,IntKind.signed]
 omega
theorem zse:∀ (l:List Int) (k:Nat),l.length=4*k→∃ es:List Sg4,zch es=l∧es.length=k∧zhQ l=es.map fun s=>⟨s.seq,s.fmt,s.first,s.count-1⟩
 | [],k,h=>⟨[],rfl,by
   have h':(0:Nat)=4*k:=h
   show 0=k
   omega,rfl⟩
 | [_],k,h=>by simp at h;omega
 | [_,_],k,h=>by simp at h;omega
 | [_,_,_],k,h=>by simp at h;omega
 | a::b::c::d::l,k,h=>by
  obtain ⟨es,h1,h2,h3⟩:=zse l (k-1) (by simp at h;omega)
  refine ⟨⟨a,b,c,d⟩::es,?_,by simp at h;simp;omega,?_⟩
  ·rw[show zch (⟨a,b,c,d⟩::es)=a::b::c::d::zch es from rfl,h1]
  ·rw[zhQ,h3]
   rfl
theorem zue {b p:List UInt8} (h:zbs rT b=some p):(zfP p=none→zbB b=none)∧∀ m,zfP p=some m→zbB b=if zbm m=some b then some m else none:=by
 constructor
 ·intro hr
  unfold zbB;rw[h];dsimp only;rw[hr]
 ·intro m hr
  unfold zbB;rw[h];dsimp only;rw[hr]
def dec (s:Sg4):Sg4:=⟨s.seq,s.fmt,s.first,s.count-1⟩
def TkS (w:World) (N:Nat) (n0 n1 n2 n3 n4:Int) (wo:World) (pre:List Sg4) (X:World):Prop :=
 ∃ A c,Blk X w.heap.size 30 #[.int .i64 n0,.int .i64 n1,.int .i64 n2,.int .i64 n3,.int .i64 n4,.slice A pre.length c]∧X.ownsRow N 74 4 (.slice A pre.length c) pre.length (zaW (pre.map dec))∧Ext w X∧(∀ p u,p.block≠w.heap.size→wo.cell? p=some u→X.cell? p=some u)
theorem zkV {W:World} {b:Nat} {a v u x y z t:Value} {p:Addr} (hp:p.block≠b) (h:(zb2 W b a v u x y z).cell? p=some t):W.cell? p=some t:=by
 have ne:∀ k,(⟨b,k,none⟩:Addr)≠p:=fun k e=>hp (by rw[←e])
 unfold zb2 at h
 rwa [World.cell?_setCell_other _ _ _ _ (ne _),World.cell?_setCell_other _ _ _ _ (ne _),World.cell?_setCell_other _ _ _ _ (ne _),World.cell?_setCell_other _ _ _ _ (ne _),World.cell?_setCell_other _ _ _ _ (ne _),World.cell?_setCell_other _ _ _ _ (ne _)] at h
theorem zsd {es:List Sg4} {s:Sg4} (h:s∈es):s.count∈zch es:=List.mem_flatMap.2 ⟨s,h,by simp⟩
theorem is4 {w:World} {b off:Nat} {a c d e:Int} (h:Is w (.slice (some ⟨b,off,none⟩) 4 4) [a,c,d,e]):w.cell? ⟨b,off,none⟩=some (.int .i64 a)∧w.cell? ⟨b,off+1,none⟩=some (.int .i64 c)∧w.cell? ⟨b,off+2,none⟩=some (.int .i64 d)∧w.cell? ⟨b,off+3,none⟩=some (.int .i64 e):=by
 obtain ⟨_,A,c',e,_,_,h3⟩:=h
 cases e
 obtain ⟨b',off',e',hc⟩:=h3 (by simp)
 cases e'
 exact ⟨hc 0 _ rfl,hc 1 _ rfl,hc 2 _ rfl,hc 3 _ rfl⟩
theorem zrQ {w:World} {b off:Nat} {a c d e:Int} (h0:w.cell? ⟨b,off,none⟩=some (.int .i64 a)) (h1:w.cell? ⟨b,off+1,none⟩=some (.int .i64 c)) (h2:w.cell? ⟨b,off+2,none⟩=some (.int .i64 d)) (h3:w.cell? ⟨b,off+3,none⟩=some (.int .i64 e)):Is w (.slice (some ⟨b,off,none⟩) 4 4) [a,c,d,e]:=by
 refine ⟨rfl,_,4,rfl,Nat.le_refl _,by simp[maxLen],fun _=>⟨b,off,rfl,fun j u hu=>?_⟩⟩
 match j with
 | 0=>cases hu;exact h0
 | 1=>cases hu;exact h1
 | 2=>cases hu;exact h2
 | 3=>cases hu;exact h3
 | j+4=>simp at hu
def zii (w:World) (b:List UInt8) (a:Act) (W:World):Prop:=zbB b=none∧(a.defers=[]∨∃ D,a.defers=[{ target:=.collected D,args:=#[] }]∧W.heap[D]?=some (.deferred (some []))∧w.heap.size≤D)∧a.tmps.size=106∧a.tmps.getD 2 undef=.pointer (some ⟨w.heap.size,0,none⟩) ∧
 (∃ x0 x1 x2 x3 x4 x5,Blk W w.heap.size 30 #[x0,x1,x2,x3,x4,x5])∧Ext w W
attribute [local go_sem] Oper.semAt_some in
theorem zqY (v:Value) (b:List UInt8) (w:World) (hT:StW w) (hB:Bs w v b) (hl:b.length≤100000) :
  Calls Tryz.prog 60 #[v] w (zvx w (zbB b)):=by
 obtain ⟨A,c,rfl,hc1,hc2⟩:=SlR.open_ hB;obtain ⟨R,hR⟩:∃ R,zbB b=R:=⟨_,rfl⟩;rw[hR];have HR:=zhd hR
 have hX0:Ext w (w.alloc (.cells #[.int .i64 0,.int .i64 0,.int .i64 0,.int .i64 0,.int .i64 0,.slice none 0 0] 30)):=Ext.alloc (Ext.refl _) _
 have hb0:=Blk.new w 30 #[.int .i64 0,.int .i64 0,.int .i64 0,.int .i64 0,.int .i64 0,.slice none 0 0];have HT:=zhd hT;have HB:=zhd hB;have HX0:=zhd hX0;have HB0:=zhd hb0;clear hR hX0 hb0 hB hT
 refine (callsIn_wd (ro:=none) (n:=9)).1 ?_
 refine callsIn_of_wp_marks Tryz.func60 rfl trivial ?_ rfl
 simp only[Tryz.ntmps60,List.size_toArray,List.length_cons,List.length_nil,Nat.reduceAdd,Nat.reduceSub,Array.replicate_succ,Array.replicate_zero,List.push_toArray,List.append_toArray,List.nil_append,List.cons_append]
 gi_wp2
 refine zbq 0 (zii w b) (fun a _=>0) rfl (fun l' h=>by cases l' <;> first | exact absurd rfl h | rfl) ?_ ?_
 ·intro hrest
  have Hrest:=zhd hrest;clear hrest
  by_cases hs4:b.length<4
  ·have hnone:zbB b=none:=by
    unfold zbB
    rw[show zbs rT b=none from zh1 hs4]
   gi_wp2_with (refine ⟨trivial,?_⟩;gi_at_call 102;refine (callsIn_wd.2 (zmP _ b _ (HB.out.ext HX0.out) hs4)).mono ?_;rintro e w1 ⟨rfl,hE1⟩)
   all_goals
    refine wpIn_goto ?_
    try simp only[Exit.then]
    refine (show Exit.jumps [0] (fun _=>zii w b) _ (Exit.goto 0) _ _ from ?_)
    refine zah (by simp) ?_
    exact ⟨hnone,.inl rfl,rfl,rfl,⟨_,_,_,_,_,_,HB0.out.ext hE1⟩,Ext.trans HX0.out hE1⟩
  ·have hct:=zmQ (T:=rT) _ b _ (HB.out.ext HX0.out) (by omega) hl (HT.out.ext HX0.out).tab
   cases hcs:zbs rT b with
   | none =>
    have hnone:zbB b=none:=by unfold zbB;rw[hcs]
    rw[hcs] at hct;have HCT:=zhd hct;clear hct hcs
    gi_wp2_with (refine ⟨trivial,?_⟩;gi_at_call 102;refine (callsIn_wd.2 HCT.out).mono ?_;rintro e w1 ⟨rfl,hE1⟩)
    all_goals
     refine wpIn_goto ?_
     try simp only[Exit.then]
     refine (show Exit.jumps [0] (fun _=>zii w b) _ (Exit.goto 0) _ _ from ?_)
     refine zah (by simp) ?_
     exact ⟨hnone,.inl rfl,rfl,rfl,⟨_,_,_,_,_,_,HB0.out.ext hE1⟩,Ext.trans HX0.out hE1⟩
   | some p =>
    rw[hcs] at hct;have HCT:=zhd hct;have htk:=zue hcs;have HPL:=zhd (Nat.le_trans (zoa hcs) hl);have HTK:=zhd htk;clear hct hcs htk
    by_cases hp0:p.length=0
    ·obtain rfl:p=[]:=List.eq_nil_of_length_eq_zero hp0
     have hnone:zbB b=none:=HTK.out.1 rfl
     gi_wp2_with (refine ⟨trivial,?_⟩;gi_at_call 102;refine (callsIn_wd.2 HCT.out).mono ?_;rintro e w1 ⟨⟨A1,c1,rfl,ho1⟩,hE1⟩)
     all_goals
      refine wpIn_goto ?_
      try simp only[Exit.then]
      refine (show Exit.jumps [0] (fun _=>zii w b) _ (Exit.goto 0) _ _ from ?_)
      refine zah (by simp) ?_
      exact ⟨hnone,.inl rfl,rfl,rfl,⟨_,_,_,_,_,_,HB0.out.ext hE1⟩,Ext.trans HX0.out hE1⟩
    ·have hp1:((p.length:Int)==0)=false:=by rw[beq_eq_false_iff_ne];omega
     have hp2:(1:Int)≤(p.length:Int):=by omega
     have HPP:=zhd (show 0<p.length by omega)
     by_cases hp3:p.length=1
     ·have hd1:p.drop 1=[]:=List.drop_of_length_le (by omega)
      have he6:(zad 6 [] (p.drop 1)).1≠0:=by rw[hd1];decide
      have hnone:zbB b=none:=HTK.out.1 (by
       obtain ⟨e,l,r,hq⟩:∃ e l r,zad 6 [] (p.drop 1)=(e,l,r):=⟨_,_,_,rfl⟩;rw[hq] at he6
       exact zj7 hq (.inl he6))
      obtain ⟨q,hq⟩:∃ q,zad 6 [] (p.drop 1)=q:=⟨_,rfl⟩;rw[hq] at he6
      have heb:(q.1 != 0)=true:=by simpa using he6
      have HQ:=zhd hq;have HP3:=zhd hp3;clear hp3 hd1 hq he6
      gi_wp2_with (first
       | (refine ⟨trivial,?_⟩;gi_at_call 102;refine (callsIn_wd.2 HCT.out).mono ?_;rintro e w1 ⟨⟨A1,c1,rfl,ho1⟩,hE1⟩;obtain ⟨hnn,b1,off1,rfl,hcc⟩:=Bs.at_ ho1.bs HPP.out;clear hnn hcc;obtain ⟨_,_,e9,hcp1,hcp2⟩:=SlR.open_ ho1.bs;cases e9)
       | (refine ⟨trivial,?_⟩;gi_at_call 103;refine (callsIn_wd.2 (zdc _ (p.drop 1) 6 (by decide) w1 (by first | exact Bs.cut ho1.bs 1 (by have:=HPP.out;omega) rfl | exact Bs.cut0 (by rw[HP3.out];exact Nat.le_refl _) rfl (by omega)) (by rw[List.length_drop,HP3.out];decide))).mono ?_;rw[HQ.out];rintro e w2 ⟨vl,vr,rfl,hol,hor,hE2⟩))
      all_goals
       refine wpIn_goto ?_
       try simp only[Exit.then]
       refine (show Exit.jumps [0] (fun _=>zii w b) _ (Exit.goto 0) _ _ from ?_)
       refine zah (by simp) ?_
       exact ⟨hnone,.inl rfl,rfl,rfl,⟨_,_,_,_,_,_,HB0.out.ext (Ext.trans hE1 hE2)⟩,Ext.trans HX0.out (Ext.trans hE1 hE2)⟩
     ·have hp4:2≤p.length:=by have:=HPP.out;omega
      have HP4:=zhd hp4;obtain ⟨q,hq⟩:∃ q,zad 6 [] (p.drop 1)=q:=⟨_,rfl⟩;have HQ:=zhd hq;clear hp3 hp4
      by_cases he6:q.1=0
      case neg =>
       have hnone:zbB b=none:=HTK.out.1 (by
        obtain ⟨q1,q2,q3⟩:=q
        exact zj7 hq (.inl he6))
       have heb:(q.1 != 0)=true:=by simpa using he6
       clear he6 hq
       gi_wp2_with (first
        | (refine ⟨trivial,?_⟩;gi_at_call 102;refine (callsIn_wd.2 HCT.out).mono ?_;rintro e w1 ⟨⟨A1,c1,rfl,ho1⟩,hE1⟩;obtain ⟨hnn,b1,off1,rfl,hcc⟩:=Bs.at_ ho1.bs HPP.out;clear hnn hcc;obtain ⟨_,_,e9,hcp1,hcp2⟩:=SlR.open_ ho1.bs;cases e9;have hcn:¬ c1=1:=by (have:=HP4.out;omega))
        | (refine ⟨trivial,?_⟩;gi_at_call 103;refine (callsIn_wd.2 (zdc _ (p.drop 1) 6 (by decide) w1 (Bs.cut ho1.bs 1 (by have:=HPP.out;omega) rfl) (by rw[List.length_drop];have:=HPL.out;omega))).mono ?_;rw[HQ.out];rintro e w2 ⟨vl,vr,rfl,hol,hor,hE2⟩))
       all_goals
        refine wpIn_goto ?_
        try simp only[Exit.then]
        refine (show Exit.jumps [0] (fun _=>zii w b) _ (Exit.goto 0) _ _ from ?_)
        refine zah (by simp) ?_
        exact ⟨hnone,.inl rfl,rfl,rfl,⟨_,_,_,_,_,_,HB0.out.ext (Ext.trans hE1 hE2)⟩,Ext.trans HX0.out (Ext.trans hE1 hE2)⟩
      obtain ⟨q1,q2,q3⟩:=q
      obtain rfl:q1=0:=he6
      obtain ⟨hq6,hqn,_⟩:=ziO hq
      obtain ⟨n0,n1,n2,n3,n4,n5,rfl⟩:∃ n0 n1 n2 n3 n4 n5,q2=[n0,n1,n2,n3,n4,n5]:=by
       match q2,hq6 with
       | [n0,n1,n2,n3,n4,n5],_=>exact ⟨_,_,_,_,_,_,rfl⟩
      have hn5:=hqn n5 (by simp)
      obtain ⟨f,rfl⟩:∃ f:Nat,n5=(f:Int):=⟨n5.toNat,by omega⟩
      clear hq6 hn5
      by_cases h60:(f:Int)≤60
      case neg =>
       have hnone:zbB b=none:=HTK.out.1 (zj7 hq (.inr (by simp;omega)))
       clear hq hqn
       gi_wp2_with (first
        | (refine ⟨trivial,?_⟩;gi_at_call 102;refine (callsIn_wd.2 HCT.out).mono ?_;rintro e w1 ⟨⟨A1,c1,rfl,ho1⟩,hE1⟩;obtain ⟨hnn,b1,off1,rfl,hcc⟩:=Bs.at_ ho1.bs HPP.out;clear hnn hcc;obtain ⟨_,_,e9,hcp1,hcp2⟩:=SlR.open_ ho1.bs;cases e9;have hcn:¬ c1=1:=by (have:=HP4.out;omega))
        | (refine ⟨trivial,?_⟩;gi_at_call 103;refine (callsIn_wd.2 (zdc _ (p.drop 1) 6 (by decide) w1 (Bs.cut ho1.bs 1 (by have:=HPP.out;omega) rfl) (by rw[List.length_drop];have:=HPL.out;omega))).mono ?_;rw[HQ.out];rintro e w2 ⟨vl,vr,rfl,hol,hor,hE2⟩;have hol:w2.ownsRow w1.heap.size 3 1 vl 6 ([n0,n1,n2,n3,n4,(f:Int)].map iv):=hol;obtain ⟨A2,c2,rfl,hcl1,hcl2⟩:=SlR.open_ (SlR.of_own hol);obtain ⟨hnn,b2,off2,rfl,hcl⟩:=SlR.at_ (SlR.of_own hol) (by decide);clear hnn;have hl5:w2.cell? ⟨b2,off2+5,none⟩=some (.int .i64 f):=hcl 5 _ rfl;have HL6:Hid (w2.cell? ⟨b2,off2,none⟩=some (.int .i64 n0)∧w2.cell? ⟨b2,off2+1,none⟩=some (.int .i64 n1)∧w2.cell? ⟨b2,off2+2,none⟩=some (.int .i64 n2)∧w2.cell? ⟨b2,off2+3,none⟩=some (.int .i64 n3)∧w2.cell? ⟨b2,off2+4,none⟩=some (.int .i64 n4)):=⟨hcl 0 _ rfl,hcl 1 _ rfl,hcl 2 _ rfl,hcl 3 _ rfl,hcl 4 _ rfl⟩;clear hcl))
       all_goals
        refine wpIn_goto ?_
        try simp only[Exit.then]
        refine (show Exit.jumps [0] (fun _=>zii w b) _ (Exit.goto 0) _ _ from ?_)
        refine zah (by simp) ?_
        exact ⟨hnone,.inl rfl,rfl,rfl,⟨_,_,_,_,_,_,HB0.out.ext (Ext.trans hE1 hE2)⟩,Ext.trans HX0.out (Ext.trans hE1 hE2)⟩
      have h60n:f≤60:=by omega
      have hra:=zsh (by have:=HPP.out;omega:1≤p.length) hq h60
      rw[show (f:Int).toNat=f from by omega] at hra
      obtain ⟨r,hr⟩:∃ r,zad (6+4*f) [] (p.drop 1)=r:=⟨_,rfl⟩;rw[hr] at hra;have HRA:=zhd hra;have HRR:=zhd hr;have H60:=zhd h60n;clear hra hq hqn hr;have HW2:=zhd (zvs h60n)
      gi_wp2_with (first
        | (refine ⟨trivial,?_⟩;gi_at_call 102;refine (callsIn_wd.2 HCT.out).mono ?_;rintro e w1 ⟨⟨A1,c1,rfl,ho1⟩,hE1⟩;obtain ⟨hnn,b1,off1,rfl,hcc⟩:=Bs.at_ ho1.bs HPP.out;clear hnn hcc;obtain ⟨_,_,e9,hcp1,hcp2⟩:=SlR.open_ ho1.bs;cases e9;have hcn:¬ c1=1:=by (have:=HP4.out;omega))
        | (refine ⟨trivial,?_⟩;gi_at_call 103;refine (callsIn_wd.2 (zdc _ (p.drop 1) 6 (by decide) w1 (Bs.cut ho1.bs 1 (by have:=HPP.out;omega) rfl) (by rw[List.length_drop];have:=HPL.out;omega))).mono ?_;rw[HQ.out];rintro e w2 ⟨vl,vr,rfl,hol,hor,hE2⟩;have hol:w2.ownsRow w1.heap.size 3 1 vl 6 ([n0,n1,n2,n3,n4,(f:Int)].map iv):=hol;obtain ⟨A2,c2,rfl,hcl1,hcl2⟩:=SlR.open_ (SlR.of_own hol);obtain ⟨hnn,b2,off2,rfl,hcl⟩:=SlR.at_ (SlR.of_own hol) (by decide);clear hnn;have hl5:w2.cell? ⟨b2,off2+5,none⟩=some (.int .i64 f):=hcl 5 _ rfl;have HL6:Hid (w2.cell? ⟨b2,off2,none⟩=some (.int .i64 n0)∧w2.cell? ⟨b2,off2+1,none⟩=some (.int .i64 n1)∧w2.cell? ⟨b2,off2+2,none⟩=some (.int .i64 n2)∧w2.cell? ⟨b2,off2+3,none⟩=some (.int .i64 n3)∧w2.cell? ⟨b2,off2+4,none⟩=some (.int .i64 n4)):=⟨hcl 0 _ rfl,hcl 1 _ rfl,hcl 2 _ rfl,hcl 3 _ rfl,hcl 4 _ rfl⟩;clear hcl))
      have hE2':Ext w1 w2:=hE2
      have hol2:=zhd hol
      have hb2:w1.heap.size≤b2:=(zbT hol rfl).1
      have hbw:w.heap.size<w1.heap.size:=(HB0.out.ext hE1).lt
      have HBC:=zhd (Bs.cut ho1.bs 1 (by have:=HPP.out;omega) rfl);have HE12:=zhd (Ext.trans hE1 hE2);have HEE2:=zhd hE2;clear hol hor hE2 hE2' ho1
      refine zc9 (S:=fun W=>W.cell? ⟨b2,off2+5,none⟩=some (.int .i64 (f:Int))) (by kernel_rfl) hl5 (fun hHeld=>?_)
      have hw4:=zv5 H60.out;refine tkN 0 rfl ?_;refine tkN 1 rfl ?_;refine tkN 2 rfl ?_;refine tkN 3 rfl ?_;refine tkN 4 rfl ?_;refine tkN 5 rfl ?_;refine tkN 6 rfl ?_;clear hw4
      refine ar1 7 rfl (fun K hK=>?_)
      go_simp
      rw[HW2.out]
      with_reducible refine (zdc _ (p.drop 1) (6+4*f) (by have:=H60.out;omega) _ ((HBC.out.ext HEE2.out).ext (Ext.drew (Ext.refl _))) (by rw[List.length_drop];have:=HPL.out;omega)).mono ?_
      rw[HRR.out];rintro e w3 ⟨vl3,vr3,rfl,hol3,hor3,hE3⟩;have HE23:=zhd (Ext.trans (Ext.drew (Ext.refl w2)) hE3);have HOL3:=zhd hol3;obtain ⟨A3,c3,rfl,hc31,hc32⟩:=SlR.open_ (SlR.of_own hol3);clear hE3 hol3 hor3
      refine shK hK _ _ (HE23.out.cell hl5) (fun hHeld=>?_)
      refine tkN 8 rfl ?_;refine tkN 9 rfl ?_;refine tkN 10 rfl ?_;refine tkN 11 rfl ?_;refine tkN 12 rfl ?_;refine tkN 13 rfl ?_;refine wpAnyH_done (by kernel_rfl) ?_ _
      refine zdW ?_
      have HE13:=zhd (Ext.trans HE12.out HE23.out)
      by_cases he7:r.1=0
      case neg =>
       have hnone:zbB b=none:=HTK.out.1 (by rw[HRA.out,if_neg he7])
       have heb:(r.1 != 0)=true:=by simpa using he7
       clear he7
       gi_wp2
       all_goals
        refine wpIn_goto ?_
        try simp only[Exit.then]
        refine (show Exit.jumps [0] (fun _=>zii w b) _ (Exit.goto 0) _ _ from ?_)
        refine zah (by simp) ?_
        exact ⟨hnone,.inl rfl,rfl,rfl,⟨_,_,_,_,_,_,HB0.out.ext HE13.out⟩,Ext.trans HX0.out HE13.out⟩
      obtain ⟨r1,ys,r3⟩:=r
      obtain rfl:r1=0:=he7
      have hra:=HRA.out;rw[if_pos rfl] at hra;dsimp only at hra;obtain ⟨hyl,hyn,_⟩:=ziO HRR.out;have hbm:=HB0.out.ext HE13.out;have f0:=hbm.frozen 0;have f1:=hbm.frozen 1;have f2:=hbm.frozen 2;have f3:=hbm.frozen 3;have f4:=hbm.frozen 4;have f5:=hbm.frozen 5;obtain ⟨m0,m1,m2,m3,m4,m5⟩:=zap hbm;obtain ⟨l0,l1,l2,l3,l4⟩:=HL6.out;have k0:=HE23.out.cell l0;have k1:=HE23.out.cell l1;have k2:=HE23.out.cell l2;have k3:=HE23.out.cell l3;have k4:=HE23.out.cell l4;have HBM:=zhd hbm;have HRA2:=zhd hra;have HYL:=zhd hyl;have HYN:=zhd hyn;clear hra hyl hyn hbm l0 l1 l2 l3 l4 HRA HRR hHeld hl5;clear f0 f1 f2 f3 f4 f5 m0 m1 m2 m3 m4 m5
      gi_wp2
      refine zc9 (S:=fun W=>W.cell? ⟨b2,off2,none⟩=some (.int .i64 n0)∧W.cell? ⟨b2,off2+1,none⟩=some (.int .i64 n1)∧W.cell? ⟨b2,off2+2,none⟩=some (.int .i64 n2)∧W.cell? ⟨b2,off2+3,none⟩=some (.int .i64 n3)∧W.cell? ⟨b2,off2+4,none⟩=some (.int .i64 n4)) (by kernel_rfl) ⟨k0,k1,k2,k3,k4⟩ (fun hHeld=>?_)
      refine tkN 0 rfl ?_;refine tkN 1 rfl ?_;refine tkN 2 rfl ?_;refine tkN 3 rfl ?_;refine tkN 4 rfl ?_;refine tkN 5 rfl ?_;refine tkN 6 rfl ?_;refine tkN 7 rfl ?_;refine tkN 8 rfl ?_;refine tkN 9 rfl ?_;refine tkN 10 rfl ?_;refine tkN 11 rfl ?_;refine tkN 12 rfl ?_;refine tkN 13 rfl ?_;refine tkN 14 rfl ?_;refine tkN 15 rfl ?_;refine tkN 16 rfl ?_;have hbm2:=HBM.out;have f0:=hbm2.frozen 0;have f1:=hbm2.frozen 1;have f2:=hbm2.frozen 2;have f3:=hbm2.frozen 3;have f4:=hbm2.frozen 4;have f5:=hbm2.frozen 5;obtain ⟨m0,m1,m2,m3,m4,m5⟩:=zap hbm2
      refine ar1 17 rfl (fun K hK=>?_)
      go_simp
      have hne:∀ k,((⟨b2,k,none⟩:Addr).block≠w.heap.size):=fun k=>by dsimp only;omega
      refine shK hK _ _ ⟨Ext.cell (Ext.drew (Ext.refl _)) (zfl k0 (hne _) _ _ _ _ _ _),Ext.cell (Ext.drew (Ext.refl _)) (zfl k1 (hne _) _ _ _ _ _ _),Ext.cell (Ext.drew (Ext.refl _)) (zfl k2 (hne _) _ _ _ _ _ _),Ext.cell (Ext.drew (Ext.refl _)) (zfl k3 (hne _) _ _ _ _ _ _),Ext.cell (Ext.drew (Ext.refl _)) (zfl k4 (hne _) _ _ _ _ _ _)⟩ (fun hHeld=>?_)
      refine wpAnyH_done (by kernel_rfl) ?_ _
      refine zdW ?_
      have hE4:Ext w (zb2 w3 w.heap.size (.int .i64 n0) (.int .i64 n1) (.int .i64 n2) (.int .i64 n3) (.int .i64 n4) (.slice none 0 0)).drew:=Ext.drew (zeb (Ext.trans HX0.out HE13.out) (Nat.le_refl _) _ _ _ _ _ _)
      have hbm4:Blk (zb2 w3 w.heap.size (.int .i64 n0) (.int .i64 n1) (.int .i64 n2) (.int .i64 n3) (.int .i64 n4) (.slice none 0 0)).drew w.heap.size 30 #[.int .i64 n0,.int .i64 n1,.int .i64 n2,.int .i64 n3,.int .i64 n4,.slice none 0 0]:=(zde HBM.out (.int .i64 n0) (.int .i64 n1) (.int .i64 n2) (.int .i64 n3) (.int .i64 n4) (.slice none 0 0)).ext (Ext.drew (Ext.refl _))
      have hol4:(zb2 w3 w.heap.size (.int .i64 n0) (.int .i64 n1) (.int .i64 n2) (.int .i64 n3) (.int .i64 n4) (.slice none 0 0)).drew.ownsRow w2.drew.heap.size 3 1 (.slice A3 ys.length c3) ys.length (ys.map iv):=zag (zc6 HBM.out (by decide:(30:TypeId)≠3) HOL3.out (.int .i64 n0) (.int .i64 n1) (.int .i64 n2) (.int .i64 n3) (.int .i64 n4) (.slice none 0 0)) (Ext.drew (Ext.refl _))
      obtain ⟨W4,hW4⟩:∃ W4,(zb2 w3 w.heap.size (.int .i64 n0) (.int .i64 n1) (.int .i64 n2) (.int .i64 n3) (.int .i64 n4) (.slice none 0 0)).drew=W4:=⟨_,rfl⟩;rw[hW4] at hE4 hbm4 hol4
      delta zb2 at hW4
      rw[hW4]
      have hy6:ys.length=6+4*f:=HYL.out
      obtain ⟨es,hes1,hes2,hes3⟩:=zse (ys.drop 6) f (by rw[List.length_drop];omega);rw[hes3] at HRA2;have HYS:=zhd hes1;have HES:=zhd hes2;have HB4:=zhd hbm4;have HE4:=zhd hE4;have HO4:=zhd hol4
      have hyz:(6:Int)≤(ys.length:Int):=by omega
      have HC3:=zhd hc31;have HY6:=zhd hy6;clear hW4 f0 f1 f2 f3 f4 f5 m0 m1 m2 m3 m4 m5 k0 k1 k2 k3 k4 hHeld hbm2 hne hE4 hbm4 hol4 hy6 hes1 hes2 hes3 HBM HOL3 hc31 HL6 hol2 HYL;obtain ⟨hnn,b3,off3,rfl,hcl3⟩:=SlR.at_ (SlR.of_own HO4.out) (by have:=HY6.out;omega);clear hnn hcl3
      have HYR:Hid (∀ s∈es,0≤s.count∧s.count≤1073741824):=fun s hs=>HYN.out _ (List.mem_of_mem_drop (by rw[←HYS.out];exact zsd hs))
      have hes60:es.length≤60:=by have:=HES.out;have:=H60.out;omega
      have HES60:=zhd hes60;clear hes60 HYN
      by_cases hc6:c3=6
      ·have hIs:∀ X:World,X.ownsRow w2.drew.heap.size 3 1 (.slice (some ⟨b3,off3,none⟩) ys.length c3) ys.length (ys.map iv)→Is X (.slice (some ⟨b3,off3,none⟩) (ys.length-6) 0) (zch es):=by
        intro X hX
        have:=HC3.out
        have e1:ys.length-6=0:=by omega
        rw[HYS.out,List.drop_of_length_le (by omega),e1]
        exact SlR.empty _ 1 (Nat.zero_le _)
       have HIs:=zhd hIs;clear hIs
       gi_wp2_with (refine ⟨trivial,?_⟩;gi_at_call 104;refine (callsIn_wd.2 (zjd _ _ _ _)).mono ?_;rintro e w' ⟨rfl,rfl⟩)
       have q1:Boxed ((W4.alloc (.cells #[.slice (some ⟨b3,off3,none⟩) (ys.length-6) 0] 96)).alloc (.cells #[.int .i64 4] 3)) W4.heap.size 96 (.slice (some ⟨b3,off3,none⟩) (ys.length-6) 0):=(Boxed.new W4 _ _).alloc _
       have q2:Boxed ((W4.alloc (.cells #[.slice (some ⟨b3,off3,none⟩) (ys.length-6) 0] 96)).alloc (.cells #[.int .i64 4] 3)) (W4.heap.size+1) 3 (.int .i64 4):=by
        have:=Boxed.new (W4.alloc (.cells #[.slice (some ⟨b3,off3,none⟩) (ys.length-6) 0] 96)) 3 (.int .i64 4)
        rwa [World.size_alloc] at this
       have hE2:Ext W4 ((W4.alloc (.cells #[.slice (some ⟨b3,off3,none⟩) (ys.length-6) 0] 96)).alloc (.cells #[.int .i64 4] 3)):=Ext.alloc (Ext.alloc (Ext.refl _) _) _
       generalize (W4.alloc (.cells #[.slice (some ⟨b3,off3,none⟩) (ys.length-6) 0] 96)).alloc (.cells #[.int .i64 4] 3)=w5 at *
       have hb5:=HB4.out.ext hE2;have hbw:=zde hb5 (.bool true) (.bool true) (.bool true) (.bool true) (.bool true) (.bool true);have hIs5:=HIs.out _ (zc6 hb5 (by decide:(30:TypeId)≠3) (zag HO4.out hE2) (.bool true) (.bool true) (.bool true) (.bool true) (.bool true) (.bool true));obtain ⟨wo,hwo⟩:∃ wo,zb2 w5 w.heap.size (.bool true) (.bool true) (.bool true) (.bool true) (.bool true) (.bool true)=wo:=⟨_,rfl⟩
       have hot:∀ (p:Addr) (u:Value),p.block≠w.heap.size→wo.cell? p=some u→w5.cell? p=some u:=fun p u hp h=>zkV hp (by rw[hwo];exact h)
       have hbw:Blk wo w.heap.size 30 #[.bool true,.bool true,.bool true,.bool true,.bool true,.bool true]:=by rw[←hwo];exact hbw
       rw[hwo] at hIs5;have hE5:=Ext.trans HE4.out hE2
       have h0:TkS w w5.heap.size n0 n1 n2 n3 n4 wo [] w5:=⟨_,_,hb5,World.ownsRow_nil _ _ _ _,hE5,hot⟩
       have hN5:w.heap.size<W4.heap.size:=HB4.out.lt
       have hw5:w.heap.size<w5.heap.size:=hb5.lt
       have HQ1:=zhd q1;have HQ2:=zhd q2;have HB5:=zhd hb5;have HBW:=zhd hbw;have HOT:=zhd hot;clear q1 q2 hE2 hb5 hbw hot hwo
       refine zdU (fun T hT=>?_)
       refine zbO (a:=⟨T,[]⟩) (by subst hT;rfl) (enters_of Tryz.func140 (by kernel_rfl) rfl)
        (fun W1 hb hs=>zji wo W1 _ es hIs5 (by have:=HES60.out;omega) W4.heap.size (W4.heap.size+1) (HQ1.out.kept (row:=none) (Ext.grown hb none) (by simp)) (HQ2.out.kept (row:=none) (Ext.grown hb none) (by simp)))
        (fun k o h=>h.elim) (fun k o h=>by rcases h with h | h <;> exact zba h.2) (fun x av W h=>by obtain ⟨_,_,rfl,_⟩:=h;rfl)
        (TkS w w5.heap.size n0 n1 n2 n3 n4 wo) (fun _ _ _=>False) ?hIp (fun _ _ _ _ h _=>h) h0
        (fun e a' W=>∃ b off,Is W (.slice (some ⟨b,off,none⟩) 4 4) [e.seq,e.fmt,e.first,e.count]∧(b≠w.heap.size∧b<w5.heap.size)∧a'=⟨(T.setIfInBounds 72 (.slice (some ⟨b,off,none⟩) 4 4)).setIfInBounds 8 (.slice (some ⟨b,off,none⟩) 4 4),[]⟩)
        ?hAxp ?assignp ?bodyp ?donep (fun _ _ _ _ _ _ h _=>h.elim)
       case hIp =>
        rintro s X Y ⟨Av,cv,hB,hO,hE,hH⟩ hm
        refine ⟨Av,cv,hm.blkF hB,hm.ownsRow hO ?_,hm.belowF hE (by omega),fun p u hp hc=>hm.cell (hH p u hp hc) ?_⟩
        ·rintro k cur _ (h | h)
         ·exact h
         ·cases h.2
        ·rintro o _ hc (h | h)
         ·exact h
         ·rw[hc] at h;cases h.2
       case hAxp =>
        rintro e a' X Y ⟨b,off,hu,hne,rfl⟩ hm
        refine ⟨b,off,SlR.keep hu (fun q t hq=>hm.cell hq (fun o _ hc=>?_)),hne,rfl⟩
        rintro (h | h)
        ·exact h
        ·rw[hc] at h;cases h.2
       case assignp =>
        exact mcMTakea2
       case bodyp =>
        rintro l' pre x post a' W hx hl' hr ⟨Av,cv,hB,hO,hE,hH⟩ hsz ⟨b',off',hu,⟨hbne,hblt⟩,rfl⟩
        have hpl:pre.length≤60:=by have:=congrArg List.length hx;have:=HES60.out;simp at *;omega
        have hxm:=HYR.out x (by rw[hx];simp)
        have hdec:(pre++[x]).map dec=pre.map dec++[dec x]:=by simp
        have Hdec:=zhd hdec;clear hx hdec;obtain ⟨y0,y1,y2,y3⟩:=x;dsimp only at hu hxm;obtain ⟨d0,d1,d2,d3⟩:=is4 hu
        have hw3:IntKind.i64.wrap (y3-1)=y3-1:=by rw[IntKind.wrap_i64];omega
        obtain ⟨_,_,_,_,_,g5⟩:=zap hB;have HBm:=zhd hB;have HOo:=zhd hO;have HEe:=zhd hE;have HHh:=zhd hH;clear hB hO hE hH hu hxm;subst hT
        gi_wp2
        refine zgt (S:=fun W=>W.cell? ⟨b',off',none⟩=some (.int .i64 y0)∧W.cell? ⟨b',off'+1,none⟩=some (.int .i64 y1)∧W.cell? ⟨b',off'+2,none⟩=some (.int .i64 y2)∧W.cell? ⟨b',off'+3,none⟩=some (.int .i64 y3)) (by kernel_rfl) (by kernel_rfl) ⟨d0,d1,d2,d3⟩ (fun hHeld=>?_)
        refine tkN 0 rfl ?_;refine tkN 2 rfl ?_;refine tkN 3 rfl ?_;refine tkN 4 rfl ?_;refine tkN 5 rfl ?_;refine tkN 6 rfl ?_;refine tkN 7 rfl ?_;refine tkN 8 rfl ?_;refine tkN 9 rfl ?_;refine tkN 10 rfl ?_;refine tkN 11 rfl ?_;refine tkN 12 rfl ?_;refine tkN 13 rfl ?_;refine tkN 14 rfl ?_;refine tkN 15 rfl ?_
        have X6:Ext W (W.alloc (.cells #[.int .i64 y0,.int .i64 y1,.int .i64 y2,.int .i64 (y3-1)] 74)).drew:=Ext.drew (Ext.alloc (Ext.refl _) _)
        have g5d:W.drew.cell? ⟨w.heap.size,5,none⟩=some (.slice Av pre.length cv):=g5
        have g5x:=X6.cell g5
        refine zk5 (i:=1) (j:=16) (vi:=.slice Av pre.length cv) (vj:=.slice (some ⟨W.heap.size,0,none⟩) 1 1) (w':=(W.alloc (.cells #[.int .i64 y0,.int .i64 y1,.int .i64 y2,.int .i64 (y3-1)] 74)).drew) rfl rfl (by kernel_rfl) (by kernel_rfl) (by kernel_rfl) (by rfl) (by rfl) (by rfl) (by rfl) (by rfl) (by rfl) hHeld ⟨X6.cell d0,X6.cell d1,X6.cell d2,X6.cell d3⟩ ?h1p ?h2p ?h3p ?h4p ?h5p
        case h1p=>go_simp
        case h2p=>go_simp
        case h3p=>go_simp
        case h4p=>go_simp
        case' h5p=>skip
        exact mcMTakea1
       case donep =>
        exact mcMTakea0
      ·have hIs:∀ X:World,X.ownsRow w2.drew.heap.size 3 1 (.slice (some ⟨b3,off3,none⟩) ys.length c3) ys.length (ys.map iv)→Is X (.slice (some ⟨b3,off3+6,none⟩) (ys.length-6) (c3-6)) (zch es):=by
        intro X hX
        have:=SlR.drop1 (SlR.of_own hX) 6 (by have:=HY6.out;omega)
        rw[HYS.out];unfold Is;rw[List.length_drop,List.map_drop]
        exact this
       have HIs:=zhd hIs;clear hIs
       gi_wp2_with (refine ⟨trivial,?_⟩;gi_at_call 104;refine (callsIn_wd.2 (zjd _ _ _ _)).mono ?_;rintro e w' ⟨rfl,rfl⟩)
       have q1:Boxed ((W4.alloc (.cells #[.slice (some ⟨b3,off3+6,none⟩) (ys.length-6) (c3-6)] 96)).alloc (.cells #[.int .i64 4] 3)) W4.heap.size 96 (.slice (some ⟨b3,off3+6,none⟩) (ys.length-6) (c3-6)):=(Boxed.new W4 _ _).alloc _
       have q2:Boxed ((W4.alloc (.cells #[.slice (some ⟨b3,off3+6,none⟩) (ys.length-6) (c3-6)] 96)).alloc (.cells #[.int .i64 4] 3)) (W4.heap.size+1) 3 (.int .i64 4):=by
        have:=Boxed.new (W4.alloc (.cells #[.slice (some ⟨b3,off3+6,none⟩) (ys.length-6) (c3-6)] 96)) 3 (.int .i64 4)
        rwa [World.size_alloc] at this
       have hE2:Ext W4 ((W4.alloc (.cells #[.slice (some ⟨b3,off3+6,none⟩) (ys.length-6) (c3-6)] 96)).alloc (.cells #[.int .i64 4] 3)):=Ext.alloc (Ext.alloc (Ext.refl _) _) _
       generalize (W4.alloc (.cells #[.slice (some ⟨b3,off3+6,none⟩) (ys.length-6) (c3-6)] 96)).alloc (.cells #[.int .i64 4] 3)=w5 at *
       have hb5:=HB4.out.ext hE2;have hbw:=zde hb5 (.bool true) (.bool true) (.bool true) (.bool true) (.bool true) (.bool true);have hIs5:=HIs.out _ (zc6 hb5 (by decide:(30:TypeId)≠3) (zag HO4.out hE2) (.bool true) (.bool true) (.bool true) (.bool true) (.bool true) (.bool true));obtain ⟨wo,hwo⟩:∃ wo,zb2 w5 w.heap.size (.bool true) (.bool true) (.bool true) (.bool true) (.bool true) (.bool true)=wo:=⟨_,rfl⟩
       have hot:∀ (p:Addr) (u:Value),p.block≠w.heap.size→wo.cell? p=some u→w5.cell? p=some u:=fun p u hp h=>zkV hp (by rw[hwo];exact h)
       have hbw:Blk wo w.heap.size 30 #[.bool true,.bool true,.bool true,.bool true,.bool true,.bool true]:=by rw[←hwo];exact hbw
       rw[hwo] at hIs5;have hE5:=Ext.trans HE4.out hE2
       have h0:TkS w w5.heap.size n0 n1 n2 n3 n4 wo [] w5:=⟨_,_,hb5,World.ownsRow_nil _ _ _ _,hE5,hot⟩
       have hN5:w.heap.size<W4.heap.size:=HB4.out.lt
       have hw5:w.heap.size<w5.heap.size:=hb5.lt
       have HQ1:=zhd q1;have HQ2:=zhd q2;have HB5:=zhd hb5;have HBW:=zhd hbw;have HOT:=zhd hot;clear q1 q2 hE2 hb5 hbw hot hwo
       refine zdU (fun T hT=>?_)
       refine zbO (a:=⟨T,[]⟩) (by subst hT;rfl) (enters_of Tryz.func140 (by kernel_rfl) rfl)
        (fun W1 hb hs=>zji wo W1 _ es hIs5 (by have:=HES60.out;omega) W4.heap.size (W4.heap.size+1) (HQ1.out.kept (row:=none) (Ext.grown hb none) (by simp)) (HQ2.out.kept (row:=none) (Ext.grown hb none) (by simp)))
        (fun k o h=>h.elim) (fun k o h=>by rcases h with h | h <;> exact zba h.2) (fun x av W h=>by obtain ⟨_,_,rfl,_⟩:=h;rfl)
        (TkS w w5.heap.size n0 n1 n2 n3 n4 wo) (fun _ _ _=>False) ?hIq (fun _ _ _ _ h _=>h) h0
        (fun e a' W=>∃ b off,Is W (.slice (some ⟨b,off,none⟩) 4 4) [e.seq,e.fmt,e.first,e.count]∧(b≠w.heap.size∧b<w5.heap.size)∧a'=⟨(T.setIfInBounds 72 (.slice (some ⟨b,off,none⟩) 4 4)).setIfInBounds 8 (.slice (some ⟨b,off,none⟩) 4 4),[]⟩)
        ?hAxq ?assignq ?bodyq ?doneq (fun _ _ _ _ _ _ h _=>h.elim)
       case hIq =>
        rintro s X Y ⟨Av,cv,hB,hO,hE,hH⟩ hm
        refine ⟨Av,cv,hm.blkF hB,hm.ownsRow hO ?_,hm.belowF hE (by omega),fun p u hp hc=>hm.cell (hH p u hp hc) ?_⟩
        ·rintro k cur _ (h | h)
         ·exact h
         ·cases h.2
        ·rintro o _ hc (h | h)
         ·exact h
         ·rw[hc] at h;cases h.2
       case hAxq =>
        rintro e a' X Y ⟨b,off,hu,hne,rfl⟩ hm
        refine ⟨b,off,SlR.keep hu (fun q t hq=>hm.cell hq (fun o _ hc=>?_)),hne,rfl⟩
        rintro (h | h)
        ·exact h
        ·rw[hc] at h;cases h.2
       case assignq =>
        exact mcMTakea2
       case bodyq =>
        rintro l' pre x post a' W hx hl' hr ⟨Av,cv,hB,hO,hE,hH⟩ hsz ⟨b',off',hu,⟨hbne,hblt⟩,rfl⟩
        have hpl:pre.length≤60:=by have:=congrArg List.length hx;have:=HES60.out;simp at *;omega
        have hxm:=HYR.out x (by rw[hx];simp)
        have hdec:(pre++[x]).map dec=pre.map dec++[dec x]:=by simp
        have Hdec:=zhd hdec;clear hx hdec;obtain ⟨y0,y1,y2,y3⟩:=x;dsimp only at hu hxm;obtain ⟨d0,d1,d2,d3⟩:=is4 hu
        have hw3:IntKind.i64.wrap (y3-1)=y3-1:=by rw[IntKind.wrap_i64];omega
        obtain ⟨_,_,_,_,_,g5⟩:=zap hB;have HBm:=zhd hB;have HOo:=zhd hO;have HEe:=zhd hE;have HHh:=zhd hH;clear hB hO hE hH hu hxm;subst hT
        gi_wp2
        refine zgt (S:=fun W=>W.cell? ⟨b',off',none⟩=some (.int .i64 y0)∧W.cell? ⟨b',off'+1,none⟩=some (.int .i64 y1)∧W.cell? ⟨b',off'+2,none⟩=some (.int .i64 y2)∧W.cell? ⟨b',off'+3,none⟩=some (.int .i64 y3)) (by kernel_rfl) (by kernel_rfl) ⟨d0,d1,d2,d3⟩ (fun hHeld=>?_)
        refine tkN 0 rfl ?_;refine tkN 2 rfl ?_;refine tkN 3 rfl ?_;refine tkN 4 rfl ?_;refine tkN 5 rfl ?_;refine tkN 6 rfl ?_;refine tkN 7 rfl ?_;refine tkN 8 rfl ?_;refine tkN 9 rfl ?_;refine tkN 10 rfl ?_;refine tkN 11 rfl ?_;refine tkN 12 rfl ?_;refine tkN 13 rfl ?_;refine tkN 14 rfl ?_;refine tkN 15 rfl ?_
        have X6:Ext W (W.alloc (.cells #[.int .i64 y0,.int .i64 y1,.int .i64 y2,.int .i64 (y3-1)] 74)).drew:=Ext.drew (Ext.alloc (Ext.refl _) _)
        have g5d:W.drew.cell? ⟨w.heap.size,5,none⟩=some (.slice Av pre.length cv):=g5
        have g5x:=X6.cell g5
        refine zk5 (i:=1) (j:=16) (vi:=.slice Av pre.length cv) (vj:=.slice (some ⟨W.heap.size,0,none⟩) 1 1) (w':=(W.alloc (.cells #[.int .i64 y0,.int .i64 y1,.int .i64 y2,.int .i64 (y3-1)] 74)).drew) rfl rfl (by kernel_rfl) (by kernel_rfl) (by kernel_rfl) (by rfl) (by rfl) (by rfl) (by rfl) (by rfl) (by rfl) hHeld ⟨X6.cell d0,X6.cell d1,X6.cell d2,X6.cell d3⟩ ?h1q ?h2q ?h3q ?h4q ?h5q
        case h1q=>go_simp
        case h2q=>go_simp
        case h3q=>go_simp
        case h4q=>go_simp
        case' h5q=>skip
        exact mcMTakea1
       case doneq =>
        exact mcMTakea0
 ·rintro ⟨TT,df⟩ W ⟨hnone,hd,hsz,h2,⟨x0,x1,x2,x3,x4,x5,hb⟩,hE⟩
  dsimp only at hsz h2 hd;have hT:=zdi 106 TT hsz
  generalize hU:(fun i=>TT.getD i undef)=U at hT
  have g2:U 2=.pointer (some ⟨w.heap.size,0,none⟩):=by rw[←hU];exact h2
  have hT2:TT = #[U 0,U 1,.pointer (some ⟨w.heap.size,0,none⟩),U 3,U 4,U 5,U 6,U 7,U 8,U 9,U 10,U 11,U 12,U 13,U 14,U 15,U 16,U 17,U 18,U 19,U 20,U 21,U 22,U 23,U 24,U 25,U 26,U 27,U 28,U 29,U 30,U 31,U 32,U 33,U 34,U 35,U 36,U 37,U 38,U 39,U 40,U 41,U 42,U 43,U 44,U 45,U 46,U 47,U 48,U 49,U 50,U 51,U 52,U 53,U 54,U 55,U 56,U 57,U 58,U 59,U 60,U 61,U 62,U 63,U 64,U 65,U 66,U 67,U 68,U 69,U 70,U 71,U 72,U 73,U 74,U 75,U 76,U 77,U 78,U 79,U 80,U 81,U 82,U 83,U 84,U 85,U 86,U 87,U 88,U 89,U 90,U 91,U 92,U 93,U 94,U 95,U 96,U 97,U 98,U 99,U 100,U 101,U 102,U 103,U 104,U 105]:=by rw[hT];show (#[U 0,U 1,U 2,U 3,U 4,U 5,U 6,U 7,U 8,U 9,U 10,U 11,U 12,U 13,U 14,U 15,U 16,U 17,U 18,U 19,U 20,U 21,U 22,U 23,U 24,U 25,U 26,U 27,U 28,U 29,U 30,U 31,U 32,U 33,U 34,U 35,U 36,U 37,U 38,U 39,U 40,U 41,U 42,U 43,U 44,U 45,U 46,U 47,U 48,U 49,U 50,U 51,U 52,U 53,U 54,U 55,U 56,U 57,U 58,U 59,U 60,U 61,U 62,U 63,U 64,U 65,U 66,U 67,U 68,U 69,U 70,U 71,U 72,U 73,U 74,U 75,U 76,U 77,U 78,U 79,U 80,U 81,U 82,U 83,U 84,U 85,U 86,U 87,U 88,U 89,U 90,U 91,U 92,U 93,U 94,U 95,U 96,U 97,U 98,U 99,U 100,U 101,U 102,U 103,U 104,U 105]:Array Value)=_;rw[g2]
  clear hT hU hsz g2 h2;subst hT2
  have hRn:R=none:=by rw[←HR.out];exact hnone
  subst hRn;clear hnone;have f0:=hb.frozen 0;have f1:=hb.frozen 1;have f2:=hb.frozen 2;have f3:=hb.frozen 3;have f4:=hb.frozen 4;have f5:=hb.frozen 5;obtain ⟨m0,m1,m2,m3,m4,m5⟩:=zap hb;have hbs:=zde hb (.int .i64 0) (.int .i64 0) (.int .i64 0) (.int .i64 0) (.int .i64 0) (.slice none 0 0);have hes:=zeb hE (b:=w.heap.size) (Nat.le_refl _) (.int .i64 0) (.int .i64 0) (.int .i64 0) (.int .i64 0) (.int .i64 0) (.slice none 0 0);have HBS:=zhd hbs;have HES:=zhd hes;clear hbs hes
  rcases hd with rfl | ⟨D,rfl,hK,hD⟩
  ·gi_wp2
   refine zas ?_
   exact ⟨.tuple #[.agg #[.int .i64 0,.int .i64 0,.int .i64 0,.int .i64 0,.int .i64 0,.slice none 0 0],.int .i64 11],zi0 _ _ _ _ (.int .i64 11) rfl rfl HBS.out rfl,.slice none 0 0,rfl,World.ownsRow_nil _ _ _ _,HES.out⟩
  ·have HKD:=zhd (zj2 hK rfl w.heap.size (.int .i64 0) (.int .i64 0) (.int .i64 0) (.int .i64 0) (.int .i64 0) (.slice none 0 0))
   clear hK
   gi_wp2
   refine zas ?_
   exact zbg HKD.out (.tuple #[.agg #[.int .i64 0,.int .i64 0,.int .i64 0,.int .i64 0,.int .i64 0,.slice none 0 0],.int .i64 11]) (zi0 _ _ _ _ (.int .i64 11) rfl rfl (zfE HBS.out HKD.out rfl _) rfl) ⟨.slice none 0 0,rfl,World.ownsRow_nil _ _ _ _,zar HES.out hD _⟩
end Go.Proofs.YtgonhdeochgkoaaGreatDoor
