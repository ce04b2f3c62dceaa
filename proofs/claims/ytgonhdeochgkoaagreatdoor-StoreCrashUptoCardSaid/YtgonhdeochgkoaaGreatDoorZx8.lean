/- Merged -/
import Derived.Test.YtgonhdeochgkoaaGreatDoorZx6
import Derived.Test.YtgonhdeochgkoaaGreatDoorZx7
import Derived.StillTailTactics
set_option linter.all false
set_option maxHeartbeats 8000000
set_option maxRecDepth 100000
open Go.World renaming block_lt_of_cell?→P0,ownsRow_nil→P1
open Go.Mv.Ext renaming grown→P2
open Go.Boxed renaming new→P3,kept→P4
open List renaming eq_nil_of_length_eq_zero→P5,length→P6
namespace Go.Proofs.YtgonhdeochgkoaaGreatDoor
open Go.RowKit Go.Mv Go.Shelf
theorem mcTakena0 {P:Prop} (h:P:=by
 gi_wp2
 have Ha:(w1.setCell ⟨w.heap.size,0,none⟩ (.slice none 0 0)).cell? ⟨w.heap.size,0,none⟩=some (.slice none 0 0):=(Hd.set _).cell
 refine zcF (.tuple #[.slice none 0 0,.int .i64 0]) (by simp[results,Tryz.results304,go_sem,Ha]) ?_
 rw[Hb.out,if_neg (fun h=>HW.out h.1)]
 exact ⟨_,rfl,P1 _ _ _ _,Below.setCell (p:=⟨w.heap.size,0,none⟩) Hh (xN _) _⟩):P:=h
attribute [local go_sem] Oper.semAt_some
theorem zg7:(Tryz.prog.info? 79).map (fun i=>(i.zero,i.size,i.bytes))=some (some (.agg #[.int .i64 0,.int .i64 0,.int .i64 0]),3,24):=by kernel_rfl
def zex (bs:List UInt8):List Ent×Nat:=match zd2 bs with | none=>([],0) | some x=>(x.1,bs.length-x.2.length)
def zuK (w:World) (r:List Ent×Nat) (e:Ending) (w':World):Prop:=∃ v,e=.returned (.tuple #[v,.int .i64 r.2])∧w'.ownsRow w.heap.size 79 3 v r.1.length (zap r.1)∧Ext w w'
theorem is3 {w:World} {b H2 a c d:_} (h:Is w (.slice (some ⟨b,H2,none⟩) 3 3) [a,c,d]):w.cell? ⟨b,H2,none⟩=some (.int .i64 a)∧w.cell? ⟨b,H2+1,none⟩=some (.int .i64 c)∧w.cell? ⟨b,H2+2,none⟩=some (.int .i64 d):=by
 obtain ⟨_,A,c',e,_,_,h3⟩:=h
 cases e
 obtain ⟨b',H0,e',hc⟩:=h3 (by simp)
 cases e'
 exact ⟨hc 0 _ rfl,hc 1 _ rfl,hc 2 _ rfl⟩
theorem zuU {w:World} {b H2:Nat} {a c d:Int} (h0:w.cell? ⟨b,H2,none⟩=some (.int .i64 a)) (h1:w.cell? ⟨b,H2+1,none⟩=some (.int .i64 c)) (h2:w.cell? ⟨b,H2+2,none⟩=some (.int .i64 d)):Is w (.slice (some ⟨b,H2,none⟩) 3 3) [a,c,d]:=by
 refine ⟨rfl,_,3,rfl,xN _,by simp[maxLen],fun _=>⟨b,H2,rfl,fun j u hu=>?_⟩⟩
 match j with
 | 0=>cases hu;exact h0
 | 1=>cases hu;exact h1
 | 2=>cases hu;exact h2
 | j+3=>simp at hu
theorem zin (l:List Int):l.length≤(zaj l).length:=by
 induction l with
 | nil=>exact xN _
 | cons n l ih =>
  have h:=(zkA n.toNat).1
  rw[show zaj (n::l)=zbO n.toNat++zaj l from rfl,xL,xC]
  omega
def TkI (w wo:World) (H1:List Ent) (X:World):Prop :=
 ∃ v,Boxed X w.heap.size 54 v∧X.ownsRow wo.heap.size 79 3 v H1.length (zap H1)∧Below w.heap.size w X∧(∀ p u,p.block≠w.heap.size→wo.cell? p=some u→X.cell? p=some u)
theorem zr1 (v:Value) (bs:List UInt8) (w:World) (Hy:Bs w v bs) (hl:bs.length≤140737488355328):Calls Tryz.prog 304 #[v] w (zuK w (zex bs)):=by
 obtain ⟨A,c,rfl,h1,h2⟩:=xO Hy
 refine (callsIn_wd (ro:=none) (n:=9)).1 ?_
 refine callsIn_of_wp_marks Tryz.func304 rfl trivial ?_ rfl
 simp only[Tryz.ntmps304,List.size_toArray,xC,List.length_nil,Nat.reduceAdd,Nat.reduceSub,Array.replicate_succ,Array.replicate_zero,List.push_toArray,List.append_toArray,xI,List.cons_append]
 by_cases h0:bs.length=0
 ·have hb:bs=[]:=P5 h0
  subst hb
  gi_wp2
  have Ha:(w.alloc (.cells #[.slice none 0 0] 54)).cell? ⟨w.heap.size,0,none⟩=some (.slice none 0 0):=(P3 w _ _).cell
  refine zcF (.tuple #[.slice none 0 0,.int .i64 0]) (by simp[results,Tryz.results304,go_sem,Ha]) ?_
  exact ⟨_,rfl,P1 _ _ _ _,(xA (xR _) _)⟩
 obtain ⟨_,b,H2,rfl,hc⟩:=Bs.at_ Hy (by omega)
 have HY:w.cell? ⟨b,H2,none⟩=some (.int .u8 (bs[0].toNat:Int)):=hc 0 (by omega)
 obtain ⟨x,l,rfl⟩:∃ x l,bs=x::l:=by cases bs with | nil=>exact absurd rfl h0 | cons x l=>exact ⟨x,l,rfl⟩
 simp only[List.getElem_cons_zero] at HY
 have K9:b<w.heap.size:=P0 w _ HY
 have K3:=zhd Hy
 have e0:((l.length:Int)+1==0)=false:=by simp;omega
 clear hc Hy h0
 simp only[xC] at *
 have hx:=x.toNat_lt
 by_cases hx0:x.toNat=0∨4<x.toNat
 ·have ht:zex (x::l)=([],0):=by unfold zex;rw[zd2,if_pos hx0]
  have Ht:=zhd ht;clear ht
  gi_wp2
  all_goals
   have Ha:(w.alloc (.cells #[.slice none 0 0] 54)).cell? ⟨w.heap.size,0,none⟩=some (.slice none 0 0):=(P3 w _ _).cell
   refine zcF (.tuple #[.slice none 0 0,.int .i64 0]) (by simp[results,Tryz.results304,go_sem,Ha]) ?_
   rw[Ht.out]
   exact ⟨_,rfl,P1 _ _ _ _,(xA (xR _) _)⟩
 ·have Kr:0<x.toNat:=by omega
  have Ks:x.toNat≤4:=by omega
  have e1:((x.toNat:Int)==0)=false:=by simp;omega
  have HJ:=K3.out
  have HT:Hid (∀ (W:World) (u:Value),Bs W u l→Calls Tryz.prog 103 #[u,.int .i64 (3*(x.toNat:Int))] W (zgw W (zae (3*x.toNat) [] l))):=by
   intro W u hu
   have:=zdb u l (3*x.toNat) (by omega) W hu (by omega)
   rwa [show ((3*x.toNat:Nat):Int)=3*(x.toNat:Int) from by omega] at this
  have Hb:Hid (zex (x::l)=if (zae (3*x.toNat) [] l).1=0∧zc0 (zee (zae (3*x.toNat) [] l).2.1)=true then (zee (zae (3*x.toNat) [] l).2.1,l.length+1-(zae (3*x.toNat) [] l).2.2.length) else ([],0)):=by
   show _=_
   unfold zex;rw[zd2,if_neg hx0]
   by_cases h:(zae (3*x.toNat) [] l).1=0∧zc0 (zee (zae (3*x.toNat) [] l).2.1)=true
   ·rw[if_pos h,if_pos h];rfl
   ·rw[if_neg h,if_neg h]
  have HF:=zhd (zfB (3*x.toNat) [] l)
  generalize zae (3*x.toNat) [] l=tk at *
  obtain ⟨er,li,r⟩:=tk
  dsimp only at *
  have Hz:Boxed (w.alloc (.cells #[.slice none 0 0] 54)) w.heap.size 54 (.slice none 0 0):=P3 w _ _
  have HK:Ext w (w.alloc (.cells #[.slice none 0 0] 54)).drew:=xD (xA (xR _) _)
  clear hx0
  gi_wp2
  have Hr:∀ W:World,Ext w W→Bs W (.slice (some ⟨b,H2+1,none⟩) l.length (c-1)) l:=by
   intro W hE;have h:=Bs.cut (HJ.ext hE) 1 (by simp) rfl
   simpa using h
  have Hm:=zhd Hr;clear Hr
  have K1:IntKind.i64.wrap (x.toNat:Int)=(x.toNat:Int):=IntWalk.i64_in _ (by omega)
  have K2:IntKind.i64.wrap (3*(x.toNat:Int))=3*(x.toNat:Int):=IntWalk.i64_in _ (by omega)
  have Hd:(1:Int)≤(l.length:Int)+1:=by omega
  have Hl:(1:Int)≤(c:Int):=by omega
  have hb3:(0:Int)≤(l.length:Int):=by omega
  have HX:(0:Int)<(l.length:Int)+1:=by omega
  by_cases hc1:c=1
  ·obtain rfl:l=[]:=P5 (by omega)
   have He:er≠0:=by
    rintro rfl;obtain ⟨l',_,h4,_,h5⟩:=HF.out li r rfl;have h6:=zin l';have h7:=congrArg P6 h5
    simp at h7
    omega
   have e6:(er != 0)=true:=by simpa using He
   have HW:=zhd He;clear He;subst hc1
   refine zcJ (by kernel_rfl) ?_
   refine tkF 0 rfl rfl rfl ?_;refine tkF 1 rfl rfl rfl ?_;refine tkF 2 rfl rfl rfl ?_;refine tkF 3 rfl rfl rfl ?_
   refine zal (i:=4) (v:=?v5) (w':=?w5) rfl (by kernel_rfl) rfl rfl rfl ?h5 ?r5
   case h5=>go_simp;try (first | with_reducible rfl | (refine ⟨?_,?_⟩ <;> with_reducible rfl))
   refine zal (i:=5) (v:=?v6) (w':=?w6) rfl (by kernel_rfl) rfl rfl rfl ?h6 ?r6
   case h6=>go_simp;try (first | with_reducible rfl | (refine ⟨?_,?_⟩ <;> with_reducible rfl))
   refine zal (i:=6) (v:=?v7) (w':=?w7) rfl (by kernel_rfl) rfl rfl rfl ?h7 ?r7
   case h7=>go_simp;try (first | with_reducible rfl | (refine ⟨?_,?_⟩ <;> with_reducible rfl))
   refine zc7 (i:=7) (f:=103) (args:=?b8) (w':=?w8) (by kernel_rfl) rfl rfl ?h8 ?r8
   case h8=>go_simp;try (first | with_reducible rfl | (refine ⟨?_,?_⟩ <;> with_reducible rfl))
   have Ka:Bs (w.alloc (.cells #[.slice none 0 0] 54)).drew (.slice (some ⟨b,H2,none⟩) 0 0) []:=SlR.empty _ 1 (by simp)
   have Hq:=HT.out ((w.alloc (.cells #[.slice none 0 0] 54)).drew) _ Ka
   refine Hq.mono ?_
   rintro e w1 ⟨vl,vr,rfl,HD,HR,Hp⟩
   refine ⟨_,rfl,?_⟩
   refine zal (i:=8) (v:=?v9) (w':=?w9) rfl (by kernel_rfl) rfl rfl rfl ?h9 ?r9
   case h9=>go_simp;try (first | with_reducible rfl | (refine ⟨?_,?_⟩ <;> with_reducible rfl))
   refine tkF 9 rfl rfl rfl ?_;refine tkF 10 rfl rfl rfl ?_;refine tkF 11 rfl rfl rfl ?_;refine tkF 12 rfl rfl rfl ?_;refine tkF 13 rfl rfl rfl ?_;refine tkF 14 rfl rfl rfl ?_
   refine wpAnyIn_done (by kernel_rfl) (zbr ?_) _
   simp only[Act.put,sA,sZ,sS]
   have Hd:Boxed w1 w.heap.size 54 (.slice none 0 0):=P4 (W:=(w.alloc (.cells #[.slice none 0 0] 54)).drew) (row:=none) Hz (P2 Hp none) (by simp)
   have Hh:Ext w w1:=xT HK Hp
   have cb:=Hd.cell;have fb:=Hd.frozen;clear Hq K1 K2 Hl hb3 HX Hz
   exact mcTakena0
  ·have Ko:1<c:=by omega
   refine zcJ (by kernel_rfl) ?_
   refine tkF 0 rfl rfl rfl ?_;refine tkF 1 rfl rfl rfl ?_;refine tkF 2 rfl rfl rfl ?_;refine tkF 3 rfl rfl rfl ?_
   refine zal (i:=4) (v:=?v21) (w':=?w21) rfl (by kernel_rfl) rfl rfl rfl ?h21 ?r21
   case h21=>go_simp;try (first | with_reducible rfl | (refine ⟨?_,?_⟩ <;> with_reducible rfl))
   refine zal (i:=5) (v:=?v22) (w':=?w22) rfl (by kernel_rfl) rfl rfl rfl ?h22 ?r22
   case h22=>go_simp;try (first | with_reducible rfl | (refine ⟨?_,?_⟩ <;> with_reducible rfl))
   refine zal (i:=6) (v:=?v23) (w':=?w23) rfl (by kernel_rfl) rfl rfl rfl ?h23 ?r23
   case h23=>go_simp;try (first | with_reducible rfl | (refine ⟨?_,?_⟩ <;> with_reducible rfl))
   refine zc7 (i:=7) (f:=103) (args:=?b24) (w':=?w24) (by kernel_rfl) rfl rfl ?h24 ?r24
   case h24=>go_simp;try (first | with_reducible rfl | (refine ⟨?_,?_⟩ <;> with_reducible rfl))
   have Hq:=HT.out ((w.alloc (.cells #[.slice none 0 0] 54)).drew) _ (Hm.out _ HK)
   refine Hq.mono ?_
   rintro e w1 ⟨vl,vr,rfl,HD,HR,Hp⟩
   refine ⟨_,rfl,?_⟩
   refine zal (i:=8) (v:=?v25) (w':=?w25) rfl (by kernel_rfl) rfl rfl rfl ?h25 ?r25
   case h25=>go_simp;try (first | with_reducible rfl | (refine ⟨?_,?_⟩ <;> with_reducible rfl))
   refine tkF 9 rfl rfl rfl ?_;refine tkF 10 rfl rfl rfl ?_;refine tkF 11 rfl rfl rfl ?_;refine tkF 12 rfl rfl rfl ?_;refine tkF 13 rfl rfl rfl ?_;refine tkF 14 rfl rfl rfl ?_
   refine wpAnyIn_done (by kernel_rfl) (zbr ?_) _
   simp only[Act.put,sA,sZ,sS];dsimp only at HD HR
   have Hd:Boxed w1 w.heap.size 54 (.slice none 0 0):=P4 (W:=(w.alloc (.cells #[.slice none 0 0] 54)).drew) (row:=none) Hz (P2 Hp none) (by simp)
   have Hh:Ext w w1:=xT HK Hp
   obtain ⟨Al,cl,rfl,_,_⟩:=xO (xW HD);obtain ⟨Ar,cr,rfl,_,_⟩:=xO (xW HR);have cb:=Hd.cell;have fb:=Hd.frozen
   have K8:w.heap.size<w1.heap.size:=P0 w1 _ cb
   clear Hq K1 K2 Hl hb3 HX Hz
   by_cases He:er=0
   ·subst He
    have HN:Is w1 (.slice Al li.length cl) li:=xW HD
    obtain ⟨l',HQ,h4,_,_⟩:=HF.out li r rfl;rw[xI] at HQ;subst HQ;obtain ⟨h7,h8⟩:=zk8 x.toNat li h4;obtain ⟨es,HA⟩:∃ es,zee li=es:=⟨_,rfl⟩;rw[HA] at Hb h7 h8
    have Km:r.length≤l.length:=by rename_i hq;rw[hq,xL];omega
    rename_i hq1 hq2
    subst h7;have Kj:=zhd (zdX es);have H8:=zhd h8
    have Kb:es.length≤4:=by omega
    clear HF h4 HA HT Hm hq1 hq2 h8
    gi_wp2_with (refine ⟨trivial,?_⟩;gi_at_call 104;refine (callsIn_wd.2 (zoT _ _ _ _)).mono ?_;rintro e w' ⟨rfl,rfl⟩)
    have q1:Boxed ((w1.alloc (.cells #[.slice Al (zaU es).length cl] 96)).alloc (.cells #[.int .i64 3] 3)) w1.heap.size 96 (.slice Al (zaU es).length cl):=(P3 w1 _ _).alloc _
    have q2:Boxed ((w1.alloc (.cells #[.slice Al (zaU es).length cl] 96)).alloc (.cells #[.int .i64 3] 3)) (w1.heap.size+1) 3 (.int .i64 3):=by
     have:=P3 (w1.alloc (.cells #[.slice Al (zaU es).length cl] 96)) 3 (.int .i64 3)
     rwa [xS] at this
    have HL:Ext w1 ((w1.alloc (.cells #[.slice Al (zaU es).length cl] 96)).alloc (.cells #[.int .i64 3] 3)):=xA (xA (xR _) _) _
    generalize (w1.alloc (.cells #[.slice Al (zaU es).length cl] 96)).alloc (.cells #[.int .i64 3] 3)=w2 at *
    have Hl:Boxed w2 w.heap.size 54 (.slice none 0 0):=Hd.kept (row:=none) (P2 HL none) (by simp)
    have HO:Is w2 (.slice Al (zaU es).length cl) (zaU es):=HN.ext HL
    have HM:Ext w w2:=xT Hh HL
    have h0:TkI w w2 [] w2:=⟨_,Hl,P1 _ _ _ _,HM,fun _ _ _ h=>h⟩
    have Kn:w.heap.size<w2.heap.size:=P0 w2 _ Hl.cell
    clear cb fb
    refine zdO (fun T hT=>?_)
    refine zbN (a:=⟨T,[]⟩) (by subst hT;rfl) (enters_of Tryz.func140 (by kernel_rfl) rfl)
     (fun W1 hb hs=>zpf w2 W1 _ es HO (by omega) w1.heap.size (w1.heap.size+1) (q1.kept (row:=none) (P2 hb none) (by simp)) (q2.kept (row:=none) (P2 hb none) (by simp)))
     (fun k o h=>h.elim) (fun k o h=>by rcases h with h | h <;> exact za5 h.2) (fun x av W h=>by obtain ⟨_,_,rfl,_⟩:=h;rfl)
     (TkI w w2) (fun _ _ _=>False) ?hI (fun _ _ _ _ h _=>h) h0
     (fun e a' W=>∃ b H2,Is W (.slice (some ⟨b,H2,none⟩) 3 3) [e.t,e.k,e.v]∧b≠w.heap.size∧a'=⟨(T.setIfInBounds 39 (.slice (some ⟨b,H2,none⟩) 3 3)).setIfInBounds 7 (.slice (some ⟨b,H2,none⟩) 3 3),[]⟩)
     ?hAx ?assign ?body ?done (fun _ _ _ _ _ _ h _=>h.elim)
    case hI =>
     rintro s X Y ⟨v,hv,hr,hB,hH⟩ hm
     refine ⟨v,hm.boxed hv ?_,hm.ownsRow hr ?_,hm.belowOf hB ?_ (xN _),fun p u hp hc=>hm.cell (hH p u hp hc) ?_⟩
     ·rintro (h | h)
      ·exact h
      ·cases h.2
     ·rintro k K5 _ (h | h)
      ·exact h
      ·cases h.2
     ·rintro k o hk (h | h)
      ·exact h
      ·have:=h.1
       omega
     ·rintro o _ hc (h | h)
      ·exact h
      ·rw[hc] at h;cases h.2
    case hAx =>
     rintro e a' X Y ⟨b,H2,hu,Kd,rfl⟩ hm
     refine ⟨b,H2,SlR.keep hu (fun q t hq=>hm.cell hq (fun o _ hc=>?_)),Kd,rfl⟩
     rintro (h | h)
     ·exact h
     ·rw[hc] at h;cases h.2
    case assign =>
     rintro l' H1 e HV W av K' hx hi Ke ⟨b',H0,rfl,hu⟩ hK;obtain ⟨v,hv,H3,hB,hH⟩:=hi;obtain ⟨HZ,HS,K0⟩:=is3 hu
     have H7:b'≠w.heap.size:=by
      rintro rfl
      have:=zpa Hl HS
      omega
     have Kf:Is W (.slice (some ⟨b',H0,none⟩) 3 3) [e.t,e.k,e.v]:=zuU (hH _ _ H7 HZ) (hH _ _ H7 HS) (hH _ _ H7 K0)
     have Hi:Hid (TkI w w2 H1 W):=⟨v,hv,H3,hB,hH⟩
     have Hx:=zhd hx;clear hx HZ HS K0 hH;subst hT
     gi_wp2
     exact hK _ _ Kept.refl Hi.out ⟨b',H0,Kf,H7,rfl⟩
    case body =>
     rintro l' H1 e HV a' W hx HQ hr ⟨v,hv,H3,hB,hH⟩ Ke ⟨b',H0,hu,H7,rfl⟩;have Hx:=zhd hx
     have Kq:H1.length≤3:=by have:=congrArg P6 hx;simp at this;omega
     obtain ⟨Av,cv,rfl,_,_⟩:=xO (xW H3);obtain ⟨g0,g1,g2⟩:=is3 hu;have gN:=hv.cell
     have H4:W.drew.ownsRow w2.heap.size 79 3 (.slice Av H1.length cv) H1.length (zap H1):=H3
     have HU:Boxed W.drew w.heap.size 54 (.slice Av H1.length cv):=hv
     obtain ⟨i0,hi,Kg,Kh,Ki⟩:=info_parts zg7
     have Hs:SlR (W.drew.alloc (.cells #[.int .i64 e.t,.int .i64 e.k,.int .i64 e.v] 79)) 3 (.slice (some ⟨W.heap.size,0,none⟩) 1 1) 1 (zap [e]):=by
      refine ⟨rfl,_,1,rfl,xN _,by simp[maxLen],fun _=>⟨W.heap.size,0,rfl,fun j u hu=>?_⟩⟩
      have hh:=heap_alloc_new W.drew (.cells #[.int .i64 e.t,.int .i64 e.k,.int .i64 e.v] 79)
      have Kc:(W.drew.alloc (.cells #[.int .i64 e.t,.int .i64 e.k,.int .i64 e.v] 79)).heap[W.heap.size]?=some (.cells #[.int .i64 e.t,.int .i64 e.k,.int .i64 e.v] 79):=hh
      rw[Nat.zero_add];simp only[World.cell?,Kc]
      have:#[Value.int .i64 e.t,.int .i64 e.k,.int .i64 e.v][j]?=some u:=by simpa [zap,Ent.cells] using hu
      simpa using this
     obtain ⟨va,wa,Hv,Hj,H9⟩:=za6 (P:=Tryz.prog) (W.drew.alloc (.cells #[.int .i64 e.t,.int .i64 e.k,.int .i64 e.v] 79)) w2.heap.size 54 54 79 i0 _ 3 24 Tryz.underlying54 hi Kg Kh Ki rfl (by decide)
      (.slice Av H1.length cv) H1.length (zap H1) (H4.alloc _) _ 1 (zap [e]) Hs (by intro u hu;simp[zap,Ent.cells] at hu;rcases hu with rfl | rfl | rfl <;> rfl) (by unfold maxLen;omega) (by omega) (by simp;omega)
     obtain ⟨Aa,ca,rfl,_,_⟩:=xO (xW Hj);have HH:=zhd hH;have HI:=zhd Hv;have Hn:=zhd Hj;have H6:=zhd H9
     have HE:Boxed wa w.heap.size 54 (.slice Av H1.length cv):=(HU.alloc _).kept H9 (HU.not_row (e:=79) (by decide) H4)
     have Kk:=HE.cell;have Kl:=HE.frozen;clear hx hH Hv Hj H9 Hs H3 hv;subst hT
     gi_wp2
     refine zcs (by kernel_rfl) (by kernel_rfl) ?_
     refine tkF 1 rfl rfl rfl ?_;refine tkF 2 rfl rfl rfl ?_;refine tkF 4 rfl rfl rfl ?_;refine tkF 5 rfl rfl rfl ?_;refine tkF 7 rfl rfl rfl ?_;refine tkF 8 rfl rfl rfl ?_
     refine zdm (Read4 (⟨b',H0,none⟩,.int .i64 e.t) (⟨b',H0+1,none⟩,.int .i64 e.k) (⟨b',H0+2,none⟩,.int .i64 e.v) (⟨w.heap.size,0,none⟩,.slice Av H1.length cv)) [10,11,12,13] (i:=3) (v:=?v39) rfl rfl (by kernel_rfl) (by kernel_rfl) (by kernel_rfl) (by kernel_rfl) (by kernel_rfl) (fun _ _ _ h=>h) (fun w o hw=>hw.alloc o) (⟨g0,g1,g2,gN⟩) (zgL rfl (fun w hw=>?h39) (fun w=>rfl)) ?r39
     case h39=>obtain ⟨g0,g1,g2,g3⟩:=hw;dsimp only at g0 g1 g2 g3;go_simp;try with_reducible rfl
     refine zdm (Read4 (⟨b',H0,none⟩,.int .i64 e.t) (⟨b',H0+1,none⟩,.int .i64 e.k) (⟨b',H0+2,none⟩,.int .i64 e.v) (⟨w.heap.size,0,none⟩,.slice Av H1.length cv)) [10,11,12,13] (i:=6) (v:=?v40) rfl rfl (by kernel_rfl) (by kernel_rfl) (by kernel_rfl) (by kernel_rfl) (by kernel_rfl) (fun _ _ _ h=>h) (fun w o hw=>hw.alloc o) (⟨g0,g1,g2,gN⟩) (zgL rfl (fun w hw=>?h40) (fun w=>rfl)) ?r40
     case h40=>obtain ⟨g0,g1,g2,g3⟩:=hw;dsimp only at g0 g1 g2 g3;go_simp;try with_reducible rfl
     refine zdm (Read4 (⟨b',H0,none⟩,.int .i64 e.t) (⟨b',H0+1,none⟩,.int .i64 e.k) (⟨b',H0+2,none⟩,.int .i64 e.v) (⟨w.heap.size,0,none⟩,.slice Av H1.length cv)) [10,11,12,13] (i:=9) (v:=?v41) rfl rfl (by kernel_rfl) (by kernel_rfl) (by kernel_rfl) (by kernel_rfl) (by kernel_rfl) (fun _ _ _ h=>h) (fun w o hw=>hw.alloc o) (⟨g0,g1,g2,gN⟩) (zgL rfl (fun w hw=>?h41) (fun w=>rfl)) ?r41
     case h41=>obtain ⟨g0,g1,g2,g3⟩:=hw;dsimp only at g0 g1 g2 g3;go_simp;try with_reducible rfl
     refine tkF 10 rfl rfl rfl ?_
     refine zdm (Read4 (⟨b',H0,none⟩,.int .i64 e.t) (⟨b',H0+1,none⟩,.int .i64 e.k) (⟨b',H0+2,none⟩,.int .i64 e.v) (⟨w.heap.size,0,none⟩,.slice Av H1.length cv)) [12,13] (i:=0) (v:=?v43) rfl rfl (by kernel_rfl) (by kernel_rfl) (by kernel_rfl) (by kernel_rfl) (by kernel_rfl) (fun _ _ _ h=>h) (fun w o hw=>hw.alloc o) (⟨g0,g1,g2,gN⟩) (zgL rfl (fun w hw=>?h43) (fun w=>rfl)) ?r43
     case h43=>obtain ⟨g0,g1,g2,g3⟩:=hw;dsimp only at g0 g1 g2 g3;go_simp;try with_reducible rfl
     refine zal (i:=11) (v:=?v44) (w':=?w44) rfl (by kernel_rfl) rfl rfl rfl ?h44 ?r44
     case h44=>go_simp;try (first | with_reducible rfl | (refine ⟨?_,?_⟩ <;> with_reducible rfl))
     refine zal (i:=12) rfl (by kernel_rfl) rfl rfl (zc5 _ _ _ rfl) (zdp (v:=.slice Av H1.length cv) (vx:=.slice (some ⟨W.heap.size,0,none⟩) 1 1) (.tmp 40) (.tmp 51) 54 rfl (by simp[Act.eval,Act.put]) (by simp[Act.eval,Act.put]) HI.out) ?_
     refine zbQ (i:=13) (w':=?w45) rfl (by kernel_rfl) rfl rfl rfl ?h45 ?r45
     case h45=>go_simp;try (first | with_reducible rfl | (refine ⟨?_,?_⟩ <;> with_reducible rfl))
     refine wpAnyIn_done (by kernel_rfl) (zbr ?_) _
     simp only[Act.put,sA,sZ,sS]
     gi_wp2
     have hk:Kept (zad (fun k o=>(k=w1.heap.size∧o.ty=some 96)∨(k=w1.heap.size+1∧o.ty=some 3)) w2.heap.size) W.drew (wa.setCell ⟨w.heap.size,0,none⟩ (.slice Aa (H1.length+1) ca)):=by
      refine Kept.appended _ HU H4 H6.out ?_ ?_
      ·rintro ((⟨_,h⟩ | ⟨_,h⟩) | ⟨_,h⟩) <;> cases h
      ·rintro k K5 _ ((⟨_,h⟩ | ⟨_,h⟩) | ⟨_,h⟩) <;> cases h
     refine ⟨Kept.trans (Kept.refl.drew) hk,_,HE.set _,?_,?_,?_⟩
     ·have h:=Hn.out.kept (grownBy_setCell' wa w.heap.size (.slice Aa (H1.length+1) ca)) (.inr (HE.not_row (by decide) Hn.out).symm)
      have ec:zap (H1++[e])=zap H1++zap [e]:=by simp[zap]
      rw[ec,xL]
      exact h
     ·refine (((hB.drew).alloc (by have:=hB.size;exact this) _).grown H6.out (by have:=hB.size;simp;omega) (fun k ek=>?_)).setCell (p:=⟨w.heap.size,0,none⟩) (xN _) _
      have:=(H4.lt k ek).1
      omega
     ·intro p u hp hq
      have Kp:=P0 w2 p hq
      have h1:(W.drew.alloc (.cells #[.int .i64 e.t,.int .i64 e.k,.int .i64 e.v] 79)).cell? p=some u:=zdd (show W.drew.cell? p=some u from HH.out p u hp hq) _
      have h2:wa.cell? p=some u:=by
       refine (World.cell?_of_block (H6.out.block p.block (by simp;omega) (fun ek=>?_))).trans h1
       have:=(H4.lt p.block ek.symm).1
       omega
      exact (World.cell?_setCell_other _ _ _ _ (fun e=>hp (by rw[←e]))).trans h2
    case done =>
     rintro D W hD ⟨v,hv,H3,hB,hH⟩ hK;subst hT;obtain ⟨Av,cv,rfl,_,_⟩:=xO (xW H3)
     have HA:Es W (.slice Av es.length cv) es:=xW H3
     have HB:=zhd (ztP _ es W HA);have gN:=hv.cell
     have Hw:((l.length:Int)+1-(r.length:Int))=((l.length+1-r.length:Nat):Int):=by omega
     have K4:=zhd Hw
     have Ho:D<W.heap.size:=(Array.getElem?_eq_some_iff.1 hK).1
     clear hH Hw
     cases hok:zc0 es
     ·rw[hok] at HB Hb
      have H5:=Hb.out;rw[if_neg (by simp)] at H5;have HG:=zhd H5;clear Hb H5 hok
      gi_wp2_with (refine ⟨trivial,?_⟩;gi_at_call 305;refine (callsIn_wd.2 HB.out).mono ?_;rintro e w3 ⟨rfl,Hc⟩;have Hg:=hv.kept (row:=none) (P2 Hc none) (by simp);have K7:=Hg.cell;have K6:=Hg.frozen)
      have HP:w3.heap[D]?=some (.deferred (some [])):=(Hc.block D Ho).trans hK
      have Hk:=zaC HP rfl ⟨w.heap.size,0,none⟩ (.slice none 0 0);have Ha:=zcd (Hg.set (.slice none 0 0)).cell Hk rfl (.deferred none)
      refine zbc Hk (.tuple #[.slice none 0 0,.int .i64 0]) (by simp[results,Tryz.results304,go_sem,Ha]) ?_
      rw[HG.out]
      exact ⟨_,rfl,P1 _ _ _ _,zaq ((hB.trans (Hc.mono hB.size)).setCell (p:=⟨w.heap.size,0,none⟩) (xN _) _) (by omega) _⟩
     ·rw[hok] at HB Hb
      have H5:=Hb.out;rw[if_pos (by simp)] at H5;have HG:=zhd H5;clear Hb H5 hok
      gi_wp2_with (refine ⟨trivial,?_⟩;gi_at_call 305;refine (callsIn_wd.2 HB.out).mono ?_;rintro e w3 ⟨rfl,Hc⟩;have Hg:=hv.kept (row:=none) (P2 Hc none) (by simp);have K7:=Hg.cell;have K6:=Hg.frozen)
      have HP:w3.heap[D]?=some (.deferred (some [])):=(Hc.block D Ho).trans hK
      have Hk:=zaC HP rfl ⟨w.heap.size,0,none⟩ (.slice Av es.length cv);have Ha:=zcd (Hg.set (.slice Av es.length cv)).cell Hk rfl (.deferred none)
      refine zbc Hk (.tuple #[.slice Av es.length cv,.int .i64 (l.length+1-r.length:Nat)]) (by simp[results,Tryz.results304,go_sem,Ha,K4.out]) ?_
      rw[HG.out];have Hf:=zaf H3 Hc;have Hu:=Hf.kept (grownBy_setCell' w3 w.heap.size (.slice Av es.length cv)) (.inr (Hg.not_row (by decide) Hf).symm)
      exact ⟨_,rfl,zai (ownsRow_putObj Hu (.deferred none) Hk rfl) (by omega),zaq ((hB.trans (Hc.mono hB.size)).setCell (p:=⟨w.heap.size,0,none⟩) (xN _) _) (by omega) _⟩
   ·have e6:(er != 0)=true:=by simpa using He
    have HW:=zhd He;clear He
    exact mcTakena0
end Go.Proofs.YtgonhdeochgkoaaGreatDoor
