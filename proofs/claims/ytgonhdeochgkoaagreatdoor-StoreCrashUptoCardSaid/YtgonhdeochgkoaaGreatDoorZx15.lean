/- Merged -/
import Derived.Test.YtgonhdeochgkoaaGreatDoorZx14
set_option linter.all false
set_option maxHeartbeats 8000000
set_option maxRecDepth 100000
open Go.IntKind renaming i64→P0,wrap_i64→P1
open Go.Boxed renaming new→P2,kept→P3
open List renaming length_nil→P4,flatMap_append→P5,append_toArray→P6,size_toArray→P7,push_toArray→P8,length_take→P9,cons_append→Pa
open Nat renaming reduceAdd→Pb,reduceSub→Pc,zero_add→Pd
open Array renaming replicate_zero→Pe,replicate_succ→Pf
open Go.Act renaming put→Pg,eval→Ph
namespace Go.Proofs.YtgonhdeochgkoaaGreatDoor
open Go.RowKit Go.Mv Go.Shelf
theorem mcRead2a0 {P:Prop} (h:P:=by
 rintro D W hD ⟨v1,hv,H1,hB⟩ hK;have Hk:=zfm (bs.drop 2);obtain ⟨q,hq⟩:∃ q,(zbf 8 (bs.drop 2)).flatMap zcV=q:=⟨_,rfl⟩;rw[hq] at H1 Hk
 have Hq:Hid (zgH bs=q):=hq
 have Ku:q.length≤2000000:=by omega
 clear hq Hk
 have HV:Bs W v1 q:=xW H1
 obtain ⟨A1,Hc,rfl,_,_⟩:=xO HV;have hc:=hv.cell;have hf:=hv.frozen;have key:=zdb _ q 5 (by omega) W HV (by omega);have HB:=zhd hB;have Ke:=zhd H1;clear HN HV hB H1;subst hT
 gi_wp2_with (refine ⟨trivial,?_⟩;gi_at_call 103;refine (callsIn_wd.2 key).mono ?_;rintro e w3 ⟨vl,vr,rfl,ho,-,hE⟩)
 have K8:w3.heap[D]?=some (.deferred (some [])):=(hE.block D (Array.getElem?_eq_some_iff.1 hK).1).trans hK
 refine zat ?_
 refine zbc K8 (.tuple #[vl,.bool ((zae 5 [] q).1==0)]) (zjL _ _ _ _ rfl rfl) ⟨vl,?_,?_,?_⟩
 ·rw[Hr.out,Hq.out]
  by_cases h:(zae 5 [] q).1=0 <;> simp[h]
 ·intro l h
  rw[Hr.out,Hq.out] at h
  split at h
  ·cases h
   exact ownsRow_putObj (zai ho HB.out.size) (.deferred none) K8 rfl
  ·cases h
 ·exact zaq (Below.trans HB.out (hE.mono HB.out.size)) (by omega) _):P:=h
theorem mcRead2a1 {P:Prop} (h:P:=by
 refine wpAnyIn_done (by kernel_rfl) (zbr ?_) _
 simp only[Pg,sA,sZ,sS]
 gi_wp2
 refine ⟨(((Kept.refl (K:=_) (A:=W)).drew).grown HJ (fun k o ek ho=>?_)).setCell (fun o ho _=>?_) _,_,Hu.set _,?_,?_⟩
 ·obtain ⟨Kg,K9⟩:=zco H1 ek
  rw[ho] at K9;cases K9
  rintro ((⟨_,h⟩ | ⟨_,h⟩) | ⟨_,h⟩) <;> cases h
 ·rw[show W.heap[w.heap.size]?=_ from hv] at ho;cases ho
  rintro ((⟨h,_⟩ | ⟨h,_⟩) | ⟨_,h⟩)
  ·have h:w.heap.size=w.heap.size+1:=h
   omega
  ·have h:w.heap.size=w.heap.size+2:=h
   omega
  ·cases h
 ·have h:=Ht.kept (grownBy_setCell' w7 w.heap.size (.slice A7 L c7)) (.inr (Hu.not_row (by decide) Ht).symm)
  rw[K7.out,Hy.out,xL,Hj.out,List.map_append]
  exact h
 ·refine ((HB.out.drew).grown HJ (xD HB.out).size (fun k ek=>?_)).setCell (p:=⟨w.heap.size,0,none⟩) (xN _) _
  have:=(H1.lt k ek).1
  omega):P:=h
theorem mcRead2a2 {P:Prop} (h:P:=by
 rintro l' H6 x HM W av K' hx hi Hf ⟨b',H0,rfl,hu,Hv,Hw⟩ hK;obtain ⟨v1,hv,hr,hB⟩:=hi
 have Kb:Bs W (.slice (some ⟨b',H0,none⟩) x.length x.length) x:=Bs.ext hu hB
 have Hi:Hid (TxI w H6 W):=⟨v1,hv,hr,hB⟩
 have Hx:=zhd hx;have HU:=zhd Kb;clear hx hu Kb hv hr hB;subst hT
 gi_wp2
 exact hK _ _ Kept.refl Hi.out ⟨b',H0,HU.out,Hv,Hw,rfl⟩):P:=h
theorem mcRead2a3 {P:Prop} (h:P:=by
 rintro s X Y ⟨v1,hv,hr,hB⟩ hm
 refine ⟨v1,hm.boxed hv ?_,hm.ownsRow hr ?_,hm.belowOf hB ?_ (xN _)⟩
 ·rintro (h | h)
  ·exact h
  ·cases h.2
 ·rintro k Kg _ (h | h)
  ·exact h
  ·cases h.2
 ·rintro k o hk (h | h)
  ·exact h
  ·have:=h.1;omega):P:=h
attribute [local go_sem] Oper.semAt_some
def zgH (b:List UInt8):List UInt8:=(zbf 8 (b.drop 2)).flatMap fun p=>p.take (p.length-4)
def zgE (b:List UInt8):Option (List Int):=if b.length<2 then none else if (zae 5 [] (zgH b)).1=0 then some (zae 5 [] (zgH b)).2.1 else none
theorem zod (v:Value) (bs:List UInt8) (w:World) (H4:Bs w v bs) (hl:bs.length<2):Calls Tryz.prog 141 #[v,.int .i64 2] w (ziz w (zgE bs)):=by
 obtain ⟨A,c,rfl,h1,h2⟩:=xO H4
 have Hr:Hid (zgE bs=none):=if_pos hl
 have e2:((bs.length:Int)<2):=by omega
 refine (callsIn_wd (ro:=none) (n:=9)).1 ?_
 refine callsIn_of_wp_marks Tryz.func141 rfl trivial ?_ rfl
 simp only[Tryz.ntmps141,P7,xC,P4,Pb,Pc,Pf,Pe,P8,P6,xI,Pa]
 gi_wp2
 refine zbl 0 (fun a W=>a.defers=[]∧a.tmps.size=73∧a.tmps.getD 0 undef=.slice A bs.length c∧Ext w W) (fun a _=>0) rfl (fun l' h=>by cases l' <;> first | exact absurd rfl h | rfl) ?_ ?_
 ·intro H8
  clear H8
  gi_wp2
  refine wpIn_goto ?_
  simp only[Exit.then]
  refine zag (by simp) ?_
  exact ⟨rfl,rfl,rfl,xA (xR _) _⟩
 ·rintro ⟨T,df⟩ W ⟨hd,Hf,h0,hE⟩
  cases hd
  dsimp only at Hf h0;have hT:=zdf 73 T Hf
  generalize hU:(fun i=>T.getD i undef)=U at hT
  have g0:U 0=.slice A bs.length c:=by rw[←hU];exact h0
  have HW:T = #[.slice A bs.length c,U 1,U 2,U 3,U 4,U 5,U 6,U 7,U 8,U 9,U 10,U 11,U 12,U 13,U 14,U 15,U 16,U 17,U 18,U 19,U 20,U 21,U 22,U 23,U 24,U 25,U 26,U 27,U 28,U 29,U 30,U 31,U 32,U 33,U 34,U 35,U 36,U 37,U 38,U 39,U 40,U 41,U 42,U 43,U 44,U 45,U 46,U 47,U 48,U 49,U 50,U 51,U 52,U 53,U 54,U 55,U 56,U 57,U 58,U 59,U 60,U 61,U 62,U 63,U 64,U 65,U 66,U 67,U 68,U 69,U 70,U 71,U 72]:=by rw[hT];show (#[U 0,U 1,U 2,U 3,U 4,U 5,U 6,U 7,U 8,U 9,U 10,U 11,U 12,U 13,U 14,U 15,U 16,U 17,U 18,U 19,U 20,U 21,U 22,U 23,U 24,U 25,U 26,U 27,U 28,U 29,U 30,U 31,U 32,U 33,U 34,U 35,U 36,U 37,U 38,U 39,U 40,U 41,U 42,U 43,U 44,U 45,U 46,U 47,U 48,U 49,U 50,U 51,U 52,U 53,U 54,U 55,U 56,U 57,U 58,U 59,U 60,U 61,U 62,U 63,U 64,U 65,U 66,U 67,U 68,U 69,U 70,U 71,U 72]:Array Value)=_;rw[g0]
  clear hT hU Hf g0 h0;subst HW
  gi_wp2
  refine zat ?_
  refine zcF (.tuple #[.slice none 0 0,.bool false]) (by simp[results,Tryz.results141,go_sem]) ?_
  exact ⟨_,by rw[Hr.out];rfl,(fun l h=>by rw[Hr.out] at h;cases h),hE⟩
def zcV (p:List UInt8):List UInt8:=p.take (p.length-4)
theorem zfm:∀ (b:List UInt8),((zbf 8 b).flatMap zcV).length≤b.length:=by
 intro b
 generalize hn:b.length=n
 induction n using Nat.strongRecOn generalizing b with
 | _ n ih =>
  subst hn
  rcases Nat.eq_zero_or_pos b.length with h | h
  ·rw[List.eq_nil_of_length_eq_zero h,zfn];simp
  ·rw[zeR 8 b (by omega) h,List.flatMap_cons,xL]
   have h1:=ih (b.drop 8).length (by simp;omega) (b.drop 8) rfl
   have h2:(zcV (b.take 8)).length≤(b.take 8).length:=by unfold zcV;simp
   have h3:(b.take 8).length+(b.drop 8).length=b.length:=by rw[←xL,List.take_append_drop]
   omega
def TxI (w:World) (H6:List (List UInt8)) (X:World):Prop:=∃ v,Boxed X w.heap.size 38 v∧X.ownsRow w.heap.size 5 1 v (H6.flatMap zcV).length ((H6.flatMap zcV).map bv)∧Below w.heap.size w X
theorem zpI (v:Value) (bs:List UInt8) (w:World) (H4:Bs w v bs) (hl:2≤bs.length) (Ks:bs.length≤2000000):Calls Tryz.prog 141 #[v,.int .i64 2] w (ziz w (zgE bs)):=by
 obtain ⟨A,c,rfl,h1,h2⟩:=xO H4
 have Hr:Hid (zgE bs=if (zae 5 [] (zgH bs)).1=0 then some (zae 5 [] (zgH bs)).2.1 else none):=if_neg (by omega)
 have e2:¬ ((bs.length:Int)<2):=by omega
 obtain ⟨_,b,H2,rfl,hc⟩:=Bs.at_ H4 (by omega)
 have HG:Bs w (.slice (some ⟨b,H2+2,none⟩) (bs.length-2) (c-2)) (bs.drop 2):=Bs.cut H4 2 hl rfl
 have Kr:(bs.drop 2).length=bs.length-2:=List.length_drop ..
 have Hl:c=2→Bs w (.slice (some ⟨b,H2,none⟩) (bs.length-2) 0) (bs.drop 2):=fun h=>Bs.cut0 (by omega) rfl (by omega)
 have HQ:=zhd HG;have HD:=zhd Hl;clear hc H4 HG Hl
 refine (callsIn_wd (ro:=none) (n:=9)).1 ?_
 refine callsIn_of_wp_marks Tryz.func141 rfl trivial ?_ rfl
 simp only[Tryz.ntmps141,P7,xC,P4,Pb,Pc,Pf,Pe,P8,P6,xI,Pa]
 gi_wp2
 refine zbl 0 (fun a W=>a.defers=[]∧a.tmps.size=73∧a.tmps.getD 0 undef=.slice (some ⟨b,H2,none⟩) bs.length c∧a.tmps.getD 6 undef=.pointer (some ⟨w.heap.size,0,none⟩)∧W=w.alloc (.cells #[.slice none 0 0] 38)) (fun a _=>0) rfl (fun l' h=>by cases l' <;> first | exact absurd rfl h | rfl) ?_ ?_
 ·intro H8
  clear H8
  gi_wp2
  refine wpIn_goto ?_
  simp only[Exit.then]
  refine zag (by simp) ?_
  exact ⟨rfl,rfl,rfl,rfl,rfl⟩
 ·rintro ⟨T,df⟩ W ⟨hd,Hf,h0,h6,rfl⟩
  cases hd
  dsimp only at Hf h0 h6;have hT:=zdf 73 T Hf
  generalize hU:(fun i=>T.getD i undef)=U at hT
  have g0:U 0=.slice (some ⟨b,H2,none⟩) bs.length c:=by rw[←hU];exact h0
  have g6:U 6=.pointer (some ⟨w.heap.size,0,none⟩):=by rw[←hU];exact h6
  have HW:T = #[.slice (some ⟨b,H2,none⟩) bs.length c,U 1,U 2,U 3,U 4,U 5,.pointer (some ⟨w.heap.size,0,none⟩),U 7,U 8,U 9,U 10,U 11,U 12,U 13,U 14,U 15,U 16,U 17,U 18,U 19,U 20,U 21,U 22,U 23,U 24,U 25,U 26,U 27,U 28,U 29,U 30,U 31,U 32,U 33,U 34,U 35,U 36,U 37,U 38,U 39,U 40,U 41,U 42,U 43,U 44,U 45,U 46,U 47,U 48,U 49,U 50,U 51,U 52,U 53,U 54,U 55,U 56,U 57,U 58,U 59,U 60,U 61,U 62,U 63,U 64,U 65,U 66,U 67,U 68,U 69,U 70,U 71,U 72]:=by rw[hT];show (#[U 0,U 1,U 2,U 3,U 4,U 5,U 6,U 7,U 8,U 9,U 10,U 11,U 12,U 13,U 14,U 15,U 16,U 17,U 18,U 19,U 20,U 21,U 22,U 23,U 24,U 25,U 26,U 27,U 28,U 29,U 30,U 31,U 32,U 33,U 34,U 35,U 36,U 37,U 38,U 39,U 40,U 41,U 42,U 43,U 44,U 45,U 46,U 47,U 48,U 49,U 50,U 51,U 52,U 53,U 54,U 55,U 56,U 57,U 58,U 59,U 60,U 61,U 62,U 63,U 64,U 65,U 66,U 67,U 68,U 69,U 70,U 71,U 72]:Array Value)=_;rw[g0,g6]
  clear hT hU Hf g0 h0 g6 h6;subst HW
  by_cases HE:c=2
  ·skip
   gi_wp2_with (refine ⟨trivial,?_⟩;gi_at_call 168;refine (callsIn_wd.2 (zgN _ _ _ 8 (by omega) _)).mono ?_;rintro e w' ⟨rfl,rfl⟩)
   have HN:Bs w (.slice (some ⟨b,H2,none⟩) (bs.length-2) (0)) (bs.drop 2):=HD.out HE
   have qb:Boxed (((w.alloc (.cells #[.slice none 0 0] 38)).alloc (.cells #[.slice (some ⟨b,H2,none⟩) (bs.length-2) (0)] 38)).alloc (.cells #[.int .i64 8] 3)) w.heap.size 38 (.slice none 0 0):=((P2 w _ _).alloc _).alloc _
   have q1:Boxed (((w.alloc (.cells #[.slice none 0 0] 38)).alloc (.cells #[.slice (some ⟨b,H2,none⟩) (bs.length-2) (0)] 38)).alloc (.cells #[.int .i64 8] 3)) (w.heap.size+1) 38 (.slice (some ⟨b,H2,none⟩) (bs.length-2) (0)):=by
    have:=(P2 (w.alloc (.cells #[.slice none 0 0] 38)) 38 (.slice (some ⟨b,H2,none⟩) (bs.length-2) (0))).alloc (.cells #[.int .i64 8] 3)
    rwa [xS] at this
   have q2:Boxed (((w.alloc (.cells #[.slice none 0 0] 38)).alloc (.cells #[.slice (some ⟨b,H2,none⟩) (bs.length-2) (0)] 38)).alloc (.cells #[.int .i64 8] 3)) (w.heap.size+2) 3 (.int .i64 8):=by
    have:=P2 ((w.alloc (.cells #[.slice none 0 0] 38)).alloc (.cells #[.slice (some ⟨b,H2,none⟩) (bs.length-2) (0)] 38)) 3 (.int .i64 8)
    rwa [xS,xS] at this
   have Hd:Ext w (((w.alloc (.cells #[.slice none 0 0] 38)).alloc (.cells #[.slice (some ⟨b,H2,none⟩) (bs.length-2) (0)] 38)).alloc (.cells #[.int .i64 8] 3)):=xA (xA (xA (xR _) _) _) _
   have Kp:(((w.alloc (.cells #[.slice none 0 0] 38)).alloc (.cells #[.slice (some ⟨b,H2,none⟩) (bs.length-2) (0)] 38)).alloc (.cells #[.int .i64 8] 3)).heap.size=w.heap.size+3:=by simp
   have h0:TxI w [] (((w.alloc (.cells #[.slice none 0 0] 38)).alloc (.cells #[.slice (some ⟨b,H2,none⟩) (bs.length-2) (0)] 38)).alloc (.cells #[.int .i64 8] 3)):=⟨_,qb,World.ownsRow_nil _ _ _ _,Hd⟩
   generalize (((w.alloc (.cells #[.slice none 0 0] 38)).alloc (.cells #[.slice (some ⟨b,H2,none⟩) (bs.length-2) (0)] 38)).alloc (.cells #[.int .i64 8] 3))=w2 at *
   refine zdO (fun T hT=>?_)
   refine zbN (a:=⟨T,[]⟩) (by subst hT;rfl) (enters_of Tryz.func198 (by kernel_rfl) rfl)
    (fun W1 hb hs=>zgZ 8 (by omega) (by omega) w W1 _ (bs.drop 2) HN (by omega) (w.heap.size+1) (w.heap.size+2) (q1.kept (row:=none) (Ext.grown hb none) (by simp)) (q2.kept (row:=none) (Ext.grown hb none) (by simp)))
    (fun k o h=>h.elim) (fun k o h=>by rcases h with h | h <;> exact za5 h.2) (fun x av W h=>by obtain ⟨_,_,rfl,_⟩:=h;rfl)
    (TxI w) (fun _ _ _=>False) ?hI (fun _ _ _ _ h _=>h) h0
    (fun p a' W=>∃ b' H0,Bs W (.slice (some ⟨b',H0,none⟩) p.length p.length) p∧0<p.length∧p.length≤8∧a'=⟨(T.setIfInBounds 55 (.slice (some ⟨b',H0,none⟩) p.length p.length)).setIfInBounds 12 (.slice (some ⟨b',H0,none⟩) p.length p.length),[]⟩)
    ?hAx ?assign ?body ?done (fun _ _ _ _ _ _ h _=>h.elim)
   case hI =>
    exact mcRead2a3
   case hAx =>
    rintro x a' X Y ⟨b',H0,hu,Hv,Hw,rfl⟩ hm
    refine ⟨b',H0,SlR.keep hu (fun q t hq=>hm.cell hq (fun o ho hc=>?_)),Hv,Hw,rfl⟩
    rintro (h | h)
    ·exact h
    ·rw[hc] at h;cases h.2
   case assign =>
    exact mcRead2a2
   case body =>
    rintro l' H6 x HM a' W hx Kl hr ⟨v1,hv,H1,hB⟩ Hf ⟨b',H0,hu,Hv,Hw,rfl⟩
    have HI:(H6++[x]).flatMap zcV=H6.flatMap zcV++zcV x:=by simp
    have K7:=zhd HI;have Hx:=zhd hx;clear HI hx
    have K2:(H6.flatMap zcV).length+x.length≤4000000:=by
     have h1:=zfm (bs.drop 2);rw[Hx.out,P5,xL] at h1;omega
    subst hT
    generalize H6.flatMap zcV=Q at *
    obtain ⟨A1,Hc,rfl,_,_⟩:=xO (xW H1);have HK:=hv.not_row (e:=5) (by decide) H1;obtain ⟨y,hy⟩:∃ y,zcV x=y:=⟨_,rfl⟩
    gi_wp2
    have K3:(if P0.wrap ((x.length:Int)-4)<0 then 0 else P0.wrap ((x.length:Int)-4))=((x.length-4:Nat):Int):=by
     have e:P0.wrap ((x.length:Int)-4)=(x.length:Int)-4:=by rw[P1];omega
     rw[e]
     split <;> omega
    have Km:((x.length-4:Nat):Int)≤(x.length:Int):=by omega
    have K1:=hv.cell
    refine zcs (by kernel_rfl) (by kernel_rfl) ?_
    refine tkF 1 rfl rfl rfl ?_;refine tkF 2 rfl rfl rfl ?_;refine tkF 3 rfl rfl rfl ?_;refine tkF 4 rfl rfl rfl ?_;refine tkF 5 rfl rfl rfl ?_;refine tkF 6 rfl rfl rfl ?_
    refine zal (i:=0) (v:=?v9) (w':=?w9) rfl (by kernel_rfl) rfl rfl rfl ?h9 ?r9
    case h9=>go_simp;try (first | with_reducible rfl | (refine ⟨?_,?_⟩ <;> with_reducible rfl))
    have H9:W.drew.ownsRow w.heap.size 5 1 (.slice A1 Q.length Hc) Q.length (Q.map bv):=zaf H1 (xD (xR _))
    have Hk:y.length=x.length-4:=by rw[←hy];unfold zcV;rw[P9];omega
    have HH:Bs W.drew (.slice (some ⟨b',H0,none⟩) (x.length-4) x.length) y:=by
     have h:=Bs.take (hu.ext (xD (xR W))) (x.length-4) (by omega);rw[←hy]
     exact h
    have Hy:=zhd hy;clear hy;obtain ⟨i0,hi,K4,K5,K6⟩:=info_parts zb8;obtain ⟨v7,w7,H5,Ht,HJ⟩:=za6 (P:=Tryz.prog) W.drew w.heap.size 38 38 5 i0 (.int .u8 0) 1 1 Tryz.underlying38 hi K4 K5 K6 rfl (by decide) _ _ _ H9 _ _ _ HH (zcP _) (by unfold maxLen;omega) (by omega) (xD hB).size
    have H3:Q.length+y.length=(Q++y).length:=by simp
    rw[H3] at Ht;obtain ⟨A7,c7,rfl,_,_⟩:=xO (xW Ht)
    have Hu:Boxed w7 w.heap.size 38 (.slice A1 Q.length Hc):=P3 (show Boxed W.drew w.heap.size 38 (.slice A1 Q.length Hc) from hv) HJ HK
    have Kd:=zhd Hk;have Hj:=zhd H3;clear Hk H3
    generalize (Q++y).length=L at *
    refine zal (i:=7) (v:=.slice A7 L c7) (w':=w7) rfl (by kernel_rfl) rfl rfl (zc5 _ _ _ rfl) (zdp (v:=.slice A1 Q.length Hc) (vx:=.slice (some ⟨b',H0,none⟩) (x.length-4) x.length) (.tmp 56) (.tmp 62) 38 rfl (by simp[Ph,Pg]) (by simp[Ph,Pg]) H5) ?_
    have Kj:=Hu.cell;have Kk:=Hu.frozen;have HB:=zhd hB;clear H5 K1 HH K3
    refine zbQ (i:=8) (w':=?w10) rfl (by kernel_rfl) rfl rfl rfl ?h10 ?r10
    case h10=>go_simp;try (first | with_reducible rfl | (refine ⟨?_,?_⟩ <;> with_reducible rfl))
    exact mcRead2a1
   case done =>
    exact mcRead2a0
  ·skip
   gi_wp2_with (refine ⟨trivial,?_⟩;gi_at_call 168;refine (callsIn_wd.2 (zgN _ _ _ 8 (by omega) _)).mono ?_;rintro e w' ⟨rfl,rfl⟩)
   have HN:Bs w (.slice (some ⟨b,H2+2,none⟩) (bs.length-2) (c-2)) (bs.drop 2):=HQ.out
   have qb:Boxed (((w.alloc (.cells #[.slice none 0 0] 38)).alloc (.cells #[.slice (some ⟨b,H2+2,none⟩) (bs.length-2) (c-2)] 38)).alloc (.cells #[.int .i64 8] 3)) w.heap.size 38 (.slice none 0 0):=((P2 w _ _).alloc _).alloc _
   have q1:Boxed (((w.alloc (.cells #[.slice none 0 0] 38)).alloc (.cells #[.slice (some ⟨b,H2+2,none⟩) (bs.length-2) (c-2)] 38)).alloc (.cells #[.int .i64 8] 3)) (w.heap.size+1) 38 (.slice (some ⟨b,H2+2,none⟩) (bs.length-2) (c-2)):=by
    have:=(P2 (w.alloc (.cells #[.slice none 0 0] 38)) 38 (.slice (some ⟨b,H2+2,none⟩) (bs.length-2) (c-2))).alloc (.cells #[.int .i64 8] 3)
    rwa [xS] at this
   have q2:Boxed (((w.alloc (.cells #[.slice none 0 0] 38)).alloc (.cells #[.slice (some ⟨b,H2+2,none⟩) (bs.length-2) (c-2)] 38)).alloc (.cells #[.int .i64 8] 3)) (w.heap.size+2) 3 (.int .i64 8):=by
    have:=P2 ((w.alloc (.cells #[.slice none 0 0] 38)).alloc (.cells #[.slice (some ⟨b,H2+2,none⟩) (bs.length-2) (c-2)] 38)) 3 (.int .i64 8)
    rwa [xS,xS] at this
   have Hd:Ext w (((w.alloc (.cells #[.slice none 0 0] 38)).alloc (.cells #[.slice (some ⟨b,H2+2,none⟩) (bs.length-2) (c-2)] 38)).alloc (.cells #[.int .i64 8] 3)):=xA (xA (xA (xR _) _) _) _
   have Kp:(((w.alloc (.cells #[.slice none 0 0] 38)).alloc (.cells #[.slice (some ⟨b,H2+2,none⟩) (bs.length-2) (c-2)] 38)).alloc (.cells #[.int .i64 8] 3)).heap.size=w.heap.size+3:=by simp
   have h0:TxI w [] (((w.alloc (.cells #[.slice none 0 0] 38)).alloc (.cells #[.slice (some ⟨b,H2+2,none⟩) (bs.length-2) (c-2)] 38)).alloc (.cells #[.int .i64 8] 3)):=⟨_,qb,World.ownsRow_nil _ _ _ _,Hd⟩
   generalize (((w.alloc (.cells #[.slice none 0 0] 38)).alloc (.cells #[.slice (some ⟨b,H2+2,none⟩) (bs.length-2) (c-2)] 38)).alloc (.cells #[.int .i64 8] 3))=w2 at *
   refine zdO (fun T hT=>?_)
   refine zbN (a:=⟨T,[]⟩) (by subst hT;rfl) (enters_of Tryz.func198 (by kernel_rfl) rfl)
    (fun W1 hb hs=>zgZ 8 (by omega) (by omega) w W1 _ (bs.drop 2) HN (by omega) (w.heap.size+1) (w.heap.size+2) (q1.kept (row:=none) (Ext.grown hb none) (by simp)) (q2.kept (row:=none) (Ext.grown hb none) (by simp)))
    (fun k o h=>h.elim) (fun k o h=>by rcases h with h | h <;> exact za5 h.2) (fun x av W h=>by obtain ⟨_,_,rfl,_⟩:=h;rfl)
    (TxI w) (fun _ _ _=>False) ?hI (fun _ _ _ _ h _=>h) h0
    (fun p a' W=>∃ b' H0,Bs W (.slice (some ⟨b',H0,none⟩) p.length p.length) p∧0<p.length∧p.length≤8∧a'=⟨(T.setIfInBounds 55 (.slice (some ⟨b',H0,none⟩) p.length p.length)).setIfInBounds 12 (.slice (some ⟨b',H0,none⟩) p.length p.length),[]⟩)
    ?hAx ?assign ?body ?done (fun _ _ _ _ _ _ h _=>h.elim)
   case hI =>
    exact mcRead2a3
   case hAx =>
    rintro x a' X Y ⟨b',H0,hu,Hv,Hw,rfl⟩ hm
    refine ⟨b',H0,SlR.keep hu (fun q t hq=>hm.cell hq (fun o ho hc=>?_)),Hv,Hw,rfl⟩
    rintro (h | h)
    ·exact h
    ·rw[hc] at h;cases h.2
   case assign =>
    exact mcRead2a2
   case body =>
    rintro l' H6 x HM a' W hx Kl hr ⟨v1,hv,H1,hB⟩ Hf ⟨b',H0,hu,Hv,Hw,rfl⟩
    have HI:(H6++[x]).flatMap zcV=H6.flatMap zcV++zcV x:=by simp
    have K7:=zhd HI;have Hx:=zhd hx;clear HI hx
    have K2:(H6.flatMap zcV).length+x.length≤4000000:=by
     have h1:=zfm (bs.drop 2);rw[Hx.out,P5,xL] at h1;omega
    subst hT
    generalize H6.flatMap zcV=Q at *
    obtain ⟨A1,Hc,rfl,_,_⟩:=xO (xW H1);have HK:=hv.not_row (e:=5) (by decide) H1;obtain ⟨y,hy⟩:∃ y,zcV x=y:=⟨_,rfl⟩
    gi_wp2
    have K3:(if P0.wrap ((x.length:Int)-4)<0 then 0 else P0.wrap ((x.length:Int)-4))=((x.length-4:Nat):Int):=by
     have e:P0.wrap ((x.length:Int)-4)=(x.length:Int)-4:=by rw[P1];omega
     rw[e]
     split <;> omega
    have Km:((x.length-4:Nat):Int)≤(x.length:Int):=by omega
    have K1:=hv.cell
    refine zcs (by kernel_rfl) (by kernel_rfl) ?_
    refine tkF 1 rfl rfl rfl ?_;refine tkF 2 rfl rfl rfl ?_;refine tkF 3 rfl rfl rfl ?_;refine tkF 4 rfl rfl rfl ?_;refine tkF 5 rfl rfl rfl ?_;refine tkF 6 rfl rfl rfl ?_
    refine zal (i:=0) (v:=?v18) (w':=?w18) rfl (by kernel_rfl) rfl rfl rfl ?h18 ?r18
    case h18=>go_simp;try (first | with_reducible rfl | (refine ⟨?_,?_⟩ <;> with_reducible rfl))
    have H9:W.drew.ownsRow w.heap.size 5 1 (.slice A1 Q.length Hc) Q.length (Q.map bv):=zaf H1 (xD (xR _))
    have Hk:y.length=x.length-4:=by rw[←hy];unfold zcV;rw[P9];omega
    have HH:Bs W.drew (.slice (some ⟨b',H0,none⟩) (x.length-4) x.length) y:=by
     have h:=Bs.take (hu.ext (xD (xR W))) (x.length-4) (by omega);rw[←hy]
     exact h
    have Hy:=zhd hy;clear hy;obtain ⟨i0,hi,K4,K5,K6⟩:=info_parts zb8;obtain ⟨v7,w7,H5,Ht,HJ⟩:=za6 (P:=Tryz.prog) W.drew w.heap.size 38 38 5 i0 (.int .u8 0) 1 1 Tryz.underlying38 hi K4 K5 K6 rfl (by decide) _ _ _ H9 _ _ _ HH (zcP _) (by unfold maxLen;omega) (by omega) (xD hB).size
    have H3:Q.length+y.length=(Q++y).length:=by simp
    rw[H3] at Ht;obtain ⟨A7,c7,rfl,_,_⟩:=xO (xW Ht)
    have Hu:Boxed w7 w.heap.size 38 (.slice A1 Q.length Hc):=P3 (show Boxed W.drew w.heap.size 38 (.slice A1 Q.length Hc) from hv) HJ HK
    have Kd:=zhd Hk;have Hj:=zhd H3;clear Hk H3
    generalize (Q++y).length=L at *
    refine zal (i:=7) (v:=.slice A7 L c7) (w':=w7) rfl (by kernel_rfl) rfl rfl (zc5 _ _ _ rfl) (zdp (v:=.slice A1 Q.length Hc) (vx:=.slice (some ⟨b',H0,none⟩) (x.length-4) x.length) (.tmp 56) (.tmp 62) 38 rfl (by simp[Ph,Pg]) (by simp[Ph,Pg]) H5) ?_
    have Kj:=Hu.cell;have Kk:=Hu.frozen;have HB:=zhd hB;clear H5 K1 HH K3
    refine zbQ (i:=8) (w':=?w19) rfl (by kernel_rfl) rfl rfl rfl ?h19 ?r19
    case h19=>go_simp;try (first | with_reducible rfl | (refine ⟨?_,?_⟩ <;> with_reducible rfl))
    exact mcRead2a1
   case done =>
    exact mcRead2a0
def zeU (b:List UInt8) (f:Int):Option (List Int):=if f=2 then zgE b else zes b
theorem zmV (v:Value) (bs:List UInt8) (f:Int) (w:World) (H4:Bs w v bs) (hl:bs.length≤2000000):Calls Tryz.prog 141 #[v,.int .i64 f] w (ziz w (zeU bs f)):=by
 by_cases hf:f=2
 ·subst hf
  rw[zeU,if_pos rfl]
  by_cases h2:bs.length<2
  ·exact zod v bs w H4 h2
  ·exact zpI v bs w H4 (by omega) hl
 ·rw[zeU,if_neg hf]
  exact zrE v bs f hf w H4
open Go.RowKit Go.Mv
def zpV (l:List Int):Sta:=⟨l.getD 0 0,l.getD 1 0,l.getD 2 0,l.getD 3 0,l.getD 4 0==1⟩
theorem mcSnapTa0 {P:Prop} (h:P:=by
 have HS:=zhd Ha;clear f0 f1 f2 f3 f4 g0 g1 g2 g3 g4 Ha HO;obtain ⟨g0,g1,g2,g3,g4⟩:=zac hb3;obtain ⟨f0,f1,f2,f3,f4⟩:=zdK hb3;go_wp2_with fail
 refine HS.out.mono ?_
 rintro e w4 ⟨rfl,rfl⟩;go_wp2_with fail
 refine bodyPost_ret (zhx _ _ _ _ _ rfl rfl (zcz hb3 _ _ _ _ _) rfl) rfl ⟨by rw[Hm.out];exact rfl,zcB (xT Hd Hh) (xN _) _ _ _ _ _⟩):P:=h
def zig (s:Sta) (f:Int):Option (List UInt8):=if s.ok=true then (if f=1 then some (zjJ s) else if f=2 then some (zgm s) else none) else none
def zuF (w:World) (r:Option (List UInt8)) (e:Ending) (w':World):Prop:=match r with | some l=>zoZ w l e w' | none=>zjo w e w'
theorem ztK (s:Sta) (f:Int) (w:World) (hT:TabW rT w):Calls Tryz.prog 142 #[.agg #[.int .i64 s.idx,.int .i64 s.term,.int .i64 s.sum,.int .i64 s.lvl,.bool s.fin],.int .i64 f] w (zuF w (zig s f)):=by
 unfold zig zuF
 by_cases h:s.ok=true
 ·rw[if_pos h]
  by_cases h1:f=1
  ·subst h1;exact ztL s w h hT
  ·rw[if_neg h1]
   by_cases h2:f=2
   ·subst h2;exact ztM s w h hT
   ·rw[if_neg h2];exact zou s f w (by omega)
 ·rw[if_neg h];exact zou s f w (.inl (by simpa using h))
theorem zoo (k:Nat):∀ (Hb:List Int) (bs:List UInt8),(zae k Hb bs).1=0→(zae k Hb bs).2.1.length=Hb.length+k:=by
 induction k with
 | zero=>intro Hb bs _;rfl
 | succ k ih =>
  intro Hb bs h
  unfold zae at h ⊢
  split at h
  ·rename_i h0
   rw[if_pos h0,ih _ _ h]
   simp;omega
  ·rename_i h0
   exact absurd h h0
theorem znV (k:Nat):∀ (Hb:List Int) (bs:List UInt8) (l:List Int),zdQ k Hb bs=some l→l.length=Hb.length+k:=by
 induction k with
 | zero=>intro Hb bs l h;cases h;rfl
 | succ k ih =>
  intro Hb bs l h;unfold zdQ at h
  split at h
  ·rw[ih _ _ _ h];simp;omega
  ·cases h
theorem zrI {b:List UInt8} {f:Int} {l:List Int} (h:zeU b f=some l):l.length=5:=by
 unfold zeU at h
 split at h
 ·unfold zgE at h
  split at h
  ·cases h
  ·split at h
   ·rename_i h0
    cases h
    exact zoo 5 [] _ h0
   ·cases h
 ·unfold zes at h
  split at h
  ·cases hl:zdQ 3 [] (b.drop 1) with
   | none=>rw[hl] at h;cases h
   | some l0 =>
    rw[hl] at h
    cases h
    have:=znV 3 [] _ _ hl
    simp[this]
  ·cases h
def zd6 (b:List UInt8) (f:Int):Option Sta :=
 match zeU b f with
 | none=>none
 | some l=>match zig (zpV l) f with
  | none=>none
  | some c=>if b=c then some (zpV l) else none
def zpW:Sta:=⟨0,0,0,0,false⟩
def zlX (w:World) (r:Option Sta) (e:Ending) (w':World):Prop :=
 (match r with
 | some s=>e=.returned (.tuple #[.agg #[.int .i64 s.idx,.int .i64 s.term,.int .i64 s.sum,.int .i64 s.lvl,.bool s.fin],.int .i64 0])
 | none=>e=.returned (.tuple #[.agg #[.int .i64 0,.int .i64 0,.int .i64 0,.int .i64 0,.bool false],.int .i64 11]))∧Ext w w'
theorem zhx (tmps:Array Value) (W:World) (b:Nat) (cs:Array Value) (u:Value) (h4:tmps.getD 4 undef=.pointer (some ⟨b,0,none⟩)) (h5:tmps.getD 5 undef=u) (hb:Blk W b 53 cs) (hs:cs.size=5):(results Tryz.f108 tmps).run Tryz.prog W=.ok (.tuple #[.agg cs,u]) W:=by
 have hl:=hb.load (P:=Tryz.prog) zfV rfl (by rw[hs];kernel_rfl)
 have Kh:tmps[4]?.getD undef=.pointer (some ⟨b,0,none⟩):=by simpa using h4
 have Ki:tmps[5]?.getD undef=u:=by simpa using h5
 simp[results,Tryz.results108,Kh,Ki,asAddr,hl]
theorem zdK {W:World} {b:Nat} {t:TypeId} {cs:Array Value} (h:Blk W b t cs):W.frozen? ⟨b,0,none⟩=false∧W.frozen? ⟨b,1,none⟩=false∧W.frozen? ⟨b,2,none⟩=false∧W.frozen? ⟨b,3,none⟩=false∧W.frozen? ⟨b,4,none⟩=false :=
 ⟨h.frozen 0,h.frozen 1,h.frozen 2,h.frozen 3,h.frozen 4⟩
theorem zcz {W:World} {b:Nat} {t:TypeId} {a v u x y:Value} (h:Blk W b t #[a,v,u,x,y]) (a' v' u' x' y':Value):Blk (((((W.setCell ⟨b,0,none⟩ a').setCell ⟨b,1,none⟩ v').setCell ⟨b,2,none⟩ u').setCell ⟨b,3,none⟩ x').setCell ⟨b,4,none⟩ y') b t #[a',v',u',x',y'] :=
 ((((h.set 0 a').set 1 v').set 2 u').set 3 x').set 4 y'
theorem zcB {w W:World} (h:Ext w W) {b:Nat} (hb:w.heap.size≤b) (a' v' u' x' y':Value):Ext w (((((W.setCell ⟨b,0,none⟩ a').setCell ⟨b,1,none⟩ v').setCell ⟨b,2,none⟩ u').setCell ⟨b,3,none⟩ x').setCell ⟨b,4,none⟩ y') :=
 ((((Below.setCell h hb a').setCell hb v').setCell hb u').setCell hb x').setCell hb y'
theorem zqw (v:Value) (bs:List UInt8) (f:Int) (w:World) (H4:Bs w v bs) (hl:bs.length≤2000000) (hr:zeU bs f=none):Calls Tryz.prog 108 #[v,.int .i64 f] w (zlX w none):=by
 have hb:=Blk.new w 53 #[.int .i64 0,.int .i64 0,.int .i64 0,.int .i64 0,.bool false]
 have hX:Ext w (w.alloc (.cells #[.int .i64 0,.int .i64 0,.int .i64 0,.int .i64 0,.bool false] 53)):=xA (xR _) _
 have key:=zmV v bs f (w.alloc (.cells #[.int .i64 0,.int .i64 0,.int .i64 0,.int .i64 0,.bool false] 53)) (H4.ext hX) hl;rw[hr] at key;have HR:=zhd key;clear key hr H4
 go_enter Tryz.func108,Tryz.ntmps108
 go_wp2_with fail
 refine HR.out.mono ?_
 rintro e w1 ⟨v1,rfl,-,Hz⟩;obtain ⟨g0,g1,g2,g3,g4⟩:=zac (hb.ext Hz);have Hn:=hb.ext Hz;obtain ⟨f0,f1,f2,f3,f4⟩:=zdK Hn
 try simp only[Option.isSome]
 go_wp2_with fail
 refine bodyPost_ret (zhx _ _ _ _ _ rfl rfl (zcz Hn _ _ _ _ _) rfl) rfl ⟨rfl,zcB (xT hX Hz) (xN _) _ _ _ _ _⟩
theorem ze1 {W:World} {b q k:Nat} {z:Value} (h:W.cell? ⟨q,k,none⟩=some z) (HK:b≠q) (a' v' u' x' y':Value):(((((W.setCell ⟨b,0,none⟩ a').setCell ⟨b,1,none⟩ v').setCell ⟨b,2,none⟩ u').setCell ⟨b,3,none⟩ x').setCell ⟨b,4,none⟩ y').cell? ⟨q,k,none⟩=some z:=by
 have hn:some q≠some b:=fun e=>HK (by cases e;rfl)
 exact zar (zab _ b 4 y') (zar (zab _ b 3 x') (zar (zab _ b 2 u') (zar (zab _ b 1 v') (zar (zab _ b 0 a') h hn) hn) hn) hn) hn
theorem zvp {l:List Int} (h:l.length=5):∃ a b c d e,l=[a,b,c,d,e]:=by
 match l,h with
 | [a,b,c,d,e],_=>exact ⟨a,b,c,d,e,rfl⟩
theorem zqx (v:Value) (bs:List UInt8) (f:Int) (w:World) (hT:TabW rT w) (H4:Bs w v bs) (hl:bs.length≤2000000) (l:List Int) (hr:zeU bs f=some l):Calls Tryz.prog 108 #[v,.int .i64 f] w (zlX w (zd6 bs f)):=by
 have hb:=Blk.new w 53 #[.int .i64 0,.int .i64 0,.int .i64 0,.int .i64 0,.bool false]
 have hX:Ext w (w.alloc (.cells #[.int .i64 0,.int .i64 0,.int .i64 0,.int .i64 0,.bool false] 53)):=xA (xR _) _
 have key:=zmV v bs f (w.alloc (.cells #[.int .i64 0,.int .i64 0,.int .i64 0,.int .i64 0,.bool false] 53)) (H4.ext hX) hl;rw[hr] at key;have HR:=zhd key;obtain ⟨x0,x1,x2,x3,x4,rfl⟩:=zvp (zrI hr);obtain ⟨s,hs⟩:∃ s:Sta,s=⟨x0,x1,x2,x3,x4==1⟩:=⟨_,rfl⟩
 have He:zd6 bs f=match zig s f with | none=>none | some c=>if bs=c then some s else none:=by
  unfold zd6;rw[hr,hs];rfl
 have Hm:=zhd He;have Hs:=zhd hs;clear He hs;have Kc:=zhd H4;have HT:=zhd hT;clear key hr H4 hT
 go_enter Tryz.func108,Tryz.ntmps108
 go_wp2_with fail
 refine HR.out.mono ?_
 rintro e w1 ⟨v1,rfl,ho,Hz⟩;obtain ⟨q,Kq,rfl,hq,Ko,Kt⟩:=zdq (ho _ rfl) (by simp);obtain ⟨_,q',H0,e',hc⟩:=SlR.at_ (xW (ho _ rfl)) (by simp)
 cases e'
 have HX:=hc 0 _ rfl;have HY:=hc 1 _ rfl;have HE:=hc 2 _ rfl;have HZ:=hc 3 _ rfl;have K0:=hc 4 _ rfl;simp only[Pd,iv] at HX HY HE HZ K0;clear hc
 simp only[xC,P4,Pd,Pb] at Ko ⊢
 have Hn:=hb.ext Hz
 try simp only[Option.isSome]
 go_wp2_with fail
 have Hp:w1.cell? ⟨q,0,none⟩=some (.int .i64 x0)∧w1.cell? ⟨q,1,none⟩=some (.int .i64 x1)∧w1.cell? ⟨q,2,none⟩=some (.int .i64 x2)∧w1.cell? ⟨q,3,none⟩=some (.int .i64 x3)∧w1.cell? ⟨q,4,none⟩=some (.int .i64 x4):=⟨HX,HY,HE,HZ,K0⟩
 have HL:w.heap.size≠q:=by rw[xS] at hq;omega
 clear HX HY HE HZ K0 ho
 refine wp_region_held_drew (S:=fun w'=>w'.cell? ⟨q,0,none⟩=some (.int .i64 x0)∧w'.cell? ⟨q,1,none⟩=some (.int .i64 x1)∧w'.cell? ⟨q,2,none⟩=some (.int .i64 x2)∧w'.cell? ⟨q,3,none⟩=some (.int .i64 x3)∧w'.cell? ⟨q,4,none⟩=some (.int .i64 x4)) (by kernel_rfl) Hp (fun _=>?_)
 refine tkN 0 rfl ?_;refine tkN 1 rfl ?_;refine tkN 2 rfl ?_;refine tkN 3 rfl ?_;refine tkN 4 rfl ?_;refine tkN 5 rfl ?_;refine tkN 6 rfl ?_;refine tkN 7 rfl ?_;refine tkN 8 rfl ?_;refine tkN 9 rfl ?_;refine tkN 10 rfl ?_;refine tkN 11 rfl ?_;refine tkN 12 rfl ?_;refine tkN 13 rfl ?_;refine tkN 14 rfl ?_;refine tkN 15 rfl ?_;refine tkN 16 rfl ?_;obtain ⟨g0,g1,g2,g3,g4⟩:=zac Hn;obtain ⟨f0,f1,f2,f3,f4⟩:=zdK Hn
 refine ar1 17 rfl (fun K hK=>?_)
 go_simp
 have Ho:=zcz Hn (.int .i64 x0) (.int .i64 x1) (.int .i64 x2) (.int .i64 x3) (.bool (x4==1));have Hd:=zcB (xT hX Hz) (xN _) (.int .i64 x0) (.int .i64 x1) (.int .i64 x2) (.int .i64 x3) (.bool (x4==1));have k0:=ze1 Hp.1 HL (.int .i64 x0) (.int .i64 x1) (.int .i64 x2) (.int .i64 x3) (.bool (x4==1));have k1:=ze1 Hp.2.1 HL (.int .i64 x0) (.int .i64 x1) (.int .i64 x2) (.int .i64 x3) (.bool (x4==1));have k2:=ze1 Hp.2.2.1 HL (.int .i64 x0) (.int .i64 x1) (.int .i64 x2) (.int .i64 x3) (.bool (x4==1));have k3:=ze1 Hp.2.2.2.1 HL (.int .i64 x0) (.int .i64 x1) (.int .i64 x2) (.int .i64 x3) (.bool (x4==1));have k4:=ze1 Hp.2.2.2.2 HL (.int .i64 x0) (.int .i64 x1) (.int .i64 x2) (.int .i64 x3) (.bool (x4==1));clear f0 f1 f2 f3 f4 g0 g1 g2 g3 g4 Hn Hp
 generalize (((((w1.setCell ⟨w.heap.size,0,none⟩ (.int .i64 x0)).setCell ⟨w.heap.size,1,none⟩ (.int .i64 x1)).setCell ⟨w.heap.size,2,none⟩ (.int .i64 x2)).setCell ⟨w.heap.size,3,none⟩ (.int .i64 x3)).setCell ⟨w.heap.size,4,none⟩ (.bool (x4==1)))=w1' at *
 have HF:w1'.drew.cell? ⟨q,0,none⟩=some (.int .i64 x0)∧w1'.drew.cell? ⟨q,1,none⟩=some (.int .i64 x1)∧w1'.drew.cell? ⟨q,2,none⟩=some (.int .i64 x2)∧w1'.drew.cell? ⟨q,3,none⟩=some (.int .i64 x3)∧w1'.drew.cell? ⟨q,4,none⟩=some (.int .i64 x4):=⟨k0,k1,k2,k3,k4⟩
 have Ho:Blk w1'.drew w.heap.size 53 #[.int .i64 x0,.int .i64 x1,.int .i64 x2,.int .i64 x3,.bool (x4==1)]:=Ho
 have Hd:Ext w w1'.drew:=xD Hd
 generalize w1'.drew=w2 at *
 refine shK hK _ _ HF (fun _=>?_)
 refine wpAnyH_done (by kernel_rfl) ?_ _;clear HF;obtain ⟨g0,g1,g2,g3,g4⟩:=zac Ho;obtain ⟨f0,f1,f2,f3,f4⟩:=zdK Ho;have H7:=ztK s f w2 (HT.out.ext Hd);have Kf:=Hs.out;subst Kf;dsimp only at H7
 have HA:Hid (Bs w2 v bs):=Kc.out.ext Hd
 obtain ⟨r,Ka⟩:∃ r,zig ⟨x0,x1,x2,x3,x4==1⟩ f=r:=⟨_,rfl⟩;have He:=Hm.out;rw[Ka] at H7 He;clear Hm Ka Hs
 cases r with
 | none =>
  have Hg:Hid (Calls _ _ _ _ (zjo w2)):=H7
  have Hm:Hid (zd6 bs f=none):=He
  clear H7 He;go_wp2_with fail
  refine Hg.out.mono ?_
  rintro e w3 ⟨rfl,Hh⟩;have hb3:=Ho.ext Hh;clear f0 f1 f2 f3 f4 g0 g1 g2 g3 g4;obtain ⟨g0,g1,g2,g3,g4⟩:=zac hb3;obtain ⟨f0,f1,f2,f3,f4⟩:=zdK hb3;go_wp2_with fail
  refine bodyPost_ret (zhx _ _ _ _ _ rfl rfl (zcz hb3 _ _ _ _ _) rfl) rfl ⟨by rw[Hm.out];exact rfl,zcB (xT Hd Hh) (xN _) _ _ _ _ _⟩
 | some cs =>
  have Hg:Hid (Calls _ _ _ _ (zoZ w2 cs)):=H7
  clear H7
  by_cases hbc:bs=cs
  ·have Hm:Hid (zd6 bs f=some ⟨x0,x1,x2,x3,x4==1⟩):=by
    rw[Hid,He];exact if_pos hbc
   have HP:=zhd hbc;clear He hbc;go_wp2_with fail
   refine Hg.out.mono ?_
   rintro e w3 ⟨A3,c3,rfl,HO,Hh⟩;have hb3:=Ho.ext Hh;have Ha:=zbk v (.slice A3 cs.length c3) bs cs w3 (HA.out.ext Hh) (xW HO);rw[decide_eq_true HP.out] at Ha
   exact mcSnapTa0
  ·have Hm:Hid (zd6 bs f=none):=by
    rw[Hid,He];exact if_neg hbc
   have HP:=zhd hbc;clear He hbc;go_wp2_with fail
   refine Hg.out.mono ?_
   rintro e w3 ⟨A3,c3,rfl,HO,Hh⟩;have hb3:=Ho.ext Hh;have Ha:=zbk v (.slice A3 cs.length c3) bs cs w3 (HA.out.ext Hh) (xW HO);rw[decide_eq_false HP.out] at Ha
   exact mcSnapTa0
theorem zqq (v:Value) (bs:List UInt8) (f:Int) (w:World) (hT:TabW rT w) (H4:Bs w v bs) (hl:bs.length≤2000000):Calls Tryz.prog 108 #[v,.int .i64 f] w (zlX w (zd6 bs f)):=by
 cases hr:zeU bs f with
 | none =>
  have:zd6 bs f=none:=by unfold zd6;rw[hr]
  rw[this]
  exact zqw v bs f w H4 hl hr
 | some l=>exact zqx v bs f w hT H4 hl l hr
theorem zp2 {b:List UInt8} {f:Int} {s:Sta} (h:zd6 b f=some s):s.ok=true∧((f=1∧b=zjJ s)∨(f=2∧b=zgm s))∧zig s f=some b:=by
 unfold zd6 at h
 cases hr:zeU b f with
 | none=>rw[hr] at h;cases h
 | some l =>
  rw[hr] at h;dsimp only at h
  cases hp:zig (zpV l) f with
  | none=>rw[hp] at h;cases h
  | some c =>
   rw[hp] at h;dsimp only at h
   split at h
   ·rename_i hbc
    cases h
    have Kn:=hp;unfold zig at hp
    split at hp
    ·rename_i hok
     refine ⟨hok,?_,by rw[Kn,hbc]⟩
     split at hp
     ·rename_i h1;cases hp;exact .inl ⟨h1,hbc⟩
     ·split at hp
      ·rename_i h2;cases hp;exact .inr ⟨h2,hbc⟩
      ·cases hp
    ·cases hp
   ·cases h
end Go.Proofs.YtgonhdeochgkoaaGreatDoor
