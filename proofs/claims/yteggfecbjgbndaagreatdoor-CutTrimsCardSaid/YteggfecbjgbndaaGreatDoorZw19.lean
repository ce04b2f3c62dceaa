/- Merged -/
import Derived.Test.YteggfecbjgbndaaGreatDoorZw18
set_option linter.all false
set_option maxHeartbeats 8000000
set_option maxRecDepth 100000
open Go.Value renaming int→C,slice→F,pointer→O
open Go.IntKind renaming i64→E
open Option renaming none→G,some→H
open Go.Mv renaming zhd→I
open Go.Proofs.Tryz renaming prog→L
open Go.Obj renaming cells→N
open Go.Region renaming wanted→P0,ready→P1
open Option renaming isSome→P2,getD→P3
open List renaming take_succ_eq_append_getElem→P4,not_mem_nil→P5,length_nil→P6,mem_cons→P7,getElem_cons_zero→P8,getElem_cons_succ→P9,all_eq_true→Pa
open Nat renaming reduceAdd→Pb,zero_add→Pc,add_zero→Pd
namespace Go.Mv
open Go.RowKit
theorem mcMan5a0 {P:Prop} (h:P:=by
 go_wp2_with fail
 refine HT.out.mono ?_
 rintro e w2 ⟨vl,vr,rfl,_,_,Hh⟩;have H8:=I (Hx.out.ext Hh);obtain ⟨f0,f1,f2,f3,f4,f5⟩:=zdQ H8.out;obtain ⟨g0,g1,g2,g3,g4,g5⟩:=zag H8.out;clear H9
 dsimp only at *
 go_wp2_with fail
 refine bodyPost_ret (zcI _ _ _ _ _ rfl rfl (zbl H8.out _ _ _ _ _ _) rfl) rfl ?_
 exact zc0 _ _ _ rfl (zbm (xT Hu.out Hh) (xN _) _ _ _ _ _ _)):P:=h
section
variable {P:Program} {ops:Array Oper} {Q:Exit→Act→World→Prop} {md:Region.Mode} {S:World→Prop}
theorem ziz {i:Nat} {o:Oper} {v:Value} {a:Act} {w w':World} {K:Act→World→Prop} (hi:ops.toList[i]?=H o) (hw:P0 o (yielded ops a.tmps)=true) (h:(execOp a.eval o).run P w=.ok (.value v) w') (hK:K (a.put o.dst v) w'):wpOp P ops Q i K a w:=by
 unfold Go.wpOp
 simp only[show ops[i]?=H o by simpa using hi,hw,if_true,Oper.wp,h,Oper.upon]
 exact .inl hK
theorem zqi {i j:Nat} {oi oj:Oper} {vi vj:Value} {fuel:Nat} {listed:Array Bool} {a:Act} {w w':World} (hi:ops.toList[i]?=H oi) (hj:ops.toList[j]?=H oj)
  (hr:P1 md ops listed=[i,j]) (KD:P1 md ops (listed.setIfInBounds i true)=[j]) (KE:P1 md ops (listed.setIfInBounds j true)=[i])
  (wi:P0 oi (yielded ops a.tmps)=true) (wj:P0 oj (yielded ops a.tmps)=true) (wj':P0 oj (yielded ops (a.put oi.dst vi).tmps)=true) (wi':P0 oi (yielded ops (a.put oj.dst vj).tmps)=true)
  (hL:(listed.setIfInBounds j true).setIfInBounds i true=(listed.setIfInBounds i true).setIfInBounds j true) (hA:(a.put oj.dst vj).put oi.dst vi=(a.put oi.dst vi).put oj.dst vj)
  (hS:S w) (Kf:S w') (h1:(execOp a.eval oi).run P w=.ok (.value vi) w) (h2:(execOp (a.put oi.dst vi).eval oj).run P w=.ok (.value vj) w')
  (h3:(execOp a.eval oj).run P w=.ok (.value vj) w') (h4:(execOp (a.put oj.dst vj).eval oi).run P w'=.ok (.value vi) w')
  (h:wpAnyH P md ops Q S fuel ((listed.setIfInBounds i true).setIfInBounds j true) ((a.put oi.dst vi).put oj.dst vj) w'):wpAnyH P md ops Q S (fuel+2) listed a w:=by
 refine ⟨(fun e=>absurd (hr.symm.trans e) (by simp)),fun k hk=>?_⟩
 rw[hr] at hk
 rcases (by simpa using hk:k=i∨k=j) with rfl | rfl
 ·refine ziz hi wi h1 ⟨hS,(fun e=>absurd (KD.symm.trans e) (by simp)),fun k hk=>?_⟩
  rw[KD] at hk
  obtain rfl:k=j:=by simpa using hk
  exact ziz hj wj' h2 ⟨Kf,h⟩
 ·refine ziz hj wj h3 ⟨Kf,(fun e=>absurd (KE.symm.trans e) (by simp)),fun k hk=>?_⟩
  rw[KE] at hk
  obtain rfl:k=i:=by simpa using hk
  exact ziz hi wi' h4 ⟨Kf,by rw[hL,hA];exact h⟩
end
theorem zru {W:World} {base base' size size' n n' m b H3 c:Nat} {e e':TypeId} {xs xs':List Value} {v':Value} (Kk:e≠e') (h:W.ownsRow base e size (F (H ⟨b,H3,G⟩) n c) m xs) (h':W.ownsRow base' e' size' v' n' xs'):some b≠v'.ownBlock:=by
 rcases h.2 with ⟨hv,_⟩ | ⟨g,cap,cur,hv,_,hg,_⟩
 ·cases hv
 ·rcases h'.2 with ⟨rfl,_⟩ | ⟨g',cap',cur',rfl,_,hg',_⟩
  ·intro e1;cases e1
  ·intro e1
   cases hv
   have:b=g':=by simpa [Value.ownBlock] using e1
   subst this;rw[hg] at hg'
   cases hg'
   exact Kk rfl
theorem zmq {W W':World} {base base' size size' n n':Nat} {e e':TypeId} {xs xs':List Value} {v v':Value} (Kk:e≠e') (h:W.ownsRow base e size v n xs) (h':W.ownsRow base' e' size' v' n' xs') (hg:W.grownBy W' v'.ownBlock):W'.ownsRow base e size v n xs:=by
 have h0:=h
 rcases h.2 with ⟨rfl,rfl⟩ | ⟨g,cap,cur,rfl,_,_,_⟩
 ·exact ⟨h.1,.inl ⟨rfl,rfl⟩⟩
 ·exact h0.kept hg (.inr (zru Kk h0 h'))
end Go.Mv
namespace Go.Proofs.YteggfecbjgbndaaGreatDoor
open Go.RowKit Go.Mv
theorem zot (l:List Sg4):∀ u∈za1 l,u.oneCell'=true:=by
 intro u hu;obtain ⟨s,_,hu⟩:=List.mem_flatMap.1 hu;simp only[Sg4.cells,P7,P5,or_false] at hu
 rcases hu with rfl | rfl | rfl | rfl <;> rfl
theorem zsW (W:World) (es:List Sg4) (n:Nat) (hn:n=es.length) (hm:n≤maxLen):SlR (W.alloc (N (za1 es).toArray 36)) 4 (F (H ⟨W.heap.size,0,G⟩) n n) n (za1 es):=by
 subst hn
 refine ⟨ziT es,_,es.length,rfl,xN _,hm,fun _=>⟨W.heap.size,0,rfl,fun j u hu=>?_⟩⟩
 rw[Pc]
 exact (Blk.new W 36 (za1 es).toArray).cell j (by simpa using hu)
def zc9:Nat→List Sg4→List UInt8→Option (List Sg4)
 | 0,H0,_=>some H0
 | k+1,H0,r=>if (zap 4 [] r).1=0 then zc9 k (H0++[⟨(zap 4 [] r).2.1.getD 0 0,(zap 4 [] r).2.1.getD 1 0,(zap 4 [] r).2.1.getD 2 0,(zap 4 [] r).2.1.getD 3 0-1⟩]) (zap 4 [] r).2.2 else none
def zf3:Int×List Int×List UInt8→Option Mf
 | (e,l,r)=>if e≠0 then none else if 60<l.getD 5 0 then none else (zc9 (l.getD 5 0).toNat [] r).map fun s=>⟨l.getD 0 0,l.getD 1 0,l.getD 2 0,l.getD 3 0,l.getD 4 0,s⟩
def zjS (p:List UInt8):Option Mf:=if p.length<1 then none else zf3 (zap 6 [] (p.drop 1))
def zhn (b:List UInt8):Option Mf:=match za6 rT b with
 | none=>none
 | some p=>match zjS p with
  | none=>none
  | some m=>if zbH m=H b then some m else none
def mf0:Mf:=⟨0,0,0,0,0,[]⟩
def OwnS (w:World) (base:Nat) (v:Value) (l:List Sg4):Prop:=w.ownsRow base 36 4 v l.length (za1 l)
theorem OwnS.sgs {w:World} {base:Nat} {v:Value} {l:List Sg4} (h:OwnS w base v l):Sgs w v l:=xW h
def zjr (w:World) (r:Option Mf) (e:Ending) (w':World):Prop :=
 ∃ v,e=.returned (.tuple #[.agg #[C E (r.getD mf0).next,C E (r.getD mf0).term,C E (r.getD mf0).vote,C E (r.getD mf0).sq,C E (r.getD mf0).sf,v],C E (if r.isSome then 0 else 11)])∧OwnS w' w.heap.size v (r.getD mf0).segs∧Ext w w'
theorem zd2:Tryz.prog.underlying 30=H (.struct (Tryz.prog.fieldsOf 30)):=by kernel_rfl
theorem zcI (tmps:Array Value) (W:World) (b:Nat) (cs:Array Value) (u:Value) (h4:tmps.getD 2 undef=O (H ⟨b,0,G⟩)) (h5:tmps.getD 3 undef=u) (hb:Blk W b 30 cs) (hs:cs.size=6):(results Tryz.f41 tmps).run L W=.ok (.tuple #[.agg cs,u]) W:=by
 have hl:=hb.load (P:=L) zd2 rfl (by rw[hs];kernel_rfl)
 have J2:tmps[2]?.getD undef=O (H ⟨b,0,G⟩):=by simpa using h4
 have J3:tmps[3]?.getD undef=u:=by simpa using h5
 simp[results,Tryz.results41,J2,J3,asAddr,hl]
theorem zdQ {W:World} {b:Nat} {t:TypeId} {cs:Array Value} (h:Blk W b t cs):W.frozen? ⟨b,0,G⟩=false∧W.frozen? ⟨b,1,G⟩=false∧W.frozen? ⟨b,2,G⟩=false∧W.frozen? ⟨b,3,G⟩=false∧W.frozen? ⟨b,4,G⟩=false∧W.frozen? ⟨b,5,G⟩=false :=
 ⟨h.frozen 0,h.frozen 1,h.frozen 2,h.frozen 3,h.frozen 4,h.frozen 5⟩
theorem zbl {W:World} {b:Nat} {t:TypeId} {a v u x y z:Value} (h:Blk W b t #[a,v,u,x,y,z]) (a' v' u' x' y' z':Value):Blk ((((((W.setCell ⟨b,0,G⟩ a').setCell ⟨b,1,G⟩ v').setCell ⟨b,2,G⟩ u').setCell ⟨b,3,G⟩ x').setCell ⟨b,4,G⟩ y').setCell ⟨b,5,G⟩ z') b t #[a',v',u',x',y',z'] :=
 (((((h.set 0 a').set 1 v').set 2 u').set 3 x').set 4 y').set 5 z'
theorem zbm {w W:World} (h:Ext w W) {b:Nat} (hb:w.heap.size≤b) (a' v' u' x' y' z':Value):Ext w ((((((W.setCell ⟨b,0,G⟩ a').setCell ⟨b,1,G⟩ v').setCell ⟨b,2,G⟩ u').setCell ⟨b,3,G⟩ x').setCell ⟨b,4,G⟩ y').setCell ⟨b,5,G⟩ z') :=
 (((((Below.setCell h hb a').setCell hb v').setCell hb u').setCell hb x').setCell hb y').setCell hb z'
theorem zms {W:World} {b:Nat} {t:TypeId} {a v u x y z:Value} (hB:Blk W b t #[a,v,u,x,y,z]) {e:TypeId} (Ht:t≠e) {base size k:Nat} {vv:Value} {xs:List Value} (hr:W.ownsRow base e size vv k xs) (a' v' u' x' y' z':Value):((((((W.setCell ⟨b,0,G⟩ a').setCell ⟨b,1,G⟩ v').setCell ⟨b,2,G⟩ u').setCell ⟨b,3,G⟩ x').setCell ⟨b,4,G⟩ y').setCell ⟨b,5,G⟩ z').ownsRow base e size vv k xs:=by
 have r1:=hr.kept (zad _ b 0 a') (.inr (hB.not_row Ht hr).symm);have b1:=hB.set 0 a';have r2:=r1.kept (zad _ b 1 v') (.inr (b1.not_row Ht r1).symm);have b2:=b1.set 1 v';have r3:=r2.kept (zad _ b 2 u') (.inr (b2.not_row Ht r2).symm);have b3:=b2.set 2 u';have r4:=r3.kept (zad _ b 3 x') (.inr (b3.not_row Ht r3).symm);have b4:=b3.set 3 x';have r5:=r4.kept (zad _ b 4 y') (.inr (b4.not_row Ht r4).symm);have b5:=b4.set 4 y'
 exact r5.kept (zad _ b 5 z') (.inr (b5.not_row Ht r5).symm)
theorem zc0 (w W:World) (v:Value) (hv:v=F none 0 0) (hE:Ext w W):zjr w none (.returned (.tuple #[.agg #[C E 0,C E 0,C E 0,C E 0,C E 0,v],C E 11])) W:=by
 subst hv;exact ⟨_,rfl,World.ownsRow_nil _ _ _ _,hE⟩
theorem six {l:List Int} (h:l.length=6):∃ a b c d e f,l=[a,b,c,d,e,f]:=by
 match l,h with
 | [a,b,c,d,e,f],_=>exact ⟨a,b,c,d,e,f,rfl⟩
theorem zvg {l:List Int} (h:l.length=4):∃ a b c d,l=[a,b,c,d]:=by
 match l,h with
 | [a,b,c,d],_=>exact ⟨a,b,c,d,rfl⟩
theorem zk4 {k:Nat} {bs:List UInt8} {l:List Int} {r:List UInt8} (h:zap k [] bs=(0,l,r)):l.length=k∧(∀ x∈l,0≤x∧x≤1073741824)∧r.length≤bs.length:=by
 obtain ⟨l',rfl,h1,h2,rfl⟩:=zfd _ _ _ _ _ h
 refine ⟨h1,fun x hx=>?_,by simp⟩
 unfold zau at h2;rw[Pa] at h2
 exact numB_true.1 (h2 x (by simpa using hx))
theorem zry {e:Int} {l:List Int} {r:List UInt8} (h:e≠0):zf3 (e,l,r)=none:=if_pos h
theorem zs6 {l:List Int} {r:List UInt8} (h:60<l.getD 5 0):zf3 (0,l,r)=none:=by unfold zf3;simp only[ne_eq,not_true_eq_false,if_false];rw[if_pos h]
theorem zs7 {l:List Int} {r:List UInt8} (h:¬ 60<l.getD 5 0):zf3 (0,l,r)=(zc9 (l.getD 5 0).toNat [] r).map fun s=>⟨l.getD 0 0,l.getD 1 0,l.getD 2 0,l.getD 3 0,l.getD 4 0,s⟩:=by unfold zf3;simp only[ne_eq,not_true_eq_false,if_false];rw[if_neg h]
theorem zpZ {k:Nat} {H0:List Sg4} {r:List UInt8} (h:(zap 4 [] r).1≠0):zc9 (k+1) H0 r=none:=by rw[zc9,if_neg h]
theorem zrF {k:Nat} {H0:List Sg4} {r r':List UInt8} {a b c d:Int} (h:zap 4 [] r=(0,[a,b,c,d],r')):zc9 (k+1) H0 r=zc9 k (H0++[⟨a,b,c,d-1⟩]) r':=by rw[zc9,h];rfl
theorem zmb:(Tryz.prog.info? 36).map (fun i=>(i.zero,i.size,i.bytes))=H (some (.agg #[C E 0,C E 0,C E 0,C E 0]),4,32):=by kernel_rfl
theorem zqC (v:Value) (bs:List UInt8) (w:World) (hB:Bs w v bs) (hl:bs.length≤2000000):Calls L 41 #[v] w (zjr w (zhn bs)):=by
 obtain ⟨A,c,rfl,h1,h2⟩:=xO hB;have Kt:=Blk.new w 30 #[C E 0,C E 0,C E 0,C E 0,C E 0,F none 0 0]
 have hX:Ext w (w.alloc (N #[C E 0,C E 0,C E 0,C E 0,C E 0,F none 0 0] 30)):=xA (xR _) _
 have Kh:=zh0 _ bs _ (hB.ext hX) hl;obtain ⟨R,hR⟩:∃ R,zhn bs=R:=⟨_,rfl⟩;have K1:=hR;unfold zhn at K1;rw[hR]
 have H5:∀ p,za6 rT bs=H p→p.length≤2000000:=fun p h=>by
  have:=zhI h;omega
 obtain ⟨r,hr⟩:∃ r,za6 rT bs=r:=⟨_,rfl⟩;rw[hr] at Kh K1 H5;have Kp:=I Kh;have HR:=I K1;have HB:=I hB;clear Kh hr hR K1 hB
 go_enter Tryz.func41,Tryz.ntmps41
 go_wp2_with fail
 refine Kp.out.mono ?_
 rintro e w1 ⟨⟨v1,rfl,HK⟩,Ke⟩;have H9:=Kt.ext Ke;have E1:=xT hX Ke;have Hu:=I E1;have Hx:=I H9;clear Kt hX Ke E1
 cases r with
 | none =>
  obtain rfl:none=R:=HR.out
  obtain ⟨f0,f1,f2,f3,f4,f5⟩:=zdQ H9;obtain ⟨g0,g1,g2,g3,g4,g5⟩:=zag H9;clear H9
  dsimp only[P2]
  go_wp2_with fail
  refine bodyPost_ret (zcI _ _ _ _ _ rfl rfl (zbl Hx.out _ _ _ _ _ _) rfl) rfl ?_
  exact zc0 _ _ _ rfl (zbm Hu.out (xN _) _ _ _ _ _ _)
 | some p =>
  have hp:=H5 p rfl;clear H5
  dsimp only[P2,P3] at HK HR ⊢
  obtain ⟨A1,c1,rfl,h3,h4⟩:=xO HK.bs
  by_cases hp1:p.length<1
  ·have Hs:zjS p=none:=by unfold zjS;rw[if_pos hp1]
   obtain rfl:none=R:=by rw[←HR.out,Hs]
   obtain ⟨f0,f1,f2,f3,f4,f5⟩:=zdQ H9;obtain ⟨g0,g1,g2,g3,g4,g5⟩:=zag H9
   have Je:(p.length:Int)<1:=by omega
   clear H9 Hs;go_wp2_with fail
   refine bodyPost_ret (zcI _ _ _ _ _ rfl rfl (zbl Hx.out _ _ _ _ _ _) rfl) rfl ?_
   exact zc0 _ _ _ rfl (zbm Hu.out (xN _) _ _ _ _ _ _)
  obtain ⟨_,b1,Hn,rfl,_⟩:=Bs.at_ HK.bs (by omega)
  have Je:¬ (p.length:Int)<1:=by omega
  have Hk:=Bs.cut HK.bs 1 (by omega) rfl
  have Kw:(p.drop 1).length=p.length-1:=by simp
  obtain ⟨Q,hQ⟩:∃ Q,p.drop 1=Q:=⟨_,rfl⟩
  have Hs:zjS p=zf3 (zap 6 [] Q):=by unfold zjS;rw[if_neg hp1,hQ]
  rw[hQ] at Hk Kw;obtain ⟨⟨er,ls,rs⟩,hq⟩:∃ q,zap 6 [] Q=q:=⟨_,rfl⟩;rw[hq] at Hs
  have Hv:Hid ((match zf3 (er,ls,rs) with | none=>none | some m=>if zbH m=H bs then some m else none)=R):=I (by rw[←Hs];exact HR.out)
  have Hq:=I hq;have Hz:=I Hk
  have HA:er≠0→none=R:=fun h=>by rw[←Hv.out,zry h]
  have Hf:=I HA;clear Hs Hk hQ HR HA
  by_cases hc1:c1=1
  ·have J7:Q=[]:=List.eq_nil_of_length_eq_zero (by omega)
   subst J7
   have K3:er≠0:=by
    intro h;subst h;obtain ⟨l',_,k2,_,k3⟩:=zfd _ _ _ _ _ hq;have k4:=congrArg List.length k3;have k5:=zkY l'
    simp at k4
    omega
   have hT:Calls L 91 #[F (H ⟨b1,Hn,G⟩) 0 0,C E 6] w1 (zfn w1 (er,ls,rs)):=by
    have:=zdw _ [] 6 (by omega) w1 (SlR.empty (A:=H ⟨b1,Hn,G⟩) (c:=0) _ 1 (by simp)) (by simp)
    rw[hq] at this
    exact this
   have HT:=I hT
   have Jf:p.length=1:=by simp at Kw;omega
   obtain rfl:=Hf.out K3
   clear hT hq Hv;subst hc1
   rw[Jf] at *
   exact mcMan5a0
  have hT:Calls L 91 #[F (H ⟨b1,Hn+1,G⟩) (p.length-1) (c1-1),C E 6] w1 (zfn w1 (er,ls,rs)):=by
   have:=zdw _ Q 6 (by omega) _ Hz.out (by omega)
   rw[hq] at this
   exact this
  have HT:=I hT;clear hT hq
  by_cases K3:er=0
  case neg =>
   obtain rfl:=Hf.out K3
   exact mcMan5a0
  subst K3;obtain ⟨Kz,HI,JE⟩:=zk4 Hq.out;obtain ⟨x0,x1,x2,x3,x4,x5,rfl⟩:=six Kz;simp only[P7,P5,or_false,forall_eq_or_imp,forall_eq] at HI;obtain ⟨n0,n1,n2,n3,n4,n5⟩:=HI;clear Hf Kz H9;go_wp2_with fail
  refine HT.out.mono ?_
  rintro e w2 ⟨vl,vr,rfl,HM,KA,Hh⟩;have H8:=I (Hx.out.ext Hh);have K6:=I (xT Hu.out Hh)
  dsimp only at HM KA ⊢
  obtain ⟨Al,cl,rfl,_,_⟩:=xO (xW HM);obtain ⟨_,bl,HV,rfl,H5⟩:=Is.at_ (l:=[x0,x1,x2,x3,x4,x5]) (xW HM) (by simp);have c0:=H5 0 (by simp);have c1:=H5 1 (by simp);have c2:=H5 2 (by simp);have c3:=H5 3 (by simp);have c4:=H5 4 (by simp);have c5:=H5 5 (by simp);simp only[P8,P9,Pd] at c0 c1 c2 c3 c4 c5
  simp only[xC,P6,Pc,Pb] at *
  by_cases h60:60<x5
  ·have hR:none=R:=by rw[←Hv.out,zs6 (by simpa using h60)]
   subst hR;obtain ⟨f0,f1,f2,f3,f4,f5⟩:=zdQ H8.out;obtain ⟨g0,g1,g2,g3,g4,g5⟩:=zag H8.out;go_wp2_with fail
   refine bodyPost_ret (zcI _ _ _ _ _ rfl rfl (zbl H8.out _ _ _ _ _ _) rfl) rfl ?_
   exact zc0 _ _ _ rfl (zbm (xT Hu.out Hh) (xN _) _ _ _ _ _ _)
  have HX:Hid ((match (zc9 x5.toNat [] rs).map (fun s=>(⟨x0,x1,x2,x3,x4,s⟩:Mf)) with | none=>none | some m=>if zbH m=H bs then some m else none)=R):=I (by rw[←Hv.out,zs7 (by simpa using h60)];rfl)
  clear Hv;go_wp2_with fail;have Ju:=I HM;clear H5 HM Kp HT Hz HK Hq Hx Hh
  refine wp_region_held_drew (S:=fun W=>W.cell? ⟨bl,HV,G⟩=H (C E x0)∧W.cell? ⟨bl,HV+1,G⟩=H (C E x1)∧W.cell? ⟨bl,HV+2,G⟩=H (C E x2)∧W.cell? ⟨bl,HV+3,G⟩=H (C E x3)∧W.cell? ⟨bl,HV+4,G⟩=H (C E x4)) (by kernel_rfl) ⟨c0,c1,c2,c3,c4⟩ (fun hHeld=>?_)
  refine tkN 0 ?_;refine tkN 1 ?_;refine tkN 2 ?_;refine tkN 3 ?_;refine tkN 4 ?_;refine tkN 5 ?_;refine tkN 6 ?_;refine tkN 7 ?_;refine tkN 8 ?_;refine tkN 9 ?_;refine tkN 10 ?_;refine tkN 11 ?_;refine tkN 12 ?_;refine tkN 13 ?_;refine tkN 14 ?_;refine tkN 15 ?_;refine tkN 16 ?_
  refine ar1 17 (fun K hK=>?_)
  go_simp
  have X3:Ext w2 (w2.drew.alloc (N #[C E 0,C E 0,C E 0,C E 0,C E 0,F none 0 0] 30)):=xA (xD (xR _)) _
  refine shK hK _ _ ⟨X3.cell c0,X3.cell c1,X3.cell c2,X3.cell c3,X3.cell c4⟩ (fun hHeld=>?_)
  refine ar1 18 (fun K hK=>?_)
  go_simp
  have X4:Ext w2 (w2.alloc (N #[C E x0,C E x1,C E x2,C E x3,C E x4,F none 0 0] 30)).drew:=xD (xA (xR _) _)
  have Ku:Blk (w2.alloc (N #[C E x0,C E x1,C E x2,C E x3,C E x4,F none 0 0] 30)).drew w2.heap.size 30 #[C E x0,C E x1,C E x2,C E x3,C E x4,F none 0 0]:=(Blk.new w2 _ _).ext (xD (xR _))
  refine shK hK _ _ ⟨X4.cell c0,X4.cell c1,X4.cell c2,X4.cell c3,X4.cell c4⟩ (fun hHeld=>?_)
  refine wdD ?_
  generalize J8:(w2.alloc (N #[C E x0,C E x1,C E x2,C E x3,C E x4,F none 0 0] 30)).drew=w4 at *
  clear J8 X3;have Ko:=I X4;have KP:=I Ku;clear X4 Ku
  have Jd:x5.toNat≤60:=by omega
  have Ji:rs.length≤2000000:=by omega
  go_wp2_with fail
  go_loopw [7,10] (fun vt x W=>∃ (j:Nat) (H0:List Sg4) (rest:List UInt8) (u:Value) (vt':Value),j≤x5.toNat∧x=C E j∧vt=vt'∧Hid (H0.length=j)∧rest.length≤rs.length∧Hid (Bs W vt' rest)∧Hid (zc9 x5.toNat [] rs=zc9 (x5.toNat-j) H0 rest) ∧
   Hid (Blk W w2.heap.size 30 #[C E x0,C E x1,C E x2,C E x3,C E x4,u])∧Hid (W.ownsRow w2.heap.size 36 4 u H0.length (za1 H0))∧Ext w2 W) (fun _ x _=>x5.toNat-(intOf x).toNat)
  case atStart =>
   exact ⟨0,[],rs,_,_,by omega,rfl,rfl,rfl,xN _,I ((xW KA:Bs w2 vr rs).ext Ko.out),I rfl,KP,I (World.ownsRow_nil _ _ _ _),Ko.out⟩
  case round =>
   obtain ⟨j,H0,rest,u,vt,hj,rfl,rfl,HL,Jh,KK,HG,HY,HO,K0⟩:=hrel;have HE:=I (xT K6.out K0);have HW:=I K0;have Js:=K0.cell c5
   have Ks:H0.length≤60:=by have:=HL.out;omega
   clear K0 c0 c1 c2 c3 c4 c5
   by_cases hlt:j<x5.toNat
   ·obtain ⟨k,hk⟩:∃ k,x5.toNat-j=k+1:=⟨x5.toNat-j-1,by omega⟩
    have hG:=HG.out;rw[hk] at hG;have Kg:=zdw u7 rest 4 (by omega) wr KK.out (by omega);obtain ⟨⟨e4,l4,r4⟩,Hr⟩:∃ q,zap 4 [] rest=q:=⟨_,rfl⟩;rw[Hr] at Kg
    have K9:Hid (Calls L 91 #[u7,C E 4] wr (zfn wr (e4,l4,r4))):=I Kg
    have JB:(j:Int)<x5:=by omega
    have Hj:=I hj;clear Kg HG
    by_cases he4:e4=0
    case neg =>
     have hR:none=R:=by rw[←HX.out,hG,zpZ (by rw[Hr];exact he4)];rfl
     clear hG Hr HX;subst hR;go_wp2_with fail
     refine K9.out.mono ?_
     rintro e w5 ⟨Jp,Jq,rfl,_,_,Hi⟩;have Ka:=I (H8.out.ext (xT HW.out Hi));obtain ⟨f0,f1,f2,f3,f4,f5⟩:=zdQ Ka.out;obtain ⟨g0,g1,g2,g3,g4,g5⟩:=zag Ka.out
     dsimp only at *
     go_wp2_with fail
     refine bodyPost_ret (zcI _ _ _ _ _ rfl rfl (zbl Ka.out _ _ _ _ _ _) rfl) rfl ?_
     exact zc0 _ _ _ rfl (zbm (xT HE.out Hi) (xN _) _ _ _ _ _ _)
    subst he4;obtain ⟨Ky,He,JD⟩:=zk4 Hr;obtain ⟨y0,y1,y2,y3,rfl⟩:=zvg Ky;simp only[P7,P5,or_false,forall_eq_or_imp,forall_eq] at He;obtain ⟨q0,q1,q2,q3⟩:=He;rw[zrF Hr] at hG;have HG:=I hG
    have JF:IntKind.i64.wrap (y3-1)=y3-1:=by rw[IntKind.wrap_i64];omega
    clear Ky Hr hG;go_wp2_with fail
    refine K9.out.mono ?_
    rintro e w5 ⟨Jp,Jq,rfl,HN,HS,Hi⟩
    dsimp only at HN HS ⊢
    obtain ⟨Jr,Jw,rfl,_,_⟩:=xO (xW HN);obtain ⟨_,HZ,K5,rfl,H6⟩:=Is.at_ (l:=[y0,y1,y2,y3]) (xW HN) (by simp);have d0:=H6 0 (by simp);have d1:=H6 1 (by simp);have d2:=H6 2 (by simp);have d3:=H6 3 (by simp);simp only[P8,P9,Pd] at d0 d1 d2 d3
    simp only[xC,P6,Pc,Pb] at *
    obtain ⟨Au,cu,rfl,_,_⟩:=xO (xW HO.out);have Hg:=I (HY.out.ext Hi);obtain ⟨_,_,_,_,_,g5⟩:=zag Hg.out;have Ho:=I (zab HO.out Hi);have Kq:=I HN;have Km:=I Hi;clear H6 HN Hi HO HY K9;go_wp2_with fail
    refine wp_region_held_drew (S:=fun W=>W.cell? ⟨HZ,K5,G⟩=H (C E y0)∧W.cell? ⟨HZ,K5+1,G⟩=H (C E y1)∧W.cell? ⟨HZ,K5+2,G⟩=H (C E y2)∧W.cell? ⟨HZ,K5+3,G⟩=H (C E y3)) (by kernel_rfl) ⟨d0,d1,d2,d3⟩ (fun hHeld=>?_)
    refine tkN 0 ?_;refine tkN 2 ?_;refine tkN 3 ?_;refine tkN 4 ?_;refine tkN 5 ?_;refine tkN 6 ?_;refine tkN 7 ?_;refine tkN 8 ?_;refine tkN 9 ?_;refine tkN 10 ?_;refine tkN 11 ?_;refine tkN 12 ?_;refine tkN 13 ?_;refine tkN 14 ?_;refine tkN 15 ?_
    have X6:Ext w5 (w5.alloc (N #[C E y0,C E y1,C E y2,C E (y3-1)] 36)).drew:=xD (xA (xR _) _)
    have J0:w5.drew.cell? ⟨w2.heap.size,5,G⟩=H (F Au H0.length cu):=g5
    have J1:=X6.cell g5
    refine zqi (i:=1) (j:=16) (vi:=F Au H0.length cu) (vj:=F (H ⟨w5.heap.size,0,G⟩) 1 1) (w':=(w5.alloc (N #[C E y0,C E y1,C E y2,C E (y3-1)] 36)).drew) rfl rfl (by kernel_rfl) (by kernel_rfl) (by kernel_rfl) (by rfl) (by rfl) (by rfl) (by rfl) (by rfl) (by rfl) hHeld ⟨X6.cell d0,X6.cell d1,X6.cell d2,X6.cell d3⟩ ?h1 ?h2 ?h3 ?h4 ?h5
    case h1=>go_simp
    case h2=>go_simp
    case h3=>go_simp
    case h4=>go_simp
    case' h5=>skip
    try simp only[Act.put,sA,sZ,sS]
    have KC:SlR (w5.alloc (N #[C E y0,C E y1,C E y2,C E (y3-1)] 36)).drew 4 (F (H ⟨w5.heap.size,0,G⟩) 1 1) 1 (za1 [⟨y0,y1,y2,y3-1⟩]):=SlR.ext (zsW w5 [⟨y0,y1,y2,y3-1⟩] 1 rfl (by simp[maxLen])) (xD (xR _))
    have H1:=I X6;have KU:=I KC
    have H4:w2.heap.size≤(w5.alloc (N #[C E y0,C E y1,C E y2,C E (y3-1)] 36)).drew.heap.size:=(xT HW.out (xT Km.out X6)).size
    obtain ⟨i0,hi,Jl,Jm,Jn⟩:=info_parts zmb;clear KC X6 J0 J1
    refine ar1 17 (fun K hK=>?_)
    refine zbv _ (.tmp 78) (.tmp 93) 28 (by rfl) w2.heap.size 36 i0 _ 4 32 Tryz.underlying28 hi Jl Jm Jn rfl (by decide) (F Au H0.length cu) H0.length (za1 H0) (by rfl) (zab Ho.out H1.out) _ 1 (za1 [⟨y0,y1,y2,y3-1⟩]) (by rfl) KU.out (zot _) (by unfold maxLen;omega) (by omega) H4 ?_
    intro v7 w7 K4 Ha;have H7:=zru (by decide) (zab Kq.out H1.out) (zab Ho.out H1.out);have H2:=(Hg.out.ext H1.out).kept Ha ((Hg.out.ext H1.out).not_row (by decide) (zab Ho.out H1.out))
    have E7:Ext w2 w7:=Ext.grownOwn (xT HW.out (xT Km.out H1.out)) (zab Ho.out H1.out) Ha
    refine shK hK _ _ ⟨zbw Ha (H1.out.cell d0) H7,zbw Ha (H1.out.cell d1) H7,zbw Ha (H1.out.cell d2) H7,zbw Ha (H1.out.cell d3) H7⟩ (fun hHeld=>?_)
    have KY:=H2.frozen 5
    have KZ:w7.cell? ⟨w2.heap.size,5,G⟩=H (F Au H0.length cu):=H2.cell 5 rfl
    have Hm:=zmq (by decide) (zab HS H1.out) (zab Ho.out H1.out) Ha;have HP:=zmq (by decide) (zab Kq.out H1.out) (zab Ho.out H1.out) Ha;have HH:=H2.not_row (by decide) HP;have k0:=hHeld.1;have k1:=hHeld.2.1;have k2:=hHeld.2.2.1;have k3:=hHeld.2.2.2;obtain ⟨A7,c7,rfl,_,_⟩:=xO (xW K4);refine tkN 18 ?_
    refine ar1 19 (fun K hK=>?_)
    go_simp
    have E8:Ext w2 (w7.setCell ⟨w2.heap.size,5,G⟩ (F A7 (H0.length+1) c7)):=Below.setCell (p:=⟨w2.heap.size,5,G⟩) E7 (xN _) _
    have Kv:=H2.set 5 (F A7 (H0.length+1) c7);have HQ:=K4.kept (zad _ w2.heap.size 5 (F A7 (H0.length+1) c7)) (.inr (H2.not_row (by decide) K4).symm);have HU:=Hm.kept (zad _ w2.heap.size 5 (F A7 (H0.length+1) c7)) (.inr (H2.not_row (by decide) Hm).symm)
    refine shK hK _ _ ⟨zbw (zad _ w2.heap.size 5 (F A7 (H0.length+1) c7)) k0 HH.symm,zbw (zad _ w2.heap.size 5 (F A7 (H0.length+1) c7)) k1 HH.symm,zbw (zad _ w2.heap.size 5 (F A7 (H0.length+1) c7)) k2 HH.symm,zbw (zad _ w2.heap.size 5 (F A7 (H0.length+1) c7)) k3 HH.symm⟩ (fun hHeld=>?_)
    refine wdD ?_;have KM:=I E8;have Hb:=I Kv;have KT:=I HQ;have Kc:=I HU;clear E8 Kv HQ HU hHeld HH k0 k1 k2 k3 HP Hm KZ KY E7 H2 H7 Ha K4 H4;go_wp2_with fail
    go_roundw
    case rel =>
     refine ⟨j+1,H0++[⟨y0,y1,y2,y3-1⟩],r4,_,_,by omega,by go_num,rfl,I (by simp[HL.out]),by omega,I (xW Kc.out),?_,Hb,?_,KM.out⟩
     ·rw[show x5.toNat-(j+1)=k by omega];exact HG
     ·rw[show za1 (H0++[⟨y0,y1,y2,y3-1⟩])=za1 H0++za1 [⟨y0,y1,y2,y3-1⟩] by simp[za1],xL];exact KT
    case measure=>simp[intOf];omega
   ·obtain rfl:j=x5.toNat:=by omega
    have hG:=HG.out;rw[Nat.sub_self,zc9] at hG
    have Kn:Hid ((if zbH ⟨x0,x1,x2,x3,x4,H0⟩=H bs then some ⟨x0,x1,x2,x3,x4,H0⟩ else none)=R):=I (by rw[←HX.out,hG];rfl)
    have K2:Sgs wr u H0:=xW HO.out
    obtain ⟨Au,cu,rfl,_,_⟩:=K2.open_;have Kd:=zlN ⟨x0,x1,x2,x3,x4,H0⟩ (F Au H0.length cu) wr K2;obtain ⟨p0,p1,p2,p3,p4,p5⟩:=zag HY.out;have J6:=HB.out.ext HE.out;have Jt:=I K2;obtain ⟨pr,Kl⟩:∃ pr,zbH ⟨x0,x1,x2,x3,x4,H0⟩=pr:=⟨_,rfl⟩;rw[Kl] at Kd
    have Hw:Hid ((if pr=H bs then some ⟨x0,x1,x2,x3,x4,H0⟩ else none)=R):=I (by rw[←Kl];exact Kn.out)
    have KJ:=I Kd
    have JG:((x5.toNat:Nat):Int)=x5:=by omega
    have Jk:¬ (((x5.toNat:Nat):Int)<x5):=by omega
    clear hG Kn K2 Kd Kl HG HX;go_wp2_with fail
    refine KJ.out.mono ?_
    rintro e w8 ⟨⟨v8,rfl,HQ⟩,Hc⟩;have Hb:=I (H8.out.ext (xT HW.out Hc));have Kb:=I (HY.out.ext Hc);obtain ⟨f0,f1,f2,f3,f4,f5⟩:=zdQ Hb.out;obtain ⟨g0,g1,g2,g3,g4,g5⟩:=zag Hb.out;obtain ⟨t0,t1,t2,t3,t4,t5⟩:=zag Kb.out;have KO:=I (zab HO.out Hc);have Jv:=I (xT HE.out Hc);clear p0 p1 p2 p3 p4 p5
    cases pr with
    | none =>
     obtain rfl:none=R:=Hw.out
     dsimp only[P2]
     go_wp2_with fail
     refine bodyPost_ret (zcI _ _ _ _ _ rfl rfl (zbl Hb.out _ _ _ _ _ _) rfl) rfl ?_
     exact zc0 _ _ _ rfl (zbm (xT HE.out Hc) (xN _) _ _ _ _ _ _)
    | some q =>
     dsimp only[P2,P3] at HQ ⊢
     have Jz:=zaE (P:=L) w8 33 9 5 Tryz.underlying33 Tryz.underlying5 Tryz.underlying9 HQ.bs;have JA:=zaE (P:=L) w8 33 9 5 Tryz.underlying33 Tryz.underlying5 Tryz.underlying9 (J6.ext Hc)
     by_cases hqb:q=bs
     ·obtain rfl:some _=R:=by rw[←Hw.out,if_pos (by rw[hqb])]
      subst hqb;clear Hw;go_wp2_with fail
      refine bodyPost_ret (zcI _ _ _ _ _ rfl rfl (zbl Hb.out _ _ _ _ _ _) rfl) rfl ?_
      exact ⟨_,rfl,zaf (zms Hb.out (by decide) KO.out _ _ _ _ _ _) (by first | exact xN _ | exact K6.out.size | (have:=K6.out.size;omega)),zbm (xT HE.out Hc) (xN _) _ _ _ _ _ _⟩
     ·obtain rfl:none=R:=by rw[←Hw.out,if_neg (by simpa using hqb)]
      have Jg:(q==bs)=false:=by simpa using hqb
      clear Hw;go_wp2_with fail
      refine bodyPost_ret (zcI _ _ _ _ _ rfl rfl (zbl Hb.out _ _ _ _ _ _) rfl) rfl ?_
      exact zc0 _ _ _ rfl (zbm (xT HE.out Hc) (xN _) _ _ _ _ _ _)
end Go.Proofs.YteggfecbjgbndaaGreatDoor

namespace Go.Mv
open Go.RowKit
theorem Moves.blk {M:Nat→Obj→Prop} {A B:World} (h:Moves M A B) {b:Nat} {t:TypeId} {cs:Array Value} (hb:Blk A b t cs) (hM:¬ M b (N cs t (0,0))):Blk B b t cs:=h.same b _ hb hM
theorem Moves.blkF {n:Nat} {A B:World} (h:Moves (zac (fun _ _=>False) n) A B) {b:Nat} {t:TypeId} {cs:Array Value} (hb:Blk A b t cs):Blk B b t cs:=h.blk hb (by rintro (h | ⟨_,h⟩);exact h;cases h)
theorem Moves.belowF {n:Nat} {A B w:World} (h:Moves (zac (fun _ _=>False) n) A B) (he:Ext w A) (hn:w.heap.size≤n):Ext w B:=h.belowOf he (by rintro k o hk (h | h);exact h;omega) (xN _)
end Go.Mv
namespace Go.Proofs.YteggfecbjgbndaaGreatDoor
open Go.RowKit Go.Mv Go.Shelf
attribute [local go_sem] Oper.semAt_some
theorem zjw {W:World} {b:Nat} {t:TypeId} {cs:Array Value} (h:Blk W b t cs) {D:Nat} {o:Obj} (hD:W.heap[D]?=H o) (hc:o.isCells=false) (o':Obj):Blk (W.putObj D o') b t cs:=by
 refine (World.putObj_heap_other (fun e=>?_)).trans h
 subst e
 rw[show W.heap[b]?=_ from h] at hD;cases hD;cases hc
open Go.RowKit Go.Mv
def zdg (m:Mf) (k:Nat) (u:Value):Prop:=u=C E 0∨u=C E m.sq∨∃ s∈m.segs.take k,u=C E s.seq
theorem zkh {a b:Int} (h:C E a=C E b):a=b:=by injection h
theorem ztd (m:Mf) (k:Nat) (n:Int):zdg m k (C E n)↔n=0∨n=m.sq∨∃ s∈m.segs.take k,s.seq=n:=by
 unfold zdg
 constructor
 ·rintro (h | h | ⟨s,hs,h⟩)
  ·exact .inl (zkh h)
  ·exact .inr (.inl (zkh h))
  ·exact .inr (.inr ⟨s,hs,(zkh h).symm⟩)
 ·rintro (rfl | rfl | ⟨s,hs,rfl⟩)
  ·exact .inl rfl
  ·exact .inr (.inl rfl)
  ·exact .inr (.inr ⟨s,hs,rfl⟩)
theorem zkX {m:Mf} {i:Nat} (hi:i<m.segs.length):zbj m i m.segs[i]=true ↔
  (zbs m.next m.segs[i].seq m.segs[i].fmt=true∧¬ zdg m i (C E m.segs[i].seq))∧(1≤m.segs[i].first∧m.segs[i].first≤1073741820) ∧
  ((m.segs[i].count = -1∧i+1=m.segs.length)∨(1≤m.segs[i].count∧m.segs[i].count≤4))∧(i=0∨∃ p,m.segs[i-1]?=H p∧m.segs[i].first=p.first+p.count):=by
 rw[ztd];unfold zbj inB
 have hp:∃ p,m.segs[i-1]?=H p:=⟨_,List.getElem?_eq_getElem (show i-1<m.segs.length by omega)⟩
 obtain ⟨p,hp⟩:=hp;rw[hp]
 generalize m.segs[i]=s at *
 simp only[Bool.and_eq_true,decide_eq_true_eq,Pa,Bool.or_eq_true]
 constructor
 ·rintro ⟨⟨⟨⟨⟨h1,h2⟩,h3⟩,h4⟩,h5⟩,h6⟩
  refine ⟨⟨h1,?_⟩,h3,?_,?_⟩
  ·rintro (h | h | ⟨t,ht,h⟩)
   ·have:=(zfv h1).1;omega
   ·exact h2 h
   ·exact h4 t ht h
  ·rcases h6 with h | h
   ·exact .inr h
   ·exact .inl h
  ·rcases h5 with h | h
   ·exact .inl h
   ·exact .inr ⟨p,rfl,h⟩
 ·rintro ⟨⟨h1,h2⟩,h3,h4,h5⟩
  refine ⟨⟨⟨⟨⟨h1,fun h=>h2 (.inr (.inl h))⟩,h3⟩,fun t ht h=>h2 (.inr (.inr ⟨t,ht,h⟩))⟩,?_⟩,?_⟩
  ·rcases h5 with h | ⟨p',h,h'⟩
   ·exact .inl h
   ·cases h
    exact .inr h'
  ·rcases h4 with h | h
   ·exact .inr h
   ·exact .inl h
theorem zkV {m:Mf} {i:Nat} (hi:i<m.segs.length) (u:Value):zdg m (i+1) u↔zdg m i u∨u=C E m.segs[i].seq:=by
 unfold zdg;rw[P4 hi];simp only[List.mem_append,List.mem_singleton]
 constructor
 ·rintro (h | h | ⟨s,h | rfl,h'⟩)
  ·exact .inl (.inl h)
  ·exact .inl (.inr (.inl h))
  ·exact .inl (.inr (.inr ⟨s,h,h'⟩))
  ·exact .inr h'
 ·rintro ((h | h | ⟨s,h,h'⟩) | h)
  ·exact .inl h
  ·exact .inr (.inl h)
  ·exact .inr (.inr ⟨s,.inl h,h'⟩)
  ·exact .inr (.inr ⟨_,.inr rfl,h⟩)
attribute [local go_sem] Oper.semAt_some
def zdG (l:List Sg4):List Int:=l.flatMap fun s=>[s.seq,s.fmt,s.first,s.count]
theorem zgl (l:List Sg4):(zdG l).length=4*l.length:=by
 induction l with
 | nil=>rfl
 | cons s l ih=>rw[show zdG (s::l)=s.seq::s.fmt::s.first::s.count::zdG l from rfl];simp[ih];omega
theorem zmx (es:List Sg4) (i:Nat) (h:i<es.length):(zdG es).drop (i*4)=es[i].seq::es[i].fmt::es[i].first::es[i].count::(zdG es).drop (i*4+4):=by
 induction es generalizing i with
 | nil=>simp at h
 | cons e es ih =>
  rw[show zdG (e::es)=e.seq::e.fmt::e.first::e.count::zdG es from rfl]
  cases i with
  | zero=>rfl
  | succ i =>
   have:=ih i (by simpa using h)
   rw[show (i+1)*4=i*4+1+1+1+1 from by omega]
   simpa using this
theorem zs5 {wo:World} {b H3 n c:Nat} {es:List Sg4} (h:Is wo (F (H ⟨b,H3,G⟩) n c) (zdG es)) (i:Nat) (hi:i<es.length) :
  Is wo (F (H ⟨b,H3+i*4,G⟩) 4 4) [es[i].seq,es[i].fmt,es[i].first,es[i].count]:=by
 have hl:=zgl es;obtain ⟨h0,A,c',e,h1,h2,h3⟩:=h
 cases e
 obtain ⟨b',Jo,e',hc⟩:=h3 (by omega)
 cases e'
 refine ⟨by simp,_,4,rfl,xN _,by simp[maxLen],fun _=>⟨b,H3+i*4,rfl,fun j u hu=>?_⟩⟩
 have hd:=zmx es i hi
 have hj:j<4:=by
  have:=(List.getElem?_eq_some_iff.1 hu).1
  simpa using this
 rw[Nat.add_assoc]
 refine hc (i*4+j) u ?_
 rw[←hu,←List.getElem?_drop,←List.map_drop,hd]
 match j,hj with
 | 0,_=>rfl
 | 1,_=>rfl
 | 2,_=>rfl
 | 3,_=>rfl
theorem znt (wo W0:World) (v:Value) (es:List Sg4) (Ki:Is wo v (zdG es)) (Jc:es.length≤2000000) (bs bn:Nat) (J4:Boxed W0 bs 64 v) (J5:Boxed W0 bn 3 (C E 4)) :
  Seq L 149 #[O (H ⟨bs,0,G⟩),O (H ⟨bn,0,G⟩)]
   (fun (e:Sg4) av _=>∃ b H3,av = #[F (H ⟨b,H3,G⟩) 4 4]∧Is wo (F (H ⟨b,H3,G⟩) 4 4) [e.seq,e.fmt,e.first,e.count]) (fun k o=>(k=bs∧o.ty=H 64)∨(k=bn∧o.ty=H 3)) (fun _ _=>False) es W0:=by
 intro l J Jx hJ Jy hY h0;have hL:=zgl es;obtain ⟨A,c,rfl,h1,h2⟩:=xO Ki
 rw[hL] at *
 refine (callsIn_wd (ro:=none) (n:=9)).1 ?_
 refine callsIn_of_wp Tryz.func149 rfl trivial ?_ rfl
 simp only[Tryz.ntmps149,List.size_toArray,xC,P6,Pb,Nat.reduceSub,Array.replicate_succ,Array.replicate_zero,List.push_toArray,List.append_toArray,xI,List.cons_append];have KQ:=I Ki;clear hL Ki
 gi_wp2
 gi_loopw [4] (fun j W=>∃ (i:Nat),j=C E (i*4:Nat)∧i≤es.length∧Hid (J (es.take i) W)∧Boxed W bs 64 (F A (4*es.length) c)∧Boxed W bn 3 (C E 4)∧W0.heap.size≤W.heap.size) (fun j _=>4*es.length+5-(intOf j).toNat)
 case atStart=>exact ⟨0,rfl,Nat.zero_le _,h0,J4,J5,xN _⟩
 case round =>
  obtain ⟨i,rfl,hk,HJ,b1,b2,KH⟩:=hrel;have c1:=b1.cell;have c2:=b2.cell
  by_cases hlt:i<es.length
  ·have Hl:=KQ.out
   obtain ⟨hx,b,H3,rfl,hc⟩:=Is.at_ Hl (by rw[zgl];omega);clear hc hx;have hp:=zs5 Hl i hlt;have Hp:=I hp
   have Jb:(i*4:Nat)<4*es.length:=by omega
   have Ja:(i*4:Nat)+4≤4*es.length:=by omega
   have KI:es.take (i+1)=es.take i++[es[i]]:=P4 hlt
   have Kr:=I KI
   have KF:es=es.take i++es[i]::es.drop (i+1):=by rw[←List.drop_eq_getElem_cons hlt,List.take_append_drop]
   have KV:=I KF;clear hp KI KF Hl
   have Kj:((i*4:Nat):Int)=(i:Int)*4:=by omega
   obtain ⟨k,Hd⟩:∃ k,i*4=k:=⟨_,rfl⟩;have KR:=I Hd;rw[Hd] at Jb Ja Hp;simp only[Hd];clear Kj Hd
   gi_wp2
   gi_region
   have HF:min (4:Int) ((4*es.length-k:Nat):Int)=4:=by omega
   have Kx:((k:Int)+4).toNat-k=4:=by omega
   have K8:=I HF;have KN:=I Kx;clear HF Kx;have hy:=hY (es.take i) es[i] (es.drop (i+1)) KV.out wr.drew #[F (H ⟨b,H3+k,G⟩) 4 4] (hJ _ _ _ HJ.out (Moves.refl.drew)) KH ⟨b,H3+k,rfl,Hp.out⟩;have Hy:=I hy
   have KW:Boxed wr.drew bs 64 (F (H ⟨b,H3,G⟩) (4*es.length) c):=b1
   have KX:Boxed wr.drew bn 3 (C E 4):=b2
   clear hy hY
   gi_wp2
   rw[K8.out,KN.out]
   refine zbh Hy.out ?_
   rintro e W' ⟨HD,⟨rfl,hj⟩ | ⟨rfl,hj⟩⟩
   ·refine ⟨true,rfl,?_⟩
    have d1:Boxed W' bs 64 (F (H ⟨b,H3,G⟩) (4*es.length) c):=HD.boxed KW (.inl (.inl ⟨rfl,rfl⟩))
    have d2:Boxed W' bn 3 (C E 4):=HD.boxed KX (.inl (.inr ⟨rfl,rfl⟩))
    have e2:=d2.cell
    have Jj:W0.heap.size≤W'.heap.size:=Nat.le_trans KH HD.size
    have K7:=I hj;clear hj HD c1 c2
    gi_wp2
    refine ⟨⟨i+1,?_,by omega,?_,d1,d2,Jj⟩,by simp[intOf];omega⟩
    ·have:=KR.out
     rw[show (i+1)*4=k+4 from by omega];go_num
    ·show J _ _;rw[Kr.out];exact K7.out
   ·refine ⟨false,rfl,?_⟩
    have K7:=I hj;clear hj HD c1 c2
    gi_wp2
    refine bodyPost_ret (results_none rfl _ _ _) rfl ?_
    refine ⟨⟨_,rfl⟩,.inr ⟨es.take (i+1),?_,?_⟩⟩
    ·exact List.take_prefix _ _
    ·rw[Kr.out];exact K7.out
  ·have hC:es.take i=es:=List.take_of_length_le (by omega)
   have Kj:4*es.length≤i*4:=by omega
   have J9:¬ (((i*4:Nat):Int)<((4*es.length:Nat):Int)):=by omega
   obtain ⟨k,Hd⟩:∃ k,i*4=k:=⟨_,rfl⟩;have KL:=I hC
   have JC:k≤4*es.length:=by omega
   rw[Hd] at Kj;simp only[Hd];clear hC J9 Hd
   gi_wp2
   refine bodyPost_end (results_none rfl _ _ _) rfl ?_
   exact ⟨⟨_,rfl⟩,.inl (by have:=HJ.out;rw[KL.out] at this;exact this)⟩
theorem znc (A:Option Addr) (n c:Nat) (w:World):Calls L 80 #[F A n c,C E 4] w fun e w' =>
  e=.returned (.func (.func 149) #[] #[O (H ⟨w.heap.size,0,G⟩),O (H ⟨w.heap.size+1,0,G⟩)]) ∧
  (w.alloc (N #[F A n c] 64)).alloc (N #[C E 4] 3)=w':=by
 go_enter Tryz.func80,Tryz.ntmps80
 go_wp2
 go_ret
 exact ⟨rfl,rfl⟩
end Go.Proofs.YteggfecbjgbndaaGreatDoor
