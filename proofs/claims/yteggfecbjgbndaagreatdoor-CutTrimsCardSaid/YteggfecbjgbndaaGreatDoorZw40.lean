/- Merged -/
import Derived.Test.YteggfecbjgbndaaGreatDoorZw39
set_option linter.all false
set_option maxHeartbeats 8000000
set_option maxRecDepth 100000
open Go.Value renaming slice→E,int→F,bool→J,string→M,pointer→T,agg→U
open Go.IntKind renaming i64→I,u8→V
open Go.Mv renaming zhd→L
open Option renaming none→N,some→R
open Go.Obj renaming cells→O
open Go.Proofs.Tryz renaming prog→Q
open Go.Proofs.YteggfecbjgbndaaGreatDoor.Fs renaming setBox→P0,open_→P1
open Go.RowKit.Below renaming setCell→P2
open Go.Mv.Blk renaming new→P3
open Go.Value renaming slice→P4
open Go.Proofs.YteggfecbjgbndaaGreatDoor.Dk renaming burn→P5,doS→P6,may→P7,syncS→P8
namespace Go.Proofs.YteggfecbjgbndaaGreatDoor
open Go.RowKit Go.Mv Go.Shelf
theorem zlY (tmps:Array Value) (W:World) (b:Nat) (cs:Array Value) (h4:tmps.getD 2 undef=T (R ⟨b,0,N⟩)) (hb:Blk W b 25 cs) (hs:cs.size=5):(results Tryz.f115 tmps).run Q W=.ok (.agg cs) W:=by
 have hl:=hb.load (P:=Q) zc3 rfl (by rw[hs];kernel_rfl)
 have Hz:tmps[2]?.getD undef=T (R ⟨b,0,N⟩):=by simpa using h4
 simp[results,Tryz.results115,Hz,asAddr,hl]
theorem zeX (v:Value) (d:Dk) (w:World) (hD:DkV w v d) (Hw:d.fuse≤9223372036854775807) :
  Calls Q 115 #[v] w fun e w'=>(∃ u,e=.returned u∧DkV w' u d.burn)∧Ext w w':=by
 obtain ⟨vf,vq,rfl,hF,hQ⟩:=hD;obtain ⟨A,c,rfl,_,_⟩:=P1 hF;obtain ⟨B,e2,rfl,_,_⟩:=Qs.open_ hQ;have HF:=L hF;have HQ:=L hQ;clear hF hQ
 by_cases h0:0<d.fuse
 ·have hb:d.burn=⟨d.fs,d.q,d.quota,d.fuse-1,decide (d.fuse-1=0)⟩:=by unfold P5;rw[if_pos h0]
  have hw:IntKind.i64.wrap (d.fuse-1)=d.fuse-1:=by rw[IntKind.wrap_i64];all_goals omega
  have hE:Ext w ((w.alloc (O #[E A d.fs.length c,E B d.q.length e2,F I d.quota,F I (d.fuse-1),J (d.fuse-1==0)] 25)).alloc (O #[E A d.fs.length c,E B d.q.length e2,F I d.quota,F I (d.fuse-1),J (d.fuse-1==0)] 25)):=xA (xA (xR _) _) _
  have H3:=P3 (w.alloc (O #[E A d.fs.length c,E B d.q.length e2,F I d.quota,F I (d.fuse-1),J (d.fuse-1==0)] 25)) 25 #[E A d.fs.length c,E B d.q.length e2,F I d.quota,F I (d.fuse-1),J (d.fuse-1==0)];rw[xS] at H3;have HE:=L hE;have HW:=L H3;rw[hb];clear hE H3 hb
  go_enter Tryz.func115,Tryz.ntmps115
  go_wp2_with fail
  refine bodyPost_ret (zlY _ _ _ _ rfl HW.out rfl) rfl ?_
  refine ⟨⟨_,rfl,⟨_,_,?_,HF.out.ext HE.out,HQ.out.ext HE.out⟩⟩,HE.out⟩
  have e:(d.fuse-1==0)=decide (d.fuse-1=0):=by rw[Bool.eq_iff_iff];simp
  rw[e]
 ·have hb:d.burn=d:=by unfold P5;rw[if_neg h0]
  have hE:Ext w ((w.alloc (O #[E A d.fs.length c,E B d.q.length e2,F I d.quota,F I d.fuse,J d.dead] 25)).alloc (O #[E A d.fs.length c,E B d.q.length e2,F I d.quota,F I d.fuse,J d.dead] 25)):=xA (xA (xR _) _) _
  have H3:=P3 (w.alloc (O #[E A d.fs.length c,E B d.q.length e2,F I d.quota,F I d.fuse,J d.dead] 25)) 25 #[E A d.fs.length c,E B d.q.length e2,F I d.quota,F I d.fuse,J d.dead];rw[xS] at H3;have HE:=L hE;have HW:=L H3;rw[hb];clear hE H3 hb
  go_enter Tryz.func115,Tryz.ntmps115
  go_wp2_with fail
  refine bodyPost_ret (zlY _ _ _ _ rfl HW.out rfl) rfl ?_
  exact ⟨⟨_,rfl,⟨_,_,rfl,HF.out.ext HE.out,HQ.out.ext HE.out⟩⟩,HE.out⟩
theorem Bs.setSl {W:World} {p:Addr} {A:Option Addr} {n c:Nat} {x v:Value} {bs:List UInt8} (hp:W.cell? p=R (E A n c)) (h:Bs W v bs):Bs (W.setCell p x) v bs:=by
 obtain ⟨hl,A',c',rfl,h1,h2,h3⟩:=h
 refine ⟨hl,A',c',rfl,h1,h2,fun hn=>?_⟩
 obtain ⟨b,Hv,rfl,hc⟩:=h3 hn
 refine ⟨b,Hv,rfl,fun j u hu=>?_⟩
 have Kq:=hc j u hu;rw[World.cell?_setCell_other]
 ·exact Kq
 ·intro e
  rw[e,Kq] at hp;rw[List.getElem?_map] at hu;obtain ⟨y,_,rfl⟩:=Option.map_eq_some_iff.1 hu
  cases hp
theorem OwnQ.setSl {W:World} {base b j:Nat} {A:Option Addr} {n c:Nat} {x v:Value} {l:List Oq} (hp:W.cell? ⟨b,j,N⟩=R (E A n c)) (hb:b<base) (h:OwnQ W base v l):OwnQ (W.setCell ⟨b,j,N⟩ x) base v l:=by
 obtain ⟨xs,h1,h2,h3⟩:=h
 refine ⟨xs,h1.kept (zad _ b j x) (.inr (fun e=>by have:=(h1.lt _ e).1;omega)),⟨h2.1,fun k hk=>?_⟩,h3⟩
 obtain ⟨g0,g1,g2,u,g3,g4⟩:=h2.2 k hk
 exact ⟨g0,g1,g2,u,g3,Bs.setSl hp g4⟩
theorem mcR7ba0 {P:Prop} (h:P:=by
 generalize w4.drew=w5 at *
 have e1:S=({ d with q:=d.q++[o] }.burn,0):=by rw[←H5.out];unfold P6;rw[if_neg (by rw[HM.out];decide),if_neg (by rw[Hr.out];decide),if_neg Hs.out,if_neg (fun h=>h.elim HR.out HS.out)]
 subst e1
 have Hy:=L (show Ext w5 (w5.alloc (O #[] 5)) from xA (xR _) _)
 have Ke:=L (zci w5);have Kc:=L (H.out.b.ext Hy.out);obtain ⟨j0,j1,j2,j3⟩:=blk4 (H.out.b1.ext Hy.out)
 have Kf:=L (show w5.heap.size≤(w5.alloc (O #[] 5)).heap.size from Hy.out.size)
 have Kv:=L KA;obtain ⟨iq,KC,K8,K9,Ka⟩:=info_parts zer;clear H5 HM Hr Hs HR HS
 go_wp2_with (first
  | (at_builtin
     refine zaX rfl (.tmp 54) (.tmp 56) rfl w5.heap.size _ [] rfl Ke.out _ o.b rfl Kc.out (by have:=Kv.out;simp;omega) Kf.out ?_
     intro A5 c5 w6 K5 Kk
     simp only[List.length_nil,Nat.zero_add,xI] at K5 ⊢
     have H6:=L (H.out.ext (Kk w5 Hy.out (xN _)));have HZ:=L K5;clear j0 j1 j2 j3 K5 Kk;obtain ⟨g0,g1,g2,g3,g4⟩:=zaa H6.out.b0;rw[Ha.out] at g4;obtain ⟨j0,j1,j2,j3⟩:=blk4 H6.out.b1
     have f3:=H6.out.b1.frozen 3)
  | (at_builtin
     have Hu:Ext (w6.setCell ⟨w.heap.size+1,3,N⟩ (E A5 o.b.length c5)) ((w6.setCell ⟨w.heap.size+1,3,N⟩ (E A5 o.b.length c5)).alloc (O #[F V o.k,M ⟨o.n.toArray⟩,M ⟨o.t.toArray⟩,E A5 o.b.length c5] 98)):=xA (xR _) _
     have Kg:=(H6.out.b0.other (by omega:w.heap.size≠w.heap.size+1) 3 (E A5 o.b.length c5)).ext Hu;have K0:=(H6.out.b2.other (by omega:w.heap.size+1+1≠w.heap.size+1) 3 (E A5 o.b.length c5)).ext Hu;have K1:=(OwnFA.setSl (x:=E A5 o.b.length c5) j3 H6.out.b1 H6.out.fa).ext Hu;have HP:=OwnX.ext zbt (OwnQ.setSl (x:=E A5 o.b.length c5) j3 (by omega) H6.out.oq) Hu;have e':=xT (P2 (p:=⟨w.heap.size+1,3,N⟩) H6.out.e (Nat.le_succ _) (E A5 o.b.length c5)) Hu;have Ko:=HZ.out.kept (zad _ (w.heap.size+1) 3 (E A5 o.b.length c5)) (.inr (H6.out.b1.not_row (by decide) HZ.out).symm)
     have K6:OwnB _ w5.heap.size (E A5 o.b.length c5) o.b:=zab Ko Hu
     have Km:∀ g,(P4 B1 d.q.length e1).ownBlock=R g→∀ y∈[F V o.k,M ⟨o.n.toArray⟩,M ⟨o.t.toArray⟩,E A5 o.b.length c5],zaZ g y:=by
      intro g hg y hy;obtain ⟨_,cs,Ky⟩:=zaS HP hg;simp only[List.mem_cons,List.not_mem_nil,or_false] at hy
      rcases hy with rfl | rfl | rfl | rfl
      ·exact zc2 _ _ _
      ·exact zaB _ o.n
      ·exact zaB _ o.t
      ·exact OwnB.awayT K6 Ky (by decide)
     refine zcx zbt rfl (.tmp 60) (.tmp 62) 23 rfl 98 iq _ 64 Tryz.underlying23 KC K8 K9 Ka rfl (by decide) (by decide) (w.heap.size+1+1+1) _ d.q rfl HP _ [o] [F V o.k,M ⟨o.n.toArray⟩,M ⟨o.t.toArray⟩,E A5 o.b.length c5] rfl (zda (w6.setCell ⟨w.heap.size+1,3,N⟩ (E A5 o.b.length c5)) [F V o.k,M ⟨o.n.toArray⟩,M ⟨o.t.toArray⟩,E A5 o.b.length c5] 98 4 rfl (by simp only[World.size_setCell])) (zdO (o:=o) (xW K6)) (by simp) Km (by have:=HT.out;simp;omega) (by have:=K0.lt;omega) ?_
     intro A7 c7 w9 HV Kl HU
     have HL:d.q.length+[o].length=(d.q++[o]).length:=by simp
     rw[HL] at HV ⊢
     obtain ⟨q7,K7⟩:∃ q7,d.q++[o]=q7:=⟨_,rfl⟩
     rw[K7] at HV ⊢
     have Kw:=L K7
     have K4:∀ b,b<w.heap.size+1+1+1→some b≠(P4 B1 d.q.length e1).ownBlock:=fun b hb e=>by have:=(zaS HP e.symm).1;omega
     have b0:=Kg.kept HU (K4 _ (by omega));have b2:=K0.kept HU (K4 _ (by omega))
     have Kn:OwnF w9 w.heap.size (E A1 d.fs.length c1) d.fs:=OwnFA.grown K1 HU (by
      cases hf:(P4 A1 d.fs.length c1).ownBlock with
      | none=>exact .inl rfl
      | some g =>
       refine .inr fun e=>?_
       obtain ⟨_,cs,h1⟩:=zaS HP e.symm;obtain ⟨_,KI,h2⟩:=zaS K1.f hf;rw[h1] at h2
       cases h2)
     have Kj:Ext w w9:=Kl w e' (by omega)
     have c0:Blk _ w.heap.size 25 (zan A1 d.fs.length c1 A7 q7.length c7 d.quota d.fuse d.dead):=Blk.set (b:=w.heap.size) b0 1 (E A7 q7.length c7)
     have B2:=L (b2.other (by omega:w.heap.size+1+1≠w.heap.size) 1 (E A7 q7.length c7));have OF:=L (OwnF.setD (j:=1) (u:=E A7 q7.length c7) Kn (by decide) b0 zay)
     have OQ:=L (OwnQ.setD (j:=1) (u:=E A7 q7.length c7) (OwnX.base HV (show w.heap.size≤_ by omega)) (by decide) b0 zay)
     have OE:=L (P2 (p:=⟨w.heap.size,1,N⟩) Kj (xN _) (E A7 q7.length c7));clear g0 g1 g2 g3 g4;obtain ⟨g0,g1,g2,g3,g4⟩:=zaa b0;obtain ⟨f0,f1,f2,Kx,f4⟩:=zam b0;obtain ⟨d0,d1,d2,d3,d4⟩:=zaa c0;rw[Ha.out] at g4 d4
     have key:=zeX (U #[E A1 d.fs.length c1,E A7 q7.length c7,F I d.quota,F I d.fuse,J false]) { d with q:=q7 } _ ⟨_,_,by rw[Ha.out],OwnF.fs OF.out,OwnQ.qs OQ.out⟩ HY.out
     have KB:=L key
     clear key K7 Hu Kg K0 K1 HP e' Ko K6 Km HV Kl HU HL K4 b0 b2 Kn Kj c0 j0 j1 j2 j3 f3 H6 HZ H Hy Ke Kc Kf))
 refine KB.out.mono ?_
 rintro e KH ⟨⟨u,rfl,HK⟩,He⟩;obtain ⟨D,Ht⟩:∃ D,P5 { d with q:=q7 }=D:=⟨_,rfl⟩;rw[Ht] at HK;have HX:=L Ht;obtain ⟨KE,KF,rfl,Ho,Hp⟩:=HK;obtain ⟨Af,cf,rfl,_,_⟩:=P1 Ho;obtain ⟨Aq,cq,rfl,_,_⟩:=Qs.open_ Hp;have H3:=B2.out.ext He;have H8:=P0 H3 Ho (E Af D.fs.length cf) (E Aq D.q.length cq) (F I D.quota) (F I D.fuse) (J D.dead);have H9:=Qs.setBox H3 Hp (E Af D.fs.length cf) (E Aq D.q.length cq) (F I D.quota) (F I D.fuse) (J D.dead);have Hf:=L (zal H3 (E Af D.fs.length cf) (E Aq D.q.length cq) (F I D.quota) (F I D.fuse) (J D.dead));have Hg:=L (zae (xT OE.out He) (by omega:w.heap.size≤w.heap.size+1+1) (E Af D.fs.length cf) (E Aq D.q.length cq) (F I D.quota) (F I D.fuse) (J D.dead));have Hh:=L H8;have Hi:=L H9;clear g0 g1 g2 g3 g4 f0 f1 f2 Kx f4 d0 d1 d2 d3 d4;obtain ⟨x0,x1,x2,x3,x4⟩:=zaa H3;obtain ⟨y0,y1,y2,y3,y4⟩:=zam H3;clear H3 H8 H9 Ho Hp He Ht KB OE OF OQ B2;go_wp2_with fail
 refine bodyPost_ret (zcS _ _ _ _ _ rfl rfl Hf.out rfl) rfl ?_
 rw[Kw.out]
 show (∃ u,_=Ending.returned (.tuple #[u,F I 0])∧DkV _ u (P5 { d with q:=q7 }))∧_
 rw[HX.out]
 exact ⟨⟨_,rfl,⟨_,_,rfl,Hh.out,Hi.out⟩⟩,Hg.out⟩):P:=h
theorem mcR7ba1 {P:Prop} (h:P:=by
 have H3:=H.out.b2;have H8:=P0 H3 H.out.f (E A1 d.fs.length c1) (E B1 d.q.length e1) (F I d.quota) (F I d.fuse) (J false);have H9:=Qs.setBox H3 H.out.q (E A1 d.fs.length c1) (E B1 d.q.length e1) (F I d.quota) (F I d.fuse) (J false);have Hf:=L (zal H3 (E A1 d.fs.length c1) (E B1 d.q.length e1) (F I d.quota) (F I d.fuse) (J false));have Hg:=L (zae H.out.e (by omega:w.heap.size≤w.heap.size+1+1) (E A1 d.fs.length c1) (E B1 d.q.length e1) (F I d.quota) (F I d.fuse) (J false));have Hh:=L H8;have Hi:=L H9;obtain ⟨x0,x1,x2,x3,x4⟩:=zaa H3;obtain ⟨y0,y1,y2,y3,y4⟩:=zam H3;clear H3 H8 H9;go_wp2_with fail
 refine bodyPost_ret (zcS _ _ _ _ _ rfl rfl Hf.out rfl) rfl ?_
 exact ⟨⟨_,rfl,⟨_,_,by rw[Ha.out],Hh.out,Hi.out⟩⟩,Hg.out⟩):P:=h
theorem Qs.setBox {W:World} {b:Nat} {t:TypeId} {A:Option Addr} {n c:Nat} {B:Option Addr} {m e:Nat} {q f:Int} {d:Bool} (hb:Blk W b t (zan A n c B m e q f d)) {v:Value} {l:List Oq} (h:Qs W v l) (a' v' u' x' y':Value):Qs (zaR W b a' v' u' x' y') v l:=by
 obtain ⟨xs,h1,h2⟩:=h
 refine ⟨xs,?_,h2.1,fun k hk=>?_⟩
 ·obtain ⟨hl,A',c',rfl,HI,HJ,hc⟩:=h1
  refine ⟨hl,A',c',rfl,HI,HJ,fun h0=>?_⟩
  obtain ⟨b',Hv,rfl,H4⟩:=hc h0
  refine ⟨b',Hv,rfl,fun j u hu=>ze0 (H4 j u hu) ?_ _ _ _ _ _⟩
  rintro rfl
  have hn:xs[0*4+1]?=R (sv l[0].n):=(h2.2 0 h0).2.1
  rcases zgC (zgz hb (H4 1 _ hn)) with ⟨x,hx⟩ | ⟨_,_,_,hx⟩ | ⟨_,hx⟩ <;> cases hx
 ·obtain ⟨g0,g1,g2,u,g3,g4⟩:=h2.2 k hk
  refine ⟨g0,g1,g2,u,g3,?_⟩
  obtain ⟨hl,A',c',rfl,HI,HJ,hc⟩:=g4
  refine ⟨hl,A',c',rfl,HI,HJ,fun h0=>?_⟩
  obtain ⟨b',Hv,rfl,H4⟩:=hc h0
  refine ⟨b',Hv,rfl,fun j u hu=>ze0 (H4 j u hu) ?_ _ _ _ _ _⟩
  rintro rfl
  rcases zgC (zgz hb (H4 0 _ (by rw[List.getElem?_map,List.getElem?_eq_getElem h0];rfl))) with ⟨x,hx⟩ | ⟨_,_,_,hx⟩ | ⟨_,hx⟩ <;> cases hx
theorem zcS (tmps:Array Value) (W:World) (b:Nat) (cs:Array Value) (e:Value) (h4:tmps.getD 4 undef=T (R ⟨b,0,N⟩)) (h3:tmps.getD 5 undef=e) (hb:Blk W b 25 cs) (hs:cs.size=5):(results Tryz.f55 tmps).run Q W=.ok (.tuple #[.agg cs,e]) W:=by
 have Hz:tmps[4]?.getD undef=T (R ⟨b,0,N⟩):=by simpa using h4
 have K2:tmps[5]?.getD undef=e:=by simpa using h3
 have hl:=hb.load (P:=Q) zc3 rfl (by rw[hs];kernel_rfl)
 simp[results,Tryz.results55,Hz,K2,asAddr,hl,Sem.run_bind,Sem.run_pure,Result.andThen_ok]
structure Do4 (w W:World) (A1:Option Addr) (c1:Nat) (B1:Option Addr) (e1:Nat) (d:Dk) (ocs:Array Value) (vb:Value) (o:Oq):Prop where
 b0:Blk W w.heap.size 25 (zan A1 d.fs.length c1 B1 d.q.length e1 d.quota d.fuse d.dead)
 b1:Blk W (w.heap.size+1) 98 ocs
 b2:Blk W (w.heap.size+1+1) 25 (zan none 0 0 none 0 0 0 0 false)
 fa:OwnFA W w.heap.size (E A1 d.fs.length c1) d.fs (fun g=>(P4 B1 d.q.length e1).ownBlock=R g)
 oq:OwnQ W (w.heap.size+1+1+1) (E B1 d.q.length e1) d.q
 b:Bs W vb o.b
 e:Ext w W
theorem Do4.ext {w W W':World} {A1:Option Addr} {c1:Nat} {B1:Option Addr} {e1:Nat} {d:Dk} {ocs:Array Value} {vb:Value} {o:Oq} (h:Do4 w W A1 c1 B1 e1 d ocs vb o) (hE:Ext W W'):Do4 w W' A1 c1 B1 e1 d ocs vb o :=
 ⟨h.b0.ext hE,h.b1.ext hE,h.b2.ext hE,h.fa.ext hE,OwnX.ext zbt h.oq hE,h.b.ext hE,xT h.e hE⟩
theorem Do4.f {w W:World} {A1:Option Addr} {c1:Nat} {B1:Option Addr} {e1:Nat} {d:Dk} {ocs:Array Value} {vb:Value} {o:Oq} (h:Do4 w W A1 c1 B1 e1 d ocs vb o):Fs W (E A1 d.fs.length c1) d.fs:=OwnF.fs h.fa.f
theorem Do4.q {w W:World} {A1:Option Addr} {c1:Nat} {B1:Option Addr} {e1:Nat} {d:Dk} {ocs:Array Value} {vb:Value} {o:Oq} (h:Do4 w W A1 c1 B1 e1 d ocs vb o):Qs W (E B1 d.q.length e1) d.q:=OwnQ.qs h.oq
theorem OwnFA.setSl {W:World} {base b j:Nat} {A:Option Addr} {n c:Nat} {x v:Value} {l:List Fil} {G:Nat→Prop} {cs:Array Value} (hp:W.cell? ⟨b,j,N⟩=R (E A n c)) (hB:Blk W b 98 cs) (h:OwnFA W base v l G):OwnFA (W.setCell ⟨b,j,N⟩ x) base v l G:=by
 obtain ⟨xs,h1,h2,h3,h4⟩:=h
 refine ⟨xs,zb3 hB (by decide) h1 x,⟨h2.1,fun k hk=>?_⟩,h3,h4⟩
 obtain ⟨g0,u,g1,g2⟩:=h2.2 k hk
 exact ⟨g0,u,g1,Bs.setSl hp g2⟩
theorem zgw (v:Value) (d:Dk) (o:Oq) (vo:Value) (w:World) (hD:DkV w v d) (hB:Bs w vo o.b) (hl:d.fs.length+d.q.length≤800000) (hb:tot d.fs+zaW d.q≤800000) (KA:o.b.length≤100000) (Hw:d.fuse≤9223372036854775807) :
  Calls Q 55 #[v,U #[F V o.k,sv o.n,sv o.t,vo]] w fun e w'=>(∃ u,e=.returned (.tuple #[u,F I (d.doS o).2])∧DkV w' u (d.doS o).1)∧Ext w w':=by
 obtain ⟨vf,vq,rfl,hF,hQ⟩:=hD;obtain ⟨A,c,rfl,_,_⟩:=P1 hF;obtain ⟨B,e2,rfl,_,_⟩:=Qs.open_ hQ;obtain ⟨C,c2,rfl,_,_⟩:=xO hB;unfold sv;obtain ⟨W0,Hl⟩:∃ W0,((w.alloc (O #[E A d.fs.length c,E B d.q.length e2,F I d.quota,F I d.fuse,J d.dead] 25)).alloc (O #[F V o.k,M ⟨o.n.toArray⟩,M ⟨o.t.toArray⟩,E C o.b.length c2] 98)).alloc (O #[E none 0 0,E none 0 0,F I 0,F I 0,J false] 25)=W0:=⟨_,rfl⟩
 have Hn:Ext w W0:=by rw[←Hl];exact xA (xA (xA (xR _) _) _) _
 have h0:Blk W0 w.heap.size 25 (zan A d.fs.length c B d.q.length e2 d.quota d.fuse d.dead):=by rw[←Hl];exact ((P3 w _ _).alloc _).alloc _
 have h1:Blk W0 (w.heap.size+1) 98 #[F V o.k,M ⟨o.n.toArray⟩,M ⟨o.t.toArray⟩,E C o.b.length c2]:=by
  rw[←Hl]
  have:=(P3 (w.alloc (O #[E A d.fs.length c,E B d.q.length e2,F I d.quota,F I d.fuse,J d.dead] 25)) 98 #[F V o.k,M ⟨o.n.toArray⟩,M ⟨o.t.toArray⟩,E C o.b.length c2]).alloc (O #[E none 0 0,E none 0 0,F I 0,F I 0,J false] 25)
  rwa [xS] at this
 have h2:Blk W0 (w.heap.size+1+1) 25 (zan none 0 0 none 0 0 0 0 false):=by
  rw[←Hl]
  have:=P3 ((w.alloc (O #[E A d.fs.length c,E B d.q.length e2,F I d.quota,F I d.fuse,J d.dead] 25)).alloc (O #[F V o.k,M ⟨o.n.toArray⟩,M ⟨o.t.toArray⟩,E C o.b.length c2] 98)) 25 #[E none 0 0,E none 0 0,F I 0,F I 0,J false]
  rwa [xS,xS] at this
 have Kr:W0.heap.size=w.heap.size+1+1+1:=by rw[←Hl,xS,xS,xS]
 have Kz:=zfg d;have KD:=zj1 d;have key:=zkx (U #[E A d.fs.length c,E B d.q.length e2,F I d.quota,F I d.fuse,J d.dead]) d W0 ⟨_,_,rfl,hF.ext Hn,hQ.ext Hn⟩ (by omega) (by omega);rw[Kr] at key;have Hc:=L key;have HB:=L (hB.ext Hn);have Hx:=L Hn;have H0:=L h0;have H1:=L h1;have H2:=L h2;have HY:=L Hw;obtain ⟨S,hS⟩:∃ S,d.doS o=S:=⟨_,rfl⟩;have H5:=L hS;rw[hS];obtain ⟨g0,g1,g2,g3,g4⟩:=zaa h0;clear hS key h0 h1 h2 hF hQ Hn hB Hw Kr
 go_enter Tryz.func55,Tryz.ntmps55
 go_wp2_with fail;clear Hl
 refine Hc.out.mono ?_
 rintro e w1 ⟨u,rfl,⟨A1,c1,B1,e1,rfl,HN,HO⟩,Hk⟩;have H7:=H0.out.ext Hk
 have H:Hid (Do4 w (zaR w1 w.heap.size (E A1 d.fs.length c1) (E B1 d.q.length e1) (F I d.quota) (F I d.fuse) (J d.dead)) A1 c1 B1 e1 d #[F V o.k,M ⟨o.n.toArray⟩,M ⟨o.t.toArray⟩,E C o.b.length c2] (E C o.b.length c2) o):=by
  have HG:=H1.out.ext Hk;have HH:=H2.out.ext Hk
  refine ⟨zal H7 _ _ _ _ _,((((HG.other (by omega) 0 _).other (by omega) 1 _).other (by omega) 2 _).other (by omega) 3 _).other (by omega) 4 _,((((HH.other (by omega) 0 _).other (by omega) 1 _).other (by omega) 2 _).other (by omega) 3 _).other (by omega) 4 _,OwnFA.box1 (OwnFA.base HN (by omega)) H7,OwnQ.box1 HO H7,zoe (HB.out.ext Hk) H7,zae (xT Hx.out Hk) (xN w.heap.size) _ _ _ _ _⟩
 have key:=zjs _ d _ (show DkV (zaR w1 w.heap.size (E A1 d.fs.length c1) (E B1 d.q.length e1) (F I d.quota) (F I d.fuse) (J d.dead)) (U #[E A1 d.fs.length c1,E B1 d.q.length e1,F I d.quota,F I d.fuse,J d.dead]) d from ⟨_,_,rfl,H.out.f,H.out.q⟩) (by omega) (by omega) (by omega)
 have Hj:=L key;obtain ⟨f0,f1,f2,f3,f4⟩:=zam H7;clear g0 g1 g2 g3 g4;obtain ⟨g0,g1,g2,g3,g4⟩:=zaa H7;clear key HN HO H7 Hk Hc H0 H1 H2 Hx HB;go_wp2_with fail
 refine Hj.out.mono ?_
 rintro e w2 ⟨rfl,HA⟩
 replace H:=L (H.out.ext HA)
 clear g0 g1 g2 g3 g4 f0 f1 f2 f3 f4 HA Hj;obtain ⟨g0,g1,g2,g3,g4⟩:=zaa H.out.b0
 rcases hr:d.right with _ | _
 case false =>
  have e1:S=(d,2):=by rw[←H5.out,zjG (m:=2) (by unfold P7;rw[hr];rfl) (by decide)]
  subst e1;clear H5;have H3:=H.out.b2;have H8:=P0 H3 H.out.f (E A1 d.fs.length c1) (E B1 d.q.length e1) (F I d.quota) (F I d.fuse) (J d.dead);have H9:=Qs.setBox H3 H.out.q (E A1 d.fs.length c1) (E B1 d.q.length e1) (F I d.quota) (F I d.fuse) (J d.dead);have Hf:=L (zal H3 (E A1 d.fs.length c1) (E B1 d.q.length e1) (F I d.quota) (F I d.fuse) (J d.dead));have Hg:=L (zae H.out.e (by omega:w.heap.size≤w.heap.size+1+1) (E A1 d.fs.length c1) (E B1 d.q.length e1) (F I d.quota) (F I d.fuse) (J d.dead));have Hh:=L H8;have Hi:=L H9;obtain ⟨x0,x1,x2,x3,x4⟩:=zaa H3;obtain ⟨y0,y1,y2,y3,y4⟩:=zam H3;clear H3 H8 H9;go_wp2_with fail
  refine bodyPost_ret (zcS _ _ _ _ _ rfl rfl Hf.out rfl) rfl ?_
  exact ⟨⟨_,rfl,⟨_,_,rfl,Hh.out,Hi.out⟩⟩,Hg.out⟩
 rcases hdd:d.dead with _ | _
 case true =>
  have e1:S=(d,40):=by rw[←H5.out,zjG (m:=40) (by unfold P7;rw[hr,hdd];rfl) (by decide)]
  subst e1;clear H5 hr;rw[hdd] at g4;have Ha:=L hdd;clear hdd;have H3:=H.out.b2;have H8:=P0 H3 H.out.f (E A1 d.fs.length c1) (E B1 d.q.length e1) (F I d.quota) (F I d.fuse) (J true);have H9:=Qs.setBox H3 H.out.q (E A1 d.fs.length c1) (E B1 d.q.length e1) (F I d.quota) (F I d.fuse) (J true);have Hf:=L (zal H3 (E A1 d.fs.length c1) (E B1 d.q.length e1) (F I d.quota) (F I d.fuse) (J true));have Hg:=L (zae H.out.e (by omega:w.heap.size≤w.heap.size+1+1) (E A1 d.fs.length c1) (E B1 d.q.length e1) (F I d.quota) (F I d.fuse) (J true));have Hh:=L H8;have Hi:=L H9;obtain ⟨x0,x1,x2,x3,x4⟩:=zaa H3;obtain ⟨y0,y1,y2,y3,y4⟩:=zam H3;clear H3 H8 H9;go_wp2_with fail
  refine bodyPost_ret (zcS _ _ _ _ _ rfl rfl Hf.out rfl) rfl ?_
  exact ⟨⟨_,rfl,⟨_,_,by rw[Ha.out],Hh.out,Hi.out⟩⟩,Hg.out⟩
 rw[hdd] at g4
 have HM:=L (show d.may=0 by unfold P7;rw[hr,hdd];rfl)
 have Ha:=L hdd
 have HT:=L (show d.q.length≤400 from ((zrB d).1 hr).l)
 clear hr hdd;obtain ⟨j0,j1,j2,j3⟩:=blk4 H.out.b1;have key:=zkG o _ w2 H.out.b;unfold sv at key;have Hc:=L key;clear key;go_wp2_with fail
 refine Hc.out.mono ?_
 rintro e w3 ⟨rfl,Kh⟩
 replace H:=L (H.out.ext Kh)
 clear Hc Kh g0 g1 g2 g3 g4 j0 j1 j2 j3;obtain ⟨g0,g1,g2,g3,g4⟩:=zaa H.out.b0;obtain ⟨j0,j1,j2,j3⟩:=blk4 H.out.b1;rw[Ha.out] at g4
 rcases hfi:zbo o with _ | _
 case false =>
  have e1:S=(d,2):=by rw[←H5.out];unfold P6;rw[if_neg (by rw[HM.out];decide),if_pos hfi]
  subst e1;clear H5 hfi
  exact mcR7ba1
 have Hr:=L hfi;clear hfi
 have key:=zfk _ d w3 (show DkV w3 (U #[E A1 d.fs.length c1,E B1 d.q.length e1,F I d.quota,F I d.fuse,J false]) d from ⟨_,_,by rw[Ha.out],H.out.f,H.out.q⟩) (by omega) (by omega)
 have Hc:=L key;clear key;go_wp2_with fail
 refine Hc.out.mono ?_
 rintro e w4 ⟨⟨vl,rfl,Hq⟩,HD⟩;obtain ⟨AL,cL,rfl,_,_⟩:=P1 Hq;have Kd:=L Hq
 replace H:=L (H.out.ext HD)
 clear Hc HD Hq g0 g1 g2 g3 g4 j0 j1 j2 j3;obtain ⟨g0,g1,g2,g3,g4⟩:=zaa H.out.b0;obtain ⟨j0,j1,j2,j3⟩:=blk4 H.out.b1;rw[Ha.out] at g4
 by_cases hk1:o.k=1
 ·have Hd:(o.k != 1)=false:=by simpa using hk1
  have Hb:(o.k==2)=false:=by rw[hk1];rfl
  have Hs:=L (show ¬ (zaj o.n d.now=none∧o.k≠1) from fun h=>h.2 hk1)
  have HR:=L (show ¬ (o.k=2∧d.quota<(tot d.now:Int)+(o.b.length:Int)) from fun h=>by rw[hk1] at h;exact absurd h.1 (by decide))
  clear hk1;go_wp2_with fail
  refine wp_region_held_drew (S:=fun W=>W.cell? ⟨w.heap.size+1,0,N⟩=R (F V o.k)∧W.cell? ⟨w.heap.size,1,N⟩=R (E B1 d.q.length e1)) (by kernel_rfl) ⟨j0,g1⟩ (fun _=>?_)
  by_cases hq4:d.q.length=400
  ·have Hm:(400:Int)≤(d.q.length:Int):=by omega
   have e1:S=(d,41):=by rw[←H5.out];unfold P6;rw[if_neg (by rw[HM.out];decide),if_neg (by rw[Hr.out];decide),if_neg Hs.out,if_pos (.inr hq4)]
   subst e1;clear H5 hq4;refine tkN 0 ?_;refine tkN 1 ?_;refine tkN 2 ?_;refine tkN 3 ?_;refine tkS 4 ?_;refine tkS 5 ?_;refine tkS 6 ?_;refine tkS 7 ?_;refine tkS 8 ?_;refine tkS 9 ?_;refine tkS 10 ?_;refine tkS 11 ?_;refine tkS 12 ?_;refine tkN 13 ?_;refine tkN 14 ?_;refine tkN 15 ?_;refine tkN 16 ?_;refine tkN 17 ?_;refine tkN 18 ?_;refine tkN 19 ?_;refine wdD ?_
   replace H:=L (H.out.ext (xD (xR _)))
   clear g0 g1 g2 g3 g4 j0 j1 j2 j3 Hm Hd Hb
   generalize w4.drew=w5 at *
   obtain ⟨g0,g1,g2,g3,g4⟩:=zaa H.out.b0;rw[Ha.out] at g4
   exact mcR7ba1
  ·have Hm:¬ (400:Int)≤(d.q.length:Int):=by have:=HT.out;omega
   have HS:=L hq4;clear hq4;refine tkN 0 ?_;refine tkN 1 ?_;refine tkN 2 ?_;refine tkN 3 ?_;refine tkS 4 ?_;refine tkS 5 ?_;refine tkS 6 ?_;refine tkS 7 ?_;refine tkS 8 ?_;refine tkS 9 ?_;refine tkS 10 ?_;refine tkS 11 ?_;refine tkS 12 ?_;refine tkN 13 ?_;refine tkN 14 ?_;refine tkN 15 ?_;refine tkN 16 ?_;refine tkN 17 ?_;refine tkN 18 ?_;refine tkN 19 ?_;refine wdD ?_
   replace H:=L (H.out.ext (xD (xR _)))
   clear g0 g1 g2 g3 g4 j0 j1 j2 j3 Hm Hd Hb
   exact mcR7ba0
 ·have Hd:(o.k != 1)=true:=by simpa using hk1
  have key:=zfV _ d.now o.n w4 Kd.out (by omega);unfold sv at key;have Hc:=L key;have Ks:=L hk1;clear key hk1;go_wp2_with fail
  refine Hc.out.mono ?_
  rintro e _ ⟨rfl,rfl⟩;clear Hc
  rcases znN o.n d.now with ⟨hp,hg⟩ | ⟨kp,hkp,hp,hnm,hg⟩
  ·rw[hp]
   have e1:S=(d,42):=by rw[←H5.out];unfold P6;rw[if_neg (by rw[HM.out];decide),if_neg (by rw[Hr.out];decide),if_pos ⟨hg,Ks.out⟩]
   subst e1;clear H5 hp hg
   exact mcR7ba1
  ·rw[hp]
   have KJ:¬ (kp:Int)<0:=by omega
   have Hs:=L (show ¬ (zaj o.n d.now=none∧o.k≠1) from fun h=>by rw[hg] at h;cases h.1)
   clear hp hg hnm hkp
   by_cases hk2:o.k=2
   ·have Hb:(o.k==2)=true:=by simpa using hk2
    have Kt:=L hk2;clear hk2;go_wp2_with fail
    have Kb:IntKind.i64.wrap ((tot d.now:Int)+(o.b.length:Int))=(tot d.now:Int)+(o.b.length:Int):=by rw[IntKind.wrap_i64];all_goals omega
    refine wp_region_held_drew (S:=fun W=>W.cell? ⟨w.heap.size+1,0,N⟩=R (F V o.k)∧W.cell? ⟨w.heap.size,1,N⟩=R (E B1 d.q.length e1)∧W.cell? ⟨w.heap.size+1,3,N⟩=R (E C o.b.length c2)∧W.cell? ⟨w.heap.size,2,N⟩=R (F I d.quota)) (by kernel_rfl) ⟨j0,g1,j3,g2⟩ (fun _=>?_)
    refine tkN 0 ?_;refine tkN 1 ?_;refine tkN 2 ?_;refine tkN 3 ?_;refine tkN 4 ?_;refine tkN 6 ?_;refine tkN 7 ?_;refine tkN 8 ?_;refine tkN 10 ?_;refine tkN 11 ?_
    refine ar1 5 (fun K hK=>?_)
    go_simp
    refine (zkZ _ d.now _ (Kd.out.ext (xD (xR _))) (by omega) (by omega)).mono ?_
    rintro e _ ⟨rfl,rfl⟩
    refine shK hK _ _ ⟨j0,g1,j3,g2⟩ (fun _=>?_)
    by_cases hfull:d.quota<(tot d.now:Int)+(o.b.length:Int)
    ·have e1:S=(d,41):=by rw[←H5.out];unfold P6;rw[if_neg (by rw[HM.out];decide),if_neg (by rw[Hr.out];decide),if_neg Hs.out,if_pos (.inl ⟨Kt.out,hfull⟩)]
     subst e1;clear H5;refine tkN 9 ?_;refine tkN 12 ?_;refine tkN 13 ?_;refine tkN 14 ?_;refine tkS 15 ?_;refine tkS 16 ?_;refine tkS 17 ?_;refine tkS 18 ?_;refine tkN 19 ?_;refine wdD ?_
     replace H:=L (H.out.ext (xD (xR _)))
     clear g0 g1 g2 g3 g4 j0 j1 j2 j3 Hd Hb Kb hfull
     generalize w4.drew=w5 at *
     obtain ⟨g0,g1,g2,g3,g4⟩:=zaa H.out.b0;rw[Ha.out] at g4
     exact mcR7ba1
    ·have HR:=L (show ¬ (o.k=2∧d.quota<(tot d.now:Int)+(o.b.length:Int)) from fun h=>hfull h.2)
     by_cases hq4:d.q.length=400
     ·have Hm:(400:Int)≤(d.q.length:Int):=by omega
      have e1:S=(d,41):=by rw[←H5.out];unfold P6;rw[if_neg (by rw[HM.out];decide),if_neg (by rw[Hr.out];decide),if_neg Hs.out,if_pos (.inr hq4)]
      subst e1;clear H5 hq4;refine tkN 9 ?_;refine tkN 12 ?_;refine tkN 13 ?_;refine tkN 14 ?_;refine tkN 15 ?_;refine tkN 16 ?_;refine tkN 17 ?_;refine tkN 18 ?_;refine tkN 19 ?_;refine wdD ?_
      replace H:=L (H.out.ext (xD (xR _)))
      clear g0 g1 g2 g3 g4 j0 j1 j2 j3 Hd Hb Kb hfull Hm
      generalize w4.drew=w5 at *
      obtain ⟨g0,g1,g2,g3,g4⟩:=zaa H.out.b0;rw[Ha.out] at g4
      exact mcR7ba1
     ·have Hm:¬ (400:Int)≤(d.q.length:Int):=by have:=HT.out;omega
      have HS:=L hq4;clear hq4;refine tkN 9 ?_;refine tkN 12 ?_;refine tkN 13 ?_;refine tkN 14 ?_;refine tkN 15 ?_;refine tkN 16 ?_;refine tkN 17 ?_;refine tkN 18 ?_;refine tkN 19 ?_;refine wdD ?_
      replace H:=L (H.out.ext (xD (xR _)))
      clear g0 g1 g2 g3 g4 j0 j1 j2 j3 Hd Hb Kb hfull Hm
      exact mcR7ba0
   ·have Hb:(o.k==2)=false:=by simpa using hk2
    have HR:=L (show ¬ (o.k=2∧d.quota<(tot d.now:Int)+(o.b.length:Int)) from fun h=>hk2 h.1)
    clear hk2;go_wp2_with fail
    refine wp_region_held_drew (S:=fun W=>W.cell? ⟨w.heap.size+1,0,N⟩=R (F V o.k)∧W.cell? ⟨w.heap.size,1,N⟩=R (E B1 d.q.length e1)) (by kernel_rfl) ⟨j0,g1⟩ (fun _=>?_)
    by_cases hq4:d.q.length=400
    ·have Hm:(400:Int)≤(d.q.length:Int):=by omega
     have e1:S=(d,41):=by rw[←H5.out];unfold P6;rw[if_neg (by rw[HM.out];decide),if_neg (by rw[Hr.out];decide),if_neg Hs.out,if_pos (.inr hq4)]
     subst e1;clear H5 hq4;refine tkN 0 ?_;refine tkN 1 ?_;refine tkN 2 ?_;refine tkN 3 ?_;refine tkS 4 ?_;refine tkS 5 ?_;refine tkS 6 ?_;refine tkS 7 ?_;refine tkS 8 ?_;refine tkS 9 ?_;refine tkS 10 ?_;refine tkS 11 ?_;refine tkS 12 ?_;refine tkN 13 ?_;refine tkN 14 ?_;refine tkN 15 ?_;refine tkN 16 ?_;refine tkN 17 ?_;refine tkN 18 ?_;refine tkN 19 ?_;refine wdD ?_
     replace H:=L (H.out.ext (xD (xR _)))
     clear g0 g1 g2 g3 g4 j0 j1 j2 j3 Hm Hd Hb
     generalize w4.drew=w5 at *
     obtain ⟨g0,g1,g2,g3,g4⟩:=zaa H.out.b0;rw[Ha.out] at g4
     exact mcR7ba1
    ·have Hm:¬ (400:Int)≤(d.q.length:Int):=by have:=HT.out;omega
     have HS:=L hq4;clear hq4;refine tkN 0 ?_;refine tkN 1 ?_;refine tkN 2 ?_;refine tkN 3 ?_;refine tkS 4 ?_;refine tkS 5 ?_;refine tkS 6 ?_;refine tkS 7 ?_;refine tkS 8 ?_;refine tkS 9 ?_;refine tkS 10 ?_;refine tkS 11 ?_;refine tkS 12 ?_;refine tkN 13 ?_;refine tkN 14 ?_;refine tkN 15 ?_;refine tkN 16 ?_;refine tkN 17 ?_;refine tkN 18 ?_;refine tkN 19 ?_;refine wdD ?_
     replace H:=L (H.out.ext (xD (xR _)))
     clear g0 g1 g2 g3 g4 j0 j1 j2 j3 Hm Hd Hb
     exact mcR7ba0
theorem Fs.setBox1 {W:World} {b k:Nat} {t:TypeId} {A:Option Addr} {n c:Nat} {B:Option Addr} {m e:Nat} {q f:Int} {d:Bool} (hb:Blk W b t (zan A n c B m e q f d)) {v:Value} {fs:List Fil} (h:Fs W v fs) (x:Value):Fs (W.setCell ⟨b,k,N⟩ x) v fs:=by
 obtain ⟨vs,h1,h2⟩:=h
 refine ⟨vs,?_,fun i hi=>?_⟩
 ·obtain ⟨hl,A',c',rfl,HI,HJ,hc⟩:=h1
  refine ⟨hl,A',c',rfl,HI,HJ,fun h0=>?_⟩
  obtain ⟨b',Hv,rfl,H4⟩:=hc h0
  refine ⟨b',Hv,rfl,fun j u hu=>zbS (H4 j u hu) ?_⟩
  rintro rfl
  rcases zgC (zgz hb (H4 0 _ (h2 0 h0).1)) with ⟨x,hx⟩ | ⟨_,_,_,hx⟩ | ⟨_,hx⟩ <;> cases hx
 ·obtain ⟨h3,u,h4,h5⟩:=h2 i hi
  exact ⟨h3,u,h4,zfe h5 hb zay⟩
theorem zh6 (tmps:Array Value) (W:World) (b:Nat) (cs:Array Value) (e:Value) (h4:tmps.getD 2 undef=T (R ⟨b,0,N⟩)) (h3:tmps.getD 3 undef=e) (hb:Blk W b 25 cs) (hs:cs.size=5):(results Tryz.f56 tmps).run Q W=.ok (.tuple #[.agg cs,e]) W:=by
 have Hz:tmps[2]?.getD undef=T (R ⟨b,0,N⟩):=by simpa using h4
 have K2:tmps[3]?.getD undef=e:=by simpa using h3
 have hl:=hb.load (P:=Q) zc3 rfl (by rw[hs];kernel_rfl)
 simp[results,Tryz.results56,Hz,K2,asAddr,hl,Sem.run_bind,Sem.run_pure,Result.andThen_ok]
structure Sy4 (w W:World) (A1:Option Addr) (c1:Nat) (B1:Option Addr) (e1:Nat) (d:Dk):Prop where
 b0:Blk W w.heap.size 25 (zan A1 d.fs.length c1 B1 d.q.length e1 d.quota d.fuse d.dead)
 b2:Blk W (w.heap.size+1) 25 (zan none 0 0 none 0 0 0 0 false)
 f:Fs W (E A1 d.fs.length c1) d.fs
 q:Qs W (E B1 d.q.length e1) d.q
 e:Ext w W
theorem Sy4.ext {w W W':World} {A1:Option Addr} {c1:Nat} {B1:Option Addr} {e1:Nat} {d:Dk} (h:Sy4 w W A1 c1 B1 e1 d) (hE:Ext W W'):Sy4 w W' A1 c1 B1 e1 d :=
 ⟨h.b0.ext hE,h.b2.ext hE,h.f.ext hE,h.q.ext hE,xT h.e hE⟩
theorem zmT {d:Dk} {m:Int} (h:d.may=m) (hm:m≠0):d.syncS=(d,m):=by
 subst h;unfold P8;rw[if_pos hm]
theorem zkz (v:Value) (d:Dk) (w:World) (hD:DkV w v d) (hl:d.fs.length+d.q.length≤800000) (hb:tot d.fs+zaW d.q≤800000) (Hw:d.fuse≤9223372036854775807) :
  Calls Q 56 #[v] w fun e w'=>(∃ u,e=.returned (.tuple #[u,F I (d.syncS).2])∧DkV w' u (d.syncS).1)∧Ext w w':=by
 obtain ⟨vf,vq,rfl,hF,hQ⟩:=hD;obtain ⟨A,c,rfl,_,_⟩:=P1 hF;obtain ⟨B,e2,rfl,_,_⟩:=Qs.open_ hQ;obtain ⟨W0,Hl⟩:∃ W0,(w.alloc (O #[E A d.fs.length c,E B d.q.length e2,F I d.quota,F I d.fuse,J d.dead] 25)).alloc (O #[E none 0 0,E none 0 0,F I 0,F I 0,J false] 25)=W0:=⟨_,rfl⟩
 have Hn:Ext w W0:=by rw[←Hl];exact xA (xA (xR _) _) _
 have h0:Blk W0 w.heap.size 25 (zan A d.fs.length c B d.q.length e2 d.quota d.fuse d.dead):=by rw[←Hl];exact (P3 w _ _).alloc _
 have h2:Blk W0 (w.heap.size+1) 25 (zan none 0 0 none 0 0 0 0 false):=by
  rw[←Hl]
  have:=P3 (w.alloc (O #[E A d.fs.length c,E B d.q.length e2,F I d.quota,F I d.fuse,J d.dead] 25)) 25 #[E none 0 0,E none 0 0,F I 0,F I 0,J false]
  rwa [xS] at this
 have Kz:=zfg d;have KD:=zj1 d;have key:=zfl (U #[E A d.fs.length c,E B d.q.length e2,F I d.quota,F I d.fuse,J d.dead]) d W0 ⟨_,_,rfl,hF.ext Hn,hQ.ext Hn⟩ (by omega) (by omega);have Hc:=L key;have Hx:=L Hn;have H0:=L h0;have H2:=L h2;have HY:=L Hw;obtain ⟨S,hS⟩:∃ S,d.syncS=S:=⟨_,rfl⟩;have H5:=L hS;rw[hS];obtain ⟨g0,g1,g2,g3,g4⟩:=zaa h0;clear hS key h0 h2 hF hQ Hn Hw
 go_enter Tryz.func56,Tryz.ntmps56
 go_wp2_with fail;clear Hl
 refine Hc.out.mono ?_
 rintro e w1 ⟨u,rfl,⟨A1,c1,B1,e1,rfl,HN,HO⟩,Hk⟩;have H7:=H0.out.ext Hk
 have H:Hid (Sy4 w (zaR w1 w.heap.size (E A1 d.fs.length c1) (E B1 d.q.length e1) (F I d.quota) (F I d.fuse) (J d.dead)) A1 c1 B1 e1 d):=by
  have HH:=H2.out.ext Hk
  refine ⟨zal H7 _ _ _ _ _,((((HH.other (by omega) 0 _).other (by omega) 1 _).other (by omega) 2 _).other (by omega) 3 _).other (by omega) 4 _,OwnF.fs (OwnF.box1 HN H7),OwnQ.qs (OwnQ.box1 HO H7),zae (xT Hx.out Hk) (xN w.heap.size) _ _ _ _ _⟩
 have key:=zjs _ d _ (show DkV (zaR w1 w.heap.size (E A1 d.fs.length c1) (E B1 d.q.length e1) (F I d.quota) (F I d.fuse) (J d.dead)) (U #[E A1 d.fs.length c1,E B1 d.q.length e1,F I d.quota,F I d.fuse,J d.dead]) d from ⟨_,_,rfl,H.out.f,H.out.q⟩) (by omega) (by omega) (by omega)
 have Hj:=L key;obtain ⟨f0,f1,f2,f3,f4⟩:=zam H7;clear g0 g1 g2 g3 g4;obtain ⟨g0,g1,g2,g3,g4⟩:=zaa H7;clear key HN HO H7 Hk Hc H0 H2 Hx;go_wp2_with fail
 refine Hj.out.mono ?_
 rintro e w2 ⟨rfl,HA⟩
 replace H:=L (H.out.ext HA)
 clear g0 g1 g2 g3 g4 f0 f1 f2 f3 f4 HA Hj;obtain ⟨g0,g1,g2,g3,g4⟩:=zaa H.out.b0
 rcases hr:d.right with _ | _
 case false =>
  have e1:S=(d,2):=by rw[←H5.out,zmT (m:=2) (by unfold P7;rw[hr];rfl) (by decide)]
  subst e1;clear H5;have H3:=H.out.b2;have H8:=P0 H3 H.out.f (E A1 d.fs.length c1) (E B1 d.q.length e1) (F I d.quota) (F I d.fuse) (J d.dead);have H9:=Qs.setBox H3 H.out.q (E A1 d.fs.length c1) (E B1 d.q.length e1) (F I d.quota) (F I d.fuse) (J d.dead);have Hf:=L (zal H3 (E A1 d.fs.length c1) (E B1 d.q.length e1) (F I d.quota) (F I d.fuse) (J d.dead));have Hg:=L (zae H.out.e (by omega:w.heap.size≤w.heap.size+1) (E A1 d.fs.length c1) (E B1 d.q.length e1) (F I d.quota) (F I d.fuse) (J d.dead));have Hh:=L H8;have Hi:=L H9;obtain ⟨x0,x1,x2,x3,x4⟩:=zaa H3;obtain ⟨y0,y1,y2,y3,y4⟩:=zam H3;clear H3 H8 H9;go_wp2_with fail
  refine bodyPost_ret (zh6 _ _ _ _ _ rfl rfl Hf.out rfl) rfl ?_
  exact ⟨⟨_,rfl,⟨_,_,rfl,Hh.out,Hi.out⟩⟩,Hg.out⟩
 rcases hdd:d.dead with _ | _
 case true =>
  have e1:S=(d,40):=by rw[←H5.out,zmT (m:=40) (by unfold P7;rw[hr,hdd];rfl) (by decide)]
  subst e1;clear H5 hr;rw[hdd] at g4;have Ha:=L hdd;clear hdd;have H3:=H.out.b2;have H8:=P0 H3 H.out.f (E A1 d.fs.length c1) (E B1 d.q.length e1) (F I d.quota) (F I d.fuse) (J true);have H9:=Qs.setBox H3 H.out.q (E A1 d.fs.length c1) (E B1 d.q.length e1) (F I d.quota) (F I d.fuse) (J true);have Hf:=L (zal H3 (E A1 d.fs.length c1) (E B1 d.q.length e1) (F I d.quota) (F I d.fuse) (J true));have Hg:=L (zae H.out.e (by omega:w.heap.size≤w.heap.size+1) (E A1 d.fs.length c1) (E B1 d.q.length e1) (F I d.quota) (F I d.fuse) (J true));have Hh:=L H8;have Hi:=L H9;obtain ⟨x0,x1,x2,x3,x4⟩:=zaa H3;obtain ⟨y0,y1,y2,y3,y4⟩:=zam H3;clear H3 H8 H9;go_wp2_with fail
  refine bodyPost_ret (zh6 _ _ _ _ _ rfl rfl Hf.out rfl) rfl ?_
  exact ⟨⟨_,rfl,⟨_,_,by rw[Ha.out],Hh.out,Hi.out⟩⟩,Hg.out⟩
 rw[hdd] at g4
 have e1:S=(P5 { d with fs:=d.now,q:=[] },0):=by rw[←H5.out];unfold P8;rw[if_neg (by rw[show d.may=0 by unfold P7;rw[hr,hdd];rfl];decide)]
 subst e1;have Ha:=L hdd;clear hr hdd H5
 have key:=zfk _ d w2 (show DkV w2 (U #[E A1 d.fs.length c1,E B1 d.q.length e1,F I d.quota,F I d.fuse,J false]) d from ⟨_,_,by rw[Ha.out],H.out.f,H.out.q⟩) (by omega) (by omega)
 have Hc:=L key;clear key;go_wp2_with fail
 refine Hc.out.mono ?_
 rintro e w4 ⟨⟨vl,rfl,Hq⟩,HD⟩;obtain ⟨AL,cL,rfl,_,_⟩:=P1 Hq
 replace H:=L (H.out.ext HD)
 clear Hc HD g0 g1 g2 g3 g4;obtain ⟨l4,K3⟩:∃ l,d.now=l:=⟨_,rfl⟩
 rw[K3] at Hq ⊢
 have Ku:=L K3;clear K3;have H7:=H.out.b0
 have HG:Blk (w4.setCell ⟨w.heap.size,0,N⟩ (E AL l4.length cL)) w.heap.size 25 (zan AL l4.length cL B1 d.q.length e1 d.quota d.fuse d.dead):=H7.set 0 (E AL l4.length cL)
 have Ho:=Fs.setBox1 (k:=1) HG (Fs.setBox1 (k:=0) H7 Hq (E AL l4.length cL)) (E none 0 0)
 have HH:Blk ((w4.setCell ⟨w.heap.size,0,N⟩ (E AL l4.length cL)).setCell ⟨w.heap.size,1,N⟩ (E none 0 0)) w.heap.size 25 (zan AL l4.length cL none 0 0 d.quota d.fuse d.dead):=HG.set 1 (E none 0 0)
 have Hp:Qs ((w4.setCell ⟨w.heap.size,0,N⟩ (E AL l4.length cL)).setCell ⟨w.heap.size,1,N⟩ (E none 0 0)) (E none 0 0) []:=⟨[],SlR.nil _ 4,RowOf.nil⟩
 have Ki:Ext w ((w4.setCell ⟨w.heap.size,0,N⟩ (E AL l4.length cL)).setCell ⟨w.heap.size,1,N⟩ (E none 0 0)):=P2 (p:=⟨w.heap.size,1,N⟩) (P2 (p:=⟨w.heap.size,0,N⟩) H.out.e (xN _) _) (xN _) _
 have Kp:=((H.out.b2.other (by omega:w.heap.size+1≠w.heap.size) 0 (E AL l4.length cL)).other (by omega:w.heap.size+1≠w.heap.size) 1 (E none 0 0))
 have key:=zeX (U #[E AL l4.length cL,E none 0 0,F I d.quota,F I d.fuse,J false]) { d with fs:=l4,q:=[] } _ ⟨_,_,by rw[Ha.out],Ho,Hp⟩ HY.out
 have KB:=L key;have OE:=L Ki;have B2:=L Kp;obtain ⟨g0,g1,g2,g3,g4⟩:=zaa H7;obtain ⟨f0,f1,f2,f3,f4⟩:=zam H7;rw[Ha.out] at g4;clear key HG H7 Ho HH Hp Ki Kp Hq H;go_wp2_with fail
 refine KB.out.mono ?_
 rintro e KH ⟨⟨u,rfl,HK⟩,He⟩;obtain ⟨D,Ht⟩:∃ D,P5 { d with fs:=l4,q:=[] }=D:=⟨_,rfl⟩;rw[Ht] at HK;have HX:=L Ht;obtain ⟨KE,KF,rfl,Ho,Hp⟩:=HK;obtain ⟨Af,cf,rfl,_,_⟩:=P1 Ho;obtain ⟨Aq,cq,rfl,_,_⟩:=Qs.open_ Hp;have H3:=B2.out.ext He;have H8:=P0 H3 Ho (E Af D.fs.length cf) (E Aq D.q.length cq) (F I D.quota) (F I D.fuse) (J D.dead);have H9:=Qs.setBox H3 Hp (E Af D.fs.length cf) (E Aq D.q.length cq) (F I D.quota) (F I D.fuse) (J D.dead);have Hf:=L (zal H3 (E Af D.fs.length cf) (E Aq D.q.length cq) (F I D.quota) (F I D.fuse) (J D.dead));have Hg:=L (zae (xT OE.out He) (by omega:w.heap.size≤w.heap.size+1) (E Af D.fs.length cf) (E Aq D.q.length cq) (F I D.quota) (F I D.fuse) (J D.dead));have Hh:=L H8;have Hi:=L H9;clear g0 g1 g2 g3 g4 f0 f1 f2 f3 f4;obtain ⟨x0,x1,x2,x3,x4⟩:=zaa H3;obtain ⟨y0,y1,y2,y3,y4⟩:=zam H3;clear H3 H8 H9 Ho Hp He Ht KB OE B2;go_wp2_with fail
 refine bodyPost_ret (zh6 _ _ _ _ _ rfl rfl Hf.out rfl) rfl ?_
 rw[Ku.out]
 show (∃ u,_=Ending.returned (.tuple #[u,F I 0])∧DkV _ u (P5 { d with fs:=l4,q:=[] }))∧_
 rw[HX.out]
 exact ⟨⟨_,rfl,⟨_,_,rfl,Hh.out,Hi.out⟩⟩,Hg.out⟩
end Go.Proofs.YteggfecbjgbndaaGreatDoor
