/- Merged -/
import Derived.Test.YteggfecbjgbndaaGreatDoorZw38
import Derived.Lib.ConvBytes
set_option linter.all false
set_option maxHeartbeats 8000000
set_option maxRecDepth 100000
open Go.Value renaming slice→C,string→D,int→E,bool→N,pointer→Q
open Option renaming none→G,some→H
open Go.Mv renaming zhd→I
open Go.IntKind renaming i64→J,u8→O
open Go.Obj renaming cells→L
open Go.Proofs.Tryz renaming prog→M
open Go.RowKit.Below renaming heap_setCell→P0,setCell→P1
open Go.Mv.Blk renaming new→P2
open List renaming take_succ_eq_append_getElem→P3,length_nil→P4,take_length→P5,drop_eq_getElem_cons→P6,not_mem_nil→P7,getElem_mem→P8,drop_length→P9,mem_cons→Pa
open Nat renaming zero_le→Pb,zero_add→Pc
open Bool renaming true_and→Pd,eq_iff_iff→Pe,false_and→Pf
namespace Go.Proofs.YteggfecbjgbndaaGreatDoor
open Go.RowKit Go.Mv Go.Shelf
theorem zsY (tmps:Array Value) (W:World) (b:Nat) (cs:Array Value) (h4:tmps.getD 2 undef=Q (H ⟨b,0,G⟩)) (hb:Blk W b 25 cs) (hs:cs.size=5):(results Tryz.f54 tmps).run M W=.ok (.agg cs) W:=by
 have hl:=hb.load (P:=M) zc3 rfl (by rw[hs];kernel_rfl)
 have JA:tmps[2]?.getD undef=Q (H ⟨b,0,G⟩):=by simpa using h4
 simp[results,Tryz.results54,JA,asAddr,hl]
theorem ziL {α:Type} (l:List α) {k:Nat} (h:k≤l.length):(l.take k).length=k:=by rw[List.length_take];omega
theorem zsk {W:World} {base:Nat} {v:Value} {l:List Fil} (h:OwnF W base v l) {n:List UInt8} {b2:Nat} {u:Value} {bs:List UInt8} (hu:OwnB W b2 u bs):∀ g,v.ownBlock=H g→∀ x∈[sv n,u],zaZ g x:=by
 intro g hg x hx;obtain ⟨_,cs,JD⟩:=zaS h hg;simp only[Pa,P7,or_false] at hx
 rcases hx with rfl | rfl
 ·exact zaB _ _
 ·exact OwnB.awayT hu JD (by decide)
theorem zkx (v:Value) (d:Dk) (w:World) (hD:DkV w v d) (hl:d.fs.length+d.q.length≤900000) (hb:tot d.fs+zaW d.q≤900000) :
  Calls M 54 #[v] w fun e w'=>∃ u,e=.returned u∧OwnDs w' w.heap.size u d∧Ext w w':=by
 obtain ⟨vf,vq,rfl,hF,hQ⟩:=hD;obtain ⟨A,c,rfl,_,_⟩:=Fs.open_ hF;obtain ⟨B,e2,rfl,_,_⟩:=Qs.open_ hQ;obtain ⟨W0,Hk⟩:∃ W0,(w.alloc (L #[C A d.fs.length c,C B d.q.length e2,E J d.quota,E J d.fuse,N d.dead] 25)).alloc (L #[C none 0 0,C none 0 0,E J 0,E J 0,N false] 25)=W0:=⟨_,rfl⟩
 have H5:Ext w W0:=by rw[←Hk];exact xA (xA (xR _) _) _
 have h0:Blk W0 w.heap.size 25 (zan A d.fs.length c B d.q.length e2 d.quota d.fuse d.dead):=by rw[←Hk];exact (P2 w _ _).alloc _
 have h1:Blk W0 (w.heap.size+1) 25 (zan none 0 0 none 0 0 0 0 false):=by
  rw[←Hk]
  have:=P2 (w.alloc (L #[C A d.fs.length c,C B d.q.length e2,E J d.quota,E J d.fuse,N d.dead] 25)) 25 #[C none 0 0,C none 0 0,E J 0,E J 0,N false]
  rwa [xS] at this
 have Jf:W0.heap.size=w.heap.size+1+1:=by rw[←Hk,xS,xS]
 have K3:=I H5;have H0:=I h0;have H1:=I h1;have HF:=I (hF.ext H5);have HQ:=I (hQ.ext H5);have HB:=I hb;have HL:=I hl;have JL:=I Jf;obtain ⟨i0,hi,KX,JJ,JK⟩:=info_parts zke;clear h0 h1 hF hQ H5 hb hl Jf
 go_enter Tryz.func54,Tryz.ntmps54
 go_wp2_with fail;clear Hk
 go_loopw [3,4] (fun vl i wr=>∃ j:Nat,j≤d.fs.length∧i=E J j∧(∃ A' c',vl=C A' j c')∧Hid (OwnF wr W0.heap.size vl (d.fs.take j))∧Hid (Ext W0 wr)) (fun _ i _=>d.fs.length-(intOf i).toNat)
 case atStart=>exact ⟨0,Pb _,rfl,⟨_,_,rfl⟩,OwnX.nil _ _ _,xR _⟩
 case round =>
  obtain ⟨j,hj,rfl,⟨A',c',rfl⟩,HO,HE⟩:=hrel;obtain ⟨s0,s1,_,_,_⟩:=zaa H0.out;have d0:=HE.out.cell s0
  by_cases hlt:j<d.fs.length
  ·obtain ⟨_,b,H4,rfl,hc⟩:=HF.out.at_ (by omega)
   obtain ⟨t0,B1,J1,t1,Hs⟩:=hc j hlt
   have Kh:d.fs.take (j+1)=d.fs.take j++[d.fs[j]]:=P3 hlt
   have KN:=zfh (P8 hlt);have K6:=I Kh;have K2:=I Hs;have Hg:=ziL d.fs hj;have He:=I Hg
   have Hf:d.fs[j].2.length≤900000:=by have:=HB.out;omega
   have Hm:=I Hf;clear hc Kh Hs KN Hg Hf;obtain ⟨p,hp⟩:∃ p,d.fs[j]=p:=⟨_,rfl⟩;rw[hp] at t0 t1 K2 K6 Hm;obtain ⟨n,pb⟩:=p;dsimp only at t0 t1 K2 Hm
   have JR:(j:Int)<(d.fs.length:Int):=by omega
   unfold sv at t0;clear hp
   have HU:∀ X,Ext W0 X→X.cell? ⟨w.heap.size,0,G⟩=H (C (H ⟨b,H4,G⟩) d.fs.length c)∧X.cell? ⟨b,H4+j*2,G⟩=H (D ⟨n.toArray⟩)∧X.cell? ⟨b,H4+j*2+1,G⟩=H (C B1 pb.length J1):=fun X h=>⟨h.cell s0,h.cell t0,h.cell t1⟩
   obtain ⟨_,Hl,H7⟩:=HU wr HE.out;have Hn:=I HU;clear HU s0 s1 t0 t1;go_wp2_with fail
   refine wp_region_held_drew (S:=fun W=>W.cell? ⟨w.heap.size,0,G⟩=H (C (H ⟨b,H4,G⟩) d.fs.length c)∧W.cell? ⟨b,H4+j*2,G⟩=H (D ⟨n.toArray⟩)∧W.cell? ⟨b,H4+j*2+1,G⟩=H (C B1 pb.length J1)) (by kernel_rfl) ⟨d0,Hl,H7⟩ (fun _=>?_)
   clear d0 Hl H7;refine tkN 0 ?_;refine tkN 1 ?_;refine tkN 2 ?_;refine tkN 3 ?_;refine tkN 4 ?_;refine tkN 5 ?_;refine tkN 6 ?_;refine tkN 8 ?_;refine tkN 9 ?_;refine tkN 10 ?_;refine tkN 11 ?_;refine tkN 12 ?_;refine tkN 13 ?_
   refine ar1 7 (fun K hK=>?_)
   go_simp
   have Km:Ext wr (wr.alloc (L #[] 5)).drew:=xD (xA (xR _) _)
   have Kc:OwnB (wr.alloc (L #[] 5)).drew wr.heap.size (C (H ⟨wr.heap.size,0,G⟩) 0 0) []:=zab (zci wr) (xD (xR _))
   refine shK hK _ _ (Hn.out _ (xT HE.out Km)) (fun _=>?_)
   refine ar1 14 (fun K hK=>?_)
   refine zif (.tmp 22) (.tmp 28) rfl wr.heap.size _ [] rfl Kc _ pb rfl (K2.out.ext (xT HE.out Km)) (by have:=Hm.out;simp;omega) Km.size ?_
   intro A5 c5 w5 K1 Kn;have Hd:=Kn _ Km (xN _)
   simp only[P4,Pc,xI] at K1 ⊢
   refine shK hK _ _ (Hn.out _ (xT HE.out Hd)) (fun _=>?_)
   refine tkN 15 ?_
   refine ar1 16 (fun K hK=>?_)
   go_simp
   have Ka:Ext w5 (w5.alloc (L #[D ⟨n.toArray⟩,C A5 pb.length c5] 68)):=xA (xR _) _
   have HD:=xT Hd Ka;have JF:=zex (P2 w5 68 #[D ⟨n.toArray⟩,C A5 pb.length c5]);have Kb:=zab K1 Ka;have Kd:=OwnX.ext zbq HO.out HD;have Ko:=zsk (n:=n) Kd Kb
   refine shK hK _ _ (Hn.out _ (xT HE.out HD)) (fun _=>?_)
   refine ar1 17 (fun K hK=>?_)
   refine zna zbq (.tmp 15) (.tmp 31) 22 rfl 68 i0 _ 40 Tryz.underlying22 hi KX JJ JK rfl (by decide) (by decide) W0.heap.size _ (d.fs.take j) rfl Kd _ [(n,pb)] [sv n,C A5 pb.length c5] rfl JF (zjh (xW Kb)) (by simp) Ko (by rw[He.out];have:=HL.out;simp;omega) (xT HE.out HD).size ?_
   intro A7 c7 w7 HS JC _;have HG:=JC W0 (xT HE.out HD) (xN _)
   simp only[xC,P4,Pc,He.out] at HS ⊢
   rw[←K6.out] at HS
   refine shK hK _ _ (Hn.out _ HG) (fun _=>?_)
   refine tkN 18 ?_;refine wdD ?_;go_wp2_with fail
   go_roundw
   case rel=>exact ⟨j+1,by omega,by go_num,⟨_,_,rfl⟩,HS,HG⟩
   case measure=>simp[intOf];omega
  ·obtain rfl:j=d.fs.length:=by omega
   rw[P5] at HO;have J9:=HO.out;have Jq:=I J9;have H9:=HE.out;have J0:=I H9;obtain ⟨iq,JE,KU,KV,KW⟩:=info_parts zer;clear s0 J9 H9 HO HE;go_wp2_with fail
   go_loopw [5,6] (fun vl i H2=>∃ k:Nat,k≤d.q.length∧i=E J k∧(∃ A2 c2,vl=C A2 k c2)∧Hid (OwnQ H2 wr.heap.size vl (d.q.take k))∧Hid (Ext wr H2)) (fun _ i _=>d.q.length-(intOf i).toNat)
   case atStart=>exact ⟨0,Pb _,rfl,⟨_,_,rfl⟩,OwnX.nil _ _ _,xR _⟩
   case round =>
    rename World=>H2
    clear d0;obtain ⟨k,hk,rfl,⟨A2,c2,rfl⟩,K4,Hx⟩:=hrel;have Ha:=xT J0.out Hx.out;have d1:=Ha.cell s1
    by_cases hlt:k<d.q.length
    ·obtain ⟨_,b,H4,rfl,hc⟩:=(HQ.out.ext Ha).at_ (by omega)
     obtain ⟨Hl,H7,Hb,B3,d3,J6,K7⟩:=hc k hlt
     have Kh:d.q.take (k+1)=d.q.take k++[d.q[k]]:=P3 hlt
     have KN:=zja (P8 hlt)
     have Hf:d.q[k].b.length≤900000:=by have:=HB.out;omega
     have Hg:=ziL d.q hk;have K6:=I Kh;have Kv:=I K7;have He:=I Hg;have Hm:=I Hf;clear hc Kh K7 KN Hf Hg;obtain ⟨o,ho⟩:∃ o,d.q[k]=o:=⟨_,rfl⟩;rw[ho] at Hl H7 Hb J6 Kv K6 Hm;obtain ⟨ok,on,ot,ob⟩:=o;dsimp only at Hl H7 Hb J6 Kv Hm
     have JT:(k:Int)<(d.q.length:Int):=by omega
     unfold sv at H7 Hb
     have KL:Ext H2 (H2.alloc (L #[E O ok,D ⟨on.toArray⟩,D ⟨ot.toArray⟩,C B3 ob.length d3] 98)):=xA (xR _) _
     have K0:=P2 H2 98 #[E O ok,D ⟨on.toArray⟩,D ⟨ot.toArray⟩,C B3 ob.length d3]
     have KM:Ext (H2.alloc (L #[E O ok,D ⟨on.toArray⟩,D ⟨ot.toArray⟩,C B3 ob.length d3] 98)) ((H2.alloc (L #[E O ok,D ⟨on.toArray⟩,D ⟨ot.toArray⟩,C B3 ob.length d3] 98)).alloc (L #[] 5)):=xA (xR _) _
     have Kc:=zci (H2.alloc (L #[E O ok,D ⟨on.toArray⟩,D ⟨ot.toArray⟩,C B3 ob.length d3] 98));rw[xS] at Kc;have hb3:=Kv.out.ext (xT KL KM)
     have Je:H2.heap.size+1≤((H2.alloc (L #[E O ok,D ⟨on.toArray⟩,D ⟨ot.toArray⟩,C B3 ob.length d3] 98)).alloc (L #[] 5)).heap.size:=by rw[xS,xS];omega
     obtain ⟨x0,x1,x2,x3⟩:=zaK K0;have Jt:=I Kc;have Hz:=I KL;have Jw:=I KM;have Jj:=I K0;have Kw:=I hb3;have Jv:=I Je;clear KL K0 KM Kc hb3 Je ho Ha
     go_wp2_with (first
      | (at_builtin;refine zaX rfl (.tmp 45) (.tmp 47) rfl (H2.heap.size+1) _ [] rfl Jt.out _ ob rfl Kw.out (by have:=Hm.out;simp;omega) Jv.out ?_;intro A5 c5 w5 K1 Kn;simp only[P4,Pc,xI] at K1 ⊢;have Hd:=Kn _ Jw.out (by rw[xS];omega);have Kp:=Jj.out.ext Hd;clear x0 x1 x2 x3;obtain ⟨x0,x1,x2,x3⟩:=zaK Kp;have f3:=Kp.frozen 3;have KZ:=I K1;have Ky:=I Hd;have Jg:=I Kp;clear K1 Kn Hd Kp)
      | (at_builtin
         have HD:Ext H2 (w5.setCell ⟨H2.heap.size,3,G⟩ (C A5 ob.length c5)):=P1 (p:=⟨H2.heap.size,3,G⟩) (xT Hz.out Ky.out) (xN _) _
         have HH:Ext (w5.setCell ⟨H2.heap.size,3,G⟩ (C A5 ob.length c5)) ((w5.setCell ⟨H2.heap.size,3,G⟩ (C A5 ob.length c5)).alloc (L #[E O ok,D ⟨on.toArray⟩,D ⟨ot.toArray⟩,C A5 ob.length c5] 98)):=xA (xR _) _
         have HG:=xT HD HH;have Kb:=KZ.out.kept (zad _ H2.heap.size 3 (C A5 ob.length c5)) (.inr (Jg.out.not_row (by decide) KZ.out).symm)
         have HS:OwnB ((w5.setCell ⟨H2.heap.size,3,G⟩ (C A5 ob.length c5)).alloc (L #[E O ok,D ⟨on.toArray⟩,D ⟨ot.toArray⟩,C A5 ob.length c5] 98)) (H2.heap.size+1) (C A5 ob.length c5) ob:=zab Kb HH
         have Kf:=OwnX.ext zbt K4.out HG
         have Ko:∀ g,(Value.slice A2 k c2).ownBlock=H g→∀ u∈[E O ok,D ⟨on.toArray⟩,D ⟨ot.toArray⟩,C A5 ob.length c5],zaZ g u:=by
          intro g hg u hu;have JM:=zmr K4.out hg;simp only[Pa,P7,or_false] at hu
          rcases hu with rfl | rfl | rfl | rfl
          ·exact zc2 _ _ _
          ·exact zaB _ on
          ·exact zaB _ ot
          ·exact HS.away (by omega)
         refine zcx zbt rfl (.tmp 50) (.tmp 52) 23 rfl 98 iq _ 64 Tryz.underlying23 JE KU KV KW rfl (by decide) (by decide) wr.heap.size _ (d.q.take k) rfl Kf _ [⟨ok,on,ot,ob⟩] [E O ok,D ⟨on.toArray⟩,D ⟨ot.toArray⟩,C A5 ob.length c5] rfl (zda (w5.setCell ⟨H2.heap.size,3,G⟩ (C A5 ob.length c5)) [E O ok,D ⟨on.toArray⟩,D ⟨ot.toArray⟩,C A5 ob.length c5] 98 4 rfl (by simp only[World.size_setCell])) (zdO (o:=⟨ok,on,ot,ob⟩) (xW HS)) (by simp) Ko (by rw[He.out];have:=HL.out;simp;omega) (xT Hx.out HG).size ?_
         intro A9 c9 w9 Kq J5 _
         simp only[xC,P4,Pc,He.out] at Kq ⊢
         rw[←K6.out] at Kq;have J3:=J5 wr (xT Hx.out HG) (xN _);have Js:=I Kq;have Jl:=I J3
         clear HD HH HG Kb HS Kf Ko Kq J5 J3))
     go_roundw
     case rel=>exact ⟨k+1,by omega,by go_num,⟨_,_,rfl⟩,Js,Jl⟩
     case measure=>simp[intOf];omega
    ·obtain rfl:k=d.q.length:=by omega
     rw[P5] at K4;have H3:=H0.out.ext Ha;have Hc:=H1.out.ext Ha;have hE:=xT K3.out Ha;have Ht:=(Hc.other (by omega:w.heap.size+1≠w.heap.size) 0 (C A' d.fs.length c')).other (by omega:w.heap.size+1≠w.heap.size) 1 (C A2 d.q.length c2)
     have HM:Blk (H2.setCell ⟨w.heap.size,0,G⟩ (C A' d.fs.length c')) w.heap.size 25 (zan A' d.fs.length c' B d.q.length e2 d.quota d.fuse d.dead):=H3.set 0 (C A' d.fs.length c')
     have Hh:OwnFA ((H2.setCell ⟨w.heap.size,0,G⟩ (C A' d.fs.length c')).setCell ⟨w.heap.size,1,G⟩ (C A2 d.q.length c2)) W0.heap.size (C A' d.fs.length c') d.fs (fun g=>(Value.slice A2 d.q.length c2).ownBlock=H g):=OwnFA.setD (OwnFA.setD (OwnFA.ext (OwnFA.of Jq.out (fun g hg=>(zaS K4.out hg).1)) Hx.out) (by decide) H3 zay) (by decide) HM zay
     have Hi:OwnQ ((H2.setCell ⟨w.heap.size,0,G⟩ (C A' d.fs.length c')).setCell ⟨w.heap.size,1,G⟩ (C A2 d.q.length c2)) wr.heap.size (C A2 d.q.length c2) d.q:=OwnQ.setD (OwnQ.setD K4.out (by decide) H3 zay) (by decide) HM zay
     have Ke:=OwnFA.box1 (A':=A') (n':=d.fs.length) (c':=c') (B':=A2) (m':=d.q.length) (e':=c2) (q':=d.quota) (f':=d.fuse) (d':=d.dead) Hh Ht;have Kg:=OwnQ.box1 (A':=A') (n':=d.fs.length) (c':=c') (B':=A2) (m':=d.q.length) (e':=c2) (q':=d.quota) (f':=d.fuse) (d':=d.dead) Hi Ht
     have J7:Ext w (zaR ((H2.setCell ⟨w.heap.size,0,G⟩ (C A' d.fs.length c')).setCell ⟨w.heap.size,1,G⟩ (C A2 d.q.length c2)) (w.heap.size+1) (C A' d.fs.length c') (C A2 d.q.length c2) (E J d.quota) (E J d.fuse) (N d.dead)):=zae (P1 (p:=⟨w.heap.size,1,G⟩) (P1 (p:=⟨w.heap.size,0,G⟩) hE (xN _) _) (xN _) _) (Nat.le_succ _) (C A' d.fs.length c') (C A2 d.q.length c2) (E J d.quota) (E J d.fuse) (N d.dead)
     have HP:=zal Ht (C A' d.fs.length c') (C A2 d.q.length c2) (E J d.quota) (E J d.fuse) (N d.dead);have KA:=I (OwnFA.base Ke K3.out.size);have KC:=I (OwnX.base Kg (Nat.le_trans K3.out.size J0.out.size));have Jm:=I J7;have Ji:=I HP;obtain ⟨x0,x1,x2,x3,x4⟩:=zaa H3;obtain ⟨y0,y1,y2,y3,y4⟩:=zam H3;obtain ⟨z0,z1,z2,z3,z4⟩:=zaa Hc;obtain ⟨v0,v1,v2,v3,v4⟩:=zam Hc;clear H3 Hc Ht HM Hh Hi Ke Kg J7 HP hE Ha d1;go_wp2_with fail
     refine bodyPost_ret (zsY _ _ _ _ rfl Ji.out rfl) rfl ?_
     exact ⟨_,rfl,⟨_,_,_,_,rfl,KA.out,KC.out⟩,Jm.out⟩
theorem zfl (v:Value) (d:Dk) (w:World) (hD:DkV w v d) (hl:d.fs.length+d.q.length≤900000) (hb:tot d.fs+zaW d.q≤900000) :
  Calls M 54 #[v] w fun e w'=>∃ u,e=.returned u∧OwnD w' w.heap.size u d∧Ext w w' :=
 (zkx v d w hD hl hb).mono fun _ _ ⟨u,h1,h2,h3⟩=>⟨u,h1,OwnDs.d h2,h3⟩
theorem zfk (v:Value) (d:Dk) (w:World) (hD:DkV w v d) (hl:d.fs.length+d.q.length≤900000) (hb:tot d.fs+zaW d.q≤900000) :
  Calls M 31 #[v] w fun e w'=>(∃ v',e=.returned v'∧Fs w' v' d.now)∧Ext w w':=by
 obtain ⟨vf,vq,rfl,hF,hQ⟩:=hD;obtain ⟨A,c,rfl,_,_⟩:=Fs.open_ hF;obtain ⟨B,e2,rfl,_,_⟩:=Qs.open_ hQ
 have hX:Ext w (w.alloc (L #[C A d.fs.length c,C B d.q.length e2,E J d.quota,E J d.fuse,N d.dead] 25)):=xA (xR _) _
 have H3:Blk _ w.heap.size 25 (zan A d.fs.length c B d.q.length e2 d.quota d.fuse d.dead):=P2 w _ _
 have key:=zfl _ d _ (show DkV (w.alloc (L #[C A d.fs.length c,C B d.q.length e2,E J d.quota,E J d.fuse,N d.dead] 25)) (.agg #[C A d.fs.length c,C B d.q.length e2,E J d.quota,E J d.fuse,N d.dead]) d from ⟨_,_,rfl,hF.ext hX,hQ.ext hX⟩) hl hb
 obtain ⟨g0,g1,g2,g3,g4⟩:=zaa H3;have Jx:=I key;have HX:=I hX;have Ks:=I H3;have HL:=I hl;have HB:=I hb;clear key hX H3 hF hQ hl hb
 go_enter Tryz.func31,Tryz.ntmps31
 go_wp2_with fail
 refine Jx.out.mono ?_
 rintro e w1 ⟨u,rfl,⟨A1,c1,B1,e1,rfl,Kd,Kf⟩,H9⟩;have Hc:=Ks.out.ext H9;have Hh:=OwnF.box1 (A':=A1) (n':=d.fs.length) (c':=c1) (B':=B1) (m':=d.q.length) (e':=e1) (q':=d.quota) (f':=d.fuse) (d':=d.dead) Kd Hc;have Hi:=OwnQ.box1 (A':=A1) (n':=d.fs.length) (c':=c1) (B':=B1) (m':=d.q.length) (e':=e1) (q':=d.quota) (f':=d.fuse) (d':=d.dead) Kf Hc;have HY:=zae (xT HX.out H9) (xN w.heap.size) (C A1 d.fs.length c1) (C B1 d.q.length e1) (E J d.quota) (E J d.fuse) (N d.dead);have Ki:=zsi _ _ d.fs d.q _ (OwnF.fs Hh) (OwnQ.qs Hi) HL.out HB.out;clear g0 g1 g2 g3 g4;obtain ⟨g0,g1,g2,g3,g4⟩:=zaa Hc;obtain ⟨f0,f1,f2,f3,f4⟩:=zam Hc;have KF:=I Ki;have Hx:=I HY;clear Ki HY Hh Hi Hc Kd Kf H9;go_wp2_with fail
 refine KF.out.mono ?_
 rintro e w2 ⟨⟨v2,rfl,J4⟩,J2⟩;have Jp:=I J4;have Jk:=I (xT Hx.out J2);clear g0 g1 g2 g3 g4 f0 f1 f2 f3 f4 J4 J2;go_wp2_with fail;go_ret
 exact ⟨⟨_,rfl,Jp.out⟩,Jk.out⟩
theorem zls {fs:List Fil} {k:Nat} (h:k<fs.length):tot (fs.take (k+1))=tot (fs.take k)+fs[k].2.length:=by
 rw[P3 h,zj0]
 simp[tot]
theorem zn8 (fs:List Fil) (k:Nat):tot (fs.take k)≤tot fs:=by
 have:=congrArg tot (List.take_append_drop k fs)
 rw[zj0] at this;omega
theorem zkZ (v:Value) (fs:List Fil) (w:World) (hF:Fs w v fs) (hl:fs.length≤4000000) (hb:tot fs≤2000000000):Calls M 114 #[v] w fun e w'=>e=.returned (E J (tot fs))∧w=w':=by
 obtain ⟨A,c,rfl,h1,h2⟩:=Fs.open_ hF;have HF:=I hF;have HB:=I hb;clear hF hb
 go_enter Tryz.func114,Tryz.ntmps114
 go_wp2_with fail
 go_loopw [3,4] (fun n i wr=>∃ j:Nat,j≤fs.length∧i=E J j∧n=E J (tot (fs.take j))∧w=wr) (fun _ i _=>fs.length-(intOf i).toNat)
 case atStart=>exact ⟨0,by omega,rfl,rfl,rfl⟩
 case round =>
  obtain ⟨j,hj,rfl,rfl,rfl⟩:=hrel
  by_cases hlt:j<fs.length
  ·obtain ⟨_,b,H4,rfl,hc⟩:=HF.out.at_ (by omega)
   obtain ⟨_,B2,d2,H7,_⟩:=hc j hlt;have ht:=zls hlt;have JG:=zn8 fs (j+1);have JH:=HB.out;have HT:=I ht
   have hz:(tot (fs.take j):Int)+(fs[j].2.length:Int)≤2000000000:=by omega
   clear hc ht JG JH
   generalize fs[j].2.length=m at *
   go_wp2_with fail
   go_roundw
   case rel=>exact ⟨j+1,by omega,by go_num,by rw[HT.out];go_num,trivial⟩
   case measure=>simp[intOf];omega
  ·obtain rfl:j=fs.length:=by omega
   go_wp2_with fail;go_ret
   exact ⟨by rw[P5];rfl,rfl⟩
theorem zqE (v:Value) (d:Dk) (w:World) (hD:DkV w v d) (hl:d.fs.length+d.q.length≤900000) (hb:tot d.fs+zaW d.q≤900000) (hn:d.now.length≤4000000) :
  Calls M 175 #[v] w fun e w'=>e=.returned (E J (tot d.now))∧Ext w w':=by
 obtain ⟨vf,vq,rfl,hF,hQ⟩:=hD;obtain ⟨A,c,rfl,_,_⟩:=Fs.open_ hF;obtain ⟨B,e2,rfl,_,_⟩:=Qs.open_ hQ
 have H5:Ext w (w.alloc (L #[C A d.fs.length c,C B d.q.length e2,E J d.quota,E J d.fuse,N d.dead] 25)):=xA (xR _) _
 have H3:=P2 w 25 #[C A d.fs.length c,C B d.q.length e2,E J d.quota,E J d.fuse,N d.dead]
 have hc:=zfk _ d _ (show DkV _ _ d from ⟨_,_,rfl,hF.ext H5,hQ.ext H5⟩) hl hb
 have HC:=I hc;have K3:=I H5;have JI:=zfO d.fs d.q
 have KR:tot d.now=tot (zbF d.fs d.q):=ziy d.fs d.q
 have HT:=I (show tot d.now≤2000000000 by omega)
 have HN:=I hn;clear hF hQ H5 hc JI KR hb hn;obtain ⟨g0,g1,g2,g3,g4⟩:=zaa H3;clear H3
 go_enter Tryz.func175,Tryz.ntmps175
 go_wp2_with fail
 refine HC.out.mono ?_
 rintro e w1 ⟨⟨v1,rfl,J8⟩,H9⟩;have Jo:=I J8;have Kx:=I (xT K3.out H9);clear J8 H9 g0 g1 g2 g3 g4 HC;go_wp2_with fail
 refine (zkZ _ _ w1 Jo.out HN.out HT.out).mono ?_
 rintro e w2 ⟨rfl,rfl⟩;go_wp2_with fail;go_ret
 exact ⟨rfl,Kx.out⟩
theorem zkG (o:Oq) (v:Value) (w:World) (hB:Bs w v o.b):Calls M 112 #[.agg #[E O o.k,sv o.n,sv o.t,v]] w fun e w'=>e=.returned (N (zbo o))∧Ext w w':=by
 obtain ⟨A,c,rfl,_,_⟩:=xO hB;obtain ⟨k,n,t,b⟩:=o
 dsimp only at *
 have hX:Ext w (w.alloc (L #[E O k,sv n,sv t,C A b.length c] 98)):=xA (xR _) _
 have K0:=P2 w 98 #[E O k,sv n,sv t,C A b.length c];have HX:=I hX;clear hX hB
 simp only[sv] at *
 obtain ⟨F,hF⟩:∃ F,zbo ⟨k,n,t,b⟩=F:=⟨_,rfl⟩;rw[hF];have Hw:=zeo ⟨k,n,t,b⟩;rw[hF] at Hw;dsimp only at Hw;have HF:=I Hw;clear hF Hw;obtain ⟨g0,g1,g2,g3⟩:=blk4 K0;clear K0
 go_enter Tryz.func112,Tryz.ntmps112
 go_wp2_with fail
 all_goals
  try (have Jy:k=3:=(by assumption);subst Jy)
  first
   | (have Jz:n=[]:=(by assumption)
      subst Jz;go_ret
      refine ⟨ret_bool ?_,HX.out⟩
      have h9:=HF.out;rw[Pe,h9]
      simp
      done)
   | (go_ret
      refine ⟨ret_bool ?_,HX.out⟩
      have h9:=HF.out;rw[Pe,h9]
      by_cases hn:n=[] <;> by_cases ht:t=[] <;> first | contradiction | (simp[hn,ht];done) | (simp[hn,ht];omega))
theorem mcR5ca0 {P:Prop} (h:P:=by
 subst hf;refine tkN 0 ?_;refine tkN 1 ?_;refine tkN 2 ?_;refine tkN 3 ?_;refine tkN 4 ?_;refine tkN 5 ?_;refine tkN 6 ?_;refine tkN 7 ?_;refine tkS 8 ?_;refine tkS 9 ?_;refine tkS 10 ?_;refine tkS 11 ?_;refine tkS 12 ?_;refine tkS 13 ?_;refine tkS 14 ?_;refine tkS 15 ?_;refine tkS 16 ?_;refine tkS 17 ?_;refine tkS 18 ?_;refine tkS 19 ?_;refine tkS 20 ?_;refine tkS 21 ?_;refine tkS 22 ?_;refine tkS 23 ?_;refine tkS 24 ?_;refine tkS 25 ?_;refine tkN 26 ?_;refine wdD ?_;go_wp2_with fail;go_ret
 exact ⟨rfl,xD HE.out⟩):P:=h
theorem mcR5ca1 {P:Prop} (h:P:=by
 refine tkN 13 ?_;refine tkN 14 ?_;refine tkS 15 ?_;refine tkS 16 ?_;refine tkS 17 ?_;refine tkS 18 ?_;refine tkS 19 ?_;refine tkN 20 ?_;refine tkN 21 ?_;refine wdD ?_;go_wp2_with fail;go_ret
 exact ⟨rfl,xD HE.out⟩):P:=h
def zdR (fs:List Fil) (k:Nat):List UInt8:=if k=0 then [] else ((fs[k-1]?).map (·.1)).getD []
theorem zpU {fs:List Fil} {k:Nat} (h:k<fs.length):zbP (zdR fs k) (fs.drop k)=(ltB (zdR fs k) fs[k].1&&zbP (zdR fs (k+1)) (fs.drop (k+1))):=by
 rw[P6 h,zbP]
 have:zdR fs (k+1)=fs[k].1:=by
  unfold zdR;rw[if_neg (by omega)]
  simp[h]
 rw[this]
theorem zhT {fs:List Fil} {k:Nat} (h:k<fs.length):zdR fs (k+1)=fs[k].1:=by
 unfold zdR;rw[if_neg (by omega)]
 simp[h]
structure R4I (w:World) (b:Nat) (cs:Array Value) (W:World):Prop where
 bl:Blk W b 25 cs
 e:Ext w W
theorem zjs (v:Value) (d:Dk) (w:World) (hD:DkV w v d) (hl:d.fs.length+d.q.length≤900000) (hb:tot d.fs+zaW d.q≤900000) (Jc:d.now.length≤4000000) :
  Calls M 111 #[v] w fun e w'=>e=.returned (N d.right)∧Ext w w':=by
 obtain ⟨vf,vq,rfl,hF,hQ⟩:=hD;obtain ⟨A,c,rfl,_,_⟩:=Fs.open_ hF;obtain ⟨B,e2,rfl,_,_⟩:=Qs.open_ hQ
 have H5:Ext w (w.alloc (L #[C A d.fs.length c,C B d.q.length e2,E J d.quota,E J d.fuse,N d.dead] 25)):=xA (xR _) _
 have H3:=P2 w 25 #[C A d.fs.length c,C B d.q.length e2,E J d.quota,E J d.fuse,N d.dead];have HF:=I hF;have HQ:=I hQ;have Jh:=I hb;have Jr:=I Jc
 have HI:=I (show R4I w w.heap.size #[C A d.fs.length c,C B d.q.length e2,E J d.quota,E J d.fuse,N d.dead] _ from ⟨H3,H5⟩)
 obtain ⟨R,hR⟩:∃ R,d.right=R:=⟨_,rfl⟩;have HR:=I hR;rw[hR];clear hF hQ hb H5 hR Jc;obtain ⟨g0,g1,g2,g3,g4⟩:=zaa H3;clear H3
 go_enter Tryz.func111,Tryz.ntmps111
 go_wp2_with fail;clear g0 g1 g2 g3 g4
 go_loopw [3] (fun i wr=>∃ k:Nat,k≤d.fs.length∧i=E J k∧Hid (zbP [] d.fs=zbP (zdR d.fs k) (d.fs.drop k))∧Hid (R4I w w.heap.size #[C A d.fs.length c,C B d.q.length e2,E J d.quota,E J d.fuse,N d.dead] wr)) (fun i _=>d.fs.length-(intOf i).toNat)
 case atStart=>exact ⟨0,Pb _,rfl,rfl,HI⟩
 case round =>
  clear HI;obtain ⟨k,hk,rfl,Kl,HI⟩:=hrel;have HE:=I HI.out.e;obtain ⟨g0,g1,g2,g3,g4⟩:=zaa HI.out.bl
  by_cases hlt:k<d.fs.length
  ·obtain ⟨_,b,H4,rfl,hc⟩:=(HF.out.ext HI.out.e).at_ (by omega)
   obtain ⟨Hl,_⟩:=hc k hlt;have Hj:=Kl.out;rw[zpU hlt] at Hj;have K5:=I Hj
   have JW:(k:Int)<(d.fs.length:Int):=by omega
   clear Hj Kl
   cases k with
   | zero =>
    clear hc
    generalize d.fs[0].1=n at *
    simp only[sv] at *
    simp only[Nat.zero_mul,Nat.add_zero] at Hl;go_wp2_with fail
    refine wp_region_held_drew (S:=fun W=>W.cell? ⟨w.heap.size,0,G⟩=H (C (H ⟨b,H4,G⟩) d.fs.length c)∧W.cell? ⟨b,H4,G⟩=H (D ⟨n.toArray⟩)) (by kernel_rfl) ⟨g0,Hl⟩ (fun _=>?_)
    by_cases hn:n=[]
    case pos =>
     have KQ:(n==[])=true:=by simpa using hn
     have hf:false=R:=by
      rw[←HR.out];unfold Dk.right
      rw[K5.out,hn,show ltB (zdR d.fs 0) []=false from rfl,Pf]
      rfl
     exact mcR5ca0
    have KQ:(n==[])=false:=by simpa using hn
    have H6:=I (show zbP [] d.fs=zbP (zdR d.fs 1) (d.fs.drop 1) by rw[K5.out,show ltB (zdR d.fs 0) n=true from ltB_nil.2 hn,Pd])
    clear hn K5;refine tkN 0 ?_;refine tkN 1 ?_;refine tkN 2 ?_;refine tkN 3 ?_;refine tkN 4 ?_;refine tkN 5 ?_;refine tkN 6 ?_;refine tkN 7 ?_;refine tkN 8 ?_;refine tkN 9 ?_;refine tkN 10 ?_;refine tkS 11 ?_;refine tkS 12 ?_;refine tkS 13 ?_;refine tkS 14 ?_;refine tkS 15 ?_;refine tkS 16 ?_;refine tkS 17 ?_;refine tkS 18 ?_;refine tkS 19 ?_;refine tkS 20 ?_;refine tkS 21 ?_;refine tkS 22 ?_;refine tkS 23 ?_;refine tkS 24 ?_;refine tkN 25 ?_;refine tkN 26 ?_;refine wdD ?_;go_wp2_with fail
    go_roundw
    case rel=>exact ⟨1,by omega,by go_num,H6,⟨HI.out.bl.ext (xD (xR _)),xD HE.out⟩⟩
    case measure=>simp[intOf];omega
   | succ j =>
    obtain ⟨Jd,_⟩:=hc j (by omega)
    have JN:(0:Int)≤(j:Int)+1:=by omega
    have JO:(0:Int)<(j:Int)+1:=by omega
    have JP:IntKind.i64.wrap (j:Int)=(j:Int):=by rw[IntKind.wrap_i64];omega
    have JQ:(j:Int)<(d.fs.length:Int):=by omega
    have Hj:=K5.out;rw[zhT (by omega:j<d.fs.length),zhT hlt] at Hj;have Kz:=I (zhT hlt);have H6:=I Hj
    have JV:j+1<d.fs.length:=hlt
    clear Hj K5;clear hc;obtain ⟨n,Jb⟩:∃ n,d.fs[j+1].1=n:=⟨_,rfl⟩;obtain ⟨l,Ja⟩:∃ l,d.fs[j].1=l:=⟨_,rfl⟩;rw[Jb] at Hl H6 Kz;rw[Ja] at Jd H6;clear Jb Ja
    simp only[sv] at *
    go_wp2_with fail
    refine wp_region_held_drew (S:=fun W=>W.cell? ⟨w.heap.size,0,G⟩=H (C (H ⟨b,H4,G⟩) d.fs.length c)∧W.cell? ⟨b,H4+(j+1)*2,G⟩=H (D ⟨n.toArray⟩)∧W.cell? ⟨b,H4+j*2,G⟩=H (D ⟨l.toArray⟩)) (by kernel_rfl) ⟨g0,Hl,Jd⟩ (fun _=>?_)
    by_cases hn:n=[]
    case pos =>
     have KQ:(n==[])=true:=by simpa using hn
     have hf:false=R:=by
      rw[←HR.out];unfold Dk.right
      rw[H6.out,hn,show ltB l []=false from (by cases l <;> rfl),Pf]
      rfl
     exact mcR5ca0
    have KQ:(n==[])=false:=by simpa using hn
    clear hn
    cases hcmp:ltB l n with
    | false =>
     have Hb:Op.bytesLess l n=false:=hcmp
     have hf:false=R:=by
      rw[←HR.out];unfold Dk.right;rw[H6.out,hcmp];rfl
     subst hf;clear hcmp;refine tkN 0 ?_;refine tkN 1 ?_;refine tkN 2 ?_;refine tkN 3 ?_;refine tkN 4 ?_;refine tkN 5 ?_;refine tkN 6 ?_;refine tkN 7 ?_;refine tkN 8 ?_;refine tkN 9 ?_;refine tkN 10 ?_;refine tkN 11 ?_;refine tkN 12 ?_;refine tkN 13 ?_;refine tkN 14 ?_;refine tkN 15 ?_;refine tkN 16 ?_;refine tkN 17 ?_;refine tkN 18 ?_;refine tkN 19 ?_;refine tkN 20 ?_;refine tkN 21 ?_;refine tkN 22 ?_;refine tkN 23 ?_;refine tkN 24 ?_;refine tkN 25 ?_;refine tkN 26 ?_;refine wdD ?_;go_wp2_with fail;go_ret
     exact ⟨rfl,xD HE.out⟩
    | true =>
     have Hb:Op.bytesLess l n=true:=hcmp
     have KD:=I (show zbP [] d.fs=zbP (zdR d.fs (j+1+1)) (d.fs.drop (j+1+1)) from by rw[H6.out,hcmp,Pd,Kz.out])
     clear hcmp H6 Kz;refine tkN 0 ?_;refine tkN 1 ?_;refine tkN 2 ?_;refine tkN 3 ?_;refine tkN 4 ?_;refine tkN 5 ?_;refine tkN 6 ?_;refine tkN 7 ?_;refine tkN 8 ?_;refine tkN 9 ?_;refine tkN 10 ?_;refine tkN 11 ?_;refine tkN 12 ?_;refine tkN 13 ?_;refine tkN 14 ?_;refine tkN 15 ?_;refine tkN 16 ?_;refine tkN 17 ?_;refine tkN 18 ?_;refine tkN 19 ?_;refine tkN 20 ?_;refine tkN 21 ?_;refine tkN 22 ?_;refine tkN 23 ?_;refine tkN 24 ?_;refine tkN 25 ?_;refine tkN 26 ?_;refine wdD ?_;go_wp2_with fail
     go_roundw
     case rel=>exact ⟨j+1+1,by omega,by go_num,KD,⟨HI.out.bl.ext (xD (xR _)),xD HE.out⟩⟩
     case measure=>simp[intOf];omega
  ·obtain rfl:k=d.fs.length:=by omega
   have Hj:=Kl.out;rw[P9,zbP] at Hj
   have Kk:=I (show (d.q.all zbo&&decide (d.q.length≤400)&&decide (0≤d.quota)&&decide (0≤d.fuse)&&decide ((tot d.now:Int)≤d.quota))=R from by rw[←HR.out];unfold Dk.right;rw[Hj,Pd])
   clear Kl Hj HR;go_wp2_with fail;clear g0 g1 g2 g3 g4
   go_loopw [4] (fun i wr=>∃ k:Nat,k≤d.q.length∧i=E J k∧Hid (d.q.all zbo=(d.q.drop k).all zbo)∧Hid (R4I w w.heap.size #[C A d.fs.length c,C B d.q.length e2,E J d.quota,E J d.fuse,N d.dead] wr)) (fun i _=>d.q.length-(intOf i).toNat)
   case atStart=>exact ⟨0,Pb _,rfl,rfl,HI⟩
   case round =>
    clear HI HE;obtain ⟨k2,JS,rfl,Hr,HI⟩:=hrel;have HE:=I HI.out.e;obtain ⟨g0,g1,g2,g3,g4⟩:=zaa HI.out.bl
    by_cases hlt2:k2<d.q.length
    ·obtain ⟨_,b,H4,rfl,hc⟩:=(HQ.out.ext HI.out.e).at_ (by omega)
     obtain ⟨c0,c1,c2,B3,d3,c3,K7⟩:=hc k2 hlt2;have HJ:=Hr.out;rw[P6 hlt2,List.all_cons] at HJ;have Kj:=I HJ
     have HC:=I (fun W hW=>zkG d.q[k2] _ W (Bs.ext K7 hW))
     clear hc HJ Hr K7
     generalize d.q[k2]=o at *
     simp only[sv] at *
     go_wp2_with fail
     refine (HC.out _ (xR _)).mono ?_
     rintro e w1 ⟨rfl,H9⟩
     have KY:=I (show R4I w w.heap.size #[C A d.fs.length c,C (H ⟨b,H4,G⟩) d.q.length e2,E J d.quota,E J d.fuse,N d.dead] w1 from ⟨HI.out.bl.ext H9,xT HE.out H9⟩)
     clear g0 g1 g2 g3 g4 HI HE H9
     cases hfi:zbo o with
     | false =>
      have hf:false=R:=by rw[←Kk.out,Kj.out,hfi];rfl
      subst hf;clear Kj Kk;go_wp2_with fail;go_ret
      exact ⟨rfl,KY.out.e⟩
     | true =>
      have Kr:=I (show d.q.all zbo=(d.q.drop (k2+1)).all zbo by rw[Kj.out,hfi,Pd])
      clear Kj hfi;go_wp2_with fail
      go_roundw
      case rel=>exact ⟨k2+1,by omega,by go_num,Kr,KY⟩
      case measure=>simp[intOf];omega
    ·obtain rfl:k2=d.q.length:=by omega
     have HJ:=Hr.out;rw[P9] at HJ
     have Ho:=I (show (decide (d.q.length≤400)&&decide (0≤d.quota)&&decide (0≤d.fuse)&&decide ((tot d.now:Int)≤d.quota))=R from by rw[←Kk.out,HJ];rfl)
     clear HJ Hr Kk;have Hm:=I HI.out.bl;go_wp2_with fail
     refine wp_region_held_drew (S:=fun W=>W.cell? ⟨w.heap.size,0,G⟩=H (C A d.fs.length c)∧W.cell? ⟨w.heap.size,1,G⟩=H (C B d.q.length e2)∧W.cell? ⟨w.heap.size,2,G⟩=H (E J d.quota)∧W.cell? ⟨w.heap.size,3,G⟩=H (E J d.fuse)∧W.cell? ⟨w.heap.size,4,G⟩=H (N d.dead)) (by kernel_rfl) ⟨g0,g1,g2,g3,g4⟩ (fun _=>?_)
     by_cases h4:d.q.length≤400
     case neg =>
      have JB:decide (((d.q.length:Nat):Int)≤400)=false:=by simp;omega
      have hf:false=R:=by rw[←Ho.out];simp[h4]
      subst hf;clear Ho h4;refine tkN 0 ?_;refine tkN 1 ?_;refine tkN 2 ?_;refine tkN 3 ?_;refine tkN 4 ?_;refine tkS 5 ?_;refine tkS 6 ?_;refine tkS 7 ?_;refine tkN 8 ?_;refine tkN 9 ?_;refine tkS 10 ?_;refine tkS 11 ?_;refine tkS 12 ?_
      exact mcR5ca1
     have JB:decide (((d.q.length:Nat):Int)≤400)=true:=by simp;omega
     have Hp:=I (show (decide (0≤d.quota)&&decide (0≤d.fuse)&&decide ((tot d.now:Int)≤d.quota))=R from by rw[←Ho.out];simp[h4])
     clear Ho h4
     by_cases hq0:0≤d.quota
     case neg =>
      have KT:decide (0≤d.quota)=false:=by simpa using hq0
      have hf:false=R:=by rw[←Hp.out,KT];rfl
      subst hf;clear Hp hq0;refine tkN 0 ?_;refine tkN 1 ?_;refine tkN 2 ?_;refine tkN 3 ?_;refine tkN 4 ?_;refine tkN 5 ?_;refine tkN 6 ?_;refine tkN 7 ?_;refine tkN 8 ?_;refine tkN 9 ?_;refine tkS 10 ?_;refine tkS 11 ?_;refine tkS 12 ?_
      exact mcR5ca1
     have KT:decide (0≤d.quota)=true:=by simpa using hq0
     have Hq:=I (show (decide (0≤d.fuse)&&decide ((tot d.now:Int)≤d.quota))=R from by rw[←Hp.out,KT];rfl)
     clear Hp hq0
     by_cases hf0:0≤d.fuse
     case neg =>
      have KO:decide (0≤d.fuse)=false:=by simpa using hf0
      have hf:false=R:=by rw[←Hq.out,KO];rfl
      subst hf;clear Hq hf0;refine tkN 0 ?_;refine tkN 1 ?_;refine tkN 2 ?_;refine tkN 3 ?_;refine tkN 4 ?_;refine tkN 5 ?_;refine tkN 6 ?_;refine tkN 7 ?_;refine tkN 8 ?_;refine tkN 9 ?_;refine tkN 10 ?_;refine tkN 11 ?_;refine tkN 12 ?_
      exact mcR5ca1
     have KO:decide (0≤d.fuse)=true:=by simpa using hf0
     have KE:=I (show decide ((tot d.now:Int)≤d.quota)=R from by rw[←Hq.out,KO];rfl)
     clear Hq hf0;refine tkN 0 ?_;refine tkN 1 ?_;refine tkN 2 ?_;refine tkN 3 ?_;refine tkN 4 ?_;refine tkN 5 ?_;refine tkN 6 ?_;refine tkN 7 ?_;refine tkN 8 ?_;refine tkN 9 ?_;refine tkN 10 ?_;refine tkN 11 ?_;refine tkN 12 ?_;refine tkN 13 ?_;refine tkN 14 ?_;refine tkN 15 ?_;refine tkN 17 ?_;refine tkN 18 ?_
     refine ar1 16 (fun K hK=>?_)
     go_simp
     refine (zqE _ d _ (show DkV _ _ d from ⟨_,_,rfl,HF.out.ext (xD HE.out),HQ.out.ext (xD HE.out)⟩) hl Jh.out Jr.out).mono ?_
     rintro e w2 ⟨rfl,K9⟩;have HY:=xT (xD (xR _)) K9;have Hx:=I (xT HE.out HY);clear g0 g1 g2 g3 g4;obtain ⟨g0,g1,g2,g3,g4⟩:=zaa (Hm.out.ext HY);clear HY K9
     refine shK hK _ _ ⟨g0,g1,g2,g3,g4⟩ (fun _=>?_)
     refine tkN 19 ?_;refine tkN 20 ?_;refine tkN 21 ?_;refine wdD ?_;go_wp2_with fail;go_ret
     exact ⟨by rw[←KE.out];rfl,Hx.out⟩
theorem zgC {A:Option Addr} {n c:Nat} {B:Option Addr} {m e:Nat} {q f:Int} {d:Bool} {k:Nat} {u:Value} (h:(zan A n c B m e q f d)[k]?=H u):(∃ x,u=E J x)∨(∃ A n c,u=C A n c)∨∃ b,u=.bool b:=by
 match k,h with
 | 0,h | 1,h=>exact .inr (.inl ⟨_,_,_,by injection h with h;exact h.symm⟩)
 | 2,h | 3,h=>exact .inl ⟨_,by injection h with h;exact h.symm⟩
 | 4,h=>exact .inr (.inr ⟨_,by injection h with h;exact h.symm⟩)
 | k+5,h=>simp[zan] at h
theorem ze0 {W:World} {b:Nat} {p:Addr} {u:Value} (h:W.cell? p=H u) (hp:p.block≠b) (a' v' u' x' y':Value):(zaR W b a' v' u' x' y').cell? p=H u:=by
 have hh:(zaR W b a' v' u' x' y').heap[p.block]?=W.heap[p.block]?:=by
  unfold zaR;rw[P0 _ _ _ _ hp,P0 _ _ _ _ hp,P0 _ _ _ _ hp,P0 _ _ _ _ hp,P0 _ _ _ _ hp]
 unfold World.cell? at h ⊢
 rw[hh]
 exact h
theorem Fs.setBox {W:World} {b:Nat} {t:TypeId} {A:Option Addr} {n c:Nat} {B:Option Addr} {m e:Nat} {q f:Int} {d:Bool} (hb:Blk W b t (zan A n c B m e q f d)) {v:Value} {fs:List Fil} (h:Fs W v fs) (a' v' u' x' y':Value):Fs (zaR W b a' v' u' x' y') v fs:=by
 obtain ⟨vs,h1,h2⟩:=h
 refine ⟨vs,?_,fun i hi=>?_⟩
 ·obtain ⟨hl,A',c',rfl,H7,Hb,hc⟩:=h1
  refine ⟨hl,A',c',rfl,H7,Hb,fun h0=>?_⟩
  obtain ⟨b',H4,rfl,H8⟩:=hc h0
  refine ⟨b',H4,rfl,fun j u hu=>ze0 (H8 j u hu) ?_ _ _ _ _ _⟩
  rintro rfl
  rcases zgC (zgz hb (H8 0 _ (h2 0 h0).1)) with ⟨x,hx⟩ | ⟨_,_,_,hx⟩ | ⟨_,hx⟩ <;> cases hx
 ·obtain ⟨h3,u,h4,h5⟩:=h2 i hi
  refine ⟨h3,u,h4,?_⟩
  obtain ⟨hl,A',c',rfl,H7,Hb,hc⟩:=h5
  refine ⟨hl,A',c',rfl,H7,Hb,fun h0=>?_⟩
  obtain ⟨b',H4,rfl,H8⟩:=hc h0
  refine ⟨b',H4,rfl,fun j u hu=>ze0 (H8 j u hu) ?_ _ _ _ _ _⟩
  rintro rfl
  rcases zgC (zgz hb (H8 0 _ (by rw[List.getElem?_map,List.getElem?_eq_getElem h0];rfl))) with ⟨x,hx⟩ | ⟨_,_,_,hx⟩ | ⟨_,hx⟩ <;> cases hx
theorem mcR6aa0 {P:Prop} (h:P:=by
 have Hu:=zaE (P:=M) _ 33 9 5 Tryz.underlying33 Tryz.underlying5 Tryz.underlying9 (SlR.ext Kt.out Hd);have Hv:=zaE (P:=M) _ 33 9 5 Tryz.underlying33 Tryz.underlying5 Tryz.underlying9 (SlR.ext Ku.out Hd);have Ky:=I Hd;clear HP HZ K8 Hd;go_wp2_with fail
 go_roundw
 case rel=>exact ⟨k+1,by omega,by go_num,xT HX.out Ky.out⟩
 case measure=>simp[intOf];omega):P:=h
theorem zne (va vb:Value) (fs:List Fil) (w:World) (hA:Fs w va fs) (hB:Fs w vb fs) (hl:fs.length≤4000000) :
  Calls M 57 #[va,vb] w fun e w'=>e=.returned (N true)∧Ext w w':=by
 obtain ⟨A,c,rfl,_,_⟩:=Fs.open_ hA;obtain ⟨B,e2,rfl,_,_⟩:=Fs.open_ hB;have HA:=I hA;have HB:=I hB;clear hA hB
 go_enter Tryz.func57,Tryz.ntmps57
 go_wp2_with fail
 go_loopw [5] (fun i wr=>∃ k:Nat,k≤fs.length∧i=E J k∧Hid (Ext w wr)) (fun i _=>fs.length-(intOf i).toNat)
 case atStart=>exact ⟨0,Pb _,rfl,xR _⟩
 case round =>
  obtain ⟨k,hk,rfl,HX⟩:=hrel
  by_cases hlt:k<fs.length
  ·have KP:(k:Int)<(fs.length:Int):=by omega
   obtain ⟨_,b1,o1,KH,H7⟩:=(HA.out.ext HX.out).at_ (by omega);subst KH;obtain ⟨_,b2,o2,KI,Hb⟩:=(HB.out.ext HX.out).at_ (by omega);subst KI;obtain ⟨c0,B1,d1,c1,Hs⟩:=H7 k hlt;obtain ⟨e0,B2,d2,e1,HW⟩:=Hb k hlt;have Hu:=zaE (P:=M) wr.drew 33 9 5 Tryz.underlying33 Tryz.underlying5 Tryz.underlying9 (SlR.ext Hs (xD (xR _)));have Hv:=zaE (P:=M) wr.drew 33 9 5 Tryz.underlying33 Tryz.underlying5 Tryz.underlying9 (SlR.ext HW (xD (xR _)));unfold sv at c0 e0;clear H7 Hb Hs HW
   generalize fs[k]=x at *
   obtain ⟨xn,xb⟩:=x;dsimp only at c0 c1 e0 e1 Hu Hv;go_wp2_with fail
   refine wp_region_held_drew (S:=fun W=>W.cell? ⟨b1,o1+k*2,G⟩=H (D ⟨xn.toArray⟩)∧W.cell? ⟨b1,o1+k*2+1,G⟩=H (C B1 xb.length d1)∧W.cell? ⟨b2,o2+k*2,G⟩=H (D ⟨xn.toArray⟩)∧W.cell? ⟨b2,o2+k*2+1,G⟩=H (C B2 xb.length d2)∧(convert 33 9 (C B1 xb.length d1)).run M W=.ok (D ⟨xb.toArray⟩) W∧(convert 33 9 (C B2 xb.length d2)).run M W=.ok (D ⟨xb.toArray⟩) W) (by kernel_rfl) ⟨c0,c1,e0,e1,Hu,Hv⟩ (fun _=>?_)
   clear c0 c1 e0 e1 Hu Hv;refine tkN 0 ?_;refine tkN 1 ?_;refine tkN 2 ?_;refine tkN 3 ?_;refine tkN 4 ?_;refine tkN 5 ?_;refine tkN 6 ?_;refine tkN 7 ?_;refine tkN 8 ?_;refine tkN 9 ?_;refine tkN 10 ?_;refine tkN 11 ?_;refine tkN 12 ?_;refine tkN 13 ?_;refine tkN 14 ?_;refine tkN 15 ?_;refine tkN 16 ?_;refine tkN 17 ?_;refine tkN 18 ?_;refine tkN 19 ?_;refine tkN 20 ?_;refine tkN 21 ?_;refine tkN 22 ?_;refine tkN 23 ?_;refine tkN 24 ?_;refine tkN 25 ?_;refine wdD ?_;go_wp2_with fail
   go_roundw
   case rel=>exact ⟨k+1,by omega,by go_num,xD HX.out⟩
   case measure=>simp[intOf];omega
  ·obtain rfl:k=fs.length:=by omega
   go_wp2_with fail;go_ret
   exact ⟨rfl,HX.out⟩
theorem zoQ (va vb:Value) (d:Dk) (w:World) (hA:DkV w va d) (hB:DkV w vb d) (hl:d.fs.length≤4000000) (JU:d.q.length≤4000000) :
  Calls M 19 #[va,vb] w fun e w'=>e=.returned (N true)∧Ext w w':=by
 obtain ⟨vf,vq,rfl,hF,hQ⟩:=hA;obtain ⟨JX,JY,rfl,KJ,KK⟩:=hB;obtain ⟨A,c,rfl,_,_⟩:=Fs.open_ hF;obtain ⟨B,e2,rfl,_,_⟩:=Qs.open_ hQ;obtain ⟨A',c',rfl,_,_⟩:=Fs.open_ KJ;obtain ⟨B',HV,rfl,_,_⟩:=Qs.open_ KK;obtain ⟨W0,Hk⟩:∃ W0,(w.alloc (L #[C A d.fs.length c,C B d.q.length e2,E J d.quota,E J d.fuse,N d.dead] 25)).alloc (L #[C A' d.fs.length c',C B' d.q.length HV,E J d.quota,E J d.fuse,N d.dead] 25)=W0:=⟨_,rfl⟩
 have H5:Ext w W0:=by rw[←Hk];exact xA (xA (xR _) _) _
 have H3:Blk W0 w.heap.size 25 #[C A d.fs.length c,C B d.q.length e2,E J d.quota,E J d.fuse,N d.dead]:=by rw[←Hk];exact (P2 w _ _).alloc _
 have Hc:Blk W0 (w.heap.size+1) 25 #[C A' d.fs.length c',C B' d.q.length HV,E J d.quota,E J d.fuse,N d.dead]:=by
  rw[←Hk]
  have:=P2 (w.alloc (L #[C A d.fs.length c,C B d.q.length e2,E J d.quota,E J d.fuse,N d.dead] 25)) 25 #[C A' d.fs.length c',C B' d.q.length HV,E J d.quota,E J d.fuse,N d.dead]
  rw[xS] at this
  exact this
 have HF:=I (hF.ext H5);have Jn:=I (KJ.ext H5);have HQ:=I (hQ.ext H5);have Ju:=I (KK.ext H5);have Ks:=I H3;have K2:=I Hc;have HE:=I H5;obtain ⟨g0,g1,g2,g3,g4⟩:=zaa H3;obtain ⟨j0,j1,j2,j3,j4⟩:=zaa Hc;clear hF KJ hQ KK H5 H3 Hc
 go_enter Tryz.func19,Tryz.ntmps19
 go_wp2_with fail;clear Hk
 refine (zne _ _ d.fs _ HF.out Jn.out hl).mono ?_
 rintro e w1 ⟨rfl,H9⟩;have Kx:=I H9;clear H9 g0 g1 g2 g3 g4 j0 j1 j2 j3 j4;go_wp2_with fail
 go_loopw [5] (fun i wr=>∃ k:Nat,k≤d.q.length∧i=E J k∧Hid (Ext w1 wr)) (fun i _=>d.q.length-(intOf i).toNat)
 case atStart=>exact ⟨0,Pb _,rfl,xR _⟩
 case round =>
  obtain ⟨k,hk,rfl,HX⟩:=hrel;have Hz:=I (xT Kx.out HX.out);obtain ⟨g0,g1,g2,g3,g4⟩:=zaa (Ks.out.ext Hz.out);obtain ⟨j0,j1,j2,j3,j4⟩:=zaa (K2.out.ext Hz.out)
  by_cases hlt:k<d.q.length
  ·have KP:(k:Int)<(d.q.length:Int):=by omega
   obtain ⟨_,b1,o1,KH,H7⟩:=(HQ.out.ext Hz.out).at_ (by omega);subst KH;obtain ⟨_,b2,o2,KI,Hb⟩:=(Ju.out.ext Hz.out).at_ (by omega);subst KI;obtain ⟨c0,c1,c2,B1,d1,c3,Hs⟩:=H7 k hlt;obtain ⟨e0,e1,e3,B2,d2,e4,HW⟩:=Hb k hlt;unfold sv at c1 c2 e1 e3;clear H7 Hb;have HK:=I hk
   generalize d.q[k]=x at *
   obtain ⟨xk,xn,xt,xb⟩:=x;dsimp only at c0 c1 c2 c3 e0 e1 e3 e4 Hs HW;have Kt:=I Hs;have Ku:=I HW
   have HC:=I (show wr.cell? ⟨w.heap.size,1,G⟩=H (C (H ⟨b1,o1,G⟩) d.q.length e2)∧wr.cell? ⟨w.heap.size+1,1,G⟩=H (C (H ⟨b2,o2,G⟩) d.q.length HV)∧wr.cell? ⟨b1,o1+k*4,G⟩=H (E O xk)∧wr.cell? ⟨b1,o1+k*4+1,G⟩=H (D ⟨xn.toArray⟩)∧wr.cell? ⟨b1,o1+k*4+2,G⟩=H (D ⟨xt.toArray⟩)∧wr.cell? ⟨b1,o1+k*4+3,G⟩=H (C B1 xb.length d1)∧wr.cell? ⟨b2,o2+k*4,G⟩=H (E O xk)∧wr.cell? ⟨b2,o2+k*4+1,G⟩=H (D ⟨xn.toArray⟩)∧wr.cell? ⟨b2,o2+k*4+2,G⟩=H (D ⟨xt.toArray⟩)∧wr.cell? ⟨b2,o2+k*4+3,G⟩=H (C B2 xb.length d2) from ⟨g1,j1,c0,c1,c2,c3,e0,e1,e3,e4⟩)
   clear Hs HW c0 c1 c2 c3 e0 e1 e3 e4 HK;go_wp2_with fail;clear g0 g1 g2 g3 g4 j0 j1 j2 j3 j4
   refine wp_region_held_drew (S:=fun W=>W.cell? ⟨w.heap.size,1,G⟩=H (C (H ⟨b1,o1,G⟩) d.q.length e2)∧W.cell? ⟨w.heap.size+1,1,G⟩=H (C (H ⟨b2,o2,G⟩) d.q.length HV)∧W.cell? ⟨b1,o1+k*4,G⟩=H (E O xk)∧W.cell? ⟨b1,o1+k*4+1,G⟩=H (D ⟨xn.toArray⟩)∧W.cell? ⟨b1,o1+k*4+2,G⟩=H (D ⟨xt.toArray⟩)∧W.cell? ⟨b1,o1+k*4+3,G⟩=H (C B1 xb.length d1)∧W.cell? ⟨b2,o2+k*4,G⟩=H (E O xk)∧W.cell? ⟨b2,o2+k*4+1,G⟩=H (D ⟨xn.toArray⟩)∧W.cell? ⟨b2,o2+k*4+2,G⟩=H (D ⟨xt.toArray⟩)∧W.cell? ⟨b2,o2+k*4+3,G⟩=H (C B2 xb.length d2)) (by kernel_rfl) HC.out (fun _=>?_)
   refine tkN 0 ?_;refine tkN 1 ?_;refine tkN 2 ?_;refine tkN 3 ?_;refine tkN 4 ?_;refine tkN 5 ?_;refine tkN 6 ?_;refine tkN 7 ?_;refine tkN 8 ?_;refine tkN 9 ?_
   have Hy:=I (fun W (h:Ext wr W)=>show W.cell? ⟨w.heap.size,1,G⟩=H (C (H ⟨b1,o1,G⟩) d.q.length e2)∧W.cell? ⟨w.heap.size+1,1,G⟩=H (C (H ⟨b2,o2,G⟩) d.q.length HV)∧W.cell? ⟨b1,o1+k*4,G⟩=H (E O xk)∧W.cell? ⟨b1,o1+k*4+1,G⟩=H (D ⟨xn.toArray⟩)∧W.cell? ⟨b1,o1+k*4+2,G⟩=H (D ⟨xt.toArray⟩)∧W.cell? ⟨b1,o1+k*4+3,G⟩=H (C B1 xb.length d1)∧W.cell? ⟨b2,o2+k*4,G⟩=H (E O xk)∧W.cell? ⟨b2,o2+k*4+1,G⟩=H (D ⟨xn.toArray⟩)∧W.cell? ⟨b2,o2+k*4+2,G⟩=H (D ⟨xt.toArray⟩)∧W.cell? ⟨b2,o2+k*4+3,G⟩=H (C B2 xb.length d2) from by obtain ⟨p0,p1,p2,p3,p4,p5,p6,p7,p8,p9⟩:=HC.out;exact ⟨h.cell p0,h.cell p1,h.cell p2,h.cell p3,h.cell p4,h.cell p5,h.cell p6,h.cell p7,h.cell p8,h.cell p9⟩)
   have K8:Ext wr wr.drew:=xD (xR _)
   clear HC
   refine AllReadyH.two (i:=10) (j:=11) rfl rfl (by kernel_rfl) (by rfl) (by rfl) (fun K hK=>?_) (fun K hK=>?_)
   ·go_simp
    refine shK hK _ _ (Hy.out _ (xA K8 _)) (fun _=>?_)
    refine ar1 11 (fun K hK=>?_)
    go_simp
    refine shK hK _ _ (Hy.out _ (xA (xA K8 _) _)) (fun _=>?_)
    refine ar1 12 (fun K hK=>?_)
    go_simp
    refine shK hK _ _ (Hy.out _ (xD (xA (xA (xR _) _) _))) (fun _=>?_)
    refine ar1 13 (fun K hK=>?_)
    go_simp
    refine shK hK _ _ (Hy.out _ (xD (xA (xA (xR _) _) _))) (fun _=>?_)
    refine wdD ?_
    have Hd:Ext wr ((wr.alloc (L #[E O xk,D ⟨xn.toArray⟩,D ⟨xt.toArray⟩,C B1 xb.length d1] 98)).alloc (L #[E O xk,D ⟨xn.toArray⟩,D ⟨xt.toArray⟩,C B2 xb.length d2] 98)).drew:=xD (xA (xA (xR _) _) _)
    have HP:=((P2 wr 98 #[E O xk,D ⟨xn.toArray⟩,D ⟨xt.toArray⟩,C B1 xb.length d1]).alloc (L #[E O xk,D ⟨xn.toArray⟩,D ⟨xt.toArray⟩,C B2 xb.length d2] 98)).ext (xD (xR _));have HZ:=(P2 (wr.alloc (L #[E O xk,D ⟨xn.toArray⟩,D ⟨xt.toArray⟩,C B1 xb.length d1] 98)) 98 #[E O xk,D ⟨xn.toArray⟩,D ⟨xt.toArray⟩,C B2 xb.length d2]).ext (xD (xR _));rw[xS] at HZ;obtain ⟨x0,x1,x2,x3⟩:=blk4 HP;obtain ⟨y0,y1,y2,y3⟩:=blk4 HZ
    exact mcR6aa0
   ·go_simp
    refine shK hK _ _ (Hy.out _ (xA K8 _)) (fun _=>?_)
    refine ar1 10 (fun K hK=>?_)
    go_simp
    refine shK hK _ _ (Hy.out _ (xA (xA K8 _) _)) (fun _=>?_)
    refine ar1 12 (fun K hK=>?_)
    go_simp
    refine shK hK _ _ (Hy.out _ (xD (xA (xA (xR _) _) _))) (fun _=>?_)
    refine ar1 13 (fun K hK=>?_)
    go_simp
    refine shK hK _ _ (Hy.out _ (xD (xA (xA (xR _) _) _))) (fun _=>?_)
    refine wdD ?_
    have Hd:Ext wr ((wr.alloc (L #[E O xk,D ⟨xn.toArray⟩,D ⟨xt.toArray⟩,C B2 xb.length d2] 98)).alloc (L #[E O xk,D ⟨xn.toArray⟩,D ⟨xt.toArray⟩,C B1 xb.length d1] 98)).drew:=xD (xA (xA (xR _) _) _)
    have HP:=((P2 wr 98 #[E O xk,D ⟨xn.toArray⟩,D ⟨xt.toArray⟩,C B2 xb.length d2]).alloc (L #[E O xk,D ⟨xn.toArray⟩,D ⟨xt.toArray⟩,C B1 xb.length d1] 98)).ext (xD (xR _));have HZ:=(P2 (wr.alloc (L #[E O xk,D ⟨xn.toArray⟩,D ⟨xt.toArray⟩,C B2 xb.length d2] 98)) 98 #[E O xk,D ⟨xn.toArray⟩,D ⟨xt.toArray⟩,C B1 xb.length d1]).ext (xD (xR _));rw[xS] at HZ;obtain ⟨x0,x1,x2,x3⟩:=blk4 HZ;obtain ⟨y0,y1,y2,y3⟩:=blk4 HP
    exact mcR6aa0
  ·obtain rfl:k=d.q.length:=by omega
   go_wp2_with fail;go_ret
   exact ⟨rfl,xT HE.out Hz.out⟩
end Go.Proofs.YteggfecbjgbndaaGreatDoor
