/- Merged -/
import Derived.Test.YteggfecbjgbndaaGreatDoorZw33
import Derived.Test.YteggfecbjgbndaaGreatDoorZw34
set_option linter.all false
set_option maxHeartbeats 8000000
set_option maxRecDepth 100000
open Go.Value renaming int→C,slice→F,pointer→R
open Go.IntKind renaming i64→E
open Go.Obj renaming cells→G
open Go.Mv renaming zhd→H
open Option renaming some→I,none→O
open Go.Proofs.Tryz renaming prog→Q
open Array renaming getElem?_eq_some_iff→P0,replicate_zero→P1,replicate_succ→P2
open List renaming append_toArray→P3,size_toArray→P4,push_toArray→P5,append_assoc→P6,take_length→P7,cons_append→P8,map_append→P9,length_nil→Pa
open Nat renaming reduceSub→Pb,reduceAdd→Pc,zero_le→Pd
namespace Go.Proofs.YteggfecbjgbndaaGreatDoor
open Go.RowKit Go.Mv Go.Shelf
theorem znI (m:Mf) (A:Option Addr) (n c:Nat) (w:World):Calls Q 118 #[.agg #[C E m.next,C E m.term,C E m.vote,C E m.sq,C E m.sf,F A n c]] w fun e w'=>e=.returned (.func (.func 179) #[] #[R (I ⟨w.heap.size,0,O⟩)])∧w.alloc (G (mfC m (F A n c)) 30)=w':=by
 unfold mfC
 go_enter Tryz.func118,Tryz.ntmps118
 go_wp2
 go_ret
 exact ⟨rfl,rfl⟩
theorem ztZ {n k:Nat} (h:k<n):n-(intOf (C E ((k:Int)+1))).toNat<n-(intOf (C E (k:Int))).toNat:=by simp[intOf];omega
theorem zt0 {n k:Nat} (h:k<n) (hb:n≤1000000):n-(intOf (C E (wrap64 ((k:Int)+1)))).toNat<n-(intOf (C E (k:Int))).toNat:=by
 rw[show wrap64 ((k:Int)+1)=(k:Int)+1 by unfold wrap64;omega]
 exact ztZ h
theorem zuP {n k:Nat} (h:k<n) (hb:n≤1000000):C E (wrap64 ((k:Int)+1))=C E ((k+1:Nat):Int):=by
 rw[show wrap64 ((k:Int)+1)=((k+1:Nat):Int) by unfold wrap64;omega]
def ze3 (m:Mf):List Int:=[m.next,m.term,m.vote,m.sq,m.sf,(m.segs.length:Int)]
theorem znF (m:Mf) (k:Nat) (h:k<m.segs.length):ze3 m++zbW (m.segs.take (k+1))=(ze3 m++zbW (m.segs.take k))++[m.segs[k].seq,m.segs[k].fmt,m.segs[k].first,m.segs[k].count+1]:=by rw[ziU _ _ h,P6]
def NuK (bo n0:Nat) (k:Nat) (o:Obj):Prop:=o.isCells=true∧k≠bo∧(k<n0∨o.ty≠some 5)
attribute [local go_sem] Oper.semAt_some in
theorem zmm (wo W0:World) (m:Mf) (v:Value) (hS:Sgs wo v m.segs) (hl:m.segs.length≤60) (H4:∀ s∈m.segs,-1≤s.count∧s.count≤4) (K7:Ext wo W0) (B bo n0:Nat) (hB:Blk W0 B 30 (mfC m v)) (J9:B≠bo) (Ji:wo.heap.size≤n0) (Jh:wo.heap.size≤bo) (Jb:bo<W0.heap.size) :
  Seq Q 179 #[R (I ⟨B,0,O⟩)] (fun (x:Int) av _=>av = #[C E x]) (NuK bo n0) (fun _ _=>False) (zbU m) W0:=by
 intro lp J Jx hJ Ja hY h0;obtain ⟨A,c,rfl,_,_⟩:=hS.open_;obtain ⟨N,hN⟩:∃ N,zbU m=N:=⟨_,rfl⟩
 rw[hN] at hY ⊢
 have Hi:=H hN;clear hN
 refine (callsIn_wd (ro:=none) (n:=9)).1 ?_
 refine callsIn_of_wp Tryz.func179 rfl trivial ?_ rfl
 simp only[Tryz.ntmps179,P4,xC,Pa,Pc,Pb,P2,P1,P5,P3,xI,P8]
 obtain ⟨m0,m1,m2,m3,m4,m5⟩:=zag (show Blk W0 B 30 #[C E m.next,C E m.term,C E m.vote,C E m.sq,C E m.sf,F A m.segs.length c] from hB)
 have HS:=H hS;have HY:=H hY;have KN:=H H4;have KO:=H K7;have hO:=zaG W0 ((ze3 m).map iv) 3 6 rfl (by simp[maxLen]) (xN _)
 have Hs:Ext W0 (W0.alloc (G #[C E m.next,C E m.term,C E m.vote,C E m.sq,C E m.sf,C E (m.segs.length:Int)] 3)):=xA (xR _) _
 have HO:Hid (OwnI (W0.alloc (G #[C E m.next,C E m.term,C E m.vote,C E m.sq,C E m.sf,C E (m.segs.length:Int)] 3)) W0.heap.size (F (I ⟨W0.heap.size,0,O⟩) 6 6) (ze3 m)):=H hO
 have HR:=H Hs;have HB:=H hB;obtain ⟨i0,hi,HI,HK,HL⟩:=info_parts zgY;have k5:=Hs.cell m5
 have KZ:J [] (W0.alloc (G #[C E m.next,C E m.term,C E m.vote,C E m.sq,C E m.sf,C E (m.segs.length:Int)] 3)):=hJ _ _ _ h0 (Moves.refl.alloc _)
 clear hS hY H4 K7 hO hB Hs KZ
 gi_wp2
 clear m0 m1 m2 m3 m4 m5 k5
 gi_loopw [3,27] (fun v3 HQ W=>∃ (k:Nat) (A':Option Addr) (c' n6:Nat),k≤m.segs.length∧HQ=C E k∧v3=F A' n6 c'∧Hid (n6=6+4*k)∧Hid (OwnI W W0.heap.size v3 (ze3 m++zbW (m.segs.take k)))∧Hid (Ext W0 W)) (fun _ HQ _=>m.segs.length-(intOf HQ).toNat)
 case atStart=>exact ⟨0,_,_,6,Pd _,rfl,rfl,rfl,by simpa [zbW] using HO,HR⟩
 case round =>
  clear HO HR;obtain ⟨k,A',c',n6,hk,rfl,rfl,HZ,HO,HX⟩:=hrel
  have H1:(ze3 m++zbW (m.segs.take k)).length=6+4*k:=by rw[xL,zeg,List.length_take,Nat.min_eq_left hk];rfl
  by_cases hlt:k<m.segs.length
  ·obtain ⟨_,bs,of,rfl,H0⟩:=Sgs.at_ (HS.out.ext (xT KO.out HX.out)) (by omega)
   obtain ⟨d0,d1,d2,d3⟩:=H0 k hlt;have Hg:=znF m k hlt;have H4:=KN.out _ (List.getElem_mem hlt);have Hq:=H Hg;have H8:=H H1;clear H0 Hg H1
   generalize ze3 m++zbW (m.segs.take k)=L at *
   generalize m.segs[k]=s at *
   have hw:wrap64 (s.count+1)=s.count+1:=by unfold wrap64;omega
   have X1:Ext wr (wr.alloc (G #[C E s.seq,C E s.fmt,C E s.first,C E s.count] 36)):=xA (xR _) _
   have X2:Ext wr ((wr.alloc (G #[C E s.seq,C E s.fmt,C E s.first,C E s.count] 36)).alloc (G #[C E s.seq,C E s.fmt,C E s.first,C E (s.count+1)] 3)):=xA X1 _
   have hn:=zaG (wr.alloc (G #[C E s.seq,C E s.fmt,C E s.first,C E s.count] 36)) ([s.seq,s.fmt,s.first,s.count+1].map iv) 3 4 rfl (by simp[maxLen]) (xN _);rw[xS] at hn
   have HN:Hid (SlR ((wr.alloc (G #[C E s.seq,C E s.fmt,C E s.first,C E s.count] 36)).alloc (G #[C E s.seq,C E s.fmt,C E s.first,C E (s.count+1)] 3)) 1 (F (I ⟨wr.heap.size+1,0,O⟩) 4 4) 4 ([s.seq,s.fmt,s.first,s.count+1].map iv)):=H (xW hn)
   have K2:Hid (World.ownsRow _ W0.heap.size 3 1 (F A' n6 c') L.length (L.map iv)):=H (zab HO.out X2)
   have K3:=H (xT HX.out X2);have Ke:=Blk.new wr 36 #[C E s.seq,C E s.fmt,C E s.first,C E s.count];obtain ⟨x0,x1,x2,x3⟩:=zaK Ke;clear X1 X2 hn Ke H4
   gi_wp2_with (gi_at_builtin;refine zb9 _ rfl (.tmp 31) (.tmp 41) 64 rfl W0.heap.size 3 i0 _ 1 8 Tryz.underlying64 hi HI HK HL rfl (by decide) _ L.length (L.map iv) rfl K2.out _ 4 ([s.seq,s.fmt,s.first,s.count+1].map iv) rfl HN.out (zrs _) (by rw[H8.out];unfold maxLen;omega) (by rw[H8.out];omega) K3.out.size ?_;intro v3 w3 Ki KY;obtain ⟨A3,c3,rfl,_,_⟩:=xO (xW Ki))
   have KX:=Ext.grownOwn K3.out K2.out KY
   refine ⟨⟨k+1,A3,c3,_,by omega,by go_num,rfl,by (unfold Hid;rw[H8.out];omega),?_,KX⟩,by simp[intOf];omega⟩
   unfold Hid OwnI;rw[Hq.out,xL,P9]
   exact Ki
  ·obtain rfl:k=m.segs.length:=by omega
   have ho:=HO.out
   rw[P7,show ze3 m++zbW m.segs=N from Hi.out] at ho
   rw[P7,show ze3 m++zbW m.segs=N from Hi.out] at H1
   have Kh:J [] wr:=hJ _ _ _ h0 ⟨HX.out.os,HX.out.tape,HX.out.output,HX.out.size,fun k o hk _=>(HX.out.block k (P0.1 hk).1).trans hk⟩
   have HO:=H ho;have HJ:=H Kh;have H8:=H H1
   have K0:=H (show N.length≤1000000 by omega)
   have hz:=HX.out.size;clear ho Kh HX H1
   gi_wp2
   gi_loopw [7,46] (fun _ v46 W=>∃ k:Nat,k≤N.length∧v46=C E k∧Hid (J (N.take k) W)∧Hid (W.ownsRow W0.heap.size 3 1 (F A' n6 c') N.length (N.map iv))∧W0.heap.size≤W.heap.size) (fun _ v46 _=>N.length-(intOf v46).toNat)
   case atStart=>exact ⟨0,Pd _,rfl,HJ,HO,hz⟩
   case round =>
    clear HJ HO;obtain ⟨k,hk,rfl,HJ,HO,Kb⟩:=hrel;have J1:=H8.out
    by_cases hlt:k<N.length
    ·obtain ⟨J3,b,J5,rfl,Kf⟩:=(xW HO.out).at_ (by omega)
     clear J3;have Hx:=Kf k (iv N[k]) (by rw[List.getElem?_map,List.getElem?_eq_getElem hlt];rfl)
     have HG:N=N.take k++N[k]::N.drop (k+1):=by rw[←List.drop_eq_getElem_cons hlt,List.take_append_drop]
     have Hg:N.take (k+1)=N.take k++[N[k]]:=List.take_succ_eq_append_getElem hlt
     have hy:=HY.out (N.take k) N[k] _ HG wr #[C E N[k]] HJ.out Kb rfl;have Hy:=H hy;have Hq:=H Hg;have KT:=H HG;clear hy Hg HG Kf
     generalize N[k]=x at *
     simp only[iv,Nat.mul_one] at Hx
     have J0:(k:Int)<(n6:Int):=by have:=HZ.out;omega
     have Ho:=H hlt;clear J1 hlt
     gi_wp2
     refine zbh Hy.out ?_
     rintro e W' ⟨Hk,⟨rfl,hj⟩ | ⟨rfl,hj⟩⟩
     ·refine ⟨true,rfl,?_⟩
      have Hn:=H hj
      have Hc:W'.ownsRow W0.heap.size 3 1 (F (I ⟨b,J5,O⟩) n6 c') N.length (N.map iv):=by
       have h:=HO.out
       refine ⟨h.1,?_⟩
       rcases h.2 with hn | ⟨g,cap,K6,e,hb,hgg,rest⟩
       ·exact .inl hn
       ·exact .inr ⟨g,cap,K6,e,hb,Hk.same _ _ hgg (.inl ⟨rfl,by omega,.inr (by simp[Obj.ty])⟩),rest⟩
      have KP:=H Hc;have Hu:=Nat.le_trans Kb Hk.size;clear hj Hk Hy Hx Hc
      gi_wp2
      exact ⟨⟨k+1,Ho.out,zuP Ho.out K0.out,by rw[Hq.out];exact Hn.out,KP,Hu⟩,zt0 Ho.out K0.out⟩
     ·refine ⟨false,rfl,?_⟩
      have Hn:=H hj;clear hj Hk Hy Hx
      gi_wp2
      refine bodyPost_ret (results_none rfl _ _ _) rfl ?_
      refine ⟨⟨_,rfl⟩,.inr ⟨N.take k++[x],⟨N.drop (k+1),?_⟩,Hn.out⟩⟩
      rw[P6]
      exact KT.out.symm
    ·have J0:¬ (k:Int)<(n6:Int):=by have:=HZ.out;omega
     have Ha:J N wr:=by
      have:=HJ.out
      rwa [List.take_of_length_le (by omega)] at this
     have Hm:=H Ha;clear Ha
     gi_wp2
     refine bodyPost_end (results_none rfl _ _ _) rfl ?_
     exact ⟨⟨_,rfl⟩,.inl Hm.out⟩
theorem zmj (tmps:Array Value) (W:World) (a b:Value) (h2:tmps.getD 2 undef=a) (h3:tmps.getD 3 undef=b):(results Tryz.f60 tmps).run Q W=.ok (.tuple #[a,b]) W:=by
 have KU:tmps[2]?.getD undef=a:=by simpa using h2
 have KV:tmps[3]?.getD undef=b:=by simpa using h3
 simp[results,Tryz.results60,KU,KV]
structure MpI (w:World) (bo base:Nat) (H2:List Int) (X:World):Prop where
 bx:∃ v,Boxed X bo 33 v∧OwnB X base v (77::zao H2)
 e:Ext w X
attribute [local go_sem] Oper.semAt_some in
theorem zlK (m:Mf) (v:Value) (w:World) (hS:Sgs w v m.segs) (hT:StW w) :
  Calls Q 60 #[.agg #[C E m.next,C E m.term,C E m.vote,C E m.sq,C E m.sf,v]] w (ztr w (zbH m)):=by
 obtain ⟨A,c,rfl,Jc,Jd⟩:=hS.open_;have Hv:=Blk.new w 30 #[C E m.next,C E m.term,C E m.vote,C E m.sq,C E m.sf,F A m.segs.length c]
 have hX:Ext w (w.alloc (G #[C E m.next,C E m.term,C E m.vote,C E m.sq,C E m.sf,F A m.segs.length c] 30)):=xA (xR _) _
 obtain ⟨m0,m1,m2,m3,m4,m5⟩:=zag Hv;have HS:=H hS;have K4:=zjq m (F A m.segs.length c) _ (hS.ext hX);have H3:=H K4;have HT:=H hT;have HX:=H hX;have Hb:=H Hv;clear K4 hS hT hX Hv
 refine (callsIn_wd (ro:=none) (n:=9)).1 ?_
 refine callsIn_of_wp_marks Tryz.func60 rfl trivial ?_ rfl
 simp only[Tryz.ntmps60,P4,xC,Pa,Pc,Pb,P2,P1,P5,P3,xI,P8]
 cases hck:zaF m with
 | false =>
  rw[hck] at H3
  have hr:zbH m=none:=by unfold zbH;rw[hck];rfl
  rw[hr];simp only[Bool.false_eq_true,if_false] at H3
  gi_wp2_with (refine ⟨trivial,?_⟩;gi_at_call 117;refine (callsIn_wd.2 H3.out).mono ?_;rintro e w1 ⟨rfl,H9⟩)
  exact ⟨.tuple #[F none 0 0,C E 2],zmj _ _ _ _ rfl rfl,⟨_,rfl,World.ownsRow_nil _ _ _ _⟩,xT HX.out H9⟩
 | true =>
  rw[hck] at H3;obtain ⟨P,hP⟩:∃ P,zaY rT (77::zao (zbU m))=P:=⟨_,rfl⟩
  have hr:zbH m=I P:=by unfold zbH;rw[hck,hP];rfl
  rw[hr];have HP:=H hP;have Hl:=H hck;clear hP;simp only[if_true] at H3
  gi_wp2_with (first
   | (refine ⟨trivial,?_⟩;gi_at_call 117;refine (callsIn_wd.2 H3.out).mono ?_;rintro e w1 ⟨rfl,H9⟩;have X2:Ext w1 ((w1.alloc (G #[C .u8 77] 5)).alloc (G #[F (I ⟨w1.heap.size,0,O⟩) 1 1] 33)):=xA (xA (xR w1) _) _;obtain ⟨p0,p1,p2,p3,p4,p5⟩:=zag (Hb.out.ext (xT H9 X2)))
   | (refine ⟨trivial,?_⟩;gi_at_call 118;refine (callsIn_wd.2 (znI m A m.segs.length c _)).mono ?_;rintro e w3 ⟨rfl,HH⟩))
  have Hw:=Boxed.new (w1.alloc (G #[C .u8 77] 5)) 33 (F (I ⟨w1.heap.size,0,O⟩) 1 1);rw[xS] at Hw
  have Kk:OwnB ((w1.alloc (G #[C .u8 77] 5)).alloc (G #[F (I ⟨w1.heap.size,0,O⟩) 1 1] 33)) w1.heap.size (F (I ⟨w1.heap.size,0,O⟩) 1 1) [77]:=zab (zaG w1 ([(77:UInt8)].map bv) 5 1 rfl (by simp[maxLen]) (xN _)) (xA (xR _) _)
  have Kd:=xT HX.out (xT H9 X2)
  have Hf:((w1.alloc (G #[C .u8 77] 5)).alloc (G #[F (I ⟨w1.heap.size,0,O⟩) 1 1] 33)).heap.size=w1.heap.size+1+1:=by simp
  generalize (w1.alloc (G #[C .u8 77] 5)).alloc (G #[F (I ⟨w1.heap.size,0,O⟩) 1 1] 33)=w2 at *
  have Hr:Ext w2 w3:=by rw[←HH];exact xA (xR _) _
  have Hj:Blk w3 w2.heap.size 30 (mfC m (F A m.segs.length c)):=by rw[←HH];exact Blk.new w2 _ _
  rw[Hf] at Hj
  have h0:MpI w (w1.heap.size+1) w1.heap.size [] w3:=⟨⟨_,Hw.kept (row:=none) (Ext.grown Hr none) (by simp),zab Kk Hr⟩,xT Kd Hr⟩
  have Ko:w.heap.size≤w1.heap.size:=by have:=(xT HX.out H9).size;exact this
  have J2:w1.heap.size+1+1<w3.heap.size:=Hj.lt
  clear Hf;obtain ⟨_,_,_,HD,_,h6⟩:=zfr Hl.out
  have H4:∀ s∈m.segs,-1≤s.count∧s.count≤4:=fun s hs=>by
   have:=zgf Hl.out s hs
   exact this.2.2
  have H5:=zjB Hl.out
  have Ht:(zbU m).length≤1000:=by unfold zbU;rw[xL,zeg];simp;omega
  have Kn:Hid (∀ W1,Ext w3 W1→Seq Q 179 #[R (I ⟨w1.heap.size+1+1,0,O⟩)] (fun (x:Int) av _=>av = #[C E x]) (NuK (w1.heap.size+1) w1.heap.size) (fun _ _=>False) (zbU m) W1) :=
   fun W1 hE=>zmm w W1 m (F A m.segs.length c) HS.out HD H4 (xT h0.e hE) (w1.heap.size+1+1) (w1.heap.size+1) w1.heap.size (Hj.ext hE) (by omega) Ko (by omega) (by have:=hE.size;omega)
  obtain ⟨N,hN⟩:∃ N,zbU m=N:=⟨_,rfl⟩;rw[hN] at Kn H5 Ht;have Hi:=H hN;have Hp:=H H5;have K1:=H Ht;obtain ⟨i0,hi,HI,HK,HL⟩:=info_parts zb0;clear HH Hw Kk Kd H4 hN H5 Ht p0 p1 p2 p3 p4 p5 m0 m1 m2 m3 m4 m5 Hj h6 X2 H3 Hb
  refine zig (n:=9) (Rp:=fun (x:Int) av _=>av = #[C E x]) (K:=NuK (w1.heap.size+1) w1.heap.size) (M:=fun _ _=>False) (xs:=N) (gf:=179) (lb:=#[R (I ⟨w1.heap.size+1+1,0,O⟩)]) (a:=⟨_,_⟩) ?hg ?eg ?hseq ?h1 ?h2 ?h3 (MpI w (w1.heap.size+1) w1.heap.size) (fun _ _ _=>False) ?hI (fun _ _ _ _ h _=>h) h0
   (fun x a' W=>∃ (u0 u1 u2 u3 u4 u7 u8 u9 Kq Kr Ks Kt Ku Kv Kw Kx Ky Kz KA KC KD KE KF KH KI KJ KK:Value),a'=⟨#[u0,u1,u2,u3,u4,R (I ⟨w1.heap.size+1,0,O⟩),C E x,u7,u8,u9,Kq,Kr,Ks,Kt,Ku,Kv,Kw,Kx,Ky,Kz,KA,KC,KD,KE,KF,KH,KI,KJ,KK],[]⟩) (fun _ _ _ _ h _=>h) ?assign ?body ?done ?stop
  case hg=>exact rfl
  case eg=>exact enters_of Tryz.func179 (by kernel_rfl) rfl
  case hseq=>exact fun W1 hb hs=>Kn.out W1 hb
  case h1=>exact fun k o h=>h.elim
  case h2=>exact fun k o h r e=>by rw[e] at h;cases h.1
  case h3=>exact fun x av W h=>by rw[h];rfl
  case hI =>
   rintro s X Y ⟨⟨u,hb,ho⟩,hE⟩ hm
   refine ⟨⟨u,hm.boxed hb ?_,hm.ownsRow ho ?_⟩,hm.belowOf hE ?_ (xN _)⟩
   ·rintro (h | h)
    ·exact h
    ·cases h.2
   ·intro k K6 _
    rintro (h | h)
    ·exact h
    ·cases h.2
   ·rintro k o hk (h | h)
    ·exact h
    ·have:=h.1;omega
  case assign =>
   rintro l' H2 x HM W av K' hx hI J4 rfl hK;clear hx
   gi_wp2
   exact hK _ _ Kept.refl hI ⟨_,_,_,_,_,_,_,_,_,_,_,_,_,_,_,_,_,_,_,_,_,_,_,_,_,_,_,rfl⟩
  case body =>
   rintro l' H2 x HM a' W hx Jf hr ⟨⟨u,hb,ho⟩,hE⟩ J4 ⟨u0,u1,u2,u3,u4,u7,u8,u9,Kq,Kr,Ks,Kt,Ku,Kv,Kw,Kx,Ky,Kz,KA,KC,KD,KE,KF,KH,KI,KJ,KK,rfl⟩
   have Kp:zau [x]=true:=by
    have:=Hp.out
    unfold zau at this ⊢
    rw[List.all_eq_true] at this
    simpa using this x (by rw[hx];simp)
   have Jg:H2.length≤1000:=by have:=K1.out;rw[hx,xL] at this;omega
   obtain ⟨A1,c1,rfl,_,_⟩:=xO (xW ho);have HF:=zcj H2;have He:=zcj [x]
   have Kc:Ext W (W.alloc (G #[C E x] 3)):=xA (xR _) _
   have Km:=zlQ (F (I ⟨W.heap.size,0,O⟩) 1 1) [x] _ (xW (zaG W ([x].map iv) 3 1 rfl (by simp[maxLen]) (xN _))) Kp (by simp);have KR:=H Km;have H6:=H Kc;have HO:=H ho;have KL:=H hb;have Hh:=H hE
   have Kl:77::zao (H2++[x])=(77::zao H2)++zao [x]:=by rw[zjW];rfl
   have KQ:=H Kl
   have HV:=H (show (77::zao H2).length≤6000 by simp;omega)
   have HW:=H (show (zao [x]).length≤5 by simpa using He)
   clear hx HF He Km Kc Kl hb ho hE Kp
   generalize 77::zao H2=L at *
   gi_wp2_with (first
    | (refine ⟨trivial,?_⟩;gi_at_call 119;refine (callsIn_wd.2 KR.out).mono ?_;rintro e w4 ⟨vs,rfl,Hc,H7⟩;have b4:=KL.out.kept (row:=none) (Ext.grown (xT H6.out H7) none) (by simp);have J6:=b4.cell;obtain ⟨A4,c4,rfl,_,_⟩:=xO (xW Hc))
    | (gi_at_builtin;refine zb9 _ rfl (.tmp 24) (.tmp 25) 33 rfl w1.heap.size 5 i0 _ 1 1 Tryz.underlying33 hi HI HK HL rfl (by decide) _ L.length (L.map bv) rfl (zab HO.out (xT H6.out H7)) _ (zao [x]).length ((zao [x]).map bv) rfl (xW Hc) (zbI _) (by have:=HV.out;have:=HW.out;unfold maxLen;omega) (by have:=HV.out;have:=HW.out;omega) (by have:=(xT H6.out H7).size;omega) ?_;intro v5 w5 Kj HA;obtain ⟨A5,c5,rfl,_,_⟩:=xO (xW Kj);have Hd:OwnB w4 w1.heap.size (F A1 L.length c1) L:=zab HO.out (xT H6.out H7);have K5:Blk w4 (w1.heap.size+1) 33 #[F A1 L.length c1]:=b4;have b5:Boxed w5 (w1.heap.size+1) 33 (F A1 L.length c1):=K5.kept HA (K5.not_row (by decide) Hd);have J7:=b5.cell;have J8:=b5.frozen))
   have HE:=zb3 (j:=0) b5 (by decide:(33:TypeId)≠5) Kj (F A5 (L.length+(zao [x]).length) c5)
   have KW:Ext w w5:=Ext.grownOwn (xT Hh.out (xT H6.out H7)) (zaf Hd Ko) HA
   refine ⟨((Kept.refl.below (xT H6.out H7) (xN _)).grown HA (fun k o ek hk=>?_)).setCell (fun o hk _=>?_) _,⟨_,b5.set _,?_⟩,Below.setCell (p:=⟨w1.heap.size+1,0,O⟩) KW (by show w.heap.size≤w1.heap.size+1;omega) _⟩
   ·obtain ⟨Je,cs,fr,Kg⟩:=zdF HO.out ek
    rw[hk] at Kg
    cases Kg
    rintro (⟨_,_,h | h⟩ | ⟨_,h⟩)
    ·omega
    ·exact h rfl
    ·cases h
   ·rintro (⟨_,h,_⟩ | ⟨h,_⟩)
    ·exact h rfl
    ·dsimp only at h;omega
   ·unfold OwnB
    rw[KQ.out,xL,P9]
    exact HE
  case done =>
   rintro D W hD ⟨⟨u,hb,ho⟩,hE⟩ hK;obtain ⟨A1,c1,rfl,_,_⟩:=xO (xW ho);have cb:=hb.cell;have HF:=zcj N;have Hz:=zpb (T:=rT) _ (77::zao N) W (xW ho) (by simp) (by have:=K1.out;simp;omega) (HT.out.ext hE).tab
   have Ka:zaY rT (77::zao N)=P:=by rw[←Hi.out];exact HP.out
   rw[Ka] at Hz;have KM:=H Hz;have Hh:=H hE;have HU:=H hK;clear Hz Ka HF hE hb ho hK
   gi_wp2_with (refine ⟨trivial,?_⟩;gi_at_call 120;refine (callsIn_wd.2 KM.out).mono ?_;rintro e w6 ⟨A6,c6,rfl,HE,K8⟩)
   have K9:w6.heap[D]?=I (.deferred (some [])):=(K8.block D (P0.1 HU.out).1).trans HU.out
   refine zbO K9 (.tuple #[F A6 P.length c6,C E 0]) (zmj _ _ _ _ rfl rfl) ⟨⟨_,rfl,?_⟩,zaN (xT Hh.out K8) (by omega) _⟩
   exact zaf (zjQ HE K9 rfl (.deferred none)) Hh.out.size
  case stop =>
   rintro D cd H2 W _ _ h _
   exact h.elim
end Go.Proofs.YteggfecbjgbndaaGreatDoor
