/- Merged -/
import Derived.Test.YtgonhdeochgkoaaGreatDoorZx35
set_option linter.all false
set_option maxHeartbeats 8000000
set_option maxRecDepth 100000
open Array renaming getElem?_eq_some_iff→P0,replicate_zero→P1,replicate_succ→P2
open List renaming append_toArray→P3,size_toArray→P4,push_toArray→P5,append_assoc→P6,take_length→P7,cons_append→P8,map_append→P9,length_nil→Pa
open Nat renaming reduceSub→Pb,reduceAdd→Pc,zero_le→Pd
namespace Go.Proofs.YtgonhdeochgkoaaGreatDoor
open Go.RowKit Go.Mv Go.Shelf
theorem zn1 (m:Mf) (A:Option Addr) (n c:Nat) (w:World):Calls Tryz.prog 83 #[.agg #[.int .i64 m.next,.int .i64 m.term,.int .i64 m.vote,.int .i64 m.sq,.int .i64 m.sf,.slice A n c]] w fun e w'=>e=.returned (.func (.func 126) #[] #[.pointer (some ⟨w.heap.size,0,none⟩)])∧w.alloc (.cells (mfC m (.slice A n c)) 30)=w':=by
 unfold mfC
 go_enter Tryz.func83,Tryz.ntmps83
 go_wp2
 go_ret
 exact ⟨rfl,rfl⟩
theorem zuh {n k:Nat} (h:k<n):n-(intOf (.int .i64 ((k:Int)+1))).toNat<n-(intOf (.int .i64 (k:Int))).toNat:=by simp[intOf];omega
theorem zui {n k:Nat} (h:k<n) (hb:n≤1000000):n-(intOf (.int .i64 (wrap64 ((k:Int)+1)))).toNat<n-(intOf (.int .i64 (k:Int))).toNat:=by
 rw[show wrap64 ((k:Int)+1)=(k:Int)+1 by unfold wrap64;omega]
 exact zuh h
theorem zu9 {n k:Nat} (h:k<n) (hb:n≤1000000):Value.int .i64 (wrap64 ((k:Int)+1))=.int .i64 ((k+1:Nat):Int):=by
 rw[show wrap64 ((k:Int)+1)=((k+1:Nat):Int) by unfold wrap64;omega]
def zfs (m:Mf):List Int:=[m.next,m.term,m.vote,m.sq,m.sf,(m.segs.length:Int)]
theorem znX (m:Mf) (k:Nat) (h:k<m.segs.length):zfs m++zaX (m.segs.take (k+1))=(zfs m++zaX (m.segs.take k))++[m.segs[k].seq,m.segs[k].fmt,m.segs[k].first,m.segs[k].count+1]:=by rw[zjf _ _ h,P6]
def NuK (bo n0:Nat) (k:Nat) (o:Obj):Prop:=o.isCells=true∧k≠bo∧(k<n0∨o.ty≠some 5)
attribute [local go_sem] Oper.semAt_some in
theorem zmI (wo W0:World) (m:Mf) (v:Value) (hS:Sgs wo v m.segs) (hl:m.segs.length≤60) (H4:∀ s∈m.segs,-1≤s.count∧s.count≤4) (K7:Ext wo W0) (B bo n0:Nat) (hB:Blk W0 B 30 (mfC m v)) (J8:B≠bo) (Jh:wo.heap.size≤n0) (Jg:wo.heap.size≤bo) (Ja:bo<W0.heap.size) :
  Seq Tryz.prog 126 #[.pointer (some ⟨B,0,none⟩)] (fun (x:Int) av _=>av = #[.int .i64 x]) (NuK bo n0) (fun _ _=>False) (zbD m) W0:=by
 intro lp J Jx hJ J9 hY h0;obtain ⟨A,c,rfl,_,_⟩:=hS.open_;obtain ⟨N,hN⟩:∃ N,zbD m=N:=⟨_,rfl⟩
 rw[hN] at hY ⊢
 have Hi:=zhd hN;clear hN
 refine (callsIn_wd (ro:=none) (n:=9)).1 ?_
 refine callsIn_of_wp Tryz.func126 rfl trivial ?_ rfl
 simp only[Tryz.ntmps126,P4,xC,Pa,Pc,Pb,P2,P1,P5,P3,xI,P8]
 obtain ⟨m0,m1,m2,m3,m4,m5⟩:=zan (show Blk W0 B 30 #[.int .i64 m.next,.int .i64 m.term,.int .i64 m.vote,.int .i64 m.sq,.int .i64 m.sf,.slice A m.segs.length c] from hB)
 have HS:=zhd hS;have HY:=zhd hY;have KM:=zhd H4;have KN:=zhd K7;have hO:=zaV W0 ((zfs m).map iv) 3 6 rfl (by simp[maxLen]) (xN _)
 have Hs:Ext W0 (W0.alloc (.cells #[.int .i64 m.next,.int .i64 m.term,.int .i64 m.vote,.int .i64 m.sq,.int .i64 m.sf,.int .i64 (m.segs.length:Int)] 3)):=xA (xR _) _
 have HO:Hid (OwnI (W0.alloc (.cells #[.int .i64 m.next,.int .i64 m.term,.int .i64 m.vote,.int .i64 m.sq,.int .i64 m.sf,.int .i64 (m.segs.length:Int)] 3)) W0.heap.size (.slice (some ⟨W0.heap.size,0,none⟩) 6 6) (zfs m)):=zhd hO
 have HR:=zhd Hs;have HB:=zhd hB;obtain ⟨i0,hi,HI,HK,HL⟩:=info_parts zfL;have k5:=Hs.cell m5
 have KY:J [] (W0.alloc (.cells #[.int .i64 m.next,.int .i64 m.term,.int .i64 m.vote,.int .i64 m.sq,.int .i64 m.sf,.int .i64 (m.segs.length:Int)] 3)):=hJ _ _ _ h0 (Moves.refl.alloc _)
 clear hS hY H4 K7 hO hB Hs KY
 gi_wp2
 clear m0 m1 m2 m3 m4 m5 k5
 gi_loopw [3,27] (fun v3 HQ W=>∃ (k:Nat) (A':Option Addr) (c' n6:Nat),k≤m.segs.length∧HQ=.int .i64 k∧v3=.slice A' n6 c'∧Hid (n6=6+4*k)∧Hid (OwnI W W0.heap.size v3 (zfs m++zaX (m.segs.take k)))∧Hid (Ext W0 W)) (fun _ HQ _=>m.segs.length-(intOf HQ).toNat)
 case atStart=>exact ⟨0,_,_,6,Pd _,rfl,rfl,rfl,by simpa [zaX] using HO,HR⟩
 case round =>
  clear HO HR;obtain ⟨k,A',c',n6,hk,rfl,rfl,HZ,HO,HX⟩:=hrel
  have H1:(zfs m++zaX (m.segs.take k)).length=6+4*k:=by rw[xL,zdV,List.length_take,Nat.min_eq_left hk];rfl
  by_cases hlt:k<m.segs.length
  ·obtain ⟨_,bs,of,rfl,H0⟩:=Sgs.at_ (HS.out.ext (xT KN.out HX.out)) (by omega)
   obtain ⟨d0,d1,d2,d3⟩:=H0 k hlt;have Hg:=znX m k hlt;have H4:=KM.out _ (List.getElem_mem hlt);have Hq:=zhd Hg;have H8:=zhd H1;clear H0 Hg H1
   generalize zfs m++zaX (m.segs.take k)=L at *
   generalize m.segs[k]=s at *
   have hw:wrap64 (s.count+1)=s.count+1:=by unfold wrap64;omega
   have X1:Ext wr (wr.alloc (.cells #[.int .i64 s.seq,.int .i64 s.fmt,.int .i64 s.first,.int .i64 s.count] 74)):=xA (xR _) _
   have X2:Ext wr ((wr.alloc (.cells #[.int .i64 s.seq,.int .i64 s.fmt,.int .i64 s.first,.int .i64 s.count] 74)).alloc (.cells #[.int .i64 s.seq,.int .i64 s.fmt,.int .i64 s.first,.int .i64 (s.count+1)] 3)):=xA X1 _
   have hn:=zaV (wr.alloc (.cells #[.int .i64 s.seq,.int .i64 s.fmt,.int .i64 s.first,.int .i64 s.count] 74)) ([s.seq,s.fmt,s.first,s.count+1].map iv) 3 4 rfl (by simp[maxLen]) (xN _);rw[xS] at hn
   have HN:Hid (SlR ((wr.alloc (.cells #[.int .i64 s.seq,.int .i64 s.fmt,.int .i64 s.first,.int .i64 s.count] 74)).alloc (.cells #[.int .i64 s.seq,.int .i64 s.fmt,.int .i64 s.first,.int .i64 (s.count+1)] 3)) 1 (.slice (some ⟨wr.heap.size+1,0,none⟩) 4 4) 4 ([s.seq,s.fmt,s.first,s.count+1].map iv)):=zhd (xW hn)
   have K2:Hid (World.ownsRow _ W0.heap.size 3 1 (.slice A' n6 c') L.length (L.map iv)):=zhd (zaf HO.out X2)
   have K3:=zhd (xT HX.out X2);have Ke:=Blk.new wr 74 #[.int .i64 s.seq,.int .i64 s.fmt,.int .i64 s.first,.int .i64 s.count];obtain ⟨x0,x1,x2,x3⟩:=zay Ke;clear X1 X2 hn Ke H4
   gi_wp2_with (gi_at_builtin;refine zbV _ rfl (.tmp 31) (.tmp 41) 96 rfl W0.heap.size 3 i0 _ 1 8 Tryz.underlying96 hi HI HK HL rfl (by decide) _ L.length (L.map iv) rfl K2.out _ 4 ([s.seq,s.fmt,s.first,s.count+1].map iv) rfl HN.out (zrt _) (by rw[H8.out];unfold maxLen;omega) (by rw[H8.out];omega) K3.out.size ?_;intro v3 w3 Ki KX;obtain ⟨A3,c3,rfl,_,_⟩:=xO (xW Ki))
   have KW:=Ext.grownOwn K3.out K2.out KX
   refine ⟨⟨k+1,A3,c3,_,by omega,by go_num,rfl,by (unfold Hid;rw[H8.out];omega),?_,KW⟩,by simp[intOf];omega⟩
   unfold Hid OwnI;rw[Hq.out,xL,P9]
   exact Ki
  ·obtain rfl:k=m.segs.length:=by omega
   have ho:=HO.out
   rw[P7,show zfs m++zaX m.segs=N from Hi.out] at ho
   rw[P7,show zfs m++zaX m.segs=N from Hi.out] at H1
   have Kh:J [] wr:=hJ _ _ _ h0 ⟨HX.out.os,HX.out.tape,HX.out.output,HX.out.size,fun k o hk _=>(HX.out.block k (P0.1 hk).1).trans hk⟩
   have HO:=zhd ho;have HJ:=zhd Kh;have H8:=zhd H1
   have K0:=zhd (show N.length≤1000000 by omega)
   have hz:=HX.out.size;clear ho Kh HX H1
   gi_wp2
   gi_loopw [7,46] (fun _ v46 W=>∃ k:Nat,k≤N.length∧v46=.int .i64 k∧Hid (J (N.take k) W)∧Hid (W.ownsRow W0.heap.size 3 1 (.slice A' n6 c') N.length (N.map iv))∧W0.heap.size≤W.heap.size) (fun _ v46 _=>N.length-(intOf v46).toNat)
   case atStart=>exact ⟨0,Pd _,rfl,HJ,HO,hz⟩
   case round =>
    clear HJ HO;obtain ⟨k,hk,rfl,HJ,HO,Kb⟩:=hrel;have J0:=H8.out
    by_cases hlt:k<N.length
    ·obtain ⟨J2,b,J4,rfl,Kf⟩:=(xW HO.out).at_ (by omega)
     clear J2;have Hx:=Kf k (iv N[k]) (by rw[List.getElem?_map,List.getElem?_eq_getElem hlt];rfl)
     have HG:N=N.take k++N[k]::N.drop (k+1):=by rw[←List.drop_eq_getElem_cons hlt,List.take_append_drop]
     have Hg:N.take (k+1)=N.take k++[N[k]]:=List.take_succ_eq_append_getElem hlt
     have hy:=HY.out (N.take k) N[k] _ HG wr #[.int .i64 N[k]] HJ.out Kb rfl;have Hy:=zhd hy;have Hq:=zhd Hg;have KR:=zhd HG;clear hy Hg HG Kf
     generalize N[k]=x at *
     simp only[iv,Nat.mul_one] at Hx
     have KZ:(k:Int)<(n6:Int):=by have:=HZ.out;omega
     have Ho:=zhd hlt;clear J0 hlt
     gi_wp2
     refine zbb Hy.out ?_
     rintro e W' ⟨Hk,⟨rfl,hj⟩ | ⟨rfl,hj⟩⟩
     ·refine ⟨true,rfl,?_⟩
      have Hn:=zhd hj
      have Hc:W'.ownsRow W0.heap.size 3 1 (.slice (some ⟨b,J4,none⟩) n6 c') N.length (N.map iv):=by
       have h:=HO.out
       refine ⟨h.1,?_⟩
       rcases h.2 with hn | ⟨g,cap,K6,e,hb,hgg,rest⟩
       ·exact .inl hn
       ·exact .inr ⟨g,cap,K6,e,hb,Hk.same _ _ hgg (.inl ⟨rfl,by omega,.inr (by simp[Obj.ty])⟩),rest⟩
      have KO:=zhd Hc;have Hu:=Nat.le_trans Kb Hk.size;clear hj Hk Hy Hx Hc
      gi_wp2
      exact ⟨⟨k+1,Ho.out,zu9 Ho.out K0.out,by rw[Hq.out];exact Hn.out,KO,Hu⟩,zui Ho.out K0.out⟩
     ·refine ⟨false,rfl,?_⟩
      have Hn:=zhd hj;clear hj Hk Hy Hx
      gi_wp2
      refine bodyPost_ret (results_none rfl _ _ _) rfl ?_
      refine ⟨⟨_,rfl⟩,.inr ⟨N.take k++[x],⟨N.drop (k+1),?_⟩,Hn.out⟩⟩
      rw[P6]
      exact KR.out.symm
    ·have KZ:¬ (k:Int)<(n6:Int):=by have:=HZ.out;omega
     have Ha:J N wr:=by
      have:=HJ.out
      rwa [List.take_of_length_le (by omega)] at this
     have Hm:=zhd Ha;clear Ha
     gi_wp2
     refine bodyPost_end (results_none rfl _ _ _) rfl ?_
     exact ⟨⟨_,rfl⟩,.inl Hm.out⟩
theorem zmE (tmps:Array Value) (W:World) (a b:Value) (h2:tmps.getD 2 undef=a) (h3:tmps.getD 3 undef=b):(results Tryz.f46 tmps).run Tryz.prog W=.ok (.tuple #[a,b]) W:=by
 have KT:tmps[2]?.getD undef=a:=by simpa using h2
 have KU:tmps[3]?.getD undef=b:=by simpa using h3
 simp[results,Tryz.results46,KT,KU]
structure MpI (w:World) (bo base:Nat) (H2:List Int) (X:World):Prop where
 bx:∃ v,Boxed X bo 38 v∧OwnB X base v (77::zaj H2)
 e:Ext w X
attribute [local go_sem] Oper.semAt_some in
theorem zjm (m:Mf) (v:Value) (w:World) (hS:Sgs w v m.segs) (hT:StW w) :
  Calls Tryz.prog 46 #[.agg #[.int .i64 m.next,.int .i64 m.term,.int .i64 m.vote,.int .i64 m.sq,.int .i64 m.sf,v]] w (ztA w (zbs m)):=by
 obtain ⟨A,c,rfl,Jb,Jc⟩:=hS.open_;have Hv:=Blk.new w 30 #[.int .i64 m.next,.int .i64 m.term,.int .i64 m.vote,.int .i64 m.sq,.int .i64 m.sf,.slice A m.segs.length c]
 have hX:Ext w (w.alloc (.cells #[.int .i64 m.next,.int .i64 m.term,.int .i64 m.vote,.int .i64 m.sq,.int .i64 m.sf,.slice A m.segs.length c] 30)):=xA (xR _) _
 obtain ⟨m0,m1,m2,m3,m4,m5⟩:=zan Hv;have HS:=zhd hS;have K4:=zoW m (.slice A m.segs.length c) _ (hS.ext hX);have H3:=zhd K4;have HT:=zhd hT;have HX:=zhd hX;have Hb:=zhd Hv;clear K4 hS hT hX Hv
 refine (callsIn_wd (ro:=none) (n:=9)).1 ?_
 refine callsIn_of_wp_marks Tryz.func46 rfl trivial ?_ rfl
 simp only[Tryz.ntmps46,P4,xC,Pa,Pc,Pb,P2,P1,P5,P3,xI,P8]
 cases hck:zax m with
 | false =>
  rw[hck] at H3
  have hr:zbs m=none:=by unfold zbs;rw[hck];rfl
  rw[hr];simp only[Bool.false_eq_true,if_false] at H3
  gi_wp2_with (refine ⟨trivial,?_⟩;gi_at_call 82;refine (callsIn_wd.2 H3.out).mono ?_;rintro e w1 ⟨rfl,H9⟩)
  exact ⟨.tuple #[.slice none 0 0,.int .i64 2],zmE _ _ _ _ rfl rfl,⟨_,rfl,World.ownsRow_nil _ _ _ _⟩,xT HX.out H9⟩
 | true =>
  rw[hck] at H3;obtain ⟨P,hP⟩:∃ P,zaH rT (77::zaj (zbD m))=P:=⟨_,rfl⟩
  have hr:zbs m=some P:=by unfold zbs;rw[hck,hP];rfl
  rw[hr];have HP:=zhd hP;have Hl:=zhd hck;clear hP;simp only[if_true] at H3
  gi_wp2_with (first
   | (refine ⟨trivial,?_⟩;gi_at_call 82;refine (callsIn_wd.2 H3.out).mono ?_;rintro e w1 ⟨rfl,H9⟩;have X2:Ext w1 ((w1.alloc (.cells #[.int .u8 77] 5)).alloc (.cells #[.slice (some ⟨w1.heap.size,0,none⟩) 1 1] 38)):=xA (xA (xR w1) _) _;obtain ⟨p0,p1,p2,p3,p4,p5⟩:=zan (Hb.out.ext (xT H9 X2)))
   | (refine ⟨trivial,?_⟩;gi_at_call 83;refine (callsIn_wd.2 (zn1 m A m.segs.length c _)).mono ?_;rintro e w3 ⟨rfl,HH⟩))
  have Hw:=Boxed.new (w1.alloc (.cells #[.int .u8 77] 5)) 38 (.slice (some ⟨w1.heap.size,0,none⟩) 1 1);rw[xS] at Hw
  have Kk:OwnB ((w1.alloc (.cells #[.int .u8 77] 5)).alloc (.cells #[.slice (some ⟨w1.heap.size,0,none⟩) 1 1] 38)) w1.heap.size (.slice (some ⟨w1.heap.size,0,none⟩) 1 1) [77]:=zaf (zaV w1 ([(77:UInt8)].map bv) 5 1 rfl (by simp[maxLen]) (xN _)) (xA (xR _) _)
  have Kd:=xT HX.out (xT H9 X2)
  have Hf:((w1.alloc (.cells #[.int .u8 77] 5)).alloc (.cells #[.slice (some ⟨w1.heap.size,0,none⟩) 1 1] 38)).heap.size=w1.heap.size+1+1:=by simp
  generalize (w1.alloc (.cells #[.int .u8 77] 5)).alloc (.cells #[.slice (some ⟨w1.heap.size,0,none⟩) 1 1] 38)=w2 at *
  have Hr:Ext w2 w3:=by rw[←HH];exact xA (xR _) _
  have Hj:Blk w3 w2.heap.size 30 (mfC m (.slice A m.segs.length c)):=by rw[←HH];exact Blk.new w2 _ _
  rw[Hf] at Hj
  have h0:MpI w (w1.heap.size+1) w1.heap.size [] w3:=⟨⟨_,Hw.kept (row:=none) (Ext.grown Hr none) (by simp),zaf Kk Hr⟩,xT Kd Hr⟩
  have Ko:w.heap.size≤w1.heap.size:=by have:=(xT HX.out H9).size;exact this
  have J1:w1.heap.size+1+1<w3.heap.size:=Hj.lt
  clear Hf;obtain ⟨_,_,_,HD,_,h6⟩:=zd8 Hl.out
  have H4:∀ s∈m.segs,-1≤s.count∧s.count≤4:=fun s hs=>by
   have:=zi1 Hl.out s hs
   exact this.2.2
  have H5:=zgY Hl.out
  have Ht:(zbD m).length≤1000:=by unfold zbD;rw[xL,zdV];simp;omega
  have Kn:Hid (∀ W1,Ext w3 W1→Seq Tryz.prog 126 #[.pointer (some ⟨w1.heap.size+1+1,0,none⟩)] (fun (x:Int) av _=>av = #[.int .i64 x]) (NuK (w1.heap.size+1) w1.heap.size) (fun _ _=>False) (zbD m) W1) :=
   fun W1 hE=>zmI w W1 m (.slice A m.segs.length c) HS.out HD H4 (xT h0.e hE) (w1.heap.size+1+1) (w1.heap.size+1) w1.heap.size (Hj.ext hE) (by omega) Ko (by omega) (by have:=hE.size;omega)
  obtain ⟨N,hN⟩:∃ N,zbD m=N:=⟨_,rfl⟩;rw[hN] at Kn H5 Ht;have Hi:=zhd hN;have Hp:=zhd H5;have K1:=zhd Ht;obtain ⟨i0,hi,HI,HK,HL⟩:=info_parts zb8;clear HH Hw Kk Kd H4 hN H5 Ht p0 p1 p2 p3 p4 p5 m0 m1 m2 m3 m4 m5 Hj h6 X2 H3 Hb
  refine ziy (n:=9) (Rp:=fun (x:Int) av _=>av = #[.int .i64 x]) (K:=NuK (w1.heap.size+1) w1.heap.size) (M:=fun _ _=>False) (xs:=N) (gf:=126) (lb:=#[.pointer (some ⟨w1.heap.size+1+1,0,none⟩)]) (a:=⟨_,_⟩) ?hg ?eg ?hseq ?h1 ?h2 ?h3 (MpI w (w1.heap.size+1) w1.heap.size) (fun _ _ _=>False) ?hI (fun _ _ _ _ h _=>h) h0
   (fun x a' W=>∃ (u0 u1 u2 u3 u4 u7 u8 u9 Kq Kr Ks Kt Ku Kv Kw Kx Ky Kz KA KB KC KD KE KF KH KI KJ:Value),a'=⟨#[u0,u1,u2,u3,u4,.pointer (some ⟨w1.heap.size+1,0,none⟩),.int .i64 x,u7,u8,u9,Kq,Kr,Ks,Kt,Ku,Kv,Kw,Kx,Ky,Kz,KA,KB,KC,KD,KE,KF,KH,KI,KJ],[]⟩) (fun _ _ _ _ h _=>h) ?assign ?body ?done ?stop
  case hg=>exact rfl
  case eg=>exact enters_of Tryz.func126 (by kernel_rfl) rfl
  case hseq=>exact fun W1 hb hs=>Kn.out W1 hb
  case h1=>exact fun k o h=>h.elim
  case h2=>exact fun k o h r e=>by rw[e] at h;cases h.1
  case h3=>exact fun x av W h=>by rw[h];rfl
  case hI =>
   rintro s X Y ⟨⟨u,hb,ho⟩,hE⟩ hm
   refine ⟨⟨u,hm.boxed hb ?_,hm.ownsRow ho ?_⟩,hm.belowOf hE ?_ (xN _)⟩
   ·rintro (h | h)
    ·exact h
    ·cases h.2
   ·intro k K6 _
    rintro (h | h)
    ·exact h
    ·cases h.2
   ·rintro k o hk (h | h)
    ·exact h
    ·have:=h.1;omega
  case assign =>
   rintro l' H2 x HM W av K' hx hI J3 rfl hK;clear hx
   gi_wp2
   exact hK _ _ Kept.refl hI ⟨_,_,_,_,_,_,_,_,_,_,_,_,_,_,_,_,_,_,_,_,_,_,_,_,_,_,_,rfl⟩
  case body =>
   rintro l' H2 x HM a' W hx Je hr ⟨⟨u,hb,ho⟩,hE⟩ J3 ⟨u0,u1,u2,u3,u4,u7,u8,u9,Kq,Kr,Ks,Kt,Ku,Kv,Kw,Kx,Ky,Kz,KA,KB,KC,KD,KE,KF,KH,KI,KJ,rfl⟩
   have Kp:zav [x]=true:=by
    have:=Hp.out
    unfold zav at this ⊢
    rw[List.all_eq_true] at this
    simpa using this x (by rw[hx];simp)
   have Jf:H2.length≤1000:=by have:=K1.out;rw[hx,xL] at this;omega
   obtain ⟨A1,c1,rfl,_,_⟩:=xO (xW ho);have HF:=zcu H2;have He:=zcu [x]
   have Kc:Ext W (W.alloc (.cells #[.int .i64 x] 3)):=xA (xR _) _
   have Km:=zma (.slice (some ⟨W.heap.size,0,none⟩) 1 1) [x] _ (xW (zaV W ([x].map iv) 3 1 rfl (by simp[maxLen]) (xN _))) Kp (by simp);have KQ:=zhd Km;have H6:=zhd Kc;have HO:=zhd ho;have KK:=zhd hb;have Hh:=zhd hE
   have Kl:77::zaj (H2++[x])=(77::zaj H2)++zaj [x]:=by rw[zkB];rfl
   have KP:=zhd Kl
   have HV:=zhd (show (77::zaj H2).length≤6000 by simp;omega)
   have HW:=zhd (show (zaj [x]).length≤5 by simpa using He)
   clear hx HF He Km Kc Kl hb ho hE Kp
   generalize 77::zaj H2=L at *
   gi_wp2_with (first
    | (refine ⟨trivial,?_⟩;gi_at_call 84;refine (callsIn_wd.2 KQ.out).mono ?_;rintro e w4 ⟨vs,rfl,Hc,H7⟩;have b4:=KK.out.kept (row:=none) (Ext.grown (xT H6.out H7) none) (by simp);have J5:=b4.cell;obtain ⟨A4,c4,rfl,_,_⟩:=xO (xW Hc))
    | (gi_at_builtin;refine zbV _ rfl (.tmp 24) (.tmp 25) 38 rfl w1.heap.size 5 i0 _ 1 1 Tryz.underlying38 hi HI HK HL rfl (by decide) _ L.length (L.map bv) rfl (zaf HO.out (xT H6.out H7)) _ (zaj [x]).length ((zaj [x]).map bv) rfl (xW Hc) (zcP _) (by have:=HV.out;have:=HW.out;unfold maxLen;omega) (by have:=HV.out;have:=HW.out;omega) (by have:=(xT H6.out H7).size;omega) ?_;intro v5 w5 Kj HA;obtain ⟨A5,c5,rfl,_,_⟩:=xO (xW Kj);have Hd:OwnB w4 w1.heap.size (.slice A1 L.length c1) L:=zaf HO.out (xT H6.out H7);have K5:Blk w4 (w1.heap.size+1) 38 #[.slice A1 L.length c1]:=b4;have b5:Boxed w5 (w1.heap.size+1) 38 (.slice A1 L.length c1):=K5.kept HA (K5.not_row (by decide) Hd);have J6:=b5.cell;have J7:=b5.frozen))
   have HE:=zd9 (j:=0) b5 (by decide:(38:TypeId)≠5) Kj (.slice A5 (L.length+(zaj [x]).length) c5)
   have KV:Ext w w5:=Ext.grownOwn (xT Hh.out (xT H6.out H7)) (zai Hd Ko) HA
   refine ⟨((Kept.refl.below (xT H6.out H7) (xN _)).grown HA (fun k o ek hk=>?_)).setCell (fun o hk _=>?_) _,⟨_,b5.set _,?_⟩,Below.setCell (p:=⟨w1.heap.size+1,0,none⟩) KV (by show w.heap.size≤w1.heap.size+1;omega) _⟩
   ·obtain ⟨Jd,cs,fr,Kg⟩:=zbR HO.out ek
    rw[hk] at Kg
    cases Kg
    rintro (⟨_,_,h | h⟩ | ⟨_,h⟩)
    ·omega
    ·exact h rfl
    ·cases h
   ·rintro (⟨_,h,_⟩ | ⟨h,_⟩)
    ·exact h rfl
    ·dsimp only at h;omega
   ·unfold OwnB
    rw[KP.out,xL,P9]
    exact HE
  case done =>
   rintro D W hD ⟨⟨u,hb,ho⟩,hE⟩ hK;obtain ⟨A1,c1,rfl,_,_⟩:=xO (xW ho);have cb:=hb.cell;have HF:=zcu N;have Hz:=zfo (T:=rT) _ (77::zaj N) W (xW ho) (by simp) (by have:=K1.out;simp;omega) (HT.out.ext hE).tab
   have Ka:zaH rT (77::zaj N)=P:=by rw[←Hi.out];exact HP.out
   rw[Ka] at Hz;have KL:=zhd Hz;have Hh:=zhd hE;have HU:=zhd hK;clear Hz Ka HF hE hb ho hK
   gi_wp2_with (refine ⟨trivial,?_⟩;gi_at_call 85;refine (callsIn_wd.2 KL.out).mono ?_;rintro e w6 ⟨A6,c6,rfl,HE,K8⟩)
   have K9:w6.heap[D]?=some (.deferred (some [])):=(K8.block D (P0.1 HU.out).1).trans HU.out
   refine zbc K9 (.tuple #[.slice A6 P.length c6,.int .i64 0]) (zmE _ _ _ _ rfl rfl) ⟨⟨_,rfl,?_⟩,zaq (xT Hh.out K8) (by omega) _⟩
   exact zai (zko HE K9 rfl (.deferred none)) Hh.out.size
  case stop =>
   rintro D cd H2 W _ _ h _
   exact h.elim
end Go.Proofs.YtgonhdeochgkoaaGreatDoor
