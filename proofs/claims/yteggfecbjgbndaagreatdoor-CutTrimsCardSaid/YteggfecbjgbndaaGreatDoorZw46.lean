/- Merged -/
import Derived.Test.YteggfecbjgbndaaGreatDoorZw42
import Derived.Test.YteggfecbjgbndaaGreatDoorZw43
import Derived.Test.YteggfecbjgbndaaGreatDoorZw45
set_option linter.all false
set_option maxHeartbeats 8000000
set_option maxRecDepth 100000
open Go.Value renaming int→C,slice→F,bool→J,agg→O
open Go.IntKind renaming i64→D
open Go.Mv renaming zhd→G
open Go.Proofs.Tryz renaming prog→H
open Option renaming some→I,none→N
open Go.Obj renaming cells→M
open Go.Mv.Blk renaming new→P0
namespace Go.Proofs.YteggfecbjgbndaaGreatDoor
open Go.RowKit Go.Mv Go.Shelf
def d15:Dk:=⟨[],[],400,0,false⟩
def b15:List UInt8:=[77,1,0,0,0,0,0,68,18,119,173]
def zuu:List UInt8:=[77,1,3,2,0,0,0,49,129,35,90]
def zuv:List UInt8:=[77,2,0,0,1,2,0,14,123,207,27]
def p15:List UInt8:=[2,2,0,0,0,1,38,70,0,45,0,35,196,35,137]
def e15:Dk:=⟨[([77],b15)],[],400,0,false⟩
def h15:Dk:=⟨[([77],zuu)],[],400,0,false⟩
def s15:Dk:=⟨[([77],zuv),([112,49,46,50],p15)],[],400,0,false⟩
def x15:Dk:=⟨[([77],b15),([112,49,46,50],p15)],[],400,0,false⟩
theorem zpx:zbb sW=p15:=by kernel_rfl
theorem zok:zbH m15=I b15:=by decide
theorem zsQ:zdk d15 m15=(e15,0):=by rfl
theorem zgZ:zby e15.now=⟨0,tW 0 0,m15⟩:=by rfl
theorem zsO:zbH ⟨1,3,2,0,0,[]⟩=I zuu:=by decide
theorem k15_h:zdk e15 ⟨1,3,2,0,0,[]⟩=(h15,0):=by rfl
theorem zre:zby h15.now=⟨0,tW 3 2,⟨1,3,2,0,0,[]⟩⟩:=by rfl
theorem zpy:zbG e15 (zaw 4 1 2) p15=(x15,0):=by kernel_rfl
theorem zsP:zbH ⟨2,0,0,1,2,[]⟩=I zuv:=by decide
theorem k15_s:zdk x15 ⟨2,0,0,1,2,[]⟩=(s15,0):=by kernel_rfl
theorem zrf:zby s15.now=⟨0,tW 0 0,⟨2,0,0,1,2,[]⟩⟩:=by kernel_rfl
theorem zuY:zby (⟨[],[],0,0,false⟩:Dk).now=zcC 42:=by rfl
attribute [local go_sem] Oper.semAt_some in
theorem zu0:RdH []:=by
 intro v pl bt bm w hS hF h0 hT hM HW;obtain ⟨A,c,rfl,_,_⟩:=Fs.open_ hF;have Ku:=G (zjt (F A 0 c) [] 1 0 0 42 w hS hF (by decide));clear hS hF hT hM HW
 refine (callsIn_wd (ro:=none) (n:=9)).1 ?_
 refine callsIn_of_wp_marks Tryz.func33 rfl trivial ?_ rfl
 simp only[Tryz.ntmps33,List.size_toArray,xC,List.length_nil,Nat.reduceAdd,Nat.reduceSub,Array.replicate_succ,Array.replicate_zero,List.push_toArray,List.append_toArray,xI,List.cons_append]
 gi_wp2
 refine ⟨trivial,(callsIn_wd.2 Ku.out).mono ?_⟩
 rintro e w1 ⟨Kx,H8⟩
 obtain rfl:=Kx
 exact zuL (r:=zby []) (bt:=bt) (bm:=bm) (e:=42) rfl (by decide) rfl H8
theorem zuF:za6 rT b15=I [77,1,0,0,0,0,0]:=by rfl
theorem zpL:RdH e15.now:=fun v pl bt bm w hS hF h0 hT hM HW=>by
 rw[zgZ]
 exact zoM v e15.now b15 m15 ⟨0,0,0,1,false⟩ rfl (by decide) (by decide) (by rfl) (by rfl) (by decide) (fun v1 W h1 h2=>zoI v1 b15 [77,1,0,0,0,0,0] 1 0 0 0 0 0 [] W h1 h2 (by decide) (by decide) zuF (by decide) (by decide) rfl rfl zok) (fun A n c W=>ztG A n c 0 0 rfl W) pl bt bm w hS hF h0 hT hM HW
theorem zvk:Sz 1000 d15:=⟨by decide,by decide,by decide⟩
theorem zp5:Sz 1000 e15:=⟨by decide,by decide,by decide⟩
theorem zu2:Sz 1000 h15:=⟨by decide,by decide,by decide⟩
theorem zu3:Sz 1000 s15:=⟨by decide,by decide,by decide⟩
theorem zu4:Sz 3000 x15:=⟨by decide,by decide,by decide⟩
theorem zox (W:World):Qs W (F none 0 0) []:=⟨[],SlR.nil W 4,RowOf.nil⟩
theorem zqg:∀ f∈e15.fs,2≤f.2.length:=by decide
theorem zvj (w:World) (hS:StW w):Calls H 23 #[O #[F none 0 0,F none 0 0,C D 400,C D 0,J false],O #[C D 1,C D 0,C D 0,C D 0,C D 0,F none 0 0]] w fun e w'=>(∃ u,e=.returned (.tuple #[u,C D 0])∧DkV w' u e15)∧Ext w w':=by
 have h:=zoT _ d15 1000 m15 (F none 0 0) w hS (show DkV w (O #[F none 0 0,F none 0 0,C D 400,C D 0,J false]) d15 from ⟨_,_,rfl,zq7 w,zox w⟩) zvk (by decide) (Sgs.nil w) (by decide) (by decide) (fun b hb=>by rw[zok] at hb;cases hb;decide)
 rw[zsQ] at h
 exact h
theorem zuU (v:Value) (w:World) (hS:StW w) (Hb:KnW w) (hD:DkV w v e15):Calls H 67 #[v,C D 1,C D 1] w (zgb w (e15,0)) :=
 zr1 v e15 w hS hD zp5 Hb ⟨zgZ,zpL⟩ rfl zqg _ rfl
theorem zuD (v:Value) (w:World) (hS:StW w) (Hb:KnW w) (hD:DkV w v e15):Calls H 68 #[v,C D 3,C D 2] w (zgb w (h15,0)) :=
 zql v e15 w hS hD zp5 Hb ⟨zgZ,zpL⟩ rfl zqg _ k15_h.symm (fun b hb=>by rw[zsO] at hb;cases hb;decide)
theorem zuM (v:Value) (w:World) (hS:StW w) (Hb:KnW w) (hD:DkV w v e15):Calls H 69 #[v,O #[C D 0,C D 0,C D 0,C D 1,J false],C D 2] w (zgb w (s15,0)) :=
 zqm v e15 w hS hD zp5 Hb ⟨zgZ,zpL⟩ rfl zqg _ (by rw[zpx,zpy];exact k15_s.symm) (fun b hb=>by rw[zsP] at hb;cases hb;decide) (by rw[zpx,zpy]) (by rw[zpx,zpy];exact zu4)
theorem zt6 (w:World) (hS:StW w):Calls H 69 #[O #[F none 0 0,F none 0 0,C D 0,C D 0,J false],O #[C D 0,C D 0,C D 0,C D 1,J false],C D 1] w (zgb w ((⟨[],[],0,0,false⟩:Dk),42)) :=
 zoD _ ⟨[],[],0,0,false⟩ w hS ⟨_,_,rfl,zq7 w,zox w⟩ ⟨by decide,by decide,by decide⟩ 42 (by decide) ⟨zuY,zu0⟩ rfl (fun f hf=>by cases hf) _ rfl
theorem ztW (v:Value) (w:World) (hS:StW w) (hD:DkV w v h15):Calls H 14 #[v] w fun e w'=>∃ A c B d,e=.returned (.tuple #[O #[C D 0,C D 0,C D 0,C D 1,J false,F A 0 c,C D 3,C D 2],O #[C D 1,C D 3,C D 2,C D 0,C D 0,F B 0 d],C D 0])∧Ext w w':=by
 have h:=zjp v h15 1000 w hS hD (by decide) zu2;rw[zre] at h
 refine h.mono ?_
 rintro e w' ⟨vl,vs,rfl,HT,K1,hE⟩;obtain ⟨A,c,rfl,_,_⟩:=xO (OwnE.es HT);obtain ⟨B,d,rfl,_,_⟩:=(OwnS.sgs K1).open_
 exact ⟨A,c,B,d,rfl,hE⟩
theorem ztX (v:Value) (w:World) (hS:StW w) (hD:DkV w v s15):Calls H 14 #[v] w fun e w'=>∃ A c B d,e=.returned (.tuple #[O #[C D 0,C D 0,C D 0,C D 1,J false,F A 0 c,C D 0,C D 0],O #[C D 2,C D 0,C D 0,C D 1,C D 2,F B 0 d],C D 0])∧Ext w w':=by
 have h:=zjp v s15 1000 w hS hD (by decide) zu3;rw[zrf] at h
 refine h.mono ?_
 rintro e w' ⟨vl,vs,rfl,HT,K1,hE⟩;obtain ⟨A,c,rfl,_,_⟩:=xO (OwnE.es HT);obtain ⟨B,d,rfl,_,_⟩:=(OwnS.sgs K1).open_
 exact ⟨A,c,B,d,rfl,hE⟩
theorem zhL {W:World} {u:Value} {d:Dk} (h:DkV W u d):∃ A c B e,u=O #[F A d.fs.length c,F B d.q.length e,C D d.quota,C D d.fuse,J d.dead]:=by
 obtain ⟨x,y,rfl,hF,hQ⟩:=h;obtain ⟨A,c,rfl,_,_⟩:=Fs.open_ hF;obtain ⟨B,e,rfl,_,_⟩:=Qs.open_ hQ
 exact ⟨A,c,B,e,rfl⟩
theorem zgt (w:World) (hS:StW w) (Hb:KnW w):Calls H 25 #[] w fun e w'=>e=.returned (J true)∧Ext w w':=by
 have HS:=G hS;have HK:=G Hb;clear hS Hb
 go_enter Tryz.func25,Tryz.ntmps25
 go_wp2_with fail
 refine (zr7 400 (by decide) _).mono ?_
 rintro e w1 ⟨rfl,H8⟩;have H4:=G H8;clear H8;go_wp2_with fail
 refine (zvj _ (HS.out.ext H4.out)).mono ?_
 rintro e w2 ⟨⟨u,rfl,H1⟩,Hn⟩;obtain ⟨A2,c2,B2,e2,rfl⟩:=zhL H1
 have hX:Ext w2 (w2.alloc (M #[F A2 e15.fs.length c2,F B2 e15.q.length e2,C D e15.quota,C D e15.fuse,J e15.dead] 25)):=xA (xR _) _
 have Ht:=G (xT (xT H4.out Hn) hX);have H7:=G (H1.ext hX);have Hl:=G (P0 w2 25 #[F A2 e15.fs.length c2,F B2 e15.q.length e2,C D e15.quota,C D e15.fuse,J e15.dead]);clear Hn hX H1 H4;go_wp2_with fail
 refine (zuU _ _ (HS.out.ext Ht.out) (HK.out.ext Ht.out) H7.out).mono ?_
 rintro e w3 ⟨u,rfl,(H1:DkV _ _ e15),HF⟩;obtain ⟨A3,c3,B3,e3,rfl⟩:=zhL H1
 have hX:Ext w3 (w3.alloc (M #[F A3 e15.fs.length c3,F B3 e15.q.length e3,C D e15.quota,C D e15.fuse,J e15.dead] 25)):=xA (xR _) _
 have H9:=G (xT (xT Ht.out HF) hX);have H0:=G (H7.out.ext (xT HF hX));have Hh:=Hl.out.ext (xT HF hX);have Hm:=G (H1.ext hX);have H6:=G (P0 w3 25 #[F A3 e15.fs.length c3,F B3 e15.q.length e3,C D e15.quota,C D e15.fuse,J e15.dead]);have H2:=G Hh;obtain ⟨q0,q1,q2,q3,q4⟩:=zaa Hh;clear HF hX H1 Ht H7 Hl Hh;go_wp2_with fail
 refine (zuD _ _ (HS.out.ext H9.out) (HK.out.ext H9.out) H0.out).mono ?_
 rintro e w4 ⟨u,rfl,(H1:DkV _ _ h15),Hv⟩;obtain ⟨A4,c4,B4,e4,rfl⟩:=zhL H1
 have hX:Ext w4 (w4.alloc (M #[F A4 h15.fs.length c4,F B4 h15.q.length e4,C D h15.quota,C D h15.fuse,J h15.dead] 25)):=xA (xR _) _
 have HM:=G (xT (xT H9.out Hv) hX);have H7:=G (H0.out.ext (xT Hv hX));have Hl:=G (H2.out.ext (xT Hv hX));have H3:=G (Hm.out.ext (xT Hv hX));have Ha:=G (H6.out.ext (xT Hv hX));have K3:=G (H1.ext hX);clear Hv hX H1 H9 H0 H2 Hm H6 q0 q1 q2 q3 q4;go_wp2_with fail
 refine (ztW _ _ (HS.out.ext HM.out) K3.out).mono ?_
 rintro e w5 ⟨A5,c5,B5,e5,rfl,Hk⟩
 have hX:Ext w5 ((w5.alloc (M #[C D 0,C D 0,C D 0,C D 1,J false,F A5 0 c5,C D 3,C D 2] 44)).alloc (M #[C D 1,C D 3,C D 2,C D 0,C D 0,F B5 0 e5] 30)):=xA (xA (xR _) _) _
 have Hp:=G (xT (xT HM.out Hk) hX);have H0:=G (H7.out.ext (xT Hk hX));have H2:=G (Hl.out.ext (xT Hk hX));have Hm:=G (H3.out.ext (xT Hk hX));have H6:=G (Ha.out.ext (xT Hk hX));have K9:=G ((P0 w5 44 #[C D 0,C D 0,C D 0,C D 1,J false,F A5 0 c5,C D 3,C D 2]).alloc (M #[C D 1,C D 3,C D 2,C D 0,C D 0,F B5 0 e5] 30));clear Hk hX HM H7 Hl H3 Ha K3;go_wp2_with fail
 refine (zt6 _ (HS.out.ext Hp.out)).mono ?_
 rintro e w6 ⟨u,rfl,(H1:DkV _ _ (⟨[],[],0,0,false⟩:Dk)),Hf⟩;obtain ⟨A6,c6,B6,e6,rfl⟩:=zhL H1
 dsimp only[List.length_nil]
 have hX:Ext w6 (w6.alloc (M #[F A6 0 c6,F B6 0 e6,C D 0,C D 0,J false] 25)):=xA (xR _) _
 have Hi:=G (xT (xT Hp.out Hf) hX);have H7:=G (H0.out.ext (xT Hf hX));have Hh:=H2.out.ext (xT Hf hX);have Hl:=G Hh;have H3:=G (Hm.out.ext (xT Hf hX));have Ha:=G (H6.out.ext (xT Hf hX));have Ka:=G (K9.out.ext (xT Hf hX));obtain ⟨q0,q1,q2,q3,q4⟩:=zaa Hh;clear Hf hX H1 Hp H0 H2 Hm H6 K9 Hh;go_wp2_with fail
 refine (zuM _ _ (HS.out.ext Hi.out) (HK.out.ext Hi.out) H7.out).mono ?_
 rintro e w7 ⟨u,rfl,(H1:DkV _ _ s15),Hg⟩;obtain ⟨A7,c7,B7,e7,rfl⟩:=zhL H1
 have hX:Ext w7 (w7.alloc (M #[F A7 s15.fs.length c7,F B7 s15.q.length e7,C D s15.quota,C D s15.fuse,J s15.dead] 25)):=xA (xR _) _
 have Hu:=G (xT (xT Hi.out Hg) hX);have H0:=G (H7.out.ext (xT Hg hX));have H2:=G (Hl.out.ext (xT Hg hX));have Hm:=G (H3.out.ext (xT Hg hX));have H6:=G (Ha.out.ext (xT Hg hX));have Kb:=G (Ka.out.ext (xT Hg hX));have K4:=G (H1.ext hX);clear Hg hX H1 Hi H7 Hl H3 Ha Ka q0 q1 q2 q3 q4;go_wp2_with fail
 refine (ztX _ _ (HS.out.ext Hu.out) K4.out).mono ?_
 rintro e w8 ⟨A8,c8,B8,e8,rfl,Hr⟩
 have hX:Ext w8 ((w8.alloc (M #[C D 0,C D 0,C D 0,C D 1,J false,F A8 0 c8,C D 0,C D 0] 44)).alloc (M #[C D 2,C D 0,C D 0,C D 1,C D 2,F B8 0 e8] 30)):=xA (xA (xR _) _) _
 have K5:=G (xT (xT Hu.out Hr) hX);have H7:=G (H0.out.ext (xT Hr hX));have Hh:=H2.out.ext (xT Hr hX);have H3:=G (Hm.out.ext (xT Hr hX));have hb3:=H6.out.ext (xT Hr hX);have Kc:=G (Kb.out.ext (xT Hr hX));have HV:=P0 (w8.alloc (M #[C D 0,C D 0,C D 0,C D 1,J false,F A8 0 c8,C D 0,C D 0] 44)) 30 #[C D 2,C D 0,C D 0,C D 1,C D 2,F B8 0 e8];rw[xS] at HV;have K8:=G HV;obtain ⟨q0,q1,q2,q3,q4⟩:=zaa Hh;obtain ⟨p0,p1,p2,p3,p4⟩:=zaa hb3;clear Hr hX Hu H0 H2 Hm H6 Kb K4 HV Hh hb3;go_wp2_with fail
 refine (zoQ _ _ e15 _ H3.out H7.out (by decide) (by decide)).mono ?_
 rintro e w9 ⟨rfl,HH⟩;have K6:=G (xT K5.out HH);have HQ:=Kc.out.ext HH;have HO:=K8.out.ext HH;have t6:=HQ.cell 6 rfl;have t7:=HQ.cell 7 rfl;have m3:=HO.cell 3 rfl;have m4:=HO.cell 4 rfl
 have K0:=fun W=>zh1 1 2 1 2 W
 clear HH K5 H7 H3 Kc K8 q0 q1 q2 q3 q4 p0 p1 p2 p3 p4;go_wp2_with fail
 refine (zgP ⟨0,0,0,0,0,[⟨0,0,1,4⟩,⟨0,0,5,-1⟩]⟩ _ 4 9 _ (ziu w9 _ 36 4 2 rfl (by omega) rfl) (by decide) (by decide)).mono ?_
 rintro e KK ⟨v,rfl,ho,Hw⟩;obtain ⟨K2,Kf,rfl,_,_⟩:=(OwnS.sgs ho).open_;have HJ:=G (xT K6.out (xT (xA (xR w9) _) Hw));clear ho Hw K6 HQ HO t6 t7 m3 m4 K0
 have Ky:(zcR ⟨0,0,0,0,0,[⟨0,0,1,4⟩,⟨0,0,5,-1⟩]⟩ 4 9).segs.length=1:=by decide
 rw[Ky]
 have KD:∀ W,(Instr.field 30 (O #[C D (zcR ⟨0,0,0,0,0,[⟨0,0,1,4⟩,⟨0,0,5,-1⟩]⟩ 4 9).next,C D (zcR ⟨0,0,0,0,0,[⟨0,0,1,4⟩,⟨0,0,5,-1⟩]⟩ 4 9).term,C D (zcR ⟨0,0,0,0,0,[⟨0,0,1,4⟩,⟨0,0,5,-1⟩]⟩ 4 9).vote,C D (zcR ⟨0,0,0,0,0,[⟨0,0,1,4⟩,⟨0,0,5,-1⟩]⟩ 4 9).sq,C D (zcR ⟨0,0,0,0,0,[⟨0,0,1,4⟩,⟨0,0,5,-1⟩]⟩ 4 9).sf,F K2 1 Kf]) 4).run H W=.ok (F K2 1 Kf) W:=fun W=>by kernel_rfl
 go_wp2_with fail;go_ret
 exact ⟨rfl,HJ.out⟩
theorem zqd (l:List Sg4) (i last:Int):zaz (zaz l i last) i last=zaz l i last:=by
 unfold zaz;rw[List.filter_filter]
 congr 1
 funext s
 simp
theorem zud {l:List Sg4} {i last:Int} {j:Nat} (h:j<l.length) (hp:i<zcD l[j] last):(zaz l i last)[(zaz (l.take j) i last).length]?=I l[j]:=by
 have e:zaz l i last=zaz (l.take j) i last++(l[j]::zaz (l.drop (j+1)) i last):=by
  conv=>lhs;rw[←List.take_append_drop j l,List.drop_eq_getElem_cons h]
  unfold zaz;rw[List.filter_append,List.filter_cons,if_pos (by simpa using hp)]
 rw[e,List.getElem?_append_right (xN _),Nat.sub_self];rfl
theorem zlJ (m:Mf) (vs:Value) (i last:Int) (w:World) (hS:StW w) (Hb:KnW w) (hG:Sgs w vs m.segs) :
  Calls H 4 #[O #[C D m.next,C D m.term,C D m.vote,C D m.sq,C D m.sf,vs],C D i,C D last] w fun e w'=>e=.returned (J true)∧Ext w w':=by
 obtain ⟨A,c,rfl,_,_⟩:=hG.open_
 have hX:Ext w (w.alloc (M #[C D m.next,C D m.term,C D m.vote,C D m.sq,C D m.sf,F A m.segs.length c] 30)):=xA (xR _) _
 have hb:=P0 w 30 #[C D m.next,C D m.term,C D m.vote,C D m.sq,C D m.sf,F A m.segs.length c];have HS:=G (hS.ext hX);have HK:=G (Hb.ext hX);have HG:=G (hG.ext hX);have HB:=G hb;have HX:=G hX;obtain ⟨q0,q1,q2,q3,q4,q5⟩:=zag hb;clear hS Hb hG hb hX;obtain ⟨w0,HA⟩:∃ x,w.alloc (M #[C D m.next,C D m.term,C D m.vote,C D m.sq,C D m.sf,F A m.segs.length c] 30)=x:=⟨_,rfl⟩
 have Hz:∀ W,Ext w0 W→W.cell? ⟨w.heap.size,0,N⟩=I (C D m.next)∧W.cell? ⟨w.heap.size,1,N⟩=I (C D m.term)∧W.cell? ⟨w.heap.size,2,N⟩=I (C D m.vote)∧W.cell? ⟨w.heap.size,3,N⟩=I (C D m.sq)∧W.cell? ⟨w.heap.size,4,N⟩=I (C D m.sf)∧W.cell? ⟨w.heap.size,5,N⟩=I (F A m.segs.length c):=fun W h=>by rw[←HA] at h;exact ⟨h.cell q0,h.cell q1,h.cell q2,h.cell q3,h.cell q4,h.cell q5⟩
 rw[HA] at HS HK HG HB HX;clear q0 q1 q2 q3 q4 q5;have Hj:=G Hz;clear Hz
 go_enter Tryz.func4,Tryz.ntmps4
 obtain ⟨q0,q1,q2,q3,q4,q5⟩:=Hj.out _ (xR _)
 by_cases hlen:70<m.segs.length
 case pos =>
  have hl:(70:Int)<(m.segs.length:Int):=by omega
  have HL:=G hlen;go_wp2_with fail
  refine (zgt _ HS.out HK.out).mono ?_
  rintro e w1 ⟨rfl,H8⟩;have H4:=G (xT HX.out H8);clear H8 HA q0 q1 q2 q3 q4 q5 hl;go_wp2_with fail;go_ret
  exact ⟨rfl,H4.out⟩
 have hl:¬ (70:Int)<(m.segs.length:Int):=by omega
 have HL:=G hlen;clear hlen
 cases hck:zaF m with
 | false =>
  have key:=zhw m _ w0 HG.out;rw[hck] at key;simp only[Bool.false_eq_true,if_false] at key;clear hck;go_wp2_with fail
  refine key.mono ?_
  rintro e w1 ⟨rfl,H8⟩;have H4:=G H8;clear key H8 HA q0 q1 q2 q3 q4 q5 hl;go_wp2_with fail
  refine (zgt _ (HS.out.ext H4.out) (HK.out.ext H4.out)).mono ?_
  rintro e w2 ⟨rfl,Hn⟩;have Ht:=G (xT HX.out (xT H4.out Hn));clear Hn;go_wp2_with fail;go_ret
  exact ⟨rfl,Ht.out⟩
 | true =>
  have key:=zhw m _ w0 HG.out;rw[hck] at key;simp only[if_true] at key;have Kp:=G hck;clear hck;go_wp2_with fail
  refine key.mono ?_
  rintro e w1 ⟨rfl,H8⟩;have H4:=G H8;clear key H8 HA q0 q1 q2 q3 q4 q5 hl;obtain ⟨q0,q1,q2,q3,q4,q5⟩:=Hj.out _ H4.out
  have Km:∀ s∈m.segs,0≤s.first∧s.first≤1073741824∧-1≤s.count∧s.count≤4:=fun s hs=>by have:=zgf Kp.out s hs;omega
  have HP:=G Km;clear Km;go_wp2_with fail
  refine (zgP m _ i last _ (HG.out.ext H4.out) (by have:=HL.out;omega) HP.out).mono ?_
  rintro e w2 ⟨v2,rfl,HY,Hn⟩;obtain ⟨A2,c2,rfl,_,_⟩:=(OwnS.sgs HY).open_
  have Kg:Sgs w2 (F A2 (zaz m.segs i last).length c2) (zaz m.segs i last):=OwnS.sgs HY
  dsimp only[zcR]
  have HR:Ext w2 (w2.alloc (M #[C D m.next,C D m.term,C D m.vote,C D m.sq,C D m.sf,F A2 (zaz m.segs i last).length c2] 30)):=xA (xR _) _
  have H9:=G (xT (xT H4.out Hn) HR);have HN:=G (Kg.ext HR);have H6:=G (P0 w2 30 #[C D m.next,C D m.term,C D m.vote,C D m.sq,C D m.sf,F A2 (zaz m.segs i last).length c2])
  have Ke:=G (show (zaz m.segs i last).length≤70 from Nat.le_trans (zk8 _ _ _) (by have:=HL.out;omega))
  clear HY Hn Kg HR q0 q1 q2 q3 q4 q5 H4;go_wp2_with fail;obtain ⟨w3,Kn⟩:∃ x,w2.alloc (M #[C D m.next,C D m.term,C D m.vote,C D m.sq,C D m.sf,F A2 (zaz m.segs i last).length c2] 30)=x:=⟨_,rfl⟩
  rw[Kn] at H9 HN H6 ⊢
  clear Kn
  go_loopw [8,9] (fun v8 v9 wr=>∃ j:Nat,j≤m.segs.length∧v9=C D j∧v8=C D (((zaz (m.segs.take j) i last).length:Nat):Int)∧Hid (Ext w3 wr)) (fun _ v9 _=>m.segs.length-(intOf v9).toNat)
  case atStart=>exact ⟨0,Nat.zero_le _,rfl,rfl,xR _⟩
  case round =>
   obtain ⟨j,hj,rfl,rfl,He⟩:=hrel;obtain ⟨q0,q1,q2,q3,q4,q5⟩:=Hj.out _ (xT H9.out He.out);obtain ⟨p0,p1,p2,p3,p4,p5⟩:=zag (H6.out.ext He.out)
   by_cases hlt:j<m.segs.length
   case pos =>
    obtain ⟨_,b,KJ,rfl,hc⟩:=Sgs.at_ (HG.out.ext (xT H9.out He.out)) (by omega);obtain ⟨k0,k1,k2,k3⟩:=hc j hlt
    have Hd:zaz (m.segs.take (j+1)) i last=zaz (m.segs.take j) i last++(if i<zcD m.segs[j] last then [m.segs[j]] else []):=by rw[List.take_succ_eq_append_getElem hlt,zj2]
    have Hc:=fun h=>zud (i:=i) (last:=last) hlt h
    have KC:=HP.out _ (List.getElem_mem hlt);clear hc
    generalize m.segs[j]=x at *
    generalize zaz (m.segs.take j) i last=L at *
    obtain ⟨E,Hy⟩:∃ E,zcD x last=E:=⟨_,rfl⟩;rw[Hy] at Hd Hc;have Kd:=G Hd;have Ko:=G Hc;have Kj:=P0 wr 36 #[C D x.seq,C D x.fmt,C D x.first,C D x.count]
    have Ki:Ext wr (wr.alloc (M #[C D x.seq,C D x.fmt,C D x.first,C D x.count] 36)):=xA (xR _) _
    have HD:=G (xT He.out Ki);have KA:=G Kj;clear Hd Hc Ki Kj p0 p1 p2 p3 p4 p5 q0 q1 q2 q3 q4;obtain ⟨p0,p1,p2,p3,p4,p5⟩:=zag (H6.out.ext HD.out)
    have HI:∀ W,(Op.equalIn 10000 36 (O #[C D x.seq,C D x.fmt,C D x.first,C D x.count]) (O #[C D x.seq,C D x.fmt,C D x.first,C D x.count])).run H W=.ok true W:=fun W=>by rw[zkW,decide_eq_true rfl]
    have Kq:=G HI;clear HI
    by_cases hcn:x.count = -1
    case' pos =>
     have he:E=last:=by rw[←Hy];unfold zcD;rw[if_pos hcn]
     have HE:=G he;clear he Hy;obtain ⟨sq,sf,s1,cn⟩:=x
     dsimp only at *
     subst hcn
    case' neg =>
     have he:E=x.first+x.count-1:=by rw[←Hy];unfold zcD;rw[if_neg hcn]
     have HE:=G he;clear he Hy;obtain ⟨sq,sf,s1,cn⟩:=x
     dsimp only at *
    all_goals
     by_cases hle:E≤i
     case pos =>
      have Hs:=hle;rw[HE.out] at Hs;have Hd:=Kd.out;rw[if_neg (by omega),List.append_nil] at Hd;have Hq:=G Hd;clear Hd hle;go_wp2_with fail
      go_roundw
      case rel=>exact ⟨j+1,by omega,by go_num,by rw[Hq.out],HD⟩
      case measure=>simp[intOf];omega
     case neg =>
      have Hs:=hle;rw[HE.out] at Hs;have Hd:=Kd.out;rw[if_pos (by omega)] at Hd;have Hc:=Ko.out (by omega);have Hq:=G Hd
      have HU:L.length<(zaz m.segs i last).length:=by
       rcases Nat.lt_or_ge L.length (zaz m.segs i last).length with h | h
       ·exact h
       ·rw[List.getElem?_eq_none h] at Hc;cases Hc
      obtain ⟨_,b2,Kz,rfl,Kk⟩:=Sgs.at_ (HN.out.ext HD.out) (by omega);obtain ⟨z0,z1,z2,z3⟩:=Kk L.length HU;rw[List.getElem?_eq_getElem HU] at Hc
      injection Hc with Hc
      rw[Hc] at z0 z1 z2 z3
      have KF:(L.length:Int)<((zaz m.segs i last).length:Int):=by omega
      have KE:(0:Int)≤(L.length:Int):=by omega
      have Kt:=G (show (L.length:Int)≤100 from by have:=Ke.out;omega)
      clear Hd hle Hc Kk HU;go_wp2_with fail
      have Kv:decide ((zaz m.segs i last).length≤L.length)=false:=by simp;omega
      have HI:=Kq.out;have Kw:=zmM
      go_quiet (fail)
      clear HI Kw Kv;go_wp2_with fail
      go_roundw
      case rel=>exact ⟨j+1,by omega,by go_num,by rw[Hq.out,xL,show wrap64 ((L.length:Int)+1)=((L.length+1:Nat):Int) from by have:=Kt.out;unfold wrap64;omega];rfl,zqG HD.out _⟩
      case measure=>simp[intOf];omega
   case neg =>
    obtain rfl:j=m.segs.length:=by omega
    rw[List.take_length]
    have Ho:∀ W,Ext wr W→W.cell? ⟨w.heap.size,0,N⟩=I (C D m.next)∧W.cell? ⟨w.heap.size,3,N⟩=I (C D m.sq)∧W.cell? ⟨w.heap.size,4,N⟩=I (C D m.sf)∧W.cell? ⟨w2.heap.size,0,N⟩=I (C D m.next)∧W.cell? ⟨w2.heap.size,1,N⟩=I (C D m.term)∧W.cell? ⟨w2.heap.size,2,N⟩=I (C D m.vote)∧W.cell? ⟨w2.heap.size,3,N⟩=I (C D m.sq)∧W.cell? ⟨w2.heap.size,4,N⟩=I (C D m.sf)∧W.cell? ⟨w2.heap.size,5,N⟩=I (F A2 (zaz m.segs i last).length c2):=fun W h=>by
     obtain ⟨x0,_,_,x3,x4,_⟩:=Hj.out W (xT (xT H9.out He.out) h);obtain ⟨y0,y1,y2,y3,y4,y5⟩:=zag (H6.out.ext (xT He.out h))
     exact ⟨x0,x3,x4,y0,y1,y2,y3,y4,y5⟩
    have H5:=G Ho;have K7:=G (HN.out.ext He.out)
    have KI:∀ W,(Op.equalIn 10000 27 (O #[C D m.sq,C D m.sf]) (O #[C D m.sq,C D m.sf])).run H W=.ok true W:=fun W=>by rw[zh1];simp
    have KH:(((zaz m.segs i last).length:Int)==((zaz m.segs i last).length:Int))=true:=by simp
    have Kr:=G (xT (xT HX.out H9.out) He.out);clear Ho q0 q1 q2 q3 q4 p0 p1 p2 p3 p4 p5;go_wp2_with fail;clear q5
    refine wp_region_held_drew (S:=fun W=>W.cell? ⟨w.heap.size,0,N⟩=I (C D m.next)∧W.cell? ⟨w.heap.size,3,N⟩=I (C D m.sq)∧W.cell? ⟨w.heap.size,4,N⟩=I (C D m.sf)∧W.cell? ⟨w2.heap.size,0,N⟩=I (C D m.next)∧W.cell? ⟨w2.heap.size,1,N⟩=I (C D m.term)∧W.cell? ⟨w2.heap.size,2,N⟩=I (C D m.vote)∧W.cell? ⟨w2.heap.size,3,N⟩=I (C D m.sq)∧W.cell? ⟨w2.heap.size,4,N⟩=I (C D m.sf)∧W.cell? ⟨w2.heap.size,5,N⟩=I (F A2 (zaz m.segs i last).length c2)) (by kernel_rfl) (H5.out _ (xD (xR _))) (fun _=>?_)
    refine tkN 0 ?_;refine tkN 1 ?_;refine tkN 2 ?_;refine tkN 3 ?_;refine tkN 4 ?_;refine tkN 5 ?_;refine tkN 6 ?_;refine tkN 7 ?_;refine tkN 8 ?_;refine tkN 9 ?_;refine tkN 10 ?_;refine tkN 11 ?_;refine tkN 12 ?_;refine tkN 13 ?_;refine tkN 14 ?_;refine tkN 15 ?_;refine tkN 16 ?_;refine tkN 17 ?_;refine tkN 18 ?_;refine tkN 19 ?_;refine tkN 20 ?_;refine tkN 21 ?_;refine tkN 22 ?_;refine tkN 24 ?_
    refine ar1 23 (fun K hK=>?_)
    go_simp
    refine (zgP (zcR m i last) _ i last _ (K7.out.ext (xD (xR _))) (by have:=Ke.out;show (zaz m.segs i last).length≤_;omega) (fun s hs=>HP.out s (List.mem_filter.1 hs).1)).mono ?_
    rintro e w5 ⟨v5,Kl,HZ,Hk⟩
    rw[show zcR (zcR m i last) i last=zcR m i last from by unfold zcR;simp only[zqd]] at Kl HZ
    subst Kl
    have Kh:Sgs w5 v5 (zcR m i last).segs:=OwnS.sgs HZ
    have Hx:=xT (xD (xR wr)) Hk;have Hp:=G Hx;have Ks:=G Kh;clear HZ Kh Hk Hx
    refine shK hK _ _ (H5.out _ Hp.out) (fun _=>?_)
    refine ar1 25 (fun K hK=>?_)
    go_simp
    refine (zqz (zcR m i last) (zcR m i last) _ _ w5 Ks.out (K7.out.ext Hp.out)).mono ?_
    rw[decide_eq_true rfl];rintro e w6 ⟨rfl,Hf⟩;have Hi:=G (xT Hp.out Hf);clear Hf
    refine shK hK _ _ (H5.out _ Hi.out) (fun _=>?_)
    refine tkN 26 ?_;refine tkN 27 ?_
    refine ar1 28 (fun K hK=>?_)
    go_simp
    refine (zgt _ (HS.out.ext (xT (xT H9.out He.out) Hi.out)) (HK.out.ext (xT (xT H9.out He.out) Hi.out))).mono ?_
    rintro e w7 ⟨rfl,Hg⟩;have Hu:=G (xT Hi.out Hg);clear Hg
    refine shK hK _ _ (H5.out _ Hu.out) (fun _=>?_)
    refine tkN 29 ?_;refine tkN 30 ?_;refine wdD ?_;go_wp2_with fail;go_ret
    exact ⟨rfl,xT Kr.out Hu.out⟩
end Go.Proofs.YteggfecbjgbndaaGreatDoor
