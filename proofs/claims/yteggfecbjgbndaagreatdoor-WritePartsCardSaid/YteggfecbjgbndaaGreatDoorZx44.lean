/- Merged -/
import Derived.Test.YteggfecbjgbndaaGreatDoorZx43
set_option linter.all false
set_option maxHeartbeats 8000000
set_option maxRecDepth 100000
open List renaming length->Q
open Go.Value renaming int->C,slice->F,pointer->J,bool->N
open Go.IntKind renaming i64->E
open Option renaming some->H,none->I
open Go.Mv renaming aN->L
open Go.Obj renaming cells->O
open Go.World renaming drew->P0
open Go.Mv.Blk renaming new->P1,kept->P2
open And renaming intro->P3
open Array renaming getElem?_eq_some_iff->P4
namespace Go.Proofs.YteggfecbjgbndaaGreatDoor
open Go.RowKit Go.Mv
variable {P:Prop}
theorem mcRdZa0(h:P:=by
 refine ab 21 ?_;refine ab 22 ?_;refine ab 23 ?_;refine ab 24 ?_;refine ah 25 (λK hK=>?_);go_simp;refine(G0 _ (xD (xR _))).mono ?_;rintro e w9⟨rfl,KV⟩;have K5:=xT (xD (xR W)) KV;refine af hK _ _ (H1 _ K5) (λ_=>?_);cases hrr:cT ⟨s,out,m.term,m.vote⟩with
 |false=>
  have Hf:Hid (bL 130=R):=by unfold Hid;rw[<-KO.out,hrr];simp
  refine ab 26 ?_;refine ah 27 (λK hK=>?_);go_simp;refine(fG _ _).mono ?_;rintro e Gt⟨rfl,rfl⟩;exact⟨rfl,rfl,Hf.out,xT KF K5,(K5.block D (P4.1 HV).1).trans HV.out⟩
 |true=>
  have Hb:Hid ((⟨0,⟨s,out,m.term,m.vote⟩,m⟩:Rd)=R):=by unfold Hid;rw[<-KO.out,hrr];simp
  refine ab 26 ?_;refine ah 27 (λK hK=>?_);go_simp;refine(iK _ _).mono ?_;rintro e Gt⟨rfl,rfl⟩;refine af hK _ _ (H1 _ K5) (λ_=>?_);refine aq ?_;exact pI ⟨rfl,rfl,rfl,rfl,rfl,rfl,Hb.out,K5⟩):P:=h
theorem mcRdZa1(h:P:=by
 dsimp only at hd;subst hd;exact nN (R:=R1P R bt bm w) (c:=eM 130) h3 (mN h1.symm rfl (cp h2 (hD:=HK) _))):P:=h
theorem mcRdZa2(h:P:=by
 refine ab 22 ?_;refine ab 23 ?_;refine ag 24 ?_;refine ag 25 ?_;refine ab 26 ?_;refine ah 27 (λK hK=>?_);go_simp;refine(fG _ _).mono ?_;rintro e w9⟨rfl,rfl⟩;exact⟨rfl,rfl,Hf.out,xD KF,HV.out⟩):P:=h
def zxg(fs:List Fil):Prop:=∀b m,bu fs (aE 1 0 0)=H b->cA b=H m->m.sq=0
theorem zzD(fs:List Fil){m:Mf}(h:m.sq=0):eI fs m=H ⟨0,0,0,1,false⟩:=by unfold eI;rw[if_pos h]
theorem yae(A:Option Addr)(n c:Nat)(fs:List Fil)(m:Mf)(a:m.sq=0)(w:World):Calls Tryz.prog 37 #[F A n c,.agg #[C E m.sq,C E m.sf]] w (Cr w (eI fs m)):=by
 rw[zzD fs a];exact yad A n c m.sq m.sf a w
attribute [local go_sem] Oper.semAt_some in
theorem zyW(v:Value)(fs:List Fil)(pl bt bm:Nat)(w:World)(Kw:zxg fs)(hS:StW w)(hF:Fs w v fs)(hl:Q fs<=4000000)(H4:∀f∈fs,Q f.2<=100000)(h0:w.cell? ⟨pl,0,I⟩=H v)(hT:Blk w bt 44 (bE eT (F none 0 0)))(hM:Blk w bm 30 (mfC mf0 (F none 0 0)))(Kv:bt≠bm):
  Calls Tryz.prog 33 #[J (H ⟨pl,0,I⟩),J (H ⟨bt,0,I⟩),J (H ⟨bm,0,I⟩)] w (R1P (b9 fs) bt bm w):=by
 obtain⟨A,c,rfl,_,_⟩:=Fs.open_ hF;obtain⟨R,hR⟩:∃R,b9 fs=R:=⟨_,rfl⟩;rw[hR];unfold b9 at hR;have key:=nY (F A fs.length c) fs 1 0 0 42 w hS hF hl;have Hz:∀b,bu fs (aE 1 0 0)=H b->Q b<=100000:=λb h=>by
  obtain⟨f,hf,rfl⟩:=oc h;exact H4 f hf
 obtain⟨rb,J0⟩:∃r,bu fs (aE 1 0 0)=r:=⟨_,rfl⟩;rw[J0]at key hR Hz;have Ka:∀f∈fs,Q f.2<=2000000:=λf hf=>by have:=H4 f hf;omega
 have G4:=L (show ∀b m,rb=H b->cA b=H m->m.sq=0 from λb m h=>Kw b m (J0.trans h));have HS:=L hS;have HF:=L hF;have HT:=L hT;have HM:=L hM;have Jf:=L Kv;have JQ:=L Ka;have HR:=L hR;have Jl:=L key;have K1:=L Hz;have HL:=L hl;have H0:=L h0;clear hS hF hT hM Kv H4 Ka hR key Hz J0 hl Kw;refine(callsIn_wd (ro:=none) (n:=9)).1 ?_;refine callsIn_of_wp_marks Tryz.func33 rfl trivial ?_ rfl;simp only[Tryz.ntmps33,List.size_toArray,xC,List.length_nil,Nat.reduceAdd,Nat.reduceSub,Array.replicate_succ,Array.replicate_zero,List.push_toArray,List.append_toArray,xI,List.cons_append];gi_wp2;refine⟨trivial,(callsIn_wd.2 Jl).mono ?_⟩;rintro e w1⟨JE,Ks⟩;cases rb with
 |none=>
  obtain rfl:=JE;exact mN HR.symm rfl Ks
 |some b=>
  obtain⟨v1,rfl,K3⟩:=JE;have hR:=HR.out;dsimp only at hR;have key:=IF v1 b w1 (HS.ext Ks) K3 (K1 b rfl);obtain⟨rm,Ky⟩:∃r,cA b=r:=⟨_,rfl⟩;rw[Ky]at key hR;have Gc:=L (show ∀m,rm=H m->m.sq=0 from λm h=>G4.out b m rfl (Ky.trans h));have Jo:=λm (h:rm=H m)=>yD (Ky.trans h);have K2:=L key;have KN:=L hR;have J9:=L Ks;have J8:=L Jo;clear key hR Ky Ks K3 Jo HR K1 h0;gi_wp2;refine⟨trivial,(callsIn_wd.2 K2).mono ?_⟩;rintro e y⟨vs,rfl,Hm,Gi⟩;have HP:=L (xT J9 Gi);cases rm with
  |none=>
   have hR:bL 130=R:=KN.out;dsimp only[Option.isSome,Option.getD]at Hm⊢;obtain⟨B,d,rfl,_,_⟩:=(OwnS.sgs Hm).open_;clear Hm;gi_wp2;refine⟨trivial,(callsIn_wd.2 (fG _ _)).mono ?_⟩;rintro e w3⟨rfl,rfl⟩;exact mN hR.symm rfl (xA HP _)
  |some m=>
   obtain⟨Ke,_⟩:=J8 m rfl;dsimp only[Option.isSome,Option.getD]at Hm⊢;have hR:=KN.out;dsimp only at hR;have HX:=L hR;have HJ:=L Ke;have GB:w.heap.size<=y.heap.size:=HP.size;obtain⟨B,d,rfl,_,_⟩:=(OwnS.sgs Hm).open_;have hn:=P1 y 30 (mfC m (F B m.segs.length d));have Kt:Ext y (y.alloc (O (mfC m (F B m.segs.length d)) 30)):=xA (xR _) _;have Gu:=L Hm;have H3:=L (xT HP Kt);have HU:=L (ai Hm Kt);have HN:=L hn;have Gf:=L J9.size;clear hR KN Ke J8 Hm hn K2 Jl;unfold mfC at H3 HU HN Kt;gi_wp2;refine⟨trivial,(callsIn_wd.2 (iK _ _)).mono ?_⟩;rintro e w3⟨rfl,rfl⟩;gi_wp2;have Kr:=H3.cell H0;obtain⟨q0,q1,q2,q3,q4,q5⟩:=aj HN;have key:=λW (h:Ext (y.alloc (O #[C E m.next,C E m.term,C E m.vote,C E m.sq,C E m.sf,F B m.segs.length d] 30)) W)=>yae A fs.length c fs m (Gc m rfl) W;have H6:=L key;obtain⟨wn,Hr⟩:∃x,y.alloc (O #[C E m.next,C E m.term,C E m.vote,C E m.sq,C E m.sf,F B m.segs.length d] 30)=x:=⟨_,rfl⟩;have JK:wn.heap.size=y.heap.size+1:=by rw[<-Hr,xS]
   rw[Hr]at Kr q0 q1 q2 q3 q4 q5;have HN:Hid (Blk wn y.heap.size 30 (mfC m (F B m.segs.length d))):=by rw[<-Hr];exact HN
   have H3:Hid (Ext w wn):=by rw[<-Hr];exact H3
   have HU:Hid (OwnS wn w1.heap.size (F B m.segs.length d) m.segs):=by rw[<-Hr];exact HU
   have H6:Hid (∀W,Ext wn W->Calls Tryz.prog 37 #[F A fs.length c,.agg #[C E m.sq,C E m.sf]] W (Cr W (eI fs m))):=by rw[<-Hr];exact H6
   rw[Hr];have Gv:=L JK;clear Kt key JK Hr;obtain⟨rs,J1⟩:∃r,eI fs m=r:=⟨_,rfl⟩;have Jv:∀s,rs=H s->0<=s.idx/\s.idx<=1073741824:=λs h=>(zp (J1.trans h)).2;rw[J1]at H6 HX;have Jb:=L Jv;clear J1 Jv;refine Be (λV w'=>V.defers=[]/\V.tmps.size=79/\V.tmps.getD 0 undef=J (H ⟨pl,0,I⟩)/\V.tmps.getD 1 undef=J (H ⟨bt,0,I⟩)/\V.tmps.getD 2 undef=J (H ⟨bm,0,I⟩)/\V.tmps.getD 3 undef=J (H ⟨y.heap.size,0,I⟩)/\∃(g:Nat) (s:Sta),V.tmps.getD 5 undef=J (H ⟨g,0,I⟩)/\rs=H s/\wn.heap.size<=g/\Blk w' g 44 #[C E s.idx,C E s.term,C E s.sum,C E s.lvl,N s.fin,F none 0 0,C E m.term,C E m.vote]/\Ext wn w') ?_ ?_
   ·refine mj [] (λc W=>c=eM 130/\bL 130=R/\Ext w W) ?_ (S:=λW=>W.cell? ⟨pl,0,I⟩=H (F A fs.length c)/\W.cell? ⟨y.heap.size,1,I⟩=H (C E m.term)/\W.cell? ⟨y.heap.size,2,I⟩=H (C E m.vote)/\W.cell? ⟨y.heap.size,3,I⟩=H (C E m.sq)/\W.cell? ⟨y.heap.size,4,I⟩=H (C E m.sf)) (by kernel_rfl) ⟨Kr,q1,q2,q3,q4⟩ (λ_=>?_)
    ·rintro c' ⟨T,df⟩W hd⟨rfl,h1,h2⟩;dsimp only at hd;subst hd;exact mN h1.symm rfl h2
    have hold:∀W,Ext wn W->W.cell? ⟨pl,0,I⟩=H (F A fs.length c)/\W.cell? ⟨y.heap.size,1,I⟩=H (C E m.term)/\W.cell? ⟨y.heap.size,2,I⟩=H (C E m.vote)/\W.cell? ⟨y.heap.size,3,I⟩=H (C E m.sq)/\W.cell? ⟨y.heap.size,4,I⟩=H (C E m.sf):=λW h=>⟨h.cell Kr,h.cell q1,h.cell q2,h.cell q3,h.cell q4⟩;have H1:=L hold;clear Kr q0 q1 q2 q3 q4 q5 hold;refine ab 0 ?_;refine ab 1 ?_;refine ab 2 ?_;refine ab 4 ?_;refine ab 5 ?_;refine ab 6 ?_;refine ab 7 ?_;refine AllReadyH.two (i:=3) (j:=9) rfl rfl (by kernel_rfl) (by rfl) (by rfl) (λK hK=>?_) (λK hK=>?_)
    ·go_simp;refine(H6 _ (xD (xR _))).mono ?_;rintro e w4⟨h4,KT⟩;have Hl:=xT (xD (xR wn)) KT;cases rs with
     |none=>
      obtain rfl:=h4;exact⟨rfl,rfl,HX.out,xT H3 Hl⟩
     |some s=>
      obtain rfl:=h4;refine af hK _ _ (H1 _ Hl) (λ_=>?_);refine ab 8 ?_;refine ah 9 (λK hK=>?_);go_simp;have J4:=P1 w4 44 #[C E 0,C E 0,C E 0,C E 0,N false,F none 0 0,C E 0,C E 0];refine af hK _ _ (H1 _ (xA Hl _)) (λ_=>?_);obtain⟨f0,f1,f2,f3,f4,f5,f6,f7⟩:=cS J4;refine ah 10 (λK hK=>?_);go_simp;have Hj:Hid (Blk (w4.alloc (O #[C E s.idx,C E s.term,C E s.sum,C E s.lvl,N s.fin,F none 0 0,C E m.term,C E m.vote] 44)) w4.heap.size 44 #[C E s.idx,C E s.term,C E s.sum,C E s.lvl,N s.fin,F none 0 0,C E m.term,C E m.vote]):=L (P1 w4 _ _);have He:=L (xA Hl (O #[C E s.idx,C E s.term,C E s.sum,C E s.lvl,N s.fin,F none 0 0,C E m.term,C E m.vote] 44));refine af hK _ _ (H1 _ He) (λ_=>?_);refine aq ?_;refine pI ⟨rfl,rfl,rfl,rfl,rfl,rfl,_,s,rfl,rfl,Hl.size,Hj.out,He.out⟩
    ·go_simp;have J4:=(P1 wn 44 #[C E 0,C E 0,C E 0,C E 0,N false,F none 0 0,C E 0,C E 0]).ext (xD (xR _));have KU:Ext wn (wn.alloc (O #[C E 0,C E 0,C E 0,C E 0,N false,F none 0 0,C E 0,C E 0] 44)).drew:=xD (xA (xR _) _);refine af hK _ _ (H1 _ KU) (λ_=>?_);refine ah 3 (λK hK=>?_);go_simp;refine(H6 _ KU).mono ?_;rintro e w4⟨h4,Hl⟩;have E4:=xT KU Hl;cases rs with
     |none=>
      obtain rfl:=h4;exact⟨rfl,rfl,HX.out,xT H3 E4⟩
     |some s=>
      obtain rfl:=h4;refine af hK _ _ (H1 _ E4) (λ_=>?_);refine ab 8 ?_;have J5:=J4.ext Hl;obtain⟨f0,f1,f2,f3,f4,f5,f6,f7⟩:=cS J5;obtain⟨g0,g1,g2,g3,g4,g5,g6,g7⟩:=aU J5;refine ah 10 (λK hK=>?_);go_simp;have Hj:=L (fO J5 (C E s.idx) (C E s.term) (C E s.sum) (C E s.lvl) (N s.fin) (F none 0 0) (C E m.term) (C E m.vote));have He:=L (iS E4 (xN _) (C E s.idx) (C E s.term) (C E s.sum) (C E s.lvl) (N s.fin) (F none 0 0) (C E m.term) (C E m.vote));refine af hK _ _ (H1 _ He) (λ_=>?_);refine aq ?_;refine pI ⟨rfl,rfl,rfl,rfl,rfl,rfl,_,s,rfl,rfl,xN _,Hj.out,He.out⟩
   ·rintro⟨T2,df⟩l⟨hd,H8,t0,t1,t2,t3,g,s,t5,rfl,Hd,Hj,He⟩;dsimp only at hd H8 t0 t1 t2 t3 t5;subst hd;have hT:=fM 79 T2 H8;generalize hU:(λi=>T2.getD i undef)=U at hT;have g0:U 0=J (H ⟨pl,0,I⟩):=by rw[<-hU];exact t0
    have g1:U 1=J (H ⟨bt,0,I⟩):=by rw[<-hU];exact t1
    have g2:U 2=J (H ⟨bm,0,I⟩):=by rw[<-hU];exact t2
    have g3:U 3=J (H ⟨y.heap.size,0,I⟩):=by rw[<-hU];exact t3
    have g5:U 5=J (H ⟨g,0,I⟩):=by rw[<-hU];exact t5
    have K6:T2 = #[J (H ⟨pl,0,I⟩),J (H ⟨bt,0,I⟩),J (H ⟨bm,0,I⟩),J (H ⟨y.heap.size,0,I⟩),U 4,J (H ⟨g,0,I⟩),U 6,U 7,U 8,U 9,U 10,U 11,U 12,U 13,U 14,U 15,U 16,U 17,U 18,U 19,U 20,U 21,U 22,U 23,U 24,U 25,U 26,U 27,U 28,U 29,U 30,U 31,U 32,U 33,U 34,U 35,U 36,U 37,U 38,U 39,U 40,U 41,U 42,U 43,U 44,U 45,U 46,U 47,U 48,U 49,U 50,U 51,U 52,U 53,U 54,U 55,U 56,U 57,U 58,U 59,U 60,U 61,U 62,U 63,U 64,U 65,U 66,U 67,U 68,U 69,U 70,U 71,U 72,U 73,U 74,U 75,U 76,U 77,U 78]:=by rw[hT];show(#[U 0,U 1,U 2,U 3,U 4,U 5,U 6,U 7,U 8,U 9,U 10,U 11,U 12,U 13,U 14,U 15,U 16,U 17,U 18,U 19,U 20,U 21,U 22,U 23,U 24,U 25,U 26,U 27,U 28,U 29,U 30,U 31,U 32,U 33,U 34,U 35,U 36,U 37,U 38,U 39,U 40,U 41,U 42,U 43,U 44,U 45,U 46,U 47,U 48,U 49,U 50,U 51,U 52,U 53,U 54,U 55,U 56,U 57,U 58,U 59,U 60,U 61,U 62,U 63,U 64,U 65,U 66,U 67,U 68,U 69,U 70,U 71,U 72,U 73,U 74,U 75,U 76,U 77,U 78]:Array Value)=_;rw[g0,g1,g2,g3,g5]
    clear hT hU H8 g0 t0 g1 t1 g2 t2 g3 t3 g5 t5;subst K6;obtain⟨Kz,KA⟩:=Jb s rfl;have Kl:=pP HJ;have Kf:Q m.segs<=60:=(lJ HJ).2.2.2.1;have JJ:wrap64 (s.idx+1)=s.idx+1:=by unfold wrap64;omega
    obtain⟨p0,p1,p2,p3,p4,p5,p6,p7⟩:=aU Hj;have l5:=He.cell (H3.cell H0);have KX:Blk l y.heap.size 30 #[C E m.next,C E m.term,C E m.vote,C E m.sq,C E m.sf,F B m.segs.length d]:=Blk.ext HN He;obtain⟨q0,q1,q2,q3,q4,q5⟩:=aj KX;have K7:Ext l (l.alloc (O #[C E (s.idx+1)] 3)):=xA (xR _) _;have l6:=K7.cell l5;have ea:=aj (KX.ext K7);have Kb:=P1 l 3 #[C E (s.idx+1)];have Kc:=Hj.ext K7;have Kp:=L Hj.lt;have Ji:=L (xT He K7);have HD:=L Kb;have HG:=L Kc;have Hv:=L Kl;have Hu:=L Kf;have H5:=L Hd;have KI:=L (P3 Kz KA);have HY:=HX.out;dsimp only at HY;have HY:=L HY;clear Jb KX K7 Kb Kc Kl Kf Hd H6 HX Kz KA Hj He;gi_wp2;refine⟨trivial,(callsIn_wd.2 (Nm _ _ _ _ m _)).mono ?_⟩;rintro e w7⟨rfl,HB⟩;unfold mfC at HB;have Hc:Ext (l.alloc (O #[C E (s.idx+1)] 3)) w7:=by rw[<-HB];exact xA (xA (xR _) _) _
    have K3:Blk w7 (l.heap.size+1) 22 #[F A fs.length c]:=by
     rw[<-HB];have:=(P1 (l.alloc (O #[C E (s.idx+1)] 3)) 22 #[F A fs.length c]).alloc (O #[C E m.next,C E m.term,C E m.vote,C E m.sq,C E m.sf,F B m.segs.length d] 30);rwa[xS]at this
    have Jm:Blk w7 (l.heap.size+1+1) 30 (mfC m (F B m.segs.length d)):=by
     rw[<-HB];have:=P1 ((l.alloc (O #[C E (s.idx+1)] 3)).alloc (O #[F A fs.length c] 22)) 30 (mfC m (F B m.segs.length d));rwa[xS,xS]at this
    have JM:w7.heap.size=l.heap.size+1+1+1:=by rw[<-HB,xS,xS,xS]
    have KR:=L (xT Ji Hc);have Ha:=L (HG.ext Hc);have H9:=L (HD.ext Hc);have JN:=L K3;have JO:=L Jm;have Km:wn.heap.size<=w7.heap.size:=KR.size;have Hw:=L Km;have Gw:=L JM;have G9:=L (HS.ext H3);have JV:=L (HF.ext H3);have Ja:=L (OwnS.sgs HU);have Kd:g≠l.heap.size:=by have:=Kp.out;omega
    have HH:=L Kd;have Gh:RdI wn g l.heap.size s m.term m.vote (λk=>k=g\/k=l.heap.size) [] w7:=⟨⟨none,0,s.idx+1,[],rfl,Ha.out,H9.out,World.ownsRow_nil _ _ _ _,λk=>by simp[Value.ownBlock]⟩,KR.out⟩;have Gj:∀k,k=g\/k=l.heap.size->wn.heap.size<=k/\k<l.heap.size+1:=λk hk=>by
     have h1:=Kp.out;have h2:=H5.out;rcases hk with rfl | rfl
     ·exact⟨h2,by omega⟩
     exact⟨by omega,by omega⟩
    clear HB p0 p1 p2 p3 p4 p5 p6 p7 l5 l6 q0 q1 q2 q3 q4 q5 JJ Hc K3 Jm Kd HG HD Ji Ha H9 ea;clear Km JM;gi_wp2;refine MS (a:=⟨_,_⟩) (n:=9) (Rp:=λ(x:Int×Ent) av _=>av = #[C E x.1,.agg #[C E x.2.t,C E x.2.k,C E x.2.v]]) (M:=λ_ _=>False) (xs:=(aI fs m.segs).1) (pn:=if(aI fs m.segs).2=true then none else some (eM 130)) (Gok:=λG=>∀k,G k->wn.heap.size<=k/\k<l.heap.size+1) (gf:=85) (lb:=#[J (H ⟨l.heap.size+1+1,0,I⟩),J (H ⟨l.heap.size+1,0,I⟩)]) ?hg ?eg ?hseq ?hMc ?hps (RdI wn g l.heap.size s m.term m.vote) ?hI ?hbd (λk=>k=g\/k=l.heap.size) Gj Gh
     (λx V W=>V.defers=[]/\V.tmps.size=79/\V.tmps.getD 5 undef=J (H ⟨g,0,I⟩)/\V.tmps.getD 6 undef=J (H ⟨l.heap.size,0,I⟩)/\V.tmps.getD 7 undef=C E x.1/\∃nb,V.tmps.getD 8 undef=J (H ⟨nb,0,I⟩)/\Blk W nb 54 #[C E x.2.t,C E x.2.k,C E x.2.v])
     ?hAx ?assign ?body ?done ?pan
    case hg=>exact rfl
    case eg=>exact enters_of Tryz.func85 (by kernel_rfl) rfl
    case hseq=>exact λW1 hb hs=>Mp wn W1 (F A fs.length c) (F B m.segs.length d) fs m G9 JV Ja HL JQ Hv Hu (xT KR hb) _ _ _ (xN _) (JN.ext hb) (JO.ext hb)
    case hMc=>exact λk o h=>h.elim
    case hps=>exact λx av W h=>by rw[h];rfl
    case hI=>
     rintro G q X Y⟨⟨A',c',z,out,h1,h2,h3,h4,h5⟩,h6⟩hm;exact⟨⟨A',c',z,out,h1,hm.blkF h2,hm.blkF h3,hm.ownsRow h4 (by rintro k Gy hk(h | ⟨_,h⟩);exact h;cases h),h5⟩,hm.belowF h6 Hw⟩
    case hbd=>
     rintro G q X⟨⟨A',c',z,out,h1,h2,h3,h4,h5⟩,h6⟩k hk;rcases(h5 k).1 hk with rfl | rfl | h
     ·exact h2.lt
     ·exact h3.lt
     exact(h4.lt k h).2
    case hAx=>
     rintro x V X Y⟨h1,h2,h3,h4,h5,nb,h6,h7⟩hm;exact⟨h1,h2,h3,h4,h5,nb,h6,hm.blkF h7⟩
    case assign=>
     rintro G l' J7 x J6 W av K' hx hi H8 rfl hK;clear hx;gi_wp2;exact hK _ _ (Kept.refl.alloc _) (hi.ext (xA (xR _) _)) ⟨rfl,rfl,rfl,rfl,rfl,_,rfl,P1 W _ _⟩
    case body=>
     rintro G l' J7 x J6 V W hx Gz hr⟨⟨A',c',z,out,hf,Hd,H4,H2,hg⟩,hE⟩H8⟨hd,HA,t5,t6,t7,nb,t8,Ku⟩;obtain⟨T3,df⟩:=V;dsimp only at hd HA t5 t6 t7 t8;subst hd;have H8:=HA;clear HA;have hT:=fM 79 T3 H8;generalize hU:(λi=>T3.getD i undef)=U at hT;have g5:U 5=J (H ⟨g,0,I⟩):=by rw[<-hU];exact t5
     have g6:U 6=J (H ⟨l.heap.size,0,I⟩):=by rw[<-hU];exact t6
     have g7:U 7=C E x.1:=by rw[<-hU];exact t7
     have g8:U 8=J (H ⟨nb,0,I⟩):=by rw[<-hU];exact t8
     have K6:T3 = #[U 0,U 1,U 2,U 3,U 4,J (H ⟨g,0,I⟩),J (H ⟨l.heap.size,0,I⟩),C E x.1,J (H ⟨nb,0,I⟩),U 9,U 10,U 11,U 12,U 13,U 14,U 15,U 16,U 17,U 18,U 19,U 20,U 21,U 22,U 23,U 24,U 25,U 26,U 27,U 28,U 29,U 30,U 31,U 32,U 33,U 34,U 35,U 36,U 37,U 38,U 39,U 40,U 41,U 42,U 43,U 44,U 45,U 46,U 47,U 48,U 49,U 50,U 51,U 52,U 53,U 54,U 55,U 56,U 57,U 58,U 59,U 60,U 61,U 62,U 63,U 64,U 65,U 66,U 67,U 68,U 69,U 70,U 71,U 72,U 73,U 74,U 75,U 76,U 77,U 78]:=by rw[hT];show(#[U 0,U 1,U 2,U 3,U 4,U 5,U 6,U 7,U 8,U 9,U 10,U 11,U 12,U 13,U 14,U 15,U 16,U 17,U 18,U 19,U 20,U 21,U 22,U 23,U 24,U 25,U 26,U 27,U 28,U 29,U 30,U 31,U 32,U 33,U 34,U 35,U 36,U 37,U 38,U 39,U 40,U 41,U 42,U 43,U 44,U 45,U 46,U 47,U 48,U 49,U 50,U 51,U 52,U 53,U 54,U 55,U 56,U 57,U 58,U 59,U 60,U 61,U 62,U 63,U 64,U 65,U 66,U 67,U 68,U 69,U 70,U 71,U 72,U 73,U 74,U 75,U 76,U 77,U 78]:Array Value)=_;rw[g5,g6,g7,g8]
     clear hT hU H8 g5 t5 g6 t6 g7 t7 g8 t8;subst K6;have JB:nb≠l.heap.size:=by
      rintro rfl;have h1:=Ku.symm.trans H4;simp at h1
     have Gp:nb≠g:=by
      rintro rfl;have h1:=Ku.symm.trans Hd;simp[bE]at h1
     have Hy:=Hd.other HH 0 (C E x.1);have Kg:=Ku.other JB 0 (C E x.1);have K9:Blk (W.setCell ⟨l.heap.size,0,I⟩ (C E x.1)) l.heap.size 3 #[C E x.1]:=H4.set 0 (C E x.1);have Hp:OwnE (W.setCell ⟨l.heap.size,0,I⟩ (C E x.1)) (wn.heap.size+1) (F A' out.length c') out:=H2.kept (ar _ l.heap.size 0 _) (.inr (H4.not_row (by decide) H2).symm);have K4:Ext wn (W.setCell ⟨l.heap.size,0,I⟩ (C E x.1)):=Below.setCell (p:=⟨l.heap.size,0,I⟩) hE (by have h1:=Kp.out;have h2:=H5.out;show wn.heap.size<=l.heap.size;omega) _;have Jw:Kept (am (KG G) w7.heap.size) W (W.setCell ⟨l.heap.size,0,I⟩ (C E x.1)):=Kept.refl.setCell (λo _ hc=>by
      rintro(h | h)
      ·exact h.2 ((hg _).2 (.inr (.inl rfl)))
      rw[hc]at h;exact absurd h.2 (by simp)) _
     have JG:(J7++[x]).foldl (fC s.idx) (s.idx+1,[])=(x.1,if s.idx<x.1 then out++[x.2]else out):=by
      rw[List.foldl_append,hf];rfl
     have Kx:Q out<=240:=by
      have h1:=rR s.idx J7 (s.idx+1,[]);rw[hf]at h1;have h2:=rH fs m.segs λs hs=>(Hv s hs).2.2.2;have h3:=congrArg List.length hx;rw[xL,xC]at h3;have h4:=Hu.out;simp at h1;omega
     have Jt:∀k,(k=g\/k=l.heap.size\/(Value.slice A' out.length c').ownBlock=H k)->G k:=λk h=>(hg k).2 h;have c0:=H4.cell 0 rfl;have Gx:=H4.frozen 0;have HE:=L Hy;have Hs:=L K9;have Jg:=L Hp;have HO:=L K4;have Jc:=L Jw;have Jh:=L JG;have G8:=L Kx;have HQ:=L Jt;have JW:=L hg;have HI:=L Hd;have KM:=L H2;have JL:(W.setCell ⟨l.heap.size,0,I⟩ (C E x.1)).heap.size=W.heap.size:=by simp
     have Jk:=L JL;obtain⟨p0,p1,p2,p3,p4,p5,p6,p7⟩:=aU Hy;have eb:=ez Kg;clear hx hr hf Hd H4 H2 hg hE Ku Hy Kg K9 Hp K4 Jw JG Kx Jt JL JB Gp;by_cases hgt:s.idx<x.1
     ·have Hc:Ext (W.setCell ⟨l.heap.size,0,I⟩ (C E x.1)) ((W.setCell ⟨l.heap.size,0,I⟩ (C E x.1)).alloc (O #[C E x.2.t,C E x.2.k,C E x.2.v] 54)):=xA (xR _) _;have KW:=o5 (W.setCell ⟨l.heap.size,0,I⟩ (C E x.1)) x.2;rw[Jk.out]at KW;have JU:=L KW;have KL:=L (OwnE.ext Jg Hc);have K0:=L Hc;have Hh:=HE.ext Hc;obtain⟨g0,g1,g2,g3,g4,g5,g6,g7⟩:=aU Hh;have f5:=Hh.frozen 5;have Ha:=L Hh;have H9:=L (Hs.ext Hc);have JR:=L (xT HO Hc);have JH:wn.heap.size+1<=((W.setCell ⟨l.heap.size,0,I⟩ (C E x.1)).alloc (O #[C E x.2.t,C E x.2.k,C E x.2.v] 54)).heap.size:=by
       have h1:=Kp.out;have h2:=H5.out;have h3:=Hs.lt;have h4:=K0.size;omega
      have Gd:=L JH;clear Hc KW Hh JH;gi_wp2_with (gi_at_builtin;refine CO rfl (.tmp 44) (.tmp 46) rfl (wn.heap.size+1) _ out rfl KL _ [x.2] rfl JU (by simp) (by have:=G8.out;simp;omega) Gd ?_;intro A8 c8 w8 Kk Jn Hi K8;have Kn:=L (P2 Ha Hi (Ha.not_row (by decide) KL));have G1:=L (P2 H9 Hi (H9.not_row (by decide) KL));have Kq:=L Kk;have Ko:=L (Jn _ JR (by omega));have KH:=L Hi;have KD:=L K8;clear Kk Jn Hi K8 g0 g1 g2 g3 g4 g5 g6 g7 f5;obtain⟨g0,g1,g2,g3,g4,g5,g6,g7⟩:=aU Kn;have f5:=Kn.frozen 5)
      have Gl:=(Jc.alloc (O #[C E x.2.t,C E x.2.k,C E x.2.v] 54)).grown KH (λk o hk ho=>by
       rintro(h | h)
       ·exact h.2 (HQ k (.inr (.inr hk)))
       have:=Fi KM hk ho;rw[this]at h;exact absurd h.2 (by simp))
      have Gk:Blk (w8.setCell ⟨g,5,I⟩ (F A8 (Q out+Q [x.2]) c8)) g 44 (bE ⟨s,out++[x.2],m.term,m.vote⟩ (F A8 (out++[x.2]).length c8)):=by
       rw[xL];exact Kn.set 5 _
      refine⟨Gl.setCell (λo _ hc=>?_) _,λk=>k=g\/k=l.heap.size\/(Value.slice A8 (out++[x.2]).length c8).ownBlock=H k,λk hk=>?_,⟨⟨A8,c8,x.1,out++[x.2],?_,Gk,G1.other (Ne.symm HH) 5 _,?_,λk=>Iff.rfl⟩,Below.setCell (p:=⟨g,5,I⟩) Ko H5 _⟩⟩
      ·rintro(h | h)
       ·exact h.2 (HQ _ (.inl rfl))
       rw[hc]at h;exact absurd h.2 (by simp)
      ·rw[xL]at hk;rcases hk with rfl | rfl | hk
       ·exact .inl (HQ _ (.inl rfl))
       ·exact .inl (HQ _ (.inr (.inl rfl)))
       rcases KD with hh | hh
       ·rw[hh]at hk;exact .inl (HQ _ (.inr (.inr hk)))
       rw[hh]at hk;injection hk with hk
       have h1:=K0.size;have h2:=Jk.out;exact .inr (by omega)
      ·rw[Jh.out,if_pos hgt]
      rw[xL];exact Kq.kept (ar _ g 5 _) (.inr (Kn.not_row (by decide) Kq).symm)
     gi_wp2;refine⟨Jc.out,G,λk h=>.inl h,⟨⟨A',c',x.1,out,?_,HE.out,Hs.out,Jg.out,JW.out⟩,HO.out⟩⟩;rw[Jh.out,if_neg (by omega)]
    case done=>
     rintro G D W Hq hD⟨⟨A',c',z,out,hf,Hd,H4,H2,_⟩,hE⟩hK;have h2:(aI fs m.segs).2=true:=by
      cases h:(aI fs m.segs).2 with
      |true=>rfl
      |false=>rw[h]at Hq;cases Hq
     have hR:=HY.out;rw[PR h2 hf]at hR;dsimp only at hR;have Js:=xT H3 hE;have Jr:w.heap.size<=D:=by have:=H3.size;have:=Hw.out;omega
     have Kx:Q out<=240:=by
      have h1:=rR s.idx (aI fs m.segs).1 (s.idx+1,[]);rw[hf]at h1;have h2:=rH fs m.segs λs hs=>(Hv s hs).2.2.2;have h4:=Hu.out;simp at h1;omega
     have Jy:=λX (Z:Ext W X)=>FC ⟨s,out,m.term,m.vote⟩ (F A' out.length c') X (Es.ext (OwnE.es H2) Z) (show Q out<=4000000 by omega);have KZ:=HN.ext hE;have Ju:=Ja.ext hE;obtain⟨Kz,KA⟩:=KI;have JJ:wrap64 (s.idx+1)=s.idx+1:=by unfold wrap64;omega
     have GA:IntKind.i64.wrap (s.idx+1)=s.idx+1:=by rw[IntKind.wrap_i64];omega
     have c0:=H4.cell 0 rfl;obtain⟨p0,p1,p2,p3,p4,p5,p6,p7⟩:=aU (show Blk W g 44 #[C E s.idx,C E s.term,C E s.sum,C E s.lvl,N s.fin,F A' out.length c',C E m.term,C E m.vote]from Hd);obtain⟨_,_,_,_,_,n5⟩:=aj (show Blk W y.heap.size 30 #[C E m.next,C E m.term,C E m.vote,C E m.sq,C E m.sf,F B m.segs.length d]from KZ);have HV:=L hK;have Hg:=L hR;have KF:=L Js;have HK:=L Jr;have G0:=L Jy;have G6:=L KZ;have JX:=L Ju;have HI:=L Hd;have KM:=L H2;have JT:=L hE;clear hK hR Js Jr Jy KZ Ju Hd H2 hE hf H4 Hq Kx h2 Kz KA;gi_wp2;refine Be (λV w'=>V.defers=[{ target:=.collected D,args:=#[] }]/\V.tmps.size=79/\V.tmps.getD 1 undef=J (H ⟨bt,0,I⟩)/\V.tmps.getD 2 undef=J (H ⟨bm,0,I⟩)/\V.tmps.getD 3 undef=J (H ⟨y.heap.size,0,I⟩)/\V.tmps.getD 5 undef=J (H ⟨g,0,I⟩)/\(⟨0,⟨s,out,m.term,m.vote⟩,m⟩:Rd)=R/\Ext W w') ?_ ?_
     ·by_cases hlast:s.idx<z
      case neg=>
       have Hf:Hid (bL 130=R):=by unfold Hid;rw[<-Hg.out];simp[hlast]
       refine mj [{ target:=.collected D,args:=#[] }] (λc W=>c=eM 130/\bL 130=R/\Ext w W/\W.heap[D]?=H (.deferred (some []))) ?_ (S:=λW=>W.cell? ⟨l.heap.size,0,I⟩=H (C E z)/\W.cell? ⟨g,0,I⟩=H (C E s.idx)/\W.cell? ⟨g,1,I⟩=H (C E s.term)/\W.cell? ⟨g,2,I⟩=H (C E s.sum)/\W.cell? ⟨g,3,I⟩=H (C E s.lvl)/\W.cell? ⟨g,4,I⟩=H (N s.fin)/\W.cell? ⟨g,5,I⟩=H (F A' out.length c')/\W.cell? ⟨g,6,I⟩=H (C E m.term)/\W.cell? ⟨g,7,I⟩=H (C E m.vote)/\W.cell? ⟨y.heap.size,5,I⟩=H (F B m.segs.length d)) (by kernel_rfl) ⟨c0,p0,p1,p2,p3,p4,p5,p6,p7,n5⟩ (λ_=>?_)
       ·rintro c1⟨T,df⟩W hd⟨rfl,h1,h2,h3⟩;exact mcRdZa1
       clear c0 p0 p1 p2 p3 p4 p5 p6 p7 n5;refine ab 0 ?_;refine ab 1 ?_;refine ab 2 ?_;refine ab 3 ?_;refine ab 4 ?_;refine ab 5 ?_;refine ag 6 ?_;refine ag 7 ?_;refine ag 8 ?_;refine ag 9 ?_;refine ag 10 ?_;refine ag 11 ?_;refine ag 12 ?_;refine ag 13 ?_;refine ag 14 ?_;refine ag 15 ?_;refine ag 16 ?_;refine ag 17 ?_;refine ag 18 ?_;refine ag 19 ?_;refine ag 20 ?_;refine ag 21 ?_;exact mcRdZa2
      by_cases hlen:Q m.segs=0
      ·have Kh:m.segs=[]:=List.length_eq_zero_iff.1 hlen;have KO:Hid ((if cT ⟨s,out,m.term,m.vote⟩=true then(⟨0,⟨s,out,m.term,m.vote⟩,m⟩:Rd)else bL 130)=R):=by
        have h:=Hg.out;rw[Kh]at h;unfold Hid;rw[<-h];simp[hlast]
       have Gm:((Q m.segs:Int)==0)=true:=by simpa using hlen
       clear Kh hlen;refine mj [{ target:=.collected D,args:=#[] }] (λc W=>c=eM 130/\bL 130=R/\Ext w W/\W.heap[D]?=H (.deferred (some []))) ?_ (S:=λW=>W.cell? ⟨l.heap.size,0,I⟩=H (C E z)/\W.cell? ⟨g,0,I⟩=H (C E s.idx)/\W.cell? ⟨g,1,I⟩=H (C E s.term)/\W.cell? ⟨g,2,I⟩=H (C E s.sum)/\W.cell? ⟨g,3,I⟩=H (C E s.lvl)/\W.cell? ⟨g,4,I⟩=H (N s.fin)/\W.cell? ⟨g,5,I⟩=H (F A' out.length c')/\W.cell? ⟨g,6,I⟩=H (C E m.term)/\W.cell? ⟨g,7,I⟩=H (C E m.vote)/\W.cell? ⟨y.heap.size,5,I⟩=H (F B m.segs.length d)) (by kernel_rfl) ⟨c0,p0,p1,p2,p3,p4,p5,p6,p7,n5⟩ (λ_=>?_)
       ·rintro c1⟨T,df⟩W hd⟨rfl,h1,h2,h3⟩;exact mcRdZa1
       have hold:∀X,Ext W X->(X.cell? ⟨l.heap.size,0,I⟩=H (C E z)/\X.cell? ⟨g,0,I⟩=H (C E s.idx)/\X.cell? ⟨g,1,I⟩=H (C E s.term)/\X.cell? ⟨g,2,I⟩=H (C E s.sum)/\X.cell? ⟨g,3,I⟩=H (C E s.lvl)/\X.cell? ⟨g,4,I⟩=H (N s.fin)/\X.cell? ⟨g,5,I⟩=H (F A' out.length c')/\X.cell? ⟨g,6,I⟩=H (C E m.term)/\X.cell? ⟨g,7,I⟩=H (C E m.vote)/\X.cell? ⟨y.heap.size,5,I⟩=H (F B m.segs.length d)):=λX Z=>⟨Z.cell c0,Z.cell p0,Z.cell p1,Z.cell p2,Z.cell p3,Z.cell p4,Z.cell p5,Z.cell p6,Z.cell p7,Z.cell n5⟩;have H1:=L hold;clear hold c0 p0 p1 p2 p3 p4 p5 p6 p7 n5;refine ab 0 ?_;refine ab 1 ?_;refine ab 2 ?_;refine ab 3 ?_;refine ab 4 ?_;refine ab 5 ?_;refine ab 6 ?_;refine ab 7 ?_;refine ab 8 ?_;refine ab 9 ?_;refine ab 10 ?_;refine ag 11 ?_;refine ag 12 ?_;refine ag 13 ?_;refine ag 14 ?_;refine ag 15 ?_;refine ag 16 ?_;refine ag 17 ?_;refine ag 18 ?_;refine ag 19 ?_;refine ag 20 ?_;exact mcRdZa0
      obtain⟨_,b0,H7,rfl,Hn⟩:=Sgs.at_ JX (by omega);obtain⟨Gq,Gr,k2,Gs⟩:=Hn 0 (by omega);obtain⟨s0,J2⟩:∃x,m.segs[0]'(by omega)=x:=⟨_,rfl⟩;rw[J2]at k2;rw[Nat.zero_mul,Nat.add_zero]at k2;have Gm:((Q m.segs:Int)==0)=false:=by simpa using hlen
      have Gn:0<Q m.segs:=by omega
      have JA:=Nq (s.idx+1) s0 m.segs (by rw[List.getElem?_eq_getElem Gn,J2]);have Jd:=L JA;clear Hn Gq Gr Gs J2 hlen JA;by_cases hfi:s0.first<=s.idx+1
      case neg=>
       have Hf:Hid (bL 130=R):=by unfold Hid;rw[<-Hg.out,Jd.out];simp[hlast,hfi]
       refine mj [{ target:=.collected D,args:=#[] }] (λc W=>c=eM 130/\bL 130=R/\Ext w W/\W.heap[D]?=H (.deferred (some []))) ?_ (S:=λW=>W.cell? ⟨l.heap.size,0,I⟩=H (C E z)/\W.cell? ⟨g,0,I⟩=H (C E s.idx)/\W.cell? ⟨g,1,I⟩=H (C E s.term)/\W.cell? ⟨g,2,I⟩=H (C E s.sum)/\W.cell? ⟨g,3,I⟩=H (C E s.lvl)/\W.cell? ⟨g,4,I⟩=H (N s.fin)/\W.cell? ⟨g,5,I⟩=H (F A' out.length c')/\W.cell? ⟨g,6,I⟩=H (C E m.term)/\W.cell? ⟨g,7,I⟩=H (C E m.vote)/\W.cell? ⟨y.heap.size,5,I⟩=H (F (H ⟨b0,H7,I⟩) m.segs.length d)/\W.cell? ⟨b0,H7+2,I⟩=H (C E s0.first)) (by kernel_rfl) ⟨c0,p0,p1,p2,p3,p4,p5,p6,p7,n5,k2⟩ (λ_=>?_)
       ·rintro c1⟨T,df⟩W hd⟨rfl,h1,h2,h3⟩;exact mcRdZa1
       clear c0 p0 p1 p2 p3 p4 p5 p6 p7 n5 k2;refine ab 0 ?_;refine ab 1 ?_;refine ab 2 ?_;refine ab 3 ?_;refine ab 4 ?_;refine ab 5 ?_;refine ab 6 ?_;refine ab 7 ?_;refine ab 8 ?_;refine ab 9 ?_;refine ab 10 ?_;refine ab 11 ?_;refine ab 12 ?_;refine ab 13 ?_;refine ab 14 ?_;refine ab 15 ?_;refine ab 16 ?_;refine ab 17 ?_;refine ab 18 ?_;refine ab 19 ?_;refine ab 20 ?_;refine ab 21 ?_;exact mcRdZa2
      have KO:Hid ((if cT ⟨s,out,m.term,m.vote⟩=true then(⟨0,⟨s,out,m.term,m.vote⟩,m⟩:Rd)else bL 130)=R):=by
       have h:=Hg.out;rw[Jd.out]at h;unfold Hid;rw[<-h];simp[hlast,hfi]
      refine mj [{ target:=.collected D,args:=#[] }] (λc W=>c=eM 130/\bL 130=R/\Ext w W/\W.heap[D]?=H (.deferred (some []))) ?_ (S:=λW=>W.cell? ⟨l.heap.size,0,I⟩=H (C E z)/\W.cell? ⟨g,0,I⟩=H (C E s.idx)/\W.cell? ⟨g,1,I⟩=H (C E s.term)/\W.cell? ⟨g,2,I⟩=H (C E s.sum)/\W.cell? ⟨g,3,I⟩=H (C E s.lvl)/\W.cell? ⟨g,4,I⟩=H (N s.fin)/\W.cell? ⟨g,5,I⟩=H (F A' out.length c')/\W.cell? ⟨g,6,I⟩=H (C E m.term)/\W.cell? ⟨g,7,I⟩=H (C E m.vote)/\W.cell? ⟨y.heap.size,5,I⟩=H (F (H ⟨b0,H7,I⟩) m.segs.length d)/\W.cell? ⟨b0,H7+2,I⟩=H (C E s0.first)) (by kernel_rfl) ⟨c0,p0,p1,p2,p3,p4,p5,p6,p7,n5,k2⟩ (λ_=>?_)
      ·rintro c1⟨T,df⟩W hd⟨rfl,h1,h2,h3⟩;exact mcRdZa1
      have hold:∀X,Ext W X->(X.cell? ⟨l.heap.size,0,I⟩=H (C E z)/\X.cell? ⟨g,0,I⟩=H (C E s.idx)/\X.cell? ⟨g,1,I⟩=H (C E s.term)/\X.cell? ⟨g,2,I⟩=H (C E s.sum)/\X.cell? ⟨g,3,I⟩=H (C E s.lvl)/\X.cell? ⟨g,4,I⟩=H (N s.fin)/\X.cell? ⟨g,5,I⟩=H (F A' out.length c')/\X.cell? ⟨g,6,I⟩=H (C E m.term)/\X.cell? ⟨g,7,I⟩=H (C E m.vote)/\X.cell? ⟨y.heap.size,5,I⟩=H (F (H ⟨b0,H7,I⟩) m.segs.length d)/\X.cell? ⟨b0,H7+2,I⟩=H (C E s0.first)):=λX Z=>⟨Z.cell c0,Z.cell p0,Z.cell p1,Z.cell p2,Z.cell p3,Z.cell p4,Z.cell p5,Z.cell p6,Z.cell p7,Z.cell n5,Z.cell k2⟩;have H1:=L hold;clear hold c0 p0 p1 p2 p3 p4 p5 p6 p7 n5 k2;refine ab 0 ?_;refine ab 1 ?_;refine ab 2 ?_;refine ab 3 ?_;refine ab 4 ?_;refine ab 5 ?_;refine ab 6 ?_;refine ab 7 ?_;refine ab 8 ?_;refine ab 9 ?_;refine ab 10 ?_;refine ab 11 ?_;refine ab 12 ?_;refine ab 13 ?_;refine ab 14 ?_;refine ab 15 ?_;refine ab 16 ?_;refine ab 17 ?_;refine ab 18 ?_;refine ab 19 ?_;refine ab 20 ?_;exact mcRdZa0
     rintro⟨T4,df⟩W8⟨hd,H8,t1,t2,t3,t5,Ho,Hx⟩;dsimp only at hd H8 t1 t2 t3 t5;subst hd;have hT:=fM 79 T4 H8;generalize hU:(λi=>T4.getD i undef)=U at hT;have g1:U 1=J (H ⟨bt,0,I⟩):=by rw[<-hU];exact t1
     have g2:U 2=J (H ⟨bm,0,I⟩):=by rw[<-hU];exact t2
     have g3:U 3=J (H ⟨y.heap.size,0,I⟩):=by rw[<-hU];exact t3
     have g5:U 5=J (H ⟨g,0,I⟩):=by rw[<-hU];exact t5
     have K6:T4 = #[U 0,J (H ⟨bt,0,I⟩),J (H ⟨bm,0,I⟩),J (H ⟨y.heap.size,0,I⟩),U 4,J (H ⟨g,0,I⟩),U 6,U 7,U 8,U 9,U 10,U 11,U 12,U 13,U 14,U 15,U 16,U 17,U 18,U 19,U 20,U 21,U 22,U 23,U 24,U 25,U 26,U 27,U 28,U 29,U 30,U 31,U 32,U 33,U 34,U 35,U 36,U 37,U 38,U 39,U 40,U 41,U 42,U 43,U 44,U 45,U 46,U 47,U 48,U 49,U 50,U 51,U 52,U 53,U 54,U 55,U 56,U 57,U 58,U 59,U 60,U 61,U 62,U 63,U 64,U 65,U 66,U 67,U 68,U 69,U 70,U 71,U 72,U 73,U 74,U 75,U 76,U 77,U 78]:=by rw[hT];show(#[U 0,U 1,U 2,U 3,U 4,U 5,U 6,U 7,U 8,U 9,U 10,U 11,U 12,U 13,U 14,U 15,U 16,U 17,U 18,U 19,U 20,U 21,U 22,U 23,U 24,U 25,U 26,U 27,U 28,U 29,U 30,U 31,U 32,U 33,U 34,U 35,U 36,U 37,U 38,U 39,U 40,U 41,U 42,U 43,U 44,U 45,U 46,U 47,U 48,U 49,U 50,U 51,U 52,U 53,U 54,U 55,U 56,U 57,U 58,U 59,U 60,U 61,U 62,U 63,U 64,U 65,U 66,U 67,U 68,U 69,U 70,U 71,U 72,U 73,U 74,U 75,U 76,U 77,U 78]:Array Value)=_;rw[g1,g2,g3,g5]
     clear hT hU H8 g1 t1 g2 t2 g3 t3 g5 t5;subst K6;have J3:Blk W8 g 44 #[C E s.idx,C E s.term,C E s.sum,C E s.lvl,N s.fin,F A' out.length c',C E m.term,C E m.vote]:=HI.ext Hx;have KY:Blk W8 y.heap.size 30 #[C E m.next,C E m.term,C E m.vote,C E m.sq,C E m.sf,F B m.segs.length d]:=G6.ext Hx;have E8:=xT KF Hx;have JI:=HT.ext E8;have Jz:=HM.ext E8;have Jx:W8.heap[D]?=H (.deferred (some [])):=(Hx.block D (P4.1 HV).1).trans HV.out;have Kk:=OwnE.ext KM Hx;have JF:=ai HU (xT JT Hx);have JD:g≠bt:=by have h1:=HT.lt;have h2:=H5.out;have h3:=H3.size;omega
     have JC:g≠bm:=by have h1:=HM.lt;have h2:=H5.out;have h3:=H3.size;omega
     have Kj:y.heap.size≠bt:=by have h1:=HT.lt;have h3:=HP.size;omega
     have Ki:y.heap.size≠bm:=by have h1:=HM.lt;have h3:=HP.size;omega
     have Jq:bt≠D:=by have h1:=HT.lt;have h2:=HK.out;omega
     have Jp:bm≠D:=by have h1:=HM.lt;have h2:=HK.out;omega
     obtain⟨p0,p1,p2,p3,p4,p5,p6,p7⟩:=aU J3;obtain⟨q0,q1,q2,q3,q4,q5⟩:=aj KY;have Hb:=L Ho;have Gg:=L J3;have G3:=L KY;have Ko:=L E8;have HZ:=L JI;have G2:=L Jz;have JY:=L Jx;have Kq:=L Kk;have Ga:=L JF;have G5:=L (P3 JD (P3 JC (P3 Kj (P3 Ki (P3 Jq Jp)))));clear Ho J3 KY E8 JI Jz Jx Kk JF JD JC Kj Ki Jq Jp Hx;gi_wp2;refine mq (S:=λW=>W.cell? ⟨g,0,I⟩=H (C E s.idx)/\W.cell? ⟨g,1,I⟩=H (C E s.term)/\W.cell? ⟨g,2,I⟩=H (C E s.sum)/\W.cell? ⟨g,3,I⟩=H (C E s.lvl)/\W.cell? ⟨g,4,I⟩=H (N s.fin)/\W.cell? ⟨g,5,I⟩=H (F A' out.length c')/\W.cell? ⟨g,6,I⟩=H (C E m.term)/\W.cell? ⟨g,7,I⟩=H (C E m.vote)/\W.cell? ⟨y.heap.size,0,I⟩=H (C E m.next)/\W.cell? ⟨y.heap.size,1,I⟩=H (C E m.term)/\W.cell? ⟨y.heap.size,2,I⟩=H (C E m.vote)/\W.cell? ⟨y.heap.size,3,I⟩=H (C E m.sq)/\W.cell? ⟨y.heap.size,4,I⟩=H (C E m.sf)/\W.cell? ⟨y.heap.size,5,I⟩=H (F B m.segs.length d)) (by kernel_rfl) ⟨p0,p1,p2,p3,p4,p5,p6,p7,q0,q1,q2,q3,q4,q5⟩ (λ_=>?_);clear p0 p1 p2 p3 p4 p5 p6 p7 q0 q1 q2 q3 q4 q5;refine ab 0 ?_;refine ab 1 ?_;obtain⟨f0,f1,f2,f3,f4,f5,f6,f7⟩:=cS HZ;obtain⟨g0,g1,g2,g3,g4,g5,g6,g7⟩:=aU (show Blk W8 bt 44 #[C E 0,C E 0,C E 0,C E 0,N false,F none 0 0,C E 0,C E 0]from HZ.out);refine ah 2 (λK hK=>?_);go_simp;show K _ (P0 (aY W8 bt (C E s.idx) (C E s.term) (C E s.sum) (C E s.lvl) (N s.fin) (F A' out.length c') (C E m.term) (C E m.vote)));obtain⟨n1,n2,n3,n4,n5,n6⟩:=G5;have Hk:Ext (aY W8 bt (C E s.idx) (C E s.term) (C E s.sum) (C E s.lvl) (N s.fin) (F A' out.length c') (C E m.term) (C E m.vote)) (P0 (aY W8 bt (C E s.idx) (C E s.term) (C E s.sum) (C E s.lvl) (N s.fin) (F A' out.length c') (C E m.term) (C E m.vote))):=xD (xR _);have Jj:=L ((dB Gg n1 (C E s.idx) (C E s.term) (C E s.sum) (C E s.lvl) (N s.fin) (F A' out.length c') (C E m.term) (C E m.vote)).ext Hk);have Je:=L ((dB G3 n3 (C E s.idx) (C E s.term) (C E s.sum) (C E s.lvl) (N s.fin) (F A' out.length c') (C E m.term) (C E m.vote)).ext Hk);have HW:=L ((dB G2 (Ne.symm Jf) (C E s.idx) (C E s.term) (C E s.sum) (C E s.lvl) (N s.fin) (F A' out.length c') (C E m.term) (C E m.vote)).ext Hk);have Ge:=L ((fO (show Blk W8 bt 44 #[C E 0,C E 0,C E 0,C E 0,N false,F none 0 0,C E 0,C E 0]from HZ.out) (C E s.idx) (C E s.term) (C E s.sum) (C E s.lvl) (N s.fin) (F A' out.length c') (C E m.term) (C E m.vote)).ext Hk);have G7:=L (OwnE.ext (dQ HZ Kq (C E s.idx) (C E s.term) (C E s.sum) (C E s.lvl) (N s.fin) (F A' out.length c') (C E m.term) (C E m.vote)) Hk);have Gb:=L (ai (dQ HZ Ga (C E s.idx) (C E s.term) (C E s.sum) (C E s.lvl) (N s.fin) (F A' out.length c') (C E m.term) (C E m.vote)) Hk);have JZ:Hid ((P0 (aY W8 bt (C E s.idx) (C E s.term) (C E s.sum) (C E s.lvl) (N s.fin) (F A' out.length c') (C E m.term) (C E m.vote))).heap[D]?=H (.deferred (some []))):=L ((Fw (Ne.symm n5) (C E s.idx) (C E s.term) (C E s.sum) (C E s.lvl) (N s.fin) (F A' out.length c') (C E m.term) (C E m.vote)).trans JY.out);have JS:Hid (∀W0,Ext W0 w->W0.heap.size<=bt->Ext W0 (P0 (aY W8 bt (C E s.idx) (C E s.term) (C E s.sum) (C E s.lvl) (N s.fin) (F A' out.length c') (C E m.term) (C E m.vote)))):=L λW0 h hb=>xD (iS (xT h Ko) hb (C E s.idx) (C E s.term) (C E s.sum) (C E s.lvl) (N s.fin) (F A' out.length c') (C E m.term) (C E m.vote));have JP:Hid (∀b t cs,b≠bt->Blk w b t cs->Blk (P0 (aY W8 bt (C E s.idx) (C E s.term) (C E s.sum) (C E s.lvl) (N s.fin) (F A' out.length c') (C E m.term) (C E m.vote))) b t cs):=L λb t cs h1 h2=>(dB (h2.ext Ko) h1 (C E s.idx) (C E s.term) (C E s.sum) (C E s.lvl) (N s.fin) (F A' out.length c') (C E m.term) (C E m.vote)).ext Hk;clear Hk f0 f1 f2 f3 f4 f5 f6 f7 g0 g1 g2 g3 g4 g5 g6 g7;generalize(P0 (aY W8 bt (C E s.idx) (C E s.term) (C E s.sum) (C E s.lvl) (N s.fin) (F A' out.length c') (C E m.term) (C E m.vote)))=W9 at *;obtain⟨p0,p1,p2,p3,p4,p5,p6,p7⟩:=aU Jj;obtain⟨q0,q1,q2,q3,q4,q5⟩:=aj Je;refine af hK _ _ ⟨p0,p1,p2,p3,p4,p5,p6,p7,q0,q1,q2,q3,q4,q5⟩ (λ_=>?_);clear p0 p1 p2 p3 p4 p5 p6 p7 q0 q1 q2 q3 q4 q5;obtain⟨f0,f1,f2,f3,f4,f5⟩:=eN HW;obtain⟨g0,g1,g2,g3,g4,g5⟩:=aj (show Blk W9 bm 30 #[C E 0,C E 0,C E 0,C E 0,C E 0,F none 0 0]from HW.out);refine ah 3 (λK hK=>?_);go_simp;show K _ (aO W9 bm (C E m.next) (C E m.term) (C E m.vote) (C E m.sq) (C E m.sf) (F B m.segs.length d));obtain⟨p0,p1,p2,p3,p4,p5,p6,p7⟩:=aU (dA Jj n2 (C E m.next) (C E m.term) (C E m.vote) (C E m.sq) (C E m.sf) (F B m.segs.length d));obtain⟨q0,q1,q2,q3,q4,q5⟩:=aj (dA Je n4 (C E m.next) (C E m.term) (C E m.vote) (C E m.sq) (C E m.sf) (F B m.segs.length d));have KQ:=L (dA Ge Jf (C E m.next) (C E m.term) (C E m.vote) (C E m.sq) (C E m.sf) (F B m.segs.length d));have KJ:Hid (Blk (aO W9 bm (C E m.next) (C E m.term) (C E m.vote) (C E m.sq) (C E m.sf) (F B m.segs.length d)) bm 30 (mfC m (F B m.segs.length d))):=L (cQ (show Blk W9 bm 30 #[C E 0,C E 0,C E 0,C E 0,C E 0,F none 0 0]from HW.out) (C E m.next) (C E m.term) (C E m.vote) (C E m.sq) (C E m.sf) (F B m.segs.length d));have KK:=L (cU HW G7 (C E m.next) (C E m.term) (C E m.vote) (C E m.sq) (C E m.sf) (F B m.segs.length d));have KP:=L (cU HW Gb (C E m.next) (C E m.term) (C E m.vote) (C E m.sq) (C E m.sf) (F B m.segs.length d));have Ht:Hid ((aO W9 bm (C E m.next) (C E m.term) (C E m.vote) (C E m.sq) (C E m.sf) (F B m.segs.length d)).heap[D]?=H (.deferred (some []))):=L ((Ln (Ne.symm n6) (C E m.next) (C E m.term) (C E m.vote) (C E m.sq) (C E m.sf) (F B m.segs.length d)).trans JZ.out);have KE:Hid (∀W0,Ext W0 w->W0.heap.size<=bt->W0.heap.size<=bm->Ext W0 (aO W9 bm (C E m.next) (C E m.term) (C E m.vote) (C E m.sq) (C E m.sf) (F B m.segs.length d))):=L λW0 h hb hc=>dD (JS W0 h hb) hc (C E m.next) (C E m.term) (C E m.vote) (C E m.sq) (C E m.sf) (F B m.segs.length d);have KC:Hid (∀b t cs,b≠bt->b≠bm->Blk w b t cs->Blk (aO W9 bm (C E m.next) (C E m.term) (C E m.vote) (C E m.sq) (C E m.sf) (F B m.segs.length d)) b t cs):=L λb t cs h1 h2 h3=>dA (JP b t cs h1 h3) h2 (C E m.next) (C E m.term) (C E m.vote) (C E m.sq) (C E m.sf) (F B m.segs.length d);refine af hK _ _ ⟨p0,p1,p2,p3,p4,p5,p6,p7,q0,q1,q2,q3,q4,q5⟩ (λ_=>?_);clear p0 p1 p2 p3 p4 p5 p6 p7 q0 q1 q2 q3 q4 q5 f0 f1 f2 f3 f4 f5 g0 g1 g2 g3 g4 g5;refine aq ?_;generalize aO W9 bm (C E m.next) (C E m.term) (C E m.vote) (C E m.sq) (C E m.sf) (F B m.segs.length d)=W10 at *;gi_wp2;refine rO Ht (.tuple #[]) (results_none rfl _ _ _) ?_;rw[<-Hb.out];unfold R1P;rw[if_pos rfl];refine⟨rfl,⟨⟨F A' out.length c',F B m.segs.length d,rJ KQ n5 _,rJ KJ n6 _,ay (ownsRow_putObj KK (.deferred none) Ht rfl) (by have:=H3.size;omega),ay (ownsRow_putObj KP (.deferred none) Ht rfl) Gf⟩,λW0 h1 h2 h3=>cp (KE W0 h1 h2 h3) (hD:=by have:=h1.size;have:=HK.out;omega) _,λb t cs h1 h2 h3=>rJ (KC b t cs h1 h2 h3) (by have:=h3.lt;have:=HK.out;omega) _⟩⟩
    case pan=>
     rintro G D c' W Hq hD hi hK;have h2:(aI fs m.segs).2=false:=by
      cases h:(aI fs m.segs).2 with
      |false=>rfl
      |true=>rw[h]at Hq;cases Hq
     rw[h2]at Hq;obtain rfl:eM 130=c':=by injection Hq
     have hR:bL 130=R:=by rw[<-HY.out,PQ h2];rfl
     refine nN (R:=R1P R bt bm w) (c:=eM 130) hK ?_;exact mN hR.symm rfl (cp (xT H3 hi.e) (hD:=by have:=H3.size;have:=Hw.out;omega) _)
theorem zxx(fs:List Fil)(Kw:zxg fs)(hl:fs.length<=4000000:=by decide)(H4:∀f∈fs,f.2.length<=100000:=by decide):RdH fs:=λv pl bt bm w hS hF h0 hT hM Kv=>zyW v fs pl bt bm w Kw hS hF hl H4 h0 hT hM Kv
