/- Merged -/
import Derived.Test.YteggfecbjgbndaaGreatDoorZy22
set_option linter.all false
set_option maxHeartbeats 8000000
set_option maxRecDepth 100000
open Go.Proofs.Tryz
open List renaming length->V
open Go.Value renaming int->B,slice->F,bool->H,pointer->O,agg->U
open Go.IntKind renaming i64->C,u8->T
open Go.Obj renaming cells->D
open Go.Mv renaming aN->E
open Option renaming some->I,none->N
open Go.Proofs.Tryz renaming prog->M
open List renaming append_assoc->P0,take_succ_eq_append_getElem->P1,take_length->P2,take_zero->P3,cons_append->P4,map_append->P5
open Go.Mv.Blk renaming new->P6
open And renaming intro->P7
open Nat renaming zero_le->P8,le_trans->P9,le_succ->Pa
namespace Go.Proofs.YteggfecbjgbndaaGreatDoor
open Go.RowKit Go.Mv
variable {v:Value} {W:World}
theorem Nm(A:Option Addr)(n c:Nat)(a:Value)(m:Mf)(w:World):Calls M 38 #[F A n c,.agg (mfC m a)] w λe w'=>e=.returned (.func (.func 85) #[] #[O (I ⟨w.heap.size+1,0,N⟩),O (I ⟨w.heap.size,0,N⟩)])/\(w.alloc (D #[F A n c] 22)).alloc (D (mfC m a) 30)=w':=by
 have a:∀(fn:Fn) (first cap:Array Value) (w:World),(Instr.makeFunc fn first cap).run M w=.ok (.func fn first cap) w:=λ_ _ _ _=>rfl;unfold mfC;go_enter func38,ntmps38
 go_wp2;go_ret;exact⟨rfl,rfl⟩
def eM(e:Int):List PanicEntry:=[{ v:=.iface 45 (B C e),recovered:=false }]
theorem Ii{fs:List Fil}{l:List Sg4}{j:Nat}(h:j<V l)(b:(aI fs (l.take j)).2=true){x:List Ent}(he:bw fs l[j]=I x){k:Nat}(hx:k<V x):∃a,(aI fs l).1=((aI fs (l.take j)).1++(cy l[j].first x).take k)++(l[j].first+(k:Int),x[k])::a:=by
 obtain⟨a,c⟩:=Mt fs l j h b he;refine⟨(cy l[j].first x).drop (k+1)++a,?_⟩;have hl:k<V (cy l[j].first x):=by rw[oN];exact hx
 have hg:=rA x l[j].first k hx;rw[List.getElem?_eq_getElem hl]at hg
 injection hg with hg
 have hd:=List.drop_eq_getElem_cons hl;rw[hg]at hd;have a:=(List.take_append_drop k (cy l[j].first x)).symm;rw[c];rw[hd]at a;generalize List.take k (cy l[j].first x)=P at *;generalize List.drop (k+1) (cy l[j].first x)=Q at *;rw[a];simp only[P0,P4]
structure SaI (w0 W0:World) (n1 pl:Nat) (v:Value) (G:Nat->Prop) (W:World):Prop where
 g:∀ k,G k->w0.heap.size<=k/\(k<n1\/W0.heap.size<=k)
 hc:HC w0 W
 bl:Blk W pl 22 #[v]
 sz:W0.heap.size<=W.heap.size
theorem SaI.ext{d b W':World}{n1 c:Nat}{G:Nat->Prop}(h:SaI d b n1 c v G W)(a:Ext W W'):SaI d b n1 c v G W':=
 ⟨h.g,Kept.trans h.hc (HC.of_ext a),h.bl.ext a,P9 h.sz a.size⟩
theorem SaI.kept{d a W':World}{n1 b:Nat}{G e:Nat->Prop}(h:SaI d a n1 b v G W)(c:n1<=b)(c:b<a.heap.size)(c:d.heap.size<=a.heap.size)(c:Kept (am (KG G) a.heap.size) W W')(f:∀k,e k->G k\/W.heap.size<=k):SaI d a n1 b v e W':=by
 have hs:=h.sz;refine⟨λk a=>?_,h.hc.keptG c λk hg=>(h.g k hg).1,Blk.keptG h.bl c λhg=>?_,P9 hs c.size⟩
 ·rcases f k a with h1 | h1
  ·exact h.g k h1
  exact⟨by omega,.inr (by omega)⟩
 ·have:=(h.g _ hg).2;omega
attribute [local go_sem] Oper.semAt_some in
theorem Mp(o d:World)(v vs:Value)(fs:List Fil)(m:Mf)(hS:StW o)(hF:Fs o v fs)(hG:Sgs o vs m.segs)(hl:V fs<=4000000)(HI:∀f∈fs,V f.2<=2000000)(K0:∀s∈m.segs,1<=s.first/\s.first<=1073741820/\-1<=s.count/\s.count<=4)(hn:V m.segs<=60)(Kp:Ext o d)(y pm n1:Nat)(Jo:n1<=y)(Kn:Blk d y 22 #[v])(He:Blk d pm 30 (mfC m vs)):
  Cl M 85 #[O (I ⟨pm,0,N⟩),O (I ⟨y,0,N⟩)] (λ(x:Int×Ent) av _=>av = #[B C x.1,U #[B C x.2.t,B C x.2.k,B C x.2.v]]) (λ_ _=>False) (aI fs m.segs).1 (if(aI fs m.segs).2=true then none else some (eM 130)) (λG=>∀k,G k->o.heap.size<=k/\k<n1) d:=by
 intro lp J hJ J5 hY G0 Kq h0;obtain⟨A,c,rfl,_,_⟩:=hG.open_;obtain⟨S,c1,rfl,_,_⟩:=Fs.open_ hF;obtain⟨XS,K7⟩:∃X,(aI fs m.segs).1=X:=⟨_,rfl⟩;obtain⟨PN,Kr⟩:∃X,(if(aI fs m.segs).2=true then none else some (eM 130))=X:=⟨_,rfl⟩;rw[K7]at hY;rw[K7,Kr];refine(callsIn_wd (ro:=none) (n:=9)).1 ?_;refine callsIn_of_wp func85 rfl trivial ?_ rfl;simp only[ntmps85,List.size_toArray,xC,List.length_nil,Nat.reduceAdd,Nat.reduceSub,Array.replicate_succ,Array.replicate_zero,List.push_toArray,List.append_toArray,xI,P4];have J2:SaI o d n1 y (F S fs.length c1) G0 d:=⟨λk hk=>⟨(Kq k hk).1,.inl (Kq k hk).2⟩,HC.of_ext Kp,Kn,xN _⟩;have Jd:J G0 (aI fs (m.segs.take 0)).1 d:=by rw[P3];exact h0
 have J1:(aI fs (m.segs.take 0)).2=true:=by rw[P3];rfl
 have HW:y<d.heap.size:=Kn.lt;have Jr:o.heap.size<=d.heap.size:=Kp.size;obtain⟨_,_,_,_,_,m5⟩:=aj (show Blk d pm 30 #[B C m.next,B C m.term,B C m.vote,B C m.sq,B C m.sf,F A m.segs.length c]from He);have JN:=E (P7 Jo (P7 HW Jr));have HS:=E hS;have HF:=E hF;have HG:=E hG;have JD:=E HI;have Kj:=E K0;have HN:=E hn;have HY:=E hY;have Z:=E hJ;have JJ:=E J5;have Kl:=E K7;have KY:=E Kr;have KI:=E J2;have KO:=E Jd;have KH:=E J1;have HL:=E hl;clear hS hF hG HI K0 hn hY hJ J5 K7 Kr J2 Jd h0 Kq Kp Kn He Jo HW Jr J1 hl;gi_wp2;gi_loopw [11] (λKD W=>∃(j:Nat) (G:Nat->Prop),j<=V m.segs/\KD=B C j/\Hid (J G (aI fs (m.segs.take j)).1 W)/\Hid ((aI fs (m.segs.take j)).2=true)/\Hid (SaI o d n1 y (F S fs.length c1) G W)) (λKD _=>V m.segs-(intOf KD).toNat)
 case atStart=>exact⟨0,G0,P8 _,rfl,KO,KH,KI⟩
 case round=>
  clear KO KH KI m5;obtain⟨j,G,H,rfl,Kg,K3,Jx⟩:=hrel;by_cases a:j<V m.segs
  ·have Ku:=Jx.out;obtain⟨_,b,G3,rfl,Hb⟩:=(Sgs.hc HG Ku.hc).at_ (by omega);obtain⟨s0,s1,s2,s3⟩:=Hb j a;obtain⟨k1,k2,k3,k4⟩:=Kj _ (List.getElem_mem a);have Kb:=λx he k hx=>Ii (fs:=fs) a K3 (x:=x) he (k:=k) hx;have hbd:=Ms fs m.segs j a K3;have H3:=Ih fs m.segs j a K3;obtain⟨s,hs⟩:∃s,m.segs[j]=s:=⟨_,rfl⟩;rw[hs]at s0 s1 s2 s3 k1 k2 k3 k4 hbd H3;simp only[hs]at Kb;have Ks:Ext wr (wr.alloc (D #[B C s.seq,B C s.fmt,B C s.first,B C s.count] 36)):=xA (xR _) _;have P:=Ku.ext Ks;have Ky:=P6 wr 36 #[B C s.seq,B C s.fmt,B C s.first,B C s.count];have Je:=Z _ _ _ _ Kg (Moves.of_ext Ks);have J4:∀k,G k->k<wr.heap.size:=λk h=>JJ.out _ _ _ Kg k h;have key:=tI (F S fs.length c1) fs s _ (HS.hc P.hc) (HF.hc P.hc) HL JD;obtain⟨rx,Ka⟩:∃r,bw fs s=r:=⟨_,rfl⟩;rw[Ka]at key hbd H3;simp only[Ka]at Kb;have Jh:=λx (h:rx=I x)=>qc (Ka.trans h);have l1:=P.bl.cell 0 rfl;have ea:=aM Ky;have Hx:=E key;have JO:=E Kb;have JC:=E hbd;have K5:=E H3;have K4:=E Jh;have Jy:=E P;have JG:=E Je;have KM:=E J4;have JE:=E Ky;have HK:=E (P7 k1 (P7 k2 (P7 k3 k4)));clear Ku Hb Kb hbd H3 Ks P Ky Je J4 key Ka Jh k1 k2 k3 k4 hs;gi_wp2;refine⟨trivial,(callsIn_wd.2 Hx).mono ?_⟩;rintro e w2⟨hr,H1⟩;have ha3:=Jy.ext H1;have K8:=Z _ _ _ _ JG (Moves.of_ext H1);have HM:=JE.ext H1;have Kc:=H1.size;rw[xS]at Kc;cases rx with
   |none=>
    obtain rfl:=hr;have hb:=JC rfl;have K9:PN=I (eM 130):=by rw[<-KY.out,hb];rfl
    have Q:=Kl.out;rw[hb]at Q;rw[show(aI fs (m.segs.take j)).1=XS from Q]at K8;exact⟨rfl,G,K8,.inr ⟨_,K9,rfl⟩⟩
   |some x=>
    obtain⟨v1,rfl,K⟩:=hr;obtain⟨A3,R,rfl,_,_⟩:=xO (xW K);obtain⟨Ju,Jv⟩:=K4 x rfl;have Jq:V x<=4:=by
     obtain⟨_,_,_,h4⟩:=HK;by_cases h:s.count = -1
     ·exact(Ju h).2
     have:=Jv h;omega
    rw[xS]at K;have Jn:∀q,(Value.slice A3 x.length R).ownBlock=I q->¬G q:=λq w hg=>by
     have h1:=KM q hg;have h2:=K.1;rcases K.2 with⟨hn,_⟩|⟨g,cap,cur,e,hb,_⟩
     ·rw[hn]at w;cases w
     rw[e]at w;have w:g=q:=by simpa[Value.ownBlock]using w
     omega
    have Jc:¬G wr.heap.size:=λh=>by have:=KM _ h;omega
    have KJ:=E ha3;have KP:Hid (J G ((aI fs (m.segs.take j)).1++(cy s.first x).take 0) w2):=E (by rw[P3,List.append_nil];exact K8);have Ht:=E HM;have HO:=E K;have KX:=E Jn;have KN:=E Jc;have J0:=E Jq;clear ha3 K8 HM K Jn Jc Ju Jv Jq H1 s0 s1 s2 s3 l1 Kc ea;gi_wp2;gi_loopw [19] (λKE W=>∃(k:Nat) (p:Nat->Prop),k<=V x/\KE=B C k/\Hid (J p ((aI fs (m.segs.take j)).1++(cy s.first x).take k) W)/\Hid (SaI o d n1 y (F S fs.length c1) p W)/\Hid (OwnE W (wr.heap.size+1) (F A3 x.length R) x)/\Hid (∀q,(Value.slice A3 x.length R).ownBlock=I q->¬p q)/\Hid (Blk W wr.heap.size 36 #[B C s.seq,B C s.fmt,B C s.first,B C s.count])/\Hid (¬p wr.heap.size)) (λKE _=>V x-(intOf KE).toNat)
    case atStart=>exact⟨0,G,P8 _,rfl,KP,KJ,HO,KX,Ht,KN⟩
    case round=>
     rename World=>wo
     clear KP KJ HO KX Ht KN;obtain⟨k,p,hk,rfl,KQ,KK,KV,Hw,Kd,Hv⟩:=hrel;by_cases i:k<V x
     ·obtain⟨_,bx,ox,rfl,Jb⟩:=Es.at_ (OwnE.es KV) (by omega);obtain⟨d0,d1,d2⟩:=Jb k i;obtain⟨H7,Y⟩:=JO x rfl k i;rw[Kl.out]at Y;have Hj:=MD x s.first k i;obtain⟨e,he⟩:∃e,x[k]=e:=⟨_,rfl⟩;rw[he]at d0 d1 d2 Y Hj
      have L:Ext wo (wo.alloc (D #[B C e.t,B C e.k,B C e.v] 54)):=xA (xR _) _;have Jf:=Z _ _ _ _ KQ (Moves.of_ext L);have Kt:=KK.ext L;have hy:=HY p _ (s.first+(k:Int),e) H7 Y _ #[B C (s.first+(k:Int)),U #[B C e.t,B C e.k,B C e.v]] Jf Kt.sz rfl;have Jk:=OwnE.ext KV L;have Kw:=Kd.ext L;have J9:=P6 wo 54 #[B C e.t,B C e.k,B C e.v];have eb:=ez J9;have ea:=aM Kw;obtain⟨q1,q2,_,_⟩:=HK;have G1:IntKind.i64.wrap (s.first+(k:Int))=s.first+(k:Int):=by rw[IntKind.wrap_i64];have:=J0.out;omega
      have JU:wrap64 (s.first+(k:Int))=s.first+(k:Int):=by unfold wrap64;have:=J0.out;omega
      have JX:(k:Int)<(V x:Int):=by omega
      have Hy:=E hy;have Jz:=E Kt;have KW:=E Jk;have KL:=E Kw;have Kk:=E Hj;have KR:=E i;clear hy Kt Jk Kw Hj i J9 Jf L Y Jb q1 q2 he;gi_wp2;refine ew Hy ?_;rintro e' W' ⟨rfl,Hs,T,K6,z⟩;refine⟨true,rfl,?_⟩;obtain⟨p1,p2,p3⟩:=JN;have J7:=Jz.kept p1 p2 p3 Hs K6;have Jl:OwnE W' (wr.heap.size+1) (F (I ⟨bx,ox,N⟩) x.length R) x:=OwnE.keptG KW Hs Hw;have J8:=Blk.keptG KL Hs Hv;have HV:∀q,(Value.slice (I ⟨bx,ox,N⟩) x.length R).ownBlock=I q->¬T q:=λq w hg=>by
       rcases K6 q hg with h | h
       ·exact Hw q w h
       have:=(KW.lt q w).2;omega
      have HP:¬T wr.heap.size:=λhg=>by
       rcases K6 _ hg with h | h
       ·exact Hv h
       have:=KL.lt;omega
      have Jg:J T ((aI fs (m.segs.take j)).1++(cy s.first x).take (k+1)) W':=by
       rw[Kk.out,<-P0];exact z
      have JA:=E J7;have JM:=E Jl;have JB:=E J8;have Kh:=E HV;have Kf:=E HP;have JI:=E Jg;clear J7 Jl J8 HV HP z Jg Hs K6 Hy d0 d1 d2 p1 p2 p3 ea eb;gi_wp2;exact⟨⟨k+1,T,KR.out,by go_num,JI,JA,JM,Kh,JB,Kf⟩,by have:=KR.out;simp[intOf];omega⟩
     obtain rfl:k=V x:=by omega
     have z:=KQ.out;have JR:=oN x s.first;rw[List.take_of_length_le (l:=cy s.first x) (by omega)]at z;have H3:=K5.out
     have JH:Hid (J p (aI fs (m.segs.take (j+1))).1 wo):=E (by rw[H3];exact z);have Jw:Hid ((aI fs (m.segs.take (j+1))).2=true):=E (by rw[H3]);have KT:=E a;clear z H3 JR;gi_wp2;exact⟨⟨j+1,p,KT.out,by go_num,JH,Jw,KK⟩,by have:=KT.out;simp[intOf];omega⟩
  ·obtain rfl:j=V m.segs:=by omega
   have H:=Kg.out;have h2:=K3.out;rw[P2]at H h2;have Z:=E H;have K9:PN=none:=by rw[<-KY.out,if_pos h2]
   have Ki:=E K9;have Q:=Kl.out;rw[Q]at H;have JK:=E H;clear H h2 K9 Q;gi_wp2;refine bodyPost_end (results_none rfl _ _ _) rfl ?_;exact⟨G,JK.out,.inl ⟨Ki.out,_,rfl⟩⟩
theorem mcSStatea0{P:Prop}(h:P:=by
 obtain⟨m0,m1⟩:=fq KA;refine af hK _ _ ⟨m0,m1⟩ (λ_=>?_);refine ab 15 ?_;refine aq ?_;clear m0 m1;have ec:=ae Ke;have ea:=bR Hu;have eb:=ae Hu;rcases Kz with⟨hr,rfl⟩|⟨hr,rfl⟩
 ·obtain rfl:some s=R:=by rw[<-HR.out];exact hr.symm
  go_wp2_with fail
  with_reducible refine(iK _ _).mono ?_
  rintro e6 w6⟨rfl,rfl⟩;go_wp2_with fail
  refine bodyPost_ret (tj _ _ _ _ rfl (cB Hu _ _ _ _ _) rfl) rfl ?_;exact⟨rfl,cC HE (Pa _) _ _ _ _ _⟩
 ·obtain rfl:none=R:=by rw[<-HR.out];exact hr.symm
  go_wp2_with fail
  with_reducible refine(fG _ _).mono ?_
  rintro e6 w6⟨rfl,rfl⟩;exact⟨rfl,rfl,HE.out⟩):P:=h
def Cr(w:World)(r:Option Sta)(a:Ending)(w':World):Prop:=(match r with
 |some s=>a=.returned (U #[B C s.idx,B C s.term,B C s.sum,B C s.lvl,H s.fin])
 |none=>a=pan 130)/\Ext w w'
theorem fq{b:Nat}{t:TypeId}{a:Value}(h:Blk W b t #[a,v]):W.cell? ⟨b,0,N⟩=I a/\W.cell? ⟨b,1,N⟩=I v:=⟨h.cell 0 rfl,h.cell 1 rfl⟩
theorem tj(tmps:Array Value)(W:World)(b:Nat)(cs:Array Value)(h4:tmps.getD 4 undef=O (I ⟨b,0,N⟩))(hb:Blk W b 41 cs)(hs:cs.size=5):(results Tryz.f37 tmps).run M W=.ok (.agg cs) W:=by
 have hl:=hb.load (P:=M) fN rfl (by rw[hs];kernel_rfl);have a:tmps[4]?.getD undef=O (I ⟨b,0,N⟩):=by simpa using h4
 simp[results,results37,a,asAddr,hl]
theorem qu{w:World}{r:Option Sta}{e:Ending}{w':World}(h:nA w r e w'):∃(s:Sta) (ev:Int),e=.returned (.tuple #[U #[B C s.idx,B C s.term,B C s.sum,B C s.lvl,H s.fin],B C ev])/\((r=I s/\ev=0)\/(r=none/\ev=11))/\Ext w w':=by
 obtain⟨h1,h2⟩:=h;cases r with
 |none=>exact⟨staZ,11,h1,.inr ⟨rfl,rfl⟩,h2⟩
 |some s=>exact⟨s,0,h1,.inl ⟨rfl,rfl⟩,h2⟩
theorem lI{b c:Nat}{t:TypeId}{cs:Array Value}(h:Blk W b t cs)(a:b≠c)(a' e d f g:Value):Blk (((((W.setCell ⟨c,0,N⟩ a').setCell ⟨c,1,N⟩ e).setCell ⟨c,2,N⟩ d).setCell ⟨c,3,N⟩ f).setCell ⟨c,4,N⟩ g) b t cs:=
 ((((h.other a 0 a').other a 1 e).other a 2 d).other a 3 f).other a 4 g
theorem F8(v:Value)(fs:List Fil)(m:Mf)(w:World)(hS:StW w)(hF:Fs w v fs)(hl:V fs<=4000000)(HI:∀f∈fs,V f.2<=2000000):
  Calls M 37 #[v,U #[B C m.sq,B C m.sf]] w (Cr w (eI fs m)):=by
 obtain⟨A,c,rfl,_,_⟩:=Fs.open_ hF;obtain⟨x2,JV⟩:∃x:Array Value,#[B C 0,B C 0,B C 0,B C 0,H false]=x:=⟨_,rfl⟩;have Z:=(P6 w 27 #[B C m.sq,B C m.sf]).alloc (D x2 41);have G:=P6 (w.alloc (D #[B C m.sq,B C m.sf] 27)) 41 x2;rw[xS]at G;have hX:Ext w ((w.alloc (D #[B C m.sq,B C m.sf] 27)).alloc (D x2 41)):=xA (xA (xR _) _) _;subst JV;have key:=λW (h:Ext w W)=>nY (F A fs.length c) fs 4 m.sq m.sf 130 W (hS.ext h) (hF.ext h) hl;have K2:=λW (u:Value) (b:List UInt8) (h:Ext w W) (hB:Bs W u b) (hb:V b<=2000000)=>IL u b m.sf W (hS.ext h).tab hB hb;have T:∀b,bu fs (aE 4 m.sq m.sf)=I b->V b<=2000000:=λb h=>by
  obtain⟨f,hf,rfl⟩:=oc h;exact HI f hf
 obtain⟨R,l⟩:∃R,eI fs m=R:=⟨_,rfl⟩;rw[l];unfold eI at l;obtain⟨rb,Jp⟩:∃r,bu fs (aE 4 m.sq m.sf)=r:=⟨_,rfl⟩;rw[Jp]at key l T;obtain⟨m0,m1⟩:=fq Z;have Hm:=E Z;have Hr:=E G;have L:=E hX;have Y:=E key;have H8:=E K2;have Q:=E T;clear Z hX key K2 hF hS HI T Jp;go_enter func37,ntmps37
 by_cases y:m.sq=0
 ·rw[if_pos y]at l;subst l;have JS:(m.sq==0)=true:=by simpa using y
  clear y Y H8;go_wp2_with fail
  refine(yM _).mono ?_;rintro e T⟨rfl,Z⟩;have T:=E (G.ext Z);have JF:=E (xT L Z);have ea:=bR T;have eb:=ae T;clear G m0 m1;go_wp2_with fail
  refine bodyPost_ret (tj _ _ _ _ rfl (cB T _ _ _ _ _) rfl) rfl ?_;exact⟨rfl,cC JF (by omega) _ _ _ _ _⟩
 ·rw[if_neg y]at l;have JS:(m.sq==0)=false:=by simpa using y
  have HR:=E l;clear l G y;go_wp2_with fail
  refine wp_region_held_drew (S:=λW=>W.cell? ⟨w.heap.size,0,N⟩=I (B C m.sq)/\W.cell? ⟨w.heap.size,1,N⟩=I (B C m.sf)) (by kernel_rfl) ⟨m0,m1⟩ (λ_=>?_);clear m0 m1;refine ab 0 ?_;refine ab 1 ?_;refine ab 2 ?_;refine ab 3 ?_;refine ab 4 ?_;refine ab 5 ?_;refine ab 7 ?_;refine ab 8 ?_;refine AllReadyH.two (i:=6) (j:=13) rfl rfl (by kernel_rfl) (by rfl) (by rfl) (λK hK=>?_) (λK hK=>?_)
  ·go_simp;refine(Y _ (xD L)).mono ?_;rintro e n⟨h2,Hz⟩;have H1:=xT (xD (xR _)) Hz;have E2:=xT L H1;cases rb with
   |none=>
    obtain rfl:=h2;obtain rfl:none=R:=HR.out;exact⟨rfl,rfl,E2⟩
   |some b=>
    obtain⟨v2,rfl,O⟩:=h2;have g:=Hm.ext H1;have p:=Hr.ext H1;clear Hz;obtain⟨m0,m1⟩:=fq g;refine af hK _ _ ⟨m0,m1⟩ (λ_=>?_);refine AllReadyH.two (i:=9) (j:=13) rfl rfl (by kernel_rfl) (by rfl) (by rfl) (λK hK=>?_) (λK hK=>?_)
    ·go_simp;refine(H8 _ _ b E2 O (Q b rfl)).mono ?_;rintro e t h3;obtain⟨s,ev,rfl,Kz,a⟩:=qu h3;have d:=g.ext a;have J:=p.ext a;have z:=xT E2 a;clear m0 m1 h3;obtain⟨m0,m1⟩:=fq d;refine af hK _ _ ⟨m0,m1⟩ (λ_=>?_);refine ab 10 ?_;refine ab 11 ?_;refine ab 12 ?_;refine ah 13 (λK hK=>?_);go_simp;have l:=d.alloc (D #[B C 0,B C 0,B C 0,B C 0,H false] 41);have y:=P6 t 41 #[B C 0,B C 0,B C 0,B C 0,H false];clear m0 m1;obtain⟨m0,m1⟩:=fq l;refine af hK _ _ ⟨m0,m1⟩ (λ_=>?_);have ea:=bR y;refine ah 14 (λK hK=>?_);go_simp;have Ke:Hid (Blk (t.alloc (D #[B C s.idx,B C s.term,B C s.sum,B C s.lvl,H s.fin] 41)) t.heap.size 41 #[B C s.idx,B C s.term,B C s.sum,B C s.lvl,H s.fin]):=E (P6 t _ _);have Hu:=E (J.alloc (D #[B C s.idx,B C s.term,B C s.sum,B C s.lvl,H s.fin] 41));have HE:=E (xT z (xA (xR t) (D #[B C s.idx,B C s.term,B C s.sum,B C s.lvl,H s.fin] 41)));have KA:=d.alloc (D #[B C s.idx,B C s.term,B C s.sum,B C s.lvl,H s.fin] 41);clear m0 m1 y l ea;exact mcSStatea0
    go_simp;have KC:=P6 n 41 #[B C 0,B C 0,B C 0,B C 0,H false];have k:Ext n (n.alloc (D #[B C 0,B C 0,B C 0,B C 0,H false] 41)):=xA (xR _) _;have HT:=g.ext k;have KB:=p.ext k;have KF:=xT E2 k;have l:=Bs.ext O k;have o:w.heap.size+2<=n.heap.size:=by have:=p.lt;omega
    clear m0 m1;obtain⟨m0,m1⟩:=fq HT;refine af hK _ _ ⟨m0,m1⟩ (λ_=>?_);refine ah 9 (λK hK=>?_);go_simp;refine(H8 _ _ b KF l (Q b rfl)).mono ?_;rintro e t h3;obtain⟨s,ev,rfl,Kz,a⟩:=qu h3;have d:=HT.ext a;have J:=KB.ext a;have q:=KC.ext a;have z:=xT KF a;clear m0 m1 h3;obtain⟨m0,m1⟩:=fq d;refine af hK _ _ ⟨m0,m1⟩ (λ_=>?_);refine ab 10 ?_;refine ab 11 ?_;refine ab 12 ?_;have ea:=bR q;have eb:=ae q;refine ah 14 (λK hK=>?_);go_simp;have P:w.heap.size≠n.heap.size:=by have:=g.lt;have:=o;omega
    have X:w.heap.size+1≠n.heap.size:=by have:=p.lt;have:=o;omega
    have Ke:=E (cB q (B C s.idx) (B C s.term) (B C s.sum) (B C s.lvl) (H s.fin));have Hu:=E (lI J X (B C s.idx) (B C s.term) (B C s.sum) (B C s.lvl) (H s.fin));have HE:=E (cC z (show w.heap.size<=n.heap.size by have:=o;omega) (B C s.idx) (B C s.term) (B C s.sum) (B C s.lvl) (H s.fin));have KA:=lI d P (B C s.idx) (B C s.term) (B C s.sum) (B C s.lvl) (H s.fin);clear m0 m1 ea eb;exact mcSStatea0
  ·go_simp;have k:Ext ((w.alloc (D #[B C m.sq,B C m.sf] 27)).alloc (D #[B C 0,B C 0,B C 0,B C 0,H false] 41)) (((w.alloc (D #[B C m.sq,B C m.sf] 27)).alloc (D #[B C 0,B C 0,B C 0,B C 0,H false] 41)).alloc (D #[B C 0,B C 0,B C 0,B C 0,H false] 41)).drew:=xD (xA (xR _) _);have Js:=(P6 ((w.alloc (D #[B C m.sq,B C m.sf] 27)).alloc (D #[B C 0,B C 0,B C 0,B C 0,H false] 41)) 41 #[B C 0,B C 0,B C 0,B C 0,H false]).ext (xD (xR _));rw[xS,xS]at Js;have Ji:=Hm.ext k;have JT:=Hr.ext k;have l:=xT L k;obtain⟨m0,m1⟩:=fq Ji;refine af hK _ _ ⟨m0,m1⟩ (λ_=>?_);refine ah 6 (λK hK=>?_);go_simp;refine(Y _ l).mono ?_;rintro e n⟨h2,H1⟩;have E2:=xT l H1;cases rb with
   |none=>
    obtain rfl:=h2;obtain rfl:none=R:=HR.out;exact⟨rfl,rfl,E2⟩
   |some b=>
    obtain⟨v2,rfl,O⟩:=h2;have g:=Ji.ext H1;have p:=JT.ext H1;have Kc:=Js.ext H1;have o:w.heap.size+2<=w.heap.size+1+1:=by omega
    clear m0 m1;obtain⟨m0,m1⟩:=fq g;refine af hK _ _ ⟨m0,m1⟩ (λ_=>?_);refine ah 9 (λK hK=>?_);go_simp;refine(H8 _ _ b E2 O (Q b rfl)).mono ?_;rintro e t h3;obtain⟨s,ev,rfl,Kz,a⟩:=qu h3;have d:=g.ext a;have J:=p.ext a;have q:=Kc.ext a;have z:=xT E2 a;clear m0 m1 h3;obtain⟨m0,m1⟩:=fq d;refine af hK _ _ ⟨m0,m1⟩ (λ_=>?_);refine ab 10 ?_;refine ab 11 ?_;refine ab 12 ?_;have ea:=bR q;have eb:=ae q;refine ah 14 (λK hK=>?_);go_simp;have P:w.heap.size≠w.heap.size+1+1:=by have:=g.lt;have:=o;omega
    have X:w.heap.size+1≠w.heap.size+1+1:=by have:=p.lt;have:=o;omega
    have Ke:=E (cB q (B C s.idx) (B C s.term) (B C s.sum) (B C s.lvl) (H s.fin));have Hu:=E (lI J X (B C s.idx) (B C s.term) (B C s.sum) (B C s.lvl) (H s.fin));have HE:=E (cC z (show w.heap.size<=w.heap.size+1+1 by have:=o;omega) (B C s.idx) (B C s.term) (B C s.sum) (B C s.lvl) (H s.fin));have KA:=lI d P (B C s.idx) (B C s.term) (B C s.sum) (B C s.lvl) (H s.fin);clear m0 m1 ea eb;exact mcSStatea0
open Go.RowKit Go.Mv Go.Shelf
theorem mcMKeepa0{P:Prop}(h:P:=by
 generalize sg[k]=s at *;have X1:Ext wr (wr.alloc (D #[B C s.seq,B C s.fmt,B C s.first,B C s.count] 36)):=xA (xR _) _;have X2:Ext wr ((wr.alloc (D #[B C s.seq,B C s.fmt,B C s.first,B C s.count] 36)).alloc (D #[B T 3,B C s.seq,B C s.fmt] 32)):=xA X1 _;have hn:=lF (wr.alloc (D #[B C s.seq,B C s.fmt,B C s.first,B C s.count] 36)) (3,s.seq,s.fmt);rw[xS]at hn;have HN:=E (xW hn);have KU:=E (ai Hn X2);have KZ:=E (xT H5 X2);have Ja:=P6 wr 36 #[B C s.seq,B C s.fmt,B C s.first,B C s.count];have ec:=aM Ja;clear X1 X2 hn Ja;go_wp2_with (at_builtin;refine pF rfl (.tmp 29) (.tmp 35) rfl w.heap.size _ L rfl KU _ (3,s.seq,s.fmt) rfl HN (by rw[K4.out];omega) KZ.size ?_;intro A1 JW w1 HU Ho)
 have JP:=E (Ext.grownOwn KZ KU Ho);have JL:=E HU;clear HU Ho c0 c1 c2 c3 ec;go_wp2_with fail
 go_roundw
 case rel=>exact⟨k+1,by omega,by go_num,by rw[K5.out];exact JL,JP⟩
 case measure=>simp[intOf];omega):P:=h
theorem qK(m:Mf)(v:Value)(w:World)(H:Sgs w v m.segs)(hl:V m.segs<=1000000):
  Calls M 61 #[U #[B C m.next,B C m.term,B C m.vote,B C m.sq,B C m.sf,v]] w λe w'=>∃X,e=.returned X/\dH w' w.heap.size X (cY m)/\Ext w w':=by
 obtain⟨A,c,rfl,_,_⟩:=H.open_;have O:=E H;clear H;obtain⟨d,f,g,b,a,sg⟩:=m;dsimp only at *;have hb:=P6 w 30 #[B C d,B C f,B C g,B C b,B C a,F A sg.length c];have S:Ext w ((w.alloc (D #[B C d,B C f,B C g,B C b,B C a,F A sg.length c] 30)).alloc (D #[B T 1,B C 0,B C 0] 32)):=xA (xA (xR _) _) _;have G:Blk ((w.alloc (D #[B C d,B C f,B C g,B C b,B C a,F A sg.length c] 30)).alloc (D #[B T 1,B C 0,B C 0] 32)) w.heap.size 30 #[B C d,B C f,B C g,B C b,B C a,F A sg.length c]:=hb.alloc _;have Q:dH ((w.alloc (D #[B C d,B C f,B C g,B C b,B C a,F A sg.length c] 30)).alloc (D #[B T 1,B C 0,B C 0] 32)) w.heap.size (F (I ⟨w.heap.size+1,0,N⟩) 1 1) [(1,0,0)]:=by
  have:=lF (w.alloc (D #[B C d,B C f,B C g,B C b,B C a,F A sg.length c] 30)) (1,0,0);rw[xS]at this;exact ay this (Pa _)
 have R:=aj G;have j:=E S;have o:=E G;have i:=E Q;obtain⟨W1,P⟩:∃W1,(w.alloc (D #[B C d,B C f,B C g,B C b,B C a,F A sg.length c] 30)).alloc (D #[B T 1,B C 0,B C 0] 32)=W1:=⟨_,rfl⟩;clear hb S G Q;by_cases J:b=0
 ·subst J;have p:cY ⟨d,f,g,0,a,sg⟩=[(1,0,0)]++sg.map bc:=by unfold cY i6;rw[if_pos rfl]
  rw[p];clear p P;go_enter func61,ntmps61
  go_wp2_with fail;clear R;go_loopw [3,25] (λK Hl wr=>∃k:Nat,k<=V sg/\Hl=B C k/\Hid (dH wr w.heap.size K ([(1,0,0)]++(sg.take k).map bc))/\Hid (Ext w wr)) (λ_ Hl _=>V sg-(intOf Hl).toNat)
  case atStart=>exact⟨0,P8 _,rfl,i,j⟩
  case round=>
   obtain⟨k,hk,rfl,Hn,H5⟩:=hrel;obtain⟨Y,Z,rfl,_,_⟩:=xO (xW Hn);by_cases h:k<V sg
   ·have n:V ([(1,0,0)]++(sg.take k).map bc)=k+1:=by simp;omega
    obtain⟨_,bs,of,rfl,l⟩:=Sgs.at_ O (by omega);obtain⟨q,r,t,x⟩:=l k h;have c0:=H5.cell q;have c1:=H5.cell r;have c2:=H5.cell t;have c3:=H5.cell x;have H3:[(1,0,0)]++(sg.take (k+1)).map bc=([(1,0,0)]++(sg.take k).map bc)++[bc sg[k]]:=by rw[P1 h,P5,P0];rfl
    have K5:=E H3;have K4:=E n;clear l q r t x H3 n;generalize[(1,0,0)]++(sg.take k).map bc=L at *;exact mcMKeepa0
   obtain rfl:k=V sg:=by omega
   have y:[(1,0,0)]++(sg.take (V sg)).map bc=[(1,0,0)]++sg.map bc:=by rw[P2]
   have z:=E y;clear y;go_wp2_with fail;go_ret;refine⟨_,rfl,?_,H5.out⟩;show dH _ _ _ ([(1,0,0)]++sg.map bc);rw[<-z.out];exact Hn.out
 ·have p:cY ⟨d,f,g,b,a,sg⟩=[(1,0,0),(4,b,a)]++sg.map bc:=by unfold cY i6;rw[if_neg J]
  rw[p];have hn:=lF ((w.alloc (D #[B C d,B C f,B C g,B C b,B C a,F A sg.length c] 30)).alloc (D #[B T 1,B C 0,B C 0] 32)) (4,b,a);have X1:Ext ((w.alloc (D #[B C d,B C f,B C g,B C b,B C a,F A sg.length c] 30)).alloc (D #[B T 1,B C 0,B C 0] 32)) (((w.alloc (D #[B C d,B C f,B C g,B C b,B C a,F A sg.length c] 30)).alloc (D #[B T 1,B C 0,B C 0] 32)).alloc (D #[B T 4,B C b,B C a] 32)):=xA (xR _) _;replace j:=E (xT j X1);replace o:=E (o.ext X1);replace i:=E (ai i X1);rw[xS,xS]at hn;have HN:=E (xW hn);have Hq:=E J;clear p hn X1 P;go_enter func61,ntmps61
  go_wp2_with (at_builtin;refine pF rfl (.tmp 12) (.tmp 20) rfl w.heap.size _ [(1,0,0)] rfl i _ (4,b,a) rfl HN (by decide) j.size ?_;intro A1 c1 w1 HU Ho;have eb:=aj (o.kept Ho (o.not_row (by decide) i)))
  replace j:=E (Ext.grownOwn j i Ho);replace i:=E HU;clear HU Ho HN o R eb;go_loopw [3,25] (λK Hl wr=>∃k:Nat,k<=V sg/\Hl=B C k/\Hid (dH wr w.heap.size K ([(1,0,0),(4,b,a)]++(sg.take k).map bc))/\Hid (Ext w wr)) (λ_ Hl _=>V sg-(intOf Hl).toNat)
  case atStart=>exact⟨0,P8 _,rfl,i,j⟩
  case round=>
   obtain⟨k,hk,rfl,Hn,H5⟩:=hrel;obtain⟨Y,Z,rfl,_,_⟩:=xO (xW Hn);by_cases h:k<V sg
   ·have n:V ([(1,0,0),(4,b,a)]++(sg.take k).map bc)=k+2:=by simp;omega
    obtain⟨_,bs,of,rfl,l⟩:=Sgs.at_ O (by omega);obtain⟨q,r,t,x⟩:=l k h;have c0:=H5.cell q;have c1:=H5.cell r;have c2:=H5.cell t;have c3:=H5.cell x;have H3:[(1,0,0),(4,b,a)]++(sg.take (k+1)).map bc=([(1,0,0),(4,b,a)]++(sg.take k).map bc)++[bc sg[k]]:=by rw[P1 h,P5,P0];rfl
    have K5:=E H3;have K4:=E n;clear l q r t x H3 n;generalize[(1,0,0),(4,b,a)]++(sg.take k).map bc=L at *;exact mcMKeepa0
   ·obtain rfl:k=V sg:=by omega
    have y:[(1,0,0),(4,b,a)]++(sg.take (V sg)).map bc=[(1,0,0),(4,b,a)]++sg.map bc:=by rw[P2]
    have z:=E y;clear y;go_wp2_with fail;go_ret;refine⟨_,rfl,?_,H5.out⟩;show dH _ _ _ ([(1,0,0),(4,b,a)]++sg.map bc);rw[<-z.out];exact Hn.out
