/- Merged -/
import Derived.Test.YteggfecbjgbndaaGreatDoorZy39
set_option linter.all false
set_option maxHeartbeats 8000000
set_option maxRecDepth 100000
open Go.Proofs.Tryz
open List renaming length->S
open Go.Value renaming int->C,slice->F,pointer->R
open Go.IntKind renaming i64->E
open Go.Obj renaming cells->G
open Go.Mv renaming aN->H
open Option renaming some->I,none->O
open Go.Proofs.Tryz renaming prog->Q
open Array renaming getElem?_eq_some_iff->P0,replicate_zero->P1,replicate_succ->P2
open List renaming append_toArray->P3,size_toArray->P4,push_toArray->P5,append_assoc->P6,take_length->P7,cons_append->P8,map_append->P9,length_nil->Pa
open Nat renaming reduceSub->Pb,reduceAdd->Pc,zero_le->Pd
namespace Go.Proofs.YteggfecbjgbndaaGreatDoor
open Go.RowKit Go.Mv Go.Shelf
theorem Fe(m:Mf)(A:Option Addr)(n c:Nat)(w:World):Calls Q 118 #[.agg #[C E m.next,C E m.term,C E m.vote,C E m.sq,C E m.sf,F A n c]] w λe w'=>e=.returned (.func (.func 179) #[] #[R (I ⟨w.heap.size,0,O⟩)])/\w.alloc (G (mfC m (F A n c)) 30)=w':=by
 unfold mfC;go_enter func118,ntmps118
 go_wp2;go_ret;exact⟨rfl,rfl⟩
theorem O0{n k:Nat}(h:k<n):n-(intOf (C E ((k:Int)+1))).toNat<n-(intOf (C E (k:Int))).toNat:=by simp[intOf];omega
theorem N7{n k:Nat}(h:k<n)(hb:n<=1000000):n-(intOf (C E (wrap64 ((k:Int)+1)))).toNat<n-(intOf (C E (k:Int))).toNat:=by
 rw[show wrap64 ((k:Int)+1)=(k:Int)+1 by unfold wrap64;omega];exact O0 h
theorem PU{n k:Nat}(h:k<n)(hb:n<=1000000):C E (wrap64 ((k:Int)+1))=C E ((k+1:Nat):Int):=by
 rw[show wrap64 ((k:Int)+1)=((k+1:Nat):Int) by unfold wrap64;omega]
def fT(m:Mf):List Int:=[m.next,m.term,m.vote,m.sq,m.sf,(S m.segs:Int)]
theorem Fb(m:Mf)(k:Nat)(h:k<S m.segs):fT m++du (m.segs.take (k+1))=(fT m++du (m.segs.take k))++[m.segs[k].seq,m.segs[k].fmt,m.segs[k].first,m.segs[k].count+1]:=by rw[tS _ _ h,P6]
def NuK(a b:Nat)(k:Nat)(o:Obj):Prop:=o.isCells=true/\k≠a/\(k<b\/o.ty≠some 5)
attribute [local go_sem] Oper.semAt_some in
theorem Ds(D a:World)(m:Mf)(v:Value)(hS:Sgs D v m.segs)(hl:S m.segs<=60)(w:∀s∈m.segs,-1<=s.count/\s.count<=4)(K7:Ext D a)(B z n0:Nat)(hB:Blk a B 30 (mfC m v))(J8:B≠z)(Jh:D.heap.size<=n0)(Jg:D.heap.size<=z)(Ja:z<a.heap.size):
  Seq Q 179 #[R (I ⟨B,0,O⟩)] (λ(x:Int) av _=>av = #[C E x]) (NuK z n0) (λ_ _=>False) (cM m) a:=by
 intro lp J Jx hJ J9 hY h0;obtain⟨A,c,rfl,_,_⟩:=hS.open_;obtain⟨N,hN⟩:∃N,cM m=N:=⟨_,rfl⟩;rw[hN]at hY⊢;have Hi:=H hN;clear hN;refine(callsIn_wd (ro:=none) (n:=9)).1 ?_;refine callsIn_of_wp func179 rfl trivial ?_ rfl;simp only[ntmps179,P4,xC,Pa,Pc,Pb,P2,P1,P5,P3,xI,P8];obtain⟨m0,m1,m2,m3,m4,m5⟩:=aj (show Blk a B 30 #[C E m.next,C E m.term,C E m.vote,C E m.sq,C E m.sf,F A m.segs.length c]from hB);have HS:=H hS;have HY:=H hY;have KM:=H w;have KN:=H K7;have hO:=be a ((fT m).map iv) 3 6 (xN _);have V:Ext a (a.alloc (G #[C E m.next,C E m.term,C E m.vote,C E m.sq,C E m.sf,C E (S m.segs:Int)] 3)):=xA (xR _) _;have f:Hid (OwnI (a.alloc (G #[C E m.next,C E m.term,C E m.vote,C E m.sq,C E m.sf,C E (S m.segs:Int)] 3)) a.heap.size (F (I ⟨a.heap.size,0,O⟩) 6 6) (fT m)):=H hO;have HR:=H V;have HB:=H hB;obtain⟨i0,hi,HI,HK,HL⟩:=info_parts m9;have k5:=V.cell m5;have KY:J [] (a.alloc (G #[C E m.next,C E m.term,C E m.vote,C E m.sq,C E m.sf,C E (S m.segs:Int)] 3)):=hJ _ _ _ h0 (Moves.refl.alloc _);clear hS hY w K7 hO hB V KY;gi_wp2;clear m0 m1 m2 m3 m4 m5 k5;gi_loopw [3,27] (λv3 M W=>∃(k:Nat) (A':Option Addr) (c' j:Nat),k<=S m.segs/\M=C E k/\v3=F A' j c'/\Hid (j=6+4*k)/\Hid (OwnI W a.heap.size v3 (fT m++du (m.segs.take k)))/\Hid (Ext a W)) (λ_ M _=>S m.segs-(intOf M).toNat)
 case atStart=>exact⟨0,_,_,6,Pd _,rfl,rfl,rfl,by simpa[du]using f,HR⟩
 case round=>
  clear f HR;obtain⟨k,A',c',j,t,rfl,rfl,HZ,f,i⟩:=hrel;have H1:S (fT m++du (m.segs.take k))=6+4*k:=by rw[xL,lE,List.length_take,Nat.min_eq_left t];rfl
  by_cases d:k<S m.segs
  ·obtain⟨_,bs,of,rfl,H0⟩:=Sgs.at_ (HS.ext (xT KN i.out)) (by omega);obtain⟨d0,d1,d2,d3⟩:=H0 k d;have q:=Fb m k d;have w:=KM _ (List.getElem_mem d);have U:=H q;have H8:=H H1;clear H0 q H1;generalize fT m++du (m.segs.take k)=L at *;generalize m.segs[k]=s at *;have hw:wrap64 (s.count+1)=s.count+1:=by unfold wrap64;omega
   have X1:Ext wr (wr.alloc (G #[C E s.seq,C E s.fmt,C E s.first,C E s.count] 36)):=xA (xR _) _;have Z:Ext wr ((wr.alloc (G #[C E s.seq,C E s.fmt,C E s.first,C E s.count] 36)).alloc (G #[C E s.seq,C E s.fmt,C E s.first,C E (s.count+1)] 3)):=xA X1 _;have hn:=be (wr.alloc (G #[C E s.seq,C E s.fmt,C E s.first,C E s.count] 36)) ([s.seq,s.fmt,s.first,s.count+1].map iv) 3 4 (xN _);rw[xS]at hn;have HN:Hid (SlR ((wr.alloc (G #[C E s.seq,C E s.fmt,C E s.first,C E s.count] 36)).alloc (G #[C E s.seq,C E s.fmt,C E s.first,C E (s.count+1)] 3)) 1 (F (I ⟨wr.heap.size+1,0,O⟩) 4 4) 4 ([s.seq,s.fmt,s.first,s.count+1].map iv)):=H (xW hn);have K2:Hid (World.ownsRow _ a.heap.size 3 1 (F A' j c') L.length (L.map iv)):=H (ai f Z);have K3:=H (xT i Z);have Ke:=Blk.new wr 36 #[C E s.seq,C E s.fmt,C E s.first,C E s.count];obtain⟨x0,x1,x2,x3⟩:=aM Ke;clear X1 Z hn Ke w;gi_wp2_with (gi_at_builtin;refine lk _ rfl (.tmp 31) (.tmp 41) 64 rfl a.heap.size 3 i0 _ 1 8 underlying64 hi HI HK HL rfl (by decide) _ L.length (L.map iv) rfl K2 _ 4 ([s.seq,s.fmt,s.first,s.count+1].map iv) rfl HN (BT _) (by rw[H8.out];unfold maxLen;omega) (by rw[H8.out];omega) K3.size ?_;intro v3 w3 Ki KX;obtain⟨A3,c3,rfl,_,_⟩:=xO (xW Ki))
   have KW:=Ext.grownOwn K3 K2 KX;refine⟨⟨k+1,A3,c3,_,by omega,by go_num,rfl,by (unfold Hid;rw[H8.out];omega),?_,KW⟩,by simp[intOf];omega⟩;unfold Hid OwnI;rw[U.out,xL,P9];exact Ki
  ·obtain rfl:k=S m.segs:=by omega
   have ho:=f.out;rw[P7,show fT m++du m.segs=N from Hi.out]at ho;rw[P7,show fT m++du m.segs=N from Hi.out]at H1;have Kh:J [] wr:=hJ _ _ _ h0 ⟨i.os,i.tape,i.output,i.size,λk o t _=>(i.block k (P0.1 t).1).trans t⟩;have f:=H ho;have p:=H Kh;have H8:=H H1;have K0:=H (show S N<=1000000 by omega);have hz:=i.size;clear ho Kh i H1;gi_wp2;gi_loopw [7,46] (λ_ l W=>∃k:Nat,k<=S N/\l=C E k/\Hid (J (N.take k) W)/\Hid (W.ownsRow a.heap.size 3 1 (F A' j c') N.length (N.map iv))/\a.heap.size<=W.heap.size) (λ_ l _=>S N-(intOf l).toNat)
   case atStart=>exact⟨0,Pd _,rfl,p,f,hz⟩
   case round=>
    clear p f;obtain⟨k,t,rfl,p,f,Kb⟩:=hrel;have J0:=H8.out;by_cases d:k<S N
    ·obtain⟨J2,b,J4,rfl,Kf⟩:=(xW f.out).at_ (by omega);clear J2;have X:=Kf k (iv N[k]) (by rw[List.getElem?_map,List.getElem?_eq_getElem d];rfl);have K:N=N.take k++N[k]::N.drop (k+1):=by rw[<-List.drop_eq_getElem_cons d,List.take_append_drop]
     have q:N.take (k+1)=N.take k++[N[k]]:=List.take_succ_eq_append_getElem d;have hy:=HY (N.take k) N[k] _ K wr #[C E N[k]] p Kb rfl;have Y:=H hy;have U:=H q;have KR:=H K;clear hy q K Kf;generalize N[k]=x at *;simp only[iv,Nat.mul_one]at X;have KZ:(k:Int)<(j:Int):=by have:=HZ.out;omega
     have T:=H d;clear J0 d;gi_wp2;refine ew Y.out ?_;rintro e W' ⟨y,⟨rfl,r⟩|⟨rfl,r⟩⟩
     ·refine⟨true,rfl,?_⟩;have P:=H r;have Hc:W'.ownsRow a.heap.size 3 1 (F (I ⟨b,J4,O⟩) j c') N.length (N.map iv):=by
       have h:=f.out;refine⟨h.1,?_⟩;rcases h.2 with hn | ⟨g,cap,K6,e,hb,hgg,rest⟩
       ·exact .inl hn
       exact .inr ⟨g,cap,K6,e,hb,y.same _ _ hgg (.inl ⟨rfl,by omega,.inr (by simp[Obj.ty])⟩),rest⟩
      have KO:=H Hc;have Hu:=Nat.le_trans Kb y.size;clear r y Y X Hc;gi_wp2;exact⟨⟨k+1,T.out,PU T K0.out,by rw[U.out];exact P.out,KO,Hu⟩,N7 T K0.out⟩
     refine⟨false,rfl,?_⟩;have P:=H r;clear r y Y X;gi_wp2;refine bodyPost_ret (results_none rfl _ _ _) rfl ?_;refine⟨⟨_,rfl⟩,.inr ⟨N.take k++[x],⟨N.drop (k+1),?_⟩,P.out⟩⟩;rw[P6];exact KR.symm
    ·have KZ:¬(k:Int)<(j:Int):=by have:=HZ.out;omega
     have Ha:J N wr:=by
      have:=p.out;rwa[List.take_of_length_le (by omega)]at this
     have Hm:=H Ha;clear Ha;gi_wp2;refine bodyPost_end (results_none rfl _ _ _) rfl ?_;exact⟨⟨_,rfl⟩,.inl Hm.out⟩
theorem Ah(tmps:Array Value)(W:World)(a b:Value)(h2:tmps.getD 2 undef=a)(h3:tmps.getD 3 undef=b):(results Tryz.f60 tmps).run Q W=.ok (.tuple #[a,b]) W:=by
 have c:tmps[2]?.getD undef=a:=by simpa using h2
 have d:tmps[3]?.getD undef=b:=by simpa using h3
 simp[results,results60,c,d]
structure MpI (w:World) (bo base:Nat) (H2:List Int) (X:World):Prop where
 bx:∃ v,Boxed X bo 33 v/\OwnB X base v (77::aF H2)
 e:Ext w X
attribute [local go_sem] Oper.semAt_some in
theorem yG(m:Mf)(v:Value)(w:World)(hS:Sgs w v m.segs)(hT:StW w):
  Calls Q 60 #[.agg #[C E m.next,C E m.term,C E m.vote,C E m.sq,C E m.sf,v]] w (Ce w (bj m)):=by
 obtain⟨A,c,rfl,Jb,Jc⟩:=hS.open_;have Hv:=Blk.new w 30 #[C E m.next,C E m.term,C E m.vote,C E m.sq,C E m.sf,F A m.segs.length c];have hX:Ext w (w.alloc (G #[C E m.next,C E m.term,C E m.vote,C E m.sq,C E m.sf,F A m.segs.length c] 30)):=xA (xR _) _;obtain⟨m0,m1,m2,m3,m4,m5⟩:=aj Hv;have HS:=H hS;have K4:=F2 m (F A m.segs.length c) _ (hS.ext hX);have H3:=H K4;have HT:=H hT;have HX:=H hX;have Hb:=H Hv;clear K4 hS hT hX Hv;refine(callsIn_wd (ro:=none) (n:=9)).1 ?_;refine callsIn_of_wp_marks func60 rfl trivial ?_ rfl;simp only[ntmps60,P4,xC,Pa,Pc,Pb,P2,P1,P5,P3,xI,P8];cases f:aZ m with
 |false=>
  rw[f]at H3;have hr:bj m=none:=by unfold bj;rw[f];rfl
  rw[hr];simp only[Bool.false_eq_true,if_false]at H3;gi_wp2_with (refine⟨trivial,?_⟩;gi_at_call 117;refine(callsIn_wd.2 H3.out).mono ?_;rintro e b⟨rfl,t⟩)
  exact⟨.tuple #[F none 0 0,C E 2],Ah _ _ _ _ rfl rfl,⟨_,rfl,World.ownsRow_nil _ _ _ _⟩,xT HX t⟩
 |true=>
  rw[f]at H3;obtain⟨P,hP⟩:∃P,bh rT (77::aF (cM m))=P:=⟨_,rfl⟩;have hr:bj m=I P:=by unfold bj;rw[f,hP];rfl
  rw[hr];have HP:=H hP;have Hl:=H f;clear hP;simp only[if_true]at H3;gi_wp2_with (first
   |(refine⟨trivial,?_⟩;gi_at_call 117;refine(callsIn_wd.2 H3.out).mono ?_;rintro e b⟨rfl,t⟩;have X2:Ext b ((b.alloc (G #[C .u8 77] 5)).alloc (G #[F (I ⟨b.heap.size,0,O⟩) 1 1] 33)):=xA (xA (xR b) _) _;obtain⟨p0,p1,p2,p3,p4,p5⟩:=aj (Hb.ext (xT t X2)))
   |(refine⟨trivial,?_⟩;gi_at_call 118;refine(callsIn_wd.2 (Fe m A m.segs.length c _)).mono ?_;rintro e z⟨rfl,HH⟩))
  have Hw:=Boxed.new (b.alloc (G #[C .u8 77] 5)) 33 (F (I ⟨b.heap.size,0,O⟩) 1 1);rw[xS]at Hw;have Kk:OwnB ((b.alloc (G #[C .u8 77] 5)).alloc (G #[F (I ⟨b.heap.size,0,O⟩) 1 1] 33)) b.heap.size (F (I ⟨b.heap.size,0,O⟩) 1 1) [77]:=ai (be b ([(77:UInt8)].map bv) 5 1 (xN _)) (xA (xR _) _);have Kd:=xT HX (xT t X2);have Hf:((b.alloc (G #[C .u8 77] 5)).alloc (G #[F (I ⟨b.heap.size,0,O⟩) 1 1] 33)).heap.size=b.heap.size+1+1:=by simp
  generalize(b.alloc (G #[C .u8 77] 5)).alloc (G #[F (I ⟨b.heap.size,0,O⟩) 1 1] 33)=w2 at *;have Hr:Ext w2 z:=by rw[<-HH];exact xA (xR _) _
  have U:Blk z w2.heap.size 30 (mfC m (F A m.segs.length c)):=by rw[<-HH];exact Blk.new w2 _ _
  rw[Hf]at U;have h0:MpI w (b.heap.size+1) b.heap.size [] z:=⟨⟨_,Hw.kept (row:=none) (Ext.grown Hr none) (by simp),ai Kk Hr⟩,xT Kd Hr⟩;have Ko:w.heap.size<=b.heap.size:=by have:=(xT HX t).size;exact this
  have J1:b.heap.size+1+1<z.heap.size:=U.lt;clear Hf;obtain⟨_,_,_,HD,_,h6⟩:=lJ Hl.out;have H4:∀s∈m.segs,-1<=s.count/\s.count<=4:=λs hs=>by
   have:=pP Hl s hs;exact this.2.2
  have H5:=ym Hl.out;have Ht:S (cM m)<=1000:=by unfold cM;rw[xL,lE];simp;omega
  have Kn:Hid (∀W1,Ext z W1->Seq Q 179 #[R (I ⟨b.heap.size+1+1,0,O⟩)] (λ(x:Int) y _=>y = #[C E x]) (NuK (b.heap.size+1) b.heap.size) (λ_ _=>False) (cM m) W1):=
   λW1 d=>Ds w W1 m (F A m.segs.length c) HS HD H4 (xT h0.e d) (b.heap.size+1+1) (b.heap.size+1) b.heap.size (U.ext d) (by omega) Ko (by omega) (by have:=d.size;omega)
  obtain⟨N,hN⟩:∃N,cM m=N:=⟨_,rfl⟩;rw[hN]at Kn H5 Ht;have Hi:=H hN;have Hp:=H H5;have K1:=H Ht;obtain⟨i0,hi,HI,HK,HL⟩:=info_parts dC;clear HH Hw Kk Kd H4 hN H5 Ht p0 p1 p2 p3 p4 p5 m0 m1 m2 m3 m4 m5 U h6 X2 H3 Hb;refine ru (n:=9) (Rp:=λ(x:Int) y _=>y = #[C E x]) (K:=NuK (b.heap.size+1) b.heap.size) (M:=λ_ _=>False) (xs:=N) (gf:=179) (lb:=#[R (I ⟨b.heap.size+1+1,0,O⟩)]) (a:=⟨_,_⟩) ?hg ?eg ?hseq ?h1 ?h2 ?h3 (MpI w (b.heap.size+1) b.heap.size) (λ_ _ _=>False) ?hI (λ_ _ _ _ h _=>h) h0
   (λx a' W=>∃(u0 u1 u2 u3 u4 u7 u8 u9 Kq Kr Ks Kt Ku Kv Kw Kx Ky Kz KA KB KC KD KE KF KH KI KJ:Value),a'=⟨#[u0,u1,u2,u3,u4,R (I ⟨b.heap.size+1,0,O⟩),C E x,u7,u8,u9,Kq,Kr,Ks,Kt,Ku,Kv,Kw,Kx,Ky,Kz,KA,KB,KC,KD,KE,KF,KH,KI,KJ],[]⟩) (λ_ _ _ _ h _=>h) ?assign ?body ?done ?stop
  case hg=>exact rfl
  case eg=>exact enters_of func179 (by kernel_rfl) rfl
  case hseq=>exact λW1 hb hs=>Kn.out W1 hb
  case h1=>exact λk o h=>h.elim
  case h2=>exact λk o h r e=>by rw[e]at h;cases h.1
  case h3=>exact λx y W h=>by rw[h];rfl
  case hI=>
   rintro s X Y⟨⟨u,hb,g⟩,d⟩hm;refine⟨⟨u,hm.boxed hb ?_,hm.ownsRow g ?_⟩,hm.belowOf d ?_ (xN _)⟩
   ·rintro(h | h)
    ·exact h
    cases h.2
   ·intro k K6 _;rintro(h | h)
    ·exact h
    cases h.2
   rintro k o hk(h | h)
   ·exact h
   have:=h.1;omega
  case assign=>
   rintro l' i x HM W y K' hx hI J3 rfl hK;clear hx;gi_wp2;exact hK _ _ Kept.refl hI ⟨_,_,_,_,_,_,_,_,_,_,_,_,_,_,_,_,_,_,_,_,_,_,_,_,_,_,_,rfl⟩
  case body=>
   rintro l' i x HM a' W hx Je hr⟨⟨u,hb,g⟩,d⟩J3⟨u0,u1,u2,u3,u4,u7,u8,u9,Kq,Kr,Ks,Kt,Ku,Kv,Kw,Kx,Ky,Kz,KA,KB,KC,KD,KE,KF,KH,KI,KJ,rfl⟩;have Kp:aG [x]=true:=by
    have:=Hp.out;unfold aG at this⊢;rw[List.all_eq_true]at this;simpa using this x (by rw[hx];simp)
   have Jf:S i<=1000:=by have:=K1.out;rw[hx,xL]at this;omega
   obtain⟨B,Z,rfl,_,_⟩:=xO (xW g);have HF:=eY i;have He:=eY [x];have Kc:Ext W (W.alloc (G #[C E x] 3)):=xA (xR _) _;have Km:=AQ (F (I ⟨W.heap.size,0,O⟩) 1 1) [x] _ (xW (be W ([x].map iv) 3 1 (xN _))) Kp (by simp);have KQ:=H Km;have l:=H Kc;have HO:=H g;have KK:=H hb;have J:=H d;have Kl:77::aF (i++[x])=(77::aF i)++aF [x]:=by rw[zn];rfl
   have KP:=H Kl;have HV:=H (show S (77::aF i)<=6000 by simp;omega);have HW:=H (show S (aF [x])<=5 by simpa using He);clear hx HF He Km Kc Kl hb g d Kp;generalize 77::aF i=L at *;gi_wp2_with (first
    |(refine⟨trivial,?_⟩;gi_at_call 119;refine(callsIn_wd.2 KQ.out).mono ?_;rintro e w4⟨vs,rfl,Hc,q⟩;have b4:=KK.kept (row:=none) (Ext.grown (xT l q) none) (by simp);have J5:=b4.cell;obtain⟨A4,c4,rfl,_,_⟩:=xO (xW Hc))
    |(gi_at_builtin;refine lk _ rfl (.tmp 24) (.tmp 25) 33 rfl b.heap.size 5 i0 _ 1 1 underlying33 hi HI HK HL rfl (by decide) _ L.length (L.map bv) rfl (ai HO (xT l q)) _ (aF [x]).length ((aF [x]).map bv) rfl (xW Hc) (de _) (by have:=HV.out;have:=HW.out;unfold maxLen;omega) (by have:=HV.out;have:=HW.out;omega) (by have:=(xT l q).size;omega) ?_;intro v5 w5 Kj HA;obtain⟨A5,c5,rfl,_,_⟩:=xO (xW Kj);have Hd:OwnB w4 b.heap.size (F B L.length Z) L:=ai HO (xT l q);have K5:Blk w4 (b.heap.size+1) 33 #[F B L.length Z]:=b4;have V:Boxed w5 (b.heap.size+1) 33 (F B L.length Z):=K5.kept HA (K5.not_row (by decide) Hd);have J6:=V.cell;have J7:=V.frozen))
   have HE:=ey (j:=0) V (by decide:(33:TypeId)≠5) Kj (F A5 (S L+S (aF [x])) c5);have KV:Ext w w5:=Ext.grownOwn (xT J (xT l q)) (ay Hd Ko) HA;refine⟨((Kept.refl.below (xT l q) (xN _)).grown HA (λk o ek hk=>?_)).setCell (λo hk _=>?_) _,⟨_,V.set _,?_⟩,Below.setCell (p:=⟨b.heap.size+1,0,O⟩) KV (by show w.heap.size<=b.heap.size+1;omega) _⟩
   ·obtain⟨Jd,cs,fr,Kg⟩:=fH HO ek;rw[hk]at Kg;cases Kg;rintro(⟨_,_,h | h⟩|⟨_,h⟩)
    ·omega
    ·exact h rfl
    cases h
   ·rintro(⟨_,h,_⟩|⟨h,_⟩)
    ·exact h rfl
    dsimp only at h;omega
   unfold OwnB;rw[KP.out,xL,P9];exact HE
  case done=>
   rintro D W hD⟨⟨u,hb,g⟩,d⟩hK;obtain⟨B,Z,rfl,_,_⟩:=xO (xW g);have cb:=hb.cell;have HF:=eY N;have Hz:=sR (T:=rT) _ (77::aF N) W (xW g) (by simp) (by have:=K1.out;simp;omega) (HT.ext d).tab;have Ka:bh rT (77::aF N)=P:=by rw[<-Hi.out];exact HP.out
   rw[Ka]at Hz;have KL:=H Hz;have J:=H d;have HU:=H hK;clear Hz Ka HF d hb g hK;gi_wp2_with (refine⟨trivial,?_⟩;gi_at_call 120;refine(callsIn_wd.2 KL.out).mono ?_;rintro e w6⟨A6,c6,rfl,HE,K8⟩)
   have K9:w6.heap[D]?=I (.deferred (some [])):=(K8.block D (P0.1 HU.out).1).trans HU.out;refine dh K9 (.tuple #[F A6 P.length c6,C E 0]) (Ah _ _ _ _ rfl rfl) ⟨⟨_,rfl,?_⟩,cp (xT J K8) _⟩;exact ay (ze HE K9 rfl (.deferred none)) J.size
  case stop=>
   rintro D cd i W _ _ h _;exact h.elim
