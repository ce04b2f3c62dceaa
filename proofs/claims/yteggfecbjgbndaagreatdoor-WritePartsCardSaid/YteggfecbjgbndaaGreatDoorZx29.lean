/- Merged -/
import Derived.Test.YteggfecbjgbndaaGreatDoorZx24
import Derived.Test.YteggfecbjgbndaaGreatDoorZx27
import Derived.Test.YteggfecbjgbndaaGreatDoorZx28
set_option linter.all false
set_option maxHeartbeats 8000000
set_option maxRecDepth 100000
open Go.Proofs.Tryz
open List renaming length->i
open Go.Value renaming int->C,slice->H,pointer->Z
open Go.IntKind renaming i64->G,u8->f
open Go.Obj renaming cells->I
open Go.Mv renaming aN->O
open Option renaming some->R,none->U
open Go.Proofs.Tryz renaming prog->V
open List renaming getElem?_append_right->P0,map_append->P1,append_toArray->P2,take_succ_eq_append_getElem->P3,size_toArray->P4,push_toArray->P5,take_length->P6,cons_append->P7,length_nil->P8,append_assoc->P9,length->Pa
open Array renaming replicate_zero->Pb,replicate_succ->Pc,getElem?_eq_some_iff->Pd
open Go.Mv.Ext renaming grown->Pe,grownOwn->Pf
open Go.Oper renaming semAt_some->Pg,semAt_plain->Ph,about->Pi,wpIn->Pj
open Nat renaming reduceSub->Pk,reduceAdd->Pl,le_trans->Pm,zero_le->Pn
namespace Go.Proofs.YteggfecbjgbndaaGreatDoor
open Go.RowKit Go.Mv
variable {k n r:Nat} {u:Value} {W:World}
def dP(n:List UInt8):Oq:=⟨1,n,[],[]⟩
def d8(n b:List UInt8):Oq:=⟨2,n,[],b⟩
def cE(n:List UInt8):Oq:=⟨4,n,[],[]⟩
def bG(l:List Fil)(b:List (List UInt8)):List (List UInt8):=(l.map (·.1)).filter λn=>!decide (n∈b)
def eQ(d:Dk)(b:List (List UInt8)):Dk×Int:=ct false d ((bG d.now b).map cE)
def putS(d:Dk)(n b:List UInt8):Dk×Int:=ct true d [dP n,d8 n b]
def dM(n t:List UInt8):Oq:=⟨3,n,t,[]⟩
def bq:List UInt8:=[77,46,110,101,119]
def dm:List UInt8:=[77]
def l7(d:Dk)(b:List UInt8)(c:List (List UInt8)):Dk×Int:=
 if(putS d bq b).2≠0 then putS d bq b else
 if(ct true (putS d bq b).1 [dM bq dm]).2≠0 then ct true (putS d bq b).1 [dM bq dm]else
 eQ (ct true (putS d bq b).1 [dM bq dm]).1 c
open Go.RowKit Go.Mv Go.Shelf Go.MapKept
section
variable {P:Program} {T K E:TypeId} {d:TypeDesc} {F:Fence} {nF:Nat} {w:World} {ops:Array Oper} {rest:List Oper} {o:Oper} {a:Act} {Q:Exit->Act->World->Prop}
theorem sU(hg:o.guard=none)(m x:Operand)(b:o.op=Op.lookup T m x false)(j:P.underlying T=R (.map K E))(i:P.underlying K=R d)(l:(zeroValue E).run P w=.ok (C G 0) w)(r:Nat)(S:Value->Prop)(hm:a.eval m=.map (some r))(g:SSet w r d (C G 1) S)(k:Value)(hx:a.eval x=k)(hk:IsKey d k)(h:∀n:Int,((S k/\n=1)\/(¬S k/\n=0))->wpListIn F nF P ops Q rest (a.put o.dst (C G n)) w):wpListIn F nF P ops Q (o::rest) a w:=by
 refine wpListIn_plain hg λp e=>?_;unfold Pj;refine⟨by simp[Pi,b],?_⟩;rw[Ph F _ _ (by rw[b];intro c f;cases f)];rcases g.lookup j i hk l with⟨h1,H4⟩|⟨h1,H4⟩
 ·simp[execOp,b,hm,hx,H4,Result.andThen];exact e _ _ (h 1 (.inl ⟨h1,rfl⟩))
 ·simp[execOp,b,hm,hx,H4,Result.andThen];exact e _ _ (h 0 (.inr ⟨h1,rfl⟩))
theorem Cx(hg:o.guard=none)(m x v:Operand)(b:o.op=Op.mapUpdate T m x v)(j:P.underlying T=R (.map K E))(i:P.underlying K=R d)(r:Nat)(S:Value->Prop)(u:Value)(hm:a.eval m=.map (some r))(g:SSet w r d u S)(k:Value)(hx:a.eval x=k)(hk:IsKey d k)(l:a.eval v=u)(h:∀w',SSet w' r d u (λx=>S x\/x=k)->MT w w' r->wpListIn F nF P ops Q rest (a.put o.dst undef) w'):wpListIn F nF P ops Q (o::rest) a w:=by
 refine wpListIn_plain hg λp e=>?_;obtain⟨w',H4,h1,h2⟩:=g.update j i hk;unfold Pj;refine⟨by simp[Pi,b],?_⟩;rw[Ph F _ _ (by rw[b];intro c f;cases f)];simp[execOp,b,hm,hx,l,H4,Result.andThen];exact e _ _ (h w' h1 h2)
end
theorem SSet.moves{A B:World}{d:TypeDesc}{S:Value->Prop}(h:SSet A r d u S)(hm:Moves (am (λ_ _=>False) n) A B)(b:r<n):SSet B r d u S:=by
 obtain⟨es,c,hb,h1⟩:=h;refine⟨es,c,hm.same _ _ hb ?_,h1⟩;rintro(h | ⟨h,_⟩)
 ·exact h
 ·omega
theorem SSet.same{A B:World}{d:TypeDesc}{S:Value->Prop}(h:SSet A r d u S)(e:B.heap[r]?=A.heap[r]?):SSet B r d u S:=by
 obtain⟨es,c,hb,h1⟩:=h;exact⟨es,c,e.trans hb,h1⟩
theorem SSet.other{d:TypeDesc}{S:Value->Prop}(h:SSet W r d u S){a:Addr}(b:r≠a.block){x:Value}:SSet (W.setCell a x) r d u S:=by
 obtain⟨es,c,hb,h1⟩:=h;exact⟨es,c,(Below.heap_setCell W a x r b).trans hb,h1⟩
def aA(b:List (Int×Int×Int)):List (List UInt8):=b.filterMap λx=>aE x.1 x.2.1 x.2.2
theorem ye(b:List (Int×Int×Int))(x:Int×Int×Int):aA (b++[x])=aA b++(aE x.1 x.2.1 x.2.2).toList:=by
 unfold aA;rw[List.filterMap_append];cases h:aE x.1 x.2.1 x.2.2<;>simp[h]
def KS(L:List (List UInt8))(u:Value):Prop:=∃n∈L,u=sv n
theorem BQ(w:World):(zeroValue 3).run V w=.ok (C G 0) w:=by kernel_rfl
theorem qf(b:List (Int×Int×Int))(h:k<i b):(bH b)[k*3]?=R (C f b[k].1)/\(bH b)[k*3+1]?=R (C G b[k].2.1)/\(bH b)[k*3+2]?=R (C G b[k].2.2):=by
 induction b generalizing k with
 |nil=>simp at h
 |cons x b ih=>
  have e:bH (x::b)=idC x++bH b:=rfl;rw[e];cases k with
  |zero=>exact⟨rfl,rfl,rfl⟩
  |succ k=>
   have b:=ih (k:=k) (by simpa using h);have hl:i (idC x)=3:=rfl;refine⟨?_,?_,?_⟩
   ·rw[P0 (by rw[hl];omega),hl,show(k+1)*3-3=k*3 by omega];exact b.1
   ·rw[P0 (by rw[hl];omega),hl,show(k+1)*3+1-3=k*3+1 by omega];exact b.2.1
   ·rw[P0 (by rw[hl];omega),hl,show(k+1)*3+2-3=k*3+2 by omega];exact b.2.2
structure ReI (w:World) (L:List (List UInt8)) (W:World):Prop where
 bx:Boxed W w.heap.size 102 (H none 0 0)
 mp:SSet W (w.heap.size+1) .string (C G 1) (KS L)
 bm:Boxed W (w.heap.size+1+1) 156 (.map (some (w.heap.size+1)))
 e:Ext w W
theorem ReI.ext{w W':World}{L:List (List UInt8)}(h:ReI w L W)(b:Ext W W'):ReI w L W':=⟨h.bx.kept (row:=none) (Pe b none) (by simp),h.mp.ext b,h.bm.kept (row:=none) (Pe b none) (by simp),xT h.e b⟩
theorem OZ{S:Prop}{n:Int}(h:(S/\n=1)\/(¬S/\n=0))(hs:S):n=1:=by
 rcases h with⟨_,h⟩|⟨h,_⟩
 ·exact h
 ·exact absurd hs h
theorem NR{S:Prop}{n:Int}(h:(S/\n=1)\/(¬S/\n=0))(hs:¬S):n=0:=by
 rcases h with⟨h,_⟩|⟨_,h⟩
 ·exact absurd h hs
 ·exact h
def dR(b:List (Int×Int×Int))(H0:List (Nat×List UInt8)):List (List UInt8):=(H0.map (·.2)).filter λn=>!decide (n∈aA b)
theorem I6(b:List (Int×Int×Int))(H0:List (Nat×List UInt8))(j:Nat)(x:List UInt8):dR b (H0++[(j,x)])=if x∈aA b then dR b H0 else dR b H0++[x]:=by
 unfold dR;rw[P1,List.filter_append];by_cases h:x∈aA b<;>simp[h]
theorem zS:∀(fs:List Fil) (k:Nat),(nmP k fs).map (·.2)=fs.map (·.1)
 |[],_=>rfl
 | p::fs,k=>by
  show _::(nmP (k+1) fs).map (·.2)=_;rw[zS fs (k+1)];rfl
theorem Lh(b:List (Int×Int×Int))(fs:List Fil):dR b (nmP 0 fs)=bG fs (aA b):=by
 unfold dR bG;rw[zS]
theorem Nl(tmps:Array Value)(W:World)(b:Nat)(A:Option Addr)(n c:Nat)(h4:tmps.getD 4 undef=Z (R ⟨b,0,U⟩))(hc:W.cell? ⟨b,0,U⟩=R (H A n c)):(results Tryz.f58 tmps).run V W=.ok (H A n c) W:=by
 have e:tmps[4]?.getD undef=Z (R ⟨b,0,U⟩):=by simpa using h4
 simp[results,results58,e,hc,go_sem]
structure RrI (w:World) (ks:List (Int×Int×Int)) (n0:Nat) (H0:List (Nat×List UInt8)) (X:World):Prop where
 bx:∃ A c,Boxed X w.heap.size 102 (H A (dR ks H0).length c)/\X.ownsRow n0 9 1 (H A (dR ks H0).length c) (dR ks H0).length ((dR ks H0).map sv)
 mp:SSet X (w.heap.size+1) .string (C G 1) (KS (aA ks))
 bm:Boxed X (w.heap.size+1+1) 156 (.map (some (w.heap.size+1)))
 e:Ext w X
theorem fH{base b m g:Nat}{e:TypeId}{xs:List Value}{v:Value}(h:W.ownsRow base e b v m xs)(hg:v.ownBlock=R g):base<=g/\∃cs fr,W.heap[g]?=R (I cs e fr):=by
 rcases h.2 with⟨rfl,_⟩|⟨b,cap,b,rfl,hb,c,_⟩
 ·cases hg
 ·cases hg;exact⟨hb,_,_,c⟩
attribute [local go_sem] Pg in
theorem IG(v:Value)(fs:List Fil)(vk:Value)(g:List (Int×Int×Int))(w:World)(hS:StW w)(hF:Fs w v fs)(S:SlR w 3 vk g.length (bH g))(hl:i fs<=1000000)(JQ:i g<=1000000):
  Calls V 58 #[v,vk] w λe w'=>∃A c,e=.returned (H A (bG fs (aA g)).length c)/\w'.ownsRow w.heap.size 9 1 (H A (bG fs (aA g)).length c) (bG fs (aA g)).length ((bG fs (aA g)).map sv)/\Ext w w':=by
 obtain⟨A,c,rfl,_,_⟩:=Fs.open_ hF;obtain⟨B,e2,rfl,_,_⟩:=xO S;have HS:=O hS;have HF:=O hF;have K3:=O S;refine(callsIn_wd (ro:=none) (n:=9)).1 ?_;refine callsIn_of_wp_marks func58 rfl trivial ?_ rfl;simp only[ntmps58,P4,xC,P8,Pl,Pk,Pc,Pb,P5,P2,xI,P7];have Jz:=@run_makeMap V;gi_wp2;obtain⟨W0,Kl⟩:∃W0,((w.alloc (I #[H none 0 0] 102)).alloc (.map #[] 0)).alloc (I #[.map (some (w.heap.size+1))] 156)=W0:=⟨_,rfl⟩;have h0:ReI w [] W0:=by
  rw[<-Kl];have a1:=Boxed.new w 102 (H none 0 0);have a2:=SSet.new (w.alloc (I #[H none 0 0] 102)) .string (C G 1);have a3:=Boxed.new ((w.alloc (I #[H none 0 0] 102)).alloc (.map #[] 0)) 156 (.map (some (w.heap.size+1)));rw[xS]at a2;rw[xS,xS]at a3;exact⟨(a1.alloc _).alloc _,(a2.ext (xA (xR _) _)).congr (λk=>by simp[KS]),a3,xA (xA (xA (xR _) _) _) _⟩
 have y:=O h0;rw[Kl];gi_loopw [15] (λj W=>∃k:Nat,j=C G k/\k<=i g/\Hid (ReI w (aA (g.take k)) W)) (λj _=>i g+1-(intOf j).toNat)
 case atStart=>exact⟨0,rfl,by omega,y⟩
 case round=>
  obtain⟨k,rfl,JP,y⟩:=hrel;by_cases Y:k<i g
  ·obtain⟨_,b,J8,rfl,hc⟩:=(SlR.ext K3 y.e).at_ (by omega);obtain⟨x0,x1,x2⟩:=qf g Y;have c0:=hc _ _ x0;have l:=hc _ _ x1;have c2:=hc _ _ x2;have H9:aA (g.take (k+1))=aA (g.take k)++(aE g[k].1 g[k].2.1 g[k].2.2).toList:=by rw[P3 Y,ye]
   rw[<-Nat.add_assoc]at l c2;generalize g[k]=x at *;obtain⟨xk,xs,Y⟩:=x;dsimp only at *;have Hc:=O H9;have Hk:Ext wr (wr.alloc (I #[C f xk,C G xs,C G Y] 32)):=xA (xR _) _;have z:=O (lG xk xs Y _ ((HS.ext y.e).ext Hk));have H5:=O Hk;obtain⟨X,J0⟩:∃X,aE xk xs Y=X:=⟨_,rfl⟩;rw[J0]at z Hc;cases X with
   |none=>
    unfold ph at z;simp only[Option.getD_none,Option.isSome_none,Bool.false_eq_true,if_false,sv]at z;gi_wp2_with (refine⟨trivial,?_⟩;gi_at_call 50;refine(callsIn_wd.2 z).mono ?_;rintro e w1⟨rfl,H6⟩)
    have hX:=xT H5 H6;refine⟨⟨k+1,by go_num,by omega,O ?_⟩,by simp[intOf];omega⟩;rw[Hc.out];simp only[Option.toList_none,List.append_nil];exact y.ext hX
   |some X=>
    unfold ph at z;simp only[Option.getD_some,Option.isSome_some,if_true,sv]at z;gi_wp2_with (first
     |(refine⟨trivial,?_⟩;gi_at_call 50;refine(callsIn_wd.2 z).mono ?_;rintro e w1⟨rfl,H6⟩;have z:=y.ext (xT H5 H6);have cb:=z.bm.cell)
     |(gi_at_mapUpdate;refine Cx rfl (.tmp 26) (.tmp 27) (.const (C G 1)) rfl underlying156 underlying9 (w.heap.size+1) _ (C G 1) rfl z.mp (sv X) rfl trivial rfl ?_;intro Y Y Kx))
    refine⟨⟨k+1,by go_num,by omega,O ?_⟩,by simp[intOf];omega⟩;rw[Hc.out];refine⟨(Kx.block _ (by omega)).trans z.bx,Y.congr (λu=>?_),(Kx.block _ (by omega)).trans z.bm,Kx.ext2 z.e (by omega)⟩;simp only[KS,Option.toList_some,List.mem_append,List.mem_singleton];constructor
    ·rintro⟨n,hn | rfl,rfl⟩
     ·exact .inl ⟨n,hn,rfl⟩
     exact .inr rfl
    rintro(⟨n,hn,rfl⟩| rfl)
    ·exact⟨n,.inl hn,rfl⟩
    exact⟨X,.inr rfl,rfl⟩
  ·obtain rfl:k=i g:=by omega
   have z:=y.out;rw[P6]at z;have y:=O z;gi_wp2_with (refine⟨trivial,?_⟩;gi_at_call 116;refine(callsIn_wd.2 (yC _ _ _ _)).mono ?_;rintro e w' ⟨rfl,rfl⟩)
   have X:=Boxed.new wr 22 (H A fs.length c);have Y:Ext wr (wr.alloc (I #[H A fs.length c] 22)):=xA (xR _) _;have z:=y.ext Y;have Y:wr.heap.size<(wr.alloc (I #[H A fs.length c] 22)).heap.size:=X.lt;have Y:w.heap.size+2<wr.heap.size:=y.bm.lt;generalize wr.alloc (I #[H A fs.length c] 22)=w3 at *;have h0:RrI w g w3.heap.size [] w3:=⟨⟨none,0,z.bx,by simp[dR],.inl ⟨rfl,rfl⟩⟩,z.mp,z.bm,z.e⟩;obtain⟨i0,hi,Hz,HA,HD⟩:=info_parts rS;refine dV (a:=⟨_,_⟩) rfl (enters_of func176 (by kernel_rfl) rfl)
    (λW1 hb hs=>tz (λk o=>o.isCells=true/\k≠w.heap.size/\k<w3.heap.size) w W1 _ fs HF (by omega) (λq u y=>Ext.cell (xT z.e hb) y) wr.heap.size (X.kept (row:=none) (Pe hb none) (by simp)) (λo t=>⟨t,by omega,by omega⟩) (λk o hk t=>⟨t,by omega,by omega⟩))
    (λk o h=>h.elim) (λk o h=>h.1) (λx av W h=>by rw[h];rfl)
    (RrI w g w3.heap.size) (λ_ _ _=>False) ?hI (λ_ _ _ _ h _=>h) h0
    (λx a' W=>∃u7 u8 u9 HG HH HK HL HQ HR HU HV HW HZ K0 K1:Value,a'=⟨#[H A fs.length c,H B g.length e2,undef,undef,Z (R ⟨w.heap.size,0,U⟩),Z (R ⟨w.heap.size+1+1,0,U⟩),undef,u7,u8,u9,undef,sv x.2,.map (some (w.heap.size+1)),H B g.length e2,C G (i g),C G (i g),.bool false,HG,HH,HK,HL,HQ,HR,HU,HV,HW,HZ,K0,K1,H A fs.length c,.func (.func 176) #[] #[Z (R ⟨wr.heap.size,0,U⟩)],C G x.1,sv x.2,undef,undef,undef,undef,undef,undef,undef,undef,undef],[]⟩)
    (λ_ _ _ _ h _=>h) ?assign ?body ?done ?stop
   case hI=>
    rintro s X Y⟨⟨m,l,hb,t⟩,Hg,L,M⟩hm;refine⟨⟨m,l,hm.boxed hb ?_,hm.ownsRow t ?_⟩,Hg.moves hm (by omega),hm.boxed L ?_,hm.belowOf M ?_ (by omega)⟩
    ·rintro(h | h)
     ·exact h
     cases h.2
    ·intro k y _;rintro(h | h)
     ·exact h
     cases h.2
    ·rintro(h | h)
     ·exact h
     cases h.2
    rintro k o hk(h | h)
    ·exact h
    have:=h.1;omega
   case assign=>
    rintro l' H0 x Hj W av y hx hi KD rfl S;simp only[sv]at *;gi_wp2;exact S _ _ Kept.refl hi ⟨_,_,_,_,_,_,_,_,_,_,_,_,_,_,_,rfl⟩
   case body=>
    rintro l' H0⟨j,x⟩Hj a' W hx y y⟨⟨m,l,hb,t⟩,Hg,L,M⟩KD⟨u7,u8,u9,HG,HH,HK,HL,HQ,HR,HU,HV,HW,HZ,K0,K1,rfl⟩;dsimp only at *;have cb:=hb.cell;have fb:=hb.frozen;have y:=L.cell;have y:i (dR g H0)+1<=1000001:=by
     have h9:=congrArg Pa hx;rw[xL,xC,BI]at h9;have:i (dR g H0)<=i H0:=by unfold dR;exact Pm (List.length_filter_le _ _) (Nat.le_of_eq (List.length_map _))
     omega
    have H1:=I6 g H0 j x;by_cases he:x∈aA g
    ·rw[if_pos he]at H1;have Hq:KS (aA g) (sv x):=⟨x,he,rfl⟩;have K5:=O H1;have D:=O Hg;have Kd:=O Hq;simp only[sv]at *;gi_wp2_with (gi_at_lookup;refine sU rfl (.tmp 33) (.tmp 34) rfl underlying156 underlying9 (BQ _) (w.heap.size+1) _ rfl D (sv x) rfl trivial ?_;intro n hn;have hn:=OZ hn Kd;subst hn)
     refine⟨Kept.refl,?_⟩;refine⟨?_,D.out,L,M⟩;rw[K5.out];exact⟨m,l,hb,t⟩
    rw[if_neg he]at H1;have Hq:¬KS (aA g) (sv x):=by
     rintro⟨n,hn,h9⟩;exact he (Cb h9▸hn)
    have K5:=O H1;have D:=O Hg;have Kd:=O Hq;have J:=O t;have Ka:=O hb;have Jg:=O L;have HE:=O M;generalize y:dR g H0=N at *;simp only[sv]at *;have hX:Ext W (W.alloc (I #[sv x] 9)):=xA (xR _) _;gi_wp2_with (first
     |(gi_at_lookup;refine sU rfl (.tmp 33) (.tmp 34) rfl underlying156 underlying9 (BQ _) (w.heap.size+1) _ rfl D (sv x) rfl trivial ?_;intro n hn;have hn:=NR hn Kd;subst hn)
     |(gi_at_builtin;refine lk _ rfl (.tmp 37) (.tmp 39) 102 rfl w3.heap.size 9 i0 _ 1 16 underlying102 hi Hz HA HD rfl (by decide) _ N.length (N.map sv) rfl (ai J hX) _ 1 [sv x] rfl (fu W [sv x] 9 1 rfl) (sr [x]) (by unfold maxLen;omega) (by omega) (by simp;omega) ?_;intro y W3 Ht Hf;obtain⟨A3,c3,rfl,_,_⟩:=xO (xW Ht);have b3:=((Ka.alloc (I #[sv x] 9)).kept Hf (λe=>by have:=(fH J e.symm).1;omega));have y:=b3.cell;have y:=b3.frozen))
    have Hi:=ey (j:=0) b3 (by decide:(102:TypeId)≠9) Ht (H A3 (i N+1) c3);have z:Ext w W3:=Pf (xT HE hX) (ay (ai J hX) (by omega)) Hf;have y:w.heap.size+1<(W.alloc (I #[.string ⟨x.toArray⟩] 9)).heap.size:=by rw[xS];have:=D.lt;omega
    have Hs:∀k,k<w3.heap.size->some k≠(Value.slice m N.length l).ownBlock:=λk hk e=>by have:=(fH J e.symm).1;omega
    have X:SSet (W3.setCell ⟨w.heap.size,0,U⟩ (H A3 (i N+1) c3)) (w.heap.size+1) .string (C G 1) (KS (aA g)):=
     SSet.other (SSet.same (SSet.ext D hX) (Hf.block _ y (Hs _ (by omega)))) (by simp)
    refine⟨((Kept.refl.alloc _).grown Hf (λk o y hk=>?_)).setCell (λo hk _=>?_) _,⟨A3,c3,?_,?_⟩,X,?_,Below.setCell (p:=⟨w.heap.size,0,U⟩) z (xN _) _⟩
    ·have:=(fH J y).1;rintro(⟨_,_,h⟩|⟨_,h⟩)
     ·omega
     obtain⟨_,cs,fr,Hp⟩:=fH J y;rw[hk]at Hp;cases Hp;cases h
    ·rintro(⟨_,h,_⟩|⟨h,_⟩)
     ·exact h rfl
     dsimp only at h;omega
    ·rw[K5.out,xL];exact b3.set _
    ·rw[K5.out,xL,P1];exact Hi
    exact Blk.other ((Jg.alloc _).kept Hf (Hs _ (by omega))) (by omega:w.heap.size+1+1≠w.heap.size) 0 _
   case done=>
    rintro D W hD⟨⟨m,l,hb,t⟩,Hg,L,M⟩S;have hc:=hb.cell;have hf:=hb.frozen;have Kn:dR g (nmP 0 fs)=bG fs (aA g):=Lh g fs;rw[Kn]at hb t hc;gi_wp2;have y:=dK S rfl ⟨w.heap.size,0,U⟩ (H m (bG fs (aA g)).length l);have J:=fL (hb.set (H m (bG fs (aA g)).length l)).cell y rfl (.deferred none);have z:=ey (j:=0) hb (by decide:(102:TypeId)≠9) t (H m (bG fs (aA g)).length l);have Hx:w.heap.size<=w3.heap.size:=by omega
    refine dh y (H m (bG fs (aA g)).length l) (Nl _ _ _ m _ l rfl J) ⟨m,l,rfl,ay (ze z y rfl (.deferred none)) Hx,?_⟩;exact cp (Below.setCell (p:=⟨w.heap.size,0,U⟩) M (xN _) _) _
   case stop=>
    rintro D g H0 W _ _ h _;exact h.elim
open Go.RowKit Go.Mv Go.Shelf
theorem Fe(m:Mf)(A:Option Addr)(n c:Nat)(w:World):Calls V 118 #[.agg #[C G m.next,C G m.term,C G m.vote,C G m.sq,C G m.sf,H A n c]] w λe w'=>e=.returned (.func (.func 179) #[] #[Z (R ⟨w.heap.size,0,U⟩)])/\w.alloc (I (mfC m (H A n c)) 30)=w':=by
 unfold mfC;go_enter func118,ntmps118
 go_wp2;go_ret;exact⟨rfl,rfl⟩
theorem O0{k:Nat}(h:k<n):n-(intOf (C G ((k:Int)+1))).toNat<n-(intOf (C G (k:Int))).toNat:=by simp[intOf];omega
theorem N7{k:Nat}(h:k<n)(hb:n<=1000000):n-(intOf (C G (wrap64 ((k:Int)+1)))).toNat<n-(intOf (C G (k:Int))).toNat:=by
 rw[show wrap64 ((k:Int)+1)=(k:Int)+1 by unfold wrap64;omega];exact O0 h
theorem PU{k:Nat}(h:k<n)(hb:n<=1000000):C G (wrap64 ((k:Int)+1))=C G ((k+1:Nat):Int):=by
 rw[show wrap64 ((k:Int)+1)=((k+1:Nat):Int) by unfold wrap64;omega]
def fT(m:Mf):List Int:=[m.next,m.term,m.vote,m.sq,m.sf,(i m.segs:Int)]
theorem Fb(m:Mf)(k:Nat)(h:k<i m.segs):fT m++du (m.segs.take (k+1))=(fT m++du (m.segs.take k))++[m.segs[k].seq,m.segs[k].fmt,m.segs[k].first,m.segs[k].count+1]:=by rw[tS _ _ h,P9]
def NuK(b c:Nat)(k:Nat)(o:Obj):Prop:=o.isCells=true/\k≠b/\(k<c\/o.ty≠some 5)
attribute [local go_sem] Pg in
theorem Ds(wo f:World)(m:Mf)(v:Value)(hS:Sgs wo v m.segs)(hl:i m.segs<=60)(S:∀s∈m.segs,-1<=s.count/\s.count<=4)(KQ:Ext wo f)(B Y n0:Nat)(hB:Blk f B 30 (mfC m v))(JJ:B≠Y)(JS:wo.heap.size<=n0)(JR:wo.heap.size<=Y)(JL:Y<f.heap.size):
  Seq V 179 #[Z (R ⟨B,0,U⟩)] (λ(x:Int) av _=>av = #[C G x]) (NuK Y n0) (λ_ _=>False) (cM m) f:=by
 intro lp J Jx hJ JK hY h0;obtain⟨A,c,rfl,_,_⟩:=hS.open_;obtain⟨N,hN⟩:∃N,cM m=N:=⟨_,rfl⟩;rw[hN]at hY⊢;have K4:=O hN;clear hN;refine(callsIn_wd (ro:=none) (n:=9)).1 ?_;refine callsIn_of_wp func179 rfl trivial ?_ rfl;simp only[ntmps179,P4,xC,P8,Pl,Pk,Pc,Pb,P5,P2,xI,P7];obtain⟨m0,m1,m2,m3,m4,m5⟩:=aj (show Blk f B 30 #[C G m.next,C G m.term,C G m.vote,C G m.sq,C G m.sf,H A m.segs.length c]from hB);have HS:=O hS;have HY:=O hY;have Ji:=O S;have Jj:=O KQ;have hO:=be f ((fT m).map iv) 3 6 (xN _);have Kh:Ext f (f.alloc (I #[C G m.next,C G m.term,C G m.vote,C G m.sq,C G m.sf,C G (i m.segs:Int)] 3)):=xA (xR _) _;have l:Hid (OwnI (f.alloc (I #[C G m.next,C G m.term,C G m.vote,C G m.sq,C G m.sf,C G (i m.segs:Int)] 3)) f.heap.size (H (R ⟨f.heap.size,0,U⟩) 6 6) (fT m)):=O hO;have KF:=O Kh;have HB:=O hB;obtain⟨i0,hi,Hz,HA,HD⟩:=info_parts m9;have k5:=Kh.cell m5;have Ju:J [] (f.alloc (I #[C G m.next,C G m.term,C G m.vote,C G m.sq,C G m.sf,C G (i m.segs:Int)] 3)):=hJ _ _ _ h0 (Moves.refl.alloc _);clear hS hY S KQ hO hB Kh Ju;gi_wp2;clear m0 m1 m2 m3 m4 m5 k5;gi_loopw [3,27] (λv3 KE W=>∃(k:Nat) (A':Option Addr) (c' q:Nat),k<=i m.segs/\KE=C G k/\v3=H A' q c'/\Hid (q=6+4*k)/\Hid (OwnI W f.heap.size v3 (fT m++du (m.segs.take k)))/\Hid (Ext f W)) (λ_ KE _=>i m.segs-(intOf KE).toNat)
 case atStart=>exact⟨0,_,_,6,Pn _,rfl,rfl,rfl,by simpa[du]using l,KF⟩
 case round=>
  clear l KF;obtain⟨k,A',c',q,hk,rfl,rfl,KJ,l,p⟩:=hrel;have H3:i (fT m++du (m.segs.take k))=6+4*k:=by rw[xL,lE,List.length_take,Nat.min_eq_left hk];rfl
  by_cases j:k<i m.segs
  ·obtain⟨_,bs,of,rfl,H2⟩:=Sgs.at_ (HS.ext (xT Jj p)) (by omega);have ea:=H2 k j;have y:=Fb m k j;have S:=Ji _ (List.getElem_mem j);have Hc:=O y;have D:=O H3;clear H2 y H3;generalize fT m++du (m.segs.take k)=L at *;generalize m.segs[k]=s at *;have hw:wrap64 (s.count+1)=s.count+1:=by unfold wrap64;omega
   have X1:Ext wr (wr.alloc (I #[C G s.seq,C G s.fmt,C G s.first,C G s.count] 36)):=xA (xR _) _;have X2:Ext wr ((wr.alloc (I #[C G s.seq,C G s.fmt,C G s.first,C G s.count] 36)).alloc (I #[C G s.seq,C G s.fmt,C G s.first,C G (s.count+1)] 3)):=xA X1 _;have hn:=be (wr.alloc (I #[C G s.seq,C G s.fmt,C G s.first,C G s.count] 36)) ([s.seq,s.fmt,s.first,s.count+1].map iv) 3 4 (xN _);rw[xS]at hn;have HN:Hid (SlR ((wr.alloc (I #[C G s.seq,C G s.fmt,C G s.first,C G s.count] 36)).alloc (I #[C G s.seq,C G s.fmt,C G s.first,C G (s.count+1)] 3)) 1 (H (R ⟨wr.heap.size+1,0,U⟩) 4 4) 4 ([s.seq,s.fmt,s.first,s.count+1].map iv)):=O (xW hn);have KM:Hid (World.ownsRow _ f.heap.size 3 1 (H A' q c') L.length (L.map iv)):=O (ai l X2);have KN:=O (xT p X2);have KX:=Blk.new wr 36 #[C G s.seq,C G s.fmt,C G s.first,C G s.count];have eb:=aM KX;clear X1 X2 hn KX S;gi_wp2_with (gi_at_builtin;refine lk _ rfl (.tmp 31) (.tmp 41) 64 rfl f.heap.size 3 i0 _ 1 8 underlying64 hi Hz HA HD rfl (by decide) _ L.length (L.map iv) rfl KM _ 4 ([s.seq,s.fmt,s.first,s.count+1].map iv) rfl HN (BT _) (by rw[D.out];unfold maxLen;omega) (by rw[D.out];omega) KN.size ?_;intro v3 w3 Ht Hf;obtain⟨A3,c3,rfl,_,_⟩:=xO (xW Ht))
   have Js:=Pf KN KM Hf;refine⟨⟨k+1,A3,c3,_,by omega,by go_num,rfl,by (unfold Hid;rw[D.out];omega),?_,Js⟩,by simp[intOf];omega⟩;unfold Hid OwnI;rw[Hc.out,xL,P1];exact Ht
  ·obtain rfl:k=i m.segs:=by omega
   have ho:=l.out;rw[P6,show fT m++du m.segs=N from K4.out]at ho;rw[P6,show fT m++du m.segs=N from K4.out]at H3;have KZ:J [] wr:=hJ _ _ _ h0 ⟨p.os,p.tape,p.output,p.size,λk o hk _=>(p.block k (Pd.1 hk).1).trans hk⟩;have l:=O ho;have z:=O KZ;have D:=O H3;have KK:=O (show i N<=1000000 by omega);have hz:=p.size;clear ho KZ p H3;gi_wp2;gi_loopw [7,46] (λ_ t W=>∃k:Nat,k<=i N/\t=C G k/\Hid (J (N.take k) W)/\Hid (W.ownsRow f.heap.size 3 1 (H A' q c') N.length (N.map iv))/\f.heap.size<=W.heap.size) (λ_ t _=>i N-(intOf t).toNat)
   case atStart=>exact⟨0,Pn _,rfl,z,l,hz⟩
   case round=>
    clear z l;obtain⟨k,hk,rfl,z,l,KV⟩:=hrel;have Jy:=D.out;by_cases j:k<i N
    ·obtain⟨JA,b,J8,rfl,KY⟩:=(xW l).at_ (by omega);clear JA;have Kr:=KY k (iv N[k]) (by rw[List.getElem?_map,List.getElem?_eq_getElem j];rfl);have KC:N=N.take k++N[k]::N.drop (k+1):=by rw[<-List.drop_eq_getElem_cons j,List.take_append_drop]
     have y:N.take (k+1)=N.take k++[N[k]]:=P3 j;have hy:=HY (N.take k) N[k] _ KC wr #[C G N[k]] z KV rfl;have Hy:=O hy;have Hc:=O y;have Jn:=O KC;clear hy y KC KY;generalize N[k]=x at *;simp only[iv,Nat.mul_one]at Kr;have Jv:(k:Int)<(q:Int):=by have:=KJ.out;omega
     have Kf:=O j;clear Jy j;gi_wp2;refine ew Hy ?_;rintro e W' ⟨X,⟨rfl,M⟩|⟨rfl,M⟩⟩
     ·refine⟨true,rfl,?_⟩;have Ke:=O M;have Hi:W'.ownsRow f.heap.size 3 1 (H (R ⟨b,J8,U⟩) q c') N.length (N.map iv):=by
       have h:=l.out;refine⟨h.1,?_⟩;rcases h.2 with hn | ⟨g,cap,K6,e,hb,hgg,rest⟩
       ·exact .inl hn
       exact .inr ⟨g,cap,K6,e,hb,X.same _ _ hgg (.inl ⟨rfl,by omega,.inr (by simp[Obj.ty])⟩),rest⟩
      have Jk:=O Hi;have Km:=Pm KV X.size;clear M X Hy Kr Hi;gi_wp2;exact⟨⟨k+1,Kf.out,PU Kf KK,by rw[Hc.out];exact Ke.out,Jk,Km⟩,N7 Kf KK⟩
     refine⟨false,rfl,?_⟩;have Ke:=O M;clear M X Hy Kr;gi_wp2;refine bodyPost_ret (results_none rfl _ _ _) rfl ?_;refine⟨⟨_,rfl⟩,.inr ⟨N.take k++[x],⟨N.drop (k+1),?_⟩,Ke.out⟩⟩;rw[P9];exact Jn.symm
    ·have Jv:¬(k:Int)<(q:Int):=by have:=KJ.out;omega
     have Hr:J N wr:=by
      have:=z.out;rwa[List.take_of_length_le (by omega)]at this
     have Kc:=O Hr;clear Hr;gi_wp2;refine bodyPost_end (results_none rfl _ _ _) rfl ?_;exact⟨⟨_,rfl⟩,.inl Kc⟩
theorem Ah(tmps:Array Value)(W:World)(a b:Value)(h2:tmps.getD 2 undef=a)(h3:tmps.getD 3 undef=b):(results Tryz.f60 tmps).run V W=.ok (.tuple #[a,b]) W:=by
 have c:tmps[2]?.getD undef=a:=by simpa using h2
 have e:tmps[3]?.getD undef=b:=by simpa using h3
 simp[results,results60,c,e]
structure MpI (w:World) (bo base:Nat) (H0:List Int) (X:World):Prop where
 bx:∃ v,Boxed X bo 33 v/\OwnB X base v (77::aF H0)
 e:Ext w X
attribute [local go_sem] Pg in
theorem yG(m:Mf)(v:Value)(w:World)(hS:Sgs w v m.segs)(hT:StW w):
  Calls V 60 #[.agg #[C G m.next,C G m.term,C G m.vote,C G m.sq,C G m.sf,v]] w (Ce w (bj m)):=by
 obtain⟨A,c,rfl,JM,JN⟩:=hS.open_;have Ko:=Blk.new w 30 #[C G m.next,C G m.term,C G m.vote,C G m.sq,C G m.sf,H A m.segs.length c];have hX:Ext w (w.alloc (I #[C G m.next,C G m.term,C G m.vote,C G m.sq,C G m.sf,H A m.segs.length c] 30)):=xA (xR _) _;have ea:=aj Ko;have HS:=O hS;have KO:=F2 m (H A m.segs.length c) _ (hS.ext hX);have t:=O KO;have HT:=O hT;have HX:=O hX;have Hb:=O Ko;clear KO hS hT hX Ko;refine(callsIn_wd (ro:=none) (n:=9)).1 ?_;refine callsIn_of_wp_marks func60 rfl trivial ?_ rfl;simp only[ntmps60,P4,xC,P8,Pl,Pk,Pc,Pb,P5,P2,xI,P7];cases l:aZ m with
 |false=>
  rw[l]at t;have hr:bj m=none:=by unfold bj;rw[l];rfl
  rw[hr];simp only[Bool.false_eq_true,if_false]at t;gi_wp2_with (refine⟨trivial,?_⟩;gi_at_call 117;refine(callsIn_wd.2 t).mono ?_;rintro e b⟨rfl,B⟩)
  exact⟨.tuple #[H none 0 0,C G 2],Ah _ _ _ _ rfl rfl,⟨_,rfl,World.ownsRow_nil _ _ _ _⟩,xT HX B⟩
 |true=>
  rw[l]at t;obtain⟨P,hP⟩:∃P,bh rT (77::aF (cM m))=P:=⟨_,rfl⟩;have hr:bj m=R P:=by unfold bj;rw[l,hP];rfl
  rw[hr];have HP:=O hP;have Kb:=O l;clear hP;simp only[if_true]at t;gi_wp2_with (first
   |(refine⟨trivial,?_⟩;gi_at_call 117;refine(callsIn_wd.2 t).mono ?_;rintro e b⟨rfl,B⟩;have X2:Ext b ((b.alloc (I #[C f 77] 5)).alloc (I #[H (R ⟨b.heap.size,0,U⟩) 1 1] 33)):=xA (xA (xR b) _) _;have eb:=aj (Hb.ext (xT B X2)))
   |(refine⟨trivial,?_⟩;gi_at_call 118;refine(callsIn_wd.2 (Fe m A m.segs.length c _)).mono ?_;rintro e S⟨rfl,Hx⟩))
  have Kp:=Boxed.new (b.alloc (I #[C f 77] 5)) 33 (H (R ⟨b.heap.size,0,U⟩) 1 1);rw[xS]at Kp;have J2:OwnB ((b.alloc (I #[C f 77] 5)).alloc (I #[H (R ⟨b.heap.size,0,U⟩) 1 1] 33)) b.heap.size (H (R ⟨b.heap.size,0,U⟩) 1 1) [77]:=ai (be b ([(77:UInt8)].map bv) 5 1 (xN _)) (xA (xR _) _);have KW:=xT HX (xT B X2);have Hw:((b.alloc (I #[C f 77] 5)).alloc (I #[H (R ⟨b.heap.size,0,U⟩) 1 1] 33)).heap.size=b.heap.size+1+1:=by simp
  generalize(b.alloc (I #[C f 77] 5)).alloc (I #[H (R ⟨b.heap.size,0,U⟩) 1 1] 33)=w2 at *;have Hm:Ext w2 S:=by rw[<-Hx];exact xA (xR _) _
  have K7:Blk S w2.heap.size 30 (mfC m (H A m.segs.length c)):=by rw[<-Hx];exact Blk.new w2 _ _
  rw[Hw]at K7;have h0:MpI w (b.heap.size+1) b.heap.size [] S:=⟨⟨_,Kp.kept (row:=none) (Pe Hm none) (by simp),ai J2 Hm⟩,xT KW Hm⟩;have J6:w.heap.size<=b.heap.size:=by have:=(xT HX B).size;exact this
  have Kw:b.heap.size+1+1<S.heap.size:=K7.lt;clear Hw;obtain⟨_,_,_,Ku,_,h6⟩:=lJ Kb;have He:∀s∈m.segs,-1<=s.count/\s.count<=4:=λs hs=>by
   have:=pP Kb s hs;exact this.2.2
  have Hh:=ym Kb;have Kk:i (cM m)<=1000:=by unfold cM;rw[xL,lE];simp;omega
  have J5:Hid (∀W1,Ext S W1->Seq V 179 #[Z (R ⟨b.heap.size+1+1,0,U⟩)] (λ(x:Int) J _=>J = #[C G x]) (NuK (b.heap.size+1) b.heap.size) (λ_ _=>False) (cM m) W1):=
   λW1 g=>Ds w W1 m (H A m.segs.length c) HS Ku He (xT h0.e g) (b.heap.size+1+1) (b.heap.size+1) b.heap.size (K7.ext g) (by omega) J6 (by omega) (by have:=g.size;omega)
  obtain⟨N,hN⟩:∃N,cM m=N:=⟨_,rfl⟩;rw[hN]at J5 Hh Kk;have K4:=O hN;have Kg:=O Hh;have KL:=O Kk;obtain⟨i0,hi,Hz,HA,HD⟩:=info_parts dC;clear Hx Kp J2 KW He hN Hh Kk K7 h6 X2 t Hb ea eb;refine ru (n:=9) (Rp:=λ(x:Int) J _=>J = #[C G x]) (K:=NuK (b.heap.size+1) b.heap.size) (M:=λ_ _=>False) (xs:=N) (gf:=179) (lb:=#[Z (R ⟨b.heap.size+1+1,0,U⟩)]) (a:=⟨_,_⟩) ?hg ?eg ?hseq ?h1 ?h2 ?h3 (MpI w (b.heap.size+1) b.heap.size) (λ_ _ _=>False) ?hI (λ_ _ _ _ h _=>h) h0
   (λx a' W=>∃(u0 u1 u2 u3 u4 u7 u8 u9 J9 Ja Jb Jc Jd Je Jf HG HH HK HL HQ HR HU HV HW HZ K0 K1:Value),a'=⟨#[u0,u1,u2,u3,u4,Z (R ⟨b.heap.size+1,0,U⟩),C G x,u7,u8,u9,J9,Ja,Jb,Jc,Jd,Je,Jf,HG,HH,HK,HL,HQ,HR,HU,HV,HW,HZ,K0,K1],[]⟩) (λ_ _ _ _ h _=>h) ?assign ?body ?done ?stop
  case hg=>exact rfl
  case eg=>exact enters_of func179 (by kernel_rfl) rfl
  case hseq=>exact λW1 hb hs=>J5.out W1 hb
  case h1=>exact λk o h=>h.elim
  case h2=>exact λk o h r e=>by rw[e]at h;cases h.1
  case h3=>exact λx J W h=>by rw[h];rfl
  case hI=>
   rintro s X Y⟨⟨u,hb,q⟩,g⟩hm;refine⟨⟨u,hm.boxed hb ?_,hm.ownsRow q ?_⟩,hm.belowOf g ?_ (xN _)⟩
   ·rintro(h | h)
    ·exact h
    cases h.2
   ·intro k K6 _;rintro(h | h)
    ·exact h
    cases h.2
   rintro k o hk(h | h)
   ·exact h
   have:=h.1;omega
  case assign=>
   rintro l' H0 x Hj W J K' hx hI KD rfl hK;clear hx;gi_wp2;exact hK _ _ Kept.refl hI ⟨_,_,_,_,_,_,_,_,_,_,_,_,_,_,_,_,_,_,_,_,_,_,_,_,_,_,_,rfl⟩
  case body=>
   rintro l' H0 x Hj a' W hx Jw hr⟨⟨u,hb,q⟩,g⟩KD⟨u0,u1,u2,u3,u4,u7,u8,u9,J9,Ja,Jb,Jc,Jd,Je,Jf,HG,HH,HK,HL,HQ,HR,HU,HV,HW,HZ,K0,K1,rfl⟩;have J7:aG [x]=true:=by
    have:=Kg.out;unfold aG at this⊢;rw[List.all_eq_true]at this;simpa using this x (by rw[hx];simp)
   have JC:i H0<=1000:=by have:=KL.out;rw[hx,xL]at this;omega
   obtain⟨A1,c1,rfl,_,_⟩:=xO (xW q);have KA:=eY H0;have Hv:=eY [x];have Hk:Ext W (W.alloc (I #[C G x] 3)):=xA (xR _) _;have J4:=AQ (H (R ⟨W.heap.size,0,U⟩) 1 1) [x] _ (xW (be W ([x].map iv) 3 1 (xN _))) J7 (by simp);have Jm:=O J4;have y:=O Hk;have HO:=O q;have Ka:=O hb;have K2:=O g;have J3:77::aF (H0++[x])=(77::aF H0)++aF [x]:=by rw[zn];rfl
   have Jl:=O J3;have KH:=O (show i (77::aF H0)<=6000 by simp;omega);have KI:=O (show i (aF [x])<=5 by simpa using Hv);clear hx KA Hv J4 Hk J3 hb q g J7;generalize 77::aF H0=L at *;gi_wp2_with (first
    |(refine⟨trivial,?_⟩;gi_at_call 119;refine(callsIn_wd.2 Jm).mono ?_;rintro e w4⟨vs,rfl,Hi,z⟩;have b4:=Ka.kept (row:=none) (Pe (xT y z) none) (by simp);have JF:=b4.cell;obtain⟨A4,c4,rfl,_,_⟩:=xO (xW Hi))
    |(gi_at_builtin;refine lk _ rfl (.tmp 24) (.tmp 25) 33 rfl b.heap.size 5 i0 _ 1 1 underlying33 hi Hz HA HD rfl (by decide) _ L.length (L.map bv) rfl (ai HO (xT y z)) _ (aF [x]).length ((aF [x]).map bv) rfl (xW Hi) (de _) (by have:=KH.out;have:=KI.out;unfold maxLen;omega) (by have:=KH.out;have:=KI.out;omega) (by have:=(xT y z).size;omega) ?_;intro v5 w5 J1 Kt;obtain⟨A5,c5,rfl,_,_⟩:=xO (xW J1);have Hu:OwnB w4 b.heap.size (H A1 L.length c1) L:=ai HO (xT y z);have KP:Blk w4 (b.heap.size+1) 33 #[H A1 L.length c1]:=b4;have b5:Boxed w5 (b.heap.size+1) 33 (H A1 L.length c1):=KP.kept Kt (KP.not_row (by decide) Hu);have JG:=b5.cell;have JI:=b5.frozen))
   have Kz:=ey (j:=0) b5 (by decide:(33:TypeId)≠5) J1 (H A5 (i L+i (aF [x])) c5);have Jr:Ext w w5:=Pf (xT K2 (xT y z)) (ay Hu J6) Kt;refine⟨((Kept.refl.below (xT y z) (xN _)).grown Kt (λk o ek hk=>?_)).setCell (λo hk _=>?_) _,⟨_,b5.set _,?_⟩,Below.setCell (p:=⟨b.heap.size+1,0,U⟩) Jr (by show w.heap.size<=b.heap.size+1;omega) _⟩
   ·obtain⟨JO,cs,fr,Hp⟩:=fH HO ek;rw[hk]at Hp;cases Hp;rintro(⟨_,_,h | h⟩|⟨_,h⟩)
    ·omega
    ·exact h rfl
    cases h
   ·rintro(⟨_,h,_⟩|⟨h,_⟩)
    ·exact h rfl
    dsimp only at h;omega
   unfold OwnB;rw[Jl.out,xL,P1];exact Kz
  case done=>
   rintro D W hD⟨⟨u,hb,q⟩,g⟩hK;obtain⟨A1,c1,rfl,_,_⟩:=xO (xW q);have cb:=hb.cell;have KA:=eY N;have Ks:=sR (T:=rT) _ (77::aF N) W (xW q) (by simp) (by have:=KL.out;simp;omega) (HT.ext g).tab;have KU:bh rT (77::aF N)=P:=by rw[<-K4.out];exact HP.out
   rw[KU]at Ks;have Jh:=O Ks;have K2:=O g;have K3:=O hK;clear Ks KU KA g hb q hK;gi_wp2_with (refine⟨trivial,?_⟩;gi_at_call 120;refine(callsIn_wd.2 Jh).mono ?_;rintro e w6⟨A6,c6,rfl,Kz,KR⟩)
   have KT:w6.heap[D]?=R (.deferred (some [])):=(KR.block D (Pd.1 K3).1).trans K3.out;refine dh KT (.tuple #[H A6 P.length c6,C G 0]) (Ah _ _ _ _ rfl rfl) ⟨⟨_,rfl,?_⟩,cp (xT K2 KR) _⟩;exact ay (ze Kz KT rfl (.deferred none)) K2.size
  case stop=>
   rintro D cd H0 W _ _ h _;exact h.elim
open Go.RowKit Go.Mv
theorem ya(n:List UInt8):∀fs:List Fil,bu fs (some n)=ak n fs
 |[]=>rfl
 |p::fs=>by rw[DH,ak,ya n fs]
theorem Dd{b:List UInt8}(h:i b<4):bN rT b=none:=by
 unfold bN;rw[if_neg];intro e;have:=congrArg Pa e;rw[lx,List.length_drop]at this;omega
