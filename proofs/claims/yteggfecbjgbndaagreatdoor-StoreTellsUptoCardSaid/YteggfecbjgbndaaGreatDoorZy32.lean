/- Merged -/
import Derived.Test.YteggfecbjgbndaaGreatDoorZy30
import Derived.Test.YteggfecbjgbndaaGreatDoorZy31
import Derived.Lib.ConvBytes
set_option linter.all false
set_option maxHeartbeats 8000000
set_option maxRecDepth 100000
open Go.Proofs.Tryz
open Go.Value renaming slice->G,int->H,string->U,pointer->V
open Go.Mv renaming aN->I
open Go.IntKind renaming i64->J
open Option renaming some->M,none->Z
open Go.Obj renaming cells->O
open Go.Proofs.Tryz renaming prog->R
open List renaming take_succ_eq_append_getElem->P0,mem_append->P1,map_append->P2,mem_singleton->P3,getElem?_append_right->P4,take_length->P5,length_map->P6,getElem?_map->P7,getElem?_eq_getElem->P8,length_filter_le->P9,mem_of_getElem?->Pa,filter_append->Pb,length_take->Pc,length_nil->Pd,append_nil->Pe
open Go.RowKit.Below renaming heap_setCell->Pf,setCell->Pg
open Go.MapKept renaming run_getObj_map->Ph,run_findKey->Pi,run_setObj_map->Pj,run_checkKey->Pk
open Go.Result renaming andThen->Pl
open Go.Sem renaming run_bind->Pm
open Go.Instr renaming lookup->Pn,mapUpdate->Po,checkKey->Pp
open Option renaming getD_some->Pq,isSome_some->Pr,isSome_none->Ps,getD_none->Pu,map_some->Pv
open Nat renaming le_trans->Pw,le_of_eq->Px,add_assoc->Py,zero_add->Pz
namespace Go.Proofs.YteggfecbjgbndaaGreatDoor
open Go.RowKit Go.Mv Go.MapKept Go.ChangeMaps
variable {b c k m n r:Nat} {A:Option Addr} {u v x:Value} {B W w:World}
def SSet(w:World)(r:Nat)(d:TypeDesc)(u:Value)(S:Value->Prop):Prop:=
 ∃es e,w.heap[r]?=M (.map es e)/\Stamped es e/\(∀x∈es.toList,x.val=u/\IsKey d x.key)/\∀k,S k↔∃x∈es.toList,x.key=k
theorem SSet.lt{d:TypeDesc}{S:Value->Prop}(h:SSet w r d u S):r<w.heap.size:=by
 obtain⟨es,c,hb,_⟩:=h;exact(Array.getElem?_eq_some_iff.1 hb).1
theorem SSet.ext{w':World}{d:TypeDesc}{S:Value->Prop}(h:SSet w r d u S)(f:Ext w w'):SSet w' r d u S:=by
 have e:=h.lt;obtain⟨es,c,hb,hs,h1,h2⟩:=h;exact⟨es,c,(f.block r e).trans hb,hs,h1,h2⟩
theorem MT.ext2{A:World}(h:MT A B r)(e:Ext w A)(f:w.heap.size<=r):Ext w B:=⟨h.os.trans e.os,h.tape.trans e.tape,h.output.trans e.output,Pw e.size (Px h.size.symm),λk f=>(h.block k (by omega)).trans (e.block k f)⟩
theorem SSet.new(w:World)(d:TypeDesc)(u:Value):SSet (w.alloc (.map #[] 0)) w.heap.size d u (λ_=>False):=⟨#[],0,heap_alloc_new w _,stamped_empty 0,by simp,by simp⟩
theorem SSet.congr{d:TypeDesc}{S e:Value->Prop}(h:SSet w r d u S)(f:∀k,e k↔S k):SSet w r d u e:=by
 obtain⟨es,c,hb,hs,h1,h2⟩:=h;exact⟨es,c,hb,hs,h1,λk=>(f k).trans (h2 k)⟩
section
variable {P:Program} {T K E:TypeId} {d:TypeDesc}
theorem SSet.lookup{S:Value->Prop}(h:SSet w r d u S)(p:P.underlying T=M (.map K E))(i:P.underlying K=M d){k:Value}(f:IsKey d k){z:Value}(y:(zeroValue E).run P w=.ok z w):
  (S k/\(Pn T (.map (some r)) k false).run P w=.ok u w)\/(¬S k/\(Pn T (.map (some r)) k false).run P w=.ok z w):=by
 obtain⟨es,c,hb,hs,h1,h2⟩:=h;have l:∀e,(Pp e 10000 K k).run P w=.ok () w:=λe=>Pk i f e 9999;rcases findNow_spec (d:=d) f es.toList 0 (λx hx=>(h1 x hx).2)with⟨f,g⟩|⟨j,e,f,g,s⟩
 ·refine .inr ⟨λt=>?_,?_⟩
  ·obtain⟨x,hx,q⟩:=(h2 k).1 t;exact g x hx q
  unfold Pn;simp[Pm,run_underlying p,Ph hb,l,Pi i f,y,go_sem]
 ·have hm:e∈es.toList:=Pa g;refine .inl ⟨(h2 k).2 ⟨e,hm,s⟩,?_⟩;unfold Pn;simp[Pm,run_underlying p,Ph hb,l,Pi i f,(h1 e hm).1,go_sem]
theorem SSet.update{S:Value->Prop}(h:SSet w r d u S)(C:P.underlying T=M (.map K E))(q:P.underlying K=M d){k:Value}(l:IsKey d k):
  ∃w',(Po T (.map (some r)) k u).run P w=.ok () w'/\SSet w' r d u (λx=>S x\/x=k)/\MT w w' r:=by
 obtain⟨es,c,hb,hs,h1,h2⟩:=h;have t:∀e,(Pp e 10000 K k).run P w=.ok () w:=λe=>Pk q l e 9999;rcases findNow_spec (d:=d) l es.toList 0 (λx hx=>(h1 x hx).2)with⟨p,g⟩|⟨j,e,p,g,z⟩
 ·refine⟨setBlock w r (.map (es.push { key:=k,val:=u,born:=c }) (c+1)),?_,⟨_,_,(heap_set hb).1,stamped_push hs g,λx hx=>?_,λx=>?_⟩,lT hb⟩
  ·unfold Po;simp only[Pm,run_underlying C,Pl,Ph hb,t,Pi q p,Pj _ hb];rfl
  ·rw[Array.toList_push]at hx;rcases P1.1 hx with hx | hx
   ·exact h1 x hx
   rw[P3]at hx;subst hx;exact⟨rfl,l⟩
  show(S x\/x=k)↔_;rw[Array.toList_push,h2];constructor
  ·rintro(⟨y,f,rfl⟩| rfl)
   ·exact⟨y,P1.2 (.inl f),rfl⟩
   exact⟨_,P1.2 (.inr (P3.2 rfl)),rfl⟩
  rintro⟨y,f,rfl⟩;rcases P1.1 f with f | f
  ·exact .inl ⟨y,f,rfl⟩
  rw[P3]at f;subst f;exact .inr rfl
 ·have D:es[j]?=M e:=by simpa using g
  have hm:e∈es.toList:=Pa g;have G:(es.modify j λe=>{ e with key:=k,val:=u })=es:=by
   apply Array.ext_getElem?;intro i;rw[Array.getElem?_modify];split
   ·rename_i s;subst s;rw[D,Pv];congr 1
    have:=(h1 e hm).1;cases e;simp_all
   rfl
  refine⟨setBlock w r (.map es c),?_,⟨_,_,(heap_set hb).1,hs,h1,λx=>?_⟩,lT hb⟩
  ·unfold Po;simp only[Pm,run_underlying C,Pl,Ph hb,t,Pi q p,Pz,D,Pv,Pq,z,run_keyThatStays l,Pj _ hb,G];rfl
  ·show(S x\/x=k)↔_;rw[h2];constructor
   ·rintro(h | rfl)
    ·exact h
    exact⟨e,hm,z⟩
   ·exact .inl
variable {w:World} {ops:Array Oper} {rest:List Oper} {o:Oper} {a:Act} {Q:Exit->Act->World->Prop}
end
open Go.RowKit Go.Mv Go.Shelf Go.MapKept
section
variable {P:Program} {T K E:TypeId} {d:TypeDesc} {F:Fence} {nF:Nat} {w:World} {ops:Array Oper} {rest:List Oper} {o:Oper} {a:Act} {Q:Exit->Act->World->Prop}
theorem sU(hg:o.guard=none)(m x:Operand)(e:o.op=Op.lookup T m x false)(l:P.underlying T=M (.map K E))(j:P.underlying K=M d)(q:(zeroValue E).run P w=.ok (H J 0) w)(r:Nat)(S:Value->Prop)(hm:a.eval m=.map (some r))(i:SSet w r d (H J 1) S)(k:Value)(hx:a.eval x=k)(p:IsKey d k)(h:∀n:Int,((S k/\n=1)\/(¬S k/\n=0))->wpListIn F nF P ops Q rest (a.put o.dst (H J n)) w):wpListIn F nF P ops Q (o::rest) a w:=by
 refine wpListIn_plain hg λs g=>?_;unfold Oper.wpIn;refine⟨by simp[Oper.about,e],?_⟩;rw[Oper.semAt_plain F _ _ (by rw[e];intro c f;cases f)];rcases i.lookup l j p q with⟨h1,f⟩|⟨h1,f⟩
 ·simp[execOp,e,hm,hx,f,Pl];exact g _ _ (h 1 (.inl ⟨h1,rfl⟩))
 ·simp[execOp,e,hm,hx,f,Pl];exact g _ _ (h 0 (.inr ⟨h1,rfl⟩))
theorem Cx(hg:o.guard=none)(m x v:Operand)(e:o.op=Op.mapUpdate T m x v)(p:P.underlying T=M (.map K E))(l:P.underlying K=M d)(r:Nat)(S:Value->Prop)(u:Value)(hm:a.eval m=.map (some r))(j:SSet w r d u S)(k:Value)(hx:a.eval x=k)(q:IsKey d k)(s:a.eval v=u)(h:∀w',SSet w' r d u (λx=>S x\/x=k)->MT w w' r->wpListIn F nF P ops Q rest (a.put o.dst undef) w'):wpListIn F nF P ops Q (o::rest) a w:=by
 refine wpListIn_plain hg λt f=>?_;obtain⟨w',g,h1,h2⟩:=j.update p l q;unfold Oper.wpIn;refine⟨by simp[Oper.about,e],?_⟩;rw[Oper.semAt_plain F _ _ (by rw[e];intro c i;cases i)];simp[execOp,e,hm,hx,s,g,Pl];exact f _ _ (h w' h1 h2)
end
theorem SSet.moves{A:World}{d:TypeDesc}{S:Value->Prop}(h:SSet A r d u S)(hm:Moves (am (λ_ _=>False) n) A B)(e:r<n):SSet B r d u S:=by
 obtain⟨es,c,hb,h1⟩:=h;refine⟨es,c,hm.same _ _ hb ?_,h1⟩;rintro(h | ⟨h,_⟩)
 ·exact h
 ·omega
theorem SSet.same{A:World}{d:TypeDesc}{S:Value->Prop}(h:SSet A r d u S)(e:B.heap[r]?=A.heap[r]?):SSet B r d u S:=by
 obtain⟨es,c,hb,h1⟩:=h;exact⟨es,c,e.trans hb,h1⟩
theorem SSet.other{d:TypeDesc}{S:Value->Prop}(h:SSet W r d u S){a:Addr}(e:r≠a.block):SSet (W.setCell a x) r d u S:=by
 obtain⟨es,c,hb,h1⟩:=h;exact⟨es,c,(Pf W a x r e).trans hb,h1⟩
def aA(e:List (Int×Int×Int)):List (List UInt8):=e.filterMap λx=>aE x.1 x.2.1 x.2.2
theorem ye(e:List (Int×Int×Int))(x:Int×Int×Int):aA (e++[x])=aA e++(aE x.1 x.2.1 x.2.2).toList:=by
 unfold aA;rw[List.filterMap_append];cases h:aE x.1 x.2.1 x.2.2<;>simp[h]
def KS(L:List (List UInt8))(u:Value):Prop:=∃n∈L,u=sv n
theorem BQ(w:World):(zeroValue 3).run R w=.ok (H J 0) w:=by kernel_rfl
theorem qf(f:List (Int×Int×Int))(h:k<f.length):(bH f)[k*3]?=M (H .u8 f[k].1)/\(bH f)[k*3+1]?=M (H J f[k].2.1)/\(bH f)[k*3+2]?=M (H J f[k].2.2):=by
 induction f generalizing k with
 |nil=>simp at h
 |cons x f ih=>
  have e:bH (x::f)=idC x++bH f:=rfl;rw[e];cases k with
  |zero=>exact⟨rfl,rfl,rfl⟩
  |succ k=>
   have f:=ih (k:=k) (by simpa using h);have hl:(idC x).length=3:=rfl;refine⟨?_,?_,?_⟩
   ·rw[P4 (by rw[hl];omega),hl,show(k+1)*3-3=k*3 by omega];exact f.1
   ·rw[P4 (by rw[hl];omega),hl,show(k+1)*3+1-3=k*3+1 by omega];exact f.2.1
   ·rw[P4 (by rw[hl];omega),hl,show(k+1)*3+2-3=k*3+2 by omega];exact f.2.2
structure ReI (w:World) (L:List (List UInt8)) (W:World):Prop where
 bx:Boxed W w.heap.size 102 (G none 0 0)
 mp:SSet W (w.heap.size+1) .string (H J 1) (KS L)
 bm:Boxed W (w.heap.size+1+1) 156 (.map (some (w.heap.size+1)))
 e:Ext w W
theorem ReI.ext{W':World}{L:List (List UInt8)}(h:ReI w L W)(f:Ext W W'):ReI w L W':=⟨h.bx.kept (row:=none) (Ext.grown f none) (by simp),h.mp.ext f,h.bm.kept (row:=none) (Ext.grown f none) (by simp),xT h.e f⟩
theorem OZ{S:Prop}{n:Int}(h:(S/\n=1)\/(¬S/\n=0))(hs:S):n=1:=by
 rcases h with⟨_,h⟩|⟨h,_⟩
 ·exact h
 ·exact absurd hs h
theorem NR{S:Prop}{n:Int}(h:(S/\n=1)\/(¬S/\n=0))(hs:¬S):n=0:=by
 rcases h with⟨h,_⟩|⟨_,h⟩
 ·exact absurd h hs
 ·exact h
def dR(e:List (Int×Int×Int))(H3:List (Nat×List UInt8)):List (List UInt8):=(H3.map (·.2)).filter λn=>!decide (n∈aA e)
theorem I6(e:List (Int×Int×Int))(H3:List (Nat×List UInt8))(j:Nat)(x:List UInt8):dR e (H3++[(j,x)])=if x∈aA e then dR e H3 else dR e H3++[x]:=by
 unfold dR;rw[P2,Pb];by_cases h:x∈aA e<;>simp[h]
theorem zS:∀(fs:List Fil) (k:Nat),(nmP k fs).map (·.2)=fs.map (·.1)
 |[],_=>rfl
 | p::fs,k=>by
  show _::(nmP (k+1) fs).map (·.2)=_;rw[zS fs (k+1)];rfl
theorem Lh(e:List (Int×Int×Int))(fs:List Fil):dR e (nmP 0 fs)=bG fs (aA e):=by
 unfold dR bG;rw[zS]
theorem Nl(tmps:Array Value)(W:World)(b:Nat)(A:Option Addr)(n c:Nat)(h4:tmps.getD 4 undef=V (M ⟨b,0,Z⟩))(hc:W.cell? ⟨b,0,Z⟩=M (G A n c)):(results Tryz.f58 tmps).run R W=.ok (G A n c) W:=by
 have e:tmps[4]?.getD undef=V (M ⟨b,0,Z⟩):=by simpa using h4
 simp[results,results58,e,hc,go_sem]
structure RrI (w:World) (ks:List (Int×Int×Int)) (n0:Nat) (H3:List (Nat×List UInt8)) (X:World):Prop where
 bx:∃ A c,Boxed X w.heap.size 102 (G A (dR ks H3).length c)/\X.ownsRow n0 9 1 (G A (dR ks H3).length c) (dR ks H3).length ((dR ks H3).map sv)
 mp:SSet X (w.heap.size+1) .string (H J 1) (KS (aA ks))
 bm:Boxed X (w.heap.size+1+1) 156 (.map (some (w.heap.size+1)))
 e:Ext w X
theorem fH{base f g:Nat}{e:TypeId}{xs:List Value}(h:W.ownsRow base e f v m xs)(hg:v.ownBlock=M g):base<=g/\∃cs fr,W.heap[g]?=M (O cs e fr):=by
 rcases h.2 with⟨rfl,_⟩|⟨f,f,f,rfl,hb,i,_⟩
 ·cases hg
 ·cases hg;exact⟨hb,_,_,i⟩
attribute [local go_sem] Oper.semAt_some in
theorem IG(v:Value)(fs:List Fil)(vk:Value)(f:List (Int×Int×Int))(w:World)(hS:StW w)(hF:Fs w v fs)(S:SlR w 3 vk f.length (bH f))(hl:fs.length<=1000000)(J5:f.length<=1000000):
  Calls R 58 #[v,vk] w λe w'=>∃A c,e=.returned (G A (bG fs (aA f)).length c)/\w'.ownsRow w.heap.size 9 1 (G A (bG fs (aA f)).length c) (bG fs (aA f)).length ((bG fs (aA f)).map sv)/\Ext w w':=by
 obtain⟨A,c,rfl,_,_⟩:=Fs.open_ hF;obtain⟨B,e2,rfl,_,_⟩:=xO S;have HS:=I hS;have HF:=I hF;have Hr:=I S;refine(callsIn_wd (ro:=none) (n:=9)).1 ?_;refine callsIn_of_wp_marks func58 rfl trivial ?_ rfl;simp only[ntmps58,List.size_toArray,xC,Pd,Nat.reduceAdd,Nat.reduceSub,Array.replicate_succ,Array.replicate_zero,List.push_toArray,List.append_toArray,xI,List.cons_append];have J8:=@run_makeMap R;gi_wp2;obtain⟨W0,Hh⟩:∃W0,((w.alloc (O #[G none 0 0] 102)).alloc (.map #[] 0)).alloc (O #[.map (some (w.heap.size+1))] 156)=W0:=⟨_,rfl⟩;have h0:ReI w [] W0:=by
  rw[<-Hh];have a1:=Boxed.new w 102 (G none 0 0);have a2:=SSet.new (w.alloc (O #[G none 0 0] 102)) .string (H J 1);have a3:=Boxed.new ((w.alloc (O #[G none 0 0] 102)).alloc (.map #[] 0)) 156 (.map (some (w.heap.size+1)));rw[xS]at a2;rw[xS,xS]at a3;exact⟨(a1.alloc _).alloc _,(a2.ext (xA (xR _) _)).congr (λk=>by simp[KS]),a3,xA (xA (xA (xR _) _) _) _⟩
 have t:=I h0;rw[Hh];gi_loopw [15] (λj W=>∃k:Nat,j=H J k/\k<=f.length/\Hid (ReI w (aA (f.take k)) W)) (λj _=>f.length+1-(intOf j).toNat)
 case atStart=>exact⟨0,rfl,by omega,t⟩
 case round=>
  obtain⟨k,rfl,Kf,t⟩:=hrel;by_cases He:k<f.length
  ·obtain⟨_,b,Hc,rfl,hc⟩:=(SlR.ext Hr t.e).at_ (by omega);obtain⟨x0,x1,x2⟩:=qf f He;have c0:=hc _ _ x0;have g:=hc _ _ x1;have c2:=hc _ _ x2;have HG:aA (f.take (k+1))=aA (f.take k)++(aE f[k].1 f[k].2.1 f[k].2.2).toList:=by rw[P0 He,ye]
   rw[<-Py]at g c2;generalize f[k]=x at *;obtain⟨xk,xs,xf⟩:=x;dsimp only at *;have Ht:=I HG;have K9:Ext wr (wr.alloc (O #[H .u8 xk,H J xs,H J xf] 32)):=xA (xR _) _;have y:=I (lG xk xs xf _ ((HS.ext t.e).ext K9));have Kt:=I K9;obtain⟨X,HA⟩:∃X,aE xk xs xf=X:=⟨_,rfl⟩;rw[HA]at y Ht;cases X with
   |none=>
    unfold ph at y;simp only[Pu,Ps,Bool.false_eq_true,if_false,sv]at y;gi_wp2_with (refine⟨trivial,?_⟩;gi_at_call 50;refine(callsIn_wd.2 y.out).mono ?_;rintro e w1⟨rfl,Y⟩)
    have D:=xT Kt Y;refine⟨⟨k+1,by go_num,by omega,I ?_⟩,by simp[intOf];omega⟩;rw[Ht.out];simp only[Option.toList_none,Pe];exact t.ext D
   |some X=>
    unfold ph at y;simp only[Pq,Pr,if_true,sv]at y;gi_wp2_with (first
     |(refine⟨trivial,?_⟩;gi_at_call 50;refine(callsIn_wd.2 y.out).mono ?_;rintro e w1⟨rfl,Y⟩;have y:=t.ext (xT Kt Y);have cb:=y.bm.cell)
     |(gi_at_mapUpdate;refine Cx rfl (.tmp 26) (.tmp 27) (.const (H J 1)) rfl underlying156 underlying9 (w.heap.size+1) _ (H J 1) rfl y.mp (sv X) rfl trivial rfl ?_;intro Y Ja Y))
    refine⟨⟨k+1,by go_num,by omega,I ?_⟩,by simp[intOf];omega⟩;rw[Ht.out];refine⟨(Y.block _ (by omega)).trans y.bx,Ja.congr (λu=>?_),(Y.block _ (by omega)).trans y.bm,Y.ext2 y.e (by omega)⟩;simp only[KS,Option.toList_some,P1,P3];constructor
    ·rintro⟨n,hn | rfl,rfl⟩
     ·exact .inl ⟨n,hn,rfl⟩
     exact .inr rfl
    rintro(⟨n,hn,rfl⟩| rfl)
    ·exact⟨n,.inl hn,rfl⟩
    exact⟨X,.inr rfl,rfl⟩
  ·obtain rfl:k=f.length:=by omega
   have y:=t.out;rw[P5]at y;have t:=I y;gi_wp2_with (refine⟨trivial,?_⟩;gi_at_call 116;refine(callsIn_wd.2 (yC _ _ _ _)).mono ?_;rintro e w' ⟨rfl,rfl⟩)
   have X:=Boxed.new wr 22 (G A fs.length c);have Y:Ext wr (wr.alloc (O #[G A fs.length c] 22)):=xA (xR _) _;have y:=t.ext Y;have Y:wr.heap.size<(wr.alloc (O #[G A fs.length c] 22)).heap.size:=X.lt;have Y:w.heap.size+2<wr.heap.size:=t.bm.lt;generalize wr.alloc (O #[G A fs.length c] 22)=w3 at *;have h0:RrI w f w3.heap.size [] w3:=⟨⟨none,0,y.bx,by simp[dR],.inl ⟨rfl,rfl⟩⟩,y.mp,y.bm,y.e⟩;obtain⟨i0,hi,HH,HJ,HK⟩:=info_parts rS;refine dV (a:=⟨_,_⟩) rfl (enters_of func176 (by kernel_rfl) rfl)
    (λW1 hb hs=>tz (λk o=>o.isCells=true/\k≠w.heap.size/\k<w3.heap.size) w W1 _ fs HF (by omega) (λq u t=>Ext.cell (xT y.e hb) t) wr.heap.size (X.kept (row:=none) (Ext.grown hb none) (by simp)) (λo l=>⟨l,by omega,by omega⟩) (λk o hk l=>⟨l,by omega,by omega⟩))
    (λk o h=>h.elim) (λk o h=>h.1) (λx av W h=>by rw[h];rfl)
    (RrI w f w3.heap.size) (λ_ _ _=>False) ?hI (λ_ _ _ _ h _=>h) h0
    (λx a' W=>∃u7 u8 u9 KB KC KD KE KF KH KI KJ KK KL KM KN:Value,a'=⟨#[G A fs.length c,G B f.length e2,undef,undef,V (M ⟨w.heap.size,0,Z⟩),V (M ⟨w.heap.size+1+1,0,Z⟩),undef,u7,u8,u9,undef,sv x.2,.map (some (w.heap.size+1)),G B f.length e2,H J f.length,H J f.length,.bool false,KB,KC,KD,KE,KF,KH,KI,KJ,KK,KL,KM,KN,G A fs.length c,.func (.func 176) #[] #[V (M ⟨wr.heap.size,0,Z⟩)],H J x.1,sv x.2,undef,undef,undef,undef,undef,undef,undef,undef,undef],[]⟩)
    (λ_ _ _ _ h _=>h) ?assign ?body ?done ?stop
   case hI=>
    rintro s X Y⟨⟨i,g,hb,l⟩,Hm,Hl,L⟩hm;refine⟨⟨i,g,hm.boxed hb ?_,hm.ownsRow l ?_⟩,Hm.moves hm (by omega),hm.boxed Hl ?_,hm.belowOf L ?_ (by omega)⟩
    ·rintro(h | h)
     ·exact h
     cases h.2
    ·intro k t _;rintro(h | h)
     ·exact h
     cases h.2
    ·rintro(h | h)
     ·exact h
     cases h.2
    rintro k o hk(h | h)
    ·exact h
    have:=h.1;omega
   case assign=>
    rintro l' H3 x Km W av t hx hi Jb rfl S;simp only[sv]at *;gi_wp2;exact S _ _ Kept.refl hi ⟨_,_,_,_,_,_,_,_,_,_,_,_,_,_,_,rfl⟩
   case body=>
    rintro l' H3⟨j,x⟩Km a' W hx t t⟨⟨i,g,hb,l⟩,Hm,Hl,L⟩Jb⟨u7,u8,u9,KB,KC,KD,KE,KF,KH,KI,KJ,KK,KL,KM,KN,rfl⟩;dsimp only at *;have cb:=hb.cell;have fb:=hb.frozen;have t:=Hl.cell;have t:(dR f H3).length+1<=1000001:=by
     have h9:=congrArg List.length hx;rw[xL,xC,BI]at h9;have:(dR f H3).length<=H3.length:=by unfold dR;exact Pw (P9 _ _) (Px (P6 _))
     omega
    have H1:=I6 f H3 j x;by_cases he:x∈aA f
    ·rw[if_pos he]at H1;have Hy:KS (aA f) (sv x):=⟨x,he,rfl⟩;have HQ:=I H1;have z:=I Hm;have K3:=I Hy;simp only[sv]at *;gi_wp2_with (gi_at_lookup;refine sU rfl (.tmp 33) (.tmp 34) rfl underlying156 underlying9 (BQ _) (w.heap.size+1) _ rfl z (sv x) rfl trivial ?_;intro n hn;have hn:=OZ hn K3.out;subst hn)
     refine⟨Kept.refl,?_⟩;refine⟨?_,z.out,Hl,L⟩;rw[HQ.out];exact⟨i,g,hb,l⟩
    rw[if_neg he]at H1;have Hy:¬KS (aA f) (sv x):=by
     rintro⟨n,hn,h9⟩;exact he (Cb h9▸hn)
    have HQ:=I H1;have z:=I Hm;have K3:=I Hy;have C:=I l;have KQ:=I hb;have KP:=I Hl;have HE:=I L;generalize t:dR f H3=N at *;simp only[sv]at *;have D:Ext W (W.alloc (O #[sv x] 9)):=xA (xR _) _;gi_wp2_with (first
     |(gi_at_lookup;refine sU rfl (.tmp 33) (.tmp 34) rfl underlying156 underlying9 (BQ _) (w.heap.size+1) _ rfl z (sv x) rfl trivial ?_;intro n hn;have hn:=NR hn K3.out;subst hn)
     |(gi_at_builtin;refine lk _ rfl (.tmp 37) (.tmp 39) 102 rfl w3.heap.size 9 i0 _ 1 16 underlying102 hi HH HJ HK rfl (by decide) _ N.length (N.map sv) rfl (ai C D) _ 1 [sv x] rfl (fu W [sv x] 9 1 rfl) (sr [x]) (by unfold maxLen;omega) (by omega) (by simp;omega) ?_;intro t W3 Hf Hg;obtain⟨A3,c3,rfl,_,_⟩:=xO (xW Hf);have b3:=((KQ.alloc (O #[sv x] 9)).kept Hg (λe=>by have:=(fH C e.symm).1;omega));have t:=b3.cell;have t:=b3.frozen))
    have J9:=ey (j:=0) b3 (by decide:(102:TypeId)≠9) Hf (G A3 (N.length+1) c3);have y:Ext w W3:=Ext.grownOwn (xT HE D) (ay (ai C D) (by omega)) Hg;have t:w.heap.size+1<(W.alloc (O #[U ⟨x.toArray⟩] 9)).heap.size:=by rw[xS];have:=z.lt;omega
    have Hz:∀k,k<w3.heap.size->some k≠(Value.slice i N.length g).ownBlock:=λk hk e=>by have:=(fH C e.symm).1;omega
    have X:SSet (W3.setCell ⟨w.heap.size,0,Z⟩ (G A3 (N.length+1) c3)) (w.heap.size+1) .string (H J 1) (KS (aA f)):=
     SSet.other (SSet.same (SSet.ext z D) (Hg.block _ t (Hz _ (by omega)))) (by simp)
    refine⟨((Kept.refl.alloc _).grown Hg (λk o t hk=>?_)).setCell (λo hk _=>?_) _,⟨A3,c3,?_,?_⟩,X,?_,Pg (p:=⟨w.heap.size,0,Z⟩) y (xN _) _⟩
    ·have:=(fH C t).1;rintro(⟨_,_,h⟩|⟨_,h⟩)
     ·omega
     obtain⟨_,cs,fr,Kx⟩:=fH C t;rw[hk]at Kx;cases Kx;cases h
    ·rintro(⟨_,h,_⟩|⟨h,_⟩)
     ·exact h rfl
     dsimp only at h;omega
    ·rw[HQ.out,xL];exact b3.set _
    ·rw[HQ.out,xL,P2];exact J9
    exact Blk.other ((KP.alloc _).kept Hg (Hz _ (by omega))) (by omega:w.heap.size+1+1≠w.heap.size) 0 _
   case done=>
    rintro D W hD⟨⟨i,g,hb,l⟩,Hm,Hl,L⟩S;have hc:=hb.cell;have hf:=hb.frozen;have Kb:dR f (nmP 0 fs)=bG fs (aA f):=Lh f fs;rw[Kb]at hb l hc;gi_wp2;have t:=dK S rfl ⟨w.heap.size,0,Z⟩ (G i (bG fs (aA f)).length g);have z:=fL (hb.set (G i (bG fs (aA f)).length g)).cell t rfl (.deferred none);have y:=ey (j:=0) hb (by decide:(102:TypeId)≠9) l (G i (bG fs (aA f)).length g);have l:w.heap.size<=w3.heap.size:=by omega
    refine dh t (G i (bG fs (aA f)).length g) (Nl _ _ _ i _ g rfl z) ⟨i,g,rfl,ay (ze y t rfl (.deferred none)) l,?_⟩;exact cp (Pg (p:=⟨w.heap.size,0,Z⟩) L (xN _) _) _
   case stop=>
    rintro D f H3 W _ _ h _;exact h.elim
open Go.RowKit Go.Mv
theorem IW{m:Mf}{b:List UInt8}(hb:bj m=M b):aZ m=true:=by
 unfold bj at hb;split at hb
 ·assumption
 ·cases hb
open Go.RowKit Go.Mv Go.Shelf
theorem ng{B:Option Addr}{e:Nat}{q f:Int}{d:Bool}(h:(ap A n c B m e q f d)[k]?=M u):(∃x,u=H J x)\/(∃A n c,u=G A n c)\/∃b,u=.bool b:=by
 match k,h with
 |0,h | 1,h=>exact .inr (.inl ⟨_,_,_,by injection h with h;exact h.symm⟩)
 |2,h | 3,h=>exact .inl ⟨_,by injection h with h;exact h.symm⟩
 |4,h=>exact .inr (.inr ⟨_,by injection h with h;exact h.symm⟩)
 |k+5,h=>simp[ap]at h
theorem nR{p:Addr}(h:W.cell? p=M u)(e:p.block≠b)(a' g f i j:Value):(aK W b a' g f i j).cell? p=M u:=by
 have l:(aK W b a' g f i j).heap[p.block]?=W.heap[p.block]?:=by
  unfold aK;rw[Pf _ _ _ _ e,Pf _ _ _ _ e,Pf _ _ _ _ e,Pf _ _ _ _ e,Pf _ _ _ _ e]
 unfold World.cell? at h⊢;rw[l];exact h
theorem Fs.setBox{t:TypeId}{B:Option Addr}{e:Nat}{q f:Int}{d:Bool}(hb:Blk W b t (ap A n c B m e q f d)){fs:List Fil}(h:Fs W v fs)(a' G D H I:Value):Fs (aK W b a' G D H I) v fs:=by
 obtain⟨D,h1,h2⟩:=h;refine⟨D,?_,λi C=>?_⟩
 ·obtain⟨hl,A',c',rfl,s,Ke,hc⟩:=h1;refine⟨hl,A',c',rfl,s,Ke,λl=>?_⟩;obtain⟨y,p,rfl,g⟩:=hc l;refine⟨y,p,rfl,λj u z=>nR (g j u z) ?_ _ _ _ _ _⟩;rintro rfl;rcases ng (nv hb (g 0 _ (h2 0 l).1))with⟨x,hx⟩|⟨_,_,_,hx⟩|⟨_,hx⟩<;>cases hx
 ·obtain⟨h3,u,h4,h5⟩:=h2 i C;refine⟨h3,u,h4,?_⟩;obtain⟨hl,A',c',rfl,s,Ke,hc⟩:=h5;refine⟨hl,A',c',rfl,s,Ke,λl=>?_⟩;obtain⟨y,p,rfl,g⟩:=hc l;refine⟨y,p,rfl,λj u z=>nR (g j u z) ?_ _ _ _ _ _⟩;rintro rfl;rcases ng (nv hb (g 0 _ (by rw[P7,P8 l];rfl)))with⟨x,hx⟩|⟨_,_,_,hx⟩|⟨_,hx⟩<;>cases hx
theorem Bs.setSl{p:Addr}{bs:List UInt8}(i:W.cell? p=M (G A n c))(h:Bs W v bs):Bs (W.setCell p x) v bs:=by
 obtain⟨hl,A',c',rfl,h1,h2,h3⟩:=h;refine⟨hl,A',c',rfl,h1,h2,λhn=>?_⟩;obtain⟨b,g,rfl,hc⟩:=h3 hn;refine⟨b,g,rfl,λj u f=>?_⟩;have g:=hc j u f;rw[World.cell?_setCell_other]
 ·exact g
 ·intro e;rw[e,g]at i;rw[P7]at f;obtain⟨y,_,rfl⟩:=Option.map_eq_some_iff.1 f;cases i
theorem OwnQ.setSl{base j:Nat}{l:List Oq}(t:W.cell? ⟨b,j,Z⟩=M (G A n c))(hb:b<base)(h:OwnQ W base v l):OwnQ (W.setCell ⟨b,j,Z⟩ x) base v l:=by
 obtain⟨xs,h1,h2,h3⟩:=h;refine⟨xs,h1.kept (ar _ b j x) (.inr (λe=>by have:=(h1.lt _ e).1;omega)),⟨h2.1,λk s=>?_⟩,h3⟩;obtain⟨f,g,i,u,p,q⟩:=h2.2 k s;exact⟨f,g,i,u,p,Bs.setSl t q⟩
theorem Ma(tmps:Array Value)(W:World)(b:Nat)(cs:Array Value)(e:Value)(h4:tmps.getD 4 undef=V (M ⟨b,0,Z⟩))(h3:tmps.getD 5 undef=e)(hb:Blk W b 25 cs)(hs:cs.size=5):(results Tryz.f20 tmps).run R W=.ok (.tuple #[.agg cs,e]) W:=by
 have g:tmps[4]?.getD undef=V (M ⟨b,0,Z⟩):=by simpa using h4
 have f:tmps[5]?.getD undef=e:=by simpa using h3
 have hl:=hb.load (P:=R) em rfl (by rw[hs];kernel_rfl);simp[results,results20,g,f,asAddr,hl,Pm,Sem.run_pure,Result.andThen_ok]
theorem yF(e:List (List UInt8)):aL (e.map cE)=0:=by
 induction e with
 |nil=>rfl
 |cons n e ih=>rw[List.map_cons,eH,ih];rfl
theorem oL(l:List Fil)(e:List (List UInt8)):(bG l e).length<=l.length:=by
 unfold bG;exact Pw (P9 _ _) (Px (P6 _))
theorem td(v:Value)(d:Dk)(n:Nat)(i:Value)(f:List (Int×Int×Int))(w:World)(hS:StW w)(hD:DkV w v d)(hs:Sz n d)(hK:SlR w 3 i f.length (bH f))(Kf:f.length<=1000000)(L:n+n<=1000000):
  Calls R 20 #[v,i] w λe w'=>∃u,e=.returned (.tuple #[u,H J (eQ d (aA f)).2])/\OwnD w' w.heap.size u (eQ d (aA f)).1/\Ext w w':=by
 obtain⟨i,i,rfl,hF,hQ⟩:=hD;obtain⟨A,c,rfl,_,_⟩:=Fs.open_ hF;obtain⟨B,e2,rfl,_,_⟩:=Qs.open_ hQ;obtain⟨C,i,rfl,_,_⟩:=xO hK;obtain⟨j,z⟩:∃j,(w.alloc (O #[G A d.fs.length c,G B d.q.length e2,H J d.quota,H J d.fuse,.bool d.dead] 25)).alloc (O #[G none 0 0,G none 0 0,H J 0,H J 0,.bool false] 25)=j:=⟨_,rfl⟩;have i:Ext w j:=by rw[<-z];exact xA (xA (xR _) _) _
 have h0:Blk j w.heap.size 25 (ap A d.fs.length c B d.q.length e2 d.quota d.fuse d.dead):=by rw[<-z];exact(Blk.new w _ _).alloc _
 have h2:Blk j (w.heap.size+1) 25 (ap none 0 0 none 0 0 0 0 false):=by
  rw[<-z];have:=Blk.new (w.alloc (O #[G A d.fs.length c,G B d.q.length e2,H J d.quota,H J d.fuse,.bool d.dead] 25)) 25 #[G none 0 0,G none 0 0,H J 0,H J 0,.bool false];rwa[xS]at this
 have Ko:=I i;have H0:=I h0;have H2:=I h2;have HD:=I (show DkV j (.agg #[G A d.fs.length c,G B d.q.length e2,H J d.quota,H J d.fuse,.bool d.dead]) d from⟨_,_,rfl,hF.ext i,hQ.ext i⟩);have KY:=I (hS.ext i);have Hr:=I (SlR.ext hK i);obtain⟨S,V,X,Y,Z⟩:=ae h0;have HZ:=I hs;have Kr:=I L;have KR:=I Kf;have Kz:=fR d;have Kk:=oL d.now (aA f);have Je:=hs.l;obtain⟨T,j⟩:∃T,eQ d (aA f)=T:=⟨_,rfl⟩;rw[j];unfold eQ at j;have HT:=I j;have KT:=I (show d.now.length<=1000000 by omega);have KU:=I (show(bG d.now (aA f)).length<=n by omega);clear h0 h2 hF hQ i hs hS hK L Kf Kz Kk Je j;obtain⟨i0,hi,HH,HJ,HK⟩:=info_parts mR;go_enter func20,ntmps20
 go_wp2_with fail
 refine(sD _ d n _ HD (by have:=Kr.out;omega) HZ.out).mono ?_;rintro e w1⟨i,i,rfl,j,i⟩;clear z;have s:=IG _ d.now _ f w1 (KY.ext i) j.fs (SlR.ext Hr i) KT KR.out;have KV:=I j;have Kp:=I i;have s:=I s;clear j i;go_wp2_with fail
 refine s.mono ?_;rintro e p⟨i,i,rfl,j,i⟩;clear S V X Y Z s KV;generalize s:bG d.now (aA f)=N at *;have KZ:=I (xT Kp i);have KW:=I j;clear j i Kp;go_frame
 go_wp2_with fail
 go_loopw [6,14] (λi f wr=>∃k:Nat,k<=N.length/\f=H J k/\(∃A' c',i=G A' k c')/\Hid (OwnQ wr p.heap.size i ((N.take k).map cE))/\Hid (Ext p wr)) (λ_ f _=>N.length-(intOf f).toNat)
 case atStart=>exact⟨0,Nat.zero_le _,rfl,⟨_,_,rfl⟩,OwnX.nil _ _ _,xR _⟩
 case round=>
  obtain⟨k,f,rfl,⟨A',c',rfl⟩,t,y⟩:=hrel;have Kz:=KU.out;have L:=Kr.out;by_cases He:k<N.length
  ·obtain⟨_,b,Hc,rfl,hc⟩:=SlR.at_ (SlR.ext (xW KW.out) y.out) (by omega);have j:=hc k (sv N[k]) (by rw[P7,P8 He];rfl);have f:(N.take (k+1)).map cE=(N.take k).map cE++[cE N[k]]:=by rw[P0 He,P2];rfl
   have i:((N.take k).map cE).length=k:=by rw[P6,Pc];omega
   have Ht:=I f;have H8:=I i;clear hc f i;generalize N[k]=x at *;simp only[sv,Nat.mul_one]at j;have D:Ext wr (wr.alloc (O #[H .u8 4,U ⟨x.toArray⟩,U ⟨#[]⟩,G none 0 0] 98)):=xA (xR _) _;have f:p.heap.size<=wr.heap.size:=y.size;have KX:=I (OwnX.ext dy t D);have Kw:∀g,(Value.slice A' k c').ownBlock=M g->∀u∈[H .u8 4,U ⟨x.toArray⟩,U ⟨#[]⟩,G none 0 0],bF g u:=by
    intro g _ u f;simp only[List.mem_cons,List.not_mem_nil,or_false]at f;rcases f with rfl | rfl | rfl | rfl
    ·exact iP _ _ _
    ·exact da _ x
    ·exact da _ []
    intro b Hc n c _ h;cases h
   have f:=I Kw;have s:=I D;clear Kw D;go_wp2_with (at_builtin;refine me dy rfl (.tmp 18) (.tmp 21) 23 rfl 98 i0 _ 64 underlying23 hi HH HJ HK rfl (by decide) (by decide) p.heap.size _ ((N.take k).map cE) rfl KX _ [cE x] [H .u8 4,U ⟨x.toArray⟩,U ⟨#[]⟩,G none 0 0] rfl (fu wr [H .u8 4,U ⟨x.toArray⟩,U ⟨#[]⟩,G none 0 0] 98 4 rfl) (ip (o:=cE x) (SlR.nil _ 1)) (by simp) f (by rw[H8.out];simp;omega) (by rw[xS];omega) ?_;intro f f f f i j;rw[<-Ht.out,H8.out]at f;simp only[H8.out,xC,Pd,Pz]at f⊢;have j:=i p (xT y s.out) (xN _))
   exact⟨⟨k+1,by omega,by go_num,⟨_,_,rfl⟩,f,j⟩,by simp[intOf];omega⟩
  ·obtain rfl:k=N.length:=by omega
   have f:=t.out;rw[P5]at f;have t:=I f;clear f;have f:=xT KZ y.out;obtain⟨S,V,X,Y,Z⟩:=ae (H0.ext f);have i:=qM _ d n false _ (N.map cE) wr (HD.ext f) HZ t.qs (by rw[P6,yF];omega);rw[HT.out]at i;have HC:=I i;have Ku:=I f;clear i f;go_wp2_with fail
   refine HC.mono ?_;rintro e f⟨u,rfl,⟨f,f,f,f,rfl,of,t⟩,p⟩;have i:=xT Ku p;have f:=H2.ext i;obtain⟨j,j,j,j,j⟩:=aH f;obtain⟨j,j,j,j,j⟩:=ae f;have j:=I f;have y:=I of;have z:=I t;have D:=I (xT Ko i);have s:=I (xT Ko Ku.out).size;clear f of t i p S V X Y Z;go_wp2_with fail
   refine bodyPost_ret (Ma _ _ _ _ (H J T.2) rfl rfl (aT j _ _ _ _ _) rfl) rfl ?_;exact⟨_,rfl,⟨_,_,_,_,rfl,OwnF.box1 (OwnX.base y s.out) j.out,OwnQ.box1 (OwnX.base z s.out) j.out⟩,aS D (by omega) _ _ _ _ _⟩
theorem Li{fs:List Fil}{j:Nat}(h:j<fs.length)(e:List (List UInt8)):bG (fs.take (j+1)) e=bG (fs.take j) e++(if fs[j].1∈e then[]else[fs[j].1]):=by
 rw[P0 h];unfold bG;rw[P2,Pb];congr 1
 by_cases h2:fs[j].1∈e<;>simp[h2]
theorem IR{e:List (Int×Int×Int)}(h:k<e.length):aA (e.take (k+1))=aA (e.take k)++(aE e[k].1 e[k].2.1 e[k].2.2).toList:=by
 rw[P0 h,ye]
structure R5I (w:World) (l:List (List UInt8)) (v:Value) (W:World):Prop where
 sl:∃ A c,v=G A l.length c
 o:W.ownsRow w.heap.size 9 1 v l.length (l.map sv)
 e:Ext w W
theorem F5(v:Value)(fs:List Fil)(vk:Value)(f:List (Int×Int×Int))(w:World)(hS:StW w)(hF:Fs w v fs)(hK:SlR w 3 vk f.length (bH f))(hl:fs.length<=1000000)(J5:f.length<=1000000):
  Calls R 59 #[v,vk] w λe w'=>(∃A c,e=.returned (G A (bG fs (aA f)).length c)/\w'.ownsRow w.heap.size 9 1 (G A (bG fs (aA f)).length c) (bG fs (aA f)).length ((bG fs (aA f)).map sv))/\Ext w w':=by
 obtain⟨A,c,rfl,_,_⟩:=Fs.open_ hF;obtain⟨B,e2,rfl,_,_⟩:=xO hK;have HS:=I hS;have HF:=I hF;have Hr:=I hK;obtain⟨i0,hi,HH,HJ,HK⟩:=info_parts rS;go_enter func59,ntmps59
 go_wp2_with fail
 go_loopw [5,6] (λo i wr=>∃j:Nat,j<=fs.length/\i=H J j/\Hid (R5I w (bG (fs.take j) (aA f)) o wr)) (λ_ i _=>fs.length-(intOf i).toNat)
 case atStart=>exact⟨0,by omega,rfl,⟨⟨none,0,rfl⟩,⟨rfl,.inl ⟨rfl,rfl⟩⟩,xR _⟩⟩
 case round=>
  obtain⟨j,hj,rfl,L⟩:=hrel;by_cases He:j<fs.length
  ·have Jl:(j:Int)<(fs.length:Int):=by omega
   obtain⟨_,b,Hc,rfl,hc⟩:=HF.at_ (by omega);obtain⟨Hw,_⟩:=hc j He;have p:=Li He (aA f);obtain⟨n,hn⟩:∃n,fs[j].1=n:=⟨_,rfl⟩;rw[hn]at Hw p;have HP:=I p;have K1:=I Hw;go_wp2_with fail
   go_loopw [7,8] (λkp i l=>∃k:Nat,k<=f.length/\i=H J k/\kp=.bool (decide (n∈aA (f.take k)))/\Hid (Ext wr l)) (λ_ i _=>f.length-(intOf i).toNat)
   case atStart=>exact⟨0,by omega,rfl,by simp[aA],xR _⟩
   case round=>
    rename World=>l
    obtain⟨k,hk,rfl,rfl,t⟩:=hrel;by_cases y:k<f.length
    ·have J7:(k:Int)<(f.length:Int):=by omega
     have s:=xT L.e t.out;obtain⟨_,b2,Jf,rfl,hc⟩:=(SlR.ext Hr s).at_ (by omega);obtain⟨x0,x1,x2⟩:=qf f y;have c0:=hc _ _ x0;have Y:=hc _ _ x1;have c2:=hc _ _ x2;have Kl:=IR y;have y:=K1.out;have cn:l.cell? ⟨b,Hc+j*2,Z⟩=M (sv n):=(s).cell y;generalize f[k]=x at *;obtain⟨xk,xs,y⟩:=x;dsimp only at *;obtain⟨z,HA⟩:∃z,aE xk xs y=z:=⟨_,rfl⟩;have HN:=I (qp xk xs y l (HS.ext s));rw[HA]at HN Kl;have Ho:=I Kl;rw[<-Py]at Y c2;have call:∀ {K:Ending->World->Prop},(∀C,Ext l C->K (.returned (.tuple #[sv (z.getD []),H J (if z.isSome=true then 0 else 2)])) C)->Calls R 53 #[.agg #[H .u8 xk,H J xs,H J y]] l K:=λh=>HN.mono (by rintro e C⟨rfl,q⟩;exact h C q);have D:=I (λ(K:Ending->World->Prop) h=>@call K h);by_cases g:n∈aA (f.take k)
     ·have hd:decide (n∈aA (f.take k))=true:=by simpa using g
      have U:decide (n∈aA (f.take (k+1)))=true:=by rw[Ho.out];simp[g]
      rw[hd];have V:=I U;go_wp2_with fail
      refine D _ (λC q=>?_);go_wp2_with fail
      go_roundw
      case rel=>exact⟨k+1,by omega,by go_num,by rw[V.out],xT t q⟩
      case measure=>simp[intOf];omega
     ·have hd:decide (n∈aA (f.take k))=false:=by simpa using g
      rw[hd];cases z with
      |none=>
       have U:decide (n∈aA (f.take (k+1)))=false:=by rw[Ho.out];simp[g]
       have V:=I U;simp only[Pu,Ps,Bool.false_eq_true,if_false,sv]at D;go_wp2_with fail
       refine D _ (λC q=>?_);go_wp2_with fail
       go_roundw
       case rel=>exact⟨k+1,by omega,by go_num,by rw[V.out],xT t q⟩
       case measure=>simp[intOf];omega
      |some z=>
       simp only[Pq,Pr,if_true]at D;have U:decide (n∈aA (f.take (k+1)))=(z==n):=by
        rw[Ho.out,Bool.eq_iff_iff];simp[g];exact eq_comm
       have V:=I U;unfold sv at D cn;go_wp2_with fail
       refine D _ (λC q=>?_);have y:=q.cell cn;go_wp2_with fail
       go_roundw
       case rel=>exact⟨k+1,by omega,by go_num,by rw[V.out],xT t q⟩
       case measure=>simp[intOf];omega
    obtain rfl:k=f.length:=by omega
    have s:=xT L.e t.out;have cn:l.cell? ⟨b,Hc+j*2,Z⟩=M (sv n):=s.cell K1.out;have Hn:=ai L.o t.out;obtain⟨A1,Y,hv⟩:=L.sl;rw[P5];by_cases g:n∈aA f
    ·have hd:decide (n∈aA f)=true:=by simpa using g
     rw[hd];have p:=HP.out;rw[if_pos g,Pe]at p;have Hs:=I p;have K4:=I (show R5I w (bG (fs.take (j+1)) (aA f)) _ l from by rw[p];exact⟨L.sl,Hn,s⟩);go_wp2_with fail
     go_roundw
     case rel=>exact⟨j+1,by omega,by go_num,K4⟩
     case measure=>simp[intOf];omega
    have hd:decide (n∈aA f)=false:=by simpa using g
    rw[hd];have p:=HP.out;rw[if_neg g]at p;have g:(bG (fs.take j) (aA f)).length<=1000000:=by
     have h1:=oL (fs.take j) (aA f);rw[Pc]at h1;omega
    have Hs:=I p;have H8:=I g;have g:=I s.size;have Kq:=I s;rw[hv]at Hn;generalize bG (fs.take j) (aA f)=N at *;subst hv;have X:=I Hn;have g:Ext l (l.alloc (O #[sv n] 9)):=xA (xR _) _;have S:=I g;have g:=I (fu l [sv n] 9 1 rfl);unfold sv at cn S g;go_wp2_with (at_builtin;refine dT _ rfl (.tmp 47) (.tmp 53) 102 rfl w.heap.size 9 i0 _ 1 16 underlying102 hi HH HJ HK rfl (by decide) _ N.length (N.map sv) rfl (ai X S.out) _ 1 [sv n] rfl g (sr [n]) (by have:=H8.out;unfold maxLen;omega) (by have:=H8.out;omega) (xT Kq S.out).size ?_;intro g W3 Hf Hg)
    obtain⟨A3,c3,rfl,_,_⟩:=xO (xW Hf);have g:Ext w W3:=Ext.grownOwn (xT Kq S.out) (ay (ai X S.out) (xN _)) Hg;have K4:=I (show R5I w (bG (fs.take (j+1)) (aA f)) (G A3 (N.length+1) c3) W3 from by rw[Hs.out];exact⟨⟨A3,c3,by simp⟩,by rw[xL,P2];exact Hf,g⟩);go_wp2_with fail
    go_roundw
    case rel=>exact⟨j+1,by omega,by go_num,K4⟩
    case measure=>simp[intOf];omega
  ·obtain rfl:j=fs.length:=by omega
   have hI:=L.out;rw[P5]at hI;obtain⟨A1,Y,hv⟩:=hI.sl;subst hv;have t:=I hI.e;have X:=I hI.o;go_wp2_with fail;go_ret;exact⟨⟨A1,Y,rfl,X.out⟩,t.out⟩
