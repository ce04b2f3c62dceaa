/- Merged -/
import Derived.Test.YteggfecbjgbndaaGreatDoorZx11
set_option linter.all false
set_option maxHeartbeats 8000000
set_option maxRecDepth 100000
open Go.Proofs.Tryz
open List renaming length->R
open Go.Value renaming int->B,slice->G,bool->J,agg->M,pointer->O
open Go.IntKind renaming i64->C
open Go.Proofs.Tryz renaming prog->E
open Option renaming none->F,some->H
open Go.Obj renaming cells->I
open Go.Mv renaming aN->N
open List renaming length_drop->P0,getD_eq_getElem?_getD->P1,getElem?_eq_getElem->P2,push_toArray->P3,length_take->P4,cons_append->P5
open Go.Oper renaming semAt_some->P6,wp->P7
open Go.Mv.Blk renaming new->P8
open Go.World renaming ownsRow_nil->P9
open Go.Instr renaming lookup->Pa,findNow->Pb
open Bool renaming eq_iff_iff->Pc
namespace Go.Proofs.YteggfecbjgbndaaGreatDoor
open Go.RowKit Go.Mv Go.Shelf
variable {P:Prop}
theorem mcOne5a0(h:P:=by
 go_enter Tryz.func349,Tryz.ntmps349
 go_wp2_with fail
 refine Hz.mono ?_;rintro e w1⟨vr,rfl,-,H0⟩;have H4:=Hd.ext H0;have ea:=au H4;go_wp2_with fail
 exact bodyPost_ret (nO _ _ _ _ _ rfl rfl (bV H4 _ _ _) rfl) rfl ⟨_,rfl,Hb _,cZ (xT hX H0) (xN _) _ _ _⟩):P:=h
attribute [local go_sem] P6
variable {T:Tab}
def fU:Nat->List (Nat×Ent)->Nat
 |d,[]=>d
 |_,x::l=>fU x.1 l
theorem yZ(l:List (Nat×Ent))(x:Nat×Ent):∀d,fU d (l++[x])=x.1:=by
 induction l with
 |nil=>intro d;rfl
 |cons y l ih=>intro d;exact ih _
def bK(T:Tab)(b:List UInt8):zgM:=
 if R b<6\/b.getD 0 0≠1 then⟨11,0,[],0,(0,0)⟩
 else if(az ((b.drop 1).take 5)).1=0/\(az ((b.drop 1).take 5)).2.1≠0 then⟨0,(az ((b.drop 1).take 5)).2.1,(cG T (b.drop 6) 6).map (·.2),fU 6 (cG T (b.drop 6) 6),(0,0)⟩
 else⟨11,0,[],0,(0,0)⟩
theorem pw:Tryz.prog.underlying 90=H (.struct (Tryz.prog.fieldsOf 90)):=by kernel_rfl
theorem nO(tmps:Array Value)(W:World)(b:Nat)(cs:Array Value)(u:Value)(h2:tmps.getD 2 undef=O (H ⟨b,0,F⟩))(h3:tmps.getD 3 undef=u)(hb:Blk W b 90 cs)(hs:cs.size=3):(results Tryz.f349 tmps).run E W=.ok (.tuple #[.agg cs,u]) W:=by
 have hl:=hb.load (P:=E) pw rfl (by rw[hs];kernel_rfl);have a:tmps[2]?.getD undef=O (H ⟨b,0,F⟩):=by simpa using h2
 have c:tmps[3]?.getD undef=u:=by simpa using h3
 simp[results,results349,a,c,asAddr,hl]
theorem Lf(b:List UInt8):∀p,R (cG T b p)*15<=R b:=by
 generalize hn:R b=n;induction n using Nat.strongRecOn generalizing b with
 |_ n ih=>
  intro p;by_cases h:R b<15
  ·rw[qo h];simp
  ·cases a:ei T (b.take 15)with
   |none=>rw[qS h a];simp
   |some e=>
    have:=ih (b.drop 15).length (by rw[P0];omega) (b.drop 15) rfl (p+15);rw[qT h a,xC];rw[P0]at this;omega
theorem o5(W:World)(x:Ent):Es (W.alloc (I #[B C x.t,B C x.k,B C x.v] 54)) (G (H ⟨W.heap.size,0,F⟩) 1 1) [x]:=by
 refine⟨by simp[ax,Ent.cells],_,1,rfl,xN _,by simp[maxLen],λ_=>⟨W.heap.size,0,rfl,λj u a=>?_⟩⟩;rw[Nat.zero_add];exact(P8 W 54 #[B C x.t,B C x.k,B C x.v]).cell j (by simpa[ax,Ent.cells]using a)
def ScI(w:World)(f:Nat)(a:List (Nat×Ent))(X:World):Prop:=∃c,Blk X w.heap.size 90 #[B C f,c,B C (fU 6 a:Nat)]/\OwnE X w.heap.size c (a.map (·.2))/\Ext w X
theorem IN(v:Value)(bs:List UInt8)(w:World)(d:Bs w v bs)(h:(bK T bs).err=11):Calls E 349 #[v] w (eB w (bK T bs)):=by
 obtain⟨A,c,rfl,h1,h2⟩:=xO d;have Hd:=P8 w 90 #[B C 0,G none 0 0,B C 0];have hX:Ext w (w.alloc (I #[B C 0,G none 0 0,B C 0] 90)):=xA (xR _) _;have H3:bK T bs=⟨11,0,[],0,(0,0)⟩:=by
  unfold bK at h⊢;split
  ·rfl
  rename_i hn;rw[if_neg hn]at h;split
  ·rename_i h3;rw[if_pos h3]at h;cases h
  rfl
 rw[H3];have Hb:∀W:World,W.ownsRow w.heap.size 54 3 (G none 0 0) ([]:List Ent).length (ax []):=λW=>P9 _ _ _ _;by_cases l:R bs<6
 ·have s:((R bs:Int)<6):=by omega
  clear H3 h d;have ea:=au Hd;go_enter func349,ntmps349
  go_wp2_with fail
  exact bodyPost_ret (nO _ _ _ _ _ rfl rfl Hd rfl) rfl ⟨_,rfl,Hb _,hX⟩
 ·have s:¬((R bs:Int)<6):=by omega
  obtain⟨_,b,y,rfl,hc⟩:=Bs.at_ d (by omega);have g:=hc 0 (by omega);obtain⟨a,i⟩:∃a,bs[0]'(by omega)=a:=⟨_,rfl⟩;rw[i]at g;have m:bs.getD 0 0=a:=by rw[<-i];simp[P1,P2 (show 0<R bs by omega)]
  have z:=iQ g (I #[B C 0,G none 0 0,B C 0] 90);rw[Nat.add_zero]at z;by_cases hx:a=1
  ·have x:((a.toNat:Int) != 1)=false:=by rw[hx];rfl
   have k:=f8 d 1 5 (by omega);obtain⟨p,j⟩:∃p,(bs.drop 1).take 5=p:=⟨_,rfl⟩;have o:R p=5:=by rw[<-j,P4,P0];omega
   rw[j]at k;have Hq:Bs w (G (H ⟨b,y+1,F⟩) 5 (c-1)) p:=SlR.capd k (by rw[o];omega) (by omega);have key:=ml _ p _ (Hq.ext hX) (by omega);have q:(az p).1≠0\/(az p).2.1=0:=by
    unfold bK at h;rw[if_neg (by rw[m,hx];intro h;rcases h with h | h;exact l h;exact h rfl)]at h;rw[j]at h;by_cases h1:(az p).1=0
    ·by_cases h2:(az p).2.1=0
     ·exact .inr h2
     rw[if_pos ⟨h1,h2⟩]at h;cases h
    exact .inl h1
   rcases f:az p with⟨n,t,rest⟩
   rw[f]at key q;have Hz:=N key;have D:(6:Int)<=(c:Int):=by omega
   clear key f j o k Hq H3 h d hc g i m l hx;rcases q with h1 | h1
   ·have r:((n:Int) != 0)=true:=by simpa using h1
    clear h1;exact mcOne5a0
   by_cases he:n=0
   ·dsimp only at h1;subst h1 he;exact mcOne5a0
   have r:((n:Int) != 0)=true:=by simpa using he
   clear h1 he;exact mcOne5a0
  ·have x:((a.toNat:Int) != 1)=true:=by
    rw[bne_iff_ne];intro h;apply hx;apply UInt8.toNat_inj.1;show a.toNat=1;omega
   clear H3 h d hc g i m l hx;have ea:=au Hd;go_enter func349,ntmps349
   go_wp2_with fail
   exact bodyPost_ret (nO _ _ _ _ _ rfl rfl Hd rfl) rfl ⟨_,rfl,Hb _,hX⟩
theorem Ev(A:Option Addr)(n c:Nat)(w:World):Calls E 351 #[G A n c] w λe w'=>e=.returned (.func (.func 352) #[] #[O (H ⟨w.heap.size,0,F⟩)])/\w.alloc (I #[G A n c] 33)=w':=by
 go_enter func351,ntmps351
 go_wp2;go_ret;exact⟨rfl,rfl⟩
theorem Mk(v:Value)(bs:List UInt8)(w:World)(f:Bs w v bs)(hl:R bs<=2000000)(hT:TabW T w)(h:(bK T bs).err≠11):Calls E 349 #[v] w (eB w (bK T bs)):=by
 obtain⟨A,c,rfl,h1,h2⟩:=xO f;have Hd:=P8 w 90 #[B C 0,G none 0 0,B C 0];have hX:Ext w (w.alloc (I #[B C 0,G none 0 0,B C 0] 90)):=xA (xR _) _;unfold bK at h⊢;by_cases V:R bs<6\/bs.getD 0 0≠1
 ·rw[if_pos V]at h;exact absurd rfl h
 rw[if_neg V]at h⊢;by_cases hf:(az ((bs.drop 1).take 5)).1=0/\(az ((bs.drop 1).take 5)).2.1≠0
 case neg=>rw[if_neg hf]at h;exact absurd rfl h
 rw[if_pos hf];have H8:6<=R bs:=by
  rcases Nat.lt_or_ge bs.length 6 with q | q
  ·exact absurd (Or.inl q) V
  exact q
 have Hg:bs.getD 0 0=1:=by
  by_cases q:bs.getD 0 0=1
  ·exact q
  exact absurd (Or.inr q) V
 obtain⟨_,b,r,rfl,hc⟩:=Bs.at_ f (by omega);have V:=hc 0 (by omega);have Hn:bs[0]'(by omega)=1:=by rw[<-Hg];simp[P1,P2 (show 0<R bs by omega)]
 rw[Hn]at V;have Ht:(w.alloc (I #[B C 0,G none 0 0,B C 0] 90)).cell? ⟨b,r,F⟩=H (B .u8 1):=iQ V _;have V:=f8 f 1 5 (by omega);obtain⟨p,hp⟩:∃p,(bs.drop 1).take 5=p:=⟨_,rfl⟩;have Hp:R p=5:=by rw[<-hp,P4,P0];omega
 rw[hp]at V hf⊢;have Hq:Bs w (G (H ⟨b,r+1,F⟩) 5 (c-1)) p:=SlR.capd V (by rw[Hp];omega) (by omega);have key:=ml _ p _ (Hq.ext hX) (by omega);rcases V:az p with⟨e1,t,rest⟩
 rw[V]at key hf;obtain⟨rfl,V⟩:=hf;have Hz:=N key;have K8:(6:Int)<=(c:Int):=by omega
 have HR:¬((R bs:Int)<6):=by omega
 have Kr:((t:Int)==0)=false:=by rw[beq_eq_false_iff_ne];dsimp only at V;omega
 obtain⟨L,V⟩:∃L,cG T (bs.drop 6) 6=L:=⟨_,rfl⟩;have HB:=N f;have HT:=N hT;dsimp only;rw[V];have HL:=N V;have V:w.heap.size<(w.alloc (I #[B C 0,G none 0 0,B C 0] 90)).heap.size:=Hd.lt;refine(callsIn_wd (ro:=none) (n:=9)).1 ?_;refine callsIn_of_wp_marks func349 rfl trivial ?_ rfl;simp only[ntmps349,List.size_toArray,xC,List.length_nil,Nat.reduceAdd,Nat.reduceSub,Array.replicate_succ,Array.replicate_zero,P3,List.append_toArray,xI,P5];gi_wp2_with (refine⟨trivial,?_⟩;gi_at_call 204;refine(callsIn_wd.2 Hz).mono ?_;rintro e w1⟨V,rfl,-,H0⟩;have H4:=Hd.ext H0;have V:=N H0;obtain⟨g0,g1,g2,f0,f1,f2⟩:=au H4)
 have Hl:=bV H4 (B C t) (G none 0 0) (B C 6);have HJ:Ext w (((w1.setCell ⟨w.heap.size,0,F⟩ (B C t)).setCell ⟨w.heap.size,1,F⟩ (G none 0 0)).setCell ⟨w.heap.size,2,F⟩ (B C 6)):=cZ (xT hX V) (xN _) _ _ _;generalize(((w1.setCell ⟨w.heap.size,0,F⟩ (B C t)).setCell ⟨w.heap.size,1,F⟩ (G none 0 0)).setCell ⟨w.heap.size,2,F⟩ (B C 6))=w2 at *;refine⟨trivial,?_⟩;refine(callsIn_wd.2 (Ev _ _ _ _)).mono ?_;rintro e w3⟨rfl,rfl⟩;have qB:Boxed (w2.alloc (I #[G (H ⟨b,r,F⟩) bs.length c] 33)) w2.heap.size 33 (G (H ⟨b,r,F⟩) bs.length c):=Boxed.new _ _ _;have HK:Ext w (w2.alloc (I #[G (H ⟨b,r,F⟩) bs.length c] 33)):=xA HJ _;have V:=Hl.alloc (I #[G (H ⟨b,r,F⟩) bs.length c] 33);have h0:ScI w t [] (w2.alloc (I #[G (H ⟨b,r,F⟩) bs.length c] 33)):=⟨_,V,P9 _ _ _ _,HK⟩;have Kn:w.heap.size<w2.heap.size:=Hl.lt;have V:(w2.alloc (I #[G (H ⟨b,r,F⟩) bs.length c] 33)).heap.size=w2.heap.size+1:=by simp
 gi_wp2;generalize w2.alloc (I #[G (H ⟨b,r,F⟩) bs.length c] 33)=w3 at *;refine mB (λTT U=>?_);refine dV (a:=⟨TT,[]⟩) (by subst U;rfl) (enters_of func352 (by kernel_rfl) rfl)
  (λW1 hb hs=>Ef (T:=T) w W1 _ bs HB hl (λq u z=>Ext.cell (xT HK hb) z) HT w2.heap.size w.heap.size w.heap.size (qB.kept (row:=none) (Ext.grown hb none) (by simp)) (by omega) (xN _) (xN _))
  (λk o h=>h.elim) (λk o h=>h.1) (λx av W h=>by rw[h.1];rfl)
  (ScI w t) (λ_ _ _=>False) ?hI (λ_ _ _ _ h _=>h) h0
  (λx a' W=>∃q,Blk W q 54 #[B C x.2.t,B C x.2.k,B C x.2.v]/\a'=⟨(((TT.setIfInBounds 36 (B C x.1)).setIfInBounds 37 (M #[B C x.2.t,B C x.2.k,B C x.2.v])).setIfInBounds 6 (B C x.1)).setIfInBounds 7 (O (H ⟨q,0,F⟩)),[]⟩)
  ?hAx ?assign ?body ?done (λ_ _ _ _ _ _ h _=>h.elim)
 case hI=>
  rintro s X Y⟨J,d,Z,f⟩hm;refine⟨J,hm.same _ _ d ?_,hm.ownsRow Z ?_,hm.belowOf f ?_ (xN _)⟩
  ·rintro(h | h)
   ·exact h
   cases h.2
  ·rintro k K0 _(h | h)
   ·exact h
   cases h.2
  rintro k o hk(h | h)
  ·exact h
  have:=h.1;omega
 case hAx=>
  rintro x a' X Y⟨q,z,rfl⟩hm;refine⟨q,hm.same _ _ z ?_,rfl⟩;rintro(h | h)
  ·exact h
  cases h.2
 case assign=>
  rintro l' m x HH W av r hx hi Kg⟨rfl,r⟩hK;obtain⟨J,d,Z,f⟩:=hi;have Hi:Hid (ScI w t m (W.alloc (I #[B C x.2.t,B C x.2.k,B C x.2.v] 54))):=⟨J,d.alloc _,Z.alloc _,xA f _⟩;have HQ:=N (P8 W 54 #[B C x.2.t,B C x.2.k,B C x.2.v]);have Hx:=N hx;subst U;gi_wp2;exact hK _ _ (Kept.refl.alloc _) Hi ⟨W.heap.size,HQ.out,rfl⟩
 case body=>
  rintro l' m x HH a' W hx r Z⟨J,d,l,f⟩Kg⟨q,z,rfl⟩;have Hp:R (m.map (·.2))+1<=200000:=by
   have h3:=Lf (T:=T) (bs.drop 6) 6;rw[hx,xL,xC,P0]at h3;rw[List.length_map];omega
  have r:(m++[x]).map (·.2)=m.map (·.2)++[x.2]:=by simp
  have K:fU 6 (m++[x])=x.1:=yZ m x 6;have HZ:=N r;have Hw:=N K;have Hx:=N hx;generalize m.map (·.2)=P at *;generalize fU 6 m=j at *;obtain⟨g,i,rfl,_,_⟩:=xO (xW l);have HF:=d.not_row (e:=54) (by decide) l;obtain⟨g0,g1,g2,_,_,_⟩:=au d;obtain⟨m,m,m,_,_,_⟩:=au z;obtain⟨i0,hi,Kj,Kk,Kl⟩:=info_parts ic;have HD:=o5 W x.2;have Hj:OwnE (W.alloc (I #[B C x.2.t,B C x.2.k,B C x.2.v] 54)) w.heap.size (G g P.length i) P:=l.alloc _;have HW:=d.alloc (I #[B C x.2.t,B C x.2.k,B C x.2.v] 54);have K6:w.heap.size<=(W.alloc (I #[B C x.2.t,B C x.2.k,B C x.2.v] 54)).heap.size:=Nat.le_of_lt HW.lt;subst U;gi_wp2_with (gi_at_builtin;refine lk _ rfl (.tmp 39) (.tmp 41) 42 rfl w.heap.size 54 i0 _ 3 24 underlying42 hi Kj Kk Kl rfl (by decide) _ P.length (ax P) rfl Hj _ 1 (ax [x.2]) rfl HD (ie _) (by unfold maxLen;omega) (by omega) K6 ?_;intro m w4 Ha H7;obtain⟨A5,c5,rfl,_,_⟩:=xO (xW Ha);have m:=HW.kept H7 HF;have r:=au m)
  have z:=Ha.kept (ar w4 w.heap.size 1 (G A5 (R P+1) c5)) (.inr (m.not_row (by decide) Ha).symm);have r:=m.set 1 (G A5 (R P+1) c5);have o2:=z.kept (ar _ w.heap.size 2 (B C x.1)) (.inr (r.not_row (by decide) z).symm);have Kh:=r.set 2 (B C x.1);refine⟨(((Kept.refl.alloc _).grown H7 (λk o ek y=>?_)).setCell (λo y _=>?_) _).setCell (λo y _=>?_) _,G A5 (R P+1) c5,?_,?_,?_⟩
  ·obtain⟨K0,HO⟩:=lm l ek;rw[y]at HO;cases HO;rintro(⟨_,_,h⟩|⟨_,h⟩)
   ·rcases h with h | h
    ·have:=(l.lt k ek).1;omega
    exact h rfl
   cases h
  ·rw[show W.heap[w.heap.size]?=_ from d]at y;cases y;rintro(⟨_,h,_⟩|⟨_,h⟩)
   ·exact h rfl
   cases h
  ·rw[show W.heap[w.heap.size]?=_ from d]at y;cases y;rintro(⟨_,h,_⟩|⟨_,h⟩)
   ·exact h rfl
   cases h
  ·rw[Hw.out];exact Kh
  ·rw[HZ.out];have m:R P+1=R (P++[x.2]):=by simp
   rw[m]at o2⊢;unfold OwnE;have m:ax (P++[x.2])=ax P++ax [x.2]:=by simp[ax]
   rw[m];exact o2
  have K3:Ext w w4:=Ext.grownOwn (xA f (I #[B C x.2.t,B C x.2.k,B C x.2.v] 54)) Hj H7;exact(Below.setCell (p:=⟨w.heap.size,1,F⟩) K3 (xN _) _).setCell (p:=⟨w.heap.size,2,F⟩) (xN _) _
 case done=>
  rintro D W hD⟨J,d,l,f⟩hK;rw[HL.out]at d l;obtain⟨P,m⟩:∃P,L.map (·.2)=P:=⟨_,rfl⟩;obtain⟨j,K⟩:∃j,fU 6 L=j:=⟨_,rfl⟩;rw[m]at l;rw[K]at d;have HP:=N m;have Hw:=N K;obtain⟨g,i,rfl,_,_⟩:=xO (xW l);obtain⟨g0,g1,g2,f0,f1,f2⟩:=au d;subst U;gi_wp2;have m:Blk (dw W w.heap.size (B C t) (G g P.length i) (B C j)) w.heap.size 90 #[B C t,G g P.length i,B C j]:=bV d _ _ _;have r:=fK d (Kx:=(by decide:(90:TypeId)≠54)) l (B C t) (G g P.length i) (B C j);have l:Ext w (dw W w.heap.size (B C t) (G g P.length i) (B C j)):=cZ f (xN _) _ _ _;have d:(dw W w.heap.size (B C t) (G g P.length i) (B C j)).heap[D]?=H (.deferred (some [])):=dK (dK (dK hK rfl ⟨w.heap.size,0,F⟩ _) rfl ⟨w.heap.size,1,F⟩ _) rfl ⟨w.heap.size,2,F⟩ _;have f:Blk ((dw W w.heap.size (B C t) (G g P.length i) (B C j)).putObj D (.deferred none)) w.heap.size 90 #[B C t,G g P.length i,B C j]:=(World.putObj_heap_other (by omega)).trans m;refine dh d (.tuple #[M #[B C t,G g P.length i,B C j],B C 0]) (nO _ _ _ _ _ rfl rfl f rfl) ?_;refine⟨G g P.length i,by rw[Hw.out],?_,cp l _⟩;dsimp only;rw[HP.out];exact ownsRow_putObj r (.deferred none) d rfl
theorem IM(v:Value)(bs:List UInt8)(w:World)(a:Bs w v bs)(hl:R bs<=2000000)(c:TabW T w):Calls E 349 #[v] w (eB w (bK T bs)):=by
 by_cases h:(bK T bs).err=11
 ·exact IN v bs w a h
 ·exact Mk v bs w a hl c h
open Go.RowKit Go.Mv
theorem mcEith1a0(h:P:=by
 go_wp2_with fail
 refine key.mono ?_;rintro e w1⟨vl,rfl,H9,H0⟩;have Hm:OwnE w1 _ vl r.log:=H9;obtain⟨A1,c1,rfl,_,_⟩:=xO Hm.es;have H4:=hb.ext H0;have ea:=au H4;go_wp2_with fail;have Hu:=fK H4 (Kx:=(by decide:(90:TypeId)≠54)) H9 (B C r.first) (G A1 r.log.length c1) (B C r.used);refine bodyPost_ret (q8 rfl _ _ _ _ _ rfl rfl (bV H4 _ _ _) rfl) rfl ⟨_,rfl,ay Hu hX.size,cZ (xT hX H0) (Nat.le_succ _) _ _ _⟩):P:=h
theorem mcEith1a1(h:P:=by
 go_enter Tryz.func127,Tryz.ntmps127
 go_wp2_with (go_at_call 166;refine(ta _).mono ?_;rintro e w' ⟨rfl,rfl⟩)
 refine key.mono ?_;rintro e w1⟨A1,c1,rfl,H9,H0⟩;go_wp2_with fail
 go_ret2;exact⟨A1,c1,rfl,ay H9 hX.size,xT hX H0⟩):P:=h
variable {T:Tab}
theorem zzA{w w':World}{e:Ending}{r:Int×List UInt8}(h:zxh w r e w'):zxt w r e w':=by
 obtain⟨v,rfl,f,d⟩:=h;have a:OwnB w' w.heap.size v r.2:=f;obtain⟨A,c,rfl,_,_⟩:=xO (xW a);exact⟨A,c,rfl,a,d⟩
theorem q8{fn:Func}{p q:Tmp}(e:fn.results = #[.cell p 90,.tmp q])(tmps:Array Value)(W:World)(b:Nat)(cs:Array Value)(u:Value)(c:tmps.getD p undef=O (H ⟨b,0,F⟩))(d:tmps.getD q undef=u)(hb:Blk W b 90 cs)(hs:cs.size=3):(results fn tmps).run E W=.ok (.tuple #[.agg cs,u]) W:=by
 have hl:=hb.load (P:=E) pw rfl (by rw[hs];kernel_rfl);have a:tmps[p]?.getD undef=O (H ⟨b,0,F⟩):=by simpa using c
 have Kf:tmps[q]?.getD undef=u:=by simpa using d
 simp[results,e,a,Kf,asAddr,hl]
theorem zyN(first:Int)(v:Value)(l:List Ent)(w:World)(f:TabW T w)(h:Es w v l)(hl:R l<=100000):Calls E 344 #[M #[],B C first,v] w (zxt w (zxW T first l)):=by
 have a:Ext w (w.alloc (I #[] 267)):=xA (xR _) _;have key:=N (zzc (T:=T) first v l _ (f.ext a) (h.ext a) hl);obtain⟨A,c,rfl,_,_⟩:=xO h;go_enter func344,ntmps344
 go_wp2_with fail
 refine key.mono ?_;rintro e f⟨d,g,rfl,f,H0⟩;go_wp2_with fail
 go_ret2;exact⟨d,g,rfl,ay f a.size,xT a H0⟩
theorem zyo(first:Int)(v:Value)(l:List Ent)(w:World)(h:Es w v l)(hl:R l<=2000000):Calls E 354 #[M #[],B C first,v] w (zxt w (zyq first l)):=by
 have a:Ext w (w.alloc (I #[] 268)):=xA (xR _) _;have key:=N (zzJ first v l _ (h.ext a) hl);obtain⟨A,c,rfl,_,_⟩:=xO h;go_enter func354,ntmps354
 go_wp2_with fail
 refine key.mono ?_;intro e f i;obtain⟨d,g,rfl,f,H0⟩:=zzA i;go_wp2_with fail
 go_ret2;exact⟨d,g,rfl,ay f a.size,xT a H0⟩
def fmtMap:Array MapEntry:=#[{ key:=B C 1,val:=.iface 267 (M #[]),born:=0 },{ key:=B C 2,val:=.iface 268 (M #[]),born:=1 }]
theorem Cs(w:World)(es:Array MapEntry)(c:Nat)(n:Int)(v:Value)(hn:Pb (.int .i64) (B C n) es.toList 0=H none):
  (Instr.mapUpdate 208 (.map (some w.heap.size)) (B C n) v).run E (w.alloc (.map es c))=.ok () (w.alloc (.map (es.push { key:=B C n,val:=v,born:=c }) (c+1))):=
 nP w .i64 underlying208 underlying3 es c n v hn
theorem ta(w:World):Calls E 166 #[] w λe w'=>e=.returned (.map (some w.heap.size))/\w.alloc (.map fmtMap 2)=w':=by
 have a:=@run_makeMap E;have a:=Cs w #[] 0 1 (.iface 267 (M #[])) rfl;have h1:=Cs w #[{ key:=B C 1,val:=.iface 267 (M #[]),born:=0 }] 1 2 (.iface 268 (M #[])) rfl;simp only[P3,xI,P5,Nat.reduceAdd]at a h1;go_enter func166,ntmps166
 go_wp2;go_ret;exact⟨rfl,rfl⟩
theorem AF(f:Int):Pb (.int .i64) (B C f) fmtMap.toList 0=H (if f=1 then some (0,.iface 267 (M #[]))else if f=2 then some (1,.iface 268 (M #[]))else none):=by
 by_cases h1:f=1
 ·subst h1;rfl
 ·by_cases h2:f=2
  ·subst h2;rfl
  ·have a:(f==1)=false:=by simp[h1]
   have c:(f==2)=false:=by simp[h2]
   rw[if_neg h1,if_neg h2];simp[fmtMap,Pb,Instr.sameNow,a,c]
theorem ND(W:World)(r:Nat)(h:W.heap[r]?=H (.map fmtMap 2))(f:Int):
  (Pa 208 (.map (some r)) (B C f) true).run E W=.ok (.tuple #[if f=1 then .iface 267 (M #[])else if f=2 then .iface 268 (M #[])else .nilIface,J (decide (f=1\/f=2))]) W /\
  (Pa 208 (.map (some r)) (B C f) false).run E W=.ok (if f=1 then .iface 267 (M #[])else if f=2 then .iface 268 (M #[])else .nilIface) W:=by
 have a:=tE (P:=E) W .i64 underlying208 underlying3 fmtMap 2 f .nilIface (by kernel_rfl) h _ (AF f);have c:=tr (P:=E) W .i64 underlying208 underlying3 fmtMap 2 f .nilIface (by kernel_rfl) h _ (AF f);rw[a,c];by_cases h1:f=1
 ·subst h1;exact⟨rfl,rfl⟩
 ·by_cases h2:f=2
  ·subst h2;exact⟨rfl,rfl⟩
  ·simp[h1,h2]
theorem mth (w:World):
  (method 272 267 (M #[]) "moult/either.file").run E w=.ok (344,M #[]) w/\(method 272 268 (M #[]) "moult/either.file").run E w=.ok (354,M #[]) w /\
  (method 272 267 (M #[]) "moult/either.scan").run E w=.ok (346,M #[]) w/\(method 272 268 (M #[]) "moult/either.scan").run E w=.ok (356,M #[]) w /\
  (method 272 267 (M #[]) "moult/either.more").run E w=.ok (345,M #[]) w/\(method 272 268 (M #[]) "moult/either.more").run E w=.ok (355,M #[]) w:=by
 refine ⟨?_,?_,?_,?_,?_,?_⟩ <;> kernel_rfl
def zxD(T:Tab)(f first:Int)(l:List Ent):Int×List UInt8:=if f=1 then zxW T first l else if f=2 then zyq first l else(2,[])
theorem PJ(w:World):(w.alloc (.map fmtMap 2)).heap[w.heap.size]?=H (.map fmtMap 2):=World.alloc_heap_new _ _
theorem zzd(f first:Int)(v:Value)(l:List Ent)(w:World)(a:TabW T w)(h:Es w v l)(hl:R l<=100000):Calls E 127 #[B C f,B C first,v] w (zxt w (zxD T f first l)):=by
 obtain⟨A,c,rfl,_,_⟩:=xO h;have hX:Ext w (w.alloc (.map fmtMap 2)):=xA (xR _) _;obtain⟨H3,_⟩:=ND _ _ (PJ w) f;unfold zxD;by_cases h1:f=1
 ·subst h1;rw[if_pos rfl];have key:=N (zyN (T:=T) first _ l _ (a.ext hX) (h.ext hX) hl);simp only[if_true,true_or,decide_true]at H3;have hm:=λw=>(mth w).1;exact mcEith1a1
 ·rw[if_neg h1];by_cases h2:f=2
  ·subst h2;rw[if_pos rfl];have key:=N (zyo first _ l _ (h.ext hX) (by omega));have a:(Pa 208 (.map (some w.heap.size)) (B C 2) true).run E (w.alloc (.map fmtMap 2))=.ok (.tuple #[.iface 268 (M #[]),J true]) (w.alloc (.map fmtMap 2)):=H3;have hm:=λw=>(mth w).2.1;exact mcEith1a1
  ·rw[if_neg h2];have a:decide (f=1\/f=2)=false:=by simp[h1,h2]
   rw[if_neg h1,if_neg h2,a]at H3;go_enter func127,ntmps127
   go_wp2_with (go_at_call 166;refine(ta _).mono ?_;rintro e w' ⟨rfl,rfl⟩)
   go_ret2;exact zw6 rfl hX
def bY(T:Tab)(b:List UInt8)(f:Int):zgM:=if f=1 then bK T b else if f=2 then cz b else⟨2,0,[],0,(0,0)⟩
theorem Ff(v:Value)(bs:List UInt8)(w:World)(a:Bs w v bs)(hl:R bs<=2000000)(f:TabW T w):Calls E 346 #[M #[],v] w (eB w (bK T bs)):=by
 have d:Ext w (w.alloc (I #[] 267)):=xA (xR _) _;have hX:Ext w ((w.alloc (I #[] 267)).alloc (I #[B C 0,G none 0 0,B C 0] 90)):=xA d _;have hb:=P8 (w.alloc (I #[] 267)) 90 #[B C 0,G none 0 0,B C 0];rw[xS]at hb;have key:=N (IM (T:=T) v bs _ (a.ext hX) hl (f.ext hX));obtain⟨A,c,rfl,_,_⟩:=xO a;obtain⟨r,a⟩:∃r,bK T bs=r:=⟨_,rfl⟩;rw[a]at key⊢;go_enter func346,ntmps346
 exact mcEith1a0
theorem C8(v:Value)(bs:List UInt8)(w:World)(a:Bs w v bs)(hl:R bs<=2000000):Calls E 356 #[M #[],v] w (eB w (cz bs)):=by
 have d:Ext w (w.alloc (I #[] 268)):=xA (xR _) _;have hX:Ext w ((w.alloc (I #[] 268)).alloc (I #[B C 0,G none 0 0,B C 0] 90)):=xA d _;have hb:=P8 (w.alloc (I #[] 268)) 90 #[B C 0,G none 0 0,B C 0];rw[xS]at hb;have key:=N (Ml v bs _ (a.ext hX) hl);obtain⟨A,c,rfl,_,_⟩:=xO a;obtain⟨r,a⟩:∃r,cz bs=r:=⟨_,rfl⟩;rw[a]at key⊢;go_enter func356,ntmps356
 exact mcEith1a0
theorem mcEith2a0(h:P:=by
 rw[hr]at key⊢;go_enter Tryz.func98,Tryz.ntmps98
 go_wp2_with (go_at_call 166;refine(ta _).mono ?_;rintro e w' ⟨rfl,rfl⟩)
 refine key.mono ?_;rintro e w1⟨vl,rfl,H9,H0⟩;have Hm:OwnE w1 _ vl r.log:=H9;obtain⟨A1,c1,rfl,_,_⟩:=xO Hm.es;have Hl:=H4.ext H0;have ea:=au Hl;go_wp2_with fail;have Hu:=fK Hl (Kx:=(by decide:(90:TypeId)≠54)) H9 (B C r.first) (G A1 r.log.length c1) (B C r.used);exact bodyPost_ret (q8 rfl _ _ _ _ _ rfl rfl (bV Hl _ _ _) rfl) rfl ⟨_,rfl,ay Hu hX.size,cZ (xT hX H0) (xN _) _ _ _⟩):P:=h
attribute [local go_sem] P6
variable {T:Tab}
theorem Ll{b:List UInt8}{f:Int}(h:¬(f=1\/f=2)):bY T b f=⟨2,0,[],0,(0,0)⟩:=by
 unfold bY;rw[if_neg (λq=>h (.inl q)),if_neg (λq=>h (.inr q))]
theorem Ia(v:Value)(bs:List UInt8)(f:Int)(w:World)(a:Bs w v bs)(hl:R bs<=2000000)(g:TabW T w):Calls E 98 #[v,B C f] w (eB w (bY T bs f)):=by
 have hb:=P8 w 90 #[B C 0,G none 0 0,B C 0];have d:Ext w (w.alloc (I #[B C 0,G none 0 0,B C 0] 90)):=xA (xR _) _;have hX:Ext w ((w.alloc (I #[B C 0,G none 0 0,B C 0] 90)).alloc (.map fmtMap 2)):=xA d _;have H4:=hb.alloc (.map fmtMap 2);obtain⟨H3,_⟩:=ND _ _ (PJ (w.alloc (I #[B C 0,G none 0 0,B C 0] 90))) f;rw[xS]at H3;obtain⟨A,c,rfl,_,_⟩:=xO a;by_cases h1:f=1
 ·subst h1;have hr:bY T bs 1=bK T bs:=rfl;rw[hr];have key:=N (Ff (T:=T) _ bs _ (a.ext hX) hl (g.ext hX));simp only[if_true,true_or,decide_true]at H3;have hm:=λw=>(mth w).2.2.1;obtain⟨r,hr⟩:∃r,bK T bs=r:=⟨_,rfl⟩;exact mcEith2a0
 ·by_cases h2:f=2
  ·subst h2;have hr:bY T bs 2=cz bs:=rfl;rw[hr];have key:=N (C8 _ bs _ (a.ext hX) hl);have a:(Pa 208 (.map (some (w.heap.size+1))) (B C 2) true).run E ((w.alloc (I #[B C 0,G none 0 0,B C 0] 90)).alloc (.map fmtMap 2))=.ok (.tuple #[.iface 268 (M #[]),J true]) ((w.alloc (I #[B C 0,G none 0 0,B C 0] 90)).alloc (.map fmtMap 2)):=H3;have hm:=λw=>(mth w).2.2.2.1;obtain⟨r,hr⟩:∃r,cz bs=r:=⟨_,rfl⟩;exact mcEith2a0
  ·have hr:bY T bs f=⟨2,0,[],0,(0,0)⟩:=Ll (by omega);rw[hr];have a:decide (f=1\/f=2)=false:=by simp[h1,h2]
   rw[if_neg h1,if_neg h2,a]at H3;have ea:=au H4;go_enter func98,ntmps98
   go_wp2_with (go_at_call 166;refine(ta _).mono ?_;rintro e w' ⟨rfl,rfl⟩)
   exact bodyPost_ret (q8 rfl _ _ _ _ _ rfl rfl H4 rfl) rfl ⟨_,rfl,P9 _ _ _ _,hX⟩
theorem mcStatea0(h:P:=by
 refine ab 0 ?_;refine ab 1 ?_;refine ab 2 ?_;refine ab 3 ?_;refine ag 4 ?_;refine ag 5 ?_;refine ag 6 ?_;refine ab 7 ?_;refine ab 8 ?_;refine aq ?_;go_wp2_with fail;go_ret;refine⟨ret_bool ?_,xT hX (xD (xR _))⟩;rw[Hf.out];simp_all
 try(intro h;omega)):P:=h
theorem mcStatea1(h:P:=by
 try(go_wp2_with fail)
 refine af hK _ _ (ae (hb.ext Hk)) (λ_=>?_);refine ab 6 ?_;refine ab 7 ?_;refine ab 8 ?_;refine aq ?_;go_wp2_with fail;go_ret;refine⟨ret_bool ?_,xT hX Hk⟩;rw[Hf.out];simp_all
 try(intro h;omega)):P:=h
theorem mcStatea2(h:P:=by
 have Hy:=N Hh;clear Hh h0;go_enter Tryz.func154,Tryz.ntmps154
 go_wp2_with (go_at_call 207;refine(tK _ _).mono ?_;rintro e w1⟨rfl,rfl⟩)
 all_goals
  go_ret;refine⟨ret_bool ?_,xA (xR _) _⟩;rw[Hy.out];simp_all
  try(intro h;omega)):P:=h
theorem fN:Tryz.prog.underlying 41=H (.struct (Tryz.prog.fieldsOf 41)):=by kernel_rfl
theorem Og:Tryz.prog.stoodInHeld 41=false:=by kernel_rfl
theorem rB:Tryz.prog.eqGuardType Tryz.prog.depth 41=false:=by kernel_rfl
def fg(a b:Sta):Bool:=a.idx==b.idx&&a.term==b.term&&a.sum==b.sum&&a.lvl==b.lvl&&a.fin==b.fin
theorem MJ(a b:Sta):fg a b=true↔a=b:=by
 cases a;cases b;simp[fg,and_assoc]
theorem rg(a b:Sta)(W:World):(Op.equalIn 10000 41 (M #[B C a.idx,B C a.term,B C a.sum,B C a.lvl,J a.fin]) (M #[B C b.idx,B C b.term,B C b.sum,B C b.lvl,J b.fin])).run E W=.ok (fg a b) W:=by
 rw[run_equalIn_struct W 9999 41 _ _ fN Og];unfold fg;cases c:(a.idx==b.idx)<;>cases h1:(a.term==b.term)<;>cases h2:(a.sum==b.sum)<;>cases h3:(a.lvl==b.lvl)<;>cases h4:(a.fin==b.fin)<;>simp[go_sem,c,h1,h2,h3,h4]
theorem Fd(n:Int)(w:World):Calls E 161 #[B C n] w λe w'=>e=.returned (J (aB n))/\w=w':=by
 by_cases a:n<0
 ·go_enter func161,ntmps161
  go_wp2;go_ret;exact⟨ret_bool (by simp[aB];omega),rfl⟩
 ·have Km:0<=n:=by omega
  go_enter func161,ntmps161
  go_wp2;go_ret;exact⟨ret_bool (by simp[aB];omega),rfl⟩
theorem yM(w:World):Calls E 83 #[] w λe w'=>e=.returned (M #[B C 0,B C 0,B C 0,B C 1,J false])/\Ext w w':=by
 go_enter func83,ntmps83
 go_wp2;refine bodyPost_ret (results_cell_row rfl _ _ _ 41 _ _ _ rfl (heap_alloc_new _ _) fN rfl (by kernel_rfl)) rfl ⟨rfl,xA (xR _) _⟩
theorem nX(w:World):Calls E 92 #[] w λe w'=>e=.returned (M #[B C 0,B C 0,B C 0,B C 1,J false])/\Ext w w':=by
 go_enter func92,ntmps92
 go_wp2;refine bodyPost_ret (results_cell_row rfl _ _ _ 41 _ _ _ rfl (heap_alloc_new _ _) fN rfl (by kernel_rfl)) rfl ⟨rfl,xA (xR _) _⟩
theorem ae{W:World}{b:Nat}{t:TypeId}{a v u x y:Value}(h:Blk W b t #[a,v,u,x,y]):W.cell? ⟨b,0,F⟩=H a/\W.cell? ⟨b,1,F⟩=H v/\W.cell? ⟨b,2,F⟩=H u/\W.cell? ⟨b,3,F⟩=H x/\W.cell? ⟨b,4,F⟩=H y:=
 ⟨h.cell 0 rfl,h.cell 1 rfl,h.cell 2 rfl,h.cell 3 rfl,h.cell 4 rfl⟩
theorem ik (s:Sta) (w:World):Calls E 154 #[M #[B C s.idx,B C s.term,B C s.sum,B C s.lvl,J s.fin]] w fun e w'=>e=.returned (J s.ok)/\Ext w w':=by
 have hX:Ext w (w.alloc (I #[B C s.idx,B C s.term,B C s.sum,B C s.lvl,J s.fin] 41)):=xA (xR _) _
 have hb:=P8 w 41 #[B C s.idx,B C s.term,B C s.sum,B C s.lvl,J s.fin]
 by_cases h0:s.idx=0
 ·have e0:(s.idx==0)=true:=by rw[h0];rfl
  have HA:=rg s ⟨0,0,0,1,false⟩;have Hg:=rB
  have Hh:s.ok=fg s ⟨0,0,0,1,false⟩:=by
   unfold Sta.ok fg;rw[if_pos h0,h0];rw[Pc]
   simp[and_assoc]
  have Hy:=N Hh;clear Hh h0;dsimp only at HA
  go_enter func154,ntmps154
  go_wp2_with fail
  go_region_held3 (fun w'=>w'.cell? ⟨w.heap.size,0,F⟩=H (B C s.idx)/\w'.cell? ⟨w.heap.size,1,F⟩=H (B C s.term)/\w'.cell? ⟨w.heap.size,2,F⟩=H (B C s.sum)/\w'.cell? ⟨w.heap.size,3,F⟩=H (B C s.lvl)/\w'.cell? ⟨w.heap.size,4,F⟩=H (J s.fin)) (first | go_keep | (refine ⟨?_,?_,?_,?_,?_⟩ <;> assumption))
   (first | (go_at_call 83;refine (yM _).mono ?_;rintro e w1 ⟨rfl,H0⟩;have Hk:Ext (w.alloc (I #[B C s.idx,B C s.term,B C s.sum,B C s.lvl,J s.fin] 41)) w1:=xT (xD (xR _)) H0;have ea:=ae (hb.ext Hk)))
  go_wp2_with fail;go_ret
  exact ⟨by rw[Hy.out];rfl,xT hX Hk⟩
 ·have e0:(s.idx==0)=false:=by rw[beq_eq_false_iff_ne];exact h0
  cases hf:s.fin with
  | true =>
   have Hh:s.ok=((s.lvl==2)&&aB s.idx&&decide (0<s.term)&&aB s.term&&aB s.sum):=by
    unfold Sta.ok;rw[if_neg h0,if_pos hf]
    congr 4
   exact mcStatea2
  | false =>
   have Hh:s.ok=(decide (s.lvl=1\/s.lvl=2)&&aB s.idx&&decide (0<s.term)&&aB s.term&&aB s.sum):=by
    unfold Sta.ok
    rw[if_neg h0,if_neg (by rw[hf];simp)]
   exact mcStatea2
def po(s:Sta):Bool:=aB s.idx&&aB s.term&&aB s.sum&&((s.term==0)==(s.idx==0))&&(s.lvl==1||s.lvl==2)&&(!s.fin||s.lvl==2)&&(decide (0<s.idx)||fg s ⟨0,0,0,1,false⟩)
theorem NC(s:Sta):po s=s.ok:=by
 obtain⟨i,t,u,l,b⟩:=s;unfold po Sta.ok fg;dsimp only;by_cases hi:i=0
 ·subst hi;rw[if_pos rfl,Pc];simp only[Bool.and_eq_true,Bool.or_eq_true,beq_iff_eq,decide_eq_true_eq,Bool.not_eq_true',aB];constructor
  ·rintro⟨_,h⟩;rcases h with h | ⟨⟨⟨⟨_,h1⟩,h2⟩,h3⟩,h4⟩
   ·omega
   exact⟨h1,h2,h3,h4⟩
  rintro⟨rfl,rfl,rfl,rfl⟩;simp
 ·rw[if_neg hi];have a:(i==0)=false:=by simpa using hi
  have d:aB i=true->decide (0<i)=true:=λh=>decide_eq_true (by have:=numB_true.1 h;omega);cases hn:aB i with
  |false=>simp
  |true=>
   cases e:aB t with
   |false=>simp
   |true=>
    have f:=numB_true.1 e;by_cases c:t=0
    ·subst c;simp[a]
    ·have e:(t==0)=false:=by simpa using c
     have c:decide (0<t)=true:=decide_eq_true (by omega);rw[a,e,c,d hn];cases a:aB u with
     |false=>simp
     |true=>
      cases b
      ·simp;rw[Pc];simp
      ·by_cases a:l=2
       ·simp[a]
       ·simp[a]
theorem IA(i t u l:Int)(b:Bool)(w:World):Calls E 94 #[M #[B C i,B C t,B C u,B C l,J b]] w λe w'=>e=.returned (J (po ⟨i,t,u,l,b⟩))/\Ext w w':=by
 have hX:Ext w (w.alloc (I #[B C i,B C t,B C u,B C l,J b] 41)):=xA (xR _) _;have hb:=P8 w 41 #[B C i,B C t,B C u,B C l,J b];have Hf:Hid (po ⟨i,t,u,l,b⟩=(aB i&&aB t&&aB u&&((t==0)==(i==0))&&(l==1||l==2)&&(!b||l==2)&&(decide (0<i)||fg ⟨i,t,u,l,b⟩ ⟨0,0,0,1,false⟩))):=rfl;have c:=rg ⟨i,t,u,l,b⟩ ⟨0,0,0,1,false⟩;have d:=rB;dsimp only at c;go_enter func94,ntmps94
 go_wp2_with (go_at_call 161;refine(Fd _ _).mono ?_;rintro e a⟨rfl,rfl⟩)
 all_goals try(go_ret;refine⟨ret_bool ?_,xA (xR _) _⟩;rw[Hf.out];simp_all;done)
 ·subst l;obtain rfl:b=false:=by simp_all
  by_cases hi:0<i
  ·skip;refine wp_region_held_drew (S:=(λw'=>w'.cell? ⟨w.heap.size,0,F⟩=H (B C i)/\w'.cell? ⟨w.heap.size,1,F⟩=H (B C t)/\w'.cell? ⟨w.heap.size,2,F⟩=H (B C u)/\w'.cell? ⟨w.heap.size,3,F⟩=H (B C 1)/\w'.cell? ⟨w.heap.size,4,F⟩=H (J false))) (by kernel_rfl) (ae (hb.ext (xD (xR _)))) (λ_=>?_);exact mcStatea0
  skip;refine wp_region_held_drew (S:=(λw'=>w'.cell? ⟨w.heap.size,0,F⟩=H (B C i)/\w'.cell? ⟨w.heap.size,1,F⟩=H (B C t)/\w'.cell? ⟨w.heap.size,2,F⟩=H (B C u)/\w'.cell? ⟨w.heap.size,3,F⟩=H (B C 1)/\w'.cell? ⟨w.heap.size,4,F⟩=H (J false))) (by kernel_rfl) (ae (hb.ext (xD (xR _)))) (λ_=>?_);refine ab 0 ?_;refine ab 1 ?_;refine ab 2 ?_;refine ab 3 ?_;refine ab 4 ?_;refine ah 5 (λK hK=>?_);go_simp;refine(nX _).mono ?_;rintro e a⟨rfl,H0⟩;have Hk:Ext (w.alloc (I #[B C i,B C t,B C u,B C 1,J false] 41)) a:=xT (xD (xR _)) H0;exact mcStatea1
 ·try subst l
  try subst b
  by_cases hi:0<i
  ·skip;refine wp_region_held_drew (S:=(λw'=>w'.cell? ⟨w.heap.size,0,F⟩=H (B C i)/\w'.cell? ⟨w.heap.size,1,F⟩=H (B C t)/\w'.cell? ⟨w.heap.size,2,F⟩=H (B C u)/\w'.cell? ⟨w.heap.size,3,F⟩=H (B C 2)/\w'.cell? ⟨w.heap.size,4,F⟩=H (J true))) (by kernel_rfl) (ae (hb.ext (xD (xR _)))) (λ_=>?_);exact mcStatea0
  skip;refine wp_region_held_drew (S:=(λw'=>w'.cell? ⟨w.heap.size,0,F⟩=H (B C i)/\w'.cell? ⟨w.heap.size,1,F⟩=H (B C t)/\w'.cell? ⟨w.heap.size,2,F⟩=H (B C u)/\w'.cell? ⟨w.heap.size,3,F⟩=H (B C 2)/\w'.cell? ⟨w.heap.size,4,F⟩=H (J true))) (by kernel_rfl) (ae (hb.ext (xD (xR _)))) (λ_=>?_);refine ab 0 ?_;refine ab 1 ?_;refine ab 2 ?_;refine ab 3 ?_;refine ab 4 ?_;refine ah 5 (λK hK=>?_);go_simp;refine(nX _).mono ?_;rintro e a⟨rfl,H0⟩;have Hk:Ext (w.alloc (I #[B C i,B C t,B C u,B C 2,J true] 41)) a:=xT (xD (xR _)) H0;exact mcStatea1
 ·subst l;obtain rfl:b=false:=by simp_all
  by_cases hi:0<i
  ·skip;refine wp_region_held_drew (S:=(λw'=>w'.cell? ⟨w.heap.size,0,F⟩=H (B C i)/\w'.cell? ⟨w.heap.size,1,F⟩=H (B C t)/\w'.cell? ⟨w.heap.size,2,F⟩=H (B C u)/\w'.cell? ⟨w.heap.size,3,F⟩=H (B C 2)/\w'.cell? ⟨w.heap.size,4,F⟩=H (J false))) (by kernel_rfl) (ae (hb.ext (xD (xR _)))) (λ_=>?_);exact mcStatea0
  ·skip;refine wp_region_held_drew (S:=(λw'=>w'.cell? ⟨w.heap.size,0,F⟩=H (B C i)/\w'.cell? ⟨w.heap.size,1,F⟩=H (B C t)/\w'.cell? ⟨w.heap.size,2,F⟩=H (B C u)/\w'.cell? ⟨w.heap.size,3,F⟩=H (B C 2)/\w'.cell? ⟨w.heap.size,4,F⟩=H (J false))) (by kernel_rfl) (ae (hb.ext (xD (xR _)))) (λ_=>?_);refine ab 0 ?_;refine ab 1 ?_;refine ab 2 ?_;refine ab 3 ?_;refine ab 4 ?_;refine ah 5 (λK hK=>?_);go_simp;refine(nX _).mono ?_;rintro e a⟨rfl,H0⟩;have Hk:Ext (w.alloc (I #[B C i,B C t,B C u,B C 2,J false] 41)) a:=xT (xD (xR _)) H0;exact mcStatea1
theorem qJ(s:Sta)(w:World):Calls E 94 #[M #[B C s.idx,B C s.term,B C s.sum,B C s.lvl,J s.fin]] w λe w'=>e=.returned (J s.ok)/\Ext w w':=by
 rw[<-NC s];exact IA s.idx s.term s.sum s.lvl s.fin w
end Go.Proofs.YteggfecbjgbndaaGreatDoor

namespace Go.Mv
open Go.RowKit
section
variable {P:Program} {ops:Array Oper} {Q:Exit->Act->World->Prop} {md:Region.Mode} {S:World->Prop}
theorem AllReadyH.two{fuel:Nat}{c:Array Bool}{a:Act}{w:World}{i j:Nat}{o e:Oper}(k:ops.toList[i]?=H o)(f:ops.toList[j]?=H e)(l:Region.ready md ops c=[i,j])(m:Region.wanted o (yielded ops a.tmps)=true)(g:Region.wanted e (yielded ops a.tmps)=true)(h:∀d:Act->World->Prop,Shut (∀a w,S w->(S w->wpAnyH P md ops Q S fuel (c.setIfInBounds i true) a w)->d a w)->P7 P o a w d Q)(h2:∀d:Act->World->Prop,Shut (∀a w,S w->(S w->wpAnyH P md ops Q S fuel (c.setIfInBounds j true) a w)->d a w)->P7 P e a w d Q):wpAnyH P md ops Q S (fuel+1) c a w:=
 wpAnyH_ready l (by simp) (AllReadyH.cons (by simpa using k) (λK c=>by rw[if_pos m];exact h K c) (AllReadyH.cons (by simpa using f) (λK c=>by rw[if_pos g];exact h2 K c) AllReadyH.nil))
end
end Go.Mv
namespace Go.Proofs.YteggfecbjgbndaaGreatDoor
open Go.RowKit Go.Mv
variable {b:Nat} {W:World}
def dS(s:Sta):List UInt8:=bh rT (1::(aP [s.idx,s.term,s.sum]++[UInt8.ofNat s.lvl.toNat,UInt8.ofNat s.finI.toNat]))
def cJ(s:Sta):List UInt8:=2::UInt8.ofNat ((R (aF s.ints)+3) / 4)::bA (0,0) (aF s.ints)
theorem CB(P:Program)(w:World)(a:Addr)(m:Mode):(store a .nilFunc m).run P w=stored P w a .nilFunc m:=run_store P w a _ m rfl
theorem CT(P:Program)(w:World)(a:Addr)(m:Mode)(f:Fn)(x y:Array Value):(store a (.func f x y) m).run P w=stored P w a (.func f x y) m:=run_store P w a _ m rfl
attribute [local go_sem] CB CT
open Go.RowKit Go.Mv Go.Shelf
attribute [local go_sem] P6
def dp:Nat->List Int->List UInt8->Option (List Int)
 |0,acc,_=>some acc
 |k+1,acc,b=>if(az (b.take 5)).1=0 then dp k (acc++[((az (b.take 5)).2.1:Int)]) (b.drop 5)else none
def eA(b:List UInt8):Option (List Int):=if R b=22 then(dp 3 [] (b.drop 1)).map (·++[((b.getD 16 0).toNat:Int),((b.getD 17 0).toNat:Int)])else none
attribute [local go_sem] P6
def dr(b:List UInt8):List UInt8:=(bg 8 (b.drop 2)).flatMap λp=>p.take (R p-4)
def iz(b:List UInt8):Option (List Int):=if R b<2 then none else if(ao 5 [] (dr b)).1=0 then some (ao 5 [] (dr b)).2.1 else none
def ff(b:List UInt8)(f:Int):Option (List Int):=if f=2 then iz b else eA b
def fV(l:List Int):Sta:=⟨l.getD 0 0,l.getD 1 0,l.getD 2 0,l.getD 3 0,l.getD 4 0==1⟩
def dG(s:Sta)(f:Int):Option (List UInt8):=if s.ok=true then(if f=1 then some (dS s)else if f=2 then some (cJ s)else none)else none
def di(b:List UInt8)(f:Int):Option Sta:=
 match ff b f with
 |none=>none
 | some l=>match dG (fV l) f with
  |none=>none
  |some c=>if b=c then some (fV l)else none
def staZ:Sta:=⟨0,0,0,0,false⟩
theorem bR{t:TypeId}{cs:Array Value}(h:Blk W b t cs):W.frozen? ⟨b,0,F⟩=false/\W.frozen? ⟨b,1,F⟩=false/\W.frozen? ⟨b,2,F⟩=false/\W.frozen? ⟨b,3,F⟩=false/\W.frozen? ⟨b,4,F⟩=false:=
 ⟨h.frozen 0,h.frozen 1,h.frozen 2,h.frozen 3,h.frozen 4⟩
theorem cB{t:TypeId}{a v u x y:Value}(h:Blk W b t #[a,v,u,x,y])(c e d f g:Value):Blk (((((W.setCell ⟨b,0,F⟩ c).setCell ⟨b,1,F⟩ e).setCell ⟨b,2,F⟩ d).setCell ⟨b,3,F⟩ f).setCell ⟨b,4,F⟩ g) b t #[c,e,d,f,g]:=
 ((((h.set 0 c).set 1 e).set 2 d).set 3 f).set 4 g
theorem cC{w:World}(h:Ext w W)(hb:w.heap.size<=b)(a d c e f:Value):Ext w (((((W.setCell ⟨b,0,F⟩ a).setCell ⟨b,1,F⟩ d).setCell ⟨b,2,F⟩ c).setCell ⟨b,3,F⟩ e).setCell ⟨b,4,F⟩ f):=
 ((((Below.setCell h hb a).setCell hb d).setCell hb c).setCell hb e).setCell hb f
theorem zq{b:List UInt8}{f:Int}{s:Sta}(h:di b f=H s):s.ok=true/\((f=1/\b=dS s)\/(f=2/\b=cJ s))/\dG s f=H b:=by
 unfold di at h;cases e:ff b f with
 |none=>rw[e]at h;cases h
 |some l=>
  rw[e]at h;dsimp only at h;cases a:dG (fV l) f with
  |none=>rw[a]at h;cases h
  |some c=>
   rw[a]at h;dsimp only at h;split at h
   ·rename_i d;cases h;have i:=a;unfold dG at a;split at a
    ·rename_i g;refine⟨g,?_,by rw[i,d]⟩;split at a
     ·rename_i h1;cases a;exact .inl ⟨h1,d⟩
     split at a
     ·rename_i h2;cases a;exact .inr ⟨h2,d⟩
     cases a
    cases a
   ·cases h
