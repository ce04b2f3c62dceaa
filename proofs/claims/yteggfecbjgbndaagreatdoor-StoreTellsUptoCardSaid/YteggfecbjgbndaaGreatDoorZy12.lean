/- Merged -/
import Derived.Test.YteggfecbjgbndaaGreatDoorZy11
set_option linter.all false
set_option maxHeartbeats 8000000
set_option maxRecDepth 100000
open Go.Proofs.Tryz
open List renaming length->V
open Go.Value renaming int->B,slice->E,agg->J,pointer->O,bool->R,string->U
open Go.IntKind renaming i64->C,u8->N
open Go.Proofs.Tryz renaming prog->F
open Go.Obj renaming cells->G
open Option renaming some->H,none->I
open Go.Mv renaming aN->M
open List renaming length_drop->P0,length_take->P1,getD_eq_getElem?_getD->P2,getElem?_eq_getElem->P3,push_toArray->P4,cons_append->P5,length_nil->P6,foldl_cons->P7,map_cons->P8,map_nil->P9
open Go.World renaming ownsRow_nil->Pa
open Nat renaming xor_assoc->Pb,shiftRight_xor_distrib->Pc,shiftRight_eq_div_pow->Pd,zero_add->Pe,xor_zero->Pf,xor_comm->Pg,xor_mod_two_pow->Ph,xor_lt_two_pow->Pi,reduceAdd->Pj
open Go.Mv.Blk renaming new->Pk
open Go.Instr renaming findNow->Pl,lookup->Pm
open Go.Oper renaming wp->Pn,semAt_some->Po
namespace Go.Proofs.YteggfecbjgbndaaGreatDoor
open Go.RowKit Go.Mv Go.Shelf
variable {P:Prop}
theorem mcOne5a0(h:P:=by
 go_enter Tryz.func349,Tryz.ntmps349
 go_wp2_with fail
 refine K5.mono ?_;rintro e w1⟨vr,rfl,-,H3⟩;have H4:=Hh.ext H3;obtain⟨g0,g1,g2,f0,f1,f2⟩:=au H4;go_wp2_with fail
 exact bodyPost_ret (nO _ _ _ _ _ rfl rfl (bV H4 _ _ _) rfl) rfl ⟨_,rfl,Ha _,cZ (xT hX H3) (xN _) _ _ _⟩):P:=h
attribute [local go_sem] Po
variable {T:Tab}
def fU:Nat->List (Nat×Ent)->Nat
 |d,[]=>d
 |_,x::l=>fU x.1 l
theorem yZ(l:List (Nat×Ent))(x:Nat×Ent):∀d,fU d (l++[x])=x.1:=by
 induction l with
 |nil=>intro d;rfl
 |cons y l ih=>intro d;exact ih _
def bK(T:Tab)(b:List UInt8):zgM:=
 if V b<6\/b.getD 0 0≠1 then⟨11,0,[],0,(0,0)⟩
 else if(az ((b.drop 1).take 5)).1=0/\(az ((b.drop 1).take 5)).2.1≠0 then⟨0,(az ((b.drop 1).take 5)).2.1,(cG T (b.drop 6) 6).map (·.2),fU 6 (cG T (b.drop 6) 6),(0,0)⟩
 else⟨11,0,[],0,(0,0)⟩
theorem pw:Tryz.prog.underlying 90=H (.struct (Tryz.prog.fieldsOf 90)):=by kernel_rfl
theorem nO(tmps:Array Value)(W:World)(b:Nat)(cs:Array Value)(u:Value)(h2:tmps.getD 2 undef=O (H ⟨b,0,I⟩))(h3:tmps.getD 3 undef=u)(hb:Blk W b 90 cs)(hs:cs.size=3):(results Tryz.f349 tmps).run F W=.ok (.tuple #[.agg cs,u]) W:=by
 have hl:=hb.load (P:=F) pw rfl (by rw[hs];kernel_rfl);have a:tmps[2]?.getD undef=O (H ⟨b,0,I⟩):=by simpa using h2
 have c:tmps[3]?.getD undef=u:=by simpa using h3
 simp[results,results349,a,c,asAddr,hl]
theorem Lf(b:List UInt8):∀p,V (cG T b p)*15<=V b:=by
 generalize hn:V b=n;induction n using Nat.strongRecOn generalizing b with
 |_ n ih=>
  intro p;by_cases h:V b<15
  ·rw[qo h];simp
  ·cases a:ei T (b.take 15)with
   |none=>rw[qS h a];simp
   |some e=>
    have:=ih (b.drop 15).length (by rw[P0];omega) (b.drop 15) rfl (p+15);rw[qT h a,xC];rw[P0]at this;omega
theorem o5(W:World)(x:Ent):Es (W.alloc (G #[B C x.t,B C x.k,B C x.v] 54)) (E (H ⟨W.heap.size,0,I⟩) 1 1) [x]:=by
 refine⟨by simp[ax,Ent.cells],_,1,rfl,xN _,by simp[maxLen],λ_=>⟨W.heap.size,0,rfl,λj u a=>?_⟩⟩;rw[Pe];exact(Pk W 54 #[B C x.t,B C x.k,B C x.v]).cell j (by simpa[ax,Ent.cells]using a)
def ScI(w:World)(f:Nat)(a:List (Nat×Ent))(X:World):Prop:=∃b,Blk X w.heap.size 90 #[B C f,b,B C (fU 6 a:Nat)]/\OwnE X w.heap.size b (a.map (·.2))/\Ext w X
theorem IN(v:Value)(bs:List UInt8)(w:World)(d:Bs w v bs)(h:(bK T bs).err=11):Calls F 349 #[v] w (eB w (bK T bs)):=by
 obtain⟨A,c,rfl,h1,h2⟩:=xO d;have Hh:=Pk w 90 #[B C 0,E none 0 0,B C 0];have hX:Ext w (w.alloc (G #[B C 0,E none 0 0,B C 0] 90)):=xA (xR _) _;have g:bK T bs=⟨11,0,[],0,(0,0)⟩:=by
  unfold bK at h⊢;split
  ·rfl
  rename_i hn;rw[if_neg hn]at h;split
  ·rename_i h3;rw[if_pos h3]at h;cases h
  rfl
 rw[g];have Ha:∀W:World,W.ownsRow w.heap.size 54 3 (E none 0 0) ([]:List Ent).length (ax []):=λW=>Pa _ _ _ _;by_cases m:V bs<6
 ·have y:((V bs:Int)<6):=by omega
  clear g h d;obtain⟨g0,g1,g2,f0,f1,f2⟩:=au Hh;go_enter func349,ntmps349
  go_wp2_with fail
  exact bodyPost_ret (nO _ _ _ _ _ rfl rfl Hh rfl) rfl ⟨_,rfl,Ha _,hX⟩
 ·have y:¬((V bs:Int)<6):=by omega
  obtain⟨_,b,s,rfl,hc⟩:=Bs.at_ d (by omega);have j:=hc 0 (by omega);obtain⟨a,i⟩:∃a,bs[0]'(by omega)=a:=⟨_,rfl⟩;rw[i]at j;have n:bs.getD 0 0=a:=by rw[<-i];simp[P2,P3 (show 0<V bs by omega)]
  have x:=iQ j (G #[B C 0,E none 0 0,B C 0] 90);rw[Nat.add_zero]at x;by_cases hx:a=1
  ·have D:((a.toNat:Int) != 1)=false:=by rw[hx];rfl
   have l:=f8 d 1 5 (by omega);obtain⟨p,k⟩:∃p,(bs.drop 1).take 5=p:=⟨_,rfl⟩;have r:V p=5:=by rw[<-k,P1,P0];omega
   rw[k]at l;have q:Bs w (E (H ⟨b,s+1,I⟩) 5 (c-1)) p:=SlR.capd l (by rw[r];omega) (by omega);have key:=ml _ p _ (q.ext hX);have o:(az p).1≠0\/(az p).2.1=0:=by
    unfold bK at h;rw[if_neg (by rw[n,hx];intro h;rcases h with h | h;exact m h;exact h rfl)]at h;rw[k]at h;by_cases h1:(az p).1=0
    ·by_cases h2:(az p).2.1=0
     ·exact .inr h2
     rw[if_pos ⟨h1,h2⟩]at h;cases h
    exact .inl h1
   rcases f:az p with⟨e1,t,rest⟩
   rw[f]at key o;have K5:=M key;have J:(6:Int)<=(c:Int):=by omega
   clear key f k r l q g h d hc j i n m hx;rcases o with h1 | h1
   ·have z:((e1:Int) != 0)=true:=by simpa using h1
    clear h1;exact mcOne5a0
   by_cases he:e1=0
   ·dsimp only at h1;subst h1 he;exact mcOne5a0
   have z:((e1:Int) != 0)=true:=by simpa using he
   clear h1 he;exact mcOne5a0
  ·have D:((a.toNat:Int) != 1)=true:=by
    rw[bne_iff_ne];intro h;apply hx;apply UInt8.toNat_inj.1;show a.toNat=1;omega
   clear g h d hc j i n m hx;obtain⟨g0,g1,g2,f0,f1,f2⟩:=au Hh;go_enter func349,ntmps349
   go_wp2_with fail
   exact bodyPost_ret (nO _ _ _ _ _ rfl rfl Hh rfl) rfl ⟨_,rfl,Ha _,hX⟩
theorem Ev(A:Option Addr)(n c:Nat)(w:World):Calls F 351 #[E A n c] w λe w'=>e=.returned (.func (.func 352) #[] #[O (H ⟨w.heap.size,0,I⟩)])/\w.alloc (G #[E A n c] 33)=w':=by
 go_enter func351,ntmps351
 go_wp2;go_ret;exact⟨rfl,rfl⟩
theorem Mk(v:Value)(bs:List UInt8)(w:World)(f:Bs w v bs)(hl:V bs<=2000000)(hT:TabW T w)(h:(bK T bs).err≠11):Calls F 349 #[v] w (eB w (bK T bs)):=by
 obtain⟨A,c,rfl,h1,h2⟩:=xO f;have Hh:=Pk w 90 #[B C 0,E none 0 0,B C 0];have hX:Ext w (w.alloc (G #[B C 0,E none 0 0,B C 0] 90)):=xA (xR _) _;unfold bK at h⊢;by_cases hd:V bs<6\/bs.getD 0 0≠1
 ·rw[if_pos hd]at h;exact absurd rfl h
 rw[if_neg hd]at h⊢;by_cases hf:(az ((bs.drop 1).take 5)).1=0/\(az ((bs.drop 1).take 5)).2.1≠0
 case neg=>rw[if_neg hf]at h;exact absurd rfl h
 rw[if_pos hf];have H2:6<=V bs:=by
  rcases Nat.lt_or_ge bs.length 6 with q | q
  ·exact absurd (Or.inl q) hd
  exact q
 have Hq:bs.getD 0 0=1:=by
  by_cases q:bs.getD 0 0=1
  ·exact q
  exact absurd (Or.inr q) hd
 obtain⟨_,b,l,rfl,hc⟩:=Bs.at_ f (by omega);have He:=hc 0 (by omega);have Hc:bs[0]'(by omega)=1:=by rw[<-Hq];simp[P2,P3 (show 0<V bs by omega)]
 rw[Hc]at He;have HI:(w.alloc (G #[B C 0,E none 0 0,B C 0] 90)).cell? ⟨b,l,I⟩=H (B N 1):=iQ He _;have H0:=f8 f 1 5 (by omega);obtain⟨p,hp⟩:∃p,(bs.drop 1).take 5=p:=⟨_,rfl⟩;have Hg:V p=5:=by rw[<-hp,P1,P0];omega
 rw[hp]at H0 hf⊢;have Hd:Bs w (E (H ⟨b,l+1,I⟩) 5 (c-1)) p:=SlR.capd H0 (by rw[Hg];omega) (by omega);have key:=ml _ p _ (Hd.ext hX);rcases htl:az p with⟨e1,t,rest⟩
 rw[htl]at key hf;obtain⟨rfl,Kp⟩:=hf;have K5:=M key;have KO:(6:Int)<=(c:Int):=by omega
 have HK:¬((V bs:Int)<6):=by omega
 have J7:((t:Int)==0)=false:=by rw[beq_eq_false_iff_ne];dsimp only at Kp;omega
 obtain⟨L,hL⟩:∃L,cG T (bs.drop 6) 6=L:=⟨_,rfl⟩;have HB:=M f;have HT:=M hT;dsimp only;rw[hL];have HL:=M hL;have J8:w.heap.size<(w.alloc (G #[B C 0,E none 0 0,B C 0] 90)).heap.size:=Hh.lt;refine(callsIn_wd (ro:=none) (n:=9)).1 ?_;refine callsIn_of_wp_marks func349 rfl trivial ?_ rfl;simp only[ntmps349,List.size_toArray,xC,P6,Pj,Nat.reduceSub,Array.replicate_succ,Array.replicate_zero,P4,List.append_toArray,xI,P5];gi_wp2_with (refine⟨trivial,?_⟩;gi_at_call 204;refine(callsIn_wd.2 K5.out).mono ?_;rintro e w1⟨vr,rfl,-,H3⟩;have H4:=Hh.ext H3;have Kf:=M H3;obtain⟨g0,g1,g2,f0,f1,f2⟩:=au H4)
 have Hk:=bV H4 (B C t) (E none 0 0) (B C 6);have Hp:Ext w (((w1.setCell ⟨w.heap.size,0,I⟩ (B C t)).setCell ⟨w.heap.size,1,I⟩ (E none 0 0)).setCell ⟨w.heap.size,2,I⟩ (B C 6)):=cZ (xT hX Kf.out) (xN _) _ _ _;generalize(((w1.setCell ⟨w.heap.size,0,I⟩ (B C t)).setCell ⟨w.heap.size,1,I⟩ (E none 0 0)).setCell ⟨w.heap.size,2,I⟩ (B C 6))=w2 at *;refine⟨trivial,?_⟩;refine(callsIn_wd.2 (Ev _ _ _ _)).mono ?_;rintro e w3⟨rfl,rfl⟩;have qB:Boxed (w2.alloc (G #[E (H ⟨b,l,I⟩) bs.length c] 33)) w2.heap.size 33 (E (H ⟨b,l,I⟩) bs.length c):=Boxed.new _ _ _;have Ki:Ext w (w2.alloc (G #[E (H ⟨b,l,I⟩) bs.length c] 33)):=xA Hp _;have hb3:=Hk.alloc (G #[E (H ⟨b,l,I⟩) bs.length c] 33);have h0:ScI w t [] (w2.alloc (G #[E (H ⟨b,l,I⟩) bs.length c] 33)):=⟨_,hb3,Pa _ _ _ _,Ki⟩;have J3:w.heap.size<w2.heap.size:=Hk.lt;have Km:(w2.alloc (G #[E (H ⟨b,l,I⟩) bs.length c] 33)).heap.size=w2.heap.size+1:=by simp
 gi_wp2;generalize w2.alloc (G #[E (H ⟨b,l,I⟩) bs.length c] 33)=w3 at *;refine mB (λTT K=>?_);refine dV (a:=⟨TT,[]⟩) (by subst K;rfl) (enters_of func352 (by kernel_rfl) rfl)
  (λW1 hb hs=>Ef (T:=T) w W1 _ bs HB hl (λq u y=>Ext.cell (xT Ki hb) y) HT w2.heap.size w.heap.size w.heap.size (qB.kept (row:=none) (Ext.grown hb none) (by simp)) (by omega) (xN _) (xN _))
  (λk o h=>h.elim) (λk o h=>h.1) (λx av W h=>by rw[h.1];rfl)
  (ScI w t) (λ_ _ _=>False) ?hI (λ_ _ _ _ h _=>h) h0
  (λx a' W=>∃q,Blk W q 54 #[B C x.2.t,B C x.2.k,B C x.2.v]/\a'=⟨(((TT.setIfInBounds 36 (B C x.1)).setIfInBounds 37 (J #[B C x.2.t,B C x.2.k,B C x.2.v])).setIfInBounds 6 (B C x.1)).setIfInBounds 7 (O (H ⟨q,0,I⟩)),[]⟩)
  ?hAx ?assign ?body ?done (λ_ _ _ _ _ _ h _=>h.elim)
 case hI=>
  rintro s X Y⟨z,d,R,f⟩hm;refine⟨z,hm.same _ _ d ?_,hm.ownsRow R ?_,hm.belowOf f ?_ (xN _)⟩
  ·rintro(h | h)
   ·exact h
   cases h.2
  ·rintro k Kz _(h | h)
   ·exact h
   cases h.2
  rintro k o l(h | h)
  ·exact h
  have:=h.1;omega
 case hAx=>
  rintro x a' X Y⟨q,y,rfl⟩hm;refine⟨q,hm.same _ _ y ?_,rfl⟩;rintro(h | h)
  ·exact h
  cases h.2
 case assign=>
  rintro l' m x Kd W av l hx hi Kb⟨rfl,l⟩hK;obtain⟨z,d,R,f⟩:=hi;have Hi:Hid (ScI w t m (W.alloc (G #[B C x.2.t,B C x.2.k,B C x.2.v] 54))):=⟨z,d.alloc _,R.alloc _,xA f _⟩;have HQ:=M (Pk W 54 #[B C x.2.t,B C x.2.k,B C x.2.v]);have Hx:=M hx;subst K;gi_wp2;exact hK _ _ (Kept.refl.alloc _) Hi ⟨W.heap.size,HQ.out,rfl⟩
 case body=>
  rintro l' m x Kd a' W hx l R⟨z,d,H1,f⟩Kb⟨q,y,rfl⟩;have Hg:V (m.map (·.2))+1<=200000:=by
   have h3:=Lf (T:=T) (bs.drop 6) 6;rw[hx,xL,xC,P0]at h3;rw[List.length_map];omega
  have l:(m++[x]).map (·.2)=m.map (·.2)++[x.2]:=by simp
  have Q:fU 6 (m++[x])=x.1:=yZ m x 6;have Kx:=M l;have Z:=M Q;have Hx:=M hx;generalize m.map (·.2)=P at *;generalize fU 6 m=j at *;obtain⟨g,i,rfl,_,_⟩:=xO (xW H1);have K9:=d.not_row (e:=54) (by decide) H1;obtain⟨g0,g1,g2,_,_,_⟩:=au d;obtain⟨l,l,l,_,_,_⟩:=au y;obtain⟨i0,hi,HY,HZ,K0⟩:=info_parts ic;have K7:=o5 W x.2;have Hj:OwnE (W.alloc (G #[B C x.2.t,B C x.2.k,B C x.2.v] 54)) w.heap.size (E g P.length i) P:=H1.alloc _;have Kq:=d.alloc (G #[B C x.2.t,B C x.2.k,B C x.2.v] 54);have KK:w.heap.size<=(W.alloc (G #[B C x.2.t,B C x.2.k,B C x.2.v] 54)).heap.size:=Nat.le_of_lt Kq.lt;subst K;gi_wp2_with (gi_at_builtin;refine lk _ rfl (.tmp 39) (.tmp 41) 42 rfl w.heap.size 54 i0 _ 3 24 underlying42 hi HY HZ K0 rfl (by decide) _ P.length (ax P) rfl Hj _ 1 (ax [x.2]) rfl K7 (ie _) (by unfold maxLen;omega) (by omega) KK ?_;intro l w4 U H8;obtain⟨S,c5,rfl,_,_⟩:=xO (xW U);have l:=Kq.kept H8 K9;obtain⟨m,m,m,m,z1,z2⟩:=au l)
  have y:=U.kept (ar w4 w.heap.size 1 (E S (V P+1) c5)) (.inr (l.not_row (by decide) U).symm);have m:=l.set 1 (E S (V P+1) c5);have o2:=y.kept (ar _ w.heap.size 2 (B C x.1)) (.inr (m.not_row (by decide) y).symm);have KZ:=m.set 2 (B C x.1);refine⟨(((Kept.refl.alloc _).grown H8 (λk o ek r=>?_)).setCell (λo r _=>?_) _).setCell (λo r _=>?_) _,E S (V P+1) c5,?_,?_,?_⟩
  ·obtain⟨Kz,K6⟩:=lm H1 ek;rw[r]at K6;cases K6;rintro(⟨_,_,h⟩|⟨_,h⟩)
   ·rcases h with h | h
    ·have:=(H1.lt k ek).1;omega
    exact h rfl
   cases h
  ·rw[show W.heap[w.heap.size]?=_ from d]at r;cases r;rintro(⟨_,h,_⟩|⟨_,h⟩)
   ·exact h rfl
   cases h
  ·rw[show W.heap[w.heap.size]?=_ from d]at r;cases r;rintro(⟨_,h,_⟩|⟨_,h⟩)
   ·exact h rfl
   cases h
  ·rw[Z.out];exact KZ
  ·rw[Kx.out];have l:V P+1=V (P++[x.2]):=by simp
   rw[l]at o2⊢;unfold OwnE;have l:ax (P++[x.2])=ax P++ax [x.2]:=by simp[ax]
   rw[l];exact o2
  have l:Ext w w4:=Ext.grownOwn (xA f (G #[B C x.2.t,B C x.2.k,B C x.2.v] 54)) Hj H8;exact(Below.setCell (p:=⟨w.heap.size,1,I⟩) l (xN _) _).setCell (p:=⟨w.heap.size,2,I⟩) (xN _) _
 case done=>
  rintro D W hD⟨z,d,H1,f⟩hK;rw[HL.out]at d H1;obtain⟨P,l⟩:∃P,L.map (·.2)=P:=⟨_,rfl⟩;obtain⟨j,Q⟩:∃j,fU 6 L=j:=⟨_,rfl⟩;rw[l]at H1;rw[Q]at d;have HP:=M l;have Z:=M Q;obtain⟨g,i,rfl,_,_⟩:=xO (xW H1);obtain⟨g0,g1,g2,f0,f1,f2⟩:=au d;subst K;gi_wp2;have m:Blk (dw W w.heap.size (B C t) (E g P.length i) (B C j)) w.heap.size 90 #[B C t,E g P.length i,B C j]:=bV d _ _ _;have r:=fK d (Kp:=(by decide:(90:TypeId)≠54)) H1 (B C t) (E g P.length i) (B C j);have l:Ext w (dw W w.heap.size (B C t) (E g P.length i) (B C j)):=cZ f (xN _) _ _ _;have d:(dw W w.heap.size (B C t) (E g P.length i) (B C j)).heap[D]?=H (.deferred (some [])):=dK (dK (dK hK rfl ⟨w.heap.size,0,I⟩ _) rfl ⟨w.heap.size,1,I⟩ _) rfl ⟨w.heap.size,2,I⟩ _;have f:Blk ((dw W w.heap.size (B C t) (E g P.length i) (B C j)).putObj D (.deferred none)) w.heap.size 90 #[B C t,E g P.length i,B C j]:=(World.putObj_heap_other (by omega)).trans m;refine dh d (.tuple #[J #[B C t,E g P.length i,B C j],B C 0]) (nO _ _ _ _ _ rfl rfl f rfl) ?_;refine⟨E g P.length i,by rw[Z.out],?_,cp l _⟩;dsimp only;rw[HP.out];exact ownsRow_putObj r (.deferred none) d rfl
theorem IM(v:Value)(bs:List UInt8)(w:World)(a:Bs w v bs)(hl:V bs<=2000000)(b:TabW T w):Calls F 349 #[v] w (eB w (bK T bs)):=by
 by_cases h:(bK T bs).err=11
 ·exact IN v bs w a h
 ·exact Mk v bs w a hl b h
open Go.RowKit Go.Mv
theorem mcEith1a0(h:P:=by
 go_wp2_with fail
 refine key.mono ?_;rintro e w1⟨vl,rfl,HM,H3⟩;have Hm:OwnE w1 _ vl r.log:=HM;obtain⟨A1,c1,rfl,_,_⟩:=xO Hm.es;have H4:=hb.ext H3;obtain⟨g0,g1,g2,f0,f1,f2⟩:=au H4;go_wp2_with fail;have Hu:=fK H4 (Kp:=(by decide:(90:TypeId)≠54)) HM (B C r.first) (E A1 r.log.length c1) (B C r.used);refine bodyPost_ret (q8 rfl _ _ _ _ _ rfl rfl (bV H4 _ _ _) rfl) rfl ⟨_,rfl,ay Hu hX.size,cZ (xT hX H3) (Nat.le_succ _) _ _ _⟩):P:=h
variable {T:Tab}
theorem q8{fn:Func}{p q:Tmp}(e:fn.results = #[.cell p 90,.tmp q])(tmps:Array Value)(W:World)(b:Nat)(cs:Array Value)(u:Value)(c:tmps.getD p undef=O (H ⟨b,0,I⟩))(d:tmps.getD q undef=u)(hb:Blk W b 90 cs)(hs:cs.size=3):(results fn tmps).run F W=.ok (.tuple #[.agg cs,u]) W:=by
 have hl:=hb.load (P:=F) pw rfl (by rw[hs];kernel_rfl);have a:tmps[p]?.getD undef=O (H ⟨b,0,I⟩):=by simpa using c
 have c:tmps[q]?.getD undef=u:=by simpa using d
 simp[results,e,a,c,asAddr,hl]
def fmtMap:Array MapEntry:=#[{ key:=B C 1,val:=.iface 267 (J #[]),born:=0 },{ key:=B C 2,val:=.iface 268 (J #[]),born:=1 }]
theorem Cs(w:World)(es:Array MapEntry)(c:Nat)(n:Int)(v:Value)(hn:Pl (.int .i64) (B C n) es.toList 0=H none):
  (Instr.mapUpdate 208 (.map (some w.heap.size)) (B C n) v).run F (w.alloc (.map es c))=.ok () (w.alloc (.map (es.push { key:=B C n,val:=v,born:=c }) (c+1))):=
 nP w .i64 underlying208 underlying3 es c n v hn
theorem ta(w:World):Calls F 166 #[] w λe w'=>e=.returned (.map (some w.heap.size))/\w.alloc (.map fmtMap 2)=w':=by
 have a:=@run_makeMap F;have a:=Cs w #[] 0 1 (.iface 267 (J #[])) rfl;have h1:=Cs w #[{ key:=B C 1,val:=.iface 267 (J #[]),born:=0 }] 1 2 (.iface 268 (J #[])) rfl;simp only[P4,xI,P5,Pj]at a h1;go_enter func166,ntmps166
 go_wp2;go_ret;exact⟨rfl,rfl⟩
theorem AF(f:Int):Pl (.int .i64) (B C f) fmtMap.toList 0=H (if f=1 then some (0,.iface 267 (J #[]))else if f=2 then some (1,.iface 268 (J #[]))else none):=by
 by_cases h1:f=1
 ·subst h1;rfl
 ·by_cases h2:f=2
  ·subst h2;rfl
  ·have e1:(f==1)=false:=by simp[h1]
   have e2:(f==2)=false:=by simp[h2]
   rw[if_neg h1,if_neg h2];simp[fmtMap,Pl,Instr.sameNow,e1,e2]
theorem ND(W:World)(r:Nat)(h:W.heap[r]?=H (.map fmtMap 2))(f:Int):
  (Pm 208 (.map (some r)) (B C f) true).run F W=.ok (.tuple #[if f=1 then .iface 267 (J #[])else if f=2 then .iface 268 (J #[])else .nilIface,R (decide (f=1\/f=2))]) W /\
  (Pm 208 (.map (some r)) (B C f) false).run F W=.ok (if f=1 then .iface 267 (J #[])else if f=2 then .iface 268 (J #[])else .nilIface) W:=by
 have a:=tE (P:=F) W .i64 underlying208 underlying3 fmtMap 2 f .nilIface (by kernel_rfl) h _ (AF f);have b:=tr (P:=F) W .i64 underlying208 underlying3 fmtMap 2 f .nilIface (by kernel_rfl) h _ (AF f);rw[a,b];by_cases h1:f=1
 ·subst h1;exact⟨rfl,rfl⟩
 ·by_cases h2:f=2
  ·subst h2;exact⟨rfl,rfl⟩
  ·simp[h1,h2]
theorem mth (w:World):
  (method 272 267 (J #[]) "moult/either.file").run F w=.ok (344,J #[]) w/\(method 272 268 (J #[]) "moult/either.file").run F w=.ok (354,J #[]) w /\
  (method 272 267 (J #[]) "moult/either.scan").run F w=.ok (346,J #[]) w/\(method 272 268 (J #[]) "moult/either.scan").run F w=.ok (356,J #[]) w /\
  (method 272 267 (J #[]) "moult/either.more").run F w=.ok (345,J #[]) w/\(method 272 268 (J #[]) "moult/either.more").run F w=.ok (355,J #[]) w:=by
 refine ⟨?_,?_,?_,?_,?_,?_⟩ <;> kernel_rfl
theorem PJ(w:World):(w.alloc (.map fmtMap 2)).heap[w.heap.size]?=H (.map fmtMap 2):=World.alloc_heap_new _ _
def bY(T:Tab)(b:List UInt8)(f:Int):zgM:=if f=1 then bK T b else if f=2 then cz b else⟨2,0,[],0,(0,0)⟩
theorem Ff(v:Value)(bs:List UInt8)(w:World)(a:Bs w v bs)(hl:V bs<=2000000)(d:TabW T w):Calls F 346 #[J #[],v] w (eB w (bK T bs)):=by
 have b:Ext w (w.alloc (G #[] 267)):=xA (xR _) _;have hX:Ext w ((w.alloc (G #[] 267)).alloc (G #[B C 0,E none 0 0,B C 0] 90)):=xA b _;have hb:=Pk (w.alloc (G #[] 267)) 90 #[B C 0,E none 0 0,B C 0];rw[xS]at hb;have key:=M (IM (T:=T) v bs _ (a.ext hX) hl (d.ext hX));obtain⟨A,c,rfl,_,_⟩:=xO a;obtain⟨r,a⟩:∃r,bK T bs=r:=⟨_,rfl⟩;rw[a]at key⊢;go_enter func346,ntmps346
 exact mcEith1a0
theorem C8(v:Value)(bs:List UInt8)(w:World)(a:Bs w v bs)(hl:V bs<=2000000):Calls F 356 #[J #[],v] w (eB w (cz bs)):=by
 have b:Ext w (w.alloc (G #[] 268)):=xA (xR _) _;have hX:Ext w ((w.alloc (G #[] 268)).alloc (G #[B C 0,E none 0 0,B C 0] 90)):=xA b _;have hb:=Pk (w.alloc (G #[] 268)) 90 #[B C 0,E none 0 0,B C 0];rw[xS]at hb;have key:=M (Ml v bs _ (a.ext hX) hl);obtain⟨A,c,rfl,_,_⟩:=xO a;obtain⟨r,a⟩:∃r,cz bs=r:=⟨_,rfl⟩;rw[a]at key⊢;go_enter func356,ntmps356
 exact mcEith1a0
theorem mcEith2a0(h:P:=by
 rw[hr]at key⊢;go_enter Tryz.func98,Tryz.ntmps98
 go_wp2_with (go_at_call 166;refine(ta _).mono ?_;rintro e w' ⟨rfl,rfl⟩)
 refine key.mono ?_;rintro e w1⟨vl,rfl,HM,H3⟩;have Hm:OwnE w1 _ vl r.log:=HM;obtain⟨A1,c1,rfl,_,_⟩:=xO Hm.es;have Hk:=H4.ext H3;obtain⟨g0,g1,g2,f0,f1,f2⟩:=au Hk;go_wp2_with fail;have Hu:=fK Hk (Kp:=(by decide:(90:TypeId)≠54)) HM (B C r.first) (E A1 r.log.length c1) (B C r.used);exact bodyPost_ret (q8 rfl _ _ _ _ _ rfl rfl (bV Hk _ _ _) rfl) rfl ⟨_,rfl,ay Hu hX.size,cZ (xT hX H3) (xN _) _ _ _⟩):P:=h
attribute [local go_sem] Po
variable {T:Tab}
theorem Ll{b:List UInt8}{f:Int}(h:¬(f=1\/f=2)):bY T b f=⟨2,0,[],0,(0,0)⟩:=by
 unfold bY;rw[if_neg (λq=>h (.inl q)),if_neg (λq=>h (.inr q))]
theorem Ia(v:Value)(bs:List UInt8)(f:Int)(w:World)(b:Bs w v bs)(hl:V bs<=2000000)(g:TabW T w):Calls F 98 #[v,B C f] w (eB w (bY T bs f)):=by
 have hb:=Pk w 90 #[B C 0,E none 0 0,B C 0];have d:Ext w (w.alloc (G #[B C 0,E none 0 0,B C 0] 90)):=xA (xR _) _;have hX:Ext w ((w.alloc (G #[B C 0,E none 0 0,B C 0] 90)).alloc (.map fmtMap 2)):=xA d _;have H4:=hb.alloc (.map fmtMap 2);obtain⟨a,_⟩:=ND _ _ (PJ (w.alloc (G #[B C 0,E none 0 0,B C 0] 90))) f;rw[xS]at a;obtain⟨A,c,rfl,_,_⟩:=xO b;by_cases h1:f=1
 ·subst h1;have hr:bY T bs 1=bK T bs:=rfl;rw[hr];have key:=M (Ff (T:=T) _ bs _ (b.ext hX) hl (g.ext hX));simp only[if_true,true_or,decide_true]at a;have hm:=λw=>(mth w).2.2.1;obtain⟨r,hr⟩:∃r,bK T bs=r:=⟨_,rfl⟩;exact mcEith2a0
 ·by_cases h2:f=2
  ·subst h2;have hr:bY T bs 2=cz bs:=rfl;rw[hr];have key:=M (C8 _ bs _ (b.ext hX) hl);have b:(Pm 208 (.map (some (w.heap.size+1))) (B C 2) true).run F ((w.alloc (G #[B C 0,E none 0 0,B C 0] 90)).alloc (.map fmtMap 2))=.ok (.tuple #[.iface 268 (J #[]),R true]) ((w.alloc (G #[B C 0,E none 0 0,B C 0] 90)).alloc (.map fmtMap 2)):=a;have hm:=λw=>(mth w).2.2.2.1;obtain⟨r,hr⟩:∃r,cz bs=r:=⟨_,rfl⟩;exact mcEith2a0
  ·have hr:bY T bs f=⟨2,0,[],0,(0,0)⟩:=Ll (by omega);rw[hr];have hd:decide (f=1\/f=2)=false:=by simp[h1,h2]
   rw[if_neg h1,if_neg h2,hd]at a;obtain⟨g0,g1,g2,f0,f1,f2⟩:=au H4;go_enter func98,ntmps98
   go_wp2_with (go_at_call 166;refine(ta _).mono ?_;rintro e w' ⟨rfl,rfl⟩)
   exact bodyPost_ret (q8 rfl _ _ _ _ _ rfl rfl H4 rfl) rfl ⟨_,rfl,Pa _ _ _ _,hX⟩
end Go.Proofs.YteggfecbjgbndaaGreatDoor

namespace Go.Mv
open Go.RowKit
theorem fJ{P:Program}(w:World){o:Oper}{a:Act}{K:Act->World->Prop}{Q:Exit->Act->World->Prop}(s x:Operand)(t:TypeId)(ho:o.op=.call { callee:=.builtin .append,args:=#[s,x],argTypes:=#[t,t] })(base:Nat)(e:TypeId)(i:TypeInfo)(z:Value)(size bytes:Nat)(ht:P.underlying t=H (.slice e))(hi:P.info? e=H i)(hz:i.zero=H z)(HO:i.size=size)(KN:i.bytes=bytes)(J1:z.cells.size=size)(v:Value)(n:Nat)(xs:List Value)(Ka:w.ownsRow base e size v n xs)(vx:Value)(m:Nat)(news:List Value)(hr:SlR w size vx m news)(h1:∀u∈news,u.oneCell'=true)(HH:base<=w.heap.size)(h:∀v' w',w'.ownsRow base e size v' (n+m) (xs++news)->w.grownBy w' v.ownBlock->K (a.put o.dst v') w')(Kb:0<size:=by decide)(hs:a.eval s=v:=by rfl)(hx:a.eval x=vx:=by rfl)(KD:n+m<=maxLen:=by unfold maxLen;omega)(Hl:(n+m)*bytes<=140737488355328:=by omega):Pn P o a w K Q:=by
 obtain⟨v',w',Ho,h2,h3⟩:=ep (P:=P) w base t o.type e i z size bytes ht hi hz HO KN J1 Kb v n xs Ka vx m news hr h1 KD Hl HH;unfold Pn execOp;simp only[ho,resolve,invoke,builtin,Sem.run_bind,Sem.run_pure,Result.andThen_ok,List.map_toArray,P8,P9,hs,hx,Ho];exact h v' w' h2 h3
theorem C7{P:Program}(w:World){o:Oper}{a:Act}{K:Act->World->Prop}{Q:Exit->Act->World->Prop}(c b e:TypeId)(x:Operand)(f:o.op=.convert c b x)(hs:P.underlying c=H (.slice e))(he:P.underlying e=H (.int .u8))(hd:P.underlying b=H .string){v:Value}{bs:List UInt8}(hx:a.eval x=v)(hb:Bs w v bs)(h:K (a.put o.dst (U ⟨bs.toArray⟩)) w):Pn P o a w K Q:=by
 have d:=eh (P:=P) w c b e hs he hd hb;unfold Pn execOp;simp only[f,Sem.run_bind,Sem.run_pure,Result.andThen_ok,hx,d];exact h
end Go.Mv
namespace Go.Proofs.YteggfecbjgbndaaGreatDoor
open Go.RowKit Go.Mv
def bU(x:Nat):Nat:=if x % 2=1 then(x / 2) ^^^ 2197175160 else x / 2
theorem Nx(a b:Nat):(a ^^^ b) / 2=(a / 2) ^^^ (b / 2):=by
 have:=Pc (a:=a) (b:=b) (i:=1);simpa[Pd]using this
theorem zG(a b:Nat):(a ^^^ b) / 16=(a / 16) ^^^ (b / 16):=by
 have:=Pc (a:=a) (b:=b) (i:=4);simpa[Pd]using this
theorem Ny(a b:Nat):(a ^^^ b) % 2=(a % 2) ^^^ (b % 2):=Ph (n:=1)
theorem Om(a b:Nat):(a ^^^ b) % 16=(a % 16) ^^^ (b % 16):=Ph (n:=4)
theorem ou(a b:Nat):bU (a ^^^ b)=bU a ^^^ bU b:=by
 unfold bU;rw[Ny,Nx];have c:a % 2=0\/a % 2=1:=by omega
 have hb:b % 2=0\/b % 2=1:=by omega
 rcases c with c | c<;>rcases hb with hb | hb<;>rw[c,hb]<;>simp
 ·rw[Pb]
 ·rw[Pb,Pb,Pg (b / 2)]
 ·rw[Pb,<-Pb 2197175160,Pg 2197175160 (b / 2),Pb,Nat.xor_self,Pf]
theorem nU(q:Nat):bU (2*q)=q:=by
 unfold bU;rw[if_neg (by omega)];omega
theorem MV(x:Nat):x=(16*(x / 16)) ^^^ (x % 16):=by
 have h1:((16*(x / 16)) ^^^ (x % 16)) / 16=x / 16:=by
  rw[zG,show x % 16 / 16=0 from by omega,Pf];omega
 have h2:((16*(x / 16)) ^^^ (x % 16)) % 16=x % 16:=by
  rw[Om,show 16*(x / 16) % 16=0 from by omega,Nat.zero_xor];omega
 omega
theorem Qf(x:Nat):bU (bU (bU (bU x)))=crcTab.getD (x % 16) 0 ^^^ (x / 16):=by
 have key:∀r,r<16->bU (bU (bU (bU r)))=crcTab.getD r 0:=by decide
 conv=>lhs;rw[MV x]
 rw[ou,ou,ou,ou,key _ (Nat.mod_lt _ (by decide)),show 16*(x / 16)=2*(2*(2*(2*(x / 16))))from by omega,nU,nU,nU,nU,Pg]
theorem Fr(s h:Nat)(a:h<16):bU (bU (bU (bU (s ^^^ h))))=cH rT s h:=by
 rw[Qf,zG,show h / 16=0 from by omega,Pf];rfl
theorem NG{x:Nat}(h:x<4294967296):bU x<4294967296:=by
 unfold bU;split
 ·have:(x / 2) ^^^ 2197175160<2^32:=Pi (by omega) (by omega);simpa using this
 ·omega
def nB:Nat->Nat->Nat
 |0,x=>x
 |k+1,x=>bU (nB k x)
theorem tN(s h:Nat)(hs:s<4294967296)(d:h<16)(w:World):Calls F 276 #[.int .u32 s,B N h] w λe w'=>e=.returned (.int .u32 (cH rT s h))/\w=w':=by
 have hx:=mo s h hs (by omega);have f:s ^^^ h<2^32:=Pi (by omega) (by omega);have b:=Fr s h d;obtain⟨x,d⟩:∃x,s ^^^ h=x:=⟨_,rfl⟩;rw[d]at hx f b;have d:(h:Int) % 16=(h:Int):=by omega
 have g:Hid (nB 4 x=cH rT s h):=b;go_enter func276,ntmps276
 go_wp2_with fail
 go_loopw [0,5,6] (λa i o wr=>∃k y:Nat,k<=4/\a=.int .u32 y/\i=B C k/\Hid (nB k x=y)/\y<4294967296/\w=wr) (λ_ i _ _=>4-(intOf i).toNat)
 case atStart=>exact⟨0,x,by omega,rfl,rfl,rfl,by omega,rfl⟩
 case round=>
  obtain⟨k,y,b,rfl,rfl,c,j,rfl⟩:=hrel;by_cases b:k<4
  ·by_cases f:y % 2=1
   ·have h1:((y:Int) % 2==1)=true:=by simp;omega
    have l:(y:Int) % 2=1:=by omega
    have b:bits .xor .u32 ((y:Int) / 2) 2197175160=(((y / 2) ^^^ 2197175160:Nat):Int):=by simpa using mo (y / 2) 2197175160 (by omega) (by decide)
    have hn:bU y=(y / 2) ^^^ 2197175160:=by unfold bU;rw[if_pos f]
    have d:=NG j;rw[hn]at d;have b:=M hn;generalize(y / 2) ^^^ 2197175160=z at *;go_wp2_with fail
    go_roundw
    case rel=>exact⟨k+1,z,by omega,rfl,by go_num,by show bU (nB k x)=z;rw[c.out];exact b.out,d,trivial⟩
    case measure=>simp[intOf];omega
   have h1:((y:Int) % 2==1)=false:=by simp;omega
   have l:(y:Int) % 2=0:=by omega
   have hn:bU y=y / 2:=by unfold bU;rw[if_neg f]
   have b:=M hn;go_wp2_with fail
   go_roundw
   case rel=>exact⟨k+1,y / 2,by omega,by go_num,by go_num,by show bU (nB k x)=y / 2;rw[c.out];exact b.out,by omega,trivial⟩
   case measure=>simp[intOf];omega
  ·obtain rfl:k=4:=by omega
   go_wp2_with fail;go_ret;exact⟨by rw[<-g.out,c.out];rfl,rfl⟩
theorem IS{T:Tab}(s:Nat)(a:List UInt8)(b:UInt8):lf T s (a++[b])=cH T (cH T (lf T s a) (b.toNat % 16)) (b.toNat / 16):=by
 have hb:=b.toNat_lt;have e1:(UInt8.ofNat (b.toNat % 16)).toNat=b.toNat % 16:=by simp;omega
 have e2:(UInt8.ofNat (b.toNat / 16)).toNat=b.toNat / 16:=by simp;omega
 unfold lf bC;rw[List.flatMap_append,List.foldl_append,List.flatMap_cons,List.flatMap_nil,List.append_nil,P7,P7,List.foldl_nil,e1,e2]
theorem Ei(s:Nat)(hs:s<4294967296)(v:Value)(bs:List UInt8)(w:World)(h:Bs w v bs)(Q:bs.length<=2000000):
  Calls F 223 #[.int .u32 s,v] w λe w'=>e=.returned (.int .u32 (cR rT s bs))/\Ext w w':=by
 obtain⟨A,c,rfl,h1,h2⟩:=xO h;have G:=M h;clear h;have hn:=oR s hs;have J:=nV s hs;unfold cR;generalize 4294967295 ^^^ s=s0 at *;go_enter func223,ntmps223
 go_wp2_with fail
 go_loopw [0,5] (λa i wr=>∃k y:Nat,k<=bs.length/\a=.int .u32 y/\i=B C k/\Hid (lf rT s0 (bs.take k)=y)/\y<4294967296/\Ext w wr) (λ_ i _=>bs.length-(intOf i).toNat)
 case atStart=>exact⟨0,s0,by omega,rfl,rfl,rfl,J,xR _⟩
 case round=>
  obtain⟨k,y,V,rfl,rfl,n,m,p⟩:=hrel;by_cases f:k<bs.length
  ·obtain⟨_,b,E,rfl,hc⟩:=Bs.at_ (G.out.ext p) (by omega);have R:=hc k f;have X:=bs[k].toNat_lt;have z:lf rT s0 (bs.take (k+1))=cH rT (cH rT y (bs[k].toNat % 16)) (bs[k].toNat / 16):=by
    rw[List.take_succ_eq_append_getElem f,IS,n.out]
   have j:=M z;clear hc z;generalize bs[k].toNat=q at *;have l:=rC (T:=rT) (q % 16) m;have o:=rC (T:=rT) (q / 16) l;have r:=λW=>tN y (q % 16) m (by omega) W;have g:=λW=>tN (cH rT y (q % 16)) (q / 16) l (by omega) W;obtain⟨t,D⟩:∃t,cH rT y (q % 16)=t:=⟨_,rfl⟩;rw[D]at r g o j;obtain⟨x,d⟩:∃x,cH rT t (q / 16)=x:=⟨_,rfl⟩;rw[d]at g o j;have e1:(q:Int).tmod 16=((q % 16:Nat):Int):=by rw[Int.tmod_eq_emod_of_nonneg (by omega)];omega
   have e2:IntKind.u8.wrap ((q:Int) / 16)=((q / 16:Nat):Int):=by rw[IntKind.wrap_u8];omega
   have e3:(q:Int).tdiv 16=((q / 16:Nat):Int):=by rw[Int.tdiv_eq_ediv_of_nonneg (by omega)];omega
   have U:IntKind.u8.wrap ((q / 16:Nat):Int)=((q / 16:Nat):Int):=by rw[IntKind.wrap_u8];omega
   generalize q % 16=q0 at *;generalize q / 16=q1 at *;have K:=M r;have L:=M g;clear r g D d l;go_wp2_with fail
   go_region_held3 (λw'=>w'.cell? ⟨b,E+k,I⟩=H (B N q)) (first|go_keep | assumption)
    (first
      |(go_at_call 276;with_reducible refine(K.out _).mono ?_;rintro e Y⟨rfl,rfl⟩)
      |(go_at_call 276;with_reducible refine(L.out _).mono ?_;rintro e Z⟨rfl,rfl⟩))
   go_wp2_with fail
   go_roundw
   case rel=>exact⟨k+1,x,by omega,rfl,by go_num,j.out,o,xD p⟩
   case measure=>simp[intOf];omega
  ·obtain rfl:k=bs.length:=by omega
   have d:=n.out;rw[List.take_length]at d;have O:=M d;have S:=oR y m;clear d n;go_wp2_with fail;go_ret;exact⟨by rw[O.out];rfl,p⟩
theorem I5(p:Nat)(A:Option Addr)(c:Nat)(bs:List UInt8)(w:World)(hc:w.cell? ⟨p,0,I⟩=H (E A bs.length c))(h:Bs w (E A bs.length c) bs)(f:V bs<=2000000):
  Calls F 185 #[E (H ⟨p,0,I⟩) 1 1] w λe w'=>e=.returned (.int .u32 (cR rT 0 bs))/\Ext w w':=by
 have g:=M h;go_enter func185,ntmps185
 go_wp2_with fail
 go_loopw [3,4] (λs i wr=>∃k a:Nat,k<=1/\s=.int .u32 a/\i=B C k/\Hid (a=if k=0 then 0 else cR rT 0 bs)/\Ext w wr) (λ_ i _=>1-(intOf i).toNat)
 case atStart=>exact⟨0,0,by omega,rfl,rfl,rfl,xR _⟩
 case round=>
  obtain⟨k,a,j,rfl,rfl,d,b⟩:=hrel;have j:=b.cell hc;by_cases j:k<1
  ·obtain rfl:k=0:=by omega
   obtain rfl:a=0:=d.out;go_wp2_with (go_at_call 223;refine(Ei 0 (by decide) _ bs wr (g.ext b) f).mono ?_;rintro e f⟨rfl,H3⟩)
   go_roundw
   case rel=>exact⟨1,cR rT 0 bs,by omega,rfl,rfl,rfl,xT b H3⟩
   case measure=>simp[intOf]
  ·obtain rfl:k=1:=by omega
   obtain rfl:a=cR rT 0 bs:=d.out;go_wp2_with fail;go_ret;exact⟨rfl,b⟩
theorem Eh(s:Nat)(hs:s<4294967296)(w:World):Calls F 184 #[.int .u32 s] w λe w'=>e=.returned (.agg ((ed s).map bv).toArray)/\Ext w w':=by
 go_enter func184,ntmps184
 go_wp2_with fail
 refine bodyPost_ret (results_cell_row rfl _ _ _ 188 _ _ _ rfl (heap_alloc_new _ _) underlying188 rfl (by kernel_rfl)) rfl ⟨?_,xA (xR _) _⟩;congr 3
 simp[ed,bv];omega
theorem qU(v:Value)(bs:List UInt8)(w:World)(h:Bs w v bs)(hl:V bs<=2000000):Calls F 122 #[v] w λe w'=>∃A c,e=.returned (E A (bh rT bs).length c)/\OwnB w' w.heap.size (E A (bh rT bs).length c) (bh rT bs)/\Ext w w':=by
 obtain⟨A,c,rfl,h1,h2⟩:=xO h;have m:=M h;have o:=oK (T:=rT) 0 bs (by decide);obtain⟨i,j⟩:∃i,cR rT 0 bs=i:=⟨_,rfl⟩;rw[j]at o;have hps:bh rT bs=bs++ed i:=by unfold bh;rw[j]
 have J:=M hps;have Kw:=M j;obtain⟨z,y,p,q,s⟩:=info_parts dC;obtain⟨a,b,d,f,hf⟩:∃a b d f:UInt8,ed i=[a,b,d,f]:=⟨_,_,_,_,rfl⟩;have r:=M hf;go_enter func122,ntmps122
 go_wp2_with fail
 have l:Ext w (w.alloc (G #[E A bs.length c] 33)):=xA (xR _) _;refine(I5 w.heap.size A c bs _ (Boxed.new w _ _).cell (m.ext l) (by omega)).mono ?_;rw[Kw.out];rintro e j⟨rfl,H3⟩;go_wp2_with fail
 refine(Eh i o _).mono ?_;rw[r.out];rintro e g⟨rfl,i⟩;simp only[P8,P9,bv];go_wp2_with fail
 have j:Ext w (g.alloc (G #[B N (a.toNat:Int),B N (b.toNat:Int),B N (d.toNat:Int),B N (f.toNat:Int)] 188)):=xA (xT l (xT H3 i)) _;have hb3:Blk (g.alloc (G #[B N (a.toNat:Int),B N (b.toNat:Int),B N (d.toNat:Int),B N (f.toNat:Int)] 188)) g.heap.size 188 ([a,b,d,f].map bv).toArray:=Pk g _ _;have h4:Bs (g.alloc (G #[B N (a.toNat:Int),B N (b.toNat:Int),B N (d.toNat:Int),B N (f.toNat:Int)] 188)) (E (H ⟨g.heap.size,0,I⟩) 4 4) [a,b,d,f]:=fZ hb3 rfl (by simp[maxLen]);refine wp_region_held_drew (S:=λ_=>True) (by kernel_rfl) trivial (λ_=>?_);refine ab 1 ?_;refine ab 3 ?_;refine ah 0 (λK i=>?_);go_simp;refine af i _ _ trivial (λ_=>?_);have o:(g.alloc (G #[B N (a.toNat:Int),B N (b.toNat:Int),B N (d.toNat:Int),B N (f.toNat:Int)] 188)).heap.size=g.heap.size+1:=by simp
 generalize l:g.alloc (G #[B N (a.toNat:Int),B N (b.toNat:Int),B N (d.toNat:Int),B N (f.toNat:Int)] 188)=w3 at *;have l:=be w3 [] 5 0 j.size;rw[o]at l;have K3:Ext w3 (w3.alloc (G #[] 5)).drew:=xD (xA (xR _) _);have o:=ai l (xD (xR (w3.alloc (G #[] 5))));have l:=xT j K3;refine ah 2 (λK i=>?_);refine fJ _ (.tmp 8) (.tmp 9) 33 (by rfl) w.heap.size 5 z (B N 0) 1 1 underlying33 y p q s rfl _ 0 [] o _ bs.length (bs.map bv) (m.ext l) (de _) l.size ?_;intro j C j m;refine af i _ _ trivial (λ_=>?_);have x:Ext w C:=Ext.grownOwn l o m;have l:Ext w3 C:=by
  refine Below.grown K3 m K3.size (λk m=>?_);have:g.heap.size+1=k:=by simpa[Value.ownBlock,Act.eval]using m
  omega
 simp only[Pe,xI]at j;refine ah 4 (λK i=>?_);refine fJ _ (.tmp 10) (.tmp 11) 33 (by rfl) w.heap.size 5 z (B N 0) 1 1 underlying33 y p q s rfl _ bs.length (bs.map bv) j _ 4 ([a,b,d,f].map bv) (h4.ext l) (de _) x.size ?_;intro a D t a;refine af i _ _ trivial (λ_=>?_);have L:Ext w D:=Ext.grownOwn x j a;refine ab 5 ?_;refine aq ?_;go_wp2_with fail;go_ret;have n:V (bh rT bs)=V bs+4:=by unfold bh;rw[xL,lx]
 obtain⟨a,a,rfl,_,_⟩:=xO (xW t);rw[n];refine⟨_,_,rfl,?_,L⟩;show D.ownsRow w.heap.size 5 1 _ (bh rT bs).length ((bh rT bs).map bv);rw[n,J.out,r.out,List.map_append];exact t
def Ou(w:World)(r:Option (List UInt8))(e:Ending)(w':World):Prop:=(∃v,e=.returned (.tuple #[v,R r.isSome])/\OwnB w' w.heap.size v (r.getD []))/\Ext w w'
theorem CS{T:Tab}{b:List UInt8}(h:V b<4):bN T b=none:=by
 unfold bN;rw[if_neg];intro e;have:=congrArg List.length e;rw[lx,P0]at this;omega
theorem Dw{T:Tab}{b:List UInt8}(h:4<=V b):bN T b=if bh T (b.take (V b-4))=b then some (b.take (V b-4))else none:=by
 unfold bN bh;by_cases e:ed (cR T 0 (b.take (V b-4)))=b.drop (V b-4)
 ·rw[if_pos e,if_pos (by rw[e,List.take_append_drop])]
 ·rw[if_neg e,if_neg];intro e2;apply e;have:=congrArg (List.drop (V b-4)) e2;rw[List.drop_append_of_le_length (by rw[P1];omega)]at this;rw[<-this,List.drop_of_length_le (by rw[P1];omega),xI]
theorem yi(v:Value)(bs:List UInt8)(w:World)(h:Bs w v bs)(hl:bs.length<=2000000):Calls F 90 #[v] w (Ou w (bN rT bs)):=by
 obtain⟨A,c,rfl,h1,h2⟩:=xO h;by_cases h4:bs.length<4
 ·have hn:((bs.length:Int)-4<0):=by omega
  have g:=M (CS (T:=rT) h4);clear h;go_enter func90,ntmps90
  go_wp2_with fail
  refine wp_region_held_drew (S:=λ_=>True) (by kernel_rfl) trivial (λ_=>?_);refine ab 0 ?_;refine ab 1 ?_;refine ab 2 ?_;refine ag 3 ?_;refine ag 4 ?_;refine ag 5 ?_;refine ag 6 ?_;refine ag 7 ?_;refine ag 8 ?_;refine ag 9 ?_;refine ag 10 ?_;refine ab 11 ?_;refine aq ?_;go_wp2_with fail
  go_ret2;exact⟨⟨_,by rw[g.out];rfl,by rw[g.out];exact Pa _ _ _ _⟩,xD (xR _)⟩
 ·obtain⟨_,b,X,rfl,_⟩:=Bs.at_ h (by omega);obtain⟨n,hn⟩:∃n,bs.length-4=n:=⟨_,rfl⟩;have N:bs.length=n+4:=by omega
  have m:=Bs.take h n (by omega);have k:=Dw (T:=rT) (b:=bs) (by omega);rw[hn]at k;obtain⟨p,r⟩:∃p,bs.take n=p:=⟨_,rfl⟩;have t:p.length=n:=by rw[<-r,P1];omega
  rw[r]at m k;have B:=M h;have Ke:=M m;have g:=M k;have z:=M t;have e1:¬((bs.length:Int)-4<0):=by omega
  have e2:(bs.length:Int)-4=(n:Int):=by omega
  have e3:(n:Int)<=(c:Int):=by omega
  have e4:((n:Int)<0)=False:=by simp
  have e5:decide ((n:Int)<0)=false:=by simp
  clear h m k r t;go_enter func90,ntmps90
  go_wp2_with fail
  refine wp_region_held_drew (S:=λW=>Ext w W) (by kernel_rfl) (xD (xR _)) (λ_=>?_);refine ab 0 ?_;refine ab 1 ?_;refine ab 2 ?_;refine ab 3 ?_;refine ab 4 ?_;refine ab 5 ?_;refine ab 8 ?_;refine nZ (i:=9) (v:=U ⟨bs.toArray⟩) rfl (by kernel_rfl) (by kernel_rfl) (by kernel_rfl) (λ_ _ _ h=>h) (by rfl) (by assumption) (λw' hw=>?hc) ?rc
  case hc=>
   have O:=eh (P:=F) w' 33 9 5 underlying33 underlying5 underlying9 (B.out.ext hw);rw[N]at O;go_simp;try with_reducible rfl
  case' rc=>skip
  try simp only[Act.put,sA,sZ,sS]
  refine ah 6 (λK o=>?_);go_simp;refine(qU _ _ _ (Ke.out.ext (xD (xR _))) (by rw[z.out];omega)).mono ?_;rintro e l⟨R,Z,rfl,x,D⟩;try(go_wp2_with fail)
  have a:Ext w l:=xT (xD (xR _)) D;refine af o _ _ a (λ_=>?_);refine ah 7 (λK o=>?_);refine C7 _ 33 9 5 (.tmp 14) (by rfl) underlying33 underlying5 underlying9 (by rfl) x.bs ?_;refine af o _ _ a (λ_=>?_);obtain⟨q,s⟩:∃q,bh rT p=q:=⟨_,rfl⟩;have j:Hid (bN rT bs=if q=bs then some p else none):=by rw[Hid,<-s];exact g.out
  rw[s];clear s x g;by_cases d:q=bs
  ·subst d;have f:Hid (bN rT q=H p):=by rw[Hid,j.out,if_pos rfl]
   clear j;refine ab 10 ?_;refine ab 11 ?_;refine aq ?_;have C:(l.alloc (G #[] 5)).ownsRow w.heap.size 5 1 (E (H ⟨l.heap.size,0,I⟩) 0 0) 0 []:=be l [] 5 0 (hm:=rfl) (hl:=by simp[maxLen]) a.size;go_wp2_with (at_builtin;refine eu (Ke:=rfl) (.tmp 20) (.tmp 23) rfl w.heap.size _ [] (hs:=rfl) C _ p (hx:=rfl) (Ke.out.ext (xA a _)) (by have:=z.out;simp;omega) (by have:=a.size;simp;omega) ?_;intro V c5 Q y L;have J:Ext w Q:=L w (xA a _) (xN _);simp only[P6,Pe,xI]at y⊢)
   go_ret2;exact⟨⟨_,by rw[f.out];rfl,by rw[f.out];exact y⟩,J⟩
  ·have f:Hid (bN rT bs=none):=by rw[Hid,j.out,if_neg d]
   have Y:(q==bs)=false:=by simpa using d
   clear j;refine ab 10 ?_;refine ab 11 ?_;refine aq ?_;go_wp2_with fail
   go_ret2;exact⟨⟨_,by rw[f.out];rfl,by rw[f.out];exact Pa _ _ _ _⟩,a⟩
