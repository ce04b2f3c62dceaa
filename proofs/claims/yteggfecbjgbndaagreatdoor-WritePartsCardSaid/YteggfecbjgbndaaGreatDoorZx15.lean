/- Merged -/
import Derived.Test.YteggfecbjgbndaaGreatDoorZx13
import Derived.Test.YteggfecbjgbndaaGreatDoorZx14
set_option linter.all false
set_option maxHeartbeats 8000000
set_option maxRecDepth 100000
open Go.Proofs.Tryz
open List renaming length->O
open Go.Value renaming int->B,slice->D,pointer->J,bool->M,agg->N
open Go.IntKind renaming i64->C
open Go.Proofs.Tryz renaming prog->E
open Go.Obj renaming cells->F
open Go.Mv renaming aN->G
open Option renaming none->H,some->I
open List renaming length_drop->P0,getD_eq_getElem?_getD->P1,getElem?_eq_getElem->P2,length_take->P3,length_map->P4,append_nil->P5
open Go.Mv.Blk renaming new->P6
open Go.World renaming ownsRow_nil->P7
namespace Go.Proofs.YteggfecbjgbndaaGreatDoor
open Go.RowKit Go.Mv
theorem mcRonea0{P:Prop}(h:P:=by
 rw[hr]at key⊢;have Hg:=G key;go_enter Tryz.func49,Tryz.ntmps49
 go_wp2_with fail
 refine Hg.mono ?_;rintro e w1⟨vl,rfl,ho,hE⟩;have H0:=H8.ext hE;have ea:=au H0;obtain⟨A1,c1,rfl,_,_⟩:=xO (xW ho);go_wp2_with fail
 refine bodyPost_ret (tL _ _ _ _ _ rfl rfl (bV H0 _ _ _) rfl) rfl ?_;exact⟨_,rfl,fK H0 (ay ho hX.size) _ _ _,cZ (xT hX hE) (xN _) _ _ _⟩):P:=h
theorem oy(tmps:Array Value)(W:World)(b:Nat)(cs:Array Value)(u:Value)(h2:tmps.getD 2 undef=J (I ⟨b,0,H⟩))(h3:tmps.getD 3 undef=u)(hb:Blk W b 54 cs)(hs:cs.size=3):(results Tryz.f168 tmps).run E W=.ok (.tuple #[.agg cs,u]) W:=by
 have hl:=hb.load (P:=E) Co rfl (by rw[hs];kernel_rfl);have HQ:tmps[2]?.getD undef=J (I ⟨b,0,H⟩):=by simpa using h2
 have a:tmps[3]?.getD undef=u:=by simpa using h3
 simp[results,results168,HQ,a,asAddr,hl]
def BE(w:World)(r:Option Ent)(e:Ending)(w':World):Prop:=(match r with
 |some x=>e=.returned (.tuple #[N #[B C x.t,B C x.k,B C x.v],M true])
 |none=>∃a b c:Int,e=.returned (.tuple #[N #[B C a,B C b,B C c],M false]))/\Ext w w'
theorem Em(v:Value)(bs:List UInt8)(w:World)(hB:Bs w v bs)(hl:bs.length=15):Calls E 168 #[v] w (BE w (ei rT bs)):=by
 obtain⟨A,c,rfl,h1,h2⟩:=xO hB;have H8:=P6 w 54 #[B C 0,B C 0,B C 0];have hX:Ext w (w.alloc (F #[B C 0,B C 0,B C 0] 54)):=xA (xR _) _;have X:=yi _ bs _ (hB.ext hX) (by omega);have Hm:∀p,bN rT bs=I p->p.length=11:=λp h=>by rw[pY h,hl]
 obtain⟨R,hR⟩:∃R,ei rT bs=R:=⟨_,rfl⟩;have T:=hR;unfold ei at T;rw[hR];obtain⟨r,i⟩:∃r,bN rT bs=r:=⟨_,rfl⟩;rw[i]at X Hm T;rw[hl]at X h1⊢;have Kk:=G X;have J:=G T;clear X i hR T hB hl;have Hd:∀(W:World) (a b c:Int),Ext w W->R=none->BE w R (.returned (.tuple #[N #[B C a,B C b,B C c],M false])) W:=by
  intro W a b c hE hn;subst hn;exact⟨⟨a,b,c,rfl⟩,hE⟩
 have y:=G Hd;clear Hd;cases r with
 |none=>
  have hn:R=none:=J.out.symm;go_enter func168,ntmps168
  go_wp2_with fail
  refine Kk.out.mono ?_;rintro e w1⟨⟨v1,rfl,HG⟩,k⟩;have Z:=au (H8.ext k);have H3:=xT hX k;have H0:=H8.ext k;have m:=G hn;clear hn;go_wp2_with fail
  refine bodyPost_ret (oy _ _ _ _ _ rfl rfl (bV H0 _ _ _) rfl) rfl ?_;exact y.out _ _ _ _ (cZ H3 (xN _) _ _ _) m
 |some p=>
  have hp:=Hm p rfl;clear Hm;dsimp only at J;have HJ:=λ(W:World) (u:Value) (h:Bs W u p)=>iJ u p W h (by omega);obtain⟨q,t⟩:∃q,az p=q:=⟨_,rfl⟩;have He:q.1=0->q.2.2=p.drop 5:=λh=>by rw[<-t]at h⊢;exact takeLong_rest h
  have Kc:q.2.1<=1073741824:=by rw[<-t];exact tV
  rw[t]at HJ;have Ki:=J.out;rw[t]at Ki;have K3:=G Ki;have HO:=G HJ;have Hp:=G hp;clear J Ki HJ t hp;obtain⟨er,n,rest⟩:=q;dsimp only at K3 He Kc;go_enter func168,ntmps168
  go_wp2_with fail
  refine Kk.out.mono ?_;rintro e w1⟨⟨v1,rfl,HG⟩,k⟩;have HH:OwnB w1 (w.heap.size+1) v1 p:=by simpa using HG
  obtain⟨A1,c1,rfl,KQ,_⟩:=xO (xW HH);have H0:=H8.ext k;have Z:=au H0;have H3:=xT hX k;have Hx:Bs w1 (D A1 p.length c1) p:=HH.bs;rw[Hp.out]at Hx KQ⊢;clear HG HH;go_wp2_with fail
  refine(HO.out _ _ Hx).mono ?_;rintro e w2⟨v2,rfl,Y,KE⟩;dsimp only at Y⊢;have Hi:=xT H3 KE;have HX:=H0.ext KE;obtain⟨A2,c2,rfl,J7,KR⟩:=xO (xW Y);have KC:Bs w2 (D A2 rest.length c2) rest:=xW Y;clear Y Hx Z;have Z:=au HX;by_cases j:er=0
  case neg=>
   have hn:R=none:=by rw[<-K3.out,if_neg j]
   have m:=G hn;have H4:((er:Int) != 0)=true:=by simp[j]
   clear hn;go_wp2_with fail
   refine bodyPost_ret (oy _ _ _ _ _ rfl rfl (bV HX _ _ _) rfl) rfl ?_;exact y.out _ _ _ _ (cZ Hi (xN _) _ _ _) m
  case pos=>
   subst j;have KJ:=He rfl;have Ky:rest.length=6:=by rw[KJ,P0,Hp.out]
   have KW:((rest.length:Int) != 6)=false:=by rw[Ky];rfl
   have J6:(1:Int)<=(rest.length:Int):=by omega
   have J5:(0:Int)<(rest.length:Int):=by omega
   obtain⟨_,b2,o2,rfl,KH⟩:=Bs.at_ KC (by omega);have HD:=KH 0 (by omega);rw[Nat.add_zero]at HD;have HE:rest.getD 0 0=rest[0]:=by rw[P1,P2 (by omega)];rfl
   have l:=K3.out;rw[if_pos rfl,HE]at l;have KD:=Bs.cut KC 1 (by omega) rfl;have J9:=rest[0].toNat_lt;generalize rest[0].toNat=k0 at *;have HK:=λ(W:World) (u:Value) (h:Bs W u (rest.drop 1))=>iJ u (rest.drop 1) W h (by rw[P0];omega);obtain⟨q2,KI⟩:∃q,az (rest.drop 1)=q:=⟨_,rfl⟩;rw[KI]at HK l;obtain⟨KA,g,KK⟩:=q2;dsimp only at l;have P:=G l;have Kl:=G HK;have KL:=G KD;have J4:(1:Int)<=(c2:Int):=by omega
   have KT:¬(c2=1):=by omega
   have J3:=G Ky;clear KH KJ He HK KI K3 l KD HE HO Kk Ky;go_wp2_with fail
   first | (with_reducible refine(Kl.out _ _ KL.out).mono ?_) | (trace_state;fail)
   rintro e d⟨v3,rfl,KY,Q⟩;dsimp only;have Hy:=xT Hi Q;have Kp:=HX.ext Q;have KU:=Q.cell HD;have z:=P6 d 54 #[B C (n:Int),B C (k0:Int),B C (g:Int)];have HU:Ext w (d.alloc (F #[B C (n:Int),B C (k0:Int),B C (g:Int)] 54)):=xA Hy _;have U:=Kp.alloc (F #[B C (n:Int),B C (k0:Int),B C (g:Int)] 54);clear KY Q HD Z;by_cases f:KA=0
   case pos=>
    subst f;have Kj:=P.out;rw[if_pos rfl]at Kj;have Kz:=G Kj;clear P Kj;go_wp2_with fail;obtain⟨x0,x1,x2,_,_,_⟩:=au z;obtain⟨_,_,_,y0,y1,y2⟩:=au U;refine wp_region_held_drew (S:=λW=>W.cell? ⟨d.heap.size,0,H⟩=I (B C (n:Int))/\W.cell? ⟨d.heap.size,1,H⟩=I (B C (k0:Int))/\W.cell? ⟨d.heap.size,2,H⟩=I (B C (g:Int))) (by kernel_rfl) ⟨x0,x1,x2⟩ (λ_=>?_);refine ab 0 ?_;refine ab 1 ?_;refine ab 2 ?_;refine ab 3 ?_;refine ab 4 ?_;refine ah 5 (λK o=>?_);go_simp;refine(pT _ _ _ _).mono ?_;rintro e w5⟨rfl,HW⟩;have Hz:Ext (d.alloc (F #[B C (n:Int),B C (k0:Int),B C (g:Int)] 54)) w5:=xT (xD (xR _)) HW;have L:=xT HU Hz;have O:=z.ext Hz;have V:=U.ext Hz;obtain⟨x,z1,z2,_,_,_⟩:=au O;refine af o _ _ ⟨x,z1,z2⟩ (λ_=>?_);refine ab 6 ?_;obtain⟨y6,y7,y8,y0,y1,y2⟩:=au V;refine ah 7 (λK o=>?_);go_simp;have H4:d.heap.size≠w.heap.size:=by have:=Hy.size;have:=Kp.lt;omega
    have HA:=((O.other H4 0 (B C (n:Int))).other H4 1 (B C (k0:Int))).other H4 2 (B C (g:Int));obtain⟨x,z1,z2,_,_,_⟩:=au HA;refine af o _ _ ⟨x,z1,z2⟩ (λ_=>?_);refine ab 8 ?_;refine aq ?_;go_wp2_with fail
    refine bodyPost_ret (oy _ _ _ _ _ rfl rfl (bV V _ _ _) rfl) rfl ?_;cases s:okB (n:Int) (k0:Int) (g:Int)with
    |true=>
     have i:=Kz.out;rw[if_pos s]at i;subst i;exact⟨rfl,cZ L (xN _) _ _ _⟩
    |false=>
     have i:=Kz.out;rw[if_neg (by rw[s];simp)]at i;exact y.out _ _ _ _ (cZ L (xN _) _ _ _) i.symm
   case neg=>
    have hn:R=none:=by rw[<-P.out,if_neg f]
    have m:=G hn;have Kw:((KA:Int)==0)=false:=by simp[f]
    clear hn P;go_wp2_with fail;obtain⟨x0,x1,x2,_,_,_⟩:=au z;refine wp_region_held_drew (S:=λW=>W.cell? ⟨d.heap.size,0,H⟩=I (B C (n:Int))/\W.cell? ⟨d.heap.size,1,H⟩=I (B C (k0:Int))/\W.cell? ⟨d.heap.size,2,H⟩=I (B C (g:Int))) (by kernel_rfl) ⟨x0,x1,x2⟩ (λ_=>?_);refine ab 0 ?_;refine ab 1 ?_;refine ab 2 ?_;refine ab 3 ?_;refine ag 4 ?_;refine ag 5 ?_;refine ab 6 ?_;have hD:Ext (d.alloc (F #[B C (n:Int),B C (k0:Int),B C (g:Int)] 54)) (d.alloc (F #[B C (n:Int),B C (k0:Int),B C (g:Int)] 54)).drew:=xD (xR _);have O:=z.ext hD;have V:=U.ext hD;have L:=xT HU hD;obtain⟨y6,y7,y8,y0,y1,y2⟩:=au U;refine ah 7 (λK o=>?_);go_simp;have H4:d.heap.size≠w.heap.size:=by have:=Hy.size;have:=Kp.lt;omega
    have HA:=((O.other H4 0 (B C (n:Int))).other H4 1 (B C (k0:Int))).other H4 2 (B C (g:Int));obtain⟨x,z1,z2,_,_,_⟩:=au HA;refine af o _ _ ⟨x,z1,z2⟩ (λ_=>?_);refine ab 8 ?_;refine aq ?_;go_wp2_with fail
    refine bodyPost_ret (oy _ _ _ _ _ rfl rfl (bV V _ _ _) rfl) rfl ?_;exact y.out _ _ _ _ (cZ L (xN _) _ _ _) m
theorem DW{b:Array Oper}{rest:List Oper}{o:Oper}{a:Act}{w:World}{Q:Exit->Act->World->Prop}(e:o.guard=none)(s x:Operand)(j:o.op=.call { callee:=.builtin .append,args:=#[s,x],argTypes:=#[42,42] })(base:Nat)(v:Value)(bs:List Ent)(hs:a.eval s=v)(d:OwnE w base v bs)(vx:Value)(cs:List Ent)(hx:a.eval x=vx)(k:Es w vx cs)(f:O bs+O cs<=2000000)(f:base<=w.heap.size)(h:∀A c w',OwnE w' base (D A (O bs+O cs) c) (bs++cs)->eP base w w'->w.grownBy w' v.ownBlock->wpList E b Q rest (a.put o.dst (D A (O bs+O cs) c)) w'):wpList E b Q (o::rest) a w:=by
 obtain⟨l,hi,b,g,i⟩:=info_parts ic;refine dT _ e s x 42 j base 54 l _ 3 24 underlying42 hi b g i rfl (by decide) v bs.length (ax bs) hs d vx cs.length (ax cs) hx k (ie _) (by unfold maxLen;omega) (by omega) f ?_;intro b w' h1 h2;obtain⟨A,c,rfl,_,_⟩:=xO (xW h1);refine h A c w' ?_ (λb b hb=>Ext.grownOwn b (ay d hb) h2) h2;unfold OwnE;rw[xL,show ax (bs++cs)=ax bs++ax cs from by simp[ax]];exact h1
theorem lC(tmps:Array Value)(W:World)(b:Nat)(cs:Array Value)(u:Value)(h2:tmps.getD 2 undef=J (I ⟨b,0,H⟩))(h3:tmps.getD 3 undef=u)(hb:Blk W b 90 cs)(hs:cs.size=3):(results Tryz.f99 tmps).run E W=.ok (.tuple #[.agg cs,u]) W:=by
 have hl:=hb.load (P:=E) pw rfl (by rw[hs];kernel_rfl);have HQ:tmps[2]?.getD undef=J (I ⟨b,0,H⟩):=by simpa using h2
 have a:tmps[3]?.getD undef=u:=by simpa using h3
 simp[results,results99,HQ,a,asAddr,hl]
theorem Ek (v:Value) (bs:List UInt8) (w:World) (hB:Bs w v bs) (hl:bs.length<=2000000) (h:(bK rT bs).err=11):Calls E 99 #[v] w (eB w (bK rT bs)):=by
 obtain ⟨A,c,rfl,h1,h2⟩:=xO hB;have H8:=P6 w 90 #[B C 0,D none 0 0,B C 0]
 have hX:Ext w (w.alloc (F #[B C 0,D none 0 0,B C 0] 90)):=xA (xR _) _
 have hr:bK rT bs=⟨11,0,[],0,(0,0)⟩:=by
  unfold bK at h ⊢
  split
  ·rfl
  ·rename_i hd
   rw[if_neg hd] at h
   split
   ·rename_i h2;rw[if_pos h2] at h;cases h
   ·rfl
 have Hr:=G hr
 have Hd:∀ (W:World),Ext w W->eB w (bK rT bs) (.returned (.tuple #[N #[B C 0,D none 0 0,B C 0],B C 11])) W:=by
  intro W hE;rw[Hr.out]
  exact ⟨_,rfl,P7 _ _ _ _,hE⟩
 have H1:=G Hd;clear hr Hd;have ea:=au H8
 by_cases h6:bs.length<6
 ·have e6:((bs.length:Int)<6):=by omega
  clear h hB
  go_enter func99,ntmps99
  go_wp2_with fail
  refine bodyPost_ret (lC _ _ _ _ _ rfl rfl (P6 w _ _) rfl) rfl ?_
  exact H1.out _ hX
 ·obtain ⟨_,b,Kg,rfl,hc⟩:=Bs.at_ hB (by omega)
  have Kr:=hX.cell (hc 0 (by omega));rw[Nat.add_zero] at Kr
  have e6:¬ ((bs.length:Int)<6):=by omega
  by_cases H0:bs[0]=1
  case neg =>
   have H4:((bs[0].toNat:Int) != 1)=true:=by
    have:bs[0].toNat≠1:=fun e=>H0 (UInt8.toNat_inj.1 e)
    simp;omega
   generalize bs[0].toNat=q at *
   clear h hB hc
   go_enter func99,ntmps99
   go_wp2_with fail
   refine bodyPost_ret (lC _ _ _ _ _ rfl rfl (P6 w _ _) rfl) rfl ?_
   exact H1.out _ hX
  case pos =>
   have H4:((bs[0].toNat:Int) != 1)=false:=by rw[H0];rfl
   have hp:=f8 hB 1 5 (by omega)
   have HI:((bs.drop 1).take 5).length=5:=by rw[P3,P0];omega
   have HE:bs.getD 0 0=1:=by rw[P1,P2 (by omega)];exact H0
   unfold bK at h
   rw[if_neg (by rintro (h9 | h9);· omega
                 ·exact h9 HE)] at h
   obtain ⟨p,K2⟩:∃ p,(bs.drop 1).take 5=p:=⟨_,rfl⟩;rw[K2] at h hp HI
   have key:=fun (W:World) (u:Value) (h:Bs W u p)=>iJ u p W h (by omega)
   obtain ⟨q,hq⟩:∃ q,az p=q:=⟨_,rfl⟩;rw[hq] at h key;obtain ⟨er,n,rest⟩:=q;dsimp only at h
   have Kq:er≠0\/n=0:=by
    by_cases he:er=0
    ·by_cases hn:n=0
     ·exact .inr hn
     ·rw[if_pos ⟨he,hn⟩] at h;cases h
    ·exact .inl he
   have Hg:=G key
   have K1:Bs w (D (I ⟨b,Kg+1,H⟩) 5 (c-1)) p:=SlR.capd hp (by rw[HI];omega) (by omega)
   have Hp:=G K1
   have e5:(6:Int)<=(c:Int):=by omega
   generalize bs[0].toNat=q at *
   clear h hB hc key hq hp K1 K2 HE H0
   go_enter func99,ntmps99
   go_wp2_with fail
   first | (with_reducible refine (Hg.out _ _ (Hp.out.ext hX)).mono ?_) | (trace_state;fail)
   rintro e w1 ⟨v1,rfl,HG,H6⟩;dsimp only;have H0:=H8.ext H6;have H3:=xT hX H6;clear HG ea;have ea:=au H0
   by_cases he:er=0
   ·subst he
    obtain rfl:n=0:=by rcases Kq with h | h;exact absurd rfl h;exact h
    go_wp2_with fail
    refine bodyPost_ret (lC _ _ _ _ _ rfl rfl (bV H0 _ _ _) rfl) rfl ?_
    exact H1.out _ (cZ H3 (xN _) _ _ _)
   ·have Kw:((er:Int) != 0)=true:=by simp[he]
    go_wp2_with fail
    refine bodyPost_ret (lC _ _ _ _ _ rfl rfl (bV H0 _ _ _) rfl) rfl ?_
    exact H1.out _ (cZ H3 (xN _) _ _ _)
theorem NO{bs:List UInt8}(h:(bK rT bs).err≠11):¬O bs<6/\bs.getD 0 0=1/\(az ((bs.drop 1).take 5)).1=0/\(az ((bs.drop 1).take 5)).2.1≠0 /\
  bK rT bs=⟨0,(az ((bs.drop 1).take 5)).2.1,(cG rT (bs.drop 6) 6).map (·.2),fU 6 (cG rT (bs.drop 6) 6),(0,0)⟩:=by
 unfold bK at h⊢;by_cases h1:O bs<6\/bs.getD 0 0≠1
 ·rw[if_pos h1]at h;exact absurd rfl h
 ·rw[if_neg h1]at h⊢;by_cases h2:(az ((bs.drop 1).take 5)).1=0/\(az ((bs.drop 1).take 5)).2.1≠0
  ·rw[if_pos h2];exact⟨λh=>h1 (.inl h),Classical.byContradiction λh=>h1 (.inr h),h2.1,h2.2,rfl⟩
  ·rw[if_neg h2]at h;exact absurd rfl h
theorem EC(v:Value)(bs:List UInt8)(w:World)(N:Bs w v bs)(hl:bs.length<=2000000)(h:(bK rT bs).err≠11):Calls E 99 #[v] w (eB w (bK rT bs)):=by
 obtain⟨A,c,rfl,h1,h2⟩:=xO N;have H8:=P6 w 90 #[B C 0,D none 0 0,B C 0];have hX:Ext w (w.alloc (F #[B C 0,D none 0 0,B C 0] 90)):=xA (xR _) _;obtain⟨h6,H0,Z,Kf,r⟩:=NO h;obtain⟨_,b,Kg,rfl,hc⟩:=Bs.at_ N (by omega);have Kr:=hX.cell (hc 0 (by omega));rw[Nat.add_zero]at Kr;have e6:¬((bs.length:Int)<6):=by omega
 have H4:((bs[0].toNat:Int) != 1)=false:=by
  rw[P1,P2 (by omega)]at H0;rw[show bs[0]=1 from H0];rfl
 have hp:=f8 N 1 5 (by omega);have T:((bs.drop 1).take 5).length=5:=by rw[P3,P0];omega
 obtain⟨p,K2⟩:∃p,(bs.drop 1).take 5=p:=⟨_,rfl⟩;rw[K2]at Z Kf hp T r;have key:=λ(W:World) (u:Value) (h:Bs W u p)=>iJ u p W h (by omega);obtain⟨q,hq⟩:∃q,az p=q:=⟨_,rfl⟩;have KX:q.2.1<=1073741824:=by rw[<-hq];exact tV
 rw[hq]at Z Kf key r;obtain⟨er,n,rest⟩:=q;dsimp only at Z Kf r KX;subst Z;have Ku:¬((n:Int)<1):=by omega
 have M:=G key;have K1:Bs w (D (I ⟨b,Kg+1,H⟩) 5 (c-1)) p:=SlR.capd hp (by rw[T];omega) (by omega);have Hp:=G K1;have HB:=G N;obtain⟨L,hL⟩:∃L,cG rT (bs.drop 6) 6=L:=⟨_,rfl⟩;rw[hL]at r;have HL:=G hL;have Hr:=G r;have e5:(6:Int)<=(c:Int):=by omega
 have Hc:=G hc;clear hL r hc;generalize bs[0].toNat=q at *;clear h N key hq hp K1 K2 T H0 Kf;go_enter func99,ntmps99
 go_wp2_with fail
 first | (with_reducible refine(M.out _ _ (Hp.out.ext hX)).mono ?_) | (trace_state;fail)
 rintro e a⟨v1,rfl,HG,H6⟩;dsimp only;have H0:=H8.ext H6;have H3:=xT hX H6;have KP:Blk (a.alloc (F #[B C (n:Int),D none 0 0,B C 6] 90)) a.heap.size 90 #[B C (n:Int),D none 0 0,B C 6]:=P6 a _ _;have Hi:Ext w (a.alloc (F #[B C (n:Int),D none 0 0,B C 6] 90)):=xA H3 _;have HX:=H0.alloc (F #[B C (n:Int),D none 0 0,B C 6] 90);have KZ:w.heap.size<a.heap.size:=by have:=H6.size;simp at this;omega
 clear HG;go_wp2_with fail
 go_loopw [8,9] (λu8 u9 wr=>∃(k:Nat) (d:List (Nat×Ent)) (vl:Value),k<=bs.length/\Hid (L=d++cG rT (bs.drop k) k)/\Hid (fU 6 d=k)/\d.length*15<=k/\Blk wr a.heap.size 90 #[B C (n:Int),vl,B C k] /\
   OwnE wr w.heap.size vl (d.map (·.2))/\Blk wr w.heap.size 90 #[B C 0,D none 0 0,B C 0]/\Ext w wr) (λ_ _ wr=>bs.length+30-iU wr a.heap.size)
 case atStart=>exact⟨6,[],_,by omega,HL.out.symm,rfl,by simp,KP,P7 _ _ _ _,HX,Hi⟩
 case round=>
  obtain⟨k,d,vl,hk,J,Hq,T,X,j,z,hE⟩:=hrel;have o:=au X;by_cases Kc:k+15<=bs.length
  ·have S:=f8 HB k 15 Kc;obtain⟨Kh,m⟩:∃p,(bs.drop k).take 15=p:=⟨_,rfl⟩;have Hs:Kh.length=15:=by rw[<-m,P3,P0];omega
   rw[m]at S;have V:¬(bs.drop k).length<15:=by rw[P0];omega
   have Ks:(bs.drop k).drop 15=bs.drop (k+15):=by rw[List.drop_drop]
   have Hx:Bs wr (D (I ⟨b,Kg+k,H⟩) 15 (c-k)) Kh:=(SlR.capd S (by rw[Hs];omega) (by omega)).ext hE;have key:=Em _ Kh wr Hx Hs;have f:=J.out;have ec:(k:Int)+15<=(c:Int):=by omega
   cases s:ei rT Kh with
   |none=>
    rw[s]at key;rw[qS V (by rw[m];exact s),P5]at f;have i:=G f;have M:=G key;clear key s Hx S m Ks V f J Hc;go_wp2_with fail
    first | (with_reducible refine M.out.mono ?_) | (trace_state;fail)
    rintro e l⟨⟨x0,x1,x2,rfl⟩,HW⟩;have g:Ext wr (l.alloc (F #[B C x0,B C x1,B C x2] 54)):=xA HW _;have K:=X.ext g;have Hu:=z.ext g;have KO:=ai j g;have Kn:=xT hE g;clear o;have o:=au K;obtain⟨r0,y,O,s0,s1,s2⟩:=au Hu;obtain⟨R,cl,rfl,_,_⟩:=xO (xW j);go_wp2_with fail
    refine bodyPost_ret (lC _ _ _ _ _ rfl rfl (bV Hu _ _ _) rfl) rfl ?_;rw[Hr.out];refine⟨D R (d.map (·.2)).length cl,?_,?_,cZ Kn (xN _) _ _ _⟩
    ·dsimp only;rw[i.out,Hq.out,P4];rfl
    dsimp only;rw[i.out];exact fK Hu (Kx:=by decide) KO _ _ _
   |some x=>
    rw[s]at key;rw[qT V (by rw[m];exact s),Ks]at f;have i:=G f;have M:=G key;have Ko:(d.map (·.2)).length=d.length:=by rw[P4]
    obtain⟨P,hP⟩:∃P,d.map (·.2)=P:=⟨_,rfl⟩;rw[hP]at j Ko;have HP:=G hP;have KM:=G Ko;clear hP Ko;clear key s Hx S m Ks V f J Hc;go_wp2_with fail
    first | (with_reducible refine M.out.mono ?_) | (trace_state;fail)
    rintro e l⟨rfl,HW⟩;have g:Ext wr (l.alloc (F #[B C x.t,B C x.k,B C x.v] 54)):=xA HW _;have K:=X.ext g;have HM:=P6 l 54 #[B C x.t,B C x.k,B C x.v];have Kt:=o5 (l.alloc (F #[B C x.t,B C x.k,B C x.v] 54)) x;rw[xS]at Kt;have Hk:Ext (l.alloc (F #[B C x.t,B C x.k,B C x.v] 54)) ((l.alloc (F #[B C x.t,B C x.k,B C x.v] 54)).alloc (F #[B C x.t,B C x.k,B C x.v] 54)):=xA (xR _) _;have Y:=ai j (xT g Hk);have HV:=xT hE (xT g Hk);have Hw:=K.ext Hk;have Hv:=z.ext (xT g Hk);clear o;have o:=au K;obtain⟨r0,y,O,_,_,_⟩:=au HM;obtain⟨R,cl,rfl,_,_⟩:=xO (xW j);have KV:P.length+[x].length<=2000000:=by rw[KM.out];simp;omega
    go_wp2_with (at_builtin;refine DW rfl (.tmp 57) (.tmp 59) rfl w.heap.size _ P rfl Y _ [x] rfl Kt (by simp at KV⊢;omega) HV.size ?_;intro Q c8 w8 Kx KF HF;have KN:Ext w w8:=KF w HV (xN _);refine Hid.out ?_)
    refine G ?_;have U:=Hw.kept HF (Hw.not_row (by decide) Y);have Km:=Hv.kept HF (Hv.not_row (by decide) Y);simp only[xC,List.length_nil,Nat.zero_add]at Kx⊢;clear r0 y O Hw Hv K Y Kt HF KF o;have o:=au U;go_wp2_with fail
    go_roundw
    case rel=>
     have Ku:=U.set 1 (D Q (P.length+1) c8);have Kv:=Ku.set 2 (B C ((k+15:Nat):Int));have H4:w.heap.size≠a.heap.size:=by omega
     have y:=Kx.kept (ar _ a.heap.size 1 (D Q (P.length+1) c8)) (.inr (U.not_row (by decide) Kx).symm);have O:=y.kept (ar _ a.heap.size 2 (B C ((k+15:Nat):Int))) (.inr (Ku.not_row (by decide) y).symm);refine⟨k+15,d++[(k+15,x)],_,Kc,?_,?_,?_,Kv,?_,(Km.other H4 1 _).other H4 2 _,Below.setCell (p:=⟨a.heap.size,2,H⟩) (Below.setCell (p:=⟨a.heap.size,1,H⟩) KN (by show w.heap.size<=a.heap.size;omega) _) (by show w.heap.size<=a.heap.size;omega) _⟩
     ·show L=_;rw[i.out,List.append_assoc];rfl
     ·exact yZ d _ 6
     ·rw[xL];simp;omega
     rw[List.map_append,HP.out];exact O
    case measure=>
     have Kv:=(U.set 1 (D Q (P.length+1) c8)).set 2 (B C ((k+15:Nat):Int));have e1:iU wr a.heap.size=k:=by unfold iU;rw[X.cell 2 rfl];simp
     have e2:iU ((w8.setCell ⟨a.heap.size,1,H⟩ (D Q (P.length+1) c8)).setCell ⟨a.heap.size,2,H⟩ (B C ((k+15:Nat):Int))) a.heap.size=k+15:=by unfold iU;rw[Kv.cell 2 rfl];simp;omega
     have e3:((k:Int)+15)=((k+15:Nat):Int):=by omega
     rw[e1,e3,e2];omega
  ·have HZ:cG rT (bs.drop k) k=[]:=qo (by rw[P0];omega);have f:=J.out;rw[HZ,P5]at f;have i:=G f;have J8:¬((k:Int)+15<=(bs.length:Int)):=by omega
   obtain⟨r0,y,O,s0,s1,s2⟩:=au z;obtain⟨R,cl,rfl,_,_⟩:=xO (xW j);clear HZ f J;go_wp2_with fail
   refine bodyPost_ret (lC _ _ _ _ _ rfl rfl (bV z _ _ _) rfl) rfl ?_;rw[Hr.out];refine⟨D R (d.map (·.2)).length cl,?_,?_,cZ hE (xN _) _ _ _⟩
   ·dsimp only;rw[i.out,Hq.out,P4];rfl
   ·dsimp only;rw[i.out];exact fK z (Kx:=by decide) j _ _ _
theorem Ej(v:Value)(bs:List UInt8)(w:World)(a:Bs w v bs)(hl:O bs<=2000000):Calls E 99 #[v] w (eB w (bK rT bs)):=by
 by_cases h:(bK rT bs).err=11
 ·exact Ek v bs w a hl h
 ·exact EC v bs w a hl h
theorem tL(tmps:Array Value)(W:World)(b:Nat)(cs:Array Value)(u:Value)(h2:tmps.getD 4 undef=J (I ⟨b,0,H⟩))(h3:tmps.getD 5 undef=u)(hb:Blk W b 90 cs)(hs:cs.size=3):(results Tryz.f49 tmps).run E W=.ok (.tuple #[.agg cs,u]) W:=by
 have hl:=hb.load (P:=E) pw rfl (by rw[hs];kernel_rfl);have HQ:tmps[4]?.getD undef=J (I ⟨b,0,H⟩):=by simpa using h2
 have a:tmps[5]?.getD undef=u:=by simpa using h3
 simp[results,results49,HQ,a,asAddr,hl]
theorem Dj(v:Value)(bs:List UInt8)(m:Int)(w:World)(a:Bs w v bs)(hl:O bs<=2000000):Calls E 49 #[v,B C m] w (eB w (bY rT bs m)):=by
 have H8:=P6 w 90 #[B C 0,D none 0 0,B C 0];have hX:Ext w (w.alloc (F #[B C 0,D none 0 0,B C 0] 90)):=xA (xR _) _;by_cases h1:m=1
 ·subst h1;have hr:bY rT bs 1=bK rT bs:=rfl;rw[hr];have key:=Ej v bs _ (a.ext hX) hl;obtain⟨r,hr⟩:∃r,bK rT bs=r:=⟨_,rfl⟩;exact mcRonea0
 ·by_cases h2:m=2
  ·subst h2;have hr:bY rT bs 2=cz bs:=rfl;rw[hr];have key:=ED v bs _ (a.ext hX) hl;obtain⟨r,hr⟩:∃r,cz bs=r:=⟨_,rfl⟩;exact mcRonea0
  ·have hr:bY rT bs m=⟨2,0,[],0,(0,0)⟩:=by unfold bY;rw[if_neg h1,if_neg h2]
   have a:=G hr;have ea:=au H8;go_enter func49,ntmps49
   go_wp2_with fail
   refine bodyPost_ret (tL _ _ _ _ _ rfl rfl H8 rfl) rfl ?_;rw[a.out];exact⟨_,rfl,P7 _ _ _ _,hX⟩
