/- Merged -/
import Derived.Test.YteggfecbjgbndaaGreatDoorZy12
import Derived.Test.YteggfecbjgbndaaGreatDoorZy15
set_option linter.all false
set_option maxHeartbeats 8000000
set_option maxRecDepth 100000
open Go.Proofs.Tryz
open List renaming length->U
open Go.Value renaming int->B,bool->G,slice->J,pointer->O,agg->T
open Go.IntKind renaming i64->C,u8->N
open Option renaming none->D,some->I
open Go.Mv renaming aN->E
open Go.Proofs.Tryz renaming prog->F
open Go.Obj renaming cells->M
open List renaming length_drop->P0,drop_drop->P1,length_take->P2,take_of_length_le->P3,append_nil->P4,getD_eq_getElem?_getD->P5,drop_eq_getElem_cons->P6,getElem?_eq_getElem->P7,getElem_cons_zero->P8,getElem_cons_succ->P9,drop_of_length_le->Pa,map_append->Pb,length->Pc
open Go.IntKind renaming wrap_i64->Pd,i64->Pe,u8->Pf
open Go.Mv.Blk renaming new->Pg
open Go.Mv.Ext renaming grownOwn->Ph,cell->Pi
namespace Go.Proofs.YteggfecbjgbndaaGreatDoor
open Go.RowKit Go.Mv
variable {P:Prop}
theorem mcSnapRa0(h:P:=by
 rw[show[q].flatten=q from by simp,Jz.out]at Kl;have Jx:=E Kl;have Jl:=Kl.pt;obtain⟨a1,b1,rfl,_,_⟩:=Kl;obtain⟨f0,f1,f2,f3,hf⟩:∃f0 f1 f2 f3:UInt8,aW (aD z q)=[f0,f1,f2,f3]:=⟨_,_,_,_,rfl⟩;have Hf:=E hf;have HF:Hid (∀W,Calls F 249 #[.complex .f64 a1 b1] W λe w'=>e=.returned (T #[B N f0.toNat,B N f1.toNat,B N f2.toNat,B N f3.toNat])/\Ext W w'):=by
  intro W;refine(tw a1 b1 W).mono ?_;rintro e w' ⟨rfl,hE⟩;exact⟨by rw[Jl,hf];rfl,hE⟩
 go_wp2_with fail
 refine(HF _).mono ?_;rintro e w3⟨rfl,H7⟩;go_wp2_with fail
 have H3:Ext wr (w3.alloc (M #[B N (f0.toNat:Int),B N (f1.toNat:Int),B N (f2.toNat:Int),B N (f3.toNat:Int)] 188)):=xA (xT (xA (xR _) _) H7) _;have hb3:Blk (w3.alloc (M #[B N (f0.toNat:Int),B N (f1.toNat:Int),B N (f2.toNat:Int),B N (f3.toNat:Int)] 188)) w3.heap.size 188 ([f0,f1,f2,f3].map bv).toArray:=Pg w3 _ _;generalize JJ:w3.alloc (M #[B N (f0.toNat:Int),B N (f1.toNat:Int),B N (f2.toNat:Int),B N (f3.toNat:Int)] 188)=w4 at *;have X4:=xT Hg H3;have JZ:=E X4;refine wp_region_held_drew (S:=λ_=>True) (by kernel_rfl) trivial (λ_=>?_);refine ab 0 ?_;refine ab 1 ?_;refine ab 3 ?_;refine ah 2 (λK hK=>?_);refine fJ _ (.tmp 28) (.tmp 29) 33 (by rfl) w.heap.size 5 i0 (B N 0) 1 1 Tryz.underlying33 hi Kn Ko Kp rfl _ out.length (out.map bv) (ai (ai HO H3) (xD (xR _))) _ q.length (q.map bv) (H0.ext (xD X4)) (de _) (xD X4).size ?_;intro v5 w5 Ki KN;have Hd:=ai (ai HO H3) (xD (xR w4));have HW:=(hb3.ext (xD (xR _))).kept KN ((hb3.ext (xD (xR _))).not_row (by decide) Hd);have X5:Ext w w5:=Ph (xD X4) Hd KN;refine af hK _ _ trivial (λ_=>?_);refine ah 4 (λK hK=>?_);refine fJ _ (.tmp 30) (.tmp 31) 33 (by rfl) w.heap.size 5 i0 (B N 0) 1 1 Tryz.underlying33 hi Kn Ko Kp rfl _ (out.length+q.length) _ Ki _ 4 ([f0,f1,f2,f3].map bv) (fZ HW rfl (by simp[maxLen])) (de _) X5.size ?_;intro v6 w6 K0 Kv;have X6:Ext w w6:=Ph X5 Ki Kv;refine af hK _ _ trivial (λ_=>?_);refine ab 5 ?_;refine aq ?_;obtain⟨A6,c6,rfl,_,_⟩:=xO (xW K0);have HE:out.length+q.length+4=(out++q++[f0,f1,f2,f3]).length:=by simp;try omega
 have Kj:OwnB w6 w.heap.size (J A6 (out.length+q.length+4) c6) (out++q++[f0,f1,f2,f3]):=by
  unfold OwnB;rw[<-HE,Pb,Pb];exact K0
 have JB:=E Kj;go_wp2_with fail
 go_roundw
 case rel=>
  refine⟨k+4,A6,c6,out++q++[f0,f1,f2,f3],a1,b1,aD z q,by omega,by go_num,by rw[HE],rfl,Jx,E ?_,by rw[<-HE];omega,by rw[<-HE];exact JB,X6⟩;rw[<-Kt.out,Hf.out];simp
 case measure=>simp[intOf];omega):P:=h
theorem AU(b:Bool)(w:World):Calls F 213 #[.bool b] w λe w'=>e=.returned (B N (if b then 1 else 0))/\w=w':=by
 go_enter func213,ntmps213
 cases b
 ·go_wp2_with fail
  go_ret;exact⟨rfl,rfl⟩
 ·go_wp2_with fail
  go_ret;exact⟨rfl,rfl⟩
theorem IJ(s:Sta)(w:World)(h:s.ok=false):Calls F 210 #[T #[B C s.idx,B C s.term,B C s.sum,B C s.lvl,G s.fin]] w (mV w):=by
 have H:=E h;go_enter func210,ntmps210
 go_wp2_with fail
 refine(qJ s _).mono ?_;rw[H.out];rintro e a⟨rfl,a⟩;go_wp2_with fail
 go_ret2;exact⟨rfl,xT (xA (xR _) _) a⟩
theorem rG(s:Sta)(w:World)(h:s.ok=true):Calls F 210 #[T #[B C s.idx,B C s.term,B C s.sum,B C s.lvl,G s.fin]] w (nu w s.ints):=by
 have H:=E h;have g:=E (Sta.nums h);have d:Hid (s.ints=[s.idx,s.term,s.sum,s.lvl,s.finI]):=rfl;have i:s.finI=0\/s.finI=1:=by unfold Sta.finI;split<;>simp
 have i:Pe.wrap s.finI=s.finI:=by rw[Pd];omega
 have hb:=Pg w 41 #[B C s.idx,B C s.term,B C s.sum,B C s.lvl,G s.fin];go_enter func210,ntmps210
 go_wp2_with fail
 refine(qJ s _).mono ?_;rw[H.out];rintro e c⟨rfl,b⟩;go_wp2_with fail
 have f:Ext w (w.alloc (M #[B C s.idx,B C s.term,B C s.sum,B C s.lvl,G s.fin] 41)):=xA (xR _) _;refine wp_region_held_drew (S:=λw'=>w'.cell? ⟨w.heap.size,0,D⟩=I (B C s.idx)/\w'.cell? ⟨w.heap.size,1,D⟩=I (B C s.term)/\w'.cell? ⟨w.heap.size,2,D⟩=I (B C s.sum)/\w'.cell? ⟨w.heap.size,3,D⟩=I (B C s.lvl)/\w'.cell? ⟨w.heap.size,4,D⟩=I (G s.fin)) (by kernel_rfl) (ae (hb.ext (xD b))) (λ_=>?_);refine ab 0 ?_;refine ab 1 ?_;refine ab 2 ?_;refine ab 3 ?_;refine ab 4 ?_;refine ab 5 ?_;refine ab 6 ?_;refine ab 7 ?_;refine ab 8 ?_;refine ab 9 ?_;refine ah 10 (λK a=>?_);go_simp;refine(AU s.fin _).mono ?_;rw[show(if s.fin=true then(1:Int)else 0)=s.finI from rfl];rintro e i⟨rfl,rfl⟩;have i:Ext (w.alloc (M #[B C s.idx,B C s.term,B C s.sum,B C s.lvl,G s.fin] 41)) c.drew:=xD b;try(go_wp2_with fail)
 refine af a _ _ (ae (hb.ext i)) (λ_=>?_);refine ab 11 ?_;refine ah 12 (λK a=>?_);go_simp;have H3:Ext (w.alloc (M #[B C s.idx,B C s.term,B C s.sum,B C s.lvl,G s.fin] 41)) (c.alloc (M #[B C s.idx,B C s.term,B C s.sum,B C s.lvl,B C s.finI] 3)).drew:=xD (xA b _);refine af a _ _ (ae (hb.ext H3)) (λ_=>?_);refine ah 13 (λK a=>?_);go_simp;refine(qq _ _ _ ((is5 c s.idx s.term s.sum s.lvl s.finI).ext (xD (xR _))) (by rw[<-d.out];exact g.out) (by simp)).mono ?_;rw[<-d.out];rintro e b⟨v,rfl,b,Ke⟩;try(go_wp2_with fail)
 have Kb:=xT H3 Ke;refine af a _ _ (ae (hb.ext Kb)) (λ_=>?_);refine ab 14 ?_;refine ab 15 ?_;refine ab 16 ?_;refine ab 17 ?_;refine aq ?_;go_wp2_with fail
 go_ret2;exact⟨v,rfl,ay b (xT f H3).size,xT f Kb⟩
theorem DZ(v:Value)(t:List UInt8)(w:World)(f:Bs w v t)(h:U t<=100000):Calls F 211 #[v] w (nw w (bA (0,0) t)):=by
 obtain⟨A,c,rfl,h1,h2⟩:=xO f;obtain⟨i0,hi,Kn,Ko,Kp⟩:=info_parts dC;have l:=E f;go_enter func211,ntmps211
 go_wp2_with fail
 go_loopw [3,4,5] (λp i x W=>∃(k:Nat) (f:Option Addr) (h:Nat) (out:List UInt8) (a d:Nat) (z:Nat×Nat),k<=U t+3/\x=B C k/\p=J f out.length h/\i=.complex .f64 a d/\Hid (PtV (.complex .f64 a d) z)/\Hid (out++bA z (t.drop k)=bA (0,0) t)/\U out<=2*k/\Hid (OwnB W w.heap.size (J f out.length h) out)/\Ext w W) (λ_ _ x _=>U t+4-(intOf x).toNat)
 case atStart=>exact⟨0,none,0,[],0,0,(0,0),by omega,rfl,rfl,rfl,E PtV.zero,E (by simp),by simp,E (World.ownsRow_nil _ _ _ _),xR _⟩
 case round=>
  obtain⟨k,f,h,out,a,d,z,f,rfl,rfl,rfl,o,j,f,HO,g⟩:=hrel;by_cases f:k<U t
  ·obtain⟨_,b,f,rfl,_⟩:=Bs.at_ (l.ext g) (by omega);obtain⟨m,hm⟩:∃m,min (k+4) (U t)=m:=⟨_,rfl⟩;have f:min ((k:Int)+4) (U t:Int)=(m:Int):=by omega
   have f:(k:Int)<=(m:Int):=by omega
   have f:(m:Int)<=(U t:Int):=by omega
   have f:(m:Int)<=(c:Int):=by omega
   have f:¬c=k:=by omega
   have f:(k:Int)<(U t:Int):=by omega
   have f:Pe.wrap ((k:Int)+4)=(k:Int)+4:=by rw[Pd];omega
   obtain⟨n,hn⟩:∃n,m-k=n:=⟨_,rfl⟩;have H1:=Bs.take (Bs.cut l k (by omega) rfl) n (by rw[P0];omega);obtain⟨q,f⟩:∃q,(t.drop k).take n=q:=⟨_,rfl⟩;have l:(t.drop k).take 4=q:=by
    rw[<-f];by_cases h4:n=4
    ·rw[h4]
    rw[P3 (by rw[P0];omega),P3 (by rw[P0];omega)]
   have h:U q=n:=by rw[<-f,P2,P0];omega
   have h:out++(q++(aW (aD z q)++bA (aD z q) (t.drop (k+4))))=bA (0,0) t:=by
    rw[<-j.out,mh z (t.drop k) (by rw[P0];omega),l,P1]
   rw[f]at H1;have H0:=E H1;have Kt:=E h;have Hg:=E g;have f:1<=n:=by omega
   have f:n<=4:=by omega
   have f:=o.pt;have Jz:=E f;go_wp2_with fail
   all_goals first | rw[show((k:Int)+4).toNat-k=n by omega] | rw[show U t-k=n by omega]
   all_goals refine(pS a d _ _ _ (lU (H0.ext Hg.out))).mono ?_
   ·rintro e r⟨i,rfl,Kl,rfl⟩;exact mcSnapRa0
   rintro e r⟨i,rfl,Kl,rfl⟩;exact mcSnapRa0
  ·have a:out=bA (0,0) t:=by
    rw[<-j.out,Pa (by omega),mF,P4]
   have d:=HO.out;rw[a]at d;have f:U out=U (bA (0,0) t):=by rw[a]
   have h:=E d;have a:=E f;go_wp2_with fail;go_ret;exact⟨_,rfl,by rw[a.out];exact h.out,g⟩
theorem AP(s:Sta)(f:Int)(w:World)(h:s.ok=false\/(f≠1/\f≠2)):Calls F 160 #[T #[B C s.idx,B C s.term,B C s.sum,B C s.lvl,G s.fin],B C f] w (mV w):=by
 have d:Ext w (w.alloc (M #[B C s.idx,B C s.term,B C s.sum,B C s.lvl,G s.fin] 41)):=xA (xR _) _;have H:=E h;obtain⟨ok,b⟩:∃x,s.ok=x:=⟨_,rfl⟩;cases ok
 ·have c:=E b;go_enter func160,ntmps160
  go_wp2_with fail
  refine(IJ s _ c.out).mono ?_;rintro e i⟨rfl,a⟩;go_wp2_with fail
  go_ret2;exact⟨rfl,xT d a⟩
 ·have c:=E b;have g:=H.resolve_left (by rw[b];simp);obtain⟨e1,e2⟩:=g;have b1:(f != 1)=true:=by simpa using e1
  have b2:(f != 2)=true:=by simpa using e2
  go_enter func160,ntmps160
  go_wp2_with fail
  refine(rG s _ c.out).mono ?_;rintro e i⟨v,rfl,b,a⟩;go_wp2_with fail
  go_ret2;exact⟨rfl,xT d a⟩
theorem Mi(s:Sta)(w:World)(h:s.ok=true):Calls F 160 #[T #[B C s.idx,B C s.term,B C s.sum,B C s.lvl,G s.fin],B C 2] w (ma w (cJ s)):=by
 obtain⟨t,b⟩:∃t,aF s.ints=t:=⟨_,rfl⟩;have k:t.length<=25:=by subst b;exact eY s.ints
 have A:=E h;have p:=E b;have Hl:Hid (t.length<=25):=k;obtain⟨a,d⟩:∃x,UInt8.ofNat ((t.length+3) / 4)=x:=⟨_,rfl⟩;have q:Hid (wrap64 ((wrap64 ((t.length:Int)+3)).tdiv 4) % 256=(a.toNat:Int)):=by
  have e1:wrap64 ((t.length:Int)+3)=((t.length+3:Nat):Int):=by unfold wrap64;omega
  have e2:((t.length+3:Nat):Int).tdiv 4=(((t.length+3) / 4:Nat):Int):=rfl;have e3:wrap64 (((t.length+3) / 4:Nat):Int)=(((t.length+3) / 4:Nat):Int):=by unfold wrap64;omega
  rw[Hid,e1,e2,e3,<-d];simp
 have r:Hid (cJ s=[2,a]++bA (0,0) t):=by rw[Hid,cJ,b,d];rfl
 clear h b k d;have O:Ext w (w.alloc (M #[B C s.idx,B C s.term,B C s.sum,B C s.lvl,G s.fin] 41)):=xA (xR _) _;go_enter func160,ntmps160
 go_wp2_with fail
 refine(rG s _ A.out).mono ?_;rintro e c⟨v,rfl,f,m⟩;rw[p.out]at f;obtain⟨R,S,rfl,-,-⟩:=xO (xW f);go_wp2_with fail
 first | rw[q.out] | (trace_state;fail)
 have i:Ext w c:=xT O m;have K:=be c [bv 2,bv a] 5 2 (hm:=rfl) (hl:=by simp[maxLen]) i.size;have L:OwnB (c.alloc (M #[bv 2,bv a] 5)) w.heap.size (J (I ⟨c.heap.size,0,D⟩) 2 2) [2,a]:=K;refine(DZ _ t _ (Bs.ext (xW f) (xA (xR _) _)) (by have:=Hl.out;omega)).mono ?_;rintro e Q⟨U,rfl,o,g⟩;have j:Ext w Q:=xT (xA i _) g;have z:=qm (0,0) t;have y:Hid ((bA (0,0) t).length<=100):=by have:=Hl.out;rw[Hid];omega
 clear z;go_wp2_with (
  refine eu (Ke:=rfl) (.tmp 32) (.tmp 34) rfl w.heap.size _ [2,a] (hs:=rfl) (OwnB.ext L g) _ (bA (0,0) t) (hx:=rfl) (xW o) (by have:=y.out;simp;omega) j.size ?_;intro l N V n H)
 go_ret2;have Ke:=H w j (xN _);have e1:cJ s=[2,a]++bA (0,0) t:=r.out;have e2:(cJ s).length=([2,a]:List UInt8).length+(bA (0,0) t).length:=by rw[e1,xL]
 refine⟨l,N,?_,?_,Ke⟩
 ·rw[e2];rfl
 ·rw[e2,e1];exact n
theorem Mh(s:Sta)(w:World)(h:s.ok=true):Calls F 160 #[T #[B C s.idx,B C s.term,B C s.sum,B C s.lvl,G s.fin],B C 1] w (ma w (dS s)):=by
 have Z:=E h;have V:Hid (aG [s.idx,s.term,s.sum]=true):=by
  obtain⟨h1,h2,h3,_⟩:=Sta.okP h;exact by simp[Hid,aG,h1,h2,h3]
 obtain⟨d,o⟩:∃x,UInt8.ofNat s.lvl.toNat=x:=⟨_,rfl⟩;obtain⟨c,j⟩:∃x,UInt8.ofNat s.finI.toNat=x:=⟨_,rfl⟩;have Gh:Pf.wrap s.lvl=(d.toNat:Int):=by subst o;rcases(Sta.okP h).2.2.2 with e | e<;>rw[e]<;>rfl
 have X:s.finI=(c.toNat:Int):=by subst j;rcases s.finP with e | e<;>rw[e]<;>rfl
 have n:Hid (dS s=bh rT (1::(aP [s.idx,s.term,s.sum]++[d,c]))):=by subst o;subst j;rfl
 obtain⟨H,A,y,z,Kp⟩:=info_parts dC;have hb:=Pg w 41 #[B C s.idx,B C s.term,B C s.sum,B C s.lvl,G s.fin];have hX:Ext w (w.alloc (M #[B C s.idx,B C s.term,B C s.sum,B C s.lvl,G s.fin] 41)):=xA (xR _) _;go_enter func160,ntmps160
 go_wp2_with fail
 refine(rG s _ Z.out).mono ?_;rintro e O⟨v,rfl,j,j⟩;have r:=hb.ext j;obtain⟨o,o,o,o,o⟩:=ae r;have R:=xT hX j;go_wp2_with fail
 refine(I4 _ _ _ (Ct O s.idx s.term s.sum) V (by simp)).mono ?_;rintro e a⟨v2,rfl,m,V⟩;obtain⟨L,j⟩:∃L,aP [s.idx,s.term,s.sum]=L:=⟨_,rfl⟩;have o:U L=15:=by rw[<-j];simp[mK]
 rw[j,o]at m;have Z:=E j;rw[j]at n;have i:=E o;have j:Bs a v2 L:=by unfold Bs;rw[o];exact xW m
 have Y:=E j;have o:Ext O a:=xT (xA (xR _) _) V;have j:=r.ext o;have r:=E j;have t:=E (xT R o);have g:a.cell? ⟨w.heap.size,3,D⟩=I (B C s.lvl):=j.cell 3 rfl;have f:a.cell? ⟨w.heap.size,4,D⟩=I (G s.fin):=j.cell 4 rfl;obtain⟨j,j,rfl,-,-⟩:=xO (xW m);go_wp2_with fail
 refine wp_region_held_drew (S:=λW=>W.cell? ⟨w.heap.size,3,D⟩=I (B C s.lvl)/\W.cell? ⟨w.heap.size,4,D⟩=I (G s.fin)) (by kernel_rfl) ⟨g,f⟩ (λ_=>?_);refine ab 1 ?_;refine ab 3 ?_;refine ab 4 ?_;refine ab 5 ?_;refine ab 6 ?_;refine ab 7 ?_;refine ah 0 (λK b=>?_);go_simp;have j:Ext a (a.alloc (M #[B N 1] 5)).drew:=xD (xA (xR _) _);have m:(a.alloc (M #[B N 1] 5)).drew.ownsRow a.heap.size 5 1 (J (I ⟨a.heap.size,0,D⟩) 1 1) 1 ([1].map bv):=ai (be a [B N 1] 5 1 (xN _)) (xD (xR _));refine af b _ _ ⟨j.cell g,j.cell f⟩ (λ_=>?_);refine ah 2 (λK b=>?_);refine fJ _ (.tmp 47) (.tmp 48) 33 (by rfl) a.heap.size 5 H (B N 0) 1 1 underlying33 A y z Kp rfl _ 1 ([1].map bv) m _ L.length (L.map bv) (Y.ext j) (de _) (KD:=by rw[i.out];simp[maxLen]) (Hl:=by rw[i.out];omega) j.size ?_;intro o p q o;have k:Ext a p:=Ph j m o;refine af b _ _ ⟨k.cell g,k.cell f⟩ (λ_=>?_);refine ah 8 (λK b=>?_);go_simp;refine(AU s.fin _).mono ?_;rw[show(if s.fin=true then(1:Int)else 0)=(c.toNat:Int)from X];rintro e j⟨rfl,rfl⟩;try(go_wp2_with fail)
 refine af b _ _ ⟨k.cell g,k.cell f⟩ (λ_=>?_);refine ah 9 (λK b=>?_);go_simp;have j:Ext a (p.alloc (M #[bv d,bv c] 5)):=xA k _;refine af b _ _ ⟨j.cell g,j.cell f⟩ (λ_=>?_);refine ah 10 (λK b=>?_);refine fJ _ (.tmp 49) (.tmp 56) 33 (by rfl) a.heap.size 5 H (B N 0) 1 1 underlying33 A y z Kp rfl _ (1+U L) _ (ai q (xA (xR _) _)) _ 2 ([d,c].map bv) (bs2 p d c) (de _) (KD:=by rw[i.out];simp[maxLen]) (Hl:=by rw[i.out];omega) j.size ?_;intro p k m o;have l:Ext a k:=Ph j (ai q (xA (xR _) _)) o;refine af b _ _ ⟨l.cell g,l.cell f⟩ (λ_=>?_);have a:1+U L+2=U (1::(L++[d,c])):=by simp;omega
 have j:Bs k p (1::(L++[d,c])):=by
  unfold Bs;rw[<-a];have:=xW m;simpa using this
 refine ah 11 (λK b=>?_);go_simp;refine(qU _ _ _ j (by rw[<-a,i.out];omega)).mono ?_;rintro e a⟨Q,c7,rfl,j,i⟩;try(go_wp2_with fail)
 have a:=xT l i;refine af b _ _ ⟨a.cell g,a.cell f⟩ (λ_=>?_);refine ab 12 ?_;refine ab 13 ?_;refine aq ?_;have b:=ay j (xT t l).size;rw[<-n.out]at b;have f:U (bh rT (1::(L++[d,c])))=U (dS s):=by rw[n.out]
 rw[f];have c:=E (xT t a);have a:=E b;go_wp2_with fail
 go_ret2;exact⟨Q,c7,rfl,a.out,c.out⟩
theorem AO(s:Sta)(f:Int)(w:World):Calls F 160 #[T #[B C s.idx,B C s.term,B C s.sum,B C s.lvl,G s.fin],B C f] w (sN w (dG s f)):=by
 unfold dG;by_cases h:s.ok=true
 ·rw[if_pos h];by_cases h1:f=1
  ·subst h1;exact Mh s w h
  rw[if_neg h1];by_cases h2:f=2
  ·subst h2;exact Mi s w h
  rw[if_neg h2];exact AP s f w (.inr ⟨h1,h2⟩)
 ·rw[if_neg h];exact AP s f w (.inl (by simpa using h))
theorem yk(b:List UInt8):(az (b.take 5)).1=(az b).1/\(az (b.take 5)).2.1=(az b).2.1:=by
 by_cases h:U b<5
 ·rw[P3 (by omega)];exact⟨rfl,rfl⟩
 ·unfold az;rw[P2,List.take_take,Nat.min_eq_left (by omega),Nat.min_self,if_neg (by omega),if_neg h];split<;>exact⟨rfl,rfl⟩
theorem pZ(k:Nat)(a:List Int)(b:List UInt8):dp (k+1) a b=if(az b).1=0 then dp k (a++[((az b).2.1:Int)]) (b.drop 5)else none:=by
 rw[dp,(yk b).1,(yk b).2]
def sO(w:World)(r:Option Sta)(e:Ending)(w':World):Prop:=e=.returned (.tuple #[T #[B C (r.getD staZ).idx,B C (r.getD staZ).term,B C (r.getD staZ).sum,B C (r.getD staZ).lvl,G (r.getD staZ).fin],G r.isSome])/\Ext w w'
def lV(b:List UInt8):Option Sta:=(eA b).map fV
theorem mM(tmps:Array Value)(W:World)(b:Nat)(cs:Array Value)(u:Value)(h4:tmps.getD 2 undef=O (I ⟨b,0,D⟩))(h5:tmps.getD 3 undef=u)(hb:Blk W b 41 cs)(hs:cs.size=5):(results Tryz.f158 tmps).run F W=.ok (.tuple #[.agg cs,u]) W:=by
 have hl:=hb.load (P:=F) fN rfl (by rw[hs];kernel_rfl);have a:tmps[2]?.getD undef=O (I ⟨b,0,D⟩):=by simpa using h4
 have c:tmps[3]?.getD undef=u:=by simpa using h5
 simp[results,results158,a,c,asAddr,hl]
theorem IU(v:Value)(bs:List UInt8)(w:World)(r:Bs w v bs)(hl:U bs<=2000000):Calls F 158 #[v] w (sO w (lV bs)):=by
 obtain⟨A,c,rfl,h1,h2⟩:=xO r;have Y:=Pg w 41 #[B C 0,B C 0,B C 0,B C 0,G false];have hX:Ext w (w.alloc (M #[B C 0,B C 0,B C 0,B C 0,G false] 41)):=xA (xR _) _;obtain⟨R,Z⟩:∃R,lV bs=R:=⟨_,rfl⟩;rw[Z];have j:=Z;unfold lV eA at j;by_cases k:U bs=22
 case neg=>
  rw[if_neg k]at j;obtain rfl:none=R:=j;have Hc:((U bs:Int) != 22)=true:=by simp;omega
  obtain⟨J,L,O,T,V⟩:=ae Y;obtain⟨t,x,y,z,H⟩:=bR Y;go_enter func158,ntmps158
  go_wp2_with fail
  refine bodyPost_ret (mM _ _ _ _ _ rfl rfl (Pg w 41 _) rfl) rfl ?_;exact⟨rfl,xA (xR _) _⟩
 rw[if_pos k]at j;obtain⟨_,b,Z,rfl,Z⟩:=Bs.at_ r (by omega);have Z:=E r;have H1:=r.cut 1 (by omega) rfl;obtain⟨Q,r⟩:∃Q,bs.drop 1=Q:=⟨_,rfl⟩;rw[r,pZ]at j;rw[r]at H1;have Z:U Q=21:=by rw[<-r,P0];omega
 obtain⟨m,KL,KO⟩:∃m,Q.drop 15=bs.getD 16 0::bs.getD 17 0::m/\U m=4:=by
  refine⟨bs.drop 18,?_,by rw[P0];omega⟩;rw[<-r,P1,P6 (by omega:1+15<U bs),P6 (by omega:1+15+1<U bs),P5,P5,P7 (by omega),P7 (by omega)];rfl
 generalize bs.getD 16 0=y0 at *;generalize bs.getD 17 0=y1 at *;have r:=λ(W:World) (hE:Ext w W)=>iJ _ Q W (H1.ext hE) (by omega);have HS:=λ(W:World) (u:Value) (h:Bs W u (Q.drop 5))=>iJ u _ W h (by rw[P0];omega);have HU:=λ(W:World) (u:Value) (h:Bs W u (Q.drop 10))=>iJ u _ W h (by rw[P0];omega);rw[pZ,pZ,P1]at j;obtain⟨a,Z⟩:∃q,az Q=q:=⟨_,rfl⟩;obtain⟨d,Ky⟩:∃q,az (Q.drop 5)=q:=⟨_,rfl⟩;obtain⟨f,Kz⟩:∃q,az (Q.drop 10)=q:=⟨_,rfl⟩;rw[Z,Ky,show 5+5=10 from rfl,Kz]at j;rw[Z]at r;rw[Ky]at HS;rw[Kz]at HU;have Km:a.1=0->a.2.2=Q.drop 5:=λh=>by rw[<-Z]at h⊢;exact takeLong_rest h
 have Jn:d.1=0->d.2.2=Q.drop 10:=λh=>by rw[<-Ky]at h⊢;rw[takeLong_rest h,P1]
 have Z:f.1=0->f.2.2=Q.drop 15:=λh=>by rw[<-Kz]at h⊢;rw[takeLong_rest h,P1]
 rw[KL]at Z;generalize Q.drop 5=Q5 at *;generalize Q.drop 10=Q10 at *;have g:=E j;have j:=E r;have KI:=E HS;have KJ:=E HU;have J0:=E Km;have J1:=E Jn;have J2:=E Z;have Hb:=E Y;have HX:=E hX;rw[k]at r h1⊢;have j:=E r;have Hc:((22:Int) != 22)=false:=rfl;have k:¬c=1:=by omega
 go_enter func158,ntmps158
 go_wp2_with fail
 first | (with_reducible refine(j.out _ (xA (xR _) _)).mono ?_) | (trace_state;fail)
 rintro e w1⟨v1,rfl,KR,j⟩;have HJ:=E (xT HX j);have p:=E (Hb.ext j);by_cases z1:a.1=0
 case neg=>
  obtain rfl:none=R:=by rw[<-g.out,if_neg z1];rfl
  have k:(a.1 != 0)=true:=by simpa using z1
  obtain⟨J,L,O,T,V⟩:=ae p.out;obtain⟨t,x,y,z,H⟩:=bR p.out;go_wp2_with fail
  refine bodyPost_ret (mM _ _ _ _ _ rfl rfl (cB p _ _ _ _ _) rfl) rfl ?_;exact⟨rfl,cC HJ (xN _) _ _ _ _ _⟩
 have i:=g.out;rw[if_pos z1]at i;have g:=E i;rw[J0.out z1]at KR;have j:Bs w1 v1 Q5:=xW KR;have r:=E j;have k:(a.1 != 0)=false:=by simpa using z1
 go_wp2_with fail
 refine(KI _ _ r.out).mono ?_;rintro e w2⟨v2,rfl,H5,j⟩;have K2:=E (xT HJ j);have o:=E (p.ext j);by_cases z2:d.1=0
 case neg=>
  obtain rfl:none=R:=by rw[<-g.out,if_neg z2];rfl
  have k:(d.1 != 0)=true:=by simpa using z2
  obtain⟨J,L,O,T,V⟩:=ae o.out;obtain⟨t,x,y,z,H⟩:=bR o.out;go_wp2_with fail
  refine bodyPost_ret (mM _ _ _ _ _ rfl rfl (cB o _ _ _ _ _) rfl) rfl ?_;exact⟨rfl,cC K2 (xN _) _ _ _ _ _⟩
 have i:=g.out;rw[if_pos z2]at i;have g:=E i;rw[J1.out z2]at H5;have j:Bs w2 v2 Q10:=xW H5;have p:=E j;have k:(d.1 != 0)=false:=by simpa using z2
 go_wp2_with fail
 refine(KJ _ _ p.out).mono ?_;rintro e l⟨v3,rfl,X,j⟩;have Kr:=E (xT K2 j);have H8:=E (o.ext j);by_cases n:f.1=0
 case neg=>
  obtain rfl:none=R:=by rw[<-g.out,if_neg n];rfl
  have j:(f.1 != 0)=true:=by simpa using n
  obtain⟨J,L,O,T,V⟩:=ae H8.out;obtain⟨t,x,y,z,H⟩:=bR H8.out;go_wp2_with fail
  refine bodyPost_ret (mM _ _ _ _ _ rfl rfl (cB H8 _ _ _ _ _) rfl) rfl ?_;exact⟨rfl,cC Kr (xN _) _ _ _ _ _⟩
 have i:=g.out;rw[if_pos n,dp]at i;rw[J2.out n]at X;have Jv:=E X;have hb3:Bs l v3 (y0::y1::m):=xW X;have j:(f.1 != 0)=false:=by simpa using n
 obtain rfl:some ⟨(a.2.1:Int),(d.2.1:Int),(f.2.1:Int),(y0.toNat:Int),(y1.toNat:Int)==1⟩=R:=i;obtain⟨g,g,rfl,_,_⟩:=xO hb3;obtain⟨_,b3,s,rfl,j⟩:=Bs.at_ hb3 (by simp);have g:=j 0 (by simp);have i:=j 1 (by simp);simp only[P8,P9,Nat.add_zero]at g i;have j:U (y0::y1::m)=6:=by simp[KO]
 rw[j];have k:=H8.not_row (by decide) Jv.out;have j:Pe.wrap (y0.toNat:Int)=(y0.toNat:Int):=by have:=y0.toNat_lt;rw[Pd];omega
 go_wp2_with fail;obtain⟨t,x,y,z,H⟩:=bR (H8.ext (xD (xR _)));obtain⟨J,L,O,T,V⟩:=ae (H8.ext (xD (xR _)));obtain⟨j,j,j,j,j⟩:=bR H8.out;obtain⟨j,j,j,j,j⟩:=ae H8.out;refine wp_region_held_drew (S:=λW=>W.cell? ⟨b3,s,D⟩=I (B N (y0.toNat:Int))/\W.cell? ⟨b3,s+1,D⟩=I (B N (y1.toNat:Int))) (by kernel_rfl) ⟨g,i⟩ (λ_=>?_);refine ab 0 ?_;refine ab 1 ?_;refine ab 2 ?_;refine ab 3 ?_;refine ab 4 ?_;refine ab 5 ?_;refine ab 6 ?_;refine ab 7 ?_;refine ab 8 ?_;refine ab 9 ?_;refine ab 10 ?_;refine ab 11 ?_;refine ah 12 (λK m=>?_);go_simp;have j:w.heap.size≠b3:=λe=>k (by rw[e];rfl);have k:(((((l.setCell ⟨w.heap.size,0,D⟩ (B C (a.2.1:Int))).setCell ⟨w.heap.size,1,D⟩ (B C (d.2.1:Int))).setCell ⟨w.heap.size,2,D⟩ (B C (f.2.1:Int))).setCell ⟨w.heap.size,3,D⟩ (B C (y0.toNat:Int))).setCell ⟨w.heap.size,4,D⟩ (G ((y1.toNat:Int)==1))).drew.cell? ⟨b3,s,D⟩=I (B N (y0.toNat:Int)):=Pi (xD (xR _)) (im (W:=l) g j _ _ _ _ _);have n:(((((l.setCell ⟨w.heap.size,0,D⟩ (B C (a.2.1:Int))).setCell ⟨w.heap.size,1,D⟩ (B C (d.2.1:Int))).setCell ⟨w.heap.size,2,D⟩ (B C (f.2.1:Int))).setCell ⟨w.heap.size,3,D⟩ (B C (y0.toNat:Int))).setCell ⟨w.heap.size,4,D⟩ (G ((y1.toNat:Int)==1))).drew.cell? ⟨b3,s+1,D⟩=I (B N (y1.toNat:Int)):=Pi (xD (xR _)) (im (W:=l) i j _ _ _ _ _);have g:Blk (((((l.setCell ⟨w.heap.size,0,D⟩ (B C (a.2.1:Int))).setCell ⟨w.heap.size,1,D⟩ (B C (d.2.1:Int))).setCell ⟨w.heap.size,2,D⟩ (B C (f.2.1:Int))).setCell ⟨w.heap.size,3,D⟩ (B C (y0.toNat:Int))).setCell ⟨w.heap.size,4,D⟩ (G ((y1.toNat:Int)==1))).drew w.heap.size 41 #[B C (a.2.1:Int),B C (d.2.1:Int),B C (f.2.1:Int),B C (y0.toNat:Int),G ((y1.toNat:Int)==1)]:=(cB H8 _ _ _ _ _).ext (xD (xR _));have i:Ext w (((((l.setCell ⟨w.heap.size,0,D⟩ (B C (a.2.1:Int))).setCell ⟨w.heap.size,1,D⟩ (B C (d.2.1:Int))).setCell ⟨w.heap.size,2,D⟩ (B C (f.2.1:Int))).setCell ⟨w.heap.size,3,D⟩ (B C (y0.toNat:Int))).setCell ⟨w.heap.size,4,D⟩ (G ((y1.toNat:Int)==1))).drew:=xD (cC Kr (xN _) _ _ _ _ _);first | (with_reducible refine m.out _ _ ⟨k,n⟩ (λ_=>?_)) | (trace_state;fail)
 try simp only[Act.put,sA,sZ,sS]
 refine ab 13 ?_;refine aq ?_;go_wp2_with fail
 refine bodyPost_ret (mM _ _ _ _ _ rfl rfl g rfl) rfl ?_;exact⟨rfl,i⟩
theorem mcSnapR4a0(h:P:=by
 intro A4 c4 w4 HG JI;have Ke:=JI _ Hg.out (by rw[JS];exact xN _);have KO:out.length+q.length=(out++q).length:=by simp
 rw[KO]at HG⊢;go_wp2_with fail
 go_roundw
 case rel=>
  refine⟨k+8,A4,c4,out++q,by omega,by omega,by go_num,rfl,E (by rw[List.append_assoc];exact Kt.out),E ?_,HG,Ke⟩;have:=congrArg Pc Kt.out;have h3:=CF bs;simp only[xL]at this⊢;omega
 case measure=>simp[intOf];omega):P:=h
theorem mcSnapR4a1(h:P:=by
 obtain⟨g0,g1,g2,g3,g4⟩:=ae H4.out;obtain⟨f0,f1,f2,f3,f4⟩:=bR H4.out;go_wp2_with fail
 refine bodyPost_ret (s9 _ _ _ _ _ rfl rfl (cB H4.out _ _ _ _ _) rfl) rfl ?_;exact⟨rfl,cC K2.out (xN _) _ _ _ _ _⟩):P:=h
def iR(b:List UInt8):Option Sta:=if(ao 5 [] (dr b)).1=0/\(ao 5 [] (dr b)).2.2=[]then some (fV (ao 5 [] (dr b)).2.1)else none
theorem s9(tmps:Array Value)(W:World)(b:Nat)(cs:Array Value)(u:Value)(h4:tmps.getD 2 undef=O (I ⟨b,0,D⟩))(h5:tmps.getD 3 undef=u)(hb:Blk W b 41 cs)(hs:cs.size=5):(results Tryz.f159 tmps).run F W=.ok (.tuple #[.agg cs,u]) W:=by
 have hl:=hb.load (P:=F) fN rfl (by rw[hs];kernel_rfl);have a:tmps[2]?.getD undef=O (I ⟨b,0,D⟩):=by simpa using h4
 have c:tmps[3]?.getD undef=u:=by simpa using h5
 simp[results,results159,a,c,asAddr,hl]
theorem OG(b:List UInt8)(k:Nat)(h:k<U b):(bg 8 (b.drop k)).flatMap dl=(b.drop k).take (min 4 (U b-k-4))++(bg 8 (b.drop (k+8))).flatMap dl:=by
 have a:b.drop k≠[]:=λe=>by have:=congrArg Pc e;simp at this;omega
 rw[bg,dif_neg (by rintro(e | e);exact a e;cases e),List.flatMap_cons,P1];congr 1
 unfold dl;rw[P2,P0,List.take_take];congr 1
 omega
theorem L7(b:List UInt8)(k:Nat)(h:U b<=k):(bg 8 (b.drop k)).flatMap dl=[]:=by
 rw[Pa h,bg,dif_pos (.inl rfl)];rfl
theorem CF(b:List UInt8):U (dr b)<=U b:=by
 have:=pH (b.drop 2);unfold dr;show U ((bg 8 (b.drop 2)).flatMap dl)<=_;rw[P0]at this;omega
theorem Dt(v:Value)(bs:List UInt8)(w:World)(hB:Bs w v bs)(hl:bs.length<=2000000):Calls F 159 #[v] w (sO w (iR bs)):=by
 obtain⟨A,c,rfl,h1,h2⟩:=xO hB;have Hr:=Pg w 41 #[B C 0,B C 0,B C 0,B C 0,G false];have hX:Ext w (w.alloc (M #[B C 0,B C 0,B C 0,B C 0,G false] 41)):=xA (xR _) _;have JS:(w.alloc (M #[B C 0,B C 0,B C 0,B C 0,G false] 41)).heap.size=w.heap.size+1:=by simp
 obtain⟨R,hR⟩:∃R,iR bs=R:=⟨_,rfl⟩;rw[hR];have HR:=E hR;have HB:=E hB;have HX:=E hX;have Hb:=E Hr;clear hR hB hX Hr;go_enter func159,ntmps159
 go_wp2_with fail
 go_loopw [4,5] (λvo x W=>∃(k:Nat) (X:Option Addr) (co:Nat) (out:List UInt8),2<=k/\k<=bs.length+8/\x=B C k/\vo=J X out.length co/\Hid (out++(bg 8 (bs.drop k)).flatMap dl=dr bs)/\Hid (out.length<=bs.length)/\Hid (OwnB W (w.heap.size+1) (J X out.length co) out)/\Ext (w.alloc (M #[B C 0,B C 0,B C 0,B C 0,G false] 41)) W) (λ_ x _=>bs.length+9-(intOf x).toNat)
 case atStart=>exact⟨2,none,0,[],by omega,by omega,rfl,rfl,E rfl,E (by simp),E (World.ownsRow_nil _ _ _ _),xR _⟩
 case round=>
  obtain⟨k,X,co,out,G6,hk,rfl,rfl,Y,KC,O,z⟩:=hrel;by_cases hlt:k<bs.length
  ·obtain⟨_,b,d,rfl,_⟩:=Bs.at_ (HB.out.ext (xT HX.out z)) (by omega);have N:=Y.out;rw[OG bs k hlt]at N;obtain⟨n,hn⟩:∃n,min 4 (bs.length-k-4)=n:=⟨_,rfl⟩;rw[hn]at N;obtain⟨q,f⟩:∃q,(bs.drop k).take n=q:=⟨_,rfl⟩;have KW:q.length=n:=by rw[<-f,P2,P0];omega
   rw[f]at N;have H1:=Bs.take (Bs.cut (HB.out.ext (xT HX.out z)) k (by omega) rfl) n (by rw[P0];omega);rw[f]at H1;have a:=E H1;have Kt:=E N;have m:=E KW;have Hg:=E z;have JO:(k:Int)<(bs.length:Int):=by omega
   have JM:¬c=k:=by omega
   have JT:Pe.wrap ((k:Int)+4)=(k:Int)+4:=by rw[Pd];omega
   have Gg:Pe.wrap ((bs.length:Int)-4)=(bs.length:Int)-4:=by rw[Pd];omega
   have Jk:=KC.out;clear H1 N f Y z KW;by_cases hA:k+8<=bs.length
   ·have a1:(k:Int)<=(bs.length:Int)-4:=by omega
    have a2:¬(bs.length:Int)-4<(k:Int):=by omega
    have a3:(k:Int)+4<=(bs.length:Int)-4:=by omega
    have a4:¬(bs.length:Int)-4<(k:Int)+4:=by omega
    obtain rfl:n=4:=by omega
    go_wp2_with (at_builtin;refine eu (Ke:=rfl) (.tmp 15) (.tmp 26) rfl (w.heap.size+1) _ out (hs:=rfl) O.out _ q (hx:=rfl) ?a1 ?a2 ?a3 ?a4)
    case a1=>first | exact a.out | (show Bs wr (J (I ⟨b,d+k,D⟩) (((bs.length:Int)-4).toNat-k) (c-k)) q;rw[show((bs.length:Int)-4).toNat-k=n by omega];exact a.out) | (show Bs wr (J (I ⟨b,d+k,D⟩) (bs.length-4-k) (c-k)) q;rw[show bs.length-4-k=n by omega];exact a.out) | (show Bs wr (J (I ⟨b,d+k,D⟩) (k-k) (c-k)) q;rw[show k-k=n by omega];exact a.out) | (show Bs wr (J (I ⟨b,d+k,D⟩) (0) (c-k)) q;rw[show 0=n by omega];exact a.out)
    case a2=>have:=m.out;omega
    case a3=>have:=Hg.out.size;simp at this;omega
    exact mcSnapR4a0
   by_cases hBc:k+4<=bs.length
   ·have a1:(k:Int)<=(bs.length:Int)-4:=by omega
    have a2:¬(bs.length:Int)-4<(k:Int):=by omega
    have a3:(bs.length:Int)-4<=(k:Int)+4:=by omega
    have a4:(bs.length:Int)-4<(k:Int)+4:=by omega
    go_wp2_with (at_builtin;refine eu (Ke:=rfl) (.tmp 15) (.tmp 26) rfl (w.heap.size+1) _ out (hs:=rfl) O.out _ q (hx:=rfl) ?b1 ?b2 ?b3 ?b4)
    case b1=>first | exact a.out | (show Bs wr (J (I ⟨b,d+k,D⟩) (((bs.length:Int)-4).toNat-k) (c-k)) q;rw[show((bs.length:Int)-4).toNat-k=n by omega];exact a.out) | (show Bs wr (J (I ⟨b,d+k,D⟩) (bs.length-4-k) (c-k)) q;rw[show bs.length-4-k=n by omega];exact a.out) | (show Bs wr (J (I ⟨b,d+k,D⟩) (k-k) (c-k)) q;rw[show k-k=n by omega];exact a.out) | (show Bs wr (J (I ⟨b,d+k,D⟩) (0) (c-k)) q;rw[show 0=n by omega];exact a.out)
    case b2=>have:=m.out;omega
    case b3=>have:=Hg.out.size;simp at this;omega
    exact mcSnapR4a0
   have a1:(bs.length:Int)-4<=(k:Int):=by omega
   have a2:(bs.length:Int)-4<(k:Int):=by omega
   have a3:(k:Int)<=(k:Int)+4:=by omega
   have a4:¬((k:Int)+4<(k:Int)):=by omega
   go_wp2_with (at_builtin;refine eu (Ke:=rfl) (.tmp 15) (.tmp 26) rfl (w.heap.size+1) _ out (hs:=rfl) O.out _ q (hx:=rfl) ?e1 ?e2 ?e3 ?e4)
   case e1=>first | exact a.out | (show Bs wr (J (I ⟨b,d+k,D⟩) (((bs.length:Int)-4).toNat-k) (c-k)) q;rw[show((bs.length:Int)-4).toNat-k=n by omega];exact a.out) | (show Bs wr (J (I ⟨b,d+k,D⟩) (bs.length-4-k) (c-k)) q;rw[show bs.length-4-k=n by omega];exact a.out) | (show Bs wr (J (I ⟨b,d+k,D⟩) (k-k) (c-k)) q;rw[show k-k=n by omega];exact a.out) | (show Bs wr (J (I ⟨b,d+k,D⟩) (0) (c-k)) q;rw[show 0=n by omega];exact a.out)
   case e2=>have:=m.out;omega
   case e3=>have:=Hg.out.size;simp at this;omega
   exact mcSnapR4a0
  ·have hP:=Y.out;rw[L7 bs k (by omega),P4]at hP;subst hP;obtain⟨⟨er,ls,U⟩,f⟩:∃q,ao 5 [] (dr bs)=q:=⟨_,rfl⟩;have hT:=mA _ _ 5 (hm:=by omega) _ O.out.bs (by have:=KC.out;omega);rw[f]at hT;have HT:Hid (Calls F 91 #[J X (dr bs).length co,B C 5] wr (ir wr (er,ls,U))):=E hT;have Z:Hid ((if er=0/\U=[]then some (fV ls)else none)=R):=E (by rw[<-HR.out];unfold iR;rw[f]);have m:=E f;have Hg:=E z;clear hT f HR z Y O KC;go_wp2_with fail
   refine HT.out.mono ?_;rintro e V⟨vl,vr,rfl,L,KU,Hm⟩;have K2:=E (xT HX.out (xT Hg.out Hm));have H4:=E (Hb.out.ext (xT Hg.out Hm));dsimp only at L KU⊢;obtain⟨Ar,cr,rfl,_,_⟩:=xO (xW KU);by_cases o:er=0
   case neg=>
    obtain rfl:none=R:=by rw[<-Z.out,if_neg (λh=>o h.1)]
    have JL:(er != 0)=true:=by simpa using o
    exact mcSnapR4a1
   subst o;by_cases g:U=[]
   case neg=>
    obtain rfl:none=R:=by rw[<-Z.out,if_neg (λh=>g h.2)]
    have Gf:U.length≠0:=λh=>g (List.eq_nil_of_length_eq_zero h);have Ge:((U.length:Int) != 0)=true:=by simp;exact λh=>g h
    exact mcSnapR4a1
   subst g;have KP:=yE 5 [] (dr bs) (by rw[m.out]);rw[m.out]at KP;obtain⟨p,r,s,t,y,rfl⟩:=Cp KP;obtain rfl:some ⟨p,r,s,t,y==1⟩=R:=by rw[<-Z.out,if_pos ⟨rfl,rfl⟩];rfl
   obtain⟨Al,cl,rfl,_,_⟩:=xO (xW L);obtain⟨_,j,Q,rfl,H⟩:=Is.at_ (l:=[p,r,s,t,y]) (xW L) (by simp);have d0:=H 0 (by simp);have d1:=H 1 (by simp);have d2:=H 2 (by simp);have d3:=H 3 (by simp);have d4:=H 4 (by simp);simp only[P8,P9,Nat.add_zero]at d0 d1 d2 d3 d4;have KQ:=H4.out.not_row (by decide) L;simp only[xC,List.length_nil,Nat.zero_add,Nat.reduceAdd]at *;clear Z H L KU KP HT m Hm;have Kf:=H4.out.ext (xD (xR _));obtain⟨f0,f1,f2,f3,f4⟩:=bR Kf;obtain⟨g0,g1,g2,g3,g4⟩:=ae Kf;obtain⟨J4,J5,J6,J7,J8⟩:=bR H4.out;obtain⟨J9,Ja,Jb,Jc,Jd⟩:=ae H4.out;go_wp2_with fail
   refine wp_region_held_drew (S:=λW=>W.cell? ⟨j,Q,D⟩=I (B C p)/\W.cell? ⟨j,Q+1,D⟩=I (B C r)/\W.cell? ⟨j,Q+2,D⟩=I (B C s)/\W.cell? ⟨j,Q+3,D⟩=I (B C t)/\W.cell? ⟨j,Q+4,D⟩=I (B C y)) (by kernel_rfl) ⟨d0,d1,d2,d3,d4⟩ (λ_=>?_);refine ab 0 ?_;refine ab 1 ?_;refine ab 2 ?_;refine ab 3 ?_;refine ab 4 ?_;refine ab 5 ?_;refine ab 6 ?_;refine ab 7 ?_;refine ab 8 ?_;refine ab 9 ?_;refine ab 10 ?_;refine ab 11 ?_;refine ab 12 ?_;refine ab 13 ?_;refine ab 14 ?_;refine ab 15 ?_;refine ab 16 ?_;refine ah 17 (λK hK=>?_);go_simp;have Hw:w.heap.size≠j:=λe=>KQ (by rw[e];rfl);have T:∀(i:Nat) (u:Value),V.cell? ⟨j,i,D⟩=I u->(((((V.setCell ⟨w.heap.size,0,D⟩ (B C p)).setCell ⟨w.heap.size,1,D⟩ (B C r)).setCell ⟨w.heap.size,2,D⟩ (B C s)).setCell ⟨w.heap.size,3,D⟩ (B C t)).setCell ⟨w.heap.size,4,D⟩ (G (y==1))).drew.cell? ⟨j,i,D⟩=I u:=λi u h=>Pi (xD (xR _)) (im (W:=V) h Hw _ _ _ _ _);have HW:Blk (((((V.setCell ⟨w.heap.size,0,D⟩ (B C p)).setCell ⟨w.heap.size,1,D⟩ (B C r)).setCell ⟨w.heap.size,2,D⟩ (B C s)).setCell ⟨w.heap.size,3,D⟩ (B C t)).setCell ⟨w.heap.size,4,D⟩ (G (y==1))).drew w.heap.size 41 #[B C p,B C r,B C s,B C t,G (y==1)]:=(cB H4.out _ _ _ _ _).ext (xD (xR _));have Hp:Ext w (((((V.setCell ⟨w.heap.size,0,D⟩ (B C p)).setCell ⟨w.heap.size,1,D⟩ (B C r)).setCell ⟨w.heap.size,2,D⟩ (B C s)).setCell ⟨w.heap.size,3,D⟩ (B C t)).setCell ⟨w.heap.size,4,D⟩ (G (y==1))).drew:=xD (cC K2.out (xN _) _ _ _ _ _);first | (with_reducible refine hK.out _ _ ⟨T _ _ d0,T _ _ d1,T _ _ d2,T _ _ d3,T _ _ d4⟩ (λ_=>?_)) | (trace_state;fail)
   clear hK K;try simp only[Act.put,sA,sZ,sS]
   refine ab 18 ?_;refine aq ?_;go_wp2_with fail
   refine bodyPost_ret (s9 _ _ _ _ _ rfl rfl HW rfl) rfl ?_;exact⟨rfl,Hp⟩
theorem mcSnapR5a0(h:P:=by
 rw[Kw]at Hv;have KD:Hid ((if pr=I bs then some s else none)=R):=E (by have h:=Hj.out;rw[tk9_some,Kw]at h;exact h);have KE:=E Hv;go_wp2_with fail
 refine(KE _).mono ?_;rintro e w5 h5;cases pr with
 |none=>
  obtain⟨rfl,Hp⟩:=h5;obtain rfl:none=R:=KD.out;have Hk:=E (Hs.ext Hp);have K3:=E (xT K4 Hp);obtain⟨f0,f1,f2,f3,f4⟩:=bR Hk.out;obtain⟨g0,g1,g2,g3,g4⟩:=ae Hk.out;go_wp2_with fail
  refine bodyPost_ret (mr _ _ _ _ _ rfl rfl (cB Hk _ _ _ _ _) rfl) rfl ?_;exact⟨rfl,cC K3 (xN _) _ _ _ _ _⟩
 |some q=>
  obtain⟨A5,c5,rfl,Ki,Hp⟩:=h5;have Hk:=E (Hs.ext Hp);have JF:=E (K6.ext Hp);have K3:=E (xT K4 Hp);have G1:=eh (P:=F) w5 33 9 5 Tryz.underlying33 Tryz.underlying5 Tryz.underlying9 Ki.bs;have G2:=eh (P:=F) w5 33 9 5 Tryz.underlying33 Tryz.underlying5 Tryz.underlying9 (HB.ext K3.out);by_cases hqb:q=bs
  ·obtain rfl:some s=R:=by rw[<-KD.out,if_pos (by rw[hqb])]
   subst hqb;obtain⟨t0,t1,t2,t3,t4⟩:=ae JF.out;obtain⟨f0,f1,f2,f3,f4⟩:=bR Hk.out;obtain⟨g0,g1,g2,g3,g4⟩:=ae Hk.out;go_wp2_with fail
   refine bodyPost_ret (mr _ _ _ _ _ rfl rfl (cB Hk _ _ _ _ _) rfl) rfl ?_;exact⟨rfl,cC K3 (xN _) _ _ _ _ _⟩
  ·obtain rfl:none=R:=by rw[<-KD.out,if_neg (by simpa using hqb)]
   have JQ:(q==bs)=false:=by simpa using hqb
   obtain⟨f0,f1,f2,f3,f4⟩:=bR Hk.out;obtain⟨g0,g1,g2,g3,g4⟩:=ae Hk.out;go_wp2_with fail
   refine bodyPost_ret (mr _ _ _ _ _ rfl rfl (cB Hk _ _ _ _ _) rfl) rfl ?_;exact⟨rfl,cC K3 (xN _) _ _ _ _ _⟩):P:=h
def lW(b:List UInt8)(f:Int):Option Sta:=if f=2 then iR b else lV b
def tk9(b:List UInt8)(f:Int):Option Sta->Option Sta
 |none=>none
 |some s=>if dG s f=I b then some s else none
theorem tk9_some(b:List UInt8)(f:Int)(s:Sta):tk9 b f (some s)=if dG s f=I b then some s else none:=rfl
def lX(b:List UInt8)(f:Int):Option Sta:=tk9 b f (lW b f)
theorem FG{W:World}{b a:Nat}{t:TypeId}{cs:Array Value}(h:Blk W b t cs)(c:b≠a)(a' e d f g:Value):Blk (((((W.setCell ⟨a,0,D⟩ a').setCell ⟨a,1,D⟩ e).setCell ⟨a,2,D⟩ d).setCell ⟨a,3,D⟩ f).setCell ⟨a,4,D⟩ g) b t cs:=
 ((((h.other c 0 a').other c 1 e).other c 2 d).other c 3 f).other c 4 g
theorem DK(s:Sta)(h:s.ok=true):iR (cJ s)=I s:=by
 have e1:dr (cJ s)=aF s.ints:=by
  unfold dr cJ;rw[zy];exact yU (0,0) _
 have e2:ao 5 [] (aF s.ints)=(0,[]++s.ints,[]):=by
  have:=qw s.ints (Sta.nums h) [] [];rw[P4]at this;exact this
 unfold iR;rw[e1,e2,if_pos ⟨rfl,rfl⟩];show some (fV s.ints)=_;rw[oz]
theorem Lk(b:List UInt8)(f:Int):lX b f=di b f:=by
 cases h:di b f with
 |none=>
  unfold lX;cases e:lW b f with
  |none=>rfl
  |some s=>
   show(if dG s f=I b then some s else none)=none;rw[if_neg];intro a;rw[MM a]at h;cases h
 |some s=>
  obtain⟨c,h2,a⟩:=zq h;have d:lW b f=I s:=by
   unfold lW;rcases h2 with⟨rfl,rfl⟩|⟨rfl,rfl⟩
   ·rw[if_neg (by decide)];unfold lV;rw[zV s c];show some (fV s.ints)=_;rw[oz]
   rw[if_pos rfl];exact DK s c
  unfold lX;rw[d];exact if_pos a
theorem mr(tmps:Array Value)(W:World)(b:Nat)(cs:Array Value)(u:Value)(h4:tmps.getD 4 undef=O (I ⟨b,0,D⟩))(h5:tmps.getD 5 undef=u)(hb:Blk W b 41 cs)(hs:cs.size=5):(results Tryz.f93 tmps).run F W=.ok (.tuple #[.agg cs,u]) W:=by
 have hl:=hb.load (P:=F) fN rfl (by rw[hs];kernel_rfl);have a:tmps[4]?.getD undef=O (I ⟨b,0,D⟩):=by simpa using h4
 have c:tmps[5]?.getD undef=u:=by simpa using h5
 simp[results,results93,a,c,asAddr,hl]
theorem II(v:Value)(bs:List UInt8)(f:Int)(w:World)(j:Bs w v bs)(hl:U bs<=2000000):Calls F 93 #[v,B C f] w (nA w (di bs f)):=by
 rw[<-Lk];obtain⟨A,c,rfl,h1,h2⟩:=xO j;have J:=Pg w 41 #[B C 0,B C 0,B C 0,B C 0,G false];have K:Ext w (w.alloc (M #[B C 0,B C 0,B C 0,B C 0,G false] 41)):=xA (xR _) _;obtain⟨R,z⟩:∃R,lX bs f=R:=⟨_,rfl⟩;rw[z];have o:=E z;have HB:=E j;have l:=E K;have H:=E J;go_enter func93,ntmps93
 go_wp2_with fail
 refine(IU _ bs _ (HB.ext l.out) hl).mono ?_;rintro e g⟨rfl,j⟩;obtain⟨m,y⟩:∃r,lV bs=r:=⟨_,rfl⟩;rw[y];have i:=E (xT l j);have k:=E (H.ext j);obtain⟨s1,t⟩:∃s,m.getD staZ=s:=⟨_,rfl⟩;rw[t];have j:=Pg g 41 #[B C s1.idx,B C s1.term,B C s1.sum,B C s1.lvl,G s1.fin];have l:Ext g (g.alloc (M #[B C s1.idx,B C s1.term,B C s1.sum,B C s1.lvl,G s1.fin] 41)):=xA (xR _) _;have p:=E j;have d:=E l;by_cases hf:f=2
 ·subst hf;go_wp2_with fail
  refine(Dt _ bs _ (HB.ext (xT i d.out)) hl).mono ?_;rintro e j⟨rfl,j⟩;obtain⟨n,l⟩:∃r,iR bs=r:=⟨_,rfl⟩;have Hj:Hid (tk9 bs 2 n=R):=E (by have h:=o.out;unfold lX lW at h;rw[if_pos rfl,l]at h;exact h);rw[l];have H:=E (xT i (xT d j));have H8:=E (k.ext (xT d j));have l:=E (p.ext j);obtain⟨a,x⟩:∃s,n.getD staZ=s:=⟨_,rfl⟩;rw[x];have j:w.heap.size≠g.heap.size:=by have:=k.lt;omega
  obtain⟨f0,f1,f2,f3,f4⟩:=bR l.out;obtain⟨g0,g1,g2,g3,g4⟩:=ae l.out;have z:=E (cB l (B C a.idx) (B C a.term) (B C a.sum) (B C a.lvl) (G a.fin));have l:=E (cC H (b:=g.heap.size) (by have:=i.size;omega) (B C a.idx) (B C a.term) (B C a.sum) (B C a.lvl) (G a.fin));have Hs:=E (FG H8 j (B C a.idx) (B C a.term) (B C a.sum) (B C a.lvl) (G a.fin));have K6:=z;have K4:=l;cases n with
  |none=>
   obtain rfl:none=R:=Hj.out;obtain⟨g,g,g,g,g⟩:=bR Hs.out;obtain⟨g,g,g,g,g⟩:=ae Hs.out;go_wp2_with fail
   refine bodyPost_ret (mr _ _ _ _ _ rfl rfl (cB Hs _ _ _ _ _) rfl) rfl ?_;exact⟨rfl,cC K4 (xN _) _ _ _ _ _⟩
  |some s=>
   obtain rfl:s=a:=x;have D:=(ae K6.out).1;obtain⟨D,L,N,O,Q⟩:=ae K6.out;obtain⟨pr,Kw⟩:∃pr,dG s 2=pr:=⟨_,rfl⟩;have Hv:=λW=>AO s 2 W;exact mcSnapR5a0
 ·have a:(f==2)=false:=by simpa using hf
  have Hj:Hid (tk9 bs f m=R):=E (by have h:=o.out;unfold lX lW at h;rw[if_neg hf,y]at h;exact h);have Hs:=E (k.ext d.out);have K6:=p;have K4:=E (xT i d.out);cases m with
  |none=>
   obtain rfl:none=R:=Hj.out;obtain⟨f0,f1,f2,f3,f4⟩:=bR Hs.out;obtain⟨g0,g1,g2,g3,g4⟩:=ae Hs.out;go_wp2_with fail
   refine bodyPost_ret (mr _ _ _ _ _ rfl rfl (cB Hs _ _ _ _ _) rfl) rfl ?_;exact⟨rfl,cC K4 (xN _) _ _ _ _ _⟩
  |some s=>
   obtain rfl:s=s1:=t;obtain⟨D,L,N,O,Q⟩:=ae K6.out;obtain⟨pr,Kw⟩:∃pr,dG s f=pr:=⟨_,rfl⟩;have Hv:=λW=>AO s f W;exact mcSnapR5a0
