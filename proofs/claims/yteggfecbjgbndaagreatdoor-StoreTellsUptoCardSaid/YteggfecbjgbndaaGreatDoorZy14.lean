/- Merged -/
import Derived.Test.YteggfecbjgbndaaGreatDoorZy13
set_option linter.all false
set_option maxHeartbeats 8000000
set_option maxRecDepth 100000
open Go.Proofs.Tryz
open List renaming length->V
open Go.Value renaming int->B,slice->C,bool->M,pointer->O,agg->R
open Go.Obj renaming cells->E
open Go.IntKind renaming i64->F
open Option renaming some->G,none->I
open Go.Proofs.Tryz renaming prog->J
open Go.Mv renaming aN->N
open UInt8 renaming ofNat->P0
open List renaming getD_eq_getElem?_getD->P1,append_toArray->P2,size_toArray->P3,push_toArray->P4,cons_append->P5,length_nil->P6,eq_nil_of_length_eq_zero->P7,getElem?_append_right->P8,getElem?_cons_succ->P9,flatMap_cons->Pa,length_take->Pb,length_drop->Pc,append_nil->Pd
open Array renaming replicate_zero->Pe,replicate_succ->Pf
open Go.IntKind renaming i64->Pg,wrap_i64->Ph
open Go.Boxed renaming new->Pi
open Nat renaming reduceSub->Pj,reduceAdd->Pk,eq_zero_or_pos->Pl,strongRecOn->Pm
open Go.World renaming ownsRow_nil->Pn
open Go.Mv.Ext renaming cell->Po,grownOwn->Pp,grown->Pq
namespace Go.Proofs.YteggfecbjgbndaaGreatDoor
open Go.RowKit Go.Mv
def cJ(s:Sta):List UInt8:=2::P0 ((V (aF s.ints)+3) / 4)::bA (0,0) (aF s.ints)
theorem LE(s:Sta)(w:World)(h:s.ok=true):Calls J 241 #[R #[B F s.idx,B F s.term,B F s.sum,B F s.lvl,M s.fin]] w λe w'=>∃A c,e=.returned (C A (cJ s).length c)/\OwnB w' w.heap.size (C A (cJ s).length c) (cJ s)/\Ext w w':=by
 obtain⟨t,b⟩:∃t,aF s.ints=t:=⟨_,rfl⟩;have j:t.length<=25:=by subst b;exact eY s.ints
 have H:=N h;have o:=N b;have Hl:Hid (t.length<=25):=j;obtain⟨a,f⟩:∃x,P0 ((t.length+3) / 4)=x:=⟨_,rfl⟩;have p:Hid (wrap64 ((wrap64 ((t.length:Int)+3)).tdiv 4) % 256=(a.toNat:Int)):=by
  have e1:wrap64 ((t.length:Int)+3)=((t.length+3:Nat):Int):=by unfold wrap64;omega
  have e2:((t.length+3:Nat):Int).tdiv 4=(((t.length+3) / 4:Nat):Int):=rfl;have e3:wrap64 (((t.length+3) / 4:Nat):Int)=(((t.length+3) / 4:Nat):Int):=by unfold wrap64;omega
  rw[Hid,e1,e2,e3,<-f];simp
 have K:Hid (cJ s=[2,a]++bA (0,0) t):=by rw[Hid,cJ,b,f];rfl
 clear h b j f;have S:Ext w (w.alloc (E #[B F s.idx,B F s.term,B F s.sum,B F s.lvl,M s.fin] 41)):=xA (xR _) _;go_enter func241,ntmps241
 go_wp2_with fail
 refine(Nf s _ H.out).mono ?_;rintro e d⟨v,rfl,g,n⟩;rw[o.out]at g;obtain⟨U,V,rfl,-,-⟩:=xO (xW g);go_wp2_with fail;rw[p.out];have l:Ext w d:=xT S n;have q:=be d [bv 2,bv a] 5 2 (hm:=rfl) (hl:=by simp[maxLen]) l.size;have y:OwnB (d.alloc (E #[bv 2,bv a] 5)) w.heap.size (C (G ⟨d.heap.size,0,I⟩) 2 2) [2,a]:=q;refine(F3 _ t _ (Bs.ext (xW g) (xA (xR _) _)) (by have:=Hl.out;omega)).mono ?_;rintro e T⟨W,rfl,r,k⟩;have i:Ext w T:=xT (xA l _) k;have D:=qm (0,0) t;have L:Hid ((bA (0,0) t).length<=100):=by have:=Hl.out;rw[Hid];omega
 clear D;go_wp2_with (
  refine eu (Ke:=rfl) (.tmp 15) (.tmp 17) rfl w.heap.size _ [2,a] (hs:=rfl) (OwnB.ext y k) _ (bA (0,0) t) (hx:=rfl) (xW r) (by have:=L.out;simp;omega) i.size ?_;intro m Q X z P)
 go_ret;have O:=P w i (xN _);have e1:cJ s=[2,a]++bA (0,0) t:=K.out;have e2:(cJ s).length=([2,a]:List UInt8).length+(bA (0,0) t).length:=by rw[e1,xL]
 rw[e2,e1];exact⟨m,Q,rfl,z,O⟩
theorem mcPuta0{P:Prop}(h:P:=by
 rintro e w3⟨A3,c3,rfl,K5,Hk⟩;try(go_wp2_with fail)
 have Hz:=xT H8 Hk;refine af hK _ _ (ae (hb.ext Hz)) (λ_=>?_);refine ab 5 ?_;refine ab 6 ?_;refine aq ?_;go_wp2_with fail
 go_ret2;exact⟨A3,c3,rfl,ay K5 (xT hX H8).size,xT hX Hz⟩):P:=h
theorem CB(P:Program)(w:World)(a:Addr)(m:Mode):(store a .nilFunc m).run P w=stored P w a .nilFunc m:=run_store P w a _ m rfl
theorem CT(P:Program)(w:World)(a:Addr)(m:Mode)(f:Fn)(x y:Array Value):(store a (.func f x y) m).run P w=stored P w a (.func f x y) m:=run_store P w a _ m rfl
attribute [local go_sem] CB CT
def sL:Value:=R #[.nilFunc,.func (.func 237) #[] #[],.func (.func 241) #[] #[]]
theorem Bh(w:World):Calls J 206 #[] w λe w'=>e=.returned sL/\Ext w w':=by
 go_enter func206,ntmps206
 go_wp2;refine bodyPost_ret (results_cell_row rfl _ _ _ 250 _ _ _ rfl (heap_alloc_new _ _) underlying250 rfl (by kernel_rfl)) rfl ⟨rfl,xA (xR _) _⟩
theorem NZ(w:World):(Instr.index 250 (R #[.nilFunc,.func (.func 237) #[] #[],.func (.func 241) #[] #[]]) (B F 1)).run J w=.ok (.func (.func 237) #[] #[]) w:=by kernel_rfl
theorem Nh(w:World):(Instr.index 250 (R #[.nilFunc,.func (.func 237) #[] #[],.func (.func 241) #[] #[]]) (B F 2)).run J w=.ok (.func (.func 241) #[] #[]) w:=by kernel_rfl
def ma(w:World)(l:List UInt8)(e:Ending)(w':World):Prop:=∃A c,e=.returned (.tuple #[C A l.length c,B F 0])/\OwnB w' w.heap.size (C A l.length c) l/\Ext w w'
theorem BD(s:Sta)(f:Int)(w:World)(h:s.ok=false\/f<1\/2<f):Calls J 151 #[R #[B F s.idx,B F s.term,B F s.sum,B F s.lvl,M s.fin],B F f] w (mV w):=by
 have H:=N h;obtain⟨ok,b⟩:∃x,s.ok=x:=⟨_,rfl⟩;cases ok
 ·clear H;have H:=N b;go_enter func151,ntmps151
  go_wp2_with fail
  refine(ik s _).mono ?_;rw[H.out];rintro e d⟨rfl,a⟩;go_wp2_with fail
  go_ret2;exact⟨rfl,xT (xA (xR _) _) a⟩
 ·rw[b]at H;have c:=N b;by_cases h1:f<1
  ·clear H;go_enter func151,ntmps151
   go_wp2_with fail
   refine(ik s _).mono ?_;rw[c.out];rintro e d⟨rfl,a⟩;go_wp2_with fail
   go_ret2;exact⟨rfl,xT (xA (xR _) _) a⟩
  ·have h2:2<f:=by rcases H with q | q | q;cases q;exact absurd q h1;exact q
   go_enter func151,ntmps151
   go_wp2_with fail
   refine(ik s _).mono ?_;rw[c.out];rintro e d⟨rfl,a⟩;go_wp2_with fail
   go_ret2;exact⟨rfl,xT (xA (xR _) _) a⟩
theorem Nb(s:Sta)(w:World)(h:s.ok=true)(b:TabW rT w):Calls J 151 #[R #[B F s.idx,B F s.term,B F s.sum,B F s.lvl,M s.fin],B F 1] w (ma w (dS s)):=by
 have f:=NZ;have H:=N h;have c:=N b;have hb:=Blk.new w 41 #[B F s.idx,B F s.term,B F s.sum,B F s.lvl,M s.fin];have hX:Ext w (w.alloc (E #[B F s.idx,B F s.term,B F s.sum,B F s.lvl,M s.fin] 41)):=xA (xR _) _;go_enter func151,ntmps151
 go_wp2_with fail
 refine(ik s _).mono ?_;rw[H.out];rintro e b⟨rfl,a⟩;go_wp2_with fail
 refine wp_region_held_drew (S:=λw'=>w'.cell? ⟨w.heap.size,0,I⟩=G (B F s.idx)/\w'.cell? ⟨w.heap.size,1,I⟩=G (B F s.term)/\w'.cell? ⟨w.heap.size,2,I⟩=G (B F s.sum)/\w'.cell? ⟨w.heap.size,3,I⟩=G (B F s.lvl)/\w'.cell? ⟨w.heap.size,4,I⟩=G (M s.fin)) (by kernel_rfl) (ae (hb.ext (xD a))) (λ_=>?_);refine ab 1 ?_;refine ab 3 ?_;refine ah 0 (λK hK=>?_);go_simp;refine(Bh _).mono ?_;rintro e d⟨rfl,b⟩;unfold sL;try(go_wp2_with fail)
 have H8:Ext (w.alloc (E #[B F s.idx,B F s.term,B F s.sum,B F s.lvl,M s.fin] 41)) d:=xT (xD a) b;refine af hK _ _ (ae (hb.ext H8)) (λ_=>?_);refine ab 2 ?_;refine ah 4 (λK hK=>?_);go_simp;refine(LD s _ H (c.ext (xT hX H8))).mono ?_;exact mcPuta0
theorem Nc(s:Sta)(w:World)(h:s.ok=true)(b:TabW rT w):Calls J 151 #[R #[B F s.idx,B F s.term,B F s.sum,B F s.lvl,M s.fin],B F 2] w (ma w (cJ s)):=by
 have d:=Nh;have H:=N h;have d:=N b;have hb:=Blk.new w 41 #[B F s.idx,B F s.term,B F s.sum,B F s.lvl,M s.fin];have hX:Ext w (w.alloc (E #[B F s.idx,B F s.term,B F s.sum,B F s.lvl,M s.fin] 41)):=xA (xR _) _;go_enter func151,ntmps151
 go_wp2_with fail
 refine(ik s _).mono ?_;rw[H.out];rintro e b⟨rfl,a⟩;go_wp2_with fail
 refine wp_region_held_drew (S:=λw'=>w'.cell? ⟨w.heap.size,0,I⟩=G (B F s.idx)/\w'.cell? ⟨w.heap.size,1,I⟩=G (B F s.term)/\w'.cell? ⟨w.heap.size,2,I⟩=G (B F s.sum)/\w'.cell? ⟨w.heap.size,3,I⟩=G (B F s.lvl)/\w'.cell? ⟨w.heap.size,4,I⟩=G (M s.fin)) (by kernel_rfl) (ae (hb.ext (xD a))) (λ_=>?_);refine ab 1 ?_;refine ab 3 ?_;refine ah 0 (λK hK=>?_);go_simp;refine(Bh _).mono ?_;rintro e c⟨rfl,b⟩;unfold sL;try(go_wp2_with fail)
 have H8:Ext (w.alloc (E #[B F s.idx,B F s.term,B F s.sum,B F s.lvl,M s.fin] 41)) c:=xT (xD a) b;refine af hK _ _ (ae (hb.ext H8)) (λ_=>?_);refine ab 2 ?_;refine ah 4 (λK hK=>?_);go_simp;refine(LE s _ H.out).mono ?_;exact mcPuta0
open Go.RowKit Go.Mv Go.Shelf
attribute [local go_sem] Oper.semAt_some
def dp:Nat->List Int->List UInt8->Option (List Int)
 |0,H1,_=>some H1
 |k+1,H1,b=>if(az (b.take 5)).1=0 then dp k (H1++[((az (b.take 5)).2.1:Int)]) (b.drop 5)else none
def eA(b:List UInt8):Option (List Int):=if V b=22 then(dp 3 [] (b.drop 1)).map (·++[((b.getD 16 0).toNat:Int),((b.getD 17 0).toNat:Int)])else none
def l9(w:World)(r:Option (List Int))(e:Ending)(w':World):Prop:=∃v,e=.returned (.tuple #[v,M r.isSome])/\(∀l,r=G l->w'.ownsRow w.heap.size 3 1 v l.length (l.map iv))/\Ext w w'
def PW(X:Act->World->Prop):Exit->Act->World->Prop
 |.normal,a,w=>X a w
 |_,_,_=>False
theorem yu(tmps:Array Value)(W:World)(v u:Value)(h4:tmps.getD 4 undef=v)(h5:tmps.getD 5 undef=u):(results Tryz.f150 tmps).run J W=.ok (.tuple #[v,u]) W:=by
 simp only[Array.getD_eq_getD_getElem?]at h4 h5;simp[results,results150,go_sem,h4,h5]
theorem LH(v:Value)(bs:List UInt8)(f:Int)(hf:f≠2)(w:World)(d:Bs w v bs)(hl:V bs≠22):Calls J 150 #[v,B F f] w (l9 w (eA bs)):=by
 obtain⟨A,c,rfl,h1,h2⟩:=xO d;have b:Hid (eA bs=none):=if_neg hl;have e1:(f==2)=false:=by simpa using hf
 have e2:((V bs:Int) != 22)=true:=by simp;omega
 refine(callsIn_wd (ro:=none) (n:=9)).1 ?_;refine callsIn_of_wp_marks func150 rfl trivial ?_ rfl;simp only[ntmps150,P3,xC,P6,Pk,Pj,Pf,Pe,P4,P2,xI,P5];gi_wp2;refine eU 0 (λ_ _=>False) (λa _=>0) (λe h=>by cases e<;>first | exact absurd rfl h | rfl) ?_ ?_
 ·intro d;gi_wp2;refine bJ ?_;refine fp (.tuple #[C none 0 0,M false]) (by simp[results,results150,go_sem]) ?_;exact⟨_,by rw[b.out];rfl,(λl h=>by rw[b.out]at h;cases h),xA (xR _) _⟩
 ·rintro a W h;exact h.elim
theorem I0(v:Value)(bs:List UInt8)(f:Int)(hf:f≠2)(w:World)(y:Bs w v bs)(hl:V bs=22):Calls J 150 #[v,B F f] w (l9 w (eA bs)):=by
 obtain⟨A,c,rfl,h1,h2⟩:=xO y;obtain⟨i0,hi,U,X,Y⟩:=info_parts m9;have R:Hid (eA bs=(dp 3 [] (bs.drop 1)).map (·++[((bs.getD 16 0).toNat:Int),((bs.getD 17 0).toNat:Int)])):=if_pos hl;have e1:(f==2)=false:=by simpa using hf
 obtain⟨_,b,p,rfl,hc⟩:=Bs.at_ y (by omega);have Z:=N hc;have Ki:=N y;have Hl:=N hl;have Ke:(V bs:Int)=22:=by omega
 rw[hl]at h1 y;refine(callsIn_wd (ro:=none) (n:=9)).1 ?_;refine callsIn_of_wp_marks func150 rfl trivial ?_ rfl;simp only[ntmps150,P3,xC,P6,Pk,Pj,Pf,Pe,P4,P2,xI,P5];gi_wp2;try rw[hl]
 refine eU 0 (λ_ _=>False) (λa _=>0) (λl' h=>by cases l'<;>first | exact absurd rfl h | rfl) ?_ ?_
 ·intro y;gi_wp2;obtain⟨R0,y⟩:∃r,dp 3 [] (bs.drop 1)=r:=⟨_,rfl⟩;rw[y]at R;gi_loopw [4,8] (λvl i wr=>∃(k:Nat) (H1:List Int),k<=3/\i=B F (1+5*k:Nat)/\V H1=k/\Hid (R0=dp (3-k) H1 (bs.drop (1+5*k))) /\
   wr.ownsRow w.heap.size 3 1 vl H1.length (H1.map iv)/\Ext w wr) (λ_ i _=>30-(intOf i).toNat)
  case atStart=>exact⟨0,[],by omega,rfl,rfl,y.symm,Pn _ _ _ _,xA (xR _) _⟩
  case round=>
   obtain⟨k,H1,y,rfl,HZ,L,P,d⟩:=hrel;obtain⟨m,hm⟩:∃m,1+5*k=m:=⟨_,rfl⟩;rw[hm]at L;simp only[hm];by_cases y:k<3
   ·have y:wrap64 ((m:Int)+5)=((m+5:Nat):Int):=by unfold wrap64;omega
    have K3:((m:Int)<16):=by omega
    have g:=L.out;rw[show 3-k=(3-k-1)+1 from by omega,dp]at g;obtain⟨t,y⟩:∃t,(bs.drop m).take 5=t:=⟨_,rfl⟩;have KD:V t=5:=by rw[<-y,Pb,Pc,Hl.out];omega
    have Kr:Bs w (C (G ⟨b,p+m,I⟩) 5 (c-m)) t:=by
     have h:=f8 Ki m 5 (by rw[Hl.out];omega);rw[y]at h;have:=SlR.capd h (c':=c-m) (by rw[KD];omega) (by omega);exact this
    have key:=ml _ t wr (Kr.ext d);rw[y]at g;rcases y:az t with⟨er,n,r2⟩
    rw[y]at g key;simp only at g;by_cases j:er=0
    ·subst j;simp only[if_true]at g;have s:=N g;have H:=N key;have Hm:=N hm;gi_wp2_with (first
      |(refine⟨trivial,?_⟩;gi_at_call 204;refine(callsIn_wd.2 H.out).mono ?_;rintro e T⟨vr,rfl,-,o⟩)
      |(gi_at_builtin;refine lk _ rfl (.tmp 34) (.tmp 36) 64 rfl w.heap.size 3 i0 (B F 0) 1 8 underlying64 hi U X Y rfl (by decide) _ H1.length (H1.map iv) rfl (ai P (xA o _)) (C (G ⟨T.heap.size,0,I⟩) 1 1) 1 [B F n] rfl (xW (be T [B F n] 3 1 (xN _))) (by simp[Value.oneCell']) (by unfold maxLen;omega) (by omega) (by have:=d.size;have:=o.size;simp;omega) ?_;intro z w3 D O))
     have y:Ext w w3:=Pp (xA (xT d o) _) (ai P (xA o _)) O;refine⟨⟨k+1,H1++[(n:Int)],by omega,?_,by simp;omega,?_,by simpa[iv]using D,y⟩,by simp[intOf];omega⟩
     ·have:=Hm.out;congr 1
      omega
     show _=_;rw[s.out,List.drop_drop,show 3-(k+1)=3-k-1 from by omega,<-Hm.out];congr 2
    have y:((er:Int) != 0)=true:=by simp[j]
    rw[if_neg j]at g;have s:=N g;have H:=N key;have Hn:Hid (eA bs=none):=by rw[Hid,R.out,s.out];rfl
    gi_wp2_with (refine⟨trivial,?_⟩;gi_at_call 204;refine(callsIn_wd.2 H.out).mono ?_;rintro e T⟨vr,rfl,-,o⟩)
    refine bJ ?_;refine fp (.tuple #[C none 0 0,M false]) (by simp[results,results150,go_sem]) ?_;exact⟨_,by rw[Hn.out];rfl,(λl h=>by rw[Hn.out]at h;cases h),xT d o⟩
   have Ky:k=3:=by omega
   subst Ky;have K3:¬((m:Int)<16):=by omega
   have s:Hid (R0=G H1):=L.out;gi_wp2;obtain⟨x,hx⟩:∃x,bs.getD 16 0=x:=⟨_,rfl⟩;obtain⟨y,o⟩:∃y,bs.getD 17 0=y:=⟨_,rfl⟩;have g:w.cell? ⟨b,p+16,I⟩=G (B .u8 (x.toNat:Int)):=by
    rw[Z.out 16 (by rw[Hl.out];omega),<-hx];simp[P1,Hl.out]
   have j:w.cell? ⟨b,p+17,I⟩=G (B .u8 (y.toNat:Int)):=by
    rw[Z.out 17 (by rw[Hl.out];omega),<-o];simp[P1,Hl.out]
   have H:Pg.wrap (x.toNat:Int)=(x.toNat:Int):=by
    have:=x.toNat_lt;rw[Ph];omega
   have H:Pg.wrap (y.toNat:Int)=(y.toNat:Int):=by
    have:=y.toNat_lt;rw[Ph];omega
   have K9:Hid (eA bs=G (H1++[(x.toNat:Int),(y.toNat:Int)])):=by rw[Hid,R.out,s.out,hx,o];rfl
   refine(wpIn_wide (n:=9)).2 (wp_mono (Q:=PW λa' W=>a'.defers=[]/\∃z,a'.tmps.getD 4 undef=z/\a'.tmps.getD 5 undef=.bool true/\W.ownsRow w.heap.size 3 1 z (V H1+2) (H1.map iv++[B F x.toNat,B F y.toNat])/\Ext w W) ?_ ?_)
   ·refine wp_region_held_drew (S:=λw'=>w'.cell? ⟨b,p+16,I⟩=G (B .u8 (x.toNat:Int))/\w'.cell? ⟨b,p+17,I⟩=G (B .u8 (y.toNat:Int))) (by kernel_rfl) ⟨Po (xD d) g,Po (xD d) j⟩ (λ_=>?_);refine ab 0 ?_;refine ab 1 ?_;refine ab 2 ?_;refine ab 3 ?_;refine ab 4 ?_;refine ab 5 ?_;refine ab 6 ?_;refine ab 7 ?_;refine ab 8 ?_;refine ah 9 (λK o=>?_);go_simp;refine af o _ _ ⟨Po (xA (xD d) _) g,Po (xA (xD d) _) j⟩ (λ_=>?_);have p:Ext w (wr.alloc (E #[B F x.toNat,B F y.toNat] 3)).drew:=xD (xA d _);have s:(wr.alloc (E #[B F x.toNat,B F y.toNat] 3)).drew.heap[wr.heap.size]?=G (E #[B F x.toNat,B F y.toNat] 3):=heap_alloc_new wr _;have d:(wr.alloc (E #[B F x.toNat,B F y.toNat] 3)).drew.ownsRow w.heap.size 3 1 u4 H1.length (H1.map iv):=ai P (xD (xA (xR _) _));refine ah 10 (λK o=>?_);refine wp_append_lies _ (.tmp 38) (.tmp 47) 64 (by rfl) w.heap.size 3 i0 (B F 0) 1 8 underlying64 hi U X Y rfl (by decide) _ H1.length (H1.map iv) (by rfl) d ⟨wr.heap.size,0,I⟩ 2 2 [B F x.toNat,B F y.toNat] (by rfl) rfl (World.news_of_block s) (by simp[Value.oneCell']) (by omega) (by unfold maxLen;omega) (by omega) p.size _ rfl ?_;intro s s s D O _ _;have q:Ext w s:=Pp p d O;refine af o _ _ ⟨Po q g,Po q j⟩ (λ_=>?_);refine ab 11 ?_;refine ab 12 ?_;refine aq ?_;refine⟨rfl,_,rfl,rfl,?_,q⟩;rw[HZ]at D⊢;exact D
   rintro e a' W h;cases e<;>first | exact h.elim | skip
   obtain⟨d,d⟩:=a';obtain⟨hd,z,h4,h5,ho,q⟩:=h;cases hd;simp only[Exit.then];gi_wp2;refine bJ ?_;refine fp (.tuple #[z,M true]) (yu _ _ _ _ h4 h5) ?_;refine⟨_,by rw[K9.out];rfl,(λl h=>?_),q⟩;rw[K9.out]at h;cases h;simpa[iv]using ho
 ·rintro a W h;exact h.elim
theorem LG(v:Value)(bs:List UInt8)(f:Int)(hf:f≠2)(w:World)(a:Bs w v bs):Calls J 150 #[v,B F f] w (l9 w (eA bs)):=by
 by_cases h:V bs=22
 ·exact I0 v bs f hf w a h
 ·exact LH v bs f hf w a h
theorem mcRead2a0{P:Prop}(h:P:=by
 refine mB (λT hT=>?_);refine dV (a:=⟨T,[]⟩) (by subst hT;rfl) (enters_of Tryz.func236 (by kernel_rfl) rfl)
  (λW1 hb hs=>tp 8 (by omega) (by omega) w W1 _ (bs.drop 2) HV (by omega) (w.heap.size+1) (w.heap.size+2) (q1.kept (row:=none) (Pq hb none) (by simp)) (q2.kept (row:=none) (Pq hb none) (by simp)))
  (λk o h=>h.elim) (λk o h=>by rcases h with h | h<;>exact eE h.2) (λx av W h=>by obtain⟨_,_,rfl,_⟩:=h;rfl)
  (TxI w) (λ_ _ _=>False) ?hI (λ_ _ _ _ h _=>h) h0
  (λp a' W=>∃b' H3,Bs W (C (G ⟨b',H3,I⟩) p.length p.length) p/\0<p.length/\p.length<=8/\a'=⟨(T.setIfInBounds 55 (C (G ⟨b',H3,I⟩) p.length p.length)).setIfInBounds 12 (C (G ⟨b',H3,I⟩) p.length p.length),[]⟩)
  ?hAx ?assign ?body ?done (λ_ _ _ _ _ _ h _=>h.elim)
 case hI=>
  rintro s X Y⟨v1,hv,hr,hB⟩hm;refine⟨v1,hm.boxed hv ?_,hm.ownsRow hr ?_,hm.belowOf hB ?_ (xN _)⟩
  ·rintro(h | h)
   ·exact h
   cases h.2
  ·rintro k Ko _(h | h)
   ·exact h
   cases h.2
  rintro k o hk(h | h)
  ·exact h
  have:=h.1;omega
 case hAx=>
  rintro x a' X Y⟨b',H3,hu,HM,HN,rfl⟩hm;refine⟨b',H3,SlR.keep hu (λq t hq=>hm.cell hq (λo ho hc=>?_)),HM,HN,rfl⟩;rintro(h | h)
  ·exact h
  rw[hc]at h;cases h.2
 case assign=>
  rintro l' He x K8 W av K' hx hi Hd⟨b',H3,rfl,hu,HM,HN⟩hK;obtain⟨v1,hv,hr,hB⟩:=hi;have Kh:Bs W (C (G ⟨b',H3,I⟩) x.length x.length) x:=Bs.ext hu hB;have Hi:Hid (TxI w He W):=⟨v1,hv,hr,hB⟩;have Hx:=N hx;have HU:=N Kh;subst hT;gi_wp2;exact hK _ _ Kept.refl Hi ⟨b',H3,HU.out,HM,HN,rfl⟩
 case body=>
  rintro l' He x K8 a' W hx KL hr⟨v1,hv,H5,hB⟩Hd⟨b',H3,hu,HM,HN,rfl⟩;have Kd:(He++[x]).flatMap dl=He.flatMap dl++dl x:=by simp
  have Kj:=N Kd;have Hx:=N hx;have Kw:(He.flatMap dl).length+x.length<=4000000:=by
   have h1:=pH (bs.drop 2);rw[Hx.out,List.flatMap_append,xL]at h1;omega
  subst hT;generalize He.flatMap dl=Q at *;obtain⟨A1,Hv,rfl,_,_⟩:=xO (xW H5);have Kf:=hv.not_row (e:=5) (by decide) H5;obtain⟨y,hy⟩:∃y,dl x=y:=⟨_,rfl⟩;gi_wp2;have Kz:(if Pg.wrap ((x.length:Int)-4)<0 then 0 else Pg.wrap ((x.length:Int)-4))=((x.length-4:Nat):Int):=by
   have e:Pg.wrap ((x.length:Int)-4)=(x.length:Int)-4:=by rw[Ph];omega
   rw[e];split<;>omega
  have KM:((x.length-4:Nat):Int)<=(x.length:Int):=by omega
  have Kv:=hv.cell;refine nE ?_;refine aC 1 ?_;refine aC 2 ?_;refine aC 3 ?_;refine aC 4 ?_;refine aC 5 ?_;refine aC 6 ?_;refine bT 0 ?_;have HJ:W.drew.ownsRow w.heap.size 5 1 (C A1 Q.length Hv) Q.length (Q.map bv):=ai H5 (xD (xR _));have HE:y.length=x.length-4:=by rw[<-hy];unfold dl;rw[Pb];omega
  have Hp:Bs W.drew (C (G ⟨b',H3,I⟩) (x.length-4) x.length) y:=by
   have h:=Bs.take (hu.ext (xD (xR W))) (x.length-4) (by omega);rw[<-hy];exact h
  have Hy:=N hy;obtain⟨i0,hi,HO,HP,HQ⟩:=info_parts dC;obtain⟨v7,w7,Hg,HK,K1⟩:=ep (P:=J) W.drew w.heap.size 33 33 5 i0 (B .u8 0) 1 1 Tryz.underlying33 hi HO HP HQ rfl (by decide) _ _ _ HJ _ _ _ Hp (de _) (by unfold maxLen;omega) (by omega) (xD hB).size;have Hb:Q.length+y.length=(Q++y).length:=by simp
  rw[Hb]at HK;obtain⟨A7,c7,rfl,_,_⟩:=xO (xW HK);have HL:Boxed w7 w.heap.size 33 (C A1 Q.length Hv):=Boxed.kept (show Boxed W.drew w.heap.size 33 (C A1 Q.length Hv)from hv) K1 Kf;have KF:=N HE;have Hu:=N Hb;generalize(Q++y).length=L at *;refine nI (i:=7) (v:=C A7 L c7) (w':=w7) rfl (by kernel_rfl) rfl rfl (nK _ _ _ rfl) (nH (v:=C A1 Q.length Hv) (vx:=C (G ⟨b',H3,I⟩) (x.length-4) x.length) (.tmp 56) (.tmp 62) 33 rfl (by simp[Act.eval,Act.put]) (by simp[Act.eval,Act.put]) Hg) ?_;have KI:=HL.cell;have KK:=HL.frozen;have HB:=N hB;refine iG 8 ?_;refine wpAnyIn_done (by kernel_rfl) (eV ?_) _;simp only[Act.put,sA,sZ,sS];gi_wp2;refine⟨(((Kept.refl (K:=_) (A:=W)).drew).grown K1 (λk o ek ho=>?_)).setCell (λo ho _=>?_) _,_,HL.set _,?_,?_⟩
  ·obtain⟨Ko,Kc⟩:=lm H5 ek;rw[ho]at Kc;cases Kc;rintro((⟨_,h⟩|⟨_,h⟩)| ⟨_,h⟩)<;>cases h
  ·rw[show W.heap[w.heap.size]?=_ from hv]at ho;cases ho;rintro((⟨h,_⟩|⟨h,_⟩)| ⟨_,h⟩)
   ·have h:w.heap.size=w.heap.size+1:=h;omega
   ·have h:w.heap.size=w.heap.size+2:=h;omega
   cases h
  ·have h:=HK.kept (grownBy_setCell' w7 w.heap.size (C A7 L c7)) (.inr (HL.not_row (by decide) HK).symm);rw[Kj.out,Hy.out,xL,Hu.out,List.map_append];exact h
  refine((HB.drew).grown K1 (xD HB.out).size (λk ek=>?_)).setCell (p:=⟨w.heap.size,0,I⟩) (xN _) _;have:=(H5.lt k ek).1;omega
 case done=>
  rintro D W hD⟨v1,hv,H5,hB⟩hK;have HE:=pH (bs.drop 2);obtain⟨q,hq⟩:∃q,(bg 8 (bs.drop 2)).flatMap dl=q:=⟨_,rfl⟩;rw[hq]at H5 HE;have Hq:Hid (dr bs=q):=hq;have KN:q.length<=2000000:=by omega
  have HW:Bs W v1 q:=xW H5;obtain⟨A1,Hv,rfl,_,_⟩:=xO HW;have hc:=hv.cell;have hf:=hv.frozen;have key:=iN _ q 5 (by omega) W HW (by omega);have HB:=N hB;have Kn:=N H5;subst hT;gi_wp2_with (refine⟨trivial,?_⟩;gi_at_call 79;refine(callsIn_wd.2 key).mono ?_;rintro e w3⟨vl,vr,rfl,ho,-,hE⟩)
  have Kb:w3.heap[D]?=G (.deferred (some [])):=(hE.block D (Array.getElem?_eq_some_iff.1 hK).1).trans hK;refine bJ ?_;refine dh Kb (.tuple #[vl,M ((ao 5 [] q).1==0)]) (yu _ _ _ _ rfl rfl) ⟨vl,?_,?_,?_⟩
  ·rw[Hr.out,Hq.out];by_cases h:(ao 5 [] q).1=0<;>simp[h]
  ·intro l h;rw[Hr.out,Hq.out]at h;split at h
   ·cases h;exact ownsRow_putObj (ay ho HB.size) (.deferred none) Kb rfl
   cases h
  ·exact cp (Below.trans HB (hE.mono HB.size)) _):P:=h
attribute [local go_sem] Oper.semAt_some
def dr(b:List UInt8):List UInt8:=(bg 8 (b.drop 2)).flatMap λp=>p.take (V p-4)
def iz(b:List UInt8):Option (List Int):=if V b<2 then none else if(ao 5 [] (dr b)).1=0 then some (ao 5 [] (dr b)).2.1 else none
theorem Eu(v:Value)(bs:List UInt8)(w:World)(f:Bs w v bs)(hl:V bs<2):Calls J 150 #[v,B F 2] w (l9 w (iz bs)):=by
 obtain⟨A,c,rfl,h1,h2⟩:=xO f;have d:Hid (iz bs=none):=if_pos hl;have e2:((V bs:Int)<2):=by omega
 refine(callsIn_wd (ro:=none) (n:=9)).1 ?_;refine callsIn_of_wp_marks func150 rfl trivial ?_ rfl;simp only[ntmps150,P3,xC,P6,Pk,Pj,Pf,Pe,P4,P2,xI,P5];gi_wp2;refine eU 0 (λa W=>a.defers=[]/\a.tmps.size=73/\a.tmps.getD 0 undef=C A bs.length c/\Ext w W) (λa _=>0) (λk h=>by cases k<;>first | exact absurd rfl h | rfl) ?_ ?_
 ·intro f;gi_wp2;refine wpIn_goto ?_;simp only[Exit.then];refine bI ?_;exact⟨rfl,rfl,rfl,xA (xR _) _⟩
 ·rintro⟨T,f⟩W⟨hd,b,e,j⟩;cases hd;dsimp only at b e;have f:=fM 73 T b;generalize k:(λi=>T.getD i undef)=U at f;have b:U 0=C A bs.length c:=by rw[<-k];exact e
  have g:T = #[C A bs.length c,U 1,U 2,U 3,U 4,U 5,U 6,U 7,U 8,U 9,U 10,U 11,U 12,U 13,U 14,U 15,U 16,U 17,U 18,U 19,U 20,U 21,U 22,U 23,U 24,U 25,U 26,U 27,U 28,U 29,U 30,U 31,U 32,U 33,U 34,U 35,U 36,U 37,U 38,U 39,U 40,U 41,U 42,U 43,U 44,U 45,U 46,U 47,U 48,U 49,U 50,U 51,U 52,U 53,U 54,U 55,U 56,U 57,U 58,U 59,U 60,U 61,U 62,U 63,U 64,U 65,U 66,U 67,U 68,U 69,U 70,U 71,U 72]:=by rw[f];show(#[U 0,U 1,U 2,U 3,U 4,U 5,U 6,U 7,U 8,U 9,U 10,U 11,U 12,U 13,U 14,U 15,U 16,U 17,U 18,U 19,U 20,U 21,U 22,U 23,U 24,U 25,U 26,U 27,U 28,U 29,U 30,U 31,U 32,U 33,U 34,U 35,U 36,U 37,U 38,U 39,U 40,U 41,U 42,U 43,U 44,U 45,U 46,U 47,U 48,U 49,U 50,U 51,U 52,U 53,U 54,U 55,U 56,U 57,U 58,U 59,U 60,U 61,U 62,U 63,U 64,U 65,U 66,U 67,U 68,U 69,U 70,U 71,U 72]:Array Value)=_;rw[b]
  subst g;gi_wp2;refine bJ ?_;refine fp (.tuple #[C none 0 0,M false]) (by simp[results,results150,go_sem]) ?_;exact⟨_,by rw[d.out];rfl,(λl h=>by rw[d.out]at h;cases h),j⟩
def dl(p:List UInt8):List UInt8:=p.take (V p-4)
theorem pH:∀(b:List UInt8),V ((bg 8 b).flatMap dl)<=V b:=by
 intro b;generalize hn:V b=n;induction n using Pm generalizing b with
 |_ n ih=>
  subst hn;rcases Pl (V b)with h | h
  ·rw[P7 h,mw];simp
  ·rw[mD 8 b (by omega) h,Pa,xL];have h1:=ih (b.drop 8).length (by simp;omega) (b.drop 8) rfl;have h2:V (dl (b.take 8))<=V (b.take 8):=by unfold dl;simp
   have h3:V (b.take 8)+V (b.drop 8)=V b:=by rw[<-xL,List.take_append_drop]
   omega
def TxI(w:World)(a:List (List UInt8))(X:World):Prop:=∃v,Boxed X w.heap.size 33 v/\X.ownsRow w.heap.size 5 1 v (a.flatMap dl).length ((a.flatMap dl).map bv)/\Below w.heap.size w X
theorem I1(v:Value)(bs:List UInt8)(w:World)(f:Bs w v bs)(hl:2<=V bs)(Ke:V bs<=2000000):Calls J 150 #[v,B F 2] w (l9 w (iz bs)):=by
 obtain⟨A,c,rfl,h1,h2⟩:=xO f;have Hr:Hid (iz bs=if(ao 5 [] (dr bs)).1=0 then some (ao 5 [] (dr bs)).2.1 else none):=if_neg (by omega);have e2:¬((V bs:Int)<2):=by omega
 obtain⟨_,b,d,rfl,hc⟩:=Bs.at_ f (by omega);have z:Bs w (C (G ⟨b,d+2,I⟩) (V bs-2) (c-2)) (bs.drop 2):=Bs.cut f 2 hl rfl;have f:V (bs.drop 2)=V bs-2:=Pc ..;have f:c=2->Bs w (C (G ⟨b,d,I⟩) (V bs-2) 0) (bs.drop 2):=λh=>Bs.cut0 (by omega) rfl (by omega);have H:=N z;have S:=N f;refine(callsIn_wd (ro:=none) (n:=9)).1 ?_;refine callsIn_of_wp_marks func150 rfl trivial ?_ rfl;simp only[ntmps150,P3,xC,P6,Pk,Pj,Pf,Pe,P4,P2,xI,P5];gi_wp2;refine eU 0 (λa W=>a.defers=[]/\a.tmps.size=73/\a.tmps.getD 0 undef=C (G ⟨b,d,I⟩) bs.length c/\a.tmps.getD 6 undef=O (G ⟨w.heap.size,0,I⟩)/\W=w.alloc (E #[C none 0 0] 33)) (λa _=>0) (λl' h=>by cases l'<;>first | exact absurd rfl h | rfl) ?_ ?_
 ·intro f;gi_wp2;refine wpIn_goto ?_;simp only[Exit.then];refine bI ?_;exact⟨rfl,rfl,rfl,rfl,rfl⟩
 ·rintro⟨T,f⟩W⟨hd,Hd,h0,r,rfl⟩;cases hd;dsimp only at Hd h0 r;have hT:=fM 73 T Hd;generalize f:(λi=>T.getD i undef)=U at hT;have z:U 0=C (G ⟨b,d,I⟩) bs.length c:=by rw[<-f];exact h0
  have g6:U 6=O (G ⟨w.heap.size,0,I⟩):=by rw[<-f];exact r
  have R:T = #[C (G ⟨b,d,I⟩) bs.length c,U 1,U 2,U 3,U 4,U 5,O (G ⟨w.heap.size,0,I⟩),U 7,U 8,U 9,U 10,U 11,U 12,U 13,U 14,U 15,U 16,U 17,U 18,U 19,U 20,U 21,U 22,U 23,U 24,U 25,U 26,U 27,U 28,U 29,U 30,U 31,U 32,U 33,U 34,U 35,U 36,U 37,U 38,U 39,U 40,U 41,U 42,U 43,U 44,U 45,U 46,U 47,U 48,U 49,U 50,U 51,U 52,U 53,U 54,U 55,U 56,U 57,U 58,U 59,U 60,U 61,U 62,U 63,U 64,U 65,U 66,U 67,U 68,U 69,U 70,U 71,U 72]:=by rw[hT];show(#[U 0,U 1,U 2,U 3,U 4,U 5,U 6,U 7,U 8,U 9,U 10,U 11,U 12,U 13,U 14,U 15,U 16,U 17,U 18,U 19,U 20,U 21,U 22,U 23,U 24,U 25,U 26,U 27,U 28,U 29,U 30,U 31,U 32,U 33,U 34,U 35,U 36,U 37,U 38,U 39,U 40,U 41,U 42,U 43,U 44,U 45,U 46,U 47,U 48,U 49,U 50,U 51,U 52,U 53,U 54,U 55,U 56,U 57,U 58,U 59,U 60,U 61,U 62,U 63,U 64,U 65,U 66,U 67,U 68,U 69,U 70,U 71,U 72]:Array Value)=_;rw[z,g6]
  subst R;by_cases j:c=2
  ·skip;gi_wp2_with (refine⟨trivial,?_⟩;gi_at_call 205;refine(callsIn_wd.2 (qg _ _ _ 8 (by omega) _)).mono ?_;rintro e w' ⟨rfl,rfl⟩)
   have HV:Bs w (C (G ⟨b,d,I⟩) (V bs-2) (0)) (bs.drop 2):=S j;have m:Boxed (((w.alloc (E #[C none 0 0] 33)).alloc (E #[C (G ⟨b,d,I⟩) (V bs-2) (0)] 33)).alloc (E #[B F 8] 3)) w.heap.size 33 (C none 0 0):=((Pi w _ _).alloc _).alloc _;have q1:Boxed (((w.alloc (E #[C none 0 0] 33)).alloc (E #[C (G ⟨b,d,I⟩) (V bs-2) (0)] 33)).alloc (E #[B F 8] 3)) (w.heap.size+1) 33 (C (G ⟨b,d,I⟩) (V bs-2) (0)):=by
    have:=(Pi (w.alloc (E #[C none 0 0] 33)) 33 (C (G ⟨b,d,I⟩) (V bs-2) (0))).alloc (E #[B F 8] 3);rwa[xS]at this
   have q2:Boxed (((w.alloc (E #[C none 0 0] 33)).alloc (E #[C (G ⟨b,d,I⟩) (V bs-2) (0)] 33)).alloc (E #[B F 8] 3)) (w.heap.size+2) 3 (B F 8):=by
    have:=Pi ((w.alloc (E #[C none 0 0] 33)).alloc (E #[C (G ⟨b,d,I⟩) (V bs-2) (0)] 33)) 3 (B F 8);rwa[xS,xS]at this
   have g:Ext w (((w.alloc (E #[C none 0 0] 33)).alloc (E #[C (G ⟨b,d,I⟩) (V bs-2) (0)] 33)).alloc (E #[B F 8] 3)):=xA (xA (xA (xR _) _) _) _;have Z:(((w.alloc (E #[C none 0 0] 33)).alloc (E #[C (G ⟨b,d,I⟩) (V bs-2) (0)] 33)).alloc (E #[B F 8] 3)).heap.size=w.heap.size+3:=by simp
   have h0:TxI w [] (((w.alloc (E #[C none 0 0] 33)).alloc (E #[C (G ⟨b,d,I⟩) (V bs-2) (0)] 33)).alloc (E #[B F 8] 3)):=⟨_,m,Pn _ _ _ _,g⟩;generalize(((w.alloc (E #[C none 0 0] 33)).alloc (E #[C (G ⟨b,d,I⟩) (V bs-2) (0)] 33)).alloc (E #[B F 8] 3))=w2 at *;exact mcRead2a0
  ·skip;gi_wp2_with (refine⟨trivial,?_⟩;gi_at_call 205;refine(callsIn_wd.2 (qg _ _ _ 8 (by omega) _)).mono ?_;rintro e w' ⟨rfl,rfl⟩)
   have HV:Bs w (C (G ⟨b,d+2,I⟩) (V bs-2) (c-2)) (bs.drop 2):=H.out;have m:Boxed (((w.alloc (E #[C none 0 0] 33)).alloc (E #[C (G ⟨b,d+2,I⟩) (V bs-2) (c-2)] 33)).alloc (E #[B F 8] 3)) w.heap.size 33 (C none 0 0):=((Pi w _ _).alloc _).alloc _;have q1:Boxed (((w.alloc (E #[C none 0 0] 33)).alloc (E #[C (G ⟨b,d+2,I⟩) (V bs-2) (c-2)] 33)).alloc (E #[B F 8] 3)) (w.heap.size+1) 33 (C (G ⟨b,d+2,I⟩) (V bs-2) (c-2)):=by
    have:=(Pi (w.alloc (E #[C none 0 0] 33)) 33 (C (G ⟨b,d+2,I⟩) (V bs-2) (c-2))).alloc (E #[B F 8] 3);rwa[xS]at this
   have q2:Boxed (((w.alloc (E #[C none 0 0] 33)).alloc (E #[C (G ⟨b,d+2,I⟩) (V bs-2) (c-2)] 33)).alloc (E #[B F 8] 3)) (w.heap.size+2) 3 (B F 8):=by
    have:=Pi ((w.alloc (E #[C none 0 0] 33)).alloc (E #[C (G ⟨b,d+2,I⟩) (V bs-2) (c-2)] 33)) 3 (B F 8);rwa[xS,xS]at this
   have g:Ext w (((w.alloc (E #[C none 0 0] 33)).alloc (E #[C (G ⟨b,d+2,I⟩) (V bs-2) (c-2)] 33)).alloc (E #[B F 8] 3)):=xA (xA (xA (xR _) _) _) _;have Z:(((w.alloc (E #[C none 0 0] 33)).alloc (E #[C (G ⟨b,d+2,I⟩) (V bs-2) (c-2)] 33)).alloc (E #[B F 8] 3)).heap.size=w.heap.size+3:=by simp
   have h0:TxI w [] (((w.alloc (E #[C none 0 0] 33)).alloc (E #[C (G ⟨b,d+2,I⟩) (V bs-2) (c-2)] 33)).alloc (E #[B F 8] 3)):=⟨_,m,Pn _ _ _ _,g⟩;generalize(((w.alloc (E #[C none 0 0] 33)).alloc (E #[C (G ⟨b,d+2,I⟩) (V bs-2) (c-2)] 33)).alloc (E #[B F 8] 3))=w2 at *;exact mcRead2a0
def ff(b:List UInt8)(f:Int):Option (List Int):=if f=2 then iz b else eA b
theorem Bl(v:Value)(bs:List UInt8)(f:Int)(w:World)(a:Bs w v bs)(hl:V bs<=2000000):Calls J 150 #[v,B F f] w (l9 w (ff bs f)):=by
 by_cases hf:f=2
 ·subst hf;rw[ff,if_pos rfl];by_cases h2:V bs<2
  ·exact Eu v bs w a h2
  exact I1 v bs w a (by omega) hl
 ·rw[ff,if_neg hf];exact LG v bs f hf w a
theorem E6(l:List Int)(h:aG l=true):∀(H1:List Int) (r:List UInt8),dp l.length H1 (aP l++r)=G (H1++l):=by
 induction l with
 |nil=>intro H1 r;simp[dp]
 |cons n l ih=>
  intro H1 r;have hn:0<=n/\n<=1073741824:=my (k:=0) h (by simp);have hl:aG l=true:=by
   simp[aG]at h⊢;exact h.2
  have e1:aP (n::l)++r=cW n.toNat++(aP l++r):=by simp[aP]
  have e2:(cW n.toNat++(aP l++r)).take 5=cW n.toNat:=by rw[List.take_append_of_le_length (by rw[io];omega),<-io n.toNat,List.take_length]
  have e3:(cW n.toNat++(aP l++r)).drop 5=aP l++r:=by rw[<-io n.toNat,List.drop_left]
  have a:=DR n.toNat (by omega) [];rw[Pd]at a;rw[e1,xC,dp,e2,a,e3];dsimp only;rw[if_pos rfl,ih hl,Int.toNat_of_nonneg hn.1];simp
theorem zV(s:Sta)(h:s.ok=true):eA (dS s)=G s.ints:=by
 obtain⟨h1,h2,h3,h4⟩:=Sta.okP h;have hn:aG [s.idx,s.term,s.sum]=true:=by simp[aG,h1,h2,h3]
 obtain⟨u,b,d⟩:∃u,dS s=1::(aP [s.idx,s.term,s.sum]++([P0 s.lvl.toNat,P0 s.finI.toNat]++u))/\V u=4:=by
  refine⟨_,?_,lx (cR rT 0 (1::(aP [s.idx,s.term,s.sum]++[P0 s.lvl.toNat,P0 s.finI.toNat])))⟩;unfold dS bh;simp
 have a:V (aP [s.idx,s.term,s.sum])=15:=by rw[mK];rfl
 have c:V (dS s)=22:=by rw[b];simp[a,d]
 have key:dp 3 [] (aP [s.idx,s.term,s.sum]++([P0 s.lvl.toNat,P0 s.finI.toNat]++u))=G ([]++[s.idx,s.term,s.sum]):=E6 [s.idx,s.term,s.sum] hn [] ([P0 s.lvl.toNat,P0 s.finI.toNat]++u);have Kp:(dS s).getD 16 0=P0 s.lvl.toNat:=by
  rw[b,P1,P9,P8 (by rw[a];omega),a];rfl
 have d:(dS s).getD 17 0=P0 s.finI.toNat:=by
  rw[b,P1,P9,P8 (by rw[a];omega),a];rfl
 unfold eA;rw[if_pos c,Kp,d];rw[b];show((dp 3 [] (aP [s.idx,s.term,s.sum]++([P0 s.lvl.toNat,P0 s.finI.toNat]++u))).map _)=_;rw[key];have b:((P0 s.lvl.toNat).toNat:Int)=s.lvl:=by rcases h4 with e | e<;>rw[e]<;>rfl
 have a:((P0 s.finI.toNat).toNat:Int)=s.finI:=by rcases s.finP with e | e<;>rw[e]<;>rfl
 rw[b,a];rfl
theorem zy(b:List UInt8):(bg 8 b).flatMap (λp=>p.take (V p-4))=fF b:=by
 generalize hn:V b=n;induction n using Pm generalizing b with
 |_ n ih=>
  rcases Pl (V b)with h | h
  ·have:b=[]:=P7 h;subst this;rw[mw,rE];rfl
  ·rw[mD 8 b (by omega) h,rq b h,Pa,ih (b.drop 8).length (by simp;omega) (b.drop 8) rfl]
theorem LI(s:Sta)(h:s.ok=true):iz (cJ s)=G s.ints:=by
 have e1:dr (cJ s)=aF s.ints:=by
  unfold dr cJ;rw[zy];exact yU (0,0) _
 have e2:ao 5 [] (aF s.ints)=(0,[]++s.ints,[]):=by
  have:=qw s.ints (Sta.nums h) [] [];rw[Pd]at this;exact this
 unfold iz;rw[if_neg (by unfold cJ;simp),e1,e2];rfl
def fV(l:List Int):Sta:=⟨l.getD 0 0,l.getD 1 0,l.getD 2 0,l.getD 3 0,l.getD 4 0==1⟩
theorem oz(s:Sta):fV s.ints=s:=by
 obtain⟨i,t,u,l,b⟩:=s;cases b<;>rfl
