/- Merged -/
import Derived.Test.YteggfecbjgbndaaGreatDoorZx17
import Derived.Lib.MinMax
set_option linter.all false
set_option maxHeartbeats 8000000
set_option maxRecDepth 100000
open Go.Proofs.Tryz
open List renaming length->O
open Go.Value renaming int->B,pointer->G,slice->H
open Go.IntKind renaming i64->C
open Option renaming none->E,some->I
open Go.Mv renaming aN->F
open Go.Proofs.Tryz renaming prog->L
open Go.Obj renaming cells->N
open Go.World renaming drew->P0
open List renaming take_succ_eq_append_getElem->P1,append_toArray->P2,size_toArray->P3,push_toArray->P4,cons_append->P5,length_nil->P6,sum_cons->P7
open Go.Mv.Blk renaming ext->P8,new->P9
open Array renaming replicate_zero->Pa,replicate_succ->Pb
namespace Go.Proofs.YteggfecbjgbndaaGreatDoor
open Go.RowKit Go.Mv Go.Shelf
theorem mcWp1a0{P:Prop}(h:P:=by
 refine ah 4 (λK hK=>?_);go_simp;refine af hK _ _ trivial (λ_=>?_);refine aq ?_;have HT:=F (HJ _ _ _ Hx (MV w2 bm _ (B C (m-min r m)) (.inr rfl) E2));have G1:=F (E1.other H5 (B C (m-min r m)));have G2:=F (E2.set (B C (m-min r m)));have GZ:=F (show W0.heap.size<=(w2.setCell ⟨bm,0,E⟩ (B C (m-min r m))).heap.size by rw[SZ.out];exact HA.out);have HQ:=F (show zwK room many=(H0++[min r m])++zwN f 4 (m-min r m) by rw[Hh.out];simp);have HN:=F (zxC B2);refine mC ?_;gi_wp2;exact⟨⟨f,4,m-min r m,H0++[min r m],HQ,by omega,by omega,by omega,by omega,HT,G1,G2,GZ⟩,by rw[zxC G2.out,HN.out];omega⟩):P:=h
def zwN:Nat->Int->Int->List Int
 |0,_,_=>[]
 |f+1,r,m=>if 0<m then min r m::zwN f 4 (m-min r m)else[]
def zwK(b a:Int):List Int:=zwN a.toNat (if min b 4<=0 then 4 else min b 4) a
theorem zx5:∀(f:Nat) (r m:Int),¬0<m->zwN f r m=[]
 |0,_,_,_=>rfl
 |f+1,r,m,h=>by rw[zwN,if_neg h]
theorem zxk:∀(f:Nat) (r m:Int),O (zwN f r m)<=f
 |0,_,_=>xN _
 | f+1,r,m=>by
  rw[zwN];split
  ·simpa using zxk f 4 (m-min r m)
  ·simp
def zzV(W:World)(b:Nat):Nat:=match W.cell? ⟨b,0,E⟩with | some (.int _ n)=>n.toNat | _=>0
theorem zxC{W:World}{b:Nat}{n:Int}(h:Boxed W b 3 (B C n)):zzV W b=n.toNat:=by unfold zzV;rw[h.cell]
theorem zyj(b a:Int)(w:World):Calls L 75 #[B C b,B C a] w λe w'=>e=.returned (.func (.func 141) #[] #[G (I ⟨w.heap.size,0,E⟩),G (I ⟨w.heap.size+1,0,E⟩)])/\(w.alloc (N #[B C b] 3)).alloc (N #[B C a] 3)=w':=by
 have a:∀(fn:Fn) (first cap:Array Value) (w:World),(Instr.makeFunc fn first cap).run L w=.ok (.func fn first cap) w:=λ_ _ _ _=>rfl;go_enter func75,ntmps75
 go_wp2;go_ret;exact⟨rfl,rfl⟩
def PaK(b a:Nat)(k:Nat)(o:Obj):Prop:=(k=b\/k=a)/\∃n:Int,o=.cells #[B C n] 3 (0,0)
theorem PaK.cells{b a k:Nat}{o:Obj}(h:PaK b a k o):o.isCells=true:=by
 obtain⟨_,n,rfl⟩:=h;rfl
attribute [local go_sem] Oper.semAt_some in
theorem zx3(room many:Int)(hm:many<=1000000)(a bm:Nat)(H5:a≠bm)(W0:World)(s:Boxed W0 a 3 (B C room))(Hu:Boxed W0 bm 3 (B C many)):
  Seq L 141 #[G (I ⟨a,0,E⟩),G (I ⟨bm,0,E⟩)] (λ(x:Int) av _=>av = #[B C x]) (PaK a bm) (PaK a bm) (zwK room many) W0:=by
 intro lp J Jx N HU hY h0;refine(callsIn_wd (ro:=none) (n:=9)).1 ?_;refine callsIn_of_wp func141 rfl trivial ?_ rfl;simp only[ntmps141,P3,xC,P6,Nat.reduceAdd,Nat.reduceSub,Pb,Pa,P4,P2,xI,P5];have R:=s.cell;have f1:=s.frozen;have O:∀(A:World) (b:Nat) (u:Int) (v:Value),(b=a\/b=bm)->Boxed A b 3 (B C u)->Moves (am (PaK a bm) W0.heap.size) A (A.setCell ⟨b,0,E⟩ v):=λA b u v hb h=>
  Moves.refl.setCell (λo ho _=>.inl ⟨hb,u,by rw[show A.heap[b]?=_ from h]at ho;cases ho;rfl⟩) _
 have H4:∀(A:World) (b:Nat) (v:Value),(A.setCell ⟨b,0,E⟩ v).heap.size=A.heap.size:=λA b v=>by simp[World.setCell]
 have c:Boxed (W0.setCell ⟨a,0,E⟩ (B C (min room 4))) a 3 (B C (min room 4)):=s.set _;have k:Boxed (W0.setCell ⟨a,0,E⟩ (B C (min room 4))) bm 3 (B C many):=Hu.other (Ne.symm H5) _;have Hk:=N _ _ _ h0 (O W0 a _ (B C (min room 4)) (.inl rfl) s);have V:=N _ _ _ Hk (O _ a _ (B C 4) (.inl rfl) c);have Z:Boxed ((W0.setCell ⟨a,0,E⟩ (B C (min room 4))).setCell ⟨a,0,E⟩ (B C 4)) a 3 (B C 4):=c.set _;have Hs:Boxed ((W0.setCell ⟨a,0,E⟩ (B C (min room 4))).setCell ⟨a,0,E⟩ (B C 4)) bm 3 (B C many):=k.other (Ne.symm H5) _;have l:=c.cell;have g1:=c.frozen;have HL:=F Hk;have HM:=F V;have Hd:=F c;have Hf:=F k;have He:=F Z;have Hg:=F Hs;have HJ:=F N;have HY:=F hY;have MV:=F O;have SZ:=F H4;have s1:W0.heap.size<=(W0.setCell ⟨a,0,E⟩ (B C (min room 4))).heap.size:=by rw[H4];exact xN _
 have s2:W0.heap.size<=((W0.setCell ⟨a,0,E⟩ (B C (min room 4))).setCell ⟨a,0,E⟩ (B C 4)).heap.size:=by rw[H4,H4];exact xN _
 have S1:=F s1;have S2:=F s2;clear Hk V N HU hY O H4 h0 s Hu c k Z Hs s1 s2;by_cases hr:min room 4<=0
 case' pos=>have q:zwK room many=[]++zwN many.toNat 4 many:=by unfold zwK;rw[if_pos hr];rfl
 case' neg=>have q:zwK room many=[]++zwN many.toNat (min room 4) many:=by unfold zwK;rw[if_neg hr];rfl
 all_goals
  have X:=F q;clear q;gi_wp2;gi_loopw [4] (λ_ W=>∃(f:Nat) (r m:Int) (H0:List Int),Hid (zwK room many=H0++zwN f r m)/\m.toNat<=f/\1<=r/\r<=4/\m<=1000000/\Hid (J H0 W)/\Hid (Boxed W a 3 (B C r))/\Hid (Boxed W bm 3 (B C m))/\Hid (W0.heap.size<=W.heap.size)) (λ_ W=>zzV W bm)
  case atStart=>
   first
    |exact⟨_,4,many,[],X,xN _,by omega,by omega,hm,HM,He,Hg,S2⟩
    |exact⟨_,_,many,[],X,xN _,by omega,by omega,hm,HL,Hd,Hf,S1⟩
  case round=>
   obtain⟨f,r,m,H0,q,HW,K4,K5,K2,Y,U,B2,hs⟩:=hrel;have R:=U.out.cell;have c2:=B2.out.cell;clear l g1;by_cases y:0<m
   ·obtain⟨f,rfl⟩:∃g,f=g+1:=⟨f-1,by omega⟩;have H3:=q.out;rw[zwN,if_pos y]at H3;have hy:=HY.out H0 _ _ H3 wr #[B C (min r m)] Y.out hs rfl;have Hh:=F H3;have Hy:=F hy;clear H3 hy;gi_wp2;refine ew Hy ?_;rintro e W' ⟨t,⟨rfl,d⟩|⟨rfl,d⟩⟩
    ·refine⟨true,rfl,?_⟩;have c:=t.boxed U (.inl ⟨.inl rfl,_,rfl⟩);have k:=t.boxed B2 (.inl ⟨.inr rfl,_,rfl⟩);have l:=c.cell;have p:=k.cell;have M:=c.frozen;have z:=F c;have P:=F k;have H:=F d;have Hq:=F (Nat.le_trans hs t.size);clear t d c k R c2;gi_wp2;refine mq (S:=λ_=>True) (by kernel_rfl) trivial (λ_=>?_);clear l p M;have T:Ext W' W'.drew:=xD (xR _);have D:=F (show Boxed W'.drew a 3 (B C r)from P8 z T);have Q:=F (show Boxed W'.drew bm 3 (B C m)from P8 P T);have E1:=F (show Boxed (P0 (W'.setCell ⟨a,0,E⟩ (B C 4))) a 3 (B C 4)from P8 (z.out.set _) (xD (xR _)));have E2:=F (show Boxed (P0 (W'.setCell ⟨a,0,E⟩ (B C 4))) bm 3 (B C m)from P8 (P.out.other (Ne.symm H5) _) (xD (xR _)));have Hx:=F (HJ.out _ _ _ H (MV.out W' a _ (B C 4) (.inl rfl) z).drew);have HA:=F (show W0.heap.size<=(P0 (W'.setCell ⟨a,0,E⟩ (B C 4))).heap.size by have:=Hq.out;have:=SZ.out W' a (B C 4);simp at this⊢;omega);have hw:IntKind.i64.wrap (m-min r m)=m-min r m:=by rw[IntKind.wrap_i64];omega
     clear T H Hq z P;have l:=D.out.cell;have M:=D.out.frozen;have p:=Q.out.cell;refine ab 1 ?_;refine AllReadyH.two (i:=0) (j:=3) rfl rfl (by kernel_rfl) (by rfl) (by rfl) (λK hK=>?_) (λK hK=>?_)
     ·go_simp;refine af hK _ _ trivial (λ_=>?_);refine ab 2 ?_;refine ah 3 (λK hK=>?_);go_simp;refine af hK _ _ trivial (λ_=>?_);clear l M p D Q;generalize P0 (W'.setCell ⟨a,0,E⟩ (B C 4))=w2 at *;have p:=E2.out.cell;have e2:=E2.out.frozen;exact mcWp1a0
     go_simp;refine af hK _ _ trivial (λ_=>?_);clear l M p D Q;generalize P0 (W'.setCell ⟨a,0,E⟩ (B C 4))=w2 at *;have p:=E2.out.cell;have e2:=E2.out.frozen;refine ah 0 (λK hK=>?_);go_simp;refine af hK _ _ trivial (λ_=>?_);refine ab 2 ?_;exact mcWp1a0
    refine⟨false,rfl,?_⟩;have H:=F d;clear t d R c2;gi_wp2;refine bodyPost_ret (results_none rfl _ _ _) rfl ?_;refine⟨⟨_,rfl⟩,.inr ⟨_,⟨zwN f 4 (m-min r m),?_⟩,H.out⟩⟩;rw[List.append_assoc];exact Hh.out.symm
   ·have H3:=q.out;rw[zx5 _ _ _ y,List.append_nil]at H3;have d:=Y.out;rw[<-H3]at d;have Hj:=F d;clear H3 d;gi_wp2;refine bodyPost_end (results_none rfl _ _ _) rfl ?_;exact⟨⟨_,rfl⟩,.inl Hj⟩
theorem zzy(tmps:Array Value)(W:World)(b:Nat)(u:Value)(h4:tmps.getD 4 undef=G (I ⟨b,0,E⟩))(hc:W.cell? ⟨b,0,E⟩=I u):(results Tryz.f28 tmps).run L W=.ok u W:=by
 have a:tmps[4]?.getD undef=G (I ⟨b,0,E⟩):=by simpa using h4
 simp[results,results28,a,asAddr,go_sem,hc]
def PaI(w:World)(a:Nat)(H0:List Int)(X:World):Prop:=(∃v,Boxed X w.heap.size 64 v/\OwnI X a v H0)/\Ext w X
attribute [local go_sem] Oper.semAt_some in
theorem zxs(c b:Int)(w:World)(hm:b<=1000):
  Calls L 28 #[B C c,B C b] w λe w'=>∃v,e=.returned v/\OwnI w' w.heap.size v (zwK c b)/\Ext w w':=by
 obtain⟨i0,hi,Z,HZ,K0⟩:=info_parts m9;refine(callsIn_wd (ro:=none) (n:=9)).1 ?_;refine callsIn_of_wp_marks func28 rfl trivial ?_ rfl;simp only[ntmps28,P3,xC,P6,Nat.reduceAdd,Nat.reduceSub,Pb,Pa,P4,P2,xI,P5];have l:=Boxed.new w 64 (H none 0 0);have J:Ext w (w.alloc (N #[H none 0 0] 64)):=xA (xR _) _;have X:=F l;have Y:=F J;gi_wp2_with (refine⟨trivial,?_⟩;gi_at_call 75;refine(callsIn_wd.2 (zyj c b _)).mono ?_;rintro e f⟨rfl,l⟩)
 have J:Ext (w.alloc (N #[H none 0 0] 64)) f:=by rw[<-l];exact xA (xA (xR _) _) _
 have T:Boxed f (w.heap.size+1) 3 (B C c):=by
  rw[<-l];have:=(P9 (w.alloc (N #[H none 0 0] 64)) 3 #[B C c]).alloc (N #[B C b] 3);rwa[xS]at this
 have U:Boxed f (w.heap.size+1+1) 3 (B C b):=by
  rw[<-l];have:=P9 ((w.alloc (N #[H none 0 0] 64)).alloc (N #[B C c] 3)) 3 #[B C b];rwa[xS,xS]at this
 have K6:f.heap.size=w.heap.size+1+1+1:=by rw[<-l];simp
 have h0:PaI w f.heap.size [] f:=⟨⟨_,P8 X J,World.ownsRow_nil _ _ _ _⟩,xT Y J⟩;have l:=F T;have J:=F U;refine dV (n:=9) (Rp:=λ(x:Int) t _=>t = #[B C x]) (K:=PaK (w.heap.size+1) (w.heap.size+1+1)) (M:=PaK (w.heap.size+1) (w.heap.size+1+1)) (xs:=zwK c b) (gf:=141) (lb:=#[G (I ⟨w.heap.size+1,0,E⟩),G (I ⟨w.heap.size+1+1,0,E⟩)]) (a:=⟨_,_⟩) rfl (enters_of func141 (by kernel_rfl) rfl)
  ?hseq (λk o h=>h.cells) (λk o h=>h.cells) (λx t W h=>by rw[h];rfl) (PaI w f.heap.size) (λ_ _ _=>False) ?hI (λ_ _ _ _ h _=>h) h0
  (λx Q _=>Q=⟨#[B C c,B C b,undef,undef,G (I ⟨w.heap.size,0,E⟩),B C x,B C c,B C b,.func (.func 141) #[] #[G (I ⟨w.heap.size+1,0,E⟩),G (I ⟨w.heap.size+1+1,0,E⟩)],B C x,undef,undef,undef,undef,undef],[]⟩)
  (λ_ _ _ _ h _=>h) ?assign ?body ?done ?stop
 case hseq=>exact λW1 hb _=>zx3 c b (by omega) _ _ (by omega) W1 (P8 l hb) (P8 J hb)
 case hI=>
  rintro s X Y⟨⟨v,hb,d⟩,j⟩hm;refine⟨⟨v,hm.boxed hb ?_,hm.ownsRow d ?_⟩,hm.belowOf j ?_ (xN _)⟩
  ·rintro(⟨h | h,_⟩| h)
   ·omega
   ·omega
   cases h.2
  ·intro k V hk;have:=(d.lt k hk).1;rintro(⟨h | h,_⟩| h)
   ·omega
   ·omega
   cases h.2
  rintro k o hk(⟨h | h,_⟩| h)
  ·omega
  ·omega
  have:=h.1;omega
 case assign=>
  rintro l' H0 x Hl W t l hx hI H4 rfl y;gi_wp2;exact y _ _ Kept.refl hI rfl
 case stop=>
  rintro D l H0 W _ _ h _;exact h.elim
 case body=>
  rintro l' H0 x Hl Q W hx l l⟨⟨v,hb,d⟩,j⟩H4 rfl;have K3:O H0<=1000:=by
   have h1:=congrArg List.length hx;have h2:O (zwK c b)<=b.toNat:=zxk _ _ _;rw[xL]at h1;omega
  obtain⟨g,i,rfl,_,_⟩:=xO (xW d);have cl:=hb.cell;have S:=hb.not_row (e:=3) (by decide) d;have l:w.heap.size+1+1<f.heap.size:=by omega
  gi_wp2_with (gi_at_builtin;refine lk _ rfl (.tmp 10) (.tmp 12) 64 rfl f.heap.size 3 i0 _ 1 8 underlying64 hi Z HZ K0 rfl (by decide) (H g H0.length i) H0.length _ rfl (ai d (xA (xR _) _)) _ 1 ([x].map iv) rfl (xW (be W ([x].map iv) 3 1 (xN _))) (by intro u R;simp at R;subst R;rfl) (by unfold maxLen;omega) (by omega) (by simp;omega) ?_;intro l z r q;obtain⟨A,P,rfl,_,_⟩:=xO (xW r);have m:Boxed z w.heap.size 64 (H g H0.length i):=Blk.kept (Blk.alloc hb _) q S;have l:=m.frozen;have l:=m.cell)
  have hk:Kept (am (PaK (w.heap.size+1) (w.heap.size+1+1)) f.heap.size) W (z.setCell ⟨w.heap.size,0,E⟩ (H A (O H0+1) P)):=by
   refine Kept.appended _ hb d q ?_ ?_
   ·rintro(⟨h | h,_⟩|⟨_,h⟩)
    ·omega
    ·omega
    cases h
   rintro k V hk(⟨h | h,_⟩|⟨_,h⟩)
   ·have:=(d.lt k hk).1;omega
   ·have:=(d.lt k hk).1;omega
   cases h
  refine⟨hk,⟨_,m.set _,?_⟩,?_⟩
  ·have h:=r.kept (grownBy_setCell' z w.heap.size (H A (O H0+1) P)) (.inr (m.not_row (by decide) r).symm);unfold OwnI;rw[xL,List.map_append];exact h
  refine(Below.grown (xA j _) q (by have:=j.size;simp;omega) (λk f=>?_)).setCell (p:=⟨w.heap.size,0,E⟩) (xN _) _;have:=(d.lt k f).1;omega
 case done=>
  rintro D W hD⟨⟨v,hb,d⟩,j⟩y;obtain⟨g,i,rfl,_,_⟩:=xO (xW d);have cl:=hb.cell;have f:=hb.frozen;have q:(W.setCell ⟨w.heap.size,0,E⟩ (H g (zwK c b).length i)).heap[D]?=I (.deferred (some [])):=(Below.heap_setCell _ _ _ _ (by show D≠w.heap.size;omega)).trans y;have f:=hb.set (H g (zwK c b).length i);have l:=d.kept (grownBy_setCell' W w.heap.size (H g (zwK c b).length i)) (.inr (hb.not_row (by decide) d).symm);have m:=Below.setCell (p:=⟨w.heap.size,0,E⟩) j (xN _) (H g (zwK c b).length i);have b:=F q;have c:=F f;have f:=F l;have d:=F m;gi_wp2;refine dh b _ (zzy _ _ _ _ rfl (Boxed.cell ((World.putObj_heap_other (show w.heap.size≠D by omega)).trans c.out))) ?_;exact⟨_,rfl,ay (ownsRow_putObj f (.deferred none) b rfl) (by omega),cp d _⟩
def zwV(a:Int)(i:Nat):Int:=if i=0/\0<a then min a 4 else 4
theorem zx4:∀(f:Nat) (r m:Int) (i:Nat) (x:Int),m.toNat<=f->1<=r->r<=4->(zwN f r m)[i]?=I x->1<=x/\x<=(if i=0 then r else 4)/\(O (zwN f r m)<=i+1\/x=if i=0 then r else 4)
 |0,_,_,_,_,_,_,_,h=>by simp[zwN]at h
 | f+1,r,m,i,x,hf,h1,h4,h=>by
  rw[zwN]at h⊢;by_cases hm:0<m
  ·rw[if_pos hm]at h⊢;cases i with
   |zero=>
    simp only[List.getElem?_cons_zero,Option.some.injEq]at h;subst h;rw[if_pos rfl];refine⟨by omega,by omega,?_⟩;by_cases d:m<=r
    ·refine .inl ?_;rw[zx5 f 4 _ (by omega)];exact xN _
    exact .inr (by omega)
   |succ j=>
    rw[List.getElem?_cons_succ]at h;obtain⟨a,b,c⟩:=zx4 f 4 (m-min r m) j x (by omega) (by omega) (by omega) h;have d:(if j=0 then(4:Int)else 4)=4:=by split<;>rfl
    rw[d]at b c;rw[if_neg (Nat.succ_ne_zero j)];refine⟨a,b,?_⟩;rcases c with c | c
    ·exact .inl (by rw[xC];omega)
    exact .inr c
  ·rw[if_neg hm]at h;simp at h
theorem zxL:∀(f:Nat) (r m:Int),m.toNat<=f->1<=r->(zwN f r m).sum=max m 0
 |0,r,m,hf,_=>by simp only[zwN,List.sum_nil];omega
 | f+1,r,m,hf,h1=>by
  rw[zwN];by_cases hm:0<m
  ·rw[if_pos hm,P7];have:=zxL f 4 (m-min r m) (by omega) (by omega);omega
  ·rw[if_neg hm,List.sum_nil];omega
theorem zyi(a b:Int)(i:Nat)(x:Int)(h:(zwK a b)[i]?=I x):1<=x/\x<=zwV a i/\(O (zwK a b)<=i+1\/x=zwV a i):=by
 have key:=zx4 b.toNat (if min a 4<=0 then 4 else min a 4) b i x (xN _) (by split<;>omega) (by split<;>omega) h;have hm:(if i=0 then(if min a 4<=0 then 4 else min a 4)else 4)=zwV a i:=by
  unfold zwV;by_cases hi:i=0
  ·rw[if_pos hi];by_cases b:0<a
   ·rw[if_neg (show ¬min a 4<=0 by omega),if_pos ⟨hi,b⟩]
   rw[if_pos (show min a 4<=0 by omega),if_neg (λh=>b h.2)]
  rw[if_neg hi,if_neg (λh=>hi h.1)]
 rw[hm]at key;exact key
theorem zy8(b a:Int):(zwK b a).sum=max a 0:=zxL _ _ _ (xN _) (by split<;>omega)
theorem zy7(b a:Int):O (zwK b a)<=a.toNat:=zxk _ _ _
theorem ybg(c d:Int)(k:Nat):0<=((zwK c d).take k).sum/\((zwK c d).take k).sum<=4*k:=by
 induction k with
 |zero=>simp
 |succ k ih=>
  by_cases hk:k<O (zwK c d)
  ·rw[P1 hk,List.sum_append];obtain⟨a,b,_⟩:=zyi c d k _ (List.getElem?_eq_getElem hk);have:zwV c k<=4:=by unfold zwV;split<;>omega
   simp only[P7,List.sum_nil];omega
  ·rw[List.take_of_length_le (by omega)]at ih⊢;omega
theorem zz0(b a:Int)(k:Nat)(hk:k<O (zwK b a)):((zwK b a).take (k+1)).sum=((zwK b a).take k).sum+(zwK b a)[k]:=by
 rw[P1 hk,List.sum_append];simp
