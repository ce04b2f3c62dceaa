/- Merged -/
import Derived.Test.YteggfecbjgbndaaGreatDoorZx15
import Derived.Test.YteggfecbjgbndaaGreatDoorZx16
import Derived.Test.YteggfecbjgbndaaGreatDoorZx19
set_option linter.all false
set_option maxHeartbeats 8000000
set_option maxRecDepth 100000
open Go.Proofs.Tryz
open Go.Value renaming int->C,slice->I,string->N,pointer->O,agg->Z,bool->z
open Go.IntKind renaming i64->E,u8->V
open Go.Obj renaming cells->F
open Go.Proofs.Tryz renaming prog->H
open Option renaming some->L,none->U
open Go.Mv renaming aN->T
open List renaming append_assoc->P0,getElem_cons_zero->P1,take_succ_cons->P2,append_toArray->P3,findIdx?_eq_some_iff_getElem->P4,size_toArray->P5,push_toArray->P6,cons_append->P7,length_nil->P8,take_zero->P9,getElem?_eq_some_iff->Pa,getElem?_cons_succ->Pb,getElem_cons_succ->Pc,drop_of_length_le->Pd,mem_of_getElem?->Pe,length_take->Pf,getElem_mem->Pg,foldl_cons->Ph,append_nil->Pi,drop_zero->Pj
open Go.World renaming ownsRow_nil->Pk
open Array renaming getElem?_eq_some_iff->Pl,replicate_zero->Pm,replicate_succ->Po
open Option renaming isSome->Pp,getD->Pq
open Nat renaming le_trans->Pr,reduceSub->Ps,reduceAdd->Pu,zero_add->Pv
open Go.Oper renaming semAt_some->Pw
namespace Go.Proofs.YteggfecbjgbndaaGreatDoor
open Go.RowKit Go.Mv Go.Shelf
variable {fs:List Fil}
def bS(fs:List Fil)(n:List UInt8):Int:=match fs.findIdx? (λf=>f.1==n)with | none=>-1 | some i=>(i:Int)
def eb(fs:List Fil)(r:Option (List UInt8)):Int:=match r with | none=>-1 | some n=>bS fs n
theorem rW{n:List UInt8}{k:Nat}(hk:k<fs.length)(h:fs[k].1=n)(hn:∀j (_:j<k) (h2:j<fs.length),fs[j].1≠n):bS fs n=k:=by
 have:fs.findIdx? (λf=>f.1==n)=L k:=by
  rw[P4];exact⟨hk,by simpa using h,λj b=>by simpa using hn j b (by omega)⟩
 unfold bS;rw[this]
theorem qQ{n:List UInt8}(hn:∀j (h2:j<fs.length),fs[j].1≠n):bS fs n = -1:=by
 have:fs.findIdx? (λf=>f.1==n)=none:=by
  rw[List.findIdx?_eq_none_iff];intro x hx;obtain⟨j,b,rfl⟩:=List.mem_iff_getElem.1 hx;simpa using hn j b
 unfold bS;rw[this]
theorem Ey(v:Value)(fs:List Fil)(k s f:Int)(w:World)(I:StW w)(o:Fs w v fs)(hl:fs.length<=4000000):Calls H 89 #[v,Z #[C V k,C E s,C E f]] w λe w'=>e=.returned (C E (eb fs (aE k s f)))/\Ext w w':=by
 obtain⟨A,c,rfl,h1,h2⟩:=Fs.open_ o;have p:Ext w (w.alloc (F #[C V k,C E s,C E f] 32)):=xA (xR _) _;have key:=qp k s f _ (I.ext p);obtain⟨r,K⟩:∃r,aE k s f=r:=⟨_,rfl⟩;rw[K]at key⊢;have z:=T key;have L:=T o;clear key K o I;cases r with
 |none=>
  go_enter func89,ntmps89
  go_wp2_with fail
  refine z.out.mono ?_;rintro e y⟨rfl,d⟩;dsimp only[Pp];go_wp2_with fail
  go_loopw [7] (λi wr=>i=C E 0/\y=wr) (λ_ _=>0)
  case atStart=>exact⟨rfl,rfl⟩
  case round=>
   obtain⟨rfl,rfl⟩:=hrel;go_wp2_with fail
   all_goals go_ret
   all_goals exact⟨rfl,xT p d⟩
 |some n=>
  go_enter func89,ntmps89
  go_wp2_with fail
  refine z.out.mono ?_;rintro e y⟨rfl,d⟩;dsimp only[Pp,Pq];have g:=xT p d;go_wp2_with fail
  go_loopw [7] (λi wr=>∃j:Nat,j<=fs.length/\i=C E j/\Hid (∀q (_:q<j) (h2:q<fs.length),fs[q].1≠n)/\y=wr) (λi _=>fs.length-(intOf i).toNat)
  case atStart=>exact⟨0,by omega,rfl,λq t=>by omega,rfl⟩
  case round=>
   obtain⟨j,W,rfl,m,rfl⟩:=hrel;by_cases D:j<fs.length
   ·obtain⟨_,b,U,rfl,hc⟩:=(L.out.ext g).at_ (by omega);obtain⟨M,_⟩:=hc j D;have J:fs[j].1=n->eb fs (some n)=j:=λh=>rW D h m;have t:fs[j].1≠n->∀q (_:q<j+1) (h2:q<fs.length),fs[q].1≠n:=λh q h3 h2=>by
     by_cases e:q=j
     ·subst e;exact h
     exact m.out q (by omega) h2
    have N:=T J;have Hq:=T t;clear hc J t;generalize fs[j].1=x at *;simp only[sv]at M⊢;by_cases hx:x=n
    ·have R:(x==n)=true:=by simpa using hx
     have l:=T (N.out hx);go_wp2_with fail;go_ret;exact⟨by rw[l.out];rfl,g⟩
    have R:(x==n)=false:=by simpa using hx
    have O:=T (Hq.out hx);go_wp2_with fail
    go_roundw
    case rel=>exact⟨j+1,by omega,by go_num,O,trivial⟩
    case measure=>simp[intOf];omega
   ·obtain rfl:j=fs.length:=by omega
    have l:=T (show eb fs (some n) = -1 from qQ λq h2=>m.out q h2 h2);go_wp2_with fail;go_ret;exact⟨by rw[l.out];rfl,g⟩
def nmP:Nat->List Fil->List (Nat×List UInt8)
 |_,[]=>[]
 |k,f::l=>(k,f.1)::nmP (k+1) l
theorem so{k:Nat}(h:k<fs.length):nmP k (fs.drop k)=(k,fs[k].1)::nmP (k+1) (fs.drop (k+1)):=by
 rw[List.drop_eq_getElem_cons h];rfl
theorem BI(l:List Fil):∀k,(nmP k l).length=l.length:=by
 induction l with
 |nil=>intro k;rfl
 |cons f l ih=>intro k;simp[nmP,ih]
theorem BH:∀(k j:Nat) (h:k+j<fs.length),(nmP k (fs.drop k))[j]?=L (k+j,fs[k+j].1):=by
 intro k j;induction j generalizing k with
 |zero=>intro h;rw[so (by omega)];rfl
 |succ j ih=>
  intro h;rw[so (by omega),Pb,ih (k+1) (by omega)];simp only[Nat.add_assoc,Nat.add_comm 1 j]
theorem Hold.keptK{b A B:World}{K:Nat->Obj->Prop}{n:Nat}(h:Hold b A)(d:∀k o,k<b.heap.size->o.isCells=true->K k o)(hk:Kept (am K n) A B):Hold b B:=λq u b=>
 hk.cell (h q u b) λo e=>.inl (d _ o (World.block_lt_of_cell? _ _ b) (by
  obtain⟨d,c,hc⟩:=cells_of_cell (h q u b);rw[e]at c;cases c;exact hc))
attribute [local go_sem] Pw in
theorem tz(K:Nat->Obj->Prop)(s m:World)(v:Value)(fs:List Fil)(V:Fs s v fs)(Hr:fs.length<=4000000)(hH:Hold s m)(B:Nat)(hB:Boxed m B 22 v)(Ki:∀o:Obj,o.isCells=true->K B o)(Kj:∀k o,k<s.heap.size->o.isCells=true->K k o):
  Seq H 176 #[O (L ⟨B,0,U⟩)] (λ(x:Nat×List UInt8) av _=>av = #[C E x.1,sv x.2]) K (λ_ _=>False) (nmP 0 fs) m:=by
 intro l J Jx hJ Kr y h0;obtain⟨A,c,rfl,Hz,HN⟩:=Fs.open_ V;refine(callsIn_wd (ro:=none) (n:=9)).1 ?_;refine callsIn_of_wp func176 rfl trivial ?_ rfl;simp only[ntmps176,P5,xC,P8,Pu,Ps,Po,Pm,P6,P3,xI,P7];have Hu:=T V;clear V;obtain⟨d,H3⟩:∃d,nmP 0 fs=d:=⟨_,rfl⟩;rw[H3]at y⊢;have HA:=T H3;have c1:=hB.cell;clear H3;gi_wp2;clear c1;gi_loopw [7] (λj W=>∃(k:Nat) (f:List (Nat×List UInt8)),j=C E k/\k<=fs.length/\Hid (d=f++nmP k (fs.drop k))/\Hid (J f W)/\Hold s W/\Boxed W B 22 (I A fs.length c)/\m.heap.size<=W.heap.size) (λj _=>fs.length+1-(intOf j).toNat)
 case atStart=>exact⟨0,[],rfl,by omega,HA.out.symm,h0,hH,hB,xN _⟩
 case round=>
  obtain⟨k,f,rfl,Ku,N,HJ,Z,bB,HV⟩:=hrel;by_cases X:k<fs.length
  ·obtain⟨_,b,Y,rfl,hc⟩:=(Hu.out.keep Z).at_ (by omega);obtain⟨R,h,p,HQ,_⟩:=hc k X;have g:=N.out;rw[so X]at g;have D:=T g;have Ka:=T y;clear hc g y;generalize fs[k].2.length=m2 at *;generalize fs[k].1=x at *;simp only[sv]at R;have t:Ext wr (wr.alloc (F #[sv x,I h m2 p] 68)):=xA (xR _) _;have K0:=hJ f wr (wr.alloc (F #[sv x,I h m2 p] 68)) HJ (Moves.refl.alloc _);have Hh:=Pr HV t.size;have Hl:Boxed (wr.alloc (F #[sv x,I h m2 p] 68)) B 22 (I (L ⟨b,Y,U⟩) fs.length c):=bB.kept (row:=none) (Ext.grown t none) (by simp);have HZ:Hold s (wr.alloc (F #[sv x,I h m2 p] 68)):=λq u hq=>Ext.cell t (Z q u hq);have hy:=Ka.out f (k,x) _ D _ #[C E (k:Int),sv x] K0 Hh rfl;have Hy:=T hy;have K7:=T HZ;have M:=Blk.new wr 68 #[sv x,I h m2 p];have g0:=M.cell 0 rfl;have g1:=M.cell 1 rfl;clear hy K0 HZ t M;simp only[sv]at *;gi_wp2;refine ew Hy ?_;rintro e W' ⟨i,⟨rfl,r⟩|⟨rfl,r⟩⟩
   ·refine⟨true,rfl,?_⟩;have d1:Boxed W' B 22 (I (L ⟨b,Y,U⟩) fs.length c):=i.boxed Hl (.inl (Ki _ rfl));have Km:m.heap.size<=W'.heap.size:=Pr Hh i.size;have K8:=T (Hold.keptK K7 Kj i);have z:=T r;have K5:d=(f++[(k,x)])++nmP (k+1) (fs.drop (k+1)):=by rw[P0];exact D.out
    have Kc:=T K5;clear r i g0 g1 K5 Hy R HQ;gi_wp2;exact⟨⟨k+1,f++[(k,x)],by go_num,by omega,Kc.out,z.out,K8.out,d1,Km⟩,by simp[intOf];omega⟩
   refine⟨false,rfl,?_⟩;have z:=T r;clear r i g0 g1 R HQ;gi_wp2;refine bodyPost_ret (results_none rfl _ _ _) rfl ?_;refine⟨⟨_,rfl⟩,.inr ⟨f++[(k,x)],?_,z.out⟩⟩;exact⟨nmP (k+1) (fs.drop (k+1)),by rw[P0];exact D.out.symm⟩
  ·obtain rfl:k=fs.length:=by omega
   have g:=N.out;rw[List.drop_length,show nmP fs.length ([]:List Fil)=[]from rfl,Pi]at g;subst g;clear N y;gi_wp2;refine bodyPost_end (results_none rfl _ _ _) rfl ?_;exact⟨⟨_,rfl⟩,.inl HJ⟩
theorem DI(d b:World)(v:Value)(fs:List Fil)(h:Fs d v fs)(e:fs.length<=4000000)(i:Hold d b)(B c:Nat)(g:Boxed b B 22 v)(f:B≠c)(h1:d.heap.size<=c):
  Seq H 176 #[O (L ⟨B,0,U⟩)] (λ(x:Nat×List UInt8) av _=>av = #[C E x.1,sv x.2]) (λk o=>k≠c/\o.isCells=true) (λ_ _=>False) (nmP 0 fs) b:=
 tz (λk o=>k≠c/\o.isCells=true) d b v fs h e i B g (λ_ b=>⟨f,b⟩) (λ_ _ hk b=>⟨by omega,b⟩)
theorem yC(A:Option Addr)(n c:Nat)(w:World):Calls H 116 #[I A n c] w λe w'=>e=.returned (.func (.func 176) #[] #[O (L ⟨w.heap.size,0,U⟩)])/\w.alloc (F #[I A n c] 22)=w':=by
 go_enter func116,ntmps116
 go_wp2;go_ret;exact⟨rfl,rfl⟩
def FiI(w:World)(c:Nat)(n:List UInt8)(b:List (Nat×List UInt8))(X:World):Prop:=(∀x∈b,x.2≠n)/\(∃v,Boxed X (w.heap.size+1) 3 v)/\Boxed X c 9 (N ⟨n.toArray⟩)/\Ext w X
def FiX(w:World)(n:List UInt8)(c:Code)(b:List (Nat×List UInt8))(X:World):Prop:=c=Code.ret/\∃(H0:List (Nat×List UInt8)) (k:Nat),b=H0++[(k,n)]/\(∀x∈H0,x.2≠n)/\Boxed X (w.heap.size+1) 3 (C E (k:Int))/\Ext w X
theorem yq(k s f:Int)(w:World):Boxed ((w.alloc (F #[C V k,C E s,C E f] 32)).alloc (F #[C E 0] 3)) (w.heap.size+1) 3 (C E 0):=by
 have:=Boxed.new (w.alloc (F #[C V k,C E s,C E f] 32)) 3 (C E 0);rwa[xS]at this
theorem rP(tmps:Array Value)(W:World)(b:Nat)(u:Value)(h4:tmps.getD 4 undef=O (L ⟨b,0,U⟩))(hc:W.cell? ⟨b,0,U⟩=L u)(c:∃n,u=C E n):(results Tryz.f82 tmps).run H W=.ok u W:=by
 obtain⟨n,rfl⟩:=c;have c:tmps[4]?.getD undef=O (L ⟨b,0,U⟩):=by simpa using h4
 simp[results,results82,c,hc,go_sem]
attribute [local go_sem] Pw in
theorem Iy(v:Value)(fs:List Fil)(k s f:Int)(w:World)(d:StW w)(b:Fs w v fs)(hn:aE k s f=none):Calls H 82 #[v,Z #[C V k,C E s,C E f]] w λe w'=>e=.returned (C E (-1))/\Ext w w':=by
 obtain⟨A,c,rfl,h1,h2⟩:=Fs.open_ b;have g:Ext w ((w.alloc (F #[C V k,C E s,C E f] 32)).alloc (F #[C E 0] 3)):=xA (xA (xR _) _) _;have key:=lG k s f _ (d.ext g);rw[hn]at key;have d:Calls H 50 #[Z #[C V k,C E s,C E f]] ((w.alloc (F #[C V k,C E s,C E f] 32)).alloc (F #[C E 0] 3)) (λe w'=>e=.returned (.tuple #[N ⟨#[]⟩,C E 2])/\Ext ((w.alloc (F #[C V k,C E s,C E f] 32)).alloc (F #[C E 0] 3)) w'):=key;have b:=T d;have h:=yq k s f w;refine(callsIn_wd (ro:=none) (n:=9)).1 ?_;refine callsIn_of_wp_marks func82 rfl trivial ?_ rfl;simp only[ntmps82,P5,xC,P8,Pu,Ps,Po,Pm,P6,P3,xI,P7];gi_wp2_with (refine⟨trivial,?_⟩;gi_at_call 50;refine(callsIn_wd.2 b).mono ?_;rintro e b⟨rfl,d⟩;have b:=(h.kept (row:=none) (Ext.grown d none) (by simp)).alloc (F #[N ⟨#[]⟩] 9);have h:=b.cell;have h:=b.frozen)
 have h:=b.set (C E (-1));refine fp (C E (-1)) (rP _ _ _ _ rfl h.cell ⟨_,rfl⟩) ?_;exact⟨rfl,Below.setCell (p:=⟨w.heap.size+1,0,U⟩) (xA (xT g d) _) (by show w.heap.size<=w.heap.size+1;omega) _⟩
attribute [local go_sem] Pw in
theorem Iz(v:Value)(fs:List Fil)(k s f:Int)(w:World)(hS:StW w)(R:Fs w v fs)(hl:fs.length<=4000000)(n:List UInt8)(hn:aE k s f=L n):Calls H 82 #[v,Z #[C V k,C E s,C E f]] w λe w'=>e=.returned (C E (bS fs n))/\Ext w w':=by
 obtain⟨A,c,rfl,h1,h2⟩:=Fs.open_ R;have hX:Ext w ((w.alloc (F #[C V k,C E s,C E f] 32)).alloc (F #[C E 0] 3)):=xA (xA (xR _) _) _;have key:=lG k s f _ (hS.ext hX);rw[hn]at key;have H8:Calls H 50 #[Z #[C V k,C E s,C E f]] ((w.alloc (F #[C V k,C E s,C E f] 32)).alloc (F #[C E 0] 3)) (λe w'=>e=.returned (.tuple #[N ⟨n.toArray⟩,C E 0])/\Ext ((w.alloc (F #[C V k,C E s,C E f] 32)).alloc (F #[C E 0] 3)) w'):=key;have H5:=T H8;have q0:=yq k s f w;have HF:=T R;refine(callsIn_wd (ro:=none) (n:=9)).1 ?_;refine callsIn_of_wp_marks func82 rfl trivial ?_ rfl;simp only[ntmps82,P5,xC,P8,Pu,Ps,Po,Pm,P6,P3,xI,P7];gi_wp2_with (first
  |(refine⟨trivial,?_⟩;gi_at_call 50;refine(callsIn_wd.2 H5).mono ?_;rintro e d⟨rfl,r⟩;have y:=(q0.kept (row:=none) (Ext.grown r none) (by simp)).alloc (F #[N ⟨n.toArray⟩] 9);have R:=y.cell;have R:=y.frozen)
  |(refine⟨trivial,?_⟩;gi_at_call 116;refine(callsIn_wd.2 (yC _ _ _ _)).mono ?_;rintro e w' ⟨rfl,rfl⟩))
 have R:w.heap.size+2<=d.heap.size:=by have:=r.size;simp at this;omega
 have q3:Boxed ((d.alloc (F #[N ⟨n.toArray⟩] 9)).alloc (F #[I A fs.length c] 22)) (d.heap.size+1) 22 (I A fs.length c):=by
  have:=Boxed.new (d.alloc (F #[N ⟨n.toArray⟩] 9)) 22 (I A fs.length c);rwa[xS]at this
 have K:Ext w ((d.alloc (F #[N ⟨n.toArray⟩] 9)).alloc (F #[I A fs.length c] 22)):=xA (xA (xT hX r) _) _;have h0:FiI w d.heap.size n [] ((d.alloc (F #[N ⟨n.toArray⟩] 9)).alloc (F #[I A fs.length c] 22)):=⟨λx h=>(by cases h),⟨_,y.alloc _⟩,(Boxed.new d _ _).alloc _,K⟩;have r:d.heap.size+2=((d.alloc (F #[N ⟨n.toArray⟩] 9)).alloc (F #[I A fs.length c] 22)).heap.size:=by simp
 generalize(d.alloc (F #[N ⟨n.toArray⟩] 9)).alloc (F #[I A fs.length c] 22)=w3 at *;refine dV (a:=⟨_,_⟩) rfl (enters_of func176 (by kernel_rfl) rfl)
  (λW1 hb hs=>DI w W1 _ fs HF hl (λq u m=>Ext.cell (xT K hb) m) (d.heap.size+1) (w.heap.size+1) (q3.kept (row:=none) (Ext.grown hb none) (by simp)) (by omega) (by omega))
  (λk o h=>h.elim) (λk o h=>h.2) (λx av W h=>by rw[h];rfl)
  (FiI w d.heap.size n) (FiX w n) ?hI ?hIx h0
  (λx M _=>M=⟨#[I A fs.length c,Z #[C V k,C E s,C E f],undef,O (L ⟨w.heap.size,0,U⟩),O (L ⟨w.heap.size+1,0,U⟩),O (L ⟨d.heap.size,0,U⟩),C E 0,C E x.1,sv x.2,
    .tuple #[N ⟨n.toArray⟩,C E 0],Z #[C V k,C E s,C E f],.tuple #[N ⟨n.toArray⟩,C E 0],N ⟨n.toArray⟩,C E 0,C E 0,z false,I A fs.length c,
    .func (.func 176) #[] #[O (L ⟨d.heap.size+1,0,U⟩)],C E x.1,sv x.2,undef,undef,undef,undef],[]⟩)
  (λ_ _ _ _ h _=>h) ?assign ?body ?done ?stop
 case hI=>
  rintro s X Y⟨g,⟨v,b⟩,hs,i⟩hm;refine⟨g,⟨v,hm.boxed b ?_⟩,hm.boxed hs ?_,hm.belowOf i ?_ (Pr (by omega) (xN _))⟩
  ·rintro(h | h)
   ·exact h
   cases h.2
  ·rintro(h | h)
   ·exact h
   cases h.2
  rintro k o hk(h | h)
  ·exact h
  have:=h.1;omega
 case hIx=>
  rintro cd s X Y⟨rfl,H0,j,rfl,g,b,i⟩hm;refine⟨rfl,H0,j,rfl,g,hm.boxed b ?_,hm.belowOf i ?_ (xN _)⟩
  ·rintro(h | h)
   ·exact h
   cases h.2
  rintro k o hk(h | h)
  ·exact h
  have:=h.1;omega
 case assign=>
  rintro l' t x H4 W av d hx hi HV rfl l;gi_wp2;exact l _ _ Kept.refl hi rfl
 case body=>
  rintro l' t⟨j,x⟩H4 M W hx d d⟨g,⟨v,b⟩,hs,i⟩HV rfl;have hc:=b.cell;have hf:=b.frozen;have d:=hs.cell;simp only[sv];by_cases he:x=n
  ·have Kl:(x==n)=true:=by simpa using he
   have D:=T he;gi_wp2;refine⟨Kept.refl.setCell (λo ho _=>?_) _,rfl,t,j,by rw[D.out],g,b.set _,Below.setCell (p:=⟨w.heap.size+1,0,U⟩) i (by show w.heap.size<=w.heap.size+1;omega) _⟩;rw[show W.heap[w.heap.size+1]?=_ from b]at ho;cases ho;rintro(⟨h,_⟩|⟨_,h⟩)
   ·exact h rfl
   cases h
  have Kl:(x==n)=false:=by simpa using he
  have D:=T he;gi_wp2;refine⟨Kept.refl,λy d=>?_,⟨v,b⟩,hs,i⟩;rcases List.mem_append.1 d with h | h
  ·exact g y h
  rcases List.mem_singleton.1 h with rfl
  exact D.out
 case done=>
  rintro D W hD⟨g,⟨v,b⟩,hs,i⟩l;have hc:=b.cell;have hf:=b.frozen;gi_wp2;have Kn:=b.set (C E (-1));have d:=dK l rfl ⟨w.heap.size+1,0,U⟩ (C E (-1));have J:=fL Kn.cell d rfl (.deferred none);refine dh d (C E (-1)) (rP _ _ _ _ rfl J ⟨_,rfl⟩) ?_;refine⟨?_,cp (Below.setCell (p:=⟨w.heap.size+1,0,U⟩) i (by show w.heap.size<=w.heap.size+1;omega) _) _⟩;rw[qQ];intro q m he;refine g (q,fs[q].1) ?_ he;have:=BH (fs:=fs) 0 q (by omega);simp only[Pv,Pj]at this;exact Pe this
 case stop=>
  rintro D cd t W hD HU⟨rfl,H0,j,rfl,g,b,i⟩l;have J:=fL b.cell l rfl (.deferred none);gi_wp2;refine dh l (C E (j:Int)) (rP _ _ _ _ rfl J ⟨_,rfl⟩) ?_;refine⟨?_,cp i _⟩;obtain⟨H4,b⟩:=HU;have H3:∀q,(m:q<fs.length)->(nmP 0 fs)[q]?=L (q,fs[q].1):=λq m=>by
   have:=BH (fs:=fs) 0 q (by omega);simpa only[Pv,Pj]using this
  have d:H0.length<fs.length:=by
   have:=congrArg List.length b;rw[BI]at this;simp at this;omega
  have i:=H3 H0.length d;rw[<-b,P0,List.getElem?_append_right (xN _),Nat.sub_self]at i;have h8:(j,n)=(H0.length,fs[H0.length].1):=Option.some.inj i;injection h8 with h7 h6
  rw[h7,rW d h6.symm];intro q m h2 he;have h5:=H3 q h2;rw[<-b,P0,List.getElem?_append_left m]at h5;exact g _ (Pe h5) he
theorem MX(v:Value)(fs:List Fil)(k s f:Int)(w:World)(c:StW w)(b:Fs w v fs)(hl:fs.length<=4000000):Calls H 82 #[v,Z #[C V k,C E s,C E f]] w λe w'=>e=.returned (C E (eb fs (aE k s f)))/\Ext w w':=by
 cases hn:aE k s f with
 |none=>exact Iy v fs k s f w c b hn
 |some n=>exact Iz v fs k s f w c b hl n hn
open Go.RowKit Go.Mv
def bu(fs:List Fil)(r:Option (List UInt8)):Option (List UInt8):=if eb fs r<0 then none else(fs[(eb fs r).toNat]?).map (·.2)
def Ot(w:World)(r:Option (List UInt8))(e:Ending)(w':World):Prop:=∃v,e=.returned (.tuple #[v,z r.isSome])/\Bs w' v (r.getD [])/\Ext w w'
theorem AD(fs:List Fil)(r:Option (List UInt8))(h:¬eb fs r<0):∃i:Nat,eb fs r=(i:Int)/\i<fs.length:=by
 unfold eb at h⊢;cases r with
 |none=>exact absurd (show((-1:Int)<0) by decide) h
 |some n=>
  dsimp only at h⊢;unfold bS at h⊢;cases hf:fs.findIdx? (λf=>f.1==n)with
  |none=>rw[hf]at h;exact absurd (show((-1:Int)<0) by decide) h
  |some i=>
   refine⟨i,rfl,?_⟩;rw[P4]at hf;exact hf.1
theorem pO(v:Value)(fs:List Fil)(k s f:Int)(w:World)(l:StW w)(j:Fs w v fs)(hl:fs.length<=4000000):Calls H 40 #[v,Z #[C V k,C E s,C E f]] w (Ot w (bu fs (aE k s f))):=by
 obtain⟨A,c,rfl,h1,h2⟩:=Fs.open_ j;have m:Ext w (w.alloc (F #[C V k,C E s,C E f] 32)):=xA (xR _) _;have key:=Ey _ fs k s f _ (l.ext m) (j.ext m) hl;obtain⟨r,l⟩:∃r,aE k s f=r:=⟨_,rfl⟩;rw[l]at key⊢;have p:=AD fs r;obtain⟨R,l⟩:∃R,bu fs r=R:=⟨_,rfl⟩;rw[l];unfold bu at l;have o:=T l;have g:=T p;have l:=T key;have q:=T j;have hb:=Blk.new w 32 #[C V k,C E s,C E f];generalize eb fs r=at_ at *;have g:Hid (¬at_<0->∃i:Nat,at_=(i:Int)/\i<fs.length):=T (λh=>g.out (by first | exact h | omega));go_enter func40,ntmps40
 go_wp2_with fail
 refine l.mono ?_;rintro e j⟨rfl,j⟩;have d:=xT m j;by_cases hn:at_<0
 ·have:R=none:=by rw[<-o.out,if_pos hn]
  subst this;go_wp2_with fail
  go_ret2;exact⟨_,rfl,SlR.nil _ 1,d⟩
 ·obtain⟨i,rfl,hi⟩:=g (by omega);have:R=L fs[i].2:=by rw[<-o.out,if_neg hn,Int.toNat_natCast,List.getElem?_eq_getElem hi];rfl
  subst this;obtain⟨_,b,g,rfl,hc⟩:=(q.ext d).at_ (by omega);obtain⟨_,g,g,HQ,g⟩:=hc i hi;have j:=T g;have g:(i:Int)<(fs.length:Int):=by omega
  generalize fs[i].2=bb at *;go_wp2_with fail
  go_ret2;exact⟨_,rfl,j.out,d⟩
def dU(n:Nat)(b:Int):Bool:=(decide (b = -1)&&(decide (n<1)||decide (4<n)))||(decide (b≠-1)&&decide ((n:Int)≠b))
def bw(fs:List Fil)(s:Sg4):Option (List Ent):=match bu fs (aE 3 s.seq s.fmt)with
 |none=>none
 |some b=>if(bY rT b s.fmt).err≠0 then none else if(bY rT b s.fmt).first≠s.first then none else if dU (bY rT b s.fmt).log.length s.count=true then none else some (bY rT b s.fmt).log
def sQ(w:World)(r:Option (List Ent))(e:Ending)(w':World):Prop:=∃v,e=.returned (.tuple #[v,C E (if r.isSome then 0 else 130)])/\OwnE w' w.heap.size v (r.getD [])/\Ext w w'
theorem yB{r:Option (List UInt8)}{b:List UInt8}(h:bu fs r=L b):∃f∈fs,f.2=b:=by
 unfold bu at h;split at h
 ·cases h
 ·cases hg:fs[(eb fs r).toNat]? with
  |none=>rw[hg]at h;cases h
  |some f=>
   rw[hg]at h;obtain rfl:f.2=b:=by simpa using h
   obtain⟨hi,rfl⟩:=Pa.1 hg;exact⟨_,Pg hi,rfl⟩
theorem tC(v:Value)(fs:List Fil)(s:Sg4)(w:World)(hS:StW w)(U:Fs w v fs)(hl:fs.length<=4000000)(o:∀f∈fs,f.2.length<=2000000):Calls H 16 #[v,Z #[C E s.seq,C E s.fmt,C E s.first,C E s.count]] w (sQ w (bw fs s)):=by
 obtain⟨A,c,rfl,h1,h2⟩:=Fs.open_ U;have p:Ext w (w.alloc (F #[C E s.seq,C E s.fmt,C E s.first,C E s.count] 36)):=xA (xR _) _;have y:=Blk.new w 36 #[C E s.seq,C E s.fmt,C E s.first,C E s.count];have key:=pO _ fs 3 s.seq s.fmt _ (hS.ext p) (U.ext p) hl;obtain⟨R,l⟩:∃R,bw fs s=R:=⟨_,rfl⟩;rw[l];unfold bw at l;have K:∀b,bu fs (aE 3 s.seq s.fmt)=L b->b.length<=2000000:=λb h=>by
  obtain⟨f,hf,rfl⟩:=yB h;exact o f hf
 obtain⟨rb,K3⟩:∃r,bu fs (aE 3 s.seq s.fmt)=r:=⟨_,rfl⟩;rw[K3]at key l K;have z:=T l;have l:=T key;have U:=aM y;go_enter func16,ntmps16
 go_wp2_with fail
 refine l.mono ?_;rintro e w1⟨v1,rfl,M,l⟩;have U:=xT p l;have p:=y.ext l;have l:=aM p;have X:=T p;have j:=T U;cases rb with
 |none=>
  obtain rfl:none=R:=z.out;dsimp only[Pp];go_wp2_with fail
  go_ret2;exact⟨_,rfl,Pk _ _ _ _,j.out⟩
 |some b=>
  have o:=K b rfl;dsimp only[Pp,Pq]at M⊢;have l:=Dj v1 b s.fmt w1 M o;have Hk:Hid ((if(bY rT b s.fmt).err≠0 then none else if(bY rT b s.fmt).first≠s.first then none else if dU (bY rT b s.fmt).log.length s.count=true then none else some (bY rT b s.fmt).log)=R):=z;obtain⟨r,o⟩:∃r,bY rT b s.fmt=r:=⟨_,rfl⟩;rw[o]at l Hk;have o:=T l;go_wp2_with fail
  refine o.mono ?_;rintro e m⟨vl,rfl,D,t⟩;generalize((r.first:Nat):Int)=rf at *;have W:Es m vl r.log:=xW D;obtain⟨q,O,rfl,_,_⟩:=xO W;have N:=T D;have l:=X.ext t;have Hx:Ext m (m.alloc (F #[C E rf,I q r.log.length O,C E r.used] 90)):=xA (xR _) _;have o:=aM (l.ext Hx);have g:=T (xT j (xT t Hx));have J:=T Hx;have l:=Blk.new m 90 #[C E rf,I q r.log.length O,C E r.used];obtain⟨m,m,m,_,_,_⟩:=au l;by_cases he:r.err=0
  case neg=>
   obtain rfl:none=R:=by rw[<-Hk.out,if_pos he]
   have l:(r.err != 0)=true:=by simpa using he
   go_wp2_with fail
   go_ret2;exact⟨_,rfl,Pk _ _ _ _,g.out⟩
  have l:(r.err != 0)=false:=by simpa using he
  by_cases hf:rf=s.first
  case neg=>
   obtain rfl:none=R:=by rw[<-Hk.out,if_neg (λh=>h he),if_pos hf]
   go_wp2_with fail
   go_ret2;exact⟨_,rfl,Pk _ _ _ _,g.out⟩
  have i:Hid ((if dU r.log.length s.count=true then none else some r.log)=R):=T (by have h:=Hk.out;rw[if_neg (λh=>h he),if_neg (λh=>h hf)]at h;exact h);subst hf;by_cases d:s.count = -1
  ·have Y:(s.count == -1)=true:=by simpa using d
   have Ke:(s.count != -1)=false:=by simpa using d
   by_cases n1:r.log.length<1
   ·have Kp:(r.log.length:Int)<1:=by omega
    obtain rfl:none=R:=by rw[<-i.out,if_pos (by unfold dU;simp[d];left;simpa using n1)]
    go_wp2_with fail
    go_ret2;exact⟨_,rfl,Pk _ _ _ _,g.out⟩
   have Kp:¬(r.log.length:Int)<1:=by omega
   by_cases V:4<r.log.length
   ·have Kq:(4:Int)<(r.log.length:Int):=by omega
    obtain rfl:none=R:=by rw[<-i.out,if_pos (by unfold dU;simp[d,V])]
    go_wp2_with fail
    go_ret2;exact⟨_,rfl,Pk _ _ _ _,g.out⟩
   have Kq:¬(4:Int)<(r.log.length:Int):=by omega
   obtain rfl:some r.log=R:=by rw[<-i.out,if_neg (by unfold dU;rw[decide_eq_false n1,decide_eq_false V];simp[d])]
   go_wp2_with fail
   go_ret2;exact⟨_,rfl,ay (ai N J) j.size,g.out⟩
  ·have Y:(s.count == -1)=false:=by simpa using d
   have Ke:(s.count != -1)=true:=by simpa using d
   by_cases k:(r.log.length:Int)=s.count
   ·have Kf:((r.log.length:Int) != s.count)=false:=by simpa using k
    obtain rfl:some r.log=R:=by rw[<-i.out,if_neg (by unfold dU;simp[d,k];try omega)]
    go_wp2_with fail
    go_ret2;exact⟨_,rfl,ay (ai N J) j.size,g.out⟩
   ·have Kf:((r.log.length:Int) != s.count)=true:=by simpa using k
    obtain rfl:none=R:=by rw[<-i.out,if_pos (by unfold dU;simp[d,k])]
    go_wp2_with fail
    go_ret2;exact⟨_,rfl,Pk _ _ _ _,g.out⟩
end Go.Proofs.YteggfecbjgbndaaGreatDoor

namespace Go.Mv
open Go.RowKit
variable {a:Act} {df:List Deferred} {w:World}
section
variable {n:Nat} {P:Program} {ops:Array Oper} {Q:Exit->Act->World->Prop} {md:Region.Mode} {S:World->Prop}
def NoH(Q:Exit->Act->World->Prop)(df:List Deferred)(b:List PanicEntry->World->Prop):Exit->Act->World->Prop
 |.normal,a,w=>Q .normal a w
 |.panic c,a,w=>a.defers=df/\b c w
 |_,_,_=>False
theorem pI{b:List PanicEntry->World->Prop}(h:Q .normal a w):NoH Q df b .normal a w:=h
theorem Nw{c:List PanicEntry->World->Prop}{i:Nat}{K:Act->World->Prop}(h:wpOp P ops (NoH Q df c) i K a w):wpOpIn (Wd none) n P ops (NoH Q df c) i K a w:=by
 unfold wpOp at h;unfold wpOpIn;cases d:ops[i]? with
 |none=>rw[d]at h;exact h
 |some o=>
  rw[d]at h;dsimp only at h⊢;split
  ·rename_i b;rw[if_pos b]at h;rcases h with h | ⟨_,_,_,h⟩
   ·refine⟨λ_ _=>trivial,?_⟩;rw[show(Wd none).round=none from rfl,Oper.semAt_none];exact BP h
   exact h.elim
  ·rename_i b;rw[if_neg b]at h;exact⟨λ_ _=>trivial,h⟩
theorem zF{b:List PanicEntry->World->Prop}:∀(fuel:Nat) (listed:Array Bool) (a:Act) (w:World),wpAny P md ops (NoH Q df b) fuel listed a w->wpAnyIn (Wd none) n P md ops (NoH Q df b) fuel listed a w
 |0,_,_,_,h=>h
 |fuel+1,listed,a,w,h=>⟨h.1,λi hi=>wpOpIn_mono (λa w=>zF fuel _ a w) (Nw (h.2 i hi))⟩
theorem mj{g:Nat}(df:List Deferred)(b:List PanicEntry->World->Prop)(f:∀c a w,a.defers=df->b c w->Q (.panic c) a w)(hm:P.follows .mixedOrders=true)(d:S w.drew)(h:S w.drew->wpAnyH P .any ops (NoH Q df b) S ops.size (Array.replicate ops.size false) a w.drew):(Code.region g ops true).wpIn (Wd none) n P Q a w:=
 wpIn_mono (wpIn_region_any hm (zF _ _ _ _ (wpAny_of_held _ _ _ _ (h d)))) λe a w h=>by
  cases e<;>first | exact h | exact f _ _ _ h.1 h.2 | exact h.elim
end
end Go.Mv
namespace Go.Proofs.YteggfecbjgbndaaGreatDoor
open Go.RowKit Go.Mv
variable {x:List Ent} {fs:List Fil} {n:Nat} {G:Nat->Prop} {v:Value} {A B:World}
abbrev HC(A B:World):Prop:=Kept (λ_ o=>o.isCells=true) A B
theorem HC.of_ext(h:Ext A B):HC A B:=⟨h.size,λk _ hk _=>(h.block k (Pl.1 hk).1).trans hk⟩
theorem HC.keptG{b W W':World}(h:HC b W)(hk:Kept (am (KG G) n) W W')(c:∀k,G k->b.heap.size<=k):HC b W':=
 ⟨Pr h.size hk.size,λk o h1 h2=>hk.same k o (h.same k o h1 h2) (.inl ⟨h2,λhg=>by
   have:=c k hg;have:=(Pl.1 h1).1;omega⟩)⟩
theorem HC.cell{p:Addr}{u:Value}(h:HC A B)(hc:A.cell? p=L u):B.cell? p=L u:=by
 obtain⟨o,d,c⟩:=cells_of_cell hc;exact Kept.cell h hc (λe b=>by rw[d]at b;cases b;exact c)
theorem Fs.hc(h:Fs A v fs)(hk:HC A B):Fs B v fs:=by
 obtain⟨b,h1,h2⟩:=h;refine⟨b,h1.keep λ_ _ hc=>hk.cell hc,λi hi=>?_⟩;obtain⟨h3,u,h4,h5⟩:=h2 i hi;exact⟨h3,u,h4,SlR.keep h5 λ_ _ hc=>hk.cell hc⟩
theorem Sgs.hc{l:List Sg4}(h:Sgs A v l)(hk:HC A B):Sgs B v l:=h.keep λ_ _ hc=>hk.cell hc
theorem StW.hc (h:StW A) (hk:HC A B):StW B:=by
 refine ⟨fun i hi=>hk.cell (h.tab i hi),?_⟩;have h:=h.pow;unfold Lib.TabIs World.var? at *;cases hg:(H).globalNamed "internal/strconv.uint64pow10" with
 | none=>simp[hg] at h
 | some g =>
  simp only[hg,Option.bind_some] at h ⊢;cases ho:A.heap[g]? with
  | none=>simp[ho] at h
  | some o =>
   cases o with
   | cells cs t d=>rw[hk.same g _ ho rfl];simp only[ho] at h;exact h
   | _=>simp[ho] at h
theorem Blk.keptG{b:Nat}{t:TypeId}{cs:Array Value}(h:Blk A b t cs)(hk:Kept (am (KG G) n) A B)(c:¬G b):Blk B b t cs:=hk.same b _ h (.inl ⟨rfl,c⟩)
theorem OwnE.keptG{base:Nat}{l:List Ent}(h:OwnE A base v l)(hk:Kept (am (KG G) n) A B)(d:∀q,v.ownBlock=L q->¬G q):OwnE B base v l:=by
 refine⟨h.1,?_⟩;rcases h.2 with hn | ⟨g,cap,b,e,hb,c,rest⟩
 ·exact .inl hn
 ·exact .inr ⟨g,cap,b,e,hb,hk.same _ _ c (.inl ⟨rfl,d g (by rw[e];rfl)⟩),rest⟩
theorem Moves.of_ext{M:Nat->Obj->Prop}(h:Ext A B):Moves M A B:=⟨h.os,h.tape,h.output,h.size,λk _ hk _=>(h.block k (Pl.1 hk).1).trans hk⟩
theorem qc{s:Sg4}(h:bw fs s=L x):(s.count = -1->1<=x.length/\x.length<=4)/\(s.count≠-1->(x.length:Int)=s.count):=by
 unfold bw at h;cases hb:bu fs (aE 3 s.seq s.fmt)with
 |none=>rw[hb]at h;cases h
 |some b=>
  rw[hb]at h;dsimp only at h;split at h
  ·cases h
  ·split at h
   ·cases h
   ·split at h
    ·cases h
    ·rename_i hc;cases h;unfold dU at hc;simp only[Bool.or_eq_true,Bool.and_eq_true,decide_eq_true_eq]at hc;constructor
     ·intro h1;omega
     ·intro h1;omega
def fi(fs:List Fil)(index:Int):List Sg4->Int->List Ent->Option (Int×List Ent)
 |[],last,out=>some (last,out)
 | s::l,last,out=>match bw fs s with
  |none=>none
  |some x=>fi fs index l (if x.length=0 then last else s.first+x.length-1) (out++x.drop (index+1-s.first).toNat)
def fk(fs:List Fil)(m:Mf)(index:Int):List Ent×Bool:=match fi fs index m.segs (index+1) []with
 |none=>([],false)
 |some (last,out)=>(out,decide (index<last)&&(match m.segs with | []=>true | s::_=>decide (s.first<=index+1)))
def Cq(w:World)(r:List Ent×Bool)(e:Ending)(w':World):Prop:=∃v,e=.returned (.tuple #[v,z r.2])/\OwnE w' w.heap.size v r.1/\Ext w w'
theorem LV{first index:Int}{k:Nat}(hk:k<x.length):(x.take (k+1)).drop (index+1-first).toNat=(x.take k).drop (index+1-first).toNat++(if index<first+k then[x[k]]else[]):=by
 rw[List.take_succ_eq_append_getElem hk];by_cases h:index<first+k
 ·rw[if_pos h,List.drop_append_of_le_length (by rw[Pf];omega)]
 ·rw[if_neg h,Pi,Pd (by simp;omega),Pd (by rw[Pf];omega)]
def cy:Int->List Ent->List (Int×Ent)
 |_,[]=>[]
 |n,e::x=>(n,e)::cy (n+1) x
def aI(fs:List Fil):List Sg4->List (Int×Ent)×Bool
 |[]=>([],true)
 | s::l=>match bw fs s with
  |none=>([],false)
  |some x=>(cy s.first x++(aI fs l).1,(aI fs l).2)
def fC(index:Int)(b:Int×List Ent)(p:Int×Ent):Int×List Ent:=(p.1,if index<p.1 then b.2++[p.2]else b.2)
theorem Bo(index:Int):∀(x:List Ent) (first last:Int) (out:List Ent),(cy first x).foldl (fC index) (last,out)=(if x.length=0 then last else first+x.length-1,out++x.drop (index+1-first).toNat)
 |[],first,last,out=>by simp[cy]
 | e::x,first,last,out=>by
  rw[cy,Ph,show fC index (last,out) (first,e)=(first,if index<first then out++[e]else out)from rfl,Bo index x];have h1:(if x.length=0 then first else first+1+(x.length:Int)-1)=(if(e::x).length=0 then last else first+((e::x).length:Nat)-1):=by
   rw[if_neg (show ¬(e::x).length=0 by simp),xC];split<;>omega
  rw[h1];congr 1
  by_cases h:index<first
  ·rw[if_pos h,show(index+1-(first+1)).toNat=0 from by omega,show(index+1-first).toNat=0 from by omega,P0];rfl
  ·rw[if_neg h,show(index+1-first).toNat=(index+1-(first+1)).toNat+1 from by omega,List.drop_succ_cons]
theorem qk(fs:List Fil)(index:Int):∀(l:List Sg4) (last:Int) (out:List Ent),fi fs index l last out=if(aI fs l).2=true then some ((aI fs l).1.foldl (fC index) (last,out))else none
 |[],last,out=>by rw[fi,aI,if_pos rfl];rfl
 | s::l,last,out=>by
  rw[fi,aI];cases h:bw fs s with
  |none=>simp
  |some x=>
   dsimp only;rw[qk fs index l,List.foldl_append,Bo]
theorem oN:∀(x:List Ent) (n:Int),(cy n x).length=x.length
 |[],_=>rfl
 |_::x,n=>by rw[cy,xC,oN x,xC]
theorem rA:∀(x:List Ent) (n:Int) (k:Nat) (h:k<x.length),(cy n x)[k]?=L (n+k,x[k])
 |e::x,n,0,_=>by simp[cy]
 | e::x,n,k+1,h=>by
  rw[cy,Pb,rA x (n+1) k (by simpa using h)];rw[show n+1+(k:Int)=n+((k+1:Nat):Int) by omega];rfl
theorem MD(x:List Ent)(n:Int)(k:Nat)(h:k<x.length):(cy n x).take (k+1)=(cy n x).take k++[(n+k,x[k])]:=by
 have h1:=rA x n k h;rw[List.take_succ,h1];rfl
theorem rR(index:Int):∀(l:List (Int×Ent)) (st:Int×List Ent),(l.foldl (fC index) st).2.length<=st.2.length+l.length
 |[],_=>xN _
 | p::l,st=>by
  have:=rR index l (fC index st p);rw[Ph,xC];have h2:(fC index st p).2.length<=st.2.length+1:=by
   unfold fC;dsimp only;split<;>simp
  omega
theorem Ih(fs:List Fil)(l:List Sg4)(k:Nat)(h:k<l.length)(hk:(aI fs (l.take k)).2=true):aI fs (l.take (k+1))=match bw fs l[k]with
  |none=>((aI fs (l.take k)).1,false)
  |some x=>((aI fs (l.take k)).1++cy l[k].first x,true):=by
 induction l generalizing k with
 |nil=>simp at h
 |cons s l ih=>
  cases k with
  |zero=>
   simp only[P9,P2,P1,aI];cases bw fs s<;>simp
  |succ k=>
   simp only[P2,aI,Pc]at hk⊢;cases he:bw fs s with
   |none=>rw[he]at hk;cases hk
   |some x=>
    rw[he]at hk;dsimp only at hk⊢;rw[ih k (by simpa using h) hk];cases bw fs (l[k]'(by simpa using h))with
    |none=>rfl
    |some y=>simp[P0]
theorem Ms(fs:List Fil)(l:List Sg4)(k:Nat)(h:k<l.length)(hk:(aI fs (l.take k)).2=true)(he:bw fs l[k]=none):aI fs l=((aI fs (l.take k)).1,false):=by
 induction l generalizing k with
 |nil=>simp at h
 |cons s l ih=>
  cases k with
  |zero=>
   simp only[P1]at he;simp only[P9,aI,he]
  |succ k=>
   rw[P2]at hk⊢;rw[aI]at hk⊢;rw[aI];cases hs:bw fs s with
   |none=>simp[hs]at hk
   |some x=>
    rw[hs]at hk;dsimp only at hk⊢;rw[ih k (by simpa using h) hk he]
theorem Mt(fs:List Fil)(l:List Sg4)(k:Nat)(h:k<l.length)(hk:(aI fs (l.take k)).2=true)(he:bw fs l[k]=L x):∃H4,(aI fs l).1=(aI fs (l.take k)).1++cy l[k].first x++H4:=by
 induction l generalizing k with
 |nil=>simp at h
 |cons s l ih=>
  cases k with
  |zero=>
   simp only[P1]at he;refine⟨(aI fs l).1,?_⟩;simp only[P9,aI,he,P1,xI]
  |succ k=>
   rw[P2]at hk⊢;rw[aI]at hk⊢;rw[aI];cases hs:bw fs s with
   |none=>simp[hs]at hk
   |some y=>
    rw[hs]at hk;dsimp only at hk⊢;obtain⟨H4,b⟩:=ih k (by simpa using h) hk (by simpa using he);refine⟨H4,?_⟩;rw[b,Pc];simp only[P0]
def eI(fs:List Fil)(m:Mf):Option Sta:=if m.sq=0 then some ⟨0,0,0,1,false⟩else match bu fs (aE 4 m.sq m.sf)with | none=>none | some b=>di b m.sf
theorem pX(tmps:Array Value)(W:World)(b:Nat)(cs:Array Value)(u:Value)(h4:tmps.getD 4 undef=O (L ⟨b,0,U⟩))(h5:tmps.getD 5 undef=u)(hb:Blk W b 41 cs)(hs:cs.size=5):(results Tryz.f42 tmps).run H W=.ok (.tuple #[.agg cs,u]) W:=by
 have hl:=hb.load (P:=H) fN rfl (by rw[hs];kernel_rfl);have c:tmps[4]?.getD undef=O (L ⟨b,0,U⟩):=by simpa using h4
 have d:tmps[5]?.getD undef=u:=by simpa using h5
 simp[results,results42,c,d,asAddr,hl]
theorem oc{r:Option (List UInt8)}{b:List UInt8}(h:bu fs r=L b):∃f∈fs,f.2=b:=by
 unfold bu at h;split at h
 ·cases h
 ·cases hg:fs[(eb fs r).toNat]? with
  |none=>rw[hg]at h;cases h
  |some f=>
   rw[hg]at h;obtain rfl:f.2=b:=by simpa using h
   obtain⟨hi,rfl⟩:=Pa.1 hg;exact⟨_,Pg hi,rfl⟩
