/- Merged -/
import Derived.Test.YteggfecbjgbndaaGreatDoorZy16
import Derived.Test.YteggfecbjgbndaaGreatDoorZy17
import Derived.Test.YteggfecbjgbndaaGreatDoorZy18
set_option linter.all false
set_option maxHeartbeats 8000000
set_option maxRecDepth 100000
open Go.Proofs.Tryz
open List renaming length->U
open Go.Value renaming int->C,slice->H,string->M,pointer->N,bool->S,agg->T
open Go.IntKind renaming i64->E,u8->Q
open Go.Obj renaming cells->F
open Go.Mv renaming aN->G
open Go.Proofs.Tryz renaming prog->I
open Option renaming some->L,none->O
open Go.World renaming ownsRow_nil->P0
open Option renaming isSome->P1,getD->P2
open List renaming append_assoc->P3,length_nil->P4,append_toArray->P5,findIdx?_eq_some_iff_getElem->P6,size_toArray->P7,push_toArray->P8,length_take->P9,getElem_mem->Pa,cons_append->Pb,append_nil->Pc,getElem?_eq_some_iff->Pd,drop_eq_getElem_cons->Pe,drop_of_length_le->Pf,mem_of_getElem?->Pg,length_drop->Ph,drop_length->Pi,drop_zero->Pj,length->Pk
open Go.Value renaming slice->Pl,ownBlock->Pm
open Go.Mv.Blk renaming new->Pn
open Array renaming replicate_zero->Po,replicate_succ->Pp
open Go.IntKind renaming wrap_i64->Pq,i64->Pr
open Go.Oper renaming semAt_some->Ps
open Nat renaming reduceSub->Pu,reduceAdd->Pv,zero_add->Pw,le_trans->Px
namespace Go.Proofs.YteggfecbjgbndaaGreatDoor
open Go.RowKit Go.Mv Go.Shelf
variable {fs:List Fil} {k:Nat}
def bS(fs:List Fil)(n:List UInt8):Int:=match fs.findIdx? (λf=>f.1==n)with | none=>-1 | some i=>(i:Int)
def eb(fs:List Fil)(r:Option (List UInt8)):Int:=match r with | none=>-1 | some n=>bS fs n
theorem rW{n:List UInt8}(a:k<U fs)(h:fs[k].1=n)(hn:∀j (_:j<k) (h2:j<U fs),fs[j].1≠n):bS fs n=k:=by
 have:fs.findIdx? (λf=>f.1==n)=L k:=by
  rw[P6];exact⟨a,by simpa using h,λj a=>by simpa using hn j a (by omega)⟩
 unfold bS;rw[this]
theorem qQ{n:List UInt8}(hn:∀j (h2:j<U fs),fs[j].1≠n):bS fs n = -1:=by
 have:fs.findIdx? (λf=>f.1==n)=none:=by
  rw[List.findIdx?_eq_none_iff];intro x hx;obtain⟨j,a,rfl⟩:=List.mem_iff_getElem.1 hx;simpa using hn j a
 unfold bS;rw[this]
theorem Ey(v:Value)(fs:List Fil)(k s f:Int)(w:World)(z:StW w)(l:Fs w v fs)(hl:fs.length<=4000000):Calls I 89 #[v,T #[C Q k,C E s,C E f]] w λe w'=>e=.returned (C E (eb fs (aE k s f)))/\Ext w w':=by
 obtain⟨A,c,rfl,h1,h2⟩:=Fs.open_ l;have m:Ext w (w.alloc (F #[C Q k,C E s,C E f] 32)):=xA (xR _) _;have key:=qp k s f _ (z.ext m);obtain⟨r,D⟩:∃r,aE k s f=r:=⟨_,rfl⟩;rw[D]at key⊢;have t:=G key;have H:=G l;clear key D l z;cases r with
 |none=>
  go_enter func89,ntmps89
  go_wp2_with fail
  refine t.out.mono ?_;rintro e p⟨rfl,H1⟩;dsimp only[P1];go_wp2_with fail
  go_loopw [7] (λi wr=>i=C E 0/\p=wr) (λ_ _=>0)
  case atStart=>exact⟨rfl,rfl⟩
  case round=>
   obtain⟨rfl,rfl⟩:=hrel;go_wp2_with fail
   all_goals go_ret
   all_goals exact⟨rfl,xT m H1⟩
 |some n=>
  go_enter func89,ntmps89
  go_wp2_with fail
  refine t.out.mono ?_;rintro e p⟨rfl,H1⟩;dsimp only[P1,P2];have a:=xT m H1;go_wp2_with fail
  go_loopw [7] (λi wr=>∃j:Nat,j<=fs.length/\i=C E j/\Hid (∀q (_:q<j) (h2:q<fs.length),fs[q].1≠n)/\p=wr) (λi _=>fs.length-(intOf i).toNat)
  case atStart=>exact⟨0,by omega,rfl,λq o=>by omega,rfl⟩
  case round=>
   obtain⟨j,P,rfl,g,rfl⟩:=hrel;by_cases y:j<fs.length
   ·obtain⟨_,b,O,rfl,hc⟩:=(H.out.ext a).at_ (by omega);obtain⟨N,_⟩:=hc j y;have B:fs[j].1=n->eb fs (some n)=j:=λh=>rW y h g.out;have o:fs[j].1≠n->∀q (_:q<j+1) (h2:q<fs.length),fs[q].1≠n:=λh q h3 h2=>by
     by_cases e:q=j
     ·subst e;exact h
     exact g.out q (by omega) h2
    have J:=G B;have K:=G o;clear hc B o;generalize fs[j].1=x at *;simp only[sv]at N⊢;by_cases hx:x=n
    ·have M:(x==n)=true:=by simpa using hx
     have d:=G (J.out hx);go_wp2_with fail;go_ret;exact⟨by rw[d.out];rfl,a⟩
    have M:(x==n)=false:=by simpa using hx
    have L:=G (K.out hx);go_wp2_with fail
    go_roundw
    case rel=>exact⟨j+1,by omega,by go_num,L,trivial⟩
    case measure=>simp[intOf];omega
   ·obtain rfl:j=fs.length:=by omega
    have d:=G (show eb fs (some n) = -1 from qQ λq h2=>g.out q h2 h2);go_wp2_with fail;go_ret;exact⟨by rw[d.out];rfl,a⟩
def nmP:Nat->List Fil->List (Nat×List UInt8)
 |_,[]=>[]
 |k,f::l=>(k,f.1)::nmP (k+1) l
theorem so(h:k<U fs):nmP k (fs.drop k)=(k,fs[k].1)::nmP (k+1) (fs.drop (k+1)):=by
 rw[Pe h];rfl
theorem BI(l:List Fil):∀k,U (nmP k l)=U l:=by
 induction l with
 |nil=>intro k;rfl
 |cons f l ih=>intro k;simp[nmP,ih]
theorem BH:∀(k j:Nat) (h:k+j<U fs),(nmP k (fs.drop k))[j]?=L (k+j,fs[k+j].1):=by
 intro k j;induction j generalizing k with
 |zero=>intro h;rw[so (by omega)];rfl
 |succ j ih=>
  intro h;rw[so (by omega),List.getElem?_cons_succ,ih (k+1) (by omega)];simp only[Nat.add_assoc,Nat.add_comm 1 j]
theorem Hold.keptK{a A B:World}{K:Nat->Obj->Prop}{n:Nat}(h:Hold a A)(c:∀k o,k<a.heap.size->o.isCells=true->K k o)(d:Kept (am K n) A B):Hold a B:=λq u a=>
 d.cell (h q u a) λo d=>.inl (c _ o (World.block_lt_of_cell? _ _ a) (by
  obtain⟨c,b,hc⟩:=cells_of_cell (h q u a);rw[d]at b;cases b;exact hc))
attribute [local go_sem] Ps in
theorem tz(K:Nat->Obj->Prop)(p h:World)(v:Value)(fs:List Fil)(P:Fs p v fs)(K4:fs.length<=4000000)(hH:Hold p h)(B:Nat)(hB:Boxed h B 22 v)(Je:∀o:Obj,o.isCells=true->K B o)(Jf:∀k o,k<p.heap.size->o.isCells=true->K k o):
  Seq I 176 #[N (L ⟨B,0,O⟩)] (λ(x:Nat×List UInt8) av _=>av = #[C E x.1,sv x.2]) K (λ_ _=>False) (nmP 0 fs) h:=by
 intro l J Jx hJ Jz s h0;obtain⟨A,c,rfl,Hs,HB⟩:=Fs.open_ P;refine(callsIn_wd (ro:=none) (n:=9)).1 ?_;refine callsIn_of_wp func176 rfl trivial ?_ rfl;simp only[ntmps176,P7,xC,P4,Pv,Pu,Pp,Po,P8,P5,xI,Pb];have Kb:=G P;clear P;obtain⟨a,w⟩:∃a,nmP 0 fs=a:=⟨_,rfl⟩;rw[w]at s⊢;have HA:=G w;have c1:=hB.cell;clear w;gi_wp2;clear c1;gi_loopw [7] (λj W=>∃(k:Nat) (d:List (Nat×List UInt8)),j=C E k/\k<=fs.length/\Hid (a=d++nmP k (fs.drop k))/\Hid (J d W)/\Hold p W/\Boxed W B 22 (H A fs.length c)/\h.heap.size<=W.heap.size) (λj _=>fs.length+1-(intOf j).toNat)
 case atStart=>exact⟨0,[],rfl,by omega,HA.out.symm,h0,hH,hB,xN _⟩
 case round=>
  obtain⟨k,d,rfl,Kz,t,T,S,bB,Kh⟩:=hrel;by_cases Q:k<fs.length
  ·obtain⟨_,b,R,rfl,hc⟩:=(Kb.out.keep S).at_ (by omega);obtain⟨y,g,i,X,_⟩:=hc k Q;have f:=t.out;rw[so Q]at f;have D:=G f;have J7:=G s;clear hc f s;generalize fs[k].2.length=m2 at *;generalize fs[k].1=x at *;simp only[sv]at y;have r:Ext wr (wr.alloc (F #[sv x,H g m2 i] 68)):=xA (xR _) _;have Z:=hJ d wr (wr.alloc (F #[sv x,H g m2 i] 68)) T.out (Moves.refl.alloc _);have U:=Px Kh r.size;have Hx:Boxed (wr.alloc (F #[sv x,H g m2 i] 68)) B 22 (H (L ⟨b,R,O⟩) fs.length c):=bB.kept (row:=none) (Ext.grown r none) (by simp);have Y:Hold p (wr.alloc (F #[sv x,H g m2 i] 68)):=λq u hq=>Ext.cell r (S q u hq);have hy:=J7.out d (k,x) _ D.out _ #[C E (k:Int),sv x] Z U rfl;have V:=G hy;have J1:=G Y;have M:=Pn wr 68 #[sv x,H g m2 i];have g0:=M.cell 0 rfl;have g1:=M.cell 1 rfl;clear hy Z Y r M;simp only[sv]at *;gi_wp2;refine ew V.out ?_;rintro e W' ⟨K3,⟨rfl,m⟩|⟨rfl,m⟩⟩
   ·refine⟨true,rfl,?_⟩;have d1:Boxed W' B 22 (H (L ⟨b,R,O⟩) fs.length c):=K3.boxed Hx (.inl (Je _ rfl));have Jl:h.heap.size<=W'.heap.size:=Px U K3.size;have J2:=G (Hold.keptK J1.out Jf K3);have z:=G m;have KY:a=(d++[(k,x)])++nmP (k+1) (fs.drop (k+1)):=by rw[P3];exact D.out
    have HW:=G KY;clear m K3 g0 g1 KY V y X;gi_wp2;exact⟨⟨k+1,d++[(k,x)],by go_num,by omega,HW.out,z.out,J2.out,d1,Jl⟩,by simp[intOf];omega⟩
   refine⟨false,rfl,?_⟩;have z:=G m;clear m K3 g0 g1 y X;gi_wp2;refine bodyPost_ret (results_none rfl _ _ _) rfl ?_;refine⟨⟨_,rfl⟩,.inr ⟨d++[(k,x)],?_,z.out⟩⟩;exact⟨nmP (k+1) (fs.drop (k+1)),by rw[P3];exact D.out.symm⟩
  ·obtain rfl:k=fs.length:=by omega
   have f:=t.out;rw[Pi,show nmP fs.length ([]:List Fil)=[]from rfl,Pc]at f;subst f;clear t s;gi_wp2;refine bodyPost_end (results_none rfl _ _ _) rfl ?_;exact⟨⟨_,rfl⟩,.inl T.out⟩
theorem DI(c a:World)(v:Value)(fs:List Fil)(g:Fs c v fs)(e:U fs<=4000000)(h:Hold c a)(B b:Nat)(f:Boxed a B 22 v)(d:B≠b)(h1:c.heap.size<=b):
  Seq I 176 #[N (L ⟨B,0,O⟩)] (λ(x:Nat×List UInt8) av _=>av = #[C E x.1,sv x.2]) (λk o=>k≠b/\o.isCells=true) (λ_ _=>False) (nmP 0 fs) a:=
 tz (λk o=>k≠b/\o.isCells=true) c a v fs g e h B f (λ_ a=>⟨d,a⟩) (λ_ _ b a=>⟨by omega,a⟩)
theorem yC(A:Option Addr)(n c:Nat)(w:World):Calls I 116 #[H A n c] w λe w'=>e=.returned (.func (.func 176) #[] #[N (L ⟨w.heap.size,0,O⟩)])/\w.alloc (F #[H A n c] 22)=w':=by
 go_enter func116,ntmps116
 go_wp2;go_ret;exact⟨rfl,rfl⟩
def FiI(w:World)(b:Nat)(n:List UInt8)(a:List (Nat×List UInt8))(X:World):Prop:=(∀x∈a,x.2≠n)/\(∃v,Boxed X (w.heap.size+1) 3 v)/\Boxed X b 9 (M ⟨n.toArray⟩)/\Ext w X
def FiX(w:World)(n:List UInt8)(a:Code)(b:List (Nat×List UInt8))(X:World):Prop:=a=Code.ret/\∃(a:List (Nat×List UInt8)) (k:Nat),b=a++[(k,n)]/\(∀x∈a,x.2≠n)/\Boxed X (w.heap.size+1) 3 (C E (k:Int))/\Ext w X
theorem yq(k s f:Int)(w:World):Boxed ((w.alloc (F #[C Q k,C E s,C E f] 32)).alloc (F #[C E 0] 3)) (w.heap.size+1) 3 (C E 0):=by
 have:=Boxed.new (w.alloc (F #[C Q k,C E s,C E f] 32)) 3 (C E 0);rwa[xS]at this
theorem rP(tmps:Array Value)(W:World)(b:Nat)(u:Value)(h4:tmps.getD 4 undef=N (L ⟨b,0,O⟩))(hc:W.cell? ⟨b,0,O⟩=L u)(a:∃n,u=C E n):(results Tryz.f82 tmps).run I W=.ok u W:=by
 obtain⟨n,rfl⟩:=a;have a:tmps[4]?.getD undef=N (L ⟨b,0,O⟩):=by simpa using h4
 simp[results,results82,a,hc,go_sem]
attribute [local go_sem] Ps in
theorem Iy(v:Value)(fs:List Fil)(k s f:Int)(w:World)(d:StW w)(a:Fs w v fs)(hn:aE k s f=none):Calls I 82 #[v,T #[C Q k,C E s,C E f]] w λe w'=>e=.returned (C E (-1))/\Ext w w':=by
 obtain⟨A,c,rfl,h1,h2⟩:=Fs.open_ a;have b:Ext w ((w.alloc (F #[C Q k,C E s,C E f] 32)).alloc (F #[C E 0] 3)):=xA (xA (xR _) _) _;have key:=lG k s f _ (d.ext b);rw[hn]at key;have d:Calls I 50 #[T #[C Q k,C E s,C E f]] ((w.alloc (F #[C Q k,C E s,C E f] 32)).alloc (F #[C E 0] 3)) (λe w'=>e=.returned (.tuple #[M ⟨#[]⟩,C E 2])/\Ext ((w.alloc (F #[C Q k,C E s,C E f] 32)).alloc (F #[C E 0] 3)) w'):=key;have a:=G d;have g:=yq k s f w;refine(callsIn_wd (ro:=none) (n:=9)).1 ?_;refine callsIn_of_wp_marks func82 rfl trivial ?_ rfl;simp only[ntmps82,P7,xC,P4,Pv,Pu,Pp,Po,P8,P5,xI,Pb];gi_wp2_with (refine⟨trivial,?_⟩;gi_at_call 50;refine(callsIn_wd.2 a.out).mono ?_;rintro e a⟨rfl,H1⟩;have a:=(g.kept (row:=none) (Ext.grown H1 none) (by simp)).alloc (F #[M ⟨#[]⟩] 9);have d:=a.cell;have d:=a.frozen)
 have d:=a.set (C E (-1));refine fp (C E (-1)) (rP _ _ _ _ rfl d.cell ⟨_,rfl⟩) ?_;exact⟨rfl,Below.setCell (p:=⟨w.heap.size+1,0,O⟩) (xA (xT b H1) _) (by show w.heap.size<=w.heap.size+1;omega) _⟩
attribute [local go_sem] Ps in
theorem Iz(v:Value)(fs:List Fil)(k s f:Int)(w:World)(R:StW w)(D:Fs w v fs)(hl:U fs<=4000000)(n:List UInt8)(hn:aE k s f=L n):Calls I 82 #[v,T #[C Q k,C E s,C E f]] w λe w'=>e=.returned (C E (bS fs n))/\Ext w w':=by
 obtain⟨A,c,rfl,h1,h2⟩:=Fs.open_ D;have K:Ext w ((w.alloc (F #[C Q k,C E s,C E f] 32)).alloc (F #[C E 0] 3)):=xA (xA (xR _) _) _;have key:=lG k s f _ (R.ext K);rw[hn]at key;have Z:Calls I 50 #[T #[C Q k,C E s,C E f]] ((w.alloc (F #[C Q k,C E s,C E f] 32)).alloc (F #[C E 0] 3)) (λe w'=>e=.returned (.tuple #[M ⟨n.toArray⟩,C E 0])/\Ext ((w.alloc (F #[C Q k,C E s,C E f] 32)).alloc (F #[C E 0] 3)) w'):=key;have R:=G Z;have q0:=yq k s f w;have V:=G D;refine(callsIn_wd (ro:=none) (n:=9)).1 ?_;refine callsIn_of_wp_marks func82 rfl trivial ?_ rfl;simp only[ntmps82,P7,xC,P4,Pv,Pu,Pp,Po,P8,P5,xI,Pb];gi_wp2_with (first
  |(refine⟨trivial,?_⟩;gi_at_call 50;refine(callsIn_wd.2 R.out).mono ?_;rintro e d⟨rfl,H1⟩;have y:=(q0.kept (row:=none) (Ext.grown H1 none) (by simp)).alloc (F #[M ⟨n.toArray⟩] 9);have D:=y.cell;have D:=y.frozen)
  |(refine⟨trivial,?_⟩;gi_at_call 116;refine(callsIn_wd.2 (yC _ _ _ _)).mono ?_;rintro e w' ⟨rfl,rfl⟩))
 have D:w.heap.size+2<=d.heap.size:=by have:=H1.size;simp at this;omega
 have q3:Boxed ((d.alloc (F #[M ⟨n.toArray⟩] 9)).alloc (F #[H A fs.length c] 22)) (d.heap.size+1) 22 (H A fs.length c):=by
  have:=Boxed.new (d.alloc (F #[M ⟨n.toArray⟩] 9)) 22 (H A fs.length c);rwa[xS]at this
 have B:Ext w ((d.alloc (F #[M ⟨n.toArray⟩] 9)).alloc (F #[H A fs.length c] 22)):=xA (xA (xT K H1) _) _;have h0:FiI w d.heap.size n [] ((d.alloc (F #[M ⟨n.toArray⟩] 9)).alloc (F #[H A fs.length c] 22)):=⟨λx h=>(by cases h),⟨_,y.alloc _⟩,(Boxed.new d _ _).alloc _,B⟩;have y:d.heap.size+2=((d.alloc (F #[M ⟨n.toArray⟩] 9)).alloc (F #[H A fs.length c] 22)).heap.size:=by simp
 generalize(d.alloc (F #[M ⟨n.toArray⟩] 9)).alloc (F #[H A fs.length c] 22)=w3 at *;refine dV (a:=⟨_,_⟩) rfl (enters_of func176 (by kernel_rfl) rfl)
  (λW1 hb hs=>DI w W1 _ fs V hl (λq u r=>Ext.cell (xT B hb) r) (d.heap.size+1) (w.heap.size+1) (q3.kept (row:=none) (Ext.grown hb none) (by simp)) (by omega) (by omega))
  (λk o h=>h.elim) (λk o h=>h.2) (λx av W h=>by rw[h];rfl)
  (FiI w d.heap.size n) (FiX w n) ?hI ?hIx h0
  (λx a' _=>a'=⟨#[H A fs.length c,T #[C Q k,C E s,C E f],undef,N (L ⟨w.heap.size,0,O⟩),N (L ⟨w.heap.size+1,0,O⟩),N (L ⟨d.heap.size,0,O⟩),C E 0,C E x.1,sv x.2,
    .tuple #[M ⟨n.toArray⟩,C E 0],T #[C Q k,C E s,C E f],.tuple #[M ⟨n.toArray⟩,C E 0],M ⟨n.toArray⟩,C E 0,C E 0,S false,H A fs.length c,
    .func (.func 176) #[] #[N (L ⟨d.heap.size+1,0,O⟩)],C E x.1,sv x.2,undef,undef,undef,undef],[]⟩)
  (λ_ _ _ _ h _=>h) ?assign ?body ?done ?stop
 case hI=>
  rintro s X Y⟨g,⟨v,b⟩,hs,i⟩hm;refine⟨g,⟨v,hm.boxed b ?_⟩,hm.boxed hs ?_,hm.belowOf i ?_ (Px (by omega) (xN _))⟩
  ·rintro(h | h)
   ·exact h
   cases h.2
  ·rintro(h | h)
   ·exact h
   cases h.2
  rintro k o hk(h | h)
  ·exact h
  have:=h.1;omega
 case hIx=>
  rintro cd s X Y⟨rfl,l,j,rfl,g,b,i⟩hm;refine⟨rfl,l,j,rfl,g,hm.boxed b ?_,hm.belowOf i ?_ (xN _)⟩
  ·rintro(h | h)
   ·exact h
   cases h.2
  rintro k o hk(h | h)
  ·exact h
  have:=h.1;omega
 case assign=>
  rintro l' t x J W av d hx hi Kh rfl m;gi_wp2;exact m _ _ Kept.refl hi rfl
 case body=>
  rintro l' t⟨j,x⟩J a' W hx d d⟨g,⟨v,b⟩,hs,i⟩Kh rfl;have hc:=b.cell;have hf:=b.frozen;have d:=hs.cell;simp only[sv];by_cases he:x=n
  ·have Jh:(x==n)=true:=by simpa using he
   have z:=G he;gi_wp2;refine⟨Kept.refl.setCell (λo P _=>?_) _,rfl,t,j,by rw[z.out],g,b.set _,Below.setCell (p:=⟨w.heap.size+1,0,O⟩) i (by show w.heap.size<=w.heap.size+1;omega) _⟩;rw[show W.heap[w.heap.size+1]?=_ from b]at P;cases P;rintro(⟨h,_⟩|⟨_,h⟩)
   ·exact h rfl
   cases h
  have Jh:(x==n)=false:=by simpa using he
  have z:=G he;gi_wp2;refine⟨Kept.refl,λy d=>?_,⟨v,b⟩,hs,i⟩;rcases List.mem_append.1 d with h | h
  ·exact g y h
  rcases List.mem_singleton.1 h with rfl
  exact z.out
 case done=>
  rintro D W hD⟨g,⟨v,b⟩,hs,i⟩m;have hc:=b.cell;have hf:=b.frozen;gi_wp2;have y:=b.set (C E (-1));have d:=dK m rfl ⟨w.heap.size+1,0,O⟩ (C E (-1));have Kw:=fL y.cell d rfl (.deferred none);refine dh d (C E (-1)) (rP _ _ _ _ rfl Kw ⟨_,rfl⟩) ?_;refine⟨?_,cp (Below.setCell (p:=⟨w.heap.size+1,0,O⟩) i (by show w.heap.size<=w.heap.size+1;omega) _) _⟩;rw[qQ];intro q r he;refine g (q,fs[q].1) ?_ he;have:=BH (fs:=fs) 0 q (by omega);simp only[Pw,Pj]at this;exact Pg this
 case stop=>
  rintro D cd t W hD KB⟨rfl,l,j,rfl,g,b,i⟩m;have Kw:=fL b.cell m rfl (.deferred none);gi_wp2;refine dh m (C E (j:Int)) (rP _ _ _ _ rfl Kw ⟨_,rfl⟩) ?_;refine⟨?_,cp i _⟩;obtain⟨J,b⟩:=KB;have i:∀q,(r:q<U fs)->(nmP 0 fs)[q]?=L (q,fs[q].1):=λq r=>by
   have:=BH (fs:=fs) 0 q (by omega);simpa only[Pw,Pj]using this
  have d:U l<U fs:=by
   have:=congrArg Pk b;rw[BI]at this;simp at this;omega
  have m:=i l.length d;rw[<-b,P3,List.getElem?_append_right (xN _),Nat.sub_self]at m;have h8:(j,n)=(U l,fs[U l].1):=Option.some.inj m;injection h8 with h7 h6
  rw[h7,rW d h6.symm];intro q r h2 he;have h5:=i q h2;rw[<-b,P3,List.getElem?_append_left r]at h5;exact g _ (Pg h5) he
theorem MX(v:Value)(fs:List Fil)(k s f:Int)(w:World)(b:StW w)(a:Fs w v fs)(hl:U fs<=4000000):Calls I 82 #[v,T #[C Q k,C E s,C E f]] w λe w'=>e=.returned (C E (eb fs (aE k s f)))/\Ext w w':=by
 cases hn:aE k s f with
 |none=>exact Iy v fs k s f w b a hn
 |some n=>exact Iz v fs k s f w b a hl n hn
open Go.RowKit Go.Mv
def bu(fs:List Fil)(r:Option (List UInt8)):Option (List UInt8):=if eb fs r<0 then none else(fs[(eb fs r).toNat]?).map (·.2)
def Ot(w:World)(r:Option (List UInt8))(e:Ending)(w':World):Prop:=∃v,e=.returned (.tuple #[v,S r.isSome])/\Bs w' v (r.getD [])/\Ext w w'
theorem AD(fs:List Fil)(r:Option (List UInt8))(h:¬eb fs r<0):∃i:Nat,eb fs r=(i:Int)/\i<U fs:=by
 unfold eb at h⊢;cases r with
 |none=>exact absurd (show((-1:Int)<0) by decide) h
 |some n=>
  dsimp only at h⊢;unfold bS at h⊢;cases hf:fs.findIdx? (λf=>f.1==n)with
  |none=>rw[hf]at h;exact absurd (show((-1:Int)<0) by decide) h
  |some i=>
   refine⟨i,rfl,?_⟩;rw[P6]at hf;exact hf.1
theorem pO(v:Value)(fs:List Fil)(k s f:Int)(w:World)(j:StW w)(g:Fs w v fs)(hl:U fs<=4000000):Calls I 40 #[v,T #[C Q k,C E s,C E f]] w (Ot w (bu fs (aE k s f))):=by
 obtain⟨A,c,rfl,h1,h2⟩:=Fs.open_ g;have l:Ext w (w.alloc (F #[C Q k,C E s,C E f] 32)):=xA (xR _) _;have key:=Ey _ fs k s f _ (j.ext l) (g.ext l) hl;obtain⟨r,j⟩:∃r,aE k s f=r:=⟨_,rfl⟩;rw[j]at key⊢;have o:=AD fs r;obtain⟨R,j⟩:∃R,bu fs r=R:=⟨_,rfl⟩;rw[j];unfold bu at j;have m:=G j;have d:=G o;have j:=G key;have p:=G g;have hb:=Pn w 32 #[C Q k,C E s,C E f];generalize eb fs r=at_ at *;have d:Hid (¬at_<0->∃i:Nat,at_=(i:Int)/\i<U fs):=G (λh=>d.out (by first | exact h | omega));go_enter func40,ntmps40
 go_wp2_with fail
 refine j.mono ?_;rintro e g⟨rfl,H1⟩;have a:=xT l H1;by_cases hn:at_<0
 ·have:R=none:=by rw[<-m.out,if_pos hn]
  subst this;go_wp2_with fail
  go_ret2;exact⟨_,rfl,SlR.nil _ 1,a⟩
 ·obtain⟨i,rfl,n⟩:=d (by omega);have:R=L fs[i].2:=by rw[<-m.out,if_neg hn,Int.toNat_natCast,List.getElem?_eq_getElem n];rfl
  subst this;obtain⟨_,b,d,rfl,hc⟩:=(p.ext a).at_ (by omega);obtain⟨_,d,d,d,d⟩:=hc i n;have g:=G d;have d:(i:Int)<(U fs:Int):=by omega
  generalize fs[i].2=bb at *;go_wp2_with fail
  go_ret2;exact⟨_,rfl,g.out,a⟩
theorem mcRd3a0{P:Prop}(h:P:=by
 obtain⟨f0,f1,f2,f3,f4⟩:=bR hb3;obtain⟨g0,g1,g2,g3,g4⟩:=ae hb3;obtain⟨p0,p1,p2,p3,p4⟩:=ae KJ;go_wp2_with fail
 refine bodyPost_ret (pX _ _ _ _ _ rfl rfl (cB hb3 _ _ _ _ _) rfl) rfl ?_;exact⟨rfl,cC (xA Ka _) (by omega) _ _ _ _ _⟩):P:=h
def eI(fs:List Fil)(m:Mf):Option Sta:=if m.sq=0 then some ⟨0,0,0,1,false⟩else match bu fs (aE 4 m.sq m.sf)with | none=>none | some b=>di b m.sf
theorem pX(tmps:Array Value)(W:World)(b:Nat)(cs:Array Value)(u:Value)(h4:tmps.getD 4 undef=N (L ⟨b,0,O⟩))(h5:tmps.getD 5 undef=u)(hb:Blk W b 41 cs)(hs:cs.size=5):(results Tryz.f42 tmps).run I W=.ok (.tuple #[.agg cs,u]) W:=by
 have hl:=hb.load (P:=I) fN rfl (by rw[hs];kernel_rfl);have c:tmps[4]?.getD undef=N (L ⟨b,0,O⟩):=by simpa using h4
 have a:tmps[5]?.getD undef=u:=by simpa using h5
 simp[results,results42,c,a,asAddr,hl]
theorem oc{r:Option (List UInt8)}{b:List UInt8}(h:bu fs r=L b):∃f∈fs,f.2=b:=by
 unfold bu at h;split at h
 ·cases h
 ·cases hg:fs[(eb fs r).toNat]? with
  |none=>rw[hg]at h;cases h
  |some f=>
   rw[hg]at h;obtain rfl:f.2=b:=by simpa using h
   obtain⟨a,rfl⟩:=Pd.1 hg;exact⟨_,Pa a,rfl⟩
theorem EL(v vs:Value)(fs:List Fil)(m:Mf)(w:World)(X:StW w)(D:Fs w v fs)(W:Sgs w vs m.segs)(hl:U fs<=4000000)(l:∀f∈fs,U f.2<=2000000):
  Calls I 42 #[v,T #[C E m.next,C E m.term,C E m.vote,C E m.sq,C E m.sf,vs]] w (sO w (eI fs m)):=by
 obtain⟨A,c,rfl,_,_⟩:=Fs.open_ D;obtain⟨B,d,rfl,_,_⟩:=W.open_;obtain⟨J,Jo⟩:∃x:Array Value,#[C E m.next,C E m.term,C E m.vote,C E m.sq,C E m.sf,H B m.segs.length d]=x:=⟨_,rfl⟩;obtain⟨K,Jp⟩:∃x:Array Value,#[C E 0,C E 0,C E 0,C E 0,S false]=x:=⟨_,rfl⟩;have P:=Pn w 30 J;have t:=P.alloc (F K 41);have j:=Pn (w.alloc (F J 30)) 41 K;rw[xS]at j;have o:Ext w ((w.alloc (F J 30)).alloc (F K 41)):=xA (xA (xR _) _) _;subst Jo Jp;have key:=pO _ fs 4 m.sq m.sf _ (X.ext o) (D.ext o) hl;obtain⟨R,g⟩:∃R,eI fs m=R:=⟨_,rfl⟩;rw[g];unfold eI at g;have p:∀b,bu fs (aE 4 m.sq m.sf)=L b->U b<=2000000:=λb h=>by
  obtain⟨f,hf,rfl⟩:=oc h;exact l f hf
 obtain⟨rb,Q⟩:∃r,bu fs (aE 4 m.sq m.sf)=r:=⟨_,rfl⟩;rw[Q]at key g p;obtain⟨Z,m1,m2,m3,m4,m5⟩:=aj t;have Hm:=G t;have Hr:=G j;have N:=G o;have M:=G key;have Kq:=G p;clear P t o key D X W l p Q;go_enter func42,ntmps42
 by_cases i:m.sq=0
 ·rw[if_pos i]at g;subst g;have Jk:(m.sq==0)=true:=by simpa using i
  have JH:=G i;clear i M;go_wp2_with fail
  refine(nX _).mono ?_;rintro e w1⟨rfl,H1⟩;have a:=G (j.ext H1);have n:=G (xT N H1);obtain⟨f0,f1,f2,f3,f4⟩:=bR a.out;obtain⟨g0,g1,g2,g3,g4⟩:=ae a.out;clear j Z m1 m2 m3 m4 m5;go_wp2_with fail
  refine bodyPost_ret (pX _ _ _ _ _ rfl rfl (cB a _ _ _ _ _) rfl) rfl ?_;exact⟨rfl,cC n (by omega) _ _ _ _ _⟩
 ·rw[if_neg i]at g;have Jk:(m.sq==0)=false:=by simpa using i
  have q:=G g;have Hq:=G i;clear g j i;go_wp2_with fail
  refine M.mono ?_;rintro e w1⟨v1,rfl,z,H1⟩;have a:=G (Hr.ext H1);have J6:=G (Hm.ext H1);have n:=G (xT N H1);obtain⟨f0,f1,f2,f3,f4⟩:=bR a.out;obtain⟨g0,g1,g2,g3,g4⟩:=ae a.out;obtain⟨p0,p1,p2,p3,p4,p5⟩:=aj J6.out;clear Z m1 m2 m3 m4 m5 H1;cases rb with
  |none=>
   obtain rfl:none=R:=q.out;dsimp only[P1];go_wp2_with fail
   refine bodyPost_ret (pX _ _ _ _ _ rfl rfl (cB a _ _ _ _ _) rfl) rfl ?_;exact⟨rfl,cC n (by omega) _ _ _ _ _⟩
  |some b=>
   have l:=Kq b rfl;dsimp only[P1,P2]at z⊢;have H8:=II v1 b m.sf w1 z l;have y:Hid (di b m.sf=R):=q;obtain⟨r,Y⟩:∃r,di b m.sf=r:=⟨_,rfl⟩;rw[Y]at H8 y;obtain rfl:r=R:=y.out;have HL:=G H8;clear H8 Y q z y;go_wp2_with fail
   refine HL.mono ?_;rintro e w2⟨h2,O⟩;have V:=G (a.ext O);have Ka:=G (xT n O);clear f0 f1 f2 f3 f4 g0 g1 g2 g3 g4 p0 p1 p2 p3 p4 p5;cases r with
   |none=>
    obtain rfl:=h2;have KJ:=Pn w2 41 #[C E 0,C E 0,C E 0,C E 0,S false];have hb3:=V.alloc (F #[C E 0,C E 0,C E 0,C E 0,S false] 41);exact mcRd3a0
   |some s=>
    obtain rfl:=h2;have KJ:=Pn w2 41 #[C E s.idx,C E s.term,C E s.sum,C E s.lvl,S s.fin];have hb3:=V.alloc (F #[C E s.idx,C E s.term,C E s.sum,C E s.lvl,S s.fin] 41);exact mcRd3a0
def dU(n:Nat)(a:Int):Bool:=(decide (a = -1)&&(decide (n<1)||decide (4<n)))||(decide (a≠-1)&&decide ((n:Int)≠a))
def bw(fs:List Fil)(s:Sg4):Option (List Ent):=match bu fs (aE 3 s.seq s.fmt)with
 |none=>none
 |some b=>if(bY rT b s.fmt).err≠0 then none else if(bY rT b s.fmt).first≠s.first then none else if dU (bY rT b s.fmt).log.length s.count=true then none else some (bY rT b s.fmt).log
def sQ(w:World)(r:Option (List Ent))(e:Ending)(w':World):Prop:=∃v,e=.returned (.tuple #[v,C E (if r.isSome then 0 else 130)])/\OwnE w' w.heap.size v (r.getD [])/\Ext w w'
theorem yB{r:Option (List UInt8)}{b:List UInt8}(h:bu fs r=L b):∃f∈fs,f.2=b:=by
 unfold bu at h;split at h
 ·cases h
 ·cases hg:fs[(eb fs r).toNat]? with
  |none=>rw[hg]at h;cases h
  |some f=>
   rw[hg]at h;obtain rfl:f.2=b:=by simpa using h
   obtain⟨a,rfl⟩:=Pd.1 hg;exact⟨_,Pa a,rfl⟩
theorem tC(v:Value)(fs:List Fil)(s:Sg4)(w:World)(X:StW w)(K:Fs w v fs)(hl:U fs<=4000000)(n:∀f∈fs,U f.2<=2000000):Calls I 16 #[v,T #[C E s.seq,C E s.fmt,C E s.first,C E s.count]] w (sQ w (bw fs s)):=by
 obtain⟨A,c,rfl,h1,h2⟩:=Fs.open_ K;have o:Ext w (w.alloc (F #[C E s.seq,C E s.fmt,C E s.first,C E s.count] 36)):=xA (xR _) _;have z:=Pn w 36 #[C E s.seq,C E s.fmt,C E s.first,C E s.count];have key:=pO _ fs 3 s.seq s.fmt _ (X.ext o) (K.ext o) hl;obtain⟨R,l⟩:∃R,bw fs s=R:=⟨_,rfl⟩;rw[l];unfold bw at l;have q:∀b,bu fs (aE 3 s.seq s.fmt)=L b->U b<=2000000:=λb h=>by
  obtain⟨f,hf,rfl⟩:=yB h;exact n f hf
 obtain⟨Y,K⟩:∃r,bu fs (aE 3 s.seq s.fmt)=r:=⟨_,rfl⟩;rw[K]at key l q;have t:=G l;have l:=G key;obtain⟨K,K,K,K⟩:=aM z;go_enter func16,ntmps16
 go_wp2_with fail
 refine l.mono ?_;rintro e w1⟨Z,rfl,y,H1⟩;have K:=xT o H1;have l:=z.ext H1;obtain⟨o,o,o,o⟩:=aM l;have N:=G l;have g:=G K;cases Y with
 |none=>
  obtain rfl:none=R:=t.out;dsimp only[P1];go_wp2_with fail
  go_ret2;exact⟨_,rfl,P0 _ _ _ _,g.out⟩
 |some b=>
  have n:=q b rfl;dsimp only[P1,P2]at y⊢;have H8:=Dj Z b s.fmt w1 y n;have i:Hid ((if(bY rT b s.fmt).err≠0 then none else if(bY rT b s.fmt).first≠s.first then none else if dU (bY rT b s.fmt).log.length s.count=true then none else some (bY rT b s.fmt).log)=R):=t;obtain⟨r,l⟩:∃r,bY rT b s.fmt=r:=⟨_,rfl⟩;rw[l]at H8 i;have l:=G H8;go_wp2_with fail
  refine l.mono ?_;rintro e m⟨vl,rfl,B,x⟩;generalize((r.first:Nat):Int)=rf at *;have W:Es m vl r.log:=xW B;obtain⟨p,J,rfl,_,_⟩:=xO W;have Kb:=G B;have n:=N.ext x;have l:Ext m (m.alloc (F #[C E rf,H p r.log.length J,C E r.used] 90)):=xA (xR _) _;obtain⟨o,o,o,o⟩:=aM (n.ext l);have d:=G (xT g (xT x l));have D:=G l;have l:=Pn m 90 #[C E rf,H p r.log.length J,C E r.used];obtain⟨m,m,m,_,_,_⟩:=au l;by_cases he:r.err=0
  case neg=>
   obtain rfl:none=R:=by rw[<-i.out,if_pos he]
   have l:(r.err != 0)=true:=by simpa using he
   go_wp2_with fail
   go_ret2;exact⟨_,rfl,P0 _ _ _ _,d.out⟩
  have l:(r.err != 0)=false:=by simpa using he
  by_cases hf:rf=s.first
  case neg=>
   obtain rfl:none=R:=by rw[<-i.out,if_neg (λh=>h he),if_pos hf]
   go_wp2_with fail
   go_ret2;exact⟨_,rfl,P0 _ _ _ _,d.out⟩
  have Hl:Hid ((if dU r.log.length s.count=true then none else some r.log)=R):=G (by have h:=i.out;rw[if_neg (λh=>h he),if_neg (λh=>h hf)]at h;exact h);subst hf;by_cases a:s.count = -1
  ·have O:(s.count == -1)=true:=by simpa using a
   have P:(s.count != -1)=false:=by simpa using a
   by_cases n1:U r.log<1
   ·have S:(U r.log:Int)<1:=by omega
    obtain rfl:none=R:=by rw[<-Hl.out,if_pos (by unfold dU;simp[a];left;simpa using n1)]
    go_wp2_with fail
    go_ret2;exact⟨_,rfl,P0 _ _ _ _,d.out⟩
   have S:¬(U r.log:Int)<1:=by omega
   by_cases M:4<U r.log
   ·have V:(4:Int)<(U r.log:Int):=by omega
    obtain rfl:none=R:=by rw[<-Hl.out,if_pos (by unfold dU;simp[a,M])]
    go_wp2_with fail
    go_ret2;exact⟨_,rfl,P0 _ _ _ _,d.out⟩
   have V:¬(4:Int)<(U r.log:Int):=by omega
   obtain rfl:some r.log=R:=by rw[<-Hl.out,if_neg (by unfold dU;rw[decide_eq_false n1,decide_eq_false M];simp[a])]
   go_wp2_with fail
   go_ret2;exact⟨_,rfl,ay (ai Kb D.out) g.size,d.out⟩
  ·have O:(s.count == -1)=false:=by simpa using a
   have P:(s.count != -1)=true:=by simpa using a
   by_cases j:(U r.log:Int)=s.count
   ·have Q:((U r.log:Int) != s.count)=false:=by simpa using j
    obtain rfl:some r.log=R:=by rw[<-Hl.out,if_neg (by unfold dU;simp[a,j];try omega)]
    go_wp2_with fail
    go_ret2;exact⟨_,rfl,ay (ai Kb D.out) g.size,d.out⟩
   ·have Q:((U r.log:Int) != s.count)=true:=by simpa using j
    obtain rfl:none=R:=by rw[<-Hl.out,if_pos (by unfold dU;simp[a,j])]
    go_wp2_with fail
    go_ret2;exact⟨_,rfl,P0 _ _ _ _,d.out⟩
theorem qc{s:Sg4}{x:List Ent}(h:bw fs s=L x):(s.count = -1->1<=U x/\U x<=4)/\(s.count≠-1->(U x:Int)=s.count):=by
 unfold bw at h;cases hb:bu fs (aE 3 s.seq s.fmt)with
 |none=>rw[hb]at h;cases h
 |some b=>
  rw[hb]at h;dsimp only at h;split at h
  ·cases h
  ·split at h
   ·cases h
   ·split at h
    ·cases h
    ·rename_i hc;cases h;unfold dU at hc;simp only[Bool.or_eq_true,Bool.and_eq_true,decide_eq_true_eq]at hc;constructor
     ·intro h1;omega
     ·intro h1;omega
def fi(fs:List Fil)(index:Int):List Sg4->Int->List Ent->Option (Int×List Ent)
 |[],last,out=>some (last,out)
 | s::l,last,out=>match bw fs s with
  |none=>none
  |some x=>fi fs index l (if U x=0 then last else s.first+U x-1) (out++x.drop (index+1-s.first).toNat)
def fk(fs:List Fil)(m:Mf)(index:Int):List Ent×Bool:=match fi fs index m.segs (index+1) []with
 |none=>([],false)
 |some (last,out)=>(out,decide (index<last)&&(match m.segs with | []=>true | s::_=>decide (s.first<=index+1)))
def Cq(w:World)(r:List Ent×Bool)(e:Ending)(w':World):Prop:=∃v,e=.returned (.tuple #[v,S r.2])/\OwnE w' w.heap.size v r.1/\Ext w w'
theorem LV{x:List Ent}{first index:Int}(a:k<U x):(x.take (k+1)).drop (index+1-first).toNat=(x.take k).drop (index+1-first).toNat++(if index<first+k then[x[k]]else[]):=by
 rw[List.take_succ_eq_append_getElem a];by_cases h:index<first+k
 ·rw[if_pos h,List.drop_append_of_le_length (by rw[P9];omega)]
 ·rw[if_neg h,Pc,Pf (by simp;omega),Pf (by rw[P9];omega)]
theorem Lv(v vs:Value)(fs:List Fil)(m:Mf)(index:Int)(w:World)(hS:StW w)(hF:Fs w v fs)(hG:Sgs w vs m.segs)(hl:U fs<=4000000)(Hh:∀f∈fs,U f.2<=2000000)(K7:∀s∈m.segs,1<=s.first/\s.first<=1073741820/\-1<=s.count/\s.count<=4)(KT:0<=index/\index<=1073741824)(hn:U m.segs<=60):
  Calls I 43 #[v,T #[C E m.next,C E m.term,C E m.vote,C E m.sq,C E m.sf,vs],C E index] w (Cq w (fk fs m index)):=by
 obtain⟨A,c,rfl,_,_⟩:=Fs.open_ hF;obtain⟨B,d,rfl,_,_⟩:=hG.open_;have Hz:=Pn w 30 #[C E m.next,C E m.term,C E m.vote,C E m.sq,C E m.sf,H B m.segs.length d];have hX:Ext w (w.alloc (F #[C E m.next,C E m.term,C E m.vote,C E m.sq,C E m.sf,H B m.segs.length d] 30)):=xA (xR _) _;have Kh:(w.alloc (F #[C E m.next,C E m.term,C E m.vote,C E m.sq,C E m.sf,H B m.segs.length d] 30)).heap.size=w.heap.size+1:=by simp
 have JJ:Pr.wrap (index+1)=index+1:=by rw[Pq];omega
 obtain⟨R,p⟩:∃R,fk fs m index=R:=⟨_,rfl⟩;rw[p];unfold fk at p;have HR:=G p;have HX:=G hX;have Hb:=G Hz;have HF:=G hF;have HG:=G hG;have HS:=G hS;have J5:=G Hh;have Kr:=G K7;have Jy:=G KT;obtain⟨Ji,Jj⟩:=KT;clear p hX Hz hF hG hS Hh K7;go_enter func43,ntmps43
 go_wp2_with fail
 go_loopw [8,9,10] (λvo vl x W=>∃(j:Nat) (K:Option Addr) (V:Nat) (i:List Ent) (a:Int),j<=U m.segs/\x=C E j/\vo=H K i.length V/\vl=C E a/\Hid (fi fs index m.segs (index+1) []=fi fs index (m.segs.drop j) a i)/\Hid (U i<=4*j)/\Hid (OwnE W (w.heap.size+1) (H K i.length V) i)/\Ext (w.alloc (F #[C E m.next,C E m.term,C E m.vote,C E m.sq,C E m.sf,H B m.segs.length d] 30)) W) (λ_ _ x _=>U m.segs-(intOf x).toNat)
 case atStart=>exact⟨0,none,0,[],index+1,by omega,rfl,rfl,rfl,G rfl,G (by simp),G (P0 _ _ _ _),xR _⟩
 case round=>
  rename World=>wo
  obtain⟨j,K,V,i,a,hj,rfl,rfl,rfl,HP,KD,HO,Ke⟩:=hrel;have J0:=G Ke;have N:=G (xT HX Ke);obtain⟨_,_,_,_,_,M5⟩:=aj (Hb.ext Ke);by_cases H5:j<U m.segs
  ·obtain⟨_,b,HD,rfl,H3⟩:=(HG.ext N.out).at_ (by omega);obtain⟨s0,s1,s2,s3⟩:=H3 j H5;have Z:=HP.out;rw[Pe H5,fi]at Z;obtain⟨k1,k2,k3,k4⟩:=Kr _ (Pa H5);obtain⟨s,hs⟩:∃s,m.segs[j]=s:=⟨_,rfl⟩;have t2:w.cell? ⟨b,HD+j*4+2,O⟩=L (C E s.first):=by
    obtain⟨_,b1,Jv,Hs,K1⟩:=HG.at_ (by omega);cases Hs;have:=(K1 j H5).2.2.1;rwa[hs]at this
   rw[hs]at s0 s1 s2 s3 Z k1 k2 k3 k4;have key:=tC (H A fs.length c) fs s wo (HS.ext N.out) (HF.ext N.out) hl J5.out;obtain⟨rx,KC⟩:∃r,bw fs s=r:=⟨_,rfl⟩;rw[KC]at key Z;have KU:=λx (h:rx=L x)=>qc (KC.trans h);have KI:=G KU;have H4:=G key;have Kn:=G Z;have JE:(j:Int)<(U m.segs:Int):=by omega
   clear H3 Z key KC KU HP Ke hs;go_wp2_with fail
   refine H4.mono ?_;rintro e w2⟨vx,rfl,Y,Hi⟩;have Ka:=G Hi;have Kl:=G (ai HO Hi);have Ki:=G Y;have JA:=Hi.cell M5;obtain⟨M,X,rfl,_,_⟩:=xO (xW Y);cases rx with
   |none=>
    have p:=HR.out;rw[Kn.out]at p;obtain rfl:(([],false):List Ent×Bool)=R:=p;dsimp only[P1];go_wp2_with fail
    go_ret2;exact⟨_,rfl,P0 _ _ _ _,xT N Ka.out⟩
   |some x=>
    obtain⟨l1,l2⟩:=KI x rfl;dsimp only[P1,P2]at Ki⊢;have Js:U x<=4:=by
     by_cases h:s.count = -1
     ·exact(l1 h).2
     have:=l2 h;omega
    have J3:Hid (fi fs index m.segs (index+1) []=fi fs index (m.segs.drop (j+1)) (if U x=0 then a else s.first+U x-1) (i++x.drop (index+1-s.first).toNat)):=G Kn.out;have K8:∀q,(Pl M x.length X).ownBlock=L q->(Pl K i.length V).ownBlock≠some q:=by
     intro q z o;rcases Y.2 with⟨h,_⟩|⟨g,cap,cur,h,hb,_⟩
     ·rw[show(Pl M x.length X)=_ from h]at z;cases z
     rw[show(Pl M x.length X)=_ from h]at z;obtain rfl:g=q:=by simpa[Pm]using z
     rcases HO.2 with⟨h2,_⟩|⟨g2,cap2,cur2,h2,_,hg2,_⟩
     ·rw[h2]at o;cases o
     rw[h2]at o;obtain rfl:g2=g:=by simpa[Pm]using o
     have:=(Array.getElem?_eq_some_iff.1 hg2).1;omega
    have Ks:=G K8;have Kp:=G (And.intro k1 (And.intro k2 Js));have Ki:Hid (OwnE w2 wo.heap.size (H M x.length X) x):=G Y;clear K8 Kn KI l1 l2 k3 k4 k1 k2 Y s0 s1 s2 s3 M5 Hi;go_wp2_with fail
    go_loopw [8,9,13] (λvo vl y W=>∃(k:Nat) (J:Option Addr) (Q:Nat) (n:List Ent) (Ha:Int),k<=U x/\y=C E k/\vo=H J n.length Q/\vl=C E Ha/\Hid (n=i++(x.take k).drop (index+1-s.first).toNat)/\Hid (Ha=if k=0 then a else s.first+k-1)/\Hid (OwnE W (w.heap.size+1) (H J n.length Q) n)/\Hid (OwnE W wo.heap.size (H M x.length X) x)/\Hid (∀q,(Pl M x.length X).ownBlock=L q->(Pl J n.length Q).ownBlock≠some q)/\Ext (w.alloc (F #[C E m.next,C E m.term,C E m.vote,C E m.sq,C E m.sf,H (L ⟨b,HD,O⟩) m.segs.length d] 30)) W) (λ_ _ y _=>U x-(intOf y).toNat)
    case atStart=>exact⟨0,K,V,i,a,by omega,rfl,rfl,rfl,G (by simp),G rfl,Kl,Ki,Ks,xT J0 Ka.out⟩
    case round=>
     obtain⟨k,J,Q,n,Ha,hk,rfl,rfl,rfl,H9,HK,Km,KF,HW,HN⟩:=hrel;have Hg:=G HN;have P:=KF;have Kj:=G (xT HX HN);obtain⟨_,_,_,_,_,N5⟩:=aj (Hb.ext HN);have T2:=Kj.cell t2;obtain⟨q1,q2,q3⟩:=Kp;have JK:Pr.wrap (s.first+(k:Int))=s.first+(k:Int):=by rw[Pq];omega
     have Jn:Pr.wrap ((k:Int)+1)=((k+1:Nat):Int):=by rw[Pq];omega
     by_cases Kz:k<U x
     ·obtain⟨_,bx,ox,rfl,KR⟩:=Es.at_ (xW P.out) (by omega);clear KF;obtain⟨d0,d1,d2⟩:=KR k Kz;have Kx:=LV (first:=s.first) (index:=index) Kz;have JF:(k:Int)<(U x:Int):=by omega
      obtain⟨e,he⟩:∃e,x[k]=e:=⟨_,rfl⟩;rw[he]at d0 d1 d2 Kx;have KH:=G Kx;have Hq:=G q3;clear he Kx KR t2 HN q1 q2 q3;by_cases hgt:index<s.first+(k:Int)
      ·have K2:=o5 wr e;have Ku:Ext wr (wr.alloc (F #[C E e.t,C E e.k,C E e.v] 54)):=xA (xR _) _;have KP:=OwnE.ext Km Ku;have JB:=OwnE.ext P Ku;obtain⟨r1,r2⟩:U n<=244/\w.heap.size+1<=wr.heap.size:=by
        refine⟨?_,?_⟩
        ·have h1:=congrArg Pk H9.out;rw[xL,Ph,P9]at h1;have h2:=KD.out;have h3:=Hq.out;omega
        have h4:=Hg.size;simp at h4;omega
       have Ho:=G r1;have Kd:=G r2;clear r1 r2;go_wp2_with (at_builtin;go_loud (refine C5 rfl (.tmp 52) (.tmp 57) rfl (w.heap.size+1) _ n rfl KP _ [e] rfl K2 (by simp) (by show U n+1<=_;have:=Ho.out;omega) (by rw[xS];have:=Kd.out;omega) ?_);intro A8 c8 w8 KW KL Ky HZ;refine Hid.out ?_)
       refine G ?_;have HE:Ext (w.alloc (F #[C E m.next,C E m.term,C E m.vote,C E m.sq,C E m.sf,H (L ⟨b,HD,O⟩) m.segs.length d] 30)) w8:=KL _ (xT Hg Ku) (by rw[xS];omega);have Jw:=G HE;simp only[xC,P4,Pw]at KW HZ⊢;clear KP K2 KL;go_wp2_with fail
       go_roundw
       case rel=>
        have KQ:=P.out;refine⟨k+1,A8,c8,n++[e],s.first+k,by omega,by go_num,by simp,rfl,?_,?_,?_,?_,?_,HE⟩
        ·refine G ?_;rw[KH.out,if_pos hgt,<-P3,<-H9.out]
        ·refine G ?_;rw[if_neg (by omega)];omega
        ·refine G ?_;rw[show U (n++[e])=U n+1 from by simp];exact KW
        ·refine G ?_;have Jq:=OwnE.ext P (xA (xR wr) (F #[C E e.t,C E e.k,C E e.v] 54));refine Jq.kept Ky (.inr λhh=>?_);exact HW _ rfl hh.symm
        refine G λq z o=>?_;rw[show U (n++[e])=U n+1 from by simp]at o;rcases HZ with hh | hh
        ·rw[hh]at o;exact HW q z o
        rw[hh,xS]at o;have:=(P.lt q z).2;have:wr.heap.size+1=q:=by simpa using o
        omega
       case measure=>simp[intOf];omega
      go_wp2_with fail
      go_roundw
      case rel=>
       refine⟨k+1,J,Q,n,s.first+k,by omega,by go_num,rfl,rfl,?_,?_,Km,P,HW,Hg.out⟩
       ·refine G ?_;rw[KH.out,if_neg hgt,Pc];exact H9.out
       refine G ?_;rw[if_neg (by omega)];omega
      case measure=>simp[intOf];omega
     obtain rfl:k=U x:=by omega
     go_wp2_with fail
     go_roundw
     case rel=>
      have ho:=H9.out;rw[List.take_length]at ho;refine⟨j+1,J,Q,n,Ha,by omega,by go_num,rfl,rfl,?_,?_,Km,Hg.out⟩
      ·refine G ?_;rw[J3.out,ho,HK.out]
      refine G ?_;have h1:=KD.out;rw[ho,xL,Ph];omega
     case measure=>simp[intOf];omega
  ·obtain rfl:j=U m.segs:=by omega
   have p:=HR.out;rw[HP.out,Pi,fi]at p;obtain rfl:=p;have Kl:=G (ay HO (Nat.le_succ w.heap.size));clear HP HR HO;have Hf:∀W q,Ext wo W->Cq w (i,q) (.returned (.tuple #[H K i.length V,S q])) W:=λW q hE=>⟨_,rfl,ai Kl hE,xT N hE⟩;have HI:=G Hf;clear Hf;by_cases hlast:index<a
   ·have hd:decide (index<a)=true:=by simp;omega
    cases D:m.segs with
    |nil=>
     rw[D]at M5;go_wp2_with fail
     go_quiet (fail)
     go_wp2_with fail
     go_ret2;exact HI _ true (fl (xR _) _)
    |cons s l=>
     have K5:0<U m.segs:=by rw[D];simp
     obtain⟨_,b,HD,rfl,H3⟩:=(HG.ext N.out).at_ K5;obtain⟨_,_,s2,_⟩:=H3 0 K5;have e0:m.segs[0]=s:=by simp[D]
     rw[e0]at s2;have e1:((U l:Int)+1==0)=false:=by simp;omega
     clear H3;go_wp2_with fail
     go_quiet (fail)
     go_wp2_with fail
     go_ret2;exact HI _ (decide (s.first<=index+1)) (fl (xR _) _)
   ·have hd:decide (index<a)=false:=by simp;omega
    go_wp2_with fail
    go_quiet (fail)
    go_wp2_with fail
    go_ret2;exact HI _ false (fl (xR _) _)
