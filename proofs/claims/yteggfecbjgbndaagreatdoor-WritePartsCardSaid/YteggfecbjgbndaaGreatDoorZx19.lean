/- Merged -/
import Derived.Test.YteggfecbjgbndaaGreatDoorZx1
import Derived.Deep.RegionHeld
set_option linter.all false
set_option maxHeartbeats 8000000
set_option maxRecDepth 100000
open Option renaming some->C
open Go.Value renaming bool->E
open Go.StepsIn renaming trans->P0
open Array renaming getElem?_eq_some_iff->P1,replicate->P2,getD_eq_getD_getElem?->P3
open Go.World renaming putObj_heap_other->P4,putObj_heap_same->P5,alloc_heap_new->P6
open Go.Region renaming ready->P7,wanted->P8,binds->P9,noSelect_spec->Pa,Mode->Pb,free_spec->Pc,noSelect->Pd,free->Pe
open Go.Instr renaming enterLoop->Pf
open Go.ComesIn renaming of_steps->Pg
namespace Go.Mv
open Go.RowKit
variable {a:Act} {assign body c:Code} {Q:Exit->Act->World->Prop} {n:Nat} {P:Program} {w:World}
def KG(G:Nat->Prop)(k:Nat)(o:Obj):Prop:=o.isCells=true/\¬G k
def Cl(P:Program)(gf:Nat)(lb:Array Value){α:Type}(Rp:α->Array Value->World->Prop)(M:Nat->Obj->Prop)(xs:List α)(pn:Option (List PanicEntry))(Gok:(Nat->Prop)->Prop)(b:World):Prop:=
 ∀(l:Nat) (J:(Nat->Prop)->List α->World->Prop),
  (∀G s A B,J G s A->Moves (am M b.heap.size) A B->J G s B)->(∀G s A,J G s A->∀k,G k->k<A.heap.size) ->
  (∀G H0 x H3,xs=H0++x::H3->∀(W:World) (av:Array Value),J G H0 W->b.heap.size<=W.heap.size->Rp x av W->YieldsAt P l av W λe W'=>
    e=.returned (E true)/\Kept (am (KG G) b.heap.size) W W'/\∃d,(∀k,d k->G k\/W.heap.size<=k)/\J d (H0++[x]) W') ->
  ∀d,Gok d->J d [] b ->
  Calls P gf (#[.func (.yield l) #[] #[]]++lb) b λe W'=>∃G,J G xs W'/\((pn=none/\∃v,e=.returned v)\/∃c,pn=C c/\e=.panicked c)
def Oc(K:Nat->Obj->Prop)(I:World->Prop)(W:World):Exit->Act->World->Prop
 |.normal,_,W'=>Kept K W W'/\I W'
 |_,_,_=>False
theorem MS{α:Type}{g:Operand}{y:Array Tmp}{gf:Nat}{lb:Array Value}(hg:a.eval g=.func (.func gf) #[] lb)(eg:∀args w,(callFunc gf args).run P w=.ok (.enter gf args) w){Rp:α->Array Value->World->Prop}{M:Nat->Obj->Prop}{xs:List α}{pn:Option (List PanicEntry)}{Gok:(Nat->Prop)->Prop}(hseq:∀W1,Below w.heap.size w W1->W1.heap.size=w.heap.size+2->Cl P gf lb Rp M xs pn Gok W1)(hMc:∀k o,M k o->o.isCells=true)(hps:∀x j W,Rp x j W->j.size=y.size)(I:(Nat->Prop)->List α->World->Prop)(hI:∀G s A B,I G s A->Moves (am M w.heap.size) A B->I G s B)(hbd:∀G s A,I G s A->∀k,G k->k<A.heap.size)(U:Nat->Prop)(Kj:Gok U)(h0:I U [] w)(N:α->Act->World->Prop)(hAx:∀x d A B,N x d A->Moves (am (λ_ _=>False) w.heap.size) A B->N x d B)(H6:∀(G:Nat->Prop) (l:Nat) (H0:List α) (x:α) (H3:List α) (W:World) (j:Array Value) (K':Act->World->Prop),xs=H0++x::H3->I G H0 W->w.heap.size<=W.heap.size->Rp x j W ->
    (∀d W',Kept (am (KG G) w.heap.size) W W'->I G H0 W'->N x d W'->K' d W') ->
    assign.wpIn (Wd (some l)) n P (Exit.then K' (λ_ _ _=>False)) { tmps:=(y.zip j).foldl (λt (p,v)=>t.setIfInBounds p v) a.tmps,defers:=[] } W)(H7:∀(G:Nat->Prop) (l:Nat) (H0:List α) (x:α) (H3:List α) (d:Act) (W:World),xs=H0++x::H3->w.heap.size<=l->(∃r,W.heap[l]?=C (.loop r))->I G H0 W->w.heap.size<=W.heap.size->N x d W ->
    body.wpIn (Wd (some l)) n P (Oc (am (KG G) w.heap.size) (λW'=>∃z,(∀k,z k->G k\/W.heap.size<=k)/\I z (H0++[x]) W') W) d W)(He:∀G D W,pn=none->w.heap.size<=D->I G xs W->W.heap[D]?=C (.deferred (some []))->Q .normal { a with defers:={ target:=.collected D,args:=#[] }::a.defers } W)(Hp:∀G D c W,pn=C c->w.heap.size<=D->I G xs W->W.heap[D]?=C (.deferred (some []))->Q (.panic c) { a with defers:={ target:=.collected D,args:=#[] }::a.defers } W):
  (Code.rangeFunc g y assign body).wpIn (Wd none) n P Q a w:=by
 refine wpIn_rangeFunc ?_;intro fn _;obtain⟨b,H4⟩:∃b:LoopState->Option Code->Loop,b=λst N=>{ state:=st,pending:=N,fn,tmps:=a.tmps,params:=y,assign,body,defers:=w.heap.size }:=⟨_,rfl⟩;obtain⟨W1,Hk⟩:∃W1,(w.alloc (.deferred (some []))).alloc (.loop { state:=.ready,pending:=none,fn,tmps:=a.tmps,params:=y,assign,body,defers:=w.heap.size })=W1:=⟨_,rfl⟩;have K3:Below w.heap.size w W1:=by rw[<-Hk];exact((Below.refl _ w).alloc (xN _) _).alloc (by simp) _
 have Kc:W1.heap.size=w.heap.size+2:=by rw[<-Hk];simp
 have N:W1.heap[w.heap.size+1]?=C (.loop { state:=.ready,pending:=none,fn,tmps:=a.tmps,params:=y,assign,body,defers:=w.heap.size }):=by
  rw[<-Hk];have:=P6 (w.alloc (.deferred (some []))) (.loop { state:=.ready,pending:=none,fn,tmps:=a.tmps,params:=y,assign,body,defers:=w.heap.size });rwa[xS]at this
 have HZ:W1.heap[w.heap.size]?=C (.deferred (some [])):=by
  rw[<-Hk];exact(Below.heap_alloc _ _ _ (by simp)).trans (P6 w _)
 have K9:Moves (am M w.heap.size) w W1:=by rw[<-Hk];exact(Moves.refl.alloc _).alloc _
 have H2:(Pf fn a.tmps y assign body none).run P w=.ok (w.heap.size+1,[{ target:=.collected w.heap.size,args:=#[] }]) W1:=by
  rw[<-Hk];exact run_enterLoop_outer _ _ _ _ _
 have Hm:W1.heap[w.heap.size+1]?=C (.loop (b .ready none)):=by rw[H4];exact N
 obtain⟨l,hl⟩:∃l,w.heap.size+1=l:=⟨_,rfl⟩;rw[hl]at N Hm H2;have S:w.heap.size<=l:=by omega
 obtain⟨X,V⟩:∃X:World->Prop,X=λW=>W.heap[w.heap.size]?=C (.deferred (some [])):=⟨_,rfl⟩;have hX:∀A B,X A->(∀k o,A.heap[k]?=C o->w.heap.size<=k->k<W1.heap.size->k≠l->o.isCells=false->B.heap[k]?=C o)->X B:=by
  subst V;intro A B hx hk;exact hk _ _ hx (xN _) (by omega) (by omega) rfl
 have K0:X W1:=by rw[V];exact HZ
 have Kf:∀W,X W->W.heap[w.heap.size]?=C (.deferred (some [])):=by rw[V];exact λ_ h=>h
 have HO:∀(G:Nat->Prop) k o,KG G k o->∀r,o≠.loop r:=λG k o h r e=>by rw[e]at h;cases h.1
 -- the record's own turns
 have L:∀(A:World) (o m:Obj),A.heap[l]?=C o->o.isCells=false->Moves (am (λ_ _=>False) w.heap.size) A (A.putObj l m):=λA o m q hc=>
  Moves.refl.putObj (λN h₁=>by rw[q]at h₁;cases h₁;exact .inr ⟨S,hc⟩) m
 have cj:∀G s A o m,I G s A->A.heap[l]?=C o->o.isCells=false->I G s (A.putObj l m):=λG s A o m hi q hc=>
  hI G s _ _ hi ((L A o m q hc).weaken (λk o h=>by rcases h with h | h;exact h.elim;exact .inr h))
 have Hx:l<W1.heap.size:=(P1.1 Hm).1;have Y:∀A m,X A->X (A.putObj l m):=λA m hx=>hX A _ hx (λk o hk _ _ m _=>(P4 m).trans hk);have H8:∀ {K':Nat->Obj->Prop} (A B:World),X A->Kept (am K' w.heap.size) A B->X B:=λA B hx hk=>
  hX A B hx (λk o q hn _ _ hc=>hk.same k o q (.inr ⟨hn,hc⟩))
 have H9:∀(A B:World) (k:Nat) (o:Obj),A.heap[k]?=C o->k<W1.heap.size->o.isCells=false->Moves (am M W1.heap.size) A B->B.heap[k]?=C o:=λA B k o q hk hc hm=>
  hm.same k o q (λh=>by
   rcases h with h | h
   ·have:=hMc k o h;rw[hc]at this;cases this
   omega)
 have N:∀(A B:World),X A->Moves (am M W1.heap.size) A B->X B:=λA B hx hm=>
  hX A B hx (λk o q _ m _ hc=>H9 A B k o q m hc hm)
 have m:∀(A B:World),Moves (am M W1.heap.size) A B->Moves (am M w.heap.size) A B:=λA B hm=>
  hm.weaken (λk o h=>by rcases h with h | h;exact .inl h;exact .inr ⟨by omega,h.2⟩)
 refine⟨l,[{ target:=.collected w.heap.size,args:=#[] }],W1,{ target:=.fn (.func gf) lb,args:=#[.func (.yield l) #[] #[]] },W1,gf,#[.func (.yield l) #[] #[]]++lb,W1,H2,?_,λ_ _=>trivial,?_,λh=>by simp[Fence.wide]at h,?_⟩
 ·simp only[resolve,hg];simp[go_sem]
 ·simp[invoke,go_sem,eg]
 ·refine callsIn_wd.2 ?_;refine(hseq W1 K3 Kc l
   (λG H0 W=>I G H0 W/\W.heap[l]?=C (.loop (b .ready none))/\X W)
   (λG s A B hs hm=>⟨hI G s A B hs.1 (m A B hm),H9 A B l _ hs.2.1 Hx rfl hm,N A B hs.2.2 hm⟩)
   (λG s A hs k hk=>hbd G s A hs.1 k hk)
   ?_ U Kj ⟨hI _ _ _ _ h0 K9,Hm,K0⟩).mono ?_
  · -- ONE ROUND
   rintro G H0 x H3 q W j⟨hi,K7,hx⟩m m;have N:=run_yield (P:=P) (args:=j) K7 (by rw[H4];exact hps x j W m);rw[H4]at N;refine⟨fn,_,assign,body,N,?_⟩;have N:=roundIn_of_wpIn (F:=Wd (some l)) (n:=n) (P:=P) (l:=l) (f:=fn) (w:=W) (assign:=assign) (body:=body) (tmps:=(y.zip j).foldl (λt (p,v)=>t.setIfInBounds p v) a.tmps)
    (R:=λe W'=>e=.returned (E true)/\Kept (am (KG G) W1.heap.size) W W'/\∃z,(∀k,z k->G k\/W.heap.size<=k)/\I z (H0++[x]) W'/\W'.heap[l]?=C (.loop (b .ready none))/\X W')
    trivial (H6 G l H0 x H3 W j _ q hi (by omega) m ?_)
   ·exact⟨trivial,λc cs _=>N.2 c cs (room_wide _)⟩
   ·intro d m H N I;have j:=H.same l _ K7 (.inr ⟨S,rfl⟩);have HY:=H8 W m hx H;have y:l<m.heap.size:=(P1.1 j).1;refine⟨_,run_beginRound j (by rw[H4]),?_⟩;have K:(m.putObj l (.loop { b .ready none with state:=.busy })).heap[l]?=C (.loop { b .ready none with state:=.busy }):=P5 y;refine wpIn_mono (H7 G l H0 x H3 d _ q S ⟨_,K⟩ (cj _ _ _ _ _ N j rfl) (by simp;have:=H.size;omega) (hAx x d _ _ I (L _ _ _ j rfl))) ?_;rintro e d d J;cases e with
    |normal=>
     obtain⟨O,z,Ki,Hu⟩:=J;have Z:=O.same l _ K (.inr ⟨S,rfl⟩);have d:=run_endRound (P:=P) none Z;rw[H4]at d;refine⟨_,_,d,rfl,⟨?_,?_⟩,z,λk hk=>?_,?_,?_,?_⟩
     ·have h1:=H.size;have h2:=O.size;simp at h2⊢;omega
     ·intro k o hk hK;have HP:am (KG G) w.heap.size k o:=by
       rcases hK with h | h
       ·exact .inl h
       exact .inr ⟨by omega,h.2⟩
      by_cases e:k=l
      ·subst e;rw[K7]at hk;cases hk;rcases hK with h | h
       ·exact absurd rfl (HO _ _ _ h _)
       omega
      have h1:=H.same k o hk HP;have h2:=O.same k o ((P4 e).trans h1) HP;exact(P4 e).trans h2
     ·rcases Ki k hk with h | h
      ·exact .inl h
      right
      have:=H.size;simp at h;omega
     ·have:=cj _ _ _ _ (.loop (b .ready none)) Hu Z rfl;rw[H4]at this;exact this
     ·have:=P5 (o:=.loop (b .ready none)) (P1.1 Z).1;rw[H4]at this⊢;exact this
     exact Y _ _ (H8 _ _ (Y _ _ HY) O)
    |ret=>exact J.elim
    |exit id=>exact J.elim
    |goto t=>exact J.elim
    |panic ch=>exact J.elim
    |outgrown=>exact J.elim
  · -- BEHIND THE ITERATOR
   rintro e b⟨G,⟨hi,K,hx⟩,(⟨Hr,v,rfl⟩|⟨c,Hr,rfl⟩)⟩
   ·exact⟨none,_,by have:=run_endLoop (P:=P) K (by rw[H4];simp);rw[H4]at this;exact this,He G _ _ Hr (xN _) (cj _ _ _ _ _ hi K rfl) (Kf _ (Y _ _ hx))⟩
   ·exact Hp G _ c _ Hr (xN _) hi (Kf _ hx)
def fX(f0:FuncId)(P:Program)(c:Code)(Q:Exit->Act->World->Prop)(a:Act)(w:World):Prop:=
 ∀(b:Frame) (k:List Item) (cs:List Frame),b.roundOf=none->b.fn=f0 ->
  ∃e d w',Q e d w'/\ArrivesIn (Machine.fenced P (Wd none)) P (lone (b.atR a (.code c::k)) cs w) b k cs e d w'
section
variable {f0:FuncId} {P:Program} {n:Nat} {Q:Exit->Act->World->Prop} {a:Act} {w:World}
theorem lQ(ro:Option Nat)(m:Nat):(Wd ro).room m:=λd b=>by cases b
theorem lR(h:c.wpIn (Wd none) n P Q a w):fX f0 P c Q a w:=λb k cs d _=>h b k cs d trivial (lQ _ _)
theorem lM{x y:Code}(h:fX f0 P x (Exit.then (fX f0 P y Q) Q) a w):fX f0 P (Code.seq x y) Q a w:=by
 intro b k cs q hb;have g:(lone (b.atR a (.code (.seq x y)::k)) cs w).fenced P (Wd none):=fenced_calm (n:=0) trivial (lQ _ _) rfl;obtain⟨e,m,o,j,f⟩:=h b (.code y::k) cs q hb;cases e with
 |normal=>
  obtain⟨s,r,t,p,d⟩:=j b k cs q hb;exact⟨s,r,t,p,.of_steps (.head g stepR_seq f) d⟩
 |exit id=>exact⟨_,m,o,j,.of_steps (.one g stepR_seq) (.pass (x:=.code y) rfl (λ_ _=>.inl (by simp)) f)⟩
 |goto l=>exact⟨_,m,o,j,.of_steps (.one g stepR_seq) (.pass (x:=.code y) rfl (λ_ _=>.inl (by simp)) f)⟩
 |ret=>exact⟨_,m,o,j,.of_steps (.one g stepR_seq) (.pass (x:=.code y) rfl (λ_ _=>.inl (by simp)) f)⟩
 |panic ch=>exact⟨_,m,o,j,.of_steps (.one g stepR_seq) (.pass (x:=.code y) rfl (λ_ _=>.inl (by simp)) f)⟩
 |outgrown=>exact⟨_,m,o,j,.of_steps (.one g stepR_seq) (.pass (x:=.code y) rfl (λ_ _=>.inl (by simp)) f)⟩
theorem Iv{g:Nat}(h:fX f0 P c (Exit.inBlock g Q) a w):fX f0 P (Code.block g c) Q a w:=by
 intro b k cs d hb;have o:(lone (b.atR a (.code (.block g c)::k)) cs w).fenced P (Wd none):=fenced_calm (n:=0) trivial (lQ _ _) rfl;have q:b.roundOf.isSome=true->False:=λh=>by rw[d]at h;cases h
 obtain⟨e,m,p,f,j⟩:=h b (.inBlock g::k) cs d hb;cases e with
 |normal=>exact⟨.normal,m,p,f,.head o stepR_block (P0 j (.one (fenced_calm (n:=0) trivial (lQ _ _) rfl) stepR_inBlock))⟩
 |exit id'=>
  by_cases d:id'=g
  ·simp only[Exit.inBlock,d,if_true]at f;exact⟨.normal,m,p,f,.head o stepR_block (j.1 k (by simp[exitTo,d]))⟩
  simp only[Exit.inBlock,d,if_false]at f;have this:(g==id')=false:=by simp;exact λh=>d h.symm
  have hx:exitTo id' (.inBlock g::k)=exitTo id' k:=by simp[exitTo,this]
  exact⟨.exit id',m,p,f,λd hk=>.head o stepR_block (j.1 d (by rw[hx];exact hk)),λh _=>(q h).elim⟩
 |goto l=>
  have hx:gotoIn l (.inBlock g::k)=gotoIn l k:=by simp[gotoIn]
  exact⟨_,m,p,f,λd hk=>.head o stepR_block (j.1 d (by rw[hx];exact hk)),λh _=>(q h).elim⟩
 |ret=>exact⟨_,m,p,f,.of_steps (.one o stepR_block) j⟩
 |panic ch=>exact⟨_,m,p,f,.of_steps (.one o stepR_block) j⟩
 |outgrown=>exact⟨_,m,p,f,.of_steps (.one o stepR_block) j⟩
theorem CW{g:Operand}{o:Array Tmp}(h:∃(l:Nat) (mark:List Deferred) (y:World) (d:Deferred) (j:World) (f:FuncId) (args:Array Value) (z:World),
    (Pf f0 a.tmps o assign body none).run P w=.ok (l,mark) y /\
    (resolve a.eval (rangeCall g l) 0).run P y=.ok d j /\
    (∀f',Target.leads P j d.target d.args=C f'->(Wd none).fn f') /\
    (invoke d.target d.args).run P j=.ok (.enter f args) z /\
    ((Wd none).depth.isSome=true->1<=n) /\
    CallsIn (Wd none) (n-1) P f args z (rangePost (Wd none) n P l Q { a with defers:=mark++a.defers })):
  fX f0 P (Code.rangeFunc g o assign body) Q a w:=by
 intro b k cs E hb;obtain⟨l,mark,y,d,j,f,args,z,he,y,j,j,hn,H,HQ⟩:=h;rw[<-E,<-hb]at he;have x:(Wd none).room (cs.length+1+n):=lQ _ _;have G:(lone (b.atR a (.code (.rangeFunc g o assign body)::k)) cs w).fenced P (Wd none):=by
  refine fenced_lone (.inl trivial) (λf' z=>trivial) (Fence.room_le x (by omega))
 have p:=stepR_rangeFunc (P:=P) (b:=b) (a:=a) (k:=k) (cs:=cs) (w:=w) he y j;have r:(Wd none).room ((b.atR { a with defers:=mark++a.defers } (.inRangeFunc l::k)::cs).length+1+(n-1)):=lQ _ _;obtain⟨e,A,fr,s,q,hfn,m⟩:=HQ (b.atR { a with defers:=mark++a.defers } (.inRangeFunc l::k)::cs) r;cases e with
 |outgrown=>
  obtain⟨j,y,t⟩:=s;exact⟨.outgrown,j,y,t,.inr (Outgrown.of_steps (.one p) q)⟩
 |returned v=>
  have hl:(lone fr (b.atR { a with defers:=mark++a.defers } (.inRangeFunc l::k)::cs) A).fenced P (Wd none):=fenced_leaving (hfn▸H) r m;obtain⟨B,J,j,I⟩:=s;have F:StepsIn (Machine.fenced P (Wd none)) P (lone (b.atR a (.code (.rangeFunc g o assign body)::k)) cs w) (lone (b.atR { a with defers:=mark++a.defers } ((B.map Item.code).toList++k)) cs J):=by
   refine .head G p (P0 q (.head hl ?_ (.one (fenced_calm (fr:=b.atR { a with defers:=mark++a.defers } (.endRangeFunc l::k)) trivial x rfl) (stepR_endRangeFunc j))));rw[<-finish_atR_inRangeFunc l v];exact step_leave_returned m
  cases B with
  |none=>exact⟨.normal,_,J,I,F⟩
  |some c=>
   obtain⟨e',o,y,t,j⟩:=I b k cs E trivial x;exact⟨e',o,y,t,.of_steps F j⟩
 |panicked chain=>
  have hl:(lone fr (b.atR { a with defers:=mark++a.defers } (.inRangeFunc l::k)::cs) A).fenced P (Wd none):=fenced_leaving (hfn▸H) r m;refine⟨.panic chain,_,A,s,.inRangeFunc l::k,.head G p (P0 q (.one hl ?_))⟩;rw[<-Frame.raise_atR];exact step_leave_panicked m
theorem CK{fn:Func}{args:Array Value}{R:Ending->World->Prop}(hf:P.funcs[f0]?=C fn)(hb:fn.body=C c)(h:fX f0 P c (bodyPostM (Wd none) n P fn R) { tmps:=args++P2 (fn.ntmps-args.size) undef,defers:=[] } w):CallsIn (Wd none) n P f0 args w R:=by
 refine⟨trivial,λcs q=>?_⟩;let b:Frame:={ (default:Frame)with fn:=f0,kind:=.normal,roundOf:=none }
 have f:Frame.enter P f0 args .normal =
   b.atR { tmps:=args++P2 (fn.ntmps-args.size) undef,defers:=[] } [.code c]:=by
  simp[Frame.enter,Frame.atR,hf,hb,b]
 obtain⟨e,d,w',g,j⟩:=h b [] cs rfl rfl;rw[<-f]at j;have p:(Wd none).fn f0:=trivial;cases e with
 |normal=>
  obtain⟨e',m,k,o,hs,hfn,hl⟩:=leaves_stepsInM d.defers .returning w' { b.atR d []with mode:=.returning } cs rfl rfl rfl hf rfl p q g;exact⟨e',m,k,o,Pg (P0 j (.one (fenced_calm (fr:=b.atR d []) p q rfl) (stepR_end rfl))) hs,hfn,hl⟩
 |ret=>
  obtain⟨r,f⟩:=j.1 rfl;obtain⟨e',m,k,o,hs,hfn,hl⟩:=leaves_stepsInM d.defers .returning w' { b.atR d r with mode:=.returning } cs rfl rfl rfl hf rfl p q g;exact⟨e',m,k,o,Pg f hs,hfn,hl⟩
 |panic chain=>
  obtain⟨r,f⟩:=j;obtain⟨e',m,k,o,hs,hfn,hl⟩:=leaves_stepsInM d.defers (.panicking chain) w' { b.atR d r with mode:=.panicking chain } cs rfl rfl rfl hf rfl p q g;exact⟨e',m,k,o,Pg f hs,hfn,hl⟩
 |exit id=>exact g.elim
 |goto l=>exact g.elim
 |outgrown=>exact⟨.outgrown,w',b,g,j.resolve_left (by simp[b]),rfl,trivial⟩
end
def I8(P:Program)(l:Nat)(R:Ending->World->Prop):Exit->Act->World->Prop
 |.panic c,a,w=>a.defers=[]/\R (.panicked c) w
 |e,a,w=>roundPost P l R e a w
theorem CH{F:Fence}{l:Nat}{f:FuncId}(hfn:∃g,P.funcs[f]?=C g){tmps:Array Value}{R:Ending->World->Prop}(y:F.fn f)(h:assign.wpIn (F.inRound l) n P (Exit.then (λk q=>∃p,(Instr.beginRound l).run P q=.ok () p/\body.wpIn (F.inRound l) n P (I8 P l R) k p) (λ_ _ _=>False))
    { tmps:=tmps,defers:=[] } w):
  RoundIn F n P l f tmps assign body w R:=by
 refine⟨y,λc cs E=>?_⟩;let b:Frame:={ (default:Frame)with fn:=f,kind:=.normal,roundOf:=C l }
 have Km:Frame.round l f tmps assign body .normal=b.atR { tmps:=tmps,defers:=[] } [.code assign,.beginRound,.code body]:=by
  simp[Frame.round,Frame.atR,b]
 have m:(F.inRound l).room ((c::cs).length+1+n):=E;have o:(F.inRound l).fn b.fn:=y;obtain⟨e,k,q,x,r⟩:=h b [.beginRound,.code body] (c::cs) rfl o m;rw[<-Km]at r;cases e with
 |normal=>
  obtain⟨p,Kn,y⟩:=x;have z:StepsIn (Machine.fenced P (F.inRound l)) P (lone (b.atR k [.beginRound,.code body]) (c::cs) q) (lone (b.atR k [.code body]) (c::cs) p):=
   .one (fenced_calm (fr:=b.atR k [.beginRound,.code body]) o m rfl) (stepR_beginRound rfl Kn)
  obtain⟨B,s,A,j,d⟩:=y b [] (c::cs) rfl o m;cases B with
  |normal=>
   obtain⟨v,q,p,k⟩:=j;exact⟨.returned v,q,k,(P0 r z).trans (P0 d (.one (fenced_calm (fr:=b.atR s []) o m rfl) (stepR_round_end rfl rfl p)))⟩
  |ret=>
   obtain⟨v,q,p,k⟩:=j;obtain⟨y,hs⟩:=d.2 rfl;exact⟨.returned v,q,k,(P0 r z).trans (P0 hs (.one (fenced_calm (fr:=b.atR s (.code .ret::y)) o m rfl) (stepR_round_ret rfl rfl p)))⟩
  |exit id=>
   obtain⟨v,q,p,k⟩:=j;obtain⟨y,hk,hs⟩:=d.2 rfl rfl;exact⟨.returned v,q,k,(P0 r z).trans (P0 hs (.one (fenced_calm (fr:=b.atR s (.code (.exit id)::y)) o m rfl) (stepR_round_exit rfl rfl hk p)))⟩
  |goto t=>
   obtain⟨v,q,p,k⟩:=j;obtain⟨y,hk,hs⟩:=d.2 rfl rfl;exact⟨.returned v,q,k,(P0 r z).trans (P0 hs (.one (fenced_calm (fr:=b.atR s (.code (.goto t)::y)) o m rfl) (stepR_round_goto rfl rfl hk p)))⟩
  |panic chain=>
   obtain⟨q,k⟩:=j;obtain⟨p,hs⟩:=d;have hl:({ b.atR s p with mode:=.panicking chain }:Frame).leaving P A (.panicked chain):=⟨rfl,q,hfn⟩;have d:(lone { b.atR s p with mode:=.panicking chain } (c::cs) A).fenced P (F.inRound l):=fenced_leaving (n:=n) o m hl;exact⟨.panicked chain,A,k,(P0 r z).trans (P0 hs (.one d (step_leave_panicked hl)))⟩
  |outgrown=>exact j.elim
 |exit id=>exact x.elim
 |goto l=>exact x.elim
 |ret=>exact x.elim
 |panic chain=>exact x.elim
 |outgrown=>exact x.elim
def py(P:Program)(gf:Nat)(lb:Array Value){α:Type}(Rp:α->Array Value->World->Prop)(K M:Nat->Obj->Prop)(xs:List α)(pn:Option (List PanicEntry))(b:World):Prop:=
 ∀(l:Nat) (J Jx:List α->World->Prop) (Jp:List PanicEntry->World->Prop),
  (∀s A B,J s A->Moves (am M b.heap.size) A B->J s B)->(∀s A B,Jx s A->Moves (am M b.heap.size) A B->Jx s B)->(∀c A B,Jp c A->Moves (am M b.heap.size) A B->Jp c B) ->
  (∀H0 x H3,xs=H0++x::H3->∀(W:World) (av:Array Value),J H0 W->b.heap.size<=W.heap.size->Rp x av W->YieldsAt P l av W λe W'=>
    (Kept (am K b.heap.size) W W'/\((e=.returned (E true)/\J (H0++[x]) W')\/(e=.returned (E false)/\Jx (H0++[x]) W')))\/∃c,e=.panicked c/\Jp c W') ->
  J [] b ->
  Calls P gf (#[.func (.yield l) #[] #[]]++lb) b λe W'=>(pn=none/\(∃v,e=.returned v)/\J xs W')\/(∃c,pn=C c/\e=.panicked c/\J xs W')\/((∃v,e=.returned v)/\∃H0,H0 <+: xs/\Jx H0 W')\/(∃c,e=.panicked c/\Jp c W')
def BN{α:Type}(K:Nat->Obj->Prop)(I:List α->World->Prop)(b:Code->List α->World->Prop)(d:List PanicEntry->World->Prop)(xs:List α)(W:World):Exit->Act->World->Prop
 |.normal,_,W'=>Kept K W W'/\I xs W'
 |.ret,_,W'=>Kept K W W'/\b .ret xs W'
 |.exit id,_,W'=>Kept K W W'/\b (.exit id) xs W'
 |.goto t,_,W'=>Kept K W W'/\b (.goto t) xs W'
 |.panic c,a,W'=>a.defers=[]/\Kept K W W'/\d c W'
 |.outgrown,_,_=>False
theorem Et{α:Type}{ro:Option Nat}{g:Operand}{N:Array Tmp}{gf:Nat}{lb:Array Value}(hg:a.eval g=.func (.func gf) #[] lb)(eg:∀args w,(callFunc gf args).run P w=.ok (.enter gf args) w){Rp:α->Array Value->World->Prop}{K M:Nat->Obj->Prop}{xs:List α}{pn:Option (List PanicEntry)}(hMc:∀k o,M k o->o.isCells=true)(HO:∀k o,K k o->∀r,o≠.loop r)(hps:∀x H W,Rp x H W->H.size=N.size)(I:List α->World->Prop)(L:Code->List α->World->Prop)(S:List PanicEntry->World->Prop)(hI:∀s A B,I s A->Moves (am M w.heap.size) A B->I s B)(hIx:∀c s A B,L c s A->Moves (am M w.heap.size) A B->L c s B)(hIp:∀c A B,S c A->Moves (am M w.heap.size) A B->S c B)(Z:α->Act->World->Prop)(hAx:∀x z A B,Z x z A->Moves (am (λ_ _=>False) w.heap.size) A B->Z x z B)(H6:∀(l:Nat) (H0:List α) (x:α) (H3:List α) (W:World) (H:Array Value) (K':Act->World->Prop),xs=H0++x::H3->I H0 W->w.heap.size<=W.heap.size->Rp x H W ->
    (∀z W',Kept (am K w.heap.size) W W'->I H0 W'->Z x z W'->K' z W') ->
    assign.wpIn (Wd (some l)) n P (Exit.then K' (λ_ _ _=>False)) { tmps:=(N.zip H).foldl (λt (p,v)=>t.setIfInBounds p v) a.tmps,defers:=[] } W)(H7:∀(l:Nat) (H0:List α) (x:α) (H3:List α) (z:Act) (W:World),xs=H0++x::H3->w.heap.size<=l->(∃r,W.heap[l]?=C (.loop r))->I H0 W->w.heap.size<=W.heap.size->Z x z W ->
    body.wpIn (Wd (some l)) n P (BN (am K w.heap.size) I L S (H0++[x]) W) z W){fn:FuncId}(hfn:∃g,P.funcs[fn]?=C g){l:Nat}{mark:List Deferred}{W1:World}{dfs:Nat}(Hv:w.heap.size<=l)(hseq:py P gf lb Rp K M xs pn W1)(Hk:w.heap.size<=W1.heap.size)(H2:(Pf fn a.tmps N assign body ro).run P w=.ok (l,mark) W1)(Z:W1.heap[l]?=C (.loop { state:=.ready,pending:=none,fn,tmps:=a.tmps,params:=N,assign,body,defers:=dfs }))(Kk:I [] W1)(X:World->Prop)(hX:∀A B,X A->(∀k o,A.heap[k]?=C o->w.heap.size<=k->k<W1.heap.size->k≠l->o.isCells=false->B.heap[k]?=C o)->X B)(K0:X W1)(He:∀W,pn=none->I xs W->X W->Q .normal { a with defers:=mark++a.defers } W)(Hp:∀c W,pn=C c->I xs W->X W->Q (.panic c) { a with defers:=mark++a.defers } W)(Hq:∀c W,S c W->X W->Q (.panic c) { a with defers:=mark++a.defers } W)(Ht:∀c H0 W,H0 <+: xs->L c H0 W->X W->c.wpIn (Wd ro) n P Q { a with defers:=mark++a.defers } W):
  ∃(l:Nat) (mark:List Deferred) (w₁:World) (d:Deferred) (w₁':World) (f:FuncId) (args:Array Value) (w₂:World),
   (Pf fn a.tmps N assign body ro).run P w=.ok (l,mark) w₁ /\
   (resolve a.eval (rangeCall g l) 0).run P w₁=.ok d w₁' /\
   (∀f',Target.leads P w₁' d.target d.args=C f'->(Wd ro).fn f') /\
   (invoke d.target d.args).run P w₁'=.ok (.enter f args) w₂ /\
   ((Wd ro).depth.isSome=true->1<=n) /\
   CallsIn (Wd ro) (n-1) P f args w₂ (rangePost (Wd ro) n P l Q { a with defers:=mark++a.defers }):=by
 obtain⟨b,H4⟩:∃b:LoopState->Option Code->Loop,b=λst pe=>{ state:=st,pending:=pe,fn,tmps:=a.tmps,params:=N,assign,body,defers:=dfs }:=⟨_,rfl⟩;have Hm:W1.heap[l]?=C (.loop (b .ready none)):=by rw[H4];exact Z
 -- the record's own turns
 have O:∀(A:World) (o j:Obj),A.heap[l]?=C o->o.isCells=false->Moves (am (λ_ _=>False) w.heap.size) A (A.putObj l j):=λA o j G hc=>
  Moves.refl.putObj (λZ h₁=>by rw[G]at h₁;cases h₁;exact .inr ⟨Hv,hc⟩) j
 have cj:∀s A o j,I s A->A.heap[l]?=C o->o.isCells=false->I s (A.putObj l j):=λs A o j hi G hc=>
  hI s _ _ hi ((O A o j G hc).weaken (λk o h=>by rcases h with h | h;exact h.elim;exact .inr h))
 have Hl:∀c s A o j,L c s A->A.heap[l]?=C o->o.isCells=false->L c s (A.putObj l j):=λc s A o j hi G hc=>
  hIx c s _ _ hi ((O A o j G hc).weaken (λk o h=>by rcases h with h | h;exact h.elim;exact .inr h))
 have Hx:l<W1.heap.size:=(P1.1 Hm).1;have V:∀A j,X A->X (A.putObj l j):=λA j hx=>hX A _ hx (λk o hk _ _ j _=>(P4 j).trans hk);have H8:∀ {K':Nat->Obj->Prop} (A B:World),X A->Kept (am K' w.heap.size) A B->X B:=λA B hx hk=>
  hX A B hx (λk o G hn _ _ hc=>hk.same k o G (.inr ⟨hn,hc⟩))
 have H9:∀(A B:World) (k:Nat) (o:Obj),A.heap[k]?=C o->k<W1.heap.size->o.isCells=false->Moves (am M W1.heap.size) A B->B.heap[k]?=C o:=λA B k o G hk hc hm=>
  hm.same k o G (λh=>by
   rcases h with h | h
   ·have:=hMc k o h;rw[hc]at this;cases this
   omega)
 have Z:∀(A B:World),X A->Moves (am M W1.heap.size) A B->X B:=λA B hx hm=>
  hX A B hx (λk o G _ j _ hc=>H9 A B k o G j hc hm)
 have j:∀(A B:World),Moves (am M W1.heap.size) A B->Moves (am M w.heap.size) A B:=λA B hm=>
  hm.weaken (λk o h=>by rcases h with h | h;exact .inl h;exact .inr ⟨by omega,h.2⟩)
 refine⟨l,mark,W1,{ target:=.fn (.func gf) lb,args:=#[.func (.yield l) #[] #[]] },W1,gf,#[.func (.yield l) #[] #[]]++lb,W1,H2,?_,λ_ _=>trivial,?_,λh=>by simp[Fence.wide]at h,?_⟩
 ·simp only[resolve,hg];simp[go_sem]
 ·simp[invoke,go_sem,eg]
 ·refine callsIn_wd.2 ?_;refine(hseq l
   (λH0 W=>I H0 W/\W.heap[l]?=C (.loop (b .ready none))/\X W)
   (λH0 W=>∃c,L c H0 W/\W.heap[l]?=C (.loop (b .done (some c)))/\X W)
   (λc W=>S c W/\X W)
   (λs A B hs hm=>⟨hI s A B hs.1 (j A B hm),H9 A B l _ hs.2.1 Hx rfl hm,Z A B hs.2.2 hm⟩)
   (λs A B hs hm=>by
     obtain⟨c,hc,hl,hx⟩:=hs;exact⟨c,hIx c s A B hc (j A B hm),H9 A B l _ hl Hx rfl hm,Z A B hx hm⟩)
   (λc A B hs hm=>⟨hIp c A B hs.1 (j A B hm),Z A B hs.2 hm⟩)
   ?_ ⟨Kk,Hm,K0⟩).mono ?_
  · -- ONE ROUND
   rintro H0 x H3 Z W H⟨hi,hl,hx⟩j j;have G:=run_yield (P:=P) (args:=H) hl (by rw[H4];exact hps x H W j);rw[H4]at G;refine⟨fn,_,assign,body,G,?_⟩;have G:=CH hfn (F:=Wd (some l)) (n:=n) (P:=P) (l:=l) (f:=fn) (w:=W) (assign:=assign) (body:=body) (tmps:=(N.zip H).foldl (λt (p,v)=>t.setIfInBounds p v) a.tmps)
    (R:=λe W'=>(Kept (am K W1.heap.size) W W'/\((e=.returned (E true)/\I (H0++[x]) W'/\W'.heap[l]?=C (.loop (b .ready none))/\X W') \/
      (e=.returned (E false)/\∃c,L c (H0++[x]) W'/\W'.heap[l]?=C (.loop (b .done (some c)))/\X W')))\/∃c,e=.panicked c/\S c W'/\X W')
    trivial (H6 l H0 x H3 W H _ Z hi (by omega) j ?_)
   ·exact⟨trivial,λc cs _=>G.2 c cs (room_wide _)⟩
   ·intro z G Y N L;have j:=Y.same l _ hl (.inr ⟨Hv,rfl⟩);have HY:=H8 W G hx Y;have I:l<G.heap.size:=(P1.1 j).1;refine⟨_,run_beginRound j (by rw[H4]),?_⟩;have H:(G.putObj l (.loop { b .ready none with state:=.busy })).heap[l]?=C (.loop { b .ready none with state:=.busy }):=P5 I;refine wpIn_mono (H7 l H0 x H3 z _ Z Hv ⟨_,H⟩ (cj _ _ _ _ N j rfl) (by simp;have:=Y.size;omega) (hAx x z _ _ L (O _ _ _ j rfl))) ?_
    -- what is known behind the body
    have J:∀(j:Option Code) (q:World),Kept (am K w.heap.size) (G.putObj l (.loop { b .ready none with state:=.busy })) q ->
      (Instr.endRound l j).run P q=.ok (E j.isNone) (q.putObj l (.loop (b (if j.isNone then .ready else .done) j))) /\
      q.heap[l]?=C (.loop { b .ready none with state:=.busy }) /\
      (q.putObj l (.loop (b (if j.isNone then .ready else .done) j))).heap[l]?=C (.loop (b (if j.isNone then .ready else .done) j)) /\
      X (q.putObj l (.loop (b (if j.isNone then .ready else .done) j))) /\
      Kept (am K W1.heap.size) W (q.putObj l (.loop (b (if j.isNone then .ready else .done) j))):=λj q m=>by
     have y:=m.same l _ H (.inr ⟨Hv,rfl⟩);have b:=run_endRound (P:=P) j y;rw[H4]at b⊢;refine⟨b,by rw[H4]at y;exact y,P5 (P1.1 y).1,V _ _ (H8 _ _ (V _ _ HY) m),⟨?_,?_⟩⟩
     ·have h1:=Y.size;have h2:=m.size;simp at h2⊢;omega
     intro k o hk hK;have HP:am K w.heap.size k o:=by
      rcases hK with h | h
      ·exact .inl h
      exact .inr ⟨by omega,h.2⟩
     by_cases e:k=l
     ·subst e;rw[hl]at hk;cases hk;rcases hK with h | h
      ·exact absurd rfl (HO _ _ h _)
      omega
     have h1:=Y.same k o hk HP;have h2:=m.same k o ((P4 e).trans h1) HP;exact(P4 e).trans h2
    rintro e b q U;cases e with
    |normal=>
     obtain⟨m,G⟩:=U;obtain⟨H,y,j,z,b⟩:=J none q m;exact⟨_,_,H,.inl ⟨b,.inl ⟨rfl,cj _ _ _ _ G y rfl,j,z⟩⟩⟩
    |ret=>
     obtain⟨m,G⟩:=U;obtain⟨H,y,j,z,b⟩:=J (some .ret) q m;exact⟨_,_,H,.inl ⟨b,.inr ⟨rfl,.ret,Hl _ _ _ _ _ G y rfl,j,z⟩⟩⟩
    |exit id=>
     obtain⟨m,G⟩:=U;obtain⟨H,y,j,z,b⟩:=J (some (.exit id)) q m;exact⟨_,_,H,.inl ⟨b,.inr ⟨rfl,.exit id,Hl _ _ _ _ _ G y rfl,j,z⟩⟩⟩
    |goto t=>
     obtain⟨m,G⟩:=U;obtain⟨H,y,j,z,b⟩:=J (some (.goto t)) q m;exact⟨_,_,H,.inl ⟨b,.inr ⟨rfl,.goto t,Hl _ _ _ _ _ G y rfl,j,z⟩⟩⟩
    |panic ch=>
     obtain⟨j,m,b⟩:=U;exact⟨j,.inr ⟨ch,rfl,b,H8 _ _ (V _ _ HY) m⟩⟩
    |outgrown=>exact U.elim
  · -- BEHIND THE ITERATOR
   rintro e b(⟨Hr,⟨v,rfl⟩,hi,hl,hx⟩|⟨c,Hr,rfl,hi,hl,hx⟩|⟨⟨v,rfl⟩,H0,hpre,c,hi,hl,hx⟩|⟨c,rfl,hi,hx⟩)
   ·exact⟨none,_,by have:=run_endLoop (P:=P) hl (by rw[H4];simp);rw[H4]at this;exact this,He _ Hr (cj _ _ _ _ hi hl rfl) (V _ _ hx)⟩
   ·exact Hp c _ Hr hi hx
   ·exact⟨some c,_,by have:=run_endLoop (P:=P) hl (by rw[H4];simp);rw[H4]at this;exact this,Ht c H0 _ hpre (Hl _ _ _ _ _ hi hl rfl) (V _ _ hx)⟩
   ·exact Hq c _ hi hx
theorem MU{α:Type}{f0:FuncId}(hf0:∃g,P.funcs[f0]?=C g){g:Operand}{d:Array Tmp}{gf:Nat}{lb:Array Value}(hg:a.eval g=.func (.func gf) #[] lb)(eg:∀args w,(callFunc gf args).run P w=.ok (.enter gf args) w){Rp:α->Array Value->World->Prop}{K M:Nat->Obj->Prop}{xs:List α}{pn:Option (List PanicEntry)}(hseq:∀W1,Below w.heap.size w W1->W1.heap.size=w.heap.size+2->py P gf lb Rp K M xs pn W1)(hMc:∀k o,M k o->o.isCells=true)(q:∀k o,K k o->∀r,o≠.loop r)(hps:∀x j W,Rp x j W->j.size=d.size)(I:List α->World->Prop)(h:Code->List α->World->Prop)(f:List PanicEntry->World->Prop)(hI:∀s A B,I s A->Moves (am M w.heap.size) A B->I s B)(hIx:∀c s A B,h c s A->Moves (am M w.heap.size) A B->h c s B)(hIp:∀c A B,f c A->Moves (am M w.heap.size) A B->f c B)(H:I [] w)(e:α->Act->World->Prop)(hAx:∀x b A B,e x b A->Moves (am (λ_ _=>False) w.heap.size) A B->e x b B)(m:∀(l:Nat) (H0:List α) (x:α) (H3:List α) (W:World) (j:Array Value) (K':Act->World->Prop),xs=H0++x::H3->I H0 W->w.heap.size<=W.heap.size->Rp x j W ->
    (∀b W',Kept (am K w.heap.size) W W'->I H0 W'->e x b W'->K' b W') ->
    assign.wpIn (Wd (some l)) n P (Exit.then K' (λ_ _ _=>False)) { tmps:=(d.zip j).foldl (λt (p,v)=>t.setIfInBounds p v) a.tmps,defers:=[] } W)(j:∀(l:Nat) (H0:List α) (x:α) (H3:List α) (b:Act) (W:World),xs=H0++x::H3->w.heap.size<=l->(∃r,W.heap[l]?=C (.loop r))->I H0 W->w.heap.size<=W.heap.size->e x b W ->
    body.wpIn (Wd (some l)) n P (BN (am K w.heap.size) I h f (H0++[x]) W) b W)(y:∀D W,pn=none->w.heap.size<=D->I xs W->W.heap[D]?=C (.deferred (some []))->Q .normal { a with defers:={ target:=.collected D,args:=#[] }::a.defers } W)(z:∀D c W,pn=C c->w.heap.size<=D->I xs W->W.heap[D]?=C (.deferred (some []))->Q (.panic c) { a with defers:={ target:=.collected D,args:=#[] }::a.defers } W)(Hq:∀D c W,w.heap.size<=D->f c W->W.heap[D]?=C (.deferred (some []))->Q (.panic c) { a with defers:={ target:=.collected D,args:=#[] }::a.defers } W)(E:∀D c H0 W,w.heap.size<=D->H0 <+: xs->h c H0 W->W.heap[D]?=C (.deferred (some []))->c.wpIn (Wd none) n P Q { a with defers:={ target:=.collected D,args:=#[] }::a.defers } W):
  fX f0 P (Code.rangeFunc g d assign body) Q a w:=by
 refine CW (n:=n) ?_;obtain⟨fn,hfn⟩:∃fn,fn=f0:=⟨_,rfl⟩;rw[<-hfn]at hf0⊢;obtain⟨W1,Hk⟩:∃W1,(w.alloc (.deferred (some []))).alloc (.loop { state:=.ready,pending:=none,fn,tmps:=a.tmps,params:=d,assign,body,defers:=w.heap.size })=W1:=⟨_,rfl⟩;have K3:Below w.heap.size w W1:=by rw[<-Hk];exact((Below.refl _ w).alloc (xN _) _).alloc (by simp) _
 have G:W1.heap.size=w.heap.size+2:=by rw[<-Hk];simp
 have b:W1.heap[w.heap.size+1]?=C (.loop { state:=.ready,pending:=none,fn,tmps:=a.tmps,params:=d,assign,body,defers:=w.heap.size }):=by
  rw[<-Hk];have:=P6 (w.alloc (.deferred (some []))) (.loop { state:=.ready,pending:=none,fn,tmps:=a.tmps,params:=d,assign,body,defers:=w.heap.size });rwa[xS]at this
 have d:W1.heap[w.heap.size]?=C (.deferred (some [])):=by
  rw[<-Hk];exact(Below.heap_alloc _ _ _ (by simp)).trans (P6 w _)
 have F:Moves (am M w.heap.size) w W1:=by rw[<-Hk];exact(Moves.refl.alloc _).alloc _
 refine Et (hfn:=hf0) (fn:=fn) (mark:=[{ target:=.collected w.heap.size,args:=#[] }]) (l:=w.heap.size+1) (W1:=W1) (dfs:=w.heap.size) hg eg hMc q hps I h f hI hIx hIp e hAx m j (by omega) (hseq W1 K3 G) (by omega) ?_ b (hI _ _ _ H F)
  (λW=>W.heap[w.heap.size]?=C (.deferred (some []))) ?_ d (λW b hi hx=>y _ W b (xN _) hi hx) (λc W b hi hx=>z _ c W b (xN _) hi hx) (λc W hi hx=>Hq _ c W (xN _) hi hx) (λc H0 W b hi hx=>E _ c H0 W (xN _) b hi hx)
 ·rw[<-Hk];exact run_enterLoop_outer _ _ _ _ _
 ·intro A B hx hk;exact hk _ _ hx (xN _) (by omega) (by omega) rfl
theorem C3{ro:Option Nat}{o:Oper}{next:Act->World->Prop}{l:Nat}{d:Array Value}{W:World}{R:Ending->World->Prop}(k:YieldsAt P l d W R)(h:∀e W',R e W'->(∃b,e=.returned (E b)/\next (a.put o.dst (E b)) W')\/(∃c,e=.panicked c/\Q (.panic c) a W')):
  o.uponIn (Wd ro) n P a next Q ((Instr.yield l d).run P W):=by
 obtain⟨fn,tmps,assign,body,f,g⟩:=k;rw[f];refine⟨λh=>by simp[Fence.wide]at h,(zg (n:=n-1) g).mono ?_⟩;intro e W' j;rcases h e W' j with⟨b,rfl,hn⟩|⟨c,rfl,hn⟩
 ·exact hn
 ·exact hn
end Go.Mv

namespace Go
variable {a:Act} {i n:Nat} {oi:Oper} {v:Value} {w:World}
section
variable {P:Program} {ops:Array Oper} {Q:Exit->Act->World->Prop} {md:Pb} {T:World->Prop} {D:List Nat}
def wpLate(P:Program)(md:Pb)(ops:Array Oper)(Q:Exit->Act->World->Prop)(D:List Nat)(T:World->Prop)(n:Nat):Array Bool->Act->World->Prop:=
 Nat.rec (λd a w=>P7 md ops d=[]/\Q .normal a w)
  (λ_ e d a w=>(P7 md ops d=[]->Q .normal a w)/\∀j,j∈P7 md ops d->wpOp P ops Q j (λb v=>(D.contains j=true->T v)/\e (d.setIfInBounds j true) b v) a w) n
theorem wpLate.any(n:Nat):∀(d:Array Bool) (a:Act) (w:World),wpLate P md ops Q D T n d a w->wpAny P md ops Q n d a w:=by
 induction n with
 |zero=>exact λ_ _ _ h=>h
 |succ n HK=>exact λd a w h=>⟨h.1,λj d=>wpOp_mono (λb v e=>HK _ b v e.2) (h.2 j d)⟩
def zz5(md:Pb)(ops:Array Oper)(D:List Nat)(b:Array Bool)(i:Nat):Bool:=
 (List.range ops.size).all λj=>D.contains j||b.getD j true||(match ops[j]? with | some o=>o.after.any λe=>P9 md e&&e.on==i | none=>true)
theorem zxA(R:World->Prop)(z:∀w,R w->D.contains i=true->T w)(hi:ops[i]?=C oi)(y:∀(j:Nat) (o:Oper) cs b,ops[j]?=C o->o.op≠.select cs b)(F:∀c a w,Q (.panic c) (a.put oi.dst v) w->Q (.panic c) a w)(n:Nat):
  ∀(f:Array Bool) (a:Act) (w:World),
   (∀j g,ops[j]?=C g->j≠i->f.getD j true=false->(∀e∈g.after,P9 md e=true->e.on≠i)->oi.apart ops g=true/\∀w,(D.contains j=true->T w)->R w) ->
   i∈P7 md ops f->YieldsIf P ops R oi v a->R w ->
   wpLate P md ops Q D T n (f.setIfInBounds i true) (a.put oi.dst v) w->wpLate P md ops Q D T (n+1) f a w:=by
 induction n with
 |zero=>
  intro f a w _ k m h H;refine⟨λr=>absurd k (by rw[r];simp),λj l=>?_⟩;rcases Nat.decEq j i with d | rfl
  ·have:=ready_mono l d;rw[H.1]at this;exact absurd this (by simp)
  exact m.wpOp hi h ⟨z w h,H⟩
 |succ n ih=>
  intro f a w hf k m h H;refine⟨λr=>absurd k (by rw[r];simp),λj l=>?_⟩;rcases Nat.decEq j i with d | rfl
  case isTrue=>exact m.wpOp hi h ⟨z w h,H⟩
  have step:=H.2 j (ready_mono l d);obtain⟨t,g,q,h⟩:=mem_ready.1 l;have p:=(mem_ready.1 k).1;have A:∀e∈g.after,P9 md e=true->e.on≠i:=by
   intro e he hb l;have h1:=h e he hb;rw[l]at h1;rcases hg:f[i]? with _ | x
   ·rw[P3,hg]at h1;cases h1
   rw[P3,hg]at h1 p;simp only[Option.getD_some]at h1 p;rw[p]at h1;cases h1
  obtain⟨h,l⟩:=hf j g q d t A;refine wpOp_mono ?_ (wpOp_putIf q h (λcs b=>y i oi cs b hi) (λcs b=>y j g cs b q) F m step);rintro b h⟨Kx,g,B⟩;refine⟨g,ih (f.setIfInBounds j true) b h ?_ (ready_mono k (Ne.symm d)) Kx (l h g) ?_⟩
  ·intro x h hx f E g;refine hf x h hx f ?_ g;rcases Nat.decEq j x with s | rfl
   ·rwa[getD_set_ne true s]at E
   exact t
  ·rw[Array.setIfInBounds_comm _ _ d];exact B
theorem zxl{b:Array Bool}(hi:ops.toList[i]?=C oi)(hs:Pd ops=true)(hf:Pe md ops b i=true)(hl:zz5 md ops D b i=true)(k:(P7 md ops b).contains i=true)(d:∀c a w,Q (.panic c) (a.put oi.dst v) w->Q (.panic c) a w)(l:P8 oi (yielded ops a.tmps)=true)(f:T w)(m:∀w,T w->(execOp a.eval oi).run P w=.ok (.value v) w)(h:wpLate P md ops Q D T n (b.setIfInBounds i true) (a.put oi.dst v) w):wpLate P md ops Q D T (n+1) b a w:=by
 have g:ops[i]?=C oi:=by simpa using hi
 refine zxA T (λ_ h _=>h) g (Pa hs) d n b a w ?_ (by simpa using k) (.inl ⟨l,m⟩) f h;intro j l b k d f;refine⟨Pc g hf j l b k d f,λw g=>g ?_⟩;unfold zz5 at hl;rw[List.all_eq_true]at hl;have h1:=hl j (List.mem_range.2 (P1.1 b).1);rw[b,d,Bool.or_false,Bool.or_eq_true]at h1;rcases h1 with h1 | h1
 ·exact h1
 ·obtain⟨e,he,hb⟩:=Array.any_eq_true'.1 h1;simp only[Bool.and_eq_true,beq_iff_eq]at hb;exact absurd hb.2 (f e he hb.1)
theorem zxq{b:Array Bool}(hi:ops.toList[i]?=C oi)(hs:Pd ops=true)(hf:Pe md ops b i=true)(hD:D.contains i=false)(k:(P7 md ops b).contains i=true)(e:∀c a w,Q (.panic c) (a.put oi.dst v) w->Q (.panic c) a w)(l:P8 oi (yielded ops a.tmps)=true)(m:∀w,(execOp a.eval oi).run P w=.ok (.value v) w)(h:wpLate P md ops Q D T n (b.setIfInBounds i true) (a.put oi.dst v) w):wpLate P md ops Q D T (n+1) b a w:=by
 have d:ops[i]?=C oi:=by simpa using hi
 exact zxA (λ_=>True) (λ_ _ h=>(by rw[hD]at h;cases h)) d (Pa hs) e n b a w (λj o g b e f=>⟨Pc d hf j o g b e f,λ_ _=>trivial⟩) (by simpa using k) (.inl ⟨l,λw _=>m w⟩) trivial h
theorem zw0{o:Oper}{d:Array Bool}(l:ops.toList[i]?=C o)(g:P7 md ops d=[i])(m:P8 o (yielded ops a.tmps)=true)(h:∀K:Act->World->Prop,Shut (∀b v,(D.contains i=true->T v)->((D.contains i=true->T v)->wpLate P md ops Q D T n (d.setIfInBounds i true) b v)->K b v)->Oper.wp P o a w K Q):wpLate P md ops Q D T (n+1) d a w:=by
 have k:ops[i]?=C o:=by simpa using l
 refine⟨λe=>(by rw[g]at e;cases e),λj f=>?_⟩;rw[g]at f;obtain rfl:j=i:=by simpa using f
 refine wpOp_step k λK d=>?_;rw[if_pos m];exact h K λb v h1 h2=>d b v ⟨h1,h2 h1⟩
theorem zyQ{e:Array Bool}(d:P7 md ops e=[])(h:Q .normal a w)(n:Nat):wpLate P md ops Q D T n e a w:=by
 cases n with
 |zero=>exact⟨d,h⟩
 |succ n=>exact⟨λ_=>h,λj b=>(by rw[d]at b;cases b)⟩
theorem zyc(D:List Nat)(T:World->Prop){d:Nat}(hm:P.follows .mixedOrders=true)(b:T w.drew)(h:T w.drew->wpLate P .any ops Q D T ops.size (P2 ops.size false) a w.drew):(Code.region d ops true).wp P Q a w:=
 wp_region_any hm (wpLate.any _ _ _ _ (h b))
end
end Go
