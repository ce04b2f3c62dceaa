/- Merged -/
import Derived.Test.YteggfecbjgbndaaGreatDoorZy1
set_option linter.all false
set_option maxHeartbeats 8000000
set_option maxRecDepth 100000
open Option renaming some->C
open Go.StepsIn renaming trans->P0
open Array renaming getElem?_eq_some_iff->P1,replicate->P2
open Go.World renaming putObj_heap_other->P3,putObj_heap_same->P4,alloc_heap_new->P5
open Go.ComesIn renaming of_steps->P6
open Go.Instr renaming enterLoop->P7
namespace Go.Mv
open Go.RowKit
variable {a:Act} {assign body c:Code} {Q:Exit->Act->World->Prop} {n:Nat} {P:Program} {w:World}
def fX(f0:FuncId)(P:Program)(c:Code)(Q:Exit->Act->World->Prop)(a:Act)(w:World):Prop:=
 ∀(b:Frame) (k:List Item) (cs:List Frame),b.roundOf=none->b.fn=f0 ->
  ∃e a' w',Q e a' w'/\ArrivesIn (Machine.fenced P (Wd none)) P (lone (b.atR a (.code c::k)) cs w) b k cs e a' w'
section
variable {f0:FuncId} {P:Program} {n:Nat} {Q:Exit->Act->World->Prop} {a:Act} {w:World}
theorem lQ(ro:Option Nat)(m:Nat):(Wd ro).room m:=λd hd=>by cases hd
theorem lR(h:c.wpIn (Wd none) n P Q a w):fX f0 P c Q a w:=λb k cs d _=>h b k cs d trivial (lQ _ _)
theorem lM{x y:Code}(h:fX f0 P x (Exit.then (fX f0 P y Q) Q) a w):fX f0 P (Code.seq x y) Q a w:=by
 intro b k cs p hb;have g:(lone (b.atR a (.code (.seq x y)::k)) cs w).fenced P (Wd none):=fenced_calm (n:=0) trivial (lQ _ _) rfl;obtain⟨e,j,m,i,f⟩:=h b (.code y::k) cs p hb;cases e with
 |normal=>
  obtain⟨r,q,s,o,d⟩:=i b k cs p hb;exact⟨r,q,s,o,.of_steps (.head g stepR_seq f) d⟩
 |exit id=>exact⟨_,j,m,i,.of_steps (.one g stepR_seq) (.pass (x:=.code y) rfl (λ_ _=>.inl (by simp)) f)⟩
 |goto l=>exact⟨_,j,m,i,.of_steps (.one g stepR_seq) (.pass (x:=.code y) rfl (λ_ _=>.inl (by simp)) f)⟩
 |ret=>exact⟨_,j,m,i,.of_steps (.one g stepR_seq) (.pass (x:=.code y) rfl (λ_ _=>.inl (by simp)) f)⟩
 |panic ch=>exact⟨_,j,m,i,.of_steps (.one g stepR_seq) (.pass (x:=.code y) rfl (λ_ _=>.inl (by simp)) f)⟩
 |outgrown=>exact⟨_,j,m,i,.of_steps (.one g stepR_seq) (.pass (x:=.code y) rfl (λ_ _=>.inl (by simp)) f)⟩
theorem Iv{g:Nat}(h:fX f0 P c (Exit.inBlock g Q) a w):fX f0 P (Code.block g c) Q a w:=by
 intro b k cs d hb;have m:(lone (b.atR a (.code (.block g c)::k)) cs w).fenced P (Wd none):=fenced_calm (n:=0) trivial (lQ _ _) rfl;have q:b.roundOf.isSome=true->False:=λh=>by rw[d]at h;cases h
 obtain⟨e,j,o,f,i⟩:=h b (.inBlock g::k) cs d hb;cases e with
 |normal=>exact⟨.normal,j,o,f,.head m stepR_block (P0 i (.one (fenced_calm (n:=0) trivial (lQ _ _) rfl) stepR_inBlock))⟩
 |exit id'=>
  by_cases d:id'=g
  ·simp only[Exit.inBlock,d,if_true]at f;exact⟨.normal,j,o,f,.head m stepR_block (i.1 k (by simp[exitTo,d]))⟩
  simp only[Exit.inBlock,d,if_false]at f;have this:(g==id')=false:=by simp;exact λh=>d h.symm
  have hx:exitTo id' (.inBlock g::k)=exitTo id' k:=by simp[exitTo,this]
  exact⟨.exit id',j,o,f,λp d=>.head m stepR_block (i.1 p (by rw[hx];exact d)),λh _=>(q h).elim⟩
 |goto l=>
  have hx:gotoIn l (.inBlock g::k)=gotoIn l k:=by simp[gotoIn]
  exact⟨_,j,o,f,λp d=>.head m stepR_block (i.1 p (by rw[hx];exact d)),λh _=>(q h).elim⟩
 |ret=>exact⟨_,j,o,f,.of_steps (.one m stepR_block) i⟩
 |panic ch=>exact⟨_,j,o,f,.of_steps (.one m stepR_block) i⟩
 |outgrown=>exact⟨_,j,o,f,.of_steps (.one m stepR_block) i⟩
theorem CW{g:Operand}{j:Array Tmp}(h:∃(l:Nat) (mark:List Deferred) (s:World) (d:Deferred) (i:World) (f:FuncId) (args:Array Value) (t:World),
    (P7 f0 a.tmps j assign body none).run P w=.ok (l,mark) s /\
    (resolve a.eval (rangeCall g l) 0).run P s=.ok d i /\
    (∀f',Target.leads P i d.target d.args=C f'->(Wd none).fn f') /\
    (invoke d.target d.args).run P i=.ok (.enter f args) t /\
    ((Wd none).depth.isSome=true->1<=n) /\
    CallsIn (Wd none) (n-1) P f args t (rangePost (Wd none) n P l Q { a with defers:=mark++a.defers })):
  fX f0 P (Code.rangeFunc g j assign body) Q a w:=by
 intro b k cs z hb;obtain⟨l,mark,s,d,i,f,args,t,he,t,i,s,hn,D,i⟩:=h;rw[<-z,<-hb]at he;have r:(Wd none).room (cs.length+1+n):=lQ _ _;have B:(lone (b.atR a (.code (.rangeFunc g j assign body)::k)) cs w).fenced P (Wd none):=by
  refine fenced_lone (.inl trivial) (λf' G=>trivial) (Fence.room_le r (by omega))
 have H3:=stepR_rangeFunc (P:=P) (b:=b) (a:=a) (k:=k) (cs:=cs) (w:=w) he t s;have o:(Wd none).room ((b.atR { a with defers:=mark++a.defers } (.inRangeFunc l::k)::cs).length+1+(n-1)):=lQ _ _;obtain⟨e,x,fr,p,m,hfn,H8⟩:=i (b.atR { a with defers:=mark++a.defers } (.inRangeFunc l::k)::cs) o;cases e with
 |outgrown=>
  obtain⟨i,s,q⟩:=p;exact⟨.outgrown,i,s,q,.inr (Outgrown.of_steps (.one H3) m)⟩
 |returned v=>
  have hl:(lone fr (b.atR { a with defers:=mark++a.defers } (.inRangeFunc l::k)::cs) x).fenced P (Wd none):=fenced_leaving (hfn▸D) o H8;obtain⟨y,F,i,E⟩:=p;have A:StepsIn (Machine.fenced P (Wd none)) P (lone (b.atR a (.code (.rangeFunc g j assign body)::k)) cs w) (lone (b.atR { a with defers:=mark++a.defers } ((y.map Item.code).toList++k)) cs F):=by
   refine .head B H3 (P0 m (.head hl ?_ (.one (fenced_calm (fr:=b.atR { a with defers:=mark++a.defers } (.endRangeFunc l::k)) trivial r rfl) (stepR_endRangeFunc i))));rw[<-finish_atR_inRangeFunc l v];exact step_leave_returned H8
  cases y with
  |none=>exact⟨.normal,_,F,E,A⟩
  |some c=>
   obtain⟨e',j,s,q,i⟩:=E b k cs z trivial r;exact⟨e',j,s,q,.of_steps A i⟩
 |panicked chain=>
  have hl:(lone fr (b.atR { a with defers:=mark++a.defers } (.inRangeFunc l::k)::cs) x).fenced P (Wd none):=fenced_leaving (hfn▸D) o H8;refine⟨.panic chain,_,x,p,.inRangeFunc l::k,.head B H3 (P0 m (.one hl ?_))⟩;rw[<-Frame.raise_atR];exact step_leave_panicked H8
theorem CK{fn:Func}{args:Array Value}{R:Ending->World->Prop}(hf:P.funcs[f0]?=C fn)(hb:fn.body=C c)(h:fX f0 P c (bodyPostM (Wd none) n P fn R) { tmps:=args++P2 (fn.ntmps-args.size) undef,defers:=[] } w):CallsIn (Wd none) n P f0 args w R:=by
 refine⟨trivial,λcs o=>?_⟩;let b:Frame:={ (default:Frame)with fn:=f0,kind:=.normal,roundOf:=none }
 have H3:Frame.enter P f0 args .normal =
   b.atR { tmps:=args++P2 (fn.ntmps-args.size) undef,defers:=[] } [.code c]:=by
  simp[Frame.enter,Frame.atR,hf,hb,b]
 obtain⟨e,a',w',f,g⟩:=h b [] cs rfl rfl;rw[<-H3]at g;have m:(Wd none).fn f0:=trivial;cases e with
 |normal=>
  obtain⟨e',j,i,k,hs,hfn,hl⟩:=leaves_stepsInM a'.defers .returning w' { b.atR a' []with mode:=.returning } cs rfl rfl rfl hf rfl m o f;exact⟨e',j,i,k,P6 (P0 g (.one (fenced_calm (fr:=b.atR a' []) m o rfl) (stepR_end rfl))) hs,hfn,hl⟩
 |ret=>
  obtain⟨p,d⟩:=g.1 rfl;obtain⟨e',j,i,k,hs,hfn,hl⟩:=leaves_stepsInM a'.defers .returning w' { b.atR a' p with mode:=.returning } cs rfl rfl rfl hf rfl m o f;exact⟨e',j,i,k,P6 d hs,hfn,hl⟩
 |panic chain=>
  obtain⟨p,d⟩:=g;obtain⟨e',j,i,k,hs,hfn,hl⟩:=leaves_stepsInM a'.defers (.panicking chain) w' { b.atR a' p with mode:=.panicking chain } cs rfl rfl rfl hf rfl m o f;exact⟨e',j,i,k,P6 d hs,hfn,hl⟩
 |exit id=>exact f.elim
 |goto l=>exact f.elim
 |outgrown=>exact⟨.outgrown,w',b,f,g.resolve_left (by simp[b]),rfl,trivial⟩
end
def I8(P:Program)(l:Nat)(R:Ending->World->Prop):Exit->Act->World->Prop
 |.panic c,a,w=>a.defers=[]/\R (.panicked c) w
 |e,a,w=>roundPost P l R e a w
theorem CH{F:Fence}{l:Nat}{f:FuncId}(hfn:∃g,P.funcs[f]?=C g){tmps:Array Value}{R:Ending->World->Prop}(x:F.fn f)(h:assign.wpIn (F.inRound l) n P (Exit.then (λj p=>∃o,(Instr.beginRound l).run P p=.ok () o/\body.wpIn (F.inRound l) n P (I8 P l R) j o) (λ_ _ _=>False))
    { tmps:=tmps,defers:=[] } w):
  RoundIn F n P l f tmps assign body w R:=by
 refine⟨x,λc cs B=>?_⟩;let b:Frame:={ (default:Frame)with fn:=f,kind:=.normal,roundOf:=C l }
 have y:Frame.round l f tmps assign body .normal=b.atR { tmps:=tmps,defers:=[] } [.code assign,.beginRound,.code body]:=by
  simp[Frame.round,Frame.atR,b]
 have m:(F.inRound l).room ((c::cs).length+1+n):=B;have k:(F.inRound l).fn b.fn:=x;obtain⟨e,j,p,s,q⟩:=h b [.beginRound,.code body] (c::cs) rfl k m;rw[<-y]at q;cases e with
 |normal=>
  obtain⟨o,y,x⟩:=s;have s1:StepsIn (Machine.fenced P (F.inRound l)) P (lone (b.atR j [.beginRound,.code body]) (c::cs) p) (lone (b.atR j [.code body]) (c::cs) o):=
   .one (fenced_calm (fr:=b.atR j [.beginRound,.code body]) k m rfl) (stepR_beginRound rfl y)
  obtain⟨A,r,z,i,d⟩:=x b [] (c::cs) rfl k m;cases A with
  |normal=>
   obtain⟨v,p,o,j⟩:=i;exact⟨.returned v,p,j,(P0 q s1).trans (P0 d (.one (fenced_calm (fr:=b.atR r []) k m rfl) (stepR_round_end rfl rfl o)))⟩
  |ret=>
   obtain⟨v,p,o,j⟩:=i;obtain⟨x,hs⟩:=d.2 rfl;exact⟨.returned v,p,j,(P0 q s1).trans (P0 hs (.one (fenced_calm (fr:=b.atR r (.code .ret::x)) k m rfl) (stepR_round_ret rfl rfl o)))⟩
  |exit id=>
   obtain⟨v,p,o,j⟩:=i;obtain⟨x,y,hs⟩:=d.2 rfl rfl;exact⟨.returned v,p,j,(P0 q s1).trans (P0 hs (.one (fenced_calm (fr:=b.atR r (.code (.exit id)::x)) k m rfl) (stepR_round_exit rfl rfl y o)))⟩
  |goto t=>
   obtain⟨v,p,o,j⟩:=i;obtain⟨x,y,hs⟩:=d.2 rfl rfl;exact⟨.returned v,p,j,(P0 q s1).trans (P0 hs (.one (fenced_calm (fr:=b.atR r (.code (.goto t)::x)) k m rfl) (stepR_round_goto rfl rfl y o)))⟩
  |panic chain=>
   obtain⟨hd,j⟩:=i;obtain⟨o,hs⟩:=d;have hl:({ b.atR r o with mode:=.panicking chain }:Frame).leaving P z (.panicked chain):=⟨rfl,hd,hfn⟩;have K3:(lone { b.atR r o with mode:=.panicking chain } (c::cs) z).fenced P (F.inRound l):=fenced_leaving (n:=n) k m hl;exact⟨.panicked chain,z,j,(P0 q s1).trans (P0 hs (.one K3 (step_leave_panicked hl)))⟩
  |outgrown=>exact i.elim
 |exit id=>exact s.elim
 |goto l=>exact s.elim
 |ret=>exact s.elim
 |panic chain=>exact s.elim
 |outgrown=>exact s.elim
def py(P:Program)(gf:Nat)(lb:Array Value){α:Type}(Rp:α->Array Value->World->Prop)(K M:Nat->Obj->Prop)(xs:List α)(pn:Option (List PanicEntry))(b:World):Prop:=
 ∀(l:Nat) (J Jx:List α->World->Prop) (Jp:List PanicEntry->World->Prop),
  (∀s A B,J s A->Moves (am M b.heap.size) A B->J s B)->(∀s A B,Jx s A->Moves (am M b.heap.size) A B->Jx s B)->(∀c A B,Jp c A->Moves (am M b.heap.size) A B->Jp c B) ->
  (∀H1 x d,xs=H1++x::d->∀(W:World) (av:Array Value),J H1 W->b.heap.size<=W.heap.size->Rp x av W->YieldsAt P l av W λe W'=>
    (Kept (am K b.heap.size) W W'/\((e=.returned (.bool true)/\J (H1++[x]) W')\/(e=.returned (.bool false)/\Jx (H1++[x]) W')))\/∃c,e=.panicked c/\Jp c W') ->
  J [] b ->
  Calls P gf (#[.func (.yield l) #[] #[]]++lb) b λe W'=>(pn=none/\(∃v,e=.returned v)/\J xs W')\/(∃c,pn=C c/\e=.panicked c/\J xs W')\/((∃v,e=.returned v)/\∃H1,H1 <+: xs/\Jx H1 W')\/(∃c,e=.panicked c/\Jp c W')
def BN{α:Type}(K:Nat->Obj->Prop)(I:List α->World->Prop)(b:Code->List α->World->Prop)(d:List PanicEntry->World->Prop)(xs:List α)(W:World):Exit->Act->World->Prop
 |.normal,_,W'=>Kept K W W'/\I xs W'
 |.ret,_,W'=>Kept K W W'/\b .ret xs W'
 |.exit id,_,W'=>Kept K W W'/\b (.exit id) xs W'
 |.goto t,_,W'=>Kept K W W'/\b (.goto t) xs W'
 |.panic c,a,W'=>a.defers=[]/\Kept K W W'/\d c W'
 |.outgrown,_,_=>False
theorem Et{α:Type}{ro:Option Nat}{g:Operand}{L:Array Tmp}{gf:Nat}{lb:Array Value}(hg:a.eval g=.func (.func gf) #[] lb)(eg:∀args w,(callFunc gf args).run P w=.ok (.enter gf args) w){Rp:α->Array Value->World->Prop}{K M:Nat->Obj->Prop}{xs:List α}{pn:Option (List PanicEntry)}(hMc:∀k o,M k o->o.isCells=true)(HK:∀k o,K k o->∀r,o≠.loop r)(hps:∀x E W,Rp x E W->E.size=L.size)(I:List α->World->Prop)(H:Code->List α->World->Prop)(O:List PanicEntry->World->Prop)(hI:∀s A B,I s A->Moves (am M w.heap.size) A B->I s B)(hIx:∀c s A B,H c s A->Moves (am M w.heap.size) A B->H c s B)(hIp:∀c A B,O c A->Moves (am M w.heap.size) A B->O c B)(V:α->Act->World->Prop)(hAx:∀x a' A B,V x a' A->Moves (am (λ_ _=>False) w.heap.size) A B->V x a' B)(H6:∀(l:Nat) (H1:List α) (x:α) (N:List α) (W:World) (E:Array Value) (K':Act->World->Prop),xs=H1++x::N->I H1 W->w.heap.size<=W.heap.size->Rp x E W ->
    (∀a' W',Kept (am K w.heap.size) W W'->I H1 W'->V x a' W'->K' a' W') ->
    assign.wpIn (Wd (some l)) n P (Exit.then K' (λ_ _ _=>False)) { tmps:=(L.zip E).foldl (λt (p,v)=>t.setIfInBounds p v) a.tmps,defers:=[] } W)(H9:∀(l:Nat) (H1:List α) (x:α) (N:List α) (a':Act) (W:World),xs=H1++x::N->w.heap.size<=l->(∃r,W.heap[l]?=C (.loop r))->I H1 W->w.heap.size<=W.heap.size->V x a' W ->
    body.wpIn (Wd (some l)) n P (BN (am K w.heap.size) I H O (H1++[x]) W) a' W){fn:FuncId}(hfn:∃g,P.funcs[fn]?=C g){l:Nat}{mark:List Deferred}{W1:World}{dfs:Nat}(Y:w.heap.size<=l)(hseq:py P gf lb Rp K M xs pn W1)(V:w.heap.size<=W1.heap.size)(H3:(P7 fn a.tmps L assign body ro).run P w=.ok (l,mark) W1)(V:W1.heap[l]?=C (.loop { state:=.ready,pending:=none,fn,tmps:=a.tmps,params:=L,assign,body,defers:=dfs }))(HW:I [] W1)(X:World->Prop)(hX:∀A B,X A->(∀k o,A.heap[k]?=C o->w.heap.size<=k->k<W1.heap.size->k≠l->o.isCells=false->B.heap[k]?=C o)->X B)(HY:X W1)(Hg:∀W,pn=none->I xs W->X W->Q .normal { a with defers:=mark++a.defers } W)(Hy:∀c W,pn=C c->I xs W->X W->Q (.panic c) { a with defers:=mark++a.defers } W)(Hh:∀c W,O c W->X W->Q (.panic c) { a with defers:=mark++a.defers } W)(Hj:∀c H1 W,H1 <+: xs->H c H1 W->X W->c.wpIn (Wd ro) n P Q { a with defers:=mark++a.defers } W):
  ∃(l:Nat) (mark:List Deferred) (w₁:World) (d:Deferred) (w₁':World) (f:FuncId) (args:Array Value) (w₂:World),
   (P7 fn a.tmps L assign body ro).run P w=.ok (l,mark) w₁ /\
   (resolve a.eval (rangeCall g l) 0).run P w₁=.ok d w₁' /\
   (∀f',Target.leads P w₁' d.target d.args=C f'->(Wd ro).fn f') /\
   (invoke d.target d.args).run P w₁'=.ok (.enter f args) w₂ /\
   ((Wd ro).depth.isSome=true->1<=n) /\
   CallsIn (Wd ro) (n-1) P f args w₂ (rangePost (Wd ro) n P l Q { a with defers:=mark++a.defers }):=by
 obtain⟨b,D⟩:∃b:LoopState->Option Code->Loop,b=λst pe=>{ state:=st,pending:=pe,fn,tmps:=a.tmps,params:=L,assign,body,defers:=dfs }:=⟨_,rfl⟩;have HD:W1.heap[l]?=C (.loop (b .ready none)):=by rw[D];exact V
 -- the record's own turns
 have put:∀(A:World) (o i:Obj),A.heap[l]?=C o->o.isCells=false->Moves (am (λ_ _=>False) w.heap.size) A (A.putObj l i):=λA o i z hc=>
  Moves.refl.putObj (λV h₁=>by rw[z]at h₁;cases h₁;exact .inr ⟨Y,hc⟩) i
 have cj:∀s A o i,I s A->A.heap[l]?=C o->o.isCells=false->I s (A.putObj l i):=λs A o i q z hc=>
  hI s _ _ q ((put A o i z hc).weaken (λk o h=>by rcases h with h | h;exact h.elim;exact .inr h))
 have Z:∀c s A o i,H c s A->A.heap[l]?=C o->o.isCells=false->H c s (A.putObj l i):=λc s A o i q z hc=>
  hIx c s _ _ q ((put A o i z hc).weaken (λk o h=>by rcases h with h | h;exact h.elim;exact .inr h))
 have HG:l<W1.heap.size:=(P1.1 HD).1;have U:∀A i,X A->X (A.putObj l i):=λA i hx=>hX A _ hx (λk o J _ _ i _=>(P3 i).trans J);have Hk:∀ {K':Nat->Obj->Prop} (A B:World),X A->Kept (am K' w.heap.size) A B->X B:=λA B hx J=>
  hX A B hx (λk o z hn _ _ hc=>J.same k o z (.inr ⟨hn,hc⟩))
 have Hm:∀(A B:World) (k:Nat) (o:Obj),A.heap[k]?=C o->k<W1.heap.size->o.isCells=false->Moves (am M W1.heap.size) A B->B.heap[k]?=C o:=λA B k o z J hc hm=>
  hm.same k o z (λh=>by
   rcases h with h | h
   ·have:=hMc k o h;rw[hc]at this;cases this
   omega)
 have i:∀(A B:World),X A->Moves (am M W1.heap.size) A B->X B:=λA B hx hm=>
  hX A B hx (λk o z _ V _ hc=>Hm A B k o z V hc hm)
 have Hl:∀(A B:World),Moves (am M W1.heap.size) A B->Moves (am M w.heap.size) A B:=λA B hm=>
  hm.weaken (λk o h=>by rcases h with h | h;exact .inl h;exact .inr ⟨by omega,h.2⟩)
 refine⟨l,mark,W1,{ target:=.fn (.func gf) lb,args:=#[.func (.yield l) #[] #[]] },W1,gf,#[.func (.yield l) #[] #[]]++lb,W1,H3,?_,λ_ _=>trivial,?_,λh=>by simp[Fence.wide]at h,?_⟩
 ·simp only[resolve,hg];simp[go_sem]
 ·simp[invoke,go_sem,eg]
 ·refine callsIn_wd.2 ?_;refine(hseq l
   (λH1 W=>I H1 W/\W.heap[l]?=C (.loop (b .ready none))/\X W)
   (λH1 W=>∃c,H c H1 W/\W.heap[l]?=C (.loop (b .done (some c)))/\X W)
   (λc W=>O c W/\X W)
   (λs A B hs hm=>⟨hI s A B hs.1 (Hl A B hm),Hm A B l _ hs.2.1 HG rfl hm,i A B hs.2.2 hm⟩)
   (λs A B hs hm=>by
     obtain⟨c,hc,hl,hx⟩:=hs;exact⟨c,hIx c s A B hc (Hl A B hm),Hm A B l _ hl HG rfl hm,i A B hx hm⟩)
   (λc A B hs hm=>⟨hIp c A B hs.1 (Hl A B hm),i A B hs.2 hm⟩)
   ?_ ⟨HW,HD,HY⟩).mono ?_
  · -- ONE ROUND
   rintro H1 x N V W E⟨q,hl,hx⟩Kb i;have z:=run_yield (P:=P) (args:=E) hl (by rw[D];exact hps x E W i);rw[D]at z;refine⟨fn,_,assign,body,z,?_⟩;have z:=CH hfn (F:=Wd (some l)) (n:=n) (P:=P) (l:=l) (f:=fn) (w:=W) (assign:=assign) (body:=body) (tmps:=(L.zip E).foldl (λt (p,v)=>t.setIfInBounds p v) a.tmps)
    (R:=λe W'=>(Kept (am K W1.heap.size) W W'/\((e=.returned (.bool true)/\I (H1++[x]) W'/\W'.heap[l]?=C (.loop (b .ready none))/\X W') \/
      (e=.returned (.bool false)/\∃c,H c (H1++[x]) W'/\W'.heap[l]?=C (.loop (b .done (some c)))/\X W')))\/∃c,e=.panicked c/\O c W'/\X W')
    trivial (H6 l H1 x N W E _ V q (by omega) i ?_)
   ·exact⟨trivial,λc cs _=>z.2 c cs (room_wide _)⟩
   ·intro a' z T I H;have i:=T.same l _ hl (.inr ⟨Y,rfl⟩);have HT:=Hk W z hx T;have E:l<z.heap.size:=(P1.1 i).1;refine⟨_,run_beginRound i (by rw[D]),?_⟩;have B:(z.putObj l (.loop { b .ready none with state:=.busy })).heap[l]?=C (.loop { b .ready none with state:=.busy }):=P4 E;refine wpIn_mono (H9 l H1 x N a' _ V Y ⟨_,B⟩ (cj _ _ _ _ I i rfl) (by simp;have:=T.size;omega) (hAx x a' _ _ H (put _ _ _ i rfl))) ?_
    -- what is known behind the body
    have G:∀(i:Option Code) (m:World),Kept (am K w.heap.size) (z.putObj l (.loop { b .ready none with state:=.busy })) m ->
      (Instr.endRound l i).run P m=.ok (.bool i.isNone) (m.putObj l (.loop (b (if i.isNone then .ready else .done) i))) /\
      m.heap[l]?=C (.loop { b .ready none with state:=.busy }) /\
      (m.putObj l (.loop (b (if i.isNone then .ready else .done) i))).heap[l]?=C (.loop (b (if i.isNone then .ready else .done) i)) /\
      X (m.putObj l (.loop (b (if i.isNone then .ready else .done) i))) /\
      Kept (am K W1.heap.size) W (m.putObj l (.loop (b (if i.isNone then .ready else .done) i))):=λi m j=>by
     have y:=j.same l _ B (.inr ⟨Y,rfl⟩);have b:=run_endRound (P:=P) i y;rw[D]at b⊢;refine⟨b,by rw[D]at y;exact y,P4 (P1.1 y).1,U _ _ (Hk _ _ (U _ _ HT) j),⟨?_,?_⟩⟩
     ·have h1:=T.size;have h2:=j.size;simp at h2⊢;omega
     intro k o J hK;have HP:am K w.heap.size k o:=by
      rcases hK with h | h
      ·exact .inl h
      exact .inr ⟨by omega,h.2⟩
     by_cases e:k=l
     ·subst e;rw[hl]at J;cases J;rcases hK with h | h
      ·exact absurd rfl (HK _ _ h _)
      omega
     have h1:=T.same k o J HP;have h2:=j.same k o ((P3 e).trans h1) HP;exact(P3 e).trans h2
    rintro e a3 m S;cases e with
    |normal=>
     obtain⟨j,i⟩:=S;obtain⟨E,y,B,b,z⟩:=G none m j;exact⟨_,_,E,.inl ⟨z,.inl ⟨rfl,cj _ _ _ _ i y rfl,B,b⟩⟩⟩
    |ret=>
     obtain⟨j,i⟩:=S;obtain⟨E,y,B,b,z⟩:=G (some .ret) m j;exact⟨_,_,E,.inl ⟨z,.inr ⟨rfl,.ret,Z _ _ _ _ _ i y rfl,B,b⟩⟩⟩
    |exit id=>
     obtain⟨j,i⟩:=S;obtain⟨E,y,B,b,z⟩:=G (some (.exit id)) m j;exact⟨_,_,E,.inl ⟨z,.inr ⟨rfl,.exit id,Z _ _ _ _ _ i y rfl,B,b⟩⟩⟩
    |goto t=>
     obtain⟨j,i⟩:=S;obtain⟨E,y,B,b,z⟩:=G (some (.goto t)) m j;exact⟨_,_,E,.inl ⟨z,.inr ⟨rfl,.goto t,Z _ _ _ _ _ i y rfl,B,b⟩⟩⟩
    |panic ch=>
     obtain⟨hd,j,b⟩:=S;exact⟨hd,.inr ⟨ch,rfl,b,Hk _ _ (U _ _ HT) j⟩⟩
    |outgrown=>exact S.elim
  · -- BEHIND THE ITERATOR
   rintro e b(⟨Hz,⟨v,rfl⟩,q,hl,hx⟩|⟨c,Hz,rfl,q,hl,hx⟩|⟨⟨v,rfl⟩,H1,hpre,c,q,hl,hx⟩|⟨c,rfl,q,hx⟩)
   ·exact⟨none,_,by have:=run_endLoop (P:=P) hl (by rw[D];simp);rw[D]at this;exact this,Hg _ Hz (cj _ _ _ _ q hl rfl) (U _ _ hx)⟩
   ·exact Hy c _ Hz q hx
   ·exact⟨some c,_,by have:=run_endLoop (P:=P) hl (by rw[D];simp);rw[D]at this;exact this,Hj c H1 _ hpre (Z _ _ _ _ _ q hl rfl) (U _ _ hx)⟩
   ·exact Hh c _ q hx
theorem MU{α:Type}{f0:FuncId}(hf0:∃g,P.funcs[f0]?=C g){g:Operand}{b:Array Tmp}{gf:Nat}{lb:Array Value}(hg:a.eval g=.func (.func gf) #[] lb)(eg:∀args w,(callFunc gf args).run P w=.ok (.enter gf args) w){Rp:α->Array Value->World->Prop}{K M:Nat->Obj->Prop}{xs:List α}{pn:Option (List PanicEntry)}(hseq:∀W1,Below w.heap.size w W1->W1.heap.size=w.heap.size+2->py P gf lb Rp K M xs pn W1)(hMc:∀k o,M k o->o.isCells=true)(m:∀k o,K k o->∀r,o≠.loop r)(hps:∀x d W,Rp x d W->d.size=b.size)(I:List α->World->Prop)(h:Code->List α->World->Prop)(f:List PanicEntry->World->Prop)(hI:∀s A B,I s A->Moves (am M w.heap.size) A B->I s B)(hIx:∀c s A B,h c s A->Moves (am M w.heap.size) A B->h c s B)(hIp:∀c A B,f c A->Moves (am M w.heap.size) A B->f c B)(J:I [] w)(e:α->Act->World->Prop)(hAx:∀x a' A B,e x a' A->Moves (am (λ_ _=>False) w.heap.size) A B->e x a' B)(i:∀(l:Nat) (H1:List α) (x:α) (H4:List α) (W:World) (d:Array Value) (K':Act->World->Prop),xs=H1++x::H4->I H1 W->w.heap.size<=W.heap.size->Rp x d W ->
    (∀a' W',Kept (am K w.heap.size) W W'->I H1 W'->e x a' W'->K' a' W') ->
    assign.wpIn (Wd (some l)) n P (Exit.then K' (λ_ _ _=>False)) { tmps:=(b.zip d).foldl (λt (p,v)=>t.setIfInBounds p v) a.tmps,defers:=[] } W)(j:∀(l:Nat) (H1:List α) (x:α) (H4:List α) (a':Act) (W:World),xs=H1++x::H4->w.heap.size<=l->(∃r,W.heap[l]?=C (.loop r))->I H1 W->w.heap.size<=W.heap.size->e x a' W ->
    body.wpIn (Wd (some l)) n P (BN (am K w.heap.size) I h f (H1++[x]) W) a' W)(y:∀D W,pn=none->w.heap.size<=D->I xs W->W.heap[D]?=C (.deferred (some []))->Q .normal { a with defers:={ target:=.collected D,args:=#[] }::a.defers } W)(F:∀D c W,pn=C c->w.heap.size<=D->I xs W->W.heap[D]?=C (.deferred (some []))->Q (.panic c) { a with defers:={ target:=.collected D,args:=#[] }::a.defers } W)(z:∀D c W,w.heap.size<=D->f c W->W.heap[D]?=C (.deferred (some []))->Q (.panic c) { a with defers:={ target:=.collected D,args:=#[] }::a.defers } W)(E:∀D c H1 W,w.heap.size<=D->H1 <+: xs->h c H1 W->W.heap[D]?=C (.deferred (some []))->c.wpIn (Wd none) n P Q { a with defers:={ target:=.collected D,args:=#[] }::a.defers } W):
  fX f0 P (Code.rangeFunc g b assign body) Q a w:=by
 refine CW (n:=n) ?_;obtain⟨fn,hfn⟩:∃fn,fn=f0:=⟨_,rfl⟩;rw[<-hfn]at hf0⊢;obtain⟨W1,d⟩:∃W1,(w.alloc (.deferred (some []))).alloc (.loop { state:=.ready,pending:=none,fn,tmps:=a.tmps,params:=b,assign,body,defers:=w.heap.size })=W1:=⟨_,rfl⟩;have D:Below w.heap.size w W1:=by rw[<-d];exact((Below.refl _ w).alloc (xN _) _).alloc (by simp) _
 have H:W1.heap.size=w.heap.size+2:=by rw[<-d];simp
 have q:W1.heap[w.heap.size+1]?=C (.loop { state:=.ready,pending:=none,fn,tmps:=a.tmps,params:=b,assign,body,defers:=w.heap.size }):=by
  rw[<-d];have:=P5 (w.alloc (.deferred (some []))) (.loop { state:=.ready,pending:=none,fn,tmps:=a.tmps,params:=b,assign,body,defers:=w.heap.size });rwa[xS]at this
 have b:W1.heap[w.heap.size]?=C (.deferred (some [])):=by
  rw[<-d];exact(Below.heap_alloc _ _ _ (by simp)).trans (P5 w _)
 have G:Moves (am M w.heap.size) w W1:=by rw[<-d];exact(Moves.refl.alloc _).alloc _
 refine Et (hfn:=hf0) (fn:=fn) (mark:=[{ target:=.collected w.heap.size,args:=#[] }]) (l:=w.heap.size+1) (W1:=W1) (dfs:=w.heap.size) hg eg hMc m hps I h f hI hIx hIp e hAx i j (by omega) (hseq W1 D H) (by omega) ?_ q (hI _ _ _ J G)
  (λW=>W.heap[w.heap.size]?=C (.deferred (some []))) ?_ b (λW e b hx=>y _ W e (xN _) b hx) (λc W e b hx=>F _ c W e (xN _) b hx) (λc W b hx=>z _ c W (xN _) b hx) (λc H1 W e b hx=>E _ c H1 W (xN _) e b hx)
 ·rw[<-d];exact run_enterLoop_outer _ _ _ _ _
 ·intro A B hx b;exact b _ _ hx (xN _) (by omega) (by omega) rfl
theorem C3{ro:Option Nat}{o:Oper}{next:Act->World->Prop}{l:Nat}{d:Array Value}{W:World}{R:Ending->World->Prop}(j:YieldsAt P l d W R)(h:∀e W',R e W'->(∃b,e=.returned (.bool b)/\next (a.put o.dst (.bool b)) W')\/(∃c,e=.panicked c/\Q (.panic c) a W')):
  o.uponIn (Wd ro) n P a next Q ((Instr.yield l d).run P W):=by
 obtain⟨fn,tmps,assign,body,f,g⟩:=j;rw[f];refine⟨λh=>by simp[Fence.wide]at h,(zg (n:=n-1) g).mono ?_⟩;intro e W' i;rcases h e W' i with⟨b,rfl,hn⟩|⟨c,rfl,hn⟩
 ·exact hn
 ·exact hn
end Go.Mv
