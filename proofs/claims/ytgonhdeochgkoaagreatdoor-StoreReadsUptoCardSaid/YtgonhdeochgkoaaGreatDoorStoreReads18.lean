/- Merged: LibQ Tup Rd5 Rd6 -/
import Derived.Test.YtgonhdeochgkoaaGreatDoorStoreReads17
import Derived.Deep.QuietTactic
import Derived.BigQuiet
set_option linter.all false
set_option maxHeartbeats 8000000
set_option maxRecDepth 100000
namespace Go.Mv
open Go.RowKit
def zha (f0:FuncId) (P:Program) (c:Code) (Q:Exit→Act→World→Prop) (a:Act) (w:World):Prop :=
 ∀ (b:Frame) (k:List Item) (cs:List Frame),b.roundOf=none→b.fn=f0 →
  ∃ e a' w',Q e a' w'∧ArrivesIn (Machine.fenced P (Wd none)) P (lone (b.atR a (.code c::k)) cs w) b k cs e a' w'
section
variable {f0:FuncId} {P:Program} {n:Nat} {Q:Exit→Act→World→Prop} {a:Act} {w:World}
theorem zfl (ro:Option Nat) (m:Nat):(Wd ro).room m:=fun d hd=>by cases hd
theorem zfm {c:Code} (h:c.wpIn (Wd none) n P Q a w):zha f0 P c Q a w:=fun b k cs hr _=>h b k cs hr trivial (zfl _ _)
theorem zex {x y:Code} (h:zha f0 P x (Exit.then (zha f0 P y Q) Q) a w):zha f0 P (Code.seq x y) Q a w:=by
 intro b k cs hro hb
 have h0:(lone (b.atR a (.code (.seq x y)::k)) cs w).fenced P (Wd none):=fenced_calm (n:=0) trivial (zfl _ _) rfl
 obtain ⟨e,a₁,w₁,hq,harr⟩:=h b (.code y::k) cs hro hb
 cases e with
 | normal =>
  obtain ⟨e₂,a₂,w₂,hq₂,harr₂⟩:=hq b k cs hro hb
  exact ⟨e₂,a₂,w₂,hq₂,.of_steps (.head h0 stepR_seq harr) harr₂⟩
 | exit id=>exact ⟨_,a₁,w₁,hq,.of_steps (.one h0 stepR_seq) (.pass (x:=.code y) rfl (fun _ _=>.inl (by simp)) harr)⟩
 | goto l=>exact ⟨_,a₁,w₁,hq,.of_steps (.one h0 stepR_seq) (.pass (x:=.code y) rfl (fun _ _=>.inl (by simp)) harr)⟩
 | ret=>exact ⟨_,a₁,w₁,hq,.of_steps (.one h0 stepR_seq) (.pass (x:=.code y) rfl (fun _ _=>.inl (by simp)) harr)⟩
 | panic ch=>exact ⟨_,a₁,w₁,hq,.of_steps (.one h0 stepR_seq) (.pass (x:=.code y) rfl (fun _ _=>.inl (by simp)) harr)⟩
 | outgrown=>exact ⟨_,a₁,w₁,hq,.of_steps (.one h0 stepR_seq) (.pass (x:=.code y) rfl (fun _ _=>.inl (by simp)) harr)⟩
theorem zo4 {id:Nat} {c:Code} (h:zha f0 P c (Exit.inBlock id Q) a w):zha f0 P (Code.block id c) Q a w:=by
 intro b k cs hro hb
 have h0:(lone (b.atR a (.code (.block id c)::k)) cs w).fenced P (Wd none):=fenced_calm (n:=0) trivial (zfl _ _) rfl
 have hr:b.roundOf.isSome=true→False:=fun h=>by rw[hro] at h;cases h
 obtain ⟨e,a₁,w₁,hq,harr⟩:=h b (.inBlock id::k) cs hro hb
 cases e with
 | normal=>exact ⟨.normal,a₁,w₁,hq,.head h0 stepR_block (StepsIn.trans harr (.one (fenced_calm (n:=0) trivial (zfl _ _) rfl) stepR_inBlock))⟩
 | exit id' =>
  by_cases hid:id'=id
  ·simp only[Exit.inBlock,hid,if_true] at hq
   exact ⟨.normal,a₁,w₁,hq,.head h0 stepR_block (harr.1 k (by simp[exitTo,hid]))⟩
  ·simp only[Exit.inBlock,hid,if_false] at hq
   have this:(id==id')=false:=by simp;exact fun h=>hid h.symm
   have hx:exitTo id' (.inBlock id::k)=exitTo id' k:=by simp[exitTo,this]
   exact ⟨.exit id',a₁,w₁,hq,fun k' hk=>.head h0 stepR_block (harr.1 k' (by rw[hx];exact hk)),fun h _=>(hr h).elim⟩
 | goto l =>
  have hx:gotoIn l (.inBlock id::k)=gotoIn l k:=by simp[gotoIn]
  exact ⟨_,a₁,w₁,hq,fun k' hk=>.head h0 stepR_block (harr.1 k' (by rw[hx];exact hk)),fun h _=>(hr h).elim⟩
 | ret=>exact ⟨_,a₁,w₁,hq,.of_steps (.one h0 stepR_block) harr⟩
 | panic ch=>exact ⟨_,a₁,w₁,hq,.of_steps (.one h0 stepR_block) harr⟩
 | outgrown=>exact ⟨_,a₁,w₁,hq,.of_steps (.one h0 stepR_block) harr⟩
theorem zkd {g:Operand} {ps:Array Tmp} {assign body:Code}
  (h:∃ (l:Nat) (mark:List Deferred) (w₁:World) (d:Deferred) (w₁':World) (f:FuncId) (args:Array Value) (w₂:World),
    (Instr.enterLoop f0 a.tmps ps assign body none).run P w=.ok (l,mark) w₁ ∧
    (resolve a.eval (rangeCall g l) 0).run P w₁=.ok d w₁' ∧
    (∀ f',Target.leads P w₁' d.target d.args=some f'→(Wd none).fn f') ∧
    (invoke d.target d.args).run P w₁'=.ok (.enter f args) w₂ ∧
    ((Wd none).depth.isSome=true→1≤n) ∧
    CallsIn (Wd none) (n-1) P f args w₂ (rangePost (Wd none) n P l Q { a with defers:=mark++a.defers })) :
  zha f0 P (Code.rangeFunc g ps assign body) Q a w:=by
 intro b k cs hro hb
 obtain ⟨l,mark,w₁,d,w₁',f,args,w₂,he,hres,hlead,hinv,hn,hF,hcall⟩:=h
 rw[←hro,←hb] at he
 have hr:(Wd none).room (cs.length+1+n):=zfl _ _
 have h0:(lone (b.atR a (.code (.rangeFunc g ps assign body)::k)) cs w).fenced P (Wd none):=by
  refine fenced_lone (.inl trivial) (fun f' hf'=>trivial) (Fence.room_le hr (by omega))
 have henter:=stepR_rangeFunc (P:=P) (b:=b) (a:=a) (k:=k) (cs:=cs) (w:=w) he hres hinv
 have hroom:(Wd none).room ((b.atR { a with defers:=mark++a.defers } (.inRangeFunc l::k)::cs).length+1+(n-1)):=zfl _ _
 obtain ⟨e,w₃,fr,hR,hsteps,hfn,hleave⟩:=hcall (b.atR { a with defers:=mark++a.defers } (.inRangeFunc l::k)::cs) hroom
 cases e with
 | outgrown =>
  obtain ⟨a₀,w₀,hq⟩:=hR
  exact ⟨.outgrown,a₀,w₀,hq,.inr (Outgrown.of_steps (.one henter) hsteps)⟩
 | returned v =>
  have hl:(lone fr (b.atR { a with defers:=mark++a.defers } (.inRangeFunc l::k)::cs) w₃).fenced P (Wd none):=fenced_leaving (hfn ▸ hF) hroom hleave
  obtain ⟨jump,w₄,hend,hj⟩:=hR
  have sback:StepsIn (Machine.fenced P (Wd none)) P (lone (b.atR a (.code (.rangeFunc g ps assign body)::k)) cs w) (lone (b.atR { a with defers:=mark++a.defers } ((jump.map Item.code).toList++k)) cs w₄):=by
   refine .head h0 henter (StepsIn.trans hsteps (.head hl ?_ (.one (fenced_calm (fr:=b.atR { a with defers:=mark++a.defers } (.endRangeFunc l::k)) trivial hr rfl) (stepR_endRangeFunc hend))))
   rw[←finish_atR_inRangeFunc l v];exact step_leave_returned hleave
  cases jump with
  | none=>exact ⟨.normal,_,w₄,hj,sback⟩
  | some c =>
   obtain ⟨e',a'',w₅,hq,harr⟩:=hj b k cs hro trivial hr
   exact ⟨e',a'',w₅,hq,.of_steps sback harr⟩
 | panicked chain =>
  have hl:(lone fr (b.atR { a with defers:=mark++a.defers } (.inRangeFunc l::k)::cs) w₃).fenced P (Wd none):=fenced_leaving (hfn ▸ hF) hroom hleave
  refine ⟨.panic chain,_,w₃,hR,.inRangeFunc l::k,.head h0 henter (StepsIn.trans hsteps (.one hl ?_))⟩
  rw[←Frame.raise_atR];exact step_leave_panicked hleave
theorem zjl {fn:Func} {c:Code} {args:Array Value} {R:Ending→World→Prop}
  (hf:P.funcs[f0]?=some fn) (hb:fn.body=some c)
  (h:zha f0 P c (bodyPostM (Wd none) n P fn R) { tmps:=args++Array.replicate (fn.ntmps-args.size) undef,defers:=[] } w):CallsIn (Wd none) n P f0 args w R:=by
 refine ⟨trivial,fun cs hr=>?_⟩
 let b:Frame:={ (default:Frame) with fn:=f0,kind:=.normal,roundOf:=none }
 have henter:Frame.enter P f0 args .normal =
   b.atR { tmps:=args++Array.replicate (fn.ntmps-args.size) undef,defers:=[] } [.code c]:=by
  simp[Frame.enter,Frame.atR,hf,hb,b]
 obtain ⟨e,a',w',hq,harr⟩:=h b [] cs rfl rfl
 rw[←henter] at harr
 have hF:(Wd none).fn f0:=trivial
 cases e with
 | normal =>
  obtain ⟨e',w'',fr',hR,hs,hfn,hl⟩:=leaves_stepsInM a'.defers .returning w' { b.atR a' [] with mode:=.returning } cs rfl rfl rfl hf rfl hF hr hq
  exact ⟨e',w'',fr',hR,ComesIn.of_steps (StepsIn.trans harr (.one (fenced_calm (fr:=b.atR a' []) hF hr rfl) (stepR_end rfl))) hs,hfn,hl⟩
 | ret =>
  obtain ⟨todo,hs₀⟩:=harr.1 rfl
  obtain ⟨e',w'',fr',hR,hs,hfn,hl⟩:=leaves_stepsInM a'.defers .returning w' { b.atR a' todo with mode:=.returning } cs rfl rfl rfl hf rfl hF hr hq
  exact ⟨e',w'',fr',hR,ComesIn.of_steps hs₀ hs,hfn,hl⟩
 | panic chain =>
  obtain ⟨todo,hs₀⟩:=harr
  obtain ⟨e',w'',fr',hR,hs,hfn,hl⟩:=leaves_stepsInM a'.defers (.panicking chain) w' { b.atR a' todo with mode:=.panicking chain } cs rfl rfl rfl hf rfl hF hr hq
  exact ⟨e',w'',fr',hR,ComesIn.of_steps hs₀ hs,hfn,hl⟩
 | exit id=>exact hq.elim
 | goto l=>exact hq.elim
 | outgrown=>exact ⟨.outgrown,w',b,hq,harr.resolve_left (by simp[b]),rfl,trivial⟩
end
def zoK (P:Program) (l:Nat) (R:Ending→World→Prop):Exit→Act→World→Prop
 | .panic c,a,w=>a.defers=[]∧R (.panicked c) w
 | e,a,w=>roundPost P l R e a w
theorem zi3 {F:Fence} {n:Nat} {P:Program} {l:Nat} {f:FuncId} (hfn:∃ g,P.funcs[f]?=some g) {tmps:Array Value} {assign body:Code} {w:World} {R:Ending→World→Prop} (hF:F.fn f)
  (h:assign.wpIn (F.inRound l) n P (Exit.then (fun a₁ w₁=>∃ w₂,(Instr.beginRound l).run P w₁=.ok () w₂∧body.wpIn (F.inRound l) n P (zoK P l R) a₁ w₂) (fun _ _ _=>False))
    { tmps:=tmps,defers:=[] } w) :
  RoundIn F n P l f tmps assign body w R:=by
 refine ⟨hF,fun c cs hr=>?_⟩
 let b:Frame:={ (default:Frame) with fn:=f,kind:=.normal,roundOf:=some l }
 have hb0:Frame.round l f tmps assign body .normal=b.atR { tmps:=tmps,defers:=[] } [.code assign,.beginRound,.code body]:=by
  simp[Frame.round,Frame.atR,b]
 have hr':(F.inRound l).room ((c::cs).length+1+n):=hr
 have hF':(F.inRound l).fn b.fn:=hF
 obtain ⟨e,a₁,w₁,hq,harr⟩:=h b [.beginRound,.code body] (c::cs) rfl hF' hr'
 rw[←hb0] at harr
 cases e with
 | normal =>
  obtain ⟨w₂,hbr,hbody⟩:=hq
  have s1:StepsIn (Machine.fenced P (F.inRound l)) P (lone (b.atR a₁ [.beginRound,.code body]) (c::cs) w₁) (lone (b.atR a₁ [.code body]) (c::cs) w₂) :=
   .one (fenced_calm (fr:=b.atR a₁ [.beginRound,.code body]) hF' hr' rfl) (stepR_beginRound rfl hbr)
  obtain ⟨e₂,a₂,w₃,hq₂,harr₂⟩:=hbody b [] (c::cs) rfl hF' hr'
  cases e₂ with
  | normal =>
   obtain ⟨v,w₄,hend,hR⟩:=hq₂
   exact ⟨.returned v,w₄,hR,(StepsIn.trans harr s1).trans (StepsIn.trans harr₂ (.one (fenced_calm (fr:=b.atR a₂ []) hF' hr' rfl) (stepR_round_end rfl rfl hend)))⟩
  | ret =>
   obtain ⟨v,w₄,hend,hR⟩:=hq₂
   obtain ⟨k₁,hs⟩:=harr₂.2 rfl
   exact ⟨.returned v,w₄,hR,(StepsIn.trans harr s1).trans (StepsIn.trans hs (.one (fenced_calm (fr:=b.atR a₂ (.code .ret::k₁)) hF' hr' rfl) (stepR_round_ret rfl rfl hend)))⟩
  | exit id =>
   obtain ⟨v,w₄,hend,hR⟩:=hq₂
   obtain ⟨k₁,hk,hs⟩:=harr₂.2 rfl rfl
   exact ⟨.returned v,w₄,hR,(StepsIn.trans harr s1).trans (StepsIn.trans hs (.one (fenced_calm (fr:=b.atR a₂ (.code (.exit id)::k₁)) hF' hr' rfl) (stepR_round_exit rfl rfl hk hend)))⟩
  | goto t =>
   obtain ⟨v,w₄,hend,hR⟩:=hq₂
   obtain ⟨k₁,hk,hs⟩:=harr₂.2 rfl rfl
   exact ⟨.returned v,w₄,hR,(StepsIn.trans harr s1).trans (StepsIn.trans hs (.one (fenced_calm (fr:=b.atR a₂ (.code (.goto t)::k₁)) hF' hr' rfl) (stepR_round_goto rfl rfl hk hend)))⟩
  | panic chain =>
   obtain ⟨hd,hR⟩:=hq₂
   obtain ⟨todo,hs⟩:=harr₂
   have hl:({ b.atR a₂ todo with mode:=.panicking chain }:Frame).leaving P w₃ (.panicked chain):=⟨rfl,hd,hfn⟩
   have hfl:(lone { b.atR a₂ todo with mode:=.panicking chain } (c::cs) w₃).fenced P (F.inRound l):=fenced_leaving (n:=n) hF' hr' hl
   exact ⟨.panicked chain,w₃,hR,(StepsIn.trans harr s1).trans (StepsIn.trans hs (.one hfl (step_leave_panicked hl)))⟩
  | outgrown=>exact hq₂.elim
 | exit id=>exact hq.elim
 | goto l=>exact hq.elim
 | ret=>exact hq.elim
 | panic chain=>exact hq.elim
 | outgrown=>exact hq.elim
def znV (P:Program) (gf:Nat) (lb:Array Value) {α:Type} (Rp:α→Array Value→World→Prop) (K M:Nat→Obj→Prop) (xs:List α) (pn:Option (List PanicEntry)) (W0:World):Prop :=
 ∀ (l:Nat) (J Jx:List α→World→Prop) (Jp:List PanicEntry→World→Prop),
  (∀ s A B,J s A→Moves (zab M W0.heap.size) A B→J s B)→(∀ s A B,Jx s A→Moves (zab M W0.heap.size) A B→Jx s B)→(∀ c A B,Jp c A→Moves (zab M W0.heap.size) A B→Jp c B) →
  (∀ pre x post,xs=pre++x::post→∀ (W:World) (av:Array Value),J pre W→W0.heap.size≤W.heap.size→Rp x av W→YieldsAt P l av W fun e W' =>
    (Kept (zab K W0.heap.size) W W'∧((e=.returned (.bool true)∧J (pre++[x]) W')∨(e=.returned (.bool false)∧Jx (pre++[x]) W')))∨∃ c,e=.panicked c∧Jp c W') →
  J [] W0 →
  Calls P gf (#[.func (.yield l) #[] #[]]++lb) W0 fun e W'=>(pn=none∧(∃ v,e=.returned v)∧J xs W')∨(∃ c,pn=some c∧e=.panicked c∧J xs W')∨((∃ v,e=.returned v)∧∃ pre,pre <+: xs∧Jx pre W')∨(∃ c,e=.panicked c∧Jp c W')
def znH {α:Type} (K:Nat→Obj→Prop) (I:List α→World→Prop) (Ix:Code→List α→World→Prop) (Ip:List PanicEntry→World→Prop) (xs:List α) (W:World):Exit→Act→World→Prop
 | .normal,_,W'=>Kept K W W'∧I xs W'
 | .ret,_,W'=>Kept K W W'∧Ix .ret xs W'
 | .exit id,_,W'=>Kept K W W'∧Ix (.exit id) xs W'
 | .goto t,_,W'=>Kept K W W'∧Ix (.goto t) xs W'
 | .panic c,a,W'=>a.defers=[]∧Kept K W W'∧Ip c W'
 | .outgrown,_,_=>False
theorem zm7 {P:Program} {α:Type} {ro:Option Nat} {n:Nat} {g:Operand} {ps:Array Tmp} {assign body:Code} {Q:Exit→Act→World→Prop} {a:Act} {w:World}
  {gf:Nat} {lb:Array Value} (hg:a.eval g=.func (.func gf) #[] lb) (eg:∀ args w,(callFunc gf args).run P w=.ok (.enter gf args) w)
  {Rp:α→Array Value→World→Prop} {K M:Nat→Obj→Prop} {xs:List α} {pn:Option (List PanicEntry)}
  (hMc:∀ k o,M k o→o.isCells=true) (hKc:∀ k o,K k o→∀ r,o≠.loop r) (hps:∀ x av W,Rp x av W→av.size=ps.size)
  (I:List α→World→Prop) (Ix:Code→List α→World→Prop) (Ip:List PanicEntry→World→Prop)
  (hI:∀ s A B,I s A→Moves (zab M w.heap.size) A B→I s B) (hIx:∀ c s A B,Ix c s A→Moves (zab M w.heap.size) A B→Ix c s B) (hIp:∀ c A B,Ip c A→Moves (zab M w.heap.size) A B→Ip c B)
  (Ax:α→Act→World→Prop) (hAx:∀ x a' A B,Ax x a' A→Moves (zab (fun _ _=>False) w.heap.size) A B→Ax x a' B)
  (hassign:∀ (l:Nat) (pre:List α) (x:α) (post:List α) (W:World) (av:Array Value) (K':Act→World→Prop),xs=pre++x::post→I pre W→w.heap.size≤W.heap.size→Rp x av W →
    (∀ a' W',Kept (zab K w.heap.size) W W'→I pre W'→Ax x a' W'→K' a' W') →
    assign.wpIn (Wd (some l)) n P (Exit.then K' (fun _ _ _=>False)) { tmps:=(ps.zip av).foldl (fun t (p,v)=>t.setIfInBounds p v) a.tmps,defers:=[] } W)
  (hbody:∀ (l:Nat) (pre:List α) (x:α) (post:List α) (a':Act) (W:World),xs=pre++x::post→w.heap.size≤l→(∃ r,W.heap[l]?=some (.loop r))→I pre W→w.heap.size≤W.heap.size→Ax x a' W →
    body.wpIn (Wd (some l)) n P (znH (zab K w.heap.size) I Ix Ip (pre++[x]) W) a' W)
  {fn:FuncId} (hfn:∃ g,P.funcs[fn]?=some g) {l:Nat} {mark:List Deferred} {W1:World} {dfs:Nat} (hl0:w.heap.size≤l)
  (hseq:znV P gf lb Rp K M xs pn W1) (hW1:w.heap.size≤W1.heap.size)
  (henter:(Instr.enterLoop fn a.tmps ps assign body ro).run P w=.ok (l,mark) W1)
  (hL1:W1.heap[l]?=some (.loop { state:=.ready,pending:=none,fn,tmps:=a.tmps,params:=ps,assign,body,defers:=dfs }))
  (hI1:I [] W1)
  (X:World→Prop) (hX:∀ A B,X A→(∀ k o,A.heap[k]?=some o→w.heap.size≤k→k<W1.heap.size→k≠l→o.isCells=false→B.heap[k]?=some o)→X B) (hX1:X W1)
  (hdone:∀ W,pn=none→I xs W→X W→Q .normal { a with defers:=mark++a.defers } W)
  (hpan:∀ c W,pn=some c→I xs W→X W→Q (.panic c) { a with defers:=mark++a.defers } W)
  (hpan2:∀ c W,Ip c W→X W→Q (.panic c) { a with defers:=mark++a.defers } W)
  (hstop:∀ c pre W,pre <+: xs→Ix c pre W→X W→c.wpIn (Wd ro) n P Q { a with defers:=mark++a.defers } W) :
  ∃ (l:Nat) (mark:List Deferred) (w₁:World) (d:Deferred) (w₁':World) (f:FuncId) (args:Array Value) (w₂:World),
   (Instr.enterLoop fn a.tmps ps assign body ro).run P w=.ok (l,mark) w₁ ∧
   (resolve a.eval (rangeCall g l) 0).run P w₁=.ok d w₁' ∧
   (∀ f',Target.leads P w₁' d.target d.args=some f'→(Wd ro).fn f') ∧
   (invoke d.target d.args).run P w₁'=.ok (.enter f args) w₂ ∧
   ((Wd ro).depth.isSome=true→1≤n) ∧
   CallsIn (Wd ro) (n-1) P f args w₂ (rangePost (Wd ro) n P l Q { a with defers:=mark++a.defers }):=by
 obtain ⟨rec,hrec⟩:∃ rec:LoopState→Option Code→Loop,rec=fun st pe=>{ state:=st,pending:=pe,fn,tmps:=a.tmps,params:=ps,assign,body,defers:=dfs }:=⟨_,rfl⟩
 have hL1':W1.heap[l]?=some (.loop (rec .ready none)):=by rw[hrec];exact hL1
 -- the record's own turns
 have put:∀ (A:World) (o o':Obj),A.heap[l]?=some o→o.isCells=false→Moves (zab (fun _ _=>False) w.heap.size) A (A.putObj l o'):=fun A o o' ho hc =>
  Moves.refl.putObj (fun o₁ h₁=>by rw[ho] at h₁;cases h₁;exact .inr ⟨hl0,hc⟩) o'
 have zdq:∀ s A o o',I s A→A.heap[l]?=some o→o.isCells=false→I s (A.putObj l o'):=fun s A o o' hi ho hc =>
  hI s _ _ hi ((put A o o' ho hc).weaken (fun k o h=>by rcases h with h | h;exact h.elim;exact .inr h))
 have putIx:∀ c s A o o',Ix c s A→A.heap[l]?=some o→o.isCells=false→Ix c s (A.putObj l o'):=fun c s A o o' hi ho hc =>
  hIx c s _ _ hi ((put A o o' ho hc).weaken (fun k o h=>by rcases h with h | h;exact h.elim;exact .inr h))
 have hlt1:l<W1.heap.size:=(Array.getElem?_eq_some_iff.1 hL1').1
 have putX:∀ A o',X A→X (A.putObj l o'):=fun A o' hx=>hX A _ hx (fun k o hk _ _ hne _=>(World.putObj_heap_other hne).trans hk)
 have keepX:∀ {K':Nat→Obj→Prop} (A B:World),X A→Kept (zab K' w.heap.size) A B→X B:=fun A B hx hk =>
  hX A B hx (fun k o ho hn _ _ hc=>hk.same k o ho (.inr ⟨hn,hc⟩))
 have moveO:∀ (A B:World) (k:Nat) (o:Obj),A.heap[k]?=some o→k<W1.heap.size→o.isCells=false→Moves (zab M W1.heap.size) A B→B.heap[k]?=some o:=fun A B k o ho hk hc hm =>
  hm.same k o ho (fun h=>by
   rcases h with h | h
   ·have:=hMc k o h;rw[hc] at this;cases this
   ·omega)
 have moveX:∀ (A B:World),X A→Moves (zab M W1.heap.size) A B→X B:=fun A B hx hm =>
  hX A B hx (fun k o ho _ hlt _ hc=>moveO A B k o ho hlt hc hm)
 have moveI:∀ (A B:World),Moves (zab M W1.heap.size) A B→Moves (zab M w.heap.size) A B:=fun A B hm =>
  hm.weaken (fun k o h=>by rcases h with h | h;exact .inl h;exact .inr ⟨by omega,h.2⟩)
 refine ⟨l,mark,W1,{ target:=.fn (.func gf) lb,args:=#[.func (.yield l) #[] #[]] },W1,gf,#[.func (.yield l) #[] #[]]++lb,W1,henter,?_,fun _ _=>trivial,?_,fun h=>by simp[Fence.wide] at h,?_⟩
 ·simp only[resolve,hg]
  simp[go_sem]
 ·simp[invoke,go_sem,eg]
 ·refine callsIn_wd.2 ?_
  refine (hseq l
   (fun pre W=>I pre W∧W.heap[l]?=some (.loop (rec .ready none))∧X W)
   (fun pre W=>∃ c,Ix c pre W∧W.heap[l]?=some (.loop (rec .done (some c)))∧X W)
   (fun c W=>Ip c W∧X W)
   (fun s A B hs hm=>⟨hI s A B hs.1 (moveI A B hm),moveO A B l _ hs.2.1 hlt1 rfl hm,moveX A B hs.2.2 hm⟩)
   (fun s A B hs hm=>by
     obtain ⟨c,hc,hl,hx⟩:=hs
     exact ⟨c,hIx c s A B hc (moveI A B hm),moveO A B l _ hl hlt1 rfl hm,moveX A B hx hm⟩)
   (fun c A B hs hm=>⟨hIp c A B hs.1 (moveI A B hm),moveX A B hs.2 hm⟩)
   ?_ ⟨hI1,hL1',hX1⟩).mono ?_
  · -- ONE ROUND
   rintro pre x post hxs W av ⟨hi,hl,hx⟩ hsz hrp
   have hy:=run_yield (P:=P) (args:=av) hl (by rw[hrec];exact hps x av W hrp)
   rw[hrec] at hy
   refine ⟨fn,_,assign,body,hy,?_⟩
   clear hy
   have rd:=zi3 hfn (F:=Wd (some l)) (n:=n) (P:=P) (l:=l) (f:=fn) (w:=W) (assign:=assign) (body:=body) (tmps:=(ps.zip av).foldl (fun t (p,v)=>t.setIfInBounds p v) a.tmps)
    (R:=fun e W'=>(Kept (zab K W1.heap.size) W W'∧((e=.returned (.bool true)∧I (pre++[x]) W'∧W'.heap[l]?=some (.loop (rec .ready none))∧X W') ∨
      (e=.returned (.bool false)∧∃ c,Ix c (pre++[x]) W'∧W'.heap[l]?=some (.loop (rec .done (some c)))∧X W')))∨∃ c,e=.panicked c∧Ip c W'∧X W')
    trivial (hassign l pre x post W av _ hxs hi (by omega) hrp ?_)
   ·exact ⟨trivial,fun c cs _=>rd.2 c cs (room_wide _)⟩
   ·intro a' Wa hka hia hax
    have hla:=hka.same l _ hl (.inr ⟨hl0,rfl⟩)
    have hxa:=keepX W Wa hx hka
    have hlta:l<Wa.heap.size:=(Array.getElem?_eq_some_iff.1 hla).1
    refine ⟨_,run_beginRound hla (by rw[hrec]),?_⟩
    have hl2:(Wa.putObj l (.loop { rec .ready none with state:=.busy })).heap[l]?=some (.loop { rec .ready none with state:=.busy }):=World.putObj_heap_same hlta
    refine wpIn_mono (hbody l pre x post a' _ hxs hl0 ⟨_,hl2⟩ (zdq _ _ _ _ hia hla rfl) (by simp;have:=hka.size;omega) (hAx x a' _ _ hax (put _ _ _ hla rfl))) ?_
    -- what is known behind the body
    have fin:∀ (jump:Option Code) (W3:World),Kept (zab K w.heap.size) (Wa.putObj l (.loop { rec .ready none with state:=.busy })) W3 →
      (Instr.endRound l jump).run P W3=.ok (.bool jump.isNone) (W3.putObj l (.loop (rec (if jump.isNone then .ready else .done) jump))) ∧
      W3.heap[l]?=some (.loop { rec .ready none with state:=.busy }) ∧
      (W3.putObj l (.loop (rec (if jump.isNone then .ready else .done) jump))).heap[l]?=some (.loop (rec (if jump.isNone then .ready else .done) jump)) ∧
      X (W3.putObj l (.loop (rec (if jump.isNone then .ready else .done) jump))) ∧
      Kept (zab K W1.heap.size) W (W3.putObj l (.loop (rec (if jump.isNone then .ready else .done) jump))):=fun jump W3 hk3=>by
     have hl3:=hk3.same l _ hl2 (.inr ⟨hl0,rfl⟩)
     have hrun:=run_endRound (P:=P) jump hl3
     rw[hrec] at hrun ⊢
     refine ⟨hrun,by rw[hrec] at hl3;exact hl3,World.putObj_heap_same (Array.getElem?_eq_some_iff.1 hl3).1,putX _ _ (keepX _ _ (putX _ _ hxa) hk3),⟨?_,?_⟩⟩
     ·have h1:=hka.size;have h2:=hk3.size;simp at h2 ⊢;omega
     ·intro k o hk hK
      have hKw:zab K w.heap.size k o:=by
       rcases hK with h | h
       ·exact .inl h
       ·exact .inr ⟨by omega,h.2⟩
      by_cases e:k=l
      ·subst e
       rw[hl] at hk;cases hk
       rcases hK with h | h
       ·exact absurd rfl (hKc _ _ h _)
       ·omega
      ·have h1:=hka.same k o hk hKw
       have h2:=hk3.same k o ((World.putObj_heap_other e).trans h1) hKw
       exact (World.putObj_heap_other e).trans h2
    rintro e a3 W3 hp
    cases e with
    | normal =>
     obtain ⟨hk3,hi3⟩:=hp
     obtain ⟨hr,hl3,hl4,hx4,hk4⟩:=fin none W3 hk3
     exact ⟨_,_,hr,.inl ⟨hk4,.inl ⟨rfl,zdq _ _ _ _ hi3 hl3 rfl,hl4,hx4⟩⟩⟩
    | ret =>
     obtain ⟨hk3,hi3⟩:=hp
     obtain ⟨hr,hl3,hl4,hx4,hk4⟩:=fin (some .ret) W3 hk3
     exact ⟨_,_,hr,.inl ⟨hk4,.inr ⟨rfl,.ret,putIx _ _ _ _ _ hi3 hl3 rfl,hl4,hx4⟩⟩⟩
    | exit id =>
     obtain ⟨hk3,hi3⟩:=hp
     obtain ⟨hr,hl3,hl4,hx4,hk4⟩:=fin (some (.exit id)) W3 hk3
     exact ⟨_,_,hr,.inl ⟨hk4,.inr ⟨rfl,.exit id,putIx _ _ _ _ _ hi3 hl3 rfl,hl4,hx4⟩⟩⟩
    | goto t =>
     obtain ⟨hk3,hi3⟩:=hp
     obtain ⟨hr,hl3,hl4,hx4,hk4⟩:=fin (some (.goto t)) W3 hk3
     exact ⟨_,_,hr,.inl ⟨hk4,.inr ⟨rfl,.goto t,putIx _ _ _ _ _ hi3 hl3 rfl,hl4,hx4⟩⟩⟩
    | panic ch =>
     obtain ⟨hd,hk3,hip⟩:=hp
     exact ⟨hd,.inr ⟨ch,rfl,hip,keepX _ _ (putX _ _ hxa) hk3⟩⟩
    | outgrown=>exact hp.elim
  · -- BEHIND THE ITERATOR
   rintro e W2 (⟨hpn,⟨v,rfl⟩,hi,hl,hx⟩ | ⟨c,hpn,rfl,hi,hl,hx⟩ | ⟨⟨v,rfl⟩,pre,hpre,c,hi,hl,hx⟩ | ⟨c,rfl,hi,hx⟩)
   ·exact ⟨none,_,by have:=run_endLoop (P:=P) hl (by rw[hrec];simp);rw[hrec] at this;exact this,hdone _ hpn (zdq _ _ _ _ hi hl rfl) (putX _ _ hx)⟩
   ·exact hpan c _ hpn hi hx
   ·exact ⟨some c,_,by have:=run_endLoop (P:=P) hl (by rw[hrec];simp);rw[hrec] at this;exact this,hstop c pre _ hpre (putIx _ _ _ _ _ hi hl rfl) (putX _ _ hx)⟩
   ·exact hpan2 c _ hi hx
theorem zqX {P:Program} {α:Type} {f0:FuncId} (hf0:∃ g,P.funcs[f0]?=some g) {n:Nat} {g:Operand} {ps:Array Tmp} {assign body:Code} {Q:Exit→Act→World→Prop} {a:Act} {w:World}
  {gf:Nat} {lb:Array Value} (hg:a.eval g=.func (.func gf) #[] lb) (eg:∀ args w,(callFunc gf args).run P w=.ok (.enter gf args) w)
  {Rp:α→Array Value→World→Prop} {K M:Nat→Obj→Prop} {xs:List α} {pn:Option (List PanicEntry)}
  (hseq:∀ W1,Below w.heap.size w W1→W1.heap.size=w.heap.size+2→znV P gf lb Rp K M xs pn W1)
  (hMc:∀ k o,M k o→o.isCells=true) (hKc:∀ k o,K k o→∀ r,o≠.loop r) (hps:∀ x av W,Rp x av W→av.size=ps.size)
  (I:List α→World→Prop) (Ix:Code→List α→World→Prop) (Ip:List PanicEntry→World→Prop)
  (hI:∀ s A B,I s A→Moves (zab M w.heap.size) A B→I s B) (hIx:∀ c s A B,Ix c s A→Moves (zab M w.heap.size) A B→Ix c s B) (hIp:∀ c A B,Ip c A→Moves (zab M w.heap.size) A B→Ip c B) (h0:I [] w)
  (Ax:α→Act→World→Prop) (hAx:∀ x a' A B,Ax x a' A→Moves (zab (fun _ _=>False) w.heap.size) A B→Ax x a' B)
  (hassign:∀ (l:Nat) (pre:List α) (x:α) (post:List α) (W:World) (av:Array Value) (K':Act→World→Prop),xs=pre++x::post→I pre W→w.heap.size≤W.heap.size→Rp x av W →
    (∀ a' W',Kept (zab K w.heap.size) W W'→I pre W'→Ax x a' W'→K' a' W') →
    assign.wpIn (Wd (some l)) n P (Exit.then K' (fun _ _ _=>False)) { tmps:=(ps.zip av).foldl (fun t (p,v)=>t.setIfInBounds p v) a.tmps,defers:=[] } W)
  (hbody:∀ (l:Nat) (pre:List α) (x:α) (post:List α) (a':Act) (W:World),xs=pre++x::post→w.heap.size≤l→(∃ r,W.heap[l]?=some (.loop r))→I pre W→w.heap.size≤W.heap.size→Ax x a' W →
    body.wpIn (Wd (some l)) n P (znH (zab K w.heap.size) I Ix Ip (pre++[x]) W) a' W)
  (hdone:∀ D W,pn=none→w.heap.size≤D→I xs W→W.heap[D]?=some (.deferred (some []))→Q .normal { a with defers:={ target:=.collected D,args:=#[] }::a.defers } W)
  (hpan:∀ D c W,pn=some c→w.heap.size≤D→I xs W→W.heap[D]?=some (.deferred (some []))→Q (.panic c) { a with defers:={ target:=.collected D,args:=#[] }::a.defers } W)
  (hpan2:∀ D c W,w.heap.size≤D→Ip c W→W.heap[D]?=some (.deferred (some []))→Q (.panic c) { a with defers:={ target:=.collected D,args:=#[] }::a.defers } W)
  (hstop:∀ D c pre W,w.heap.size≤D→pre <+: xs→Ix c pre W→W.heap[D]?=some (.deferred (some []))→c.wpIn (Wd none) n P Q { a with defers:={ target:=.collected D,args:=#[] }::a.defers } W) :
  zha f0 P (Code.rangeFunc g ps assign body) Q a w:=by
 refine zkd (n:=n) ?_
 obtain ⟨fn,hfn⟩:∃ fn,fn=f0:=⟨_,rfl⟩
 rw[←hfn] at hf0 ⊢
 obtain ⟨W1,hW1⟩:∃ W1,(w.alloc (.deferred (some []))).alloc (.loop { state:=.ready,pending:=none,fn,tmps:=a.tmps,params:=ps,assign,body,defers:=w.heap.size })=W1:=⟨_,rfl⟩
 have hb1:Below w.heap.size w W1:=by rw[←hW1];exact ((Below.refl _ w).alloc (Nat.le_refl _) _).alloc (by simp) _
 have hs1:W1.heap.size=w.heap.size+2:=by rw[←hW1];simp
 have hL1:W1.heap[w.heap.size+1]?=some (.loop { state:=.ready,pending:=none,fn,tmps:=a.tmps,params:=ps,assign,body,defers:=w.heap.size }):=by
  rw[←hW1];have:=World.alloc_heap_new (w.alloc (.deferred (some []))) (.loop { state:=.ready,pending:=none,fn,tmps:=a.tmps,params:=ps,assign,body,defers:=w.heap.size });rwa [World.size_alloc] at this
 have hK1:W1.heap[w.heap.size]?=some (.deferred (some [])):=by
  rw[←hW1];exact (Below.heap_alloc _ _ _ (by simp)).trans (World.alloc_heap_new w _)
 have hm1:Moves (zab M w.heap.size) w W1:=by rw[←hW1];exact (Moves.refl.alloc _).alloc _
 refine zm7 (hfn:=hf0) (fn:=fn) (mark:=[{ target:=.collected w.heap.size,args:=#[] }]) (l:=w.heap.size+1) (W1:=W1) (dfs:=w.heap.size) hg eg hMc hKc hps I Ix Ip hI hIx hIp Ax hAx hassign hbody (by omega) (hseq W1 hb1 hs1) (by omega) ?_ hL1 (hI _ _ _ h0 hm1)
  (fun W=>W.heap[w.heap.size]?=some (.deferred (some []))) ?_ hK1 (fun W hpn hi hx=>hdone _ W hpn (Nat.le_refl _) hi hx) (fun c W hpn hi hx=>hpan _ c W hpn (Nat.le_refl _) hi hx) (fun c W hi hx=>hpan2 _ c W (Nat.le_refl _) hi hx) (fun c pre W hp hi hx=>hstop _ c pre W (Nat.le_refl _) hp hi hx)
 ·rw[←hW1];exact run_enterLoop_outer _ _ _ _ _
 ·intro A B hx hk
  exact hk _ _ hx (Nat.le_refl _) (by omega) (by omega) rfl
theorem zk5 {P:Program} {n:Nat} {ro:Option Nat} {o:Oper} {a:Act} {next:Act→World→Prop} {Q:Exit→Act→World→Prop} {l:Nat} {av:Array Value} {W:World} {R:Ending→World→Prop}
  (hy:YieldsAt P l av W R) (h:∀ e W',R e W'→(∃ b,e=.returned (.bool b)∧next (a.put o.dst (.bool b)) W')∨(∃ c,e=.panicked c∧Q (.panic c) a W')) :
  o.uponIn (Wd ro) n P a next Q ((Instr.yield l av).run P W):=by
 obtain ⟨fn,tmps,assign,body,hrun,hR⟩:=hy
 rw[hrun]
 refine ⟨fun h=>by simp[Fence.wide] at h,(zjB (n:=n-1) hR).mono ?_⟩
 intro e W' hr
 rcases h e W' hr with ⟨b,rfl,hn⟩ | ⟨c,rfl,hn⟩
 ·exact hn
 ·exact hn
end Go.Mv

namespace Go.Proofs.YtgonhdeochgkoaaGreatDoor
open Go.RowKit Go.Mv
def zeP (fs:List Fil):Bool:=decide (40<fs.length)||(fs.take 41).any (fun f=>decide (900<f.2.length∨60<f.1.length))
theorem zpa (v:Value) (fs:List Fil) (w:World) (hF:Fs w v fs) (hl:fs.length≤4000000):Calls Tryz.prog 30 #[v] w fun e w'=>e=.returned (.bool (zeP fs))∧Ext w w':=by
 obtain ⟨A,c,rfl,h1,h2⟩:=Fs.open_ hF
 obtain ⟨R,hR⟩:∃ R,zeP fs=R:=⟨_,rfl⟩
 rw[hR]
 have HR:=zhd hR
 have HF:=zhd hF
 clear hR hF
 go_enter Tryz.func30,Tryz.ntmps30
 go_wp2_with fail
 go_loopw [3] (fun i wr=>∃ j:Nat,j≤fs.length∧j≤41∧i=.int .i64 j∧Hid (∀ q (_:q<j) (h2:q<fs.length),fs[q].2.length≤900∧fs[q].1.length≤60)∧w=wr) (fun i _=>fs.length-(intOf i).toNat)
 case atStart=>exact ⟨0,by omega,by omega,rfl,zhd fun q hq=>by omega,rfl⟩
 case round =>
  obtain ⟨j,hj,hj2,rfl,Hn,rfl⟩:=hrel
  by_cases hlt:j<fs.length
  ·by_cases h40:j≤40
   ·obtain ⟨_,b,off,rfl,hc⟩:=HF.out.at_ (by omega)
    obtain ⟨hc0,B2,d2,hc1,hB2⟩:=hc j hlt
    have hlz:(j:Int)<(fs.length:Int):=by omega
    have hp:(900<fs[j].2.length∨60<fs[j].1.length)→R=true:=fun h=>by
     rw[←HR.out];unfold zeP
     rw[Bool.or_eq_true];right
     rw[List.any_eq_true]
     exact ⟨fs[j],List.mem_take_iff_getElem.2 ⟨j,by omega,rfl⟩,by simpa using h⟩
    have hq:fs[j].2.length≤900∧fs[j].1.length≤60→∀ q (_:q<j+1) (h2:q<fs.length),fs[q].2.length≤900∧fs[q].1.length≤60:=fun h q h3 h2=>by
     by_cases e:q=j
     ·subst e;exact h
     ·exact Hn.out q (by omega) h2
    have Hp:=zhd hp
    have Hq:=zhd hq
    clear hc hp hq HR Hn
    generalize fs[j].2.length=n2 at *
    generalize hx:fs[j].1=x at *
    simp only[sv] at hc0
    clear hB2
    by_cases c1:900<n2
    ·have:=Hp.out (.inl c1)
     subst this
     have c1z:(900:Int)<(n2:Int):=by omega
     go_wp2_with fail
     go_ret
     exact ⟨rfl,Ext.refl _⟩
    ·have c1z:¬ (900:Int)<(n2:Int):=by omega
     by_cases c2:60<x.length
     ·have:=Hp.out (.inr c2)
      subst this
      have c2z:(60:Int)<(x.length:Int):=by omega
      go_wp2_with fail
      go_ret
      exact ⟨rfl,Ext.refl _⟩
     ·have c2z:¬ (60:Int)<(x.length:Int):=by omega
      have Hq2:=zhd (Hq.out ⟨by omega,by omega⟩)
      go_wp2_with fail
      go_roundw
      case rel=>exact ⟨j+1,by omega,by omega,by go_num,Hq2,trivial⟩
      case measure=>simp[intOf];omega
   ·have hR:R=true:=by rw[←HR.out];unfold zeP;rw[decide_eq_true (by omega)];rfl
    subst hR
    have hlz:(j:Int)<(fs.length:Int):=by omega
    have h40z:¬ ((j:Int)≤40):=by omega
    have hgz:(40:Int)<(fs.length:Int):=by omega
    go_wp2_with fail
    go_ret
    exact ⟨ret_bool (by simp),Ext.refl _⟩
  ·obtain rfl:j=fs.length:=by omega
   have hR:R=decide ((40:Int)<(fs.length:Int)):=by
    rw[←HR.out];unfold zeP
    have:((fs.take 41).any (fun f=>decide (900<f.2.length∨60<f.1.length)))=false:=by
     rw[List.any_eq_false]
     intro f hf
     obtain ⟨q,hq,rfl⟩:=List.mem_take_iff_getElem.1 hf
     have:=Hn.out q (by omega) (by omega)
     simp;omega
    rw[this,Bool.or_false,Bool.eq_iff_iff];simp;omega
   subst hR
   clear HR Hn
   go_wp2_with fail
   go_ret
   exact ⟨rfl,Ext.refl _⟩
structure Tup where
 s:Sta
 log:List Ent
 term:Int
 vote:Int
def zbY (t:Tup):Bool:=t.s.ok&&decide (t.s.idx≤1073740824)&&decide (t.log.length≤200)&&decide (0≤t.vote)&&decide (t.vote≤5)
def goT:Int→List Ent→Option Int
 | c,[]=>some c
 | c,e::l=>if okB e.t e.k e.v&&decide (c≤e.t) then goT e.t l else none
def zbt (t:Tup):Bool:=zbY t&&(match goT t.s.term t.log with | none=>false | some x=>decide (x≤t.term)&&decide (0≤t.term)&&decide (t.term≤1073741824))
theorem zbQ {W:World} {b:Nat} {t:TypeId} {a v u x y z p q:Value} (h:Blk W b t #[a,v,u,x,y,z,p,q]):W.cell? ⟨b,0,none⟩=some a∧W.cell? ⟨b,1,none⟩=some v∧W.cell? ⟨b,2,none⟩=some u∧W.cell? ⟨b,3,none⟩=some x∧W.cell? ⟨b,4,none⟩=some y∧W.cell? ⟨b,5,none⟩=some z∧W.cell? ⟨b,6,none⟩=some p∧W.cell? ⟨b,7,none⟩=some q :=
 ⟨h.cell 0 rfl,h.cell 1 rfl,h.cell 2 rfl,h.cell 3 rfl,h.cell 4 rfl,h.cell 5 rfl,h.cell 6 rfl,h.cell 7 rfl⟩
theorem znT (t:Tup) (v:Value) (w:World) (hE:Es w v t.log):Calls Tryz.prog 21 #[.agg #[.int .i64 t.s.idx,.int .i64 t.s.term,.int .i64 t.s.sum,.int .i64 t.s.lvl,.bool t.s.fin,v,.int .i64 t.term,.int .i64 t.vote]] w fun e w'=>e=.returned (.bool (zbt t))∧Ext w w':=by
 obtain ⟨A,c,rfl,hc1,hc2⟩:=SlR.open_ hE
 obtain ⟨s,l,tm,vt⟩:=t
 dsimp only at *
 obtain ⟨R,hR⟩:∃ R,zbt ⟨s,l,tm,vt⟩=R:=⟨_,rfl⟩
 rw[hR]
 have hb0:=Blk.new w 56 #[.int .i64 s.idx,.int .i64 s.term,.int .i64 s.sum,.int .i64 s.lvl,.bool s.fin,.slice A l.length c,.int .i64 tm,.int .i64 vt]
 have hX:Ext w (w.alloc (.cells #[.int .i64 s.idx,.int .i64 s.term,.int .i64 s.sum,.int .i64 s.lvl,.bool s.fin,.slice A l.length c,.int .i64 tm,.int .i64 vt] 56)):=Ext.alloc (Ext.refl _) _
 obtain ⟨m0,m1,m2,m3,m4,m5,m6,m7⟩:=zbQ hb0
 have HX:=zhd hX
 have Hb:=zhd hb0
 have HE:=zhd hE
 have hbad:zbY ⟨s,l,tm,vt⟩=false→false=R:=fun h=>by rw[←hR];unfold zbt;rw[h];rfl
 have Hbad:=zhd hbad
 have HR:=zhd hR
 clear hX hb0 hE hbad hR
 go_enter Tryz.func21,Tryz.ntmps21
 go_wp2_with fail
 refine (zo8 s _).mono ?_
 rintro e w1 ⟨rfl,hE1⟩
 have HE1:=zhd (Ext.trans HX.out hE1)
 have Hb1:=zhd (Hb.out.ext hE1)
 obtain ⟨p0,p1,p2,p3,p4,p5,p6,p7⟩:=zbQ Hb1.out
 clear m0 m1 m2 m3 m4 m5 m6 m7 hE1
 cases h1:s.ok with
 | false =>
  obtain rfl:=Hbad.out (by unfold zbY;simp[h1])
  go_wp2_with fail
  go_ret
  exact ⟨rfl,HE1.out⟩
 | true =>
 by_cases h2:s.idx≤1073740824
 case neg =>
  obtain rfl:=Hbad.out (by unfold zbY;simp[h2])
  go_wp2_with fail
  go_ret
  exact ⟨rfl,HE1.out⟩
 by_cases h3:(l.length:Int)≤200
 case neg =>
  obtain rfl:=Hbad.out (by unfold zbY;simp;omega)
  go_wp2_with fail
  go_ret
  exact ⟨rfl,HE1.out⟩
 by_cases h4:0≤vt
 case neg =>
  obtain rfl:=Hbad.out (by unfold zbY;simp[h4])
  go_wp2_with fail
  go_ret
  exact ⟨rfl,HE1.out⟩
 by_cases h5:vt≤5
 case neg =>
  obtain rfl:=Hbad.out (by unfold zbY;simp[h5])
  go_wp2_with fail
  go_ret
  exact ⟨rfl,HE1.out⟩
 have hhead:zbY ⟨s,l,tm,vt⟩=true:=by unfold zbY;simp[h1,h2,h4,h5];omega
 have HR2:Hid ((match goT s.term l with | none=>false | some x=>decide (x≤tm)&&decide (0≤tm)&&decide (tm≤1073741824))=R):=zhd (by rw[←HR.out];unfold zbt;rw[hhead];simp)
 clear hhead Hbad HR
 go_wp2_with fail
 go_loopw [3,4] (fun vc x W=>∃ (j:Nat) (cur:Int),j≤l.length∧x=.int .i64 j∧vc=.int .i64 cur∧Hid (goT s.term l=goT cur (l.drop j))∧Ext w1 W) (fun _ x _=>l.length-(intOf x).toNat)
 case atStart=>exact ⟨0,s.term,by omega,rfl,rfl,zhd rfl,Ext.refl _⟩
 case round =>
  obtain ⟨j,cur,hj,rfl,rfl,HG,hEr⟩:=hrel
  have HEr:=zhd hEr
  have HEw:=zhd (Ext.trans HE1.out hEr)
  obtain ⟨_,_,_,_,_,g5,g6,_⟩:=zbQ (Hb1.out.ext hEr)
  clear p0 p1 p2 p3 p4 p5 p6 p7 hEr
  by_cases hlt:j<l.length
  ·obtain ⟨_,b,off,rfl,hc⟩:=Es.at_ (HE.out.ext HEw.out) (by omega)
   obtain ⟨k0,k1,k2⟩:=hc j hlt
   have hG:=HG.out
   rw[List.drop_eq_getElem_cons hlt,goT] at hG
   have hlz:(j:Int)<(l.length:Int):=by omega
   clear hc HG
   generalize l[j]=e at *
   have HG:=zhd hG
   clear hG
   go_wp2_with fail
   refine (zl7 _ _ _ _).mono ?_
   rintro e2 w5 ⟨rfl,hE5⟩
   have hE5:Ext wr w5:=hE5
   have HE5:=zhd hE5
   have g5':=hE5.cell g5
   have k0':=hE5.cell k0
   clear g5 k0 k1 k2 g6 hE5
   cases ho:okB e.t e.k e.v with
   | false =>
    have hR:R=false:=by rw[←HR2.out,HG.out,ho];rfl
    subst hR
    go_wp2_with fail
    go_ret
    exact ⟨rfl,Ext.trans HEw.out HE5.out⟩
   | true =>
    by_cases hcur:cur≤e.t
    ·have hG2:=HG.out
     rw[if_pos (by simp[ho,hcur])] at hG2
     have HG2:=zhd hG2
     have hnl:¬ (e.t<cur):=by omega
     clear hG2 HG
     go_wp2_with fail
     go_roundw
     case rel=>exact ⟨j+1,e.t,by omega,by go_num,rfl,HG2,Ext.trans HEr.out HE5.out⟩
     case measure=>simp[intOf];omega
    ·have hR:R=false:=by rw[←HR2.out,HG.out,if_neg (by simp[hcur])]
     subst hR
     have hnl:e.t<cur:=by omega
     go_wp2_with fail
     go_ret
     exact ⟨rfl,Ext.trans HEw.out HE5.out⟩
  ·obtain rfl:j=l.length:=by omega
   have hR:R=(decide (cur≤tm)&&decide (0≤tm)&&decide (tm≤1073741824)):=by
    rw[←HR2.out,HG.out,List.drop_length];rfl
   subst hR
   clear HR2 HG
   go_wp2_with fail
   all_goals go_ret
   all_goals (refine ⟨ret_bool ?_,HEw.out⟩;rw[Bool.eq_iff_iff];simp;try omega)
def zdV:Tup:=⟨zmg,[],0,0⟩
structure Rd where
 err:Int
 t:Tup
 m:Mf
def zbs (e:Int):Rd:=⟨e,zdV,mf0⟩
def zaK (fs:List Fil):Rd:=match zaF fs (zav 1 0 0) with
 | none=>zbs 42
 | some b=>match zbv b with
  | none=>zbs 130
  | some m=>match zcn fs m with
   | none=>zbs 130
   | some s=>if (zd5 fs m s.idx).2&&zbt ⟨s,(zd5 fs m s.idx).1,m.term,m.vote⟩ then ⟨0,⟨s,(zd5 fs m s.idx).1,m.term,m.vote⟩,m⟩ else zbs 130
def zbA (t:Tup) (v:Value):Array Value:=#[.int .i64 t.s.idx,.int .i64 t.s.term,.int .i64 t.s.sum,.int .i64 t.s.lvl,.bool t.s.fin,v,.int .i64 t.term,.int .i64 t.vote]
def znZ (w:World) (r:Rd) (e:Ending) (w':World):Prop:=∃ vl vs,e=.returned (.tuple #[.agg #[.int .i64 r.t.s.idx,.int .i64 r.t.s.term,.int .i64 r.t.s.sum,.int .i64 r.t.s.lvl,.bool r.t.s.fin,vl,.int .i64 r.t.term,.int .i64 r.t.vote],.agg #[.int .i64 r.m.next,.int .i64 r.m.term,.int .i64 r.m.vote,.int .i64 r.m.sq,.int .i64 r.m.sf,vs],.int .i64 r.err])∧Es w' vl r.t.log∧Sgs w' vs r.m.segs∧Ext w w'
theorem zdJ {b:List UInt8} {m:Mf} (h:zbv b=some m):zaD m=true∧zb7 m=some b:=by
 unfold zbv at h
 split at h
 ·cases h
 ·split at h
  ·cases h
  ·split at h
   ·rename_i hp
    cases h
    refine ⟨?_,hp⟩
    unfold zb7 at hp
    split at hp
    ·assumption
    ·cases hp
   ·cases h
theorem zio {m:Mf} (h:zaD m=true):∀ s∈m.segs,1≤s.first∧s.first≤1073741820∧-1≤s.count∧s.count≤4:=by
 intro s hs
 unfold zaD at h
 rw[Bool.and_eq_true] at h
 exact zf4 h.2 s (by rw[List.take_length];exact hs)
theorem zoS {fs:List Fil} {m:Mf} {s:Sta} (h:zcn fs m=some s):s.ok=true∧0≤s.idx∧s.idx≤1073741824:=by
 have hok:s.ok=true:=by
  unfold zcn at h
  split at h
  ·cases h;rfl
  ·split at h
   ·cases h
   ·exact (zoW h).1
 have:=(Sta.okP hok).1
 unfold zaC at this
 simp at this
 exact ⟨hok,this⟩
theorem zjh {W:World} {b:Nat} {t:TypeId} {cs:Array Value} (h:Blk W b t cs):W.frozen? ⟨b,0,none⟩=false∧W.frozen? ⟨b,1,none⟩=false∧W.frozen? ⟨b,2,none⟩=false∧W.frozen? ⟨b,3,none⟩=false∧W.frozen? ⟨b,4,none⟩=false∧W.frozen? ⟨b,5,none⟩=false∧W.frozen? ⟨b,6,none⟩=false∧W.frozen? ⟨b,7,none⟩=false :=
 ⟨h.frozen 0,h.frozen 1,h.frozen 2,h.frozen 3,h.frozen 4,h.frozen 5,h.frozen 6,h.frozen 7⟩
def zcY (W:World) (b:Nat) (a v u x y z p q:Value):World:=(((((((W.setCell ⟨b,0,none⟩ a).setCell ⟨b,1,none⟩ v).setCell ⟨b,2,none⟩ u).setCell ⟨b,3,none⟩ x).setCell ⟨b,4,none⟩ y).setCell ⟨b,5,none⟩ z).setCell ⟨b,6,none⟩ p).setCell ⟨b,7,none⟩ q
theorem zgw {W:World} {b:Nat} {t:TypeId} {a v u x y z p q:Value} (h:Blk W b t #[a,v,u,x,y,z,p,q]) (a' v' u' x' y' z' p' q':Value):Blk (zcY W b a' v' u' x' y' z' p' q') b t #[a',v',u',x',y',z',p',q']:=by
 have h0:Blk _ b t #[a',v,u,x,y,z,p,q]:=h.set 0 a'
 have h1:Blk _ b t #[a',v',u,x,y,z,p,q]:=h0.set 1 v'
 have h2:Blk _ b t #[a',v',u',x,y,z,p,q]:=h1.set 2 u'
 have h3:Blk _ b t #[a',v',u',x',y,z,p,q]:=h2.set 3 x'
 have h4:Blk _ b t #[a',v',u',x',y',z,p,q]:=h3.set 4 y'
 have h5:Blk _ b t #[a',v',u',x',y',z',p,q]:=h4.set 5 z'
 have h6:Blk _ b t #[a',v',u',x',y',z',p',q]:=h5.set 6 p'
 have h7:Blk _ b t #[a',v',u',x',y',z',p',q']:=h6.set 7 q'
 exact h7
theorem zel {W:World} {b c:Nat} {t:TypeId} {cs:Array Value} (h:Blk W b t cs) (hne:b≠c) (a' v' u' x' y' z' p' q':Value):Blk (zcY W c a' v' u' x' y' z' p' q') b t cs :=
 (((((((h.other hne 0 a').other hne 1 v').other hne 2 u').other hne 3 x').other hne 4 y').other hne 5 z').other hne 6 p').other hne 7 q'
theorem zgC {w W:World} (h:Ext w W) {b:Nat} (hb:w.heap.size≤b) (a' v' u' x' y' z' p' q':Value):Ext w (zcY W b a' v' u' x' y' z' p' q') :=
 (((((((Below.setCell h hb a').setCell hb v').setCell hb u').setCell hb x').setCell hb y').setCell hb z').setCell hb p').setCell hb q'
def zbF (W:World) (b:Nat) (a v u x y z:Value):World:=(((((W.setCell ⟨b,0,none⟩ a).setCell ⟨b,1,none⟩ v).setCell ⟨b,2,none⟩ u).setCell ⟨b,3,none⟩ x).setCell ⟨b,4,none⟩ y).setCell ⟨b,5,none⟩ z
theorem zek {W:World} {b c:Nat} {t:TypeId} {cs:Array Value} (h:Blk W b t cs) (hne:b≠c) (a' v' u' x' y' z':Value):Blk (zbF W c a' v' u' x' y' z') b t cs :=
 (((((h.other hne 0 a').other hne 1 v').other hne 2 u').other hne 3 x').other hne 4 y').other hne 5 z'
theorem zfk {W:World} {b:Nat} {t:TypeId} {cs:Array Value} (hB:Blk W b t cs) {e:TypeId} (hte:t≠e) {base size k:Nat} {vv:Value} {xs:List Value} (hr:W.ownsRow base e size vv k xs) (a' v' u' x' y' z' p' q':Value):(zcY W b a' v' u' x' y' z' p' q').ownsRow base e size vv k xs:=by
 have r0:=hr.kept (zaa _ b 0 a') (.inr (hB.not_row hte hr).symm)
 have b0:=hB.set 0 a'
 have r1:=r0.kept (zaa _ b 1 v') (.inr (b0.not_row hte r0).symm)
 have b1:=b0.set 1 v'
 have r2:=r1.kept (zaa _ b 2 u') (.inr (b1.not_row hte r1).symm)
 have b2:=b1.set 2 u'
 have r3:=r2.kept (zaa _ b 3 x') (.inr (b2.not_row hte r2).symm)
 have b3:=b2.set 3 x'
 have r4:=r3.kept (zaa _ b 4 y') (.inr (b3.not_row hte r3).symm)
 have b4:=b3.set 4 y'
 have r5:=r4.kept (zaa _ b 5 z') (.inr (b4.not_row hte r4).symm)
 have b5:=b4.set 5 z'
 have r6:=r5.kept (zaa _ b 6 p') (.inr (b5.not_row hte r5).symm)
 have b6:=b5.set 6 p'
 have r7:=r6.kept (zaa _ b 7 q') (.inr (b6.not_row hte r6).symm)
 have b7:=b6.set 7 q'
 exact r7
theorem zcM {W:World} {b:Nat} {t:TypeId} {cs:Array Value} (hB:Blk W b t cs) {e:TypeId} (hte:t≠e) {base size k:Nat} {vv:Value} {xs:List Value} (hr:W.ownsRow base e size vv k xs) (a' v' u' x' y' z':Value):(zbF W b a' v' u' x' y' z').ownsRow base e size vv k xs:=by
 have r0:=hr.kept (zaa _ b 0 a') (.inr (hB.not_row hte hr).symm)
 have b0:=hB.set 0 a'
 have r1:=r0.kept (zaa _ b 1 v') (.inr (b0.not_row hte r0).symm)
 have b1:=b0.set 1 v'
 have r2:=r1.kept (zaa _ b 2 u') (.inr (b1.not_row hte r1).symm)
 have b2:=b1.set 2 u'
 have r3:=r2.kept (zaa _ b 3 x') (.inr (b2.not_row hte r2).symm)
 have b3:=b2.set 3 x'
 have r4:=r3.kept (zaa _ b 4 y') (.inr (b3.not_row hte r3).symm)
 have b4:=b3.set 4 y'
 have r5:=r4.kept (zaa _ b 5 z') (.inr (b4.not_row hte r4).symm)
 have b5:=b4.set 5 z'
 exact r5
theorem zmm:Tryz.prog.underlying 56=some (.struct (Tryz.prog.fieldsOf 56)):=by kernel_rfl
end Go.Proofs.YtgonhdeochgkoaaGreatDoor
