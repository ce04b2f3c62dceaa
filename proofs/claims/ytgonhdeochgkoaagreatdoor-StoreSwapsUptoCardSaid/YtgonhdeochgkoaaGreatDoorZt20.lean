/- Merged: LibQ Tup Rd6 Sh4 ShP Wk17 AppF Keep -/
import Derived.Test.YtgonhdeochgkoaaGreatDoorZt19
set_option linter.all false
set_option maxHeartbeats 8000000
set_option maxRecDepth 100000
namespace Go.Mv
open Go.RowKit
def zh0 (f0:FuncId) (P:Program) (c:Code) (Q:Exit→Act→World→Prop) (a:Act) (w:World):Prop :=
 ∀ (b:Frame) (k:List Item) (cs:List Frame),b.roundOf=none→b.fn=f0 →
  ∃ e a' w',Q e a' w'∧ArrivesIn (Machine.fenced P (Wd none)) P (lone (b.atR a (.code c::k)) cs w) b k cs e a' w'
section
variable {f0:FuncId} {P:Program} {n:Nat} {Q:Exit→Act→World→Prop} {a:Act} {w:World}
theorem zfX (ro:Option Nat) (m:Nat):(Wd ro).room m:=fun d hd=>by cases hd
theorem zfZ {c:Code} (h:c.wpIn (Wd none) n P Q a w):zh0 f0 P c Q a w:=fun b k cs hr _=>h b k cs hr trivial (zfX _ _)
theorem ze6 {x y:Code} (h:zh0 f0 P x (Exit.then (zh0 f0 P y Q) Q) a w):zh0 f0 P (Code.seq x y) Q a w:=by
 intro b k cs hro hb
 have h0:(lone (b.atR a (.code (.seq x y)::k)) cs w).fenced P (Wd none):=fenced_calm (n:=0) trivial (zfX _ _) rfl
 obtain ⟨e,a₁,w₁,hq,harr⟩:=h b (.code y::k) cs hro hb
 cases e with
 | normal =>
  obtain ⟨e₂,a₂,w₂,hq₂,harr₂⟩:=hq b k cs hro hb
  exact ⟨e₂,a₂,w₂,hq₂,.of_steps (.head h0 stepR_seq harr) harr₂⟩
 | exit id=>exact ⟨_,a₁,w₁,hq,.of_steps (.one h0 stepR_seq) (.pass (x:=.code y) rfl (fun _ _=>.inl (by simp)) harr)⟩
 | goto l=>exact ⟨_,a₁,w₁,hq,.of_steps (.one h0 stepR_seq) (.pass (x:=.code y) rfl (fun _ _=>.inl (by simp)) harr)⟩
 | ret=>exact ⟨_,a₁,w₁,hq,.of_steps (.one h0 stepR_seq) (.pass (x:=.code y) rfl (fun _ _=>.inl (by simp)) harr)⟩
 | panic ch=>exact ⟨_,a₁,w₁,hq,.of_steps (.one h0 stepR_seq) (.pass (x:=.code y) rfl (fun _ _=>.inl (by simp)) harr)⟩
 | outgrown=>exact ⟨_,a₁,w₁,hq,.of_steps (.one h0 stepR_seq) (.pass (x:=.code y) rfl (fun _ _=>.inl (by simp)) harr)⟩
theorem zqP {id:Nat} {c:Code} (h:zh0 f0 P c (Exit.inBlock id Q) a w):zh0 f0 P (Code.block id c) Q a w:=by
 intro b k cs hro hb
 have h0:(lone (b.atR a (.code (.block id c)::k)) cs w).fenced P (Wd none):=fenced_calm (n:=0) trivial (zfX _ _) rfl
 have hr:b.roundOf.isSome=true→False:=fun h=>by rw[hro] at h;cases h
 obtain ⟨e,a₁,w₁,hq,harr⟩:=h b (.inBlock id::k) cs hro hb
 cases e with
 | normal=>exact ⟨.normal,a₁,w₁,hq,.head h0 stepR_block (StepsIn.trans harr (.one (fenced_calm (n:=0) trivial (zfX _ _) rfl) stepR_inBlock))⟩
 | exit id' =>
  by_cases hid:id'=id
  ·simp only[Exit.inBlock,hid,if_true] at hq
   exact ⟨.normal,a₁,w₁,hq,.head h0 stepR_block (harr.1 k (by simp[exitTo,hid]))⟩
  ·simp only[Exit.inBlock,hid,if_false] at hq
   have this:(id==id')=false:=by simp;exact fun h=>hid h.symm
   have hx:exitTo id' (.inBlock id::k)=exitTo id' k:=by simp[exitTo,this]
   exact ⟨.exit id',a₁,w₁,hq,fun k' hk=>.head h0 stepR_block (harr.1 k' (by rw[hx];exact hk)),fun h _=>(hr h).elim⟩
 | goto l =>
  have hx:gotoIn l (.inBlock id::k)=gotoIn l k:=by simp[gotoIn]
  exact ⟨_,a₁,w₁,hq,fun k' hk=>.head h0 stepR_block (harr.1 k' (by rw[hx];exact hk)),fun h _=>(hr h).elim⟩
 | ret=>exact ⟨_,a₁,w₁,hq,.of_steps (.one h0 stepR_block) harr⟩
 | panic ch=>exact ⟨_,a₁,w₁,hq,.of_steps (.one h0 stepR_block) harr⟩
 | outgrown=>exact ⟨_,a₁,w₁,hq,.of_steps (.one h0 stepR_block) harr⟩
theorem zlt {g:Operand} {ps:Array Tmp} {assign body:Code}
  (h:∃ (l:Nat) (mark:List Deferred) (w₁:World) (d:Deferred) (w₁':World) (f:FuncId) (args:Array Value) (w₂:World),
    (Instr.enterLoop f0 a.tmps ps assign body none).run P w=.ok (l,mark) w₁ ∧
    (resolve a.eval (rangeCall g l) 0).run P w₁=.ok d w₁' ∧
    (∀ f',Target.leads P w₁' d.target d.args=some f'→(Wd none).fn f') ∧
    (invoke d.target d.args).run P w₁'=.ok (.enter f args) w₂ ∧
    ((Wd none).depth.isSome=true→1≤n) ∧
    CallsIn (Wd none) (n-1) P f args w₂ (rangePost (Wd none) n P l Q { a with defers:=mark++a.defers })) :
  zh0 f0 P (Code.rangeFunc g ps assign body) Q a w:=by
 intro b k cs hro hb;obtain ⟨l,mark,w₁,d,w₁',f,args,w₂,he,hres,hlead,hinv,hn,hF,hcall⟩:=h;rw[←hro,←hb] at he
 have hr:(Wd none).room (cs.length+1+n):=zfX _ _
 have h0:(lone (b.atR a (.code (.rangeFunc g ps assign body)::k)) cs w).fenced P (Wd none):=by
  refine fenced_lone (.inl trivial) (fun f' hf'=>trivial) (Fence.room_le hr (by omega))
 have henter:=stepR_rangeFunc (P:=P) (b:=b) (a:=a) (k:=k) (cs:=cs) (w:=w) he hres hinv
 have hroom:(Wd none).room ((b.atR { a with defers:=mark++a.defers } (.inRangeFunc l::k)::cs).length+1+(n-1)):=zfX _ _
 obtain ⟨e,w₃,fr,hR,hsteps,hfn,hleave⟩:=hcall (b.atR { a with defers:=mark++a.defers } (.inRangeFunc l::k)::cs) hroom
 cases e with
 | outgrown =>
  obtain ⟨a₀,w₀,hq⟩:=hR
  exact ⟨.outgrown,a₀,w₀,hq,.inr (Outgrown.of_steps (.one henter) hsteps)⟩
 | returned v =>
  have hl:(lone fr (b.atR { a with defers:=mark++a.defers } (.inRangeFunc l::k)::cs) w₃).fenced P (Wd none):=fenced_leaving (hfn ▸ hF) hroom hleave
  obtain ⟨jump,w₄,hend,hj⟩:=hR
  have sback:StepsIn (Machine.fenced P (Wd none)) P (lone (b.atR a (.code (.rangeFunc g ps assign body)::k)) cs w) (lone (b.atR { a with defers:=mark++a.defers } ((jump.map Item.code).toList++k)) cs w₄):=by
   refine .head h0 henter (StepsIn.trans hsteps (.head hl ?_ (.one (fenced_calm (fr:=b.atR { a with defers:=mark++a.defers } (.endRangeFunc l::k)) trivial hr rfl) (stepR_endRangeFunc hend))))
   rw[←finish_atR_inRangeFunc l v];exact step_leave_returned hleave
  cases jump with
  | none=>exact ⟨.normal,_,w₄,hj,sback⟩
  | some c =>
   obtain ⟨e',a'',w₅,hq,harr⟩:=hj b k cs hro trivial hr
   exact ⟨e',a'',w₅,hq,.of_steps sback harr⟩
 | panicked chain =>
  have hl:(lone fr (b.atR { a with defers:=mark++a.defers } (.inRangeFunc l::k)::cs) w₃).fenced P (Wd none):=fenced_leaving (hfn ▸ hF) hroom hleave
  refine ⟨.panic chain,_,w₃,hR,.inRangeFunc l::k,.head h0 henter (StepsIn.trans hsteps (.one hl ?_))⟩
  rw[←Frame.raise_atR];exact step_leave_panicked hleave
theorem zkt {fn:Func} {c:Code} {args:Array Value} {R:Ending→World→Prop}
  (hf:P.funcs[f0]?=some fn) (hb:fn.body=some c)
  (h:zh0 f0 P c (bodyPostM (Wd none) n P fn R) { tmps:=args++Array.replicate (fn.ntmps-args.size) undef,defers:=[] } w):CallsIn (Wd none) n P f0 args w R:=by
 refine ⟨trivial,fun cs hr=>?_⟩
 let b:Frame:={ (default:Frame) with fn:=f0,kind:=.normal,roundOf:=none }
 have henter:Frame.enter P f0 args .normal =
   b.atR { tmps:=args++Array.replicate (fn.ntmps-args.size) undef,defers:=[] } [.code c]:=by
  simp[Frame.enter,Frame.atR,hf,hb,b]
 obtain ⟨e,a',w',hq,harr⟩:=h b [] cs rfl rfl;rw[←henter] at harr
 have hF:(Wd none).fn f0:=trivial
 cases e with
 | normal =>
  obtain ⟨e',w'',fr',hR,hs,hfn,hl⟩:=leaves_stepsInM a'.defers .returning w' { b.atR a' [] with mode:=.returning } cs rfl rfl rfl hf rfl hF hr hq
  exact ⟨e',w'',fr',hR,ComesIn.of_steps (StepsIn.trans harr (.one (fenced_calm (fr:=b.atR a' []) hF hr rfl) (stepR_end rfl))) hs,hfn,hl⟩
 | ret =>
  obtain ⟨todo,hs₀⟩:=harr.1 rfl;obtain ⟨e',w'',fr',hR,hs,hfn,hl⟩:=leaves_stepsInM a'.defers .returning w' { b.atR a' todo with mode:=.returning } cs rfl rfl rfl hf rfl hF hr hq
  exact ⟨e',w'',fr',hR,ComesIn.of_steps hs₀ hs,hfn,hl⟩
 | panic chain =>
  obtain ⟨todo,hs₀⟩:=harr;obtain ⟨e',w'',fr',hR,hs,hfn,hl⟩:=leaves_stepsInM a'.defers (.panicking chain) w' { b.atR a' todo with mode:=.panicking chain } cs rfl rfl rfl hf rfl hF hr hq
  exact ⟨e',w'',fr',hR,ComesIn.of_steps hs₀ hs,hfn,hl⟩
 | exit id=>exact hq.elim
 | goto l=>exact hq.elim
 | outgrown=>exact ⟨.outgrown,w',b,hq,harr.resolve_left (by simp[b]),rfl,trivial⟩
end
def zqs (P:Program) (l:Nat) (R:Ending→World→Prop):Exit→Act→World→Prop
 | .panic c,a,w=>a.defers=[]∧R (.panicked c) w
 | e,a,w=>roundPost P l R e a w
theorem zj9 {F:Fence} {n:Nat} {P:Program} {l:Nat} {f:FuncId} (hfn:∃ g,P.funcs[f]?=some g) {tmps:Array Value} {assign body:Code} {w:World} {R:Ending→World→Prop} (hF:F.fn f)
  (h:assign.wpIn (F.inRound l) n P (Exit.then (fun a₁ w₁=>∃ w₂,(Instr.beginRound l).run P w₁=.ok () w₂∧body.wpIn (F.inRound l) n P (zqs P l R) a₁ w₂) (fun _ _ _=>False))
    { tmps:=tmps,defers:=[] } w) :
  RoundIn F n P l f tmps assign body w R:=by
 refine ⟨hF,fun c cs hr=>?_⟩
 let b:Frame:={ (default:Frame) with fn:=f,kind:=.normal,roundOf:=some l }
 have hb0:Frame.round l f tmps assign body .normal=b.atR { tmps:=tmps,defers:=[] } [.code assign,.beginRound,.code body]:=by
  simp[Frame.round,Frame.atR,b]
 have hr':(F.inRound l).room ((c::cs).length+1+n):=hr
 have hF':(F.inRound l).fn b.fn:=hF
 obtain ⟨e,a₁,w₁,hq,harr⟩:=h b [.beginRound,.code body] (c::cs) rfl hF' hr';rw[←hb0] at harr
 cases e with
 | normal =>
  obtain ⟨w₂,hbr,hbody⟩:=hq
  have s1:StepsIn (Machine.fenced P (F.inRound l)) P (lone (b.atR a₁ [.beginRound,.code body]) (c::cs) w₁) (lone (b.atR a₁ [.code body]) (c::cs) w₂) :=
   .one (fenced_calm (fr:=b.atR a₁ [.beginRound,.code body]) hF' hr' rfl) (stepR_beginRound rfl hbr)
  obtain ⟨e₂,a₂,w₃,hq₂,harr₂⟩:=hbody b [] (c::cs) rfl hF' hr'
  cases e₂ with
  | normal =>
   obtain ⟨v,w₄,hend,hR⟩:=hq₂
   exact ⟨.returned v,w₄,hR,(StepsIn.trans harr s1).trans (StepsIn.trans harr₂ (.one (fenced_calm (fr:=b.atR a₂ []) hF' hr' rfl) (stepR_round_end rfl rfl hend)))⟩
  | ret =>
   obtain ⟨v,w₄,hend,hR⟩:=hq₂;obtain ⟨k₁,hs⟩:=harr₂.2 rfl
   exact ⟨.returned v,w₄,hR,(StepsIn.trans harr s1).trans (StepsIn.trans hs (.one (fenced_calm (fr:=b.atR a₂ (.code .ret::k₁)) hF' hr' rfl) (stepR_round_ret rfl rfl hend)))⟩
  | exit id =>
   obtain ⟨v,w₄,hend,hR⟩:=hq₂;obtain ⟨k₁,hk,hs⟩:=harr₂.2 rfl rfl
   exact ⟨.returned v,w₄,hR,(StepsIn.trans harr s1).trans (StepsIn.trans hs (.one (fenced_calm (fr:=b.atR a₂ (.code (.exit id)::k₁)) hF' hr' rfl) (stepR_round_exit rfl rfl hk hend)))⟩
  | goto t =>
   obtain ⟨v,w₄,hend,hR⟩:=hq₂;obtain ⟨k₁,hk,hs⟩:=harr₂.2 rfl rfl
   exact ⟨.returned v,w₄,hR,(StepsIn.trans harr s1).trans (StepsIn.trans hs (.one (fenced_calm (fr:=b.atR a₂ (.code (.goto t)::k₁)) hF' hr' rfl) (stepR_round_goto rfl rfl hk hend)))⟩
  | panic chain =>
   obtain ⟨hd,hR⟩:=hq₂;obtain ⟨todo,hs⟩:=harr₂
   have hl:({ b.atR a₂ todo with mode:=.panicking chain }:Frame).leaving P w₃ (.panicked chain):=⟨rfl,hd,hfn⟩
   have hfl:(lone { b.atR a₂ todo with mode:=.panicking chain } (c::cs) w₃).fenced P (F.inRound l):=fenced_leaving (n:=n) hF' hr' hl
   exact ⟨.panicked chain,w₃,hR,(StepsIn.trans harr s1).trans (StepsIn.trans hs (.one hfl (step_leave_panicked hl)))⟩
  | outgrown=>exact hq₂.elim
 | exit id=>exact hq.elim
 | goto l=>exact hq.elim
 | ret=>exact hq.elim
 | panic chain=>exact hq.elim
 | outgrown=>exact hq.elim
def zpx (P:Program) (gf:Nat) (lb:Array Value) {α:Type} (Rp:α→Array Value→World→Prop) (K M:Nat→Obj→Prop) (xs:List α) (pn:Option (List PanicEntry)) (W0:World):Prop :=
 ∀ (l:Nat) (J Jx:List α→World→Prop) (Jp:List PanicEntry→World→Prop),
  (∀ s A B,J s A→Moves (zab M W0.heap.size) A B→J s B)→(∀ s A B,Jx s A→Moves (zab M W0.heap.size) A B→Jx s B)→(∀ c A B,Jp c A→Moves (zab M W0.heap.size) A B→Jp c B) →
  (∀ pre x post,xs=pre++x::post→∀ (W:World) (av:Array Value),J pre W→W0.heap.size≤W.heap.size→Rp x av W→YieldsAt P l av W fun e W' =>
    (Kept (zab K W0.heap.size) W W'∧((e=.returned (.bool true)∧J (pre++[x]) W')∨(e=.returned (.bool false)∧Jx (pre++[x]) W')))∨∃ c,e=.panicked c∧Jp c W') →
  J [] W0 →
  Calls P gf (#[.func (.yield l) #[] #[]]++lb) W0 fun e W'=>(pn=none∧(∃ v,e=.returned v)∧J xs W')∨(∃ c,pn=some c∧e=.panicked c∧J xs W')∨((∃ v,e=.returned v)∧∃ pre,pre <+: xs∧Jx pre W')∨(∃ c,e=.panicked c∧Jp c W')
def zph {α:Type} (K:Nat→Obj→Prop) (I:List α→World→Prop) (Ix:Code→List α→World→Prop) (Ip:List PanicEntry→World→Prop) (xs:List α) (W:World):Exit→Act→World→Prop
 | .normal,_,W'=>Kept K W W'∧I xs W'
 | .ret,_,W'=>Kept K W W'∧Ix .ret xs W'
 | .exit id,_,W'=>Kept K W W'∧Ix (.exit id) xs W'
 | .goto t,_,W'=>Kept K W W'∧Ix (.goto t) xs W'
 | .panic c,a,W'=>a.defers=[]∧Kept K W W'∧Ip c W'
 | .outgrown,_,_=>False
theorem zoH {P:Program} {α:Type} {ro:Option Nat} {n:Nat} {g:Operand} {ps:Array Tmp} {assign body:Code} {Q:Exit→Act→World→Prop} {a:Act} {w:World}
  {gf:Nat} {lb:Array Value} (hg:a.eval g=.func (.func gf) #[] lb) (eg:∀ args w,(callFunc gf args).run P w=.ok (.enter gf args) w)
  {Rp:α→Array Value→World→Prop} {K M:Nat→Obj→Prop} {xs:List α} {pn:Option (List PanicEntry)}
  (hMc:∀ k o,M k o→o.isCells=true) (hKc:∀ k o,K k o→∀ r,o≠.loop r) (hps:∀ x av W,Rp x av W→av.size=ps.size)
  (I:List α→World→Prop) (Ix:Code→List α→World→Prop) (Ip:List PanicEntry→World→Prop)
  (hI:∀ s A B,I s A→Moves (zab M w.heap.size) A B→I s B) (hIx:∀ c s A B,Ix c s A→Moves (zab M w.heap.size) A B→Ix c s B) (hIp:∀ c A B,Ip c A→Moves (zab M w.heap.size) A B→Ip c B)
  (Ax:α→Act→World→Prop) (hAx:∀ x a' A B,Ax x a' A→Moves (zab (fun _ _=>False) w.heap.size) A B→Ax x a' B)
  (hassign:∀ (l:Nat) (pre:List α) (x:α) (post:List α) (W:World) (av:Array Value) (K':Act→World→Prop),xs=pre++x::post→I pre W→w.heap.size≤W.heap.size→Rp x av W →
    (∀ a' W',Kept (zab K w.heap.size) W W'→I pre W'→Ax x a' W'→K' a' W') →
    assign.wpIn (Wd (some l)) n P (Exit.then K' (fun _ _ _=>False)) { tmps:=(ps.zip av).foldl (fun t (p,v)=>t.setIfInBounds p v) a.tmps,defers:=[] } W)
  (hbody:∀ (l:Nat) (pre:List α) (x:α) (post:List α) (a':Act) (W:World),xs=pre++x::post→w.heap.size≤l→(∃ r,W.heap[l]?=some (.loop r))→I pre W→w.heap.size≤W.heap.size→Ax x a' W →
    body.wpIn (Wd (some l)) n P (zph (zab K w.heap.size) I Ix Ip (pre++[x]) W) a' W)
  {fn:FuncId} (hfn:∃ g,P.funcs[fn]?=some g) {l:Nat} {mark:List Deferred} {W1:World} {dfs:Nat} (hl0:w.heap.size≤l)
  (hseq:zpx P gf lb Rp K M xs pn W1) (hW1:w.heap.size≤W1.heap.size)
  (henter:(Instr.enterLoop fn a.tmps ps assign body ro).run P w=.ok (l,mark) W1)
  (hL1:W1.heap[l]?=some (.loop { state:=.ready,pending:=none,fn,tmps:=a.tmps,params:=ps,assign,body,defers:=dfs }))
  (hI1:I [] W1)
  (X:World→Prop) (hX:∀ A B,X A→(∀ k o,A.heap[k]?=some o→w.heap.size≤k→k<W1.heap.size→k≠l→o.isCells=false→B.heap[k]?=some o)→X B) (hX1:X W1)
  (hdone:∀ W,pn=none→I xs W→X W→Q .normal { a with defers:=mark++a.defers } W)
  (hpan:∀ c W,pn=some c→I xs W→X W→Q (.panic c) { a with defers:=mark++a.defers } W)
  (hpan2:∀ c W,Ip c W→X W→Q (.panic c) { a with defers:=mark++a.defers } W)
  (hstop:∀ c pre W,pre <+: xs→Ix c pre W→X W→c.wpIn (Wd ro) n P Q { a with defers:=mark++a.defers } W) :
  ∃ (l:Nat) (mark:List Deferred) (w₁:World) (d:Deferred) (w₁':World) (f:FuncId) (args:Array Value) (w₂:World),
   (Instr.enterLoop fn a.tmps ps assign body ro).run P w=.ok (l,mark) w₁ ∧
   (resolve a.eval (rangeCall g l) 0).run P w₁=.ok d w₁' ∧
   (∀ f',Target.leads P w₁' d.target d.args=some f'→(Wd ro).fn f') ∧
   (invoke d.target d.args).run P w₁'=.ok (.enter f args) w₂ ∧
   ((Wd ro).depth.isSome=true→1≤n) ∧
   CallsIn (Wd ro) (n-1) P f args w₂ (rangePost (Wd ro) n P l Q { a with defers:=mark++a.defers }):=by
 obtain ⟨rec,hrec⟩:∃ rec:LoopState→Option Code→Loop,rec=fun st pe=>{ state:=st,pending:=pe,fn,tmps:=a.tmps,params:=ps,assign,body,defers:=dfs }:=⟨_,rfl⟩
 have hL1':W1.heap[l]?=some (.loop (rec .ready none)):=by rw[hrec];exact hL1
 -- the record's own turns
 have put:∀ (A:World) (o o':Obj),A.heap[l]?=some o→o.isCells=false→Moves (zab (fun _ _=>False) w.heap.size) A (A.putObj l o'):=fun A o o' ho hc =>
  Moves.refl.putObj (fun o₁ h₁=>by rw[ho] at h₁;cases h₁;exact .inr ⟨hl0,hc⟩) o'
 have zbL:∀ s A o o',I s A→A.heap[l]?=some o→o.isCells=false→I s (A.putObj l o'):=fun s A o o' hi ho hc =>
  hI s _ _ hi ((put A o o' ho hc).weaken (fun k o h=>by rcases h with h | h;exact h.elim;exact .inr h))
 have putIx:∀ c s A o o',Ix c s A→A.heap[l]?=some o→o.isCells=false→Ix c s (A.putObj l o'):=fun c s A o o' hi ho hc =>
  hIx c s _ _ hi ((put A o o' ho hc).weaken (fun k o h=>by rcases h with h | h;exact h.elim;exact .inr h))
 have hlt1:l<W1.heap.size:=(Array.getElem?_eq_some_iff.1 hL1').1
 have putX:∀ A o',X A→X (A.putObj l o'):=fun A o' hx=>hX A _ hx (fun k o hk _ _ hne _=>(World.putObj_heap_other hne).trans hk)
 have keepX:∀ {K':Nat→Obj→Prop} (A B:World),X A→Kept (zab K' w.heap.size) A B→X B:=fun A B hx hk =>
  hX A B hx (fun k o ho hn _ _ hc=>hk.same k o ho (.inr ⟨hn,hc⟩))
 have moveO:∀ (A B:World) (k:Nat) (o:Obj),A.heap[k]?=some o→k<W1.heap.size→o.isCells=false→Moves (zab M W1.heap.size) A B→B.heap[k]?=some o:=fun A B k o ho hk hc hm =>
  hm.same k o ho (fun h=>by
   rcases h with h | h
   ·have:=hMc k o h;rw[hc] at this;cases this
   ·omega)
 have moveX:∀ (A B:World),X A→Moves (zab M W1.heap.size) A B→X B:=fun A B hx hm =>
  hX A B hx (fun k o ho _ hlt _ hc=>moveO A B k o ho hlt hc hm)
 have moveI:∀ (A B:World),Moves (zab M W1.heap.size) A B→Moves (zab M w.heap.size) A B:=fun A B hm =>
  hm.weaken (fun k o h=>by rcases h with h | h;exact .inl h;exact .inr ⟨by omega,h.2⟩)
 refine ⟨l,mark,W1,{ target:=.fn (.func gf) lb,args:=#[.func (.yield l) #[] #[]] },W1,gf,#[.func (.yield l) #[] #[]]++lb,W1,henter,?_,fun _ _=>trivial,?_,fun h=>by simp[Fence.wide] at h,?_⟩
 ·simp only[resolve,hg]
  simp[go_sem]
 ·simp[invoke,go_sem,eg]
 ·refine callsIn_wd.2 ?_
  refine (hseq l
   (fun pre W=>I pre W∧W.heap[l]?=some (.loop (rec .ready none))∧X W)
   (fun pre W=>∃ c,Ix c pre W∧W.heap[l]?=some (.loop (rec .done (some c)))∧X W)
   (fun c W=>Ip c W∧X W)
   (fun s A B hs hm=>⟨hI s A B hs.1 (moveI A B hm),moveO A B l _ hs.2.1 hlt1 rfl hm,moveX A B hs.2.2 hm⟩)
   (fun s A B hs hm=>by
     obtain ⟨c,hc,hl,hx⟩:=hs
     exact ⟨c,hIx c s A B hc (moveI A B hm),moveO A B l _ hl hlt1 rfl hm,moveX A B hx hm⟩)
   (fun c A B hs hm=>⟨hIp c A B hs.1 (moveI A B hm),moveX A B hs.2 hm⟩)
   ?_ ⟨hI1,hL1',hX1⟩).mono ?_
  · -- ONE ROUND
   rintro pre x post hxs W av ⟨hi,hl,hx⟩ hsz hrp;have hy:=run_yield (P:=P) (args:=av) hl (by rw[hrec];exact hps x av W hrp);rw[hrec] at hy
   refine ⟨fn,_,assign,body,hy,?_⟩
   clear hy
   have rd:=zj9 hfn (F:=Wd (some l)) (n:=n) (P:=P) (l:=l) (f:=fn) (w:=W) (assign:=assign) (body:=body) (tmps:=(ps.zip av).foldl (fun t (p,v)=>t.setIfInBounds p v) a.tmps)
    (R:=fun e W'=>(Kept (zab K W1.heap.size) W W'∧((e=.returned (.bool true)∧I (pre++[x]) W'∧W'.heap[l]?=some (.loop (rec .ready none))∧X W') ∨
      (e=.returned (.bool false)∧∃ c,Ix c (pre++[x]) W'∧W'.heap[l]?=some (.loop (rec .done (some c)))∧X W')))∨∃ c,e=.panicked c∧Ip c W'∧X W')
    trivial (hassign l pre x post W av _ hxs hi (by omega) hrp ?_)
   ·exact ⟨trivial,fun c cs _=>rd.2 c cs (room_wide _)⟩
   ·intro a' Wa hka hia hax
    have hla:=hka.same l _ hl (.inr ⟨hl0,rfl⟩);have hxa:=keepX W Wa hx hka
    have hlta:l<Wa.heap.size:=(Array.getElem?_eq_some_iff.1 hla).1
    refine ⟨_,run_beginRound hla (by rw[hrec]),?_⟩
    have hl2:(Wa.putObj l (.loop { rec .ready none with state:=.busy })).heap[l]?=some (.loop { rec .ready none with state:=.busy }):=World.putObj_heap_same hlta
    refine wpIn_mono (hbody l pre x post a' _ hxs hl0 ⟨_,hl2⟩ (zbL _ _ _ _ hia hla rfl) (by simp;have:=hka.size;omega) (hAx x a' _ _ hax (put _ _ _ hla rfl))) ?_
    -- what is known behind the body
    have fin:∀ (jump:Option Code) (W3:World),Kept (zab K w.heap.size) (Wa.putObj l (.loop { rec .ready none with state:=.busy })) W3 →
      (Instr.endRound l jump).run P W3=.ok (.bool jump.isNone) (W3.putObj l (.loop (rec (if jump.isNone then .ready else .done) jump))) ∧
      W3.heap[l]?=some (.loop { rec .ready none with state:=.busy }) ∧
      (W3.putObj l (.loop (rec (if jump.isNone then .ready else .done) jump))).heap[l]?=some (.loop (rec (if jump.isNone then .ready else .done) jump)) ∧
      X (W3.putObj l (.loop (rec (if jump.isNone then .ready else .done) jump))) ∧
      Kept (zab K W1.heap.size) W (W3.putObj l (.loop (rec (if jump.isNone then .ready else .done) jump))):=fun jump W3 hk3=>by
     have hl3:=hk3.same l _ hl2 (.inr ⟨hl0,rfl⟩);have hrun:=run_endRound (P:=P) jump hl3
     rw[hrec] at hrun ⊢
     refine ⟨hrun,by rw[hrec] at hl3;exact hl3,World.putObj_heap_same (Array.getElem?_eq_some_iff.1 hl3).1,putX _ _ (keepX _ _ (putX _ _ hxa) hk3),⟨?_,?_⟩⟩
     ·have h1:=hka.size;have h2:=hk3.size;simp at h2 ⊢;omega
     ·intro k o hk hK
      have hKw:zab K w.heap.size k o:=by
       rcases hK with h | h
       ·exact .inl h
       ·exact .inr ⟨by omega,h.2⟩
      by_cases e:k=l
      ·subst e
       rw[hl] at hk;cases hk
       rcases hK with h | h
       ·exact absurd rfl (hKc _ _ h _)
       ·omega
      ·have h1:=hka.same k o hk hKw
       have h2:=hk3.same k o ((World.putObj_heap_other e).trans h1) hKw
       exact (World.putObj_heap_other e).trans h2
    rintro e a3 W3 hp
    cases e with
    | normal =>
     obtain ⟨hk3,hi3⟩:=hp;obtain ⟨hr,hl3,hl4,hx4,hk4⟩:=fin none W3 hk3
     exact ⟨_,_,hr,.inl ⟨hk4,.inl ⟨rfl,zbL _ _ _ _ hi3 hl3 rfl,hl4,hx4⟩⟩⟩
    | ret =>
     obtain ⟨hk3,hi3⟩:=hp;obtain ⟨hr,hl3,hl4,hx4,hk4⟩:=fin (some .ret) W3 hk3
     exact ⟨_,_,hr,.inl ⟨hk4,.inr ⟨rfl,.ret,putIx _ _ _ _ _ hi3 hl3 rfl,hl4,hx4⟩⟩⟩
    | exit id =>
     obtain ⟨hk3,hi3⟩:=hp;obtain ⟨hr,hl3,hl4,hx4,hk4⟩:=fin (some (.exit id)) W3 hk3
     exact ⟨_,_,hr,.inl ⟨hk4,.inr ⟨rfl,.exit id,putIx _ _ _ _ _ hi3 hl3 rfl,hl4,hx4⟩⟩⟩
    | goto t =>
     obtain ⟨hk3,hi3⟩:=hp;obtain ⟨hr,hl3,hl4,hx4,hk4⟩:=fin (some (.goto t)) W3 hk3
     exact ⟨_,_,hr,.inl ⟨hk4,.inr ⟨rfl,.goto t,putIx _ _ _ _ _ hi3 hl3 rfl,hl4,hx4⟩⟩⟩
    | panic ch =>
     obtain ⟨hd,hk3,hip⟩:=hp
     exact ⟨hd,.inr ⟨ch,rfl,hip,keepX _ _ (putX _ _ hxa) hk3⟩⟩
    | outgrown=>exact hp.elim
  · -- BEHIND THE ITERATOR
   rintro e W2 (⟨hpn,⟨v,rfl⟩,hi,hl,hx⟩ | ⟨c,hpn,rfl,hi,hl,hx⟩ | ⟨⟨v,rfl⟩,pre,hpre,c,hi,hl,hx⟩ | ⟨c,rfl,hi,hx⟩)
   ·exact ⟨none,_,by have:=run_endLoop (P:=P) hl (by rw[hrec];simp);rw[hrec] at this;exact this,hdone _ hpn (zbL _ _ _ _ hi hl rfl) (putX _ _ hx)⟩
   ·exact hpan c _ hpn hi hx
   ·exact ⟨some c,_,by have:=run_endLoop (P:=P) hl (by rw[hrec];simp);rw[hrec] at this;exact this,hstop c pre _ hpre (putIx _ _ _ _ _ hi hl rfl) (putX _ _ hx)⟩
   ·exact hpan2 c _ hi hx
theorem zsU {P:Program} {α:Type} {f0:FuncId} (hf0:∃ g,P.funcs[f0]?=some g) {n:Nat} {g:Operand} {ps:Array Tmp} {assign body:Code} {Q:Exit→Act→World→Prop} {a:Act} {w:World}
  {gf:Nat} {lb:Array Value} (hg:a.eval g=.func (.func gf) #[] lb) (eg:∀ args w,(callFunc gf args).run P w=.ok (.enter gf args) w)
  {Rp:α→Array Value→World→Prop} {K M:Nat→Obj→Prop} {xs:List α} {pn:Option (List PanicEntry)}
  (hseq:∀ W1,Below w.heap.size w W1→W1.heap.size=w.heap.size+2→zpx P gf lb Rp K M xs pn W1)
  (hMc:∀ k o,M k o→o.isCells=true) (hKc:∀ k o,K k o→∀ r,o≠.loop r) (hps:∀ x av W,Rp x av W→av.size=ps.size)
  (I:List α→World→Prop) (Ix:Code→List α→World→Prop) (Ip:List PanicEntry→World→Prop)
  (hI:∀ s A B,I s A→Moves (zab M w.heap.size) A B→I s B) (hIx:∀ c s A B,Ix c s A→Moves (zab M w.heap.size) A B→Ix c s B) (hIp:∀ c A B,Ip c A→Moves (zab M w.heap.size) A B→Ip c B) (h0:I [] w)
  (Ax:α→Act→World→Prop) (hAx:∀ x a' A B,Ax x a' A→Moves (zab (fun _ _=>False) w.heap.size) A B→Ax x a' B)
  (hassign:∀ (l:Nat) (pre:List α) (x:α) (post:List α) (W:World) (av:Array Value) (K':Act→World→Prop),xs=pre++x::post→I pre W→w.heap.size≤W.heap.size→Rp x av W →
    (∀ a' W',Kept (zab K w.heap.size) W W'→I pre W'→Ax x a' W'→K' a' W') →
    assign.wpIn (Wd (some l)) n P (Exit.then K' (fun _ _ _=>False)) { tmps:=(ps.zip av).foldl (fun t (p,v)=>t.setIfInBounds p v) a.tmps,defers:=[] } W)
  (hbody:∀ (l:Nat) (pre:List α) (x:α) (post:List α) (a':Act) (W:World),xs=pre++x::post→w.heap.size≤l→(∃ r,W.heap[l]?=some (.loop r))→I pre W→w.heap.size≤W.heap.size→Ax x a' W →
    body.wpIn (Wd (some l)) n P (zph (zab K w.heap.size) I Ix Ip (pre++[x]) W) a' W)
  (hdone:∀ D W,pn=none→w.heap.size≤D→I xs W→W.heap[D]?=some (.deferred (some []))→Q .normal { a with defers:={ target:=.collected D,args:=#[] }::a.defers } W)
  (hpan:∀ D c W,pn=some c→w.heap.size≤D→I xs W→W.heap[D]?=some (.deferred (some []))→Q (.panic c) { a with defers:={ target:=.collected D,args:=#[] }::a.defers } W)
  (hpan2:∀ D c W,w.heap.size≤D→Ip c W→W.heap[D]?=some (.deferred (some []))→Q (.panic c) { a with defers:={ target:=.collected D,args:=#[] }::a.defers } W)
  (hstop:∀ D c pre W,w.heap.size≤D→pre <+: xs→Ix c pre W→W.heap[D]?=some (.deferred (some []))→c.wpIn (Wd none) n P Q { a with defers:={ target:=.collected D,args:=#[] }::a.defers } W) :
  zh0 f0 P (Code.rangeFunc g ps assign body) Q a w:=by
 refine zlt (n:=n) ?_
 obtain ⟨fn,hfn⟩:∃ fn,fn=f0:=⟨_,rfl⟩
 rw[←hfn] at hf0 ⊢
 obtain ⟨W1,hW1⟩:∃ W1,(w.alloc (.deferred (some []))).alloc (.loop { state:=.ready,pending:=none,fn,tmps:=a.tmps,params:=ps,assign,body,defers:=w.heap.size })=W1:=⟨_,rfl⟩
 have hb1:Below w.heap.size w W1:=by rw[←hW1];exact ((Below.refl _ w).alloc (Nat.le_refl _) _).alloc (by simp) _
 have hs1:W1.heap.size=w.heap.size+2:=by rw[←hW1];simp
 have hL1:W1.heap[w.heap.size+1]?=some (.loop { state:=.ready,pending:=none,fn,tmps:=a.tmps,params:=ps,assign,body,defers:=w.heap.size }):=by
  rw[←hW1];have:=World.alloc_heap_new (w.alloc (.deferred (some []))) (.loop { state:=.ready,pending:=none,fn,tmps:=a.tmps,params:=ps,assign,body,defers:=w.heap.size });rwa [World.size_alloc] at this
 have hK1:W1.heap[w.heap.size]?=some (.deferred (some [])):=by
  rw[←hW1];exact (Below.heap_alloc _ _ _ (by simp)).trans (World.alloc_heap_new w _)
 have hm1:Moves (zab M w.heap.size) w W1:=by rw[←hW1];exact (Moves.refl.alloc _).alloc _
 refine zoH (hfn:=hf0) (fn:=fn) (mark:=[{ target:=.collected w.heap.size,args:=#[] }]) (l:=w.heap.size+1) (W1:=W1) (dfs:=w.heap.size) hg eg hMc hKc hps I Ix Ip hI hIx hIp Ax hAx hassign hbody (by omega) (hseq W1 hb1 hs1) (by omega) ?_ hL1 (hI _ _ _ h0 hm1)
  (fun W=>W.heap[w.heap.size]?=some (.deferred (some []))) ?_ hK1 (fun W hpn hi hx=>hdone _ W hpn (Nat.le_refl _) hi hx) (fun c W hpn hi hx=>hpan _ c W hpn (Nat.le_refl _) hi hx) (fun c W hi hx=>hpan2 _ c W (Nat.le_refl _) hi hx) (fun c pre W hp hi hx=>hstop _ c pre W (Nat.le_refl _) hp hi hx)
 ·rw[←hW1];exact run_enterLoop_outer _ _ _ _ _
 ·intro A B hx hk
  exact hk _ _ hx (Nat.le_refl _) (by omega) (by omega) rfl
theorem zmm {P:Program} {n:Nat} {ro:Option Nat} {o:Oper} {a:Act} {next:Act→World→Prop} {Q:Exit→Act→World→Prop} {l:Nat} {av:Array Value} {W:World} {R:Ending→World→Prop}
  (hy:YieldsAt P l av W R) (h:∀ e W',R e W'→(∃ b,e=.returned (.bool b)∧next (a.put o.dst (.bool b)) W')∨(∃ c,e=.panicked c∧Q (.panic c) a W')) :
  o.uponIn (Wd ro) n P a next Q ((Instr.yield l av).run P W):=by
 obtain ⟨fn,tmps,assign,body,hrun,hR⟩:=hy;rw[hrun]
 refine ⟨fun h=>by simp[Fence.wide] at h,(zkQ (n:=n-1) hR).mono ?_⟩
 intro e W' hr
 rcases h e W' hr with ⟨b,rfl,hn⟩ | ⟨c,rfl,hn⟩
 ·exact hn
 ·exact hn
end Go.Mv

namespace Go.Proofs.YtgonhdeochgkoaaGreatDoor
open Go.RowKit Go.Mv
structure Tup where
 s:Sta
 log:List Ent
 term:Int
 vote:Int
def zcn (t:Tup):Bool:=t.s.ok&&decide (t.s.idx≤1073740824)&&decide (t.log.length≤200)&&decide (0≤t.vote)&&decide (t.vote≤5)
def goT:Int→List Ent→Option Int
 | c,[]=>some c
 | c,e::l=>if okB e.t e.k e.v&&decide (c≤e.t) then goT e.t l else none
def zbN (t:Tup):Bool:=zcn t&&(match goT t.s.term t.log with | none=>false | some x=>decide (x≤t.term)&&decide (0≤t.term)&&decide (t.term≤1073741824))
theorem zbU {W:World} {b:Nat} {t:TypeId} {a v u x y z p q:Value} (h:Blk W b t #[a,v,u,x,y,z,p,q]):W.cell? ⟨b,0,none⟩=some a∧W.cell? ⟨b,1,none⟩=some v∧W.cell? ⟨b,2,none⟩=some u∧W.cell? ⟨b,3,none⟩=some x∧W.cell? ⟨b,4,none⟩=some y∧W.cell? ⟨b,5,none⟩=some z∧W.cell? ⟨b,6,none⟩=some p∧W.cell? ⟨b,7,none⟩=some q :=
 ⟨h.cell 0 rfl,h.cell 1 rfl,h.cell 2 rfl,h.cell 3 rfl,h.cell 4 rfl,h.cell 5 rfl,h.cell 6 rfl,h.cell 7 rfl⟩
def zem:Tup:=⟨znE,[],0,0⟩
structure Rd where
 err:Int
 t:Tup
 m:Mf
def zbM (e:Int):Rd:=⟨e,zem,mf0⟩
def zaI (fs:List Fil):Rd:=match zax fs (zak 1 0 0) with
 | none=>zbM 42
 | some b=>match zbB b with
  | none=>zbM 130
  | some m=>match zb3 fs m with
   | none=>zbM 130
   | some s=>if (zdG fs m s.idx).2&&zbN ⟨s,(zdG fs m s.idx).1,m.term,m.vote⟩ then ⟨0,⟨s,(zdG fs m s.idx).1,m.term,m.vote⟩,m⟩ else zbM 130
def zbV (t:Tup) (v:Value):Array Value:=#[.int .i64 t.s.idx,.int .i64 t.s.term,.int .i64 t.s.sum,.int .i64 t.s.lvl,.bool t.s.fin,v,.int .i64 t.term,.int .i64 t.vote]
def zpC (w:World) (r:Rd) (e:Ending) (w':World):Prop:=∃ vl vs,e=.returned (.tuple #[.agg #[.int .i64 r.t.s.idx,.int .i64 r.t.s.term,.int .i64 r.t.s.sum,.int .i64 r.t.s.lvl,.bool r.t.s.fin,vl,.int .i64 r.t.term,.int .i64 r.t.vote],.agg #[.int .i64 r.m.next,.int .i64 r.m.term,.int .i64 r.m.vote,.int .i64 r.m.sq,.int .i64 r.m.sf,vs],.int .i64 r.err])∧Es w' vl r.t.log∧Sgs w' vs r.m.segs∧Ext w w'
theorem zd4 {b:List UInt8} {m:Mf} (h:zbB b=some m):zav m=true∧zbm m=some b:=by
 unfold zbB at h
 split at h
 ·cases h
 ·split at h
  ·cases h
  ·split at h
   ·rename_i hp
    cases h
    refine ⟨?_,hp⟩
    unfold zbm at hp
    split at hp
    ·assumption
    ·cases hp
   ·cases h
theorem zjh {m:Mf} (h:zav m=true):∀ s∈m.segs,1≤s.first∧s.first≤1073741820∧-1≤s.count∧s.count≤4:=by
 intro s hs;unfold zav at h;rw[Bool.and_eq_true] at h
 exact zgG h.2 s (by rw[List.take_length];exact hs)
theorem zqB {fs:List Fil} {m:Mf} {s:Sta} (h:zb3 fs m=some s):s.ok=true∧0≤s.idx∧s.idx≤1073741824:=by
 have hok:s.ok=true:=by
  unfold zb3 at h
  split at h
  ·cases h;rfl
  ·split at h
   ·cases h
   ·exact (zqH h).1
 have:=(Sta.okP hok).1
 unfold zaJ at this
 simp at this
 exact ⟨hok,this⟩
theorem zkp {W:World} {b:Nat} {t:TypeId} {cs:Array Value} (h:Blk W b t cs):W.frozen? ⟨b,0,none⟩=false∧W.frozen? ⟨b,1,none⟩=false∧W.frozen? ⟨b,2,none⟩=false∧W.frozen? ⟨b,3,none⟩=false∧W.frozen? ⟨b,4,none⟩=false∧W.frozen? ⟨b,5,none⟩=false∧W.frozen? ⟨b,6,none⟩=false∧W.frozen? ⟨b,7,none⟩=false :=
 ⟨h.frozen 0,h.frozen 1,h.frozen 2,h.frozen 3,h.frozen 4,h.frozen 5,h.frozen 6,h.frozen 7⟩
def zdj (W:World) (b:Nat) (a v u x y z p q:Value):World:=(((((((W.setCell ⟨b,0,none⟩ a).setCell ⟨b,1,none⟩ v).setCell ⟨b,2,none⟩ u).setCell ⟨b,3,none⟩ x).setCell ⟨b,4,none⟩ y).setCell ⟨b,5,none⟩ z).setCell ⟨b,6,none⟩ p).setCell ⟨b,7,none⟩ q
theorem zhb {W:World} {b:Nat} {t:TypeId} {a v u x y z p q:Value} (h:Blk W b t #[a,v,u,x,y,z,p,q]) (a' v' u' x' y' z' p' q':Value):Blk (zdj W b a' v' u' x' y' z' p' q') b t #[a',v',u',x',y',z',p',q']:=by
 have h0:Blk _ b t #[a',v,u,x,y,z,p,q]:=h.set 0 a'
 have h1:Blk _ b t #[a',v',u,x,y,z,p,q]:=h0.set 1 v'
 have h2:Blk _ b t #[a',v',u',x,y,z,p,q]:=h1.set 2 u'
 have h3:Blk _ b t #[a',v',u',x',y,z,p,q]:=h2.set 3 x'
 have h4:Blk _ b t #[a',v',u',x',y',z,p,q]:=h3.set 4 y'
 have h5:Blk _ b t #[a',v',u',x',y',z',p,q]:=h4.set 5 z'
 have h6:Blk _ b t #[a',v',u',x',y',z',p',q]:=h5.set 6 p'
 have h7:Blk _ b t #[a',v',u',x',y',z',p',q']:=h6.set 7 q'
 exact h7
theorem zeR {W:World} {b c:Nat} {t:TypeId} {cs:Array Value} (h:Blk W b t cs) (hne:b≠c) (a' v' u' x' y' z' p' q':Value):Blk (zdj W c a' v' u' x' y' z' p' q') b t cs :=
 (((((((h.other hne 0 a').other hne 1 v').other hne 2 u').other hne 3 x').other hne 4 y').other hne 5 z').other hne 6 p').other hne 7 q'
theorem zho {w W:World} (h:Ext w W) {b:Nat} (hb:w.heap.size≤b) (a' v' u' x' y' z' p' q':Value):Ext w (zdj W b a' v' u' x' y' z' p' q') :=
 (((((((Below.setCell h hb a').setCell hb v').setCell hb u').setCell hb x').setCell hb y').setCell hb z').setCell hb p').setCell hb q'
def zb2 (W:World) (b:Nat) (a v u x y z:Value):World:=(((((W.setCell ⟨b,0,none⟩ a).setCell ⟨b,1,none⟩ v).setCell ⟨b,2,none⟩ u).setCell ⟨b,3,none⟩ x).setCell ⟨b,4,none⟩ y).setCell ⟨b,5,none⟩ z
theorem zeQ {W:World} {b c:Nat} {t:TypeId} {cs:Array Value} (h:Blk W b t cs) (hne:b≠c) (a' v' u' x' y' z':Value):Blk (zb2 W c a' v' u' x' y' z') b t cs :=
 (((((h.other hne 0 a').other hne 1 v').other hne 2 u').other hne 3 x').other hne 4 y').other hne 5 z'
theorem zfW {W:World} {b:Nat} {t:TypeId} {cs:Array Value} (hB:Blk W b t cs) {e:TypeId} (hte:t≠e) {base size k:Nat} {vv:Value} {xs:List Value} (hr:W.ownsRow base e size vv k xs) (a' v' u' x' y' z' p' q':Value):(zdj W b a' v' u' x' y' z' p' q').ownsRow base e size vv k xs:=by
 have r0:=hr.kept (zaa _ b 0 a') (.inr (hB.not_row hte hr).symm);have b0:=hB.set 0 a';have r1:=r0.kept (zaa _ b 1 v') (.inr (b0.not_row hte r0).symm);have b1:=b0.set 1 v';have r2:=r1.kept (zaa _ b 2 u') (.inr (b1.not_row hte r1).symm);have b2:=b1.set 2 u';have r3:=r2.kept (zaa _ b 3 x') (.inr (b2.not_row hte r2).symm);have b3:=b2.set 3 x';have r4:=r3.kept (zaa _ b 4 y') (.inr (b3.not_row hte r3).symm);have b4:=b3.set 4 y';have r5:=r4.kept (zaa _ b 5 z') (.inr (b4.not_row hte r4).symm);have b5:=b4.set 5 z';have r6:=r5.kept (zaa _ b 6 p') (.inr (b5.not_row hte r5).symm);have b6:=b5.set 6 p';have r7:=r6.kept (zaa _ b 7 q') (.inr (b6.not_row hte r6).symm);have b7:=b6.set 7 q'
 exact r7
theorem zc6 {W:World} {b:Nat} {t:TypeId} {cs:Array Value} (hB:Blk W b t cs) {e:TypeId} (hte:t≠e) {base size k:Nat} {vv:Value} {xs:List Value} (hr:W.ownsRow base e size vv k xs) (a' v' u' x' y' z':Value):(zb2 W b a' v' u' x' y' z').ownsRow base e size vv k xs:=by
 have r0:=hr.kept (zaa _ b 0 a') (.inr (hB.not_row hte hr).symm);have b0:=hB.set 0 a';have r1:=r0.kept (zaa _ b 1 v') (.inr (b0.not_row hte r0).symm);have b1:=b0.set 1 v';have r2:=r1.kept (zaa _ b 2 u') (.inr (b1.not_row hte r1).symm);have b2:=b1.set 2 u';have r3:=r2.kept (zaa _ b 3 x') (.inr (b2.not_row hte r2).symm);have b3:=b2.set 3 x';have r4:=r3.kept (zaa _ b 4 y') (.inr (b3.not_row hte r3).symm);have b4:=b3.set 4 y';have r5:=r4.kept (zaa _ b 5 z') (.inr (b4.not_row hte r4).symm);have b5:=b4.set 5 z'
 exact r5
theorem znL:Tryz.prog.underlying 56=some (.struct (Tryz.prog.fieldsOf 56)):=by kernel_rfl
open Go.RowKit Go.Mv Go.Shelf
attribute [local go_sem] Oper.semAt_some
theorem zkN {W:World} {base:Nat} {e:TypeId} {size:Nat} {v:Value} {n:Nat} {xs:List Value} (h:W.ownsRow base e size v n xs) {D:Nat} {o:Obj} (hD:W.heap[D]?=some o) (hc:o.isCells=false) (o':Obj):(W.putObj D o').ownsRow base e size v n xs:=by
 refine ⟨h.1,?_⟩
 rcases h.2 with hn | ⟨g,cap,cur,hv,hb,hg,rest⟩
 ·exact .inl hn
 ·exact .inr ⟨g,cap,cur,hv,hb,zfE (W:=W) (b:=g) (t:=e) (cs:=cur) hg hD hc o',rest⟩
/-! Names -/
/-! Files -/
theorem zn5 (f:Fil) (fs:List Fil) (n:List UInt8):zax (f::fs) (some n)=if f.1=n then some f.2 else zax fs (some n):=by
 unfold zax zbS za5;simp only[List.findIdx?_cons]
 by_cases h:f.1=n
 ·simp[h]
 ·have hb:(f.1==n)=false:=by simpa using h
  rw[if_neg h,hb];simp only[Bool.false_eq_true,if_false]
  cases hi:fs.findIdx? (fun f=>f.1==n) with
  | none=>simp
  | some i =>
   simp only[Option.map_some];rw[if_neg (by omega),if_neg (by omega)]
   have e1:((i+1:Nat):Int).toNat=i+1:=by omega
   have e2:((i:Nat):Int).toNat=i:=by omega
   rw[e1,e2,List.getElem?_cons_succ]
/-! Manifests -/
/-! Segments -/
/-! A step -/
/-! What a shadow says -/
theorem zrE (W:World):Fs W (.slice none 0 0) []:=⟨[],SlR.nil W 2,fun i hi=>absurd hi (by simp)⟩
theorem zvL (W:World) (n b:List UInt8) (v:Value) (h:Bs W v b):Fs (W.alloc (.cells #[sv n,v] 51)) (.slice (some ⟨W.heap.size,0,none⟩) 1 1) [(n,b)]:=by
 refine ⟨[sv n,v],⟨rfl,_,1,rfl,Nat.le_refl _,by simp[maxLen],fun _=>⟨W.heap.size,0,rfl,fun j u hu=>?_⟩⟩,fun i hi=>?_⟩
 ·rw[Nat.zero_add]
  have hb:=Blk.new W 51 #[sv n,v]
  exact hb.cell j (by simpa using hu)
 ·have:i=0:=by simp at hi;omega
  subst this
  exact ⟨rfl,v,rfl,h.ext (Ext.alloc (Ext.refl _) _)⟩
theorem zjW:(Tryz.prog.info? 51).map (fun i=>(i.zero,i.size,i.bytes))=some (some (.agg #[.string ⟨#[]⟩,.slice none 0 0]),2,40):=by kernel_rfl
def FRow (W:World) (xs:List Value) (fs:List Fil):Prop:=xs.length=fs.length*2∧∀ (i:Nat) (hi:i<fs.length),xs[i*2]?=some (sv fs[i].1)∧∃ u,xs[i*2+1]?=some u∧Bs W u fs[i].2
theorem FRow.ext {W W':World} {xs:List Value} {fs:List Fil} (h:FRow W xs fs) (hE:Ext W W'):FRow W' xs fs:=⟨h.1,fun i hi=>by
 obtain ⟨h3,u,h4,h5⟩:=h.2 i hi
 exact ⟨h3,u,h4,h5.ext hE⟩⟩
theorem FRow.one {W:World} {xs:List Value} {fs:List Fil} (h:FRow W xs fs):∀ u∈xs,u.oneCell'=true:=by
 intro u hu;obtain ⟨j,hj,rfl⟩:=List.mem_iff_getElem.1 hu;have hl:=h.1;obtain ⟨h3,v,h4,h5⟩:=h.2 (j / 2) (by omega)
 rcases Nat.mod_two_eq_zero_or_one j with hm | hm
 ·have e:j / 2*2=j:=by omega
  rw[e,List.getElem?_eq_getElem hj] at h3
  injection h3 with h3
  rw[h3];rfl
 ·have e:j / 2*2+1=j:=by omega
  rw[e,List.getElem?_eq_getElem hj] at h4
  injection h4 with h4
  rw[h4];obtain ⟨A,c,rfl,_,_⟩:=SlR.open_ h5;rfl
theorem FRow.append {W:World} {xs ys:List Value} {fs gs:List Fil} (h1:FRow W xs fs) (h2:FRow W ys gs):FRow W (xs++ys) (fs++gs):=by
 refine ⟨by rw[List.length_append,List.length_append,h1.1,h2.1];omega,fun i hi=>?_⟩
 have hl:=h1.1;rw[List.length_append] at hi
 by_cases h:i<fs.length
 ·rw[List.getElem?_append_left (by omega),List.getElem?_append_left (by omega)]
  simp only[List.getElem_append_left h]
  exact h1.2 i h
 ·have e1:i*2-xs.length=(i-fs.length)*2:=by omega
  have e2:i*2+1-xs.length=(i-fs.length)*2+1:=by omega
  rw[List.getElem?_append_right (by omega),List.getElem?_append_right (by omega),e1,e2];simp only[List.getElem_append_right (Nat.le_of_not_lt h)]
  exact h2.2 (i-fs.length) (by omega)
theorem FRow.one' {W:World} {n1 b1:List UInt8} {v1:Value} (h1:Bs W v1 b1):FRow W [sv n1,v1] [(n1,b1)]:=by
 refine ⟨rfl,fun i hi=>?_⟩
 match i,hi with
 | 0,_=>exact ⟨rfl,v1,rfl,h1⟩
theorem ze1 (w:World) (cs:List Value) (m:Nat) (hm:cs.length=m*2) (hl:m≤maxLen) {base:Nat} (hb:base≤w.heap.size):(w.alloc (.cells cs.toArray 51)).ownsRow base 51 2 (.slice (some ⟨w.heap.size,0,none⟩) m m) m cs :=
 ⟨hm,.inr ⟨w.heap.size,m,cs.toArray,rfl,hb,heap_alloc_new w _,Nat.le_refl _,hl,by simp[hm],by simp[←hm]⟩⟩
/-! A manifest laid into an old box -/
theorem zfl {W:World} {b:Nat} {p:Addr} {u:Value} (h:W.cell? p=some u) (hp:p.block≠b) (a' v' u' x' y' z':Value):(zb2 W b a' v' u' x' y' z').cell? p=some u:=by
 have hh:(zb2 W b a' v' u' x' y' z').heap[p.block]?=W.heap[p.block]?:=by
  unfold zb2;rw[Below.heap_setCell _ _ _ _ hp,Below.heap_setCell _ _ _ _ hp,Below.heap_setCell _ _ _ _ hp,Below.heap_setCell _ _ _ _ hp,Below.heap_setCell _ _ _ _ hp,Below.heap_setCell _ _ _ _ hp]
 unfold World.cell? at h ⊢
 rw[hh]
 exact h
def idC (x:Int×Int×Int):List Value:=[.int .u8 x.1,.int .i64 x.2.1,.int .i64 x.2.2]
def idCells (l:List (Int×Int×Int)):List Value:=l.flatMap idC
def zdr (w:World) (base:Nat) (v:Value) (l:List (Int×Int×Int)):Prop:=w.ownsRow base 49 3 v l.length (idCells l)
theorem zlj:(Tryz.prog.info? 49).map (fun i=>(i.zero,i.size,i.bytes))=some (some (.agg #[.int .u8 0,.int .i64 0,.int .i64 0]),3,24):=by kernel_rfl
theorem zng (l:List (Int×Int×Int)):∀ u∈idCells l,u.oneCell'=true:=by
 intro u hu;obtain ⟨s,_,hu⟩:=List.mem_flatMap.1 hu;simp only[idC,List.mem_cons,List.not_mem_nil,or_false] at hu
 rcases hu with rfl | rfl | rfl <;> rfl
theorem zfv (W:World) (x:Int×Int×Int):zdr (W.alloc (.cells #[.int .u8 x.1,.int .i64 x.2.1,.int .i64 x.2.2] 49)) W.heap.size (.slice (some ⟨W.heap.size,0,none⟩) 1 1) [x] :=
 ⟨rfl,.inr ⟨W.heap.size,1,#[.int .u8 x.1,.int .i64 x.2.1,.int .i64 x.2.2],rfl,Nat.le_refl _,heap_alloc_new W _,Nat.le_refl _,by simp[maxLen],rfl,rfl⟩⟩
theorem zea {ops:Array Oper} {rest:List Oper} {o:Oper} {a:Act} {w:World} {Q:Exit→Act→World→Prop} (hgd:o.guard=none) (s x:Operand)
  (ho:o.op=.call { callee:=.builtin .append,args:=#[s,x],argTypes:=#[43,43] })
  (base:Nat) (v:Value) (bs:List (Int×Int×Int)) (hs:a.eval s=v) (hown:zdr w base v bs) (vx:Value) (c:Int×Int×Int) (hx:a.eval x=vx) (hr:SlR w 3 vx 1 (idCells [c]))
  (hlen:bs.length≤2000000) (hbase:base≤w.heap.size)
  (h:∀ A cc w',zdr w' base (.slice A (bs.length+1) cc) (bs++[c])→w.grownBy w' v.ownBlock→wpList Tryz.prog ops Q rest (a.put o.dst (.slice A (bs.length+1) cc)) w'):wpList Tryz.prog ops Q (o::rest) a w:=by
 obtain ⟨i0,hi,hz0,hz1,hz2⟩:=info_parts zlj
 refine zbJ _ hgd s x 43 ho base 49 i0 _ 3 24 Tryz.underlying43 hi hz0 hz1 hz2 rfl (by decide) v bs.length (idCells bs) hs hown vx 1 (idCells [c]) hx hr (zng _) (by unfold maxLen;omega) (by omega) hbase ?_
 intro v' w' h1 h2;obtain ⟨A,cc,rfl,_,_⟩:=SlR.open_ (SlR.of_own h1)
 refine h A cc w' ?_ h2
 unfold zdr
 rw[List.length_append,show idCells (bs++[c])=idCells bs++idCells [c] from by simp[idCells]]
 exact h1
def zfc (m:Mf):List (Int×Int×Int):=(1,0,0)::(if m.sq=0 then [] else [(4,m.sq,m.sf)])
def zaX (s:Sg4):Int×Int×Int:=(3,s.seq,s.fmt)
def zau (m:Mf):List (Int×Int×Int):=zfc m++m.segs.map zaX
end Go.Proofs.YtgonhdeochgkoaaGreatDoor
