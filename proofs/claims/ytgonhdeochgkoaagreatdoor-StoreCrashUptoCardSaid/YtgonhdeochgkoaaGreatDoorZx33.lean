/- Merged -/
import Derived.Test.YtgonhdeochgkoaaGreatDoorZx1
set_option linter.all false
set_option maxHeartbeats 8000000
set_option maxRecDepth 100000
open Go.StepsIn renaming trans→P0
open Array renaming getElem?_eq_some_iff→P1,replicate→P2
open Go.World renaming putObj_heap_other→P3,putObj_heap_same→P4,alloc_heap_new→P5
open Go.ComesIn renaming of_steps→P6
open Go.Instr renaming enterLoop→P7
namespace Go.Mv
open Go.RowKit
def zhC (f0:FuncId) (P:Program) (c:Code) (Q:Exit→Act→World→Prop) (a:Act) (w:World):Prop :=
 ∀ (b:Frame) (k:List Item) (cs:List Frame),b.roundOf=none→b.fn=f0 →
  ∃ e a' w',Q e a' w'∧ArrivesIn (Machine.fenced P (Wd none)) P (lone (b.atR a (.code c::k)) cs w) b k cs e a' w'
section
variable {f0:FuncId} {P:Program} {n:Nat} {Q:Exit→Act→World→Prop} {a:Act} {w:World}
theorem zfE (ro:Option Nat) (m:Nat):(Wd ro).room m:=fun d hd=>by cases hd
theorem zfG {c:Code} (h:c.wpIn (Wd none) n P Q a w):zhC f0 P c Q a w:=fun b k cs hr _=>h b k cs hr trivial (zfE _ _)
theorem zeO {x y:Code} (h:zhC f0 P x (Exit.then (zhC f0 P y Q) Q) a w):zhC f0 P (Code.seq x y) Q a w:=by
 intro b k cs Hs hb
 have h0:(lone (b.atR a (.code (.seq x y)::k)) cs w).fenced P (Wd none):=fenced_calm (n:=0) trivial (zfE _ _) rfl
 obtain ⟨e,a₁,w₁,hq,H0⟩:=h b (.code y::k) cs Hs hb
 cases e with
 | normal =>
  obtain ⟨e₂,a₂,w₂,hq₂,harr₂⟩:=hq b k cs Hs hb
  exact ⟨e₂,a₂,w₂,hq₂,.of_steps (.head h0 stepR_seq H0) harr₂⟩
 | exit id=>exact ⟨_,a₁,w₁,hq,.of_steps (.one h0 stepR_seq) (.pass (x:=.code y) rfl (fun _ _=>.inl (by simp)) H0)⟩
 | goto l=>exact ⟨_,a₁,w₁,hq,.of_steps (.one h0 stepR_seq) (.pass (x:=.code y) rfl (fun _ _=>.inl (by simp)) H0)⟩
 | ret=>exact ⟨_,a₁,w₁,hq,.of_steps (.one h0 stepR_seq) (.pass (x:=.code y) rfl (fun _ _=>.inl (by simp)) H0)⟩
 | panic ch=>exact ⟨_,a₁,w₁,hq,.of_steps (.one h0 stepR_seq) (.pass (x:=.code y) rfl (fun _ _=>.inl (by simp)) H0)⟩
 | outgrown=>exact ⟨_,a₁,w₁,hq,.of_steps (.one h0 stepR_seq) (.pass (x:=.code y) rfl (fun _ _=>.inl (by simp)) H0)⟩
theorem zqc {id:Nat} {c:Code} (h:zhC f0 P c (Exit.inBlock id Q) a w):zhC f0 P (Code.block id c) Q a w:=by
 intro b k cs Hs hb
 have h0:(lone (b.atR a (.code (.block id c)::k)) cs w).fenced P (Wd none):=fenced_calm (n:=0) trivial (zfE _ _) rfl
 have hr:b.roundOf.isSome=true→False:=fun h=>by rw[Hs] at h;cases h
 obtain ⟨e,a₁,w₁,hq,H0⟩:=h b (.inBlock id::k) cs Hs hb
 cases e with
 | normal=>exact ⟨.normal,a₁,w₁,hq,.head h0 stepR_block (P0 H0 (.one (fenced_calm (n:=0) trivial (zfE _ _) rfl) stepR_inBlock))⟩
 | exit id' =>
  by_cases hid:id'=id
  ·simp only[Exit.inBlock,hid,if_true] at hq
   exact ⟨.normal,a₁,w₁,hq,.head h0 stepR_block (H0.1 k (by simp[exitTo,hid]))⟩
  ·simp only[Exit.inBlock,hid,if_false] at hq
   have this:(id==id')=false:=by simp;exact fun h=>hid h.symm
   have hx:exitTo id' (.inBlock id::k)=exitTo id' k:=by simp[exitTo,this]
   exact ⟨.exit id',a₁,w₁,hq,fun k' hk=>.head h0 stepR_block (H0.1 k' (by rw[hx];exact hk)),fun h _=>(hr h).elim⟩
 | goto l =>
  have hx:gotoIn l (.inBlock id::k)=gotoIn l k:=by simp[gotoIn]
  exact ⟨_,a₁,w₁,hq,fun k' hk=>.head h0 stepR_block (H0.1 k' (by rw[hx];exact hk)),fun h _=>(hr h).elim⟩
 | ret=>exact ⟨_,a₁,w₁,hq,.of_steps (.one h0 stepR_block) H0⟩
 | panic ch=>exact ⟨_,a₁,w₁,hq,.of_steps (.one h0 stepR_block) H0⟩
 | outgrown=>exact ⟨_,a₁,w₁,hq,.of_steps (.one h0 stepR_block) H0⟩
theorem zkX {g:Operand} {ps:Array Tmp} {assign body:Code}
  (h:∃ (l:Nat) (mark:List Deferred) (w₁:World) (d:Deferred) (w₁':World) (f:FuncId) (args:Array Value) (w₂:World),
    (P7 f0 a.tmps ps assign body none).run P w=.ok (l,mark) w₁ ∧
    (resolve a.eval (rangeCall g l) 0).run P w₁=.ok d w₁' ∧
    (∀ f',Target.leads P w₁' d.target d.args=some f'→(Wd none).fn f') ∧
    (invoke d.target d.args).run P w₁'=.ok (.enter f args) w₂ ∧
    ((Wd none).depth.isSome=true→1≤n) ∧
    CallsIn (Wd none) (n-1) P f args w₂ (rangePost (Wd none) n P l Q { a with defers:=mark++a.defers })) :
  zhC f0 P (Code.rangeFunc g ps assign body) Q a w:=by
 intro b k cs Hs hb;obtain ⟨l,mark,w₁,d,w₁',f,args,w₂,he,HO,HR,HM,hn,hF,HE⟩:=h;rw[←Hs,←hb] at he
 have hr:(Wd none).room (cs.length+1+n):=zfE _ _
 have h0:(lone (b.atR a (.code (.rangeFunc g ps assign body)::k)) cs w).fenced P (Wd none):=by
  refine fenced_lone (.inl trivial) (fun f' Ka=>trivial) (Fence.room_le hr (by omega))
 have H3:=stepR_rangeFunc (P:=P) (b:=b) (a:=a) (k:=k) (cs:=cs) (w:=w) he HO HM
 have Hi:(Wd none).room ((b.atR { a with defers:=mark++a.defers } (.inRangeFunc l::k)::cs).length+1+(n-1)):=zfE _ _
 obtain ⟨e,w₃,fr,hR,Hb,hfn,H8⟩:=HE (b.atR { a with defers:=mark++a.defers } (.inRangeFunc l::k)::cs) Hi
 cases e with
 | outgrown =>
  obtain ⟨a₀,w₀,hq⟩:=hR
  exact ⟨.outgrown,a₀,w₀,hq,.inr (Outgrown.of_steps (.one H3) Hb)⟩
 | returned v =>
  have hl:(lone fr (b.atR { a with defers:=mark++a.defers } (.inRangeFunc l::k)::cs) w₃).fenced P (Wd none):=fenced_leaving (hfn ▸ hF) Hi H8
  obtain ⟨H2,w₄,H7,hj⟩:=hR
  have Ht:StepsIn (Machine.fenced P (Wd none)) P (lone (b.atR a (.code (.rangeFunc g ps assign body)::k)) cs w) (lone (b.atR { a with defers:=mark++a.defers } ((H2.map Item.code).toList++k)) cs w₄):=by
   refine .head h0 H3 (P0 Hb (.head hl ?_ (.one (fenced_calm (fr:=b.atR { a with defers:=mark++a.defers } (.endRangeFunc l::k)) trivial hr rfl) (stepR_endRangeFunc H7))))
   rw[←finish_atR_inRangeFunc l v];exact step_leave_returned H8
  cases H2 with
  | none=>exact ⟨.normal,_,w₄,hj,Ht⟩
  | some c =>
   obtain ⟨e',HV,w₅,hq,H0⟩:=hj b k cs Hs trivial hr
   exact ⟨e',HV,w₅,hq,.of_steps Ht H0⟩
 | panicked chain =>
  have hl:(lone fr (b.atR { a with defers:=mark++a.defers } (.inRangeFunc l::k)::cs) w₃).fenced P (Wd none):=fenced_leaving (hfn ▸ hF) Hi H8
  refine ⟨.panic chain,_,w₃,hR,.inRangeFunc l::k,.head h0 H3 (P0 Hb (.one hl ?_))⟩
  rw[←Frame.raise_atR];exact step_leave_panicked H8
theorem zj6 {fn:Func} {c:Code} {args:Array Value} {R:Ending→World→Prop}
  (hf:P.funcs[f0]?=some fn) (hb:fn.body=some c)
  (h:zhC f0 P c (bodyPostM (Wd none) n P fn R) { tmps:=args++P2 (fn.ntmps-args.size) undef,defers:=[] } w):CallsIn (Wd none) n P f0 args w R:=by
 refine ⟨trivial,fun cs hr=>?_⟩
 let b:Frame:={ (default:Frame) with fn:=f0,kind:=.normal,roundOf:=none }
 have H3:Frame.enter P f0 args .normal =
   b.atR { tmps:=args++P2 (fn.ntmps-args.size) undef,defers:=[] } [.code c]:=by
  simp[Frame.enter,Frame.atR,hf,hb,b]
 obtain ⟨e,a',w',hq,H0⟩:=h b [] cs rfl rfl;rw[←H3] at H0
 have hF:(Wd none).fn f0:=trivial
 cases e with
 | normal =>
  obtain ⟨e',HH,HB,hR,hs,hfn,hl⟩:=leaves_stepsInM a'.defers .returning w' { b.atR a' [] with mode:=.returning } cs rfl rfl rfl hf rfl hF hr hq
  exact ⟨e',HH,HB,hR,P6 (P0 H0 (.one (fenced_calm (fr:=b.atR a' []) hF hr rfl) (stepR_end rfl))) hs,hfn,hl⟩
 | ret =>
  obtain ⟨He,hs₀⟩:=H0.1 rfl;obtain ⟨e',HH,HB,hR,hs,hfn,hl⟩:=leaves_stepsInM a'.defers .returning w' { b.atR a' He with mode:=.returning } cs rfl rfl rfl hf rfl hF hr hq
  exact ⟨e',HH,HB,hR,P6 hs₀ hs,hfn,hl⟩
 | panic chain =>
  obtain ⟨He,hs₀⟩:=H0;obtain ⟨e',HH,HB,hR,hs,hfn,hl⟩:=leaves_stepsInM a'.defers (.panicking chain) w' { b.atR a' He with mode:=.panicking chain } cs rfl rfl rfl hf rfl hF hr hq
  exact ⟨e',HH,HB,hR,P6 hs₀ hs,hfn,hl⟩
 | exit id=>exact hq.elim
 | goto l=>exact hq.elim
 | outgrown=>exact ⟨.outgrown,w',b,hq,H0.resolve_left (by simp[b]),rfl,trivial⟩
end
def zpO (P:Program) (l:Nat) (R:Ending→World→Prop):Exit→Act→World→Prop
 | .panic c,a,w=>a.defers=[]∧R (.panicked c) w
 | e,a,w=>roundPost P l R e a w
theorem zjM {F:Fence} {n:Nat} {P:Program} {l:Nat} {f:FuncId} (hfn:∃ g,P.funcs[f]?=some g) {tmps:Array Value} {assign body:Code} {w:World} {R:Ending→World→Prop} (hF:F.fn f)
  (h:assign.wpIn (F.inRound l) n P (Exit.then (fun a₁ w₁=>∃ w₂,(Instr.beginRound l).run P w₁=.ok () w₂∧body.wpIn (F.inRound l) n P (zpO P l R) a₁ w₂) (fun _ _ _=>False))
    { tmps:=tmps,defers:=[] } w) :
  RoundIn F n P l f tmps assign body w R:=by
 refine ⟨hF,fun c cs hr=>?_⟩
 let b:Frame:={ (default:Frame) with fn:=f,kind:=.normal,roundOf:=some l }
 have K0:Frame.round l f tmps assign body .normal=b.atR { tmps:=tmps,defers:=[] } [.code assign,.beginRound,.code body]:=by
  simp[Frame.round,Frame.atR,b]
 have Hr:(F.inRound l).room ((c::cs).length+1+n):=hr
 have Hq:(F.inRound l).fn b.fn:=hF
 obtain ⟨e,a₁,w₁,hq,H0⟩:=h b [.beginRound,.code body] (c::cs) rfl Hq Hr;rw[←K0] at H0
 cases e with
 | normal =>
  obtain ⟨w₂,K2,H9⟩:=hq
  have s1:StepsIn (Machine.fenced P (F.inRound l)) P (lone (b.atR a₁ [.beginRound,.code body]) (c::cs) w₁) (lone (b.atR a₁ [.code body]) (c::cs) w₂) :=
   .one (fenced_calm (fr:=b.atR a₁ [.beginRound,.code body]) Hq Hr rfl) (stepR_beginRound rfl K2)
  obtain ⟨e₂,a₂,w₃,hq₂,harr₂⟩:=H9 b [] (c::cs) rfl Hq Hr
  cases e₂ with
  | normal =>
   obtain ⟨v,w₄,H7,hR⟩:=hq₂
   exact ⟨.returned v,w₄,hR,(P0 H0 s1).trans (P0 harr₂ (.one (fenced_calm (fr:=b.atR a₂ []) Hq Hr rfl) (stepR_round_end rfl rfl H7)))⟩
  | ret =>
   obtain ⟨v,w₄,H7,hR⟩:=hq₂;obtain ⟨k₁,hs⟩:=harr₂.2 rfl
   exact ⟨.returned v,w₄,hR,(P0 H0 s1).trans (P0 hs (.one (fenced_calm (fr:=b.atR a₂ (.code .ret::k₁)) Hq Hr rfl) (stepR_round_ret rfl rfl H7)))⟩
  | exit id =>
   obtain ⟨v,w₄,H7,hR⟩:=hq₂;obtain ⟨k₁,hk,hs⟩:=harr₂.2 rfl rfl
   exact ⟨.returned v,w₄,hR,(P0 H0 s1).trans (P0 hs (.one (fenced_calm (fr:=b.atR a₂ (.code (.exit id)::k₁)) Hq Hr rfl) (stepR_round_exit rfl rfl hk H7)))⟩
  | goto t =>
   obtain ⟨v,w₄,H7,hR⟩:=hq₂;obtain ⟨k₁,hk,hs⟩:=harr₂.2 rfl rfl
   exact ⟨.returned v,w₄,hR,(P0 H0 s1).trans (P0 hs (.one (fenced_calm (fr:=b.atR a₂ (.code (.goto t)::k₁)) Hq Hr rfl) (stepR_round_goto rfl rfl hk H7)))⟩
  | panic chain =>
   obtain ⟨hd,hR⟩:=hq₂;obtain ⟨He,hs⟩:=harr₂
   have hl:({ b.atR a₂ He with mode:=.panicking chain }:Frame).leaving P w₃ (.panicked chain):=⟨rfl,hd,hfn⟩
   have K3:(lone { b.atR a₂ He with mode:=.panicking chain } (c::cs) w₃).fenced P (F.inRound l):=fenced_leaving (n:=n) Hq Hr hl
   exact ⟨.panicked chain,w₃,hR,(P0 H0 s1).trans (P0 hs (.one K3 (step_leave_panicked hl)))⟩
  | outgrown=>exact hq₂.elim
 | exit id=>exact hq.elim
 | goto l=>exact hq.elim
 | ret=>exact hq.elim
 | panic chain=>exact hq.elim
 | outgrown=>exact hq.elim
def zo3 (P:Program) (gf:Nat) (lb:Array Value) {α:Type} (Rp:α→Array Value→World→Prop) (K M:Nat→Obj→Prop) (xs:List α) (pn:Option (List PanicEntry)) (W0:World):Prop :=
 ∀ (l:Nat) (J Jx:List α→World→Prop) (Jp:List PanicEntry→World→Prop),
  (∀ s A B,J s A→Moves (zad M W0.heap.size) A B→J s B)→(∀ s A B,Jx s A→Moves (zad M W0.heap.size) A B→Jx s B)→(∀ c A B,Jp c A→Moves (zad M W0.heap.size) A B→Jp c B) →
  (∀ H1 x H4,xs=H1++x::H4→∀ (W:World) (av:Array Value),J H1 W→W0.heap.size≤W.heap.size→Rp x av W→YieldsAt P l av W fun e W' =>
    (Kept (zad K W0.heap.size) W W'∧((e=.returned (.bool true)∧J (H1++[x]) W')∨(e=.returned (.bool false)∧Jx (H1++[x]) W')))∨∃ c,e=.panicked c∧Jp c W') →
  J [] W0 →
  Calls P gf (#[.func (.yield l) #[] #[]]++lb) W0 fun e W'=>(pn=none∧(∃ v,e=.returned v)∧J xs W')∨(∃ c,pn=some c∧e=.panicked c∧J xs W')∨((∃ v,e=.returned v)∧∃ H1,H1 <+: xs∧Jx H1 W')∨(∃ c,e=.panicked c∧Jp c W')
def zoN {α:Type} (K:Nat→Obj→Prop) (I:List α→World→Prop) (Ix:Code→List α→World→Prop) (Ip:List PanicEntry→World→Prop) (xs:List α) (W:World):Exit→Act→World→Prop
 | .normal,_,W'=>Kept K W W'∧I xs W'
 | .ret,_,W'=>Kept K W W'∧Ix .ret xs W'
 | .exit id,_,W'=>Kept K W W'∧Ix (.exit id) xs W'
 | .goto t,_,W'=>Kept K W W'∧Ix (.goto t) xs W'
 | .panic c,a,W'=>a.defers=[]∧Kept K W W'∧Ip c W'
 | .outgrown,_,_=>False
theorem zoc {P:Program} {α:Type} {ro:Option Nat} {n:Nat} {g:Operand} {ps:Array Tmp} {assign body:Code} {Q:Exit→Act→World→Prop} {a:Act} {w:World}
  {gf:Nat} {lb:Array Value} (hg:a.eval g=.func (.func gf) #[] lb) (eg:∀ args w,(callFunc gf args).run P w=.ok (.enter gf args) w)
  {Rp:α→Array Value→World→Prop} {K M:Nat→Obj→Prop} {xs:List α} {pn:Option (List PanicEntry)}
  (hMc:∀ k o,M k o→o.isCells=true) (HK:∀ k o,K k o→∀ r,o≠.loop r) (hps:∀ x av W,Rp x av W→av.size=ps.size)
  (I:List α→World→Prop) (Ix:Code→List α→World→Prop) (Ip:List PanicEntry→World→Prop)
  (hI:∀ s A B,I s A→Moves (zad M w.heap.size) A B→I s B) (hIx:∀ c s A B,Ix c s A→Moves (zad M w.heap.size) A B→Ix c s B) (hIp:∀ c A B,Ip c A→Moves (zad M w.heap.size) A B→Ip c B)
  (Ax:α→Act→World→Prop) (hAx:∀ x a' A B,Ax x a' A→Moves (zad (fun _ _=>False) w.heap.size) A B→Ax x a' B)
  (H6:∀ (l:Nat) (H1:List α) (x:α) (H4:List α) (W:World) (av:Array Value) (K':Act→World→Prop),xs=H1++x::H4→I H1 W→w.heap.size≤W.heap.size→Rp x av W →
    (∀ a' W',Kept (zad K w.heap.size) W W'→I H1 W'→Ax x a' W'→K' a' W') →
    assign.wpIn (Wd (some l)) n P (Exit.then K' (fun _ _ _=>False)) { tmps:=(ps.zip av).foldl (fun t (p,v)=>t.setIfInBounds p v) a.tmps,defers:=[] } W)
  (H9:∀ (l:Nat) (H1:List α) (x:α) (H4:List α) (a':Act) (W:World),xs=H1++x::H4→w.heap.size≤l→(∃ r,W.heap[l]?=some (.loop r))→I H1 W→w.heap.size≤W.heap.size→Ax x a' W →
    body.wpIn (Wd (some l)) n P (zoN (zad K w.heap.size) I Ix Ip (H1++[x]) W) a' W)
  {fn:FuncId} (hfn:∃ g,P.funcs[fn]?=some g) {l:Nat} {mark:List Deferred} {W1:World} {dfs:Nat} (HI:w.heap.size≤l)
  (hseq:zo3 P gf lb Rp K M xs pn W1) (Hu:w.heap.size≤W1.heap.size)
  (H3:(P7 fn a.tmps ps assign body ro).run P w=.ok (l,mark) W1)
  (HL:W1.heap[l]?=some (.loop { state:=.ready,pending:=none,fn,tmps:=a.tmps,params:=ps,assign,body,defers:=dfs }))
  (HW:I [] W1)
  (X:World→Prop) (hX:∀ A B,X A→(∀ k o,A.heap[k]?=some o→w.heap.size≤k→k<W1.heap.size→k≠l→o.isCells=false→B.heap[k]?=some o)→X B) (HY:X W1)
  (Hg:∀ W,pn=none→I xs W→X W→Q .normal { a with defers:=mark++a.defers } W)
  (Hy:∀ c W,pn=some c→I xs W→X W→Q (.panic c) { a with defers:=mark++a.defers } W)
  (Hh:∀ c W,Ip c W→X W→Q (.panic c) { a with defers:=mark++a.defers } W)
  (Hj:∀ c H1 W,H1 <+: xs→Ix c H1 W→X W→c.wpIn (Wd ro) n P Q { a with defers:=mark++a.defers } W) :
  ∃ (l:Nat) (mark:List Deferred) (w₁:World) (d:Deferred) (w₁':World) (f:FuncId) (args:Array Value) (w₂:World),
   (P7 fn a.tmps ps assign body ro).run P w=.ok (l,mark) w₁ ∧
   (resolve a.eval (rangeCall g l) 0).run P w₁=.ok d w₁' ∧
   (∀ f',Target.leads P w₁' d.target d.args=some f'→(Wd ro).fn f') ∧
   (invoke d.target d.args).run P w₁'=.ok (.enter f args) w₂ ∧
   ((Wd ro).depth.isSome=true→1≤n) ∧
   CallsIn (Wd ro) (n-1) P f args w₂ (rangePost (Wd ro) n P l Q { a with defers:=mark++a.defers }):=by
 obtain ⟨Ha,H5⟩:∃ Ha:LoopState→Option Code→Loop,Ha=fun st pe=>{ state:=st,pending:=pe,fn,tmps:=a.tmps,params:=ps,assign,body,defers:=dfs }:=⟨_,rfl⟩
 have HD:W1.heap[l]?=some (.loop (Ha .ready none)):=by rw[H5];exact HL
 -- the record's own turns
 have put:∀ (A:World) (o o':Obj),A.heap[l]?=some o→o.isCells=false→Moves (zad (fun _ _=>False) w.heap.size) A (A.putObj l o'):=fun A o o' ho hc =>
  Moves.refl.putObj (fun o₁ h₁=>by rw[ho] at h₁;cases h₁;exact .inr ⟨HI,hc⟩) o'
 have zdG:∀ s A o o',I s A→A.heap[l]?=some o→o.isCells=false→I s (A.putObj l o'):=fun s A o o' hi ho hc =>
  hI s _ _ hi ((put A o o' ho hc).weaken (fun k o h=>by rcases h with h | h;exact h.elim;exact .inr h))
 have Hd:∀ c s A o o',Ix c s A→A.heap[l]?=some o→o.isCells=false→Ix c s (A.putObj l o'):=fun c s A o o' hi ho hc =>
  hIx c s _ _ hi ((put A o o' ho hc).weaken (fun k o h=>by rcases h with h | h;exact h.elim;exact .inr h))
 have HG:l<W1.heap.size:=(P1.1 HD).1
 have Ho:∀ A o',X A→X (A.putObj l o'):=fun A o' hx=>hX A _ hx (fun k o hk _ _ K8 _=>(P3 K8).trans hk)
 have Hk:∀ {K':Nat→Obj→Prop} (A B:World),X A→Kept (zad K' w.heap.size) A B→X B:=fun A B hx hk =>
  hX A B hx (fun k o ho hn _ _ hc=>hk.same k o ho (.inr ⟨hn,hc⟩))
 have Hm:∀ (A B:World) (k:Nat) (o:Obj),A.heap[k]?=some o→k<W1.heap.size→o.isCells=false→Moves (zad M W1.heap.size) A B→B.heap[k]?=some o:=fun A B k o ho hk hc hm =>
  hm.same k o ho (fun h=>by
   rcases h with h | h
   ·have:=hMc k o h;rw[hc] at this;cases this
   ·omega)
 have Hn:∀ (A B:World),X A→Moves (zad M W1.heap.size) A B→X B:=fun A B hx hm =>
  hX A B hx (fun k o ho _ K6 _ hc=>Hm A B k o ho K6 hc hm)
 have Hl:∀ (A B:World),Moves (zad M W1.heap.size) A B→Moves (zad M w.heap.size) A B:=fun A B hm =>
  hm.weaken (fun k o h=>by rcases h with h | h;exact .inl h;exact .inr ⟨by omega,h.2⟩)
 refine ⟨l,mark,W1,{ target:=.fn (.func gf) lb,args:=#[.func (.yield l) #[] #[]] },W1,gf,#[.func (.yield l) #[] #[]]++lb,W1,H3,?_,fun _ _=>trivial,?_,fun h=>by simp[Fence.wide] at h,?_⟩
 ·simp only[resolve,hg]
  simp[go_sem]
 ·simp[invoke,go_sem,eg]
 ·refine callsIn_wd.2 ?_
  refine (hseq l
   (fun H1 W=>I H1 W∧W.heap[l]?=some (.loop (Ha .ready none))∧X W)
   (fun H1 W=>∃ c,Ix c H1 W∧W.heap[l]?=some (.loop (Ha .done (some c)))∧X W)
   (fun c W=>Ip c W∧X W)
   (fun s A B hs hm=>⟨hI s A B hs.1 (Hl A B hm),Hm A B l _ hs.2.1 HG rfl hm,Hn A B hs.2.2 hm⟩)
   (fun s A B hs hm=>by
     obtain ⟨c,hc,hl,hx⟩:=hs
     exact ⟨c,hIx c s A B hc (Hl A B hm),Hm A B l _ hl HG rfl hm,Hn A B hx hm⟩)
   (fun c A B hs hm=>⟨hIp c A B hs.1 (Hl A B hm),Hn A B hs.2 hm⟩)
   ?_ ⟨HW,HD,HY⟩).mono ?_
  · -- ONE ROUND
   rintro H1 x H4 HU W av ⟨hi,hl,hx⟩ Kb HS;have hy:=run_yield (P:=P) (args:=av) hl (by rw[H5];exact hps x av W HS);rw[H5] at hy
   refine ⟨fn,_,assign,body,hy,?_⟩
   clear hy
   have rd:=zjM hfn (F:=Wd (some l)) (n:=n) (P:=P) (l:=l) (f:=fn) (w:=W) (assign:=assign) (body:=body) (tmps:=(ps.zip av).foldl (fun t (p,v)=>t.setIfInBounds p v) a.tmps)
    (R:=fun e W'=>(Kept (zad K W1.heap.size) W W'∧((e=.returned (.bool true)∧I (H1++[x]) W'∧W'.heap[l]?=some (.loop (Ha .ready none))∧X W') ∨
      (e=.returned (.bool false)∧∃ c,Ix c (H1++[x]) W'∧W'.heap[l]?=some (.loop (Ha .done (some c)))∧X W')))∨∃ c,e=.panicked c∧Ip c W'∧X W')
    trivial (H6 l H1 x H4 W av _ HU hi (by omega) HS ?_)
   ·exact ⟨trivial,fun c cs _=>rd.2 c cs (room_wide _)⟩
   ·intro a' Wa HF K4 HZ
    have HJ:=HF.same l _ hl (.inr ⟨HI,rfl⟩);have HT:=Hk W Wa hx HF
    have HN:l<Wa.heap.size:=(P1.1 HJ).1
    refine ⟨_,run_beginRound HJ (by rw[H5]),?_⟩
    have HQ:(Wa.putObj l (.loop { Ha .ready none with state:=.busy })).heap[l]?=some (.loop { Ha .ready none with state:=.busy }):=P4 HN
    refine wpIn_mono (H9 l H1 x H4 a' _ HU HI ⟨_,HQ⟩ (zdG _ _ _ _ K4 HJ rfl) (by simp;have:=HF.size;omega) (hAx x a' _ _ HZ (put _ _ _ HJ rfl))) ?_
    -- what is known behind the body
    have fin:∀ (H2:Option Code) (W3:World),Kept (zad K w.heap.size) (Wa.putObj l (.loop { Ha .ready none with state:=.busy })) W3 →
      (Instr.endRound l H2).run P W3=.ok (.bool H2.isNone) (W3.putObj l (.loop (Ha (if H2.isNone then .ready else .done) H2))) ∧
      W3.heap[l]?=some (.loop { Ha .ready none with state:=.busy }) ∧
      (W3.putObj l (.loop (Ha (if H2.isNone then .ready else .done) H2))).heap[l]?=some (.loop (Ha (if H2.isNone then .ready else .done) H2)) ∧
      X (W3.putObj l (.loop (Ha (if H2.isNone then .ready else .done) H2))) ∧
      Kept (zad K W1.heap.size) W (W3.putObj l (.loop (Ha (if H2.isNone then .ready else .done) H2))):=fun H2 W3 Hc=>by
     have Hf:=Hc.same l _ HQ (.inr ⟨HI,rfl⟩);have Hp:=run_endRound (P:=P) H2 Hf
     rw[H5] at Hp ⊢
     refine ⟨Hp,by rw[H5] at Hf;exact Hf,P4 (P1.1 Hf).1,Ho _ _ (Hk _ _ (Ho _ _ HT) Hc),⟨?_,?_⟩⟩
     ·have h1:=HF.size;have h2:=Hc.size;simp at h2 ⊢;omega
     ·intro k o hk hK
      have HP:zad K w.heap.size k o:=by
       rcases hK with h | h
       ·exact .inl h
       ·exact .inr ⟨by omega,h.2⟩
      by_cases e:k=l
      ·subst e
       rw[hl] at hk;cases hk
       rcases hK with h | h
       ·exact absurd rfl (HK _ _ h _)
       ·omega
      ·have h1:=HF.same k o hk HP
       have h2:=Hc.same k o ((P3 e).trans h1) HP
       exact (P3 e).trans h2
    rintro e a3 W3 hp
    cases e with
    | normal =>
     obtain ⟨Hc,Hv⟩:=hp;obtain ⟨hr,Hf,Hx,HA,Hw⟩:=fin none W3 Hc
     exact ⟨_,_,hr,.inl ⟨Hw,.inl ⟨rfl,zdG _ _ _ _ Hv Hf rfl,Hx,HA⟩⟩⟩
    | ret =>
     obtain ⟨Hc,Hv⟩:=hp;obtain ⟨hr,Hf,Hx,HA,Hw⟩:=fin (some .ret) W3 Hc
     exact ⟨_,_,hr,.inl ⟨Hw,.inr ⟨rfl,.ret,Hd _ _ _ _ _ Hv Hf rfl,Hx,HA⟩⟩⟩
    | exit id =>
     obtain ⟨Hc,Hv⟩:=hp;obtain ⟨hr,Hf,Hx,HA,Hw⟩:=fin (some (.exit id)) W3 Hc
     exact ⟨_,_,hr,.inl ⟨Hw,.inr ⟨rfl,.exit id,Hd _ _ _ _ _ Hv Hf rfl,Hx,HA⟩⟩⟩
    | goto t =>
     obtain ⟨Hc,Hv⟩:=hp;obtain ⟨hr,Hf,Hx,HA,Hw⟩:=fin (some (.goto t)) W3 Hc
     exact ⟨_,_,hr,.inl ⟨Hw,.inr ⟨rfl,.goto t,Hd _ _ _ _ _ Hv Hf rfl,Hx,HA⟩⟩⟩
    | panic ch =>
     obtain ⟨hd,Hc,K5⟩:=hp
     exact ⟨hd,.inr ⟨ch,rfl,K5,Hk _ _ (Ho _ _ HT) Hc⟩⟩
    | outgrown=>exact hp.elim
  · -- BEHIND THE ITERATOR
   rintro e W2 (⟨Hz,⟨v,rfl⟩,hi,hl,hx⟩ | ⟨c,Hz,rfl,hi,hl,hx⟩ | ⟨⟨v,rfl⟩,H1,hpre,c,hi,hl,hx⟩ | ⟨c,rfl,hi,hx⟩)
   ·exact ⟨none,_,by have:=run_endLoop (P:=P) hl (by rw[H5];simp);rw[H5] at this;exact this,Hg _ Hz (zdG _ _ _ _ hi hl rfl) (Ho _ _ hx)⟩
   ·exact Hy c _ Hz hi hx
   ·exact ⟨some c,_,by have:=run_endLoop (P:=P) hl (by rw[H5];simp);rw[H5] at this;exact this,Hj c H1 _ hpre (Hd _ _ _ _ _ hi hl rfl) (Ho _ _ hx)⟩
   ·exact Hh c _ hi hx
theorem zsa {P:Program} {α:Type} {f0:FuncId} (hf0:∃ g,P.funcs[f0]?=some g) {n:Nat} {g:Operand} {ps:Array Tmp} {assign body:Code} {Q:Exit→Act→World→Prop} {a:Act} {w:World}
  {gf:Nat} {lb:Array Value} (hg:a.eval g=.func (.func gf) #[] lb) (eg:∀ args w,(callFunc gf args).run P w=.ok (.enter gf args) w)
  {Rp:α→Array Value→World→Prop} {K M:Nat→Obj→Prop} {xs:List α} {pn:Option (List PanicEntry)}
  (hseq:∀ W1,Below w.heap.size w W1→W1.heap.size=w.heap.size+2→zo3 P gf lb Rp K M xs pn W1)
  (hMc:∀ k o,M k o→o.isCells=true) (HK:∀ k o,K k o→∀ r,o≠.loop r) (hps:∀ x av W,Rp x av W→av.size=ps.size)
  (I:List α→World→Prop) (Ix:Code→List α→World→Prop) (Ip:List PanicEntry→World→Prop)
  (hI:∀ s A B,I s A→Moves (zad M w.heap.size) A B→I s B) (hIx:∀ c s A B,Ix c s A→Moves (zad M w.heap.size) A B→Ix c s B) (hIp:∀ c A B,Ip c A→Moves (zad M w.heap.size) A B→Ip c B) (h0:I [] w)
  (Ax:α→Act→World→Prop) (hAx:∀ x a' A B,Ax x a' A→Moves (zad (fun _ _=>False) w.heap.size) A B→Ax x a' B)
  (H6:∀ (l:Nat) (H1:List α) (x:α) (H4:List α) (W:World) (av:Array Value) (K':Act→World→Prop),xs=H1++x::H4→I H1 W→w.heap.size≤W.heap.size→Rp x av W →
    (∀ a' W',Kept (zad K w.heap.size) W W'→I H1 W'→Ax x a' W'→K' a' W') →
    assign.wpIn (Wd (some l)) n P (Exit.then K' (fun _ _ _=>False)) { tmps:=(ps.zip av).foldl (fun t (p,v)=>t.setIfInBounds p v) a.tmps,defers:=[] } W)
  (H9:∀ (l:Nat) (H1:List α) (x:α) (H4:List α) (a':Act) (W:World),xs=H1++x::H4→w.heap.size≤l→(∃ r,W.heap[l]?=some (.loop r))→I H1 W→w.heap.size≤W.heap.size→Ax x a' W →
    body.wpIn (Wd (some l)) n P (zoN (zad K w.heap.size) I Ix Ip (H1++[x]) W) a' W)
  (Hg:∀ D W,pn=none→w.heap.size≤D→I xs W→W.heap[D]?=some (.deferred (some []))→Q .normal { a with defers:={ target:=.collected D,args:=#[] }::a.defers } W)
  (Hy:∀ D c W,pn=some c→w.heap.size≤D→I xs W→W.heap[D]?=some (.deferred (some []))→Q (.panic c) { a with defers:={ target:=.collected D,args:=#[] }::a.defers } W)
  (Hh:∀ D c W,w.heap.size≤D→Ip c W→W.heap[D]?=some (.deferred (some []))→Q (.panic c) { a with defers:={ target:=.collected D,args:=#[] }::a.defers } W)
  (Hj:∀ D c H1 W,w.heap.size≤D→H1 <+: xs→Ix c H1 W→W.heap[D]?=some (.deferred (some []))→c.wpIn (Wd none) n P Q { a with defers:={ target:=.collected D,args:=#[] }::a.defers } W) :
  zhC f0 P (Code.rangeFunc g ps assign body) Q a w:=by
 refine zkX (n:=n) ?_
 obtain ⟨fn,hfn⟩:∃ fn,fn=f0:=⟨_,rfl⟩
 rw[←hfn] at hf0 ⊢
 obtain ⟨W1,Hu⟩:∃ W1,(w.alloc (.deferred (some []))).alloc (.loop { state:=.ready,pending:=none,fn,tmps:=a.tmps,params:=ps,assign,body,defers:=w.heap.size })=W1:=⟨_,rfl⟩
 have K1:Below w.heap.size w W1:=by rw[←Hu];exact ((Below.refl _ w).alloc (xN _) _).alloc (by simp) _
 have K9:W1.heap.size=w.heap.size+2:=by rw[←Hu];simp
 have HL:W1.heap[w.heap.size+1]?=some (.loop { state:=.ready,pending:=none,fn,tmps:=a.tmps,params:=ps,assign,body,defers:=w.heap.size }):=by
  rw[←Hu];have:=P5 (w.alloc (.deferred (some []))) (.loop { state:=.ready,pending:=none,fn,tmps:=a.tmps,params:=ps,assign,body,defers:=w.heap.size });rwa [xS] at this
 have HX:W1.heap[w.heap.size]?=some (.deferred (some [])):=by
  rw[←Hu];exact (Below.heap_alloc _ _ _ (by simp)).trans (P5 w _)
 have K7:Moves (zad M w.heap.size) w W1:=by rw[←Hu];exact (Moves.refl.alloc _).alloc _
 refine zoc (hfn:=hf0) (fn:=fn) (mark:=[{ target:=.collected w.heap.size,args:=#[] }]) (l:=w.heap.size+1) (W1:=W1) (dfs:=w.heap.size) hg eg hMc HK hps I Ix Ip hI hIx hIp Ax hAx H6 H9 (by omega) (hseq W1 K1 K9) (by omega) ?_ HL (hI _ _ _ h0 K7)
  (fun W=>W.heap[w.heap.size]?=some (.deferred (some []))) ?_ HX (fun W Hz hi hx=>Hg _ W Hz (xN _) hi hx) (fun c W Hz hi hx=>Hy _ c W Hz (xN _) hi hx) (fun c W hi hx=>Hh _ c W (xN _) hi hx) (fun c H1 W hp hi hx=>Hj _ c H1 W (xN _) hp hi hx)
 ·rw[←Hu];exact run_enterLoop_outer _ _ _ _ _
 ·intro A B hx hk
  exact hk _ _ hx (xN _) (by omega) (by omega) rfl
theorem zlP {P:Program} {n:Nat} {ro:Option Nat} {o:Oper} {a:Act} {next:Act→World→Prop} {Q:Exit→Act→World→Prop} {l:Nat} {av:Array Value} {W:World} {R:Ending→World→Prop}
  (hy:YieldsAt P l av W R) (h:∀ e W',R e W'→(∃ b,e=.returned (.bool b)∧next (a.put o.dst (.bool b)) W')∨(∃ c,e=.panicked c∧Q (.panic c) a W')) :
  o.uponIn (Wd ro) n P a next Q ((Instr.yield l av).run P W):=by
 obtain ⟨fn,tmps,assign,body,Hp,hR⟩:=hy;rw[Hp]
 refine ⟨fun h=>by simp[Fence.wide] at h,(zkv (n:=n-1) hR).mono ?_⟩
 intro e W' hr
 rcases h e W' hr with ⟨b,rfl,hn⟩ | ⟨c,rfl,hn⟩
 ·exact hn
 ·exact hn
end Go.Mv
