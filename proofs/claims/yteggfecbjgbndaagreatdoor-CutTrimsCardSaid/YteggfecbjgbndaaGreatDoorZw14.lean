/- Merged -/
import Derived.Test.YteggfecbjgbndaaGreatDoorZw1
set_option linter.all false
set_option maxHeartbeats 8000000
set_option maxRecDepth 100000
open Option renaming some→C
open Go.Value renaming bool→E
open Go.StepsIn renaming trans→P0
open Array renaming getElem?_eq_some_iff→P1,replicate→P2
open Go.World renaming putObj_heap_other→P3,putObj_heap_same→P4,alloc_heap_new→P5
open Go.Instr renaming enterLoop→P6
open Go.ComesIn renaming of_steps→P7
namespace Go.Mv
open Go.RowKit
def zhq (f0:FuncId) (P:Program) (c:Code) (Q:Exit→Act→World→Prop) (a:Act) (w:World):Prop :=
 ∀ (b:Frame) (k:List Item) (cs:List Frame),b.roundOf=none→b.fn=f0 →
  ∃ e a' w',Q e a' w'∧ArrivesIn (Machine.fenced P (Wd none)) P (lone (b.atR a (.code c::k)) cs w) b k cs e a' w'
section
variable {f0:FuncId} {P:Program} {n:Nat} {Q:Exit→Act→World→Prop} {a:Act} {w:World}
theorem zfi (ro:Option Nat) (m:Nat):(Wd ro).room m:=fun d hd=>by cases hd
theorem zfj {c:Code} (h:c.wpIn (Wd none) n P Q a w):zhq f0 P c Q a w:=fun b k cs hr _=>h b k cs hr trivial (zfi _ _)
theorem zez {x y:Code} (h:zhq f0 P x (Exit.then (zhq f0 P y Q) Q) a w):zhq f0 P (Code.seq x y) Q a w:=by
 intro b k cs HD hb
 have h0:(lone (b.atR a (.code (.seq x y)::k)) cs w).fenced P (Wd none):=fenced_calm (n:=0) trivial (zfi _ _) rfl
 obtain ⟨e,a₁,w₁,hq,H1⟩:=h b (.code y::k) cs HD hb
 cases e with
 | normal =>
  obtain ⟨e₂,a₂,w₂,hq₂,harr₂⟩:=hq b k cs HD hb
  exact ⟨e₂,a₂,w₂,hq₂,.of_steps (.head h0 stepR_seq H1) harr₂⟩
 | exit id=>exact ⟨_,a₁,w₁,hq,.of_steps (.one h0 stepR_seq) (.pass (x:=.code y) rfl (fun _ _=>.inl (by simp)) H1)⟩
 | goto l=>exact ⟨_,a₁,w₁,hq,.of_steps (.one h0 stepR_seq) (.pass (x:=.code y) rfl (fun _ _=>.inl (by simp)) H1)⟩
 | ret=>exact ⟨_,a₁,w₁,hq,.of_steps (.one h0 stepR_seq) (.pass (x:=.code y) rfl (fun _ _=>.inl (by simp)) H1)⟩
 | panic ch=>exact ⟨_,a₁,w₁,hq,.of_steps (.one h0 stepR_seq) (.pass (x:=.code y) rfl (fun _ _=>.inl (by simp)) H1)⟩
 | outgrown=>exact ⟨_,a₁,w₁,hq,.of_steps (.one h0 stepR_seq) (.pass (x:=.code y) rfl (fun _ _=>.inl (by simp)) H1)⟩
theorem zqk {id:Nat} {c:Code} (h:zhq f0 P c (Exit.inBlock id Q) a w):zhq f0 P (Code.block id c) Q a w:=by
 intro b k cs HD hb
 have h0:(lone (b.atR a (.code (.block id c)::k)) cs w).fenced P (Wd none):=fenced_calm (n:=0) trivial (zfi _ _) rfl
 have hr:b.roundOf.isSome=true→False:=fun h=>by rw[HD] at h;cases h
 obtain ⟨e,a₁,w₁,hq,H1⟩:=h b (.inBlock id::k) cs HD hb
 cases e with
 | normal=>exact ⟨.normal,a₁,w₁,hq,.head h0 stepR_block (P0 H1 (.one (fenced_calm (n:=0) trivial (zfi _ _) rfl) stepR_inBlock))⟩
 | exit id' =>
  by_cases hid:id'=id
  ·simp only[Exit.inBlock,hid,if_true] at hq
   exact ⟨.normal,a₁,w₁,hq,.head h0 stepR_block (H1.1 k (by simp[exitTo,hid]))⟩
  ·simp only[Exit.inBlock,hid,if_false] at hq
   have this:(id==id')=false:=by simp;exact fun h=>hid h.symm
   have hx:exitTo id' (.inBlock id::k)=exitTo id' k:=by simp[exitTo,this]
   exact ⟨.exit id',a₁,w₁,hq,fun k' hk=>.head h0 stepR_block (H1.1 k' (by rw[hx];exact hk)),fun h _=>(hr h).elim⟩
 | goto l =>
  have hx:gotoIn l (.inBlock id::k)=gotoIn l k:=by simp[gotoIn]
  exact ⟨_,a₁,w₁,hq,fun k' hk=>.head h0 stepR_block (H1.1 k' (by rw[hx];exact hk)),fun h _=>(hr h).elim⟩
 | ret=>exact ⟨_,a₁,w₁,hq,.of_steps (.one h0 stepR_block) H1⟩
 | panic ch=>exact ⟨_,a₁,w₁,hq,.of_steps (.one h0 stepR_block) H1⟩
 | outgrown=>exact ⟨_,a₁,w₁,hq,.of_steps (.one h0 stepR_block) H1⟩
theorem zkr {g:Operand} {ps:Array Tmp} {assign body:Code}
  (h:∃ (l:Nat) (mark:List Deferred) (w₁:World) (d:Deferred) (w₁':World) (f:FuncId) (args:Array Value) (w₂:World),
    (P6 f0 a.tmps ps assign body none).run P w=.ok (l,mark) w₁ ∧
    (resolve a.eval (rangeCall g l) 0).run P w₁=.ok d w₁' ∧
    (∀ f',Target.leads P w₁' d.target d.args=C f'→(Wd none).fn f') ∧
    (invoke d.target d.args).run P w₁'=.ok (.enter f args) w₂ ∧
    ((Wd none).depth.isSome=true→1≤n) ∧
    CallsIn (Wd none) (n-1) P f args w₂ (rangePost (Wd none) n P l Q { a with defers:=mark++a.defers })) :
  zhq f0 P (Code.rangeFunc g ps assign body) Q a w:=by
 intro b k cs HD hb;obtain ⟨l,mark,w₁,d,w₁',f,args,w₂,he,K3,K6,HY,hn,hF,HN⟩:=h;rw[←HD,←hb] at he
 have hr:(Wd none).room (cs.length+1+n):=zfi _ _
 have h0:(lone (b.atR a (.code (.rangeFunc g ps assign body)::k)) cs w).fenced P (Wd none):=by
  refine fenced_lone (.inl trivial) (fun f' Kh=>trivial) (Fence.room_le hr (by omega))
 have H2:=stepR_rangeFunc (P:=P) (b:=b) (a:=a) (k:=k) (cs:=cs) (w:=w) he K3 HY
 have Ht:(Wd none).room ((b.atR { a with defers:=mark++a.defers } (.inRangeFunc l::k)::cs).length+1+(n-1)):=zfi _ _
 obtain ⟨e,w₃,fr,hR,Hk,hfn,Hd⟩:=HN (b.atR { a with defers:=mark++a.defers } (.inRangeFunc l::k)::cs) Ht
 cases e with
 | outgrown =>
  obtain ⟨a₀,w₀,hq⟩:=hR
  exact ⟨.outgrown,a₀,w₀,hq,.inr (Outgrown.of_steps (.one H2) Hk)⟩
 | returned v =>
  have hl:(lone fr (b.atR { a with defers:=mark++a.defers } (.inRangeFunc l::k)::cs) w₃).fenced P (Wd none):=fenced_leaving (hfn ▸ hF) Ht Hd
  obtain ⟨H5,w₄,Hb,hj⟩:=hR
  have HE:StepsIn (Machine.fenced P (Wd none)) P (lone (b.atR a (.code (.rangeFunc g ps assign body)::k)) cs w) (lone (b.atR { a with defers:=mark++a.defers } ((H5.map Item.code).toList++k)) cs w₄):=by
   refine .head h0 H2 (P0 Hk (.head hl ?_ (.one (fenced_calm (fr:=b.atR { a with defers:=mark++a.defers } (.endRangeFunc l::k)) trivial hr rfl) (stepR_endRangeFunc Hb))))
   rw[←finish_atR_inRangeFunc l v];exact step_leave_returned Hd
  cases H5 with
  | none=>exact ⟨.normal,_,w₄,hj,HE⟩
  | some c =>
   obtain ⟨e',K7,w₅,hq,H1⟩:=hj b k cs HD trivial hr
   exact ⟨e',K7,w₅,hq,.of_steps HE H1⟩
 | panicked chain =>
  have hl:(lone fr (b.atR { a with defers:=mark++a.defers } (.inRangeFunc l::k)::cs) w₃).fenced P (Wd none):=fenced_leaving (hfn ▸ hF) Ht Hd
  refine ⟨.panic chain,_,w₃,hR,.inRangeFunc l::k,.head h0 H2 (P0 Hk (.one hl ?_))⟩
  rw[←Frame.raise_atR];exact step_leave_panicked Hd
theorem zjz {fn:Func} {c:Code} {args:Array Value} {R:Ending→World→Prop}
  (hf:P.funcs[f0]?=C fn) (hb:fn.body=C c)
  (h:zhq f0 P c (bodyPostM (Wd none) n P fn R) { tmps:=args++P2 (fn.ntmps-args.size) undef,defers:=[] } w):CallsIn (Wd none) n P f0 args w R:=by
 refine ⟨trivial,fun cs hr=>?_⟩
 let b:Frame:={ (default:Frame) with fn:=f0,kind:=.normal,roundOf:=none }
 have H2:Frame.enter P f0 args .normal =
   b.atR { tmps:=args++P2 (fn.ntmps-args.size) undef,defers:=[] } [.code c]:=by
  simp[Frame.enter,Frame.atR,hf,hb,b]
 obtain ⟨e,a',w',hq,H1⟩:=h b [] cs rfl rfl;rw[←H2] at H1
 have hF:(Wd none).fn f0:=trivial
 cases e with
 | normal =>
  obtain ⟨e',HQ,HK,hR,hs,hfn,hl⟩:=leaves_stepsInM a'.defers .returning w' { b.atR a' [] with mode:=.returning } cs rfl rfl rfl hf rfl hF hr hq
  exact ⟨e',HQ,HK,hR,P7 (P0 H1 (.one (fenced_calm (fr:=b.atR a' []) hF hr rfl) (stepR_end rfl))) hs,hfn,hl⟩
 | ret =>
  obtain ⟨Ho,hs₀⟩:=H1.1 rfl;obtain ⟨e',HQ,HK,hR,hs,hfn,hl⟩:=leaves_stepsInM a'.defers .returning w' { b.atR a' Ho with mode:=.returning } cs rfl rfl rfl hf rfl hF hr hq
  exact ⟨e',HQ,HK,hR,P7 hs₀ hs,hfn,hl⟩
 | panic chain =>
  obtain ⟨Ho,hs₀⟩:=H1;obtain ⟨e',HQ,HK,hR,hs,hfn,hl⟩:=leaves_stepsInM a'.defers (.panicking chain) w' { b.atR a' Ho with mode:=.panicking chain } cs rfl rfl rfl hf rfl hF hr hq
  exact ⟨e',HQ,HK,hR,P7 hs₀ hs,hfn,hl⟩
 | exit id=>exact hq.elim
 | goto l=>exact hq.elim
 | outgrown=>exact ⟨.outgrown,w',b,hq,H1.resolve_left (by simp[b]),rfl,trivial⟩
end
def zpV (P:Program) (l:Nat) (R:Ending→World→Prop):Exit→Act→World→Prop
 | .panic c,a,w=>a.defers=[]∧R (.panicked c) w
 | e,a,w=>roundPost P l R e a w
theorem zjg {F:Fence} {n:Nat} {P:Program} {l:Nat} {f:FuncId} (hfn:∃ g,P.funcs[f]?=C g) {tmps:Array Value} {assign body:Code} {w:World} {R:Ending→World→Prop} (hF:F.fn f)
  (h:assign.wpIn (F.inRound l) n P (Exit.then (fun a₁ w₁=>∃ w₂,(Instr.beginRound l).run P w₁=.ok () w₂∧body.wpIn (F.inRound l) n P (zpV P l R) a₁ w₂) (fun _ _ _=>False))
    { tmps:=tmps,defers:=[] } w) :
  RoundIn F n P l f tmps assign body w R:=by
 refine ⟨hF,fun c cs hr=>?_⟩
 let b:Frame:={ (default:Frame) with fn:=f,kind:=.normal,roundOf:=C l }
 have Kb:Frame.round l f tmps assign body .normal=b.atR { tmps:=tmps,defers:=[] } [.code assign,.beginRound,.code body]:=by
  simp[Frame.round,Frame.atR,b]
 have HB:(F.inRound l).room ((c::cs).length+1+n):=hr
 have Hz:(F.inRound l).fn b.fn:=hF
 obtain ⟨e,a₁,w₁,hq,H1⟩:=h b [.beginRound,.code body] (c::cs) rfl Hz HB;rw[←Kb] at H1
 cases e with
 | normal =>
  obtain ⟨w₂,Kd,H8⟩:=hq
  have s1:StepsIn (Machine.fenced P (F.inRound l)) P (lone (b.atR a₁ [.beginRound,.code body]) (c::cs) w₁) (lone (b.atR a₁ [.code body]) (c::cs) w₂) :=
   .one (fenced_calm (fr:=b.atR a₁ [.beginRound,.code body]) Hz HB rfl) (stepR_beginRound rfl Kd)
  obtain ⟨e₂,a₂,w₃,hq₂,harr₂⟩:=H8 b [] (c::cs) rfl Hz HB
  cases e₂ with
  | normal =>
   obtain ⟨v,w₄,Hb,hR⟩:=hq₂
   exact ⟨.returned v,w₄,hR,(P0 H1 s1).trans (P0 harr₂ (.one (fenced_calm (fr:=b.atR a₂ []) Hz HB rfl) (stepR_round_end rfl rfl Hb)))⟩
  | ret =>
   obtain ⟨v,w₄,Hb,hR⟩:=hq₂;obtain ⟨k₁,hs⟩:=harr₂.2 rfl
   exact ⟨.returned v,w₄,hR,(P0 H1 s1).trans (P0 hs (.one (fenced_calm (fr:=b.atR a₂ (.code .ret::k₁)) Hz HB rfl) (stepR_round_ret rfl rfl Hb)))⟩
  | exit id =>
   obtain ⟨v,w₄,Hb,hR⟩:=hq₂;obtain ⟨k₁,hk,hs⟩:=harr₂.2 rfl rfl
   exact ⟨.returned v,w₄,hR,(P0 H1 s1).trans (P0 hs (.one (fenced_calm (fr:=b.atR a₂ (.code (.exit id)::k₁)) Hz HB rfl) (stepR_round_exit rfl rfl hk Hb)))⟩
  | goto t =>
   obtain ⟨v,w₄,Hb,hR⟩:=hq₂;obtain ⟨k₁,hk,hs⟩:=harr₂.2 rfl rfl
   exact ⟨.returned v,w₄,hR,(P0 H1 s1).trans (P0 hs (.one (fenced_calm (fr:=b.atR a₂ (.code (.goto t)::k₁)) Hz HB rfl) (stepR_round_goto rfl rfl hk Hb)))⟩
  | panic chain =>
   obtain ⟨hd,hR⟩:=hq₂;obtain ⟨Ho,hs⟩:=harr₂
   have hl:({ b.atR a₂ Ho with mode:=.panicking chain }:Frame).leaving P w₃ (.panicked chain):=⟨rfl,hd,hfn⟩
   have Ke:(lone { b.atR a₂ Ho with mode:=.panicking chain } (c::cs) w₃).fenced P (F.inRound l):=fenced_leaving (n:=n) Hz HB hl
   exact ⟨.panicked chain,w₃,hR,(P0 H1 s1).trans (P0 hs (.one Ke (step_leave_panicked hl)))⟩
  | outgrown=>exact hq₂.elim
 | exit id=>exact hq.elim
 | goto l=>exact hq.elim
 | ret=>exact hq.elim
 | panic chain=>exact hq.elim
 | outgrown=>exact hq.elim
def zoR (P:Program) (gf:Nat) (lb:Array Value) {α:Type} (Rp:α→Array Value→World→Prop) (K M:Nat→Obj→Prop) (xs:List α) (pn:Option (List PanicEntry)) (W0:World):Prop :=
 ∀ (l:Nat) (J Jx:List α→World→Prop) (Jp:List PanicEntry→World→Prop),
  (∀ s A B,J s A→Moves (zac M W0.heap.size) A B→J s B)→(∀ s A B,Jx s A→Moves (zac M W0.heap.size) A B→Jx s B)→(∀ c A B,Jp c A→Moves (zac M W0.heap.size) A B→Jp c B) →
  (∀ H0 x H3,xs=H0++x::H3→∀ (W:World) (av:Array Value),J H0 W→W0.heap.size≤W.heap.size→Rp x av W→YieldsAt P l av W fun e W' =>
    (Kept (zac K W0.heap.size) W W'∧((e=.returned (E true)∧J (H0++[x]) W')∨(e=.returned (E false)∧Jx (H0++[x]) W')))∨∃ c,e=.panicked c∧Jp c W') →
  J [] W0 →
  Calls P gf (#[.func (.yield l) #[] #[]]++lb) W0 fun e W'=>(pn=none∧(∃ v,e=.returned v)∧J xs W')∨(∃ c,pn=C c∧e=.panicked c∧J xs W')∨((∃ v,e=.returned v)∧∃ H0,H0 <+: xs∧Jx H0 W')∨(∃ c,e=.panicked c∧Jp c W')
def zoy {α:Type} (K:Nat→Obj→Prop) (I:List α→World→Prop) (Ix:Code→List α→World→Prop) (Ip:List PanicEntry→World→Prop) (xs:List α) (W:World):Exit→Act→World→Prop
 | .normal,_,W'=>Kept K W W'∧I xs W'
 | .ret,_,W'=>Kept K W W'∧Ix .ret xs W'
 | .exit id,_,W'=>Kept K W W'∧Ix (.exit id) xs W'
 | .goto t,_,W'=>Kept K W W'∧Ix (.goto t) xs W'
 | .panic c,a,W'=>a.defers=[]∧Kept K W W'∧Ip c W'
 | .outgrown,_,_=>False
theorem znQ {P:Program} {α:Type} {ro:Option Nat} {n:Nat} {g:Operand} {ps:Array Tmp} {assign body:Code} {Q:Exit→Act→World→Prop} {a:Act} {w:World}
  {gf:Nat} {lb:Array Value} (hg:a.eval g=.func (.func gf) #[] lb) (eg:∀ args w,(callFunc gf args).run P w=.ok (.enter gf args) w)
  {Rp:α→Array Value→World→Prop} {K M:Nat→Obj→Prop} {xs:List α} {pn:Option (List PanicEntry)}
  (hMc:∀ k o,M k o→o.isCells=true) (HL:∀ k o,K k o→∀ r,o≠.loop r) (hps:∀ x av W,Rp x av W→av.size=ps.size)
  (I:List α→World→Prop) (Ix:Code→List α→World→Prop) (Ip:List PanicEntry→World→Prop)
  (hI:∀ s A B,I s A→Moves (zac M w.heap.size) A B→I s B) (hIx:∀ c s A B,Ix c s A→Moves (zac M w.heap.size) A B→Ix c s B) (hIp:∀ c A B,Ip c A→Moves (zac M w.heap.size) A B→Ip c B)
  (Ax:α→Act→World→Prop) (hAx:∀ x a' A B,Ax x a' A→Moves (zac (fun _ _=>False) w.heap.size) A B→Ax x a' B)
  (H6:∀ (l:Nat) (H0:List α) (x:α) (H3:List α) (W:World) (av:Array Value) (K':Act→World→Prop),xs=H0++x::H3→I H0 W→w.heap.size≤W.heap.size→Rp x av W →
    (∀ a' W',Kept (zac K w.heap.size) W W'→I H0 W'→Ax x a' W'→K' a' W') →
    assign.wpIn (Wd (some l)) n P (Exit.then K' (fun _ _ _=>False)) { tmps:=(ps.zip av).foldl (fun t (p,v)=>t.setIfInBounds p v) a.tmps,defers:=[] } W)
  (H8:∀ (l:Nat) (H0:List α) (x:α) (H3:List α) (a':Act) (W:World),xs=H0++x::H3→w.heap.size≤l→(∃ r,W.heap[l]?=C (.loop r))→I H0 W→w.heap.size≤W.heap.size→Ax x a' W →
    body.wpIn (Wd (some l)) n P (zoy (zac K w.heap.size) I Ix Ip (H0++[x]) W) a' W)
  {fn:FuncId} (hfn:∃ g,P.funcs[fn]?=C g) {l:Nat} {mark:List Deferred} {W1:World} {dfs:Nat} (Hw:w.heap.size≤l)
  (hseq:zoR P gf lb Rp K M xs pn W1) (Hl:w.heap.size≤W1.heap.size)
  (H2:(P6 fn a.tmps ps assign body ro).run P w=.ok (l,mark) W1)
  (HJ:W1.heap[l]?=C (.loop { state:=.ready,pending:=none,fn,tmps:=a.tmps,params:=ps,assign,body,defers:=dfs }))
  (Ka:I [] W1)
  (X:World→Prop) (hX:∀ A B,X A→(∀ k o,A.heap[k]?=C o→w.heap.size≤k→k<W1.heap.size→k≠l→o.isCells=false→B.heap[k]?=C o)→X B) (HU:X W1)
  (Hf:∀ W,pn=none→I xs W→X W→Q .normal { a with defers:=mark++a.defers } W)
  (Hq:∀ c W,pn=C c→I xs W→X W→Q (.panic c) { a with defers:=mark++a.defers } W)
  (Hr:∀ c W,Ip c W→X W→Q (.panic c) { a with defers:=mark++a.defers } W)
  (Hu:∀ c H0 W,H0 <+: xs→Ix c H0 W→X W→c.wpIn (Wd ro) n P Q { a with defers:=mark++a.defers } W) :
  ∃ (l:Nat) (mark:List Deferred) (w₁:World) (d:Deferred) (w₁':World) (f:FuncId) (args:Array Value) (w₂:World),
   (P6 fn a.tmps ps assign body ro).run P w=.ok (l,mark) w₁ ∧
   (resolve a.eval (rangeCall g l) 0).run P w₁=.ok d w₁' ∧
   (∀ f',Target.leads P w₁' d.target d.args=C f'→(Wd ro).fn f') ∧
   (invoke d.target d.args).run P w₁'=.ok (.enter f args) w₂ ∧
   ((Wd ro).depth.isSome=true→1≤n) ∧
   CallsIn (Wd ro) (n-1) P f args w₂ (rangePost (Wd ro) n P l Q { a with defers:=mark++a.defers }):=by
 obtain ⟨H7,H4⟩:∃ H7:LoopState→Option Code→Loop,H7=fun st pe=>{ state:=st,pending:=pe,fn,tmps:=a.tmps,params:=ps,assign,body,defers:=dfs }:=⟨_,rfl⟩
 have Hn:W1.heap[l]?=C (.loop (H7 .ready none)):=by rw[H4];exact HJ
 -- the record's own turns
 have put:∀ (A:World) (o o':Obj),A.heap[l]?=C o→o.isCells=false→Moves (zac (fun _ _=>False) w.heap.size) A (A.putObj l o'):=fun A o o' ho hc =>
  Moves.refl.putObj (fun o₁ h₁=>by rw[ho] at h₁;cases h₁;exact .inr ⟨Hw,hc⟩) o'
 have zbG:∀ s A o o',I s A→A.heap[l]?=C o→o.isCells=false→I s (A.putObj l o'):=fun s A o o' hi ho hc =>
  hI s _ _ hi ((put A o o' ho hc).weaken (fun k o h=>by rcases h with h | h;exact h.elim;exact .inr h))
 have Hm:∀ c s A o o',Ix c s A→A.heap[l]?=C o→o.isCells=false→Ix c s (A.putObj l o'):=fun c s A o o' hi ho hc =>
  hIx c s _ _ hi ((put A o o' ho hc).weaken (fun k o h=>by rcases h with h | h;exact h.elim;exact .inr h))
 have Hy:l<W1.heap.size:=(P1.1 Hn).1
 have He:∀ A o',X A→X (A.putObj l o'):=fun A o' hx=>hX A _ hx (fun k o hk _ _ K2 _=>(P3 K2).trans hk)
 have H9:∀ {K':Nat→Obj→Prop} (A B:World),X A→Kept (zac K' w.heap.size) A B→X B:=fun A B hx hk =>
  hX A B hx (fun k o ho hn _ _ hc=>hk.same k o ho (.inr ⟨hn,hc⟩))
 have Ha:∀ (A B:World) (k:Nat) (o:Obj),A.heap[k]?=C o→k<W1.heap.size→o.isCells=false→Moves (zac M W1.heap.size) A B→B.heap[k]?=C o:=fun A B k o ho hk hc hm =>
  hm.same k o ho (fun h=>by
   rcases h with h | h
   ·have:=hMc k o h;rw[hc] at this;cases this
   ·omega)
 have Hh:∀ (A B:World),X A→Moves (zac M W1.heap.size) A B→X B:=fun A B hx hm =>
  hX A B hx (fun k o ho _ K0 _ hc=>Ha A B k o ho K0 hc hm)
 have Hg:∀ (A B:World),Moves (zac M W1.heap.size) A B→Moves (zac M w.heap.size) A B:=fun A B hm =>
  hm.weaken (fun k o h=>by rcases h with h | h;exact .inl h;exact .inr ⟨by omega,h.2⟩)
 refine ⟨l,mark,W1,{ target:=.fn (.func gf) lb,args:=#[.func (.yield l) #[] #[]] },W1,gf,#[.func (.yield l) #[] #[]]++lb,W1,H2,?_,fun _ _=>trivial,?_,fun h=>by simp[Fence.wide] at h,?_⟩
 ·simp only[resolve,hg]
  simp[go_sem]
 ·simp[invoke,go_sem,eg]
 ·refine callsIn_wd.2 ?_
  refine (hseq l
   (fun H0 W=>I H0 W∧W.heap[l]?=C (.loop (H7 .ready none))∧X W)
   (fun H0 W=>∃ c,Ix c H0 W∧W.heap[l]?=C (.loop (H7 .done (some c)))∧X W)
   (fun c W=>Ip c W∧X W)
   (fun s A B hs hm=>⟨hI s A B hs.1 (Hg A B hm),Ha A B l _ hs.2.1 Hy rfl hm,Hh A B hs.2.2 hm⟩)
   (fun s A B hs hm=>by
     obtain ⟨c,hc,hl,hx⟩:=hs
     exact ⟨c,hIx c s A B hc (Hg A B hm),Ha A B l _ hl Hy rfl hm,Hh A B hx hm⟩)
   (fun c A B hs hm=>⟨hIp c A B hs.1 (Hg A B hm),Hh A B hs.2 hm⟩)
   ?_ ⟨Ka,Hn,HU⟩).mono ?_
  · -- ONE ROUND
   rintro H0 x H3 HP W av ⟨hi,hl,hx⟩ Kg HO;have hy:=run_yield (P:=P) (args:=av) hl (by rw[H4];exact hps x av W HO);rw[H4] at hy
   refine ⟨fn,_,assign,body,hy,?_⟩
   clear hy
   have rd:=zjg hfn (F:=Wd (some l)) (n:=n) (P:=P) (l:=l) (f:=fn) (w:=W) (assign:=assign) (body:=body) (tmps:=(ps.zip av).foldl (fun t (p,v)=>t.setIfInBounds p v) a.tmps)
    (R:=fun e W'=>(Kept (zac K W1.heap.size) W W'∧((e=.returned (E true)∧I (H0++[x]) W'∧W'.heap[l]?=C (.loop (H7 .ready none))∧X W') ∨
      (e=.returned (E false)∧∃ c,Ix c (H0++[x]) W'∧W'.heap[l]?=C (.loop (H7 .done (some c)))∧X W')))∨∃ c,e=.panicked c∧Ip c W'∧X W')
    trivial (H6 l H0 x H3 W av _ HP hi (by omega) HO ?_)
   ·exact ⟨trivial,fun c cs _=>rd.2 c cs (room_wide _)⟩
   ·intro a' Wa Hp HX HV
    have Hx:=Hp.same l _ hl (.inr ⟨Hw,rfl⟩);have HS:=H9 W Wa hx Hp
    have HH:l<Wa.heap.size:=(P1.1 Hx).1
    refine ⟨_,run_beginRound Hx (by rw[H4]),?_⟩
    have HA:(Wa.putObj l (.loop { H7 .ready none with state:=.busy })).heap[l]?=C (.loop { H7 .ready none with state:=.busy }):=P4 HH
    refine wpIn_mono (H8 l H0 x H3 a' _ HP Hw ⟨_,HA⟩ (zbG _ _ _ _ HX Hx rfl) (by simp;have:=Hp.size;omega) (hAx x a' _ _ HV (put _ _ _ Hx rfl))) ?_
    -- what is known behind the body
    have fin:∀ (H5:Option Code) (W3:World),Kept (zac K w.heap.size) (Wa.putObj l (.loop { H7 .ready none with state:=.busy })) W3 →
      (Instr.endRound l H5).run P W3=.ok (E H5.isNone) (W3.putObj l (.loop (H7 (if H5.isNone then .ready else .done) H5))) ∧
      W3.heap[l]?=C (.loop { H7 .ready none with state:=.busy }) ∧
      (W3.putObj l (.loop (H7 (if H5.isNone then .ready else .done) H5))).heap[l]?=C (.loop (H7 (if H5.isNone then .ready else .done) H5)) ∧
      X (W3.putObj l (.loop (H7 (if H5.isNone then .ready else .done) H5))) ∧
      Kept (zac K W1.heap.size) W (W3.putObj l (.loop (H7 (if H5.isNone then .ready else .done) H5))):=fun H5 W3 Hc=>by
     have Hi:=Hc.same l _ HA (.inr ⟨Hw,rfl⟩);have Hj:=run_endRound (P:=P) H5 Hi
     rw[H4] at Hj ⊢
     refine ⟨Hj,by rw[H4] at Hi;exact Hi,P4 (P1.1 Hi).1,He _ _ (H9 _ _ (He _ _ HS) Hc),⟨?_,?_⟩⟩
     ·have h1:=Hp.size;have h2:=Hc.size;simp at h2 ⊢;omega
     ·intro k o hk hK
      have HM:zac K w.heap.size k o:=by
       rcases hK with h | h
       ·exact .inl h
       ·exact .inr ⟨by omega,h.2⟩
      by_cases e:k=l
      ·subst e
       rw[hl] at hk;cases hk
       rcases hK with h | h
       ·exact absurd rfl (HL _ _ h _)
       ·omega
      ·have h1:=Hp.same k o hk HM
       have h2:=Hc.same k o ((P3 e).trans h1) HM
       exact (P3 e).trans h2
    rintro e a3 W3 hp
    cases e with
    | normal =>
     obtain ⟨Hc,Hv⟩:=hp;obtain ⟨hr,Hi,HG,HI,HF⟩:=fin none W3 Hc
     exact ⟨_,_,hr,.inl ⟨HF,.inl ⟨rfl,zbG _ _ _ _ Hv Hi rfl,HG,HI⟩⟩⟩
    | ret =>
     obtain ⟨Hc,Hv⟩:=hp;obtain ⟨hr,Hi,HG,HI,HF⟩:=fin (some .ret) W3 Hc
     exact ⟨_,_,hr,.inl ⟨HF,.inr ⟨rfl,.ret,Hm _ _ _ _ _ Hv Hi rfl,HG,HI⟩⟩⟩
    | exit id =>
     obtain ⟨Hc,Hv⟩:=hp;obtain ⟨hr,Hi,HG,HI,HF⟩:=fin (some (.exit id)) W3 Hc
     exact ⟨_,_,hr,.inl ⟨HF,.inr ⟨rfl,.exit id,Hm _ _ _ _ _ Hv Hi rfl,HG,HI⟩⟩⟩
    | goto t =>
     obtain ⟨Hc,Hv⟩:=hp;obtain ⟨hr,Hi,HG,HI,HF⟩:=fin (some (.goto t)) W3 Hc
     exact ⟨_,_,hr,.inl ⟨HF,.inr ⟨rfl,.goto t,Hm _ _ _ _ _ Hv Hi rfl,HG,HI⟩⟩⟩
    | panic ch =>
     obtain ⟨hd,Hc,Kf⟩:=hp
     exact ⟨hd,.inr ⟨ch,rfl,Kf,H9 _ _ (He _ _ HS) Hc⟩⟩
    | outgrown=>exact hp.elim
  · -- BEHIND THE ITERATOR
   rintro e W2 (⟨Hs,⟨v,rfl⟩,hi,hl,hx⟩ | ⟨c,Hs,rfl,hi,hl,hx⟩ | ⟨⟨v,rfl⟩,H0,hpre,c,hi,hl,hx⟩ | ⟨c,rfl,hi,hx⟩)
   ·exact ⟨none,_,by have:=run_endLoop (P:=P) hl (by rw[H4];simp);rw[H4] at this;exact this,Hf _ Hs (zbG _ _ _ _ hi hl rfl) (He _ _ hx)⟩
   ·exact Hq c _ Hs hi hx
   ·exact ⟨some c,_,by have:=run_endLoop (P:=P) hl (by rw[H4];simp);rw[H4] at this;exact this,Hu c H0 _ hpre (Hm _ _ _ _ _ hi hl rfl) (He _ _ hx)⟩
   ·exact Hr c _ hi hx
theorem zrZ {P:Program} {α:Type} {f0:FuncId} (hf0:∃ g,P.funcs[f0]?=C g) {n:Nat} {g:Operand} {ps:Array Tmp} {assign body:Code} {Q:Exit→Act→World→Prop} {a:Act} {w:World}
  {gf:Nat} {lb:Array Value} (hg:a.eval g=.func (.func gf) #[] lb) (eg:∀ args w,(callFunc gf args).run P w=.ok (.enter gf args) w)
  {Rp:α→Array Value→World→Prop} {K M:Nat→Obj→Prop} {xs:List α} {pn:Option (List PanicEntry)}
  (hseq:∀ W1,Below w.heap.size w W1→W1.heap.size=w.heap.size+2→zoR P gf lb Rp K M xs pn W1)
  (hMc:∀ k o,M k o→o.isCells=true) (HL:∀ k o,K k o→∀ r,o≠.loop r) (hps:∀ x av W,Rp x av W→av.size=ps.size)
  (I:List α→World→Prop) (Ix:Code→List α→World→Prop) (Ip:List PanicEntry→World→Prop)
  (hI:∀ s A B,I s A→Moves (zac M w.heap.size) A B→I s B) (hIx:∀ c s A B,Ix c s A→Moves (zac M w.heap.size) A B→Ix c s B) (hIp:∀ c A B,Ip c A→Moves (zac M w.heap.size) A B→Ip c B) (h0:I [] w)
  (Ax:α→Act→World→Prop) (hAx:∀ x a' A B,Ax x a' A→Moves (zac (fun _ _=>False) w.heap.size) A B→Ax x a' B)
  (H6:∀ (l:Nat) (H0:List α) (x:α) (H3:List α) (W:World) (av:Array Value) (K':Act→World→Prop),xs=H0++x::H3→I H0 W→w.heap.size≤W.heap.size→Rp x av W →
    (∀ a' W',Kept (zac K w.heap.size) W W'→I H0 W'→Ax x a' W'→K' a' W') →
    assign.wpIn (Wd (some l)) n P (Exit.then K' (fun _ _ _=>False)) { tmps:=(ps.zip av).foldl (fun t (p,v)=>t.setIfInBounds p v) a.tmps,defers:=[] } W)
  (H8:∀ (l:Nat) (H0:List α) (x:α) (H3:List α) (a':Act) (W:World),xs=H0++x::H3→w.heap.size≤l→(∃ r,W.heap[l]?=C (.loop r))→I H0 W→w.heap.size≤W.heap.size→Ax x a' W →
    body.wpIn (Wd (some l)) n P (zoy (zac K w.heap.size) I Ix Ip (H0++[x]) W) a' W)
  (Hf:∀ D W,pn=none→w.heap.size≤D→I xs W→W.heap[D]?=C (.deferred (some []))→Q .normal { a with defers:={ target:=.collected D,args:=#[] }::a.defers } W)
  (Hq:∀ D c W,pn=C c→w.heap.size≤D→I xs W→W.heap[D]?=C (.deferred (some []))→Q (.panic c) { a with defers:={ target:=.collected D,args:=#[] }::a.defers } W)
  (Hr:∀ D c W,w.heap.size≤D→Ip c W→W.heap[D]?=C (.deferred (some []))→Q (.panic c) { a with defers:={ target:=.collected D,args:=#[] }::a.defers } W)
  (Hu:∀ D c H0 W,w.heap.size≤D→H0 <+: xs→Ix c H0 W→W.heap[D]?=C (.deferred (some []))→c.wpIn (Wd none) n P Q { a with defers:={ target:=.collected D,args:=#[] }::a.defers } W) :
  zhq f0 P (Code.rangeFunc g ps assign body) Q a w:=by
 refine zkr (n:=n) ?_
 obtain ⟨fn,hfn⟩:∃ fn,fn=f0:=⟨_,rfl⟩
 rw[←hfn] at hf0 ⊢
 obtain ⟨W1,Hl⟩:∃ W1,(w.alloc (.deferred (some []))).alloc (.loop { state:=.ready,pending:=none,fn,tmps:=a.tmps,params:=ps,assign,body,defers:=w.heap.size })=W1:=⟨_,rfl⟩
 have HW:Below w.heap.size w W1:=by rw[←Hl];exact ((Below.refl _ w).alloc (xN _) _).alloc (by simp) _
 have K4:W1.heap.size=w.heap.size+2:=by rw[←Hl];simp
 have HJ:W1.heap[w.heap.size+1]?=C (.loop { state:=.ready,pending:=none,fn,tmps:=a.tmps,params:=ps,assign,body,defers:=w.heap.size }):=by
  rw[←Hl];have:=P5 (w.alloc (.deferred (some []))) (.loop { state:=.ready,pending:=none,fn,tmps:=a.tmps,params:=ps,assign,body,defers:=w.heap.size });rwa [xS] at this
 have HT:W1.heap[w.heap.size]?=C (.deferred (some [])):=by
  rw[←Hl];exact (Below.heap_alloc _ _ _ (by simp)).trans (P5 w _)
 have K1:Moves (zac M w.heap.size) w W1:=by rw[←Hl];exact (Moves.refl.alloc _).alloc _
 refine znQ (hfn:=hf0) (fn:=fn) (mark:=[{ target:=.collected w.heap.size,args:=#[] }]) (l:=w.heap.size+1) (W1:=W1) (dfs:=w.heap.size) hg eg hMc HL hps I Ix Ip hI hIx hIp Ax hAx H6 H8 (by omega) (hseq W1 HW K4) (by omega) ?_ HJ (hI _ _ _ h0 K1)
  (fun W=>W.heap[w.heap.size]?=C (.deferred (some []))) ?_ HT (fun W Hs hi hx=>Hf _ W Hs (xN _) hi hx) (fun c W Hs hi hx=>Hq _ c W Hs (xN _) hi hx) (fun c W hi hx=>Hr _ c W (xN _) hi hx) (fun c H0 W hp hi hx=>Hu _ c H0 W (xN _) hp hi hx)
 ·rw[←Hl];exact run_enterLoop_outer _ _ _ _ _
 ·intro A B hx hk
  exact hk _ _ hx (xN _) (by omega) (by omega) rfl
theorem zlt {P:Program} {n:Nat} {ro:Option Nat} {o:Oper} {a:Act} {next:Act→World→Prop} {Q:Exit→Act→World→Prop} {l:Nat} {av:Array Value} {W:World} {R:Ending→World→Prop}
  (hy:YieldsAt P l av W R) (h:∀ e W',R e W'→(∃ b,e=.returned (E b)∧next (a.put o.dst (E b)) W')∨(∃ c,e=.panicked c∧Q (.panic c) a W')) :
  o.uponIn (Wd ro) n P a next Q ((Instr.yield l av).run P W):=by
 obtain ⟨fn,tmps,assign,body,Hj,hR⟩:=hy;rw[Hj]
 refine ⟨fun h=>by simp[Fence.wide] at h,(zjU (n:=n-1) hR).mono ?_⟩
 intro e W' hr
 rcases h e W' hr with ⟨b,rfl,hn⟩ | ⟨c,rfl,hn⟩
 ·exact hn
 ·exact hn
open Go.RowKit
def KG (G:Nat→Prop) (k:Nat) (o:Obj):Prop:=o.isCells=true∧¬ G k
def zut (P:Program) (gf:Nat) (lb:Array Value) {α:Type} (Rp:α→Array Value→World→Prop) (M:Nat→Obj→Prop) (xs:List α) (pn:Option (List PanicEntry)) (Gok:(Nat→Prop)→Prop) (W0:World):Prop :=
 ∀ (l:Nat) (J:(Nat→Prop)→List α→World→Prop),
  (∀ G s A B,J G s A→Moves (zac M W0.heap.size) A B→J G s B)→(∀ G s A,J G s A→∀ k,G k→k<A.heap.size) →
  (∀ G H0 x H3,xs=H0++x::H3→∀ (W:World) (av:Array Value),J G H0 W→W0.heap.size≤W.heap.size→Rp x av W→YieldsAt P l av W fun e W' =>
    e=.returned (E true)∧Kept (zac (KG G) W0.heap.size) W W'∧∃ G',(∀ k,G' k→G k∨W.heap.size≤k)∧J G' (H0++[x]) W') →
  ∀ G0,Gok G0→J G0 [] W0 →
  Calls P gf (#[.func (.yield l) #[] #[]]++lb) W0 fun e W'=>∃ G,J G xs W'∧((pn=none∧∃ v,e=.returned v)∨∃ c,pn=C c∧e=.panicked c)
def zt4 (K:Nat→Obj→Prop) (I:World→Prop) (W:World):Exit→Act→World→Prop
 | .normal,_,W'=>Kept K W W'∧I W'
 | _,_,_=>False
theorem zrY {P:Program} {α:Type} {n:Nat} {g:Operand} {ps:Array Tmp} {assign body:Code} {Q:Exit→Act→World→Prop} {a:Act} {w:World}
  {gf:Nat} {lb:Array Value} (hg:a.eval g=.func (.func gf) #[] lb) (eg:∀ args w,(callFunc gf args).run P w=.ok (.enter gf args) w)
  {Rp:α→Array Value→World→Prop} {M:Nat→Obj→Prop} {xs:List α} {pn:Option (List PanicEntry)} {Gok:(Nat→Prop)→Prop}
  (hseq:∀ W1,Below w.heap.size w W1→W1.heap.size=w.heap.size+2→zut P gf lb Rp M xs pn Gok W1)
  (hMc:∀ k o,M k o→o.isCells=true) (hps:∀ x av W,Rp x av W→av.size=ps.size)
  (I:(Nat→Prop)→List α→World→Prop)
  (hI:∀ G s A B,I G s A→Moves (zac M w.heap.size) A B→I G s B) (Kc:∀ G s A,I G s A→∀ k,G k→k<A.heap.size) (G0:Nat→Prop) (K9:Gok G0) (h0:I G0 [] w)
  (Ax:α→Act→World→Prop) (hAx:∀ x a' A B,Ax x a' A→Moves (zac (fun _ _=>False) w.heap.size) A B→Ax x a' B)
  (H6:∀ (G:Nat→Prop) (l:Nat) (H0:List α) (x:α) (H3:List α) (W:World) (av:Array Value) (K':Act→World→Prop),xs=H0++x::H3→I G H0 W→w.heap.size≤W.heap.size→Rp x av W →
    (∀ a' W',Kept (zac (KG G) w.heap.size) W W'→I G H0 W'→Ax x a' W'→K' a' W') →
    assign.wpIn (Wd (some l)) n P (Exit.then K' (fun _ _ _=>False)) { tmps:=(ps.zip av).foldl (fun t (p,v)=>t.setIfInBounds p v) a.tmps,defers:=[] } W)
  (H8:∀ (G:Nat→Prop) (l:Nat) (H0:List α) (x:α) (H3:List α) (a':Act) (W:World),xs=H0++x::H3→w.heap.size≤l→(∃ r,W.heap[l]?=C (.loop r))→I G H0 W→w.heap.size≤W.heap.size→Ax x a' W →
    body.wpIn (Wd (some l)) n P (zt4 (zac (KG G) w.heap.size) (fun W'=>∃ G',(∀ k,G' k→G k∨W.heap.size≤k)∧I G' (H0++[x]) W') W) a' W)
  (Hf:∀ G D W,pn=none→w.heap.size≤D→I G xs W→W.heap[D]?=C (.deferred (some []))→Q .normal { a with defers:={ target:=.collected D,args:=#[] }::a.defers } W)
  (Hq:∀ G D c W,pn=C c→w.heap.size≤D→I G xs W→W.heap[D]?=C (.deferred (some []))→Q (.panic c) { a with defers:={ target:=.collected D,args:=#[] }::a.defers } W) :
  (Code.rangeFunc g ps assign body).wpIn (Wd none) n P Q a w:=by
 refine wpIn_rangeFunc ?_
 intro fn _
 obtain ⟨H7,H4⟩:∃ H7:LoopState→Option Code→Loop,H7=fun st pe=>{ state:=st,pending:=pe,fn,tmps:=a.tmps,params:=ps,assign,body,defers:=w.heap.size }:=⟨_,rfl⟩
 obtain ⟨W1,Hl⟩:∃ W1,(w.alloc (.deferred (some []))).alloc (.loop { state:=.ready,pending:=none,fn,tmps:=a.tmps,params:=ps,assign,body,defers:=w.heap.size })=W1:=⟨_,rfl⟩
 have HW:Below w.heap.size w W1:=by rw[←Hl];exact ((Below.refl _ w).alloc (xN _) _).alloc (by simp) _
 have K4:W1.heap.size=w.heap.size+2:=by rw[←Hl];simp
 have HJ:W1.heap[w.heap.size+1]?=C (.loop { state:=.ready,pending:=none,fn,tmps:=a.tmps,params:=ps,assign,body,defers:=w.heap.size }):=by
  rw[←Hl];have:=P5 (w.alloc (.deferred (some []))) (.loop { state:=.ready,pending:=none,fn,tmps:=a.tmps,params:=ps,assign,body,defers:=w.heap.size });rwa [xS] at this
 have HT:W1.heap[w.heap.size]?=C (.deferred (some [])):=by
  rw[←Hl];exact (Below.heap_alloc _ _ _ (by simp)).trans (P5 w _)
 have K1:Moves (zac M w.heap.size) w W1:=by rw[←Hl];exact (Moves.refl.alloc _).alloc _
 have H2:(P6 fn a.tmps ps assign body none).run P w=.ok (w.heap.size+1,[{ target:=.collected w.heap.size,args:=#[] }]) W1:=by
  rw[←Hl];exact run_enterLoop_outer _ _ _ _ _
 have Hn:W1.heap[w.heap.size+1]?=C (.loop (H7 .ready none)):=by rw[H4];exact HJ
 obtain ⟨l,hl⟩:∃ l,w.heap.size+1=l:=⟨_,rfl⟩;rw[hl] at HJ Hn H2
 have Hw:w.heap.size≤l:=by omega
 obtain ⟨X,HR⟩:∃ X:World→Prop,X=fun W=>W.heap[w.heap.size]?=C (.deferred (some [])):=⟨_,rfl⟩
 have hX:∀ A B,X A→(∀ k o,A.heap[k]?=C o→w.heap.size≤k→k<W1.heap.size→k≠l→o.isCells=false→B.heap[k]?=C o)→X B:=by
  subst HR;intro A B hx hk
  exact hk _ _ hx (xN _) (by omega) (by omega) rfl
 have HU:X W1:=by rw[HR];exact HT
 have K5:∀ W,X W→W.heap[w.heap.size]?=C (.deferred (some [])):=by rw[HR];exact fun _ h=>h
 clear HR
 have HL:∀ (G:Nat→Prop) k o,KG G k o→∀ r,o≠.loop r:=fun G k o h r e=>by rw[e] at h;cases h.1
 -- the record's own turns
 have put:∀ (A:World) (o o':Obj),A.heap[l]?=C o→o.isCells=false→Moves (zac (fun _ _=>False) w.heap.size) A (A.putObj l o'):=fun A o o' ho hc =>
  Moves.refl.putObj (fun o₁ h₁=>by rw[ho] at h₁;cases h₁;exact .inr ⟨Hw,hc⟩) o'
 have zbG:∀ G s A o o',I G s A→A.heap[l]?=C o→o.isCells=false→I G s (A.putObj l o'):=fun G s A o o' hi ho hc =>
  hI G s _ _ hi ((put A o o' ho hc).weaken (fun k o h=>by rcases h with h | h;exact h.elim;exact .inr h))
 have Hy:l<W1.heap.size:=(P1.1 Hn).1
 have He:∀ A o',X A→X (A.putObj l o'):=fun A o' hx=>hX A _ hx (fun k o hk _ _ K2 _=>(P3 K2).trans hk)
 have H9:∀ {K':Nat→Obj→Prop} (A B:World),X A→Kept (zac K' w.heap.size) A B→X B:=fun A B hx hk =>
  hX A B hx (fun k o ho hn _ _ hc=>hk.same k o ho (.inr ⟨hn,hc⟩))
 have Ha:∀ (A B:World) (k:Nat) (o:Obj),A.heap[k]?=C o→k<W1.heap.size→o.isCells=false→Moves (zac M W1.heap.size) A B→B.heap[k]?=C o:=fun A B k o ho hk hc hm =>
  hm.same k o ho (fun h=>by
   rcases h with h | h
   ·have:=hMc k o h;rw[hc] at this;cases this
   ·omega)
 have Hh:∀ (A B:World),X A→Moves (zac M W1.heap.size) A B→X B:=fun A B hx hm =>
  hX A B hx (fun k o ho _ K0 _ hc=>Ha A B k o ho K0 hc hm)
 have Hg:∀ (A B:World),Moves (zac M W1.heap.size) A B→Moves (zac M w.heap.size) A B:=fun A B hm =>
  hm.weaken (fun k o h=>by rcases h with h | h;exact .inl h;exact .inr ⟨by omega,h.2⟩)
 refine ⟨l,[{ target:=.collected w.heap.size,args:=#[] }],W1,{ target:=.fn (.func gf) lb,args:=#[.func (.yield l) #[] #[]] },W1,gf,#[.func (.yield l) #[] #[]]++lb,W1,H2,?_,fun _ _=>trivial,?_,fun h=>by simp[Fence.wide] at h,?_⟩
 ·simp only[resolve,hg]
  simp[go_sem]
 ·simp[invoke,go_sem,eg]
 ·refine callsIn_wd.2 ?_
  refine (hseq W1 HW K4 l
   (fun G H0 W=>I G H0 W∧W.heap[l]?=C (.loop (H7 .ready none))∧X W)
   (fun G s A B hs hm=>⟨hI G s A B hs.1 (Hg A B hm),Ha A B l _ hs.2.1 Hy rfl hm,Hh A B hs.2.2 hm⟩)
   (fun G s A hs k hk=>Kc G s A hs.1 k hk)
   ?_ G0 K9 ⟨hI _ _ _ _ h0 K1,Hn,HU⟩).mono ?_
  · -- ONE ROUND
   rintro G H0 x H3 HP W av ⟨hi,HZ,hx⟩ Kg HO;have hy:=run_yield (P:=P) (args:=av) HZ (by rw[H4];exact hps x av W HO);rw[H4] at hy
   refine ⟨fn,_,assign,body,hy,?_⟩
   clear hy
   have rd:=roundIn_of_wpIn (F:=Wd (some l)) (n:=n) (P:=P) (l:=l) (f:=fn) (w:=W) (assign:=assign) (body:=body) (tmps:=(ps.zip av).foldl (fun t (p,v)=>t.setIfInBounds p v) a.tmps)
    (R:=fun e W'=>e=.returned (E true)∧Kept (zac (KG G) W1.heap.size) W W'∧∃ G',(∀ k,G' k→G k∨W.heap.size≤k)∧I G' (H0++[x]) W'∧W'.heap[l]?=C (.loop (H7 .ready none))∧X W')
    trivial (H6 G l H0 x H3 W av _ HP hi (by omega) HO ?_)
   ·exact ⟨trivial,fun c cs _=>rd.2 c cs (room_wide _)⟩
   ·intro a' Wa Hp HX HV
    have Hx:=Hp.same l _ HZ (.inr ⟨Hw,rfl⟩);have HS:=H9 W Wa hx Hp
    have HH:l<Wa.heap.size:=(P1.1 Hx).1
    refine ⟨_,run_beginRound Hx (by rw[H4]),?_⟩
    have HA:(Wa.putObj l (.loop { H7 .ready none with state:=.busy })).heap[l]?=C (.loop { H7 .ready none with state:=.busy }):=P4 HH
    refine wpIn_mono (H8 G l H0 x H3 a' _ HP Hw ⟨_,HA⟩ (zbG _ _ _ _ _ HX Hx rfl) (by simp;have:=Hp.size;omega) (hAx x a' _ _ HV (put _ _ _ Hx rfl))) ?_
    rintro e a3 W3 hp
    cases e with
    | normal =>
     obtain ⟨Hc,G',K8,Hv⟩:=hp;have Hi:=Hc.same l _ HA (.inr ⟨Hw,rfl⟩);have Hj:=run_endRound (P:=P) none Hi;rw[H4] at Hj
     refine ⟨_,_,Hj,rfl,⟨?_,?_⟩,G',fun k hk=>?_,?_,?_,?_⟩
     ·have h1:=Hp.size;have h2:=Hc.size;simp at h2 ⊢;omega
     ·intro k o hk hK
      have HM:zac (KG G) w.heap.size k o:=by
       rcases hK with h | h
       ·exact .inl h
       ·exact .inr ⟨by omega,h.2⟩
      by_cases e:k=l
      ·subst e
       rw[HZ] at hk;cases hk
       rcases hK with h | h
       ·exact absurd rfl (HL _ _ _ h _)
       ·omega
      ·have h1:=Hp.same k o hk HM
       have h2:=Hc.same k o ((P3 e).trans h1) HM
       exact (P3 e).trans h2
     ·rcases K8 k hk with h | h
      ·exact .inl h
      ·right
       have:=Hp.size
       simp at h
       omega
     ·have:=zbG _ _ _ _ (.loop (H7 .ready none)) Hv Hi rfl
      rw[H4] at this
      exact this
     ·have:=P4 (o:=.loop (H7 .ready none)) (P1.1 Hi).1
      rw[H4] at this ⊢
      exact this
     ·exact He _ _ (H9 _ _ (He _ _ HS) Hc)
    | ret=>exact hp.elim
    | exit id=>exact hp.elim
    | goto t=>exact hp.elim
    | panic ch=>exact hp.elim
    | outgrown=>exact hp.elim
  · -- BEHIND THE ITERATOR
   rintro e W2 ⟨G,⟨hi,HA,hx⟩,(⟨Hs,v,rfl⟩ | ⟨c,Hs,rfl⟩)⟩
   ·exact ⟨none,_,by have:=run_endLoop (P:=P) HA (by rw[H4];simp);rw[H4] at this;exact this,Hf G _ _ Hs (xN _) (zbG _ _ _ _ _ hi HA rfl) (K5 _ (He _ _ hx))⟩
   ·exact Hq G _ c _ Hs (xN _) hi (K5 _ hx)
end Go.Mv
