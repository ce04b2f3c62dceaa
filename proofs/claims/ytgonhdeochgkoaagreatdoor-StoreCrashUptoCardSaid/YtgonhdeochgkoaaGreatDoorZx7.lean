/- Merged -/
import Derived.Test.YtgonhdeochgkoaaGreatDoorZx1
import Derived.OrdersIn
import Derived.TacticsIn
import Derived.RangeFuncCalls
import Derived.Laws.Rows
import Derived.OrdersHeld
set_option linter.all false
set_option maxHeartbeats 8000000
set_option maxRecDepth 100000
open Go.Region renaming wanted→P0,ready→P1,binds→P2,Mode→P3,noSelect→P4,free→P5
open Go.Oper renaming semAt_none→P6,uponIn→P7,wpIn→P8
open Array renaming getElem?_eq_some_iff→P9,replicate→Pa,getElem?_eq_none→Pb,range→Pc
open Go.World renaming putObj_heap_other→Pd,alloc_heap_new→Pe,block_lt_of_cell?→Pf,putObj_heap_same→Pg,cell?→Ph
open Go.Sem renaming run_bind→Pi,run_pure→Pj
open Go.Fence renaming wide→Pk
open List renaming all_eq_true→Pl,length_take→Pm,range→Pn
open Bool renaming and_eq_true→Po
open Go.Code renaming region→Pp
open Go.Instr renaming fill→Pq,buildSlice→Pr,loadAt→Ps
namespace Go.Mv
open Go.RowKit
theorem mcRounda0 {P:Prop} (h:P:=by
 have hi:=zfO H9
 refine wpAnyIn_all hr (by simp) (fun j hj=>?_)
 have e:j=i:=by simpa using hj
 subst e;unfold wpOpIn
 have HI:∀ f,o.about P w a.eval=some f→F.fn f:=fun f hf=>by rw[H7] at hf;cases hf
 have hw:P0 o (yielded ops a.tmps)=true:=by simp[P0,hg]
 simp only[hi,hw,if_true,P8,H2,P6,H1,P7]
 exact ⟨HI,h⟩):P:=h
section
variable {F:Fence} {n:Nat} {P:Program} {ops:Array Oper} {Q:Exit→Act→World→Prop} {md:P3}
def zgD (ops:Array Oper):Bool:=ops.all fun o=>match o.op with | .defer _=>false | _=>true
theorem zmG (h:zgD ops=true) {j:Nat} {o:Oper} (ho:ops[j]?=some o) (c:Call):o.op≠.defer c:=by
 intro HK
 have:=Array.all_eq_true_iff_forall_mem.1 h o (Array.mem_of_getElem? ho)
 simp[HK] at this
theorem znp (l:Nat) (hd:zgD ops=true) (H2:F.round=none) {i:Nat} {K:Act→World→Prop} {a:Act} {w:World} (h:wpOpIn F n P ops Q i K a w):wpOpIn (F.inRound l) n P ops Q i K a w:=by
 unfold wpOpIn at *
 cases ho:ops[i]? with
 | none=>simpa [ho] using h
 | some o =>
  simp only[ho] at h ⊢
  split
  ·rename_i hw
   simp only[hw,if_true] at h
   unfold P8 at *
   refine ⟨h.1,?_⟩
   have h:=h.2;rw[H2,P6] at h;rw[Fence.inRound_round,Oper.semAt_some l _ o (zmG hd ho)]
   exact h
  ·rename_i hw
   simp only[hw] at h
   exact h
theorem zhI (l:Nat) (hd:zgD ops=true) (H2:F.round=none):∀ (fuel:Nat) (H0:Array Bool) (a:Act) (w:World),wpAnyIn F n P md ops Q fuel H0 a w→wpAnyIn (F.inRound l) n P md ops Q fuel H0 a w:=by
 intro fuel
 induction fuel with
 | zero=>intro H0 a w h;exact h
 | succ fuel ih =>
  intro H0 a w h
  exact ⟨h.1,fun i hi=>znp l hd H2 (wpOpIn_mono (fun a w=>ih _ a w) (h.2 i hi))⟩
def NoP (Q:Exit→Act→World→Prop):Exit→Act→World→Prop
 | .panic _,_,_=>False
 | e,a,w=>Q e a w
theorem NoP.imp {Q:Exit→Act→World→Prop} (e:Exit) (a:Act) (w:World) (h:NoP Q e a w):Q e a w:=by
 cases e <;> first | exact h | exact h.elim
theorem zcs {l id:Nat} {a:Act} {w:World} (hm:P.follows .mixedOrders=true) (hd:zgD ops=true)
  (h:wpAnyIn (Wd none) n P .any ops (NoP Q) ops.size (Pa ops.size false) a w.drew):(Pp id ops true).wpIn (Wd (some l)) n P Q a w :=
 wpIn_mono (wpIn_region_any (F:=(Wd none).inRound l) hm (zhI l hd rfl _ _ _ _ h)) NoP.imp
theorem zcJ {id:Nat} {a:Act} {w:World} (hm:P.follows .mixedOrders=true)
  (h:wpAnyIn (Wd none) n P .any ops (NoP Q) ops.size (Pa ops.size false) a w.drew):(Pp id ops true).wpIn (Wd none) n P Q a w :=
 wpIn_mono (wpIn_region_any hm h) NoP.imp
theorem zbr {Q:Exit→Act→World→Prop} {a:Act} {w:World} (h:Q .normal a w):NoP Q .normal a w:=h
theorem zcF {fn:Func} {tmps:Array Value} {R:Ending→World→Prop} {W:World} (v:Value) (HU:(results fn tmps).run P W=.ok v W) (hR:R (.returned v) W):bodyPostM (Wd none) n P fn R .ret ⟨tmps,[]⟩ W:=⟨v,HU,hR⟩
theorem zdO {c:Code} {tm:Array Value} {ds:List Deferred} {W:World} (h:∀ T:Array Value,T=tm→c.wpIn F n P Q ⟨T,ds⟩ W):c.wpIn F n P Q ⟨tm,ds⟩ W:=h tm rfl
def Read4 (p q r s:Addr×Value) (W:World):Prop:=W.cell? p.1=some p.2∧W.cell? q.1=some q.2∧W.cell? r.1=some r.2∧W.cell? s.1=some s.2
theorem zdd {W:World} {p:Addr} {v:Value} (h:W.cell? p=some v) (o:Obj):(W.alloc o).cell? p=some v :=
 (Below.cell ((Below.refl W.heap.size W).alloc (xN _) o) (Pf W p h)).trans h
theorem Read4.alloc {p q r s:Addr×Value} {W:World} (h:Read4 p q r s W) (o:Obj):Read4 p q r s (W.alloc o):=⟨zdd h.1 o,zdd h.2.1 o,zdd h.2.2.1 o,zdd h.2.2.2 o⟩
theorem zdp {o:Oper} {a:Act} {w w':World} (s x:Operand) (t:TypeId) (ho:o.op=.call { callee:=.builtin .append,args:=#[s,x],argTypes:=#[t,t] })
  {v vx v':Value} (hs:a.eval s=v) (hx:a.eval x=vx) (H1:(Builtin.append_ #[t,t] o.type #[v,vx]).run P w=.ok v' w'):(execOp a.eval o).run P w=.ok (.value v') w':=by
 unfold execOp;simp only[ho,resolve,invoke,builtin,Pi,Pj,Result.andThen_ok,List.map_toArray,List.map_cons,List.map_nil,hs,hx,H1]
theorem zc5 {o:Oper} {a:Act} {w:World} (s x:Operand) (t:TypeId) (ho:o.op=.call { callee:=.builtin .append,args:=#[s,x],argTypes:=#[t,t] }):o.about P w a.eval=none:=by
 simp[Oper.about,ho,resolve,Target.leads,go_sem]
theorem zdf (n:Nat) (T:Array Value) (h:T.size=n):T=((Pn n).map fun i=>T.getD i undef).toArray:=by
 apply Array.ext
 ·simp[h]
 ·intro i h1 h2
  simp[h1]
theorem zpa {W:World} {b:Nat} {t:TypeId} {v:Value} (h:Boxed W b t v) {k:Nat} {u:Value} (hc:W.cell? ⟨b,k,none⟩=some u):k=0:=by
 have h':W.heap[b]?=some (.cells #[v] t (0,0)):=h
 cases k with
 | zero=>rfl
 | succ k=>simp[Ph,h'] at hc
theorem zfO {i:Nat} {oi:Oper} (h:ops.toList[i]?=some oi):ops[i]?=some oi:=by simpa using h
def YieldsC (P:Program) (ops:Array Oper) (C:World→Prop) (o:Oper) (v:Value) (a:Act):Prop :=
 P0 o (yielded ops a.tmps)=true∧(∀ w,C w→(execOp a.eval o).run P w=.ok (.value v) w)∧∀ w,o.about P w a.eval=none
def zjY (P:Program) (C:World→Prop) (o:Oper):Prop:=∀ (ρ:Operand→Value) (w:World),C w→∀ r w',(execOp ρ o).run P w=.ok r w'→(∃ v,r=.value v)∧C w'
theorem YieldsC.wpOpIn {C:World→Prop} {i:Nat} {o:Oper} {v:Value} {a:Act} (H2:F.round=none) (hi:ops[i]?=some o) (hy:YieldsC P ops C o v a)
  {K:Act→World→Prop} {w:World} (hC:C w) (h:K (a.put o.dst v) w):wpOpIn F n P ops Q i K a w:=by
 unfold Go.wpOpIn;obtain ⟨h1,h2,h3⟩:=hy
 have H7:∀ f,o.about P w a.eval=some f→F.fn f:=fun f hf=>by rw[h3 w] at hf;cases hf
 simp only[hi,h1,if_true,P8,H2,P6,h2 w hC,P7]
 exact ⟨H7,h⟩
theorem YieldsC.of_same {C:World→Prop} {o:Oper} {v:Value} {a a':Act} (hy:YieldsC P ops C o v a) (he:execOp a'.eval o=execOp a.eval o)
  (hw:P0 o (yielded ops a'.tmps)=P0 o (yielded ops a.tmps)) (hb:∀ w,o.about P w a'.eval=o.about P w a.eval):YieldsC P ops C o v a' :=
 ⟨hw.trans hy.1,fun w h=>by rw[he];exact hy.2.1 w h,fun w=>by rw[hb w];exact hy.2.2 w⟩
theorem zor {C:World→Prop} {j:Nat} {oi oj:Oper} {v:Value} (H2:F.round=none) (hj:ops[j]?=some oj) (HJ:oi.apart ops oj=true)
  (Kl:∀ cs b,oi.op≠.select cs b) (Km:∀ cs b,oj.op≠.select cs b) (Hs:zjY P C oj)
  (hQ:∀ c a w,Q (.panic c) (a.put oi.dst v) w→Q (.panic c) a w) {K:Act→World→Prop} {a:Act} {w:World} (hC:C w)
  (hy:YieldsC P ops C oi v a) (h:wpOpIn F n P ops Q j K (a.put oi.dst v) w) :
  wpOpIn F n P ops Q j (fun a' w'=>(YieldsC P ops C oi v a'∧C w')∧K (a'.put oi.dst v) w') a w:=by
 obtain ⟨h1,h2,h3⟩:=Oper.apart_spec HJ
 have keep:∀ (a:Act),YieldsC P ops C oi v a→∀ u,YieldsC P ops C oi v (a.put oj.dst u):=fun a hy u =>
  hy.of_same (execOp_put oi Kl a oj.dst u h3) (wanted_put oi a oj.dst u h3) (fun w=>about_put oi w a oj.dst u h3)
 unfold wpOpIn at *
 simp only[hj] at *
 rw[wanted_put oj a oi.dst v h1,about_put oj w a oi.dst v h1] at h
 split
 ·rename_i hw
  simp only[hw,if_true] at h
  unfold P8 at *
  rw[about_put oj w a oi.dst v h1] at h
  refine ⟨h.1,?_⟩
  have h:=h.2;rw[H2,P6,execOp_put oj Km a oi.dst v h1] at h;rw[H2,P6];have hk:=Hs a.eval w hC
  generalize (execOp a.eval oj).run P w=r at *
  cases r with
  | ok x w' =>
   obtain ⟨⟨u,rfl⟩,K5⟩:=hk _ _ rfl
   simp only[P7] at h ⊢
   exact ⟨⟨keep a hy u,K5⟩,by rw[←Act.put_comm a v u h2];exact h⟩
  | halt x w' =>
   cases x <;> simp only[P7] at h ⊢
   case panic u=>exact hQ _ _ _ h
 ·rename_i hw
  simp only[hw] at h
  exact ⟨h.1,⟨keep a hy _,hC⟩,by rw[←Act.put_comm a v undef h2];exact h.2⟩
def zl1 (md:P3) (ops:Array Oper) (i:Nat) (tl:List Nat):Bool :=
 tl.all fun j=>match ops[j]? with
  | some oj=>oj.after.any fun e=>P2 md e&&(e.on==i||tl.contains e.on)
  | none=>false
theorem zrY {i:Nat} {tl:List Nat} {H0:Array Bool} (ht:zl1 md ops i tl=true) (hi:H0.getD i true=false) (hl:∀ k∈tl,H0.getD k true=false) {j:Nat} (hj:j∈P1 md ops H0):j ∉ tl:=by
 intro HB;obtain ⟨Hk,oj,Hv,Hi⟩:=mem_ready.1 hj;simp only[zl1,Pl] at ht;have h1:=ht j HB;simp only[Hv] at h1;obtain ⟨e,he,hb⟩:=Array.any_eq_true'.1 h1;simp only[Po,Bool.or_eq_true,beq_iff_eq,List.contains_iff_mem] at hb;have h2:=Hi e he hb.1
 have Hp:∀ k,H0.getD k true=false→H0.getD k false=true→False:=by
  intro k a b
  rcases Nat.lt_or_ge k H0.size with h' | h'
  ·simp[h'] at a b;rw[a] at b;cases b
  ·simp[Pb h'] at b
 rcases hb.2 with h | h
 ·rw[h] at h2;exact Hp _ hi h2
 ·exact Hp _ (hl _ h) h2
theorem zkW {C:World→Prop} {i:Nat} {oi:Oper} {v:Value} (tl:List Nat) (ht:zl1 md ops i tl=true) (H2:F.round=none) (hi:ops[i]?=some oi) (Hw:∀ (j:Nat) (o:Oper) cs b,ops[j]?=some o→o.op≠.select cs b)
  (hQ:∀ c a w,Q (.panic c) (a.put oi.dst v) w→Q (.panic c) a w) :
  ∀ (fuel:Nat) (H0:Array Bool) (a:Act) (w:World),(∀ k∈tl,H0.getD k true=false) →
   (∀ j oj,ops[j]?=some oj→j≠i→j ∉ tl→H0.getD j true=false→(∀ e∈oj.after,P2 md e=true→e.on≠i)→oi.apart ops oj=true∧zjY P C oj) →
   i∈P1 md ops H0→C w→YieldsC P ops C oi v a →
   wpAnyIn F n P md ops Q fuel (H0.setIfInBounds i true) (a.put oi.dst v) w→wpAnyIn F n P md ops Q (fuel+1) H0 a w:=by
 intro fuel
 induction fuel with
 | zero =>
  intro H0 a w _ _ hr hC hy H
  refine ⟨fun h=>(by rw[h] at hr;cases hr),fun j hj=>?_⟩
  by_cases hji:j=i
  ·subst hji;exact hy.wpOpIn H2 hi hC H
  ·have:=ready_mono hj hji
   rw[H.1] at this
   cases this
 | succ fuel ih =>
  intro H0 a w K3 Hc hr hC hy H
  refine ⟨fun h=>(by rw[h] at hr;cases hr),fun j hj=>?_⟩
  by_cases hji:j=i
  ·subst hji;exact hy.wpOpIn H2 hi hC H
  ·have h1:=H.2 j (ready_mono hj hji)
   have HB:j ∉ tl:=zrY ht (mem_ready.1 hr).1 K3 hj
   obtain ⟨Hk,oj,Hv,Hi⟩:=mem_ready.1 hj
   have HR:∀ e∈oj.after,P2 md e=true→e.on≠i:=fun e he hb HK=>by
    have h1:=Hi e he hb;have h0:=(mem_ready.1 hr).1;rw[HK] at h1
    rcases Nat.lt_or_ge i H0.size with h' | h'
    ·simp[h'] at h0 h1;rw[h0] at h1;cases h1
    ·simp[Pb h'] at h1
   obtain ⟨HJ,Kh⟩:=Hc j oj Hv hji HB Hk HR
   have h2:=zor H2 Hv HJ (fun cs b=>Hw i oi cs b hi) (fun cs b=>Hw j oj cs b Hv) Kh hQ hC hy h1
   have Hj:∀ k ok,ops[k]?=some ok→k≠i→k ∉ tl→(H0.setIfInBounds j true).getD k true=false →
     (∀ e∈ok.after,P2 md e=true→e.on≠i)→oi.apart ops ok=true∧zjY P C ok:=fun k ok hk Kg Ki Hl Hp=>by
    refine Hc k ok hk Kg Ki ?_ Hp
    by_cases hjk:j=k
    ·subst hjk;exact Hk
    ·rw[getD_set_ne true hjk] at Hl;exact Hl
   have HV:∀ k∈tl,(H0.setIfInBounds j true).getD k true=false:=fun k hk=>by
    have H6:j≠k:=fun e=>HB (by rw[e];exact hk)
    rw[getD_set_ne true H6];exact K3 k hk
   refine wpOpIn_mono (fun a' w' h3=>ih (H0.setIfInBounds j true) a' w' HV Hj (ready_mono hr (Ne.symm hji)) h3.1.2 h3.1.1 ?_) h2
   rw[Array.setIfInBounds_comm _ _ hji]
   exact h3.2
def SameW {α:Type} (P:Program) (s:Sem α):Prop:=∀ w r w',s.run P w=.ok r w'→w'=w
def zd3 {α:Type} (P:Program) (s:Sem α):Prop:=∀ w r w',s.run P w=.ok r w'→w'=w∨∃ o,w'=w.alloc o
theorem zcw {α β:Type} {s:Sem α} {f:α→Sem β} (h1:SameW P s) (h2:∀ a,SameW P (f a)):SameW P (s >>= f):=by
 intro w r w' h;rw[Pi] at h
 cases hs:s.run P w with
 | ok a w1 =>
  rw[hs] at h;rw[h1 _ _ _ hs] at h
  exact h2 a _ _ _ h
 | halt x w1=>rw[hs] at h;cases h
theorem zef {α β:Type} {s:Sem α} {f:α→Sem β} (h1:SameW P s) (h2:∀ a,zd3 P (f a)):zd3 P (s >>= f):=by
 intro w r w' h;rw[Pi] at h
 cases hs:s.run P w with
 | ok a w1 =>
  rw[hs] at h;rw[h1 _ _ _ hs] at h
  exact h2 a _ _ _ h
 | halt x w1=>rw[hs] at h;cases h
theorem zpo {α β:Type} {s:Sem α} {f:α→Sem β} (h1:zd3 P s) (h2:∀ a,SameW P (f a)):zd3 P (s >>= f):=by
 intro w r w' h;rw[Pi] at h
 cases hs:s.run P w with
 | ok a w1 =>
  rw[hs] at h
  have:=h2 a _ _ _ h
  subst this
  exact h1 _ _ _ hs
 | halt x w1=>rw[hs] at h;cases h
theorem zck {α:Type} (a:α):SameW P (pure a:Sem α):=by
 intro w r w' h;rw[Pj] at h
 cases h;rfl
theorem SameW.grow {α:Type} {s:Sem α} (h:SameW P s):zd3 P s:=fun w r w' h'=>.inl (h w r w' h')
theorem zlm (a:Addr) (m:Mode):SameW P (load a m):=by
 intro w r w' h;rw[run_load] at h
 split at h
 ·cases h;rfl
 ·split at h <;> cases h <;> rfl
theorem zeu {α:Type} (m:String):SameW P (stuck m:Sem α):=by
 intro w r w' h
 simp[go_sem] at h
theorem zil:SameW P program:=by
 intro w r w' h
 simp[go_sem] at h
 exact h.2.symm
theorem zhH (t:TypeId):SameW P (typeInfo t):=by
 unfold typeInfo
 refine zcw zil (fun p=>?_)
 split
 ·exact zck _
 ·exact zeu _
theorem zga (t:TypeId):SameW P (underlying t):=by
 unfold underlying
 refine zcw zil (fun p=>?_)
 split
 ·exact zck _
 ·exact zeu _
theorem zjc (t:TypeId):SameW P (sizeOf t):=by unfold sizeOf;exact zcw (zhH t) (fun _=>zck _)
theorem zpQ (t:TypeId):SameW P (isAgg t):=by
 unfold isAgg
 refine zcw (zga t) (fun d=>?_)
 split <;> exact zck _
theorem zik (a:Addr) (n:Nat):∀ (i:Nat) (HH:Array Value),SameW P (loadCellsFrom a i n HH):=by
 induction n with
 | zero=>intro i HH;exact zck _
 | succ n ih=>intro i HH;exact zcw (zlm _ _) (fun v=>ih _ _)
theorem zm5 (t:TypeId) (a:Addr):SameW P (loadVar t a):=by
 unfold loadVar
 refine zcw (zpQ t) (fun b=>?_)
 cases b
 ·exact zlm _ _
 ·exact zcw (zjc t) (fun n=>zcw (zik _ _ _ _) (fun _=>zck _))
theorem zoi (t:TypeId) (v:Value):SameW P (Ps t v):=by
 unfold Ps
 refine zcw ?_ (fun a=>zm5 t a)
 unfold Instr.sureAddr
 split
 ·exact zck _
 ·exact zeu _
def zj7 (o:Oper):Bool :=
 match o.op with
 | .move _=>true
 | .load _ _=>true
 | .buildSlice _ _ _=>true
 | _=>false
def zfI (ops:Array Oper) (H0:Array Bool) (i:Nat) (tl:List Nat):Bool :=
 tl.all (fun k=>!H0.getD k true)&&(Pn ops.size).all fun j=>j==i||tl.contains j||H0.getD j true||match ops[j]? with
   | some oj=>zj7 oj
   | none=>true
theorem zlG {i:Nat} {tl:List Nat} {H0:Array Bool} (h:zfI ops H0 i tl=true) (j:Nat) (oj:Oper)
  (hj:ops[j]?=some oj) (H6:j≠i) (HS:j ∉ tl) (Hl:H0.getD j true=false):zj7 oj=true:=by
 simp only[zfI,Po,Pl,List.mem_range] at h;have h1:=h.2 j (P9.1 hj).1
 simpa [hj,H6,HS,Hl] using h1
theorem znB {i:Nat} {tl:List Nat} {H0:Array Bool} (h:zfI ops H0 i tl=true):∀ k∈tl,H0.getD k true=false:=by
 simp only[zfI,Po,Pl] at h;intro k hk
 simpa using h.1 k hk
theorem zq5 (t:TypeId):SameW P (zeroValue t):=by
 unfold zeroValue
 refine zcw (zhH t) (fun i=>?_)
 split
 ·exact zck _
 ·intro w r w' h
  simp[go_sem] at h
theorem znR (t:TypeId) (cs:Array Value):zd3 P (newRow t cs):=by
 intro w r w' h
 simp[newRow,go_sem] at h
 exact .inr ⟨_,h.2.symm⟩
theorem zsS {α:Type} {c:Prop} [Decidable c] {s t:Sem α} (h1:zd3 P s) (h2:zd3 P t):zd3 P (if c then s else t):=by split <;> assumption
theorem zki (t:TypeId) (n:Nat) (ps:Array (Nat×Value)):zd3 P (Pr t n ps):=by
 unfold Pr
 refine zef (zga t) (fun d=>?_)
 split
 ·refine zef (zjc _) (fun size=>?_)
  have hu:∀ {α:Type} (u:Unsupported),SameW P (unsupported u:Sem α):=by
   intro α u w r w' h
   simp[go_sem] at h
  have Hd:∀ (zero:Array Value) (e:TypeId),zd3 P (do
    let some cells:=Pq (fun i=>some (i*size,size)) ((Pc (n*size)).map (zero[· % zero.size]!)) ps.toList | stuck "buildSlice: a part of the wrong size"
    pure (Value.slice (some (←newRow e cells)) n n)):=by
   intro zero e
   split
   ·exact zpo (znR _ _) (fun _=>zck _)
   ·exact (zeu _).grow
  rename_i elem
  have Hu:zd3 P (if n*size=0 then (do
    let zero ←(pure #[]:Sem (Array Value))
    match Pq (fun i=>some (i*size,size)) ((Pc (n*size)).map (zero[· % zero.size]!)) ps.toList with
     | some cells=>do
      let a ←newRow elem cells
      pure (Value.slice (some a) n n)
     | _=>stuck "buildSlice: a part of the wrong size")
   else (do
    let v ←zeroValue elem
    let zero ←(pure v.cells:Sem (Array Value))
    match Pq (fun i=>some (i*size,size)) ((Pc (n*size)).map (zero[· % zero.size]!)) ps.toList with
     | some cells=>do
      let a ←newRow elem cells
      pure (Value.slice (some a) n n)
     | _=>stuck "buildSlice: a part of the wrong size")):=by
   split
   ·exact zef (zck _) (fun z=>Hd z elem)
   ·exact zef (zq5 _) (fun v=>zef (zck _) (fun z=>Hd z elem))
  exact zsS (zef (hu _) (fun _=>Hu)) Hu
 ·exact (zeu _).grow
theorem znl {s:Sem Value} {w w':World} {r:Next} (h:(do pure (Next.value (←s)):Sem Next).run P w=.ok r w'):∃ v,r=.value v∧s.run P w=.ok v w':=by
 rw[Pi] at h
 cases hs:s.run P w with
 | ok a w1=>rw[hs] at h;cases h;exact ⟨a,rfl,rfl⟩
 | halt x w1=>rw[hs] at h;cases h
theorem zpc {C:World→Prop} (hC:∀ w o,C w→C (w.alloc o)) {o:Oper} (h:zj7 o=true):zjY P C o:=by
 intro ρ w hw r w' hr;unfold zj7 at h;unfold execOp at hr
 split at h
 ·rename_i x ho
  simp only[ho,Pj] at hr
  cases hr;exact ⟨⟨_,rfl⟩,hw⟩
 ·rename_i t x ho
  simp only[ho] at hr;obtain ⟨v,rfl,hs⟩:=znl hr;rw[zoi _ _ _ _ _ hs]
  exact ⟨⟨_,rfl⟩,hw⟩
 ·rename_i t n ps ho
  simp only[ho] at hr;obtain ⟨v,rfl,hs⟩:=znl hr
  refine ⟨⟨_,rfl⟩,?_⟩
  rcases zki _ _ _ _ _ _ hs with rfl | ⟨o',rfl⟩
  ·exact hw
  ·exact hC _ _ hw
 ·cases h
theorem zdm (C:World→Prop) (tl:List Nat) {i:Nat} {oi:Oper} {v:Value} {fuel:Nat} {H0:Array Bool} {a:Act} {w:World} (H2:F.round=none) (hi:ops.toList[i]?=some oi)
  (hs:P4 ops=true) (hf:P5 md ops H0 i=true) (ht:zl1 md ops i tl=true) (K1:zfI ops H0 i tl=true) (hr:(P1 md ops H0).contains i=true)
  (hQ:∀ c a w,Q (.panic c) (a.put oi.dst v) w→Q (.panic c) a w) (Kb:∀ w o,C w→C (w.alloc o)) (hC:C w) (hy:YieldsC P ops C oi v a)
  (h:wpAnyIn F n P md ops Q fuel (H0.setIfInBounds i true) (a.put oi.dst v) w):wpAnyIn F n P md ops Q (fuel+1) H0 a w :=
 zkW tl ht H2 (zfO hi) (Region.noSelect_spec hs) hQ fuel H0 a w (znB K1) (fun j oj hj H6 HS Hl Hp=>⟨Region.free_spec (zfO hi) hf j oj hj H6 Hl Hp,zpc Kb (zlG K1 j oj hj H6 HS Hl)⟩) (by simpa using hr) hC hy h
theorem zlQ {i:Nat} {oi:Oper} {v:Value} {fuel:Nat} {H0:Array Bool} {a:Act} {w:World} (H2:F.round=none) (hi:ops.toList[i]?=some oi)
  (hs:P4 ops=true) (hf:P5 md ops H0 i=true) (hr:(P1 md ops H0).contains i=true)
  (hQ:∀ c a w,Q (.panic c) (a.put oi.dst v) w→Q (.panic c) a w) (hy:YieldsFenced P ops oi v a)
  (h:wpAnyIn F n P md ops Q fuel (H0.setIfInBounds i true) (a.put oi.dst v) w):wpAnyIn F n P md ops Q (fuel+1) H0 a w :=
 wpAnyIn_take H2 (zfO hi) hs hf hr hQ hy h
theorem zuB {o:Oper} {v:Value} {a:Act} (hg:o.guard=none) (H1:∀ w,(execOp a.eval o).run P w=.ok (.value v) w) (H7:∀ w,o.about P w a.eval=none):YieldsFenced P ops o v a :=
 ⟨.inl ⟨by simp[P0,hg],H1⟩,H7⟩
theorem tkF (i:Nat) {oi:Oper} {v:Value} {fuel:Nat} {H0:Array Bool} {a:Act} {w:World} (H2:F.round=none) (hi:ops.toList[i]?=some oi) (hg:oi.guard=none)
  (h:wpAnyIn F n P md ops Q fuel (H0.setIfInBounds i true) (a.put oi.dst v) w) (H1:∀ w,(execOp a.eval oi).run P w=.ok (.value v) w:=by (intro w;go_simp;try with_reducible rfl)) (H7:∀ w,oi.about P w a.eval=none:=by exact fun w=>rfl) (hs:Region.noSelect ops=true:=by kernel_rfl) (hf:Region.free md ops H0 i=true:=by kernel_rfl) (hr:(Region.ready md ops H0).contains i=true:=by kernel_rfl)
  (hQ:∀ c a w,Q (.panic c) (a.put oi.dst v) w→Q (.panic c) a w:=by exact fun _ _ _ h=>h):wpAnyIn F n P md ops Q (fuel+1) H0 a w :=
 zlQ H2 hi hs hf hr hQ (zuB hg H1 H7) h
theorem zgL {C:World→Prop} {o:Oper} {v:Value} {a:Act} (hg:o.guard=none) (H1:∀ w,C w→(execOp a.eval o).run P w=.ok (.value v) w) (H7:∀ w,o.about P w a.eval=none):YieldsC P ops C o v a :=
 ⟨by simp[P0,hg],H1,H7⟩
theorem zal {i:Nat} {o:Oper} {v:Value} {fuel:Nat} {H0:Array Bool} {a:Act} {w w':World} (H2:F.round=none) (hr:P1 md ops H0=[i]) (H9:ops.toList[i]?=some o) (hg:o.guard=none)
  (H7:o.about P w a.eval=none) (H1:(execOp a.eval o).run P w=.ok (.value v) w') (h:wpAnyIn F n P md ops Q fuel (H0.setIfInBounds i true) (a.put o.dst v) w'):wpAnyIn F n P md ops Q (fuel+1) H0 a w:=by
 exact mcRounda0
theorem zbQ {i:Nat} {o:Oper} {fuel:Nat} {H0:Array Bool} {a:Act} {w w':World} (H2:F.round=none) (hr:P1 md ops H0=[i]) (H9:ops.toList[i]?=some o) (hg:o.guard=none)
  (H7:o.about P w a.eval=none) (H1:(execOp a.eval o).run P w=.ok .skip w') (h:wpAnyIn F n P md ops Q fuel (H0.setIfInBounds i true) (a.put o.dst undef) w'):wpAnyIn F n P md ops Q (fuel+1) H0 a w:=by
 exact mcRounda0
theorem zc7 {i:Nat} {o:Oper} {f:FuncId} {args:Array Value} {fuel:Nat} {H0:Array Bool} {a:Act} {w w':World} (hr:P1 md ops H0=[i]) (H9:ops.toList[i]?=some o) (hg:o.guard=none)
  (H1:(execOp a.eval o).run P w=.ok (.enter f args) w') (h:Calls P f args w' fun e w2=>∃ v,e=.returned v∧wpAnyIn (Wd none) n P md ops Q fuel (H0.setIfInBounds i true) (a.put o.dst v) w2):wpAnyIn (Wd none) n P md ops Q (fuel+1) H0 a w:=by
 have hi:=zfO H9
 refine wpAnyIn_all hr (by simp) (fun j hj=>?_)
 have e:j=i:=by simpa using hj
 subst e;unfold wpOpIn
 have hw:P0 o (yielded ops a.tmps)=true:=by simp[P0,hg]
 simp only[hi,hw,if_true,P8,P6,H1,P7]
 refine ⟨fun _ _=>trivial,fun h=>by simp[Pk] at h,(callsIn_wd.2 h).mono ?_⟩
 rintro e w2 ⟨v,rfl,h⟩
 exact h
theorem zkE {i j:Nat} {oi oj:Oper} {vi vj:Value} {fuel:Nat} {H0:Array Bool} {a:Act} {w wi wj:World} (H2:F.round=none) (hr:P1 md ops H0=[i,j]) (H9:ops.toList[i]?=some oi) (HL:ops.toList[j]?=some oj) (gi:oi.guard=none) (gj:oj.guard=none)
  (abi:oi.about P w a.eval=none) (abj:oj.about P w a.eval=none) (runi:(execOp a.eval oi).run P w=.ok (.value vi) wi) (runj:(execOp a.eval oj).run P w=.ok (.value vj) wj)
  (h1:wpAnyIn F n P md ops Q fuel (H0.setIfInBounds i true) (a.put oi.dst vi) wi) (h2:wpAnyIn F n P md ops Q fuel (H0.setIfInBounds j true) (a.put oj.dst vj) wj):wpAnyIn F n P md ops Q (fuel+1) H0 a w:=by
 have hi:=zfO H9;have hj:=zfO HL
 refine wpAnyIn_all hr (by simp) (fun k hk=>?_)
 have Hg:∀ f,oi.about P w a.eval=some f→F.fn f:=fun f hf=>by rw[abi] at hf;cases hf
 have HG:∀ f,oj.about P w a.eval=some f→F.fn f:=fun f hf=>by rw[abj] at hf;cases hf
 have HW:P0 oi (yielded ops a.tmps)=true:=by simp[P0,gi]
 have HX:P0 oj (yielded ops a.tmps)=true:=by simp[P0,gj]
 rcases (by simpa using hk:k=i∨k=j) with rfl | rfl
 ·unfold wpOpIn
  simp only[hi,HW,if_true,P8,H2,P6,runi,P7]
  exact ⟨Hg,h1⟩
 ·unfold wpOpIn
  simp only[hj,HX,if_true,P8,H2,P6,runj,P7]
  exact ⟨HG,h2⟩
end
open Go.RowKit
def Blk (W:World) (b:Nat) (t:TypeId) (cs:Array Value):Prop:=W.heap[b]?=some (.cells cs t (0,0))
section
variable {W W':World} {b:Nat} {t:TypeId} {cs:Array Value}
theorem Blk.lt (h:Blk W b t cs):b<W.heap.size:=(P9.1 h).1
theorem Blk.cell (h:Blk W b t cs) (k:Nat) {v:Value} (hv:cs[k]?=some v):W.cell? ⟨b,k,none⟩=some v:=by simp[Ph,show W.heap[b]?=_ from h,hv]
theorem Blk.frozen (h:Blk W b t cs) (k:Nat):W.frozen? ⟨b,k,none⟩=false:=by simp[World.frozen?,show W.heap[b]?=_ from h]
theorem Blk.new (W:World) (t:TypeId) (cs:Array Value):Blk (W.alloc (.cells cs t)) W.heap.size t cs:=Pe W _
theorem Blk.kept {row:Option Nat} (h:Blk W b t cs) (hg:W.grownBy W' row) (H6:some b≠row):Blk W' b t cs:=(hg.block b h.lt H6).trans h
theorem Blk.ext (h:Blk W b t cs) (he:Ext W W'):Blk W' b t cs:=(he.block b h.lt).trans h
theorem Blk.alloc (h:Blk W b t cs) (o:Obj):Blk (W.alloc o) b t cs:=h.ext (xA (xR _) o)
theorem Blk.set (h:Blk W b t cs) (k:Nat) (u:Value):Blk (W.setCell ⟨b,k,none⟩ u) b t (cs.setIfInBounds k u):=by
 obtain ⟨HO,hk⟩:=P9.1 h
 show (W.heap.modify b _)[b]?=_
 rw[Array.getElem?_eq_getElem (by rw[Array.size_modify];exact HO),Array.getElem_modify_self,hk]
 rfl
theorem Blk.other (h:Blk W b t cs) {b':Nat} (H6:b≠b') (k:Nat) (u:Value):Blk (W.setCell ⟨b',k,none⟩ u) b t cs :=
 (Below.heap_setCell W ⟨b',k,none⟩ u b H6).trans h
theorem Blk.not_row (h:Blk W b t cs) {e:TypeId} (Kn:t≠e) {base size k:Nat} {v:Value} {xs:List Value} (hr:W.ownsRow base e size v k xs):some b≠v.ownBlock:=by
 intro e';obtain ⟨Kq,hc⟩:=zco hr e'.symm
 rw[show W.heap[b]?=_ from h] at hc
 cases hc
 exact Kn rfl
theorem Blk.load {P:Program} {ty:TypeId} {d:TypeDesc} (h:Blk W b t cs) (hu:P.underlying ty=some d) (hd:(match d with | .struct _ | .array _ _=>true | _=>false)=true) (hi:(P.info? ty).map (·.size)=some cs.size) :
  (loadVar ty ⟨b,0,none⟩).run P W=.ok (.agg cs) W:=run_loadVar_row W b t ty cs (0,0) d h hu hd hi
end
theorem zbi {W:World} {b:Nat} {t:TypeId} {a v u:Value} (h:Blk W b t #[a,v,u]):W.cell? ⟨b,0,none⟩=some a∧W.cell? ⟨b,1,none⟩=some v∧W.cell? ⟨b,2,none⟩=some u∧W.frozen? ⟨b,0,none⟩=false∧W.frozen? ⟨b,1,none⟩=false∧W.frozen? ⟨b,2,none⟩=false :=
 ⟨h.cell 0 rfl,h.cell 1 rfl,h.cell 2 rfl,h.frozen 0,h.frozen 1,h.frozen 2⟩
theorem blk4 {W:World} {b:Nat} {t:TypeId} {a v u x:Value} (h:Blk W b t #[a,v,u,x]):W.cell? ⟨b,0,none⟩=some a∧W.cell? ⟨b,1,none⟩=some v∧W.cell? ⟨b,2,none⟩=some u∧W.cell? ⟨b,3,none⟩=some x∧W.frozen? ⟨b,0,none⟩=false∧W.frozen? ⟨b,1,none⟩=false∧W.frozen? ⟨b,2,none⟩=false∧W.frozen? ⟨b,3,none⟩=false :=
 ⟨h.cell 0 rfl,h.cell 1 rfl,h.cell 2 rfl,h.cell 3 rfl,h.frozen 0,h.frozen 1,h.frozen 2,h.frozen 3⟩
theorem zbj {W:World} {b:Nat} {t:TypeId} {a v u:Value} (h:Blk W b t #[a,v,u]) (a' v' u':Value):Blk (((W.setCell ⟨b,0,none⟩ a').setCell ⟨b,1,none⟩ v').setCell ⟨b,2,none⟩ u') b t #[a',v',u'] :=
 ((h.set 0 a').set 1 v').set 2 u'
theorem zab (W:World) (b k:Nat) (v:Value):W.grownBy (W.setCell ⟨b,k,none⟩ v) (some b) :=
 ⟨rfl,rfl,rfl,by simp[World.setCell],fun j _ hj=>Below.heap_setCell _ _ _ j (fun e=>hj (by rw[e]))⟩
theorem zfh {A B C:World} {row:Option Nat} (h:A.grownBy B row) (k:B.grownBy C row):A.grownBy C row :=
 ⟨k.os.trans h.os,k.tape.trans h.tape,k.output.trans h.output,Nat.le_trans h.size k.size,fun j hj H6=>(k.block j (Nat.lt_of_lt_of_le hj h.size) H6).trans (h.block j hj H6)⟩
theorem zdy {W:World} {b:Nat} {t:TypeId} {cs:List Value} (h:Blk W b t cs.toArray) {n:Nat} (hn:cs.length=n) (hl:n≤maxLen):SlR W 1 (.slice (some ⟨b,0,none⟩) n n) n cs:=by
 refine ⟨by omega,_,n,rfl,xN _,hl,fun _=>⟨b,0,rfl,fun j u hu=>?_⟩⟩
 rw[Nat.zero_add]
 exact h.cell j (by simpa using hu)
theorem zar {W W':World} {row:Option Nat} (hg:W.grownBy W' row) {p:Addr} {u:Value} (h:W.cell? p=some u) (hr:some p.block≠row):W'.cell? p=some u :=
 (World.cell?_of_block (hg.block p.block (Pf W p h) hr)).trans h
theorem SlR.keepB {w w':World} {size b off m c n:Nat} {xs:List Value} (h:SlR w size (.slice (some ⟨b,off,none⟩) m c) n xs) (hk:∀ o u,w.cell? ⟨b,o,none⟩=some u→w'.cell? ⟨b,o,none⟩=some u) :
  SlR w' size (.slice (some ⟨b,off,none⟩) m c) n xs:=by
 obtain ⟨hl,A,c',e,h1,h2,h3⟩:=h
 cases e
 refine ⟨hl,_,c,rfl,h1,h2,fun hn=>?_⟩
 obtain ⟨b',Hz,e',hc⟩:=h3 hn
 cases e'
 exact ⟨b,off,rfl,fun j u hu=>hk _ _ (hc j u hu)⟩
theorem SlR.take1 {w:World} {A:Option Addr} {m c n:Nat} {xs:List Value} (h:SlR w 1 (.slice A m c) n xs) (k:Nat) (hk:k≤n):SlR w 1 (.slice A k c) k (xs.take k):=by
 obtain ⟨hl,A',c',e,h1,h2,h3⟩:=h
 cases e
 refine ⟨by rw[Pm,hl];omega,_,c,rfl,by omega,h2,fun hn=>?_⟩
 obtain ⟨b',Hz,e',hc⟩:=h3 (by omega)
 cases e'
 refine ⟨b',Hz,rfl,fun j u hu=>hc j u ?_⟩
 rw[List.getElem?_take] at hu
 split at hu
 ·exact hu
 ·cases hu
theorem Bs.take {w:World} {A:Option Addr} {m c:Nat} {bs:List UInt8} (h:Bs w (.slice A m c) bs) (k:Nat) (hk:k≤bs.length):Bs w (.slice A k c) (bs.take k):=by
 have:=SlR.take1 h k hk
 unfold Bs;rw[Pm,Nat.min_eq_left hk,List.map_take]
 exact this
theorem SlR.capd {w:World} {A:Option Addr} {m c c' size n:Nat} {xs:List Value} (h:SlR w size (.slice A m c) n xs) (h1:n≤c') (h2:c'≤9223372036854775807):SlR w size (.slice A m c') n xs:=by
 obtain ⟨hl,A',Kp,e,_,_,h3⟩:=h
 cases e
 exact ⟨hl,A,c',rfl,h1,by simpa [maxLen] using h2,h3⟩
open Go.RowKit
section
variable {F:Fence} {n:Nat} {P:Program} {ops:Array Oper} {Q:Exit→Act→World→Prop} {md:P3}
theorem ziw {i:Nat} {o:Oper} {fuel:Nat} {H0:Array Bool} {a:Act} {w:World} (H2:F.round=none) (hr:P1 md ops H0=[i]) (H9:ops.toList[i]?=some o) (hg:o.guard=none)
  (H7:∀ f,o.about P w a.eval=some f→F.fn f) (h:o.uponIn F n P a (fun a' w'=>wpAnyIn F n P md ops Q fuel (H0.setIfInBounds i true) a' w') Q ((execOp a.eval o).run P w)):wpAnyIn F n P md ops Q (fuel+1) H0 a w:=by
 have hi:=zfO H9
 refine wpAnyIn_all hr (by simp) (fun j hj=>?_)
 have e:j=i:=by simpa using hj
 subst e;unfold wpOpIn
 have hw:P0 o (yielded ops a.tmps)=true:=by simp[P0,hg]
 simp only[hi,hw,if_true,P8,H2,P6]
 exact ⟨H7,h⟩
theorem zqb {i j:Nat} {oi oj:Oper} {vi:Value} {f:FuncId} {args:Array Value} {fuel:Nat} {H0:Array Bool} {a:Act} {w wi wj:World} (hr:P1 md ops H0=[i,j]) (H9:ops.toList[i]?=some oi) (HL:ops.toList[j]?=some oj) (gi:oi.guard=none) (gj:oj.guard=none)
  (abi:oi.about P w a.eval=none) (runi:(execOp a.eval oi).run P w=.ok (.value vi) wi) (runj:(execOp a.eval oj).run P w=.ok (.enter f args) wj)
  (h1:wpAnyIn (Wd none) n P md ops Q fuel (H0.setIfInBounds i true) (a.put oi.dst vi) wi)
  (h2:Calls P f args wj fun e w2=>∃ v,e=.returned v∧wpAnyIn (Wd none) n P md ops Q fuel (H0.setIfInBounds j true) (a.put oj.dst v) w2):wpAnyIn (Wd none) n P md ops Q (fuel+1) H0 a w:=by
 have hi:=zfO H9;have hj:=zfO HL
 refine wpAnyIn_all hr (by simp) (fun k hk=>?_)
 have Hg:∀ f,oi.about P w a.eval=some f→(Wd none).fn f:=fun f hf=>by rw[abi] at hf;cases hf
 have HW:P0 oi (yielded ops a.tmps)=true:=by simp[P0,gi]
 have HX:P0 oj (yielded ops a.tmps)=true:=by simp[P0,gj]
 rcases (by simpa using hk:k=i∨k=j) with rfl | rfl
 ·unfold wpOpIn
  simp only[hi,HW,if_true,P8,P6,runi,P7]
  exact ⟨Hg,h1⟩
 ·unfold wpOpIn
  simp only[hj,HX,if_true,P8,P6,runj,P7]
  refine ⟨fun _ _=>trivial,fun h=>by simp[Pk] at h,(callsIn_wd.2 h2).mono ?_⟩
  rintro e w2 ⟨v,rfl,h⟩
  exact h
end
open Go.RowKit
section
variable {n:Nat} {P:Program} {ops:Array Oper} {Q:Exit→Act→World→Prop} {md:P3} {S:World→Prop}
def NoQ (Q:Exit→Act→World→Prop):Exit→Act→World→Prop
 | .normal,a,w=>Q .normal a w
 | _,_,_=>False
theorem NoQ.imp {Q:Exit→Act→World→Prop} (e:Exit) (a:Act) (w:World) (h:NoQ Q e a w):Q e a w:=by
 cases e <;> first | exact h | exact h.elim
theorem zdR {a:Act} {w:World} (h:Q .normal a w):NoQ Q .normal a w:=h
theorem zoR {o:Oper} {a:Act} {K:Act→World→Prop} {r:Result Next} (h:o.upon P a K Q r):o.uponIn (Wd none) n P a K Q r:=by
 cases r with
 | ok x w =>
  cases x with
  | value v=>exact h
  | skip=>exact h
  | defer d=>exact h
  | enter f args=>exact ⟨fun h=>by simp[Pk] at h,callsIn_wd.2 h⟩
  | row row args=>exact ⟨fun h=>by simp[Pk] at h,fun c cs _=>let ⟨v,w',r,s⟩:=h c cs;⟨v,w',r,stepsIn_wide.2 s⟩⟩
  | _=>exact h.elim
 | halt x w =>
  cases x <;> first | exact h | exact h.elim
theorem zuy {i:Nat} {K:Act→World→Prop} {a:Act} {w:World} (h:wpOp P ops (NoQ Q) i K a w):wpOpIn (Wd none) n P ops (NoQ Q) i K a w:=by
 unfold wpOp at h;unfold wpOpIn
 cases ho:ops[i]? with
 | none=>rw[ho] at h;exact h
 | some o =>
  rw[ho] at h
  dsimp only at h ⊢
  split
  ·rename_i hw
   rw[if_pos hw] at h
   rcases h with h | ⟨_,_,_,h⟩
   ·refine ⟨fun _ _=>trivial,?_⟩
    rw[show (Wd none).round=none from rfl,P6]
    exact zoR h
   ·exact h.elim
  ·rename_i hw
   rw[if_neg hw] at h
   exact ⟨fun _ _=>trivial,h⟩
theorem zjT:∀ (fuel:Nat) (H0:Array Bool) (a:Act) (w:World),wpAny P md ops (NoQ Q) fuel H0 a w→wpAnyIn (Wd none) n P md ops (NoQ Q) fuel H0 a w
 | 0,_,_,_,h=>h
 | fuel+1,H0,a,w,h=>⟨h.1,fun i hi=>wpOpIn_mono (fun a w=>zjT fuel _ a w) (zuy (h.2 i hi))⟩
theorem zge {l id:Nat} {a:Act} {w:World} (hm:P.follows .mixedOrders=true) (hd:zgD ops=true) (hS:S w.drew)
  (h:S w.drew→wpAnyH P .any ops (NoQ Q) S ops.size (Pa ops.size false) a w.drew):(Pp id ops true).wpIn (Wd (some l)) n P Q a w :=
 wpIn_mono (wpIn_region_any (F:=(Wd none).inRound l) hm (zhI l hd rfl _ _ _ _ (zjT _ _ _ _ (wpAny_of_held _ _ _ _ (h hS))))) NoQ.imp
theorem zc8 {id:Nat} {a:Act} {w:World} (hm:P.follows .mixedOrders=true) (hS:S w.drew)
  (h:S w.drew→wpAnyH P .any ops (NoQ Q) S ops.size (Pa ops.size false) a w.drew):(Pp id ops true).wpIn (Wd none) n P Q a w :=
 wpIn_mono (wpIn_region_any hm (zjT _ _ _ _ (wpAny_of_held _ _ _ _ (h hS)))) NoQ.imp
end
open Go.RowKit
def KG (G:Nat→Prop) (k:Nat) (o:Obj):Prop:=o.isCells=true∧¬ G k
def zuI (P:Program) (gf:Nat) (lb:Array Value) {α:Type} (Rp:α→Array Value→World→Prop) (M:Nat→Obj→Prop) (xs:List α) (pn:Option (List PanicEntry)) (Gok:(Nat→Prop)→Prop) (W0:World):Prop :=
 ∀ (l:Nat) (J:(Nat→Prop)→List α→World→Prop),
  (∀ G s A B,J G s A→Moves (zad M W0.heap.size) A B→J G s B)→(∀ G s A,J G s A→∀ k,G k→k<A.heap.size) →
  (∀ G H5 x H4,xs=H5++x::H4→∀ (W:World) (av:Array Value),J G H5 W→W0.heap.size≤W.heap.size→Rp x av W→YieldsAt P l av W fun e W' =>
    e=.returned (.bool true)∧Kept (zad (KG G) W0.heap.size) W W'∧∃ G',(∀ k,G' k→G k∨W.heap.size≤k)∧J G' (H5++[x]) W') →
  ∀ G0,Gok G0→J G0 [] W0 →
  Calls P gf (#[.func (.yield l) #[] #[]]++lb) W0 fun e W'=>∃ G,J G xs W'∧((pn=none∧∃ v,e=.returned v)∨∃ c,pn=some c∧e=.panicked c)
def zuq (K:Nat→Obj→Prop) (I:World→Prop) (W:World):Exit→Act→World→Prop
 | .normal,_,W'=>Kept K W W'∧I W'
 | _,_,_=>False
theorem zr9 {P:Program} {α:Type} {n:Nat} {g:Operand} {ps:Array Tmp} {assign body:Code} {Q:Exit→Act→World→Prop} {a:Act} {w:World}
  {gf:Nat} {lb:Array Value} (hg:a.eval g=.func (.func gf) #[] lb) (eg:∀ args w,(callFunc gf args).run P w=.ok (.enter gf args) w)
  {Rp:α→Array Value→World→Prop} {M:Nat→Obj→Prop} {xs:List α} {pn:Option (List PanicEntry)} {Gok:(Nat→Prop)→Prop}
  (hseq:∀ W1,Below w.heap.size w W1→W1.heap.size=w.heap.size+2→zuI P gf lb Rp M xs pn Gok W1)
  (hMc:∀ k o,M k o→o.isCells=true) (hps:∀ x av W,Rp x av W→av.size=ps.size)
  (I:(Nat→Prop)→List α→World→Prop)
  (hI:∀ G s A B,I G s A→Moves (zad M w.heap.size) A B→I G s B) (hbd:∀ G s A,I G s A→∀ k,G k→k<A.heap.size) (G0:Nat→Prop) (K7:Gok G0) (h0:I G0 [] w)
  (Ax:α→Act→World→Prop) (hAx:∀ x a' A B,Ax x a' A→Moves (zad (fun _ _=>False) w.heap.size) A B→Ax x a' B)
  (Ha:∀ (G:Nat→Prop) (l:Nat) (H5:List α) (x:α) (H4:List α) (W:World) (av:Array Value) (K':Act→World→Prop),xs=H5++x::H4→I G H5 W→w.heap.size≤W.heap.size→Rp x av W →
    (∀ a' W',Kept (zad (KG G) w.heap.size) W W'→I G H5 W'→Ax x a' W'→K' a' W') →
    assign.wpIn (Wd (some l)) n P (Exit.then K' (fun _ _ _=>False)) { tmps:=(ps.zip av).foldl (fun t (p,v)=>t.setIfInBounds p v) a.tmps,defers:=[] } W)
  (Hq:∀ (G:Nat→Prop) (l:Nat) (H5:List α) (x:α) (H4:List α) (a':Act) (W:World),xs=H5++x::H4→w.heap.size≤l→(∃ r,W.heap[l]?=some (.loop r))→I G H5 W→w.heap.size≤W.heap.size→Ax x a' W →
    body.wpIn (Wd (some l)) n P (zuq (zad (KG G) w.heap.size) (fun W'=>∃ G',(∀ k,G' k→G k∨W.heap.size≤k)∧I G' (H5++[x]) W') W) a' W)
  (Hr:∀ G D W,pn=none→w.heap.size≤D→I G xs W→W.heap[D]?=some (.deferred (some []))→Q .normal { a with defers:={ target:=.collected D,args:=#[] }::a.defers } W)
  (HT:∀ G D c W,pn=some c→w.heap.size≤D→I G xs W→W.heap[D]?=some (.deferred (some []))→Q (.panic c) { a with defers:={ target:=.collected D,args:=#[] }::a.defers } W) :
  (Code.rangeFunc g ps assign body).wpIn (Wd none) n P Q a w:=by
 refine wpIn_rangeFunc ?_
 intro fn _
 obtain ⟨Hb,H3⟩:∃ Hb:LoopState→Option Code→Loop,Hb=fun st pe=>{ state:=st,pending:=pe,fn,tmps:=a.tmps,params:=ps,assign,body,defers:=w.heap.size }:=⟨_,rfl⟩
 obtain ⟨W1,Hn⟩:∃ W1,(w.alloc (.deferred (some []))).alloc (.loop { state:=.ready,pending:=none,fn,tmps:=a.tmps,params:=ps,assign,body,defers:=w.heap.size })=W1:=⟨_,rfl⟩
 have Kd:Below w.heap.size w W1:=by rw[←Hn];exact ((Below.refl _ w).alloc (xN _) _).alloc (by simp) _
 have Kk:W1.heap.size=w.heap.size+2:=by rw[←Hn];simp
 have HZ:W1.heap[w.heap.size+1]?=some (.loop { state:=.ready,pending:=none,fn,tmps:=a.tmps,params:=ps,assign,body,defers:=w.heap.size }):=by
  rw[←Hn];have:=Pe (w.alloc (.deferred (some []))) (.loop { state:=.ready,pending:=none,fn,tmps:=a.tmps,params:=ps,assign,body,defers:=w.heap.size });rwa [xS] at this
 have K8:W1.heap[w.heap.size]?=some (.deferred (some [])):=by
  rw[←Hn];exact (Below.heap_alloc _ _ _ (by simp)).trans (Pe w _)
 have Kj:Moves (zad M w.heap.size) w W1:=by rw[←Hn];exact (Moves.refl.alloc _).alloc _
 have H8:(Instr.enterLoop fn a.tmps ps assign body none).run P w=.ok (w.heap.size+1,[{ target:=.collected w.heap.size,args:=#[] }]) W1:=by
  rw[←Hn];exact run_enterLoop_outer _ _ _ _ _
 have Hh:W1.heap[w.heap.size+1]?=some (.loop (Hb .ready none)):=by rw[H3];exact HZ
 obtain ⟨l,hl⟩:∃ l,w.heap.size+1=l:=⟨_,rfl⟩;rw[hl] at HZ Hh H8
 have HE:w.heap.size≤l:=by omega
 obtain ⟨X,HA⟩:∃ X:World→Prop,X=fun W=>W.heap[w.heap.size]?=some (.deferred (some [])):=⟨_,rfl⟩
 have hX:∀ A B,X A→(∀ k o,A.heap[k]?=some o→w.heap.size≤k→k<W1.heap.size→k≠l→o.isCells=false→B.heap[k]?=some o)→X B:=by
  subst HA;intro A B hx hk
  exact hk _ _ hx (xN _) (by omega) (by omega) rfl
 have Ka:X W1:=by rw[HA];exact K8
 have K0:∀ W,X W→W.heap[w.heap.size]?=some (.deferred (some [])):=by rw[HA];exact fun _ h=>h
 clear HA
 have K9:∀ (G:Nat→Prop) k o,KG G k o→∀ r,o≠.loop r:=fun G k o h r e=>by rw[e] at h;cases h.1
 -- the record's own turns
 have put:∀ (A:World) (o o':Obj),A.heap[l]?=some o→o.isCells=false→Moves (zad (fun _ _=>False) w.heap.size) A (A.putObj l o'):=fun A o o' ho hc =>
  Moves.refl.putObj (fun o₁ h₁=>by rw[ho] at h₁;cases h₁;exact .inr ⟨HE,hc⟩) o'
 have zdG:∀ G s A o o',I G s A→A.heap[l]?=some o→o.isCells=false→I G s (A.putObj l o'):=fun G s A o o' hi ho hc =>
  hI G s _ _ hi ((put A o o' ho hc).weaken (fun k o h=>by rcases h with h | h;exact h.elim;exact .inr h))
 have HP:l<W1.heap.size:=(P9.1 Hh).1
 have Hm:∀ A o',X A→X (A.putObj l o'):=fun A o' hx=>hX A _ hx (fun k o hk _ _ H6 _=>(Pd H6).trans hk)
 have He:∀ {K':Nat→Obj→Prop} (A B:World),X A→Kept (zad K' w.heap.size) A B→X B:=fun A B hx hk =>
  hX A B hx (fun k o ho hn _ _ hc=>hk.same k o ho (.inr ⟨hn,hc⟩))
 have Hf:∀ (A B:World) (k:Nat) (o:Obj),A.heap[k]?=some o→k<W1.heap.size→o.isCells=false→Moves (zad M W1.heap.size) A B→B.heap[k]?=some o:=fun A B k o ho hk hc hm =>
  hm.same k o ho (fun h=>by
   rcases h with h | h
   ·have:=hMc k o h;rw[hc] at this;cases this
   ·omega)
 have Hy:∀ (A B:World),X A→Moves (zad M W1.heap.size) A B→X B:=fun A B hx hm =>
  hX A B hx (fun k o ho _ HO _ hc=>Hf A B k o ho HO hc hm)
 have Hx:∀ (A B:World),Moves (zad M W1.heap.size) A B→Moves (zad M w.heap.size) A B:=fun A B hm =>
  hm.weaken (fun k o h=>by rcases h with h | h;exact .inl h;exact .inr ⟨by omega,h.2⟩)
 refine ⟨l,[{ target:=.collected w.heap.size,args:=#[] }],W1,{ target:=.fn (.func gf) lb,args:=#[.func (.yield l) #[] #[]] },W1,gf,#[.func (.yield l) #[] #[]]++lb,W1,H8,?_,fun _ _=>trivial,?_,fun h=>by simp[Pk] at h,?_⟩
 ·simp only[resolve,hg]
  simp[go_sem]
 ·simp[invoke,go_sem,eg]
 ·refine callsIn_wd.2 ?_
  refine (hseq W1 Kd Kk l
   (fun G H5 W=>I G H5 W∧W.heap[l]?=some (.loop (Hb .ready none))∧X W)
   (fun G s A B hs hm=>⟨hI G s A B hs.1 (Hx A B hm),Hf A B l _ hs.2.1 HP rfl hm,Hy A B hs.2.2 hm⟩)
   (fun G s A hs k hk=>hbd G s A hs.1 k hk)
   ?_ G0 K7 ⟨hI _ _ _ _ h0 Kj,Hh,Ka⟩).mono ?_
  · -- ONE ROUND
   rintro G H5 x H4 K4 W av ⟨hi,HN,hx⟩ Kr K2;have hy:=run_yield (P:=P) (args:=av) HN (by rw[H3];exact hps x av W K2);rw[H3] at hy
   refine ⟨fn,_,assign,body,hy,?_⟩
   clear hy
   have rd:=roundIn_of_wpIn (F:=Wd (some l)) (n:=n) (P:=P) (l:=l) (f:=fn) (w:=W) (assign:=assign) (body:=body) (tmps:=(ps.zip av).foldl (fun t (p,v)=>t.setIfInBounds p v) a.tmps)
    (R:=fun e W'=>e=.returned (.bool true)∧Kept (zad (KG G) W1.heap.size) W W'∧∃ G',(∀ k,G' k→G k∨W.heap.size≤k)∧I G' (H5++[x]) W'∧W'.heap[l]?=some (.loop (Hb .ready none))∧X W')
    trivial (Ha G l H5 x H4 W av _ K4 hi (by omega) K2 ?_)
   ·exact ⟨trivial,fun c cs _=>rd.2 c cs (room_wide _)⟩
   ·intro a' Wa Ho Kf Kc
    have HF:=Ho.same l _ HN (.inr ⟨HE,rfl⟩);have Ko:=He W Wa hx Ho
    have HQ:l<Wa.heap.size:=(P9.1 HF).1
    refine ⟨_,run_beginRound HF (by rw[H3]),?_⟩
    have Ht:(Wa.putObj l (.loop { Hb .ready none with state:=.busy })).heap[l]?=some (.loop { Hb .ready none with state:=.busy }):=Pg HQ
    refine wpIn_mono (Hq G l H5 x H4 a' _ K4 HE ⟨_,Ht⟩ (zdG _ _ _ _ _ Kf HF rfl) (by simp;have:=Ho.size;omega) (hAx x a' _ _ Kc (put _ _ _ HF rfl))) ?_
    rintro e a3 W3 hp
    cases e with
    | normal =>
     obtain ⟨HD,G',K6,Ke⟩:=hp;have HM:=HD.same l _ Ht (.inr ⟨HE,rfl⟩);have H1:=run_endRound (P:=P) none HM;rw[H3] at H1
     refine ⟨_,_,H1,rfl,⟨?_,?_⟩,G',fun k hk=>?_,?_,?_,?_⟩
     ·have h1:=Ho.size;have h2:=HD.size;simp at h2 ⊢;omega
     ·intro k o hk hK
      have HY:zad (KG G) w.heap.size k o:=by
       rcases hK with h | h
       ·exact .inl h
       ·exact .inr ⟨by omega,h.2⟩
      by_cases e:k=l
      ·subst e
       rw[HN] at hk;cases hk
       rcases hK with h | h
       ·exact absurd rfl (K9 _ _ _ h _)
       ·omega
      ·have h1:=Ho.same k o hk HY
       have h2:=HD.same k o ((Pd e).trans h1) HY
       exact (Pd e).trans h2
     ·rcases K6 k hk with h | h
      ·exact .inl h
      ·right
       have:=Ho.size
       simp at h
       omega
     ·have:=zdG _ _ _ _ (.loop (Hb .ready none)) Ke HM rfl
      rw[H3] at this
      exact this
     ·have:=Pg (o:=.loop (Hb .ready none)) (P9.1 HM).1
      rw[H3] at this ⊢
      exact this
     ·exact Hm _ _ (He _ _ (Hm _ _ Ko) HD)
    | ret=>exact hp.elim
    | exit id=>exact hp.elim
    | goto t=>exact hp.elim
    | panic ch=>exact hp.elim
    | outgrown=>exact hp.elim
  · -- BEHIND THE ITERATOR
   rintro e W2 ⟨G,⟨hi,Ht,hx⟩,(⟨hpn,v,rfl⟩ | ⟨c,hpn,rfl⟩)⟩
   ·exact ⟨none,_,by have:=run_endLoop (P:=P) Ht (by rw[H3];simp);rw[H3] at this;exact this,Hr G _ _ hpn (xN _) (zdG _ _ _ _ _ hi Ht rfl) (K0 _ (Hm _ _ hx))⟩
   ·exact HT G _ c _ hpn (xN _) hi (K0 _ hx)
end Go.Mv
