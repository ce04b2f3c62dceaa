/- Merged -/
import Derived.Test.YteggfecbjgbndaaGreatDoorZw1
import Derived.OwnWalkIn
import Derived.TacticsInMore
import Derived.ScopeJumps
import Derived.LoopNIn
import Derived.LoopIn
import Derived.Shelf.Abstract
import Derived.Shelf.RegionOpen
import Derived.WalkSpells
import Derived.Laws.Externs
import Derived.Laws.BitsAll
set_option linter.all false
set_option maxHeartbeats 8000000
set_option maxRecDepth 100000
open Go.Value renaming int→B,slice→I,pointer→O,bool→S
open Option renaming some→C,none→H
open Go.Proofs.Tryz renaming prog→E
open Go.IntKind renaming i64→G,u8→V
open Go.Obj renaming cells→T
open Go.Mv renaming zhd→U
open UInt8 renaming ofNat→P0
open Go.Machine renaming fenced→P1
open Go.Builtin renaming append_→P2,firstCells→P3,zeroCells→P4,lenOf→P5,nextslicecap→P6
open Ieee renaming double→P7
open Go.FloatKind renaming f64→P8
open Go.Code renaming seq→P9,scope→Pa,label→Pb,skip→Pc
open Nat renaming mul_le_mul_right→Pd,and_two_pow_sub_one_eq_mod→Pe,pow_le_pow_right→Pf,eq_zero_or_pos→Pg,mod_eq_of_lt→Ph,reduceSub→Pi,reduceAdd→Pj,le_trans→Pk
open Go.Mv.Ext renaming grown→Pl
open Go.Result renaming andThen_ok→Pm
open Go.Boxed renaming new→Pn
open Go.Value renaming slice→Po,int→Pp,ownBlock→Pq
open List renaming map_toArray→Pr,eq_nil_of_length_eq_zero→Ps,map→Pu,map_cons→Pv,map_nil→Pw,append_toArray→Px,size_toArray→Py,push_toArray→Pz,cons_append→Q0,length_nil→Q1
open Go.Oper renaming semAt_some→Q2,wp→Q3
open Go.Sem renaming run_pure→Q4,run_bind→Q5
open Array renaming replicate_zero→Q6,replicate_succ→Q7
namespace Go
def Exit.jumps (L:List Nat) (J:Nat→Act→World→Prop) (Q:Exit→Act→World→Prop):Exit→Act→World→Prop
 | .goto l,a,w=>(l∈L∧J l a w)∨(l ∉ L∧Q (.goto l) a w)
 | e,a,w=>Q e a w
end Go
namespace Go.Mv
open Go.RowKit
section
variable {P:Program} (w:World)
theorem ziC (base:Nat) (t ty e:TypeId) (i:TypeInfo) (size:Nat) (ht:P.underlying t=C (.slice e)) (hi:P.info? e=C i)
  (v:Value) (n:Nat) (xs:List Value) (H2:w.ownsRow base e size v n xs) (c:Nat):(P2 #[t,t] ty #[v,I none 0 c]).run P w=.ok v w:=by
 rcases H2.2 with ⟨rfl,rfl⟩ | ⟨g,Hd,HV,rfl,_,_,hnc,_⟩
 ·simp[P2,run_underlying ht,sizeOf,typeInfo,hi,P5,P3]
 ·simp[P2,run_underlying ht,sizeOf,typeInfo,hi,P5,P3,hnc,storeCells]
theorem zbD (base:Nat) (t ty e:TypeId) (i:TypeInfo) (z:Value) (size bytes:Nat) (ht:P.underlying t=C (.slice e)) (hi:P.info? e=C i) (hz:i.zero=C z)
  (H8:i.size=size) (Hn:i.bytes=bytes) (Ho:z.cells.size=size) (Hg:0<size)
  (v:Value) (n:Nat) (xs:List Value) (H2:w.ownsRow base e size v n xs)
  (vx:Value) (m:Nat) (news:List Value) (hr:SlR w size vx m news) (h1:∀ u∈news,u.oneCell'=true)
  (Hm:n+m≤maxLen) (H5:(n+m)*bytes≤140737488355328) (H3:base≤w.heap.size) :
  ∃ v' w',(P2 #[t,t] ty #[v,vx]).run P w=.ok v' w'∧w'.ownsRow base e size v' (n+m) (xs++news)∧w.grownBy w' v.ownBlock:=by
 obtain ⟨hl,A,c,rfl,_,_,hc⟩:=hr
 rcases Pg m with h0 | h0
 ·subst h0
  have hn:news=[]:=Ps (by simpa using hl)
  subst hn
  cases A with
  | none=>exact ⟨v,w,ziC w base t ty e i size ht hi v n xs H2 c,by simpa using H2,⟨rfl,rfl,rfl,xN _,fun _ _ _=>rfl⟩⟩
  | some ad =>
   obtain ⟨v',w',H6,h2,h3,_⟩:=run_append_own (P:=P) w base t ty e i z size bytes ht hi hz H8 Hn Ho Hg v n xs H2 ad 0 c [] hl (by simp) h1 Hm H5 H3
   exact ⟨v',w',H6,h2,h3⟩
 ·obtain ⟨b,Hl,rfl,Hf⟩:=hc h0
  have Hj:∀ j,(⟨b,Hl,H⟩:Addr).add j=⟨b,Hl+j,H⟩:=by intro j;unfold Addr.add;split <;> simp_all
  obtain ⟨v',w',H6,h2,h3,_⟩:=run_append_own (P:=P) w base t ty e i z size bytes ht hi hz H8 Hn Ho Hg v n xs H2 ⟨b,Hl,H⟩ m c news hl (fun j u hu=>by rw[Hj];exact Hf j u hu) h1 Hm H5 H3
  exact ⟨v',w',H6,h2,h3⟩
theorem zaC {ops:Array Oper} {rest:List Oper} {o:Oper} {a:Act} {Q:Exit→Act→World→Prop} (Hq:o.guard=none) (s x:Operand) (t:TypeId)
  (ho:o.op=.call { callee:=.builtin .append,args:=#[s,x],argTypes:=#[t,t] })
  (base:Nat) (e:TypeId) (i:TypeInfo) (z:Value) (size bytes:Nat) (ht:P.underlying t=C (.slice e)) (hi:P.info? e=C i) (hz:i.zero=C z)
  (H8:i.size=size) (Hn:i.bytes=bytes) (Ho:z.cells.size=size) (Hg:0<size)
  (v:Value) (n:Nat) (xs:List Value) (hs:a.eval s=v) (H2:w.ownsRow base e size v n xs)
  (vx:Value) (m:Nat) (news:List Value) (hx:a.eval x=vx) (hr:SlR w size vx m news) (h1:∀ u∈news,u.oneCell'=true)
  (Hm:n+m≤maxLen) (H5:(n+m)*bytes≤140737488355328) (H3:base≤w.heap.size)
  (h:∀ v' w',w'.ownsRow base e size v' (n+m) (xs++news)→w.grownBy w' v.ownBlock→wpList P ops Q rest (a.put o.dst v') w'):wpList P ops Q (o::rest) a w:=by
 refine wpList_plain Hq fun K hK=>?_
 obtain ⟨v',w',H6,h2,h3⟩:=zbD (P:=P) w base t o.type e i z size bytes ht hi hz H8 Hn Ho Hg v n xs H2 vx m news hr h1 Hm H5 H3;unfold Q3 execOp;simp only[ho,resolve,invoke,builtin,Q5,Q4,Pm,Pr,Pv,Pw,hs,hx,H6]
 exact hK _ _ (h v' w' h2 h3)
theorem zb9 {F:Fence} {nf:Nat} {ops:Array Oper} {rest:List Oper} {o:Oper} {a:Act} {Q:Exit→Act→World→Prop} (Hq:o.guard=none) (s x:Operand) (t:TypeId)
  (ho:o.op=.call { callee:=.builtin .append,args:=#[s,x],argTypes:=#[t,t] })
  (base:Nat) (e:TypeId) (i:TypeInfo) (z:Value) (size bytes:Nat) (ht:P.underlying t=C (.slice e)) (hi:P.info? e=C i) (hz:i.zero=C z)
  (H8:i.size=size) (Hn:i.bytes=bytes) (Ho:z.cells.size=size) (Hg:0<size)
  (v:Value) (n:Nat) (xs:List Value) (hs:a.eval s=v) (H2:w.ownsRow base e size v n xs)
  (vx:Value) (m:Nat) (news:List Value) (hx:a.eval x=vx) (hr:SlR w size vx m news) (h1:∀ u∈news,u.oneCell'=true)
  (Hm:n+m≤maxLen) (H5:(n+m)*bytes≤140737488355328) (H3:base≤w.heap.size)
  (h:∀ v' w',w'.ownsRow base e size v' (n+m) (xs++news)→w.grownBy w' v.ownBlock→wpListIn F nf P ops Q rest (a.put o.dst v') w'):wpListIn F nf P ops Q (o::rest) a w:=by
 refine wpListIn_plain Hq fun K hK=>?_
 obtain ⟨v',w',H6,h2,h3⟩:=zbD (P:=P) w base t o.type e i z size bytes ht hi hz H8 Hn Ho Hg v n xs H2 vx m news hr h1 Hm H5 H3
 have HP:o.semAt F.round a.eval=execOp a.eval o:=by
  cases hr:F.round with
  | none=>rw[Oper.semAt_none]
  | some l=>exact Q2 l _ o (by rw[ho];intro c hc;cases hc)
 unfold Oper.wpIn
 refine ⟨?_,?_⟩
 ·intro f hf
  simp[Oper.about,ho,resolve,Target.leads,go_sem] at hf
 ·rw[HP]
  unfold execOp;simp only[ho,resolve,invoke,builtin,Q5,Q4,Pm,Pr,Pv,Pw,hs,hx,H6]
  exact hK _ _ (h v' w' h2 h3)
end
open Go.RowKit
section
variable {F:Fence} {n:Nat} {P:Program} {a:Act} {w:World} {Q:Exit→Act→World→Prop}
theorem zar {L:List Nat} {J:Nat→Act→World→Prop} {l:Nat} (h:l∈L) (hj:J l a w):Exit.jumps L J Q (.goto l) a w:=.inl ⟨h,hj⟩
theorem za5 {L:List Nat} {J:Nat→Act→World→Prop} (h:Q .ret a w):Exit.jumps L J Q .ret a w:=h
theorem zjl {c:Code} (L:List Nat) (J:Nat→Act→World→Prop) (μ:Nat→Act→World→Nat) (hL:∀ l,l ∉ L→findLabel c l=none) (hS:∀ l,l∈L→(findLabel c l).isSome=true)
  (first:c.wpIn F n P (Exit.jumps L J Q) a w)
  (pass:∀ l rest,l∈L→findLabel c l=C rest→∀ a w,J l a w→rest.wpIn F n P (Exit.jumps L (fun l' a' w'=>J l' a' w'∧μ l' a' w' < μ l a w) Q) a w):(Pa c).wpIn F n P Q a w:=by
 intro b k cs Kb hb hr
 have K6:∀ l rest,findLabel c l=C rest→gotoIn l (.inScope c::k)=C (.code rest::.inScope c::k):=fun l rest hf=>by simp[gotoIn,hf]
 have HN:∀ l,findLabel c l=none→gotoIn l (.inScope c::k)=gotoIn l k:=fun l hf=>by simp[gotoIn,hf]
 have hx:∀ id,exitTo id (.inScope c::k)=exitTo id k:=fun id=>by simp[exitTo]
 have Ja:∀ {a w},StepsIn (P1 P F) P (lone (b.atR a (.inScope c::k)) cs w) (lone (b.atR a k) cs w):=fun {a w} =>
  .one (fenced_calm (fr:=b.atR a (.inScope c::k)) hb hr rfl) (step_lone_go (by simp[stepG,stepG.exec,Frame.atR]))
 have s0:∀ {a w},StepsIn (P1 P F) P (lone (b.atR a (.code (.scope c)::k)) cs w) (lone (b.atR a (.code c::.inScope c::k)) cs w):=fun {a w} =>
  .one (fenced_calm (fr:=b.atR a (.code (.scope c)::k)) hb hr rfl) (step_lone_go (by simp[stepG,stepG.exec,Frame.atR]))
 have H0:∀ {m:Machine} {e:Exit} {a₁:Act} {w₁:World},(∀ l,e≠.goto l)→ArrivesIn (P1 P F) P m b (.inScope c::k) cs e a₁ w₁→ArrivesIn (P1 P F) P m b k cs e a₁ w₁:=by
  intro m e a₁ w₁ Hk H1
  cases e with
  | normal=>exact StepsIn.trans H1 Ja
  | exit id=>exact ⟨fun k' hk=>H1.1 k' (by rw[hx];exact hk),fun HO hk=>H1.2 HO (by rw[hx];exact hk)⟩
  | goto l=>exact absurd rfl (Hk l)
  | ret=>exact H1
  | panic ch=>exact H1
  | outgrown=>exact H1
 have He:∀ {m:Machine} {l:Nat} {a₁:Act} {w₁:World},l ∉ L→ArrivesIn (P1 P F) P m b (.inScope c::k) cs (.goto l) a₁ w₁→ArrivesIn (P1 P F) P m b k cs (.goto l) a₁ w₁:=by
  intro m l a₁ w₁ hl H1;have e:=HN l (hL l hl)
  exact ⟨fun k' hk=>H1.1 k' (by rw[e];exact hk),fun HO hk=>H1.2 HO (by rw[e];exact hk)⟩
 have key:∀ j l rest a w,l∈L→findLabel c l=C rest→μ l a w=j→J l a w→∃ e a' w',Q e a' w'∧ArrivesIn (P1 P F) P (lone (b.atR a (.code rest::.inScope c::k)) cs w) b k cs e a' w':=by
  intro j
  induction j using Nat.strongRecOn with
  | _ j ih =>
   intro l rest a w hl hf hn hJ;obtain ⟨e,a₁,w₁,hq,H1⟩:=pass l rest hl hf a w hJ b (.inScope c::k) cs Kb hb hr
   cases e with
   | goto l' =>
    rcases hq with ⟨hl',hJ',hlt⟩ | ⟨hl',hq⟩
    ·obtain ⟨H9,Hi⟩:=Option.isSome_iff_exists.1 (hS l' hl')
     obtain ⟨e₂,a₂,w₂,hq₂,harr₂⟩:=ih _ (by omega) l' H9 a₁ w₁ hl' Hi rfl hJ'
     exact ⟨e₂,a₂,w₂,hq₂,.of_steps (H1.1 _ (K6 l' H9 Hi)) harr₂⟩
    ·exact ⟨_,a₁,w₁,hq,He hl' H1⟩
   | normal=>exact ⟨.normal,a₁,w₁,hq,H0 (by simp) H1⟩
   | exit id=>exact ⟨.exit id,a₁,w₁,hq,H0 (by simp) H1⟩
   | ret=>exact ⟨_,a₁,w₁,hq,H0 (by simp) H1⟩
   | panic ch=>exact ⟨_,a₁,w₁,hq,H0 (by simp) H1⟩
   | outgrown=>exact ⟨_,a₁,w₁,hq,H0 (by simp) H1⟩
 obtain ⟨e,a₁,w₁,hq,H1⟩:=first b (.inScope c::k) cs Kb hb hr
 cases e with
 | goto l' =>
  rcases hq with ⟨hl',hJ'⟩ | ⟨hl',hq⟩
  ·obtain ⟨H9,Hi⟩:=Option.isSome_iff_exists.1 (hS l' hl')
   obtain ⟨e₂,a₂,w₂,hq₂,harr₂⟩:=key _ l' H9 a₁ w₁ hl' Hi rfl hJ'
   exact ⟨e₂,a₂,w₂,hq₂,.of_steps (s0.trans (H1.1 _ (K6 l' H9 Hi))) harr₂⟩
  ·exact ⟨_,a₁,w₁,hq,.of_steps s0 (He hl' H1)⟩
 | normal=>exact ⟨.normal,a₁,w₁,hq,.of_steps s0 (H0 (by simp) H1)⟩
 | exit id=>exact ⟨.exit id,a₁,w₁,hq,.of_steps s0 (H0 (by simp) H1)⟩
 | ret=>exact ⟨_,a₁,w₁,hq,.of_steps s0 (H0 (by simp) H1)⟩
 | panic ch=>exact ⟨_,a₁,w₁,hq,.of_steps s0 (H0 (by simp) H1)⟩
 | outgrown=>exact ⟨_,a₁,w₁,hq,.of_steps s0 (H0 (by simp) H1)⟩
theorem zgK {c rest:Code} (l:Nat) (J:Act→World→Prop) (μ:Act→World→Nat) (hf:findLabel c l=C rest) (hL:∀ l',l'≠l→findLabel c l'=none)
  (first:c.wpIn F n P (Exit.jumps [l] (fun _=>J) Q) a w)
  (pass:∀ a w,J a w→rest.wpIn F n P (Exit.jumps [l] (fun _ a' w'=>J a' w'∧μ a' w' < μ a w) Q) a w):(Pa c).wpIn F n P Q a w :=
 zjl [l] (fun _=>J) (fun _=>μ) (fun l' h=>hL l' (by simpa using h)) (fun l' h=>by have e:l'=l:=(by simpa using h);rw[e,hf];rfl) first
  (fun l' H9 h Hi a w hJ=>by
    have e:l'=l:=by simpa using h
    rw[e,hf] at Hi
    cases Hi
    exact pass a w hJ)
theorem zgL {x rest:Code} (l:Nat) (J:Act→World→Prop) (μ:Act→World→Nat) (hf:findLabel (P9 x (P9 (Pb l) rest)) l=C (P9 Pc rest)) (hL:∀ l',l'≠l→findLabel (P9 x (P9 (Pb l) rest)) l'=none)
  (first:x.wpIn F n P (Exit.then J (fun _ _ _=>False)) a w)
  (pass:∀ a w,J a w→rest.wpIn F n P (Exit.jumps [l] (fun _ a' w'=>J a' w'∧μ a' w' < μ a w) Q) a w):(Pa (P9 x (P9 (Pb l) rest))).wpIn F n P Q a w:=by
 have HG:∀ e a w a₀ w₀,Exit.jumps [l] (fun _ a' w'=>J a' w'∧μ a' w' < μ a₀ w₀) Q e a w→Exit.jumps [l] (fun _=>J) Q e a w:=by
  intro e a w a₀ w₀ h
  cases e with
  | goto l'=>rcases h with ⟨h1,h2,_⟩ | h;exact .inl ⟨h1,h2⟩;exact .inr h
  | normal=>exact h
  | exit id=>exact h
  | ret=>exact h
  | panic ch=>exact h
  | outgrown=>exact h
 refine zgK l J μ hf hL (wpIn_seq (wpIn_mono first ?_)) (fun a w h=>wpIn_seq (wpIn_skip (pass a w h)))
 intro e a w h
 cases e with
 | normal=>exact wpIn_seq (wpIn_label (wpIn_mono (pass a w h) (fun e a' w' h'=>HG e a' w' a w h')))
 | goto l'=>exact h.elim
 | exit id=>exact h.elim
 | ret=>exact h.elim
 | panic ch=>exact h.elim
 | outgrown=>exact h.elim
theorem zcX {c rest:Code} (l:Nat) (J:Act→World→Prop) (μ:Act→World→Nat) (hf:findLabel c l=C (P9 Pc rest)) (hL:∀ l',l'≠l→findLabel c l'=none)
  (first:(∀ a w,J a w→rest.wpIn F n P (Exit.jumps [l] (fun _=>J) Q) a w)→c.wpIn F n P (Exit.jumps [l] (fun _=>J) Q) a w)
  (pass:∀ a w,J a w→rest.wpIn F n P (Exit.jumps [l] (fun _ a' w'=>J a' w'∧μ a' w' < μ a w) Q) a w):(Pa c).wpIn F n P Q a w:=by
 refine zgK l J μ hf hL (first (fun a w h=>wpIn_mono (pass a w h) ?_)) (fun a w h=>wpIn_seq (wpIn_skip (pass a w h)))
 intro e a' w' h
 cases e with
 | goto l'=>rcases h with ⟨h1,h2,_⟩ | h;exact .inl ⟨h1,h2⟩;exact .inr h
 | normal=>exact h
 | exit id=>exact h
 | ret=>exact h
 | panic ch=>exact h
 | outgrown=>exact h
theorem zbh {ro:Option Nat} {o:Oper} {a:Act} {next:Act→World→Prop} {Q:Exit→Act→World→Prop} {l:Nat} {av:Array Value} {W:World} {R:Ending→World→Prop}
  (hy:YieldsAt P l av W R) (h:∀ e W',R e W'→∃ b,e=.returned (S b)∧next (a.put o.dst (S b)) W') :
  o.uponIn (Wd ro) n P a next Q ((Instr.yield l av).run P W):=by
 obtain ⟨fn,tmps,assign,body,H6,hR⟩:=hy;rw[H6]
 refine ⟨fun h=>by simp[Fence.wide] at h,(zjU (n:=n-1) hR).mono ?_⟩
 intro e W' hr;obtain ⟨b,rfl,hn⟩:=h e W' hr
 exact hn
end
end Go.Mv

namespace Go.Proofs.YteggfecbjgbndaaGreatDoor
open Go.RowKit Go.Mv Go.Shelf
theorem mcDigitsa0 {P:Prop} (h:P:=by
 all_goals refine HA.out _ _ _ _ ?_ ?_
 all_goals intro W' hj
 all_goals (try intro KU KV KW hs)
 all_goals clear c1 c2 c3 f3 b1 b2 b3 HS HT HU
 all_goals gi_wp2
 all_goals first
  | (refine za5 ?_
     refine bodyPost_ret (results_none rfl _ _ _) rfl ?_
     exact ⟨⟨_,rfl⟩,.inr ⟨_,HE.out,hj⟩⟩)
  | (refine za5 ?_
     refine bodyPost_ret (results_none rfl _ _ _) rfl ?_
     exact ⟨⟨_,rfl⟩,.inl (Hz.out _ hj (by have h:((k:Int)==0)=true:=(by assumption);simpa using h))⟩)
  | (have HK:0<k:=(by have h:((k:Int)==0)=false:=(by assumption);simp at h;omega)
     refine wpIn_goto ?_
     refine zar (by simp) ⟨?_,?_⟩
     ·rw[show ((k:Int)-1)=((k-1:Nat):Int) from by omega]
      exact ⟨k-1,_,false,_,_,_,_,_,_,_,_,_,_,_,_,_,_,_,_,_,_,_,_,_,_,_,_,_,_,_,_,_,_,_,_,_,_,⟨by omega,HB.out HK,hj,KU,KV,KW,hs⟩,rfl⟩
     ·simp[intOf];omega)):P:=h
attribute [local go_sem] Q2
def zaP (bits n:Nat):Bool→Nat→List UInt8
 | _,0=>[P0 (n % 2^bits)]
 | fewer,k+1=>if n / 2^(bits*(k+1))=0∧fewer=true then zaP bits n fewer k else P0 (n / 2^(bits*(k+1)) % 2^bits)::zaP bits n false k
theorem zeS (n:Int) (h₀:0≤n) (h₁:n<2^62):IntKind.i64.wrap n=n:=by rw[IntKind.wrap_i64];omega
theorem zpv (x:Int) (h₀:0≤x) (h₁:x<4611686018427387904):bits .and .i64 x 127=x % 128:=bits_mask .i64 62 (by decide) zeS 7 (by decide) x h₀ h₁
theorem zpw (x:Int) (h₀:0≤x) (h₁:x<4611686018427387904):bits .and .i64 x 255=x % 256:=bits_mask .i64 62 (by decide) zeS 8 (by decide) x h₀ h₁
theorem zgR (n:Nat):bv (P0 n)=B V ((n:Int) % 256):=by simp[bv]
theorem zuy (d:Nat) (hd:d≤1073741824):Pp .u8 (bits .and .i64 (d:Int) 127 % 256)=bv (P0 (d % 2^7)):=by
 rw[zpv _ (by omega) (by omega),zgR];simp
theorem zuz (d:Nat) (hd:d≤1073741824):Pp .u8 (bits .and .i64 (d:Int) 255 % 256)=bv (P0 (d % 2^8)):=by
 rw[zpw _ (by omega) (by omega),zgR];simp
theorem zuV (d:Nat) (hd:d=0):Pp .u8 (bits .and .i64 0 127 % 256)=bv (P0 (d % 2^7)):=by
 have:=zuy d (by omega);rw[hd] at this ⊢;exact this
theorem zuW (d:Nat) (hd:d=0):Pp .u8 (bits .and .i64 0 255 % 256)=bv (P0 (d % 2^8)):=by
 have:=zuz d (by omega);rw[hd] at this ⊢;exact this
theorem znw (bits n:Nat) (fw:Bool) (k:Nat) (h:¬ (n / 2^(bits*k)=0∧fw=true∧0<k)) :
  ∃ Hc,zaP bits n fw k=P0 (n / 2^(bits*k) % 2^bits)::Hc∧(0<k→Hc=zaP bits n false (k-1))∧(k=0→Hc=[]):=by
 cases k with
 | zero=>exact ⟨[],by simp[zaP],fun h=>absurd h (by omega),fun _=>rfl⟩
 | succ k =>
  refine ⟨zaP bits n false k,?_,fun _=>rfl,fun h=>absurd h (by omega)⟩
  rw[zaP,if_neg]
  intro ⟨h1,h2⟩
  exact h ⟨h1,h2,by omega⟩
def DgR (bits n many:Nat) (fewer:Bool) (bm bn bb bf l N:Nat) (J:List UInt8→World→Prop) (a:Act) (w:World):Prop :=
 ∃ (k:Nat) (H7:List UInt8) (fw:Bool) (u7 u8 u9 Kf Kg Kh Ki Kj Kk Kl Km Kn Ko Kp Kq Kr Ks Kt Ku Kv Kw Kx Ky Kz KA KC KD KE KF KH KI KJ KK KL:Value),
   (k<many∧Hid (zaP bits n fewer (many-1)=H7++zaP bits n fw k)∧J H7 w∧Boxed w bn 3 (B G n)∧Boxed w bb 3 (B G bits)∧Boxed w bf 4 (S fw)∧N≤w.heap.size) ∧
   a=⟨#[.func (.yield l) #[] #[],O (C ⟨bm,0,H⟩),O (C ⟨bn,0,H⟩),O (C ⟨bb,0,H⟩),O (C ⟨bf,0,H⟩),undef,B G k,u7,u8,u9,Kf,Kg,Kh,Ki,Kj,Kk,Kl,Km,Kn,Ko,Kp,Kq,Kr,Ks,Kt,Ku,Kv,Kw,Kx,Ky,Kz,KA,KC,KD,KE,KF,KH,KI,KJ,KK,KL],[]⟩
theorem zny (bits n many:Nat) (fewer:Bool) (hb:bits=7∨bits=8) (hn:n≤1073741824) (hm:1≤many) (Jh:many≤5) (bm bn bb bf:Nat) (Hk:bf≠bn) (HM:bf≠bb) (W0:World)
  (HX:Boxed W0 bm 3 (B G many)) (HY:Boxed W0 bn 3 (B G n)) (HZ:Boxed W0 bb 3 (B G bits)) (K0:Boxed W0 bf 4 (S fewer)) :
  Seq E 222 #[O (C ⟨bm,0,H⟩),O (C ⟨bn,0,H⟩),O (C ⟨bb,0,H⟩),O (C ⟨bf,0,H⟩)]
   (fun (d:UInt8) av _=>av = #[bv d]) (fun k o=>((k=bn∨k=bb)∧o.ty=C 3)∨(k=bf∧o.ty=C 4)) (fun k o=>k=bf∧o.ty=C 4) (zaP bits n fewer (many-1)) W0:=by
 intro l J Jx hJ Jb hY h0
 refine (callsIn_wd (ro:=none) (n:=9)).1 ?_
 refine callsIn_of_wp Tryz.func222 rfl trivial ?_ rfl
 simp only[Tryz.ntmps222,Py,xC,Q1,Pj,Pi,Q7,Q6,Pz,Px,xI,Q0]
 refine zgL 0 (DgR bits n many fewer bm bn bb bf l W0.heap.size J) (fun a _=>(intOf (a.tmps.getD 6 undef)).toNat) rfl (fun l' h=>by cases l' <;> first | exact absurd rfl h | rfl) ?_ ?_
 ·have J0:=HX.cell
  gi_wp2
  have e:((many:Int)-1)=((many-1:Nat):Int):=by omega
  rw[e]
  exact ⟨many-1,[],fewer,_,_,_,_,_,_,_,_,_,_,_,_,_,_,_,_,_,_,_,_,_,_,_,_,_,_,_,_,_,_,_,_,_,_,⟨by omega,rfl,h0,HY,HZ,K0,xN _⟩,rfl⟩
 ·intro a w hR
  obtain ⟨k,H7,fw,u7,u8,u9,Kf,Kg,Kh,Ki,Kj,Kk,Kl,Km,Kn,Ko,Kp,Kq,Kr,Ks,Kt,Ku,Kv,Kw,Kx,Ky,Kz,KA,KC,KD,KE,KF,KH,KI,KJ,KK,KL,⟨hk,HD,K1,b1,b2,b3,Hg⟩,rfl⟩:=hR;have c1:=b1.cell;have c2:=b2.cell;have c3:=b3.cell;have f3:=b3.frozen;clear HX HY HZ K0 h0
  have J4:Moves (zac (fun k o=>k=bf∧o.ty=C 4) W0.heap.size) w (w.setCell ⟨bf,0,H⟩ (S false)) :=
   Moves.refl.setCell (fun o ho _=>.inl ⟨rfl,by rw[show w.heap[bf]?=_ from b3] at ho;cases ho;rfl⟩) _
  have KY:=hJ _ _ _ K1 J4
  have HS:Boxed (w.setCell ⟨bf,0,H⟩ (S false)) bn 3 (B G n):=b1.other (Ne.symm Hk) _
  have HT:Boxed (w.setCell ⟨bf,0,H⟩ (S false)) bb 3 (B G bits):=b2.other (Ne.symm HM) _
  have HU:Boxed (w.setCell ⟨bf,0,H⟩ (S false)) bf 4 (S false):=b3.set _
  have Hs:W0.heap.size≤(w.setCell ⟨bf,0,H⟩ (S false)).heap.size:=by simpa [World.setCell] using Hg
  have Hp:n / 2^(bits*k)≤1073741824:=Pk (Nat.div_le_self _ _) hn
  by_cases hskip:n / 2^(bits*k)=0∧fw=true∧0<k
  ·obtain ⟨HI,rfl,HK⟩:=hskip
   have hz:((n:Int) / 2^(bits*k))=0:=by exact_mod_cast HI
   have KM:=U HI
   have Jg:decide (0<k)=true:=by simpa using HK
   clear HI
   rcases hb with rfl | rfl
   all_goals
    gi_wp2
    refine wpIn_goto ?_
    simp only[Exit.then]
    refine zar (by simp) ⟨?_,?_⟩
    ·rw[show ((k:Int)-1)=((k-1:Nat):Int) from by omega]
     refine ⟨k-1,H7,true,_,_,_,_,_,_,_,_,_,_,_,_,_,_,_,_,_,_,_,_,_,_,_,_,_,_,_,_,_,_,_,_,_,_,⟨by omega,?_,K1,b1,b2,b3,Hg⟩,rfl⟩
     have hD:=HD.out
     rw[show k=(k-1)+1 from by omega,zaP,if_pos ⟨by rw[show k-1+1=k from by omega];exact KM.out,rfl⟩] at hD
     exact hD
    ·simp[intOf];omega
  ·obtain ⟨Hc,hp,K9,Ka⟩:=znw bits n fw k hskip
   have hD:=HD.out;rw[hp] at hD;have hy:=hY H7 _ Hc hD _ #[bv (P0 (n / 2^(bits*k) % 2^bits))] KY Hs rfl;have KN:=U K9;have KO:=U Ka;have Hy:=U hD;have Hh:=U hskip;clear hp hD HD K9 Ka hskip hY
   have key:∀ (o:Oper) (a:Act) (next:Act→World→Prop) (Q:Exit→Act→World→Prop),
     (∀ W':World,J (H7++[P0 (n / 2^(bits*k) % 2^bits)]) W'→Boxed W' bn 3 (B G n)→Boxed W' bb 3 (B G bits)→Boxed W' bf 4 (S false)→W0.heap.size≤W'.heap.size→next (a.put o.dst (S true)) W') →
     (∀ W':World,Jx (H7++[P0 (n / 2^(bits*k) % 2^bits)]) W'→next (a.put o.dst (S false)) W') →
     o.uponIn (Wd none) 9 E a next Q ((Instr.yield l #[bv (P0 (n / 2^(bits*k) % 2^bits))]).run E (w.setCell ⟨bf,0,H⟩ (S false))):=by
    intro o a next Q h1 h2
    refine zbh hy ?_
    rintro e W' ⟨Hw,⟨rfl,hj⟩ | ⟨rfl,hj⟩⟩
    ·exact ⟨true,rfl,h1 W' hj (Hw.boxed HS (.inl (.inl ⟨.inl rfl,rfl⟩))) (Hw.boxed HT (.inl (.inl ⟨.inr rfl,rfl⟩))) (Hw.boxed HU (.inl (.inr ⟨rfl,rfl⟩))) (Pk Hs Hw.size)⟩
    ·exact ⟨false,rfl,h2 W' hj⟩
   have HA:=U key
   have Hr:H7++[P0 (n / 2^(bits*k) % 2^bits)] <+: zaP bits n fewer (many-1):=by
    rw[Hy.out];exact ⟨Hc,by simp⟩
   clear key hy
   have fin:∀ W':World,J (H7++[P0 (n / 2^(bits*k) % 2^bits)]) W'→k=0→J (zaP bits n fewer (many-1)) W':=by
    intro W' hj h0
    rw[Hy.out,KO.out h0];exact hj
   have Hz:=U fin;have HE:=U Hr
   have Ke:0<k→zaP bits n fewer (many-1)=(H7++[P0 (n / 2^(bits*k) % 2^bits)])++zaP bits n false (k-1):=by
    intro h0
    rw[Hy.out,KN.out h0];simp
   have HB:=U Ke;clear fin Hr Ke
   rcases hb with rfl | rfl
   ·have e1:((n:Int) / 2^(7*k))=((n / 2^(7*k):Nat):Int):=by simp
    have E1:=U e1;clear e1
    gi_wp2
    all_goals first
     | (exfalso;refine Hh.out ⟨?_,by assumption,by assumption⟩;exact_mod_cast (by assumption:((n:Int) / 2^(7*k))=0))
     | (rw[zuV (n / 2^(7*k)) (by exact_mod_cast (by assumption:((n:Int) / 2^(7*k))=0))])
     | (rw[E1.out,zuy _ Hp])
    all_goals exact mcDigitsa0
   ·have e1:((n:Int) / 2^(8*k))=((n / 2^(8*k):Nat):Int):=by simp
    have E1:=U e1;clear e1
    gi_wp2
    all_goals first
     | (exfalso;refine Hh.out ⟨?_,by assumption,by assumption⟩;exact_mod_cast (by assumption:((n:Int) / 2^(8*k))=0))
     | (rw[zuW (n / 2^(8*k)) (by exact_mod_cast (by assumption:((n:Int) / 2^(8*k))=0))])
     | (rw[E1.out,zuz _ Hp])
    all_goals exact mcDigitsa0
def zgh (w:World) (n bits many:Nat) (fewer:Bool):World :=
 (((w.alloc (T #[B G n] 3)).alloc (T #[B G bits] 3)).alloc (T #[B G many] 3)).alloc (T #[.bool fewer] 4)
def zuA (N:Nat):Value:=.func (.func 222) #[] #[O (C ⟨N+2,0,H⟩),O (C ⟨N,0,H⟩),O (C ⟨N+1,0,H⟩),O (C ⟨N+3,0,H⟩)]
theorem zpe (n bits many:Nat) (fewer:Bool) (w:World) :
  Calls E 182 #[B G n,B G bits,B G many,S fewer] w fun e w'=>e=.returned (zuA w.heap.size)∧zgh w n bits many fewer=w':=by
 go_enter Tryz.func182,Tryz.ntmps182
 go_wp2
 go_ret
 exact ⟨rfl,rfl⟩
theorem zjF (w:World) (n bits many:Nat) (fewer:Bool):(zgh w n bits many fewer).heap.size=w.heap.size+4 ∧
  Boxed (zgh w n bits many fewer) w.heap.size 3 (B G n)∧Boxed (zgh w n bits many fewer) (w.heap.size+1) 3 (B G bits) ∧
  Boxed (zgh w n bits many fewer) (w.heap.size+2) 3 (B G many)∧Boxed (zgh w n bits many fewer) (w.heap.size+3) 4 (S fewer)∧Ext w (zgh w n bits many fewer):=by
 have h1:=Pn w 3 (B G n);have h2:=Pn (w.alloc (T #[B G n] 3)) 3 (B G bits);have h3:=Pn ((w.alloc (T #[B G n] 3)).alloc (T #[B G bits] 3)) 3 (B G many);have h4:=Pn (((w.alloc (T #[B G n] 3)).alloc (T #[B G bits] 3)).alloc (T #[B G many] 3)) 4 (S fewer);simp only[xS] at h2 h3 h4
 exact ⟨by simp[zgh],((h1.alloc _).alloc _).alloc _,(h2.alloc _).alloc _,h3.alloc _,h4,(((xR w).alloc _).alloc _).alloc _ |>.alloc _⟩
attribute [local go_sem] Q2
theorem zb0:(Tryz.prog.info? 5).map (fun i=>(i.zero,i.size,i.bytes))=C (some (B V 0),1,1):=by kernel_rfl
theorem zrX (d:UInt8):bits .or .u8 (d.toNat:Int) 128=((d ||| 128).toNat:Int):=by
 have h:=(bits_nat .u8 8 (by decide) wraps_u8 d.toNat 128 d.toNat_lt (by decide)).2
 have e:((128:Nat):Int)=128:=rfl
 rw[e] at h;rw[h]
 simp
theorem zqh (d:UInt8):bits .and .u8 (d.toNat:Int) 127=((d &&& 127).toNat:Int):=by
 have h:=(bits_nat .u8 8 (by decide) wraps_u8 d.toNat 127 d.toNat_lt (by decide)).1
 have e:((127:Nat):Int)=127:=rfl
 rw[e] at h;rw[h]
 simp
def ztC (base:Nat) (w:World) (bs:List UInt8) (e:Ending) (w':World):Prop :=
 ∃ v',e=.returned v'∧w'.ownsRow base 5 1 v' bs.length (bs.map bv)∧Below base w w'
def ShI (base N:Nat) (w:World) (bs H7:List UInt8) (X:World):Prop :=
 ∃ v,Boxed X N 33 v∧X.ownsRow base 5 1 v (bs++H7.map (· ||| 128)).length ((bs++H7.map (· ||| 128)).map bv)∧Below base w X
theorem zjE (bits n:Nat) (fw:Bool) (k:Nat):1≤(zaP bits n fw k).length∧(zaP bits n fw k).length≤k+1:=by
 induction k generalizing fw with
 | zero=>simp[zaP]
 | succ k ih =>
  rw[zaP]
  split
  ·have:=ih fw;omega
  ·have:=ih false;simp;omega
theorem znx (bits n:Nat) (fw:Bool) (k:Nat):∃ hi,zaP bits n fw k=hi++[P0 (n % 2^bits)]:=by
 induction k generalizing fw with
 | zero=>exact ⟨[],rfl⟩
 | succ k ih =>
  rw[zaP]
  split
  ·exact ih fw
  ·obtain ⟨hi,h⟩:=ih false
   exact ⟨_::hi,by rw[h];rfl⟩
def zbC (n:Nat):List UInt8:=(zaP 7 n true 4).dropLast.map (· ||| 128)++[P0 (n % 128)]
theorem zoS (bs:List UInt8) (n:Nat) (hn:n≤1073741824) (vb:Value) (base:Nat) (w:World) (H2:w.ownsRow base 5 1 vb bs.length (bs.map bv)) (H3:base≤w.heap.size) (J3:bs.length+5≤1099511627776) :
  Calls E 181 #[vb,B G n] w (ztC base w (bs++zbC n)):=by
 obtain ⟨A,cc,rfl,_,_⟩:=xO (xW H2)
 refine (callsIn_wd (ro:=none) (n:=9)).1 ?_
 refine callsIn_of_wp_marks Tryz.func181 rfl trivial ?_ rfl
 simp only[Tryz.ntmps181,Py,xC,Q1,Pj,Pi,Q7,Q6,Pz,Px,xI,Q0]
 gi_wp2_with (refine ⟨trivial,?_⟩;gi_at_call 182;refine (callsIn_wd.2 (zpe n 7 5 true _)).mono ?_;rintro e w' ⟨rfl,rfl⟩)
 have hN:w.heap.size+5=(zgh (w.alloc (Obj.cells #[Po A bs.length cc] 33)) n 7 5 true).heap.size:=by rw[(zjF _ n 7 5 true).1];simp
 obtain ⟨_,q1,q2,q3,q4,qe⟩:=zjF (w.alloc (Obj.cells #[Po A bs.length cc] 33)) n 7 5 true
 generalize zgh (w.alloc (Obj.cells #[Po A bs.length cc] 33)) n 7 5 true=w2 at *
 simp only[xS] at q1 q2 q3 q4
 have h0:ShI base w.heap.size w bs [] w2:=by
  refine ⟨_,(Pn w _ _).kept (W':=w2) (row:=none) (Pl qe none) (by simp),?_,?_⟩
  ·have h1:=H2.alloc (Obj.cells #[Po A bs.length cc] 33)
   simpa using h1.kept (w':=w2) (row:=none) (Pl qe none) (by cases A <;> simp[Pq])
  ·exact (((Below.refl base w).alloc H3 _).trans (qe.mono (by simp;omega)))
 refine zcy (a:=⟨_,_⟩) rfl (enters_of Tryz.func222 (by kernel_rfl) rfl)
  (fun W1 hb _=>zny 7 n 5 true (.inl rfl) hn (by omega) (by omega) (w.heap.size+1+2) (w.heap.size+1) (w.heap.size+1+1) (w.heap.size+1+3) (by omega) (by omega) W1
    (q3.kept (row:=none) (Pl hb none) (by simp)) (q1.kept (row:=none) (Pl hb none) (by simp))
    (q2.kept (row:=none) (Pl hb none) (by simp)) (q4.kept (row:=none) (Pl hb none) (by simp)))
  (fun k o h=>zce h.2) (fun k o h=>by rcases h with h | h <;> exact zce h.2) (fun x av W h=>by rw[h];rfl)
  (ShI base w.heap.size w bs) (fun _ _ _=>False) ?hI (fun _ _ _ _ h _=>h) h0
  (fun x a' _=>a'=⟨#[I A bs.length cc,B G n,O (C ⟨w.heap.size,0,H⟩),undef,I none 0 0,B V x.toNat,B G n,zuA (w.heap.size+1),B V x.toNat,undef,undef,undef,undef,undef,undef,undef,undef,undef,undef,undef,undef,undef,undef],[]⟩)
  (fun _ _ _ _ h _=>h) ?assign ?body ?done ?stop
 case hI =>
  rintro s X Y ⟨v,hv,hr,hB⟩ hm
  refine ⟨v,hm.boxed hv ?_,hm.ownsRow hr ?_,hm.belowOf hB ?_ H3⟩
  ·rintro (h | h)
   ·have:=h.1;omega
   ·cases h.2
  ·rintro k HV _ (h | h)
   ·cases h.2
   ·cases h.2
  ·rintro k o hk (h | h)
   ·have:=h.1;omega
   ·have:=h.1;omega
 case assign =>
  rintro l H7 x Hc W av K' hx hi Hg rfl hK;simp only[bv]
  gi_wp2
  exact hK _ _ Kept.refl hi rfl
 case body =>
  rintro l H7 x Hc a' W hx hl hr ⟨v,hv,H4,hB⟩ Hg rfl
  have hm:(bs++Pu (fun x=>x ||| 128) H7).length=bs.length+H7.length:=by simp
  rw[hm] at H4;obtain ⟨A',c',rfl,_,_⟩:=xO (xW H4)
  have Ji:H7.length≤4:=by
   have:=congrArg List.length hx
   have:=zjE 7 n true 4
   simp at *;omega
  obtain ⟨i0,hi,Ht,Hu,Hv⟩:=info_parts zb0;have hc:=hv.cell;have Jj:=zrX x;have Hk:=hv.not_row (e:=5) (by decide) H4
  gi_wp2_with (gi_at_builtin;refine wpListIn_append_own _ rfl (.tmp 9) (.tmp 12) 33 rfl base 5 i0 (B V 0) 1 1 Tryz.underlying33 hi Ht Hu Hv rfl (by decide) (I A' (bs.length+H7.length) c') (bs.length+H7.length) ((bs++Pu (fun x=>x ||| 128) H7).map bv) rfl (H4.alloc _) ⟨W.heap.size,0,H⟩ 1 1 [B V ((x ||| 128).toNat:Int)] rfl rfl (cell_one_new _ _ _) (by simp[Value.oneCell']) (by simp[maxLen];omega) (by simp;omega) (by have:=hB.size;simp;omega) ?_;intro v' w1 Hb Ha _;obtain ⟨g',HF,rfl,_,_,_⟩:=zdL Hb (by omega);have Hx:=(hv.alloc _).kept Ha Hk;have J0:=Hx.cell;have Jf:=Hx.frozen)
  refine ⟨Kept.appended _ hv H4 Ha ?_ ?_,_,Hx.set _,?_,?_⟩
  ·rintro ((⟨_,h⟩ | ⟨_,h⟩) | ⟨_,h⟩) <;> cases h
  ·rintro k HV _ ((⟨_,h⟩ | ⟨_,h⟩) | ⟨_,h⟩) <;> cases h
  ·have h:=Hb.kept (grownBy_setCell' w1 w.heap.size (I (C ⟨g',0,H⟩) (bs.length+H7.length+1) HF)) (.inr (Hx.not_row (by decide) Hb).symm)
   simpa [bv,Nat.add_assoc] using h
  ·refine (((hB.alloc (by have:=hB.size;omega) _).grown Ha (by have:=hB.size;simp;omega) (fun k ek=>?_)).setCell (p:=⟨w.heap.size,0,H⟩) H3 _)
   exact (H4.lt k ek).1
 case done =>
  rintro D W hD ⟨v,hv,H4,hB⟩ hK;obtain ⟨hi,HJ⟩:=znx 7 n true 4
  have Kc:bs++zbC n=bs++hi.map (· ||| 128)++[P0 (n % 128)]:=by simp[zbC,HJ]
  have K8:(P0 (n % 2^7) ||| 128) &&& 127=P0 (n % 128):=by
   have h1:n % 2^7<128:=Nat.mod_lt _ (by decide)
   have h2:∀ m:Nat,m<128→(P0 m ||| 128) &&& 127=P0 m:=by decide
   exact h2 _ h1
  have hm:bs++Pu (fun x=>x ||| 128) (zaP 7 n true (5-1))=(bs++hi.map (· ||| 128))++[P0 (n % 2^7) ||| 128]:=by simp[HJ]
  rw[hm] at H4
  generalize bs++hi.map (· ||| 128)=ys at *
  generalize P0 (n % 2^7) ||| 128=z at *
  have Kd:(ys++[z]).length=ys.length+1:=by simp
  rw[Kd] at H4;obtain ⟨g,Hd,rfl,KZ,J2,HL⟩:=zdL H4 (by omega);have hc:=hv.cell;have hf:=H4.frozenAt ys.length
  have Je:W.cell? ⟨g,ys.length,H⟩=C (B V z.toNat):=by rw[H4.cellAt ys.length (by omega)];simp[bv]
  have KX:=zqh z;have KR:=U K8;have KT:=U Kc
  have Jc:w.heap.size≤w2.heap.size:=by omega
  clear K8 Kc hm Kd HJ h0 H2 q1 q2 q3 q4 qe hN
  have Hk:w.heap.size≠g:=fun e=>hv.not_row (e:=5) (by decide) H4 (by rw[e];rfl)
  have Jd:(W.setCell ⟨g,ys.length,H⟩ (B V ((z.toNat &&& 127:Nat):Int))).cell? ⟨w.heap.size,0,H⟩=C (I (C ⟨g,0,H⟩) (ys.length+1) Hd) :=
   (World.cell?_setCell_other _ _ _ _ (fun e=>Hk (by injection e with e1;exact e1.symm))).trans hc
  gi_wp2
  have J7:=(H4.stored ys.length (B V ((z.toNat &&& 127:Nat):Int))).1;have K2:=zaA hK rfl ⟨g,ys.length,H⟩ (B V ((z.toNat &&& 127:Nat):Int))
  refine zbO K2 _ (results_tmp rfl _ _ _) ⟨_,rfl,?_,?_⟩
  ·have h:=ownsRow_putObj J7 (.deferred none) K2 rfl
   have e:(Pu bv (ys++[z])).set ys.length (B V ((z.toNat &&& 127:Nat):Int))=Pu bv (ys++[P0 (n % 128)]):=by
    rw[←KR.out];simp[bv]
   rw[e] at h;rw[KT.out]
   simpa using h
  ·exact zaN (hB.setCell (p:=⟨g,ys.length,H⟩) KZ _) (by omega) _
 case stop =>
  rintro D c H7 W _ _ h _
  exact h.elim
end Go.Proofs.YteggfecbjgbndaaGreatDoor

namespace Go.Mv
open Go.RowKit
theorem zhu {P:Program} (w:World) (t ti ty e:TypeId) (i:TypeInfo) (z:Value) (ht:P.underlying t=C (.slice e)) (HQ:P.underlying ti=C (.int .i64)) (hi:P.info? e=C i) (hz:i.zero=C z)
  (HR:z.cells.size=1) (hs:i.size=1) (hb:i.bytes=1) (n:Nat) (h0:0<n) (HW:n≤140737488355328) :
  ∃ Hd w1,(P2 #[t,ti] ty #[I none 0 0,B G n]).run P w=.ok (I (C ⟨w.heap.size,0,H⟩) n Hd) w1∧n≤Hd∧Hd≤9223372036854775807 ∧
   w1.ownsRow w.heap.size e 1 (I (C ⟨w.heap.size,0,H⟩) 0 Hd) 0 []∧Ext w w1:=by
 have J1:=grownCap_ge w n 0 e
 have K3:grownCap w n 0 e≤maxLen:=grownCap_le_maxLen w n 0 e (by simp[maxLen];omega)
 have hw:IntKind.i64.wrap (n:Int)=n:=by rw[IntKind.wrap_i64];omega
 have hn:n≠0:=by omega
 have h1:¬ ((n:Int)<0):=by omega
 have h2:¬ (281474976710656<(n:Int)):=by omega
 have h3:¬ (9223372036854775807<(n:Int)):=by omega
 have HH:¬ (281474976710656<P6 n 0):=by rw[nextslicecap_zero h0];omega
 refine ⟨grownCap w n 0 e,w.drew.alloc (T (P4 z.cells n++P4 z.cells (grownCap w n 0 e-n)) e),?_,J1,by simpa [maxLen] using K3,?_,?_⟩
 ·simp[P2,run_underlying ht,run_underlying HQ,sizeOf,typeInfo,zeroValue,hi,hz,hs,hb,hw,h1,h2,asInt,asIntOf,P3,hn,h3,HH,Question.forced,newRow,grownCap]
 ·refine ⟨by simp,.inr ⟨w.heap.size,grownCap w n 0 e,_,rfl,xN _,heap_alloc_new w.drew _,Nat.zero_le _,K3,?_,by simp⟩⟩
  simp[size_zeroCells,HR];omega
 ·exact xA (xD (xR w)) _
theorem zgu {P:Program} (w:World) {ops:Array Oper} {rest:List Oper} {o:Oper} {a:Act} {Q:Exit→Act→World→Prop} (Hq:o.guard=none) (s x:Operand) (t ti:TypeId)
  (ho:o.op=.call { callee:=.builtin .append,args:=#[s,x],argTypes:=#[t,ti] })
  (e:TypeId) (i:TypeInfo) (z:Value) (ht:P.underlying t=C (.slice e)) (HQ:P.underlying ti=C (.int .i64)) (hi:P.info? e=C i) (hz:i.zero=C z)
  (HR:z.cells.size=1) (hs:i.size=1) (hb:i.bytes=1) (n:Nat) (h0:0<n) (HW:n≤140737488355328) (J8:a.eval s=I none 0 0) (J9:a.eval x=B G n)
  (h:∀ Hd w1,n≤Hd→Hd≤9223372036854775807→w1.ownsRow w.heap.size e 1 (I (C ⟨w.heap.size,0,H⟩) 0 Hd) 0 []→Ext w w1→wpList P ops Q rest (a.put o.dst (I (C ⟨w.heap.size,0,H⟩) n Hd)) w1) :
  wpList P ops Q (o::rest) a w:=by
 refine wpList_plain Hq fun K hK=>?_
 obtain ⟨Hd,w1,H6,h1,h2,h3,h4⟩:=zhu (P:=P) w t ti o.type e i z ht HQ hi hz HR hs hb n h0 HW;unfold Q3 execOp;simp only[ho,resolve,invoke,builtin,Q5,Q4,Pm,Pr,Pv,Pw,J8,J9,H6]
 exact hK _ _ (h Hd w1 h1 h2 h3 h4)
theorem zaE {P:Program} (w:World) (src dst e:TypeId) (hs:P.underlying src=C (.slice e)) (he:P.underlying e=C (.int .u8)) (hd:P.underlying dst=C .string) {v:Value} {bs:List UInt8} (h:Bs w v bs) :
  (convert src dst v).run P w=.ok (.string ⟨bs.toArray⟩) w:=by
 obtain ⟨_,A,c,rfl,_,_,hc⟩:=h
 cases A with
 | none =>
  have hb:bs=[]:=by
   cases bs with
   | nil=>rfl
   | cons b l=>obtain ⟨_,_,e,_⟩:=hc (by simp);cases e
  subst hb
  exact run_convert_bytes_nil w src e hs he 0 c dst hd
 | some a =>
  rcases Pg bs.length with h0 | h0
  ·have hb:bs=[]:=Ps h0
   subst hb
   exact run_convert_bytes_back w src dst e a c [] hs he hd (by simp)
  ·obtain ⟨b,Hl,e',Hf⟩:=hc h0
   cases e'
   refine run_convert_bytes_back w src dst e ⟨b,Hl,H⟩ c bs hs he hd (fun j hj=>?_)
   have Hj:(⟨b,Hl,H⟩:Addr).add j=⟨b,Hl+j,H⟩:=by unfold Addr.add;split <;> simp_all
   rw[Hj]
   exact Hf j _ (by simp[List.getElem?_eq_getElem hj,bv])
end Go.Mv
namespace Go.Proofs.YteggfecbjgbndaaGreatDoor
open Go.RowKit Go.Mv
def zhx (w:World) (bs:List UInt8) (e:Ending) (w':World):Prop:=∃ v',e=.returned v'∧w'.ownsRow w.heap.size 5 1 v' bs.length (bs.map bv)∧Ext w w'
theorem zhy (v:Value) (bs:List UInt8) (w:World) (h:Bs w v bs) (hl:bs.length≤140737488355328):Calls E 147 #[v] w (zhx w bs):=by
 obtain ⟨A,c,rfl,h1,h2⟩:=xO h;obtain ⟨i0,hi,Ht,Hu,Hv⟩:=info_parts zb0
 have J5:=fun (W:World)=>Lib.run_eql_slice_nil (P:=E) W
 cases A with
 | none =>
  have hb:bs=[]:=by
   cases hbs:bs with
   | nil=>rfl
   | cons b l =>
    have:=(SlR.at_ h (by rw[hbs];simp)).2
    obtain ⟨_,_,e,_⟩:=this
    cases e
  subst hb
  go_enter Tryz.func147,Tryz.ntmps147
  go_wp2
  go_ret
  exact ⟨_,rfl,World.ownsRow_nil _ _ _ _,xR _⟩
 | some a =>
  go_enter Tryz.func147,Tryz.ntmps147
  go_wp2_with (at_builtin;refine zaC _ rfl (.tmp 5) (.tmp 6) 33 rfl w.heap.size 5 i0 (B V 0) 1 1 Tryz.underlying33 hi Ht Hu Hv rfl (by decide) (I (C ⟨w.heap.size,0,H⟩) 0 0) 0 [] rfl (zaG w [] 5 0 rfl (by simp[maxLen]) (xN _)) _ bs.length (bs.map bv) rfl (SlR.ext h ((xR w).alloc _)) (zbI _) (by simp[maxLen];omega) (by omega) (by simp) ?_;intro v' w1 Hb Ha)
  go_ret
  refine ⟨_,rfl,by simpa using Hb,?_⟩
  refine Below.grown (xA (xR w) _) Ha (by simp) (fun k ek=>?_)
  have:w.heap.size=k:=by simpa [Pq] using ek
  omega
theorem zr5 (n:Nat) (w:World) (hl:n≤140737488355328):Calls E 281 #[I none 0 0,B G n] w (zhx w []):=by
 obtain ⟨i0,hi,Ht,Hu,Hv⟩:=info_parts zb0
 by_cases h0:n=0
 ·subst h0
  go_enter Tryz.func281,Tryz.ntmps281
  go_wp2
  go_ret
  exact ⟨_,rfl,World.ownsRow_nil _ _ _ _,xR _⟩
 ·go_enter Tryz.func281,Tryz.ntmps281
  go_wp2_with (at_builtin;refine zgu _ rfl (.tmp 20) (.tmp 21) 33 3 rfl 5 i0 (B V 0) Tryz.underlying33 Tryz.underlying3 hi Ht rfl Hu Hv n (by omega) hl rfl rfl ?_;intro Hd w1 K7 HL H2 hE)
  go_ret
  exact ⟨_,rfl,H2,hE⟩
end Go.Proofs.YteggfecbjgbndaaGreatDoor

namespace Go.Mv
open Go.RowKit
theorem znl (x:Nat) (h:x<18446744073709551616):bits .andNot .u64 (x:Int) 9223372036854775808=((x % 9223372036854775808:Nat):Int):=by
 have:=u64_andNot_nat x 9223372036854775808 h (by decide)
 rw[show ((9223372036854775808:Nat):Int)=9223372036854775808 from rfl] at this
 rw[this,show (18446744073709551615-9223372036854775808:Nat)=2^63-1 from rfl,Pe]
theorem zo0 (x:Nat) (h:x<9223372036854775808):bits .andNot .u64 (x:Int) 9218868437227405312=((x % 4503599627370496:Nat):Int):=by
 have:=u64_andNot_nat x 9218868437227405312 (by omega) (by decide)
 rw[show ((9218868437227405312:Nat):Int)=9218868437227405312 from rfl] at this
 rw[this]
 congr 1
 have K7:x &&& (18446744073709551615-9218868437227405312)≤x:=Nat.and_le_left
 rw[←Ph (Nat.lt_of_le_of_lt K7 h),show (9223372036854775808:Nat)=2^63 from rfl,Nat.and_mod_two_pow,Ph (by omega:x<2^63),show (18446744073709551615-9218868437227405312:Nat) % 2^63=2^52-1 from rfl,Pe]
theorem ztv (s:Bool) (n:Nat) (hn:n<9007199254740992):fb s n<18446744073709551616:=by
 have:=(zdH n hn).1
 unfold fb;split <;> omega
theorem zq1 (s:Bool) (n:Nat) (hn:n<9007199254740992):fb s n % 9223372036854775808=fb false n:=by
 have:=(zdH n hn).1
 unfold fb;cases s <;> simp <;> omega
theorem zuC (n:Nat) (hn:n<9007199254740992):fb false n<9218868437227405312:=(zdH n hn).1
theorem zrt (n:Nat) (hn:n<9007199254740992):(P8.format.order (fb false n) 9218868437227405311==C .gt)=false:=by
 show (P7.order _ _==_)=_
 obtain ⟨b,hb⟩:=zdC (zav false n hn)
 have hm:P7.read 9218868437227405311=.number false 9007199254740991 971:=by decide
 unfold Ieee.Format.order;rw[hb,hm];unfold Ieee.Datum.order;dsimp only
 have e0:min (-(b:Int)) 971 = -(b:Int):=by omega
 rw[e0,zgB,zbk,zbk]
 have e1:(-(b:Int) - -(b:Int)).toNat=0:=by omega
 have e2:(971 - -(b:Int)).toNat=b+971:=by omega
 rw[e1,e2];obtain ⟨q,hq⟩:∃ q,q=971:=⟨_,rfl⟩;rw[←hq]
 have h1:2^b*2≤2^(b+q):=by rw[←Nat.pow_succ];exact Pf (by decide) (by omega)
 have h2:n*2^b≤9007199254740991*2^b:=Pd _ (by omega)
 have h3:9007199254740991*2^b≤9007199254740991*2^(b+q):=Nat.mul_le_mul_left _ (by omega)
 unfold zak;simp only[Bool.false_eq_true,if_false,Nat.pow_zero,Nat.mul_one,decide_eq_false_iff_not];omega
theorem znK (n:Nat) (h0:0<n) (hn:n<9007199254740992):(P8.format.order (fb false n) 4503599627370496==C .lt)=false:=by
 show (P7.order _ _==_)=_
 obtain ⟨b,hb⟩:=zdC (zav false n hn)
 obtain ⟨q,hq,J6⟩:∃ q:Nat,-(q:Int) = -1074∧52≤q:=⟨1074,rfl,by decide⟩
 have hm:P7.read 4503599627370496=.number false (2^52) (-(q:Int)):=by rw[hq];decide
 unfold Ieee.Format.order;rw[hb,hm,zd3,zeL]
 have h1:2^52*2^b≤2^q*2^b:=Pd _ (Pf (by decide) J6)
 have h2:1*(2^b*2^q)≤n*(2^b*2^q):=Pd _ h0
 have h3:2^q*2^b=2^b*2^q:=Nat.mul_comm _ _
 rw[Nat.mul_assoc];unfold zak;simp only[Bool.false_eq_true,if_false,decide_eq_false_iff_not];omega
theorem zpH {x:Nat} {s:Bool} {n:Nat} (h:Fl x s n):(P8.format.order x x != some .eq)=false:=by
 show (P7.order _ _ != _)=_
 rw[zdt h h]
 simp only[bne,zeK];simp
theorem zeb (s:Bool) {n:Nat} (h0:0<n) {x:Nat} (h:Fl x s n):(P8.format.order x 0==C .eq)=false:=by
 show (P7.order _ _==_)=_
 rw[zdt h zdD,zeK]
 unfold zak;cases s <;> simp <;> omega
theorem zsE (n:Nat) (h0:0<n) (hn:n<9007199254740992):∃ f,f<4503599627370496∧n.log2≤52∧fb false n=(n.log2+1023)*4503599627370496+f∧4503599627370496+f=n*2^(52-n.log2):=by
 obtain ⟨_,h⟩:=zdH n hn;obtain ⟨h1,h2,h3⟩:=h (by omega)
 refine ⟨n*2^(52-n.log2)-4503599627370496,by omega,h1,?_,by omega⟩
 show zcu n=_
 unfold zcu;rw[if_neg (by omega)];omega
end Go.Mv
namespace Go.Proofs.YteggfecbjgbndaaGreatDoor
open Go.RowKit Go.Mv
theorem zgp (b:Nat) (w:World):(callFunc 316 #[.float .f64 b]).run E w=.ok (.value (.int .u64 b)) w:=by
 rw[run_callFunc_extern (P:=E) (hf:=Tryz.func316) (e:=Extern.MathFloatBits.float64bits) (hname:=by kernel_rfl) (hb:=rfl) (hn:=by kernel_rfl) (he:=by kernel_rfl)];rfl
theorem zed (n:Int) (w:World):(callFunc 317 #[.int .u64 n]).run E w=.ok (.value (.float .f64 n.toNat)) w:=by
 rw[run_callFunc_extern (P:=E) (hf:=Tryz.func317) (e:=Extern.MathFloatBits.float64frombits) (hname:=by kernel_rfl) (hb:=rfl) (hn:=by kernel_rfl) (he:=by kernel_rfl)];rfl
theorem zlp (x:Nat) (s:Bool) (M:Nat) (i:Int) (h:P7.read x=.number s M i) (w:World):(callFunc 310 #[.float .f64 x]).run E w=.ok (.value (.float .f64 (P7.write ((Ieee.Datum.number s M i).integral .zero)))) w:=by
 rw[run_callFunc_extern (P:=E) (hf:=Tryz.func310) (e:=Extern.MathFloor.toIntegral "math.archTrunc" .zero) (hname:=by kernel_rfl) (hb:=rfl) (hn:=by kernel_rfl) (he:=by kernel_rfl)]
 have h2:P8.decode x=.number s M i:=h
 conv in (Extern.MathFloor.toIntegral _ _ _)=>whnf
 simp only[h2];rfl
attribute [local go_sem] zgp zed
theorem zgv (x:Nat) (hx:x<18446744073709551616) (w:World):Calls E 314 #[.float .f64 x] w fun e w'=>e=.returned (.float .f64 (x % 9223372036854775808))∧w=w':=by
 have h:=znl x hx
 go_enter Tryz.func314,Tryz.ntmps314
 go_wp2
 go_ret
 exact ⟨rfl,rfl⟩
theorem zeH (s:Bool) (n:Nat) (hn:n<9007199254740992) (w:World):Calls E 318 #[.float .f64 (fb s n),B G 0] w fun e w'=>e=.returned (S false)∧w=w':=by
 have h:=zrt n hn;have hl:=ztv s n hn;have hm:=zq1 s n hn
 go_enter Tryz.func318,Tryz.ntmps318
 go_wp2_with (go_at_call 314;refine (zgv _ hl _).mono ?_;rintro e w' ⟨rfl,rfl⟩)
 go_ret
 refine ⟨?_,rfl⟩
 exact rfl
theorem zcY (x:Nat) (s:Bool) (n:Nat) (hx:Fl x s n) (w:World):Calls E 319 #[.float .f64 x] w fun e w'=>e=.returned (S false)∧w=w':=by
 have h:=zpH hx
 go_enter Tryz.func319,Tryz.ntmps319
 go_wp2
 go_ret
 exact ⟨rfl,rfl⟩
theorem zhr (n:Nat) (h0:0<n) (hn:n<9007199254740992) (w:World):Calls E 327 #[.float .f64 (fb false n)] w fun e w'=>e=.returned (.tuple #[.float .f64 (fb false n),B G 0])∧w=w':=by
 have h:=znK n h0 hn;have hl:=ztv false n hn;have hm:=zq1 false n hn
 go_enter Tryz.func327,Tryz.ntmps327
 go_wp2_with (go_at_call 314;refine (zgv _ hl _).mono ?_;rintro e w' ⟨rfl,rfl⟩)
 go_ret2
 exact ⟨rfl,rfl⟩
def frB (n:Nat):Nat:=4602678819172646912+fb false n % 4503599627370496
def frE (n:Nat):Int:=(fb false n / 4503599627370496:Nat)-1022
theorem zq6 (n:Nat) (h0:0<n) (hn:n<9007199254740992) (w:World):Calls E 324 #[.float .f64 (fb false n)] w fun e w'=>e=.returned (.tuple #[.float .f64 (frB n),B G (frE n)])∧w=w':=by
 have hz:=zeb false h0 (zav false n hn);have hF:=U (zav false n hn);have hl:=zuC n hn
 have K5:frB n=4602678819172646912+fb false n % 4503599627370496:=rfl
 have K4:frE n=(fb false n / 4503599627370496:Nat)-1022:=rfl
 have KQ:=U K5;have KP:=U K4;clear K5 K4
 have hI:=U (fun w=>zeH false n hn w)
 have hN:=U (fun w=>zcY _ false n hF.out w)
 have hM:=U (fun w=>zhr n h0 hn w)
 generalize fb false n=x at *
 have ha:bits .and .u64 ((x / 4503599627370496:Nat):Int) 2047=((x / 4503599627370496:Nat):Int):=by
  have:=bits_mask .u64 63 (by decide) (fun n h1 h2=>by rw[IntKind.wrap_u64];omega) 11 (by decide) ((x / 4503599627370496:Nat):Int) (by omega) (by omega)
  rw[show ((2:Int)^11-1)=2047 from rfl] at this
  rw[this];omega
 have hb:bits .andNot .u64 (x:Int) 9218868437227405312=((x % 4503599627370496:Nat):Int):=zo0 x (by omega)
 have hc:bits .or .u64 ((x % 4503599627370496:Nat):Int) 4602678819172646912=((4602678819172646912+x % 4503599627370496:Nat):Int):=by
  rw[show (4602678819172646912:Int)=((4602678819172646912:Nat):Int) from rfl,u64_or_nat _ _ (by omega) (by decide),Nat.or_comm,show (4602678819172646912:Nat)=2^52*1022 from rfl,←Nat.two_pow_add_eq_or_of_lt (by omega)]
 simp only[Int.natCast_ediv,Int.natCast_emod,Int.natCast_add,Int.cast_ofNat_Int] at ha hb hc
 go_enter Tryz.func324,Tryz.ntmps324
 go_wp2_with (first
  | (go_at_call 318;refine (hI.out _).mono ?_;rintro e w' ⟨rfl,rfl⟩)
  | (go_at_call 319;refine (hN.out _).mono ?_;rintro e w' ⟨rfl,rfl⟩)
  | (go_at_call 327;refine (hM.out _).mono ?_;rintro e w' ⟨rfl,rfl⟩))
 go_ret2
 refine ⟨?_,rfl⟩
 rw[KQ.out,KP.out]
 show Ending.returned (.tuple #[.float .f64 (4602678819172646912+x % 4503599627370496),B G ((x:Int) / 4503599627370496-1023+1)])=_
 rw[show ((x:Int) / 4503599627370496-1023+1)=((x / 4503599627370496:Nat):Int)-1022 from by omega]
theorem zeG (n:Nat) (h0:0<n) (hn:n<9007199254740992) (w:World):Calls E 321 #[.float .f64 (fb false n)] w fun e w'=>e=.returned (.tuple #[.float .f64 (frB n),B G (frE n)])∧w=w':=by
 have hM:=U (fun w=>zq6 n h0 hn w)
 go_enter Tryz.func321,Tryz.ntmps321
 go_wp2_with (go_at_call 324;refine (hM.out _).mono ?_;rintro e w' ⟨rfl,rfl⟩)
 go_ret2
 exact ⟨rfl,rfl⟩
end Go.Proofs.YteggfecbjgbndaaGreatDoor
