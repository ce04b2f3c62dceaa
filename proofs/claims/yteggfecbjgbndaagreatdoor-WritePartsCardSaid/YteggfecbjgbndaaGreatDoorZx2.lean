/- Merged -/
import Derived.Test.YteggfecbjgbndaaGreatDoorZx1
import Derived.OwnWalkIn
import Derived.TacticsInMore
import Derived.ScopeJumps
import Derived.LoopNIn
import Derived.LoopIn
import Derived.Shelf.Abstract
import Derived.Shelf.RegionOpen
import Derived.WalkSpells
import Derived.Laws.Externs
import Derived.Laws.BitsAll
set_option linter.all false
set_option maxHeartbeats 8000000
set_option maxRecDepth 100000
open Go.Proofs.Tryz
open Go.Value renaming int->B,slice->I,pointer->O,bool->S
open Option renaming some->C,none->H
open Go.Proofs.Tryz renaming prog->E
open Go.IntKind renaming i64->G,u8->V
open Go.Obj renaming cells->T
open Go.Mv renaming aN->U
open UInt8 renaming ofNat->P0
open Go.Machine renaming fenced->P1
open Go.Builtin renaming append_->P2,firstCells->P3,zeroCells->P4,lenOf->P5,nextslicecap->P6
open Ieee renaming double->P7
open Go.FloatKind renaming f64->P8
open Go.Code renaming seq->P9,scope->Pa,label->Pb,skip->Pc
open Nat renaming mul_le_mul_right->Pd,and_two_pow_sub_one_eq_mod->Pe,pow_le_pow_right->Pf,eq_zero_or_pos->Pg,mod_eq_of_lt->Ph,reduceSub->Pi,reduceAdd->Pj,le_trans->Pk
open Go.Mv.Ext renaming grown->Pl
open Go.Result renaming andThen_ok->Pm
open Go.Boxed renaming new->Pn
open Go.Value renaming slice->Po,int->Pp,ownBlock->Pq
open List renaming map_toArray->Pr,eq_nil_of_length_eq_zero->Ps,map->Pu,map_cons->Pv,map_nil->Pw,append_toArray->Px,size_toArray->Py,push_toArray->Pz,cons_append->Q0,length_nil->Q1
open Go.Oper renaming semAt_some->Q2,wp->Q3
open Go.Sem renaming run_pure->Q4,run_bind->Q5
open Array renaming replicate_zero->Q6,replicate_succ->Q7
namespace Go
def Exit.jumps(L:List Nat)(J:Nat->Act->World->Prop)(Q:Exit->Act->World->Prop):Exit->Act->World->Prop
 |.goto l,a,w=>(l∈L/\J l a w)\/(l ∉ L/\Q (.goto l) a w)
 |e,a,w=>Q e a w
end Go
namespace Go.Mv
open Go.RowKit
variable {a:Act} {c rest:Code} {Q:Exit->Act->World->Prop} {o:Oper}
section
variable {P:Program} (w:World)
theorem CA(base:Nat)(t ty e:TypeId)(i:TypeInfo)(b:Nat)(d:P.underlying t=C (.slice e))(hi:P.info? e=C i)(v:Value)(n:Nat)(xs:List Value)(f:w.ownsRow base e b v n xs)(c:Nat):(P2 #[t,t] ty #[v,I none 0 c]).run P w=.ok v w:=by
 rcases f.2 with⟨rfl,rfl⟩|⟨g,b,b,rfl,_,_,b,_⟩
 ·simp[P2,run_underlying d,sizeOf,typeInfo,hi,P5,P3]
 ·simp[P2,run_underlying d,sizeOf,typeInfo,hi,P5,P3,b,storeCells]
theorem ep(base:Nat)(t ty e:TypeId)(i:TypeInfo)(z:Value)(d bytes:Nat)(q:P.underlying t=C (.slice e))(hi:P.info? e=C i)(E:i.zero=C z)(s:i.size=d)(B:i.bytes=bytes)(D:z.cells.size=d)(x:0<d)(v:Value)(n:Nat)(xs:List Value)(h:w.ownsRow base e d v n xs)(vx:Value)(m:Nat)(f:List Value)(G:SlR w d vx m f)(h1:∀u∈f,u.oneCell'=true)(y:n+m<=maxLen)(r:(n+m)*bytes<=140737488355328)(H3:base<=w.heap.size):
  ∃g w',(P2 #[t,t] ty #[v,vx]).run P w=.ok g w'/\w'.ownsRow base e d g (n+m) (xs++f)/\w.grownBy w' v.ownBlock:=by
 obtain⟨hl,A,c,rfl,_,_,hc⟩:=G;rcases Pg m with p | p
 ·subst p;have hn:f=[]:=Ps (by simpa using hl);subst hn;cases A with
  |none=>exact⟨v,w,CA w base t ty e i d q hi v n xs h c,by simpa using h,⟨rfl,rfl,rfl,xN _,λ_ _ _=>rfl⟩⟩
  |some ad=>
   obtain⟨g,w',k,h2,h3,_⟩:=run_append_own (P:=P) w base t ty e i z d bytes q hi E s B D x v n xs h ad 0 c [] hl (by simp) h1 y r H3;exact⟨g,w',k,h2,h3⟩
 ·obtain⟨b,l,rfl,G⟩:=hc p;have p:∀j,(⟨b,l,H⟩:Addr).add j=⟨b,l+j,H⟩:=by intro j;unfold Addr.add;split<;>simp_all
  obtain⟨g,w',k,h2,h3,_⟩:=run_append_own (P:=P) w base t ty e i z d bytes q hi E s B D x v n xs h ⟨b,l,H⟩ m c f hl (λj u d=>by rw[p];exact G j u d) h1 y r H3;exact⟨g,w',k,h2,h3⟩
theorem dT{f:Array Oper}{rest:List Oper}(Hq:o.guard=none)(s x:Operand)(t:TypeId)(B:o.op=.call { callee:=.builtin .append,args:=#[s,x],argTypes:=#[t,t] })(base:Nat)(e:TypeId)(i:TypeInfo)(z:Value)(b bytes:Nat)(E:P.underlying t=C (.slice e))(hi:P.info? e=C i)(G:i.zero=C z)(l:i.size=b)(r:i.bytes=bytes)(y:z.cells.size=b)(p:0<b)(v:Value)(n:Nat)(xs:List Value)(hs:a.eval s=v)(j:w.ownsRow base e b v n xs)(vx:Value)(m:Nat)(d:List Value)(hx:a.eval x=vx)(D:SlR w b vx m d)(h1:∀u∈d,u.oneCell'=true)(q:n+m<=maxLen)(k:(n+m)*bytes<=140737488355328)(H3:base<=w.heap.size)(h:∀g w',w'.ownsRow base e b g (n+m) (xs++d)->w.grownBy w' v.ownBlock->wpList P f Q rest (a.put o.dst g) w'):wpList P f Q (o::rest) a w:=by
 refine wpList_plain Hq λK A=>?_;obtain⟨g,w',f,h2,h3⟩:=ep (P:=P) w base t o.type e i z b bytes E hi G l r y p v n xs j vx m d D h1 q k H3;unfold Q3 execOp;simp only[B,resolve,invoke,builtin,Q5,Q4,Pm,Pr,Pv,Pw,hs,hx,f];exact A _ _ (h g w' h2 h3)
theorem lk{F:Fence}{q:Nat}{g:Array Oper}{rest:List Oper}(Hq:o.guard=none)(s x:Operand)(t:TypeId)(k:o.op=.call { callee:=.builtin .append,args:=#[s,x],argTypes:=#[t,t] })(base:Nat)(e:TypeId)(i:TypeInfo)(z:Value)(b bytes:Nat)(L:P.underlying t=C (.slice e))(hi:P.info? e=C i)(M:i.zero=C z)(B:i.size=b)(H:i.bytes=bytes)(I:z.cells.size=b)(E:0<b)(v:Value)(n:Nat)(xs:List Value)(hs:a.eval s=v)(r:w.ownsRow base e b v n xs)(vx:Value)(m:Nat)(d:List Value)(hx:a.eval x=vx)(p:SlR w b vx m d)(h1:∀u∈d,u.oneCell'=true)(G:n+m<=maxLen)(y:(n+m)*bytes<=140737488355328)(H3:base<=w.heap.size)(h:∀j w',w'.ownsRow base e b j (n+m) (xs++d)->w.grownBy w' v.ownBlock->wpListIn F q P g Q rest (a.put o.dst j) w'):wpListIn F q P g Q (o::rest) a w:=by
 refine wpListIn_plain Hq λK J=>?_;obtain⟨j,w',A,h2,h3⟩:=ep (P:=P) w base t o.type e i z b bytes L hi M B H I E v n xs r vx m d p h1 G y H3;have D:o.semAt F.round a.eval=execOp a.eval o:=by
  cases p:F.round with
  |none=>rw[Oper.semAt_none]
  |some l=>exact Q2 l _ o (by rw[k];intro c hc;cases hc)
 unfold Oper.wpIn;refine⟨?_,?_⟩
 ·intro f hf;simp[Oper.about,k,resolve,Target.leads,go_sem]at hf
 ·rw[D];unfold execOp;simp only[k,resolve,invoke,builtin,Q5,Q4,Pm,Pr,Pv,Pw,hs,hx,A];exact J _ _ (h j w' h2 h3)
end
open Go.RowKit
section
variable {F:Fence} {n:Nat} {P:Program} {a:Act} {w:World} {Q:Exit->Act->World->Prop}
theorem bI{L:List Nat}{J:Nat->Act->World->Prop}{l:Nat}(hj:J l a w)(h:l∈L:=by simp):Exit.jumps L J Q (.goto l) a w:=.inl ⟨h,hj⟩
theorem bJ{L:List Nat}{J:Nat->Act->World->Prop}(h:Q .ret a w):Exit.jumps L J Q .ret a w:=h
theorem CI(L:List Nat)(J:Nat->Act->World->Prop)(μ:Nat->Act->World->Nat)(R:∀l,l ∉ L->findLabel c l=none)(N:∀l,l∈L->(findLabel c l).isSome=true)(first:c.wpIn F n P (Exit.jumps L J Q) a w)(pass:∀l rest,l∈L->findLabel c l=C rest->∀a w,J l a w->rest.wpIn F n P (Exit.jumps L (λq z w'=>J q z w'/\μ q z w' < μ l a w) Q) a w):(Pa c).wpIn F n P Q a w:=by
 intro b k cs M hb A;have K:∀l rest,findLabel c l=C rest->gotoIn l (.inScope c::k)=C (.code rest::.inScope c::k):=λl rest hf=>by simp[gotoIn,hf]
 have O:∀l,findLabel c l=none->gotoIn l (.inScope c::k)=gotoIn l k:=λl hf=>by simp[gotoIn,hf]
 have hx:∀r,exitTo r (.inScope c::k)=exitTo r k:=λr=>by simp[exitTo]
 have B:∀ {a w},StepsIn (P1 P F) P (lone (b.atR a (.inScope c::k)) cs w) (lone (b.atR a k) cs w):=fun {a w}=>
  .one (fenced_calm (fr:=b.atR a (.inScope c::k)) hb A rfl) (step_lone_go (by simp[stepG,stepG.exec,Frame.atR]))
 have v:∀ {a w},StepsIn (P1 P F) P (lone (b.atR a (.code (.scope c)::k)) cs w) (lone (b.atR a (.code c::.inScope c::k)) cs w):=fun {a w}=>
  .one (fenced_calm (fr:=b.atR a (.code (.scope c)::k)) hb A rfl) (step_lone_go (by simp[stepG,stepG.exec,Frame.atR]))
 have H0:∀ {m:Machine} {e:Exit} {f:Act} {g:World},(∀l,e≠.goto l)->ArrivesIn (P1 P F) P m b (.inScope c::k) cs e f g->ArrivesIn (P1 P F) P m b k cs e f g:=by
  intro m e f g Hk d;cases e with
  |normal=>exact StepsIn.trans d B
  |exit r=>exact⟨λG hk=>d.1 G (by rw[hx];exact hk),λB hk=>d.2 B (by rw[hx];exact hk)⟩
  |goto l=>exact absurd rfl (Hk l)
  |ret=>exact d
  |panic ch=>exact d
  |outgrown=>exact d
 have I:∀ {m:Machine} {l:Nat} {f:Act} {g:World},l ∉ L->ArrivesIn (P1 P F) P m b (.inScope c::k) cs (.goto l) f g->ArrivesIn (P1 P F) P m b k cs (.goto l) f g:=by
  intro m l f g hl d;have e:=O l (R l hl);exact⟨λG hk=>d.1 G (by rw[e];exact hk),λB hk=>d.2 B (by rw[e];exact hk)⟩
 have key:∀j l rest a w,l∈L->findLabel c l=C rest->μ l a w=j->J l a w->∃e z w',Q e z w'/\ArrivesIn (P1 P F) P (lone (b.atR a (.code rest::.inScope c::k)) cs w) b k cs e z w':=by
  intro j;induction j using Nat.strongRecOn with
  |_ j ih=>
   intro l rest a w hl hf hn z;obtain⟨e,f,g,i,d⟩:=pass l rest hl hf a w z b (.inScope c::k) cs M hb A;cases e with
   |goto q=>
    rcases i with⟨h,s,z⟩|⟨h,i⟩
    ·obtain⟨x,y⟩:=Option.isSome_iff_exists.1 (N q h);obtain⟨E,D,H,t,p⟩:=ih _ (by omega) q x f g h y rfl s;exact⟨E,D,H,t,.of_steps (d.1 _ (K q x y)) p⟩
    exact⟨_,f,g,i,I h d⟩
   |normal=>exact⟨.normal,f,g,i,H0 (by simp) d⟩
   |exit r=>exact⟨.exit r,f,g,i,H0 (by simp) d⟩
   |ret=>exact⟨_,f,g,i,H0 (by simp) d⟩
   |panic ch=>exact⟨_,f,g,i,H0 (by simp) d⟩
   |outgrown=>exact⟨_,f,g,i,H0 (by simp) d⟩
 obtain⟨e,f,g,i,d⟩:=first b (.inScope c::k) cs M hb A
 cases e with
 |goto q=>
  rcases i with⟨h,s⟩|⟨h,i⟩
  ·obtain⟨x,y⟩:=Option.isSome_iff_exists.1 (N q h);obtain⟨E,D,H,t,p⟩:=key _ q x f g h y rfl s;exact⟨E,D,H,t,.of_steps (v.trans (d.1 _ (K q x y))) p⟩
  exact⟨_,f,g,i,.of_steps v (I h d)⟩
 |normal=>exact⟨.normal,f,g,i,.of_steps v (H0 (by simp) d)⟩
 |exit r=>exact⟨.exit r,f,g,i,.of_steps v (H0 (by simp) d)⟩
 |ret=>exact⟨_,f,g,i,.of_steps v (H0 (by simp) d)⟩
 |panic ch=>exact⟨_,f,g,i,.of_steps v (H0 (by simp) d)⟩
 |outgrown=>exact⟨_,f,g,i,.of_steps v (H0 (by simp) d)⟩
theorem tt(l:Nat)(J:Act->World->Prop)(μ:Act->World->Nat)(hf:findLabel c l=C rest)(i:∀b,b≠l->findLabel c b=none)(first:c.wpIn F n P (Exit.jumps [l] (λ_=>J) Q) a w)(pass:∀a w,J a w->rest.wpIn F n P (Exit.jumps [l] (λ_ f w'=>J f w'/\μ f w' < μ a w) Q) a w):(Pa c).wpIn F n P Q a w:=
 CI [l] (λ_=>J) (λ_=>μ) (λb h=>i b (by simpa using h)) (λb h=>by have e:b=l:=(by simpa using h);rw[e,hf];rfl) first
  (λb f h d a w g=>by
    have e:b=l:=by simpa using h
    rw[e,hf]at d;cases d;exact pass a w g)
theorem tu{x:Code}(l:Nat)(J:Act->World->Prop)(μ:Act->World->Nat)(hf:findLabel (P9 x (P9 (Pb l) rest)) l=C (P9 Pc rest))(j:∀d,d≠l->findLabel (P9 x (P9 (Pb l) rest)) d=none)(first:x.wpIn F n P (Exit.then J (λ_ _ _=>False)) a w)(pass:∀a w,J a w->rest.wpIn F n P (Exit.jumps [l] (λ_ b w'=>J b w'/\μ b w' < μ a w) Q) a w):(Pa (P9 x (P9 (Pb l) rest))).wpIn F n P Q a w:=by
 have i:∀e a w f g,Exit.jumps [l] (λ_ b w'=>J b w'/\μ b w' < μ f g) Q e a w->Exit.jumps [l] (λ_=>J) Q e a w:=by
  intro e a w f g h;cases e with
  |goto d=>rcases h with⟨h1,h2,_⟩ | h;exact .inl ⟨h1,h2⟩;exact .inr h
  |normal=>exact h
  |exit id=>exact h
  |ret=>exact h
  |panic ch=>exact h
  |outgrown=>exact h
 refine tt l J μ hf j (wpIn_seq (wpIn_mono first ?_)) (λa w h=>wpIn_seq (wpIn_skip (pass a w h)));intro e a w h;cases e with
 |normal=>exact wpIn_seq (wpIn_label (wpIn_mono (pass a w h) (λe b w' f=>i e b w' a w f)))
 |goto d=>exact h.elim
 |exit id=>exact h.elim
 |ret=>exact h.elim
 |panic ch=>exact h.elim
 |outgrown=>exact h.elim
theorem eU(l:Nat)(J:Act->World->Prop)(μ:Act->World->Nat)(hf:findLabel c l=C (P9 Pc rest))(f:∀d,d≠l->findLabel c d=none)(first:(∀a w,J a w->rest.wpIn F n P (Exit.jumps [l] (λ_=>J) Q) a w)->c.wpIn F n P (Exit.jumps [l] (λ_=>J) Q) a w)(pass:∀a w,J a w->rest.wpIn F n P (Exit.jumps [l] (λ_ b w'=>J b w'/\μ b w' < μ a w) Q) a w):(Pa c).wpIn F n P Q a w:=by
 refine tt l J μ hf f (first (λa w h=>wpIn_mono (pass a w h) ?_)) (λa w h=>wpIn_seq (wpIn_skip (pass a w h)));intro e b w' h;cases e with
 |goto d=>rcases h with⟨h1,h2,_⟩ | h;exact .inl ⟨h1,h2⟩;exact .inr h
 |normal=>exact h
 |exit id=>exact h
 |ret=>exact h
 |panic ch=>exact h
 |outgrown=>exact h
theorem ew{ro:Option Nat}{next:Act->World->Prop}{l:Nat}{d:Array Value}{W:World}{R:Ending->World->Prop}(j:YieldsAt P l d W R)(h:∀e W',R e W'->∃b,e=.returned (S b)/\next (a.put o.dst (S b)) W'):
  o.uponIn (Wd ro) n P a next Q ((Instr.yield l d).run P W):=by
 obtain⟨fn,tmps,assign,body,f,g⟩:=j;rw[f];refine⟨λh=>by simp[Fence.wide]at h,(zg (n:=n-1) g).mono ?_⟩;intro e W' i;obtain⟨b,rfl,hn⟩:=h e W' i;exact hn
end
end Go.Mv

namespace Go.Proofs.YteggfecbjgbndaaGreatDoor
open Go.RowKit Go.Mv Go.Shelf
theorem mcDigitsa0{P:Prop}(h:P:=by
 all_goals refine HA _ _ _ _ ?_ ?_
 all_goals intro W' hj
 all_goals (try intro KU KV KW hs)
 all_goals clear c1 c2 c3 f3 b1 b2 b3 HS HT HU
 all_goals gi_wp2
 all_goals first
  | (refine bJ ?_
     refine bodyPost_ret (results_none rfl _ _ _) rfl ?_;exact⟨⟨_,rfl⟩,.inr ⟨_,HE.out,hj⟩⟩)
  | (refine bJ ?_
     refine bodyPost_ret (results_none rfl _ _ _) rfl ?_;exact⟨⟨_,rfl⟩,.inl (Hz _ hj (by have h:((k:Int)==0)=true:=(by assumption);simpa using h))⟩)
  | (have HK:0<k:=(by have h:((k:Int)==0)=false:=(by assumption);simp at h;omega)
     refine wpIn_goto ?_;refine bI ⟨?_,?_⟩
     ·rw[show((k:Int)-1)=((k-1:Nat):Int)from by omega];exact⟨k-1,_,false,_,_,_,_,_,_,_,_,_,_,_,_,_,_,_,_,_,_,_,_,_,_,_,_,_,_,_,_,_,_,_,_,_,_,⟨by omega,HB HK,hj,KU,KV,KW,hs⟩,rfl⟩
     ·simp[intOf];omega)):P:=h
attribute [local go_sem] Q2
def a8(bits n:Nat):Bool->Nat->List UInt8
 |_,0=>[P0 (n % 2^bits)]
 |fewer,k+1=>if n / 2^(bits*(k+1))=0/\fewer=true then a8 bits n fewer k else P0 (n / 2^(bits*(k+1)) % 2^bits)::a8 bits n false k
theorem lD(n:Int)(b:0<=n)(b:n<2^62):IntKind.i64.wrap n=n:=by rw[IntKind.wrap_i64];omega
theorem Fx(x:Int)(b:0<=x)(d:x<4611686018427387904):bits .and .i64 x 127=x % 128:=bits_mask .i64 62 (by decide) lD 7 (by decide) x b d
theorem Fy(x:Int)(b:0<=x)(d:x<4611686018427387904):bits .and .i64 x 255=x % 256:=bits_mask .i64 62 (by decide) lD 8 (by decide) x b d
theorem oE(n:Nat):bv (P0 n)=B V ((n:Int) % 256):=by simp[bv]
theorem Cm(d:Nat)(b:d<=1073741824):Pp .u8 (bits .and .i64 (d:Int) 127 % 256)=bv (P0 (d % 2^7)):=by
 rw[Fx _ (by omega) (by omega),oE];simp
theorem Cn(d:Nat)(b:d<=1073741824):Pp .u8 (bits .and .i64 (d:Int) 255 % 256)=bv (P0 (d % 2^8)):=by
 rw[Fy _ (by omega) (by omega),oE];simp
theorem PY(d:Nat)(b:d=0):Pp .u8 (bits .and .i64 0 127 % 256)=bv (P0 (d % 2^7)):=by
 have:=Cm d (by omega);rw[b]at this⊢;exact this
theorem PZ(d:Nat)(b:d=0):Pp .u8 (bits .and .i64 0 255 % 256)=bv (P0 (d % 2^8)):=by
 have:=Cn d (by omega);rw[b]at this⊢;exact this
theorem DP(bits n:Nat)(d:Bool)(k:Nat)(h:¬(n / 2^(bits*k)=0/\d=true/\0<k)):
  ∃b,a8 bits n d k=P0 (n / 2^(bits*k) % 2^bits)::b/\(0<k->b=a8 bits n false (k-1))/\(k=0->b=[]):=by
 cases k with
 |zero=>exact⟨[],by simp[a8],λh=>absurd h (by omega),λ_=>rfl⟩
 |succ k=>
  refine⟨a8 bits n false k,?_,λ_=>rfl,λh=>absurd h (by omega)⟩;rw[a8,if_neg];intro ⟨h1,h2⟩;exact h ⟨h1,h2,by omega⟩
def DgR(bits n b:Nat)(d:Bool)(h g e f l N:Nat)(J:List UInt8->World->Prop)(a:Act)(w:World):Prop:=
 ∃(k:Nat) (H7:List UInt8) (fw:Bool) (u7 u8 u9 Kf Kg Kh Ki Kj Kk Kl Km Kn Ko Kp Kq Kr Ks Kt Ku Kv Kw Kx Ky Kz KA KC KD KE KF KH KI KJ KK KL:Value),
   (k<b/\Hid (a8 bits n d (b-1)=H7++a8 bits n fw k)/\J H7 w/\Boxed w g 3 (B G n)/\Boxed w e 3 (B G bits)/\Boxed w f 4 (S fw)/\N<=w.heap.size) /\
   a=⟨#[.func (.yield l) #[] #[],O (C ⟨h,0,H⟩),O (C ⟨g,0,H⟩),O (C ⟨e,0,H⟩),O (C ⟨f,0,H⟩),undef,B G k,u7,u8,u9,Kf,Kg,Kh,Ki,Kj,Kk,Kl,Km,Kn,Ko,Kp,Kq,Kr,Ks,Kt,Ku,Kv,Kw,Kx,Ky,Kz,KA,KC,KD,KE,KF,KH,KI,KJ,KK,KL],[]⟩
theorem yc(bits n b:Nat)(f:Bool)(hb:bits=7\/bits=8)(hn:n<=1073741824)(hm:1<=b)(Jh:b<=5)(D q p i:Nat)(Hk:i≠q)(HM:i≠p)(j:World)(I:Boxed j D 3 (B G b))(K:Boxed j q 3 (B G n))(L:Boxed j p 3 (B G bits))(X:Boxed j i 4 (S f)):
  Seq E 222 #[O (C ⟨D,0,H⟩),O (C ⟨q,0,H⟩),O (C ⟨p,0,H⟩),O (C ⟨i,0,H⟩)]
   (λ(d:UInt8) av _=>av = #[bv d]) (λk o=>((k=q\/k=p)/\o.ty=C 3)\/(k=i/\o.ty=C 4)) (λk o=>k=i/\o.ty=C 4) (a8 bits n f (b-1)) j:=by
 intro l J Jx hJ Jb hY r;refine(callsIn_wd (ro:=none) (n:=9)).1 ?_;refine callsIn_of_wp func222 rfl trivial ?_ rfl;simp only[ntmps222,Py,xC,Q1,Pj,Pi,Q7,Q6,Pz,Px,xI,Q0];refine tu 0 (DgR bits n b f D q p i l j.heap.size J) (λa _=>(intOf (a.tmps.getD 6 undef)).toNat) rfl (λl' h=>by cases l'<;>first | exact absurd rfl h | rfl) ?_ ?_
 ·have J0:=I.cell;gi_wp2;have e:((b:Int)-1)=((b-1:Nat):Int):=by omega
  rw[e];exact⟨b-1,[],f,_,_,_,_,_,_,_,_,_,_,_,_,_,_,_,_,_,_,_,_,_,_,_,_,_,_,_,_,_,_,_,_,_,_,⟨by omega,rfl,r,K,L,X,xN _⟩,rfl⟩
 ·intro a w hR;obtain⟨k,m,fw,u7,u8,u9,Kf,Kg,Kh,Ki,Kj,Kk,Kl,Km,Kn,Ko,Kp,Kq,Kr,Ks,Kt,Ku,Kv,Kw,Kx,Ky,Kz,KA,KC,KD,KE,KF,KH,KI,KJ,KK,KL,⟨hk,y,Y,b1,b2,b3,N⟩,rfl⟩:=hR;have c1:=b1.cell;have c2:=b2.cell;have c3:=b3.cell;have f3:=b3.frozen;clear I K L X r;have J4:Moves (am (λk o=>k=i/\o.ty=C 4) j.heap.size) w (w.setCell ⟨i,0,H⟩ (S false)):=
   Moves.refl.setCell (λo ho _=>.inl ⟨rfl,by rw[show w.heap[i]?=_ from b3]at ho;cases ho;rfl⟩) _
  have KY:=hJ _ _ _ Y J4;have HS:Boxed (w.setCell ⟨i,0,H⟩ (S false)) q 3 (B G n):=b1.other (Ne.symm Hk) _;have HT:Boxed (w.setCell ⟨i,0,H⟩ (S false)) p 3 (B G bits):=b2.other (Ne.symm HM) _;have HU:Boxed (w.setCell ⟨i,0,H⟩ (S false)) i 4 (S false):=b3.set _;have W:j.heap.size<=(w.setCell ⟨i,0,H⟩ (S false)).heap.size:=by simpa[World.setCell]using N
  have T:n / 2^(bits*k)<=1073741824:=Pk (Nat.div_le_self _ _) hn;by_cases g:n / 2^(bits*k)=0/\fw=true/\0<k
  ·obtain⟨z,rfl,HK⟩:=g;have hz:((n:Int) / 2^(bits*k))=0:=by exact_mod_cast z
   have KM:=U z;have Jg:decide (0<k)=true:=by simpa using HK
   clear z;rcases hb with rfl | rfl
   all_goals
    gi_wp2;refine wpIn_goto ?_;simp only[Exit.then];refine bI ⟨?_,?_⟩
    ·rw[show((k:Int)-1)=((k-1:Nat):Int)from by omega];refine⟨k-1,m,true,_,_,_,_,_,_,_,_,_,_,_,_,_,_,_,_,_,_,_,_,_,_,_,_,_,_,_,_,_,_,_,_,_,_,⟨by omega,?_,Y,b1,b2,b3,N⟩,rfl⟩;have hD:=y.out;rw[show k=(k-1)+1 from by omega,a8,if_pos ⟨by rw[show k-1+1=k from by omega];exact KM.out,rfl⟩]at hD;exact hD
    simp[intOf];omega
  ·obtain⟨M,hp,Z,Ka⟩:=DP bits n fw k g;have hD:=y.out;rw[hp]at hD;have hy:=hY m _ M hD _ #[bv (P0 (n / 2^(bits*k) % 2^bits))] KY W rfl;have KN:=U Z;have KO:=U Ka;have A:=U hD;have R:=U g;clear hp hD y Z Ka g hY;have key:∀(o:Oper) (a:Act) (next:Act->World->Prop) (Q:Exit->Act->World->Prop),
     (∀W':World,J (m++[P0 (n / 2^(bits*k) % 2^bits)]) W'->Boxed W' q 3 (B G n)->Boxed W' p 3 (B G bits)->Boxed W' i 4 (S false)->j.heap.size<=W'.heap.size->next (a.put o.dst (S true)) W') ->
     (∀W':World,Jx (m++[P0 (n / 2^(bits*k) % 2^bits)]) W'->next (a.put o.dst (S false)) W') ->
     o.uponIn (Wd none) 9 E a next Q ((Instr.yield l #[bv (P0 (n / 2^(bits*k) % 2^bits))]).run E (w.setCell ⟨i,0,H⟩ (S false))):=by
    intro o a next Q h1 h2;refine ew hy ?_;rintro e W' ⟨v,⟨rfl,hj⟩|⟨rfl,hj⟩⟩
    ·exact⟨true,rfl,h1 W' hj (v.boxed HS (.inl (.inl ⟨.inl rfl,rfl⟩))) (v.boxed HT (.inl (.inl ⟨.inr rfl,rfl⟩))) (v.boxed HU (.inl (.inr ⟨rfl,rfl⟩))) (Pk W v.size)⟩
    exact⟨false,rfl,h2 W' hj⟩
   have HA:=U key;have V:m++[P0 (n / 2^(bits*k) % 2^bits)] <+: a8 bits n f (b-1):=by
    rw[A.out];exact⟨M,by simp⟩
   clear key hy;have t:∀W':World,J (m++[P0 (n / 2^(bits*k) % 2^bits)]) W'->k=0->J (a8 bits n f (b-1)) W':=by
    intro W' hj r;rw[A.out,KO.out r];exact hj
   have Hz:=U t;have HE:=U V;have Ke:0<k->a8 bits n f (b-1)=(m++[P0 (n / 2^(bits*k) % 2^bits)])++a8 bits n false (k-1):=by
    intro r;rw[A.out,KN.out r];simp
   have HB:=U Ke;clear t V Ke;rcases hb with rfl | rfl
   ·have s:((n:Int) / 2^(7*k))=((n / 2^(7*k):Nat):Int):=by simp
    have x:=U s;clear s;gi_wp2
    all_goals first
     |(exfalso;refine R ⟨?_,by assumption,by assumption⟩;exact_mod_cast (by assumption:((n:Int) / 2^(7*k))=0))
     |(rw[PY (n / 2^(7*k)) (by exact_mod_cast (by assumption:((n:Int) / 2^(7*k))=0))])
     |(rw[x.out,Cm _ T])
    all_goals exact mcDigitsa0
   ·have s:((n:Int) / 2^(8*k))=((n / 2^(8*k):Nat):Int):=by simp
    have x:=U s;clear s;gi_wp2
    all_goals first
     |(exfalso;refine R ⟨?_,by assumption,by assumption⟩;exact_mod_cast (by assumption:((n:Int) / 2^(8*k))=0))
     |(rw[PZ (n / 2^(8*k)) (by exact_mod_cast (by assumption:((n:Int) / 2^(8*k))=0))])
     |(rw[x.out,Cn _ T])
    all_goals exact mcDigitsa0
def eR(w:World)(n bits d:Nat)(b:Bool):World:=
 (((w.alloc (T #[B G n] 3)).alloc (T #[B G bits] 3)).alloc (T #[B G d] 3)).alloc (T #[.bool b] 4)
def sM(N:Nat):Value:=.func (.func 222) #[] #[O (C ⟨N+2,0,H⟩),O (C ⟨N,0,H⟩),O (C ⟨N+1,0,H⟩),O (C ⟨N+3,0,H⟩)]
theorem yp(n bits d:Nat)(b:Bool)(w:World):
  Calls E 182 #[B G n,B G bits,B G d,S b] w λe w'=>e=.returned (sM w.heap.size)/\eR w n bits d b=w':=by
 go_enter func182,ntmps182
 go_wp2;go_ret;exact⟨rfl,rfl⟩
theorem nS(w:World)(n bits d:Nat)(b:Bool):(eR w n bits d b).heap.size=w.heap.size+4 /\
  Boxed (eR w n bits d b) w.heap.size 3 (B G n)/\Boxed (eR w n bits d b) (w.heap.size+1) 3 (B G bits) /\
  Boxed (eR w n bits d b) (w.heap.size+2) 3 (B G d)/\Boxed (eR w n bits d b) (w.heap.size+3) 4 (S b)/\Ext w (eR w n bits d b):=by
 have h1:=Pn w 3 (B G n);have h2:=Pn (w.alloc (T #[B G n] 3)) 3 (B G bits);have h3:=Pn ((w.alloc (T #[B G n] 3)).alloc (T #[B G bits] 3)) 3 (B G d);have h4:=Pn (((w.alloc (T #[B G n] 3)).alloc (T #[B G bits] 3)).alloc (T #[B G d] 3)) 4 (S b);simp only[xS]at h2 h3 h4;exact⟨by simp[eR],((h1.alloc _).alloc _).alloc _,(h2.alloc _).alloc _,h3.alloc _,h4,(((xR w).alloc _).alloc _).alloc _ |>.alloc _⟩
attribute [local go_sem] Q2
theorem dC:(Tryz.prog.info? 5).map (λi=>(i.zero,i.size,i.bytes))=C (some (B V 0),1,1):=by kernel_rfl
theorem MR(d:UInt8):bits .or .u8 (d.toNat:Int) 128=((d ||| 128).toNat:Int):=by
 have h:=(bits_nat .u8 8 (by decide) wraps_u8 d.toNat 128 d.toNat_lt (by decide)).2;have e:((128:Nat):Int)=128:=rfl;rw[e]at h;rw[h];simp
theorem It(d:UInt8):bits .and .u8 (d.toNat:Int) 127=((d &&& 127).toNat:Int):=by
 have h:=(bits_nat .u8 8 (by decide) wraps_u8 d.toNat 127 d.toNat_lt (by decide)).1;have e:((127:Nat):Int)=127:=rfl;rw[e]at h;rw[h];simp
def BC(base:Nat)(w:World)(bs:List UInt8)(e:Ending)(w':World):Prop:=
 ∃b,e=.returned b/\w'.ownsRow base 5 1 b bs.length (bs.map bv)/\Below base w w'
def ShI(base N:Nat)(w:World)(bs b:List UInt8)(X:World):Prop:=
 ∃v,Boxed X N 33 v/\X.ownsRow base 5 1 v (bs++b.map (· ||| 128)).length ((bs++b.map (· ||| 128)).map bv)/\Below base w X
theorem qa(bits n:Nat)(b:Bool)(k:Nat):1<=(a8 bits n b k).length/\(a8 bits n b k).length<=k+1:=by
 induction k generalizing b with
 |zero=>simp[a8]
 |succ k ih=>
  rw[a8];split
  ·have:=ih b;omega
  ·have:=ih false;simp;omega
theorem DQ(bits n:Nat)(b:Bool)(k:Nat):∃hi,a8 bits n b k=hi++[P0 (n % 2^bits)]:=by
 induction k generalizing b with
 |zero=>exact⟨[],rfl⟩
 |succ k ih=>
  rw[a8];split
  ·exact ih b
  ·obtain⟨hi,h⟩:=ih false;exact⟨_::hi,by rw[h];rfl⟩
def cO(n:Nat):List UInt8:=(a8 7 n true 4).dropLast.map (· ||| 128)++[P0 (n % 128)]
theorem F9(bs:List UInt8)(n:Nat)(hn:n<=1073741824)(vb:Value)(base:Nat)(w:World)(q:w.ownsRow base 5 1 vb bs.length (bs.map bv))(H3:base<=w.heap.size)(J3:bs.length+5<=1099511627776):
  Calls E 181 #[vb,B G n] w (BC base w (bs++cO n)):=by
 obtain⟨A,i,rfl,_,_⟩:=xO (xW q);refine(callsIn_wd (ro:=none) (n:=9)).1 ?_;refine callsIn_of_wp_marks func181 rfl trivial ?_ rfl;simp only[ntmps181,Py,xC,Q1,Pj,Pi,Q7,Q6,Pz,Px,xI,Q0];gi_wp2_with (refine⟨trivial,?_⟩;gi_at_call 182;refine(callsIn_wd.2 (yp n 7 5 true _)).mono ?_;rintro e w' ⟨rfl,rfl⟩)
 have hN:w.heap.size+5=(eR (w.alloc (Obj.cells #[Po A bs.length i] 33)) n 7 5 true).heap.size:=by rw[(nS _ n 7 5 true).1];simp
 obtain⟨_,K,L,M,N,j⟩:=nS (w.alloc (Obj.cells #[Po A bs.length i] 33)) n 7 5 true;generalize eR (w.alloc (Obj.cells #[Po A bs.length i] 33)) n 7 5 true=w2 at *;simp only[xS]at K L M N;have h0:ShI base w.heap.size w bs [] w2:=by
  refine⟨_,(Pn w _ _).kept (W':=w2) (row:=none) (Pl j none) (by simp),?_,?_⟩
  ·have h1:=q.alloc (Obj.cells #[Po A bs.length i] 33);simpa using h1.kept (w':=w2) (row:=none) (Pl j none) (by cases A<;>simp[Pq])
  exact(((Below.refl base w).alloc H3 _).trans (j.mono (by simp;omega)))
 refine dV (a:=⟨_,_⟩) rfl (enters_of func222 (by kernel_rfl) rfl)
  (λW1 hb _=>yc 7 n 5 true (.inl rfl) hn (by omega) (by omega) (w.heap.size+1+2) (w.heap.size+1) (w.heap.size+1+1) (w.heap.size+1+3) (by omega) (by omega) W1
    (M.kept (row:=none) (Pl hb none) (by simp)) (K.kept (row:=none) (Pl hb none) (by simp))
    (L.kept (row:=none) (Pl hb none) (by simp)) (N.kept (row:=none) (Pl hb none) (by simp)))
  (λk o h=>eE h.2) (λk o h=>by rcases h with h | h<;>exact eE h.2) (λx av W h=>by rw[h];rfl)
  (ShI base w.heap.size w bs) (λ_ _ _=>False) ?hI (λ_ _ _ _ h _=>h) h0
  (λx a' _=>a'=⟨#[I A bs.length i,B G n,O (C ⟨w.heap.size,0,H⟩),undef,I none 0 0,B V x.toNat,B G n,sM (w.heap.size+1),B V x.toNat,undef,undef,undef,undef,undef,undef,undef,undef,undef,undef,undef,undef,undef,undef],[]⟩)
  (λ_ _ _ _ h _=>h) ?assign ?body ?done ?stop
 case hI=>
  rintro s X Y⟨v,d,hr,f⟩hm;refine⟨v,hm.boxed d ?_,hm.ownsRow hr ?_,hm.belowOf f ?_ H3⟩
  ·rintro(h | h)
   ·have:=h.1;omega
   cases h.2
  ·rintro k HV _(h | h)
   ·cases h.2
   cases h.2
  rintro k o hk(h | h)
  ·have:=h.1;omega
  have:=h.1;omega
 case assign=>
  rintro l b x Hc W av K' hx hi Hg rfl J;simp only[bv];gi_wp2;exact J _ _ Kept.refl hi rfl
 case body=>
  rintro l b x Hc a' W hx hl hr⟨v,d,H4,f⟩Hg rfl;have hm:(bs++Pu (λx=>x ||| 128) b).length=bs.length+b.length:=by simp
  rw[hm]at H4;obtain⟨A',c',rfl,_,_⟩:=xO (xW H4);have Ji:b.length<=4:=by
   have:=congrArg List.length hx;have:=qa 7 n true 4;simp at *;omega
  obtain⟨i0,hi,Ht,Hu,Hv⟩:=info_parts dC;have hc:=d.cell;have Jj:=MR x;have Hk:=d.not_row (e:=5) (by decide) H4;gi_wp2_with (gi_at_builtin;refine wpListIn_append_own _ rfl (.tmp 9) (.tmp 12) 33 rfl base 5 i0 (B V 0) 1 1 underlying33 hi Ht Hu Hv rfl (by decide) (I A' (bs.length+b.length) c') (bs.length+b.length) ((bs++Pu (λx=>x ||| 128) b).map bv) rfl (H4.alloc _) ⟨W.heap.size,0,H⟩ 1 1 [B V ((x ||| 128).toNat:Int)] rfl rfl (cell_one_new _ _ _) (by simp[Value.oneCell']) (by simp[maxLen];omega) (by simp;omega) (by have:=f.size;simp;omega) ?_;intro v' w1 y t _;obtain⟨g',HF,rfl,_,_,_⟩:=ia y (hn:=by omega);have Hx:=(d.alloc _).kept t Hk;have J0:=Hx.cell;have Jf:=Hx.frozen)
  refine⟨Kept.appended _ d H4 t ?_ ?_,_,Hx.set _,?_,?_⟩
  ·rintro((⟨_,h⟩|⟨_,h⟩)| ⟨_,h⟩)<;>cases h
  ·rintro k HV _((⟨_,h⟩|⟨_,h⟩)| ⟨_,h⟩)<;>cases h
  ·have h:=y.kept (grownBy_setCell' w1 w.heap.size (I (C ⟨g',0,H⟩) (bs.length+b.length+1) HF)) (.inr (Hx.not_row (by decide) y).symm);simpa[bv,Nat.add_assoc]using h
  refine(((f.alloc (by have:=f.size;omega) _).grown t (by have:=f.size;simp;omega) (λk ek=>?_)).setCell (p:=⟨w.heap.size,0,H⟩) H3 _);exact(H4.lt k ek).1
 case done=>
  rintro D W hD⟨v,d,H4,f⟩J;obtain⟨hi,r⟩:=DQ 7 n true 4;have T:bs++cO n=bs++hi.map (· ||| 128)++[P0 (n % 128)]:=by simp[cO,r]
  have S:(P0 (n % 2^7) ||| 128) &&& 127=P0 (n % 128):=by
   have h1:n % 2^7<128:=Nat.mod_lt _ (by decide);have h2:∀m:Nat,m<128->(P0 m ||| 128) &&& 127=P0 m:=by decide
   exact h2 _ h1
  have hm:bs++Pu (λx=>x ||| 128) (a8 7 n true (5-1))=(bs++hi.map (· ||| 128))++[P0 (n % 2^7) ||| 128]:=by simp[r]
  rw[hm]at H4;generalize bs++hi.map (· ||| 128)=ys at *;generalize P0 (n % 2^7) ||| 128=z at *;have Z:(ys++[z]).length=ys.length+1:=by simp
  rw[Z]at H4;obtain⟨g,Hd,rfl,KZ,J2,HL⟩:=ia H4 (hn:=by omega);have hc:=d.cell;have hf:=H4.frozenAt ys.length;have Je:W.cell? ⟨g,ys.length,H⟩=C (B V z.toNat):=by rw[H4.cellAt ys.length (by omega)];simp[bv]
  have KX:=It z;have KR:=U S;have KT:=U T;have Jc:w.heap.size<=w2.heap.size:=by omega
  clear S T hm Z r h0 q K L M N j hN;have Hk:w.heap.size≠g:=λe=>d.not_row (e:=5) (by decide) H4 (by rw[e];rfl);have Jd:(W.setCell ⟨g,ys.length,H⟩ (B V ((z.toNat &&& 127:Nat):Int))).cell? ⟨w.heap.size,0,H⟩=C (I (C ⟨g,0,H⟩) (ys.length+1) Hd):=
   (World.cell?_setCell_other _ _ _ _ (λe=>Hk (by injection e with e1;exact e1.symm))).trans hc
  gi_wp2;have J7:=(H4.stored ys.length (B V ((z.toNat &&& 127:Nat):Int))).1;have R:=dK J rfl ⟨g,ys.length,H⟩ (B V ((z.toNat &&& 127:Nat):Int));refine dh R _ (results_tmp rfl _ _ _) ⟨_,rfl,?_,?_⟩
  ·have h:=ownsRow_putObj J7 (.deferred none) R rfl;have e:(Pu bv (ys++[z])).set ys.length (B V ((z.toNat &&& 127:Nat):Int))=Pu bv (ys++[P0 (n % 128)]):=by
    rw[<-KR.out];simp[bv]
   rw[e]at h;rw[KT.out];simpa using h
  exact cp (f.setCell (p:=⟨g,ys.length,H⟩) KZ _) (hD:=by omega) _
 case stop=>
  rintro D c b W _ _ h _;exact h.elim
end Go.Proofs.YteggfecbjgbndaaGreatDoor

namespace Go.Mv
open Go.RowKit
variable {P:Program}
theorem Cw(w:World)(t f ty e:TypeId)(i:TypeInfo)(z:Value)(j:P.underlying t=C (.slice e))(HQ:P.underlying f=C (.int .i64))(hi:P.info? e=C i)(k:i.zero=C z)(g:z.cells.size=1)(hs:i.size=1)(hb:i.bytes=1)(n:Nat)(h:0<n)(b:n<=140737488355328):
  ∃b d,(P2 #[t,f] ty #[I none 0 0,B G n]).run P w=.ok (I (C ⟨w.heap.size,0,H⟩) n b) d/\n<=b/\b<=9223372036854775807 /\
   d.ownsRow w.heap.size e 1 (I (C ⟨w.heap.size,0,H⟩) 0 b) 0 []/\Ext w d:=by
 have d:=grownCap_ge w n 0 e;have K3:grownCap w n 0 e<=maxLen:=grownCap_le_maxLen w n 0 e (by simp[maxLen];omega);have f:IntKind.i64.wrap (n:Int)=n:=by rw[IntKind.wrap_i64];omega
 have hn:n≠0:=by omega
 have h1:¬((n:Int)<0):=by omega
 have h2:¬(281474976710656<(n:Int)):=by omega
 have h3:¬(9223372036854775807<(n:Int)):=by omega
 have b:¬(281474976710656<P6 n 0):=by rw[nextslicecap_zero h];omega
 refine⟨grownCap w n 0 e,w.drew.alloc (T (P4 z.cells n++P4 z.cells (grownCap w n 0 e-n)) e),?_,d,by simpa[maxLen]using K3,?_,?_⟩
 ·simp[P2,run_underlying j,run_underlying HQ,sizeOf,typeInfo,zeroValue,hi,k,hs,hb,f,h1,h2,asInt,asIntOf,P3,hn,h3,b,Question.forced,newRow,grownCap]
 ·refine⟨by simp,.inr ⟨w.heap.size,grownCap w n 0 e,_,rfl,xN _,heap_alloc_new w.drew _,Nat.zero_le _,K3,?_,by simp⟩⟩;simp[size_zeroCells,g];omega
 ·exact xA (xD (xR w)) _
theorem Cv(w:World){d:Array Oper}{rest:List Oper}{o:Oper}{a:Act}{Q:Exit->Act->World->Prop}(Hq:o.guard=none)(s x:Operand)(t g:TypeId)(r:o.op=.call { callee:=.builtin .append,args:=#[s,x],argTypes:=#[t,g] })(e:TypeId)(i:TypeInfo)(z:Value)(v:P.underlying t=C (.slice e))(HQ:P.underlying g=C (.int .i64))(hi:P.info? e=C i)(y:i.zero=C z)(j:z.cells.size=1)(hs:i.size=1)(hb:i.bytes=1)(n:Nat)(p:0<n)(k:n<=140737488355328)(l:a.eval s=I none 0 0)(m:a.eval x=B G n)(h:∀b f,n<=b->b<=9223372036854775807->f.ownsRow w.heap.size e 1 (I (C ⟨w.heap.size,0,H⟩) 0 b) 0 []->Ext w f->wpList P d Q rest (a.put o.dst (I (C ⟨w.heap.size,0,H⟩) n b)) f):
  wpList P d Q (o::rest) a w:=by
 refine wpList_plain Hq λK q=>?_;obtain⟨b,f,d,h1,h2,h3,h4⟩:=Cw (P:=P) w t g o.type e i z v HQ hi y j hs hb n p k;unfold Q3 execOp;simp only[r,resolve,invoke,builtin,Q5,Q4,Pm,Pr,Pv,Pw,l,m,d];exact q _ _ (h b f h1 h2 h3 h4)
theorem eh(w:World)(f d e:TypeId)(hs:P.underlying f=C (.slice e))(he:P.underlying e=C (.int .u8))(k:P.underlying d=C .string){v:Value}{bs:List UInt8}(h:Bs w v bs):
  (convert f d v).run P w=.ok (.string ⟨bs.toArray⟩) w:=by
 obtain⟨_,A,c,rfl,_,_,hc⟩:=h;cases A with
 |none=>
  have hb:bs=[]:=by
   cases bs with
   |nil=>rfl
   |cons b l=>obtain⟨_,_,e,_⟩:=hc (by simp);cases e
  subst hb;exact run_convert_bytes_nil w f e hs he 0 c d k
 |some a=>
  rcases Pg bs.length with i | i
  ·have hb:bs=[]:=Ps i;subst hb;exact run_convert_bytes_back w f d e a c [] hs he k (by simp)
  ·obtain⟨b,g,e',m⟩:=hc i;cases e';refine run_convert_bytes_back w f d e ⟨b,g,H⟩ c bs hs he k (λj f=>?_);have d:(⟨b,g,H⟩:Addr).add j=⟨b,g+j,H⟩:=by unfold Addr.add;split<;>simp_all
   rw[d];exact m j _ (by simp[List.getElem?_eq_getElem f,bv])
end Go.Mv
namespace Go.Proofs.YteggfecbjgbndaaGreatDoor
open Go.RowKit Go.Mv
def nw(w:World)(bs:List UInt8)(e:Ending)(w':World):Prop:=∃b,e=.returned b/\w'.ownsRow w.heap.size 5 1 b bs.length (bs.map bv)/\Ext w w'
theorem ol(v:Value)(bs:List UInt8)(w:World)(h:Bs w v bs)(hl:bs.length<=140737488355328):Calls E 147 #[v] w (nw w bs):=by
 obtain⟨A,c,rfl,h1,h2⟩:=xO h;obtain⟨q,hi,i,j,m⟩:=info_parts dC;have r:=λ(W:World)=>Lib.run_eql_slice_nil (P:=E) W;cases A with
 |none=>
  have hb:bs=[]:=by
   cases d:bs with
   |nil=>rfl
   |cons b l=>
    have:=(SlR.at_ h (by rw[d];simp)).2;obtain⟨_,_,e,_⟩:=this;cases e
  subst hb;go_enter func147,ntmps147
  go_wp2;go_ret;exact⟨_,rfl,World.ownsRow_nil _ _ _ _,xR _⟩
 |some a=>
  go_enter func147,ntmps147
  go_wp2_with (at_builtin;refine dT _ rfl (.tmp 5) (.tmp 6) 33 rfl w.heap.size 5 q (B V 0) 1 1 underlying33 hi i j m rfl (by decide) (I (C ⟨w.heap.size,0,H⟩) 0 0) 0 [] rfl (be w [] 5 0 (xN _)) _ bs.length (bs.map bv) rfl (SlR.ext h ((xR w).alloc _)) (de _) (by simp[maxLen];omega) (by omega) (by simp) ?_;intro s t g f)
  go_ret;refine⟨_,rfl,by simpa using g,?_⟩;refine Below.grown (xA (xR w) _) f (by simp) (λk p=>?_);have:w.heap.size=k:=by simpa[Pq]using p
  omega
theorem MY(n:Nat)(w:World)(hl:n<=140737488355328):Calls E 281 #[I none 0 0,B G n] w (nw w []):=by
 obtain⟨g,hi,b,d,e⟩:=info_parts dC;by_cases f:n=0
 ·subst f;go_enter func281,ntmps281
  go_wp2;go_ret;exact⟨_,rfl,World.ownsRow_nil _ _ _ _,xR _⟩
 ·go_enter func281,ntmps281
  go_wp2_with (at_builtin;refine Cv _ rfl (.tmp 20) (.tmp 21) 33 3 rfl 5 g (B V 0) underlying33 underlying3 hi b rfl d e n (by omega) hl rfl rfl ?_;intro b b b b b d)
  go_ret;exact⟨_,rfl,b,d⟩
end Go.Proofs.YteggfecbjgbndaaGreatDoor

namespace Go.Mv
open Go.RowKit
theorem D9(x:Nat)(h:x<18446744073709551616):bits .andNot .u64 (x:Int) 9223372036854775808=((x % 9223372036854775808:Nat):Int):=by
 have:=u64_andNot_nat x 9223372036854775808 h (by decide);rw[show((9223372036854775808:Nat):Int)=9223372036854775808 from rfl]at this;rw[this,show(18446744073709551615-9223372036854775808:Nat)=2^63-1 from rfl,Pe]
theorem FE(x:Nat)(h:x<9223372036854775808):bits .andNot .u64 (x:Int) 9218868437227405312=((x % 4503599627370496:Nat):Int):=by
 have:=u64_andNot_nat x 9218868437227405312 (by omega) (by decide);rw[show((9218868437227405312:Nat):Int)=9218868437227405312 from rfl]at this;rw[this];congr 1
 have b:x &&& (18446744073709551615-9218868437227405312)<=x:=Nat.and_le_left;rw[<-Ph (Nat.lt_of_le_of_lt b h),show(9223372036854775808:Nat)=2^63 from rfl,Nat.and_mod_two_pow,Ph (by omega:x<2^63),show(18446744073709551615-9218868437227405312:Nat) % 2^63=2^52-1 from rfl,Pe]
theorem Ci(s:Bool)(n:Nat)(hn:n<9007199254740992):fb s n<18446744073709551616:=by
 have:=(fS n hn).1;unfold fb;split<;>omega
theorem BZ(s:Bool)(n:Nat)(hn:n<9007199254740992):fb s n % 9223372036854775808=fb false n:=by
 have:=(fS n hn).1;unfold fb;cases s<;>simp<;>omega
theorem N6(n:Nat)(hn:n<9007199254740992):fb false n<9218868437227405312:=(fS n hn).1
theorem LB(n:Nat)(hn:n<9007199254740992):(P8.format.order (fb false n) 9218868437227405311==C .gt)=false:=by
 show(P7.order _ _==_)=_;obtain⟨b,hb⟩:=eD (aR false n (hn:=hn));have hm:P7.read 9218868437227405311=.number false 9007199254740991 971:=by decide
 unfold Ieee.Format.order;rw[hb,hm];unfold Ieee.Datum.order;dsimp only;have d:min (-(b:Int)) 971 = -(b:Int):=by omega
 rw[d,lS,dL,dL];have d:(-(b:Int) - -(b:Int)).toNat=0:=by omega
 have e:(971 - -(b:Int)).toNat=b+971:=by omega
 rw[d,e];obtain⟨q,d⟩:∃q,q=971:=⟨_,rfl⟩;rw[<-d];have h1:2^b*2<=2^(b+q):=by rw[<-Nat.pow_succ];exact Pf (by decide) (by omega)
 have h2:n*2^b<=9007199254740991*2^b:=Pd _ (by omega);have h3:9007199254740991*2^b<=9007199254740991*2^(b+q):=Nat.mul_le_mul_left _ (by omega);unfold al;simp only[Bool.false_eq_true,if_false,Nat.pow_zero,Nat.mul_one,decide_eq_false_iff_not];omega
theorem Fh(n:Nat)(e:0<n)(hn:n<9007199254740992):(P8.format.order (fb false n) 4503599627370496==C .lt)=false:=by
 show(P7.order _ _==_)=_;obtain⟨b,hb⟩:=eD (aR false n (hn:=hn));obtain⟨q,f,d⟩:∃q:Nat,-(q:Int) = -1074/\52<=q:=⟨1074,rfl,by decide⟩;have hm:P7.read 4503599627370496=.number false (2^52) (-(q:Int)):=by rw[f];decide
 unfold Ieee.Format.order;rw[hb,hm,lA,iw];have h1:2^52*2^b<=2^q*2^b:=Pd _ (Pf (by decide) d);have h2:1*(2^b*2^q)<=n*(2^b*2^q):=Pd _ e;have h3:2^q*2^b=2^b*2^q:=Nat.mul_comm _ _;rw[Nat.mul_assoc];unfold al;simp only[Bool.false_eq_true,if_false,decide_eq_false_iff_not];omega
theorem IT{x:Nat}{s:Bool}{n:Nat}(h:Fl x s n):(P8.format.order x x != some .eq)=false:=by
 show(P7.order _ _ != _)=_;rw[ig h h];simp only[bne,iu];simp
theorem mz(s:Bool){n:Nat}(b:0<n){x:Nat}(h:Fl x s n):(P8.format.order x 0==C .eq)=false:=by
 show(P7.order _ _==_)=_;rw[ig h fQ,iu];unfold al;cases s<;>simp<;>omega
theorem Mc(n:Nat)(b:0<n)(hn:n<9007199254740992):∃f,f<4503599627370496/\n.log2<=52/\fb false n=(n.log2+1023)*4503599627370496+f/\4503599627370496+f=n*2^(52-n.log2):=by
 obtain⟨_,h⟩:=fS n hn;obtain⟨h1,h2,h3⟩:=h (by omega);refine⟨n*2^(52-n.log2)-4503599627370496,by omega,h1,?_,by omega⟩;show cF n=_;unfold cF;rw[if_neg (by omega)];omega
end Go.Mv
namespace Go.Proofs.YteggfecbjgbndaaGreatDoor
open Go.RowKit Go.Mv
theorem qr(b:Nat)(w:World):(callFunc 316 #[.float .f64 b]).run E w=.ok (.value (.int .u64 b)) w:=by
 rw[run_callFunc_extern (P:=E) (hf:=func316) (e:=Extern.MathFloatBits.float64bits) (hname:=by kernel_rfl) (hb:=rfl) (hn:=by kernel_rfl) (he:=by kernel_rfl)];rfl
theorem pD(n:Int)(w:World):(callFunc 317 #[.int .u64 n]).run E w=.ok (.value (.float .f64 n.toNat)) w:=by
 rw[run_callFunc_extern (P:=E) (hf:=func317) (e:=Extern.MathFloatBits.float64frombits) (hname:=by kernel_rfl) (hb:=rfl) (hn:=by kernel_rfl) (he:=by kernel_rfl)];rfl
theorem Dn (x:Nat) (s:Bool) (M:Nat) (i:Int) (h:P7.read x=.number s M i) (w:World):(callFunc 310 #[.float .f64 x]).run E w=.ok (.value (.float .f64 (P7.write ((Ieee.Datum.number s M i).integral .zero)))) w:=by
 rw[run_callFunc_extern (P:=E) (hf:=func310) (e:=Extern.MathFloor.toIntegral "math.archTrunc" .zero) (hname:=by kernel_rfl) (hb:=rfl) (hn:=by kernel_rfl) (he:=by kernel_rfl)];have h2:P8.decode x=.number s M i:=h;conv in (Extern.MathFloor.toIntegral _ _ _)=>whnf
 simp only[h2];rfl
attribute [local go_sem] qr pD
theorem nr(x:Nat)(hx:x<18446744073709551616)(w:World):Calls E 314 #[.float .f64 x] w λe w'=>e=.returned (.float .f64 (x % 9223372036854775808))/\w=w':=by
 have h:=D9 x hx;go_enter func314,ntmps314
 go_wp2;go_ret;exact⟨rfl,rfl⟩
theorem mH(s:Bool)(n:Nat)(hn:n<9007199254740992)(w:World):Calls E 318 #[.float .f64 (fb s n),B G 0] w λe w'=>e=.returned (S false)/\w=w':=by
 have h:=LB n hn;have hl:=Ci s n hn;have hm:=BZ s n hn;go_enter func318,ntmps318
 go_wp2_with (go_at_call 314;refine(nr _ hl _).mono ?_;rintro e w' ⟨rfl,rfl⟩)
 go_ret;refine⟨?_,rfl⟩;exact rfl
theorem il(x:Nat)(s:Bool)(n:Nat)(hx:Fl x s n)(w:World):Calls E 319 #[.float .f64 x] w λe w'=>e=.returned (S false)/\w=w':=by
 have h:=IT hx;go_enter func319,ntmps319
 go_wp2;go_ret;exact⟨rfl,rfl⟩
theorem tD(n:Nat)(b:0<n)(hn:n<9007199254740992)(w:World):Calls E 327 #[.float .f64 (fb false n)] w λe w'=>e=.returned (.tuple #[.float .f64 (fb false n),B G 0])/\w=w':=by
 have h:=Fh n b hn;have hl:=Ci false n hn;have hm:=BZ false n hn;go_enter func327,ntmps327
 go_wp2_with (go_at_call 314;refine(nr _ hl _).mono ?_;rintro e w' ⟨rfl,rfl⟩)
 go_ret2;exact⟨rfl,rfl⟩
def frB(n:Nat):Nat:=4602678819172646912+fb false n % 4503599627370496
def frE(n:Nat):Int:=(fb false n / 4503599627370496:Nat)-1022
theorem LY(n:Nat)(b:0<n)(hn:n<9007199254740992)(w:World):Calls E 324 #[.float .f64 (fb false n)] w λe w'=>e=.returned (.tuple #[.float .f64 (frB n),B G (frE n)])/\w=w':=by
 have d:=mz false b (aR false n (hn:=hn));have i:=U (aR false n (hn:=hn));have hl:=N6 n hn;have f:frB n=4602678819172646912+fb false n % 4503599627370496:=rfl;have d:frE n=(fb false n / 4503599627370496:Nat)-1022:=rfl;have h:=U f;have g:=U d;have hI:=U (λw=>mH false n hn w);have k:=U (λw=>il _ false n i w);have j:=U (λw=>tD n b hn w);generalize fb false n=x at *;have b:bits .and .u64 ((x / 4503599627370496:Nat):Int) 2047=((x / 4503599627370496:Nat):Int):=by
  have:=bits_mask .u64 63 (by decide) (λn h1 h2=>by rw[IntKind.wrap_u64];omega) 11 (by decide) ((x / 4503599627370496:Nat):Int) (by omega) (by omega);rw[show((2:Int)^11-1)=2047 from rfl]at this;rw[this];omega
 have hb:bits .andNot .u64 (x:Int) 9218868437227405312=((x % 4503599627370496:Nat):Int):=FE x (by omega);have hc:bits .or .u64 ((x % 4503599627370496:Nat):Int) 4602678819172646912=((4602678819172646912+x % 4503599627370496:Nat):Int):=by
  rw[show(4602678819172646912:Int)=((4602678819172646912:Nat):Int)from rfl,u64_or_nat _ _ (by omega) (by decide),Nat.or_comm,show(4602678819172646912:Nat)=2^52*1022 from rfl,<-Nat.two_pow_add_eq_or_of_lt (by omega)]
 simp only[Int.natCast_ediv,Int.natCast_emod,Int.natCast_add,Int.cast_ofNat_Int]at b hb hc;go_enter func324,ntmps324
 go_wp2_with (first
  |(go_at_call 318;refine(hI _).mono ?_;rintro e w' ⟨rfl,rfl⟩)
  |(go_at_call 319;refine(k _).mono ?_;rintro e w' ⟨rfl,rfl⟩)
  |(go_at_call 327;refine(j _).mono ?_;rintro e w' ⟨rfl,rfl⟩))
 go_ret2;refine⟨?_,rfl⟩;rw[h.out,g.out];show Ending.returned (.tuple #[.float .f64 (4602678819172646912+x % 4503599627370496),B G ((x:Int) / 4503599627370496-1023+1)])=_;rw[show((x:Int) / 4503599627370496-1023+1)=((x / 4503599627370496:Nat):Int)-1022 from by omega]
theorem og(n:Nat)(b:0<n)(hn:n<9007199254740992)(w:World):Calls E 321 #[.float .f64 (fb false n)] w λe w'=>e=.returned (.tuple #[.float .f64 (frB n),B G (frE n)])/\w=w':=by
 have d:=U (λw=>LY n b hn w);go_enter func321,ntmps321
 go_wp2_with (go_at_call 324;refine(d _).mono ?_;rintro e w' ⟨rfl,rfl⟩)
 go_ret2;exact⟨rfl,rfl⟩
