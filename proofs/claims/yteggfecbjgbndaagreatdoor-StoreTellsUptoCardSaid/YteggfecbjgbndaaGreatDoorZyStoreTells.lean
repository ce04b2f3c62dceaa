/- Merged -/
import Derived.Test.YteggfecbjgbndaaGreatDoorZy46
import Derived.Test.YteggfecbjgbndaaGreatDoorZy48
import Derived.Test.YteggfecbjgbndaaGreatDoorZyCf
import Derived.Test.YteggfecbjgbndaaGreatDoorCards
import Derived.Test.YteggfecbjgbndaaGreatDoorTie
import Derived.SevenTiedAt
set_option linter.all false
set_option maxHeartbeats 8000000
set_option maxRecDepth 100000
open Go.WideElems renaming Trod_stays->P0
open Nat renaming le_trans->P1
namespace Go.Proofs.YteggfecbjgbndaaGreatDoor.storeTells
open Go.ChangeShapes Go.WideShapes Go.ChangeAt Go.RowKit Go.Deep Go.Mv Go.WideElems
theorem contract(H:Type)(enc:TypeId×Value->H)(W:World)(base:Nat)(args:Array Value)(c g:List (DataW H))(z:List MemPlace)(A:∀(j:Nat) t v,Tryz.f3.params[j]?=some t->args[j]?=some v->Value.okWide Tryz.prog W .any base t v)(l:DataW.Whole enc Tryz.prog Tryz.f3.params.toList Rows.storeTellsSpec.vars false W args.toList c g z)(z:Rows.uptoSmall H (c++g)=true)(g:laidMetH Tryz.prog Rows.storeTellsUptoRow.laid W):
  Calls Tryz.prog 3 args W λe W'=>∃v,e=.returned v/\Rows.storeTellsSpec.post enc Tryz.prog Tryz.f3 false true false false W args v W':=by
 have b:∀(j:Nat) t v,Tryz.f3.params[j]?=some t->args[j]?=some v->Value.okWide Tryz.prog W .any base t v:=A;have a:=l;have S:=EJ g;have hb:=of_decide_eq_true z;obtain⟨p,q,C,T,rfl,g,g⟩:=l;have k:DataW.TrodAll enc Tryz.prog W 0 (λ_=>true) true Tryz.f3.params.toList args.toList c p:=C;rw[Tryz.params3]at k b;obtain⟨d,c,L,c,c,c,c,rfl,rfl,h,Y⟩:=trodAll_cons k;obtain⟨m,c,M,c,c,c,rfl,rfl,rfl,h1,Z⟩:=trodAll_cons Y;obtain⟨n,c,N,c,c,c,rfl,rfl,rfl,h2,r2⟩:=trodAll_cons Z;obtain⟨o,c,c,c,c,c,rfl,rfl,rfl,h3,r3⟩:=trodAll_cons r2;obtain⟨r,c,O,Hl,c,c,rfl,rfl,rfl,h4,r4⟩:=trodAll_cons r3;obtain⟨s,c,P,c,c,c,rfl,rfl,rfl,h5,r5⟩:=trodAll_cons r4;obtain⟨w,c,c,c,c,c,rfl,rfl,rfl,i,r6⟩:=trodAll_cons r5;obtain⟨rfl,rfl,rfl⟩:=trodAll_nil r6;obtain rfl:args = #[d,m,n,o,r,s,w]:=by cases args;simp_all
 obtain⟨rfl,rfl⟩:=trodVars_none T;have c:Rows.uptoBulk L<=1048576:=P1 (iL (by simp)) hb;obtain⟨V,I,c,hf0⟩:=FU (b 0 22 d rfl rfl) h;have c:Rows.uptoBulk M<=1048576:=P1 (iL (by simp)) hb;obtain⟨y,F,c,c,B⟩:=FP (b 1 25 m rfl rfl) h1;have c:Rows.uptoBulk N<=1048576:=P1 (iL (by simp)) hb;obtain⟨X,u2,rfl,G,c⟩:=Fa (b 2 30 n rfl rfl) h2;obtain⟨U,s3,Q,rfl⟩:=Fz (b 3 32 o rfl rfl) h3;have c:Rows.uptoBulk O<=1048576:=P1 (iL (by simp)) hb;obtain⟨J,D,c⟩:=DG (b 4 33 r rfl rfl) h4;have c:Rows.uptoBulk P<=1048576:=P1 (iL (by simp)) hb;obtain⟨K,E,c⟩:=EZ (b 5 34 s rfl rfl) h5;obtain⟨R,rfl⟩:=EF (b 6 36 w rfl rfl) i;simp only[List.append_nil,xI]at a;refine(D4 d V _ y X u2 U s3 Q _ J _ K R W S I F B G D E (by omega) (λf hf=>by have:=hf0 f hf;omega) (by omega) (by omega) (by omega) (by omega) (by omega)).mono λe W' ⟨he,hE⟩=>?_;subst he;exact⟨_,rfl,Dg (pa:=_) (pv:=[]) a (λ_ _ _=>trodAll_cons_mk (shut_bool Tryz.underlying4 _) trodAll_mk0)
  (λb b=>(trodAll_cons_mk (P0 iV (by kernel_rfl) (of_decide_eq_true (by kernel_rfl)) h (λx hx=>hE.same (a.lt x (by simp[hx]))) (λx hx=>b x (by simp[hx]))) (trodAll_cons_mk (P0 iV (by kernel_rfl) (of_decide_eq_true (by kernel_rfl)) h1 (λx hx=>hE.same (a.lt x (by simp[hx]))) (λx hx=>b x (by simp[hx]))) (trodAll_cons_mk (P0 iV (by kernel_rfl) (of_decide_eq_true (by kernel_rfl)) h2 (λx hx=>hE.same (a.lt x (by simp[hx]))) (λx hx=>b x (by simp[hx]))) (trodAll_cons_mk (P0 iV (by kernel_rfl) (of_decide_eq_true (by kernel_rfl)) h3 (λx hx=>hE.same (a.lt x (by simp[hx]))) (λx hx=>b x (by simp[hx]))) (trodAll_cons_mk (P0 iV (by kernel_rfl) (of_decide_eq_true (by kernel_rfl)) h4 (λx hx=>hE.same (a.lt x (by simp[hx]))) (λx hx=>b x (by simp[hx]))) (trodAll_cons_mk (P0 iV (by kernel_rfl) (of_decide_eq_true (by kernel_rfl)) h5 (λx hx=>hE.same (a.lt x (by simp[hx]))) (λx hx=>b x (by simp[hx]))) (trodAll_cons_mk (P0 iV (by kernel_rfl) (of_decide_eq_true (by kernel_rfl)) i (λx hx=>hE.same (a.lt x (by simp[hx]))) (λx hx=>b x (by simp[hx]))) trodAll_mk0)))))))) (λ_ _=>rfl) (by simp) hE (ok_one (by kernel_rfl) rfl (okWide_bool_mk Tryz.underlying4 _))⟩
theorem laid_met(a:Os):laidMetH Tryz.prog Rows.storeTellsUptoRow.laid ((World.doorLaid Tryz.prog 400 a).forCall (λ_ _=>0) ⟨#[],#[.slice none 0 0,.agg #[.slice none 0 0,.slice none 0 0,.int .i64 0,.int .i64 0,.bool false],.agg #[.int .i64 0,.int .i64 0,.int .i64 0,.int .i64 0,.int .i64 0,.slice none 0 0],.agg #[.int .u8 0,.int .i64 0,.int .i64 0],.slice none 0 0,.slice none 0 0,.agg #[.int .i64 0,.int .i64 0,.int .i64 0,.int .i64 0]],[]⟩).memory:=
 laidMetH_of_parts3 (fuel:=8) (laidMet_of_run' 8 (by kernel_rfl) (by kernel_rfl)) (by kernel_rfl) (by kernel_rfl)
theorem reads(a:Os){H:Type}(enc:TypeId×Value->H):∃H3,DataW.whole enc Tryz.prog ((World.doorLaid Tryz.prog 400 a).forCall (λ_ _=>0) ⟨#[],#[.slice none 0 0,.agg #[.slice none 0 0,.slice none 0 0,.int .i64 0,.int .i64 0,.bool false],.agg #[.int .i64 0,.int .i64 0,.int .i64 0,.int .i64 0,.int .i64 0,.slice none 0 0],.agg #[.int .u8 0,.int .i64 0,.int .i64 0],.slice none 0 0,.slice none 0 0,.agg #[.int .i64 0,.int .i64 0,.int .i64 0,.int .i64 0]],[]⟩).memory Tryz.f3.params.toList Rows.storeTellsSpec.vars false (#[.slice none 0 0,.agg #[.slice none 0 0,.slice none 0 0,.int .i64 0,.int .i64 0,.bool false],.agg #[.int .i64 0,.int .i64 0,.int .i64 0,.int .i64 0,.int .i64 0,.slice none 0 0],.agg #[.int .u8 0,.int .i64 0,.int .i64 0],.slice none 0 0,.slice none 0 0,.agg #[.int .i64 0,.int .i64 0,.int .i64 0,.int .i64 0]]:Array Value).toList 8=some ([.nil,.agg [.nil,.nil,.lit (.int .i64 0),.lit (.int .i64 0),.lit (.bool false)],.agg [.lit (.int .i64 0),.lit (.int .i64 0),.lit (.int .i64 0),.agg [.lit (.int .i64 0),.lit (.int .i64 0)],.nil],.agg [.lit (.int .u8 0),.lit (.int .i64 0),.lit (.int .i64 0)],.nil,.nil,.agg [.lit (.int .i64 0),.lit (.int .i64 0),.lit (.int .i64 0),.lit (.int .i64 0)]],[],H3):=
 ⟨[],by kernel_rfl⟩
theorem lifted(a:Os)(H1:a.Started)(H:Type)(enc:TypeId×Value->H)(I:Stop.Interp):
  ReturnsInHanded {} Tryz.checked a 3 .any ((Rows.OpenSpec.upto Rows.storeTellsSpec).preRow enc Tryz.prog Tryz.f3 Rows.storeTellsUptoRow.domain false Rows.storeTellsUptoRow.laid) (((Rows.OpenSpec.upto Rows.storeTellsSpec).at I).post enc Tryz.prog Tryz.f3 false true false false):=by
 obtain⟨H3,hx⟩:=reads a enc;refine returnsInHanded_of_row (C:=Tryz.checked) (s:=Rows.OpenSpec.upto Rows.storeTellsSpec) own H1 (by kernel_rfl) Tryz.func3
  (witness_row_at (enc:=enc) (C:=Tryz.checked) false (World.doorLaid Tryz.prog 400 a) #[.slice none 0 0,.agg #[.slice none 0 0,.slice none 0 0,.int .i64 0,.int .i64 0,.bool false],.agg #[.int .i64 0,.int .i64 0,.int .i64 0,.int .i64 0,.int .i64 0,.slice none 0 0],.agg #[.int .u8 0,.int .i64 0,.int .i64 0],.slice none 0 0,.slice none 0 0,.agg #[.int .i64 0,.int .i64 0,.int .i64 0,.int .i64 0]] rfl (by kernel_rfl) (by kernel_rfl) (by kernel_rfl)
    (OpenSpec.preRow_of_cond 8 hx (by kernel_rfl) (λk b=>by cases b;kernel_rfl) (by kernel_rfl) (laid_met a))) ?_
 intro W base args d e b a g _ c _ f _ _;exact contract H enc W base args d e b a g (c _ rfl) f
theorem over:Rows.StoreTellsUptoSaid:=
 OpenClaim.holds_of_cond 3 Tryz.f3 rfl rfl rfl rfl rfl rfl rfl ⟨rfl,rfl,rfl,rfl,rfl⟩ rfl rfl rfl rfl rfl (by kernel_rfl) Tryz.func3 closedF
  (of_decide_eq_true (by kernel_rfl)) (by unfold Func.isWrapper;first | (rw[if_pos (by decide +kernel)];kernel_rfl) | (rw[if_neg (by decide +kernel)];exact⟨rfl,rfl⟩))
  (λa H1 H enc _ I=>by rw[OpenClaim.pre_eq_preRow];exact lifted a H1 H enc I)
theorem proved:Rows.StoreTellsUptoCardSaid :=
 Claim7.holds_tied_plain_at .later [] _ _ _ _ over (fun _ h=>by cases h) (by kernel_rfl) (fun _ h=>by cases h) storeTellsUpto_row_tie rfl ⟨rfl,rfl⟩ (by kernel_rfl) rfl
  (fun f fn hf hfn=>by
    obtain rfl:f=3:=Option.some.inj ((show Tryz.prog.funcNamed "moult/moultlaw13.StoreTells"=some 3 by kernel_rfl).symm.trans hf) |>.symm;obtain rfl:fn=Tryz.f3:=(Option.some.inj (Tryz.func3.symm.trans hfn)).symm;exact ⟨by kernel_rfl,fun j t ht=>by
     rw[Tryz.params3] at ht;have hm:t∈[22,25,30,32,33,34,36]:=by simpa using Array.mem_of_getElem? ht
     have H8:([22,25,30,32,33,34,36].all fun u=>!Tryz.prog.wantsStandIn u)=true:=by kernel_rfl
     exact (show Tryz.prog.wantsStandIn t=false by simpa using List.all_eq_true.1 H8 t hm)⟩)
  (by kernel_rfl)
#print axioms proved
end Go.Proofs.YteggfecbjgbndaaGreatDoor.storeTells
