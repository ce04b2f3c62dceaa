/- Merged -/
import Derived.Test.YteggfecbjgbndaaGreatDoorZx46
import Derived.Test.YteggfecbjgbndaaGreatDoorZx48
import Derived.Test.YteggfecbjgbndaaGreatDoorCards
import Derived.Test.YteggfecbjgbndaaGreatDoorTie
import Derived.SevenTiedAt
set_option linter.all false
set_option maxHeartbeats 8000000
set_option maxRecDepth 100000
open Go.Proofs.Tryz
open Go.IntKind renaming signed->P0,bits->P1,min->P2,max->P3
namespace Go.Proofs.YteggfecbjgbndaaGreatDoor.writeParts
open Go.ChangeShapes Go.WideShapes Go.ChangeAt Go.RowKit Go.Deep Go.Mv Go.WideElems
theorem contract(H:Type)(enc:TypeId×Value->H)(W:World)(base:Nat)(args:Array Value)(f s:List (DataW H))(o:List MemPlace)(H4:∀(j:Nat) t v,Tryz.f5.params[j]?=some t->args[j]?=some v->Value.okWide Tryz.prog W .any base t v)(i:DataW.Whole enc Tryz.prog Tryz.f5.params.toList Rows.writePartsSpec.vars false W args.toList f s o)(o:laidMetH Tryz.prog Rows.writePartsRow.laid W):
  Calls Tryz.prog 5 args W λe W'=>∃v,e=.returned v/\Rows.writePartsSpec.post enc Tryz.prog Tryz.f5 false true false false W args v W':=by
 have a:∀(j:Nat) t v,Tryz.f5.params[j]?=some t->args[j]?=some v->Value.okWide Tryz.prog W .any base t v:=H4;have d:=i;have x:=zyG o;obtain⟨p,q,r,y,rfl,o,o⟩:=i;have g:DataW.TrodAll enc Tryz.prog W 0 (λ_=>true) true Tryz.f5.params.toList args.toList f p:=r;rw[Tryz.params5]at g a;obtain⟨k,f,f,f,f,f,f,rfl,rfl,w,z⟩:=trodAll_cons g;obtain⟨l,f,f,f,f,f,rfl,rfl,rfl,h1,A⟩:=trodAll_cons z;obtain⟨rfl,rfl,rfl⟩:=trodAll_nil A;obtain rfl:args = #[k,l]:=by cases args;simp_all
 obtain⟨rfl,rfl⟩:=trodVars_none y;obtain⟨b,rfl,rfl,rfl,m⟩:=open_int underlying3 (a 0 3 k rfl rfl) w;obtain⟨c,rfl,rfl,rfl,n⟩:=open_int underlying3 (a 1 3 l rfl rfl) h1;simp only[List.append_nil,xI]at d;refine(zx8 b c W x (by have h:-9223372036854775808<=b/\b<=9223372036854775807:=(by simpa[Lit.wf,P2,P3,P0,P1]using m);exact h) (by have h:-9223372036854775808<=c/\c<=9223372036854775807:=(by simpa[Lit.wf,P2,P3,P0,P1]using n);exact h.1)).mono λe W' ⟨he,hE⟩=>?_;subst he;exact⟨_,rfl,Dg (pa:=_) (pv:=[]) d (λ_ _ _=>trodAll_cons_mk (shut_bool underlying4 _) trodAll_mk0)
  (λa a=>(trodAll_cons_mk (shut_int underlying3 m) (trodAll_cons_mk (shut_int underlying3 n) trodAll_mk0))) (λ_ _=>rfl) (by simp) hE (ok_one (by kernel_rfl) rfl (okWide_bool_mk underlying4 _))⟩
theorem laid_met(a:Os):laidMetH Tryz.prog Rows.writePartsRow.laid ((World.doorLaid Tryz.prog 400 a).forCall (λ_ _=>0) ⟨#[],#[.int .i64 0,.int .i64 0],[]⟩).memory:=
 laidMetH_of_parts3 (fuel:=8) (laidMet_of_run' 8 (by kernel_rfl) (by kernel_rfl)) (by kernel_rfl) (by kernel_rfl)
theorem reads(a:Os){H:Type}(enc:TypeId×Value->H):∃H3,DataW.whole enc Tryz.prog ((World.doorLaid Tryz.prog 400 a).forCall (λ_ _=>0) ⟨#[],#[.int .i64 0,.int .i64 0],[]⟩).memory Tryz.f5.params.toList Rows.writePartsSpec.vars false (#[.int .i64 0,.int .i64 0]:Array Value).toList 8=some ([.lit (.int .i64 0),.lit (.int .i64 0)],[],H3):=
 ⟨[],by kernel_rfl⟩
theorem lifted(a:Os)(H0:a.Started)(H:Type)(enc:TypeId×Value->H)(I:Stop.Interp):
  ReturnsInHanded {} Tryz.checked a 5 .any ((_root_.Go.OpenSpec.ofChange Rows.writePartsSpec).preRow enc Tryz.prog Tryz.f5 Rows.writePartsRow.domain false Rows.writePartsRow.laid) (((_root_.Go.OpenSpec.ofChange Rows.writePartsSpec).at I).post enc Tryz.prog Tryz.f5 false true false false):=by
 obtain⟨H3,hx⟩:=reads a enc;refine returnsInHanded_of_row (C:=Tryz.checked) (s:=_root_.Go.OpenSpec.ofChange Rows.writePartsSpec) own H0 (by kernel_rfl) func5
  (witness_row_at (enc:=enc) (C:=Tryz.checked) false (World.doorLaid Tryz.prog 400 a) #[.int .i64 0,.int .i64 0] rfl (by kernel_rfl) (by kernel_rfl) (by kernel_rfl)
    (OpenSpec.preRow_of_cond 8 hx (by kernel_rfl) (λk hk=>by cases hk) (by kernel_rfl) (laid_met a))) ?_
 intro W base args c d a b f _ _ _ e _ _;exact contract H enc W base args c d a b f e
theorem over:Rows.WritePartsSaid:=
 OpenClaim.holds_of_cond 5 Tryz.f5 rfl rfl rfl rfl rfl rfl rfl ⟨rfl,rfl,rfl,rfl,rfl⟩ rfl rfl rfl rfl rfl (by kernel_rfl) func5 yaj
  (of_decide_eq_true (by kernel_rfl)) (by unfold Func.isWrapper;first | (rw[if_pos (by decide +kernel)];kernel_rfl) | (rw[if_neg (by decide +kernel)];exact⟨rfl,rfl⟩))
  (λa H0 H enc _ I=>by rw[OpenClaim.pre_eq_preRow];exact lifted a H0 H enc I)
theorem proved:Rows.WritePartsCardSaid :=
 Claim7.holds_tied_plain_at .later [] _ _ _ _ over (fun _ h=>by cases h) (by kernel_rfl) (fun _ h=>by cases h) writeParts_row_tie rfl ⟨rfl,rfl⟩ (by kernel_rfl) rfl
  (fun f fn hf hfn=>by
    obtain rfl:f=5:=Option.some.inj ((show Tryz.prog.funcNamed "moult/moultlaw14.WriteParts"=some 5 by kernel_rfl).symm.trans hf) |>.symm;obtain rfl:fn=Tryz.f5:=(Option.some.inj (func5.symm.trans hfn)).symm;exact ⟨by kernel_rfl,fun j t ht=>by
     rw[Tryz.params5] at ht;have hm:t∈[3,3]:=by simpa using Array.mem_of_getElem? ht
     have H5:([3,3].all fun u=>!Tryz.prog.wantsStandIn u)=true:=by kernel_rfl
     exact (show Tryz.prog.wantsStandIn t=false by simpa using List.all_eq_true.1 H5 t hm)⟩)
  (by kernel_rfl)
#print axioms proved
end Go.Proofs.YteggfecbjgbndaaGreatDoor.writeParts
