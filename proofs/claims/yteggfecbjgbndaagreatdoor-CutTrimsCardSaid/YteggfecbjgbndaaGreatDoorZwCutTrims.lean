/- Merged -/
import Derived.Test.YteggfecbjgbndaaGreatDoorZw46
import Derived.Test.YteggfecbjgbndaaGreatDoorZw48
import Derived.Test.YteggfecbjgbndaaGreatDoorCards
import Derived.Test.YteggfecbjgbndaaGreatDoorTie
import Derived.SevenTiedAt
set_option linter.all false
set_option maxHeartbeats 8000000
set_option maxRecDepth 100000
namespace Go.Proofs.YteggfecbjgbndaaGreatDoor.cutTrims
open Go.ChangeShapes Go.WideShapes Go.ChangeAt Go.RowKit Go.Deep Go.Mv Go.WideElems
theorem contract (H:Type) (enc:TypeId×Value→H) (W:World) (base:Nat) (args:Array Value) (ds gs:List (DataW H)) (H1:List MemPlace)
  (H4:∀ (j:Nat) t v,Tryz.f4.params[j]?=some t→args[j]?=some v→Value.okWide Tryz.prog W .any base t v)
  (hW:DataW.Whole enc Tryz.prog Tryz.f4.params.toList Rows.cutTrimsSpec.vars false W args.toList ds gs H1) (hL:laidMetH Tryz.prog Rows.cutTrimsRow.laid W) :
  Calls Tryz.prog 4 args W fun e W'=>∃ v,e=.returned v∧Rows.cutTrimsSpec.post enc Tryz.prog Tryz.f4 false true false false W args v W':=by
 have H2:∀ (j:Nat) t v,Tryz.f4.params[j]?=some t→args[j]?=some v→Value.okWide Tryz.prog W .any base t v:=H4
 have H5:=hW;obtain ⟨hT,Ha⟩:=zmR hL;obtain ⟨p,q,H7,hV,rfl,Hf,Hh⟩:=hW
 have hA:DataW.TrodAll enc Tryz.prog W 0 (fun _=>true) true Tryz.f4.params.toList args.toList ds p:=H7
 rw[Tryz.params4] at hA H2;obtain ⟨v0,Hi,d0,Hc,p0,q0,H8,rfl,rfl,h0,r0⟩:=trodAll_cons hA;obtain ⟨v1,Hj,d1,Hd,p1,q1,rfl,rfl,rfl,h1,r1⟩:=trodAll_cons r0;obtain ⟨v2,Hk,d2,He,p2,q2,rfl,rfl,rfl,h2,r2⟩:=trodAll_cons r1;obtain ⟨rfl,rfl,rfl⟩:=trodAll_nil r2
 obtain rfl:args = #[v0,v1,v2]:=by cases args;simp_all
 obtain ⟨rfl,rfl⟩:=trodVars_none hV;obtain ⟨m0,u0,rfl,H9,Hg⟩:=znE (H2 0 30 v0 rfl rfl) h0;obtain ⟨a1,rfl,rfl,rfl,w1⟩:=open_int Tryz.underlying3 (H2 1 3 v1 rfl rfl) h1;obtain ⟨a2,rfl,rfl,rfl,w2⟩:=open_int Tryz.underlying3 (H2 2 3 v2 rfl rfl) h2;clear H7 H4;simp only[List.append_nil,xI] at H5
 refine (zlJ m0 u0 a1 a2 W hT Ha H9).mono fun e W' ⟨he,hE⟩=>?_
 subst he
 exact ⟨_,rfl,zlj (pa:=_) (pv:=[]) H5 (fun _ _ _=>trodAll_cons_mk (shut_bool Tryz.underlying4 _) trodAll_mk0)
  (fun sp Hb=>(trodAll_cons_mk (WideElems.Trod_stays ztV (by kernel_rfl) (of_decide_eq_true (by kernel_rfl)) h0 (fun x hx=>hE.same (H5.lt x (by simp[hx]))) (fun x hx=>Hb x (by simp[hx]))) (trodAll_cons_mk (shut_int Tryz.underlying3 w1) (trodAll_cons_mk (shut_int Tryz.underlying3 w2) trodAll_mk0)))) (fun _ _=>rfl) (by simp) hE (ok_one (by kernel_rfl) rfl (okWide_bool_mk Tryz.underlying4 _))⟩
theorem laid_met (os:Os):laidMetH Tryz.prog Rows.cutTrimsRow.laid ((World.doorLaid Tryz.prog 400 os).forCall (fun _ _=>0) ⟨#[],#[.agg #[.int .i64 0,.int .i64 0,.int .i64 0,.int .i64 0,.int .i64 0,.slice none 0 0],.int .i64 0,.int .i64 0],[]⟩).memory :=
 laidMetH_of_parts3 (fuel:=8) (laidMet_of_run' 8 (by kernel_rfl) (by kernel_rfl)) (by kernel_rfl) (by kernel_rfl)
theorem reads (os:Os) {H:Type} (enc:TypeId×Value→H):∃ H3,DataW.whole enc Tryz.prog ((World.doorLaid Tryz.prog 400 os).forCall (fun _ _=>0) ⟨#[],#[.agg #[.int .i64 0,.int .i64 0,.int .i64 0,.int .i64 0,.int .i64 0,.slice none 0 0],.int .i64 0,.int .i64 0],[]⟩).memory Tryz.f4.params.toList Rows.cutTrimsSpec.vars false (#[.agg #[.int .i64 0,.int .i64 0,.int .i64 0,.int .i64 0,.int .i64 0,.slice none 0 0],.int .i64 0,.int .i64 0]:Array Value).toList 8=some ([.agg [.lit (.int .i64 0),.lit (.int .i64 0),.lit (.int .i64 0),.agg [.lit (.int .i64 0),.lit (.int .i64 0)],.nil],.lit (.int .i64 0),.lit (.int .i64 0)],[],H3) :=
 ⟨[],by kernel_rfl⟩
theorem lifted (os:Os) (H0:os.Started) (H:Type) (enc:TypeId×Value→H) (I:Stop.Interp) :
  ReturnsInHanded {} Tryz.checked os 4 .any ((_root_.Go.OpenSpec.ofChange Rows.cutTrimsSpec).preRow enc Tryz.prog Tryz.f4 Rows.cutTrimsRow.domain false Rows.cutTrimsRow.laid) (((_root_.Go.OpenSpec.ofChange Rows.cutTrimsSpec).at I).post enc Tryz.prog Tryz.f4 false true false false):=by
 obtain ⟨H3,hx⟩:=reads os enc
 refine returnsInHanded_of_row (C:=Tryz.checked) (s:=_root_.Go.OpenSpec.ofChange Rows.cutTrimsSpec) own H0 (by kernel_rfl) Tryz.func4
  (witness_row_at (enc:=enc) (C:=Tryz.checked) false (World.doorLaid Tryz.prog 400 os) #[.agg #[.int .i64 0,.int .i64 0,.int .i64 0,.int .i64 0,.int .i64 0,.slice none 0 0],.int .i64 0,.int .i64 0] rfl (by kernel_rfl) (by kernel_rfl) (by kernel_rfl)
    (OpenSpec.preRow_of_cond 8 hx (by kernel_rfl) (fun k hk=>by cases hk) (by kernel_rfl) (laid_met os))) ?_
 intro W base args ds gs H1 H2 hW _ _ _ hL _ _
 exact contract H enc W base args ds gs H1 H2 hW hL
theorem over:Rows.CutTrimsSaid :=
 OpenClaim.holds_of_cond 4 Tryz.f4 rfl rfl rfl rfl rfl rfl rfl ⟨rfl,rfl,rfl,rfl,rfl⟩ rfl rfl rfl rfl rfl (by kernel_rfl) Tryz.func4 ztI
  (of_decide_eq_true (by kernel_rfl)) (by unfold Func.isWrapper;first | (rw[if_pos (by decide +kernel)];kernel_rfl) | (rw[if_neg (by decide +kernel)];exact ⟨rfl,rfl⟩))
  (fun os H0 H enc _ I=>by rw[OpenClaim.pre_eq_preRow];exact lifted os H0 H enc I)
theorem proved:Rows.CutTrimsCardSaid :=
 Claim7.holds_tied_plain_at .later [] _ _ _ _ over (fun _ h=>by cases h) (by kernel_rfl) (fun _ h=>by cases h) cutTrims_row_tie rfl ⟨rfl,rfl⟩ (by kernel_rfl) rfl
  (fun f fn hf hfn=>by
    obtain rfl:f=4:=Option.some.inj ((show Tryz.prog.funcNamed "moult/moultlaw15.CutTrims"=some 4 by kernel_rfl).symm.trans hf) |>.symm
    obtain rfl:fn=Tryz.f4:=(Option.some.inj (Tryz.func4.symm.trans hfn)).symm
    exact ⟨by kernel_rfl,fun j t ht=>by
     rw[Tryz.params4] at ht
     have hm:t∈[30,3,3]:=by simpa using Array.mem_of_getElem? ht
     have H6:([30,3,3].all fun u=>!Tryz.prog.wantsStandIn u)=true:=by kernel_rfl
     exact (show Tryz.prog.wantsStandIn t=false by simpa using List.all_eq_true.1 H6 t hm)⟩)
  (by kernel_rfl)
#print axioms proved
end Go.Proofs.YteggfecbjgbndaaGreatDoor.cutTrims
