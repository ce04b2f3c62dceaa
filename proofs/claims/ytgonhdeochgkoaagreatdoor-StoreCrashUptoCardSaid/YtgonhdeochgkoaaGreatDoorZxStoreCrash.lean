/- Merged -/
import Derived.Test.YtgonhdeochgkoaaGreatDoorZx42
import Derived.Test.YtgonhdeochgkoaaGreatDoorZx44
import Derived.Test.YtgonhdeochgkoaaGreatDoorCards
import Derived.Test.YtgonhdeochgkoaaGreatDoorTie
import Derived.SevenTiedAt
set_option linter.all false
set_option maxHeartbeats 8000000
set_option maxRecDepth 100000
namespace Go.Proofs.YtgonhdeochgkoaaGreatDoor.storeCrash
open Go.ChangeShapes Go.WideShapes Go.ChangeAt Go.RowKit Go.Deep Go.Mv Go.WideElems
set_option maxRecDepth 100000 in
theorem contract (H:Type) (enc:TypeId×Value→H) (W:World) (base:Nat) (args:Array Value) (ds gs:List (DataW H)) (H2:List MemPlace)
  (H4:∀ (j:Nat) t v,Tryz.f3.params[j]?=some t→args[j]?=some v→Value.okWide Tryz.prog W .any base t v)
  (hW:DataW.Whole enc Tryz.prog Tryz.f3.params.toList Rows.storeCrashSpec.vars false W args.toList ds gs H2) (hk:Rows.uptoSmall H (ds++gs)=true) (hL:laidMetH Tryz.prog Rows.storeCrashUptoRow.laid W) :
  Calls Tryz.prog 3 args W fun e W'=>∃ v,e=.returned v∧Rows.storeCrashSpec.post enc Tryz.prog Tryz.f3 false true false false W args v W':=by
 have H1:∀ (j:Nat) t v,Tryz.f3.params[j]?=some t→args[j]?=some v→Value.okWide Tryz.prog W .any base t v:=H4
 have H6:=hW;have hT:=zom hL;have hb:=of_decide_eq_true hk;obtain ⟨p,q,H9,hV,rfl,Hl,Hn⟩:=hW
 have hA:DataW.TrodAll enc Tryz.prog W 0 (fun _=>true) true Tryz.f3.params.toList args.toList ds p:=H9
 rw[Tryz.params3] at hA H1;obtain ⟨v0,Hp,d0,He,p0,q0,Ha,rfl,rfl,h0,r0⟩:=trodAll_cons hA;obtain ⟨v1,Hq,d1,Hf,p1,q1,rfl,rfl,rfl,h1,r1⟩:=trodAll_cons r0;obtain ⟨v2,Hr,d2,Hg,p2,q2,rfl,rfl,rfl,h2,r2⟩:=trodAll_cons r1;obtain ⟨v3,Hs,d3,Hh,p3,q3,rfl,rfl,rfl,h3,r3⟩:=trodAll_cons r2;obtain ⟨v4,Ht,d4,Hi,p4,q4,rfl,rfl,rfl,h4,r4⟩:=trodAll_cons r3;obtain ⟨rfl,rfl,rfl⟩:=trodAll_nil r4
 obtain rfl:args = #[v0,v1,v2,v3,v4]:=by cases args;simp_all
 obtain ⟨rfl,rfl⟩:=trodVars_none hV
 have Hj:Rows.uptoBulk d0≤1048576:=Nat.le_trans (zhY (by simp)) hb
 obtain ⟨D0,Hc,hf0,Ho,H8⟩:=zph (H1 0 25 v0 rfl rfl) h0
 have Hk:Rows.uptoBulk d1≤1048576:=Nat.le_trans (zhY (by simp)) hb
 obtain ⟨m1,u1,rfl,Hd,Hm⟩:=znW (H1 1 30 v1 rfl rfl) h1;obtain ⟨a2,rfl,rfl,rfl,w2⟩:=open_int Tryz.underlying3 (H1 2 3 v2 rfl rfl) h2;obtain ⟨a3,rfl,rfl,rfl,w3⟩:=open_int Tryz.underlying3 (H1 3 3 v3 rfl rfl) h3;obtain ⟨a4,rfl,rfl,rfl,w4⟩:=open_int Tryz.underlying3 (H1 4 3 v4 rfl rfl) h4;clear H9 H4;simp only[List.append_nil,xI] at H6
 refine (zns _ D0 m1 u1 a2 a3 a4 W hT Hc H8 Hd (by omega) (by omega) (by omega) (by have h:-9223372036854775808≤a2∧a2≤9223372036854775807:=(by simpa [Lit.wf,IntKind.min,IntKind.max,IntKind.signed,IntKind.bits] using w2);exact h.2)).mono fun e W' ⟨he,hE⟩=>?_
 subst he
 exact ⟨_,rfl,zlJ (pa:=_) (pv:=[]) H6 (fun _ _ _=>trodAll_cons_mk (shut_bool Tryz.underlying4 _) trodAll_mk0)
  (fun sp Hb=>(trodAll_cons_mk (WideElems.Trod_stays zoC (by kernel_rfl) (of_decide_eq_true (by kernel_rfl)) h0 (fun x hx=>hE.same (H6.lt x (by simp[hx]))) (fun x hx=>Hb x (by simp[hx]))) (trodAll_cons_mk (WideElems.Trod_stays zoC (by kernel_rfl) (of_decide_eq_true (by kernel_rfl)) h1 (fun x hx=>hE.same (H6.lt x (by simp[hx]))) (fun x hx=>Hb x (by simp[hx]))) (trodAll_cons_mk (shut_int Tryz.underlying3 w2) (trodAll_cons_mk (shut_int Tryz.underlying3 w3) (trodAll_cons_mk (shut_int Tryz.underlying3 w4) trodAll_mk0)))))) (fun _ _=>rfl) (by simp) hE (ok_one (by kernel_rfl) rfl (okWide_bool_mk Tryz.underlying4 _))⟩
theorem laid_met (os:Os):laidMetH Tryz.prog Rows.storeCrashUptoRow.laid ((World.doorLaid Tryz.prog 400 os).forCall (fun _ _=>0) ⟨#[],#[.agg #[.slice none 0 0,.slice none 0 0,.int .i64 0,.int .i64 0,.bool false],.agg #[.int .i64 0,.int .i64 0,.int .i64 0,.int .i64 0,.int .i64 0,.slice none 0 0],.int .i64 0,.int .i64 0,.int .i64 0],[]⟩).memory :=
 laidMetH_of_parts3 (fuel:=8) (laidMet_of_run' 8 (by kernel_rfl) (by kernel_rfl)) (by kernel_rfl) (by kernel_rfl)
theorem reads (os:Os) {H:Type} (enc:TypeId×Value→H):∃ H3,DataW.whole enc Tryz.prog ((World.doorLaid Tryz.prog 400 os).forCall (fun _ _=>0) ⟨#[],#[.agg #[.slice none 0 0,.slice none 0 0,.int .i64 0,.int .i64 0,.bool false],.agg #[.int .i64 0,.int .i64 0,.int .i64 0,.int .i64 0,.int .i64 0,.slice none 0 0],.int .i64 0,.int .i64 0,.int .i64 0],[]⟩).memory Tryz.f3.params.toList Rows.storeCrashSpec.vars false (#[.agg #[.slice none 0 0,.slice none 0 0,.int .i64 0,.int .i64 0,.bool false],.agg #[.int .i64 0,.int .i64 0,.int .i64 0,.int .i64 0,.int .i64 0,.slice none 0 0],.int .i64 0,.int .i64 0,.int .i64 0]:Array Value).toList 8=some ([.agg [.nil,.nil,.lit (.int .i64 0),.lit (.int .i64 0),.lit (.bool false)],.agg [.lit (.int .i64 0),.lit (.int .i64 0),.lit (.int .i64 0),.agg [.lit (.int .i64 0),.lit (.int .i64 0)],.nil],.lit (.int .i64 0),.lit (.int .i64 0),.lit (.int .i64 0)],[],H3) :=
 ⟨[],by kernel_rfl⟩
set_option maxRecDepth 100000 in
theorem lifted (os:Os) (H0:os.Started) (H:Type) (enc:TypeId×Value→H) (I:Stop.Interp) :
  ReturnsInHanded {} Tryz.checked os 3 .any ((Rows.OpenSpec.upto Rows.storeCrashSpec).preRow enc Tryz.prog Tryz.f3 Rows.storeCrashUptoRow.domain false Rows.storeCrashUptoRow.laid) (((Rows.OpenSpec.upto Rows.storeCrashSpec).at I).post enc Tryz.prog Tryz.f3 false true false false):=by
 obtain ⟨H3,hx⟩:=reads os enc
 refine returnsInHanded_of_row (C:=Tryz.checked) (s:=Rows.OpenSpec.upto Rows.storeCrashSpec) own H0 (by kernel_rfl) Tryz.func3
  (witness_row_at (enc:=enc) (C:=Tryz.checked) false (World.doorLaid Tryz.prog 400 os) #[.agg #[.slice none 0 0,.slice none 0 0,.int .i64 0,.int .i64 0,.bool false],.agg #[.int .i64 0,.int .i64 0,.int .i64 0,.int .i64 0,.int .i64 0,.slice none 0 0],.int .i64 0,.int .i64 0,.int .i64 0] rfl (by kernel_rfl) (by kernel_rfl) (by kernel_rfl)
    (OpenSpec.preRow_of_cond 8 hx (by kernel_rfl) (fun k hk=>by cases hk;kernel_rfl) (by kernel_rfl) (laid_met os))) ?_
 intro W base args ds gs H2 H1 hW _ H5 _ hL _ _
 exact contract H enc W base args ds gs H2 H1 hW (H5 _ rfl) hL
theorem over:Rows.StoreCrashUptoSaid :=
 OpenClaim.holds_of_cond 3 Tryz.f3 rfl rfl rfl rfl rfl rfl rfl ⟨rfl,rfl,rfl,rfl,rfl⟩ rfl rfl rfl rfl rfl (by kernel_rfl) Tryz.func3 (by kernel_rfl)
  (of_decide_eq_true (by kernel_rfl)) (by unfold Func.isWrapper;first | (rw[if_pos (by decide +kernel)];kernel_rfl) | (rw[if_neg (by decide +kernel)];exact ⟨rfl,rfl⟩))
  (fun os H0 H enc _ I=>by rw[OpenClaim.pre_eq_preRow];exact lifted os H0 H enc I)
theorem proved:Rows.StoreCrashUptoCardSaid :=
 Claim7.holds_tied_plain_at .later [] _ _ _ _ over (fun _ h=>by cases h) (by kernel_rfl) (fun _ h=>by cases h) storeCrashUpto_row_tie rfl ⟨rfl,rfl⟩ (by kernel_rfl) rfl
  (fun f fn hf hfn=>by
    obtain rfl:f=3:=Option.some.inj ((show Tryz.prog.funcNamed "moult/moultlaw13.StoreCrash"=some 3 by kernel_rfl).symm.trans hf) |>.symm
    obtain rfl:fn=Tryz.f3:=(Option.some.inj (Tryz.func3.symm.trans hfn)).symm
    exact ⟨by kernel_rfl,fun j t ht=>by
     rw[Tryz.params3] at ht
     have hm:t∈[25,30,3,3,3]:=by simpa using Array.mem_of_getElem? ht
     have H7:([25,30,3,3,3].all fun u=>!Tryz.prog.wantsStandIn u)=true:=by kernel_rfl
     exact (show Tryz.prog.wantsStandIn t=false by simpa using List.all_eq_true.1 H7 t hm)⟩)
  (by kernel_rfl)
#print axioms proved
end Go.Proofs.YtgonhdeochgkoaaGreatDoor.storeCrash
