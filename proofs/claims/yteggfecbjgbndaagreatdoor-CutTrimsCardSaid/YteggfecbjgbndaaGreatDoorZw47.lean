/- Merged -/
import Derived.Test.YteggfecbjgbndaaGreatDoorZw4
import Derived.ProofKit
import Derived.OpenShut
import Derived.Carry
import Derived.Deep.Slices
import Derived.ChangeSlices
import Derived.ChangeSame
import Derived.WideKeyArgs
set_option linter.all false
set_option maxHeartbeats 8000000
set_option maxRecDepth 100000
namespace Go.Proofs.YteggfecbjgbndaaGreatDoor
open Go.ChangeShapes Go.WideShapes Go.ChangeAt Go.RowKit Go.Deep Go.Mv
theorem own:ownKnob Tryz.prog.godebug=none:=by kernel_rfl
theorem ztV:laidOutB Tryz.prog=true:=by kernel_rfl
instance:Inhabited Ent:=⟨⟨0,0,0⟩⟩
theorem zmO {w:World} {a:Addr} {size n c:Nat} {xs:List Value} (hl:xs.length=n*size) (h1:n≤c) (h2:c≤maxLen) (hs:0<size) (h:∀ j u,xs[j]?=some u→w.cell? (a.add j)=some u):SlR w size (.slice (some a) n c) n xs:=by
 refine ⟨hl,_,c,rfl,h1,h2,fun hn=>?_⟩
 obtain ⟨b,H2,sp⟩:=a
 have h0:0<xs.length:=by rw[hl];exact Nat.mul_pos hn hs
 have hc:=h 0 xs[0] (List.getElem?_eq_getElem h0)
 cases sp with
 | none =>
  refine ⟨b,H2,rfl,fun j u hu=>?_⟩
  have:=h j u hu
  rwa [show (⟨b,H2,none⟩:Addr).add j=⟨b,H2+j,none⟩ from by unfold Addr.add;split <;> simp_all] at this
 | some k =>
  exfalso
  unfold World.cell? Addr.add at hc
  simp at hc
  split at hc <;> simp_all
section
variable {H:Type} {enc:TypeId×Value→H} {W:World} {base:Nat} {v:Value} {d:DataW H} {p:List MemPlace}
end
section
variable {H:Type} {enc:TypeId×Value→H} {P:Program}
theorem zlj {f:Func} {s:ChangeSpec} {apart fresh handsOn again:Bool} {W W':World} {args:Array Value} {v:Value} {ds gs:List (DataW H)} {before pa pv:List MemPlace}
  (hW:DataW.Whole enc P f.params.toList s.vars apart W args.toList ds gs before)
  (H4:∀ (b:Nat) (sp:Nat→Bool) (hd:Bool),DataW.TrodAll enc P W' b sp hd f.resultTypes.toList (v.resultList f.resultTypes.size) (s.fn H (ds++gs)).results [])
  (H0:∀ sp:Nat→Bool,(∀ p∈before,sp p.block=true)→DataW.TrodAll enc P W' 0 sp true f.params.toList args.toList (s.fn H (ds++gs)).args pa)
  (H1:∀ sp:Nat→Bool,(∀ p∈before,sp p.block=true)→DataW.TrodVars enc P W' sp s.vars (s.fn H (ds++gs)).vars pv)
  (hps:before=pa++pv) (hb:Below W.heap.size W W')
  (H7:∀ (j:Nat) (t:TypeId) (r:Value),f.resultTypes[j]?=some t→(v.resultList f.resultTypes.size)[j]?=some r→Value.okWide P W' .any 0 t r) :
  s.post enc P f apart fresh handsOn again W args v W':=by
 have H6:∀ p∈before,p.block<W.heap.size:=fun p hp=>hW.lt p hp
 have H3:∀ p∈before,(fun b=>decide (b<W.heap.size)) p.block=true:=fun p hp=>by simpa using H6 p hp
 refine ⟨ds,gs,before,[],pa,pv,hW,H4 _ _ _,H0 _ H3,H1 _ H3,World.keptBut_mono (fun p hp=>⟨hp,?_⟩) (hb.frame (·∈before)),fun _=>?_⟩
 ·rw[hps,List.mem_append] at hp
  exact Or.inr hp
 ·obtain ⟨_,_,_,_,_,hz,hn⟩:=hW
  refine ⟨H7,_,_,([]++pa)++pv,⟨[]++pa,pv,trodAll_append (H0 _ (fun _ _=>rfl)) (H4 _ _ _),H1 _ (fun _ _=>rfl),rfl,?_,?_⟩,?_⟩
  ·intro b H2 hp
   have H5:MemPlace.cell b H2∈before:=by rw[hps];simpa using hp
   rw[hb.frozen (H6 _ H5)]
   exact hz b H2 H5
  ·intro ha
   have:=hn ha
   rw[hps] at this
   simpa using this
  ·intro p hp _
   rw[hps]
   simpa using hp
end
end Go.Proofs.YteggfecbjgbndaaGreatDoor
