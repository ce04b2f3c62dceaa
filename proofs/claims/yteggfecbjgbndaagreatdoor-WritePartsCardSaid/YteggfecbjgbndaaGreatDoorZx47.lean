/- Merged -/
import Derived.Test.YteggfecbjgbndaaGreatDoorZx4
import Derived.ProofKit
import Derived.OpenShut
import Derived.Carry
import Derived.Deep.Slices
import Derived.ChangeSlices
import Derived.ChangeSame
import Derived.WideKeyArgs
set_option linter.all false
set_option maxHeartbeats 8000000
set_option maxRecDepth 100000
namespace Go.Proofs.YteggfecbjgbndaaGreatDoor
open Go.ChangeShapes Go.WideShapes Go.ChangeAt Go.RowKit Go.Deep Go.Mv
theorem own:ownKnob Tryz.prog.godebug=none:=by kernel_rfl
instance:Inhabited Ent:=⟨⟨0,0,0⟩⟩
section
variable {H:Type} {enc:TypeId×Value->H} {W:World} {base:Nat} {v:Value} {d:DataW H} {p:List MemPlace}
end
section
variable {H:Type} {enc:TypeId×Value->H} {P:Program}
theorem Dg{f:Func}{s:ChangeSpec}{apart fresh c e:Bool}{W W':World}{args:Array Value}{v:Value}{h i:List (DataW H)}{a pa pv:List MemPlace}(k:DataW.Whole enc P f.params.toList s.vars apart W args.toList h i a)(m:∀(b:Nat) (g:Nat->Bool) (hd:Bool),DataW.TrodAll enc P W' b g hd f.resultTypes.toList (v.resultList f.resultTypes.size) (s.fn H (h++i)).results [])(H0:∀g:Nat->Bool,(∀p∈a,g p.block=true)->DataW.TrodAll enc P W' 0 g true f.params.toList args.toList (s.fn H (h++i)).args pa)(l:∀g:Nat->Bool,(∀p∈a,g p.block=true)->DataW.TrodVars enc P W' g s.vars (s.fn H (h++i)).vars pv)(hps:a=pa++pv)(hb:Below W.heap.size W W')(g:∀(j:Nat) (t:TypeId) (r:Value),f.resultTypes[j]?=some t->(v.resultList f.resultTypes.size)[j]?=some r->Value.okWide P W' .any 0 t r):
  s.post enc P f apart fresh c e W args v W':=by
 have H4:∀p∈a,p.block<W.heap.size:=λp c=>k.lt p c;have hold:∀p∈a,(λb=>decide (b<W.heap.size)) p.block=true:=λp c=>by simpa using H4 p c
 refine⟨h,i,a,[],pa,pv,k,m _ _ _,H0 _ hold,l _ hold,World.keptBut_mono (λp c=>⟨c,?_⟩) (hb.frame (·∈a)),λ_=>?_⟩
 ·rw[hps,List.mem_append]at c;exact Or.inr c
 ·obtain⟨_,_,_,_,_,h,hn⟩:=k;refine⟨g,_,_,([]++pa)++pv,⟨[]++pa,pv,trodAll_append (H0 _ (λ_ _=>rfl)) (m _ _ _),l _ (λ_ _=>rfl),rfl,?_,?_⟩,?_⟩
  ·intro b e c;have H3:MemPlace.cell b e∈a:=by rw[hps];simpa using c
   rw[hb.frozen (H4 _ H3)];exact h b e H3
  ·intro a;have:=hn a;rw[hps]at this;simpa using this
  ·intro p c _;rw[hps];simpa using c
end
