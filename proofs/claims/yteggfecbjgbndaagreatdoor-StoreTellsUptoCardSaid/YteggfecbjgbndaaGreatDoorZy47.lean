/- Merged -/
import Derived.Test.YteggfecbjgbndaaGreatDoorZy4
import Derived.ProofKit
import Derived.OpenShut
import Derived.Carry
import Derived.Deep.Slices
import Derived.ChangeSlices
import Derived.ChangeSame
import Derived.WideKeyArgs
set_option linter.all false
set_option maxHeartbeats 8000000
set_option maxRecDepth 100000
namespace Go.Proofs.YteggfecbjgbndaaGreatDoor
open Go.ChangeShapes Go.WideShapes Go.ChangeAt Go.RowKit Go.Deep Go.Mv
theorem own:ownKnob Tryz.prog.godebug=none:=by kernel_rfl
theorem iV:laidOutB Tryz.prog=true:=by kernel_rfl
theorem OD:Tryz.prog.cellsOf 5=1:=by kernel_rfl
instance:Inhabited Ent:=⟨⟨0,0,0⟩⟩
theorem pU{w:World}{a:Addr}{e n c:Nat}{xs:List Value}(hl:xs.length=n*e)(h1:n<=c)(h2:c<=maxLen)(hs:0<e)(h:∀j u,xs[j]?=some u->w.cell? (a.add j)=some u):SlR w e (.slice (some a) n c) n xs:=by
 refine⟨hl,_,c,rfl,h1,h2,λhn=>?_⟩;obtain⟨b,f,g⟩:=a;have e:0<xs.length:=by rw[hl];exact Nat.mul_pos hn hs
 have hc:=h 0 xs[0] (List.getElem?_eq_getElem e);cases g with
 |none=>
  refine⟨b,f,rfl,λj u e=>?_⟩;have:=h j u e;rwa[show(⟨b,f,none⟩:Addr).add j=⟨b,f+j,none⟩from by unfold Addr.add;split<;>simp_all]at this
 |some k=>
  exfalso
  unfold World.cell? Addr.add at hc;simp at hc;split at hc<;>simp_all
section
variable {H:Type} {enc:TypeId×Value->H} {W:World} {base:Nat} {v:Value} {d:DataW H} {p:List MemPlace}
end
section
variable {H:Type} {enc:TypeId×Value->H} {P:Program}
theorem Dg{f:Func}{s:ChangeSpec}{apart fresh c e:Bool}{W W':World}{args:Array Value}{v:Value}{h i:List (DataW H)}{a pa pv:List MemPlace}(k:DataW.Whole enc P f.params.toList s.vars apart W args.toList h i a)(H3:∀(b:Nat) (g:Nat->Bool) (hd:Bool),DataW.TrodAll enc P W' b g hd f.resultTypes.toList (v.resultList f.resultTypes.size) (s.fn H (h++i)).results [])(l:∀g:Nat->Bool,(∀p∈a,g p.block=true)->DataW.TrodAll enc P W' 0 g true f.params.toList args.toList (s.fn H (h++i)).args pa)(H1:∀g:Nat->Bool,(∀p∈a,g p.block=true)->DataW.TrodVars enc P W' g s.vars (s.fn H (h++i)).vars pv)(hps:a=pa++pv)(hb:Below W.heap.size W W')(g:∀(j:Nat) (t:TypeId) (r:Value),f.resultTypes[j]?=some t->(v.resultList f.resultTypes.size)[j]?=some r->Value.okWide P W' .any 0 t r):
  s.post enc P f apart fresh c e W args v W':=by
 have m:∀p∈a,p.block<W.heap.size:=λp c=>k.lt p c;have hold:∀p∈a,(λb=>decide (b<W.heap.size)) p.block=true:=λp c=>by simpa using m p c
 refine⟨h,i,a,[],pa,pv,k,H3 _ _ _,l _ hold,H1 _ hold,World.keptBut_mono (λp c=>⟨c,?_⟩) (hb.frame (·∈a)),λ_=>?_⟩
 ·rw[hps,List.mem_append]at c;exact Or.inr c
 ·obtain⟨_,_,_,_,_,h,hn⟩:=k;refine⟨g,_,_,([]++pa)++pv,⟨[]++pa,pv,trodAll_append (l _ (λ_ _=>rfl)) (H3 _ _ _),H1 _ (λ_ _=>rfl),rfl,?_,?_⟩,?_⟩
  ·intro b e c;have g:MemPlace.cell b e∈a:=by rw[hps];simpa using c
   rw[hb.frozen (m _ g)];exact h b e g
  ·intro a;have:=hn a;rw[hps]at this;simpa using this
  ·intro p c _;rw[hps];simpa using c
end
