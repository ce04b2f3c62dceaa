/- Merged -/
import Derived.Test.YteggfecbjgbndaaGreatDoorZw19
import Derived.Test.YteggfecbjgbndaaGreatDoorZw25
set_option linter.all false
set_option maxHeartbeats 8000000
set_option maxRecDepth 100000
namespace Go.Proofs.YteggfecbjgbndaaGreatDoor
open Go.RowKit Go.Mv
theorem ztc (A:Option Addr) (n c:Nat) (vs:Value) (m:Mf) (w:World):Calls Tryz.prog 38 #[.slice A n c,.agg (mfC m vs)] w fun e w'=>e=.returned (.func (.func 85) #[] #[.pointer (some ⟨w.heap.size+1,0,none⟩),.pointer (some ⟨w.heap.size,0,none⟩)])∧(w.alloc (.cells #[.slice A n c] 22)).alloc (.cells (mfC m vs) 30)=w':=by
 have H0:∀ (fn:Fn) (first cap:Array Value) (w:World),(Instr.makeFunc fn first cap).run Tryz.prog w=.ok (.func fn first cap) w:=fun _ _ _ _=>rfl
 unfold mfC
 go_enter Tryz.func38,Tryz.ntmps38
 go_wp2
 go_ret
 exact ⟨rfl,rfl⟩
end Go.Proofs.YteggfecbjgbndaaGreatDoor
