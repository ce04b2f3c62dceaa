/- Closed facts of the row of StoreTells, one by one. -/
import Derived.Test.YteggfecbjgbndaaGreatDoorRows
import Derived.JoinedCond
import Derived.KernelRfl
set_option linter.all false
set_option maxHeartbeats 8000000
set_option maxRecDepth 100000
namespace Go.Proofs.YteggfecbjgbndaaGreatDoor.storeTells
open Go
theorem cf1:(Rows.storeTellsUptoRow.inPlace==Tryz.pinned.checked.prog.inPlace 3)=true:=by kernel_rfl
theorem cf2:(Rows.storeTellsUptoRow.unfollowed==Tryz.pinned.checked.prog.unfollowed 3)=true:=by kernel_rfl
theorem cf3:(Rows.storeTellsUptoRow.recurses==Tryz.pinned.checked.prog.recurses 3)=true:=by kernel_rfl
theorem cf4:(Rows.storeTellsUptoRow.named==Tryz.pinned.checked.prog.varsNamed 3)=true:=by kernel_rfl
theorem closedF:joinedFacts Tryz.pinned.checked.prog 3 Tryz.f3 (Rows.OpenSpec.upto Rows.storeTellsSpec).bare Rows.storeTellsUptoRow=true:=by
 unfold joinedFacts;rw[cf1,cf2,cf3,cf4];kernel_rfl
end Go.Proofs.YteggfecbjgbndaaGreatDoor.storeTells
