/- Merged -/
import Derived.Test.YteggfecbjgbndaaGreatDoorZx29
import Derived.Test.YteggfecbjgbndaaGreatDoorZx47
import Derived.Lib.LaidTab
import Derived.LaidMore
import Derived.LaidSub
import Derived.Stop.Joined
import Derived.Deep.DeepHandedRow
set_option linter.all false
set_option maxHeartbeats 8000000
set_option maxRecDepth 100000
namespace Go.Proofs.YteggfecbjgbndaaGreatDoor
open Go.ChangeShapes Go.WideShapes Go.ChangeAt Go.RowKit Go.Deep Go.Mv Go.WideElems
section
variable {H:Type} {enc:TypeId×Value->H} {W:World} {base:Nat} {v:Value} {d:DataW H} {p:List MemPlace}
instance:Inhabited Sg4:=⟨⟨0,0,0,0⟩⟩
instance:Inhabited Oq:=⟨⟨0,[],[],[]⟩⟩
end
open Go.ChangeShapes Go.WideShapes Go.ChangeAt Go.RowKit Go.Deep Go.Mv Go.WideElems
theorem Cj:Tryz.prog.globalNamed "moult/crc.rows"=some 1:=by kernel_rfl
theorem O4:(Tryz.prog.globals[1]?).map (·.type)=some 314:=by kernel_rfl
theorem O6:Tryz.prog.cellsOf 190=1:=by kernel_rfl
theorem PX:Tryz.prog.cellsOf 314=16:=by kernel_rfl
theorem O9:Tryz.prog.globalNamed "internal/strconv.uint64pow10"=some 2:=by kernel_rfl
theorem PB:(Tryz.prog.globals[2]?).map (·.type)=some 330:=by kernel_rfl
theorem O7:Tryz.prog.cellsOf 303=1:=by kernel_rfl
theorem O5:Tryz.prog.cellsOf 330=20:=by kernel_rfl
theorem zyG {W:World} (h:laidMetH Tryz.prog Rows.writePartsRow.laid W):StW W:=by
 rw[MakeChecks.laidMetH_plain _ _ _ (by kernel_rfl)] at h;have h1:laidMet Tryz.prog [("moult/crc.rows",Lib.tabData .u32 (crcTab.map Int.ofNat))] W:=h.filter fun x=>x.1 == "moult/crc.rows";have h2:laidMet Tryz.prog [("internal/strconv.uint64pow10",Lib.tabData .u64 Lib.pow10Tab)] W:=h.filter fun x=>x.1 == "internal/strconv.uint64pow10";have ht:Lib.TabIs Tryz.prog W "moult/crc.rows" .u32 (crcTab.map Int.ofNat):=Lib.tabIs_of_head (rest:=[]) Cj O4 Tryz.underlying314 Tryz.underlying190 O6 PX h1;refine ⟨?_,Lib.tabIs_of_head (rest:=[]) O9 PB Tryz.underlying330 Tryz.underlying303 O7 O5 h2⟩
 ·intro i hi;have:=ht.cell Cj i (by simpa [crcTab] using hi);rw[this];congr 2
  show (crcTab.map Int.ofNat).getD i 0=((crcTab.getD i 0:Nat):Int);simp[List.getD_eq_getElem?_getD,List.getElem?_map];cases crcTab[i]? <;> simp
