/- Merged: Files Door13 Open13 -/
import Derived.Test.YtgonhdeochgkoaaGreatDoorZt28
import Derived.Test.YtgonhdeochgkoaaGreatDoorZt39
import Derived.Lib.LaidTab
import Derived.LaidMore
import Derived.LaidSub
import Derived.Stop.Joined
import Derived.Deep.DeepHandedRow
set_option linter.all false
set_option maxHeartbeats 8000000
set_option maxRecDepth 100000
namespace Go.Proofs.YtgonhdeochgkoaaGreatDoor
open Go.ChangeShapes Go.WideShapes Go.ChangeAt Go.RowKit Go.Deep Go.Mv Go.WideElems
theorem ztk {H:Type} (d:DataW H):1≤Rows.uptoBulk d:=by
 cases d with
 | lit l=>cases l <;> simp[Rows.uptoBulk]
 | _=>simp[Rows.uptoBulk]
theorem zdd {H:Type} {d:DataW H} {l:List (DataW H)} (h:d∈l):Rows.uptoBulk d≤Rows.uptoBulkAll l:=by
 induction l with
 | nil=>cases h
 | cons x r ih =>
  simp only[Rows.uptoBulkAll]
  rcases List.mem_cons.1 h with rfl | h
  ·omega
  ·have:=ih h;omega
theorem zjM {H:Type} (l:List (DataW H)):l.length≤Rows.uptoBulkAll l:=by
 induction l with
 | nil=>simp[Rows.uptoBulkAll]
 | cons x r ih=>have:=ztk x;simp only[Rows.uptoBulkAll,List.length_cons];omega
theorem zhc {H:Type} (l r:List (DataW H)):Rows.uptoBulk (.slice l r)=Rows.uptoBulkAll l+Rows.uptoBulkAll r+1:=by simp only[Rows.uptoBulk]
theorem zmO:Tryz.prog.cellsOf 51=2:=by kernel_rfl
theorem zhg:Tryz.prog.cellsOf 9=1:=by kernel_rfl
theorem zle:Tryz.prog.cellsOf 38=1:=by kernel_rfl
section
variable {H:Type} {enc:TypeId×Value→H} {W:World} {base:Nat} {v:Value} {d:DataW H} {p:List MemPlace}
theorem ze9 {n:Nat} {c:Value} {x:DataW H×List MemPlace} (hf:DataW.trod enc Tryz.prog W 0 (fun _=>true) true n 38 [c]=some x):∃ bs,Bs W c bs∧bs.length≤Rows.uptoBulk x.1:=by
 rcases open_ints Tryz.underlying38 Tryz.underlying5 zuK hf with ⟨hcs,_⟩ | ⟨a,len',cap',zs,hcs,hb,hl,hm,hz,hx,hcell,hw⟩
 ·cases hcs;exact ⟨[],SlR.nil _ 1,Nat.zero_le _⟩
 ·cases hcs
  have hzc:zs.length=cap':=by simpa using hz
  refine ⟨(zs.take len').map (fun n=>UInt8.ofNat n.toNat),?_,?_⟩
  ·unfold Bs
   rw[List.length_map,List.length_take,Nat.min_eq_left (by omega)]
   refine zga (by simp;omega) hl hm (by decide) (fun j u hu=>?_)
   have hj:=(List.getElem?_eq_some_iff.1 hu).1;simp only[List.length_map,List.length_take,Nat.lt_min] at hj;rw[hcell j (by omega),←hu];have hwf:=hw (zs[j]'(by omega)) (List.getElem_mem _)
   have hr:0≤zs[j]'(by omega)∧zs[j]'(by omega)≤255:=by simpa [Lit.wf,IntKind.min,IntKind.max,IntKind.signed,IntKind.bits] using hwf
   have h1:zs.getD j 0=zs[j]'(by omega):=by simp[List.getD,List.getElem?_eq_getElem (show j<zs.length by omega)]
   rw[h1]
   have h2:((List.map (fun n:Int=>UInt8.ofNat n.toNat) (zs.take len')).map bv)[j]?=some (bv (UInt8.ofNat (zs[j]'(by omega)).toNat)):=by
    simp[List.getElem?_map,List.getElem?_take,hj.1,List.getElem?_eq_getElem (show j<zs.length by omega)]
   rw[h2]
   simp[bv]
   omega
  ·rw[hx,zhc,List.length_map]
   have:=zjM (H:=H) (lits .u8 (zs.take len'))
   have e:(lits (H:=H) .u8 (zs.take len')).length=(zs.take len').length:=by simp[lits]
   omega
theorem zkY {s:ByteArray}:Value.string s=sv s.data.toList:=by
 unfold sv
 simp
end
open Go.ChangeShapes Go.WideShapes Go.ChangeAt Go.RowKit Go.Deep Go.Mv Go.WideElems
theorem zus:Tryz.prog.globalNamed "moult/crc.rows"=some 1:=by kernel_rfl
theorem zwd:(Tryz.prog.globals[1]?).map (·.type)=some 267:=by kernel_rfl
theorem zwf:Tryz.prog.cellsOf 142=1:=by kernel_rfl
theorem zv8:Tryz.prog.cellsOf 267=16:=by kernel_rfl
theorem zwk:Tryz.prog.globalNamed "internal/strconv.uint64pow10"=some 0:=by kernel_rfl
theorem zwn:(Tryz.prog.globals[0]?).map (·.type)=some 264:=by kernel_rfl
theorem zwg:Tryz.prog.cellsOf 234=1:=by kernel_rfl
theorem zwe:Tryz.prog.cellsOf 264=20:=by kernel_rfl
theorem zgH {W:World} (h:laidMetH Tryz.prog Rows.storeReadsUptoRow.laid W):StW W:=by
 rw[MakeChecks.laidMetH_plain _ _ _ (by kernel_rfl)] at h
 have h1:laidMet Tryz.prog [("moult/crc.rows",Lib.tabData .u32 (crcTab.map Int.ofNat))] W:=h.filter fun x=>x.1 == "moult/crc.rows"
 have h2:laidMet Tryz.prog [("internal/strconv.uint64pow10",Lib.tabData .u64 Lib.pow10Tab)] W:=h.filter fun x=>x.1 == "internal/strconv.uint64pow10"
 have ht:Lib.TabIs Tryz.prog W "moult/crc.rows" .u32 (crcTab.map Int.ofNat):=Lib.tabIs_of_head (rest:=[]) zus zwd Tryz.underlying267 Tryz.underlying142 zwf zv8 h1
 refine ⟨?_,Lib.tabIs_of_head (rest:=[]) zwk zwn Tryz.underlying264 Tryz.underlying234 zwg zwe h2⟩
 intro i hi
 have:=ht.cell zus i (by simpa [crcTab] using hi)
 rw[this]
 congr 2
 show (crcTab.map Int.ofNat).getD i 0=((crcTab.getD i 0:Nat):Int)
 simp[List.getD_eq_getElem?_getD,List.getElem?_map]
 cases crcTab[i]? <;> simp
section
variable {H:Type} {enc:TypeId×Value→H} {W:World} {base:Nat} {v:Value} {d:DataW H} {p:List MemPlace}
instance:Inhabited Sg4:=⟨⟨0,0,0,0⟩⟩
instance:Inhabited Oq:=⟨⟨0,[],[],[]⟩⟩
end
end Go.Proofs.YtgonhdeochgkoaaGreatDoor
