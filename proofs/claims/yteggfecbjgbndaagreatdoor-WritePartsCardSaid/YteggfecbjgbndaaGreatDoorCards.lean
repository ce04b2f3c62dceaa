/-
  DERIVED. GIVEN WITH THE SEED: THE CARDS: each row of YteggfecbjgbndaaGreatDoorRows.lean that lists a variable, with what it lists TIED to the program's text (the seventh form; the later family's looks); each row that meets fmt, with fmt's text TOLD by the authors' own Lean function (tested against real Go, not proved from fmt's source: count such statements apart). THE CARD IS WHAT COUNTS. Prove the row's statement (the work); the ties are given (YteggfecbjgbndaaGreatDoorTie.lean); close each card by the builder's one call (the guide's Derived/Test/ToyasCard.lean, 'card_holds'). Laid BY PROGRAM, IN A SANDBOX (cutbox-door.mjs). By AI agents, Wed Nov 11 2026. No macro, syntax, notation, axiom, sorry.
-/
import Derived.Test.YteggfecbjgbndaaGreatDoorRows
import GoSem.ClaimSeven
namespace Go.Proofs.YteggfecbjgbndaaGreatDoor
namespace Rows

/-- THE TIED CARD OF 'moultlaw13.StoreTells'. -/
def storeTellsCard : Claim7 := { stood := { row := storeTellsRow, standIns := [], harness := (true, "6755cc484d1f6a26296a0ed8dff0700d6d23c501aa6114c8206cc4e48c25ff58"), looks := true }, kinds := [], alts := [], laidByText := true, laidKinds := [.data, .data, .data, .data], laidTests := true, laidLooks := .later }
def StoreTellsCardSaid : Prop := Claim7.holds Tryz.pinned (.plain (OpenSpec.ofChange storeTellsSpec)) storeTellsCard

/-- THE TIED CARD OF 'moultlaw15.CutTrims'. -/
def cutTrimsCard : Claim7 := { stood := { row := cutTrimsRow, standIns := [], harness := (true, "6755cc484d1f6a26296a0ed8dff0700d6d23c501aa6114c8206cc4e48c25ff58"), looks := true }, kinds := [], alts := [], laidByText := true, laidKinds := [.data, .data, .data, .data, .data], laidTests := true, laidLooks := .later }
def CutTrimsCardSaid : Prop := Claim7.holds Tryz.pinned (.plain (OpenSpec.ofChange cutTrimsSpec)) cutTrimsCard

/-- THE TIED CARD OF 'moultlaw14.WriteParts'. -/
def writePartsCard : Claim7 := { stood := { row := writePartsRow, standIns := [], harness := (true, "6755cc484d1f6a26296a0ed8dff0700d6d23c501aa6114c8206cc4e48c25ff58"), looks := true }, kinds := [], alts := [], laidByText := true, laidKinds := [.data, .data, .data, .data], laidTests := true, laidLooks := .later }
def WritePartsCardSaid : Prop := Claim7.holds Tryz.pinned (.plain (OpenSpec.ofChange writePartsSpec)) writePartsCard

/-- THE SECOND FORM's CARD OF 'moultlaw13.StoreTells'. -/
def storeTellsUptoCard : Claim7 := { stood := { row := storeTellsUptoRow, standIns := [], harness := (true, "6755cc484d1f6a26296a0ed8dff0700d6d23c501aa6114c8206cc4e48c25ff58"), looks := true }, kinds := [], alts := [], laidByText := true, laidKinds := [.data, .data, .data, .data], laidTests := true, laidLooks := .later }
def StoreTellsUptoCardSaid : Prop := Claim7.holds Tryz.pinned (.plain (OpenSpec.upto storeTellsSpec)) storeTellsUptoCard

/-- THE SECOND FORM's CARD OF 'moultlaw15.CutTrims'. -/
def cutTrimsUptoCard : Claim7 := { stood := { row := cutTrimsUptoRow, standIns := [], harness := (true, "6755cc484d1f6a26296a0ed8dff0700d6d23c501aa6114c8206cc4e48c25ff58"), looks := true }, kinds := [], alts := [], laidByText := true, laidKinds := [.data, .data, .data, .data, .data], laidTests := true, laidLooks := .later }
def CutTrimsUptoCardSaid : Prop := Claim7.holds Tryz.pinned (.plain (OpenSpec.upto cutTrimsSpec)) cutTrimsUptoCard

/-- THE SECOND FORM's CARD OF 'moultlaw14.WriteParts'. -/
def writePartsUptoCard : Claim7 := { stood := { row := writePartsUptoRow, standIns := [], harness := (true, "6755cc484d1f6a26296a0ed8dff0700d6d23c501aa6114c8206cc4e48c25ff58"), looks := true }, kinds := [], alts := [], laidByText := true, laidKinds := [.data, .data, .data, .data], laidTests := true, laidLooks := .later }
def WritePartsUptoCardSaid : Prop := Claim7.holds Tryz.pinned (.plain (OpenSpec.upto writePartsSpec)) writePartsUptoCard
end Rows
end Go.Proofs.YteggfecbjgbndaaGreatDoor
