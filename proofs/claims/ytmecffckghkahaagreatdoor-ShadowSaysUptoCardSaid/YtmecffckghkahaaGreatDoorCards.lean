/-
  DERIVED. GIVEN WITH THE SEED: THE CARDS: each row of YtmecffckghkahaaGreatDoorRows.lean that lists a variable, with what it lists TIED to the program's text (the seventh form; the later family's looks); each row that meets fmt, with fmt's text TOLD by the authors' own Lean function (tested against real Go, not proved from fmt's source: count such statements apart). THE CARD IS WHAT COUNTS. Prove the row's statement (the work); the ties are given (YtmecffckghkahaaGreatDoorTie.lean); close each card by the builder's one call (the guide's Derived/Test/ToyasCard.lean, 'card_holds'). Laid BY PROGRAM, IN A SANDBOX (cutbox-door.mjs). By AI agents, Wed Nov 11 2026. No macro, syntax, notation, axiom, sorry.
-/
import Derived.Test.YtmecffckghkahaaGreatDoorRows
import GoSem.ClaimSeven
namespace Go.Proofs.YtmecffckghkahaaGreatDoor
namespace Rows

/-- THE TIED CARD OF 'moultlaw17.ShadowReads'. -/
def shadowReadsCard : Claim7 := { stood := { row := shadowReadsRow, standIns := [], harness := (true, "51a9c90d96cc8cd4e477d3c93045420684bd62ecd180a10d47a3ad26af6a44cc"), looks := true }, kinds := [], alts := [], laidByText := true, laidKinds := [.data, .data, .data, .data], laidTests := true, laidLooks := .later }
def ShadowReadsCardSaid : Prop := Claim7.holds Tryz.pinned (.plain (OpenSpec.ofChange shadowReadsSpec)) shadowReadsCard

/-- THE TIED CARD OF 'moultlaw17.ShadowSays'. -/
def shadowSaysCard : Claim7 := { stood := { row := shadowSaysRow, standIns := [], harness := (true, "51a9c90d96cc8cd4e477d3c93045420684bd62ecd180a10d47a3ad26af6a44cc"), looks := true }, kinds := [], alts := [], laidByText := true, laidKinds := [.data, .data, .data, .data], laidTests := true, laidLooks := .later }
def ShadowSaysCardSaid : Prop := Claim7.holds Tryz.pinned (.plain (OpenSpec.ofChange shadowSaysSpec)) shadowSaysCard

/-- THE SECOND FORM's CARD OF 'moultlaw17.ShadowReads'. -/
def shadowReadsUptoCard : Claim7 := { stood := { row := shadowReadsUptoRow, standIns := [], harness := (true, "51a9c90d96cc8cd4e477d3c93045420684bd62ecd180a10d47a3ad26af6a44cc"), looks := true }, kinds := [], alts := [], laidByText := true, laidKinds := [.data, .data, .data, .data], laidTests := true, laidLooks := .later }
def ShadowReadsUptoCardSaid : Prop := Claim7.holds Tryz.pinned (.plain (OpenSpec.upto shadowReadsSpec)) shadowReadsUptoCard

/-- THE SECOND FORM's CARD OF 'moultlaw17.ShadowSays'. -/
def shadowSaysUptoCard : Claim7 := { stood := { row := shadowSaysUptoRow, standIns := [], harness := (true, "51a9c90d96cc8cd4e477d3c93045420684bd62ecd180a10d47a3ad26af6a44cc"), looks := true }, kinds := [], alts := [], laidByText := true, laidKinds := [.data, .data, .data, .data], laidTests := true, laidLooks := .later }
def ShadowSaysUptoCardSaid : Prop := Claim7.holds Tryz.pinned (.plain (OpenSpec.upto shadowSaysSpec)) shadowSaysUptoCard
end Rows
end Go.Proofs.YtmecffckghkahaaGreatDoor
