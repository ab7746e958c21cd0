/-
  DERIVED. GIVEN WITH THE SEED: THE CARDS: each row of YtmebgielemmehaaGreatDoorRows.lean that lists a variable, with what it lists TIED to the program's text (the seventh form; the later family's looks); each row that meets fmt, with fmt's text TOLD by the authors' own Lean function (tested against real Go, not proved from fmt's source: count such statements apart). THE CARD IS WHAT COUNTS. Prove the row's statement (the work); the ties are given (YtmebgielemmehaaGreatDoorTie.lean); close each card by the builder's one call (the guide's Derived/Test/ToyasCard.lean, 'card_holds'). Laid BY PROGRAM, IN A SANDBOX (cutbox-door.mjs). By AI agents, Wed Nov 11 2026. No macro, syntax, notation, axiom, sorry.
-/
import Derived.Test.YtmebgielemmehaaGreatDoorRows
import GoSem.ClaimSeven
namespace Go.Proofs.YtmebgielemmehaaGreatDoor
namespace Rows

/-- THE TIED CARD OF 'lispproverlaw36.IrrelevanceComponents'. -/
def irrelevanceComponentsCard : Claim7 := { stood := { row := irrelevanceComponentsRow, standIns := [], harness := (true, "32673837859dd6236d1c6885efea6b5bb3011b51394295dea89f3d0553329e8b"), looks := true }, kinds := [], alts := [], laidByText := true, laidKinds := [.data, .data, .data, .sentinel, .sentinel], laidTests := true, laidLooks := .later }
def IrrelevanceComponentsCardSaid : Prop := Claim7.holds Tryz.pinned (.plain (OpenSpec.ofChange irrelevanceComponentsSpec)) irrelevanceComponentsCard

/-- THE SECOND FORM's CARD OF 'lispproverlaw36.IrrelevanceComponents'. -/
def irrelevanceComponentsUptoCard : Claim7 := { stood := { row := irrelevanceComponentsUptoRow, standIns := [], harness := (true, "32673837859dd6236d1c6885efea6b5bb3011b51394295dea89f3d0553329e8b"), looks := true }, kinds := [], alts := [], laidByText := true, laidKinds := [.data, .data, .data, .sentinel, .sentinel], laidTests := true, laidLooks := .later }
def IrrelevanceComponentsUptoCardSaid : Prop := Claim7.holds Tryz.pinned (.plain (OpenSpec.upto irrelevanceComponentsSpec)) irrelevanceComponentsUptoCard
end Rows
end Go.Proofs.YtmebgielemmehaaGreatDoor
