/-
  DERIVED. GIVEN WITH THE SEED: THE CARDS: each row of YtjoliomfkdkjgaaGreatDoorRows.lean that lists a variable, with what it lists TIED to the program's text (the seventh form; the later family's looks); each row that meets fmt, with fmt's text TOLD by the authors' own Lean function (tested against real Go, not proved from fmt's source: count such statements apart). THE CARD IS WHAT COUNTS. Prove the row's statement (the work); the ties are given (YtjoliomfkdkjgaaGreatDoorTie.lean); close each card by the builder's one call (the guide's Derived/Test/ToyasCard.lean, 'card_holds'). Laid BY PROGRAM, IN A SANDBOX (cutbox-door.mjs). By AI agents, Wed Nov 11 2026. No macro, syntax, notation, axiom, sorry.
-/
import Derived.Test.YtjoliomfkdkjgaaGreatDoorRows
import GoSem.ClaimSeven
namespace Go.Proofs.YtjoliomfkdkjgaaGreatDoor
namespace Rows

/-- THE TIED CARD OF 'lispproverlaw27.ContextTypes'. -/
def contextTypesCard : Claim7 := { stood := { row := contextTypesRow, standIns := [], harness := (true, "b28a086bb5c5adbc1c96468c6e0018751837ee0542e683e3914f549cb86aaadf"), looks := false }, kinds := [], alts := [], laidByText := true, laidKinds := [.data, .data, .data], laidTests := true, laidLooks := .later }
def ContextTypesCardSaid : Prop := Claim7.holds Tryz.pinned (.plain (OpenSpec.ofChange contextTypesSpec)) contextTypesCard

/-- THE SECOND FORM's CARD OF 'lispproverlaw27.ContextTypes'. -/
def contextTypesUptoCard : Claim7 := { stood := { row := contextTypesUptoRow, standIns := [], harness := (true, "b28a086bb5c5adbc1c96468c6e0018751837ee0542e683e3914f549cb86aaadf"), looks := false }, kinds := [], alts := [], laidByText := true, laidKinds := [.data, .data, .data], laidTests := true, laidLooks := .later }
def ContextTypesUptoCardSaid : Prop := Claim7.holds Tryz.pinned (.plain (OpenSpec.upto contextTypesSpec)) contextTypesUptoCard
end Rows
end Go.Proofs.YtjoliomfkdkjgaaGreatDoor
