/-
  DERIVED. GIVEN WITH THE SEED: THE CARDS: each row of YtjapdpcodgaoaaaGreatDoorRows.lean that lists a variable, with what it lists TIED to the program's text (the seventh form; the later family's looks); each row that meets fmt, with fmt's text TOLD by the authors' own Lean function (tested against real Go, not proved from fmt's source: count such statements apart). THE CARD IS WHAT COUNTS. Prove the row's statement (the work); the ties are given (YtjapdpcodgaoaaaGreatDoorTie.lean); close each card by the builder's one call (the guide's Derived/Test/ToyasCard.lean, 'card_holds'). Laid BY PROGRAM, IN A SANDBOX (cutbox-door.mjs). By AI agents, Wed Nov 11 2026. No macro, syntax, notation, axiom, sorry.
-/
import Derived.Test.YtjapdpcodgaoaaaGreatDoorRows
import GoSem.ClaimSeven
namespace Go.Proofs.YtjapdpcodgaoaaaGreatDoor
namespace Rows

/-- THE TIED CARD OF 'lispproverlaw27.ContextTrue'. -/
def contextTrueCard : Claim7 := { stood := { row := contextTrueRow, standIns := [], harness := (true, "d218b4f6f2fe8beb65bb2348d8ba79806ff7a49e071f9046479ca1b5a5c465e2"), looks := false }, kinds := [], alts := [], laidByText := true, laidKinds := [.data, .data, .data], laidTests := true, laidLooks := .later }
def ContextTrueCardSaid : Prop := Claim7.holds Tryz.pinned (.plain (OpenSpec.ofChange contextTrueSpec)) contextTrueCard

/-- THE SECOND FORM's CARD OF 'lispproverlaw27.ContextTrue'. -/
def contextTrueUptoCard : Claim7 := { stood := { row := contextTrueUptoRow, standIns := [], harness := (true, "d218b4f6f2fe8beb65bb2348d8ba79806ff7a49e071f9046479ca1b5a5c465e2"), looks := false }, kinds := [], alts := [], laidByText := true, laidKinds := [.data, .data, .data], laidTests := true, laidLooks := .later }
def ContextTrueUptoCardSaid : Prop := Claim7.holds Tryz.pinned (.plain (OpenSpec.upto contextTrueSpec)) contextTrueUptoCard
end Rows
end Go.Proofs.YtjapdpcodgaoaaaGreatDoor
