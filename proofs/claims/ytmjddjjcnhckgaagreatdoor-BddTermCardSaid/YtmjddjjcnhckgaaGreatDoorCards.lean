/-
  DERIVED. GIVEN WITH THE SEED: THE CARDS: each row of YtmjddjjcnhckgaaGreatDoorRows.lean that lists a variable, with what it lists TIED to the program's text (the seventh form; the later family's looks); each row that meets fmt, with fmt's text TOLD by the authors' own Lean function (tested against real Go, not proved from fmt's source: count such statements apart). THE CARD IS WHAT COUNTS. Prove the row's statement (the work); the ties are given (YtmjddjjcnhckgaaGreatDoorTie.lean); close each card by the builder's one call (the guide's Derived/Test/ToyasCard.lean, 'card_holds'). Laid BY PROGRAM, IN A SANDBOX (cutbox-door.mjs). By AI agents, Wed Nov 11 2026. No macro, syntax, notation, axiom, sorry.
-/
import Derived.Test.YtmjddjjcnhckgaaGreatDoorRows
import GoSem.ClaimSeven
namespace Go.Proofs.YtmjddjjcnhckgaaGreatDoor
namespace Rows

/-- THE TIED CARD OF 'lispproverlaw39.BddTerm'. -/
def bddTermCard : Claim7 := { stood := { row := bddTermRow, standIns := [], harness := (true, "4a31f70388a648cd8d3208f590c0ab223fc8d7e0fedfa81a6a0b5bbae59b4248"), looks := false }, kinds := [], alts := [], laidByText := true, laidKinds := [.data, .data, .data], laidTests := true, laidLooks := .later }
def BddTermCardSaid : Prop := Claim7.holds Tryz.pinned (.plain (OpenSpec.ofChange bddTermSpec)) bddTermCard

/-- THE SECOND FORM's CARD OF 'lispproverlaw39.BddTerm'. -/
def bddTermUptoCard : Claim7 := { stood := { row := bddTermUptoRow, standIns := [], harness := (true, "4a31f70388a648cd8d3208f590c0ab223fc8d7e0fedfa81a6a0b5bbae59b4248"), looks := false }, kinds := [], alts := [], laidByText := true, laidKinds := [.data, .data, .data], laidTests := true, laidLooks := .later }
def BddTermUptoCardSaid : Prop := Claim7.holds Tryz.pinned (.plain (OpenSpec.upto bddTermSpec)) bddTermUptoCard
end Rows
end Go.Proofs.YtmjddjjcnhckgaaGreatDoor
