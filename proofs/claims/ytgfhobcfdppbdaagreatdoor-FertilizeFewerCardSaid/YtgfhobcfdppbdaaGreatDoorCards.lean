/-
  DERIVED. GIVEN WITH THE SEED: THE CARDS: each row of YtgfhobcfdppbdaaGreatDoorRows.lean that lists a variable, with what it lists TIED to the program's text (the seventh form; the later family's looks); each row that meets fmt, with fmt's text TOLD by the authors' own Lean function (tested against real Go, not proved from fmt's source: count such statements apart). THE CARD IS WHAT COUNTS. Prove the row's statement (the work); the ties are given (YtgfhobcfdppbdaaGreatDoorTie.lean); close each card by the builder's one call (the guide's Derived/Test/ToyasCard.lean, 'card_holds'). Laid BY PROGRAM, IN A SANDBOX (cutbox-door.mjs). By AI agents, Wed Nov 11 2026. No macro, syntax, notation, axiom, sorry.
-/
import Derived.Test.YtgfhobcfdppbdaaGreatDoorRows
import GoSem.ClaimSeven
namespace Go.Proofs.YtgfhobcfdppbdaaGreatDoor
namespace Rows

/-- THE TIED CARD OF 'lispproverlaw34.FertilizeFewer'. -/
def fertilizeFewerCard : Claim7 := { stood := { row := fertilizeFewerRow, standIns := [], harness := (true, "08c867662e5499c7ed352b55573d8cb49a0bfa99378dd4ccdb7d08da757bd26e"), looks := true }, kinds := [], alts := [], laidByText := true, laidKinds := [.data, .data, .data, .sentinel, .sentinel], laidTests := true, laidLooks := .later }
def FertilizeFewerCardSaid : Prop := Claim7.holds Tryz.pinned (.plain (OpenSpec.ofChange fertilizeFewerSpec)) fertilizeFewerCard

/-- THE SECOND FORM's CARD OF 'lispproverlaw34.FertilizeFewer'. -/
def fertilizeFewerUptoCard : Claim7 := { stood := { row := fertilizeFewerUptoRow, standIns := [], harness := (true, "08c867662e5499c7ed352b55573d8cb49a0bfa99378dd4ccdb7d08da757bd26e"), looks := true }, kinds := [], alts := [], laidByText := true, laidKinds := [.data, .data, .data, .sentinel, .sentinel], laidTests := true, laidLooks := .later }
def FertilizeFewerUptoCardSaid : Prop := Claim7.holds Tryz.pinned (.plain (OpenSpec.upto fertilizeFewerSpec)) fertilizeFewerUptoCard
end Rows
end Go.Proofs.YtgfhobcfdppbdaaGreatDoor
