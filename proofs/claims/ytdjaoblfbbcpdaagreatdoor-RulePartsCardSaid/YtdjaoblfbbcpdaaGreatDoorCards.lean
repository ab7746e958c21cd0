/-
  DERIVED. GIVEN WITH THE SEED: THE CARDS: each row of YtdjaoblfbbcpdaaGreatDoorRows.lean that lists a variable, with what it lists TIED to the program's text (the seventh form; the later family's looks); each row that meets fmt, with fmt's text TOLD by the authors' own Lean function (tested against real Go, not proved from fmt's source: count such statements apart). THE CARD IS WHAT COUNTS. Prove the row's statement (the work); the ties are given (YtdjaoblfbbcpdaaGreatDoorTie.lean); close each card by the builder's one call (the guide's Derived/Test/ToyasCard.lean, 'card_holds'). Laid BY PROGRAM, IN A SANDBOX (cutbox-door.mjs). By AI agents, Wed Nov 11 2026. No macro, syntax, notation, axiom, sorry.
-/
import Derived.Test.YtdjaoblfbbcpdaaGreatDoorRows
import GoSem.ClaimSeven
namespace Go.Proofs.YtdjaoblfbbcpdaaGreatDoor
namespace Rows

/-- THE TIED CARD OF 'lispproverlaw28.RuleParts'. -/
def rulePartsCard : Claim7 := { stood := { row := rulePartsRow, standIns := [], harness := (true, "466bbe8e7d43e0543713a5feb73b5fa005e2da9610333e07de98bdf8a4b0c744"), looks := true }, kinds := [], alts := [], laidByText := true, laidKinds := [.data, .data, .data, .sentinel, .sentinel], laidTests := true, laidLooks := .later }
def RulePartsCardSaid : Prop := Claim7.holds Tryz.pinned (.plain (OpenSpec.ofChange rulePartsSpec)) rulePartsCard

/-- THE SECOND FORM's CARD OF 'lispproverlaw28.RuleParts'. -/
def rulePartsUptoCard : Claim7 := { stood := { row := rulePartsUptoRow, standIns := [], harness := (true, "466bbe8e7d43e0543713a5feb73b5fa005e2da9610333e07de98bdf8a4b0c744"), looks := true }, kinds := [], alts := [], laidByText := true, laidKinds := [.data, .data, .data, .sentinel, .sentinel], laidTests := true, laidLooks := .later }
def RulePartsUptoCardSaid : Prop := Claim7.holds Tryz.pinned (.plain (OpenSpec.upto rulePartsSpec)) rulePartsUptoCard
end Rows
end Go.Proofs.YtdjaoblfbbcpdaaGreatDoor
