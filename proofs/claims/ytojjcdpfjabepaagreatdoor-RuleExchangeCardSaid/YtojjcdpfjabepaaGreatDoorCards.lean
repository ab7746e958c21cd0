/-
  DERIVED. GIVEN WITH THE SEED: THE CARDS: each row of YtojjcdpfjabepaaGreatDoorRows.lean that lists a variable, with what it lists TIED to the program's text (the seventh form; the later family's looks); each row that meets fmt, with fmt's text TOLD by the authors' own Lean function (tested against real Go, not proved from fmt's source: count such statements apart). THE CARD IS WHAT COUNTS. Prove the row's statement (the work); the ties are given (YtojjcdpfjabepaaGreatDoorTie.lean); close each card by the builder's one call (the guide's Derived/Test/ToyasCard.lean, 'card_holds'). Laid BY PROGRAM, IN A SANDBOX (cutbox-door.mjs). By AI agents, Wed Nov 11 2026. No macro, syntax, notation, axiom, sorry.
-/
import Derived.Test.YtojjcdpfjabepaaGreatDoorRows
import GoSem.ClaimSeven
namespace Go.Proofs.YtojjcdpfjabepaaGreatDoor
namespace Rows

/-- THE TIED CARD OF 'lispproverlaw28.RuleParts'. -/
def rulePartsCard : Claim7 := { stood := { row := rulePartsRow, standIns := [], harness := (true, "ee9f6b9159276d6641dad702fc8217b52f1a449c4be85fb9d9987f38a9050d47"), looks := true }, kinds := [], alts := [], laidByText := true, laidKinds := [.data, .data, .data, .sentinel, .sentinel], laidTests := true, laidLooks := .later }
def RulePartsCardSaid : Prop := Claim7.holds Tryz.pinned (.plain (OpenSpec.ofChange rulePartsSpec)) rulePartsCard

/-- THE TIED CARD OF 'lispproverlaw28.RuleEquivalence'. -/
def ruleEquivalenceCard : Claim7 := { stood := { row := ruleEquivalenceRow, standIns := [], harness := (true, "ee9f6b9159276d6641dad702fc8217b52f1a449c4be85fb9d9987f38a9050d47"), looks := true }, kinds := [], alts := [], laidByText := true, laidKinds := [.data, .data, .data, .sentinel, .sentinel], laidTests := true, laidLooks := .later }
def RuleEquivalenceCardSaid : Prop := Claim7.holds Tryz.pinned (.plain (OpenSpec.ofChange ruleEquivalenceSpec)) ruleEquivalenceCard

/-- THE TIED CARD OF 'lispproverlaw28.RulePermits'. -/
def rulePermitsCard : Claim7 := { stood := { row := rulePermitsRow, standIns := [], harness := (true, "ee9f6b9159276d6641dad702fc8217b52f1a449c4be85fb9d9987f38a9050d47"), looks := true }, kinds := [], alts := [], laidByText := true, laidKinds := [.data, .data, .data, .sentinel, .sentinel], laidTests := true, laidLooks := .later }
def RulePermitsCardSaid : Prop := Claim7.holds Tryz.pinned (.plain (OpenSpec.ofChange rulePermitsSpec)) rulePermitsCard

/-- THE TIED CARD OF 'lispproverlaw28.RuleExchange'. -/
def ruleExchangeCard : Claim7 := { stood := { row := ruleExchangeRow, standIns := [], harness := (true, "ee9f6b9159276d6641dad702fc8217b52f1a449c4be85fb9d9987f38a9050d47"), looks := true }, kinds := [], alts := [], laidByText := true, laidKinds := [.data, .data, .data, .sentinel, .sentinel], laidTests := true, laidLooks := .later }
def RuleExchangeCardSaid : Prop := Claim7.holds Tryz.pinned (.plain (OpenSpec.ofChange ruleExchangeSpec)) ruleExchangeCard

/-- THE SECOND FORM's CARD OF 'lispproverlaw28.RuleParts'. -/
def rulePartsUptoCard : Claim7 := { stood := { row := rulePartsUptoRow, standIns := [], harness := (true, "ee9f6b9159276d6641dad702fc8217b52f1a449c4be85fb9d9987f38a9050d47"), looks := true }, kinds := [], alts := [], laidByText := true, laidKinds := [.data, .data, .data, .sentinel, .sentinel], laidTests := true, laidLooks := .later }
def RulePartsUptoCardSaid : Prop := Claim7.holds Tryz.pinned (.plain (OpenSpec.upto rulePartsSpec)) rulePartsUptoCard

/-- THE SECOND FORM's CARD OF 'lispproverlaw28.RuleEquivalence'. -/
def ruleEquivalenceUptoCard : Claim7 := { stood := { row := ruleEquivalenceUptoRow, standIns := [], harness := (true, "ee9f6b9159276d6641dad702fc8217b52f1a449c4be85fb9d9987f38a9050d47"), looks := true }, kinds := [], alts := [], laidByText := true, laidKinds := [.data, .data, .data, .sentinel, .sentinel], laidTests := true, laidLooks := .later }
def RuleEquivalenceUptoCardSaid : Prop := Claim7.holds Tryz.pinned (.plain (OpenSpec.upto ruleEquivalenceSpec)) ruleEquivalenceUptoCard

/-- THE SECOND FORM's CARD OF 'lispproverlaw28.RulePermits'. -/
def rulePermitsUptoCard : Claim7 := { stood := { row := rulePermitsUptoRow, standIns := [], harness := (true, "ee9f6b9159276d6641dad702fc8217b52f1a449c4be85fb9d9987f38a9050d47"), looks := true }, kinds := [], alts := [], laidByText := true, laidKinds := [.data, .data, .data, .sentinel, .sentinel], laidTests := true, laidLooks := .later }
def RulePermitsUptoCardSaid : Prop := Claim7.holds Tryz.pinned (.plain (OpenSpec.upto rulePermitsSpec)) rulePermitsUptoCard

/-- THE SECOND FORM's CARD OF 'lispproverlaw28.RuleExchange'. -/
def ruleExchangeUptoCard : Claim7 := { stood := { row := ruleExchangeUptoRow, standIns := [], harness := (true, "ee9f6b9159276d6641dad702fc8217b52f1a449c4be85fb9d9987f38a9050d47"), looks := true }, kinds := [], alts := [], laidByText := true, laidKinds := [.data, .data, .data, .sentinel, .sentinel], laidTests := true, laidLooks := .later }
def RuleExchangeUptoCardSaid : Prop := Claim7.holds Tryz.pinned (.plain (OpenSpec.upto ruleExchangeSpec)) ruleExchangeUptoCard
end Rows
end Go.Proofs.YtojjcdpfjabepaaGreatDoor
