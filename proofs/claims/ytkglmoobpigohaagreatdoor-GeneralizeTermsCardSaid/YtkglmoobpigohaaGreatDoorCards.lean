/-
  DERIVED. GIVEN WITH THE SEED: THE CARDS: each row of YtkglmoobpigohaaGreatDoorRows.lean that lists a variable, with what it lists TIED to the program's text (the seventh form; the later family's looks); each row that meets fmt, with fmt's text TOLD by the authors' own Lean function (tested against real Go, not proved from fmt's source: count such statements apart). THE CARD IS WHAT COUNTS. Prove the row's statement (the work); the ties are given (YtkglmoobpigohaaGreatDoorTie.lean); close each card by the builder's one call (the guide's Derived/Test/ToyasCard.lean, 'card_holds'). Laid BY PROGRAM, IN A SANDBOX (cutbox-door.mjs). By AI agents, Wed Nov 11 2026. No macro, syntax, notation, axiom, sorry.
-/
import Derived.Test.YtkglmoobpigohaaGreatDoorRows
import GoSem.ClaimSeven
namespace Go.Proofs.YtkglmoobpigohaaGreatDoor
namespace Rows

/-- THE TIED CARD OF 'lispproverlaw35.GeneralizeTerms'. -/
def generalizeTermsCard : Claim7 := { stood := { row := generalizeTermsRow, standIns := [], harness := (true, "ac56deae84709a5543754bdd56c3f9fd11eb8a7b5e40a7d6e391fa0be5c246ac"), looks := false }, kinds := [], alts := [], laidByText := true, laidKinds := [.data, .data, .data], laidTests := true, laidLooks := .later }
def GeneralizeTermsCardSaid : Prop := Claim7.holds Tryz.pinned (.plain (OpenSpec.ofChange generalizeTermsSpec)) generalizeTermsCard

/-- THE SECOND FORM's CARD OF 'lispproverlaw35.GeneralizeTerms'. -/
def generalizeTermsUptoCard : Claim7 := { stood := { row := generalizeTermsUptoRow, standIns := [], harness := (true, "ac56deae84709a5543754bdd56c3f9fd11eb8a7b5e40a7d6e391fa0be5c246ac"), looks := false }, kinds := [], alts := [], laidByText := true, laidKinds := [.data, .data, .data], laidTests := true, laidLooks := .later }
def GeneralizeTermsUptoCardSaid : Prop := Claim7.holds Tryz.pinned (.plain (OpenSpec.upto generalizeTermsSpec)) generalizeTermsUptoCard
end Rows
end Go.Proofs.YtkglmoobpigohaaGreatDoor
