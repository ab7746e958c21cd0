/-
  DERIVED. GIVEN WITH THE SEED: THE CARDS: each row of YtbggbjpobkkbaaaGreatDoorRows.lean that lists a variable, with what it lists TIED to the program's text (the seventh form; the later family's looks); each row that meets fmt, with fmt's text TOLD by the authors' own Lean function (tested against real Go, not proved from fmt's source: count such statements apart). THE CARD IS WHAT COUNTS. Prove the row's statement (the work); the ties are given (YtbggbjpobkkbaaaGreatDoorTie.lean); close each card by the builder's one call (the guide's Derived/Test/ToyasCard.lean, 'card_holds'). Laid BY PROGRAM, IN A SANDBOX (cutbox-door.mjs). By AI agents, Wed Nov 11 2026. No macro, syntax, notation, axiom, sorry.
-/
import Derived.Test.YtbggbjpobkkbaaaGreatDoorRows
import GoSem.ClaimSeven
namespace Go.Proofs.YtbggbjpobkkbaaaGreatDoor
namespace Rows

/-- THE TIED CARD OF 'lispproverlaw27.ContextGrows'. -/
def contextGrowsCard : Claim7 := { stood := { row := contextGrowsRow, standIns := [], harness := (true, "778837c00796a2eb7ab50539047793ecebcc195be4e49f0d626dde26828255bd"), looks := false }, kinds := [], alts := [], laidByText := true, laidKinds := [.data, .data, .data], laidTests := true, laidLooks := .later }
def ContextGrowsCardSaid : Prop := Claim7.holds Tryz.pinned (.plain (OpenSpec.ofChange contextGrowsSpec)) contextGrowsCard

/-- THE TIED CARD OF 'lispproverlaw27.ContextValue'. -/
def contextValueCard : Claim7 := { stood := { row := contextValueRow, standIns := [], harness := (true, "778837c00796a2eb7ab50539047793ecebcc195be4e49f0d626dde26828255bd"), looks := false }, kinds := [], alts := [], laidByText := true, laidKinds := [.data, .data, .data], laidTests := true, laidLooks := .later }
def ContextValueCardSaid : Prop := Claim7.holds Tryz.pinned (.plain (OpenSpec.ofChange contextValueSpec)) contextValueCard

/-- THE TIED CARD OF 'lispproverlaw27.ContextAssume'. -/
def contextAssumeCard : Claim7 := { stood := { row := contextAssumeRow, standIns := [], harness := (true, "778837c00796a2eb7ab50539047793ecebcc195be4e49f0d626dde26828255bd"), looks := false }, kinds := [], alts := [], laidByText := true, laidKinds := [.data, .data, .data], laidTests := true, laidLooks := .later }
def ContextAssumeCardSaid : Prop := Claim7.holds Tryz.pinned (.plain (OpenSpec.ofChange contextAssumeSpec)) contextAssumeCard

/-- THE SECOND FORM's CARD OF 'lispproverlaw27.ContextGrows'. -/
def contextGrowsUptoCard : Claim7 := { stood := { row := contextGrowsUptoRow, standIns := [], harness := (true, "778837c00796a2eb7ab50539047793ecebcc195be4e49f0d626dde26828255bd"), looks := false }, kinds := [], alts := [], laidByText := true, laidKinds := [.data, .data, .data], laidTests := true, laidLooks := .later }
def ContextGrowsUptoCardSaid : Prop := Claim7.holds Tryz.pinned (.plain (OpenSpec.upto contextGrowsSpec)) contextGrowsUptoCard

/-- THE SECOND FORM's CARD OF 'lispproverlaw27.ContextValue'. -/
def contextValueUptoCard : Claim7 := { stood := { row := contextValueUptoRow, standIns := [], harness := (true, "778837c00796a2eb7ab50539047793ecebcc195be4e49f0d626dde26828255bd"), looks := false }, kinds := [], alts := [], laidByText := true, laidKinds := [.data, .data, .data], laidTests := true, laidLooks := .later }
def ContextValueUptoCardSaid : Prop := Claim7.holds Tryz.pinned (.plain (OpenSpec.upto contextValueSpec)) contextValueUptoCard

/-- THE SECOND FORM's CARD OF 'lispproverlaw27.ContextAssume'. -/
def contextAssumeUptoCard : Claim7 := { stood := { row := contextAssumeUptoRow, standIns := [], harness := (true, "778837c00796a2eb7ab50539047793ecebcc195be4e49f0d626dde26828255bd"), looks := false }, kinds := [], alts := [], laidByText := true, laidKinds := [.data, .data, .data], laidTests := true, laidLooks := .later }
def ContextAssumeUptoCardSaid : Prop := Claim7.holds Tryz.pinned (.plain (OpenSpec.upto contextAssumeSpec)) contextAssumeUptoCard
end Rows
end Go.Proofs.YtbggbjpobkkbaaaGreatDoor
