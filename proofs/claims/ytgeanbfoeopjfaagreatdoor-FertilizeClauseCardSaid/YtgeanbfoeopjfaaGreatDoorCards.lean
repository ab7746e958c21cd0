/-
  DERIVED. GIVEN WITH THE SEED: THE CARDS: each row of YtgeanbfoeopjfaaGreatDoorRows.lean that lists a variable, with what it lists TIED to the program's text (the seventh form; the later family's looks); each row that meets fmt, with fmt's text TOLD by the authors' own Lean function (tested against real Go, not proved from fmt's source: count such statements apart). THE CARD IS WHAT COUNTS. Prove the row's statement (the work); the ties are given (YtgeanbfoeopjfaaGreatDoorTie.lean); close each card by the builder's one call (the guide's Derived/Test/ToyasCard.lean, 'card_holds'). Laid BY PROGRAM, IN A SANDBOX (cutbox-door.mjs). By AI agents, Wed Nov 11 2026. No macro, syntax, notation, axiom, sorry.
-/
import Derived.Test.YtgeanbfoeopjfaaGreatDoorRows
import GoSem.ClaimSeven
namespace Go.Proofs.YtgeanbfoeopjfaaGreatDoor
namespace Rows

/-- THE TIED CARD OF 'lispproverlaw34.FertilizeFind'. -/
def fertilizeFindCard : Claim7 := { stood := { row := fertilizeFindRow, standIns := [], harness := (true, "deb108ddb35a8b502c32a7164aaa5884a1ba91a0e6a232aafe27f420132e88b2"), looks := true }, kinds := [], alts := [], laidByText := true, laidKinds := [.data, .data, .data, .sentinel, .sentinel], laidTests := true, laidLooks := .later }
def FertilizeFindCardSaid : Prop := Claim7.holds Tryz.pinned (.plain (OpenSpec.ofChange fertilizeFindSpec)) fertilizeFindCard

/-- THE TIED CARD OF 'lispproverlaw34.FertilizeClause'. -/
def fertilizeClauseCard : Claim7 := { stood := { row := fertilizeClauseRow, standIns := [], harness := (true, "deb108ddb35a8b502c32a7164aaa5884a1ba91a0e6a232aafe27f420132e88b2"), looks := true }, kinds := [], alts := [], laidByText := true, laidKinds := [.data, .data, .data, .sentinel, .sentinel], laidTests := true, laidLooks := .later }
def FertilizeClauseCardSaid : Prop := Claim7.holds Tryz.pinned (.plain (OpenSpec.ofChange fertilizeClauseSpec)) fertilizeClauseCard

/-- THE SECOND FORM's CARD OF 'lispproverlaw34.FertilizeFind'. -/
def fertilizeFindUptoCard : Claim7 := { stood := { row := fertilizeFindUptoRow, standIns := [], harness := (true, "deb108ddb35a8b502c32a7164aaa5884a1ba91a0e6a232aafe27f420132e88b2"), looks := true }, kinds := [], alts := [], laidByText := true, laidKinds := [.data, .data, .data, .sentinel, .sentinel], laidTests := true, laidLooks := .later }
def FertilizeFindUptoCardSaid : Prop := Claim7.holds Tryz.pinned (.plain (OpenSpec.upto fertilizeFindSpec)) fertilizeFindUptoCard

/-- THE SECOND FORM's CARD OF 'lispproverlaw34.FertilizeClause'. -/
def fertilizeClauseUptoCard : Claim7 := { stood := { row := fertilizeClauseUptoRow, standIns := [], harness := (true, "deb108ddb35a8b502c32a7164aaa5884a1ba91a0e6a232aafe27f420132e88b2"), looks := true }, kinds := [], alts := [], laidByText := true, laidKinds := [.data, .data, .data, .sentinel, .sentinel], laidTests := true, laidLooks := .later }
def FertilizeClauseUptoCardSaid : Prop := Claim7.holds Tryz.pinned (.plain (OpenSpec.upto fertilizeClauseSpec)) fertilizeClauseUptoCard
end Rows
end Go.Proofs.YtgeanbfoeopjfaaGreatDoor
