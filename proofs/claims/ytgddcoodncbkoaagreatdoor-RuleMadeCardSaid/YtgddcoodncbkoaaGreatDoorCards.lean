/-
  DERIVED. GIVEN WITH THE SEED: THE CARDS: each row of YtgddcoodncbkoaaGreatDoorRows.lean that lists a variable, with what it lists TIED to the program's text (the seventh form; the later family's looks); each row that meets fmt, with fmt's text TOLD by the authors' own Lean function (tested against real Go, not proved from fmt's source: count such statements apart). THE CARD IS WHAT COUNTS. Prove the row's statement (the work); the ties are given (YtgddcoodncbkoaaGreatDoorTie.lean); close each card by the builder's one call (the guide's Derived/Test/ToyasCard.lean, 'card_holds'). Laid BY PROGRAM, IN A SANDBOX (cutbox-door.mjs). By AI agents, Wed Nov 11 2026. No macro, syntax, notation, axiom, sorry.
-/
import Derived.Test.YtgddcoodncbkoaaGreatDoorRows
import GoSem.ClaimSeven
namespace Go.Proofs.YtgddcoodncbkoaaGreatDoor
namespace Rows

/-- THE TIED CARD OF 'lispproverlaw28.RuleMade'. -/
def ruleMadeCard : Claim7 := { stood := { row := ruleMadeRow, standIns := [], harness := (true, "cd35225b608d4f2a3434981042f314a9ca4b9fa07c5b8ae5fba89e513f159d5b"), looks := true }, kinds := [], alts := [], laidByText := true, laidKinds := [.data, .data, .data, .sentinel, .sentinel], laidTests := true, laidLooks := .later }
def RuleMadeCardSaid : Prop := Claim7.holds Tryz.pinned (.plain (OpenSpec.ofChange ruleMadeSpec)) ruleMadeCard

/-- THE TIED CARD OF 'lispproverlaw28.RuleLemmas'. -/
def ruleLemmasCard : Claim7 := { stood := { row := ruleLemmasRow, standIns := [], harness := (true, "cd35225b608d4f2a3434981042f314a9ca4b9fa07c5b8ae5fba89e513f159d5b"), looks := true }, kinds := [], alts := [], laidByText := true, laidKinds := [.data, .data, .data, .sentinel, .sentinel], laidTests := true, laidLooks := .later }
def RuleLemmasCardSaid : Prop := Claim7.holds Tryz.pinned (.plain (OpenSpec.ofChange ruleLemmasSpec)) ruleLemmasCard

/-- THE SECOND FORM's CARD OF 'lispproverlaw28.RuleMade'. -/
def ruleMadeUptoCard : Claim7 := { stood := { row := ruleMadeUptoRow, standIns := [], harness := (true, "cd35225b608d4f2a3434981042f314a9ca4b9fa07c5b8ae5fba89e513f159d5b"), looks := true }, kinds := [], alts := [], laidByText := true, laidKinds := [.data, .data, .data, .sentinel, .sentinel], laidTests := true, laidLooks := .later }
def RuleMadeUptoCardSaid : Prop := Claim7.holds Tryz.pinned (.plain (OpenSpec.upto ruleMadeSpec)) ruleMadeUptoCard

/-- THE SECOND FORM's CARD OF 'lispproverlaw28.RuleLemmas'. -/
def ruleLemmasUptoCard : Claim7 := { stood := { row := ruleLemmasUptoRow, standIns := [], harness := (true, "cd35225b608d4f2a3434981042f314a9ca4b9fa07c5b8ae5fba89e513f159d5b"), looks := true }, kinds := [], alts := [], laidByText := true, laidKinds := [.data, .data, .data, .sentinel, .sentinel], laidTests := true, laidLooks := .later }
def RuleLemmasUptoCardSaid : Prop := Claim7.holds Tryz.pinned (.plain (OpenSpec.upto ruleLemmasSpec)) ruleLemmasUptoCard
end Rows
end Go.Proofs.YtgddcoodncbkoaaGreatDoor
