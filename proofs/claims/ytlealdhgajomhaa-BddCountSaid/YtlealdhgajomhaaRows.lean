/-
  No cell of these rows narrows 'for every input' (looked for: loops, veiled, ifaces, maps, wideKeys, modest, calm, conditions, laid).
  DERIVED. THE GIVEN ROWS OF THIS SEAT. 6 by the template 'for every input the law returns true; each argument reads behind the call as it read before'; 0 by the template 'total and deterministic' (their statements: YtlealdhgajomhaaTotals.lean).
  GIVEN WITH THE SEED: the statements are not yours to turn. If you find one false, say at which input.
  Laid BY PROGRAM, IN A SANDBOX (cutbox-rows.mjs): the forced cells as the released guide's own fill.sh prints them over the translation 0bf11556dc15db16… (all of the seat's roots in one cut). By AI agents, Wed Nov 11 2026. No macro, syntax, notation, axiom, sorry.
-/
import Derived.Test.YtlealdhgajomhaaChecked
import GoSem.Claim
import GoSem.ClaimJoined
import GoSem.ClaimMapViews
import Derived.JoinedTies
import Derived.KernelRfl
namespace Go.Proofs.Ytlealdhgajomhaa
/- THE CELL 'sum', in the pinned program and in every row, IS THE sha256 OF THE DUMP (.gsa) THAT YtlealdhgajomhaaProg.lean LOADS. Nothing in Lean hashes anything: it is a label: what it is worth is what the hold of that sum in a sandbox is worth. -/
noncomputable def Try.pinned : Pinned := { name := "ytlealdhgajomhaa", sum := "0bf11556dc15db16c871b7a23d004e8a8cfab5279a6aa8b24355a000f2bff087", checked := Try.checked }
namespace Rows
def none {H : Type} : Left H := { results := [], args := [] }

/-- 'lispproverlaw39.BddBasic': WHATEVER THE INPUT: true; the input reads as it did. -/
def bddBasicSpec : ChangeSpec := { name := "bddBasic", fn := fun _ => fun
  | [d1, d2] => { results := [.lit (.bool true)], args := [d1, d2] }
  | _ => none }
def bddBasicRow : OpenClaim := { program := "ytlealdhgajomhaa", sum := "0bf11556dc15db16c871b7a23d004e8a8cfab5279a6aa8b24355a000f2bff087", func := "lispprover/lispproverlaw39.BddBasic", spec := "bddBasic", unfollowed := true, recurses := true, plainKeys := false, apart := false }
def BddBasicSaid : Prop := bddBasicRow.holds Try.pinned (OpenSpec.ofChange bddBasicSpec)

/-- ITS FALSE NEIGHBOUR: 'it returns false'. Refute it at one input. -/
def bddBasicWrong : ChangeSpec := { name := "bddBasic", fn := fun _ => fun
  | [d1, d2] => { results := [.lit (.bool false)], args := [d1, d2] }
  | _ => none }
def BddBasicWrongFalsely : Prop := bddBasicRow.holds Try.pinned (OpenSpec.ofChange bddBasicWrong)

/-- 'lispproverlaw39.BddValid': WHATEVER THE INPUT: true; the input reads as it did. -/
def bddValidSpec : ChangeSpec := { name := "bddValid", fn := fun _ => fun
  | [d1, d2, d3, d4, d5, d6] => { results := [.lit (.bool true)], args := [d1, d2, d3, d4, d5, d6] }
  | _ => none }
def bddValidRow : OpenClaim := { program := "ytlealdhgajomhaa", sum := "0bf11556dc15db16c871b7a23d004e8a8cfab5279a6aa8b24355a000f2bff087", func := "lispprover/lispproverlaw39.BddValid", spec := "bddValid", unfollowed := true, recurses := true, plainKeys := false, apart := false }
def BddValidSaid : Prop := bddValidRow.holds Try.pinned (OpenSpec.ofChange bddValidSpec)

/-- ITS FALSE NEIGHBOUR: 'it returns false'. Refute it at one input. -/
def bddValidWrong : ChangeSpec := { name := "bddValid", fn := fun _ => fun
  | [d1, d2, d3, d4, d5, d6] => { results := [.lit (.bool false)], args := [d1, d2, d3, d4, d5, d6] }
  | _ => none }
def BddValidWrongFalsely : Prop := bddValidRow.holds Try.pinned (OpenSpec.ofChange bddValidWrong)

/-- 'lispproverlaw39.BddValue': WHATEVER THE INPUT: true; the input reads as it did. -/
def bddValueSpec : ChangeSpec := { name := "bddValue", fn := fun _ => fun
  | [d1, d2] => { results := [.lit (.bool true)], args := [d1, d2] }
  | _ => none }
def bddValueRow : OpenClaim := { program := "ytlealdhgajomhaa", sum := "0bf11556dc15db16c871b7a23d004e8a8cfab5279a6aa8b24355a000f2bff087", func := "lispprover/lispproverlaw39.BddValue", spec := "bddValue", unfollowed := true, recurses := true, plainKeys := false, apart := false }
def BddValueSaid : Prop := bddValueRow.holds Try.pinned (OpenSpec.ofChange bddValueSpec)

/-- ITS FALSE NEIGHBOUR: 'it returns false'. Refute it at one input. -/
def bddValueWrong : ChangeSpec := { name := "bddValue", fn := fun _ => fun
  | [d1, d2] => { results := [.lit (.bool false)], args := [d1, d2] }
  | _ => none }
def BddValueWrongFalsely : Prop := bddValueRow.holds Try.pinned (OpenSpec.ofChange bddValueWrong)

/-- 'lispproverlaw39.BddCanonical': WHATEVER THE INPUT: true; the input reads as it did. -/
def bddCanonicalSpec : ChangeSpec := { name := "bddCanonical", fn := fun _ => fun
  | [d1, d2] => { results := [.lit (.bool true)], args := [d1, d2] }
  | _ => none }
def bddCanonicalRow : OpenClaim := { program := "ytlealdhgajomhaa", sum := "0bf11556dc15db16c871b7a23d004e8a8cfab5279a6aa8b24355a000f2bff087", func := "lispprover/lispproverlaw39.BddCanonical", spec := "bddCanonical", unfollowed := true, recurses := true, plainKeys := false, apart := false }
def BddCanonicalSaid : Prop := bddCanonicalRow.holds Try.pinned (OpenSpec.ofChange bddCanonicalSpec)

/-- ITS FALSE NEIGHBOUR: 'it returns false'. Refute it at one input. -/
def bddCanonicalWrong : ChangeSpec := { name := "bddCanonical", fn := fun _ => fun
  | [d1, d2] => { results := [.lit (.bool false)], args := [d1, d2] }
  | _ => none }
def BddCanonicalWrongFalsely : Prop := bddCanonicalRow.holds Try.pinned (OpenSpec.ofChange bddCanonicalWrong)

/-- 'lispproverlaw39.BddOperations': WHATEVER THE INPUT: true; the input reads as it did. -/
def bddOperationsSpec : ChangeSpec := { name := "bddOperations", fn := fun _ => fun
  | [d1, d2] => { results := [.lit (.bool true)], args := [d1, d2] }
  | _ => none }
def bddOperationsRow : OpenClaim := { program := "ytlealdhgajomhaa", sum := "0bf11556dc15db16c871b7a23d004e8a8cfab5279a6aa8b24355a000f2bff087", func := "lispprover/lispproverlaw39.BddOperations", spec := "bddOperations", unfollowed := true, recurses := true, plainKeys := false, apart := false }
def BddOperationsSaid : Prop := bddOperationsRow.holds Try.pinned (OpenSpec.ofChange bddOperationsSpec)

/-- ITS FALSE NEIGHBOUR: 'it returns false'. Refute it at one input. -/
def bddOperationsWrong : ChangeSpec := { name := "bddOperations", fn := fun _ => fun
  | [d1, d2] => { results := [.lit (.bool false)], args := [d1, d2] }
  | _ => none }
def BddOperationsWrongFalsely : Prop := bddOperationsRow.holds Try.pinned (OpenSpec.ofChange bddOperationsWrong)

/-- 'lispproverlaw39.BddCount': WHATEVER THE INPUT: true; the input reads as it did. -/
def bddCountSpec : ChangeSpec := { name := "bddCount", fn := fun _ => fun
  | [d1, d2] => { results := [.lit (.bool true)], args := [d1, d2] }
  | _ => none }
def bddCountRow : OpenClaim := { program := "ytlealdhgajomhaa", sum := "0bf11556dc15db16c871b7a23d004e8a8cfab5279a6aa8b24355a000f2bff087", func := "lispprover/lispproverlaw39.BddCount", spec := "bddCount", unfollowed := true, recurses := true, plainKeys := false, apart := false }
def BddCountSaid : Prop := bddCountRow.holds Try.pinned (OpenSpec.ofChange bddCountSpec)

/-- ITS FALSE NEIGHBOUR: 'it returns false'. Refute it at one input. -/
def bddCountWrong : ChangeSpec := { name := "bddCount", fn := fun _ => fun
  | [d1, d2] => { results := [.lit (.bool false)], args := [d1, d2] }
  | _ => none }
def BddCountWrongFalsely : Prop := bddCountRow.holds Try.pinned (OpenSpec.ofChange bddCountWrong)

/- THE SECOND FORM. 'bulk': how many values and letters a reading holds, each counted each time it is reached (what is shared counts as often as it is met; a slice's spare places count too). A statement '..UptoSaid' is the law's where the arguments, and the package variables that the reading takes, are together of bulk at most 1048576: NARROWER than '..Said'. Prove '..Said' where nothing that the law and all that it calls make is longer than what came in: it says more and counts as full. Else prove '..UptoSaid'. A law counts once. -/
mutual
def uptoBulk {H : Type} : DataW H → Nat
  | .lit (.string bytes) => bytes.length + 1
  | .lit _ => 1
  | .nil => 1
  | .ptr d => uptoBulk d + 1
  | .slice elems spare => uptoBulkAll elems + uptoBulkAll spare + 1
  | .agg parts => uptoBulkAll parts + 1
  | .iface _ d => uptoBulk d + 1
  | .map entries => uptoBulkEntries entries + 1
  | .held _ => 1
def uptoBulkAll {H : Type} : List (DataW H) → Nat
  | [] => 0
  | d :: r => uptoBulk d + uptoBulkAll r
def uptoBulkEntries {H : Type} : List (Lit × DataW H) → Nat
  | [] => 0
  | x :: r => uptoBulkEntry x + uptoBulkEntries r
def uptoBulkEntry {H : Type} : Lit × DataW H → Nat
  | (.string bytes, d) => bytes.length + uptoBulk d + 1
  | (_, d) => uptoBulk d + 1
 end
def uptoSmall : (H : Type) → List (DataW H) → Bool := fun _ ds => decide (uptoBulkAll ds ≤ 1048576)
def OpenSpec.upto (s : _root_.Go.ChangeSpec) : _root_.Go.OpenSpec := { _root_.Go.OpenSpec.ofChange s with cond := some uptoSmall }

/-- 'lispproverlaw39.BddBasic', WHERE WHAT IT READS IS OF BULK AT MOST 1048576: true; the input reads as it did. -/
def bddBasicUptoRow : OpenClaim := { program := "ytlealdhgajomhaa", sum := "0bf11556dc15db16c871b7a23d004e8a8cfab5279a6aa8b24355a000f2bff087", func := "lispprover/lispproverlaw39.BddBasic", spec := "bddBasic", unfollowed := true, recurses := true, plainKeys := false, apart := false, narrowed := true }
def BddBasicUptoSaid : Prop := bddBasicUptoRow.holds Try.pinned (OpenSpec.upto bddBasicSpec)

/-- 'lispproverlaw39.BddValid', WHERE WHAT IT READS IS OF BULK AT MOST 1048576: true; the input reads as it did. -/
def bddValidUptoRow : OpenClaim := { program := "ytlealdhgajomhaa", sum := "0bf11556dc15db16c871b7a23d004e8a8cfab5279a6aa8b24355a000f2bff087", func := "lispprover/lispproverlaw39.BddValid", spec := "bddValid", unfollowed := true, recurses := true, plainKeys := false, apart := false, narrowed := true }
def BddValidUptoSaid : Prop := bddValidUptoRow.holds Try.pinned (OpenSpec.upto bddValidSpec)

/-- 'lispproverlaw39.BddValue', WHERE WHAT IT READS IS OF BULK AT MOST 1048576: true; the input reads as it did. -/
def bddValueUptoRow : OpenClaim := { program := "ytlealdhgajomhaa", sum := "0bf11556dc15db16c871b7a23d004e8a8cfab5279a6aa8b24355a000f2bff087", func := "lispprover/lispproverlaw39.BddValue", spec := "bddValue", unfollowed := true, recurses := true, plainKeys := false, apart := false, narrowed := true }
def BddValueUptoSaid : Prop := bddValueUptoRow.holds Try.pinned (OpenSpec.upto bddValueSpec)

/-- 'lispproverlaw39.BddCanonical', WHERE WHAT IT READS IS OF BULK AT MOST 1048576: true; the input reads as it did. -/
def bddCanonicalUptoRow : OpenClaim := { program := "ytlealdhgajomhaa", sum := "0bf11556dc15db16c871b7a23d004e8a8cfab5279a6aa8b24355a000f2bff087", func := "lispprover/lispproverlaw39.BddCanonical", spec := "bddCanonical", unfollowed := true, recurses := true, plainKeys := false, apart := false, narrowed := true }
def BddCanonicalUptoSaid : Prop := bddCanonicalUptoRow.holds Try.pinned (OpenSpec.upto bddCanonicalSpec)

/-- 'lispproverlaw39.BddOperations', WHERE WHAT IT READS IS OF BULK AT MOST 1048576: true; the input reads as it did. -/
def bddOperationsUptoRow : OpenClaim := { program := "ytlealdhgajomhaa", sum := "0bf11556dc15db16c871b7a23d004e8a8cfab5279a6aa8b24355a000f2bff087", func := "lispprover/lispproverlaw39.BddOperations", spec := "bddOperations", unfollowed := true, recurses := true, plainKeys := false, apart := false, narrowed := true }
def BddOperationsUptoSaid : Prop := bddOperationsUptoRow.holds Try.pinned (OpenSpec.upto bddOperationsSpec)

/-- 'lispproverlaw39.BddCount', WHERE WHAT IT READS IS OF BULK AT MOST 1048576: true; the input reads as it did. -/
def bddCountUptoRow : OpenClaim := { program := "ytlealdhgajomhaa", sum := "0bf11556dc15db16c871b7a23d004e8a8cfab5279a6aa8b24355a000f2bff087", func := "lispprover/lispproverlaw39.BddCount", spec := "bddCount", unfollowed := true, recurses := true, plainKeys := false, apart := false, narrowed := true }
def BddCountUptoSaid : Prop := bddCountUptoRow.holds Try.pinned (OpenSpec.upto bddCountSpec)

end Rows
end Go.Proofs.Ytlealdhgajomhaa
