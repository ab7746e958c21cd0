import Derived.Test.YtdjaoblfbbcpdaaGreatDoorCards
import Derived.Test.YtdjaoblfbbcpdaaGreatDoorTie
import Derived.ProofKit
set_option linter.unusedVariables false
set_option linter.unusedSimpArgs false
set_option linter.constructorNameAsVariable false
set_option linter.defProp false
namespace Go.Proofs.YtdjaoblfbbcpdaaGreatDoor.rulePt
open Go.ChangeShapes Go.WideShapes Go.ChangeAt Go.RowKit
set_option maxRecDepth 100000
def a6U:laidOutB Tryz.pinned.checked.prog=true:=by kernel_rfl
def a6S:mapsRowed Tryz.pinned.checked.prog=true:=by kernel_rfl
def aX1:(Tryz.pinned.checked.prog.stops==[])=true:=by kernel_rfl
def aX2:(Tryz.pinned.checked.prog.stopKnobs==[])=true:=by kernel_rfl
def bDW:(Rows.rulePartsRow.inPlace==Tryz.pinned.checked.prog.inPlace 3)=true:=by kernel_rfl
def a6Q:(Rows.rulePartsRow.unfollowed==Tryz.pinned.checked.prog.unfollowed 3)=true:=by kernel_rfl
def k_fn:Tryz.pinned.checked.prog.funcNamed Rows.rulePartsRow.func=some 3:=by kernel_rfl
def a6Y:true=Tryz.pinned.checked.prog.looks []:=by kernel_rfl
def a62:false=Rows.rulePartsRow.goesBy Tryz.pinned.checked.prog:=by kernel_rfl
def a6X : Tryz.pinned.checked.prog.mainIs = some (true, "466bbe8e7d43e0543713a5feb73b5fa005e2da9610333e07de98bdf8a4b0c744".toList) := by kernel_rfl
end Go.Proofs.YtdjaoblfbbcpdaaGreatDoor.rulePt
