import Derived.Test.YtdjaoblfbbcpdaaGreatDoorKab
set_option linter.unusedVariables false
set_option linter.unusedSimpArgs false
set_option linter.constructorNameAsVariable false
set_option linter.defProp false
namespace Go.Proofs.YtdjaoblfbbcpdaaGreatDoor.rulePt
open Go.ChangeShapes Go.WideShapes Go.ChangeAt Go.RowKit
set_option maxRecDepth 100000
def a6T:(Rows.rulePartsRow.recurses==Tryz.pinned.checked.prog.recurses 3)=true:=by kernel_rfl
def a6V:(Rows.rulePartsRow.named==Tryz.pinned.checked.prog.varsNamed 3)=true:=by kernel_rfl
def a60:(Rows.rulePartsRow.plainKeys==Tryz.pinned.checked.prog.plainKeys)=true:=by kernel_rfl
def a61:Tryz.pinned.checked.prog.stopsHeard=true:=by kernel_rfl
def a63:Tryz.pinned.checked.prog.mayEnter=true:=by kernel_rfl
def a6Z:(Rows.rulePartsRow.lifted==Tryz.pinned.checked.prog.liftsFinal)=true:=by kernel_rfl
def a6W:(Tryz.pinned.checked.prog.make==some Rows.rulePartsRow.make)=true:=by kernel_rfl
def a6R:namedTie Tryz.pinned.checked.prog Rows.rulePartsRow.named Rows.rulePartsSpec.vars=true:=by kernel_rfl
def closed:joinedFacts Tryz.pinned.checked.prog 3 Tryz.f3 Rows.rulePartsSpec Rows.rulePartsRow=true:=by
 unfold joinedFacts;rw[a6U,a6S,aX1,aX2,bDW,a6Q,a6T,a6V,a60,a61,a63,a6Z,a6W,a6R]
 kernel_rfl
end Go.Proofs.YtdjaoblfbbcpdaaGreatDoor.rulePt
