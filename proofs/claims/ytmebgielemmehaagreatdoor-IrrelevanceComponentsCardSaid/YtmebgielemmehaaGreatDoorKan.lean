import Derived.Test.YtmebgielemmehaaGreatDoorKam
set_option linter.unusedVariables false
set_option linter.unusedSimpArgs false
set_option linter.constructorNameAsVariable false
set_option linter.defProp false
namespace Go.Proofs.YtmebgielemmehaaGreatDoor.irrComp
open Go.ChangeShapes Go.WideShapes Go.ChangeAt Go.RowKit
set_option maxRecDepth 100000
def aTH:(Rows.irrelevanceComponentsRow.recurses==Tryz.pinned.checked.prog.recurses 3)=true:=by kernel_rfl
def aTJ:(Rows.irrelevanceComponentsRow.named==Tryz.pinned.checked.prog.varsNamed 3)=true:=by kernel_rfl
def aTO:(Rows.irrelevanceComponentsRow.plainKeys==Tryz.pinned.checked.prog.plainKeys)=true:=by kernel_rfl
def aTP:Tryz.pinned.checked.prog.stopsHeard=true:=by kernel_rfl
def aTR:Tryz.pinned.checked.prog.mayEnter=true:=by kernel_rfl
def aTN:(Rows.irrelevanceComponentsRow.lifted==Tryz.pinned.checked.prog.liftsFinal)=true:=by kernel_rfl
def aTK:(Tryz.pinned.checked.prog.make==some Rows.irrelevanceComponentsRow.make)=true:=by kernel_rfl
def aTF:namedTie Tryz.pinned.checked.prog Rows.irrelevanceComponentsRow.named Rows.irrelevanceComponentsSpec.vars=true:=by kernel_rfl
def closed:joinedFacts Tryz.pinned.checked.prog 3 Tryz.f3 Rows.irrelevanceComponentsSpec Rows.irrelevanceComponentsRow=true:=by
 unfold joinedFacts;rw[aTI,aTG,aLY,aLZ,a07,aTE,aTH,aTJ,aTO,aTP,aTR,aTN,aTK,aTF]
 kernel_rfl
end Go.Proofs.YtmebgielemmehaaGreatDoor.irrComp
