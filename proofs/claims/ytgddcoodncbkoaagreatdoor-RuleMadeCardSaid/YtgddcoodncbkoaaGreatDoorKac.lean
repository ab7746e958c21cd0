import Derived.Test.YtgddcoodncbkoaaGreatDoorKab
set_option linter.unusedVariables false
set_option linter.unusedSimpArgs false
set_option linter.constructorNameAsVariable false
set_option linter.defProp false
namespace Go.Proofs.YtgddcoodncbkoaaGreatDoor.ruleMd
open Go.ChangeShapes Go.WideShapes Go.ChangeAt Go.RowKit
set_option maxRecDepth 100000
def bEc:(Rows.ruleMadeRow.recurses==Tryz.pinned.checked.prog.recurses 3)=true:=by kernel_rfl
def bEe:(Rows.ruleMadeRow.named==Tryz.pinned.checked.prog.varsNamed 3)=true:=by kernel_rfl
def bEj:(Rows.ruleMadeRow.plainKeys==Tryz.pinned.checked.prog.plainKeys)=true:=by kernel_rfl
def bEk:Tryz.pinned.checked.prog.stopsHeard=true:=by kernel_rfl
def bEm:Tryz.pinned.checked.prog.mayEnter=true:=by kernel_rfl
def bEi:(Rows.ruleMadeRow.lifted==Tryz.pinned.checked.prog.liftsFinal)=true:=by kernel_rfl
def bEf:(Tryz.pinned.checked.prog.make==some Rows.ruleMadeRow.make)=true:=by kernel_rfl
def bEa:namedTie Tryz.pinned.checked.prog Rows.ruleMadeRow.named Rows.ruleMadeSpec.vars=true:=by kernel_rfl
def closed:joinedFacts Tryz.pinned.checked.prog 3 Tryz.f3 Rows.ruleMadeSpec Rows.ruleMadeRow=true:=by
 unfold joinedFacts;rw[bEd,bEb,a1L,a1M,bLQ,bD9,bEc,bEe,bEj,bEk,bEm,bEi,bEf,bEa]
 kernel_rfl
end Go.Proofs.YtgddcoodncbkoaaGreatDoor.ruleMd
