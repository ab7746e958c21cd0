import Derived.Test.YtgfhobcfdppbdaaGreatDoorKac
set_option linter.unusedVariables false
set_option linter.unusedSimpArgs false
set_option linter.constructorNameAsVariable false
set_option linter.defProp false
namespace Go.Proofs.YtgfhobcfdppbdaaGreatDoor.fertFew
open Go.ChangeShapes Go.WideShapes Go.ChangeAt Go.RowKit
set_option maxRecDepth 100000
def bD3:(Rows.fertilizeFewerRow.recurses==Tryz.pinned.checked.prog.recurses 3)=true:=by kernel_rfl
def bD5:(Rows.fertilizeFewerRow.named==Tryz.pinned.checked.prog.varsNamed 3)=true:=by kernel_rfl
def bEa:(Rows.fertilizeFewerRow.plainKeys==Tryz.pinned.checked.prog.plainKeys)=true:=by kernel_rfl
def bEb:Tryz.pinned.checked.prog.stopsHeard=true:=by kernel_rfl
def bEd:Tryz.pinned.checked.prog.mayEnter=true:=by kernel_rfl
def bD9:(Rows.fertilizeFewerRow.lifted==Tryz.pinned.checked.prog.liftsFinal)=true:=by kernel_rfl
def bD6:(Tryz.pinned.checked.prog.make==some Rows.fertilizeFewerRow.make)=true:=by kernel_rfl
def bD1:namedTie Tryz.pinned.checked.prog Rows.fertilizeFewerRow.named Rows.fertilizeFewerSpec.vars=true:=by kernel_rfl
def closed:joinedFacts Tryz.pinned.checked.prog 3 Tryz.f3 Rows.fertilizeFewerSpec Rows.fertilizeFewerRow=true:=by
 unfold joinedFacts;rw[bD4,bD2,a3P,a3Q,bLp,bD0,bD3,bD5,bEa,bEb,bEd,bD9,bD6,bD1]
 kernel_rfl
end Go.Proofs.YtgfhobcfdppbdaaGreatDoor.fertFew
