import Derived.Test.YtgfhobcfdppbdaaGreatDoorCards
import Derived.Test.YtgfhobcfdppbdaaGreatDoorTie
import Derived.ProofKit
set_option linter.unusedVariables false
set_option linter.unusedSimpArgs false
set_option linter.constructorNameAsVariable false
set_option linter.defProp false
namespace Go.Proofs.YtgfhobcfdppbdaaGreatDoor.fertFew
open Go.ChangeShapes Go.WideShapes Go.ChangeAt Go.RowKit
set_option maxRecDepth 100000
def bD4:laidOutB Tryz.pinned.checked.prog=true:=by kernel_rfl
def bD2:mapsRowed Tryz.pinned.checked.prog=true:=by kernel_rfl
def a3P:(Tryz.pinned.checked.prog.stops==[])=true:=by kernel_rfl
def a3Q:(Tryz.pinned.checked.prog.stopKnobs==[])=true:=by kernel_rfl
def bLp:(Rows.fertilizeFewerRow.inPlace==Tryz.pinned.checked.prog.inPlace 3)=true:=by kernel_rfl
def bD0:(Rows.fertilizeFewerRow.unfollowed==Tryz.pinned.checked.prog.unfollowed 3)=true:=by kernel_rfl
def k_fn:Tryz.pinned.checked.prog.funcNamed Rows.fertilizeFewerRow.func=some 3:=by kernel_rfl
def bD8:true=Tryz.pinned.checked.prog.looks []:=by kernel_rfl
def bEc:false=Rows.fertilizeFewerRow.goesBy Tryz.pinned.checked.prog:=by kernel_rfl
def bD7 : Tryz.pinned.checked.prog.mainIs = some (true, "08c867662e5499c7ed352b55573d8cb49a0bfa99378dd4ccdb7d08da757bd26e".toList) := by kernel_rfl
end Go.Proofs.YtgfhobcfdppbdaaGreatDoor.fertFew
