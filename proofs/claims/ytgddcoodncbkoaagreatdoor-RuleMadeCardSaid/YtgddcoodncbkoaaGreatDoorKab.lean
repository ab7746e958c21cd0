import Derived.Test.YtgddcoodncbkoaaGreatDoorCards
import Derived.Test.YtgddcoodncbkoaaGreatDoorTie
import Derived.ProofKit
set_option linter.unusedVariables false
set_option linter.unusedSimpArgs false
set_option linter.constructorNameAsVariable false
set_option linter.defProp false
namespace Go.Proofs.YtgddcoodncbkoaaGreatDoor.ruleMd
open Go.ChangeShapes Go.WideShapes Go.ChangeAt Go.RowKit
set_option maxRecDepth 100000
def bEd:laidOutB Tryz.pinned.checked.prog=true:=by kernel_rfl
def bEb:mapsRowed Tryz.pinned.checked.prog=true:=by kernel_rfl
def a1L:(Tryz.pinned.checked.prog.stops==[])=true:=by kernel_rfl
def a1M:(Tryz.pinned.checked.prog.stopKnobs==[])=true:=by kernel_rfl
def bLQ:(Rows.ruleMadeRow.inPlace==Tryz.pinned.checked.prog.inPlace 3)=true:=by kernel_rfl
def bD9:(Rows.ruleMadeRow.unfollowed==Tryz.pinned.checked.prog.unfollowed 3)=true:=by kernel_rfl
def k_fn:Tryz.pinned.checked.prog.funcNamed Rows.ruleMadeRow.func=some 3:=by kernel_rfl
def bEh:true=Tryz.pinned.checked.prog.looks []:=by kernel_rfl
def bEl:false=Rows.ruleMadeRow.goesBy Tryz.pinned.checked.prog:=by kernel_rfl
def bEg : Tryz.pinned.checked.prog.mainIs = some (true, "cd35225b608d4f2a3434981042f314a9ca4b9fa07c5b8ae5fba89e513f159d5b".toList) := by kernel_rfl
end Go.Proofs.YtgddcoodncbkoaaGreatDoor.ruleMd
