import Derived.Test.YtgddcoodncbkoaaGreatDoorCards
import Derived.Test.YtgddcoodncbkoaaGreatDoorTie
import Derived.Test.YtgddcoodncbkoaaGreatDoorChecked
import Derived.JoinedOf
import Derived.KernelRfl
import Derived.RowKit
import Derived.ProofKit
import Derived.SevenTiedAt
set_option linter.unusedVariables false
set_option linter.unusedSimpArgs false
set_option linter.constructorNameAsVariable false
set_option linter.defProp false
namespace Go.Proofs.YtgddcoodncbkoaaGreatDoor.ruleLm
open Go.ChangeShapes Go.WideShapes Go.ChangeAt Go.RowKit
set_option maxRecDepth 100000
def k_out:laidOutB Tryz.pinned.checked.prog=true:=by kernel_rfl
def k_row:mapsRowed Tryz.pinned.checked.prog=true:=by kernel_rfl
def k_stop:(Tryz.pinned.checked.prog.stops==[])=true:=by kernel_rfl
def k_knob:(Tryz.pinned.checked.prog.stopKnobs==[])=true:=by kernel_rfl
def k_in:(Rows.ruleLemmasRow.inPlace==Tryz.pinned.checked.prog.inPlace 4)=true:=by kernel_rfl
def k_unf:(Rows.ruleLemmasRow.unfollowed==Tryz.pinned.checked.prog.unfollowed 4)=true:=by kernel_rfl
def k_fn:Tryz.pinned.checked.prog.funcNamed Rows.ruleLemmasRow.func=some 4:=by kernel_rfl
def k_loo:true=Tryz.pinned.checked.prog.looks []:=by kernel_rfl
def k_goe:false=Rows.ruleLemmasRow.goesBy Tryz.pinned.checked.prog:=by kernel_rfl
def k_mai : Tryz.pinned.checked.prog.mainIs = some (true, "cd35225b608d4f2a3434981042f314a9ca4b9fa07c5b8ae5fba89e513f159d5b".toList) := by kernel_rfl
end Go.Proofs.YtgddcoodncbkoaaGreatDoor.ruleLm
