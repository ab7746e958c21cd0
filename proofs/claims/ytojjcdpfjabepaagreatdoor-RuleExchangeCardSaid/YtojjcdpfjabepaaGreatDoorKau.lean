import Derived.Test.YtojjcdpfjabepaaGreatDoorCards
import Derived.Test.YtojjcdpfjabepaaGreatDoorTie
import Derived.Test.YtojjcdpfjabepaaGreatDoorChecked
import Derived.JoinedOf
import Derived.KernelRfl
import Derived.RowKit
import Derived.ProofKit
import Derived.SevenTiedAt
set_option linter.unusedVariables false
set_option linter.unusedSimpArgs false
set_option linter.constructorNameAsVariable false
namespace Go.Proofs.YtojjcdpfjabepaaGreatDoor.ruleExch
open Go.ChangeShapes Go.WideShapes Go.ChangeAt Go.RowKit
set_option maxRecDepth 100000
theorem k_out:laidOutB Tryz.pinned.checked.prog=true:=by kernel_rfl
theorem k_row:mapsRowed Tryz.pinned.checked.prog=true:=by kernel_rfl
theorem k_stop:(Tryz.pinned.checked.prog.stops==[])=true:=by kernel_rfl
theorem k_knob:(Tryz.pinned.checked.prog.stopKnobs==[])=true:=by kernel_rfl
theorem k_in:(Rows.ruleExchangeRow.inPlace==Tryz.pinned.checked.prog.inPlace 6)=true:=by kernel_rfl
theorem k_unf:(Rows.ruleExchangeRow.unfollowed==Tryz.pinned.checked.prog.unfollowed 6)=true:=by kernel_rfl
theorem k_fn:Tryz.pinned.checked.prog.funcNamed Rows.ruleExchangeRow.func=some 6:=by kernel_rfl
theorem k_loo:true=Tryz.pinned.checked.prog.looks []:=by kernel_rfl
theorem k_goe:false=Rows.ruleExchangeRow.goesBy Tryz.pinned.checked.prog:=by kernel_rfl
theorem k_mai : Tryz.pinned.checked.prog.mainIs = some (true, "ee9f6b9159276d6641dad702fc8217b52f1a449c4be85fb9d9987f38a9050d47".toList) := by kernel_rfl
end Go.Proofs.YtojjcdpfjabepaaGreatDoor.ruleExch
