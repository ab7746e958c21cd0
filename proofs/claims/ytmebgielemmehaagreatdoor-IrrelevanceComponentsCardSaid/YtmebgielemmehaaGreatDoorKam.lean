import Derived.Test.YtmebgielemmehaaGreatDoorCards
import Derived.Test.YtmebgielemmehaaGreatDoorTie
import Derived.ProofKit
set_option linter.unusedVariables false
set_option linter.unusedSimpArgs false
set_option linter.constructorNameAsVariable false
set_option linter.defProp false
namespace Go.Proofs.YtmebgielemmehaaGreatDoor.irrComp
open Go.ChangeShapes Go.WideShapes Go.ChangeAt Go.RowKit
set_option maxRecDepth 100000
def aTI:laidOutB Tryz.pinned.checked.prog=true:=by kernel_rfl
def aTG:mapsRowed Tryz.pinned.checked.prog=true:=by kernel_rfl
def aLY:(Tryz.pinned.checked.prog.stops==[])=true:=by kernel_rfl
def aLZ:(Tryz.pinned.checked.prog.stopKnobs==[])=true:=by kernel_rfl
def a07:(Rows.irrelevanceComponentsRow.inPlace==Tryz.pinned.checked.prog.inPlace 3)=true:=by kernel_rfl
def aTE:(Rows.irrelevanceComponentsRow.unfollowed==Tryz.pinned.checked.prog.unfollowed 3)=true:=by kernel_rfl
def k_fn:Tryz.pinned.checked.prog.funcNamed Rows.irrelevanceComponentsRow.func=some 3:=by kernel_rfl
def aTM:true=Tryz.pinned.checked.prog.looks []:=by kernel_rfl
def aTQ:false=Rows.irrelevanceComponentsRow.goesBy Tryz.pinned.checked.prog:=by kernel_rfl
def aTL:Tryz.pinned.checked.prog.mainIs=some (true, "32673837859dd6236d1c6885efea6b5bb3011b51394295dea89f3d0553329e8b".toList):=by kernel_rfl
end Go.Proofs.YtmebgielemmehaaGreatDoor.irrComp
