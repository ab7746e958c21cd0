import Derived.Test.YtjapdpcodgaoaaaGreatDoorCards
import Derived.Test.YtjapdpcodgaoaaaGreatDoorTie
import Derived.ProofKit
set_option linter.all false
namespace Go.Proofs.YtjapdpcodgaoaaaGreatDoor.ctxTrue
open Go.ChangeShapes Go.WideShapes Go.ChangeAt Go.RowKit
set_option maxRecDepth 100000
def bCy:laidOutB Tryz.pinned.checked.prog=true:=by kernel_rfl
def bCw:mapsRowed Tryz.pinned.checked.prog=true:=by kernel_rfl
def a2i:(Tryz.pinned.checked.prog.stops==[])=true:=by kernel_rfl
def a2j:(Tryz.pinned.checked.prog.stopKnobs==[])=true:=by kernel_rfl
def bJ5:(Rows.contextTrueRow.inPlace==Tryz.pinned.checked.prog.inPlace 3)=true:=by kernel_rfl
def bCu:(Rows.contextTrueRow.unfollowed==Tryz.pinned.checked.prog.unfollowed 3)=true:=by kernel_rfl
def k_fn:Tryz.pinned.checked.prog.funcNamed Rows.contextTrueRow.func=some 3:=by kernel_rfl
def bCC:false=Tryz.pinned.checked.prog.looks []:=by kernel_rfl
def bCG:false=Rows.contextTrueRow.goesBy Tryz.pinned.checked.prog:=by kernel_rfl
def bCB:Tryz.pinned.checked.prog.mainIs=some (true, "d218b4f6f2fe8beb65bb2348d8ba79806ff7a49e071f9046479ca1b5a5c465e2".toList):=by kernel_rfl
end Go.Proofs.YtjapdpcodgaoaaaGreatDoor.ctxTrue
