import Derived.Test.YtjapdpcodgaoaaaGreatDoorKaa
set_option linter.all false
namespace Go.Proofs.YtjapdpcodgaoaaaGreatDoor.ctxTrue
open Go.ChangeShapes Go.WideShapes Go.ChangeAt Go.RowKit
set_option maxRecDepth 100000
def bCx:(Rows.contextTrueRow.recurses==Tryz.pinned.checked.prog.recurses 3)=true:=by kernel_rfl
def bCz:(Rows.contextTrueRow.named==Tryz.pinned.checked.prog.varsNamed 3)=true:=by kernel_rfl
def bCE:(Rows.contextTrueRow.plainKeys==Tryz.pinned.checked.prog.plainKeys)=true:=by kernel_rfl
def bCF:Tryz.pinned.checked.prog.stopsHeard=true:=by kernel_rfl
def bCH:Tryz.pinned.checked.prog.mayEnter=true:=by kernel_rfl
def bCD:(Rows.contextTrueRow.lifted==Tryz.pinned.checked.prog.liftsFinal)=true:=by kernel_rfl
def bCA:(Tryz.pinned.checked.prog.make==some Rows.contextTrueRow.make)=true:=by kernel_rfl
def bCv:namedTie Tryz.pinned.checked.prog Rows.contextTrueRow.named Rows.contextTrueSpec.vars=true:=by kernel_rfl
def closed:joinedFacts Tryz.pinned.checked.prog 3 Tryz.f3 Rows.contextTrueSpec Rows.contextTrueRow=true:=by
 unfold joinedFacts;rw[bCy,bCw,a2i,a2j,bJ5,bCu,bCx,bCz,bCE,bCF,bCH,bCD,bCA,bCv]
 kernel_rfl
end Go.Proofs.YtjapdpcodgaoaaaGreatDoor.ctxTrue
