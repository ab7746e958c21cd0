import Derived.Test.YtgddcoodncbkoaaGreatDoorKam
import Derived.Test.YtgddcoodncbkoaaGreatDoorCards
import Derived.Test.YtgddcoodncbkoaaGreatDoorTie
import Derived.Test.YtgddcoodncbkoaaGreatDoorChecked
import Derived.JoinedOf
import Derived.KernelRfl
import Derived.RowKit
import Derived.ProofKit
import Derived.SevenTiedAt
set_option linter.unusedVariables false
set_option linter.unusedSimpArgs false
set_option linter.constructorNameAsVariable false
set_option linter.defProp false
namespace Go.Proofs.YtgddcoodncbkoaaGreatDoor.ruleLm
open Go.ChangeShapes Go.WideShapes Go.ChangeAt Go.RowKit
set_option maxRecDepth 100000
def k_rec:(Rows.ruleLemmasRow.recurses==Tryz.pinned.checked.prog.recurses 4)=true:=by kernel_rfl
def k_nam:(Rows.ruleLemmasRow.named==Tryz.pinned.checked.prog.varsNamed 4)=true:=by kernel_rfl
def k_key:(Rows.ruleLemmasRow.plainKeys==Tryz.pinned.checked.prog.plainKeys)=true:=by kernel_rfl
def k_hrd:Tryz.pinned.checked.prog.stopsHeard=true:=by kernel_rfl
def k_ent:Tryz.pinned.checked.prog.mayEnter=true:=by kernel_rfl
def k_lif:(Rows.ruleLemmasRow.lifted==Tryz.pinned.checked.prog.liftsFinal)=true:=by kernel_rfl
def k_mak:(Tryz.pinned.checked.prog.make==some Rows.ruleLemmasRow.make)=true:=by kernel_rfl
def k_tie:namedTie Tryz.pinned.checked.prog Rows.ruleLemmasRow.named Rows.ruleLemmasSpec.vars=true:=by kernel_rfl
def closed:joinedFacts Tryz.pinned.checked.prog 4 Tryz.f4 Rows.ruleLemmasSpec Rows.ruleLemmasRow=true:=by
 unfold joinedFacts;rw[k_out,k_row,k_stop,k_knob,k_in,k_unf,k_rec,k_nam,k_key,k_hrd,k_ent,k_lif,k_mak,k_tie]
 kernel_rfl
end Go.Proofs.YtgddcoodncbkoaaGreatDoor.ruleLm
