import Derived.Test.YtojjcdpfjabepaaGreatDoorCards
import Derived.Test.YtojjcdpfjabepaaGreatDoorTie
import Derived.Test.YtojjcdpfjabepaaGreatDoorChecked
import Derived.Test.YtojjcdpfjabepaaGreatDoorKaq
import Derived.JoinedOf
import Derived.KernelRfl
import Derived.RowKit
import Derived.ProofKit
import Derived.SevenTiedAt
set_option linter.unusedVariables false
set_option linter.unusedSimpArgs false
set_option linter.constructorNameAsVariable false
namespace Go.Proofs.YtojjcdpfjabepaaGreatDoor.rulePerm
open Go.ChangeShapes Go.WideShapes Go.ChangeAt Go.RowKit
set_option maxRecDepth 100000
theorem k_rec:(Rows.rulePermitsRow.recurses==Tryz.pinned.checked.prog.recurses 5)=true:=by kernel_rfl
theorem k_nam:(Rows.rulePermitsRow.named==Tryz.pinned.checked.prog.varsNamed 5)=true:=by kernel_rfl
theorem k_key:(Rows.rulePermitsRow.plainKeys==Tryz.pinned.checked.prog.plainKeys)=true:=by kernel_rfl
theorem k_hrd:Tryz.pinned.checked.prog.stopsHeard=true:=by kernel_rfl
theorem k_ent:Tryz.pinned.checked.prog.mayEnter=true:=by kernel_rfl
theorem k_lif:(Rows.rulePermitsRow.lifted==Tryz.pinned.checked.prog.liftsFinal)=true:=by kernel_rfl
theorem k_mak:(Tryz.pinned.checked.prog.make==some Rows.rulePermitsRow.make)=true:=by kernel_rfl
theorem k_tie:namedTie Tryz.pinned.checked.prog Rows.rulePermitsRow.named Rows.rulePermitsSpec.vars=true:=by kernel_rfl
theorem closed:joinedFacts Tryz.pinned.checked.prog 5 Tryz.f5 Rows.rulePermitsSpec Rows.rulePermitsRow=true:=by
 unfold joinedFacts;rw[k_out,k_row,k_stop,k_knob,k_in,k_unf,k_rec,k_nam,k_key,k_hrd,k_ent,k_lif,k_mak,k_tie]
 kernel_rfl
end Go.Proofs.YtojjcdpfjabepaaGreatDoor.rulePerm
