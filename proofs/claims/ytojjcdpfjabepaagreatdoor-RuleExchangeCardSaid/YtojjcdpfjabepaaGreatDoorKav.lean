import Derived.Test.YtojjcdpfjabepaaGreatDoorCards
import Derived.Test.YtojjcdpfjabepaaGreatDoorTie
import Derived.Test.YtojjcdpfjabepaaGreatDoorChecked
import Derived.Test.YtojjcdpfjabepaaGreatDoorKau
import Derived.JoinedOf
import Derived.KernelRfl
import Derived.RowKit
import Derived.ProofKit
import Derived.SevenTiedAt
set_option linter.unusedVariables false
set_option linter.unusedSimpArgs false
set_option linter.constructorNameAsVariable false
namespace Go.Proofs.YtojjcdpfjabepaaGreatDoor.ruleExch
open Go.ChangeShapes Go.WideShapes Go.ChangeAt Go.RowKit
set_option maxRecDepth 100000
theorem k_rec:(Rows.ruleExchangeRow.recurses==Tryz.pinned.checked.prog.recurses 6)=true:=by kernel_rfl
theorem k_nam:(Rows.ruleExchangeRow.named==Tryz.pinned.checked.prog.varsNamed 6)=true:=by kernel_rfl
theorem k_key:(Rows.ruleExchangeRow.plainKeys==Tryz.pinned.checked.prog.plainKeys)=true:=by kernel_rfl
theorem k_hrd:Tryz.pinned.checked.prog.stopsHeard=true:=by kernel_rfl
theorem k_ent:Tryz.pinned.checked.prog.mayEnter=true:=by kernel_rfl
theorem k_lif:(Rows.ruleExchangeRow.lifted==Tryz.pinned.checked.prog.liftsFinal)=true:=by kernel_rfl
theorem k_mak:(Tryz.pinned.checked.prog.make==some Rows.ruleExchangeRow.make)=true:=by kernel_rfl
theorem k_tie:namedTie Tryz.pinned.checked.prog Rows.ruleExchangeRow.named Rows.ruleExchangeSpec.vars=true:=by kernel_rfl
theorem closed:joinedFacts Tryz.pinned.checked.prog 6 Tryz.f6 Rows.ruleExchangeSpec Rows.ruleExchangeRow=true:=by
 unfold joinedFacts;rw[k_out,k_row,k_stop,k_knob,k_in,k_unf,k_rec,k_nam,k_key,k_hrd,k_ent,k_lif,k_mak,k_tie]
 kernel_rfl
end Go.Proofs.YtojjcdpfjabepaaGreatDoor.ruleExch
