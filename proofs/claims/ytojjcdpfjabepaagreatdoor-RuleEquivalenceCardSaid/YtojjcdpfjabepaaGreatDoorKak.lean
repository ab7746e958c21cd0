import Derived.Test.YtojjcdpfjabepaaGreatDoorCards
import Derived.Test.YtojjcdpfjabepaaGreatDoorTie
import Derived.Test.YtojjcdpfjabepaaGreatDoorChecked
import Derived.JoinedOf
import Derived.KernelRfl
import Derived.RowKit
import Derived.ProofKit
import Derived.SevenTiedAt
set_option linter.unusedVariables false
set_option linter.unusedSimpArgs false
set_option linter.constructorNameAsVariable false
namespace Go.Proofs.YtojjcdpfjabepaaGreatDoor.ruleEquiv
open Go.ChangeShapes Go.WideShapes Go.ChangeAt Go.RowKit
set_option maxRecDepth 100000
theorem k_out:laidOutB Tryz.pinned.checked.prog=true:=by kernel_rfl
theorem k_row:mapsRowed Tryz.pinned.checked.prog=true:=by kernel_rfl
theorem k_stop:(Tryz.pinned.checked.prog.stops==[])=true:=by kernel_rfl
theorem k_knob:(Tryz.pinned.checked.prog.stopKnobs==[])=true:=by kernel_rfl
theorem k_in:(Rows.ruleEquivalenceRow.inPlace==Tryz.pinned.checked.prog.inPlace 4)=true:=by kernel_rfl
theorem k_unf:(Rows.ruleEquivalenceRow.unfollowed==Tryz.pinned.checked.prog.unfollowed 4)=true:=by kernel_rfl
theorem k_rec:(Rows.ruleEquivalenceRow.recurses==Tryz.pinned.checked.prog.recurses 4)=true:=by kernel_rfl
theorem k_nam:(Rows.ruleEquivalenceRow.named==Tryz.pinned.checked.prog.varsNamed 4)=true:=by kernel_rfl
theorem k_key:(Rows.ruleEquivalenceRow.plainKeys==Tryz.pinned.checked.prog.plainKeys)=true:=by kernel_rfl
theorem k_hrd:Tryz.pinned.checked.prog.stopsHeard=true:=by kernel_rfl
theorem k_ent:Tryz.pinned.checked.prog.mayEnter=true:=by kernel_rfl
theorem k_lif:(Rows.ruleEquivalenceRow.lifted==Tryz.pinned.checked.prog.liftsFinal)=true:=by kernel_rfl
theorem k_mak:(Tryz.pinned.checked.prog.make==some Rows.ruleEquivalenceRow.make)=true:=by kernel_rfl
theorem k_tie:namedTie Tryz.pinned.checked.prog Rows.ruleEquivalenceRow.named Rows.ruleEquivalenceSpec.vars=true:=by kernel_rfl
theorem closed:joinedFacts Tryz.pinned.checked.prog 4 Tryz.f4 Rows.ruleEquivalenceSpec Rows.ruleEquivalenceRow=true:=by
 unfold joinedFacts;rw[k_out,k_row,k_stop,k_knob,k_in,k_unf,k_rec,k_nam,k_key,k_hrd,k_ent,k_lif,k_mak,k_tie]
 kernel_rfl
theorem k_fn:Tryz.pinned.checked.prog.funcNamed Rows.ruleEquivalenceRow.func=some 4:=by kernel_rfl
theorem k_loo:true=Tryz.pinned.checked.prog.looks []:=by kernel_rfl
theorem k_goe:false=Rows.ruleEquivalenceRow.goesBy Tryz.pinned.checked.prog:=by kernel_rfl
theorem k_mai : Tryz.pinned.checked.prog.mainIs = some (true, "ee9f6b9159276d6641dad702fc8217b52f1a449c4be85fb9d9987f38a9050d47".toList) := by kernel_rfl
end Go.Proofs.YtojjcdpfjabepaaGreatDoor.ruleEquiv
