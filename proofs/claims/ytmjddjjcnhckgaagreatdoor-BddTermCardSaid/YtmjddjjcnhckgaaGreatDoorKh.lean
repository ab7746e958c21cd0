import Derived.Test.YtmjddjjcnhckgaaGreatDoorProg
import Derived.Test.YtmjddjjcnhckgaaGreatDoorKe
import Derived.KernelRfl
set_option linter.unusedVariables false
set_option linter.unusedSimpArgs false
set_option linter.constructorNameAsVariable false
namespace Go.Proofs.Q
theorem okTry : AI.okProg Tryz.prog = true := by kernel_rfl
end Go.Proofs.Q
