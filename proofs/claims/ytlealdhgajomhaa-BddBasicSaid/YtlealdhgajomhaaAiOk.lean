/- The seat's program is one of those that the abstract machine speaks of. -/
import Derived.Test.YtlealdhgajomhaaProg
import Derived.Test.YtlealdhgajomhaaAiSound
import Derived.KernelRfl
namespace Go.Proofs.Ytlealdhgajomhaa
set_option linter.unusedVariables false
set_option linter.unusedSimpArgs false
theorem okTry : AI.okProg Try.prog = true := by kernel_rfl
end Go.Proofs.Ytlealdhgajomhaa
