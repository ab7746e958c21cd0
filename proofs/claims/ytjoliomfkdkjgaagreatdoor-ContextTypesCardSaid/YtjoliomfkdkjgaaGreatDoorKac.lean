import Derived.Test.YtjoliomfkdkjgaaGreatDoorKz
set_option linter.unusedVariables false
set_option linter.unusedSimpArgs false
set_option linter.constructorNameAsVariable false
namespace Go.TV
open Go.AI Go.PI Go.Proofs
set_option maxRecDepth 20000
section
variable(L M N:Nat)
theorem pv14:PrQ (cF L M 60 26 (prA [60] 2)) (orF (cF L N 59) [60] (lX 2047 11) 0):=dB (by kernel_rfl)
theorem pv20:PrQ (cF L M 60 26 (prA [105,110,116,101,114,110] 2)) (orF (cF L N 59) [105,110,116,101,114,110] (lX 2047 11) 0):=dB (by kernel_rfl)
theorem pv21:PrQ (cF L M 60 26 (prA [115,116,114,105,110,103,45,97,112,112,101,110,100] 2)) (orF (cF L N 59) [115,116,114,105,110,103,45,97,112,112,101,110,100] (lX 2047 11) 0):=dB (by kernel_rfl)
theorem pv23:PrQ (cF L M 60 26 (prA [115,116,114,105,110,103,45,98,121,116,101] 2)) (orF (cF L N 59) [115,116,114,105,110,103,45,98,121,116,101] (lX 2047 11) 0):=dB (by kernel_rfl)
end
end Go.TV
