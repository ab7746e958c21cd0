import Derived.Test.YtjoliomfkdkjgaaGreatDoorKz
set_option linter.unusedVariables false
set_option linter.unusedSimpArgs false
set_option linter.constructorNameAsVariable false
namespace Go.TV
open Go.AI Go.PI Go.Proofs
set_option maxRecDepth 20000
section
variable(L M N:Nat)
theorem pv1:PrQ (cF L M 60 26 (prA [101,113,117,97,108] 2)) (orF (cF L N 59) [101,113,117,97,108] (lX 2047 11) 0):=dB (by kernel_rfl)
theorem pv2:PrQ (cF L M 60 26 (prA [99,111,110,115] 2)) (orF (cF L N 59) [99,111,110,115] (lX 2047 11) 0):=dB (by kernel_rfl)
theorem pv10:PrQ (cF L M 60 26 (prA [98,105,110,97,114,121,45,43] 2)) (orF (cF L N 59) [98,105,110,97,114,121,45,43] (lX 2047 11) 0):=dB (by kernel_rfl)
theorem pv11:PrQ (cF L M 60 26 (prA [98,105,110,97,114,121,45,42] 2)) (orF (cF L N 59) [98,105,110,97,114,121,45,42] (lX 2047 11) 0):=dB (by kernel_rfl)
end
end Go.TV
