import Derived.Test.YtjoliomfkdkjgaaGreatDoorKz
set_option linter.unusedVariables false
set_option linter.unusedSimpArgs false
set_option linter.constructorNameAsVariable false
namespace Go.TV
open Go.AI Go.PI Go.Proofs
set_option maxRecDepth 20000
section
variable(L M N:Nat)
theorem pv3:PrQ (cF L M 60 26 (prA [99,97,114] 1)) (orF (cF L N 59) [99,97,114] (lX 1 11) 0):=dB (by kernel_rfl)
theorem pv4:PrQ (cF L M 60 26 (prA [99,100,114] 1)) (orF (cF L N 59) [99,100,114] (lX 1 11) 0):=dB (by kernel_rfl)
theorem pv5:PrQ (cF L M 60 26 (prA [99,111,110,115,112] 1)) (orF (cF L N 59) [99,111,110,115,112] (lX 1 11) 0):=dB (by kernel_rfl)
theorem pv6:PrQ (cF L M 60 26 (prA [115,121,109,98,111,108,112] 1)) (orF (cF L N 59) [115,121,109,98,111,108,112] (lX 1 11) 0):=dB (by kernel_rfl)
theorem pv7:PrQ (cF L M 60 26 (prA [115,116,114,105,110,103,112] 1)) (orF (cF L N 59) [115,116,114,105,110,103,112] (lX 1 11) 0):=dB (by kernel_rfl)
theorem pv8:PrQ (cF L M 60 26 (prA [114,97,116,105,111,110,97,108,112] 1)) (orF (cF L N 59) [114,97,116,105,111,110,97,108,112] (lX 1 11) 0):=dB (by kernel_rfl)
theorem pv9:PrQ (cF L M 60 26 (prA [105,110,116,101,103,101,114,112] 1)) (orF (cF L N 59) [105,110,116,101,103,101,114,112] (lX 1 11) 0):=dB (by kernel_rfl)
theorem pv12:PrQ (cF L M 60 26 (prA [117,110,97,114,121,45,45] 1)) (orF (cF L N 59) [117,110,97,114,121,45,45] (lX 1 11) 0):=dB (by kernel_rfl)
theorem pv13:PrQ (cF L M 60 26 (prA [117,110,97,114,121,45,47] 1)) (orF (cF L N 59) [117,110,97,114,121,45,47] (lX 1 11) 0):=dB (by kernel_rfl)
theorem pv15:PrQ (cF L M 60 26 (prA [110,117,109,101,114,97,116,111,114] 1)) (orF (cF L N 59) [110,117,109,101,114,97,116,111,114] (lX 1 11) 0):=dB (by kernel_rfl)
theorem pv16:PrQ (cF L M 60 26 (prA [100,101,110,111,109,105,110,97,116,111,114] 1)) (orF (cF L N 59) [100,101,110,111,109,105,110,97,116,111,114] (lX 1 11) 0):=dB (by kernel_rfl)
theorem pv17:PrQ (cF L M 60 26 (prA [102,108,111,111,114] 1)) (orF (cF L N 59) [102,108,111,111,114] (lX 1 11) 0):=dB (by kernel_rfl)
theorem pv18:PrQ (cF L M 60 26 (prA [115,121,109,98,111,108,45,110,97,109,101] 1)) (orF (cF L N 59) [115,121,109,98,111,108,45,110,97,109,101] (lX 1 11) 0):=dB (by kernel_rfl)
theorem pv19:PrQ (cF L M 60 26 (prA [115,121,109,98,111,108,45,112,97,99,107,97,103,101,45,110,97,109,101] 1)) (orF (cF L N 59) [115,121,109,98,111,108,45,112,97,99,107,97,103,101,45,110,97,109,101] (lX 1 11) 0):=dB (by kernel_rfl)
theorem pv22:PrQ (cF L M 60 26 (prA [115,116,114,105,110,103,45,108,101,110,103,116,104] 1)) (orF (cF L N 59) [115,116,114,105,110,103,45,108,101,110,103,116,104] (lX 1 11) 0):=dB (by kernel_rfl)
theorem pv24:PrQ (cF L M 60 26 (prA [98,121,116,101,45,115,116,114,105,110,103] 1)) (orF (cF L N 59) [98,121,116,101,45,115,116,114,105,110,103] (lX 1 11) 0):=dB (by kernel_rfl)
end
end Go.TV
