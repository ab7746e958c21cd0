import Derived.Test.YtojjcdpfjabepaaGreatDoorKaa
set_option linter.unusedVariables false
set_option linter.unusedSimpArgs false
set_option linter.constructorNameAsVariable false
namespace Go.TV
open Go.AI Go.PI Go.Proofs
set_option maxRecDepth 20000
theorem p0E(L M:Nat)(X:Nat→T3):pE L M 0 X o0a=true:=by kernel_rfl
theorem p1E(L M:Nat)(X:Nat→T3):pE L M 1 X o1a=true:=by kernel_rfl
theorem p2E(L M:Nat)(X:Nat→T3):pE L M 2 X o2a=true:=by kernel_rfl
theorem p3E(L M:Nat)(X:Nat→T3):pE L M 3 X o3a=true:=by kernel_rfl
theorem p4E(L M:Nat)(X:Nat→T3):pE L M 4 X o4a=true:=by kernel_rfl
theorem p5E(L M:Nat)(X:Nat→T3):pE L M 5 X o5a=true:=by kernel_rfl
theorem p6E(L M:Nat)(X:Nat→T3):pE L M 6 X o6a=true:=by kernel_rfl
end Go.TV
