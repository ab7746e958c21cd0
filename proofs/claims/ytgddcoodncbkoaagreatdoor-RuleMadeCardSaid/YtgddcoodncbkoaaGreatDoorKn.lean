import Derived.Test.YtgddcoodncbkoaaGreatDoorKj
set_option linter.unusedVariables false
set_option linter.unusedSimpArgs false
set_option linter.constructorNameAsVariable false
set_option linter.defProp false
namespace Go.TV
open Go.AI Go.PI Go.Proofs
set_option maxRecDepth 20000
def bLa(L M:Nat)(X:Nat->T3):pE L M 21 X bDt=true:=by kernel_rfl
def bK9(L M:Nat)(X:Nat->T3):pE L M 22 X bDs=true:=by kernel_rfl
def bK8(L M:Nat)(X:Nat->T3):pE L M 23 X bDr=true:=by kernel_rfl
def bK7(L M:Nat)(X:Nat->T3):pE L M 24 X bDq=true:=by kernel_rfl
def bK6(L M:Nat)(X:Nat->T3):pE L M 25 X bDp=true:=by kernel_rfl
def bK5(L M:Nat)(X:Nat->T3):pE L M 26 X bDo=true:=by kernel_rfl
def bK4(L M:Nat)(X:Nat->T3):pE L M 27 X bDn=true:=by kernel_rfl
end Go.TV
