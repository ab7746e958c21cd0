import Derived.Test.YtgddcoodncbkoaaGreatDoorKj
set_option linter.unusedVariables false
set_option linter.unusedSimpArgs false
set_option linter.constructorNameAsVariable false
set_option linter.defProp false
namespace Go.TV
open Go.AI Go.PI Go.Proofs
set_option maxRecDepth 20000
def bLh(L M:Nat)(X:Nat->T3):pE L M 14 X bDA=true:=by kernel_rfl
def bLg(L M:Nat)(X:Nat->T3):pE L M 15 X bDz=true:=by kernel_rfl
def bLf(L M:Nat)(X:Nat->T3):pE L M 16 X bDy=true:=by kernel_rfl
def bLe(L M:Nat)(X:Nat->T3):pE L M 17 X bDx=true:=by kernel_rfl
def bLd(L M:Nat)(X:Nat->T3):pE L M 18 X bDw=true:=by kernel_rfl
def bLc(L M:Nat)(X:Nat->T3):pE L M 19 X bDv=true:=by kernel_rfl
def bLb(L M:Nat)(X:Nat->T3):pE L M 20 X bDu=true:=by kernel_rfl
end Go.TV
