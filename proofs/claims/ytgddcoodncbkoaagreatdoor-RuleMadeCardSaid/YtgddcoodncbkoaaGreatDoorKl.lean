import Derived.Test.YtgddcoodncbkoaaGreatDoorKj
set_option linter.unusedVariables false
set_option linter.unusedSimpArgs false
set_option linter.constructorNameAsVariable false
set_option linter.defProp false
namespace Go.TV
open Go.AI Go.PI Go.Proofs
set_option maxRecDepth 20000
def p7E(L M:Nat)(X:Nat->T3):pE L M 7 X bPZ=true:=by kernel_rfl
def p8E(L M:Nat)(X:Nat->T3):pE L M 8 X bPY=true:=by kernel_rfl
def p9E(L M:Nat)(X:Nat->T3):pE L M 9 X bPX=true:=by kernel_rfl
def bLl(L M:Nat)(X:Nat->T3):pE L M 10 X bDE=true:=by kernel_rfl
def bLk(L M:Nat)(X:Nat->T3):pE L M 11 X bDD=true:=by kernel_rfl
def bLj(L M:Nat)(X:Nat->T3):pE L M 12 X bDC=true:=by kernel_rfl
def bLi(L M:Nat)(X:Nat->T3):pE L M 13 X bDB=true:=by kernel_rfl
end Go.TV
