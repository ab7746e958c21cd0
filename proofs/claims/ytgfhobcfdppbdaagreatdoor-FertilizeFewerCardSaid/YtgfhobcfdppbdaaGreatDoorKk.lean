import Derived.Test.YtgfhobcfdppbdaaGreatDoorKi
set_option linter.unusedVariables false
set_option linter.unusedSimpArgs false
set_option linter.constructorNameAsVariable false
set_option linter.defProp false
namespace Go.TV
open Go.AI Go.PI Go.Proofs
set_option maxRecDepth 20000
def p7E(L M:Nat)(X:Nat->T3):pE L M 7 X bQs=true:=by kernel_rfl
def p8E(L M:Nat)(X:Nat->T3):pE L M 8 X bQr=true:=by kernel_rfl
def p9E(L M:Nat)(X:Nat->T3):pE L M 9 X bQq=true:=by kernel_rfl
def bKT(L M:Nat)(X:Nat->T3):pE L M 10 X bDw=true:=by kernel_rfl
def bKS(L M:Nat)(X:Nat->T3):pE L M 11 X bDv=true:=by kernel_rfl
def bKR(L M:Nat)(X:Nat->T3):pE L M 12 X bDu=true:=by kernel_rfl
def bKQ(L M:Nat)(X:Nat->T3):pE L M 13 X bDt=true:=by kernel_rfl
end Go.TV
