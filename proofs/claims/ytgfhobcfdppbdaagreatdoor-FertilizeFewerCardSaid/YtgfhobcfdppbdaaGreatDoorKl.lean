import Derived.Test.YtgfhobcfdppbdaaGreatDoorKi
set_option linter.unusedVariables false
set_option linter.unusedSimpArgs false
set_option linter.constructorNameAsVariable false
set_option linter.defProp false
namespace Go.TV
open Go.AI Go.PI Go.Proofs
set_option maxRecDepth 20000
def bKP(L M:Nat)(X:Nat->T3):pE L M 14 X bDs=true:=by kernel_rfl
def bKO(L M:Nat)(X:Nat->T3):pE L M 15 X bDr=true:=by kernel_rfl
def bKN(L M:Nat)(X:Nat->T3):pE L M 16 X bDq=true:=by kernel_rfl
def bKM(L M:Nat)(X:Nat->T3):pE L M 17 X bDp=true:=by kernel_rfl
def bKL(L M:Nat)(X:Nat->T3):pE L M 18 X bDo=true:=by kernel_rfl
def bKK(L M:Nat)(X:Nat->T3):pE L M 19 X bDn=true:=by kernel_rfl
def bKJ(L M:Nat)(X:Nat->T3):pE L M 20 X bDm=true:=by kernel_rfl
end Go.TV
