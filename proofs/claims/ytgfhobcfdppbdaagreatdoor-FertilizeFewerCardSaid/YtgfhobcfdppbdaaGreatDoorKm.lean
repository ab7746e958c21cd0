import Derived.Test.YtgfhobcfdppbdaaGreatDoorKi
set_option linter.unusedVariables false
set_option linter.unusedSimpArgs false
set_option linter.constructorNameAsVariable false
set_option linter.defProp false
namespace Go.TV
open Go.AI Go.PI Go.Proofs
set_option maxRecDepth 20000
def bKI(L M:Nat)(X:Nat->T3):pE L M 21 X bDl=true:=by kernel_rfl
def bKH(L M:Nat)(X:Nat->T3):pE L M 22 X bDk=true:=by kernel_rfl
def bKG(L M:Nat)(X:Nat->T3):pE L M 23 X bDj=true:=by kernel_rfl
def bKF(L M:Nat)(X:Nat->T3):pE L M 24 X bDi=true:=by kernel_rfl
def bKE(L M:Nat)(X:Nat->T3):pE L M 25 X bDh=true:=by kernel_rfl
def bKD(L M:Nat)(X:Nat->T3):pE L M 26 X bDg=true:=by kernel_rfl
def bKC(L M:Nat)(X:Nat->T3):pE L M 27 X bDf=true:=by kernel_rfl
end Go.TV
