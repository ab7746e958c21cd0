import Derived.Test.YtmebgielemmehaaGreatDoorKw
set_option linter.unusedVariables false
set_option linter.unusedSimpArgs false
set_option linter.constructorNameAsVariable false
set_option linter.defProp false
namespace Go.TV
open Go.AI Go.PI Go.Proofs
set_option maxRecDepth 20000
def a0A(L M:Nat)(X:Nat->T3):pE L M 14 X aTk=true:=by kernel_rfl
def a0z(L M:Nat)(X:Nat->T3):pE L M 15 X aTj=true:=by kernel_rfl
def a0y(L M:Nat)(X:Nat->T3):pE L M 16 X aTi=true:=by kernel_rfl
def a0x(L M:Nat)(X:Nat->T3):pE L M 17 X aTh=true:=by kernel_rfl
def a0w(L M:Nat)(X:Nat->T3):pE L M 18 X aTg=true:=by kernel_rfl
def a0v(L M:Nat)(X:Nat->T3):pE L M 19 X aTf=true:=by kernel_rfl
def a0u(L M:Nat)(X:Nat->T3):pE L M 20 X aTe=true:=by kernel_rfl
end Go.TV
