import Derived.Test.YtmebgielemmehaaGreatDoorKw
set_option linter.unusedVariables false
set_option linter.unusedSimpArgs false
set_option linter.constructorNameAsVariable false
set_option linter.defProp false
namespace Go.TV
open Go.AI Go.PI Go.Proofs
set_option maxRecDepth 20000
def a0t(L M:Nat)(X:Nat->T3):pE L M 21 X aTd=true:=by kernel_rfl
def a0s(L M:Nat)(X:Nat->T3):pE L M 22 X aTc=true:=by kernel_rfl
def a0r(L M:Nat)(X:Nat->T3):pE L M 23 X aTb=true:=by kernel_rfl
def a0q(L M:Nat)(X:Nat->T3):pE L M 24 X aTa=true:=by kernel_rfl
def a0p(L M:Nat)(X:Nat->T3):pE L M 25 X aS9=true:=by kernel_rfl
def a0o(L M:Nat)(X:Nat->T3):pE L M 26 X aS8=true:=by kernel_rfl
def a0n(L M:Nat)(X:Nat->T3):pE L M 27 X aS7=true:=by kernel_rfl
end Go.TV
