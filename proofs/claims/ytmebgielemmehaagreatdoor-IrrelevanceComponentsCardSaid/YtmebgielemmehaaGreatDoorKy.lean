import Derived.Test.YtmebgielemmehaaGreatDoorKw
set_option linter.unusedVariables false
set_option linter.unusedSimpArgs false
set_option linter.constructorNameAsVariable false
set_option linter.defProp false
namespace Go.TV
open Go.AI Go.PI Go.Proofs
set_option maxRecDepth 20000
def p7E(L M:Nat)(X:Nat->T3):pE L M 7 X a3D=true:=by kernel_rfl
def p8E(L M:Nat)(X:Nat->T3):pE L M 8 X a3C=true:=by kernel_rfl
def p9E(L M:Nat)(X:Nat->T3):pE L M 9 X a3B=true:=by kernel_rfl
def a0E(L M:Nat)(X:Nat->T3):pE L M 10 X aTo=true:=by kernel_rfl
def a0D(L M:Nat)(X:Nat->T3):pE L M 11 X aTn=true:=by kernel_rfl
def a0C(L M:Nat)(X:Nat->T3):pE L M 12 X aTm=true:=by kernel_rfl
def a0B(L M:Nat)(X:Nat->T3):pE L M 13 X aTl=true:=by kernel_rfl
end Go.TV
