import Derived.Test.YtdjaoblfbbcpdaaGreatDoorKj
set_option linter.unusedVariables false
set_option linter.unusedSimpArgs false
set_option linter.constructorNameAsVariable false
set_option linter.defProp false
namespace Go.TV
open Go.AI Go.PI Go.Proofs
set_option maxRecDepth 20000
def p7E(L M:Nat)(X:Nat->T3):pE L M 7 X bIT=true:=by kernel_rfl
def p8E(L M:Nat)(X:Nat->T3):pE L M 8 X bIS=true:=by kernel_rfl
def p9E(L M:Nat)(X:Nat->T3):pE L M 9 X bIR=true:=by kernel_rfl
def bDl(L M:Nat)(X:Nat->T3):pE L M 10 X a6o=true:=by kernel_rfl
def bDk(L M:Nat)(X:Nat->T3):pE L M 11 X a6n=true:=by kernel_rfl
def bDj(L M:Nat)(X:Nat->T3):pE L M 12 X a6m=true:=by kernel_rfl
def bDi(L M:Nat)(X:Nat->T3):pE L M 13 X a6l=true:=by kernel_rfl
end Go.TV
