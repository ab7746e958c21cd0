import Derived.Test.YtmebgielemmehaaGreatDoorKw
set_option linter.unusedVariables false
set_option linter.unusedSimpArgs false
set_option linter.constructorNameAsVariable false
set_option linter.defProp false
namespace Go.TV
open Go.AI Go.PI Go.Proofs
set_option maxRecDepth 20000
def p0E(L M:Nat)(X:Nat->T3):pE L M 0 X a3K=true:=by kernel_rfl
def p1E(L M:Nat)(X:Nat->T3):pE L M 1 X a3J=true:=by kernel_rfl
def p2E(L M:Nat)(X:Nat->T3):pE L M 2 X a3I=true:=by kernel_rfl
def p3E(L M:Nat)(X:Nat->T3):pE L M 3 X a3H=true:=by kernel_rfl
def p4E(L M:Nat)(X:Nat->T3):pE L M 4 X a3G=true:=by kernel_rfl
def p5E(L M:Nat)(X:Nat->T3):pE L M 5 X a3F=true:=by kernel_rfl
def p6E(L M:Nat)(X:Nat->T3):pE L M 6 X a3E=true:=by kernel_rfl
end Go.TV
