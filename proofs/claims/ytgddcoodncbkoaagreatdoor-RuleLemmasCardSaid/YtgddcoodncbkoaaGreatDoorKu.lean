import Derived.Test.YtgddcoodncbkoaaGreatDoorKs
set_option linter.unusedVariables false
set_option linter.unusedSimpArgs false
set_option linter.constructorNameAsVariable false
set_option linter.defProp false
namespace Go.TV
open Go.AI Go.PI Go.Proofs
set_option maxRecDepth 20000
def p7E(L M:Nat)(X:Nat->T3):pE L M 7 X o7a=true:=by kernel_rfl
def p8E(L M:Nat)(X:Nat->T3):pE L M 8 X o8a=true:=by kernel_rfl
def p9E(L M:Nat)(X:Nat->T3):pE L M 9 X o9a=true:=by kernel_rfl
def p10E(L M:Nat)(X:Nat->T3):pE L M 10 X o10a=true:=by kernel_rfl
def p11E(L M:Nat)(X:Nat->T3):pE L M 11 X o11a=true:=by kernel_rfl
def p12E(L M:Nat)(X:Nat->T3):pE L M 12 X o12a=true:=by kernel_rfl
def p13E(L M:Nat)(X:Nat->T3):pE L M 13 X o13a=true:=by kernel_rfl
end Go.TV
