import Derived.Test.YtgddcoodncbkoaaGreatDoorKs
set_option linter.unusedVariables false
set_option linter.unusedSimpArgs false
set_option linter.constructorNameAsVariable false
set_option linter.defProp false
namespace Go.TV
open Go.AI Go.PI Go.Proofs
set_option maxRecDepth 20000
def p21E(L M:Nat)(X:Nat->T3):pE L M 21 X o21a=true:=by kernel_rfl
def p22E(L M:Nat)(X:Nat->T3):pE L M 22 X o22a=true:=by kernel_rfl
def p23E(L M:Nat)(X:Nat->T3):pE L M 23 X o23a=true:=by kernel_rfl
def p24E(L M:Nat)(X:Nat->T3):pE L M 24 X o24a=true:=by kernel_rfl
def p25E(L M:Nat)(X:Nat->T3):pE L M 25 X o25a=true:=by kernel_rfl
def p26E(L M:Nat)(X:Nat->T3):pE L M 26 X o26a=true:=by kernel_rfl
def p27E(L M:Nat)(X:Nat->T3):pE L M 27 X o27a=true:=by kernel_rfl
end Go.TV
