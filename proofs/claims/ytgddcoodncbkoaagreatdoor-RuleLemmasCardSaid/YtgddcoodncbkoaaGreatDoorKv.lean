import Derived.Test.YtgddcoodncbkoaaGreatDoorKs
set_option linter.unusedVariables false
set_option linter.unusedSimpArgs false
set_option linter.constructorNameAsVariable false
set_option linter.defProp false
namespace Go.TV
open Go.AI Go.PI Go.Proofs
set_option maxRecDepth 20000
def p14E(L M:Nat)(X:Nat->T3):pE L M 14 X o14a=true:=by kernel_rfl
def p15E(L M:Nat)(X:Nat->T3):pE L M 15 X o15a=true:=by kernel_rfl
def p16E(L M:Nat)(X:Nat->T3):pE L M 16 X o16a=true:=by kernel_rfl
def p17E(L M:Nat)(X:Nat->T3):pE L M 17 X o17a=true:=by kernel_rfl
def p18E(L M:Nat)(X:Nat->T3):pE L M 18 X o18a=true:=by kernel_rfl
def p19E(L M:Nat)(X:Nat->T3):pE L M 19 X o19a=true:=by kernel_rfl
def p20E(L M:Nat)(X:Nat->T3):pE L M 20 X o20a=true:=by kernel_rfl
end Go.TV
