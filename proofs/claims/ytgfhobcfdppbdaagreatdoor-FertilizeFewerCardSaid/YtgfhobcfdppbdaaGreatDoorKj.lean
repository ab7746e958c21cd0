import Derived.Test.YtgfhobcfdppbdaaGreatDoorKi
set_option linter.unusedVariables false
set_option linter.unusedSimpArgs false
set_option linter.constructorNameAsVariable false
set_option linter.defProp false
namespace Go.TV
open Go.AI Go.PI Go.Proofs
set_option maxRecDepth 20000
def p0E(L M:Nat)(X:Nat->T3):pE L M 0 X bQz=true:=by kernel_rfl
def p1E(L M:Nat)(X:Nat->T3):pE L M 1 X bQy=true:=by kernel_rfl
def p2E(L M:Nat)(X:Nat->T3):pE L M 2 X bQx=true:=by kernel_rfl
def p3E(L M:Nat)(X:Nat->T3):pE L M 3 X bQw=true:=by kernel_rfl
def p4E(L M:Nat)(X:Nat->T3):pE L M 4 X bQv=true:=by kernel_rfl
def p5E(L M:Nat)(X:Nat->T3):pE L M 5 X bQu=true:=by kernel_rfl
def p6E(L M:Nat)(X:Nat->T3):pE L M 6 X bQt=true:=by kernel_rfl
end Go.TV
