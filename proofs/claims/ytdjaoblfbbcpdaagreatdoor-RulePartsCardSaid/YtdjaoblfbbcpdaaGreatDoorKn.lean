import Derived.Test.YtdjaoblfbbcpdaaGreatDoorKj
set_option linter.unusedVariables false
set_option linter.unusedSimpArgs false
set_option linter.constructorNameAsVariable false
set_option linter.defProp false
namespace Go.TV
open Go.AI Go.PI Go.Proofs
set_option maxRecDepth 20000
def bDa(L M:Nat)(X:Nat->T3):pE L M 21 X a6d=true:=by kernel_rfl
def bC9(L M:Nat)(X:Nat->T3):pE L M 22 X a6c=true:=by kernel_rfl
def bC8(L M:Nat)(X:Nat->T3):pE L M 23 X a6b=true:=by kernel_rfl
def bC7(L M:Nat)(X:Nat->T3):pE L M 24 X a6a=true:=by kernel_rfl
def bC6(L M:Nat)(X:Nat->T3):pE L M 25 X a59=true:=by kernel_rfl
def bC5(L M:Nat)(X:Nat->T3):pE L M 26 X a58=true:=by kernel_rfl
def bC4(L M:Nat)(X:Nat->T3):pE L M 27 X a57=true:=by kernel_rfl
end Go.TV
