import Derived.Test.YtdjaoblfbbcpdaaGreatDoorKj
set_option linter.unusedVariables false
set_option linter.unusedSimpArgs false
set_option linter.constructorNameAsVariable false
set_option linter.defProp false
namespace Go.TV
open Go.AI Go.PI Go.Proofs
set_option maxRecDepth 20000
def bDh(L M:Nat)(X:Nat->T3):pE L M 14 X a6k=true:=by kernel_rfl
def bDg(L M:Nat)(X:Nat->T3):pE L M 15 X a6j=true:=by kernel_rfl
def bDf(L M:Nat)(X:Nat->T3):pE L M 16 X a6i=true:=by kernel_rfl
def bDe(L M:Nat)(X:Nat->T3):pE L M 17 X a6h=true:=by kernel_rfl
def bDd(L M:Nat)(X:Nat->T3):pE L M 18 X a6g=true:=by kernel_rfl
def bDc(L M:Nat)(X:Nat->T3):pE L M 19 X a6f=true:=by kernel_rfl
def bDb(L M:Nat)(X:Nat->T3):pE L M 20 X a6e=true:=by kernel_rfl
end Go.TV
