import Derived.Test.YtjapdpcodgaoaaaGreatDoorKi
set_option linter.all false
namespace Go.TV
open Go.AI Go.PI Go.Proofs
set_option maxRecDepth 20000
def p7E(L M:Nat)(X:Nat->T3):pE L M 7 X bOd=true:=by kernel_rfl
def p8E(L M:Nat)(X:Nat->T3):pE L M 8 X bOc=true:=by kernel_rfl
def p9E(L M:Nat)(X:Nat->T3):pE L M 9 X bOb=true:=by kernel_rfl
def bJD(L M:Nat)(X:Nat->T3):pE L M 10 X bBW=true:=by kernel_rfl
def bJC(L M:Nat)(X:Nat->T3):pE L M 11 X bBV=true:=by kernel_rfl
def bJB(L M:Nat)(X:Nat->T3):pE L M 12 X bBU=true:=by kernel_rfl
def bJA(L M:Nat)(X:Nat->T3):pE L M 13 X bBT=true:=by kernel_rfl
end Go.TV
