import Derived.Test.YtjapdpcodgaoaaaGreatDoorKi
set_option linter.all false
namespace Go.TV
open Go.AI Go.PI Go.Proofs
set_option maxRecDepth 20000
def p0E(L M:Nat)(X:Nat->T3):pE L M 0 X bOk=true:=by kernel_rfl
def p1E(L M:Nat)(X:Nat->T3):pE L M 1 X bOj=true:=by kernel_rfl
def p2E(L M:Nat)(X:Nat->T3):pE L M 2 X bOi=true:=by kernel_rfl
def p3E(L M:Nat)(X:Nat->T3):pE L M 3 X bOh=true:=by kernel_rfl
def p4E(L M:Nat)(X:Nat->T3):pE L M 4 X bOg=true:=by kernel_rfl
def p5E(L M:Nat)(X:Nat->T3):pE L M 5 X bOf=true:=by kernel_rfl
def p6E(L M:Nat)(X:Nat->T3):pE L M 6 X bOe=true:=by kernel_rfl
end Go.TV
