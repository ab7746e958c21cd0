import Derived.Test.YtjapdpcodgaoaaaGreatDoorKi
set_option linter.all false
namespace Go.TV
open Go.AI Go.PI Go.Proofs
set_option maxRecDepth 20000
def bJs(L M:Nat)(X:Nat->T3):pE L M 21 X bBL=true:=by kernel_rfl
def bJr(L M:Nat)(X:Nat->T3):pE L M 22 X bBK=true:=by kernel_rfl
def bJq(L M:Nat)(X:Nat->T3):pE L M 23 X bBJ=true:=by kernel_rfl
def bJp(L M:Nat)(X:Nat->T3):pE L M 24 X bBI=true:=by kernel_rfl
def bJo(L M:Nat)(X:Nat->T3):pE L M 25 X bBH=true:=by kernel_rfl
def bJn(L M:Nat)(X:Nat->T3):pE L M 26 X bBG=true:=by kernel_rfl
def bJm(L M:Nat)(X:Nat->T3):pE L M 27 X bBF=true:=by kernel_rfl
end Go.TV
