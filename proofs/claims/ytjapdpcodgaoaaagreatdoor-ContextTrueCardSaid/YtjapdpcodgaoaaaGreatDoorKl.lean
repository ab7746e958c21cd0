import Derived.Test.YtjapdpcodgaoaaaGreatDoorKi
set_option linter.all false
namespace Go.TV
open Go.AI Go.PI Go.Proofs
set_option maxRecDepth 20000
def bJz(L M:Nat)(X:Nat->T3):pE L M 14 X bBS=true:=by kernel_rfl
def bJy(L M:Nat)(X:Nat->T3):pE L M 15 X bBR=true:=by kernel_rfl
def bJx(L M:Nat)(X:Nat->T3):pE L M 16 X bBQ=true:=by kernel_rfl
def bJw(L M:Nat)(X:Nat->T3):pE L M 17 X bBP=true:=by kernel_rfl
def bJv(L M:Nat)(X:Nat->T3):pE L M 18 X bBO=true:=by kernel_rfl
def bJu(L M:Nat)(X:Nat->T3):pE L M 19 X bBN=true:=by kernel_rfl
def bJt(L M:Nat)(X:Nat->T3):pE L M 20 X bBM=true:=by kernel_rfl
end Go.TV
