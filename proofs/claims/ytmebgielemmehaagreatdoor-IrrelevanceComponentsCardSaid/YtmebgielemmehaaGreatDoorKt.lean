import Derived.Test.YtmebgielemmehaaGreatDoorKp
import Derived.Test.YtmebgielemmehaaGreatDoorKr
import Derived.Test.YtmebgielemmehaaGreatDoorKs
set_option linter.unusedVariables false
set_option linter.unusedSimpArgs false
set_option linter.constructorNameAsVariable false
set_option linter.defProp false
namespace Go.TV
open Go.AI Go.PI Go.Proofs
set_option maxRecDepth 20000
def aS1(k:Nat):CJ:=⟨orcI.n,orcI.s,orcI.n,some (6,k)⟩
def Gy:Option (Value×St)->Bool
 |some (.bool true,_)=>true
 |_=>false
def aMe{r:Option (Value×St)}(h:Gy r=true): ∃H,r=some (.bool true,H):=by
 unfold Gy at h;split at h
 .exact⟨_,rfl⟩
 .cases h
def aGq:Tryz.prog.globals.size=5:=by kernel_rfl
def aEy(k:Nat):Gy (wG Tryz.prog Tryz.prog (aS1 k) 300 100 4 #[] (aOB Tryz.prog))=true:=by kernel_rfl
end Go.TV
