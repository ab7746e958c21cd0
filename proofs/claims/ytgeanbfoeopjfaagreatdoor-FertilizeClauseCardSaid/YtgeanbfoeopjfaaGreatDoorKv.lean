import Derived.Test.YtgeanbfoeopjfaaGreatDoorKn
set_option linter.unusedVariables false
set_option linter.unusedSimpArgs false
set_option linter.constructorNameAsVariable false
namespace Go.Rf
open Go.AI Go.Proofs
def orcE:Orc:=⟨0,fun _ _=>none,0⟩
def isS(l:List UInt8):Option (Value×St)→Bool
 |some (.string s,_)=>decide (s.data.toList=l)
 |_=>false
theorem run_12:isS [49] (oM Tryz.prog cdR orcE 300 100 210 #[sV [49],sV [50]] (stK Tryz.prog))=true:=by kernel_rfl
theorem run_53:isS [49] (oM Tryz.prog cdR orcE 300 100 210 #[sV [45,53],sV [51]] (stK Tryz.prog))=true:=by kernel_rfl
end Go.Rf
