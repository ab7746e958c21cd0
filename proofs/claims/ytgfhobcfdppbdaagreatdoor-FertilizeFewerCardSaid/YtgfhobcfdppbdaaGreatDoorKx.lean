import Derived.Test.YtgfhobcfdppbdaaGreatDoorKg
set_option linter.unusedVariables false
set_option linter.unusedSimpArgs false
set_option linter.constructorNameAsVariable false
set_option linter.defProp false
namespace Go.Rf
open Go.AI Go.Proofs
def a2G:DD:=⟨0,λ_ _=>none,0,none⟩
def bIt(l:List UInt8):Option (Value×St)->Bool
 |some (.string s,_)=>decide (s.data.toList=l)
 |_=>false
def a0w:bIt [49] (vZ Tryz.prog bOQ a2G 300 100 222 #[sV [49],sV [50]] (bAr Tryz.prog))=true:=by kernel_rfl
def a0v:bIt [49] (vZ Tryz.prog bOQ a2G 300 100 222 #[sV [45,53],sV [51]] (bAr Tryz.prog))=true:=by kernel_rfl
end Go.Rf
