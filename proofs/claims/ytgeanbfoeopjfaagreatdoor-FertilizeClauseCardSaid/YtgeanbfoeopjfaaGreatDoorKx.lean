import Derived.Test.YtgeanbfoeopjfaaGreatDoorKp
import Derived.Test.YtgeanbfoeopjfaaGreatDoorKr
import Derived.Test.YtgeanbfoeopjfaaGreatDoorKw
set_option linter.unusedVariables false
set_option linter.unusedSimpArgs false
set_option linter.constructorNameAsVariable false
namespace Go.TV
open Go.AI Go.PI Go.Proofs
set_option maxRecDepth 20000
def orc0:Orc:=⟨orcI.n,orcI.s,orcI.n⟩
def isT:Option (Value×St)→Bool
 |some (.bool true,_)=>true
 |_=>false
theorem isT_ok{r:Option (Value×St)}(h:isT r=true): ∃σ,r=some (.bool true,σ):=by
 unfold isT at h;split at h
 ·exact⟨_,rfl⟩
 ·cases h
theorem gl_sz:Tryz.prog.globals.size=5:=by kernel_rfl
theorem awk_run:isT (oM Tryz.prog Go.Rf.cdG orc0 300 100 5 #[] (st1 5 [] 1))=true:=by kernel_rfl
theorem awk_ok {w : World} (ht : Lib.TabIs Tryz.prog w pwN .u64 Lib.pow10Tab) (hz : 5 ≤ w.heap.size) : (∃ fn c, Tryz.prog.funcs[orcI.m]? = some fn ∧ fn.body = some c ∧ (fn.name == "runtime.NumGoroutine") = false) ∧
    Calls Tryz.prog orcI.m #[] w fun e w'=>e= .returned (.bool true)∧Kept w w':=by
 obtain⟨σ,h1⟩:=isT_ok awk_run;have hO:aIO Tryz.prog w orc0:=⟨aGe ht,.inl rfl⟩;obtain⟨g,hc⟩:=uT aCK (fun w0 h=>Go.Rf.code_okG aGB aCK w0 (by rw[gl_sz,h];exact hz)) hO 300 100 (W0.of w) rfl 5 #[] #[] _ _ w (mu1 5 none) _ h1 (sim1 (by omega) (fun q hq=>by cases hq) (fun h=>by omega) hz) ⟨rfl,fun i x w hx=>by
  cases i<;>cases hx⟩
 refine⟨g,hc.mono ?_⟩;rintro e w' ⟨μ',r',rfl,hr',hZ,_,_⟩;have:r'= .bool true:=by cases hr';rfl
 subst this;exact⟨rfl,hZ.kept.toKept⟩
theorem orc_ok{w0:World}(ht:Lib.TabIs Tryz.prog w0 pwN .u64 Lib.pow10Tab)(hz:5≤w0.heap.size):aIO Tryz.prog w0 orcI:=⟨aGe ht,.inr fun w hK=>awk_ok (aBS ht hK) (Nat.le_trans hz hK.size)⟩
end Go.TV
