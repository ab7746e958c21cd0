import Derived.Test.YtgfhobcfdppbdaaGreatDoorKr
import Derived.Test.YtgfhobcfdppbdaaGreatDoorKt
import Derived.Test.YtgfhobcfdppbdaaGreatDoorKy
set_option linter.unusedVariables false
set_option linter.unusedSimpArgs false
set_option linter.constructorNameAsVariable false
set_option linter.defProp false
namespace Go.TV
open Go.AI Go.PI Go.Proofs
set_option maxRecDepth 20000
def bC3:DD:=⟨orcI.n,orcI.s,orcI.n,none⟩
def PP:Option (Value×St)->Bool
 |some (.bool true,_)=>true
 |_=>false
def a5f{r:Option (Value×St)}(h:PP r=true): ∃H,r=some (.bool true,H):=by
 unfold PP at h;split at h
 .exact⟨_,rfl⟩
 .cases h
def aTm:Tryz.prog.globals.size=5:=by kernel_rfl
def aQS:PP (vZ Tryz.prog Go.Rf.cdG bC3 300 100 4 #[] (bAs 5 [] 1))=true:=by kernel_rfl
def a7h {w : World} (ht : Lib.TabIs Tryz.prog w a8M .u64 Lib.pow10Tab) (hz : 5 ≤ w.heap.size) : (∃ fn c, Tryz.prog.funcs[orcI.m]? = some fn ∧ fn.body = some c ∧ (fn.name == "runtime.NumGoroutine") = false) ∧
    Calls Tryz.prog orcI.m #[] w λe w'=>e= .returned (.bool true)/\Kept w w':=by
 obtain⟨H,h1⟩:=a5f aQS;have hO:Sf Tryz.prog w bC3:=⟨aAm ht,.inl rfl,λg k h=>by cases h⟩
 obtain⟨g,hc⟩:=FA K1 (λw0 h=>Go.Rf.code_okG TL K1 w0 (by rw[aTm,h];exact hz)) hO 300 100 (W0.of w) rfl 4 #[] #[] _ _ w (a3c 5 none) _ h1 (bJB (by omega) (λq hq=>by cases hq) (λh=>by omega) hz) ⟨rfl,λi x w hx=>by
  cases i<;>cases hx⟩
 refine⟨g,hc.mono ?_⟩;rintro e w' ⟨Y',r',rfl,ca,hZ,_,_⟩;have:r'= .bool true:=by cases ca;rfl
 subst this;exact⟨rfl,hZ.kept.toKept⟩
def a2F{w0:World}(ht:Lib.TabIs Tryz.prog w0 a8M .u64 Lib.pow10Tab)(hz:5<=w0.heap.size):Sf Tryz.prog w0 orcI:=⟨aAm ht,.inr λw hK=>a7h (P8 ht hK) (Nat.le_trans hz hK.size),λg k h=>by cases h⟩
end Go.TV
