import Derived.Test.YtjapdpcodgaoaaaGreatDoorKt
import Derived.Test.YtjapdpcodgaoaaaGreatDoorKv
import Derived.Test.YtjapdpcodgaoaaaGreatDoorKw
open Go.Proofs.Tryz renaming prog->f4
set_option linter.all false
namespace Go.TV
open Go.AI Go.PI Go.Proofs
set_option maxRecDepth 20000
def bBm:HU:=⟨orcI.n,orcI.s,orcI.n,none⟩
def Qq:f9 (Value×St)->Bool
 |some (.bool true,_)=>true
 |_=>false
def a3i{r:f9 (Value×St)}(h:Qq r=true): ∃H,r=some (.bool true,H):=by
 unfold Qq at h;split at h
 .exact⟨_,rfl⟩
 .cases h
def aQ1:Qq (Dw f4 Go.Rf.cdP bBm 300 100 4 #[] (a8e 3 [] 1))=true:=by kernel_rfl
def a5f{w:World}(ht:Lib.TabIs f4 w a6z .u64 Lib.pow10Tab)(hz:3<=w.heap.size):(∃fn c,Tryz.prog.funcs[orcI.m]?=some fn/\fn.body=some c/\(fn.name== "runtime.NumGoroutine")=false)/\
    Calls f4 orcI.m #[] w λe w'=>e= .returned (.bool true)/\Kept w w':=by
 obtain⟨H,h1⟩:=a3i aQ1;have hO:aKS f4 w bBm:=⟨aAI ht,.inl rfl,λg k h=>by cases h⟩
 obtain⟨g,hc⟩:=Ss aHc (λw0 _=>Go.Rf.code_ok Up w0) hO 300 100 (W0.of w) rfl 4 #[] #[] _ _ w (a1K 3 none) _ h1 (bH8 (by omega) (λq hq=>by cases hq) (λh=>by omega) hz) ⟨rfl,λi x w hx=>by
  cases i<;>cases hx⟩
 refine⟨g,hc.mono ?_⟩;rintro e w' ⟨Y',r',rfl,bz,hZ,_,_⟩;have:r'= .bool true:=by cases bz;rfl
 subst this;exact⟨rfl,hZ.kept.toKept⟩
def a1l{w0:World}(ht:Lib.TabIs f4 w0 a6z .u64 Lib.pow10Tab)(hz:3<=w0.heap.size):aKS f4 w0 orcI:=⟨aAI ht,.inr λw hK=>a5f (QE ht hK) (Nat.le_trans hz hK.size),λg k h=>by cases h⟩
end Go.TV
