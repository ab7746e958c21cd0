import Derived.Test.YtgddcoodncbkoaaGreatDoorKu
import Derived.Test.YtgddcoodncbkoaaGreatDoorKx
set_option linter.unusedVariables false
set_option linter.unusedSimpArgs false
set_option linter.constructorNameAsVariable false
set_option linter.defProp false
namespace Go.TV
open Go.AI Go.PI Go.Proofs
set_option maxRecDepth 20000
def bDe(k:Nat):Gh:=⟨orcI.n,orcI.s,orcI.n,some (6,k)⟩
def NH:Option (Value×St)->Bool
 |some (.bool true,_)=>true
 |_=>false
def a2B{r:Option (Value×St)}(h:NH r=true): ∃H,r=some (.bool true,H):=by
 unfold NH at h;split at h
 .exact⟨_,rfl⟩
 .cases h
def aSk:Tryz.prog.globals.size=6:=by kernel_rfl
def aQi(k:Nat):NH (AK Tryz.prog Go.Rf.cdX (bDe k) 300 100 5 #[] (a58 Tryz.prog))=true:=by kernel_rfl
def Xq{w:World}(ht:Lib.TabIs Tryz.prog w a0B .u64 Lib.pow10Tab):ZG Tryz.prog w orcI:=⟨Xp ht,.inl rfl,λg k h=>by cases h⟩
def X0(w0:W0):zC w0 Tryz.prog Go.Rf.cdX:=Go.Rf.code_okX Kv w0
def a34 {w : World} (ht : Lib.TabIs Tryz.prog w a0B .u64 Lib.pow10Tab) (hz : 6 ≤ w.heap.size) : (∃ fn c, Tryz.prog.funcs[5]? = some fn ∧ fn.body = some c ∧ (fn.name == "runtime.NumGoroutine") = false) ∧
    Calls Tryz.prog 5 #[] w λe w'=>e= .returned (.bool true)/\Kept w w':=by
 obtain⟨E,hE,hs⟩:=aC2 0 0;have h0:0<E.length:=by
  simp only[a6a,aC]at hs;exact bK hs.1.1
 obtain⟨H,h1⟩:=a2B (aQi E.length);have hO:ZG Tryz.prog w (bDe E.length):=⟨Xp ht,.inl rfl,λg k h w1 hK=>by
  cases h;exact NQ hE h0 (by rw[aSk];exact Nat.le_trans hz hK.size) (λw0 _=>X0 w0) (Xq (Dy ht hK))⟩
 obtain⟨g,hc⟩:=Fe Ku (λw0 _=>X0 w0) hO 300 100 (W0.of w) rfl 5 #[] #[] _ _ w (a1c Tryz.prog) _ h1 (a8y (by rw[aSk];exact hz)) (VRL.same rfl)
 refine⟨g,hc.mono ?_⟩;rintro e w' ⟨Y',r',rfl,cb,hZ,_,_⟩;have:r'= .bool true:=by cases cb;rfl
 subst this;exact⟨rfl,hZ.kept.toKept⟩
end Go.TV
