import Derived.Test.YtgddcoodncbkoaaGreatDoorKad
import Derived.Test.YtgddcoodncbkoaaGreatDoorKaf
import Derived.Test.YtgddcoodncbkoaaGreatDoorKag
import Derived.Test.YtgddcoodncbkoaaGreatDoorKai
set_option linter.unusedVariables false
set_option linter.unusedSimpArgs false
set_option linter.constructorNameAsVariable false
set_option linter.defProp false
namespace Go.TV
open Go.AI Go.PI Go.Proofs
set_option maxRecDepth 20000
def orcW(k:Nat):Orc:=⟨orcI.n,orcI.s,orcI.n,some (6,k)⟩
def isT:Option (Value×St)->Bool
 |some (.bool true,_)=>true
 |_=>false
def isT_ok{r:Option (Value×St)}(h:isT r=true): ∃H,r=some (.bool true,H):=by
 unfold isT at h;split at h
 ·exact⟨_,rfl⟩
 ·cases h
def gl_sz:Tryz.prog.globals.size=6:=by kernel_rfl
def awk_run(k:Nat):isT (aAL Tryz.prog Go.Rf.cdX (orcW k) 300 100 5 #[] (stK Tryz.prog))=true:=by kernel_rfl
def aKw{w:World}(ht:Lib.TabIs Tryz.prog w pwN .u64 Lib.pow10Tab):OrcOK Tryz.prog w orcI:=⟨aKv ht,.inl rfl,λg k h=>by cases h⟩
def codeW(w0:W0):vC w0 Tryz.prog Go.Rf.cdX:=Go.Rf.code_okX aF9 w0
def awk_ok {w : World} (ht : Lib.TabIs Tryz.prog w pwN .u64 Lib.pow10Tab) (hz : 6 ≤ w.heap.size) : (∃ fn c, Tryz.prog.funcs[5]? = some fn ∧ fn.body = some c ∧ (fn.name == "runtime.NumGoroutine") = false) ∧
    Calls Tryz.prog 5 #[] w λe w'=>e= .returned (.bool true)/\Kept w w':=by
 obtain⟨E,hE,hs⟩:=world_ok 0 0;have h0:0<E.length:=by
  simp only[smF,bjE]at hs;exact Nat.le_of_ble_eq_true hs.1.1
 obtain⟨H,h1⟩:=isT_ok (awk_run E.length);have hO:OrcOK Tryz.prog w (orcW E.length):=⟨aKv ht,.inl rfl,λg k h w1 hK=>by
  cases h;exact aC2 hE h0 (by rw[gl_sz];exact Nat.le_trans hz hK.size) (λw0 _=>codeW w0) (aKw (zN ht hK))⟩
 obtain⟨g,hc⟩:=aAK aF7 (λw0 _=>codeW w0) hO 300 100 (W0.of w) rfl 5 #[] #[] _ _ w (muK Tryz.prog) _ h1 (simK (by rw[gl_sz];exact hz)) (VRL.same rfl)
 refine⟨g,hc.mono ?_⟩;rintro e w' ⟨Y',r',rfl,cb,hZ,_,_⟩;have:r'= .bool true:=by cases cb;rfl
 subst this;exact⟨rfl,hZ.kept.toKept⟩
end Go.TV
