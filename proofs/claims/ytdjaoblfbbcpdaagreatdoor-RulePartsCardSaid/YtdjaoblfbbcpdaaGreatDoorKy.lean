import Derived.Test.YtdjaoblfbbcpdaaGreatDoorKu
import Derived.Test.YtdjaoblfbbcpdaaGreatDoorKx
set_option linter.unusedVariables false
set_option linter.unusedSimpArgs false
set_option linter.constructorNameAsVariable false
set_option linter.defProp false
namespace Go.TV
open Go.AI Go.PI Go.Proofs
set_option maxRecDepth 20000
def a5U(k:Nat):Fs:=⟨orcI.n,orcI.s,orcI.n,some (5,k)⟩
def NO:Option (Value×St)->Bool
 |some (.bool true,_)=>true
 |_=>false
def aZb{r:Option (Value×St)}(h:NO r=true): ∃H,r=some (.bool true,H):=by
 unfold NO at h;split at h
 .exact⟨_,rfl⟩
 .cases h
def aOQ:Tryz.prog.globals.size=6:=by kernel_rfl
def aMS(k:Nat):NO (Bh Tryz.prog Go.Rf.cdX (a5U k) 300 100 4 #[] (a2W Tryz.prog))=true:=by kernel_rfl
def WZ{w:World}(ht:Lib.TabIs Tryz.prog w a22 .u64 Lib.pow10Tab):YD Tryz.prog w orcI:=⟨WY ht,.inl rfl,λg k h=>by cases h⟩
def XN(w0:W0):Ak w0 Tryz.prog Go.Rf.cdX:=Go.Rf.code_okX JT w0
def a1x {w : World} (ht : Lib.TabIs Tryz.prog w a22 .u64 Lib.pow10Tab) (hz : 6 ≤ w.heap.size) : (∃ fn c, Tryz.prog.funcs[4]? = some fn ∧ fn.body = some c ∧ (fn.name == "runtime.NumGoroutine") = false) ∧
    Calls Tryz.prog 4 #[] w λe w'=>e= .returned (.bool true)/\Kept w w':=by
 obtain⟨E,hE,hs,_⟩:=NY 0 0;have h0:0<E.length:=by
  simp only[aR9,aC]at hs;exact bK hs.1.1
 obtain⟨H,h1⟩:=aZb (aMS E.length);have hO:YD Tryz.prog w (a5U E.length):=⟨WY ht,.inl rfl,λg k h w1 hK=>by
  cases h;exact NZ hE h0 (by rw[aOQ];exact Nat.le_trans hz hK.size) (λw0 _=>XN w0) (WZ (Dw ht hK))⟩
 obtain⟨g,hc⟩:=E4 JS (λw0 _=>XN w0) hO 300 100 (W0.of w) rfl 4 #[] #[] _ _ w (aXo Tryz.prog) _ h1 (a4q (by rw[aOQ];exact hz)) (VRL.same rfl)
 refine⟨g,hc.mono ?_⟩;rintro e w' ⟨Y',r',rfl,ca,hZ,_,_⟩;have:r'= .bool true:=by cases ca;rfl
 subst this;exact⟨rfl,hZ.kept.toKept⟩
end Go.TV
