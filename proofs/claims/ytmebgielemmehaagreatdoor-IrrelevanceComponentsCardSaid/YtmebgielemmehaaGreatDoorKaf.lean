import Derived.Test.YtmebgielemmehaaGreatDoorKt
import Derived.Test.YtmebgielemmehaaGreatDoorKae
set_option linter.unusedVariables false
set_option linter.unusedSimpArgs false
set_option linter.constructorNameAsVariable false
set_option linter.defProp false
namespace Go.TV
open Go.AI Go.PI Go.Proofs
set_option maxRecDepth 20000
def P1{w:World}(ht:Lib.TabIs Tryz.prog w aK2 .u64 Lib.pow10Tab):Re Tryz.prog w orcI:=⟨P0 ht,.inl rfl,λg k h=>by cases h⟩
def Qy(w0:W0):NX w0 Tryz.prog Tryz.prog:=λf fn c h1 h2=> .inl ⟨h1,bJ.1 Fe _ (by have:=Array.mem_of_getElem? h1;simpa using this)⟩
def aBj: ∃E:List G.E,cG 7000 159 3 [⟨.int .u32,(0:Int)⟩]=some [⟨.sl (.rc 15),E⟩]/\aOD E=true:=by
 obtain⟨E,hE,hs⟩:=GU 0 0;rw[Nat.zero_add,Nat.zero_add]at hE;exact⟨E,hE,hs⟩
def aNM{w:World}(ht:Lib.TabIs Tryz.prog w aK2 .u64 Lib.pow10Tab)(hz:5<=w.heap.size):(∃fn c,Tryz.prog.funcs[4]?=some fn/\fn.body=some c/\(fn.name== "runtime.NumGoroutine")=false)/\
    Calls Tryz.prog 4 #[] w λe w'=>e= .returned (.bool true)/\Kept w w':=by
 obtain⟨E,hE,hs⟩:=aBj;have h0:0<E.length:=by
  simp only[aOD,aC]at hs;exact bP hs.1.1
 obtain⟨H,h1⟩:=aMe (aEy E.length);have hw: ∀w1,Kept w w1->_:=λw1 hK=>GV (E:=E) (w:=w1) hE h0 (by rw[aGq];exact Nat.le_trans hz hK.size) (λw0 _=>Qy w0) (P1 (AK ht hK))
 have hO:Re Tryz.prog w (aS1 E.length):=⟨P0 ht,.inl rfl,λg k h w1 hK=>by
  cases h;exact hw w1 hK⟩
 have hk:=B9 (P:=Tryz.prog) (C:=Tryz.prog) Bu (λw0 _=>Qy w0) hO 300 100 (W0.of w) rfl
 obtain⟨g,hc⟩:=hk 4 #[] #[] _ _ w (aLu Tryz.prog) _ h1 (aQm (by rw[aGq];exact hz)) (VRL.same rfl)
 refine⟨g,hc.mono ?_⟩;rintro e w' ⟨Y',r',rfl,ca,hZ,_,_⟩;have:r'= .bool true:=by cases ca;rfl
 subst this;exact⟨rfl,hZ.kept.toKept⟩
end Go.TV
