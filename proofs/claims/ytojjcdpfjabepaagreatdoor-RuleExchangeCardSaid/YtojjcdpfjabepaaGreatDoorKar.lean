import Derived.Test.YtojjcdpfjabepaaGreatDoorKak
import Derived.Test.YtojjcdpfjabepaaGreatDoorKam
import Derived.Test.YtojjcdpfjabepaaGreatDoorKan
import Derived.Test.YtojjcdpfjabepaaGreatDoorKaq
set_option linter.unusedVariables false
set_option linter.unusedSimpArgs false
set_option linter.constructorNameAsVariable false
namespace Go.TV
open Go.AI Go.PI Go.Proofs
set_option maxRecDepth 20000
def orcW(k:Nat):Orc:=⟨orcI.n,orcI.s,orcI.n,some (8,k)⟩
def isT:Option (Value×St)→Bool
 |some (.bool true,_)=>true
 |_=>false
theorem isT_ok{r:Option (Value×St)}(h:isT r=true): ∃σ,r=some (.bool true,σ):=by
 unfold isT at h;split at h
 ·exact⟨_,rfl⟩
 ·cases h
theorem gl_sz:Tryz.prog.globals.size=6:=by kernel_rfl
theorem awk_run(k:Nat):isT (rR Tryz.prog Go.Rf.cdX (orcW k) 300 100 7 #[] (stK Tryz.prog))=true:=by kernel_rfl
theorem aG0{w:World}(ht:Lib.TabIs Tryz.prog w pwN .u64 Lib.pow10Tab):aFD Tryz.prog w orcI:=⟨aGZ ht,.inl rfl,fun g k h=>by cases h⟩
theorem codeW{w:World}(ht:Lib.TabIs Tryz.prog w pwN .u64 Lib.pow10Tab)(hz:6≤w.heap.size)(w0:W0)(h:w0.toWorld=w):kV w0 Tryz.prog Go.Rf.cdX:=
 Go.Rf.code_okX aDJ yP w0 (by rw[gl_sz,h];exact hz) (by rw[h];exact ht)
theorem awk_ok {w : World} (ht : Lib.TabIs Tryz.prog w pwN .u64 Lib.pow10Tab) (hz : 6 ≤ w.heap.size) : (∃ fn c, Tryz.prog.funcs[7]? = some fn ∧ fn.body = some c ∧ (fn.name == "runtime.NumGoroutine") = false) ∧
    Calls Tryz.prog 7 #[] w fun e w'=>e= .returned (.bool true)∧Kept w w':=by
 obtain⟨E,hE,hs⟩:=aCH 0 0;have h0:0<E.length:=by
  simp only[smF,bjE]at hs;exact Nat.le_of_ble_eq_true hs.1.1
 obtain⟨σ,h1⟩:=isT_ok (awk_run E.length);have hO:aFD Tryz.prog w (orcW E.length):=⟨aGZ ht,.inl rfl,fun g k h w1 hK=>by
  cases h;exact aAL hE h0 (by rw[gl_sz];exact Nat.le_trans hz hK.size) (codeW (gV ht hK) (Nat.le_trans hz hK.size)) (aG0 (gV ht hK))⟩
 obtain⟨g,hc⟩:=pV yP (codeW ht hz) hO 300 100 (W0.of w) rfl 7 #[] #[] _ _ w (muK Tryz.prog) _ h1 (simK (by rw[gl_sz];exact hz)) (VRL.same rfl)
 refine⟨g,hc.mono ?_⟩;rintro e w' ⟨μ',r',rfl,hr',hZ,_,_⟩;have:r'= .bool true:=by cases hr';rfl
 subst this;exact⟨rfl,hZ.kept.toKept⟩
end Go.TV
