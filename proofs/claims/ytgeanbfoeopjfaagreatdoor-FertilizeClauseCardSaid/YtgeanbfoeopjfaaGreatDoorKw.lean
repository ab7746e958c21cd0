import Derived.Test.YtgeanbfoeopjfaaGreatDoorKu
import Derived.Test.YtgeanbfoeopjfaaGreatDoorKv
set_option linter.unusedVariables false
set_option linter.unusedSimpArgs false
set_option linter.constructorNameAsVariable false
namespace Go.Rf
open Go.AI Go.Proofs Go.RowKit
theorem gcd_ok:eZ Tryz.prog Tryz.f210=true:=by kernel_rfl
theorem aBT{C:Program}{f g:FuncId}{fn fn':Func}(hfg: ¬g=f)(h:C.funcs[g]?=some fn'):(tD C f fn).funcs[g]?=some fn':=by
 have:(C.funcs.toList.set f fn)[g]?=some fn':=by
  rw[List.getElem?_set,if_neg (Ne.symm hfg)];simpa using h
 simpa [tD]using this
theorem okP(h:cdG.funcs.toList.all (eZ Tryz.prog)=true){f:FuncId}{fn:Func}(hf:Tryz.prog.funcs[f]?=some fn):eZ Tryz.prog fn=true:=by
 by_cases e:f=87
 ·subst e;rw[aHH]at hf;rw[←Option.some.inj hf];exact cl_ok
 ·by_cases e2:f=210
  ·subst e2;rw[Tryz.func210]at hf;rw[←Option.some.inj hf];exact gcd_ok
  ·have h1:cdG.funcs[f]?=some fn:=aBT e2 (aBT e hf);exact List.all_eq_true.1 h _ (List.mem_of_getElem? (show cdG.funcs.toList[f]?=some fn by simpa using h1))
theorem aC6(h:cdG.funcs.toList.all (eZ Tryz.prog)=true)(w0:W0):sT w0 Tryz.prog cdR:=
 oO (oO (fun f fn c hf _=> .inl ⟨hf,okP h hf⟩) rfl (vS ⟨_,_,Tryz.func233,rfl,by kernel_rfl⟩ (pu_known w0))) rfl (st_rep w0)
theorem aGf(w:World):aIO Tryz.prog w orcE:=⟨(fun a b s h=>by cases h),.inl rfl⟩
theorem isS_ok{l:List UInt8}{x:Option (Value×St)}(h:isS l x=true): ∃σ,x=some (sV l,σ):=by
 unfold isS at h;split at h
 ·rename_i s σ;refine⟨σ,?_⟩;simp only[djE]at h;cases s with|mk d=>
  have:d=l.toArray:=by rw[←h]
  rw[this];rfl
 ·cases h
theorem aGH(h:cdG.funcs.toList.all (eZ Tryz.prog)=true)(hfol:Tryz.prog.toTables.follows .mixedOrders=true)(w0 w:World)(a b:List UInt8)(hg:Tryz.prog.globals.size≤w.heap.size)(hab:(a=[49]∧b=[50])∨(a=[45,53]∧b=[51])):
    Calls Tryz.prog 210 #[sV a,sV b] w fun e w'=>e= .returned (sV [49])∧Kept w w':=by
 rcases hab with⟨rfl,rfl⟩|⟨rfl,rfl⟩
 ·obtain⟨σ,hr⟩:=isS_ok run_12;exact qF hfol (fun w0 _=>aC6 h w0) (aGf w) hg hr rfl rfl
 ·obtain⟨σ,hr⟩:=isS_ok run_53;exact qF hfol (fun w0 _=>aC6 h w0) (aGf w) hg hr rfl rfl
theorem code_okG(h:cdG.funcs.toList.all (eZ Tryz.prog)=true)(hfol:Tryz.prog.toTables.follows .mixedOrders=true)(w0:W0)(hg:Tryz.prog.globals.size≤w0.heap.size):sT w0 Tryz.prog cdG:=
 oO (oO (fun f fn c hf _=> .inl ⟨hf,okP h hf⟩) rfl (aHG w0)) rfl (vS ⟨_,_,Tryz.func210,rfl,by kernel_rfl⟩ (gc_known (aGH h hfol) w0 hg))
end Go.Rf
