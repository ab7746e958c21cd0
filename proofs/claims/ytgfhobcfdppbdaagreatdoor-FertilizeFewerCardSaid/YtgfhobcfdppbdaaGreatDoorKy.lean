import Derived.Test.YtgfhobcfdppbdaaGreatDoorKw
import Derived.Test.YtgfhobcfdppbdaaGreatDoorKx
set_option linter.unusedVariables false
set_option linter.unusedSimpArgs false
set_option linter.constructorNameAsVariable false
set_option linter.defProp false
namespace Go.Rf
open Go.AI Go.Proofs Go.RowKit
def a5W:jW Tryz.prog Tryz.f222=true:=by kernel_rfl
def P9{C:Program}{f g:FuncId}{fn po:Func}(qk: ¬g=f)(h:C.funcs[g]?=some po):(AB C f fn).funcs[g]?=some po:=by
 have:(C.funcs.toList.set f fn)[g]?=some po:=by
  rw[List.getElem?_set,bH (Ne.symm qk)];simpa using h
 simpa [AB]using this
def bQp(h:cdG.funcs.toList.all (jW Tryz.prog)=true){f:FuncId}{fn:Func}(hf:Tryz.prog.funcs[f]?=some fn):jW Tryz.prog fn=true:=by
 by_cases e:f=80
 .subst e;rw[UI]at hf;rw[<-Option.some.inj hf];exact aTu
 .by_cases e2:f=222
  .subst e2;rw[Tryz.func222]at hf;rw[<-Option.some.inj hf];exact a5W
  .have h1:cdG.funcs[f]?=some fn:=P9 e2 (P9 e hf);exact bJ.1 h _ (List.mem_of_getElem? (show cdG.funcs.toList[f]?=some fn by simpa using h1))
def RG(h:cdG.funcs.toList.all (jW Tryz.prog)=true)(w0:W0):Cw w0 Tryz.prog bOQ:=
 AA (AA (λf fn c hf _=> .inl ⟨hf,bQp h hf⟩) rfl (HN ⟨_,_,Tryz.func252,rfl,by kernel_rfl⟩ (aFY w0))) rfl (aXk w0)
def aAn(w:World):Sf Tryz.prog w a2G:=⟨(λa b s h=>by cases h),.inl rfl,λg k h=>by cases h⟩
def aGW{l:List UInt8}{x:Option (Value×St)}(h:bIt l x=true): ∃H,x=some (sV l,H):=by
 unfold bIt at h;split at h
 .rename_i s H;refine⟨H,?_⟩;simp only[aD]at h;cases s with|mk d=>
  have:d=l.toArray:=by rw[<-h]
  rw[this];rfl
 .cases h
def aCR(h:cdG.funcs.toList.all (jW Tryz.prog)=true)(du:Tryz.prog.toTables.follows .mixedOrders=true)(w0 w:World)(a b:List UInt8)(hg:Tryz.prog.globals.size<=w.heap.size)(pm:(a=[49]/\b=[50])∨(a=[45,53]/\b=[51])):
    Calls Tryz.prog 222 #[sV a,sV b] w λe w'=>e= .returned (sV [49])/\Kept w w':=by
 rcases pm with⟨rfl,rfl⟩|⟨rfl,rfl⟩
 .obtain⟨H,hr⟩:=aGW a0w;exact CP du (λw0 _=>RG h w0) (aAn w) hg hr rfl rfl
 .obtain⟨H,hr⟩:=aGW a0v;exact CP du (λw0 _=>RG h w0) (aAn w) hg hr rfl rfl
def code_okG(h:cdG.funcs.toList.all (jW Tryz.prog)=true)(du:Tryz.prog.toTables.follows .mixedOrders=true)(w0:W0)(hg:Tryz.prog.globals.size<=w0.heap.size):Cw w0 Tryz.prog cdG:=
 AA (AA (λf fn c hf _=> .inl ⟨hf,bQp h hf⟩) rfl (aC2 w0)) rfl (HN ⟨_,_,Tryz.func222,rfl,by kernel_rfl⟩ (aHz (aCR h du) w0 hg))
end Go.Rf
