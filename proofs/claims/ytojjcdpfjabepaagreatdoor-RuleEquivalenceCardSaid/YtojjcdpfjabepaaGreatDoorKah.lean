import Derived.Test.YtojjcdpfjabepaaGreatDoorKaf
import Derived.Test.YtojjcdpfjabepaaGreatDoorKag
set_option linter.unusedVariables false
set_option linter.unusedSimpArgs false
set_option linter.constructorNameAsVariable false
namespace Go.Rf
open Go.AI Go.Proofs
set_option maxRecDepth 100000
section
variable{call:FuncId→Array Value→St→Option (Value×St)}{L:Nat}
theorem str_no: ∀e,Tryz.prog.underlying 9≠some (.slice e):=fun e h=>by rw[Tryz.underlying9]at h;cases h
theorem sK{S:Slots}{σ:St}{b i d k:Nat}{op:BinOp}{y:Operand}(ho:aK (mkO (some d) (.binOp op 9 (.tmp k) y 9) 4)= .pure):
    aop Tryz.prog call b i (mkO (some d) (.binOp op 9 (.tmp k) y 9) 4) S σ=
    (bif aH (S.at k)&&aH (ev S y)then aI Tryz.prog (do eqGuard op 9 (.tmp k) y (S.at k) (ev S y);binOp op 9 (S.at k) (ev S y))else none).map fun v=>(v,σ):=by
 have h2:eY Tryz.prog (ev S) (mkO (some d) (.binOp op 9 (.tmp k) y 9) 4)=(bif aH (S.at k)&&aH (ev S y)then aI Tryz.prog (do eqGuard op 9 (.tmp k) y (S.at k) (ev S y);binOp op 9 (S.at k) (ev S y))
  else match Tryz.prog.underlying 9 with
   |some (.slice _)=>anil op (S.at k) (ev S y)
   |_=>none):=by rfl
 have h1:aop Tryz.prog call b i (mkO (some d) (.binOp op 9 (.tmp k) y 9) 4) S σ=(eU Tryz.prog σ (ev S) (mkO (some d) (.binOp op 9 (.tmp k) y 9) 4)).map fun v=>(v,σ):=by
  unfold aop;rw[ho]
 rw[h1];congr 1;unfold eU;rw[h2];cases aH (S.at k)&&aH (ev S y)with
 |true=>
  simp only[cdt];split
  ·rename_i v h;exact h.symm
  ·rename_i h;rw[h];rfl
 |false=>
  simp only[cdf];have:(match Tryz.prog.underlying 9 with
   |some (.slice _)=>anil op (S.at k) (ev S y)
   |_=>none)=none:=by
   split
   ·rename_i e h;exact absurd h (str_no e)
   ·rfl
  first|rfl|(rw[this];rfl)
theorem es_inv{S:Slots}{σ σ':St}{b i d k:Nat}{x:Value}(h:aop Tryz.prog call b i (esO d k) S σ=some (x,σ')):σ'=σ∧∃a,S.at k= .string a:=by
 rw[esO,sK rfl,show ev S (.const (.string ⟨#[]⟩))= .string ⟨#[]⟩ from rfl]at h
 generalize S.at k=u at h⊢;cases hp:aH u with
 |false=>rw[hp]at h;cases h
 |true=>
  rw[hp,show aH (Value.string ⟨#[]⟩)=true from rfl,Bool.and_self,cdt]at h
  cases u with
  |string s=>
   have e2:aI Tryz.prog (do eqGuard .eql 9 (.tmp k) (.const (.string ⟨#[]⟩)) (.string s) (.string ⟨#[]⟩);binOp .eql 9 (.string s) (.string ⟨#[]⟩))=some (.bool (s.toList==(⟨#[]⟩:ByteArray).toList)):=by kernel_rfl
   rw[e2]at h;simp only[omS,ojE,pjE]at h;exact⟨h.2.symm,s,rfl⟩
  |_=>exact absurd ((by kernel_rfl:none=_).trans h) (fun e=>by cases e)
theorem sbe_inv{S:Slots}{σ σ':St}{b i d:Nat}{x:Value}{s t:ByteArray}(hs:S.at 0= .string s)(ht:S.at 1= .string t)(h:aop Tryz.prog call b i (sbO d .eql) S σ=some (x,σ')):σ'=σ∧x= .bool (s.toList==t.toList):=by
 rw[sbO,sK rfl,hs,show ev S (.tmp 1)=S.at 1 from rfl,ht,show(aH (.string s)&&aH (.string t))=true from rfl,cdt,e_eql]at h
 simp only[omS,ojE,pjE]at h;exact⟨h.2.symm,h.1.symm⟩
theorem sbl_inv{S:Slots}{σ σ':St}{b i d:Nat}{x:Value}{s t:ByteArray}(hs:S.at 0= .string s)(ht:S.at 1= .string t)(h:aop Tryz.prog call b i (sbO d .lss) S σ=some (x,σ')):σ'=σ∧x= .bool (Op.bytesLess s.toList t.toList):=by
 rw[sbO,sK rfl,hs,show ev S (.tmp 1)=S.at 1 from rfl,ht,show(aH (.string s)&&aH (.string t))=true from rfl,cdt,e_lss]at h
 simp only[omS,ojE,pjE]at h;exact⟨h.2.symm,h.1.symm⟩
theorem sc_end{S:Slots}{σ σ':St}{r:Value}{v:Int}(h:fL Tryz.prog scF (bT Tryz.prog call L (scA v) S σ)=some (r,σ')):r= .int .i64 v∧σ'={σ with next:=σ.next+1}:=by
 have e:fL Tryz.prog scF (bT Tryz.prog call L (scA v) S σ)=some ((S.store (some 4) (.int .i64 v)).at 4,{σ with next:=σ.next+1}):=by kernel_rfl
 rw[e,Go.Rf.at_store,if_pos rfl]at h;simp only[ojE,pjE]at h;exact⟨h.1.symm,h.2.symm⟩
theorem aCu{P:Program}{id:Nat}{ops:Array Oper}{S:Slots}{σ:St}{r:Value}{σ':St}{rest:Code}{fn:Func}(h:fL P fn (bT P call L (.seq (.region id ops false) rest) S σ)=some (r,σ')):
    ∃S1 σ1,dZ P call ops σ.next ops.toList 0 S {σ with next:=σ.next+ops.size}=some (S1,σ1)∧fL P fn (bT P call L rest S1 σ1)=some (r,σ'):=by
 cases hx:bT P call L (.seq (.region id ops false) rest) S σ with
 |none=>rw[hx]at h;cases h
 |some x=>
  obtain⟨fl,S',σ1⟩:=x;obtain⟨S2,σ2,h1,h2⟩:=gC hx;rw[hx]at h;exact⟨S2,σ2,nF h1,by rw[h2];exact h⟩
theorem aD1{P:Program}{fn:Func}{x:Operand}{a b:Code}{S:Slots}{σ σ':St}{r:Value}{q:Bool}(hq:ev S x= .bool q)(h:fL P fn (bT P call L (.cond x a b) S σ)=some (r,σ')):fL P fn (bT P call L (bif q then a else b) S σ)=some (r,σ'):=by
 rw[bT,hq]at h;cases q<;>exact h
end
theorem ar_size{a:Array Value}{P:Program}{f:FuncId}(h:aBz P f a.size=true){k:Nat}(hk:aBz P f k=true):a.size=k:=by
 unfold aBz at h hk;split at h
 ·rename_i fn hf;rw[hf]at hk;simp only[Nat.beq_eq]at h hk;omega
 ·cases h
theorem sc_known(w0:W0):Known w0 Tryz.prog 193 scF scT:=by
 intro call L args σ σ' r har h;have hs:=ar_size har (k:=2) (by kernel_rfl)
 obtain⟨u0,u1,ha⟩: ∃u0 u1,args.toList=[u0,u1]:=by
  match hl:args.toList,(show args.toList.length=2 by simpa using hs)with
  |[u0,u1],_=>exact⟨u0,u1,rfl⟩
 rw[ha]at h;obtain⟨S1,σ1,h1,h2⟩:=aCu h;obtain⟨x0,τ0,e0,h1⟩:=aS (o:=esO 6 0) rfl h1;obtain⟨rfl,s,k0⟩:=es_inv e0;obtain⟨x1,τ1,e1,h1⟩:=aS (o:=esO 7 1) rfl h1;obtain⟨rfl,t,k1⟩:=es_inv e1;have a0:u0= .string s:=k0;have a1:u1= .string t:=k1;subst a0 a1;obtain⟨x2,τ2,e2,h1⟩:=aS (o:=sbO 8 .eql) rfl h1;obtain⟨rfl,rfl⟩:=sbe_inv (s:=s) (t:=t) rfl rfl e2;obtain⟨x3,τ3,e3,h1⟩:=aS (o:=sbO 9 .lss) rfl h1;obtain⟨rfl,rfl⟩:=sbl_inv (s:=s) (t:=t) rfl rfl e3;obtain⟨rfl,rfl⟩:=lJ h1;generalize hS:Slots.store _ (sbO 9 .lss).dst (.bool (Op.bytesLess s.toList t.toList))=S at h2;have c8:ev S (.tmp 8)= .bool (s.toList==t.toList):=by subst hS;rfl
 have c9:ev S (.tmp 9)= .bool (Op.bytesLess s.toList t.toList):=by subst hS;rfl
 have fin: ∀v,v=Lib.compareBytes s.toList t.toList→fL Tryz.prog scF (bT Tryz.prog call L (scA v) S {σ with next:=σ.next+4})=some (r,σ')→
      args.toList.all aC=true∧(∃n,σ.next≤n∧σ'={σ with next:=n})∧∃r',(∀μ,VR μ r r')∧∀w,Kept w0.toWorld w→Calls Tryz.prog 193 args w fun e w'=>e= .returned r'∧Kept w w':=by
  rintro v hv h5;obtain⟨rfl,rfl⟩:=sc_end h5;refine⟨by rw[ha];rfl,⟨_,by show σ.next≤σ.next+_+_;omega,rfl⟩,_,fun μ=> .same _ rfl,fun w hK=>?_⟩
  have e:args= #[.string s,.string t]:=by rw[←Array.toArray_toList (xs:=args),ha]
  rw[e,hv];exact(Tryz.strings_Compare s t w).mono fun e w2 ⟨h1,h2⟩=>⟨by rw[h1,ByteArray.toList_eq,ByteArray.toList_eq],by rw[h2];exact Kept.refl _⟩
 have h3:=aD1 c8 h2;rw[uU]at fin;cases hq:(s.toList==t.toList)with
 |true=>rw[hq]at h3 fin;exact fin 0 rfl h3
 |false=>
  rw[hq]at h3 fin;have h4:=aD1 c9 h3;cases hl:Op.bytesLess s.toList t.toList with
  |true=>rw[hl]at h4 fin;exact fin (-1) rfl h4
  |false=>rw[hl]at h4 fin;exact fin 1 rfl h4
end Go.Rf
namespace Go.Rf
open Go.AI Go.Proofs Go.RowKit
theorem code_okM(h:cdM.funcs.toList.all (iH Tryz.prog)=true)(w0:W0):aEH w0 Tryz.prog cdM:=by
 intro g fn c h1 h2;have hk:iH Tryz.prog fn=true:=List.all_eq_true.1 h _ (List.mem_of_getElem? (show cdM.funcs.toList[g]?=some fn by simpa using h1))
 rcases nB h1 with⟨rfl,rfl⟩|h3
 ·right;have e:c=scT:=by
   have:some scT=some c:=h2;exact(Option.some.inj this).symm
  rw[e];exact aCs ⟨_,_,Tryz.func193,rfl,by kernel_rfl⟩ (sc_known w0)
 ·rcases nB h3 with⟨rfl,rfl⟩|h3
  ·cases h2
  rcases nB h3 with⟨rfl,rfl⟩|h4
  ·right;have e:c=aCe cmB:=by
    have:some (aCe cmB)=some c:=h2;exact(Option.some.inj this).symm
   rw[e];exact xR w0
  ·exact .inl ⟨h4,hk⟩
end Go.Rf
