import Derived.Test.YtojjcdpfjabepaaGreatDoorKo
import Derived.Test.YtojjcdpfjabepaaGreatDoorKp
set_option linter.unusedVariables false
set_option linter.unusedSimpArgs false
set_option linter.constructorNameAsVariable false
namespace Go.Rf
open Go.AI Go.Proofs
set_option maxRecDepth 100000
section
variable{call:FuncId→Array Value→St→Option (Value×St)}{L:Nat}{P:Program}
theorem aN{ops:Array Oper}{base i:Nat}{o:Oper}{rest:List Oper}{S S':Slots}{σ σ':St}(hg:o.guard=none)(h:cK P call ops base (o::rest) i S σ=some (S',σ')):
    ∃v σ1,aop P call base i o S σ=some (v,σ1)∧cK P call ops base rest (i+1) (S.store o.dst v) σ1=some (S',σ'):=by
 rw[cK,wanted,hg]at h;simp only[cdt]at h;split at h
 ·rename_i v σ1 h1;exact⟨v,σ1,h1,h⟩
 ·cases h
theorem hY{ops:Array Oper}{base i:Nat}{S S':Slots}{σ σ':St}(h:cK P call ops base [] i S σ=some (S',σ')):S'=S∧σ'=σ:=by
 simp only[cK,ojE,pjE]at h;exact⟨h.1.symm,h.2.symm⟩
theorem reg_inv{id:Nat}{ops:Array Oper}{d:Bool}{S S':Slots}{σ σ':St}{fl:Fl}(h:aS P call L (.region id ops d) S σ=some (fl,S',σ')):fl= .normal:=by
 simp only[aS,mjE,pjE]at h;obtain⟨x,_,h2,_⟩:=h;exact h2.symm
theorem qE{id:Nat}{ops:Array Oper}{S S':Slots}{σ σ':St}{fl:Fl}(h:aS P call L (.region id ops false) S σ=some (fl,S',σ')):cK P call ops σ.next ops.toList 0 S {σ with next:=σ.next+ops.size}=some (S',σ'):=by
 simp only[aS,mjE,pjE,dN,cdf]at h;obtain⟨⟨x,y⟩,h1,_,rfl,rfl⟩:=h;exact h1
theorem uR{a b:Code}{S S':Slots}{σ σ':St}{fl:Fl}(h:aS P call L (.seq a b) S σ=some (fl,S',σ')):
    (∃S1 σ1,aS P call L a S σ=some (.normal,S1,σ1)∧aS P call L b S1 σ1=some (fl,S',σ'))∨(fl≠ .normal∧aS P call L a S σ=some (fl,S',σ')):=by
 rw[aS]at h;split at h
 ·rename_i S1 σ1 h1;exact .inl ⟨S1,σ1,h1,h⟩
 ·rename_i hne;refine .inr ⟨?_,h⟩;rintro rfl;exact hne S' σ' h
theorem gY{id:Nat}{ops:Array Oper}{d:Bool}{b:Code}{S S':Slots}{σ σ':St}{fl:Fl}(h:aS P call L (.seq (.region id ops d) b) S σ=some (fl,S',σ')):
    ∃S1 σ1,aS P call L (.region id ops d) S σ=some (.normal,S1,σ1)∧aS P call L b S1 σ1=some (fl,S',σ'):=by
 rcases uR h with h|⟨h1,h2⟩
 ·exact h
 ·exact absurd (reg_inv h2) h1
theorem iJ{x:Operand}{a b:Code}{S S':Slots}{σ σ':St}{fl:Fl}{q:Bool}(hq:ev S x= .bool q)(h:aS P call L (.cond x a b) S σ=some (fl,S',σ')):aS P call L (bif q then a else b) S σ=some (fl,S',σ'):=by
 rw[aS,hq]at h;cases q<;>exact h
theorem tM{S:Slots}{σ σ':St}{b i d k c:Nat}{x:Value}(hc:c<3)(h:aop Tryz.prog call b i (iaO d k (c:Int)) S σ=some (x,σ')):σ'=σ∧∃id off,S.at k= .pointer (some ⟨id,off,none⟩)∧x= .pointer (some ⟨id,off+c,none⟩):=by
 have e1:aop Tryz.prog call b i (iaO d k (c:Int)) S σ=(fL Tryz.prog σ (ev S) (iaO d k (c:Int))).map fun v=>(v,σ):=by kernel_rfl
 have e2:fQ Tryz.prog (ev S) (iaO d k (c:Int))=cO Tryz.prog 148 (S.at k) (.int .i64 (c:Int)):=by kernel_rfl
 rw[e1]at h;unfold fL at h;rw[e2]at h;have key: ∀v,cO Tryz.prog 148 v (.int .i64 (c:Int))=some x→∃id off,v= .pointer (some ⟨id,off,none⟩)∧x= .pointer (some ⟨id,off+c,none⟩):=fun v hv=>by
  unfold cO at hv;rw[Tryz.underlying148]at hv;simp only at hv;split at hv
  ·rename_i id off;rw[(by kernel_rfl:jD Tryz.prog 3=some 1)]at hv
   simp only at hv;cases hr:aZ (c:Int) 3 with
   |false=>rw[hr]at hv;cases hv
   |true=>
    rw[hr]at hv;simp only[cdt,ojE]at hv;exact⟨id,off,rfl,by rw[←hv];simp⟩
  ·cases hv
 cases hx:cO Tryz.prog 148 (S.at k) (.int .i64 (c:Int))with
 |none=>rw[hx]at h;simp only[iaO,mkO]at h;cases h
 |some y=>
  rw[hx]at h;simp only[omS,ojE,pjE]at h;obtain⟨rfl,rfl⟩:=h;exact⟨rfl,key _ hx⟩
theorem tK{S:Slots}{σ σ':St}{b i d k:Nat}{x:Value}(h:aop Tryz.prog call b i (ldO d k) S σ=some (x,σ')):σ'=σ∧∃id off cs m,S.at k= .pointer (some ⟨id,off,none⟩)∧σ.row id=some (cs,m)∧cs[off]?=some x:=by
 have e1:aop Tryz.prog call b i (ldO d k) S σ=(fD Tryz.prog σ 3 (S.at k)).map fun v=>(v,σ):=by kernel_rfl
 rw[e1]at h;simp only[mjE,pjE]at h;obtain⟨y,hy,rfl,rfl⟩:=h;refine⟨rfl,?_⟩;generalize S.at k=v at hy;unfold fD at hy;split at hy
 ·rename_i id off;split at hy
  ·rename_i cs m hr;rw[(by kernel_rfl:jA Tryz.prog 3=some false)]at hy
   exact⟨id,off,cs,m,rfl,hr,hy⟩
  ·cases hy
 ·cases hy
theorem int_no: ∀e,Tryz.prog.underlying 3≠some (.slice e):=fun e h=>by rw[Tryz.underlying3]at h;cases h
theorem aCm{S:Slots}{σ:St}{b i d k:Nat}{op:BinOp}{y:Operand}(ho:aP (mkO (some d) (.binOp op 3 (.tmp k) y 3) 4)= .pure):
    aop Tryz.prog call b i (mkO (some d) (.binOp op 3 (.tmp k) y 3) 4) S σ=
    (bif aH (S.at k)&&aH (ev S y)then aL Tryz.prog (do eqGuard op 3 (.tmp k) y (S.at k) (ev S y);binOp op 3 (S.at k) (ev S y))else none).map fun v=>(v,σ):=by
 have h2:fQ Tryz.prog (ev S) (mkO (some d) (.binOp op 3 (.tmp k) y 3) 4)=(bif aH (S.at k)&&aH (ev S y)then aL Tryz.prog (do eqGuard op 3 (.tmp k) y (S.at k) (ev S y);binOp op 3 (S.at k) (ev S y))
  else match Tryz.prog.underlying 3 with
   |some (.slice _)=>anil op (S.at k) (ev S y)
   |_=>none):=by rfl
 have h1:aop Tryz.prog call b i (mkO (some d) (.binOp op 3 (.tmp k) y 3) 4) S σ=(fL Tryz.prog σ (ev S) (mkO (some d) (.binOp op 3 (.tmp k) y 3) 4)).map fun v=>(v,σ):=by
  unfold aop;rw[ho]
 rw[h1];congr 1;unfold fL;rw[h2];cases aH (S.at k)&&aH (ev S y)with
 |true=>
  simp only[cdt];split
  ·rename_i v h;exact h.symm
  ·rename_i h;rw[h];rfl
 |false=>
  simp only[cdf];have:(match Tryz.prog.underlying 3 with
   |some (.slice _)=>anil op (S.at k) (ev S y)
   |_=>none)=none:=by
   split
   ·rename_i e h;exact absurd h (int_no e)
   ·rfl
  first|rfl|(rw[this];rfl)
theorem aHG{S:Slots}{σ σ':St}{b i d k:Nat}{x:Value}(h:aop Tryz.prog call b i (ezO d k) S σ=some (x,σ')):σ'=σ∧∃a,S.at k= .int .i64 a:=by
 rw[ezO,aCm rfl,show ev S (.const (.int .i64 0))= .int .i64 0 from rfl]at h
 generalize S.at k=u at h⊢;cases hp:aH u with
 |false=>rw[hp]at h;cases h
 |true=>
  rw[hp,show aH (Value.int .i64 0)=true from rfl,Bool.and_self,cdt]at h
  cases u with
  |int kd n=>
   cases kd with
   |i64=>
    have e2:aL Tryz.prog (do eqGuard .eql 3 (.tmp k) (.const (.int .i64 0)) (.int .i64 n) (.int .i64 0);binOp .eql 3 (.int .i64 n) (.int .i64 0))=some (.bool (n==0)):=by kernel_rfl
    rw[e2]at h;simp only[omS,ojE,pjE]at h;exact⟨h.2.symm,n,rfl⟩
   |_=>exact absurd ((by kernel_rfl:none=_).trans h) (fun e=>by cases e)
  |pointer a=>cases a with
   |none=>exact absurd ((by kernel_rfl:none=_).trans h) (fun e=>by cases e)
   |some v=>simp[aH,aB]at hp
  |_=>exact absurd ((by kernel_rfl:none=_).trans h) (fun e=>by cases e)
theorem aDD{S:Slots}{σ σ':St}{b i d k j:Nat}{x:Value}{a:Int}(ha:S.at k= .int .i64 a)(h:aop Tryz.prog call b i (ltO d k j) S σ=some (x,σ')):σ'=σ∧∃c,S.at j= .int .i64 c∧x= .bool (decide (a<c)):=by
 rw[ltO,aCm rfl,ha,show ev S (.tmp j)=S.at j from rfl]at h
 generalize S.at j=u at h⊢;cases hp:aH u with
 |false=>rw[hp,Bool.and_false]at h;cases h
 |true=>
  rw[hp,show aH (Value.int .i64 a)=true from rfl,Bool.and_self,cdt]at h
  cases u with
  |int kd n=>
   cases kd with
   |i64=>
    have e2:aL Tryz.prog (do eqGuard .lss 3 (.tmp k) (.tmp j) (.int .i64 a) (.int .i64 n);binOp .lss 3 (.int .i64 a) (.int .i64 n))=some (.bool (decide (a<n))):=by kernel_rfl
    rw[e2]at h;simp only[omS,ojE,pjE]at h;exact⟨h.2.symm,n,rfl,h.1.symm⟩
   |_=>exact absurd ((by kernel_rfl:none=_).trans h) (fun e=>by cases e)
  |pointer v=>cases v with
   |none=>exact absurd ((by kernel_rfl:none=_).trans h) (fun e=>by cases e)
   |some v=>simp[aH,aB]at hp
  |_=>exact absurd ((by kernel_rfl:none=_).trans h) (fun e=>by cases e)
theorem aHs{S:Slots}{σ σ':St}{b i d k j:Nat}{x:Value}{a c:Int}(ha:S.at k= .int .i64 a)(hc:S.at j= .int .i64 c)(h:aop Tryz.prog call b i (ltO d k j) S σ=some (x,σ')):σ'=σ∧x= .bool (decide (a<c)):=by
 obtain⟨h1,c',h2,h3⟩:=aDD ha h;rw[hc]at h2;cases h2;exact⟨h1,h3⟩
theorem as_inv{S S':Slots}{σ σ':St}{fl:Fl}{v:Int}(h:aS Tryz.prog call L (asC v) S σ=some (fl,S',σ')):fl= .normal∧S'=S.store (some 7) (.int .i64 v)∧σ'={σ with next:=σ.next+1}:=by
 have e:aS Tryz.prog call L (asC v) S σ=some (.normal,S.store (some 7) (.int .i64 v),{σ with next:=σ.next+1}):=by kernel_rfl
 rw[e]at h;simp only[ojE,pjE]at h;exact⟨h.1.symm,h.2.1.symm,h.2.2.symm⟩
end
end Go.Rf
