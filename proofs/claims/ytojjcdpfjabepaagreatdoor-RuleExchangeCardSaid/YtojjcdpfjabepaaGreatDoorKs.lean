import Derived.Test.YtojjcdpfjabepaaGreatDoorKq
import Derived.Test.YtojjcdpfjabepaaGreatDoorKr
import Derived.Test.YtojjcdpfjabepaaGreatDoorKo
import Derived.Test.YtojjcdpfjabepaaGreatDoorKn
set_option linter.unusedVariables false
set_option linter.unusedSimpArgs false
set_option linter.constructorNameAsVariable false
namespace Go.Rf
open Go.AI Go.Proofs
set_option maxRecDepth 100000
section
variable{call:FuncId→Array Value→St→Option (Value×St)}{L:Nat}
theorem str_no: ∀e,Tryz.prog.underlying 9≠some (.slice e):=fun e h=>by rw[Tryz.underlying9]at h;cases h
theorem pW{S:Slots}{σ:St}{b i d k:Nat}{op:BinOp}{y:Operand}(ho:aP (mkO (some d) (.binOp op 9 (.tmp k) y 9) 4)= .pure):
    aop Tryz.prog call b i (mkO (some d) (.binOp op 9 (.tmp k) y 9) 4) S σ=
    (bif aH (S.at k)&&aH (ev S y)then aL Tryz.prog (do eqGuard op 9 (.tmp k) y (S.at k) (ev S y);binOp op 9 (S.at k) (ev S y))else none).map fun v=>(v,σ):=by
 have h2:fQ Tryz.prog (ev S) (mkO (some d) (.binOp op 9 (.tmp k) y 9) 4)=(bif aH (S.at k)&&aH (ev S y)then aL Tryz.prog (do eqGuard op 9 (.tmp k) y (S.at k) (ev S y);binOp op 9 (S.at k) (ev S y))
  else match Tryz.prog.underlying 9 with
   |some (.slice _)=>anil op (S.at k) (ev S y)
   |_=>none):=by rfl
 have h1:aop Tryz.prog call b i (mkO (some d) (.binOp op 9 (.tmp k) y 9) 4) S σ=(fL Tryz.prog σ (ev S) (mkO (some d) (.binOp op 9 (.tmp k) y 9) 4)).map fun v=>(v,σ):=by
  unfold aop;rw[ho]
 rw[h1];congr 1;unfold fL;rw[h2];cases aH (S.at k)&&aH (ev S y)with
 |true=>
  simp only[cdt];split
  ·rename_i v h;exact h.symm
  ·rename_i h;rw[h];rfl
 |false=>
  simp only[cdf];have:(match Tryz.prog.underlying 9 with
   |some (.slice _)=>anil op (S.at k) (ev S y)
   |_=>none)=none:=by
   split
   ·rename_i e h;exact absurd h (str_no e)
   ·rfl
  first|rfl|(rw[this];rfl)
theorem es_inv{S:Slots}{σ σ':St}{b i d k:Nat}{x:Value}(h:aop Tryz.prog call b i (esO d k) S σ=some (x,σ')):σ'=σ∧∃a,S.at k= .string a:=by
 rw[esO,pW rfl,show ev S (.const (.string ⟨#[]⟩))= .string ⟨#[]⟩ from rfl]at h
 generalize S.at k=u at h⊢;cases hp:aH u with
 |false=>rw[hp]at h;cases h
 |true=>
  rw[hp,show aH (Value.string ⟨#[]⟩)=true from rfl,Bool.and_self,cdt]at h
  cases u with
  |string s=>
   have e2:aL Tryz.prog (do eqGuard .eql 9 (.tmp k) (.const (.string ⟨#[]⟩)) (.string s) (.string ⟨#[]⟩);binOp .eql 9 (.string s) (.string ⟨#[]⟩))=some (.bool (s.toList==(⟨#[]⟩:ByteArray).toList)):=by kernel_rfl
   rw[e2]at h;simp only[omS,ojE,pjE]at h;exact⟨h.2.symm,s,rfl⟩
  |_=>exact absurd ((by kernel_rfl:none=_).trans h) (fun e=>by cases e)
theorem sbe_inv{S:Slots}{σ σ':St}{b i d:Nat}{x:Value}{s t:ByteArray}(hs:S.at 0= .string s)(ht:S.at 1= .string t)(h:aop Tryz.prog call b i (sbO d .eql) S σ=some (x,σ')):σ'=σ∧x= .bool (s.toList==t.toList):=by
 rw[sbO,pW rfl,hs,show ev S (.tmp 1)=S.at 1 from rfl,ht,show(aH (.string s)&&aH (.string t))=true from rfl,cdt,e_eql]at h
 simp only[omS,ojE,pjE]at h;exact⟨h.2.symm,h.1.symm⟩
theorem sbl_inv{S:Slots}{σ σ':St}{b i d:Nat}{x:Value}{s t:ByteArray}(hs:S.at 0= .string s)(ht:S.at 1= .string t)(h:aop Tryz.prog call b i (sbO d .lss) S σ=some (x,σ')):σ'=σ∧x= .bool (Op.bytesLess s.toList t.toList):=by
 rw[sbO,pW rfl,hs,show ev S (.tmp 1)=S.at 1 from rfl,ht,show(aH (.string s)&&aH (.string t))=true from rfl,cdt,e_lss]at h
 simp only[omS,ojE,pjE]at h;exact⟨h.2.symm,h.1.symm⟩
theorem sc_end{S:Slots}{σ σ':St}{r:Value}{v:Int}(h:bT Tryz.prog scF (aS Tryz.prog call L (scA v) S σ)=some (r,σ')):r= .int .i64 v∧σ'={σ with next:=σ.next+1}:=by
 have e:bT Tryz.prog scF (aS Tryz.prog call L (scA v) S σ)=some ((S.store (some 4) (.int .i64 v)).at 4,{σ with next:=σ.next+1}):=by kernel_rfl
 rw[e,Go.Rf.at_store,if_pos rfl]at h;simp only[ojE,pjE]at h;exact⟨h.1.symm,h.2.symm⟩
theorem lZ{P:Program}{id:Nat}{ops:Array Oper}{S:Slots}{σ:St}{r:Value}{σ':St}{rest:Code}{fn:Func}(h:bT P fn (aS P call L (.seq (.region id ops false) rest) S σ)=some (r,σ')):
    ∃S1 σ1,cK P call ops σ.next ops.toList 0 S {σ with next:=σ.next+ops.size}=some (S1,σ1)∧bT P fn (aS P call L rest S1 σ1)=some (r,σ'):=by
 cases hx:aS P call L (.seq (.region id ops false) rest) S σ with
 |none=>rw[hx]at h;cases h
 |some x=>
  obtain⟨fl,S',σ1⟩:=x;obtain⟨S2,σ2,h1,h2⟩:=gY hx;rw[hx]at h;exact⟨S2,σ2,qE h1,by rw[h2];exact h⟩
theorem rM{P:Program}{fn:Func}{x:Operand}{a b:Code}{S:Slots}{σ σ':St}{r:Value}{q:Bool}(hq:ev S x= .bool q)(h:bT P fn (aS P call L (.cond x a b) S σ)=some (r,σ')):bT P fn (aS P call L (bif q then a else b) S σ)=some (r,σ'):=by
 rw[aS,hq]at h;cases q<;>exact h
end
theorem aCo{a:Array Value}{P:Program}{f:FuncId}(h:aCp P f a.size=true){k:Nat}(hk:aCp P f k=true):a.size=k:=by
 unfold aCp at h hk;split at h
 ·rename_i fn hf;rw[hf]at hk;simp only[Nat.beq_eq]at h hk;omega
 ·cases h
theorem sc_known(w0:W0):aFE w0 Tryz.prog 193 scF scT:=by
 intro call L args σ σ' r har h;have hs:=aCo har (k:=2) (by kernel_rfl)
 obtain⟨u0,u1,ha⟩: ∃u0 u1,args.toList=[u0,u1]:=by
  match hl:args.toList,(show args.toList.length=2 by simpa using hs)with
  |[u0,u1],_=>exact⟨u0,u1,rfl⟩
 rw[ha]at h;obtain⟨S1,σ1,h1,h2⟩:=lZ h;obtain⟨x0,τ0,e0,h1⟩:=aN (o:=esO 6 0) rfl h1;obtain⟨rfl,s,k0⟩:=es_inv e0;obtain⟨x1,τ1,e1,h1⟩:=aN (o:=esO 7 1) rfl h1;obtain⟨rfl,t,k1⟩:=es_inv e1;have a0:u0= .string s:=k0;have a1:u1= .string t:=k1;subst a0 a1;obtain⟨x2,τ2,e2,h1⟩:=aN (o:=sbO 8 .eql) rfl h1;obtain⟨rfl,rfl⟩:=sbe_inv (s:=s) (t:=t) rfl rfl e2;obtain⟨x3,τ3,e3,h1⟩:=aN (o:=sbO 9 .lss) rfl h1;obtain⟨rfl,rfl⟩:=sbl_inv (s:=s) (t:=t) rfl rfl e3;obtain⟨rfl,rfl⟩:=hY h1;generalize hS:Slots.store _ (sbO 9 .lss).dst (.bool (Op.bytesLess s.toList t.toList))=S at h2;have c8:ev S (.tmp 8)= .bool (s.toList==t.toList):=by subst hS;rfl
 have c9:ev S (.tmp 9)= .bool (Op.bytesLess s.toList t.toList):=by subst hS;rfl
 have fin: ∀v,v=Lib.compareBytes s.toList t.toList→bT Tryz.prog scF (aS Tryz.prog call L (scA v) S {σ with next:=σ.next+4})=some (r,σ')→
      args.toList.all aB=true∧(∃n,σ.next≤n∧σ'={σ with next:=n})∧∃r',(∀μ,VR μ r r')∧∀w,Kept w0.toWorld w→Calls Tryz.prog 193 args w fun e w'=>e= .returned r'∧Kept w w':=by
  rintro v hv h5;obtain⟨rfl,rfl⟩:=sc_end h5;refine⟨by rw[ha];rfl,⟨_,by show σ.next≤σ.next+_+_;omega,rfl⟩,_,fun μ=> .same _ rfl,fun w hK=>?_⟩
  have e:args= #[.string s,.string t]:=by rw[←Array.toArray_toList (xs:=args),ha]
  rw[e,hv];exact(Tryz.strings_Compare s t w).mono fun e w2 ⟨h1,h2⟩=>⟨by rw[h1,ByteArray.toList_eq,ByteArray.toList_eq],by rw[h2];exact Kept.refl _⟩
 have h3:=rM c8 h2;rw[zV]at fin;cases hq:(s.toList==t.toList)with
 |true=>rw[hq]at h3 fin;exact fin 0 rfl h3
 |false=>
  rw[hq]at h3 fin;have h4:=rM c9 h3;cases hl:Op.bytesLess s.toList t.toList with
  |true=>rw[hl]at h4 fin;exact fin (-1) rfl h4
  |false=>rw[hl]at h4 fin;exact fin 1 rfl h4
end Go.Rf
namespace Go.Rf
open Go.AI Go.Proofs
set_option maxRecDepth 100000
def sV(l:List UInt8):Value:= .string ⟨l.toArray⟩
def eqT(d k:Nat)(l:List UInt8):Oper:=mkO (some d) (.binOp .eql 9 (.tmp k) (.const (sV l)) 9) 4
def eqN(d k:Nat)(c:Int):Oper:=mkO (some d) (.binOp .eql 3 (.tmp k) (.const (.int .i64 c)) 3) 4
def mvT(d:Nat)(v:Value)(t:TypeId):Oper:=mkO (some d) (.move (.const v)) t
def tbC{β:Type}(d k:Nat)(fin:β→Code):List (List UInt8×β)→Code
 |[]=> .exit 999
 |(l,b)::r=> .seq (.region 0 #[eqT d k l] false) (.cond (.tmp d) (fin b) (tbC d k fin r))
abbrev Tb:=List (List UInt8×Value)
def tb1(d r1 r2:Nat)(B:Int)(t e:TypeId)(T:Tb):Code:=
 .seq (.region 0 #[eqN d 1 10,eqN (d+1) 2 B,mvT r2 .nilIface e] false) (.cond (.tmp d) (.cond (.tmp (d+1)) (tbC (d+2) 0 (fun v=> .seq (.region 1 #[mvT r1 v t] false) .ret) T) (.exit 999)) (.exit 999))
def tb2(d r1:Nat)(t:TypeId)(T:List (List UInt8×Tb)):Code:=tbC d 0 (fun T2=>tbC d 1 (fun v=> .seq (.region 1 #[mvT r1 v t] false) .ret) T2) T
section
variable{call:FuncId→Array Value→St→Option (Value×St)}{L:Nat}
theorem eqT_inv{S:Slots}{σ σ':St}{b i d k:Nat}{c:List UInt8}{x:Value}(h:aop Tryz.prog call b i (eqT d k c) S σ=some (x,σ')): ∃q:Bool,x= .bool q∧(q=true→S.at k=sV c)∧σ'=σ:=by
 rw[eqT,pW rfl,show ev S (.const (sV c))=sV c from rfl]at h
 generalize S.at k=u at h⊢;cases hp:aH u with
 |false=>rw[hp]at h;cases h
 |true=>
  rw[hp,show aH (sV c)=true from rfl,Bool.and_self,cdt]at h
  cases u with
  |string s=>
   have e2:aL Tryz.prog (do eqGuard .eql 9 (.tmp k) (.const (sV c)) (.string s) (sV c);binOp .eql 9 (.string s) (sV c))=some (.bool (s.toList==(⟨c.toArray⟩:ByteArray).toList)):=by kernel_rfl
   rw[e2]at h;simp only[omS,ojE,pjE]at h;refine⟨_,h.1.symm,fun hq=>?_,h.2.symm⟩
   have:s=⟨c.toArray⟩:=by
    cases s with|mk d=>
    have:d.toList=c:=by simpa [ByteArray.toList_eq]using hq
    rw[←this,Array.toArray_toList]
   rw[this];rfl
  |_=>exact absurd ((by kernel_rfl:none=_).trans h) (fun e=>by cases e)
theorem aHJ{S:Slots}{σ σ':St}{b i d k:Nat}{c:Int}{x:Value}(h:aop Tryz.prog call b i (eqN d k c) S σ=some (x,σ')): ∃q:Bool,x= .bool q∧(q=true→S.at k= .int .i64 c)∧σ'=σ:=by
 rw[eqN,aCm rfl,show ev S (.const (.int .i64 c))= .int .i64 c from rfl]at h
 generalize S.at k=u at h⊢;cases hp:aH u with
 |false=>rw[hp]at h;cases h
 |true=>
  rw[hp,show aH (Value.int .i64 c)=true from rfl,Bool.and_self,cdt]at h
  cases u with
  |int kd n=>
   cases kd with
   |i64=>
    have e2:aL Tryz.prog (do eqGuard .eql 3 (.tmp k) (.const (.int .i64 c)) (.int .i64 n) (.int .i64 c);binOp .eql 3 (.int .i64 n) (.int .i64 c))=some (.bool (n==c)):=by kernel_rfl
    rw[e2]at h;simp only[omS,ojE,pjE]at h;refine⟨_,h.1.symm,fun hq=>?_,h.2.symm⟩
    rw[beq_iff_eq]at hq;rw[hq]
   |_=>exact absurd ((by kernel_rfl:none=_).trans h) (fun e=>by cases e)
  |pointer a=>cases a with
   |none=>exact absurd ((by kernel_rfl:none=_).trans h) (fun e=>by cases e)
   |some v=>simp[aH,aB]at hp
  |_=>exact absurd ((by kernel_rfl:none=_).trans h) (fun e=>by cases e)
theorem aHe{S:Slots}{σ σ':St}{b i d:Nat}{t:TypeId}{c x:Value}(h:aop Tryz.prog call b i (mvT d c t) S σ=some (x,σ')):x=c∧σ'=σ:=by
 have e2:aop Tryz.prog call b i (mvT d c t) S σ=some (c,σ):=by kernel_rfl
 rw[e2]at h;simp only[ojE,pjE]at h;exact⟨h.1.symm,h.2.symm⟩
theorem aBo{P:Program}{fn:Func}{S:Slots}{σ σ':St}{r:Value}{k:Nat}(h:bT P fn (aS P call L (.exit k) S σ)=some (r,σ')):False:=by
 rw[aS,bT]at h;cases h
theorem aCL{β:Type}{d k:Nat}{fin:β→Code}{fn:Func}(hdk: ¬k=d): ∀{T:List (List UInt8×β)} {S:Slots} {σ σ':St} {r:Value},bT Tryz.prog fn (aS Tryz.prog call L (tbC d k fin T) S σ)=some (r,σ')→
    ∃x∈T,∃S1 n,S.at k=sV x.1∧(∀j,¬j=d→S1.at j=S.at j)∧σ.next≤n∧bT Tryz.prog fn (aS Tryz.prog call L (fin x.2) S1 {σ with next:=n})=some (r,σ')
 |[],_,_,_,_,h=>(aBo h).elim
 |(l,b)::T,S,σ,σ',r,h=>by
  obtain⟨S1,σ1,h1,h2⟩:=lZ h;obtain⟨x0,τ0,e0,h1⟩:=aN (o:=eqT d k l) rfl h1;obtain⟨q,rfl,hq,rfl⟩:=eqT_inv e0;obtain⟨rfl,rfl⟩:=hY h1;have hs: ∀j,¬j=d→Slots.at (S.store (some d) (.bool q)) j=S.at j:=fun j hj=>by rw[Go.Rf.at_store,if_neg hj]
  have hv:ev (S.store (eqT d k l).dst (.bool q)) (.tmp d)= .bool q:=by
   show Slots.at (S.store (some d) (.bool q)) d= .bool q;rw[Go.Rf.at_store,if_pos rfl]
  have h3:=rM hv h2;cases q with
  |true=>exact⟨_,mhE ..,_,_,hq rfl,hs,Nat.le_add_right _ _,h3⟩
  |false=>
   obtain⟨x,hx,S2,n,a,b2,c,e⟩:=aCL hdk h3;exact⟨x,mtE _ hx,S2,n,(hs k hdk).symm.trans a,fun j hj=>(b2 j hj).trans (hs j hj),Nat.le_trans (Nat.le_add_right _ _) c,e⟩
theorem aHE{fn:Func}{r1:Nat}{v:Value}{t:TypeId}{S:Slots}{σ σ':St}{r:Value}(h:bT Tryz.prog fn (aS Tryz.prog call L (.seq (.region 1 #[mvT r1 v t] false) .ret) S σ)=some (r,σ')):
    bT Tryz.prog fn (aS Tryz.prog call L .ret (S.store (some r1) v) {σ with next:=σ.next+1})=some (r,σ'):=by
 obtain⟨S1,σ1,h1,h2⟩:=lZ h;obtain⟨x0,τ0,e0,h1⟩:=aN (o:=mvT r1 v t) rfl h1;obtain⟨rfl,rfl⟩:=aHe e0;obtain⟨rfl,rfl⟩:=hY h1;exact h2
end
theorem wY{w0:W0}{f:FuncId}{fn:Func}{d r1:Nat}{t:TypeId}{T:List (List UInt8×Tb)}(har:aCp Tryz.prog f 2=true)(h0: ¬0=d)(h1: ¬1=d)
    (hend: ∀(call:FuncId→Array Value→St→Option (Value×St)) L S σ,bT Tryz.prog fn (aS Tryz.prog call L .ret S σ)=some (S.at r1,σ)) (hp: ∀x∈T,∀y∈x.2,aB y.2=true)
    (hc: ∀x∈T,∀y∈x.2,∀w,Kept w0.toWorld w→Calls Tryz.prog f #[sV x.1,sV y.1] w fun e w'=>e= .returned y.2∧Kept w w'):aFE w0 Tryz.prog f fn (tb2 d r1 t T):=by
 intro call L args σ σ' r har2 h;have hs:=aCo har2 har;obtain⟨u0,u1,ha⟩: ∃u0 u1,args.toList=[u0,u1]:=by
  match hl:args.toList,(show args.toList.length=2 by simpa using hs)with
  |[u0,u1],_=>exact⟨u0,u1,rfl⟩
 rw[ha]at h;obtain⟨x,hx,S1,n,a1,a2,a3,h2⟩:=aCL h0 h;obtain⟨y,hy,S2,m,b1,b2,b3,h3⟩:=aCL h1 h2;have h4:=aHE h3;rw[hend,Go.Rf.at_store,if_pos rfl]at h4;simp only[ojE,pjE]at h4;obtain⟨rfl,rfl⟩:=h4;have e0:u0=sV x.1:=a1;have e1:u1=sV y.1:=(a2 1 h1).symm.trans b1;subst e0 e1;refine⟨by rw[ha];rfl,⟨_,?_,rfl⟩,_,fun μ=> .same _ (hp x hx y hy),fun w hK=>?_⟩
 ·have:n≤m:=b3;show σ.next≤m+1
  omega
 have e:args= #[sV x.1,sV y.1]:=by rw[←Array.toArray_toList (xs:=args),ha]
 rw[e];exact hc x hx y hy w hK
theorem wZ{w0:W0}{f:FuncId}{fn:Func}{d r1 r2:Nat}{B:Int}{t e:TypeId}{T:Tb}(har:aCp Tryz.prog f 3=true)(hd:2<d)(h12: ¬r2=r1)(hr2: ¬0=r2)(hr3: ¬r2=d)(hr4: ¬r2=d+1)(hr5: ¬d=r2)(hr6: ¬d+1=r2)(hr7: ¬r2=d+2)
    (hend: ∀(call:FuncId→Array Value→St→Option (Value×St)) L S σ,bT Tryz.prog fn (aS Tryz.prog call L .ret S σ)=some (.tuple #[S.at r1,S.at r2],σ)) (hp: ∀x∈T,aB x.2=true)
    (hc: ∀x∈T,∀w,Kept w0.toWorld w→Calls Tryz.prog f #[sV x.1,.int .i64 10,.int .i64 B] w fun e w'=>e= .returned (.tuple #[x.2,.nilIface])∧Kept w w'):aFE w0 Tryz.prog f fn (tb1 d r1 r2 B t e T):=by
 intro call L args σ σ' r har2 h;have hs:=aCo har2 har;obtain⟨u0,u1,u2,ha⟩: ∃u0 u1 u2,args.toList=[u0,u1,u2]:=by
  match hl:args.toList,(show args.toList.length=3 by simpa using hs)with
  |[u0,u1,u2],_=>exact⟨u0,u1,u2,rfl⟩
 rw[ha]at h;obtain⟨S1,σ1,h1,h2⟩:=lZ h;obtain⟨x0,τ0,e0,h1⟩:=aN (o:=eqN d 1 10) rfl h1;obtain⟨q0,rfl,k0,rfl⟩:=aHJ e0;obtain⟨x1,τ1,e1,h1⟩:=aN (o:=eqN (d+1) 2 B) rfl h1;obtain⟨q1,rfl,k1,rfl⟩:=aHJ e1;obtain⟨x2,τ2,e2,h1⟩:=aN (o:=mvT r2 .nilIface e) rfl h1;obtain⟨rfl,rfl⟩:=aHe e2;obtain⟨rfl,rfl⟩:=hY h1;generalize hS:Slots.store _ (mvT r2 .nilIface e).dst .nilIface=S at h2;have c0:ev S (.tmp d)= .bool q0:=by
  subst hS;show Slots.at (Slots.store (Slots.store (Slots.store _ (some d) _) (some (d+1)) _) (some r2) _) d=_;rw[Go.Rf.at_store,if_neg hr5,Go.Rf.at_store,if_neg (by omega),Go.Rf.at_store,if_pos rfl]
 have c1:ev S (.tmp (d+1))= .bool q1:=by
  subst hS;show Slots.at (Slots.store (Slots.store (Slots.store _ (some d) _) (some (d+1)) _) (some r2) _) (d+1)=_;rw[Go.Rf.at_store,if_neg hr6,Go.Rf.at_store,if_pos rfl]
 have c2:S.at r2= .nilIface:=by
  subst hS;show Slots.at (Slots.store (Slots.store (Slots.store _ (some d) _) (some (d+1)) _) (some r2) _) r2=_;rw[Go.Rf.at_store,if_pos rfl]
 have c3:S.at 0=u0:=by
  subst hS;show Slots.at (Slots.store (Slots.store (Slots.store _ (some d) _) (some (d+1)) _) (some r2) _) 0=_;rw[Go.Rf.at_store,if_neg hr2,Go.Rf.at_store,if_neg (by omega),Go.Rf.at_store,if_neg (by omega)]
  rfl
 have k0':q0=true→u1= .int .i64 10:=k0;have k1':q1=true→u2= .int .i64 B:=fun h=>by
  have h8:Slots.at (Slots.store (gF [u0,u1,u2] 0 .nil) (some d) (.bool q0)) 2= .int .i64 B:=k1 h;rw[Go.Rf.at_store,if_neg (by omega)]at h8
  exact h8
 have h3:=rM c0 h2;cases q0 with
 |false=>exact(aBo h3).elim
 |true=>
 have h4:=rM c1 h3;cases q1 with
 |false=>exact(aBo h4).elim
 |true=>
 obtain⟨x,hx,S2,m,b1,b2,b3,h5⟩:=aCL (by omega) h4
 have h6:=aHE h5;rw[hend,Go.Rf.at_store,if_pos rfl,Go.Rf.at_store,if_neg h12,b2 r2 hr7,c2]at h6;simp only[ojE,pjE]at h6;obtain⟨rfl,rfl⟩:=h6;have a0:u0=sV x.1:=c3.symm.trans b1;have a1:=k0' rfl;have a2:=k1' rfl;subst a0 a1 a2;refine⟨by rw[ha];rfl,⟨_,?_,rfl⟩,_,fun μ=> .mkTuple (xs:=[x.2,.nilIface]) (.same (by simp[hp x hx];rfl)),fun w hK=>?_⟩
 ·have:σ.next+3≤m:=b3
  show σ.next≤m+1
  omega
 have e:args= #[sV x.1,.int .i64 10,.int .i64 B]:=by rw[←Array.toArray_toList (xs:=args),ha]
 rw[e];exact hc x hx w hK
end Go.Rf
namespace Go.Rf
open Go.AI Go.Proofs
set_option maxRecDepth 100000
def uiT:Tb:=[([48],.int .u64 0),([49],.int .u64 1),([50],.int .u64 2),([51],.int .u64 3),([52],.int .u64 4),([53],.int .u64 5),([54],.int .u64 6),([57],.int .u64 9),([49,48],.int .u64 10)]
def inT:Tb:=[([45,53],.int .i64 (-5)),([45,51],.int .i64 (-3)),([45,50],.int .i64 (-2)),([45,49],.int .i64 (-1)),([48],.int .i64 0),([49],.int .i64 1),([50],.int .i64 2),([51],.int .i64 3)]
def muT:List (List UInt8×Tb):=[([45,53],[([49],sV [45,53]),([50],sV [45,49,48])]),([45,51],[([50],sV [45,54]),([51],sV [45,57])]),([45,50],[([50],sV [45,52]),([51],sV [45,54])]),([45,49],[([50],sV [45,50]),([51],sV [45,51])]),([48],[([50],sV [48]),([51],sV [48])]),([49],[([49],sV [49]),([50],sV [50]),([51],sV [51])]),([50],[([50],sV [52]),([51],sV [54])]),([51],[([50],sV [54]),([51],sV [57])])]
def coT:List (List UInt8×Tb):=[([45,49,48],[([51],.int .i64 (-1))]),([45,57],[([45,53],.int .i64 (-1))]),([45,54],[([45,53],.int .i64 (-1)),([49],.int .i64 (-1))]),([45,53],[([45,57],.int .i64 1),([45,54],.int .i64 1),([45,53],.int .i64 0),([45,51],.int .i64 (-1)),([48],.int .i64 (-1)),([51],.int .i64 (-1)),([54],.int .i64 (-1)),([57],.int .i64 (-1))]),([45,52],[([49],.int .i64 (-1))]),([45,51],[([45,53],.int .i64 1),([45,51],.int .i64 0),([45,50],.int .i64 (-1)),([45,49],.int .i64 (-1)),([48],.int .i64 (-1)),([49],.int .i64 (-1)),([50],.int .i64 (-1)),([51],.int .i64 (-1))]),([45,50],[([45,51],.int .i64 1),([45,50],.int .i64 0),([45,49],.int .i64 (-1)),([48],.int .i64 (-1)),([49],.int .i64 (-1)),([50],.int .i64 (-1)),([51],.int .i64 (-1))]),([45,49],[([45,51],.int .i64 1),([45,50],.int .i64 1),([45,49],.int .i64 0),([48],.int .i64 (-1)),([49],.int .i64 (-1)),([50],.int .i64 (-1)),([51],.int .i64 (-1))]),([48],[([45,53],.int .i64 1),([45,51],.int .i64 1),([45,50],.int .i64 1),([45,49],.int .i64 1),([48],.int .i64 0),([49],.int .i64 (-1)),([50],.int .i64 (-1)),([51],.int .i64 (-1))]),([49],[([45,54],.int .i64 1),([45,52],.int .i64 1),([45,51],.int .i64 1),([45,50],.int .i64 1),([45,49],.int .i64 1),([48],.int .i64 1),([49],.int .i64 0),([50],.int .i64 (-1)),([51],.int .i64 (-1)),([52],.int .i64 (-1)),([54],.int .i64 (-1))]),([50],[([45,51],.int .i64 1),([45,50],.int .i64 1),([45,49],.int .i64 1),([48],.int .i64 1),([49],.int .i64 1),([50],.int .i64 0),([51],.int .i64 (-1))]),([51],[([45,49,48],.int .i64 1),([45,53],.int .i64 1),([45,51],.int .i64 1),([45,50],.int .i64 1),([45,49],.int .i64 1),([48],.int .i64 1),([49],.int .i64 1),([50],.int .i64 1),([51],.int .i64 0)]),([52],[([49],.int .i64 1)]),([54],[([45,53],.int .i64 1),([49],.int .i64 1)]),([57],[([45,53],.int .i64 1)])]
def puT:Code:=tb1 8 6 7 32 93 281 uiT
def piT:Code:=tb1 8 6 7 64 2 281 inT
def ncT:Code:=tb2 20 4 3 coT
def nmT:Code:=tb2 20 4 9 muT
noncomputable def puF:Func:={Tryz.f281 with body:=some puT,ntmps:=100}
noncomputable def piF:Func:={Tryz.f284 with body:=some piT,ntmps:=100}
noncomputable def ncF:Func:={Tryz.f236 with body:=some ncT,ntmps:=100}
noncomputable def nmF:Func:={Tryz.f237 with body:=some nmT,ntmps:=100}
noncomputable def cdN:Program:=kK (kK cdM 281 puF) 284 piF
noncomputable def cdP:Program:=kK (kK cdM 236 ncF) 237 nmF
end Go.Rf
namespace Go.Rf
open Go.AI Go.Proofs
def clO1:Array Oper:= #[mkO (some 3) (.call {callee:= .builtin .len,args:= #[.tmp 0],argTypes:= #[61]}) 3,
 mkO (some 4) (.binOp .eql 3 (.tmp 3) (.const (.int .i64 0)) 3) 4]
def clO2:Array Oper:= #[mkO (some 5) (.buildSlice 61 0 #[]) 61,mkO (some 2) (.slice 61 (.tmp 0) (some (.const (.int .i64 0))) (some (.const (.int .i64 0))) (some (.const (.int .i64 0)))) 61,
 mkO (some 6) (.move (.tmp 0)) 61,mkO (some 6) (.move (.tmp 0)) 61]
def aAO:Code→Code
 | .seq a (.seq (.seq _ (.cond c _ s)) r)=> .seq a (.seq (.seq (.region 1 clO1 false) (.cond c (.seq (.region 2 clO2 false) .ret) s)) r)
 |c=>c
noncomputable def clB:Code:=Tryz.f197.body.getD .skip
noncomputable def clF:Func:={Tryz.f197 with body:=some (aAO clB)}
theorem aH8:Tryz.prog.funcs[197]?=some Tryz.f197:=by kernel_rfl
theorem aH9:Tryz.f197.body=some clB:=rfl
theorem cl_ok:dJ Tryz.prog Tryz.f197=true:=by kernel_rfl
section
variable(call:FuncId→Array Value→St→Option (Value×St))(L:Nat)(σ:St)
def clS:St:=({σ with next:=σ.next+7}:St).put (σ.next+3) (.cells [] (bD 13))
noncomputable def clR:Code:=match clB with| .seq _ (.seq _ r)=>r|_=> .skip
noncomputable def clO3:Array Oper:=match clR with| .seq (.region _ o _) _=>o|_=> #[]
noncomputable def clo(k:Nat):Oper:=clO3.toList.getD k (mkO none (.move (.tmp 0)) 0)
theorem clR_eq:clR= .seq (.region 3 clO3 false) .ret:=by kernel_rfl
theorem clO3_eq:clO3.toList=[clo 0,clo 1,clo 2,clo 3]:=by kernel_rfl
theorem aIa:clO3.size=4:=by kernel_rfl
theorem aY{P:Program}{ops:Array Oper}{base i:Nat}{o:Oper}{rest:List Oper}{S:Slots}{σ σ1:St}{v:Value}(hg:o.guard=none)(h:aop P call base i o S σ=some (v,σ1)):
    cK P call ops base (o::rest) i S σ=cK P call ops base rest (i+1) (S.store o.dst v) σ1:=by
 rw[cK,wanted,hg];simp only[cdt,h]
theorem oP{P:Program}{ops:Array Oper}{base i:Nat}{o:Oper}{rest:List Oper}{S:Slots}{σ:St}(hg:o.guard=none)(h:aop P call base i o S σ=none):
    cK P call ops base (o::rest) i S σ=none:=by
 rw[cK,wanted,hg];simp only[cdt,h]
end
end Go.Rf
namespace Go.Rf
open Go.AI Go.Proofs
noncomputable def cdX:Program:=kK cdP 197 clF
end Go.Rf
