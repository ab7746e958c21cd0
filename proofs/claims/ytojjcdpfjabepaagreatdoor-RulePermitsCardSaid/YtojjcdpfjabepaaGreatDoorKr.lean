import Derived.Test.YtojjcdpfjabepaaGreatDoorKp
import Derived.Test.YtojjcdpfjabepaaGreatDoorKq
import Derived.Test.YtojjcdpfjabepaaGreatDoorKn
set_option linter.unusedVariables false
set_option linter.unusedSimpArgs false
set_option linter.constructorNameAsVariable false
namespace Go.Rf
open Go.AI Go.Proofs
set_option maxRecDepth 100000
section
variable{call:FuncId→Array Value→St→Option (Value×St)}{L:Nat}
theorem str_no: ∀e,Tryz.prog.underlying 9≠some (.slice e):=fun e h=>by rw[Tryz.underlying9]at h;cases h
theorem pI{S:Slots}{σ:St}{b i d k:Nat}{op:BinOp}{y:Operand}(ho:aP (mkO (some d) (.binOp op 9 (.tmp k) y 9) 4)= .pure):
    aop Tryz.prog call b i (mkO (some d) (.binOp op 9 (.tmp k) y 9) 4) S σ=
    (bif aH (S.at k)&&aH (ev S y)then aK Tryz.prog (do eqGuard op 9 (.tmp k) y (S.at k) (ev S y);binOp op 9 (S.at k) (ev S y))else none).map fun v=>(v,σ):=by
 have h2:fL Tryz.prog (ev S) (mkO (some d) (.binOp op 9 (.tmp k) y 9) 4)=(bif aH (S.at k)&&aH (ev S y)then aK Tryz.prog (do eqGuard op 9 (.tmp k) y (S.at k) (ev S y);binOp op 9 (S.at k) (ev S y))
  else match Tryz.prog.underlying 9 with
   |some (.slice _)=>anil op (S.at k) (ev S y)
   |_=>none):=by rfl
 have h1:aop Tryz.prog call b i (mkO (some d) (.binOp op 9 (.tmp k) y 9) 4) S σ=(fI Tryz.prog σ (ev S) (mkO (some d) (.binOp op 9 (.tmp k) y 9) 4)).map fun v=>(v,σ):=by
  unfold aop;rw[ho]
 rw[h1];congr 1;unfold fI;rw[h2];cases aH (S.at k)&&aH (ev S y)with
 |true=>
  simp only[cdt];split
  ·rename_i v h;exact h.symm
  ·rename_i h;rw[h];rfl
 |false=>
  simp only[cdf];have:(match Tryz.prog.underlying 9 with
   |some (.slice _)=>anil op (S.at k) (ev S y)
   |_=>none)=none:=by
   split
   ·rename_i e h;exact absurd h (str_no e)
   ·rfl
  first|rfl|(rw[this];rfl)
theorem es_inv{S:Slots}{σ σ':St}{b i d k:Nat}{x:Value}(h:aop Tryz.prog call b i (esO d k) S σ=some (x,σ')):σ'=σ∧∃a,S.at k= .string a:=by
 rw[esO,pI rfl,show ev S (.const (.string ⟨#[]⟩))= .string ⟨#[]⟩ from rfl]at h
 generalize S.at k=u at h⊢;cases hp:aH u with
 |false=>rw[hp]at h;cases h
 |true=>
  rw[hp,show aH (Value.string ⟨#[]⟩)=true from rfl,Bool.and_self,cdt]at h
  cases u with
  |string s=>
   have e2:aK Tryz.prog (do eqGuard .eql 9 (.tmp k) (.const (.string ⟨#[]⟩)) (.string s) (.string ⟨#[]⟩);binOp .eql 9 (.string s) (.string ⟨#[]⟩))=some (.bool (s.toList==(⟨#[]⟩:ByteArray).toList)):=by kernel_rfl
   rw[e2]at h;simp only[omS,ojE,pjE]at h;exact⟨h.2.symm,s,rfl⟩
  |_=>exact absurd ((by kernel_rfl:none=_).trans h) (fun e=>by cases e)
theorem sbe_inv{S:Slots}{σ σ':St}{b i d:Nat}{x:Value}{s t:ByteArray}(hs:S.at 0= .string s)(ht:S.at 1= .string t)(h:aop Tryz.prog call b i (sbO d .eql) S σ=some (x,σ')):σ'=σ∧x= .bool (s.toList==t.toList):=by
 rw[sbO,pI rfl,hs,show ev S (.tmp 1)=S.at 1 from rfl,ht,show(aH (.string s)&&aH (.string t))=true from rfl,cdt,e_eql]at h
 simp only[omS,ojE,pjE]at h;exact⟨h.2.symm,h.1.symm⟩
theorem sbl_inv{S:Slots}{σ σ':St}{b i d:Nat}{x:Value}{s t:ByteArray}(hs:S.at 0= .string s)(ht:S.at 1= .string t)(h:aop Tryz.prog call b i (sbO d .lss) S σ=some (x,σ')):σ'=σ∧x= .bool (Op.bytesLess s.toList t.toList):=by
 rw[sbO,pI rfl,hs,show ev S (.tmp 1)=S.at 1 from rfl,ht,show(aH (.string s)&&aH (.string t))=true from rfl,cdt,e_lss]at h
 simp only[omS,ojE,pjE]at h;exact⟨h.2.symm,h.1.symm⟩
theorem sc_end{S:Slots}{σ σ':St}{r:Value}{v:Int}(h:dW Tryz.prog scF (bV Tryz.prog call L (scA v) S σ)=some (r,σ')):r= .int .i64 v∧σ'={σ with next:=σ.next+1}:=by
 have e:dW Tryz.prog scF (bV Tryz.prog call L (scA v) S σ)=some ((S.store (some 4) (.int .i64 v)).at 4,{σ with next:=σ.next+1}):=by kernel_rfl
 rw[e,Go.Rf.at_store,if_pos rfl]at h;simp only[ojE,pjE]at h;exact⟨h.1.symm,h.2.symm⟩
theorem lG{P:Program}{id:Nat}{ops:Array Oper}{S:Slots}{σ:St}{r:Value}{σ':St}{rest:Code}{fn:Func}(h:dW P fn (bV P call L (.seq (.region id ops false) rest) S σ)=some (r,σ')):
    ∃S1 σ1,eP P call ops σ.next ops.toList 0 S {σ with next:=σ.next+ops.size}=some (S1,σ1)∧dW P fn (bV P call L rest S1 σ1)=some (r,σ'):=by
 cases hx:bV P call L (.seq (.region id ops false) rest) S σ with
 |none=>rw[hx]at h;cases h
 |some x=>
  obtain⟨fl,S',σ1⟩:=x;obtain⟨S2,σ2,h1,h2⟩:=gT hx;rw[hx]at h;exact⟨S2,σ2,pO h1,by rw[h2];exact h⟩
theorem qQ{P:Program}{fn:Func}{x:Operand}{a b:Code}{S:Slots}{σ σ':St}{r:Value}{q:Bool}(hq:ev S x= .bool q)(h:dW P fn (bV P call L (.cond x a b) S σ)=some (r,σ')):dW P fn (bV P call L (bif q then a else b) S σ)=some (r,σ'):=by
 rw[bV,hq]at h;cases q<;>exact h
end
theorem aBK{a:Array Value}{P:Program}{f:FuncId}(h:aBL P f a.size=true){k:Nat}(hk:aBL P f k=true):a.size=k:=by
 unfold aBL at h hk;split at h
 ·rename_i fn hf;rw[hf]at hk;simp only[Nat.beq_eq]at h hk;omega
 ·cases h
theorem sc_known(w0:W0):aEX w0 Tryz.prog 193 scF scT:=by
 intro call L args σ σ' r har h;have hs:=aBK har (k:=2) (by kernel_rfl)
 obtain⟨u0,u1,ha⟩: ∃u0 u1,args.toList=[u0,u1]:=by
  match hl:args.toList,(show args.toList.length=2 by simpa using hs)with
  |[u0,u1],_=>exact⟨u0,u1,rfl⟩
 rw[ha]at h;obtain⟨S1,σ1,h1,h2⟩:=lG h;obtain⟨x0,τ0,e0,h1⟩:=aM (o:=esO 6 0) rfl h1;obtain⟨rfl,s,k0⟩:=es_inv e0;obtain⟨x1,τ1,e1,h1⟩:=aM (o:=esO 7 1) rfl h1;obtain⟨rfl,t,k1⟩:=es_inv e1;have a0:u0= .string s:=k0;have a1:u1= .string t:=k1;subst a0 a1;obtain⟨x2,τ2,e2,h1⟩:=aM (o:=sbO 8 .eql) rfl h1;obtain⟨rfl,rfl⟩:=sbe_inv (s:=s) (t:=t) rfl rfl e2;obtain⟨x3,τ3,e3,h1⟩:=aM (o:=sbO 9 .lss) rfl h1;obtain⟨rfl,rfl⟩:=sbl_inv (s:=s) (t:=t) rfl rfl e3;obtain⟨rfl,rfl⟩:=gW h1;generalize hS:Slots.store _ (sbO 9 .lss).dst (.bool (Op.bytesLess s.toList t.toList))=S at h2;have c8:ev S (.tmp 8)= .bool (s.toList==t.toList):=by subst hS;rfl
 have c9:ev S (.tmp 9)= .bool (Op.bytesLess s.toList t.toList):=by subst hS;rfl
 have fin: ∀v,v=Lib.compareBytes s.toList t.toList→dW Tryz.prog scF (bV Tryz.prog call L (scA v) S {σ with next:=σ.next+4})=some (r,σ')→
      args.toList.all aB=true∧(∃n,σ.next≤n∧σ'={σ with next:=n})∧∃r',(∀μ,VR μ r r')∧∀w,Kept w0.toWorld w→Calls Tryz.prog 193 args w fun e w'=>e= .returned r'∧Kept w w':=by
  rintro v hv h5;obtain⟨rfl,rfl⟩:=sc_end h5;refine⟨by rw[ha];rfl,⟨_,by show σ.next≤σ.next+_+_;omega,rfl⟩,_,fun μ=> .same _ rfl,fun w hK=>?_⟩
  have e:args= #[.string s,.string t]:=by rw[←Array.toArray_toList (xs:=args),ha]
  rw[e,hv];exact(Tryz.strings_Compare s t w).mono fun e w2 ⟨h1,h2⟩=>⟨by rw[h1,ByteArray.toList_eq,ByteArray.toList_eq],by rw[h2];exact Kept.refl _⟩
 have h3:=qQ c8 h2;rw[yU]at fin;cases hq:(s.toList==t.toList)with
 |true=>rw[hq]at h3 fin;exact fin 0 rfl h3
 |false=>
  rw[hq]at h3 fin;have h4:=qQ c9 h3;cases hl:Op.bytesLess s.toList t.toList with
  |true=>rw[hl]at h4 fin;exact fin (-1) rfl h4
  |false=>rw[hl]at h4 fin;exact fin 1 rfl h4
end Go.Rf
namespace Go.Rf
open Go.AI Go.Proofs
set_option maxRecDepth 100000
def sV(l:List UInt8):Value:= .string ⟨l.toArray⟩
def eqT(d k:Nat)(l:List UInt8):Oper:=mkO (some d) (.binOp .eql 9 (.tmp k) (.const (sV l)) 9) 4
def eqN(d k:Nat)(c:Int):Oper:=mkO (some d) (.binOp .eql 3 (.tmp k) (.const (.int .i64 c)) 3) 4
def mvT(d:Nat)(v:Value)(t:TypeId):Oper:=mkO (some d) (.move (.const v)) t
def tbC{β:Type}(d k:Nat)(fin:β→Code):List (List UInt8×β)→Code
 |[]=> .exit 999
 |(l,b)::r=> .seq (.region 0 #[eqT d k l] false) (.cond (.tmp d) (fin b) (tbC d k fin r))
abbrev Tb:=List (List UInt8×Value)
def tb1(d r1 r2:Nat)(B:Int)(t e:TypeId)(T:Tb):Code:=
 .seq (.region 0 #[eqN d 1 10,eqN (d+1) 2 B,mvT r2 .nilIface e] false) (.cond (.tmp d) (.cond (.tmp (d+1)) (tbC (d+2) 0 (fun v=> .seq (.region 1 #[mvT r1 v t] false) .ret) T) (.exit 999)) (.exit 999))
def tb2(d r1:Nat)(t:TypeId)(T:List (List UInt8×Tb)):Code:=tbC d 0 (fun T2=>tbC d 1 (fun v=> .seq (.region 1 #[mvT r1 v t] false) .ret) T2) T
section
variable{call:FuncId→Array Value→St→Option (Value×St)}{L:Nat}
theorem eqT_inv{S:Slots}{σ σ':St}{b i d k:Nat}{c:List UInt8}{x:Value}(h:aop Tryz.prog call b i (eqT d k c) S σ=some (x,σ')): ∃q:Bool,x= .bool q∧(q=true→S.at k=sV c)∧σ'=σ:=by
 rw[eqT,pI rfl,show ev S (.const (sV c))=sV c from rfl]at h
 generalize S.at k=u at h⊢;cases hp:aH u with
 |false=>rw[hp]at h;cases h
 |true=>
  rw[hp,show aH (sV c)=true from rfl,Bool.and_self,cdt]at h
  cases u with
  |string s=>
   have e2:aK Tryz.prog (do eqGuard .eql 9 (.tmp k) (.const (sV c)) (.string s) (sV c);binOp .eql 9 (.string s) (sV c))=some (.bool (s.toList==(⟨c.toArray⟩:ByteArray).toList)):=by kernel_rfl
   rw[e2]at h;simp only[omS,ojE,pjE]at h;refine⟨_,h.1.symm,fun hq=>?_,h.2.symm⟩
   have:s=⟨c.toArray⟩:=by
    cases s with|mk d=>
    have:d.toList=c:=by simpa [ByteArray.toList_eq]using hq
    rw[←this,Array.toArray_toList]
   rw[this];rfl
  |_=>exact absurd ((by kernel_rfl:none=_).trans h) (fun e=>by cases e)
theorem aG0{S:Slots}{σ σ':St}{b i d k:Nat}{c:Int}{x:Value}(h:aop Tryz.prog call b i (eqN d k c) S σ=some (x,σ')): ∃q:Bool,x= .bool q∧(q=true→S.at k= .int .i64 c)∧σ'=σ:=by
 rw[eqN,aBI rfl,show ev S (.const (.int .i64 c))= .int .i64 c from rfl]at h
 generalize S.at k=u at h⊢;cases hp:aH u with
 |false=>rw[hp]at h;cases h
 |true=>
  rw[hp,show aH (Value.int .i64 c)=true from rfl,Bool.and_self,cdt]at h
  cases u with
  |int kd n=>
   cases kd with
   |i64=>
    have e2:aK Tryz.prog (do eqGuard .eql 3 (.tmp k) (.const (.int .i64 c)) (.int .i64 n) (.int .i64 c);binOp .eql 3 (.int .i64 n) (.int .i64 c))=some (.bool (n==c)):=by kernel_rfl
    rw[e2]at h;simp only[omS,ojE,pjE]at h;refine⟨_,h.1.symm,fun hq=>?_,h.2.symm⟩
    rw[beq_iff_eq]at hq;rw[hq]
   |_=>exact absurd ((by kernel_rfl:none=_).trans h) (fun e=>by cases e)
  |pointer a=>cases a with
   |none=>exact absurd ((by kernel_rfl:none=_).trans h) (fun e=>by cases e)
   |some v=>simp[aH,aB]at hp
  |_=>exact absurd ((by kernel_rfl:none=_).trans h) (fun e=>by cases e)
theorem aGt{S:Slots}{σ σ':St}{b i d:Nat}{t:TypeId}{c x:Value}(h:aop Tryz.prog call b i (mvT d c t) S σ=some (x,σ')):x=c∧σ'=σ:=by
 have e2:aop Tryz.prog call b i (mvT d c t) S σ=some (c,σ):=by kernel_rfl
 rw[e2]at h;simp only[ojE,pjE]at h;exact⟨h.1.symm,h.2.symm⟩
theorem aAS{P:Program}{fn:Func}{S:Slots}{σ σ':St}{r:Value}{k:Nat}(h:dW P fn (bV P call L (.exit k) S σ)=some (r,σ')):False:=by
 rw[bV,dW]at h;cases h
theorem aB9{β:Type}{d k:Nat}{fin:β→Code}{fn:Func}(hdk: ¬k=d): ∀{T:List (List UInt8×β)} {S:Slots} {σ σ':St} {r:Value},dW Tryz.prog fn (bV Tryz.prog call L (tbC d k fin T) S σ)=some (r,σ')→
    ∃x∈T,∃S1 n,S.at k=sV x.1∧(∀j,¬j=d→S1.at j=S.at j)∧σ.next≤n∧dW Tryz.prog fn (bV Tryz.prog call L (fin x.2) S1 {σ with next:=n})=some (r,σ')
 |[],_,_,_,_,h=>(aAS h).elim
 |(l,b)::T,S,σ,σ',r,h=>by
  obtain⟨S1,σ1,h1,h2⟩:=lG h;obtain⟨x0,τ0,e0,h1⟩:=aM (o:=eqT d k l) rfl h1;obtain⟨q,rfl,hq,rfl⟩:=eqT_inv e0;obtain⟨rfl,rfl⟩:=gW h1;have hs: ∀j,¬j=d→Slots.at (S.store (some d) (.bool q)) j=S.at j:=fun j hj=>by rw[Go.Rf.at_store,if_neg hj]
  have hv:ev (S.store (eqT d k l).dst (.bool q)) (.tmp d)= .bool q:=by
   show Slots.at (S.store (some d) (.bool q)) d= .bool q;rw[Go.Rf.at_store,if_pos rfl]
  have h3:=qQ hv h2;cases q with
  |true=>exact⟨_,mhE ..,_,_,hq rfl,hs,Nat.le_add_right _ _,h3⟩
  |false=>
   obtain⟨x,hx,S2,n,a,b2,c,e⟩:=aB9 hdk h3;exact⟨x,mtE _ hx,S2,n,(hs k hdk).symm.trans a,fun j hj=>(b2 j hj).trans (hs j hj),Nat.le_trans (Nat.le_add_right _ _) c,e⟩
theorem aGV{fn:Func}{r1:Nat}{v:Value}{t:TypeId}{S:Slots}{σ σ':St}{r:Value}(h:dW Tryz.prog fn (bV Tryz.prog call L (.seq (.region 1 #[mvT r1 v t] false) .ret) S σ)=some (r,σ')):
    dW Tryz.prog fn (bV Tryz.prog call L .ret (S.store (some r1) v) {σ with next:=σ.next+1})=some (r,σ'):=by
 obtain⟨S1,σ1,h1,h2⟩:=lG h;obtain⟨x0,τ0,e0,h1⟩:=aM (o:=mvT r1 v t) rfl h1;obtain⟨rfl,rfl⟩:=aGt e0;obtain⟨rfl,rfl⟩:=gW h1;exact h2
end
theorem vO{w0:W0}{f:FuncId}{fn:Func}{d r1:Nat}{t:TypeId}{T:List (List UInt8×Tb)}(har:aBL Tryz.prog f 2=true)(h0: ¬0=d)(h1: ¬1=d)
    (hend: ∀(call:FuncId→Array Value→St→Option (Value×St)) L S σ,dW Tryz.prog fn (bV Tryz.prog call L .ret S σ)=some (S.at r1,σ)) (hp: ∀x∈T,∀y∈x.2,aB y.2=true)
    (hc: ∀x∈T,∀y∈x.2,∀w,Kept w0.toWorld w→Calls Tryz.prog f #[sV x.1,sV y.1] w fun e w'=>e= .returned y.2∧Kept w w'):aEX w0 Tryz.prog f fn (tb2 d r1 t T):=by
 intro call L args σ σ' r har2 h;have hs:=aBK har2 har;obtain⟨u0,u1,ha⟩: ∃u0 u1,args.toList=[u0,u1]:=by
  match hl:args.toList,(show args.toList.length=2 by simpa using hs)with
  |[u0,u1],_=>exact⟨u0,u1,rfl⟩
 rw[ha]at h;obtain⟨x,hx,S1,n,a1,a2,a3,h2⟩:=aB9 h0 h;obtain⟨y,hy,S2,m,b1,b2,b3,h3⟩:=aB9 h1 h2;have h4:=aGV h3;rw[hend,Go.Rf.at_store,if_pos rfl]at h4;simp only[ojE,pjE]at h4;obtain⟨rfl,rfl⟩:=h4;have e0:u0=sV x.1:=a1;have e1:u1=sV y.1:=(a2 1 h1).symm.trans b1;subst e0 e1;refine⟨by rw[ha];rfl,⟨_,?_,rfl⟩,_,fun μ=> .same _ (hp x hx y hy),fun w hK=>?_⟩
 ·have:n≤m:=b3;show σ.next≤m+1
  omega
 have e:args= #[sV x.1,sV y.1]:=by rw[←Array.toArray_toList (xs:=args),ha]
 rw[e];exact hc x hx y hy w hK
theorem vQ{w0:W0}{f:FuncId}{fn:Func}{d r1 r2:Nat}{B:Int}{t e:TypeId}{T:Tb}(har:aBL Tryz.prog f 3=true)(hd:2<d)(h12: ¬r2=r1)(hr2: ¬0=r2)(hr3: ¬r2=d)(hr4: ¬r2=d+1)(hr5: ¬d=r2)(hr6: ¬d+1=r2)(hr7: ¬r2=d+2)
    (hend: ∀(call:FuncId→Array Value→St→Option (Value×St)) L S σ,dW Tryz.prog fn (bV Tryz.prog call L .ret S σ)=some (.tuple #[S.at r1,S.at r2],σ)) (hp: ∀x∈T,aB x.2=true)
    (hc: ∀x∈T,∀w,Kept w0.toWorld w→Calls Tryz.prog f #[sV x.1,.int .i64 10,.int .i64 B] w fun e w'=>e= .returned (.tuple #[x.2,.nilIface])∧Kept w w'):aEX w0 Tryz.prog f fn (tb1 d r1 r2 B t e T):=by
 intro call L args σ σ' r har2 h;have hs:=aBK har2 har;obtain⟨u0,u1,u2,ha⟩: ∃u0 u1 u2,args.toList=[u0,u1,u2]:=by
  match hl:args.toList,(show args.toList.length=3 by simpa using hs)with
  |[u0,u1,u2],_=>exact⟨u0,u1,u2,rfl⟩
 rw[ha]at h;obtain⟨S1,σ1,h1,h2⟩:=lG h;obtain⟨x0,τ0,e0,h1⟩:=aM (o:=eqN d 1 10) rfl h1;obtain⟨q0,rfl,k0,rfl⟩:=aG0 e0;obtain⟨x1,τ1,e1,h1⟩:=aM (o:=eqN (d+1) 2 B) rfl h1;obtain⟨q1,rfl,k1,rfl⟩:=aG0 e1;obtain⟨x2,τ2,e2,h1⟩:=aM (o:=mvT r2 .nilIface e) rfl h1;obtain⟨rfl,rfl⟩:=aGt e2;obtain⟨rfl,rfl⟩:=gW h1;generalize hS:Slots.store _ (mvT r2 .nilIface e).dst .nilIface=S at h2;have c0:ev S (.tmp d)= .bool q0:=by
  subst hS;show Slots.at (Slots.store (Slots.store (Slots.store _ (some d) _) (some (d+1)) _) (some r2) _) d=_;rw[Go.Rf.at_store,if_neg hr5,Go.Rf.at_store,if_neg (by omega),Go.Rf.at_store,if_pos rfl]
 have c1:ev S (.tmp (d+1))= .bool q1:=by
  subst hS;show Slots.at (Slots.store (Slots.store (Slots.store _ (some d) _) (some (d+1)) _) (some r2) _) (d+1)=_;rw[Go.Rf.at_store,if_neg hr6,Go.Rf.at_store,if_pos rfl]
 have c2:S.at r2= .nilIface:=by
  subst hS;show Slots.at (Slots.store (Slots.store (Slots.store _ (some d) _) (some (d+1)) _) (some r2) _) r2=_;rw[Go.Rf.at_store,if_pos rfl]
 have c3:S.at 0=u0:=by
  subst hS;show Slots.at (Slots.store (Slots.store (Slots.store _ (some d) _) (some (d+1)) _) (some r2) _) 0=_;rw[Go.Rf.at_store,if_neg hr2,Go.Rf.at_store,if_neg (by omega),Go.Rf.at_store,if_neg (by omega)]
  rfl
 have k0':q0=true→u1= .int .i64 10:=k0;have k1':q1=true→u2= .int .i64 B:=fun h=>by
  have h8:Slots.at (Slots.store (iP [u0,u1,u2] 0 .nil) (some d) (.bool q0)) 2= .int .i64 B:=k1 h;rw[Go.Rf.at_store,if_neg (by omega)]at h8
  exact h8
 have h3:=qQ c0 h2;cases q0 with
 |false=>exact(aAS h3).elim
 |true=>
 have h4:=qQ c1 h3;cases q1 with
 |false=>exact(aAS h4).elim
 |true=>
 obtain⟨x,hx,S2,m,b1,b2,b3,h5⟩:=aB9 (by omega) h4
 have h6:=aGV h5;rw[hend,Go.Rf.at_store,if_pos rfl,Go.Rf.at_store,if_neg h12,b2 r2 hr7,c2]at h6;simp only[ojE,pjE]at h6;obtain⟨rfl,rfl⟩:=h6;have a0:u0=sV x.1:=c3.symm.trans b1;have a1:=k0' rfl;have a2:=k1' rfl;subst a0 a1 a2;refine⟨by rw[ha];rfl,⟨_,?_,rfl⟩,_,fun μ=> .mkTuple (xs:=[x.2,.nilIface]) (.same (by simp[hp x hx];rfl)),fun w hK=>?_⟩
 ·have:σ.next+3≤m:=b3
  show σ.next≤m+1
  omega
 have e:args= #[sV x.1,.int .i64 10,.int .i64 B]:=by rw[←Array.toArray_toList (xs:=args),ha]
 rw[e];exact hc x hx w hK
end Go.Rf
namespace Go.Rf
open Go.AI Go.Proofs
set_option maxRecDepth 100000
def uiT:Tb:=[([48],.int .u64 0),([49],.int .u64 1),([50],.int .u64 2),([51],.int .u64 3),([52],.int .u64 4),([53],.int .u64 5),([54],.int .u64 6),([57],.int .u64 9),([49,48],.int .u64 10)]
def inT:Tb:=[([45,53],.int .i64 (-5)),([45,51],.int .i64 (-3)),([45,50],.int .i64 (-2)),([45,49],.int .i64 (-1)),([48],.int .i64 0),([49],.int .i64 1),([50],.int .i64 2),([51],.int .i64 3)]
def muT:List (List UInt8×Tb):=[([45,53],[([49],sV [45,53]),([50],sV [45,49,48])]),([45,51],[([50],sV [45,54]),([51],sV [45,57])]),([45,50],[([50],sV [45,52]),([51],sV [45,54])]),([45,49],[([50],sV [45,50]),([51],sV [45,51])]),([48],[([50],sV [48]),([51],sV [48])]),([49],[([49],sV [49]),([50],sV [50]),([51],sV [51])]),([50],[([50],sV [52]),([51],sV [54])]),([51],[([50],sV [54]),([51],sV [57])])]
def coT:List (List UInt8×Tb):=[([45,49,48],[([51],.int .i64 (-1))]),([45,57],[([45,53],.int .i64 (-1))]),([45,54],[([45,53],.int .i64 (-1)),([49],.int .i64 (-1))]),([45,53],[([45,57],.int .i64 1),([45,54],.int .i64 1),([45,53],.int .i64 0),([45,51],.int .i64 (-1)),([48],.int .i64 (-1)),([51],.int .i64 (-1)),([54],.int .i64 (-1)),([57],.int .i64 (-1))]),([45,52],[([49],.int .i64 (-1))]),([45,51],[([45,53],.int .i64 1),([45,51],.int .i64 0),([45,50],.int .i64 (-1)),([45,49],.int .i64 (-1)),([48],.int .i64 (-1)),([49],.int .i64 (-1)),([50],.int .i64 (-1)),([51],.int .i64 (-1))]),([45,50],[([45,51],.int .i64 1),([45,50],.int .i64 0),([45,49],.int .i64 (-1)),([48],.int .i64 (-1)),([49],.int .i64 (-1)),([50],.int .i64 (-1)),([51],.int .i64 (-1))]),([45,49],[([45,51],.int .i64 1),([45,50],.int .i64 1),([45,49],.int .i64 0),([48],.int .i64 (-1)),([49],.int .i64 (-1)),([50],.int .i64 (-1)),([51],.int .i64 (-1))]),([48],[([45,53],.int .i64 1),([45,51],.int .i64 1),([45,50],.int .i64 1),([45,49],.int .i64 1),([48],.int .i64 0),([49],.int .i64 (-1)),([50],.int .i64 (-1)),([51],.int .i64 (-1))]),([49],[([45,54],.int .i64 1),([45,52],.int .i64 1),([45,51],.int .i64 1),([45,50],.int .i64 1),([45,49],.int .i64 1),([48],.int .i64 1),([49],.int .i64 0),([50],.int .i64 (-1)),([51],.int .i64 (-1)),([52],.int .i64 (-1)),([54],.int .i64 (-1))]),([50],[([45,51],.int .i64 1),([45,50],.int .i64 1),([45,49],.int .i64 1),([48],.int .i64 1),([49],.int .i64 1),([50],.int .i64 0),([51],.int .i64 (-1))]),([51],[([45,49,48],.int .i64 1),([45,53],.int .i64 1),([45,51],.int .i64 1),([45,50],.int .i64 1),([45,49],.int .i64 1),([48],.int .i64 1),([49],.int .i64 1),([50],.int .i64 1),([51],.int .i64 0)]),([52],[([49],.int .i64 1)]),([54],[([45,53],.int .i64 1),([49],.int .i64 1)]),([57],[([45,53],.int .i64 1)])]
def puT:Code:=tb1 8 6 7 32 93 281 uiT
def piT:Code:=tb1 8 6 7 64 2 281 inT
def ncT:Code:=tb2 20 4 3 coT
def nmT:Code:=tb2 20 4 9 muT
noncomputable def puF:Func:={Tryz.f281 with body:=some puT,ntmps:=100}
noncomputable def piF:Func:={Tryz.f284 with body:=some piT,ntmps:=100}
noncomputable def ncF:Func:={Tryz.f236 with body:=some ncT,ntmps:=100}
noncomputable def nmF:Func:={Tryz.f237 with body:=some nmT,ntmps:=100}
noncomputable def cdN:Program:=lD (lD cdM 281 puF) 284 piF
noncomputable def cdP:Program:=lD (lD cdM 236 ncF) 237 nmF
end Go.Rf
namespace Go.TV
open Go.AI Go.PI Go.Proofs
set_option maxRecDepth 20000
abbrev wA(k:Nat)(t:Ty):Nat×Sh×Rts:=(k,.val t,[])
abbrev wB(k:Nat)(t:Ty):Nat×Sh×Rts:=(k,.val t,[(0,true)])
abbrev wC(k j:Nat):Nat×Sh×Rts:=(k,.lc j 0 [],[])
abbrev wD(x:SkT):SkT:= .s .n x
abbrev wE(l:List (Nat×Nat×List Nat)):SkT:= .r [] [] l
def ct0x1:Cut:=⟨[wA 22 .bool,wA 0 (.sl (.int .u8)),wA 1 (.sl (.int .u8))],[]⟩
def aHx:Cut:=⟨[wA 1 (.sl (.int .u8)),wA 9 i6,wB 7 (.sl .str),wC 6 126,wB 5 (zS 16),wC 8 108],[wA 126 (.rc 0),(108,.val (.rc 5),[(3,true),(15,true),(16,true),(26,true),(27,true),(28,true),(30,true)])]⟩
def aEJ:Cut:=⟨[wA 11 i6,wB 7 (.sl .str),wC 6 126,wB 5 (zS 16),wA 12 i6,wC 8 108,wB 10 (zS 6)],[wA 126 (.rc 0),(108,.val (.rc 5),[(3,true),(15,true),(16,true),(26,true),(27,true),(28,true),(30,true)])]⟩
def ct0x4:Cut:=⟨[wA 70 .bool,wA 12 i6,wA 11 i6,wB 7 (.sl .str),wC 6 126,wB 5 (zS 16),wC 8 108,wB 10 (zS 6)],[wA 126 (.rc 0),(108,.val (.rc 5),[(3,true),(15,true),(16,true),(26,true),(27,true),(28,true),(30,true)])]⟩
def ii0:Ins:=⟨⟨5,[(.val (.sl (.int .u8)),false),(.val (.sl (.int .u8)),false)],[],[],[.bool],false⟩,(wD (.s (.s (wE [(0,1,[])]) .n) (.s (wD (.d ct0x1 .n)) (.s (.r [1] [] [(0,2,[])]) (wD (.s (.r [1] [] []) (wD (.s (wD (.b (.l aHx (wD (.s (.b (.r [1] [] [(22,3,[]),(11,3,[])])) .n))))) (.s (.r [0] [] []) (.s (wE [(1,4,[126])]) (.s (wD (.b (.l aEJ (.s (wD (.d ct0x4 .n)) (.s (.b (.r [0,8,12] [] [(8,5,[126]),(5,3,[])])) .n))))) (.s (.r [2,4,5] [] [(5,7,[]),(2,6,[])]) .n))))))))))))⟩
def ii1:Ins:=⟨⟨7,[],[],[],[.bool],false⟩,(wD (.s (wE [(1,8,[]),(0,8,[])]) (.s (.r [3,7,9] [] [(9,9,[]),(7,9,[]),(3,9,[])]) (.s (.r [3] [] [(1,3,[]),(0,2,[])]) (wD (.s (.r [7] [] []) (.s (.r [10,11] [] []) (.d ⟨[],[]⟩ .n))))))))⟩
def aHp:Cut:=⟨[wB 4 (.sl (zS 8)),wA 5 i6,wA 0 (.int .u32),wB 3 (zS 16)],[]⟩
def aEI:Cut:=⟨[wA 0 (.int .u32),wB 6 (zS 7),wA 7 i6,wB 3 (zS 16)],[]⟩
def ct2x3:Cut:=⟨[wA 7 i6,wA 0 (.int .u32),wB 6 (zS 7),wB 3 (zS 16)],[]⟩
def ii2:Ins:=⟨⟨8,[(.val (.int .u32),false)],[],[],[zS 16],true⟩,(.s (.r [0] [] []) (.s (.r [1] [] [(0,10,[])]) (.s (.r [1] [] [(0,11,[])]) (.s (wD (.b (.l aHp (wD (.s (.b (.r [0,15] [] [])) .n))))) (.s (.r [1] [] [(0,12,[])]) (.s (wD (.b (.l aEI (wD (.s (.b (wD (.s (wE [(5,3,[])]) (.s (.s (.r [13] [] []) .n) (.d ⟨[],[]⟩ (.r [0,4] [] [])))))) (.d ct2x3 .n)))))) (.s (.r [0,1] [] []) .n)))))))⟩
def ii3:Ins:=⟨⟨19,[(.val .str,false)],[],[],[.rc 1],false⟩,.n⟩
def ct4x1:Cut:=⟨[wA 18 .bool,wC 0 0,wA 1 i6],[wA 0 (.rc 0)]⟩
def ii4:Ins:=⟨⟨23,[(.lc 0 0 [],false),(.val i6,false)],[(.val (.rc 0),[])],[[]],[i6],false⟩,(wD (.s (wD (.d ct4x1 .n)) .n))⟩
def ct5x1:Cut:=⟨[wA 22 .bool,wA 7 i6,wC 0 0,wA 1 (zS 16),wA 2 i6,wC 6 106],[wA 0 (.rc 0),(106,.val (.rc 3),[(9,true),(10,true)])]⟩
def ct5x2:Cut:=⟨[wA 7 i6,wC 0 0,wA 1 (zS 16),wA 2 i6,wC 6 106],[wA 0 (.rc 0),(106,.val (.rc 3),[(9,true),(10,true)])]⟩
def ct5x3:Cut:=⟨[wC 0 0,wA 1 (zS 16),wA 2 i6,wC 8 108,wC 6 106],[wA 0 (.rc 0),wA 108 (.rc 1),(106,.val (.rc 3),[(9,true),(10,true)])]⟩
def aHl:Cut:=⟨[wA 11 i6,wC 0 0,wA 1 (zS 16),wA 2 i6,wA 14 i6,wC 8 108,wB 13 (zS 3),wC 6 106],[wA 0 (.rc 0),wA 108 (.rc 1),(106,.val (.rc 3),[(9,true),(10,true)])]⟩
def ii5:Ins:=⟨⟨24,[(.lc 0 0 [],false),(.val (zS 16),false),(.val i6,false)],[(.val (.rc 0),[])],[[]],[.rc 3],false⟩,(wD (.s (wE [(1,4,[0])]) (.s (wD (.d ct5x1 .n)) (.d ct5x2 (.s (.b (wD (.c (.s (wE [(1,13,[0])]) .n) (wD (.c (.s (wE [(2,15,[]),(1,14,[0])]) .n) .n))))) (wD (.s (.s (.r [2,3] [] [(1,17,[]),(0,16,[])]) (.s (wE [(1,4,[0])]) (.c (wE [(7,18,[]),(4,4,[0])]) (wE [(7,3,[]),(4,4,[0])])))) (.d ct5x3 (.s (.r [2] [] [(2,19,[])]) (.s (.r [0] [] []) (.s (wD (.b (.l aHl (wD (.s (.b (.r [0,5,8] [] [(5,5,[0])])) .n))))) (.s (.r [1,2] [] [(2,20,[])]) .n))))))))))))⟩
def aHh:Cut:=⟨[wA 15 i6,wA 14 (zS 4),wA 1 (zS 6),wA 16 i6],[]⟩
def ii6:Ins:=⟨⟨25,[(.val (.rc 5),false),(.val (zS 6),false)],[],[],[.bool],false⟩,(wD (wD (.s (wD (.b (.l aHh (wD (wD (.s (.b (wD (.s (.r [3,7] [] [(7,21,[]),(3,21,[])]) (.s (wE [(2,22,[])]) (.c (.s (wE [(2,23,[])]) .n) .n))))) .n)))))) .n)))⟩
def aHe:Cut:=⟨[wB 1 (zS 6),wC 2 102,wA 5 i6],[wA 102 (.rc 5)]⟩
def ii7:Ins:=⟨⟨26,[(.val (.rc 5),false),(.val (zS 6),true)],[],[],[.bool],false⟩,(wD (wD (.s (wD (.b (.l aHe (wD (.s (.b (.s (.r [7,15] [] [(15,24,[]),(7,24,[])]) (.s (wE [(2,25,[])]) (.c (.s (wE [(2,26,[])]) .n) .n)))) .n))))) .n)))⟩
def ii8:Ins:=⟨⟨30,[(.val .str,false)],[],[],[.rc 3],false⟩,(wD (.s (wE [(2,27,[]),(1,3,[])]) .n))⟩
def ii9:Ins:=⟨⟨31,[(.val .str,false),(.val (zS 3),true)],[],[],[.rc 3],false⟩,(wD (.s (.r [1,2] [] [(2,28,[])]) .n))⟩
def yQ:Cut:=⟨[wA 2 (zS 2),wA 3 i6,wB 1 (zS 16)],[]⟩
def ii10:Ins:=⟨⟨32,[],[],[],[zS 16],true⟩,(.s (.r [0] [] []) (.s (.r [0] [] []) (.s (.r [1] [] [(0,29,[])]) (.s (wD (.b (.l yQ (wD (.s (.b (.r [0,1,6,9] [] [(6,30,[])])) .n))))) (.s (.r [0,7] [] [(2,32,[]),(1,31,[])]) .n)))))⟩
def ii11:Ins:=⟨⟨33,[],[],[],[.sl (zS 8)],true⟩,(.s (.r [0] [] []) (.s (wE [(2,8,[]),(1,8,[]),(0,8,[])]) (.s (.r [2,5] [] [(5,9,[]),(2,9,[])]) (.s (.r [2] [] [(2,9,[])]) (.s (wE [(2,33,[])]) (.s (.r [5,6,12,15,17,18,24,28,30,34,36,38,41,42,48,51,54,56,59,60,66,69,72,74,77,78,84,88,90,93,94,99,102,105,106,111,117,121,124,126,130,134,138,141,145,147,149,153,155,156,164,169,171,172,175] [] [(172,34,[]),(171,9,[]),(169,35,[]),(167,36,[]),(164,35,[]),(162,36,[]),(156,34,[]),(155,9,[]),(153,9,[]),(151,36,[]),(149,9,[]),(147,35,[]),(145,9,[]),(143,39,[]),(141,9,[]),(138,9,[]),(135,38,[]),(134,9,[]),(130,9,[]),(126,35,[]),(124,35,[]),(121,9,[]),(117,9,[]),(111,34,[]),(106,34,[]),(105,9,[]),(103,36,[]),(102,35,[]),(99,9,[]),(94,34,[]),(93,9,[]),(91,36,[]),(90,9,[]),(88,35,[]),(84,9,[]),(78,34,[]),(77,9,[]),(75,37,[]),(74,9,[]),(72,35,[]),(69,35,[]),(66,9,[]),(60,34,[]),(59,9,[]),(57,36,[]),(56,9,[]),(54,35,[]),(51,35,[]),(48,9,[]),(42,34,[]),(41,9,[]),(39,36,[]),(38,9,[]),(36,35,[]),(34,9,[]),(30,9,[]),(28,9,[]),(24,9,[]),(18,34,[]),(17,9,[]),(15,9,[]),(12,9,[]),(6,34,[]),(5,9,[])]) .n))))))⟩
def ii12:Ins:=⟨⟨27,[],[],[],[zS 7],true⟩,(.s (.r [0] [] []) (.s (wE [(3,8,[]),(2,8,[]),(1,8,[]),(0,8,[])]) (.s (wE [(2,40,[])]) (.s (wE [(0,3,[])]) (.s (.r [3,5,8,13,15,18,22,26,29,31,36,41,43,45,50,54,56,62,64,69,71,73,77,80,83,85,87,91,93,97,100,102,106,109,111,115,118,120,124,127,130,132,135,137,141,143,152,155,158,160,162,167,170,174,177,180,182,186,188,191,193,196,198,200,205,209,214,216,221,223,226] [] [(223,9,[]),(221,35,[]),(218,37,[]),(216,9,[]),(214,9,[]),(210,39,[]),(209,9,[]),(205,9,[]),(200,9,[]),(198,9,[]),(196,9,[]),(193,9,[]),(191,9,[]),(188,9,[]),(186,9,[]),(182,9,[]),(180,9,[]),(177,9,[]),(174,9,[]),(170,20,[]),(167,9,[]),(162,9,[]),(160,9,[]),(158,9,[]),(155,9,[]),(152,20,[]),(146,41,[]),(143,9,[]),(141,9,[]),(137,9,[]),(135,9,[]),(132,9,[]),(130,9,[]),(127,9,[]),(124,9,[]),(120,9,[]),(118,9,[]),(115,9,[]),(111,9,[]),(109,9,[]),(106,9,[]),(102,9,[]),(100,9,[]),(98,37,[]),(97,9,[]),(93,9,[]),(91,9,[]),(87,9,[]),(85,9,[]),(83,9,[]),(80,9,[]),(77,9,[]),(73,9,[]),(71,9,[]),(69,9,[]),(64,9,[]),(62,9,[]),(56,9,[]),(54,9,[]),(50,9,[]),(45,9,[]),(43,9,[]),(41,9,[]),(36,9,[]),(31,9,[]),(29,9,[]),(26,9,[]),(24,36,[]),(22,9,[]),(18,9,[]),(15,9,[]),(13,9,[]),(8,9,[]),(5,9,[]),(3,9,[])]) .n)))))⟩
def ii13:Ins:=⟨⟨36,[(.lc 0 0 [],false)],[(.val (.rc 0),[])],[[]],[.rc 3],false⟩,(wD (.s (wE [(4,8,[]),(1,4,[0])]) .n))⟩
def aHw:Cut:=⟨[wA 17 .bool,wA 5 i6,wC 0 0,wA 1 i6,wC 4 104],[wA 0 (.rc 0),(104,.val (.rc 2),[(6,true)])]⟩
def aHv:Cut:=⟨[wA 5 i6,wC 0 0,wA 1 i6,wC 4 104],[wA 0 (.rc 0),(104,.val (.rc 2),[(6,true)])]⟩
def aHu:Cut:=⟨[wA 27 .bool,wA 20 i6,wC 0 0,wA 1 i6,wC 4 104],[wA 0 (.rc 0),(104,.val (.rc 2),[(6,true)])]⟩
def aHt:Cut:=⟨[wA 60 .bool,wC 0 0,wA 1 i6,wC 4 104],[wA 0 (.rc 0),(104,.val (.rc 2),[(6,true)])]⟩
def yP:Cut:=⟨[wA 7 i6,wC 0 0,wA 1 i6,wA 8 i6,wB 6 (zS 2),wC 4 104],[wA 0 (.rc 0),(104,.val (.rc 2),[(6,true)])]⟩
def uN:Ins:=⟨⟨44,[(.lc 0 0 [],false),(.val i6,false)],[(.val (.rc 0),[])],[[]],[.rc 2],false⟩,(wD (.s (wE [(1,4,[0])]) (.s (wD (.d aHw .n)) (.d aHv (.s (wD (.b (wD (.c (.s (wE [(0,42,[])]) .n) (wD (.c (.s (wE [(0,43,[])]) .n) (wD (.d aHu (.c (.s (wE [(3,44,[]),(1,4,[0])]) .n) (wD (.c (.s (wE [(0,45,[])]) .n) (wD (.c (.s (wE [(0,45,[])]) .n) (wD (.c (.s (wE [(5,46,[]),(4,3,[]),(1,4,[0])]) .n) (wD (.c (.s (wE [(3,47,[]),(1,4,[0])]) .n) (wD (.c (.s (wE [(0,44,[])]) .n) (wD (.c (.s (wE [(0,44,[])]) .n) (wD (.d aHt (.c (.s (.r [0] [] []) (.s (wE [(1,4,[0])]) (.s (wD (.b (.l yP (wD (.s (.b (.r [0,7] [] [(4,14,[0])])) .n))))) (.s (.r [0,1] [] [(1,49,[])]) .n)))) .n)))))))))))))))))))))))) (.s (wE [(3,14,[0])]) (.s (wE [(5,48,[]),(4,14,[0])]) .n)))))))⟩
def ii15:Ins:=⟨⟨62,[(.val (.rc 2),false)],[],[],[.rc 3],false⟩,.n⟩
def ii16:Ins:=⟨⟨47,[],[],[],[(.sl .str)],true⟩,(.s (.r [0] [] []) (.s (.r [1] [] []) .n))⟩
def ii17:Ins:=⟨⟨48,[],[],[],[(.sl .str)],true⟩,(.s (.r [0] [] []) (.s (.r [1] [] []) .n))⟩
def ii18:Ins:=⟨⟨49,[(.val .str,false)],[],[],[.rc 1],false⟩,.n⟩
def ii19:Ins:=⟨⟨63,[(.val (zS 16),false),(.val (.rc 1),false)],[],[],[i6,.bool],false⟩,(wD (.s (wE [(1,50,[])]) (wD (.s (.r [0,2] [] [(2,51,[])]) .n))))⟩
def ii20:Ins:=⟨⟨59,[(.val (.rc 1),false),(.val (zS 3),true)],[],[],[.rc 3],false⟩,.n⟩
def yO:Cut:=⟨[wA 8 i6,wA 7 (zS 6),wA 9 i6,wC 3 103,wC 4 104],[wA 103 (.rc 1),(104,.val (.rc 3),[(9,true),(10,true)])]⟩
def ii21:Ins:=⟨⟨64,[(.val (zS 6),false),(.val (.rc 1),false)],[],[],[.rc 3],false⟩,(wD (.s (wD (.b (.l yO .n))) (.s (wE [(1,52,[])]) .n)))⟩
def aHs:Cut:=⟨[wA 4 .bool],[]⟩
def ii22:Ins:=⟨⟨65,[(.val (.rc 3),false),(.val (.rc 3),false)],[],[],[.bool],false⟩,(wD (.s (.r [24] [] [(24,54,[]),(17,53,[])]) (.d aHs .n)))⟩
def aHr:Cut:=⟨[wA 7 i6,wC 2 102,wC 3 103],[wA 102 (.rc 3),wA 103 (.rc 3)]⟩
def ii23:Ins:=⟨⟨66,[(.val (.rc 3),false),(.val (.rc 3),false)],[],[],[i6],false⟩,(wD (.s (wE [(5,55,[]),(2,55,[])]) (.s (wD (.d aHr .n)) (.s (wE [(2,56,[])]) .n))))⟩
def yN:Cut:=⟨[wA 0 (zS 6),wA 5 i6,wC 3 103,wC 4 104],[wA 103 (.rc 1),(104,.val (.rc 3),[(9,true),(10,true)])]⟩
def ii24:Ins:=⟨⟨67,[(.val (zS 6),false),(.val (.rc 1),false)],[],[],[.rc 3],false⟩,(wD (.s (wD (.b (.l yN .n))) (.s (wE [(1,27,[])]) .n)))⟩
def aHq:Cut:=⟨[wA 4 .bool],[]⟩
def ii25:Ins:=⟨⟨13,[(.val (.rc 3),false),(.val (.rc 3),false)],[],[],[.bool],false⟩,(wD (.s (.r [24] [] [(24,58,[]),(17,57,[])]) (.d aHq .n)))⟩
def ii26:Ins:=⟨⟨29,[(.val (.rc 3),false),(.val (.rc 3),false)],[],[],[i6],false⟩,(wD (.s (wE [(1,59,[])]) (.s (wE [(1,59,[])]) (.s (.b (wD (.c (.s (wE [(2,60,[])]) .n) (wD (.c (.s (wE [(2,60,[])]) .n) (wD (.c (.s (wE [(2,60,[])]) .n) .n))))))) (.s (wE [(2,61,[])]) .n)))))⟩
def ii27:Ins:=⟨⟨57,[(.val (.rc 1),false)],[],[],[.rc 3],false⟩,.n⟩
def ii28:Ins:=⟨⟨60,[(.val .str,false),(.val (zS 3),true)],[],[],[.rc 3],false⟩,(wD (.s (.r [2,3] [] [(3,20,[]),(1,31,[])]) .n))⟩
def ii29:Ins:=⟨⟨83,[],[],[],[zS 2],false⟩,(.s (.r [0] [] []) (.s (.r [2,7] [] [(2,64,[]),(1,63,[]),(0,62,[])]) (.s (.r [0,1] [] []) .n)))⟩
def ct30x1:Cut:=⟨[wA 8 (zS 2),wA 10 i6,wA 5 (zS 2),wA 0 (zS 16),wC 7 107,wC 4 104],[(107,.val (.rc 8),[(2,true),(24,true),(25,true),(35,true),(36,true)]),(104,.val (.rc 16),[(4,true),(7,true),(18,true),(19,true),(20,true),(21,true),(22,true),(23,true),(26,true),(27,true),(28,true),(29,true)])]⟩
def ct30x2:Cut:=⟨[wA 5 (zS 2),wA 0 (zS 16),wB 11 (zS 8),wC 7 107,wC 4 104],[(107,.val (.rc 8),[(2,true),(35,true),(36,true)]),(104,.val (.rc 16),[(4,true),(7,true),(18,true),(19,true),(20,true),(21,true),(22,true),(23,true),(26,true),(27,true),(28,true),(29,true)])]⟩
def ct30x3:Cut:=⟨[wC 7 107,wC 4 104],[(107,.val (.rc 8),[(2,true)]),(104,.val (.rc 16),[(4,true),(7,true),(18,true),(19,true),(20,true),(21,true),(22,true),(23,true),(26,true),(27,true),(28,true),(29,true)])]⟩
def ii30:Ins:=⟨⟨84,[(.val (zS 16),false),(.val (.rc 2),false)],[],[],[.rc 16],false⟩,(wD (.s (.r [5] [] [(1,65,[])]) (.s (wE [(5,15,[]),(4,43,[])]) (.s (.r [7] [] [(3,65,[])]) (.s (wD (.b (.l ct30x1 (wD (.s (.b (.r [1] [] [])) .n))))) (.s (.r [2] [] []) (.s (.r [8] [] [(8,66,[])]) (.s (.s (.r [1] [] [(1,67,[])]) (wD (.c (.r [3] [] [(3,66,[])]) .n))) (.d ct30x2 (.s (.s (.r [0,1] [] [(1,67,[])]) (wD (.c (.r [0,1,3] [] [(3,66,[])]) .n))) (.d ct30x3 .n)))))))))))⟩
def ii31:Ins:=⟨⟨58,[(.val .str,false)],[],[],[.rc 1],false⟩,.n⟩
def ct32x1:Cut:=⟨[wA 2 (zS 2),wA 3 i6,wB 1 (zS 1)],[]⟩
def ct32x2:Cut:=⟨[wB 6 (.sl .str),wA 7 i6,wB 1 (zS 1)],[]⟩
def ii32:Ins:=⟨⟨85,[],[],[],[zS 1],true⟩,(.s (.r [0] [] []) (.s (.r [1] [] [(0,68,[])]) (.s (.r [1] [] [(0,29,[])]) (.s (wD (.b (.l ct32x1 (wD (.s (.b (.s (.r [8] [] [(4,65,[])]) (.r [0,7] [] []))) .n))))) (.s (.r [1] [] []) (.s (wD (.b (.l ct32x2 (wD (.s (.b (.r [0,8] [] [(5,31,[])])) .n))))) (.s (.r [0,1] [] []) .n)))))))⟩
def ii33:Ins:=⟨⟨86,[(.val (.rc 3),false),(.val (.rc 3),false)],[],[],[.rc 3],false⟩,(wD (.s (.r [5,10,12] [] [(12,9,[]),(10,9,[]),(8,36,[]),(7,38,[]),(5,9,[]),(3,38,[]),(2,36,[])]) .n))⟩
def ct34x1:Cut:=⟨[wB 1 (.sl .str),wA 10 i6,wC 9 109,wC 8 108],[(109,.val (.rc 8),[(2,true)]),(108,.val (.rc 8),[(2,true),(13,true),(14,true),(24,true),(25,true),(35,true),(36,true)])]⟩
def ii34:Ins:=⟨⟨87,[(.val .str,false),(.val (.sl .str),true),(.val (.rc 3),false),(.val (.rc 3),false)],[],[],[.rc 8],false⟩,(wD (.s (wE [(2,38,[]),(1,3,[])]) (.s (wD (.b (.l ct34x1 (wD (.s (.b (.r [1] [] [(6,3,[])])) .n))))) .n)))⟩
def ii35:Ins:=⟨⟨71,[(.val .str,false),(.val (zS 3),true)],[],[],[.rc 3],false⟩,(wD (.s (.r [2,3] [] [(3,20,[]),(1,3,[])]) .n))⟩
def ii36:Ins:=⟨⟨37,[],[],[],[.rc 3],false⟩,(wD (.s (wE [(1,15,[]),(0,42,[])]) .n))⟩
def ii37:Ins:=⟨⟨69,[(.val i6,false)],[],[],[.rc 3],false⟩,(wD (.s (wE [(2,15,[]),(1,44,[])]) .n))⟩
def ii38:Ins:=⟨⟨88,[],[],[],[.rc 3],false⟩,(wD (.s (wE [(1,15,[]),(0,43,[])]) .n))⟩
def ii39:Ins:=⟨⟨70,[(.val (.rc 3),false),(.val (.rc 3),false)],[],[],[.rc 3],false⟩,(wD (.s (.r [4] [] [(4,9,[]),(2,36,[])]) .n))⟩
def ii40:Ins:=⟨⟨68,[(.val (.rc 3),false),(.val (.rc 3),false)],[],[],[.rc 3],false⟩,(wD (.s (.r [3] [] [(3,9,[])]) .n))⟩
def ii41:Ins:=⟨⟨22,[(.val (.rc 1),false)],[],[],[.rc 3],false⟩,(wD (.s (wE [(5,27,[]),(4,31,[]),(3,27,[]),(2,31,[]),(1,27,[]),(0,31,[])]) (.s (.r [4,9] [] [(9,20,[]),(4,20,[])]) (.s (.r [5,7] [] [(7,28,[]),(5,20,[])]) (.s (.r [7,9] [] [(9,28,[]),(7,20,[]),(2,69,[])]) (.s (.r [2,7] [] [(12,69,[]),(11,69,[]),(10,69,[]),(7,20,[]),(2,28,[])]) .n))))))⟩
def ii42:Ins:=⟨⟨46,[],[],[],[.rc 2],false⟩,(wD (.s (wE [(1,46,[]),(0,31,[])]) .n))⟩
def ii43:Ins:=⟨⟨92,[],[],[],[.rc 2],false⟩,(wD (.s (wE [(1,46,[]),(0,31,[])]) .n))⟩
def ii44:Ins:=⟨⟨102,[(.val i6,false)],[],[],[.rc 2],false⟩,(wD (.s (wE [(2,45,[]),(1,70,[])]) .n))⟩
def ii45:Ins:=⟨⟨103,[(.val .str,false),(.val .str,false)],[],[],[.rc 2],false⟩,(wD (.s (wE [(2,71,[])]) .n))⟩
def ii46:Ins:=⟨⟨104,[(.val (.rc 1),false)],[],[],[.rc 2],false⟩,.n⟩
def ii47:Ins:=⟨⟨105,[(.val .str,false)],[],[],[.rc 2],false⟩,.n⟩
def ii48:Ins:=⟨⟨107,[(.val (.rc 2),false),(.val (.rc 2),false)],[],[],[.rc 2],false⟩,.n⟩
def ct49x1:Cut:=⟨[wA 0 (zS 2),wA 4 i6,wC 3 103,wC 2 102],[wA 103 (.rc 2),(102,.val (.rc 2),[(6,true)])]⟩
def ii49:Ins:=⟨⟨106,[(.val (zS 2),false)],[],[],[.rc 2],false⟩,(wD (.s (wE [(0,42,[])]) (.s (wD (.b (.l ct49x1 (wD (.s (.b (wE [(5,48,[])])) .n))))) .n)))⟩
def yM:Cut:=⟨[wC 1 101,wB 4 (zS 21),wA 5 i6],[wA 101 (.rc 1)]⟩
def ii50:Ins:=⟨⟨111,[(.val (.rc 1),false)],[],[],[i6,.bool],false⟩,(wD (wD (.s (.r [1] [] [(0,72,[])]) (.s (wD (.b (.l yM .n))) .n))))⟩
def ii51:Ins:=⟨⟨99,[(.val (zS 16),false),(.val (.rc 1),false)],[],[],[.rc 8,.bool],false⟩,(wD (.s (.r [2] [] [(2,73,[])]) (wD (.s (wE [(4,74,[])]) .n))))⟩
def ii52:Ins:=⟨⟨50,[(.val (.rc 1),false)],[],[],[.rc 3],false⟩,.n⟩
def sT:Cut:=⟨[wC 2 102,wC 3 103],[wA 102 (.rc 2),wA 103 (.rc 2)]⟩
def aHo:Cut:=⟨[wA 48 .bool,wC 2 102,wC 3 103],[wA 102 (.rc 2),wA 103 (.rc 2)]⟩
def yL:Cut:=⟨[wA 55 i6,wA 56 i6,wA 5 i6,wC 2 102,wC 3 103],[wA 102 (.rc 2),wA 103 (.rc 2)]⟩
def aAG:Ins:=⟨⟨112,[(.val (.rc 2),false),(.val (.rc 2),false)],[],[],[.bool],false⟩,(wD (.b (.l sT (.b (.s (wD (.d aHo .n)) (wD (wD (.s (wD (.b (.l yL (wD (wD (.s (.b (wD (.s (wE [(10,53,[])]) .n))) .n)))))) .n))))))))⟩
def yK:Cut:=⟨[wA 16 i6,wA 15 (zS 3),wA 1 (zS 3),(2,.cl 65 [],[]),wA 17 i6],[]⟩
def ii54:Ins:=⟨⟨113,[(.val (zS 3),false),(.val (zS 3),false),(.cl 65 [],false)],[],[],[.bool],false⟩,(wD (wD (.s (wD (.b (.l yK (wD (wD (.s (.b (wD (wD (.s (wE [(3,22,[])]) .n)))) .n)))))) .n)))⟩
def aHn:Cut:=⟨[wC 3 103,wC 4 104],[wA 103 (.rc 19),wA 104 (.rc 19)]⟩
def yJ:Cut:=⟨[wA 32 i6,wA 31 (zS 3),wA 33 i6,wC 3 103,wC 4 104],[wA 103 (.rc 19),wA 104 (.rc 19)]⟩
def aGI:Ins:=⟨⟨114,[(.val (.rc 3),false),(.val (.rc 19),false)],[],[],[.rc 19],false⟩,(wD (.s (wD (.b (wD (.c .n (wD (.c (wE [(4,75,[])]) (wD (.c (wD (wD (.b (.l yJ (wD (wD (.s (.b (wD (wE [(2,55,[])]))) .n))))))) .n)))))))) (.d aHn .n)))⟩
def yH:Cut:=⟨[wA 51 i6,wA 50 (zS 3),wC 3 103,wA 52 i6],[wA 103 (.rc 3)]⟩
def ii56:Ins:=⟨⟨116,[(.val (.rc 3),false),(.val (.rc 3),false)],[],[],[i6],false⟩,(wD (wD (.s (wD (.c (.s (wE [(4,76,[])]) .n) .n)) (.s (.s (wE [(4,77,[])]) .n) (wD (.s (wD (.b (.l yH (wD (wD (.s (.b (wD (.s (wE [(6,56,[])]) .n))) .n)))))) .n))))))⟩
def aHm:Cut:=⟨[wA 47 .bool,wC 2 102,wC 3 103],[wA 102 (.rc 2),wA 103 (.rc 2)]⟩
def yG:Cut:=⟨[wC 2 102,wC 3 103,wA 5 i6],[wA 102 (.rc 2),wA 103 (.rc 2)]⟩
def aFe:Ins:=⟨⟨40,[(.val (.rc 2),false),(.val (.rc 2),false)],[],[],[.bool],false⟩,(wD (.s (wD (.d aHm .n)) (.s (wD (.b (.l yG (wD (.s (.b (.s (wE [(10,57,[])]) .n)) .n))))) .n)))⟩
def yF:Cut:=⟨[wA 0 (zS 3),wA 1 (zS 3),wA 5 i6],[]⟩
def ii58:Ins:=⟨⟨41,[(.val (zS 3),false),(.val (zS 3),false)],[],[],[.bool],false⟩,(wD (wD (.s (wD (.b (.l yF (wD (.s (.b (.s (wE [(8,25,[])]) .n)) .n))))) .n)))⟩
def yE:Cut:=⟨[wC 1 101,wA 8 i6,wA 5 i6,wA 6 i6,wA 7 i6],[wA 101 (.rc 3)]⟩
def ii59:Ins:=⟨⟨80,[(.val (.rc 3),false)],[],[],[i6,i6,i6],false⟩,(wD (.s (wD (.b (wD (.c .n (wD (.c (.s (wE [(2,78,[])]) .n) .n)))))) (wD (.s (wD (.b (.l yE (wD (.s (.b (.s (wE [(5,59,[])]) .n)) .n))))) .n))))⟩
def ii60:Ins:=⟨⟨81,[(.val i6,false),(.val i6,false)],[],[],[i6],false⟩,.n⟩
def aHk:Cut:=⟨[wC 2 102,wC 3 103,wA 5 i6],[wA 102 (.rc 3),wA 103 (.rc 3)]⟩
def sS:Cut:=⟨[wC 2 102,wC 3 103,wA 6 i6,wA 5 i6],[wA 102 (.rc 3),wA 103 (.rc 3)]⟩
def aHj:Cut:=⟨[wA 60 .bool,wA 6 i6,wC 2 102,wC 3 103,wA 5 i6],[wA 102 (.rc 3),wA 103 (.rc 3)]⟩
def aC9:Ins:=⟨⟨82,[(.val (.rc 3),false),(.val (.rc 3),false)],[],[],[i6],false⟩,(wD (.s (wE [(4,60,[])]) (wD (.s (wD (.b (wD (.c (.s (wE [(4,79,[])]) .n) (wD (.c (.s (wE [(4,80,[])]) .n) .n)))))) (.s (wE [(4,79,[])]) (.s (wD (.c (wE [(6,60,[])]) .n)) (.d aHk (.s (wD (.b (.l sS (.s (wD (.d aHj .n)) (.s (.b (wE [(10,61,[])])) .n))))) .n))))))))⟩
def ii62:Ins:=⟨⟨134,[],[],[],[zS 9],true⟩,(.s (.r [0] [] []) (.s (.r [2] [] []) .n))⟩
def ii63:Ins:=⟨⟨135,[],[],[],[.str],false⟩,.n⟩
def sR:Cut:=⟨[wC 10 129,wB 11 (zS 2),wC 7 107],[wA 129 (.rc 23),wA 107 (.rc 20)]⟩
def aHi:Cut:=⟨[wA 74 .bool,wA 12 i6,wB 11 (zS 2),wC 10 129,wC 7 107],[wA 129 (.rc 23),wA 107 (.rc 20)]⟩
def aFd:Ins:=⟨⟨133,[(.val (zS 9),true),(.val .str,false),(.val .str,false)],[],[],[zS 2,.rc 20],false⟩,(.s (.r [0] [] []) (.s (.r [6] [] [(1,81,[])]) (.s (wD (.c (.s (.r [1] [] []) .n) .n)) (wD (.s (.r [0] [] []) (.s (.b (.l sR (wD (.b (wD (.s (wD (wD (.d aHi (.c (.s (.r [2] [] [(1,82,[])]) .n) .n)))) (.s (wE [(1,83,[129])]) (.s (wD (.c (.s (.r [1] [] []) .n) .n)) (.s (.s (wE [(1,78,[])]) (.c (.s (.r [2] [] [(1,82,[])]) .n) .n)) (.r [0,4] [] [])))))))))) (.s (.r [0,2] [] []) .n)))))))⟩
def ct65x1:Cut:=⟨[wC 1 101,wB 4 (zS 2)],[wA 101 (.rc 2)]⟩
def ii65:Ins:=⟨⟨136,[(.val (.rc 2),false)],[],[],[zS 2,.bool],false⟩,(.s (.r [1] [] []) (.s (.r [0] [] []) (.s (.b (.l ct65x1 (.s (.s (wE [(1,84,[])]) .n) (.b (.s (.r [0,7] [] []) .n))))) (.s (.s (wE [(1,85,[])]) (.c (.s (.r [0] [] []) .n) .n)) (.s (.r [0,1] [] []) .n)))))⟩
def ii66:Ins:=⟨⟨137,[(.val (zS 16),false),(.val (zS 8),false),(.val (.rc 2),false)],[],[],[.rc 3,i6],false⟩,(wD (wD (.s (wE [(2,86,[114])]) (wD (.s (.s (wE [(1,87,[])]) .n) .n)))))⟩
def ct67x1:Cut:=⟨[wA 0 (zS 2),wA 1 .str,wA 6 i6,wC 4 104],[(104,.val (.rc 2),[(6,true)])]⟩
def ct67x2:Cut:=⟨[wA 38 .bool,wA 7 (zS 2),wA 6 i6,wA 0 (zS 2),wA 1 .str,wC 4 104],[(104,.val (.rc 2),[(6,true)])]⟩
def ii67:Ins:=⟨⟨138,[(.val (zS 2),false),(.val .str,false)],[],[],[.rc 2,.bool],false⟩,(wD (.s (wD (.b (.l ct67x1 (wD (.s (.b (.s (.r [8] [] [(4,65,[])]) (.s (wE [(12,31,[])]) (.d ct67x2 .n)))) .n))))) .n))⟩
def ct68x1:Cut:=⟨[wB 1 (zS 21),wA 3 i6,wB 2 (zS 1)],[]⟩
def ii68:Ins:=⟨⟨139,[],[],[],[zS 1],true⟩,(.s (.r [0] [] []) (.s (.r [1] [] [(0,72,[])]) (.s (.r [0] [] []) (.s (wD (.b (.l ct68x1 (wD (.s (.b (.r [0,9] [] [(6,31,[])])) .n))))) (.s (.r [0,1] [] []) .n)))))⟩
def ii69:Ins:=⟨⟨61,[(.val (.rc 3),false),(.val (.rc 3),false)],[],[],[.rc 3],false⟩,(wD (.s (.r [4] [] [(4,28,[]),(2,88,[])]) .n))⟩
def ii70:Ins:=⟨⟨148,[(.val i6,false)],[],[],[.str],false⟩,(wD (.s (wE [(1,89,[])]) .n))⟩
def ii71:Ins:=⟨⟨149,[(.val .str,false),(.val .str,false)],[],[],[.str,.str],false⟩,(wD (.s (.r [6] [] [(1,90,[])]) (wD (.s (.r [6] [] [(1,90,[])]) (.s (.r [8] [] [(3,90,[]),(2,91,[])]) (.s (.r [0,2,6] [] [(2,92,[])]) (.s (.r [0,1,2,6] [] [(2,92,[])]) (.s (.r [3,4,5,6] [] [(6,93,[]),(4,93,[])]) .n))))))))⟩
def ii72:Ins:=⟨⟨154,[],[],[],[zS 21],true⟩,(.s (.r [0] [] []) (.s (.r [26] [] []) .n))⟩
def sQ:Cut:=⟨[wA 0 (zS 16),wC 3 103,wA 7 i6],[wA 103 (.rc 1)]⟩
def yD:Cut:=⟨[wA 8 (zS 8),wA 9 i6,wA 7 i6,wA 0 (zS 16),wC 3 103],[wA 103 (.rc 1)]⟩
def aEF:Ins:=⟨⟨145,[(.val (zS 16),false),(.val (.rc 1),false)],[],[],[i6,i6,.bool],false⟩,(wD (.s (wD (.b (.l sQ (wD (.s (.b (.s (.r [5] [] [(4,74,[])]) (wD (.b (.l yD .n))))) .n))))) .n))⟩
def aHg:Cut:=⟨[wA 5 .bool,wC 1 101],[wA 101 (.rc 16)]⟩
def ii74:Ins:=⟨⟨146,[(.val (.rc 16),false)],[],[],[zS 8],false⟩,(.s (.r [1] [] []) (.s (wD (.b (wD (.d aHg (.c (.s (.r [1,2] [] []) .n) .n))))) (.s (.r [0] [] []) .n)))⟩
def ii75:Ins:=⟨⟨155,[(.val (.rc 2),false)],[],[],[i6],false⟩,(wD (.s (wE [(1,94,[])]) .n))⟩
def sP:Cut:=⟨[wC 2 102,wC 3 103],[wA 102 (.rc 2),wA 103 (.rc 2)]⟩
def aHf:Cut:=⟨[wA 14 .bool,wC 2 102,wC 3 103],[wA 102 (.rc 2),wA 103 (.rc 2)]⟩
def aFc:Ins:=⟨⟨157,[(.val (.rc 2),false),(.val (.rc 2),false)],[],[],[i6],false⟩,(wD (.s (.b (.l sP (.s (.s (wE [(4,95,[]),(1,95,[])]) (.d aHf .n)) (.b (.s (.s (wE [(8,76,[])]) .n) .n))))) (.s (.s (wE [(5,96,[]),(2,96,[])]) .n) (.s (wD (.b (wD (.c (.s (wE [(2,97,[])]) .n) (wD (.c (.s (wE [(4,98,[])]) .n) .n)))))) (.s (.s (wE [(6,98,[])]) .n) (.s (wE [(6,98,[])]) .n))))))⟩
def ii77:Ins:=⟨⟨158,[(.val (.rc 1),false),(.val (.rc 1),false)],[],[],[i6],false⟩,(wD (.s (.s (wE [(4,98,[])]) .n) (.s (wE [(4,98,[])]) .n)))⟩
def ii78:Ins:=⟨⟨130,[(.val (.rc 2),false)],[],[],[i6],false⟩,(wD (.s (wE [(1,99,[])]) .n))⟩
def ii79:Ins:=⟨⟨131,[(.val (.rc 1),false),(.val (.rc 1),false)],[],[],[i6],false⟩,(wD (.s (wD (.c (.s (wE [(4,100,[])]) .n) .n)) (.s (wE [(4,100,[])]) .n)))⟩
def aHd:Cut:=⟨[wA 52 .bool,wC 2 102,wC 3 103],[wA 102 (.rc 2),wA 103 (.rc 2)]⟩
def ii80:Ins:=⟨⟨132,[(.val (.rc 2),false),(.val (.rc 2),false)],[],[],[i6],false⟩,(wD (.s (.s (wE [(3,101,[]),(1,101,[])]) (.c (.s (.s (wE [(3,101,[]),(1,101,[])]) .n) .n) .n)) (.s (.s (wE [(1,101,[])]) (.b (wD (.c (.s (wE [(10,103,[]),(9,102,[]),(4,102,[])]) .n) (wD (.c (.s (wE [(4,100,[])]) .n) (wD (.c (.s (wE [(4,79,[])]) .n) .n)))))))) (.s (.s (wE [(5,84,[]),(1,84,[])]) (.d aHd .n)) (.s (wE [(8,80,[])]) (wD (.s (wE [(8,80,[])]) .n)))))))⟩
def yC:Cut:=⟨[wA 5 i6,wA 0 .str,wC 3 103,wB 4 (zS 22)],[wA 103 (.rc 20)]⟩
def ii81:Ins:=⟨⟨172,[(.val .str,false)],[],[],[zS 22,.rc 20],false⟩,(.s (.r [0] [] []) (.s (wD (.c (.s (.r [1] [] [(0,82,[])]) .n) .n)) (.s (.r [0] [] []) (wD (.b (.l yC (.b (.s (wE [(2,104,[])]) (.s (wD (.c (.s (.r [3] [] [(2,82,[])]) .n) .n)) (.s (wD (.c (.s (.r [0,7] [] []) .n) .n)) (.s (wE [(2,105,[])]) (.s (wD (.c (.s (.r [1] [] []) .n) .n)) (.s (.r [0,4] [] []) .n)))))))))))))⟩
def ii82:Ins:=⟨⟨173,[(.val i6,false),(.val i6,false)],[],[],[.rc 20],false⟩,.n⟩
def aHc:Cut:=⟨[wA 31 .bool,wA 24 i6,wC 6 106,wC 7 107,wC 0 0,wA 1 i6,wC 4 104,wC 5 105],[wA 0 (.rc 23),wA 106 (.rc 22),(107,.val (.rc 2),[(6,true)]),(104,.val (.rc 2),[(6,true)]),wA 105 (.rc 20)]⟩
def aHb:Cut:=⟨[wC 0 0,wA 8 .str,wC 7 107,wC 6 106,wC 4 104,wC 5 105],[wA 0 (.rc 23),(107,.val (.rc 2),[(6,true)]),wA 106 (.rc 22),(104,.val (.rc 2),[(6,true)]),wA 105 (.rc 20)]⟩
def ii83:Ins:=⟨⟨174,[(.lc 0 0 [],false),(.val i6,false)],[(.val (.rc 23),[])],[[]],[.rc 2,.rc 20],false⟩,(wD (wD (wD (.s (wD (.b (wD (.c (.s (wE [(3,82,[])]) .n) (wD (.d aHc (.c (.s (wE [(3,82,[])]) .n) (wD (.c .n (wD (.c (wD (.s (wE [(2,47,[])]) .n)) (wD (.c (wD (wD (wD (.d aHb (.s (.r [7] [] [(7,107,[])]) (.s (wD (.c (.s (wE [(4,82,[])]) .n) .n)) (.s (wE [(1,46,[])]) .n))))))) .n))))))))))))) (.s (wD (.c (.s (wE [(3,82,[])]) .n) .n)) (wD (.s (wD (.c (.s (wE [(3,83,[0])]) (wD (.s (.r [4] [] [(4,49,[]),(1,46,[]),(0,31,[])]) .n))) .n)) (.s (wE [(3,106,[0])]) .n))))))))⟩
def aHa:Cut:=⟨[wA 2 .bool],[]⟩
def ii84:Ins:=⟨⟨171,[(.val (.rc 2),false)],[],[],[.bool],false⟩,(wD (wD (.d aHa .n)))⟩
def ii85:Ins:=⟨⟨175,[(.val (.rc 2),false)],[],[],[.bool],false⟩,(wD (.s (wE [(2,57,[]),(1,42,[])]) .n))⟩
def ct86x1:Cut:=⟨[wA 30 .bool,wA 29 i6,wC 4 104,wA 2 (zS 6),wC 0 0,wC 6 106],[wA 0 (.rc 24),wA 104 (.rc 2),(106,.val (.rc 3),[(9,true),(10,true)])]⟩
def ct86x2:Cut:=⟨[wA 73 .bool,wA 10 (zS 2),wC 4 104,wA 2 (zS 6),wC 0 0,wC 6 106],[wA 0 (.rc 24),wA 104 (.rc 2),(106,.val (.rc 3),[(9,true),(10,true)])]⟩
def ct86x3:Cut:=⟨[wA 127 .bool,wC 0 0,wC 14 114,wA 2 (zS 6),wC 6 106],[wA 0 (.rc 24),wA 114 (.rc 2),(106,.val (.rc 3),[(9,true),(10,true)])]⟩
def ct86x4:Cut:=⟨[wA 148 .bool,wC 4 104,wA 13 (zS 2),wA 2 (zS 6),wC 0 0,wC 12 112,wC 6 106],[wA 0 (.rc 24),wA 104 (.rc 2),wA 112 (.rc 1),(106,.val (.rc 3),[(9,true),(10,true)])]⟩
def ct86x5:Cut:=⟨[wA 13 (zS 2),wA 2 (zS 6),wA 24 i6,wC 0 0,wC 12 112,wB 23 (zS 3),wC 6 106],[wA 0 (.rc 24),wA 112 (.rc 1),(106,.val (.rc 3),[(9,true),(10,true)])]⟩
def ii86:Ins:=⟨⟨176,[(.lc 0 0 [],false),(.val (.rc 2),false),(.val (zS 6),false)],[(.val (.rc 24),[])],[[]],[.rc 3,i6],false⟩,(wD (.s (wD (.b (wD (.d ct86x1 (.c (.s (wE [(1,15,[])]) .n) (wD (.c (.s (.s (wE [(2,108,[])]) (.c (.s (wE [(1,15,[])]) .n) .n)) (.s (.s (.r [0,3] [] [(3,109,[])]) .n) (.s (wE [(2,27,[])]) .n))) .n))))))) (.s (.r [5] [] [(1,65,[])]) (.s (wD (.d ct86x2 .n)) (.s (.r [8] [] []) (.s (wD (.b (.s (wE [(0,31,[])]) (.c (wD (.s (wE [(3,15,[])]) .n)) (.s (wE [(0,31,[])]) (.c (.s (.r [1,2,3] [] [(3,110,[0])]) .n) (.s (wE [(0,31,[])]) (.c (.s (.r [1] [] [(1,111,[])]) (wD (.s (.r [7] [] [(3,65,[])]) (.s (.s (wE [(5,112,[0])]) (.d ct86x3 .n)) (.s (.r [2,3] [] [(3,86,[0])]) .n))))) .n)))))))) (.s (.s (.r [5] [] [(5,113,[])]) (.s (wE [(3,114,[])]) (.d ct86x4 (.c (.s (.s (wE [(1,112,[0])]) .n) (.s (.r [5] [] [(5,115,[])]) (wD (.s (.r [2,3] [] [(3,86,[0])]) .n)))) .n)))) (.s (.r [0] [] []) (.s (wD (.b (.l ct86x5 (wD (.s (.b (.s (.r [6] [] [(6,86,[0])]) (wD (.r [0,4] [] [])))) .n))))) (.s (wE [(2,116,[0])]) (wD (wD (.s (.r [1,2] [] [(2,20,[])]) .n)))))))))))))⟩
def aG9:Cut:=⟨[wA 2 .bool],[]⟩
def ii87:Ins:=⟨⟨177,[(.val (.rc 3),false)],[],[],[.bool],false⟩,(wD (.s (wE [(10,119,[]),(5,118,[]),(1,117,[])]) (.d aG9 .n)))⟩
def ii88:Ins:=⟨⟨91,[],[],[],[.rc 3],false⟩,(wD (.s (wE [(1,15,[]),(0,42,[])]) .n))⟩
def ii89:Ins:=⟨⟨180,[(.val i6,false)],[],[],[.str],false⟩,(wD (.s (wE [(1,120,[])]) .n))⟩
def aG8:Cut:=⟨[wA 14 .bool,wA 0 .str],[]⟩
def aG7:Cut:=⟨[wA 5 i6,wA 0 .str,wA 4 .bool],[]⟩
def yA:Cut:=⟨[wA 5 i6,wA 0 .str,wA 7 i6,wA 4 .bool,wB 6 (.sl i6)],[]⟩
def aC8:Ins:=⟨⟨181,[(.val .str,false)],[],[],[.bool,.sl i6],false⟩,(.s (.r [1] [] []) (.s (.s (wE [(1,121,[])]) (.d aG8 (.c (.s (.r [1] [] []) .n) .n))) (wD (wD (wD (.d aG7 (.s (.r [0] [] []) (.s (wD (.b (.l yA (wD (.s (.b (.r [0,8] [] [])) .n))))) (.s (.r [1,3] [] []) .n)))))))))⟩
def ct91x1:Cut:=⟨[wA 8 (.sl i6),wA 6 (.sl i6)],[]⟩
def ii91:Ins:=⟨⟨182,[(.val .str,false),(.val .str,false)],[],[],[.str],false⟩,(wD (.s (.r [6] [] [(1,90,[])]) (.s (.r [6] [] [(1,90,[])]) (.s (.b (.l ct91x1 (wD (.b (.s (.r [0,2,6,7] [] [(2,92,[])]) (.r [0,1,2,3] [] [])))))) (.s (.r [0,1] [] [(1,93,[])]) .n)))))⟩
def ct92x1:Cut:=⟨[wA 0 (.sl i6),wA 1 (.sl i6),wA 8 i6,(6,.rw 111,[]),wA 7 (.sl i6)],[(111,.row i6,[])]⟩
def ct92x2:Cut:=⟨[wA 8 i6,wA 0 (.sl i6),wA 1 (.sl i6),(6,.rw 111,[]),wA 7 (.sl i6)],[(111,.row i6,[])]⟩
def ii92:Ins:=⟨⟨183,[(.val (.sl i6),false),(.val (.sl i6),false)],[],[],[.sl i6,.sl i6],false⟩,(.s (.r [0,1] [] []) (.s (.r [3] [] []) (.s (.r [0] [] []) (.s (wD (.b (.l ct92x1 (wD (.s (.b (.s (.r [7,8] [] [(7,122,[])]) (.b (.l ct92x2 (.s (.s (.r [2] [] [(2,123,[])]) .n) (.b (.s (.r [0,2,3] [] [(2,124,[])]) .n))))))) .n))))) (.s (.r [0,1,2,3,4] [(1,40)] [(1,122,[])]) .n)))))⟩
def aG6:Cut:=⟨[wA 1 (.sl i6),wB 5 (.sl (.int .u8))],[]⟩
def xZ:Cut:=⟨[wA 1 (.sl i6),wA 6 i6,wB 5 (.sl (.int .u8))],[]⟩
def aGH:Ins:=⟨⟨184,[(.val .bool,false),(.val (.sl i6),false)],[],[],[.str],false⟩,(wD (.s (.r [0,1,2] [] [(1,122,[])]) (wD (.s (.r [0] [] []) (.s (wD (.c (.r [0,3] [] []) .n)) (.d aG6 (.s (wD (.b (.l xZ (wD (.s (.b (.r [0,9] [] [])) .n))))) .n)))))))⟩
def sO:Cut:=⟨[wC 2 102,wA 1 i6],[wA 102 (.rc 2)]⟩
def aG5:Cut:=⟨[wA 12 .bool,wC 2 102,wA 1 i6],[wA 102 (.rc 2)]⟩
def aFb:Ins:=⟨⟨188,[(.val (.rc 2),false),(.val i6,false)],[],[],[i6],false⟩,(wD (.s (.b (.l sO (.s (wD (.d aG5 .n)) (.b (.s (wE [(6,94,[])]) .n))))) .n))⟩
def aG4:Cut:=⟨[wA 2 .bool],[]⟩
def ii95:Ins:=⟨⟨190,[(.val (.rc 2),false)],[],[],[.bool],false⟩,(wD (wD (.d aG4 .n)))⟩
def ii96:Ins:=⟨⟨191,[(.val i6,false)],[],[],[i6],false⟩,.n⟩
def ii97:Ins:=⟨⟨192,[(.val (.rc 2),false),(.val (.rc 2),false)],[],[],[i6],false⟩,(wD (.s (wD (.c (.s (wE [(4,125,[])]) .n) .n)) (.s (wE [(10,125,[]),(9,126,[]),(4,126,[])]) .n)))⟩
def ii98:Ins:=⟨⟨193,[(.val .str,false),(.val .str,false)],[],[],[i6],false⟩,.n⟩
def aG3:Cut:=⟨[wA 13 .bool,wC 2 102,wA 1 i6],[wA 102 (.rc 2)]⟩
def ii99:Ins:=⟨⟨166,[(.val (.rc 2),false),(.val i6,false)],[],[],[i6],false⟩,(wD (.s (wD (.d aG3 .n)) (.s (wE [(6,99,[])]) (wD (.s (wE [(8,99,[])]) .n)))))⟩
def ii100:Ins:=⟨⟨167,[(.val .str,false),(.val .str,false)],[],[],[i6],false⟩,.n⟩
def ii101:Ins:=⟨⟨168,[(.val (.rc 2),false)],[],[],[i6],false⟩,.n⟩
def ii102:Ins:=⟨⟨170,[(.val .str,false),(.val .str,false)],[],[],[.str],false⟩,(wD (.s (.r [6] [] [(1,90,[])]) (.s (.r [6] [] [(1,90,[])]) (.s (.r [3,4,5,6] [] [(6,93,[]),(5,127,[])]) .n))))⟩
def aBz:Cut:=⟨[wA 19 .bool,wA 7 .bool,wA 5 .bool,wA 6 (.sl i6),wA 8 (.sl i6)],[]⟩
def aBy:Cut:=⟨[wA 25 .bool,wA 5 .bool,wA 6 (.sl i6),wA 8 (.sl i6)],[]⟩
def rJ:Ins:=⟨⟨169,[(.val .str,false),(.val .str,false)],[],[],[i6],false⟩,(wD (.s (.r [6] [] [(1,90,[])]) (.s (.r [6] [] [(1,90,[])]) (.s (.b (wD (.d aBz (.c .n (wD (.d aBy (.c .n (wD (.c (.s (.r [0,1,2] [] [(2,123,[])]) .n) .n))))))))) (.s (.r [0,1,2] [] [(2,123,[])]) .n)))))⟩
def nT:Cut:=⟨[wA 0 .str,wA 1 i6],[]⟩
def nS:Cut:=⟨[wA 0 .str,wA 1 i6],[]⟩
def qP:Cut:=⟨[wA 6 i6,wA 0 .str,wA 1 i6],[]⟩
def aBx:Cut:=⟨[wA 33 .bool,wA 0 .str,wA 1 i6],[]⟩
def iO:Ins:=⟨⟨203,[(.val .str,false),(.val i6,false)],[],[],[i6,.bool],false⟩,(wD (.s (.b (.l nT (wD (.b (.b (.s (wE [(3,128,[])]) (.c .n (wD (.c (.b (.l nS (.s (wD (.d aBx .n)) .n))) (.s (wE [(2,129,[])]) (.c (wD (wD (.b (.l qP (wD (.b (.b (wD (.c .n (.s (wE [(2,129,[])]) (.c .n (.s (wE [(2,129,[])]) .n)))))))))))) .n))))))))))) .n))⟩
def aBw:Cut:=⟨[wA 65 .bool,wC 7 107,wA 1 i6,wC 8 108,wC 4 104,wC 6 106],[wA 107 (.rc 22),wA 108 (.rc 20),wA 104 (.rc 22),wA 106 (.rc 20)]⟩
def aBv:Cut:=⟨[wC 7 107,wA 1 i6,wC 8 108,wC 4 104,wC 6 106],[wA 107 (.rc 22),wA 108 (.rc 20),wA 104 (.rc 22),wA 106 (.rc 20)]⟩
def aBu:Cut:=⟨[wC 7 107,wA 10 i6,wC 8 108,wC 4 104,wC 6 106],[wA 107 (.rc 22),wA 108 (.rc 20),wA 104 (.rc 22),wA 106 (.rc 20)]⟩
def aBt:Cut:=⟨[wA 163 .bool,wA 1 i6,wC 7 107,wA 10 i6,wC 8 108,wC 4 104,wC 6 106],[wA 107 (.rc 22),wA 108 (.rc 20),wA 104 (.rc 22),wA 106 (.rc 20)]⟩
def aBs:Cut:=⟨[wC 7 107,wA 1 i6,wC 8 108,wC 4 104,wC 6 106],[wA 107 (.rc 22),wA 108 (.rc 20),wA 104 (.rc 22),wA 106 (.rc 20)]⟩
def iN:Ins:=⟨⟨204,[(.val .str,false),(.val i6,false)],[],[],[.rc 22,i6,.rc 20],false⟩,(wD (wD (wD (.s (wD (.b (wD (.c .n (wD (.c .n (wD (.c .n (wD (.c (wD (.s (wE [(3,130,[])]) (.s (wD (.d aBw (.c (wE [(2,82,[])]) .n))) (.d aBs .n)))) (wD (.c (wD (.s (wE [(3,130,[])]) (.s (wD (.c (wE [(1,131,[])]) .n)) (.d aBv .n)))) (.s (wE [(1,132,[])]) (.c (.s (wE [(3,82,[])]) .n) .n)))))))))))))) (.s (wE [(2,133,[])]) (wD (.s (.s (wE [(2,129,[])]) (.c (.s (wE [(4,134,[])]) .n) .n)) (.s (wE [(1,135,[])]) (.s (.b (wD (.c .n (wD (.c (.s (.s (wE [(1,136,[])]) (.c (.s (wE [(3,82,[])]) .n) .n)) (wD (.s (wE [(4,71,[]),(3,136,[]),(1,136,[])]) (.s (wE [(7,137,[]),(2,137,[])]) (.d aBt (.c (.s (wE [(3,82,[])]) .n) .n)))))) (wD (wD (wE [(1,131,[])])))))))) (.d aBu .n))))))))))⟩
def nR:Cut:=⟨[wA 1 i6,wC 0 0,wB 6 (zS 2),wC 7 107,wC 4 104,wC 5 105],[wA 0 (.rc 23),wA 107 (.rc 2),(104,.val (.rc 2),[(6,true)]),wA 105 (.rc 20)]⟩
def aBr:Cut:=⟨[wA 43 .bool,wB 6 (zS 2),wA 1 i6,wC 0 0,wC 7 107,wC 4 104,wC 5 105],[wA 0 (.rc 23),wA 107 (.rc 2),(104,.val (.rc 2),[(6,true)]),wA 105 (.rc 20)]⟩
def aBq:Cut:=⟨[wC 0 0,wB 6 (zS 2),wC 7 107,wC 4 104,wC 5 105],[wA 0 (.rc 23),wA 107 (.rc 2),(104,.val (.rc 2),[(6,true)]),wA 105 (.rc 20)]⟩
def qO:Cut:=⟨[wB 6 (zS 2),wA 13 i6,wC 7 107,wC 4 104,wC 5 105],[wA 0 (.rc 23),wA 107 (.rc 2),(104,.val (.rc 2),[(6,true)]),wA 105 (.rc 20)]⟩
def iM:Ins:=⟨⟨206,[(.lc 0 0 [],false),(.val i6,false)],[(.val (.rc 23),[])],[[]],[.rc 2,.rc 20],false⟩,(wD (.s (.r [0] [] []) (.s (wE [(0,42,[])]) (.s (.b (.l nR (wD (.b (.s (wD (.d aBr (.c (wD (.s (wE [(2,83,[0])]) (wD (wD (.s (wD (wD (.b (wD (.c .n (wD (.c (.s (wE [(3,82,[])]) .n) (.s (wE [(3,82,[])]) .n)))))))) .n))))) .n))) (.s (wE [(2,83,[0])]) (wD (.r [0,4] [] [])))))))) (.d aBq (wD (.s (wD (.b (.l qO (wD (.s (.b (wE [(5,48,[])])) .n))))) .n)))))))⟩
def aBp:Cut:=⟨[wA 27 .bool,wC 8 108,wA 1 .str,wA 2 .str,wC 6 106],[wA 108 (.rc 9),wA 106 (.rc 1)]⟩
def qN:Cut:=⟨[wC 8 108,wA 10 i6,wA 1 .str,wA 2 .str,wC 6 106],[wA 108 (.rc 9),wA 106 (.rc 1)]⟩
def oV:Ins:=⟨⟨205,[(.val (zS 9),false),(.val .str,false),(.val .str,false)],[],[],[.rc 1,i6],false⟩,(wD (.s (.r [0,2] [] [(2,138,[])]) (wD (.s (wD (.d aBp .n)) (.s (wD (.b (.l qN .n))) .n)))))⟩
def aBo:Cut:=⟨[wA 2 .bool],[]⟩
def aAM:Ins:=⟨⟨207,[(.val (.rc 1),false)],[],[],[.bool],false⟩,(wD (.s (wE [(9,31,[]),(4,31,[]),(1,139,[])]) (.d aBo .n)))⟩
def ct109x1:Cut:=⟨[wC 3 103,wA 0 (zS 6),wA 6 i6,wC 4 104],[wA 103 (.rc 1),(104,.val (.rc 3),[(9,true),(10,true)])]⟩
def ii109:Ins:=⟨⟨178,[(.val (zS 6),false),(.val (.rc 1),false)],[],[],[.rc 3,.bool],false⟩,(wD (.s (wD (.b (.l ct109x1 .n))) .n))⟩
def ct110x1:Cut:=⟨[wA 9 (zS 2),wA 8 (zS 1),wA 12 i6,wC 0 0,wA 1 (zS 2),wB 11 (zS 6),wA 2 (zS 6),wC 6 106],[wA 0 (.rc 24),(106,.val (.rc 3),[(9,true),(10,true)])]⟩
def ii110:Ins:=⟨⟨208,[(.lc 0 0 [],false),(.val (zS 2),false),(.val (zS 6),false)],[(.val (.rc 24),[])],[[]],[.rc 3,i6],false⟩,(wD (wD (.s (.r [8,9] [] [(3,140,[])]) (wD (.s (.r [0] [] []) (.s (wD (.b (.l ct110x1 (wD (.s (.b (.s (.r [6] [] [(6,86,[0])]) (wD (.r [0,9] [] [])))) .n))))) (.s (.r [4,7] [] [(7,86,[0])]) .n)))))))⟩
def ct111x1:Cut:=⟨[wA 6 i6,wA 4 (zS 2),wA 0 (zS 2),wC 2 102],[(102,.val (.rc 2),[(6,true)])]⟩
def ct111x2:Cut:=⟨[wA 43 .bool,wA 6 i6,wA 4 (zS 2),wA 0 (zS 2),wC 2 102],[(102,.val (.rc 2),[(6,true)])]⟩
def ii111:Ins:=⟨⟨209,[(.val (zS 2),false)],[],[],[.rc 2,.bool],false⟩,(wD (wD (.s (.r [7] [] [(3,65,[])]) (wD (.s (wD (.b (.l ct111x1 (wD (.s (.b (.s (.r [8] [] [(4,65,[])]) (wD (.d ct111x2 .n)))) .n))))) (wD (.s (.r [4,7,12,14] [] [(14,141,[]),(12,141,[]),(7,49,[]),(4,49,[])]) .n)))))))⟩
def ii112:Ins:=⟨⟨210,[(.lc 0 0 [],false)],[(.val (.rc 24),[])],[[]],[.bool],false⟩,.n⟩
def nQ:Cut:=⟨[wC 3 103,wA 0 (zS 16),wA 6 i6,wC 4 104],[wA 103 (.rc 1),(104,.val (.rc 10),[(2,true),(13,true),(14,true)])]⟩
def aBn:Cut:=⟨[wA 28 .bool,wA 6 i6,wC 3 103,wA 0 (zS 16),wC 4 104],[wA 103 (.rc 1),(104,.val (.rc 10),[(2,true),(13,true),(14,true)])]⟩
def oU:Ins:=⟨⟨211,[(.val (zS 16),false),(.val (.rc 1),false)],[],[],[.rc 10,.bool],false⟩,(wD (.s (wD (.b (.l nQ (wD (.s (.b (wD (.d aBn .n))) .n))))) .n))⟩
def ct114x1:Cut:=⟨[wA 8 .bool],[]⟩
def ii114:Ins:=⟨⟨212,[(.val (.rc 1),false)],[],[],[.bool],false⟩,(wD (wD (.s (wD (.b (wD (.d ct114x1 .n)))) .n)))⟩
def ct115x1:Cut:=⟨[wA 37 .bool,wA 7 (zS 2),wC 3 103,wA 0 (zS 16),wC 4 104],[wA 103 (.rc 2),(104,.val (.rc 2),[(6,true)])]⟩
def ct115x2:Cut:=⟨[wA 10 (zS 2),wA 14 i6,wA 0 (zS 16),wC 13 113,wC 4 104],[wA 113 (.rc 10),(104,.val (.rc 2),[(6,true)])]⟩
def ct115x3:Cut:=⟨[wA 88 .bool,wA 10 (zS 2),wA 14 i6,wA 0 (zS 16),wC 13 113,wC 4 104],[wA 113 (.rc 10),(104,.val (.rc 2),[(6,true)])]⟩
def ct115x4:Cut:=⟨[wA 0 (zS 16),wC 13 113,(15,.val (zS 2),[(0,false)]),wC 4 104],[wA 113 (.rc 10),(104,.val (.rc 2),[(6,true)])]⟩
def ii115:Ins:=⟨⟨213,[(.val (zS 16),false),(.val (.rc 2),false)],[],[],[.rc 2,.bool,i6],false⟩,(wD (.s (.r [5] [] [(1,65,[])]) (.s (wD (.d ct115x1 .n)) (.s (.r [8] [] []) (.s (.s (wE [(1,114,[])]) (.c (.s (.r [2,3] [] [(3,142,[])]) .n) .n)) (.s (.r [2] [] [(2,113,[])]) (wD (wD (wD (.d ct115x2 (.s (wD (.d ct115x3 .n)) (.s (.r [7] [] []) (.s (wD (.c (.r [0,4,7] [] [(4,49,[])]) .n)) (.d ct115x4 (.s (.r [0,5,6,7] [] []) .n)))))))))))))))⟩
def ct116x1:Cut:=⟨[wA 6 i6,wC 0 0,wC 3 103],[wA 0 (.rc 24),wA 103 (.rc 1)]⟩
def ii116:Ins:=⟨⟨214,[(.lc 0 0 [],false),(.val (.rc 1),false)],[(.val (.rc 24),[])],[[]],[i6,.bool],false⟩,(wD (.s (wD (.b (.l ct116x1 .n))) (.s (.r [5] [] [(5,19,[])]) .n)))⟩
def ii117:Ins:=⟨⟨215,[(.val (.rc 3),false)],[],[],[i6],false⟩,(wD (.s (wE [(1,143,[])]) .n))⟩
def ii118:Ins:=⟨⟨216,[(.val (.rc 3),false)],[],[],[i6],false⟩,(wD (.s (wE [(1,144,[])]) .n))⟩
def aBm:Cut:=⟨[wA 2 .bool],[]⟩
def aBl:Cut:=⟨[wA 2 .bool],[]⟩
def aBk:Cut:=⟨[wA 57 .bool,wC 1 101],[wA 101 (.rc 3)]⟩
def qM:Cut:=⟨[wC 1 101,wA 4 i6],[wA 101 (.rc 3)]⟩
def jG:Ins:=⟨⟨217,[(.val (.rc 3),false)],[],[],[.bool],false⟩,(wD (.s (wE [(3,57,[])]) (.s (wD (.b (wD (.c (.s (wE [(4,108,[])]) (.d aBm .n)) (wD (.c (.s (wE [(7,145,[])]) (.d aBl .n)) (wD (.c (.s (.s (wE [(5,139,[])]) (.d aBk .n)) (.s (wD (.b (.l qM (wD (.s (.b (.s (wE [(5,119,[])]) .n)) .n))))) .n)) .n)))))))) .n)))⟩
def ii120:Ins:=⟨⟨218,[(.val i6,false)],[],[],[.str],false⟩,(wD (.s (wE [(1,146,[])]) .n))⟩
def aBj:Cut:=⟨[wA 14 .bool,wA 3 i6,wA 0 .str],[]⟩
def aBi:Cut:=⟨[wA 3 i6,wA 0 .str],[]⟩
def aBh:Cut:=⟨[wA 24 .bool,wA 3 i6,wA 0 .str],[]⟩
def nP:Cut:=⟨[wA 0 .str,wA 4 i6],[]⟩
def aBg:Cut:=⟨[wA 41 .bool,wA 4 i6,wA 0 .str],[]⟩
def gF:Ins:=⟨⟨219,[(.val .str,false)],[],[],[.bool],false⟩,(wD (wD (wD (.s (wD (.d aBj .n)) (.d aBi (.s (wD (.d aBh .n)) (.s (wD (.b (.l nP (wD (.s (.b (wD (.d aBg .n))) .n))))) .n)))))))⟩
def nN:Cut:=⟨[wA 0 (.sl i6),wA 3 i6],[]⟩
def aBf:Cut:=⟨[wA 15 .bool,wA 0 (.sl i6),wA 3 i6],[]⟩
def oT:Ins:=⟨⟨220,[(.val (.sl i6),false)],[],[],[.sl i6],false⟩,(.s (.r [0] [] []) (wD (.s (.b (.l nN (.s (wD (.d aBf .n)) .n))) (.s (.r [3] [] []) .n))))⟩
def qL:Cut:=⟨[wA 0 (.sl i6),wA 1 (.sl i6),wA 5 i6],[]⟩
def uP:Ins:=⟨⟨201,[(.val (.sl i6),false),(.val (.sl i6),false)],[],[],[i6],false⟩,(wD (wD (.s (wD (.b (.l qL .n))) .n)))⟩
def ct124x1:Cut:=⟨[wA 0 (.sl i6),wA 6 i6,wA 1 (.sl i6),wA 7 i6,wB 5 (.sl i6)],[]⟩
def ct124x2:Cut:=⟨[wB 5 (.sl i6),wA 8 i6,wA 7 i6,wA 0 (.sl i6),wA 1 (.sl i6)],[]⟩
def ct124x3:Cut:=⟨[wB 5 (.sl i6),wA 8 i6,wA 7 i6,wA 0 (.sl i6),wA 6 i6,wA 1 (.sl i6)],[]⟩
def ii124:Ins:=⟨⟨221,[(.val (.sl i6),false),(.val (.sl i6),false)],[],[],[.sl i6],false⟩,(.s (.r [0] [] []) (.s (.r [0] [] []) (wD (.s (wD (.b (.l ct124x1 (wD (.s (.b (wD (wD (.d ct124x2 (wD (wD (.d ct124x3 (.r [0,4] [] [])))))))) .n))))) (.s (.r [0,1,2] [] [(1,122,[])]) .n)))))⟩
def ii125:Ins:=⟨⟨236,[(.val .str,false),(.val .str,false)],[],[],[i6],false⟩,.n⟩
def ii126:Ins:=⟨⟨237,[(.val .str,false),(.val .str,false)],[],[],[.str],false⟩,.n⟩
def nM:Cut:=⟨[wA 0 (.sl i6),wA 1 (.sl i6),wA 6 i6,(5,.rw 116,[])],[(116,.row i6,[])]⟩
def nL:Cut:=⟨[wA 7 i6,wA 8 i6,wA 6 i6,wA 0 (.sl i6),wA 1 (.sl i6),(5,.rw 116,[])],[(116,.row i6,[])]⟩
def aBe:Cut:=⟨[wA 30 .bool,wA 7 i6,wA 8 i6,wA 6 i6,wA 0 (.sl i6),wA 1 (.sl i6),(5,.rw 116,[])],[(116,.row i6,[])]⟩
def aBd:Cut:=⟨[wA 9 i6,wA 8 i6,wA 6 i6,wA 0 (.sl i6),wA 1 (.sl i6),(5,.rw 116,[])],[(116,.row i6,[])]⟩
def hJ:Ins:=⟨⟨202,[(.val (.sl i6),false),(.val (.sl i6),false)],[],[],[.sl i6],false⟩,(.s (.r [0] [] []) (.s (.r [7] [] []) (.s (wD (.b (.l nM (wD (.s (.b (wD (wD (.b (.l nL (.s (wD (.d aBe .n)) (.s (.b (wD (wD (.d aBd .n)))) .n))))))) .n))))) (.s (.r [0,1,2] [(1,65)] [(1,122,[])]) .n))))⟩
def aBc:Cut:=⟨[wA 2 .bool],[]⟩
def aAL:Ins:=⟨⟨241,[(.val (.int .u8),false)],[],[],[.bool],false⟩,(wD (wD (.d aBc .n)))⟩
def aBb:Cut:=⟨[wA 8 .bool],[]⟩
def aAK:Ins:=⟨⟨242,[(.val .str,false),(.val i6,false),(.val (.int .u8),false),(.val (.int .u8),false)],[],[],[.bool],false⟩,(wD (wD (.d aBb .n)))⟩
def ct130x1:Cut:=⟨[wA 2 (.int .u8),wC 8 108,wB 9 (.sl (.int .u8)),wA 0 .str,wA 1 i6],[wA 108 (.rc 20)]⟩
def ct130x2:Cut:=⟨[wA 62 .bool,wB 9 (.sl (.int .u8)),wA 1 i6,wA 2 (.int .u8),wC 8 108,wA 0 .str],[wA 108 (.rc 20)]⟩
def ii130:Ins:=⟨⟨243,[(.val .str,false),(.val i6,false),(.val (.int .u8),false)],[],[],[.str,i6,.rc 20],false⟩,(wD (.s (.r [0] [] []) (.b (.l ct130x1 (.b (.b (wD (.c (.s (wE [(3,82,[])]) .n) (wD (.c .n (wD (.c (.s (.r [0,6] [] []) .n) (wD (.c (.s (wE [(3,82,[])]) .n) (wD (.d ct130x2 (.c (.s (wE [(2,82,[])]) .n) (.s (.r [0,7] [] []) .n))))))))))))))))))⟩
def aBa:Cut:=⟨[wA 13 .bool,wC 2 102,wC 4 104],[wA 102 (.rc 22),wA 104 (.rc 20)]⟩
def xN:Ins:=⟨⟨244,[(.val (.rc 22),false),(.val .bool,false)],[],[],[.rc 20],false⟩,(wD (.s (.b (wD (.c (.s (wE [(2,82,[])]) .n) (.s (wE [(13,147,[])]) (.d aBa (.c (.s (wE [(2,82,[])]) .n) .n)))))) .n))⟩
def aA9:Cut:=⟨[wA 2 .bool],[]⟩
def aAJ:Ins:=⟨⟨245,[(.val (.int .u8),false)],[],[],[.bool],false⟩,(wD (wD (.d aA9 .n)))⟩
def nK:Cut:=⟨[wA 0 .str,wA 1 i6],[]⟩
def aA8:Cut:=⟨[wA 14 .bool,wA 0 .str,wA 1 i6],[]⟩
def oR:Ins:=⟨⟨246,[(.val .str,false),(.val i6,false)],[],[],[i6],false⟩,(wD (.s (.b (.l nK (.s (.s (wE [(8,132,[])]) (.d aA8 .n)) .n))) .n))⟩
def ct134x1:Cut:=⟨[wC 5 105,wA 13 i6,wC 14 114,wC 8 108,wC 10 110],[wA 105 (.rc 22),wA 114 (.rc 20),wA 108 (.rc 22),wA 110 (.rc 20)]⟩
def ii134:Ins:=⟨⟨247,[(.val .str,false),(.val (.rc 22),false),(.val .str,false),(.val i6,false)],[],[],[.rc 22,i6,.rc 20],false⟩,(wD (wD (wD (wD (.s (.b (wD (.c (.s (wE [(4,82,[])]) .n) (wD (.c (.s (wE [(3,130,[])]) (wD (.s (wD (.c (wE [(1,131,[])]) .n)) (.d ct134x1 .n)))) (.s (wE [(3,132,[])]) (.c (.s (wE [(3,82,[])]) .n) .n))))))) (.s (wE [(2,133,[])]) (wD (.s (wE [(3,131,[])]) .n))))))))⟩
def aA7:Cut:=⟨[wA 15 .bool,wA 5 i6,wA 0 .str],[]⟩
def aA6:Cut:=⟨[wA 5 i6,wA 0 .str],[]⟩
def nJ:Cut:=⟨[wA 5 i6,wA 0 .str,wA 6 i6],[]⟩
def aA5:Cut:=⟨[wA 32 .bool,wA 5 i6,wA 0 .str,wA 6 i6],[]⟩
def aA4:Cut:=⟨[wA 53 .bool,wA 0 .str,wA 6 i6],[]⟩
def nI:Cut:=⟨[wA 7 i6,wA 0 .str,wA 6 i6],[]⟩
def aA3:Cut:=⟨[wA 71 .bool,wA 7 i6,wA 0 .str,wA 6 i6],[]⟩
def eI:Ins:=⟨⟨248,[(.val .str,false)],[],[],[.str,.str,.bool],false⟩,(wD (wD (.s (wD (.d aA7 .n)) (.d aA6 (wD (.s (.b (.l nJ (.s (wD (.d aA5 .n)) .n))) (wD (wD (.s (wD (.d aA4 .n)) (.s (wD (.b (.l nI (wD (.s (.b (wD (.d aA3 .n))) .n))))) .n))))))))))⟩
def ct136x1:Cut:=⟨[wA 3 .bool,wA 0 .str],[]⟩
def ct136x2:Cut:=⟨[wA 3 .bool,wA 0 .str,wA 4 i6],[]⟩
def ct136x3:Cut:=⟨[wA 3 .bool,wA 0 .str,wA 4 i6],[]⟩
def ct136x4:Cut:=⟨[wA 23 .bool,wA 3 .bool,wA 0 .str,wA 4 i6],[]⟩
def ii136:Ins:=⟨⟨249,[(.val .str,false)],[],[],[.str],false⟩,(wD (wD (.d ct136x1 (wD (wD (.d ct136x2 (.s (.b (.l ct136x3 (.s (wD (.d ct136x4 .n)) .n))) .n)))))))⟩
def ii137:Ins:=⟨⟨250,[(.val .str,false)],[],[],[i6],false⟩,(wD (.s (.r [6] [] [(1,90,[])]) .n))⟩
def qK:Cut:=⟨[wA 1 .str,wA 0 (zS 9),wA 6 i6,wC 4 104],[(104,.val (.rc 9),[(1,true)])]⟩
def uO:Ins:=⟨⟨251,[(.val (zS 9),false),(.val .str,false)],[],[],[.rc 9,.bool],false⟩,(wD (.s (wD (.b (.l qK .n))) .n))⟩
def ii139:Ins:=⟨⟨233,[(.val (.rc 1),false)],[],[],[.bool],false⟩,(wD (.s (wE [(1,148,[])]) .n))⟩
def ct140x1:Cut:=⟨[wA 5 (zS 2),wA 9 i6,wB 7 (zS 1),wB 8 (zS 2)],[]⟩
def ct140x2:Cut:=⟨[wA 48 .bool,wB 7 (zS 1),wB 8 (zS 2),wA 10 (zS 2),wA 9 i6,wA 5 (zS 2)],[]⟩
def ct140x3:Cut:=⟨[wA 12 i6,wB 7 (zS 1),wB 8 (zS 2)],[]⟩
def ct140x4:Cut:=⟨[wA 13 i6,wB 7 (zS 1),wB 8 (zS 2)],[]⟩
def ii140:Ins:=⟨⟨252,[(.val (.rc 2),false)],[],[],[zS 1,zS 2,i6],false⟩,(.s (.r [1,2] [] []) (.s (.r [5] [] [(1,65,[])]) (.s (wD (.c (.s (.r [0,1] [] []) .n) .n)) (.s (.r [0] [] []) (.s (.r [0] [] []) (.s (wD (.b (.l ct140x1 (wD (.s (.b (.s (.r [8] [] [(4,65,[])]) (.s (wD (.d ct140x2 (.c (.s (.r [0,1] [] []) .n) .n))) (.s (.r [0,7] [] []) (.r [0,6] [] []))))) .n))))) (.s (wD (.b (.l ct140x3 (wD (.s (.b (.s (wE [(4,108,[])]) (.c (.s (.r [0,1] [] []) .n) .n))) .n))))) (.s (wD (.b (.l ct140x4 (wD (.s (.b (.s (.r [7] [] [(7,149,[])]) (.c (.s (.r [0,1] [] []) .n) .n))) .n))))) (.s (.r [0,1,2,3] [] []) .n)))))))))⟩
def ii141:Ins:=⟨⟨253,[(.val .str,false),(.val (zS 2),false)],[],[],[.rc 2],false⟩,(wD (.s (.r [2,3] [] [(4,48,[]),(3,49,[]),(1,150,[])]) .n))⟩
def ct142x1:Cut:=⟨[wA 26 .bool,wA 11 .str,wA 6 i6,wA 0 .str,wA 1 (zS 2),wC 4 104],[(104,.val (.rc 2),[(6,true)])]⟩
def ct142x2:Cut:=⟨[wA 59 .bool,wA 11 .str,wA 6 i6,wA 0 .str,wA 1 (zS 2),wC 4 104],[(104,.val (.rc 2),[(6,true)])]⟩
def ct142x3:Cut:=⟨[wA 114 .bool,wA 7 (zS 2),wA 0 .str,wA 1 (zS 2),wC 4 104],[(104,.val (.rc 2),[(6,true)])]⟩
def ct142x4:Cut:=⟨[wC 4 104],[(104,.val (.rc 2),[(6,true)])]⟩
def ct142x5:Cut:=⟨[wA 180 .bool,wA 6 i6,wA 0 .str,wA 1 (zS 2),wC 4 104],[(104,.val (.rc 2),[(6,true)])]⟩
def ii142:Ins:=⟨⟨254,[(.val .str,false),(.val (zS 2),false)],[],[],[.rc 2,.bool],false⟩,(wD (wD (.s (wD (.b (wD (.c (.s (wD (.c (.s (wE [(0,42,[])]) .n) .n)) (.s (.r [6,8] [] [(8,141,[]),(6,151,[])]) .n)) (wD (.d ct142x1 (.c (.s (wD (.c (.s (wE [(0,42,[])]) .n) .n)) (wD (.s (wD (.c (.s (.r [6,8] [] [(8,141,[]),(6,151,[])]) .n) .n)) (.s (.r [6,8] [] [(8,141,[]),(6,151,[])]) .n)))) (wD (.d ct142x2 (.c (.s (wD (.c (.s (wE [(2,152,[])]) .n) .n)) (wD (.s (wD (.c (.s (.r [6,9] [] [(9,141,[]),(7,42,[]),(6,151,[])]) .n) .n)) (.s (.r [9,11] [] [(11,141,[]),(9,151,[])]) .n)))) (wD (.c (.s (wD (.c (.s (wE [(0,42,[])]) .n) .n)) (.s (.r [7] [] [(3,65,[])]) (.s (wD (.d ct142x3 .n)) (.s (.r [9,11] [] [(11,141,[]),(9,151,[])]) .n)))) (wD (.c (.s (.r [1,2] [] [(2,153,[])]) .n) (wD (.c (.s (.r [1,2] [] [(2,153,[])]) .n) (wD (.c (.s (wD (.c (.s (.r [4] [] [(4,141,[])]) .n) .n)) (wD (.c (.s (.r [7,9] [] [(9,141,[]),(7,141,[])]) .n) .n))) (wD (.c (.s (wD (.c (.s (.r [4] [] [(4,141,[])]) .n) .n)) (wD (.c (.s (.r [7,9] [] [(9,141,[]),(7,141,[])]) .n) .n))) (wD (.d ct142x5 (.c (wD (.s (wD (.c (.s (.r [7,9] [] [(9,141,[]),(7,141,[])]) .n) .n)) (.s (wD (.c (.s (.r [7] [] [(7,141,[])]) .n) .n)) (.s (.r [7,9] [] [(9,141,[]),(7,141,[])]) .n)))) .n))))))))))))))))))))))) (.d ct142x4 .n))))⟩
def nH:Cut:=⟨[wA 6 (zS 3),wA 1 i6,wA 7 i6,wA 5 i6],[]⟩
def aA2:Cut:=⟨[wA 26 .bool,wA 7 i6,wA 6 (zS 3),wA 1 i6,wA 5 i6],[]⟩
def oQ:Ins:=⟨⟨255,[(.val (.rc 3),false),(.val i6,false)],[],[],[i6],false⟩,(wD (.s (wD (.c (.s (wE [(3,78,[])]) .n) .n)) (wD (.s (.r [2] [] [(1,154,[])]) (.s (wD (.b (.l nH (.s (wD (.d aA2 .n)) (.s (.b (wE [(8,143,[])])) .n))))) .n)))))⟩
def nG:Cut:=⟨[wA 6 (zS 3),wA 1 i6,wA 7 i6,wA 5 i6],[]⟩
def aA1:Cut:=⟨[wA 17 .bool,wA 7 i6,wA 6 (zS 3),wA 1 i6,wA 5 i6],[]⟩
def oP:Ins:=⟨⟨256,[(.val (.rc 3),false),(.val i6,false)],[],[],[i6],false⟩,(wD (wD (.s (.r [2] [] [(1,154,[])]) (.s (wD (.b (.l nG (.s (wD (.d aA1 .n)) (.s (.b (wE [(7,144,[])])) .n))))) .n))))⟩
def aA0:Cut:=⟨[wA 2 .bool],[]⟩
def aAI:Ins:=⟨⟨187,[(.val (.rc 2),false)],[],[],[.bool],false⟩,(wD (.s (wE [(5,155,[]),(1,78,[])]) (.d aA0 .n)))⟩
def ct146x1:Cut:=⟨[wA 17 .bool,wA 0 i6],[]⟩
def ii146:Ins:=⟨⟨257,[(.val i6,false),(.val i6,false)],[],[],[.str],false⟩,(wD (.s (wD (.c (.s (wD (.d ct146x1 (.c (.s (wE [(1,157,[])]) .n) .n))) (wD (wD (wD (.d ⟨[],[]⟩ (wD (.s (.r [4] [] []) .n))))))) .n)) (.s (.r [9] [] [(5,156,[])]) .n)))⟩
def ii147:Ins:=⟨⟨270,[(.val .str,false)],[],[],[.bool],false⟩,(wD (.s (wE [(1,158,[])]) .n))⟩
def aAZ:Cut:=⟨[wA 2 .bool],[]⟩
def aAH:Ins:=⟨⟨262,[(.val (.rc 1),false)],[],[],[.bool],false⟩,(wD (.s (wE [(2,158,[])]) (.d aAZ .n)))⟩
def ct149x1:Cut:=⟨[wA 0 (zS 1),wC 3 103,wA 5 i6],[wA 103 (.rc 1)]⟩
def ii149:Ins:=⟨⟨141,[(.val (zS 1),false),(.val (.rc 1),false)],[],[],[.bool],false⟩,(wD (.s (wD (.b (.l ct149x1 .n))) .n))⟩
def ii150:Ins:=⟨⟨271,[(.val .str,false)],[],[],[.rc 2],false⟩,(wD (.s (wE [(2,46,[]),(1,31,[])]) .n))⟩
def ii151:Ins:=⟨⟨272,[(.val .str,false),(.val (zS 2),false)],[],[],[.rc 2],false⟩,(wD (.s (.r [1,2] [] [(2,141,[])]) .n))⟩
def ii152:Ins:=⟨⟨223,[(.val .bool,false)],[],[],[.rc 2],false⟩,(wD (.s (wD (.c (.s (wE [(0,43,[])]) .n) .n)) (.s (wE [(0,42,[])]) .n)))⟩
def ii153:Ins:=⟨⟨273,[(.val .str,false),(.val .str,false),(.val i6,false),(.val (zS 2),false)],[],[],[.rc 2],false⟩,(wD (.s (wD (.b (wD (.c (.s (wE [(1,44,[])]) .n) (wD (.c (.s (.r [7] [] [(7,141,[]),(2,44,[])]) .n) (wD (.c (.s (.r [8] [] [(8,141,[])]) .n) .n)))))))) (.s (.r [7,9] [] [(9,141,[]),(7,151,[])]) .n)))⟩
def ii154:Ins:=⟨⟨140,[(.val (.rc 3),false)],[],[],[zS 3],false⟩,(.s (.r [1] [] []) (.s (wD (.c (.s (.r [0] [] []) .n) .n)) (.s (.r [1,2] [] []) .n)))⟩
def aAY:Cut:=⟨[wA 2 .bool],[]⟩
def aAX:Cut:=⟨[wA 2 .bool],[]⟩
def aAW:Cut:=⟨[wA 2 .bool],[]⟩
def aAV:Cut:=⟨[wA 2 .bool],[]⟩
def lT:Ins:=⟨⟨235,[(.val (.rc 2),false)],[],[],[.bool],false⟩,(wD (wD (.s (wD (.b (wD (.c (.s (wE [(4,71,[])]) (.s (wE [(31,137,[]),(26,137,[])]) (.d aAY .n))) (wD (.c (.s (wE [(2,148,[])]) (.d aAX .n)) (wD (.c (wD (.d aAW .n)) (wD (.c (.s (wE [(34,155,[]),(27,155,[])]) (.d aAV .n)) .n)))))))))) .n)))⟩
def ct156x1:Cut:=⟨[wA 28 .bool,wA 2 i6,wA 1 (.int .u64),wA 3 .bool,wA 4 .bool,wA 0 (.sl (.int .u8)),wA 11 .str,wB 10 (.sl (.int .u8))],[]⟩
def ct156x2:Cut:=⟨[wA 2 i6,wA 1 (.int .u64),wA 3 .bool,wA 4 .bool,wA 0 (.sl (.int .u8)),wA 11 .str,wB 10 (.sl (.int .u8))],[]⟩
def ii156:Ins:=⟨⟨277,[(.val (.sl (.int .u8)),false),(.val (.int .u64),false),(.val i6,false),(.val .bool,false),(.val .bool,false)],[],[],[(.sl (.int .u8)),.str],false⟩,(.s (.r [0] [] []) (.s (wD (.d ct156x1 .n)) (.d ct156x2 (wD (wD (wD (.d ⟨[],[]⟩ (.s (wD (.c (wD (wD (wD (.s (.b (.l ⟨[],[]⟩ .n)) .n)))) (wD (.s (.b (.l ⟨[],[]⟩ .n)) .n)))) (.d ⟨[],[]⟩ (wD (.d ⟨[],[]⟩ (.s (wD (.c (.s (.r [0,4] [] []) .n) .n)) .n))))))))))))⟩
def ii157:Ins:=⟨⟨274,[(.val i6,false)],[],[],[.str],false⟩,.n⟩
def aAU:Cut:=⟨[wA 22 .bool,wA 0 .str],[]⟩
def nF:Cut:=⟨[wA 0 .str,wA 3 i6],[]⟩
def aAT:Cut:=⟨[wA 49 .bool,wA 3 i6,wA 0 .str],[]⟩
def kP:Ins:=⟨⟨278,[(.val .str,false)],[],[],[.bool],false⟩,(wD (.s (wD (.d aAU .n)) (.s (wD (.b (.l nF (wD (.s (.b (wD (wD (.d aAT .n)))) .n))))) .n)))⟩
def insL:List (Nat×Ins):=[(0,ii0),(1,ii1),(2,ii2),(3,ii3),(4,ii4),(5,ii5),(6,ii6),(7,ii7),(8,ii8),(9,ii9),(10,ii10),(11,ii11),(12,ii12),(13,ii13),(14,uN),(15,ii15),(16,ii16),(17,ii17),(18,ii18),(19,ii19),(20,ii20),(21,ii21),(22,ii22),(23,ii23),(24,ii24),(25,ii25),(26,ii26),(27,ii27),(28,ii28),(29,ii29),(30,ii30),(31,ii31),(32,ii32),(33,ii33),(34,ii34),(35,ii35),(36,ii36),(37,ii37),(38,ii38),(39,ii39),(40,ii40),(41,ii41),(42,ii42),(43,ii43),(44,ii44),(45,ii45),(46,ii46),(47,ii47),(48,ii48),(49,ii49),(50,ii50),(51,ii51),(52,ii52),(53,aAG),(54,ii54),(55,aGI),(56,ii56),(57,aFe),(58,ii58),(59,ii59),(60,ii60),(61,aC9),(62,ii62),(63,ii63),(64,aFd),(65,ii65),(66,ii66),(67,ii67),(68,ii68),(69,ii69),(70,ii70),(71,ii71),(72,ii72),(73,aEF),(74,ii74),(75,ii75),(76,aFc),(77,ii77),(78,ii78),(79,ii79),(80,ii80),(81,ii81),(82,ii82),(83,ii83),(84,ii84),(85,ii85),(86,ii86),(87,ii87),(88,ii88),(89,ii89),(90,aC8),(91,ii91),(92,ii92),(93,aGH),(94,aFb),(95,ii95),(96,ii96),(97,ii97),(98,ii98),(99,ii99),(100,ii100),(101,ii101),(102,ii102),(103,rJ),(104,iO),(105,iN),(106,iM),(107,oV),(108,aAM),(109,ii109),(110,ii110),(111,ii111),(112,ii112),(113,oU),(114,ii114),(115,ii115),(116,ii116),(117,ii117),(118,ii118),(119,jG),(120,ii120),(121,gF),(122,oT),(123,uP),(124,ii124),(125,ii125),(126,ii126),(127,hJ),(128,aAL),(129,aAK),(130,ii130),(131,xN),(132,aAJ),(133,oR),(134,ii134),(135,eI),(136,ii136),(137,ii137),(138,uO),(139,ii139),(140,ii140),(141,ii141),(142,ii142),(143,oQ),(144,oP),(145,aAI),(146,ii146),(147,ii147),(148,aAH),(149,ii149),(150,ii150),(151,ii151),(152,ii152),(153,ii153),(154,ii154),(155,lT),(156,ii156),(157,ii157),(158,kP)]
def orcI:Orc:=⟨257,fun a b=>bif decide (b=10)then(bif decide (a= -1)then some [45,49]else bif decide (a= -2)then some [45,50]else bif decide (a= -3)then some [45,51]else none)else none,257,none⟩
def tpI:TP U0.D:=tp0 orcI (aAn insL)
noncomputable def CTp(L n:Nat):TC0:=yX U0 tpI (aFz Go.Rf.cdP insL) L n
end Go.TV
namespace Go.TV
open Go.AI Go.PI Go.Proofs
def bY:Nat→Nat→List UInt8
 |0,_=>[]
 |f+1,n=>UInt8.ofNat (n%128)::bY f (n/128)
abbrev Nt:=TVs→Rt
abbrev yR(n:Nat)(x:Den U0.D (.rc n)):TV U0.D:=⟨.rc n,x⟩
abbrev yS(n:Nat)(x:Den U0.D (.sl (.rc n))):TV U0.D:=⟨.sl (.rc n),x⟩
abbrev yI(x:Int):TV U0.D:=⟨.int .i64,x⟩
abbrev yB(x:Bool):TV U0.D:=⟨.bool,x⟩
abbrev yT(x:List UInt8):TV U0.D:=⟨.str,x⟩
section
variable(x:Ins)(c:TC0)(e:Cu)(L:Nat)(π:List Nat)(ct:Cut)
def cu:Cu:=⟨Dx U0 tpI c L,Ex U0 tpI c L⟩
noncomputable def xW:TC:=dQ x.sk (fQ Go.Rf.cdP x.sig.f)
noncomputable def xC:TC:=at_ (xW x) π
noncomputable def xK:Kt:=finT U0 tpI x.sig (tT Go.Rf.cdP x.sig.f)
noncomputable def xT(K:Kt):Kt:=aFy U0 (jZ U0 tpI c e.D e.E (xC x π)) K
noncomputable def xF(d:TVs):Rt:=nC U0 (cutOf x.sig) (fun S M=>jZ U0 tpI c e.D e.E (xW x) S M (xK x)) d
noncomputable def xA(K:Kt)(d:TVs):Rt:=nC U0 ct (fun S M=>jZ U0 tpI c e.D e.E (xC x π) S M K) d
noncomputable def xL(K:Kt)(n:Nat)(d:TVs):Rt:=aEz U0 ct (fun S M K=>dV U0 tpI c L (xC x π) S M K) K n d
noncomputable def xD(K:Kt)(d:TVs):Rt:=e.D ct (xC x π) d K
noncomputable def xE(K:Kt)(d:TVs):Rt:=e.E ct (xC x π) d K
theorem aN(K:Kt):xD x (cu c L) π ct K=xA x c (cu c L) π ct K:=funext fun d=>hX ct (fun S M=>(exD (T:=tpI) (c:=c) (L:=L) (xC x π) S M K).symm) d
theorem eY(K:Kt)(n:Nat):xL x c L π ct K (n+1)=xA x c (cu c L) π ct (lpK U0 ct (xL x c L π ct K n) K):=funext fun d=>hX ct (fun S M=>(exD (T:=tpI) (c:=c) (L:=L) (xC x π) S M _).symm) d
end
theorem jH: ∀{l:List (Nat×Ins)} {i:Nat} {x:Ins},oW l i=some x→(i,x)∈l
 |a::l,i,x,h=>by
  simp only[oW]at h;cases hb:Nat.beq a.1 i with
  |true=>
   rw[hb]at h;simp only[cdt,ojE]at h;have:=nqE hb;subst this;subst h;exact mhE ..
  |false=>rw[hb]at h;exact mtE _ (jH h)
theorem hb_all:(insL.all fun x=>okS orcI x.2.sig&&Nat.ble x.2.sig.bx.length 100&&aGl x.2.sig.bx.length x.2.sig.bx)=true:=by kernel_rfl
theorem cg{i:Nat}{x:Ins}(hx:oW insL i=some x)(hf:(Nat.beq x.sig.f orcI.n||Nat.beq x.sig.f orcI.m)=false)(L n:Nat)(d:TVs):CTp L (n+1) i d=xF x (CTp L n) (cu (CTp L n) L) d:=by
 have hs:tpI.sig i=some x.sig:=by show aAn insL i=_;unfold aAn;rw[hx];rfl
 have hg:aFz Go.Rf.cdP insL i=some (dQ x.sk (fQ Go.Rf.cdP x.sig.f),tT Go.Rf.cdP x.sig.f):=by simp only[aFz,hx]
 have hb:(okS tpI.orc x.sig&&Nat.ble x.sig.bx.length 100&&aGl x.sig.bx.length x.sig.bx)=true:=List.all_eq_true.1 hb_all _ (jH hx);have ho:orT U0 tpI.orc x.sig d=none:=by
  rw[Bool.or_eq_false_iff]at hf;show orT U0 orcI x.sig d=none;unfold orT;rw[hf.1,hf.2];rfl
 show yX U0 tpI (aFz Go.Rf.cdP insL) L (n+1) i d=_;simp only[yX,hs,hg,hb,cdt,ho];exact(hX _ (fun S M=>exD _ _ _ _) d).symm
end Go.TV
