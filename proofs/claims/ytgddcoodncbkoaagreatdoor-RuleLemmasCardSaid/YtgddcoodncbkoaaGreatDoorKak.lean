import Derived.Test.YtgddcoodncbkoaaGreatDoorKl
set_option linter.unusedVariables false
set_option linter.unusedSimpArgs false
set_option linter.constructorNameAsVariable false
set_option linter.defProp false
namespace Go.AI
section
variable{P:Program}
def aMG(aw:FuncId)(c0:FuncId->Array Value->St->Option (Value×St))(f:FuncId)(args:Array Value)(H:St):Option (Value×St):=
 bif Nat.beq f aw then(match args.toList with
 |[]=>some (.bool true,H)
 |_=>none)else c0 f args H
def callA_ok{w0:W0}{aw:FuncId}{c0:FuncId->Array Value->St->Option (Value×St)}(h0:CallOK w0 P c0)
    (ha : ∀ w, Kept w0.toWorld w → (∃ fn c, P.funcs[aw]? = some fn ∧ fn.body = some c ∧ (fn.name == "runtime.NumGoroutine") = false) ∧ Calls P aw #[] w fun e w' => e = .returned (.bool true) ∧ Kept w w') : CallOK w0 P (aMG aw c0) := by
 intro f args args' H H' w Y r h ρ hargs;unfold aMG at h;cases hf:Nat.beq f aw with
 |false=>rw[hf]at h;exact h0 f args args' H H' w Y r h ρ hargs
 |true=>
  rw[hf,cdt]at h;rw[nqE hf];split at h
  ·rename_i he;simp only[ojE,pjE]at h;obtain⟨rfl,rfl⟩:=h;rw[he]at hargs;have q3:args'= #[]:=by rw[<-Array.toArray_toList (xs:=args'),hargs.nil_inv]
   subst q3;obtain⟨g1,g2⟩:=ha w ρ.kept.toKept;exact⟨g1,g2.mono λe w' ⟨h5,h6⟩=>⟨Y,_,h5,.same _ rfl,ρ.keep h6,.refl _ _,nlR _⟩⟩
  ·cases h
end
end Go.AI
namespace Go.PI
open Go.AI
def yQ(aw:FuncId)(pc:fB):fB:=λf args p=>
 bif Nat.beq f aw then(match args with
 |[]=>some (.v (.bool true),false,p)
 |_=>none)else pc f args p
def aMF{aw:FuncId}{pc:fB}{ac:FuncId->Array Value->St->Option (Value×St)}(h0:gT pc ac):gT (yQ aw pc) (aMG aw ac):=by
 intro g args p v own p' h J I H us M r ho;unfold yQ at h;unfold aMG;cases hf:Nat.beq g aw with
 |false=>rw[hf]at h;exact h0 g args p v own p' h J I H us M r ho
 |true=>
  rw[hf,cdt]at h;simp only[cdt];split at h
  ·simp only[ojE,pjE]at h;obtain⟨rfl,rfl,rfl⟩:=h;have hu:us.toList=[]:=List.length_eq_zero_iff.1 (by have:=r.1;simpa using this.symm)
   rw[hu];exact⟨_,H,J,I,rfl,R.v _ rfl,λh=>(by cases h),M,Adv.refl J I p H,λj _ h=>h⟩
  ·cases h
end Go.PI
namespace Go.TV
open Go.AI Go.PI
section
variable{U:jP}{T:TP U.D}
def awS(aw:FuncId):Sig:=⟨aw,[],[],[],[.bool],false⟩
def aME(T:TP U.D)(aw:FuncId)(tc:mV U.D):mV U.D:=λi d=>match T.sig i with
 |some s=>bif Nat.beq s.f aw then(match d with
  |[]=>some [⟨.bool,true⟩]
  |_=>none)else tc i d
 |none=>none
def aMD{aw:FuncId}{tc:mV U.D}{pc:fB}(h0:CallOK U T tc pc)(hs: ∀i s,T.sig i=some s->s.f=aw->s=awS aw):CallOK U T (aME T aw tc) (yQ aw pc):=by
 intro i s d out h1 h p cc args S0 M0 hin;unfold aME at h;rw[h1]at h;simp only at h;unfold yQ;cases hf:Nat.beq s.f aw with
 |false=>rw[hf]at h;exact h0 i s d out h1 h p cc args S0 M0 hin
 |true=>
  rw[hf,cdt]at h;have e:=hs i s h1 (nqE hf);subst e;split at h
  ·simp only[ojE]at h;subst h;have hl:args=[]:=List.length_eq_zero_iff.1 hin.len;subst hl;refine⟨.v (.bool true),false,p,rfl,?_⟩;exact⟨⟨cU _,aJ _ _⟩,⟨[],rfl,λj x hj=>(by cases hj)⟩,rfl,λ_ _ _=>rfl,λ_ _ _=>rfl,λid h=> .inl h,λid h=>h,λid h=> .inl h⟩
  ·cases h
end
end Go.TV
