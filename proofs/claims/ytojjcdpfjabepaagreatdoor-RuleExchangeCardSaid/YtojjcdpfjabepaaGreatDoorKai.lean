import Derived.Test.YtojjcdpfjabepaaGreatDoorKz
import Derived.Test.YtojjcdpfjabepaaGreatDoorKah
import Derived.Test.YtojjcdpfjabepaaGreatDoorKm
set_option linter.unusedVariables false
set_option linter.unusedSimpArgs false
set_option linter.constructorNameAsVariable false
namespace Go.TV
open Go.AI Go.PI Go.Proofs
set_option maxRecDepth 20000
section
variable(L:Nat){E:List G.E}(hE:WOK E)
theorem yK{n:Nat}(h:60≤n):Lib (CTp (L+7000) n):=by
 obtain⟨m,rfl⟩: ∃m,n=m+60:=⟨n-60,by omega⟩
 exact lib_ok L m
theorem va_n{n:Nat}(h:61≤n)(s:G.Z)(hs:dH s):TSR (CTp (L+7000) n 15 [yR 0 s]) 6:=by
 obtain⟨m,rfl⟩: ∃m,n=m+1:=⟨n-1,by omega⟩
 rw[c15];exact Va_ok (yK L (by omega)) hs
theorem o0_n{n:Nat}(h:61≤n)(s:G.Z)(hs:dH s):OSR (CTp (L+7000) n 16 [yI (0:Int),yR 0 s]) 20:=by
 obtain⟨m,rfl⟩: ∃m,n=m+1:=⟨n-1,by omega⟩
 rw[c16];exact Ob0 (yK L (by omega)) hs
theorem o1_n{n:Nat}(h:62≤n)(s:G.Z)(hs:dH s):OSR (CTp (L+7000) n 16 [yI (1:Int),yR 0 s]) 200:=by
 obtain⟨m,rfl⟩: ∃m,n=m+1:=⟨n-1,by omega⟩
 rw[c16];exact Ob1 (yK L (by omega)) (by omega) (o0_n L (by omega)) hs
include hE
theorem ar_n{n:Nat}(h:4≤n)(f:G.Y):ArR (CTp (L+7000) n 21 [yS 16 E,yR 1 f]):=by
 obtain⟨m,rfl⟩: ∃m,n=m+4:=⟨n-4,by omega⟩
 exact Ar_ok hE f (by omega)
theorem t0_n{n:Nat}(h:63≤n)(s:G.Z)(hs:dH s):TSR (CTp (L+7000) n 3 [yS 16 E,yI (0:Int),yR 0 s]) 204:=by
 obtain⟨m,rfl⟩: ∃m,n=m+1:=⟨n-1,by omega⟩
 rw[c3];exact Te_ok (yK L (by omega)) (by omega) (B:=204) (by omega) (by omega) (va_n L (by omega)) (o1_n L (by omega)) (ar_n L hE (by omega)) (fun h=>by omega) hs
theorem t1_n{n:Nat}(h:64≤n)(s:G.Z)(hs:dH s):TSR (CTp (L+7000) n 3 [yS 16 E,yI (1:Int),yR 0 s]) 621:=by
 obtain⟨m,rfl⟩: ∃m,n=m+1:=⟨n-1,by omega⟩
 rw[c3];exact Te_ok (yK L (by omega)) (by omega) (B:=204) (by omega) (by omega) (va_n L (by omega)) (o1_n L (by omega)) (ar_n L hE (by omega)) (fun _=>t0_n L hE (by omega)) hs
theorem t2_n{n:Nat}(h:65≤n)(s:G.Z)(hs:dH s):TSR (CTp (L+7000) n 3 [yS 16 E,yI (2:Int),yR 0 s]) 1872:=by
 obtain⟨m,rfl⟩: ∃m,n=m+1:=⟨n-1,by omega⟩
 rw[c3];exact Te_ok (yK L (by omega)) (by omega) (B:=621) (by omega) (by omega) (va_n L (by omega)) (o1_n L (by omega)) (ar_n L hE (by omega)) (fun _=>t1_n L hE (by omega)) hs
end
theorem smF_ok{E:List G.E}(h:smF E=true):WOK E:=by
 simp only[smF,smE,bjE,List.all_eq_true]at h;exact⟨Nat.le_of_ble_eq_true h.1.2,fun e he=>Nat.le_of_ble_eq_true (h.2 e he).1,fun e he f hf=>Nat.le_of_ble_eq_true ((h.2 e he).2 f hf)⟩
theorem obL_en{β:Type}{a:List G.E}{K:List G.E×Unit→Option β}:obL (D:=U0.D) [.sl (.rc 16)] (some [yS 16 a]) K=K (a,()):=rfl
end Go.TV
namespace Go.AI
section
variable{P:Program}
def aIj(aw:FuncId)(c0:FuncId→Array Value→St→Option (Value×St))(f:FuncId)(args:Array Value)(σ:St):Option (Value×St):=
 bif Nat.beq f aw then(match args.toList with
 |[]=>some (.bool true,σ)
 |_=>none)else c0 f args σ
theorem callA_ok{w0:W0}{aw:FuncId}{c0:FuncId→Array Value→St→Option (Value×St)}(h0:CallOK w0 P c0)
    (ha : ∀ w, Kept w0.toWorld w → (∃ fn c, P.funcs[aw]? = some fn ∧ fn.body = some c ∧ (fn.name == "runtime.NumGoroutine") = false) ∧ Calls P aw #[] w fun e w' => e = .returned (.bool true) ∧ Kept w w') : CallOK w0 P (aIj aw c0) := by
 intro f args args' σ σ' w μ r h Z hargs;unfold aIj at h;cases hf:Nat.beq f aw with
 |false=>rw[hf]at h;exact h0 f args args' σ σ' w μ r h Z hargs
 |true=>
  rw[hf,cdt]at h;rw[nqE hf];split at h
  ·rename_i he;simp only[ojE,pjE]at h;obtain⟨rfl,rfl⟩:=h;rw[he]at hargs;have q3:args'= #[]:=by rw[←Array.toArray_toList (xs:=args'),hargs.nil_inv]
   subst q3;obtain⟨g1,g2⟩:=ha w Z.kept.toKept;exact⟨g1,g2.mono fun e w' ⟨h5,h6⟩=>⟨μ,_,h5,.same _ rfl,Z.keep h6,.refl _ _,nlR _⟩⟩
  ·cases h
end
end Go.AI
namespace Go.PI
open Go.AI
def uA(aw:FuncId)(pc:eH):eH:=fun f args p=>
 bif Nat.beq f aw then(match args with
 |[]=>some (.v (.bool true),false,p)
 |_=>none)else pc f args p
theorem aIi{aw:FuncId}{pc:eH}{ac:FuncId→Array Value→St→Option (Value×St)}(h0:fN pc ac):fN (uA aw pc) (aIj aw ac):=by
 intro g args p v own p' h ν γ σ us M r ho;unfold uA at h;unfold aIj;cases hf:Nat.beq g aw with
 |false=>rw[hf]at h;exact h0 g args p v own p' h ν γ σ us M r ho
 |true=>
  rw[hf,cdt]at h;simp only[cdt];split at h
  ·simp only[ojE,pjE]at h;obtain⟨rfl,rfl,rfl⟩:=h;have hu:us.toList=[]:=List.length_eq_zero_iff.1 (by have:=r.1;simpa using this.symm)
   rw[hu];exact⟨_,σ,ν,γ,rfl,R.v _ rfl,fun h=>(by cases h),M,Adv.refl ν γ p σ,fun j _ h=>h⟩
  ·cases h
end Go.PI
namespace Go.TV
open Go.AI Go.PI
section
variable{U:iN}{T:TP U.D}
def awS(aw:FuncId):Sig:=⟨aw,[],[],[],[.bool],false⟩
def aIh(T:TP U.D)(aw:FuncId)(tc:lO U.D):lO U.D:=fun i d=>match T.sig i with
 |some s=>bif Nat.beq s.f aw then(match d with
  |[]=>some [⟨.bool,true⟩]
  |_=>none)else tc i d
 |none=>none
theorem aIg{aw:FuncId}{tc:lO U.D}{pc:eH}(h0:CallOK U T tc pc)(hs: ∀i s,T.sig i=some s→s.f=aw→s=awS aw):CallOK U T (aIh T aw tc) (uA aw pc):=by
 intro i s d out h1 h p cc args S0 M0 hin;unfold aIh at h;rw[h1]at h;simp only at h;unfold uA;cases hf:Nat.beq s.f aw with
 |false=>rw[hf]at h;exact h0 i s d out h1 h p cc args S0 M0 hin
 |true=>
  rw[hf,cdt]at h;have e:=hs i s h1 (nqE hf);subst e;split at h
  ·simp only[ojE]at h;subst h;have hl:args=[]:=List.length_eq_zero_iff.1 hin.len;subst hl;refine⟨.v (.bool true),false,p,rfl,?_⟩;exact⟨⟨bX _,aE _ _⟩,⟨[],rfl,fun j x hj=>(by cases hj)⟩,rfl,fun _ _ _=>rfl,fun _ _ _=>rfl,fun id h=> .inl h,fun id h=>h,fun id h=> .inl h⟩
  ·cases h
end
end Go.TV
