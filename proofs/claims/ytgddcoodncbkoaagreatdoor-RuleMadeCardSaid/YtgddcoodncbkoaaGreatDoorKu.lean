import Derived.Test.YtgddcoodncbkoaaGreatDoorKt
set_option linter.unusedVariables false
set_option linter.unusedSimpArgs false
set_option linter.constructorNameAsVariable false
set_option linter.defProp false
namespace Go.TV
open Go.AI Go.PI Go.Proofs
set_option maxRecDepth 20000
def a6c(z:Nat):pJ:={wr:=false,tip:=false,z,grp:=none}
structure aJl(β:World)(p:AI.Place)(cs:List Value)(z:Nat):Prop where
 row: ∃C t fr,β.heap[p.b]?=some (Obj.cells C t fr)/\∀(i:Nat) (v:Value),cs[i]?=some v->C[p.o+i]?=some v
 pl: ∀v∈cs,bQ v=true
 z:p.z=z
def Dy{P:Program}{w0 w:World}{name:String}{k:IntKind}{zs:List Int}(h:Lib.TabIs P w0 name k zs)(K:Kept w0 w):Lib.TabIs P w name k zs:=by
 unfold Lib.TabIs World.var? at*;cases hg:P.globalNamed name with
 |none=>simp[hg]at h
 |some g=>
  simp only[hg,aL]at h⊢;have bi:g<w0.heap.size:=by
   rcases Nat.lt_or_ge g w0.heap.size with h'|h'
   .exact h'
   .rw[Array.getElem?_eq_none h']at h;simp at h
  rw[K.old g bi];exact h
def Xp{w0:World}(ht:Lib.TabIs Tryz.prog w0 a0B .u64 Lib.pow10Tab): ∀a b s,orcI.s a b=some s->∀w,Kept w0 w->
    (∃ fn c, Tryz.prog.funcs[orcI.n]? = some fn ∧ fn.body = some c ∧ (fn.name == "runtime.NumGoroutine") = false) ∧ Calls Tryz.prog orcI.n #[.int .i64 a, .int .i64 b] w fun e w' => e = .returned (.string ⟨s.toArray⟩) ∧ Kept w w' := by
 intro a b s hs w hK;have ht' := Dy ht hK;have key : ∀ u : Nat, 1 ≤ u → u ≤ 3 → a = -(u : Int) → b = 10 → 45 :: Lib.decDigits u = s → (∃ fn c, Tryz.prog.funcs[orcI.n]? = some fn ∧ fn.body = some c ∧ (fn.name == "runtime.NumGoroutine") = false) ∧
      Calls Tryz.prog orcI.n #[.int .i64 a,.int .i64 b] w λe w'=>e= .returned (.string ⟨s.toArray⟩)/\Kept w w':=by
  intro u h1 h2 ea eb es;subst ea;subst eb;subst es;exact⟨⟨_,_,Tryz.func221,rfl,by kernel_rfl⟩,Ss Tryz.laysM246 u h1 (by omega) w ht'⟩
 have d1:Lib.decDigits 1=[49]:=by rw[Lib.decDigits];rfl
 have d2:Lib.decDigits 2=[50]:=by rw[Lib.decDigits];rfl
 have d3:Lib.decDigits 3=[51]:=by rw[Lib.decDigits];rfl
 simp only[orcI]at hs;cases hb:decide (b=10)with
 |false=>rw[hb]at hs;cases hs
 |true=>
  have bv:=of_decide_eq_true hb;rw[hb,aI]at hs;cases h1:decide (a= -1)with
  |true=>rw[h1,aI]at hs;cases hs;exact key 1 (by omega) (by omega) (of_decide_eq_true h1) bv (by rw[d1])
  |false=>
   rw[h1,aJ]at hs;cases h2:decide (a= -2)with
   |true=>rw[h2,aI]at hs;cases hs;exact key 2 (by omega) (by omega) (of_decide_eq_true h2) bv (by rw[d2])
   |false=>
    rw[h2,aJ]at hs;cases h3:decide (a= -3)with
    |true=>rw[h3,aI]at hs;cases hs;exact key 3 (by omega) (by omega) (of_decide_eq_true h3) bv (by rw[d3])
    |false=>rw[h3]at hs;cases hs
end Go.TV
