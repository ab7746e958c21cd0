import Derived.Test.YtdjaoblfbbcpdaaGreatDoorKt
set_option linter.unusedVariables false
set_option linter.unusedSimpArgs false
set_option linter.constructorNameAsVariable false
set_option linter.defProp false
namespace Go.TV
open Go.AI Go.PI Go.Proofs
set_option maxRecDepth 20000
def a21(z:Nat):pM:={wr:=false,tip:=false,z,grp:=none}
structure aNa(β:World)(p:AI.Place)(cs:List Value)(z:Nat):Prop where
 row: ∃C t fr,β.heap[p.b]?=some (Obj.cells C t fr)/\∀(i:Nat) (v:Value),cs[i]?=some v->C[p.o+i]?=some v
 pl: ∀v∈cs,bN v=true
 z:p.z=z
def Dw{P:Program}{w0 w:World}{name:String}{k:IntKind}{zs:List Int}(h:Lib.TabIs P w0 name k zs)(K:Kept w0 w):Lib.TabIs P w name k zs:=by
 unfold Lib.TabIs World.var? at*;cases hg:P.globalNamed name with
 |none=>simp[hg]at h
 |some g=>
  simp only[hg,aL]at h⊢;have bi:g<w0.heap.size:=by
   rcases Nat.lt_or_ge g w0.heap.size with h'|h'
   .exact h'
   .rw[Array.getElem?_eq_none h']at h;simp at h
  rw[K.old g bi];exact h
def aAv(w:World)(k:Nat)(os:Array Obj):Kept w (Go.Sort.grow (w.drewN k) os):=by
 refine⟨rfl,rfl,?_,λj hj=>?_⟩
 .show w.heap.size<=(w.heap++os).size;rw[Array.size_append];omega
 .show(w.heap++os)[j]?=_;rw[Array.getElem?_append_left hj]
def aLJ{u:Nat}(h:u<10):Lib.decDigits u=[UInt8.ofNat (48+u)]:=by rw[Lib.decDigits,dif_pos h]
def bHA{u:Nat}(h0:100<=u)(h1:u<1000):Lib.decDigits u=[UInt8.ofNat (48+u/100),UInt8.ofNat (48+u/10%10),UInt8.ofNat (48+u%10)]:=by
 rw[Lib.decDigits,dif_neg (by omega),Lib.decDigits,dif_neg (by omega),aLJ (by omega),Nat.div_div_eq_div_mul]
 rfl
def aY9{a:Int}{s:List UInt8}(h:bEa a=some s):Lib.itoa a=s/\ -1000<=a/\a<=1000:=by
 unfold bEa at h;cases h1:decide (a= -1)with
 |true=>rw[h1,aI]at h;cases h;have:=of_decide_eq_true h1;subst this;exact⟨by unfold Lib.itoa;rw[bI (by decide),aLJ (by decide)];rfl,by omega,by omega⟩
 |false=>
  rw[h1,aJ]at h;cases h2:decide (a= -2)with
  |true=>rw[h2,aI]at h;cases h;have:=of_decide_eq_true h2;subst this;exact⟨by unfold Lib.itoa;rw[bI (by decide),aLJ (by decide)];rfl,by omega,by omega⟩
  |false=>
   rw[h2,aJ]at h;cases h3:decide (a= -3)with
   |true=>rw[h3,aI]at h;cases h;have:=of_decide_eq_true h3;subst this;exact⟨by unfold Lib.itoa;rw[bI (by decide),aLJ (by decide)];rfl,by omega,by omega⟩
   |false=>
    rw[h3,aJ]at h;cases h4:decide (100<=a)&&decide (a<1000)with
    |false=>rw[h4]at h;cases h
    |true=>
     rw[h4,aI]at h;cases h;rw[aC]at h4;have h5:=of_decide_eq_true h4.1;have h6:=of_decide_eq_true h4.2;exact⟨by unfold Lib.itoa;rw[bH (by omega),bHA (by omega) (by omega)],by omega,by omega⟩
def WY{w0:World}(ht:Lib.TabIs Tryz.prog w0 a22 .u64 Lib.pow10Tab): ∀a b s,orcI.s a b=some s->∀w,Kept w0 w->
    (∃ fn c, Tryz.prog.funcs[orcI.n]? = some fn ∧ fn.body = some c ∧ (fn.name == "runtime.NumGoroutine") = false) ∧ Calls Tryz.prog orcI.n #[.int .i64 a, .int .i64 b] w fun e w' => e = .returned (.string ⟨s.toArray⟩) ∧ Kept w w' := by
 intro a b s hs w hK;have ht':=Dw ht hK;simp only[orcI]at hs;cases hb:decide (b=10)with
 |false=>rw[hb]at hs;cases hs
 |true=>
  have bu:=of_decide_eq_true hb;rw[hb,aI]at hs;obtain⟨e,h1,h2⟩:=aY9 hs;subst bu;refine⟨⟨_,_,Tryz.func240,rfl,by kernel_rfl⟩,(Any.internal_strconv_FormatInt_10 Tryz.laysM246 a (by omega) (by omega) w ht').mono ?_⟩
  rintro r w' ⟨rfl,k,os,rfl⟩;exact⟨by rw[e],aAv w k os⟩
end Go.TV
