import Derived.Test.YtgeanbfoeopjfaaGreatDoorKq
import Derived.KernelRfl
set_option linter.unusedVariables false
set_option linter.unusedSimpArgs false
set_option linter.constructorNameAsVariable false
namespace Go.TV
open Go.AI Go.PI Go.Proofs
set_option maxRecDepth 20000
def rdM(z:Nat):Mta:={wr:=false,tip:=false,z,grp:=none}
def st1(i:Nat)(cs:List Value)(z:Nat):St:=St.put ⟨.nil,.nil,6⟩ i (.cells cs (rdM z))
structure RowW(W:World)(p:AI.Place)(cs:List Value)(z:Nat):Prop where
 row: ∃C t fr,W.heap[p.b]?=some (Obj.cells C t fr)∧∀(i:Nat) (v:Value),cs[i]?=some v→C[p.o+i]?=some v
 pl: ∀v∈cs,aC v=true
 z:p.z=z
def mu1(i:Nat)(p:Option AI.Place):Mp:=fun id=>if id=i then p else if id<5 then some ⟨id,0,0,1⟩else none
theorem mI(i:Nat)(cs:List Value)(z id:Nat):(st1 i cs z).get id=if id=i then some (.cells cs (rdM z))else none:=by
 unfold st1;rw[St.get_put];split
 ·rfl
 ·exact Tr.get_nil id
theorem sim1{W:World}{i:Nat}{p:Option AI.Place}{cs:List Value}{z:Nat}(hi:i<6)(hp: ∀q,p=some q→RowW W q cs z)(hg:i<5→∃q,p=some q∧q.b=i∧q.o=0)(hz:5≤W.heap.size):Sim W Tryz.prog (mu1 i p) (st1 i cs z) W:=by
 have hgs:Tryz.prog.globals.size=5:=by kernel_rfl
 have key: ∀id q ds m,mu1 i p id=some q→(st1 i cs z).get id=some (.cells ds m)→RowW W q ds m.z∧m.wr=false∧m.tip=false∧m.grp=none∧id=i:=by
  intro id q ds m hm hget;rw[mI]at hget;unfold mu1 at hm;split at hget
  ·rename_i e;cases hget;rw[if_pos e]at hm;exact⟨hp q hm,rfl,rfl,rfl,e⟩
  ·cases hget
 exact{
  kept:=KeptO.refl fun id q hm=>by
   unfold mu1 at hm;split at hm
   ·obtain⟨C,t,fr,r1,_⟩:=(hp q hm).row;exact(Array.getElem?_eq_some_iff.1 r1).1
   ·split at hm
    ·cases hm;show id<W.heap.size;omega
    ·cases hm
  dom:=fun id hid=>by
   have:6≤id:=hid;unfold mu1;rw[if_neg (by omega),if_neg (by omega)]
  glob:=fun g hg'=>by
   rw[hgs]at hg';unfold mu1;by_cases e:g=i
   ·subst e;obtain⟨q,h1,h2,h3⟩:=hg hg';exact⟨q,by rw[if_pos rfl];exact h1,h2,h3⟩
   ·exact⟨⟨g,0,0,1⟩,by rw[if_neg e,if_pos hg'],rfl,rfl⟩
  row:=fun id q ds m hm hget _=>by
   obtain⟨⟨⟨C,t,fr,r1,r2⟩,r3,r4⟩,k1,k2,k3,_⟩:=key id q ds m hm hget;exact⟨⟨C,t,fr,r1,fun i v hv=>⟨v,r2 i v hv,.same v (r3 v (List.mem_of_getElem? hv))⟩,(fun h=>by rw[k2]at h;cases h)⟩,(fun h=>by rw[k1]at h;cases h),(fun h=>by rw[k2]at h;cases h),r4,fun h=>by rw[k1]at h;cases h⟩
  map:=fun id q es hm hget=>by
   rw[mI]at hget;split at hget<;>cases hget
  off:=fun a b q q' ds es m n _ hm _ hget _ _ _ hw=>by
   obtain⟨_,k1,_⟩:=key a q ds m hm hget;rw[k1]at hw;cases hw
  tip:=fun a b q q' ds es m n _ hm _ hget _ _ _ hw=>by
   obtain⟨_,_,k2,_⟩:=key a q ds m hm hget;rw[k2]at hw;cases hw
  maps:=fun a b q q' es fs _ _ _ hget=>by
   rw[mI]at hget;split at hget<;>cases hget
  vers:=fun id ds m g v hget hgr=>by
   rw[mI]at hget;split at hget
   ·cases hget;cases hgr
   ·cases hget
  lim:=fun a b q q' ds es m n _ hm _ hget _ _ _ hw=>by
   obtain⟨_,_,k2,_⟩:=key a q ds m hm hget;rw[k2]at hw;cases hw}
theorem aBS{P:Program}{w0 w:World}{name:String}{k:IntKind}{zs:List Int}(h:Lib.TabIs P w0 name k zs)(K:Kept w0 w):Lib.TabIs P w name k zs:=by
 unfold Lib.TabIs World.var? at*;cases hg:P.globalNamed name with
 |none=>simp[hg]at h
 |some g=>
  simp only[hg,obS]at h⊢;have hlt:g<w0.heap.size:=by
   rcases Nat.lt_or_ge g w0.heap.size with h'|h'
   ·exact h'
   ·rw[Array.getElem?_eq_none h']at h;simp at h
  rw[K.old g hlt];exact h
theorem aGe{w0:World}(ht:Lib.TabIs Tryz.prog w0 pwN .u64 Lib.pow10Tab): ∀a b s,orcI.s a b=some s→∀w,Kept w0 w→
    (∃ fn c, Tryz.prog.funcs[orcI.n]? = some fn ∧ fn.body = some c ∧ (fn.name == "runtime.NumGoroutine") = false) ∧ Calls Tryz.prog orcI.n #[.int .i64 a, .int .i64 b] w fun e w' => e = .returned (.string ⟨s.toArray⟩) ∧ Kept w w' := by
 intro a b s hs w hK;have ht' := aBS ht hK;have key : ∀ u : Nat, 1 ≤ u → u ≤ 3 → a = -(u : Int) → b = 10 → 45 :: Lib.decDigits u = s → (∃ fn c, Tryz.prog.funcs[orcI.n]? = some fn ∧ fn.body = some c ∧ (fn.name == "runtime.NumGoroutine") = false) ∧
      Calls Tryz.prog orcI.n #[.int .i64 a,.int .i64 b] w fun e w'=>e= .returned (.string ⟨s.toArray⟩)∧Kept w w':=by
  intro u h1 h2 ea eb es;subst ea;subst eb;subst es;exact⟨⟨_,_,Tryz.func206,rfl,by kernel_rfl⟩,aEs Tryz.laysM246 u h1 (by omega) w ht'⟩
 have d1:Lib.decDigits 1=[49]:=by rw[Lib.decDigits];rfl
 have d2:Lib.decDigits 2=[50]:=by rw[Lib.decDigits];rfl
 have d3:Lib.decDigits 3=[51]:=by rw[Lib.decDigits];rfl
 simp only[orcI]at hs;cases hb:decide (b=10)with
 |false=>rw[hb]at hs;cases hs
 |true=>
  have hb':=of_decide_eq_true hb;rw[hb,cdt]at hs;cases h1:decide (a= -1)with
  |true=>rw[h1,cdt]at hs;cases hs;exact key 1 (by omega) (by omega) (of_decide_eq_true h1) hb' (by rw[d1])
  |false=>
   rw[h1,cdf]at hs;cases h2:decide (a= -2)with
   |true=>rw[h2,cdt]at hs;cases hs;exact key 2 (by omega) (by omega) (of_decide_eq_true h2) hb' (by rw[d2])
   |false=>
    rw[h2,cdf]at hs;cases h3:decide (a= -3)with
    |true=>rw[h3,cdt]at hs;cases hs;exact key 3 (by omega) (by omega) (of_decide_eq_true h3) hb' (by rw[d3])
    |false=>rw[h3]at hs;cases hs
end Go.TV
