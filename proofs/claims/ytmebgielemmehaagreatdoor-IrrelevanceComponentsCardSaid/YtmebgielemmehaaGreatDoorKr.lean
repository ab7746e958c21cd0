import Derived.Test.YtmebgielemmehaaGreatDoorKq
set_option linter.unusedVariables false
set_option linter.unusedSimpArgs false
set_option linter.constructorNameAsVariable false
set_option linter.defProp false
namespace Go.TV
open Go.AI Go.PI Go.Proofs
set_option maxRecDepth 20000
def aZx(z:Nat):mX:={wr:=false,tip:=false,z,grp:=none}
def aFA(i:Nat)(cs:List Value)(z:Nat):St:=St.put ⟨.nil,.nil,6⟩ i (.cells cs (aZx z))
structure aN6(β:World)(p:AI.Place)(cs:List Value)(z:Nat):Prop where
 row: ∃C t fr,β.heap[p.b]?=some (Obj.cells C t fr)/\∀(i:Nat) (v:Value),cs[i]?=some v->C[p.o+i]?=some v
 pl: ∀v∈cs,bR v=true
 z:p.z=z
def aCu(i:Nat)(p:Option AI.Place):Mp:=λid=>if id=i then p else if id<5 then some ⟨id,0,0,1⟩else none
def sP(i:Nat)(cs:List Value)(z id:Nat):(aFA i cs z).get id=if id=i then some (.cells cs (aZx z))else none:=by
 unfold aFA;rw[St.get_put];split
 .rfl
 .exact Tr.get_nil id
def aQn{β:World}{i:Nat}{p:Option AI.Place}{cs:List Value}{z:Nat}(hi:i<6)(hp: ∀q,p=some q->aN6 β q cs z)(hg:i<5->∃q,p=some q/\q.b=i/\q.o=0)(hz:5<=β.heap.size):Sim β Tryz.prog (aCu i p) (aFA i cs z) β:=by
 have hgs:Tryz.prog.globals.size=5:=by kernel_rfl
 have key: ∀id q ds m,aCu i p id=some q->(aFA i cs z).get id=some (.cells ds m)->aN6 β q ds m.z/\m.wr=false/\m.tip=false/\m.grp=none/\id=i:=by
  intro id q ds m hm bc;rw[sP]at bc;unfold aCu at hm;split at bc
  .rename_i e;cases bc;rw[bI e]at hm;exact⟨hp q hm,rfl,rfl,rfl,e⟩
  .cases bc
 exact{
  kept:=KeptO.refl λid q hm=>by
   unfold aCu at hm;split at hm
   .obtain⟨C,t,fr,r1,_⟩:=(hp q hm).row;exact(Array.getElem?_eq_some_iff.1 r1).1
   .split at hm
    .cases hm;show id<β.heap.size;omega
    .cases hm
  dom:=λid hid=>by
   have:6<=id:=hid;unfold aCu;rw[bH (by omega),bH (by omega)]
  glob:=λg bp=>by
   rw[hgs]at bp;unfold aCu;by_cases e:g=i
   .subst e;obtain⟨q,h1,h2,h3⟩:=hg bp;exact⟨q,by rw[bI rfl];exact h1,h2,h3⟩
   .exact⟨⟨g,0,0,1⟩,by rw[bH e,bI bp],rfl,rfl⟩
  row:=λid q ds m hm bc _=>by
   obtain⟨⟨⟨C,t,fr,r1,r2⟩,r3,r4⟩,k1,k2,k3,_⟩:=key id q ds m hm bc;exact⟨⟨C,t,fr,r1,λi v hv=>⟨v,r2 i v hv,.same v (r3 v (List.mem_of_getElem? hv))⟩,(λh=>by rw[k2]at h;cases h)⟩,(λh=>by rw[k1]at h;cases h),(λh=>by rw[k2]at h;cases h),r4,λh=>by rw[k1]at h;cases h⟩
  map:=λid q es hm bc=>by
   rw[sP]at bc;split at bc<;>cases bc
  off:=λa b q q' ds es m n _ hm _ bc _ _ _ hw=>by
   obtain⟨_,k1,_⟩:=key a q ds m hm bc;rw[k1]at hw;cases hw
  tip:=λa b q q' ds es m n _ hm _ bc _ _ _ hw=>by
   obtain⟨_,_,k2,_⟩:=key a q ds m hm bc;rw[k2]at hw;cases hw
  maps:=λa b q q' es fs _ _ _ bc=>by
   rw[sP]at bc;split at bc<;>cases bc
  vers:=λid ds m g v bc jg=>by
   rw[sP]at bc;split at bc
   .cases bc;cases jg
   .cases bc
  lim:=λa b q q' ds es m n _ hm _ bc _ _ _ hw=>by
   obtain⟨_,_,k2,_⟩:=key a q ds m hm bc;rw[k2]at hw;cases hw}
def AK{P:Program}{w0 w:World}{name:String}{k:IntKind}{zs:List Int}(h:Lib.TabIs P w0 name k zs)(K:Kept w0 w):Lib.TabIs P w name k zs:=by
 unfold Lib.TabIs World.var? at*;cases hg:P.globalNamed name with
 |none=>simp[hg]at h
 |some g=>
  simp only[hg,aL]at h⊢;have bh:g<w0.heap.size:=by
   rcases Nat.lt_or_ge g w0.heap.size with h'|h'
   .exact h'
   .rw[Array.getElem?_eq_none h']at h;simp at h
  rw[K.old g bh];exact h
def P0{w0:World}(ht:Lib.TabIs Tryz.prog w0 aK2 .u64 Lib.pow10Tab): ∀a b s,orcI.s a b=some s->∀w,Kept w0 w->
    (∃fn c,Tryz.prog.funcs[orcI.n]?=some fn/\fn.body=some c/\(fn.name== "runtime.NumGoroutine")=false)/\Calls Tryz.prog orcI.n #[.int .i64 a,.int .i64 b] w λe w'=>e= .returned (.string ⟨s.toArray⟩)/\Kept w w':=by
 intro a b s hs w hK;have ht':=AK ht hK;have key: ∀u:Nat,1<=u->u<=3->a= -(u:Int)->b=10->45::Lib.decDigits u=s->(∃fn c,Tryz.prog.funcs[orcI.n]?=some fn/\fn.body=some c/\(fn.name== "runtime.NumGoroutine")=false)/\
      Calls Tryz.prog orcI.n #[.int .i64 a,.int .i64 b] w λe w'=>e= .returned (.string ⟨s.toArray⟩)/\Kept w w':=by
  intro u h1 h2 ea eb es;subst ea;subst eb;subst es;exact⟨⟨_,_,Tryz.func187,rfl,by kernel_rfl⟩,LQ Tryz.laysM246 u h1 (by omega) w ht'⟩
 have d1:Lib.decDigits 1=[49]:=by rw[Lib.decDigits];rfl
 have d2:Lib.decDigits 2=[50]:=by rw[Lib.decDigits];rfl
 have d3:Lib.decDigits 3=[51]:=by rw[Lib.decDigits];rfl
 simp only[orcI]at hs;cases hb:decide (b=10)with
 |false=>rw[hb]at hs;cases hs
 |true=>
  have bv:=bK hb;rw[hb,aI]at hs;cases h1:decide (a= -1)with
  |true=>rw[h1,aI]at hs;cases hs;exact key 1 (by omega) (by omega) (bK h1) bv (by rw[d1])
  |false=>
   rw[h1,aJ]at hs;cases h2:decide (a= -2)with
   |true=>rw[h2,aI]at hs;cases hs;exact key 2 (by omega) (by omega) (bK h2) bv (by rw[d2])
   |false=>
    rw[h2,aJ]at hs;cases h3:decide (a= -3)with
    |true=>rw[h3,aI]at hs;cases hs;exact key 3 (by omega) (by omega) (bK h3) bv (by rw[d3])
    |false=>rw[h3]at hs;cases hs
end Go.TV
