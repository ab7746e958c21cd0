import Derived.Test.YtgfhobcfdppbdaaGreatDoorKs
set_option linter.unusedVariables false
set_option linter.unusedSimpArgs false
set_option linter.constructorNameAsVariable false
set_option linter.defProp false
namespace Go.TV
open Go.AI Go.PI Go.Proofs
set_option maxRecDepth 20000
def aSy(z:Nat):uJ:={wr:=false,tip:=false,z,grp:=none}
def bAs(i:Nat)(cs:List Value)(z:Nat):St:=St.put ⟨.nil,.nil,6⟩ i (.cells cs (aSy z))
structure aDs(β:World)(p:AI.Place)(cs:List Value)(z:Nat):Prop where
 row: ∃C t fr,β.heap[p.b]?=some (Obj.cells C t fr)/\∀(i:Nat) (v:Value),cs[i]?=some v->C[p.o+i]?=some v
 pl: ∀v∈cs,bQ v=true
 z:p.z=z
def a3c(i:Nat)(p:Option AI.Place):Mp:=λid=>if id=i then p else if id<5 then some ⟨id,0,0,1⟩else none
def Dm(i:Nat)(cs:List Value)(z id:Nat):(bAs i cs z).get id=if id=i then some (.cells cs (aSy z))else none:=by
 unfold bAs;rw[St.get_put];split
 .rfl
 .exact Tr.get_nil id
def bJB{β:World}{i:Nat}{p:Option AI.Place}{cs:List Value}{z:Nat}(hi:i<6)(hp: ∀q,p=some q->aDs β q cs z)(hg:i<5->∃q,p=some q/\q.b=i/\q.o=0)(hz:5<=β.heap.size):Sim β Tryz.prog (a3c i p) (bAs i cs z) β:=by
 have hgs:Tryz.prog.globals.size=5:=by kernel_rfl
 have key: ∀id q ds m,a3c i p id=some q->(bAs i cs z).get id=some (.cells ds m)->aDs β q ds m.z/\m.wr=false/\m.tip=false/\m.grp=none/\id=i:=by
  intro id q ds m hm bc;rw[Dm]at bc;unfold a3c at hm;split at bc
  .rename_i e;cases bc;rw[bI e]at hm;exact⟨hp q hm,rfl,rfl,rfl,e⟩
  .cases bc
 exact{
  kept:=KeptO.refl λid q hm=>by
   unfold a3c at hm;split at hm
   .obtain⟨C,t,fr,r1,_⟩:=(hp q hm).row;exact(Array.getElem?_eq_some_iff.1 r1).1
   .split at hm
    .cases hm;show id<β.heap.size;omega
    .cases hm
  dom:=λid hid=>by
   have:6<=id:=hid;unfold a3c;rw[bH (by omega),bH (by omega)]
  glob:=λg bm=>by
   rw[hgs]at bm;unfold a3c;by_cases e:g=i
   .subst e;obtain⟨q,h1,h2,h3⟩:=hg bm;exact⟨q,by rw[bI rfl];exact h1,h2,h3⟩
   .exact⟨⟨g,0,0,1⟩,by rw[bH e,bI bm],rfl,rfl⟩
  row:=λid q ds m hm bc _=>by
   obtain⟨⟨⟨C,t,fr,r1,r2⟩,r3,r4⟩,k1,k2,k3,_⟩:=key id q ds m hm bc;exact⟨⟨C,t,fr,r1,λi v hv=>⟨v,r2 i v hv,.same v (r3 v (List.mem_of_getElem? hv))⟩,(λh=>by rw[k2]at h;cases h)⟩,(λh=>by rw[k1]at h;cases h),(λh=>by rw[k2]at h;cases h),r4,λh=>by rw[k1]at h;cases h⟩
  map:=λid q es hm bc=>by
   rw[Dm]at bc;split at bc<;>cases bc
  off:=λa b q q' ds es m n _ hm _ bc _ _ _ hw=>by
   obtain⟨_,k1,_⟩:=key a q ds m hm bc;rw[k1]at hw;cases hw
  tip:=λa b q q' ds es m n _ hm _ bc _ _ _ hw=>by
   obtain⟨_,_,k2,_⟩:=key a q ds m hm bc;rw[k2]at hw;cases hw
  maps:=λa b q q' es fs _ _ _ bc=>by
   rw[Dm]at bc;split at bc<;>cases bc
  vers:=λid ds m g v bc gm=>by
   rw[Dm]at bc;split at bc
   .cases bc;cases gm
   .cases bc
  lim:=λa b q q' ds es m n _ hm _ bc _ _ _ hw=>by
   obtain⟨_,_,k2,_⟩:=key a q ds m hm bc;rw[k2]at hw;cases hw}
def P8{P:Program}{w0 w:World}{name:String}{k:IntKind}{zs:List Int}(h:Lib.TabIs P w0 name k zs)(K:Kept w0 w):Lib.TabIs P w name k zs:=by
 unfold Lib.TabIs World.var? at*;cases hg:P.globalNamed name with
 |none=>simp[hg]at h
 |some g=>
  simp only[hg,aL]at h⊢;have bi:g<w0.heap.size:=by
   rcases Nat.lt_or_ge g w0.heap.size with h'|h'
   .exact h'
   .rw[Array.getElem?_eq_none h']at h;simp at h
  rw[K.old g bi];exact h
def aCP(w:World)(k:Nat)(os:Array Obj):Kept w (Go.Sort.grow (w.drewN k) os):=by
 refine⟨rfl,rfl,?_,λj hj=>?_⟩
 .show w.heap.size<=(w.heap++os).size;rw[Array.size_append];omega
 .show(w.heap++os)[j]?=_;rw[Array.getElem?_append_left hj]
def aPE{u:Nat}(h:u<10):Lib.decDigits u=[UInt8.ofNat (48+u)]:=by rw[Lib.decDigits,dif_pos h]
def bON{u:Nat}(h0:100<=u)(h1:u<1000):Lib.decDigits u=[UInt8.ofNat (48+u/100),UInt8.ofNat (48+u/10%10),UInt8.ofNat (48+u%10)]:=by
 rw[Lib.decDigits,dif_neg (by omega),Lib.decDigits,dif_neg (by omega),aPE (by omega),Nat.div_div_eq_div_mul]
 rfl
def a5d{a:Int}{s:List UInt8}(h:bLC a=some s):Lib.itoa a=s/\ -1000<=a/\a<=1000:=by
 unfold bLC at h;cases h1:decide (a= -1)with
 |true=>rw[h1,aI]at h;cases h;have:=of_decide_eq_true h1;subst this;exact⟨by unfold Lib.itoa;rw[bI (by decide),aPE (by decide)];rfl,by omega,by omega⟩
 |false=>
  rw[h1,aJ]at h;cases h2:decide (a= -2)with
  |true=>rw[h2,aI]at h;cases h;have:=of_decide_eq_true h2;subst this;exact⟨by unfold Lib.itoa;rw[bI (by decide),aPE (by decide)];rfl,by omega,by omega⟩
  |false=>
   rw[h2,aJ]at h;cases h3:decide (a= -3)with
   |true=>rw[h3,aI]at h;cases h;have:=of_decide_eq_true h3;subst this;exact⟨by unfold Lib.itoa;rw[bI (by decide),aPE (by decide)];rfl,by omega,by omega⟩
   |false=>
    rw[h3,aJ]at h;cases h4:decide (100<=a)&&decide (a<1000)with
    |false=>rw[h4]at h;cases h
    |true=>
     rw[h4,aI]at h;cases h;rw[aC]at h4;have h5:=of_decide_eq_true h4.1;have h6:=of_decide_eq_true h4.2;exact⟨by unfold Lib.itoa;rw[bH (by omega),bON (by omega) (by omega)],by omega,by omega⟩
def aAm{w0:World}(ht:Lib.TabIs Tryz.prog w0 a8M .u64 Lib.pow10Tab): ∀a b s,orcI.s a b=some s->∀w,Kept w0 w->
    (∃ fn c, Tryz.prog.funcs[orcI.n]? = some fn ∧ fn.body = some c ∧ (fn.name == "runtime.NumGoroutine") = false) ∧ Calls Tryz.prog orcI.n #[.int .i64 a, .int .i64 b] w fun e w' => e = .returned (.string ⟨s.toArray⟩) ∧ Kept w w' := by
 intro a b s hs w hK;have ht':=P8 ht hK;simp only[orcI]at hs;cases hb:decide (b=10)with
 |false=>rw[hb]at hs;cases hs
 |true=>
  have bp:=of_decide_eq_true hb;rw[hb,aI]at hs;obtain⟨e,h1,h2⟩:=a5d hs;subst bp;refine⟨⟨_,_,Tryz.func200,rfl,by kernel_rfl⟩,(Any.internal_strconv_FormatInt_10 Tryz.laysM246 a (by omega) (by omega) w ht').mono ?_⟩
  rintro r w' ⟨rfl,k,os,rfl⟩;exact⟨by rw[e],aCP w k os⟩
end Go.TV
