import Derived.Test.YtjapdpcodgaoaaaGreatDoorKu
set_option linter.all false
namespace Go.TV
open Go.AI Go.PI Go.Proofs
set_option maxRecDepth 20000
def aSG(z:Nat):wB:={wr:=false,tip:=false,z,grp:=none}
def a8e(i:Nat)(cs:au Value)(z:Nat):St:=St.put ⟨.nil,.nil,4⟩ i (.cells cs (aSG z))
structure aDU(β:World)(p:AI.Place)(cs:List Value)(z:Nat):Prop where
 row: ∃C t fr,β.heap[p.b]?=some (Obj.cells C t fr)/\∀(i:Nat) (v:Value),cs[i]?=some v->C[p.o+i]?=some v
 pl: ∀v∈cs,bZ v=true
 z:p.z=z
def a1K(i:Nat)(p:f9 AI.Place):Mp:=λid=>if id=i then p else if id<3 then some ⟨id,0,0,1⟩else none
def D8(i:Nat)(cs:au Value)(z id:Nat):(a8e i cs z).get id=if id=i then some (.cells cs (aSG z))else none:=by
 unfold a8e;rw[St.get_put];split
 .rfl
 .exact Tr.get_nil id
def bH8{β:World}{i:Nat}{p:f9 AI.Place}{cs:au Value}{z:Nat}(hi:i<4)(hp: ∀q,p=some q->aDU β q cs z)(hg:i<3->∃q,p=some q/\q.b=i/\q.o=0)(hz:3<=β.heap.size):Sim β Tryz.prog (a1K i p) (a8e i cs z) β:=by
 have hgs:Tryz.prog.globals.size=3:=by kernel_rfl
 have key: ∀id q ds m,a1K i p id=some q->(a8e i cs z).get id=some (.cells ds m)->aDU β q ds m.z/\m.wr=false/\m.tip=false/\m.grp=none/\id=i:=by
  intro id q ds m hm bc;rw[D8]at bc;unfold a1K at hm;split at bc
  .rename_i e;cases bc;rw[bJ e]at hm;exact⟨hp q hm,rfl,rfl,rfl,e⟩
  .cases bc
 exact{
  kept:=KeptO.refl λid q hm=>by
   unfold a1K at hm;split at hm
   .obtain⟨C,t,fr,r1,_⟩:=(hp q hm).row;exact(Array.getElem?_eq_some_iff.1 r1).1
   .split at hm
    .cases hm;show id<β.heap.size;omega
    .cases hm
  dom:=λid hid=>by
   have:4<=id:=hid;unfold a1K;rw[bI (by omega),bI (by omega)]
  glob:=λg bj=>by
   rw[hgs]at bj;unfold a1K;by_cases e:g=i
   .subst e;obtain⟨q,h1,h2,h3⟩:=hg bj;exact⟨q,by rw[bJ rfl];exact h1,h2,h3⟩
   .exact⟨⟨g,0,0,1⟩,by rw[bI e,bJ bj],rfl,rfl⟩
  row:=λid q ds m hm bc _=>by
   obtain⟨⟨⟨C,t,fr,r1,r2⟩,r3,r4⟩,k1,k2,k3,_⟩:=key id q ds m hm bc;exact⟨⟨C,t,fr,r1,λi v hv=>⟨v,r2 i v hv,.same v (r3 v (List.mem_of_getElem? hv))⟩,(λh=>by rw[k2]at h;cases h)⟩,(λh=>by rw[k1]at h;cases h),(λh=>by rw[k2]at h;cases h),r4,λh=>by rw[k1]at h;cases h⟩
  map:=λid q es hm bc=>by
   rw[D8]at bc;split at bc<;>cases bc
  off:=λa b q q' ds es m n _ hm _ bc _ _ _ hw=>by
   obtain⟨_,k1,_⟩:=key a q ds m hm bc;rw[k1]at hw;cases hw
  tip:=λa b q q' ds es m n _ hm _ bc _ _ _ hw=>by
   obtain⟨_,_,k2,_⟩:=key a q ds m hm bc;rw[k2]at hw;cases hw
  maps:=λa b q q' es fs _ _ _ bc=>by
   rw[D8]at bc;split at bc<;>cases bc
  vers:=λid ds m g v bc gr=>by
   rw[D8]at bc;split at bc
   .cases bc;cases gr
   .cases bc
  lim:=λa b q q' ds es m n _ hm _ bc _ _ _ hw=>by
   obtain⟨_,_,k2,_⟩:=key a q ds m hm bc;rw[k2]at hw;cases hw}
def QE{P:Program}{w0 w:World}{name:String}{k:IntKind}{zs:au Int}(h:Lib.TabIs P w0 name k zs)(K:Kept w0 w):Lib.TabIs P w name k zs:=by
 unfold Lib.TabIs World.var? at*;cases hg:P.globalNamed name with
 |none=>simp[hg]at h
 |some g=>
  simp only[hg,aL]at h⊢;have hlt:g<w0.heap.size:=by
   rcases Nat.lt_or_ge g w0.heap.size with h'|h'
   .exact h'
   .rw[Array.getElem?_eq_none h']at h;simp at h
  rw[K.old g hlt];exact h
def aDl(w:World)(k:Nat)(os:Array Obj):Kept w (Go.Sort.grow (w.drewN k) os):=by
 refine⟨rfl,rfl,?_,λj hj=>?_⟩
 .show w.heap.size<=(w.heap++os).size;rw[Array.size_append];omega
 .show(w.heap++os)[j]?=_;rw[Array.getElem?_append_left hj]
def aPQ{u:Nat}(h:u<10):Lib.decDigits u=[UInt8.ofNat (48+u)]:=by rw[Lib.decDigits,dif_pos h]
def bMY{u:Nat}(h0:100<=u)(h1:u<1000):Lib.decDigits u=[UInt8.ofNat (48+u/100),UInt8.ofNat (48+u/10%10),UInt8.ofNat (48+u%10)]:=by
 rw[Lib.decDigits,dif_neg (by omega),Lib.decDigits,dif_neg (by omega),aPQ (by omega),Nat.div_div_eq_div_mul]
 rfl
def a3g{a:Int}{s:au UInt8}(h:bKi a=some s):Lib.itoa a=s/\ -1000<=a/\a<=1000:=by
 unfold bKi at h;cases h1:decide (a= -1)with
 |true=>rw[h1,aI]at h;cases h;have:=bL h1;subst this;exact⟨by unfold Lib.itoa;rw[bJ (by decide),aPQ (by decide)];rfl,by omega,by omega⟩
 |false=>
  rw[h1,aJ]at h;cases h2:decide (a= -2)with
  |true=>rw[h2,aI]at h;cases h;have:=bL h2;subst this;exact⟨by unfold Lib.itoa;rw[bJ (by decide),aPQ (by decide)];rfl,by omega,by omega⟩
  |false=>
   rw[h2,aJ]at h;cases h3:decide (a= -3)with
   |true=>rw[h3,aI]at h;cases h;have:=bL h3;subst this;exact⟨by unfold Lib.itoa;rw[bJ (by decide),aPQ (by decide)];rfl,by omega,by omega⟩
   |false=>
    rw[h3,aJ]at h;cases h4:decide (100<=a)&&decide (a<1000)with
    |false=>rw[h4]at h;cases h
    |true=>
     rw[h4,aI]at h;cases h;rw[aC]at h4;have h5:=bL h4.1;have h6:=bL h4.2;exact⟨by unfold Lib.itoa;rw[bI (by omega),bMY (by omega) (by omega)],by omega,by omega⟩
def aAI{w0:World}(ht:Lib.TabIs Tryz.prog w0 a6z .u64 Lib.pow10Tab): ∀a b s,orcI.s a b=some s->∀w,Kept w0 w->
    (∃fn c,Tryz.prog.funcs[orcI.n]?=some fn/\fn.body=some c/\(fn.name== "runtime.NumGoroutine")=false)/\Calls Tryz.prog orcI.n #[.int .i64 a,.int .i64 b] w λe w'=>e= .returned (.string ⟨s.toArray⟩)/\Kept w w':=by
 intro a b s hs w hK;have ht':=QE ht hK;simp only[orcI]at hs;cases hb:decide (b=10)with
 |false=>rw[hb]at hs;cases hs
 |true=>
  have bm:=bL hb;rw[hb,aI]at hs;obtain⟨e,h1,h2⟩:=a3g hs;subst bm;refine⟨⟨_,_,Tryz.func197,rfl,by kernel_rfl⟩,(Any.internal_strconv_FormatInt_10 Tryz.laysM246 a (by omega) (by omega) w ht').mono ?_⟩
  rintro r w' ⟨rfl,k,os,rfl⟩;exact⟨by rw[e],aDl w k os⟩
end Go.TV
