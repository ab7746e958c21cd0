import Derived.Test.YtjapdpcodgaoaaaGreatDoorKh
open Option renaming some->aa,none->ae
open Bool renaming true->ah,false->aj,not_false->b9,not_eq_true'->io
open Decidable renaming decide->ak
open List renaming length->am,mem_of_getElem?->ef
open Nat renaming beq->ao,ble->aq,zero_le->b7,ble_eq->d8
open Go.IntKind renaming i64->ez
open Go.TV.G renaming T->f5,O->f6,Y->f7,E->f8
open Int renaming le_refl->oc
set_option linter.all false
namespace Go.TV
open Go.AI Go.PI Go.Proofs
set_option maxRecDepth 20000
noncomputable section
def prT:au (eT×Int):=[([101,113,117,97,108],96),([99,111,110,115],1536),([99,111,110,115,112],96),([115,121,109,98,111,108,112],96),([115,116,114,105,110,103,112],96),([114,97,116,105,111,110,97,108,112],96),([105,110,116,101,103,101,114,112],96),
 ([98,105,110,97,114,121,45,43],31),([98,105,110,97,114,121,45,42],31),([117,110,97,114,121,45,45],31),([117,110,97,114,121,45,47],31),([60],96),([110,117,109,101,114,97,116,111,114],7),([100,101,110,111,109,105,110,97,116,111,114],2),([102,108,111,111,114],7),
 ([115,121,109,98,111,108,45,110,97,109,101],256),([115,121,109,98,111,108,45,112,97,99,107,97,103,101,45,110,97,109,101],256),([105,110,116,101,114,110],224),([115,116,114,105,110,103,45,97,112,112,101,110,100],256),([115,116,114,105,110,103,45,108,101,110,103,116,104],3),([115,116,114,105,110,103,45,98,121,116,101],35),([98,121,116,101,45,115,116,114,105,110,103],256)]
def bN8(w:eT):au (eT×Int)->Int
 |[]=>2047
 |p::l=>if w=p.1 then p.2 else bN8 w l
def Q5(w:eT):Int:=bN8 w prT
def pe{nm w:eT}{k:Int}(h:ak (nm=w)=ah)(hk:Q5 w=k):Q5 nm=k:=by rw[bL h];exact hk
abbrev PT(nm:eT)(X:Prop)(o:f6):Prop:=wO o/\(X->cO o->jK o (Q5 nm))
def aTA{X:Prop}{o:f6}{nm:eT}{k:Int}(h:wO o)(e:Q5 nm=k)(hs:X->jK o k):EX oV (λ_ _=>aa (oV o)) (PT nm X):=⟨o,gG,h,λx _=>by rw[e];exact hs x⟩
def lY{X:Prop}{o:f6}{nm:eT}{k:Int}(h:wO o)(e:Q5 nm=k)(hs:jK o k):EX oV (λ_ _=>aa (oV o)) (PT nm X):=aTA h e λ_=>hs
def aIa{X:Prop}{o:f6}{nm:eT}(h:wO o)(e:Q5 nm=2047):EX oV (λ_ _=>aa (oV o)) (PT nm X):=lY h e (zI o)
def bCj{W:Type}{F:Nat->Nat->f9 W}{a b:W}(h1:Lp F a)(h2:Lp F b):a=b:=by
 obtain⟨α,hN⟩:=h1;obtain⟨M,hM⟩:=h2;have e1:=hN (max α M) (max α M) (by omega) (by omega)
 rw[hM (max α M) (max α M) (by omega) (by omega)]at e1
 exact(Option.some.inj e1).symm
def bBY{P:Prop}(h:cO Av):P:=by
 rcases h with h|h|h|h
 .exact absurd h.1 (by decide)
 .exact absurd h.1 (by decide)
 .exact absurd h (by decide)
 .exact absurd h.1 (by decide)
def aAk(a:eT):jK (Al a [49]) 7:=by rw[Le];exact aA5 rfl rfl
def aFn{a:eT}(h:iC a=aj):jK (Al a [49]) 3:=by
 rw[Le,h];exact a3m rfl rfl (ZG (dH a)).2
def aOh{a:eT}(h:iC a=aj)(hd:dD a≠ []):jK (Al a [49]) 2:=by
 rw[Le,h];exact aPp rfl rfl (ZG (dH a)).2 (aSy (dH a) (by rw[KV];exact hd))
def aHT{k:Nat}(h:k<1000):iC (aBa k)=aj:=by
 have key: ∀(j:Nat) (t:eT),j<10->iC (UInt8.ofNat (48+j)::t)=aj:=λj t hj=>by
  unfold iC;have:sg (UInt8.ofNat (48+j)::t)=aj:=by
   rw[Bu];refine bH ?_;rw[UInt8.toNat_ofNat'];have:(48+j)%2^8=48+j:=Nat.mod_eq_of_lt (by omega)
   rw[this];omega
  rw[this,Bool.and_false]
 unfold aBa;split
 .exact key _ _ (by omega)
 .split
  .exact key _ _ (by omega)
  .exact key _ _ (by omega)
abbrev AT(nm:eT)(l:au f6)(p:f6×Int):Prop:=vO p.1/\(p.2=0->(∀o∈l,cO o)->cO p.1/\(¬nm=Ap->jK p.1 (Q5 nm)))
section
variable(hF:AP)
include hF
def aN1{nm:eT}{x:f6}(hx:vO x):XR oV 114 [⟨.str,nm⟩,⟨.rc 2,x⟩] (PT nm (cO x)):=by
 have l1:=AS hx;have lf:=AS (BY hx);refine pQ (λL m=>a4Y nm x L m) ?_
 have tru: ∀b,Q5 nm=96->EX oV (λL m=>eE (cA L m 144 [⟨.bool,b⟩]) λ(r4:f6×Unit)=>aa [⟨.rc 2,r4.1⟩]) (PT nm (cO x)):=λb h=>eQ (Bx b) rfl (lY (aEw (aSA b)) h (RM b))
 have ν: ∀b,(b=ah->Q5 nm=2047)->EX oV (λL m=>De (cA L m) L b nm nm (dQ x) x Av) (PT nm (cO x)):=by
  intro b hb;simp only[De,Qe];refine cQ (λh0=>?_) λ_=>cQ (λh=>tru _ (pe h rfl)) λ_=>cQ (λh=>tru _ (pe h rfl)) λ_=>cQ (λh=>tru _ (pe h rfl)) λ_=>cQ (λh=>tru _ (pe h rfl)) λ_=>cQ (λh0=>?_) λ_=>cQ (λh0=>?_) λ_=>cQ (λh0=>?_) λ_=>cQ (λh0=>?_) λ_=>cQ (λh0=>?_) λ_=>cQ (λh0=>?_) λ_=>cQ (λh0=>?_) λ_=>cQ (λh0=>?_) λ_=>cQ (λh0=>?_) λ_=>cQ (λh0=>?_) λ_=>?_
  .refine eQ (aCT x) rfl ?_;simp only[];refine cQ (λ_=>eQ Cv rfl (aIa (by rfl) (hb h0))) λh=>?_
   have h2:ak ((x.pair.length:Int)=2)=ah:=by
    cases h3:ak (x.kind=4)<;>cases h4:ak ((x.pair.length:Int)=2)<;>simp[h3,h4]at h⊢
   obtain⟨a,b,e⟩:=KU h2;have m:=(aQZ (aEw hx)).2;have e0:dK x.pair (0:Int)=aa a:=by rw[e];rfl
   have e1:dK x.pair (1:Int)=aa b:=by rw[e];rfl
   simp only[e0,e1,cR];exact cQ (λ_=>aIa (bO'_mem m (by rw[e];simp)) (hb h0)) λ_=>aIa (bO'_mem m (by rw[e];simp)) (hb h0)
  .exact eQ (Bz x) rfl (tru _ (pe h0 rfl))
  .have r:=aZB hF hx;exact eQ r.1 rfl (lY r.2 (pe h0 rfl)<|Ei rfl)
  .have r:=aZA hF hx;exact eQ r.1 rfl (lY r.2 (pe h0 rfl)<|Ei rfl)
  .exact eQ (wQ (a:=(dQ x).num) (b:=[49]) (by omega) (by simp)) rfl (lY (Ax (by omega) (by simp)) (pe h0 rfl)<|aAk _)
  .have low:cO x->iC (dQ x).den=aj/\dD (dQ x).den≠ []:=λcx=>by
    by_cases hk:x.kind=1
    .rw[Mf hk];rcases cx with c|c|c|c
     .exact⟨c.2.1.dn,c.2.1.d0⟩
     .omega
     .omega
     .omega
    .rw[UD hk];exact⟨by decide+kernel,by decide+kernel⟩
   exact eQ (wQ (a:=(dQ x).den) (b:=[49]) (by omega) (by simp)) rfl (aTA (Ax (by omega) (by simp)) (pe h0 rfl) λcx=>aOh (low cx).1 (low cx).2)
  .have d:=aPO (dQ x).num (dQ x).den;exact eQ (aZD (a:=(dQ x).num) (b:=(dQ x).den) (by omega) (by omega)) rfl (eQ (wQ (a:=(aDs (dQ x).num (dQ x).den).1) (b:=[49]) (by omega) (by simp)) rfl (lY (Ax (by omega) (by simp)) (pe h0 rfl)<|aAk _))
  .exact eQ (By x.sym.name) rfl (lY (aEm _ (by omega)) (pe h0 rfl)<|BP rfl)
  .exact eQ (By x.sym.package) rfl (lY (aEm _ (by omega)) (pe h0 rfl)<|BP rfl)
  .have sl:=aEM hx;have fl:=Ek (wI x).length;exact eQ (ET x) rfl (eQ (TD hF (k:=(wI x).length) (by omega)) rfl (lY (Ax (by omega) (by simp)) (pe h0 rfl)<|aFn (aHT (by omega))))
  .obtain⟨p,p1,_⟩:=aE4 hx;refine eQ p1 rfl ?_;simp only[];refine cQ (λ_=>eQ (By []) rfl (lY (aEm _ (by simp)) (pe h0 rfl)<|BP rfl)) λ_=>?_
   rw[show sC [p.1]=aa [UInt8.ofNat p.1.toNat] from rfl]
   simp only[cR];exact eQ (By [UInt8.ofNat p.1.toNat]) rfl (lY (aEm _ (by simp)) (pe h0 rfl)<|BP rfl)
  .exact⟨Av,gG,by rfl,λ_=>bBY⟩
 simp only[aLw,Qf];exact eQ (rT hF x) rfl (cQ (λh=>ν _ λ_=>pe h rfl) λ_=>ν _ λh=>pe h rfl)
def aN0{nm:eT}{x y:f6}(hx:vO x)(hy:vO y):XR oV 115 [⟨.str,nm⟩,⟨.rc 2,x⟩,⟨.rc 2,y⟩] (PT nm True):=by
 have lx:=AS hx;have ly:=AS hy;have sx:=aEM hx;have sy:=aEM hy;refine pQ (λL m=>aQP nm x y L m) ?_
 have tru: ∀b,Q5 nm=96->EX oV (λL m=>eE (cA L m 144 [⟨.bool,b⟩]) λ(r4:f6×Unit)=>aa [⟨.rc 2,r4.1⟩]) (PT nm True):=λb h=>eQ (Bx b) rfl (lY (aEw (aSA b)) h (RM b))
 have ν: ∀b,Q5 nm=224->EX oV (λL m=>PH (cA L m) L b ⟨wI y,wI x⟩ Av) (PT nm True):=by
  intro b h0;simp only[PH,YJ];exact cQ (λ_=>eQ Cv rfl (lY (by rfl) h0 (aA3 rfl))) λ_=>eQ (TB ⟨wI y,wI x⟩) rfl (lY (bHs _ _ (by omega) (by omega)) h0 (aA3 rfl))
 simp only[aDW,HR];refine cQ (λh0=>?_) λ_=>cQ (λh0=>?_) λ_=>cQ (λh0=>?_) λ_=>cQ (λh0=>?_) λ_=>cQ (λh0=>?_) λ_=>cQ (λh0=>?_) λ_=>cQ (λh0=>?_) λ_=>cQ (λh0=>?_) λ_=>?_
 .exact eQ (aAe x (aEw hx) y) rfl (tru _ (pe h0 rfl))
 .refine eQ (aN5 x y) rfl (lY (lO.2 ⟨b7 _,b7 _,b7 _,b7 _,b7 _,aS _,?_⟩) (pe h0 rfl)<|aHn rfl);show(Vx 100000 [x,y]&&ah)=ah;simp only[Vx,aEw hx,aEw hy];rfl
 .have r:=aZz hF hx hy;exact eQ r.1 rfl (lY r.2 (pe h0 rfl)<|Ei rfl)
 .have r:=aN3 hF hx hy;exact eQ r.1 rfl (lY r.2 (pe h0 rfl)<|Ei rfl)
 .exact eQ (aAd hF hx hy) rfl (tru _ (pe h0 rfl))
 .have e:=pe h0 (k:=224) rfl;refine eQ (ET y) rfl (eQ (ET x) rfl ?_);refine cQ (λ_=>ν _ e) λ_=>cQ (λ_=>ν _ e) λ_=>?_
  obtain⟨b,b1,_⟩:=aZy (s:=⟨wI y,wI x⟩) (show(wI y).length<_ by omega)
  exact eQ b1 rfl (ν _ e)
 .refine eQ (ET x) rfl (eQ (ET y) rfl ?_);have e:aq (am (wI x)+am (wI y)) 1000000000=ah:=by rw[d8];omega
  simp only[e,fN];exact eQ (By (wI x++wI y)) rfl (lY (aEm _ (by simp;omega)) (pe h0 rfl)<|BP rfl)
 .obtain⟨p,p1,p2⟩:=aE5 (a:=x) hy;refine eQ p1 rfl ?_;simp only[];refine cQ (λ_=>eQ Cv rfl (lY (o:=aGX) (k:=35) (by rfl) (pe h0 rfl)<|by unfold jK;decide+kernel)) λh=>?_
  have q:=p2 (by simpa using h)
  obtain⟨k,hk⟩: ∃k:Nat,p.1=(k:Int):=⟨p.1.toNat,by omega⟩
  obtain⟨v,hv,_⟩:=jR (show k<x.text.length by omega)
  have e:dK x.text p.1=aa v:=by rw[hk,cH,hv]
  have vl:=v.toNat_lt;have w:ez.wrap (v.toNat:Int)=((v.toNat:Nat):Int):=wr (by omega) (by omega)
  simp only[e,cR,w];have fl:=Ek v.toNat;refine eQ (TD hF (k:=v.toNat) (by omega)) rfl (lY (Ax (by omega) (by simp)) (pe h0 rfl) ?_)
  have n:=aFn (aHT (k:=v.toNat) (by omega))
  unfold jK at n⊢;have hl:=aDi (uC (Al (aBa v.toNat) [49]));generalize gQ (Al (aBa v.toNat) [49])=i at n hl;rcases hl with rfl|rfl|rfl|rfl|rfl|rfl|rfl|rfl|rfl|rfl|rfl<;>first|decide|(exact absurd n (by decide))
 .exact⟨Av,gG,by rfl,λ_=>bBY⟩
def JF{f:f7}{l:au f6}(hl: ∀o∈l,vO o):XR pr 89 [⟨.rc 1,f⟩,⟨.sl (.rc 2),l⟩] (AT f.name l):=by
 refine pQ (λL m=>bE7 f l L m) ?_
 have z: ∀e:Int,¬e=0->EX pr (λ_ _=>aa [⟨.rc 2,Av⟩,⟨.int .i64,e⟩]) (AT f.name l):=λe he=>⟨(Av,e),gG,by rfl,λh=>absurd h he⟩
 have ν: ∀o,wO o->((∀o∈l,cO o)->¬f.name=Ap->cO o->jK o (Q5 f.name))->EX pr (λL m=>G6 (cA L m) L o Av) (AT f.name l):=by
  intro o ho hs;simp only[G6,KH];obtain⟨b,b1,b2⟩:=aCS ho;obtain⟨b',b1',b3⟩:=aE7 ho;have eb:b'=b:=by
   have:=bCj b1' b1;injection this with u _;injection u
  rw[eb]at b3;refine eQ b1 rfl (cQ (λ_=>z _ (by decide)) λh=>⟨(o,0),gG,b3 (by simpa using h),λ_ hc=>?_⟩)
  have c:=b2 (by simpa using h)
  exact⟨c,λhi=>hs hc hi c⟩
 simp only[a5S,KI];have ra:=QR f;cases h:arity f with
 |none=>
  rw[h]at ra;refine eQ ra rfl ?_;simp only[b9,bV];exact z _ (by decide)
 |some n=>
  rw[h]at ra;refine eQ ra rfl ?_;simp only[bE,bS];refine cQ (λ_=>z _ (by decide)) λh1=>?_
  have hlen:(l.length:Int)=n:=by simpa using h1
  have hn:=aQ2 h;refine cQ (λh2=>?_) λh2=>cQ (λh3=>?_) λh3=>?_
  .have e:=bL h2
   match l,hlen,hl with
   |[a],_,hl=>
    have e0:dK [a] (0:Int)=aa a:=rfl;simp only[e0,cR];obtain⟨o,o1,o2⟩:=aN1 hF (nm:=f.name) (hl a (by simp))
    exact eQ o1 rfl (ν o o2.1 λhc _=>o2.2 (hc a (by simp)))
   |[],h,_=>simp at h;omega
   |_::_::_,h,_=>simp at h;omega
  .have e:=bL h3
   match l,hlen,hl with
   |[a,b],_,hl=>
    have e0:dK [a,b] (0:Int)=aa a:=rfl;have e1:dK [a,b] (1:Int)=aa b:=rfl;simp only[e0,e1,cR];obtain⟨o,o1,o2⟩:=aN0 hF (nm:=f.name) (hl a (by simp)) (hl b (by simp))
    exact eQ o1 rfl (ν o o2.1 λ_ _=>o2.2 trivial)
   |[],h,_=>simp at h;omega
   |[_],h,_=>simp at h;omega
   |_::_::_::_,h,_=>simp at h;omega
  .have e2:=bM h2;have e3:=bM h3;have hr:rowsL.all (λr=> !decide (r.arity=3)||ak (r.name=Ap))=ah:=by decide+kernel
   have go: ∀(q:au G.R),lP f.name q=aa n->q.all (λr=> !decide (r.arity=3)||ak (r.name=Ap))=ah->f.name=Ap:=by
    intro q;induction q with
    |nil=>intro h _;cases h
    |cons r q ih=>
     intro h ha;rw[aP,aC]at ha;rw[lP]at h;split at h
     .rename_i kw;cases h;have h3:r.arity=3:=by omega
      rw[bG h3,bE,Bool.false_or]at ha;exact kw▸bL ha.1
     .exact ih h ha.2
   have isif:f.name=Ap:=by
    unfold arity at h;split at h
    .exact go rowsL h hr
    .cases h
   match l,hlen,hl with
   |[a,b,d],_,hl=>
    have e0:dK [a,b,d] (0:Int)=aa a:=rfl;have e1:dK [a,b,d] (1:Int)=aa b:=rfl;have e2:dK [a,b,d] (2:Int)=aa d:=rfl;simp only[e0,e1,e2,cR];refine eQ (aE8 a (aEw (hl a (by simp)))) rfl ?_
    simp only[];exact cQ (λ_=>ν d (aEw (hl d (by simp))) λ_ hi=>absurd isif hi) λ_=>ν b (aEw (hl b (by simp))) λ_ hi=>absurd isif hi
   |[],h,_=>simp at h;omega
   |[_],h,_=>simp at h;omega
   |[_,_],h,_=>simp at h;omega
   |_::_::_::_::_,h,_=>simp at h;omega
end
def aFa(hF:AP){f:f7}{l:au f6}(hl: ∀o∈l,vO o):XR pr 89 [⟨.rc 1,f⟩,⟨.sl (.rc 2),l⟩] λp=>vO p.1:=by
 obtain⟨p,h1,h2⟩:=JF hF (f:=f) hl;exact⟨p,h1,h2.1⟩
structure a6N(B:Nat)(w:List f8):Prop where
 l:w.length<=B
 f: ∀e∈w,e.functions.length<=B
def UE(e:f8):au G.F:=if e.kind=3∨e.kind=5∨e.kind=6∨e.kind=7 then e.functions else []
def aPF{B:Nat}{e:f8}(h:e.functions.length<=B):(UE e).length<=B:=by
 unfold UE;split
 .exact h
 .exact b7 _
def aH4{e:f8}{L n:Nat}:cA L (n+1) 113 [⟨.rc 15,e⟩]=aa [⟨.sl (.rc 4),UE e⟩]:=by
 rw[a4Z,aLx,Qh];simp only[PJ,Qg];unfold UE;by_cases h3:e.kind=3
 .simp[h3,bW]
 .by_cases h5:e.kind=5
  .simp[h5,bW]
  .by_cases h6:e.kind=6
   .simp[h6,bW]
   .by_cases h7:e.kind=7<;>simp[h3,h5,h6,h7,bW]
def a33(f:f7):au G.F->Nat->f9 Nat
 |[],_=>ae
 |x::l,k=>if x.name=f then aa k else a33 f l (k+1)
def aO8(f:f7):au f8->Nat->f9 (Nat×Nat)
 |[],_=>ae
 |e::l,i=>match a33 f (UE e) 0 with|some k=>aa (i,k)|none=>aO8 f l (i+1)
def aH3{f:f7}: ∀{l:au G.F} {j k:Nat},a33 f l j=aa k->j<=k/\∃g,l[k-j]?=aa g
 |[],_,_,h=>by cases h
 |x::l,j,k,h=>by
  rw[a33]at h;split at h
  .cases h;exact⟨aS _,x,by simp⟩
  .obtain⟨h1,g,h2⟩:=aH3 h;exact⟨by omega,g,by rw[show k-j=(k-(j+1))+1 by omega];simpa using h2⟩
def Uk{f:f7}: ∀{l:au f8} {j i k:Nat},aO8 f l j=aa (i,k)->j<=i/\∃e g,l[i-j]?=aa e/\(UE e)[k]?=aa g
 |[],_,_,_,h=>by cases h
 |x::l,j,i,k,h=>by
  rw[aO8]at h;split at h
  .rename_i k' hk;cases h;obtain⟨_,g,h2⟩:=aH3 hk;exact⟨aS _,x,g,by simp,by simpa using h2⟩
  .obtain⟨h1,e,g,h2,h3⟩:=Uk h;exact⟨by omega,e,g,by rw[show i-j=(i-(j+1))+1 by omega];simpa using h2,h3⟩
def bOo:f9 (Nat×Nat)->nO
 |some (i,k)=>[⟨.int .i64,(i:Int)⟩,⟨.int .i64,(k:Int)⟩,⟨.bool,ah⟩]
 |none=>[⟨.int .i64,(0:Int)⟩,⟨.int .i64,(0:Int)⟩,⟨.bool,aj⟩]
def aGO{W:Type}{l:au G.F}{K:au G.F×Unit->f9 W}:gO (D:=U0.D) [.sl (.rc 4)] (aa [⟨.sl (.rc 4),l⟩]) K=K (l,()):=rfl
def aOu{c:cG}{L:Nat}{n1:au f8->Int->f7->Rt}{f:f7}{a:au G.F}{i:Int}{w:au f8}(hb:a.length<1000000000): ∀(l:au G.F) (k m:Nat),a.drop k=l->l.length<m->
    sG c L n1 m a (k:Int) i w f=match a33 f l k with|some j=>aa [⟨.int .i64,i⟩,⟨.int .i64,(j:Int)⟩,⟨.bool,ah⟩]|none=>n1 w (ez.wrap (i+(1:Int))) f:=by
 intro l;induction l with
 |nil=>
  intro k m h1 h3;obtain⟨m,rfl⟩: ∃m',m=m'+1:=⟨m-1,by simp at h3;omega⟩
  have e1:=cX h1;rw[sG,Df,bH (by omega: ¬(k:Int)<(a.length:Int)),bS];rfl
 |cons x l ih=>
  intro k m h1 h3;obtain⟨m,rfl⟩: ∃m',m=m'+1:=⟨m-1,by simp at h3;omega⟩
  obtain⟨a1,a2,a3⟩:=cZ h1;rw[sG,Df,bG (by omega:(k:Int)<(a.length:Int)),bV,cH,a1,cR,a33,eV (by omega)]
  by_cases e:x.name=f
  .rw[bG e,bV,bJ e]
  .rw[bH e,bS,bI e];exact ih (k+1) m a3 (by simp at h3;omega)
def aOs{L n B:Nat}{f:f7}{a:au f8}(hB:B<1000000)(hL:B<L)(ha:a6N B a): ∀(l:au f8) (k m:Nat),a.drop k=l->l.length<m->
    qQ (cA L (n+1)) L m a (k:Int) f=aa (bOo (aO8 f l k)):=by
 intro l;have h0:=ha.l;induction l with
 |nil=>
  intro k m h1 h3;obtain⟨m,rfl⟩: ∃m',m=m'+1:=⟨m-1,by simp at h3;omega⟩
  have e1:=cX h1;rw[qQ,Dg,bH (by omega: ¬(k:Int)<(a.length:Int)),bS];rfl
 |cons x l ih=>
  intro k m h1 h3;obtain⟨m,rfl⟩: ∃m',m=m'+1:=⟨m-1,by simp at h3;omega⟩
  obtain⟨a1,a2,a3⟩:=cZ h1;have hx:=aPF (ha.f x (ef a1));rw[qQ,Dg,bG (by omega:(k:Int)<(a.length:Int)),bV,cH,a1,cR,aH4,aGO,aO8]
  refine(aOu (c:=cA L (n+1)) (n1:=qQ (cA L (n+1)) L m) (a:=UE x) (Nat.lt_of_le_of_lt hx (by omega)) (UE x) 0 L rfl (by omega)).trans ?_
  rw[eV (by omega)]
  cases a33 f (UE x) 0 with
  |some j=>rfl
  |none=>exact ih (k+1) m a3 (by simp at h3;omega)
def wE:f5:=⟨0,⟨[],[]⟩,⟨0,[],[],⟨[],[]⟩,[],[]⟩,[]⟩
def bNU:G.F:=⟨⟨[],[]⟩,[],0,wE,wE,wE⟩
def UC(w:au f8)(f:f7):f9 G.F:=match aO8 f w 0 with
 |some (i,k)=>(w[i]?).bind λe=>(UE e)[k]?
 |none=>ae
def bLR:f9 G.F->nO
 |some g=>[⟨.rc 4,g⟩,⟨.bool,ah⟩]
 |none=>[⟨.rc 4,bNU⟩,⟨.bool,aj⟩]
def a31{L n B:Nat}{f:f7}{w:au f8}(hB:B<1000000)(hL:B<L)(ha:a6N B w):cA L (n+3) 85 [⟨.sl (.rc 15),w⟩,⟨.rc 1,f⟩]=aa (bLR (UC w f)):=by
 have h0:=ha.l;have h1:cA L (n+2) 112 [⟨.sl (.rc 15),w⟩,⟨.rc 1,f⟩]=aa (bOo (aO8 f w 0)):=by
  rw[a40,aLy,Qi];exact aOs hB hL ha w 0 L rfl (by omega)
 rw[bM0,bGo,aLU,h1,UC];cases h2:aO8 f w 0 with
 |none=>rfl
 |some p=>
  obtain⟨i,k⟩:=p;obtain⟨_,e,g,h3,h4⟩:=Uk h2;rw[Nat.sub_zero]at h3;have i1:dK w (i:Int)=aa e:=(cH w i).trans h3;have i2:dK (UE e) (k:Int)=aa g:=(cH (UE e) k).trans h4;show ob (dK w (i:Int)) _=_;rw[i1,cR,aH4,aGO];show ob (dK (UE e) (k:Int)) _=aa (bLR ((w[i]?).bind λe=>(UE e)[k]?))
  rw[i2,cR,h3,aL,h4];rfl
def aSF{w:au f8}(hw:a6N 1000 w)(f:f7):Rn 85 [⟨.sl (.rc 15),w⟩,⟨.rc 1,f⟩] (bLR (UC w f)):=mF 3 10000 λL n hL=>a31 (by omega) (by omega) hw
def aD9(w:au f8)(f:f7):f9 Int:=match arity f with
 |some n=>aa n
 |none=>(UC w f).map λg=>(g.params.length:Int)
def aZF{w:au f8}(hw:a6N 1000 w)(f:f7):Rn 62 [⟨.sl (.rc 15),w⟩,⟨.rc 1,f⟩] (oI (aD9 w f)):=by
 refine eC (λL n=>bM1 w f L n) ?_
 have ra:Rn 84 [⟨.rc 1,f⟩] (oI (arity f)):=mF 2 1000 λL n hL=>YS f L n hL
 have rf:=aSF hw f;simp only[bGq,aMa];unfold aD9;cases h:arity f with
 |some n=>rw[h]at ra;refine lc ra rfl ?_;simp only[bV];exact lr rfl
 |none=>
  rw[h]at ra;refine lc ra rfl ?_;simp only[bS];cases h2:UC w f with
  |none=>rw[h2]at rf;refine lc rf rfl ?_;simp only[b9,bV];exact lr rfl
  |some g=>rw[h2]at rf;refine lc rf rfl ?_;simp only[bE,bS];exact lr rfl
def aRt{s:au UInt8}{L n:Nat}:cA L (n+1) 40 [yT s]=aa [yR 1 (⟨cV,s⟩:f7)]:=by
 rw[bM2];rfl
def bGk{t:f5}{s:au UInt8}{k:Int}{L n:Nat}:cA L (n+2) 87 (bGM t s k)=aa (bb (isA t s k)):=by
 show cA L (n+1+1) 87 [yR 3 _,yT _,yI _]=_;rw[bOx,bG3,aLS,aRt,aTe];simp only[aK1,aLR,isA];by_cases e1:t.kind=3
 .by_cases e2:t.name=⟨cV,s⟩
  .simp[e1,e2,bW,bb]
  .simp[e1,e2,bW,bb]
 .simp[e1,bW,bb]
def BL{W:Type}{F:Nat->Nat->f9 W}{a b:W}(h1:Lp F a)(h2:Lp F b):a=b:=by
 obtain⟨α,hN⟩:=h1;obtain⟨M,hM⟩:=h2;have e1:=hN (max α M) (max α M) (by omega) (by omega)
 have e2:=hM (max α M) (max α M) (by omega) (by omega)
 rw[e1]at e2;exact Option.some.inj e2
abbrev kU:=au G.S
def EA:kU->f7->f9 f6
 |[],_=>ae
 |b::l,v=>if b.var=v then aa b.value else EA l v
def bN6:f9 f6->nO
 |some o=>[⟨.rc 2,o⟩,⟨.bool,ah⟩]
 |none=>[⟨.rc 2,Av⟩,⟨.bool,aj⟩]
def aNz{c:cG}{L:Nat}{v:f7}{a:kU}(hb:a.length<1000000000): ∀(l:kU) (k m:Nat),a.drop k=l->l.length<m->GM c L m a (k:Int) v Av=aa (bN6 (EA l v)):=by
 intro l;induction l with
 |nil=>
  intro k m h1 h3;obtain⟨m,rfl⟩: ∃m',m=m'+1:=⟨m-1,by simp at h3;omega⟩
  have e1:=cX h1;rw[GM,aB9,bH (by omega: ¬(k:Int)<(a.length:Int)),bS];rfl
 |cons x l ih=>
  intro k m h1 h3;obtain⟨m,rfl⟩: ∃m',m=m'+1:=⟨m-1,by simp at h3;omega⟩
  obtain⟨a1,a2,a3⟩:=cZ h1;have i1:dK a (k:Int)=aa x:=(cH a k).trans a1;rw[GM,aB9,bG (by omega:(k:Int)<(a.length:Int)),bV,i1,cR,EA]
  by_cases e:x.var=v
  .rw[bG e,bV,cR,bJ e];rfl
  .rw[bH e,bS,bI e,eV (by omega)]
   exact ih (k+1) m a3 (by simp at h3;omega)
def aE2{env:kU}(h:env.length<1000000)(v:f7):Rn 86 [⟨.sl (.rc 17),env⟩,⟨.rc 1,v⟩] (bN6 (EA env v)):=by
 refine eC (λL n=>bOy env v L n) ⟨env.length+1,λL n h1 _=>?_⟩
 show bGn (cA L n) L env v=_;rw[bGn,aLT];exact aNz (by omega) env 0 L rfl (by omega)
def aSu{v:f7}{o:f6}: ∀{env:kU},(∀b∈env,vO b.value)->EA env v=aa o->vO o
 |b::l,h,e=>by
  rw[EA]at e;split at e
  .cases e;exact h b (aH ..)
  .exact aSu (λz hz=>h z (aG _ hz)) e
def bnd:au f7->au f6->kU
 |p::ps,o::os=>⟨p,o⟩::bnd ps os
 |_,_=>[]
def aQR: ∀ps:au f7,bnd ps []=[]
 |[]=>rfl
 |_::_=>rfl
def a44(b:au f6):bnd [] b=[]:=by cases b<;>rfl
def aQV{c:cG}{L:Nat}{a:au f7}{b:au f6}(ha:a.length<1000000): ∀(l:au f7) (k m:Nat) (acc:kU),a.drop k=l->l.length<m->acc.length=k->GL c L m a b (k:Int) acc=aa [⟨.sl (.rc 17),acc++bnd l (b.drop k)⟩]:=by
 intro l;induction l with
 |nil=>
  intro k m acc h1 h3 h4;obtain⟨m,rfl⟩: ∃m',m=m'+1:=⟨m-1,by simp at h3;omega⟩
  have e1:=cX h1;rw[GL,aB8,bH (by omega: ¬(k:Int)<(a.length:Int)),bS,aBX,aB7,bS,a44,bB]
 |cons x l ih=>
  intro k m acc h1 h3 h4;obtain⟨m,rfl⟩: ∃m',m=m'+1:=⟨m-1,by simp at h3;omega⟩
  obtain⟨a1,a2,a3⟩:=cZ h1;have i1:dK a (k:Int)=aa x:=(cH a k).trans a1;rw[GL,aB8,bG (by omega:(k:Int)<(a.length:Int)),bV,aBX,aB7]
  by_cases e:k<b.length
  .obtain⟨y,hy,ay⟩:=jR e;have i2:dK b (k:Int)=aa y:=(cH b k).trans hy;have bl:aq ((acc.length+am ([(G.S.mk x y)]:kU))*144) 1073741824=ah:=by rw[d8];simp;omega
   rw[bG (by omega:(k:Int)<(b.length:Int)),bV,i1,cR,i2,cR,bl,fN,eV (by omega),ih (k+1) m _ a3 (by simp at h3;omega) (by simp[h4]),ay,bnd]
   simp
  .rw[bH (by omega: ¬(k:Int)<(b.length:Int)),bS,List.drop_eq_nil_of_le (by omega),aQR,bB]
def aN7{a:au f7}{b:au f6}(ha:a.length<1000000):Rn 90 [⟨.sl (.rc 1),a⟩,⟨.sl (.rc 2),b⟩] [⟨.sl (.rc 17),bnd a b⟩]:=by
 refine eC (λL n=>bOv a b L n) ⟨a.length+1,λL n h1 _=>?_⟩
 show bGm (cA L n) L a b=_;rw[bGm,aLO];exact aQV ha a 0 L [] rfl (by omega) rfl
def aIN: ∀{a:au f7} {b:au f6},(∀o∈b,vO o)->∀x∈bnd a b,vO x.value
 |[],b,_,x,hx=>by cases hx
 |_::_,[],_,x,hx=>by cases hx
 |p::a,o::b,h,x,hx=>by
  rcases List.mem_cons.1 hx with rfl|hx
  .exact h o (aH ..)
  .exact aIN (λz hz=>h z (aG _ hz)) x hx
def NZ: ∀(a:au f7) (b:au f6),(bnd a b).length<=a.length
 |[],b=>aS _
 |_::_,[]=>b7 _
 |p::a,o::b=>by have:=NZ a b;simp only[bnd,aM];omega
def Eg(o:f6):Bool:=ak (o.kind=2)&&(ak (o.sym.package=cV)&&ak (o.sym.name=([110,105,108]:eT)))
def aZu(o:f6):Rn 88 (oV o) (bb (Eg o)):=by
 refine eC (λL n=>bOw o L n) ?_
 simp only[bG2,aLQ,aK0,aLP];unfold Eg cV;cases ak (o.kind=2)<;>cases ak (o.sym.package=([108,105,115,112]:eT))<;>exact lr rfl
def aAQ{o:f6}(h:vO o):Eg o=ah↔o=aGX:=by
 constructor
 .intro hn;have h7:=(lO.1 h).2.2.2.2.2.2;rw[aC]at h7;cases o with|mk k n d s t l=>
  cases s with|mk p m=>
  unfold Eg at hn;rw[aC,aC]at hn;have h0:k=2:=bL hn.1;have h1:=bL hn.2.1;have h2:=bL hn.2.2;subst h0;have h8:=h7.2;unfold bGP at h8;simp only[G.O.kind,G.O.num,G.O.den,G.O.text,G.O.pair,bN,bE,Bool.false_or,aC,List.isEmpty_iff]at h8;obtain⟨rfl,rfl,rfl,rfl⟩:=h8;have h3:p=cV:=h1;have h4:m=[110,105,108]:=h2;subst h3 h4;rfl
 .rintro rfl;rfl
def a9U(t:f5)(s:eT)(k:Int):Rn 87 (bGM t s k) (bb (isA t s k)):=mF 2 0 λL n _=>bGk
def EH{t:f5}:tO t=ah↔vO t.value/\t.args.length<=1000/\aEJ t.args=ah:=by
 cases t with|mk k n v l=>
 simp only[tO,aC,d8,and_assoc];rfl
def tO'_mem: ∀{l:au f5} {t:f5},aEJ l=ah->t∈l->tO t=ah
 |x::l,t,h,ht=>by
  simp only[aEJ,aC]at h;rcases List.mem_cons.1 ht with rfl|ht
  .exact h.1
  .exact tO'_mem h.2 ht
def mI(f:f7)(l:au f6):f6×Int:=
 open Classical in if h: ∃p:f6×Int,Rn 89 [⟨.rc 1,f⟩,⟨.sl (.rc 2),l⟩] (pr p)then Classical.choose h else(Av,7)
def BB(hF:AP){f:f7}{l:au f6}(hl: ∀o∈l,vO o):Rn 89 [⟨.rc 1,f⟩,⟨.sl (.rc 2),l⟩] (pr (mI f l))/\vO (mI f l).1:=by
 obtain⟨p,h1,h2⟩:=aFa hF (f:=f) hl;have h: ∃p:f6×Int,Rn 89 [⟨.rc 1,f⟩,⟨.sl (.rc 2),l⟩] (pr p):=⟨p,h1⟩;have e:Rn 89 [⟨.rc 1,f⟩,⟨.sl (.rc 2),l⟩] (pr (mI f l)):=by unfold mI;rw[dif_pos h];exact Classical.choose_spec h
 refine⟨e,?_⟩;have u:=BL e h1;have u1:(mI f l).1=p.1:=by injection u with u _;injection u with _ u
 rw[u1];exact h2
abbrev aDV:=f6×Int×Int
def oE(E:f5->Int->aDV):au f5->Int->au f6->au f6×Int×Int
 |[],l,acc=>(acc,0,l)
 |t::ts,l,acc=>if(E t l).2.1=0 then oE E ts (E t l).2.2 (acc++ [(E t l).1])else(acc,(E t l).2.1,(E t l).2.2)
def uZ(w:au f8)(f:f7):G.F:=(UC w f).getD bNU
def ev(w:au f8):Nat->f5->kU->Int->aDV
 |k,t,env,left=>
  if t.kind=1 then(match EA env t.name with|some o=>(o,0,left)|none=>(Av,6,left))
  else if t.kind=2 then(t.value,0,left)
  else if left<1 then(Av,9,left)
  else match k with
   |0=>(Av,9,left)
   |k+1=>match aD9 w t.name with
    |none=>(Av,7,left-1)
    |some n=>if n≠(t.args.length:Int)then(Av,5,left-1)
     else if arity t.name=ae/\(uZ w t.name).cls≠1 then(Av,8,left-1)
     else if isA t Ap 3=ah then
      let r:=ev w k (t.args.getD 0 wE) env (left-1)
      if r.2.1≠0 then r else if Eg r.1=ah then ev w k (t.args.getD 2 wE) env r.2.2 else ev w k (t.args.getD 1 wE) env r.2.2
     else
      let a:=oE (λt l=>ev w k t env l) t.args (left-1) []
      if a.2.1≠0 then(Av,a.2.1,a.2.2)
      else match arity t.name with
       |some _=>((mI t.name a.1).1,(mI t.name a.1).2,a.2.2)
       |none=>ev w k (uZ w t.name).body (bnd (uZ w t.name).params a.1) a.2.2
structure aT1(w:List f8):Prop where
 b:a6N 1000 w
 v: ∀f g,UC w f=aa g->tO g.body=ah/\g.params.length<=1000
def aTx{w:au f8}(hw:aT1 w)(f:f7):tO (uZ w f).body=ah/\(uZ w f).params.length<=1000:=by
 unfold uZ;cases h:UC w f with
 |none=>exact⟨by rfl,b7 _⟩
 |some g=>exact hw.v f g h
abbrev aSH(w:au f8)(r:aDV):nO:=[⟨.rc 2,r.1⟩,⟨.int .i64,r.2.1⟩,⟨.rc 18,(⟨w,r.2.2⟩:G.W)⟩]
def a6Q(w:au f8)(E:f5->kU->Int->aDV)(left:Int):Prop:= ∀(t:f5) (env:kU) (l:Int),l<=left->0<=l->tO t=ah->(∀b∈env,vO b.value)->env.length<=1000->
 Rn 63 [⟨.rc 3,t⟩,⟨.sl (.rc 17),env⟩,⟨.rc 18,(⟨w,l⟩:G.W)⟩] (aSH w (E t env l))/\vO (E t env l).1/\0<=(E t env l).2.2/\(E t env l).2.2<=l
def bHY(c:cG)(w:au f8)(pb:Bool)(nm:f7)(f:G.F)(a:au f6)(l:Int):Rt:=
 bW pb (gO [.rc 2,.int .i64] (c 89 [⟨.rc 1,nm⟩,⟨.sl (.rc 2),a⟩]) λ(r2:f6×Int×Unit)=>aa [⟨.rc 2,r2.1⟩,⟨.int .i64,r2.2.1⟩,⟨.rc 18,(⟨w,l⟩:G.W)⟩])
  (gO [.sl (.rc 17)] (c 90 [⟨.sl (.rc 1),f.params⟩,⟨.sl (.rc 2),a⟩]) λ(r3:kU×Unit)=>FB (c 63 [⟨.rc 3,f.body⟩,⟨.sl (.rc 17),r3.1⟩,⟨.rc 18,(⟨w,l⟩:G.W)⟩]) λ(r4:f6×Int×G.W×Unit)=>aa [⟨.rc 2,r4.1⟩,⟨.int .i64,r4.2.1⟩,⟨.rc 18,r4.2.2.1⟩])
def a38{w:au f8}{E:f5->kU->Int->aDV}{left:Int}(h:a6Q w E left){env:kU}(he: ∀b∈env,vO b.value)(hl:env.length<=1000){t:f5}(ht:t.args.length<=1000){pb:Bool}{f:G.F}:
    ∀(ts:au f5) (k:Nat) (l:Int) (acc:au f6),t.args.drop k=ts->l<=left->0<=l->aEJ ts=ah->(∀o∈acc,vO o)->acc.length=k->
      (∃α,∀L n m,α<=L->α<=n->α<=m->Cn (cA L n) L m env (k:Int) pb acc (⟨w,l⟩:G.W) t f Av=
        if(oE (λt l=>E t env l) ts l acc).2.1=0 then bHY (cA L n) w pb t.name f (oE (λt l=>E t env l) ts l acc).1 (oE (λt l=>E t env l) ts l acc).2.2 else aa (aSH w (Av,(oE (λt l=>E t env l) ts l acc).2.1,(oE (λt l=>E t env l) ts l acc).2.2)))/\
      (∀o∈(oE (λt l=>E t env l) ts l acc).1,vO o)/\0<=(oE (λt l=>E t env l) ts l acc).2.2/\(oE (λt l=>E t env l) ts l acc).2.2<=l:=by
 intro ts;induction ts with
 |nil=>
  intro k l acc h1 h2 h3 h4 h5 h6;have e1:=cX h1;refine⟨⟨1,λL n m g1 g2 g3=>?_⟩,h5,h3,oc _⟩
  obtain⟨m,rfl⟩: ∃m',m=m'+1:=⟨m-1,by omega⟩
  rw[Cn,SS,bH (by omega: ¬(k:Int)<(t.args.length:Int)),bS]
  rfl
 |cons x ts ih=>
  intro k l acc h1 h2 h3 h4 h5 h6;obtain⟨a1,a2,a3⟩:=cZ h1;simp only[aEJ,aC]at h4;obtain⟨⟨N1,hN1⟩,r2,r3,r4⟩:=h x env l h2 h3 h4.1 he hl;have i1:dK t.args (k:Int)=aa x:=(cH _ k).trans a1;have bl:aq ((acc.length+am ([(E x env l).1]:au f6))*112) 1073741824=ah:=by rw[d8];simp;omega
  by_cases e:(E x env l).2.1=0
  .have es:oE (λt l=>E t env l) (x::ts) l acc=oE (λt l=>E t env l) ts (E x env l).2.2 (acc++ [(E x env l).1]):=by rw[oE,bJ e]
   rw[es];obtain⟨⟨N2,hN2⟩,i1',i2,i3⟩:=ih (k+1) (E x env l).2.2 (acc++ [(E x env l).1]) a3 (by omega) r3 h4.2 (λo ho=>by
    rcases List.mem_append.1 ho with ho|ho
    .exact h5 o ho
    .rw[List.mem_singleton]at ho;subst ho;exact r2) (by simp[h6])
   refine⟨⟨max N1 N2+1,λL n m g1 g2 g3=>?_⟩,i1',i2,by omega⟩
   obtain⟨m,rfl⟩: ∃m',m=m'+1:=⟨m-1,by omega⟩
   have c1:cA L n 63 [⟨.rc 3,x⟩,⟨.sl (.rc 17),env⟩,⟨.rc 18,(⟨w,l⟩:G.W)⟩]=aa (aSH w (E x env l)):=hN1 L n (by omega) (by omega)
   rw[Cn,SS,bG (by omega:(k:Int)<(t.args.length:Int)),bV,i1,cR,c1]
   show bW (!decide ((E x env l).2.1=0)) _ (lZ (aq ((acc.length+am ([(E x env l).1]:au f6))*112) 1073741824) (Cn (cA L n) L m env (ez.wrap ((k:Int)+1)) pb (acc++ [(E x env l).1]) (⟨w,(E x env l).2.2⟩:G.W) t f Av))=_;rw[bG e,bE,bS,bl,fN,eV (by omega)]
   exact hN2 L n m (by omega) (by omega) (by omega)
  .have es:oE (λt l=>E t env l) (x::ts) l acc=(acc,(E x env l).2.1,(E x env l).2.2):=by rw[oE,bI e]
   rw[es];refine⟨⟨N1+1,λL n m g1 g2 g3=>?_⟩,h5,r3,r4⟩
   obtain⟨m,rfl⟩: ∃m',m=m'+1:=⟨m-1,by omega⟩
   have c1:cA L n 63 [⟨.rc 3,x⟩,⟨.sl (.rc 17),env⟩,⟨.rc 18,(⟨w,l⟩:G.W)⟩]=aa (aSH w (E x env l)):=hN1 L n (by omega) (by omega)
   rw[Cn,SS,bG (by omega:(k:Int)<(t.args.length:Int)),bV,i1,cR,c1,bI e]
   show bW (!decide ((E x env l).2.1=0)) (aa (aSH w (Av,(E x env l).2.1,(E x env l).2.2))) _=_;rw[bH e,b9,bV]
def bLQ{w:au f8}(hw:a6N 1000 w)(f:f7):Rn 85 [⟨.sl (.rc 15),w⟩,⟨.rc 1,f⟩] [⟨.rc 4,uZ w f⟩,⟨.bool,(UC w f).isSome⟩]:=by
 have h:=aSF hw f;unfold uZ;cases e:UC w f with
 |none=>rw[e]at h;exact h
 |some g=>rw[e]at h;exact h
def bNn(f:f7):Rn 84 [⟨.rc 1,f⟩] [⟨.int .i64,(arity f).getD 0⟩,⟨.bool,(arity f).isSome⟩]:=by
 have h:=QR f;cases e:arity f with
 |none=>rw[e]at h;exact h
 |some g=>rw[e]at h;exact h
def aA2{t:f5}{s:eT}(h:isA t s 3=ah): ∃a b c,t.args=[a,b,c]:=by
 unfold isA at h;simp only[aC,aD]at h;have:=h.2
 match t.args,this with
 |[a,b,c],_=>exact⟨a,b,c,rfl⟩
 |[],h=>simp at h
 |[_],h=>simp at h
 |[_,_],h=>simp at h
 |_::_::_::_::_,h=>simp at h;omega
section
variable{w:au f8}{k:Nat}{t:f5}{env:kU}{l:Int}
def D3(h:t.kind=1):ev w k t env l=match EA env t.name with|some o=>(o,0,l)|none=>(Av,6,l):=by unfold ev;rw[bJ h]
def D2(h1: ¬t.kind=1)(h:t.kind=2):ev w k t env l=(t.value,0,l):=by unfold ev;rw[bI h1,bJ h]
def D1(h1: ¬t.kind=1)(h2: ¬t.kind=2)(h:l<1):ev w k t env l=(Av,9,l):=by unfold ev;rw[bI h1,bI h2,bJ h]
def Qu(w:au f8)(k:Nat)(t:f5)(env:kU)(l:Int):aDV:=
 if isA t Ap 3=ah then(if(ev w k (t.args.getD 0 wE) env l).2.1≠0 then ev w k (t.args.getD 0 wE) env l else if Eg (ev w k (t.args.getD 0 wE) env l).1=ah then ev w k (t.args.getD 2 wE) env (ev w k (t.args.getD 0 wE) env l).2.2 else ev w k (t.args.getD 1 wE) env (ev w k (t.args.getD 0 wE) env l).2.2)
 else if(oE (λt l=>ev w k t env l) t.args l []).2.1≠0 then(Av,(oE (λt l=>ev w k t env l) t.args l []).2.1,(oE (λt l=>ev w k t env l) t.args l []).2.2)
 else match arity t.name with
  |some _=>((mI t.name (oE (λt l=>ev w k t env l) t.args l []).1).1,(mI t.name (oE (λt l=>ev w k t env l) t.args l []).1).2,(oE (λt l=>ev w k t env l) t.args l []).2.2)
  |none=>ev w k (uZ w t.name).body (bnd (uZ w t.name).params (oE (λt l=>ev w k t env l) t.args l []).1) (oE (λt l=>ev w k t env l) t.args l []).2.2
def Mk(h1: ¬t.kind=1)(h2: ¬t.kind=2)(h: ¬l<1):ev w (k+1) t env l=match aD9 w t.name with
    |none=>(Av,7,l-1)
    |some n=>if n≠(t.args.length:Int)then(Av,5,l-1)else if arity t.name=ae/\(uZ w t.name).cls≠1 then(Av,8,l-1)else Qu w k t env (l-1):=by
 rw[ev,bI h1,bI h2,bI h];rfl
end
def aW8(hF:AP){w:au f8}{E:f5->kU->Int->aDV}{left:Int}(h:a6Q w E left)(hw:aT1 w){nm:f7}{a:au f6}(ha: ∀o∈a,vO o){l:Int}(h1:l<=left)(h0:0<=l):
    Lp (λL n=>bHY (cA L n) w (arity nm).isSome nm (uZ w nm) a l) (aSH w (match arity nm with|some _=>((mI nm a).1,(mI nm a).2,l)|none=>E (uZ w nm).body (bnd (uZ w nm).params a) l))/\
      vO (match arity nm with|some _=>((mI nm a).1,(mI nm a).2,l)|none=>E (uZ w nm).body (bnd (uZ w nm).params a) l).1/\
      0<=(match arity nm with|some _=>((mI nm a).1,(mI nm a).2,l)|none=>E (uZ w nm).body (bnd (uZ w nm).params a) l).2.2/\(match arity nm with|some _=>((mI nm a).1,(mI nm a).2,l)|none=>E (uZ w nm).body (bnd (uZ w nm).params a) l).2.2<=l:=by
 unfold bHY;cases arity nm with
 |some n=>
  have p:=BB hF (f:=nm) ha;simp only[Option.isSome_some,bV];exact⟨lc p.1 rfl (lr rfl),p.2,h0,oc _⟩
 |none=>
  have fv:=aTx hw nm;have bl:=NZ (uZ w nm).params a;have r:=h (uZ w nm).body (bnd (uZ w nm).params a) l h1 h0 fv.1 (aIN ha) (by omega)
  simp only[Option.isSome_none,bS];exact⟨lc (aN7 (a:=(uZ w nm).params) (b:=a) (by omega)) rfl (lc r.1 rfl (lr rfl)),r.2⟩
def a39(hF:AP){w:au f8}(hw:aT1 w){k:Nat}(h:a6Q w (ev w k) (k:Int)){t:f5}{env:kU}{l:Int}(h1:l<=(k:Int))(h0:0<=l)(ht:tO t=ah)(he: ∀b∈env,vO b.value)(hl:env.length<=1000):
    Lp (λL n=>SO (cA L n) L aj env (arity t.name).isSome (⟨w,l⟩:G.W) t (uZ w t.name) Av) (aSH w (Qu w k t env l))/\vO (Qu w k t env l).1/\0<=(Qu w k t env l).2.2/\(Qu w k t env l).2.2<=l:=by
 have tv:=EH.1 ht;unfold Qu;simp only[SO,aCf,bS];have ri:Rn 87 [⟨.rc 3,t⟩,⟨.str,([105,102]:eT)⟩,⟨.int .i64,(3:Int)⟩] (bb (isA t Ap 3)):=a9U t Ap 3;cases e:isA t Ap 3 with
 |true=>
  rw[e]at ri;obtain⟨a,b,d,ea⟩:=aA2 e;have g0:t.args.getD 0 wE=a:=by rw[ea];rfl
  have g1:t.args.getD 1 wE=b:=by rw[ea];rfl
  have g2:t.args.getD 2 wE=d:=by rw[ea];rfl
  have i0:dK t.args (0:Int)=aa a:=by rw[ea];rfl
  have i1:dK t.args (1:Int)=aa b:=by rw[ea];rfl
  have i2:dK t.args (2:Int)=aa d:=by rw[ea];rfl
  have ta:tO a=ah:=tO'_mem tv.2.2 (by rw[ea];simp)
  have tb:tO b=ah:=tO'_mem tv.2.2 (by rw[ea];simp)
  have td:tO d=ah:=tO'_mem tv.2.2 (by rw[ea];simp)
  rw[g0,g1,g2,bJ rfl];obtain⟨r1,r2,r3,r4⟩:=h a env l h1 h0 ta he hl;by_cases e1:(ev w k a env l).2.1=0
  .rw[bI (λh=>h e1)]
   have rn:=aZu (ev w k a env l).1;cases e2:Eg (ev w k a env l).1 with
   |true=>
    rw[e2]at rn;rw[bJ rfl];obtain⟨q1,q2,q3,q4⟩:=h d env (ev w k a env l).2.2 (by omega) r3 td he hl
    refine⟨?_,q2,q3,by omega⟩
    refine lc ri rfl ?_;simp only[bV,i0,cR];refine lc r1 rfl ?_;simp only[e1,bN,bE,bS];refine lc rn rfl ?_;simp only[bV,i2,cR];exact lc q1 rfl (lr rfl)
   |false=>
    rw[e2]at rn;rw[bI (by decide)]
    obtain⟨q1,q2,q3,q4⟩:=h b env (ev w k a env l).2.2 (by omega) r3 tb he hl
    refine⟨?_,q2,q3,by omega⟩
    refine lc ri rfl ?_;simp only[bV,i0,cR];refine lc r1 rfl ?_;simp only[e1,bN,bE,bS];refine lc rn rfl ?_;simp only[bS,i1,cR];exact lc q1 rfl (lr rfl)
  .rw[bJ e1];refine⟨?_,r2,r3,r4⟩;refine lc ri rfl ?_;simp only[bV,i0,cR];refine lc r1 rfl ?_;simp only[bH e1,b9,bV];exact lr rfl
 |false=>
  rw[e]at ri;rw[bI (by decide)]
  obtain⟨⟨α,hN⟩,q1,q2,q3⟩:=a38 h he hl tv.2.1 (pb:=(arity t.name).isSome) (f:=uZ w t.name) t.args 0 l [] rfl h1 h0 tv.2.2 (λo ho=>by cases ho) rfl
  by_cases e1:(oE (λt l=>ev w k t env l) t.args l []).2.1=0
  .rw[bI (λh=>h e1)]
   simp only[bJ e1]at hN;obtain⟨⟨M,hM⟩,p1,p2,p3⟩:=aW8 hF h hw (nm:=t.name) q1 (l:=(oE (λt l=>ev w k t env l) t.args l []).2.2) (by omega) q2
   refine⟨?_,p1,p2,Int.le_trans p3 q3⟩;refine lc ri rfl ?_;simp only[bS];refine⟨max α M,λL n g1 g2=>?_⟩
   have:=hN L n L (by omega) (by omega) (by omega)
   exact this.trans (hM L n (by omega) (by omega))
  .rw[bJ e1];simp only[bI e1]at hN;refine⟨?_,by rfl,q2,q3⟩
   refine lc ri rfl ?_;simp only[bS];exact⟨α,λL n g1 g2=>hN L n L (by omega) (by omega) (by omega)⟩
def aBf(hF:AP){w:au f8}(hw:aT1 w){k:Nat}(hk:k<=1000000)(ih: ∀k',k=k'+1->a6Q w (ev w k') (k':Int)):a6Q w (ev w k) (k:Int):=by
 intro t env l h1 h0 ht he hl;have tv:=EH.1 ht;by_cases e1:t.kind=1
 .have rv:=aE2 (env:=env) (by omega) t.name
  rw[D3 e1];cases e:EA env t.name with
  |none=>
   rw[e]at rv;refine⟨eC (λL n=>aQO t env (⟨w,l⟩:G.W) L n) ?_,by rfl,h0,oc _⟩
   simp only[aLs,AQ,bG e1,bV];refine lc rv rfl ?_;simp only[b9,bV];exact lr rfl
  |some o=>
   rw[e]at rv;refine⟨eC (λL n=>aQO t env (⟨w,l⟩:G.W) L n) ?_,aSu he e,h0,oc _⟩
   simp only[aLs,AQ,bG e1,bV];refine lc rv rfl ?_;simp only[bE,bS];exact lr rfl
 .by_cases e2:t.kind=2
  .rw[D2 e1 e2];refine⟨eC (λL n=>aQO t env (⟨w,l⟩:G.W) L n) ?_,tv.1,h0,oc _⟩
   simp only[aLs,AQ,bH e1,bG e2,bV,bS];exact lr rfl
  .by_cases e3:l<1
   .rw[D1 e1 e2 e3];refine⟨eC (λL n=>aQO t env (⟨w,l⟩:G.W) L n) ?_,by rfl,h0,oc _⟩
    simp only[aLs,AQ,bH e1,bH e2,bG e3,bV,bS];exact lr rfl
   .obtain⟨k,rfl⟩: ∃k',k=k'+1:=⟨k-1,by omega⟩
    have h:=ih k rfl;have wl:ez.wrap (l-1)=l-1:=wr (by omega) (by omega)
    have ra:=aZF hw.b t.name;rw[Mk e1 e2 e3];cases e4:aD9 w t.name with
    |none=>
     rw[e4]at ra;refine⟨eC (λL n=>aQO t env (⟨w,l⟩:G.W) L n) ?_,by rfl,by show 0<=l-1;omega,by show l-1<=l;omega⟩
     simp only[aLs,AQ,bH e1,bH e2,bH e3,bV,bS];refine lc ra rfl ?_;simp only[b9,bV];exact lr (by rw[wl];rfl)
    |some n=>
     rw[e4]at ra;by_cases e5:n=(t.args.length:Int)
     .have hj:=a39 hF hw h (t:=t) (env:=env) (l:=l-1) (by omega) (by omega) ht he hl
      have r7:=bNn t.name;have r8:=bLQ hw.b t.name
      dsimp only
      rw[bI (λh=>h e5)]
      by_cases e6:arity t.name=ae/\(uZ w t.name).cls≠1
      .rw[bJ e6];refine⟨eC (λL n=>aQO t env (⟨w,l⟩:G.W) L n) ?_,by rfl,by show 0<=l-1;omega,by show l-1<=l;omega⟩
       simp only[aLs,AQ,bH e1,bH e2,bH e3,bV,bS];refine lc ra rfl ?_;simp only[bE,bS,bG e5];rw[e6.1]at r7;refine lc r7 rfl (lc r8 rfl ?_);simp only[Option.isSome_none,b9,bV,bH e6.2,SO,aCf];exact lr (by rw[wl];rfl)
      .rw[bI e6];refine⟨eC (λL n=>aQO t env (⟨w,l⟩:G.W) L n) ?_,hj.2.1,hj.2.2.1,by have:=hj.2.2.2;omega⟩
       simp only[aLs,AQ,bH e1,bH e2,bH e3,bV,bS];refine lc ra rfl ?_;simp only[bE,bS,bG e5];refine lc r7 rfl (lc r8 rfl ?_);have hj1:=hj.1;have wl':ez.wrap (G.W.left ⟨w,l⟩-1)=l-1:=wl;cases e7:arity t.name with
       |none=>
        rw[e7]at hj1;have e8:(uZ w t.name).cls=1:=Decidable.byContradiction λh=>e6 ⟨e7,h⟩
        simp only[Option.isSome_none,b9,bV,bG e8,bE,wl'];exact hj1
       |some q=>
        rw[e7]at hj1;simp only[Option.isSome_some,bE,bS,wl'];exact hj1
     .dsimp only
      rw[bJ e5];refine⟨eC (λL n=>aQO t env (⟨w,l⟩:G.W) L n) ?_,by rfl,by show 0<=l-1;omega,by show l-1<=l;omega⟩
      simp only[aLs,AQ,bH e1,bH e2,bH e3,bV,bS];refine lc ra rfl ?_;simp only[bE,bS,bH e5,b9,bV];exact lr (by rw[wl];rfl)
def Kb(hF:AP){w:au f8}(hw:aT1 w): ∀k:Nat,k<=1000000->a6Q w (ev w k) (k:Int):=by
 intro k;induction k with
 |zero=>exact λhk=>aBf hF hw hk (λk' h=>by omega)
 |succ k ih=>
  intro hk;refine aBf hF hw hk λk' h=>?_
  have e:k'=k:=by omega
  rw[e];exact ih (by omega)
section
variable{w:au f8}{k:Nat}{t:f5}{env:kU}{l:Int}
def a36(h1: ¬t.kind=1)(h2: ¬t.kind=2)(h: ¬l<1):ev w 0 t env l=(Av,9,l):=by unfold ev;rw[bI h1,bI h2,bI h]
end
def Gh{E:f5->Int->aDV}(h: ∀t l,(E t l).2.2<=l): ∀(ts:au f5) (l:Int) (acc:au f6),(oE E ts l acc).2.2<=l
 |[],l,acc=>oc _
 |t::ts,l,acc=>by
  rw[oE];split
  .exact Int.le_trans (Gh h ts _ _) (h t l)
  .exact h t l
def AE(w:au f8): ∀(k:Nat) (t:f5) (env:kU) (l:Int),(ev w k t env l).2.2<=l:=by
 intro k;induction k with
 |zero=>
  intro t env l;by_cases e1:t.kind=1
  .rw[D3 e1];cases EA env t.name<;>exact oc _
  .by_cases e2:t.kind=2
   .rw[D2 e1 e2];exact oc _
   .by_cases e3:l<1
    .rw[D1 e1 e2 e3];exact oc _
    .rw[a36 e1 e2 e3];exact oc _
 |succ k ih=>
  intro t env l;by_cases e1:t.kind=1
  .rw[D3 e1];cases EA env t.name<;>exact oc _
  .by_cases e2:t.kind=2
   .rw[D2 e1 e2];exact oc _
   .by_cases e3:l<1
    .rw[D1 e1 e2 e3];exact oc _
    .rw[Mk e1 e2 e3];have hc:(Qu w k t env (l-1)).2.2<=l-1:=by
      have hl:=Gh (E:=λt l=>ev w k t env l) (λt l=>ih t env l) t.args (l-1) []
      have i0:=ih (t.args.getD 0 wE) env (l-1);unfold Qu;split
      .split
       .exact i0
       .split
        .exact Int.le_trans (ih _ _ _) i0
        .exact Int.le_trans (ih _ _ _) i0
      .split
       .exact hl
       .cases arity t.name with
        |some _=>exact hl
        |none=>exact Int.le_trans (ih _ _ _) hl
     cases aD9 w t.name with
     |none=>show l-1<=l;omega
     |some n=>
      dsimp only
      split
      .show l-1<=l;omega
      .split
       .show l-1<=l;omega
       .omega
def bCi(r:aDV)(d:Int):aDV:=(r.1,0,r.2.2+d)
def R8{E E':f5->Int->aDV}{B d:Int}(hle: ∀t l,(E t l).2.2<=l)(h: ∀t l,l<=B->(E t l).2.1=0->E' t (l+d)=bCi (E t l) d): ∀(ts:au f5) (l:Int) (acc:au f6),l<=B->(oE E ts l acc).2.1=0->
    oE E' ts (l+d) acc=((oE E ts l acc).1,0,(oE E ts l acc).2.2+d)
 |[],l,acc,_,_=>rfl
 |t::ts,l,acc,hB,h0=>by
  rw[oE]at h0⊢;rw[oE];by_cases e:(E t l).2.1=0
  .rw[bJ e]at h0⊢;have m:=h t l hB e;rw[m,bJ (show(bCi (E t l) d).2.1=0 from rfl)]
   exact R8 hle h ts (E t l).2.2 (acc++ [(E t l).1]) (Int.le_trans (hle t l) hB) h0
  .rw[bI e]at h0;exact absurd h0 e
def aBg(w:au f8): ∀(k k':Nat) (d:Int) (t:f5) (env:kU) (l:Int),0<=d->l+d<=(k':Int)->(ev w k t env l).2.1=0->ev w k' t env (l+d)=bCi (ev w k t env l) d:=by
 intro k;induction k with
 |zero=>
  intro k' d t env l hd hk h0;by_cases e1:t.kind=1
  .rw[D3 e1]at h0⊢;rw[D3 e1];cases e:EA env t.name with
   |none=>rw[e]at h0;cases h0
   |some o=>rfl
  .by_cases e2:t.kind=2
   .rw[D2 e1 e2,D2 e1 e2];rfl
   .by_cases e3:l<1
    .rw[D1 e1 e2 e3]at h0;cases h0
    .rw[a36 e1 e2 e3]at h0;cases h0
 |succ k ih=>
  intro k' d t env l hd hk h0;by_cases e1:t.kind=1
  .rw[D3 e1]at h0⊢;rw[D3 e1];cases e:EA env t.name with
   |none=>rw[e]at h0;cases h0
   |some o=>rfl
  .by_cases e2:t.kind=2
   .rw[D2 e1 e2,D2 e1 e2];rfl
   .by_cases e3:l<1
    .rw[D1 e1 e2 e3]at h0;cases h0
    .obtain⟨k',rfl⟩: ∃j,k'=j+1:=⟨k'-1,by omega⟩
     have hc:(Qu w k t env (l-1)).2.1=0->Qu w k' t env (l-1+d)=bCi (Qu w k t env (l-1)) d:=by
      intro g0;have le0:=AE w k (t.args.getD 0 wE) env (l-1);have i0:=ih k' d (t.args.getD 0 wE) env (l-1) hd (by omega)
      have hl:=Gh (E:=λt l=>ev w k t env l) (λt l=>AE w k t env l) t.args (l-1) []
      have il:=R8 (E:=λt l=>ev w k t env l) (E':=λt l=>ev w k' t env l) (B:=l-1) (d:=d) (λt l=>AE w k t env l) (λt' l' h1 h2=>ih k' d t' env l' hd (by omega) h2) t.args (l-1) [] (oc _)
      unfold Qu at g0⊢;by_cases e4:isA t Ap 3=ah
      .rw[bJ e4]at g0⊢;rw[bJ e4];by_cases e5:(ev w k (t.args.getD 0 wE) env (l-1)).2.1=0
       .have h5: ¬(ev w k (t.args.getD 0 wE) env (l-1)).2.1≠0:=λh=>h e5
        rw[bI h5]at g0⊢;have m0:=i0 e5;rw[m0];have q1: ¬(bCi (ev w k (t.args.getD 0 wE) env (l-1)) d).2.1≠0:=λh=>h rfl
        rw[bI q1];show(if Eg (ev w k (t.args.getD 0 wE) env (l-1)).1=ah then ev w k' (t.args.getD 2 wE) env ((ev w k (t.args.getD 0 wE) env (l-1)).2.2+d)else ev w k' (t.args.getD 1 wE) env ((ev w k (t.args.getD 0 wE) env (l-1)).2.2+d))=_
        by_cases e6:Eg (ev w k (t.args.getD 0 wE) env (l-1)).1=ah
        .rw[bJ e6]at g0⊢;rw[bJ e6];exact ih k' d _ env _ hd (by omega) g0
        .rw[bI e6]at g0⊢;rw[bI e6];exact ih k' d _ env _ hd (by omega) g0
       .rw[bJ e5]at g0;exact absurd g0 e5
      .rw[bI e4]at g0⊢;rw[bI e4];by_cases e5:(oE (λt l=>ev w k t env l) t.args (l-1) []).2.1=0
       .have h5: ¬(oE (λt l=>ev w k t env l) t.args (l-1) []).2.1≠0:=λh=>h e5
        rw[bI h5]at g0⊢;have m0:=il e5;rw[m0];have q1: ¬(((oE (λt l=>ev w k t env l) t.args (l-1) []).1,(0:Int),(oE (λt l=>ev w k t env l) t.args (l-1) []).2.2+d):au f6×Int×Int).2.1≠0:=λh=>h rfl
        rw[bI q1];cases e6:arity t.name with
        |some q=>
         rw[e6]at g0;have g1:(mI t.name (oE (λt l=>ev w k t env l) t.args (l-1) []).1).2=0:=g0
         show((mI t.name (oE (λt l=>ev w k t env l) t.args (l-1) []).1).1,(mI t.name (oE (λt l=>ev w k t env l) t.args (l-1) []).1).2,(oE (λt l=>ev w k t env l) t.args (l-1) []).2.2+d)=_
         rw[g1];rfl
        |none=>
         rw[e6]at g0;exact ih k' d _ _ _ hd (by omega) g0
       .rw[bJ e5]at g0;exact absurd g0 e5
     have e3': ¬l+d<1:=by omega
     rw[Mk e1 e2 e3]at h0⊢;rw[Mk e1 e2 e3'];have ld:l+d-1=l-1+d:=by omega
     cases e4:aD9 w t.name with
     |none=>rw[e4]at h0;cases h0
     |some n=>
      rw[e4]at h0
      dsimp only at h0⊢
      by_cases e5:n≠(t.args.length:Int)
      .rw[bJ e5]at h0;cases h0
      .rw[bI e5]at h0⊢;rw[bI e5];by_cases e6:arity t.name=ae/\(uZ w t.name).cls≠1
       .rw[bJ e6]at h0;cases h0
       .rw[bI e6]at h0⊢;rw[bI e6,ld];exact hc h0
def Pp(w:au f8)(t:f5)(env:kU)(x:f6):Prop:= ∃(k:Nat) (l:Int),0<=l/\l<=(k:Int)/\(ev w k t env l).1=x/\(ev w k t env l).2.1=0
def gL{w:au f8}{t:f5}{env:kU}{x y:f6}(h1:Pp w t env x)(h2:Pp w t env y):x=y:=by
 obtain⟨k,l,a1,a2,a3,a4⟩:=h1;obtain⟨k',l',b1,b2,b3,b4⟩:=h2;have m1:=aBg w k (k+k') l' t env l b1 (by omega) a4
 have m2:=aBg w k' (k+k') l t env l' a1 (by omega) b4
 rw[show l+l'=l'+l by omega]at m1
 rw[m1]at m2;have:=congrArg Prod.fst m2;show x=y;rw[<-a3,<-b3];exact this
def LI{w:au f8}{k:Nat}{t:f5}{env:kU}{l:Int}(h0:0<=l)(h1:l<=(k:Int))(h:(ev w k t env l).2.1=0):Pp w t env (ev w k t env l).1:=⟨k,l,h0,h1,rfl,h⟩
def tr(o:f6):Bool:= !Eg o
def Dk{w:au f8}{t:f5}{env:kU}{x:f6}(h1:t.kind=2)(h:Pp w t env x):x=t.value:=by
 obtain⟨k,l,_,_,a3,_⟩:=h;rw[D2 (by omega) h1]at a3
 exact a3.symm
def aA1{t:f5}{s:eT}{n:Int}(h:isA t s n=ah):t.kind=3:=by
 unfold isA at h;rw[aC,aC]at h;exact bL h.1.1
def a1n{w:au f8}{t a b c:f5}{env:kU}{x:f6}(hi:isA t Ap 3=ah)(e:t.args=[a,b,c])(h:Pp w t env x)(hn: ∀k t l,0<=l->0<=(ev w k t env l).2.2): ∃y,Pp w a env y/\(Eg y=ah->Pp w c env x)/\(Eg y=aj->Pp w b env x):=by
 obtain⟨k,l,a1,a2,a3,a4⟩:=h;have hk:t.kind=3:=aA1 hi;by_cases e3:l<1
 .rw[D1 (by omega) (by omega) e3]at a4;cases a4
 .obtain⟨k,rfl⟩: ∃j,k=j+1:=⟨k-1,by omega⟩
  rw[Mk (by omega) (by omega) e3]at a3 a4
  cases e4:aD9 w t.name with
  |none=>rw[e4]at a4;cases a4
  |some n=>
   rw[e4]at a3 a4
   dsimp only at a3 a4
   by_cases e5:n≠(t.args.length:Int)
   .rw[bJ e5]at a4;cases a4
   .rw[bI e5]at a3 a4;by_cases e6:arity t.name=ae/\(uZ w t.name).cls≠1
    .rw[bJ e6]at a4;cases a4
    .rw[bI e6]at a3 a4;unfold Qu at a3 a4;have g0:t.args.getD 0 wE=a:=by rw[e];rfl
     have g1:t.args.getD 1 wE=b:=by rw[e];rfl
     have g2:t.args.getD 2 wE=c:=by rw[e];rfl
     rw[bJ hi,g0,g1,g2]at a3 a4;by_cases e7:(ev w k a env (l-1)).2.1=0
     .rw[bI (λh=>h e7)]at a3 a4
      have le:=AE w k a env (l-1);have nn:=hn k a (l-1) (by omega)
      refine⟨_,LI (by omega) (by omega) e7,λhy=>?_,λhy=>?_⟩
      .rw[bJ hy]at a3 a4;rw[<-a3];exact LI nn (by omega) a4
      .rw[bI (by rw[hy];decide)]at a3 a4
       rw[<-a3];exact LI nn (by omega) a4
     .rw[bJ e7]at a4;exact absurd a4 e7
def Vw(x:Int):Bool:=ak (x=32)||ak (x=9)||ak (x=10)||ak (x=13)
def Ki(x:Int):Bool:=ak (33<=x)&&ak (x<=126)&& !decide (x=40)&& !decide (x=41)&& !decide (x=39)&& !decide (x=34)&& !decide (x=59)&& !decide (x=124)&& !decide (x=58)
def u8(x:UInt8):Int:=(x.toNat:Int)
def bGx(x:Int)(L n:Nat):cA L (n+1) 162 [⟨.int .u8,x⟩]=aa [yB (Vw x)]:=by
 rw[bNc];simp only[a5X,X1,Xt,X0,Vw];generalize ak (x=32)=a,ak (x=9)=b,ak (x=10)=d,ak (x=13)=e;cases a<;>cases b<;>cases d<;>cases e<;>rfl
def aUJ(x:Int)(L n:Nat):cA L (n+1) 166 [⟨.int .u8,x⟩]=aa [yB (Ki x)]:=by
 rw[bNa];simp only[a5V,XW,Xr,XV,Ki];generalize ak (33<=x)=a,ak (x<=126)=b,ak (x=40)=d,ak (x=41)=e,ak (x=39)=f,ak (x=34)=g,ak (x=59)=h,ak (x=124)=i,ak (x=58)=j;cases a
 .rfl
 cases b
 .rfl
 cases d
 case true=>rfl
 cases e
 case true=>rfl
 cases f
 case true=>rfl
 cases g
 case true=>rfl
 cases h
 case true=>rfl
 cases i
 case true=>rfl
 cases j<;>rfl
def aHL{s:au UInt8}{k:Nat}{a b:Int}(hb:s.length<1000000000)(hk:k<=s.length)(h: ∀x,s[k]?=aa x->u8 x≠a)(L n:Nat):cA L (n+1) 163 [yT s,yI (k:Int),⟨.int .u8,a⟩,⟨.int .u8,b⟩]=aa [yB aj]:=by
 rw[bNb];have e0:ak ((0:Int)<=(k:Int))=ah:=by simp
 simp only[a5W,XZ,Xs,XY,e0,bV];cases h1:ak (ez.wrap ((k:Int)+1)<(s.length:Int))with
 |false=>rfl
 |true=>
  rw[bV,cH];cases h2:s[k]? with
  |none=>
   exfalso;have:=List.getElem?_eq_none_iff.1 h2;simp only[aD]at h1;rw[eV (by omega)]at h1
   omega
  |some x=>
   have:=h x h2;have e1:ak ((x.toNat:Int)=a)=aj:=by simpa [u8]using this
   rw[cR,e1];rfl
def aRh{c:cG}{L:Nat}{s r:au UInt8}(hc: ∀x,c 166 [⟨.int .u8,x⟩]=aa [yB (Ki x)])(hb:s.length<1000000000)(hr: ∀y,r.head?=aa y->Ki (u8 y)=aj):
    ∀(w:au UInt8) (k m:Nat),s.drop k=w++r->w.length<m->(∀x∈w,Ki (u8 x)=ah)->Bf c L m s (k:Int)=aa [yI ((k+w.length:Nat):Int)]:=by
 intro w;induction w with
 |nil=>
  intro k m h1 h2 _;obtain⟨m,rfl⟩:=sK m 1 (by simp at h2;omega)
  rw[Bf,PX];rw[aW]at h1;cases r with
  |nil=>
   have e1:=cX h1;have e3:ak ((k:Int)<(s.length:Int))=aj:=by simp;omega
   rw[e3,bS,G9,HM,bS];rfl
  |cons y r=>
   obtain⟨a1,a2,a3⟩:=cZ h1;have e3:ak ((k:Int)<(s.length:Int))=ah:=by simp;omega
   have e4:Ki (y.toNat:Int)=aj:=hr y rfl;rw[e3,bV,cH,a1,cR,hc,eW,G9,HM,e4,bS];rfl
 |cons x w ih=>
  intro k m h1 h2 h3;obtain⟨m,rfl⟩:=sK m 1 (by simp at h2;omega)
  rw[Bf,PX];obtain⟨a1,a2,a3⟩:=cZ h1;have e3:ak ((k:Int)<(s.length:Int))=ah:=by simp;omega
  have e4:Ki (x.toNat:Int)=ah:=h3 x (aH ..);rw[e3,bV,cH,a1,cR,hc,eW,G9,HM,e4,bV,eV (by omega)]
  rw[ih (k+1) m a3 (by simp at h2;omega) λz hz=>h3 z (aG _ hz)]
  simp only[aM];congr 4;omega
def bFY{s w r:au UInt8}{k L n:Nat}(hb:s.length<1000000000)(hL:s.length<L)(h:s.drop k=w++r)(hw: ∀x∈w,Ki (u8 x)=ah)(hr: ∀y,r.head?=aa y->Ki (u8 y)=aj):
    cA L (n+2) 167 [yT s,yI (k:Int)]=aa [yI ((k+w.length:Nat):Int)]:=by
 have:=congrArg am h;simp at this;show cA L (n+1+1) 167 _=_;rw[bM9,a5U,XU];exact aRh (λx=>aUJ x L n) hb hr w k L h (by omega) hw
def aRq{c:cG}{L:Nat}{s r:au UInt8}(hc: ∀x,c 162 [⟨.int .u8,x⟩]=aa [yB (Vw x)])
    (hh: ∀k:Nat,k<=s.length->(∀x,s[k]?=aa x->u8 x≠35)->c 163 [yT s,yI (k:Int),⟨.int .u8,(35:Int)⟩,⟨.int .u8,(124:Int)⟩]=aa [yB aj])
    (hb:s.length<1000000000) (hr: ∀y,r.head?=aa y->Vw (u8 y)=aj/\u8 y≠59/\u8 y≠35):
    ∀(w:au UInt8) (k m:Nat),s.drop k=w++r->w.length<m->(∀x∈w,Vw (u8 x)=ah)->vL c L m s (k:Int)=aa [yI ((k+w.length:Nat):Int),yB ah]:=by
 intro w;induction w with
 |nil=>
  intro k m h1 h2 _;obtain⟨m,rfl⟩:=sK m 1 (by simp at h2;omega)
  rw[vL,Qb];rw[aW]at h1;cases r with
  |nil=>
   have e1:=cX h1;have e3:ak ((k:Int)<(s.length:Int))=aj:=by simp;omega
   rw[e3,bS];rfl
  |cons y r=>
   obtain⟨a1,a2,a3⟩:=cZ h1;have e3:ak ((k:Int)<(s.length:Int))=ah:=by simp;omega
   obtain⟨e4,e5,e6⟩:=hr y rfl;have e4:Vw (y.toNat:Int)=aj:=e4;have e7:ak ((y.toNat:Int)=59)=aj:=by simpa [u8]using e5
   have h8:=hh k (by omega) λx hx=>by rw[a1]at hx;cases hx;exact e6
   rw[e3,bV,cH,a1,cR,hc,eW,e4,bS,cR,e7,bS,h8,eW,bS];rfl
 |cons x w ih=>
  intro k m h1 h2 h3;obtain⟨m,rfl⟩:=sK m 1 (by simp at h2;omega)
  rw[vL,Qb];obtain⟨a1,a2,a3⟩:=cZ h1;have e3:ak ((k:Int)<(s.length:Int))=ah:=by simp;omega
  have e4:Vw (x.toNat:Int)=ah:=h3 x (aH ..);rw[e3,bV,cH,a1,cR,hc,eW,e4,bV,eV (by omega)]
  rw[ih (k+1) m a3 (by simp at h2;omega) λz hz=>h3 z (aG _ hz)]
  simp only[aM];congr 4;omega
def aUw{s w r:au UInt8}{k L n:Nat}(hb:s.length<1000000000)(hL:s.length<L)(h:s.drop k=w++r)(hw: ∀x∈w,Vw (u8 x)=ah)(hr: ∀y,r.head?=aa y->Vw (u8 y)=aj/\u8 y≠59/\u8 y≠35):
    cA L (n+2) 121 [yT s,yI (k:Int)]=aa [yI ((k+w.length:Nat):Int),yB ah]:=by
 have:=congrArg am h;simp at this;show cA L (n+1+1) 121 _=_;rw[bNj,a54,YH];exact aRq (λx=>bGx x L n) (λk h6 hk=>aHL hb h6 hk L n) hb hr w k L h (by omega) hw
def aNT{N:Type}{s w r:au N}{k:Nat}(h:s.drop k=w++r)(hk:k<=s.length):slc s (k:Int) ((k+w.length:Nat):Int)=aa w:=by
 have hl:=congrArg am h;simp at hl;unfold slc;have e1:ak ((0:Int)<=(k:Int))=ah:=by simp
 have e2:ak ((k:Int)<=((k+w.length:Nat):Int))=ah:=by simp;omega
 have e3:ak (((k+w.length:Nat):Int)<=(s.length:Int))=ah:=by simp only[aD];omega
 rw[e1,e2,e3];simp only[Bool.and_self,aI,Int.toNat_natCast,aA];rw[List.drop_take,h];simp
def aGM{W:Type}{a b:au UInt8}{d:Bool}{K:au UInt8×au UInt8×Bool×Unit->f9 W}:gO (D:=U0.D) [.str,.str,.bool] (aa [yT a,yT b,yB d]) K=K (a,b,d,()):=rfl
def a1v{W:Type}{a:G.X}{K:G.X×Unit->f9 W}:uQ (aa [yR 20 a]) K=K (a,()):=rfl
def rY{W:Type}{a:Int}{b:Bool}{K:Int×Bool×Unit->f9 W}:xI (aa [yI a,yB b]) K=K (a,b,()):=rfl
def rC{W:Type}{a:Int}{K:Int×Unit->f9 W}:iO (aa [yI a]) K=K (a,()):=rfl
def aAN{W:Type}{a:au UInt8}{K:au UInt8×Unit->f9 W}:kN (aa [yT a]) K=K (a,()):=rfl
def a1w{W:Type}{a b:au UInt8}{K:au UInt8×au UInt8×Unit->f9 W}:gO (D:=U0.D) [.str,.str] (aa [yT a,yT b]) K=K (a,b,()):=rfl
def a1z{W:Type}{a:G.K}{b:Int}{d:G.X}{K:G.K×Int×G.X×Unit->f9 W}:gO (D:=U0.D) [.rc 21,.int .i64,.rc 20] (aa [yR 21 a,yI b,yR 20 d]) K=K (a,b,d,()):=rfl
def aUy{x:UInt8}{w:au UInt8}(h1:u8 x≠45)(h2:u8 x<48∨57<u8 x)(L n:Nat):cA (L+1) (n+1) 169 [yT (x::w)]=aa [yT [],yT [],yB aj]:=by
 rw[bFk];have e1:ak ((0:Int)<((x::w).length:Int))=ah:=by simp
 have e2:ak ((x.toNat:Int)=45)=aj:=by simpa [u8]using h1
 have e3:dK (x::w) (0:Int)=aa x:=rfl;rw[aRL,XT,e1,bV,e3,cR,e2,Xq,XS,bS,Xp,XQ,C0,XP,e1,bV,e3,cR];have key: ∀b:Bool,b=aj->Xo (cA (L+1) n) (L+1) (C0 (cA (L+1) n) (L+1) L) b 0 (x::w) 0=aa [yT [],yT [],yB aj]:=by
  intro b hb;subst hb;rfl
 cases h3:ak ((48:Int)<=(x.toNat:Int))with
 |false=>exact key _ rfl
 |true=>
  rw[bV,cR];have h4:ak ((x.toNat:Int)<=(57:Int))=aj:=by
   simp only[aD]at h3;simp only[bD];simp only[u8]at h2;omega
  exact key _ h4
def bGj{k p:Int}{w:au UInt8}(h:w.length<=40)(L n:Nat):cA L (n+1) 165 [yR 21 ⟨k,p,[],w,[]⟩,yB aj]=aa [yR 20 ⟨0,0⟩]:=by
 rw[bFl];have e1:ak ((40:Int)<(w.length:Int))=aj:=by simp;omega
 simp only[aRM,XX,e1,bS];rfl
structure aKW(c:cG)(w:List UInt8):Prop where
 a:c 169 [yT w]=aa [yT w,yT [49],yB ah]
 b:c 170 [yT [49]]=aa [yT [49]]
 d:c 170 [yT w]=aa [yT w]
 e:c 82 [yT w,yT [49]]=aa [yT w,yT [49]]
 f:c 171 [yT w]=aa [yI 1]
 g:c 171 [yT [49]]=aa [yI 1]
def SyW(w:au UInt8):Prop:= ∃x l,w=x::l/\u8 x≠45/\(u8 x<48∨57<u8 x)/\w≠ [46]/\w.length<=40
def aBn{x:Int}(h:Ki x=ah):x≠40/\x≠41/\x≠39/\x≠34/\x≠59/\x≠124/\x≠58:=by
 simp only[Ki,aC,io,bD]at h;obtain⟨⟨⟨⟨⟨⟨⟨_,h1⟩,h2⟩,h3⟩,h4⟩,h5⟩,h6⟩,h7⟩:=h;exact⟨h1,h2,h3,h4,h5,h6,h7⟩
def bHr(b:Bool)(p:Int)(w:au UInt8):G.K:=bif b then⟨5,p,[],w,[49]⟩else⟨6,p,[],w,[]⟩
def bNu{s w r:au UInt8}{k L n:Nat}{nu:Bool}(hb:s.length<1000000000)(hL:s.length<L)(h:s.drop k=w++r)(h0:w≠ [])(hw: ∀x∈w,Ki (u8 x)=ah)(hr: ∀y,r.head?=aa y->Ki (u8 y)=aj/\u8 y≠58)
    (hk:(nu=ah/\aKW (cA L (n+2)) w)∨(nu=aj/\SyW w)):
    cA L (n+3) 122 [yT s,yI (k:Int)]=aa [yR 21 (bHr nu (k:Int) w),yI ((k+w.length:Nat):Int),yR 20 ⟨0,0⟩]:=by
 have hl:=congrArg am h;simp at hl;obtain⟨L,rfl⟩:=sK L 1 (by omega)
 cases hw0:w with
 |nil=>exact(h0 hw0).elim
 |cons x l=>
  rw[<-hw0];have hx:x∈w:=by rw[hw0];exact aH ..
  have h1:s.drop k=x::(l++r):=by rw[h,hw0];rfl
  obtain⟨a1,a2,a3⟩:=cZ h1;obtain⟨q1,q2,q3,q4,q5,q6,q7⟩:=aBn (hw x hx);have d1:ak ((x.toNat:Int)=40)=aj:=by simpa [u8]using q1
  have d2:ak ((x.toNat:Int)=41)=aj:=by simpa [u8]using q2
  have d3:ak ((x.toNat:Int)=39)=aj:=by simpa [u8]using q3
  have d4:ak ((x.toNat:Int)=34)=aj:=by simpa [u8]using q4
  have d5:ak ((x.toNat:Int)=124)=aj:=by simpa [u8]using q6
  have d6:Ki (x.toNat:Int)=ah:=hw x hx;have hwd:=bFY (n:=n) hb hL h hw (λy hy=>(hr y hy).1)
  have co:=aNT h (by omega)
  have hhs:cA (L+1) (n+2) 163 [yT s,yI ((k+w.length:Nat):Int),⟨.int .u8,(58:Int)⟩,⟨.int .u8,(58:Int)⟩]=aa [yB aj]:=by
   refine aHL hb (by omega) (λy hy=>?_) (L+1) (n+1)
   have:s.drop (k+w.length)=r:=by rw[<-List.drop_drop,h];simp
   rw[<-List.head?_drop,this]at hy;exact(hr y hy).2
  show cA (L+1) (n+2+1) 122 _=_;rw[a4W,aLu,HQ,cH,a1,cR,d1,bS,d2,bS,d3,bS,d4,bS,d5,bS,aUJ,eW,d6];simp only[bE,bS];rw[hwd,rC];show ob (slc s (k:Int) ((k+w.length:Nat):Int)) _=_;rw[co,cR,hhs,eW,bS];rcases hk with⟨rfl,hn⟩|⟨rfl,x',l',e1,e2,e3,e4,e5⟩
  .rw[hn.a,aGM];have e4:ak (w=([46]:au UInt8))=aj:=by
    cases hd:ak (w=([46]:au UInt8))with
    |false=>rfl
    |true=>
     exfalso;simp only[aD]at hd;have h2:=hn.a;rw[hd]at h2;rw[aUy (x:=46) (w:=[]) (by decide) (by decide)]at h2
     cases h2
   rw[e4,bS];simp only[bV];rw[hn.b,aAN];show bW (ak (([49]:au UInt8)=[48])) _ _=_;rw[show ak (([49]:au UInt8)=[48])=aj by decide,bS,hn.d,aAN,aAN]
   show gO (D:=U0.D) [.str,.str] (cA (L+1) (n+2) 82 [yT w,yT [49]]) _=_;rw[hn.e,a1w];show iO (cA (L+1) (n+2) 171 [yT w]) _=_;rw[hn.f,rC];show bW (ak ((100:Int)<1)) _ _=_;rw[show ak ((100:Int)<1)=aj by decide,bS]
   show iO (cA (L+1) (n+2) 171 [yT [49]]) _=_;rw[hn.g,rC];rfl
  .rw[e1,aUy e2 e3,<-e1,aGM];have e6:ak (w=([46]:au UInt8))=aj:=by simpa using e4
   rw[e6,bS];simp only[bS];rw[bGj e5,a1v];rfl
def bGf{s r:au UInt8}{k L n:Nat}(hb:s.length<1000000000)(h:s.drop k=40::r):cA L (n+1) 122 [yT s,yI (k:Int)]=aa [yR 21 ⟨1,(k:Int),[],[],[]⟩,yI ((k+1:Nat):Int),yR 20 ⟨0,0⟩]:=by
 obtain⟨a1,a2,a3⟩:=cZ h;rw[a4W,aLu,HQ,cH,a1,cR,eV (by omega)]
 rfl
def bGg{s r:au UInt8}{k L n:Nat}(hb:s.length<1000000000)(h:s.drop k=41::r):cA L (n+1) 122 [yT s,yI (k:Int)]=aa [yR 21 ⟨2,(k:Int),[],[],[]⟩,yI ((k+1:Nat):Int),yR 20 ⟨0,0⟩]:=by
 obtain⟨a1,a2,a3⟩:=cZ h;rw[a4W,aLu,HQ,cH,a1,cR,eV (by omega)]
 rfl
noncomputable section
variable(c:cG)(e:Cu)(L:Nat)
def a1a(c:cG)(e:Cu):Kt:=xK ii0
def bAZ:Kt:=xT ii0 c e [1,1,1] (a1a c e)
def bAY:Kt:=xT ii0 c e (pw 8 255) (a1a c e)
def bIQ:Kt:=xT ii0 c e (pw 11 2047) (a1a c e)
def aOn:Kt:=dM U0 0 (bIQ c e)
def bAX(n3:Nt):Kt:=iL U0 Kh n3 (aOn c e)
def bAW(n3:Nt):Kt:=xT ii0 c e (pw 15 19455) (bAX c e n3)
def bIP(n3:Nt):Kt:=xT ii0 c e (pw 16 52223) (bAX c e n3)
def bAV(n3:Nt):Kt:=dM U0 1 (bIP c e n3)
def a6o(d:Bool->au Int->au Int->Rt)(a:au Int)(b:au Int):Rt:=
 eP (c 1 []) λf=>
 bW (!f.1) (aa [yB aj]) (bW (ak ((100:Int)<(am a:Int))) (d ah a b) (d (ak ((40:Int)<(am b:Int))) a b))
def bGb(n:Nt):au Int->au Int->Rt:=λx0 x1=>n [⟨(.sl (.int .u8)),x0⟩,⟨(.sl (.int .u8)),x1⟩]
def aSm(f:Bool->au f8->au G.S->au f5->G.Z->Rt)(h:Bool)(i:au Int)(j:au Int):Rt:=
 bW h (aa [yB ah]) (gO [zS 15] (c 2 [⟨(.int .u32),0⟩]) λ(b:au f8×Unit)=>
 gO [zS 3,.rc 0] (c 3 [yS 15 b.1,yI 4,yI 1,yR 0 (G.Z.mk i 0)]) λ(a:au f5×G.Z×Unit)=>
 gO [zS 17,.rc 0] (c 4 [yR 0 (G.Z.mk j 0)]) λ(d:au G.S×G.Z×Unit)=>
 gO [.bool,.bool] (c 5 [yS 15 b.1,yS 3 a.1,yS 17 d.1]) λ(g:Bool×Bool×Unit)=>
 bW (!g.1) (f ah b.1 d.1 a.1 a.2.1) (f (!g.2.1) b.1 d.1 a.1 a.2.1))
def bGa(n:Nt):Bool->au Int->au Int->Rt:=λx0 x1 x2=>n [yB x0,⟨(.sl (.int .u8)),x1⟩,⟨(.sl (.int .u8)),x2⟩]
def a5G:=bGa (xD ii0 e (pw 5 11) aIu (bAZ c e))
def aSl(d:au f8->au G.S->au f5->au f5->Int->Rt)(f:Bool)(b:au f8)(g:au G.S)(a:au f5)(h:G.Z):Rt:=
 bW f (aa [yB ah]) (eP (c 6 [yS 3 a]) λi=>
 bW i.1 (aa [yB aj]) (gO [zS 3,.rc 0] (c 7 [yS 15 b,yS 3 a,yR 0 h]) λ(j:au f5×G.Z×Unit)=>
 d b g a j.1 0))
def bF9(n:Nt):Bool->au f8->au G.S->au f5->G.Z->Rt:=λx0 x1 x2 x3 x4=>n [yB x0,yS 15 x1,yS 17 x2,yS 3 x3,yR 0 x4]
def a5F:=bF9 (xD ii0 e (pw 11 895) aIt (bAY c e))
def aNg(c:cG)(d:Bool->Int->au f8->au G.S->au f5->au f5->Rt)(f:au f8)(g:au G.S)(h:au f5)(b:au f5)(a:Int):Rt:=
 bW (ak (a<(am b:Int))) (d (ak (a<40)) a f g h b) (d aj a f g h b)
def aDT(n:Nt):au f8->au G.S->au f5->au f5->Int->Rt:=λx0 x1 x2 x3 x4=>n [yS 15 x0,yS 17 x1,yS 3 x2,yS 3 x3,yI x4]
def bFX:=aDT (xE ii0 e (pw 14 3071) Kh (aOn c e))
def a6n(h:Bool->Int->au f8->au G.S->au f5->au f5->Rt)(l:Bool)(a:Int)(d:au f8)(f:au G.S)(g:au f5)(b:au f5):Rt:=
 bW l (ob (dK b a) λm=>
 gO [.bool,.bool] (c 8 [yS 15 d,yR 3 m,yS 17 f]) λ(i:Bool×Bool×Unit)=>
 ob (dK b a) λo=>
 iO (c 9 [yS 3 g,yR 3 o]) λj=>
 bW i.2.1 (bW (ak (j.1=1)) (bW (!i.1) (h ah a d f g b) (bW (ak (j.1=2)) (h i.1 a d f g b) (h aj a d f g b))) (bW (ak (j.1=2)) (h i.1 a d f g b) (h aj a d f g b))) (h aj a d f g b)) (aa [yB ah])
def a5E(n3:Nt):=aRl (xD ii0 e (pw 17 35839) aIs (bAW c e n3))
def a6m(c:cG)(a:au f8->au G.S->au f5->au f5->Int->Rt)(b:Bool)(d:Int)(f:au f8)(g:au G.S)(h:au f5)(i:au f5):Rt:=
 bW b (aa [yB aj]) (a f g h i (ez.wrap (d+1)))
def a5D(n3:Nt):=aRl (xD ii0 e (pw 21 936959) aIr (bAV c e n3))
def bIB:bGb (xF ii0 c e)=a6o c (a5G c e):=by kernel_rfl
def bIA:bGa (xA ii0 c e (pw 5 11) aIu (bAZ c e))=aSm c (a5F c e):=by kernel_rfl
def bIz:bF9 (xA ii0 c e (pw 11 895) aIt (bAY c e))=aSl c (bFX c e):=by kernel_rfl
def bIy(n3:Nt):aDT (xA ii0 c e (pw 14 3071) Kh (iL U0 Kh n3 (aOn c e)))=aNg c (a5E c e n3):=by kernel_rfl
def bIx(n3:Nt):aRl (xA ii0 c e (pw 17 35839) aIs (bAW c e n3))=a6n c (a5D c e n3):=by kernel_rfl
def bIw(n3:Nt):aRl (xA ii0 c e (pw 21 936959) aIr (bAV c e n3))=a6m c (aDT n3):=by kernel_rfl
def IU(L:Nat)(n3:au f8->au G.S->au f5->au f5->Int->Rt):Bool->Int->au f8->au G.S->au f5->au f5->Rt:=a6m c n3
def bKe(n3:Nt):a5D c (cu c L) n3=IU c L (aDT n3):=by rw[a5D,cI,bIw];rfl
def a5Q(n3:au f8->au G.S->au f5->au f5->Int->Rt):Bool->Int->au f8->au G.S->au f5->au f5->Rt:=a6n c (IU c L n3)
def bKf(n3:Nt):a5E c (cu c L) n3=a5Q c L (aDT n3):=by rw[a5E,cI,bIx];simp only[bKe];rfl
def Bn(c:cG)(L:Nat):Nat->au f8->au G.S->au f5->au f5->Int->Rt
 |0=>λ_ _ _ _ _=>ae
 |n+1=>aNg c (a5Q c L (Bn c L n))
def bHV(n:Nat):aDT (xL ii0 c L (pw 14 3071) Kh (aOn c (cu c L)) n)=Bn c L n:=by
 induction n with
 |zero=>rfl
 |succ n ih=>rw[fO,bIy];simp only[bKf,ih];rfl
def bHJ:bFX c (cu c L)=Bn c L L:=bHV c L L
def aLq:Bool->au f8->au G.S->au f5->G.Z->Rt:=aSl c (Bn c L L)
def bKg:a5F c (cu c L)=aLq c L:=by rw[a5F,cI,bIz];simp only[bHJ];rfl
def aLr:Bool->au Int->au Int->Rt:=aSm c (aLq c L)
def bKh:a5G c (cu c L)=aLr c L:=by rw[a5G,cI,bIA];simp only[bKg];rfl
def F0:au Int->au Int->Rt:=a6o c (aLr c L)
def e0:bGb (xF ii0 c (cu c L))=F0 c L:=by rw[bIB];simp only[bKh];rfl
def c0(a:au Int)(b:au Int)(L n:Nat):cA L (n+1) 0 [⟨(.sl (.int .u8)),a⟩,⟨(.sl (.int .u8)),b⟩]=F0 (cA L n) L a b:=by rw[<-e0];exact cz (x:=ii0) (by kernel_rfl) L n _
def bAJ(c:cG)(e:Cu):Kt:=xK Uz
def bIO:Kt:=xT Uz c e (pw 4 15) (bAJ c e)
def aZP:Kt:=dM U0 0 (bIO c e)
def bIN:Kt:=xT Uz c e (pw 6 63) (bAJ c e)
def aOl:Kt:=dM U0 2 (bIN c e)
def bAI(n2:Nt):Kt:=iL U0 Kg n2 (aOl c e)
def a6j(a:(au (au G.F))->Int->Int->au f8->Rt)(b:Int):Rt:=
 gO [zS 15] (c 12 []) λ(d:au f8×Unit)=>
 gO [.sl (zS 4)] (c 13 []) λ(f:(au (au G.F))×Unit)=>
 a f.1 0 b d.1
def bF7(n:Nt):Int->Rt:=λx0=>n [⟨(.int .u32),x0⟩]
def aDY(i:(au (au G.F))->Int->Int->au f8->Rt)(j:Int->au G.L->Int->au f8->Rt)(a:(au (au G.F)))(b:Int)(f:Int)(d:au f8):Rt:=
 bW (ak (b<(am a:Int))) (ob (dK a b) λl=>
 ob (dK l 0) λg=>
 ob (dK a b) λh=>
 lZ (aq ((am d+am ([(G.E.mk 3 g.name (G.A.mk [] ([]:au f7)) (G.M.mk DE ([]:au f7) aj Tg) h ([]:au f5) ([]:au (au G.N)) ([]:au f8) (G.B.mk DE ([]:au G.D)) ([]:au G.U) ([]:au f7) ([]:au f7) [] 0)]:au f8))*568) 1073741824)<|
 i a (ez.wrap (b+1)) f (d++([(G.E.mk 3 g.name (G.A.mk [] ([]:au f7)) (G.M.mk DE ([]:au f7) aj Tg) h ([]:au f5) ([]:au (au G.N)) ([]:au f8) (G.B.mk DE ([]:au G.D)) ([]:au G.U) ([]:au f7) ([]:au f7) [] 0)]:au f8))) (gO [zS 16] (c 14 []) λ(m:au G.L×Unit)=>
 j f m.1 0 d)
def aRk(n:Nt):(au (au G.F))->Int->Int->au f8->Rt:=λx0 x1 x2 x3=>n [⟨.sl (zS 4),x0⟩,yI x1,⟨(.int .u32),x2⟩,yS 15 x3]
def bFW:=aRk (xE Uz e (pw 7 23) Si (aZP c e))
def aDX(g:Int->Int->au G.L->au f8->Rt)(d:Int)(b:au G.L)(a:Int)(f:au f8):Rt:=
 bW (ak (a<(am b:Int))) (lZ (ak (0<=a))<|
 bW (ak ((IntKind.u32.wrap ((BitVec.ofInt IntKind.u32.bits (Int.fdiv d (2^(min (Int.toNat a) IntKind.u32.bits)))&&&BitVec.ofInt IntKind.u32.bits 1).toNat:Int))=0)) (g a d b f) (ob (dK b a) λh=>
 ob (dK b a) λi=>
 qF (c 15 [yT h.name]) λj=>
 ob (dK b a) λl=>
 ob (dK b a) λm=>
 ae)) (aa [yS 15 f])
def aKd(n:Nt):Int->au G.L->Int->au f8->Rt:=λx0 x1 x2 x3=>n [⟨(.int .u32),x0⟩,yS 16 x1,yI x2,yS 15 x3]
def bFV:=aKd (xE Uz e (pw 9 95) Kg (aOl c e))
def bGG(c:cG)(a:Int->au G.L->Int->au f8->Rt)(b:Int)(d:Int)(f:au G.L)(g:au f8):Rt:=
 a d f (ez.wrap (b+1)) g
def bF6(n:Nt):Int->Int->au G.L->au f8->Rt:=λx0 x1 x2 x3=>n [yI x0,⟨(.int .u32),x1⟩,yS 16 x2,yS 15 x3]
def a5C(n2:Nt):=bF6 (xD Uz e (pw 12 1631) aIq (bAI c e n2))
def bIv:bF7 (xF Uz c e)=a6j c (bFW c e):=by kernel_rfl
def bIu(n1:Nt):aRk (xA Uz c e (pw 7 23) Si (iL U0 Si n1 (aZP c e)))=aDY c (aRk n1) (bFV c e):=by kernel_rfl
def bIt(n2:Nt):aKd (xA Uz c e (pw 9 95) Kg (iL U0 Kg n2 (aOl c e)))=aDX c (a5C c e n2):=by kernel_rfl
def bIs(n2:Nt):bF6 (xA Uz c e (pw 12 1631) aIq (bAI c e n2))=bGG c (aKd n2):=by kernel_rfl
def a5P(L:Nat)(n2:Int->au G.L->Int->au f8->Rt):Int->Int->au G.L->au f8->Rt:=bGG c n2
def bKd(n2:Nt):a5C c (cu c L) n2=a5P c L (aKd n2):=by rw[a5C,cI,bIs];rfl
def OM(c:cG)(L:Nat):Nat->Int->au G.L->Int->au f8->Rt
 |0=>λ_ _ _ _=>ae
 |n+1=>aDX c (a5P c L (OM c L n))
def bHT(n:Nat):aKd (xL Uz c L (pw 9 95) Kg (aOl c (cu c L)) n)=OM c L n:=by
 induction n with
 |zero=>rfl
 |succ n ih=>rw[fO,bIt];simp only[bKd,ih];rfl
def bHB:bFV c (cu c L)=OM c L L:=bHT c L L
def aDS(c:cG)(L:Nat):Nat->(au (au G.F))->Int->Int->au f8->Rt
 |0=>λ_ _ _ _=>ae
 |n+1=>aDY c (aDS c L n) (OM c L L)
def bHU(n:Nat):aRk (xL Uz c L (pw 7 23) Si (aZP c (cu c L)) n)=aDS c L n:=by
 induction n with
 |zero=>rfl
 |succ n ih=>rw[fO,bIu];simp only[bHB,ih];rfl
def bHC:bFW c (cu c L)=aDS c L L:=bHU c L L
def F2:Int->Rt:=a6j c (aDS c L L)
def e2:bF7 (xF Uz c (cu c L))=F2 c L:=by rw[bIv];simp only[bHC];rfl
def c2(a:Int)(L n:Nat):cA L (n+1) 2 [⟨(.int .u32),a⟩]=F2 (cA L n) L a:=by rw[<-e2];exact cz (x:=Uz) (by kernel_rfl) L n _
def bIM(c:cG)(e:Cu):Kt:=xK aD5
def bIL:Kt:=xT aD5 c e (pw 4 15) (bIM c e)
def aOk:Kt:=dM U0 0 (bIL c e)
def bIK(n1:Nt):Kt:=iL U0 Ke n1 (aOk c e)
def bIJ(n1:Nt):Kt:=xT aD5 c e (pw 9 407) (bIK c e n1)
def bAC(n1:Nt):Kt:=dM U0 1 (bIJ c e n1)
def a6i(b:Int->au f8->Int->Int->au f5->G.Z->Rt)(d:au f8)(f:Int)(g:Int)(h:G.Z):Rt:=
 Am (c 16 [yI (ez.wrap (f+1)),yR 0 h]) λa=>
 b a.1 d g 0 ([]:au f5) a.2.1
def bF5(n:Nt):au f8->Int->Int->G.Z->Rt:=λx0 x1 x2 x3=>n [yS 15 x0,yI x1,yI x2,yR 0 x3]
def aSk(i:au f5->Int->Int->au f8->Int->G.Z->f5->Rt)(b:Int)(d:au f8)(f:Int)(g:Int)(h:au f5)(j:G.Z):Rt:=
 bW (ak (g<b)) (uP (c 17 [yS 15 d,yI f,yR 0 j]) λl=>
 Am (c 16 [yI 6,yR 0 l.2.1]) λa=>
 bW (ak (a.1=0)) (uP (c 18 [yR 0 a.2.1]) λm=>
 jE (c 11 [yT [99,111,110,115,112],yS 3 ([m.1]:au f5)]) λs=>
 i h g b d f m.2.1 s.1) (bW (ak (a.1=1)) (uP (c 18 [yR 0 a.2.1]) λo=>
 tD (c 19 [yI 0,yR 0 o.2.1]) λp=>
 jE (c 20 [yR 2 p.1]) λt=>
 jE (c 11 [yT [101,113,117,97,108],yS 3 ([o.1,t.1]:au f5)]) λu=>
 i h g b d f p.2.1 u.1) (bW (ak (a.1=2)) (jE (c 21 [yI 0]) λv=>
 uP (c 18 [yR 0 a.2.1]) λq=>
 jE (c 11 [yT [60],yS 3 ([v.1,q.1]:au f5)]) λw=>
 i h g b d f q.2.1 w.1) (i h g b d f a.2.1 l.1)))) (aa [yS 3 h,yR 0 j])
def aKc(n:Nt):Int->au f8->Int->Int->au f5->G.Z->Rt:=λx0 x1 x2 x3 x4 x5=>n [yI x0,yS 15 x1,yI x2,yI x3,yS 3 x4,yR 0 x5]
def bFU:=aKc (xE aD5 e (pw 7 23) Ke (aOk c e))
def a6h(c:cG)(d:Int->au f8->Int->Int->au f5->G.Z->Rt)(a:au f5)(f:Int)(g:Int)(h:au f8)(i:Int)(j:G.Z)(b:f5):Rt:=
 lZ (aq ((am a+am ([b]:au f5))*176) 1073741824)<|
 d g h i (ez.wrap (f+1)) (a++([b]:au f5)) j
def bF4(n:Nt):au f5->Int->Int->au f8->Int->G.Z->f5->Rt:=λx0 x1 x2 x3 x4 x5 x6=>n [yS 3 x0,yI x1,yI x2,yS 15 x3,yI x4,yR 0 x5,yR 3 x6]
def a5B(n1:Nt):=bF4 (xD aD5 e (pw 13 3223) aIp (bAC c e n1))
def bIr:bF5 (xF aD5 c e)=a6i c (bFU c e):=by kernel_rfl
def bIq(n1:Nt):aKc (xA aD5 c e (pw 7 23) Ke (iL U0 Ke n1 (aOk c e)))=aSk c (a5B c e n1):=by kernel_rfl
def bIp(n1:Nt):bF4 (xA aD5 c e (pw 13 3223) aIp (bAC c e n1))=a6h c (aKc n1):=by kernel_rfl
def aRx(L:Nat)(n1:Int->au f8->Int->Int->au f5->G.Z->Rt):au f5->Int->Int->au f8->Int->G.Z->f5->Rt:=a6h c n1
def bKc(n1:Nt):a5B c (cu c L) n1=aRx c L (aKc n1):=by rw[a5B,cI,bIp];rfl
def SG(c:cG)(L:Nat):Nat->Int->au f8->Int->Int->au f5->G.Z->Rt
 |0=>λ_ _ _ _ _ _=>ae
 |n+1=>aSk c (aRx c L (SG c L n))
def bHS(n:Nat):aKc (xL aD5 c L (pw 7 23) Ke (aOk c (cu c L)) n)=SG c L n:=by
 induction n with
 |zero=>rfl
 |succ n ih=>rw[fO,bIq];simp only[bKc,ih];rfl
def bHz:bFU c (cu c L)=SG c L L:=bHS c L L
def F3:au f8->Int->Int->G.Z->Rt:=a6i c (SG c L L)
def e3:bF5 (xF aD5 c (cu c L))=F3 c L:=by rw[bIr];simp only[bHz];rfl
def c3(a:au f8)(b:Int)(d:Int)(f:G.Z)(L n:Nat):cA L (n+1) 3 [yS 15 a,yI b,yI d,yR 0 f]=F3 (cA L n) L a b d f:=by rw[<-e3];exact cz (x:=aD5) (by kernel_rfl) L n _
def bII(c:cG)(e:Cu):Kt:=xK aPs
def bIH:Kt:=xT aPs c e [1,1,1] (bII c e)
def aZO:Kt:=dM U0 0 (bIH c e)
def bGF(c:cG)(a:Int->(au (au UInt8))->Int->au G.S->G.Z->Rt)(b:G.Z):Rt:=
 a (am ([[120],[121],[122],[110]]:au (au UInt8)):Int) ([[120],[121],[122],[110]]:au (au UInt8)) 0 ([]:au G.S) b
def aSj(j:Int->(au (au UInt8))->Int->au G.S->G.Z->Rt)(f:Int)(g:(au (au UInt8)))(a:Int)(b:au G.S)(h:G.Z):Rt:=
 bW (ak (a<f)) (ob (dK g a) λl=>
 qF (c 15 [yT l]) λi=>
 tD (c 19 [yI 2,yR 0 h]) λd=>
 lZ (aq ((am b+am ([(G.S.mk i.1 d.1)]:au G.S))*144) 1073741824)<|
 j f g (ez.wrap (a+1)) (b++([(G.S.mk i.1 d.1)]:au G.S)) d.2.1) (aa [yS 17 b,yR 0 h])
def aRj(n:Nt):Int->(au (au UInt8))->Int->au G.S->G.Z->Rt:=λx0 x1 x2 x3 x4=>n [yI x0,⟨(.sl .str),x1⟩,yI x2,yS 17 x3,yR 0 x4]
def bFT:=aRj (xE aPs e (pw 6 11) Sg (aZO c e))
def bIo:aKh (xF aPs c e)=bGF c (bFT c e):=by kernel_rfl
def bIn(n1:Nt):aRj (xA aPs c e (pw 6 11) Sg (iL U0 Sg n1 (aZO c e)))=aSj c (aRj n1):=by kernel_rfl
def Xh(c:cG)(L:Nat):Nat->Int->(au (au UInt8))->Int->au G.S->G.Z->Rt
 |0=>λ_ _ _ _ _=>ae
 |n+1=>aSj c (Xh c L n)
def bHR(n:Nat):aRj (xL aPs c L (pw 6 11) Sg (aZO c (cu c L)) n)=Xh c L n:=by
 induction n with
 |zero=>rfl
 |succ n ih=>rw[fO,bIn];simp only[ih];rfl
def bHx:bFT c (cu c L)=Xh c L L:=bHR c L L
def F4:G.Z->Rt:=bGF c (Xh c L L)
def e4:aKh (xF aPs c (cu c L))=F4 c L:=by rw[bIo];simp only[bHx];rfl
def c4(a:G.Z)(L n:Nat):cA L (n+1) 4 [yR 0 a]=F4 (cA L n) L a:=by rw[<-e4];exact cz (x:=aPs) (by kernel_rfl) L n _
def bIG(c:cG)(e:Cu):Kt:=xK aHp
def bIF:Kt:=xT aHp c e [1,1,1] (bIG c e)
def aOj:Kt:=dM U0 0 (bIF c e)
def bAy(n1:Nt):Kt:=iL U0 Kc n1 (aOj c e)
def bGE(c:cG)(a:au f8->au f5->au G.S->Int->Bool->Rt)(b:au f8)(d:au f5)(f:au G.S):Rt:=
 a b d f 0 ah
def bF3(n:Nt):au f8->au f5->au G.S->Rt:=λx0 x1 x2=>n [yS 15 x0,yS 3 x1,yS 17 x2]
def aSi(g:Int->au f8->au f5->au G.S->Bool->Rt)(d:au f8)(a:au f5)(f:au G.S)(b:Int)(h:Bool):Rt:=
 bW (ak (b<(am a:Int))) (ob (dK a b) λj=>
 gO [.bool,.bool] (c 8 [yS 15 d,yR 3 j,yS 17 f]) λ(i:Bool×Bool×Unit)=>
 bW (!i.2.1) (aa [yB aj,yB aj]) (bW h (g b d a f i.1) (g b d a f aj))) (aa [yB h,yB ah])
def aKb(n:Nt):au f8->au f5->au G.S->Int->Bool->Rt:=λx0 x1 x2 x3 x4=>n [yS 15 x0,yS 3 x1,yS 17 x2,yI x3,yB x4]
def bFS:=aKb (xE aHp e (pw 6 11) Kc (aOj c e))
def aSh(c:cG)(a:au f8->au f5->au G.S->Int->Bool->Rt)(b:Int)(d:au f8)(f:au f5)(g:au G.S)(h:Bool):Rt:=
 a d f g (ez.wrap (b+1)) h
def bF2(n:Nt):Int->au f8->au f5->au G.S->Bool->Rt:=λx0 x1 x2 x3 x4=>n [yI x0,yS 15 x1,yS 3 x2,yS 17 x3,yB x4]
def a5A(n1:Nt):=bF2 (xD aHp e (pw 9 203) aIo (bAy c e n1))
def bIm:bF3 (xF aHp c e)=bGE c (bFS c e):=by kernel_rfl
def bIl(n1:Nt):aKb (xA aHp c e (pw 6 11) Kc (iL U0 Kc n1 (aOj c e)))=aSi c (a5A c e n1):=by kernel_rfl
def bIk(n1:Nt):bF2 (xA aHp c e (pw 9 203) aIo (bAy c e n1))=aSh c (aKb n1):=by kernel_rfl
def aK7(L:Nat)(n1:au f8->au f5->au G.S->Int->Bool->Rt):Int->au f8->au f5->au G.S->Bool->Rt:=aSh c n1
def bKb(n1:Nt):a5A c (cu c L) n1=aK7 c L (aKb n1):=by rw[a5A,cI,bIk];rfl
def OL(c:cG)(L:Nat):Nat->au f8->au f5->au G.S->Int->Bool->Rt
 |0=>λ_ _ _ _ _=>ae
 |n+1=>aSi c (aK7 c L (OL c L n))
def bHQ(n:Nat):aKb (xL aHp c L (pw 6 11) Kc (aOj c (cu c L)) n)=OL c L n:=by
 induction n with
 |zero=>rfl
 |succ n ih=>rw[fO,bIl];simp only[bKb,ih];rfl
def bHu:bFS c (cu c L)=OL c L L:=bHQ c L L
def F5:au f8->au f5->au G.S->Rt:=bGE c (OL c L L)
def e5:bF3 (xF aHp c (cu c L))=F5 c L:=by rw[bIm];simp only[bHu];rfl
def c5(a:au f8)(b:au f5)(d:au G.S)(L n:Nat):cA L (n+1) 5 [yS 15 a,yS 3 b,yS 17 d]=F5 (cA L n) L a b d:=by rw[<-e5];exact cz (x:=aHp) (by kernel_rfl) L n _
def bIE(c:cG)(e:Cu):Kt:=xK aPr
def bID:Kt:=xT aPr c e [1,1] (bIE c e)
def aZN:Kt:=dM U0 0 (bID c e)
def bGD(c:cG)(b:Int->au f5->au f5->Int->Rt)(a:au f5):Rt:=
 b (am a:Int) a a 0
def aSg(g:Int->au f5->au f5->Int->Rt)(b:Int)(d:au f5)(f:au f5)(a:Int):Rt:=
 bW (ak (a<b)) (ob (dK d a) λh=>
 ob (slc f 0 a) λi=>
 iO (c 9 [yS 3 i,yR 3 h]) λj=>
 bW (ak (j.1=2)) (aa [yB ah]) (g b d f (ez.wrap (a+1)))) (aa [yB aj])
def bFR:=DB (xE aPr e (pw 5 5) Sf (aZN c e))
def bIj:KA (xF aPr c e)=bGD c (bFR c e):=by kernel_rfl
def bIi(n1:Nt):DB (xA aPr c e (pw 5 5) Sf (iL U0 Sf n1 (aZN c e)))=aSg c (DB n1):=by kernel_rfl
def Xg(c:cG)(L:Nat):Nat->Int->au f5->au f5->Int->Rt
 |0=>λ_ _ _ _=>ae
 |n+1=>aSg c (Xg c L n)
def bHP(n:Nat):DB (xL aPr c L (pw 5 5) Sf (aZN c (cu c L)) n)=Xg c L n:=by
 induction n with
 |zero=>rfl
 |succ n ih=>rw[fO,bIi];simp only[ih];rfl
def bHt:bFR c (cu c L)=Xg c L L:=bHP c L L
def F6:au f5->Rt:=bGD c (Xg c L L)
def e6:KA (xF aPr c (cu c L))=F6 c L:=by rw[bIj];simp only[bHt];rfl
def c6(a:au f5)(L n:Nat):cA L (n+1) 6 [yS 3 a]=F6 (cA L n) L a:=by rw[<-e6];exact cz (x:=aPr) (by kernel_rfl) L n _
def bGB(f:au f8)(m:au f5)(o:G.Z):Rt:=
 gO [zS 3] (c 22 [yS 3 m]) λ(g:au f5×Unit)=>
 uP (c 18 [yR 0 o]) λa=>
 uP (c 23 [yS 15 f,yI 2,yR 0 a.2.1]) λb=>
 uP (c 17 [yS 15 f,yI 1,yR 0 b.2.1]) λd=>
 jE (c 11 [yT [99,111,110,115,112],yS 3 ([a.1]:au f5)]) λh=>
 jE (c 11 [yT [105,110,116,101,103,101,114,112],yS 3 ([a.1]:au f5)]) λi=>
 jE (c 11 [yT [115,121,109,98,111,108,112],yS 3 ([a.1]:au f5)]) λp=>
 jE (c 11 [yT [110,111,116],yS 3 ([p.1]:au f5)]) λj=>
 jE (c 21 [yI 0]) λq=>
 jE (c 11 [yT [101,113,117,97,108],yS 3 ([a.1,q.1]:au f5)]) λl=>
 lZ (aq ((am g.1+am ([a.1,b.1,d.1,h.1,i.1,j.1,l.1]:au f5))*176) 1073741824)<|
 some [yS 3 (g.1++([a.1,b.1,d.1,h.1,i.1,j.1,l.1]:au f5)),yR 0 d.2.1]
def bNq(n:Nt):au f8->au f5->G.Z->Rt:=λx0 x1 x2=>n [yS 15 x0,yS 3 x1,yR 0 x2]
def F7(L:Nat):au f8->au f5->G.Z->Rt:=bGB c
def e7:bNq (xF bKz c (cu c L))=F7 c L:=by kernel_rfl
def c7(a:au f8)(b:au f5)(d:G.Z)(L n:Nat):cA L (n+1) 7 [yS 15 a,yS 3 b,yR 0 d]=F7 (cA L n) L a b d:=by rw[<-e7];exact cz (x:=bKz) (by kernel_rfl) L n _
def bGz(b:au f8)(d:f5)(f:au G.S):Rt:=
 gO [.rc 2,i6,i6] (c 24 [yS 15 b,yR 3 d,yS 17 f,yI 2000]) λ(a:f6×Int×Int×Unit)=>
 eE (c 25 []) λg=>
 eP (c 26 [yR 2 a.1,yR 2 g.1]) λh=>
 aa [yB (!h.1),yB (ak (a.2.2.1=0))]
def bNp(n:Nt):au f8->f5->au G.S->Rt:=λx0 x1 x2=>n [yS 15 x0,yR 3 x1,yS 17 x2]
def F8(L:Nat):au f8->f5->au G.S->Rt:=bGz c
def e8:bNp (xF bKt c (cu c L))=F8 c L:=by kernel_rfl
def c8(a:au f8)(b:f5)(d:au G.S)(L n:Nat):cA L (n+1) 8 [yS 15 a,yR 3 b,yS 17 d]=F8 (cA L n) L a b d:=by rw[<-e8];exact cz (x:=bKt) (by kernel_rfl) L n _
def QW(c:cG)(e:Cu):Kt:=xK RO
def a95:Kt:=xT RO c e (pw 7 119) (QW c e)
def a94:Kt:=xT RO c e (pw 9 375) (QW c e)
def a6g(d:au f5->f5->Rt)(b:au f5)(a:f5):Rt:=
 bW (ak (a.kind=2)) (eP (c 27 [yR 2 a.value]) λg=>
 iO (c 28 [yB (!g.1)]) λh=>
 aa [yI h.1]) (eP (c 29 [yR 3 a,yT [110,111,116],yI 1]) λi=>
 bW i.1 (ob (dK a.args 0) λj=>
 iO (c 9 [yS 3 b,yR 3 j]) λf=>
 bW (ak (f.1=1)) (aa [yI 2]) (bW (ak (f.1=2)) (aa [yI 1]) (d b a))) (d b a))
def a6f(g:Bool->au f5->f5->Rt)(i:au f5->f5->Rt)(b:au f5)(a:f5):Rt:=
 eP (c 30 [yS 3 b,yR 3 a]) λj=>
 bW j.1 (aa [yI 1]) (jE (c 31 [yR 3 a]) λl=>
 eP (c 30 [yS 3 b,yR 3 l.1]) λm=>
 bW m.1 (aa [yI 2]) (eP (c 29 [yR 3 a,yT [101,113,117,97,108],yI 2]) λo=>
 bW o.1 (ob (dK a.args 0) λd=>
 ob (dK a.args 1) λf=>
 jE (c 32 [yR 3 f,yR 3 d]) λh=>
 eP (c 30 [yS 3 b,yR 3 h.1]) λp=>
 bW p.1 (aa [yI 1]) (jE (c 31 [yR 3 h.1]) λq=>
 eP (c 30 [yS 3 b,yR 3 q.1]) λs=>
 bW s.1 (aa [yI 2]) (eP (c 33 [yR 3 d,yR 3 f]) λt=>
 bW t.1 (aa [yI 1]) (bW (ak (d.kind=2)) (g (ak (f.kind=2)) b a) (g aj b a))))) (i b a)))
def a5z:=pR (xD RO e (pw 4 7) aIn (QW c e))
def a6e(c:cG)(a:au f5->f5->Rt)(b:Bool)(d:au f5)(f:f5):Rt:=
 bW b (aa [yI 2]) (a d f)
def a5y:=aRi (xD RO e (pw 14 7863) aIm (a95 c e))
def a6d(c:cG)(b:Bool->au f5->f5->Rt)(d:au f5)(a:f5):Rt:=
 bW (ak (a.kind=3)) (b (ak ((am a.args:Int)=1)) d a) (b aj d a)
def aRg:=pR (xD RO e (pw 8 119) aIl (QW c e))
def aSf(d:au f5->f5->Rt)(h:Bool)(b:au f5)(a:f5):Rt:=
 bW h (xI (c 34 [yR 1 a.name]) λf=>
 bW f.2.1 (ob (dK a.args 0) λi=>
 iO (c 35 [yS 3 b,yR 3 i]) λg=>
 bW (ak ((ez.wrap ((BitVec.ofInt ez.bits g.1&&& ~~~ BitVec.ofInt ez.bits f.1).toNat:Int))=0)) (aa [yI 1]) (bW (ak ((ez.wrap ((BitVec.ofInt ez.bits g.1&&&BitVec.ofInt ez.bits f.1).toNat:Int))=0)) (aa [yI 2]) (d b a))) (d b a)) (d b a)
def a5x:=aRi (xD RO e (pw 11 631) aIk (a94 c e))
def a6c(b:au f5)(d:f5):Rt:=
 iO (c 35 [yS 3 b,yR 3 d]) λa=>
 bW (ak ((ez.wrap ((BitVec.ofInt ez.bits a.1&&&BitVec.ofInt ez.bits 32).toNat:Int))=0)) (aa [yI 1]) (bW (ak (a.1=32)) (aa [yI 2]) (aa [yI 0]))
def a5w:=pR (xD RO e (pw 10 375) aIj (QW c e))
def bIh:pR (xF RO c e)=a6g c (a5z c e):=by kernel_rfl
def bIg:pR (xA RO c e (pw 4 7) aIn (QW c e))=a6f c (a5y c e) (aRg c e):=by kernel_rfl
def bIf:aRi (xA RO c e (pw 14 7863) aIm (a95 c e))=a6e c (aRg c e):=by kernel_rfl
def bIe:pR (xA RO c e (pw 8 119) aIl (QW c e))=a6d c (a5x c e):=by kernel_rfl
def bId:aRi (xA RO c e (pw 11 631) aIk (a94 c e))=aSf c (a5w c e):=by kernel_rfl
def bIc:pR (xA RO c e (pw 10 375) aIj (QW c e))=a6c c:=by kernel_rfl
def aRu(L:Nat):au f5->f5->Rt:=a6c c
def bJ7:a5w c (cu c L)=aRu c L:=by rw[a5w,cI,bIc];rfl
def aKY:Bool->au f5->f5->Rt:=aSf c (aRu c L)
def bJ8:a5x c (cu c L)=aKY c L:=by rw[a5x,cI,bId];simp only[bJ7];rfl
def aKZ:au f5->f5->Rt:=a6d c (aKY c L)
def bCJ:aRg c (cu c L)=aKZ c L:=by rw[aRg,cI,bIe];simp only[bJ8];rfl
def aRv:Bool->au f5->f5->Rt:=a6e c (aKZ c L)
def bJ9:a5y c (cu c L)=aRv c L:=by rw[a5y,cI,bIf];simp only[bCJ];rfl
def aRw:au f5->f5->Rt:=a6f c (aRv c L) (aKZ c L)
def bKa:a5z c (cu c L)=aRw c L:=by rw[a5z,cI,bIg];simp only[bJ9,bCJ];rfl
def F9:au f5->f5->Rt:=a6g c (aRw c L)
def e9:pR (xF RO c (cu c L))=F9 c L:=by rw[bIh];simp only[bKa];rfl
def c9(a:au f5)(b:f5)(L n:Nat):cA L (n+1) 9 [yS 3 a,yR 3 b]=F9 (cA L n) L a b:=by rw[<-e9];exact cz (x:=RO) (by kernel_rfl) L n _
def bAU(c:cG)(e:Cu):Kt:=xK L7
def bAT:Kt:=xT L7 c e (pw 4 15) (bAU c e)
def aF4:Kt:=dM U0 0 (bAT c e)
def aMU(a:au f6->Int->au f8->Rt):Rt:=
 gO [zS 2] (c 38 []) λ(b:au f6×Unit)=>
 a b.1 0 ([]:au f8)
def KM(i:au f6->Int->au f8->Rt)(b:au f6)(d:Int)(a:au f8):Rt:=
 bW (ak (d<(am b:Int))) (ob (dK b d) λj=>
 gO [.rc 15] (c 39 [yS 15 a,yR 2 j]) λ(f:f8×Unit)=>
 lZ (aq ((am a+am ([f.1]:au f8))*568) 1073741824)<|
 i b (ez.wrap (d+1)) (a++([f.1]:au f8))) (qF (c 40 [yT [117,115,101,114,45,112,97,99,107,97,103,101]]) λg=>
 gO [zS 1] (c 41 []) λ(h:au f7×Unit)=>
 lZ (aq ((am a+am ([(G.E.mk 1 g.1 (G.A.mk [117,115,101,114] h.1) (G.M.mk DE ([]:au f7) aj Tg) ([]:au G.F) ([]:au f5) ([]:au (au G.N)) ([]:au f8) (G.B.mk DE ([]:au G.D)) ([]:au G.U) ([]:au f7) ([]:au f7) [] 0)]:au f8))*568) 1073741824)<|
 some [yS 15 (a++([(G.E.mk 1 g.1 (G.A.mk [117,115,101,114] h.1) (G.M.mk DE ([]:au f7) aj Tg) ([]:au G.F) ([]:au f5) ([]:au (au G.N)) ([]:au f8) (G.B.mk DE ([]:au G.D)) ([]:au G.U) ([]:au f7) ([]:au f7) [] 0)]:au f8))])
def aBP(n:Nt):au f6->Int->au f8->Rt:=λx0 x1 x2=>n [yS 2 x0,yI x1,yS 15 x2]
def aT0:=aBP (xE L7 e (pw 7 23) Gx (aF4 c e))
def a9T:qR (xF L7 c e)=aMU c (aT0 c e):=by kernel_rfl
def a9S(n1:Nt):aBP (xA L7 c e (pw 7 23) Gx (iL U0 Gx n1 (aF4 c e)))=KM c (aBP n1):=by kernel_rfl
def vX(c:cG)(L:Nat):Nat->au f6->Int->au f8->Rt
 |0=>λ_ _ _=>ae
 |n+1=>KM c (vX c L n)
def a72(n:Nat):aBP (xL L7 c L (pw 7 23) Gx (aF4 c (cu c L)) n)=vX c L n:=by
 induction n with
 |zero=>rfl
 |succ n ih=>rw[fO,a9S];simp only[ih];rfl
def a7D:aT0 c (cu c L)=vX c L L:=a72 c L L
def bHl:Rt:=aMU c (vX c L L)
def e12:qR (xF L7 c (cu c L))=bHl c L:=by rw[a9T];simp only[a7D];rfl
def bOQ(L n:Nat):cA L (n+1) 12 []=bHl (cA L n) L:=by rw[<-e12];exact cz (x:=L7) (by kernel_rfl) L n _
def bAS(c:cG)(e:Cu):Kt:=xK RQ
def aS9:Kt:=xT RQ c e [1,1] (bAS c e)
def aMA(c:cG)(d:Bool->Int->G.Z->Rt)(b:Int)(a:G.Z):Rt:=
 bW (ak ((am a.b:Int)<=a.pos)) (d ah b a) (d (ak (b<1)) b a)
def aMz(c:cG)(d:Bool)(b:Int)(a:G.Z):Rt:=
 bW d (aa [yI 0,yR 0 a]) (ob (dK a.b (ez.wrap ((ez.wrap (a.pos+1))-1))) λf=>
 lZ (!decide (b=0))<|
 some [yI (Int.tmod (ez.wrap f) b),yR 0 (G.Z.mk a.b (ez.wrap (a.pos+1)))])
def aUv(n:Nt):Bool->Int->G.Z->Rt:=λx0 x1 x2=>n [yB x0,yI x1,yR 0 x2]
def aJO:=aUv (xD RQ e (pw 4 5) Vq (aS9 c e))
def a9R:aBN (xF RQ c e)=aMA c (aJO c e):=by kernel_rfl
def a9Q:aUv (xA RQ c e (pw 4 5) Vq (aS9 c e))=aMz c:=by kernel_rfl
def aLc(L:Nat):Bool->Int->G.Z->Rt:=aMz c
def bDn:aJO c (cu c L)=aLc c L:=by rw[aJO,cI,a9Q];rfl
def bNT:Int->G.Z->Rt:=aMA c (aLc c L)
def e16:aBN (xF RQ c (cu c L))=bNT c L:=by rw[a9R];simp only[bDn];rfl
def c16(a:Int)(b:G.Z)(L n:Nat):cA L (n+1) 16 [yI a,yR 0 b]=bNT (cA L n) L a b:=by rw[<-e16];exact cz (x:=RQ) (by kernel_rfl) L n _
end
structure dN(s:G.Z):Prop where
 b: ∀x∈s.b,0<=x/\x<256
 p0:0<=s.pos
 p1:s.pos<=(s.b.length:Int)
 l:s.b.length<=100
def bNv(x:Rt)(a:Int):Prop:= ∃(r:Int) (s:G.Z),x=aa [yI r,yR 0 s]/\0<=r/\r<a/\dN s
def lI{W:Type}{a:Int}{b:G.Z}{K:Int×G.Z×Unit->f9 W}:Am (aa [yI a,yR 0 b]) K=K (a,b,()):=rfl
def bGi{s:G.Z}{a:Int}{L n:Nat}(h:dN s)(h1:1<=a):bNv (cA L (n+1) 16 [yI a,yR 0 s]) a:=by
 rw[c16,bNT,aMA];cases e1:ak ((s.b.length:Int)<=s.pos)with
 |true=>exact⟨0,s,rfl,oc _,by omega,h⟩
 |false=>
  have e2:ak (a<(1:Int))=aj:=by simp;omega
  simp only[bD]at e1;rw[bS,e2,aLc,aMz,bS];obtain⟨k,hk⟩: ∃k:Nat,s.pos=(k:Int):=⟨s.pos.toNat,by have:=h.p0;omega⟩
  have hl:=h.l;have hkl:k<s.b.length:=by omega
  have e3:s.b[k]?=aa s.b[k]:=aV hkl;obtain⟨q1,q2⟩:=h.b s.b[k] (List.getElem_mem hkl);generalize s.b[k]=v at e3 q1 q2;have e4:ez.wrap (((k+1:Nat):Int)-1)=(k:Int):=by
   rw[show((k+1:Nat):Int)-1=(k:Int) by omega];exact aEe (by omega)
  obtain⟨m,rfl⟩: ∃m:Nat,v=(m:Int):=⟨v.toNat,by omega⟩
  rw[hk,eV (by omega),e4,cH,e3,cR,show ak (a=0)=aj by simp;omega]
  simp only[b9,fN];rw[aEe (by omega)]
  exact⟨_,_,rfl,Int.tmod_nonneg _ q1,Int.tmod_lt_of_pos _ (by omega),⟨h.b,by show(0:Int)<=((k+1:Nat):Int);omega,by show((k+1:Nat):Int)<=(s.b.length:Int);omega,h.l⟩⟩
def Qs(e:f8):au G.F:=bif ak (e.kind=3)||ak (e.kind=5)||ak (e.kind=6)||ak (e.kind=7)then e.functions else []
def aUG(e:f8)(L n:Nat):cA L (n+1) 113 [yR 15 e]=aa [yS 4 (Qs e)]:=by
 rw[a4Z];simp only[aLx,Qh,PJ,Qg,Qs];generalize ak (e.kind=3)=a,ak (e.kind=5)=b,ak (e.kind=6)=d,ak (e.kind=7)=f;cases a<;>cases b<;>cases d<;>cases f<;>rfl
def bGd(E:au f8)(x:Rt):Prop:= ∃(i k:Int) (b:Bool),x=aa [yI i,yI k,yB b]/\(b=ah->∃(i' k':Nat) (e:f8),i=i'/\k=k'/\E[i']?=aa e/\k'<(Qs e).length)
def aGP{W:Type}{a:au G.F}{K:au G.F×Unit->f9 W}:gO (D:=U0.D) [.sl (.rc 4)] (aa [yS 4 a]) K=K (a,()):=rfl
def bGc{E:au f8}{f:f7}{c:cG}{L:Nat}{n1:au f8->Int->f7->Rt}{i:Nat}{e:f8}(he:E[i]?=aa e)(hb:(Qs e).length<1000000000)(hn:bGd E (n1 E (ez.wrap ((i:Int)+1)) f)):
    ∀(r:au G.F) (k m:Nat),(Qs e).drop k=r->r.length<m->bGd E (sG c L n1 m (Qs e) (k:Int) (i:Int) E f):=by
 intro r;induction r with
 |nil=>
  intro k m h1 h2;obtain⟨m,rfl⟩:=sK m 1 (by simp at h2;omega)
  have e1:=cX h1;have e3:ak ((k:Int)<((Qs e).length:Int))=aj:=by simp;omega
  rw[sG,Df,e3,bS];exact hn
 |cons x r ih=>
  intro k m h1 h2;obtain⟨m,rfl⟩:=sK m 1 (by simp at h2;omega)
  obtain⟨a1,a2,a3⟩:=cZ h1;have e3:ak ((k:Int)<((Qs e).length:Int))=ah:=by simp;omega
  rw[sG,Df,e3,bV,cH,a1,cR,eV (by omega)]
  cases ak (x.name=f)with
  |true=>exact⟨_,_,ah,rfl,λ_=>⟨i,k,e,rfl,rfl,he,a2⟩⟩
  |false=>exact ih (k+1) m a3 (by simp at h2;omega)
def a5L{E:au f8}{f:f7}{c:cG}{L:Nat}(hb:E.length<1000000)(hf: ∀e∈E,(Qs e).length<L/\(Qs e).length<1000000)(hc: ∀e:f8,c 113 [yR 15 e]=aa [yS 4 (Qs e)]):
    ∀(r:au f8) (k m:Nat),E.drop k=r->r.length<m->bGd E (qQ c L m E (k:Int) f):=by
 intro r;induction r with
 |nil=>
  intro k m h1 h2;obtain⟨m,rfl⟩:=sK m 1 (by simp at h2;omega)
  have e1:=cX h1;have e3:ak ((k:Int)<(E.length:Int))=aj:=by simp;omega
  rw[qQ,Dg,e3,bS];exact⟨0,0,aj,rfl,λh=>by cases h⟩
 |cons x r ih=>
  intro k m h1 h2;obtain⟨m,rfl⟩:=sK m 1 (by simp at h2;omega)
  obtain⟨a1,a2,a3⟩:=cZ h1;have e3:ak ((k:Int)<(E.length:Int))=ah:=by simp;omega
  rw[qQ,Dg,e3,bV,cH,a1,cR,hc,aGP];obtain⟨g1,g2⟩:=hf x (ef a1);refine bGc a1 (by omega) ?_ (Qs x) 0 L rfl g1
  rw[eV (by omega)]
  exact ih (k+1) m a3 (by simp at h2;omega)
structure a5H(E:List f8):Prop where
 l:E.length<=1000
 f: ∀e∈E,e.functions.length<=1000
 p: ∀e∈E,∀f∈e.functions,f.params.length<=3
def aPB{e:f8}{f:G.F}(h:f∈Qs e):f∈e.functions:=by
 unfold Qs at h;revert h;cases ak (e.kind=3)||ak (e.kind=5)||ak (e.kind=6)||ak (e.kind=7)with
 |true=>exact id
 |false=>intro h;cases h
def aPC(e:f8):(Qs e).length<=e.functions.length:=by
 unfold Qs;cases ak (e.kind=3)||ak (e.kind=5)||ak (e.kind=6)||ak (e.kind=7)with
 |true=>exact aS _
 |false=>exact b7 _
def a1x{W:Type}{a b:Int}{d:Bool}{K:Int×Int×Bool×Unit->f9 W}:gO (D:=U0.D) [.int .i64,.int .i64,.bool] (aa [yI a,yI b,yB d]) K=K (a,b,d,()):=rfl
def a1D{W:Type}{a:G.F}{d:Bool}{K:G.F×Bool×Unit->f9 W}:gO (D:=U0.D) [.rc 4,.bool] (aa [yR 4 a,yB d]) K=K (a,d,()):=rfl
def bGl{E:au f8}(hE:a5H E)(f:f7){L n:Nat}(hL:2000<=L): ∃(g:G.F) (b:Bool),cA L (n+3) 85 [yS 15 E,yR 1 f]=aa [yR 4 g,yB b]/\g.params.length<=3:=by
 have h94:bGd E (cA L (n+2) 112 [yS 15 E,yR 1 f]):=by
  show bGd E (cA L (n+1+1) 112 _);rw[a40,aLy,Qi];have:=hE.l;exact a5L (by omega) (λe he=>by have:=hE.f e he;have:=aPC e;omega) (λe=>aUG e L n) E 0 L rfl (by omega)
 obtain⟨i,k,b,h94,hb⟩:=h94;show∃(g:G.F) (b:Bool),cA L (n+2+1) 85 _=_/\_;rw[bM0,bGo,aLU,h94,a1x];cases b with
 |false=>exact⟨_,_,rfl,b7 _⟩
 |true=>
  obtain⟨i',k',e,rfl,rfl,h1,h2⟩:=hb rfl;have h3:(Qs e)[k']?=aa (Qs e)[k']:=aV h2;simp only[bE,bS];rw[cH,h1,cR,aUG,aGP];simp only[cH,h3,cR];exact⟨_,_,rfl,hE.p e (ef h1) _ (aPB (List.getElem_mem h2))⟩
def aOc:(rowsL.all λr=>decide (0<=r.arity)&&ak (r.arity<=3))=ah:=by kernel_rfl
def Kv: ∀(l:au G.R),(l.all λr=>decide (0<=r.arity)&&ak (r.arity<=3))=ah->∀s k,lP s l=aa k->0<=k/\k<=3
 |[],_,s,k,h=>by cases h
 |r::l,h,s,k,hk=>by
  simp only[aP,aC,aD]at h;simp only[lP]at hk;split at hk
  .simp only[aA]at hk;subst hk;exact h.1
  .exact Kv l h.2 s k hk
def bGI(x:Rt):Prop:= ∃(k:Nat) (b:Bool),x=aa [yI (k:Int),yB b]/\k<=3
def bGH{E:au f8}(hE:a5H E)(f:f7){L n:Nat}(hL:2000<=L):bGI (cA L (n+4) 62 [yS 15 E,yR 1 f]):=by
 have bKV:=YS f L (n+1) (by omega)
 show bGI (cA L (n+3+1) 62 _);rw[bM1,bGq,aMa];show bGI (xI (cA L (n+1+2) 84 [yR 1 f]) _);rw[bKV];cases ha:arity f with
 |some k=>
  obtain⟨g1,g2⟩:0<=k/\k<=3:=by
   unfold arity at ha;split at ha
   .exact Kv rowsL aOc _ _ ha
   .cases ha
  obtain⟨m,rfl⟩: ∃m:Nat,k=(m:Int):=⟨k.toNat,by omega⟩
  exact⟨m,ah,rfl,by omega⟩
 |none=>
  simp only[oI];rw[rY,bS];obtain⟨g,b,h1,h2⟩:=bGl (n:=n) hE f hL;rw[h1,a1D];cases b with
  |false=>exact⟨0,aj,rfl,by omega⟩
  |true=>exact⟨g.params.length,ah,rfl,h2⟩
def aIv{t u:Ty}{x:Den U0.D t}{y:Den U0.D u}(h:Vr t u x=aa y):(⟨t,x⟩:TV U0.D)=⟨u,y⟩:=by
 unfold Vr at h;split at h
 .rename_i e _;subst e;simp only[aA]at h;subst h;rfl
 .cases h
def Sn: ∀{ts:au Ty} {d:nO} {r:DenL U0.D ts},fY ts d=aa r->d=aNi ts r
 |[],[],_,_=>rfl
 |[],_::_,_,h=>by cases h
 |_::_,[],_,h=>by cases h
 |t::ts,v::d,r,h=>by
  simp only[fY]at h;split at h
  .rename_i x q h1 h2;simp only[aA]at h;subst h;show v::d=⟨t,x⟩::aNi ts q;rw[<-Sn h2,<-aIv h1]
  .cases h
def hx(ts:au Ty)(d:nO)(K:DenL U0.D ts->Rt)(z:Rt):Rt:=match fY ts d with|some r=>K r|none=>z
def bEe{ts:au Ty}{d:nO}{K:DenL U0.D ts->Rt}{z:Rt}(h: ∀r,d=aNi ts r->K r=z):hx ts d K z=z:=by
 unfold hx;split
 .rename_i r e;exact h r (Sn e)
 .rfl
def Hk(i:Nat)(h:cG->Nat->nO->Rt->Rt)(L m:Nat)(d:nO):Prop:=h (cA L m) L d (cA L (m+1) i d)=cA L (m+1) i d
def evq{b:Bool}{x y z:Rt}(h1:b=ah->x=z)(h2:y=z):(bif b then x else y)=z:=by cases b;exact h2;exact h1 rfl
def evc{b:Bool}{x y z:Rt}(h1:x=z)(h2:y=z):(bif b then x else y)=z:=by cases b;exact h2;exact h1
def hG(i:Nat)(c:cG)(L:Nat)(d:nO)(z:Rt):Rt:=
 match tP insL i with
 |some x=>bif ao x.sig.f orcI.n||ao x.sig.f orcI.m then z else xF x c (cu c L) d
 |none=>z
def bEh(i L m:Nat)(d:nO):hG i (cA L m) L d (cA L (m+1) i d)=cA L (m+1) i d:=by
 unfold hG;split
 .rename_i x hx;cases hb:ao x.sig.f orcI.n||ao x.sig.f orcI.m with
  |true=>rfl
  |false=>exact(cg hx hb L m d).symm
 .rfl
structure HE where
 i:Nat
 h:cG->Nat->nO->Rt->Rt
 ok: ∀L m d,Hk i h L m d
def mH(i:Nat)(ts:au Ty)(F:cG->Nat->DenL U0.D ts->Rt)(ok: ∀(L m:Nat) (r:DenL U0.D ts),cA L (m+1) i (aNi (D:=U0.D) ts r)=F (cA L m) L r):HE:=
 ⟨i,λc L d z=>hx ts d (F c L) z,λL m d=>bEe λr e=>e▸(ok L m r).symm⟩
abbrev HF:=Nat->cG->Nat->nO->Rt->Rt
def bGh(f:HF):Prop:= ∀(i L m:Nat) (d:nO),f i (cA L m) L d (cA L (m+1) i d)=cA L (m+1) i d
def iP:HF:=hG
def cN:bGh iP:=bEh
def iR(x:HE)(l r:HF):HF:=λi c L d z=>bif ao i x.i then x.h c L d z else bif Nat.blt i x.i then l i c L d z else r i c L d z
def cP{x:HE}{l r:HF}(hl:bGh l)(hr:bGh r):bGh (iR x l r):=λi L m d=>
 evq (λe=>by rw[aE e];exact x.ok L m d) (evc (hl i L m d) (hr i L m d))
noncomputable section
def h2:=mH 2 [(.int .u32)] (λc L r=>F2 c L r.1) λL m r=>c2 r.1 L m
def aPv:=mH 12 [] (λc L _=>bHl c L) λL m _=>bOQ L m
def bKW:=mH 21 [i6] (λc L r=>bHi c L r.1) λL m r=>bOP r.1 L m
def bEk:=mH 24 [zS 15,.rc 3,zS 17,i6] (λc L r=>bGs c L r.1 r.2.1 r.2.2.1 r.2.2.2.1) λL m r=>bM4 r.1 r.2.1 r.2.2.1 r.2.2.2.1 L m
def bEj:=mH 25 [] (λc L _=>bHg c L) λL m _=>bOO L m
def bEi:=mH 26 [.rc 2,.rc 2] (λc L r=>a6P c L r.1 r.2.1) λL m r=>bM3 r.1 r.2.1 L m
def h38:=mH 38 [] (λc L _=>bGr c L) λL m _=>bON L m
def h40:=mH 40 [.str] (λc L r=>bHf c L r.1) λL m r=>bM2 r.1 L m
def h51:=mH 51 [] (λc L _=>bHe c L) λL m _=>bOM L m
def h52:=mH 52 [i6] (λc L r=>bHd c L r.1) λL m r=>bOL r.1 L m
def h53:=mH 53 [.str,.str] (λc L r=>bHc c L r.1 r.2.1) λL m r=>bOK r.1 r.2.1 L m
def h54:=mH 54 [.rc 1] (λc L r=>bHb c L r.1) λL m r=>bOJ r.1 L m
def bKV:=mH 55 [.str] (λc L r=>bHa c L r.1) λL m r=>bOI r.1 L m
def h56:=mH 56 [.rc 2,.rc 2] (λc L r=>bG9 c L r.1 r.2.1) λL m r=>bOH r.1 r.2.1 L m
def h59:=mH 59 [] (λc L _=>bNJ c L) λL m _=>c59 L m
def h60:=mH 60 [] (λc L _=>bNI c L) λL m _=>c60 L m
def h62:=mH 62 [zS 15,.rc 1] (λc L r=>bGq c L r.1 r.2.1) λL m r=>bM1 r.1 r.2.1 L m
def h63:=mH 63 [.rc 3,zS 17,.rc 18] (λc L r=>aLs c L r.1 r.2.1 r.2.2.1) λL m r=>aQO r.1 r.2.1 r.2.2.1 L m
def h68:=mH 68 [.rc 1] (λc L r=>bG8 c L r.1) λL m r=>bOF r.1 L m
def h70:=mH 70 [.rc 1] (λc L r=>bG7 c L r.1) λL m r=>bOE r.1 L m
def a3U:=mH 73 [] (λc L _=>bND c L) λL m _=>bOD L m
def h74:=mH 74 [] (λc L _=>bNC c L) λL m _=>bOC L m
def h75:=mH 75 [zS 5,.str,.str] (λc L r=>bGp c L r.1 r.2.1 r.2.2.1) λL m r=>bOB r.1 r.2.1 r.2.2.1 L m
def h81:=mH 81 [i6] (λc L r=>bNB c L r.1) λL m r=>c81 r.1 L m
def h82:=mH 82 [.str,.str] (λc L r=>bG5 c L r.1 r.2.1) λL m r=>bOA r.1 r.2.1 L m
def h84:=mH 84 [.rc 1] (λc L r=>bG4 c L r.1) λL m r=>bOz r.1 L m
def h85:=mH 85 [zS 15,.rc 1] (λc L r=>bGo c L r.1 r.2.1) λL m r=>bM0 r.1 r.2.1 L m
def h86:=mH 86 [zS 17,.rc 1] (λc L r=>bGn c L r.1 r.2.1) λL m r=>bOy r.1 r.2.1 L m
def h87:=mH 87 [.rc 3,.str,i6] (λc L r=>bG3 c L r.1 r.2.1 r.2.2.1) λL m r=>bOx r.1 r.2.1 r.2.2.1 L m
def h88:=mH 88 [.rc 2] (λc L r=>bG2 c L r.1) λL m r=>bOw r.1 L m
def h89:=mH 89 [.rc 1,zS 2] (λc L r=>a5S c L r.1 r.2.1) λL m r=>bE7 r.1 r.2.1 L m
def h90:=mH 90 [zS 1,zS 2] (λc L r=>bGm c L r.1 r.2.1) λL m r=>bOv r.1 r.2.1 L m
def h98:=mH 98 [i6,.rc 22] (λc L r=>bNx c L r.1 r.2.1) λL m r=>c98 r.1 r.2.1 L m
def h99:=mH 99 [.rc 2] (λc L r=>bG0 c L r.1) λL m r=>bOu r.1 L m
def bLJ:=mH 100 [.rc 2] (λc L r=>aSb c L r.1) λL m r=>bFK r.1 L m
def bLI:=mH 101 [.rc 2] (λc L r=>aSa c L r.1) λL m r=>bFJ r.1 L m
def bLH:=mH 104 [] (λc L _=>a57 c L) λL m _=>bFI L m
def bLG:=mH 107 [.str] (λc L r=>aR9 c L r.1) λL m r=>bFH r.1 L m
def bLF:=mH 108 [.str,.str] (λc L r=>aR8 c L r.1 r.2.1) λL m r=>bFG r.1 r.2.1 L m
def bLE:=mH 109 [.sl i6,.sl i6] (λc L r=>aR7 c L r.1 r.2.1) λL m r=>bFF r.1 r.2.1 L m
def bLD:=mH 110 [.bool,.sl i6] (λc L r=>aR6 c L r.1 r.2.1) λL m r=>bFE r.1 r.2.1 L m
def bLC:=mH 112 [zS 15,.rc 1] (λc L r=>aLy c L r.1 r.2.1) λL m r=>a40 r.1 r.2.1 L m
def bLB:=mH 113 [.rc 15] (λc L r=>aLx c L r.1) λL m r=>a4Z r.1 L m
def bLA:=mH 114 [.str,.rc 2] (λc L r=>aLw c L r.1 r.2.1) λL m r=>a4Y r.1 r.2.1 L m
def bLz:=mH 115 [.str,.rc 2,.rc 2] (λc L r=>aDW c L r.1 r.2.1 r.2.2.1) λL m r=>aQP r.1 r.2.1 r.2.2.1 L m
def bLy:=mH 116 [.rc 2] (λc L r=>aLv c L r.1) λL m r=>a4X r.1 L m
def bLx:=mH 123 [i6,.rc 22] (λc L r=>a52 c L r.1 r.2.1) λL m r=>bNi r.1 r.2.1 L m
def bLw:=mH 124 [zS 5,.str,.str] (λc L r=>a50 c L r.1 r.2.1 r.2.2.1) λL m r=>bNh r.1 r.2.1 r.2.2.1 L m
def bLv:=mH 125 [.rc 2,i6] (λc L r=>aR4 c L r.1 r.2.1) λL m r=>bFD r.1 r.2.1 L m
def bLu:=mH 131 [zS 15,.rc 1] (λc L r=>a5Z c L r.1 r.2.1) λL m r=>bNf r.1 r.2.1 L m
def bLt:=mH 139 [.str] (λc L r=>aR3 c L r.1) λL m r=>bFC r.1 L m
def bLs:=mH 140 [.sl i6] (λc L r=>aR2 c L r.1) λL m r=>bFB r.1 L m
def bLr:=mH 141 [.sl i6,.sl i6] (λc L r=>aR1 c L r.1 r.2.1) λL m r=>bFA r.1 r.2.1 L m
def bLq:=mH 142 [.sl i6,.sl i6] (λc L r=>aR0 c L r.1 r.2.1) λL m r=>bFz r.1 r.2.1 L m
def bLp:=mH 143 [.rc 2] (λc L r=>aRZ c L r.1) λL m r=>bFy r.1 L m
def bLo:=mH 144 [.bool] (λc L r=>aRY c L r.1) λL m r=>bFx r.1 L m
def bLn:=mH 145 [.rc 2] (λc L r=>aRX c L r.1) λL m r=>bFw r.1 L m
def bLm:=mH 146 [.rc 2] (λc L r=>aRW c L r.1) λL m r=>bFv r.1 L m
def bLl:=mH 147 [.rc 2] (λc L r=>aRV c L r.1) λL m r=>bFu r.1 L m
def bLk:=mH 148 [.str,.str] (λc L r=>aRU c L r.1 r.2.1) λL m r=>bFt r.1 r.2.1 L m
def bLj:=mH 149 [.rc 2] (λc L r=>aRT c L r.1) λL m r=>bFs r.1 L m
def bLi:=mH 150 [.rc 2] (λc L r=>aRS c L r.1) λL m r=>bFr r.1 L m
def bLh:=mH 151 [.rc 2,.rc 2] (λc L r=>aRR c L r.1 r.2.1) λL m r=>bFq r.1 r.2.1 L m
def bLg:=mH 152 [.rc 2,.rc 2] (λc L r=>aRQ c L r.1 r.2.1) λL m r=>bFp r.1 r.2.1 L m
def bLf:=mH 153 [.rc 2,.rc 2] (λc L r=>aRP c L r.1 r.2.1) λL m r=>bFo r.1 r.2.1 L m
def bLe:=mH 154 [.rc 1] (λc L r=>aRO c L r.1) λL m r=>bFn r.1 L m
def bLd:=mH 155 [.rc 2,.rc 2] (λc L r=>aRN c L r.1 r.2.1) λL m r=>bFm r.1 r.2.1 L m
def bLc:=mH 156 [.rc 2] (λc L r=>aLt c L r.1) λL m r=>a4V r.1 L m
def bLb:=mH 165 [.rc 21,.bool] (λc L r=>aRM c L r.1 r.2.1) λL m r=>bFl r.1 r.2.1 L m
def bLa:=mH 169 [.str] (λc L r=>aRL c L r.1) λL m r=>bFk r.1 L m
def bK9:=mH 171 [.str] (λc L r=>aRK c L r.1) λL m r=>bFj r.1 L m
def bK8:=mH 172 [zS 5,.str] (λc L r=>a5T c L r.1 r.2.1) λL m r=>bM8 r.1 r.2.1 L m
def bK7:=mH 179 [.str] (λc L r=>aRJ c L r.1) λL m r=>bFi r.1 L m
def bK6:=mH 180 [.sl i6,.sl i6] (λc L r=>aRI c L r.1 r.2.1) λL m r=>bFh r.1 r.2.1 L m
def bK5:=mH 181 [.str] (λc L r=>aRH c L r.1) λL m r=>bFg r.1 L m
def bK4:=mH 182 [.str,.str] (λc L r=>aRG c L r.1 r.2.1) λL m r=>bFf r.1 r.2.1 L m
def bK3:=mH 183 [.str,.str] (λc L r=>aRF c L r.1 r.2.1) λL m r=>bFe r.1 r.2.1 L m
def bK2:=mH 184 [.rc 2,.rc 2] (λc L r=>aRE c L r.1 r.2.1) λL m r=>bFd r.1 r.2.1 L m
def bK1:=mH 185 [.rc 1] (λc L r=>aRD c L r.1) λL m r=>bFc r.1 L m
def bK0:=mH 200 [.sl i6,.sl i6] (λc L r=>aRC c L r.1 r.2.1) λL m r=>bFb r.1 r.2.1 L m
def bKZ:=mH 201 [.rc 2] (λc L r=>aRB c L r.1) λL m r=>bFa r.1 L m
def bKY:=mH 202 [.str,.str] (λc L r=>aRA c L r.1 r.2.1) λL m r=>bE9 r.1 r.2.1 L m
def bKX:=mH 205 [.str] (λc L r=>aRz c L r.1) λL m r=>bE8 r.1 L m
def a3T:HF:=(iR bLC (iR a3U (iR h53 (iR bEi (iR bKW (iR aPv (iR h2 iP iP) iP) (iR bEj (iR bEk iP iP) iP)) (iR h51 (iR h40 (iR h38 iP iP) iP) (iR h52 iP iP))) (iR h60 (iR h56 (iR bKV (iR h54 iP iP) iP) (iR h59 iP iP)) (iR h68 (iR h63 (iR h62 iP iP) iP) (iR h70 iP iP)))) (iR h90 (iR h85 (iR h81 (iR h75 (iR h74 iP iP) iP) (iR h84 (iR h82 iP iP) iP)) (iR h88 (iR h87 (iR h86 iP iP) iP) (iR h89 iP iP))) (iR bLH (iR bLJ (iR h99 (iR h98 iP iP) iP) (iR bLI iP iP)) (iR bLE (iR bLF (iR bLG iP iP) iP) (iR bLD iP iP))))) (iR bLh (iR bLr (iR bLw (iR bLz (iR bLA (iR bLB iP iP) iP) (iR bLx (iR bLy iP iP) iP)) (iR bLt (iR bLu (iR bLv iP iP) iP) (iR bLs iP iP))) (iR bLm (iR bLo (iR bLp (iR bLq iP iP) iP) (iR bLn iP iP)) (iR bLj (iR bLk (iR bLl iP iP) iP) (iR bLi iP iP)))) (iR bK6 (iR bLb (iR bLe (iR bLf (iR bLg iP iP) iP) (iR bLc (iR bLd iP iP) iP)) (iR bK8 (iR bK9 (iR bLa iP iP) iP) (iR bK7 iP iP))) (iR bK1 (iR bK3 (iR bK4 (iR bK5 iP iP) iP) (iR bK2 iP iP)) (iR bKY (iR bKZ (iR bK0 iP iP) iP) (iR bKX iP iP))))))
def aPu:bGh a3T:=(cP (cP (cP (cP (cP (cP (cP cN cN) cN) (cP (cP cN cN) cN)) (cP (cP (cP cN cN) cN) (cP cN cN))) (cP (cP (cP (cP cN cN) cN) (cP cN cN)) (cP (cP (cP cN cN) cN) (cP cN cN)))) (cP (cP (cP (cP (cP cN cN) cN) (cP (cP cN cN) cN)) (cP (cP (cP cN cN) cN) (cP cN cN))) (cP (cP (cP (cP cN cN) cN) (cP cN cN)) (cP (cP (cP cN cN) cN) (cP cN cN))))) (cP (cP (cP (cP (cP (cP cN cN) cN) (cP (cP cN cN) cN)) (cP (cP (cP cN cN) cN) (cP cN cN))) (cP (cP (cP (cP cN cN) cN) (cP cN cN)) (cP (cP (cP cN cN) cN) (cP cN cN)))) (cP (cP (cP (cP (cP cN cN) cN) (cP (cP cN cN) cN)) (cP (cP (cP cN cN) cN) (cP cN cN))) (cP (cP (cP (cP cN cN) cN) (cP cN cN)) (cP (cP (cP cN cN) cN) (cP cN cN))))))
end
def a6G(K:cG)(up:Nat->cG)(L:Nat):Nat->cG
 |0=>up 0
 |n+1=>λi d=>match K i d with|some r=>aa r|none=>a3T i (a6G K up L n) L d (up (n+1) i d)
def a7H(L α:Nat):Nat->cG:=λn=>cA L (α+n)
def Mn{K:cG}{L α:Nat}(hK: ∀n i d r,K i d=aa r->cA L (α+n+1) i d=aa r): ∀n,a6G K (a7H L α) L n=cA L (α+n)
 |0=>rfl
 |n+1=>by
  funext i d;show(match K i d with|some r=>aa r|none=>a3T i (a6G K (a7H L α) L n) L d (cA L (α+n+1) i d))=cA L (α+n+1) i d
  rw[Mn hK n];split
  .rename_i r e;exact(hK n i d r e).symm
  .exact aPu i L (α+n) d
def aIC{P:Program}{T:TP U0.D}{l:au (Nat×cS)}{i:Nat}{x:cS}(hx:tP l i=aa x)(hs:T.sig i=aa x.sig)(hb:(aOG T.orc x.sig&&aq x.sig.bx.length 100&&II x.sig.bx.length x.sig.bx)=ah)(L n:Nat)(d:nO){y:OV}(ho:aOz U0 T.orc x.sig d=aa y):
    yA U0 T (HX P l) L (n+1) i d=aa [bJE U0 y]:=by
 have hg:HX P l i=aa (jW x.sk (vE P x.sig.f),JG P x.sig.f):=by simp only[HX,hx]
 simp only[yA,hs,hg,hb,aI,ho]
def Kf:cG:=λi d=>bif ao i 178 then(match aOz U0 orcI ii178.sig d with|some x=>aa [bJE U0 x]|none=>ae)else ae
def cF(L M k:Nat):cG:=a6G Kf (a7H (L+7000) M) (L+7000) k
def Su(L M k:Nat):cF L M k=cA (L+7000) (M+k):=Mn (λn i d r h=>by
 unfold Kf at h;cases hb:ao i 178 with
 |false=>rw[hb]at h;cases h
 |true=>
  rw[hb,aI]at h;split at h
  .rename_i x hx;simp only[aA]at h;subst h;rw[aE hb];exact aIC (x:=ii178) (by kernel_rfl) (by kernel_rfl) (by kernel_rfl) _ _ d hx
  .cases h) k
def EB:au UInt8:=[117,115,101,114]
def aSp:f6:=⟨0,[],[],⟨[],[]⟩,[],[]⟩
def tV(w:au UInt8):f5:=⟨1,⟨EB,w⟩,aSp,[]⟩
def tA(f:f7)(l:au f5):f5:=⟨3,f,aSp,l⟩
def tC(o:f6):f5:=⟨2,⟨[],[]⟩,o,[]⟩
def Ta:f6:=⟨2,[],[],⟨cV,[110,105,108]⟩,[],[]⟩
def HT(a b:f6):f6:=⟨4,[],[],⟨[],[]⟩,[],[a,b]⟩
def KB(x:Rt):Prop:= ∃o:f6,x=aa [yR 2 o]/\kY o+Bd o<=20
def bBZ(l:au (au UInt8)):Bool:=l.all λw=>aq 1 w.length&&aq w.length 20
def aGV{l:au (au UInt8)}(h:bBZ l=ah){w:au UInt8}(hw:w∈l):1<=w.length/\w.length<=20:=by
 have:=bK.1 h w hw;simp only[aC,d8]at this;exact this
def bOt(r:Rt):Bool:=match r with|some [⟨.rc 2,o⟩]=>aq (kY o+Bd o) 20|_=>aj
def Bb{r:Rt}(h:bOt r=ah):KB r:=by
 unfold bOt at h;split at h
 .rename_i o;exact⟨o,rfl,bR h⟩
 .cases h
section
variable(L M:Nat)
def bHK(w:au UInt8):cF L M 60 10 [yT w]=aa [yR 3 (tV w)]:=by kernel_rfl
def bJZ(w:au UInt8)(l:au f5):cF L M 60 11 [yT w,yS 3 l]=aa [yR 3 (tA ⟨cV,w⟩ l)]:=by kernel_rfl
def bNo(f:f7)(l:au f5):cF L M 60 50 [yR 1 f,yS 3 l]=aa [yR 3 (tA f l)]:=by kernel_rfl
def bJ4(o:f6):cF L M 60 20 [yR 2 o]=aa [yR 3 (tC o)]:=by kernel_rfl
def bHO(w:au UInt8):cF L M 60 15 [yT w]=aa [yR 1 ⟨EB,w⟩]:=by kernel_rfl
def bIa(w:au UInt8):cF L M 60 61 [yT w]=aa [yR 1 ⟨cV,w⟩]:=by kernel_rfl
def bE4(a b:f6):cF L M 60 56 [yR 2 a,yR 2 b]=aa [yR 2 (HT a b)]:=by kernel_rfl
def a1X:cF L M 60 57 [yS 2 []]=aa [yR 2 Ta]:=by kernel_rfl
def a1W(a:f6):cF L M 60 57 [yS 2 ([a]:au f6)]=aa [yR 2 (HT a Ta)]:=by kernel_rfl
def a1V(a b:f6):cF L M 60 57 [yS 2 ([a,b]:au f6)]=aa [yR 2 (HT a (HT b Ta))]:=by kernel_rfl
def a1U(a b d:f6):cF L M 60 57 [yS 2 ([a,b,d]:au f6)]=aa [yR 2 (HT a (HT b (HT d Ta)))]:=by kernel_rfl
def bJN:KB (cF L M 60 25 []):=Bb (by kernel_rfl)
def bJM:KB (cF L M 60 51 []):=Bb (by kernel_rfl)
def bJO(r:Int)(h0:0<=r)(h1:r<7):KB (cF L M 60 52 [yI (ez.wrap (r-3))]):=by
 obtain rfl|rfl|rfl|rfl|rfl|rfl|rfl:r=0∨r=1∨r=2∨r=3∨r=4∨r=5∨r=6:=by omega
 all_goals exact Bb (by kernel_rfl)
def bJQ:KB (cF L M 60 52 [yI (0:Int)]):=Bb (by kernel_rfl)
def bJP:KB (cF L M 60 52 [yI (1:Int)]):=Bb (by kernel_rfl)
def bBD:KB (cF L M 60 53 [yT ([49]:au UInt8),yT ([50]:au UInt8)]):=Bb (by kernel_rfl)
def bBC:KB (cF L M 60 53 [yT ([45,53]:au UInt8),yT ([51]:au UInt8)]):=Bb (by kernel_rfl)
def bBB(y:f7)(h:sZ y=ah):KB (cF L M 60 54 [yR 1 y]):=⟨⟨2,[],[],y,[],[]⟩,by kernel_rfl,by simp[kY,jD,a5c,wS,h,vG]⟩
def bJL(w:au UInt8)(h:a6A w=ah):KB (cF L M 60 55 [yT w]):=⟨⟨3,[],[],⟨[],[]⟩,w,[]⟩,by kernel_rfl,by simp[kY,jD,a5d,h,a5e]⟩
def bEf: ∃l:au (au UInt8),cF L M 60 59 []=aa [⟨.sl .str,l⟩]/\l.length=25/\bBZ l=ah:=⟨match aU0 (λ_ _=>ae)with|some (⟨.sl .str,t⟩::_)=>t|_=>[],by kernel_rfl,by kernel_rfl,by kernel_rfl⟩
def bBk: ∃l:au (au UInt8),cF L M 60 60 []=aa [⟨.sl .str,l⟩]/\l.length=8/\bBZ l=ah:=⟨match aUZ (λ_ _=>ae)with|some (⟨.sl .str,t⟩::_)=>t|_=>[],by kernel_rfl,by kernel_rfl,by kernel_rfl⟩
end
structure Lib(c:cG):Prop where
 v: ∀w,c 10 [yT w]=aa [yR 3 (tV w)]
 l: ∀w (l:List f5),c 11 [yT w,yS 3 l]=aa [yR 3 (tA ⟨cV,w⟩ l)]
 a: ∀(f:f7) (l:List f5),c 50 [yR 1 f,yS 3 l]=aa [yR 3 (tA f l)]
 k: ∀o:f6,c 20 [yR 2 o]=aa [yR 3 (tC o)]
 u: ∀w,c 15 [yT w]=aa [yR 1 (⟨EB,w⟩:f7)]
 s: ∀w,c 61 [yT w]=aa [yR 1 (⟨cV,w⟩:f7)]
 cn: ∀a b:f6,c 56 [yR 2 a,yR 2 b]=aa [yR 2 (HT a b)]
 l0:c 57 [yS 2 ([]:List f6)]=aa [yR 2 Ta]
 l1: ∀a:f6,c 57 [yS 2 ([a]:List f6)]=aa [yR 2 (HT a Ta)]
 l2: ∀a b:f6,c 57 [yS 2 ([a,b]:List f6)]=aa [yR 2 (HT a (HT b Ta))]
 l3: ∀a b d:f6,c 57 [yS 2 ([a,b,d]:List f6)]=aa [yR 2 (HT a (HT b (HT d Ta)))]
 n:KB (c 25 [])
 t:KB (c 51 [])
 i: ∀r:Int,0<=r->r<7->KB (c 52 [yI (ez.wrap (r-3))])
 i0:KB (c 52 [yI (0:Int)])
 i1:KB (c 52 [yI (1:Int)])
 q1:KB (c 53 [yT ([49]:List UInt8),yT ([50]:List UInt8)])
 q2:KB (c 53 [yT ([45,53]:List UInt8),yT ([51]:List UInt8)])
 sy: ∀y:f7,sZ y=ah->KB (c 54 [yR 1 y])
 x: ∀w,a6A w=ah->KB (c 55 [yT w])
 hd: ∃l:List (List UInt8),c 59 []=aa [⟨.sl .str,l⟩]/\l.length=25/\bBZ l=ah
 ow: ∃l:List (List UInt8),c 60 []=aa [⟨.sl .str,l⟩]/\l.length=8/\bBZ l=ah
 nx: ∀(s:G.Z) (a:Int),dN s->1<=a->bNv (c 16 [yI a,yR 0 s]) a
def a1S(L M:Nat):Lib (cA (L+7000) (M+60)):=by
 have h: ∀(s:G.Z) (a:Int),dN s->1<=a->bNv (cA (L+7000) (M+60) 16 [yI a,yR 0 s]) a:=λs a h1 h2=>bGi (n:=M+59) h1 h2
 rw[<-Su]at h⊢;exact⟨bHK L M,bJZ L M,bNo L M,bJ4 L M,bHO L M,bIa L M,bE4 L M,a1X L M,a1W L M,a1V L M,a1U L M,bJN L M,bJM L M,bJO L M,bJQ L M,bJP L M,bBD L M,bBC L M,bBB L M,bJL L M,bEf L M,bBk L M,h⟩
def bGY(L M k:Nat):Bool:=match cF L M 60 81 [⟨.int .i64,(k:Int)⟩]with|some [⟨.str,s⟩]=>decide (s=aBa k)|_=>aj
def a6F(L M:Nat):Nat->Nat->Bool
 |_,0=>ah
 |a,n+1=>bGY L M a&&a6F L M (a+1) n
def Md{L M:Nat}: ∀{n a k:Nat},a6F L M a n=ah->a<=k->k<a+n->bGY L M k=ah
 |0,a,k,_,h1,h2=>by omega
 |n+1,a,k,h,h1,h2=>by
  rw[a6F,aC]at h;by_cases e:k=a
  .subst e;exact h.1
  .exact Md h.2 (by omega) (by omega)
def bLU(L M:Nat):a6F L M 0 100=ah:=by kernel_rfl
def bLT(L M:Nat):a6F L M 100 450=ah:=by kernel_rfl
def bLS(L M:Nat):a6F L M 550 450=ah:=by kernel_rfl
def rZ:AP:=by
 intro k hk;have h: ∀L M,bGY L M k=ah:=λL M=>by
  by_cases h1:k<100
  .exact Md (bLU L M) (by omega) (by omega)
  .by_cases h2:k<550
   .exact Md (bLT L M) (by omega) (by omega)
   .exact Md (bLS L M) (by omega) (by omega)
 refine⟨7060,λL n h1 h2=>?_⟩
 obtain⟨L,rfl⟩: ∃q,L=q+7000:=⟨L-7000,by omega⟩
 obtain⟨n,rfl⟩: ∃q,n=q+60:=⟨n-60,by omega⟩
 have:=h L n;unfold bGY at this;rw[Su]at this;show cA (L+7000) (n+60) 81 [⟨.int .i64,(k:Int)⟩]=_;split at this
 .rename_i s e;rw[e,bL this]
 .cases this
inductive It where
 |op
 |cl
 |wd (nu:Bool) (w:List UInt8)
def It.by':It->au UInt8
 | .op=>[40]
 | .cl=>[41]
 | .wd _ w=>w
def It.tk(p:Nat):It->G.K
 | .op=>⟨1,(p:Int),[],[],[]⟩
 | .cl=>⟨2,(p:Int),[],[],[]⟩
 | .wd nu w=>bHr nu (p:Int) w
abbrev a5R:=au (au UInt8×It)
def Aq:a5R->au UInt8->au UInt8
 |[],tl=>tl
 |(b,t)::l,tl=>b++(t.by'++Aq l tl)
def a6t:Nat->a5R->au G.K
 |_,[]=>[]
 |p,(b,t)::l=>t.tk (p+b.length)::a6t (p+b.length+t.by'.length) l
def aPi:au UInt8->Bool
 |[48]=>ah
 |[49]=>ah
 |[45,49]=>ah
 |_=>aj
def a6B(nu:Bool):au UInt8->Bool
 |[]=>aj
 |x::l=>(x::l).all (λx=>Ki (u8 x))&& !decide (u8 x=35)&&(bif nu then aPi (x::l)else !decide (u8 x=45)&&(ak (u8 x<48)||ak (57<u8 x))&& !decide (x::l=[46])&&aq (x::l).length 40)
def bH1:au UInt8->Bool
 |[]=>ah
 |y::_=> !Ki (u8 y)&& !decide (u8 y=58)
def aTc(r:au UInt8):It->Bool
 | .wd nu w=>a6B nu w&&bH1 r
 |_=>ah
def bBx:a5R->au UInt8->Bool
 |[],tl=>tl.all λx=>Vw (u8 x)
 |(b,t)::l,tl=>(b.all λx=>Vw (u8 x))&&aTc (Aq l tl) t&&bBx l tl
def a8d{r:au UInt8}(h:bH1 r=ah): ∀y,r.head?=aa y->Ki (u8 y)=aj/\u8 y≠58:=by
 intro y hy;cases r with
 |nil=>cases hy
 |cons z r=>
  simp only[List.head?_cons,aA]at hy;subst hy;simpa [bH1]using h
def bFN{x:Int}(h:Ki x=ah):Vw x=aj:=by
 simp only[Ki,aC,aD]at h;simp only[Vw,Bool.or_eq_false_iff,bD];omega
def bBv{t:It}{r:au UInt8}(h:aTc r t=ah): ∀y,(t.by'++r).head?=aa y->Vw (u8 y)=aj/\u8 y≠59/\u8 y≠35:=by
 intro y hy;cases t with
 |op=>simp[It.by']at hy;subst hy;decide
 |cl=>simp[It.by']at hy;subst hy;decide
 |wd nu w=>
  cases w with
  |nil=>simp[aTc,a6B]at h
  |cons x l=>
   simp[It.by']at hy;subst hy
   simp only[aTc,a6B,aC,aP,io,bD]at h;exact⟨bFN h.1.1.1.1,(aBn h.1.1.1.1).2.2.2.2.1,h.1.1.2⟩
def a5M{s r:au UInt8}{t:It}{k L n:Nat}(hN: ∀w,aPi w=ah->aKW (cA L (n+2)) w)(hb:s.length<1000000000)(hL:s.length<L)(h:s.drop k=t.by'++r)(ht:aTc r t=ah):
    cA L (n+3) 122 [yT s,yI (k:Int)]=aa [yR 21 (t.tk k),yI ((k+t.by'.length:Nat):Int),yR 20 ⟨0,0⟩]:=by
 cases t with
 |op=>exact bGf hb h
 |cl=>exact bGg hb h
 |wd nu w=>
  cases w with
  |nil=>simp[aTc,a6B]at ht
  |cons x l=>
   simp only[aTc,a6B,aC,io,bD]at ht;obtain⟨⟨⟨h1,h2⟩,h3⟩,h4⟩:=ht;refine bNu hb hL h (by simp) (λy hy=>bK.1 h1 y hy) (a8d h4) ?_
   cases nu with
   |true=>exact .inl ⟨rfl,hN _ h3⟩
   |false=>
    simp only[aJ,aC,Bool.or_eq_true,io,bD,aD]at h3;exact .inr ⟨rfl,x,l,rfl,h3.1.1.1,h3.1.1.2,h3.1.2,bR h3.2⟩
def aRn{s tl:au UInt8}{L n:Nat}{er:G.X}(hN: ∀w,aPi w=ah->aKW (cA L (n+2)) w)(hb:s.length<6001)(hL:s.length<L):
    ∀(l:a5R) (k m:Nat) (acc:au G.K),s.drop k=Aq l tl->k<=s.length->bBx l tl=ah->l.length<m->acc.length<=k->GK (cA L (n+3)) L m (k:Int) s acc er=aa [yS 21 (acc++a6t k l++ [⟨0,(s.length:Int),[],[],[]⟩]),yR 20 ⟨0,0⟩]:=by
 intro l;induction l with
 |nil=>
  intro k m acc h1 h2 h3 h4 h5;obtain⟨m,rfl⟩:=sK m 1 (by simp at h4;omega)
  have hl:=congrArg am h1;simp[Aq]at hl;have hsk:=aUw (s:=s) (w:=tl) (r:=[]) (k:=k) (L:=L) (n:=n+1) (by omega) hL (by simpa [Aq]using h1) (λx hx=>bK.1 h3 x hx) (by simp)
  have e1:((k+tl.length:Nat):Int)=(s.length:Int):=by omega
  rw[GK,aB6,hsk,rY];simp only[bE,bS];rw[e1];simp only[oc,bN,bV];have e2:aq ((acc.length+([⟨0,(s.length:Int),[],[],[]⟩]:au G.K).length)*64) 1073741824=ah:=by
   rw[d8];simp only[aM,aX];omega
  rw[e2,fN,show a6t k []=[] from rfl,bB];rfl
 |cons bt l ih=>
  obtain⟨b,t⟩:=bt;intro k m acc h1 h2 h3 h4 h5;obtain⟨m,rfl⟩:=sK m 1 (by simp at h4;omega)
  simp only[bBx,aC]at h3;obtain⟨⟨h6,h7⟩,h8⟩:=h3;have hl:=congrArg am h1;simp[Aq]at hl;have ht:1<=t.by'.length:=by
   cases t with
   |op=>exact aS _
   |cl=>exact aS _
   |wd nu w=>cases w with
    |nil=>simp[aTc,a6B]at h7
    |cons x l=>simp[It.by']
  have hsk:=aUw (s:=s) (w:=b) (r:=t.by'++Aq l tl) (k:=k) (L:=L) (n:=n+1) (by omega) hL h1 (λx hx=>bK.1 h6 x hx) (bBv h7)
  have hd:s.drop (k+b.length)=t.by'++Aq l tl:=by rw[<-List.drop_drop,h1];simp[Aq]
  have ho:=a5M (n:=n) hN (by omega) hL hd h7
  have hd2:s.drop (k+b.length+t.by'.length)=Aq l tl:=by rw[<-List.drop_drop,hd];simp
  rw[GK,aB6,hsk,rY];simp only[bE,bS];have e1:ak ((s.length:Int)<=((k+b.length:Nat):Int))=aj:=by simp only[bD];omega
  rw[e1,bS,ho,a1z];simp only[bN,bE,bS];have e2:aq ((acc.length+([t.tk (k+b.length)]:au G.K).length)*64) 1073741824=ah:=by
   rw[d8];simp only[aM,aX];omega
  rw[e2,fN,ih (k+b.length+t.by'.length) m _ hd2 (by omega) h8 (by simp at h4;omega) (by simp;omega)]
  simp[a6t]
def a5I{l:a5R}{tl:au UInt8}{L n:Nat}(hN: ∀w,aPi w=ah->aKW (cA L (n+2)) w)(hs:(Aq l tl).length<6001)(hL:(Aq l tl).length<L)(hl:l.length<L)(ho:bBx l tl=ah):
    cA L (n+4) 96 [yT (Aq l tl)]=aa [yS 21 (a6t 0 l++ [⟨0,((Aq l tl).length:Int),[],[],[]⟩]),yR 20 ⟨0,0⟩]:=by
 show cA L (n+3+1) 96 _=_;have e1:ak ((6000:Int)<((Aq l tl).length:Int))=aj:=by simp only[bD];omega
 rw[c96,bNy,aLG,e1,bS];exact aRn (tl:=tl) (er:=⟨0,0⟩) hN hs hL l 0 L [] rfl (b7 _) ho hl (aS _)
def AA:au UInt8:=[108,105,115,112]
def mT(s:au UInt8):f6:=⟨2,[],[],⟨AA,s⟩,[],[]⟩
def bJR(s:au UInt8):f6:=⟨1,s,[49],⟨[],[]⟩,[],[]⟩
def ol:au f6->f6
 |[]=>mT [110,105,108]
 |x::l=>⟨4,[],[],⟨[],[]⟩,[],[x,ol l]⟩
def tkP(p:Int):G.K:=⟨1,p,[],[],[]⟩
def tkC(p:Int):G.K:=⟨2,p,[],[],[]⟩
def bN1:au UInt8:=[43]
def bGL:f6:=mT bN1
def bN0:au UInt8:=[45,49]
def bN5:f6:=bJR bN0
def bNZ:au UInt8:=[48]
def aEp:f6:=bJR bNZ
def bNY:au UInt8:=[49]
def bN4:f6:=bJR bNY
def bNX:au UInt8:=[60]
def a7q:f6:=mT bNX
def bHq:au UInt8:=[97]
def aVS:f6:=mT bHq
def bNW:au UInt8:=[97,110,100]
def bGK:f6:=mT bNW
def bNV:au UInt8:=[97,112,112,101,110,100]
def w7a:f6:=mT bNV
def bHp:au UInt8:=[97,115,115,111,99,45,101,113,117,97,108]
def bN3:f6:=mT bHp
def bHo:au UInt8:=[97,116,111,109]
def w9a:f6:=mT bHo
def aVN:au UInt8:=[98,105,110,97,114,121,45,97,112,112,101,110,100]
def a7E:f6:=mT aVN
def aVM:au UInt8:=[98,111,111,108,101,97,110,112]
def bHI:f6:=mT aVM
def a69:au UInt8:=[99,97,114]
def Bq:f6:=mT a69
def a68:au UInt8:=[99,100,114]
def DI:f6:=mT a68
def a67:au UInt8:=[99,111,110,100]
def a7C:f6:=mT a67
def a66:au UInt8:=[99,111,110,115]
def aV8:f6:=mT a66
def a65:au UInt8:=[99,111,110,115,112]
def wG:f6:=mT a65
def aVL:au UInt8:=[99,111,117,110,116]
def DH:f6:=mT aVL
def a64:au UInt8:=[100,101,102,117,110]
def mU:f6:=mT a64
def aVK:au UInt8:=[101]
def aV1:f6:=mT aVK
def aVJ:au UInt8:=[101,110,100,112]
def bHH:f6:=mT aVJ
def a63:au UInt8:=[101,113,117,97,108]
def KQ:f6:=mT a63
def aVI:au UInt8:=[102,105,120]
def bHG:f6:=mT aVI
def a62:au UInt8:=[103,117,97,114,100]
def aCy:f6:=mT a62
def a61:au UInt8:=[105,102]
def nU:f6:=mT a61
def aVH:au UInt8:=[105,102,102]
def bHF:f6:=mT aVH
def aVG:au UInt8:=[105,102,105,120]
def bHE:f6:=mT aVG
def aVF:au UInt8:=[105,109,112,108,105,101,115]
def bHD:f6:=mT aVF
def a60:au UInt8:=[105,110,116,101,103,101,114,112]
def aNy:f6:=mT a60
def aVE:au UInt8:=[107]
def aVX:f6:=mT aVE
def aVD:au UInt8:=[108,101,110]
def a7w:f6:=mT aVD
def a6Z:au UInt8:=[108,105,115,116]
def bHA:f6:=mT a6Z
def a6Y:au UInt8:=[109,101,97,115,117,114,101]
def Ez:f6:=mT a6Y
def aVC:au UInt8:=[109,101,109,98,101,114,45,101,113,117,97,108]
def a7v:f6:=mT aVC
def aNr:au UInt8:=[110]
def HW:f6:=mT aNr
def aVB:au UInt8:=[110,97,116,112]
def aCx:f6:=mT aVB
def aVA:au UInt8:=[110,102,105,120]
def aVW:f6:=mT aVA
def a6X:au UInt8:=[110,105,108]
def Cq:f6:=mT a6X
def aVz:au UInt8:=[110,111,116]
def HV:f6:=mT aVz
def aVy:au UInt8:=[110,116,104]
def a7s:f6:=mT aVy
def aVx:au UInt8:=[111,45,102,105,110,112]
def aNx:f6:=mT aVx
def aVw:au UInt8:=[111,45,102,105,114,115,116,45,99,111,101,102,102,105,99,105,101,110,116]
def aCw:f6:=mT aVw
def aVv:au UInt8:=[111,45,102,105,114,115,116,45,101,120,112,111,110,101,110,116]
def KP:f6:=mT aVv
def aVu:au UInt8:=[111,45,112]
def aVV:f6:=mT aVu
def aVt:au UInt8:=[111,45,114,101,115,116]
def aEo:f6:=mT aVt
def aVs:au UInt8:=[111,60]
def aNw:f6:=mT aVs
def a6W:au UInt8:=[111,114]
def bHy:f6:=mT a6W
def aEd:au UInt8:=[112]
def aCv:f6:=mT aEd
def aVr:au UInt8:=[112,111,115,112]
def a7r:f6:=mT aVr
def aNq:au UInt8:=[113]
def aEn:f6:=mT aNq
def a6V:au UInt8:=[114,97,116,105,111,110,97,108,112]
def bHw:f6:=mT a6V
def aVq:au UInt8:=[114,101,118]
def a7p:f6:=mT aVq
def aVp:au UInt8:=[115,121,110,116,97,120,112]
def bHv:f6:=mT aVp
def a6U:au UInt8:=[116]
def DG:f6:=mT a6U
def aVo:au UInt8:=[116,114,117,101,45,108,105,115,116,112]
def aCu:f6:=mT aVo
def aVn:au UInt8:=[117,112,100,97,116,101,45,110,116,104]
def a7o:f6:=mT aVn
def aVm:au UInt8:=[118]
def aVU:f6:=mT aVm
def oP:au UInt8:=[120]
def dC:f6:=mT oP
def aNp:au UInt8:=[121]
def DF:f6:=mT aNp
def aVl:au UInt8:=[122,112]
def aVT:f6:=mT aVl
def wdL:au (au UInt8):=[bN1,bN0,bNZ,bNY,bNX,bHq,bNW,bNV,bHp,bHo,aVN,aVM,a69,a68,a67,a66,a65,aVL,a64,aVK,aVJ,a63,aVI,a62,a61,aVH,aVG,aVF,a60,aVE,aVD,a6Z,a6Y,aVC,aNr,aVB,aVA,a6X,aVz,aVy,aVx,aVw,aVv,aVu,aVt,aVs,a6W,aEd,aVr,aNq,a6V,aVq,aVp,a6U,aVo,aVn,aVm,oP,aNp,aVl]
def bGO:Nat->Nat->Nat->au G.K
 |0,_,_=>[]
 |f+1,p,n=>bif ao (n%64) 0 then tkP ((p+n/64%64:Nat):Int)::bGO f (p+n/64%64+1) (n/4096)
  else bif ao (n%64) 1 then tkC ((p+n/64%64:Nat):Int)::bGO f (p+n/64%64+1) (n/4096)
  else match wdL[n%64-2]? with
   |some w=>bHr (aPi w) ((p+n/64%64:Nat):Int) w::bGO f (p+n/64%64+w.length) (n/4096)
   |none=>[]
def ZJ:au G.K:=bGO 942 0 0x100100100100107b00f04007a00106404300204003904000107b00e04001104000100107b00f04007a01104000106403d04001a0c000100106402604002204000100100107b03804000106402504000804001904000107b07a02404007901404000100100100107b00f04000106404300204002904000107b00e04000106403d04001a0c000100106402604002204000100100107b03804000106402504000804001904000107b02404006901404000100100100100104700f04005f00a04003724000100104700e04000100100100104700e04000e04005f01704000100104700e0400120400080002400010670010010470120400280000400100c000100104701304002204000104701f04004a01404000100106700100100107b00f04005502304007b00100107b00e04005501704001a04000107b01204001a0c000100107b01304002204000100107b03804001904000107b01504006301404000100106700100100107b00e04002104000100107b00f04003504000904000107b01204001a0c000100107b01304002204000103b04007501404000100107c00100107c00107b00f04000c04000107b00e04001104000107b01204001a0c000100107b01304002204000100107b03804001904000107c03b04004c01404000100100106707b01704000100107b00f04003804000107b01204001a04000100107b01304002204000103b04007801404000100104400100100107b00f04002004004500204000107b01204001a04000100107b01304002204000103b04006001404000100100100100107b02c04000100107b02e04002c04002f28000100107b02e04002d28000100107b02b04003228000100104400107b02c04001704002828000100107b02c04002d28000100107b00e04001204000814000107b0251c000107b02a04001a0c000100107b01304002204000103b04006d01404000100100100100107c02e04000107b02e04002f04003724000100100107c02b04000107b02b04000628000100100107c02b04000107b02b04001704002800024000100100107c02c04000107b02c04002f28000100100107c02c04000107b02c04001704002800024000106700107c02a00024000100100107c07b00604007700107c01204001a04000107b02a0000400100c000100107b01304002204000107c03b04006f01404000100104400107b00f04000107b01204001a04000103b04006e01404000100107b00100107b00e04000f04000107b01204001a04000103b04006b01404000100104400100107b00e04000e04000107b01204001a04000103b04006c01404000100100107b01204002804000103b04006a01404000100104400100100107b00f04001304000100107b00e04001304004500204000107b01204001a04000100107b01304002204000103b04005301404000100107700100107b04400604002804000107b01e04001a04000100107b02504001904000103b04007d01404000100104407b00107b02504001a04000103b04006601404000100106700107b04400604000107b01e04001a04000103b04007201404000100106700100104407b00604002804000107b01e04001a04000103b04006501404000100104407b00107b01e04001a04000103b04005c01404000100104407b00107b03404001a04000103b04005801404000100100107b01204002804000100100106707b01704000107b01204003004001904000103b04005601404000100100107b01204002804000103b04004b01404000107700103b04007601404000100100106707b01704007700107707b01704001a04000103b04004d01404000100100107706707301a04000106707707301a04007101a04000107303104005b01404000100107700106707707301a04007101a04000107303104005d01404000100107706707101a040001031040068014000++ [⟨0,2580,[],[],[]⟩]
def bOk:f6:=ol [mU,HV,ol [aCv],ol [nU,aCv,Cq,DG]]
def bOj:f6:=ol [mU,bHD,ol [aCv,aEn],ol [nU,aCv,ol [nU,aEn,DG,Cq],DG]]
def bOi:f6:=ol [mU,bHF,ol [aCv,aEn],ol [nU,aCv,ol [nU,aEn,DG,Cq],ol [nU,aEn,Cq,DG]]]
def bOh:f6:=ol [mU,bHI,ol [dC],ol [nU,ol [KQ,dC,DG],DG,ol [KQ,dC,Cq]]]
def bOg:f6:=ol [mU,bHv,ol [dC],DG]
def bOf:f6:=ol [mU,w9a,ol [dC],ol [HV,ol [wG,dC]]]
def bOe:f6:=ol [mU,bHH,ol [dC],ol [aCy,ol [bHy,ol [wG,dC],ol [KQ,dC,Cq]]],ol [HV,ol [wG,dC]]]
def bOd:f6:=ol [mU,bHG,ol [dC],ol [nU,ol [bHw,dC],dC,aEp]]
def bOc:f6:=ol [mU,bHE,ol [dC],ol [nU,ol [aNy,dC],dC,aEp]]
def bOb:f6:=ol [mU,aCx,ol [dC],ol [nU,ol [aNy,dC],ol [HV,ol [a7q,dC,aEp]],Cq]]
def bBW:f6:=ol [mU,a7r,ol [dC],ol [nU,ol [aNy,dC],ol [a7q,aEp,dC],Cq]]
def bBV:f6:=ol [mU,aVW,ol [dC],ol [nU,ol [aCx,dC],dC,aEp]]
def bBU:f6:=ol [mU,aVT,ol [dC],ol [aCy,ol [aCx,dC]],ol [nU,ol [aNy,dC],ol [HV,ol [a7q,aEp,dC]],DG]]
def bBT:f6:=ol [mU,DH,ol [dC],ol [Ez,ol [DH,dC]],ol [nU,ol [wG,dC],ol [bGL,bN4,ol [DH,ol [Bq,dC]],ol [DH,ol [DI,dC]]],aEp]]
def bBS:f6:=ol [mU,aNx,ol [dC],ol [HV,ol [wG,dC]]]
def bBR:f6:=ol [mU,KP,ol [dC],ol [nU,ol [wG,dC],ol [Bq,ol [Bq,dC]],aEp]]
def bBQ:f6:=ol [mU,aCw,ol [dC],ol [nU,ol [wG,dC],ol [DI,ol [Bq,dC]],dC]]
def bBP:f6:=ol [mU,aEo,ol [dC],ol [nU,ol [wG,dC],ol [DI,dC],aEp]]
def bBO:f6:=ol [mU,aNw,ol [dC,DF],ol [Ez,ol [DH,dC]],ol [a7C,ol [ol [aNx,dC],ol [nU,ol [wG,DF],DG,ol [a7q,dC,DF]]],ol [ol [aNx,DF],Cq],ol [ol [HV,ol [KQ,ol [KP,dC],ol [KP,DF]]],ol [aNw,ol [KP,dC],ol [KP,DF]]],ol [ol [HV,ol [KQ,ol [aCw,dC],ol [aCw,DF]]],ol [a7q,ol [aCw,dC],ol [aCw,DF]]],ol [DG,ol [aNw,ol [aEo,dC],ol [aEo,DF]]]]]
def bBN:f6:=ol [mU,aVV,ol [dC],ol [Ez,ol [DH,dC]],ol [nU,ol [aNx,dC],ol [aCx,dC],ol [bGK,ol [wG,ol [Bq,dC]],ol [aVV,ol [KP,dC]],ol [HV,ol [KQ,ol [KP,dC],aEp]],ol [a7r,ol [aCw,dC]],ol [aVV,ol [aEo,dC]],ol [aNw,ol [KP,ol [aEo,dC]],ol [KP,dC]]]]]
def bBM:f6:=ol [mU,a7w,ol [dC],ol [Ez,ol [DH,dC]],ol [nU,ol [wG,dC],ol [bGL,bN4,ol [a7w,ol [DI,dC]]],aEp]]
def bBL:f6:=ol [mU,aCu,ol [dC],ol [Ez,ol [DH,dC]],ol [nU,ol [wG,dC],ol [aCu,ol [DI,dC]],ol [KQ,dC,Cq]]]
def bBK:f6:=ol [mU,a7E,ol [dC,DF],ol [aCy,ol [aCu,dC]],ol [Ez,ol [DH,dC]],ol [nU,ol [wG,dC],ol [aV8,ol [Bq,dC],ol [a7E,ol [DI,dC],DF]],DF]]
def bBJ:f6:=ol [mU,a7p,ol [dC],ol [Ez,ol [DH,dC]],ol [nU,ol [wG,dC],ol [w7a,ol [a7p,ol [DI,dC]],ol [bHA,ol [Bq,dC]]],Cq]]
def bBI:f6:=ol [mU,a7v,ol [aV1,dC],ol [aCy,ol [aCu,dC]],ol [Ez,ol [DH,dC]],ol [nU,ol [wG,dC],ol [nU,ol [KQ,aV1,ol [Bq,dC]],dC,ol [a7v,aV1,ol [DI,dC]]],Cq]]
def bBH:f6:=ol [mU,bN3,ol [aVX,aVS],ol [Ez,ol [DH,aVS]],ol [a7C,ol [ol [HV,ol [wG,aVS]],Cq],ol [ol [bGK,ol [wG,ol [Bq,aVS]],ol [KQ,aVX,ol [Bq,ol [Bq,aVS]]]],ol [Bq,aVS]],ol [DG,ol [bN3,aVX,ol [DI,aVS]]]]]
def bBG:f6:=ol [mU,a7s,ol [HW,dC],ol [aCy,ol [bGK,ol [aCx,HW],ol [aCu,dC]]],ol [Ez,ol [aVW,HW]],ol [nU,ol [aVT,HW],ol [Bq,dC],ol [a7s,ol [bGL,bN5,HW],ol [DI,dC]]]]
def bBF:f6:=ol [mU,a7o,ol [HW,aVU,dC],ol [aCy,ol [bGK,ol [aCx,HW],ol [aCu,dC]]],ol [Ez,ol [aVW,HW]],ol [nU,ol [aVT,HW],ol [aV8,aVU,ol [DI,dC]],ol [aV8,ol [Bq,dC],ol [a7o,ol [bGL,bN5,HW],aVU,ol [DI,dC]]]]]
def oAll:au f6:=[bOk,bOj,bOi,bOh,bOg,bOf,bOe,bOd,bOc,bOb,bBW,bBV,bBU,bBT,bBS,bBR,bBQ,bBP,bBO,bBN,bBM,bBL,bBK,bBJ,bBI,bBH,bBG,bBF]
def bH2:au UInt8->au UInt8×au UInt8
 |[]=>([],[])
 |x::l=>bif Ki (u8 x)then(x::(bH2 l).1,(bH2 l).2)else([],x::l)
def bH3:au UInt8->au UInt8×au UInt8
 |[]=>([],[])
 |x::l=>bif Vw (u8 x)then(x::(bH3 l).1,(bH3 l).2)else([],x::l)
def Ul:Nat->au UInt8->a5R×au UInt8
 |0,l=>([],l)
 |n+1,l=>match bH3 l with
  |(b,[])=>([],b)
  |(b,x::r)=>bif ao x.toNat 40 then((b,.op)::(Ul n r).1,(Ul n r).2)else bif ao x.toNat 41 then((b,.cl)::(Ul n r).1,(Ul n r).2)else
   match bH2 (x::r)with
   |(w,r')=>((b,.wd (aPi w) w)::(Ul n r').1,(Ul n r').2)
def a4P(o:f6):Bool:=
 decide (o.kind=1)&&(a1r o.num o.den&&(ak (o.sym=⟨[],[]⟩)&&(o.text.isEmpty&&o.pair.isEmpty)))||(ak (o.kind=2)&&(o.num.isEmpty&&(o.den.isEmpty&&(o.text.isEmpty&&o.pair.isEmpty)))||(ak (o.kind=3)||ak (o.kind=4)&&ak (o.pair.length=2)))
mutual
def Te:f5->Bool
 |⟨k,⟨p,n⟩,v,l⟩=>(!decide (k=2)||(p.isEmpty&&n.isEmpty&&l.isEmpty&&a4P v))&&NU l
def NU:au f5->Bool
 |[]=>ah
 |t::l=>Te t&&NU l
end
def CX(n:eT)(b:f5):Bool:=a43 n b&&Te b
def a6q:f5:=⟨0,⟨[],[]⟩,⟨0,[],[],⟨[],[]⟩,[],[]⟩,[]⟩
abbrev T3:=f5×f5×f5
abbrev Sk:=au UInt8×au (au UInt8)
def aDr(s:Sk)(x:T3):f8:=G.E.mk 3 ⟨AA,s.1⟩ ⟨[],[]⟩ ⟨⟨[],[]⟩,[],aj,a6q⟩ [⟨⟨AA,s.1⟩,s.2.map (λp=>⟨AA,p⟩),1,x.1,x.2.1,x.2.2⟩] [] [] [] ⟨⟨[],[]⟩,[]⟩ [] [] [] [] 0
def bLY(s:Sk):f8->Bool
 |⟨k,n,⟨[],[]⟩,⟨⟨[],[]⟩,[],aj,⟨bk,⟨[],[]⟩,⟨ok,[],[],⟨[],[]⟩,[],[]⟩,[]⟩⟩,[⟨fn,ps,cl,_,b,_⟩],[],[],[],⟨⟨[],[]⟩,[]⟩,[],[],[],[],h⟩=>decide (k=3)&&ak (n=⟨AA,s.1⟩)&&ak (bk=0)&&ak (ok=0)&&ak (fn=⟨AA,s.1⟩)&&ak (cl=1)&&ak (h=0)&&ak (ps=s.2.map (λp=>⟨AA,p⟩))&&CX s.1 b
 |_=>aj
def a4s{s:Sk}{e:f8}(h:bLY s e=ah): ∃x:T3,e=aDr s x/\CX s.1 x.2.1=ah:=by
 unfold bLY at h;split at h
 .simp only[aC,aD]at h;obtain⟨⟨⟨⟨⟨⟨⟨⟨rfl,rfl⟩,rfl⟩,rfl⟩,rfl⟩,rfl⟩,rfl⟩,rfl⟩,hb⟩:=h;exact⟨(_,_,_),rfl,hb⟩
 .cases h
def bLX(s:Sk)(r:Rt):Bool:=match r with|some [⟨.rc 15,e⟩]=>bLY s e|_=>aj
def a4q{s:Sk}{r:Rt}(h:bLX s r=ah): ∃x:T3,r=aa [yR 15 (aDr s x)]/\CX s.1 x.2.1=ah:=by
 unfold bLX at h;split at h
 .rename_i e;obtain⟨x,hx,hb⟩:=a4s h;exact⟨x,by rw[hx],hb⟩
 .cases h
def skL:au Sk:=[(aVz,[aEd]),(aVF,[aEd,aNq]),(aVH,[aEd,aNq]),(aVM,[oP]),(aVp,[oP]),(bHo,[oP]),(aVJ,[oP]),(aVI,[oP]),(aVG,[oP]),(aVB,[oP]),(aVr,[oP]),(aVA,[oP]),(aVl,[oP]),(aVL,[oP]),(aVx,[oP]),(aVv,[oP]),(aVw,[oP]),(aVt,[oP]),(aVs,[oP,aNp]),(aVu,[oP]),(aVD,[oP]),(aVo,[oP]),(aVN,[oP,aNp]),(aVq,[oP]),(aVC,[aVK,oP]),(bHp,[aVE,bHq]),(aVy,[aNr,oP]),(aVn,[aNr,aVm,oP])]
def K6(k:Nat):Sk:=(skL[k]?).getD ([],[])
def eF(X:Nat->T3):au Sk->Nat->au f8
 |[],_=>[]
 |s::l,j=>aDr s (X j)::eF X l (j+1)
def eL(X:Nat->T3)(k:Nat):au f8:=eF X (skL.take k) 0
def Kd:cG:=λi d=>bif ao i 38 then(match d with|[]=>aa [⟨.sl (.rc 2),oAll⟩]|_=>ae)else ae
def cD(L M k:Nat):cG:=a6G Kd (a7H (L+7000) (M+99)) (L+7000) k
def pE(L M k:Nat)(X:Nat->T3)(o:f6):Bool:=bLX (K6 k) (cD L M 58 39 [yS 15 (eL X k),yR 2 o])
end
end Go.TV
