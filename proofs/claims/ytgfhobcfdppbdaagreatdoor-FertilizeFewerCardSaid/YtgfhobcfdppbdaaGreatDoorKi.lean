import Derived.Test.YtgfhobcfdppbdaaGreatDoorKh
open Option renaming some->aa,none->ad
open Bool renaming true->ae,false->ah,not_false->b8
open Decidable renaming decide->aj
open List renaming length->ak,mem_of_getElem?->ef
open Nat renaming beq->am,ble->an,zero_le->a8,ble_eq->d7
set_option linter.unusedVariables false
set_option linter.unusedSimpArgs false
set_option linter.constructorNameAsVariable false
set_option linter.defProp false
namespace Go.TV
open Go.AI Go.PI Go.Proofs
set_option maxRecDepth 20000
def a56(k:Nat):fY:=if k<10 then [UInt8.ofNat (48+k)]else if k<100 then [UInt8.ofNat (48+k/10),UInt8.ofNat (48+k%10)]else [UInt8.ofNat (48+k/100),UInt8.ofNat (48+k/10%10),UInt8.ofNat (48+k%10)]
def Gh:Prop:= ∀k:Nat,k<1000->Rn 92 (iI (k:Int)) (rL (a56 k))
def Dw(k:Nat):(a56 k).length<=3:=by
 unfold a56;split
 .simp
 .split<;>simp
section
variable(hF:Gh)
include hF
def SW{k:Nat}(h:k<1000):Rn 64 (iI (k:Int)) (oV (Qs (a56 k) [49])):=by
 refine dR (λL n=>bQV _ L n) ?_
 simp only[bID,aUK];have:=Dw k;exact lc (hF k h) rfl (lc (uT (a:=a56 k) (b:=[49]) (by omega) (by simp)) rfl (lr rfl))
def dU(o:G.O):G.O:=if o.kind=1 then o else Qs (a56 0) [49]
omit hF in
def A9{o:G.O}(h:vO o):vO (dU o):=by
 unfold dU;split
 .exact h
 .exact zC (by have:=Dw 0;omega) (by simp)
omit hF in
def aTq(o:G.O):(dU o).kind=1:=by
 unfold dU;split
 .assumption
 .rfl
def rX(o:G.O):Rn 178 (oV o) (oV (dU o)):=by
 refine dR (λL n=>bGP o L n) ?_
 simp only[aRJ,aMb];unfold dU;by_cases h:o.kind=1
 .rw[bI h];simp only[bF h,bN];exact lr rfl
 .rw[bH h];simp only[bG h,bL];exact lc (SW hF (k:=0) (by omega)) rfl (lr rfl)
omit hF in
def zQ{o:G.O}(h:vO o):o.num.length<=900/\o.den.length<=900/\o.sym.package.length<=900/\o.sym.name.length<=900/\o.text.length<=900:=by
 have:=lJ.1 h;exact⟨this.1,this.2.1,this.2.2.1,this.2.2.2.1,this.2.2.2.2.1⟩
omit hF in
def aDV{o:G.O}(h:vO o):wO o:=aQR (by omega) o h
def bAp(a b:G.O):G.O:=Qs (aDn (oU (dU a).num (dU b).den) (oU (dU b).num (dU a).den)) (oU (dU a).den (dU b).den)
def a0n{a b:G.O}(ha:vO a)(hb:vO b):Rn 186 (oo a b) (oV (bAp a b))/\wO (bAp a b):=by
 have l1:=zQ (A9 ha);have l2:=zQ (A9 hb);have m1:=sH (dU a).num (dU b).den;have m2:=sH (dU b).num (dU a).den;have m3:=sH (dU a).den (dU b).den;have a1:=aQ1 (oU (dU a).num (dU b).den) (oU (dU b).num (dU a).den);refine⟨?_,zC (by omega) (by omega)⟩
 refine dR (λL n=>bGH a b L n) ?_
 simp only[aRB,aL3];have r1:=zV (a:=(dU a).num) (b:=(dU b).den) (by omega) (by omega)
 have r2:=zV (a:=(dU b).num) (b:=(dU a).den) (by omega) (by omega)
 have r3:=a0u (a:=oU (dU a).num (dU b).den) (b:=oU (dU b).num (dU a).den) (by omega) (by omega)
 have r4:=zV (a:=(dU a).den) (b:=(dU b).den) (by omega) (by omega)
 have r5:=uT (a:=aDn (oU (dU a).num (dU b).den) (oU (dU b).num (dU a).den)) (b:=oU (dU a).den (dU b).den) (by omega) (by omega)
 exact lc (rX hF a) rfl (lc (rX hF b) rfl (lc r1 rfl (lc r2 rfl (lc r3 rfl (lc r4 rfl (lc r5 rfl (lr rfl)))))))
def bCY(a b:G.O):G.O:=Qs (oU (dU a).num (dU b).num) (oU (dU a).den (dU b).den)
def aNZ{a b:G.O}(ha:vO a)(hb:vO b):Rn 187 (oo a b) (oV (bCY a b))/\wO (bCY a b):=by
 have l1:=zQ (A9 ha);have l2:=zQ (A9 hb);have m1:=sH (dU a).num (dU b).num;have m3:=sH (dU a).den (dU b).den;refine⟨?_,zC (by omega) (by omega)⟩
 refine dR (λL n=>bGG a b L n) ?_
 simp only[aRA,aL2];have r1:=zV (a:=(dU a).num) (b:=(dU b).num) (by omega) (by omega)
 have r4:=zV (a:=(dU a).den) (b:=(dU b).den) (by omega) (by omega)
 have r5:=uT (a:=oU (dU a).num (dU b).num) (b:=oU (dU a).den (dU b).den) (by omega) (by omega)
 exact lc (rX hF a) rfl (lc (rX hF b) rfl (lc r1 rfl (lc r4 rfl (lc r5 rfl (lr rfl)))))
def bC5(a:G.O):G.O:=Qs (aGA (dU a).num) (dU a).den
def a0p{a:G.O}(ha:vO a):Rn 181 (oV a) (oV (bC5 a))/\wO (bC5 a):=by
 have l1:=zQ (A9 ha);have m1:=aOW (dU a).num;refine⟨?_,zC (by omega) (by omega)⟩
 refine dR (λL n=>bGM a L n) ?_
 simp only[aRG,aL6];have r1:=a0q (a:=(dU a).num) (by omega)
 have r5:=uT (a:=aGA (dU a).num) (b:=(dU a).den) (by omega) (by omega)
 exact lc (rX hF a) rfl (lc r1 rfl (lc r5 rfl (lr rfl)))
def bBX(a:G.O):G.O:=Qs (dU a).den (dU a).num
def a0o{a:G.O}(ha:vO a):Rn 182 (oV a) (oV (bBX a))/\wO (bBX a):=by
 have l1:=zQ (A9 ha);refine⟨?_,zC (by omega) (by omega)⟩
 refine dR (λL n=>bGL a L n) ?_
 simp only[aRF,aL5];have r5:=uT (a:=(dU a).den) (b:=(dU a).num) (by omega) (by omega)
 exact lc (rX hF a) rfl (lc r5 rfl (lr rfl))
omit hF in
def D4{o:G.O}(h:o.kind=1):Rn 219 (oV o) (iI 1):=by
 refine dR (λL n=>bGt o L n) ?_
 simp only[aRn,aLR,bF h,bN];exact lr rfl
omit hF in
def aN3{a b:G.O}(ka:a.kind=1)(kb:b.kind=1)(ha:vO a)(hb:vO b):Rn 210 (oo a b) (iI (aQD (oU a.num b.den) (oU b.num a.den))):=by
 have l1:=zQ ha;have l2:=zQ hb;have m1:=sH a.num b.den;have m2:=sH b.num a.den;refine dR (λL n=>bGw a b L n) ?_
 simp only[aRq,Xp];refine lc (D4 ka) rfl (lc (D4 kb) rfl ?_);simp only[decide_true,bD,bL];refine lc (D4 ka) rfl ?_;simp only[decide_true,bN];have r1:=zV (a:=a.num) (b:=b.den) (by omega) (by omega)
 have r2:=zV (a:=b.num) (b:=a.den) (by omega) (by omega)
 have r3:=a0s (a:=oU a.num b.den) (b:=oU b.num a.den) (by omega) (by omega)
 exact lc r1 rfl (lc r2 rfl (lc r3 rfl (lr rfl)))
def bLe(a b:G.O):Bool:=aj (aQD (oU (dU a).num (dU b).den) (oU (dU b).num (dU a).den)<0)
def aN1{a b:G.O}(ha:vO a)(hb:vO b):Rn 188 (oo a b) (bb (bLe a b)):=by
 refine dR (λL n=>bGF a b L n) ?_
 simp only[aRz,aL1];exact lc (rX hF a) rfl (lc (rX hF b) rfl (lc (aN3 (aTq a) (aTq b) (A9 ha) (A9 hb)) rfl (lr rfl)))
omit hF
def uP(o:G.O):fY:=if o.kind=3 then o.text else []
def D3(o:G.O):Rn 184 (oV o) (rL (uP o)):=by
 refine dR (λL n=>bGJ o L n) ?_
 simp only[aRD,aL4];unfold uP;by_cases h:o.kind=3
 .rw[bI h];simp only[bF h,bN];exact lr rfl
 .rw[bH h];simp only[bG h,bL];exact lr rfl
def aD9{o:G.O}(h:vO o):(uP o).length<=900:=by
 unfold uP;split
 .exact(zQ h).2.2.2.2
 .exact a8 _
def a0m{s:G.Y}(hb:s.package.length<1000000):XR bb 168 [⟨.rc 1,s⟩] λb=>b=ae->s.package.length<=40/\s.name.length<=40:=by
 refine tY (λL m=>bGQ s L m) ?_
 simp only[aRK,aMj];obtain⟨b,h1,h2⟩:=Qm hb;exact eW h1 rfl ⟨b,jG,h2⟩
abbrev iB(p:Int×Bool):mK:=[⟨.int .i64,p.1⟩,⟨.bool,p.2⟩]
abbrev uB(p:Int×Bool):mK:=[⟨.int .u8,p.1⟩,⟨.bool,p.2⟩]
def aEs{a b:G.O}(hb:vO b):XR iB 189 (oo a b) λp=>p.2=ae->0<=p.1/\p.1<(a.text.length:Int):=by
 have l1:=zQ hb;refine tY (λL m=>bGE a b L m) ?_
 simp only[aRy,XD,WT,XC,WS,XB];have z: ∀{P:Int×Bool->Prop},P (0,ah)->EX iB (λ_ _=>aa [⟨.int .i64,(0:Int)⟩,⟨.bool,ah⟩]) P:=λh=>⟨(0,ah),jG,h⟩
 have nf: ∀{Q:Prop},((0:Int),ah).2=ae->Q:=λh=>by cases h
 refine dQ (λ_=>?_) λ_=>?_
 .simp only[bN];exact z nf
 .refine eW (D8 b) rfl ?_;simp only[];refine dQ (λ_=>z nf) λ_=>?_
  refine eW (Ql (s:=b.num) (by omega)) rfl ?_
  simp only[];refine dQ (λ_=>?_) λh1=>dQ (λ_=>?_) λh2=>dQ (λ_=>z nf) λh3=>?_
  .simp only[bN];exact z nf
  .simp only[bN];exact z nf
  .have e2:=of_decide_eq_false h2;have e3:=of_decide_eq_false h3;exact⟨((bAt b.num).1,ae),jG,λ_=>⟨by simp only[];omega,by simp only[];omega⟩⟩
def aEr{a:G.O}(ha:vO a):XR uB 185 (oV a) λ_=>True:=by
 have l1:=zQ ha;refine tY (λL m=>bGI a L m) ?_
 simp only[aRC,XF,WU,XE];have z:EX uB (λ_ _=>aa [⟨.int .u8,(0:Int)⟩,⟨.bool,ah⟩]) (λ_=>True):=⟨(0,ah),jG,trivial⟩
 have o: ∀k:Int,EX uB (λ_ _=>aa [⟨.int .u8,k⟩,⟨.bool,ae⟩]) (λ_=>True):=λk=>⟨(k,ae),jG,trivial⟩
 refine eW (D8 a) rfl ?_;simp only[];refine dQ (λ_=>z) λ_=>?_
 refine eW (Ql (s:=a.num) (by omega)) rfl ?_
 simp only[];refine dQ (λ_=>?_) λ_=>dQ (λ_=>?_) λ_=>dQ (λ_=>z) λ_=>o _
 .simp only[bN];exact z
 .simp only[bN];exact z
def bIT(p n:fY)(hp:p.length<=100000)(hn:n.length<=100000):wO ⟨2,[],[],⟨p,n⟩,[],[]⟩:=lJ.2 ⟨a8 _,a8 _,hp,hn,a8 _,a8 _,rfl⟩
def aDO(s:fY)(h:s.length<=100000):wO ⟨3,[],[],a88,s,[]⟩:=lJ.2 ⟨a8 _,a8 _,a8 _,a8 _,h,a8 _,rfl⟩
def oC{o:G.O}(h:wO o):EX oV (λ_ _=>aa (oV o)) wO:=⟨o,jG,h⟩
include hF
def a0i{nm:fY}{x:G.O}(hx:vO x):XR oV 154 [⟨.str,nm⟩,⟨.rc 2,x⟩] wO:=by
 have l1:=zQ hx;have lf:=zQ (A9 hx);refine tY (λL m=>bGV nm x L m) ?_
 have qp: ∀b,EX oV (λL m=>dP (bP L m 179 [⟨.bool,b⟩]) λ(r4:G.O×Unit)=>aa [⟨.rc 2,r4.1⟩]) wO:=λb=>eW (D7 b) rfl (oC (aDV (aSr b)))
 have ν: ∀b,EX oV (λL m=>OL (bP L m) L b nm nm (dU x) x By) wO:=by
  intro b;simp only[OL,XY];refine dQ (λ_=>?_) λ_=>dQ (λ_=>qp _) λ_=>dQ (λ_=>qp _) λ_=>dQ (λ_=>qp _) λ_=>dQ (λ_=>qp _) λ_=>dQ (λ_=>?_) λ_=>dQ (λ_=>?_) λ_=>dQ (λ_=>?_) λ_=>dQ (λ_=>?_) λ_=>dQ (λ_=>?_) λ_=>dQ (λ_=>?_) λ_=>dQ (λ_=>?_) λ_=>dQ (λ_=>?_) λ_=>dQ (λ_=>?_) λ_=>dQ (λ_=>?_) λ_=>?_
  .refine eW (aCn x) rfl ?_;simp only[];refine dQ (λ_=>eW BE rfl (oC (by rfl))) λh=>?_
   have h2:aj ((x.pair.length:Int)=2)=ae:=by
    cases h3:aj (x.kind=4)<;>cases h4:aj ((x.pair.length:Int)=2)<;>simp[h3,h4]at h⊢
   obtain⟨a,b,e⟩:=SL h2;have m:=(a7g (aDV hx)).2;have e0:cU x.pair (0:Int)=aa a:=by rw[e];rfl
   have e1:cU x.pair (1:Int)=aa b:=by rw[e];rfl
   simp only[e0,e1,cH];exact dQ (λ_=>oC (bO'_mem m (by rw[e];simp))) λ_=>oC (bO'_mem m (by rw[e];simp))
  .exact eW (D8 x) rfl (qp _)
  .have r:=a0p hF hx;exact eW r.1 rfl (oC r.2)
  .have r:=a0o hF hx;exact eW r.1 rfl (oC r.2)
  .exact eW (uT (a:=(dU x).num) (b:=[49]) (by omega) (by simp)) rfl (oC (zC (by omega) (by simp)))
  .exact eW (uT (a:=(dU x).den) (b:=[49]) (by omega) (by simp)) rfl (oC (zC (by omega) (by simp)))
  .have d:=aPC (dU x).num (dU x).den;exact eW (a0r (a:=(dU x).num) (b:=(dU x).den) (by omega) (by omega)) rfl (eW (uT (a:=(aCY (dU x).num (dU x).den).1) (b:=[49]) (by omega) (by simp)) rfl (oC (zC (by omega) (by simp))))
  .exact eW (AF x.sym.name) rfl (oC (aDO _ (by omega)))
  .exact eW (AF x.sym.package) rfl (oC (aDO _ (by omega)))
  .have sl:=aD9 hx;have fl:=Dw (uP x).length;exact eW (D3 x) rfl (eW (SW hF (k:=(uP x).length) (by omega)) rfl (oC (zC (by omega) (by simp))))
  .obtain⟨p,p1,_⟩:=aEr hx;refine eW p1 rfl ?_;simp only[];refine dQ (λ_=>eW (AF []) rfl (oC (aDO _ (by simp)))) λ_=>?_
   rw[show qH [p.1]=aa [UInt8.ofNat p.1.toNat] from rfl]
   simp only[cH];exact eW (AF [UInt8.ofNat p.1.toNat]) rfl (oC (aDO _ (by simp)))
  .exact oC (by rfl)
 simp only[aRP,XZ];exact eW (rX hF x) rfl (dQ (λ_=>ν _) λ_=>ν _)
def a0h{nm:fY}{x y:G.O}(hx:vO x)(hy:vO y):XR oV 155 [⟨.str,nm⟩,⟨.rc 2,x⟩,⟨.rc 2,y⟩] wO:=by
 have lx:=zQ hx;have ly:=zQ hy;have sx:=aD9 hx;have sy:=aD9 hy;refine tY (λL m=>a6V nm x y L m) ?_
 have qp: ∀b,EX oV (λL m=>dP (bP L m 179 [⟨.bool,b⟩]) λ(r4:G.O×Unit)=>aa [⟨.rc 2,r4.1⟩]) wO:=λb=>eW (D7 b) rfl (oC (aDV (aSr b)))
 have ν: ∀b,EX oV (λL m=>OJ (bP L m) L b ⟨uP y,uP x⟩ By) wO:=by
  intro b;simp only[OJ,XX];exact dQ (λ_=>eW BE rfl (oC (by rfl))) λ_=>eW (SU ⟨uP y,uP x⟩) rfl (oC (bIT _ _ (by omega) (by omega)))
 simp only[aLb,Pj];refine dQ (λ_=>?_) λ_=>dQ (λ_=>?_) λ_=>dQ (λ_=>?_) λ_=>dQ (λ_=>?_) λ_=>dQ (λ_=>?_) λ_=>dQ (λ_=>?_) λ_=>dQ (λ_=>?_) λ_=>dQ (λ_=>?_) λ_=>?_
 .exact eW (ZO x (aDV hx) y) rfl (qp _)
 .refine eW (aN2 x y) rfl (oC (lJ.2 ⟨a8 _,a8 _,a8 _,a8 _,a8 _,aS _,?_⟩));show(UP 100000 [x,y]&&ae)=ae;simp only[UP,aDV hx,aDV hy];rfl
 .have r:=a0n hF hx hy;exact eW r.1 rfl (oC r.2)
 .have r:=aNZ hF hx hy;exact eW r.1 rfl (oC r.2)
 .exact eW (aN1 hF hx hy) rfl (qp _)
 .refine eW (D3 y) rfl (eW (D3 x) rfl ?_);refine dQ (λ_=>ν _) λ_=>dQ (λ_=>ν _) λ_=>?_
  obtain⟨b,b1,_⟩:=a0m (s:=⟨uP y,uP x⟩) (show(uP y).length<_ by omega)
  exact eW b1 rfl (ν _)
 .refine eW (D3 x) rfl (eW (D3 y) rfl ?_);have e:an (ak (uP x)+ak (uP y)) 1000000000=ae:=by rw[d7];omega
  simp only[e,eZ];exact eW (AF (uP x++uP y)) rfl (oC (aDO _ (by simp;omega)))
 .obtain⟨p,p1,p2⟩:=aEs (a:=x) hy;refine eW p1 rfl ?_;simp only[];refine dQ (λ_=>eW BE rfl (oC (by rfl))) λh=>?_
  have q:=p2 (by simpa using h)
  obtain⟨k,hk⟩: ∃k:Nat,p.1=(k:Int):=⟨p.1.toNat,by omega⟩
  obtain⟨v,hv,_⟩:=iR (show k<x.text.length by omega)
  have e:cU x.text p.1=aa v:=by rw[hk,bV,hv]
  have vl:=v.toNat_lt;have w:IntKind.i64.wrap (v.toNat:Int)=((v.toNat:Nat):Int):=wr (by omega) (by omega)
  simp only[e,cH,w];have fl:=Dw v.toNat;exact eW (SW hF (k:=v.toNat) (by omega)) rfl (oC (zC (by omega) (by simp)))
 .exact oC (by rfl)
omit hF in
def aEx(f:G.Y):Rn 81 [⟨.rc 1,f⟩] (oI (arity f)):=kY 2 1000 λL n hL=>YR f L n hL
abbrev pr(p:G.O×Int):mK:=[⟨.rc 2,p.1⟩,⟨.int .i64,p.2⟩]
omit hF in
def aQT{f:G.Y}{n:Int}(h:arity f=aa n):n=1∨n=2∨n=3:=by
 have all:rowsL.all (λr=>decide (r.arity=1)||aj (r.arity=2)||aj (r.arity=3))=ae:=by decide+kernel
 have go: ∀(l:List G.R) (s:fY),sX s l=aa n->l.all (λr=>decide (r.arity=1)||aj (r.arity=2)||aj (r.arity=3))=ae->n=1∨n=2∨n=3:=by
  intro l s;induction l with
  |nil=>intro h _;cases h
  |cons r l ih=>
   intro h ha;rw[aP,aC]at ha;rw[sX]at h;split at h
   .cases h;have:=ha.1;simp only[Bool.or_eq_true,aD]at this;omega
   .exact ih h ha.2
 unfold arity at h;split at h
 .exact go rowsL f.name h all
 .cases h
def aEy{f:G.Y}{l:List G.O}(hl: ∀o∈l,vO o):XR pr 124 [⟨.rc 1,f⟩,⟨.sl (.rc 2),l⟩] λp=>vO p.1:=by
 refine tY (λL m=>a6X f l L m) ?_
 have z: ∀e:Int,EX pr (λ_ _=>aa [⟨.rc 2,By⟩,⟨.int .i64,e⟩]) (λp=>vO p.1):=λe=>⟨(By,e),jG,by rfl⟩
 have ν: ∀o,wO o->EX pr (λL m=>Gg (bP L m) L o By) λp=>vO p.1:=by
  intro o ho;simp only[Gg,Py];obtain⟨b,b1,b2⟩:=aEu ho;refine eW b1 rfl (dQ (λ_=>z _) λh=>⟨(o,0),jG,b2 (by simpa using h)⟩)
 simp only[aLe,Pz];have ra:=aEx f;cases h:arity f with
 |none=>
  rw[h]at ra;refine eW ra rfl ?_;simp only[b8,bN];exact z _
 |some n=>
  rw[h]at ra;refine eW ra rfl ?_;simp only[bD,bL];refine dQ (λ_=>z _) λh1=>?_
  have hlen:(l.length:Int)=n:=by simpa using h1
  have hn:=aQT h;refine dQ (λh2=>?_) λh2=>dQ (λh3=>?_) λh3=>?_
  .have e:=of_decide_eq_true h2
   match l,hlen,hl with
   |[a],_,hl=>
    have e0:cU [a] (0:Int)=aa a:=rfl;simp only[e0,cH];obtain⟨o,o1,o2⟩:=a0i hF (nm:=f.name) (hl a (by simp))
    exact eW o1 rfl (ν o o2)
   |[],h,_=>simp at h;omega
   |_::_::_,h,_=>simp at h;omega
  .have e:=of_decide_eq_true h3
   match l,hlen,hl with
   |[a,b],_,hl=>
    have e0:cU [a,b] (0:Int)=aa a:=rfl;have e1:cU [a,b] (1:Int)=aa b:=rfl;simp only[e0,e1,cH];obtain⟨o,o1,o2⟩:=a0h hF (nm:=f.name) (hl a (by simp)) (hl b (by simp))
    exact eW o1 rfl (ν o o2)
   |[],h,_=>simp at h;omega
   |[_],h,_=>simp at h;omega
   |_::_::_::_,h,_=>simp at h;omega
  .have e2:=of_decide_eq_false h2;have e3:=of_decide_eq_false h3
   match l,hlen,hl with
   |[a,b,d],_,hl=>
    have e0:cU [a,b,d] (0:Int)=aa a:=rfl;have e1:cU [a,b,d] (1:Int)=aa b:=rfl;have e2:cU [a,b,d] (2:Int)=aa d:=rfl;simp only[e0,e1,e2,cH];refine eW (aEw a (aDV (hl a (by simp)))) rfl ?_
    simp only[];exact dQ (λ_=>ν d (aDV (hl d (by simp)))) λ_=>ν b (aDV (hl b (by simp)))
   |[],h,_=>simp at h;omega
   |[_],h,_=>simp at h;omega
   |[_,_],h,_=>simp at h;omega
   |_::_::_::_::_,h,_=>simp at h;omega
end
end Go.TV
namespace Go.TV
open Go.AI Go.PI Go.Proofs
set_option maxRecDepth 20000
structure a82(B:Nat)(w:List G.E):Prop where
 l:w.length<=B
 f: ∀e∈w,e.functions.length<=B
def T5(e:G.E):List G.F:=if e.kind=3∨e.kind=5∨e.kind=6∨e.kind=7 then e.functions else []
def aPq{B:Nat}{e:G.E}(h:e.functions.length<=B):(T5 e).length<=B:=by
 unfold T5;split
 .exact h
 .exact a8 _
def aHN{e:G.E}{L n:Nat}:bP L (n+1) 107 [⟨.rc 15,e⟩]=aa [⟨.sl (.rc 4),T5 e⟩]:=by
 rw[a6Z,aLg,PL];simp only[OZ,PK];unfold T5;by_cases h3:e.kind=3
 .simp[h3,bR]
 .by_cases h5:e.kind=5
  .simp[h5,bR]
  .by_cases h6:e.kind=6
   .simp[h6,bR]
   .by_cases h7:e.kind=7<;>simp[h3,h5,h6,h7,bR]
def a6a(f:G.Y):List G.F->Nat->Option Nat
 |[],_=>ad
 |x::l,k=>if x.name=f then aa k else a6a f l (k+1)
def aO0(f:G.Y):List G.E->Nat->Option (Nat×Nat)
 |[],_=>ad
 |e::l,i=>match a6a f (T5 e) 0 with|some k=>aa (i,k)|none=>aO0 f l (i+1)
def aHL{f:G.Y}: ∀{l:List G.F} {j k:Nat},a6a f l j=aa k->j<=k/\∃g,l[k-j]?=aa g
 |[],_,_,h=>by cases h
 |x::l,j,k,h=>by
  rw[a6a]at h;split at h
  .cases h;exact⟨aS _,x,by simp⟩
  .obtain⟨h1,g,h2⟩:=aHL h;exact⟨by omega,g,by rw[show k-j=(k-(j+1))+1 by omega];simpa using h2⟩
def TE{f:G.Y}: ∀{l:List G.E} {j i k:Nat},aO0 f l j=aa (i,k)->j<=i/\∃e g,l[i-j]?=aa e/\(T5 e)[k]?=aa g
 |[],_,_,_,h=>by cases h
 |x::l,j,i,k,h=>by
  rw[aO0]at h;split at h
  .rename_i k' hk;cases h;obtain⟨_,g,h2⟩:=aHL hk;exact⟨aS _,x,g,by simp,by simpa using h2⟩
  .obtain⟨h1,e,g,h2,h3⟩:=TE h;exact⟨by omega,e,g,by rw[show i-j=(i-(j+1))+1 by omega];simpa using h2,h3⟩
def bQD:Option (Nat×Nat)->mK
 |some (i,k)=>[⟨.int .i64,(i:Int)⟩,⟨.int .i64,(k:Int)⟩,⟨.bool,ae⟩]
 |none=>[⟨.int .i64,(0:Int)⟩,⟨.int .i64,(0:Int)⟩,⟨.bool,ah⟩]
def aGr{W:Type}{l:List G.F}{K:List G.F×Unit->Option W}:fN (D:=U0.D) [.sl (.rc 4)] (aa [⟨.sl (.rc 4),l⟩]) K=K (l,()):=rfl
def aOr{c:bT}{L:Nat}{n1:List G.E->Int->G.Y->Rt}{f:G.Y}{a:List G.F}{i:Int}{w:List G.E}(hb:a.length<1000000000): ∀(l:List G.F) (k m:Nat),a.drop k=l->l.length<m->
    qL c L n1 m a (k:Int) i w f=match a6a f l k with|some j=>aa [⟨.int .i64,i⟩,⟨.int .i64,(j:Int)⟩,⟨.bool,ae⟩]|none=>n1 w (IntKind.i64.wrap (i+(1:Int))) f:=by
 intro l;induction l with
 |nil=>
  intro k m h1 h3;obtain⟨m,rfl⟩: ∃m',m=m'+1:=⟨m-1,by simp at h3;omega⟩
  have e1:=cI h1;rw[qL,Cy,bG (by omega: ¬(k:Int)<(a.length:Int)),bL];rfl
 |cons x l ih=>
  intro k m h1 h3;obtain⟨m,rfl⟩: ∃m',m=m'+1:=⟨m-1,by simp at h3;omega⟩
  obtain⟨a1,a2,a3⟩:=cL h1;rw[qL,Cy,bF (by omega:(k:Int)<(a.length:Int)),bN,bV,a1,cH,a6a,eC (by omega)]
  by_cases e:x.name=f
  .rw[bF e,bN,bI e]
  .rw[bG e,bL,bH e];exact ih (k+1) m a3 (by simp at h3;omega)
def aOp{L n B:Nat}{f:G.Y}{a:List G.E}(hB:B<1000000)(hL:B<L)(ha:a82 B a): ∀(l:List G.E) (k m:Nat),a.drop k=l->l.length<m->
    pI (bP L (n+1)) L m a (k:Int) f=aa (bQD (aO0 f l k)):=by
 intro l;have h0:=ha.l;induction l with
 |nil=>
  intro k m h1 h3;obtain⟨m,rfl⟩: ∃m',m=m'+1:=⟨m-1,by simp at h3;omega⟩
  have e1:=cI h1;rw[pI,Cz,bG (by omega: ¬(k:Int)<(a.length:Int)),bL];rfl
 |cons x l ih=>
  intro k m h1 h3;obtain⟨m,rfl⟩: ∃m',m=m'+1:=⟨m-1,by simp at h3;omega⟩
  obtain⟨a1,a2,a3⟩:=cL h1;have hx:=aPq (ha.f x (ef a1));rw[pI,Cz,bF (by omega:(k:Int)<(a.length:Int)),bN,bV,a1,cH,aHN,aGr,aO0]
  refine(aOr (c:=bP L (n+1)) (n1:=pI (bP L (n+1)) L m) (a:=T5 x) (Nat.lt_of_le_of_lt hx (by omega)) (T5 x) 0 L rfl (by omega)).trans ?_
  rw[eC (by omega)]
  cases a6a f (T5 x) 0 with
  |some j=>rfl
  |none=>exact ih (k+1) m a3 (by simp at h3;omega)
def zA:G.T:=⟨0,⟨[],[]⟩,⟨0,[],[],⟨[],[]⟩,[],[]⟩,[]⟩
def bQa:G.F:=⟨⟨[],[]⟩,[],0,zA,zA,zA⟩
def aCT(w:List G.E)(f:G.Y):Option G.F:=match aO0 f w 0 with
 |some (i,k)=>(w[i]?).bind λe=>(T5 e)[k]?
 |none=>ad
def bNh:Option G.F->mK
 |some g=>[⟨.rc 4,g⟩,⟨.bool,ae⟩]
 |none=>[⟨.rc 4,bQa⟩,⟨.bool,ah⟩]
def a54{L n B:Nat}{f:G.Y}{w:List G.E}(hB:B<1000000)(hL:B<L)(ha:a82 B w):bP L (n+3) 82 [⟨.sl (.rc 15),w⟩,⟨.rc 1,f⟩]=aa (bNh (aCT w f)):=by
 have h0:=ha.l;have h1:bP L (n+2) 106 [⟨.sl (.rc 15),w⟩,⟨.rc 1,f⟩]=aa (bQD (aO0 f w 0)):=by
  rw[a62,aLh,PM];exact aOp hB hL ha w 0 L rfl (by omega)
 rw[bOR,bHV,aLx,h1,aCT];cases h2:aO0 f w 0 with
 |none=>rfl
 |some p=>
  obtain⟨i,k⟩:=p;obtain⟨_,e,g,h3,h4⟩:=TE h2;rw[Nat.sub_zero]at h3;have i1:cU w (i:Int)=aa e:=(bV w i).trans h3;have i2:cU (T5 e) (k:Int)=aa g:=(bV (T5 e) k).trans h4;show ob (cU w (i:Int)) _=_;rw[i1,cH,aHN,aGr];show ob (cU (T5 e) (k:Int)) _=aa (bNh ((w[i]?).bind λe=>(T5 e)[k]?))
  rw[i2,cH,h3,aL,h4];rfl
def aSx{w:List G.E}(hw:a82 1000 w)(f:G.Y):Rn 82 [⟨.sl (.rc 15),w⟩,⟨.rc 1,f⟩] (bNh (aCT w f)):=kY 3 10000 λL n hL=>a54 (by omega) (by omega) hw
def aIC(w:List G.E)(f:G.Y):Option Int:=match arity f with
 |some n=>aa n
 |none=>(aCT w f).map λg=>(g.params.length:Int)
def a0t{w:List G.E}(hw:a82 1000 w)(f:G.Y):Rn 49 [⟨.sl (.rc 15),w⟩,⟨.rc 1,f⟩] (oI (aIC w f)):=by
 refine dR (λL n=>bOU w f L n) ?_
 have ra:Rn 81 [⟨.rc 1,f⟩] (oI (arity f)):=kY 2 1000 λL n hL=>YR f L n hL
 have rf:=aSx hw f;simp only[bHY,aLM];unfold aIC;cases h:arity f with
 |some n=>rw[h]at ra;refine lc ra rfl ?_;simp only[bN];exact lr rfl
 |none=>
  rw[h]at ra;refine lc ra rfl ?_;simp only[bL];cases h2:aCT w f with
  |none=>rw[h2]at rf;refine lc rf rfl ?_;simp only[b8,bN];exact lr rfl
  |some g=>rw[h2]at rf;refine lc rf rfl ?_;simp only[bD,bL];exact lr rfl
end Go.TV
namespace Go.TV
open Go.AI Go.PI Go.Proofs
def aRd{s:List UInt8}{L n:Nat}:bP L (n+1) 33 [yT s]=aa [yR 1 (⟨eE,s⟩:G.Y)]:=by
 rw[bOV];rfl
def bHT{t:G.T}{s:List UInt8}{k:Int}{L n:Nat}:bP L (n+2) 122 (bJp t s k)=aa (bb (qQ t s k)):=by
 show bP L (n+1+1) 122 [yR 3 _,yT _,yI _]=_;rw[bG4,aRW,YE,aRd,aS3];simp only[Xg,YD,qQ];by_cases e1:t.kind=3
 .by_cases e2:t.name=⟨eE,s⟩
  .simp[e1,e2,bR,bb]
  .simp[e1,e2,bR,bb]
 .simp[e1,bR,bb]
end Go.TV
namespace Go.TV
open Go.AI Go.PI Go.Proofs
set_option maxRecDepth 20000
def aAB{W:Type}{F:Nat->Nat->Option W}{a b:W}(h1:Lp F a)(h2:Lp F b):a=b:=by
 obtain⟨α,hN⟩:=h1;obtain⟨M,hM⟩:=h2;have e1:=hN (max α M) (max α M) (by omega) (by omega)
 have e2:=hM (max α M) (max α M) (by omega) (by omega)
 rw[e1]at e2;exact Option.some.inj e2
abbrev lQ:=List G.S
def JM:lQ->G.Y->Option G.O
 |[],_=>ad
 |b::l,v=>if b.var=v then aa b.value else JM l v
def bQm:Option G.O->mK
 |some o=>[⟨.rc 2,o⟩,⟨.bool,ae⟩]
 |none=>[⟨.rc 2,By⟩,⟨.bool,ah⟩]
def aNF{c:bT}{L:Nat}{v:G.Y}{a:lQ}(hb:a.length<1000000000): ∀(l:lQ) (k m:Nat),a.drop k=l->l.length<m->Ar c L m a (k:Int) v By=aa (bQm (JM l v)):=by
 intro l;induction l with
 |nil=>
  intro k m h1 h3;obtain⟨m,rfl⟩: ∃m',m=m'+1:=⟨m-1,by simp at h3;omega⟩
  have e1:=cI h1;rw[Ar,PA,bG (by omega: ¬(k:Int)<(a.length:Int)),bL];rfl
 |cons x l ih=>
  intro k m h1 h3;obtain⟨m,rfl⟩: ∃m',m=m'+1:=⟨m-1,by simp at h3;omega⟩
  obtain⟨a1,a2,a3⟩:=cL h1;have i1:cU a (k:Int)=aa x:=(bV a k).trans a1;rw[Ar,PA,bF (by omega:(k:Int)<(a.length:Int)),bN,i1,cH,JM]
  by_cases e:x.var=v
  .rw[bF e,bN,cH,bI e];rfl
  .rw[bG e,bL,bH e,eC (by omega)]
   exact ih (k+1) m a3 (by simp at h3;omega)
def aEo{env:lQ}(h:env.length<1000000)(v:G.Y):Rn 121 [⟨.sl (.rc 17),env⟩,⟨.rc 1,v⟩] (bQm (JM env v)):=by
 refine dR (λL n=>bG5 env v L n) ⟨env.length+1,λL n h1 _=>?_⟩
 show aLf (bP L n) L env v=_;rw[aLf,YF];exact aNF (by omega) env 0 L rfl (by omega)
def aSl{v:G.Y}{o:G.O}: ∀{env:lQ},(∀b∈env,vO b.value)->JM env v=aa o->vO o
 |b::l,h,e=>by
  rw[JM]at e;split at e
  .cases e;exact h b (aH ..)
  .exact aSl (λz hz=>h z (aG _ hz)) e
def bnd:List G.Y->List G.O->lQ
 |p::ps,o::os=>⟨p,o⟩::bnd ps os
 |_,_=>[]
def aQM: ∀ps:List G.Y,bnd ps []=[]
 |[]=>rfl
 |_::_=>rfl
def a68(b:List G.O):bnd [] b=[]:=by cases b<;>rfl
def aQQ{c:bT}{L:Nat}{a:List G.Y}{b:List G.O}(ha:a.length<1000000): ∀(l:List G.Y) (k m:Nat) (acc:lQ),a.drop k=l->l.length<m->acc.length=k->Aq c L m a b (k:Int) acc=aa [⟨.sl (.rc 17),acc++bnd l (b.drop k)⟩]:=by
 intro l;induction l with
 |nil=>
  intro k m acc h1 h3 h4;obtain⟨m,rfl⟩: ∃m',m=m'+1:=⟨m-1,by simp at h3;omega⟩
  have e1:=cI h1;rw[Aq,Px,bG (by omega: ¬(k:Int)<(a.length:Int)),bL,OU,Pw,bL,a68,bA]
 |cons x l ih=>
  intro k m acc h1 h3 h4;obtain⟨m,rfl⟩: ∃m',m=m'+1:=⟨m-1,by simp at h3;omega⟩
  obtain⟨a1,a2,a3⟩:=cL h1;have i1:cU a (k:Int)=aa x:=(bV a k).trans a1;rw[Aq,Px,bF (by omega:(k:Int)<(a.length:Int)),bN,OU,Pw]
  by_cases e:k<b.length
  .obtain⟨y,hy,ay⟩:=iR e;have i2:cU b (k:Int)=aa y:=(bV b k).trans hy;have bl:an ((acc.length+ak ([(G.S.mk x y)]:lQ))*144) 1073741824=ae:=by rw[d7];simp;omega
   rw[bF (by omega:(k:Int)<(b.length:Int)),bN,i1,cH,i2,cH,bl,eZ,eC (by omega),ih (k+1) m _ a3 (by simp at h3;omega) (by simp[h4]),ay,bnd]
   simp
  .rw[bG (by omega: ¬(k:Int)<(b.length:Int)),bL,List.drop_eq_nil_of_le (by omega),aQM,bA]
def aN4{a:List G.Y}{b:List G.O}(ha:a.length<1000000):Rn 125 [⟨.sl (.rc 1),a⟩,⟨.sl (.rc 2),b⟩] [⟨.sl (.rc 17),bnd a b⟩]:=by
 refine dR (λL n=>bG2 a b L n) ⟨a.length+1,λL n h1 _=>?_⟩
 show aLd (bP L n) L a b=_;rw[aLd,YA];exact aQQ ha a 0 L [] rfl (by omega) rfl
def aTw: ∀{a:List G.Y} {b:List G.O},(∀o∈b,vO o)->∀x∈bnd a b,vO x.value
 |[],b,_,x,hx=>by cases hx
 |_::_,[],_,x,hx=>by cases hx
 |p::a,o::b,h,x,hx=>by
  rcases List.mem_cons.1 hx with rfl|hx
  .exact h o (aH ..)
  .exact aTw (λz hz=>h z (aG _ hz)) x hx
def aA6: ∀(a:List G.Y) (b:List G.O),(bnd a b).length<=a.length
 |[],b=>aS _
 |_::_,[]=>a8 _
 |p::a,o::b=>by have:=aA6 a b;simp only[bnd,aM];omega
def Gw(o:G.O):Bool:=aj (o.kind=2)&&(aj (o.sym.package=eE)&&aj (o.sym.name=([110,105,108]:fY)))
def a0j(o:G.O):Rn 123 (oV o) (bb (Gw o)):=by
 refine dR (λL n=>bG3 o L n) ?_
 simp only[aRV,YC,Xf,YB];unfold Gw eE;cases aj (o.kind=2)<;>cases aj (o.sym.package=([108,105,115,112]:fY))<;>exact lr rfl
def aAw{o:G.O}(h:vO o):Gw o=ae↔o=aS5:=by
 constructor
 .intro hn;have h7:=(lJ.1 h).2.2.2.2.2.2;rw[aC]at h7;cases o with|mk k n d s t l=>
  cases s with|mk p m=>
  unfold Gw at hn;rw[aC,aC]at hn;have h0:k=2:=of_decide_eq_true hn.1;have h1:=of_decide_eq_true hn.2.1;have h2:=of_decide_eq_true hn.2.2;subst h0;have h8:=h7.2;unfold bIk at h8;simp only[G.O.kind,G.O.num,G.O.den,G.O.text,G.O.pair,decide_true,bD,Bool.false_or,aC,List.isEmpty_iff]at h8;obtain⟨rfl,rfl,rfl,rfl⟩:=h8;have h3:p=eE:=h1;have h4:m=[110,105,108]:=h2;subst h3 h4;rfl
 .rintro rfl;rfl
def bBT(t:G.T)(s:fY)(k:Int):Rn 122 (bJp t s k) (bb (qQ t s k)):=kY 2 0 λL n _=>bHT
def JR{t:G.T}:tO t=ae↔vO t.value/\t.args.length<=1000/\aNM t.args=ae:=by
 cases t with|mk k n v l=>
 simp only[tO,aC,d7,and_assoc];rfl
def tO'_mem: ∀{l:List G.T} {t:G.T},aNM l=ae->t∈l->tO t=ae
 |x::l,t,h,ht=>by
  simp only[aNM,aC]at h;rcases List.mem_cons.1 ht with rfl|ht
  .exact h.1
  .exact tO'_mem h.2 ht
noncomputable def pK(f:G.Y)(l:List G.O):G.O×Int:=
 open Classical in if h: ∃p:G.O×Int,Rn 124 [⟨.rc 1,f⟩,⟨.sl (.rc 2),l⟩] (pr p)then Classical.choose h else(By,7)
def aAf(hF:Gh){f:G.Y}{l:List G.O}(hl: ∀o∈l,vO o):Rn 124 [⟨.rc 1,f⟩,⟨.sl (.rc 2),l⟩] (pr (pK f l))/\vO (pK f l).1:=by
 obtain⟨p,h1,h2⟩:=aEy hF (f:=f) hl;have h: ∃p:G.O×Int,Rn 124 [⟨.rc 1,f⟩,⟨.sl (.rc 2),l⟩] (pr p):=⟨p,h1⟩;have e:Rn 124 [⟨.rc 1,f⟩,⟨.sl (.rc 2),l⟩] (pr (pK f l)):=by unfold pK;rw[dif_pos h];exact Classical.choose_spec h
 refine⟨e,?_⟩;have u:=aAB e h1;have u1:(pK f l).1=p.1:=by injection u with u _;injection u with _ u
 rw[u1];exact h2
abbrev aDt:=G.O×Int×Int
def oD(E:G.T->Int->aDt):List G.T->Int->List G.O->List G.O×Int×Int
 |[],l,acc=>(acc,0,l)
 |t::ts,l,acc=>if(E t l).2.1=0 then oD E ts (E t l).2.2 (acc++ [(E t l).1])else(acc,(E t l).2.1,(E t l).2.2)
def uG(w:List G.E)(f:G.Y):G.F:=(aCT w f).getD bQa
noncomputable def ev(w:List G.E):Nat->G.T->lQ->Int->aDt
 |k,t,env,left=>
  if t.kind=1 then(match JM env t.name with|some o=>(o,0,left)|none=>(By,6,left))
  else if t.kind=2 then(t.value,0,left)
  else if left<1 then(By,9,left)
  else match k with
   |0=>(By,9,left)
   |k+1=>match aIC w t.name with
    |none=>(By,7,left-1)
    |some n=>if n≠(t.args.length:Int)then(By,5,left-1)
     else if arity t.name=ad/\(uG w t.name).cls≠1 then(By,8,left-1)
     else if qQ t Sx 3=ae then
      let r:=ev w k (t.args.getD 0 zA) env (left-1)
      if r.2.1≠0 then r else if Gw r.1=ae then ev w k (t.args.getD 2 zA) env r.2.2 else ev w k (t.args.getD 1 zA) env r.2.2
     else
      let a:=oD (λt l=>ev w k t env l) t.args (left-1) []
      if a.2.1≠0 then(By,a.2.1,a.2.2)
      else match arity t.name with
       |some _=>((pK t.name a.1).1,(pK t.name a.1).2,a.2.2)
       |none=>ev w k (uG w t.name).body (bnd (uG w t.name).params a.1) a.2.2
structure aNr(w:List G.E):Prop where
 b:a82 1000 w
 v: ∀f g,aCT w f=aa g->tO g.body=ae/\g.params.length<=1000
def bF7{w:List G.E}(hw:aNr w)(f:G.Y):tO (uG w f).body=ae/\(uG w f).params.length<=1000:=by
 unfold uG;cases h:aCT w f with
 |none=>exact⟨by rfl,a8 _⟩
 |some g=>exact hw.v f g h
abbrev aSz(w:List G.E)(r:aDt):mK:=[⟨.rc 2,r.1⟩,⟨.int .i64,r.2.1⟩,⟨.rc 19,(⟨w,r.2.2⟩:G.W)⟩]
def a86(w:List G.E)(E:G.T->lQ->Int->aDt)(left:Int):Prop:= ∀(t:G.T) (env:lQ) (l:Int),l<=left->0<=l->tO t=ae->(∀b∈env,vO b.value)->env.length<=1000->
 Rn 94 [⟨.rc 3,t⟩,⟨.sl (.rc 17),env⟩,⟨.rc 19,(⟨w,l⟩:G.W)⟩] (aSz w (E t env l))/\vO (E t env l).1/\0<=(E t env l).2.2/\(E t env l).2.2<=l
def bJr(c:bT)(w:List G.E)(pb:Bool)(nm:G.Y)(f:G.F)(a:List G.O)(l:Int):Rt:=
 bR pb (fN [.rc 2,.int .i64] (c 124 [⟨.rc 1,nm⟩,⟨.sl (.rc 2),a⟩]) λ(r2:G.O×Int×Unit)=>aa [⟨.rc 2,r2.1⟩,⟨.int .i64,r2.2.1⟩,⟨.rc 19,(⟨w,l⟩:G.W)⟩])
  (fN [.sl (.rc 17)] (c 125 [⟨.sl (.rc 1),f.params⟩,⟨.sl (.rc 2),a⟩]) λ(r3:lQ×Unit)=>Ez (c 94 [⟨.rc 3,f.body⟩,⟨.sl (.rc 17),r3.1⟩,⟨.rc 19,(⟨w,l⟩:G.W)⟩]) λ(r4:G.O×Int×G.W×Unit)=>aa [⟨.rc 2,r4.1⟩,⟨.int .i64,r4.2.1⟩,⟨.rc 19,r4.2.2.1⟩])
def a6e{w:List G.E}{E:G.T->lQ->Int->aDt}{left:Int}(h:a86 w E left){env:lQ}(he: ∀b∈env,vO b.value)(hl:env.length<=1000){t:G.T}(ht:t.args.length<=1000){pb:Bool}{f:G.F}:
    ∀(ts:List G.T) (k:Nat) (l:Int) (acc:List G.O),t.args.drop k=ts->l<=left->0<=l->aNM ts=ae->(∀o∈acc,vO o)->acc.length=k->
      (∃α,∀L n m,α<=L->α<=n->α<=m->Bv (bP L n) L m env (k:Int) pb acc (⟨w,l⟩:G.W) t f By=
        if(oD (λt l=>E t env l) ts l acc).2.1=0 then bJr (bP L n) w pb t.name f (oD (λt l=>E t env l) ts l acc).1 (oD (λt l=>E t env l) ts l acc).2.2 else aa (aSz w (By,(oD (λt l=>E t env l) ts l acc).2.1,(oD (λt l=>E t env l) ts l acc).2.2)))/\
      (∀o∈(oD (λt l=>E t env l) ts l acc).1,vO o)/\0<=(oD (λt l=>E t env l) ts l acc).2.2/\(oD (λt l=>E t env l) ts l acc).2.2<=l:=by
 intro ts;induction ts with
 |nil=>
  intro k l acc h1 h2 h3 h4 h5 h6;have e1:=cI h1;refine⟨⟨1,λL n m g1 g2 g3=>?_⟩,h5,h3,Int.le_refl _⟩
  obtain⟨m,rfl⟩: ∃m',m=m'+1:=⟨m-1,by omega⟩
  rw[Bv,Sm,bG (by omega: ¬(k:Int)<(t.args.length:Int)),bL]
  rfl
 |cons x ts ih=>
  intro k l acc h1 h2 h3 h4 h5 h6;obtain⟨a1,a2,a3⟩:=cL h1;simp only[aNM,aC]at h4;obtain⟨⟨N1,hN1⟩,r2,r3,r4⟩:=h x env l h2 h3 h4.1 he hl;have i1:cU t.args (k:Int)=aa x:=(bV _ k).trans a1;have bl:an ((acc.length+ak ([(E x env l).1]:List G.O))*112) 1073741824=ae:=by rw[d7];simp;omega
  by_cases e:(E x env l).2.1=0
  .have es:oD (λt l=>E t env l) (x::ts) l acc=oD (λt l=>E t env l) ts (E x env l).2.2 (acc++ [(E x env l).1]):=by rw[oD,bI e]
   rw[es];obtain⟨⟨N2,hN2⟩,i1',i2,i3⟩:=ih (k+1) (E x env l).2.2 (acc++ [(E x env l).1]) a3 (by omega) r3 h4.2 (λo ho=>by
    rcases List.mem_append.1 ho with ho|ho
    .exact h5 o ho
    .rw[List.mem_singleton]at ho;subst ho;exact r2) (by simp[h6])
   refine⟨⟨max N1 N2+1,λL n m g1 g2 g3=>?_⟩,i1',i2,by omega⟩
   obtain⟨m,rfl⟩: ∃m',m=m'+1:=⟨m-1,by omega⟩
   have c1:bP L n 94 [⟨.rc 3,x⟩,⟨.sl (.rc 17),env⟩,⟨.rc 19,(⟨w,l⟩:G.W)⟩]=aa (aSz w (E x env l)):=hN1 L n (by omega) (by omega)
   rw[Bv,Sm,bF (by omega:(k:Int)<(t.args.length:Int)),bN,i1,cH,c1]
   show bR (!decide ((E x env l).2.1=0)) _ (jY (an ((acc.length+ak ([(E x env l).1]:List G.O))*112) 1073741824) (Bv (bP L n) L m env (IntKind.i64.wrap ((k:Int)+1)) pb (acc++ [(E x env l).1]) (⟨w,(E x env l).2.2⟩:G.W) t f By))=_;rw[bF e,bD,bL,bl,eZ,eC (by omega)]
   exact hN2 L n m (by omega) (by omega) (by omega)
  .have es:oD (λt l=>E t env l) (x::ts) l acc=(acc,(E x env l).2.1,(E x env l).2.2):=by rw[oD,bH e]
   rw[es];refine⟨⟨N1+1,λL n m g1 g2 g3=>?_⟩,h5,r3,r4⟩
   obtain⟨m,rfl⟩: ∃m',m=m'+1:=⟨m-1,by omega⟩
   have c1:bP L n 94 [⟨.rc 3,x⟩,⟨.sl (.rc 17),env⟩,⟨.rc 19,(⟨w,l⟩:G.W)⟩]=aa (aSz w (E x env l)):=hN1 L n (by omega) (by omega)
   rw[Bv,Sm,bF (by omega:(k:Int)<(t.args.length:Int)),bN,i1,cH,c1,bH e]
   show bR (!decide ((E x env l).2.1=0)) (aa (aSz w (By,(E x env l).2.1,(E x env l).2.2))) _=_;rw[bG e,b8,bN]
def bNg{w:List G.E}(hw:a82 1000 w)(f:G.Y):Rn 82 [⟨.sl (.rc 15),w⟩,⟨.rc 1,f⟩] [⟨.rc 4,uG w f⟩,⟨.bool,(aCT w f).isSome⟩]:=by
 have h:=aSx hw f;unfold uG;cases e:aCT w f with
 |none=>rw[e]at h;exact h
 |some g=>rw[e]at h;exact h
def bPt(f:G.Y):Rn 81 [⟨.rc 1,f⟩] [⟨.int .i64,(arity f).getD 0⟩,⟨.bool,(arity f).isSome⟩]:=by
 have h:=aEx f;cases e:arity f with
 |none=>rw[e]at h;exact h
 |some g=>rw[e]at h;exact h
def aGY{t:G.T}{s:fY}(h:qQ t s 3=ae): ∃a b c,t.args=[a,b,c]:=by
 unfold qQ at h;simp only[aC,aD]at h;have:=h.2
 match t.args,this with
 |[a,b,c],_=>exact⟨a,b,c,rfl⟩
 |[],h=>simp at h
 |[_],h=>simp at h
 |[_,_],h=>simp at h
 |_::_::_::_::_,h=>simp at h;omega
section
variable{w:List G.E}{k:Nat}{t:G.T}{env:lQ}{l:Int}
def G1(h:t.kind=1):ev w k t env l=match JM env t.name with|some o=>(o,0,l)|none=>(By,6,l):=by unfold ev;rw[bI h]
def G0(h1: ¬t.kind=1)(h:t.kind=2):ev w k t env l=(t.value,0,l):=by unfold ev;rw[bH h1,bI h]
def GZ(h1: ¬t.kind=1)(h2: ¬t.kind=2)(h:l<1):ev w k t env l=(By,9,l):=by unfold ev;rw[bH h1,bH h2,bI h]
noncomputable def RA(w:List G.E)(k:Nat)(t:G.T)(env:lQ)(l:Int):aDt:=
 if qQ t Sx 3=ae then(if(ev w k (t.args.getD 0 zA) env l).2.1≠0 then ev w k (t.args.getD 0 zA) env l else if Gw (ev w k (t.args.getD 0 zA) env l).1=ae then ev w k (t.args.getD 2 zA) env (ev w k (t.args.getD 0 zA) env l).2.2 else ev w k (t.args.getD 1 zA) env (ev w k (t.args.getD 0 zA) env l).2.2)
 else if(oD (λt l=>ev w k t env l) t.args l []).2.1≠0 then(By,(oD (λt l=>ev w k t env l) t.args l []).2.1,(oD (λt l=>ev w k t env l) t.args l []).2.2)
 else match arity t.name with
  |some _=>((pK t.name (oD (λt l=>ev w k t env l) t.args l []).1).1,(pK t.name (oD (λt l=>ev w k t env l) t.args l []).1).2,(oD (λt l=>ev w k t env l) t.args l []).2.2)
  |none=>ev w k (uG w t.name).body (bnd (uG w t.name).params (oD (λt l=>ev w k t env l) t.args l []).1) (oD (λt l=>ev w k t env l) t.args l []).2.2
def Rw(h1: ¬t.kind=1)(h2: ¬t.kind=2)(h: ¬l<1):ev w (k+1) t env l=match aIC w t.name with
    |none=>(By,7,l-1)
    |some n=>if n≠(t.args.length:Int)then(By,5,l-1)else if arity t.name=ad/\(uG w t.name).cls≠1 then(By,8,l-1)else RA w k t env (l-1):=by
 rw[ev,bH h1,bH h2,bH h];rfl
end
def aXc(hF:Gh){w:List G.E}{E:G.T->lQ->Int->aDt}{left:Int}(h:a86 w E left)(hw:aNr w){nm:G.Y}{a:List G.O}(ha: ∀o∈a,vO o){l:Int}(h1:l<=left)(h0:0<=l):
    Lp (λL n=>bJr (bP L n) w (arity nm).isSome nm (uG w nm) a l) (aSz w (match arity nm with|some _=>((pK nm a).1,(pK nm a).2,l)|none=>E (uG w nm).body (bnd (uG w nm).params a) l))/\
      vO (match arity nm with|some _=>((pK nm a).1,(pK nm a).2,l)|none=>E (uG w nm).body (bnd (uG w nm).params a) l).1/\
      0<=(match arity nm with|some _=>((pK nm a).1,(pK nm a).2,l)|none=>E (uG w nm).body (bnd (uG w nm).params a) l).2.2/\(match arity nm with|some _=>((pK nm a).1,(pK nm a).2,l)|none=>E (uG w nm).body (bnd (uG w nm).params a) l).2.2<=l:=by
 unfold bJr;cases arity nm with
 |some n=>
  have p:=aAf hF (f:=nm) ha;simp only[Option.isSome_some,bN];exact⟨lc p.1 rfl (lr rfl),p.2,h0,Int.le_refl _⟩
 |none=>
  have fv:=bF7 hw nm;have bl:=aA6 (uG w nm).params a;have r:=h (uG w nm).body (bnd (uG w nm).params a) l h1 h0 fv.1 (aTw ha) (by omega)
  simp only[Option.isSome_none,bL];exact⟨lc (aN4 (a:=(uG w nm).params) (b:=a) (by omega)) rfl (lc r.1 rfl (lr rfl)),r.2⟩
def a6f(hF:Gh){w:List G.E}(hw:aNr w){k:Nat}(h:a86 w (ev w k) (k:Int)){t:G.T}{env:lQ}{l:Int}(h1:l<=(k:Int))(h0:0<=l)(ht:tO t=ae)(he: ∀b∈env,vO b.value)(hl:env.length<=1000):
    Lp (λL n=>Sg (bP L n) L ah env (arity t.name).isSome (⟨w,l⟩:G.W) t (uG w t.name) By) (aSz w (RA w k t env l))/\vO (RA w k t env l).1/\0<=(RA w k t env l).2.2/\(RA w k t env l).2.2<=l:=by
 have tv:=JR.1 ht;unfold RA;simp only[Sg,aBJ,bL];have ri:Rn 122 [⟨.rc 3,t⟩,⟨.str,([105,102]:fY)⟩,⟨.int .i64,(3:Int)⟩] (bb (qQ t Sx 3)):=bBT t Sx 3;cases e:qQ t Sx 3 with
 |true=>
  rw[e]at ri;obtain⟨a,b,d,ea⟩:=aGY e;have g0:t.args.getD 0 zA=a:=by rw[ea];rfl
  have g1:t.args.getD 1 zA=b:=by rw[ea];rfl
  have g2:t.args.getD 2 zA=d:=by rw[ea];rfl
  have i0:cU t.args (0:Int)=aa a:=by rw[ea];rfl
  have i1:cU t.args (1:Int)=aa b:=by rw[ea];rfl
  have i2:cU t.args (2:Int)=aa d:=by rw[ea];rfl
  have ta:tO a=ae:=tO'_mem tv.2.2 (by rw[ea];simp)
  have tb:tO b=ae:=tO'_mem tv.2.2 (by rw[ea];simp)
  have td:tO d=ae:=tO'_mem tv.2.2 (by rw[ea];simp)
  rw[g0,g1,g2,bI rfl];obtain⟨r1,r2,r3,r4⟩:=h a env l h1 h0 ta he hl;by_cases e1:(ev w k a env l).2.1=0
  .rw[bH (λh=>h e1)]
   have rn:=a0j (ev w k a env l).1;cases e2:Gw (ev w k a env l).1 with
   |true=>
    rw[e2]at rn;rw[bI rfl];obtain⟨q1,q2,q3,q4⟩:=h d env (ev w k a env l).2.2 (by omega) r3 td he hl
    refine⟨?_,q2,q3,by omega⟩
    refine lc ri rfl ?_;simp only[bN,i0,cH];refine lc r1 rfl ?_;simp only[e1,decide_true,bD,bL];refine lc rn rfl ?_;simp only[bN,i2,cH];exact lc q1 rfl (lr rfl)
   |false=>
    rw[e2]at rn;rw[bH (by decide)]
    obtain⟨q1,q2,q3,q4⟩:=h b env (ev w k a env l).2.2 (by omega) r3 tb he hl
    refine⟨?_,q2,q3,by omega⟩
    refine lc ri rfl ?_;simp only[bN,i0,cH];refine lc r1 rfl ?_;simp only[e1,decide_true,bD,bL];refine lc rn rfl ?_;simp only[bL,i1,cH];exact lc q1 rfl (lr rfl)
  .rw[bI e1];refine⟨?_,r2,r3,r4⟩;refine lc ri rfl ?_;simp only[bN,i0,cH];refine lc r1 rfl ?_;simp only[bG e1,b8,bN];exact lr rfl
 |false=>
  rw[e]at ri;rw[bH (by decide)]
  obtain⟨⟨α,hN⟩,q1,q2,q3⟩:=a6e h he hl tv.2.1 (pb:=(arity t.name).isSome) (f:=uG w t.name) t.args 0 l [] rfl h1 h0 tv.2.2 (λo ho=>by cases ho) rfl
  by_cases e1:(oD (λt l=>ev w k t env l) t.args l []).2.1=0
  .rw[bH (λh=>h e1)]
   simp only[bI e1]at hN;obtain⟨⟨M,hM⟩,p1,p2,p3⟩:=aXc hF h hw (nm:=t.name) q1 (l:=(oD (λt l=>ev w k t env l) t.args l []).2.2) (by omega) q2
   refine⟨?_,p1,p2,Int.le_trans p3 q3⟩;refine lc ri rfl ?_;simp only[bL];refine⟨max α M,λL n g1 g2=>?_⟩
   have:=hN L n L (by omega) (by omega) (by omega)
   exact this.trans (hM L n (by omega) (by omega))
  .rw[bI e1];simp only[bH e1]at hN;refine⟨?_,by rfl,q2,q3⟩
   refine lc ri rfl ?_;simp only[bL];exact⟨α,λL n g1 g2=>hN L n L (by omega) (by omega) (by omega)⟩
def aAQ(hF:Gh){w:List G.E}(hw:aNr w){k:Nat}(hk:k<=1000000)(ih: ∀k',k=k'+1->a86 w (ev w k') (k':Int)):a86 w (ev w k) (k:Int):=by
 intro t env l h1 h0 ht he hl;have tv:=JR.1 ht;by_cases e1:t.kind=1
 .have rv:=aEo (env:=env) (by omega) t.name
  rw[G1 e1];cases e:JM env t.name with
  |none=>
   rw[e]at rv;refine⟨dR (λL n=>aQL t env (⟨w,l⟩:G.W) L n) ?_,by rfl,h0,Int.le_refl _⟩
   simp only[aLa,zP,bF e1,bN];refine lc rv rfl ?_;simp only[b8,bN];exact lr rfl
  |some o=>
   rw[e]at rv;refine⟨dR (λL n=>aQL t env (⟨w,l⟩:G.W) L n) ?_,aSl he e,h0,Int.le_refl _⟩
   simp only[aLa,zP,bF e1,bN];refine lc rv rfl ?_;simp only[bD,bL];exact lr rfl
 .by_cases e2:t.kind=2
  .rw[G0 e1 e2];refine⟨dR (λL n=>aQL t env (⟨w,l⟩:G.W) L n) ?_,tv.1,h0,Int.le_refl _⟩
   simp only[aLa,zP,bG e1,bF e2,bN,bL];exact lr rfl
  .by_cases e3:l<1
   .rw[GZ e1 e2 e3];refine⟨dR (λL n=>aQL t env (⟨w,l⟩:G.W) L n) ?_,by rfl,h0,Int.le_refl _⟩
    simp only[aLa,zP,bG e1,bG e2,bF e3,bN,bL];exact lr rfl
   .obtain⟨k,rfl⟩: ∃k',k=k'+1:=⟨k-1,by omega⟩
    have h:=ih k rfl;have wl:IntKind.i64.wrap (l-1)=l-1:=wr (by omega) (by omega)
    have ra:=a0t hw.b t.name;rw[Rw e1 e2 e3];cases e4:aIC w t.name with
    |none=>
     rw[e4]at ra;refine⟨dR (λL n=>aQL t env (⟨w,l⟩:G.W) L n) ?_,by rfl,by show 0<=l-1;omega,by show l-1<=l;omega⟩
     simp only[aLa,zP,bG e1,bG e2,bG e3,bN,bL];refine lc ra rfl ?_;simp only[b8,bN];exact lr (by rw[wl];rfl)
    |some n=>
     rw[e4]at ra;by_cases e5:n=(t.args.length:Int)
     .have hj:=a6f hF hw h (t:=t) (env:=env) (l:=l-1) (by omega) (by omega) ht he hl
      have r7:=bPt t.name;have r8:=bNg hw.b t.name
      dsimp only
      rw[bH (λh=>h e5)]
      by_cases e6:arity t.name=ad/\(uG w t.name).cls≠1
      .rw[bI e6];refine⟨dR (λL n=>aQL t env (⟨w,l⟩:G.W) L n) ?_,by rfl,by show 0<=l-1;omega,by show l-1<=l;omega⟩
       simp only[aLa,zP,bG e1,bG e2,bG e3,bN,bL];refine lc ra rfl ?_;simp only[bD,bL,bF e5];rw[e6.1]at r7;refine lc r7 rfl (lc r8 rfl ?_);simp only[Option.isSome_none,b8,bN,bG e6.2,Sg,aBJ];exact lr (by rw[wl];rfl)
      .rw[bH e6];refine⟨dR (λL n=>aQL t env (⟨w,l⟩:G.W) L n) ?_,hj.2.1,hj.2.2.1,by have:=hj.2.2.2;omega⟩
       simp only[aLa,zP,bG e1,bG e2,bG e3,bN,bL];refine lc ra rfl ?_;simp only[bD,bL,bF e5];refine lc r7 rfl (lc r8 rfl ?_);have hj1:=hj.1;have wl':IntKind.i64.wrap (G.W.left ⟨w,l⟩-1)=l-1:=wl;cases e7:arity t.name with
       |none=>
        rw[e7]at hj1;have e8:(uG w t.name).cls=1:=Decidable.byContradiction λh=>e6 ⟨e7,h⟩
        simp only[Option.isSome_none,b8,bN,bF e8,bD,wl'];exact hj1
       |some q=>
        rw[e7]at hj1;simp only[Option.isSome_some,bD,bL,wl'];exact hj1
     .dsimp only
      rw[bI e5];refine⟨dR (λL n=>aQL t env (⟨w,l⟩:G.W) L n) ?_,by rfl,by show 0<=l-1;omega,by show l-1<=l;omega⟩
      simp only[aLa,zP,bG e1,bG e2,bG e3,bN,bL];refine lc ra rfl ?_;simp only[bD,bL,bG e5,b8,bN];exact lr (by rw[wl];rfl)
def Rv(hF:Gh){w:List G.E}(hw:aNr w): ∀k:Nat,k<=1000000->a86 w (ev w k) (k:Int):=by
 intro k;induction k with
 |zero=>exact λhk=>aAQ hF hw hk (λk' h=>by omega)
 |succ k ih=>
  intro hk;refine aAQ hF hw hk λk' h=>?_
  have e:k'=k:=by omega
  rw[e];exact ih (by omega)
end Go.TV
namespace Go.TV
open Go.AI Go.PI Go.Proofs
set_option maxRecDepth 20000
section
variable{w:List G.E}{k:Nat}{t:G.T}{env:lQ}{l:Int}
def a6d(h1: ¬t.kind=1)(h2: ¬t.kind=2)(h: ¬l<1):ev w 0 t env l=(By,9,l):=by unfold ev;rw[bH h1,bH h2,bH h]
end
def Ln{E:G.T->Int->aDt}(h: ∀t l,(E t l).2.2<=l): ∀(ts:List G.T) (l:Int) (acc:List G.O),(oD E ts l acc).2.2<=l
 |[],l,acc=>Int.le_refl _
 |t::ts,l,acc=>by
  rw[oD];split
  .exact Int.le_trans (Ln h ts _ _) (h t l)
  .exact h t l
def Fa(w:List G.E): ∀(k:Nat) (t:G.T) (env:lQ) (l:Int),(ev w k t env l).2.2<=l:=by
 intro k;induction k with
 |zero=>
  intro t env l;by_cases e1:t.kind=1
  .rw[G1 e1];cases JM env t.name<;>exact Int.le_refl _
  .by_cases e2:t.kind=2
   .rw[G0 e1 e2];exact Int.le_refl _
   .by_cases e3:l<1
    .rw[GZ e1 e2 e3];exact Int.le_refl _
    .rw[a6d e1 e2 e3];exact Int.le_refl _
 |succ k ih=>
  intro t env l;by_cases e1:t.kind=1
  .rw[G1 e1];cases JM env t.name<;>exact Int.le_refl _
  .by_cases e2:t.kind=2
   .rw[G0 e1 e2];exact Int.le_refl _
   .by_cases e3:l<1
    .rw[GZ e1 e2 e3];exact Int.le_refl _
    .rw[Rw e1 e2 e3];have hc:(RA w k t env (l-1)).2.2<=l-1:=by
      have hl:=Ln (E:=λt l=>ev w k t env l) (λt l=>ih t env l) t.args (l-1) []
      have i0:=ih (t.args.getD 0 zA) env (l-1);unfold RA;split
      .split
       .exact i0
       .split
        .exact Int.le_trans (ih _ _ _) i0
        .exact Int.le_trans (ih _ _ _) i0
      .split
       .exact hl
       .cases arity t.name with
        |some _=>exact hl
        |none=>exact Int.le_trans (ih _ _ _) hl
     cases aIC w t.name with
     |none=>show l-1<=l;omega
     |some n=>
      dsimp only
      split
      .show l-1<=l;omega
      .split
       .show l-1<=l;omega
       .omega
def bDQ(r:aDt)(d:Int):aDt:=(r.1,0,r.2.2+d)
def Rx{E E':G.T->Int->aDt}{B d:Int}(hle: ∀t l,(E t l).2.2<=l)(h: ∀t l,l<=B->(E t l).2.1=0->E' t (l+d)=bDQ (E t l) d): ∀(ts:List G.T) (l:Int) (acc:List G.O),l<=B->(oD E ts l acc).2.1=0->
    oD E' ts (l+d) acc=((oD E ts l acc).1,0,(oD E ts l acc).2.2+d)
 |[],l,acc,_,_=>rfl
 |t::ts,l,acc,hB,h0=>by
  rw[oD]at h0⊢;rw[oD];by_cases e:(E t l).2.1=0
  .rw[bI e]at h0⊢;have m:=h t l hB e;rw[m,bI (show(bDQ (E t l) d).2.1=0 from rfl)]
   exact Rx hle h ts (E t l).2.2 (acc++ [(E t l).1]) (Int.le_trans (hle t l) hB) h0
  .rw[bH e]at h0;exact absurd h0 e
def aAR(w:List G.E): ∀(k k':Nat) (d:Int) (t:G.T) (env:lQ) (l:Int),0<=d->l+d<=(k':Int)->(ev w k t env l).2.1=0->ev w k' t env (l+d)=bDQ (ev w k t env l) d:=by
 intro k;induction k with
 |zero=>
  intro k' d t env l hd hk h0;by_cases e1:t.kind=1
  .rw[G1 e1]at h0⊢;rw[G1 e1];cases e:JM env t.name with
   |none=>rw[e]at h0;cases h0
   |some o=>rfl
  .by_cases e2:t.kind=2
   .rw[G0 e1 e2,G0 e1 e2];rfl
   .by_cases e3:l<1
    .rw[GZ e1 e2 e3]at h0;cases h0
    .rw[a6d e1 e2 e3]at h0;cases h0
 |succ k ih=>
  intro k' d t env l hd hk h0;by_cases e1:t.kind=1
  .rw[G1 e1]at h0⊢;rw[G1 e1];cases e:JM env t.name with
   |none=>rw[e]at h0;cases h0
   |some o=>rfl
  .by_cases e2:t.kind=2
   .rw[G0 e1 e2,G0 e1 e2];rfl
   .by_cases e3:l<1
    .rw[GZ e1 e2 e3]at h0;cases h0
    .obtain⟨k',rfl⟩: ∃j,k'=j+1:=⟨k'-1,by omega⟩
     have hc:(RA w k t env (l-1)).2.1=0->RA w k' t env (l-1+d)=bDQ (RA w k t env (l-1)) d:=by
      intro g0;have le0:=Fa w k (t.args.getD 0 zA) env (l-1);have i0:=ih k' d (t.args.getD 0 zA) env (l-1) hd (by omega)
      have hl:=Ln (E:=λt l=>ev w k t env l) (λt l=>Fa w k t env l) t.args (l-1) []
      have il:=Rx (E:=λt l=>ev w k t env l) (E':=λt l=>ev w k' t env l) (B:=l-1) (d:=d) (λt l=>Fa w k t env l) (λt' l' h1 h2=>ih k' d t' env l' hd (by omega) h2) t.args (l-1) [] (Int.le_refl _)
      unfold RA at g0⊢;by_cases e4:qQ t Sx 3=ae
      .rw[bI e4]at g0⊢;rw[bI e4];by_cases e5:(ev w k (t.args.getD 0 zA) env (l-1)).2.1=0
       .have h5: ¬(ev w k (t.args.getD 0 zA) env (l-1)).2.1≠0:=λh=>h e5
        rw[bH h5]at g0⊢;have m0:=i0 e5;rw[m0];have q1: ¬(bDQ (ev w k (t.args.getD 0 zA) env (l-1)) d).2.1≠0:=λh=>h rfl
        rw[bH q1];show(if Gw (ev w k (t.args.getD 0 zA) env (l-1)).1=ae then ev w k' (t.args.getD 2 zA) env ((ev w k (t.args.getD 0 zA) env (l-1)).2.2+d)else ev w k' (t.args.getD 1 zA) env ((ev w k (t.args.getD 0 zA) env (l-1)).2.2+d))=_
        by_cases e6:Gw (ev w k (t.args.getD 0 zA) env (l-1)).1=ae
        .rw[bI e6]at g0⊢;rw[bI e6];exact ih k' d _ env _ hd (by omega) g0
        .rw[bH e6]at g0⊢;rw[bH e6];exact ih k' d _ env _ hd (by omega) g0
       .rw[bI e5]at g0;exact absurd g0 e5
      .rw[bH e4]at g0⊢;rw[bH e4];by_cases e5:(oD (λt l=>ev w k t env l) t.args (l-1) []).2.1=0
       .have h5: ¬(oD (λt l=>ev w k t env l) t.args (l-1) []).2.1≠0:=λh=>h e5
        rw[bH h5]at g0⊢;have m0:=il e5;rw[m0];have q1: ¬(((oD (λt l=>ev w k t env l) t.args (l-1) []).1,(0:Int),(oD (λt l=>ev w k t env l) t.args (l-1) []).2.2+d):List G.O×Int×Int).2.1≠0:=λh=>h rfl
        rw[bH q1];cases e6:arity t.name with
        |some q=>
         rw[e6]at g0;have g1:(pK t.name (oD (λt l=>ev w k t env l) t.args (l-1) []).1).2=0:=g0
         show((pK t.name (oD (λt l=>ev w k t env l) t.args (l-1) []).1).1,(pK t.name (oD (λt l=>ev w k t env l) t.args (l-1) []).1).2,(oD (λt l=>ev w k t env l) t.args (l-1) []).2.2+d)=_
         rw[g1];rfl
        |none=>
         rw[e6]at g0;exact ih k' d _ _ _ hd (by omega) g0
       .rw[bI e5]at g0;exact absurd g0 e5
     have e3': ¬l+d<1:=by omega
     rw[Rw e1 e2 e3]at h0⊢;rw[Rw e1 e2 e3'];have ld:l+d-1=l-1+d:=by omega
     cases e4:aIC w t.name with
     |none=>rw[e4]at h0;cases h0
     |some n=>
      rw[e4]at h0
      dsimp only at h0⊢
      by_cases e5:n≠(t.args.length:Int)
      .rw[bI e5]at h0;cases h0
      .rw[bH e5]at h0⊢;rw[bH e5];by_cases e6:arity t.name=ad/\(uG w t.name).cls≠1
       .rw[bI e6]at h0;cases h0
       .rw[bH e6]at h0⊢;rw[bH e6,ld];exact hc h0
def uI(w:List G.E)(t:G.T)(env:lQ)(x:G.O):Prop:= ∃(k:Nat) (l:Int),0<=l/\l<=(k:Int)/\(ev w k t env l).1=x/\(ev w k t env l).2.1=0
def vD{w:List G.E}{t:G.T}{env:lQ}{x y:G.O}(h1:uI w t env x)(h2:uI w t env y):x=y:=by
 obtain⟨k,l,a1,a2,a3,a4⟩:=h1;obtain⟨k',l',b1,b2,b3,b4⟩:=h2;have m1:=aAR w k (k+k') l' t env l b1 (by omega) a4
 have m2:=aAR w k' (k+k') l t env l' a1 (by omega) b4
 rw[show l+l'=l'+l by omega]at m1
 rw[m1]at m2;have:=congrArg Prod.fst m2;show x=y;rw[<-a3,<-b3];exact this
def KN{w:List G.E}{k:Nat}{t:G.T}{env:lQ}{l:Int}(h0:0<=l)(h1:l<=(k:Int))(h:(ev w k t env l).2.1=0):uI w t env (ev w k t env l).1:=⟨k,l,h0,h1,rfl,h⟩
def tr(o:G.O):Bool:= !Gw o
def aS0{w:List G.E}{t:G.T}{env:lQ}{x:G.O}(h1:t.kind=2)(h:uI w t env x):x=t.value:=by
 obtain⟨k,l,_,_,a3,_⟩:=h;rw[G0 (by omega) h1]at a3
 exact a3.symm
def Q7{t:G.T}{s:fY}{n:Int}(h:qQ t s n=ae):t.kind=3:=by
 unfold qQ at h;rw[aC,aC]at h;exact of_decide_eq_true h.1.1
def Tu{w:List G.E}{t a b c:G.T}{env:lQ}{x:G.O}(hi:qQ t Sx 3=ae)(e:t.args=[a,b,c])(h:uI w t env x)(hn: ∀k t l,0<=l->0<=(ev w k t env l).2.2): ∃y,uI w a env y/\(Gw y=ae->uI w c env x)/\(Gw y=ah->uI w b env x):=by
 obtain⟨k,l,a1,a2,a3,a4⟩:=h;have hk:t.kind=3:=Q7 hi;by_cases e3:l<1
 .rw[GZ (by omega) (by omega) e3]at a4;cases a4
 .obtain⟨k,rfl⟩: ∃j,k=j+1:=⟨k-1,by omega⟩
  rw[Rw (by omega) (by omega) e3]at a3 a4
  cases e4:aIC w t.name with
  |none=>rw[e4]at a4;cases a4
  |some n=>
   rw[e4]at a3 a4
   dsimp only at a3 a4
   by_cases e5:n≠(t.args.length:Int)
   .rw[bI e5]at a4;cases a4
   .rw[bH e5]at a3 a4;by_cases e6:arity t.name=ad/\(uG w t.name).cls≠1
    .rw[bI e6]at a4;cases a4
    .rw[bH e6]at a3 a4;unfold RA at a3 a4;have g0:t.args.getD 0 zA=a:=by rw[e];rfl
     have g1:t.args.getD 1 zA=b:=by rw[e];rfl
     have g2:t.args.getD 2 zA=c:=by rw[e];rfl
     rw[bI hi,g0,g1,g2]at a3 a4;by_cases e7:(ev w k a env (l-1)).2.1=0
     .rw[bH (λh=>h e7)]at a3 a4
      have le:=Fa w k a env (l-1);have nn:=hn k a (l-1) (by omega)
      refine⟨_,KN (by omega) (by omega) e7,λhy=>?_,λhy=>?_⟩
      .rw[bI hy]at a3 a4;rw[<-a3];exact KN nn (by omega) a4
      .rw[bH (by rw[hy];decide)]at a3 a4
       rw[<-a3];exact KN nn (by omega) a4
     .rw[bI e7]at a4;exact absurd a4 e7
end Go.TV
namespace Go.TV
open Go.AI Go.PI Go.Proofs
def UO(x:Int):Bool:=aj (x=32)||aj (x=9)||aj (x=10)||aj (x=13)
def IM(x:Int):Bool:=aj (33<=x)&&aj (x<=126)&& !decide (x=40)&& !decide (x=41)&& !decide (x=39)&& !decide (x=34)&& !decide (x=59)&& !decide (x=124)&& !decide (x=58)
def u8(x:UInt8):Int:=(x.toNat:Int)
def bH4(x:Int)(L n:Nat):bP L (n+1) 157 [⟨.int .u8,x⟩]=aa [yB (UO x)]:=by
 rw[bO4];simp only[a7U,XU,Xa,XT,UO];generalize aj (x=32)=a,aj (x=9)=b,aj (x=10)=d,aj (x=13)=e;cases a<;>cases b<;>cases d<;>cases e<;>rfl
def aUq(x:Int)(L n:Nat):bP L (n+1) 161 [⟨.int .u8,x⟩]=aa [yB (IM x)]:=by
 rw[bO2];simp only[a7S,XO,WY,XN,IM];generalize aj (33<=x)=a,aj (x<=126)=b,aj (x=40)=d,aj (x=41)=e,aj (x=39)=f,aj (x=34)=g,aj (x=59)=h,aj (x=124)=i,aj (x=58)=j;cases a
 .rfl
 cases b
 .rfl
 cases d
 case true=>rfl
 cases e
 case true=>rfl
 cases f
 case true=>rfl
 cases g
 case true=>rfl
 cases h
 case true=>rfl
 cases i
 case true=>rfl
 cases j<;>rfl
def aHs{s:List UInt8}{k:Nat}{a b:Int}(hb:s.length<1000000000)(hk:k<=s.length)(h: ∀x,s[k]?=aa x->u8 x≠a)(L n:Nat):bP L (n+1) 158 [yT s,yI (k:Int),⟨.int .u8,a⟩,⟨.int .u8,b⟩]=aa [yB ah]:=by
 rw[bO3];have e0:aj ((0:Int)<=(k:Int))=ae:=by simp
 simp only[a7T,XS,WZ,XQ,e0,bN];cases h1:aj (IntKind.i64.wrap ((k:Int)+1)<(s.length:Int))with
 |false=>rfl
 |true=>
  rw[bN,bV];cases h2:s[k]? with
  |none=>
   exfalso;have:=List.getElem?_eq_none_iff.1 h2;simp only[aD]at h1;rw[eC (by omega)]at h1
   omega
  |some x=>
   have:=h x h2;have e1:aj ((x.toNat:Int)=a)=ah:=by simpa [u8]using this
   rw[cH,e1];rfl
def aQ3{c:bT}{L:Nat}{s r:List UInt8}(hc: ∀x,c 161 [⟨.int .u8,x⟩]=aa [yB (IM x)])(hb:s.length<1000000000)(hr: ∀y,r.head?=aa y->IM (u8 y)=ah):
    ∀(w:List UInt8) (k m:Nat),s.drop k=w++r->w.length<m->(∀x∈w,IM (u8 x)=ae)->Am c L m s (k:Int)=aa [yI ((k+w.length:Nat):Int)]:=by
 intro w;induction w with
 |nil=>
  intro k m h1 h2 _;obtain⟨m,rfl⟩:=sK m 1 (by simp at h2;omega)
  rw[Am,Ph];rw[aW]at h1;cases r with
  |nil=>
   have e1:=cI h1;have e3:aj ((k:Int)<(s.length:Int))=ah:=by simp;omega
   rw[e3,bL,Ge,Gr,bL];rfl
  |cons y r=>
   obtain⟨a1,a2,a3⟩:=cL h1;have e3:aj ((k:Int)<(s.length:Int))=ae:=by simp;omega
   have e4:IM (y.toNat:Int)=ah:=hr y rfl;rw[e3,bN,bV,a1,cH,hc,eH,Ge,Gr,e4,bL];rfl
 |cons x w ih=>
  intro k m h1 h2 h3;obtain⟨m,rfl⟩:=sK m 1 (by simp at h2;omega)
  rw[Am,Ph];obtain⟨a1,a2,a3⟩:=cL h1;have e3:aj ((k:Int)<(s.length:Int))=ae:=by simp;omega
  have e4:IM (x.toNat:Int)=ae:=h3 x (aH ..);rw[e3,bN,bV,a1,cH,hc,eH,Ge,Gr,e4,bN,eC (by omega)]
  rw[ih (k+1) m a3 (by simp at h2;omega) λz hz=>h3 z (aG _ hz)]
  simp only[aM];congr 4;omega
def bHq{s w r:List UInt8}{k L n:Nat}(hb:s.length<1000000000)(hL:s.length<L)(h:s.drop k=w++r)(hw: ∀x∈w,IM (u8 x)=ae)(hr: ∀y,r.head?=aa y->IM (u8 y)=ah):
    bP L (n+2) 162 [yT s,yI (k:Int)]=aa [yI ((k+w.length:Nat):Int)]:=by
 have:=congrArg ak h;simp at this;show bP L (n+1+1) 162 _=_;rw[bO1,a7R,XM];exact aQ3 (λx=>aUq x L n) hb hr w k L h (by omega) hw
def aQ9{c:bT}{L:Nat}{s r:List UInt8}(hc: ∀x,c 157 [⟨.int .u8,x⟩]=aa [yB (UO x)])
    (hh: ∀k:Nat,k<=s.length->(∀x,s[k]?=aa x->u8 x≠35)->c 158 [yT s,yI (k:Int),⟨.int .u8,(35:Int)⟩,⟨.int .u8,(124:Int)⟩]=aa [yB ah])
    (hb:s.length<1000000000) (hr: ∀y,r.head?=aa y->UO (u8 y)=ah/\u8 y≠59/\u8 y≠35):
    ∀(w:List UInt8) (k m:Nat),s.drop k=w++r->w.length<m->(∀x∈w,UO (u8 x)=ae)->tG c L m s (k:Int)=aa [yI ((k+w.length:Nat):Int),yB ae]:=by
 intro w;induction w with
 |nil=>
  intro k m h1 h2 _;obtain⟨m,rfl⟩:=sK m 1 (by simp at h2;omega)
  rw[tG,Pv];rw[aW]at h1;cases r with
  |nil=>
   have e1:=cI h1;have e3:aj ((k:Int)<(s.length:Int))=ah:=by simp;omega
   rw[e3,bL];rfl
  |cons y r=>
   obtain⟨a1,a2,a3⟩:=cL h1;have e3:aj ((k:Int)<(s.length:Int))=ae:=by simp;omega
   obtain⟨e4,e5,e6⟩:=hr y rfl;have e4:UO (y.toNat:Int)=ah:=e4;have e7:aj ((y.toNat:Int)=59)=ah:=by simpa [u8]using e5
   have h8:=hh k (by omega) λx hx=>by rw[a1]at hx;cases hx;exact e6
   rw[e3,bN,bV,a1,cH,hc,eH,e4,bL,cH,e7,bL,h8,eH,bL];rfl
 |cons x w ih=>
  intro k m h1 h2 h3;obtain⟨m,rfl⟩:=sK m 1 (by simp at h2;omega)
  rw[tG,Pv];obtain⟨a1,a2,a3⟩:=cL h1;have e3:aj ((k:Int)<(s.length:Int))=ae:=by simp;omega
  have e4:UO (x.toNat:Int)=ae:=h3 x (aH ..);rw[e3,bN,bV,a1,cH,hc,eH,e4,bN,eC (by omega)]
  rw[ih (k+1) m a3 (by simp at h2;omega) λz hz=>h3 z (aG _ hz)]
  simp only[aM];congr 4;omega
def aUa{s w r:List UInt8}{k L n:Nat}(hb:s.length<1000000000)(hL:s.length<L)(h:s.drop k=w++r)(hw: ∀x∈w,UO (u8 x)=ae)(hr: ∀y,r.head?=aa y->UO (u8 y)=ah/\u8 y≠59/\u8 y≠35):
    bP L (n+2) 126 [yT s,yI (k:Int)]=aa [yI ((k+w.length:Nat):Int),yB ae]:=by
 have:=congrArg ak h;simp at this;show bP L (n+1+1) 126 _=_;rw[bPh,a78,X9];exact aQ9 (λx=>bH4 x L n) (λk h6 hk=>aHs hb h6 hk L n) hb hr w k L h (by omega) hw
end Go.TV
namespace Go.TV
open Go.AI Go.PI Go.Proofs
def aNS{N:Type}{s w r:List N}{k:Nat}(h:s.drop k=w++r)(hk:k<=s.length):slc s (k:Int) ((k+w.length:Nat):Int)=aa w:=by
 have hl:=congrArg ak h;simp at hl;unfold slc;have e1:aj ((0:Int)<=(k:Int))=ae:=by simp
 have e2:aj ((k:Int)<=((k+w.length:Nat):Int))=ae:=by simp;omega
 have e3:aj (((k+w.length:Nat):Int)<=(s.length:Int))=ae:=by simp only[aD];omega
 rw[e1,e2,e3];simp only[Bool.and_self,aI,Int.toNat_natCast,aA];rw[List.drop_take,h];simp
def aGp{W:Type}{a b:List UInt8}{d:Bool}{K:List UInt8×List UInt8×Bool×Unit->Option W}:fN (D:=U0.D) [.str,.str,.bool] (aa [yT a,yT b,yB d]) K=K (a,b,d,()):=rfl
def a2O{W:Type}{a:G.X}{K:G.X×Unit->Option W}:sF (aa [yR 18 a]) K=K (a,()):=rfl
def KR{W:Type}{a:Int}{b:Bool}{K:Int×Bool×Unit->Option W}:vK (aa [yI a,yB b]) K=K (a,b,()):=rfl
def aGq{W:Type}{a:Int}{K:Int×Unit->Option W}:fZ (aa [yI a]) K=K (a,()):=rfl
def aAs{W:Type}{a:List UInt8}{K:List UInt8×Unit->Option W}:jQ (aa [yT a]) K=K (a,()):=rfl
def a2P{W:Type}{a b:List UInt8}{K:List UInt8×List UInt8×Unit->Option W}:fN (D:=U0.D) [.str,.str] (aa [yT a,yT b]) K=K (a,b,()):=rfl
def a2S{W:Type}{a:G.K}{b:Int}{d:G.X}{K:G.K×Int×G.X×Unit->Option W}:fN (D:=U0.D) [.rc 20,.int .i64,.rc 18] (aa [yR 20 a,yI b,yR 18 d]) K=K (a,b,d,()):=rfl
def aUc{x:UInt8}{w:List UInt8}(h1:u8 x≠45)(h2:u8 x<48∨57<u8 x)(L n:Nat):bP (L+1) (n+1) 164 [yT (x::w)]=aa [yT [],yT [],yB ah]:=by
 rw[bGS];have e1:aj ((0:Int)<((x::w).length:Int))=ae:=by simp
 have e2:aj ((x.toNat:Int)=45)=ah:=by simpa [u8]using h1
 have e3:cU (x::w) (0:Int)=aa x:=rfl;rw[aRM,XL,e1,bN,e3,cH,e2,WX,XK,bL,WW,XJ,Cf,XI,e1,bN,e3,cH];have key: ∀b:Bool,b=ah->WV (bP (L+1) n) (L+1) (Cf (bP (L+1) n) (L+1) L) b 0 (x::w) 0=aa [yT [],yT [],yB ah]:=by
  intro b hb;subst hb;rfl
 cases h3:aj ((48:Int)<=(x.toNat:Int))with
 |false=>exact key _ rfl
 |true=>
  rw[bN,cH];have h4:aj ((x.toNat:Int)<=(57:Int))=ah:=by
   simp only[aD]at h3;simp only[bC];simp only[u8]at h2;omega
  exact key _ h4
def bHQ{k p:Int}{w:List UInt8}(h:w.length<=40)(L n:Nat):bP L (n+1) 160 [yR 20 ⟨k,p,[],w,[]⟩,yB ah]=aa [yR 18 ⟨0,0⟩]:=by
 rw[bGT];have e1:aj ((40:Int)<(w.length:Int))=ah:=by simp;omega
 simp only[aRN,XP,e1,bL];rfl
structure aKz(c:bT)(w:List UInt8):Prop where
 a:c 164 [yT w]=aa [yT w,yT [49],yB ae]
 b:c 165 [yT [49]]=aa [yT [49]]
 d:c 165 [yT w]=aa [yT w]
 e:c 93 [yT w,yT [49]]=aa [yT w,yT [49]]
 f:c 166 [yT w]=aa [yI 1]
 g:c 166 [yT [49]]=aa [yI 1]
def SyW(w:List UInt8):Prop:= ∃x l,w=x::l/\u8 x≠45/\(u8 x<48∨57<u8 x)/\w≠ [46]/\w.length<=40
def aAZ{x:Int}(h:IM x=ae):x≠40/\x≠41/\x≠39/\x≠34/\x≠59/\x≠124/\x≠58:=by
 simp only[IM,aC,Bool.not_eq_true',bC]at h;obtain⟨⟨⟨⟨⟨⟨⟨_,h1⟩,h2⟩,h3⟩,h4⟩,h5⟩,h6⟩,h7⟩:=h;exact⟨h1,h2,h3,h4,h5,h6,h7⟩
def bIS(b:Bool)(p:Int)(w:List UInt8):G.K:=bif b then⟨5,p,[],w,[49]⟩else⟨6,p,[],w,[]⟩
def bPz{s w r:List UInt8}{k L n:Nat}{nu:Bool}(hb:s.length<1000000000)(hL:s.length<L)(h:s.drop k=w++r)(h0:w≠ [])(hw: ∀x∈w,IM (u8 x)=ae)(hr: ∀y,r.head?=aa y->IM (u8 y)=ah/\u8 y≠58)
    (hk:(nu=ae/\aKz (bP L (n+2)) w)∨(nu=ah/\SyW w)):
    bP L (n+3) 127 [yT s,yI (k:Int)]=aa [yR 20 (bIS nu (k:Int) w),yI ((k+w.length:Nat):Int),yR 18 ⟨0,0⟩]:=by
 have hl:=congrArg ak h;simp at hl;obtain⟨L,rfl⟩:=sK L 1 (by omega)
 cases hw0:w with
 |nil=>exact(h0 hw0).elim
 |cons x l=>
  rw[<-hw0];have hx:x∈w:=by rw[hw0];exact aH ..
  have h1:s.drop k=x::(l++r):=by rw[h,hw0];rfl
  obtain⟨a1,a2,a3⟩:=cL h1;obtain⟨q1,q2,q3,q4,q5,q6,q7⟩:=aAZ (hw x hx);have d1:aj ((x.toNat:Int)=40)=ah:=by simpa [u8]using q1
  have d2:aj ((x.toNat:Int)=41)=ah:=by simpa [u8]using q2
  have d3:aj ((x.toNat:Int)=39)=ah:=by simpa [u8]using q3
  have d4:aj ((x.toNat:Int)=34)=ah:=by simpa [u8]using q4
  have d5:aj ((x.toNat:Int)=124)=ah:=by simpa [u8]using q6
  have d6:IM (x.toNat:Int)=ae:=hw x hx;have hwd:=bHq (n:=n) hb hL h hw (λy hy=>(hr y hy).1)
  have cw:=aNS h (by omega)
  have hhs:bP (L+1) (n+2) 158 [yT s,yI ((k+w.length:Nat):Int),⟨.int .u8,(58:Int)⟩,⟨.int .u8,(58:Int)⟩]=aa [yB ah]:=by
   refine aHs hb (by omega) (λy hy=>?_) (L+1) (n+1)
   have:s.drop (k+w.length)=r:=by rw[<-List.drop_drop,h];simp
   rw[<-List.head?_drop,this]at hy;exact(hr y hy).2
  show bP (L+1) (n+2+1) 127 _=_;rw[a6W,aLc,Gu,bV,a1,cH,d1,bL,d2,bL,d3,bL,d4,bL,d5,bL,aUq,eH,d6];simp only[bD,bL];rw[hwd,aGq];show ob (slc s (k:Int) ((k+w.length:Nat):Int)) _=_;rw[cw,cH,hhs,eH,bL];rcases hk with⟨rfl,hn⟩|⟨rfl,x',l',e1,e2,e3,e4,e5⟩
  .rw[hn.a,aGp];have e4:aj (w=([46]:List UInt8))=ah:=by
    cases hd:aj (w=([46]:List UInt8))with
    |false=>rfl
    |true=>
     exfalso;simp only[aD]at hd;have h2:=hn.a;rw[hd]at h2;rw[aUc (x:=46) (w:=[]) (by decide) (by decide)]at h2
     cases h2
   rw[e4,bL];simp only[bN];rw[hn.b,aAs];show bR (aj (([49]:List UInt8)=[48])) _ _=_;rw[show aj (([49]:List UInt8)=[48])=ah by decide,bL,hn.d,aAs,aAs]
   show fN (D:=U0.D) [.str,.str] (bP (L+1) (n+2) 93 [yT w,yT [49]]) _=_;rw[hn.e,a2P];show fZ (bP (L+1) (n+2) 166 [yT w]) _=_;rw[hn.f,aGq];show bR (aj ((100:Int)<1)) _ _=_;rw[show aj ((100:Int)<1)=ah by decide,bL]
   show fZ (bP (L+1) (n+2) 166 [yT [49]]) _=_;rw[hn.g,aGq];rfl
  .rw[e1,aUc e2 e3,<-e1,aGp];have e6:aj (w=([46]:List UInt8))=ah:=by simpa using e4
   rw[e6,bL];simp only[bL];rw[bHQ e5,a2O];rfl
def bHM{s r:List UInt8}{k L n:Nat}(hb:s.length<1000000000)(h:s.drop k=40::r):bP L (n+1) 127 [yT s,yI (k:Int)]=aa [yR 20 ⟨1,(k:Int),[],[],[]⟩,yI ((k+1:Nat):Int),yR 18 ⟨0,0⟩]:=by
 obtain⟨a1,a2,a3⟩:=cL h;rw[a6W,aLc,Gu,bV,a1,cH,eC (by omega)]
 rfl
def bHN{s r:List UInt8}{k L n:Nat}(hb:s.length<1000000000)(h:s.drop k=41::r):bP L (n+1) 127 [yT s,yI (k:Int)]=aa [yR 20 ⟨2,(k:Int),[],[],[]⟩,yI ((k+1:Nat):Int),yR 18 ⟨0,0⟩]:=by
 obtain⟨a1,a2,a3⟩:=cL h;rw[a6W,aLc,Gu,bV,a1,cH,eC (by omega)]
 rfl
end Go.TV
namespace Go.TV
open Go.AI Go.PI Go.Proofs
structure dB(s:G.Z):Prop where
 b: ∀x∈s.b,0<=x/\x<256
 p0:0<=s.pos
 p1:s.pos<=(s.b.length:Int)
 l:s.b.length<=100
def bPA(x:Rt)(a:Int):Prop:= ∃(r:Int) (s:G.Z),x=aa [yI r,yR 0 s]/\0<=r/\r<a/\dB s
def jX{W:Type}{a:Int}{b:G.Z}{K:Int×G.Z×Unit->Option W}:vJ (aa [yI a,yR 0 b]) K=K (a,b,()):=rfl
def bHP{s:G.Z}{a:Int}{L n:Nat}(h:dB s)(h1:1<=a):bPA (bP L (n+1) 17 [yI a,yR 0 s]) a:=by
 rw[c17,bP7,aL9];cases e1:aj ((s.b.length:Int)<=s.pos)with
 |true=>exact⟨0,s,rfl,Int.le_refl _,by omega,h⟩
 |false=>
  have e2:aj (a<(1:Int))=ah:=by simp;omega
  simp only[bC]at e1;rw[bL,e2,aKK,aL8,bL];obtain⟨k,hk⟩: ∃k:Nat,s.pos=(k:Int):=⟨s.pos.toNat,by have:=h.p0;omega⟩
  have hl:=h.l;have hkl:k<s.b.length:=by omega
  have e3:s.b[k]?=aa s.b[k]:=aV hkl;obtain⟨q1,q2⟩:=h.b s.b[k] (List.getElem_mem hkl);generalize s.b[k]=v at e3 q1 q2;have e4:IntKind.i64.wrap (((k+1:Nat):Int)-1)=(k:Int):=by
   rw[show((k+1:Nat):Int)-1=(k:Int) by omega];exact aDJ (by omega)
  obtain⟨m,rfl⟩: ∃m:Nat,v=(m:Int):=⟨v.toNat,by omega⟩
  rw[hk,eC (by omega),e4,bV,e3,cH,show aj (a=0)=ah by simp;omega]
  simp only[b8,eZ];rw[aDJ (by omega)]
  exact⟨_,_,rfl,Int.tmod_nonneg _ q1,Int.tmod_lt_of_pos _ (by omega),⟨h.b,by show(0:Int)<=((k+1:Nat):Int);omega,by show((k+1:Nat):Int)<=(s.b.length:Int);omega,h.l⟩⟩
def PT(e:G.E):List G.F:=bif aj (e.kind=3)||aj (e.kind=5)||aj (e.kind=6)||aj (e.kind=7)then e.functions else []
def aUn(e:G.E)(L n:Nat):bP L (n+1) 107 [yR 15 e]=aa [yS 4 (PT e)]:=by
 rw[a6Z];simp only[aLg,PL,OZ,PK,PT];generalize aj (e.kind=3)=a,aj (e.kind=5)=b,aj (e.kind=6)=d,aj (e.kind=7)=f;cases a<;>cases b<;>cases d<;>cases f<;>rfl
def bHL(E:List G.E)(x:Rt):Prop:= ∃(i k:Int) (b:Bool),x=aa [yI i,yI k,yB b]/\(b=ae->∃(i' k':Nat) (e:G.E),i=i'/\k=k'/\E[i']?=aa e/\k'<(PT e).length)
def aGs{W:Type}{a:List G.F}{K:List G.F×Unit->Option W}:fN (D:=U0.D) [.sl (.rc 4)] (aa [yS 4 a]) K=K (a,()):=rfl
def bHK{E:List G.E}{f:G.Y}{c:bT}{L:Nat}{n1:List G.E->Int->G.Y->Rt}{i:Nat}{e:G.E}(he:E[i]?=aa e)(hb:(PT e).length<1000000000)(hn:bHL E (n1 E (IntKind.i64.wrap ((i:Int)+1)) f)):
    ∀(r:List G.F) (k m:Nat),(PT e).drop k=r->r.length<m->bHL E (qL c L n1 m (PT e) (k:Int) (i:Int) E f):=by
 intro r;induction r with
 |nil=>
  intro k m h1 h2;obtain⟨m,rfl⟩:=sK m 1 (by simp at h2;omega)
  have e1:=cI h1;have e3:aj ((k:Int)<((PT e).length:Int))=ah:=by simp;omega
  rw[qL,Cy,e3,bL];exact hn
 |cons x r ih=>
  intro k m h1 h2;obtain⟨m,rfl⟩:=sK m 1 (by simp at h2;omega)
  obtain⟨a1,a2,a3⟩:=cL h1;have e3:aj ((k:Int)<((PT e).length:Int))=ae:=by simp;omega
  rw[qL,Cy,e3,bN,bV,a1,cH,eC (by omega)]
  cases aj (x.name=f)with
  |true=>exact⟨_,_,ae,rfl,λ_=>⟨i,k,e,rfl,rfl,he,a2⟩⟩
  |false=>exact ih (k+1) m a3 (by simp at h2;omega)
def a7G{E:List G.E}{f:G.Y}{c:bT}{L:Nat}(hb:E.length<1000000)(hf: ∀e∈E,(PT e).length<L/\(PT e).length<1000000)(hc: ∀e:G.E,c 107 [yR 15 e]=aa [yS 4 (PT e)]):
    ∀(r:List G.E) (k m:Nat),E.drop k=r->r.length<m->bHL E (pI c L m E (k:Int) f):=by
 intro r;induction r with
 |nil=>
  intro k m h1 h2;obtain⟨m,rfl⟩:=sK m 1 (by simp at h2;omega)
  have e1:=cI h1;have e3:aj ((k:Int)<(E.length:Int))=ah:=by simp;omega
  rw[pI,Cz,e3,bL];exact⟨0,0,ah,rfl,λh=>by cases h⟩
 |cons x r ih=>
  intro k m h1 h2;obtain⟨m,rfl⟩:=sK m 1 (by simp at h2;omega)
  obtain⟨a1,a2,a3⟩:=cL h1;have e3:aj ((k:Int)<(E.length:Int))=ae:=by simp;omega
  rw[pI,Cz,e3,bN,bV,a1,cH,hc,aGs];obtain⟨g1,g2⟩:=hf x (ef a1);refine bHK a1 (by omega) ?_ (PT x) 0 L rfl g1
  rw[eC (by omega)]
  exact ih (k+1) m a3 (by simp at h2;omega)
structure a83(E:List G.E):Prop where
 l:E.length<=1000
 f: ∀e∈E,e.functions.length<=1000
 p: ∀e∈E,∀f∈e.functions,f.params.length<=3
def aPl{e:G.E}{f:G.F}(h:f∈PT e):f∈e.functions:=by
 unfold PT at h;revert h;cases aj (e.kind=3)||aj (e.kind=5)||aj (e.kind=6)||aj (e.kind=7)with
 |true=>exact id
 |false=>intro h;cases h
def aPm(e:G.E):(PT e).length<=e.functions.length:=by
 unfold PT;cases aj (e.kind=3)||aj (e.kind=5)||aj (e.kind=6)||aj (e.kind=7)with
 |true=>exact aS _
 |false=>exact a8 _
def a2Q{W:Type}{a b:Int}{d:Bool}{K:Int×Int×Bool×Unit->Option W}:fN (D:=U0.D) [.int .i64,.int .i64,.bool] (aa [yI a,yI b,yB d]) K=K (a,b,d,()):=rfl
def a2X{W:Type}{a:G.F}{d:Bool}{K:G.F×Bool×Unit->Option W}:fN (D:=U0.D) [.rc 4,.bool] (aa [yR 4 a,yB d]) K=K (a,d,()):=rfl
def bHU{E:List G.E}(hE:a83 E)(f:G.Y){L n:Nat}(hL:2000<=L): ∃(g:G.F) (b:Bool),bP L (n+3) 82 [yS 15 E,yR 1 f]=aa [yR 4 g,yB b]/\g.params.length<=3:=by
 have bFG:bHL E (bP L (n+2) 106 [yS 15 E,yR 1 f]):=by
  show bHL E (bP L (n+1+1) 106 _);rw[a62,aLh,PM];have:=hE.l;exact a7G (by omega) (λe he=>by have:=hE.f e he;have:=aPm e;omega) (λe=>aUn e L n) E 0 L rfl (by omega)
 obtain⟨i,k,b,bFG,hb⟩:=bFG;show∃(g:G.F) (b:Bool),bP L (n+2+1) 82 _=_/\_;rw[bOR,bHV,aLx,bFG,a2Q];cases b with
 |false=>exact⟨_,_,rfl,a8 _⟩
 |true=>
  obtain⟨i',k',e,rfl,rfl,h1,h2⟩:=hb rfl;have h3:(PT e)[k']?=aa (PT e)[k']:=aV h2;simp only[bD,bL];rw[bV,h1,cH,aUn,aGs];simp only[bV,h3,cH];exact⟨_,_,rfl,hE.p e (ef h1) _ (aPl (List.getElem_mem h2))⟩
def aN9:(rowsL.all λr=>decide (0<=r.arity)&&aj (r.arity<=3))=ae:=by kernel_rfl
def IW: ∀(l:List G.R),(l.all λr=>decide (0<=r.arity)&&aj (r.arity<=3))=ae->∀s k,sX s l=aa k->0<=k/\k<=3
 |[],_,s,k,h=>by cases h
 |r::l,h,s,k,hk=>by
  simp only[aP,aC,aD]at h;simp only[sX]at hk;split at hk
  .simp only[aA]at hk;subst hk;exact h.1
  .exact IW l h.2 s k hk
def bId(x:Rt):Prop:= ∃(k:Nat) (b:Bool),x=aa [yI (k:Int),yB b]/\k<=3
def bIc{E:List G.E}(hE:a83 E)(f:G.Y){L n:Nat}(hL:2000<=L):bId (bP L (n+4) 49 [yS 15 E,yR 1 f]):=by
 have h55:=YR f L (n+1) (by omega)
 show bId (bP L (n+3+1) 49 _);rw[bOU,bHY,aLM];show bId (vK (bP L (n+1+2) 81 [yR 1 f]) _);rw[h55];cases ha:arity f with
 |some k=>
  obtain⟨g1,g2⟩:0<=k/\k<=3:=by
   unfold arity at ha;split at ha
   .exact IW rowsL aN9 _ _ ha
   .cases ha
  obtain⟨m,rfl⟩: ∃m:Nat,k=(m:Int):=⟨k.toNat,by omega⟩
  exact⟨m,ae,rfl,by omega⟩
 |none=>
  simp only[oI];rw[KR,bL];obtain⟨g,b,h1,h2⟩:=bHU (n:=n) hE f hL;rw[h1,a2X];cases b with
  |false=>exact⟨0,ah,rfl,by omega⟩
  |true=>exact⟨g.params.length,ae,rfl,h2⟩
end Go.TV
namespace Go.TV
open Go.AI Go.PI Go.Proofs
set_option maxRecDepth 20000
noncomputable section
variable(c:bT)(e:Cu)(L:Nat)
def a2s(c:bT)(e:Cu):Kt:=xK ii0
def bCV:Kt:=xT ii0 c e [1,1,1] (a2s c e)
def a8C(d:Bool->List Int->List Int->Rt)(a:List Int)(b:List Int):Rt:=
 dE (c 1 []) λf=>
 bR (!f.1) (aa [yB ah]) (bR (aj ((80:Int)<(ak a:Int))) (d ae a b) (d (aj ((40:Int)<(ak b:Int))) a b))
def bHI(n:Nt):List Int->List Int->Rt:=λx0 x1=>n [⟨(.sl (.int .u8)),x0⟩,⟨(.sl (.int .u8)),x1⟩]
def aSd(a:Bool->Rt)(l:Bool)(m:List Int)(o:List Int):Rt:=
 bR l (aa [yB ae]) (fN [zS 15] (c 2 [⟨(.int .u32),0⟩]) λ(d:List G.E×Unit)=>
 fN [zS 3,.rc 0] (c 3 [yS 15 d.1,yR 0 (G.Z.mk m 0)]) λ(b:List G.T×G.Z×Unit)=>
 fN [i6,.bool,.bool] (c 4 [yS 3 b.1]) λ(f:Int×Bool×Bool×Unit)=>
 bR (!f.2.2.1) (aa [yB ae]) (fN [zS 3,.bool] (c 5 [yS 3 b.1,yI f.1,yB f.2.1]) λ(g:List G.T×Bool×Unit)=>
 bR g.2.1 (fN [zS 17,.rc 0] (c 6 [yR 0 (G.Z.mk o 0)]) λ(h:List G.S×G.Z×Unit)=>
 fN [.bool,.bool] (c 7 [yS 15 d.1,yS 3 g.1,yS 17 h.1]) λ(i:Bool×Bool×Unit)=>
 fN [.bool,.bool] (c 7 [yS 15 d.1,yS 3 b.1,yS 17 h.1]) λ(j:Bool×Bool×Unit)=>
 bR (aj ((ak g.1:Int)<(ak b.1:Int))) (bR (!i.2.1) (a ae) (bR (!j.2.1) (a ae) (bR (!i.1) (a ae) (a j.1)))) (a ah)) (aa [yB ae])))
def bHH(n:Nt):Bool->List Int->List Int->Rt:=λx0 x1 x2=>n [yB x0,⟨(.sl (.int .u8)),x1⟩,⟨(.sl (.int .u8)),x2⟩]
def a7D:=bHH (xD ii0 e (pw 5 11) aIa (bCV c e))
def a8B(c:bT)(a:Bool):Rt:=
 aa [yB a]
def a7C:=cK (xD ii0 e (pw 14 8191) aH9 (a2s c e))
def bJ2:bHI (xF ii0 c e)=a8C c (a7D c e):=by kernel_rfl
def bJ1:bHH (xA ii0 c e (pw 5 11) aIa (bCV c e))=aSd c (a7C c e):=by kernel_rfl
def bJ0:cK (xA ii0 c e (pw 14 8191) aH9 (a2s c e))=a8B c:=by kernel_rfl
def a7L(L:Nat):Bool->Rt:=a8B c
def bLA:a7C c (cu c L)=a7L c L:=by rw[a7C,bW,bJ0];rfl
def aK8:Bool->List Int->List Int->Rt:=aSd c (a7L c L)
def bLB:a7D c (cu c L)=aK8 c L:=by rw[a7D,bW,bJ1];simp only[bLA];rfl
def F0:List Int->List Int->Rt:=a8C c (aK8 c L)
def e0:bHI (xF ii0 c (cu c L))=F0 c L:=by rw[bJ2];simp only[bLB];rfl
def c0(a:List Int)(b:List Int)(L n:Nat):bP L (n+1) 0 [⟨(.sl (.int .u8)),a⟩,⟨(.sl (.int .u8)),b⟩]=F0 (bP L n) L a b:=by rw[<-e0];exact cz (x:=ii0) (by kernel_rfl) L n _
def bCD(c:bT)(e:Cu):Kt:=xK TY
def bKh:Kt:=xT TY c e (pw 4 15) (bCD c e)
def a0E:Kt:=cO U0 0 (bKh c e)
def bKg:Kt:=xT TY c e (pw 6 63) (bCD c e)
def aOj:Kt:=cO U0 2 (bKg c e)
def bCC(n2:Nt):Kt:=fT U0 IL n2 (aOj c e)
def a8x(a:(List (List G.F))->Int->Int->List G.E->Rt)(b:Int):Rt:=
 fN [zS 15] (c 11 []) λ(d:List G.E×Unit)=>
 fN [.sl (zS 4)] (c 12 []) λ(f:(List (List G.F))×Unit)=>
 a f.1 0 b d.1
def bHF(n:Nt):Int->Rt:=λx0=>n [⟨(.int .u32),x0⟩]
def aDv(i:(List (List G.F))->Int->Int->List G.E->Rt)(j:Int->List G.L->Int->List G.E->Rt)(a:(List (List G.F)))(b:Int)(f:Int)(d:List G.E):Rt:=
 bR (aj (b<(ak a:Int))) (ob (cU a b) λl=>
 ob (cU l 0) λg=>
 ob (cU a b) λh=>
 jY (an ((ak d+ak ([(G.E.mk 3 g.name (G.A.mk [] ([]:List G.Y)) (G.M.mk Bx ([]:List G.Y) ah GA) h ([]:List G.T) ([]:List (List G.N)) ([]:List G.E) (G.B.mk Bx ([]:List G.D)) ([]:List G.U) ([]:List G.Y) ([]:List G.Y) [] 0)]:List G.E))*568) 1073741824)<|
 i a (IntKind.i64.wrap (b+1)) f (d++([(G.E.mk 3 g.name (G.A.mk [] ([]:List G.Y)) (G.M.mk Bx ([]:List G.Y) ah GA) h ([]:List G.T) ([]:List (List G.N)) ([]:List G.E) (G.B.mk Bx ([]:List G.D)) ([]:List G.U) ([]:List G.Y) ([]:List G.Y) [] 0)]:List G.E))) (fN [zS 16] (c 13 []) λ(m:List G.L×Unit)=>
 j f m.1 0 d)
def aQ5(n:Nt):(List (List G.F))->Int->Int->List G.E->Rt:=λx0 x1 x2 x3=>n [⟨.sl (zS 4),x0⟩,yI x1,⟨(.int .u32),x2⟩,yS 15 x3]
def bHp:=aQ5 (xE TY e (pw 7 23) RF (a0E c e))
def aDu(g:Int->Int->List G.L->List G.E->Rt)(d:Int)(b:List G.L)(a:Int)(f:List G.E):Rt:=
 bR (aj (a<(ak b:Int))) (jY (aj (0<=a))<|
 bR (aj ((IntKind.u32.wrap ((BitVec.ofInt IntKind.u32.bits (Int.fdiv d (2^(min (Int.toNat a) IntKind.u32.bits)))&&&BitVec.ofInt IntKind.u32.bits 1).toNat:Int))=0)) (g a d b f) (ob (cU b a) λh=>
 ob (cU b a) λi=>
 vI (c 14 [yT h.name]) λj=>
 ob (cU b a) λl=>
 ob (cU b a) λm=>
 ad)) (aa [yS 15 f])
def aJP(n:Nt):Int->List G.L->Int->List G.E->Rt:=λx0 x1 x2 x3=>n [⟨(.int .u32),x0⟩,yS 16 x1,yI x2,yS 15 x3]
def bHo:=aJP (xE TY e (pw 9 95) IL (aOj c e))
def bIa(c:bT)(a:Int->List G.L->Int->List G.E->Rt)(b:Int)(d:Int)(f:List G.L)(g:List G.E):Rt:=
 a d f (IntKind.i64.wrap (b+1)) g
def bHE(n:Nt):Int->Int->List G.L->List G.E->Rt:=λx0 x1 x2 x3=>n [yI x0,⟨(.int .u32),x1⟩,yS 16 x2,yS 15 x3]
def a7B(n2:Nt):=bHE (xD TY e (pw 12 1631) aH8 (bCC c e n2))
def bJZ:bHF (xF TY c e)=a8x c (bHp c e):=by kernel_rfl
def bJY(n1:Nt):aQ5 (xA TY c e (pw 7 23) RF (fT U0 RF n1 (a0E c e)))=aDv c (aQ5 n1) (bHo c e):=by kernel_rfl
def bJX(n2:Nt):aJP (xA TY c e (pw 9 95) IL (fT U0 IL n2 (aOj c e)))=aDu c (a7B c e n2):=by kernel_rfl
def bJW(n2:Nt):bHE (xA TY c e (pw 12 1631) aH8 (bCC c e n2))=bIa c (aJP n2):=by kernel_rfl
def a7K(L:Nat)(n2:Int->List G.L->Int->List G.E->Rt):Int->Int->List G.L->List G.E->Rt:=bIa c n2
def bLz(n2:Nt):a7B c (cu c L) n2=a7K c L (aJP n2):=by rw[a7B,bW,bJW];rfl
def M4(c:bT)(L:Nat):Nat->Int->List G.L->Int->List G.E->Rt
 |0=>λ_ _ _ _=>ad
 |n+1=>aDu c (a7K c L (M4 c L n))
def bJm(n:Nat):aJP (xL TY c L (pw 9 95) IL (aOj c (cu c L)) n)=M4 c L n:=by
 induction n with
 |zero=>rfl
 |succ n ih=>rw[eM,bJX];simp only[bLz,ih];rfl
def bI3:bHo c (cu c L)=M4 c L L:=bJm c L L
def aDr(c:bT)(L:Nat):Nat->(List (List G.F))->Int->Int->List G.E->Rt
 |0=>λ_ _ _ _=>ad
 |n+1=>aDv c (aDr c L n) (M4 c L L)
def bJn(n:Nat):aQ5 (xL TY c L (pw 7 23) RF (a0E c (cu c L)) n)=aDr c L n:=by
 induction n with
 |zero=>rfl
 |succ n ih=>rw[eM,bJY];simp only[bI3,ih];rfl
def bI4:bHp c (cu c L)=aDr c L L:=bJn c L L
def F2:Int->Rt:=a8x c (aDr c L L)
def e2:bHF (xF TY c (cu c L))=F2 c L:=by rw[bJZ];simp only[bI4];rfl
def c2(a:Int)(L n:Nat):bP L (n+1) 2 [⟨(.int .u32),a⟩]=F2 (bP L n) L a:=by rw[<-e2];exact cz (x:=TY) (by kernel_rfl) L n _
def bKf(c:bT)(e:Cu):Kt:=xK aDB
def bKe:Kt:=xT aDB c e (pw 5 31) (bKf c e)
def aOi:Kt:=cO U0 0 (bKe c e)
def bKd(n1:Nt):Kt:=fT U0 IK n1 (aOi c e)
def bKc(n1:Nt):Kt:=xT aDB c e (pw 10 815) (bKd c e n1)
def bCB(n1:Nt):Kt:=cO U0 1 (bKc c e n1)
def a8w(h:Int->List G.E->Int->List G.T->G.Z->G.T->G.T->Rt)(a:List G.E)(i:G.Z):Rt:=
 uD (c 15 [yS 15 a,yI 2,yR 0 i]) λb=>
 uD (c 15 [yS 15 a,yI 2,yR 0 b.2.1]) λd=>
 fN [zS 3,.rc 0] (c 16 [yS 15 a,yI 3,yI 2,yR 0 d.2.1]) λ(f:List G.T×G.Z×Unit)=>
 vJ (c 17 [yI 4,yR 0 f.2.1]) λg=>
 h g.1 a 0 f.1 g.2.1 b.1 d.1
def bHD(n:Nt):List G.E->G.Z->Rt:=λx0 x1=>n [yS 15 x0,yR 0 x1]
def aSc(j:List G.T->Int->Int->List G.E->G.Z->G.T->G.T->G.T->Rt)(g:Int)(d:List G.E)(h:Int)(i:List G.T)(l:G.Z)(f:G.T)(a:G.T):Rt:=
 bR (aj (h<g)) (pL (c 9 [yT [101,113,117,97,108],yS 3 ([f,a]:List G.T)]) λq=>
 pL (c 9 [yT [110,111,116],yS 3 ([q.1]:List G.T)]) λs=>
 vJ (c 17 [yI 5,yR 0 l]) λb=>
 bR (aj (b.1=0)) (uD (c 18 [yR 0 b.2.1]) λm=>
 pL (c 9 [yT [99,111,110,115],yS 3 ([f,m.1]:List G.T)]) λt=>
 uD (c 15 [yS 15 d,yI 1,yR 0 m.2.1]) λo=>
 pL (c 9 [yT [101,113,117,97,108],yS 3 ([t.1,o.1]:List G.T)]) λu=>
 j i h g d o.2.1 u.1 f a) (bR (aj (b.1=1)) (pL (c 9 [yT [99,111,110,115,112],yS 3 ([a]:List G.T)]) λv=>
 j i h g d b.2.1 v.1 f a) (bR (aj (b.1=2)) (uD (c 15 [yS 15 d,yI 1,yR 0 b.2.1]) λp=>
 pL (c 9 [yT [101,113,117,97,108],yS 3 ([a,p.1]:List G.T)]) λw=>
 pL (c 9 [yT [110,111,116],yS 3 ([w.1]:List G.T)]) λx=>
 j i h g d p.2.1 x.1 f a) (j i h g d b.2.1 s.1 f a)))) (aa [yS 3 i,yR 0 l])
def aJO(n:Nt):Int->List G.E->Int->List G.T->G.Z->G.T->G.T->Rt:=λx0 x1 x2 x3 x4 x5 x6=>n [yI x0,yS 15 x1,yI x2,yS 3 x3,yR 0 x4,yR 3 x5,yR 3 x6]
def bHn:=aJO (xE aDB e (pw 8 47) IK (aOi c e))
def a8v(a:Int->List G.E->Int->List G.T->G.Z->G.T->G.T->Rt)(b:List G.T)(d:Int)(f:Int)(g:List G.E)(h:G.Z)(i:G.T)(j:G.T)(l:G.T):Rt:=
 Ey (c 19 [yS 3 b,yS 3 ([i]:List G.T)]) λm=>
 a f g (IntKind.i64.wrap (d+1)) m.1 h j l
def bHC(n:Nt):List G.T->Int->Int->List G.E->G.Z->G.T->G.T->G.T->Rt:=λx0 x1 x2 x3 x4 x5 x6 x7=>n [yS 3 x0,yI x1,yI x2,yS 15 x3,yR 0 x4,yR 3 x5,yR 3 x6,yR 3 x7]
def a7A(n1:Nt):=bHC (xD aDB e (pw 14 6447) aH7 (bCB c e n1))
def bJV:bHD (xF aDB c e)=a8w c (bHn c e):=by kernel_rfl
def bJU(n1:Nt):aJO (xA aDB c e (pw 8 47) IK (fT U0 IK n1 (aOi c e)))=aSc c (a7A c e n1):=by kernel_rfl
def bJT(n1:Nt):bHC (xA aDB c e (pw 14 6447) aH7 (bCB c e n1))=a8v c (aJO n1):=by kernel_rfl
def aRk(L:Nat)(n1:Int->List G.E->Int->List G.T->G.Z->G.T->G.T->Rt):List G.T->Int->Int->List G.E->G.Z->G.T->G.T->G.T->Rt:=a8v c n1
def bLy(n1:Nt):a7A c (cu c L) n1=aRk c L (aJO n1):=by rw[a7A,bW,bJT];rfl
def R8(c:bT)(L:Nat):Nat->Int->List G.E->Int->List G.T->G.Z->G.T->G.T->Rt
 |0=>λ_ _ _ _ _ _ _=>ad
 |n+1=>aSc c (aRk c L (R8 c L n))
def bJl(n:Nat):aJO (xL aDB c L (pw 8 47) IK (aOi c (cu c L)) n)=R8 c L n:=by
 induction n with
 |zero=>rfl
 |succ n ih=>rw[eM,bJU];simp only[bLy,ih];rfl
def bI1:bHn c (cu c L)=R8 c L L:=bJl c L L
def F3:List G.E->G.Z->Rt:=a8w c (R8 c L L)
def e3:bHD (xF aDB c (cu c L))=F3 c L:=by rw[bJV];simp only[bI1];rfl
def c3(a:List G.E)(b:G.Z)(L n:Nat):bP L (n+1) 3 [yS 15 a,yR 0 b]=F3 (bP L n) L a b:=by rw[<-e3];exact cz (x:=aDB) (by kernel_rfl) L n _
def bKb(c:bT)(e:Cu):Kt:=xK IA
def bKa:Kt:=xT IA c e [1,1] (bKb c e)
def aOh:Kt:=cO U0 0 (bKa c e)
def a0D(n1:Nt):Kt:=fT U0 IJ n1 (aOh c e)
def bJ9(n1:Nt):Kt:=xT IA c e (pw 8 229) (a0D c e n1)
def aOg(n1:Nt):Kt:=cO U0 1 (bJ9 c e n1)
def bCA(n1:Nt):Kt:=xT IA c e (pw 12 3685) (aOg c e n1)
def bCz(n1:Nt):Kt:=xT IA c e (pw 13 7781) (aOg c e n1)
def bH9(c:bT)(b:Int->List G.T->List G.T->Int->Rt)(a:List G.T):Rt:=
 b (ak a:Int) a a 0
def aSb(g:Bool->Int->Int->Int->List G.T->List G.T->G.T->G.T->Rt)(d:Int)(f:List G.T)(h:List G.T)(b:Int):Rt:=
 bR (aj (b<d)) (ob (cU f b) λi=>
 fN [.rc 3,.rc 3,.bool] (c 20 [yR 3 i]) λ(a:G.T×G.T×Bool×Unit)=>
 bR (!a.2.2.1) (g ae b b d f h a.1 a.2.1) (dE (c 21 [yR 3 a.1,yR 3 a.2.1]) λj=>
 g j.1 b b d f h a.1 a.2.1)) (aa [yI 0,yB ah,yB ah])
def bHm:=uC (xE IA e (pw 5 5) IJ (aOh c e))
def aSa(l:Int->Int->List G.T->List G.T->Rt)(h:Bool->Int->Int->Int->List G.T->List G.T->G.T->Rt)(m:Bool)(b:Int)(d:Int)(f:Int)(g:List G.T)(a:List G.T)(i:G.T)(j:G.T):Rt:=
 bR m (l d f g a) (bR (aj (i.kind=3)) (dE (c 22 [yS 3 a,yI b,yR 3 i]) λo=>
 h o.1 b d f g a j) (h ah b d f g a j))
def bHB(n:Nt):Bool->Int->Int->Int->List G.T->List G.T->G.T->G.T->Rt:=λx0 x1 x2 x3 x4 x5 x6 x7=>n [yB x0,yI x1,yI x2,yI x3,yS 3 x4,yS 3 x5,yR 3 x6,yR 3 x7]
def a7z(n1:Nt):=bHB (xD IA e (pw 14 5733) aH6 (bCA c e n1))
def a8u(c:bT)(a:Int->List G.T->List G.T->Int->Rt)(b:Int)(d:Int)(f:List G.T)(g:List G.T):Rt:=
 a d f g (IntKind.i64.wrap (b+1))
def aQ2(n1:Nt):=aBr (xD IA e (pw 9 229) aH5 (a0D c e n1))
def a8t(d:Bool->Int->Int->Int->List G.T->List G.T->Rt)(j:Bool)(a:Int)(f:Int)(g:Int)(h:List G.T)(b:List G.T)(i:G.T):Rt:=
 bR j (aa [yI a,yB ah,yB ae]) (bR (aj (i.kind=3)) (dE (c 22 [yS 3 b,yI a,yR 3 i]) λl=>
 d l.1 a f g h b) (d ah a f g h b))
def bHA(n:Nt):Bool->Int->Int->Int->List G.T->List G.T->G.T->Rt:=λx0 x1 x2 x3 x4 x5 x6=>n [yB x0,yI x1,yI x2,yI x3,yS 3 x4,yS 3 x5,yR 3 x6]
def a7y(n1:Nt):=bHA (xD IA e (pw 15 11877) aH4 (bCz c e n1))
def a8s(c:bT)(a:Int->Int->List G.T->List G.T->Rt)(b:Bool)(d:Int)(f:Int)(g:Int)(h:List G.T)(i:List G.T):Rt:=
 bR b (aa [yI d,yB ae,yB ae]) (a f g h i)
def bHz(n:Nt):Bool->Int->Int->Int->List G.T->List G.T->Rt:=λx0 x1 x2 x3 x4 x5=>n [yB x0,yI x1,yI x2,yI x3,yS 3 x4,yS 3 x5]
def a7x(n1:Nt):=bHz (xD IA e (pw 15 15973) aH3 (aOg c e n1))
def bJS:Cr (xF IA c e)=bH9 c (bHm c e):=by kernel_rfl
def bJR(n1:Nt):uC (xA IA c e (pw 5 5) IJ (fT U0 IJ n1 (aOh c e)))=aSb c (a7z c e n1):=by kernel_rfl
def bJQ(n1:Nt):bHB (xA IA c e (pw 14 5733) aH6 (bCA c e n1))=aSa c (aQ2 c e n1) (a7y c e n1):=by kernel_rfl
def bJP(n1:Nt):aBr (xA IA c e (pw 9 229) aH5 (a0D c e n1))=a8u c (uC n1):=by kernel_rfl
def bJO(n1:Nt):bHA (xA IA c e (pw 15 11877) aH4 (bCz c e n1))=a8t c (a7x c e n1):=by kernel_rfl
def bJN(n1:Nt):bHz (xA IA c e (pw 15 15973) aH3 (aOg c e n1))=a8s c (aQ2 c e n1):=by kernel_rfl
def aKG(L:Nat)(n1:Int->List G.T->List G.T->Int->Rt):Int->Int->List G.T->List G.T->Rt:=a8u c n1
def bEu(n1:Nt):aQ2 c (cu c L) n1=aKG c L (uC n1):=by rw[aQ2,bW,bJP];rfl
def aRh(n1:Int->List G.T->List G.T->Int->Rt):Bool->Int->Int->Int->List G.T->List G.T->Rt:=a8s c (aKG c L n1)
def bLv(n1:Nt):a7x c (cu c L) n1=aRh c L (uC n1):=by rw[a7x,bW,bJN];simp only[bEu];rfl
def aRi(n1:Int->List G.T->List G.T->Int->Rt):Bool->Int->Int->Int->List G.T->List G.T->G.T->Rt:=a8t c (aRh c L n1)
def bLw(n1:Nt):a7y c (cu c L) n1=aRi c L (uC n1):=by rw[a7y,bW,bJO];simp only[bLv];rfl
def aRj(n1:Int->List G.T->List G.T->Int->Rt):Bool->Int->Int->Int->List G.T->List G.T->G.T->G.T->Rt:=aSa c (aKG c L n1) (aRi c L n1)
def bLx(n1:Nt):a7z c (cu c L) n1=aRj c L (uC n1):=by rw[a7z,bW,bJQ];simp only[bEu,bLw];rfl
def G7(c:bT)(L:Nat):Nat->Int->List G.T->List G.T->Int->Rt
 |0=>λ_ _ _ _=>ad
 |n+1=>aSb c (aRj c L (G7 c L n))
def bJk(n:Nat):uC (xL IA c L (pw 5 5) IJ (aOh c (cu c L)) n)=G7 c L n:=by
 induction n with
 |zero=>rfl
 |succ n ih=>rw[eM,bJR];simp only[bLx,ih];rfl
def bIZ:bHm c (cu c L)=G7 c L L:=bJk c L L
def F4:List G.T->Rt:=bH9 c (G7 c L L)
def e4:Cr (xF IA c (cu c L))=F4 c L:=by rw[bJS];simp only[bIZ];rfl
def c4(a:List G.T)(L n:Nat):bP L (n+1) 4 [yS 3 a]=F4 (bP L n) L a:=by rw[<-e4];exact cz (x:=IA) (by kernel_rfl) L n _
def aOf(c:bT)(e:Cu):Kt:=xK Sw
def bCl:Kt:=xT Sw c e [1,1] (aOf c e)
def bJ8:Kt:=xT Sw c e (pw 8 223) (aOf c e)
def aOe:Kt:=cO U0 0 (bJ8 c e)
def bCk(n3:Nt):Kt:=fT U0 II n3 (aOe c e)
def a8r(c:bT)(d:Bool->Bool->List G.T->Int->Rt)(b:List G.T)(a:Int)(f:Bool):Rt:=
 bR (aj (a<0)) (d ae f b a) (d (aj ((ak b:Int)<=a)) f b a)
def bHy(n:Nt):List G.T->Int->Bool->Rt:=λx0 x1 x2=>n [yS 3 x0,yI x1,yB x2]
def a8q(f:List G.T->Int->G.T->G.T->Rt)(g:Bool)(h:Bool)(b:List G.T)(d:Int):Rt:=
 bR g (aa [yS 3 ([]:List G.T),yB ah]) (ob (cU b d) λi=>
 fN [.rc 3,.rc 3,.bool] (c 20 [yR 3 i]) λ(a:G.T×G.T×Bool×Unit)=>
 bR (!a.2.2.1) (aa [yS 3 ([]:List G.T),yB ah]) (bR h (f b d a.2.1 a.1) (f b d a.1 a.2.1)))
def bHx(n:Nt):Bool->Bool->List G.T->Int->Rt:=λx0 x1 x2 x3=>n [yB x0,yB x1,yS 3 x2,yI x3]
def a7w:=bHx (xD Sw e (pw 4 5) aH2 (bCl c e))
def aR9(c:bT)(b:Int->List G.T->Int->Int->List G.T->G.T->G.T->Rt)(a:List G.T)(d:Int)(f:G.T)(g:G.T):Rt:=
 b (ak a:Int) a d 0 ([]:List G.T) f g
def bHw(n:Nt):List G.T->Int->G.T->G.T->Rt:=λx0 x1 x2 x3=>n [yS 3 x0,yI x1,yR 3 x2,yR 3 x3]
def a7v:=bHw (xD Sw e (pw 6 31) aH1 (aOf c e))
def aR8(j:Int->Int->List G.T->Int->List G.T->G.T->G.T->Rt)(b:Int)(d:List G.T)(f:Int)(a:Int)(g:List G.T)(h:G.T)(i:G.T):Rt:=
 bR (aj (a<b)) (ob (cU d a) λm=>
 bR (aj (a=f)) (j a b d f g h i) (pL (c 23 [yR 3 m,yR 3 h,yR 3 i]) λl=>
 dE (c 24 [yR 3 l.1]) λo=>
 bR (!o.1) (aa [yS 3 ([]:List G.T),yB ah]) (Ey (c 25 [yS 3 g,yS 3 ([l.1]:List G.T)]) λp=>
 j a b d f p.1 h i))) (aa [yS 3 g,yB ae])
def aJN(n:Nt):Int->List G.T->Int->Int->List G.T->G.T->G.T->Rt:=λx0 x1 x2 x3 x4 x5 x6=>n [yI x0,yS 3 x1,yI x2,yI x3,yS 3 x4,yR 3 x5,yR 3 x6]
def bHl:=aJN (xE Sw e (pw 11 351) II (aOe c e))
def a8p(c:bT)(a:Int->List G.T->Int->Int->List G.T->G.T->G.T->Rt)(b:Int)(d:Int)(f:List G.T)(g:Int)(h:List G.T)(i:G.T)(j:G.T):Rt:=
 a d f g (IntKind.i64.wrap (b+1)) h i j
def bHv(n:Nt):Int->Int->List G.T->Int->List G.T->G.T->G.T->Rt:=λx0 x1 x2 x3 x4 x5 x6=>n [yI x0,yI x1,yS 3 x2,yI x3,yS 3 x4,yR 3 x5,yR 3 x6]
def a7u(n3:Nt):=bHv (xD Sw e (pw 15 14687) aH0 (bCk c e n3))
def bJM:bHy (xF Sw c e)=a8r c (a7w c e):=by kernel_rfl
def bJL:bHx (xA Sw c e (pw 4 5) aH2 (bCl c e))=a8q c (a7v c e):=by kernel_rfl
def bJK:bHw (xA Sw c e (pw 6 31) aH1 (aOf c e))=aR9 c (bHl c e):=by kernel_rfl
def bJJ(n3:Nt):aJN (xA Sw c e (pw 11 351) II (fT U0 II n3 (aOe c e)))=aR8 c (a7u c e n3):=by kernel_rfl
def bJI(n3:Nt):bHv (xA Sw c e (pw 15 14687) aH0 (bCk c e n3))=a8p c (aJN n3):=by kernel_rfl
def aRf(L:Nat)(n3:Int->List G.T->Int->Int->List G.T->G.T->G.T->Rt):Int->Int->List G.T->Int->List G.T->G.T->G.T->Rt:=a8p c n3
def bLs(n3:Nt):a7u c (cu c L) n3=aRf c L (aJN n3):=by rw[a7u,bW,bJI];rfl
def R7(c:bT)(L:Nat):Nat->Int->List G.T->Int->Int->List G.T->G.T->G.T->Rt
 |0=>λ_ _ _ _ _ _ _=>ad
 |n+1=>aR8 c (aRf c L (R7 c L n))
def bJj(n:Nat):aJN (xL Sw c L (pw 11 351) II (aOe c (cu c L)) n)=R7 c L n:=by
 induction n with
 |zero=>rfl
 |succ n ih=>rw[eM,bJJ];simp only[bLs,ih];rfl
def bIW:bHl c (cu c L)=R7 c L L:=bJj c L L
def aRg:List G.T->Int->G.T->G.T->Rt:=aR9 c (R7 c L L)
def bLt:a7v c (cu c L)=aRg c L:=by rw[a7v,bW,bJK];simp only[bIW];rfl
def a7J:Bool->Bool->List G.T->Int->Rt:=a8q c (aRg c L)
def bLu:a7w c (cu c L)=a7J c L:=by rw[a7w,bW,bJL];simp only[bLt];rfl
def F5:List G.T->Int->Bool->Rt:=a8r c (a7J c L)
def e5:bHy (xF Sw c (cu c L))=F5 c L:=by rw[bJM];simp only[bLu];rfl
def c5(a:List G.T)(b:Int)(d:Bool)(L n:Nat):bP L (n+1) 5 [yS 3 a,yI b,yB d]=F5 (bP L n) L a b d:=by rw[<-e5];exact cz (x:=Sw) (by kernel_rfl) L n _
def bJ7(c:bT)(e:Cu):Kt:=xK aPe
def bJ6:Kt:=xT aPe c e [1,1,1] (bJ7 c e)
def a0C:Kt:=cO U0 0 (bJ6 c e)
def bH8(c:bT)(a:Int->(List (List UInt8))->Int->List G.S->G.Z->Rt)(b:G.Z):Rt:=
 a (ak ([[120],[121],[122],[110]]:List (List UInt8)):Int) ([[120],[121],[122],[110]]:List (List UInt8)) 0 ([]:List G.S) b
def aR7(j:Int->(List (List UInt8))->Int->List G.S->G.Z->Rt)(f:Int)(g:(List (List UInt8)))(a:Int)(b:List G.S)(h:G.Z):Rt:=
 bR (aj (a<f)) (ob (cU g a) λl=>
 vI (c 14 [yT l]) λi=>
 tL (c 26 [yI 2,yR 0 h]) λd=>
 jY (an ((ak b+ak ([(G.S.mk i.1 d.1)]:List G.S))*144) 1073741824)<|
 j f g (IntKind.i64.wrap (a+1)) (b++([(G.S.mk i.1 d.1)]:List G.S)) d.2.1) (aa [yS 17 b,yR 0 h])
def aQ4(n:Nt):Int->(List (List UInt8))->Int->List G.S->G.Z->Rt:=λx0 x1 x2 x3 x4=>n [yI x0,⟨(.sl .str),x1⟩,yI x2,yS 17 x3,yR 0 x4]
def bHk:=aQ4 (xE aPe e (pw 6 11) RE (a0C c e))
def bJH:aJU (xF aPe c e)=bH8 c (bHk c e):=by kernel_rfl
def bJG(n1:Nt):aQ4 (xA aPe c e (pw 6 11) RE (fT U0 RE n1 (a0C c e)))=aR7 c (aQ4 n1):=by kernel_rfl
def WG(c:bT)(L:Nat):Nat->Int->(List (List UInt8))->Int->List G.S->G.Z->Rt
 |0=>λ_ _ _ _ _=>ad
 |n+1=>aR7 c (WG c L n)
def bJi(n:Nat):aQ4 (xL aPe c L (pw 6 11) RE (a0C c (cu c L)) n)=WG c L n:=by
 induction n with
 |zero=>rfl
 |succ n ih=>rw[eM,bJG];simp only[ih];rfl
def bIV:bHk c (cu c L)=WG c L L:=bJi c L L
def F6:G.Z->Rt:=bH8 c (WG c L L)
def e6:aJU (xF aPe c (cu c L))=F6 c L:=by rw[bJH];simp only[bIV];rfl
def c6(a:G.Z)(L n:Nat):bP L (n+1) 6 [yR 0 a]=F6 (bP L n) L a:=by rw[<-e6];exact cz (x:=aPe) (by kernel_rfl) L n _
def bJ5(c:bT)(e:Cu):Kt:=xK aG1
def bJ4:Kt:=xT aG1 c e [1,1,1] (bJ5 c e)
def aOd:Kt:=cO U0 0 (bJ4 c e)
def bCe(n1:Nt):Kt:=fT U0 IH n1 (aOd c e)
def bH6(c:bT)(a:List G.E->List G.T->List G.S->Int->Bool->Rt)(b:List G.E)(d:List G.T)(f:List G.S):Rt:=
 a b d f 0 ah
def bHt(n:Nt):List G.E->List G.T->List G.S->Rt:=λx0 x1 x2=>n [yS 15 x0,yS 3 x1,yS 17 x2]
def aR6(g:Int->List G.E->List G.T->List G.S->Bool->Rt)(d:List G.E)(a:List G.T)(f:List G.S)(b:Int)(h:Bool):Rt:=
 bR (aj (b<(ak a:Int))) (ob (cU a b) λj=>
 fN [.bool,.bool] (c 27 [yS 15 d,yR 3 j,yS 17 f]) λ(i:Bool×Bool×Unit)=>
 bR (!i.2.1) (aa [yB ah,yB ah]) (bR h (g b d a f ae) (g b d a f i.1))) (aa [yB h,yB ae])
def aJM(n:Nt):List G.E->List G.T->List G.S->Int->Bool->Rt:=λx0 x1 x2 x3 x4=>n [yS 15 x0,yS 3 x1,yS 17 x2,yI x3,yB x4]
def bHj:=aJM (xE aG1 e (pw 6 11) IH (aOd c e))
def aR5(c:bT)(a:List G.E->List G.T->List G.S->Int->Bool->Rt)(b:Int)(d:List G.E)(f:List G.T)(g:List G.S)(h:Bool):Rt:=
 a d f g (IntKind.i64.wrap (b+1)) h
def bHs(n:Nt):Int->List G.E->List G.T->List G.S->Bool->Rt:=λx0 x1 x2 x3 x4=>n [yI x0,yS 15 x1,yS 3 x2,yS 17 x3,yB x4]
def a7t(n1:Nt):=bHs (xD aG1 e (pw 9 203) aHZ (bCe c e n1))
def bJF:bHt (xF aG1 c e)=bH6 c (bHj c e):=by kernel_rfl
def bJE(n1:Nt):aJM (xA aG1 c e (pw 6 11) IH (fT U0 IH n1 (aOd c e)))=aR6 c (a7t c e n1):=by kernel_rfl
def bJD(n1:Nt):bHs (xA aG1 c e (pw 9 203) aHZ (bCe c e n1))=aR5 c (aJM n1):=by kernel_rfl
def aKC(L:Nat)(n1:List G.E->List G.T->List G.S->Int->Bool->Rt):Int->List G.E->List G.T->List G.S->Bool->Rt:=aR5 c n1
def bLr(n1:Nt):a7t c (cu c L) n1=aKC c L (aJM n1):=by rw[a7t,bW,bJD];rfl
def MZ(c:bT)(L:Nat):Nat->List G.E->List G.T->List G.S->Int->Bool->Rt
 |0=>λ_ _ _ _ _=>ad
 |n+1=>aR6 c (aKC c L (MZ c L n))
def bJh(n:Nat):aJM (xL aG1 c L (pw 6 11) IH (aOd c (cu c L)) n)=MZ c L n:=by
 induction n with
 |zero=>rfl
 |succ n ih=>rw[eM,bJE];simp only[bLr,ih];rfl
def bIU:bHj c (cu c L)=MZ c L L:=bJh c L L
def F7:List G.E->List G.T->List G.S->Rt:=bH6 c (MZ c L L)
def e7:bHt (xF aG1 c (cu c L))=F7 c L:=by rw[bJF];simp only[bIU];rfl
def c7(a:List G.E)(b:List G.T)(d:List G.S)(L n:Nat):bP L (n+1) 7 [yS 15 a,yS 3 b,yS 17 d]=F7 (bP L n) L a b d:=by rw[<-e7];exact cz (x:=aG1) (by kernel_rfl) L n _
def bCU(c:bT)(e:Cu):Kt:=xK Ld
def bCT:Kt:=xT Ld c e (pw 4 15) (bCU c e)
def aFR:Kt:=cO U0 0 (bCT c e)
def aM2(a:List G.O->Int->List G.E->Rt):Rt:=
 fN [zS 2] (c 31 []) λ(b:List G.O×Unit)=>
 a b.1 0 ([]:List G.E)
def JH(i:List G.O->Int->List G.E->Rt)(b:List G.O)(d:Int)(a:List G.E):Rt:=
 bR (aj (d<(ak b:Int))) (ob (cU b d) λj=>
 fN [.rc 15] (c 32 [yS 15 a,yR 2 j]) λ(f:G.E×Unit)=>
 jY (an ((ak a+ak ([f.1]:List G.E))*568) 1073741824)<|
 i b (IntKind.i64.wrap (d+1)) (a++([f.1]:List G.E))) (vI (c 33 [yT [117,115,101,114,45,112,97,99,107,97,103,101]]) λg=>
 fN [zS 1] (c 34 []) λ(h:List G.Y×Unit)=>
 jY (an ((ak a+ak ([(G.E.mk 1 g.1 (G.A.mk [117,115,101,114] h.1) (G.M.mk Bx ([]:List G.Y) ah GA) ([]:List G.F) ([]:List G.T) ([]:List (List G.N)) ([]:List G.E) (G.B.mk Bx ([]:List G.D)) ([]:List G.U) ([]:List G.Y) ([]:List G.Y) [] 0)]:List G.E))*568) 1073741824)<|
 some [yS 15 (a++([(G.E.mk 1 g.1 (G.A.mk [117,115,101,114] h.1) (G.M.mk Bx ([]:List G.Y) ah GA) ([]:List G.F) ([]:List G.T) ([]:List (List G.N)) ([]:List G.E) (G.B.mk Bx ([]:List G.D)) ([]:List G.U) ([]:List G.Y) ([]:List G.Y) [] 0)]:List G.E))])
def aBv(n:Nt):List G.O->Int->List G.E->Rt:=λx0 x1 x2=>n [yS 2 x0,yI x1,yS 15 x2]
def aTR:=aBv (xE Ld e (pw 7 23) Fv (aFR c e))
def bBS:oF (xF Ld c e)=aM2 c (aTR c e):=by kernel_rfl
def bBR(n1:Nt):aBv (xA Ld c e (pw 7 23) Fv (fT U0 Fv n1 (aFR c e)))=JH c (aBv n1):=by kernel_rfl
def uA(c:bT)(L:Nat):Nat->List G.O->Int->List G.E->Rt
 |0=>λ_ _ _=>ad
 |n+1=>JH c (uA c L n)
def bAi(n:Nat):aBv (xL Ld c L (pw 7 23) Fv (aFR c (cu c L)) n)=uA c L n:=by
 induction n with
 |zero=>rfl
 |succ n ih=>rw[eM,bBR];simp only[ih];rfl
def a9S:aTR c (cu c L)=uA c L L:=bAi c L L
def bIO:Rt:=aM2 c (uA c L L)
def e11:oF (xF Ld c (cu c L))=bIO c L:=by rw[bBS];simp only[a9S];rfl
def a8X(L n:Nat):bP L (n+1) 11 []=bIO (bP L n) L:=by rw[<-e11];exact cz (x:=Ld) (by kernel_rfl) L n _
def bIb(c:bT)(a:List UInt8):Rt:=
 aa [yR 1 (G.Y.mk [117,115,101,114] a)]
def bP8(L:Nat):List UInt8->Rt:=bIb c
def e14:jN (xF a5O c (cu c L))=bP8 c L:=by kernel_rfl
def c14(a:List UInt8)(L n:Nat):bP L (n+1) 14 [yT a]=bP8 (bP L n) L a:=by rw[<-e14];exact cz (x:=a5O) (by kernel_rfl) L n _
def HO(c:bT)(e:Cu):Kt:=xK yU
def aSX:Kt:=xT yU c e [1,1,1] (HO c e)
def bCS:Kt:=xT yU c e (pw 11 1911) (HO c e)
def aFo:Kt:=cO U0 1 (bCS c e)
def aMt(d:Bool->Int->List G.E->Int->G.Z->G.T->Rt)(f:List G.E)(b:Int)(g:G.Z):Rt:=
 vJ (c 17 [yI 12,yR 0 g]) λa=>
 bR (aj (b<1)) (d (aj ((3:Int)<a.1)) a.1 f b a.2.1 GA) (d ah a.1 f b a.2.1 GA)
def aB1(c:bT)(a:Int->List G.E->Int->G.Z->G.T->Rt)(i:Bool)(b:Int)(d:List G.E)(f:Int)(g:G.Z)(h:G.T):Rt:=
 bR i (jY (!decide ((4:Int)=0))<|
 a (Int.tmod b 4) d f g h) (a b d f g h)
def aT9(n:Nt):Bool->Int->List G.E->Int->G.Z->G.T->Rt:=λx0 x1 x2 x3 x4 x5=>n [yB x0,yI x1,yS 15 x2,yI x3,yR 0 x4,yR 3 x5]
def aJl:=aT9 (xD yU e (pw 5 11) UF (aSX c e))
def aB0(d:List G.E->Int->G.Z->G.Y->G.T->Rt)(f:Int)(g:List G.E)(h:Int)(a:G.Z)(i:G.T):Rt:=
 bR (aj (f<3)) (uD (c 18 [yR 0 a]) λj=>
 aa [yR 3 j.1,yR 0 j.2.1]) (bR (aj (f=3)) (tL (c 26 [yI 1,yR 0 a]) λl=>
 pL (c 45 [yR 2 l.1]) λs=>
 aa [yR 3 s.1,yR 0 l.2.1]) (fN [(.sl .str)] (c 46 []) λ(m:(List (List UInt8))×Unit)=>
 fN [(.sl .str)] (c 47 []) λ(o:(List (List UInt8))×Unit)=>
 vJ (c 17 [yI 4,yR 0 a]) λb=>
 bR (aj (b.1<3)) (vJ (c 17 [yI (ak m.1:Int),yR 0 b.2.1]) λp=>
 ob (cU m.1 p.1) λt=>
 vI (c 48 [yT t]) λu=>
 d g h p.2.1 u.1 i) (vJ (c 17 [yI (ak o.1:Int),yR 0 b.2.1]) λq=>
 ob (cU o.1 q.1) λv=>
 vI (c 14 [yT v]) λw=>
 d g h q.2.1 w.1 i)))
def aT8(n:Nt):Int->List G.E->Int->G.Z->G.T->Rt:=λx0 x1 x2 x3 x4=>n [yI x0,yS 15 x1,yI x2,yR 0 x3,yR 3 x4]
def aJk:=aT8 (xD yU e (pw 4 7) UE (HO c e))
def aMs(d:Int->List G.E->Int->Int->List G.T->G.Z->G.Y->G.T->Rt)(a:List G.E)(f:Int)(g:G.Z)(b:G.Y)(h:G.T):Rt:=
 vK (c 49 [yS 15 a,yR 1 b]) λi=>
 d i.1 a f 0 ([]:List G.T) g b h
def aT7(n:Nt):List G.E->Int->G.Z->G.Y->G.T->Rt:=λx0 x1 x2 x3 x4=>n [yS 15 x0,yI x1,yR 0 x2,yR 1 x3,yR 3 x4]
def aJj:=aT7 (xD yU e (pw 8 119) UD (HO c e))
def aBZ(l:Int->List G.E->Int->Int->List G.T->G.Z->G.Y->G.T->Rt)(d:Int)(f:List G.E)(g:Int)(h:Int)(a:List G.T)(i:G.Z)(j:G.Y)(m:G.T):Rt:=
 bR (aj (h<d)) (uD (c 15 [yS 15 f,yI (IntKind.i64.wrap (g-1)),yR 0 i]) λb=>
 jY (an ((ak a+ak ([b.1]:List G.T))*176) 1073741824)<|
 l d f g (IntKind.i64.wrap (h+1)) (a++([b.1]:List G.T)) b.2.1 j m) (pL (c 44 [yR 1 j,yS 3 a]) λo=>
 aa [yR 3 o.1,yR 0 i])
def aBu(n:Nt):Int->List G.E->Int->Int->List G.T->G.Z->G.Y->G.T->Rt:=λx0 x1 x2 x3 x4 x5 x6 x7=>n [yI x0,yS 15 x1,yI x2,yI x3,yS 3 x4,yR 0 x5,yR 1 x6,yR 3 x7]
def aTQ:=aBu (xE yU e (pw 14 2935) Fu (aFo c e))
def bBQ:aBo (xF yU c e)=aMt c (aJl c e):=by kernel_rfl
def bBP:aT9 (xA yU c e (pw 5 11) UF (aSX c e))=aB1 c (aJk c e):=by kernel_rfl
def bBO:aT8 (xA yU c e (pw 4 7) UE (HO c e))=aB0 c (aJj c e):=by kernel_rfl
def bBN:aT7 (xA yU c e (pw 8 119) UD (HO c e))=aMs c (aTQ c e):=by kernel_rfl
def bBM(n4:Nt):aBu (xA yU c e (pw 14 2935) Fu (fT U0 Fu n4 (aFo c e)))=aBZ c (aBu n4):=by kernel_rfl
def FV(c:bT)(L:Nat):Nat->Int->List G.E->Int->Int->List G.T->G.Z->G.Y->G.T->Rt
 |0=>λ_ _ _ _ _ _ _ _=>ad
 |n+1=>aBZ c (FV c L n)
def bAh(n:Nat):aBu (xL yU c L (pw 14 2935) Fu (aFo c (cu c L)) n)=FV c L n:=by
 induction n with
 |zero=>rfl
 |succ n ih=>rw[eM,bBM];simp only[ih];rfl
def a9Q:aTQ c (cu c L)=FV c L L:=bAh c L L
def aBE:List G.E->Int->G.Z->G.Y->G.T->Rt:=aMs c (FV c L L)
def bEG:aJj c (cu c L)=aBE c L:=by rw[aJj,bW,bBN];simp only[a9Q];rfl
def Sl:Int->List G.E->Int->G.Z->G.T->Rt:=aB0 c (aBE c L)
def bEH:aJk c (cu c L)=Sl c L:=by rw[aJk,bW,bBO];simp only[bEG];rfl
def JB:Bool->Int->List G.E->Int->G.Z->G.T->Rt:=aB1 c (Sl c L)
def bEI:aJl c (cu c L)=JB c L:=by rw[aJl,bW,bBP];simp only[bEH];rfl
def bIN:List G.E->Int->G.Z->Rt:=aMt c (JB c L)
def e15:aBo (xF yU c (cu c L))=bIN c L:=by rw[bBQ];simp only[bEI];rfl
def bO5(a:List G.E)(b:Int)(d:G.Z)(L n:Nat):bP L (n+1) 15 [yS 15 a,yI b,yR 0 d]=bIN (bP L n) L a b d:=by rw[<-e15];exact cz (x:=yU) (by kernel_rfl) L n _
end
end Go.TV
namespace Go.TV
open Go.AI Go.PI Go.Proofs
def aIb{t u:Ty}{x:Den U0.D t}{y:Den U0.D u}(h:UG t u x=aa y):(⟨t,x⟩:TV U0.D)=⟨u,y⟩:=by
 unfold UG at h;split at h
 .rename_i e _;subst e;simp only[aA]at h;subst h;rfl
 .cases h
def RP: ∀{ts:List Ty} {d:mK} {r:DenL U0.D ts},fK ts d=aa r->d=aNj ts r
 |[],[],_,_=>rfl
 |[],_::_,_,h=>by cases h
 |_::_,[],_,h=>by cases h
 |t::ts,v::d,r,h=>by
  simp only[fK]at h;split at h
  .rename_i x q h1 h2;simp only[aA]at h;subst h;show v::d=⟨t,x⟩::aNj ts q;rw[<-RP h2,<-aIb h1]
  .cases h
def hx(ts:List Ty)(d:mK)(K:DenL U0.D ts->Rt)(z:Rt):Rt:=match fK ts d with|some r=>K r|none=>z
def bFC{ts:List Ty}{d:mK}{K:DenL U0.D ts->Rt}{z:Rt}(h: ∀r,d=aNj ts r->K r=z):hx ts d K z=z:=by
 unfold hx;split
 .rename_i r e;exact h r (RP e)
 .rfl
def Hk(i:Nat)(h:bT->Nat->mK->Rt->Rt)(L m:Nat)(d:mK):Prop:=h (bP L m) L d (bP L (m+1) i d)=bP L (m+1) i d
def evq{b:Bool}{x y z:Rt}(h1:b=ae->x=z)(h2:y=z):(bif b then x else y)=z:=by cases b;exact h2;exact h1 rfl
def evc{b:Bool}{x y z:Rt}(h1:x=z)(h2:y=z):(bif b then x else y)=z:=by cases b;exact h2;exact h1
noncomputable def hG(i:Nat)(c:bT)(L:Nat)(d:mK)(z:Rt):Rt:=
 match rN insL i with
 |some x=>bif am x.sig.f orcI.n||am x.sig.f orcI.m then z else xF x c (cu c L) d
 |none=>z
def bFF(i L m:Nat)(d:mK):hG i (bP L m) L d (bP L (m+1) i d)=bP L (m+1) i d:=by
 unfold hG;split
 .rename_i x hx;cases hb:am x.sig.f orcI.n||am x.sig.f orcI.m with
  |true=>rfl
  |false=>exact(cg hx hb L m d).symm
 .rfl
structure HE where
 i:Nat
 h:bT->Nat->mK->Rt->Rt
 ok: ∀L m d,Hk i h L m d
def mH(i:Nat)(ts:List Ty)(F:bT->Nat->DenL U0.D ts->Rt)(ok: ∀(L m:Nat) (r:DenL U0.D ts),bP L (m+1) i (aNj (D:=U0.D) ts r)=F (bP L m) L r):HE:=
 ⟨i,λc L d z=>hx ts d (F c L) z,λL m d=>bFC λr e=>e▸(ok L m r).symm⟩
abbrev HF:=Nat->bT->Nat->mK->Rt->Rt
def bHO(f:HF):Prop:= ∀(i L m:Nat) (d:mK),f i (bP L m) L d (bP L (m+1) i d)=bP L (m+1) i d
noncomputable def gH:HF:=hG
def cA:bHO gH:=bFF
def gK(x:HE)(l r:HF):HF:=λi c L d z=>bif am i x.i then x.h c L d z else bif Nat.blt i x.i then l i c L d z else r i c L d z
def cB{x:HE}{l r:HF}(hl:bHO l)(hr:bHO r):bHO (gK x l r):=λi L m d=>
 evq (λe=>by rw[aE e];exact x.ok L m d) (evc (hl i L m d) (hr i L m d))
end Go.TV
namespace Go.TV
open Go.AI Go.PI Go.Proofs
set_option maxRecDepth 20000
noncomputable section
def h2:=mH 2 [(.int .u32)] (λc L r=>F2 c L r.1) λL m r=>c2 r.1 L m
def a8R:=mH 11 [] (λc L _=>bIO c L) λL m _=>a8X L m
def h14:=mH 14 [.str] (λc L r=>bP8 c L r.1) λL m r=>c14 r.1 L m
def a5S:=mH 31 [] (λc L _=>bHZ c L) λL m _=>bQ0 L m
def h33:=mH 33 [.str] (λc L r=>bII c L r.1) λL m r=>bOV r.1 L m
def h46:=mH 46 [] (λc L _=>bP1 c L) λL m _=>c46 L m
def h47:=mH 47 [] (λc L _=>bP0 c L) λL m _=>c47 L m
def h49:=mH 49 [zS 15,.rc 1] (λc L r=>bHY c L r.1 r.2.1) λL m r=>bOU r.1 r.2.1 L m
def h62:=mH 62 [] (λc L _=>bIF c L) λL m _=>bQX L m
def h63:=mH 63 [] (λc L _=>bIE c L) λL m _=>bQW L m
def h64:=mH 64 [i6] (λc L r=>bID c L r.1) λL m r=>bQV r.1 L m
def h65:=mH 65 [.str,.str] (λc L r=>bIC c L r.1 r.2.1) λL m r=>bQU r.1 r.2.1 L m
def h66:=mH 66 [.rc 1] (λc L r=>bIB c L r.1) λL m r=>bQT r.1 L m
def h67:=mH 67 [.str] (λc L r=>bIA c L r.1) λL m r=>bQS r.1 L m
def h68:=mH 68 [.rc 2,.rc 2] (λc L r=>bIz c L r.1 r.2.1) λL m r=>bQR r.1 r.2.1 L m
def h70:=mH 70 [zS 15,.rc 3,zS 17,i6] (λc L r=>bHX c L r.1 r.2.1 r.2.2.1 r.2.2.2.1) λL m r=>bOT r.1 r.2.1 r.2.2.1 r.2.2.2.1 L m
def h71:=mH 71 [.rc 2,.rc 2] (λc L r=>a85 c L r.1 r.2.1) λL m r=>bOS r.1 r.2.1 L m
def h73:=mH 73 [] (λc L _=>bPQ c L) λL m _=>bQQ L m
def h74:=mH 74 [] (λc L _=>bPP c L) λL m _=>bQP L m
def h75:=mH 75 [zS 5,.str,.str] (λc L r=>bHW c L r.1 r.2.1 r.2.2.1) λL m r=>bQO r.1 r.2.1 r.2.2.1 L m
def h81:=mH 81 [.rc 1] (λc L r=>bIy c L r.1) λL m r=>bQN r.1 L m
def h82:=mH 82 [zS 15,.rc 1] (λc L r=>bHV c L r.1 r.2.1) λL m r=>bOR r.1 r.2.1 L m
def h92:=mH 92 [i6] (λc L r=>bPF c L r.1) λL m r=>c92 r.1 L m
def h93:=mH 93 [.str,.str] (λc L r=>bIx c L r.1 r.2.1) λL m r=>bQM r.1 r.2.1 L m
def bFG:=mH 94 [.rc 3,zS 17,.rc 19] (λc L r=>aLa c L r.1 r.2.1 r.2.2.1) λL m r=>aQL r.1 r.2.1 r.2.2.1 L m
def h98:=mH 98 [i6,.rc 21] (λc L r=>bPC c L r.1 r.2.1) λL m r=>c98 r.1 r.2.1 L m
def h99:=mH 99 [.rc 2] (λc L r=>bIw c L r.1) λL m r=>bQL r.1 L m
def bM9:=mH 100 [.rc 2] (λc L r=>aR2 c L r.1) λL m r=>bHd r.1 L m
def bM8:=mH 101 [.rc 2] (λc L r=>aR1 c L r.1) λL m r=>bHc r.1 L m
def bM7:=mH 103 [.rc 3] (λc L r=>a8h c L r.1) λL m r=>bPo r.1 L m
def bM6:=mH 104 [] (λc L _=>a8g c L) λL m _=>bHb L m
def bM5:=mH 106 [zS 15,.rc 1] (λc L r=>aLh c L r.1 r.2.1) λL m r=>a62 r.1 r.2.1 L m
def bM4:=mH 107 [.rc 15] (λc L r=>aLg c L r.1) λL m r=>a6Z r.1 L m
def bM3:=mH 117 [.str] (λc L r=>aR0 c L r.1) λL m r=>bG9 r.1 L m
def bM2:=mH 118 [.str,.str] (λc L r=>aRZ c L r.1 r.2.1) λL m r=>bG8 r.1 r.2.1 L m
def bM1:=mH 119 [.sl i6,.sl i6] (λc L r=>aRY c L r.1 r.2.1) λL m r=>bG7 r.1 r.2.1 L m
def bM0:=mH 120 [.bool,.sl i6] (λc L r=>aRX c L r.1 r.2.1) λL m r=>bG6 r.1 r.2.1 L m
def bMZ:=mH 121 [zS 17,.rc 1] (λc L r=>aLf c L r.1 r.2.1) λL m r=>bG5 r.1 r.2.1 L m
def bMY:=mH 122 [.rc 3,.str,i6] (λc L r=>aRW c L r.1 r.2.1 r.2.2.1) λL m r=>bG4 r.1 r.2.1 r.2.2.1 L m
def bMX:=mH 123 [.rc 2] (λc L r=>aRV c L r.1) λL m r=>bG3 r.1 L m
def bMW:=mH 124 [.rc 1,zS 2] (λc L r=>aLe c L r.1 r.2.1) λL m r=>a6X r.1 r.2.1 L m
def bMV:=mH 125 [zS 1,zS 2] (λc L r=>aLd c L r.1 r.2.1) λL m r=>bG2 r.1 r.2.1 L m
def bMU:=mH 128 [i6,.rc 21] (λc L r=>a77 c L r.1 r.2.1) λL m r=>bPg r.1 r.2.1 L m
def bMT:=mH 129 [zS 5,.str,.str] (λc L r=>a76 c L r.1 r.2.1 r.2.2.1) λL m r=>bPf r.1 r.2.1 r.2.2.1 L m
def bMS:=mH 130 [.rc 2,i6] (λc L r=>aRU c L r.1 r.2.1) λL m r=>bG1 r.1 r.2.1 L m
def bMR:=mH 131 [.rc 1] (λc L r=>a75 c L r.1) λL m r=>bPe r.1 L m
def bMQ:=mH 136 [zS 15,.rc 1] (λc L r=>a74 c L r.1 r.2.1) λL m r=>bPd r.1 r.2.1 L m
def bMP:=mH 140 [.rc 3] (λc L r=>a73 c L r.1) λL m r=>bPc r.1 L m
def bMO:=mH 141 [.rc 3] (λc L r=>a71 c L r.1) λL m r=>bPb r.1 L m
def bMN:=mH 142 [.rc 3] (λc L r=>a7Z c L r.1) λL m r=>bPa r.1 L m
def bMM:=mH 150 [.str] (λc L r=>aRT c L r.1) λL m r=>bGZ r.1 L m
def bML:=mH 151 [.sl i6] (λc L r=>aRS c L r.1) λL m r=>bGY r.1 L m
def bMK:=mH 152 [.sl i6,.sl i6] (λc L r=>aRR c L r.1 r.2.1) λL m r=>bGX r.1 r.2.1 L m
def bMJ:=mH 153 [.sl i6,.sl i6] (λc L r=>aRQ c L r.1 r.2.1) λL m r=>bGW r.1 r.2.1 L m
def bMI:=mH 154 [.str,.rc 2] (λc L r=>aRP c L r.1 r.2.1) λL m r=>bGV r.1 r.2.1 L m
def bMH:=mH 155 [.str,.rc 2,.rc 2] (λc L r=>aLb c L r.1 r.2.1 r.2.2.1) λL m r=>a6V r.1 r.2.1 r.2.2.1 L m
def bMG:=mH 156 [.rc 2] (λc L r=>aRO c L r.1) λL m r=>bGU r.1 L m
def bMF:=mH 160 [.rc 20,.bool] (λc L r=>aRN c L r.1 r.2.1) λL m r=>bGT r.1 r.2.1 L m
def bME:=mH 164 [.str] (λc L r=>aRM c L r.1) λL m r=>bGS r.1 L m
def bMD:=mH 166 [.str] (λc L r=>aRL c L r.1) λL m r=>bGR r.1 L m
def bMC:=mH 167 [zS 5,.str] (λc L r=>a7Q c L r.1 r.2.1) λL m r=>bO0 r.1 r.2.1 L m
def bMB:=mH 168 [.rc 1] (λc L r=>aRK c L r.1) λL m r=>bGQ r.1 L m
def bMA:=mH 172 [.rc 3,i6] (λc L r=>a7P c L r.1 r.2.1) λL m r=>bOZ r.1 r.2.1 L m
def bMz:=mH 173 [.rc 3,i6] (λc L r=>a7O c L r.1 r.2.1) λL m r=>bOY r.1 r.2.1 L m
def bMy:=mH 178 [.rc 2] (λc L r=>aRJ c L r.1) λL m r=>bGP r.1 L m
def bMx:=mH 179 [.bool] (λc L r=>aRI c L r.1) λL m r=>bGO r.1 L m
def bMw:=mH 180 [.rc 2] (λc L r=>aRH c L r.1) λL m r=>bGN r.1 L m
def bMv:=mH 181 [.rc 2] (λc L r=>aRG c L r.1) λL m r=>bGM r.1 L m
def bMu:=mH 182 [.rc 2] (λc L r=>aRF c L r.1) λL m r=>bGL r.1 L m
def bMt:=mH 183 [.str,.str] (λc L r=>aRE c L r.1 r.2.1) λL m r=>bGK r.1 r.2.1 L m
def bMs:=mH 184 [.rc 2] (λc L r=>aRD c L r.1) λL m r=>bGJ r.1 L m
def bMr:=mH 185 [.rc 2] (λc L r=>aRC c L r.1) λL m r=>bGI r.1 L m
def bMq:=mH 186 [.rc 2,.rc 2] (λc L r=>aRB c L r.1 r.2.1) λL m r=>bGH r.1 r.2.1 L m
def bMp:=mH 187 [.rc 2,.rc 2] (λc L r=>aRA c L r.1 r.2.1) λL m r=>bGG r.1 r.2.1 L m
def bMo:=mH 188 [.rc 2,.rc 2] (λc L r=>aRz c L r.1 r.2.1) λL m r=>bGF r.1 r.2.1 L m
def bMn:=mH 189 [.rc 2,.rc 2] (λc L r=>aRy c L r.1 r.2.1) λL m r=>bGE r.1 r.2.1 L m
def bMm:=mH 190 [.rc 2] (λc L r=>aRx c L r.1) λL m r=>bGD r.1 L m
def bMl:=mH 192 [.rc 1] (λc L r=>aRw c L r.1) λL m r=>bGC r.1 L m
def bMk:=mH 197 [.rc 3] (λc L r=>a7N c L r.1) λL m r=>bOX r.1 L m
def bMj:=mH 205 [.str] (λc L r=>aRv c L r.1) λL m r=>bGB r.1 L m
def bMi:=mH 206 [.sl i6,.sl i6] (λc L r=>aRu c L r.1 r.2.1) λL m r=>bGA r.1 r.2.1 L m
def bMh:=mH 207 [.str] (λc L r=>aRt c L r.1) λL m r=>bGz r.1 L m
def bMg:=mH 208 [.str,.str] (λc L r=>aRs c L r.1 r.2.1) λL m r=>bGy r.1 r.2.1 L m
def bMf:=mH 209 [.str,.str] (λc L r=>aRr c L r.1 r.2.1) λL m r=>bGx r.1 r.2.1 L m
def bMe:=mH 210 [.rc 2,.rc 2] (λc L r=>aRq c L r.1 r.2.1) λL m r=>bGw r.1 r.2.1 L m
def bMd:=mH 211 [.str] (λc L r=>aRp c L r.1) λL m r=>bGv r.1 L m
def bMc:=mH 218 [.sl i6,.sl i6] (λc L r=>aRo c L r.1 r.2.1) λL m r=>bGu r.1 r.2.1 L m
def bMb:=mH 219 [.rc 2] (λc L r=>aRn c L r.1) λL m r=>bGt r.1 L m
def bMa:=mH 220 [.str,.str] (λc L r=>aRm c L r.1 r.2.1) λL m r=>bGs r.1 r.2.1 L m
def a5R:HF:=(gK bMS (gK h92 (gK h65 (gK h46 (gK h14 (gK a8R (gK h2 gH gH) gH) (gK h33 (gK a5S gH gH) gH)) (gK h62 (gK h49 (gK h47 gH gH) gH) (gK h64 (gK h63 gH gH) gH))) (gK h73 (gK h68 (gK h67 (gK h66 gH gH) gH) (gK h71 (gK h70 gH gH) gH)) (gK h81 (gK h75 (gK h74 gH gH) gH) (gK h82 gH gH)))) (gK bM3 (gK bM8 (gK h98 (gK bFG (gK h93 gH gH) gH) (gK bM9 (gK h99 gH gH) gH)) (gK bM5 (gK bM6 (gK bM7 gH gH) gH) (gK bM4 gH gH))) (gK bMX (gK bM0 (gK bM1 (gK bM2 gH gH) gH) (gK bMY (gK bMZ gH gH) gH)) (gK bMU (gK bMV (gK bMW gH gH) gH) (gK bMT gH gH))))) (gK bMv (gK bMG (gK bMM (gK bMP (gK bMQ (gK bMR gH gH) gH) (gK bMN (gK bMO gH gH) gH)) (gK bMJ (gK bMK (gK bML gH gH) gH) (gK bMH (gK bMI gH gH) gH))) (gK bMA (gK bMD (gK bME (gK bMF gH gH) gH) (gK bMB (gK bMC gH gH) gH)) (gK bMx (gK bMy (gK bMz gH gH) gH) (gK bMw gH gH)))) (gK bMk (gK bMp (gK bMs (gK bMt (gK bMu gH gH) gH) (gK bMq (gK bMr gH gH) gH)) (gK bMm (gK bMn (gK bMo gH gH) gH) (gK bMl gH gH))) (gK bMe (gK bMh (gK bMi (gK bMj gH gH) gH) (gK bMf (gK bMg gH gH) gH)) (gK bMb (gK bMc (gK bMd gH gH) gH) (gK bMa gH gH))))))
def aPg:bHO a5R:=(cB (cB (cB (cB (cB (cB (cB cA cA) cA) (cB (cB cA cA) cA)) (cB (cB (cB cA cA) cA) (cB (cB cA cA) cA))) (cB (cB (cB (cB cA cA) cA) (cB (cB cA cA) cA)) (cB (cB (cB cA cA) cA) (cB cA cA)))) (cB (cB (cB (cB (cB cA cA) cA) (cB (cB cA cA) cA)) (cB (cB (cB cA cA) cA) (cB cA cA))) (cB (cB (cB (cB cA cA) cA) (cB (cB cA cA) cA)) (cB (cB (cB cA cA) cA) (cB cA cA))))) (cB (cB (cB (cB (cB (cB cA cA) cA) (cB (cB cA cA) cA)) (cB (cB (cB cA cA) cA) (cB (cB cA cA) cA))) (cB (cB (cB (cB cA cA) cA) (cB (cB cA cA) cA)) (cB (cB (cB cA cA) cA) (cB cA cA)))) (cB (cB (cB (cB (cB cA cA) cA) (cB (cB cA cA) cA)) (cB (cB (cB cA cA) cA) (cB cA cA))) (cB (cB (cB (cB cA cA) cA) (cB (cB cA cA) cA)) (cB (cB (cB cA cA) cA) (cB cA cA))))))
end
end Go.TV
namespace Go.TV
open Go.AI Go.PI Go.Proofs
noncomputable def a8V(K:bT)(up:Nat->bT)(L:Nat):Nat->bT
 |0=>up 0
 |n+1=>λi d=>match K i d with|some r=>aa r|none=>a5R i (a8V K up L n) L d (up (n+1) i d)
noncomputable def a9W(L α:Nat):Nat->bT:=λn=>bP L (α+n)
def Lo{K:bT}{L α:Nat}(hK: ∀n i d r,K i d=aa r->bP L (α+n+1) i d=aa r): ∀n,a8V K (a9W L α) L n=bP L (α+n)
 |0=>rfl
 |n+1=>by
  funext i d;show(match K i d with|some r=>aa r|none=>a5R i (a8V K (a9W L α) L n) L d (bP L (α+n+1) i d))=bP L (α+n+1) i d
  rw[Lo hK n];split
  .rename_i r e;exact(hK n i d r e).symm
  .exact aPg i L (α+n) d
end Go.TV
namespace Go.TV
open Go.AI Go.PI Go.Proofs
set_option maxRecDepth 20000
def aIk{P:Program}{T:TP U0.D}{l:List (Nat×cC)}{i:Nat}{x:cC}(hx:rN l i=aa x)(hs:T.sig i=aa x.sig)(hb:(aOE T.orc x.sig&&an x.sig.bx.length 100&&GS x.sig.bx.length x.sig.bx)=ae)(L n:Nat)(d:mK){y:OV}(ho:aOv U0 T.orc x.sig d=aa y):
    vY U0 T (GD P l) L (n+1) i d=aa [bKU U0 y]:=by
 have hg:GD P l i=aa (iX x.sk (sT P x.sig.f),HL P x.sig.f):=by simp only[GD,hx]
 simp only[vY,hs,hg,hb,aI,ho]
def Kf:bT:=λi d=>bif am i 177 then(match aOv U0 orcI ii177.sig d with|some x=>aa [bKU U0 x]|none=>ad)else ad
noncomputable def cF(L M k:Nat):bT:=a8V Kf (a9W (L+7000) M) (L+7000) k
def aA5(L M k:Nat):cF L M k=bP (L+7000) (M+k):=Lo (λn i d r h=>by
 unfold Kf at h;cases hb:am i 177 with
 |false=>rw[hb]at h;cases h
 |true=>
  rw[hb,aI]at h;split at h
  .rename_i x hx;simp only[aA]at h;subst h;rw[aE hb];exact aIk (x:=ii177) (by kernel_rfl) (by kernel_rfl) (by kernel_rfl) _ _ d hx
  .cases h) k
def DM:List UInt8:=[117,115,101,114]
def aSg:G.O:=⟨0,[],[],⟨[],[]⟩,[],[]⟩
def tV(w:List UInt8):G.T:=⟨1,⟨DM,w⟩,aSg,[]⟩
def tA(f:G.Y)(l:List G.T):G.T:=⟨3,f,aSg,l⟩
def tC(o:G.O):G.T:=⟨2,⟨[],[]⟩,o,[]⟩
def Su:G.O:=⟨2,[],[],⟨eE,[110,105,108]⟩,[],[]⟩
def Gz(a b:G.O):G.O:=⟨4,[],[],⟨[],[]⟩,[],[a,b]⟩
def IY(x:Rt):Prop:= ∃o:G.O,x=aa [yR 2 o]/\kE o+sW o<=20
def bDx(l:List (List UInt8)):Bool:=l.all λw=>an 1 w.length&&an w.length 20
def aGy{l:List (List UInt8)}(h:bDx l=ae){w:List UInt8}(hw:w∈l):1<=w.length/\w.length<=20:=by
 have:=bJ.1 h w hw;simp only[aC,d7]at this;exact this
def bQK(r:Rt):Bool:=match r with|some [⟨.rc 2,o⟩]=>an (kE o+sW o) 20|_=>ah
def Ai{r:Rt}(h:bQK r=ae):IY r:=by
 unfold bQK at h;split at h
 .rename_i o;exact⟨o,rfl,bK h⟩
 .cases h
section
variable(L M:Nat)
def bJb(w:List UInt8):cF L M 60 8 [yT w]=aa [yR 3 (tV w)]:=by kernel_rfl
def bLi(w:List UInt8)(l:List G.T):cF L M 60 9 [yT w,yS 3 l]=aa [yR 3 (tA ⟨eE,w⟩ l)]:=by kernel_rfl
def bPu(f:G.Y)(l:List G.T):cF L M 60 44 [yR 1 f,yS 3 l]=aa [yR 3 (tA f l)]:=by kernel_rfl
def bLo(o:G.O):cF L M 60 45 [yR 2 o]=aa [yR 3 (tC o)]:=by kernel_rfl
def bJg(w:List UInt8):cF L M 60 14 [yT w]=aa [yR 1 ⟨DM,w⟩]:=by kernel_rfl
def bJC(w:List UInt8):cF L M 60 48 [yT w]=aa [yR 1 ⟨eE,w⟩]:=by kernel_rfl
def bGq(a b:G.O):cF L M 60 68 [yR 2 a,yR 2 b]=aa [yR 2 (Gz a b)]:=by kernel_rfl
def a3r:cF L M 60 69 [yS 2 []]=aa [yR 2 Su]:=by kernel_rfl
def a3q(a:G.O):cF L M 60 69 [yS 2 ([a]:List G.O)]=aa [yR 2 (Gz a Su)]:=by kernel_rfl
def a3p(a b:G.O):cF L M 60 69 [yS 2 ([a,b]:List G.O)]=aa [yR 2 (Gz a (Gz b Su))]:=by kernel_rfl
def a3o(a b d:G.O):cF L M 60 69 [yS 2 ([a,b,d]:List G.O)]=aa [yR 2 (Gz a (Gz b (Gz d Su)))]:=by kernel_rfl
def bK1:IY (cF L M 60 62 []):=Ai (by kernel_rfl)
def bK0:IY (cF L M 60 63 []):=Ai (by kernel_rfl)
def bK2(r:Int)(h0:0<=r)(h1:r<7):IY (cF L M 60 64 [yI (IntKind.i64.wrap (r-3))]):=by
 obtain rfl|rfl|rfl|rfl|rfl|rfl|rfl:r=0∨r=1∨r=2∨r=3∨r=4∨r=5∨r=6:=by omega
 all_goals exact Ai (by kernel_rfl)
def bK4:IY (cF L M 60 64 [yI (0:Int)]):=Ai (by kernel_rfl)
def bK3:IY (cF L M 60 64 [yI (1:Int)]):=Ai (by kernel_rfl)
def bDe:IY (cF L M 60 65 [yT ([49]:List UInt8),yT ([50]:List UInt8)]):=Ai (by kernel_rfl)
def bDd:IY (cF L M 60 65 [yT ([45,53]:List UInt8),yT ([51]:List UInt8)]):=Ai (by kernel_rfl)
def bDc(y:G.Y)(h:lU y=ae):IY (cF L M 60 66 [yR 1 y]):=⟨⟨2,[],[],y,[],[]⟩,by kernel_rfl,by simp[kE,gV,aIx,wS,h,qI]⟩
def bKZ(w:List UInt8)(h:aSZ w=ae):IY (cF L M 60 67 [yT w]):=⟨⟨3,[],[],⟨[],[]⟩,w,[]⟩,by kernel_rfl,by simp[kE,gV,a7e,h,a7f]⟩
def bFD: ∃l:List (List UInt8),cF L M 60 46 []=aa [⟨.sl .str,l⟩]/\l.length=25/\bDx l=ae:=⟨match aUX (λ_ _=>ad)with|some (⟨.sl .str,t⟩::_)=>t|_=>[],by kernel_rfl,by kernel_rfl,by kernel_rfl⟩
def bC1: ∃l:List (List UInt8),cF L M 60 47 []=aa [⟨.sl .str,l⟩]/\l.length=8/\bDx l=ae:=⟨match aUW (λ_ _=>ad)with|some (⟨.sl .str,t⟩::_)=>t|_=>[],by kernel_rfl,by kernel_rfl,by kernel_rfl⟩
end
structure Lib(c:bT):Prop where
 v: ∀w,c 8 [yT w]=aa [yR 3 (tV w)]
 l: ∀w (l:List G.T),c 9 [yT w,yS 3 l]=aa [yR 3 (tA ⟨eE,w⟩ l)]
 a: ∀(f:G.Y) (l:List G.T),c 44 [yR 1 f,yS 3 l]=aa [yR 3 (tA f l)]
 k: ∀o:G.O,c 45 [yR 2 o]=aa [yR 3 (tC o)]
 u: ∀w,c 14 [yT w]=aa [yR 1 (⟨DM,w⟩:G.Y)]
 s: ∀w,c 48 [yT w]=aa [yR 1 (⟨eE,w⟩:G.Y)]
 cn: ∀a b:G.O,c 68 [yR 2 a,yR 2 b]=aa [yR 2 (Gz a b)]
 l0:c 69 [yS 2 ([]:List G.O)]=aa [yR 2 Su]
 l1: ∀a:G.O,c 69 [yS 2 ([a]:List G.O)]=aa [yR 2 (Gz a Su)]
 l2: ∀a b:G.O,c 69 [yS 2 ([a,b]:List G.O)]=aa [yR 2 (Gz a (Gz b Su))]
 l3: ∀a b d:G.O,c 69 [yS 2 ([a,b,d]:List G.O)]=aa [yR 2 (Gz a (Gz b (Gz d Su)))]
 n:IY (c 62 [])
 t:IY (c 63 [])
 i: ∀r:Int,0<=r->r<7->IY (c 64 [yI (IntKind.i64.wrap (r-3))])
 i0:IY (c 64 [yI (0:Int)])
 i1:IY (c 64 [yI (1:Int)])
 q1:IY (c 65 [yT ([49]:List UInt8),yT ([50]:List UInt8)])
 q2:IY (c 65 [yT ([45,53]:List UInt8),yT ([51]:List UInt8)])
 sy: ∀y:G.Y,lU y=ae->IY (c 66 [yR 1 y])
 x: ∀w,aSZ w=ae->IY (c 67 [yT w])
 hd: ∃l:List (List UInt8),c 46 []=aa [⟨.sl .str,l⟩]/\l.length=25/\bDx l=ae
 ow: ∃l:List (List UInt8),c 47 []=aa [⟨.sl .str,l⟩]/\l.length=8/\bDx l=ae
 nx: ∀(s:G.Z) (a:Int),dB s->1<=a->bPA (c 17 [yI a,yR 0 s]) a
def a3m(L M:Nat):Lib (bP (L+7000) (M+60)):=by
 have h: ∀(s:G.Z) (a:Int),dB s->1<=a->bPA (bP (L+7000) (M+60) 17 [yI a,yR 0 s]) a:=λs a h1 h2=>bHP (n:=M+59) h1 h2
 rw[<-aA5]at h⊢;exact⟨bJb L M,bLi L M,bPu L M,bLo L M,bJg L M,bJC L M,bGq L M,a3r L M,a3q L M,a3p L M,a3o L M,bK1 L M,bK0 L M,bK2 L M,bK4 L M,bK3 L M,bDe L M,bDd L M,bDc L M,bKZ L M,bFD L M,bC1 L M,h⟩
end Go.TV
namespace Go.TV
open Go.AI Go.PI Go.Proofs
set_option maxRecDepth 20000
noncomputable def bIv(L M k:Nat):Bool:=match cF L M 60 92 [⟨.int .i64,(k:Int)⟩]with|some [⟨.str,s⟩]=>decide (s=a56 k)|_=>ah
noncomputable def a8U(L M:Nat):Nat->Nat->Bool
 |_,0=>ae
 |a,n+1=>bIv L M a&&a8U L M (a+1) n
def Lh{L M:Nat}: ∀{n a k:Nat},a8U L M a n=ae->a<=k->k<a+n->bIv L M k=ae
 |0,a,k,_,h1,h2=>by omega
 |n+1,a,k,h,h1,h2=>by
  rw[a8U,aC]at h;by_cases e:k=a
  .subst e;exact h.1
  .exact Lh h.2 (by omega) (by omega)
def bNk(L M:Nat):a8U L M 0 100=ae:=by kernel_rfl
def bNj(L M:Nat):a8U L M 100 450=ae:=by kernel_rfl
def bNi(L M:Nat):a8U L M 550 450=ae:=by kernel_rfl
def T2:Gh:=by
 intro k hk;have h: ∀L M,bIv L M k=ae:=λL M=>by
  by_cases h1:k<100
  .exact Lh (bNk L M) (by omega) (by omega)
  .by_cases h2:k<550
   .exact Lh (bNj L M) (by omega) (by omega)
   .exact Lh (bNi L M) (by omega) (by omega)
 refine⟨7060,λL n h1 h2=>?_⟩
 obtain⟨L,rfl⟩: ∃q,L=q+7000:=⟨L-7000,by omega⟩
 obtain⟨n,rfl⟩: ∃q,n=q+60:=⟨n-60,by omega⟩
 have:=h L n;unfold bIv at this;rw[aA5]at this;show bP (L+7000) (n+60) 92 [⟨.int .i64,(k:Int)⟩]=_;split at this
 .rename_i s e;rw[e,of_decide_eq_true this]
 .cases this
end Go.TV
namespace Go.TV
open Go.AI Go.PI Go.Proofs
inductive It where
 |op
 |cl
 |wd (nu:Bool) (w:List UInt8)
def It.by':It->List UInt8
 | .op=>[40]
 | .cl=>[41]
 | .wd _ w=>w
def It.tk(p:Nat):It->G.K
 | .op=>⟨1,(p:Int),[],[],[]⟩
 | .cl=>⟨2,(p:Int),[],[],[]⟩
 | .wd nu w=>bIS nu (p:Int) w
abbrev a7M:=List (List UInt8×It)
def yV:a7M->List UInt8->List UInt8
 |[],tl=>tl
 |(b,t)::l,tl=>b++(t.by'++yV l tl)
def a8I:Nat->a7M->List G.K
 |_,[]=>[]
 |p,(b,t)::l=>t.tk (p+b.length)::a8I (p+b.length+t.by'.length) l
def aO9:List UInt8->Bool
 |[48]=>ae
 |[49]=>ae
 |[45,49]=>ae
 |_=>ah
def a8N(nu:Bool):List UInt8->Bool
 |[]=>ah
 |x::l=>(x::l).all (λx=>IM (u8 x))&& !decide (u8 x=35)&&(bif nu then aO9 (x::l)else !decide (u8 x=45)&&(aj (u8 x<48)||aj (57<u8 x))&& !decide (x::l=[46])&&an (x::l).length 40)
def bJu:List UInt8->Bool
 |[]=>ae
 |y::_=> !IM (u8 y)&& !decide (u8 y=58)
def aS1(r:List UInt8):It->Bool
 | .wd nu w=>a8N nu w&&bJu r
 |_=>ae
def bDa:a7M->List UInt8->Bool
 |[],tl=>tl.all λx=>UO (u8 x)
 |(b,t)::l,tl=>(b.all λx=>UO (u8 x))&&aS1 (yV l tl) t&&bDa l tl
def bAq{r:List UInt8}(h:bJu r=ae): ∀y,r.head?=aa y->IM (u8 y)=ah/\u8 y≠58:=by
 intro y hy;cases r with
 |nil=>cases hy
 |cons z r=>
  simp only[List.head?_cons,aA]at hy;subst hy;simpa [bJu]using h
def bHg{x:Int}(h:IM x=ae):UO x=ah:=by
 simp only[IM,aC,aD]at h;simp only[UO,Bool.or_eq_false_iff,bC];omega
def bC8{t:It}{r:List UInt8}(h:aS1 r t=ae): ∀y,(t.by'++r).head?=aa y->UO (u8 y)=ah/\u8 y≠59/\u8 y≠35:=by
 intro y hy;cases t with
 |op=>simp[It.by']at hy;subst hy;decide
 |cl=>simp[It.by']at hy;subst hy;decide
 |wd nu w=>
  cases w with
  |nil=>simp[aS1,a8N]at h
  |cons x l=>
   simp[It.by']at hy;subst hy
   simp only[aS1,a8N,aC,aP,Bool.not_eq_true',bC]at h;exact⟨bHg h.1.1.1.1,(aAZ h.1.1.1.1).2.2.2.2.1,h.1.1.2⟩
def a7H{s r:List UInt8}{t:It}{k L n:Nat}(hN: ∀w,aO9 w=ae->aKz (bP L (n+2)) w)(hb:s.length<1000000000)(hL:s.length<L)(h:s.drop k=t.by'++r)(ht:aS1 r t=ae):
    bP L (n+3) 127 [yT s,yI (k:Int)]=aa [yR 20 (t.tk k),yI ((k+t.by'.length:Nat):Int),yR 18 ⟨0,0⟩]:=by
 cases t with
 |op=>exact bHM hb h
 |cl=>exact bHN hb h
 |wd nu w=>
  cases w with
  |nil=>simp[aS1,a8N]at ht
  |cons x l=>
   simp only[aS1,a8N,aC,Bool.not_eq_true',bC]at ht;obtain⟨⟨⟨h1,h2⟩,h3⟩,h4⟩:=ht;refine bPz hb hL h (by simp) (λy hy=>bJ.1 h1 y hy) (bAq h4) ?_
   cases nu with
   |true=>exact .inl ⟨rfl,hN _ h3⟩
   |false=>
    simp only[aJ,aC,Bool.or_eq_true,Bool.not_eq_true',bC,aD]at h3;exact .inr ⟨rfl,x,l,rfl,h3.1.1.1,h3.1.1.2,h3.1.2,bK h3.2⟩
def aQ6{s tl:List UInt8}{L n:Nat}{er:G.X}(hN: ∀w,aO9 w=ae->aKz (bP L (n+2)) w)(hb:s.length<6001)(hL:s.length<L):
    ∀(l:a7M) (k m:Nat) (acc:List G.K),s.drop k=yV l tl->k<=s.length->bDa l tl=ae->l.length<m->acc.length<=k->FH (bP L (n+3)) L m (k:Int) s acc er=aa [yS 20 (acc++a8I k l++ [⟨0,(s.length:Int),[],[],[]⟩]),yR 18 ⟨0,0⟩]:=by
 intro l;induction l with
 |nil=>
  intro k m acc h1 h2 h3 h4 h5;obtain⟨m,rfl⟩:=sK m 1 (by simp at h4;omega)
  have hl:=congrArg ak h1;simp[yV]at hl;have hsk:=aUa (s:=s) (w:=tl) (r:=[]) (k:=k) (L:=L) (n:=n+1) (by omega) hL (by simpa [yV]using h1) (λx hx=>bJ.1 h3 x hx) (by simp)
  have e1:((k+tl.length:Nat):Int)=(s.length:Int):=by omega
  rw[FH,aBH,hsk,KR];simp only[bD,bL];rw[e1];simp only[Int.le_refl,decide_true,bN];have e2:an ((acc.length+([⟨0,(s.length:Int),[],[],[]⟩]:List G.K).length)*64) 1073741824=ae:=by
   rw[d7];simp only[aM,aX];omega
  rw[e2,eZ,show a8I k []=[] from rfl,bA];rfl
 |cons bt l ih=>
  obtain⟨b,t⟩:=bt;intro k m acc h1 h2 h3 h4 h5;obtain⟨m,rfl⟩:=sK m 1 (by simp at h4;omega)
  simp only[bDa,aC]at h3;obtain⟨⟨h6,h7⟩,h8⟩:=h3;have hl:=congrArg ak h1;simp[yV]at hl;have ht:1<=t.by'.length:=by
   cases t with
   |op=>exact aS _
   |cl=>exact aS _
   |wd nu w=>cases w with
    |nil=>simp[aS1,a8N]at h7
    |cons x l=>simp[It.by']
  have hsk:=aUa (s:=s) (w:=b) (r:=t.by'++yV l tl) (k:=k) (L:=L) (n:=n+1) (by omega) hL h1 (λx hx=>bJ.1 h6 x hx) (bC8 h7)
  have hd:s.drop (k+b.length)=t.by'++yV l tl:=by rw[<-List.drop_drop,h1];simp[yV]
  have ho:=a7H (n:=n) hN (by omega) hL hd h7
  have hd2:s.drop (k+b.length+t.by'.length)=yV l tl:=by rw[<-List.drop_drop,hd];simp
  rw[FH,aBH,hsk,KR];simp only[bD,bL];have e1:aj ((s.length:Int)<=((k+b.length:Nat):Int))=ah:=by simp only[bC];omega
  rw[e1,bL,ho,a2S];simp only[decide_true,bD,bL];have e2:an ((acc.length+([t.tk (k+b.length)]:List G.K).length)*64) 1073741824=ae:=by
   rw[d7];simp only[aM,aX];omega
  rw[e2,eZ,ih (k+b.length+t.by'.length) m _ hd2 (by omega) h8 (by simp at h4;omega) (by simp;omega)]
  simp[a8I]
def a7E{l:a7M}{tl:List UInt8}{L n:Nat}(hN: ∀w,aO9 w=ae->aKz (bP L (n+2)) w)(hs:(yV l tl).length<6001)(hL:(yV l tl).length<L)(hl:l.length<L)(ho:bDa l tl=ae):
    bP L (n+4) 96 [yT (yV l tl)]=aa [yS 20 (a8I 0 l++ [⟨0,((yV l tl).length:Int),[],[],[]⟩]),yR 18 ⟨0,0⟩]:=by
 show bP L (n+3+1) 96 _=_;have e1:aj ((6000:Int)<((yV l tl).length:Int))=ah:=by simp only[bC];omega
 rw[c96,bPD,aLp,e1,bL];exact aQ6 (tl:=tl) (er:=⟨0,0⟩) hN hs hL l 0 L [] rfl (a8 _) ho hl (aS _)
end Go.TV
namespace Go.TV
open Go.AI Go.PI Go.Proofs
set_option maxRecDepth 20000
def zE:List UInt8:=[108,105,115,112]
def lP(s:List UInt8):G.O:=⟨2,[],[],⟨zE,s⟩,[],[]⟩
def bK5(s:List UInt8):G.O:=⟨1,s,[49],⟨[],[]⟩,[],[]⟩
def ol:List G.O->G.O
 |[]=>lP [110,105,108]
 |x::l=>⟨4,[],[],⟨[],[]⟩,[],[x,ol l]⟩
def tkP(p:Int):G.K:=⟨1,p,[],[],[]⟩
def tkC(p:Int):G.K:=⟨2,p,[],[],[]⟩
def bQh:List UInt8:=[43]
def bIh:G.O:=lP bQh
def bQg:List UInt8:=[45,49]
def bQl:G.O:=bK5 bQg
def bQf:List UInt8:=[48]
def aDR:G.O:=bK5 bQf
def bQe:List UInt8:=[49]
def bQk:G.O:=bK5 bQe
def bQd:List UInt8:=[60]
def a9G:G.O:=lP bQd
def bIR:List UInt8:=[97]
def aVD:G.O:=lP bIR
def bQc:List UInt8:=[97,110,100]
def bIg:G.O:=lP bQc
def bQb:List UInt8:=[97,112,112,101,110,100]
def w7a:G.O:=lP bQb
def bIQ:List UInt8:=[97,115,115,111,99,45,101,113,117,97,108]
def bQj:G.O:=lP bIQ
def bIP:List UInt8:=[97,116,111,109]
def w9a:G.O:=lP bIP
def aVy:List UInt8:=[98,105,110,97,114,121,45,97,112,112,101,110,100]
def a9T:G.O:=lP aVy
def aVx:List UInt8:=[98,111,111,108,101,97,110,112]
def bJa:G.O:=lP aVx
def a9o:List UInt8:=[99,97,114]
def Ay:G.O:=lP a9o
def a9n:List UInt8:=[99,100,114]
def C2:G.O:=lP a9n
def a9m:List UInt8:=[99,111,110,100]
def a9R:G.O:=lP a9m
def a9l:List UInt8:=[99,111,110,115]
def aVV:G.O:=lP a9l
def a9k:List UInt8:=[99,111,110,115,112]
def uM:G.O:=lP a9k
def aVw:List UInt8:=[99,111,117,110,116]
def C0:G.O:=lP aVw
def a9j:List UInt8:=[100,101,102,117,110]
def lS:G.O:=lP a9j
def aVv:List UInt8:=[101]
def aVO:G.O:=lP aVv
def aVu:List UInt8:=[101,110,100,112]
def bI9:G.O:=lP aVu
def a9i:List UInt8:=[101,113,117,97,108]
def JL:G.O:=lP a9i
def aVt:List UInt8:=[102,105,120]
def bI8:G.O:=lP aVt
def a9h:List UInt8:=[103,117,97,114,100]
def aB8:G.O:=lP a9h
def a9g:List UInt8:=[105,102]
def mF:G.O:=lP a9g
def aVs:List UInt8:=[105,102,102]
def bI7:G.O:=lP aVs
def aVr:List UInt8:=[105,102,105,120]
def bI6:G.O:=lP aVr
def aVq:List UInt8:=[105,109,112,108,105,101,115]
def bI5:G.O:=lP aVq
def a9f:List UInt8:=[105,110,116,101,103,101,114,112]
def aNE:G.O:=lP a9f
def aVp:List UInt8:=[107]
def aVI:G.O:=lP aVp
def aVo:List UInt8:=[108,101,110]
def a9K:G.O:=lP aVo
def a9e:List UInt8:=[108,105,115,116]
def bI2:G.O:=lP a9e
def a9d:List UInt8:=[109,101,97,115,117,114,101]
def DL:G.O:=lP a9d
def aVn:List UInt8:=[109,101,109,98,101,114,45,101,113,117,97,108]
def a9J:G.O:=lP aVn
def aNx:List UInt8:=[110]
def GC:G.O:=lP aNx
def aVm:List UInt8:=[110,97,116,112]
def aB7:G.O:=lP aVm
def aVl:List UInt8:=[110,102,105,120]
def aVH:G.O:=lP aVl
def a9c:List UInt8:=[110,105,108]
def BB:G.O:=lP a9c
def aVk:List UInt8:=[110,111,116]
def GB:G.O:=lP aVk
def aVj:List UInt8:=[110,116,104]
def a9I:G.O:=lP aVj
def aVi:List UInt8:=[111,45,102,105,110,112]
def aND:G.O:=lP aVi
def aVh:List UInt8:=[111,45,102,105,114,115,116,45,99,111,101,102,102,105,99,105,101,110,116]
def aB6:G.O:=lP aVh
def aVg:List UInt8:=[111,45,102,105,114,115,116,45,101,120,112,111,110,101,110,116]
def JK:G.O:=lP aVg
def aVf:List UInt8:=[111,45,112]
def aVG:G.O:=lP aVf
def aVe:List UInt8:=[111,45,114,101,115,116]
def aDQ:G.O:=lP aVe
def aVd:List UInt8:=[111,60]
def aNC:G.O:=lP aVd
def a9b:List UInt8:=[111,114]
def bI0:G.O:=lP a9b
def aDI:List UInt8:=[112]
def aB5:G.O:=lP aDI
def aVc:List UInt8:=[112,111,115,112]
def a9H:G.O:=lP aVc
def aNw:List UInt8:=[113]
def aDP:G.O:=lP aNw
def a9a:List UInt8:=[114,97,116,105,111,110,97,108,112]
def bIY:G.O:=lP a9a
def aVb:List UInt8:=[114,101,118]
def a9E:G.O:=lP aVb
def aVa:List UInt8:=[115,121,110,116,97,120,112]
def bIX:G.O:=lP aVa
def a89:List UInt8:=[116]
def CZ:G.O:=lP a89
def aU9:List UInt8:=[116,114,117,101,45,108,105,115,116,112]
def aB4:G.O:=lP aU9
def aU8:List UInt8:=[117,112,100,97,116,101,45,110,116,104]
def a9A:G.O:=lP aU8
def aU7:List UInt8:=[118]
def aVF:G.O:=lP aU7
def mS:List UInt8:=[120]
def cP:G.O:=lP mS
def aNv:List UInt8:=[121]
def CY:G.O:=lP aNv
def aU6:List UInt8:=[122,112]
def aVE:G.O:=lP aU6
def wdL:List (List UInt8):=[bQh,bQg,bQf,bQe,bQd,bIR,bQc,bQb,bIQ,bIP,aVy,aVx,a9o,a9n,a9m,a9l,a9k,aVw,a9j,aVv,aVu,a9i,aVt,a9h,a9g,aVs,aVr,aVq,a9f,aVp,aVo,a9e,a9d,aVn,aNx,aVm,aVl,a9c,aVk,aVj,aVi,aVh,aVg,aVf,aVe,aVd,a9b,aDI,aVc,aNw,a9a,aVb,aVa,a89,aU9,aU8,aU7,mS,aNv,aU6]
def bIj:Nat->Nat->Nat->List G.K
 |0,_,_=>[]
 |f+1,p,n=>bif am (n%64) 0 then tkP ((p+n/64%64:Nat):Int)::bIj f (p+n/64%64+1) (n/4096)
  else bif am (n%64) 1 then tkC ((p+n/64%64:Nat):Int)::bIj f (p+n/64%64+1) (n/4096)
  else match wdL[n%64-2]? with
   |some w=>bIS (aO9 w) ((p+n/64%64:Nat):Int) w::bIj f (p+n/64%64+w.length) (n/4096)
   |none=>[]
def ZC:List G.K:=bIj 942 0 0x100100100100107b00f04007a00106404300204003904000107b00e04001104000100107b00f04007a01104000106403d04001a0c000100106402604002204000100100107b03804000106402504000804001904000107b07a02404007901404000100100100107b00f04000106404300204002904000107b00e04000106403d04001a0c000100106402604002204000100100107b03804000106402504000804001904000107b02404006901404000100100100100104700f04005f00a04003724000100104700e04000100100100104700e04000e04005f01704000100104700e0400120400080002400010670010010470120400280000400100c000100104701304002204000104701f04004a01404000100106700100100107b00f04005502304007b00100107b00e04005501704001a04000107b01204001a0c000100107b01304002204000100107b03804001904000107b01504006301404000100106700100100107b00e04002104000100107b00f04003504000904000107b01204001a0c000100107b01304002204000103b04007501404000100107c00100107c00107b00f04000c04000107b00e04001104000107b01204001a0c000100107b01304002204000100107b03804001904000107c03b04004c01404000100100106707b01704000100107b00f04003804000107b01204001a04000100107b01304002204000103b04007801404000100104400100100107b00f04002004004500204000107b01204001a04000100107b01304002204000103b04006001404000100100100100107b02c04000100107b02e04002c04002f28000100107b02e04002d28000100107b02b04003228000100104400107b02c04001704002828000100107b02c04002d28000100107b00e04001204000814000107b0251c000107b02a04001a0c000100107b01304002204000103b04006d01404000100100100100107c02e04000107b02e04002f04003724000100100107c02b04000107b02b04000628000100100107c02b04000107b02b04001704002800024000100100107c02c04000107b02c04002f28000100100107c02c04000107b02c04001704002800024000106700107c02a00024000100100107c07b00604007700107c01204001a04000107b02a0000400100c000100107b01304002204000107c03b04006f01404000100104400107b00f04000107b01204001a04000103b04006e01404000100107b00100107b00e04000f04000107b01204001a04000103b04006b01404000100104400100107b00e04000e04000107b01204001a04000103b04006c01404000100100107b01204002804000103b04006a01404000100104400100100107b00f04001304000100107b00e04001304004500204000107b01204001a04000100107b01304002204000103b04005301404000100107700100107b04400604002804000107b01e04001a04000100107b02504001904000103b04007d01404000100104407b00107b02504001a04000103b04006601404000100106700107b04400604000107b01e04001a04000103b04007201404000100106700100104407b00604002804000107b01e04001a04000103b04006501404000100104407b00107b01e04001a04000103b04005c01404000100104407b00107b03404001a04000103b04005801404000100100107b01204002804000100100106707b01704000107b01204003004001904000103b04005601404000100100107b01204002804000103b04004b01404000107700103b04007601404000100100106707b01704007700107707b01704001a04000103b04004d01404000100100107706707301a04000106707707301a04007101a04000107303104005b01404000100107700106707707301a04007101a04000107303104005d01404000100107706707101a040001031040068014000++ [⟨0,2580,[],[],[]⟩]
def bQz:G.O:=ol [lS,GB,ol [aB5],ol [mF,aB5,BB,CZ]]
def bQy:G.O:=ol [lS,bI5,ol [aB5,aDP],ol [mF,aB5,ol [mF,aDP,CZ,BB],CZ]]
def bQx:G.O:=ol [lS,bI7,ol [aB5,aDP],ol [mF,aB5,ol [mF,aDP,CZ,BB],ol [mF,aDP,BB,CZ]]]
def bQw:G.O:=ol [lS,bJa,ol [cP],ol [mF,ol [JL,cP,CZ],CZ,ol [JL,cP,BB]]]
def bQv:G.O:=ol [lS,bIX,ol [cP],CZ]
def bQu:G.O:=ol [lS,w9a,ol [cP],ol [GB,ol [uM,cP]]]
def bQt:G.O:=ol [lS,bI9,ol [cP],ol [aB8,ol [bI0,ol [uM,cP],ol [JL,cP,BB]]],ol [GB,ol [uM,cP]]]
def bQs:G.O:=ol [lS,bI8,ol [cP],ol [mF,ol [bIY,cP],cP,aDR]]
def bQr:G.O:=ol [lS,bI6,ol [cP],ol [mF,ol [aNE,cP],cP,aDR]]
def bQq:G.O:=ol [lS,aB7,ol [cP],ol [mF,ol [aNE,cP],ol [GB,ol [a9G,cP,aDR]],BB]]
def bDw:G.O:=ol [lS,a9H,ol [cP],ol [mF,ol [aNE,cP],ol [a9G,aDR,cP],BB]]
def bDv:G.O:=ol [lS,aVH,ol [cP],ol [mF,ol [aB7,cP],cP,aDR]]
def bDu:G.O:=ol [lS,aVE,ol [cP],ol [aB8,ol [aB7,cP]],ol [mF,ol [aNE,cP],ol [GB,ol [a9G,aDR,cP]],CZ]]
def bDt:G.O:=ol [lS,C0,ol [cP],ol [DL,ol [C0,cP]],ol [mF,ol [uM,cP],ol [bIh,bQk,ol [C0,ol [Ay,cP]],ol [C0,ol [C2,cP]]],aDR]]
def bDs:G.O:=ol [lS,aND,ol [cP],ol [GB,ol [uM,cP]]]
def bDr:G.O:=ol [lS,JK,ol [cP],ol [mF,ol [uM,cP],ol [Ay,ol [Ay,cP]],aDR]]
def bDq:G.O:=ol [lS,aB6,ol [cP],ol [mF,ol [uM,cP],ol [C2,ol [Ay,cP]],cP]]
def bDp:G.O:=ol [lS,aDQ,ol [cP],ol [mF,ol [uM,cP],ol [C2,cP],aDR]]
def bDo:G.O:=ol [lS,aNC,ol [cP,CY],ol [DL,ol [C0,cP]],ol [a9R,ol [ol [aND,cP],ol [mF,ol [uM,CY],CZ,ol [a9G,cP,CY]]],ol [ol [aND,CY],BB],ol [ol [GB,ol [JL,ol [JK,cP],ol [JK,CY]]],ol [aNC,ol [JK,cP],ol [JK,CY]]],ol [ol [GB,ol [JL,ol [aB6,cP],ol [aB6,CY]]],ol [a9G,ol [aB6,cP],ol [aB6,CY]]],ol [CZ,ol [aNC,ol [aDQ,cP],ol [aDQ,CY]]]]]
def bDn:G.O:=ol [lS,aVG,ol [cP],ol [DL,ol [C0,cP]],ol [mF,ol [aND,cP],ol [aB7,cP],ol [bIg,ol [uM,ol [Ay,cP]],ol [aVG,ol [JK,cP]],ol [GB,ol [JL,ol [JK,cP],aDR]],ol [a9H,ol [aB6,cP]],ol [aVG,ol [aDQ,cP]],ol [aNC,ol [JK,ol [aDQ,cP]],ol [JK,cP]]]]]
def bDm:G.O:=ol [lS,a9K,ol [cP],ol [DL,ol [C0,cP]],ol [mF,ol [uM,cP],ol [bIh,bQk,ol [a9K,ol [C2,cP]]],aDR]]
def bDl:G.O:=ol [lS,aB4,ol [cP],ol [DL,ol [C0,cP]],ol [mF,ol [uM,cP],ol [aB4,ol [C2,cP]],ol [JL,cP,BB]]]
def bDk:G.O:=ol [lS,a9T,ol [cP,CY],ol [aB8,ol [aB4,cP]],ol [DL,ol [C0,cP]],ol [mF,ol [uM,cP],ol [aVV,ol [Ay,cP],ol [a9T,ol [C2,cP],CY]],CY]]
def bDj:G.O:=ol [lS,a9E,ol [cP],ol [DL,ol [C0,cP]],ol [mF,ol [uM,cP],ol [w7a,ol [a9E,ol [C2,cP]],ol [bI2,ol [Ay,cP]]],BB]]
def bDi:G.O:=ol [lS,a9J,ol [aVO,cP],ol [aB8,ol [aB4,cP]],ol [DL,ol [C0,cP]],ol [mF,ol [uM,cP],ol [mF,ol [JL,aVO,ol [Ay,cP]],cP,ol [a9J,aVO,ol [C2,cP]]],BB]]
def bDh:G.O:=ol [lS,bQj,ol [aVI,aVD],ol [DL,ol [C0,aVD]],ol [a9R,ol [ol [GB,ol [uM,aVD]],BB],ol [ol [bIg,ol [uM,ol [Ay,aVD]],ol [JL,aVI,ol [Ay,ol [Ay,aVD]]]],ol [Ay,aVD]],ol [CZ,ol [bQj,aVI,ol [C2,aVD]]]]]
def bDg:G.O:=ol [lS,a9I,ol [GC,cP],ol [aB8,ol [bIg,ol [aB7,GC],ol [aB4,cP]]],ol [DL,ol [aVH,GC]],ol [mF,ol [aVE,GC],ol [Ay,cP],ol [a9I,ol [bIh,bQl,GC],ol [C2,cP]]]]
def bDf:G.O:=ol [lS,a9A,ol [GC,aVF,cP],ol [aB8,ol [bIg,ol [aB7,GC],ol [aB4,cP]]],ol [DL,ol [aVH,GC]],ol [mF,ol [aVE,GC],ol [aVV,aVF,ol [C2,cP]],ol [aVV,ol [Ay,cP],ol [a9A,ol [bIh,bQl,GC],aVF,ol [C2,cP]]]]]
def oAll:List G.O:=[bQz,bQy,bQx,bQw,bQv,bQu,bQt,bQs,bQr,bQq,bDw,bDv,bDu,bDt,bDs,bDr,bDq,bDp,bDo,bDn,bDm,bDl,bDk,bDj,bDi,bDh,bDg,bDf]
def bJx:List UInt8->List UInt8×List UInt8
 |[]=>([],[])
 |x::l=>bif IM (u8 x)then(x::(bJx l).1,(bJx l).2)else([],x::l)
def bJy:List UInt8->List UInt8×List UInt8
 |[]=>([],[])
 |x::l=>bif UO (u8 x)then(x::(bJy l).1,(bJy l).2)else([],x::l)
def TF:Nat->List UInt8->a7M×List UInt8
 |0,l=>([],l)
 |n+1,l=>match bJy l with
  |(b,[])=>([],b)
  |(b,x::r)=>bif am x.toNat 40 then((b,.op)::(TF n r).1,(TF n r).2)else bif am x.toNat 41 then((b,.cl)::(TF n r).1,(TF n r).2)else
   match bJx (x::r)with
   |(w,r')=>((b,.wd (aO9 w) w)::(TF n r').1,(TF n r').2)
end Go.TV
namespace Go.TV
open Go.AI Go.PI Go.Proofs
set_option maxRecDepth 20000
def a8F:G.T:=⟨0,⟨[],[]⟩,⟨0,[],[],⟨[],[]⟩,[],[]⟩,[]⟩
abbrev T3:=G.T×G.T×G.T
abbrev Sk:=List UInt8×List (List UInt8)
def aCX(s:Sk)(x:T3):G.E:=G.E.mk 3 ⟨zE,s.1⟩ ⟨[],[]⟩ ⟨⟨[],[]⟩,[],ah,a8F⟩ [⟨⟨zE,s.1⟩,s.2.map (λp=>⟨zE,p⟩),1,x.1,x.2.1,x.2.2⟩] [] [] [] ⟨⟨[],[]⟩,[]⟩ [] [] [] [] 0
def bNt(s:Sk):G.E->Bool
 |⟨k,n,⟨[],[]⟩,⟨⟨[],[]⟩,[],ah,⟨bk,⟨[],[]⟩,⟨ok,[],[],⟨[],[]⟩,[],[]⟩,[]⟩⟩,[⟨fn,ps,cl,_,b,_⟩],[],[],[],⟨⟨[],[]⟩,[]⟩,[],[],[],[],h⟩=>decide (k=3)&&aj (n=⟨zE,s.1⟩)&&aj (bk=0)&&aj (ok=0)&&aj (fn=⟨zE,s.1⟩)&&aj (cl=1)&&aj (h=0)&&aj (ps=s.2.map (λp=>⟨zE,p⟩))&&B9 s.1 b
 |_=>ah
def a6x{s:Sk}{e:G.E}(h:bNt s e=ae): ∃x:T3,e=aCX s x/\B9 s.1 x.2.1=ae:=by
 unfold bNt at h;split at h
 .simp only[aC,aD]at h;obtain⟨⟨⟨⟨⟨⟨⟨⟨rfl,rfl⟩,rfl⟩,rfl⟩,rfl⟩,rfl⟩,rfl⟩,rfl⟩,hb⟩:=h;exact⟨(_,_,_),rfl,hb⟩
 .cases h
def bNs(s:Sk)(r:Rt):Bool:=match r with|some [⟨.rc 15,e⟩]=>bNt s e|_=>ah
def a6w{s:Sk}{r:Rt}(h:bNs s r=ae): ∃x:T3,r=aa [yR 15 (aCX s x)]/\B9 s.1 x.2.1=ae:=by
 unfold bNs at h;split at h
 .rename_i e;obtain⟨x,hx,hb⟩:=a6x h;exact⟨x,by rw[hx],hb⟩
 .cases h
def skL:List Sk:=[(aVk,[aDI]),(aVq,[aDI,aNw]),(aVs,[aDI,aNw]),(aVx,[mS]),(aVa,[mS]),(bIP,[mS]),(aVu,[mS]),(aVt,[mS]),(aVr,[mS]),(aVm,[mS]),(aVc,[mS]),(aVl,[mS]),(aU6,[mS]),(aVw,[mS]),(aVi,[mS]),(aVg,[mS]),(aVh,[mS]),(aVe,[mS]),(aVd,[mS,aNv]),(aVf,[mS]),(aVo,[mS]),(aU9,[mS]),(aVy,[mS,aNv]),(aVb,[mS]),(aVn,[aVv,mS]),(bIQ,[aVp,bIR]),(aVj,[aNx,mS]),(aU8,[aNx,aU7,mS])]
def JU(k:Nat):Sk:=(skL[k]?).getD ([],[])
def eF(X:Nat->T3):List Sk->Nat->List G.E
 |[],_=>[]
 |s::l,j=>aCX s (X j)::eF X l (j+1)
def eL(X:Nat->T3)(k:Nat):List G.E:=eF X (skL.take k) 0
def Kd:bT:=λi d=>bif am i 31 then(match d with|[]=>aa [⟨.sl (.rc 2),oAll⟩]|_=>ad)else ad
noncomputable def cD(L M k:Nat):bT:=a8V Kd (a9W (L+7000) (M+99)) (L+7000) k
noncomputable def pE(L M k:Nat)(X:Nat->T3)(o:G.O):Bool:=bNs (JU k) (cD L M 58 32 [yS 15 (eL X k),yR 2 o])
end Go.TV
