import Derived.Test.YtmebgielemmehaaGreatDoorKab
import Derived.Test.YtmebgielemmehaaGreatDoorKx
import Derived.Test.YtmebgielemmehaaGreatDoorKy
import Derived.Test.YtmebgielemmehaaGreatDoorKz
import Derived.Test.YtmebgielemmehaaGreatDoorKaa
set_option linter.unusedVariables false
set_option linter.unusedSimpArgs false
set_option linter.constructorNameAsVariable false
set_option linter.defProp false
namespace Go.TV
open Go.AI Go.PI Go.Proofs
set_option maxRecDepth 20000
def T0:List UInt8:=match aIn Kn with|some (⟨.str,t⟩::_)=>t|_=>[]
def aGa:aOc×List UInt8:=LC 4000 T0
def ZG:tN aGa.1 aGa.2=T0:=by kernel_rfl
def aTy:okL aGa.1 aGa.2=true:=by kernel_rfl
def aBt:aOz 0 aGa.1++ [⟨0,(T0.length:Int),[],[],[]⟩]=Pg:=by kernel_rfl
def aN5:T0.length<6001:=bP (by kernel_rfl)
def aLx:aGa.1.length<7000:=bP (by kernel_rfl)
def aUs{w:List UInt8}(h:aCC w=true):w=[48]∨w=[49]∨w=[45,49]:=by
 unfold aCC at h;split at h
 .exact .inl rfl
 .exact .inr (.inl rfl)
 .exact .inr (.inr rfl)
 .cases h
def aLp(L M:Nat){w:List UInt8}(h:aCC w=true):ZL (cG (L+7000) (M+30)) w:=by
 rw[<-aGA];rcases aUs h with rfl|rfl|rfl<;>exact⟨by kernel_rfl,by kernel_rfl,by kernel_rfl,by kernel_rfl,by kernel_rfl,by kernel_rfl⟩
def aJH(L M:Nat):cG (L+7000) (M+34) 64 [yT T0]=some [yS 19 Pg,yR 18 ⟨0,0⟩]:=by
 have h1:=aN5;have h2:=aLx;have h:=aN3 (L:=L+7000) (n:=M+30) (l:=aGa.1) (tl:=aGa.2) (λw hw=>aLp L (M+2) hw) (by rw[ZG];omega) (by rw[ZG];omega) (by omega) aTy
 rw[ZG]at h;exact h.trans (congrArg (λx:List G.K=>some [(yS 19 x:TV U0.D),yR 18 (⟨0,0⟩:G.X)]) aBt)
def aLi{W:Type}{a:List G.A}{K:List G.A×Unit->Option W}:fZ (D:=U0.D) [.sl (.rc 6)] (some [yS 6 a]) K=K (a,()):=rfl
def aLk{W:Type}{a:List G.O}{b:G.X}{K:List G.O×G.X×Unit->Option W}:fZ (D:=U0.D) [.sl (.rc 2),.rc 18] (some [yS 2 a,yR 18 b]) K=K (a,b,()):=rfl
def aLe{W:Type}{a:List G.K}{b:G.X}{K:List G.K×G.X×Unit->Option W}:fZ (D:=U0.D) [.sl (.rc 19),.rc 18] (some [yS 19 a,yR 18 b]) K=K (a,b,()):=rfl
def aMg(L n:Nat):cG L (n+1) 44 []=some [yS 6 aZ4]:=by
 rw[a34];rfl
def aJG(L n:Nat):cG L (n+1) 45 []=some [yT T0]:=by
 rw[a33];kernel_rfl
def aKv{c:cJ}{L:Nat}{a0:List G.A}{a1 a2:List UInt8}{t:List G.K}{r:Rt}(h1:c 64 [yT a2]=some [yS 19 t,yR 18 ⟨0,0⟩])
    (h2:Ct c L L [] ⟨a0,a1,t,0⟩ ⟨0,0⟩=r):aXi c L a0 a1 a2=r:=by
 rw[aXi,aAx,h1,aLe];simp only[bM,bD,bU];exact h2
def aKu(L M:Nat):cG (L+7000) (M+99) 46 [yS 6 aZ4,yT tW,yT T0]=some [yS 2 oAll,yR 18 ⟨0,0⟩]:=by
 have ht:cG (L+7000) (M+98) 64 [yT T0]=some [yS 19 Pg,yR 18 ⟨0,0⟩]:=aJH L (M+64);have h:=pcA L (M+38) (L+6971) ⟨0,0⟩;have e:L+6971+29=L+7000:=by omega
 rw[e,aGA,show M+38+60=M+98 by omega,aZ3]at h
 rw[show M+99=M+98+1 by omega,a32]
 exact aKv ht h
def aCY{c:cJ}{L:Nat}{a0:List G.A}{a2:List UInt8}{o:List G.O}(h1:c 44 []=some [yS 6 a0])(h2:c 45 []=some [yT a2])
    (h3:c 46 [yS 6 a0,yT [108,105,115,112],yT a2]=some [yS 2 o,yR 18 ⟨0,0⟩]):aXj c L=some [yS 2 o]:=by
 rw[aXj,aIv,h1,aLi,h2,P5,h3,aLk]
def Qu(L M:Nat):cG (L+7000) (M+100) 20 []=some [yS 2 oAll]:=by
 rw[show M+100=M+99+1 by omega,a4a]
 exact aCY (aMg _ (M+98)) (aJG _ (M+98)) (aKu L M)
end Go.TV
namespace Go.TV
open Go.AI Go.PI Go.Proofs
set_option maxRecDepth 20000
def aSY(L M:Nat)(X:Nat->T3): ∀(k:Nat) (o:G.O),oAll[k]?=some o->pE L M k X o=true:=by
 intro k o h
 match k,h with
 |0,h=>cases h;exact p0E L M X
 |1,h=>cases h;exact p1E L M X
 |2,h=>cases h;exact p2E L M X
 |3,h=>cases h;exact p3E L M X
 |4,h=>cases h;exact p4E L M X
 |5,h=>cases h;exact p5E L M X
 |6,h=>cases h;exact p6E L M X
 |7,h=>cases h;exact p7E L M X
 |8,h=>cases h;exact p8E L M X
 |9,h=>cases h;exact p9E L M X
 |10,h=>cases h;exact a0E L M X
 |11,h=>cases h;exact a0D L M X
 |12,h=>cases h;exact a0C L M X
 |13,h=>cases h;exact a0B L M X
 |14,h=>cases h;exact a0A L M X
 |15,h=>cases h;exact a0z L M X
 |16,h=>cases h;exact a0y L M X
 |17,h=>cases h;exact a0x L M X
 |18,h=>cases h;exact a0w L M X
 |19,h=>cases h;exact a0v L M X
 |20,h=>cases h;exact a0u L M X
 |21,h=>cases h;exact a0t L M X
 |22,h=>cases h;exact a0s L M X
 |23,h=>cases h;exact a0r L M X
 |24,h=>cases h;exact a0q L M X
 |25,h=>cases h;exact a0p L M X
 |26,h=>cases h;exact a0o L M X
 |27,h=>cases h;exact a0n L M X
 |k+28,h=>cases h
end Go.TV
