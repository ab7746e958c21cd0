import Derived.Test.YtdjaoblfbbcpdaaGreatDoorKo
import Derived.Test.YtdjaoblfbbcpdaaGreatDoorKk
import Derived.Test.YtdjaoblfbbcpdaaGreatDoorKl
import Derived.Test.YtdjaoblfbbcpdaaGreatDoorKm
import Derived.Test.YtdjaoblfbbcpdaaGreatDoorKn
set_option linter.unusedVariables false
set_option linter.unusedSimpArgs false
set_option linter.constructorNameAsVariable false
set_option linter.defProp false
namespace Go.TV
open Go.AI Go.PI Go.Proofs
set_option maxRecDepth 20000
def T0:List UInt8:=match aPK Kn with|some (⟨.str,t⟩::_)=>t|_=>[]
def aOA:a18×List UInt8:=R3 4000 T0
def aHp:yE aOA.1 aOA.2=T0:=by kernel_rfl
def a6I:a5Z aOA.1 aOA.2=true:=by kernel_rfl
def aJX:a2V 0 aOA.1++ [⟨0,(T0.length:Int),[],[],[]⟩]=V2:=by kernel_rfl
def a1V:T0.length<6001:=bK (by kernel_rfl)
def aXz:aOA.1.length<7000:=bK (by kernel_rfl)
def a7n{w:List UInt8}(h:aLj w=true):w=[48]∨w=[49]∨w=[45,49]:=by
 unfold aLj at h;split at h
 .exact .inl rfl
 .exact .inr (.inl rfl)
 .exact .inr (.inr rfl)
 .cases h
def aXf(L M:Nat){w:List UInt8}(h:aLj w=true):aHu (bR (L+7000) (M+30)) w:=by
 rw[<-aO2];rcases a7n h with rfl|rfl|rfl<;>exact⟨by kernel_rfl,by kernel_rfl,by kernel_rfl,by kernel_rfl,by kernel_rfl,by kernel_rfl⟩
def aRY(L M:Nat):bR (L+7000) (M+34) 119 [yT T0]=some [yS 20 V2,yR 19 ⟨0,0⟩]:=by
 have h1:=a1V;have h2:=aXz;have h:=a1U (L:=L+7000) (n:=M+30) (l:=aOA.1) (tl:=aOA.2) (λw hw=>aXf L (M+2) hw) (by rw[aHp];omega) (by rw[aHp];omega) (by omega) a6I
 rw[aHp]at h;exact h.trans (congrArg (λx:List G.K=>some [(yS 20 x:TV U0.D),yR 19 (⟨0,0⟩:G.X)]) aJX)
def aW6{W:Type}{a:List G.A}{K:List G.A×Unit->Option W}:fY (D:=U0.D) [.sl (.rc 8)] (some [yS 8 a]) K=K (a,()):=rfl
def aW8{W:Type}{a:List G.O}{b:G.X}{K:List G.O×G.X×Unit->Option W}:fY (D:=U0.D) [.sl (.rc 2),.rc 19] (some [yS 2 a,yR 19 b]) K=K (a,b,()):=rfl
def aW2{W:Type}{a:List G.K}{b:G.X}{K:List G.K×G.X×Unit->Option W}:fY (D:=U0.D) [.sl (.rc 20),.rc 19] (some [yS 20 a,yR 19 b]) K=K (a,b,()):=rfl
def aZd(L n:Nat):bR L (n+1) 90 []=some [yS 8 bCL]:=by
 rw[bJc];rfl
def aRW(L n:Nat):bR L (n+1) 91 []=some [yT T0]:=by
 rw[bJb];kernel_rfl
def aU5{c:bU}{L:Nat}{a0:List G.A}{a1 a2:List UInt8}{t:List G.K}{r:Rt}(h1:c 119 [yT a2]=some [yS 20 t,yR 19 ⟨0,0⟩])
    (h2:Fg c L L [] ⟨a0,a1,t,0⟩ ⟨0,0⟩=r):bAC c L a0 a1 a2=r:=by
 rw[bAC,aH8,h1,aW2];simp only[decide_true,bD,bM];exact h2
def aU4(L M:Nat):bR (L+7000) (M+99) 92 [yS 8 bCL,yT yN,yT T0]=some [yS 2 oAll,yR 19 ⟨0,0⟩]:=by
 have ht:bR (L+7000) (M+98) 119 [yT T0]=some [yS 20 V2,yR 19 ⟨0,0⟩]:=aRY L (M+64);have h:=pcA L (M+38) (L+6971) ⟨0,0⟩;have e:L+6971+29=L+7000:=by omega
 rw[e,aO2,show M+38+60=M+98 by omega,bCJ]at h
 rw[show M+99=M+98+1 by omega,bJa]
 exact aU5 ht h
def aLI{c:bU}{L:Nat}{a0:List G.A}{a2:List UInt8}{o:List G.O}(h1:c 90 []=some [yS 8 a0])(h2:c 91 []=some [yT a2])
    (h3:c 92 [yS 8 a0,yT [108,105,115,112],yT a2]=some [yS 2 o,yR 19 ⟨0,0⟩]):bAE c L=some [yS 2 o]:=by
 rw[bAE,aPW,h1,aW6,h2,Xg,h3,aW8]
def XK(L M:Nat):bR (L+7000) (M+100) 44 []=some [yS 2 oAll]:=by
 rw[show M+100=M+99+1 by omega,bJk]
 exact aLI (aZd _ (M+98)) (aRW _ (M+98)) (aU4 L M)
end Go.TV
namespace Go.TV
open Go.AI Go.PI Go.Proofs
set_option maxRecDepth 20000
def a5R(L M:Nat)(X:Nat->T3): ∀(k:Nat) (o:G.O),oAll[k]?=some o->pE L M k X o=true:=by
 intro k o h
 match k,h with
 |0,h=>cases h;exact p0E L M X
 |1,h=>cases h;exact p1E L M X
 |2,h=>cases h;exact p2E L M X
 |3,h=>cases h;exact p3E L M X
 |4,h=>cases h;exact p4E L M X
 |5,h=>cases h;exact p5E L M X
 |6,h=>cases h;exact p6E L M X
 |7,h=>cases h;exact p7E L M X
 |8,h=>cases h;exact p8E L M X
 |9,h=>cases h;exact p9E L M X
 |10,h=>cases h;exact bDl L M X
 |11,h=>cases h;exact bDk L M X
 |12,h=>cases h;exact bDj L M X
 |13,h=>cases h;exact bDi L M X
 |14,h=>cases h;exact bDh L M X
 |15,h=>cases h;exact bDg L M X
 |16,h=>cases h;exact bDf L M X
 |17,h=>cases h;exact bDe L M X
 |18,h=>cases h;exact bDd L M X
 |19,h=>cases h;exact bDc L M X
 |20,h=>cases h;exact bDb L M X
 |21,h=>cases h;exact bDa L M X
 |22,h=>cases h;exact bC9 L M X
 |23,h=>cases h;exact bC8 L M X
 |24,h=>cases h;exact bC7 L M X
 |25,h=>cases h;exact bC6 L M X
 |26,h=>cases h;exact bC5 L M X
 |27,h=>cases h;exact bC4 L M X
 |k+28,h=>cases h
end Go.TV
