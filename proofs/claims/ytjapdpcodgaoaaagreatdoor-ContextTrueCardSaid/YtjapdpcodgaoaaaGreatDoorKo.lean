import Derived.Test.YtjapdpcodgaoaaaGreatDoorKn
import Derived.Test.YtjapdpcodgaoaaaGreatDoorKj
import Derived.Test.YtjapdpcodgaoaaaGreatDoorKk
import Derived.Test.YtjapdpcodgaoaaaGreatDoorKl
import Derived.Test.YtjapdpcodgaoaaaGreatDoorKm
set_option linter.all false
namespace Go.TV
open Go.AI Go.PI Go.Proofs
set_option maxRecDepth 20000
def T0:au UInt8:=match aUU Kn with|some (⟨.str,t⟩::_)=>t|_=>[]
def aTl:a5R×au UInt8:=Ul 4000 T0
def aKN:Aq aTl.1 aTl.2=T0:=by kernel_rfl
def bCk:bBx aTl.1 aTl.2=true:=by kernel_rfl
def aNF:a6t 0 aTl.1++ [⟨0,(T0.length:Int),[],[],[]⟩]=ZJ:=by kernel_rfl
def a5J:T0.length<6001:=bR (by kernel_rfl)
def a1T:aTl.1.length<7000:=bR (by kernel_rfl)
def bDp{w:au UInt8}(h:aPi w=true):w=[48]∨w=[49]∨w=[45,49]:=by
 unfold aPi at h;split at h
 .exact .inl rfl
 .exact .inr (.inl rfl)
 .exact .inr (.inr rfl)
 .cases h
def a1E(L M:Nat){w:au UInt8}(h:aPi w=true):aKW (cA (L+7000) (M+30)) w:=by
 rw[<-aTE];rcases bDp h with rfl|rfl|rfl<;>exact⟨by kernel_rfl,by kernel_rfl,by kernel_rfl,by kernel_rfl,by kernel_rfl,by kernel_rfl⟩
def aW4(L M:Nat):cA (L+7000) (M+34) 96 [yT T0]=some [yS 21 ZJ,yR 20 ⟨0,0⟩]:=by
 have h1:=a5J;have h2:=a1T;have h:=a5I (L:=L+7000) (n:=M+30) (l:=aTl.1) (tl:=aTl.2) (λw hw=>a1E L (M+2) hw) (by rw[aKN];omega) (by rw[aKN];omega) (by omega) bCk
 rw[aKN]at h;exact h.trans (congrArg (λx:au G.K=>some [(yS 21 x:TV U0.D),yR 20 (⟨0,0⟩:G.X)]) aNF)
def a1y{W:Type}{a:au G.A}{K:au G.A×Unit->f9 W}:gO (D:=U0.D) [.sl (.rc 5)] (some [yS 5 a]) K=K (a,()):=rfl
def a1A{W:Type}{a:au G.O}{b:G.X}{K:au G.O×G.X×Unit->f9 W}:gO (D:=U0.D) [.sl (.rc 2),.rc 20] (some [yS 2 a,yR 20 b]) K=K (a,b,()):=rfl
def a1u{W:Type}{a:au G.K}{b:G.X}{K:au G.K×G.X×Unit->f9 W}:gO (D:=U0.D) [.sl (.rc 21),.rc 20] (some [yS 21 a,yR 20 b]) K=K (a,b,()):=rfl
def a3l(L n:Nat):cA L (n+1) 73 []=some [yS 5 bI2]:=by
 rw[bOD];rfl
def aW2(L n:Nat):cA L (n+1) 74 []=some [yT T0]:=by
 rw[bOC];kernel_rfl
def aZJ{c:cG}{L:Nat}{a0:au G.A}{a1 a2:au UInt8}{t:au G.K}{r:Rt}(h1:c 96 [yT a2]=some [yS 21 t,yR 20 ⟨0,0⟩])
    (h2:GO c L L [] ⟨a0,a1,t,0⟩ ⟨0,0⟩=r):bGp c L a0 a1 a2=r:=by
 rw[bGp,aLY,h1,a1u];simp only[bN,bE,bS];exact h2
def aZI(L M:Nat):cA (L+7000) (M+99) 75 [yS 5 bI2,yT AA,yT T0]=some [yS 2 oAll,yR 20 ⟨0,0⟩]:=by
 have ht:cA (L+7000) (M+98) 96 [yT T0]=some [yS 21 ZJ,yR 20 ⟨0,0⟩]:=aW4 L (M+64);have h:=pcA L (M+38) (L+6971) ⟨0,0⟩;have e:L+6971+29=L+7000:=by omega
 rw[e,aTE,show M+38+60=M+98 by omega,bI0]at h
 rw[show M+99=M+98+1 by omega,bOB]
 exact aZJ ht h
def aPP{c:cG}{L:Nat}{a0:au G.A}{a2:au UInt8}{o:au G.O}(h1:c 73 []=some [yS 5 a0])(h2:c 74 []=some [yT a2])
    (h3:c 75 [yS 5 a0,yT [108,105,115,112],yT a2]=some [yS 2 o,yR 20 ⟨0,0⟩]):bGr c L=some [yS 2 o]:=by
 rw[bGr,aU9,h1,a1y,h2,aAN,h3,a1A]
def aBm(L M:Nat):cA (L+7000) (M+100) 38 []=some [yS 2 oAll]:=by
 rw[show M+100=M+99+1 by omega,bON]
 exact aPP (a3l _ (M+98)) (aW2 _ (M+98)) (aZI L M)
def bBj(L M:Nat)(X:Nat->T3): ∀(k:Nat) (o:G.O),oAll[k]?=some o->pE L M k X o=true:=by
 intro k o h
 match k,h with
 |0,h=>cases h;exact p0E L M X
 |1,h=>cases h;exact p1E L M X
 |2,h=>cases h;exact p2E L M X
 |3,h=>cases h;exact p3E L M X
 |4,h=>cases h;exact p4E L M X
 |5,h=>cases h;exact p5E L M X
 |6,h=>cases h;exact p6E L M X
 |7,h=>cases h;exact p7E L M X
 |8,h=>cases h;exact p8E L M X
 |9,h=>cases h;exact p9E L M X
 |10,h=>cases h;exact bJD L M X
 |11,h=>cases h;exact bJC L M X
 |12,h=>cases h;exact bJB L M X
 |13,h=>cases h;exact bJA L M X
 |14,h=>cases h;exact bJz L M X
 |15,h=>cases h;exact bJy L M X
 |16,h=>cases h;exact bJx L M X
 |17,h=>cases h;exact bJw L M X
 |18,h=>cases h;exact bJv L M X
 |19,h=>cases h;exact bJu L M X
 |20,h=>cases h;exact bJt L M X
 |21,h=>cases h;exact bJs L M X
 |22,h=>cases h;exact bJr L M X
 |23,h=>cases h;exact bJq L M X
 |24,h=>cases h;exact bJp L M X
 |25,h=>cases h;exact bJo L M X
 |26,h=>cases h;exact bJn L M X
 |27,h=>cases h;exact bJm L M X
 |k+28,h=>cases h
end Go.TV
