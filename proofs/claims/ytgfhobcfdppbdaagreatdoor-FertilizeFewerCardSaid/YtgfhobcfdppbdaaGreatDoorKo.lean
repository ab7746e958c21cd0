import Derived.Test.YtgfhobcfdppbdaaGreatDoorKn
import Derived.Test.YtgfhobcfdppbdaaGreatDoorKj
import Derived.Test.YtgfhobcfdppbdaaGreatDoorKk
import Derived.Test.YtgfhobcfdppbdaaGreatDoorKl
import Derived.Test.YtgfhobcfdppbdaaGreatDoorKm
set_option linter.unusedVariables false
set_option linter.unusedSimpArgs false
set_option linter.constructorNameAsVariable false
set_option linter.defProp false
namespace Go.TV
open Go.AI Go.PI Go.Proofs
set_option maxRecDepth 20000
def T0:List UInt8:=match aUF Kn with|some (⟨.str,t⟩::_)=>t|_=>[]
def aS7:a7M×List UInt8:=TF 4000 T0
def aKt:yV aS7.1 aS7.2=T0:=by kernel_rfl
def bDS:bDa aS7.1 aS7.2=true:=by kernel_rfl
def aNI:a8I 0 aS7.1++ [⟨0,(T0.length:Int),[],[],[]⟩]=ZC:=by kernel_rfl
def a7F:T0.length<6001:=bK (by kernel_rfl)
def a3n:aS7.1.length<7000:=bK (by kernel_rfl)
def bEK{w:List UInt8}(h:aO9 w=true):w=[48]∨w=[49]∨w=[45,49]:=by
 unfold aO9 at h;split at h
 .exact .inl rfl
 .exact .inr (.inl rfl)
 .exact .inr (.inr rfl)
 .cases h
def a2Z(L M:Nat){w:List UInt8}(h:aO9 w=true):aKz (bP (L+7000) (M+30)) w:=by
 rw[<-aTv];rcases bEK h with rfl|rfl|rfl<;>exact⟨by kernel_rfl,by kernel_rfl,by kernel_rfl,by kernel_rfl,by kernel_rfl,by kernel_rfl⟩
def aXb(L M:Nat):bP (L+7000) (M+34) 96 [yT T0]=some [yS 20 ZC,yR 18 ⟨0,0⟩]:=by
 have h1:=a7F;have h2:=a3n;have h:=a7E (L:=L+7000) (n:=M+30) (l:=aS7.1) (tl:=aS7.2) (λw hw=>a2Z L (M+2) hw) (by rw[aKt];omega) (by rw[aKt];omega) (by omega) bDS
 rw[aKt]at h;exact h.trans (congrArg (λx:List G.K=>some [(yS 20 x:TV U0.D),yR 18 (⟨0,0⟩:G.X)]) aNI)
def a2R{W:Type}{a:List G.A}{K:List G.A×Unit->Option W}:fN (D:=U0.D) [.sl (.rc 5)] (some [yS 5 a]) K=K (a,()):=rfl
def a2T{W:Type}{a:List G.O}{b:G.X}{K:List G.O×G.X×Unit->Option W}:fN (D:=U0.D) [.sl (.rc 2),.rc 18] (some [yS 2 a,yR 18 b]) K=K (a,b,()):=rfl
def a2N{W:Type}{a:List G.K}{b:G.X}{K:List G.K×G.X×Unit->Option W}:fN (D:=U0.D) [.sl (.rc 20),.rc 18] (some [yS 20 a,yR 18 b]) K=K (a,b,()):=rfl
def a5i(L n:Nat):bP L (n+1) 73 []=some [yS 5 bKj]:=by
 rw[bQQ];rfl
def aXa(L n:Nat):bP L (n+1) 74 []=some [yT T0]:=by
 rw[bQP];kernel_rfl
def a0A{c:bT}{L:Nat}{a0:List G.A}{a1 a2:List UInt8}{t:List G.K}{r:Rt}(h1:c 96 [yT a2]=some [yS 20 t,yR 18 ⟨0,0⟩])
    (h2:FM c L L [] ⟨a0,a1,t,0⟩ ⟨0,0⟩=r):bHW c L a0 a1 a2=r:=by
 rw[bHW,aLz,h1,a2N];simp only[decide_true,bD,bL];exact h2
def a0z(L M:Nat):bP (L+7000) (M+99) 75 [yS 5 bKj,yT zE,yT T0]=some [yS 2 oAll,yR 18 ⟨0,0⟩]:=by
 have ht:bP (L+7000) (M+98) 96 [yT T0]=some [yS 20 ZC,yR 18 ⟨0,0⟩]:=aXb L (M+64);have h:=pcA L (M+38) (L+6971) ⟨0,0⟩;have e:L+6971+29=L+7000:=by omega
 rw[e,aTv,show M+38+60=M+98 by omega,bKi]at h
 rw[show M+99=M+98+1 by omega,bQO]
 exact a0A ht h
def aPD{c:bT}{L:Nat}{a0:List G.A}{a2:List UInt8}{o:List G.O}(h1:c 73 []=some [yS 5 a0])(h2:c 74 []=some [yT a2])
    (h3:c 75 [yS 5 a0,yT [108,105,115,112],yT a2]=some [yS 2 o,yR 18 ⟨0,0⟩]):bHZ c L=some [yS 2 o]:=by
 rw[bHZ,aUZ,h1,a2R,h2,aAs,h3,a2T]
def aAX(L M:Nat):bP (L+7000) (M+100) 31 []=some [yS 2 oAll]:=by
 rw[show M+100=M+99+1 by omega,bQ0]
 exact aPD (a5i _ (M+98)) (aXa _ (M+98)) (a0z L M)
end Go.TV
namespace Go.TV
open Go.AI Go.PI Go.Proofs
set_option maxRecDepth 20000
def bC0(L M:Nat)(X:Nat->T3): ∀(k:Nat) (o:G.O),oAll[k]?=some o->pE L M k X o=true:=by
 intro k o h
 match k,h with
 |0,h=>cases h;exact p0E L M X
 |1,h=>cases h;exact p1E L M X
 |2,h=>cases h;exact p2E L M X
 |3,h=>cases h;exact p3E L M X
 |4,h=>cases h;exact p4E L M X
 |5,h=>cases h;exact p5E L M X
 |6,h=>cases h;exact p6E L M X
 |7,h=>cases h;exact p7E L M X
 |8,h=>cases h;exact p8E L M X
 |9,h=>cases h;exact p9E L M X
 |10,h=>cases h;exact bKT L M X
 |11,h=>cases h;exact bKS L M X
 |12,h=>cases h;exact bKR L M X
 |13,h=>cases h;exact bKQ L M X
 |14,h=>cases h;exact bKP L M X
 |15,h=>cases h;exact bKO L M X
 |16,h=>cases h;exact bKN L M X
 |17,h=>cases h;exact bKM L M X
 |18,h=>cases h;exact bKL L M X
 |19,h=>cases h;exact bKK L M X
 |20,h=>cases h;exact bKJ L M X
 |21,h=>cases h;exact bKI L M X
 |22,h=>cases h;exact bKH L M X
 |23,h=>cases h;exact bKG L M X
 |24,h=>cases h;exact bKF L M X
 |25,h=>cases h;exact bKE L M X
 |26,h=>cases h;exact bKD L M X
 |27,h=>cases h;exact bKC L M X
 |k+28,h=>cases h
end Go.TV
