import Derived.Test.YtmebgielemmehaaGreatDoorKw
set_option linter.unusedVariables false
set_option linter.unusedSimpArgs false
set_option linter.constructorNameAsVariable false
set_option linter.defProp false
namespace Go.TV
open Go.AI Go.PI Go.Proofs
set_option maxRecDepth 20000
def Kn:cJ:=λ_ _=>none
noncomputable def cW(L M k:Nat):cJ:=aOI Kn (aPI (L+7000) M) (L+7000) k
def aGA(L M k:Nat):cW L M k=cG (L+7000) (M+k):=FD (λn i d r h=>by cases h) k
def aZ4:List G.A:=[⟨tW,[]⟩]
def aZ3(p:Int):G.P:=⟨aZ4,tW,Pg,p⟩
noncomputable abbrev wL(L M m k:Nat)(p:Int)(e:G.X):Rt:=Ct (cW L M 60) (L+7000) m (oAll.take k) (aZ3 p) e
def pc0(L M m:Nat)(e:G.X):wL L M (m+1) 0 0 e=wL L M m 1 13 e:=by kernel_rfl
def pc1(L M m:Nat)(e:G.X):wL L M (m+1) 1 13 e=wL L M m 2 32 e:=by kernel_rfl
def pc2(L M m:Nat)(e:G.X):wL L M (m+1) 2 32 e=wL L M m 3 56 e:=by kernel_rfl
def pc3(L M m:Nat)(e:G.X):wL L M (m+1) 3 56 e=wL L M m 4 77 e:=by kernel_rfl
def pc4(L M m:Nat)(e:G.X):wL L M (m+1) 4 77 e=wL L M m 5 85 e:=by kernel_rfl
def pc5(L M m:Nat)(e:G.X):wL L M (m+1) 5 85 e=wL L M m 6 99 e:=by kernel_rfl
def pc6(L M m:Nat)(e:G.X):wL L M (m+1) 6 99 e=wL L M m 7 128 e:=by kernel_rfl
def pc7(L M m:Nat)(e:G.X):wL L M (m+1) 7 128 e=wL L M m 8 144 e:=by kernel_rfl
def pc8(L M m:Nat)(e:G.X):wL L M (m+1) 8 144 e=wL L M m 9 160 e:=by kernel_rfl
def pc9(L M m:Nat)(e:G.X):wL L M (m+1) 9 160 e=wL L M m 10 183 e:=by kernel_rfl
def a0m(L M m:Nat)(e:G.X):wL L M (m+1) 10 183 e=wL L M m 11 203 e:=by kernel_rfl
def a0l(L M m:Nat)(e:G.X):wL L M (m+1) 11 203 e=wL L M m 12 219 e:=by kernel_rfl
def a0k(L M m:Nat)(e:G.X):wL L M (m+1) 12 219 e=wL L M m 13 249 e:=by kernel_rfl
def a0j(L M m:Nat)(e:G.X):wL L M (m+1) 13 249 e=wL L M m 14 289 e:=by kernel_rfl
def a0i(L M m:Nat)(e:G.X):wL L M (m+1) 14 289 e=wL L M m 15 303 e:=by kernel_rfl
def a0h(L M m:Nat)(e:G.X):wL L M (m+1) 15 303 e=wL L M m 16 325 e:=by kernel_rfl
def a0g(L M m:Nat)(e:G.X):wL L M (m+1) 16 325 e=wL L M m 17 347 e:=by kernel_rfl
def a0f(L M m:Nat)(e:G.X):wL L M (m+1) 17 347 e=wL L M m 18 366 e:=by kernel_rfl
def a0e(L M m:Nat)(e:G.X):wL L M (m+1) 18 366 e=wL L M m 19 478 e:=by kernel_rfl
def a0d(L M m:Nat)(e:G.X):wL L M (m+1) 19 478 e=wL L M m 20 559 e:=by kernel_rfl
def a0c(L M m:Nat)(e:G.X):wL L M (m+1) 20 559 e=wL L M m 21 592 e:=by kernel_rfl
def a0b(L M m:Nat)(e:G.X):wL L M (m+1) 21 592 e=wL L M m 22 625 e:=by kernel_rfl
def a0a(L M m:Nat)(e:G.X):wL L M (m+1) 22 625 e=wL L M m 23 670 e:=by kernel_rfl
def aZ9(L M m:Nat)(e:G.X):wL L M (m+1) 23 670 e=wL L M m 24 709 e:=by kernel_rfl
def aZ8(L M m:Nat)(e:G.X):wL L M (m+1) 24 709 e=wL L M m 25 759 e:=by kernel_rfl
def aZ7(L M m:Nat)(e:G.X):wL L M (m+1) 25 759 e=wL L M m 26 825 e:=by kernel_rfl
def aZ6(L M m:Nat)(e:G.X):wL L M (m+1) 26 825 e=wL L M m 27 877 e:=by kernel_rfl
def aZ5(L M m:Nat)(e:G.X):wL L M (m+1) 27 877 e=wL L M m 28 942 e:=by kernel_rfl
def pcE(L M m:Nat)(e:G.X):wL L M (m+1) 28 942 e=some [yS 2 oAll,yR 18 ⟨0,0⟩]:=by kernel_rfl
def pcA(L M m:Nat)(e:G.X):Ct (cW L M 60) (L+7000) (m+29) [] (aZ3 0) e=some [yS 2 oAll,yR 18 ⟨0,0⟩]:=
 (pc0 L M (m+28) e).trans<|(pc1 L M (m+27) e).trans<|(pc2 L M (m+26) e).trans<|(pc3 L M (m+25) e).trans<|(pc4 L M (m+24) e).trans<|(pc5 L M (m+23) e).trans<|(pc6 L M (m+22) e).trans<|(pc7 L M (m+21) e).trans<|(pc8 L M (m+20) e).trans<|(pc9 L M (m+19) e).trans<|(a0m L M (m+18) e).trans<|(a0l L M (m+17) e).trans<|(a0k L M (m+16) e).trans<|(a0j L M (m+15) e).trans<|(a0i L M (m+14) e).trans<|(a0h L M (m+13) e).trans<|(a0g L M (m+12) e).trans<|(a0f L M (m+11) e).trans<|(a0e L M (m+10) e).trans<|(a0d L M (m+9) e).trans<|(a0c L M (m+8) e).trans<|(a0b L M (m+7) e).trans<|(a0a L M (m+6) e).trans<|(aZ9 L M (m+5) e).trans<|(aZ8 L M (m+4) e).trans<|(aZ7 L M (m+3) e).trans<|(aZ6 L M (m+2) e).trans<|(aZ5 L M (m+1) e).trans<|pcE L M m e
end Go.TV
