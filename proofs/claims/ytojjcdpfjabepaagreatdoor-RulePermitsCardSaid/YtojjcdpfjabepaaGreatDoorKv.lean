import Derived.Test.YtojjcdpfjabepaaGreatDoorKr
import Derived.Test.YtojjcdpfjabepaaGreatDoorKt
import Derived.Test.YtojjcdpfjabepaaGreatDoorKs
import Derived.Test.YtojjcdpfjabepaaGreatDoorKu
set_option linter.unusedVariables false
set_option linter.unusedSimpArgs false
set_option linter.constructorNameAsVariable false
namespace Go.TV
open Go.AI Go.PI Go.Proofs
set_option maxRecDepth 20000
noncomputable section
variable(c:TC0)(e:Cu)(L:Nat)
def q138x0(c:TC0)(e:Cu):Kt:=xK uO
def q138x1(c:TC0)(e:Cu):Kt:=xT uO c e [1,1] (q138x0 c e)
def aFS(c:TC0)(e:Cu):Kt:=cN U0 0 (q138x1 c e)
def B138x0(c:TC0)(e1:List UInt8→List G.A→Int→G.A→Rt)(a0:List G.A)(a1:List UInt8):Rt:=
 e1 a1 a0 (0:Int) (G.A.mk ([]:List UInt8) ([]:List G.Y))
def V138x0(n:Nt):List G.A→List UInt8→Rt:=fun x0 x1=>n [yS 9 x0,yT x1]
def B138x1(c:TC0)(n1:List UInt8→List G.A→Int→G.A→Rt)(a1:List UInt8)(a0:List G.A)(a6:Int)(b104:G.A):Rt:=
 cnd (decide (a6<(List.length a0:Int))) (ob (idx a0 a6) fun v0=>
 cnd (decide (v0.name=a1)) (ob (idx a0 a6) fun v1=>
 some [yR 9 v1,yB true]) (n1 a1 a0 (IntKind.i64.wrap (a6+(1:Int))) b104)) (some [yR 9 (G.A.mk ([]:List UInt8) ([]:List G.Y)),yB false])
def aD3(n:Nt):List UInt8→List G.A→Int→G.A→Rt:=fun x0 x1 x2 x3=>n [yT x0,yS 9 x1,yI x2,yR 9 x3]
def X138x1:=aD3 (xE uO e [1,0,1,0,0] qK (aFS c e))
theorem s138x0:V138x0 (xF uO c e)=B138x0 c (X138x1 c e):=by kernel_rfl
theorem s138x1(n1:Nt):aD3 (xA uO c e [1,0,1,0,0] qK (lpK U0 qK n1 (aFS c e)))=B138x1 c (aD3 n1):=by kernel_rfl
def aDP(c:TC0)(L:Nat):Nat→List UInt8→List G.A→Int→G.A→Rt
 |0=>fun _ _ _ _=>none
 |n+1=>B138x1 c (aDP c L n)
theorem u138x1(n:Nat):aD3 (xL uO c L [1,0,1,0,0] qK (aFS c (cu c L)) n)=aDP c L n:=by
 induction n with
 |zero=>rfl
 |succ n ih=>rw[eY,s138x1];simp only[ih];rfl
theorem w138x1:X138x1 c (cu c L)=aDP c L L:=u138x1 c L L
def F138(c:TC0)(L:Nat):List G.A→List UInt8→Rt:=B138x0 c (aDP c L L)
theorem e138:V138x0 (xF uO c (cu c L))=F138 c L:=by rw[s138x0];simp only[w138x1];rfl
theorem c138(a0:List G.A)(a1:List UInt8)(L n:Nat):CTp L (n+1) 138 [yS 9 a0,yT a1]=F138 (CTp L n) L a0 a1:=by rw[←e138];exact cg (x:=uO) (by kernel_rfl) (by kernel_rfl) L n _
def B139x0(c:TC0)(a0:G.Y):Rt:=
 obL [.bool] (c 148 [yR 1 a0]) fun(r0:Bool×Unit)=>
 some [yB r0.1]
def V139x0(n:Nt):G.Y→Rt:=fun x0=>n [yR 1 x0]
theorem s139x0:V139x0 (xF ii139 c e)=B139x0 c:=by kernel_rfl
def F139(c:TC0)(L:Nat):G.Y→Rt:=B139x0 c
theorem e139:V139x0 (xF ii139 c (cu c L))=F139 c L:=s139x0 _ _
theorem c139(a0:G.Y)(L n:Nat):CTp L (n+1) 139 [yR 1 a0]=F139 (CTp L n) L a0:=by rw[←e139];exact cg (x:=ii139) (by kernel_rfl) (by kernel_rfl) L n _
def q143x0(c:TC0)(e:Cu):Kt:=xK oQ
def q143x1(c:TC0)(e:Cu):Kt:=xT oQ c e [1,1,1,1,1] (q143x0 c e)
def aCp(c:TC0)(e:Cu):Kt:=cN U0 0 (q143x1 c e)
def q143x3(c:TC0)(e:Cu)(n1:Nt):Kt:=lpK U0 nH n1 (aCp c e)
def q143x4(c:TC0)(e:Cu)(n1:Nt):Kt:=xT oQ c e [1,1,1,1,0,1,0,0,1] (q143x3 c e n1)
def B143x0(c:TC0)(e1:List G.T→Int→Int→Int→Rt)(a0:G.T)(a1:Int):Rt:=
 cnd (decide (a0.kind=(2:Int))) (obL [i6] (c 78 [yR 2 a0.value]) fun(r0:Int×Unit)=>
 some [yI (bif decide (r0.1<a1)then r0.1 else a1)]) (obL [zS 3] (c 154 [yR 3 a0]) fun(r1:List G.T×Unit)=>
 e1 r1.1 a1 (0:Int) (1:Int))
def V143x0(n:Nt):G.T→Int→Rt:=fun x0 x1=>n [yR 3 x0,yI x1]
def B143x1(c:TC0)(k2:Bool→Int→List G.T→Int→Int→Rt)(a6:List G.T)(a1:Int)(a7:Int)(a5:Int):Rt:=
 cnd (decide (a7<(List.length a6:Int))) (k2 (decide (a5<a1)) a7 a6 a1 a5) (k2 false a7 a6 a1 a5)
def zM(n:Nt):List G.T→Int→Int→Int→Rt:=fun x0 x1 x2 x3=>n [yS 3 x0,yI x1,yI x2,yI x3]
def X143x1:=zM (xE oQ e [1,1,1,1,0,1,0,0] nH (aCp c e))
def B143x2(c:TC0)(n1:List G.T→Int→Int→Int→Rt)(a26:Bool)(a7:Int)(a6:List G.T)(a1:Int)(a5:Int):Rt:=
 cnd a26 (ob (idx a6 a7) fun v0=>
 obL [i6] (c 143 [yR 3 v0,yI (IntKind.i64.wrap (a1-a5))]) fun(r1:Int×Unit)=>
 n1 a6 a1 (IntKind.i64.wrap (a7+(1:Int))) (IntKind.i64.wrap (a5+r1.1))) (some [yI a5])
def V143x2(n:Nt):Bool→Int→List G.T→Int→Int→Rt:=fun x0 x1 x2 x3 x4=>n [yB x0,yI x1,yS 3 x2,yI x3,yI x4]
def aH4(n1:Nt):=V143x2 (xD oQ e [1,1,1,1,0,1,0,0,0,1,0] aA2 (q143x4 c e n1))
theorem s143x0:V143x0 (xF oQ c e)=B143x0 c (X143x1 c e):=by kernel_rfl
theorem s143x1(n1:Nt):zM (xA oQ c e [1,1,1,1,0,1,0,0] nH (lpK U0 nH n1 (aCp c e)))=B143x1 c (aH4 c e n1):=by kernel_rfl
theorem s143x2(n1:Nt):V143x2 (xA oQ c e [1,1,1,1,0,1,0,0,0,1,0] aA2 (q143x4 c e n1))=B143x2 c (zM n1):=by kernel_rfl
def J143x2(c:TC0)(L:Nat)(n1:List G.T→Int→Int→Int→Rt):Bool→Int→List G.T→Int→Int→Rt:=B143x2 c n1
theorem j143x2(n1:Nt):aH4 c (cu c L) n1=J143x2 c L (zM n1):=by rw[aH4,aN,s143x2];rfl
def aDO(c:TC0)(L:Nat):Nat→List G.T→Int→Int→Int→Rt
 |0=>fun _ _ _ _=>none
 |n+1=>B143x1 c (J143x2 c L (aDO c L n))
theorem u143x1(n:Nat):zM (xL oQ c L [1,1,1,1,0,1,0,0] nH (aCp c (cu c L)) n)=aDO c L n:=by
 induction n with
 |zero=>rfl
 |succ n ih=>rw[eY,s143x1];simp only[j143x2,ih];rfl
theorem w143x1:X143x1 c (cu c L)=aDO c L L:=u143x1 c L L
def F143(c:TC0)(L:Nat):G.T→Int→Rt:=B143x0 c (aDO c L L)
theorem e143:V143x0 (xF oQ c (cu c L))=F143 c L:=by rw[s143x0];simp only[w143x1];rfl
theorem c143(a0:G.T)(a1:Int)(L n:Nat):CTp L (n+1) 143 [yR 3 a0,yI a1]=F143 (CTp L n) L a0 a1:=by rw[←e143];exact cg (x:=oQ) (by kernel_rfl) (by kernel_rfl) L n _
def q144x0(c:TC0)(e:Cu):Kt:=xK oP
def q144x1(c:TC0)(e:Cu):Kt:=xT oP c e [1,1,1,1] (q144x0 c e)
def aCo(c:TC0)(e:Cu):Kt:=cN U0 0 (q144x1 c e)
def q144x3(c:TC0)(e:Cu)(n1:Nt):Kt:=lpK U0 nG n1 (aCo c e)
def q144x4(c:TC0)(e:Cu)(n1:Nt):Kt:=xT oP c e [1,1,1,0,1,0,0,1] (q144x3 c e n1)
def B144x0(c:TC0)(e1:List G.T→Int→Int→Int→Rt)(a0:G.T)(a1:Int):Rt:=
 obL [zS 3] (c 154 [yR 3 a0]) fun(r0:List G.T×Unit)=>
 e1 r0.1 a1 (0:Int) (0:Int)
def V144x0(n:Nt):G.T→Int→Rt:=fun x0 x1=>n [yR 3 x0,yI x1]
def B144x1(c:TC0)(k2:Bool→Int→List G.T→Int→Int→Rt)(a6:List G.T)(a1:Int)(a7:Int)(a5:Int):Rt:=
 cnd (decide (a7<(List.length a6:Int))) (k2 (decide ((1:Int)<a1)) a7 a6 a1 a5) (k2 false a7 a6 a1 a5)
def zL(n:Nt):List G.T→Int→Int→Int→Rt:=fun x0 x1 x2 x3=>n [yS 3 x0,yI x1,yI x2,yI x3]
def X144x1:=zL (xE oP e [1,1,1,0,1,0,0] nG (aCo c e))
def B144x2(c:TC0)(n1:List G.T→Int→Int→Int→Rt)(a17:Bool)(a7:Int)(a6:List G.T)(a1:Int)(a5:Int):Rt:=
 cnd a17 (ob (idx a6 a7) fun v0=>
 obL [i6] (c 144 [yR 3 v0,yI (IntKind.i64.wrap (a1-(1:Int)))]) fun(r1:Int×Unit)=>
 n1 a6 a1 (IntKind.i64.wrap (a7+(1:Int))) (bif decide (a5<r1.1)then r1.1 else a5)) (some [yI (IntKind.i64.wrap (a5+(1:Int)))])
def V144x2(n:Nt):Bool→Int→List G.T→Int→Int→Rt:=fun x0 x1 x2 x3 x4=>n [yB x0,yI x1,yS 3 x2,yI x3,yI x4]
def aH3(n1:Nt):=V144x2 (xD oP e [1,1,1,0,1,0,0,0,1,0] aA1 (q144x4 c e n1))
theorem s144x0:V144x0 (xF oP c e)=B144x0 c (X144x1 c e):=by kernel_rfl
theorem s144x1(n1:Nt):zL (xA oP c e [1,1,1,0,1,0,0] nG (lpK U0 nG n1 (aCo c e)))=B144x1 c (aH3 c e n1):=by kernel_rfl
theorem s144x2(n1:Nt):V144x2 (xA oP c e [1,1,1,0,1,0,0,0,1,0] aA1 (q144x4 c e n1))=B144x2 c (zL n1):=by kernel_rfl
def J144x2(c:TC0)(L:Nat)(n1:List G.T→Int→Int→Int→Rt):Bool→Int→List G.T→Int→Int→Rt:=B144x2 c n1
theorem j144x2(n1:Nt):aH3 c (cu c L) n1=J144x2 c L (zL n1):=by rw[aH3,aN,s144x2];rfl
def aDN(c:TC0)(L:Nat):Nat→List G.T→Int→Int→Int→Rt
 |0=>fun _ _ _ _=>none
 |n+1=>B144x1 c (J144x2 c L (aDN c L n))
theorem u144x1(n:Nat):zL (xL oP c L [1,1,1,0,1,0,0] nG (aCo c (cu c L)) n)=aDN c L n:=by
 induction n with
 |zero=>rfl
 |succ n ih=>rw[eY,s144x1];simp only[j144x2,ih];rfl
theorem w144x1:X144x1 c (cu c L)=aDN c L L:=u144x1 c L L
def F144(c:TC0)(L:Nat):G.T→Int→Rt:=B144x0 c (aDN c L L)
theorem e144:V144x0 (xF oP c (cu c L))=F144 c L:=by rw[s144x0];simp only[w144x1];rfl
theorem c144(a0:G.T)(a1:Int)(L n:Nat):CTp L (n+1) 144 [yR 3 a0,yI a1]=F144 (CTp L n) L a0 a1:=by rw[←e144];exact cg (x:=oP) (by kernel_rfl) (by kernel_rfl) L n _
def q145x0(c:TC0)(e:Cu):Kt:=xK aAI
def B145x0(c:TC0)(k1:Bool→Rt)(a0:G.O):Rt:=
 obL [i6] (c 78 [yR 2 a0]) fun(r0:Int×Unit)=>
 cnd (decide (r0.1≤(3000:Int))) (obL [.bool] (c 155 [yR 2 a0]) fun(r1:Bool×Unit)=>
 k1 r1.1) (k1 false)
def V145x0(n:Nt):G.O→Rt:=fun x0=>n [yR 2 x0]
def B145x1(c:TC0)(a2:Bool):Rt:=
 some [yB a2]
def V145x1(n:Nt):Bool→Rt:=fun x0=>n [yB x0]
def aH2:=V145x1 (xD aAI e [1,1,0] aA0 (q145x0 c e))
theorem s145x0:V145x0 (xF aAI c e)=B145x0 c (aH2 c e):=by kernel_rfl
theorem s145x1:V145x1 (xA aAI c e [1,1,0] aA0 (q145x0 c e))=B145x1 c:=by kernel_rfl
def J145x1(c:TC0)(L:Nat):Bool→Rt:=B145x1 c
theorem j145x1:aH2 c (cu c L)=J145x1 c L:=by rw[aH2,aN,s145x1];rfl
def F145(c:TC0)(L:Nat):G.O→Rt:=B145x0 c (J145x1 c L)
theorem e145:V145x0 (xF aAI c (cu c L))=F145 c L:=by rw[s145x0];simp only[j145x1];rfl
theorem c145(a0:G.O)(L n:Nat):CTp L (n+1) 145 [yR 2 a0]=F145 (CTp L n) L a0:=by rw[←e145];exact cg (x:=aAI) (by kernel_rfl) (by kernel_rfl) L n _
def q148x0(c:TC0)(e:Cu):Kt:=xK aAH
def B148x0(c:TC0)(k1:Bool→Rt)(a0:G.Y):Rt:=
 obL [.bool] (c 158 [yT a0.package]) fun(r0:Bool×Unit)=>
 cnd r0.1 (cnd (decide ((1:Int)≤(List.length a0.name:Int))) (k1 (decide ((List.length a0.name:Int)≤(40:Int)))) (k1 false)) (k1 false)
def V148x0(n:Nt):G.Y→Rt:=fun x0=>n [yR 1 x0]
def B148x1(c:TC0)(a2:Bool):Rt:=
 some [yB a2]
def V148x1(n:Nt):Bool→Rt:=fun x0=>n [yB x0]
def aH1:=V148x1 (xD aAH e [1,1,0] aAZ (q148x0 c e))
theorem s148x0:V148x0 (xF aAH c e)=B148x0 c (aH1 c e):=by kernel_rfl
theorem s148x1:V148x1 (xA aAH c e [1,1,0] aAZ (q148x0 c e))=B148x1 c:=by kernel_rfl
def J148x1(c:TC0)(L:Nat):Bool→Rt:=B148x1 c
theorem j148x1:aH1 c (cu c L)=J148x1 c L:=by rw[aH1,aN,s148x1];rfl
def F148(c:TC0)(L:Nat):G.Y→Rt:=B148x0 c (J148x1 c L)
theorem e148:V148x0 (xF aAH c (cu c L))=F148 c L:=by rw[s148x0];simp only[j148x1];rfl
theorem c148(a0:G.Y)(L n:Nat):CTp L (n+1) 148 [yR 1 a0]=F148 (CTp L n) L a0:=by rw[←e148];exact cg (x:=aAH) (by kernel_rfl) (by kernel_rfl) L n _
def B154x0(c:TC0)(a0:G.T):Rt:=
 cnd (!decide (a0.kind=(3:Int))) (some [yS 3 ([]:List G.T)]) (some [yS 3 a0.args])
def V154x0(n:Nt):G.T→Rt:=fun x0=>n [yR 3 x0]
theorem s154x0:V154x0 (xF ii154 c e)=B154x0 c:=by kernel_rfl
def F154(c:TC0)(L:Nat):G.T→Rt:=B154x0 c
theorem e154:V154x0 (xF ii154 c (cu c L))=F154 c L:=s154x0 _ _
theorem c154(a0:G.T)(L n:Nat):CTp L (n+1) 154 [yR 3 a0]=F154 (CTp L n) L a0:=by rw[←e154];exact cg (x:=ii154) (by kernel_rfl) (by kernel_rfl) L n _
def q155x0(c:TC0)(e:Cu):Kt:=xK lT
def q155x1(c:TC0)(e:Cu):Kt:=xT lT c e [1,1,1] (q155x0 c e)
def oD(c:TC0)(e:Cu):Kt:=cN U0 0 (q155x1 c e)
def B155x0(c:TC0)(k1:Bool→Rt)(k2:Bool→Rt)(k3:Bool→Rt)(k4:Bool→Rt)(a0:G.O):Rt:=
 cnd (decide (a0.kind=(1:Int))) (obL [.str,.str] (c 71 [yT a0.num,yT a0.den]) fun(r0:List UInt8×List UInt8×Unit)=>
 cnd (decide (a0.sym=(G.Y.mk ([]:List UInt8) ([]:List UInt8)))) (cnd (decide (a0.text=([]:List UInt8))) (cnd (decide ((List.length a0.pair:Int)=(0:Int))) (cnd (decide (r0.1=a0.num)) (cnd (decide (r0.2.1=a0.den)) (obL [i6] (c 137 [yT r0.1]) fun(r1:Int×Unit)=>
 cnd (decide (r1.1≤(100:Int))) (obL [i6] (c 137 [yT r0.2.1]) fun(r2:Int×Unit)=>
 k1 (decide (r2.1≤(100:Int)))) (k1 false)) (k1 false)) (k1 false)) (k1 false)) (k1 false)) (k1 false)) (cnd (decide (a0.kind=(2:Int))) (obL [.bool] (c 148 [yR 1 a0.sym]) fun(r3:Bool×Unit)=>
 cnd r3.1 (cnd (decide (a0.num=([]:List UInt8))) (cnd (decide (a0.den=([]:List UInt8))) (cnd (decide (a0.text=([]:List UInt8))) (k2 (decide ((List.length a0.pair:Int)=(0:Int)))) (k2 false)) (k2 false)) (k2 false)) (k2 false)) (cnd (decide (a0.kind=(3:Int))) (cnd (decide (a0.sym=(G.Y.mk ([]:List UInt8) ([]:List UInt8)))) (cnd (decide (a0.num=([]:List UInt8))) (cnd (decide (a0.den=([]:List UInt8))) (cnd (decide ((List.length a0.text:Int)≤(200:Int))) (k3 (decide ((List.length a0.pair:Int)=(0:Int)))) (k3 false)) (k3 false)) (k3 false)) (k3 false)) (cnd (decide (a0.kind=(4:Int))) (cnd (decide (a0.sym=(G.Y.mk ([]:List UInt8) ([]:List UInt8)))) (cnd (decide (a0.num=([]:List UInt8))) (cnd (decide (a0.den=([]:List UInt8))) (cnd (decide (a0.text=([]:List UInt8))) (cnd (decide ((List.length a0.pair:Int)=(2:Int))) (ob (idx a0.pair (0:Int)) fun v4=>
 obL [.bool] (c 155 [yR 2 v4]) fun(r5:Bool×Unit)=>
 cnd r5.1 (ob (idx a0.pair (1:Int)) fun v6=>
 obL [.bool] (c 155 [yR 2 v6]) fun(r7:Bool×Unit)=>
 k4 r7.1) (k4 false)) (k4 false)) (k4 false)) (k4 false)) (k4 false)) (k4 false)) (some [yB false]))))
def V155x0(n:Nt):G.O→Rt:=fun x0=>n [yR 2 x0]
def B155x1(c:TC0)(a2:Bool):Rt:=
 some [yB a2]
def V155x1(n:Nt):Bool→Rt:=fun x0=>n [yB x0]
def aH0:=V155x1 (xD lT e [1,1,0,1,0,1,0,1,1,0] aAY (oD c e))
def B155x2(c:TC0)(a2:Bool):Rt:=
 some [yB a2]
def V155x2(n:Nt):Bool→Rt:=fun x0=>n [yB x0]
def aHZ:=V155x2 (xD lT e [1,1,0,1,0,1,1,1,0,1,0] aAX (oD c e))
def B155x3(c:TC0)(a2:Bool):Rt:=
 some [yB a2]
def V155x3(n:Nt):Bool→Rt:=fun x0=>n [yB x0]
def aHY:=V155x3 (xD lT e [1,1,0,1,0,1,1,1,1,1,0,1,0] aAW (oD c e))
def B155x4(c:TC0)(a2:Bool):Rt:=
 some [yB a2]
def V155x4(n:Nt):Bool→Rt:=fun x0=>n [yB x0]
def aHX:=V155x4 (xD lT e [1,1,0,1,0,1,1,1,1,1,1,1,0,1,0] aAV (oD c e))
theorem s155x0:V155x0 (xF lT c e)=B155x0 c (aH0 c e) (aHZ c e) (aHY c e) (aHX c e):=by kernel_rfl
theorem s155x1:V155x1 (xA lT c e [1,1,0,1,0,1,0,1,1,0] aAY (oD c e))=B155x1 c:=by kernel_rfl
theorem s155x2:V155x2 (xA lT c e [1,1,0,1,0,1,1,1,0,1,0] aAX (oD c e))=B155x2 c:=by kernel_rfl
theorem s155x3:V155x3 (xA lT c e [1,1,0,1,0,1,1,1,1,1,0,1,0] aAW (oD c e))=B155x3 c:=by kernel_rfl
theorem s155x4:V155x4 (xA lT c e [1,1,0,1,0,1,1,1,1,1,1,1,0,1,0] aAV (oD c e))=B155x4 c:=by kernel_rfl
def J155x1(c:TC0)(L:Nat):Bool→Rt:=B155x1 c
theorem j155x1:aH0 c (cu c L)=J155x1 c L:=by rw[aH0,aN,s155x1];rfl
def J155x2(c:TC0)(L:Nat):Bool→Rt:=B155x2 c
theorem j155x2:aHZ c (cu c L)=J155x2 c L:=by rw[aHZ,aN,s155x2];rfl
def J155x3(c:TC0)(L:Nat):Bool→Rt:=B155x3 c
theorem j155x3:aHY c (cu c L)=J155x3 c L:=by rw[aHY,aN,s155x3];rfl
def J155x4(c:TC0)(L:Nat):Bool→Rt:=B155x4 c
theorem j155x4:aHX c (cu c L)=J155x4 c L:=by rw[aHX,aN,s155x4];rfl
def F155(c:TC0)(L:Nat):G.O→Rt:=B155x0 c (J155x1 c L) (J155x2 c L) (J155x3 c L) (J155x4 c L)
theorem e155:V155x0 (xF lT c (cu c L))=F155 c L:=by rw[s155x0];simp only[j155x1,j155x2,j155x3,j155x4];rfl
theorem c155(a0:G.O)(L n:Nat):CTp L (n+1) 155 [yR 2 a0]=F155 (CTp L n) L a0:=by rw[←e155];exact cg (x:=lT) (by kernel_rfl) (by kernel_rfl) L n _
def q158x0(c:TC0)(e:Cu):Kt:=xK kP
def q158x1(c:TC0)(e:Cu):Kt:=xT kP c e [1,1] (q158x0 c e)
def q158x2(c:TC0)(e:Cu):Kt:=xT kP c e [1,1,1] (q158x0 c e)
def aCn(c:TC0)(e:Cu):Kt:=cN U0 0 (q158x2 c e)
def q158x4(c:TC0)(e:Cu)(n2:Nt):Kt:=lpK U0 nF n2 (aCn c e)
def q158x5(c:TC0)(e:Cu)(n2:Nt):Kt:=xT kP c e [1,1,0,1,0,0,1,1] (q158x4 c e n2)
def q158x6(c:TC0)(e:Cu)(n2:Nt):Kt:=cN U0 1 (q158x5 c e n2)
def B158x0(c:TC0)(k1:Bool→List UInt8→Rt)(a0:List UInt8):Rt:=
 cnd (decide ((List.length a0:Int)<(1:Int))) (k1 true a0) (cnd (decide ((40:Int)<(List.length a0:Int))) (k1 true a0) (ob (idx a0 (0:Int)) fun v0=>
 cnd (decide ((v0.toNat:Int)<(97:Int))) (k1 true a0) (ob (idx a0 (0:Int)) fun v1=>
 k1 (decide ((122:Int)<(v1.toNat:Int))) a0)))
def V158x0(n:Nt):List UInt8→Rt:=fun x0=>n [yT x0]
def B158x1(c:TC0)(e2:List UInt8→Int→Rt)(a22:Bool)(a0:List UInt8):Rt:=
 cnd a22 (some [yB false]) (e2 a0 (0:Int))
def V158x1(n:Nt):Bool→List UInt8→Rt:=fun x0 x1=>n [yB x0,yT x1]
def aHW:=V158x1 (xD kP e [1,0,1,0] aAU (q158x1 c e))
def B158x2(c:TC0)(k3:Bool→Int→List UInt8→Rt)(a0:List UInt8)(a3:Int):Rt:=
 cnd (decide (a3<(List.length a0:Int))) (ob (idx a0 a3) fun v0=>
 cnd (decide ((v0.toNat:Int)<(97:Int))) (cnd (decide ((v0.toNat:Int)<(48:Int))) (k3 (!decide ((v0.toNat:Int)=(45:Int))) a3 a0) (cnd (decide ((57:Int)<(v0.toNat:Int))) (k3 (!decide ((v0.toNat:Int)=(45:Int))) a3 a0) (k3 false a3 a0))) (cnd (decide ((122:Int)<(v0.toNat:Int))) (cnd (decide ((v0.toNat:Int)<(48:Int))) (k3 (!decide ((v0.toNat:Int)=(45:Int))) a3 a0) (cnd (decide ((57:Int)<(v0.toNat:Int))) (k3 (!decide ((v0.toNat:Int)=(45:Int))) a3 a0) (k3 false a3 a0))) (k3 false a3 a0))) (some [yB true])
def zK(n:Nt):List UInt8→Int→Rt:=fun x0 x1=>n [yT x0,yI x1]
def X158x2:=zK (xE kP e [1,1,0,1,0,0] nF (aCn c e))
def B158x3(c:TC0)(n2:List UInt8→Int→Rt)(a49:Bool)(a3:Int)(a0:List UInt8):Rt:=
 cnd a49 (some [yB false]) (n2 a0 (IntKind.i64.wrap (a3+(1:Int))))
def V158x3(n:Nt):Bool→Int→List UInt8→Rt:=fun x0 x1 x2=>n [yB x0,yI x1,yT x2]
def aHV(n2:Nt):=V158x3 (xD kP e [1,1,0,1,0,0,1,0,0,1,1,0] aAT (q158x6 c e n2))
theorem s158x0:V158x0 (xF kP c e)=B158x0 c (aHW c e):=by kernel_rfl
theorem s158x1:V158x1 (xA kP c e [1,0,1,0] aAU (q158x1 c e))=B158x1 c (X158x2 c e):=by kernel_rfl
theorem s158x2(n2:Nt):zK (xA kP c e [1,1,0,1,0,0] nF (lpK U0 nF n2 (aCn c e)))=B158x2 c (aHV c e n2):=by kernel_rfl
theorem s158x3(n2:Nt):V158x3 (xA kP c e [1,1,0,1,0,0,1,0,0,1,1,0] aAT (q158x6 c e n2))=B158x3 c (zK n2):=by kernel_rfl
def J158x3(c:TC0)(L:Nat)(n2:List UInt8→Int→Rt):Bool→Int→List UInt8→Rt:=B158x3 c n2
theorem j158x3(n2:Nt):aHV c (cu c L) n2=J158x3 c L (zK n2):=by rw[aHV,aN,s158x3];rfl
def aDM(c:TC0)(L:Nat):Nat→List UInt8→Int→Rt
 |0=>fun _ _=>none
 |n+1=>B158x2 c (J158x3 c L (aDM c L n))
theorem u158x2(n:Nat):zK (xL kP c L [1,1,0,1,0,0] nF (aCn c (cu c L)) n)=aDM c L n:=by
 induction n with
 |zero=>rfl
 |succ n ih=>rw[eY,s158x2];simp only[j158x3,ih];rfl
theorem w158x2:X158x2 c (cu c L)=aDM c L L:=u158x2 c L L
def J158x1(c:TC0)(L:Nat):Bool→List UInt8→Rt:=B158x1 c (aDM c L L)
theorem j158x1:aHW c (cu c L)=J158x1 c L:=by rw[aHW,aN,s158x1];simp only[w158x2];rfl
def F158(c:TC0)(L:Nat):List UInt8→Rt:=B158x0 c (J158x1 c L)
theorem e158:V158x0 (xF kP c (cu c L))=F158 c L:=by rw[s158x0];simp only[j158x1];rfl
theorem c158(a0:List UInt8)(L n:Nat):CTp L (n+1) 158 [yT a0]=F158 (CTp L n) L a0:=by rw[←e158];exact cg (x:=kP) (by kernel_rfl) (by kernel_rfl) L n _
end
end Go.TV
namespace Go.TV
open Go.AI Go.PI Go.Proofs
theorem cst_some{t u:Ty}{x:Den U0.D t}{y:Den U0.D u}(h:cst t u x=some y):(⟨t,x⟩:TV U0.D)=⟨u,y⟩:=by
 unfold cst at h;split at h
 ·rename_i e _;subst e;simp only[ojE]at h;subst h;rfl
 ·cases h
theorem aDv: ∀{ts:List Ty} {d:TVs} {r:DenL U0.D ts},cS ts d=some r→d=tvL ts r
 |[],[],_,_=>rfl
 |[],_::_,_,h=>by cases h
 |_::_,[],_,h=>by cases h
 |t::ts,v::d,r,h=>by
  simp only[cS]at h;split at h
  ·rename_i x q h1 h2;simp only[ojE]at h;subst h;show v::d=⟨t,x⟩::tvL ts q;rw[←aDv h2,←cst_some h1]
  ·cases h
def hx(ts:List Ty)(d:TVs)(K:DenL U0.D ts→Rt)(z:Rt):Rt:=match cS ts d with|some r=>K r|none=>z
theorem bF{ts:List Ty}{d:TVs}{K:DenL U0.D ts→Rt}{z:Rt}(h: ∀r,d=tvL ts r→K r=z):hx ts d K z=z:=by
 unfold hx;split
 ·rename_i r e;exact h r (aDv e)
 ·rfl
def Hk(i:Nat)(h:TC0→Nat→TVs→Rt→Rt)(L m:Nat)(d:TVs):Prop:=h (CTp L m) L d (CTp L (m+1) i d)=CTp L (m+1) i d
theorem evq{b:Bool}{x y z:Rt}(h1:b=true→x=z)(h2:y=z):(bif b then x else y)=z:=by cases b;exact h2;exact h1 rfl
theorem evc{b:Bool}{x y z:Rt}(h1:x=z)(h2:y=z):(bif b then x else y)=z:=by cases b;exact h2;exact h1
noncomputable def hG(i:Nat)(c:TC0)(L:Nat)(d:TVs)(z:Rt):Rt:=
 match oW insL i with
 |some x=>bif Nat.beq x.sig.f orcI.n||Nat.beq x.sig.f orcI.m then z else xF x c (cu c L) d
 |none=>z
theorem dH(i L m:Nat)(d:TVs):hG i (CTp L m) L d (CTp L (m+1) i d)=CTp L (m+1) i d:=by
 unfold hG;split
 ·rename_i x hx;cases hb:Nat.beq x.sig.f orcI.n||Nat.beq x.sig.f orcI.m with
  |true=>rfl
  |false=>exact(cg hx hb L m d).symm
 ·rfl
end Go.TV
namespace Go.TV
open Go.AI Go.PI Go.Proofs
set_option maxRecDepth 20000
def h2(c:TC0)(L:Nat)(d:TVs)(z:Rt):Rt:=hx [(.int .u32)] d (fun r=>F2 c L r.1) z
theorem g2(L m:Nat)(d:TVs):Hk 2 h2 L m d:=bF fun r e=>e▸(c2 r.1 L m).symm
def h3(c:TC0)(L:Nat)(d:TVs)(z:Rt):Rt:=hx [.str] d (fun r=>F3 c L r.1) z
theorem g3(L m:Nat)(d:TVs):Hk 3 h3 L m d:=bF fun r e=>e▸(c3 r.1 L m).symm
def h10(c:TC0)(L:Nat)(d:TVs)(z:Rt):Rt:=hx [] d (fun _=>F10 c L) z
theorem g10(L m:Nat)(d:TVs):Hk 10 h10 L m d:=bF fun r e=>e▸(c10 L m).symm
def h16(c:TC0)(L:Nat)(d:TVs)(z:Rt):Rt:=hx [] d (fun _=>F16 c L) z
theorem g16(L m:Nat)(d:TVs):Hk 16 h16 L m d:=bF fun r e=>e▸(c16 L m).symm
def h17(c:TC0)(L:Nat)(d:TVs)(z:Rt):Rt:=hx [] d (fun _=>F17 c L) z
theorem g17(L m:Nat)(d:TVs):Hk 17 h17 L m d:=bF fun r e=>e▸(c17 L m).symm
def h19(c:TC0)(L:Nat)(d:TVs)(z:Rt):Rt:=hx [zS 16,.rc 1] d (fun r=>F19 c L r.1 r.2.1) z
theorem g19(L m:Nat)(d:TVs):Hk 19 h19 L m d:=bF fun r e=>e▸(c19 r.1 r.2.1 L m).symm
def h27(c:TC0)(L:Nat)(d:TVs)(z:Rt):Rt:=hx [.rc 1] d (fun r=>F27 c L r.1) z
theorem g27(L m:Nat)(d:TVs):Hk 27 h27 L m d:=bF fun r e=>e▸(c27 r.1 L m).symm
def h29(c:TC0)(L:Nat)(d:TVs)(z:Rt):Rt:=hx [] d (fun _=>F29 c L) z
theorem g29(L m:Nat)(d:TVs):Hk 29 h29 L m d:=bF fun r e=>e▸(c29 L m).symm
def h31(c:TC0)(L:Nat)(d:TVs)(z:Rt):Rt:=hx [.str] d (fun r=>F31 c L r.1) z
theorem g31(L m:Nat)(d:TVs):Hk 31 h31 L m d:=bF fun r e=>e▸(c31 r.1 L m).symm
def h50(c:TC0)(L:Nat)(d:TVs)(z:Rt):Rt:=hx [.rc 1] d (fun r=>F50 c L r.1) z
theorem g50(L m:Nat)(d:TVs):Hk 50 h50 L m d:=bF fun r e=>e▸(c50 r.1 L m).symm
def h51(c:TC0)(L:Nat)(d:TVs)(z:Rt):Rt:=hx [zS 16,.rc 1] d (fun r=>F51 c L r.1 r.2.1) z
theorem g51(L m:Nat)(d:TVs):Hk 51 h51 L m d:=bF fun r e=>e▸(c51 r.1 r.2.1 L m).symm
def h57(c:TC0)(L:Nat)(d:TVs)(z:Rt):Rt:=hx [.rc 2,.rc 2] d (fun r=>F57 c L r.1 r.2.1) z
theorem g57(L m:Nat)(d:TVs):Hk 57 h57 L m d:=bF fun r e=>e▸(c57 r.1 r.2.1 L m).symm
def h62(c:TC0)(L:Nat)(d:TVs)(z:Rt):Rt:=hx [] d (fun _=>F62 c L) z
theorem g62(L m:Nat)(d:TVs):Hk 62 h62 L m d:=bF fun r e=>e▸(c62 L m).symm
def h63(c:TC0)(L:Nat)(d:TVs)(z:Rt):Rt:=hx [] d (fun _=>F63 c L) z
theorem g63(L m:Nat)(d:TVs):Hk 63 h63 L m d:=bF fun r e=>e▸(c63 L m).symm
def h64(c:TC0)(L:Nat)(d:TVs)(z:Rt):Rt:=hx [zS 9,.str,.str] d (fun r=>F64 c L r.1 r.2.1 r.2.2.1) z
theorem g64(L m:Nat)(d:TVs):Hk 64 h64 L m d:=bF fun r e=>e▸(c64 r.1 r.2.1 r.2.2.1 L m).symm
def h72(c:TC0)(L:Nat)(d:TVs)(z:Rt):Rt:=hx [] d (fun _=>F72 c L) z
theorem g72(L m:Nat)(d:TVs):Hk 72 h72 L m d:=bF fun r e=>e▸(c72 L m).symm
def h73(c:TC0)(L:Nat)(d:TVs)(z:Rt):Rt:=hx [zS 16,.rc 1] d (fun r=>F73 c L r.1 r.2.1) z
theorem g73(L m:Nat)(d:TVs):Hk 73 h73 L m d:=bF fun r e=>e▸(c73 r.1 r.2.1 L m).symm
def h74(c:TC0)(L:Nat)(d:TVs)(z:Rt):Rt:=hx [.rc 16] d (fun r=>F74 c L r.1) z
theorem g74(L m:Nat)(d:TVs):Hk 74 h74 L m d:=bF fun r e=>e▸(c74 r.1 L m).symm
def h78(c:TC0)(L:Nat)(d:TVs)(z:Rt):Rt:=hx [.rc 2] d (fun r=>F78 c L r.1) z
theorem g78(L m:Nat)(d:TVs):Hk 78 h78 L m d:=bF fun r e=>e▸(c78 r.1 L m).symm
def h83(c:TC0)(L:Nat)(d:TVs)(z:Rt):Rt:=hx [i6,.rc 23] d (fun r=>F83 c L r.1 r.2.1) z
theorem g83(L m:Nat)(d:TVs):Hk 83 h83 L m d:=bF fun r e=>e▸(c83 r.1 r.2.1 L m).symm
def h84(c:TC0)(L:Nat)(d:TVs)(z:Rt):Rt:=hx [.rc 2] d (fun r=>F84 c L r.1) z
theorem g84(L m:Nat)(d:TVs):Hk 84 h84 L m d:=bF fun r e=>e▸(c84 r.1 L m).symm
def h87(c:TC0)(L:Nat)(d:TVs)(z:Rt):Rt:=hx [.rc 3] d (fun r=>F87 c L r.1) z
theorem g87(L m:Nat)(d:TVs):Hk 87 h87 L m d:=bF fun r e=>e▸(c87 r.1 L m).symm
def h90(c:TC0)(L:Nat)(d:TVs)(z:Rt):Rt:=hx [.str] d (fun r=>F90 c L r.1) z
theorem g90(L m:Nat)(d:TVs):Hk 90 h90 L m d:=bF fun r e=>e▸(c90 r.1 L m).symm
def h93(c:TC0)(L:Nat)(d:TVs)(z:Rt):Rt:=hx [.bool,.sl i6] d (fun r=>F93 c L r.1 r.2.1) z
theorem g93(L m:Nat)(d:TVs):Hk 93 h93 L m d:=bF fun r e=>e▸(c93 r.1 r.2.1 L m).symm
def h97(c:TC0)(L:Nat)(d:TVs)(z:Rt):Rt:=hx [.rc 2,.rc 2] d (fun r=>F97 c L r.1 r.2.1) z
theorem g97(L m:Nat)(d:TVs):Hk 97 h97 L m d:=bF fun r e=>e▸(c97 r.1 r.2.1 L m).symm
def h99(c:TC0)(L:Nat)(d:TVs)(z:Rt):Rt:=hx [.rc 2,i6] d (fun r=>F99 c L r.1 r.2.1) z
theorem g99(L m:Nat)(d:TVs):Hk 99 h99 L m d:=bF fun r e=>e▸(c99 r.1 r.2.1 L m).symm
def h102(c:TC0)(L:Nat)(d:TVs)(z:Rt):Rt:=hx [.str,.str] d (fun r=>F102 c L r.1 r.2.1) z
theorem g102(L m:Nat)(d:TVs):Hk 102 h102 L m d:=bF fun r e=>e▸(c102 r.1 r.2.1 L m).symm
def h103(c:TC0)(L:Nat)(d:TVs)(z:Rt):Rt:=hx [.str,.str] d (fun r=>F103 c L r.1 r.2.1) z
theorem g103(L m:Nat)(d:TVs):Hk 103 h103 L m d:=bF fun r e=>e▸(c103 r.1 r.2.1 L m).symm
def h106(c:TC0)(L:Nat)(d:TVs)(z:Rt):Rt:=hx [i6,.rc 23] d (fun r=>F106 c L r.1 r.2.1) z
theorem g106(L m:Nat)(d:TVs):Hk 106 h106 L m d:=bF fun r e=>e▸(c106 r.1 r.2.1 L m).symm
def h107(c:TC0)(L:Nat)(d:TVs)(z:Rt):Rt:=hx [zS 9,.str,.str] d (fun r=>F107 c L r.1 r.2.1 r.2.2.1) z
theorem g107(L m:Nat)(d:TVs):Hk 107 h107 L m d:=bF fun r e=>e▸(c107 r.1 r.2.1 r.2.2.1 L m).symm
def h108(c:TC0)(L:Nat)(d:TVs)(z:Rt):Rt:=hx [.rc 1] d (fun r=>F108 c L r.1) z
theorem g108(L m:Nat)(d:TVs):Hk 108 h108 L m d:=bF fun r e=>e▸(c108 r.1 L m).symm
def h113(c:TC0)(L:Nat)(d:TVs)(z:Rt):Rt:=hx [zS 16,.rc 1] d (fun r=>F113 c L r.1 r.2.1) z
theorem g113(L m:Nat)(d:TVs):Hk 113 h113 L m d:=bF fun r e=>e▸(c113 r.1 r.2.1 L m).symm
def h117(c:TC0)(L:Nat)(d:TVs)(z:Rt):Rt:=hx [.rc 3] d (fun r=>F117 c L r.1) z
theorem g117(L m:Nat)(d:TVs):Hk 117 h117 L m d:=bF fun r e=>e▸(c117 r.1 L m).symm
def h118(c:TC0)(L:Nat)(d:TVs)(z:Rt):Rt:=hx [.rc 3] d (fun r=>F118 c L r.1) z
theorem g118(L m:Nat)(d:TVs):Hk 118 h118 L m d:=bF fun r e=>e▸(c118 r.1 L m).symm
def h119(c:TC0)(L:Nat)(d:TVs)(z:Rt):Rt:=hx [.rc 3] d (fun r=>F119 c L r.1) z
theorem g119(L m:Nat)(d:TVs):Hk 119 h119 L m d:=bF fun r e=>e▸(c119 r.1 L m).symm
def h121(c:TC0)(L:Nat)(d:TVs)(z:Rt):Rt:=hx [.str] d (fun r=>F121 c L r.1) z
theorem g121(L m:Nat)(d:TVs):Hk 121 h121 L m d:=bF fun r e=>e▸(c121 r.1 L m).symm
def h122(c:TC0)(L:Nat)(d:TVs)(z:Rt):Rt:=hx [.sl i6] d (fun r=>F122 c L r.1) z
theorem g122(L m:Nat)(d:TVs):Hk 122 h122 L m d:=bF fun r e=>e▸(c122 r.1 L m).symm
def h123(c:TC0)(L:Nat)(d:TVs)(z:Rt):Rt:=hx [.sl i6,.sl i6] d (fun r=>F123 c L r.1 r.2.1) z
theorem g123(L m:Nat)(d:TVs):Hk 123 h123 L m d:=bF fun r e=>e▸(c123 r.1 r.2.1 L m).symm
def h125(c:TC0)(L:Nat)(d:TVs)(z:Rt):Rt:=hx [.str,.str] d (fun r=>F125 c L r.1 r.2.1) z
theorem g125(L m:Nat)(d:TVs):Hk 125 h125 L m d:=bF fun r e=>e▸(c125 r.1 r.2.1 L m).symm
def h126(c:TC0)(L:Nat)(d:TVs)(z:Rt):Rt:=hx [.str,.str] d (fun r=>F126 c L r.1 r.2.1) z
theorem g126(L m:Nat)(d:TVs):Hk 126 h126 L m d:=bF fun r e=>e▸(c126 r.1 r.2.1 L m).symm
def h127(c:TC0)(L:Nat)(d:TVs)(z:Rt):Rt:=hx [.sl i6,.sl i6] d (fun r=>F127 c L r.1 r.2.1) z
theorem g127(L m:Nat)(d:TVs):Hk 127 h127 L m d:=bF fun r e=>e▸(c127 r.1 r.2.1 L m).symm
def h131(c:TC0)(L:Nat)(d:TVs)(z:Rt):Rt:=hx [.rc 22,.bool] d (fun r=>F131 c L r.1 r.2.1) z
theorem g131(L m:Nat)(d:TVs):Hk 131 h131 L m d:=bF fun r e=>e▸(c131 r.1 r.2.1 L m).symm
def h135(c:TC0)(L:Nat)(d:TVs)(z:Rt):Rt:=hx [.str] d (fun r=>F135 c L r.1) z
theorem g135(L m:Nat)(d:TVs):Hk 135 h135 L m d:=bF fun r e=>e▸(c135 r.1 L m).symm
def h138(c:TC0)(L:Nat)(d:TVs)(z:Rt):Rt:=hx [zS 9,.str] d (fun r=>F138 c L r.1 r.2.1) z
theorem g138(L m:Nat)(d:TVs):Hk 138 h138 L m d:=bF fun r e=>e▸(c138 r.1 r.2.1 L m).symm
def h139(c:TC0)(L:Nat)(d:TVs)(z:Rt):Rt:=hx [.rc 1] d (fun r=>F139 c L r.1) z
theorem g139(L m:Nat)(d:TVs):Hk 139 h139 L m d:=bF fun r e=>e▸(c139 r.1 L m).symm
def h143(c:TC0)(L:Nat)(d:TVs)(z:Rt):Rt:=hx [.rc 3,i6] d (fun r=>F143 c L r.1 r.2.1) z
theorem g143(L m:Nat)(d:TVs):Hk 143 h143 L m d:=bF fun r e=>e▸(c143 r.1 r.2.1 L m).symm
def h144(c:TC0)(L:Nat)(d:TVs)(z:Rt):Rt:=hx [.rc 3,i6] d (fun r=>F144 c L r.1 r.2.1) z
theorem g144(L m:Nat)(d:TVs):Hk 144 h144 L m d:=bF fun r e=>e▸(c144 r.1 r.2.1 L m).symm
def h145(c:TC0)(L:Nat)(d:TVs)(z:Rt):Rt:=hx [.rc 2] d (fun r=>F145 c L r.1) z
theorem g145(L m:Nat)(d:TVs):Hk 145 h145 L m d:=bF fun r e=>e▸(c145 r.1 L m).symm
def h148(c:TC0)(L:Nat)(d:TVs)(z:Rt):Rt:=hx [.rc 1] d (fun r=>F148 c L r.1) z
theorem g148(L m:Nat)(d:TVs):Hk 148 h148 L m d:=bF fun r e=>e▸(c148 r.1 L m).symm
def h154(c:TC0)(L:Nat)(d:TVs)(z:Rt):Rt:=hx [.rc 3] d (fun r=>F154 c L r.1) z
theorem g154(L m:Nat)(d:TVs):Hk 154 h154 L m d:=bF fun r e=>e▸(c154 r.1 L m).symm
def h155(c:TC0)(L:Nat)(d:TVs)(z:Rt):Rt:=hx [.rc 2] d (fun r=>F155 c L r.1) z
theorem g155(L m:Nat)(d:TVs):Hk 155 h155 L m d:=bF fun r e=>e▸(c155 r.1 L m).symm
def h158(c:TC0)(L:Nat)(d:TVs)(z:Rt):Rt:=hx [.str] d (fun r=>F158 c L r.1) z
theorem g158(L m:Nat)(d:TVs):Hk 158 h158 L m d:=bF fun r e=>e▸(c158 r.1 L m).symm
noncomputable def hAll(i:Nat)(c:TC0)(L:Nat)(d:TVs)(z:Rt):Rt:=(bif Nat.beq i 102 then h102 c L d z else bif Nat.blt i 102 then(bif Nat.beq i 63 then h63 c L d z else bif Nat.blt i 63 then(bif Nat.beq i 27 then h27 c L d z else bif Nat.blt i 27 then(bif Nat.beq i 16 then h16 c L d z else bif Nat.blt i 16 then(bif Nat.beq i 3 then h3 c L d z else bif Nat.blt i 3 then(bif Nat.beq i 2 then h2 c L d z else hG i c L d z)else(bif Nat.beq i 10 then h10 c L d z else hG i c L d z))else(bif Nat.beq i 19 then h19 c L d z else bif Nat.blt i 19 then(bif Nat.beq i 17 then h17 c L d z else hG i c L d z)else hG i c L d z))else(bif Nat.beq i 51 then h51 c L d z else bif Nat.blt i 51 then(bif Nat.beq i 31 then h31 c L d z else bif Nat.blt i 31 then(bif Nat.beq i 29 then h29 c L d z else hG i c L d z)else(bif Nat.beq i 50 then h50 c L d z else hG i c L d z))else(bif Nat.beq i 62 then h62 c L d z else bif Nat.blt i 62 then(bif Nat.beq i 57 then h57 c L d z else hG i c L d z)else hG i c L d z)))else(bif Nat.beq i 84 then h84 c L d z else bif Nat.blt i 84 then(bif Nat.beq i 74 then h74 c L d z else bif Nat.blt i 74 then(bif Nat.beq i 72 then h72 c L d z else bif Nat.blt i 72 then(bif Nat.beq i 64 then h64 c L d z else hG i c L d z)else(bif Nat.beq i 73 then h73 c L d z else hG i c L d z))else(bif Nat.beq i 83 then h83 c L d z else bif Nat.blt i 83 then(bif Nat.beq i 78 then h78 c L d z else hG i c L d z)else hG i c L d z))else(bif Nat.beq i 93 then h93 c L d z else bif Nat.blt i 93 then(bif Nat.beq i 90 then h90 c L d z else bif Nat.blt i 90 then(bif Nat.beq i 87 then h87 c L d z else hG i c L d z)else hG i c L d z)else(bif Nat.beq i 99 then h99 c L d z else bif Nat.blt i 99 then(bif Nat.beq i 97 then h97 c L d z else hG i c L d z)else hG i c L d z))))else(bif Nat.beq i 126 then h126 c L d z else bif Nat.blt i 126 then(bif Nat.beq i 118 then h118 c L d z else bif Nat.blt i 118 then(bif Nat.beq i 108 then h108 c L d z else bif Nat.blt i 108 then(bif Nat.beq i 106 then h106 c L d z else bif Nat.blt i 106 then(bif Nat.beq i 103 then h103 c L d z else hG i c L d z)else(bif Nat.beq i 107 then h107 c L d z else hG i c L d z))else(bif Nat.beq i 117 then h117 c L d z else bif Nat.blt i 117 then(bif Nat.beq i 113 then h113 c L d z else hG i c L d z)else hG i c L d z))else(bif Nat.beq i 122 then h122 c L d z else bif Nat.blt i 122 then(bif Nat.beq i 121 then h121 c L d z else bif Nat.blt i 121 then(bif Nat.beq i 119 then h119 c L d z else hG i c L d z)else hG i c L d z)else(bif Nat.beq i 125 then h125 c L d z else bif Nat.blt i 125 then(bif Nat.beq i 123 then h123 c L d z else hG i c L d z)else hG i c L d z)))else(bif Nat.beq i 144 then h144 c L d z else bif Nat.blt i 144 then(bif Nat.beq i 138 then h138 c L d z else bif Nat.blt i 138 then(bif Nat.beq i 131 then h131 c L d z else bif Nat.blt i 131 then(bif Nat.beq i 127 then h127 c L d z else hG i c L d z)else(bif Nat.beq i 135 then h135 c L d z else hG i c L d z))else(bif Nat.beq i 143 then h143 c L d z else bif Nat.blt i 143 then(bif Nat.beq i 139 then h139 c L d z else hG i c L d z)else hG i c L d z))else(bif Nat.beq i 154 then h154 c L d z else bif Nat.blt i 154 then(bif Nat.beq i 148 then h148 c L d z else bif Nat.blt i 148 then(bif Nat.beq i 145 then h145 c L d z else hG i c L d z)else hG i c L d z)else(bif Nat.beq i 158 then h158 c L d z else bif Nat.blt i 158 then(bif Nat.beq i 155 then h155 c L d z else hG i c L d z)else hG i c L d z)))))
theorem hAll_ok(i L m:Nat)(d:TVs):hAll i (CTp L m) L d (CTp L (m+1) i d)=CTp L (m+1) i d:=(evq (fun e=>(nqE e).symm▸g102 L m d) (evc (evq (fun e=>(nqE e).symm▸g63 L m d) (evc (evq (fun e=>(nqE e).symm▸g27 L m d) (evc (evq (fun e=>(nqE e).symm▸g16 L m d) (evc (evq (fun e=>(nqE e).symm▸g3 L m d) (evc (evq (fun e=>(nqE e).symm▸g2 L m d) (dH i L m d)) (evq (fun e=>(nqE e).symm▸g10 L m d) (dH i L m d)))) (evq (fun e=>(nqE e).symm▸g19 L m d) (evc (evq (fun e=>(nqE e).symm▸g17 L m d) (dH i L m d)) (dH i L m d))))) (evq (fun e=>(nqE e).symm▸g51 L m d) (evc (evq (fun e=>(nqE e).symm▸g31 L m d) (evc (evq (fun e=>(nqE e).symm▸g29 L m d) (dH i L m d)) (evq (fun e=>(nqE e).symm▸g50 L m d) (dH i L m d)))) (evq (fun e=>(nqE e).symm▸g62 L m d) (evc (evq (fun e=>(nqE e).symm▸g57 L m d) (dH i L m d)) (dH i L m d))))))) (evq (fun e=>(nqE e).symm▸g84 L m d) (evc (evq (fun e=>(nqE e).symm▸g74 L m d) (evc (evq (fun e=>(nqE e).symm▸g72 L m d) (evc (evq (fun e=>(nqE e).symm▸g64 L m d) (dH i L m d)) (evq (fun e=>(nqE e).symm▸g73 L m d) (dH i L m d)))) (evq (fun e=>(nqE e).symm▸g83 L m d) (evc (evq (fun e=>(nqE e).symm▸g78 L m d) (dH i L m d)) (dH i L m d))))) (evq (fun e=>(nqE e).symm▸g93 L m d) (evc (evq (fun e=>(nqE e).symm▸g90 L m d) (evc (evq (fun e=>(nqE e).symm▸g87 L m d) (dH i L m d)) (dH i L m d))) (evq (fun e=>(nqE e).symm▸g99 L m d) (evc (evq (fun e=>(nqE e).symm▸g97 L m d) (dH i L m d)) (dH i L m d))))))))) (evq (fun e=>(nqE e).symm▸g126 L m d) (evc (evq (fun e=>(nqE e).symm▸g118 L m d) (evc (evq (fun e=>(nqE e).symm▸g108 L m d) (evc (evq (fun e=>(nqE e).symm▸g106 L m d) (evc (evq (fun e=>(nqE e).symm▸g103 L m d) (dH i L m d)) (evq (fun e=>(nqE e).symm▸g107 L m d) (dH i L m d)))) (evq (fun e=>(nqE e).symm▸g117 L m d) (evc (evq (fun e=>(nqE e).symm▸g113 L m d) (dH i L m d)) (dH i L m d))))) (evq (fun e=>(nqE e).symm▸g122 L m d) (evc (evq (fun e=>(nqE e).symm▸g121 L m d) (evc (evq (fun e=>(nqE e).symm▸g119 L m d) (dH i L m d)) (dH i L m d))) (evq (fun e=>(nqE e).symm▸g125 L m d) (evc (evq (fun e=>(nqE e).symm▸g123 L m d) (dH i L m d)) (dH i L m d))))))) (evq (fun e=>(nqE e).symm▸g144 L m d) (evc (evq (fun e=>(nqE e).symm▸g138 L m d) (evc (evq (fun e=>(nqE e).symm▸g131 L m d) (evc (evq (fun e=>(nqE e).symm▸g127 L m d) (dH i L m d)) (evq (fun e=>(nqE e).symm▸g135 L m d) (dH i L m d)))) (evq (fun e=>(nqE e).symm▸g143 L m d) (evc (evq (fun e=>(nqE e).symm▸g139 L m d) (dH i L m d)) (dH i L m d))))) (evq (fun e=>(nqE e).symm▸g154 L m d) (evc (evq (fun e=>(nqE e).symm▸g148 L m d) (evc (evq (fun e=>(nqE e).symm▸g145 L m d) (dH i L m d)) (dH i L m d))) (evq (fun e=>(nqE e).symm▸g158 L m d) (evc (evq (fun e=>(nqE e).symm▸g155 L m d) (dH i L m d)) (dH i L m d)))))))))))
end Go.TV
namespace Go.TV
open Go.AI Go.PI Go.Proofs
noncomputable def evB(K:TC0)(up:Nat→TC0)(L:Nat):Nat→TC0
 |0=>up 0
 |n+1=>fun i d=>match K i d with|some r=>some r|none=>hAll i (evB K up L n) L d (up (n+1) i d)
noncomputable def upT(L N:Nat):Nat→TC0:=fun n=>CTp L (N+n)
theorem aDp{K:TC0}{L N:Nat}(hK: ∀n i d r,K i d=some r→CTp L (N+n+1) i d=some r): ∀n,evB K (upT L N) L n=CTp L (N+n)
 |0=>rfl
 |n+1=>by
  funext i d;show(match K i d with|some r=>some r|none=>hAll i (evB K (upT L N) L n) L d (CTp L (N+n+1) i d))=CTp L (N+n+1) i d
  rw[aDp hK n];split
  ·rename_i r e;exact(hK n i d r e).symm
  ·exact hAll_ok i L (N+n) d
end Go.TV
namespace Go.TV
open Go.AI Go.PI Go.Proofs
theorem aBB{β:Type}{A:Option β}:chk true A=A:=rfl
theorem wrapn{k:Nat}(h:k<4000000000000000000):IntKind.i64.wrap (k:Int)=(k:Int):=by
 unfold IntKind.wrap;simp[IntKind.bits,IntKind.signed];omega
end Go.TV
namespace Go.TV
open Go.AI Go.PI Go.Proofs
def wY:List UInt8:=[108,105,115,112]
end Go.TV
namespace Go.TV
open Go.AI Go.PI Go.Proofs
def blI(x:Int):Bool:=decide (x=32)||decide (x=9)||decide (x=10)||decide (x=13)
def csI(x:Int):Bool:=decide (33≤x)&&decide (x≤126)&& !decide (x=40)&& !decide (x=41)&& !decide (x=39)&& !decide (x=34)&& !decide (x=59)&& !decide (x=124)&& !decide (x=58)
def u8(x:UInt8):Int:=(x.toNat:Int)
theorem Bl_ok(x:Int)(L n:Nat):CTp L (n+1) 128 [⟨.int .u8,x⟩]=some [yB (blI x)]:=by
 rw[c128];simp only[F128,aI7,aIO,aI6,blI];generalize decide (x=32)=a,decide (x=9)=b,decide (x=10)=d,decide (x=13)=e;cases a<;>cases b<;>cases d<;>cases e<;>rfl
theorem Cs_ok(x:Int)(L n:Nat):CTp L (n+1) 132 [⟨.int .u8,x⟩]=some [yB (csI x)]:=by
 rw[c132];simp only[F132,aI2,aIM,aI1,csI];generalize decide (33≤x)=a,decide (x≤126)=b,decide (x=40)=d,decide (x=41)=e,decide (x=39)=f,decide (x=34)=g,decide (x=59)=h,decide (x=124)=i,decide (x=58)=j;cases a
 ·rfl
 cases b
 ·rfl
 cases d
 case true=>rfl
 cases e
 case true=>rfl
 cases f
 case true=>rfl
 cases g
 case true=>rfl
 cases h
 case true=>rfl
 cases i
 case true=>rfl
 cases j<;>rfl
theorem has_no{s:List UInt8}{k:Nat}{a b:Int}(hb:s.length<1000000000)(hk:k≤s.length)(h: ∀x,s[k]?=some x→u8 x≠a)(L n:Nat):CTp L (n+1) 129 [yT s,yI (k:Int),⟨.int .u8,a⟩,⟨.int .u8,b⟩]=some [yB false]:=by
 rw[c129];have e0:decide ((0:Int)≤(k:Int))=true:=by simp
 simp only[F129,aI5,aIN,aI4,e0,aJ];cases h1:decide (IntKind.i64.wrap ((k:Int)+1)<(s.length:Int))with
 |false=>rfl
 |true=>
  rw[aJ,aL];cases h2:s[k]? with
  |none=>
   exfalso;have:=List.getElem?_eq_none_iff.1 h2;simp only[djE]at h1;rw[dP (by omega)]at h1
   omega
  |some x=>
   have:=h x h2;have e1:decide ((x.toNat:Int)=a)=false:=by simpa [u8]using this
   rw[dT,e1];rfl
theorem Wd_loop{c:TC0}{L:Nat}{s r:List UInt8}(hc: ∀x,c 132 [⟨.int .u8,x⟩]=some [yB (csI x)])(hb:s.length<1000000000)(hr: ∀y,r.head?=some y→csI (u8 y)=false):
    ∀(w:List UInt8) (k m:Nat),s.drop k=w++r→w.length<m→(∀x∈w,csI (u8 x)=true)→rB c L m s (k:Int)=some [yI ((k+w.length:Nat):Int)]:=by
 intro w;induction w with
 |nil=>
  intro k m h1 h2 _;obtain⟨m,rfl⟩: ∃m',m=m'+1:=⟨m-1,by simp at h2;omega⟩
  rw[rB,aEb];rw[nlA]at h1;cases r with
  |nil=>
   have e1:=bA h1;have e3:decide ((k:Int)<(s.length:Int))=false:=by simp;omega
   rw[e3,aF,zW,aAa,aF];rfl
  |cons y r=>
   obtain⟨a1,a2,a3⟩:=aZ h1;have e3:decide ((k:Int)<(s.length:Int))=true:=by simp;omega
   have e4:csI (y.toNat:Int)=false:=hr y rfl;rw[e3,aJ,aL,a1,dT,hc,eX,zW,aAa,e4,aF];rfl
 |cons x w ih=>
  intro k m h1 h2 h3;obtain⟨m,rfl⟩: ∃m',m=m'+1:=⟨m-1,by simp at h2;omega⟩
  rw[rB,aEb];obtain⟨a1,a2,a3⟩:=aZ h1;have e3:decide ((k:Int)<(s.length:Int))=true:=by simp;omega
  have e4:csI (x.toNat:Int)=true:=h3 x (mhE ..);rw[e3,aJ,aL,a1,dT,hc,eX,zW,aAa,e4,aJ,dP (by omega)]
  rw[ih (k+1) m a3 (by simp at h2;omega) fun z hz=>h3 z (mtE _ hz)]
  simp only[lcS];congr 4;omega
theorem Wd_ok{s w r:List UInt8}{k L n:Nat}(hb:s.length<1000000000)(hL:s.length<L)(h:s.drop k=w++r)(hw: ∀x∈w,csI (u8 x)=true)(hr: ∀y,r.head?=some y→csI (u8 y)=false):
    CTp L (n+2) 133 [yT s,yI (k:Int)]=some [yI ((k+w.length:Nat):Int)]:=by
 have:=congrArg List.length h;simp at this;show CTp L (n+1+1) 133 _=_;rw[c133,F133,aI0];exact Wd_loop (fun x=>Cs_ok x L n) hb hr w k L h (by omega) hw
theorem Sk_loop{c:TC0}{L:Nat}{s r:List UInt8}(hc: ∀x,c 128 [⟨.int .u8,x⟩]=some [yB (blI x)])
    (hh: ∀k:Nat,k≤s.length→(∀x,s[k]?=some x→u8 x≠35)→c 129 [yT s,yI (k:Int),⟨.int .u8,(35:Int)⟩,⟨.int .u8,(124:Int)⟩]=some [yB false])
    (hb:s.length<1000000000) (hr: ∀y,r.head?=some y→blI (u8 y)=false∧u8 y≠59∧u8 y≠35):
    ∀(w:List UInt8) (k m:Nat),s.drop k=w++r→w.length<m→(∀x∈w,blI (u8 x)=true)→lZ c L m s (k:Int)=some [yI ((k+w.length:Nat):Int),yB true]:=by
 intro w;induction w with
 |nil=>
  intro k m h1 h2 _;obtain⟨m,rfl⟩: ∃m',m=m'+1:=⟨m-1,by simp at h2;omega⟩
  rw[lZ,aEc];rw[nlA]at h1;cases r with
  |nil=>
   have e1:=bA h1;have e3:decide ((k:Int)<(s.length:Int))=false:=by simp;omega
   rw[e3,aF];rfl
  |cons y r=>
   obtain⟨a1,a2,a3⟩:=aZ h1;have e3:decide ((k:Int)<(s.length:Int))=true:=by simp;omega
   obtain⟨e4,e5,e6⟩:=hr y rfl;have e4:blI (y.toNat:Int)=false:=e4;have e7:decide ((y.toNat:Int)=59)=false:=by simpa [u8]using e5
   have h8:=hh k (by omega) fun x hx=>by rw[a1]at hx;cases hx;exact e6
   rw[e3,aJ,aL,a1,dT,hc,eX,e4,aF,dT,e7,aF,h8,eX,aF];rfl
 |cons x w ih=>
  intro k m h1 h2 h3;obtain⟨m,rfl⟩: ∃m',m=m'+1:=⟨m-1,by simp at h2;omega⟩
  rw[lZ,aEc];obtain⟨a1,a2,a3⟩:=aZ h1;have e3:decide ((k:Int)<(s.length:Int))=true:=by simp;omega
  have e4:blI (x.toNat:Int)=true:=h3 x (mhE ..);rw[e3,aJ,aL,a1,dT,hc,eX,e4,aJ,dP (by omega)]
  rw[ih (k+1) m a3 (by simp at h2;omega) fun z hz=>h3 z (mtE _ hz)]
  simp only[lcS];congr 4;omega
theorem Sk_ok{s w r:List UInt8}{k L n:Nat}(hb:s.length<1000000000)(hL:s.length<L)(h:s.drop k=w++r)(hw: ∀x∈w,blI (u8 x)=true)(hr: ∀y,r.head?=some y→blI (u8 y)=false∧u8 y≠59∧u8 y≠35):
    CTp L (n+2) 104 [yT s,yI (k:Int)]=some [yI ((k+w.length:Nat):Int),yB true]:=by
 have:=congrArg List.length h;simp at this;show CTp L (n+1+1) 104 _=_;rw[c104,F104,aI8];exact Sk_loop (fun x=>Bl_ok x L n) (fun k h6 hk=>has_no hb h6 hk L n) hb hr w k L h (by omega) hw
end Go.TV
namespace Go.TV
open Go.AI Go.PI Go.Proofs
theorem slc_nat{α:Type}{s w r:List α}{k:Nat}(h:s.drop k=w++r)(hk:k≤s.length):slc s (k:Int) ((k+w.length:Nat):Int)=some w:=by
 have hl:=congrArg List.length h;simp at hl;unfold slc;have e1:decide ((0:Int)≤(k:Int))=true:=by simp
 have e2:decide ((k:Int)≤((k+w.length:Nat):Int))=true:=by simp;omega
 have e3:decide (((k+w.length:Nat):Int)≤(s.length:Int))=true:=by simp only[djE];omega
 rw[e1,e2,e3];simp only[Bool.and_self,cdt,Int.toNat_natCast,ojE];rw[List.drop_take,h];simp
theorem obL_nm{β:Type}{a b:List UInt8}{d:Bool}{K:List UInt8×List UInt8×Bool×Unit→Option β}:obL (D:=U0.D) [.str,.str,.bool] (some [yT a,yT b,yB d]) K=K (a,b,d,()):=rfl
theorem obL_se{β:Type}{a:G.X}{K:G.X×Unit→Option β}:obL (D:=U0.D) [.rc 20] (some [yR 20 a]) K=K (a,()):=rfl
theorem aCW{β:Type}{a:Int}{b:Bool}{K:Int×Bool×Unit→Option β}:obL (D:=U0.D) [.int .i64,.bool] (some [yI a,yB b]) K=K (a,b,()):=rfl
theorem obL_i{β:Type}{a:Int}{K:Int×Unit→Option β}:obL (D:=U0.D) [.int .i64] (some [yI a]) K=K (a,()):=rfl
theorem obL_s{β:Type}{a:List UInt8}{K:List UInt8×Unit→Option β}:obL (D:=U0.D) [.str] (some [yT a]) K=K (a,()):=rfl
theorem obL_s2{β:Type}{a b:List UInt8}{K:List UInt8×List UInt8×Unit→Option β}:obL (D:=U0.D) [.str,.str] (some [yT a,yT b]) K=K (a,b,()):=rfl
theorem obL_on{β:Type}{a:G.K}{b:Int}{d:G.X}{K:G.K×Int×G.X×Unit→Option β}:obL (D:=U0.D) [.rc 22,.int .i64,.rc 20] (some [yR 22 a,yI b,yR 20 d]) K=K (a,b,d,()):=rfl
theorem Nm_no{x:UInt8}{w:List UInt8}(h1:u8 x≠45)(h2:u8 x<48∨57<u8 x)(L n:Nat):CTp (L+1) (n+1) 135 [yT (x::w)]=some [yT [],yT [],yB false]:=by
 rw[c135];have e1:decide ((0:Int)<((x::w).length:Int))=true:=by simp
 have e2:decide ((x.toNat:Int)=45)=false:=by simpa [u8]using h1
 have e3:idx (x::w) (0:Int)=some x:=rfl;rw[F135,aIZ,e1,aJ,e3,dT,e2,aIL,aIY,aF,aIK,aIX,tD,aIW,e1,aJ,e3,dT];have key: ∀b:Bool,b=false→aIJ (CTp (L+1) n) (L+1) (tD (CTp (L+1) n) (L+1) L) b 0 (x::w) 0=some [yT [],yT [],yB false]:=by
  intro b hb;subst hb;rfl
 cases h3:decide ((48:Int)≤(x.toNat:Int))with
 |false=>exact key _ rfl
 |true=>
  rw[aJ,dT];have h4:decide ((x.toNat:Int)≤(57:Int))=false:=by
   simp only[djE]at h3;simp only[dfN];simp only[u8]at h2;omega
  exact key _ h4
theorem Nd_ok{k p:Int}{w:List UInt8}(h:w.length≤40)(L n:Nat):CTp L (n+1) 131 [yR 22 ⟨k,p,[],w,[]⟩,yB false]=some [yR 20 ⟨0,0⟩]:=by
 rw[c131];have e1:decide ((40:Int)<(w.length:Int))=false:=by simp;omega
 simp only[F131,aI3,e1,aF];rfl
structure NumW(c:TC0)(w:List UInt8):Prop where
 a:c 135 [yT w]=some [yT w,yT [49],yB true]
 b:c 136 [yT [49]]=some [yT [49]]
 d:c 136 [yT w]=some [yT w]
 e:c 71 [yT w,yT [49]]=some [yT w,yT [49]]
 f:c 137 [yT w]=some [yI 1]
 g:c 137 [yT [49]]=some [yI 1]
def SyW(w:List UInt8):Prop:= ∃x l,w=x::l∧u8 x≠45∧(u8 x<48∨57<u8 x)∧w≠ [46]∧w.length≤40
theorem aHy{x:Int}(h:csI x=true):x≠40∧x≠41∧x≠39∧x≠34∧x≠59∧x≠124∧x≠58:=by
 simp only[csI,bjE,Bool.not_eq_true',dfN]at h;obtain⟨⟨⟨⟨⟨⟨⟨_,h1⟩,h2⟩,h3⟩,h4⟩,h5⟩,h6⟩,h7⟩:=h;exact⟨h1,h2,h3,h4,h5,h6,h7⟩
def wtk(b:Bool)(p:Int)(w:List UInt8):G.K:=bif b then⟨5,p,[],w,[49]⟩else⟨6,p,[],w,[]⟩
theorem On_w{s w r:List UInt8}{k L n:Nat}{nu:Bool}(hb:s.length<1000000000)(hL:s.length<L)(h:s.drop k=w++r)(h0:w≠ [])(hw: ∀x∈w,csI (u8 x)=true)(hr: ∀y,r.head?=some y→csI (u8 y)=false∧u8 y≠58)
    (hk:(nu=true∧NumW (CTp L (n+2)) w)∨(nu=false∧SyW w)):
    CTp L (n+3) 105 [yT s,yI (k:Int)]=some [yR 22 (wtk nu (k:Int) w),yI ((k+w.length:Nat):Int),yR 20 ⟨0,0⟩]:=by
 have hl:=congrArg List.length h;simp at hl;obtain⟨L,rfl⟩: ∃L',L=L'+1:=⟨L-1,by omega⟩
 cases hw0:w with
 |nil=>exact(h0 hw0).elim
 |cons x l=>
  rw[←hw0];have hx:x∈w:=by rw[hw0];exact mhE ..
  have h1:s.drop k=x::(l++r):=by rw[h,hw0];rfl
  obtain⟨a1,a2,a3⟩:=aZ h1;obtain⟨q1,q2,q3,q4,q5,q6,q7⟩:=aHy (hw x hx);have d1:decide ((x.toNat:Int)=40)=false:=by simpa [u8]using q1
  have d2:decide ((x.toNat:Int)=41)=false:=by simpa [u8]using q2
  have d3:decide ((x.toNat:Int)=39)=false:=by simpa [u8]using q3
  have d4:decide ((x.toNat:Int)=34)=false:=by simpa [u8]using q4
  have d5:decide ((x.toNat:Int)=124)=false:=by simpa [u8]using q6
  have d6:csI (x.toNat:Int)=true:=hw x hx;have hwd:=Wd_ok (n:=n) hb hL h hw (fun y hy=>(hr y hy).1)
  have hsl:=slc_nat h (by omega)
  have hhs:CTp (L+1) (n+2) 129 [yT s,yI ((k+w.length:Nat):Int),⟨.int .u8,(58:Int)⟩,⟨.int .u8,(58:Int)⟩]=some [yB false]:=by
   refine has_no hb (by omega) (fun y hy=>?_) (L+1) (n+1)
   have:s.drop (k+w.length)=r:=by rw[←List.drop_drop,h];simp
   rw[←List.head?_drop,this]at hy;exact(hr y hy).2
  show CTp (L+1) (n+2+1) 105 _=_;rw[c105,F105,aAb,aL,a1,dT,d1,aF,d2,aF,d3,aF,d4,aF,d5,aF,Cs_ok,eX,d6];simp only[bnT,aF];rw[hwd,obL_i];show ob (slc s (k:Int) ((k+w.length:Nat):Int)) _=_;rw[hsl,dT,hhs,eX,aF];rcases hk with⟨rfl,hn⟩|⟨rfl,x',l',e1,e2,e3,e4,e5⟩
  ·rw[hn.a,obL_nm];have e4:decide (w=([46]:List UInt8))=false:=by
    cases hd:decide (w=([46]:List UInt8))with
    |false=>rfl
    |true=>
     exfalso;simp only[djE]at hd;have h2:=hn.a;rw[hd]at h2;rw[Nm_no (x:=46) (w:=[]) (by decide) (by decide)]at h2
     cases h2
   rw[e4,aF];simp only[aJ];rw[hn.b,obL_s];show cnd (decide (([49]:List UInt8)=[48])) _ _=_;rw[show decide (([49]:List UInt8)=[48])=false by decide,aF,hn.d,obL_s,obL_s]
   show obL (D:=U0.D) [.str,.str] (CTp (L+1) (n+2) 71 [yT w,yT [49]]) _=_;rw[hn.e,obL_s2];show obL (D:=U0.D) [.int .i64] (CTp (L+1) (n+2) 137 [yT w]) _=_;rw[hn.f,obL_i];show cnd (decide ((100:Int)<1)) _ _=_;rw[show decide ((100:Int)<1)=false by decide,aF]
   show obL (D:=U0.D) [.int .i64] (CTp (L+1) (n+2) 137 [yT [49]]) _=_;rw[hn.g,obL_i];rfl
  ·rw[e1,Nm_no e2 e3,←e1,obL_nm];have e6:decide (w=([46]:List UInt8))=false:=by simpa using e4
   rw[e6,aF];simp only[aF];rw[Nd_ok e5,obL_se];rfl
theorem On_op{s r:List UInt8}{k L n:Nat}(hb:s.length<1000000000)(h:s.drop k=40::r):CTp L (n+1) 105 [yT s,yI (k:Int)]=some [yR 22 ⟨1,(k:Int),[],[],[]⟩,yI ((k+1:Nat):Int),yR 20 ⟨0,0⟩]:=by
 obtain⟨a1,a2,a3⟩:=aZ h;rw[c105,F105,aAb,aL,a1,dT,dP (by omega)]
 rfl
theorem On_cl{s r:List UInt8}{k L n:Nat}(hb:s.length<1000000000)(h:s.drop k=41::r):CTp L (n+1) 105 [yT s,yI (k:Int)]=some [yR 22 ⟨2,(k:Int),[],[],[]⟩,yI ((k+1:Nat):Int),yR 20 ⟨0,0⟩]:=by
 obtain⟨a1,a2,a3⟩:=aZ h;rw[c105,F105,aAb,aL,a1,dT,dP (by omega)]
 rfl
end Go.TV
namespace Go.TV
open Go.AI Go.PI Go.Proofs
theorem obL_lr{β:Type}{b:List G.R}{K:List G.R×Unit→Option β}:obL (D:=U0.D) [.sl (.rc 21)] (some [yS 21 b]) K=K (b,()):=rfl
def rowsL:List G.R:=match B72x0 (fun _ _=>none)with
 |some l=>(match cS (D:=U0.D) [.sl (.rc 21)] l with|some r=>r.1|none=>[])
 |none=>[]
theorem rows_ok{L n:Nat}:CTp L (n+1) 72 []=some [yS 21 rowsL]:=by
 rw[c72];rfl
theorem rows_len:rowsL.length<1000:=by decide+kernel
def qW(s:List UInt8):List G.R→Option Int
 |[]=>none
 |r::l=>if r.name=s then some r.arity else qW s l
def arity(s:G.Y):Option Int:=if s.package=wY then qW s.name rowsL else none
def oI(o:Option Int):TVs:=match o with
 |some k=>[yI k,yB true]
 |none=>[yI (0:Int),yB false]
theorem Ar_loop{c:TC0}{L:Nat}{t:G.Y}{a:List G.R}(hb:a.length<1000000000): ∀(l:List G.R) (k m:Nat),a.drop k=l→l.length<m→
    aBV c L m a (k:Int) t=some (oI (qW t.name l)):=by
 intro l;induction l with
 |nil=>
  intro k m h1 h3;obtain⟨m,rfl⟩: ∃m',m=m'+1:=⟨m-1,by simp at h3;omega⟩
  have e1:=bA h1;have e3:decide ((k:Int)<(a.length:Int))=false:=by simp;omega
  rw[aBV,B50x1,e3,aF];rfl
 |cons x l ih=>
  intro k m h1 h3;obtain⟨m,rfl⟩: ∃m',m=m'+1:=⟨m-1,by simp at h3;omega⟩
  obtain⟨a1,a2,a3⟩:=aZ h1;have e3:decide ((k:Int)<(a.length:Int))=true:=by simp;omega
  rw[aBV,B50x1,e3,aJ,aL,a1,dT,dP (by omega),qW]
  by_cases e:x.name=t.name
  ·simp only[e,decide_true,aJ,dT,if_true,oI]
  ·simp only[e,decide_false,aF,if_false];exact ih (k+1) m a3 (by simp at h3;omega)
theorem ArR_ok(s:G.Y)(L n:Nat)(hL:1000≤L):CTp L (n+2) 50 [yR 1 s]=some (oI (arity s)):=by
 have hl:=rows_len;rw[c50,F50,B50x0];by_cases e:s.package=wY
 ·have e':decide (s.package=([108,105,115,112]:List UInt8))=true:=decide_eq_true e;have ea:arity s=qW s.name rowsL:=by simp[arity,e]
  rw[e',ea,rows_ok,obL_lr];exact Ar_loop (a:=rowsL) (by omega) rowsL 0 L rfl (by omega)
 ·have e':decide (s.package=([108,105,115,112]:List UInt8))=false:=decide_eq_false e;have ea:arity s=none:=by simp[arity,e]
  rw[e',ea];rfl
end Go.TV
namespace Go.TV
open Go.AI Go.PI Go.Proofs
structure cO(s:G.Z):Prop where
 b: ∀x∈s.b,0≤x∧x<256
 p0:0≤s.pos
 p1:s.pos≤(s.b.length:Int)
 l:s.b.length≤100
def NxR(x:Rt)(a:Int):Prop:= ∃(r:Int) (s:G.Z),x=some [yI r,yR 0 s]∧0≤r∧r<a∧cO s
theorem kD{β:Type}{a:Int}{b:G.Z}{K:Int×G.Z×Unit→Option β}:obL (D:=U0.D) [.int .i64,.rc 0] (some [yI a,yR 0 b]) K=K (a,b,()):=rfl
theorem Nx_ok{s:G.Z}{a:Int}{L n:Nat}(h:cO s)(h1:1≤a):NxR (CTp L (n+1) 4 [yI a,yR 0 s]) a:=by
 rw[c4,F4,B4x0];cases e1:decide ((s.b.length:Int)≤s.pos)with
 |true=>exact⟨0,s,rfl,Int.le_refl _,by omega,h⟩
 |false=>
  have e2:decide (a<(1:Int))=false:=by simp;omega
  simp only[dfN]at e1;rw[aF,e2,J4x1,B4x1,aF];obtain⟨k,hk⟩: ∃k:Nat,s.pos=(k:Int):=⟨s.pos.toNat,by have:=h.p0;omega⟩
  have hl:=h.l;have hkl:k<s.b.length:=by omega
  have e3:s.b[k]?=some s.b[k]:=geG hkl;obtain⟨q1,q2⟩:=h.b s.b[k] (List.getElem_mem hkl);generalize s.b[k]=v at e3 q1 q2;have e4:IntKind.i64.wrap (((k+1:Nat):Int)-1)=(k:Int):=by
   rw[show((k+1:Nat):Int)-1=(k:Int) by omega];exact wrapn (by omega)
  obtain⟨m,rfl⟩: ∃m:Nat,v=(m:Int):=⟨v.toNat,by omega⟩
  rw[hk,dP (by omega),e4,aL,e3,dT,show decide (a=0)=false by simp;omega]
  simp only[Bool.not_false,aBB];rw[wrapn (by omega)]
  exact⟨_,_,rfl,Int.tmod_nonneg _ q1,Int.tmod_lt_of_pos _ (by omega),⟨h.b,by show(0:Int)≤((k+1:Nat):Int);omega,by show((k+1:Nat):Int)≤(s.b.length:Int);omega,h.l⟩⟩
def fns(e:G.E):List G.F:=bif decide (e.kind=3)||decide (e.kind=5)||decide (e.kind=6)||decide (e.kind=7)then e.functions else []
theorem Fn_ok(e:G.E)(L n:Nat):CTp L (n+1) 74 [yR 16 e]=some [yS 8 (fns e)]:=by
 rw[c74];simp only[F74,B74x0,J74x1,B74x1,fns];generalize decide (e.kind=3)=a,decide (e.kind=5)=b,decide (e.kind=6)=d,decide (e.kind=7)=f;cases a<;>cases b<;>cases d<;>cases f<;>rfl
def PlR(E:List G.E)(x:Rt):Prop:= ∃(i k:Int) (b:Bool),x=some [yI i,yI k,yB b]∧(b=true→∃(i' k':Nat) (e:G.E),i=i'∧k=k'∧E[i']?=some e∧k'<(fns e).length)
theorem obL_fl{β:Type}{a:List G.F}{K:List G.F×Unit→Option β}:obL (D:=U0.D) [.sl (.rc 8)] (some [yS 8 a]) K=K (a,()):=rfl
theorem Pl_in{E:List G.E}{f:G.Y}{c:TC0}{L:Nat}{n1:List G.E→Int→G.Y→Rt}{i:Nat}{e:G.E}(he:E[i]?=some e)(hb:(fns e).length<1000000000)(hn:PlR E (n1 E (IntKind.i64.wrap ((i:Int)+1)) f)):
    ∀(r:List G.F) (k m:Nat),(fns e).drop k=r→r.length<m→PlR E (aBN c L n1 m (fns e) (k:Int) (i:Int) E f):=by
 intro r;induction r with
 |nil=>
  intro k m h1 h2;obtain⟨m,rfl⟩: ∃m',m=m'+1:=⟨m-1,by simp at h2;omega⟩
  have e1:=bA h1;have e3:decide ((k:Int)<((fns e).length:Int))=false:=by simp;omega
  rw[aBN,B73x2,e3,aF];exact hn
 |cons x r ih=>
  intro k m h1 h2;obtain⟨m,rfl⟩: ∃m',m=m'+1:=⟨m-1,by simp at h2;omega⟩
  obtain⟨a1,a2,a3⟩:=aZ h1;have e3:decide ((k:Int)<((fns e).length:Int))=true:=by simp;omega
  rw[aBN,B73x2,e3,aJ,aL,a1,dT,dP (by omega)]
  cases decide (x.name=f)with
  |true=>exact⟨_,_,true,rfl,fun _=>⟨i,k,e,rfl,rfl,he,a2⟩⟩
  |false=>exact ih (k+1) m a3 (by simp at h2;omega)
theorem Pl_out{E:List G.E}{f:G.Y}{c:TC0}{L:Nat}(hb:E.length<1000000)(hf: ∀e∈E,(fns e).length<L∧(fns e).length<1000000)(hc: ∀e:G.E,c 74 [yR 16 e]=some [yS 8 (fns e)]):
    ∀(r:List G.E) (k m:Nat),E.drop k=r→r.length<m→PlR E (aBO c L m E (k:Int) f):=by
 intro r;induction r with
 |nil=>
  intro k m h1 h2;obtain⟨m,rfl⟩: ∃m',m=m'+1:=⟨m-1,by simp at h2;omega⟩
  have e1:=bA h1;have e3:decide ((k:Int)<(E.length:Int))=false:=by simp;omega
  rw[aBO,B73x1,e3,aF];exact⟨0,0,false,rfl,fun h=>by cases h⟩
 |cons x r ih=>
  intro k m h1 h2;obtain⟨m,rfl⟩: ∃m',m=m'+1:=⟨m-1,by simp at h2;omega⟩
  obtain⟨a1,a2,a3⟩:=aZ h1;have e3:decide ((k:Int)<(E.length:Int))=true:=by simp;omega
  rw[aBO,B73x1,e3,aJ,aL,a1,dT,hc,obL_fl];obtain⟨g1,g2⟩:=hf x (List.mem_of_getElem? a1);refine Pl_in a1 (by omega) ?_ (fns x) 0 L rfl g1
  rw[dP (by omega)]
  exact ih (k+1) m a3 (by simp at h2;omega)
structure WOK(E:List G.E):Prop where
 l:E.length≤1000
 f: ∀e∈E,e.functions.length≤1000
 p: ∀e∈E,∀f∈e.functions,f.params.length≤3
theorem fns_mem{e:G.E}{f:G.F}(h:f∈fns e):f∈e.functions:=by
 unfold fns at h;revert h;cases decide (e.kind=3)||decide (e.kind=5)||decide (e.kind=6)||decide (e.kind=7)with
 |true=>exact id
 |false=>intro h;cases h
theorem fns_len(e:G.E):(fns e).length≤e.functions.length:=by
 unfold fns;cases decide (e.kind=3)||decide (e.kind=5)||decide (e.kind=6)||decide (e.kind=7)with
 |true=>exact nlR _
 |false=>exact Nat.zero_le _
theorem obL_pl{β:Type}{a b:Int}{d:Bool}{K:Int×Int×Bool×Unit→Option β}:obL (D:=U0.D) [.int .i64,.int .i64,.bool] (some [yI a,yI b,yB d]) K=K (a,b,d,()):=rfl
theorem obL_fb{β:Type}{a:G.F}{d:Bool}{K:G.F×Bool×Unit→Option β}:obL (D:=U0.D) [.rc 8,.bool] (some [yR 8 a,yB d]) K=K (a,d,()):=rfl
theorem Fu_ok{E:List G.E}(hE:WOK E)(f:G.Y){L n:Nat}(hL:2000≤L): ∃(g:G.F) (b:Bool),CTp L (n+3) 51 [yS 16 E,yR 1 f]=some [yR 8 g,yB b]∧g.params.length≤3:=by
 have h94:PlR E (CTp L (n+2) 73 [yS 16 E,yR 1 f]):=by
  show PlR E (CTp L (n+1+1) 73 _);rw[c73,F73,B73x0];have:=hE.l;exact Pl_out (by omega) (fun e he=>by have:=hE.f e he;have:=fns_len e;omega) (fun e=>Fn_ok e L n) E 0 L rfl (by omega)
 obtain⟨i,k,b,h94,hb⟩:=h94;show∃(g:G.F) (b:Bool),CTp L (n+2+1) 51 _=_∧_;rw[c51,F51,B51x0,h94,obL_pl];cases b with
 |false=>exact⟨_,_,rfl,Nat.zero_le _⟩
 |true=>
  obtain⟨i',k',e,rfl,rfl,h1,h2⟩:=hb rfl;have h3:(fns e)[k']?=some (fns e)[k']:=geG h2;simp only[bnT,aF];rw[aL,h1,dT,Fn_ok,obL_fl];simp only[aL,h3,dT];exact⟨_,_,rfl,hE.p e (List.mem_of_getElem? h1) _ (fns_mem (List.getElem_mem h2))⟩
theorem rows_ar:(rowsL.all fun r=>decide (0≤r.arity)&&decide (r.arity≤3))=true:=by kernel_rfl
theorem zC: ∀(l:List G.R),(l.all fun r=>decide (0≤r.arity)&&decide (r.arity≤3))=true→∀s k,qW s l=some k→0≤k∧k≤3
 |[],_,s,k,h=>by cases h
 |r::l,h,s,k,hk=>by
  simp only[alC,bjE,djE]at h;simp only[qW]at hk;split at hk
  ·simp only[ojE]at hk;subst hk;exact h.1
  ·exact zC l h.2 s k hk
def ArR(x:Rt):Prop:= ∃(k:Nat) (b:Bool),x=some [yI (k:Int),yB b]∧k≤3
theorem Ar_ok{E:List G.E}(hE:WOK E)(f:G.Y){L n:Nat}(hL:2000≤L):ArR (CTp L (n+4) 19 [yS 16 E,yR 1 f]):=by
 have h55:=ArR_ok f L (n+1) (by omega)
 show ArR (CTp L (n+3+1) 19 _);rw[c19,F19,B19x0];show ArR (obL (D:=U0.D) [.int .i64,.bool] (CTp L (n+1+2) 50 [yR 1 f]) _);rw[h55];cases ha:arity f with
 |some k=>
  obtain⟨g1,g2⟩:0≤k∧k≤3:=by
   unfold arity at ha;split at ha
   ·exact zC rowsL rows_ar _ _ ha
   ·cases ha
  obtain⟨m,rfl⟩: ∃m:Nat,k=(m:Int):=⟨k.toNat,by omega⟩
  exact⟨m,true,rfl,by omega⟩
 |none=>
  simp only[oI];rw[aCW,aF];obtain⟨g,b,h1,h2⟩:=Fu_ok (n:=n) hE f hL;rw[h1,obL_fb];cases b with
  |false=>exact⟨0,false,rfl,by omega⟩
  |true=>exact⟨g.params.length,true,rfl,h2⟩
end Go.TV
namespace Go.TV
open Go.AI Go.PI Go.Proofs
set_option maxRecDepth 20000
theorem call_o{P:Program}{T:TP U0.D}{l:List (Nat×Ins)}{i:Nat}{x:Ins}(hx:oW l i=some x)(hs:T.sig i=some x.sig)(hb:(okS T.orc x.sig&&Nat.ble x.sig.bx.length 100&&aGl x.sig.bx.length x.sig.bx)=true)(L n:Nat)(d:TVs){y:OV}(ho:orT U0 T.orc x.sig d=some y):
    yX U0 T (aFz P l) L (n+1) i d=some [ovT U0 y]:=by
 have hg:aFz P l i=some (dQ x.sk (fQ P x.sig.f),tT P x.sig.f):=by simp only[aFz,hx]
 simp only[yX,hs,hg,hb,cdt,ho]
def Kf:TC0:=fun i d=>bif Nat.beq i 146 then(match orT U0 orcI ii146.sig d with|some x=>some [ovT U0 x]|none=>none)else none
noncomputable def cF(L M k:Nat):TC0:=evB Kf (upT (L+7000) M) (L+7000) k
theorem cF_ok(L M k:Nat):cF L M k=CTp (L+7000) (M+k):=aDp (fun n i d r h=>by
 unfold Kf at h;cases hb:Nat.beq i 146 with
 |false=>rw[hb]at h;cases h
 |true=>
  rw[hb,cdt]at h;split at h
  ·rename_i x hx;simp only[ojE]at h;subst h;rw[nqE hb];exact call_o (x:=ii146) (by kernel_rfl) (by kernel_rfl) (by kernel_rfl) _ _ d hx
  ·cases h) k
def fZ:List UInt8:=[117,115,101,114]
def zrO:G.O:=⟨0,[],[],⟨[],[]⟩,[],[]⟩
def tV(w:List UInt8):G.T:=⟨1,⟨fZ,w⟩,zrO,[]⟩
def tA(f:G.Y)(l:List G.T):G.T:=⟨3,f,zrO,l⟩
def tC(o:G.O):G.T:=⟨2,⟨[],[]⟩,o,[]⟩
def niO:G.O:=⟨2,[],[],⟨wY,[110,105,108]⟩,[],[]⟩
def cnO(a b:G.O):G.O:=⟨4,[],[],⟨[],[]⟩,[],[a,b]⟩
def ObR(x:Rt):Prop:= ∃o:G.O,x=some [yR 2 o]∧osz o+aFf o≤20
def nmL(l:List (List UInt8)):Bool:=l.all fun w=>Nat.ble 1 w.length&&Nat.ble w.length 20
theorem nmL_at{l:List (List UInt8)}(h:nmL l=true){w:List UInt8}(hw:w∈l):1≤w.length∧w.length≤20:=by
 have:=List.all_eq_true.1 h w hw;simp only[bjE,Nat.ble_eq]at this;exact this
def chO(r:Rt):Bool:=match r with|some [⟨.rc 2,o⟩]=>Nat.ble (osz o+aFf o) 20|_=>false
theorem qS{r:Rt}(h:chO r=true):ObR r:=by
 unfold chO at h;split at h
 ·rename_i o;exact⟨o,rfl,Nat.le_of_ble_eq_true h⟩
 ·cases h
section
variable(L M:Nat)
theorem v_ok(w:List UInt8):cF L M 60 8 [yT w]=some [yR 3 (tV w)]:=by kernel_rfl
theorem l_ok(w:List UInt8)(l:List G.T):cF L M 60 9 [yT w,yS 3 l]=some [yR 3 (tA ⟨wY,w⟩ l)]:=by kernel_rfl
theorem a_ok(f:G.Y)(l:List G.T):cF L M 60 20 [yR 1 f,yS 3 l]=some [yR 3 (tA f l)]:=by kernel_rfl
theorem k_ok(o:G.O):cF L M 60 15 [yR 2 o]=some [yR 3 (tC o)]:=by kernel_rfl
theorem u_ok(w:List UInt8):cF L M 60 3 [yT w]=some [yR 1 ⟨fZ,w⟩]:=by kernel_rfl
theorem s_ok(w:List UInt8):cF L M 60 18 [yT w]=some [yR 1 ⟨wY,w⟩]:=by kernel_rfl
theorem cn_ok(a b:G.O):cF L M 60 48 [yR 2 a,yR 2 b]=some [yR 2 (cnO a b)]:=by kernel_rfl
theorem li0_ok:cF L M 60 49 [yS 2 []]=some [yR 2 niO]:=by kernel_rfl
theorem li1_ok(a:G.O):cF L M 60 49 [yS 2 ([a]:List G.O)]=some [yR 2 (cnO a niO)]:=by kernel_rfl
theorem li2_ok(a b:G.O):cF L M 60 49 [yS 2 ([a,b]:List G.O)]=some [yR 2 (cnO a (cnO b niO))]:=by kernel_rfl
theorem li3_ok(a b d:G.O):cF L M 60 49 [yS 2 ([a,b,d]:List G.O)]=some [yR 2 (cnO a (cnO b (cnO d niO)))]:=by kernel_rfl
theorem ob_n:ObR (cF L M 60 42 []):=qS (by kernel_rfl)
theorem ob_t:ObR (cF L M 60 43 []):=qS (by kernel_rfl)
theorem ob_i(r:Int)(h0:0≤r)(h1:r<7):ObR (cF L M 60 44 [yI (IntKind.i64.wrap (r-3))]):=by
 obtain rfl|rfl|rfl|rfl|rfl|rfl|rfl:r=0∨r=1∨r=2∨r=3∨r=4∨r=5∨r=6:=by omega
 all_goals exact qS (by kernel_rfl)
theorem ob_0:ObR (cF L M 60 44 [yI (0:Int)]):=qS (by kernel_rfl)
theorem ob_1:ObR (cF L M 60 44 [yI (1:Int)]):=qS (by kernel_rfl)
theorem ob_q1:ObR (cF L M 60 45 [yT ([49]:List UInt8),yT ([50]:List UInt8)]):=qS (by kernel_rfl)
theorem ob_q2:ObR (cF L M 60 45 [yT ([45,53]:List UInt8),yT ([51]:List UInt8)]):=qS (by kernel_rfl)
theorem ob_s1(y:G.Y)(h:aAy y=true):ObR (cF L M 60 46 [yR 1 y]):=⟨⟨2,[],[],y,[],[]⟩,by kernel_rfl,by simp[osz,mU,badO_y,wS,h,zB]⟩
theorem ob_x(w:List UInt8)(h:okX w=true):ObR (cF L M 60 47 [yT w]):=⟨⟨3,[],[],⟨[],[]⟩,w,[]⟩,by kernel_rfl,by simp[osz,mU,badO_x,h,bad0x3]⟩
theorem hd_ok: ∃l:List (List UInt8),cF L M 60 16 []=some [⟨.sl .str,l⟩]∧l.length=25∧nmL l=true:=⟨match B16x0 (fun _ _=>none)with|some (⟨.sl .str,t⟩::_)=>t|_=>[],by kernel_rfl,by kernel_rfl,by kernel_rfl⟩
theorem ow_ok: ∃l:List (List UInt8),cF L M 60 17 []=some [⟨.sl .str,l⟩]∧l.length=8∧nmL l=true:=⟨match B17x0 (fun _ _=>none)with|some (⟨.sl .str,t⟩::_)=>t|_=>[],by kernel_rfl,by kernel_rfl,by kernel_rfl⟩
end
structure Lib(c:TC0):Prop where
 v: ∀w,c 8 [yT w]=some [yR 3 (tV w)]
 l: ∀w (l:List G.T),c 9 [yT w,yS 3 l]=some [yR 3 (tA ⟨wY,w⟩ l)]
 a: ∀(f:G.Y) (l:List G.T),c 20 [yR 1 f,yS 3 l]=some [yR 3 (tA f l)]
 k: ∀o:G.O,c 15 [yR 2 o]=some [yR 3 (tC o)]
 u: ∀w,c 3 [yT w]=some [yR 1 (⟨fZ,w⟩:G.Y)]
 s: ∀w,c 18 [yT w]=some [yR 1 (⟨wY,w⟩:G.Y)]
 cn: ∀a b:G.O,c 48 [yR 2 a,yR 2 b]=some [yR 2 (cnO a b)]
 l0:c 49 [yS 2 ([]:List G.O)]=some [yR 2 niO]
 l1: ∀a:G.O,c 49 [yS 2 ([a]:List G.O)]=some [yR 2 (cnO a niO)]
 l2: ∀a b:G.O,c 49 [yS 2 ([a,b]:List G.O)]=some [yR 2 (cnO a (cnO b niO))]
 l3: ∀a b d:G.O,c 49 [yS 2 ([a,b,d]:List G.O)]=some [yR 2 (cnO a (cnO b (cnO d niO)))]
 n:ObR (c 42 [])
 t:ObR (c 43 [])
 i: ∀r:Int,0≤r→r<7→ObR (c 44 [yI (IntKind.i64.wrap (r-3))])
 i0:ObR (c 44 [yI (0:Int)])
 i1:ObR (c 44 [yI (1:Int)])
 q1:ObR (c 45 [yT ([49]:List UInt8),yT ([50]:List UInt8)])
 q2:ObR (c 45 [yT ([45,53]:List UInt8),yT ([51]:List UInt8)])
 sy: ∀y:G.Y,aAy y=true→ObR (c 46 [yR 1 y])
 x: ∀w,okX w=true→ObR (c 47 [yT w])
 hd: ∃l:List (List UInt8),c 16 []=some [⟨.sl .str,l⟩]∧l.length=25∧nmL l=true
 ow: ∃l:List (List UInt8),c 17 []=some [⟨.sl .str,l⟩]∧l.length=8∧nmL l=true
 nx: ∀(s:G.Z) (a:Int),cO s→1≤a→NxR (c 4 [yI a,yR 0 s]) a
theorem lib_ok(L M:Nat):Lib (CTp (L+7000) (M+60)):=by
 have h: ∀(s:G.Z) (a:Int),cO s→1≤a→NxR (CTp (L+7000) (M+60) 4 [yI a,yR 0 s]) a:=fun s a h1 h2=>Nx_ok (n:=M+59) h1 h2
 rw[←cF_ok]at h⊢;exact⟨v_ok L M,l_ok L M,a_ok L M,k_ok L M,u_ok L M,s_ok L M,cn_ok L M,li0_ok L M,li1_ok L M,li2_ok L M,li3_ok L M,ob_n L M,ob_t L M,ob_i L M,ob_0 L M,ob_1 L M,ob_q1 L M,ob_q2 L M,ob_s1 L M,ob_x L M,hd_ok L M,ow_ok L M,h⟩
end Go.TV
