import Derived.Test.YtojjcdpfjabepaaGreatDoorKo
import Derived.Test.YtojjcdpfjabepaaGreatDoorKp
import Derived.Test.YtojjcdpfjabepaaGreatDoorKm
set_option linter.unusedVariables false
set_option linter.unusedSimpArgs false
set_option linter.constructorNameAsVariable false
namespace Go.TV
open Go.AI Go.PI Go.Proofs
set_option maxRecDepth 20000
noncomputable section
variable(c:TC0)(e:Cu)(L:Nat)
def q106x0(c:TC0)(e:Cu):Kt:=xK mS
def q106x1(c:TC0)(e:Cu):Kt:=xT mS c e [1,1,1,1] (q106x0 c e)
def zF(c:TC0)(e:Cu):Kt:=eX U0 0 (q106x1 c e)
def q106x3(c:TC0)(e:Cu)(n1:Nt):Kt:=lpK U0 lZ n1 (zF c e)
def q106x4(c:TC0)(e:Cu)(n1:Nt):Kt:=xT mS c e [1,1,1,0,1,0,0,1] (q106x3 c e n1)
def B106x0(c:TC0)(e1:List G.T→Int→Int→Int→Rt)(a0:G.T)(a1:Int):Rt:=
 obL [zS 3] (c 122 [yR 3 a0]) fun(r0:List G.T×Unit)=>
 e1 r0.1 a1 (0:Int) (0:Int)
def V106x0(n:Nt):G.T→Int→Rt:=fun x0 x1=>n [yR 3 x0,yI x1]
def B106x1(c:TC0)(k2:Bool→Int→List G.T→Int→Int→Rt)(a6:List G.T)(a1:Int)(a7:Int)(a5:Int):Rt:=
 cnd (decide (a7<(List.length a6:Int))) (k2 (decide ((1:Int)<a1)) a7 a6 a1 a5) (k2 false a7 a6 a1 a5)
def vG(n:Nt):List G.T→Int→Int→Int→Rt:=fun x0 x1 x2 x3=>n [yS 3 x0,yI x1,yI x2,yI x3]
def X106x1:=vG (xE mS e [1,1,1,0,1,0,0] lZ (zF c e))
def B106x2(c:TC0)(n1:List G.T→Int→Int→Int→Rt)(a17:Bool)(a7:Int)(a6:List G.T)(a1:Int)(a5:Int):Rt:=
 cnd a17 (ob (idx a6 a7) fun v0=>
 obL [i6] (c 106 [yR 3 v0,yI (IntKind.i64.wrap (a1-(1:Int)))]) fun(r1:Int×Unit)=>
 n1 a6 a1 (IntKind.i64.wrap (a7+(1:Int))) (bif decide (a5<r1.1)then r1.1 else a5)) (some [yI (IntKind.i64.wrap (a5+(1:Int)))])
def V106x2(n:Nt):Bool→Int→List G.T→Int→Int→Rt:=fun x0 x1 x2 x3 x4=>n [yB x0,yI x1,yS 3 x2,yI x3,yI x4]
def aEw(n1:Nt):=V106x2 (xD mS e [1,1,1,0,1,0,0,0,1,0] xP (q106x4 c e n1))
theorem s106x0:V106x0 (xF mS c e)=B106x0 c (X106x1 c e):=by kernel_rfl
theorem s106x1(n1:Nt):vG (xA mS c e [1,1,1,0,1,0,0] lZ (lpK U0 lZ n1 (zF c e)))=B106x1 c (aEw c e n1):=by kernel_rfl
theorem s106x2(n1:Nt):V106x2 (xA mS c e [1,1,1,0,1,0,0,0,1,0] xP (q106x4 c e n1))=B106x2 c (vG n1):=by kernel_rfl
def J106x2(c:TC0)(L:Nat)(n1:List G.T→Int→Int→Int→Rt):Bool→Int→List G.T→Int→Int→Rt:=B106x2 c n1
theorem j106x2(n1:Nt):aEw c (cu c L) n1=J106x2 c L (vG n1):=by rw[aEw,bK,s106x2];rfl
def aAR(c:TC0)(L:Nat):Nat→List G.T→Int→Int→Int→Rt
 |0=>fun _ _ _ _=>none
 |n+1=>B106x1 c (J106x2 c L (aAR c L n))
theorem u106x1(n:Nat):vG (xL mS c L [1,1,1,0,1,0,0] lZ (zF c (cu c L)) n)=aAR c L n:=by
 induction n with
 |zero=>rfl
 |succ n ih=>rw[kY,s106x1];simp only[j106x2,ih];rfl
theorem w106x1:X106x1 c (cu c L)=aAR c L L:=u106x1 c L L
def F106(c:TC0)(L:Nat):G.T→Int→Rt:=B106x0 c (aAR c L L)
theorem e106:V106x0 (xF mS c (cu c L))=F106 c L:=by rw[s106x0];simp only[w106x1];rfl
theorem c106(a0:G.T)(a1:Int)(L n:Nat):CTp L (n+1) 106 [yR 3 a0,yI a1]=F106 (CTp L n) L a0 a1:=by rw[←e106];exact cg (x:=mS) (by kernel_rfl) (by kernel_rfl) L n _
def q107x0(c:TC0)(e:Cu):Kt:=xK wT
def B107x0(c:TC0)(k1:Bool→Rt)(a0:G.O):Rt:=
 obL [i6] (c 59 [yR 2 a0]) fun(r0:Int×Unit)=>
 cnd (decide (r0.1≤(3000:Int))) (obL [.bool] (c 123 [yR 2 a0]) fun(r1:Bool×Unit)=>
 k1 r1.1) (k1 false)
def V107x0(n:Nt):G.O→Rt:=fun x0=>n [yR 2 x0]
def B107x1(c:TC0)(a2:Bool):Rt:=
 some [yB a2]
def V107x1(n:Nt):Bool→Rt:=fun x0=>n [yB x0]
def aEv:=V107x1 (xD wT e [1,1,0] xO (q107x0 c e))
theorem s107x0:V107x0 (xF wT c e)=B107x0 c (aEv c e):=by kernel_rfl
theorem s107x1:V107x1 (xA wT c e [1,1,0] xO (q107x0 c e))=B107x1 c:=by kernel_rfl
def J107x1(c:TC0)(L:Nat):Bool→Rt:=B107x1 c
theorem j107x1:aEv c (cu c L)=J107x1 c L:=by rw[aEv,bK,s107x1];rfl
def F107(c:TC0)(L:Nat):G.O→Rt:=B107x0 c (J107x1 c L)
theorem e107:V107x0 (xF wT c (cu c L))=F107 c L:=by rw[s107x0];simp only[j107x1];rfl
theorem c107(a0:G.O)(L n:Nat):CTp L (n+1) 107 [yR 2 a0]=F107 (CTp L n) L a0:=by rw[←e107];exact cg (x:=wT) (by kernel_rfl) (by kernel_rfl) L n _
def q114x0(c:TC0)(e:Cu):Kt:=xK wS
def B114x0(c:TC0)(k1:Bool→Rt)(a0:G.Y):Rt:=
 obL [.bool] (c 129 [yT a0.package]) fun(r0:Bool×Unit)=>
 cnd r0.1 (cnd (decide ((1:Int)≤(List.length a0.name:Int))) (k1 (decide ((List.length a0.name:Int)≤(40:Int)))) (k1 false)) (k1 false)
def V114x0(n:Nt):G.Y→Rt:=fun x0=>n [yR 1 x0]
def B114x1(c:TC0)(a2:Bool):Rt:=
 some [yB a2]
def V114x1(n:Nt):Bool→Rt:=fun x0=>n [yB x0]
def aEu:=V114x1 (xD wS e [1,1,0] xN (q114x0 c e))
theorem s114x0:V114x0 (xF wS c e)=B114x0 c (aEu c e):=by kernel_rfl
theorem s114x1:V114x1 (xA wS c e [1,1,0] xN (q114x0 c e))=B114x1 c:=by kernel_rfl
def J114x1(c:TC0)(L:Nat):Bool→Rt:=B114x1 c
theorem j114x1:aEu c (cu c L)=J114x1 c L:=by rw[aEu,bK,s114x1];rfl
def F114(c:TC0)(L:Nat):G.Y→Rt:=B114x0 c (J114x1 c L)
theorem e114:V114x0 (xF wS c (cu c L))=F114 c L:=by rw[s114x0];simp only[j114x1];rfl
theorem c114(a0:G.Y)(L n:Nat):CTp L (n+1) 114 [yR 1 a0]=F114 (CTp L n) L a0:=by rw[←e114];exact cg (x:=wS) (by kernel_rfl) (by kernel_rfl) L n _
def q120x0(c:TC0)(e:Cu):Kt:=xK rT
def q120x1(c:TC0)(e:Cu):Kt:=xT rT c e [1,1,1,1] (q120x0 c e)
def aCz(c:TC0)(e:Cu):Kt:=eX U0 0 (q120x1 c e)
def B120x0(c:TC0)(e1:List G.R→Int→G.Y→Rt)(a0:G.Y):Rt:=
 cnd (!decide (a0.package=([108,105,115,112]:List UInt8))) (some [yI (0:Int),yB false]) (obL [zS 21] (c 64 []) fun(r0:List G.R×Unit)=>
 e1 r0.1 (0:Int) a0)
def V120x0(n:Nt):G.Y→Rt:=fun x0=>n [yR 1 x0]
def B120x1(c:TC0)(n1:List G.R→Int→G.Y→Rt)(a4:List G.R)(a5:Int)(b101:G.Y):Rt:=
 cnd (decide (a5<(List.length a4:Int))) (ob (idx a4 a5) fun v0=>
 cnd (decide (v0.name=b101.name)) (ob (idx a4 a5) fun v1=>
 some [yI v1.arity,yB true]) (n1 a4 (IntKind.i64.wrap (a5+(1:Int))) b101)) (some [yI (0:Int),yB false])
def aAU(n:Nt):List G.R→Int→G.Y→Rt:=fun x0 x1 x2=>n [yS 21 x0,yI x1,yR 1 x2]
def X120x1:=aAU (xE rT e [1,1,1,0,1,0,0] oD (aCz c e))
theorem s120x0:V120x0 (xF rT c e)=B120x0 c (X120x1 c e):=by kernel_rfl
theorem s120x1(n1:Nt):aAU (xA rT c e [1,1,1,0,1,0,0] oD (lpK U0 oD n1 (aCz c e)))=B120x1 c (aAU n1):=by kernel_rfl
def aAQ(c:TC0)(L:Nat):Nat→List G.R→Int→G.Y→Rt
 |0=>fun _ _ _=>none
 |n+1=>B120x1 c (aAQ c L n)
theorem u120x1(n:Nat):aAU (xL rT c L [1,1,1,0,1,0,0] oD (aCz c (cu c L)) n)=aAQ c L n:=by
 induction n with
 |zero=>rfl
 |succ n ih=>rw[kY,s120x1];simp only[ih];rfl
theorem w120x1:X120x1 c (cu c L)=aAQ c L L:=u120x1 c L L
def F120(c:TC0)(L:Nat):G.Y→Rt:=B120x0 c (aAQ c L L)
theorem e120:V120x0 (xF rT c (cu c L))=F120 c L:=by rw[s120x0];simp only[w120x1];rfl
theorem c120(a0:G.Y)(L n:Nat):CTp L (n+1) 120 [yR 1 a0]=F120 (CTp L n) L a0:=by rw[←e120];exact cg (x:=rT) (by kernel_rfl) (by kernel_rfl) L n _
def B121x0(c:TC0)(a0:List G.E)(a1:G.Y):Rt:=
 obL [i6,i6,.bool] (c 130 [yS 16 a0,yR 1 a1]) fun(r0:Int×Int×Bool×Unit)=>
 cnd (!r0.2.2.1) (some [yR 8 (G.F.mk (G.Y.mk ([]:List UInt8) ([]:List UInt8)) ([]:List G.Y) (0:Int) (G.T.mk (0:Int) (G.Y.mk ([]:List UInt8) ([]:List UInt8)) (G.O.mk (0:Int) ([]:List UInt8) ([]:List UInt8) (G.Y.mk ([]:List UInt8) ([]:List UInt8)) ([]:List UInt8) ([]:List G.O)) ([]:List G.T)) (G.T.mk (0:Int) (G.Y.mk ([]:List UInt8) ([]:List UInt8)) (G.O.mk (0:Int) ([]:List UInt8) ([]:List UInt8) (G.Y.mk ([]:List UInt8) ([]:List UInt8)) ([]:List UInt8) ([]:List G.O)) ([]:List G.T)) (G.T.mk (0:Int) (G.Y.mk ([]:List UInt8) ([]:List UInt8)) (G.O.mk (0:Int) ([]:List UInt8) ([]:List UInt8) (G.Y.mk ([]:List UInt8) ([]:List UInt8)) ([]:List UInt8) ([]:List G.O)) ([]:List G.T))),yB false]) (ob (idx a0 r0.1) fun v1=>
 obL [zS 8] (c 131 [yR 16 v1]) fun(r2:List G.F×Unit)=>
 ob (idx r2.1 r0.2.1) fun v3=>
 some [yR 8 v3,yB true])
def V121x0(n:Nt):List G.E→G.Y→Rt:=fun x0 x1=>n [yS 16 x0,yR 1 x1]
theorem s121x0:V121x0 (xF ii121 c e)=B121x0 c:=by kernel_rfl
def F121(c:TC0)(L:Nat):List G.E→G.Y→Rt:=B121x0 c
theorem e121:V121x0 (xF ii121 c (cu c L))=F121 c L:=s121x0 _ _
theorem c121(a0:List G.E)(a1:G.Y)(L n:Nat):CTp L (n+1) 121 [yS 16 a0,yR 1 a1]=F121 (CTp L n) L a0 a1:=by rw[←e121];exact cg (x:=ii121) (by kernel_rfl) (by kernel_rfl) L n _
def B122x0(c:TC0)(a0:G.T):Rt:=
 cnd (!decide (a0.kind=(3:Int))) (some [yS 3 ([]:List G.T)]) (some [yS 3 a0.args])
def V122x0(n:Nt):G.T→Rt:=fun x0=>n [yR 3 x0]
theorem s122x0:V122x0 (xF ii122 c e)=B122x0 c:=by kernel_rfl
def F122(c:TC0)(L:Nat):G.T→Rt:=B122x0 c
theorem e122:V122x0 (xF ii122 c (cu c L))=F122 c L:=s122x0 _ _
theorem c122(a0:G.T)(L n:Nat):CTp L (n+1) 122 [yR 3 a0]=F122 (CTp L n) L a0:=by rw[←e122];exact cg (x:=ii122) (by kernel_rfl) (by kernel_rfl) L n _
def q123x0(c:TC0)(e:Cu):Kt:=xK kQ
def q123x1(c:TC0)(e:Cu):Kt:=xT kQ c e [1,1,1] (q123x0 c e)
def mI(c:TC0)(e:Cu):Kt:=eX U0 0 (q123x1 c e)
def B123x0(c:TC0)(k1:Bool→Rt)(k2:Bool→Rt)(k3:Bool→Rt)(k4:Bool→Rt)(a0:G.O):Rt:=
 cnd (decide (a0.kind=(1:Int))) (obL [.str,.str] (c 87 [yT a0.num,yT a0.den]) fun(r0:List UInt8×List UInt8×Unit)=>
 cnd (decide (a0.sym=(G.Y.mk ([]:List UInt8) ([]:List UInt8)))) (cnd (decide (a0.text=([]:List UInt8))) (cnd (decide ((List.length a0.pair:Int)=(0:Int))) (cnd (decide (r0.1=a0.num)) (cnd (decide (r0.2.1=a0.den)) (obL [i6] (c 97 [yT r0.1]) fun(r1:Int×Unit)=>
 cnd (decide (r1.1≤(100:Int))) (obL [i6] (c 97 [yT r0.2.1]) fun(r2:Int×Unit)=>
 k1 (decide (r2.1≤(100:Int)))) (k1 false)) (k1 false)) (k1 false)) (k1 false)) (k1 false)) (k1 false)) (cnd (decide (a0.kind=(2:Int))) (obL [.bool] (c 114 [yR 1 a0.sym]) fun(r3:Bool×Unit)=>
 cnd r3.1 (cnd (decide (a0.num=([]:List UInt8))) (cnd (decide (a0.den=([]:List UInt8))) (cnd (decide (a0.text=([]:List UInt8))) (k2 (decide ((List.length a0.pair:Int)=(0:Int)))) (k2 false)) (k2 false)) (k2 false)) (k2 false)) (cnd (decide (a0.kind=(3:Int))) (cnd (decide (a0.sym=(G.Y.mk ([]:List UInt8) ([]:List UInt8)))) (cnd (decide (a0.num=([]:List UInt8))) (cnd (decide (a0.den=([]:List UInt8))) (cnd (decide ((List.length a0.text:Int)≤(200:Int))) (k3 (decide ((List.length a0.pair:Int)=(0:Int)))) (k3 false)) (k3 false)) (k3 false)) (k3 false)) (cnd (decide (a0.kind=(4:Int))) (cnd (decide (a0.sym=(G.Y.mk ([]:List UInt8) ([]:List UInt8)))) (cnd (decide (a0.num=([]:List UInt8))) (cnd (decide (a0.den=([]:List UInt8))) (cnd (decide (a0.text=([]:List UInt8))) (cnd (decide ((List.length a0.pair:Int)=(2:Int))) (ob (idx a0.pair (0:Int)) fun v4=>
 obL [.bool] (c 123 [yR 2 v4]) fun(r5:Bool×Unit)=>
 cnd r5.1 (ob (idx a0.pair (1:Int)) fun v6=>
 obL [.bool] (c 123 [yR 2 v6]) fun(r7:Bool×Unit)=>
 k4 r7.1) (k4 false)) (k4 false)) (k4 false)) (k4 false)) (k4 false)) (k4 false)) (some [yB false]))))
def V123x0(n:Nt):G.O→Rt:=fun x0=>n [yR 2 x0]
def B123x1(c:TC0)(a2:Bool):Rt:=
 some [yB a2]
def V123x1(n:Nt):Bool→Rt:=fun x0=>n [yB x0]
def aEt:=V123x1 (xD kQ e [1,1,0,1,0,1,0,1,1,0] xM (mI c e))
def B123x2(c:TC0)(a2:Bool):Rt:=
 some [yB a2]
def V123x2(n:Nt):Bool→Rt:=fun x0=>n [yB x0]
def aEs:=V123x2 (xD kQ e [1,1,0,1,0,1,1,1,0,1,0] xJ (mI c e))
def B123x3(c:TC0)(a2:Bool):Rt:=
 some [yB a2]
def V123x3(n:Nt):Bool→Rt:=fun x0=>n [yB x0]
def aEr:=V123x3 (xD kQ e [1,1,0,1,0,1,1,1,1,1,0,1,0] xI (mI c e))
def B123x4(c:TC0)(a2:Bool):Rt:=
 some [yB a2]
def V123x4(n:Nt):Bool→Rt:=fun x0=>n [yB x0]
def aEq:=V123x4 (xD kQ e [1,1,0,1,0,1,1,1,1,1,1,1,0,1,0] xH (mI c e))
theorem s123x0:V123x0 (xF kQ c e)=B123x0 c (aEt c e) (aEs c e) (aEr c e) (aEq c e):=by kernel_rfl
theorem s123x1:V123x1 (xA kQ c e [1,1,0,1,0,1,0,1,1,0] xM (mI c e))=B123x1 c:=by kernel_rfl
theorem s123x2:V123x2 (xA kQ c e [1,1,0,1,0,1,1,1,0,1,0] xJ (mI c e))=B123x2 c:=by kernel_rfl
theorem s123x3:V123x3 (xA kQ c e [1,1,0,1,0,1,1,1,1,1,0,1,0] xI (mI c e))=B123x3 c:=by kernel_rfl
theorem s123x4:V123x4 (xA kQ c e [1,1,0,1,0,1,1,1,1,1,1,1,0,1,0] xH (mI c e))=B123x4 c:=by kernel_rfl
def J123x1(c:TC0)(L:Nat):Bool→Rt:=B123x1 c
theorem j123x1:aEt c (cu c L)=J123x1 c L:=by rw[aEt,bK,s123x1];rfl
def J123x2(c:TC0)(L:Nat):Bool→Rt:=B123x2 c
theorem j123x2:aEs c (cu c L)=J123x2 c L:=by rw[aEs,bK,s123x2];rfl
def J123x3(c:TC0)(L:Nat):Bool→Rt:=B123x3 c
theorem j123x3:aEr c (cu c L)=J123x3 c L:=by rw[aEr,bK,s123x3];rfl
def J123x4(c:TC0)(L:Nat):Bool→Rt:=B123x4 c
theorem j123x4:aEq c (cu c L)=J123x4 c L:=by rw[aEq,bK,s123x4];rfl
def F123(c:TC0)(L:Nat):G.O→Rt:=B123x0 c (J123x1 c L) (J123x2 c L) (J123x3 c L) (J123x4 c L)
theorem e123:V123x0 (xF kQ c (cu c L))=F123 c L:=by rw[s123x0];simp only[j123x1,j123x2,j123x3,j123x4];rfl
theorem c123(a0:G.O)(L n:Nat):CTp L (n+1) 123 [yR 2 a0]=F123 (CTp L n) L a0:=by rw[←e123];exact cg (x:=kQ) (by kernel_rfl) (by kernel_rfl) L n _
def q129x0(c:TC0)(e:Cu):Kt:=xK jR
def q129x1(c:TC0)(e:Cu):Kt:=xT jR c e [1,1] (q129x0 c e)
def q129x2(c:TC0)(e:Cu):Kt:=xT jR c e [1,1,1] (q129x0 c e)
def zE(c:TC0)(e:Cu):Kt:=eX U0 0 (q129x2 c e)
def q129x4(c:TC0)(e:Cu)(n2:Nt):Kt:=lpK U0 lY n2 (zE c e)
def q129x5(c:TC0)(e:Cu)(n2:Nt):Kt:=xT jR c e [1,1,0,1,0,0,1,1] (q129x4 c e n2)
def q129x6(c:TC0)(e:Cu)(n2:Nt):Kt:=eX U0 1 (q129x5 c e n2)
def B129x0(c:TC0)(k1:Bool→List UInt8→Rt)(a0:List UInt8):Rt:=
 cnd (decide ((List.length a0:Int)<(1:Int))) (k1 true a0) (cnd (decide ((40:Int)<(List.length a0:Int))) (k1 true a0) (ob (idx a0 (0:Int)) fun v0=>
 cnd (decide ((v0.toNat:Int)<(97:Int))) (k1 true a0) (ob (idx a0 (0:Int)) fun v1=>
 k1 (decide ((122:Int)<(v1.toNat:Int))) a0)))
def V129x0(n:Nt):List UInt8→Rt:=fun x0=>n [yT x0]
def B129x1(c:TC0)(e2:List UInt8→Int→Rt)(a22:Bool)(a0:List UInt8):Rt:=
 cnd a22 (some [yB false]) (e2 a0 (0:Int))
def V129x1(n:Nt):Bool→List UInt8→Rt:=fun x0 x1=>n [yB x0,yT x1]
def aEp:=V129x1 (xD jR e [1,0,1,0] xG (q129x1 c e))
def B129x2(c:TC0)(k3:Bool→Int→List UInt8→Rt)(a0:List UInt8)(a3:Int):Rt:=
 cnd (decide (a3<(List.length a0:Int))) (ob (idx a0 a3) fun v0=>
 cnd (decide ((v0.toNat:Int)<(97:Int))) (cnd (decide ((v0.toNat:Int)<(48:Int))) (k3 (!decide ((v0.toNat:Int)=(45:Int))) a3 a0) (cnd (decide ((57:Int)<(v0.toNat:Int))) (k3 (!decide ((v0.toNat:Int)=(45:Int))) a3 a0) (k3 false a3 a0))) (cnd (decide ((122:Int)<(v0.toNat:Int))) (cnd (decide ((v0.toNat:Int)<(48:Int))) (k3 (!decide ((v0.toNat:Int)=(45:Int))) a3 a0) (cnd (decide ((57:Int)<(v0.toNat:Int))) (k3 (!decide ((v0.toNat:Int)=(45:Int))) a3 a0) (k3 false a3 a0))) (k3 false a3 a0))) (some [yB true])
def vF(n:Nt):List UInt8→Int→Rt:=fun x0 x1=>n [yT x0,yI x1]
def X129x2:=vF (xE jR e [1,1,0,1,0,0] lY (zE c e))
def B129x3(c:TC0)(n2:List UInt8→Int→Rt)(a49:Bool)(a3:Int)(a0:List UInt8):Rt:=
 cnd a49 (some [yB false]) (n2 a0 (IntKind.i64.wrap (a3+(1:Int))))
def V129x3(n:Nt):Bool→Int→List UInt8→Rt:=fun x0 x1 x2=>n [yB x0,yI x1,yT x2]
def aEo(n2:Nt):=V129x3 (xD jR e [1,1,0,1,0,0,1,0,0,1,1,0] xB (q129x6 c e n2))
theorem s129x0:V129x0 (xF jR c e)=B129x0 c (aEp c e):=by kernel_rfl
theorem s129x1:V129x1 (xA jR c e [1,0,1,0] xG (q129x1 c e))=B129x1 c (X129x2 c e):=by kernel_rfl
theorem s129x2(n2:Nt):vF (xA jR c e [1,1,0,1,0,0] lY (lpK U0 lY n2 (zE c e)))=B129x2 c (aEo c e n2):=by kernel_rfl
theorem s129x3(n2:Nt):V129x3 (xA jR c e [1,1,0,1,0,0,1,0,0,1,1,0] xB (q129x6 c e n2))=B129x3 c (vF n2):=by kernel_rfl
def J129x3(c:TC0)(L:Nat)(n2:List UInt8→Int→Rt):Bool→Int→List UInt8→Rt:=B129x3 c n2
theorem j129x3(n2:Nt):aEo c (cu c L) n2=J129x3 c L (vF n2):=by rw[aEo,bK,s129x3];rfl
def aAP(c:TC0)(L:Nat):Nat→List UInt8→Int→Rt
 |0=>fun _ _=>none
 |n+1=>B129x2 c (J129x3 c L (aAP c L n))
theorem u129x2(n:Nat):vF (xL jR c L [1,1,0,1,0,0] lY (zE c (cu c L)) n)=aAP c L n:=by
 induction n with
 |zero=>rfl
 |succ n ih=>rw[kY,s129x2];simp only[j129x3,ih];rfl
theorem w129x2:X129x2 c (cu c L)=aAP c L L:=u129x2 c L L
def J129x1(c:TC0)(L:Nat):Bool→List UInt8→Rt:=B129x1 c (aAP c L L)
theorem j129x1:aEp c (cu c L)=J129x1 c L:=by rw[aEp,bK,s129x1];simp only[w129x2];rfl
def F129(c:TC0)(L:Nat):List UInt8→Rt:=B129x0 c (J129x1 c L)
theorem e129:V129x0 (xF jR c (cu c L))=F129 c L:=by rw[s129x0];simp only[j129x1];rfl
theorem c129(a0:List UInt8)(L n:Nat):CTp L (n+1) 129 [yT a0]=F129 (CTp L n) L a0:=by rw[←e129];exact cg (x:=jR) (by kernel_rfl) (by kernel_rfl) L n _
def q130x0(c:TC0)(e:Cu):Kt:=xK lQ
def q130x1(c:TC0)(e:Cu):Kt:=xT lQ c e [1,1] (q130x0 c e)
def zD(c:TC0)(e:Cu):Kt:=eX U0 0 (q130x1 c e)
def q130x3(c:TC0)(e:Cu)(n1:Nt):Kt:=lpK U0 lX n1 (zD c e)
def q130x4(c:TC0)(e:Cu)(n1:Nt):Kt:=xT lQ c e [1,0,1,0,0,1,1] (q130x3 c e n1)
def q130x5(c:TC0)(e:Cu)(n1:Nt):Kt:=eX U0 1 (q130x4 c e n1)
def aCy(c:TC0)(e:Cu)(n1:Nt):Kt:=eX U0 2 (q130x5 c e n1)
def B130x0(c:TC0)(e1:List G.E→Int→G.Y→Rt)(a0:List G.E)(a1:G.Y):Rt:=
 e1 a0 (0:Int) a1
def V130x0(n:Nt):List G.E→G.Y→Rt:=fun x0 x1=>n [yS 16 x0,yR 1 x1]
def B130x1(c:TC0)(e2:List G.F→Int→Int→List G.E→G.Y→Rt)(a0:List G.E)(a7:Int)(b103:G.Y):Rt:=
 cnd (decide (a7<(List.length a0:Int))) (ob (idx a0 a7) fun v0=>
 obL [zS 8] (c 131 [yR 16 v0]) fun(r1:List G.F×Unit)=>
 e2 r1.1 (0:Int) a7 a0 b103) (some [yI (0:Int),yI (0:Int),yB false])
def qM(n:Nt):List G.E→Int→G.Y→Rt:=fun x0 x1 x2=>n [yS 16 x0,yI x1,yR 1 x2]
def X130x1:=qM (xE lQ e [1,0,1,0,0] lX (zD c e))
def B130x2(c:TC0)(n2:List G.F→Int→Int→List G.E→G.Y→Rt)(n1:List G.E→Int→G.Y→Rt)(a8:List G.F)(a9:Int)(a7:Int)(a0:List G.E)(b103:G.Y):Rt:=
 cnd (decide (a9<(List.length a8:Int))) (ob (idx a8 a9) fun v0=>
 cnd (decide (v0.name=b103)) (some [yI a7,yI a9,yB true]) (n2 a8 (IntKind.i64.wrap (a9+(1:Int))) a7 a0 b103)) (n1 a0 (IntKind.i64.wrap (a7+(1:Int))) b103)
def aAT(n:Nt):List G.F→Int→Int→List G.E→G.Y→Rt:=fun x0 x1 x2 x3 x4=>n [yS 8 x0,yI x1,yI x2,yS 16 x3,yR 1 x4]
def X130x2(n1:Nt):=aAT (xE lQ e [1,0,1,0,0,1,0,0,1,1,0,0] oC (aCy c e n1))
theorem s130x0:V130x0 (xF lQ c e)=B130x0 c (X130x1 c e):=by kernel_rfl
theorem s130x1(n1:Nt):qM (xA lQ c e [1,0,1,0,0] lX (lpK U0 lX n1 (zD c e)))=B130x1 c (X130x2 c e n1):=by kernel_rfl
theorem s130x2(n2:Nt)(n1:Nt):aAT (xA lQ c e [1,0,1,0,0,1,0,0,1,1,0,0] oC (lpK U0 oC n2 (aCy c e n1)))=B130x2 c (aAT n2) (qM n1):=by kernel_rfl
def aAN(c:TC0)(L:Nat)(n1:List G.E→Int→G.Y→Rt):Nat→List G.F→Int→Int→List G.E→G.Y→Rt
 |0=>fun _ _ _ _ _=>none
 |n+1=>B130x2 c (aAN c L n1 n) n1
theorem u130x2(n1:Nt)(n:Nat):aAT (xL lQ c L [1,0,1,0,0,1,0,0,1,1,0,0] oC (aCy c (cu c L) n1) n)=aAN c L (qM n1) n:=by
 induction n with
 |zero=>rfl
 |succ n ih=>rw[kY,s130x2];simp only[ih];rfl
theorem w130x2(n1:Nt):X130x2 c (cu c L) n1=aAN c L (qM n1) L:=u130x2 c L n1 L
def aAO(c:TC0)(L:Nat):Nat→List G.E→Int→G.Y→Rt
 |0=>fun _ _ _=>none
 |n+1=>B130x1 c (aAN c L (aAO c L n) L)
theorem u130x1(n:Nat):qM (xL lQ c L [1,0,1,0,0] lX (zD c (cu c L)) n)=aAO c L n:=by
 induction n with
 |zero=>rfl
 |succ n ih=>rw[kY,s130x1];simp only[w130x2,ih];rfl
theorem w130x1:X130x1 c (cu c L)=aAO c L L:=u130x1 c L L
def F130(c:TC0)(L:Nat):List G.E→G.Y→Rt:=B130x0 c (aAO c L L)
theorem e130:V130x0 (xF lQ c (cu c L))=F130 c L:=by rw[s130x0];simp only[w130x1];rfl
theorem c130(a0:List G.E)(a1:G.Y)(L n:Nat):CTp L (n+1) 130 [yS 16 a0,yR 1 a1]=F130 (CTp L n) L a0 a1:=by rw[←e130];exact cg (x:=lQ) (by kernel_rfl) (by kernel_rfl) L n _
def q131x0(c:TC0)(e:Cu):Kt:=xK uB
def q131x1(c:TC0)(e:Cu):Kt:=xT uB c e [1,1] (q131x0 c e)
def q131x2(c:TC0)(e:Cu):Kt:=eX U0 0 (q131x1 c e)
def B131x0(c:TC0)(k1:Bool→G.E→Rt)(a0:G.E):Rt:=
 cnd (decide (a0.kind=(3:Int))) (k1 (decide (a0.kind=(3:Int))) a0) (cnd (decide (a0.kind=(5:Int))) (k1 (decide (a0.kind=(5:Int))) a0) (cnd (decide (a0.kind=(6:Int))) (k1 (decide (a0.kind=(6:Int))) a0) (k1 (decide (a0.kind=(7:Int))) a0)))
def V131x0(n:Nt):G.E→Rt:=fun x0=>n [yR 16 x0]
def B131x1(c:TC0)(a5:Bool)(b101:G.E):Rt:=
 cnd a5 (some [yS 8 b101.functions]) (some [yS 8 ([]:List G.F)])
def V131x1(n:Nt):Bool→G.E→Rt:=fun x0 x1=>n [yB x0,yR 16 x1]
def aEn:=V131x1 (xD uB e [1,0,1,0,1,0] wZ (q131x2 c e))
theorem s131x0:V131x0 (xF uB c e)=B131x0 c (aEn c e):=by kernel_rfl
theorem s131x1:V131x1 (xA uB c e [1,0,1,0,1,0] wZ (q131x2 c e))=B131x1 c:=by kernel_rfl
def J131x1(c:TC0)(L:Nat):Bool→G.E→Rt:=B131x1 c
theorem j131x1:aEn c (cu c L)=J131x1 c L:=by rw[aEn,bK,s131x1];rfl
def F131(c:TC0)(L:Nat):G.E→Rt:=B131x0 c (J131x1 c L)
theorem e131:V131x0 (xF uB c (cu c L))=F131 c L:=by rw[s131x0];simp only[j131x1];rfl
theorem c131(a0:G.E)(L n:Nat):CTp L (n+1) 131 [yR 16 a0]=F131 (CTp L n) L a0:=by rw[←e131];exact cg (x:=uB) (by kernel_rfl) (by kernel_rfl) L n _
end
end Go.TV
namespace Go.TV
open Go.AI Go.PI Go.Proofs
theorem cst_some{t u:Ty}{x:Den U0.D t}{y:Den U0.D u}(h:cst t u x=some y):(⟨t,x⟩:TV U0.D)=⟨u,y⟩:=by
 unfold cst at h;split at h
 ·rename_i e _;subst e;simp only[ojE]at h;subst h;rfl
 ·cases h
theorem aAA: ∀{ts:List Ty} {d:TVs} {r:DenL U0.D ts},cM ts d=some r→d=tvL ts r
 |[],[],_,_=>rfl
 |[],_::_,_,h=>by cases h
 |_::_,[],_,h=>by cases h
 |t::ts,v::d,r,h=>by
  simp only[cM]at h;split at h
  ·rename_i x q h1 h2;simp only[ojE]at h;subst h;show v::d=⟨t,x⟩::tvL ts q;rw[←aAA h2,←cst_some h1]
  ·cases h
def hx(ts:List Ty)(d:TVs)(K:DenL U0.D ts→Rt)(z:Rt):Rt:=match cM ts d with|some r=>K r|none=>z
theorem bM{ts:List Ty}{d:TVs}{K:DenL U0.D ts→Rt}{z:Rt}(h: ∀r,d=tvL ts r→K r=z):hx ts d K z=z:=by
 unfold hx;split
 ·rename_i r e;exact h r (aAA e)
 ·rfl
def Hk(i:Nat)(h:TC0→Nat→TVs→Rt→Rt)(L m:Nat)(d:TVs):Prop:=h (CTp L m) L d (CTp L (m+1) i d)=CTp L (m+1) i d
theorem evq{b:Bool}{x y z:Rt}(h1:b=true→x=z)(h2:y=z):(bif b then x else y)=z:=by cases b;exact h2;exact h1 rfl
theorem evc{b:Bool}{x y z:Rt}(h1:x=z)(h2:y=z):(bif b then x else y)=z:=by cases b;exact h2;exact h1
noncomputable def hG(i:Nat)(c:TC0)(L:Nat)(d:TVs)(z:Rt):Rt:=
 match oB insL i with
 |some x=>bif Nat.beq x.sig.f orcI.n||Nat.beq x.sig.f orcI.m then z else xF x c (cu c L) d
 |none=>z
theorem dF(i L m:Nat)(d:TVs):hG i (CTp L m) L d (CTp L (m+1) i d)=CTp L (m+1) i d:=by
 unfold hG;split
 ·rename_i x hx;cases hb:Nat.beq x.sig.f orcI.n||Nat.beq x.sig.f orcI.m with
  |true=>rfl
  |false=>exact(cg hx hb L m d).symm
 ·rfl
end Go.TV
namespace Go.TV
open Go.AI Go.PI Go.Proofs
set_option maxRecDepth 20000
def h2(c:TC0)(L:Nat)(d:TVs)(z:Rt):Rt:=hx [.str] d (fun r=>F2 c L r.1) z
theorem g2(L m:Nat)(d:TVs):Hk 2 h2 L m d:=bM fun r e=>e▸(c2 r.1 L m).symm
def h3(c:TC0)(L:Nat)(d:TVs)(z:Rt):Rt:=hx [] d (fun _=>F3 c L) z
theorem g3(L m:Nat)(d:TVs):Hk 3 h3 L m d:=bM fun r e=>e▸(c3 L m).symm
def h4(c:TC0)(L:Nat)(d:TVs)(z:Rt):Rt:=hx [.rc 1] d (fun r=>F4 c L r.1) z
theorem g4(L m:Nat)(d:TVs):Hk 4 h4 L m d:=bM fun r e=>e▸(c4 r.1 L m).symm
def h5(c:TC0)(L:Nat)(d:TVs)(z:Rt):Rt:=hx [.rc 1] d (fun r=>F5 c L r.1) z
theorem g5(L m:Nat)(d:TVs):Hk 5 h5 L m d:=bM fun r e=>e▸(c5 r.1 L m).symm
def h9(c:TC0)(L:Nat)(d:TVs)(z:Rt):Rt:=hx [(.int .u32)] d (fun r=>F9 c L r.1) z
theorem g9(L m:Nat)(d:TVs):Hk 9 h9 L m d:=bM fun r e=>e▸(c9 r.1 L m).symm
def h10(c:TC0)(L:Nat)(d:TVs)(z:Rt):Rt:=hx [] d (fun _=>F10 c L) z
theorem g10(L m:Nat)(d:TVs):Hk 10 h10 L m d:=bM fun r e=>e▸(c10 L m).symm
def h11(c:TC0)(L:Nat)(d:TVs)(z:Rt):Rt:=hx [] d (fun _=>F11 c L) z
theorem g11(L m:Nat)(d:TVs):Hk 11 h11 L m d:=bM fun r e=>e▸(c11 L m).symm
def h15(c:TC0)(L:Nat)(d:TVs)(z:Rt):Rt:=hx [] d (fun _=>F15 c L) z
theorem g15(L m:Nat)(d:TVs):Hk 15 h15 L m d:=bM fun r e=>e▸(c15 L m).symm
def h19(c:TC0)(L:Nat)(d:TVs)(z:Rt):Rt:=hx [.str] d (fun r=>F19 c L r.1) z
theorem g19(L m:Nat)(d:TVs):Hk 19 h19 L m d:=bM fun r e=>e▸(c19 r.1 L m).symm
def h24(c:TC0)(L:Nat)(d:TVs)(z:Rt):Rt:=hx [.rc 2,.rc 2] d (fun r=>F24 c L r.1 r.2.1) z
theorem g24(L m:Nat)(d:TVs):Hk 24 h24 L m d:=bM fun r e=>e▸(c24 r.1 r.2.1 L m).symm
def h26(c:TC0)(L:Nat)(d:TVs)(z:Rt):Rt:=hx [] d (fun _=>F26 c L) z
theorem g26(L m:Nat)(d:TVs):Hk 26 h26 L m d:=bM fun r e=>e▸(c26 L m).symm
def h29(c:TC0)(L:Nat)(d:TVs)(z:Rt):Rt:=hx [.rc 1] d (fun r=>F29 c L r.1) z
theorem g29(L m:Nat)(d:TVs):Hk 29 h29 L m d:=bM fun r e=>e▸(c29 r.1 L m).symm
def h33(c:TC0)(L:Nat)(d:TVs)(z:Rt):Rt:=hx [] d (fun _=>F33 c L) z
theorem g33(L m:Nat)(d:TVs):Hk 33 h33 L m d:=bM fun r e=>e▸(c33 L m).symm
def h46(c:TC0)(L:Nat)(d:TVs)(z:Rt):Rt:=hx [] d (fun _=>F46 c L) z
theorem g46(L m:Nat)(d:TVs):Hk 46 h46 L m d:=bM fun r e=>e▸(c46 L m).symm
def h47(c:TC0)(L:Nat)(d:TVs)(z:Rt):Rt:=hx [] d (fun _=>F47 c L) z
theorem g47(L m:Nat)(d:TVs):Hk 47 h47 L m d:=bM fun r e=>e▸(c47 L m).symm
def h48(c:TC0)(L:Nat)(d:TVs)(z:Rt):Rt:=hx [zS 9,.str,.str] d (fun r=>F48 c L r.1 r.2.1 r.2.2.1) z
theorem g48(L m:Nat)(d:TVs):Hk 48 h48 L m d:=bM fun r e=>e▸(c48 r.1 r.2.1 r.2.2.1 L m).symm
def h58(c:TC0)(L:Nat)(d:TVs)(z:Rt):Rt:=hx [i6,.rc 23] d (fun r=>F58 c L r.1 r.2.1) z
theorem g58(L m:Nat)(d:TVs):Hk 58 h58 L m d:=bM fun r e=>e▸(c58 r.1 r.2.1 L m).symm
def h59(c:TC0)(L:Nat)(d:TVs)(z:Rt):Rt:=hx [.rc 2] d (fun r=>F59 c L r.1) z
theorem g59(L m:Nat)(d:TVs):Hk 59 h59 L m d:=bM fun r e=>e▸(c59 r.1 L m).symm
def h63(c:TC0)(L:Nat)(d:TVs)(z:Rt):Rt:=hx [.rc 3] d (fun r=>F63 c L r.1) z
theorem g63(L m:Nat)(d:TVs):Hk 63 h63 L m d:=bM fun r e=>e▸(c63 r.1 L m).symm
def h64(c:TC0)(L:Nat)(d:TVs)(z:Rt):Rt:=hx [] d (fun _=>F64 c L) z
theorem g64(L m:Nat)(d:TVs):Hk 64 h64 L m d:=bM fun r e=>e▸(c64 L m).symm
def h71(c:TC0)(L:Nat)(d:TVs)(z:Rt):Rt:=hx [i6,.rc 23] d (fun r=>F71 c L r.1 r.2.1) z
theorem g71(L m:Nat)(d:TVs):Hk 71 h71 L m d:=bM fun r e=>e▸(c71 r.1 r.2.1 L m).symm
def h72(c:TC0)(L:Nat)(d:TVs)(z:Rt):Rt:=hx [zS 9,.str,.str] d (fun r=>F72 c L r.1 r.2.1 r.2.2.1) z
theorem g72(L m:Nat)(d:TVs):Hk 72 h72 L m d:=bM fun r e=>e▸(c72 r.1 r.2.1 r.2.2.1 L m).symm
def h73(c:TC0)(L:Nat)(d:TVs)(z:Rt):Rt:=hx [.rc 2,i6] d (fun r=>F73 c L r.1 r.2.1) z
theorem g73(L m:Nat)(d:TVs):Hk 73 h73 L m d:=bM fun r e=>e▸(c73 r.1 r.2.1 L m).symm
def h74(c:TC0)(L:Nat)(d:TVs)(z:Rt):Rt:=hx [.rc 1] d (fun r=>F74 c L r.1) z
theorem g74(L m:Nat)(d:TVs):Hk 74 h74 L m d:=bM fun r e=>e▸(c74 r.1 L m).symm
def h79(c:TC0)(L:Nat)(d:TVs)(z:Rt):Rt:=hx [zS 16,.rc 1] d (fun r=>F79 c L r.1 r.2.1) z
theorem g79(L m:Nat)(d:TVs):Hk 79 h79 L m d:=bM fun r e=>e▸(c79 r.1 r.2.1 L m).symm
def h83(c:TC0)(L:Nat)(d:TVs)(z:Rt):Rt:=hx [.rc 3] d (fun r=>F83 c L r.1) z
theorem g83(L m:Nat)(d:TVs):Hk 83 h83 L m d:=bM fun r e=>e▸(c83 r.1 L m).symm
def h84(c:TC0)(L:Nat)(d:TVs)(z:Rt):Rt:=hx [.rc 3] d (fun r=>F84 c L r.1) z
theorem g84(L m:Nat)(d:TVs):Hk 84 h84 L m d:=bM fun r e=>e▸(c84 r.1 L m).symm
def h85(c:TC0)(L:Nat)(d:TVs)(z:Rt):Rt:=hx [.rc 3] d (fun r=>F85 c L r.1) z
theorem g85(L m:Nat)(d:TVs):Hk 85 h85 L m d:=bM fun r e=>e▸(c85 r.1 L m).symm
def h91(c:TC0)(L:Nat)(d:TVs)(z:Rt):Rt:=hx [.rc 22,.bool] d (fun r=>F91 c L r.1 r.2.1) z
theorem g91(L m:Nat)(d:TVs):Hk 91 h91 L m d:=bM fun r e=>e▸(c91 r.1 r.2.1 L m).symm
def h95(c:TC0)(L:Nat)(d:TVs)(z:Rt):Rt:=hx [.str] d (fun r=>F95 c L r.1) z
theorem g95(L m:Nat)(d:TVs):Hk 95 h95 L m d:=bM fun r e=>e▸(c95 r.1 L m).symm
def h99(c:TC0)(L:Nat)(d:TVs)(z:Rt):Rt:=hx [zS 9,.str] d (fun r=>F99 c L r.1 r.2.1) z
theorem g99(L m:Nat)(d:TVs):Hk 99 h99 L m d:=bM fun r e=>e▸(c99 r.1 r.2.1 L m).symm
def h100(c:TC0)(L:Nat)(d:TVs)(z:Rt):Rt:=hx [.rc 1] d (fun r=>F100 c L r.1) z
theorem g100(L m:Nat)(d:TVs):Hk 100 h100 L m d:=bM fun r e=>e▸(c100 r.1 L m).symm
def h104(c:TC0)(L:Nat)(d:TVs)(z:Rt):Rt:=hx [zS 16,.rc 1] d (fun r=>F104 c L r.1 r.2.1) z
theorem g104(L m:Nat)(d:TVs):Hk 104 h104 L m d:=bM fun r e=>e▸(c104 r.1 r.2.1 L m).symm
def h105(c:TC0)(L:Nat)(d:TVs)(z:Rt):Rt:=hx [.rc 3,i6] d (fun r=>F105 c L r.1 r.2.1) z
theorem g105(L m:Nat)(d:TVs):Hk 105 h105 L m d:=bM fun r e=>e▸(c105 r.1 r.2.1 L m).symm
def h106(c:TC0)(L:Nat)(d:TVs)(z:Rt):Rt:=hx [.rc 3,i6] d (fun r=>F106 c L r.1 r.2.1) z
theorem g106(L m:Nat)(d:TVs):Hk 106 h106 L m d:=bM fun r e=>e▸(c106 r.1 r.2.1 L m).symm
def h107(c:TC0)(L:Nat)(d:TVs)(z:Rt):Rt:=hx [.rc 2] d (fun r=>F107 c L r.1) z
theorem g107(L m:Nat)(d:TVs):Hk 107 h107 L m d:=bM fun r e=>e▸(c107 r.1 L m).symm
def h114(c:TC0)(L:Nat)(d:TVs)(z:Rt):Rt:=hx [.rc 1] d (fun r=>F114 c L r.1) z
theorem g114(L m:Nat)(d:TVs):Hk 114 h114 L m d:=bM fun r e=>e▸(c114 r.1 L m).symm
def h120(c:TC0)(L:Nat)(d:TVs)(z:Rt):Rt:=hx [.rc 1] d (fun r=>F120 c L r.1) z
theorem g120(L m:Nat)(d:TVs):Hk 120 h120 L m d:=bM fun r e=>e▸(c120 r.1 L m).symm
def h121(c:TC0)(L:Nat)(d:TVs)(z:Rt):Rt:=hx [zS 16,.rc 1] d (fun r=>F121 c L r.1 r.2.1) z
theorem g121(L m:Nat)(d:TVs):Hk 121 h121 L m d:=bM fun r e=>e▸(c121 r.1 r.2.1 L m).symm
def h122(c:TC0)(L:Nat)(d:TVs)(z:Rt):Rt:=hx [.rc 3] d (fun r=>F122 c L r.1) z
theorem g122(L m:Nat)(d:TVs):Hk 122 h122 L m d:=bM fun r e=>e▸(c122 r.1 L m).symm
def h123(c:TC0)(L:Nat)(d:TVs)(z:Rt):Rt:=hx [.rc 2] d (fun r=>F123 c L r.1) z
theorem g123(L m:Nat)(d:TVs):Hk 123 h123 L m d:=bM fun r e=>e▸(c123 r.1 L m).symm
def h129(c:TC0)(L:Nat)(d:TVs)(z:Rt):Rt:=hx [.str] d (fun r=>F129 c L r.1) z
theorem g129(L m:Nat)(d:TVs):Hk 129 h129 L m d:=bM fun r e=>e▸(c129 r.1 L m).symm
def h130(c:TC0)(L:Nat)(d:TVs)(z:Rt):Rt:=hx [zS 16,.rc 1] d (fun r=>F130 c L r.1 r.2.1) z
theorem g130(L m:Nat)(d:TVs):Hk 130 h130 L m d:=bM fun r e=>e▸(c130 r.1 r.2.1 L m).symm
def h131(c:TC0)(L:Nat)(d:TVs)(z:Rt):Rt:=hx [.rc 16] d (fun r=>F131 c L r.1) z
theorem g131(L m:Nat)(d:TVs):Hk 131 h131 L m d:=bM fun r e=>e▸(c131 r.1 L m).symm
noncomputable def hAll(i:Nat)(c:TC0)(L:Nat)(d:TVs)(z:Rt):Rt:=(bif Nat.beq i 73 then h73 c L d z else bif Nat.blt i 73 then(bif Nat.beq i 29 then h29 c L d z else bif Nat.blt i 29 then(bif Nat.beq i 10 then h10 c L d z else bif Nat.blt i 10 then(bif Nat.beq i 4 then h4 c L d z else bif Nat.blt i 4 then(bif Nat.beq i 3 then h3 c L d z else bif Nat.blt i 3 then(bif Nat.beq i 2 then h2 c L d z else hG i c L d z)else hG i c L d z)else(bif Nat.beq i 9 then h9 c L d z else bif Nat.blt i 9 then(bif Nat.beq i 5 then h5 c L d z else hG i c L d z)else hG i c L d z))else(bif Nat.beq i 19 then h19 c L d z else bif Nat.blt i 19 then(bif Nat.beq i 15 then h15 c L d z else bif Nat.blt i 15 then(bif Nat.beq i 11 then h11 c L d z else hG i c L d z)else hG i c L d z)else(bif Nat.beq i 26 then h26 c L d z else bif Nat.blt i 26 then(bif Nat.beq i 24 then h24 c L d z else hG i c L d z)else hG i c L d z)))else(bif Nat.beq i 59 then h59 c L d z else bif Nat.blt i 59 then(bif Nat.beq i 47 then h47 c L d z else bif Nat.blt i 47 then(bif Nat.beq i 46 then h46 c L d z else bif Nat.blt i 46 then(bif Nat.beq i 33 then h33 c L d z else hG i c L d z)else hG i c L d z)else(bif Nat.beq i 58 then h58 c L d z else bif Nat.blt i 58 then(bif Nat.beq i 48 then h48 c L d z else hG i c L d z)else hG i c L d z))else(bif Nat.beq i 71 then h71 c L d z else bif Nat.blt i 71 then(bif Nat.beq i 64 then h64 c L d z else bif Nat.blt i 64 then(bif Nat.beq i 63 then h63 c L d z else hG i c L d z)else hG i c L d z)else(bif Nat.beq i 72 then h72 c L d z else hG i c L d z))))else(bif Nat.beq i 105 then h105 c L d z else bif Nat.blt i 105 then(bif Nat.beq i 91 then h91 c L d z else bif Nat.blt i 91 then(bif Nat.beq i 83 then h83 c L d z else bif Nat.blt i 83 then(bif Nat.beq i 79 then h79 c L d z else bif Nat.blt i 79 then(bif Nat.beq i 74 then h74 c L d z else hG i c L d z)else hG i c L d z)else(bif Nat.beq i 85 then h85 c L d z else bif Nat.blt i 85 then(bif Nat.beq i 84 then h84 c L d z else hG i c L d z)else hG i c L d z))else(bif Nat.beq i 100 then h100 c L d z else bif Nat.blt i 100 then(bif Nat.beq i 99 then h99 c L d z else bif Nat.blt i 99 then(bif Nat.beq i 95 then h95 c L d z else hG i c L d z)else hG i c L d z)else(bif Nat.beq i 104 then h104 c L d z else hG i c L d z)))else(bif Nat.beq i 122 then h122 c L d z else bif Nat.blt i 122 then(bif Nat.beq i 114 then h114 c L d z else bif Nat.blt i 114 then(bif Nat.beq i 107 then h107 c L d z else bif Nat.blt i 107 then(bif Nat.beq i 106 then h106 c L d z else hG i c L d z)else hG i c L d z)else(bif Nat.beq i 121 then h121 c L d z else bif Nat.blt i 121 then(bif Nat.beq i 120 then h120 c L d z else hG i c L d z)else hG i c L d z))else(bif Nat.beq i 130 then h130 c L d z else bif Nat.blt i 130 then(bif Nat.beq i 129 then h129 c L d z else bif Nat.blt i 129 then(bif Nat.beq i 123 then h123 c L d z else hG i c L d z)else hG i c L d z)else(bif Nat.beq i 131 then h131 c L d z else hG i c L d z)))))
theorem hAll_ok(i L m:Nat)(d:TVs):hAll i (CTp L m) L d (CTp L (m+1) i d)=CTp L (m+1) i d:=(evq (fun e=>(nqE e).symm▸g73 L m d) (evc (evq (fun e=>(nqE e).symm▸g29 L m d) (evc (evq (fun e=>(nqE e).symm▸g10 L m d) (evc (evq (fun e=>(nqE e).symm▸g4 L m d) (evc (evq (fun e=>(nqE e).symm▸g3 L m d) (evc (evq (fun e=>(nqE e).symm▸g2 L m d) (dF i L m d)) (dF i L m d))) (evq (fun e=>(nqE e).symm▸g9 L m d) (evc (evq (fun e=>(nqE e).symm▸g5 L m d) (dF i L m d)) (dF i L m d))))) (evq (fun e=>(nqE e).symm▸g19 L m d) (evc (evq (fun e=>(nqE e).symm▸g15 L m d) (evc (evq (fun e=>(nqE e).symm▸g11 L m d) (dF i L m d)) (dF i L m d))) (evq (fun e=>(nqE e).symm▸g26 L m d) (evc (evq (fun e=>(nqE e).symm▸g24 L m d) (dF i L m d)) (dF i L m d))))))) (evq (fun e=>(nqE e).symm▸g59 L m d) (evc (evq (fun e=>(nqE e).symm▸g47 L m d) (evc (evq (fun e=>(nqE e).symm▸g46 L m d) (evc (evq (fun e=>(nqE e).symm▸g33 L m d) (dF i L m d)) (dF i L m d))) (evq (fun e=>(nqE e).symm▸g58 L m d) (evc (evq (fun e=>(nqE e).symm▸g48 L m d) (dF i L m d)) (dF i L m d))))) (evq (fun e=>(nqE e).symm▸g71 L m d) (evc (evq (fun e=>(nqE e).symm▸g64 L m d) (evc (evq (fun e=>(nqE e).symm▸g63 L m d) (dF i L m d)) (dF i L m d))) (evq (fun e=>(nqE e).symm▸g72 L m d) (dF i L m d)))))))) (evq (fun e=>(nqE e).symm▸g105 L m d) (evc (evq (fun e=>(nqE e).symm▸g91 L m d) (evc (evq (fun e=>(nqE e).symm▸g83 L m d) (evc (evq (fun e=>(nqE e).symm▸g79 L m d) (evc (evq (fun e=>(nqE e).symm▸g74 L m d) (dF i L m d)) (dF i L m d))) (evq (fun e=>(nqE e).symm▸g85 L m d) (evc (evq (fun e=>(nqE e).symm▸g84 L m d) (dF i L m d)) (dF i L m d))))) (evq (fun e=>(nqE e).symm▸g100 L m d) (evc (evq (fun e=>(nqE e).symm▸g99 L m d) (evc (evq (fun e=>(nqE e).symm▸g95 L m d) (dF i L m d)) (dF i L m d))) (evq (fun e=>(nqE e).symm▸g104 L m d) (dF i L m d)))))) (evq (fun e=>(nqE e).symm▸g122 L m d) (evc (evq (fun e=>(nqE e).symm▸g114 L m d) (evc (evq (fun e=>(nqE e).symm▸g107 L m d) (evc (evq (fun e=>(nqE e).symm▸g106 L m d) (dF i L m d)) (dF i L m d))) (evq (fun e=>(nqE e).symm▸g121 L m d) (evc (evq (fun e=>(nqE e).symm▸g120 L m d) (dF i L m d)) (dF i L m d))))) (evq (fun e=>(nqE e).symm▸g130 L m d) (evc (evq (fun e=>(nqE e).symm▸g129 L m d) (evc (evq (fun e=>(nqE e).symm▸g123 L m d) (dF i L m d)) (dF i L m d))) (evq (fun e=>(nqE e).symm▸g131 L m d) (dF i L m d))))))))))
end Go.TV
namespace Go.TV
open Go.AI Go.PI Go.Proofs
noncomputable def evB(K:TC0)(up:Nat→TC0)(L:Nat):Nat→TC0
 |0=>up 0
 |n+1=>fun i d=>match K i d with|some r=>some r|none=>hAll i (evB K up L n) L d (up (n+1) i d)
noncomputable def upT(L N:Nat):Nat→TC0:=fun n=>CTp L (N+n)
theorem aAv{K:TC0}{L N:Nat}(hK: ∀n i d r,K i d=some r→CTp L (N+n+1) i d=some r): ∀n,evB K (upT L N) L n=CTp L (N+n)
 |0=>rfl
 |n+1=>by
  funext i d;show(match K i d with|some r=>some r|none=>hAll i (evB K (upT L N) L n) L d (CTp L (N+n+1) i d))=CTp L (N+n+1) i d
  rw[aAv hK n];split
  ·rename_i r e;exact(hK n i d r e).symm
  ·exact hAll_ok i L (N+n) d
end Go.TV
namespace Go.TV
open Go.AI Go.PI Go.Proofs
theorem obj_ind{P:G.O→Prop}(h: ∀k n d s t l,(∀o∈l,P o)→P ⟨k,n,d,s,t,l⟩): ∀o,P o:=fun o=>
 G.O.rec (motive_1:=P) (motive_2:=fun l=> ∀o∈l,P o) (fun k n d s t l ih=>h k n d s t l ih) (fun o ho=>by cases ho)
  (fun o l h1 h2 x hx=>by
   cases hx with
   |head=>exact h1
   |tail _ hx=>exact h2 x hx) o
noncomputable instance:DecidableEq G.O:=fun a b=>Classical.propDecidable _
def okO(k:Int)(n d:List UInt8)(s:G.Y)(t:List UInt8)(l:List G.O):Bool:=
 decide (k=0)&&n.isEmpty&&d.isEmpty&&decide (s=⟨[],[]⟩)&&t.isEmpty&&l.isEmpty||decide (k=1)&&decide (s=⟨[],[]⟩)&&t.isEmpty&&l.isEmpty||decide (k=2)&&n.isEmpty&&d.isEmpty&&t.isEmpty&&l.isEmpty||
 decide (k=3)&&n.isEmpty&&d.isEmpty&&decide (s=⟨[],[]⟩)&&l.isEmpty||decide (k=4)&&n.isEmpty&&d.isEmpty&&decide (s=⟨[],[]⟩)&&t.isEmpty&&decide (l.length=2)
def badO(k:Int)(n d:List UInt8)(s:G.Y)(t:List UInt8)(l:List G.O):Nat:=bif okO k n d s t l then 0 else 1000000000
mutual
def osz:G.O→Nat
 |⟨k,n,d,s,t,l⟩=>2+osz' l+badO k n d s t l
def osz':List G.O→Nat
 |[]=>0
 |o::l=>osz o+osz' l+1
end
theorem oP{k:Nat}(h:k<4000000000000000000):IntKind.i64.wrap ((k:Int)+1)=((k+1:Nat):Int):=by
 unfold IntKind.wrap;simp[IntKind.bits,IntKind.signed];omega
theorem cX{α:Type}(l:List α)(k:Nat):idx l (k:Int)=l[k]?:=by
 unfold idx;have:decide (0≤(k:Int))=true:=by simp
 rw[this];rfl
theorem oT{β:Type}{b:Bool}{K:Bool×Unit→Option β}:obL (D:=U0.D) [.bool] (some [yB b]) K=K (b,()):=rfl
theorem oN{α β:Type}{x:α}{K:α→Option β}:ob (some x) K=K x:=rfl
theorem eT{β:Type}{A B:Option β}:cnd true A B=A:=rfl
theorem bX{β:Type}{A B:Option β}:cnd false A B=B:=rfl
theorem dT{α:Type}{l:List α}{k:Nat}{x:α}{r:List α}(h:l.drop k=x::r):l[k]?=some x∧k<l.length∧l.drop (k+1)=r:=by
 refine⟨?_,?_,?_⟩
 ·rw[←List.head?_drop,h];rfl
 ·have:=congrArg List.length h;simp at this;omega
 ·rw[←List.tail_drop,h];rfl
theorem fD{α:Type}{l:List α}{k:Nat}(h:l.drop k=[]): ¬k<l.length:=by
 have:=congrArg List.length h;simp at this;omega
def oo(a b:G.O):TVs:=[yR 2 a,yR 2 b]
def bb(b:Bool):TVs:=[yB b]
def wfO(a:G.O):Prop:=osz a<1000000000
theorem aCO: ∀(l:List G.O),l.length≤osz' l
 |[]=>nlR _
 |o::l=>by have:=aCO l;simp only[lcS,osz'];omega
theorem rM: ∀{l:List G.O} {x:G.O},x∈l→osz x≤osz' l
 |o::l,x,h=>by
  simp only[osz'];cases h with
  |head=>omega
  |tail _ h=>have:=rM h;omega
end Go.TV
namespace Go.TV
open Go.AI Go.PI Go.Proofs
theorem trm_ind{P:G.T→Prop}(h: ∀k n v l,(∀o∈l,P o)→P ⟨k,n,v,l⟩): ∀o,P o:=fun o=>
 G.T.rec (motive_1:=P) (motive_2:=fun l=> ∀o∈l,P o) (fun k n v l ih=>h k n v l ih) (fun o ho=>by cases ho)
  (fun o l h1 h2 x hx=>by
   cases hx with
   |head=>exact h1
   |tail _ hx=>exact h2 x hx) o
noncomputable instance:DecidableEq G.T:=fun a b=>Classical.propDecidable _
def okTm(k:Int)(n:G.Y)(v:G.O)(l:List G.T):Bool:=
 decide (k=1)&&decide (v.kind=0)&&l.isEmpty||decide (k=2)&&decide (n=⟨[],[]⟩)&&l.isEmpty&& !decide (v.kind=0)||decide (k=3)&&decide (v.kind=0)
def badT(k:Int)(n:G.Y)(v:G.O)(l:List G.T):Nat:=bif okTm k n v l then 0 else 1000000000
mutual
def tsz:G.T→Nat
 |⟨k,n,v,l⟩=>4+osz v+tsz' l+badT k n v l
def tsz':List G.T→Nat
 |[]=>0
 |o::l=>tsz o+tsz' l+1
end
theorem aCb: ∀(l:List G.T),l.length≤tsz' l
 |[]=>nlR _
 |o::l=>by have:=aCb l;simp only[lcS,tsz'];omega
theorem qT: ∀{l:List G.T} {x:G.T},x∈l→tsz x≤tsz' l
 |o::l,x,h=>by
  simp only[tsz'];cases h with
  |head=>omega
  |tail _ h=>have:=qT h;omega
def tt2(a b:G.T):TVs:=[yR 3 a,yR 3 b]
def ll2(a b:List G.T):TVs:=[yS 3 a,yS 3 b]
def wfT(a:G.T):Prop:=tsz a<1000000000
end Go.TV
namespace Go.TV
open Go.AI Go.PI Go.Proofs
theorem EqO_loop{c:TC0}{L:Nat}{a b:G.O}(hl:a.pair.length=b.pair.length)(hb:a.pair.length<1000000000): ∀(l r:List G.O) (k m:Nat),a.pair.drop k=l→b.pair.drop k=r→l.length<m→
    (∀x,x∈l→∀y,c 24 (oo x y)=some (bb (decide (x=y))))→yF c L m (k:Int) a b=some (bb (decide (l=r))):=by
 intro l;induction l with
 |nil=>
  intro r k m h1 h2 h3 _;obtain⟨m,rfl⟩: ∃m',m=m'+1:=⟨m-1,by simp at h3;omega⟩
  have e1:=fD h1;have e2:r=[]:=by rw[←h2];exact List.drop_eq_nil_of_le (by omega)
  have e3:decide ((k:Int)<(a.pair.length:Int))=false:=by simp;omega
  rw[yF,B24x2,e3,e2];simp only[bX,decide_true];rfl
 |cons x l ih=>
  intro r k m h1 h2 h3 hc;obtain⟨m,rfl⟩: ∃m',m=m'+1:=⟨m-1,by simp at h3;omega⟩
  obtain⟨a1,a2,a3⟩:=dT h1;cases r with
  |nil=>have:=fD h2;omega
  |cons y r=>
   obtain⟨b1,b2,b3⟩:=dT h2;have e3:decide ((k:Int)<(a.pair.length:Int))=true:=by simp;omega
   have hxy:c 24 [yR 2 x,yR 2 y]=some [yB (decide (x=y))]:=hc x (mhE ..) y;rw[yF,B24x2,e3,eT,cX,cX,a1,b1,oN,oN,hxy,oT,oP (by omega)]
   by_cases e:x=y
   ·subst e;simp only[decide_true,bnT,bX];rw[ih r (k+1) m a3 b3 (by simp at h3;omega) fun z hz=>hc z (mtE _ hz)]
    simp
   ·simp only[e,decide_false,Bool.not_false,eT];simp[e,bb]
theorem Equal_ok: ∀(a:G.O),wfO a→∀(b:G.O) (L n:Nat),osz a≤L→osz a≤n→CTp L n 24 (oo a b)=some (bb (decide (a=b))):=by
 intro a;induction a using obj_ind with
 |h k nu d s t l ih=>
  intro hw b L n hL hn;simp only[wfO,osz]at hw hL hn;have hlen:=aCO l;obtain⟨n,rfl⟩: ∃n',n=n'+1:=⟨n-1,by omega⟩
  cases b with|mk k' nu' d' s' t' l'=>
  show CTp L (n+1) 24 [yR 2 _,yR 2 _]=_;rw[c24];simp only[F24,B24x0,J24x1,B24x1,G.O.kind,G.O.num,G.O.den,G.O.sym,G.O.text,G.O.pair,G.O.mk.injEq];by_cases e1:k=k'
  ·by_cases e2:nu=nu'
   ·by_cases e3:d=d'
    ·by_cases e4:s=s'
     ·by_cases e5:t=t'
      ·by_cases e6:(l.length:Int)=(l'.length:Int)
       ·simp only[e1,e2,e3,e4,e5,e6,decide_true,bnT,bX,true_and];have:=EqO_loop (c:=CTp L n) (L:=L) (a:=⟨k,nu,d,s,t,l⟩) (b:=⟨k',nu',d',s',t',l'⟩) (by show l.length=l'.length;omega) (by show l.length<_;omega) l l' 0 L rfl rfl (by omega) fun x hx y=>ih x hx (by have:=rM hx;simp only[wfO];omega) y L n (by have:=rM hx;omega) (by have:=rM hx;omega)
        subst e1 e2 e3 e4 e5;exact this
       ·have e7: ¬l=l':=fun h=>e6 (by rw[h])
        simp[e1,e2,e3,e4,e5,e6,e7,cnd,bb]
      ·simp[e1,e2,e3,e4,e5,cnd,bb]
     ·simp[e1,e2,e3,e4,cnd,bb]
    ·simp[e1,e2,e3,cnd,bb]
   ·simp[e1,e2,cnd,bb]
  ·simp[e1,cnd,bb]
end Go.TV
namespace Go.TV
open Go.AI Go.PI Go.Proofs
theorem EqA_loop{c:TC0}{L:Nat}{a b:List G.T}(hl:a.length=b.length)(hb:a.length<1000000000): ∀(l r:List G.T) (k m:Nat),a.drop k=l→b.drop k=r→l.length<m→
    (∀x,x∈l→∀y,c 6 (tt2 x y)=some (bb (decide (x=y))))→yE c L m a b (k:Int)=some (bb (decide (l=r))):=by
 intro l;induction l with
 |nil=>
  intro r k m h1 h2 h3 _;obtain⟨m,rfl⟩: ∃m',m=m'+1:=⟨m-1,by simp at h3;omega⟩
  have e1:=fD h1;have e2:r=[]:=by rw[←h2];exact List.drop_eq_nil_of_le (by omega)
  have e3:decide ((k:Int)<(a.length:Int))=false:=by simp;omega
  rw[yE,B25x1,e3,e2];simp only[bX,decide_true];rfl
 |cons x l ih=>
  intro r k m h1 h2 h3 hc;obtain⟨m,rfl⟩: ∃m',m=m'+1:=⟨m-1,by simp at h3;omega⟩
  obtain⟨a1,a2,a3⟩:=dT h1;cases r with
  |nil=>have:=fD h2;omega
  |cons y r=>
   obtain⟨b1,b2,b3⟩:=dT h2;have e3:decide ((k:Int)<(a.length:Int))=true:=by simp;omega
   have hxy:c 6 [yR 3 x,yR 3 y]=some [yB (decide (x=y))]:=hc x (mhE ..) y;rw[yE,B25x1,e3,eT,cX,cX,a1,b1,oN,oN,hxy,oT,oP (by omega)]
   by_cases e:x=y
   ·subst e;simp only[decide_true,bnT,bX];rw[ih r (k+1) m a3 b3 (by simp at h3;omega) fun z hz=>hc z (mtE _ hz)]
    simp
   ·simp only[e,decide_false,Bool.not_false,eT];simp[e,bb]
theorem EqAll_of{a b:List G.T}{L n:Nat}(hw:a.length<1000000000)(hL:a.length<L)(hx: ∀x,x∈a→∀y,CTp L n 6 (tt2 x y)=some (bb (decide (x=y)))):
    CTp L (n+1) 25 (ll2 a b)=some (bb (decide (a=b))):=by
 show CTp L (n+1) 25 [yS 3 _,yS 3 _]=_;rw[c25];simp only[F25,B25x0];by_cases e6:(a.length:Int)=(b.length:Int)
 ·simp only[e6,decide_true,bnT,bX];exact EqA_loop (c:=CTp L n) (L:=L) (by omega) hw a b 0 L rfl rfl hL hx
 ·have e7: ¬a=b:=fun h=>e6 (by rw[h])
  simp[e6,e7,cnd,bb]
theorem EqT_ok: ∀(a:G.T),wfT a→∀(b:G.T) (L n:Nat),tsz a≤L→tsz a≤n→CTp L n 6 (tt2 a b)=some (bb (decide (a=b))):=by
 intro a;induction a using trm_ind with
 |h k nm v l ih=>
  intro hw b L n hL hn;simp only[wfT,tsz]at hw hL hn;have hlen:=aCb l;obtain⟨n,rfl⟩: ∃n',n=n'+2:=⟨n-2,by omega⟩
  cases b with|mk k' nm' v' l'=>
  show CTp L (n+1+1) 6 [yR 3 _,yR 3 _]=_;rw[c6];have hv:CTp L (n+1) 24 [yR 2 v,yR 2 v']=some [yB (decide (v=v'))]:=Equal_ok v (by simp only[wfO];omega) v' L (n+1) (by omega) (by omega)
  have hl:CTp L (n+1) 25 [yS 3 l,yS 3 l']=some [yB (decide (l=l'))]:=EqAll_of (by omega) (by omega) fun x hx y=>ih x hx (by have:=qT hx;simp only[wfT];omega) y L n (by have:=qT hx;omega) (by have:=qT hx;omega)
  simp only[F6,B6x0,J6x1,B6x1,G.T.kind,G.T.name,G.T.value,G.T.args,G.T.mk.injEq,hv,hl,oT];by_cases e1:k=k'
  ·by_cases e2:nm=nm'
   ·by_cases e3:v=v'
    ·simp[e1,e2,e3,cnd,bb]
    ·simp[e1,e2,e3,cnd,bb]
   ·simp[e1,e2,cnd,bb]
  ·simp[e1,cnd,bb]
end Go.TV
namespace Go.AI
section
variable{P:Program}
def aD9(aw:FuncId)(c0:FuncId→Array Value→St→Option (Value×St))(f:FuncId)(args:Array Value)(σ:St):Option (Value×St):=
 bif Nat.beq f aw then(match args.toList with
 |[]=>some (.bool true,σ)
 |_=>none)else c0 f args σ
theorem callA_ok{w0:W0}{aw:FuncId}{c0:FuncId→Array Value→St→Option (Value×St)}(h0:CallOK w0 P c0)
    (ha : ∀ w, Kept w0.toWorld w → (∃ fn c, P.funcs[aw]? = some fn ∧ fn.body = some c ∧ (fn.name == "runtime.NumGoroutine") = false) ∧ Calls P aw #[] w fun e w' => e = .returned (.bool true) ∧ Kept w w') : CallOK w0 P (aD9 aw c0) := by
 intro f args args' σ σ' w μ r h Z hargs;unfold aD9 at h;cases hf:Nat.beq f aw with
 |false=>rw[hf]at h;exact h0 f args args' σ σ' w μ r h Z hargs
 |true=>
  rw[hf,cdt]at h;rw[nqE hf];split at h
  ·rename_i he;simp only[ojE,pjE]at h;obtain⟨rfl,rfl⟩:=h;rw[he]at hargs;have q3:args'= #[]:=by rw[←Array.toArray_toList (xs:=args'),hargs.nil_inv]
   subst q3;obtain⟨g1,g2⟩:=ha w Z.kept.toKept;exact⟨g1,g2.mono fun e w' ⟨h5,h6⟩=>⟨μ,_,h5,.same _ rfl,Z.keep h6,.refl _ _,nlR _⟩⟩
  ·cases h
end
end Go.AI
namespace Go.PI
open Go.AI
def qH(aw:FuncId)(pc:dL):dL:=fun f args p=>
 bif Nat.beq f aw then(match args with
 |[]=>some (.v (.bool true),false,p)
 |_=>none)else pc f args p
theorem aD8{aw:FuncId}{pc:dL}{ac:FuncId→Array Value→St→Option (Value×St)}(h0:eW pc ac):eW (qH aw pc) (aD9 aw ac):=by
 intro g args p v own p' h ν γ σ us M r ho;unfold qH at h;unfold aD9;cases hf:Nat.beq g aw with
 |false=>rw[hf]at h;exact h0 g args p v own p' h ν γ σ us M r ho
 |true=>
  rw[hf,cdt]at h;simp only[cdt];split at h
  ·simp only[ojE,pjE]at h;obtain⟨rfl,rfl,rfl⟩:=h;have hu:us.toList=[]:=List.length_eq_zero_iff.1 (by have:=r.1;simpa using this.symm)
   rw[hu];exact⟨_,σ,ν,γ,rfl,R.v _ rfl,fun h=>(by cases h),M,Adv.refl ν γ p σ,fun j _ h=>h⟩
  ·cases h
end Go.PI
namespace Go.TV
open Go.AI Go.PI
section
variable{U:gP}{T:TP U.D}
def awS(aw:FuncId):Sig:=⟨aw,[],[],[],[.bool],false⟩
def aD7(T:TP U.D)(aw:FuncId)(tc:jY U.D):jY U.D:=fun i d=>match T.sig i with
 |some s=>bif Nat.beq s.f aw then(match d with
  |[]=>some [⟨.bool,true⟩]
  |_=>none)else tc i d
 |none=>none
theorem aD6{aw:FuncId}{tc:jY U.D}{pc:dL}(h0:CallOK U T tc pc)(hs: ∀i s,T.sig i=some s→s.f=aw→s=awS aw):CallOK U T (aD7 T aw tc) (qH aw pc):=by
 intro i s d out h1 h p cc args S0 M0 hin;unfold aD7 at h;rw[h1]at h;simp only at h;unfold qH;cases hf:Nat.beq s.f aw with
 |false=>rw[hf]at h;exact h0 i s d out h1 h p cc args S0 M0 hin
 |true=>
  rw[hf,cdt]at h;have e:=hs i s h1 (nqE hf);subst e;split at h
  ·simp only[ojE]at h;subst h;have hl:args=[]:=List.length_eq_zero_iff.1 hin.len;subst hl;refine⟨.v (.bool true),false,p,rfl,?_⟩;exact⟨⟨bP _,aE _ _⟩,⟨[],rfl,fun j x hj=>(by cases hj)⟩,rfl,fun _ _ _=>rfl,fun _ _ _=>rfl,fun id h=> .inl h,fun id h=>h,fun id h=> .inl h⟩
  ·cases h
end
end Go.TV
