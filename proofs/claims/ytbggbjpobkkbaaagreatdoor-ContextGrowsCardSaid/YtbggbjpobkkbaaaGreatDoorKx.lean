import Derived.Test.YtbggbjpobkkbaaaGreatDoorKo
import Derived.Test.YtbggbjpobkkbaaaGreatDoorKv
import Derived.Test.YtbggbjpobkkbaaaGreatDoorKw
set_option linter.unusedVariables false
set_option linter.unusedSimpArgs false
set_option linter.constructorNameAsVariable false
namespace Go.TV
open Go.AI Go.PI Go.Proofs
set_option maxRecDepth 20000
noncomputable section
variable(c:TC0)(e:Cu)(L:Nat)
def B16x0(c:TC0)(a0:Int):Rt:=
 obL [.rc 2] (c 44 [yI a0]) fun(r0:G.O×Unit)=>
 obL [.rc 3] (c 15 [yR 2 r0.1]) fun(r1:G.T×Unit)=>
 some [yR 3 r1.1]
def V16x0(n:Nt):Int→Rt:=fun x0=>n [yI x0]
theorem s16x0:V16x0 (xF ii16 c e)=B16x0 c:=by kernel_rfl
def F16(c:TC0)(L:Nat):Int→Rt:=B16x0 c
theorem e16:V16x0 (xF ii16 c (cu c L))=F16 c L:=s16x0 _ _
theorem c16(a0:Int)(L n:Nat):CTp L (n+1) 16 [yI a0]=F16 (CTp L n) L a0:=by rw[←e16];exact cg (x:=ii16) (by kernel_rfl) (by kernel_rfl) L n _
def aC8(c:TC0)(e:Cu):Kt:=xK zC
def q17x1(c:TC0)(e:Cu):Kt:=xT zC c e [1,1,1] (aC8 c e)
def q17x2(c:TC0)(e:Cu):Kt:=xT zC c e [1,1,1,0,1,1,1,0,1,1,1] (aC8 c e)
def q17x3(c:TC0)(e:Cu):Kt:=eA U0 1 (q17x2 c e)
def B17x0(c:TC0)(k1:Bool→Int→List G.E→Int→G.Z→G.T→Rt)(a1:List G.E)(a2:Int)(b0:G.Z):Rt:=
 obL [i6,.rc 0] (c 12 [yI (12:Int),yR 0 b0]) fun(r0:Int×G.Z×Unit)=>
 cnd (decide (a2<(1:Int))) (k1 (decide ((3:Int)<r0.1)) r0.1 a1 a2 r0.2.1 (G.T.mk (0:Int) (G.Y.mk ([]:List UInt8) ([]:List UInt8)) (G.O.mk (0:Int) ([]:List UInt8) ([]:List UInt8) (G.Y.mk ([]:List UInt8) ([]:List UInt8)) ([]:List UInt8) ([]:List G.O)) ([]:List G.T))) (k1 false r0.1 a1 a2 r0.2.1 (G.T.mk (0:Int) (G.Y.mk ([]:List UInt8) ([]:List UInt8)) (G.O.mk (0:Int) ([]:List UInt8) ([]:List UInt8) (G.Y.mk ([]:List UInt8) ([]:List UInt8)) ([]:List UInt8) ([]:List G.O)) ([]:List G.T)))
def V17x0(n:Nt):List G.E→Int→G.Z→Rt:=fun x0 x1 x2=>n [yS 15 x0,yI x1,yR 0 x2]
def B17x1(c:TC0)(k2:Int→List G.E→Int→G.Z→G.T→Rt)(a22:Bool)(a7:Int)(a1:List G.E)(a2:Int)(b0:G.Z)(b106:G.T):Rt:=
 cnd a22 (chk (!decide ((4:Int)=0))<|
 k2 (Int.tmod a7 (4:Int)) a1 a2 b0 b106) (k2 a7 a1 a2 b0 b106)
def V17x1(n:Nt):Bool→Int→List G.E→Int→G.Z→G.T→Rt:=fun x0 x1 x2 x3 x4 x5=>n [yB x0,yI x1,yS 15 x2,yI x3,yR 0 x4,yR 3 x5]
def X17x1:=V17x1 (xD zC e [1,1,0,1,0] aF6 (q17x1 c e))
def B17x2(c:TC0)(k3:List G.E→Int→G.Z→G.Y→G.T→Rt)(a7:Int)(a1:List G.E)(a2:Int)(b0:G.Z)(b106:G.T):Rt:=
 cnd (decide (a7<(3:Int))) (obL [.rc 3,.rc 0] (c 13 [yR 0 b0]) fun(r0:G.T×G.Z×Unit)=>
 some [yR 3 r0.1,yR 0 r0.2.1]) (cnd (decide (a7=(3:Int))) (obL [.rc 2,.rc 0] (c 14 [yI (1:Int),yR 0 b0]) fun(r1:G.O×G.Z×Unit)=>
 obL [.rc 3] (c 15 [yR 2 r1.1]) fun(r2:G.T×Unit)=>
 some [yR 3 r2.1,yR 0 r1.2.1]) (obL [(.sl .str)] (c 50 []) fun(r3:(List (List UInt8))×Unit)=>
 obL [(.sl .str)] (c 51 []) fun(r4:(List (List UInt8))×Unit)=>
 obL [i6,.rc 0] (c 12 [yI (4:Int),yR 0 b0]) fun(r5:Int×G.Z×Unit)=>
 cnd (decide (r5.1<(3:Int))) (obL [i6,.rc 0] (c 12 [yI (List.length r3.1:Int),yR 0 r5.2.1]) fun(r6:Int×G.Z×Unit)=>
 ob (idx r3.1 r6.1) fun v7=>
 obL [.rc 1] (c 52 [yT v7]) fun(r8:G.Y×Unit)=>
 k3 a1 a2 r6.2.1 r8.1 b106) (obL [i6,.rc 0] (c 12 [yI (List.length r4.1:Int),yR 0 r5.2.1]) fun(r9:Int×G.Z×Unit)=>
 ob (idx r4.1 r9.1) fun v10=>
 obL [.rc 1] (c 11 [yT v10]) fun(r11:G.Y×Unit)=>
 k3 a1 a2 r9.2.1 r11.1 b106)))
def V17x2(n:Nt):Int→List G.E→Int→G.Z→G.T→Rt:=fun x0 x1 x2 x3 x4=>n [yI x0,yS 15 x1,yI x2,yR 0 x3,yR 3 x4]
def X17x2:=V17x2 (xD zC e [1,1,1,0] aF5 (aC8 c e))
def B17x3(c:TC0)(e4:Int→List G.E→Int→Int→List G.T→G.Z→G.Y→G.T→Rt)(a1:List G.E)(a2:Int)(b0:G.Z)(b108:G.Y)(b106:G.T):Rt:=
 obL [i6,.bool] (c 53 [yS 15 a1,yR 1 b108]) fun(r0:Int×Bool×Unit)=>
 e4 r0.1 a1 a2 (0:Int) ([]:List G.T) b0 b108 b106
def V17x3(n:Nt):List G.E→Int→G.Z→G.Y→G.T→Rt:=fun x0 x1 x2 x3 x4=>n [yS 15 x0,yI x1,yR 0 x2,yR 1 x3,yR 3 x4]
def X17x3:=V17x3 (xD zC e [1,1,1,0,1,1,1,0] aF4 (aC8 c e))
def B17x4(c:TC0)(n4:Int→List G.E→Int→Int→List G.T→G.Z→G.Y→G.T→Rt)(a11:Int)(a1:List G.E)(a2:Int)(a14:Int)(a13:List G.T)(b0:G.Z)(b108:G.Y)(b106:G.T):Rt:=
 cnd (decide (a14<a11)) (obL [.rc 3,.rc 0] (c 17 [yS 15 a1,yI (IntKind.i64.wrap (a2-(1:Int))),yR 0 b0]) fun(r0:G.T×G.Z×Unit)=>
 chk (Nat.ble ((List.length a13+List.length ([r0.1]:List G.T))*176) 1073741824)<|
 n4 a11 a1 a2 (IntKind.i64.wrap (a14+(1:Int))) (a13++([r0.1]:List G.T)) r0.2.1 b108 b106) (obL [.rc 3] (c 41 [yR 1 b108,yS 3 a13]) fun(r1:G.T×Unit)=>
 some [yR 3 r1.1,yR 0 b0])
def V17x4(n:Nt):Int→List G.E→Int→Int→List G.T→G.Z→G.Y→G.T→Rt:=fun x0 x1 x2 x3 x4 x5 x6 x7=>n [yI x0,yS 15 x1,yI x2,yI x3,yS 3 x4,yR 0 x5,yR 1 x6,yR 3 x7]
def X17x4:=V17x4 (xE zC e [1,1,1,0,1,1,1,0,1,1,0,1,0,0] xN (q17x3 c e))
theorem s17x0:V17x0 (xF zC c e)=B17x0 c (X17x1 c e):=by kernel_rfl
theorem s17x1:V17x1 (xA zC c e [1,1,0,1,0] aF6 (q17x1 c e))=B17x1 c (X17x2 c e):=by kernel_rfl
theorem s17x2:V17x2 (xA zC c e [1,1,1,0] aF5 (aC8 c e))=B17x2 c (X17x3 c e):=by kernel_rfl
theorem s17x3:V17x3 (xA zC c e [1,1,1,0,1,1,1,0] aF4 (aC8 c e))=B17x3 c (X17x4 c e):=by kernel_rfl
theorem s17x4(n4:Nt):V17x4 (xA zC c e [1,1,1,0,1,1,1,0,1,1,0,1,0,0] xN (lpK U0 xN n4 (q17x3 c e)))=B17x4 c (V17x4 n4):=by kernel_rfl
def aA4(c:TC0)(L:Nat):Nat→Int→List G.E→Int→Int→List G.T→G.Z→G.Y→G.T→Rt
 |0=>fun _ _ _ _ _ _ _ _=>none
 |n+1=>B17x4 c (aA4 c L n)
theorem u17x4(n:Nat):V17x4 (xL zC c L [1,1,1,0,1,1,1,0,1,1,0,1,0,0] xN (q17x3 c (cu c L)) n)=aA4 c L n:=by
 induction n with
 |zero=>rfl
 |succ n ih=>rw[kU,s17x4];simp only[ih];rfl
theorem w17x4:X17x4 c (cu c L)=aA4 c L L:=u17x4 c L L
def J17x3(c:TC0)(L:Nat):List G.E→Int→G.Z→G.Y→G.T→Rt:=B17x3 c (aA4 c L L)
theorem j17x3:X17x3 c (cu c L)=J17x3 c L:=by rw[X17x3,aV,s17x3];simp only[w17x4];rfl
def aG2(c:TC0)(L:Nat):Int→List G.E→Int→G.Z→G.T→Rt:=B17x2 c (J17x3 c L)
theorem j17x2:X17x2 c (cu c L)=aG2 c L:=by rw[X17x2,aV,s17x2];simp only[j17x3];rfl
def aDJ(c:TC0)(L:Nat):Bool→Int→List G.E→Int→G.Z→G.T→Rt:=B17x1 c (aG2 c L)
theorem j17x1:X17x1 c (cu c L)=aDJ c L:=by rw[X17x1,aV,s17x1];simp only[j17x2];rfl
def F17(c:TC0)(L:Nat):List G.E→Int→G.Z→Rt:=B17x0 c (aDJ c L)
theorem e17:V17x0 (xF zC c (cu c L))=F17 c L:=by rw[s17x0];simp only[j17x1];rfl
theorem c17(a1:List G.E)(a2:Int)(b0:G.Z)(L n:Nat):CTp L (n+1) 17 [yS 15 a1,yI a2,yR 0 b0]=F17 (CTp L n) L a1 a2 b0:=by rw[←e17];exact cg (x:=zC) (by kernel_rfl) (by kernel_rfl) L n _
def q18x0(c:TC0)(e:Cu):Kt:=xK ii18
def B18x0(c:TC0)(k1:Bool→Rt)(a0:G.O):Rt:=
 cnd (decide (a0.kind=(2:Int))) (k1 (decide (a0.sym=(G.Y.mk ([108,105,115,112]:List UInt8) ([110,105,108]:List UInt8))))) (k1 false)
def V18x0(n:Nt):G.O→Rt:=fun x0=>n [yR 2 x0]
def B18x1(c:TC0)(a2:Bool):Rt:=
 some [yB a2]
def V18x1(n:Nt):Bool→Rt:=fun x0=>n [yB x0]
def X18x1:=V18x1 (xD ii18 e [1,1,0] aF3 (q18x0 c e))
theorem s18x0:V18x0 (xF ii18 c e)=B18x0 c (X18x1 c e):=by kernel_rfl
theorem s18x1:V18x1 (xA ii18 c e [1,1,0] aF3 (q18x0 c e))=B18x1 c:=by kernel_rfl
def J18x1(c:TC0)(L:Nat):Bool→Rt:=B18x1 c
theorem j18x1:X18x1 c (cu c L)=J18x1 c L:=by rw[X18x1,aV,s18x1];rfl
def F18(c:TC0)(L:Nat):G.O→Rt:=B18x0 c (J18x1 c L)
theorem e18:V18x0 (xF ii18 c (cu c L))=F18 c L:=by rw[s18x0];simp only[j18x1];rfl
theorem c18(a0:G.O)(L n:Nat):CTp L (n+1) 18 [yR 2 a0]=F18 (CTp L n) L a0:=by rw[←e18];exact cg (x:=ii18) (by kernel_rfl) (by kernel_rfl) L n _
def B19x0(c:TC0)(a0:Bool):Rt:=
 cnd a0 (some [yI (1:Int)]) (some [yI (2:Int)])
def V19x0(n:Nt):Bool→Rt:=fun x0=>n [yB x0]
theorem s19x0:V19x0 (xF ii19 c e)=B19x0 c:=by kernel_rfl
def F19(c:TC0)(L:Nat):Bool→Rt:=B19x0 c
theorem e19:V19x0 (xF ii19 c (cu c L))=F19 c L:=s19x0 _ _
theorem c19(a0:Bool)(L n:Nat):CTp L (n+1) 19 [yB a0]=F19 (CTp L n) L a0:=by rw[←e19];exact cg (x:=ii19) (by kernel_rfl) (by kernel_rfl) L n _
def q20x0(c:TC0)(e:Cu):Kt:=xK ii20
def B20x0(c:TC0)(k1:Bool→Rt)(a0:G.T)(a1:List UInt8)(a2:Int):Rt:=
 cnd (decide (a0.kind=(3:Int))) (cnd (decide (a0.name.package=([108,105,115,112]:List UInt8))) (cnd (decide (a0.name.name=a1)) (k1 (decide ((List.length a0.args:Int)=a2))) (k1 false)) (k1 false)) (k1 false)
def V20x0(n:Nt):G.T→List UInt8→Int→Rt:=fun x0 x1 x2=>n [yR 3 x0,yT x1,yI x2]
def B20x1(c:TC0)(a6:Bool):Rt:=
 some [yB a6]
def V20x1(n:Nt):Bool→Rt:=fun x0=>n [yB x0]
def X20x1:=V20x1 (xD ii20 e [1,1,0] aF2 (q20x0 c e))
theorem s20x0:V20x0 (xF ii20 c e)=B20x0 c (X20x1 c e):=by kernel_rfl
theorem s20x1:V20x1 (xA ii20 c e [1,1,0] aF2 (q20x0 c e))=B20x1 c:=by kernel_rfl
def J20x1(c:TC0)(L:Nat):Bool→Rt:=B20x1 c
theorem j20x1:X20x1 c (cu c L)=J20x1 c L:=by rw[X20x1,aV,s20x1];rfl
def F20(c:TC0)(L:Nat):G.T→List UInt8→Int→Rt:=B20x0 c (J20x1 c L)
theorem e20:V20x0 (xF ii20 c (cu c L))=F20 c L:=by rw[s20x0];simp only[j20x1];rfl
theorem c20(a0:G.T)(a1:List UInt8)(a2:Int)(L n:Nat):CTp L (n+1) 20 [yR 3 a0,yT a1,yI a2]=F20 (CTp L n) L a0 a1 a2:=by rw[←e20];exact cg (x:=ii20) (by kernel_rfl) (by kernel_rfl) L n _
def q21x0(c:TC0)(e:Cu):Kt:=xK ii21
def q21x1(c:TC0)(e:Cu):Kt:=xT ii21 c e [1,1] (q21x0 c e)
def q21x2(c:TC0)(e:Cu):Kt:=eA U0 0 (q21x1 c e)
def B21x0(c:TC0)(e1:Int→List G.T→Int→G.T→Rt)(a0:List G.T)(a1:G.T):Rt:=
 e1 (List.length a0:Int) a0 (0:Int) a1
def V21x0(n:Nt):List G.T→G.T→Rt:=fun x0 x1=>n [yS 3 x0,yR 3 x1]
def B21x1(c:TC0)(n1:Int→List G.T→Int→G.T→Rt)(a8:Int)(a7:List G.T)(a9:Int)(b103:G.T):Rt:=
 cnd (decide (a9<a8)) (ob (idx a7 a9) fun v0=>
 obL [.bool] (c 24 [yR 3 v0,yR 3 b103]) fun(r1:Bool×Unit)=>
 cnd r1.1 (some [yB true]) (n1 a8 a7 (IntKind.i64.wrap (a9+(1:Int))) b103)) (some [yB false])
def V21x1(n:Nt):Int→List G.T→Int→G.T→Rt:=fun x0 x1 x2 x3=>n [yI x0,yS 3 x1,yI x2,yR 3 x3]
def X21x1:=V21x1 (xE ii21 e [1,0,1,0,0] xM (q21x2 c e))
theorem s21x0:V21x0 (xF ii21 c e)=B21x0 c (X21x1 c e):=by kernel_rfl
theorem s21x1(n1:Nt):V21x1 (xA ii21 c e [1,0,1,0,0] xM (lpK U0 xM n1 (q21x2 c e)))=B21x1 c (V21x1 n1):=by kernel_rfl
def aA3(c:TC0)(L:Nat):Nat→Int→List G.T→Int→G.T→Rt
 |0=>fun _ _ _ _=>none
 |n+1=>B21x1 c (aA3 c L n)
theorem u21x1(n:Nat):V21x1 (xL ii21 c L [1,0,1,0,0] xM (q21x2 c (cu c L)) n)=aA3 c L n:=by
 induction n with
 |zero=>rfl
 |succ n ih=>rw[kU,s21x1];simp only[ih];rfl
theorem w21x1:X21x1 c (cu c L)=aA3 c L L:=u21x1 c L L
def F21(c:TC0)(L:Nat):List G.T→G.T→Rt:=B21x0 c (aA3 c L L)
theorem e21:V21x0 (xF ii21 c (cu c L))=F21 c L:=by rw[s21x0];simp only[w21x1];rfl
theorem c21(a0:List G.T)(a1:G.T)(L n:Nat):CTp L (n+1) 21 [yS 3 a0,yR 3 a1]=F21 (CTp L n) L a0 a1:=by rw[←e21];exact cg (x:=ii21) (by kernel_rfl) (by kernel_rfl) L n _
def B22x0(c:TC0)(a0:G.T):Rt:=
 obL [.bool] (c 54 [yR 3 a0,yT ([110,111,116]:List UInt8),yI (1:Int)]) fun(r0:Bool×Unit)=>
 cnd r0.1 (ob (idx a0.args (0:Int)) fun v1=>
 some [yR 3 v1]) (obL [.rc 3] (c 55 [yT ([110,111,116]:List UInt8),yS 3 ([a0]:List G.T)]) fun(r2:G.T×Unit)=>
 some [yR 3 r2.1])
def V22x0(n:Nt):G.T→Rt:=fun x0=>n [yR 3 x0]
theorem s22x0:V22x0 (xF ii22 c e)=B22x0 c:=by kernel_rfl
def F22(c:TC0)(L:Nat):G.T→Rt:=B22x0 c
theorem e22:V22x0 (xF ii22 c (cu c L))=F22 c L:=s22x0 _ _
theorem c22(a0:G.T)(L n:Nat):CTp L (n+1) 22 [yR 3 a0]=F22 (CTp L n) L a0:=by rw[←e22];exact cg (x:=ii22) (by kernel_rfl) (by kernel_rfl) L n _
def B23x0(c:TC0)(a0:G.T)(a1:G.T):Rt:=
 obL [.rc 3] (c 55 [yT ([101,113,117,97,108]:List UInt8),yS 3 ([a0,a1]:List G.T)]) fun(r0:G.T×Unit)=>
 some [yR 3 r0.1]
def V23x0(n:Nt):G.T→G.T→Rt:=fun x0 x1=>n [yR 3 x0,yR 3 x1]
theorem s23x0:V23x0 (xF ii23 c e)=B23x0 c:=by kernel_rfl
def F23(c:TC0)(L:Nat):G.T→G.T→Rt:=B23x0 c
theorem e23:V23x0 (xF ii23 c (cu c L))=F23 c L:=s23x0 _ _
theorem c23(a0:G.T)(a1:G.T)(L n:Nat):CTp L (n+1) 23 [yR 3 a0,yR 3 a1]=F23 (CTp L n) L a0 a1:=by rw[←e23];exact cg (x:=ii23) (by kernel_rfl) (by kernel_rfl) L n _
def q24x0(c:TC0)(e:Cu):Kt:=xK ii24
def B24x0(c:TC0)(k1:Bool→Rt)(a0:G.T)(a1:G.T):Rt:=
 cnd (decide (a0.kind=a1.kind)) (cnd (decide (a0.name=a1.name)) (obL [.bool] (c 56 [yR 2 a0.value,yR 2 a1.value]) fun(r0:Bool×Unit)=>
 cnd r0.1 (obL [.bool] (c 57 [yS 3 a0.args,yS 3 a1.args]) fun(r1:Bool×Unit)=>
 k1 r1.1) (k1 false)) (k1 false)) (k1 false)
def V24x0(n:Nt):G.T→G.T→Rt:=fun x0 x1=>n [yR 3 x0,yR 3 x1]
def B24x1(c:TC0)(a4:Bool):Rt:=
 some [yB a4]
def V24x1(n:Nt):Bool→Rt:=fun x0=>n [yB x0]
def X24x1:=V24x1 (xD ii24 e [1,1,0] aF1 (q24x0 c e))
theorem s24x0:V24x0 (xF ii24 c e)=B24x0 c (X24x1 c e):=by kernel_rfl
theorem s24x1:V24x1 (xA ii24 c e [1,1,0] aF1 (q24x0 c e))=B24x1 c:=by kernel_rfl
def J24x1(c:TC0)(L:Nat):Bool→Rt:=B24x1 c
theorem j24x1:X24x1 c (cu c L)=J24x1 c L:=by rw[X24x1,aV,s24x1];rfl
def F24(c:TC0)(L:Nat):G.T→G.T→Rt:=B24x0 c (J24x1 c L)
theorem e24:V24x0 (xF ii24 c (cu c L))=F24 c L:=by rw[s24x0];simp only[j24x1];rfl
theorem c24(a0:G.T)(a1:G.T)(L n:Nat):CTp L (n+1) 24 [yR 3 a0,yR 3 a1]=F24 (CTp L n) L a0 a1:=by rw[←e24];exact cg (x:=ii24) (by kernel_rfl) (by kernel_rfl) L n _
def B25x0(c:TC0)(a0:G.Y):Rt:=
 cnd (decide (a0.name=([110,111,116]:List UInt8))) (some [yI (0:Int),yB false]) (obL [i6,.bool] (c 58 [yR 1 a0]) fun(r0:Int×Bool×Unit)=>
 some [yI r0.1,yB r0.2.1])
def V25x0(n:Nt):G.Y→Rt:=fun x0=>n [yR 1 x0]
theorem s25x0:V25x0 (xF ii25 c e)=B25x0 c:=by kernel_rfl
def F25(c:TC0)(L:Nat):G.Y→Rt:=B25x0 c
theorem e25:V25x0 (xF ii25 c (cu c L))=F25 c L:=s25x0 _ _
theorem c25(a0:G.Y)(L n:Nat):CTp L (n+1) 25 [yR 1 a0]=F25 (CTp L n) L a0:=by rw[←e25];exact cg (x:=ii25) (by kernel_rfl) (by kernel_rfl) L n _
def q26x0(c:TC0)(e:Cu):Kt:=xK rC
def q26x1(c:TC0)(e:Cu):Kt:=xT rC c e [1,1,1] (q26x0 c e)
def aEC(c:TC0)(e:Cu):Kt:=eA U0 0 (q26x1 c e)
def q26x3(c:TC0)(e:Cu):Kt:=xT rC c e [1,1,1,0,1] (q26x0 c e)
def q26x4(c:TC0)(e:Cu):Kt:=eA U0 5 (q26x3 c e)
def q26x5(c:TC0)(e:Cu)(n3:Nt):Kt:=lpK U0 sR n3 (q26x4 c e)
def q26x6(c:TC0)(e:Cu):Kt:=xT rC c e [1,1,0,0,1,1,1,0,0,1,1,0,0,1,1] (aEC c e)
def q26x7(c:TC0)(e:Cu):Kt:=eA U0 1 (q26x6 c e)
def aHe(c:TC0)(k1:List G.T→G.T→Int→Rt)(k2:Bool→List G.T→G.T→Int→Rt)(a0:List G.T)(a1:G.T):Rt:=
 cnd (decide (a1.kind=(2:Int))) (obL [i6] (c 59 [yR 2 a1.value]) fun(r0:Int×Unit)=>
 k1 a0 a1 r0.1) (cnd (decide (a1.kind=(3:Int))) (obL [.bool] (c 20 [yR 3 a1,yT ([105,102]:List UInt8),yI (List.length a1.args:Int)]) fun(r1:Bool×Unit)=>
 k2 (!r1.1) a0 a1 (2047:Int)) (k2 false a0 a1 (2047:Int)))
def V26x0(n:Nt):List G.T→G.T→Rt:=fun x0 x1=>n [yS 3 x0,yR 3 x1]
def B26x1(c:TC0)(e3:Int→List G.T→G.T→Int→Int→Rt)(a0:List G.T)(b103:G.T)(b105:Int):Rt:=
 e3 (List.length a0:Int) a0 b103 (0:Int) b105
def V26x1(n:Nt):List G.T→G.T→Int→Rt:=fun x0 x1 x2=>n [yS 3 x0,yR 3 x1,yI x2]
def aDG:=V26x1 (xD rC e [1,1,1,0] aF0 (q26x0 c e))
def aA7(c:TC0)(k4:Bool→Int→List G.T→G.T→Int→Rt)(k1:List G.T→G.T→Int→Rt)(a18:Bool)(a0:List G.T)(b103:G.T)(b105:Int):Rt:=
 cnd a18 (obL [i6,.bool] (c 60 [yR 1 b103.name]) fun(r0:Int×Bool×Unit)=>
 cnd r0.2.1 (k4 (decide (r0.1=(List.length b103.args:Int))) r0.1 a0 b103 b105) (k4 false r0.1 a0 b103 b105)) (k1 a0 b103 b105)
def V26x2(n:Nt):Bool→List G.T→G.T→Int→Rt:=fun x0 x1 x2 x3=>n [yB x0,yS 3 x1,yR 3 x2,yI x3]
def X26x2:=V26x2 (xD rC e [1,1,0,0,1,1,1,0] aFZ (aEC c e))
def B26x3(c:TC0)(k5:Int→Int→List G.T→G.T→Int→Rt)(a72:Int)(a71:List G.T)(a70:G.T)(a73:Int)(b105:Int):Rt:=
 cnd (decide (a73<a72)) (ob (idx a71 a73) fun v0=>
 obL [i6,.rc 3,.bool] (c 61 [yR 3 v0,yR 3 a70]) fun(r1:Int×G.T×Bool×Unit)=>
 cnd r1.2.2.1 (obL [.rc 3] (c 22 [yR 3 v0]) fun(r2:G.T×Unit)=>
 k5 a73 a72 a71 a70 (IntKind.i64.wrap ((BitVec.ofInt IntKind.i64.bits b105&&&BitVec.ofInt IntKind.i64.bits r1.1).toNat:Int))) (k5 a73 a72 a71 a70 b105)) (some [yI b105])
def aGX(n:Nt):Int→List G.T→G.T→Int→Int→Rt:=fun x0 x1 x2 x3 x4=>n [yI x0,yS 3 x1,yR 3 x2,yI x3,yI x4]
def X26x3:=aGX (xE rC e [1,1,1,0,0,1,0,0] sR (q26x4 c e))
def B26x4(c:TC0)(e6:Int→Int→List G.T→List Int→G.T→Int→Rt)(k1:List G.T→G.T→Int→Rt)(a43:Bool)(a6:Int)(a0:List G.T)(b103:G.T)(b105:Int):Rt:=
 cnd a43 (chk (decide (0≤a6)&&decide (a6≤a6)&&decide (a6*(8:Int)≤1073741824)&&decide (a6≤1073741824))<|
 chk (decide (a6=a6))<|
 e6 (List.length (vN (0:Int) (Int.toNat a6)):Int) (0:Int) a0 (vN (0:Int) (Int.toNat a6)) b103 b105) (k1 a0 b103 b105)
def V26x4(n:Nt):Bool→Int→List G.T→G.T→Int→Rt:=fun x0 x1 x2 x3 x4=>n [yB x0,yI x1,yS 3 x2,yR 3 x3,yI x4]
def X26x4:=V26x4 (xD rC e [1,1,0,0,1,1,1,0,0,1,1,0] aFY (aEC c e))
def B26x5(c:TC0)(n3:Int→List G.T→G.T→Int→Int→Rt)(a73:Int)(a72:Int)(a71:List G.T)(a70:G.T)(b105:Int):Rt:=
 n3 a72 a71 a70 (IntKind.i64.wrap (a73+(1:Int))) b105
def V26x5(n:Nt):Int→Int→List G.T→G.T→Int→Rt:=fun x0 x1 x2 x3 x4=>n [yI x0,yI x1,yS 3 x2,yR 3 x3,yI x4]
def X26x5(n3:Nt):=V26x5 (xD rC e [1,1,1,0,0,1,0,0,1,1,1,1,1,0] aFX (q26x5 c e n3))
def B26x6(c:TC0)(n6:Int→Int→List G.T→List Int→G.T→Int→Rt)(k1:List G.T→G.T→Int→Rt)(a47:Int)(a48:Int)(a0:List G.T)(b145:List Int)(b103:G.T)(b105:Int):Rt:=
 cnd (decide (a48<a47)) (chk (bC a48 (List.length b145))<|
 ob (idx b145 a48) fun v0=>
 n6 a47 (IntKind.i64.wrap (a48+(1:Int))) a0 (List.set b145 (Int.toNat a48) (2047:Int)) b103 b105) (obL [i6] (c 62 [yR 1 b103.name,⟨.sl i6,b145⟩]) fun(r1:Int×Unit)=>
 k1 a0 b103 r1.1)
def V26x6(n:Nt):Int→Int→List G.T→List Int→G.T→Int→Rt:=fun x0 x1 x2 x3 x4 x5=>n [yI x0,yI x1,yS 3 x2,⟨.sl i6,x3⟩,yR 3 x4,yI x5]
def X26x6:=V26x6 (xE rC e [1,1,0,0,1,1,1,0,0,1,1,0,0,1,0,1,0,0] xJ (q26x7 c e))
theorem s26x0:V26x0 (xF rC c e)=aHe c (aDG c e) (X26x2 c e):=by kernel_rfl
theorem s26x1:V26x1 (xA rC c e [1,1,1,0] aF0 (q26x0 c e))=B26x1 c (X26x3 c e):=by kernel_rfl
theorem s26x2:V26x2 (xA rC c e [1,1,0,0,1,1,1,0] aFZ (aEC c e))=aA7 c (X26x4 c e) (aDG c e):=by kernel_rfl
theorem s26x3(n3:Nt):aGX (xA rC c e [1,1,1,0,0,1,0,0] sR (lpK U0 sR n3 (q26x4 c e)))=B26x3 c (X26x5 c e n3):=by kernel_rfl
theorem s26x4:V26x4 (xA rC c e [1,1,0,0,1,1,1,0,0,1,1,0] aFY (aEC c e))=B26x4 c (X26x6 c e) (aDG c e):=by kernel_rfl
theorem s26x5(n3:Nt):V26x5 (xA rC c e [1,1,1,0,0,1,0,0,1,1,1,1,1,0] aFX (q26x5 c e n3))=B26x5 c (aGX n3):=by kernel_rfl
theorem s26x6(n6:Nt):V26x6 (xA rC c e [1,1,0,0,1,1,1,0,0,1,1,0,0,1,0,1,0,0] xJ (lpK U0 xJ n6 (q26x7 c e)))=B26x6 c (V26x6 n6) (aDG c e):=by kernel_rfl
def J26x5(c:TC0)(L:Nat)(n3:Int→List G.T→G.T→Int→Int→Rt):Int→Int→List G.T→G.T→Int→Rt:=B26x5 c n3
theorem j26x5(n3:Nt):X26x5 c (cu c L) n3=J26x5 c L (aGX n3):=by rw[X26x5,aV,s26x5];rfl
def aA2(c:TC0)(L:Nat):Nat→Int→List G.T→G.T→Int→Int→Rt
 |0=>fun _ _ _ _ _=>none
 |n+1=>B26x3 c (J26x5 c L (aA2 c L n))
theorem u26x3(n:Nat):aGX (xL rC c L [1,1,1,0,0,1,0,0] sR (q26x4 c (cu c L)) n)=aA2 c L n:=by
 induction n with
 |zero=>rfl
 |succ n ih=>rw[kU,s26x3];simp only[j26x5,ih];rfl
theorem w26x3:X26x3 c (cu c L)=aA2 c L L:=u26x3 c L L
def rN(c:TC0)(L:Nat):List G.T→G.T→Int→Rt:=B26x1 c (aA2 c L L)
theorem j26x1:aDG c (cu c L)=rN c L:=by rw[aDG,aV,s26x1];simp only[w26x3];rfl
def W26x6(c:TC0)(L:Nat):Nat→Int→Int→List G.T→List Int→G.T→Int→Rt
 |0=>fun _ _ _ _ _ _=>none
 |n+1=>B26x6 c (W26x6 c L n) (rN c L)
theorem u26x6(n:Nat):V26x6 (xL rC c L [1,1,0,0,1,1,1,0,0,1,1,0,0,1,0,1,0,0] xJ (q26x7 c (cu c L)) n)=W26x6 c L n:=by
 induction n with
 |zero=>rfl
 |succ n ih=>rw[kU,s26x6];simp only[j26x1,ih];rfl
theorem w26x6:X26x6 c (cu c L)=W26x6 c L L:=u26x6 c L L
def aG1(c:TC0)(L:Nat):Bool→Int→List G.T→G.T→Int→Rt:=B26x4 c (W26x6 c L L) (rN c L)
theorem j26x4:X26x4 c (cu c L)=aG1 c L:=by rw[X26x4,aV,s26x4];simp only[w26x6,j26x1];rfl
def aDI(c:TC0)(L:Nat):Bool→List G.T→G.T→Int→Rt:=aA7 c (aG1 c L) (rN c L)
theorem j26x2:X26x2 c (cu c L)=aDI c L:=by rw[X26x2,aV,s26x2];simp only[j26x4,j26x1];rfl
def F26(c:TC0)(L:Nat):List G.T→G.T→Rt:=aHe c (rN c L) (aDI c L)
theorem e26:V26x0 (xF rC c (cu c L))=F26 c L:=by rw[s26x0];simp only[j26x1,j26x2];rfl
theorem c26(a0:List G.T)(a1:G.T)(L n:Nat):CTp L (n+1) 26 [yS 3 a0,yR 3 a1]=F26 (CTp L n) L a0 a1:=by rw[←e26];exact cg (x:=rC) (by kernel_rfl) (by kernel_rfl) L n _
def B29x0(c:TC0):Rt:=
 obL [zS 5] (c 63 []) fun(r0:List G.A×Unit)=>
 obL [.str] (c 64 []) fun(r1:List UInt8×Unit)=>
 obL [zS 2,.rc 18] (c 65 [yS 5 r0.1,yT ([108,105,115,112]:List UInt8),yT r1.1]) fun(r2:List G.O×G.X×Unit)=>
 some [yS 2 r2.1]
def V29x0(n:Nt):Rt:=n []
theorem s29x0:V29x0 (xF ii29 c e)=B29x0 c:=by kernel_rfl
def F29(c:TC0)(L:Nat):Rt:=B29x0 c
theorem e29:V29x0 (xF ii29 c (cu c L))=F29 c L:=s29x0 _ _
theorem c29(L n:Nat):CTp L (n+1) 29 []=F29 (CTp L n) L:=by rw[←e29];exact cg (x:=ii29) (by kernel_rfl) (by kernel_rfl) L n _
def B50x0(c:TC0):Rt:=
 some [⟨(.sl .str),([([99,97,114]:List UInt8),([99,100,114]:List UInt8),([99,111,110,115]:List UInt8),([99,111,110,115,112]:List UInt8),([110,111,116]:List UInt8),([101,113,117,97,108]:List UInt8),([105,102]:List UInt8),([98,105,110,97,114,121,45,43]:List UInt8),([60]:List UInt8),([105,110,116,101,103,101,114,112]:List UInt8),([108,101,110]:List UInt8),([98,105,110,97,114,121,45,97,112,112,101,110,100]:List UInt8),([114,101,118]:List UInt8),([116,114,117,101,45,108,105,115,116,112]:List UInt8),([110,97,116,112]:List UInt8),([112,111,115,112]:List UInt8),([117,110,97,114,121,45,45]:List UInt8),([98,105,110,97,114,121,45,42]:List UInt8),([105,109,112,108,105,101,115]:List UInt8),([115,121,109,98,111,108,112]:List UInt8),([114,97,116,105,111,110,97,108,112]:List UInt8),([102,105,120]:List UInt8),([105,102,102]:List UInt8),([110,102,105,120]:List UInt8),([122,112]:List UInt8)]:List (List UInt8))⟩]
def V50x0(n:Nt):Rt:=n []
theorem s50x0:V50x0 (xF ii50 c e)=B50x0 c:=by kernel_rfl
def F50(c:TC0)(L:Nat):Rt:=B50x0 c
theorem e50:V50x0 (xF ii50 c (cu c L))=F50 c L:=s50x0 _ _
theorem c50(L n:Nat):CTp L (n+1) 50 []=F50 (CTp L n) L:=by rw[←e50];exact cg (x:=ii50) (by kernel_rfl) (by kernel_rfl) L n _
def B51x0(c:TC0):Rt:=
 some [⟨(.sl .str),([([100,117,98]:List UInt8),([115,97,109,101,45,108,101,110]:List UInt8),([112,97,105,114,115]:List UInt8),([100,117,98,115]:List UInt8),([116,114,101,101]:List UInt8),([101,118,101,110,115]:List UInt8),([111,100,100,115]:List UInt8),([120,111,114,50]:List UInt8)]:List (List UInt8))⟩]
def V51x0(n:Nt):Rt:=n []
theorem s51x0:V51x0 (xF ii51 c e)=B51x0 c:=by kernel_rfl
def F51(c:TC0)(L:Nat):Rt:=B51x0 c
theorem e51:V51x0 (xF ii51 c (cu c L))=F51 c L:=s51x0 _ _
theorem c51(L n:Nat):CTp L (n+1) 51 []=F51 (CTp L n) L:=by rw[←e51];exact cg (x:=ii51) (by kernel_rfl) (by kernel_rfl) L n _
def B53x0(c:TC0)(a0:List G.E)(a1:G.Y):Rt:=
 obL [i6,.bool] (c 73 [yR 1 a1]) fun(r0:Int×Bool×Unit)=>
 cnd r0.2.1 (some [yI r0.1,yB true]) (obL [.rc 4,.bool] (c 74 [yS 15 a0,yR 1 a1]) fun(r1:G.F×Bool×Unit)=>
 cnd (!r1.2.1) (some [yI (0:Int),yB false]) (some [yI (List.length r1.1.params:Int),yB true]))
def V53x0(n:Nt):List G.E→G.Y→Rt:=fun x0 x1=>n [yS 15 x0,yR 1 x1]
theorem s53x0:V53x0 (xF ii53 c e)=B53x0 c:=by kernel_rfl
def F53(c:TC0)(L:Nat):List G.E→G.Y→Rt:=B53x0 c
theorem e53:V53x0 (xF ii53 c (cu c L))=F53 c L:=s53x0 _ _
theorem c53(a0:List G.E)(a1:G.Y)(L n:Nat):CTp L (n+1) 53 [yS 15 a0,yR 1 a1]=F53 (CTp L n) L a0 a1:=by rw[←e53];exact cg (x:=ii53) (by kernel_rfl) (by kernel_rfl) L n _
def q54x0(c:TC0)(e:Cu):Kt:=xK ii54
def B54x0(c:TC0)(k1:Bool→Rt)(a0:G.T)(a1:List UInt8)(a2:Int):Rt:=
 cnd (decide (a0.kind=(3:Int))) (cnd (decide (a0.name=(G.Y.mk ([108,105,115,112]:List UInt8) a1))) (k1 (decide ((List.length a0.args:Int)=a2))) (k1 false)) (k1 false)
def V54x0(n:Nt):G.T→List UInt8→Int→Rt:=fun x0 x1 x2=>n [yR 3 x0,yT x1,yI x2]
def B54x1(c:TC0)(a6:Bool):Rt:=
 some [yB a6]
def V54x1(n:Nt):Bool→Rt:=fun x0=>n [yB x0]
def X54x1:=V54x1 (xD ii54 e [1,1,0] aFV (q54x0 c e))
theorem s54x0:V54x0 (xF ii54 c e)=B54x0 c (X54x1 c e):=by kernel_rfl
theorem s54x1:V54x1 (xA ii54 c e [1,1,0] aFV (q54x0 c e))=B54x1 c:=by kernel_rfl
def J54x1(c:TC0)(L:Nat):Bool→Rt:=B54x1 c
theorem j54x1:X54x1 c (cu c L)=J54x1 c L:=by rw[X54x1,aV,s54x1];rfl
def F54(c:TC0)(L:Nat):G.T→List UInt8→Int→Rt:=B54x0 c (J54x1 c L)
theorem e54:V54x0 (xF ii54 c (cu c L))=F54 c L:=by rw[s54x0];simp only[j54x1];rfl
theorem c54(a0:G.T)(a1:List UInt8)(a2:Int)(L n:Nat):CTp L (n+1) 54 [yR 3 a0,yT a1,yI a2]=F54 (CTp L n) L a0 a1 a2:=by rw[←e54];exact cg (x:=ii54) (by kernel_rfl) (by kernel_rfl) L n _
def B55x0(c:TC0)(a0:List UInt8)(a1:List G.T):Rt:=
 obL [.rc 3] (c 75 [yR 1 (G.Y.mk ([108,105,115,112]:List UInt8) a0),yS 3 a1]) fun(r0:G.T×Unit)=>
 some [yR 3 r0.1]
def V55x0(n:Nt):List UInt8→List G.T→Rt:=fun x0 x1=>n [yT x0,yS 3 x1]
theorem s55x0:V55x0 (xF ii55 c e)=B55x0 c:=by kernel_rfl
def F55(c:TC0)(L:Nat):List UInt8→List G.T→Rt:=B55x0 c
theorem e55:V55x0 (xF ii55 c (cu c L))=F55 c L:=s55x0 _ _
theorem c55(a0:List UInt8)(a1:List G.T)(L n:Nat):CTp L (n+1) 55 [yT a0,yS 3 a1]=F55 (CTp L n) L a0 a1:=by rw[←e55];exact cg (x:=ii55) (by kernel_rfl) (by kernel_rfl) L n _
def q56x0(c:TC0)(e:Cu):Kt:=xK aAd
def q56x1(c:TC0)(e:Cu):Kt:=eA U0 0 (q56x0 c e)
def q56x2(c:TC0)(e:Cu)(n1:Nt):Kt:=lpK U0 sQ n1 (q56x1 c e)
def q56x3(c:TC0)(e:Cu)(n1:Nt):Kt:=eA U0 1 (q56x2 c e n1)
def q56x4(c:TC0)(e:Cu)(n1:Nt):Kt:=xT aAd c e [1,0,0,0,1] (q56x3 c e n1)
def q56x5(c:TC0)(e:Cu)(n1:Nt):Kt:=xT aAd c e [1,0,0,0,1,1,1,1] (q56x3 c e n1)
def q56x6(c:TC0)(e:Cu)(n1:Nt):Kt:=eA U0 2 (q56x5 c e n1)
def B56x0(c:TC0)(e1:G.O→G.O→Rt)(a0:G.O)(a1:G.O):Rt:=
 e1 a0 a1
def V56x0(n:Nt):G.O→G.O→Rt:=fun x0 x1=>n [yR 2 x0,yR 2 x1]
def B56x1(c:TC0)(k2:Bool→G.O→G.O→Rt)(b102:G.O)(b103:G.O):Rt:=
 cnd (!decide (b102.kind=b103.kind)) (k2 true b102 b103) (cnd (!decide (b102.num=b103.num)) (k2 true b102 b103) (cnd (!decide (b102.den=b103.den)) (k2 true b102 b103) (cnd (!decide (b102.sym=b103.sym)) (k2 true b102 b103) (cnd (!decide (b102.text=b103.text)) (k2 true b102 b103) (k2 (!decide ((List.length b102.pair:Int)=(List.length b103.pair:Int))) b102 b103)))))
def aA6(n:Nt):G.O→G.O→Rt:=fun x0 x1=>n [yR 2 x0,yR 2 x1]
def X56x1:=aA6 (xE aAd e [1,0,0] sQ (q56x1 c e))
def B56x2(c:TC0)(e3:Int→Int→Int→G.O→G.O→Rt)(a48:Bool)(b102:G.O)(b103:G.O):Rt:=
 cnd a48 (some [yB false]) (cnd (decide ((List.length b102.pair:Int)=(0:Int))) (some [yB true]) (e3 (IntKind.i64.wrap ((List.length b102.pair:Int)-(1:Int))) (0:Int) (List.length b102.pair:Int) b102 b103))
def V56x2(n:Nt):Bool→G.O→G.O→Rt:=fun x0 x1 x2=>n [yB x0,yR 2 x1,yR 2 x2]
def X56x2(n1:Nt):=V56x2 (xD aAd e [1,0,0,0,0,1,0] aFU (q56x4 c e n1))
def B56x3(c:TC0)(n3:Int→Int→Int→G.O→G.O→Rt)(n1:G.O→G.O→Rt)(a55:Int)(a56:Int)(a5:Int)(b102:G.O)(b103:G.O):Rt:=
 cnd (decide (a56<a55)) (ob (idx b102.pair a56) fun v0=>
 ob (idx b103.pair a56) fun v1=>
 obL [.bool] (c 56 [yR 2 v0,yR 2 v1]) fun(r2:Bool×Unit)=>
 cnd (!r2.1) (some [yB false]) (n3 a55 (IntKind.i64.wrap (a56+(1:Int))) a5 b102 b103)) (ob (idx b102.pair (IntKind.i64.wrap (a5-(1:Int)))) fun v3=>
 ob (idx b103.pair (IntKind.i64.wrap (a5-(1:Int)))) fun v4=>
 n1 v3 v4)
def V56x3(n:Nt):Int→Int→Int→G.O→G.O→Rt:=fun x0 x1 x2 x3 x4=>n [yI x0,yI x1,yI x2,yR 2 x3,yR 2 x4]
def X56x3(n1:Nt):=V56x3 (xE aAd e [1,0,0,0,1,1,1,0,1,0,0] xI (q56x6 c e n1))
theorem s56x0:V56x0 (xF aAd c e)=B56x0 c (X56x1 c e):=by kernel_rfl
theorem s56x1(n1:Nt):aA6 (xA aAd c e [1,0,0] sQ (lpK U0 sQ n1 (q56x1 c e)))=B56x1 c (X56x2 c e n1):=by kernel_rfl
theorem s56x2(n1:Nt):V56x2 (xA aAd c e [1,0,0,0,0,1,0] aFU (q56x4 c e n1))=B56x2 c (X56x3 c e n1):=by kernel_rfl
theorem s56x3(n3:Nt)(n1:Nt):V56x3 (xA aAd c e [1,0,0,0,1,1,1,0,1,0,0] xI (lpK U0 xI n3 (q56x6 c e n1)))=B56x3 c (V56x3 n3) (aA6 n1):=by kernel_rfl
def aA1(c:TC0)(L:Nat)(n1:G.O→G.O→Rt):Nat→Int→Int→Int→G.O→G.O→Rt
 |0=>fun _ _ _ _ _=>none
 |n+1=>B56x3 c (aA1 c L n1 n) n1
theorem u56x3(n1:Nt)(n:Nat):V56x3 (xL aAd c L [1,0,0,0,1,1,1,0,1,0,0] xI (q56x6 c (cu c L) n1) n)=aA1 c L (aA6 n1) n:=by
 induction n with
 |zero=>rfl
 |succ n ih=>rw[kU,s56x3];simp only[ih];rfl
theorem w56x3(n1:Nt):X56x3 c (cu c L) n1=aA1 c L (aA6 n1) L:=u56x3 c L n1 L
def J56x2(c:TC0)(L:Nat)(n1:G.O→G.O→Rt):Bool→G.O→G.O→Rt:=B56x2 c (aA1 c L n1 L)
theorem j56x2(n1:Nt):X56x2 c (cu c L) n1=J56x2 c L (aA6 n1):=by rw[X56x2,aV,s56x2];simp only[w56x3];rfl
def yH(c:TC0)(L:Nat):Nat→G.O→G.O→Rt
 |0=>fun _ _=>none
 |n+1=>B56x1 c (J56x2 c L (yH c L n))
theorem u56x1(n:Nat):aA6 (xL aAd c L [1,0,0] sQ (q56x1 c (cu c L)) n)=yH c L n:=by
 induction n with
 |zero=>rfl
 |succ n ih=>rw[kU,s56x1];simp only[j56x2,ih];rfl
theorem w56x1:X56x1 c (cu c L)=yH c L L:=u56x1 c L L
def F56(c:TC0)(L:Nat):G.O→G.O→Rt:=B56x0 c (yH c L L)
theorem e56:V56x0 (xF aAd c (cu c L))=F56 c L:=by rw[s56x0];simp only[w56x1];rfl
theorem c56(a0:G.O)(a1:G.O)(L n:Nat):CTp L (n+1) 56 [yR 2 a0,yR 2 a1]=F56 (CTp L n) L a0 a1:=by rw[←e56];exact cg (x:=aAd) (by kernel_rfl) (by kernel_rfl) L n _
def q57x0(c:TC0)(e:Cu):Kt:=xK ii57
def q57x1(c:TC0)(e:Cu):Kt:=xT ii57 c e [1,1,1] (q57x0 c e)
def q57x2(c:TC0)(e:Cu):Kt:=eA U0 0 (q57x1 c e)
def B57x0(c:TC0)(e1:Int→List G.T→List G.T→Int→Rt)(a0:List G.T)(a1:List G.T):Rt:=
 cnd (!decide ((List.length a0:Int)=(List.length a1:Int))) (some [yB false]) (e1 (List.length a0:Int) a0 a1 (0:Int))
def V57x0(n:Nt):List G.T→List G.T→Rt:=fun x0 x1=>n [yS 3 x0,yS 3 x1]
def B57x1(c:TC0)(n1:Int→List G.T→List G.T→Int→Rt)(a16:Int)(a15:List G.T)(a1:List G.T)(a17:Int):Rt:=
 cnd (decide (a17<a16)) (ob (idx a15 a17) fun v0=>
 ob (idx a1 a17) fun v1=>
 obL [.bool] (c 24 [yR 3 v0,yR 3 v1]) fun(r2:Bool×Unit)=>
 cnd (!r2.1) (some [yB false]) (n1 a16 a15 a1 (IntKind.i64.wrap (a17+(1:Int))))) (some [yB true])
def V57x1(n:Nt):Int→List G.T→List G.T→Int→Rt:=fun x0 x1 x2 x3=>n [yI x0,yS 3 x1,yS 3 x2,yI x3]
def X57x1:=V57x1 (xE ii57 e [1,1,0,1,0,0] xH (q57x2 c e))
theorem s57x0:V57x0 (xF ii57 c e)=B57x0 c (X57x1 c e):=by kernel_rfl
theorem s57x1(n1:Nt):V57x1 (xA ii57 c e [1,1,0,1,0,0] xH (lpK U0 xH n1 (q57x2 c e)))=B57x1 c (V57x1 n1):=by kernel_rfl
def aA0(c:TC0)(L:Nat):Nat→Int→List G.T→List G.T→Int→Rt
 |0=>fun _ _ _ _=>none
 |n+1=>B57x1 c (aA0 c L n)
theorem u57x1(n:Nat):V57x1 (xL ii57 c L [1,1,0,1,0,0] xH (q57x2 c (cu c L)) n)=aA0 c L n:=by
 induction n with
 |zero=>rfl
 |succ n ih=>rw[kU,s57x1];simp only[ih];rfl
theorem w57x1:X57x1 c (cu c L)=aA0 c L L:=u57x1 c L L
def F57(c:TC0)(L:Nat):List G.T→List G.T→Rt:=B57x0 c (aA0 c L L)
theorem e57:V57x0 (xF ii57 c (cu c L))=F57 c L:=by rw[s57x0];simp only[w57x1];rfl
theorem c57(a0:List G.T)(a1:List G.T)(L n:Nat):CTp L (n+1) 57 [yS 3 a0,yS 3 a1]=F57 (CTp L n) L a0 a1:=by rw[←e57];exact cg (x:=ii57) (by kernel_rfl) (by kernel_rfl) L n _
def B58x0(c:TC0)(a0:G.Y):Rt:=
 cnd (!decide (a0.package=([108,105,115,112]:List UInt8))) (some [yI (0:Int),yB false]) (cnd (decide (a0.name=([99,111,110,115,112]:List UInt8))) (some [yI (1536:Int),yB true]) (cnd (decide (a0.name=([115,121,109,98,111,108,112]:List UInt8))) (some [yI (224:Int),yB true]) (cnd (decide (a0.name=([115,116,114,105,110,103,112]:List UInt8))) (some [yI (256:Int),yB true]) (cnd (decide (a0.name=([114,97,116,105,111,110,97,108,112]:List UInt8))) (some [yI (31:Int),yB true]) (cnd (decide (a0.name=([105,110,116,101,103,101,114,112]:List UInt8))) (some [yI (7:Int),yB true]) (cnd (decide (a0.name=([110,111,116]:List UInt8))) (some [yI (32:Int),yB true]) (some [yI (0:Int),yB false])))))))
def V58x0(n:Nt):G.Y→Rt:=fun x0=>n [yR 1 x0]
theorem s58x0:V58x0 (xF ii58 c e)=B58x0 c:=by kernel_rfl
def F58(c:TC0)(L:Nat):G.Y→Rt:=B58x0 c
theorem e58:V58x0 (xF ii58 c (cu c L))=F58 c L:=s58x0 _ _
theorem c58(a0:G.Y)(L n:Nat):CTp L (n+1) 58 [yR 1 a0]=F58 (CTp L n) L a0:=by rw[←e58];exact cg (x:=ii58) (by kernel_rfl) (by kernel_rfl) L n _
end
end Go.TV
namespace Go.TV
open Go.AI Go.PI Go.Proofs
structure bP(s:G.Z):Prop where
 b: ∀x∈s.b,0≤x∧x<256
 p0:0≤s.pos
 p1:s.pos≤(s.b.length:Int)
 l:s.b.length≤100
def NxR(x:Rt)(a:Int):Prop:= ∃(r:Int) (s:G.Z),x=some [yI r,yR 0 s]∧0≤r∧r<a∧bP s
theorem gM{β:Type}{a:Int}{b:G.Z}{K:Int×G.Z×Unit→Option β}:obL (D:=U0.D) [.int .i64,.rc 0] (some [yI a,yR 0 b]) K=K (a,b,()):=rfl
theorem Nx_ok{s:G.Z}{a:Int}{L n:Nat}(h:bP s)(h1:1≤a):NxR (CTp L (n+1) 12 [yI a,yR 0 s]) a:=by
 rw[c12,F12,B12x0];cases e1:decide ((s.b.length:Int)≤s.pos)with
 |true=>exact⟨0,s,rfl,Int.le_refl _,by omega,h⟩
 |false=>
  have e2:decide (a<(1:Int))=false:=by simp;omega
  simp only[dfN]at e1;rw[aI,e2,J12x1,B12x1,aI];obtain⟨k,hk⟩: ∃k:Nat,s.pos=(k:Int):=⟨s.pos.toNat,by have:=h.p0;omega⟩
  have hl:=h.l;have hkl:k<s.b.length:=by omega
  have e3:s.b[k]?=some s.b[k]:=geG hkl;obtain⟨q1,q2⟩:=h.b s.b[k] (List.getElem_mem hkl);generalize s.b[k]=v at e3 q1 q2;have e4:IntKind.i64.wrap (((k+1:Nat):Int)-1)=(k:Int):=by
   rw[show((k+1:Nat):Int)-1=(k:Int) by omega];exact wrapn (by omega)
  obtain⟨m,rfl⟩: ∃m:Nat,v=(m:Int):=⟨v.toNat,by omega⟩
  rw[hk,gC (by omega),e4,bF,e3,eR,show decide (a=0)=false by simp;omega]
  simp only[Bool.not_false,aAL];rw[wrapn (by omega)]
  exact⟨_,_,rfl,Int.tmod_nonneg _ q1,Int.tmod_lt_of_pos _ (by omega),⟨h.b,by show(0:Int)≤((k+1:Nat):Int);omega,by show((k+1:Nat):Int)≤(s.b.length:Int);omega,h.l⟩⟩
def fns(e:G.E):List G.F:=bif decide (e.kind=3)||decide (e.kind=5)||decide (e.kind=6)||decide (e.kind=7)then e.functions else []
theorem Fn_ok(e:G.E)(L n:Nat):CTp L (n+1) 96 [yR 15 e]=some [yS 4 (fns e)]:=by
 rw[c96];simp only[F96,B96x0,J96x1,B96x1,fns];generalize decide (e.kind=3)=a,decide (e.kind=5)=b,decide (e.kind=6)=d,decide (e.kind=7)=f;cases a<;>cases b<;>cases d<;>cases f<;>rfl
def PlR(E:List G.E)(x:Rt):Prop:= ∃(i k:Int) (b:Bool),x=some [yI i,yI k,yB b]∧(b=true→∃(i' k':Nat) (e:G.E),i=i'∧k=k'∧E[i']?=some e∧k'<(fns e).length)
theorem obL_fl{β:Type}{a:List G.F}{K:List G.F×Unit→Option β}:obL (D:=U0.D) [.sl (.rc 4)] (some [yS 4 a]) K=K (a,()):=rfl
theorem Pl_in{E:List G.E}{f:G.Y}{c:TC0}{L:Nat}{n1:List G.E→Int→G.Y→Rt}{i:Nat}{e:G.E}(he:E[i]?=some e)(hb:(fns e).length<1000000000)(hn:PlR E (n1 E (IntKind.i64.wrap ((i:Int)+1)) f)):
    ∀(r:List G.F) (k m:Nat),(fns e).drop k=r→r.length<m→PlR E (aAU c L n1 m (fns e) (k:Int) (i:Int) E f):=by
 intro r;induction r with
 |nil=>
  intro k m h1 h2;obtain⟨m,rfl⟩: ∃m',m=m'+1:=⟨m-1,by simp at h2;omega⟩
  have e1:=cU h1;have e3:decide ((k:Int)<((fns e).length:Int))=false:=by simp;omega
  rw[aAU,B95x2,e3,aI];exact hn
 |cons x r ih=>
  intro k m h1 h2;obtain⟨m,rfl⟩: ∃m',m=m'+1:=⟨m-1,by simp at h2;omega⟩
  obtain⟨a1,a2,a3⟩:=cB h1;have e3:decide ((k:Int)<((fns e).length:Int))=true:=by simp;omega
  rw[aAU,B95x2,e3,aQ,bF,a1,eR,gC (by omega)]
  cases decide (x.name=f)with
  |true=>exact⟨_,_,true,rfl,fun _=>⟨i,k,e,rfl,rfl,he,a2⟩⟩
  |false=>exact ih (k+1) m a3 (by simp at h2;omega)
theorem Pl_out{E:List G.E}{f:G.Y}{c:TC0}{L:Nat}(hb:E.length<1000000)(hf: ∀e∈E,(fns e).length<L∧(fns e).length<1000000)(hc: ∀e:G.E,c 96 [yR 15 e]=some [yS 4 (fns e)]):
    ∀(r:List G.E) (k m:Nat),E.drop k=r→r.length<m→PlR E (aAV c L m E (k:Int) f):=by
 intro r;induction r with
 |nil=>
  intro k m h1 h2;obtain⟨m,rfl⟩: ∃m',m=m'+1:=⟨m-1,by simp at h2;omega⟩
  have e1:=cU h1;have e3:decide ((k:Int)<(E.length:Int))=false:=by simp;omega
  rw[aAV,B95x1,e3,aI];exact⟨0,0,false,rfl,fun h=>by cases h⟩
 |cons x r ih=>
  intro k m h1 h2;obtain⟨m,rfl⟩: ∃m',m=m'+1:=⟨m-1,by simp at h2;omega⟩
  obtain⟨a1,a2,a3⟩:=cB h1;have e3:decide ((k:Int)<(E.length:Int))=true:=by simp;omega
  rw[aAV,B95x1,e3,aQ,bF,a1,eR,hc,obL_fl];obtain⟨g1,g2⟩:=hf x (List.mem_of_getElem? a1);refine Pl_in a1 (by omega) ?_ (fns x) 0 L rfl g1
  rw[gC (by omega)]
  exact ih (k+1) m a3 (by simp at h2;omega)
structure WOK(E:List G.E):Prop where
 l:E.length≤1000
 f: ∀e∈E,e.functions.length≤1000
 p: ∀e∈E,∀f∈e.functions,f.params.length≤3
theorem fns_mem{e:G.E}{f:G.F}(h:f∈fns e):f∈e.functions:=by
 unfold fns at h;revert h;cases decide (e.kind=3)||decide (e.kind=5)||decide (e.kind=6)||decide (e.kind=7)with
 |true=>exact id
 |false=>intro h;cases h
theorem fns_len(e:G.E):(fns e).length≤e.functions.length:=by
 unfold fns;cases decide (e.kind=3)||decide (e.kind=5)||decide (e.kind=6)||decide (e.kind=7)with
 |true=>exact nlR _
 |false=>exact Nat.zero_le _
theorem obL_pl{β:Type}{a b:Int}{d:Bool}{K:Int×Int×Bool×Unit→Option β}:obL (D:=U0.D) [.int .i64,.int .i64,.bool] (some [yI a,yI b,yB d]) K=K (a,b,d,()):=rfl
theorem obL_fb{β:Type}{a:G.F}{d:Bool}{K:G.F×Bool×Unit→Option β}:obL (D:=U0.D) [.rc 4,.bool] (some [yR 4 a,yB d]) K=K (a,d,()):=rfl
theorem Fu_ok{E:List G.E}(hE:WOK E)(f:G.Y){L n:Nat}(hL:2000≤L): ∃(g:G.F) (b:Bool),CTp L (n+3) 74 [yS 15 E,yR 1 f]=some [yR 4 g,yB b]∧g.params.length≤3:=by
 have h94:PlR E (CTp L (n+2) 95 [yS 15 E,yR 1 f]):=by
  show PlR E (CTp L (n+1+1) 95 _);rw[c95,F95,B95x0];have:=hE.l;exact Pl_out (by omega) (fun e he=>by have:=hE.f e he;have:=fns_len e;omega) (fun e=>Fn_ok e L n) E 0 L rfl (by omega)
 obtain⟨i,k,b,h94,hb⟩:=h94;show∃(g:G.F) (b:Bool),CTp L (n+2+1) 74 _=_∧_;rw[c74,F74,B74x0,h94,obL_pl];cases b with
 |false=>exact⟨_,_,rfl,Nat.zero_le _⟩
 |true=>
  obtain⟨i',k',e,rfl,rfl,h1,h2⟩:=hb rfl;have h3:(fns e)[k']?=some (fns e)[k']:=geG h2;simp only[bnT,aI];rw[bF,h1,eR,Fn_ok,obL_fl];simp only[bF,h3,eR];exact⟨_,_,rfl,hE.p e (List.mem_of_getElem? h1) _ (fns_mem (List.getElem_mem h2))⟩
theorem rows_ar:(rowsL.all fun r=>decide (0≤r.arity)&&decide (r.arity≤3))=true:=by kernel_rfl
theorem xZ: ∀(l:List G.R),(l.all fun r=>decide (0≤r.arity)&&decide (r.arity≤3))=true→∀s k,jP s l=some k→0≤k∧k≤3
 |[],_,s,k,h=>by cases h
 |r::l,h,s,k,hk=>by
  simp only[alC,bjE,djE]at h;simp only[jP]at hk;split at hk
  ·simp only[ojE]at hk;subst hk;exact h.1
  ·exact xZ l h.2 s k hk
def ArR(x:Rt):Prop:= ∃(k:Nat) (b:Bool),x=some [yI (k:Int),yB b]∧k≤3
theorem Ar_ok{E:List G.E}(hE:WOK E)(f:G.Y){L n:Nat}(hL:2000≤L):ArR (CTp L (n+4) 53 [yS 15 E,yR 1 f]):=by
 have h55:=ArR_ok f L (n+1) (by omega)
 show ArR (CTp L (n+3+1) 53 _);rw[c53,F53,B53x0];show ArR (obL (D:=U0.D) [.int .i64,.bool] (CTp L (n+1+2) 73 [yR 1 f]) _);rw[h55];cases ha:arity f with
 |some k=>
  obtain⟨g1,g2⟩:0≤k∧k≤3:=by
   unfold arity at ha;split at ha
   ·exact xZ rowsL rows_ar _ _ ha
   ·cases ha
  obtain⟨m,rfl⟩: ∃m:Nat,k=(m:Int):=⟨k.toNat,by omega⟩
  exact⟨m,true,rfl,by omega⟩
 |none=>
  simp only[oI];rw[kQ,aI];obtain⟨g,b,h1,h2⟩:=Fu_ok (n:=n) hE f hL;rw[h1,obL_fb];cases b with
  |false=>exact⟨0,false,rfl,by omega⟩
  |true=>exact⟨g.params.length,true,rfl,h2⟩
end Go.TV
namespace Go.TV
open Go.AI Go.PI Go.Proofs
theorem cst_some{t u:Ty}{x:Den U0.D t}{y:Den U0.D u}(h:cst t u x=some y):(⟨t,x⟩:TV U0.D)=⟨u,y⟩:=by
 unfold cst at h;split at h
 ·rename_i e _;subst e;simp only[ojE]at h;subst h;rfl
 ·cases h
theorem aCn: ∀{ts:List Ty} {d:TVs} {r:DenL U0.D ts},dK ts d=some r→d=tvL ts r
 |[],[],_,_=>rfl
 |[],_::_,_,h=>by cases h
 |_::_,[],_,h=>by cases h
 |t::ts,v::d,r,h=>by
  simp only[dK]at h;split at h
  ·rename_i x q h1 h2;simp only[ojE]at h;subst h;show v::d=⟨t,x⟩::tvL ts q;rw[←aCn h2,←cst_some h1]
  ·cases h
def hx(ts:List Ty)(d:TVs)(K:DenL U0.D ts→Rt)(z:Rt):Rt:=match dK ts d with|some r=>K r|none=>z
theorem fG{ts:List Ty}{d:TVs}{K:DenL U0.D ts→Rt}{z:Rt}(h: ∀r,d=tvL ts r→K r=z):hx ts d K z=z:=by
 unfold hx;split
 ·rename_i r e;exact h r (aCn e)
 ·rfl
def Hk(i:Nat)(h:TC0→Nat→TVs→Rt→Rt)(L m:Nat)(d:TVs):Prop:=h (CTp L m) L d (CTp L (m+1) i d)=CTp L (m+1) i d
theorem evq{b:Bool}{x y z:Rt}(h1:b=true→x=z)(h2:y=z):(bif b then x else y)=z:=by cases b;exact h2;exact h1 rfl
theorem evc{b:Bool}{x y z:Rt}(h1:x=z)(h2:y=z):(bif b then x else y)=z:=by cases b;exact h2;exact h1
noncomputable def hG(i:Nat)(c:TC0)(L:Nat)(d:TVs)(z:Rt):Rt:=
 match pG insL i with
 |some x=>bif Nat.beq x.sig.f orcI.n||Nat.beq x.sig.f orcI.m then z else xF x c (cu c L) d
 |none=>z
theorem kK(i L m:Nat)(d:TVs):hG i (CTp L m) L d (CTp L (m+1) i d)=CTp L (m+1) i d:=by
 unfold hG;split
 ·rename_i x hx;cases hb:Nat.beq x.sig.f orcI.n||Nat.beq x.sig.f orcI.m with
  |true=>rfl
  |false=>exact(cg hx hb L m d).symm
 ·rfl
end Go.TV
namespace Go.TV
open Go.AI Go.PI Go.Proofs
set_option maxRecDepth 20000
def h2(c:TC0)(L:Nat)(d:TVs)(z:Rt):Rt:=hx [(.int .u32)] d (fun r=>F2 c L r.1) z
theorem g2(L m:Nat)(d:TVs):Hk 2 h2 L m d:=fG fun r e=>e▸(c2 r.1 L m).symm
def h8(c:TC0)(L:Nat)(d:TVs)(z:Rt):Rt:=hx [] d (fun _=>F8 c L) z
theorem g8(L m:Nat)(d:TVs):Hk 8 h8 L m d:=fG fun r e=>e▸(c8 L m).symm
def h16(c:TC0)(L:Nat)(d:TVs)(z:Rt):Rt:=hx [i6] d (fun r=>F16 c L r.1) z
theorem g16(L m:Nat)(d:TVs):Hk 16 h16 L m d:=fG fun r e=>e▸(c16 r.1 L m).symm
def h29(c:TC0)(L:Nat)(d:TVs)(z:Rt):Rt:=hx [] d (fun _=>F29 c L) z
theorem g29(L m:Nat)(d:TVs):Hk 29 h29 L m d:=fG fun r e=>e▸(c29 L m).symm
def h50(c:TC0)(L:Nat)(d:TVs)(z:Rt):Rt:=hx [] d (fun _=>F50 c L) z
theorem g50(L m:Nat)(d:TVs):Hk 50 h50 L m d:=fG fun r e=>e▸(c50 L m).symm
def h51(c:TC0)(L:Nat)(d:TVs)(z:Rt):Rt:=hx [] d (fun _=>F51 c L) z
theorem g51(L m:Nat)(d:TVs):Hk 51 h51 L m d:=fG fun r e=>e▸(c51 L m).symm
def h53(c:TC0)(L:Nat)(d:TVs)(z:Rt):Rt:=hx [zS 15,.rc 1] d (fun r=>F53 c L r.1 r.2.1) z
theorem g53(L m:Nat)(d:TVs):Hk 53 h53 L m d:=fG fun r e=>e▸(c53 r.1 r.2.1 L m).symm
def h63(c:TC0)(L:Nat)(d:TVs)(z:Rt):Rt:=hx [] d (fun _=>F63 c L) z
theorem g63(L m:Nat)(d:TVs):Hk 63 h63 L m d:=fG fun r e=>e▸(c63 L m).symm
def h64(c:TC0)(L:Nat)(d:TVs)(z:Rt):Rt:=hx [] d (fun _=>F64 c L) z
theorem g64(L m:Nat)(d:TVs):Hk 64 h64 L m d:=fG fun r e=>e▸(c64 L m).symm
def h65(c:TC0)(L:Nat)(d:TVs)(z:Rt):Rt:=hx [zS 5,.str,.str] d (fun r=>F65 c L r.1 r.2.1 r.2.2.1) z
theorem g65(L m:Nat)(d:TVs):Hk 65 h65 L m d:=fG fun r e=>e▸(c65 r.1 r.2.1 r.2.2.1 L m).symm
def h73(c:TC0)(L:Nat)(d:TVs)(z:Rt):Rt:=hx [.rc 1] d (fun r=>F73 c L r.1) z
theorem g73(L m:Nat)(d:TVs):Hk 73 h73 L m d:=fG fun r e=>e▸(c73 r.1 L m).symm
def h74(c:TC0)(L:Nat)(d:TVs)(z:Rt):Rt:=hx [zS 15,.rc 1] d (fun r=>F74 c L r.1 r.2.1) z
theorem g74(L m:Nat)(d:TVs):Hk 74 h74 L m d:=fG fun r e=>e▸(c74 r.1 r.2.1 L m).symm
def h82(c:TC0)(L:Nat)(d:TVs)(z:Rt):Rt:=hx [i6,.rc 20] d (fun r=>F82 c L r.1 r.2.1) z
theorem g82(L m:Nat)(d:TVs):Hk 82 h82 L m d:=fG fun r e=>e▸(c82 r.1 r.2.1 L m).symm
def h88(c:TC0)(L:Nat)(d:TVs)(z:Rt):Rt:=hx [] d (fun _=>F88 c L) z
theorem g88(L m:Nat)(d:TVs):Hk 88 h88 L m d:=fG fun r e=>e▸(c88 L m).symm
def h95(c:TC0)(L:Nat)(d:TVs)(z:Rt):Rt:=hx [zS 15,.rc 1] d (fun r=>F95 c L r.1 r.2.1) z
theorem g95(L m:Nat)(d:TVs):Hk 95 h95 L m d:=fG fun r e=>e▸(c95 r.1 r.2.1 L m).symm
def h96(c:TC0)(L:Nat)(d:TVs)(z:Rt):Rt:=hx [.rc 15] d (fun r=>F96 c L r.1) z
theorem g96(L m:Nat)(d:TVs):Hk 96 h96 L m d:=fG fun r e=>e▸(c96 r.1 L m).symm
def h103(c:TC0)(L:Nat)(d:TVs)(z:Rt):Rt:=hx [i6,.rc 20] d (fun r=>F103 c L r.1 r.2.1) z
theorem g103(L m:Nat)(d:TVs):Hk 103 h103 L m d:=fG fun r e=>e▸(c103 r.1 r.2.1 L m).symm
def h104(c:TC0)(L:Nat)(d:TVs)(z:Rt):Rt:=hx [zS 5,.str,.str] d (fun r=>F104 c L r.1 r.2.1 r.2.2.1) z
theorem g104(L m:Nat)(d:TVs):Hk 104 h104 L m d:=fG fun r e=>e▸(c104 r.1 r.2.1 r.2.2.1 L m).symm
def h105(c:TC0)(L:Nat)(d:TVs)(z:Rt):Rt:=hx [.rc 2,i6] d (fun r=>F105 c L r.1 r.2.1) z
theorem g105(L m:Nat)(d:TVs):Hk 105 h105 L m d:=fG fun r e=>e▸(c105 r.1 r.2.1 L m).symm
def h112(c:TC0)(L:Nat)(d:TVs)(z:Rt):Rt:=hx [zS 15,.rc 1] d (fun r=>F112 c L r.1 r.2.1) z
theorem g112(L m:Nat)(d:TVs):Hk 112 h112 L m d:=fG fun r e=>e▸(c112 r.1 r.2.1 L m).symm
def h132(c:TC0)(L:Nat)(d:TVs)(z:Rt):Rt:=hx [.rc 19,.bool] d (fun r=>F132 c L r.1 r.2.1) z
theorem g132(L m:Nat)(d:TVs):Hk 132 h132 L m d:=fG fun r e=>e▸(c132 r.1 r.2.1 L m).symm
def h136(c:TC0)(L:Nat)(d:TVs)(z:Rt):Rt:=hx [.str] d (fun r=>F136 c L r.1) z
theorem g136(L m:Nat)(d:TVs):Hk 136 h136 L m d:=fG fun r e=>e▸(c136 r.1 L m).symm
def h139(c:TC0)(L:Nat)(d:TVs)(z:Rt):Rt:=hx [zS 5,.str] d (fun r=>F139 c L r.1 r.2.1) z
theorem g139(L m:Nat)(d:TVs):Hk 139 h139 L m d:=fG fun r e=>e▸(c139 r.1 r.2.1 L m).symm
def h166(c:TC0)(L:Nat)(d:TVs)(z:Rt):Rt:=hx [.str] d (fun r=>F166 c L r.1) z
theorem g166(L m:Nat)(d:TVs):Hk 166 h166 L m d:=fG fun r e=>e▸(c166 r.1 L m).symm
noncomputable def hAll(i:Nat)(c:TC0)(L:Nat)(d:TVs)(z:Rt):Rt:=(bif Nat.beq i 82 then h82 c L d z else bif Nat.blt i 82 then(bif Nat.beq i 53 then h53 c L d z else bif Nat.blt i 53 then(bif Nat.beq i 29 then h29 c L d z else bif Nat.blt i 29 then(bif Nat.beq i 8 then h8 c L d z else bif Nat.blt i 8 then(bif Nat.beq i 2 then h2 c L d z else hG i c L d z)else(bif Nat.beq i 16 then h16 c L d z else hG i c L d z))else(bif Nat.beq i 51 then h51 c L d z else bif Nat.blt i 51 then(bif Nat.beq i 50 then h50 c L d z else hG i c L d z)else hG i c L d z))else(bif Nat.beq i 65 then h65 c L d z else bif Nat.blt i 65 then(bif Nat.beq i 64 then h64 c L d z else bif Nat.blt i 64 then(bif Nat.beq i 63 then h63 c L d z else hG i c L d z)else hG i c L d z)else(bif Nat.beq i 74 then h74 c L d z else bif Nat.blt i 74 then(bif Nat.beq i 73 then h73 c L d z else hG i c L d z)else hG i c L d z)))else(bif Nat.beq i 105 then h105 c L d z else bif Nat.blt i 105 then(bif Nat.beq i 96 then h96 c L d z else bif Nat.blt i 96 then(bif Nat.beq i 95 then h95 c L d z else bif Nat.blt i 95 then(bif Nat.beq i 88 then h88 c L d z else hG i c L d z)else hG i c L d z)else(bif Nat.beq i 104 then h104 c L d z else bif Nat.blt i 104 then(bif Nat.beq i 103 then h103 c L d z else hG i c L d z)else hG i c L d z))else(bif Nat.beq i 136 then h136 c L d z else bif Nat.blt i 136 then(bif Nat.beq i 132 then h132 c L d z else bif Nat.blt i 132 then(bif Nat.beq i 112 then h112 c L d z else hG i c L d z)else hG i c L d z)else(bif Nat.beq i 166 then h166 c L d z else bif Nat.blt i 166 then(bif Nat.beq i 139 then h139 c L d z else hG i c L d z)else hG i c L d z))))
theorem hAll_ok(i L m:Nat)(d:TVs):hAll i (CTp L m) L d (CTp L (m+1) i d)=CTp L (m+1) i d:=(evq (fun e=>(nqE e).symm▸g82 L m d) (evc (evq (fun e=>(nqE e).symm▸g53 L m d) (evc (evq (fun e=>(nqE e).symm▸g29 L m d) (evc (evq (fun e=>(nqE e).symm▸g8 L m d) (evc (evq (fun e=>(nqE e).symm▸g2 L m d) (kK i L m d)) (evq (fun e=>(nqE e).symm▸g16 L m d) (kK i L m d)))) (evq (fun e=>(nqE e).symm▸g51 L m d) (evc (evq (fun e=>(nqE e).symm▸g50 L m d) (kK i L m d)) (kK i L m d))))) (evq (fun e=>(nqE e).symm▸g65 L m d) (evc (evq (fun e=>(nqE e).symm▸g64 L m d) (evc (evq (fun e=>(nqE e).symm▸g63 L m d) (kK i L m d)) (kK i L m d))) (evq (fun e=>(nqE e).symm▸g74 L m d) (evc (evq (fun e=>(nqE e).symm▸g73 L m d) (kK i L m d)) (kK i L m d))))))) (evq (fun e=>(nqE e).symm▸g105 L m d) (evc (evq (fun e=>(nqE e).symm▸g96 L m d) (evc (evq (fun e=>(nqE e).symm▸g95 L m d) (evc (evq (fun e=>(nqE e).symm▸g88 L m d) (kK i L m d)) (kK i L m d))) (evq (fun e=>(nqE e).symm▸g104 L m d) (evc (evq (fun e=>(nqE e).symm▸g103 L m d) (kK i L m d)) (kK i L m d))))) (evq (fun e=>(nqE e).symm▸g136 L m d) (evc (evq (fun e=>(nqE e).symm▸g132 L m d) (evc (evq (fun e=>(nqE e).symm▸g112 L m d) (kK i L m d)) (kK i L m d))) (evq (fun e=>(nqE e).symm▸g166 L m d) (evc (evq (fun e=>(nqE e).symm▸g139 L m d) (kK i L m d)) (kK i L m d)))))))))
end Go.TV
namespace Go.TV
open Go.AI Go.PI Go.Proofs
noncomputable def evB(K:TC0)(up:Nat→TC0)(L:Nat):Nat→TC0
 |0=>up 0
 |n+1=>fun i d=>match K i d with|some r=>some r|none=>hAll i (evB K up L n) L d (up (n+1) i d)
noncomputable def upT(L N:Nat):Nat→TC0:=fun n=>CTp L (N+n)
theorem aCi{K:TC0}{L N:Nat}(hK: ∀n i d r,K i d=some r→CTp L (N+n+1) i d=some r): ∀n,evB K (upT L N) L n=CTp L (N+n)
 |0=>rfl
 |n+1=>by
  funext i d;show(match K i d with|some r=>some r|none=>hAll i (evB K (upT L N) L n) L d (CTp L (N+n+1) i d))=CTp L (N+n+1) i d
  rw[aCi hK n];split
  ·rename_i r e;exact(hK n i d r e).symm
  ·exact hAll_ok i L (N+n) d
end Go.TV
namespace Go.TV
open Go.AI Go.PI Go.Proofs
set_option maxRecDepth 20000
theorem call_o{P:Program}{T:TP U0.D}{l:List (Nat×Ins)}{i:Nat}{x:Ins}(hx:pG l i=some x)(hs:T.sig i=some x.sig)(hb:(okS T.orc x.sig&&Nat.ble x.sig.bx.length 100&&okBx x.sig.bx.length x.sig.bx)=true)(L n:Nat)(d:TVs){y:OV}(ho:orT U0 T.orc x.sig d=some y):
    xR U0 T (tabL P l) L (n+1) i d=some [ovT U0 y]:=by
 have hg:tabL P l i=some (fE x.sk (mO P x.sig.f),aC3 P x.sig.f):=by simp only[tabL,hx]
 simp only[xR,hs,hg,hb,cdt,ho]
def Kf:TC0:=fun i d=>bif Nat.beq i 147 then(match orT U0 orcI ii147.sig d with|some x=>some [ovT U0 x]|none=>none)else none
noncomputable def cF(L M k:Nat):TC0:=evB Kf (upT (L+7000) M) (L+7000) k
theorem cF_ok(L M k:Nat):cF L M k=CTp (L+7000) (M+k):=aCi (fun n i d r h=>by
 unfold Kf at h;cases hb:Nat.beq i 147 with
 |false=>rw[hb]at h;cases h
 |true=>
  rw[hb,cdt]at h;split at h
  ·rename_i x hx;simp only[ojE]at h;subst h;rw[nqE hb];exact call_o (x:=ii147) (by kernel_rfl) (by kernel_rfl) (by kernel_rfl) _ _ d hx
  ·cases h) k
def userS:List UInt8:=[117,115,101,114]
def zrO:G.O:=⟨0,[],[],⟨[],[]⟩,[],[]⟩
def tV(w:List UInt8):G.T:=⟨1,⟨userS,w⟩,zrO,[]⟩
def tA(f:G.Y)(l:List G.T):G.T:=⟨3,f,zrO,l⟩
def tC(o:G.O):G.T:=⟨2,⟨[],[]⟩,o,[]⟩
def niO:G.O:=⟨2,[],[],⟨fS,[110,105,108]⟩,[],[]⟩
def cnO(a b:G.O):G.O:=⟨4,[],[],⟨[],[]⟩,[],[a,b]⟩
def ObR(x:Rt):Prop:= ∃o:G.O,x=some [yR 2 o]∧osz o≤20
def chO(r:Rt):Bool:=match r with|some [⟨.rc 2,o⟩]=>Nat.ble (osz o) 20|_=>false
theorem kR{r:Rt}(h:chO r=true):ObR r:=by
 unfold chO at h;split at h
 ·rename_i o;exact⟨o,rfl,Nat.le_of_ble_eq_true h⟩
 ·cases h
section
variable(L M:Nat)
theorem v_ok(w:List UInt8):cF L M 60 6 [yT w]=some [yR 3 (tV w)]:=by kernel_rfl
theorem l_ok(w:List UInt8)(l:List G.T):cF L M 60 7 [yT w,yS 3 l]=some [yR 3 (tA ⟨fS,w⟩ l)]:=by kernel_rfl
theorem a_ok(f:G.Y)(l:List G.T):cF L M 60 41 [yR 1 f,yS 3 l]=some [yR 3 (tA f l)]:=by kernel_rfl
theorem k_ok(o:G.O):cF L M 60 15 [yR 2 o]=some [yR 3 (tC o)]:=by kernel_rfl
theorem u_ok(w:List UInt8):cF L M 60 11 [yT w]=some [yR 1 ⟨userS,w⟩]:=by kernel_rfl
theorem s_ok(w:List UInt8):cF L M 60 52 [yT w]=some [yR 1 ⟨fS,w⟩]:=by kernel_rfl
theorem cn_ok(a b:G.O):cF L M 60 48 [yR 2 a,yR 2 b]=some [yR 2 (cnO a b)]:=by kernel_rfl
theorem li0_ok:cF L M 60 49 [yS 2 []]=some [yR 2 niO]:=by kernel_rfl
theorem li1_ok(a:G.O):cF L M 60 49 [yS 2 ([a]:List G.O)]=some [yR 2 (cnO a niO)]:=by kernel_rfl
theorem li2_ok(a b:G.O):cF L M 60 49 [yS 2 ([a,b]:List G.O)]=some [yR 2 (cnO a (cnO b niO))]:=by kernel_rfl
theorem li3_ok(a b d:G.O):cF L M 60 49 [yS 2 ([a,b,d]:List G.O)]=some [yR 2 (cnO a (cnO b (cnO d niO)))]:=by kernel_rfl
theorem ob_n:ObR (cF L M 60 42 []):=kR (by kernel_rfl)
theorem ob_t:ObR (cF L M 60 43 []):=kR (by kernel_rfl)
theorem ob_i(r:Int)(h0:0≤r)(h1:r<7):ObR (cF L M 60 44 [yI (IntKind.i64.wrap (r-3))]):=by
 obtain rfl|rfl|rfl|rfl|rfl|rfl|rfl:r=0∨r=1∨r=2∨r=3∨r=4∨r=5∨r=6:=by omega
 all_goals exact kR (by kernel_rfl)
theorem ob_0:ObR (cF L M 60 44 [yI (0:Int)]):=kR (by kernel_rfl)
theorem ob_1:ObR (cF L M 60 44 [yI (1:Int)]):=kR (by kernel_rfl)
theorem ob_q1:ObR (cF L M 60 45 [yT ([49]:List UInt8),yT ([50]:List UInt8)]):=kR (by kernel_rfl)
theorem ob_q2:ObR (cF L M 60 45 [yT ([45,53]:List UInt8),yT ([51]:List UInt8)]):=kR (by kernel_rfl)
theorem ob_s1(y:G.Y):ObR (cF L M 60 46 [yR 1 y]):=kR (by kernel_rfl)
theorem ob_x(w:List UInt8):ObR (cF L M 60 47 [yT w]):=kR (by kernel_rfl)
theorem hd_ok: ∃l:List (List UInt8),cF L M 60 50 []=some [⟨.sl .str,l⟩]∧l.length=25:=⟨match B50x0 (fun _ _=>none)with|some (⟨.sl .str,t⟩::_)=>t|_=>[],by kernel_rfl,by kernel_rfl⟩
theorem ow_ok: ∃l:List (List UInt8),cF L M 60 51 []=some [⟨.sl .str,l⟩]∧l.length=8:=⟨match B51x0 (fun _ _=>none)with|some (⟨.sl .str,t⟩::_)=>t|_=>[],by kernel_rfl,by kernel_rfl⟩
end
structure Lib(c:TC0):Prop where
 v: ∀w,c 6 [yT w]=some [yR 3 (tV w)]
 l: ∀w (l:List G.T),c 7 [yT w,yS 3 l]=some [yR 3 (tA ⟨fS,w⟩ l)]
 a: ∀(f:G.Y) (l:List G.T),c 41 [yR 1 f,yS 3 l]=some [yR 3 (tA f l)]
 k: ∀o:G.O,c 15 [yR 2 o]=some [yR 3 (tC o)]
 u: ∀w,c 11 [yT w]=some [yR 1 (⟨userS,w⟩:G.Y)]
 s: ∀w,c 52 [yT w]=some [yR 1 (⟨fS,w⟩:G.Y)]
 cn: ∀a b:G.O,c 48 [yR 2 a,yR 2 b]=some [yR 2 (cnO a b)]
 l0:c 49 [yS 2 ([]:List G.O)]=some [yR 2 niO]
 l1: ∀a:G.O,c 49 [yS 2 ([a]:List G.O)]=some [yR 2 (cnO a niO)]
 l2: ∀a b:G.O,c 49 [yS 2 ([a,b]:List G.O)]=some [yR 2 (cnO a (cnO b niO))]
 l3: ∀a b d:G.O,c 49 [yS 2 ([a,b,d]:List G.O)]=some [yR 2 (cnO a (cnO b (cnO d niO)))]
 n:ObR (c 42 [])
 t:ObR (c 43 [])
 i: ∀r:Int,0≤r→r<7→ObR (c 44 [yI (IntKind.i64.wrap (r-3))])
 i0:ObR (c 44 [yI (0:Int)])
 i1:ObR (c 44 [yI (1:Int)])
 q1:ObR (c 45 [yT ([49]:List UInt8),yT ([50]:List UInt8)])
 q2:ObR (c 45 [yT ([45,53]:List UInt8),yT ([51]:List UInt8)])
 sy: ∀y:G.Y,ObR (c 46 [yR 1 y])
 x: ∀w,ObR (c 47 [yT w])
 hd: ∃l:List (List UInt8),c 50 []=some [⟨.sl .str,l⟩]∧l.length=25
 ow: ∃l:List (List UInt8),c 51 []=some [⟨.sl .str,l⟩]∧l.length=8
 nx: ∀(s:G.Z) (a:Int),bP s→1≤a→NxR (c 12 [yI a,yR 0 s]) a
theorem lib_ok(L M:Nat):Lib (CTp (L+7000) (M+60)):=by
 have h: ∀(s:G.Z) (a:Int),bP s→1≤a→NxR (CTp (L+7000) (M+60) 12 [yI a,yR 0 s]) a:=fun s a h1 h2=>Nx_ok (n:=M+59) h1 h2
 rw[←cF_ok]at h⊢;exact⟨v_ok L M,l_ok L M,a_ok L M,k_ok L M,u_ok L M,s_ok L M,cn_ok L M,li0_ok L M,li1_ok L M,li2_ok L M,li3_ok L M,ob_n L M,ob_t L M,ob_i L M,ob_0 L M,ob_1 L M,ob_q1 L M,ob_q2 L M,ob_s1 L M,ob_x L M,hd_ok L M,ow_ok L M,h⟩
end Go.TV
namespace Go.TV
open Go.AI Go.PI Go.Proofs
theorem wrapm{k:Nat}(h:k<4000000000000000000):IntKind.i64.wrap (((k+1:Nat):Int)-1)=(k:Int):=by
 unfold IntKind.wrap;simp[IntKind.bits,IntKind.signed];omega
theorem EqP_loop{c:TC0}{L:Nat}{n1:G.O→G.O→Rt}{a b:G.O}(hl:a.pair.length=b.pair.length)(hb:a.pair.length<1000000000)
    {s:Nat} (hs:a.pair.length=s+1): ∀(l:List G.O) (x:G.O) (r:List G.O) (k m:Nat),a.pair.drop k=x::l→b.pair.drop k=r→l.length<m→
    (∀x,x∈a.pair→∀y,c 56 (oo x y)=some (bb (decide (x=y))))→(∀x,x∈a.pair→∀y,n1 x y=some (bb (decide (x=y))))→
    aA1 c L n1 m (s:Int) (k:Int) ((s+1:Nat):Int) a b=some (bb (decide (x::l=r))):=by
 intro l;induction l with
 |nil=>
  intro x r k m h1 h2 h3 hc hn;obtain⟨m,rfl⟩: ∃m',m=m'+1:=⟨m-1,by simp at h3;omega⟩
  obtain⟨a1,a2,a3⟩:=cB h1;have hk:k=s:=by have:=cU a3;omega
  subst hk;cases r with
  |nil=>have:=cU h2;omega
  |cons y r=>
   obtain⟨b1,b2,b3⟩:=cB h2;have hr:r=[]:=by rw[←b3];exact List.drop_eq_nil_of_le (by omega)
   subst hr;have e3:decide ((k:Int)<(k:Int))=false:=by simp
   rw[aA1,B56x3,e3,aI,wrapm (by omega),bF,bF,a1,b1,eR,eR,hn x (List.mem_of_getElem? a1)]
   simp
 |cons z l ih=>
  intro x r k m h1 h2 h3 hc hn;obtain⟨m,rfl⟩: ∃m',m=m'+1:=⟨m-1,by simp at h3;omega⟩
  obtain⟨a1,a2,a3⟩:=cB h1;obtain⟨a4,a5,a6⟩:=cB a3;cases r with
  |nil=>have:=cU h2;omega
  |cons y r=>
   obtain⟨b1,b2,b3⟩:=cB h2;have e3:decide ((k:Int)<(s:Int))=true:=by simp;omega
   have hxy:c 56 [yR 2 x,yR 2 y]=some [yB (decide (x=y))]:=hc x (List.mem_of_getElem? a1) y;rw[aA1,B56x3,e3,aQ,bF,bF,a1,b1,eR,eR,hxy,bT,gC (by omega)]
   by_cases e:x=y
   ·subst e;simp only[decide_true,bnT,aI];rw[ih z r (k+1) m a3 b3 (by simp at h3;omega) hc hn]
    simp
   ·simp only[e,decide_false,Bool.not_false,aQ];simp[e,bb]
theorem EqW_ok: ∀(a:G.O),wfO a→∀(b:G.O) (L n m:Nat),osz a≤L→osz a≤n→osz a≤m→yH (CTp L n) L m a b=some (bb (decide (a=b))):=by
 intro a;induction a using obj_ind with
 |h k nu d s t l ih=>
  intro hw b L n m hL hn hm;simp only[wfO,osz]at hw hL hn hm;have hlen:=aEX l;obtain⟨m,rfl⟩: ∃n',m=n'+1:=⟨m-1,by omega⟩
  obtain⟨n,rfl⟩: ∃n',n=n'+1:=⟨n-1,by omega⟩
  cases b with|mk k' nu' d' s' t' l'=>
  rw[yH];simp only[J56x2,B56x1,B56x2,G.O.kind,G.O.num,G.O.den,G.O.sym,G.O.text,G.O.pair,G.O.mk.injEq];by_cases e1:k=k'
  ·by_cases e2:nu=nu'
   ·by_cases e3:d=d'
    ·by_cases e4:s=s'
     ·by_cases e5:t=t'
      ·by_cases e6:(l.length:Int)=(l'.length:Int)
       ·simp only[e1,e2,e3,e4,e5,e6,decide_true,bnT,aI,aQ,true_and];cases l with
        |nil=>
         have:l'=[]:=List.eq_nil_of_length_eq_zero (by simp at e6;omega)
         subst this;simp[cnd,bb]
        |cons x l=>
         have e7:decide ((l'.length:Int)=0)=false:=by simp only[lcS]at e6;simp;intro h;simp[h]at e6;omega
         rw[e7,aI,←e6];have hW: ∀y,y∈x::l→∀z,yH (CTp L (n+1)) L m y z=some (bb (decide (y=z))):=fun y hy z=>
          ih y hy (by have:=iB hy;simp only[wfO];omega) z L (n+1) m (by have:=iB hy;omega) (by have:=iB hy;omega) (by have:=iB hy;omega)
         have hC: ∀y,y∈x::l→∀z,CTp L (n+1) 56 (oo y z)=some (bb (decide (y=z))):=fun y hy z=>by
          show CTp L (n+1) 56 [yR 2 _,yR 2 _]=_;rw[c56];exact ih y hy (by have:=iB hy;simp only[wfO];omega) z L n L (by have:=iB hy;omega) (by have:=iB hy;omega) (by have:=iB hy;omega)
         have hz:IntKind.i64.wrap (((x::l).length:Int)-1)=(l.length:Int):=wrapm (by simp only[lcS]at hlen;omega)
         rw[hz];have:=EqP_loop (c:=CTp L (n+1)) (L:=L) (n1:=fun x0 x1=>yH (CTp L (n+1)) L m x0 x1) (a:=⟨k,nu,d,s,t,x::l⟩) (b:=⟨k',nu',d',s',t',l'⟩) (s:=l.length) (by show(x::l).length=l'.length;omega) (by show(x::l).length<_;omega) rfl l x l' 0 L rfl rfl (by simp only[lcS]at hlen;omega) hC hW
         subst e1 e2 e3 e4 e5;exact this
       ·have e7: ¬l=l':=fun h=>e6 (by rw[h])
        simp[e1,e2,e3,e4,e5,e6,e7,cnd,bb]
      ·simp[e1,e2,e3,e4,e5,cnd,bb]
     ·simp[e1,e2,e3,e4,cnd,bb]
    ·simp[e1,e2,e3,cnd,bb]
   ·simp[e1,e2,cnd,bb]
  ·simp[e1,cnd,bb]
theorem aHd(a:G.O)(hw:wfO a)(b:G.O)(L n:Nat)(hL:osz a≤L)(hn:osz a<n):CTp L n 56 (oo a b)=some (bb (decide (a=b))):=by
 obtain⟨n,rfl⟩: ∃n',n=n'+1:=⟨n-1,by omega⟩
 show CTp L (n+1) 56 [yR 2 _,yR 2 _]=_;rw[c56];exact EqW_ok a hw b L n L hL (by omega) hL
theorem EqB_loop{c:TC0}{L:Nat}{a b:List G.T}(hl:a.length=b.length)(hb:a.length<1000000000): ∀(l r:List G.T) (k m:Nat),a.drop k=l→b.drop k=r→l.length<m→
    (∀x,x∈l→∀y,c 24 (tt2 x y)=some (bb (decide (x=y))))→aA0 c L m (a.length:Int) a b (k:Int)=some (bb (decide (l=r))):=by
 intro l;induction l with
 |nil=>
  intro r k m h1 h2 h3 _;obtain⟨m,rfl⟩: ∃m',m=m'+1:=⟨m-1,by simp at h3;omega⟩
  have e1:=cU h1;have e2:r=[]:=by rw[←h2];exact List.drop_eq_nil_of_le (by omega)
  have e3:decide ((k:Int)<(a.length:Int))=false:=by simp;omega
  rw[aA0,B57x1,e3,e2];simp only[aI,decide_true];rfl
 |cons x l ih=>
  intro r k m h1 h2 h3 hc;obtain⟨m,rfl⟩: ∃m',m=m'+1:=⟨m-1,by simp at h3;omega⟩
  obtain⟨a1,a2,a3⟩:=cB h1;cases r with
  |nil=>have:=cU h2;omega
  |cons y r=>
   obtain⟨b1,b2,b3⟩:=cB h2;have e3:decide ((k:Int)<(a.length:Int))=true:=by simp;omega
   have hxy:c 24 [yR 3 x,yR 3 y]=some [yB (decide (x=y))]:=hc x (mhE ..) y;rw[aA0,B57x1,e3,aQ,bF,bF,a1,b1,eR,eR,hxy,bT,gC (by omega)]
   by_cases e:x=y
   ·subst e;simp only[decide_true,bnT,aI];rw[ih r (k+1) m a3 b3 (by simp at h3;omega) fun z hz=>hc z (mtE _ hz)]
    simp
   ·simp only[e,decide_false,Bool.not_false,aQ];simp[e,bb]
theorem EqF_of{a b:List G.T}{L n:Nat}(hw:a.length<1000000000)(hL:a.length<L)(hx: ∀x,x∈a→∀y,CTp L n 24 (tt2 x y)=some (bb (decide (x=y)))):
    CTp L (n+1) 57 (ll2 a b)=some (bb (decide (a=b))):=by
 show CTp L (n+1) 57 [yS 3 _,yS 3 _]=_;rw[c57];simp only[F57,B57x0];by_cases e6:(a.length:Int)=(b.length:Int)
 ·have:=EqB_loop (c:=CTp L n) (L:=L) (by omega) hw a b 0 L rfl rfl hL hx
  rw[e6]at this;simp only[e6,decide_true,bnT,aI];exact this
 ·have e7: ¬a=b:=fun h=>e6 (by rw[h])
  simp[e6,e7,cnd,bb]
theorem TEq_ok: ∀(a:G.T),wfT a→∀(b:G.T) (L n:Nat),tsz a≤L→tsz a≤n→CTp L n 24 (tt2 a b)=some (bb (decide (a=b))):=by
 intro a;induction a using trm_ind with
 |h k nm v l ih=>
  intro hw b L n hL hn;simp only[wfT,tsz]at hw hL hn;have hlen:=mZ l;obtain⟨n,rfl⟩: ∃n',n=n'+2:=⟨n-2,by omega⟩
  cases b with|mk k' nm' v' l'=>
  show CTp L (n+1+1) 24 [yR 3 _,yR 3 _]=_;rw[c24];have hv:CTp L (n+1) 56 [yR 2 v,yR 2 v']=some [yB (decide (v=v'))]:=aHd v (by simp only[wfO];omega) v' L (n+1) (by omega) (by omega)
  have hl:CTp L (n+1) 57 [yS 3 l,yS 3 l']=some [yB (decide (l=l'))]:=EqF_of (by omega) (by omega) fun x hx y=>ih x hx (by have:=jB hx;simp only[wfT];omega) y L n (by have:=jB hx;omega) (by have:=jB hx;omega)
  simp only[F24,B24x0,J24x1,B24x1,G.T.kind,G.T.name,G.T.value,G.T.args,G.T.mk.injEq,hv,hl,bT];by_cases e1:k=k'
  ·by_cases e2:nm=nm'
   ·by_cases e3:v=v'
    ·simp[e1,e2,e3,cnd,bb]
    ·simp[e1,e2,e3,cnd,bb]
   ·simp[e1,e2,cnd,bb]
  ·simp[e1,cnd,bb]
end Go.TV
namespace Go.TV
open Go.AI Go.PI Go.Proofs
def sI:List UInt8:=[110,111,116]
def eqB:List UInt8:=[101,113,117,97,108]
theorem jV(x:G.T):eX x.args+4≤tsz x:=by cases x;simp only[G.T.args,tsz];omega
theorem uF{x:G.T}{s:List UInt8}{k:Nat}(h:isA x s (k:Int)=true):x.args.length=k:=by
 simp only[isA,bjE,djE]at h;omega
theorem len1{l:List G.T}(h:l.length=1): ∃p,l=[p]:=by
 match l,h with
 |[p],_=>exact⟨p,rfl⟩
theorem len2{l:List G.T}(h:l.length=2): ∃p q,l=[p,q]:=by
 match l,h with
 |[p,q],_=>exact⟨p,q,rfl⟩
end Go.TV
namespace Go.TV
open Go.AI Go.PI Go.Proofs
set_option maxRecDepth 20000
theorem iP{β:Type}{b:G.T}{K:G.T×Unit→Option β}:obL (D:=U0.D) [.rc 3] (some [⟨.rc 3,b⟩]) K=K (b,()):=rfl
def zOb:G.O:=⟨0,[],[],⟨[],[]⟩,[],[]⟩
def lsp(f:List UInt8)(l:List G.T):G.T:=⟨3,⟨fS,f⟩,zOb,l⟩
def neg(t:G.T):G.T:=if isA t sI 1 then t.args.headD t else lsp sI [t]
theorem cIs_ok{t:G.T}{s:List UInt8}{k:Int}{L n:Nat}:CTp L (n+1) 54 (tsi t s k)=some (bb (isA t s k)):=by
 show CTp L (n+1) 54 [⟨.rc 3,_⟩,⟨.str,_⟩,⟨.int .i64,_⟩]=_;rw[c54,F54,B54x0];simp only[J54x1,B54x1,isA];by_cases e1:t.kind=3
 ·by_cases e2:t.name=⟨fS,s⟩
  ·have e2':t.name=G.Y.mk [108,105,115,112] s:=e2;simp[e1,e2,e2',cnd,bb,fS]
  ·have e2': ¬t.name=G.Y.mk [108,105,115,112] s:=e2;simp[e1,e2,e2',cnd,bb,fS]
 ·simp[e1,cnd,bb]
theorem vA{s:List UInt8}{l:List G.T}{L n:Nat}:CTp L (n+2) 55 [⟨.str,s⟩,⟨.sl (.rc 3),l⟩]=some [⟨.rc 3,lsp s l⟩]:=by
 rw[c55,F55,B55x0,c75];rfl
theorem aE8{t:G.T}{L n:Nat}:CTp L (n+3) 22 [⟨.rc 3,t⟩]=some [⟨.rc 3,neg t⟩]:=by
 have h1:CTp L (n+2) 54 [⟨.rc 3,t⟩,⟨.str,sI⟩,⟨.int .i64,(1:Int)⟩]=some [⟨.bool,isA t sI 1⟩]:=cIs_ok;have h2:CTp L (n+2) 55 [⟨.str,sI⟩,⟨.sl (.rc 3),([t]:List G.T)⟩]=some [⟨.rc 3,lsp sI [t]⟩]:=vA;simp only[sI]at h1 h2;rw[c22,F22,B22x0,h1,bT];change cnd (isA t sI 1) _ _=_;cases e:isA t sI 1 with
 |false=>rw[aI,show neg t=lsp sI [t] from by simp[neg,e]];erw[h2];rw[iP];rfl
 |true=>
  obtain⟨p,hp⟩:=len1 (uF (k:=1) e);rw[aQ,hp];simp[neg,e,hp,idx,ob]
end Go.TV
namespace Go.TV
open Go.AI Go.PI Go.Proofs
set_option maxRecDepth 20000
def BoR(x:Rt):Prop:= ∃b:Bool,x=some [⟨.bool,b⟩]
def InR(x:Rt):Prop:= ∃i:Int,x=some [⟨.int .i64,i⟩]
def IbR(x:Rt):Prop:= ∃(i:Int) (b:Bool),x=some [⟨.int .i64,i⟩,⟨.bool,b⟩]
def ItR(x:Rt):Prop:= ∃(i:Int) (t:G.T) (b:Bool),x=some [⟨.int .i64,i⟩,⟨.rc 3,t⟩,⟨.bool,b⟩]
def TeR(x:Rt):Prop:= ∃t:G.T,x=some [⟨.rc 3,t⟩]
theorem zW{β:Type}{a:Int}{t:G.T}{b:Bool}{K:Int×G.T×Bool×Unit→Option β}:obL (D:=U0.D) [.int .i64,.rc 3,.bool] (some [⟨.int .i64,a⟩,⟨.rc 3,t⟩,⟨.bool,b⟩]) K=K (a,t,b,()):=rfl
theorem cG{P:Rt→Prop}{b:Bool}{x y:Rt}(h1:b=true→P x)(h2:b=false→P y):P (cnd b x y):=by
 cases b with
 |true=>exact h1 rfl
 |false=>exact h2 rfl
theorem aB1{o:G.O}{L n:Nat}:BoR (CTp L (n+1) 18 [⟨.rc 2,o⟩]):=by
 rw[c18,F18,B18x0];exact cG (fun _=>⟨_,rfl⟩) fun _=>⟨_,rfl⟩
theorem tru_ok{b:Bool}{L n:Nat}:CTp L (n+1) 19 [⟨.bool,b⟩]=some [⟨.int .i64,bif b then(1:Int)else 2⟩]:=by
 rw[c19,F19,B19x0];cases b<;>rfl
theorem seq_ok{x y:G.T}{L n:Nat}:CTp L (n+3) 23 [⟨.rc 3,x⟩,⟨.rc 3,y⟩]=some [⟨.rc 3,lsp eqB [x,y]⟩]:=by
 rw[c23,F23,B23x0];have h2:CTp L (n+2) 55 [⟨.str,eqB⟩,⟨.sl (.rc 3),([x,y]:List G.T)⟩]=some [⟨.rc 3,lsp eqB [x,y]⟩]:=vA;simp only[eqB]at h2;rw[h2];rfl
theorem snot_ok{x:G.T}{L n:Nat}:TeR (CTp L (n+3) 76 [⟨.rc 3,x⟩]):=by
 rw[c76,F76,B76x0];have h2:CTp L (n+2) 55 [⟨.str,sI⟩,⟨.sl (.rc 3),([x]:List G.T)⟩]=some [⟨.rc 3,lsp sI [x]⟩]:=vA;simp only[sI]at h2;rw[h2];exact⟨_,rfl⟩
theorem stc_ok{o:G.O}{L n:Nat}:TeR (CTp L (n+2) 98 [⟨.rc 2,o⟩]):=by
 rw[c98,F98,B98x0,c126];exact⟨_,rfl⟩
theorem Rcg_ok{f:G.Y}{L n:Nat}:IbR (CTp L (n+1) 58 [⟨.rc 1,f⟩]):=by
 rw[c58,F58,B58x0]
 repeat refine cG (fun _=>⟨_,_,rfl⟩) fun _=>?_
 exact⟨_,_,rfl⟩
theorem rcg_ok{f:G.Y}{L n:Nat}:IbR (CTp L (n+2) 25 [⟨.rc 1,f⟩]):=by
 rw[c25,F25,B25x0];refine cG (fun _=>⟨_,_,rfl⟩) fun _=>?_
 obtain⟨i,b,h⟩:=Rcg_ok (f:=f) (L:=L) (n:=n);rw[h,kQ];exact⟨_,_,rfl⟩
theorem Of_loop{L n:Nat}: ∀(m:Nat) (o:G.O),osz o<m→InR (aAZ (CTp L (n+1)) L m o):=by
 intro m;induction m with
 |zero=>intro o h;omega
 |succ m ih=>
  intro o h;have key: ∀b:Bool,(b=true→o.pair.length=2)→InR (J59x4 (CTp L (n+1)) L (aAZ (CTp L (n+1)) L m) b o):=fun b hb=>by
   rw[J59x4,B59x4];refine cG (fun e=>?_) fun _=>?_
   ·have h2:=hb e;cases o with|mk k nu de sy tx l=>
    match l,h2 with
    |[x,y],_=>
     simp only[osz,rB]at h;exact ih y (by omega)
   ·obtain⟨b,h⟩:=aB1 (o:=o) (L:=L) (n:=n);rw[h,bT];exact cG (fun _=>⟨_,rfl⟩) fun _=>⟨_,rfl⟩
  rw[aAZ,B59x2];refine cG (fun _=>key _ fun e=>?_) fun _=>key _ fun e=>by cases e
  have:=of_decide_eq_true e;omega
theorem Of_ok{o:G.O}{L n:Nat}(h:osz o<L):InR (CTp L (n+2) 59 [⟨.rc 2,o⟩]):=by
 rw[c59,F59,B59x0];have k3: ∀(a b:Bool) (o:G.O),InR (J59x3 (CTp L (n+1)) L a b o):=fun a b o=>by
  rw[J59x3,B59x3];exact cG (fun _=>⟨_,rfl⟩) fun _=>cG (fun _=>⟨_,rfl⟩) fun _=>cG (fun _=>⟨_,rfl⟩) fun _=>⟨_,rfl⟩
 have k1: ∀(b:Bool) (o:G.O),InR (J59x1 (CTp L (n+1)) L b o):=fun b o=>by
  rw[J59x1,B59x1];exact cG (fun _=>⟨_,rfl⟩) fun _=>cG (fun _=>k3 _ _ _) fun _=>k3 _ _ _
 refine cG (fun _=>cG (fun e=>?_) fun _=>k1 _ _) fun _=>cG (fun _=>?_) fun _=>cG (fun _=>⟨_,rfl⟩) fun _=>cG (fun _=>Of_loop L o h) fun _=>⟨_,rfl⟩
 ·have e:=of_decide_eq_true e;cases h:o.num with
  |nil=>rw[h]at e;simp at e
  |cons x l=>exact k1 _ _
 ·obtain⟨b,h⟩:=aB1 (o:=o) (L:=L) (n:=n);rw[h,bT];exact cG (fun _=>⟨_,rfl⟩) fun _=>cG (fun _=>⟨_,rfl⟩) fun _=>⟨_,rfl⟩
end Go.TV
