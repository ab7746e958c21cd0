import Derived.Test.YtjoliomfkdkjgaaGreatDoorKo
import Derived.Test.YtjoliomfkdkjgaaGreatDoorKv
set_option linter.unusedVariables false
set_option linter.unusedSimpArgs false
set_option linter.constructorNameAsVariable false
namespace Go.TV
open Go.AI Go.PI Go.Proofs
set_option maxRecDepth 20000
noncomputable section
variable(c:TC0)(e:Cu)(L:Nat)
def q16x0(c:TC0)(e:Cu):Kt:=xK vR
def q16x1(c:TC0)(e:Cu):Kt:=xT vR c e [1,1,1] (q16x0 c e)
def q16x2(c:TC0)(e:Cu):Kt:=xT vR c e [1,1,1,0,1] (q16x0 c e)
def aGm(c:TC0)(e:Cu):Kt:=cU U0 0 (q16x2 c e)
def q16x4(c:TC0)(e:Cu):Kt:=xT vR c e [1,1,1,0,0,1,0,1,1,1,1,1,0,1,1,1,1,1,1,1,1,1,1,1,1,1,1,0,0,1,1,1] (aGm c e)
def q16x5(c:TC0)(e:Cu):Kt:=cU U0 1 (q16x4 c e)
def B16x0(c:TC0)(k1:Bool→Int→Int→G.Z→G.O→Rt)(a1:Int)(b0:G.Z):Rt:=
 obL [i6,.rc 0] (c 13 [yI (14:Int),yR 0 b0]) fun(r0:Int×G.Z×Unit)=>
 cnd (decide (a1<(1:Int))) (k1 (decide ((9:Int)<r0.1)) r0.1 a1 r0.2.1 (G.O.mk (0:Int) ([]:List UInt8) ([]:List UInt8) (G.Y.mk ([]:List UInt8) ([]:List UInt8)) ([]:List UInt8) ([]:List G.O))) (k1 false r0.1 a1 r0.2.1 (G.O.mk (0:Int) ([]:List UInt8) ([]:List UInt8) (G.Y.mk ([]:List UInt8) ([]:List UInt8)) ([]:List UInt8) ([]:List G.O)))
def V16x0(n:Nt):Int→G.Z→Rt:=fun x0 x1=>n [yI x0,yR 0 x1]
def B16x1(c:TC0)(k2:Int→Int→G.Z→G.O→Rt)(a17:Bool)(a5:Int)(a1:Int)(b0:G.Z)(b104:G.O):Rt:=
 cnd a17 (k2 (IntKind.i64.wrap (a5-(8:Int))) a1 b0 b104) (k2 a5 a1 b0 b104)
def V16x1(n:Nt):Bool→Int→Int→G.Z→G.O→Rt:=fun x0 x1 x2 x3 x4=>n [yB x0,yI x1,yI x2,yR 0 x3,yR 2 x4]
def X16x1:=V16x1 (xD vR e [1,1,0,1,0] aIq (q16x1 c e))
def B16x2(c:TC0)(k3:Bool→Int→Int→G.Z→G.O→Rt)(a5:Int)(a1:Int)(b0:G.Z)(b104:G.O):Rt:=
 cnd (decide (a5=(0:Int))) (obL [.rc 2] (c 46 []) fun(r0:G.O×Unit)=>
 some [yR 2 r0.1,yR 0 b0]) (cnd (decide (a5=(1:Int))) (obL [.rc 2] (c 47 []) fun(r1:G.O×Unit)=>
 some [yR 2 r1.1,yR 0 b0]) (cnd (decide (a5=(2:Int))) (k3 (decide (a5=(2:Int))) a5 a1 b0 b104) (k3 (decide (a5=(3:Int))) a5 a1 b0 b104)))
def V16x2(n:Nt):Int→Int→G.Z→G.O→Rt:=fun x0 x1 x2 x3=>n [yI x0,yI x1,yR 0 x2,yR 2 x3]
def X16x2:=V16x2 (xD vR e [1,1,1,0] aIp (q16x0 c e))
def B16x3(c:TC0)(k4:Bool→Int→G.Z→G.O→Rt)(a27:Bool)(a20:Int)(a1:Int)(b0:G.Z)(b104:G.O):Rt:=
 cnd a27 (obL [i6,.rc 0] (c 13 [yI (7:Int),yR 0 b0]) fun(r0:Int×G.Z×Unit)=>
 obL [.rc 2] (c 48 [yI (IntKind.i64.wrap (r0.1-(3:Int)))]) fun(r1:G.O×Unit)=>
 some [yR 2 r1.1,yR 0 r0.2.1]) (cnd (decide (a20=(4:Int))) (obL [.rc 2] (c 49 [yT ([49]:List UInt8),yT ([50]:List UInt8)]) fun(r2:G.O×Unit)=>
 some [yR 2 r2.1,yR 0 b0]) (cnd (decide (a20=(5:Int))) (obL [.rc 2] (c 49 [yT ([45,53]:List UInt8),yT ([51]:List UInt8)]) fun(r3:G.O×Unit)=>
 some [yR 2 r3.1,yR 0 b0]) (cnd (decide (a20=(6:Int))) (obL [i6,.rc 0] (c 13 [yI (3:Int),yR 0 b0]) fun(r4:Int×G.Z×Unit)=>
 ob (slc ([97,98,99]:List UInt8) r4.1 (List.length ([97,98,99]:List UInt8):Int)) fun v5=>
 ob (slc v5 (0:Int) (1:Int)) fun v6=>
 obL [.rc 1] (c 12 [yT v6]) fun(r7:G.Y×Unit)=>
 obL [.rc 2] (c 50 [yR 1 r7.1]) fun(r8:G.O×Unit)=>
 some [yR 2 r8.1,yR 0 r4.2.1]) (cnd (decide (a20=(7:Int))) (obL [i6,.rc 0] (c 13 [yI (3:Int),yR 0 b0]) fun(r9:Int×G.Z×Unit)=>
 ob (slc ([112,113]:List UInt8) (0:Int) r9.1) fun v10=>
 obL [.rc 2] (c 51 [yT v10]) fun(r11:G.O×Unit)=>
 some [yR 2 r11.1,yR 0 r9.2.1]) (cnd (decide (a20=(8:Int))) (obL [.rc 2] (c 48 [yI (0:Int)]) fun(r12:G.O×Unit)=>
 some [yR 2 r12.1,yR 0 b0]) (cnd (decide (a20=(9:Int))) (obL [.rc 2] (c 48 [yI (1:Int)]) fun(r13:G.O×Unit)=>
 some [yR 2 r13.1,yR 0 b0]) (cnd (decide (a20=(10:Int))) (k4 (decide (a20=(10:Int))) a1 b0 b104) (cnd (decide (a20=(11:Int))) (k4 (decide (a20=(11:Int))) a1 b0 b104) (k4 (decide (a20=(12:Int))) a1 b0 b104)))))))))
def V16x3(n:Nt):Bool→Int→Int→G.Z→G.O→Rt:=fun x0 x1 x2 x3 x4=>n [yB x0,yI x1,yI x2,yR 0 x3,yR 2 x4]
def X16x3:=V16x3 (xD vR e [1,1,1,0,0,1,0,1,1,1,1,1,0] aIo (aGm c e))
def B16x4(c:TC0)(e5:Int→Int→Int→List G.O→G.Z→G.O→Rt)(a60:Bool)(a1:Int)(b0:G.Z)(b104:G.O):Rt:=
 cnd a60 (obL [i6,.rc 0] (c 13 [yI (4:Int),yR 0 b0]) fun(r0:Int×G.Z×Unit)=>
 e5 r0.1 a1 (0:Int) ([]:List G.O) r0.2.1 b104) (obL [.rc 2,.rc 0] (c 16 [yI (IntKind.i64.wrap (a1-(1:Int))),yR 0 b0]) fun(r1:G.O×G.Z×Unit)=>
 obL [.rc 2,.rc 0] (c 16 [yI (IntKind.i64.wrap (a1-(1:Int))),yR 0 r1.2.1]) fun(r2:G.O×G.Z×Unit)=>
 obL [.rc 2] (c 52 [yR 2 r1.1,yR 2 r2.1]) fun(r3:G.O×Unit)=>
 some [yR 2 r3.1,yR 0 r2.2.1])
def V16x4(n:Nt):Bool→Int→G.Z→G.O→Rt:=fun x0 x1 x2 x3=>n [yB x0,yI x1,yR 0 x2,yR 2 x3]
def X16x4:=V16x4 (xD vR e [1,1,1,0,0,1,0,1,1,1,1,1,0,1,1,1,1,1,1,1,1,1,1,1,1,1,1,0] aIn (aGm c e))
def B16x5(c:TC0)(n5:Int→Int→Int→List G.O→G.Z→G.O→Rt)(a7:Int)(a1:Int)(a8:Int)(a6:List G.O)(b0:G.Z)(b104:G.O):Rt:=
 cnd (decide (a8<a7)) (obL [.rc 2,.rc 0] (c 16 [yI (IntKind.i64.wrap (a1-(1:Int))),yR 0 b0]) fun(r0:G.O×G.Z×Unit)=>
 chk (Nat.ble ((List.length a6+List.length ([r0.1]:List G.O))*112) 1073741824)<|
 n5 a7 a1 (IntKind.i64.wrap (a8+(1:Int))) (a6++([r0.1]:List G.O)) r0.2.1 b104) (obL [.rc 2] (c 53 [yS 2 a6]) fun(r1:G.O×Unit)=>
 some [yR 2 r1.1,yR 0 b0])
def V16x5(n:Nt):Int→Int→Int→List G.O→G.Z→G.O→Rt:=fun x0 x1 x2 x3 x4 x5=>n [yI x0,yI x1,yI x2,yS 2 x3,yR 0 x4,yR 2 x5]
def X16x5:=V16x5 (xE vR e [1,1,1,0,0,1,0,1,1,1,1,1,0,1,1,1,1,1,1,1,1,1,1,1,1,1,1,0,0,1,1,0,1,0,0] zM (q16x5 c e))
theorem s16x0:V16x0 (xF vR c e)=B16x0 c (X16x1 c e):=by kernel_rfl
theorem s16x1:V16x1 (xA vR c e [1,1,0,1,0] aIq (q16x1 c e))=B16x1 c (X16x2 c e):=by kernel_rfl
theorem s16x2:V16x2 (xA vR c e [1,1,1,0] aIp (q16x0 c e))=B16x2 c (X16x3 c e):=by kernel_rfl
theorem s16x3:V16x3 (xA vR c e [1,1,1,0,0,1,0,1,1,1,1,1,0] aIo (aGm c e))=B16x3 c (X16x4 c e):=by kernel_rfl
theorem s16x4:V16x4 (xA vR c e [1,1,1,0,0,1,0,1,1,1,1,1,0,1,1,1,1,1,1,1,1,1,1,1,1,1,1,0] aIn (aGm c e))=B16x4 c (X16x5 c e):=by kernel_rfl
theorem s16x5(n5:Nt):V16x5 (xA vR c e [1,1,1,0,0,1,0,1,1,1,1,1,0,1,1,1,1,1,1,1,1,1,1,1,1,1,1,0,0,1,1,0,1,0,0] zM (lpK U0 zM n5 (q16x5 c e)))=B16x5 c (V16x5 n5):=by kernel_rfl
def aB8(c:TC0)(L:Nat):Nat→Int→Int→Int→List G.O→G.Z→G.O→Rt
 |0=>fun _ _ _ _ _ _=>none
 |n+1=>B16x5 c (aB8 c L n)
theorem u16x5(n:Nat):V16x5 (xL vR c L [1,1,1,0,0,1,0,1,1,1,1,1,0,1,1,1,1,1,1,1,1,1,1,1,1,1,1,0,0,1,1,0,1,0,0] zM (q16x5 c (cu c L)) n)=aB8 c L n:=by
 induction n with
 |zero=>rfl
 |succ n ih=>rw[gC,s16x5];simp only[ih];rfl
theorem w16x5:X16x5 c (cu c L)=aB8 c L L:=u16x5 c L L
def aFk(c:TC0)(L:Nat):Bool→Int→G.Z→G.O→Rt:=B16x4 c (aB8 c L L)
theorem j16x4:X16x4 c (cu c L)=aFk c L:=by rw[X16x4,aK,s16x4];simp only[w16x5];rfl
def J16x3(c:TC0)(L:Nat):Bool→Int→Int→G.Z→G.O→Rt:=B16x3 c (aFk c L)
theorem j16x3:X16x3 c (cu c L)=J16x3 c L:=by rw[X16x3,aK,s16x3];simp only[j16x4];rfl
def aJH(c:TC0)(L:Nat):Int→Int→G.Z→G.O→Rt:=B16x2 c (J16x3 c L)
theorem j16x2:X16x2 c (cu c L)=aJH c L:=by rw[X16x2,aK,s16x2];simp only[j16x3];rfl
def aFl(c:TC0)(L:Nat):Bool→Int→Int→G.Z→G.O→Rt:=B16x1 c (aJH c L)
theorem j16x1:X16x1 c (cu c L)=aFl c L:=by rw[X16x1,aK,s16x1];simp only[j16x2];rfl
def F16(c:TC0)(L:Nat):Int→G.Z→Rt:=B16x0 c (aFl c L)
theorem e16:V16x0 (xF vR c (cu c L))=F16 c L:=by rw[s16x0];simp only[j16x1];rfl
theorem c16(a1:Int)(b0:G.Z)(L n:Nat):CTp L (n+1) 16 [yI a1,yR 0 b0]=F16 (CTp L n) L a1 b0:=by rw[←e16];exact cg (x:=vR) (by kernel_rfl) (by kernel_rfl) L n _
def B18x0(c:TC0)(a0:Int):Rt:=
 obL [.rc 2] (c 48 [yI a0]) fun(r0:G.O×Unit)=>
 obL [.rc 3] (c 17 [yR 2 r0.1]) fun(r1:G.T×Unit)=>
 some [yR 3 r1.1]
def V18x0(n:Nt):Int→Rt:=fun x0=>n [yI x0]
theorem s18x0:V18x0 (xF ii18 c e)=B18x0 c:=by kernel_rfl
def F18(c:TC0)(L:Nat):Int→Rt:=B18x0 c
theorem e18:V18x0 (xF ii18 c (cu c L))=F18 c L:=s18x0 _ _
theorem c18(a0:Int)(L n:Nat):CTp L (n+1) 18 [yI a0]=F18 (CTp L n) L a0:=by rw[←e18];exact cg (x:=ii18) (by kernel_rfl) (by kernel_rfl) L n _
def q19x0(c:TC0)(e:Cu):Kt:=xK ii19
def q19x1(c:TC0)(e:Cu):Kt:=xT ii19 c e [1,1,1] (q19x0 c e)
def q19x2(c:TC0)(e:Cu):Kt:=cU U0 0 (q19x1 c e)
def B19x0(c:TC0)(e1:List G.T→Int→List G.T→Rt)(a0:List G.T):Rt:=
 e1 a0 (0:Int) ([]:List G.T)
def V19x0(n:Nt):List G.T→Rt:=fun x0=>n [yS 3 x0]
def B19x1(c:TC0)(n1:List G.T→Int→List G.T→Rt)(a0:List G.T)(a4:Int)(a3:List G.T):Rt:=
 cnd (decide (a4<(List.length a0:Int))) (ob (idx a0 a4) fun v0=>
 obL [zS 3] (c 54 [yS 3 a3,yR 3 v0]) fun(r1:List G.T×Unit)=>
 n1 a0 (IntKind.i64.wrap (a4+(1:Int))) r1.1) (some [yS 3 a3])
def V19x1(n:Nt):List G.T→Int→List G.T→Rt:=fun x0 x1 x2=>n [yS 3 x0,yI x1,yS 3 x2]
def X19x1:=V19x1 (xE ii19 e [1,1,0,1,0,0] zL (q19x2 c e))
theorem s19x0:V19x0 (xF ii19 c e)=B19x0 c (X19x1 c e):=by kernel_rfl
theorem s19x1(n1:Nt):V19x1 (xA ii19 c e [1,1,0,1,0,0] zL (lpK U0 zL n1 (q19x2 c e)))=B19x1 c (V19x1 n1):=by kernel_rfl
def aB7(c:TC0)(L:Nat):Nat→List G.T→Int→List G.T→Rt
 |0=>fun _ _ _=>none
 |n+1=>B19x1 c (aB7 c L n)
theorem u19x1(n:Nat):V19x1 (xL ii19 c L [1,1,0,1,0,0] zL (q19x2 c (cu c L)) n)=aB7 c L n:=by
 induction n with
 |zero=>rfl
 |succ n ih=>rw[gC,s19x1];simp only[ih];rfl
theorem w19x1:X19x1 c (cu c L)=aB7 c L L:=u19x1 c L L
def F19(c:TC0)(L:Nat):List G.T→Rt:=B19x0 c (aB7 c L L)
theorem e19:V19x0 (xF ii19 c (cu c L))=F19 c L:=by rw[s19x0];simp only[w19x1];rfl
theorem c19(a0:List G.T)(L n:Nat):CTp L (n+1) 19 [yS 3 a0]=F19 (CTp L n) L a0:=by rw[←e19];exact cg (x:=ii19) (by kernel_rfl) (by kernel_rfl) L n _
def aEA(c:TC0)(e:Cu):Kt:=xK aAz
def q20x1(c:TC0)(e:Cu):Kt:=xT aAz c e [1,1,1] (aEA c e)
def q20x2(c:TC0)(e:Cu):Kt:=xT aAz c e [1,1,1,0,1,1,1,0,1,1,1] (aEA c e)
def q20x3(c:TC0)(e:Cu):Kt:=cU U0 1 (q20x2 c e)
def B20x0(c:TC0)(k1:Bool→Int→List G.E→Int→G.Z→G.T→Rt)(a1:List G.E)(a2:Int)(b0:G.Z):Rt:=
 obL [i6,.rc 0] (c 13 [yI (12:Int),yR 0 b0]) fun(r0:Int×G.Z×Unit)=>
 cnd (decide (a2<(1:Int))) (k1 (decide ((3:Int)<r0.1)) r0.1 a1 a2 r0.2.1 (G.T.mk (0:Int) (G.Y.mk ([]:List UInt8) ([]:List UInt8)) (G.O.mk (0:Int) ([]:List UInt8) ([]:List UInt8) (G.Y.mk ([]:List UInt8) ([]:List UInt8)) ([]:List UInt8) ([]:List G.O)) ([]:List G.T))) (k1 false r0.1 a1 a2 r0.2.1 (G.T.mk (0:Int) (G.Y.mk ([]:List UInt8) ([]:List UInt8)) (G.O.mk (0:Int) ([]:List UInt8) ([]:List UInt8) (G.Y.mk ([]:List UInt8) ([]:List UInt8)) ([]:List UInt8) ([]:List G.O)) ([]:List G.T)))
def V20x0(n:Nt):List G.E→Int→G.Z→Rt:=fun x0 x1 x2=>n [yS 15 x0,yI x1,yR 0 x2]
def B20x1(c:TC0)(k2:Int→List G.E→Int→G.Z→G.T→Rt)(a22:Bool)(a7:Int)(a1:List G.E)(a2:Int)(b0:G.Z)(b106:G.T):Rt:=
 cnd a22 (chk (!decide ((4:Int)=0))<|
 k2 (Int.tmod a7 (4:Int)) a1 a2 b0 b106) (k2 a7 a1 a2 b0 b106)
def V20x1(n:Nt):Bool→Int→List G.E→Int→G.Z→G.T→Rt:=fun x0 x1 x2 x3 x4 x5=>n [yB x0,yI x1,yS 15 x2,yI x3,yR 0 x4,yR 3 x5]
def X20x1:=V20x1 (xD aAz e [1,1,0,1,0] aIm (q20x1 c e))
def B20x2(c:TC0)(k3:List G.E→Int→G.Z→G.Y→G.T→Rt)(a7:Int)(a1:List G.E)(a2:Int)(b0:G.Z)(b106:G.T):Rt:=
 cnd (decide (a7<(3:Int))) (obL [.rc 3,.rc 0] (c 15 [yR 0 b0]) fun(r0:G.T×G.Z×Unit)=>
 some [yR 3 r0.1,yR 0 r0.2.1]) (cnd (decide (a7=(3:Int))) (obL [.rc 2,.rc 0] (c 16 [yI (1:Int),yR 0 b0]) fun(r1:G.O×G.Z×Unit)=>
 obL [.rc 3] (c 17 [yR 2 r1.1]) fun(r2:G.T×Unit)=>
 some [yR 3 r2.1,yR 0 r1.2.1]) (obL [(.sl .str)] (c 55 []) fun(r3:(List (List UInt8))×Unit)=>
 obL [(.sl .str)] (c 56 []) fun(r4:(List (List UInt8))×Unit)=>
 obL [i6,.rc 0] (c 13 [yI (4:Int),yR 0 b0]) fun(r5:Int×G.Z×Unit)=>
 cnd (decide (r5.1<(3:Int))) (obL [i6,.rc 0] (c 13 [yI (List.length r3.1:Int),yR 0 r5.2.1]) fun(r6:Int×G.Z×Unit)=>
 ob (idx r3.1 r6.1) fun v7=>
 obL [.rc 1] (c 57 [yT v7]) fun(r8:G.Y×Unit)=>
 k3 a1 a2 r6.2.1 r8.1 b106) (obL [i6,.rc 0] (c 13 [yI (List.length r4.1:Int),yR 0 r5.2.1]) fun(r9:Int×G.Z×Unit)=>
 ob (idx r4.1 r9.1) fun v10=>
 obL [.rc 1] (c 12 [yT v10]) fun(r11:G.Y×Unit)=>
 k3 a1 a2 r9.2.1 r11.1 b106)))
def V20x2(n:Nt):Int→List G.E→Int→G.Z→G.T→Rt:=fun x0 x1 x2 x3 x4=>n [yI x0,yS 15 x1,yI x2,yR 0 x3,yR 3 x4]
def X20x2:=V20x2 (xD aAz e [1,1,1,0] aIl (aEA c e))
def B20x3(c:TC0)(e4:Int→List G.E→Int→Int→List G.T→G.Z→G.Y→G.T→Rt)(a1:List G.E)(a2:Int)(b0:G.Z)(b108:G.Y)(b106:G.T):Rt:=
 obL [i6,.bool] (c 58 [yS 15 a1,yR 1 b108]) fun(r0:Int×Bool×Unit)=>
 e4 r0.1 a1 a2 (0:Int) ([]:List G.T) b0 b108 b106
def V20x3(n:Nt):List G.E→Int→G.Z→G.Y→G.T→Rt:=fun x0 x1 x2 x3 x4=>n [yS 15 x0,yI x1,yR 0 x2,yR 1 x3,yR 3 x4]
def X20x3:=V20x3 (xD aAz e [1,1,1,0,1,1,1,0] aIk (aEA c e))
def B20x4(c:TC0)(n4:Int→List G.E→Int→Int→List G.T→G.Z→G.Y→G.T→Rt)(a11:Int)(a1:List G.E)(a2:Int)(a14:Int)(a13:List G.T)(b0:G.Z)(b108:G.Y)(b106:G.T):Rt:=
 cnd (decide (a14<a11)) (obL [.rc 3,.rc 0] (c 20 [yS 15 a1,yI (IntKind.i64.wrap (a2-(1:Int))),yR 0 b0]) fun(r0:G.T×G.Z×Unit)=>
 chk (Nat.ble ((List.length a13+List.length ([r0.1]:List G.T))*176) 1073741824)<|
 n4 a11 a1 a2 (IntKind.i64.wrap (a14+(1:Int))) (a13++([r0.1]:List G.T)) r0.2.1 b108 b106) (obL [.rc 3] (c 45 [yR 1 b108,yS 3 a13]) fun(r1:G.T×Unit)=>
 some [yR 3 r1.1,yR 0 b0])
def V20x4(n:Nt):Int→List G.E→Int→Int→List G.T→G.Z→G.Y→G.T→Rt:=fun x0 x1 x2 x3 x4 x5 x6 x7=>n [yI x0,yS 15 x1,yI x2,yI x3,yS 3 x4,yR 0 x5,yR 1 x6,yR 3 x7]
def X20x4:=V20x4 (xE aAz e [1,1,1,0,1,1,1,0,1,1,0,1,0,0] zK (q20x3 c e))
theorem s20x0:V20x0 (xF aAz c e)=B20x0 c (X20x1 c e):=by kernel_rfl
theorem s20x1:V20x1 (xA aAz c e [1,1,0,1,0] aIm (q20x1 c e))=B20x1 c (X20x2 c e):=by kernel_rfl
theorem s20x2:V20x2 (xA aAz c e [1,1,1,0] aIl (aEA c e))=B20x2 c (X20x3 c e):=by kernel_rfl
theorem s20x3:V20x3 (xA aAz c e [1,1,1,0,1,1,1,0] aIk (aEA c e))=B20x3 c (X20x4 c e):=by kernel_rfl
theorem s20x4(n4:Nt):V20x4 (xA aAz c e [1,1,1,0,1,1,1,0,1,1,0,1,0,0] zK (lpK U0 zK n4 (q20x3 c e)))=B20x4 c (V20x4 n4):=by kernel_rfl
def aB6(c:TC0)(L:Nat):Nat→Int→List G.E→Int→Int→List G.T→G.Z→G.Y→G.T→Rt
 |0=>fun _ _ _ _ _ _ _ _=>none
 |n+1=>B20x4 c (aB6 c L n)
theorem u20x4(n:Nat):V20x4 (xL aAz c L [1,1,1,0,1,1,1,0,1,1,0,1,0,0] zK (q20x3 c (cu c L)) n)=aB6 c L n:=by
 induction n with
 |zero=>rfl
 |succ n ih=>rw[gC,s20x4];simp only[ih];rfl
theorem w20x4:X20x4 c (cu c L)=aB6 c L L:=u20x4 c L L
def J20x3(c:TC0)(L:Nat):List G.E→Int→G.Z→G.Y→G.T→Rt:=B20x3 c (aB6 c L L)
theorem j20x3:X20x3 c (cu c L)=J20x3 c L:=by rw[X20x3,aK,s20x3];simp only[w20x4];rfl
def aJG(c:TC0)(L:Nat):Int→List G.E→Int→G.Z→G.T→Rt:=B20x2 c (J20x3 c L)
theorem j20x2:X20x2 c (cu c L)=aJG c L:=by rw[X20x2,aK,s20x2];simp only[j20x3];rfl
def aFj(c:TC0)(L:Nat):Bool→Int→List G.E→Int→G.Z→G.T→Rt:=B20x1 c (aJG c L)
theorem j20x1:X20x1 c (cu c L)=aFj c L:=by rw[X20x1,aK,s20x1];simp only[j20x2];rfl
def F20(c:TC0)(L:Nat):List G.E→Int→G.Z→Rt:=B20x0 c (aFj c L)
theorem e20:V20x0 (xF aAz c (cu c L))=F20 c L:=by rw[s20x0];simp only[j20x1];rfl
theorem c20(a1:List G.E)(a2:Int)(b0:G.Z)(L n:Nat):CTp L (n+1) 20 [yS 15 a1,yI a2,yR 0 b0]=F20 (CTp L n) L a1 a2 b0:=by rw[←e20];exact cg (x:=aAz) (by kernel_rfl) (by kernel_rfl) L n _
def q21x0(c:TC0)(e:Cu):Kt:=xK wY
def q21x1(c:TC0)(e:Cu):Kt:=xT wY c e [1,1] (q21x0 c e)
def q21x2(c:TC0)(e:Cu):Kt:=cU U0 0 (q21x1 c e)
def q21x3(c:TC0)(e:Cu):Kt:=xT wY c e [1,0,1,0,1,1,1,1,1,1,1,0,1] (q21x2 c e)
def q21x4(c:TC0)(e:Cu):Kt:=cU U0 3 (q21x3 c e)
def q21x5(c:TC0)(e:Cu):Kt:=xT wY c e [1,0,1,0,1,0,1,0,1] (q21x2 c e)
def q21x6(c:TC0)(e:Cu):Kt:=cU U0 1 (q21x5 c e)
def q21x7(c:TC0)(e:Cu)(n2:Nt):Kt:=lpK U0 uC n2 (q21x4 c e)
def q21x8(c:TC0)(e:Cu)(n2:Nt):Kt:=xT wY c e [1,0,1,0,1,1,1,1,1,1,1,0,0,0,0,1] (q21x7 c e n2)
def B21x0(c:TC0)(k1:Bool→G.O→Rt)(e2:G.O→Rt)(a0:G.O):Rt:=
 cnd (decide (a0.kind=(1:Int))) (cnd (decide ((0:Int)<(List.length a0.num:Int))) (ob (idx a0.num (0:Int)) fun v0=>
 k1 (decide ((v0.toNat:Int)=(45:Int))) a0) (k1 false a0)) (cnd (decide (a0.kind=(2:Int))) (obL [.bool] (c 59 [yR 2 a0]) fun(r1:Bool×Unit)=>
 cnd r1.1 (some [yI (32:Int)]) (cnd (decide (a0.sym=(G.Y.mk ([108,105,115,112]:List UInt8) ([116]:List UInt8)))) (some [yI (64:Int)]) (some [yI (128:Int)]))) (cnd (decide (a0.kind=(3:Int))) (some [yI (256:Int)]) (cnd (decide (a0.kind=(4:Int))) (e2 a0) (some [yI (0:Int)]))))
def V21x0(n:Nt):G.O→Rt:=fun x0=>n [yR 2 x0]
def B21x1(c:TC0)(k3:Bool→Bool→G.O→Rt)(a3:Bool)(b101:G.O):Rt:=
 cnd (decide (b101.num=([48]:List UInt8))) (some [yI (1:Int)]) (cnd (decide (b101.den=([49]:List UInt8))) (k3 a3 a3 b101) (k3 false a3 b101))
def V21x1(n:Nt):Bool→G.O→Rt:=fun x0 x1=>n [yB x0,yR 2 x1]
def X21x1:=V21x1 (xD wY e [1,0,1,0,1,0,1,0] aIj (q21x2 c e))
def B21x2(c:TC0)(k4:Bool→G.O→Rt)(b101:G.O):Rt:=
 cnd (decide (b101.kind=(4:Int))) (k4 (decide ((List.length b101.pair:Int)=(2:Int))) b101) (k4 false b101)
def aJp(n:Nt):G.O→Rt:=fun x0=>n [yR 2 x0]
def X21x2:=aJp (xE wY e [1,0,1,0,1,1,1,1,1,1,1,0,0,0,0] uC (q21x4 c e))
def B21x3(c:TC0)(a22:Bool)(a3:Bool)(b101:G.O):Rt:=
 cnd a22 (some [yI (4:Int)]) (cnd (decide (b101.den=([49]:List UInt8))) (some [yI (2:Int)]) (cnd a3 (some [yI (16:Int)]) (some [yI (8:Int)])))
def V21x3(n:Nt):Bool→Bool→G.O→Rt:=fun x0 x1 x2=>n [yB x0,yB x1,yR 2 x2]
def X21x3:=V21x3 (xD wY e [1,0,1,0,1,0,1,0,0,0,1,1,1,0] aIi (q21x6 c e))
def B21x4(c:TC0)(n2:G.O→Rt)(a57:Bool)(b101:G.O):Rt:=
 cnd a57 (ob (idx b101.pair (1:Int)) fun v0=>
 n2 v0) (obL [.bool] (c 59 [yR 2 b101]) fun(r1:Bool×Unit)=>
 cnd r1.1 (some [yI (512:Int)]) (some [yI (1024:Int)]))
def V21x4(n:Nt):Bool→G.O→Rt:=fun x0 x1=>n [yB x0,yR 2 x1]
def X21x4(n2:Nt):=V21x4 (xD wY e [1,0,1,0,1,1,1,1,1,1,1,0,0,0,0,0,1,0] aIh (q21x8 c e n2))
theorem s21x0:V21x0 (xF wY c e)=B21x0 c (X21x1 c e) (X21x2 c e):=by kernel_rfl
theorem s21x1:V21x1 (xA wY c e [1,0,1,0,1,0,1,0] aIj (q21x2 c e))=B21x1 c (X21x3 c e):=by kernel_rfl
theorem s21x2(n2:Nt):aJp (xA wY c e [1,0,1,0,1,1,1,1,1,1,1,0,0,0,0] uC (lpK U0 uC n2 (q21x4 c e)))=B21x2 c (X21x4 c e n2):=by kernel_rfl
theorem s21x3:V21x3 (xA wY c e [1,0,1,0,1,0,1,0,0,0,1,1,1,0] aIi (q21x6 c e))=B21x3 c:=by kernel_rfl
theorem s21x4(n2:Nt):V21x4 (xA wY c e [1,0,1,0,1,1,1,1,1,1,1,0,0,0,0,0,1,0] aIh (q21x8 c e n2))=B21x4 c (aJp n2):=by kernel_rfl
def J21x3(c:TC0)(L:Nat):Bool→Bool→G.O→Rt:=B21x3 c
theorem j21x3:X21x3 c (cu c L)=J21x3 c L:=by rw[X21x3,aK,s21x3];rfl
def aJF(c:TC0)(L:Nat)(n2:G.O→Rt):Bool→G.O→Rt:=B21x4 c n2
theorem j21x4(n2:Nt):X21x4 c (cu c L) n2=aJF c L (aJp n2):=by rw[X21x4,aK,s21x4];rfl
def J21x1(c:TC0)(L:Nat):Bool→G.O→Rt:=B21x1 c (J21x3 c L)
theorem j21x1:X21x1 c (cu c L)=J21x1 c L:=by rw[X21x1,aK,s21x1];simp only[j21x3];rfl
def aB5(c:TC0)(L:Nat):Nat→G.O→Rt
 |0=>fun _=>none
 |n+1=>B21x2 c (aJF c L (aB5 c L n))
theorem u21x2(n:Nat):aJp (xL wY c L [1,0,1,0,1,1,1,1,1,1,1,0,0,0,0] uC (q21x4 c (cu c L)) n)=aB5 c L n:=by
 induction n with
 |zero=>rfl
 |succ n ih=>rw[gC,s21x2];simp only[j21x4,ih];rfl
theorem w21x2:X21x2 c (cu c L)=aB5 c L L:=u21x2 c L L
def F21(c:TC0)(L:Nat):G.O→Rt:=B21x0 c (J21x1 c L) (aB5 c L L)
theorem e21:V21x0 (xF wY c (cu c L))=F21 c L:=by rw[s21x0];simp only[j21x1,w21x2];rfl
theorem c21(a0:G.O)(L n:Nat):CTp L (n+1) 21 [yR 2 a0]=F21 (CTp L n) L a0:=by rw[←e21];exact cg (x:=wY) (by kernel_rfl) (by kernel_rfl) L n _
def q22x0(c:TC0)(e:Cu):Kt:=xK ii22
def B22x0(c:TC0)(k1:Bool→Rt)(a0:G.T)(a1:List UInt8)(a2:Int):Rt:=
 cnd (decide (a0.kind=(3:Int))) (cnd (decide (a0.name.package=([108,105,115,112]:List UInt8))) (cnd (decide (a0.name.name=a1)) (k1 (decide ((List.length a0.args:Int)=a2))) (k1 false)) (k1 false)) (k1 false)
def V22x0(n:Nt):G.T→List UInt8→Int→Rt:=fun x0 x1 x2=>n [yR 3 x0,yT x1,yI x2]
def B22x1(c:TC0)(a6:Bool):Rt:=
 some [yB a6]
def V22x1(n:Nt):Bool→Rt:=fun x0=>n [yB x0]
def X22x1:=V22x1 (xD ii22 e [1,1,0] aIg (q22x0 c e))
theorem s22x0:V22x0 (xF ii22 c e)=B22x0 c (X22x1 c e):=by kernel_rfl
theorem s22x1:V22x1 (xA ii22 c e [1,1,0] aIg (q22x0 c e))=B22x1 c:=by kernel_rfl
def J22x1(c:TC0)(L:Nat):Bool→Rt:=B22x1 c
theorem j22x1:X22x1 c (cu c L)=J22x1 c L:=by rw[X22x1,aK,s22x1];rfl
def F22(c:TC0)(L:Nat):G.T→List UInt8→Int→Rt:=B22x0 c (J22x1 c L)
theorem e22:V22x0 (xF ii22 c (cu c L))=F22 c L:=by rw[s22x0];simp only[j22x1];rfl
theorem c22(a0:G.T)(a1:List UInt8)(a2:Int)(L n:Nat):CTp L (n+1) 22 [yR 3 a0,yT a1,yI a2]=F22 (CTp L n) L a0 a1 a2:=by rw[←e22];exact cg (x:=ii22) (by kernel_rfl) (by kernel_rfl) L n _
def q23x0(c:TC0)(e:Cu):Kt:=xK ii23
def q23x1(c:TC0)(e:Cu):Kt:=xT ii23 c e [1,1,1] (q23x0 c e)
def q23x2(c:TC0)(e:Cu):Kt:=cU U0 0 (q23x1 c e)
def B23x0(c:TC0)(k1:Bool→List UInt8→Rt)(a0:G.Y):Rt:=
 cnd (!decide (a0.package=([108,105,115,112]:List UInt8))) (some [yI (0:Int),yB false]) (cnd (decide (a0.name=([105,102]:List UInt8))) (some [yI (3:Int),yB true]) (cnd (decide (a0.name=([101,113,117,97,108]:List UInt8))) (k1 (decide (a0.name=([101,113,117,97,108]:List UInt8))) a0.name) (cnd (decide (a0.name=([99,111,110,115]:List UInt8))) (k1 (decide (a0.name=([99,111,110,115]:List UInt8))) a0.name) (cnd (decide (a0.name=([98,105,110,97,114,121,45,43]:List UInt8))) (k1 (decide (a0.name=([98,105,110,97,114,121,45,43]:List UInt8))) a0.name) (cnd (decide (a0.name=([98,105,110,97,114,121,45,42]:List UInt8))) (k1 (decide (a0.name=([98,105,110,97,114,121,45,42]:List UInt8))) a0.name) (cnd (decide (a0.name=([60]:List UInt8))) (k1 (decide (a0.name=([60]:List UInt8))) a0.name) (cnd (decide (a0.name=([105,110,116,101,114,110]:List UInt8))) (k1 (decide (a0.name=([105,110,116,101,114,110]:List UInt8))) a0.name) (cnd (decide (a0.name=([115,116,114,105,110,103,45,97,112,112,101,110,100]:List UInt8))) (k1 (decide (a0.name=([115,116,114,105,110,103,45,97,112,112,101,110,100]:List UInt8))) a0.name) (k1 (decide (a0.name=([115,116,114,105,110,103,45,98,121,116,101]:List UInt8))) a0.name)))))))))
def V23x0(n:Nt):G.Y→Rt:=fun x0=>n [yR 1 x0]
def B23x1(c:TC0)(k2:Bool→Rt)(a11:Bool)(a8:List UInt8):Rt:=
 cnd a11 (some [yI (2:Int),yB true]) (cnd (decide (a8=([99,97,114]:List UInt8))) (k2 (decide (a8=([99,97,114]:List UInt8)))) (cnd (decide (a8=([99,100,114]:List UInt8))) (k2 (decide (a8=([99,100,114]:List UInt8)))) (cnd (decide (a8=([99,111,110,115,112]:List UInt8))) (k2 (decide (a8=([99,111,110,115,112]:List UInt8)))) (cnd (decide (a8=([115,121,109,98,111,108,112]:List UInt8))) (k2 (decide (a8=([115,121,109,98,111,108,112]:List UInt8)))) (cnd (decide (a8=([115,116,114,105,110,103,112]:List UInt8))) (k2 (decide (a8=([115,116,114,105,110,103,112]:List UInt8)))) (cnd (decide (a8=([114,97,116,105,111,110,97,108,112]:List UInt8))) (k2 (decide (a8=([114,97,116,105,111,110,97,108,112]:List UInt8)))) (cnd (decide (a8=([105,110,116,101,103,101,114,112]:List UInt8))) (k2 (decide (a8=([105,110,116,101,103,101,114,112]:List UInt8)))) (cnd (decide (a8=([117,110,97,114,121,45,45]:List UInt8))) (k2 (decide (a8=([117,110,97,114,121,45,45]:List UInt8)))) (cnd (decide (a8=([117,110,97,114,121,45,47]:List UInt8))) (k2 (decide (a8=([117,110,97,114,121,45,47]:List UInt8)))) (cnd (decide (a8=([110,117,109,101,114,97,116,111,114]:List UInt8))) (k2 (decide (a8=([110,117,109,101,114,97,116,111,114]:List UInt8)))) (cnd (decide (a8=([100,101,110,111,109,105,110,97,116,111,114]:List UInt8))) (k2 (decide (a8=([100,101,110,111,109,105,110,97,116,111,114]:List UInt8)))) (cnd (decide (a8=([102,108,111,111,114]:List UInt8))) (k2 (decide (a8=([102,108,111,111,114]:List UInt8)))) (cnd (decide (a8=([115,121,109,98,111,108,45,110,97,109,101]:List UInt8))) (k2 (decide (a8=([115,121,109,98,111,108,45,110,97,109,101]:List UInt8)))) (cnd (decide (a8=([115,121,109,98,111,108,45,112,97,99,107,97,103,101,45,110,97,109,101]:List UInt8))) (k2 (decide (a8=([115,121,109,98,111,108,45,112,97,99,107,97,103,101,45,110,97,109,101]:List UInt8)))) (cnd (decide (a8=([115,116,114,105,110,103,45,108,101,110,103,116,104]:List UInt8))) (k2 (decide (a8=([115,116,114,105,110,103,45,108,101,110,103,116,104]:List UInt8)))) (k2 (decide (a8=([98,121,116,101,45,115,116,114,105,110,103]:List UInt8)))))))))))))))))))
def V23x1(n:Nt):Bool→List UInt8→Rt:=fun x0 x1=>n [yB x0,yT x1]
def X23x1:=V23x1 (xD ii23 e [1,1,0,1,0,1,1,1,0] aIf (q23x2 c e))
def B23x2(c:TC0)(a20:Bool):Rt:=
 cnd a20 (some [yI (1:Int),yB true]) (some [yI (0:Int),yB false])
def V23x2(n:Nt):Bool→Rt:=fun x0=>n [yB x0]
def X23x2:=V23x2 (xD ii23 e [1,1,0,1,0,1,1,1,0,1,1,0] aIe (q23x2 c e))
theorem s23x0:V23x0 (xF ii23 c e)=B23x0 c (X23x1 c e):=by kernel_rfl
theorem s23x1:V23x1 (xA ii23 c e [1,1,0,1,0,1,1,1,0] aIf (q23x2 c e))=B23x1 c (X23x2 c e):=by kernel_rfl
theorem s23x2:V23x2 (xA ii23 c e [1,1,0,1,0,1,1,1,0,1,1,0] aIe (q23x2 c e))=B23x2 c:=by kernel_rfl
def J23x2(c:TC0)(L:Nat):Bool→Rt:=B23x2 c
theorem j23x2:X23x2 c (cu c L)=J23x2 c L:=by rw[X23x2,aK,s23x2];rfl
def J23x1(c:TC0)(L:Nat):Bool→List UInt8→Rt:=B23x1 c (J23x2 c L)
theorem j23x1:X23x1 c (cu c L)=J23x1 c L:=by rw[X23x1,aK,s23x1];simp only[j23x2];rfl
def F23(c:TC0)(L:Nat):G.Y→Rt:=B23x0 c (J23x1 c L)
theorem e23:V23x0 (xF ii23 c (cu c L))=F23 c L:=by rw[s23x0];simp only[j23x1];rfl
theorem c23(a0:G.Y)(L n:Nat):CTp L (n+1) 23 [yR 1 a0]=F23 (CTp L n) L a0:=by rw[←e23];exact cg (x:=ii23) (by kernel_rfl) (by kernel_rfl) L n _
def B24x0(c:TC0)(a0:G.T)(a1:G.T):Rt:=
 obL [.bool] (c 60 [yR 3 a0,yR 3 a1]) fun(r0:Bool×Unit)=>
 cnd r0.1 (obL [.rc 3] (c 61 [yR 3 a1]) fun(r1:G.T×Unit)=>
 some [yI (2015:Int),yR 3 r1.1,yB true]) (obL [i6,.rc 3,.bool] (c 62 [yR 3 a0,yR 3 a1]) fun(r2:Int×G.T×Bool×Unit)=>
 cnd r2.2.2.1 (obL [.rc 3] (c 61 [yR 3 r2.2.1]) fun(r3:G.T×Unit)=>
 some [yI r2.1,yR 3 r3.1,yB true]) (obL [.bool] (c 22 [yR 3 a0,yT ([110,111,116]:List UInt8),yI (1:Int)]) fun(r4:Bool×Unit)=>
 cnd (!r4.1) (some [yI (0:Int),yR 3 a0,yB false]) (ob (idx a0.args (0:Int)) fun v5=>
 obL [.bool] (c 60 [yR 3 v5,yR 3 a1]) fun(r6:Bool×Unit)=>
 cnd r6.1 (some [yI (32:Int),yR 3 a1,yB true]) (ob (idx a0.args (0:Int)) fun v7=>
 obL [i6,.rc 3,.bool] (c 62 [yR 3 v7,yR 3 a1]) fun(r8:Int×G.T×Bool×Unit)=>
 some [yI (IntKind.i64.wrap ((BitVec.ofInt IntKind.i64.bits (2047:Int)&&& ~~~ BitVec.ofInt IntKind.i64.bits r8.1).toNat:Int)),yR 3 r8.2.1,yB r8.2.2.1]))))
def V24x0(n:Nt):G.T→G.T→Rt:=fun x0 x1=>n [yR 3 x0,yR 3 x1]
theorem s24x0:V24x0 (xF ii24 c e)=B24x0 c:=by kernel_rfl
def F24(c:TC0)(L:Nat):G.T→G.T→Rt:=B24x0 c
theorem e24:V24x0 (xF ii24 c (cu c L))=F24 c L:=s24x0 _ _
theorem c24(a0:G.T)(a1:G.T)(L n:Nat):CTp L (n+1) 24 [yR 3 a0,yR 3 a1]=F24 (CTp L n) L a0 a1:=by rw[←e24];exact cg (x:=ii24) (by kernel_rfl) (by kernel_rfl) L n _
def B25x0(c:TC0)(a0:G.T):Rt:=
 obL [.bool] (c 63 [yR 3 a0,yT ([110,111,116]:List UInt8),yI (1:Int)]) fun(r0:Bool×Unit)=>
 cnd r0.1 (ob (idx a0.args (0:Int)) fun v1=>
 some [yR 3 v1]) (obL [.rc 3] (c 64 [yT ([110,111,116]:List UInt8),yS 3 ([a0]:List G.T)]) fun(r2:G.T×Unit)=>
 some [yR 3 r2.1])
def V25x0(n:Nt):G.T→Rt:=fun x0=>n [yR 3 x0]
theorem s25x0:V25x0 (xF ii25 c e)=B25x0 c:=by kernel_rfl
def F25(c:TC0)(L:Nat):G.T→Rt:=B25x0 c
theorem e25:V25x0 (xF ii25 c (cu c L))=F25 c L:=s25x0 _ _
theorem c25(a0:G.T)(L n:Nat):CTp L (n+1) 25 [yR 3 a0]=F25 (CTp L n) L a0:=by rw[←e25];exact cg (x:=ii25) (by kernel_rfl) (by kernel_rfl) L n _
def q27x0(c:TC0)(e:Cu):Kt:=xK aA8
def q27x1(c:TC0)(e:Cu):Kt:=xT aA8 c e [1,1,1] (q27x0 c e)
def q27x2(c:TC0)(e:Cu):Kt:=xT aA8 c e [1,1,1,1,1] (q27x0 c e)
def q27x3(c:TC0)(e:Cu):Kt:=xT aA8 c e [1,1,1,1,1,1,1] (q27x0 c e)
def q27x4(c:TC0)(e:Cu):Kt:=cU U0 0 (q27x3 c e)
def aJX(c:TC0)(k1:Bool→G.T→Rt)(a0:G.T):Rt:=
 cnd (decide (a0.kind=(2:Int))) (obL [i6] (c 67 [yR 2 a0.value]) fun(r0:Int×Unit)=>
 some [yI r0.1]) (cnd (!decide (a0.kind=(3:Int))) (k1 true a0) (k1 (decide (a0.name=(G.Y.mk ([108,105,115,112]:List UInt8) ([105,102]:List UInt8)))) a0))
def V27x0(n:Nt):G.T→Rt:=fun x0=>n [yR 3 x0]
def aCc(c:TC0)(k2:Bool→Int→G.T→Rt)(a21:Bool)(b101:G.T):Rt:=
 cnd a21 (some [yI (2047:Int)]) (obL [i6,.bool] (c 68 [yR 1 b101.name]) fun(r0:Int×Bool×Unit)=>
 cnd (!r0.2.1) (k2 true r0.1 b101) (k2 (!decide (r0.1=(List.length b101.args:Int))) r0.1 b101))
def V27x1(n:Nt):Bool→G.T→Rt:=fun x0 x1=>n [yB x0,yR 3 x1]
def X27x1:=V27x1 (xD aA8 e [1,1,0,1,0] aId (q27x1 c e))
def B27x2(c:TC0)(e3:Int→Int→G.T→List Int→Rt)(a36:Bool)(a3:Int)(b101:G.T):Rt:=
 cnd a36 (some [yI (2047:Int)]) (chk (decide (0≤a3)&&decide (a3≤a3)&&decide (a3*(8:Int)≤1073741824)&&decide (a3≤1073741824))<|
 chk (decide (a3=a3))<|
 e3 a3 (0:Int) b101 (mB (0:Int) (Int.toNat a3)))
def V27x2(n:Nt):Bool→Int→G.T→Rt:=fun x0 x1 x2=>n [yB x0,yI x1,yR 3 x2]
def X27x2:=V27x2 (xD aA8 e [1,1,1,1,0,1,0] aIc (q27x2 c e))
def B27x3(c:TC0)(n3:Int→Int→G.T→List Int→Rt)(a3:Int)(a6:Int)(b101:G.T)(b138:List Int):Rt:=
 cnd (decide (a6<a3)) (chk (bD a6 (List.length b138))<|
 ob (idx b138 a6) fun v0=>
 n3 a3 (IntKind.i64.wrap (a6+(1:Int))) b101 (List.set b138 (Int.toNat a6) (2047:Int))) (obL [i6] (c 69 [yR 1 b101.name,⟨.sl i6,b138⟩]) fun(r1:Int×Unit)=>
 some [yI r1.1])
def V27x3(n:Nt):Int→Int→G.T→List Int→Rt:=fun x0 x1 x2 x3=>n [yI x0,yI x1,yR 3 x2,⟨.sl i6,x3⟩]
def X27x3:=V27x3 (xE aA8 e [1,1,1,1,1,1,0,1,0,0] zJ (q27x4 c e))
theorem s27x0:V27x0 (xF aA8 c e)=aJX c (X27x1 c e):=by kernel_rfl
theorem s27x1:V27x1 (xA aA8 c e [1,1,0,1,0] aId (q27x1 c e))=aCc c (X27x2 c e):=by kernel_rfl
theorem s27x2:V27x2 (xA aA8 c e [1,1,1,1,0,1,0] aIc (q27x2 c e))=B27x2 c (X27x3 c e):=by kernel_rfl
theorem s27x3(n3:Nt):V27x3 (xA aA8 c e [1,1,1,1,1,1,0,1,0,0] zJ (lpK U0 zJ n3 (q27x4 c e)))=B27x3 c (V27x3 n3):=by kernel_rfl
def W27x3(c:TC0)(L:Nat):Nat→Int→Int→G.T→List Int→Rt
 |0=>fun _ _ _ _=>none
 |n+1=>B27x3 c (W27x3 c L n)
theorem u27x3(n:Nat):V27x3 (xL aA8 c L [1,1,1,1,1,1,0,1,0,0] zJ (q27x4 c (cu c L)) n)=W27x3 c L n:=by
 induction n with
 |zero=>rfl
 |succ n ih=>rw[gC,s27x3];simp only[ih];rfl
theorem w27x3:X27x3 c (cu c L)=W27x3 c L L:=u27x3 c L L
def aJE(c:TC0)(L:Nat):Bool→Int→G.T→Rt:=B27x2 c (W27x3 c L L)
theorem j27x2:X27x2 c (cu c L)=aJE c L:=by rw[X27x2,aK,s27x2];simp only[w27x3];rfl
def aFi(c:TC0)(L:Nat):Bool→G.T→Rt:=aCc c (aJE c L)
theorem j27x1:X27x1 c (cu c L)=aFi c L:=by rw[X27x1,aK,s27x1];simp only[j27x2];rfl
def F27(c:TC0)(L:Nat):G.T→Rt:=aJX c (aFi c L)
theorem e27:V27x0 (xF aA8 c (cu c L))=F27 c L:=by rw[s27x0];simp only[j27x1];rfl
theorem c27(a0:G.T)(L n:Nat):CTp L (n+1) 27 [yR 3 a0]=F27 (CTp L n) L a0:=by rw[←e27];exact cg (x:=aA8) (by kernel_rfl) (by kernel_rfl) L n _
end
end Go.TV
namespace Go.TV
open Go.AI Go.PI Go.Proofs
set_option maxRecDepth 20000
theorem tL{β:Type}{b:G.T}{K:G.T×Unit→Option β}:obL (D:=U0.D) [.rc 3] (some [⟨.rc 3,b⟩]) K=K (b,()):=rfl
def zOb:G.O:=⟨0,[],[],⟨[],[]⟩,[],[]⟩
def lsp(f:List UInt8)(l:List G.T):G.T:=⟨3,⟨bM,f⟩,zOb,l⟩
def neg(t:G.T):G.T:=if isA t lB 1 then t.args.headD t else lsp lB [t]
theorem cIs_ok{t:G.T}{s:List UInt8}{k:Int}{L n:Nat}:CTp L (n+1) 63 (tsi t s k)=some (bb (isA t s k)):=by
 show CTp L (n+1) 63 [⟨.rc 3,_⟩,⟨.str,_⟩,⟨.int .i64,_⟩]=_;rw[c63,F63,B63x0];simp only[J63x1,B63x1,isA];by_cases e1:t.kind=3
 ·by_cases e2:t.name=⟨bM,s⟩
  ·have e2':t.name=G.Y.mk [108,105,115,112] s:=e2;simp[e1,e2,e2',cnd,bb,bM]
  ·have e2': ¬t.name=G.Y.mk [108,105,115,112] s:=e2;simp[e1,e2,e2',cnd,bb,bM]
 ·simp[e1,cnd,bb]
theorem wW{s:List UInt8}{l:List G.T}{L n:Nat}:CTp L (n+2) 64 [⟨.str,s⟩,⟨.sl (.rc 3),l⟩]=some [⟨.rc 3,lsp s l⟩]:=by
 rw[c64,F64,B64x0,c92];rfl
theorem negP_ok{t:G.T}{L n:Nat}:CTp L (n+3) 25 [⟨.rc 3,t⟩]=some [⟨.rc 3,neg t⟩]:=by
 have h1:CTp L (n+2) 63 [⟨.rc 3,t⟩,⟨.str,lB⟩,⟨.int .i64,(1:Int)⟩]=some [⟨.bool,isA t lB 1⟩]:=cIs_ok;have h2:CTp L (n+2) 64 [⟨.str,lB⟩,⟨.sl (.rc 3),([t]:List G.T)⟩]=some [⟨.rc 3,lsp lB [t]⟩]:=wW;simp only[lB]at h1 h2;rw[c25,F25,B25x0,h1,bC];change cnd (isA t lB 1) _ _=_;cases e:isA t lB 1 with
 |false=>rw[aC,show neg t=lsp lB [t] from by simp[neg,e]];erw[h2];rw[tL];rfl
 |true=>
  obtain⟨p,hp⟩:=len1 (gT (k:=1) e);rw[aE,hp];simp[neg,e,hp,idx,ob]
end Go.TV
namespace Go.TV
open Go.AI Go.PI Go.Proofs
set_option maxRecDepth 20000
noncomputable section
variable(c:TC0)(e:Cu)(L:Nat)
def q126x0(c:TC0)(e:Cu):Kt:=xK jH
def q126x1(c:TC0)(e:Cu):Kt:=xT jH c e [1,1] (q126x0 c e)
def aCJ(c:TC0)(e:Cu):Kt:=cU U0 0 (q126x1 c e)
def q126x3(c:TC0)(e:Cu)(n1:Nt):Kt:=lpK U0 oV n1 (aCJ c e)
def q126x4(c:TC0)(e:Cu)(n1:Nt):Kt:=cU U0 1 (q126x3 c e n1)
def q126x5(c:TC0)(e:Cu)(n1:Nt):Kt:=cU U0 2 (q126x4 c e n1)
def aCI(c:TC0)(e:Cu)(n1:Nt):Kt:=cU U0 3 (q126x5 c e n1)
def aGr(c:TC0)(e:Cu)(n1:Nt):Kt:=cU U0 5 (q126x5 c e n1)
def q126x8(c:TC0)(e:Cu)(n2:Nt)(n1:Nt):Kt:=lpK U0 oT n2 (aCI c e n1)
def q126x9(c:TC0)(e:Cu)(n2:Nt)(n1:Nt):Kt:=xT jH c e [1,0,0,0,1,0,0,1,1,1,0,0,0,1] (q126x8 c e n2 n1)
def aKa(c:TC0)(e1:List UInt8→Int→Rt)(a0:List UInt8)(a1:Int):Rt:=
 e1 a0 a1
def V126x0(n:Nt):List UInt8→Int→Rt:=fun x0 x1=>n [yT x0,yI x1]
def aEf(c:TC0)(n1:List UInt8→Int→Rt)(e2:List UInt8→Int→Rt)(e3:Int→List UInt8→Int→Rt)(a0:List UInt8)(a1:Int):Rt:=
 cnd (decide (a1<(List.length a0:Int))) (ob (idx a0 a1) fun v0=>
 obL [.bool] (c 154 [⟨(.int .u8),(v0.toNat:Int)⟩]) fun(r1:Bool×Unit)=>
 cnd r1.1 (n1 a0 (IntKind.i64.wrap (a1+(1:Int)))) (ob (idx a0 a1) fun v2=>
 cnd (decide ((v2.toNat:Int)=(59:Int))) (e2 a0 a1) (obL [.bool] (c 155 [yT a0,yI a1,⟨(.int .u8),(35:Int)⟩,⟨(.int .u8),(124:Int)⟩]) fun(r3:Bool×Unit)=>
 cnd r3.1 (e3 (1:Int) a0 (IntKind.i64.wrap (a1+(2:Int)))) (some [yI a1,yB true])))) (some [yI a1,yB true])
def kC(n:Nt):List UInt8→Int→Rt:=fun x0 x1=>n [yT x0,yI x1]
def X126x1:=kC (xE jH e [1,0,0,0] oV (aCJ c e))
def B126x2(c:TC0)(k4:Bool→List UInt8→Int→Rt)(a0:List UInt8)(a1:Int):Rt:=
 cnd (decide (a1<(List.length a0:Int))) (ob (idx a0 a1) fun v0=>
 k4 (!decide ((v0.toNat:Int)=(10:Int))) a0 a1) (k4 false a0 a1)
def aAn(n:Nt):List UInt8→Int→Rt:=fun x0 x1=>n [yT x0,yI x1]
def X126x2(n1:Nt):=aAn (xE jH e [1,0,0,0,1,0,0,1,1,1,0,0,0] oT (aCI c e n1))
def B126x3(c:TC0)(n3:Int→List UInt8→Int→Rt)(n1:List UInt8→Int→Rt)(a6:Int)(a0:List UInt8)(a1:Int):Rt:=
 cnd (decide ((0:Int)<a6)) (cnd (decide ((List.length a0:Int)≤a1)) (some [yI a1,yB false]) (obL [.bool] (c 155 [yT a0,yI a1,⟨(.int .u8),(35:Int)⟩,⟨(.int .u8),(124:Int)⟩]) fun(r0:Bool×Unit)=>
 cnd r0.1 (n3 (IntKind.i64.wrap (a6+(1:Int))) a0 (IntKind.i64.wrap (a1+(2:Int)))) (obL [.bool] (c 155 [yT a0,yI a1,⟨(.int .u8),(124:Int)⟩,⟨(.int .u8),(35:Int)⟩]) fun(r1:Bool×Unit)=>
 cnd r1.1 (n3 (IntKind.i64.wrap (a6-(1:Int))) a0 (IntKind.i64.wrap (a1+(2:Int)))) (n3 a6 a0 (IntKind.i64.wrap (a1+(1:Int))))))) (n1 a0 a1)
def aD4(n:Nt):Int→List UInt8→Int→Rt:=fun x0 x1 x2=>n [yI x0,yT x1,yI x2]
def X126x3(n1:Nt):=aD4 (xE jH e [1,0,0,0,1,0,0,1,1,1,1,1,0,1,1,0,0] rL (aGr c e n1))
def B126x4(c:TC0)(n2:List UInt8→Int→Rt)(n1:List UInt8→Int→Rt)(a33:Bool)(a0:List UInt8)(a1:Int):Rt:=
 cnd a33 (n2 a0 (IntKind.i64.wrap (a1+(1:Int)))) (n1 a0 a1)
def V126x4(n:Nt):Bool→List UInt8→Int→Rt:=fun x0 x1 x2=>n [yB x0,yT x1,yI x2]
def aJh(n2:Nt)(n1:Nt):=V126x4 (xD jH e [1,0,0,0,1,0,0,1,1,1,0,0,0,0,1,0] aBK (q126x9 c e n2 n1))
theorem s126x0:V126x0 (xF jH c e)=aKa c (X126x1 c e):=by kernel_rfl
theorem s126x1(n1:Nt):kC (xA jH c e [1,0,0,0] oV (lpK U0 oV n1 (aCJ c e)))=aEf c (kC n1) (X126x2 c e n1) (X126x3 c e n1):=by kernel_rfl
theorem s126x2(n2:Nt)(n1:Nt):aAn (xA jH c e [1,0,0,0,1,0,0,1,1,1,0,0,0] oT (lpK U0 oT n2 (aCI c e n1)))=B126x2 c (aJh c e n2 n1):=by kernel_rfl
theorem s126x3(n3:Nt)(n1:Nt):aD4 (xA jH c e [1,0,0,0,1,0,0,1,1,1,1,1,0,1,1,0,0] rL (lpK U0 rL n3 (aGr c e n1)))=B126x3 c (aD4 n3) (kC n1):=by kernel_rfl
theorem s126x4(n2:Nt)(n1:Nt):V126x4 (xA jH c e [1,0,0,0,1,0,0,1,1,1,0,0,0,0,1,0] aBK (q126x9 c e n2 n1))=B126x4 c (aAn n2) (kC n1):=by kernel_rfl
def aDZ(c:TC0)(L:Nat)(n1:List UInt8→Int→Rt):Nat→Int→List UInt8→Int→Rt
 |0=>fun _ _ _=>none
 |n+1=>B126x3 c (aDZ c L n1 n) n1
theorem u126x3(n1:Nt)(n:Nat):aD4 (xL jH c L [1,0,0,0,1,0,0,1,1,1,1,1,0,1,1,0,0] rL (aGr c (cu c L) n1) n)=aDZ c L (kC n1) n:=by
 induction n with
 |zero=>rfl
 |succ n ih=>rw[gC,s126x3];simp only[ih];rfl
theorem w126x3(n1:Nt):X126x3 c (cu c L) n1=aDZ c L (kC n1) L:=u126x3 c L n1 L
def J126x4(c:TC0)(L:Nat)(n2:List UInt8→Int→Rt)(n1:List UInt8→Int→Rt):Bool→List UInt8→Int→Rt:=B126x4 c n2 n1
theorem j126x4(n2:Nt)(n1:Nt):aJh c (cu c L) n2 n1=J126x4 c L (aAn n2) (kC n1):=by rw[aJh,aK,s126x4];rfl
def aD0(c:TC0)(L:Nat)(n1:List UInt8→Int→Rt):Nat→List UInt8→Int→Rt
 |0=>fun _ _=>none
 |n+1=>B126x2 c (J126x4 c L (aD0 c L n1 n) n1)
theorem u126x2(n1:Nt)(n:Nat):aAn (xL jH c L [1,0,0,0,1,0,0,1,1,1,0,0,0] oT (aCI c (cu c L) n1) n)=aD0 c L (kC n1) n:=by
 induction n with
 |zero=>rfl
 |succ n ih=>rw[gC,s126x2];simp only[j126x4,ih];rfl
theorem w126x2(n1:Nt):X126x2 c (cu c L) n1=aD0 c L (kC n1) L:=u126x2 c L n1 L
def nJ(c:TC0)(L:Nat):Nat→List UInt8→Int→Rt
 |0=>fun _ _=>none
 |n+1=>aEf c (nJ c L n) (aD0 c L (nJ c L n) L) (aDZ c L (nJ c L n) L)
theorem u126x1(n:Nat):kC (xL jH c L [1,0,0,0] oV (aCJ c (cu c L)) n)=nJ c L n:=by
 induction n with
 |zero=>rfl
 |succ n ih=>rw[gC,s126x1];simp only[w126x2,w126x3,ih];rfl
theorem w126x1:X126x1 c (cu c L)=nJ c L L:=u126x1 c L L
def F126(c:TC0)(L:Nat):List UInt8→Int→Rt:=aKa c (nJ c L L)
theorem e126:V126x0 (xF jH c (cu c L))=F126 c L:=by rw[s126x0];simp only[w126x1];rfl
theorem c126(a0:List UInt8)(a1:Int)(L n:Nat):CTp L (n+1) 126 [yT a0,yI a1]=F126 (CTp L n) L a0 a1:=by rw[←e126];exact cg (x:=jH) (by kernel_rfl) (by kernel_rfl) L n _
def aCH(c:TC0)(e:Cu):Kt:=xK jG
def q127x1(c:TC0)(e:Cu):Kt:=xT jG c e [1,1,1,1] (aCH c e)
def xR(c:TC0)(e:Cu):Kt:=cU U0 0 (q127x1 c e)
def q127x3(c:TC0)(e:Cu):Kt:=xT jG c e [1,1,1,0,1,0,1,1,1,1,1,1,1,0,1,1,1] (xR c e)
def q127x4(c:TC0)(e:Cu):Kt:=xT jG c e [1,1,1,1,1,1,1,1,1] (aCH c e)
def q127x5(c:TC0)(e:Cu):Kt:=cU U0 1 (q127x4 c e)
def aAu(c:TC0)(k1:Bool→Int→G.K→G.X→G.K→G.X→Rt)(k2:Int→G.K→G.X→G.K→G.X→Rt)(k3:Int→G.K→G.X→G.K→G.X→Rt)(k4:Bool→Int→Int→G.K→G.X→G.K→G.X→Rt)(a0:List UInt8)(a1:Int):Rt:=
 ob (idx a0 a1) fun v0=>
 cnd (decide ((v0.toNat:Int)=(40:Int))) (some [yR 21 (G.K.mk (1:Int) a1 ([]:List UInt8) ([]:List UInt8) ([]:List UInt8)),yI (IntKind.i64.wrap (a1+(1:Int))),yR 18 (G.X.mk (0:Int) (0:Int))]) (cnd (decide ((v0.toNat:Int)=(41:Int))) (some [yR 21 (G.K.mk (2:Int) a1 ([]:List UInt8) ([]:List UInt8) ([]:List UInt8)),yI (IntKind.i64.wrap (a1+(1:Int))),yR 18 (G.X.mk (0:Int) (0:Int))]) (cnd (decide ((v0.toNat:Int)=(39:Int))) (some [yR 21 (G.K.mk (4:Int) a1 ([]:List UInt8) ([]:List UInt8) ([]:List UInt8)),yI (IntKind.i64.wrap (a1+(1:Int))),yR 18 (G.X.mk (0:Int) (0:Int))]) (cnd (decide ((v0.toNat:Int)=(34:Int))) (obL [.str,i6,.rc 18] (c 156 [yT a0,yI (IntKind.i64.wrap (a1+(1:Int))),⟨(.int .u8),(34:Int)⟩]) fun(r1:List UInt8×Int×G.X×Unit)=>
 cnd (decide (r1.2.2.1.err=(0:Int))) (k1 (decide ((200:Int)<(List.length r1.1:Int))) r1.2.1 (G.K.mk (7:Int) a1 ([]:List UInt8) r1.1 ([]:List UInt8)) r1.2.2.1 (G.K.mk (0:Int) (0:Int) ([]:List UInt8) ([]:List UInt8) ([]:List UInt8)) (G.X.mk (0:Int) (0:Int))) (k1 false r1.2.1 (G.K.mk (7:Int) a1 ([]:List UInt8) r1.1 ([]:List UInt8)) r1.2.2.1 (G.K.mk (0:Int) (0:Int) ([]:List UInt8) ([]:List UInt8) ([]:List UInt8)) (G.X.mk (0:Int) (0:Int)))) (cnd (decide ((v0.toNat:Int)=(124:Int))) (obL [.str,i6,.rc 18] (c 156 [yT a0,yI (IntKind.i64.wrap (a1+(1:Int))),⟨(.int .u8),(124:Int)⟩]) fun(r2:List UInt8×Int×G.X×Unit)=>
 cnd (decide (r2.2.2.1.err=(0:Int))) (obL [.rc 18] (c 157 [yR 21 (G.K.mk (6:Int) a1 ([]:List UInt8) r2.1 ([]:List UInt8)),yB true]) fun(r3:G.X×Unit)=>
 k2 r2.2.1 (G.K.mk (6:Int) a1 ([]:List UInt8) r2.1 ([]:List UInt8)) r3.1 (G.K.mk (0:Int) (0:Int) ([]:List UInt8) ([]:List UInt8) ([]:List UInt8)) (G.X.mk (0:Int) (0:Int))) (k2 r2.2.1 (G.K.mk (6:Int) a1 ([]:List UInt8) r2.1 ([]:List UInt8)) r2.2.2.1 (G.K.mk (0:Int) (0:Int) ([]:List UInt8) ([]:List UInt8) ([]:List UInt8)) (G.X.mk (0:Int) (0:Int)))) (obL [.bool] (c 158 [⟨(.int .u8),(v0.toNat:Int)⟩]) fun(r4:Bool×Unit)=>
 cnd (!r4.1) (obL [.rc 18] (c 99 [yI (12:Int),yI a1]) fun(r5:G.X×Unit)=>
 some [yR 21 (G.K.mk (0:Int) a1 ([]:List UInt8) ([]:List UInt8) ([]:List UInt8)),yI a1,yR 18 r5.1]) (obL [i6] (c 159 [yT a0,yI a1]) fun(r6:Int×Unit)=>
 ob (slc a0 a1 r6.1) fun v7=>
 obL [.bool] (c 155 [yT a0,yI r6.1,⟨(.int .u8),(58:Int)⟩,⟨(.int .u8),(58:Int)⟩]) fun(r8:Bool×Unit)=>
 cnd r8.1 (obL [.rc 21,i6,.rc 18] (c 160 [yT a0,yR 21 (G.K.mk (0:Int) a1 ([]:List UInt8) ([]:List UInt8) ([]:List UInt8)),yT v7,yI r6.1]) fun(r9:G.K×Int×G.X×Unit)=>
 some [yR 21 r9.1,yI r9.2.1,yR 18 r9.2.2.1]) (obL [.str,.str,.bool] (c 161 [yT v7]) fun(r10:List UInt8×List UInt8×Bool×Unit)=>
 cnd (decide (v7=([46]:List UInt8))) (k3 r6.1 (G.K.mk (3:Int) a1 ([]:List UInt8) ([]:List UInt8) ([]:List UInt8)) (G.X.mk (0:Int) (0:Int)) (G.K.mk (0:Int) (0:Int) ([]:List UInt8) ([]:List UInt8) ([]:List UInt8)) (G.X.mk (0:Int) (0:Int))) (cnd r10.2.2.1 (obL [.str] (c 162 [yT r10.2.1]) fun(r11:List UInt8×Unit)=>
 cnd (decide (r11.1=([48]:List UInt8))) (obL [.rc 18] (c 99 [yI (12:Int),yI a1]) fun(r12:G.X×Unit)=>
 some [yR 21 (G.K.mk (0:Int) a1 ([]:List UInt8) ([]:List UInt8) ([]:List UInt8)),yI r6.1,yR 18 r12.1]) (obL [.str] (c 162 [yT r10.1]) fun(r13:List UInt8×Unit)=>
 obL [.str] (c 162 [yT r10.2.1]) fun(r14:List UInt8×Unit)=>
 obL [.str,.str] (c 83 [yT r13.1,yT r14.1]) fun(r15:List UInt8×List UInt8×Unit)=>
 obL [i6] (c 163 [yT r15.1]) fun(r16:Int×Unit)=>
 cnd (decide ((100:Int)<r16.1)) (k4 true a1 r6.1 (G.K.mk (5:Int) a1 ([]:List UInt8) r15.1 r15.2.1) (G.X.mk (0:Int) (0:Int)) (G.K.mk (0:Int) (0:Int) ([]:List UInt8) ([]:List UInt8) ([]:List UInt8)) (G.X.mk (0:Int) (0:Int))) (obL [i6] (c 163 [yT r15.2.1]) fun(r17:Int×Unit)=>
 k4 (decide ((100:Int)<r17.1)) a1 r6.1 (G.K.mk (5:Int) a1 ([]:List UInt8) r15.1 r15.2.1) (G.X.mk (0:Int) (0:Int)) (G.K.mk (0:Int) (0:Int) ([]:List UInt8) ([]:List UInt8) ([]:List UInt8)) (G.X.mk (0:Int) (0:Int))))) (obL [.rc 18] (c 157 [yR 21 (G.K.mk (6:Int) a1 ([]:List UInt8) v7 ([]:List UInt8)),yB false]) fun(r18:G.X×Unit)=>
 k3 r6.1 (G.K.mk (6:Int) a1 ([]:List UInt8) v7 ([]:List UInt8)) r18.1 (G.K.mk (0:Int) (0:Int) ([]:List UInt8) ([]:List UInt8) ([]:List UInt8)) (G.X.mk (0:Int) (0:Int)))))))))))
def V127x0(n:Nt):List UInt8→Int→Rt:=fun x0 x1=>n [yT x0,yI x1]
def B127x1(c:TC0)(k5:Int→G.K→G.X→G.K→G.X→Rt)(a65:Bool)(a1:Int)(b107:G.K)(b108:G.X)(b104:G.K)(b106:G.X):Rt:=
 cnd a65 (obL [.rc 18] (c 99 [yI (2:Int),yI b107.pos]) fun(r0:G.X×Unit)=>
 k5 a1 b107 r0.1 b104 b106) (k5 a1 b107 b108 b104 b106)
def V127x1(n:Nt):Bool→Int→G.K→G.X→G.K→G.X→Rt:=fun x0 x1 x2 x3 x4 x5=>n [yB x0,yI x1,yR 21 x2,yR 18 x3,yR 21 x4,yR 18 x5]
def aJg:=V127x1 (xD jG e [1,1,1,0,1,0,1,1,1,1,1,1,1,0,1,1,0,1,0] aBJ (q127x3 c e))
def B127x2(c:TC0)(a1:Int)(b107:G.K)(b108:G.X)(b104:G.K)(b106:G.X):Rt:=
 some [yR 21 b107,yI a1,yR 18 b108]
def V127x2(n:Nt):Int→G.K→G.X→G.K→G.X→Rt:=fun x0 x1 x2 x3 x4=>n [yI x0,yR 21 x1,yR 18 x2,yR 21 x3,yR 18 x4]
def aJf:=V127x2 (xD jG e [1,1,1,0,1,0,1,1,1,1,1,1,1,1,1,0,1,1,1,0] aBI (xR c e))
def B127x3(c:TC0)(a10:Int)(b107:G.K)(b108:G.X)(b104:G.K)(b106:G.X):Rt:=
 some [yR 21 b107,yI a10,yR 18 b108]
def V127x3(n:Nt):Int→G.K→G.X→G.K→G.X→Rt:=fun x0 x1 x2 x3 x4=>n [yI x0,yR 21 x1,yR 18 x2,yR 21 x3,yR 18 x4]
def aDR:=V127x3 (xD jG e [1,1,1,1,1,1,1,1,1,0] aBH (aCH c e))
def B127x4(c:TC0)(k3:Int→G.K→G.X→G.K→G.X→Rt)(a163:Bool)(a1:Int)(a10:Int)(b107:G.K)(b108:G.X)(b104:G.K)(b106:G.X):Rt:=
 cnd a163 (obL [.rc 18] (c 99 [yI (2:Int),yI a1]) fun(r0:G.X×Unit)=>
 some [yR 21 b107,yI a10,yR 18 r0.1]) (k3 a10 b107 b108 b104 b106)
def V127x4(n:Nt):Bool→Int→Int→G.K→G.X→G.K→G.X→Rt:=fun x0 x1 x2 x3 x4 x5 x6=>n [yB x0,yI x1,yI x2,yR 21 x3,yR 18 x4,yR 21 x5,yR 18 x6]
def aJe:=V127x4 (xD jG e [1,1,1,1,1,1,1,1,0,0,1,1,1,0,1,1,1,1,0] aBG (q127x5 c e))
def B127x5(c:TC0)(a1:Int)(b107:G.K)(b108:G.X)(b104:G.K)(b106:G.X):Rt:=
 some [yR 21 b107,yI a1,yR 18 b108]
def V127x5(n:Nt):Int→G.K→G.X→G.K→G.X→Rt:=fun x0 x1 x2 x3 x4=>n [yI x0,yR 21 x1,yR 18 x2,yR 21 x3,yR 18 x4]
def aJd:=V127x5 (xD jG e [1,1,1,0,1,0,1,1,1,1,1,1,1,0,1,1,1,0] aBF (xR c e))
theorem s127x0:V127x0 (xF jG c e)=aAu c (aJg c e) (aJf c e) (aDR c e) (aJe c e):=by kernel_rfl
theorem s127x1:V127x1 (xA jG c e [1,1,1,0,1,0,1,1,1,1,1,1,1,0,1,1,0,1,0] aBJ (q127x3 c e))=B127x1 c (aJd c e):=by kernel_rfl
theorem s127x2:V127x2 (xA jG c e [1,1,1,0,1,0,1,1,1,1,1,1,1,1,1,0,1,1,1,0] aBI (xR c e))=B127x2 c:=by kernel_rfl
theorem s127x3:V127x3 (xA jG c e [1,1,1,1,1,1,1,1,1,0] aBH (aCH c e))=B127x3 c:=by kernel_rfl
theorem s127x4:V127x4 (xA jG c e [1,1,1,1,1,1,1,1,0,0,1,1,1,0,1,1,1,1,0] aBG (q127x5 c e))=B127x4 c (aDR c e):=by kernel_rfl
theorem s127x5:V127x5 (xA jG c e [1,1,1,0,1,0,1,1,1,1,1,1,1,0,1,1,1,0] aBF (xR c e))=B127x5 c:=by kernel_rfl
def J127x2(c:TC0)(L:Nat):Int→G.K→G.X→G.K→G.X→Rt:=B127x2 c
theorem j127x2:aJf c (cu c L)=J127x2 c L:=by rw[aJf,aK,s127x2];rfl
def aJP(c:TC0)(L:Nat):Int→G.K→G.X→G.K→G.X→Rt:=B127x3 c
theorem j127x3:aDR c (cu c L)=aJP c L:=by rw[aDR,aK,s127x3];rfl
def J127x4(c:TC0)(L:Nat):Bool→Int→Int→G.K→G.X→G.K→G.X→Rt:=B127x4 c (aJP c L)
theorem j127x4:aJe c (cu c L)=J127x4 c L:=by rw[aJe,aK,s127x4];simp only[j127x3];rfl
def J127x5(c:TC0)(L:Nat):Int→G.K→G.X→G.K→G.X→Rt:=B127x5 c
theorem j127x5:aJd c (cu c L)=J127x5 c L:=by rw[aJd,aK,s127x5];rfl
def J127x1(c:TC0)(L:Nat):Bool→Int→G.K→G.X→G.K→G.X→Rt:=B127x1 c (J127x5 c L)
theorem j127x1:aJg c (cu c L)=J127x1 c L:=by rw[aJg,aK,s127x1];simp only[j127x5];rfl
def F127(c:TC0)(L:Nat):List UInt8→Int→Rt:=aAu c (J127x1 c L) (J127x2 c L) (aJP c L) (J127x4 c L)
theorem e127:V127x0 (xF jG c (cu c L))=F127 c L:=by rw[s127x0];simp only[j127x1,j127x2,j127x3,j127x4];rfl
theorem c127(a0:List UInt8)(a1:Int)(L n:Nat):CTp L (n+1) 127 [yT a0,yI a1]=F127 (CTp L n) L a0 a1:=by rw[←e127];exact cg (x:=jG) (by kernel_rfl) (by kernel_rfl) L n _
def aCG(c:TC0)(e:Cu):Kt:=xK jF
def q128x1(c:TC0)(e:Cu):Kt:=xT jF c e [1,1,1,1] (aCG c e)
def aCF(c:TC0)(e:Cu):Kt:=cU U0 0 (q128x1 c e)
def q128x3(c:TC0)(e:Cu)(n1:Nt):Kt:=lpK U0 oR n1 (aCF c e)
def q128x4(c:TC0)(e:Cu)(n1:Nt):Kt:=cU U0 1 (q128x3 c e n1)
def q128x5(c:TC0)(e:Cu)(n1:Nt):Kt:=xT jF c e [1,1,1,0,0,0,1,0,1] (q128x4 c e n1)
def q128x6(c:TC0)(e:Cu):Kt:=xT jF c e [1,1,1,1,0,1,1] (aCG c e)
def aGq(c:TC0)(e:Cu):Kt:=cU U0 3 (q128x6 c e)
def B128x0(c:TC0)(e1:Int→List G.O→G.P→G.O→G.O→G.X→Rt)(a1:Int)(b0:G.P):Rt:=
 obL [.rc 2] (c 46 []) fun(r0:G.O×Unit)=>
 e1 a1 ([]:List G.O) b0 r0.1 (G.O.mk (0:Int) ([]:List UInt8) ([]:List UInt8) (G.Y.mk ([]:List UInt8) ([]:List UInt8)) ([]:List UInt8) ([]:List G.O)) (G.X.mk (0:Int) (0:Int))
def V128x0(n:Nt):Int→G.P→Rt:=fun x0 x1=>n [yI x0,yR 22 x1]
def B128x1(c:TC0)(k2:Bool→List G.O→Int→G.P→G.O→G.O→G.X→Rt)(k3:List G.O→G.P→G.O→G.O→G.X→Rt)(a1:Int)(a6:List G.O)(b0:G.P)(b107:G.O)(b104:G.O)(b105:G.X):Rt:=
 ob (idx b0.t b0.pos) fun v0=>
 cnd (!decide (v0.kind=(2:Int))) (ob (idx b0.t b0.pos) fun v1=>
 cnd (decide (v1.kind=(3:Int))) (k2 (decide ((0:Int)<(List.length a6:Int))) a6 a1 b0 b107 b104 b105) (k2 false a6 a1 b0 b107 b104 b105)) (k3 a6 b0 b107 b104 b105)
def aAm(n:Nt):Int→List G.O→G.P→G.O→G.O→G.X→Rt:=fun x0 x1 x2 x3 x4 x5=>n [yI x0,yS 2 x1,yR 22 x2,yR 2 x3,yR 2 x4,yR 18 x5]
def X128x1:=aAm (xE jF e [1,1,1,0,0,0] oR (aCF c e))
def B128x2(c:TC0)(k3:List G.O→G.P→G.O→G.O→G.X→Rt)(n1:Int→List G.O→G.P→G.O→G.O→G.X→Rt)(a43:Bool)(a6:List G.O)(a1:Int)(b0:G.P)(b107:G.O)(b104:G.O)(b105:G.X):Rt:=
 cnd a43 (obL [.rc 2,.rc 18,.rc 22] (c 100 [yI a1,yR 22 (G.P.mk b0.l b0.current b0.t (IntKind.i64.wrap (b0.pos+(1:Int))))]) fun(r0:G.O×G.X×G.P×Unit)=>
 cnd (!decide (r0.2.1.err=(0:Int))) (some [yR 2 (G.O.mk (0:Int) ([]:List UInt8) ([]:List UInt8) (G.Y.mk ([]:List UInt8) ([]:List UInt8)) ([]:List UInt8) ([]:List G.O)),yR 18 r0.2.1,yR 22 r0.2.2.1]) (ob (idx r0.2.2.1.t r0.2.2.1.pos) fun v1=>
 cnd (decide (v1.kind=(2:Int))) (k3 a6 r0.2.2.1 r0.1 b104 b105) (cnd (decide (v1.kind=(0:Int))) (obL [.rc 18] (c 99 [yI (11:Int),yI v1.pos]) fun(r2:G.X×Unit)=>
 some [yR 2 (G.O.mk (0:Int) ([]:List UInt8) ([]:List UInt8) (G.Y.mk ([]:List UInt8) ([]:List UInt8)) ([]:List UInt8) ([]:List G.O)),yR 18 r2.1,yR 22 r0.2.2.1]) (obL [.rc 18] (c 99 [yI (12:Int),yI v1.pos]) fun(r3:G.X×Unit)=>
 some [yR 2 (G.O.mk (0:Int) ([]:List UInt8) ([]:List UInt8) (G.Y.mk ([]:List UInt8) ([]:List UInt8)) ([]:List UInt8) ([]:List G.O)),yR 18 r3.1,yR 22 r0.2.2.1])))) (obL [.rc 2,.rc 18,.rc 22] (c 100 [yI a1,yR 22 b0]) fun(r4:G.O×G.X×G.P×Unit)=>
 cnd (!decide (r4.2.1.err=(0:Int))) (some [yR 2 (G.O.mk (0:Int) ([]:List UInt8) ([]:List UInt8) (G.Y.mk ([]:List UInt8) ([]:List UInt8)) ([]:List UInt8) ([]:List G.O)),yR 18 r4.2.1,yR 22 r4.2.2.1]) (chk (Nat.ble ((List.length a6+List.length ([r4.1]:List G.O))*112) 1073741824)<|
 n1 a1 (a6++([r4.1]:List G.O)) r4.2.2.1 b107 b104 b105))
def V128x2(n:Nt):Bool→List G.O→Int→G.P→G.O→G.O→G.X→Rt:=fun x0 x1 x2 x3 x4 x5 x6=>n [yB x0,yS 2 x1,yI x2,yR 22 x3,yR 2 x4,yR 2 x5,yR 18 x6]
def aJc(n1:Nt):=V128x2 (xD jF e [1,1,1,0,0,0,1,0,0,1,0] aBE (q128x5 c e n1))
def B128x3(c:TC0)(e4:List G.O→Int→G.P→G.O→G.O→G.X→Rt)(a6:List G.O)(b0:G.P)(b107:G.O)(b104:G.O)(b105:G.X):Rt:=
 e4 a6 (IntKind.i64.wrap ((List.length a6:Int)-(1:Int))) (G.P.mk b0.l b0.current b0.t (IntKind.i64.wrap (b0.pos+(1:Int)))) b107 b104 b105
def V128x3(n:Nt):List G.O→G.P→G.O→G.O→G.X→Rt:=fun x0 x1 x2 x3 x4=>n [yS 2 x0,yR 22 x1,yR 2 x2,yR 2 x3,yR 18 x4]
def aDQ:=V128x3 (xD jF e [1,1,1,1,0] aBD (aCG c e))
def B128x4(c:TC0)(n4:List G.O→Int→G.P→G.O→G.O→G.X→Rt)(a6:List G.O)(a13:Int)(b0:G.P)(b107:G.O)(b104:G.O)(b105:G.X):Rt:=
 cnd (decide ((0:Int)≤a13)) (ob (idx a6 a13) fun v0=>
 obL [.rc 2] (c 52 [yR 2 v0,yR 2 b107]) fun(r1:G.O×Unit)=>
 n4 a6 (IntKind.i64.wrap (a13-(1:Int))) b0 r1.1 b104 b105) (some [yR 2 b107,yR 18 (G.X.mk (0:Int) (0:Int)),yR 22 b0])
def aD3(n:Nt):List G.O→Int→G.P→G.O→G.O→G.X→Rt:=fun x0 x1 x2 x3 x4 x5=>n [yS 2 x0,yI x1,yR 22 x2,yR 2 x3,yR 2 x4,yR 18 x5]
def X128x4:=aD3 (xE jF e [1,1,1,1,0,1,0,1,0,0] rK (aGq c e))
theorem s128x0:V128x0 (xF jF c e)=B128x0 c (X128x1 c e):=by kernel_rfl
theorem s128x1(n1:Nt):aAm (xA jF c e [1,1,1,0,0,0] oR (lpK U0 oR n1 (aCF c e)))=B128x1 c (aJc c e n1) (aDQ c e):=by kernel_rfl
theorem s128x2(n1:Nt):V128x2 (xA jF c e [1,1,1,0,0,0,1,0,0,1,0] aBE (q128x5 c e n1))=B128x2 c (aDQ c e) (aAm n1):=by kernel_rfl
theorem s128x3:V128x3 (xA jF c e [1,1,1,1,0] aBD (aCG c e))=B128x3 c (X128x4 c e):=by kernel_rfl
theorem s128x4(n4:Nt):aD3 (xA jF c e [1,1,1,1,0,1,0,1,0,0] rK (lpK U0 rK n4 (aGq c e)))=B128x4 c (aD3 n4):=by kernel_rfl
def aDX(c:TC0)(L:Nat):Nat→List G.O→Int→G.P→G.O→G.O→G.X→Rt
 |0=>fun _ _ _ _ _ _=>none
 |n+1=>B128x4 c (aDX c L n)
theorem u128x4(n:Nat):aD3 (xL jF c L [1,1,1,1,0,1,0,1,0,0] rK (aGq c (cu c L)) n)=aDX c L n:=by
 induction n with
 |zero=>rfl
 |succ n ih=>rw[gC,s128x4];simp only[ih];rfl
theorem w128x4:X128x4 c (cu c L)=aDX c L L:=u128x4 c L L
def aJO(c:TC0)(L:Nat):List G.O→G.P→G.O→G.O→G.X→Rt:=B128x3 c (aDX c L L)
theorem j128x3:aDQ c (cu c L)=aJO c L:=by rw[aDQ,aK,s128x3];simp only[w128x4];rfl
def J128x2(c:TC0)(L:Nat)(n1:Int→List G.O→G.P→G.O→G.O→G.X→Rt):Bool→List G.O→Int→G.P→G.O→G.O→G.X→Rt:=B128x2 c (aJO c L) n1
theorem j128x2(n1:Nt):aJc c (cu c L) n1=J128x2 c L (aAm n1):=by rw[aJc,aK,s128x2];simp only[j128x3];rfl
def aDY(c:TC0)(L:Nat):Nat→Int→List G.O→G.P→G.O→G.O→G.X→Rt
 |0=>fun _ _ _ _ _ _=>none
 |n+1=>B128x1 c (J128x2 c L (aDY c L n)) (aJO c L)
theorem u128x1(n:Nat):aAm (xL jF c L [1,1,1,0,0,0] oR (aCF c (cu c L)) n)=aDY c L n:=by
 induction n with
 |zero=>rfl
 |succ n ih=>rw[gC,s128x1];simp only[j128x2,j128x3,ih];rfl
theorem w128x1:X128x1 c (cu c L)=aDY c L L:=u128x1 c L L
def F128(c:TC0)(L:Nat):Int→G.P→Rt:=B128x0 c (aDY c L L)
theorem e128:V128x0 (xF jF c (cu c L))=F128 c L:=by rw[s128x0];simp only[w128x1];rfl
theorem c128(a1:Int)(b0:G.P)(L n:Nat):CTp L (n+1) 128 [yI a1,yR 22 b0]=F128 (CTp L n) L a1 b0:=by rw[←e128];exact cg (x:=jF) (by kernel_rfl) (by kernel_rfl) L n _
def q129x0(c:TC0)(e:Cu):Kt:=xK pV
def q129x1(c:TC0)(e:Cu):Kt:=xT pV c e [1,1,1,1] (q129x0 c e)
def q129x2(c:TC0)(e:Cu):Kt:=xT pV c e [1,1,1,1,1] (q129x0 c e)
def aGp(c:TC0)(e:Cu):Kt:=cU U0 0 (q129x2 c e)
def B129x0(c:TC0)(k1:Bool→List UInt8→List UInt8→G.A→G.Y→Rt)(a0:List G.A)(a1:List UInt8)(a2:List UInt8):Rt:=
 obL [.rc 5,.bool] (c 164 [yS 5 a0,yT a1]) fun(r0:G.A×Bool×Unit)=>
 cnd (!r0.2.1) (some [yR 1 (G.Y.mk ([]:List UInt8) ([]:List UInt8)),yI (13:Int)]) (cnd (decide ((List.length a2:Int)<(1:Int))) (k1 true a1 a2 r0.1 (G.Y.mk ([]:List UInt8) ([]:List UInt8))) (k1 (decide ((40:Int)<(List.length a2:Int))) a1 a2 r0.1 (G.Y.mk ([]:List UInt8) ([]:List UInt8))))
def V129x0(n:Nt):List G.A→List UInt8→List UInt8→Rt:=fun x0 x1 x2=>n [yS 5 x0,yT x1,yT x2]
def B129x1(c:TC0)(e2:Int→List UInt8→List UInt8→G.A→G.Y→Rt)(a27:Bool)(a1:List UInt8)(a2:List UInt8)(b108:G.A)(b106:G.Y):Rt:=
 cnd a27 (some [yR 1 (G.Y.mk ([]:List UInt8) ([]:List UInt8)),yI (3:Int)]) (e2 (0:Int) a1 a2 b108 b106)
def V129x1(n:Nt):Bool→List UInt8→List UInt8→G.A→G.Y→Rt:=fun x0 x1 x2 x3 x4=>n [yB x0,yT x1,yT x2,yR 5 x3,yR 1 x4]
def aJb:=V129x1 (xD pV e [1,1,1,0,1,0] aBC (q129x1 c e))
def B129x2(c:TC0)(n2:Int→List UInt8→List UInt8→G.A→G.Y→Rt)(a10:Int)(a1:List UInt8)(a2:List UInt8)(b108:G.A)(b106:G.Y):Rt:=
 cnd (decide (a10<(List.length b108.imports:Int))) (ob (idx b108.imports a10) fun v0=>
 cnd (decide (v0.name=a2)) (ob (idx b108.imports a10) fun v1=>
 some [yR 1 v1,yI (0:Int)]) (n2 (IntKind.i64.wrap (a10+(1:Int))) a1 a2 b108 b106)) (some [yR 1 (G.Y.mk a1 a2),yI (0:Int)])
def aD2(n:Nt):Int→List UInt8→List UInt8→G.A→G.Y→Rt:=fun x0 x1 x2 x3 x4=>n [yI x0,yT x1,yT x2,yR 5 x3,yR 1 x4]
def X129x2:=aD2 (xE pV e [1,1,1,1,0,1,0,0] rJ (aGp c e))
theorem s129x0:V129x0 (xF pV c e)=B129x0 c (aJb c e):=by kernel_rfl
theorem s129x1:V129x1 (xA pV c e [1,1,1,0,1,0] aBC (q129x1 c e))=B129x1 c (X129x2 c e):=by kernel_rfl
theorem s129x2(n2:Nt):aD2 (xA pV c e [1,1,1,1,0,1,0,0] rJ (lpK U0 rJ n2 (aGp c e)))=B129x2 c (aD2 n2):=by kernel_rfl
def aDW(c:TC0)(L:Nat):Nat→Int→List UInt8→List UInt8→G.A→G.Y→Rt
 |0=>fun _ _ _ _ _=>none
 |n+1=>B129x2 c (aDW c L n)
theorem u129x2(n:Nat):aD2 (xL pV c L [1,1,1,1,0,1,0,0] rJ (aGp c (cu c L)) n)=aDW c L n:=by
 induction n with
 |zero=>rfl
 |succ n ih=>rw[gC,s129x2];simp only[ih];rfl
theorem w129x2:X129x2 c (cu c L)=aDW c L L:=u129x2 c L L
def J129x1(c:TC0)(L:Nat):Bool→List UInt8→List UInt8→G.A→G.Y→Rt:=B129x1 c (aDW c L L)
theorem j129x1:aJb c (cu c L)=J129x1 c L:=by rw[aJb,aK,s129x1];simp only[w129x2];rfl
def F129(c:TC0)(L:Nat):List G.A→List UInt8→List UInt8→Rt:=B129x0 c (J129x1 c L)
theorem e129:V129x0 (xF pV c (cu c L))=F129 c L:=by rw[s129x0];simp only[j129x1];rfl
theorem c129(a0:List G.A)(a1:List UInt8)(a2:List UInt8)(L n:Nat):CTp L (n+1) 129 [yS 5 a0,yT a1,yT a2]=F129 (CTp L n) L a0 a1 a2:=by rw[←e129];exact cg (x:=pV) (by kernel_rfl) (by kernel_rfl) L n _
end
end Go.TV
namespace Go.TV
open Go.AI Go.PI Go.Proofs
set_option maxRecDepth 20000
noncomputable section
variable(c:TC0)(e:Cu)(L:Nat)
def q130x0(c:TC0)(e:Cu):Kt:=xK yP
def q130x1(c:TC0)(e:Cu):Kt:=xT yP c e [1,1] (q130x0 c e)
def B130x0(c:TC0)(k1:Bool→Int→G.O→Rt)(a0:G.O)(a1:Int):Rt:=
 cnd (!decide ((List.length a0.pair:Int)=(2:Int))) (k1 true a1 a0) (k1 (decide (a1≤(1:Int))) a1 a0)
def V130x0(n:Nt):G.O→Int→Rt:=fun x0 x1=>n [yR 2 x0,yI x1]
def B130x1(c:TC0)(a13:Bool)(a1:Int)(b102:G.O):Rt:=
 cnd a13 (some [yI (1:Int)]) (ob (idx b102.pair (0:Int)) fun v0=>
 obL [i6] (c 130 [yR 2 v0,yI (IntKind.i64.wrap (a1-(1:Int)))]) fun(r1:Int×Unit)=>
 cnd (decide (a1≤(IntKind.i64.wrap ((1:Int)+r1.1)))) (some [yI a1]) (ob (idx b102.pair (1:Int)) fun v2=>
 obL [i6] (c 130 [yR 2 v2,yI (IntKind.i64.wrap (a1-(IntKind.i64.wrap ((1:Int)+r1.1))))]) fun(r3:Int×Unit)=>
 some [yI (IntKind.i64.wrap ((IntKind.i64.wrap ((1:Int)+r1.1))+r3.1))]))
def V130x1(n:Nt):Bool→Int→G.O→Rt:=fun x0 x1 x2=>n [yB x0,yI x1,yR 2 x2]
def aJa:=V130x1 (xD yP e [1,0,1,0] aBB (q130x1 c e))
theorem s130x0:V130x0 (xF yP c e)=B130x0 c (aJa c e):=by kernel_rfl
theorem s130x1:V130x1 (xA yP c e [1,0,1,0] aBB (q130x1 c e))=B130x1 c:=by kernel_rfl
def J130x1(c:TC0)(L:Nat):Bool→Int→G.O→Rt:=B130x1 c
theorem j130x1:aJa c (cu c L)=J130x1 c L:=by rw[aJa,aK,s130x1];rfl
def F130(c:TC0)(L:Nat):G.O→Int→Rt:=B130x0 c (J130x1 c L)
theorem e130:V130x0 (xF yP c (cu c L))=F130 c L:=by rw[s130x0];simp only[j130x1];rfl
theorem c130(a0:G.O)(a1:Int)(L n:Nat):CTp L (n+1) 130 [yR 2 a0,yI a1]=F130 (CTp L n) L a0 a1:=by rw[←e130];exact cg (x:=yP) (by kernel_rfl) (by kernel_rfl) L n _
def q136x0(c:TC0)(e:Cu):Kt:=xK pU
def q136x1(c:TC0)(e:Cu):Kt:=xT pU c e [1,1] (q136x0 c e)
def aCE(c:TC0)(e:Cu):Kt:=cU U0 0 (q136x1 c e)
def q136x3(c:TC0)(e:Cu)(n1:Nt):Kt:=lpK U0 oQ n1 (aCE c e)
def q136x4(c:TC0)(e:Cu)(n1:Nt):Kt:=xT pU c e [1,0,1,0,0,1,1] (q136x3 c e n1)
def q136x5(c:TC0)(e:Cu)(n1:Nt):Kt:=cU U0 1 (q136x4 c e n1)
def B136x0(c:TC0)(e1:List G.E→Int→G.Y→G.M→Rt)(a0:List G.E)(a1:G.Y):Rt:=
 e1 a0 (0:Int) a1 (G.M.mk (G.Y.mk ([]:List UInt8) ([]:List UInt8)) ([]:List G.Y) false (G.T.mk (0:Int) (G.Y.mk ([]:List UInt8) ([]:List UInt8)) (G.O.mk (0:Int) ([]:List UInt8) ([]:List UInt8) (G.Y.mk ([]:List UInt8) ([]:List UInt8)) ([]:List UInt8) ([]:List G.O)) ([]:List G.T)))
def V136x0(n:Nt):List G.E→G.Y→Rt:=fun x0 x1=>n [yS 15 x0,yR 1 x1]
def B136x1(c:TC0)(k2:Bool→Int→List G.E→G.Y→G.M→Rt)(a0:List G.E)(a6:Int)(b103:G.Y)(b104:G.M):Rt:=
 cnd (decide (a6<(List.length a0:Int))) (ob (idx a0 a6) fun v0=>
 cnd (decide (v0.kind=(2:Int))) (ob (idx a0 a6) fun v1=>
 k2 (decide (v1.mac.name=b103)) a6 a0 b103 b104) (k2 false a6 a0 b103 b104)) (some [yR 6 (G.M.mk (G.Y.mk ([]:List UInt8) ([]:List UInt8)) ([]:List G.Y) false (G.T.mk (0:Int) (G.Y.mk ([]:List UInt8) ([]:List UInt8)) (G.O.mk (0:Int) ([]:List UInt8) ([]:List UInt8) (G.Y.mk ([]:List UInt8) ([]:List UInt8)) ([]:List UInt8) ([]:List G.O)) ([]:List G.T))),yB false])
def aAl(n:Nt):List G.E→Int→G.Y→G.M→Rt:=fun x0 x1 x2 x3=>n [yS 15 x0,yI x1,yR 1 x2,yR 6 x3]
def X136x1:=aAl (xE pU e [1,0,1,0,0] oQ (aCE c e))
def B136x2(c:TC0)(n1:List G.E→Int→G.Y→G.M→Rt)(a28:Bool)(a6:Int)(a0:List G.E)(b103:G.Y)(b104:G.M):Rt:=
 cnd a28 (ob (idx a0 a6) fun v0=>
 some [yR 6 v0.mac,yB true]) (n1 a0 (IntKind.i64.wrap (a6+(1:Int))) b103 b104)
def V136x2(n:Nt):Bool→Int→List G.E→G.Y→G.M→Rt:=fun x0 x1 x2 x3 x4=>n [yB x0,yI x1,yS 15 x2,yR 1 x3,yR 6 x4]
def aI9(n1:Nt):=V136x2 (xD pU e [1,0,1,0,0,1,0,0,1,0] aBA (q136x5 c e n1))
theorem s136x0:V136x0 (xF pU c e)=B136x0 c (X136x1 c e):=by kernel_rfl
theorem s136x1(n1:Nt):aAl (xA pU c e [1,0,1,0,0] oQ (lpK U0 oQ n1 (aCE c e)))=B136x1 c (aI9 c e n1):=by kernel_rfl
theorem s136x2(n1:Nt):V136x2 (xA pU c e [1,0,1,0,0,1,0,0,1,0] aBA (q136x5 c e n1))=B136x2 c (aAl n1):=by kernel_rfl
def J136x2(c:TC0)(L:Nat)(n1:List G.E→Int→G.Y→G.M→Rt):Bool→Int→List G.E→G.Y→G.M→Rt:=B136x2 c n1
theorem j136x2(n1:Nt):aI9 c (cu c L) n1=J136x2 c L (aAl n1):=by rw[aI9,aK,s136x2];rfl
def aDV(c:TC0)(L:Nat):Nat→List G.E→Int→G.Y→G.M→Rt
 |0=>fun _ _ _ _=>none
 |n+1=>B136x1 c (J136x2 c L (aDV c L n))
theorem u136x1(n:Nat):aAl (xL pU c L [1,0,1,0,0] oQ (aCE c (cu c L)) n)=aDV c L n:=by
 induction n with
 |zero=>rfl
 |succ n ih=>rw[gC,s136x1];simp only[j136x2,ih];rfl
theorem w136x1:X136x1 c (cu c L)=aDV c L L:=u136x1 c L L
def F136(c:TC0)(L:Nat):List G.E→G.Y→Rt:=B136x0 c (aDV c L L)
theorem e136:V136x0 (xF pU c (cu c L))=F136 c L:=by rw[s136x0];simp only[w136x1];rfl
theorem c136(a0:List G.E)(a1:G.Y)(L n:Nat):CTp L (n+1) 136 [yS 15 a0,yR 1 a1]=F136 (CTp L n) L a0 a1:=by rw[←e136];exact cg (x:=pU) (by kernel_rfl) (by kernel_rfl) L n _
def B148x0(c:TC0)(a0:G.Y):Rt:=
 some [yR 2 (G.O.mk (2:Int) ([]:List UInt8) ([]:List UInt8) a0 ([]:List UInt8) ([]:List G.O))]
def V148x0(n:Nt):G.Y→Rt:=fun x0=>n [yR 1 x0]
theorem s148x0:V148x0 (xF ii148 c e)=B148x0 c:=by kernel_rfl
def F148(c:TC0)(L:Nat):G.Y→Rt:=B148x0 c
theorem e148:V148x0 (xF ii148 c (cu c L))=F148 c L:=s148x0 _ _
theorem c148(a0:G.Y)(L n:Nat):CTp L (n+1) 148 [yR 1 a0]=F148 (CTp L n) L a0:=by rw[←e148];exact cg (x:=ii148) (by kernel_rfl) (by kernel_rfl) L n _
def q154x0(c:TC0)(e:Cu):Kt:=xK aBb
def aJ9(c:TC0)(k1:Bool→Rt)(a0:Int):Rt:=
 cnd (decide (a0=(32:Int))) (k1 true) (cnd (decide (a0=(9:Int))) (k1 true) (cnd (decide (a0=(10:Int))) (k1 true) (k1 (decide (a0=(13:Int))))))
def V154x0(n:Nt):Int→Rt:=fun x0=>n [⟨(.int .u8),x0⟩]
def aJ8(c:TC0)(a2:Bool):Rt:=
 some [yB a2]
def V154x1(n:Nt):Bool→Rt:=fun x0=>n [yB x0]
def aI8:=V154x1 (xD aBb e [1,1,0] aBz (q154x0 c e))
theorem s154x0:V154x0 (xF aBb c e)=aJ9 c (aI8 c e):=by kernel_rfl
theorem s154x1:V154x1 (xA aBb c e [1,1,0] aBz (q154x0 c e))=aJ8 c:=by kernel_rfl
def aJN(c:TC0)(L:Nat):Bool→Rt:=aJ8 c
theorem j154x1:aI8 c (cu c L)=aJN c L:=by rw[aI8,aK,s154x1];rfl
def F154(c:TC0)(L:Nat):Int→Rt:=aJ9 c (aJN c L)
theorem e154:V154x0 (xF aBb c (cu c L))=F154 c L:=by rw[s154x0];simp only[j154x1];rfl
theorem c154(a0:Int)(L n:Nat):CTp L (n+1) 154 [⟨(.int .u8),a0⟩]=F154 (CTp L n) L a0:=by rw[←e154];exact cg (x:=aBb) (by kernel_rfl) (by kernel_rfl) L n _
def q155x0(c:TC0)(e:Cu):Kt:=xK aBa
def aJ7(c:TC0)(k1:Bool→Rt)(a0:List UInt8)(a1:Int)(a2:Int)(a3:Int):Rt:=
 cnd (decide ((0:Int)≤a1)) (cnd (decide ((IntKind.i64.wrap (a1+(1:Int)))<(List.length a0:Int))) (ob (idx a0 a1) fun v0=>
 cnd (decide ((v0.toNat:Int)=a2)) (ob (idx a0 (IntKind.i64.wrap (a1+(1:Int)))) fun v1=>
 k1 (decide ((v1.toNat:Int)=a3))) (k1 false)) (k1 false)) (k1 false)
def V155x0(n:Nt):List UInt8→Int→Int→Int→Rt:=fun x0 x1 x2 x3=>n [yT x0,yI x1,⟨(.int .u8),x2⟩,⟨(.int .u8),x3⟩]
def aJ6(c:TC0)(a8:Bool):Rt:=
 some [yB a8]
def V155x1(n:Nt):Bool→Rt:=fun x0=>n [yB x0]
def aI7:=V155x1 (xD aBa e [1,1,0] aBy (q155x0 c e))
theorem s155x0:V155x0 (xF aBa c e)=aJ7 c (aI7 c e):=by kernel_rfl
theorem s155x1:V155x1 (xA aBa c e [1,1,0] aBy (q155x0 c e))=aJ6 c:=by kernel_rfl
def aJM(c:TC0)(L:Nat):Bool→Rt:=aJ6 c
theorem j155x1:aI7 c (cu c L)=aJM c L:=by rw[aI7,aK,s155x1];rfl
def F155(c:TC0)(L:Nat):List UInt8→Int→Int→Int→Rt:=aJ7 c (aJM c L)
theorem e155:V155x0 (xF aBa c (cu c L))=F155 c L:=by rw[s155x0];simp only[j155x1];rfl
theorem c155(a0:List UInt8)(a1:Int)(a2:Int)(a3:Int)(L n:Nat):CTp L (n+1) 155 [yT a0,yI a1,⟨(.int .u8),a2⟩,⟨(.int .u8),a3⟩]=F155 (CTp L n) L a0 a1 a2 a3:=by rw[←e155];exact cg (x:=aBa) (by kernel_rfl) (by kernel_rfl) L n _
def q157x0(c:TC0)(e:Cu):Kt:=xK yO
def q157x1(c:TC0)(e:Cu):Kt:=xT yO c e [1,1] (q157x0 c e)
def q157x2(c:TC0)(e:Cu):Kt:=cU U0 0 (q157x1 c e)
def aJ5(c:TC0)(k1:Bool→G.K→G.X→Rt)(a0:G.K)(a1:Bool):Rt:=
 cnd (decide ((40:Int)<(List.length a0.text:Int))) (obL [.rc 18] (c 99 [yI (2:Int),yI a0.pos]) fun(r0:G.X×Unit)=>
 some [yR 18 r0.1]) (cnd a1 (cnd (decide (a0.text=([]:List UInt8))) (k1 true a0 (G.X.mk (0:Int) (0:Int))) (cnd (!decide (a0.package=([]:List UInt8))) (obL [.bool] (c 174 [yT a0.package]) fun(r1:Bool×Unit)=>
 k1 (!r1.1) a0 (G.X.mk (0:Int) (0:Int))) (k1 false a0 (G.X.mk (0:Int) (0:Int))))) (cnd (!decide (a0.package=([]:List UInt8))) (obL [.bool] (c 174 [yT a0.package]) fun(r2:Bool×Unit)=>
 k1 (!r2.1) a0 (G.X.mk (0:Int) (0:Int))) (k1 false a0 (G.X.mk (0:Int) (0:Int)))))
def V157x0(n:Nt):G.K→Bool→Rt:=fun x0 x1=>n [yR 21 x0,yB x1]
def B157x1(c:TC0)(a13:Bool)(b102:G.K)(b104:G.X):Rt:=
 cnd a13 (obL [.rc 18] (c 99 [yI (3:Int),yI b102.pos]) fun(r0:G.X×Unit)=>
 some [yR 18 r0.1]) (some [yR 18 (G.X.mk (0:Int) (0:Int))])
def V157x1(n:Nt):Bool→G.K→G.X→Rt:=fun x0 x1 x2=>n [yB x0,yR 21 x1,yR 18 x2]
def aI6:=V157x1 (xD yO e [1,0,0,1,1,1,0] aBx (q157x2 c e))
theorem s157x0:V157x0 (xF yO c e)=aJ5 c (aI6 c e):=by kernel_rfl
theorem s157x1:V157x1 (xA yO c e [1,0,0,1,1,1,0] aBx (q157x2 c e))=B157x1 c:=by kernel_rfl
def J157x1(c:TC0)(L:Nat):Bool→G.K→G.X→Rt:=B157x1 c
theorem j157x1:aI6 c (cu c L)=J157x1 c L:=by rw[aI6,aK,s157x1];rfl
def F157(c:TC0)(L:Nat):G.K→Bool→Rt:=aJ5 c (J157x1 c L)
theorem e157:V157x0 (xF yO c (cu c L))=F157 c L:=by rw[s157x0];simp only[j157x1];rfl
theorem c157(a0:G.K)(a1:Bool)(L n:Nat):CTp L (n+1) 157 [yR 21 a0,yB a1]=F157 (CTp L n) L a0 a1:=by rw[←e157];exact cg (x:=yO) (by kernel_rfl) (by kernel_rfl) L n _
def q158x0(c:TC0)(e:Cu):Kt:=xK aA9
def aJ4(c:TC0)(k1:Bool→Rt)(a0:Int):Rt:=
 cnd (decide ((33:Int)≤a0)) (cnd (decide (a0≤(126:Int))) (cnd (!decide (a0=(40:Int))) (cnd (!decide (a0=(41:Int))) (cnd (!decide (a0=(39:Int))) (cnd (!decide (a0=(34:Int))) (cnd (!decide (a0=(59:Int))) (cnd (!decide (a0=(124:Int))) (k1 (!decide (a0=(58:Int)))) (k1 false)) (k1 false)) (k1 false)) (k1 false)) (k1 false)) (k1 false)) (k1 false)) (k1 false)
def V158x0(n:Nt):Int→Rt:=fun x0=>n [⟨(.int .u8),x0⟩]
def aJ3(c:TC0)(a2:Bool):Rt:=
 some [yB a2]
def V158x1(n:Nt):Bool→Rt:=fun x0=>n [yB x0]
def aI5:=V158x1 (xD aA9 e [1,1,0] aBw (q158x0 c e))
theorem s158x0:V158x0 (xF aA9 c e)=aJ4 c (aI5 c e):=by kernel_rfl
theorem s158x1:V158x1 (xA aA9 c e [1,1,0] aBw (q158x0 c e))=aJ3 c:=by kernel_rfl
def aJL(c:TC0)(L:Nat):Bool→Rt:=aJ3 c
theorem j158x1:aI5 c (cu c L)=aJL c L:=by rw[aI5,aK,s158x1];rfl
def F158(c:TC0)(L:Nat):Int→Rt:=aJ4 c (aJL c L)
theorem e158:V158x0 (xF aA9 c (cu c L))=F158 c L:=by rw[s158x0];simp only[j158x1];rfl
theorem c158(a0:Int)(L n:Nat):CTp L (n+1) 158 [⟨(.int .u8),a0⟩]=F158 (CTp L n) L a0:=by rw[←e158];exact cg (x:=aA9) (by kernel_rfl) (by kernel_rfl) L n _
def q159x0(c:TC0)(e:Cu):Kt:=xK pT
def q159x1(c:TC0)(e:Cu):Kt:=xT pT c e [1,1] (q159x0 c e)
def aCD(c:TC0)(e:Cu):Kt:=cU U0 0 (q159x1 c e)
def q159x3(c:TC0)(e:Cu)(n1:Nt):Kt:=lpK U0 oP n1 (aCD c e)
def q159x4(c:TC0)(e:Cu)(n1:Nt):Kt:=xT pT c e [1,0,0,0,1] (q159x3 c e n1)
def aJ2(c:TC0)(e1:List UInt8→Int→Rt)(a0:List UInt8)(a1:Int):Rt:=
 e1 a0 a1
def V159x0(n:Nt):List UInt8→Int→Rt:=fun x0 x1=>n [yT x0,yI x1]
def aEe(c:TC0)(k2:Bool→List UInt8→Int→Rt)(a0:List UInt8)(a1:Int):Rt:=
 cnd (decide (a1<(List.length a0:Int))) (ob (idx a0 a1) fun v0=>
 obL [.bool] (c 158 [⟨(.int .u8),(v0.toNat:Int)⟩]) fun(r1:Bool×Unit)=>
 k2 r1.1 a0 a1) (k2 false a0 a1)
def aAk(n:Nt):List UInt8→Int→Rt:=fun x0 x1=>n [yT x0,yI x1]
def X159x1:=aAk (xE pT e [1,0,0,0] oP (aCD c e))
def aAt(c:TC0)(n1:List UInt8→Int→Rt)(a14:Bool)(a0:List UInt8)(a1:Int):Rt:=
 cnd a14 (n1 a0 (IntKind.i64.wrap (a1+(1:Int)))) (some [yI a1])
def V159x2(n:Nt):Bool→List UInt8→Int→Rt:=fun x0 x1 x2=>n [yB x0,yT x1,yI x2]
def aI4(n1:Nt):=V159x2 (xD pT e [1,0,0,0,0,1,0] aBv (q159x4 c e n1))
theorem s159x0:V159x0 (xF pT c e)=aJ2 c (X159x1 c e):=by kernel_rfl
theorem s159x1(n1:Nt):aAk (xA pT c e [1,0,0,0] oP (lpK U0 oP n1 (aCD c e)))=aEe c (aI4 c e n1):=by kernel_rfl
theorem s159x2(n1:Nt):V159x2 (xA pT c e [1,0,0,0,0,1,0] aBv (q159x4 c e n1))=aAt c (aAk n1):=by kernel_rfl
def aAq(c:TC0)(L:Nat)(n1:List UInt8→Int→Rt):Bool→List UInt8→Int→Rt:=aAt c n1
theorem j159x2(n1:Nt):aI4 c (cu c L) n1=aAq c L (aAk n1):=by rw[aI4,aK,s159x2];rfl
def rX(c:TC0)(L:Nat):Nat→List UInt8→Int→Rt
 |0=>fun _ _=>none
 |n+1=>aEe c (aAq c L (rX c L n))
theorem u159x1(n:Nat):aAk (xL pT c L [1,0,0,0] oP (aCD c (cu c L)) n)=rX c L n:=by
 induction n with
 |zero=>rfl
 |succ n ih=>rw[gC,s159x1];simp only[j159x2,ih];rfl
theorem w159x1:X159x1 c (cu c L)=rX c L L:=u159x1 c L L
def F159(c:TC0)(L:Nat):List UInt8→Int→Rt:=aJ2 c (rX c L L)
theorem e159:V159x0 (xF pT c (cu c L))=F159 c L:=by rw[s159x0];simp only[w159x1];rfl
theorem c159(a0:List UInt8)(a1:Int)(L n:Nat):CTp L (n+1) 159 [yT a0,yI a1]=F159 (CTp L n) L a0 a1:=by rw[←e159];exact cg (x:=pT) (by kernel_rfl) (by kernel_rfl) L n _
def tE(c:TC0)(e:Cu):Kt:=xK eU
def q161x1(c:TC0)(e:Cu):Kt:=xT eU c e [1,1,1] (tE c e)
def q161x2(c:TC0)(e:Cu):Kt:=xT eU c e [1,1,1,0,1,1] (tE c e)
def aCC(c:TC0)(e:Cu):Kt:=cU U0 0 (q161x2 c e)
def q161x4(c:TC0)(e:Cu)(n3:Nt):Kt:=lpK U0 oO n3 (aCC c e)
def q161x5(c:TC0)(e:Cu)(n3:Nt):Kt:=xT eU c e [1,1,1,0,1,0,0,0,1] (q161x4 c e n3)
def q161x6(c:TC0)(e:Cu):Kt:=xT eU c e [1,1,1,0,1,1,1,1,1] (tE c e)
def q161x7(c:TC0)(e:Cu):Kt:=xT eU c e [1,1,1,0,1,1,1,1,1,1] (tE c e)
def aCB(c:TC0)(e:Cu):Kt:=cU U0 2 (q161x7 c e)
def q161x9(c:TC0)(e:Cu)(n6:Nt):Kt:=lpK U0 oM n6 (aCB c e)
def q161x10(c:TC0)(e:Cu)(n6:Nt):Kt:=xT eU c e [1,1,1,0,1,1,1,1,1,0,1,0,0,1,1] (q161x9 c e n6)
def aGo(c:TC0)(e:Cu)(n6:Nt):Kt:=cU U0 3 (q161x10 c e n6)
def aJ1(c:TC0)(k1:Bool→Int→List UInt8→Rt)(a0:List UInt8):Rt:=
 cnd (decide ((0:Int)<(List.length a0:Int))) (ob (idx a0 (0:Int)) fun v0=>
 k1 (decide ((v0.toNat:Int)=(45:Int))) (0:Int) a0) (k1 false (0:Int) a0)
def V161x0(n:Nt):List UInt8→Rt:=fun x0=>n [yT x0]
def aJ0(c:TC0)(k2:Int→List UInt8→Rt)(a15:Bool)(a5:Int)(a0:List UInt8):Rt:=
 cnd a15 (k2 (1:Int) a0) (k2 a5 a0)
def V161x1(n:Nt):Bool→Int→List UInt8→Rt:=fun x0 x1 x2=>n [yB x0,yI x1,yT x2]
def aI3:=V161x1 (xD eU e [1,1,0,1,0] aBu (q161x1 c e))
def aJZ(c:TC0)(e3:Int→List UInt8→Int→Rt)(a5:Int)(a0:List UInt8):Rt:=
 e3 a5 a0 a5
def V161x2(n:Nt):Int→List UInt8→Rt:=fun x0 x1=>n [yI x0,yT x1]
def aI2:=V161x2 (xD eU e [1,1,1,0] aBt (tE c e))
def aJY(c:TC0)(k4:Bool→Int→List UInt8→Int→Rt)(a5:Int)(a0:List UInt8)(a6:Int):Rt:=
 cnd (decide (a6<(List.length a0:Int))) (ob (idx a0 a6) fun v0=>
 cnd (decide ((48:Int)≤(v0.toNat:Int))) (ob (idx a0 a6) fun v1=>
 k4 (decide ((v1.toNat:Int)≤(57:Int))) a5 a0 a6) (k4 false a5 a0 a6)) (k4 false a5 a0 a6)
def aAj(n:Nt):Int→List UInt8→Int→Rt:=fun x0 x1 x2=>n [yI x0,yT x1,yI x2]
def X161x3:=aAj (xE eU e [1,1,1,0,1,0,0,0] oO (aCC c e))
def B161x4(c:TC0)(n3:Int→List UInt8→Int→Rt)(k5:Bool→List UInt8→Int→Rt)(a32:Bool)(a5:Int)(a0:List UInt8)(a6:Int):Rt:=
 cnd a32 (n3 a5 a0 (IntKind.i64.wrap (a6+(1:Int)))) (cnd (decide (a6=a5)) (some [yT ([]:List UInt8),yT ([]:List UInt8),yB false]) (cnd (decide (a6=(List.length a0:Int))) (some [yT a0,yT ([49]:List UInt8),yB true]) (ob (idx a0 a6) fun v0=>
 cnd (!decide ((v0.toNat:Int)=(47:Int))) (k5 true a0 a6) (k5 (decide ((IntKind.i64.wrap (a6+(1:Int)))=(List.length a0:Int))) a0 a6))))
def V161x4(n:Nt):Bool→Int→List UInt8→Int→Rt:=fun x0 x1 x2 x3=>n [yB x0,yI x1,yT x2,yI x3]
def aI1(n3:Nt):=V161x4 (xD eU e [1,1,1,0,1,0,0,0,0,1,0] aBs (q161x5 c e n3))
def B161x5(c:TC0)(e6:Int→List UInt8→Int→Rt)(a53:Bool)(a0:List UInt8)(a6:Int):Rt:=
 cnd a53 (some [yT ([]:List UInt8),yT ([]:List UInt8),yB false]) (e6 (IntKind.i64.wrap (a6+(1:Int))) a0 a6)
def V161x5(n:Nt):Bool→List UInt8→Int→Rt:=fun x0 x1 x2=>n [yB x0,yT x1,yI x2]
def aI0:=V161x5 (xD eU e [1,1,1,0,1,1,1,1,0,1,0] aBr (q161x6 c e))
def B161x6(c:TC0)(k7:Bool→Int→List UInt8→Int→Rt)(a7:Int)(a0:List UInt8)(a6:Int):Rt:=
 cnd (decide (a7<(List.length a0:Int))) (ob (idx a0 a7) fun v0=>
 cnd (decide ((v0.toNat:Int)<(48:Int))) (k7 true a7 a0 a6) (ob (idx a0 a7) fun v1=>
 k7 (decide ((57:Int)<(v1.toNat:Int))) a7 a0 a6)) (ob (slc a0 (0:Int) a6) fun v2=>
 ob (slc a0 (IntKind.i64.wrap (a6+(1:Int))) (List.length a0:Int)) fun v3=>
 some [yT v2,yT v3,yB true])
def aAi(n:Nt):Int→List UInt8→Int→Rt:=fun x0 x1 x2=>n [yI x0,yT x1,yI x2]
def X161x6:=aAi (xE eU e [1,1,1,0,1,1,1,1,1,0,1,0,0] oM (aCB c e))
def B161x7(c:TC0)(n6:Int→List UInt8→Int→Rt)(a71:Bool)(a7:Int)(a0:List UInt8)(a6:Int):Rt:=
 cnd a71 (some [yT ([]:List UInt8),yT ([]:List UInt8),yB false]) (n6 (IntKind.i64.wrap (a7+(1:Int))) a0 a6)
def V161x7(n:Nt):Bool→Int→List UInt8→Int→Rt:=fun x0 x1 x2 x3=>n [yB x0,yI x1,yT x2,yI x3]
def aIZ(n6:Nt):=V161x7 (xD eU e [1,1,1,0,1,1,1,1,1,0,1,0,0,1,0,0,1,0] aBq (aGo c e n6))
theorem s161x0:V161x0 (xF eU c e)=aJ1 c (aI3 c e):=by kernel_rfl
theorem s161x1:V161x1 (xA eU c e [1,1,0,1,0] aBu (q161x1 c e))=aJ0 c (aI2 c e):=by kernel_rfl
theorem s161x2:V161x2 (xA eU c e [1,1,1,0] aBt (tE c e))=aJZ c (X161x3 c e):=by kernel_rfl
theorem s161x3(n3:Nt):aAj (xA eU c e [1,1,1,0,1,0,0,0] oO (lpK U0 oO n3 (aCC c e)))=aJY c (aI1 c e n3):=by kernel_rfl
theorem s161x4(n3:Nt):V161x4 (xA eU c e [1,1,1,0,1,0,0,0,0,1,0] aBs (q161x5 c e n3))=B161x4 c (aAj n3) (aI0 c e):=by kernel_rfl
theorem s161x5:V161x5 (xA eU c e [1,1,1,0,1,1,1,1,0,1,0] aBr (q161x6 c e))=B161x5 c (X161x6 c e):=by kernel_rfl
theorem s161x6(n6:Nt):aAi (xA eU c e [1,1,1,0,1,1,1,1,1,0,1,0,0] oM (lpK U0 oM n6 (aCB c e)))=B161x6 c (aIZ c e n6):=by kernel_rfl
theorem s161x7(n6:Nt):V161x7 (xA eU c e [1,1,1,0,1,1,1,1,1,0,1,0,0,1,0,0,1,0] aBq (aGo c e n6))=B161x7 c (aAi n6):=by kernel_rfl
def J161x7(c:TC0)(L:Nat)(n6:Int→List UInt8→Int→Rt):Bool→Int→List UInt8→Int→Rt:=B161x7 c n6
theorem j161x7(n6:Nt):aIZ c (cu c L) n6=J161x7 c L (aAi n6):=by rw[aIZ,aK,s161x7];rfl
def aDU(c:TC0)(L:Nat):Nat→Int→List UInt8→Int→Rt
 |0=>fun _ _ _=>none
 |n+1=>B161x6 c (J161x7 c L (aDU c L n))
theorem u161x6(n:Nat):aAi (xL eU c L [1,1,1,0,1,1,1,1,1,0,1,0,0] oM (aCB c (cu c L)) n)=aDU c L n:=by
 induction n with
 |zero=>rfl
 |succ n ih=>rw[gC,s161x6];simp only[j161x7,ih];rfl
theorem w161x6:X161x6 c (cu c L)=aDU c L L:=u161x6 c L L
def J161x5(c:TC0)(L:Nat):Bool→List UInt8→Int→Rt:=B161x5 c (aDU c L L)
theorem j161x5:aI0 c (cu c L)=J161x5 c L:=by rw[aI0,aK,s161x5];simp only[w161x6];rfl
def aJI(c:TC0)(L:Nat)(n3:Int→List UInt8→Int→Rt):Bool→Int→List UInt8→Int→Rt:=B161x4 c n3 (J161x5 c L)
theorem j161x4(n3:Nt):aI1 c (cu c L) n3=aJI c L (aAj n3):=by rw[aI1,aK,s161x4];simp only[j161x5];rfl
def uI(c:TC0)(L:Nat):Nat→Int→List UInt8→Int→Rt
 |0=>fun _ _ _=>none
 |n+1=>aJY c (aJI c L (uI c L n))
theorem u161x3(n:Nat):aAj (xL eU c L [1,1,1,0,1,0,0,0] oO (aCC c (cu c L)) n)=uI c L n:=by
 induction n with
 |zero=>rfl
 |succ n ih=>rw[gC,s161x3];simp only[j161x4,ih];rfl
theorem w161x3:X161x3 c (cu c L)=uI c L L:=u161x3 c L L
def aJJ(c:TC0)(L:Nat):Int→List UInt8→Rt:=aJZ c (uI c L L)
theorem j161x2:aI2 c (cu c L)=aJJ c L:=by rw[aI2,aK,s161x2];simp only[w161x3];rfl
def aJK(c:TC0)(L:Nat):Bool→Int→List UInt8→Rt:=aJ0 c (aJJ c L)
theorem j161x1:aI3 c (cu c L)=aJK c L:=by rw[aI3,aK,s161x1];simp only[j161x2];rfl
def F161(c:TC0)(L:Nat):List UInt8→Rt:=aJ1 c (aJK c L)
theorem e161:V161x0 (xF eU c (cu c L))=F161 c L:=by rw[s161x0];simp only[j161x1];rfl
theorem c161(a0:List UInt8)(L n:Nat):CTp L (n+1) 161 [yT a0]=F161 (CTp L n) L a0:=by rw[←e161];exact cg (x:=eU) (by kernel_rfl) (by kernel_rfl) L n _
def q164x0(c:TC0)(e:Cu):Kt:=xK vQ
def q164x1(c:TC0)(e:Cu):Kt:=xT vQ c e [1,1] (q164x0 c e)
def aGn(c:TC0)(e:Cu):Kt:=cU U0 0 (q164x1 c e)
def B164x0(c:TC0)(e1:List UInt8→List G.A→Int→G.A→Rt)(a0:List G.A)(a1:List UInt8):Rt:=
 e1 a1 a0 (0:Int) (G.A.mk ([]:List UInt8) ([]:List G.Y))
def V164x0(n:Nt):List G.A→List UInt8→Rt:=fun x0 x1=>n [yS 5 x0,yT x1]
def B164x1(c:TC0)(n1:List UInt8→List G.A→Int→G.A→Rt)(a1:List UInt8)(a0:List G.A)(a6:Int)(b104:G.A):Rt:=
 cnd (decide (a6<(List.length a0:Int))) (ob (idx a0 a6) fun v0=>
 cnd (decide (v0.name=a1)) (ob (idx a0 a6) fun v1=>
 some [yR 5 v1,yB true]) (n1 a1 a0 (IntKind.i64.wrap (a6+(1:Int))) b104)) (some [yR 5 (G.A.mk ([]:List UInt8) ([]:List G.Y)),yB false])
def aD1(n:Nt):List UInt8→List G.A→Int→G.A→Rt:=fun x0 x1 x2 x3=>n [yT x0,yS 5 x1,yI x2,yR 5 x3]
def X164x1:=aD1 (xE vQ e [1,0,1,0,0] rI (aGn c e))
theorem s164x0:V164x0 (xF vQ c e)=B164x0 c (X164x1 c e):=by kernel_rfl
theorem s164x1(n1:Nt):aD1 (xA vQ c e [1,0,1,0,0] rI (lpK U0 rI n1 (aGn c e)))=B164x1 c (aD1 n1):=by kernel_rfl
def aDT(c:TC0)(L:Nat):Nat→List UInt8→List G.A→Int→G.A→Rt
 |0=>fun _ _ _ _=>none
 |n+1=>B164x1 c (aDT c L n)
theorem u164x1(n:Nat):aD1 (xL vQ c L [1,0,1,0,0] rI (aGn c (cu c L)) n)=aDT c L n:=by
 induction n with
 |zero=>rfl
 |succ n ih=>rw[gC,s164x1];simp only[ih];rfl
theorem w164x1:X164x1 c (cu c L)=aDT c L L:=u164x1 c L L
def F164(c:TC0)(L:Nat):List G.A→List UInt8→Rt:=B164x0 c (aDT c L L)
theorem e164:V164x0 (xF vQ c (cu c L))=F164 c L:=by rw[s164x0];simp only[w164x1];rfl
theorem c164(a0:List G.A)(a1:List UInt8)(L n:Nat):CTp L (n+1) 164 [yS 5 a0,yT a1]=F164 (CTp L n) L a0 a1:=by rw[←e164];exact cg (x:=vQ) (by kernel_rfl) (by kernel_rfl) L n _
def B181x0(c:TC0)(a0:G.T):Rt:=
 cnd (!decide (a0.kind=(3:Int))) (some [yS 3 ([]:List G.T)]) (some [yS 3 a0.args])
def V181x0(n:Nt):G.T→Rt:=fun x0=>n [yR 3 x0]
theorem s181x0:V181x0 (xF ii181 c e)=B181x0 c:=by kernel_rfl
def F181(c:TC0)(L:Nat):G.T→Rt:=B181x0 c
theorem e181:V181x0 (xF ii181 c (cu c L))=F181 c L:=s181x0 _ _
theorem c181(a0:G.T)(L n:Nat):CTp L (n+1) 181 [yR 3 a0]=F181 (CTp L n) L a0:=by rw[←e181];exact cg (x:=ii181) (by kernel_rfl) (by kernel_rfl) L n _
def q185x0(c:TC0)(e:Cu):Kt:=xK lO
def q185x1(c:TC0)(e:Cu):Kt:=xT lO c e [1,1] (q185x0 c e)
def q185x2(c:TC0)(e:Cu):Kt:=xT lO c e [1,1,1] (q185x0 c e)
def aCA(c:TC0)(e:Cu):Kt:=cU U0 0 (q185x2 c e)
def q185x4(c:TC0)(e:Cu)(n2:Nt):Kt:=lpK U0 oK n2 (aCA c e)
def q185x5(c:TC0)(e:Cu)(n2:Nt):Kt:=xT lO c e [1,1,0,1,0,0,1,1] (q185x4 c e n2)
def q185x6(c:TC0)(e:Cu)(n2:Nt):Kt:=cU U0 1 (q185x5 c e n2)
def B185x0(c:TC0)(k1:Bool→List UInt8→Rt)(a0:List UInt8):Rt:=
 cnd (decide ((List.length a0:Int)<(1:Int))) (k1 true a0) (cnd (decide ((40:Int)<(List.length a0:Int))) (k1 true a0) (ob (idx a0 (0:Int)) fun v0=>
 cnd (decide ((v0.toNat:Int)<(97:Int))) (k1 true a0) (ob (idx a0 (0:Int)) fun v1=>
 k1 (decide ((122:Int)<(v1.toNat:Int))) a0)))
def V185x0(n:Nt):List UInt8→Rt:=fun x0=>n [yT x0]
def B185x1(c:TC0)(e2:List UInt8→Int→Rt)(a22:Bool)(a0:List UInt8):Rt:=
 cnd a22 (some [yB false]) (e2 a0 (0:Int))
def V185x1(n:Nt):Bool→List UInt8→Rt:=fun x0 x1=>n [yB x0,yT x1]
def aIY:=V185x1 (xD lO e [1,0,1,0] aBp (q185x1 c e))
def B185x2(c:TC0)(k3:Bool→Int→List UInt8→Rt)(a0:List UInt8)(a3:Int):Rt:=
 cnd (decide (a3<(List.length a0:Int))) (ob (idx a0 a3) fun v0=>
 cnd (decide ((v0.toNat:Int)<(97:Int))) (cnd (decide ((v0.toNat:Int)<(48:Int))) (k3 (!decide ((v0.toNat:Int)=(45:Int))) a3 a0) (cnd (decide ((57:Int)<(v0.toNat:Int))) (k3 (!decide ((v0.toNat:Int)=(45:Int))) a3 a0) (k3 false a3 a0))) (cnd (decide ((122:Int)<(v0.toNat:Int))) (cnd (decide ((v0.toNat:Int)<(48:Int))) (k3 (!decide ((v0.toNat:Int)=(45:Int))) a3 a0) (cnd (decide ((57:Int)<(v0.toNat:Int))) (k3 (!decide ((v0.toNat:Int)=(45:Int))) a3 a0) (k3 false a3 a0))) (k3 false a3 a0))) (some [yB true])
def aAh(n:Nt):List UInt8→Int→Rt:=fun x0 x1=>n [yT x0,yI x1]
def X185x2:=aAh (xE lO e [1,1,0,1,0,0] oK (aCA c e))
def B185x3(c:TC0)(n2:List UInt8→Int→Rt)(a49:Bool)(a3:Int)(a0:List UInt8):Rt:=
 cnd a49 (some [yB false]) (n2 a0 (IntKind.i64.wrap (a3+(1:Int))))
def V185x3(n:Nt):Bool→Int→List UInt8→Rt:=fun x0 x1 x2=>n [yB x0,yI x1,yT x2]
def aIX(n2:Nt):=V185x3 (xD lO e [1,1,0,1,0,0,1,0,0,1,1,0] aBo (q185x6 c e n2))
theorem s185x0:V185x0 (xF lO c e)=B185x0 c (aIY c e):=by kernel_rfl
theorem s185x1:V185x1 (xA lO c e [1,0,1,0] aBp (q185x1 c e))=B185x1 c (X185x2 c e):=by kernel_rfl
theorem s185x2(n2:Nt):aAh (xA lO c e [1,1,0,1,0,0] oK (lpK U0 oK n2 (aCA c e)))=B185x2 c (aIX c e n2):=by kernel_rfl
theorem s185x3(n2:Nt):V185x3 (xA lO c e [1,1,0,1,0,0,1,0,0,1,1,0] aBo (q185x6 c e n2))=B185x3 c (aAh n2):=by kernel_rfl
def J185x3(c:TC0)(L:Nat)(n2:List UInt8→Int→Rt):Bool→Int→List UInt8→Rt:=B185x3 c n2
theorem j185x3(n2:Nt):aIX c (cu c L) n2=J185x3 c L (aAh n2):=by rw[aIX,aK,s185x3];rfl
def aDS(c:TC0)(L:Nat):Nat→List UInt8→Int→Rt
 |0=>fun _ _=>none
 |n+1=>B185x2 c (J185x3 c L (aDS c L n))
theorem u185x2(n:Nat):aAh (xL lO c L [1,1,0,1,0,0] oK (aCA c (cu c L)) n)=aDS c L n:=by
 induction n with
 |zero=>rfl
 |succ n ih=>rw[gC,s185x2];simp only[j185x3,ih];rfl
theorem w185x2:X185x2 c (cu c L)=aDS c L L:=u185x2 c L L
def J185x1(c:TC0)(L:Nat):Bool→List UInt8→Rt:=B185x1 c (aDS c L L)
theorem j185x1:aIY c (cu c L)=J185x1 c L:=by rw[aIY,aK,s185x1];simp only[w185x2];rfl
def F185(c:TC0)(L:Nat):List UInt8→Rt:=B185x0 c (J185x1 c L)
theorem e185:V185x0 (xF lO c (cu c L))=F185 c L:=by rw[s185x0];simp only[j185x1];rfl
theorem c185(a0:List UInt8)(L n:Nat):CTp L (n+1) 185 [yT a0]=F185 (CTp L n) L a0:=by rw[←e185];exact cg (x:=lO) (by kernel_rfl) (by kernel_rfl) L n _
end
end Go.TV
