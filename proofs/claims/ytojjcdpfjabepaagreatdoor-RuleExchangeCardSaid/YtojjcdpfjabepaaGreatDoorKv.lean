import Derived.Test.YtojjcdpfjabepaaGreatDoorKt
set_option linter.unusedVariables false
set_option linter.unusedSimpArgs false
set_option linter.constructorNameAsVariable false
namespace Go.TV
open Go.AI Go.PI Go.Proofs
set_option maxRecDepth 20000
noncomputable section
variable(c:TC0)(e:Cu)(L:Nat)
def q0x0(c:TC0)(e:Cu):Kt:=xK ii0
def q0x1(c:TC0)(e:Cu):Kt:=xT ii0 c e [1,1,1,1,1,1,1,1,1,1,1,1,1] (q0x0 c e)
def B0x0(c:TC0)(k1:Bool→Rt)(k2:Bool→Rt)(a0:List Int):Rt:=
 obL [.bool] (c 1 []) fun(r0:Bool×Unit)=>
 cnd (!r0.1) (some [yB false]) (cnd (decide ((80:Int)<(List.length a0:Int))) (some [yB true]) (obL [zS 16] (c 2 [⟨(.int .u32),(0:Int)⟩]) fun(r1:List G.E×Unit)=>
 obL [.rc 3,.rc 0] (c 3 [yS 16 r1.1,yI (3:Int),yR 0 (G.Z.mk a0 (0:Int))]) fun(r2:G.T×G.Z×Unit)=>
 obL [.rc 3,.rc 0] (c 3 [yS 16 r1.1,yI (3:Int),yR 0 r2.2.1]) fun(r3:G.T×G.Z×Unit)=>
 obL [.rc 1] (c 4 [yT ([120]:List UInt8)]) fun(r4:G.Y×Unit)=>
 obL [.rc 1] (c 4 [yT ([121]:List UInt8)]) fun(r5:G.Y×Unit)=>
 obL [zS 7] (c 5 []) fun(r6:List G.L×Unit)=>
 ob (idx r6.1 (4:Int)) fun v7=>
 obL [.rc 1] (c 4 [yT ([112,108,117,115]:List UInt8)]) fun(r8:G.Y×Unit)=>
 obL [.rc 5,i6] (c 6 [yS 16 r1.1,yR 1 r8.1,yR 3 v7.formula,yI (1:Int)]) fun(r9:G.U×Int×Unit)=>
 obL [.bool] (c 7 [yR 5 r9.1,yS 6 ([(G.I.mk r4.1 r2.1),(G.I.mk r5.1 r3.1)]:List G.I)]) fun(r10:Bool×Unit)=>
 obL [.bool] (c 7 [yR 5 r9.1,yS 6 ([(G.I.mk r4.1 r3.1),(G.I.mk r5.1 r2.1)]:List G.I)]) fun(r11:Bool×Unit)=>
 cnd (!decide (r9.2.1=(0:Int))) (some [yB false]) (obL [.bool] (c 8 [yR 3 r2.1,yR 3 r3.1]) fun(r12:Bool×Unit)=>
 cnd r12.1 (cnd (!r10.1) (k1 (!r11.1)) (k1 false)) (cnd (!(r10.1==r11.1)) (obL [i6] (c 9 [yR 3 r3.1,yR 3 r2.1]) fun(r13:Int×Unit)=>
 k2 (r10.1==(decide (r13.1<(0:Int))))) (k2 false)))))
def V0x0(n:Nt):List Int→Rt:=fun x0=>n [⟨(.sl (.int .u8)),x0⟩]
def B0x1(c:TC0)(a2:Bool):Rt:=
 some [yB a2]
def V0x1(n:Nt):Bool→Rt:=fun x0=>n [yB x0]
def X0x1:=V0x1 (xD ii0 e [1,1,1,1,1,1,1,1,1,1,1,1,0,1,0,1,0] ct0x1 (q0x1 c e))
def B0x2(c:TC0)(a2:Bool):Rt:=
 some [yB a2]
def V0x2(n:Nt):Bool→Rt:=fun x0=>n [yB x0]
def X0x2:=V0x2 (xD ii0 e [1,1,1,1,1,1,1,1,1,1,1,1,1,1,0] ct0x2 (q0x0 c e))
theorem s0x0:V0x0 (xF ii0 c e)=B0x0 c (X0x1 c e) (X0x2 c e):=by kernel_rfl
theorem s0x1:V0x1 (xA ii0 c e [1,1,1,1,1,1,1,1,1,1,1,1,0,1,0,1,0] ct0x1 (q0x1 c e))=B0x1 c:=by kernel_rfl
theorem s0x2:V0x2 (xA ii0 c e [1,1,1,1,1,1,1,1,1,1,1,1,1,1,0] ct0x2 (q0x0 c e))=B0x2 c:=by kernel_rfl
def J0x1(c:TC0)(L:Nat):Bool→Rt:=B0x1 c
theorem j0x1:X0x1 c (cu c L)=J0x1 c L:=by rw[X0x1,aM,s0x1];rfl
def J0x2(c:TC0)(L:Nat):Bool→Rt:=B0x2 c
theorem j0x2:X0x2 c (cu c L)=J0x2 c L:=by rw[X0x2,aM,s0x2];rfl
def F0(c:TC0)(L:Nat):List Int→Rt:=B0x0 c (J0x1 c L) (J0x2 c L)
theorem e0:V0x0 (xF ii0 c (cu c L))=F0 c L:=by rw[s0x0];simp only[j0x1,j0x2];rfl
def q1x0(c:TC0)(e:Cu):Kt:=xK ii1
def B1x0(c:TC0)(k1:Bool→Rt):Rt:=
 obL [.rc 3] (c 10 [yT ([120]:List UInt8)]) fun(r0:G.T×Unit)=>
 obL [.rc 3] (c 10 [yT ([121]:List UInt8)]) fun(r1:G.T×Unit)=>
 obL [.rc 3] (c 11 [yT ([98,105,110,97,114,121,45,43]:List UInt8),yS 3 ([r0.1,r1.1]:List G.T)]) fun(r2:G.T×Unit)=>
 obL [.rc 3] (c 11 [yT ([98,105,110,97,114,121,45,43]:List UInt8),yS 3 ([r1.1,r0.1]:List G.T)]) fun(r3:G.T×Unit)=>
 obL [.rc 3] (c 11 [yT ([101,113,117,97,108]:List UInt8),yS 3 ([r2.1,r3.1]:List G.T)]) fun(r4:G.T×Unit)=>
 obL [zS 16] (c 2 [⟨(.int .u32),(0:Int)⟩]) fun(r5:List G.E×Unit)=>
 obL [.rc 1] (c 4 [yT ([112,108,117,115]:List UInt8)]) fun(r6:G.Y×Unit)=>
 obL [.rc 5,i6] (c 6 [yS 16 r5.1,yR 1 r6.1,yR 3 r4.1,yI (1:Int)]) fun(r7:G.U×Int×Unit)=>
 obL [.rc 3] (c 10 [yT ([97]:List UInt8)]) fun(r8:G.T×Unit)=>
 obL [.rc 3] (c 10 [yT ([98]:List UInt8)]) fun(r9:G.T×Unit)=>
 obL [.rc 1] (c 4 [yT ([120]:List UInt8)]) fun(r10:G.Y×Unit)=>
 obL [.rc 1] (c 4 [yT ([121]:List UInt8)]) fun(r11:G.Y×Unit)=>
 cnd (decide (r7.2.1=(0:Int))) (cnd (decide ((List.length r7.1.stops:Int)=(2:Int))) (obL [.bool] (c 7 [yR 5 r7.1,yS 6 ([(G.I.mk r10.1 r9.1),(G.I.mk r11.1 r8.1)]:List G.I)]) fun(r12:Bool×Unit)=>
 cnd r12.1 (ob (idx r4.1.args (0:Int)) fun v13=>
 obL [.bool] (c 8 [yR 3 r7.1.left,yR 3 v13]) fun(r14:Bool×Unit)=>
 k1 r14.1) (k1 false)) (k1 false)) (k1 false)
def V1x0(n:Nt):Rt:=n []
def B1x1(c:TC0)(a0:Bool):Rt:=
 some [yB a0]
def V1x1(n:Nt):Bool→Rt:=fun x0=>n [yB x0]
def X1x1:=V1x1 (xD ii1 e [1,1,1,1,1,1,1,0] ct1x1 (q1x0 c e))
theorem s1x0:V1x0 (xF ii1 c e)=B1x0 c (X1x1 c e):=by kernel_rfl
theorem s1x1:V1x1 (xA ii1 c e [1,1,1,1,1,1,1,0] ct1x1 (q1x0 c e))=B1x1 c:=by kernel_rfl
def J1x1(c:TC0)(L:Nat):Bool→Rt:=B1x1 c
theorem j1x1:X1x1 c (cu c L)=J1x1 c L:=by rw[X1x1,aM,s1x1];rfl
def F1(c:TC0)(L:Nat):Rt:=B1x0 c (J1x1 c L)
theorem e1:V1x0 (xF ii1 c (cu c L))=F1 c L:=by rw[s1x0];simp only[j1x1];rfl
def q2x0(c:TC0)(e:Cu):Kt:=xK ii2
def q2x1(c:TC0)(e:Cu):Kt:=xT ii2 c e [1,1,1,1] (q2x0 c e)
def q2x2(c:TC0)(e:Cu):Kt:=dD U0 0 (q2x1 c e)
def q2x3(c:TC0)(e:Cu):Kt:=xT ii2 c e [1,1,1,1,1,1] (q2x0 c e)
def q2x4(c:TC0)(e:Cu):Kt:=dD U0 2 (q2x3 c e)
def q2x5(c:TC0)(e:Cu)(n2:Nt):Kt:=lpK U0 aFp n2 (q2x4 c e)
def B2x0(c:TC0)(e1:(List (List G.F))→Int→Int→List G.E→Rt)(a0:Int):Rt:=
 obL [zS 16] (c 12 []) fun(r0:List G.E×Unit)=>
 obL [.sl (zS 8)] (c 13 []) fun(r1:(List (List G.F))×Unit)=>
 e1 r1.1 (0:Int) a0 r0.1
def V2x0(n:Nt):Int→Rt:=fun x0=>n [⟨(.int .u32),x0⟩]
def B2x1(c:TC0)(n1:(List (List G.F))→Int→Int→List G.E→Rt)(e2:Int→List G.L→Int→List G.E→Rt)(a4:(List (List G.F)))(a5:Int)(a0:Int)(a3:List G.E):Rt:=
 cnd (decide (a5<(List.length a4:Int))) (ob (idx a4 a5) fun v0=>
 ob (idx v0 (0:Int)) fun v1=>
 ob (idx a4 a5) fun v2=>
 chk (Nat.ble ((List.length a3+List.length ([(G.E.mk (3:Int) v1.name (G.A.mk ([]:List UInt8) ([]:List G.Y)) (G.M.mk (G.Y.mk ([]:List UInt8) ([]:List UInt8)) ([]:List G.Y) false (G.T.mk (0:Int) (G.Y.mk ([]:List UInt8) ([]:List UInt8)) (G.O.mk (0:Int) ([]:List UInt8) ([]:List UInt8) (G.Y.mk ([]:List UInt8) ([]:List UInt8)) ([]:List UInt8) ([]:List G.O)) ([]:List G.T))) v2 ([]:List G.T) ([]:List (List G.N)) ([]:List G.E) (G.B.mk (G.Y.mk ([]:List UInt8) ([]:List UInt8)) ([]:List G.D)) ([]:List G.U) ([]:List G.Y) ([]:List G.Y) ([]:List UInt8) (0:Int))]:List G.E))*568) 1073741824)<|
 n1 a4 (IntKind.i64.wrap (a5+(1:Int))) a0 (a3++([(G.E.mk (3:Int) v1.name (G.A.mk ([]:List UInt8) ([]:List G.Y)) (G.M.mk (G.Y.mk ([]:List UInt8) ([]:List UInt8)) ([]:List G.Y) false (G.T.mk (0:Int) (G.Y.mk ([]:List UInt8) ([]:List UInt8)) (G.O.mk (0:Int) ([]:List UInt8) ([]:List UInt8) (G.Y.mk ([]:List UInt8) ([]:List UInt8)) ([]:List UInt8) ([]:List G.O)) ([]:List G.T))) v2 ([]:List G.T) ([]:List (List G.N)) ([]:List G.E) (G.B.mk (G.Y.mk ([]:List UInt8) ([]:List UInt8)) ([]:List G.D)) ([]:List G.U) ([]:List G.Y) ([]:List G.Y) ([]:List UInt8) (0:Int))]:List G.E))) (obL [zS 7] (c 5 []) fun(r3:List G.L×Unit)=>
 e2 a0 r3.1 (0:Int) a3)
def V2x1(n:Nt):(List (List G.F))→Int→Int→List G.E→Rt:=fun x0 x1 x2 x3=>n [⟨.sl (zS 8),x0⟩,yI x1,⟨(.int .u32),x2⟩,yS 16 x3]
def X2x1:=V2x1 (xE ii2 e [1,1,1,0,1,0,0] aH0 (q2x2 c e))
def B2x2(c:TC0)(k3:Int→Int→List G.L→List G.E→Rt)(a0:Int)(a6:List G.L)(a7:Int)(a3:List G.E):Rt:=
 cnd (decide (a7<(List.length a6:Int))) (chk (decide (0≤a7))<|
 cnd (decide ((IntKind.u32.wrap ((BitVec.ofInt IntKind.u32.bits (Int.fdiv a0 (2^(min (Int.toNat a7) IntKind.u32.bits)))&&&BitVec.ofInt IntKind.u32.bits (1:Int)).toNat:Int))=(0:Int))) (k3 a7 a0 a6 a3) (ob (idx a6 a7) fun v0=>
 ob (idx a6 a7) fun v1=>
 obL [.rc 1] (c 4 [yT v0.name]) fun(r2:G.Y×Unit)=>
 ob (idx a6 a7) fun v3=>
 ob (idx a6 a7) fun v4=>
 none)) (some [yS 16 a3])
def V2x2(n:Nt):Int→List G.L→Int→List G.E→Rt:=fun x0 x1 x2 x3=>n [⟨(.int .u32),x0⟩,yS 7 x1,yI x2,yS 16 x3]
def X2x2:=V2x2 (xE ii2 e [1,1,1,1,1,0,1,0,0] aFp (q2x4 c e))
def B2x3(c:TC0)(n2:Int→List G.L→Int→List G.E→Rt)(a7:Int)(a0:Int)(a6:List G.L)(a3:List G.E):Rt:=
 n2 a0 a6 (IntKind.i64.wrap (a7+(1:Int))) a3
def V2x3(n:Nt):Int→Int→List G.L→List G.E→Rt:=fun x0 x1 x2 x3=>n [yI x0,⟨(.int .u32),x1⟩,yS 7 x2,yS 16 x3]
def X2x3(n2:Nt):=V2x3 (xD ii2 e [1,1,1,1,1,0,1,0,0,1,1,0] ct2x3 (q2x5 c e n2))
theorem s2x0:V2x0 (xF ii2 c e)=B2x0 c (X2x1 c e):=by kernel_rfl
theorem s2x1(n1:Nt):V2x1 (xA ii2 c e [1,1,1,0,1,0,0] aH0 (lpK U0 aH0 n1 (q2x2 c e)))=B2x1 c (V2x1 n1) (X2x2 c e):=by kernel_rfl
theorem s2x2(n2:Nt):V2x2 (xA ii2 c e [1,1,1,1,1,0,1,0,0] aFp (lpK U0 aFp n2 (q2x4 c e)))=B2x2 c (X2x3 c e n2):=by kernel_rfl
theorem s2x3(n2:Nt):V2x3 (xA ii2 c e [1,1,1,1,1,0,1,0,0,1,1,0] ct2x3 (q2x5 c e n2))=B2x3 c (V2x2 n2):=by kernel_rfl
def J2x3(c:TC0)(L:Nat)(n2:Int→List G.L→Int→List G.E→Rt):Int→Int→List G.L→List G.E→Rt:=B2x3 c n2
theorem j2x3(n2:Nt):X2x3 c (cu c L) n2=J2x3 c L (V2x2 n2):=by rw[X2x3,aM,s2x3];rfl
def W2x2(c:TC0)(L:Nat):Nat→Int→List G.L→Int→List G.E→Rt
 |0=>fun _ _ _ _=>none
 |n+1=>B2x2 c (J2x3 c L (W2x2 c L n))
theorem u2x2(n:Nat):V2x2 (xL ii2 c L [1,1,1,1,1,0,1,0,0] aFp (q2x4 c (cu c L)) n)=W2x2 c L n:=by
 induction n with
 |zero=>rfl
 |succ n ih=>rw[fO,s2x2];simp only[j2x3,ih];rfl
theorem w2x2:X2x2 c (cu c L)=W2x2 c L L:=u2x2 c L L
def W2x1(c:TC0)(L:Nat):Nat→(List (List G.F))→Int→Int→List G.E→Rt
 |0=>fun _ _ _ _=>none
 |n+1=>B2x1 c (W2x1 c L n) (W2x2 c L L)
theorem u2x1(n:Nat):V2x1 (xL ii2 c L [1,1,1,0,1,0,0] aH0 (q2x2 c (cu c L)) n)=W2x1 c L n:=by
 induction n with
 |zero=>rfl
 |succ n ih=>rw[fO,s2x1];simp only[w2x2,ih];rfl
theorem w2x1:X2x1 c (cu c L)=W2x1 c L L:=u2x1 c L L
def F2(c:TC0)(L:Nat):Int→Rt:=B2x0 c (W2x1 c L L)
theorem e2:V2x0 (xF ii2 c (cu c L))=F2 c L:=by rw[s2x0];simp only[w2x1];rfl
theorem c2(a0:Int)(L n:Nat):CTp L (n+1) 2 [⟨(.int .u32),a0⟩]=F2 (CTp L n) L a0:=by rw[←e2];exact cg (x:=ii2) (by kernel_rfl) (by kernel_rfl) L n _
def q3x0(c:TC0)(e:Cu):Kt:=xK ii3
def q3x1(c:TC0)(e:Cu):Kt:=xT ii3 c e [1,1,1] (q3x0 c e)
def q3x2(c:TC0)(e:Cu):Kt:=xT ii3 c e [1,1,1,0,1,1,1,0,1,1,1] (q3x0 c e)
def q3x3(c:TC0)(e:Cu):Kt:=dD U0 1 (q3x2 c e)
def B3x0(c:TC0)(k1:Bool→Int→List G.E→Int→G.Z→G.T→Rt)(a1:List G.E)(a2:Int)(b0:G.Z):Rt:=
 obL [i6,.rc 0] (c 14 [yI (12:Int),yR 0 b0]) fun(r0:Int×G.Z×Unit)=>
 cnd (decide (a2<(1:Int))) (k1 (decide ((3:Int)<r0.1)) r0.1 a1 a2 r0.2.1 (G.T.mk (0:Int) (G.Y.mk ([]:List UInt8) ([]:List UInt8)) (G.O.mk (0:Int) ([]:List UInt8) ([]:List UInt8) (G.Y.mk ([]:List UInt8) ([]:List UInt8)) ([]:List UInt8) ([]:List G.O)) ([]:List G.T))) (k1 false r0.1 a1 a2 r0.2.1 (G.T.mk (0:Int) (G.Y.mk ([]:List UInt8) ([]:List UInt8)) (G.O.mk (0:Int) ([]:List UInt8) ([]:List UInt8) (G.Y.mk ([]:List UInt8) ([]:List UInt8)) ([]:List UInt8) ([]:List G.O)) ([]:List G.T)))
def V3x0(n:Nt):List G.E→Int→G.Z→Rt:=fun x0 x1 x2=>n [yS 16 x0,yI x1,yR 0 x2]
def B3x1(c:TC0)(k2:Int→List G.E→Int→G.Z→G.T→Rt)(a22:Bool)(a7:Int)(a1:List G.E)(a2:Int)(b0:G.Z)(b106:G.T):Rt:=
 cnd a22 (chk (!decide ((4:Int)=0))<|
 k2 (Int.tmod a7 (4:Int)) a1 a2 b0 b106) (k2 a7 a1 a2 b0 b106)
def V3x1(n:Nt):Bool→Int→List G.E→Int→G.Z→G.T→Rt:=fun x0 x1 x2 x3 x4 x5=>n [yB x0,yI x1,yS 16 x2,yI x3,yR 0 x4,yR 3 x5]
def X3x1:=V3x1 (xD ii3 e [1,1,0,1,0] ct3x1 (q3x1 c e))
def B3x2(c:TC0)(k3:List G.E→Int→G.Z→G.Y→G.T→Rt)(a7:Int)(a1:List G.E)(a2:Int)(b0:G.Z)(b106:G.T):Rt:=
 cnd (decide (a7<(3:Int))) (obL [.rc 3,.rc 0] (c 15 [yR 0 b0]) fun(r0:G.T×G.Z×Unit)=>
 some [yR 3 r0.1,yR 0 r0.2.1]) (cnd (decide (a7=(3:Int))) (obL [.rc 2,.rc 0] (c 16 [yI (1:Int),yR 0 b0]) fun(r1:G.O×G.Z×Unit)=>
 obL [.rc 3] (c 17 [yR 2 r1.1]) fun(r2:G.T×Unit)=>
 some [yR 3 r2.1,yR 0 r1.2.1]) (obL [(.sl .str)] (c 18 []) fun(r3:(List (List UInt8))×Unit)=>
 obL [(.sl .str)] (c 19 []) fun(r4:(List (List UInt8))×Unit)=>
 obL [i6,.rc 0] (c 14 [yI (4:Int),yR 0 b0]) fun(r5:Int×G.Z×Unit)=>
 cnd (decide (r5.1<(3:Int))) (obL [i6,.rc 0] (c 14 [yI (List.length r3.1:Int),yR 0 r5.2.1]) fun(r6:Int×G.Z×Unit)=>
 ob (idx r3.1 r6.1) fun v7=>
 obL [.rc 1] (c 20 [yT v7]) fun(r8:G.Y×Unit)=>
 k3 a1 a2 r6.2.1 r8.1 b106) (obL [i6,.rc 0] (c 14 [yI (List.length r4.1:Int),yR 0 r5.2.1]) fun(r9:Int×G.Z×Unit)=>
 ob (idx r4.1 r9.1) fun v10=>
 obL [.rc 1] (c 4 [yT v10]) fun(r11:G.Y×Unit)=>
 k3 a1 a2 r9.2.1 r11.1 b106)))
def V3x2(n:Nt):Int→List G.E→Int→G.Z→G.T→Rt:=fun x0 x1 x2 x3 x4=>n [yI x0,yS 16 x1,yI x2,yR 0 x3,yR 3 x4]
def X3x2:=V3x2 (xD ii3 e [1,1,1,0] ct3x2 (q3x0 c e))
def B3x3(c:TC0)(e4:Int→List G.E→Int→Int→List G.T→G.Z→G.Y→G.T→Rt)(a1:List G.E)(a2:Int)(b0:G.Z)(b108:G.Y)(b106:G.T):Rt:=
 obL [i6,.bool] (c 21 [yS 16 a1,yR 1 b108]) fun(r0:Int×Bool×Unit)=>
 e4 r0.1 a1 a2 (0:Int) ([]:List G.T) b0 b108 b106
def V3x3(n:Nt):List G.E→Int→G.Z→G.Y→G.T→Rt:=fun x0 x1 x2 x3 x4=>n [yS 16 x0,yI x1,yR 0 x2,yR 1 x3,yR 3 x4]
def X3x3:=V3x3 (xD ii3 e [1,1,1,0,1,1,1,0] ct3x3 (q3x0 c e))
def B3x4(c:TC0)(n4:Int→List G.E→Int→Int→List G.T→G.Z→G.Y→G.T→Rt)(a11:Int)(a1:List G.E)(a2:Int)(a14:Int)(a13:List G.T)(b0:G.Z)(b108:G.Y)(b106:G.T):Rt:=
 cnd (decide (a14<a11)) (obL [.rc 3,.rc 0] (c 3 [yS 16 a1,yI (IntKind.i64.wrap (a2-(1:Int))),yR 0 b0]) fun(r0:G.T×G.Z×Unit)=>
 chk (Nat.ble ((List.length a13+List.length ([r0.1]:List G.T))*176) 1073741824)<|
 n4 a11 a1 a2 (IntKind.i64.wrap (a14+(1:Int))) (a13++([r0.1]:List G.T)) r0.2.1 b108 b106) (obL [.rc 3] (c 22 [yR 1 b108,yS 3 a13]) fun(r1:G.T×Unit)=>
 some [yR 3 r1.1,yR 0 b0])
def V3x4(n:Nt):Int→List G.E→Int→Int→List G.T→G.Z→G.Y→G.T→Rt:=fun x0 x1 x2 x3 x4 x5 x6 x7=>n [yI x0,yS 16 x1,yI x2,yI x3,yS 3 x4,yR 0 x5,yR 1 x6,yR 3 x7]
def X3x4:=V3x4 (xE ii3 e [1,1,1,0,1,1,1,0,1,1,0,1,0,0] aHU (q3x3 c e))
theorem s3x0:V3x0 (xF ii3 c e)=B3x0 c (X3x1 c e):=by kernel_rfl
theorem s3x1:V3x1 (xA ii3 c e [1,1,0,1,0] ct3x1 (q3x1 c e))=B3x1 c (X3x2 c e):=by kernel_rfl
theorem s3x2:V3x2 (xA ii3 c e [1,1,1,0] ct3x2 (q3x0 c e))=B3x2 c (X3x3 c e):=by kernel_rfl
theorem s3x3:V3x3 (xA ii3 c e [1,1,1,0,1,1,1,0] ct3x3 (q3x0 c e))=B3x3 c (X3x4 c e):=by kernel_rfl
theorem s3x4(n4:Nt):V3x4 (xA ii3 c e [1,1,1,0,1,1,1,0,1,1,0,1,0,0] aHU (lpK U0 aHU n4 (q3x3 c e)))=B3x4 c (V3x4 n4):=by kernel_rfl
def W3x4(c:TC0)(L:Nat):Nat→Int→List G.E→Int→Int→List G.T→G.Z→G.Y→G.T→Rt
 |0=>fun _ _ _ _ _ _ _ _=>none
 |n+1=>B3x4 c (W3x4 c L n)
theorem u3x4(n:Nat):V3x4 (xL ii3 c L [1,1,1,0,1,1,1,0,1,1,0,1,0,0] aHU (q3x3 c (cu c L)) n)=W3x4 c L n:=by
 induction n with
 |zero=>rfl
 |succ n ih=>rw[fO,s3x4];simp only[ih];rfl
theorem w3x4:X3x4 c (cu c L)=W3x4 c L L:=u3x4 c L L
def J3x3(c:TC0)(L:Nat):List G.E→Int→G.Z→G.Y→G.T→Rt:=B3x3 c (W3x4 c L L)
theorem j3x3:X3x3 c (cu c L)=J3x3 c L:=by rw[X3x3,aM,s3x3];simp only[w3x4];rfl
def J3x2(c:TC0)(L:Nat):Int→List G.E→Int→G.Z→G.T→Rt:=B3x2 c (J3x3 c L)
theorem j3x2:X3x2 c (cu c L)=J3x2 c L:=by rw[X3x2,aM,s3x2];simp only[j3x3];rfl
def J3x1(c:TC0)(L:Nat):Bool→Int→List G.E→Int→G.Z→G.T→Rt:=B3x1 c (J3x2 c L)
theorem j3x1:X3x1 c (cu c L)=J3x1 c L:=by rw[X3x1,aM,s3x1];simp only[j3x2];rfl
def F3(c:TC0)(L:Nat):List G.E→Int→G.Z→Rt:=B3x0 c (J3x1 c L)
theorem e3:V3x0 (xF ii3 c (cu c L))=F3 c L:=by rw[s3x0];simp only[j3x1];rfl
theorem c3(a1:List G.E)(a2:Int)(b0:G.Z)(L n:Nat):CTp L (n+1) 3 [yS 16 a1,yI a2,yR 0 b0]=F3 (CTp L n) L a1 a2 b0:=by rw[←e3];exact cg (x:=ii3) (by kernel_rfl) (by kernel_rfl) L n _
def B4x0(c:TC0)(a0:List UInt8):Rt:=
 some [yR 1 (G.Y.mk ([117,115,101,114]:List UInt8) a0)]
def V4x0(n:Nt):List UInt8→Rt:=fun x0=>n [yT x0]
theorem s4x0:V4x0 (xF ii4 c e)=B4x0 c:=by kernel_rfl
def F4(c:TC0)(L:Nat):List UInt8→Rt:=B4x0 c
theorem e4:V4x0 (xF ii4 c (cu c L))=F4 c L:=s4x0 _ _
theorem c4(a0:List UInt8)(L n:Nat):CTp L (n+1) 4 [yT a0]=F4 (CTp L n) L a0:=by rw[←e4];exact cg (x:=ii4) (by kernel_rfl) (by kernel_rfl) L n _
def q7x0(c:TC0)(e:Cu):Kt:=xK ii7
def q7x1(c:TC0)(e:Cu):Kt:=xT ii7 c e [1,1,1] (q7x0 c e)
def q7x2(c:TC0)(e:Cu):Kt:=dD U0 0 (q7x1 c e)
def B7x0(c:TC0)(e1:Int→List G.Q→List G.I→Int→Rt)(a0:G.U)(a1:List G.I):Rt:=
 cnd (decide ((List.length a0.stops:Int)=(0:Int))) (some [yB true]) (e1 (List.length a0.stops:Int) a0.stops a1 (0:Int))
def V7x0(n:Nt):G.U→List G.I→Rt:=fun x0 x1=>n [yR 5 x0,yS 6 x1]
def B7x1(c:TC0)(n1:Int→List G.Q→List G.I→Int→Rt)(a15:Int)(a14:List G.Q)(a1:List G.I)(a16:Int):Rt:=
 cnd (decide (a16<a15)) (ob (idx a14 a16) fun v0=>
 obL [.rc 3] (c 31 [yS 6 a1,yR 1 v0.a0]) fun(r1:G.T×Unit)=>
 obL [.rc 3] (c 31 [yS 6 a1,yR 1 v0.a1]) fun(r2:G.T×Unit)=>
 obL [.bool] (c 32 [yR 3 r1.1,yR 3 r2.1]) fun(r3:Bool×Unit)=>
 cnd (!r3.1) (obL [i6] (c 33 [yR 3 r2.1,yR 3 r1.1]) fun(r4:Int×Unit)=>
 some [yB (decide (r4.1<(0:Int)))]) (n1 a15 a14 a1 (IntKind.i64.wrap (a16+(1:Int))))) (some [yB false])
def V7x1(n:Nt):Int→List G.Q→List G.I→Int→Rt:=fun x0 x1 x2 x3=>n [yI x0,yS 4 x1,yS 6 x2,yI x3]
def X7x1:=V7x1 (xE ii7 e [1,1,0,1,0,0] aHQ (q7x2 c e))
theorem s7x0:V7x0 (xF ii7 c e)=B7x0 c (X7x1 c e):=by kernel_rfl
theorem s7x1(n1:Nt):V7x1 (xA ii7 c e [1,1,0,1,0,0] aHQ (lpK U0 aHQ n1 (q7x2 c e)))=B7x1 c (V7x1 n1):=by kernel_rfl
def aJm(c:TC0)(L:Nat):Nat→Int→List G.Q→List G.I→Int→Rt
 |0=>fun _ _ _ _=>none
 |n+1=>B7x1 c (aJm c L n)
theorem u7x1(n:Nat):V7x1 (xL ii7 c L [1,1,0,1,0,0] aHQ (q7x2 c (cu c L)) n)=aJm c L n:=by
 induction n with
 |zero=>rfl
 |succ n ih=>rw[fO,s7x1];simp only[ih];rfl
theorem w7x1:X7x1 c (cu c L)=aJm c L L:=u7x1 c L L
def F7(c:TC0)(L:Nat):G.U→List G.I→Rt:=B7x0 c (aJm c L L)
theorem e7:V7x0 (xF ii7 c (cu c L))=F7 c L:=by rw[s7x0];simp only[w7x1];rfl
theorem c7(a0:G.U)(a1:List G.I)(L n:Nat):CTp L (n+1) 7 [yR 5 a0,yS 6 a1]=F7 (CTp L n) L a0 a1:=by rw[←e7];exact cg (x:=ii7) (by kernel_rfl) (by kernel_rfl) L n _
def q8x0(c:TC0)(e:Cu):Kt:=xK ii8
def B8x0(c:TC0)(k1:Bool→Rt)(a0:G.T)(a1:G.T):Rt:=
 cnd (decide (a0.kind=a1.kind)) (cnd (decide (a0.name=a1.name)) (obL [.bool] (c 34 [yR 2 a0.value,yR 2 a1.value]) fun(r0:Bool×Unit)=>
 cnd r0.1 (obL [.bool] (c 35 [yS 3 a0.args,yS 3 a1.args]) fun(r1:Bool×Unit)=>
 k1 r1.1) (k1 false)) (k1 false)) (k1 false)
def V8x0(n:Nt):G.T→G.T→Rt:=fun x0 x1=>n [yR 3 x0,yR 3 x1]
def B8x1(c:TC0)(a4:Bool):Rt:=
 some [yB a4]
def V8x1(n:Nt):Bool→Rt:=fun x0=>n [yB x0]
def X8x1:=V8x1 (xD ii8 e [1,1,0] ct8x1 (q8x0 c e))
theorem s8x0:V8x0 (xF ii8 c e)=B8x0 c (X8x1 c e):=by kernel_rfl
theorem s8x1:V8x1 (xA ii8 c e [1,1,0] ct8x1 (q8x0 c e))=B8x1 c:=by kernel_rfl
def J8x1(c:TC0)(L:Nat):Bool→Rt:=B8x1 c
theorem j8x1:X8x1 c (cu c L)=J8x1 c L:=by rw[X8x1,aM,s8x1];rfl
def F8(c:TC0)(L:Nat):G.T→G.T→Rt:=B8x0 c (J8x1 c L)
theorem e8:V8x0 (xF ii8 c (cu c L))=F8 c L:=by rw[s8x0];simp only[j8x1];rfl
theorem c8(a0:G.T)(a1:G.T)(L n:Nat):CTp L (n+1) 8 [yR 3 a0,yR 3 a1]=F8 (CTp L n) L a0 a1:=by rw[←e8];exact cg (x:=ii8) (by kernel_rfl) (by kernel_rfl) L n _
def B9x0(c:TC0)(a0:G.T)(a1:G.T):Rt:=
 obL [i6,i6,i6] (c 36 [yR 3 a0]) fun(r0:Int×Int×Int×Unit)=>
 obL [i6,i6,i6] (c 36 [yR 3 a1]) fun(r1:Int×Int×Int×Unit)=>
 cnd (!decide (r0.1=r1.1)) (obL [i6] (c 37 [yI r0.1,yI r1.1]) fun(r2:Int×Unit)=>
 some [yI r2.1]) (cnd (!decide (r0.2.1=r1.2.1)) (obL [i6] (c 37 [yI r0.2.1,yI r1.2.1]) fun(r3:Int×Unit)=>
 some [yI r3.1]) (cnd (!decide (r0.2.2.1=r1.2.2.1)) (obL [i6] (c 37 [yI r0.2.2.1,yI r1.2.2.1]) fun(r4:Int×Unit)=>
 some [yI r4.1]) (obL [i6] (c 38 [yR 3 a0,yR 3 a1]) fun(r5:Int×Unit)=>
 some [yI r5.1])))
def V9x0(n:Nt):G.T→G.T→Rt:=fun x0 x1=>n [yR 3 x0,yR 3 x1]
theorem s9x0:V9x0 (xF ii9 c e)=B9x0 c:=by kernel_rfl
def F9(c:TC0)(L:Nat):G.T→G.T→Rt:=B9x0 c
theorem e9:V9x0 (xF ii9 c (cu c L))=F9 c L:=s9x0 _ _
theorem c9(a0:G.T)(a1:G.T)(L n:Nat):CTp L (n+1) 9 [yR 3 a0,yR 3 a1]=F9 (CTp L n) L a0 a1:=by rw[←e9];exact cg (x:=ii9) (by kernel_rfl) (by kernel_rfl) L n _
def q12x0(c:TC0)(e:Cu):Kt:=xK ii12
def q12x1(c:TC0)(e:Cu):Kt:=xT ii12 c e [1,1,1,1] (q12x0 c e)
def q12x2(c:TC0)(e:Cu):Kt:=dD U0 0 (q12x1 c e)
def B12x0(c:TC0)(e1:List G.O→Int→List G.E→Rt):Rt:=
 obL [zS 2] (c 41 []) fun(r0:List G.O×Unit)=>
 e1 r0.1 (0:Int) ([]:List G.E)
def V12x0(n:Nt):Rt:=n []
def aFM(c:TC0)(n1:List G.O→Int→List G.E→Rt)(a2:List G.O)(a3:Int)(a1:List G.E):Rt:=
 cnd (decide (a3<(List.length a2:Int))) (ob (idx a2 a3) fun v0=>
 obL [.rc 16] (c 42 [yS 16 a1,yR 2 v0]) fun(r1:G.E×Unit)=>
 chk (Nat.ble ((List.length a1+List.length ([r1.1]:List G.E))*568) 1073741824)<|
 n1 a2 (IntKind.i64.wrap (a3+(1:Int))) (a1++([r1.1]:List G.E))) (obL [.rc 1] (c 43 [yT ([117,115,101,114,45,112,97,99,107,97,103,101]:List UInt8)]) fun(r2:G.Y×Unit)=>
 obL [zS 1] (c 44 []) fun(r3:List G.Y×Unit)=>
 chk (Nat.ble ((List.length a1+List.length ([(G.E.mk (1:Int) r2.1 (G.A.mk ([117,115,101,114]:List UInt8) r3.1) (G.M.mk (G.Y.mk ([]:List UInt8) ([]:List UInt8)) ([]:List G.Y) false (G.T.mk (0:Int) (G.Y.mk ([]:List UInt8) ([]:List UInt8)) (G.O.mk (0:Int) ([]:List UInt8) ([]:List UInt8) (G.Y.mk ([]:List UInt8) ([]:List UInt8)) ([]:List UInt8) ([]:List G.O)) ([]:List G.T))) ([]:List G.F) ([]:List G.T) ([]:List (List G.N)) ([]:List G.E) (G.B.mk (G.Y.mk ([]:List UInt8) ([]:List UInt8)) ([]:List G.D)) ([]:List G.U) ([]:List G.Y) ([]:List G.Y) ([]:List UInt8) (0:Int))]:List G.E))*568) 1073741824)<|
 some [yS 16 (a1++([(G.E.mk (1:Int) r2.1 (G.A.mk ([117,115,101,114]:List UInt8) r3.1) (G.M.mk (G.Y.mk ([]:List UInt8) ([]:List UInt8)) ([]:List G.Y) false (G.T.mk (0:Int) (G.Y.mk ([]:List UInt8) ([]:List UInt8)) (G.O.mk (0:Int) ([]:List UInt8) ([]:List UInt8) (G.Y.mk ([]:List UInt8) ([]:List UInt8)) ([]:List UInt8) ([]:List G.O)) ([]:List G.T))) ([]:List G.F) ([]:List G.T) ([]:List (List G.N)) ([]:List G.E) (G.B.mk (G.Y.mk ([]:List UInt8) ([]:List UInt8)) ([]:List G.D)) ([]:List G.U) ([]:List G.Y) ([]:List G.Y) ([]:List UInt8) (0:Int))]:List G.E))])
def V12x1(n:Nt):List G.O→Int→List G.E→Rt:=fun x0 x1 x2=>n [yS 2 x0,yI x1,yS 16 x2]
def X12x1:=V12x1 (xE ii12 e [1,1,1,0,1,0,0] zU (q12x2 c e))
theorem s12x0:V12x0 (xF ii12 c e)=B12x0 c (X12x1 c e):=by kernel_rfl
theorem s12x1(n1:Nt):V12x1 (xA ii12 c e [1,1,1,0,1,0,0] zU (lpK U0 zU n1 (q12x2 c e)))=aFM c (V12x1 n1):=by kernel_rfl
def pP(c:TC0)(L:Nat):Nat→List G.O→Int→List G.E→Rt
 |0=>fun _ _ _=>none
 |n+1=>aFM c (pP c L n)
theorem u12x1(n:Nat):V12x1 (xL ii12 c L [1,1,1,0,1,0,0] zU (q12x2 c (cu c L)) n)=pP c L n:=by
 induction n with
 |zero=>rfl
 |succ n ih=>rw[fO,s12x1];simp only[ih];rfl
theorem w12x1:X12x1 c (cu c L)=pP c L L:=u12x1 c L L
def F12(c:TC0)(L:Nat):Rt:=B12x0 c (pP c L L)
theorem e12:V12x0 (xF ii12 c (cu c L))=F12 c L:=by rw[s12x0];simp only[w12x1];rfl
theorem c12(L n:Nat):CTp L (n+1) 12 []=F12 (CTp L n) L:=by rw[←e12];exact cg (x:=ii12) (by kernel_rfl) (by kernel_rfl) L n _
def q14x0(c:TC0)(e:Cu):Kt:=xK ii14
def q14x1(c:TC0)(e:Cu):Kt:=xT ii14 c e [1,1] (q14x0 c e)
def B14x0(c:TC0)(k1:Bool→Int→G.Z→Rt)(a1:Int)(b0:G.Z):Rt:=
 cnd (decide ((List.length b0.b:Int)≤b0.pos)) (k1 true a1 b0) (k1 (decide (a1<(1:Int))) a1 b0)
def V14x0(n:Nt):Int→G.Z→Rt:=fun x0 x1=>n [yI x0,yR 0 x1]
def B14x1(c:TC0)(a18:Bool)(a1:Int)(b0:G.Z):Rt:=
 cnd a18 (some [yI (0:Int),yR 0 b0]) (ob (idx b0.b (IntKind.i64.wrap ((IntKind.i64.wrap (b0.pos+(1:Int)))-(1:Int)))) fun v0=>
 chk (!decide (a1=0))<|
 some [yI (Int.tmod (IntKind.i64.wrap v0) a1),yR 0 (G.Z.mk b0.b (IntKind.i64.wrap (b0.pos+(1:Int))))])
def V14x1(n:Nt):Bool→Int→G.Z→Rt:=fun x0 x1 x2=>n [yB x0,yI x1,yR 0 x2]
def X14x1:=V14x1 (xD ii14 e [1,0,1,0] aH5 (q14x1 c e))
theorem s14x0:V14x0 (xF ii14 c e)=B14x0 c (X14x1 c e):=by kernel_rfl
theorem s14x1:V14x1 (xA ii14 c e [1,0,1,0] aH5 (q14x1 c e))=B14x1 c:=by kernel_rfl
def J14x1(c:TC0)(L:Nat):Bool→Int→G.Z→Rt:=B14x1 c
theorem j14x1:X14x1 c (cu c L)=J14x1 c L:=by rw[X14x1,aM,s14x1];rfl
def F14(c:TC0)(L:Nat):Int→G.Z→Rt:=B14x0 c (J14x1 c L)
theorem e14:V14x0 (xF ii14 c (cu c L))=F14 c L:=by rw[s14x0];simp only[j14x1];rfl
theorem c14(a1:Int)(b0:G.Z)(L n:Nat):CTp L (n+1) 14 [yI a1,yR 0 b0]=F14 (CTp L n) L a1 b0:=by rw[←e14];exact cg (x:=ii14) (by kernel_rfl) (by kernel_rfl) L n _
def B15x0(c:TC0)(b0:G.Z):Rt:=
 obL [i6,.rc 0] (c 14 [yI (3:Int),yR 0 b0]) fun(r0:Int×G.Z×Unit)=>
 ob (slc ([120,121,122]:List UInt8) r0.1 (List.length ([120,121,122]:List UInt8):Int)) fun v1=>
 ob (slc v1 (0:Int) (1:Int)) fun v2=>
 obL [.rc 3] (c 10 [yT v2]) fun(r3:G.T×Unit)=>
 some [yR 3 r3.1,yR 0 r0.2.1]
def V15x0(n:Nt):G.Z→Rt:=fun x0=>n [yR 0 x0]
theorem s15x0:V15x0 (xF ii15 c e)=B15x0 c:=by kernel_rfl
def F15(c:TC0)(L:Nat):G.Z→Rt:=B15x0 c
theorem e15:V15x0 (xF ii15 c (cu c L))=F15 c L:=s15x0 _ _
theorem c15(b0:G.Z)(L n:Nat):CTp L (n+1) 15 [yR 0 b0]=F15 (CTp L n) L b0:=by rw[←e15];exact cg (x:=ii15) (by kernel_rfl) (by kernel_rfl) L n _
def q16x0(c:TC0)(e:Cu):Kt:=xK vR
def q16x1(c:TC0)(e:Cu):Kt:=xT vR c e [1,1,1] (q16x0 c e)
def q16x2(c:TC0)(e:Cu):Kt:=xT vR c e [1,1,1,0,1] (q16x0 c e)
def aGx(c:TC0)(e:Cu):Kt:=dD U0 0 (q16x2 c e)
def q16x4(c:TC0)(e:Cu):Kt:=xT vR c e [1,1,1,0,0,1,0,1,1,1,1,1,0,1,1,1,1,1,1,1,1,1,1,1,1,1,1,0,0,1,1,1] (aGx c e)
def q16x5(c:TC0)(e:Cu):Kt:=dD U0 1 (q16x4 c e)
def B16x0(c:TC0)(k1:Bool→Int→Int→G.Z→G.O→Rt)(a1:Int)(b0:G.Z):Rt:=
 obL [i6,.rc 0] (c 14 [yI (14:Int),yR 0 b0]) fun(r0:Int×G.Z×Unit)=>
 cnd (decide (a1<(1:Int))) (k1 (decide ((9:Int)<r0.1)) r0.1 a1 r0.2.1 (G.O.mk (0:Int) ([]:List UInt8) ([]:List UInt8) (G.Y.mk ([]:List UInt8) ([]:List UInt8)) ([]:List UInt8) ([]:List G.O))) (k1 false r0.1 a1 r0.2.1 (G.O.mk (0:Int) ([]:List UInt8) ([]:List UInt8) (G.Y.mk ([]:List UInt8) ([]:List UInt8)) ([]:List UInt8) ([]:List G.O)))
def V16x0(n:Nt):Int→G.Z→Rt:=fun x0 x1=>n [yI x0,yR 0 x1]
def B16x1(c:TC0)(k2:Int→Int→G.Z→G.O→Rt)(a17:Bool)(a5:Int)(a1:Int)(b0:G.Z)(b104:G.O):Rt:=
 cnd a17 (k2 (IntKind.i64.wrap (a5-(8:Int))) a1 b0 b104) (k2 a5 a1 b0 b104)
def V16x1(n:Nt):Bool→Int→Int→G.Z→G.O→Rt:=fun x0 x1 x2 x3 x4=>n [yB x0,yI x1,yI x2,yR 0 x3,yR 2 x4]
def X16x1:=V16x1 (xD vR e [1,1,0,1,0] aH4 (q16x1 c e))
def B16x2(c:TC0)(k3:Bool→Int→Int→G.Z→G.O→Rt)(a5:Int)(a1:Int)(b0:G.Z)(b104:G.O):Rt:=
 cnd (decide (a5=(0:Int))) (obL [.rc 2] (c 48 []) fun(r0:G.O×Unit)=>
 some [yR 2 r0.1,yR 0 b0]) (cnd (decide (a5=(1:Int))) (obL [.rc 2] (c 49 []) fun(r1:G.O×Unit)=>
 some [yR 2 r1.1,yR 0 b0]) (cnd (decide (a5=(2:Int))) (k3 (decide (a5=(2:Int))) a5 a1 b0 b104) (k3 (decide (a5=(3:Int))) a5 a1 b0 b104)))
def V16x2(n:Nt):Int→Int→G.Z→G.O→Rt:=fun x0 x1 x2 x3=>n [yI x0,yI x1,yR 0 x2,yR 2 x3]
def X16x2:=V16x2 (xD vR e [1,1,1,0] aH3 (q16x0 c e))
def B16x3(c:TC0)(k4:Bool→Int→G.Z→G.O→Rt)(a27:Bool)(a20:Int)(a1:Int)(b0:G.Z)(b104:G.O):Rt:=
 cnd a27 (obL [i6,.rc 0] (c 14 [yI (7:Int),yR 0 b0]) fun(r0:Int×G.Z×Unit)=>
 obL [.rc 2] (c 50 [yI (IntKind.i64.wrap (r0.1-(3:Int)))]) fun(r1:G.O×Unit)=>
 some [yR 2 r1.1,yR 0 r0.2.1]) (cnd (decide (a20=(4:Int))) (obL [.rc 2] (c 51 [yT ([49]:List UInt8),yT ([50]:List UInt8)]) fun(r2:G.O×Unit)=>
 some [yR 2 r2.1,yR 0 b0]) (cnd (decide (a20=(5:Int))) (obL [.rc 2] (c 51 [yT ([45,53]:List UInt8),yT ([51]:List UInt8)]) fun(r3:G.O×Unit)=>
 some [yR 2 r3.1,yR 0 b0]) (cnd (decide (a20=(6:Int))) (obL [i6,.rc 0] (c 14 [yI (3:Int),yR 0 b0]) fun(r4:Int×G.Z×Unit)=>
 ob (slc ([97,98,99]:List UInt8) r4.1 (List.length ([97,98,99]:List UInt8):Int)) fun v5=>
 ob (slc v5 (0:Int) (1:Int)) fun v6=>
 obL [.rc 1] (c 4 [yT v6]) fun(r7:G.Y×Unit)=>
 obL [.rc 2] (c 52 [yR 1 r7.1]) fun(r8:G.O×Unit)=>
 some [yR 2 r8.1,yR 0 r4.2.1]) (cnd (decide (a20=(7:Int))) (obL [i6,.rc 0] (c 14 [yI (3:Int),yR 0 b0]) fun(r9:Int×G.Z×Unit)=>
 ob (slc ([112,113]:List UInt8) (0:Int) r9.1) fun v10=>
 obL [.rc 2] (c 53 [yT v10]) fun(r11:G.O×Unit)=>
 some [yR 2 r11.1,yR 0 r9.2.1]) (cnd (decide (a20=(8:Int))) (obL [.rc 2] (c 50 [yI (0:Int)]) fun(r12:G.O×Unit)=>
 some [yR 2 r12.1,yR 0 b0]) (cnd (decide (a20=(9:Int))) (obL [.rc 2] (c 50 [yI (1:Int)]) fun(r13:G.O×Unit)=>
 some [yR 2 r13.1,yR 0 b0]) (cnd (decide (a20=(10:Int))) (k4 (decide (a20=(10:Int))) a1 b0 b104) (cnd (decide (a20=(11:Int))) (k4 (decide (a20=(11:Int))) a1 b0 b104) (k4 (decide (a20=(12:Int))) a1 b0 b104)))))))))
def V16x3(n:Nt):Bool→Int→Int→G.Z→G.O→Rt:=fun x0 x1 x2 x3 x4=>n [yB x0,yI x1,yI x2,yR 0 x3,yR 2 x4]
def X16x3:=V16x3 (xD vR e [1,1,1,0,0,1,0,1,1,1,1,1,0] aH2 (aGx c e))
def B16x4(c:TC0)(e5:Int→Int→Int→List G.O→G.Z→G.O→Rt)(a60:Bool)(a1:Int)(b0:G.Z)(b104:G.O):Rt:=
 cnd a60 (obL [i6,.rc 0] (c 14 [yI (4:Int),yR 0 b0]) fun(r0:Int×G.Z×Unit)=>
 e5 r0.1 a1 (0:Int) ([]:List G.O) r0.2.1 b104) (obL [.rc 2,.rc 0] (c 16 [yI (IntKind.i64.wrap (a1-(1:Int))),yR 0 b0]) fun(r1:G.O×G.Z×Unit)=>
 obL [.rc 2,.rc 0] (c 16 [yI (IntKind.i64.wrap (a1-(1:Int))),yR 0 r1.2.1]) fun(r2:G.O×G.Z×Unit)=>
 obL [.rc 2] (c 54 [yR 2 r1.1,yR 2 r2.1]) fun(r3:G.O×Unit)=>
 some [yR 2 r3.1,yR 0 r2.2.1])
def V16x4(n:Nt):Bool→Int→G.Z→G.O→Rt:=fun x0 x1 x2 x3=>n [yB x0,yI x1,yR 0 x2,yR 2 x3]
def X16x4:=V16x4 (xD vR e [1,1,1,0,0,1,0,1,1,1,1,1,0,1,1,1,1,1,1,1,1,1,1,1,1,1,1,0] aH1 (aGx c e))
def B16x5(c:TC0)(n5:Int→Int→Int→List G.O→G.Z→G.O→Rt)(a7:Int)(a1:Int)(a8:Int)(a6:List G.O)(b0:G.Z)(b104:G.O):Rt:=
 cnd (decide (a8<a7)) (obL [.rc 2,.rc 0] (c 16 [yI (IntKind.i64.wrap (a1-(1:Int))),yR 0 b0]) fun(r0:G.O×G.Z×Unit)=>
 chk (Nat.ble ((List.length a6+List.length ([r0.1]:List G.O))*112) 1073741824)<|
 n5 a7 a1 (IntKind.i64.wrap (a8+(1:Int))) (a6++([r0.1]:List G.O)) r0.2.1 b104) (obL [.rc 2] (c 55 [yS 2 a6]) fun(r1:G.O×Unit)=>
 some [yR 2 r1.1,yR 0 b0])
def V16x5(n:Nt):Int→Int→Int→List G.O→G.Z→G.O→Rt:=fun x0 x1 x2 x3 x4 x5=>n [yI x0,yI x1,yI x2,yS 2 x3,yR 0 x4,yR 2 x5]
def X16x5:=V16x5 (xE vR e [1,1,1,0,0,1,0,1,1,1,1,1,0,1,1,1,1,1,1,1,1,1,1,1,1,1,1,0,0,1,1,0,1,0,0] zT (q16x5 c e))
theorem s16x0:V16x0 (xF vR c e)=B16x0 c (X16x1 c e):=by kernel_rfl
theorem s16x1:V16x1 (xA vR c e [1,1,0,1,0] aH4 (q16x1 c e))=B16x1 c (X16x2 c e):=by kernel_rfl
theorem s16x2:V16x2 (xA vR c e [1,1,1,0] aH3 (q16x0 c e))=B16x2 c (X16x3 c e):=by kernel_rfl
theorem s16x3:V16x3 (xA vR c e [1,1,1,0,0,1,0,1,1,1,1,1,0] aH2 (aGx c e))=B16x3 c (X16x4 c e):=by kernel_rfl
theorem s16x4:V16x4 (xA vR c e [1,1,1,0,0,1,0,1,1,1,1,1,0,1,1,1,1,1,1,1,1,1,1,1,1,1,1,0] aH1 (aGx c e))=B16x4 c (X16x5 c e):=by kernel_rfl
theorem s16x5(n5:Nt):V16x5 (xA vR c e [1,1,1,0,0,1,0,1,1,1,1,1,0,1,1,1,1,1,1,1,1,1,1,1,1,1,1,0,0,1,1,0,1,0,0] zT (lpK U0 zT n5 (q16x5 c e)))=B16x5 c (V16x5 n5):=by kernel_rfl
def aCA(c:TC0)(L:Nat):Nat→Int→Int→Int→List G.O→G.Z→G.O→Rt
 |0=>fun _ _ _ _ _ _=>none
 |n+1=>B16x5 c (aCA c L n)
theorem u16x5(n:Nat):V16x5 (xL vR c L [1,1,1,0,0,1,0,1,1,1,1,1,0,1,1,1,1,1,1,1,1,1,1,1,1,1,1,0,0,1,1,0,1,0,0] zT (q16x5 c (cu c L)) n)=aCA c L n:=by
 induction n with
 |zero=>rfl
 |succ n ih=>rw[fO,s16x5];simp only[ih];rfl
theorem w16x5:X16x5 c (cu c L)=aCA c L L:=u16x5 c L L
def aFI(c:TC0)(L:Nat):Bool→Int→G.Z→G.O→Rt:=B16x4 c (aCA c L L)
theorem j16x4:X16x4 c (cu c L)=aFI c L:=by rw[X16x4,aM,s16x4];simp only[w16x5];rfl
def J16x3(c:TC0)(L:Nat):Bool→Int→Int→G.Z→G.O→Rt:=B16x3 c (aFI c L)
theorem j16x3:X16x3 c (cu c L)=J16x3 c L:=by rw[X16x3,aM,s16x3];simp only[j16x4];rfl
def aJu(c:TC0)(L:Nat):Int→Int→G.Z→G.O→Rt:=B16x2 c (J16x3 c L)
theorem j16x2:X16x2 c (cu c L)=aJu c L:=by rw[X16x2,aM,s16x2];simp only[j16x3];rfl
def aFJ(c:TC0)(L:Nat):Bool→Int→Int→G.Z→G.O→Rt:=B16x1 c (aJu c L)
theorem j16x1:X16x1 c (cu c L)=aFJ c L:=by rw[X16x1,aM,s16x1];simp only[j16x2];rfl
def F16(c:TC0)(L:Nat):Int→G.Z→Rt:=B16x0 c (aFJ c L)
theorem e16:V16x0 (xF vR c (cu c L))=F16 c L:=by rw[s16x0];simp only[j16x1];rfl
theorem c16(a1:Int)(b0:G.Z)(L n:Nat):CTp L (n+1) 16 [yI a1,yR 0 b0]=F16 (CTp L n) L a1 b0:=by rw[←e16];exact cg (x:=vR) (by kernel_rfl) (by kernel_rfl) L n _
end
end Go.TV
namespace Go.TV
open Go.AI Go.PI Go.Proofs
set_option maxRecDepth 20000
noncomputable section
variable(c:TC0)(e:Cu)(L:Nat)
def B18x0(c:TC0):Rt:=
 some [⟨(.sl .str),([([99,97,114]:List UInt8),([99,100,114]:List UInt8),([99,111,110,115]:List UInt8),([99,111,110,115,112]:List UInt8),([110,111,116]:List UInt8),([101,113,117,97,108]:List UInt8),([105,102]:List UInt8),([98,105,110,97,114,121,45,43]:List UInt8),([60]:List UInt8),([105,110,116,101,103,101,114,112]:List UInt8),([108,101,110]:List UInt8),([98,105,110,97,114,121,45,97,112,112,101,110,100]:List UInt8),([114,101,118]:List UInt8),([116,114,117,101,45,108,105,115,116,112]:List UInt8),([110,97,116,112]:List UInt8),([112,111,115,112]:List UInt8),([117,110,97,114,121,45,45]:List UInt8),([98,105,110,97,114,121,45,42]:List UInt8),([105,109,112,108,105,101,115]:List UInt8),([115,121,109,98,111,108,112]:List UInt8),([114,97,116,105,111,110,97,108,112]:List UInt8),([102,105,120]:List UInt8),([105,102,102]:List UInt8),([110,102,105,120]:List UInt8),([122,112]:List UInt8)]:List (List UInt8))⟩]
def V18x0(n:Nt):Rt:=n []
theorem s18x0:V18x0 (xF ii18 c e)=B18x0 c:=by kernel_rfl
def F18(c:TC0)(L:Nat):Rt:=B18x0 c
theorem e18:V18x0 (xF ii18 c (cu c L))=F18 c L:=s18x0 _ _
theorem c18(L n:Nat):CTp L (n+1) 18 []=F18 (CTp L n) L:=by rw[←e18];exact cg (x:=ii18) (by kernel_rfl) (by kernel_rfl) L n _
def B19x0(c:TC0):Rt:=
 some [⟨(.sl .str),([([100,117,98]:List UInt8),([115,97,109,101,45,108,101,110]:List UInt8),([112,97,105,114,115]:List UInt8),([100,117,98,115]:List UInt8),([116,114,101,101]:List UInt8),([101,118,101,110,115]:List UInt8),([111,100,100,115]:List UInt8),([120,111,114,50]:List UInt8)]:List (List UInt8))⟩]
def V19x0(n:Nt):Rt:=n []
theorem s19x0:V19x0 (xF ii19 c e)=B19x0 c:=by kernel_rfl
def F19(c:TC0)(L:Nat):Rt:=B19x0 c
theorem e19:V19x0 (xF ii19 c (cu c L))=F19 c L:=s19x0 _ _
theorem c19(L n:Nat):CTp L (n+1) 19 []=F19 (CTp L n) L:=by rw[←e19];exact cg (x:=ii19) (by kernel_rfl) (by kernel_rfl) L n _
def B21x0(c:TC0)(a0:List G.E)(a1:G.Y):Rt:=
 obL [i6,.bool] (c 56 [yR 1 a1]) fun(r0:Int×Bool×Unit)=>
 cnd r0.2.1 (some [yI r0.1,yB true]) (obL [.rc 8,.bool] (c 57 [yS 16 a0,yR 1 a1]) fun(r1:G.F×Bool×Unit)=>
 cnd (!r1.2.1) (some [yI (0:Int),yB false]) (some [yI (List.length r1.1.params:Int),yB true]))
def V21x0(n:Nt):List G.E→G.Y→Rt:=fun x0 x1=>n [yS 16 x0,yR 1 x1]
theorem s21x0:V21x0 (xF ii21 c e)=B21x0 c:=by kernel_rfl
def F21(c:TC0)(L:Nat):List G.E→G.Y→Rt:=B21x0 c
theorem e21:V21x0 (xF ii21 c (cu c L))=F21 c L:=s21x0 _ _
theorem c21(a0:List G.E)(a1:G.Y)(L n:Nat):CTp L (n+1) 21 [yS 16 a0,yR 1 a1]=F21 (CTp L n) L a0 a1:=by rw[←e21];exact cg (x:=ii21) (by kernel_rfl) (by kernel_rfl) L n _
def q31x0(c:TC0)(e:Cu):Kt:=xK ii31
def q31x1(c:TC0)(e:Cu):Kt:=xT ii31 c e [1,1] (q31x0 c e)
def q31x2(c:TC0)(e:Cu):Kt:=dD U0 0 (q31x1 c e)
def B31x0(c:TC0)(e1:Int→List G.I→Int→G.Y→G.T→Rt)(a0:List G.I)(a1:G.Y):Rt:=
 e1 (List.length a0:Int) a0 (0:Int) a1 (G.T.mk (0:Int) (G.Y.mk ([]:List UInt8) ([]:List UInt8)) (G.O.mk (0:Int) ([]:List UInt8) ([]:List UInt8) (G.Y.mk ([]:List UInt8) ([]:List UInt8)) ([]:List UInt8) ([]:List G.O)) ([]:List G.T))
def V31x0(n:Nt):List G.I→G.Y→Rt:=fun x0 x1=>n [yS 6 x0,yR 1 x1]
def B31x1(c:TC0)(n1:Int→List G.I→Int→G.Y→G.T→Rt)(a8:Int)(a7:List G.I)(a9:Int)(b103:G.Y)(b104:G.T):Rt:=
 cnd (decide (a9<a8)) (ob (idx a7 a9) fun v0=>
 cnd (decide (v0.var=b103)) (some [yR 3 v0.term]) (n1 a8 a7 (IntKind.i64.wrap (a9+(1:Int))) b103 b104)) (obL [.rc 3] (c 70 [yR 1 b103]) fun(r1:G.T×Unit)=>
 some [yR 3 r1.1])
def V31x1(n:Nt):Int→List G.I→Int→G.Y→G.T→Rt:=fun x0 x1 x2 x3 x4=>n [yI x0,yS 6 x1,yI x2,yR 1 x3,yR 3 x4]
def X31x1:=V31x1 (xE ii31 e [1,0,1,0,0] zR (q31x2 c e))
theorem s31x0:V31x0 (xF ii31 c e)=B31x0 c (X31x1 c e):=by kernel_rfl
theorem s31x1(n1:Nt):V31x1 (xA ii31 c e [1,0,1,0,0] zR (lpK U0 zR n1 (q31x2 c e)))=B31x1 c (V31x1 n1):=by kernel_rfl
def aCz(c:TC0)(L:Nat):Nat→Int→List G.I→Int→G.Y→G.T→Rt
 |0=>fun _ _ _ _ _=>none
 |n+1=>B31x1 c (aCz c L n)
theorem u31x1(n:Nat):V31x1 (xL ii31 c L [1,0,1,0,0] zR (q31x2 c (cu c L)) n)=aCz c L n:=by
 induction n with
 |zero=>rfl
 |succ n ih=>rw[fO,s31x1];simp only[ih];rfl
theorem w31x1:X31x1 c (cu c L)=aCz c L L:=u31x1 c L L
def F31(c:TC0)(L:Nat):List G.I→G.Y→Rt:=B31x0 c (aCz c L L)
theorem e31:V31x0 (xF ii31 c (cu c L))=F31 c L:=by rw[s31x0];simp only[w31x1];rfl
theorem c31(a0:List G.I)(a1:G.Y)(L n:Nat):CTp L (n+1) 31 [yS 6 a0,yR 1 a1]=F31 (CTp L n) L a0 a1:=by rw[←e31];exact cg (x:=ii31) (by kernel_rfl) (by kernel_rfl) L n _
def q32x0(c:TC0)(e:Cu):Kt:=xK ii32
def B32x0(c:TC0)(k1:Bool→Rt)(a0:G.T)(a1:G.T):Rt:=
 cnd (decide (a0.kind=a1.kind)) (cnd (decide (a0.name=a1.name)) (obL [.bool] (c 71 [yR 2 a0.value,yR 2 a1.value]) fun(r0:Bool×Unit)=>
 cnd r0.1 (obL [.bool] (c 72 [yS 3 a0.args,yS 3 a1.args]) fun(r1:Bool×Unit)=>
 k1 r1.1) (k1 false)) (k1 false)) (k1 false)
def V32x0(n:Nt):G.T→G.T→Rt:=fun x0 x1=>n [yR 3 x0,yR 3 x1]
def B32x1(c:TC0)(a4:Bool):Rt:=
 some [yB a4]
def V32x1(n:Nt):Bool→Rt:=fun x0=>n [yB x0]
def X32x1:=V32x1 (xD ii32 e [1,1,0] aHZ (q32x0 c e))
theorem s32x0:V32x0 (xF ii32 c e)=B32x0 c (X32x1 c e):=by kernel_rfl
theorem s32x1:V32x1 (xA ii32 c e [1,1,0] aHZ (q32x0 c e))=B32x1 c:=by kernel_rfl
def J32x1(c:TC0)(L:Nat):Bool→Rt:=B32x1 c
theorem j32x1:X32x1 c (cu c L)=J32x1 c L:=by rw[X32x1,aM,s32x1];rfl
def F32(c:TC0)(L:Nat):G.T→G.T→Rt:=B32x0 c (J32x1 c L)
theorem e32:V32x0 (xF ii32 c (cu c L))=F32 c L:=by rw[s32x0];simp only[j32x1];rfl
theorem c32(a0:G.T)(a1:G.T)(L n:Nat):CTp L (n+1) 32 [yR 3 a0,yR 3 a1]=F32 (CTp L n) L a0 a1:=by rw[←e32];exact cg (x:=ii32) (by kernel_rfl) (by kernel_rfl) L n _
def q33x0(c:TC0)(e:Cu):Kt:=xK ii33
def q33x1(c:TC0)(e:Cu):Kt:=xT ii33 c e [1,1,1] (q33x0 c e)
def aJI(c:TC0)(k1:Int→G.T→G.T→Rt)(a0:G.T)(a1:G.T):Rt:=
 obL [.rc 19] (c 73 [yR 3 a0,yR 19 (G.Arr3Int.mk (0:Int) (0:Int) (0:Int))]) fun(r0:G.Arr3Int×Unit)=>
 obL [.rc 19] (c 73 [yR 3 a1,yR 19 (G.Arr3Int.mk (0:Int) (0:Int) (0:Int))]) fun(r1:G.Arr3Int×Unit)=>
 cnd (decide (r0.1.a0<r1.1.a0)) (k1 (-1:Int) a0 a1) (cnd (decide (r1.1.a0<r0.1.a0)) (k1 (1:Int) a0 a1) (cnd (decide (r0.1.a1<r1.1.a1)) (k1 (-1:Int) a0 a1) (cnd (decide (r1.1.a1<r0.1.a1)) (k1 (1:Int) a0 a1) (cnd (decide (r0.1.a2<r1.1.a2)) (k1 (-1:Int) a0 a1) (cnd (decide (r1.1.a2<r0.1.a2)) (k1 (1:Int) a0 a1) (k1 (0:Int) a0 a1))))))
def V33x0(n:Nt):G.T→G.T→Rt:=fun x0 x1=>n [yR 3 x0,yR 3 x1]
def aCC(c:TC0)(a7:Int)(b102:G.T)(b103:G.T):Rt:=
 cnd (!decide (a7=(0:Int))) (some [yI a7]) (obL [i6] (c 74 [yR 3 b102,yR 3 b103]) fun(r0:Int×Unit)=>
 some [yI r0.1])
def V33x1(n:Nt):Int→G.T→G.T→Rt:=fun x0 x1 x2=>n [yI x0,yR 3 x1,yR 3 x2]
def X33x1:=V33x1 (xD ii33 e [1,1,0,1,0] aHY (q33x1 c e))
theorem s33x0:V33x0 (xF ii33 c e)=aJI c (X33x1 c e):=by kernel_rfl
theorem s33x1:V33x1 (xA ii33 c e [1,1,0,1,0] aHY (q33x1 c e))=aCC c:=by kernel_rfl
def eB(c:TC0)(L:Nat):Int→G.T→G.T→Rt:=aCC c
theorem j33x1:X33x1 c (cu c L)=eB c L:=by rw[X33x1,aM,s33x1];rfl
def F33(c:TC0)(L:Nat):G.T→G.T→Rt:=aJI c (eB c L)
theorem e33:V33x0 (xF ii33 c (cu c L))=F33 c L:=by rw[s33x0];simp only[j33x1];rfl
theorem c33(a0:G.T)(a1:G.T)(L n:Nat):CTp L (n+1) 33 [yR 3 a0,yR 3 a1]=F33 (CTp L n) L a0 a1:=by rw[←e33];exact cg (x:=ii33) (by kernel_rfl) (by kernel_rfl) L n _
def q34x0(c:TC0)(e:Cu):Kt:=xK aFX
def q34x1(c:TC0)(e:Cu):Kt:=xT aFX c e [1,1] (q34x0 c e)
def q34x2(c:TC0)(e:Cu):Kt:=xT aFX c e [1,1,1] (q34x0 c e)
def q34x3(c:TC0)(e:Cu):Kt:=dD U0 0 (q34x2 c e)
def B34x0(c:TC0)(k1:Bool→G.O→G.O→Rt)(a0:G.O)(a1:G.O):Rt:=
 cnd (!decide (a0.kind=a1.kind)) (k1 true a0 a1) (cnd (!decide (a0.num=a1.num)) (k1 true a0 a1) (cnd (!decide (a0.den=a1.den)) (k1 true a0 a1) (cnd (!decide (a0.sym=a1.sym)) (k1 true a0 a1) (cnd (!decide (a0.text=a1.text)) (k1 true a0 a1) (k1 (!decide ((List.length a0.pair:Int)=(List.length a1.pair:Int))) a0 a1)))))
def V34x0(n:Nt):G.O→G.O→Rt:=fun x0 x1=>n [yR 2 x0,yR 2 x1]
def B34x1(c:TC0)(e2:Int→G.O→G.O→Rt)(a47:Bool)(b102:G.O)(b103:G.O):Rt:=
 cnd a47 (some [yB false]) (e2 (0:Int) b102 b103)
def V34x1(n:Nt):Bool→G.O→G.O→Rt:=fun x0 x1 x2=>n [yB x0,yR 2 x1,yR 2 x2]
def X34x1:=V34x1 (xD aFX e [1,0,1,0] aHX (q34x1 c e))
def B34x2(c:TC0)(n2:Int→G.O→G.O→Rt)(a5:Int)(b102:G.O)(b103:G.O):Rt:=
 cnd (decide (a5<(List.length b102.pair:Int))) (ob (idx b102.pair a5) fun v0=>
 ob (idx b103.pair a5) fun v1=>
 obL [.bool] (c 34 [yR 2 v0,yR 2 v1]) fun(r2:Bool×Unit)=>
 cnd (!r2.1) (some [yB false]) (n2 (IntKind.i64.wrap (a5+(1:Int))) b102 b103)) (some [yB true])
def V34x2(n:Nt):Int→G.O→G.O→Rt:=fun x0 x1 x2=>n [yI x0,yR 2 x1,yR 2 x2]
def X34x2:=V34x2 (xE aFX e [1,1,0,1,0,0] zQ (q34x3 c e))
theorem s34x0:V34x0 (xF aFX c e)=B34x0 c (X34x1 c e):=by kernel_rfl
theorem s34x1:V34x1 (xA aFX c e [1,0,1,0] aHX (q34x1 c e))=B34x1 c (X34x2 c e):=by kernel_rfl
theorem s34x2(n2:Nt):V34x2 (xA aFX c e [1,1,0,1,0,0] zQ (lpK U0 zQ n2 (q34x3 c e)))=B34x2 c (V34x2 n2):=by kernel_rfl
def aCy(c:TC0)(L:Nat):Nat→Int→G.O→G.O→Rt
 |0=>fun _ _ _=>none
 |n+1=>B34x2 c (aCy c L n)
theorem u34x2(n:Nat):V34x2 (xL aFX c L [1,1,0,1,0,0] zQ (q34x3 c (cu c L)) n)=aCy c L n:=by
 induction n with
 |zero=>rfl
 |succ n ih=>rw[fO,s34x2];simp only[ih];rfl
theorem w34x2:X34x2 c (cu c L)=aCy c L L:=u34x2 c L L
def J34x1(c:TC0)(L:Nat):Bool→G.O→G.O→Rt:=B34x1 c (aCy c L L)
theorem j34x1:X34x1 c (cu c L)=J34x1 c L:=by rw[X34x1,aM,s34x1];simp only[w34x2];rfl
def F34(c:TC0)(L:Nat):G.O→G.O→Rt:=B34x0 c (J34x1 c L)
theorem e34:V34x0 (xF aFX c (cu c L))=F34 c L:=by rw[s34x0];simp only[j34x1];rfl
theorem c34(a0:G.O)(a1:G.O)(L n:Nat):CTp L (n+1) 34 [yR 2 a0,yR 2 a1]=F34 (CTp L n) L a0 a1:=by rw[←e34];exact cg (x:=aFX) (by kernel_rfl) (by kernel_rfl) L n _
def q35x0(c:TC0)(e:Cu):Kt:=xK ii35
def q35x1(c:TC0)(e:Cu):Kt:=xT ii35 c e [1,1,1] (q35x0 c e)
def q35x2(c:TC0)(e:Cu):Kt:=dD U0 0 (q35x1 c e)
def B35x0(c:TC0)(e1:List G.T→List G.T→Int→Rt)(a0:List G.T)(a1:List G.T):Rt:=
 cnd (!decide ((List.length a0:Int)=(List.length a1:Int))) (some [yB false]) (e1 a0 a1 (0:Int))
def V35x0(n:Nt):List G.T→List G.T→Rt:=fun x0 x1=>n [yS 3 x0,yS 3 x1]
def B35x1(c:TC0)(n1:List G.T→List G.T→Int→Rt)(a0:List G.T)(a1:List G.T)(a5:Int):Rt:=
 cnd (decide (a5<(List.length a0:Int))) (ob (idx a0 a5) fun v0=>
 ob (idx a1 a5) fun v1=>
 obL [.bool] (c 8 [yR 3 v0,yR 3 v1]) fun(r2:Bool×Unit)=>
 cnd (!r2.1) (some [yB false]) (n1 a0 a1 (IntKind.i64.wrap (a5+(1:Int))))) (some [yB true])
def V35x1(n:Nt):List G.T→List G.T→Int→Rt:=fun x0 x1 x2=>n [yS 3 x0,yS 3 x1,yI x2]
def X35x1:=V35x1 (xE ii35 e [1,1,0,1,0,0] zP (q35x2 c e))
theorem s35x0:V35x0 (xF ii35 c e)=B35x0 c (X35x1 c e):=by kernel_rfl
theorem s35x1(n1:Nt):V35x1 (xA ii35 c e [1,1,0,1,0,0] zP (lpK U0 zP n1 (q35x2 c e)))=B35x1 c (V35x1 n1):=by kernel_rfl
def aCx(c:TC0)(L:Nat):Nat→List G.T→List G.T→Int→Rt
 |0=>fun _ _ _=>none
 |n+1=>B35x1 c (aCx c L n)
theorem u35x1(n:Nat):V35x1 (xL ii35 c L [1,1,0,1,0,0] zP (q35x2 c (cu c L)) n)=aCx c L n:=by
 induction n with
 |zero=>rfl
 |succ n ih=>rw[fO,s35x1];simp only[ih];rfl
theorem w35x1:X35x1 c (cu c L)=aCx c L L:=u35x1 c L L
def F35(c:TC0)(L:Nat):List G.T→List G.T→Rt:=B35x0 c (aCx c L L)
theorem e35:V35x0 (xF ii35 c (cu c L))=F35 c L:=by rw[s35x0];simp only[w35x1];rfl
theorem c35(a0:List G.T)(a1:List G.T)(L n:Nat):CTp L (n+1) 35 [yS 3 a0,yS 3 a1]=F35 (CTp L n) L a0 a1:=by rw[←e35];exact cg (x:=ii35) (by kernel_rfl) (by kernel_rfl) L n _
def q36x0(c:TC0)(e:Cu):Kt:=xK ii36
def q36x1(c:TC0)(e:Cu):Kt:=xT ii36 c e [1,1,1,1] (q36x0 c e)
def q36x2(c:TC0)(e:Cu):Kt:=dD U0 1 (q36x1 c e)
def B36x0(c:TC0)(e1:Int→Int→Int→Int→G.T→Rt)(a0:G.T):Rt:=
 cnd (decide (a0.kind=(1:Int))) (some [yI (1:Int),yI (0:Int),yI (0:Int)]) (cnd (decide (a0.kind=(2:Int))) (obL [i6] (c 75 [yR 2 a0.value]) fun(r0:Int×Unit)=>
 some [yI (0:Int),yI (0:Int),yI r0.1]) (e1 (0:Int) (0:Int) (1:Int) (0:Int) a0))
def V36x0(n:Nt):G.T→Rt:=fun x0=>n [yR 3 x0]
def B36x1(c:TC0)(n1:Int→Int→Int→Int→G.T→Rt)(a8:Int)(a5:Int)(a6:Int)(a7:Int)(b101:G.T):Rt:=
 cnd (decide (a8<(List.length b101.args:Int))) (ob (idx b101.args a8) fun v0=>
 obL [i6,i6,i6] (c 36 [yR 3 v0]) fun(r1:Int×Int×Int×Unit)=>
 n1 (IntKind.i64.wrap (a8+(1:Int))) (IntKind.i64.wrap (a5+r1.1)) (IntKind.i64.wrap (a6+r1.2.1)) (IntKind.i64.wrap (a7+r1.2.2.1)) b101) (some [yI a5,yI a6,yI a7])
def V36x1(n:Nt):Int→Int→Int→Int→G.T→Rt:=fun x0 x1 x2 x3 x4=>n [yI x0,yI x1,yI x2,yI x3,yR 3 x4]
def X36x1:=V36x1 (xE ii36 e [1,1,1,0,1,0,0] zO (q36x2 c e))
theorem s36x0:V36x0 (xF ii36 c e)=B36x0 c (X36x1 c e):=by kernel_rfl
theorem s36x1(n1:Nt):V36x1 (xA ii36 c e [1,1,1,0,1,0,0] zO (lpK U0 zO n1 (q36x2 c e)))=B36x1 c (V36x1 n1):=by kernel_rfl
def aAj(c:TC0)(L:Nat):Nat→Int→Int→Int→Int→G.T→Rt
 |0=>fun _ _ _ _ _=>none
 |n+1=>B36x1 c (aAj c L n)
theorem u36x1(n:Nat):V36x1 (xL ii36 c L [1,1,1,0,1,0,0] zO (q36x2 c (cu c L)) n)=aAj c L n:=by
 induction n with
 |zero=>rfl
 |succ n ih=>rw[fO,s36x1];simp only[ih];rfl
theorem w36x1:X36x1 c (cu c L)=aAj c L L:=u36x1 c L L
def F36(c:TC0)(L:Nat):G.T→Rt:=B36x0 c (aAj c L L)
theorem e36:V36x0 (xF ii36 c (cu c L))=F36 c L:=by rw[s36x0];simp only[w36x1];rfl
theorem c36(a0:G.T)(L n:Nat):CTp L (n+1) 36 [yR 3 a0]=F36 (CTp L n) L a0:=by rw[←e36];exact cg (x:=ii36) (by kernel_rfl) (by kernel_rfl) L n _
def B37x0(c:TC0)(a0:Int)(a1:Int):Rt:=
 cnd (decide (a0<a1)) (some [yI (-1:Int)]) (cnd (decide (a1<a0)) (some [yI (1:Int)]) (some [yI (0:Int)]))
def V37x0(n:Nt):Int→Int→Rt:=fun x0 x1=>n [yI x0,yI x1]
theorem s37x0:V37x0 (xF ii37 c e)=B37x0 c:=by kernel_rfl
def F37(c:TC0)(L:Nat):Int→Int→Rt:=B37x0 c
theorem e37:V37x0 (xF ii37 c (cu c L))=F37 c L:=s37x0 _ _
theorem c37(a0:Int)(a1:Int)(L n:Nat):CTp L (n+1) 37 [yI a0,yI a1]=F37 (CTp L n) L a0 a1:=by rw[←e37];exact cg (x:=ii37) (by kernel_rfl) (by kernel_rfl) L n _
def q38x0(c:TC0)(e:Cu):Kt:=xK aDL
def q38x1(c:TC0)(e:Cu):Kt:=xT aDL c e [1,1,1,1,1,1,0,1] (q38x0 c e)
def q38x2(c:TC0)(e:Cu):Kt:=dD U0 1 (q38x1 c e)
def q38x3(c:TC0)(e:Cu)(n2:Nt):Kt:=lpK U0 tY n2 (q38x2 c e)
def q38x4(c:TC0)(e:Cu)(n2:Nt):Kt:=xT aDL c e [1,1,1,1,1,1,0,0,1,0,0,1] (q38x3 c e n2)
def B38x0(c:TC0)(k1:Int→G.T→G.T→Rt)(a0:G.T)(a1:G.T):Rt:=
 obL [i6] (c 37 [yI a0.kind,yI a1.kind]) fun(r0:Int×Unit)=>
 cnd (!decide (r0.1=(0:Int))) (some [yI r0.1]) (cnd (decide (a0.kind=(1:Int))) (obL [i6] (c 76 [yR 1 a0.name,yR 1 a1.name]) fun(r1:Int×Unit)=>
 some [yI r1.1]) (cnd (decide (a0.kind=(2:Int))) (obL [i6] (c 77 [yR 2 a0.value,yR 2 a1.value]) fun(r2:Int×Unit)=>
 some [yI r2.1]) (obL [i6] (c 76 [yR 1 a0.name,yR 1 a1.name]) fun(r3:Int×Unit)=>
 cnd (decide (r3.1=(0:Int))) (obL [i6] (c 37 [yI (List.length a0.args:Int),yI (List.length a1.args:Int)]) fun(r4:Int×Unit)=>
 k1 r4.1 a0 a1) (k1 r3.1 a0 a1))))
def V38x0(n:Nt):G.T→G.T→Rt:=fun x0 x1=>n [yR 3 x0,yR 3 x1]
def B38x1(c:TC0)(e2:Int→Int→G.T→G.T→Rt)(a5:Int)(b102:G.T)(b103:G.T):Rt:=
 e2 (0:Int) a5 b102 b103
def V38x1(n:Nt):Int→G.T→G.T→Rt:=fun x0 x1 x2=>n [yI x0,yR 3 x1,yR 3 x2]
def X38x1:=V38x1 (xD aDL e [1,1,1,1,1,1,0] aHW (q38x0 c e))
def aJH(c:TC0)(k3:Bool→Int→Int→G.T→G.T→Rt)(a6:Int)(a5:Int)(b102:G.T)(b103:G.T):Rt:=
 cnd (decide (a6<(List.length b102.args:Int))) (cnd (decide (a6<(List.length b103.args:Int))) (k3 (decide (a5=(0:Int))) a6 a5 b102 b103) (k3 false a6 a5 b102 b103)) (k3 false a6 a5 b102 b103)
def aJp(n:Nt):Int→Int→G.T→G.T→Rt:=fun x0 x1 x2 x3=>n [yI x0,yI x1,yR 3 x2,yR 3 x3]
def X38x2:=aJp (xE aDL e [1,1,1,1,1,1,0,0,1,0,0] tY (q38x2 c e))
def B38x3(c:TC0)(n2:Int→Int→G.T→G.T→Rt)(a60:Bool)(a6:Int)(a5:Int)(b102:G.T)(b103:G.T):Rt:=
 cnd a60 (ob (idx b102.args a6) fun v0=>
 ob (idx b103.args a6) fun v1=>
 obL [i6] (c 38 [yR 3 v0,yR 3 v1]) fun(r2:Int×Unit)=>
 n2 (IntKind.i64.wrap (a6+(1:Int))) r2.1 b102 b103) (some [yI a5])
def V38x3(n:Nt):Bool→Int→Int→G.T→G.T→Rt:=fun x0 x1 x2 x3 x4=>n [yB x0,yI x1,yI x2,yR 3 x3,yR 3 x4]
def X38x3(n2:Nt):=V38x3 (xD aDL e [1,1,1,1,1,1,0,0,1,0,0,0,1,0] aHV (q38x4 c e n2))
theorem s38x0:V38x0 (xF aDL c e)=B38x0 c (X38x1 c e):=by kernel_rfl
theorem s38x1:V38x1 (xA aDL c e [1,1,1,1,1,1,0] aHW (q38x0 c e))=B38x1 c (X38x2 c e):=by kernel_rfl
theorem s38x2(n2:Nt):aJp (xA aDL c e [1,1,1,1,1,1,0,0,1,0,0] tY (lpK U0 tY n2 (q38x2 c e)))=aJH c (X38x3 c e n2):=by kernel_rfl
theorem s38x3(n2:Nt):V38x3 (xA aDL c e [1,1,1,1,1,1,0,0,1,0,0,0,1,0] aHV (q38x4 c e n2))=B38x3 c (aJp n2):=by kernel_rfl
def J38x3(c:TC0)(L:Nat)(n2:Int→Int→G.T→G.T→Rt):Bool→Int→Int→G.T→G.T→Rt:=B38x3 c n2
theorem j38x3(n2:Nt):X38x3 c (cu c L) n2=J38x3 c L (aJp n2):=by rw[X38x3,aM,s38x3];rfl
def pO(c:TC0)(L:Nat):Nat→Int→Int→G.T→G.T→Rt
 |0=>fun _ _ _ _=>none
 |n+1=>aJH c (J38x3 c L (pO c L n))
theorem u38x2(n:Nat):aJp (xL aDL c L [1,1,1,1,1,1,0,0,1,0,0] tY (q38x2 c (cu c L)) n)=pO c L n:=by
 induction n with
 |zero=>rfl
 |succ n ih=>rw[fO,s38x2];simp only[j38x3,ih];rfl
theorem w38x2:X38x2 c (cu c L)=pO c L L:=u38x2 c L L
def aFH(c:TC0)(L:Nat):Int→G.T→G.T→Rt:=B38x1 c (pO c L L)
theorem j38x1:X38x1 c (cu c L)=aFH c L:=by rw[X38x1,aM,s38x1];simp only[w38x2];rfl
def F38(c:TC0)(L:Nat):G.T→G.T→Rt:=B38x0 c (aFH c L)
theorem e38:V38x0 (xF aDL c (cu c L))=F38 c L:=by rw[s38x0];simp only[j38x1];rfl
theorem c38(a0:G.T)(a1:G.T)(L n:Nat):CTp L (n+1) 38 [yR 3 a0,yR 3 a1]=F38 (CTp L n) L a0 a1:=by rw[←e38];exact cg (x:=aDL) (by kernel_rfl) (by kernel_rfl) L n _
def B39x0(c:TC0)(a0:G.Y):Rt:=
 some [yR 3 (G.T.mk (1:Int) a0 (G.O.mk (0:Int) ([]:List UInt8) ([]:List UInt8) (G.Y.mk ([]:List UInt8) ([]:List UInt8)) ([]:List UInt8) ([]:List G.O)) ([]:List G.T))]
def V39x0(n:Nt):G.Y→Rt:=fun x0=>n [yR 1 x0]
theorem s39x0:V39x0 (xF ii39 c e)=B39x0 c:=by kernel_rfl
def F39(c:TC0)(L:Nat):G.Y→Rt:=B39x0 c
theorem e39:V39x0 (xF ii39 c (cu c L))=F39 c L:=s39x0 _ _
theorem c39(a0:G.Y)(L n:Nat):CTp L (n+1) 39 [yR 1 a0]=F39 (CTp L n) L a0:=by rw[←e39];exact cg (x:=ii39) (by kernel_rfl) (by kernel_rfl) L n _
def B41x0(c:TC0):Rt:=
 obL [zS 9] (c 78 []) fun(r0:List G.A×Unit)=>
 obL [.str] (c 79 []) fun(r1:List UInt8×Unit)=>
 obL [zS 2,.rc 20] (c 80 [yS 9 r0.1,yT ([108,105,115,112]:List UInt8),yT r1.1]) fun(r2:List G.O×G.X×Unit)=>
 some [yS 2 r2.1]
def V41x0(n:Nt):Rt:=n []
theorem s41x0:V41x0 (xF ii41 c e)=B41x0 c:=by kernel_rfl
def F41(c:TC0)(L:Nat):Rt:=B41x0 c
theorem e41:V41x0 (xF ii41 c (cu c L))=F41 c L:=s41x0 _ _
theorem c41(L n:Nat):CTp L (n+1) 41 []=F41 (CTp L n) L:=by rw[←e41];exact cg (x:=ii41) (by kernel_rfl) (by kernel_rfl) L n _
def B43x0(c:TC0)(a0:List UInt8):Rt:=
 some [yR 1 (G.Y.mk ([108,105,115,112]:List UInt8) a0)]
def V43x0(n:Nt):List UInt8→Rt:=fun x0=>n [yT x0]
theorem s43x0:V43x0 (xF ii43 c e)=B43x0 c:=by kernel_rfl
def F43(c:TC0)(L:Nat):List UInt8→Rt:=B43x0 c
theorem e43:V43x0 (xF ii43 c (cu c L))=F43 c L:=s43x0 _ _
theorem c43(a0:List UInt8)(L n:Nat):CTp L (n+1) 43 [yT a0]=F43 (CTp L n) L a0:=by rw[←e43];exact cg (x:=ii43) (by kernel_rfl) (by kernel_rfl) L n _
def q56x0(c:TC0)(e:Cu):Kt:=xK ii56
def q56x1(c:TC0)(e:Cu):Kt:=xT ii56 c e [1,1,1,1] (q56x0 c e)
def q56x2(c:TC0)(e:Cu):Kt:=dD U0 0 (q56x1 c e)
def B56x0(c:TC0)(e1:List G.R→Int→G.Y→Rt)(a0:G.Y):Rt:=
 cnd (!decide (a0.package=([108,105,115,112]:List UInt8))) (some [yI (0:Int),yB false]) (obL [zS 21] (c 87 []) fun(r0:List G.R×Unit)=>
 e1 r0.1 (0:Int) a0)
def V56x0(n:Nt):G.Y→Rt:=fun x0=>n [yR 1 x0]
def B56x1(c:TC0)(n1:List G.R→Int→G.Y→Rt)(a4:List G.R)(a5:Int)(b101:G.Y):Rt:=
 cnd (decide (a5<(List.length a4:Int))) (ob (idx a4 a5) fun v0=>
 cnd (decide (v0.name=b101.name)) (ob (idx a4 a5) fun v1=>
 some [yI v1.arity,yB true]) (n1 a4 (IntKind.i64.wrap (a5+(1:Int))) b101)) (some [yI (0:Int),yB false])
def V56x1(n:Nt):List G.R→Int→G.Y→Rt:=fun x0 x1 x2=>n [yS 21 x0,yI x1,yR 1 x2]
def X56x1:=V56x1 (xE ii56 e [1,1,1,0,1,0,0] zN (q56x2 c e))
theorem s56x0:V56x0 (xF ii56 c e)=B56x0 c (X56x1 c e):=by kernel_rfl
theorem s56x1(n1:Nt):V56x1 (xA ii56 c e [1,1,1,0,1,0,0] zN (lpK U0 zN n1 (q56x2 c e)))=B56x1 c (V56x1 n1):=by kernel_rfl
def aCw(c:TC0)(L:Nat):Nat→List G.R→Int→G.Y→Rt
 |0=>fun _ _ _=>none
 |n+1=>B56x1 c (aCw c L n)
theorem u56x1(n:Nat):V56x1 (xL ii56 c L [1,1,1,0,1,0,0] zN (q56x2 c (cu c L)) n)=aCw c L n:=by
 induction n with
 |zero=>rfl
 |succ n ih=>rw[fO,s56x1];simp only[ih];rfl
theorem w56x1:X56x1 c (cu c L)=aCw c L L:=u56x1 c L L
def F56(c:TC0)(L:Nat):G.Y→Rt:=B56x0 c (aCw c L L)
theorem e56:V56x0 (xF ii56 c (cu c L))=F56 c L:=by rw[s56x0];simp only[w56x1];rfl
theorem c56(a0:G.Y)(L n:Nat):CTp L (n+1) 56 [yR 1 a0]=F56 (CTp L n) L a0:=by rw[←e56];exact cg (x:=ii56) (by kernel_rfl) (by kernel_rfl) L n _
def B57x0(c:TC0)(a0:List G.E)(a1:G.Y):Rt:=
 obL [i6,i6,.bool] (c 88 [yS 16 a0,yR 1 a1]) fun(r0:Int×Int×Bool×Unit)=>
 cnd (!r0.2.2.1) (some [yR 8 (G.F.mk (G.Y.mk ([]:List UInt8) ([]:List UInt8)) ([]:List G.Y) (0:Int) (G.T.mk (0:Int) (G.Y.mk ([]:List UInt8) ([]:List UInt8)) (G.O.mk (0:Int) ([]:List UInt8) ([]:List UInt8) (G.Y.mk ([]:List UInt8) ([]:List UInt8)) ([]:List UInt8) ([]:List G.O)) ([]:List G.T)) (G.T.mk (0:Int) (G.Y.mk ([]:List UInt8) ([]:List UInt8)) (G.O.mk (0:Int) ([]:List UInt8) ([]:List UInt8) (G.Y.mk ([]:List UInt8) ([]:List UInt8)) ([]:List UInt8) ([]:List G.O)) ([]:List G.T)) (G.T.mk (0:Int) (G.Y.mk ([]:List UInt8) ([]:List UInt8)) (G.O.mk (0:Int) ([]:List UInt8) ([]:List UInt8) (G.Y.mk ([]:List UInt8) ([]:List UInt8)) ([]:List UInt8) ([]:List G.O)) ([]:List G.T))),yB false]) (ob (idx a0 r0.1) fun v1=>
 obL [zS 8] (c 89 [yR 16 v1]) fun(r2:List G.F×Unit)=>
 ob (idx r2.1 r0.2.1) fun v3=>
 some [yR 8 v3,yB true])
def V57x0(n:Nt):List G.E→G.Y→Rt:=fun x0 x1=>n [yS 16 x0,yR 1 x1]
theorem s57x0:V57x0 (xF ii57 c e)=B57x0 c:=by kernel_rfl
def F57(c:TC0)(L:Nat):List G.E→G.Y→Rt:=B57x0 c
theorem e57:V57x0 (xF ii57 c (cu c L))=F57 c L:=s57x0 _ _
theorem c57(a0:List G.E)(a1:G.Y)(L n:Nat):CTp L (n+1) 57 [yS 16 a0,yR 1 a1]=F57 (CTp L n) L a0 a1:=by rw[←e57];exact cg (x:=ii57) (by kernel_rfl) (by kernel_rfl) L n _
def B63x0(c:TC0):Rt:=
 obL [.rc 2] (c 92 [yR 1 (G.Y.mk ([108,105,115,112]:List UInt8) ([110,105,108]:List UInt8))]) fun(r0:G.O×Unit)=>
 some [yR 2 r0.1]
def V63x0(n:Nt):Rt:=n []
theorem s63x0:V63x0 (xF ii63 c e)=B63x0 c:=by kernel_rfl
def F63(c:TC0)(L:Nat):Rt:=B63x0 c
theorem e63:V63x0 (xF ii63 c (cu c L))=F63 c L:=s63x0 _ _
theorem c63(L n:Nat):CTp L (n+1) 63 []=F63 (CTp L n) L:=by rw[←e63];exact cg (x:=ii63) (by kernel_rfl) (by kernel_rfl) L n _
def B70x0(c:TC0)(a0:G.Y):Rt:=
 some [yR 3 (G.T.mk (1:Int) a0 (G.O.mk (0:Int) ([]:List UInt8) ([]:List UInt8) (G.Y.mk ([]:List UInt8) ([]:List UInt8)) ([]:List UInt8) ([]:List G.O)) ([]:List G.T))]
def V70x0(n:Nt):G.Y→Rt:=fun x0=>n [yR 1 x0]
theorem s70x0:V70x0 (xF ii70 c e)=B70x0 c:=by kernel_rfl
def F70(c:TC0)(L:Nat):G.Y→Rt:=B70x0 c
theorem e70:V70x0 (xF ii70 c (cu c L))=F70 c L:=s70x0 _ _
theorem c70(a0:G.Y)(L n:Nat):CTp L (n+1) 70 [yR 1 a0]=F70 (CTp L n) L a0:=by rw[←e70];exact cg (x:=ii70) (by kernel_rfl) (by kernel_rfl) L n _
def q71x0(c:TC0)(e:Cu):Kt:=xK aA9
def q71x1(c:TC0)(e:Cu):Kt:=dD U0 0 (q71x0 c e)
def q71x2(c:TC0)(e:Cu)(n1:Nt):Kt:=lpK U0 tX n1 (q71x1 c e)
def q71x3(c:TC0)(e:Cu)(n1:Nt):Kt:=dD U0 1 (q71x2 c e n1)
def q71x4(c:TC0)(e:Cu)(n1:Nt):Kt:=xT aA9 c e [1,0,0,0,1] (q71x3 c e n1)
def q71x5(c:TC0)(e:Cu)(n1:Nt):Kt:=xT aA9 c e [1,0,0,0,1,1,1,1] (q71x3 c e n1)
def q71x6(c:TC0)(e:Cu)(n1:Nt):Kt:=dD U0 2 (q71x5 c e n1)
def B71x0(c:TC0)(e1:G.O→G.O→Rt)(a0:G.O)(a1:G.O):Rt:=
 e1 a0 a1
def V71x0(n:Nt):G.O→G.O→Rt:=fun x0 x1=>n [yR 2 x0,yR 2 x1]
def B71x1(c:TC0)(k2:Bool→G.O→G.O→Rt)(b102:G.O)(b103:G.O):Rt:=
 cnd (!decide (b102.kind=b103.kind)) (k2 true b102 b103) (cnd (!decide (b102.num=b103.num)) (k2 true b102 b103) (cnd (!decide (b102.den=b103.den)) (k2 true b102 b103) (cnd (!decide (b102.sym=b103.sym)) (k2 true b102 b103) (cnd (!decide (b102.text=b103.text)) (k2 true b102 b103) (k2 (!decide ((List.length b102.pair:Int)=(List.length b103.pair:Int))) b102 b103)))))
def aCB(n:Nt):G.O→G.O→Rt:=fun x0 x1=>n [yR 2 x0,yR 2 x1]
def X71x1:=aCB (xE aA9 e [1,0,0] tX (q71x1 c e))
def B71x2(c:TC0)(e3:Int→Int→Int→G.O→G.O→Rt)(a48:Bool)(b102:G.O)(b103:G.O):Rt:=
 cnd a48 (some [yB false]) (cnd (decide ((List.length b102.pair:Int)=(0:Int))) (some [yB true]) (e3 (IntKind.i64.wrap ((List.length b102.pair:Int)-(1:Int))) (0:Int) (List.length b102.pair:Int) b102 b103))
def V71x2(n:Nt):Bool→G.O→G.O→Rt:=fun x0 x1 x2=>n [yB x0,yR 2 x1,yR 2 x2]
def X71x2(n1:Nt):=V71x2 (xD aA9 e [1,0,0,0,0,1,0] aHT (q71x4 c e n1))
def B71x3(c:TC0)(n3:Int→Int→Int→G.O→G.O→Rt)(n1:G.O→G.O→Rt)(a55:Int)(a56:Int)(a5:Int)(b102:G.O)(b103:G.O):Rt:=
 cnd (decide (a56<a55)) (ob (idx b102.pair a56) fun v0=>
 ob (idx b103.pair a56) fun v1=>
 obL [.bool] (c 71 [yR 2 v0,yR 2 v1]) fun(r2:Bool×Unit)=>
 cnd (!r2.1) (some [yB false]) (n3 a55 (IntKind.i64.wrap (a56+(1:Int))) a5 b102 b103)) (ob (idx b102.pair (IntKind.i64.wrap (a5-(1:Int)))) fun v3=>
 ob (idx b103.pair (IntKind.i64.wrap (a5-(1:Int)))) fun v4=>
 n1 v3 v4)
def V71x3(n:Nt):Int→Int→Int→G.O→G.O→Rt:=fun x0 x1 x2 x3 x4=>n [yI x0,yI x1,yI x2,yR 2 x3,yR 2 x4]
def X71x3(n1:Nt):=V71x3 (xE aA9 e [1,0,0,0,1,1,1,0,1,0,0] zM (q71x6 c e n1))
theorem s71x0:V71x0 (xF aA9 c e)=B71x0 c (X71x1 c e):=by kernel_rfl
theorem s71x1(n1:Nt):aCB (xA aA9 c e [1,0,0] tX (lpK U0 tX n1 (q71x1 c e)))=B71x1 c (X71x2 c e n1):=by kernel_rfl
theorem s71x2(n1:Nt):V71x2 (xA aA9 c e [1,0,0,0,0,1,0] aHT (q71x4 c e n1))=B71x2 c (X71x3 c e n1):=by kernel_rfl
theorem s71x3(n3:Nt)(n1:Nt):V71x3 (xA aA9 c e [1,0,0,0,1,1,1,0,1,0,0] zM (lpK U0 zM n3 (q71x6 c e n1)))=B71x3 c (V71x3 n3) (aCB n1):=by kernel_rfl
def aCv(c:TC0)(L:Nat)(n1:G.O→G.O→Rt):Nat→Int→Int→Int→G.O→G.O→Rt
 |0=>fun _ _ _ _ _=>none
 |n+1=>B71x3 c (aCv c L n1 n) n1
theorem u71x3(n1:Nt)(n:Nat):V71x3 (xL aA9 c L [1,0,0,0,1,1,1,0,1,0,0] zM (q71x6 c (cu c L) n1) n)=aCv c L (aCB n1) n:=by
 induction n with
 |zero=>rfl
 |succ n ih=>rw[fO,s71x3];simp only[ih];rfl
theorem w71x3(n1:Nt):X71x3 c (cu c L) n1=aCv c L (aCB n1) L:=u71x3 c L n1 L
def J71x2(c:TC0)(L:Nat)(n1:G.O→G.O→Rt):Bool→G.O→G.O→Rt:=B71x2 c (aCv c L n1 L)
theorem j71x2(n1:Nt):X71x2 c (cu c L) n1=J71x2 c L (aCB n1):=by rw[X71x2,aM,s71x2];simp only[w71x3];rfl
def aAi(c:TC0)(L:Nat):Nat→G.O→G.O→Rt
 |0=>fun _ _=>none
 |n+1=>B71x1 c (J71x2 c L (aAi c L n))
theorem u71x1(n:Nat):aCB (xL aA9 c L [1,0,0] tX (q71x1 c (cu c L)) n)=aAi c L n:=by
 induction n with
 |zero=>rfl
 |succ n ih=>rw[fO,s71x1];simp only[j71x2,ih];rfl
theorem w71x1:X71x1 c (cu c L)=aAi c L L:=u71x1 c L L
def F71(c:TC0)(L:Nat):G.O→G.O→Rt:=B71x0 c (aAi c L L)
theorem e71:V71x0 (xF aA9 c (cu c L))=F71 c L:=by rw[s71x0];simp only[w71x1];rfl
theorem c71(a0:G.O)(a1:G.O)(L n:Nat):CTp L (n+1) 71 [yR 2 a0,yR 2 a1]=F71 (CTp L n) L a0 a1:=by rw[←e71];exact cg (x:=aA9) (by kernel_rfl) (by kernel_rfl) L n _
def q72x0(c:TC0)(e:Cu):Kt:=xK ii72
def q72x1(c:TC0)(e:Cu):Kt:=xT ii72 c e [1,1,1] (q72x0 c e)
def q72x2(c:TC0)(e:Cu):Kt:=dD U0 0 (q72x1 c e)
def B72x0(c:TC0)(e1:Int→List G.T→List G.T→Int→Rt)(a0:List G.T)(a1:List G.T):Rt:=
 cnd (!decide ((List.length a0:Int)=(List.length a1:Int))) (some [yB false]) (e1 (List.length a0:Int) a0 a1 (0:Int))
def V72x0(n:Nt):List G.T→List G.T→Rt:=fun x0 x1=>n [yS 3 x0,yS 3 x1]
def B72x1(c:TC0)(n1:Int→List G.T→List G.T→Int→Rt)(a16:Int)(a15:List G.T)(a1:List G.T)(a17:Int):Rt:=
 cnd (decide (a17<a16)) (ob (idx a15 a17) fun v0=>
 ob (idx a1 a17) fun v1=>
 obL [.bool] (c 32 [yR 3 v0,yR 3 v1]) fun(r2:Bool×Unit)=>
 cnd (!r2.1) (some [yB false]) (n1 a16 a15 a1 (IntKind.i64.wrap (a17+(1:Int))))) (some [yB true])
def V72x1(n:Nt):Int→List G.T→List G.T→Int→Rt:=fun x0 x1 x2 x3=>n [yI x0,yS 3 x1,yS 3 x2,yI x3]
def X72x1:=V72x1 (xE ii72 e [1,1,0,1,0,0] zL (q72x2 c e))
theorem s72x0:V72x0 (xF ii72 c e)=B72x0 c (X72x1 c e):=by kernel_rfl
theorem s72x1(n1:Nt):V72x1 (xA ii72 c e [1,1,0,1,0,0] zL (lpK U0 zL n1 (q72x2 c e)))=B72x1 c (V72x1 n1):=by kernel_rfl
def aCu(c:TC0)(L:Nat):Nat→Int→List G.T→List G.T→Int→Rt
 |0=>fun _ _ _ _=>none
 |n+1=>B72x1 c (aCu c L n)
theorem u72x1(n:Nat):V72x1 (xL ii72 c L [1,1,0,1,0,0] zL (q72x2 c (cu c L)) n)=aCu c L n:=by
 induction n with
 |zero=>rfl
 |succ n ih=>rw[fO,s72x1];simp only[ih];rfl
theorem w72x1:X72x1 c (cu c L)=aCu c L L:=u72x1 c L L
def F72(c:TC0)(L:Nat):List G.T→List G.T→Rt:=B72x0 c (aCu c L L)
theorem e72:V72x0 (xF ii72 c (cu c L))=F72 c L:=by rw[s72x0];simp only[w72x1];rfl
theorem c72(a0:List G.T)(a1:List G.T)(L n:Nat):CTp L (n+1) 72 [yS 3 a0,yS 3 a1]=F72 (CTp L n) L a0 a1:=by rw[←e72];exact cg (x:=ii72) (by kernel_rfl) (by kernel_rfl) L n _
def q73x0(c:TC0)(e:Cu):Kt:=xK aHr
def q73x1(c:TC0)(e:Cu):Kt:=xT aHr c e [1,1] (q73x0 c e)
def q73x2(c:TC0)(e:Cu):Kt:=dD U0 0 (q73x1 c e)
def q73x3(c:TC0)(e:Cu):Kt:=dD U0 1 (q73x2 c e)
def B73x0(c:TC0)(k1:G.Arr3Int→G.Arr3Int→Rt)(e2:Int→List G.T→Int→G.Arr3Int→G.Arr3Int→Rt)(a0:G.T)(a1:G.Arr3Int):Rt:=
 cnd (decide (a0.kind=(1:Int))) (k1 (G.Arr3Int.mk (IntKind.i64.wrap (a1.a0+(1:Int))) a1.a1 a1.a2) (G.Arr3Int.mk (0:Int) (0:Int) (0:Int))) (cnd (decide (a0.kind=(2:Int))) (obL [i6] (c 96 [yR 2 a0.value]) fun(r0:Int×Unit)=>
 k1 (G.Arr3Int.mk a1.a0 a1.a1 (IntKind.i64.wrap (a1.a2+r0.1))) (G.Arr3Int.mk (0:Int) (0:Int) (0:Int))) (cnd (decide (a0.kind=(3:Int))) (e2 (List.length a0.args:Int) a0.args (0:Int) (G.Arr3Int.mk a1.a0 (IntKind.i64.wrap (a1.a1+(1:Int))) a1.a2) (G.Arr3Int.mk (0:Int) (0:Int) (0:Int))) (k1 a1 (G.Arr3Int.mk (0:Int) (0:Int) (0:Int)))))
def V73x0(n:Nt):G.T→G.Arr3Int→Rt:=fun x0 x1=>n [yR 3 x0,yR 19 x1]
def aJG(c:TC0)(b103:G.Arr3Int)(b104:G.Arr3Int):Rt:=
 some [yR 19 b103]
def V73x1(n:Nt):G.Arr3Int→G.Arr3Int→Rt:=fun x0 x1=>n [yR 19 x0,yR 19 x1]
def X73x1:=V73x1 (xD aHr e [1,1,0] aHS (q73x0 c e))
def B73x2(c:TC0)(n2:Int→List G.T→Int→G.Arr3Int→G.Arr3Int→Rt)(k1:G.Arr3Int→G.Arr3Int→Rt)(a32:Int)(a31:List G.T)(a33:Int)(b103:G.Arr3Int)(b104:G.Arr3Int):Rt:=
 cnd (decide (a33<a32)) (ob (idx a31 a33) fun v0=>
 obL [.rc 19] (c 73 [yR 3 v0,yR 19 b103]) fun(r1:G.Arr3Int×Unit)=>
 n2 a32 a31 (IntKind.i64.wrap (a33+(1:Int))) r1.1 b104) (k1 b103 b104)
def V73x2(n:Nt):Int→List G.T→Int→G.Arr3Int→G.Arr3Int→Rt:=fun x0 x1 x2 x3 x4=>n [yI x0,yS 3 x1,yI x2,yR 19 x3,yR 19 x4]
def X73x2:=V73x2 (xE aHr e [1,0,1,0,1,1,1,1,1,0,1,1,0,0] zK (q73x3 c e))
theorem s73x0:V73x0 (xF aHr c e)=B73x0 c (X73x1 c e) (X73x2 c e):=by kernel_rfl
theorem s73x1:V73x1 (xA aHr c e [1,1,0] aHS (q73x0 c e))=aJG c:=by kernel_rfl
theorem s73x2(n2:Nt):V73x2 (xA aHr c e [1,0,1,0,1,1,1,1,1,0,1,1,0,0] zK (lpK U0 zK n2 (q73x3 c e)))=B73x2 c (V73x2 n2) (X73x1 c e):=by kernel_rfl
def aFG(c:TC0)(L:Nat):G.Arr3Int→G.Arr3Int→Rt:=aJG c
theorem j73x1:X73x1 c (cu c L)=aFG c L:=by rw[X73x1,aM,s73x1];rfl
def aCt(c:TC0)(L:Nat):Nat→Int→List G.T→Int→G.Arr3Int→G.Arr3Int→Rt
 |0=>fun _ _ _ _ _=>none
 |n+1=>B73x2 c (aCt c L n) (aFG c L)
theorem u73x2(n:Nat):V73x2 (xL aHr c L [1,0,1,0,1,1,1,1,1,0,1,1,0,0] zK (q73x3 c (cu c L)) n)=aCt c L n:=by
 induction n with
 |zero=>rfl
 |succ n ih=>rw[fO,s73x2];simp only[j73x1,ih];rfl
theorem w73x2:X73x2 c (cu c L)=aCt c L L:=u73x2 c L L
def F73(c:TC0)(L:Nat):G.T→G.Arr3Int→Rt:=B73x0 c (aFG c L) (aCt c L L)
theorem e73:V73x0 (xF aHr c (cu c L))=F73 c L:=by rw[s73x0];simp only[j73x1,w73x2];rfl
theorem c73(a0:G.T)(a1:G.Arr3Int)(L n:Nat):CTp L (n+1) 73 [yR 3 a0,yR 19 a1]=F73 (CTp L n) L a0 a1:=by rw[←e73];exact cg (x:=aHr) (by kernel_rfl) (by kernel_rfl) L n _
end
end Go.TV
