import Derived.Test.YtojjcdpfjabepaaGreatDoorKr
set_option linter.unusedVariables false
set_option linter.unusedSimpArgs false
set_option linter.constructorNameAsVariable false
namespace Go.TV
open Go.AI Go.PI Go.Proofs
set_option maxRecDepth 20000
noncomputable section
variable(c:TC0)(e:Cu)(L:Nat)
def q0x0(c:TC0)(e:Cu):Kt:=xK ii0
def q0x1(c:TC0)(e:Cu):Kt:=xT ii0 c e [1,1,1] (q0x0 c e)
def q0x2(c:TC0)(e:Cu):Kt:=xT ii0 c e [1,1,1,1,1,1,1,1] (q0x0 c e)
def q0x3(c:TC0)(e:Cu):Kt:=cN U0 0 (q0x2 c e)
def q0x4(c:TC0)(e:Cu):Kt:=xT ii0 c e [1,1,1,1,1,1,1,1,1,1,1] (q0x0 c e)
def q0x5(c:TC0)(e:Cu):Kt:=cN U0 2 (q0x4 c e)
def q0x6(c:TC0)(e:Cu)(n3:Nt):Kt:=lpK U0 aEJ n3 (q0x5 c e)
def q0x7(c:TC0)(e:Cu)(n3:Nt):Kt:=xT ii0 c e [1,1,1,1,1,1,1,1,1,1,0,1,0,0,1] (q0x6 c e n3)
def B0x0(c:TC0)(k1:Bool→List Int→List Int→Rt)(a0:List Int)(a1:List Int):Rt:=
 obL [.bool] (c 1 []) fun(r0:Bool×Unit)=>
 cnd (!r0.1) (some [yB false]) (cnd (decide ((80:Int)<(List.length a0:Int))) (k1 true a0 a1) (k1 (decide ((6:Int)<(List.length a1:Int))) a0 a1))
def V0x0(n:Nt):List Int→List Int→Rt:=fun x0 x1=>n [⟨(.sl (.int .u8)),x0⟩,⟨(.sl (.int .u8)),x1⟩]
def B0x1(c:TC0)(e2:List Int→Int→(List (List UInt8))→List G.E→G.Z→G.U→Rt)(a22:Bool)(a0:List Int)(a1:List Int):Rt:=
 cnd a22 (some [yB true]) (obL [zS 16] (c 2 [⟨(.int .u32),(0:Int)⟩]) fun(r0:List G.E×Unit)=>
 e2 a1 (0:Int) ([([120]:List UInt8),([121]:List UInt8),([122]:List UInt8)]:List (List UInt8)) r0.1 (G.Z.mk a0 (0:Int)) (G.U.mk (G.Y.mk ([]:List UInt8) ([]:List UInt8)) (1:Int) ([]:List G.T) (G.Y.mk ([]:List UInt8) ([]:List UInt8)) (G.T.mk (0:Int) (G.Y.mk ([]:List UInt8) ([]:List UInt8)) (G.O.mk (0:Int) ([]:List UInt8) ([]:List UInt8) (G.Y.mk ([]:List UInt8) ([]:List UInt8)) ([]:List UInt8) ([]:List G.O)) ([]:List G.T)) (G.T.mk (0:Int) (G.Y.mk ([]:List UInt8) ([]:List UInt8)) (G.O.mk (0:Int) ([]:List UInt8) ([]:List UInt8) (G.Y.mk ([]:List UInt8) ([]:List UInt8)) ([]:List UInt8) ([]:List G.O)) ([]:List G.T)) ([]:List G.T) (0:Int) ([]:List G.Q) (0:Int) (G.Y.mk ([]:List UInt8) ([]:List UInt8))))
def V0x1(n:Nt):Bool→List Int→List Int→Rt:=fun x0 x1 x2=>n [yB x0,⟨(.sl (.int .u8)),x1⟩,⟨(.sl (.int .u8)),x2⟩]
def X0x1:=V0x1 (xD ii0 e [1,1,0,1,0] ct0x1 (q0x1 c e))
def B0x2(c:TC0)(n2:List Int→Int→(List (List UInt8))→List G.E→G.Z→G.U→Rt)(e3:Int→(List (List UInt8))→List G.E→Int→List G.I→G.Z→G.U→Rt)(a1:List Int)(a9:Int)(a7:(List (List UInt8)))(a5:List G.E)(b126:G.Z)(b108:G.U):Rt:=
 cnd (decide (a9<(List.length a1:Int))) (ob (idx a1 a9) fun v0=>
 chk (!decide ((3:Int)=0))<|
 ob (idx a7 (Int.tmod (IntKind.i64.wrap v0) (3:Int))) fun v1=>
 ob (idx a1 a9) fun v2=>
 chk (!decide ((3:Int)=0))<|
 chk (!decide ((3:Int)=0))<|
 ob (idx a7 (Int.tmod (IntKind.i64.wrap (IntKind.u8.wrap (Int.tdiv v2 (3:Int)))) (3:Int))) fun v3=>
 obL [.rc 1] (c 3 [yT v1]) fun(r4:G.Y×Unit)=>
 obL [.rc 1] (c 3 [yT v3]) fun(r5:G.Y×Unit)=>
 chk (Nat.ble ((List.length b108.stops+List.length ([(G.Q.mk r4.1 r5.1)]:List G.Q))*64) 1073741824)<|
 n2 a1 (IntKind.i64.wrap (a9+(1:Int))) a7 a5 b126 (G.U.mk b108.name b108.cls b108.hyps b108.equiv b108.left b108.right b108.terms b108.tset (b108.stops++([(G.Q.mk r4.1 r5.1)]:List G.Q)) b108.arg b108.inner)) (obL [i6,.rc 0] (c 4 [yI (4:Int),yR 0 b126]) fun(r6:Int×G.Z×Unit)=>
 e3 r6.1 a7 a5 (0:Int) ([]:List G.I) r6.2.1 b108)
def V0x2(n:Nt):List Int→Int→(List (List UInt8))→List G.E→G.Z→G.U→Rt:=fun x0 x1 x2 x3 x4 x5=>n [⟨(.sl (.int .u8)),x0⟩,yI x1,⟨(.sl .str),x2⟩,yS 16 x3,yR 0 x4,yR 5 x5]
def X0x2:=V0x2 (xE ii0 e [1,1,1,1,1,1,1,0,1,0,0] aHx (q0x3 c e))
def B0x3(c:TC0)(k4:Bool→Int→Int→(List (List UInt8))→List G.E→List G.I→G.Z→G.U→Rt)(a11:Int)(a7:(List (List UInt8)))(a5:List G.E)(a12:Int)(a10:List G.I)(b126:G.Z)(b108:G.U):Rt:=
 cnd (decide (a12<a11)) (k4 (decide (a12<(3:Int))) a12 a11 a7 a5 a10 b126 b108) (k4 false a12 a11 a7 a5 a10 b126 b108)
def V0x3(n:Nt):Int→(List (List UInt8))→List G.E→Int→List G.I→G.Z→G.U→Rt:=fun x0 x1 x2 x3 x4 x5 x6=>n [yI x0,⟨(.sl .str),x1⟩,yS 16 x2,yI x3,yS 6 x4,yR 0 x5,yR 5 x6]
def X0x3:=V0x3 (xE ii0 e [1,1,1,1,1,1,1,1,1,1,0,1,0,0] aEJ (q0x5 c e))
def B0x4(c:TC0)(n3:Int→(List (List UInt8))→List G.E→Int→List G.I→G.Z→G.U→Rt)(a70:Bool)(a12:Int)(a11:Int)(a7:(List (List UInt8)))(a5:List G.E)(a10:List G.I)(b126:G.Z)(b108:G.U):Rt:=
 cnd a70 (ob (idx a7 a12) fun v0=>
 obL [.rc 1] (c 3 [yT v0]) fun(r1:G.Y×Unit)=>
 obL [.rc 3,.rc 0] (c 5 [yS 16 a5,yI (2:Int),yR 0 b126]) fun(r2:G.T×G.Z×Unit)=>
 chk (Nat.ble ((List.length a10+List.length ([(G.I.mk r1.1 r2.1)]:List G.I))*208) 1073741824)<|
 n3 a11 a7 a5 (IntKind.i64.wrap (a12+(1:Int))) (a10++([(G.I.mk r1.1 r2.1)]:List G.I)) r2.2.1 b108) (obL [.bool] (c 6 [yR 5 b108,yS 6 a10]) fun(r3:Bool×Unit)=>
 obL [.bool] (c 7 [yR 5 b108,yS 6 a10]) fun(r4:Bool×Unit)=>
 some [yB (r3.1==r4.1)])
def V0x4(n:Nt):Bool→Int→Int→(List (List UInt8))→List G.E→List G.I→G.Z→G.U→Rt:=fun x0 x1 x2 x3 x4 x5 x6 x7=>n [yB x0,yI x1,yI x2,⟨(.sl .str),x3⟩,yS 16 x4,yS 6 x5,yR 0 x6,yR 5 x7]
def X0x4(n3:Nt):=V0x4 (xD ii0 e [1,1,1,1,1,1,1,1,1,1,0,1,0,0,0,1,0] ct0x4 (q0x7 c e n3))
theorem s0x0:V0x0 (xF ii0 c e)=B0x0 c (X0x1 c e):=by kernel_rfl
theorem s0x1:V0x1 (xA ii0 c e [1,1,0,1,0] ct0x1 (q0x1 c e))=B0x1 c (X0x2 c e):=by kernel_rfl
theorem s0x2(n2:Nt):V0x2 (xA ii0 c e [1,1,1,1,1,1,1,0,1,0,0] aHx (lpK U0 aHx n2 (q0x3 c e)))=B0x2 c (V0x2 n2) (X0x3 c e):=by kernel_rfl
theorem s0x3(n3:Nt):V0x3 (xA ii0 c e [1,1,1,1,1,1,1,1,1,1,0,1,0,0] aEJ (lpK U0 aEJ n3 (q0x5 c e)))=B0x3 c (X0x4 c e n3):=by kernel_rfl
theorem s0x4(n3:Nt):V0x4 (xA ii0 c e [1,1,1,1,1,1,1,1,1,1,0,1,0,0,0,1,0] ct0x4 (q0x7 c e n3))=B0x4 c (V0x3 n3):=by kernel_rfl
def J0x4(c:TC0)(L:Nat)(n3:Int→(List (List UInt8))→List G.E→Int→List G.I→G.Z→G.U→Rt):Bool→Int→Int→(List (List UInt8))→List G.E→List G.I→G.Z→G.U→Rt:=B0x4 c n3
theorem j0x4(n3:Nt):X0x4 c (cu c L) n3=J0x4 c L (V0x3 n3):=by rw[X0x4,aN,s0x4];rfl
def W0x3(c:TC0)(L:Nat):Nat→Int→(List (List UInt8))→List G.E→Int→List G.I→G.Z→G.U→Rt
 |0=>fun _ _ _ _ _ _ _=>none
 |n+1=>B0x3 c (J0x4 c L (W0x3 c L n))
theorem u0x3(n:Nat):V0x3 (xL ii0 c L [1,1,1,1,1,1,1,1,1,1,0,1,0,0] aEJ (q0x5 c (cu c L)) n)=W0x3 c L n:=by
 induction n with
 |zero=>rfl
 |succ n ih=>rw[eY,s0x3];simp only[j0x4,ih];rfl
theorem w0x3:X0x3 c (cu c L)=W0x3 c L L:=u0x3 c L L
def W0x2(c:TC0)(L:Nat):Nat→List Int→Int→(List (List UInt8))→List G.E→G.Z→G.U→Rt
 |0=>fun _ _ _ _ _ _=>none
 |n+1=>B0x2 c (W0x2 c L n) (W0x3 c L L)
theorem u0x2(n:Nat):V0x2 (xL ii0 c L [1,1,1,1,1,1,1,0,1,0,0] aHx (q0x3 c (cu c L)) n)=W0x2 c L n:=by
 induction n with
 |zero=>rfl
 |succ n ih=>rw[eY,s0x2];simp only[w0x3,ih];rfl
theorem w0x2:X0x2 c (cu c L)=W0x2 c L L:=u0x2 c L L
def J0x1(c:TC0)(L:Nat):Bool→List Int→List Int→Rt:=B0x1 c (W0x2 c L L)
theorem j0x1:X0x1 c (cu c L)=J0x1 c L:=by rw[X0x1,aN,s0x1];simp only[w0x2];rfl
def F0(c:TC0)(L:Nat):List Int→List Int→Rt:=B0x0 c (J0x1 c L)
theorem e0:V0x0 (xF ii0 c (cu c L))=F0 c L:=by rw[s0x0];simp only[j0x1];rfl
def B1x0(c:TC0):Rt:=
 obL [.rc 3] (c 8 [yT ([120]:List UInt8)]) fun(r0:G.T×Unit)=>
 obL [.rc 3] (c 8 [yT ([121]:List UInt8)]) fun(r1:G.T×Unit)=>
 obL [.rc 3] (c 9 [yT ([98,105,110,97,114,121,45,43]:List UInt8),yS 3 ([r0.1,r1.1]:List G.T)]) fun(r2:G.T×Unit)=>
 obL [.rc 3] (c 9 [yT ([98,105,110,97,114,121,45,43]:List UInt8),yS 3 ([r1.1,r0.1]:List G.T)]) fun(r3:G.T×Unit)=>
 obL [.rc 3] (c 9 [yT ([101,113,117,97,108]:List UInt8),yS 3 ([r2.1,r3.1]:List G.T)]) fun(r4:G.T×Unit)=>
 obL [zS 16] (c 2 [⟨(.int .u32),(0:Int)⟩]) fun(r5:List G.E×Unit)=>
 obL [.rc 1] (c 3 [yT ([112,108,117,115]:List UInt8)]) fun(r6:G.Y×Unit)=>
 none
def V1x0(n:Nt):Rt:=n []
theorem s1x0:V1x0 (xF ii1 c e)=B1x0 c:=by kernel_rfl
def F1(c:TC0)(L:Nat):Rt:=B1x0 c
theorem e1:V1x0 (xF ii1 c (cu c L))=F1 c L:=s1x0 _ _
def q2x0(c:TC0)(e:Cu):Kt:=xK ii2
def q2x1(c:TC0)(e:Cu):Kt:=xT ii2 c e [1,1,1,1] (q2x0 c e)
def q2x2(c:TC0)(e:Cu):Kt:=cN U0 0 (q2x1 c e)
def q2x3(c:TC0)(e:Cu):Kt:=xT ii2 c e [1,1,1,1,1,1] (q2x0 c e)
def q2x4(c:TC0)(e:Cu):Kt:=cN U0 2 (q2x3 c e)
def q2x5(c:TC0)(e:Cu)(n2:Nt):Kt:=lpK U0 aEI n2 (q2x4 c e)
def B2x0(c:TC0)(e1:(List (List G.F))→Int→Int→List G.E→Rt)(a0:Int):Rt:=
 obL [zS 16] (c 10 []) fun(r0:List G.E×Unit)=>
 obL [.sl (zS 8)] (c 11 []) fun(r1:(List (List G.F))×Unit)=>
 e1 r1.1 (0:Int) a0 r0.1
def V2x0(n:Nt):Int→Rt:=fun x0=>n [⟨(.int .u32),x0⟩]
def B2x1(c:TC0)(n1:(List (List G.F))→Int→Int→List G.E→Rt)(e2:Int→List G.L→Int→List G.E→Rt)(a4:(List (List G.F)))(a5:Int)(a0:Int)(a3:List G.E):Rt:=
 cnd (decide (a5<(List.length a4:Int))) (ob (idx a4 a5) fun v0=>
 ob (idx v0 (0:Int)) fun v1=>
 ob (idx a4 a5) fun v2=>
 chk (Nat.ble ((List.length a3+List.length ([(G.E.mk (3:Int) v1.name (G.A.mk ([]:List UInt8) ([]:List G.Y)) (G.M.mk (G.Y.mk ([]:List UInt8) ([]:List UInt8)) ([]:List G.Y) false (G.T.mk (0:Int) (G.Y.mk ([]:List UInt8) ([]:List UInt8)) (G.O.mk (0:Int) ([]:List UInt8) ([]:List UInt8) (G.Y.mk ([]:List UInt8) ([]:List UInt8)) ([]:List UInt8) ([]:List G.O)) ([]:List G.T))) v2 ([]:List G.T) ([]:List (List G.N)) ([]:List G.E) (G.B.mk (G.Y.mk ([]:List UInt8) ([]:List UInt8)) ([]:List G.D)) ([]:List G.U) ([]:List G.Y) ([]:List G.Y) ([]:List UInt8) (0:Int))]:List G.E))*568) 1073741824)<|
 n1 a4 (IntKind.i64.wrap (a5+(1:Int))) a0 (a3++([(G.E.mk (3:Int) v1.name (G.A.mk ([]:List UInt8) ([]:List G.Y)) (G.M.mk (G.Y.mk ([]:List UInt8) ([]:List UInt8)) ([]:List G.Y) false (G.T.mk (0:Int) (G.Y.mk ([]:List UInt8) ([]:List UInt8)) (G.O.mk (0:Int) ([]:List UInt8) ([]:List UInt8) (G.Y.mk ([]:List UInt8) ([]:List UInt8)) ([]:List UInt8) ([]:List G.O)) ([]:List G.T))) v2 ([]:List G.T) ([]:List (List G.N)) ([]:List G.E) (G.B.mk (G.Y.mk ([]:List UInt8) ([]:List UInt8)) ([]:List G.D)) ([]:List G.U) ([]:List G.Y) ([]:List G.Y) ([]:List UInt8) (0:Int))]:List G.E))) (obL [zS 7] (c 12 []) fun(r3:List G.L×Unit)=>
 e2 a0 r3.1 (0:Int) a3)
def V2x1(n:Nt):(List (List G.F))→Int→Int→List G.E→Rt:=fun x0 x1 x2 x3=>n [⟨.sl (zS 8),x0⟩,yI x1,⟨(.int .u32),x2⟩,yS 16 x3]
def X2x1:=V2x1 (xE ii2 e [1,1,1,0,1,0,0] aHp (q2x2 c e))
def B2x2(c:TC0)(k3:Int→Int→List G.L→List G.E→Rt)(a0:Int)(a6:List G.L)(a7:Int)(a3:List G.E):Rt:=
 cnd (decide (a7<(List.length a6:Int))) (chk (decide (0≤a7))<|
 cnd (decide ((IntKind.u32.wrap ((BitVec.ofInt IntKind.u32.bits (Int.fdiv a0 (2^(min (Int.toNat a7) IntKind.u32.bits)))&&&BitVec.ofInt IntKind.u32.bits (1:Int)).toNat:Int))=(0:Int))) (k3 a7 a0 a6 a3) (ob (idx a6 a7) fun v0=>
 ob (idx a6 a7) fun v1=>
 obL [.rc 1] (c 3 [yT v0.name]) fun(r2:G.Y×Unit)=>
 ob (idx a6 a7) fun v3=>
 ob (idx a6 a7) fun v4=>
 none)) (some [yS 16 a3])
def V2x2(n:Nt):Int→List G.L→Int→List G.E→Rt:=fun x0 x1 x2 x3=>n [⟨(.int .u32),x0⟩,yS 7 x1,yI x2,yS 16 x3]
def X2x2:=V2x2 (xE ii2 e [1,1,1,1,1,0,1,0,0] aEI (q2x4 c e))
def B2x3(c:TC0)(n2:Int→List G.L→Int→List G.E→Rt)(a7:Int)(a0:Int)(a6:List G.L)(a3:List G.E):Rt:=
 n2 a0 a6 (IntKind.i64.wrap (a7+(1:Int))) a3
def V2x3(n:Nt):Int→Int→List G.L→List G.E→Rt:=fun x0 x1 x2 x3=>n [yI x0,⟨(.int .u32),x1⟩,yS 7 x2,yS 16 x3]
def X2x3(n2:Nt):=V2x3 (xD ii2 e [1,1,1,1,1,0,1,0,0,1,1,0] ct2x3 (q2x5 c e n2))
theorem s2x0:V2x0 (xF ii2 c e)=B2x0 c (X2x1 c e):=by kernel_rfl
theorem s2x1(n1:Nt):V2x1 (xA ii2 c e [1,1,1,0,1,0,0] aHp (lpK U0 aHp n1 (q2x2 c e)))=B2x1 c (V2x1 n1) (X2x2 c e):=by kernel_rfl
theorem s2x2(n2:Nt):V2x2 (xA ii2 c e [1,1,1,1,1,0,1,0,0] aEI (lpK U0 aEI n2 (q2x4 c e)))=B2x2 c (X2x3 c e n2):=by kernel_rfl
theorem s2x3(n2:Nt):V2x3 (xA ii2 c e [1,1,1,1,1,0,1,0,0,1,1,0] ct2x3 (q2x5 c e n2))=B2x3 c (V2x2 n2):=by kernel_rfl
def J2x3(c:TC0)(L:Nat)(n2:Int→List G.L→Int→List G.E→Rt):Int→Int→List G.L→List G.E→Rt:=B2x3 c n2
theorem j2x3(n2:Nt):X2x3 c (cu c L) n2=J2x3 c L (V2x2 n2):=by rw[X2x3,aN,s2x3];rfl
def W2x2(c:TC0)(L:Nat):Nat→Int→List G.L→Int→List G.E→Rt
 |0=>fun _ _ _ _=>none
 |n+1=>B2x2 c (J2x3 c L (W2x2 c L n))
theorem u2x2(n:Nat):V2x2 (xL ii2 c L [1,1,1,1,1,0,1,0,0] aEI (q2x4 c (cu c L)) n)=W2x2 c L n:=by
 induction n with
 |zero=>rfl
 |succ n ih=>rw[eY,s2x2];simp only[j2x3,ih];rfl
theorem w2x2:X2x2 c (cu c L)=W2x2 c L L:=u2x2 c L L
def W2x1(c:TC0)(L:Nat):Nat→(List (List G.F))→Int→Int→List G.E→Rt
 |0=>fun _ _ _ _=>none
 |n+1=>B2x1 c (W2x1 c L n) (W2x2 c L L)
theorem u2x1(n:Nat):V2x1 (xL ii2 c L [1,1,1,0,1,0,0] aHp (q2x2 c (cu c L)) n)=W2x1 c L n:=by
 induction n with
 |zero=>rfl
 |succ n ih=>rw[eY,s2x1];simp only[w2x2,ih];rfl
theorem w2x1:X2x1 c (cu c L)=W2x1 c L L:=u2x1 c L L
def F2(c:TC0)(L:Nat):Int→Rt:=B2x0 c (W2x1 c L L)
theorem e2:V2x0 (xF ii2 c (cu c L))=F2 c L:=by rw[s2x0];simp only[w2x1];rfl
theorem c2(a0:Int)(L n:Nat):CTp L (n+1) 2 [⟨(.int .u32),a0⟩]=F2 (CTp L n) L a0:=by rw[←e2];exact cg (x:=ii2) (by kernel_rfl) (by kernel_rfl) L n _
def B3x0(c:TC0)(a0:List UInt8):Rt:=
 some [yR 1 (G.Y.mk ([117,115,101,114]:List UInt8) a0)]
def V3x0(n:Nt):List UInt8→Rt:=fun x0=>n [yT x0]
theorem s3x0:V3x0 (xF ii3 c e)=B3x0 c:=by kernel_rfl
def F3(c:TC0)(L:Nat):List UInt8→Rt:=B3x0 c
theorem e3:V3x0 (xF ii3 c (cu c L))=F3 c L:=s3x0 _ _
theorem c3(a0:List UInt8)(L n:Nat):CTp L (n+1) 3 [yT a0]=F3 (CTp L n) L a0:=by rw[←e3];exact cg (x:=ii3) (by kernel_rfl) (by kernel_rfl) L n _
def q4x0(c:TC0)(e:Cu):Kt:=xK ii4
def q4x1(c:TC0)(e:Cu):Kt:=xT ii4 c e [1,1] (q4x0 c e)
def B4x0(c:TC0)(k1:Bool→Int→G.Z→Rt)(a1:Int)(b0:G.Z):Rt:=
 cnd (decide ((List.length b0.b:Int)≤b0.pos)) (k1 true a1 b0) (k1 (decide (a1<(1:Int))) a1 b0)
def V4x0(n:Nt):Int→G.Z→Rt:=fun x0 x1=>n [yI x0,yR 0 x1]
def B4x1(c:TC0)(a18:Bool)(a1:Int)(b0:G.Z):Rt:=
 cnd a18 (some [yI (0:Int),yR 0 b0]) (ob (idx b0.b (IntKind.i64.wrap ((IntKind.i64.wrap (b0.pos+(1:Int)))-(1:Int)))) fun v0=>
 chk (!decide (a1=0))<|
 some [yI (Int.tmod (IntKind.i64.wrap v0) a1),yR 0 (G.Z.mk b0.b (IntKind.i64.wrap (b0.pos+(1:Int))))])
def V4x1(n:Nt):Bool→Int→G.Z→Rt:=fun x0 x1 x2=>n [yB x0,yI x1,yR 0 x2]
def X4x1:=V4x1 (xD ii4 e [1,0,1,0] ct4x1 (q4x1 c e))
theorem s4x0:V4x0 (xF ii4 c e)=B4x0 c (X4x1 c e):=by kernel_rfl
theorem s4x1:V4x1 (xA ii4 c e [1,0,1,0] ct4x1 (q4x1 c e))=B4x1 c:=by kernel_rfl
def J4x1(c:TC0)(L:Nat):Bool→Int→G.Z→Rt:=B4x1 c
theorem j4x1:X4x1 c (cu c L)=J4x1 c L:=by rw[X4x1,aN,s4x1];rfl
def F4(c:TC0)(L:Nat):Int→G.Z→Rt:=B4x0 c (J4x1 c L)
theorem e4:V4x0 (xF ii4 c (cu c L))=F4 c L:=by rw[s4x0];simp only[j4x1];rfl
theorem c4(a1:Int)(b0:G.Z)(L n:Nat):CTp L (n+1) 4 [yI a1,yR 0 b0]=F4 (CTp L n) L a1 b0:=by rw[←e4];exact cg (x:=ii4) (by kernel_rfl) (by kernel_rfl) L n _
def q5x0(c:TC0)(e:Cu):Kt:=xK ii5
def q5x1(c:TC0)(e:Cu):Kt:=xT ii5 c e [1,1,1] (q5x0 c e)
def q5x2(c:TC0)(e:Cu):Kt:=xT ii5 c e [1,1,1,0,1,1,1,0,1,1,1] (q5x0 c e)
def q5x3(c:TC0)(e:Cu):Kt:=cN U0 1 (q5x2 c e)
def B5x0(c:TC0)(k1:Bool→Int→List G.E→Int→G.Z→G.T→Rt)(a1:List G.E)(a2:Int)(b0:G.Z):Rt:=
 obL [i6,.rc 0] (c 4 [yI (12:Int),yR 0 b0]) fun(r0:Int×G.Z×Unit)=>
 cnd (decide (a2<(1:Int))) (k1 (decide ((3:Int)<r0.1)) r0.1 a1 a2 r0.2.1 (G.T.mk (0:Int) (G.Y.mk ([]:List UInt8) ([]:List UInt8)) (G.O.mk (0:Int) ([]:List UInt8) ([]:List UInt8) (G.Y.mk ([]:List UInt8) ([]:List UInt8)) ([]:List UInt8) ([]:List G.O)) ([]:List G.T))) (k1 false r0.1 a1 a2 r0.2.1 (G.T.mk (0:Int) (G.Y.mk ([]:List UInt8) ([]:List UInt8)) (G.O.mk (0:Int) ([]:List UInt8) ([]:List UInt8) (G.Y.mk ([]:List UInt8) ([]:List UInt8)) ([]:List UInt8) ([]:List G.O)) ([]:List G.T)))
def V5x0(n:Nt):List G.E→Int→G.Z→Rt:=fun x0 x1 x2=>n [yS 16 x0,yI x1,yR 0 x2]
def B5x1(c:TC0)(k2:Int→List G.E→Int→G.Z→G.T→Rt)(a22:Bool)(a7:Int)(a1:List G.E)(a2:Int)(b0:G.Z)(b106:G.T):Rt:=
 cnd a22 (chk (!decide ((4:Int)=0))<|
 k2 (Int.tmod a7 (4:Int)) a1 a2 b0 b106) (k2 a7 a1 a2 b0 b106)
def V5x1(n:Nt):Bool→Int→List G.E→Int→G.Z→G.T→Rt:=fun x0 x1 x2 x3 x4 x5=>n [yB x0,yI x1,yS 16 x2,yI x3,yR 0 x4,yR 3 x5]
def X5x1:=V5x1 (xD ii5 e [1,1,0,1,0] ct5x1 (q5x1 c e))
def B5x2(c:TC0)(k3:List G.E→Int→G.Z→G.Y→G.T→Rt)(a7:Int)(a1:List G.E)(a2:Int)(b0:G.Z)(b106:G.T):Rt:=
 cnd (decide (a7<(3:Int))) (obL [.rc 3,.rc 0] (c 13 [yR 0 b0]) fun(r0:G.T×G.Z×Unit)=>
 some [yR 3 r0.1,yR 0 r0.2.1]) (cnd (decide (a7=(3:Int))) (obL [.rc 2,.rc 0] (c 14 [yI (1:Int),yR 0 b0]) fun(r1:G.O×G.Z×Unit)=>
 obL [.rc 3] (c 15 [yR 2 r1.1]) fun(r2:G.T×Unit)=>
 some [yR 3 r2.1,yR 0 r1.2.1]) (obL [(.sl .str)] (c 16 []) fun(r3:(List (List UInt8))×Unit)=>
 obL [(.sl .str)] (c 17 []) fun(r4:(List (List UInt8))×Unit)=>
 obL [i6,.rc 0] (c 4 [yI (4:Int),yR 0 b0]) fun(r5:Int×G.Z×Unit)=>
 cnd (decide (r5.1<(3:Int))) (obL [i6,.rc 0] (c 4 [yI (List.length r3.1:Int),yR 0 r5.2.1]) fun(r6:Int×G.Z×Unit)=>
 ob (idx r3.1 r6.1) fun v7=>
 obL [.rc 1] (c 18 [yT v7]) fun(r8:G.Y×Unit)=>
 k3 a1 a2 r6.2.1 r8.1 b106) (obL [i6,.rc 0] (c 4 [yI (List.length r4.1:Int),yR 0 r5.2.1]) fun(r9:Int×G.Z×Unit)=>
 ob (idx r4.1 r9.1) fun v10=>
 obL [.rc 1] (c 3 [yT v10]) fun(r11:G.Y×Unit)=>
 k3 a1 a2 r9.2.1 r11.1 b106)))
def V5x2(n:Nt):Int→List G.E→Int→G.Z→G.T→Rt:=fun x0 x1 x2 x3 x4=>n [yI x0,yS 16 x1,yI x2,yR 0 x3,yR 3 x4]
def X5x2:=V5x2 (xD ii5 e [1,1,1,0] ct5x2 (q5x0 c e))
def B5x3(c:TC0)(e4:Int→List G.E→Int→Int→List G.T→G.Z→G.Y→G.T→Rt)(a1:List G.E)(a2:Int)(b0:G.Z)(b108:G.Y)(b106:G.T):Rt:=
 obL [i6,.bool] (c 19 [yS 16 a1,yR 1 b108]) fun(r0:Int×Bool×Unit)=>
 e4 r0.1 a1 a2 (0:Int) ([]:List G.T) b0 b108 b106
def V5x3(n:Nt):List G.E→Int→G.Z→G.Y→G.T→Rt:=fun x0 x1 x2 x3 x4=>n [yS 16 x0,yI x1,yR 0 x2,yR 1 x3,yR 3 x4]
def X5x3:=V5x3 (xD ii5 e [1,1,1,0,1,1,1,0] ct5x3 (q5x0 c e))
def B5x4(c:TC0)(n4:Int→List G.E→Int→Int→List G.T→G.Z→G.Y→G.T→Rt)(a11:Int)(a1:List G.E)(a2:Int)(a14:Int)(a13:List G.T)(b0:G.Z)(b108:G.Y)(b106:G.T):Rt:=
 cnd (decide (a14<a11)) (obL [.rc 3,.rc 0] (c 5 [yS 16 a1,yI (IntKind.i64.wrap (a2-(1:Int))),yR 0 b0]) fun(r0:G.T×G.Z×Unit)=>
 chk (Nat.ble ((List.length a13+List.length ([r0.1]:List G.T))*176) 1073741824)<|
 n4 a11 a1 a2 (IntKind.i64.wrap (a14+(1:Int))) (a13++([r0.1]:List G.T)) r0.2.1 b108 b106) (obL [.rc 3] (c 20 [yR 1 b108,yS 3 a13]) fun(r1:G.T×Unit)=>
 some [yR 3 r1.1,yR 0 b0])
def V5x4(n:Nt):Int→List G.E→Int→Int→List G.T→G.Z→G.Y→G.T→Rt:=fun x0 x1 x2 x3 x4 x5 x6 x7=>n [yI x0,yS 16 x1,yI x2,yI x3,yS 3 x4,yR 0 x5,yR 1 x6,yR 3 x7]
def X5x4:=V5x4 (xE ii5 e [1,1,1,0,1,1,1,0,1,1,0,1,0,0] aHl (q5x3 c e))
theorem s5x0:V5x0 (xF ii5 c e)=B5x0 c (X5x1 c e):=by kernel_rfl
theorem s5x1:V5x1 (xA ii5 c e [1,1,0,1,0] ct5x1 (q5x1 c e))=B5x1 c (X5x2 c e):=by kernel_rfl
theorem s5x2:V5x2 (xA ii5 c e [1,1,1,0] ct5x2 (q5x0 c e))=B5x2 c (X5x3 c e):=by kernel_rfl
theorem s5x3:V5x3 (xA ii5 c e [1,1,1,0,1,1,1,0] ct5x3 (q5x0 c e))=B5x3 c (X5x4 c e):=by kernel_rfl
theorem s5x4(n4:Nt):V5x4 (xA ii5 c e [1,1,1,0,1,1,1,0,1,1,0,1,0,0] aHl (lpK U0 aHl n4 (q5x3 c e)))=B5x4 c (V5x4 n4):=by kernel_rfl
def W5x4(c:TC0)(L:Nat):Nat→Int→List G.E→Int→Int→List G.T→G.Z→G.Y→G.T→Rt
 |0=>fun _ _ _ _ _ _ _ _=>none
 |n+1=>B5x4 c (W5x4 c L n)
theorem u5x4(n:Nat):V5x4 (xL ii5 c L [1,1,1,0,1,1,1,0,1,1,0,1,0,0] aHl (q5x3 c (cu c L)) n)=W5x4 c L n:=by
 induction n with
 |zero=>rfl
 |succ n ih=>rw[eY,s5x4];simp only[ih];rfl
theorem w5x4:X5x4 c (cu c L)=W5x4 c L L:=u5x4 c L L
def J5x3(c:TC0)(L:Nat):List G.E→Int→G.Z→G.Y→G.T→Rt:=B5x3 c (W5x4 c L L)
theorem j5x3:X5x3 c (cu c L)=J5x3 c L:=by rw[X5x3,aN,s5x3];simp only[w5x4];rfl
def J5x2(c:TC0)(L:Nat):Int→List G.E→Int→G.Z→G.T→Rt:=B5x2 c (J5x3 c L)
theorem j5x2:X5x2 c (cu c L)=J5x2 c L:=by rw[X5x2,aN,s5x2];simp only[j5x3];rfl
def J5x1(c:TC0)(L:Nat):Bool→Int→List G.E→Int→G.Z→G.T→Rt:=B5x1 c (J5x2 c L)
theorem j5x1:X5x1 c (cu c L)=J5x1 c L:=by rw[X5x1,aN,s5x1];simp only[j5x2];rfl
def F5(c:TC0)(L:Nat):List G.E→Int→G.Z→Rt:=B5x0 c (J5x1 c L)
theorem e5:V5x0 (xF ii5 c (cu c L))=F5 c L:=by rw[s5x0];simp only[j5x1];rfl
theorem c5(a1:List G.E)(a2:Int)(b0:G.Z)(L n:Nat):CTp L (n+1) 5 [yS 16 a1,yI a2,yR 0 b0]=F5 (CTp L n) L a1 a2 b0:=by rw[←e5];exact cg (x:=ii5) (by kernel_rfl) (by kernel_rfl) L n _
def q6x0(c:TC0)(e:Cu):Kt:=xK ii6
def q6x1(c:TC0)(e:Cu):Kt:=xT ii6 c e [1,1,1] (q6x0 c e)
def q6x2(c:TC0)(e:Cu):Kt:=cN U0 0 (q6x1 c e)
def B6x0(c:TC0)(e1:Int→List G.Q→List G.I→Int→Rt)(a0:G.U)(a1:List G.I):Rt:=
 cnd (decide ((List.length a0.stops:Int)=(0:Int))) (some [yB true]) (e1 (List.length a0.stops:Int) a0.stops a1 (0:Int))
def V6x0(n:Nt):G.U→List G.I→Rt:=fun x0 x1=>n [yR 5 x0,yS 6 x1]
def B6x1(c:TC0)(n1:Int→List G.Q→List G.I→Int→Rt)(a15:Int)(a14:List G.Q)(a1:List G.I)(a16:Int):Rt:=
 cnd (decide (a16<a15)) (ob (idx a14 a16) fun v0=>
 obL [.rc 3] (c 21 [yS 6 a1,yR 1 v0.a0]) fun(r1:G.T×Unit)=>
 obL [.rc 3] (c 21 [yS 6 a1,yR 1 v0.a1]) fun(r2:G.T×Unit)=>
 obL [.bool] (c 22 [yR 3 r1.1,yR 3 r2.1]) fun(r3:Bool×Unit)=>
 cnd (!r3.1) (obL [i6] (c 23 [yR 3 r2.1,yR 3 r1.1]) fun(r4:Int×Unit)=>
 some [yB (decide (r4.1<(0:Int)))]) (n1 a15 a14 a1 (IntKind.i64.wrap (a16+(1:Int))))) (some [yB false])
def V6x1(n:Nt):Int→List G.Q→List G.I→Int→Rt:=fun x0 x1 x2 x3=>n [yI x0,yS 4 x1,yS 6 x2,yI x3]
def X6x1:=V6x1 (xE ii6 e [1,1,0,1,0,0] aHh (q6x2 c e))
theorem s6x0:V6x0 (xF ii6 c e)=B6x0 c (X6x1 c e):=by kernel_rfl
theorem s6x1(n1:Nt):V6x1 (xA ii6 c e [1,1,0,1,0,0] aHh (lpK U0 aHh n1 (q6x2 c e)))=B6x1 c (V6x1 n1):=by kernel_rfl
def W6x1(c:TC0)(L:Nat):Nat→Int→List G.Q→List G.I→Int→Rt
 |0=>fun _ _ _ _=>none
 |n+1=>B6x1 c (W6x1 c L n)
theorem u6x1(n:Nat):V6x1 (xL ii6 c L [1,1,0,1,0,0] aHh (q6x2 c (cu c L)) n)=W6x1 c L n:=by
 induction n with
 |zero=>rfl
 |succ n ih=>rw[eY,s6x1];simp only[ih];rfl
theorem w6x1:X6x1 c (cu c L)=W6x1 c L L:=u6x1 c L L
def F6(c:TC0)(L:Nat):G.U→List G.I→Rt:=B6x0 c (W6x1 c L L)
theorem e6:V6x0 (xF ii6 c (cu c L))=F6 c L:=by rw[s6x0];simp only[w6x1];rfl
theorem c6(a0:G.U)(a1:List G.I)(L n:Nat):CTp L (n+1) 6 [yR 5 a0,yS 6 a1]=F6 (CTp L n) L a0 a1:=by rw[←e6];exact cg (x:=ii6) (by kernel_rfl) (by kernel_rfl) L n _
def q7x0(c:TC0)(e:Cu):Kt:=xK ii7
def q7x1(c:TC0)(e:Cu):Kt:=xT ii7 c e [1,1,1] (q7x0 c e)
def q7x2(c:TC0)(e:Cu):Kt:=cN U0 0 (q7x1 c e)
def B7x0(c:TC0)(e1:List G.I→Int→G.U→Rt)(a0:G.U)(a1:List G.I):Rt:=
 cnd (decide ((List.length a0.stops:Int)=(0:Int))) (some [yB true]) (e1 a1 (0:Int) a0)
def V7x0(n:Nt):G.U→List G.I→Rt:=fun x0 x1=>n [yR 5 x0,yS 6 x1]
def B7x1(c:TC0)(n1:List G.I→Int→G.U→Rt)(a1:List G.I)(a5:Int)(b102:G.U):Rt:=
 cnd (decide (a5<(List.length b102.stops:Int))) (ob (idx b102.stops a5) fun v0=>
 ob (idx b102.stops a5) fun v1=>
 obL [.rc 3] (c 24 [yS 6 a1,yR 1 v0.a0]) fun(r2:G.T×Unit)=>
 obL [.rc 3] (c 24 [yS 6 a1,yR 1 v1.a1]) fun(r3:G.T×Unit)=>
 obL [.bool] (c 25 [yR 3 r2.1,yR 3 r3.1]) fun(r4:Bool×Unit)=>
 cnd (!r4.1) (obL [i6] (c 26 [yR 3 r3.1,yR 3 r2.1]) fun(r5:Int×Unit)=>
 some [yB (decide (r5.1<(0:Int)))]) (n1 a1 (IntKind.i64.wrap (a5+(1:Int))) b102)) (some [yB false])
def V7x1(n:Nt):List G.I→Int→G.U→Rt:=fun x0 x1 x2=>n [yS 6 x0,yI x1,yR 5 x2]
def X7x1:=V7x1 (xE ii7 e [1,1,0,1,0,0] aHe (q7x2 c e))
theorem s7x0:V7x0 (xF ii7 c e)=B7x0 c (X7x1 c e):=by kernel_rfl
theorem s7x1(n1:Nt):V7x1 (xA ii7 c e [1,1,0,1,0,0] aHe (lpK U0 aHe n1 (q7x2 c e)))=B7x1 c (V7x1 n1):=by kernel_rfl
def W7x1(c:TC0)(L:Nat):Nat→List G.I→Int→G.U→Rt
 |0=>fun _ _ _=>none
 |n+1=>B7x1 c (W7x1 c L n)
theorem u7x1(n:Nat):V7x1 (xL ii7 c L [1,1,0,1,0,0] aHe (q7x2 c (cu c L)) n)=W7x1 c L n:=by
 induction n with
 |zero=>rfl
 |succ n ih=>rw[eY,s7x1];simp only[ih];rfl
theorem w7x1:X7x1 c (cu c L)=W7x1 c L L:=u7x1 c L L
def F7(c:TC0)(L:Nat):G.U→List G.I→Rt:=B7x0 c (W7x1 c L L)
theorem e7:V7x0 (xF ii7 c (cu c L))=F7 c L:=by rw[s7x0];simp only[w7x1];rfl
theorem c7(a0:G.U)(a1:List G.I)(L n:Nat):CTp L (n+1) 7 [yR 5 a0,yS 6 a1]=F7 (CTp L n) L a0 a1:=by rw[←e7];exact cg (x:=ii7) (by kernel_rfl) (by kernel_rfl) L n _
def q10x0(c:TC0)(e:Cu):Kt:=xK ii10
def q10x1(c:TC0)(e:Cu):Kt:=xT ii10 c e [1,1,1,1] (q10x0 c e)
def q10x2(c:TC0)(e:Cu):Kt:=cN U0 0 (q10x1 c e)
def B10x0(c:TC0)(e1:List G.O→Int→List G.E→Rt):Rt:=
 obL [zS 2] (c 29 []) fun(r0:List G.O×Unit)=>
 e1 r0.1 (0:Int) ([]:List G.E)
def V10x0(n:Nt):Rt:=n []
def aE3(c:TC0)(n1:List G.O→Int→List G.E→Rt)(a2:List G.O)(a3:Int)(a1:List G.E):Rt:=
 cnd (decide (a3<(List.length a2:Int))) (ob (idx a2 a3) fun v0=>
 obL [.rc 16] (c 30 [yS 16 a1,yR 2 v0]) fun(r1:G.E×Unit)=>
 chk (Nat.ble ((List.length a1+List.length ([r1.1]:List G.E))*568) 1073741824)<|
 n1 a2 (IntKind.i64.wrap (a3+(1:Int))) (a1++([r1.1]:List G.E))) (obL [.rc 1] (c 31 [yT ([117,115,101,114,45,112,97,99,107,97,103,101]:List UInt8)]) fun(r2:G.Y×Unit)=>
 obL [zS 1] (c 32 []) fun(r3:List G.Y×Unit)=>
 chk (Nat.ble ((List.length a1+List.length ([(G.E.mk (1:Int) r2.1 (G.A.mk ([117,115,101,114]:List UInt8) r3.1) (G.M.mk (G.Y.mk ([]:List UInt8) ([]:List UInt8)) ([]:List G.Y) false (G.T.mk (0:Int) (G.Y.mk ([]:List UInt8) ([]:List UInt8)) (G.O.mk (0:Int) ([]:List UInt8) ([]:List UInt8) (G.Y.mk ([]:List UInt8) ([]:List UInt8)) ([]:List UInt8) ([]:List G.O)) ([]:List G.T))) ([]:List G.F) ([]:List G.T) ([]:List (List G.N)) ([]:List G.E) (G.B.mk (G.Y.mk ([]:List UInt8) ([]:List UInt8)) ([]:List G.D)) ([]:List G.U) ([]:List G.Y) ([]:List G.Y) ([]:List UInt8) (0:Int))]:List G.E))*568) 1073741824)<|
 some [yS 16 (a1++([(G.E.mk (1:Int) r2.1 (G.A.mk ([117,115,101,114]:List UInt8) r3.1) (G.M.mk (G.Y.mk ([]:List UInt8) ([]:List UInt8)) ([]:List G.Y) false (G.T.mk (0:Int) (G.Y.mk ([]:List UInt8) ([]:List UInt8)) (G.O.mk (0:Int) ([]:List UInt8) ([]:List UInt8) (G.Y.mk ([]:List UInt8) ([]:List UInt8)) ([]:List UInt8) ([]:List G.O)) ([]:List G.T))) ([]:List G.F) ([]:List G.T) ([]:List (List G.N)) ([]:List G.E) (G.B.mk (G.Y.mk ([]:List UInt8) ([]:List UInt8)) ([]:List G.D)) ([]:List G.U) ([]:List G.Y) ([]:List G.Y) ([]:List UInt8) (0:Int))]:List G.E))])
def V10x1(n:Nt):List G.O→Int→List G.E→Rt:=fun x0 x1 x2=>n [yS 2 x0,yI x1,yS 16 x2]
def X10x1:=V10x1 (xE ii10 e [1,1,1,0,1,0,0] yQ (q10x2 c e))
theorem s10x0:V10x0 (xF ii10 c e)=B10x0 c (X10x1 c e):=by kernel_rfl
theorem s10x1(n1:Nt):V10x1 (xA ii10 c e [1,1,1,0,1,0,0] yQ (lpK U0 yQ n1 (q10x2 c e)))=aE3 c (V10x1 n1):=by kernel_rfl
def oZ(c:TC0)(L:Nat):Nat→List G.O→Int→List G.E→Rt
 |0=>fun _ _ _=>none
 |n+1=>aE3 c (oZ c L n)
theorem u10x1(n:Nat):V10x1 (xL ii10 c L [1,1,1,0,1,0,0] yQ (q10x2 c (cu c L)) n)=oZ c L n:=by
 induction n with
 |zero=>rfl
 |succ n ih=>rw[eY,s10x1];simp only[ih];rfl
theorem w10x1:X10x1 c (cu c L)=oZ c L L:=u10x1 c L L
def F10(c:TC0)(L:Nat):Rt:=B10x0 c (oZ c L L)
theorem e10:V10x0 (xF ii10 c (cu c L))=F10 c L:=by rw[s10x0];simp only[w10x1];rfl
theorem c10(L n:Nat):CTp L (n+1) 10 []=F10 (CTp L n) L:=by rw[←e10];exact cg (x:=ii10) (by kernel_rfl) (by kernel_rfl) L n _
def B13x0(c:TC0)(b0:G.Z):Rt:=
 obL [i6,.rc 0] (c 4 [yI (3:Int),yR 0 b0]) fun(r0:Int×G.Z×Unit)=>
 ob (slc ([120,121,122]:List UInt8) r0.1 (List.length ([120,121,122]:List UInt8):Int)) fun v1=>
 ob (slc v1 (0:Int) (1:Int)) fun v2=>
 obL [.rc 3] (c 8 [yT v2]) fun(r3:G.T×Unit)=>
 some [yR 3 r3.1,yR 0 r0.2.1]
def V13x0(n:Nt):G.Z→Rt:=fun x0=>n [yR 0 x0]
theorem s13x0:V13x0 (xF ii13 c e)=B13x0 c:=by kernel_rfl
def F13(c:TC0)(L:Nat):G.Z→Rt:=B13x0 c
theorem e13:V13x0 (xF ii13 c (cu c L))=F13 c L:=s13x0 _ _
theorem c13(b0:G.Z)(L n:Nat):CTp L (n+1) 13 [yR 0 b0]=F13 (CTp L n) L b0:=by rw[←e13];exact cg (x:=ii13) (by kernel_rfl) (by kernel_rfl) L n _
def q14x0(c:TC0)(e:Cu):Kt:=xK uN
def q14x1(c:TC0)(e:Cu):Kt:=xT uN c e [1,1,1] (q14x0 c e)
def q14x2(c:TC0)(e:Cu):Kt:=xT uN c e [1,1,1,0,1] (q14x0 c e)
def aFR(c:TC0)(e:Cu):Kt:=cN U0 0 (q14x2 c e)
def q14x4(c:TC0)(e:Cu):Kt:=xT uN c e [1,1,1,0,0,1,0,1,1,1,1,1,0,1,1,1,1,1,1,1,1,1,1,1,1,1,1,0,0,1,1,1] (aFR c e)
def q14x5(c:TC0)(e:Cu):Kt:=cN U0 1 (q14x4 c e)
def B14x0(c:TC0)(k1:Bool→Int→Int→G.Z→G.O→Rt)(a1:Int)(b0:G.Z):Rt:=
 obL [i6,.rc 0] (c 4 [yI (14:Int),yR 0 b0]) fun(r0:Int×G.Z×Unit)=>
 cnd (decide (a1<(1:Int))) (k1 (decide ((9:Int)<r0.1)) r0.1 a1 r0.2.1 (G.O.mk (0:Int) ([]:List UInt8) ([]:List UInt8) (G.Y.mk ([]:List UInt8) ([]:List UInt8)) ([]:List UInt8) ([]:List G.O))) (k1 false r0.1 a1 r0.2.1 (G.O.mk (0:Int) ([]:List UInt8) ([]:List UInt8) (G.Y.mk ([]:List UInt8) ([]:List UInt8)) ([]:List UInt8) ([]:List G.O)))
def V14x0(n:Nt):Int→G.Z→Rt:=fun x0 x1=>n [yI x0,yR 0 x1]
def B14x1(c:TC0)(k2:Int→Int→G.Z→G.O→Rt)(a17:Bool)(a5:Int)(a1:Int)(b0:G.Z)(b104:G.O):Rt:=
 cnd a17 (k2 (IntKind.i64.wrap (a5-(8:Int))) a1 b0 b104) (k2 a5 a1 b0 b104)
def V14x1(n:Nt):Bool→Int→Int→G.Z→G.O→Rt:=fun x0 x1 x2 x3 x4=>n [yB x0,yI x1,yI x2,yR 0 x3,yR 2 x4]
def X14x1:=V14x1 (xD uN e [1,1,0,1,0] aHw (q14x1 c e))
def B14x2(c:TC0)(k3:Bool→Int→Int→G.Z→G.O→Rt)(a5:Int)(a1:Int)(b0:G.Z)(b104:G.O):Rt:=
 cnd (decide (a5=(0:Int))) (obL [.rc 2] (c 42 []) fun(r0:G.O×Unit)=>
 some [yR 2 r0.1,yR 0 b0]) (cnd (decide (a5=(1:Int))) (obL [.rc 2] (c 43 []) fun(r1:G.O×Unit)=>
 some [yR 2 r1.1,yR 0 b0]) (cnd (decide (a5=(2:Int))) (k3 (decide (a5=(2:Int))) a5 a1 b0 b104) (k3 (decide (a5=(3:Int))) a5 a1 b0 b104)))
def V14x2(n:Nt):Int→Int→G.Z→G.O→Rt:=fun x0 x1 x2 x3=>n [yI x0,yI x1,yR 0 x2,yR 2 x3]
def X14x2:=V14x2 (xD uN e [1,1,1,0] aHv (q14x0 c e))
def B14x3(c:TC0)(k4:Bool→Int→G.Z→G.O→Rt)(a27:Bool)(a20:Int)(a1:Int)(b0:G.Z)(b104:G.O):Rt:=
 cnd a27 (obL [i6,.rc 0] (c 4 [yI (7:Int),yR 0 b0]) fun(r0:Int×G.Z×Unit)=>
 obL [.rc 2] (c 44 [yI (IntKind.i64.wrap (r0.1-(3:Int)))]) fun(r1:G.O×Unit)=>
 some [yR 2 r1.1,yR 0 r0.2.1]) (cnd (decide (a20=(4:Int))) (obL [.rc 2] (c 45 [yT ([49]:List UInt8),yT ([50]:List UInt8)]) fun(r2:G.O×Unit)=>
 some [yR 2 r2.1,yR 0 b0]) (cnd (decide (a20=(5:Int))) (obL [.rc 2] (c 45 [yT ([45,53]:List UInt8),yT ([51]:List UInt8)]) fun(r3:G.O×Unit)=>
 some [yR 2 r3.1,yR 0 b0]) (cnd (decide (a20=(6:Int))) (obL [i6,.rc 0] (c 4 [yI (3:Int),yR 0 b0]) fun(r4:Int×G.Z×Unit)=>
 ob (slc ([97,98,99]:List UInt8) r4.1 (List.length ([97,98,99]:List UInt8):Int)) fun v5=>
 ob (slc v5 (0:Int) (1:Int)) fun v6=>
 obL [.rc 1] (c 3 [yT v6]) fun(r7:G.Y×Unit)=>
 obL [.rc 2] (c 46 [yR 1 r7.1]) fun(r8:G.O×Unit)=>
 some [yR 2 r8.1,yR 0 r4.2.1]) (cnd (decide (a20=(7:Int))) (obL [i6,.rc 0] (c 4 [yI (3:Int),yR 0 b0]) fun(r9:Int×G.Z×Unit)=>
 ob (slc ([112,113]:List UInt8) (0:Int) r9.1) fun v10=>
 obL [.rc 2] (c 47 [yT v10]) fun(r11:G.O×Unit)=>
 some [yR 2 r11.1,yR 0 r9.2.1]) (cnd (decide (a20=(8:Int))) (obL [.rc 2] (c 44 [yI (0:Int)]) fun(r12:G.O×Unit)=>
 some [yR 2 r12.1,yR 0 b0]) (cnd (decide (a20=(9:Int))) (obL [.rc 2] (c 44 [yI (1:Int)]) fun(r13:G.O×Unit)=>
 some [yR 2 r13.1,yR 0 b0]) (cnd (decide (a20=(10:Int))) (k4 (decide (a20=(10:Int))) a1 b0 b104) (cnd (decide (a20=(11:Int))) (k4 (decide (a20=(11:Int))) a1 b0 b104) (k4 (decide (a20=(12:Int))) a1 b0 b104)))))))))
def V14x3(n:Nt):Bool→Int→Int→G.Z→G.O→Rt:=fun x0 x1 x2 x3 x4=>n [yB x0,yI x1,yI x2,yR 0 x3,yR 2 x4]
def X14x3:=V14x3 (xD uN e [1,1,1,0,0,1,0,1,1,1,1,1,0] aHu (aFR c e))
def B14x4(c:TC0)(e5:Int→Int→Int→List G.O→G.Z→G.O→Rt)(a60:Bool)(a1:Int)(b0:G.Z)(b104:G.O):Rt:=
 cnd a60 (obL [i6,.rc 0] (c 4 [yI (4:Int),yR 0 b0]) fun(r0:Int×G.Z×Unit)=>
 e5 r0.1 a1 (0:Int) ([]:List G.O) r0.2.1 b104) (obL [.rc 2,.rc 0] (c 14 [yI (IntKind.i64.wrap (a1-(1:Int))),yR 0 b0]) fun(r1:G.O×G.Z×Unit)=>
 obL [.rc 2,.rc 0] (c 14 [yI (IntKind.i64.wrap (a1-(1:Int))),yR 0 r1.2.1]) fun(r2:G.O×G.Z×Unit)=>
 obL [.rc 2] (c 48 [yR 2 r1.1,yR 2 r2.1]) fun(r3:G.O×Unit)=>
 some [yR 2 r3.1,yR 0 r2.2.1])
def V14x4(n:Nt):Bool→Int→G.Z→G.O→Rt:=fun x0 x1 x2 x3=>n [yB x0,yI x1,yR 0 x2,yR 2 x3]
def X14x4:=V14x4 (xD uN e [1,1,1,0,0,1,0,1,1,1,1,1,0,1,1,1,1,1,1,1,1,1,1,1,1,1,1,0] aHt (aFR c e))
def B14x5(c:TC0)(n5:Int→Int→Int→List G.O→G.Z→G.O→Rt)(a7:Int)(a1:Int)(a8:Int)(a6:List G.O)(b0:G.Z)(b104:G.O):Rt:=
 cnd (decide (a8<a7)) (obL [.rc 2,.rc 0] (c 14 [yI (IntKind.i64.wrap (a1-(1:Int))),yR 0 b0]) fun(r0:G.O×G.Z×Unit)=>
 chk (Nat.ble ((List.length a6+List.length ([r0.1]:List G.O))*112) 1073741824)<|
 n5 a7 a1 (IntKind.i64.wrap (a8+(1:Int))) (a6++([r0.1]:List G.O)) r0.2.1 b104) (obL [.rc 2] (c 49 [yS 2 a6]) fun(r1:G.O×Unit)=>
 some [yR 2 r1.1,yR 0 b0])
def V14x5(n:Nt):Int→Int→Int→List G.O→G.Z→G.O→Rt:=fun x0 x1 x2 x3 x4 x5=>n [yI x0,yI x1,yI x2,yS 2 x3,yR 0 x4,yR 2 x5]
def X14x5:=V14x5 (xE uN e [1,1,1,0,0,1,0,1,1,1,1,1,0,1,1,1,1,1,1,1,1,1,1,1,1,1,1,0,0,1,1,0,1,0,0] yP (q14x5 c e))
theorem s14x0:V14x0 (xF uN c e)=B14x0 c (X14x1 c e):=by kernel_rfl
theorem s14x1:V14x1 (xA uN c e [1,1,0,1,0] aHw (q14x1 c e))=B14x1 c (X14x2 c e):=by kernel_rfl
theorem s14x2:V14x2 (xA uN c e [1,1,1,0] aHv (q14x0 c e))=B14x2 c (X14x3 c e):=by kernel_rfl
theorem s14x3:V14x3 (xA uN c e [1,1,1,0,0,1,0,1,1,1,1,1,0] aHu (aFR c e))=B14x3 c (X14x4 c e):=by kernel_rfl
theorem s14x4:V14x4 (xA uN c e [1,1,1,0,0,1,0,1,1,1,1,1,0,1,1,1,1,1,1,1,1,1,1,1,1,1,1,0] aHt (aFR c e))=B14x4 c (X14x5 c e):=by kernel_rfl
theorem s14x5(n5:Nt):V14x5 (xA uN c e [1,1,1,0,0,1,0,1,1,1,1,1,0,1,1,1,1,1,1,1,1,1,1,1,1,1,1,0,0,1,1,0,1,0,0] yP (lpK U0 yP n5 (q14x5 c e)))=B14x5 c (V14x5 n5):=by kernel_rfl
def aBY(c:TC0)(L:Nat):Nat→Int→Int→Int→List G.O→G.Z→G.O→Rt
 |0=>fun _ _ _ _ _ _=>none
 |n+1=>B14x5 c (aBY c L n)
theorem u14x5(n:Nat):V14x5 (xL uN c L [1,1,1,0,0,1,0,1,1,1,1,1,0,1,1,1,1,1,1,1,1,1,1,1,1,1,1,0,0,1,1,0,1,0,0] yP (q14x5 c (cu c L)) n)=aBY c L n:=by
 induction n with
 |zero=>rfl
 |succ n ih=>rw[eY,s14x5];simp only[ih];rfl
theorem w14x5:X14x5 c (cu c L)=aBY c L L:=u14x5 c L L
def aE0(c:TC0)(L:Nat):Bool→Int→G.Z→G.O→Rt:=B14x4 c (aBY c L L)
theorem j14x4:X14x4 c (cu c L)=aE0 c L:=by rw[X14x4,aN,s14x4];simp only[w14x5];rfl
def J14x3(c:TC0)(L:Nat):Bool→Int→Int→G.Z→G.O→Rt:=B14x3 c (aE0 c L)
theorem j14x3:X14x3 c (cu c L)=J14x3 c L:=by rw[X14x3,aN,s14x3];simp only[j14x4];rfl
def aII(c:TC0)(L:Nat):Int→Int→G.Z→G.O→Rt:=B14x2 c (J14x3 c L)
theorem j14x2:X14x2 c (cu c L)=aII c L:=by rw[X14x2,aN,s14x2];simp only[j14x3];rfl
def aE1(c:TC0)(L:Nat):Bool→Int→Int→G.Z→G.O→Rt:=B14x1 c (aII c L)
theorem j14x1:X14x1 c (cu c L)=aE1 c L:=by rw[X14x1,aN,s14x1];simp only[j14x2];rfl
def F14(c:TC0)(L:Nat):Int→G.Z→Rt:=B14x0 c (aE1 c L)
theorem e14:V14x0 (xF uN c (cu c L))=F14 c L:=by rw[s14x0];simp only[j14x1];rfl
theorem c14(a1:Int)(b0:G.Z)(L n:Nat):CTp L (n+1) 14 [yI a1,yR 0 b0]=F14 (CTp L n) L a1 b0:=by rw[←e14];exact cg (x:=uN) (by kernel_rfl) (by kernel_rfl) L n _
end
end Go.TV
namespace Go.TV
open Go.AI Go.PI Go.Proofs
set_option maxRecDepth 20000
noncomputable section
variable(c:TC0)(e:Cu)(L:Nat)
def B16x0(c:TC0):Rt:=
 some [⟨(.sl .str),([([99,97,114]:List UInt8),([99,100,114]:List UInt8),([99,111,110,115]:List UInt8),([99,111,110,115,112]:List UInt8),([110,111,116]:List UInt8),([101,113,117,97,108]:List UInt8),([105,102]:List UInt8),([98,105,110,97,114,121,45,43]:List UInt8),([60]:List UInt8),([105,110,116,101,103,101,114,112]:List UInt8),([108,101,110]:List UInt8),([98,105,110,97,114,121,45,97,112,112,101,110,100]:List UInt8),([114,101,118]:List UInt8),([116,114,117,101,45,108,105,115,116,112]:List UInt8),([110,97,116,112]:List UInt8),([112,111,115,112]:List UInt8),([117,110,97,114,121,45,45]:List UInt8),([98,105,110,97,114,121,45,42]:List UInt8),([105,109,112,108,105,101,115]:List UInt8),([115,121,109,98,111,108,112]:List UInt8),([114,97,116,105,111,110,97,108,112]:List UInt8),([102,105,120]:List UInt8),([105,102,102]:List UInt8),([110,102,105,120]:List UInt8),([122,112]:List UInt8)]:List (List UInt8))⟩]
def V16x0(n:Nt):Rt:=n []
theorem s16x0:V16x0 (xF ii16 c e)=B16x0 c:=by kernel_rfl
def F16(c:TC0)(L:Nat):Rt:=B16x0 c
theorem e16:V16x0 (xF ii16 c (cu c L))=F16 c L:=s16x0 _ _
theorem c16(L n:Nat):CTp L (n+1) 16 []=F16 (CTp L n) L:=by rw[←e16];exact cg (x:=ii16) (by kernel_rfl) (by kernel_rfl) L n _
def B17x0(c:TC0):Rt:=
 some [⟨(.sl .str),([([100,117,98]:List UInt8),([115,97,109,101,45,108,101,110]:List UInt8),([112,97,105,114,115]:List UInt8),([100,117,98,115]:List UInt8),([116,114,101,101]:List UInt8),([101,118,101,110,115]:List UInt8),([111,100,100,115]:List UInt8),([120,111,114,50]:List UInt8)]:List (List UInt8))⟩]
def V17x0(n:Nt):Rt:=n []
theorem s17x0:V17x0 (xF ii17 c e)=B17x0 c:=by kernel_rfl
def F17(c:TC0)(L:Nat):Rt:=B17x0 c
theorem e17:V17x0 (xF ii17 c (cu c L))=F17 c L:=s17x0 _ _
theorem c17(L n:Nat):CTp L (n+1) 17 []=F17 (CTp L n) L:=by rw[←e17];exact cg (x:=ii17) (by kernel_rfl) (by kernel_rfl) L n _
def B19x0(c:TC0)(a0:List G.E)(a1:G.Y):Rt:=
 obL [i6,.bool] (c 50 [yR 1 a1]) fun(r0:Int×Bool×Unit)=>
 cnd r0.2.1 (some [yI r0.1,yB true]) (obL [.rc 8,.bool] (c 51 [yS 16 a0,yR 1 a1]) fun(r1:G.F×Bool×Unit)=>
 cnd (!r1.2.1) (some [yI (0:Int),yB false]) (some [yI (List.length r1.1.params:Int),yB true]))
def V19x0(n:Nt):List G.E→G.Y→Rt:=fun x0 x1=>n [yS 16 x0,yR 1 x1]
theorem s19x0:V19x0 (xF ii19 c e)=B19x0 c:=by kernel_rfl
def F19(c:TC0)(L:Nat):List G.E→G.Y→Rt:=B19x0 c
theorem e19:V19x0 (xF ii19 c (cu c L))=F19 c L:=s19x0 _ _
theorem c19(a0:List G.E)(a1:G.Y)(L n:Nat):CTp L (n+1) 19 [yS 16 a0,yR 1 a1]=F19 (CTp L n) L a0 a1:=by rw[←e19];exact cg (x:=ii19) (by kernel_rfl) (by kernel_rfl) L n _
def q21x0(c:TC0)(e:Cu):Kt:=xK ii21
def q21x1(c:TC0)(e:Cu):Kt:=xT ii21 c e [1,1] (q21x0 c e)
def q21x2(c:TC0)(e:Cu):Kt:=cN U0 0 (q21x1 c e)
def B21x0(c:TC0)(e1:Int→List G.I→Int→G.Y→G.T→Rt)(a0:List G.I)(a1:G.Y):Rt:=
 e1 (List.length a0:Int) a0 (0:Int) a1 (G.T.mk (0:Int) (G.Y.mk ([]:List UInt8) ([]:List UInt8)) (G.O.mk (0:Int) ([]:List UInt8) ([]:List UInt8) (G.Y.mk ([]:List UInt8) ([]:List UInt8)) ([]:List UInt8) ([]:List G.O)) ([]:List G.T))
def V21x0(n:Nt):List G.I→G.Y→Rt:=fun x0 x1=>n [yS 6 x0,yR 1 x1]
def B21x1(c:TC0)(n1:Int→List G.I→Int→G.Y→G.T→Rt)(a8:Int)(a7:List G.I)(a9:Int)(b103:G.Y)(b104:G.T):Rt:=
 cnd (decide (a9<a8)) (ob (idx a7 a9) fun v0=>
 cnd (decide (v0.var=b103)) (some [yR 3 v0.term]) (n1 a8 a7 (IntKind.i64.wrap (a9+(1:Int))) b103 b104)) (obL [.rc 3] (c 52 [yR 1 b103]) fun(r1:G.T×Unit)=>
 some [yR 3 r1.1])
def V21x1(n:Nt):Int→List G.I→Int→G.Y→G.T→Rt:=fun x0 x1 x2 x3 x4=>n [yI x0,yS 6 x1,yI x2,yR 1 x3,yR 3 x4]
def X21x1:=V21x1 (xE ii21 e [1,0,1,0,0] yO (q21x2 c e))
theorem s21x0:V21x0 (xF ii21 c e)=B21x0 c (X21x1 c e):=by kernel_rfl
theorem s21x1(n1:Nt):V21x1 (xA ii21 c e [1,0,1,0,0] yO (lpK U0 yO n1 (q21x2 c e)))=B21x1 c (V21x1 n1):=by kernel_rfl
def aBX(c:TC0)(L:Nat):Nat→Int→List G.I→Int→G.Y→G.T→Rt
 |0=>fun _ _ _ _ _=>none
 |n+1=>B21x1 c (aBX c L n)
theorem u21x1(n:Nat):V21x1 (xL ii21 c L [1,0,1,0,0] yO (q21x2 c (cu c L)) n)=aBX c L n:=by
 induction n with
 |zero=>rfl
 |succ n ih=>rw[eY,s21x1];simp only[ih];rfl
theorem w21x1:X21x1 c (cu c L)=aBX c L L:=u21x1 c L L
def F21(c:TC0)(L:Nat):List G.I→G.Y→Rt:=B21x0 c (aBX c L L)
theorem e21:V21x0 (xF ii21 c (cu c L))=F21 c L:=by rw[s21x0];simp only[w21x1];rfl
theorem c21(a0:List G.I)(a1:G.Y)(L n:Nat):CTp L (n+1) 21 [yS 6 a0,yR 1 a1]=F21 (CTp L n) L a0 a1:=by rw[←e21];exact cg (x:=ii21) (by kernel_rfl) (by kernel_rfl) L n _
def q22x0(c:TC0)(e:Cu):Kt:=xK ii22
def B22x0(c:TC0)(k1:Bool→Rt)(a0:G.T)(a1:G.T):Rt:=
 cnd (decide (a0.kind=a1.kind)) (cnd (decide (a0.name=a1.name)) (obL [.bool] (c 53 [yR 2 a0.value,yR 2 a1.value]) fun(r0:Bool×Unit)=>
 cnd r0.1 (obL [.bool] (c 54 [yS 3 a0.args,yS 3 a1.args]) fun(r1:Bool×Unit)=>
 k1 r1.1) (k1 false)) (k1 false)) (k1 false)
def V22x0(n:Nt):G.T→G.T→Rt:=fun x0 x1=>n [yR 3 x0,yR 3 x1]
def B22x1(c:TC0)(a4:Bool):Rt:=
 some [yB a4]
def V22x1(n:Nt):Bool→Rt:=fun x0=>n [yB x0]
def X22x1:=V22x1 (xD ii22 e [1,1,0] aHs (q22x0 c e))
theorem s22x0:V22x0 (xF ii22 c e)=B22x0 c (X22x1 c e):=by kernel_rfl
theorem s22x1:V22x1 (xA ii22 c e [1,1,0] aHs (q22x0 c e))=B22x1 c:=by kernel_rfl
def J22x1(c:TC0)(L:Nat):Bool→Rt:=B22x1 c
theorem j22x1:X22x1 c (cu c L)=J22x1 c L:=by rw[X22x1,aN,s22x1];rfl
def F22(c:TC0)(L:Nat):G.T→G.T→Rt:=B22x0 c (J22x1 c L)
theorem e22:V22x0 (xF ii22 c (cu c L))=F22 c L:=by rw[s22x0];simp only[j22x1];rfl
theorem c22(a0:G.T)(a1:G.T)(L n:Nat):CTp L (n+1) 22 [yR 3 a0,yR 3 a1]=F22 (CTp L n) L a0 a1:=by rw[←e22];exact cg (x:=ii22) (by kernel_rfl) (by kernel_rfl) L n _
def q23x0(c:TC0)(e:Cu):Kt:=xK ii23
def q23x1(c:TC0)(e:Cu):Kt:=xT ii23 c e [1,1,1] (q23x0 c e)
def B23x0(c:TC0)(k1:Int→G.T→G.T→Rt)(a0:G.T)(a1:G.T):Rt:=
 obL [.rc 19] (c 55 [yR 3 a0,yR 19 (G.Arr3Int.mk (0:Int) (0:Int) (0:Int))]) fun(r0:G.Arr3Int×Unit)=>
 obL [.rc 19] (c 55 [yR 3 a1,yR 19 (G.Arr3Int.mk (0:Int) (0:Int) (0:Int))]) fun(r1:G.Arr3Int×Unit)=>
 cnd (decide (r0.1.a0<r1.1.a0)) (k1 (-1:Int) a0 a1) (cnd (decide (r1.1.a0<r0.1.a0)) (k1 (1:Int) a0 a1) (cnd (decide (r0.1.a1<r1.1.a1)) (k1 (-1:Int) a0 a1) (cnd (decide (r1.1.a1<r0.1.a1)) (k1 (1:Int) a0 a1) (cnd (decide (r0.1.a2<r1.1.a2)) (k1 (-1:Int) a0 a1) (cnd (decide (r1.1.a2<r0.1.a2)) (k1 (1:Int) a0 a1) (k1 (0:Int) a0 a1))))))
def V23x0(n:Nt):G.T→G.T→Rt:=fun x0 x1=>n [yR 3 x0,yR 3 x1]
def B23x1(c:TC0)(a7:Int)(b102:G.T)(b103:G.T):Rt:=
 cnd (!decide (a7=(0:Int))) (some [yI a7]) (obL [i6] (c 56 [yR 3 b102,yR 3 b103]) fun(r0:Int×Unit)=>
 some [yI r0.1])
def V23x1(n:Nt):Int→G.T→G.T→Rt:=fun x0 x1 x2=>n [yI x0,yR 3 x1,yR 3 x2]
def X23x1:=V23x1 (xD ii23 e [1,1,0,1,0] aHr (q23x1 c e))
theorem s23x0:V23x0 (xF ii23 c e)=B23x0 c (X23x1 c e):=by kernel_rfl
theorem s23x1:V23x1 (xA ii23 c e [1,1,0,1,0] aHr (q23x1 c e))=B23x1 c:=by kernel_rfl
def nV(c:TC0)(L:Nat):Int→G.T→G.T→Rt:=B23x1 c
theorem j23x1:X23x1 c (cu c L)=nV c L:=by rw[X23x1,aN,s23x1];rfl
def F23(c:TC0)(L:Nat):G.T→G.T→Rt:=B23x0 c (nV c L)
theorem e23:V23x0 (xF ii23 c (cu c L))=F23 c L:=by rw[s23x0];simp only[j23x1];rfl
theorem c23(a0:G.T)(a1:G.T)(L n:Nat):CTp L (n+1) 23 [yR 3 a0,yR 3 a1]=F23 (CTp L n) L a0 a1:=by rw[←e23];exact cg (x:=ii23) (by kernel_rfl) (by kernel_rfl) L n _
def q24x0(c:TC0)(e:Cu):Kt:=xK ii24
def q24x1(c:TC0)(e:Cu):Kt:=xT ii24 c e [1,1] (q24x0 c e)
def q24x2(c:TC0)(e:Cu):Kt:=cN U0 0 (q24x1 c e)
def B24x0(c:TC0)(e1:List G.I→Int→G.Y→G.T→Rt)(a0:List G.I)(a1:G.Y):Rt:=
 e1 a0 (0:Int) a1 (G.T.mk (0:Int) (G.Y.mk ([]:List UInt8) ([]:List UInt8)) (G.O.mk (0:Int) ([]:List UInt8) ([]:List UInt8) (G.Y.mk ([]:List UInt8) ([]:List UInt8)) ([]:List UInt8) ([]:List G.O)) ([]:List G.T))
def V24x0(n:Nt):List G.I→G.Y→Rt:=fun x0 x1=>n [yS 6 x0,yR 1 x1]
def B24x1(c:TC0)(n1:List G.I→Int→G.Y→G.T→Rt)(a0:List G.I)(a5:Int)(b103:G.Y)(b104:G.T):Rt:=
 cnd (decide (a5<(List.length a0:Int))) (ob (idx a0 a5) fun v0=>
 cnd (decide (v0.var=b103)) (ob (idx a0 a5) fun v1=>
 some [yR 3 v1.term]) (n1 a0 (IntKind.i64.wrap (a5+(1:Int))) b103 b104)) (obL [.rc 3] (c 27 [yR 1 b103]) fun(r2:G.T×Unit)=>
 some [yR 3 r2.1])
def V24x1(n:Nt):List G.I→Int→G.Y→G.T→Rt:=fun x0 x1 x2 x3=>n [yS 6 x0,yI x1,yR 1 x2,yR 3 x3]
def X24x1:=V24x1 (xE ii24 e [1,0,1,0,0] yN (q24x2 c e))
theorem s24x0:V24x0 (xF ii24 c e)=B24x0 c (X24x1 c e):=by kernel_rfl
theorem s24x1(n1:Nt):V24x1 (xA ii24 c e [1,0,1,0,0] yN (lpK U0 yN n1 (q24x2 c e)))=B24x1 c (V24x1 n1):=by kernel_rfl
def aBW(c:TC0)(L:Nat):Nat→List G.I→Int→G.Y→G.T→Rt
 |0=>fun _ _ _ _=>none
 |n+1=>B24x1 c (aBW c L n)
theorem u24x1(n:Nat):V24x1 (xL ii24 c L [1,0,1,0,0] yN (q24x2 c (cu c L)) n)=aBW c L n:=by
 induction n with
 |zero=>rfl
 |succ n ih=>rw[eY,s24x1];simp only[ih];rfl
theorem w24x1:X24x1 c (cu c L)=aBW c L L:=u24x1 c L L
def F24(c:TC0)(L:Nat):List G.I→G.Y→Rt:=B24x0 c (aBW c L L)
theorem e24:V24x0 (xF ii24 c (cu c L))=F24 c L:=by rw[s24x0];simp only[w24x1];rfl
theorem c24(a0:List G.I)(a1:G.Y)(L n:Nat):CTp L (n+1) 24 [yS 6 a0,yR 1 a1]=F24 (CTp L n) L a0 a1:=by rw[←e24];exact cg (x:=ii24) (by kernel_rfl) (by kernel_rfl) L n _
def q25x0(c:TC0)(e:Cu):Kt:=xK ii25
def B25x0(c:TC0)(k1:Bool→Rt)(a0:G.T)(a1:G.T):Rt:=
 cnd (decide (a0.kind=a1.kind)) (cnd (decide (a0.name=a1.name)) (obL [.bool] (c 57 [yR 2 a0.value,yR 2 a1.value]) fun(r0:Bool×Unit)=>
 cnd r0.1 (obL [.bool] (c 58 [yS 3 a0.args,yS 3 a1.args]) fun(r1:Bool×Unit)=>
 k1 r1.1) (k1 false)) (k1 false)) (k1 false)
def V25x0(n:Nt):G.T→G.T→Rt:=fun x0 x1=>n [yR 3 x0,yR 3 x1]
def B25x1(c:TC0)(a4:Bool):Rt:=
 some [yB a4]
def V25x1(n:Nt):Bool→Rt:=fun x0=>n [yB x0]
def X25x1:=V25x1 (xD ii25 e [1,1,0] aHq (q25x0 c e))
theorem s25x0:V25x0 (xF ii25 c e)=B25x0 c (X25x1 c e):=by kernel_rfl
theorem s25x1:V25x1 (xA ii25 c e [1,1,0] aHq (q25x0 c e))=B25x1 c:=by kernel_rfl
def J25x1(c:TC0)(L:Nat):Bool→Rt:=B25x1 c
theorem j25x1:X25x1 c (cu c L)=J25x1 c L:=by rw[X25x1,aN,s25x1];rfl
def F25(c:TC0)(L:Nat):G.T→G.T→Rt:=B25x0 c (J25x1 c L)
theorem e25:V25x0 (xF ii25 c (cu c L))=F25 c L:=by rw[s25x0];simp only[j25x1];rfl
theorem c25(a0:G.T)(a1:G.T)(L n:Nat):CTp L (n+1) 25 [yR 3 a0,yR 3 a1]=F25 (CTp L n) L a0 a1:=by rw[←e25];exact cg (x:=ii25) (by kernel_rfl) (by kernel_rfl) L n _
def B26x0(c:TC0)(a0:G.T)(a1:G.T):Rt:=
 obL [i6,i6,i6] (c 59 [yR 3 a0]) fun(r0:Int×Int×Int×Unit)=>
 obL [i6,i6,i6] (c 59 [yR 3 a1]) fun(r1:Int×Int×Int×Unit)=>
 cnd (!decide (r0.1=r1.1)) (obL [i6] (c 60 [yI r0.1,yI r1.1]) fun(r2:Int×Unit)=>
 some [yI r2.1]) (cnd (!decide (r0.2.1=r1.2.1)) (obL [i6] (c 60 [yI r0.2.1,yI r1.2.1]) fun(r3:Int×Unit)=>
 some [yI r3.1]) (cnd (!decide (r0.2.2.1=r1.2.2.1)) (obL [i6] (c 60 [yI r0.2.2.1,yI r1.2.2.1]) fun(r4:Int×Unit)=>
 some [yI r4.1]) (obL [i6] (c 61 [yR 3 a0,yR 3 a1]) fun(r5:Int×Unit)=>
 some [yI r5.1])))
def V26x0(n:Nt):G.T→G.T→Rt:=fun x0 x1=>n [yR 3 x0,yR 3 x1]
theorem s26x0:V26x0 (xF ii26 c e)=B26x0 c:=by kernel_rfl
def F26(c:TC0)(L:Nat):G.T→G.T→Rt:=B26x0 c
theorem e26:V26x0 (xF ii26 c (cu c L))=F26 c L:=s26x0 _ _
theorem c26(a0:G.T)(a1:G.T)(L n:Nat):CTp L (n+1) 26 [yR 3 a0,yR 3 a1]=F26 (CTp L n) L a0 a1:=by rw[←e26];exact cg (x:=ii26) (by kernel_rfl) (by kernel_rfl) L n _
def B27x0(c:TC0)(a0:G.Y):Rt:=
 some [yR 3 (G.T.mk (1:Int) a0 (G.O.mk (0:Int) ([]:List UInt8) ([]:List UInt8) (G.Y.mk ([]:List UInt8) ([]:List UInt8)) ([]:List UInt8) ([]:List G.O)) ([]:List G.T))]
def V27x0(n:Nt):G.Y→Rt:=fun x0=>n [yR 1 x0]
theorem s27x0:V27x0 (xF ii27 c e)=B27x0 c:=by kernel_rfl
def F27(c:TC0)(L:Nat):G.Y→Rt:=B27x0 c
theorem e27:V27x0 (xF ii27 c (cu c L))=F27 c L:=s27x0 _ _
theorem c27(a0:G.Y)(L n:Nat):CTp L (n+1) 27 [yR 1 a0]=F27 (CTp L n) L a0:=by rw[←e27];exact cg (x:=ii27) (by kernel_rfl) (by kernel_rfl) L n _
def B29x0(c:TC0):Rt:=
 obL [zS 9] (c 62 []) fun(r0:List G.A×Unit)=>
 obL [.str] (c 63 []) fun(r1:List UInt8×Unit)=>
 obL [zS 2,.rc 20] (c 64 [yS 9 r0.1,yT ([108,105,115,112]:List UInt8),yT r1.1]) fun(r2:List G.O×G.X×Unit)=>
 some [yS 2 r2.1]
def V29x0(n:Nt):Rt:=n []
theorem s29x0:V29x0 (xF ii29 c e)=B29x0 c:=by kernel_rfl
def F29(c:TC0)(L:Nat):Rt:=B29x0 c
theorem e29:V29x0 (xF ii29 c (cu c L))=F29 c L:=s29x0 _ _
theorem c29(L n:Nat):CTp L (n+1) 29 []=F29 (CTp L n) L:=by rw[←e29];exact cg (x:=ii29) (by kernel_rfl) (by kernel_rfl) L n _
def B31x0(c:TC0)(a0:List UInt8):Rt:=
 some [yR 1 (G.Y.mk ([108,105,115,112]:List UInt8) a0)]
def V31x0(n:Nt):List UInt8→Rt:=fun x0=>n [yT x0]
theorem s31x0:V31x0 (xF ii31 c e)=B31x0 c:=by kernel_rfl
def F31(c:TC0)(L:Nat):List UInt8→Rt:=B31x0 c
theorem e31:V31x0 (xF ii31 c (cu c L))=F31 c L:=s31x0 _ _
theorem c31(a0:List UInt8)(L n:Nat):CTp L (n+1) 31 [yT a0]=F31 (CTp L n) L a0:=by rw[←e31];exact cg (x:=ii31) (by kernel_rfl) (by kernel_rfl) L n _
def q50x0(c:TC0)(e:Cu):Kt:=xK ii50
def q50x1(c:TC0)(e:Cu):Kt:=xT ii50 c e [1,1,1,1] (q50x0 c e)
def q50x2(c:TC0)(e:Cu):Kt:=cN U0 0 (q50x1 c e)
def B50x0(c:TC0)(e1:List G.R→Int→G.Y→Rt)(a0:G.Y):Rt:=
 cnd (!decide (a0.package=([108,105,115,112]:List UInt8))) (some [yI (0:Int),yB false]) (obL [zS 21] (c 72 []) fun(r0:List G.R×Unit)=>
 e1 r0.1 (0:Int) a0)
def V50x0(n:Nt):G.Y→Rt:=fun x0=>n [yR 1 x0]
def B50x1(c:TC0)(n1:List G.R→Int→G.Y→Rt)(a4:List G.R)(a5:Int)(b101:G.Y):Rt:=
 cnd (decide (a5<(List.length a4:Int))) (ob (idx a4 a5) fun v0=>
 cnd (decide (v0.name=b101.name)) (ob (idx a4 a5) fun v1=>
 some [yI v1.arity,yB true]) (n1 a4 (IntKind.i64.wrap (a5+(1:Int))) b101)) (some [yI (0:Int),yB false])
def V50x1(n:Nt):List G.R→Int→G.Y→Rt:=fun x0 x1 x2=>n [yS 21 x0,yI x1,yR 1 x2]
def X50x1:=V50x1 (xE ii50 e [1,1,1,0,1,0,0] yM (q50x2 c e))
theorem s50x0:V50x0 (xF ii50 c e)=B50x0 c (X50x1 c e):=by kernel_rfl
theorem s50x1(n1:Nt):V50x1 (xA ii50 c e [1,1,1,0,1,0,0] yM (lpK U0 yM n1 (q50x2 c e)))=B50x1 c (V50x1 n1):=by kernel_rfl
def aBV(c:TC0)(L:Nat):Nat→List G.R→Int→G.Y→Rt
 |0=>fun _ _ _=>none
 |n+1=>B50x1 c (aBV c L n)
theorem u50x1(n:Nat):V50x1 (xL ii50 c L [1,1,1,0,1,0,0] yM (q50x2 c (cu c L)) n)=aBV c L n:=by
 induction n with
 |zero=>rfl
 |succ n ih=>rw[eY,s50x1];simp only[ih];rfl
theorem w50x1:X50x1 c (cu c L)=aBV c L L:=u50x1 c L L
def F50(c:TC0)(L:Nat):G.Y→Rt:=B50x0 c (aBV c L L)
theorem e50:V50x0 (xF ii50 c (cu c L))=F50 c L:=by rw[s50x0];simp only[w50x1];rfl
theorem c50(a0:G.Y)(L n:Nat):CTp L (n+1) 50 [yR 1 a0]=F50 (CTp L n) L a0:=by rw[←e50];exact cg (x:=ii50) (by kernel_rfl) (by kernel_rfl) L n _
def B51x0(c:TC0)(a0:List G.E)(a1:G.Y):Rt:=
 obL [i6,i6,.bool] (c 73 [yS 16 a0,yR 1 a1]) fun(r0:Int×Int×Bool×Unit)=>
 cnd (!r0.2.2.1) (some [yR 8 (G.F.mk (G.Y.mk ([]:List UInt8) ([]:List UInt8)) ([]:List G.Y) (0:Int) (G.T.mk (0:Int) (G.Y.mk ([]:List UInt8) ([]:List UInt8)) (G.O.mk (0:Int) ([]:List UInt8) ([]:List UInt8) (G.Y.mk ([]:List UInt8) ([]:List UInt8)) ([]:List UInt8) ([]:List G.O)) ([]:List G.T)) (G.T.mk (0:Int) (G.Y.mk ([]:List UInt8) ([]:List UInt8)) (G.O.mk (0:Int) ([]:List UInt8) ([]:List UInt8) (G.Y.mk ([]:List UInt8) ([]:List UInt8)) ([]:List UInt8) ([]:List G.O)) ([]:List G.T)) (G.T.mk (0:Int) (G.Y.mk ([]:List UInt8) ([]:List UInt8)) (G.O.mk (0:Int) ([]:List UInt8) ([]:List UInt8) (G.Y.mk ([]:List UInt8) ([]:List UInt8)) ([]:List UInt8) ([]:List G.O)) ([]:List G.T))),yB false]) (ob (idx a0 r0.1) fun v1=>
 obL [zS 8] (c 74 [yR 16 v1]) fun(r2:List G.F×Unit)=>
 ob (idx r2.1 r0.2.1) fun v3=>
 some [yR 8 v3,yB true])
def V51x0(n:Nt):List G.E→G.Y→Rt:=fun x0 x1=>n [yS 16 x0,yR 1 x1]
theorem s51x0:V51x0 (xF ii51 c e)=B51x0 c:=by kernel_rfl
def F51(c:TC0)(L:Nat):List G.E→G.Y→Rt:=B51x0 c
theorem e51:V51x0 (xF ii51 c (cu c L))=F51 c L:=s51x0 _ _
theorem c51(a0:List G.E)(a1:G.Y)(L n:Nat):CTp L (n+1) 51 [yS 16 a0,yR 1 a1]=F51 (CTp L n) L a0 a1:=by rw[←e51];exact cg (x:=ii51) (by kernel_rfl) (by kernel_rfl) L n _
def B52x0(c:TC0)(a0:G.Y):Rt:=
 some [yR 3 (G.T.mk (1:Int) a0 (G.O.mk (0:Int) ([]:List UInt8) ([]:List UInt8) (G.Y.mk ([]:List UInt8) ([]:List UInt8)) ([]:List UInt8) ([]:List G.O)) ([]:List G.T))]
def V52x0(n:Nt):G.Y→Rt:=fun x0=>n [yR 1 x0]
theorem s52x0:V52x0 (xF ii52 c e)=B52x0 c:=by kernel_rfl
def F52(c:TC0)(L:Nat):G.Y→Rt:=B52x0 c
theorem e52:V52x0 (xF ii52 c (cu c L))=F52 c L:=s52x0 _ _
theorem c52(a0:G.Y)(L n:Nat):CTp L (n+1) 52 [yR 1 a0]=F52 (CTp L n) L a0:=by rw[←e52];exact cg (x:=ii52) (by kernel_rfl) (by kernel_rfl) L n _
def q53x0(c:TC0)(e:Cu):Kt:=xK aAG
def q53x1(c:TC0)(e:Cu):Kt:=cN U0 0 (q53x0 c e)
def q53x2(c:TC0)(e:Cu)(n1:Nt):Kt:=lpK U0 sT n1 (q53x1 c e)
def q53x3(c:TC0)(e:Cu)(n1:Nt):Kt:=cN U0 1 (q53x2 c e n1)
def q53x4(c:TC0)(e:Cu)(n1:Nt):Kt:=xT aAG c e [1,0,0,0,1] (q53x3 c e n1)
def q53x5(c:TC0)(e:Cu)(n1:Nt):Kt:=xT aAG c e [1,0,0,0,1,1,1,1] (q53x3 c e n1)
def q53x6(c:TC0)(e:Cu)(n1:Nt):Kt:=cN U0 2 (q53x5 c e n1)
def B53x0(c:TC0)(e1:G.O→G.O→Rt)(a0:G.O)(a1:G.O):Rt:=
 e1 a0 a1
def V53x0(n:Nt):G.O→G.O→Rt:=fun x0 x1=>n [yR 2 x0,yR 2 x1]
def B53x1(c:TC0)(k2:Bool→G.O→G.O→Rt)(b102:G.O)(b103:G.O):Rt:=
 cnd (!decide (b102.kind=b103.kind)) (k2 true b102 b103) (cnd (!decide (b102.num=b103.num)) (k2 true b102 b103) (cnd (!decide (b102.den=b103.den)) (k2 true b102 b103) (cnd (!decide (b102.sym=b103.sym)) (k2 true b102 b103) (cnd (!decide (b102.text=b103.text)) (k2 true b102 b103) (k2 (!decide ((List.length b102.pair:Int)=(List.length b103.pair:Int))) b102 b103)))))
def aBZ(n:Nt):G.O→G.O→Rt:=fun x0 x1=>n [yR 2 x0,yR 2 x1]
def X53x1:=aBZ (xE aAG e [1,0,0] sT (q53x1 c e))
def B53x2(c:TC0)(e3:Int→Int→Int→G.O→G.O→Rt)(a48:Bool)(b102:G.O)(b103:G.O):Rt:=
 cnd a48 (some [yB false]) (cnd (decide ((List.length b102.pair:Int)=(0:Int))) (some [yB true]) (e3 (IntKind.i64.wrap ((List.length b102.pair:Int)-(1:Int))) (0:Int) (List.length b102.pair:Int) b102 b103))
def V53x2(n:Nt):Bool→G.O→G.O→Rt:=fun x0 x1 x2=>n [yB x0,yR 2 x1,yR 2 x2]
def X53x2(n1:Nt):=V53x2 (xD aAG e [1,0,0,0,0,1,0] aHo (q53x4 c e n1))
def B53x3(c:TC0)(n3:Int→Int→Int→G.O→G.O→Rt)(n1:G.O→G.O→Rt)(a55:Int)(a56:Int)(a5:Int)(b102:G.O)(b103:G.O):Rt:=
 cnd (decide (a56<a55)) (ob (idx b102.pair a56) fun v0=>
 ob (idx b103.pair a56) fun v1=>
 obL [.bool] (c 53 [yR 2 v0,yR 2 v1]) fun(r2:Bool×Unit)=>
 cnd (!r2.1) (some [yB false]) (n3 a55 (IntKind.i64.wrap (a56+(1:Int))) a5 b102 b103)) (ob (idx b102.pair (IntKind.i64.wrap (a5-(1:Int)))) fun v3=>
 ob (idx b103.pair (IntKind.i64.wrap (a5-(1:Int)))) fun v4=>
 n1 v3 v4)
def V53x3(n:Nt):Int→Int→Int→G.O→G.O→Rt:=fun x0 x1 x2 x3 x4=>n [yI x0,yI x1,yI x2,yR 2 x3,yR 2 x4]
def X53x3(n1:Nt):=V53x3 (xE aAG e [1,0,0,0,1,1,1,0,1,0,0] yL (q53x6 c e n1))
theorem s53x0:V53x0 (xF aAG c e)=B53x0 c (X53x1 c e):=by kernel_rfl
theorem s53x1(n1:Nt):aBZ (xA aAG c e [1,0,0] sT (lpK U0 sT n1 (q53x1 c e)))=B53x1 c (X53x2 c e n1):=by kernel_rfl
theorem s53x2(n1:Nt):V53x2 (xA aAG c e [1,0,0,0,0,1,0] aHo (q53x4 c e n1))=B53x2 c (X53x3 c e n1):=by kernel_rfl
theorem s53x3(n3:Nt)(n1:Nt):V53x3 (xA aAG c e [1,0,0,0,1,1,1,0,1,0,0] yL (lpK U0 yL n3 (q53x6 c e n1)))=B53x3 c (V53x3 n3) (aBZ n1):=by kernel_rfl
def aBU(c:TC0)(L:Nat)(n1:G.O→G.O→Rt):Nat→Int→Int→Int→G.O→G.O→Rt
 |0=>fun _ _ _ _ _=>none
 |n+1=>B53x3 c (aBU c L n1 n) n1
theorem u53x3(n1:Nt)(n:Nat):V53x3 (xL aAG c L [1,0,0,0,1,1,1,0,1,0,0] yL (q53x6 c (cu c L) n1) n)=aBU c L (aBZ n1) n:=by
 induction n with
 |zero=>rfl
 |succ n ih=>rw[eY,s53x3];simp only[ih];rfl
theorem w53x3(n1:Nt):X53x3 c (cu c L) n1=aBU c L (aBZ n1) L:=u53x3 c L n1 L
def J53x2(c:TC0)(L:Nat)(n1:G.O→G.O→Rt):Bool→G.O→G.O→Rt:=B53x2 c (aBU c L n1 L)
theorem j53x2(n1:Nt):X53x2 c (cu c L) n1=J53x2 c L (aBZ n1):=by rw[X53x2,aN,s53x2];simp only[w53x3];rfl
def zI(c:TC0)(L:Nat):Nat→G.O→G.O→Rt
 |0=>fun _ _=>none
 |n+1=>B53x1 c (J53x2 c L (zI c L n))
theorem u53x1(n:Nat):aBZ (xL aAG c L [1,0,0] sT (q53x1 c (cu c L)) n)=zI c L n:=by
 induction n with
 |zero=>rfl
 |succ n ih=>rw[eY,s53x1];simp only[j53x2,ih];rfl
theorem w53x1:X53x1 c (cu c L)=zI c L L:=u53x1 c L L
def F53(c:TC0)(L:Nat):G.O→G.O→Rt:=B53x0 c (zI c L L)
theorem e53:V53x0 (xF aAG c (cu c L))=F53 c L:=by rw[s53x0];simp only[w53x1];rfl
theorem c53(a0:G.O)(a1:G.O)(L n:Nat):CTp L (n+1) 53 [yR 2 a0,yR 2 a1]=F53 (CTp L n) L a0 a1:=by rw[←e53];exact cg (x:=aAG) (by kernel_rfl) (by kernel_rfl) L n _
def q54x0(c:TC0)(e:Cu):Kt:=xK ii54
def q54x1(c:TC0)(e:Cu):Kt:=xT ii54 c e [1,1,1] (q54x0 c e)
def q54x2(c:TC0)(e:Cu):Kt:=cN U0 0 (q54x1 c e)
def B54x0(c:TC0)(e1:Int→List G.T→List G.T→Int→Rt)(a0:List G.T)(a1:List G.T):Rt:=
 cnd (!decide ((List.length a0:Int)=(List.length a1:Int))) (some [yB false]) (e1 (List.length a0:Int) a0 a1 (0:Int))
def V54x0(n:Nt):List G.T→List G.T→Rt:=fun x0 x1=>n [yS 3 x0,yS 3 x1]
def B54x1(c:TC0)(n1:Int→List G.T→List G.T→Int→Rt)(a16:Int)(a15:List G.T)(a1:List G.T)(a17:Int):Rt:=
 cnd (decide (a17<a16)) (ob (idx a15 a17) fun v0=>
 ob (idx a1 a17) fun v1=>
 obL [.bool] (c 22 [yR 3 v0,yR 3 v1]) fun(r2:Bool×Unit)=>
 cnd (!r2.1) (some [yB false]) (n1 a16 a15 a1 (IntKind.i64.wrap (a17+(1:Int))))) (some [yB true])
def V54x1(n:Nt):Int→List G.T→List G.T→Int→Rt:=fun x0 x1 x2 x3=>n [yI x0,yS 3 x1,yS 3 x2,yI x3]
def X54x1:=V54x1 (xE ii54 e [1,1,0,1,0,0] yK (q54x2 c e))
theorem s54x0:V54x0 (xF ii54 c e)=B54x0 c (X54x1 c e):=by kernel_rfl
theorem s54x1(n1:Nt):V54x1 (xA ii54 c e [1,1,0,1,0,0] yK (lpK U0 yK n1 (q54x2 c e)))=B54x1 c (V54x1 n1):=by kernel_rfl
def aBT(c:TC0)(L:Nat):Nat→Int→List G.T→List G.T→Int→Rt
 |0=>fun _ _ _ _=>none
 |n+1=>B54x1 c (aBT c L n)
theorem u54x1(n:Nat):V54x1 (xL ii54 c L [1,1,0,1,0,0] yK (q54x2 c (cu c L)) n)=aBT c L n:=by
 induction n with
 |zero=>rfl
 |succ n ih=>rw[eY,s54x1];simp only[ih];rfl
theorem w54x1:X54x1 c (cu c L)=aBT c L L:=u54x1 c L L
def F54(c:TC0)(L:Nat):List G.T→List G.T→Rt:=B54x0 c (aBT c L L)
theorem e54:V54x0 (xF ii54 c (cu c L))=F54 c L:=by rw[s54x0];simp only[w54x1];rfl
theorem c54(a0:List G.T)(a1:List G.T)(L n:Nat):CTp L (n+1) 54 [yS 3 a0,yS 3 a1]=F54 (CTp L n) L a0 a1:=by rw[←e54];exact cg (x:=ii54) (by kernel_rfl) (by kernel_rfl) L n _
def q55x0(c:TC0)(e:Cu):Kt:=xK aGI
def q55x1(c:TC0)(e:Cu):Kt:=xT aGI c e [1,1] (q55x0 c e)
def q55x2(c:TC0)(e:Cu):Kt:=cN U0 0 (q55x1 c e)
def q55x3(c:TC0)(e:Cu):Kt:=cN U0 1 (q55x2 c e)
def B55x0(c:TC0)(k1:G.Arr3Int→G.Arr3Int→Rt)(e2:Int→List G.T→Int→G.Arr3Int→G.Arr3Int→Rt)(a0:G.T)(a1:G.Arr3Int):Rt:=
 cnd (decide (a0.kind=(1:Int))) (k1 (G.Arr3Int.mk (IntKind.i64.wrap (a1.a0+(1:Int))) a1.a1 a1.a2) (G.Arr3Int.mk (0:Int) (0:Int) (0:Int))) (cnd (decide (a0.kind=(2:Int))) (obL [i6] (c 75 [yR 2 a0.value]) fun(r0:Int×Unit)=>
 k1 (G.Arr3Int.mk a1.a0 a1.a1 (IntKind.i64.wrap (a1.a2+r0.1))) (G.Arr3Int.mk (0:Int) (0:Int) (0:Int))) (cnd (decide (a0.kind=(3:Int))) (e2 (List.length a0.args:Int) a0.args (0:Int) (G.Arr3Int.mk a1.a0 (IntKind.i64.wrap (a1.a1+(1:Int))) a1.a2) (G.Arr3Int.mk (0:Int) (0:Int) (0:Int))) (k1 a1 (G.Arr3Int.mk (0:Int) (0:Int) (0:Int)))))
def V55x0(n:Nt):G.T→G.Arr3Int→Rt:=fun x0 x1=>n [yR 3 x0,yR 19 x1]
def aIV(c:TC0)(b103:G.Arr3Int)(b104:G.Arr3Int):Rt:=
 some [yR 19 b103]
def V55x1(n:Nt):G.Arr3Int→G.Arr3Int→Rt:=fun x0 x1=>n [yR 19 x0,yR 19 x1]
def X55x1:=V55x1 (xD aGI e [1,1,0] aHn (q55x0 c e))
def B55x2(c:TC0)(n2:Int→List G.T→Int→G.Arr3Int→G.Arr3Int→Rt)(k1:G.Arr3Int→G.Arr3Int→Rt)(a32:Int)(a31:List G.T)(a33:Int)(b103:G.Arr3Int)(b104:G.Arr3Int):Rt:=
 cnd (decide (a33<a32)) (ob (idx a31 a33) fun v0=>
 obL [.rc 19] (c 55 [yR 3 v0,yR 19 b103]) fun(r1:G.Arr3Int×Unit)=>
 n2 a32 a31 (IntKind.i64.wrap (a33+(1:Int))) r1.1 b104) (k1 b103 b104)
def V55x2(n:Nt):Int→List G.T→Int→G.Arr3Int→G.Arr3Int→Rt:=fun x0 x1 x2 x3 x4=>n [yI x0,yS 3 x1,yI x2,yR 19 x3,yR 19 x4]
def X55x2:=V55x2 (xE aGI e [1,0,1,0,1,1,1,1,1,0,1,1,0,0] yJ (q55x3 c e))
theorem s55x0:V55x0 (xF aGI c e)=B55x0 c (X55x1 c e) (X55x2 c e):=by kernel_rfl
theorem s55x1:V55x1 (xA aGI c e [1,1,0] aHn (q55x0 c e))=aIV c:=by kernel_rfl
theorem s55x2(n2:Nt):V55x2 (xA aGI c e [1,0,1,0,1,1,1,1,1,0,1,1,0,0] yJ (lpK U0 yJ n2 (q55x3 c e)))=B55x2 c (V55x2 n2) (X55x1 c e):=by kernel_rfl
def aEZ(c:TC0)(L:Nat):G.Arr3Int→G.Arr3Int→Rt:=aIV c
theorem j55x1:X55x1 c (cu c L)=aEZ c L:=by rw[X55x1,aN,s55x1];rfl
def aBS(c:TC0)(L:Nat):Nat→Int→List G.T→Int→G.Arr3Int→G.Arr3Int→Rt
 |0=>fun _ _ _ _ _=>none
 |n+1=>B55x2 c (aBS c L n) (aEZ c L)
theorem u55x2(n:Nat):V55x2 (xL aGI c L [1,0,1,0,1,1,1,1,1,0,1,1,0,0] yJ (q55x3 c (cu c L)) n)=aBS c L n:=by
 induction n with
 |zero=>rfl
 |succ n ih=>rw[eY,s55x2];simp only[j55x1,ih];rfl
theorem w55x2:X55x2 c (cu c L)=aBS c L L:=u55x2 c L L
def F55(c:TC0)(L:Nat):G.T→G.Arr3Int→Rt:=B55x0 c (aEZ c L) (aBS c L L)
theorem e55:V55x0 (xF aGI c (cu c L))=F55 c L:=by rw[s55x0];simp only[j55x1,w55x2];rfl
theorem c55(a0:G.T)(a1:G.Arr3Int)(L n:Nat):CTp L (n+1) 55 [yR 3 a0,yR 19 a1]=F55 (CTp L n) L a0 a1:=by rw[←e55];exact cg (x:=aGI) (by kernel_rfl) (by kernel_rfl) L n _
def q56x0(c:TC0)(e:Cu):Kt:=xK ii56
def q56x1(c:TC0)(e:Cu):Kt:=xT ii56 c e [1,1,1,1,1,1] (q56x0 c e)
def q56x2(c:TC0)(e:Cu):Kt:=cN U0 0 (q56x1 c e)
def B56x0(c:TC0)(e1:Int→List G.T→Int→G.T→Rt)(a0:G.T)(a1:G.T):Rt:=
 cnd (!decide (a0.kind=a1.kind)) (cnd (decide (a0.kind<a1.kind)) (some [yI (-1:Int)]) (some [yI (1:Int)])) (cnd (decide (a0.kind=(2:Int))) (obL [i6] (c 76 [yR 2 a0.value,yR 2 a1.value]) fun(r0:Int×Unit)=>
 some [yI r0.1]) (obL [i6] (c 77 [yR 1 a0.name,yR 1 a1.name]) fun(r1:Int×Unit)=>
 cnd (!decide (r1.1=(0:Int))) (some [yI r1.1]) (cnd (!decide ((List.length a0.args:Int)=(List.length a1.args:Int))) (cnd (decide ((List.length a0.args:Int)<(List.length a1.args:Int))) (some [yI (-1:Int)]) (some [yI (1:Int)])) (e1 (List.length a0.args:Int) a0.args (0:Int) a1))))
def V56x0(n:Nt):G.T→G.T→Rt:=fun x0 x1=>n [yR 3 x0,yR 3 x1]
def aIU(c:TC0)(n1:Int→List G.T→Int→G.T→Rt)(a51:Int)(a50:List G.T)(a52:Int)(b103:G.T):Rt:=
 cnd (decide (a52<a51)) (ob (idx a50 a52) fun v0=>
 ob (idx b103.args a52) fun v1=>
 obL [i6] (c 56 [yR 3 v0,yR 3 v1]) fun(r2:Int×Unit)=>
 cnd (!decide (r2.1=(0:Int))) (some [yI r2.1]) (n1 a51 a50 (IntKind.i64.wrap (a52+(1:Int))) b103)) (some [yI (0:Int)])
def V56x1(n:Nt):Int→List G.T→Int→G.T→Rt:=fun x0 x1 x2 x3=>n [yI x0,yS 3 x1,yI x2,yR 3 x3]
def X56x1:=V56x1 (xE ii56 e [1,1,1,1,1,0,1,0,0] yH (q56x2 c e))
theorem s56x0:V56x0 (xF ii56 c e)=B56x0 c (X56x1 c e):=by kernel_rfl
theorem s56x1(n1:Nt):V56x1 (xA ii56 c e [1,1,1,1,1,0,1,0,0] yH (lpK U0 yH n1 (q56x2 c e)))=aIU c (V56x1 n1):=by kernel_rfl
def oY(c:TC0)(L:Nat):Nat→Int→List G.T→Int→G.T→Rt
 |0=>fun _ _ _ _=>none
 |n+1=>aIU c (oY c L n)
theorem u56x1(n:Nat):V56x1 (xL ii56 c L [1,1,1,1,1,0,1,0,0] yH (q56x2 c (cu c L)) n)=oY c L n:=by
 induction n with
 |zero=>rfl
 |succ n ih=>rw[eY,s56x1];simp only[ih];rfl
theorem w56x1:X56x1 c (cu c L)=oY c L L:=u56x1 c L L
def F56(c:TC0)(L:Nat):G.T→G.T→Rt:=B56x0 c (oY c L L)
theorem e56:V56x0 (xF ii56 c (cu c L))=F56 c L:=by rw[s56x0];simp only[w56x1];rfl
theorem c56(a0:G.T)(a1:G.T)(L n:Nat):CTp L (n+1) 56 [yR 3 a0,yR 3 a1]=F56 (CTp L n) L a0 a1:=by rw[←e56];exact cg (x:=ii56) (by kernel_rfl) (by kernel_rfl) L n _
def q57x0(c:TC0)(e:Cu):Kt:=xK aFe
def q57x1(c:TC0)(e:Cu):Kt:=xT aFe c e [1,1] (q57x0 c e)
def q57x2(c:TC0)(e:Cu):Kt:=xT aFe c e [1,1,1] (q57x0 c e)
def q57x3(c:TC0)(e:Cu):Kt:=cN U0 0 (q57x2 c e)
def B57x0(c:TC0)(k1:Bool→G.O→G.O→Rt)(a0:G.O)(a1:G.O):Rt:=
 cnd (!decide (a0.kind=a1.kind)) (k1 true a0 a1) (cnd (!decide (a0.num=a1.num)) (k1 true a0 a1) (cnd (!decide (a0.den=a1.den)) (k1 true a0 a1) (cnd (!decide (a0.sym=a1.sym)) (k1 true a0 a1) (cnd (!decide (a0.text=a1.text)) (k1 true a0 a1) (k1 (!decide ((List.length a0.pair:Int)=(List.length a1.pair:Int))) a0 a1)))))
def V57x0(n:Nt):G.O→G.O→Rt:=fun x0 x1=>n [yR 2 x0,yR 2 x1]
def B57x1(c:TC0)(e2:Int→G.O→G.O→Rt)(a47:Bool)(b102:G.O)(b103:G.O):Rt:=
 cnd a47 (some [yB false]) (e2 (0:Int) b102 b103)
def V57x1(n:Nt):Bool→G.O→G.O→Rt:=fun x0 x1 x2=>n [yB x0,yR 2 x1,yR 2 x2]
def X57x1:=V57x1 (xD aFe e [1,0,1,0] aHm (q57x1 c e))
def B57x2(c:TC0)(n2:Int→G.O→G.O→Rt)(a5:Int)(b102:G.O)(b103:G.O):Rt:=
 cnd (decide (a5<(List.length b102.pair:Int))) (ob (idx b102.pair a5) fun v0=>
 ob (idx b103.pair a5) fun v1=>
 obL [.bool] (c 57 [yR 2 v0,yR 2 v1]) fun(r2:Bool×Unit)=>
 cnd (!r2.1) (some [yB false]) (n2 (IntKind.i64.wrap (a5+(1:Int))) b102 b103)) (some [yB true])
def V57x2(n:Nt):Int→G.O→G.O→Rt:=fun x0 x1 x2=>n [yI x0,yR 2 x1,yR 2 x2]
def X57x2:=V57x2 (xE aFe e [1,1,0,1,0,0] yG (q57x3 c e))
theorem s57x0:V57x0 (xF aFe c e)=B57x0 c (X57x1 c e):=by kernel_rfl
theorem s57x1:V57x1 (xA aFe c e [1,0,1,0] aHm (q57x1 c e))=B57x1 c (X57x2 c e):=by kernel_rfl
theorem s57x2(n2:Nt):V57x2 (xA aFe c e [1,1,0,1,0,0] yG (lpK U0 yG n2 (q57x3 c e)))=B57x2 c (V57x2 n2):=by kernel_rfl
def aBR(c:TC0)(L:Nat):Nat→Int→G.O→G.O→Rt
 |0=>fun _ _ _=>none
 |n+1=>B57x2 c (aBR c L n)
theorem u57x2(n:Nat):V57x2 (xL aFe c L [1,1,0,1,0,0] yG (q57x3 c (cu c L)) n)=aBR c L n:=by
 induction n with
 |zero=>rfl
 |succ n ih=>rw[eY,s57x2];simp only[ih];rfl
theorem w57x2:X57x2 c (cu c L)=aBR c L L:=u57x2 c L L
def J57x1(c:TC0)(L:Nat):Bool→G.O→G.O→Rt:=B57x1 c (aBR c L L)
theorem j57x1:X57x1 c (cu c L)=J57x1 c L:=by rw[X57x1,aN,s57x1];simp only[w57x2];rfl
def F57(c:TC0)(L:Nat):G.O→G.O→Rt:=B57x0 c (J57x1 c L)
theorem e57:V57x0 (xF aFe c (cu c L))=F57 c L:=by rw[s57x0];simp only[j57x1];rfl
theorem c57(a0:G.O)(a1:G.O)(L n:Nat):CTp L (n+1) 57 [yR 2 a0,yR 2 a1]=F57 (CTp L n) L a0 a1:=by rw[←e57];exact cg (x:=aFe) (by kernel_rfl) (by kernel_rfl) L n _
def q58x0(c:TC0)(e:Cu):Kt:=xK ii58
def q58x1(c:TC0)(e:Cu):Kt:=xT ii58 c e [1,1,1] (q58x0 c e)
def q58x2(c:TC0)(e:Cu):Kt:=cN U0 0 (q58x1 c e)
def B58x0(c:TC0)(e1:List G.T→List G.T→Int→Rt)(a0:List G.T)(a1:List G.T):Rt:=
 cnd (!decide ((List.length a0:Int)=(List.length a1:Int))) (some [yB false]) (e1 a0 a1 (0:Int))
def V58x0(n:Nt):List G.T→List G.T→Rt:=fun x0 x1=>n [yS 3 x0,yS 3 x1]
def B58x1(c:TC0)(n1:List G.T→List G.T→Int→Rt)(a0:List G.T)(a1:List G.T)(a5:Int):Rt:=
 cnd (decide (a5<(List.length a0:Int))) (ob (idx a0 a5) fun v0=>
 ob (idx a1 a5) fun v1=>
 obL [.bool] (c 25 [yR 3 v0,yR 3 v1]) fun(r2:Bool×Unit)=>
 cnd (!r2.1) (some [yB false]) (n1 a0 a1 (IntKind.i64.wrap (a5+(1:Int))))) (some [yB true])
def V58x1(n:Nt):List G.T→List G.T→Int→Rt:=fun x0 x1 x2=>n [yS 3 x0,yS 3 x1,yI x2]
def X58x1:=V58x1 (xE ii58 e [1,1,0,1,0,0] yF (q58x2 c e))
theorem s58x0:V58x0 (xF ii58 c e)=B58x0 c (X58x1 c e):=by kernel_rfl
theorem s58x1(n1:Nt):V58x1 (xA ii58 c e [1,1,0,1,0,0] yF (lpK U0 yF n1 (q58x2 c e)))=B58x1 c (V58x1 n1):=by kernel_rfl
def aBQ(c:TC0)(L:Nat):Nat→List G.T→List G.T→Int→Rt
 |0=>fun _ _ _=>none
 |n+1=>B58x1 c (aBQ c L n)
theorem u58x1(n:Nat):V58x1 (xL ii58 c L [1,1,0,1,0,0] yF (q58x2 c (cu c L)) n)=aBQ c L n:=by
 induction n with
 |zero=>rfl
 |succ n ih=>rw[eY,s58x1];simp only[ih];rfl
theorem w58x1:X58x1 c (cu c L)=aBQ c L L:=u58x1 c L L
def F58(c:TC0)(L:Nat):List G.T→List G.T→Rt:=B58x0 c (aBQ c L L)
theorem e58:V58x0 (xF ii58 c (cu c L))=F58 c L:=by rw[s58x0];simp only[w58x1];rfl
theorem c58(a0:List G.T)(a1:List G.T)(L n:Nat):CTp L (n+1) 58 [yS 3 a0,yS 3 a1]=F58 (CTp L n) L a0 a1:=by rw[←e58];exact cg (x:=ii58) (by kernel_rfl) (by kernel_rfl) L n _
end
end Go.TV
