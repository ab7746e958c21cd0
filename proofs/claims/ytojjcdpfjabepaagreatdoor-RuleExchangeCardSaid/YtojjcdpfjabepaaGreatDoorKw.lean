import Derived.Test.YtojjcdpfjabepaaGreatDoorKt
set_option linter.unusedVariables false
set_option linter.unusedSimpArgs false
set_option linter.constructorNameAsVariable false
namespace Go.TV
open Go.AI Go.PI Go.Proofs
set_option maxRecDepth 20000
noncomputable section
variable(c:TC0)(e:Cu)(L:Nat)
def q126x0(c:TC0)(e:Cu):Kt:=xK vS
def q126x1(c:TC0)(e:Cu):Kt:=xT vS c e [1,1,1] (q126x0 c e)
def aGE(c:TC0)(e:Cu):Kt:=dD U0 0 (q126x1 c e)
def B126x0(c:TC0)(e1:List Int→List Int→Int→Rt)(a0:List Int)(a1:List Int):Rt:=
 cnd (!decide ((List.length a0:Int)=(List.length a1:Int))) (cnd (decide ((List.length a0:Int)<(List.length a1:Int))) (some [yI (-1:Int)]) (some [yI (1:Int)])) (e1 a0 a1 (IntKind.i64.wrap ((List.length a0:Int)-(1:Int))))
def V126x0(n:Nt):List Int→List Int→Rt:=fun x0 x1=>n [⟨.sl i6,x0⟩,⟨.sl i6,x1⟩]
def B126x1(c:TC0)(n1:List Int→List Int→Int→Rt)(a0:List Int)(a1:List Int)(a5:Int):Rt:=
 cnd (decide ((0:Int)≤a5)) (ob (idx a0 a5) fun v0=>
 ob (idx a1 a5) fun v1=>
 cnd (decide (v0<v1)) (some [yI (-1:Int)]) (ob (idx a0 a5) fun v2=>
 ob (idx a1 a5) fun v3=>
 cnd (decide (v3<v2)) (some [yI (1:Int)]) (n1 a0 a1 (IntKind.i64.wrap (a5-(1:Int)))))) (some [yI (0:Int)])
def aEM(n:Nt):List Int→List Int→Int→Rt:=fun x0 x1 x2=>n [⟨.sl i6,x0⟩,⟨.sl i6,x1⟩,yI x2]
def X126x1:=aEM (xE vS e [1,1,0,1,0,0] rI (aGE c e))
theorem s126x0:V126x0 (xF vS c e)=B126x0 c (X126x1 c e):=by kernel_rfl
theorem s126x1(n1:Nt):aEM (xA vS c e [1,1,0,1,0,0] rI (lpK U0 rI n1 (aGE c e)))=B126x1 c (aEM n1):=by kernel_rfl
def aEC(c:TC0)(L:Nat):Nat→List Int→List Int→Int→Rt
 |0=>fun _ _ _=>none
 |n+1=>B126x1 c (aEC c L n)
theorem u126x1(n:Nat):aEM (xL vS c L [1,1,0,1,0,0] rI (aGE c (cu c L)) n)=aEC c L n:=by
 induction n with
 |zero=>rfl
 |succ n ih=>rw[fO,s126x1];simp only[ih];rfl
theorem w126x1:X126x1 c (cu c L)=aEC c L L:=u126x1 c L L
def F126(c:TC0)(L:Nat):List Int→List Int→Rt:=B126x0 c (aEC c L L)
theorem e126:V126x0 (xF vS c (cu c L))=F126 c L:=by rw[s126x0];simp only[w126x1];rfl
theorem c126(a0:List Int)(a1:List Int)(L n:Nat):CTp L (n+1) 126 [⟨.sl i6,a0⟩,⟨.sl i6,a1⟩]=F126 (CTp L n) L a0 a1:=by rw[←e126];exact cg (x:=vS) (by kernel_rfl) (by kernel_rfl) L n _
def q127x0(c:TC0)(e:Cu):Kt:=xK iY
def q127x1(c:TC0)(e:Cu):Kt:=xT iY c e [1,1] (q127x0 c e)
def aDb(c:TC0)(e:Cu):Kt:=dD U0 0 (q127x1 c e)
def q127x3(c:TC0)(e:Cu)(n1:Nt):Kt:=lpK U0 oD n1 (aDb c e)
def q127x4(c:TC0)(e:Cu)(n1:Nt):Kt:=dD U0 1 (q127x3 c e n1)
def q127x5(c:TC0)(e:Cu)(n1:Nt):Kt:=dD U0 2 (q127x4 c e n1)
def aDa(c:TC0)(e:Cu)(n1:Nt):Kt:=dD U0 3 (q127x5 c e n1)
def aGD(c:TC0)(e:Cu)(n1:Nt):Kt:=dD U0 5 (q127x5 c e n1)
def q127x8(c:TC0)(e:Cu)(n2:Nt)(n1:Nt):Kt:=lpK U0 oC n2 (aDa c e n1)
def q127x9(c:TC0)(e:Cu)(n2:Nt)(n1:Nt):Kt:=xT iY c e [1,0,0,0,1,0,0,1,1,1,0,0,0,1] (q127x8 c e n2 n1)
def aJV(c:TC0)(e1:List UInt8→Int→Rt)(a0:List UInt8)(a1:Int):Rt:=
 e1 a0 a1
def V127x0(n:Nt):List UInt8→Int→Rt:=fun x0 x1=>n [yT x0,yI x1]
def aET(c:TC0)(n1:List UInt8→Int→Rt)(e2:List UInt8→Int→Rt)(e3:Int→List UInt8→Int→Rt)(a0:List UInt8)(a1:Int):Rt:=
 cnd (decide (a1<(List.length a0:Int))) (ob (idx a0 a1) fun v0=>
 obL [.bool] (c 151 [⟨(.int .u8),(v0.toNat:Int)⟩]) fun(r1:Bool×Unit)=>
 cnd r1.1 (n1 a0 (IntKind.i64.wrap (a1+(1:Int)))) (ob (idx a0 a1) fun v2=>
 cnd (decide ((v2.toNat:Int)=(59:Int))) (e2 a0 a1) (obL [.bool] (c 152 [yT a0,yI a1,⟨(.int .u8),(35:Int)⟩,⟨(.int .u8),(124:Int)⟩]) fun(r3:Bool×Unit)=>
 cnd r3.1 (e3 (1:Int) a0 (IntKind.i64.wrap (a1+(2:Int)))) (some [yI a1,yB true])))) (some [yI a1,yB true])
def jW(n:Nt):List UInt8→Int→Rt:=fun x0 x1=>n [yT x0,yI x1]
def X127x1:=jW (xE iY e [1,0,0,0] oD (aDb c e))
def B127x2(c:TC0)(k4:Bool→List UInt8→Int→Rt)(a0:List UInt8)(a1:Int):Rt:=
 cnd (decide (a1<(List.length a0:Int))) (ob (idx a0 a1) fun v0=>
 k4 (!decide ((v0.toNat:Int)=(10:Int))) a0 a1) (k4 false a0 a1)
def aAv(n:Nt):List UInt8→Int→Rt:=fun x0 x1=>n [yT x0,yI x1]
def X127x2(n1:Nt):=aAv (xE iY e [1,0,0,0,1,0,0,1,1,1,0,0,0] oC (aDa c e n1))
def B127x3(c:TC0)(n3:Int→List UInt8→Int→Rt)(n1:List UInt8→Int→Rt)(a6:Int)(a0:List UInt8)(a1:Int):Rt:=
 cnd (decide ((0:Int)<a6)) (cnd (decide ((List.length a0:Int)≤a1)) (some [yI a1,yB false]) (obL [.bool] (c 152 [yT a0,yI a1,⟨(.int .u8),(35:Int)⟩,⟨(.int .u8),(124:Int)⟩]) fun(r0:Bool×Unit)=>
 cnd r0.1 (n3 (IntKind.i64.wrap (a6+(1:Int))) a0 (IntKind.i64.wrap (a1+(2:Int)))) (obL [.bool] (c 152 [yT a0,yI a1,⟨(.int .u8),(124:Int)⟩,⟨(.int .u8),(35:Int)⟩]) fun(r1:Bool×Unit)=>
 cnd r1.1 (n3 (IntKind.i64.wrap (a6-(1:Int))) a0 (IntKind.i64.wrap (a1+(2:Int)))) (n3 a6 a0 (IntKind.i64.wrap (a1+(1:Int))))))) (n1 a0 a1)
def aEL(n:Nt):Int→List UInt8→Int→Rt:=fun x0 x1 x2=>n [yI x0,yT x1,yI x2]
def X127x3(n1:Nt):=aEL (xE iY e [1,0,0,0,1,0,0,1,1,1,1,1,0,1,1,0,0] rH (aGD c e n1))
def B127x4(c:TC0)(n2:List UInt8→Int→Rt)(n1:List UInt8→Int→Rt)(a33:Bool)(a0:List UInt8)(a1:Int):Rt:=
 cnd a33 (n2 a0 (IntKind.i64.wrap (a1+(1:Int)))) (n1 a0 a1)
def V127x4(n:Nt):Bool→List UInt8→Int→Rt:=fun x0 x1 x2=>n [yB x0,yT x1,yI x2]
def aI8(n2:Nt)(n1:Nt):=V127x4 (xD iY e [1,0,0,0,1,0,0,1,1,1,0,0,0,0,1,0] aB1 (q127x9 c e n2 n1))
theorem s127x0:V127x0 (xF iY c e)=aJV c (X127x1 c e):=by kernel_rfl
theorem s127x1(n1:Nt):jW (xA iY c e [1,0,0,0] oD (lpK U0 oD n1 (aDb c e)))=aET c (jW n1) (X127x2 c e n1) (X127x3 c e n1):=by kernel_rfl
theorem s127x2(n2:Nt)(n1:Nt):aAv (xA iY c e [1,0,0,0,1,0,0,1,1,1,0,0,0] oC (lpK U0 oC n2 (aDa c e n1)))=B127x2 c (aI8 c e n2 n1):=by kernel_rfl
theorem s127x3(n3:Nt)(n1:Nt):aEL (xA iY c e [1,0,0,0,1,0,0,1,1,1,1,1,0,1,1,0,0] rH (lpK U0 rH n3 (aGD c e n1)))=B127x3 c (aEL n3) (jW n1):=by kernel_rfl
theorem s127x4(n2:Nt)(n1:Nt):V127x4 (xA iY c e [1,0,0,0,1,0,0,1,1,1,0,0,0,0,1,0] aB1 (q127x9 c e n2 n1))=B127x4 c (aAv n2) (jW n1):=by kernel_rfl
def aEA(c:TC0)(L:Nat)(n1:List UInt8→Int→Rt):Nat→Int→List UInt8→Int→Rt
 |0=>fun _ _ _=>none
 |n+1=>B127x3 c (aEA c L n1 n) n1
theorem u127x3(n1:Nt)(n:Nat):aEL (xL iY c L [1,0,0,0,1,0,0,1,1,1,1,1,0,1,1,0,0] rH (aGD c (cu c L) n1) n)=aEA c L (jW n1) n:=by
 induction n with
 |zero=>rfl
 |succ n ih=>rw[fO,s127x3];simp only[ih];rfl
theorem w127x3(n1:Nt):X127x3 c (cu c L) n1=aEA c L (jW n1) L:=u127x3 c L n1 L
def J127x4(c:TC0)(L:Nat)(n2:List UInt8→Int→Rt)(n1:List UInt8→Int→Rt):Bool→List UInt8→Int→Rt:=B127x4 c n2 n1
theorem j127x4(n2:Nt)(n1:Nt):aI8 c (cu c L) n2 n1=J127x4 c L (aAv n2) (jW n1):=by rw[aI8,aM,s127x4];rfl
def aEB(c:TC0)(L:Nat)(n1:List UInt8→Int→Rt):Nat→List UInt8→Int→Rt
 |0=>fun _ _=>none
 |n+1=>B127x2 c (J127x4 c L (aEB c L n1 n) n1)
theorem u127x2(n1:Nt)(n:Nat):aAv (xL iY c L [1,0,0,0,1,0,0,1,1,1,0,0,0] oC (aDa c (cu c L) n1) n)=aEB c L (jW n1) n:=by
 induction n with
 |zero=>rfl
 |succ n ih=>rw[fO,s127x2];simp only[j127x4,ih];rfl
theorem w127x2(n1:Nt):X127x2 c (cu c L) n1=aEB c L (jW n1) L:=u127x2 c L n1 L
def mQ(c:TC0)(L:Nat):Nat→List UInt8→Int→Rt
 |0=>fun _ _=>none
 |n+1=>aET c (mQ c L n) (aEB c L (mQ c L n) L) (aEA c L (mQ c L n) L)
theorem u127x1(n:Nat):jW (xL iY c L [1,0,0,0] oD (aDb c (cu c L)) n)=mQ c L n:=by
 induction n with
 |zero=>rfl
 |succ n ih=>rw[fO,s127x1];simp only[w127x2,w127x3,ih];rfl
theorem w127x1:X127x1 c (cu c L)=mQ c L L:=u127x1 c L L
def F127(c:TC0)(L:Nat):List UInt8→Int→Rt:=aJV c (mQ c L L)
theorem e127:V127x0 (xF iY c (cu c L))=F127 c L:=by rw[s127x0];simp only[w127x1];rfl
theorem c127(a0:List UInt8)(a1:Int)(L n:Nat):CTp L (n+1) 127 [yT a0,yI a1]=F127 (CTp L n) L a0 a1:=by rw[←e127];exact cg (x:=iY) (by kernel_rfl) (by kernel_rfl) L n _
def aC9(c:TC0)(e:Cu):Kt:=xK iX
def q128x1(c:TC0)(e:Cu):Kt:=xT iX c e [1,1,1,1] (aC9 c e)
def xS(c:TC0)(e:Cu):Kt:=dD U0 0 (q128x1 c e)
def q128x3(c:TC0)(e:Cu):Kt:=xT iX c e [1,1,1,0,1,0,1,1,1,1,1,1,1,0,1,1,1] (xS c e)
def q128x4(c:TC0)(e:Cu):Kt:=xT iX c e [1,1,1,1,1,1,1,1,1] (aC9 c e)
def q128x5(c:TC0)(e:Cu):Kt:=dD U0 1 (q128x4 c e)
def aAC(c:TC0)(k1:Bool→Int→G.K→G.X→G.K→G.X→Rt)(k2:Int→G.K→G.X→G.K→G.X→Rt)(k3:Int→G.K→G.X→G.K→G.X→Rt)(k4:Bool→Int→Int→G.K→G.X→G.K→G.X→Rt)(a0:List UInt8)(a1:Int):Rt:=
 ob (idx a0 a1) fun v0=>
 cnd (decide ((v0.toNat:Int)=(40:Int))) (some [yR 22 (G.K.mk (1:Int) a1 ([]:List UInt8) ([]:List UInt8) ([]:List UInt8)),yI (IntKind.i64.wrap (a1+(1:Int))),yR 20 (G.X.mk (0:Int) (0:Int))]) (cnd (decide ((v0.toNat:Int)=(41:Int))) (some [yR 22 (G.K.mk (2:Int) a1 ([]:List UInt8) ([]:List UInt8) ([]:List UInt8)),yI (IntKind.i64.wrap (a1+(1:Int))),yR 20 (G.X.mk (0:Int) (0:Int))]) (cnd (decide ((v0.toNat:Int)=(39:Int))) (some [yR 22 (G.K.mk (4:Int) a1 ([]:List UInt8) ([]:List UInt8) ([]:List UInt8)),yI (IntKind.i64.wrap (a1+(1:Int))),yR 20 (G.X.mk (0:Int) (0:Int))]) (cnd (decide ((v0.toNat:Int)=(34:Int))) (obL [.str,i6,.rc 20] (c 153 [yT a0,yI (IntKind.i64.wrap (a1+(1:Int))),⟨(.int .u8),(34:Int)⟩]) fun(r1:List UInt8×Int×G.X×Unit)=>
 cnd (decide (r1.2.2.1.err=(0:Int))) (k1 (decide ((200:Int)<(List.length r1.1:Int))) r1.2.1 (G.K.mk (7:Int) a1 ([]:List UInt8) r1.1 ([]:List UInt8)) r1.2.2.1 (G.K.mk (0:Int) (0:Int) ([]:List UInt8) ([]:List UInt8) ([]:List UInt8)) (G.X.mk (0:Int) (0:Int))) (k1 false r1.2.1 (G.K.mk (7:Int) a1 ([]:List UInt8) r1.1 ([]:List UInt8)) r1.2.2.1 (G.K.mk (0:Int) (0:Int) ([]:List UInt8) ([]:List UInt8) ([]:List UInt8)) (G.X.mk (0:Int) (0:Int)))) (cnd (decide ((v0.toNat:Int)=(124:Int))) (obL [.str,i6,.rc 20] (c 153 [yT a0,yI (IntKind.i64.wrap (a1+(1:Int))),⟨(.int .u8),(124:Int)⟩]) fun(r2:List UInt8×Int×G.X×Unit)=>
 cnd (decide (r2.2.2.1.err=(0:Int))) (obL [.rc 20] (c 154 [yR 22 (G.K.mk (6:Int) a1 ([]:List UInt8) r2.1 ([]:List UInt8)),yB true]) fun(r3:G.X×Unit)=>
 k2 r2.2.1 (G.K.mk (6:Int) a1 ([]:List UInt8) r2.1 ([]:List UInt8)) r3.1 (G.K.mk (0:Int) (0:Int) ([]:List UInt8) ([]:List UInt8) ([]:List UInt8)) (G.X.mk (0:Int) (0:Int))) (k2 r2.2.1 (G.K.mk (6:Int) a1 ([]:List UInt8) r2.1 ([]:List UInt8)) r2.2.2.1 (G.K.mk (0:Int) (0:Int) ([]:List UInt8) ([]:List UInt8) ([]:List UInt8)) (G.X.mk (0:Int) (0:Int)))) (obL [.bool] (c 155 [⟨(.int .u8),(v0.toNat:Int)⟩]) fun(r4:Bool×Unit)=>
 cnd (!r4.1) (obL [.rc 20] (c 106 [yI (12:Int),yI a1]) fun(r5:G.X×Unit)=>
 some [yR 22 (G.K.mk (0:Int) a1 ([]:List UInt8) ([]:List UInt8) ([]:List UInt8)),yI a1,yR 20 r5.1]) (obL [i6] (c 156 [yT a0,yI a1]) fun(r6:Int×Unit)=>
 ob (slc a0 a1 r6.1) fun v7=>
 obL [.bool] (c 152 [yT a0,yI r6.1,⟨(.int .u8),(58:Int)⟩,⟨(.int .u8),(58:Int)⟩]) fun(r8:Bool×Unit)=>
 cnd r8.1 (obL [.rc 22,i6,.rc 20] (c 157 [yT a0,yR 22 (G.K.mk (0:Int) a1 ([]:List UInt8) ([]:List UInt8) ([]:List UInt8)),yT v7,yI r6.1]) fun(r9:G.K×Int×G.X×Unit)=>
 some [yR 22 r9.1,yI r9.2.1,yR 20 r9.2.2.1]) (obL [.str,.str,.bool] (c 158 [yT v7]) fun(r10:List UInt8×List UInt8×Bool×Unit)=>
 cnd (decide (v7=([46]:List UInt8))) (k3 r6.1 (G.K.mk (3:Int) a1 ([]:List UInt8) ([]:List UInt8) ([]:List UInt8)) (G.X.mk (0:Int) (0:Int)) (G.K.mk (0:Int) (0:Int) ([]:List UInt8) ([]:List UInt8) ([]:List UInt8)) (G.X.mk (0:Int) (0:Int))) (cnd r10.2.2.1 (obL [.str] (c 159 [yT r10.2.1]) fun(r11:List UInt8×Unit)=>
 cnd (decide (r11.1=([48]:List UInt8))) (obL [.rc 20] (c 106 [yI (12:Int),yI a1]) fun(r12:G.X×Unit)=>
 some [yR 22 (G.K.mk (0:Int) a1 ([]:List UInt8) ([]:List UInt8) ([]:List UInt8)),yI r6.1,yR 20 r12.1]) (obL [.str] (c 159 [yT r10.1]) fun(r13:List UInt8×Unit)=>
 obL [.str] (c 159 [yT r10.2.1]) fun(r14:List UInt8×Unit)=>
 obL [.str,.str] (c 86 [yT r13.1,yT r14.1]) fun(r15:List UInt8×List UInt8×Unit)=>
 obL [i6] (c 160 [yT r15.1]) fun(r16:Int×Unit)=>
 cnd (decide ((100:Int)<r16.1)) (k4 true a1 r6.1 (G.K.mk (5:Int) a1 ([]:List UInt8) r15.1 r15.2.1) (G.X.mk (0:Int) (0:Int)) (G.K.mk (0:Int) (0:Int) ([]:List UInt8) ([]:List UInt8) ([]:List UInt8)) (G.X.mk (0:Int) (0:Int))) (obL [i6] (c 160 [yT r15.2.1]) fun(r17:Int×Unit)=>
 k4 (decide ((100:Int)<r17.1)) a1 r6.1 (G.K.mk (5:Int) a1 ([]:List UInt8) r15.1 r15.2.1) (G.X.mk (0:Int) (0:Int)) (G.K.mk (0:Int) (0:Int) ([]:List UInt8) ([]:List UInt8) ([]:List UInt8)) (G.X.mk (0:Int) (0:Int))))) (obL [.rc 20] (c 154 [yR 22 (G.K.mk (6:Int) a1 ([]:List UInt8) v7 ([]:List UInt8)),yB false]) fun(r18:G.X×Unit)=>
 k3 r6.1 (G.K.mk (6:Int) a1 ([]:List UInt8) v7 ([]:List UInt8)) r18.1 (G.K.mk (0:Int) (0:Int) ([]:List UInt8) ([]:List UInt8) ([]:List UInt8)) (G.X.mk (0:Int) (0:Int)))))))))))
def V128x0(n:Nt):List UInt8→Int→Rt:=fun x0 x1=>n [yT x0,yI x1]
def B128x1(c:TC0)(k5:Int→G.K→G.X→G.K→G.X→Rt)(a65:Bool)(a1:Int)(b107:G.K)(b108:G.X)(b104:G.K)(b106:G.X):Rt:=
 cnd a65 (obL [.rc 20] (c 106 [yI (2:Int),yI b107.pos]) fun(r0:G.X×Unit)=>
 k5 a1 b107 r0.1 b104 b106) (k5 a1 b107 b108 b104 b106)
def V128x1(n:Nt):Bool→Int→G.K→G.X→G.K→G.X→Rt:=fun x0 x1 x2 x3 x4 x5=>n [yB x0,yI x1,yR 22 x2,yR 20 x3,yR 22 x4,yR 20 x5]
def aI7:=V128x1 (xD iX e [1,1,1,0,1,0,1,1,1,1,1,1,1,0,1,1,0,1,0] aB0 (q128x3 c e))
def B128x2(c:TC0)(a1:Int)(b107:G.K)(b108:G.X)(b104:G.K)(b106:G.X):Rt:=
 some [yR 22 b107,yI a1,yR 20 b108]
def V128x2(n:Nt):Int→G.K→G.X→G.K→G.X→Rt:=fun x0 x1 x2 x3 x4=>n [yI x0,yR 22 x1,yR 20 x2,yR 22 x3,yR 20 x4]
def aI6:=V128x2 (xD iX e [1,1,1,0,1,0,1,1,1,1,1,1,1,1,1,0,1,1,1,0] aBZ (xS c e))
def B128x3(c:TC0)(a10:Int)(b107:G.K)(b108:G.X)(b104:G.K)(b106:G.X):Rt:=
 some [yR 22 b107,yI a10,yR 20 b108]
def V128x3(n:Nt):Int→G.K→G.X→G.K→G.X→Rt:=fun x0 x1 x2 x3 x4=>n [yI x0,yR 22 x1,yR 20 x2,yR 22 x3,yR 20 x4]
def aEn:=V128x3 (xD iX e [1,1,1,1,1,1,1,1,1,0] aBY (aC9 c e))
def B128x4(c:TC0)(k3:Int→G.K→G.X→G.K→G.X→Rt)(a163:Bool)(a1:Int)(a10:Int)(b107:G.K)(b108:G.X)(b104:G.K)(b106:G.X):Rt:=
 cnd a163 (obL [.rc 20] (c 106 [yI (2:Int),yI a1]) fun(r0:G.X×Unit)=>
 some [yR 22 b107,yI a10,yR 20 r0.1]) (k3 a10 b107 b108 b104 b106)
def V128x4(n:Nt):Bool→Int→Int→G.K→G.X→G.K→G.X→Rt:=fun x0 x1 x2 x3 x4 x5 x6=>n [yB x0,yI x1,yI x2,yR 22 x3,yR 20 x4,yR 22 x5,yR 20 x6]
def aI5:=V128x4 (xD iX e [1,1,1,1,1,1,1,1,0,0,1,1,1,0,1,1,1,1,0] aBX (q128x5 c e))
def B128x5(c:TC0)(a1:Int)(b107:G.K)(b108:G.X)(b104:G.K)(b106:G.X):Rt:=
 some [yR 22 b107,yI a1,yR 20 b108]
def V128x5(n:Nt):Int→G.K→G.X→G.K→G.X→Rt:=fun x0 x1 x2 x3 x4=>n [yI x0,yR 22 x1,yR 20 x2,yR 22 x3,yR 20 x4]
def aI4:=V128x5 (xD iX e [1,1,1,0,1,0,1,1,1,1,1,1,1,0,1,1,1,0] aBW (xS c e))
theorem s128x0:V128x0 (xF iX c e)=aAC c (aI7 c e) (aI6 c e) (aEn c e) (aI5 c e):=by kernel_rfl
theorem s128x1:V128x1 (xA iX c e [1,1,1,0,1,0,1,1,1,1,1,1,1,0,1,1,0,1,0] aB0 (q128x3 c e))=B128x1 c (aI4 c e):=by kernel_rfl
theorem s128x2:V128x2 (xA iX c e [1,1,1,0,1,0,1,1,1,1,1,1,1,1,1,0,1,1,1,0] aBZ (xS c e))=B128x2 c:=by kernel_rfl
theorem s128x3:V128x3 (xA iX c e [1,1,1,1,1,1,1,1,1,0] aBY (aC9 c e))=B128x3 c:=by kernel_rfl
theorem s128x4:V128x4 (xA iX c e [1,1,1,1,1,1,1,1,0,0,1,1,1,0,1,1,1,1,0] aBX (q128x5 c e))=B128x4 c (aEn c e):=by kernel_rfl
theorem s128x5:V128x5 (xA iX c e [1,1,1,0,1,0,1,1,1,1,1,1,1,0,1,1,1,0] aBW (xS c e))=B128x5 c:=by kernel_rfl
def J128x2(c:TC0)(L:Nat):Int→G.K→G.X→G.K→G.X→Rt:=B128x2 c
theorem j128x2:aI6 c (cu c L)=J128x2 c L:=by rw[aI6,aM,s128x2];rfl
def aJC(c:TC0)(L:Nat):Int→G.K→G.X→G.K→G.X→Rt:=B128x3 c
theorem j128x3:aEn c (cu c L)=aJC c L:=by rw[aEn,aM,s128x3];rfl
def J128x4(c:TC0)(L:Nat):Bool→Int→Int→G.K→G.X→G.K→G.X→Rt:=B128x4 c (aJC c L)
theorem j128x4:aI5 c (cu c L)=J128x4 c L:=by rw[aI5,aM,s128x4];simp only[j128x3];rfl
def J128x5(c:TC0)(L:Nat):Int→G.K→G.X→G.K→G.X→Rt:=B128x5 c
theorem j128x5:aI4 c (cu c L)=J128x5 c L:=by rw[aI4,aM,s128x5];rfl
def J128x1(c:TC0)(L:Nat):Bool→Int→G.K→G.X→G.K→G.X→Rt:=B128x1 c (J128x5 c L)
theorem j128x1:aI7 c (cu c L)=J128x1 c L:=by rw[aI7,aM,s128x1];simp only[j128x5];rfl
def F128(c:TC0)(L:Nat):List UInt8→Int→Rt:=aAC c (J128x1 c L) (J128x2 c L) (aJC c L) (J128x4 c L)
theorem e128:V128x0 (xF iX c (cu c L))=F128 c L:=by rw[s128x0];simp only[j128x1,j128x2,j128x3,j128x4];rfl
theorem c128(a0:List UInt8)(a1:Int)(L n:Nat):CTp L (n+1) 128 [yT a0,yI a1]=F128 (CTp L n) L a0 a1:=by rw[←e128];exact cg (x:=iX) (by kernel_rfl) (by kernel_rfl) L n _
def aC8(c:TC0)(e:Cu):Kt:=xK iW
def q129x1(c:TC0)(e:Cu):Kt:=xT iW c e [1,1,1,1] (aC8 c e)
def aC7(c:TC0)(e:Cu):Kt:=dD U0 0 (q129x1 c e)
def q129x3(c:TC0)(e:Cu)(n1:Nt):Kt:=lpK U0 oB n1 (aC7 c e)
def q129x4(c:TC0)(e:Cu)(n1:Nt):Kt:=dD U0 1 (q129x3 c e n1)
def q129x5(c:TC0)(e:Cu)(n1:Nt):Kt:=xT iW c e [1,1,1,0,0,0,1,0,1] (q129x4 c e n1)
def q129x6(c:TC0)(e:Cu):Kt:=xT iW c e [1,1,1,1,0,1,1] (aC8 c e)
def aGC(c:TC0)(e:Cu):Kt:=dD U0 3 (q129x6 c e)
def B129x0(c:TC0)(e1:Int→List G.O→G.P→G.O→G.O→G.X→Rt)(a1:Int)(b0:G.P):Rt:=
 obL [.rc 2] (c 48 []) fun(r0:G.O×Unit)=>
 e1 a1 ([]:List G.O) b0 r0.1 (G.O.mk (0:Int) ([]:List UInt8) ([]:List UInt8) (G.Y.mk ([]:List UInt8) ([]:List UInt8)) ([]:List UInt8) ([]:List G.O)) (G.X.mk (0:Int) (0:Int))
def V129x0(n:Nt):Int→G.P→Rt:=fun x0 x1=>n [yI x0,yR 23 x1]
def B129x1(c:TC0)(k2:Bool→List G.O→Int→G.P→G.O→G.O→G.X→Rt)(k3:List G.O→G.P→G.O→G.O→G.X→Rt)(a1:Int)(a6:List G.O)(b0:G.P)(b107:G.O)(b104:G.O)(b105:G.X):Rt:=
 ob (idx b0.t b0.pos) fun v0=>
 cnd (!decide (v0.kind=(2:Int))) (ob (idx b0.t b0.pos) fun v1=>
 cnd (decide (v1.kind=(3:Int))) (k2 (decide ((0:Int)<(List.length a6:Int))) a6 a1 b0 b107 b104 b105) (k2 false a6 a1 b0 b107 b104 b105)) (k3 a6 b0 b107 b104 b105)
def aAu(n:Nt):Int→List G.O→G.P→G.O→G.O→G.X→Rt:=fun x0 x1 x2 x3 x4 x5=>n [yI x0,yS 2 x1,yR 23 x2,yR 2 x3,yR 2 x4,yR 20 x5]
def X129x1:=aAu (xE iW e [1,1,1,0,0,0] oB (aC7 c e))
def B129x2(c:TC0)(k3:List G.O→G.P→G.O→G.O→G.X→Rt)(n1:Int→List G.O→G.P→G.O→G.O→G.X→Rt)(a43:Bool)(a6:List G.O)(a1:Int)(b0:G.P)(b107:G.O)(b104:G.O)(b105:G.X):Rt:=
 cnd a43 (obL [.rc 2,.rc 20,.rc 23] (c 107 [yI a1,yR 23 (G.P.mk b0.l b0.current b0.t (IntKind.i64.wrap (b0.pos+(1:Int))))]) fun(r0:G.O×G.X×G.P×Unit)=>
 cnd (!decide (r0.2.1.err=(0:Int))) (some [yR 2 (G.O.mk (0:Int) ([]:List UInt8) ([]:List UInt8) (G.Y.mk ([]:List UInt8) ([]:List UInt8)) ([]:List UInt8) ([]:List G.O)),yR 20 r0.2.1,yR 23 r0.2.2.1]) (ob (idx r0.2.2.1.t r0.2.2.1.pos) fun v1=>
 cnd (decide (v1.kind=(2:Int))) (k3 a6 r0.2.2.1 r0.1 b104 b105) (cnd (decide (v1.kind=(0:Int))) (obL [.rc 20] (c 106 [yI (11:Int),yI v1.pos]) fun(r2:G.X×Unit)=>
 some [yR 2 (G.O.mk (0:Int) ([]:List UInt8) ([]:List UInt8) (G.Y.mk ([]:List UInt8) ([]:List UInt8)) ([]:List UInt8) ([]:List G.O)),yR 20 r2.1,yR 23 r0.2.2.1]) (obL [.rc 20] (c 106 [yI (12:Int),yI v1.pos]) fun(r3:G.X×Unit)=>
 some [yR 2 (G.O.mk (0:Int) ([]:List UInt8) ([]:List UInt8) (G.Y.mk ([]:List UInt8) ([]:List UInt8)) ([]:List UInt8) ([]:List G.O)),yR 20 r3.1,yR 23 r0.2.2.1])))) (obL [.rc 2,.rc 20,.rc 23] (c 107 [yI a1,yR 23 b0]) fun(r4:G.O×G.X×G.P×Unit)=>
 cnd (!decide (r4.2.1.err=(0:Int))) (some [yR 2 (G.O.mk (0:Int) ([]:List UInt8) ([]:List UInt8) (G.Y.mk ([]:List UInt8) ([]:List UInt8)) ([]:List UInt8) ([]:List G.O)),yR 20 r4.2.1,yR 23 r4.2.2.1]) (chk (Nat.ble ((List.length a6+List.length ([r4.1]:List G.O))*112) 1073741824)<|
 n1 a1 (a6++([r4.1]:List G.O)) r4.2.2.1 b107 b104 b105))
def V129x2(n:Nt):Bool→List G.O→Int→G.P→G.O→G.O→G.X→Rt:=fun x0 x1 x2 x3 x4 x5 x6=>n [yB x0,yS 2 x1,yI x2,yR 23 x3,yR 2 x4,yR 2 x5,yR 20 x6]
def aI3(n1:Nt):=V129x2 (xD iW e [1,1,1,0,0,0,1,0,0,1,0] aBV (q129x5 c e n1))
def B129x3(c:TC0)(e4:List G.O→Int→G.P→G.O→G.O→G.X→Rt)(a6:List G.O)(b0:G.P)(b107:G.O)(b104:G.O)(b105:G.X):Rt:=
 e4 a6 (IntKind.i64.wrap ((List.length a6:Int)-(1:Int))) (G.P.mk b0.l b0.current b0.t (IntKind.i64.wrap (b0.pos+(1:Int)))) b107 b104 b105
def V129x3(n:Nt):List G.O→G.P→G.O→G.O→G.X→Rt:=fun x0 x1 x2 x3 x4=>n [yS 2 x0,yR 23 x1,yR 2 x2,yR 2 x3,yR 20 x4]
def aEm:=V129x3 (xD iW e [1,1,1,1,0] aBU (aC8 c e))
def B129x4(c:TC0)(n4:List G.O→Int→G.P→G.O→G.O→G.X→Rt)(a6:List G.O)(a13:Int)(b0:G.P)(b107:G.O)(b104:G.O)(b105:G.X):Rt:=
 cnd (decide ((0:Int)≤a13)) (ob (idx a6 a13) fun v0=>
 obL [.rc 2] (c 54 [yR 2 v0,yR 2 b107]) fun(r1:G.O×Unit)=>
 n4 a6 (IntKind.i64.wrap (a13-(1:Int))) b0 r1.1 b104 b105) (some [yR 2 b107,yR 20 (G.X.mk (0:Int) (0:Int)),yR 23 b0])
def aEK(n:Nt):List G.O→Int→G.P→G.O→G.O→G.X→Rt:=fun x0 x1 x2 x3 x4 x5=>n [yS 2 x0,yI x1,yR 23 x2,yR 2 x3,yR 2 x4,yR 20 x5]
def X129x4:=aEK (xE iW e [1,1,1,1,0,1,0,1,0,0] rG (aGC c e))
theorem s129x0:V129x0 (xF iW c e)=B129x0 c (X129x1 c e):=by kernel_rfl
theorem s129x1(n1:Nt):aAu (xA iW c e [1,1,1,0,0,0] oB (lpK U0 oB n1 (aC7 c e)))=B129x1 c (aI3 c e n1) (aEm c e):=by kernel_rfl
theorem s129x2(n1:Nt):V129x2 (xA iW c e [1,1,1,0,0,0,1,0,0,1,0] aBV (q129x5 c e n1))=B129x2 c (aEm c e) (aAu n1):=by kernel_rfl
theorem s129x3:V129x3 (xA iW c e [1,1,1,1,0] aBU (aC8 c e))=B129x3 c (X129x4 c e):=by kernel_rfl
theorem s129x4(n4:Nt):aEK (xA iW c e [1,1,1,1,0,1,0,1,0,0] rG (lpK U0 rG n4 (aGC c e)))=B129x4 c (aEK n4):=by kernel_rfl
def aEy(c:TC0)(L:Nat):Nat→List G.O→Int→G.P→G.O→G.O→G.X→Rt
 |0=>fun _ _ _ _ _ _=>none
 |n+1=>B129x4 c (aEy c L n)
theorem u129x4(n:Nat):aEK (xL iW c L [1,1,1,1,0,1,0,1,0,0] rG (aGC c (cu c L)) n)=aEy c L n:=by
 induction n with
 |zero=>rfl
 |succ n ih=>rw[fO,s129x4];simp only[ih];rfl
theorem w129x4:X129x4 c (cu c L)=aEy c L L:=u129x4 c L L
def aJB(c:TC0)(L:Nat):List G.O→G.P→G.O→G.O→G.X→Rt:=B129x3 c (aEy c L L)
theorem j129x3:aEm c (cu c L)=aJB c L:=by rw[aEm,aM,s129x3];simp only[w129x4];rfl
def J129x2(c:TC0)(L:Nat)(n1:Int→List G.O→G.P→G.O→G.O→G.X→Rt):Bool→List G.O→Int→G.P→G.O→G.O→G.X→Rt:=B129x2 c (aJB c L) n1
theorem j129x2(n1:Nt):aI3 c (cu c L) n1=J129x2 c L (aAu n1):=by rw[aI3,aM,s129x2];simp only[j129x3];rfl
def aEz(c:TC0)(L:Nat):Nat→Int→List G.O→G.P→G.O→G.O→G.X→Rt
 |0=>fun _ _ _ _ _ _=>none
 |n+1=>B129x1 c (J129x2 c L (aEz c L n)) (aJB c L)
theorem u129x1(n:Nat):aAu (xL iW c L [1,1,1,0,0,0] oB (aC7 c (cu c L)) n)=aEz c L n:=by
 induction n with
 |zero=>rfl
 |succ n ih=>rw[fO,s129x1];simp only[j129x2,j129x3,ih];rfl
theorem w129x1:X129x1 c (cu c L)=aEz c L L:=u129x1 c L L
def F129(c:TC0)(L:Nat):Int→G.P→Rt:=B129x0 c (aEz c L L)
theorem e129:V129x0 (xF iW c (cu c L))=F129 c L:=by rw[s129x0];simp only[w129x1];rfl
theorem c129(a1:Int)(b0:G.P)(L n:Nat):CTp L (n+1) 129 [yI a1,yR 23 b0]=F129 (CTp L n) L a1 b0:=by rw[←e129];exact cg (x:=iW) (by kernel_rfl) (by kernel_rfl) L n _
def q130x0(c:TC0)(e:Cu):Kt:=xK pJ
def q130x1(c:TC0)(e:Cu):Kt:=xT pJ c e [1,1,1,1] (q130x0 c e)
def q130x2(c:TC0)(e:Cu):Kt:=xT pJ c e [1,1,1,1,1] (q130x0 c e)
def aGB(c:TC0)(e:Cu):Kt:=dD U0 0 (q130x2 c e)
def B130x0(c:TC0)(k1:Bool→List UInt8→List UInt8→G.A→G.Y→Rt)(a0:List G.A)(a1:List UInt8)(a2:List UInt8):Rt:=
 obL [.rc 9,.bool] (c 161 [yS 9 a0,yT a1]) fun(r0:G.A×Bool×Unit)=>
 cnd (!r0.2.1) (some [yR 1 (G.Y.mk ([]:List UInt8) ([]:List UInt8)),yI (13:Int)]) (cnd (decide ((List.length a2:Int)<(1:Int))) (k1 true a1 a2 r0.1 (G.Y.mk ([]:List UInt8) ([]:List UInt8))) (k1 (decide ((40:Int)<(List.length a2:Int))) a1 a2 r0.1 (G.Y.mk ([]:List UInt8) ([]:List UInt8))))
def V130x0(n:Nt):List G.A→List UInt8→List UInt8→Rt:=fun x0 x1 x2=>n [yS 9 x0,yT x1,yT x2]
def B130x1(c:TC0)(e2:Int→List UInt8→List UInt8→G.A→G.Y→Rt)(a27:Bool)(a1:List UInt8)(a2:List UInt8)(b108:G.A)(b106:G.Y):Rt:=
 cnd a27 (some [yR 1 (G.Y.mk ([]:List UInt8) ([]:List UInt8)),yI (3:Int)]) (e2 (0:Int) a1 a2 b108 b106)
def V130x1(n:Nt):Bool→List UInt8→List UInt8→G.A→G.Y→Rt:=fun x0 x1 x2 x3 x4=>n [yB x0,yT x1,yT x2,yR 9 x3,yR 1 x4]
def aI2:=V130x1 (xD pJ e [1,1,1,0,1,0] aBT (q130x1 c e))
def B130x2(c:TC0)(n2:Int→List UInt8→List UInt8→G.A→G.Y→Rt)(a10:Int)(a1:List UInt8)(a2:List UInt8)(b108:G.A)(b106:G.Y):Rt:=
 cnd (decide (a10<(List.length b108.imports:Int))) (ob (idx b108.imports a10) fun v0=>
 cnd (decide (v0.name=a2)) (ob (idx b108.imports a10) fun v1=>
 some [yR 1 v1,yI (0:Int)]) (n2 (IntKind.i64.wrap (a10+(1:Int))) a1 a2 b108 b106)) (some [yR 1 (G.Y.mk a1 a2),yI (0:Int)])
def aEJ(n:Nt):Int→List UInt8→List UInt8→G.A→G.Y→Rt:=fun x0 x1 x2 x3 x4=>n [yI x0,yT x1,yT x2,yR 9 x3,yR 1 x4]
def X130x2:=aEJ (xE pJ e [1,1,1,1,0,1,0,0] rF (aGB c e))
theorem s130x0:V130x0 (xF pJ c e)=B130x0 c (aI2 c e):=by kernel_rfl
theorem s130x1:V130x1 (xA pJ c e [1,1,1,0,1,0] aBT (q130x1 c e))=B130x1 c (X130x2 c e):=by kernel_rfl
theorem s130x2(n2:Nt):aEJ (xA pJ c e [1,1,1,1,0,1,0,0] rF (lpK U0 rF n2 (aGB c e)))=B130x2 c (aEJ n2):=by kernel_rfl
def aEx(c:TC0)(L:Nat):Nat→Int→List UInt8→List UInt8→G.A→G.Y→Rt
 |0=>fun _ _ _ _ _=>none
 |n+1=>B130x2 c (aEx c L n)
theorem u130x2(n:Nat):aEJ (xL pJ c L [1,1,1,1,0,1,0,0] rF (aGB c (cu c L)) n)=aEx c L n:=by
 induction n with
 |zero=>rfl
 |succ n ih=>rw[fO,s130x2];simp only[ih];rfl
theorem w130x2:X130x2 c (cu c L)=aEx c L L:=u130x2 c L L
def J130x1(c:TC0)(L:Nat):Bool→List UInt8→List UInt8→G.A→G.Y→Rt:=B130x1 c (aEx c L L)
theorem j130x1:aI2 c (cu c L)=J130x1 c L:=by rw[aI2,aM,s130x1];simp only[w130x2];rfl
def F130(c:TC0)(L:Nat):List G.A→List UInt8→List UInt8→Rt:=B130x0 c (J130x1 c L)
theorem e130:V130x0 (xF pJ c (cu c L))=F130 c L:=by rw[s130x0];simp only[j130x1];rfl
theorem c130(a0:List G.A)(a1:List UInt8)(a2:List UInt8)(L n:Nat):CTp L (n+1) 130 [yS 9 a0,yT a1,yT a2]=F130 (CTp L n) L a0 a1 a2:=by rw[←e130];exact cg (x:=pJ) (by kernel_rfl) (by kernel_rfl) L n _
def q131x0(c:TC0)(e:Cu):Kt:=xK aBf
def B131x0(c:TC0)(k1:Bool→Rt)(a0:G.Y):Rt:=
 obL [.bool] (c 162 [yR 1 a0]) fun(r0:Bool×Unit)=>
 cnd r0.1 (obL [.rc 1] (c 43 [yT ([110,105,108]:List UInt8)]) fun(r1:G.Y×Unit)=>
 cnd (!decide (a0=r1.1)) (obL [.rc 1] (c 43 [yT ([116]:List UInt8)]) fun(r2:G.Y×Unit)=>
 k1 (!decide (a0=r2.1))) (k1 false)) (k1 false)
def V131x0(n:Nt):G.Y→Rt:=fun x0=>n [yR 1 x0]
def B131x1(c:TC0)(a2:Bool):Rt:=
 some [yB a2]
def V131x1(n:Nt):Bool→Rt:=fun x0=>n [yB x0]
def aI1:=V131x1 (xD aBf e [1,1,0] aBS (q131x0 c e))
theorem s131x0:V131x0 (xF aBf c e)=B131x0 c (aI1 c e):=by kernel_rfl
theorem s131x1:V131x1 (xA aBf c e [1,1,0] aBS (q131x0 c e))=B131x1 c:=by kernel_rfl
def J131x1(c:TC0)(L:Nat):Bool→Rt:=B131x1 c
theorem j131x1:aI1 c (cu c L)=J131x1 c L:=by rw[aI1,aM,s131x1];rfl
def F131(c:TC0)(L:Nat):G.Y→Rt:=B131x0 c (J131x1 c L)
theorem e131:V131x0 (xF aBf c (cu c L))=F131 c L:=by rw[s131x0];simp only[j131x1];rfl
theorem c131(a0:G.Y)(L n:Nat):CTp L (n+1) 131 [yR 1 a0]=F131 (CTp L n) L a0:=by rw[←e131];exact cg (x:=aBf) (by kernel_rfl) (by kernel_rfl) L n _
def q136x0(c:TC0)(e:Cu):Kt:=xK pI
def q136x1(c:TC0)(e:Cu):Kt:=xT pI c e [1,1] (q136x0 c e)
def aC6(c:TC0)(e:Cu):Kt:=dD U0 0 (q136x1 c e)
def q136x3(c:TC0)(e:Cu)(n1:Nt):Kt:=lpK U0 nZ n1 (aC6 c e)
def q136x4(c:TC0)(e:Cu)(n1:Nt):Kt:=xT pI c e [1,0,1,0,0,1,1] (q136x3 c e n1)
def q136x5(c:TC0)(e:Cu)(n1:Nt):Kt:=dD U0 1 (q136x4 c e n1)
def B136x0(c:TC0)(e1:List G.E→Int→G.Y→G.M→Rt)(a0:List G.E)(a1:G.Y):Rt:=
 e1 a0 (0:Int) a1 (G.M.mk (G.Y.mk ([]:List UInt8) ([]:List UInt8)) ([]:List G.Y) false (G.T.mk (0:Int) (G.Y.mk ([]:List UInt8) ([]:List UInt8)) (G.O.mk (0:Int) ([]:List UInt8) ([]:List UInt8) (G.Y.mk ([]:List UInt8) ([]:List UInt8)) ([]:List UInt8) ([]:List G.O)) ([]:List G.T)))
def V136x0(n:Nt):List G.E→G.Y→Rt:=fun x0 x1=>n [yS 16 x0,yR 1 x1]
def B136x1(c:TC0)(k2:Bool→Int→List G.E→G.Y→G.M→Rt)(a0:List G.E)(a6:Int)(b103:G.Y)(b104:G.M):Rt:=
 cnd (decide (a6<(List.length a0:Int))) (ob (idx a0 a6) fun v0=>
 cnd (decide (v0.kind=(2:Int))) (ob (idx a0 a6) fun v1=>
 k2 (decide (v1.mac.name=b103)) a6 a0 b103 b104) (k2 false a6 a0 b103 b104)) (some [yR 10 (G.M.mk (G.Y.mk ([]:List UInt8) ([]:List UInt8)) ([]:List G.Y) false (G.T.mk (0:Int) (G.Y.mk ([]:List UInt8) ([]:List UInt8)) (G.O.mk (0:Int) ([]:List UInt8) ([]:List UInt8) (G.Y.mk ([]:List UInt8) ([]:List UInt8)) ([]:List UInt8) ([]:List G.O)) ([]:List G.T))),yB false])
def aAt(n:Nt):List G.E→Int→G.Y→G.M→Rt:=fun x0 x1 x2 x3=>n [yS 16 x0,yI x1,yR 1 x2,yR 10 x3]
def X136x1:=aAt (xE pI e [1,0,1,0,0] nZ (aC6 c e))
def B136x2(c:TC0)(n1:List G.E→Int→G.Y→G.M→Rt)(a28:Bool)(a6:Int)(a0:List G.E)(b103:G.Y)(b104:G.M):Rt:=
 cnd a28 (ob (idx a0 a6) fun v0=>
 some [yR 10 v0.mac,yB true]) (n1 a0 (IntKind.i64.wrap (a6+(1:Int))) b103 b104)
def V136x2(n:Nt):Bool→Int→List G.E→G.Y→G.M→Rt:=fun x0 x1 x2 x3 x4=>n [yB x0,yI x1,yS 16 x2,yR 1 x3,yR 10 x4]
def aI0(n1:Nt):=V136x2 (xD pI e [1,0,1,0,0,1,0,0,1,0] aBR (q136x5 c e n1))
theorem s136x0:V136x0 (xF pI c e)=B136x0 c (X136x1 c e):=by kernel_rfl
theorem s136x1(n1:Nt):aAt (xA pI c e [1,0,1,0,0] nZ (lpK U0 nZ n1 (aC6 c e)))=B136x1 c (aI0 c e n1):=by kernel_rfl
theorem s136x2(n1:Nt):V136x2 (xA pI c e [1,0,1,0,0,1,0,0,1,0] aBR (q136x5 c e n1))=B136x2 c (aAt n1):=by kernel_rfl
def J136x2(c:TC0)(L:Nat)(n1:List G.E→Int→G.Y→G.M→Rt):Bool→Int→List G.E→G.Y→G.M→Rt:=B136x2 c n1
theorem j136x2(n1:Nt):aI0 c (cu c L) n1=J136x2 c L (aAt n1):=by rw[aI0,aM,s136x2];rfl
def aEw(c:TC0)(L:Nat):Nat→List G.E→Int→G.Y→G.M→Rt
 |0=>fun _ _ _ _=>none
 |n+1=>B136x1 c (J136x2 c L (aEw c L n))
theorem u136x1(n:Nat):aAt (xL pI c L [1,0,1,0,0] nZ (aC6 c (cu c L)) n)=aEw c L n:=by
 induction n with
 |zero=>rfl
 |succ n ih=>rw[fO,s136x1];simp only[j136x2,ih];rfl
theorem w136x1:X136x1 c (cu c L)=aEw c L L:=u136x1 c L L
def F136(c:TC0)(L:Nat):List G.E→G.Y→Rt:=B136x0 c (aEw c L L)
theorem e136:V136x0 (xF pI c (cu c L))=F136 c L:=by rw[s136x0];simp only[w136x1];rfl
theorem c136(a0:List G.E)(a1:G.Y)(L n:Nat):CTp L (n+1) 136 [yS 16 a0,yR 1 a1]=F136 (CTp L n) L a0 a1:=by rw[←e136];exact cg (x:=pI) (by kernel_rfl) (by kernel_rfl) L n _
def B140x0(c:TC0)(a0:G.T):Rt:=
 obL [i6] (c 166 [yR 3 a0,yI (3001:Int)]) fun(r0:Int×Unit)=>
 some [yI r0.1]
def V140x0(n:Nt):G.T→Rt:=fun x0=>n [yR 3 x0]
theorem s140x0:V140x0 (xF ii140 c e)=B140x0 c:=by kernel_rfl
def F140(c:TC0)(L:Nat):G.T→Rt:=B140x0 c
theorem e140:V140x0 (xF ii140 c (cu c L))=F140 c L:=s140x0 _ _
theorem c140(a0:G.T)(L n:Nat):CTp L (n+1) 140 [yR 3 a0]=F140 (CTp L n) L a0:=by rw[←e140];exact cg (x:=ii140) (by kernel_rfl) (by kernel_rfl) L n _
def B141x0(c:TC0)(a0:G.T):Rt:=
 obL [i6] (c 167 [yR 3 a0,yI (201:Int)]) fun(r0:Int×Unit)=>
 some [yI r0.1]
def V141x0(n:Nt):G.T→Rt:=fun x0=>n [yR 3 x0]
theorem s141x0:V141x0 (xF ii141 c e)=B141x0 c:=by kernel_rfl
def F141(c:TC0)(L:Nat):G.T→Rt:=B141x0 c
theorem e141:V141x0 (xF ii141 c (cu c L))=F141 c L:=s141x0 _ _
theorem c141(a0:G.T)(L n:Nat):CTp L (n+1) 141 [yR 3 a0]=F141 (CTp L n) L a0:=by rw[←e141];exact cg (x:=ii141) (by kernel_rfl) (by kernel_rfl) L n _
end
end Go.TV
namespace Go.TV
open Go.AI Go.PI Go.Proofs
set_option maxRecDepth 20000
noncomputable section
variable(c:TC0)(e:Cu)(L:Nat)
def q142x0(c:TC0)(e:Cu):Kt:=xK jP
def q142x1(c:TC0)(e:Cu):Kt:=xT jP c e [1,1,1] (q142x0 c e)
def sZ(c:TC0)(e:Cu):Kt:=dD U0 0 (q142x1 c e)
def q142x3(c:TC0)(e:Cu):Kt:=xT jP c e [1,1,0,1,0,1,1,1,1,1,0,1] (sZ c e)
def q142x4(c:TC0)(e:Cu):Kt:=xT jP c e [1,1,0,1,0,1,1,1,1,1,0,1,1] (sZ c e)
def aGA(c:TC0)(e:Cu):Kt:=dD U0 1 (q142x4 c e)
def B142x0(c:TC0)(k1:Bool→Rt)(k2:Bool→Rt)(k3:Bool→G.T→Rt)(a0:G.T):Rt:=
 obL [.bool] (c 34 [yR 2 a0.value,yR 2 (G.O.mk (0:Int) ([]:List UInt8) ([]:List UInt8) (G.Y.mk ([]:List UInt8) ([]:List UInt8)) ([]:List UInt8) ([]:List G.O))]) fun(r0:Bool×Unit)=>
 cnd (decide (a0.kind=(1:Int))) (cnd r0.1 (obL [.bool] (c 131 [yR 1 a0.name]) fun(r1:Bool×Unit)=>
 cnd r1.1 (k1 (decide ((List.length a0.args:Int)=(0:Int)))) (k1 false)) (k1 false)) (cnd (decide (a0.kind=(2:Int))) (cnd (decide (a0.name=(G.Y.mk ([]:List UInt8) ([]:List UInt8)))) (obL [.bool] (c 168 [yR 2 a0.value]) fun(r2:Bool×Unit)=>
 cnd r2.1 (k2 (decide ((List.length a0.args:Int)=(0:Int)))) (k2 false)) (k2 false)) (cnd (decide (a0.kind=(3:Int))) (cnd (!r0.1) (k3 true a0) (obL [.bool] (c 162 [yR 1 a0.name]) fun(r3:Bool×Unit)=>
 cnd (!r3.1) (k3 true a0) (k3 (decide ((8:Int)<(List.length a0.args:Int))) a0))) (some [yB false])))
def V142x0(n:Nt):G.T→Rt:=fun x0=>n [yR 3 x0]
def B142x1(c:TC0)(a2:Bool):Rt:=
 some [yB a2]
def V142x1(n:Nt):Bool→Rt:=fun x0=>n [yB x0]
def aIZ:=V142x1 (xD jP e [1,1,0,1,0,1,0,1,0] aBQ (sZ c e))
def B142x2(c:TC0)(a2:Bool):Rt:=
 some [yB a2]
def V142x2(n:Nt):Bool→Rt:=fun x0=>n [yB x0]
def aIY:=V142x2 (xD jP e [1,1,0,1,0,1,1,1,0,1,0] aBP (sZ c e))
def B142x3(c:TC0)(e4:Int→G.T→Rt)(a57:Bool)(b101:G.T):Rt:=
 cnd a57 (some [yB false]) (e4 (0:Int) b101)
def V142x3(n:Nt):Bool→G.T→Rt:=fun x0 x1=>n [yB x0,yR 3 x1]
def aIX:=V142x3 (xD jP e [1,1,0,1,0,1,1,1,1,1,0,0,1,0] aBO (q142x3 c e))
def B142x4(c:TC0)(n4:Int→G.T→Rt)(a4:Int)(b101:G.T):Rt:=
 cnd (decide (a4<(List.length b101.args:Int))) (ob (idx b101.args a4) fun v0=>
 obL [.bool] (c 142 [yR 3 v0]) fun(r1:Bool×Unit)=>
 cnd (!r1.1) (some [yB false]) (n4 (IntKind.i64.wrap (a4+(1:Int))) b101)) (some [yB true])
def aEI(n:Nt):Int→G.T→Rt:=fun x0 x1=>n [yI x0,yR 3 x1]
def X142x4:=aEI (xE jP e [1,1,0,1,0,1,1,1,1,1,0,1,0,1,0,0] rE (aGA c e))
theorem s142x0:V142x0 (xF jP c e)=B142x0 c (aIZ c e) (aIY c e) (aIX c e):=by kernel_rfl
theorem s142x1:V142x1 (xA jP c e [1,1,0,1,0,1,0,1,0] aBQ (sZ c e))=B142x1 c:=by kernel_rfl
theorem s142x2:V142x2 (xA jP c e [1,1,0,1,0,1,1,1,0,1,0] aBP (sZ c e))=B142x2 c:=by kernel_rfl
theorem s142x3:V142x3 (xA jP c e [1,1,0,1,0,1,1,1,1,1,0,0,1,0] aBO (q142x3 c e))=B142x3 c (X142x4 c e):=by kernel_rfl
theorem s142x4(n4:Nt):aEI (xA jP c e [1,1,0,1,0,1,1,1,1,1,0,1,0,1,0,0] rE (lpK U0 rE n4 (aGA c e)))=B142x4 c (aEI n4):=by kernel_rfl
def J142x1(c:TC0)(L:Nat):Bool→Rt:=B142x1 c
theorem j142x1:aIZ c (cu c L)=J142x1 c L:=by rw[aIZ,aM,s142x1];rfl
def J142x2(c:TC0)(L:Nat):Bool→Rt:=B142x2 c
theorem j142x2:aIY c (cu c L)=J142x2 c L:=by rw[aIY,aM,s142x2];rfl
def aEv(c:TC0)(L:Nat):Nat→Int→G.T→Rt
 |0=>fun _ _=>none
 |n+1=>B142x4 c (aEv c L n)
theorem u142x4(n:Nat):aEI (xL jP c L [1,1,0,1,0,1,1,1,1,1,0,1,0,1,0,0] rE (aGA c (cu c L)) n)=aEv c L n:=by
 induction n with
 |zero=>rfl
 |succ n ih=>rw[fO,s142x4];simp only[ih];rfl
theorem w142x4:X142x4 c (cu c L)=aEv c L L:=u142x4 c L L
def J142x3(c:TC0)(L:Nat):Bool→G.T→Rt:=B142x3 c (aEv c L L)
theorem j142x3:aIX c (cu c L)=J142x3 c L:=by rw[aIX,aM,s142x3];simp only[w142x4];rfl
def F142(c:TC0)(L:Nat):G.T→Rt:=B142x0 c (J142x1 c L) (J142x2 c L) (J142x3 c L)
theorem e142:V142x0 (xF jP c (cu c L))=F142 c L:=by rw[s142x0];simp only[j142x1,j142x2,j142x3];rfl
theorem c142(a0:G.T)(L n:Nat):CTp L (n+1) 142 [yR 3 a0]=F142 (CTp L n) L a0:=by rw[←e142];exact cg (x:=jP) (by kernel_rfl) (by kernel_rfl) L n _
def xR(c:TC0)(e:Cu):Kt:=xK gL
def q144x1(c:TC0)(e:Cu):Kt:=xT gL c e [1,1,1,1] (xR c e)
def q144x2(c:TC0)(e:Cu):Kt:=xT gL c e [1,1,1,1,0,1] (xR c e)
def q144x3(c:TC0)(e:Cu):Kt:=xT gL c e [1,1,1,1,0,1,1] (xR c e)
def aC5(c:TC0)(e:Cu):Kt:=dD U0 0 (q144x3 c e)
def q144x5(c:TC0)(e:Cu)(n4:Nt):Kt:=lpK U0 nY n4 (aC5 c e)
def q144x6(c:TC0)(e:Cu)(n4:Nt):Kt:=xT gL c e [1,1,1,1,0,1,0,1,0,0,1,1] (q144x5 c e n4)
def q144x7(c:TC0)(e:Cu)(n4:Nt):Kt:=dD U0 1 (q144x6 c e n4)
def B144x0(c:TC0)(k1:Bool→Int→List UInt8→Rt)(a0:List UInt8):Rt:=
 cnd (decide (a0=([48]:List UInt8))) (some [yB true]) (cnd (decide ((0:Int)<(List.length a0:Int))) (ob (idx a0 (0:Int)) fun v0=>
 k1 (decide ((v0.toNat:Int)=(45:Int))) (0:Int) a0) (k1 false (0:Int) a0))
def V144x0(n:Nt):List UInt8→Rt:=fun x0=>n [yT x0]
def B144x1(c:TC0)(k2:Int→List UInt8→Rt)(a14:Bool)(a3:Int)(a0:List UInt8):Rt:=
 cnd a14 (k2 (1:Int) a0) (k2 a3 a0)
def V144x1(n:Nt):Bool→Int→List UInt8→Rt:=fun x0 x1 x2=>n [yB x0,yI x1,yT x2]
def aIW:=V144x1 (xD gL e [1,1,1,0,1,0] aBN (q144x1 c e))
def B144x2(c:TC0)(k3:Bool→Int→List UInt8→Rt)(a3:Int)(a0:List UInt8):Rt:=
 cnd (decide ((List.length a0:Int)≤a3)) (k3 true a3 a0) (ob (idx a0 a3) fun v0=>
 k3 (decide ((v0.toNat:Int)=(48:Int))) a3 a0)
def V144x2(n:Nt):Int→List UInt8→Rt:=fun x0 x1=>n [yI x0,yT x1]
def aIV:=V144x2 (xD gL e [1,1,1,1,0] aBM (xR c e))
def B144x3(c:TC0)(e4:List UInt8→Int→Rt)(a24:Bool)(a3:Int)(a0:List UInt8):Rt:=
 cnd a24 (some [yB false]) (e4 a0 a3)
def V144x3(n:Nt):Bool→Int→List UInt8→Rt:=fun x0 x1 x2=>n [yB x0,yI x1,yT x2]
def aIU:=V144x3 (xD gL e [1,1,1,1,0,0,1,0] aBL (q144x2 c e))
def B144x4(c:TC0)(k5:Bool→Int→List UInt8→Rt)(a0:List UInt8)(a4:Int):Rt:=
 cnd (decide (a4<(List.length a0:Int))) (ob (idx a0 a4) fun v0=>
 cnd (decide ((v0.toNat:Int)<(48:Int))) (k5 true a4 a0) (ob (idx a0 a4) fun v1=>
 k5 (decide ((57:Int)<(v1.toNat:Int))) a4 a0)) (some [yB true])
def aAs(n:Nt):List UInt8→Int→Rt:=fun x0 x1=>n [yT x0,yI x1]
def X144x4:=aAs (xE gL e [1,1,1,1,0,1,0,1,0,0] nY (aC5 c e))
def B144x5(c:TC0)(n4:List UInt8→Int→Rt)(a41:Bool)(a4:Int)(a0:List UInt8):Rt:=
 cnd a41 (some [yB false]) (n4 a0 (IntKind.i64.wrap (a4+(1:Int))))
def V144x5(n:Nt):Bool→Int→List UInt8→Rt:=fun x0 x1 x2=>n [yB x0,yI x1,yT x2]
def aIT(n4:Nt):=V144x5 (xD gL e [1,1,1,1,0,1,0,1,0,0,1,0,0,1,0] aBK (q144x7 c e n4))
theorem s144x0:V144x0 (xF gL c e)=B144x0 c (aIW c e):=by kernel_rfl
theorem s144x1:V144x1 (xA gL c e [1,1,1,0,1,0] aBN (q144x1 c e))=B144x1 c (aIV c e):=by kernel_rfl
theorem s144x2:V144x2 (xA gL c e [1,1,1,1,0] aBM (xR c e))=B144x2 c (aIU c e):=by kernel_rfl
theorem s144x3:V144x3 (xA gL c e [1,1,1,1,0,0,1,0] aBL (q144x2 c e))=B144x3 c (X144x4 c e):=by kernel_rfl
theorem s144x4(n4:Nt):aAs (xA gL c e [1,1,1,1,0,1,0,1,0,0] nY (lpK U0 nY n4 (aC5 c e)))=B144x4 c (aIT c e n4):=by kernel_rfl
theorem s144x5(n4:Nt):V144x5 (xA gL c e [1,1,1,1,0,1,0,1,0,0,1,0,0,1,0] aBK (q144x7 c e n4))=B144x5 c (aAs n4):=by kernel_rfl
def J144x5(c:TC0)(L:Nat)(n4:List UInt8→Int→Rt):Bool→Int→List UInt8→Rt:=B144x5 c n4
theorem j144x5(n4:Nt):aIT c (cu c L) n4=J144x5 c L (aAs n4):=by rw[aIT,aM,s144x5];rfl
def aEu(c:TC0)(L:Nat):Nat→List UInt8→Int→Rt
 |0=>fun _ _=>none
 |n+1=>B144x4 c (J144x5 c L (aEu c L n))
theorem u144x4(n:Nat):aAs (xL gL c L [1,1,1,1,0,1,0,1,0,0] nY (aC5 c (cu c L)) n)=aEu c L n:=by
 induction n with
 |zero=>rfl
 |succ n ih=>rw[fO,s144x4];simp only[j144x5,ih];rfl
theorem w144x4:X144x4 c (cu c L)=aEu c L L:=u144x4 c L L
def J144x3(c:TC0)(L:Nat):Bool→Int→List UInt8→Rt:=B144x3 c (aEu c L L)
theorem j144x3:aIU c (cu c L)=J144x3 c L:=by rw[aIU,aM,s144x3];simp only[w144x4];rfl
def J144x2(c:TC0)(L:Nat):Int→List UInt8→Rt:=B144x2 c (J144x3 c L)
theorem j144x2:aIV c (cu c L)=J144x2 c L:=by rw[aIV,aM,s144x2];simp only[j144x3];rfl
def J144x1(c:TC0)(L:Nat):Bool→Int→List UInt8→Rt:=B144x1 c (J144x2 c L)
theorem j144x1:aIW c (cu c L)=J144x1 c L:=by rw[aIW,aM,s144x1];simp only[j144x2];rfl
def F144(c:TC0)(L:Nat):List UInt8→Rt:=B144x0 c (J144x1 c L)
theorem e144:V144x0 (xF gL c (cu c L))=F144 c L:=by rw[s144x0];simp only[j144x1];rfl
theorem c144(a0:List UInt8)(L n:Nat):CTp L (n+1) 144 [yT a0]=F144 (CTp L n) L a0:=by rw[←e144];exact cg (x:=gL) (by kernel_rfl) (by kernel_rfl) L n _
def q145x0(c:TC0)(e:Cu):Kt:=xK pH
def q145x1(c:TC0)(e:Cu):Kt:=xT pH c e [1,1,1] (q145x0 c e)
def aC4(c:TC0)(e:Cu):Kt:=dD U0 0 (q145x1 c e)
def q145x3(c:TC0)(e:Cu)(n1:Nt):Kt:=lpK U0 nX n1 (aC4 c e)
def q145x4(c:TC0)(e:Cu)(n1:Nt):Kt:=xT pH c e [1,1,0,0,0,1] (q145x3 c e n1)
def B145x0(c:TC0)(e1:List Int→Int→Rt)(a0:List Int):Rt:=
 e1 a0 (List.length a0:Int)
def V145x0(n:Nt):List Int→Rt:=fun x0=>n [⟨.sl i6,x0⟩]
def B145x1(c:TC0)(k2:Bool→List Int→Int→Rt)(a0:List Int)(a3:Int):Rt:=
 cnd (decide ((0:Int)<a3)) (ob (idx a0 (IntKind.i64.wrap (a3-(1:Int)))) fun v0=>
 k2 (decide (v0=(0:Int))) a0 a3) (k2 false a0 a3)
def aAr(n:Nt):List Int→Int→Rt:=fun x0 x1=>n [⟨.sl i6,x0⟩,yI x1]
def X145x1:=aAr (xE pH e [1,1,0,0,0] nX (aC4 c e))
def B145x2(c:TC0)(n1:List Int→Int→Rt)(a15:Bool)(a0:List Int)(a3:Int):Rt:=
 cnd a15 (n1 a0 (IntKind.i64.wrap (a3-(1:Int)))) (ob (slc a0 (0:Int) a3) fun v0=>
 some [⟨.sl i6,v0⟩])
def V145x2(n:Nt):Bool→List Int→Int→Rt:=fun x0 x1 x2=>n [yB x0,⟨.sl i6,x1⟩,yI x2]
def aIS(n1:Nt):=V145x2 (xD pH e [1,1,0,0,0,0,1,0] aBJ (q145x4 c e n1))
theorem s145x0:V145x0 (xF pH c e)=B145x0 c (X145x1 c e):=by kernel_rfl
theorem s145x1(n1:Nt):aAr (xA pH c e [1,1,0,0,0] nX (lpK U0 nX n1 (aC4 c e)))=B145x1 c (aIS c e n1):=by kernel_rfl
theorem s145x2(n1:Nt):V145x2 (xA pH c e [1,1,0,0,0,0,1,0] aBJ (q145x4 c e n1))=B145x2 c (aAr n1):=by kernel_rfl
def J145x2(c:TC0)(L:Nat)(n1:List Int→Int→Rt):Bool→List Int→Int→Rt:=B145x2 c n1
theorem j145x2(n1:Nt):aIS c (cu c L) n1=J145x2 c L (aAr n1):=by rw[aIS,aM,s145x2];rfl
def aEt(c:TC0)(L:Nat):Nat→List Int→Int→Rt
 |0=>fun _ _=>none
 |n+1=>B145x1 c (J145x2 c L (aEt c L n))
theorem u145x1(n:Nat):aAr (xL pH c L [1,1,0,0,0] nX (aC4 c (cu c L)) n)=aEt c L n:=by
 induction n with
 |zero=>rfl
 |succ n ih=>rw[fO,s145x1];simp only[j145x2,ih];rfl
theorem w145x1:X145x1 c (cu c L)=aEt c L L:=u145x1 c L L
def F145(c:TC0)(L:Nat):List Int→Rt:=B145x0 c (aEt c L L)
theorem e145:V145x0 (xF pH c (cu c L))=F145 c L:=by rw[s145x0];simp only[w145x1];rfl
theorem c145(a0:List Int)(L n:Nat):CTp L (n+1) 145 [⟨.sl i6,a0⟩]=F145 (CTp L n) L a0:=by rw[←e145];exact cg (x:=pH) (by kernel_rfl) (by kernel_rfl) L n _
def B149x0(c:TC0)(a0:List UInt8)(a1:List UInt8):Rt:=
 cnd (decide (a0=([45,49,48]:List UInt8))) (cnd (decide (a1=([51]:List UInt8))) (some [yI (-1:Int)]) (none)) (cnd (decide (a0=([45,57]:List UInt8))) (cnd (decide (a1=([45,53]:List UInt8))) (some [yI (-1:Int)]) (none)) (cnd (decide (a0=([45,54]:List UInt8))) (cnd (decide (a1=([45,53]:List UInt8))) (some [yI (-1:Int)]) (cnd (decide (a1=([49]:List UInt8))) (some [yI (-1:Int)]) (none))) (cnd (decide (a0=([45,53]:List UInt8))) (cnd (decide (a1=([45,57]:List UInt8))) (some [yI (1:Int)]) (cnd (decide (a1=([45,54]:List UInt8))) (some [yI (1:Int)]) (cnd (decide (a1=([45,53]:List UInt8))) (some [yI (0:Int)]) (cnd (decide (a1=([45,51]:List UInt8))) (some [yI (-1:Int)]) (cnd (decide (a1=([48]:List UInt8))) (some [yI (-1:Int)]) (cnd (decide (a1=([51]:List UInt8))) (some [yI (-1:Int)]) (cnd (decide (a1=([54]:List UInt8))) (some [yI (-1:Int)]) (cnd (decide (a1=([57]:List UInt8))) (some [yI (-1:Int)]) (none))))))))) (cnd (decide (a0=([45,52]:List UInt8))) (cnd (decide (a1=([49]:List UInt8))) (some [yI (-1:Int)]) (none)) (cnd (decide (a0=([45,51]:List UInt8))) (cnd (decide (a1=([45,53]:List UInt8))) (some [yI (1:Int)]) (cnd (decide (a1=([45,51]:List UInt8))) (some [yI (0:Int)]) (cnd (decide (a1=([45,50]:List UInt8))) (some [yI (-1:Int)]) (cnd (decide (a1=([45,49]:List UInt8))) (some [yI (-1:Int)]) (cnd (decide (a1=([48]:List UInt8))) (some [yI (-1:Int)]) (cnd (decide (a1=([49]:List UInt8))) (some [yI (-1:Int)]) (cnd (decide (a1=([50]:List UInt8))) (some [yI (-1:Int)]) (cnd (decide (a1=([51]:List UInt8))) (some [yI (-1:Int)]) (none))))))))) (cnd (decide (a0=([45,50]:List UInt8))) (cnd (decide (a1=([45,51]:List UInt8))) (some [yI (1:Int)]) (cnd (decide (a1=([45,50]:List UInt8))) (some [yI (0:Int)]) (cnd (decide (a1=([45,49]:List UInt8))) (some [yI (-1:Int)]) (cnd (decide (a1=([48]:List UInt8))) (some [yI (-1:Int)]) (cnd (decide (a1=([49]:List UInt8))) (some [yI (-1:Int)]) (cnd (decide (a1=([50]:List UInt8))) (some [yI (-1:Int)]) (cnd (decide (a1=([51]:List UInt8))) (some [yI (-1:Int)]) (none)))))))) (cnd (decide (a0=([45,49]:List UInt8))) (cnd (decide (a1=([45,51]:List UInt8))) (some [yI (1:Int)]) (cnd (decide (a1=([45,50]:List UInt8))) (some [yI (1:Int)]) (cnd (decide (a1=([45,49]:List UInt8))) (some [yI (0:Int)]) (cnd (decide (a1=([48]:List UInt8))) (some [yI (-1:Int)]) (cnd (decide (a1=([49]:List UInt8))) (some [yI (-1:Int)]) (cnd (decide (a1=([50]:List UInt8))) (some [yI (-1:Int)]) (cnd (decide (a1=([51]:List UInt8))) (some [yI (-1:Int)]) (none)))))))) (cnd (decide (a0=([48]:List UInt8))) (cnd (decide (a1=([45,53]:List UInt8))) (some [yI (1:Int)]) (cnd (decide (a1=([45,51]:List UInt8))) (some [yI (1:Int)]) (cnd (decide (a1=([45,50]:List UInt8))) (some [yI (1:Int)]) (cnd (decide (a1=([45,49]:List UInt8))) (some [yI (1:Int)]) (cnd (decide (a1=([48]:List UInt8))) (some [yI (0:Int)]) (cnd (decide (a1=([49]:List UInt8))) (some [yI (-1:Int)]) (cnd (decide (a1=([50]:List UInt8))) (some [yI (-1:Int)]) (cnd (decide (a1=([51]:List UInt8))) (some [yI (-1:Int)]) (none))))))))) (cnd (decide (a0=([49]:List UInt8))) (cnd (decide (a1=([45,54]:List UInt8))) (some [yI (1:Int)]) (cnd (decide (a1=([45,52]:List UInt8))) (some [yI (1:Int)]) (cnd (decide (a1=([45,51]:List UInt8))) (some [yI (1:Int)]) (cnd (decide (a1=([45,50]:List UInt8))) (some [yI (1:Int)]) (cnd (decide (a1=([45,49]:List UInt8))) (some [yI (1:Int)]) (cnd (decide (a1=([48]:List UInt8))) (some [yI (1:Int)]) (cnd (decide (a1=([49]:List UInt8))) (some [yI (0:Int)]) (cnd (decide (a1=([50]:List UInt8))) (some [yI (-1:Int)]) (cnd (decide (a1=([51]:List UInt8))) (some [yI (-1:Int)]) (cnd (decide (a1=([52]:List UInt8))) (some [yI (-1:Int)]) (cnd (decide (a1=([54]:List UInt8))) (some [yI (-1:Int)]) (none)))))))))))) (cnd (decide (a0=([50]:List UInt8))) (cnd (decide (a1=([45,51]:List UInt8))) (some [yI (1:Int)]) (cnd (decide (a1=([45,50]:List UInt8))) (some [yI (1:Int)]) (cnd (decide (a1=([45,49]:List UInt8))) (some [yI (1:Int)]) (cnd (decide (a1=([48]:List UInt8))) (some [yI (1:Int)]) (cnd (decide (a1=([49]:List UInt8))) (some [yI (1:Int)]) (cnd (decide (a1=([50]:List UInt8))) (some [yI (0:Int)]) (cnd (decide (a1=([51]:List UInt8))) (some [yI (-1:Int)]) (none)))))))) (cnd (decide (a0=([51]:List UInt8))) (cnd (decide (a1=([45,49,48]:List UInt8))) (some [yI (1:Int)]) (cnd (decide (a1=([45,53]:List UInt8))) (some [yI (1:Int)]) (cnd (decide (a1=([45,51]:List UInt8))) (some [yI (1:Int)]) (cnd (decide (a1=([45,50]:List UInt8))) (some [yI (1:Int)]) (cnd (decide (a1=([45,49]:List UInt8))) (some [yI (1:Int)]) (cnd (decide (a1=([48]:List UInt8))) (some [yI (1:Int)]) (cnd (decide (a1=([49]:List UInt8))) (some [yI (1:Int)]) (cnd (decide (a1=([50]:List UInt8))) (some [yI (1:Int)]) (cnd (decide (a1=([51]:List UInt8))) (some [yI (0:Int)]) (none)))))))))) (cnd (decide (a0=([52]:List UInt8))) (cnd (decide (a1=([49]:List UInt8))) (some [yI (1:Int)]) (none)) (cnd (decide (a0=([54]:List UInt8))) (cnd (decide (a1=([45,53]:List UInt8))) (some [yI (1:Int)]) (cnd (decide (a1=([49]:List UInt8))) (some [yI (1:Int)]) (none))) (cnd (decide (a0=([57]:List UInt8))) (cnd (decide (a1=([45,53]:List UInt8))) (some [yI (1:Int)]) (none)) (none)))))))))))))))
def V149x0(n:Nt):List UInt8→List UInt8→Rt:=fun x0 x1=>n [yT x0,yT x1]
theorem s149x0:V149x0 (xF ii149 c e)=B149x0 c:=by kernel_rfl
def F149(c:TC0)(L:Nat):List UInt8→List UInt8→Rt:=B149x0 c
theorem e149:V149x0 (xF ii149 c (cu c L))=F149 c L:=s149x0 _ _
theorem c149(a0:List UInt8)(a1:List UInt8)(L n:Nat):CTp L (n+1) 149 [yT a0,yT a1]=F149 (CTp L n) L a0 a1:=by rw[←e149];exact cg (x:=ii149) (by kernel_rfl) (by kernel_rfl) L n _
def B150x0(c:TC0)(a0:List UInt8)(a1:List UInt8):Rt:=
 cnd (decide (a0=([45,53]:List UInt8))) (cnd (decide (a1=([49]:List UInt8))) (some [yT ([45,53]:List UInt8)]) (cnd (decide (a1=([50]:List UInt8))) (some [yT ([45,49,48]:List UInt8)]) (none))) (cnd (decide (a0=([45,51]:List UInt8))) (cnd (decide (a1=([50]:List UInt8))) (some [yT ([45,54]:List UInt8)]) (cnd (decide (a1=([51]:List UInt8))) (some [yT ([45,57]:List UInt8)]) (none))) (cnd (decide (a0=([45,50]:List UInt8))) (cnd (decide (a1=([50]:List UInt8))) (some [yT ([45,52]:List UInt8)]) (cnd (decide (a1=([51]:List UInt8))) (some [yT ([45,54]:List UInt8)]) (none))) (cnd (decide (a0=([45,49]:List UInt8))) (cnd (decide (a1=([50]:List UInt8))) (some [yT ([45,50]:List UInt8)]) (cnd (decide (a1=([51]:List UInt8))) (some [yT ([45,51]:List UInt8)]) (none))) (cnd (decide (a0=([48]:List UInt8))) (cnd (decide (a1=([50]:List UInt8))) (some [yT ([48]:List UInt8)]) (cnd (decide (a1=([51]:List UInt8))) (some [yT ([48]:List UInt8)]) (none))) (cnd (decide (a0=([49]:List UInt8))) (cnd (decide (a1=([49]:List UInt8))) (some [yT ([49]:List UInt8)]) (cnd (decide (a1=([50]:List UInt8))) (some [yT ([50]:List UInt8)]) (cnd (decide (a1=([51]:List UInt8))) (some [yT ([51]:List UInt8)]) (none)))) (cnd (decide (a0=([50]:List UInt8))) (cnd (decide (a1=([50]:List UInt8))) (some [yT ([52]:List UInt8)]) (cnd (decide (a1=([51]:List UInt8))) (some [yT ([54]:List UInt8)]) (none))) (cnd (decide (a0=([51]:List UInt8))) (cnd (decide (a1=([50]:List UInt8))) (some [yT ([54]:List UInt8)]) (cnd (decide (a1=([51]:List UInt8))) (some [yT ([57]:List UInt8)]) (none))) (none))))))))
def V150x0(n:Nt):List UInt8→List UInt8→Rt:=fun x0 x1=>n [yT x0,yT x1]
theorem s150x0:V150x0 (xF ii150 c e)=B150x0 c:=by kernel_rfl
def F150(c:TC0)(L:Nat):List UInt8→List UInt8→Rt:=B150x0 c
theorem e150:V150x0 (xF ii150 c (cu c L))=F150 c L:=s150x0 _ _
theorem c150(a0:List UInt8)(a1:List UInt8)(L n:Nat):CTp L (n+1) 150 [yT a0,yT a1]=F150 (CTp L n) L a0 a1:=by rw[←e150];exact cg (x:=ii150) (by kernel_rfl) (by kernel_rfl) L n _
def q151x0(c:TC0)(e:Cu):Kt:=xK aBe
def aJU(c:TC0)(k1:Bool→Rt)(a0:Int):Rt:=
 cnd (decide (a0=(32:Int))) (k1 true) (cnd (decide (a0=(9:Int))) (k1 true) (cnd (decide (a0=(10:Int))) (k1 true) (k1 (decide (a0=(13:Int))))))
def V151x0(n:Nt):Int→Rt:=fun x0=>n [⟨(.int .u8),x0⟩]
def aJT(c:TC0)(a2:Bool):Rt:=
 some [yB a2]
def V151x1(n:Nt):Bool→Rt:=fun x0=>n [yB x0]
def aIR:=V151x1 (xD aBe e [1,1,0] aBI (q151x0 c e))
theorem s151x0:V151x0 (xF aBe c e)=aJU c (aIR c e):=by kernel_rfl
theorem s151x1:V151x1 (xA aBe c e [1,1,0] aBI (q151x0 c e))=aJT c:=by kernel_rfl
def aJA(c:TC0)(L:Nat):Bool→Rt:=aJT c
theorem j151x1:aIR c (cu c L)=aJA c L:=by rw[aIR,aM,s151x1];rfl
def F151(c:TC0)(L:Nat):Int→Rt:=aJU c (aJA c L)
theorem e151:V151x0 (xF aBe c (cu c L))=F151 c L:=by rw[s151x0];simp only[j151x1];rfl
theorem c151(a0:Int)(L n:Nat):CTp L (n+1) 151 [⟨(.int .u8),a0⟩]=F151 (CTp L n) L a0:=by rw[←e151];exact cg (x:=aBe) (by kernel_rfl) (by kernel_rfl) L n _
def q152x0(c:TC0)(e:Cu):Kt:=xK aBd
def aJS(c:TC0)(k1:Bool→Rt)(a0:List UInt8)(a1:Int)(a2:Int)(a3:Int):Rt:=
 cnd (decide ((0:Int)≤a1)) (cnd (decide ((IntKind.i64.wrap (a1+(1:Int)))<(List.length a0:Int))) (ob (idx a0 a1) fun v0=>
 cnd (decide ((v0.toNat:Int)=a2)) (ob (idx a0 (IntKind.i64.wrap (a1+(1:Int)))) fun v1=>
 k1 (decide ((v1.toNat:Int)=a3))) (k1 false)) (k1 false)) (k1 false)
def V152x0(n:Nt):List UInt8→Int→Int→Int→Rt:=fun x0 x1 x2 x3=>n [yT x0,yI x1,⟨(.int .u8),x2⟩,⟨(.int .u8),x3⟩]
def aJR(c:TC0)(a8:Bool):Rt:=
 some [yB a8]
def V152x1(n:Nt):Bool→Rt:=fun x0=>n [yB x0]
def aIQ:=V152x1 (xD aBd e [1,1,0] aBH (q152x0 c e))
theorem s152x0:V152x0 (xF aBd c e)=aJS c (aIQ c e):=by kernel_rfl
theorem s152x1:V152x1 (xA aBd c e [1,1,0] aBH (q152x0 c e))=aJR c:=by kernel_rfl
def aJz(c:TC0)(L:Nat):Bool→Rt:=aJR c
theorem j152x1:aIQ c (cu c L)=aJz c L:=by rw[aIQ,aM,s152x1];rfl
def F152(c:TC0)(L:Nat):List UInt8→Int→Int→Int→Rt:=aJS c (aJz c L)
theorem e152:V152x0 (xF aBd c (cu c L))=F152 c L:=by rw[s152x0];simp only[j152x1];rfl
theorem c152(a0:List UInt8)(a1:Int)(a2:Int)(a3:Int)(L n:Nat):CTp L (n+1) 152 [yT a0,yI a1,⟨(.int .u8),a2⟩,⟨(.int .u8),a3⟩]=F152 (CTp L n) L a0 a1 a2 a3:=by rw[←e152];exact cg (x:=aBd) (by kernel_rfl) (by kernel_rfl) L n _
def q154x0(c:TC0)(e:Cu):Kt:=xK yW
def q154x1(c:TC0)(e:Cu):Kt:=xT yW c e [1,1] (q154x0 c e)
def q154x2(c:TC0)(e:Cu):Kt:=dD U0 0 (q154x1 c e)
def aJQ(c:TC0)(k1:Bool→G.K→G.X→Rt)(a0:G.K)(a1:Bool):Rt:=
 cnd (decide ((40:Int)<(List.length a0.text:Int))) (obL [.rc 20] (c 106 [yI (2:Int),yI a0.pos]) fun(r0:G.X×Unit)=>
 some [yR 20 r0.1]) (cnd a1 (cnd (decide (a0.text=([]:List UInt8))) (k1 true a0 (G.X.mk (0:Int) (0:Int))) (cnd (!decide (a0.package=([]:List UInt8))) (obL [.bool] (c 171 [yT a0.package]) fun(r1:Bool×Unit)=>
 k1 (!r1.1) a0 (G.X.mk (0:Int) (0:Int))) (k1 false a0 (G.X.mk (0:Int) (0:Int))))) (cnd (!decide (a0.package=([]:List UInt8))) (obL [.bool] (c 171 [yT a0.package]) fun(r2:Bool×Unit)=>
 k1 (!r2.1) a0 (G.X.mk (0:Int) (0:Int))) (k1 false a0 (G.X.mk (0:Int) (0:Int)))))
def V154x0(n:Nt):G.K→Bool→Rt:=fun x0 x1=>n [yR 22 x0,yB x1]
def B154x1(c:TC0)(a13:Bool)(b102:G.K)(b104:G.X):Rt:=
 cnd a13 (obL [.rc 20] (c 106 [yI (3:Int),yI b102.pos]) fun(r0:G.X×Unit)=>
 some [yR 20 r0.1]) (some [yR 20 (G.X.mk (0:Int) (0:Int))])
def V154x1(n:Nt):Bool→G.K→G.X→Rt:=fun x0 x1 x2=>n [yB x0,yR 22 x1,yR 20 x2]
def aIP:=V154x1 (xD yW e [1,0,0,1,1,1,0] aBG (q154x2 c e))
theorem s154x0:V154x0 (xF yW c e)=aJQ c (aIP c e):=by kernel_rfl
theorem s154x1:V154x1 (xA yW c e [1,0,0,1,1,1,0] aBG (q154x2 c e))=B154x1 c:=by kernel_rfl
def J154x1(c:TC0)(L:Nat):Bool→G.K→G.X→Rt:=B154x1 c
theorem j154x1:aIP c (cu c L)=J154x1 c L:=by rw[aIP,aM,s154x1];rfl
def F154(c:TC0)(L:Nat):G.K→Bool→Rt:=aJQ c (J154x1 c L)
theorem e154:V154x0 (xF yW c (cu c L))=F154 c L:=by rw[s154x0];simp only[j154x1];rfl
theorem c154(a0:G.K)(a1:Bool)(L n:Nat):CTp L (n+1) 154 [yR 22 a0,yB a1]=F154 (CTp L n) L a0 a1:=by rw[←e154];exact cg (x:=yW) (by kernel_rfl) (by kernel_rfl) L n _
def q155x0(c:TC0)(e:Cu):Kt:=xK aBc
def aJP(c:TC0)(k1:Bool→Rt)(a0:Int):Rt:=
 cnd (decide ((33:Int)≤a0)) (cnd (decide (a0≤(126:Int))) (cnd (!decide (a0=(40:Int))) (cnd (!decide (a0=(41:Int))) (cnd (!decide (a0=(39:Int))) (cnd (!decide (a0=(34:Int))) (cnd (!decide (a0=(59:Int))) (cnd (!decide (a0=(124:Int))) (k1 (!decide (a0=(58:Int)))) (k1 false)) (k1 false)) (k1 false)) (k1 false)) (k1 false)) (k1 false)) (k1 false)) (k1 false)
def V155x0(n:Nt):Int→Rt:=fun x0=>n [⟨(.int .u8),x0⟩]
def aJO(c:TC0)(a2:Bool):Rt:=
 some [yB a2]
def V155x1(n:Nt):Bool→Rt:=fun x0=>n [yB x0]
def aIO:=V155x1 (xD aBc e [1,1,0] aBF (q155x0 c e))
theorem s155x0:V155x0 (xF aBc c e)=aJP c (aIO c e):=by kernel_rfl
theorem s155x1:V155x1 (xA aBc c e [1,1,0] aBF (q155x0 c e))=aJO c:=by kernel_rfl
def aJy(c:TC0)(L:Nat):Bool→Rt:=aJO c
theorem j155x1:aIO c (cu c L)=aJy c L:=by rw[aIO,aM,s155x1];rfl
def F155(c:TC0)(L:Nat):Int→Rt:=aJP c (aJy c L)
theorem e155:V155x0 (xF aBc c (cu c L))=F155 c L:=by rw[s155x0];simp only[j155x1];rfl
theorem c155(a0:Int)(L n:Nat):CTp L (n+1) 155 [⟨(.int .u8),a0⟩]=F155 (CTp L n) L a0:=by rw[←e155];exact cg (x:=aBc) (by kernel_rfl) (by kernel_rfl) L n _
def q156x0(c:TC0)(e:Cu):Kt:=xK pG
def q156x1(c:TC0)(e:Cu):Kt:=xT pG c e [1,1] (q156x0 c e)
def aC3(c:TC0)(e:Cu):Kt:=dD U0 0 (q156x1 c e)
def q156x3(c:TC0)(e:Cu)(n1:Nt):Kt:=lpK U0 nW n1 (aC3 c e)
def q156x4(c:TC0)(e:Cu)(n1:Nt):Kt:=xT pG c e [1,0,0,0,1] (q156x3 c e n1)
def aJN(c:TC0)(e1:List UInt8→Int→Rt)(a0:List UInt8)(a1:Int):Rt:=
 e1 a0 a1
def V156x0(n:Nt):List UInt8→Int→Rt:=fun x0 x1=>n [yT x0,yI x1]
def aES(c:TC0)(k2:Bool→List UInt8→Int→Rt)(a0:List UInt8)(a1:Int):Rt:=
 cnd (decide (a1<(List.length a0:Int))) (ob (idx a0 a1) fun v0=>
 obL [.bool] (c 155 [⟨(.int .u8),(v0.toNat:Int)⟩]) fun(r1:Bool×Unit)=>
 k2 r1.1 a0 a1) (k2 false a0 a1)
def aAq(n:Nt):List UInt8→Int→Rt:=fun x0 x1=>n [yT x0,yI x1]
def X156x1:=aAq (xE pG e [1,0,0,0] nW (aC3 c e))
def aAB(c:TC0)(n1:List UInt8→Int→Rt)(a14:Bool)(a0:List UInt8)(a1:Int):Rt:=
 cnd a14 (n1 a0 (IntKind.i64.wrap (a1+(1:Int)))) (some [yI a1])
def V156x2(n:Nt):Bool→List UInt8→Int→Rt:=fun x0 x1 x2=>n [yB x0,yT x1,yI x2]
def aIN(n1:Nt):=V156x2 (xD pG e [1,0,0,0,0,1,0] aBE (q156x4 c e n1))
theorem s156x0:V156x0 (xF pG c e)=aJN c (X156x1 c e):=by kernel_rfl
theorem s156x1(n1:Nt):aAq (xA pG c e [1,0,0,0] nW (lpK U0 nW n1 (aC3 c e)))=aES c (aIN c e n1):=by kernel_rfl
theorem s156x2(n1:Nt):V156x2 (xA pG c e [1,0,0,0,0,1,0] aBE (q156x4 c e n1))=aAB c (aAq n1):=by kernel_rfl
def aAx(c:TC0)(L:Nat)(n1:List UInt8→Int→Rt):Bool→List UInt8→Int→Rt:=aAB c n1
theorem j156x2(n1:Nt):aIN c (cu c L) n1=aAx c L (aAq n1):=by rw[aIN,aM,s156x2];rfl
def rY(c:TC0)(L:Nat):Nat→List UInt8→Int→Rt
 |0=>fun _ _=>none
 |n+1=>aES c (aAx c L (rY c L n))
theorem u156x1(n:Nat):aAq (xL pG c L [1,0,0,0] nW (aC3 c (cu c L)) n)=rY c L n:=by
 induction n with
 |zero=>rfl
 |succ n ih=>rw[fO,s156x1];simp only[j156x2,ih];rfl
theorem w156x1:X156x1 c (cu c L)=rY c L L:=u156x1 c L L
def F156(c:TC0)(L:Nat):List UInt8→Int→Rt:=aJN c (rY c L L)
theorem e156:V156x0 (xF pG c (cu c L))=F156 c L:=by rw[s156x0];simp only[w156x1];rfl
theorem c156(a0:List UInt8)(a1:Int)(L n:Nat):CTp L (n+1) 156 [yT a0,yI a1]=F156 (CTp L n) L a0 a1:=by rw[←e156];exact cg (x:=pG) (by kernel_rfl) (by kernel_rfl) L n _
def sY(c:TC0)(e:Cu):Kt:=xK eP
def q158x1(c:TC0)(e:Cu):Kt:=xT eP c e [1,1,1] (sY c e)
def q158x2(c:TC0)(e:Cu):Kt:=xT eP c e [1,1,1,0,1,1] (sY c e)
def aC2(c:TC0)(e:Cu):Kt:=dD U0 0 (q158x2 c e)
def q158x4(c:TC0)(e:Cu)(n3:Nt):Kt:=lpK U0 nV n3 (aC2 c e)
def q158x5(c:TC0)(e:Cu)(n3:Nt):Kt:=xT eP c e [1,1,1,0,1,0,0,0,1] (q158x4 c e n3)
def q158x6(c:TC0)(e:Cu):Kt:=xT eP c e [1,1,1,0,1,1,1,1,1] (sY c e)
def q158x7(c:TC0)(e:Cu):Kt:=xT eP c e [1,1,1,0,1,1,1,1,1,1] (sY c e)
def aC1(c:TC0)(e:Cu):Kt:=dD U0 2 (q158x7 c e)
def q158x9(c:TC0)(e:Cu)(n6:Nt):Kt:=lpK U0 nU n6 (aC1 c e)
def q158x10(c:TC0)(e:Cu)(n6:Nt):Kt:=xT eP c e [1,1,1,0,1,1,1,1,1,0,1,0,0,1,1] (q158x9 c e n6)
def aGz(c:TC0)(e:Cu)(n6:Nt):Kt:=dD U0 3 (q158x10 c e n6)
def aJM(c:TC0)(k1:Bool→Int→List UInt8→Rt)(a0:List UInt8):Rt:=
 cnd (decide ((0:Int)<(List.length a0:Int))) (ob (idx a0 (0:Int)) fun v0=>
 k1 (decide ((v0.toNat:Int)=(45:Int))) (0:Int) a0) (k1 false (0:Int) a0)
def V158x0(n:Nt):List UInt8→Rt:=fun x0=>n [yT x0]
def aJL(c:TC0)(k2:Int→List UInt8→Rt)(a15:Bool)(a5:Int)(a0:List UInt8):Rt:=
 cnd a15 (k2 (1:Int) a0) (k2 a5 a0)
def V158x1(n:Nt):Bool→Int→List UInt8→Rt:=fun x0 x1 x2=>n [yB x0,yI x1,yT x2]
def aIM:=V158x1 (xD eP e [1,1,0,1,0] aBD (q158x1 c e))
def aJK(c:TC0)(e3:Int→List UInt8→Int→Rt)(a5:Int)(a0:List UInt8):Rt:=
 e3 a5 a0 a5
def V158x2(n:Nt):Int→List UInt8→Rt:=fun x0 x1=>n [yI x0,yT x1]
def aIL:=V158x2 (xD eP e [1,1,1,0] aBC (sY c e))
def aJJ(c:TC0)(k4:Bool→Int→List UInt8→Int→Rt)(a5:Int)(a0:List UInt8)(a6:Int):Rt:=
 cnd (decide (a6<(List.length a0:Int))) (ob (idx a0 a6) fun v0=>
 cnd (decide ((48:Int)≤(v0.toNat:Int))) (ob (idx a0 a6) fun v1=>
 k4 (decide ((v1.toNat:Int)≤(57:Int))) a5 a0 a6) (k4 false a5 a0 a6)) (k4 false a5 a0 a6)
def aAp(n:Nt):Int→List UInt8→Int→Rt:=fun x0 x1 x2=>n [yI x0,yT x1,yI x2]
def X158x3:=aAp (xE eP e [1,1,1,0,1,0,0,0] nV (aC2 c e))
def B158x4(c:TC0)(n3:Int→List UInt8→Int→Rt)(k5:Bool→List UInt8→Int→Rt)(a32:Bool)(a5:Int)(a0:List UInt8)(a6:Int):Rt:=
 cnd a32 (n3 a5 a0 (IntKind.i64.wrap (a6+(1:Int)))) (cnd (decide (a6=a5)) (some [yT ([]:List UInt8),yT ([]:List UInt8),yB false]) (cnd (decide (a6=(List.length a0:Int))) (some [yT a0,yT ([49]:List UInt8),yB true]) (ob (idx a0 a6) fun v0=>
 cnd (!decide ((v0.toNat:Int)=(47:Int))) (k5 true a0 a6) (k5 (decide ((IntKind.i64.wrap (a6+(1:Int)))=(List.length a0:Int))) a0 a6))))
def V158x4(n:Nt):Bool→Int→List UInt8→Int→Rt:=fun x0 x1 x2 x3=>n [yB x0,yI x1,yT x2,yI x3]
def aIK(n3:Nt):=V158x4 (xD eP e [1,1,1,0,1,0,0,0,0,1,0] aBB (q158x5 c e n3))
def B158x5(c:TC0)(e6:Int→List UInt8→Int→Rt)(a53:Bool)(a0:List UInt8)(a6:Int):Rt:=
 cnd a53 (some [yT ([]:List UInt8),yT ([]:List UInt8),yB false]) (e6 (IntKind.i64.wrap (a6+(1:Int))) a0 a6)
def V158x5(n:Nt):Bool→List UInt8→Int→Rt:=fun x0 x1 x2=>n [yB x0,yT x1,yI x2]
def aIJ:=V158x5 (xD eP e [1,1,1,0,1,1,1,1,0,1,0] aBA (q158x6 c e))
def B158x6(c:TC0)(k7:Bool→Int→List UInt8→Int→Rt)(a7:Int)(a0:List UInt8)(a6:Int):Rt:=
 cnd (decide (a7<(List.length a0:Int))) (ob (idx a0 a7) fun v0=>
 cnd (decide ((v0.toNat:Int)<(48:Int))) (k7 true a7 a0 a6) (ob (idx a0 a7) fun v1=>
 k7 (decide ((57:Int)<(v1.toNat:Int))) a7 a0 a6)) (ob (slc a0 (0:Int) a6) fun v2=>
 ob (slc a0 (IntKind.i64.wrap (a6+(1:Int))) (List.length a0:Int)) fun v3=>
 some [yT v2,yT v3,yB true])
def aAo(n:Nt):Int→List UInt8→Int→Rt:=fun x0 x1 x2=>n [yI x0,yT x1,yI x2]
def X158x6:=aAo (xE eP e [1,1,1,0,1,1,1,1,1,0,1,0,0] nU (aC1 c e))
def B158x7(c:TC0)(n6:Int→List UInt8→Int→Rt)(a71:Bool)(a7:Int)(a0:List UInt8)(a6:Int):Rt:=
 cnd a71 (some [yT ([]:List UInt8),yT ([]:List UInt8),yB false]) (n6 (IntKind.i64.wrap (a7+(1:Int))) a0 a6)
def V158x7(n:Nt):Bool→Int→List UInt8→Int→Rt:=fun x0 x1 x2 x3=>n [yB x0,yI x1,yT x2,yI x3]
def aII(n6:Nt):=V158x7 (xD eP e [1,1,1,0,1,1,1,1,1,0,1,0,0,1,0,0,1,0] aBz (aGz c e n6))
theorem s158x0:V158x0 (xF eP c e)=aJM c (aIM c e):=by kernel_rfl
theorem s158x1:V158x1 (xA eP c e [1,1,0,1,0] aBD (q158x1 c e))=aJL c (aIL c e):=by kernel_rfl
theorem s158x2:V158x2 (xA eP c e [1,1,1,0] aBC (sY c e))=aJK c (X158x3 c e):=by kernel_rfl
theorem s158x3(n3:Nt):aAp (xA eP c e [1,1,1,0,1,0,0,0] nV (lpK U0 nV n3 (aC2 c e)))=aJJ c (aIK c e n3):=by kernel_rfl
theorem s158x4(n3:Nt):V158x4 (xA eP c e [1,1,1,0,1,0,0,0,0,1,0] aBB (q158x5 c e n3))=B158x4 c (aAp n3) (aIJ c e):=by kernel_rfl
theorem s158x5:V158x5 (xA eP c e [1,1,1,0,1,1,1,1,0,1,0] aBA (q158x6 c e))=B158x5 c (X158x6 c e):=by kernel_rfl
theorem s158x6(n6:Nt):aAo (xA eP c e [1,1,1,0,1,1,1,1,1,0,1,0,0] nU (lpK U0 nU n6 (aC1 c e)))=B158x6 c (aII c e n6):=by kernel_rfl
theorem s158x7(n6:Nt):V158x7 (xA eP c e [1,1,1,0,1,1,1,1,1,0,1,0,0,1,0,0,1,0] aBz (aGz c e n6))=B158x7 c (aAo n6):=by kernel_rfl
def J158x7(c:TC0)(L:Nat)(n6:Int→List UInt8→Int→Rt):Bool→Int→List UInt8→Int→Rt:=B158x7 c n6
theorem j158x7(n6:Nt):aII c (cu c L) n6=J158x7 c L (aAo n6):=by rw[aII,aM,s158x7];rfl
def aEs(c:TC0)(L:Nat):Nat→Int→List UInt8→Int→Rt
 |0=>fun _ _ _=>none
 |n+1=>B158x6 c (J158x7 c L (aEs c L n))
theorem u158x6(n:Nat):aAo (xL eP c L [1,1,1,0,1,1,1,1,1,0,1,0,0] nU (aC1 c (cu c L)) n)=aEs c L n:=by
 induction n with
 |zero=>rfl
 |succ n ih=>rw[fO,s158x6];simp only[j158x7,ih];rfl
theorem w158x6:X158x6 c (cu c L)=aEs c L L:=u158x6 c L L
def J158x5(c:TC0)(L:Nat):Bool→List UInt8→Int→Rt:=B158x5 c (aEs c L L)
theorem j158x5:aIJ c (cu c L)=J158x5 c L:=by rw[aIJ,aM,s158x5];simp only[w158x6];rfl
def aJv(c:TC0)(L:Nat)(n3:Int→List UInt8→Int→Rt):Bool→Int→List UInt8→Int→Rt:=B158x4 c n3 (J158x5 c L)
theorem j158x4(n3:Nt):aIK c (cu c L) n3=aJv c L (aAp n3):=by rw[aIK,aM,s158x4];simp only[j158x5];rfl
def uF(c:TC0)(L:Nat):Nat→Int→List UInt8→Int→Rt
 |0=>fun _ _ _=>none
 |n+1=>aJJ c (aJv c L (uF c L n))
theorem u158x3(n:Nat):aAp (xL eP c L [1,1,1,0,1,0,0,0] nV (aC2 c (cu c L)) n)=uF c L n:=by
 induction n with
 |zero=>rfl
 |succ n ih=>rw[fO,s158x3];simp only[j158x4,ih];rfl
theorem w158x3:X158x3 c (cu c L)=uF c L L:=u158x3 c L L
def aJw(c:TC0)(L:Nat):Int→List UInt8→Rt:=aJK c (uF c L L)
theorem j158x2:aIL c (cu c L)=aJw c L:=by rw[aIL,aM,s158x2];simp only[w158x3];rfl
def aJx(c:TC0)(L:Nat):Bool→Int→List UInt8→Rt:=aJL c (aJw c L)
theorem j158x1:aIM c (cu c L)=aJx c L:=by rw[aIM,aM,s158x1];simp only[j158x2];rfl
def F158(c:TC0)(L:Nat):List UInt8→Rt:=aJM c (aJx c L)
theorem e158:V158x0 (xF eP c (cu c L))=F158 c L:=by rw[s158x0];simp only[j158x1];rfl
theorem c158(a0:List UInt8)(L n:Nat):CTp L (n+1) 158 [yT a0]=F158 (CTp L n) L a0:=by rw[←e158];exact cg (x:=eP) (by kernel_rfl) (by kernel_rfl) L n _
end
end Go.TV
namespace Go.TV
open Go.AI Go.PI Go.Proofs
set_option maxRecDepth 20000
noncomputable section
variable(c:TC0)(e:Cu)(L:Nat)
def q161x0(c:TC0)(e:Cu):Kt:=xK vQ
def q161x1(c:TC0)(e:Cu):Kt:=xT vQ c e [1,1] (q161x0 c e)
def aGy(c:TC0)(e:Cu):Kt:=dD U0 0 (q161x1 c e)
def B161x0(c:TC0)(e1:List UInt8→List G.A→Int→G.A→Rt)(a0:List G.A)(a1:List UInt8):Rt:=
 e1 a1 a0 (0:Int) (G.A.mk ([]:List UInt8) ([]:List G.Y))
def V161x0(n:Nt):List G.A→List UInt8→Rt:=fun x0 x1=>n [yS 9 x0,yT x1]
def B161x1(c:TC0)(n1:List UInt8→List G.A→Int→G.A→Rt)(a1:List UInt8)(a0:List G.A)(a6:Int)(b104:G.A):Rt:=
 cnd (decide (a6<(List.length a0:Int))) (ob (idx a0 a6) fun v0=>
 cnd (decide (v0.name=a1)) (ob (idx a0 a6) fun v1=>
 some [yR 9 v1,yB true]) (n1 a1 a0 (IntKind.i64.wrap (a6+(1:Int))) b104)) (some [yR 9 (G.A.mk ([]:List UInt8) ([]:List G.Y)),yB false])
def aEH(n:Nt):List UInt8→List G.A→Int→G.A→Rt:=fun x0 x1 x2 x3=>n [yT x0,yS 9 x1,yI x2,yR 9 x3]
def X161x1:=aEH (xE vQ e [1,0,1,0,0] rD (aGy c e))
theorem s161x0:V161x0 (xF vQ c e)=B161x0 c (X161x1 c e):=by kernel_rfl
theorem s161x1(n1:Nt):aEH (xA vQ c e [1,0,1,0,0] rD (lpK U0 rD n1 (aGy c e)))=B161x1 c (aEH n1):=by kernel_rfl
def aEr(c:TC0)(L:Nat):Nat→List UInt8→List G.A→Int→G.A→Rt
 |0=>fun _ _ _ _=>none
 |n+1=>B161x1 c (aEr c L n)
theorem u161x1(n:Nat):aEH (xL vQ c L [1,0,1,0,0] rD (aGy c (cu c L)) n)=aEr c L n:=by
 induction n with
 |zero=>rfl
 |succ n ih=>rw[fO,s161x1];simp only[ih];rfl
theorem w161x1:X161x1 c (cu c L)=aEr c L L:=u161x1 c L L
def F161(c:TC0)(L:Nat):List G.A→List UInt8→Rt:=B161x0 c (aEr c L L)
theorem e161:V161x0 (xF vQ c (cu c L))=F161 c L:=by rw[s161x0];simp only[w161x1];rfl
theorem c161(a0:List G.A)(a1:List UInt8)(L n:Nat):CTp L (n+1) 161 [yS 9 a0,yT a1]=F161 (CTp L n) L a0 a1:=by rw[←e161];exact cg (x:=vQ) (by kernel_rfl) (by kernel_rfl) L n _
def B162x0(c:TC0)(a0:G.Y):Rt:=
 obL [.bool] (c 172 [yR 1 a0]) fun(r0:Bool×Unit)=>
 some [yB r0.1]
def V162x0(n:Nt):G.Y→Rt:=fun x0=>n [yR 1 x0]
theorem s162x0:V162x0 (xF ii162 c e)=B162x0 c:=by kernel_rfl
def F162(c:TC0)(L:Nat):G.Y→Rt:=B162x0 c
theorem e162:V162x0 (xF ii162 c (cu c L))=F162 c L:=s162x0 _ _
theorem c162(a0:G.Y)(L n:Nat):CTp L (n+1) 162 [yR 1 a0]=F162 (CTp L n) L a0:=by rw[←e162];exact cg (x:=ii162) (by kernel_rfl) (by kernel_rfl) L n _
def q166x0(c:TC0)(e:Cu):Kt:=xK pF
def q166x1(c:TC0)(e:Cu):Kt:=xT pF c e [1,1,1,1,1] (q166x0 c e)
def aC0(c:TC0)(e:Cu):Kt:=dD U0 0 (q166x1 c e)
def q166x3(c:TC0)(e:Cu)(n1:Nt):Kt:=lpK U0 nT n1 (aC0 c e)
def q166x4(c:TC0)(e:Cu)(n1:Nt):Kt:=xT pF c e [1,1,1,1,0,1,0,0,1] (q166x3 c e n1)
def B166x0(c:TC0)(e1:List G.T→Int→Int→Int→Rt)(a0:G.T)(a1:Int):Rt:=
 cnd (decide (a0.kind=(2:Int))) (obL [i6] (c 75 [yR 2 a0.value]) fun(r0:Int×Unit)=>
 some [yI (bif decide (r0.1<a1)then r0.1 else a1)]) (obL [zS 3] (c 178 [yR 3 a0]) fun(r1:List G.T×Unit)=>
 e1 r1.1 a1 (0:Int) (1:Int))
def V166x0(n:Nt):G.T→Int→Rt:=fun x0 x1=>n [yR 3 x0,yI x1]
def B166x1(c:TC0)(k2:Bool→Int→List G.T→Int→Int→Rt)(a6:List G.T)(a1:Int)(a7:Int)(a5:Int):Rt:=
 cnd (decide (a7<(List.length a6:Int))) (k2 (decide (a5<a1)) a7 a6 a1 a5) (k2 false a7 a6 a1 a5)
def aAn(n:Nt):List G.T→Int→Int→Int→Rt:=fun x0 x1 x2 x3=>n [yS 3 x0,yI x1,yI x2,yI x3]
def X166x1:=aAn (xE pF e [1,1,1,1,0,1,0,0] nT (aC0 c e))
def B166x2(c:TC0)(n1:List G.T→Int→Int→Int→Rt)(a26:Bool)(a7:Int)(a6:List G.T)(a1:Int)(a5:Int):Rt:=
 cnd a26 (ob (idx a6 a7) fun v0=>
 obL [i6] (c 166 [yR 3 v0,yI (IntKind.i64.wrap (a1-a5))]) fun(r1:Int×Unit)=>
 n1 a6 a1 (IntKind.i64.wrap (a7+(1:Int))) (IntKind.i64.wrap (a5+r1.1))) (some [yI a5])
def V166x2(n:Nt):Bool→Int→List G.T→Int→Int→Rt:=fun x0 x1 x2 x3 x4=>n [yB x0,yI x1,yS 3 x2,yI x3,yI x4]
def aIH(n1:Nt):=V166x2 (xD pF e [1,1,1,1,0,1,0,0,0,1,0] aBy (q166x4 c e n1))
theorem s166x0:V166x0 (xF pF c e)=B166x0 c (X166x1 c e):=by kernel_rfl
theorem s166x1(n1:Nt):aAn (xA pF c e [1,1,1,1,0,1,0,0] nT (lpK U0 nT n1 (aC0 c e)))=B166x1 c (aIH c e n1):=by kernel_rfl
theorem s166x2(n1:Nt):V166x2 (xA pF c e [1,1,1,1,0,1,0,0,0,1,0] aBy (q166x4 c e n1))=B166x2 c (aAn n1):=by kernel_rfl
def J166x2(c:TC0)(L:Nat)(n1:List G.T→Int→Int→Int→Rt):Bool→Int→List G.T→Int→Int→Rt:=B166x2 c n1
theorem j166x2(n1:Nt):aIH c (cu c L) n1=J166x2 c L (aAn n1):=by rw[aIH,aM,s166x2];rfl
def aEq(c:TC0)(L:Nat):Nat→List G.T→Int→Int→Int→Rt
 |0=>fun _ _ _ _=>none
 |n+1=>B166x1 c (J166x2 c L (aEq c L n))
theorem u166x1(n:Nat):aAn (xL pF c L [1,1,1,1,0,1,0,0] nT (aC0 c (cu c L)) n)=aEq c L n:=by
 induction n with
 |zero=>rfl
 |succ n ih=>rw[fO,s166x1];simp only[j166x2,ih];rfl
theorem w166x1:X166x1 c (cu c L)=aEq c L L:=u166x1 c L L
def F166(c:TC0)(L:Nat):G.T→Int→Rt:=B166x0 c (aEq c L L)
theorem e166:V166x0 (xF pF c (cu c L))=F166 c L:=by rw[s166x0];simp only[w166x1];rfl
theorem c166(a0:G.T)(a1:Int)(L n:Nat):CTp L (n+1) 166 [yR 3 a0,yI a1]=F166 (CTp L n) L a0 a1:=by rw[←e166];exact cg (x:=pF) (by kernel_rfl) (by kernel_rfl) L n _
def q167x0(c:TC0)(e:Cu):Kt:=xK pD
def q167x1(c:TC0)(e:Cu):Kt:=xT pD c e [1,1,1,1] (q167x0 c e)
def aCZ(c:TC0)(e:Cu):Kt:=dD U0 0 (q167x1 c e)
def q167x3(c:TC0)(e:Cu)(n1:Nt):Kt:=lpK U0 nS n1 (aCZ c e)
def q167x4(c:TC0)(e:Cu)(n1:Nt):Kt:=xT pD c e [1,1,1,0,1,0,0,1] (q167x3 c e n1)
def B167x0(c:TC0)(e1:List G.T→Int→Int→Int→Rt)(a0:G.T)(a1:Int):Rt:=
 obL [zS 3] (c 178 [yR 3 a0]) fun(r0:List G.T×Unit)=>
 e1 r0.1 a1 (0:Int) (0:Int)
def V167x0(n:Nt):G.T→Int→Rt:=fun x0 x1=>n [yR 3 x0,yI x1]
def B167x1(c:TC0)(k2:Bool→Int→List G.T→Int→Int→Rt)(a6:List G.T)(a1:Int)(a7:Int)(a5:Int):Rt:=
 cnd (decide (a7<(List.length a6:Int))) (k2 (decide ((1:Int)<a1)) a7 a6 a1 a5) (k2 false a7 a6 a1 a5)
def aAm(n:Nt):List G.T→Int→Int→Int→Rt:=fun x0 x1 x2 x3=>n [yS 3 x0,yI x1,yI x2,yI x3]
def X167x1:=aAm (xE pD e [1,1,1,0,1,0,0] nS (aCZ c e))
def B167x2(c:TC0)(n1:List G.T→Int→Int→Int→Rt)(a17:Bool)(a7:Int)(a6:List G.T)(a1:Int)(a5:Int):Rt:=
 cnd a17 (ob (idx a6 a7) fun v0=>
 obL [i6] (c 167 [yR 3 v0,yI (IntKind.i64.wrap (a1-(1:Int)))]) fun(r1:Int×Unit)=>
 n1 a6 a1 (IntKind.i64.wrap (a7+(1:Int))) (bif decide (a5<r1.1)then r1.1 else a5)) (some [yI (IntKind.i64.wrap (a5+(1:Int)))])
def V167x2(n:Nt):Bool→Int→List G.T→Int→Int→Rt:=fun x0 x1 x2 x3 x4=>n [yB x0,yI x1,yS 3 x2,yI x3,yI x4]
def aIG(n1:Nt):=V167x2 (xD pD e [1,1,1,0,1,0,0,0,1,0] aBx (q167x4 c e n1))
theorem s167x0:V167x0 (xF pD c e)=B167x0 c (X167x1 c e):=by kernel_rfl
theorem s167x1(n1:Nt):aAm (xA pD c e [1,1,1,0,1,0,0] nS (lpK U0 nS n1 (aCZ c e)))=B167x1 c (aIG c e n1):=by kernel_rfl
theorem s167x2(n1:Nt):V167x2 (xA pD c e [1,1,1,0,1,0,0,0,1,0] aBx (q167x4 c e n1))=B167x2 c (aAm n1):=by kernel_rfl
def J167x2(c:TC0)(L:Nat)(n1:List G.T→Int→Int→Int→Rt):Bool→Int→List G.T→Int→Int→Rt:=B167x2 c n1
theorem j167x2(n1:Nt):aIG c (cu c L) n1=J167x2 c L (aAm n1):=by rw[aIG,aM,s167x2];rfl
def aEp(c:TC0)(L:Nat):Nat→List G.T→Int→Int→Int→Rt
 |0=>fun _ _ _ _=>none
 |n+1=>B167x1 c (J167x2 c L (aEp c L n))
theorem u167x1(n:Nat):aAm (xL pD c L [1,1,1,0,1,0,0] nS (aCZ c (cu c L)) n)=aEp c L n:=by
 induction n with
 |zero=>rfl
 |succ n ih=>rw[fO,s167x1];simp only[j167x2,ih];rfl
theorem w167x1:X167x1 c (cu c L)=aEp c L L:=u167x1 c L L
def F167(c:TC0)(L:Nat):G.T→Int→Rt:=B167x0 c (aEp c L L)
theorem e167:V167x0 (xF pD c (cu c L))=F167 c L:=by rw[s167x0];simp only[w167x1];rfl
theorem c167(a0:G.T)(a1:Int)(L n:Nat):CTp L (n+1) 167 [yR 3 a0,yI a1]=F167 (CTp L n) L a0 a1:=by rw[←e167];exact cg (x:=pD) (by kernel_rfl) (by kernel_rfl) L n _
def q168x0(c:TC0)(e:Cu):Kt:=xK aBb
def B168x0(c:TC0)(k1:Bool→Rt)(a0:G.O):Rt:=
 obL [i6] (c 75 [yR 2 a0]) fun(r0:Int×Unit)=>
 cnd (decide (r0.1≤(3000:Int))) (obL [.bool] (c 179 [yR 2 a0]) fun(r1:Bool×Unit)=>
 k1 r1.1) (k1 false)
def V168x0(n:Nt):G.O→Rt:=fun x0=>n [yR 2 x0]
def B168x1(c:TC0)(a2:Bool):Rt:=
 some [yB a2]
def V168x1(n:Nt):Bool→Rt:=fun x0=>n [yB x0]
def aIF:=V168x1 (xD aBb e [1,1,0] aBw (q168x0 c e))
theorem s168x0:V168x0 (xF aBb c e)=B168x0 c (aIF c e):=by kernel_rfl
theorem s168x1:V168x1 (xA aBb c e [1,1,0] aBw (q168x0 c e))=B168x1 c:=by kernel_rfl
def J168x1(c:TC0)(L:Nat):Bool→Rt:=B168x1 c
theorem j168x1:aIF c (cu c L)=J168x1 c L:=by rw[aIF,aM,s168x1];rfl
def F168(c:TC0)(L:Nat):G.O→Rt:=B168x0 c (J168x1 c L)
theorem e168:V168x0 (xF aBb c (cu c L))=F168 c L:=by rw[s168x0];simp only[j168x1];rfl
theorem c168(a0:G.O)(L n:Nat):CTp L (n+1) 168 [yR 2 a0]=F168 (CTp L n) L a0:=by rw[←e168];exact cg (x:=aBb) (by kernel_rfl) (by kernel_rfl) L n _
def q172x0(c:TC0)(e:Cu):Kt:=xK aBa
def B172x0(c:TC0)(k1:Bool→Rt)(a0:G.Y):Rt:=
 obL [.bool] (c 183 [yT a0.package]) fun(r0:Bool×Unit)=>
 cnd r0.1 (cnd (decide ((1:Int)≤(List.length a0.name:Int))) (k1 (decide ((List.length a0.name:Int)≤(40:Int)))) (k1 false)) (k1 false)
def V172x0(n:Nt):G.Y→Rt:=fun x0=>n [yR 1 x0]
def B172x1(c:TC0)(a2:Bool):Rt:=
 some [yB a2]
def V172x1(n:Nt):Bool→Rt:=fun x0=>n [yB x0]
def aIE:=V172x1 (xD aBa e [1,1,0] aBv (q172x0 c e))
theorem s172x0:V172x0 (xF aBa c e)=B172x0 c (aIE c e):=by kernel_rfl
theorem s172x1:V172x1 (xA aBa c e [1,1,0] aBv (q172x0 c e))=B172x1 c:=by kernel_rfl
def J172x1(c:TC0)(L:Nat):Bool→Rt:=B172x1 c
theorem j172x1:aIE c (cu c L)=J172x1 c L:=by rw[aIE,aM,s172x1];rfl
def F172(c:TC0)(L:Nat):G.Y→Rt:=B172x0 c (J172x1 c L)
theorem e172:V172x0 (xF aBa c (cu c L))=F172 c L:=by rw[s172x0];simp only[j172x1];rfl
theorem c172(a0:G.Y)(L n:Nat):CTp L (n+1) 172 [yR 1 a0]=F172 (CTp L n) L a0:=by rw[←e172];exact cg (x:=aBa) (by kernel_rfl) (by kernel_rfl) L n _
def B178x0(c:TC0)(a0:G.T):Rt:=
 cnd (!decide (a0.kind=(3:Int))) (some [yS 3 ([]:List G.T)]) (some [yS 3 a0.args])
def V178x0(n:Nt):G.T→Rt:=fun x0=>n [yR 3 x0]
theorem s178x0:V178x0 (xF ii178 c e)=B178x0 c:=by kernel_rfl
def F178(c:TC0)(L:Nat):G.T→Rt:=B178x0 c
theorem e178:V178x0 (xF ii178 c (cu c L))=F178 c L:=s178x0 _ _
theorem c178(a0:G.T)(L n:Nat):CTp L (n+1) 178 [yR 3 a0]=F178 (CTp L n) L a0:=by rw[←e178];exact cg (x:=ii178) (by kernel_rfl) (by kernel_rfl) L n _
def q179x0(c:TC0)(e:Cu):Kt:=xK mK
def q179x1(c:TC0)(e:Cu):Kt:=xT mK c e [1,1,1] (q179x0 c e)
def oQ(c:TC0)(e:Cu):Kt:=dD U0 0 (q179x1 c e)
def B179x0(c:TC0)(k1:Bool→Rt)(k2:Bool→Rt)(k3:Bool→Rt)(k4:Bool→Rt)(a0:G.O):Rt:=
 cnd (decide (a0.kind=(1:Int))) (obL [.str,.str] (c 86 [yT a0.num,yT a0.den]) fun(r0:List UInt8×List UInt8×Unit)=>
 cnd (decide (a0.sym=(G.Y.mk ([]:List UInt8) ([]:List UInt8)))) (cnd (decide (a0.text=([]:List UInt8))) (cnd (decide ((List.length a0.pair:Int)=(0:Int))) (cnd (decide (r0.1=a0.num)) (cnd (decide (r0.2.1=a0.den)) (obL [i6] (c 160 [yT r0.1]) fun(r1:Int×Unit)=>
 cnd (decide (r1.1≤(100:Int))) (obL [i6] (c 160 [yT r0.2.1]) fun(r2:Int×Unit)=>
 k1 (decide (r2.1≤(100:Int)))) (k1 false)) (k1 false)) (k1 false)) (k1 false)) (k1 false)) (k1 false)) (cnd (decide (a0.kind=(2:Int))) (obL [.bool] (c 172 [yR 1 a0.sym]) fun(r3:Bool×Unit)=>
 cnd r3.1 (cnd (decide (a0.num=([]:List UInt8))) (cnd (decide (a0.den=([]:List UInt8))) (cnd (decide (a0.text=([]:List UInt8))) (k2 (decide ((List.length a0.pair:Int)=(0:Int)))) (k2 false)) (k2 false)) (k2 false)) (k2 false)) (cnd (decide (a0.kind=(3:Int))) (cnd (decide (a0.sym=(G.Y.mk ([]:List UInt8) ([]:List UInt8)))) (cnd (decide (a0.num=([]:List UInt8))) (cnd (decide (a0.den=([]:List UInt8))) (cnd (decide ((List.length a0.text:Int)≤(200:Int))) (k3 (decide ((List.length a0.pair:Int)=(0:Int)))) (k3 false)) (k3 false)) (k3 false)) (k3 false)) (cnd (decide (a0.kind=(4:Int))) (cnd (decide (a0.sym=(G.Y.mk ([]:List UInt8) ([]:List UInt8)))) (cnd (decide (a0.num=([]:List UInt8))) (cnd (decide (a0.den=([]:List UInt8))) (cnd (decide (a0.text=([]:List UInt8))) (cnd (decide ((List.length a0.pair:Int)=(2:Int))) (ob (idx a0.pair (0:Int)) fun v4=>
 obL [.bool] (c 179 [yR 2 v4]) fun(r5:Bool×Unit)=>
 cnd r5.1 (ob (idx a0.pair (1:Int)) fun v6=>
 obL [.bool] (c 179 [yR 2 v6]) fun(r7:Bool×Unit)=>
 k4 r7.1) (k4 false)) (k4 false)) (k4 false)) (k4 false)) (k4 false)) (k4 false)) (some [yB false]))))
def V179x0(n:Nt):G.O→Rt:=fun x0=>n [yR 2 x0]
def B179x1(c:TC0)(a2:Bool):Rt:=
 some [yB a2]
def V179x1(n:Nt):Bool→Rt:=fun x0=>n [yB x0]
def aID:=V179x1 (xD mK e [1,1,0,1,0,1,0,1,1,0] aBu (oQ c e))
def B179x2(c:TC0)(a2:Bool):Rt:=
 some [yB a2]
def V179x2(n:Nt):Bool→Rt:=fun x0=>n [yB x0]
def aIC:=V179x2 (xD mK e [1,1,0,1,0,1,1,1,0,1,0] aBt (oQ c e))
def B179x3(c:TC0)(a2:Bool):Rt:=
 some [yB a2]
def V179x3(n:Nt):Bool→Rt:=fun x0=>n [yB x0]
def aIB:=V179x3 (xD mK e [1,1,0,1,0,1,1,1,1,1,0,1,0] aBs (oQ c e))
def B179x4(c:TC0)(a2:Bool):Rt:=
 some [yB a2]
def V179x4(n:Nt):Bool→Rt:=fun x0=>n [yB x0]
def aIA:=V179x4 (xD mK e [1,1,0,1,0,1,1,1,1,1,1,1,0,1,0] aBr (oQ c e))
theorem s179x0:V179x0 (xF mK c e)=B179x0 c (aID c e) (aIC c e) (aIB c e) (aIA c e):=by kernel_rfl
theorem s179x1:V179x1 (xA mK c e [1,1,0,1,0,1,0,1,1,0] aBu (oQ c e))=B179x1 c:=by kernel_rfl
theorem s179x2:V179x2 (xA mK c e [1,1,0,1,0,1,1,1,0,1,0] aBt (oQ c e))=B179x2 c:=by kernel_rfl
theorem s179x3:V179x3 (xA mK c e [1,1,0,1,0,1,1,1,1,1,0,1,0] aBs (oQ c e))=B179x3 c:=by kernel_rfl
theorem s179x4:V179x4 (xA mK c e [1,1,0,1,0,1,1,1,1,1,1,1,0,1,0] aBr (oQ c e))=B179x4 c:=by kernel_rfl
def J179x1(c:TC0)(L:Nat):Bool→Rt:=B179x1 c
theorem j179x1:aID c (cu c L)=J179x1 c L:=by rw[aID,aM,s179x1];rfl
def J179x2(c:TC0)(L:Nat):Bool→Rt:=B179x2 c
theorem j179x2:aIC c (cu c L)=J179x2 c L:=by rw[aIC,aM,s179x2];rfl
def J179x3(c:TC0)(L:Nat):Bool→Rt:=B179x3 c
theorem j179x3:aIB c (cu c L)=J179x3 c L:=by rw[aIB,aM,s179x3];rfl
def J179x4(c:TC0)(L:Nat):Bool→Rt:=B179x4 c
theorem j179x4:aIA c (cu c L)=J179x4 c L:=by rw[aIA,aM,s179x4];rfl
def F179(c:TC0)(L:Nat):G.O→Rt:=B179x0 c (J179x1 c L) (J179x2 c L) (J179x3 c L) (J179x4 c L)
theorem e179:V179x0 (xF mK c (cu c L))=F179 c L:=by rw[s179x0];simp only[j179x1,j179x2,j179x3,j179x4];rfl
theorem c179(a0:G.O)(L n:Nat):CTp L (n+1) 179 [yR 2 a0]=F179 (CTp L n) L a0:=by rw[←e179];exact cg (x:=mK) (by kernel_rfl) (by kernel_rfl) L n _
def q183x0(c:TC0)(e:Cu):Kt:=xK lH
def q183x1(c:TC0)(e:Cu):Kt:=xT lH c e [1,1] (q183x0 c e)
def q183x2(c:TC0)(e:Cu):Kt:=xT lH c e [1,1,1] (q183x0 c e)
def aCY(c:TC0)(e:Cu):Kt:=dD U0 0 (q183x2 c e)
def q183x4(c:TC0)(e:Cu)(n2:Nt):Kt:=lpK U0 nR n2 (aCY c e)
def q183x5(c:TC0)(e:Cu)(n2:Nt):Kt:=xT lH c e [1,1,0,1,0,0,1,1] (q183x4 c e n2)
def q183x6(c:TC0)(e:Cu)(n2:Nt):Kt:=dD U0 1 (q183x5 c e n2)
def B183x0(c:TC0)(k1:Bool→List UInt8→Rt)(a0:List UInt8):Rt:=
 cnd (decide ((List.length a0:Int)<(1:Int))) (k1 true a0) (cnd (decide ((40:Int)<(List.length a0:Int))) (k1 true a0) (ob (idx a0 (0:Int)) fun v0=>
 cnd (decide ((v0.toNat:Int)<(97:Int))) (k1 true a0) (ob (idx a0 (0:Int)) fun v1=>
 k1 (decide ((122:Int)<(v1.toNat:Int))) a0)))
def V183x0(n:Nt):List UInt8→Rt:=fun x0=>n [yT x0]
def B183x1(c:TC0)(e2:List UInt8→Int→Rt)(a22:Bool)(a0:List UInt8):Rt:=
 cnd a22 (some [yB false]) (e2 a0 (0:Int))
def V183x1(n:Nt):Bool→List UInt8→Rt:=fun x0 x1=>n [yB x0,yT x1]
def aIz:=V183x1 (xD lH e [1,0,1,0] aBq (q183x1 c e))
def B183x2(c:TC0)(k3:Bool→Int→List UInt8→Rt)(a0:List UInt8)(a3:Int):Rt:=
 cnd (decide (a3<(List.length a0:Int))) (ob (idx a0 a3) fun v0=>
 cnd (decide ((v0.toNat:Int)<(97:Int))) (cnd (decide ((v0.toNat:Int)<(48:Int))) (k3 (!decide ((v0.toNat:Int)=(45:Int))) a3 a0) (cnd (decide ((57:Int)<(v0.toNat:Int))) (k3 (!decide ((v0.toNat:Int)=(45:Int))) a3 a0) (k3 false a3 a0))) (cnd (decide ((122:Int)<(v0.toNat:Int))) (cnd (decide ((v0.toNat:Int)<(48:Int))) (k3 (!decide ((v0.toNat:Int)=(45:Int))) a3 a0) (cnd (decide ((57:Int)<(v0.toNat:Int))) (k3 (!decide ((v0.toNat:Int)=(45:Int))) a3 a0) (k3 false a3 a0))) (k3 false a3 a0))) (some [yB true])
def aAl(n:Nt):List UInt8→Int→Rt:=fun x0 x1=>n [yT x0,yI x1]
def X183x2:=aAl (xE lH e [1,1,0,1,0,0] nR (aCY c e))
def B183x3(c:TC0)(n2:List UInt8→Int→Rt)(a49:Bool)(a3:Int)(a0:List UInt8):Rt:=
 cnd a49 (some [yB false]) (n2 a0 (IntKind.i64.wrap (a3+(1:Int))))
def V183x3(n:Nt):Bool→Int→List UInt8→Rt:=fun x0 x1 x2=>n [yB x0,yI x1,yT x2]
def aIy(n2:Nt):=V183x3 (xD lH e [1,1,0,1,0,0,1,0,0,1,1,0] aBp (q183x6 c e n2))
theorem s183x0:V183x0 (xF lH c e)=B183x0 c (aIz c e):=by kernel_rfl
theorem s183x1:V183x1 (xA lH c e [1,0,1,0] aBq (q183x1 c e))=B183x1 c (X183x2 c e):=by kernel_rfl
theorem s183x2(n2:Nt):aAl (xA lH c e [1,1,0,1,0,0] nR (lpK U0 nR n2 (aCY c e)))=B183x2 c (aIy c e n2):=by kernel_rfl
theorem s183x3(n2:Nt):V183x3 (xA lH c e [1,1,0,1,0,0,1,0,0,1,1,0] aBp (q183x6 c e n2))=B183x3 c (aAl n2):=by kernel_rfl
def J183x3(c:TC0)(L:Nat)(n2:List UInt8→Int→Rt):Bool→Int→List UInt8→Rt:=B183x3 c n2
theorem j183x3(n2:Nt):aIy c (cu c L) n2=J183x3 c L (aAl n2):=by rw[aIy,aM,s183x3];rfl
def aEo(c:TC0)(L:Nat):Nat→List UInt8→Int→Rt
 |0=>fun _ _=>none
 |n+1=>B183x2 c (J183x3 c L (aEo c L n))
theorem u183x2(n:Nat):aAl (xL lH c L [1,1,0,1,0,0] nR (aCY c (cu c L)) n)=aEo c L n:=by
 induction n with
 |zero=>rfl
 |succ n ih=>rw[fO,s183x2];simp only[j183x3,ih];rfl
theorem w183x2:X183x2 c (cu c L)=aEo c L L:=u183x2 c L L
def J183x1(c:TC0)(L:Nat):Bool→List UInt8→Rt:=B183x1 c (aEo c L L)
theorem j183x1:aIz c (cu c L)=J183x1 c L:=by rw[aIz,aM,s183x1];simp only[w183x2];rfl
def F183(c:TC0)(L:Nat):List UInt8→Rt:=B183x0 c (J183x1 c L)
theorem e183:V183x0 (xF lH c (cu c L))=F183 c L:=by rw[s183x0];simp only[j183x1];rfl
theorem c183(a0:List UInt8)(L n:Nat):CTp L (n+1) 183 [yT a0]=F183 (CTp L n) L a0:=by rw[←e183];exact cg (x:=lH) (by kernel_rfl) (by kernel_rfl) L n _
end
end Go.TV
