import Derived.Test.YtojjcdpfjabepaaGreatDoorKr
set_option linter.unusedVariables false
set_option linter.unusedSimpArgs false
set_option linter.constructorNameAsVariable false
namespace Go.TV
open Go.AI Go.PI Go.Proofs
set_option maxRecDepth 20000
noncomputable section
variable(c:TC0)(e:Cu)(L:Nat)
def aCA(c:TC0)(e:Cu):Kt:=xK iN
def q105x1(c:TC0)(e:Cu):Kt:=xT iN c e [1,1,1,1] (aCA c e)
def wJ(c:TC0)(e:Cu):Kt:=cN U0 0 (q105x1 c e)
def q105x3(c:TC0)(e:Cu):Kt:=xT iN c e [1,1,1,0,1,0,1,1,1,1,1,1,1,0,1,1,1] (wJ c e)
def q105x4(c:TC0)(e:Cu):Kt:=xT iN c e [1,1,1,1,1,1,1,1,1] (aCA c e)
def q105x5(c:TC0)(e:Cu):Kt:=cN U0 1 (q105x4 c e)
def aAb(c:TC0)(k1:Bool→Int→G.K→G.X→G.K→G.X→Rt)(k2:Int→G.K→G.X→G.K→G.X→Rt)(k3:Int→G.K→G.X→G.K→G.X→Rt)(k4:Bool→Int→Int→G.K→G.X→G.K→G.X→Rt)(a0:List UInt8)(a1:Int):Rt:=
 ob (idx a0 a1) fun v0=>
 cnd (decide ((v0.toNat:Int)=(40:Int))) (some [yR 22 (G.K.mk (1:Int) a1 ([]:List UInt8) ([]:List UInt8) ([]:List UInt8)),yI (IntKind.i64.wrap (a1+(1:Int))),yR 20 (G.X.mk (0:Int) (0:Int))]) (cnd (decide ((v0.toNat:Int)=(41:Int))) (some [yR 22 (G.K.mk (2:Int) a1 ([]:List UInt8) ([]:List UInt8) ([]:List UInt8)),yI (IntKind.i64.wrap (a1+(1:Int))),yR 20 (G.X.mk (0:Int) (0:Int))]) (cnd (decide ((v0.toNat:Int)=(39:Int))) (some [yR 22 (G.K.mk (4:Int) a1 ([]:List UInt8) ([]:List UInt8) ([]:List UInt8)),yI (IntKind.i64.wrap (a1+(1:Int))),yR 20 (G.X.mk (0:Int) (0:Int))]) (cnd (decide ((v0.toNat:Int)=(34:Int))) (obL [.str,i6,.rc 20] (c 130 [yT a0,yI (IntKind.i64.wrap (a1+(1:Int))),⟨(.int .u8),(34:Int)⟩]) fun(r1:List UInt8×Int×G.X×Unit)=>
 cnd (decide (r1.2.2.1.err=(0:Int))) (k1 (decide ((200:Int)<(List.length r1.1:Int))) r1.2.1 (G.K.mk (7:Int) a1 ([]:List UInt8) r1.1 ([]:List UInt8)) r1.2.2.1 (G.K.mk (0:Int) (0:Int) ([]:List UInt8) ([]:List UInt8) ([]:List UInt8)) (G.X.mk (0:Int) (0:Int))) (k1 false r1.2.1 (G.K.mk (7:Int) a1 ([]:List UInt8) r1.1 ([]:List UInt8)) r1.2.2.1 (G.K.mk (0:Int) (0:Int) ([]:List UInt8) ([]:List UInt8) ([]:List UInt8)) (G.X.mk (0:Int) (0:Int)))) (cnd (decide ((v0.toNat:Int)=(124:Int))) (obL [.str,i6,.rc 20] (c 130 [yT a0,yI (IntKind.i64.wrap (a1+(1:Int))),⟨(.int .u8),(124:Int)⟩]) fun(r2:List UInt8×Int×G.X×Unit)=>
 cnd (decide (r2.2.2.1.err=(0:Int))) (obL [.rc 20] (c 131 [yR 22 (G.K.mk (6:Int) a1 ([]:List UInt8) r2.1 ([]:List UInt8)),yB true]) fun(r3:G.X×Unit)=>
 k2 r2.2.1 (G.K.mk (6:Int) a1 ([]:List UInt8) r2.1 ([]:List UInt8)) r3.1 (G.K.mk (0:Int) (0:Int) ([]:List UInt8) ([]:List UInt8) ([]:List UInt8)) (G.X.mk (0:Int) (0:Int))) (k2 r2.2.1 (G.K.mk (6:Int) a1 ([]:List UInt8) r2.1 ([]:List UInt8)) r2.2.2.1 (G.K.mk (0:Int) (0:Int) ([]:List UInt8) ([]:List UInt8) ([]:List UInt8)) (G.X.mk (0:Int) (0:Int)))) (obL [.bool] (c 132 [⟨(.int .u8),(v0.toNat:Int)⟩]) fun(r4:Bool×Unit)=>
 cnd (!r4.1) (obL [.rc 20] (c 82 [yI (12:Int),yI a1]) fun(r5:G.X×Unit)=>
 some [yR 22 (G.K.mk (0:Int) a1 ([]:List UInt8) ([]:List UInt8) ([]:List UInt8)),yI a1,yR 20 r5.1]) (obL [i6] (c 133 [yT a0,yI a1]) fun(r6:Int×Unit)=>
 ob (slc a0 a1 r6.1) fun v7=>
 obL [.bool] (c 129 [yT a0,yI r6.1,⟨(.int .u8),(58:Int)⟩,⟨(.int .u8),(58:Int)⟩]) fun(r8:Bool×Unit)=>
 cnd r8.1 (obL [.rc 22,i6,.rc 20] (c 134 [yT a0,yR 22 (G.K.mk (0:Int) a1 ([]:List UInt8) ([]:List UInt8) ([]:List UInt8)),yT v7,yI r6.1]) fun(r9:G.K×Int×G.X×Unit)=>
 some [yR 22 r9.1,yI r9.2.1,yR 20 r9.2.2.1]) (obL [.str,.str,.bool] (c 135 [yT v7]) fun(r10:List UInt8×List UInt8×Bool×Unit)=>
 cnd (decide (v7=([46]:List UInt8))) (k3 r6.1 (G.K.mk (3:Int) a1 ([]:List UInt8) ([]:List UInt8) ([]:List UInt8)) (G.X.mk (0:Int) (0:Int)) (G.K.mk (0:Int) (0:Int) ([]:List UInt8) ([]:List UInt8) ([]:List UInt8)) (G.X.mk (0:Int) (0:Int))) (cnd r10.2.2.1 (obL [.str] (c 136 [yT r10.2.1]) fun(r11:List UInt8×Unit)=>
 cnd (decide (r11.1=([48]:List UInt8))) (obL [.rc 20] (c 82 [yI (12:Int),yI a1]) fun(r12:G.X×Unit)=>
 some [yR 22 (G.K.mk (0:Int) a1 ([]:List UInt8) ([]:List UInt8) ([]:List UInt8)),yI r6.1,yR 20 r12.1]) (obL [.str] (c 136 [yT r10.1]) fun(r13:List UInt8×Unit)=>
 obL [.str] (c 136 [yT r10.2.1]) fun(r14:List UInt8×Unit)=>
 obL [.str,.str] (c 71 [yT r13.1,yT r14.1]) fun(r15:List UInt8×List UInt8×Unit)=>
 obL [i6] (c 137 [yT r15.1]) fun(r16:Int×Unit)=>
 cnd (decide ((100:Int)<r16.1)) (k4 true a1 r6.1 (G.K.mk (5:Int) a1 ([]:List UInt8) r15.1 r15.2.1) (G.X.mk (0:Int) (0:Int)) (G.K.mk (0:Int) (0:Int) ([]:List UInt8) ([]:List UInt8) ([]:List UInt8)) (G.X.mk (0:Int) (0:Int))) (obL [i6] (c 137 [yT r15.2.1]) fun(r17:Int×Unit)=>
 k4 (decide ((100:Int)<r17.1)) a1 r6.1 (G.K.mk (5:Int) a1 ([]:List UInt8) r15.1 r15.2.1) (G.X.mk (0:Int) (0:Int)) (G.K.mk (0:Int) (0:Int) ([]:List UInt8) ([]:List UInt8) ([]:List UInt8)) (G.X.mk (0:Int) (0:Int))))) (obL [.rc 20] (c 131 [yR 22 (G.K.mk (6:Int) a1 ([]:List UInt8) v7 ([]:List UInt8)),yB false]) fun(r18:G.X×Unit)=>
 k3 r6.1 (G.K.mk (6:Int) a1 ([]:List UInt8) v7 ([]:List UInt8)) r18.1 (G.K.mk (0:Int) (0:Int) ([]:List UInt8) ([]:List UInt8) ([]:List UInt8)) (G.X.mk (0:Int) (0:Int)))))))))))
def V105x0(n:Nt):List UInt8→Int→Rt:=fun x0 x1=>n [yT x0,yI x1]
def B105x1(c:TC0)(k5:Int→G.K→G.X→G.K→G.X→Rt)(a65:Bool)(a1:Int)(b107:G.K)(b108:G.X)(b104:G.K)(b106:G.X):Rt:=
 cnd a65 (obL [.rc 20] (c 82 [yI (2:Int),yI b107.pos]) fun(r0:G.X×Unit)=>
 k5 a1 b107 r0.1 b104 b106) (k5 a1 b107 b108 b104 b106)
def V105x1(n:Nt):Bool→Int→G.K→G.X→G.K→G.X→Rt:=fun x0 x1 x2 x3 x4 x5=>n [yB x0,yI x1,yR 22 x2,yR 20 x3,yR 22 x4,yR 20 x5]
def aIw:=V105x1 (xD iN e [1,1,1,0,1,0,1,1,1,1,1,1,1,0,1,1,0,1,0] aBw (q105x3 c e))
def B105x2(c:TC0)(a1:Int)(b107:G.K)(b108:G.X)(b104:G.K)(b106:G.X):Rt:=
 some [yR 22 b107,yI a1,yR 20 b108]
def V105x2(n:Nt):Int→G.K→G.X→G.K→G.X→Rt:=fun x0 x1 x2 x3 x4=>n [yI x0,yR 22 x1,yR 20 x2,yR 22 x3,yR 20 x4]
def aIv:=V105x2 (xD iN e [1,1,1,0,1,0,1,1,1,1,1,1,1,1,1,0,1,1,1,0] aBv (wJ c e))
def B105x3(c:TC0)(a10:Int)(b107:G.K)(b108:G.X)(b104:G.K)(b106:G.X):Rt:=
 some [yR 22 b107,yI a10,yR 20 b108]
def V105x3(n:Nt):Int→G.K→G.X→G.K→G.X→Rt:=fun x0 x1 x2 x3 x4=>n [yI x0,yR 22 x1,yR 20 x2,yR 22 x3,yR 20 x4]
def aDL:=V105x3 (xD iN e [1,1,1,1,1,1,1,1,1,0] aBu (aCA c e))
def B105x4(c:TC0)(k3:Int→G.K→G.X→G.K→G.X→Rt)(a163:Bool)(a1:Int)(a10:Int)(b107:G.K)(b108:G.X)(b104:G.K)(b106:G.X):Rt:=
 cnd a163 (obL [.rc 20] (c 82 [yI (2:Int),yI a1]) fun(r0:G.X×Unit)=>
 some [yR 22 b107,yI a10,yR 20 r0.1]) (k3 a10 b107 b108 b104 b106)
def V105x4(n:Nt):Bool→Int→Int→G.K→G.X→G.K→G.X→Rt:=fun x0 x1 x2 x3 x4 x5 x6=>n [yB x0,yI x1,yI x2,yR 22 x3,yR 20 x4,yR 22 x5,yR 20 x6]
def aIu:=V105x4 (xD iN e [1,1,1,1,1,1,1,1,0,0,1,1,1,0,1,1,1,1,0] aBt (q105x5 c e))
def B105x5(c:TC0)(a1:Int)(b107:G.K)(b108:G.X)(b104:G.K)(b106:G.X):Rt:=
 some [yR 22 b107,yI a1,yR 20 b108]
def V105x5(n:Nt):Int→G.K→G.X→G.K→G.X→Rt:=fun x0 x1 x2 x3 x4=>n [yI x0,yR 22 x1,yR 20 x2,yR 22 x3,yR 20 x4]
def aIt:=V105x5 (xD iN e [1,1,1,0,1,0,1,1,1,1,1,1,1,0,1,1,1,0] aBs (wJ c e))
theorem s105x0:V105x0 (xF iN c e)=aAb c (aIw c e) (aIv c e) (aDL c e) (aIu c e):=by kernel_rfl
theorem s105x1:V105x1 (xA iN c e [1,1,1,0,1,0,1,1,1,1,1,1,1,0,1,1,0,1,0] aBw (q105x3 c e))=B105x1 c (aIt c e):=by kernel_rfl
theorem s105x2:V105x2 (xA iN c e [1,1,1,0,1,0,1,1,1,1,1,1,1,1,1,0,1,1,1,0] aBv (wJ c e))=B105x2 c:=by kernel_rfl
theorem s105x3:V105x3 (xA iN c e [1,1,1,1,1,1,1,1,1,0] aBu (aCA c e))=B105x3 c:=by kernel_rfl
theorem s105x4:V105x4 (xA iN c e [1,1,1,1,1,1,1,1,0,0,1,1,1,0,1,1,1,1,0] aBt (q105x5 c e))=B105x4 c (aDL c e):=by kernel_rfl
theorem s105x5:V105x5 (xA iN c e [1,1,1,0,1,0,1,1,1,1,1,1,1,0,1,1,1,0] aBs (wJ c e))=B105x5 c:=by kernel_rfl
def J105x2(c:TC0)(L:Nat):Int→G.K→G.X→G.K→G.X→Rt:=B105x2 c
theorem j105x2:aIv c (cu c L)=J105x2 c L:=by rw[aIv,aN,s105x2];rfl
def aIQ(c:TC0)(L:Nat):Int→G.K→G.X→G.K→G.X→Rt:=B105x3 c
theorem j105x3:aDL c (cu c L)=aIQ c L:=by rw[aDL,aN,s105x3];rfl
def J105x4(c:TC0)(L:Nat):Bool→Int→Int→G.K→G.X→G.K→G.X→Rt:=B105x4 c (aIQ c L)
theorem j105x4:aIu c (cu c L)=J105x4 c L:=by rw[aIu,aN,s105x4];simp only[j105x3];rfl
def J105x5(c:TC0)(L:Nat):Int→G.K→G.X→G.K→G.X→Rt:=B105x5 c
theorem j105x5:aIt c (cu c L)=J105x5 c L:=by rw[aIt,aN,s105x5];rfl
def J105x1(c:TC0)(L:Nat):Bool→Int→G.K→G.X→G.K→G.X→Rt:=B105x1 c (J105x5 c L)
theorem j105x1:aIw c (cu c L)=J105x1 c L:=by rw[aIw,aN,s105x1];simp only[j105x5];rfl
def F105(c:TC0)(L:Nat):List UInt8→Int→Rt:=aAb c (J105x1 c L) (J105x2 c L) (aIQ c L) (J105x4 c L)
theorem e105:V105x0 (xF iN c (cu c L))=F105 c L:=by rw[s105x0];simp only[j105x1,j105x2,j105x3,j105x4];rfl
theorem c105(a0:List UInt8)(a1:Int)(L n:Nat):CTp L (n+1) 105 [yT a0,yI a1]=F105 (CTp L n) L a0 a1:=by rw[←e105];exact cg (x:=iN) (by kernel_rfl) (by kernel_rfl) L n _
def aCz(c:TC0)(e:Cu):Kt:=xK iM
def q106x1(c:TC0)(e:Cu):Kt:=xT iM c e [1,1,1,1] (aCz c e)
def aCy(c:TC0)(e:Cu):Kt:=cN U0 0 (q106x1 c e)
def q106x3(c:TC0)(e:Cu)(n1:Nt):Kt:=lpK U0 nR n1 (aCy c e)
def q106x4(c:TC0)(e:Cu)(n1:Nt):Kt:=cN U0 1 (q106x3 c e n1)
def q106x5(c:TC0)(e:Cu)(n1:Nt):Kt:=xT iM c e [1,1,1,0,0,0,1,0,1] (q106x4 c e n1)
def q106x6(c:TC0)(e:Cu):Kt:=xT iM c e [1,1,1,1,0,1,1] (aCz c e)
def aFY(c:TC0)(e:Cu):Kt:=cN U0 3 (q106x6 c e)
def B106x0(c:TC0)(e1:Int→List G.O→G.P→G.O→G.O→G.X→Rt)(a1:Int)(b0:G.P):Rt:=
 obL [.rc 2] (c 42 []) fun(r0:G.O×Unit)=>
 e1 a1 ([]:List G.O) b0 r0.1 (G.O.mk (0:Int) ([]:List UInt8) ([]:List UInt8) (G.Y.mk ([]:List UInt8) ([]:List UInt8)) ([]:List UInt8) ([]:List G.O)) (G.X.mk (0:Int) (0:Int))
def V106x0(n:Nt):Int→G.P→Rt:=fun x0 x1=>n [yI x0,yR 23 x1]
def B106x1(c:TC0)(k2:Bool→List G.O→Int→G.P→G.O→G.O→G.X→Rt)(k3:List G.O→G.P→G.O→G.O→G.X→Rt)(a1:Int)(a6:List G.O)(b0:G.P)(b107:G.O)(b104:G.O)(b105:G.X):Rt:=
 ob (idx b0.t b0.pos) fun v0=>
 cnd (!decide (v0.kind=(2:Int))) (ob (idx b0.t b0.pos) fun v1=>
 cnd (decide (v1.kind=(3:Int))) (k2 (decide ((0:Int)<(List.length a6:Int))) a6 a1 b0 b107 b104 b105) (k2 false a6 a1 b0 b107 b104 b105)) (k3 a6 b0 b107 b104 b105)
def zU(n:Nt):Int→List G.O→G.P→G.O→G.O→G.X→Rt:=fun x0 x1 x2 x3 x4 x5=>n [yI x0,yS 2 x1,yR 23 x2,yR 2 x3,yR 2 x4,yR 20 x5]
def X106x1:=zU (xE iM e [1,1,1,0,0,0] nR (aCy c e))
def B106x2(c:TC0)(k3:List G.O→G.P→G.O→G.O→G.X→Rt)(n1:Int→List G.O→G.P→G.O→G.O→G.X→Rt)(a43:Bool)(a6:List G.O)(a1:Int)(b0:G.P)(b107:G.O)(b104:G.O)(b105:G.X):Rt:=
 cnd a43 (obL [.rc 2,.rc 20,.rc 23] (c 83 [yI a1,yR 23 (G.P.mk b0.l b0.current b0.t (IntKind.i64.wrap (b0.pos+(1:Int))))]) fun(r0:G.O×G.X×G.P×Unit)=>
 cnd (!decide (r0.2.1.err=(0:Int))) (some [yR 2 (G.O.mk (0:Int) ([]:List UInt8) ([]:List UInt8) (G.Y.mk ([]:List UInt8) ([]:List UInt8)) ([]:List UInt8) ([]:List G.O)),yR 20 r0.2.1,yR 23 r0.2.2.1]) (ob (idx r0.2.2.1.t r0.2.2.1.pos) fun v1=>
 cnd (decide (v1.kind=(2:Int))) (k3 a6 r0.2.2.1 r0.1 b104 b105) (cnd (decide (v1.kind=(0:Int))) (obL [.rc 20] (c 82 [yI (11:Int),yI v1.pos]) fun(r2:G.X×Unit)=>
 some [yR 2 (G.O.mk (0:Int) ([]:List UInt8) ([]:List UInt8) (G.Y.mk ([]:List UInt8) ([]:List UInt8)) ([]:List UInt8) ([]:List G.O)),yR 20 r2.1,yR 23 r0.2.2.1]) (obL [.rc 20] (c 82 [yI (12:Int),yI v1.pos]) fun(r3:G.X×Unit)=>
 some [yR 2 (G.O.mk (0:Int) ([]:List UInt8) ([]:List UInt8) (G.Y.mk ([]:List UInt8) ([]:List UInt8)) ([]:List UInt8) ([]:List G.O)),yR 20 r3.1,yR 23 r0.2.2.1])))) (obL [.rc 2,.rc 20,.rc 23] (c 83 [yI a1,yR 23 b0]) fun(r4:G.O×G.X×G.P×Unit)=>
 cnd (!decide (r4.2.1.err=(0:Int))) (some [yR 2 (G.O.mk (0:Int) ([]:List UInt8) ([]:List UInt8) (G.Y.mk ([]:List UInt8) ([]:List UInt8)) ([]:List UInt8) ([]:List G.O)),yR 20 r4.2.1,yR 23 r4.2.2.1]) (chk (Nat.ble ((List.length a6+List.length ([r4.1]:List G.O))*112) 1073741824)<|
 n1 a1 (a6++([r4.1]:List G.O)) r4.2.2.1 b107 b104 b105))
def V106x2(n:Nt):Bool→List G.O→Int→G.P→G.O→G.O→G.X→Rt:=fun x0 x1 x2 x3 x4 x5 x6=>n [yB x0,yS 2 x1,yI x2,yR 23 x3,yR 2 x4,yR 2 x5,yR 20 x6]
def aIs(n1:Nt):=V106x2 (xD iM e [1,1,1,0,0,0,1,0,0,1,0] aBr (q106x5 c e n1))
def B106x3(c:TC0)(e4:List G.O→Int→G.P→G.O→G.O→G.X→Rt)(a6:List G.O)(b0:G.P)(b107:G.O)(b104:G.O)(b105:G.X):Rt:=
 e4 a6 (IntKind.i64.wrap ((List.length a6:Int)-(1:Int))) (G.P.mk b0.l b0.current b0.t (IntKind.i64.wrap (b0.pos+(1:Int)))) b107 b104 b105
def V106x3(n:Nt):List G.O→G.P→G.O→G.O→G.X→Rt:=fun x0 x1 x2 x3 x4=>n [yS 2 x0,yR 23 x1,yR 2 x2,yR 2 x3,yR 20 x4]
def aDK:=V106x3 (xD iM e [1,1,1,1,0] aBq (aCz c e))
def B106x4(c:TC0)(n4:List G.O→Int→G.P→G.O→G.O→G.X→Rt)(a6:List G.O)(a13:Int)(b0:G.P)(b107:G.O)(b104:G.O)(b105:G.X):Rt:=
 cnd (decide ((0:Int)≤a13)) (ob (idx a6 a13) fun v0=>
 obL [.rc 2] (c 48 [yR 2 v0,yR 2 b107]) fun(r1:G.O×Unit)=>
 n4 a6 (IntKind.i64.wrap (a13-(1:Int))) b0 r1.1 b104 b105) (some [yR 2 b107,yR 20 (G.X.mk (0:Int) (0:Int)),yR 23 b0])
def aD7(n:Nt):List G.O→Int→G.P→G.O→G.O→G.X→Rt:=fun x0 x1 x2 x3 x4 x5=>n [yS 2 x0,yI x1,yR 23 x2,yR 2 x3,yR 2 x4,yR 20 x5]
def X106x4:=aD7 (xE iM e [1,1,1,1,0,1,0,1,0,0] qO (aFY c e))
theorem s106x0:V106x0 (xF iM c e)=B106x0 c (X106x1 c e):=by kernel_rfl
theorem s106x1(n1:Nt):zU (xA iM c e [1,1,1,0,0,0] nR (lpK U0 nR n1 (aCy c e)))=B106x1 c (aIs c e n1) (aDK c e):=by kernel_rfl
theorem s106x2(n1:Nt):V106x2 (xA iM c e [1,1,1,0,0,0,1,0,0,1,0] aBr (q106x5 c e n1))=B106x2 c (aDK c e) (zU n1):=by kernel_rfl
theorem s106x3:V106x3 (xA iM c e [1,1,1,1,0] aBq (aCz c e))=B106x3 c (X106x4 c e):=by kernel_rfl
theorem s106x4(n4:Nt):aD7 (xA iM c e [1,1,1,1,0,1,0,1,0,0] qO (lpK U0 qO n4 (aFY c e)))=B106x4 c (aD7 n4):=by kernel_rfl
def aDZ(c:TC0)(L:Nat):Nat→List G.O→Int→G.P→G.O→G.O→G.X→Rt
 |0=>fun _ _ _ _ _ _=>none
 |n+1=>B106x4 c (aDZ c L n)
theorem u106x4(n:Nat):aD7 (xL iM c L [1,1,1,1,0,1,0,1,0,0] qO (aFY c (cu c L)) n)=aDZ c L n:=by
 induction n with
 |zero=>rfl
 |succ n ih=>rw[eY,s106x4];simp only[ih];rfl
theorem w106x4:X106x4 c (cu c L)=aDZ c L L:=u106x4 c L L
def aIP(c:TC0)(L:Nat):List G.O→G.P→G.O→G.O→G.X→Rt:=B106x3 c (aDZ c L L)
theorem j106x3:aDK c (cu c L)=aIP c L:=by rw[aDK,aN,s106x3];simp only[w106x4];rfl
def J106x2(c:TC0)(L:Nat)(n1:Int→List G.O→G.P→G.O→G.O→G.X→Rt):Bool→List G.O→Int→G.P→G.O→G.O→G.X→Rt:=B106x2 c (aIP c L) n1
theorem j106x2(n1:Nt):aIs c (cu c L) n1=J106x2 c L (zU n1):=by rw[aIs,aN,s106x2];simp only[j106x3];rfl
def aD0(c:TC0)(L:Nat):Nat→Int→List G.O→G.P→G.O→G.O→G.X→Rt
 |0=>fun _ _ _ _ _ _=>none
 |n+1=>B106x1 c (J106x2 c L (aD0 c L n)) (aIP c L)
theorem u106x1(n:Nat):zU (xL iM c L [1,1,1,0,0,0] nR (aCy c (cu c L)) n)=aD0 c L n:=by
 induction n with
 |zero=>rfl
 |succ n ih=>rw[eY,s106x1];simp only[j106x2,j106x3,ih];rfl
theorem w106x1:X106x1 c (cu c L)=aD0 c L L:=u106x1 c L L
def F106(c:TC0)(L:Nat):Int→G.P→Rt:=B106x0 c (aD0 c L L)
theorem e106:V106x0 (xF iM c (cu c L))=F106 c L:=by rw[s106x0];simp only[w106x1];rfl
theorem c106(a1:Int)(b0:G.P)(L n:Nat):CTp L (n+1) 106 [yI a1,yR 23 b0]=F106 (CTp L n) L a1 b0:=by rw[←e106];exact cg (x:=iM) (by kernel_rfl) (by kernel_rfl) L n _
def q107x0(c:TC0)(e:Cu):Kt:=xK oV
def q107x1(c:TC0)(e:Cu):Kt:=xT oV c e [1,1,1,1] (q107x0 c e)
def q107x2(c:TC0)(e:Cu):Kt:=xT oV c e [1,1,1,1,1] (q107x0 c e)
def aFX(c:TC0)(e:Cu):Kt:=cN U0 0 (q107x2 c e)
def B107x0(c:TC0)(k1:Bool→List UInt8→List UInt8→G.A→G.Y→Rt)(a0:List G.A)(a1:List UInt8)(a2:List UInt8):Rt:=
 obL [.rc 9,.bool] (c 138 [yS 9 a0,yT a1]) fun(r0:G.A×Bool×Unit)=>
 cnd (!r0.2.1) (some [yR 1 (G.Y.mk ([]:List UInt8) ([]:List UInt8)),yI (13:Int)]) (cnd (decide ((List.length a2:Int)<(1:Int))) (k1 true a1 a2 r0.1 (G.Y.mk ([]:List UInt8) ([]:List UInt8))) (k1 (decide ((40:Int)<(List.length a2:Int))) a1 a2 r0.1 (G.Y.mk ([]:List UInt8) ([]:List UInt8))))
def V107x0(n:Nt):List G.A→List UInt8→List UInt8→Rt:=fun x0 x1 x2=>n [yS 9 x0,yT x1,yT x2]
def B107x1(c:TC0)(e2:Int→List UInt8→List UInt8→G.A→G.Y→Rt)(a27:Bool)(a1:List UInt8)(a2:List UInt8)(b108:G.A)(b106:G.Y):Rt:=
 cnd a27 (some [yR 1 (G.Y.mk ([]:List UInt8) ([]:List UInt8)),yI (3:Int)]) (e2 (0:Int) a1 a2 b108 b106)
def V107x1(n:Nt):Bool→List UInt8→List UInt8→G.A→G.Y→Rt:=fun x0 x1 x2 x3 x4=>n [yB x0,yT x1,yT x2,yR 9 x3,yR 1 x4]
def aIr:=V107x1 (xD oV e [1,1,1,0,1,0] aBp (q107x1 c e))
def B107x2(c:TC0)(n2:Int→List UInt8→List UInt8→G.A→G.Y→Rt)(a10:Int)(a1:List UInt8)(a2:List UInt8)(b108:G.A)(b106:G.Y):Rt:=
 cnd (decide (a10<(List.length b108.imports:Int))) (ob (idx b108.imports a10) fun v0=>
 cnd (decide (v0.name=a2)) (ob (idx b108.imports a10) fun v1=>
 some [yR 1 v1,yI (0:Int)]) (n2 (IntKind.i64.wrap (a10+(1:Int))) a1 a2 b108 b106)) (some [yR 1 (G.Y.mk a1 a2),yI (0:Int)])
def aD6(n:Nt):Int→List UInt8→List UInt8→G.A→G.Y→Rt:=fun x0 x1 x2 x3 x4=>n [yI x0,yT x1,yT x2,yR 9 x3,yR 1 x4]
def X107x2:=aD6 (xE oV e [1,1,1,1,0,1,0,0] qN (aFX c e))
theorem s107x0:V107x0 (xF oV c e)=B107x0 c (aIr c e):=by kernel_rfl
theorem s107x1:V107x1 (xA oV c e [1,1,1,0,1,0] aBp (q107x1 c e))=B107x1 c (X107x2 c e):=by kernel_rfl
theorem s107x2(n2:Nt):aD6 (xA oV c e [1,1,1,1,0,1,0,0] qN (lpK U0 qN n2 (aFX c e)))=B107x2 c (aD6 n2):=by kernel_rfl
def aDY(c:TC0)(L:Nat):Nat→Int→List UInt8→List UInt8→G.A→G.Y→Rt
 |0=>fun _ _ _ _ _=>none
 |n+1=>B107x2 c (aDY c L n)
theorem u107x2(n:Nat):aD6 (xL oV c L [1,1,1,1,0,1,0,0] qN (aFX c (cu c L)) n)=aDY c L n:=by
 induction n with
 |zero=>rfl
 |succ n ih=>rw[eY,s107x2];simp only[ih];rfl
theorem w107x2:X107x2 c (cu c L)=aDY c L L:=u107x2 c L L
def J107x1(c:TC0)(L:Nat):Bool→List UInt8→List UInt8→G.A→G.Y→Rt:=B107x1 c (aDY c L L)
theorem j107x1:aIr c (cu c L)=J107x1 c L:=by rw[aIr,aN,s107x1];simp only[w107x2];rfl
def F107(c:TC0)(L:Nat):List G.A→List UInt8→List UInt8→Rt:=B107x0 c (J107x1 c L)
theorem e107:V107x0 (xF oV c (cu c L))=F107 c L:=by rw[s107x0];simp only[j107x1];rfl
theorem c107(a0:List G.A)(a1:List UInt8)(a2:List UInt8)(L n:Nat):CTp L (n+1) 107 [yS 9 a0,yT a1,yT a2]=F107 (CTp L n) L a0 a1 a2:=by rw[←e107];exact cg (x:=oV) (by kernel_rfl) (by kernel_rfl) L n _
def q108x0(c:TC0)(e:Cu):Kt:=xK aAM
def B108x0(c:TC0)(k1:Bool→Rt)(a0:G.Y):Rt:=
 obL [.bool] (c 139 [yR 1 a0]) fun(r0:Bool×Unit)=>
 cnd r0.1 (obL [.rc 1] (c 31 [yT ([110,105,108]:List UInt8)]) fun(r1:G.Y×Unit)=>
 cnd (!decide (a0=r1.1)) (obL [.rc 1] (c 31 [yT ([116]:List UInt8)]) fun(r2:G.Y×Unit)=>
 k1 (!decide (a0=r2.1))) (k1 false)) (k1 false)
def V108x0(n:Nt):G.Y→Rt:=fun x0=>n [yR 1 x0]
def B108x1(c:TC0)(a2:Bool):Rt:=
 some [yB a2]
def V108x1(n:Nt):Bool→Rt:=fun x0=>n [yB x0]
def aIq:=V108x1 (xD aAM e [1,1,0] aBo (q108x0 c e))
theorem s108x0:V108x0 (xF aAM c e)=B108x0 c (aIq c e):=by kernel_rfl
theorem s108x1:V108x1 (xA aAM c e [1,1,0] aBo (q108x0 c e))=B108x1 c:=by kernel_rfl
def J108x1(c:TC0)(L:Nat):Bool→Rt:=B108x1 c
theorem j108x1:aIq c (cu c L)=J108x1 c L:=by rw[aIq,aN,s108x1];rfl
def F108(c:TC0)(L:Nat):G.Y→Rt:=B108x0 c (J108x1 c L)
theorem e108:V108x0 (xF aAM c (cu c L))=F108 c L:=by rw[s108x0];simp only[j108x1];rfl
theorem c108(a0:G.Y)(L n:Nat):CTp L (n+1) 108 [yR 1 a0]=F108 (CTp L n) L a0:=by rw[←e108];exact cg (x:=aAM) (by kernel_rfl) (by kernel_rfl) L n _
def q113x0(c:TC0)(e:Cu):Kt:=xK oU
def q113x1(c:TC0)(e:Cu):Kt:=xT oU c e [1,1] (q113x0 c e)
def aCx(c:TC0)(e:Cu):Kt:=cN U0 0 (q113x1 c e)
def q113x3(c:TC0)(e:Cu)(n1:Nt):Kt:=lpK U0 nQ n1 (aCx c e)
def q113x4(c:TC0)(e:Cu)(n1:Nt):Kt:=xT oU c e [1,0,1,0,0,1,1] (q113x3 c e n1)
def q113x5(c:TC0)(e:Cu)(n1:Nt):Kt:=cN U0 1 (q113x4 c e n1)
def B113x0(c:TC0)(e1:List G.E→Int→G.Y→G.M→Rt)(a0:List G.E)(a1:G.Y):Rt:=
 e1 a0 (0:Int) a1 (G.M.mk (G.Y.mk ([]:List UInt8) ([]:List UInt8)) ([]:List G.Y) false (G.T.mk (0:Int) (G.Y.mk ([]:List UInt8) ([]:List UInt8)) (G.O.mk (0:Int) ([]:List UInt8) ([]:List UInt8) (G.Y.mk ([]:List UInt8) ([]:List UInt8)) ([]:List UInt8) ([]:List G.O)) ([]:List G.T)))
def V113x0(n:Nt):List G.E→G.Y→Rt:=fun x0 x1=>n [yS 16 x0,yR 1 x1]
def B113x1(c:TC0)(k2:Bool→Int→List G.E→G.Y→G.M→Rt)(a0:List G.E)(a6:Int)(b103:G.Y)(b104:G.M):Rt:=
 cnd (decide (a6<(List.length a0:Int))) (ob (idx a0 a6) fun v0=>
 cnd (decide (v0.kind=(2:Int))) (ob (idx a0 a6) fun v1=>
 k2 (decide (v1.mac.name=b103)) a6 a0 b103 b104) (k2 false a6 a0 b103 b104)) (some [yR 10 (G.M.mk (G.Y.mk ([]:List UInt8) ([]:List UInt8)) ([]:List G.Y) false (G.T.mk (0:Int) (G.Y.mk ([]:List UInt8) ([]:List UInt8)) (G.O.mk (0:Int) ([]:List UInt8) ([]:List UInt8) (G.Y.mk ([]:List UInt8) ([]:List UInt8)) ([]:List UInt8) ([]:List G.O)) ([]:List G.T))),yB false])
def zT(n:Nt):List G.E→Int→G.Y→G.M→Rt:=fun x0 x1 x2 x3=>n [yS 16 x0,yI x1,yR 1 x2,yR 10 x3]
def X113x1:=zT (xE oU e [1,0,1,0,0] nQ (aCx c e))
def B113x2(c:TC0)(n1:List G.E→Int→G.Y→G.M→Rt)(a28:Bool)(a6:Int)(a0:List G.E)(b103:G.Y)(b104:G.M):Rt:=
 cnd a28 (ob (idx a0 a6) fun v0=>
 some [yR 10 v0.mac,yB true]) (n1 a0 (IntKind.i64.wrap (a6+(1:Int))) b103 b104)
def V113x2(n:Nt):Bool→Int→List G.E→G.Y→G.M→Rt:=fun x0 x1 x2 x3 x4=>n [yB x0,yI x1,yS 16 x2,yR 1 x3,yR 10 x4]
def aIp(n1:Nt):=V113x2 (xD oU e [1,0,1,0,0,1,0,0,1,0] aBn (q113x5 c e n1))
theorem s113x0:V113x0 (xF oU c e)=B113x0 c (X113x1 c e):=by kernel_rfl
theorem s113x1(n1:Nt):zT (xA oU c e [1,0,1,0,0] nQ (lpK U0 nQ n1 (aCx c e)))=B113x1 c (aIp c e n1):=by kernel_rfl
theorem s113x2(n1:Nt):V113x2 (xA oU c e [1,0,1,0,0,1,0,0,1,0] aBn (q113x5 c e n1))=B113x2 c (zT n1):=by kernel_rfl
def J113x2(c:TC0)(L:Nat)(n1:List G.E→Int→G.Y→G.M→Rt):Bool→Int→List G.E→G.Y→G.M→Rt:=B113x2 c n1
theorem j113x2(n1:Nt):aIp c (cu c L) n1=J113x2 c L (zT n1):=by rw[aIp,aN,s113x2];rfl
def aDX(c:TC0)(L:Nat):Nat→List G.E→Int→G.Y→G.M→Rt
 |0=>fun _ _ _ _=>none
 |n+1=>B113x1 c (J113x2 c L (aDX c L n))
theorem u113x1(n:Nat):zT (xL oU c L [1,0,1,0,0] nQ (aCx c (cu c L)) n)=aDX c L n:=by
 induction n with
 |zero=>rfl
 |succ n ih=>rw[eY,s113x1];simp only[j113x2,ih];rfl
theorem w113x1:X113x1 c (cu c L)=aDX c L L:=u113x1 c L L
def F113(c:TC0)(L:Nat):List G.E→G.Y→Rt:=B113x0 c (aDX c L L)
theorem e113:V113x0 (xF oU c (cu c L))=F113 c L:=by rw[s113x0];simp only[w113x1];rfl
theorem c113(a0:List G.E)(a1:G.Y)(L n:Nat):CTp L (n+1) 113 [yS 16 a0,yR 1 a1]=F113 (CTp L n) L a0 a1:=by rw[←e113];exact cg (x:=oU) (by kernel_rfl) (by kernel_rfl) L n _
def B117x0(c:TC0)(a0:G.T):Rt:=
 obL [i6] (c 143 [yR 3 a0,yI (3001:Int)]) fun(r0:Int×Unit)=>
 some [yI r0.1]
def V117x0(n:Nt):G.T→Rt:=fun x0=>n [yR 3 x0]
theorem s117x0:V117x0 (xF ii117 c e)=B117x0 c:=by kernel_rfl
def F117(c:TC0)(L:Nat):G.T→Rt:=B117x0 c
theorem e117:V117x0 (xF ii117 c (cu c L))=F117 c L:=s117x0 _ _
theorem c117(a0:G.T)(L n:Nat):CTp L (n+1) 117 [yR 3 a0]=F117 (CTp L n) L a0:=by rw[←e117];exact cg (x:=ii117) (by kernel_rfl) (by kernel_rfl) L n _
def B118x0(c:TC0)(a0:G.T):Rt:=
 obL [i6] (c 144 [yR 3 a0,yI (201:Int)]) fun(r0:Int×Unit)=>
 some [yI r0.1]
def V118x0(n:Nt):G.T→Rt:=fun x0=>n [yR 3 x0]
theorem s118x0:V118x0 (xF ii118 c e)=B118x0 c:=by kernel_rfl
def F118(c:TC0)(L:Nat):G.T→Rt:=B118x0 c
theorem e118:V118x0 (xF ii118 c (cu c L))=F118 c L:=s118x0 _ _
theorem c118(a0:G.T)(L n:Nat):CTp L (n+1) 118 [yR 3 a0]=F118 (CTp L n) L a0:=by rw[←e118];exact cg (x:=ii118) (by kernel_rfl) (by kernel_rfl) L n _
def q119x0(c:TC0)(e:Cu):Kt:=xK jG
def q119x1(c:TC0)(e:Cu):Kt:=xT jG c e [1,1,1] (q119x0 c e)
def sA(c:TC0)(e:Cu):Kt:=cN U0 0 (q119x1 c e)
def q119x3(c:TC0)(e:Cu):Kt:=xT jG c e [1,1,0,1,0,1,1,1,1,1,0,1] (sA c e)
def q119x4(c:TC0)(e:Cu):Kt:=xT jG c e [1,1,0,1,0,1,1,1,1,1,0,1,1] (sA c e)
def aFW(c:TC0)(e:Cu):Kt:=cN U0 1 (q119x4 c e)
def B119x0(c:TC0)(k1:Bool→Rt)(k2:Bool→Rt)(k3:Bool→G.T→Rt)(a0:G.T):Rt:=
 obL [.bool] (c 57 [yR 2 a0.value,yR 2 (G.O.mk (0:Int) ([]:List UInt8) ([]:List UInt8) (G.Y.mk ([]:List UInt8) ([]:List UInt8)) ([]:List UInt8) ([]:List G.O))]) fun(r0:Bool×Unit)=>
 cnd (decide (a0.kind=(1:Int))) (cnd r0.1 (obL [.bool] (c 108 [yR 1 a0.name]) fun(r1:Bool×Unit)=>
 cnd r1.1 (k1 (decide ((List.length a0.args:Int)=(0:Int)))) (k1 false)) (k1 false)) (cnd (decide (a0.kind=(2:Int))) (cnd (decide (a0.name=(G.Y.mk ([]:List UInt8) ([]:List UInt8)))) (obL [.bool] (c 145 [yR 2 a0.value]) fun(r2:Bool×Unit)=>
 cnd r2.1 (k2 (decide ((List.length a0.args:Int)=(0:Int)))) (k2 false)) (k2 false)) (cnd (decide (a0.kind=(3:Int))) (cnd (!r0.1) (k3 true a0) (obL [.bool] (c 139 [yR 1 a0.name]) fun(r3:Bool×Unit)=>
 cnd (!r3.1) (k3 true a0) (k3 (decide ((8:Int)<(List.length a0.args:Int))) a0))) (some [yB false])))
def V119x0(n:Nt):G.T→Rt:=fun x0=>n [yR 3 x0]
def B119x1(c:TC0)(a2:Bool):Rt:=
 some [yB a2]
def V119x1(n:Nt):Bool→Rt:=fun x0=>n [yB x0]
def aIo:=V119x1 (xD jG e [1,1,0,1,0,1,0,1,0] aBm (sA c e))
def B119x2(c:TC0)(a2:Bool):Rt:=
 some [yB a2]
def V119x2(n:Nt):Bool→Rt:=fun x0=>n [yB x0]
def aIn:=V119x2 (xD jG e [1,1,0,1,0,1,1,1,0,1,0] aBl (sA c e))
def B119x3(c:TC0)(e4:Int→G.T→Rt)(a57:Bool)(b101:G.T):Rt:=
 cnd a57 (some [yB false]) (e4 (0:Int) b101)
def V119x3(n:Nt):Bool→G.T→Rt:=fun x0 x1=>n [yB x0,yR 3 x1]
def aIm:=V119x3 (xD jG e [1,1,0,1,0,1,1,1,1,1,0,0,1,0] aBk (q119x3 c e))
def B119x4(c:TC0)(n4:Int→G.T→Rt)(a4:Int)(b101:G.T):Rt:=
 cnd (decide (a4<(List.length b101.args:Int))) (ob (idx b101.args a4) fun v0=>
 obL [.bool] (c 119 [yR 3 v0]) fun(r1:Bool×Unit)=>
 cnd (!r1.1) (some [yB false]) (n4 (IntKind.i64.wrap (a4+(1:Int))) b101)) (some [yB true])
def aD5(n:Nt):Int→G.T→Rt:=fun x0 x1=>n [yI x0,yR 3 x1]
def X119x4:=aD5 (xE jG e [1,1,0,1,0,1,1,1,1,1,0,1,0,1,0,0] qM (aFW c e))
theorem s119x0:V119x0 (xF jG c e)=B119x0 c (aIo c e) (aIn c e) (aIm c e):=by kernel_rfl
theorem s119x1:V119x1 (xA jG c e [1,1,0,1,0,1,0,1,0] aBm (sA c e))=B119x1 c:=by kernel_rfl
theorem s119x2:V119x2 (xA jG c e [1,1,0,1,0,1,1,1,0,1,0] aBl (sA c e))=B119x2 c:=by kernel_rfl
theorem s119x3:V119x3 (xA jG c e [1,1,0,1,0,1,1,1,1,1,0,0,1,0] aBk (q119x3 c e))=B119x3 c (X119x4 c e):=by kernel_rfl
theorem s119x4(n4:Nt):aD5 (xA jG c e [1,1,0,1,0,1,1,1,1,1,0,1,0,1,0,0] qM (lpK U0 qM n4 (aFW c e)))=B119x4 c (aD5 n4):=by kernel_rfl
def J119x1(c:TC0)(L:Nat):Bool→Rt:=B119x1 c
theorem j119x1:aIo c (cu c L)=J119x1 c L:=by rw[aIo,aN,s119x1];rfl
def J119x2(c:TC0)(L:Nat):Bool→Rt:=B119x2 c
theorem j119x2:aIn c (cu c L)=J119x2 c L:=by rw[aIn,aN,s119x2];rfl
def aDW(c:TC0)(L:Nat):Nat→Int→G.T→Rt
 |0=>fun _ _=>none
 |n+1=>B119x4 c (aDW c L n)
theorem u119x4(n:Nat):aD5 (xL jG c L [1,1,0,1,0,1,1,1,1,1,0,1,0,1,0,0] qM (aFW c (cu c L)) n)=aDW c L n:=by
 induction n with
 |zero=>rfl
 |succ n ih=>rw[eY,s119x4];simp only[ih];rfl
theorem w119x4:X119x4 c (cu c L)=aDW c L L:=u119x4 c L L
def J119x3(c:TC0)(L:Nat):Bool→G.T→Rt:=B119x3 c (aDW c L L)
theorem j119x3:aIm c (cu c L)=J119x3 c L:=by rw[aIm,aN,s119x3];simp only[w119x4];rfl
def F119(c:TC0)(L:Nat):G.T→Rt:=B119x0 c (J119x1 c L) (J119x2 c L) (J119x3 c L)
theorem e119:V119x0 (xF jG c (cu c L))=F119 c L:=by rw[s119x0];simp only[j119x1,j119x2,j119x3];rfl
theorem c119(a0:G.T)(L n:Nat):CTp L (n+1) 119 [yR 3 a0]=F119 (CTp L n) L a0:=by rw[←e119];exact cg (x:=jG) (by kernel_rfl) (by kernel_rfl) L n _
def wI(c:TC0)(e:Cu):Kt:=xK gF
def q121x1(c:TC0)(e:Cu):Kt:=xT gF c e [1,1,1,1] (wI c e)
def q121x2(c:TC0)(e:Cu):Kt:=xT gF c e [1,1,1,1,0,1] (wI c e)
def q121x3(c:TC0)(e:Cu):Kt:=xT gF c e [1,1,1,1,0,1,1] (wI c e)
def aCw(c:TC0)(e:Cu):Kt:=cN U0 0 (q121x3 c e)
def q121x5(c:TC0)(e:Cu)(n4:Nt):Kt:=lpK U0 nP n4 (aCw c e)
def q121x6(c:TC0)(e:Cu)(n4:Nt):Kt:=xT gF c e [1,1,1,1,0,1,0,1,0,0,1,1] (q121x5 c e n4)
def q121x7(c:TC0)(e:Cu)(n4:Nt):Kt:=cN U0 1 (q121x6 c e n4)
def B121x0(c:TC0)(k1:Bool→Int→List UInt8→Rt)(a0:List UInt8):Rt:=
 cnd (decide (a0=([48]:List UInt8))) (some [yB true]) (cnd (decide ((0:Int)<(List.length a0:Int))) (ob (idx a0 (0:Int)) fun v0=>
 k1 (decide ((v0.toNat:Int)=(45:Int))) (0:Int) a0) (k1 false (0:Int) a0))
def V121x0(n:Nt):List UInt8→Rt:=fun x0=>n [yT x0]
def B121x1(c:TC0)(k2:Int→List UInt8→Rt)(a14:Bool)(a3:Int)(a0:List UInt8):Rt:=
 cnd a14 (k2 (1:Int) a0) (k2 a3 a0)
def V121x1(n:Nt):Bool→Int→List UInt8→Rt:=fun x0 x1 x2=>n [yB x0,yI x1,yT x2]
def aIl:=V121x1 (xD gF e [1,1,1,0,1,0] aBj (q121x1 c e))
def B121x2(c:TC0)(k3:Bool→Int→List UInt8→Rt)(a3:Int)(a0:List UInt8):Rt:=
 cnd (decide ((List.length a0:Int)≤a3)) (k3 true a3 a0) (ob (idx a0 a3) fun v0=>
 k3 (decide ((v0.toNat:Int)=(48:Int))) a3 a0)
def V121x2(n:Nt):Int→List UInt8→Rt:=fun x0 x1=>n [yI x0,yT x1]
def aIk:=V121x2 (xD gF e [1,1,1,1,0] aBi (wI c e))
def B121x3(c:TC0)(e4:List UInt8→Int→Rt)(a24:Bool)(a3:Int)(a0:List UInt8):Rt:=
 cnd a24 (some [yB false]) (e4 a0 a3)
def V121x3(n:Nt):Bool→Int→List UInt8→Rt:=fun x0 x1 x2=>n [yB x0,yI x1,yT x2]
def aIj:=V121x3 (xD gF e [1,1,1,1,0,0,1,0] aBh (q121x2 c e))
def B121x4(c:TC0)(k5:Bool→Int→List UInt8→Rt)(a0:List UInt8)(a4:Int):Rt:=
 cnd (decide (a4<(List.length a0:Int))) (ob (idx a0 a4) fun v0=>
 cnd (decide ((v0.toNat:Int)<(48:Int))) (k5 true a4 a0) (ob (idx a0 a4) fun v1=>
 k5 (decide ((57:Int)<(v1.toNat:Int))) a4 a0)) (some [yB true])
def zR(n:Nt):List UInt8→Int→Rt:=fun x0 x1=>n [yT x0,yI x1]
def X121x4:=zR (xE gF e [1,1,1,1,0,1,0,1,0,0] nP (aCw c e))
def B121x5(c:TC0)(n4:List UInt8→Int→Rt)(a41:Bool)(a4:Int)(a0:List UInt8):Rt:=
 cnd a41 (some [yB false]) (n4 a0 (IntKind.i64.wrap (a4+(1:Int))))
def V121x5(n:Nt):Bool→Int→List UInt8→Rt:=fun x0 x1 x2=>n [yB x0,yI x1,yT x2]
def aIi(n4:Nt):=V121x5 (xD gF e [1,1,1,1,0,1,0,1,0,0,1,0,0,1,0] aBg (q121x7 c e n4))
theorem s121x0:V121x0 (xF gF c e)=B121x0 c (aIl c e):=by kernel_rfl
theorem s121x1:V121x1 (xA gF c e [1,1,1,0,1,0] aBj (q121x1 c e))=B121x1 c (aIk c e):=by kernel_rfl
theorem s121x2:V121x2 (xA gF c e [1,1,1,1,0] aBi (wI c e))=B121x2 c (aIj c e):=by kernel_rfl
theorem s121x3:V121x3 (xA gF c e [1,1,1,1,0,0,1,0] aBh (q121x2 c e))=B121x3 c (X121x4 c e):=by kernel_rfl
theorem s121x4(n4:Nt):zR (xA gF c e [1,1,1,1,0,1,0,1,0,0] nP (lpK U0 nP n4 (aCw c e)))=B121x4 c (aIi c e n4):=by kernel_rfl
theorem s121x5(n4:Nt):V121x5 (xA gF c e [1,1,1,1,0,1,0,1,0,0,1,0,0,1,0] aBg (q121x7 c e n4))=B121x5 c (zR n4):=by kernel_rfl
def J121x5(c:TC0)(L:Nat)(n4:List UInt8→Int→Rt):Bool→Int→List UInt8→Rt:=B121x5 c n4
theorem j121x5(n4:Nt):aIi c (cu c L) n4=J121x5 c L (zR n4):=by rw[aIi,aN,s121x5];rfl
def aDV(c:TC0)(L:Nat):Nat→List UInt8→Int→Rt
 |0=>fun _ _=>none
 |n+1=>B121x4 c (J121x5 c L (aDV c L n))
theorem u121x4(n:Nat):zR (xL gF c L [1,1,1,1,0,1,0,1,0,0] nP (aCw c (cu c L)) n)=aDV c L n:=by
 induction n with
 |zero=>rfl
 |succ n ih=>rw[eY,s121x4];simp only[j121x5,ih];rfl
theorem w121x4:X121x4 c (cu c L)=aDV c L L:=u121x4 c L L
def J121x3(c:TC0)(L:Nat):Bool→Int→List UInt8→Rt:=B121x3 c (aDV c L L)
theorem j121x3:aIj c (cu c L)=J121x3 c L:=by rw[aIj,aN,s121x3];simp only[w121x4];rfl
def J121x2(c:TC0)(L:Nat):Int→List UInt8→Rt:=B121x2 c (J121x3 c L)
theorem j121x2:aIk c (cu c L)=J121x2 c L:=by rw[aIk,aN,s121x2];simp only[j121x3];rfl
def J121x1(c:TC0)(L:Nat):Bool→Int→List UInt8→Rt:=B121x1 c (J121x2 c L)
theorem j121x1:aIl c (cu c L)=J121x1 c L:=by rw[aIl,aN,s121x1];simp only[j121x2];rfl
def F121(c:TC0)(L:Nat):List UInt8→Rt:=B121x0 c (J121x1 c L)
theorem e121:V121x0 (xF gF c (cu c L))=F121 c L:=by rw[s121x0];simp only[j121x1];rfl
theorem c121(a0:List UInt8)(L n:Nat):CTp L (n+1) 121 [yT a0]=F121 (CTp L n) L a0:=by rw[←e121];exact cg (x:=gF) (by kernel_rfl) (by kernel_rfl) L n _
end
end Go.TV
namespace Go.TV
open Go.AI Go.PI Go.Proofs
set_option maxRecDepth 20000
noncomputable section
variable(c:TC0)(e:Cu)(L:Nat)
def q122x0(c:TC0)(e:Cu):Kt:=xK oT
def q122x1(c:TC0)(e:Cu):Kt:=xT oT c e [1,1,1] (q122x0 c e)
def aCv(c:TC0)(e:Cu):Kt:=cN U0 0 (q122x1 c e)
def q122x3(c:TC0)(e:Cu)(n1:Nt):Kt:=lpK U0 nN n1 (aCv c e)
def q122x4(c:TC0)(e:Cu)(n1:Nt):Kt:=xT oT c e [1,1,0,0,0,1] (q122x3 c e n1)
def B122x0(c:TC0)(e1:List Int→Int→Rt)(a0:List Int):Rt:=
 e1 a0 (List.length a0:Int)
def V122x0(n:Nt):List Int→Rt:=fun x0=>n [⟨.sl i6,x0⟩]
def B122x1(c:TC0)(k2:Bool→List Int→Int→Rt)(a0:List Int)(a3:Int):Rt:=
 cnd (decide ((0:Int)<a3)) (ob (idx a0 (IntKind.i64.wrap (a3-(1:Int)))) fun v0=>
 k2 (decide (v0=(0:Int))) a0 a3) (k2 false a0 a3)
def zQ(n:Nt):List Int→Int→Rt:=fun x0 x1=>n [⟨.sl i6,x0⟩,yI x1]
def X122x1:=zQ (xE oT e [1,1,0,0,0] nN (aCv c e))
def B122x2(c:TC0)(n1:List Int→Int→Rt)(a15:Bool)(a0:List Int)(a3:Int):Rt:=
 cnd a15 (n1 a0 (IntKind.i64.wrap (a3-(1:Int)))) (ob (slc a0 (0:Int) a3) fun v0=>
 some [⟨.sl i6,v0⟩])
def V122x2(n:Nt):Bool→List Int→Int→Rt:=fun x0 x1 x2=>n [yB x0,⟨.sl i6,x1⟩,yI x2]
def aIh(n1:Nt):=V122x2 (xD oT e [1,1,0,0,0,0,1,0] aBf (q122x4 c e n1))
theorem s122x0:V122x0 (xF oT c e)=B122x0 c (X122x1 c e):=by kernel_rfl
theorem s122x1(n1:Nt):zQ (xA oT c e [1,1,0,0,0] nN (lpK U0 nN n1 (aCv c e)))=B122x1 c (aIh c e n1):=by kernel_rfl
theorem s122x2(n1:Nt):V122x2 (xA oT c e [1,1,0,0,0,0,1,0] aBf (q122x4 c e n1))=B122x2 c (zQ n1):=by kernel_rfl
def J122x2(c:TC0)(L:Nat)(n1:List Int→Int→Rt):Bool→List Int→Int→Rt:=B122x2 c n1
theorem j122x2(n1:Nt):aIh c (cu c L) n1=J122x2 c L (zQ n1):=by rw[aIh,aN,s122x2];rfl
def aDU(c:TC0)(L:Nat):Nat→List Int→Int→Rt
 |0=>fun _ _=>none
 |n+1=>B122x1 c (J122x2 c L (aDU c L n))
theorem u122x1(n:Nat):zQ (xL oT c L [1,1,0,0,0] nN (aCv c (cu c L)) n)=aDU c L n:=by
 induction n with
 |zero=>rfl
 |succ n ih=>rw[eY,s122x1];simp only[j122x2,ih];rfl
theorem w122x1:X122x1 c (cu c L)=aDU c L L:=u122x1 c L L
def F122(c:TC0)(L:Nat):List Int→Rt:=B122x0 c (aDU c L L)
theorem e122:V122x0 (xF oT c (cu c L))=F122 c L:=by rw[s122x0];simp only[w122x1];rfl
theorem c122(a0:List Int)(L n:Nat):CTp L (n+1) 122 [⟨.sl i6,a0⟩]=F122 (CTp L n) L a0:=by rw[←e122];exact cg (x:=oT) (by kernel_rfl) (by kernel_rfl) L n _
def q123x0(c:TC0)(e:Cu):Kt:=xK uP
def q123x1(c:TC0)(e:Cu):Kt:=xT uP c e [1,1,1] (q123x0 c e)
def aFV(c:TC0)(e:Cu):Kt:=cN U0 0 (q123x1 c e)
def B123x0(c:TC0)(e1:List Int→List Int→Int→Rt)(a0:List Int)(a1:List Int):Rt:=
 cnd (!decide ((List.length a0:Int)=(List.length a1:Int))) (cnd (decide ((List.length a0:Int)<(List.length a1:Int))) (some [yI (-1:Int)]) (some [yI (1:Int)])) (e1 a0 a1 (IntKind.i64.wrap ((List.length a0:Int)-(1:Int))))
def V123x0(n:Nt):List Int→List Int→Rt:=fun x0 x1=>n [⟨.sl i6,x0⟩,⟨.sl i6,x1⟩]
def B123x1(c:TC0)(n1:List Int→List Int→Int→Rt)(a0:List Int)(a1:List Int)(a5:Int):Rt:=
 cnd (decide ((0:Int)≤a5)) (ob (idx a0 a5) fun v0=>
 ob (idx a1 a5) fun v1=>
 cnd (decide (v0<v1)) (some [yI (-1:Int)]) (ob (idx a0 a5) fun v2=>
 ob (idx a1 a5) fun v3=>
 cnd (decide (v3<v2)) (some [yI (1:Int)]) (n1 a0 a1 (IntKind.i64.wrap (a5-(1:Int)))))) (some [yI (0:Int)])
def aD4(n:Nt):List Int→List Int→Int→Rt:=fun x0 x1 x2=>n [⟨.sl i6,x0⟩,⟨.sl i6,x1⟩,yI x2]
def X123x1:=aD4 (xE uP e [1,1,0,1,0,0] qL (aFV c e))
theorem s123x0:V123x0 (xF uP c e)=B123x0 c (X123x1 c e):=by kernel_rfl
theorem s123x1(n1:Nt):aD4 (xA uP c e [1,1,0,1,0,0] qL (lpK U0 qL n1 (aFV c e)))=B123x1 c (aD4 n1):=by kernel_rfl
def aDT(c:TC0)(L:Nat):Nat→List Int→List Int→Int→Rt
 |0=>fun _ _ _=>none
 |n+1=>B123x1 c (aDT c L n)
theorem u123x1(n:Nat):aD4 (xL uP c L [1,1,0,1,0,0] qL (aFV c (cu c L)) n)=aDT c L n:=by
 induction n with
 |zero=>rfl
 |succ n ih=>rw[eY,s123x1];simp only[ih];rfl
theorem w123x1:X123x1 c (cu c L)=aDT c L L:=u123x1 c L L
def F123(c:TC0)(L:Nat):List Int→List Int→Rt:=B123x0 c (aDT c L L)
theorem e123:V123x0 (xF uP c (cu c L))=F123 c L:=by rw[s123x0];simp only[w123x1];rfl
theorem c123(a0:List Int)(a1:List Int)(L n:Nat):CTp L (n+1) 123 [⟨.sl i6,a0⟩,⟨.sl i6,a1⟩]=F123 (CTp L n) L a0 a1:=by rw[←e123];exact cg (x:=uP) (by kernel_rfl) (by kernel_rfl) L n _
def B125x0(c:TC0)(a0:List UInt8)(a1:List UInt8):Rt:=
 cnd (decide (a0=([45,49,48]:List UInt8))) (cnd (decide (a1=([51]:List UInt8))) (some [yI (-1:Int)]) (none)) (cnd (decide (a0=([45,57]:List UInt8))) (cnd (decide (a1=([45,53]:List UInt8))) (some [yI (-1:Int)]) (none)) (cnd (decide (a0=([45,54]:List UInt8))) (cnd (decide (a1=([45,53]:List UInt8))) (some [yI (-1:Int)]) (cnd (decide (a1=([49]:List UInt8))) (some [yI (-1:Int)]) (none))) (cnd (decide (a0=([45,53]:List UInt8))) (cnd (decide (a1=([45,57]:List UInt8))) (some [yI (1:Int)]) (cnd (decide (a1=([45,54]:List UInt8))) (some [yI (1:Int)]) (cnd (decide (a1=([45,53]:List UInt8))) (some [yI (0:Int)]) (cnd (decide (a1=([45,51]:List UInt8))) (some [yI (-1:Int)]) (cnd (decide (a1=([48]:List UInt8))) (some [yI (-1:Int)]) (cnd (decide (a1=([51]:List UInt8))) (some [yI (-1:Int)]) (cnd (decide (a1=([54]:List UInt8))) (some [yI (-1:Int)]) (cnd (decide (a1=([57]:List UInt8))) (some [yI (-1:Int)]) (none))))))))) (cnd (decide (a0=([45,52]:List UInt8))) (cnd (decide (a1=([49]:List UInt8))) (some [yI (-1:Int)]) (none)) (cnd (decide (a0=([45,51]:List UInt8))) (cnd (decide (a1=([45,53]:List UInt8))) (some [yI (1:Int)]) (cnd (decide (a1=([45,51]:List UInt8))) (some [yI (0:Int)]) (cnd (decide (a1=([45,50]:List UInt8))) (some [yI (-1:Int)]) (cnd (decide (a1=([45,49]:List UInt8))) (some [yI (-1:Int)]) (cnd (decide (a1=([48]:List UInt8))) (some [yI (-1:Int)]) (cnd (decide (a1=([49]:List UInt8))) (some [yI (-1:Int)]) (cnd (decide (a1=([50]:List UInt8))) (some [yI (-1:Int)]) (cnd (decide (a1=([51]:List UInt8))) (some [yI (-1:Int)]) (none))))))))) (cnd (decide (a0=([45,50]:List UInt8))) (cnd (decide (a1=([45,51]:List UInt8))) (some [yI (1:Int)]) (cnd (decide (a1=([45,50]:List UInt8))) (some [yI (0:Int)]) (cnd (decide (a1=([45,49]:List UInt8))) (some [yI (-1:Int)]) (cnd (decide (a1=([48]:List UInt8))) (some [yI (-1:Int)]) (cnd (decide (a1=([49]:List UInt8))) (some [yI (-1:Int)]) (cnd (decide (a1=([50]:List UInt8))) (some [yI (-1:Int)]) (cnd (decide (a1=([51]:List UInt8))) (some [yI (-1:Int)]) (none)))))))) (cnd (decide (a0=([45,49]:List UInt8))) (cnd (decide (a1=([45,51]:List UInt8))) (some [yI (1:Int)]) (cnd (decide (a1=([45,50]:List UInt8))) (some [yI (1:Int)]) (cnd (decide (a1=([45,49]:List UInt8))) (some [yI (0:Int)]) (cnd (decide (a1=([48]:List UInt8))) (some [yI (-1:Int)]) (cnd (decide (a1=([49]:List UInt8))) (some [yI (-1:Int)]) (cnd (decide (a1=([50]:List UInt8))) (some [yI (-1:Int)]) (cnd (decide (a1=([51]:List UInt8))) (some [yI (-1:Int)]) (none)))))))) (cnd (decide (a0=([48]:List UInt8))) (cnd (decide (a1=([45,53]:List UInt8))) (some [yI (1:Int)]) (cnd (decide (a1=([45,51]:List UInt8))) (some [yI (1:Int)]) (cnd (decide (a1=([45,50]:List UInt8))) (some [yI (1:Int)]) (cnd (decide (a1=([45,49]:List UInt8))) (some [yI (1:Int)]) (cnd (decide (a1=([48]:List UInt8))) (some [yI (0:Int)]) (cnd (decide (a1=([49]:List UInt8))) (some [yI (-1:Int)]) (cnd (decide (a1=([50]:List UInt8))) (some [yI (-1:Int)]) (cnd (decide (a1=([51]:List UInt8))) (some [yI (-1:Int)]) (none))))))))) (cnd (decide (a0=([49]:List UInt8))) (cnd (decide (a1=([45,54]:List UInt8))) (some [yI (1:Int)]) (cnd (decide (a1=([45,52]:List UInt8))) (some [yI (1:Int)]) (cnd (decide (a1=([45,51]:List UInt8))) (some [yI (1:Int)]) (cnd (decide (a1=([45,50]:List UInt8))) (some [yI (1:Int)]) (cnd (decide (a1=([45,49]:List UInt8))) (some [yI (1:Int)]) (cnd (decide (a1=([48]:List UInt8))) (some [yI (1:Int)]) (cnd (decide (a1=([49]:List UInt8))) (some [yI (0:Int)]) (cnd (decide (a1=([50]:List UInt8))) (some [yI (-1:Int)]) (cnd (decide (a1=([51]:List UInt8))) (some [yI (-1:Int)]) (cnd (decide (a1=([52]:List UInt8))) (some [yI (-1:Int)]) (cnd (decide (a1=([54]:List UInt8))) (some [yI (-1:Int)]) (none)))))))))))) (cnd (decide (a0=([50]:List UInt8))) (cnd (decide (a1=([45,51]:List UInt8))) (some [yI (1:Int)]) (cnd (decide (a1=([45,50]:List UInt8))) (some [yI (1:Int)]) (cnd (decide (a1=([45,49]:List UInt8))) (some [yI (1:Int)]) (cnd (decide (a1=([48]:List UInt8))) (some [yI (1:Int)]) (cnd (decide (a1=([49]:List UInt8))) (some [yI (1:Int)]) (cnd (decide (a1=([50]:List UInt8))) (some [yI (0:Int)]) (cnd (decide (a1=([51]:List UInt8))) (some [yI (-1:Int)]) (none)))))))) (cnd (decide (a0=([51]:List UInt8))) (cnd (decide (a1=([45,49,48]:List UInt8))) (some [yI (1:Int)]) (cnd (decide (a1=([45,53]:List UInt8))) (some [yI (1:Int)]) (cnd (decide (a1=([45,51]:List UInt8))) (some [yI (1:Int)]) (cnd (decide (a1=([45,50]:List UInt8))) (some [yI (1:Int)]) (cnd (decide (a1=([45,49]:List UInt8))) (some [yI (1:Int)]) (cnd (decide (a1=([48]:List UInt8))) (some [yI (1:Int)]) (cnd (decide (a1=([49]:List UInt8))) (some [yI (1:Int)]) (cnd (decide (a1=([50]:List UInt8))) (some [yI (1:Int)]) (cnd (decide (a1=([51]:List UInt8))) (some [yI (0:Int)]) (none)))))))))) (cnd (decide (a0=([52]:List UInt8))) (cnd (decide (a1=([49]:List UInt8))) (some [yI (1:Int)]) (none)) (cnd (decide (a0=([54]:List UInt8))) (cnd (decide (a1=([45,53]:List UInt8))) (some [yI (1:Int)]) (cnd (decide (a1=([49]:List UInt8))) (some [yI (1:Int)]) (none))) (cnd (decide (a0=([57]:List UInt8))) (cnd (decide (a1=([45,53]:List UInt8))) (some [yI (1:Int)]) (none)) (none)))))))))))))))
def V125x0(n:Nt):List UInt8→List UInt8→Rt:=fun x0 x1=>n [yT x0,yT x1]
theorem s125x0:V125x0 (xF ii125 c e)=B125x0 c:=by kernel_rfl
def F125(c:TC0)(L:Nat):List UInt8→List UInt8→Rt:=B125x0 c
theorem e125:V125x0 (xF ii125 c (cu c L))=F125 c L:=s125x0 _ _
theorem c125(a0:List UInt8)(a1:List UInt8)(L n:Nat):CTp L (n+1) 125 [yT a0,yT a1]=F125 (CTp L n) L a0 a1:=by rw[←e125];exact cg (x:=ii125) (by kernel_rfl) (by kernel_rfl) L n _
def B126x0(c:TC0)(a0:List UInt8)(a1:List UInt8):Rt:=
 cnd (decide (a0=([45,53]:List UInt8))) (cnd (decide (a1=([49]:List UInt8))) (some [yT ([45,53]:List UInt8)]) (cnd (decide (a1=([50]:List UInt8))) (some [yT ([45,49,48]:List UInt8)]) (none))) (cnd (decide (a0=([45,51]:List UInt8))) (cnd (decide (a1=([50]:List UInt8))) (some [yT ([45,54]:List UInt8)]) (cnd (decide (a1=([51]:List UInt8))) (some [yT ([45,57]:List UInt8)]) (none))) (cnd (decide (a0=([45,50]:List UInt8))) (cnd (decide (a1=([50]:List UInt8))) (some [yT ([45,52]:List UInt8)]) (cnd (decide (a1=([51]:List UInt8))) (some [yT ([45,54]:List UInt8)]) (none))) (cnd (decide (a0=([45,49]:List UInt8))) (cnd (decide (a1=([50]:List UInt8))) (some [yT ([45,50]:List UInt8)]) (cnd (decide (a1=([51]:List UInt8))) (some [yT ([45,51]:List UInt8)]) (none))) (cnd (decide (a0=([48]:List UInt8))) (cnd (decide (a1=([50]:List UInt8))) (some [yT ([48]:List UInt8)]) (cnd (decide (a1=([51]:List UInt8))) (some [yT ([48]:List UInt8)]) (none))) (cnd (decide (a0=([49]:List UInt8))) (cnd (decide (a1=([49]:List UInt8))) (some [yT ([49]:List UInt8)]) (cnd (decide (a1=([50]:List UInt8))) (some [yT ([50]:List UInt8)]) (cnd (decide (a1=([51]:List UInt8))) (some [yT ([51]:List UInt8)]) (none)))) (cnd (decide (a0=([50]:List UInt8))) (cnd (decide (a1=([50]:List UInt8))) (some [yT ([52]:List UInt8)]) (cnd (decide (a1=([51]:List UInt8))) (some [yT ([54]:List UInt8)]) (none))) (cnd (decide (a0=([51]:List UInt8))) (cnd (decide (a1=([50]:List UInt8))) (some [yT ([54]:List UInt8)]) (cnd (decide (a1=([51]:List UInt8))) (some [yT ([57]:List UInt8)]) (none))) (none))))))))
def V126x0(n:Nt):List UInt8→List UInt8→Rt:=fun x0 x1=>n [yT x0,yT x1]
theorem s126x0:V126x0 (xF ii126 c e)=B126x0 c:=by kernel_rfl
def F126(c:TC0)(L:Nat):List UInt8→List UInt8→Rt:=B126x0 c
theorem e126:V126x0 (xF ii126 c (cu c L))=F126 c L:=s126x0 _ _
theorem c126(a0:List UInt8)(a1:List UInt8)(L n:Nat):CTp L (n+1) 126 [yT a0,yT a1]=F126 (CTp L n) L a0 a1:=by rw[←e126];exact cg (x:=ii126) (by kernel_rfl) (by kernel_rfl) L n _
def q127x0(c:TC0)(e:Cu):Kt:=xK hJ
def q127x1(c:TC0)(e:Cu):Kt:=xT hJ c e [1,1,1] (q127x0 c e)
def aCu(c:TC0)(e:Cu):Kt:=cN U0 0 (q127x1 c e)
def q127x3(c:TC0)(e:Cu)(n1:Nt):Kt:=lpK U0 nM n1 (aCu c e)
def q127x4(c:TC0)(e:Cu)(n1:Nt):Kt:=xT hJ c e [1,1,0,1,0,0,1,1] (q127x3 c e n1)
def q127x5(c:TC0)(e:Cu)(n1:Nt):Kt:=cN U0 1 (q127x4 c e n1)
def aCt(c:TC0)(e:Cu)(n1:Nt):Kt:=cN U0 2 (q127x5 c e n1)
def q127x7(c:TC0)(e:Cu)(n2:Nt)(n1:Nt):Kt:=lpK U0 nL n2 (aCt c e n1)
def q127x8(c:TC0)(e:Cu)(n2:Nt)(n1:Nt):Kt:=xT hJ c e [1,1,0,1,0,0,1,0,0,1,1,0,0,1] (q127x7 c e n2 n1)
def q127x9(c:TC0)(e:Cu)(n2:Nt)(n1:Nt):Kt:=xT hJ c e [1,1,0,1,0,0,1,0,0,1,1,0,0,1,1] (q127x7 c e n2 n1)
def aFU(c:TC0)(e:Cu)(n2:Nt)(n1:Nt):Kt:=cN U0 3 (q127x9 c e n2 n1)
def B127x0(c:TC0)(e1:List Int→List Int→Int→List Int→Rt)(a0:List Int)(a1:List Int):Rt:=
 chk (decide (0≤(IntKind.i64.wrap ((IntKind.i64.wrap ((List.length a0:Int)+(List.length a1:Int)))+(1:Int))))&&decide ((IntKind.i64.wrap ((IntKind.i64.wrap ((List.length a0:Int)+(List.length a1:Int)))+(1:Int)))≤(IntKind.i64.wrap ((IntKind.i64.wrap ((List.length a0:Int)+(List.length a1:Int)))+(1:Int))))&&decide ((IntKind.i64.wrap ((IntKind.i64.wrap ((List.length a0:Int)+(List.length a1:Int)))+(1:Int)))*(8:Int)≤1073741824)&&decide ((IntKind.i64.wrap ((IntKind.i64.wrap ((List.length a0:Int)+(List.length a1:Int)))+(1:Int)))≤1073741824))<|
 chk (decide ((IntKind.i64.wrap ((IntKind.i64.wrap ((List.length a0:Int)+(List.length a1:Int)))+(1:Int)))=(IntKind.i64.wrap ((IntKind.i64.wrap ((List.length a0:Int)+(List.length a1:Int)))+(1:Int)))))<|
 e1 a0 a1 (0:Int) (aEn (0:Int) (Int.toNat (IntKind.i64.wrap ((IntKind.i64.wrap ((List.length a0:Int)+(List.length a1:Int)))+(1:Int)))))
def V127x0(n:Nt):List Int→List Int→Rt:=fun x0 x1=>n [⟨.sl i6,x0⟩,⟨.sl i6,x1⟩]
def B127x1(c:TC0)(e2:Int→Int→Int→List Int→List Int→List Int→Rt)(a0:List Int)(a1:List Int)(a6:Int)(b116:List Int):Rt:=
 cnd (decide (a6<(List.length a0:Int))) (e2 (0:Int) (0:Int) a6 a0 a1 b116) (obL [.sl i6] (c 122 [⟨.sl i6,b116⟩]) fun(r0:List Int×Unit)=>
 some [⟨.sl i6,r0.1⟩])
def oL(n:Nt):List Int→List Int→Int→List Int→Rt:=fun x0 x1 x2 x3=>n [⟨.sl i6,x0⟩,⟨.sl i6,x1⟩,yI x2,⟨.sl i6,x3⟩]
def X127x1:=oL (xE hJ e [1,1,0,1,0,0] nM (aCu c e))
def B127x2(c:TC0)(k3:Bool→Int→Int→Int→List Int→List Int→List Int→Rt)(a7:Int)(a8:Int)(a6:Int)(a0:List Int)(a1:List Int)(b116:List Int):Rt:=
 cnd (decide (a8<(List.length a1:Int))) (k3 true a7 a8 a6 a0 a1 b116) (k3 (decide ((0:Int)<a7)) a7 a8 a6 a0 a1 b116)
def tE(n:Nt):Int→Int→Int→List Int→List Int→List Int→Rt:=fun x0 x1 x2 x3 x4 x5=>n [yI x0,yI x1,yI x2,⟨.sl i6,x3⟩,⟨.sl i6,x4⟩,⟨.sl i6,x5⟩]
def X127x2(n1:Nt):=tE (xE hJ e [1,1,0,1,0,0,1,0,0,1,1,0,0] nL (aCt c e n1))
def B127x3(c:TC0)(k4:Int→Int→Int→List Int→List Int→List Int→Rt)(n1:List Int→List Int→Int→List Int→Rt)(a30:Bool)(a7:Int)(a8:Int)(a6:Int)(a0:List Int)(a1:List Int)(b116:List Int):Rt:=
 cnd a30 (chk (aW (IntKind.i64.wrap (a6+a8)) (List.length b116))<|
 ob (idx b116 (IntKind.i64.wrap (a6+a8))) fun v0=>
 cnd (decide (a8<(List.length a1:Int))) (ob (idx a0 a6) fun v1=>
 ob (idx a1 a8) fun v2=>
 k4 (IntKind.i64.wrap ((IntKind.i64.wrap (v0+a7))+(IntKind.i64.wrap (v1*v2)))) a8 a6 a0 a1 b116) (k4 (IntKind.i64.wrap (v0+a7)) a8 a6 a0 a1 b116)) (n1 a0 a1 (IntKind.i64.wrap (a6+(1:Int))) b116)
def V127x3(n:Nt):Bool→Int→Int→Int→List Int→List Int→List Int→Rt:=fun x0 x1 x2 x3 x4 x5 x6=>n [yB x0,yI x1,yI x2,yI x3,⟨.sl i6,x4⟩,⟨.sl i6,x5⟩,⟨.sl i6,x6⟩]
def aIg(n2:Nt)(n1:Nt):=V127x3 (xD hJ e [1,1,0,1,0,0,1,0,0,1,1,0,0,0,1,0] aBe (q127x8 c e n2 n1))
def B127x4(c:TC0)(n2:Int→Int→Int→List Int→List Int→List Int→Rt)(a9:Int)(a8:Int)(a6:Int)(a0:List Int)(a1:List Int)(b116:List Int):Rt:=
 chk (!decide ((10:Int)=0))<|
 chk (aW (IntKind.i64.wrap (a6+a8)) (List.length b116))<|
 ob (idx b116 (IntKind.i64.wrap (a6+a8))) fun v0=>
 chk (!decide ((10:Int)=0))<|
 n2 (IntKind.i64.wrap (Int.tdiv a9 (10:Int))) (IntKind.i64.wrap (a8+(1:Int))) a6 a0 a1 (List.set b116 (Int.toNat (IntKind.i64.wrap (a6+a8))) (Int.tmod a9 (10:Int)))
def V127x4(n:Nt):Int→Int→Int→List Int→List Int→List Int→Rt:=fun x0 x1 x2 x3 x4 x5=>n [yI x0,yI x1,yI x2,⟨.sl i6,x3⟩,⟨.sl i6,x4⟩,⟨.sl i6,x5⟩]
def aIf(n2:Nt)(n1:Nt):=V127x4 (xD hJ e [1,1,0,1,0,0,1,0,0,1,1,0,0,1,0,0,1,1,0] aBd (aFU c e n2 n1))
theorem s127x0:V127x0 (xF hJ c e)=B127x0 c (X127x1 c e):=by kernel_rfl
theorem s127x1(n1:Nt):oL (xA hJ c e [1,1,0,1,0,0] nM (lpK U0 nM n1 (aCu c e)))=B127x1 c (X127x2 c e n1):=by kernel_rfl
theorem s127x2(n2:Nt)(n1:Nt):tE (xA hJ c e [1,1,0,1,0,0,1,0,0,1,1,0,0] nL (lpK U0 nL n2 (aCt c e n1)))=B127x2 c (aIg c e n2 n1):=by kernel_rfl
theorem s127x3(n2:Nt)(n1:Nt):V127x3 (xA hJ c e [1,1,0,1,0,0,1,0,0,1,1,0,0,0,1,0] aBe (q127x8 c e n2 n1))=B127x3 c (aIf c e n2 n1) (oL n1):=by kernel_rfl
theorem s127x4(n2:Nt)(n1:Nt):V127x4 (xA hJ c e [1,1,0,1,0,0,1,0,0,1,1,0,0,1,0,0,1,1,0] aBd (aFU c e n2 n1))=B127x4 c (tE n2):=by kernel_rfl
def J127x4(c:TC0)(L:Nat)(n2:Int→Int→Int→List Int→List Int→List Int→Rt)(n1:List Int→List Int→Int→List Int→Rt):Int→Int→Int→List Int→List Int→List Int→Rt:=B127x4 c n2
theorem j127x4(n2:Nt)(n1:Nt):aIf c (cu c L) n2 n1=J127x4 c L (tE n2) (oL n1):=by rw[aIf,aN,s127x4];rfl
def J127x3(c:TC0)(L:Nat)(n2:Int→Int→Int→List Int→List Int→List Int→Rt)(n1:List Int→List Int→Int→List Int→Rt):Bool→Int→Int→Int→List Int→List Int→List Int→Rt:=B127x3 c (J127x4 c L n2 n1) n1
theorem j127x3(n2:Nt)(n1:Nt):aIg c (cu c L) n2 n1=J127x3 c L (tE n2) (oL n1):=by rw[aIg,aN,s127x3];simp only[j127x4];rfl
def aDR(c:TC0)(L:Nat)(n1:List Int→List Int→Int→List Int→Rt):Nat→Int→Int→Int→List Int→List Int→List Int→Rt
 |0=>fun _ _ _ _ _ _=>none
 |n+1=>B127x2 c (J127x3 c L (aDR c L n1 n) n1)
theorem u127x2(n1:Nt)(n:Nat):tE (xL hJ c L [1,1,0,1,0,0,1,0,0,1,1,0,0] nL (aCt c (cu c L) n1) n)=aDR c L (oL n1) n:=by
 induction n with
 |zero=>rfl
 |succ n ih=>rw[eY,s127x2];simp only[j127x3,ih];rfl
theorem w127x2(n1:Nt):X127x2 c (cu c L) n1=aDR c L (oL n1) L:=u127x2 c L n1 L
def aDS(c:TC0)(L:Nat):Nat→List Int→List Int→Int→List Int→Rt
 |0=>fun _ _ _ _=>none
 |n+1=>B127x1 c (aDR c L (aDS c L n) L)
theorem u127x1(n:Nat):oL (xL hJ c L [1,1,0,1,0,0] nM (aCu c (cu c L)) n)=aDS c L n:=by
 induction n with
 |zero=>rfl
 |succ n ih=>rw[eY,s127x1];simp only[w127x2,ih];rfl
theorem w127x1:X127x1 c (cu c L)=aDS c L L:=u127x1 c L L
def F127(c:TC0)(L:Nat):List Int→List Int→Rt:=B127x0 c (aDS c L L)
theorem e127:V127x0 (xF hJ c (cu c L))=F127 c L:=by rw[s127x0];simp only[w127x1];rfl
theorem c127(a0:List Int)(a1:List Int)(L n:Nat):CTp L (n+1) 127 [⟨.sl i6,a0⟩,⟨.sl i6,a1⟩]=F127 (CTp L n) L a0 a1:=by rw[←e127];exact cg (x:=hJ) (by kernel_rfl) (by kernel_rfl) L n _
def q128x0(c:TC0)(e:Cu):Kt:=xK aAL
def aI7(c:TC0)(k1:Bool→Rt)(a0:Int):Rt:=
 cnd (decide (a0=(32:Int))) (k1 true) (cnd (decide (a0=(9:Int))) (k1 true) (cnd (decide (a0=(10:Int))) (k1 true) (k1 (decide (a0=(13:Int))))))
def V128x0(n:Nt):Int→Rt:=fun x0=>n [⟨(.int .u8),x0⟩]
def aI6(c:TC0)(a2:Bool):Rt:=
 some [yB a2]
def V128x1(n:Nt):Bool→Rt:=fun x0=>n [yB x0]
def aIe:=V128x1 (xD aAL e [1,1,0] aBc (q128x0 c e))
theorem s128x0:V128x0 (xF aAL c e)=aI7 c (aIe c e):=by kernel_rfl
theorem s128x1:V128x1 (xA aAL c e [1,1,0] aBc (q128x0 c e))=aI6 c:=by kernel_rfl
def aIO(c:TC0)(L:Nat):Bool→Rt:=aI6 c
theorem j128x1:aIe c (cu c L)=aIO c L:=by rw[aIe,aN,s128x1];rfl
def F128(c:TC0)(L:Nat):Int→Rt:=aI7 c (aIO c L)
theorem e128:V128x0 (xF aAL c (cu c L))=F128 c L:=by rw[s128x0];simp only[j128x1];rfl
theorem c128(a0:Int)(L n:Nat):CTp L (n+1) 128 [⟨(.int .u8),a0⟩]=F128 (CTp L n) L a0:=by rw[←e128];exact cg (x:=aAL) (by kernel_rfl) (by kernel_rfl) L n _
def q129x0(c:TC0)(e:Cu):Kt:=xK aAK
def aI5(c:TC0)(k1:Bool→Rt)(a0:List UInt8)(a1:Int)(a2:Int)(a3:Int):Rt:=
 cnd (decide ((0:Int)≤a1)) (cnd (decide ((IntKind.i64.wrap (a1+(1:Int)))<(List.length a0:Int))) (ob (idx a0 a1) fun v0=>
 cnd (decide ((v0.toNat:Int)=a2)) (ob (idx a0 (IntKind.i64.wrap (a1+(1:Int)))) fun v1=>
 k1 (decide ((v1.toNat:Int)=a3))) (k1 false)) (k1 false)) (k1 false)
def V129x0(n:Nt):List UInt8→Int→Int→Int→Rt:=fun x0 x1 x2 x3=>n [yT x0,yI x1,⟨(.int .u8),x2⟩,⟨(.int .u8),x3⟩]
def aI4(c:TC0)(a8:Bool):Rt:=
 some [yB a8]
def V129x1(n:Nt):Bool→Rt:=fun x0=>n [yB x0]
def aId:=V129x1 (xD aAK e [1,1,0] aBb (q129x0 c e))
theorem s129x0:V129x0 (xF aAK c e)=aI5 c (aId c e):=by kernel_rfl
theorem s129x1:V129x1 (xA aAK c e [1,1,0] aBb (q129x0 c e))=aI4 c:=by kernel_rfl
def aIN(c:TC0)(L:Nat):Bool→Rt:=aI4 c
theorem j129x1:aId c (cu c L)=aIN c L:=by rw[aId,aN,s129x1];rfl
def F129(c:TC0)(L:Nat):List UInt8→Int→Int→Int→Rt:=aI5 c (aIN c L)
theorem e129:V129x0 (xF aAK c (cu c L))=F129 c L:=by rw[s129x0];simp only[j129x1];rfl
theorem c129(a0:List UInt8)(a1:Int)(a2:Int)(a3:Int)(L n:Nat):CTp L (n+1) 129 [yT a0,yI a1,⟨(.int .u8),a2⟩,⟨(.int .u8),a3⟩]=F129 (CTp L n) L a0 a1 a2 a3:=by rw[←e129];exact cg (x:=aAK) (by kernel_rfl) (by kernel_rfl) L n _
def q131x0(c:TC0)(e:Cu):Kt:=xK xN
def q131x1(c:TC0)(e:Cu):Kt:=xT xN c e [1,1] (q131x0 c e)
def q131x2(c:TC0)(e:Cu):Kt:=cN U0 0 (q131x1 c e)
def aI3(c:TC0)(k1:Bool→G.K→G.X→Rt)(a0:G.K)(a1:Bool):Rt:=
 cnd (decide ((40:Int)<(List.length a0.text:Int))) (obL [.rc 20] (c 82 [yI (2:Int),yI a0.pos]) fun(r0:G.X×Unit)=>
 some [yR 20 r0.1]) (cnd a1 (cnd (decide (a0.text=([]:List UInt8))) (k1 true a0 (G.X.mk (0:Int) (0:Int))) (cnd (!decide (a0.package=([]:List UInt8))) (obL [.bool] (c 147 [yT a0.package]) fun(r1:Bool×Unit)=>
 k1 (!r1.1) a0 (G.X.mk (0:Int) (0:Int))) (k1 false a0 (G.X.mk (0:Int) (0:Int))))) (cnd (!decide (a0.package=([]:List UInt8))) (obL [.bool] (c 147 [yT a0.package]) fun(r2:Bool×Unit)=>
 k1 (!r2.1) a0 (G.X.mk (0:Int) (0:Int))) (k1 false a0 (G.X.mk (0:Int) (0:Int)))))
def V131x0(n:Nt):G.K→Bool→Rt:=fun x0 x1=>n [yR 22 x0,yB x1]
def B131x1(c:TC0)(a13:Bool)(b102:G.K)(b104:G.X):Rt:=
 cnd a13 (obL [.rc 20] (c 82 [yI (3:Int),yI b102.pos]) fun(r0:G.X×Unit)=>
 some [yR 20 r0.1]) (some [yR 20 (G.X.mk (0:Int) (0:Int))])
def V131x1(n:Nt):Bool→G.K→G.X→Rt:=fun x0 x1 x2=>n [yB x0,yR 22 x1,yR 20 x2]
def aIc:=V131x1 (xD xN e [1,0,0,1,1,1,0] aBa (q131x2 c e))
theorem s131x0:V131x0 (xF xN c e)=aI3 c (aIc c e):=by kernel_rfl
theorem s131x1:V131x1 (xA xN c e [1,0,0,1,1,1,0] aBa (q131x2 c e))=B131x1 c:=by kernel_rfl
def J131x1(c:TC0)(L:Nat):Bool→G.K→G.X→Rt:=B131x1 c
theorem j131x1:aIc c (cu c L)=J131x1 c L:=by rw[aIc,aN,s131x1];rfl
def F131(c:TC0)(L:Nat):G.K→Bool→Rt:=aI3 c (J131x1 c L)
theorem e131:V131x0 (xF xN c (cu c L))=F131 c L:=by rw[s131x0];simp only[j131x1];rfl
theorem c131(a0:G.K)(a1:Bool)(L n:Nat):CTp L (n+1) 131 [yR 22 a0,yB a1]=F131 (CTp L n) L a0 a1:=by rw[←e131];exact cg (x:=xN) (by kernel_rfl) (by kernel_rfl) L n _
def q132x0(c:TC0)(e:Cu):Kt:=xK aAJ
def aI2(c:TC0)(k1:Bool→Rt)(a0:Int):Rt:=
 cnd (decide ((33:Int)≤a0)) (cnd (decide (a0≤(126:Int))) (cnd (!decide (a0=(40:Int))) (cnd (!decide (a0=(41:Int))) (cnd (!decide (a0=(39:Int))) (cnd (!decide (a0=(34:Int))) (cnd (!decide (a0=(59:Int))) (cnd (!decide (a0=(124:Int))) (k1 (!decide (a0=(58:Int)))) (k1 false)) (k1 false)) (k1 false)) (k1 false)) (k1 false)) (k1 false)) (k1 false)) (k1 false)
def V132x0(n:Nt):Int→Rt:=fun x0=>n [⟨(.int .u8),x0⟩]
def aI1(c:TC0)(a2:Bool):Rt:=
 some [yB a2]
def V132x1(n:Nt):Bool→Rt:=fun x0=>n [yB x0]
def aIb:=V132x1 (xD aAJ e [1,1,0] aA9 (q132x0 c e))
theorem s132x0:V132x0 (xF aAJ c e)=aI2 c (aIb c e):=by kernel_rfl
theorem s132x1:V132x1 (xA aAJ c e [1,1,0] aA9 (q132x0 c e))=aI1 c:=by kernel_rfl
def aIM(c:TC0)(L:Nat):Bool→Rt:=aI1 c
theorem j132x1:aIb c (cu c L)=aIM c L:=by rw[aIb,aN,s132x1];rfl
def F132(c:TC0)(L:Nat):Int→Rt:=aI2 c (aIM c L)
theorem e132:V132x0 (xF aAJ c (cu c L))=F132 c L:=by rw[s132x0];simp only[j132x1];rfl
theorem c132(a0:Int)(L n:Nat):CTp L (n+1) 132 [⟨(.int .u8),a0⟩]=F132 (CTp L n) L a0:=by rw[←e132];exact cg (x:=aAJ) (by kernel_rfl) (by kernel_rfl) L n _
def q133x0(c:TC0)(e:Cu):Kt:=xK oR
def q133x1(c:TC0)(e:Cu):Kt:=xT oR c e [1,1] (q133x0 c e)
def aCs(c:TC0)(e:Cu):Kt:=cN U0 0 (q133x1 c e)
def q133x3(c:TC0)(e:Cu)(n1:Nt):Kt:=lpK U0 nK n1 (aCs c e)
def q133x4(c:TC0)(e:Cu)(n1:Nt):Kt:=xT oR c e [1,0,0,0,1] (q133x3 c e n1)
def aI0(c:TC0)(e1:List UInt8→Int→Rt)(a0:List UInt8)(a1:Int):Rt:=
 e1 a0 a1
def V133x0(n:Nt):List UInt8→Int→Rt:=fun x0 x1=>n [yT x0,yI x1]
def aEb(c:TC0)(k2:Bool→List UInt8→Int→Rt)(a0:List UInt8)(a1:Int):Rt:=
 cnd (decide (a1<(List.length a0:Int))) (ob (idx a0 a1) fun v0=>
 obL [.bool] (c 132 [⟨(.int .u8),(v0.toNat:Int)⟩]) fun(r1:Bool×Unit)=>
 k2 r1.1 a0 a1) (k2 false a0 a1)
def zP(n:Nt):List UInt8→Int→Rt:=fun x0 x1=>n [yT x0,yI x1]
def X133x1:=zP (xE oR e [1,0,0,0] nK (aCs c e))
def aAa(c:TC0)(n1:List UInt8→Int→Rt)(a14:Bool)(a0:List UInt8)(a1:Int):Rt:=
 cnd a14 (n1 a0 (IntKind.i64.wrap (a1+(1:Int)))) (some [yI a1])
def V133x2(n:Nt):Bool→List UInt8→Int→Rt:=fun x0 x1 x2=>n [yB x0,yT x1,yI x2]
def aIa(n1:Nt):=V133x2 (xD oR e [1,0,0,0,0,1,0] aA8 (q133x4 c e n1))
theorem s133x0:V133x0 (xF oR c e)=aI0 c (X133x1 c e):=by kernel_rfl
theorem s133x1(n1:Nt):zP (xA oR c e [1,0,0,0] nK (lpK U0 nK n1 (aCs c e)))=aEb c (aIa c e n1):=by kernel_rfl
theorem s133x2(n1:Nt):V133x2 (xA oR c e [1,0,0,0,0,1,0] aA8 (q133x4 c e n1))=aAa c (zP n1):=by kernel_rfl
def zW(c:TC0)(L:Nat)(n1:List UInt8→Int→Rt):Bool→List UInt8→Int→Rt:=aAa c n1
theorem j133x2(n1:Nt):aIa c (cu c L) n1=zW c L (zP n1):=by rw[aIa,aN,s133x2];rfl
def rB(c:TC0)(L:Nat):Nat→List UInt8→Int→Rt
 |0=>fun _ _=>none
 |n+1=>aEb c (zW c L (rB c L n))
theorem u133x1(n:Nat):zP (xL oR c L [1,0,0,0] nK (aCs c (cu c L)) n)=rB c L n:=by
 induction n with
 |zero=>rfl
 |succ n ih=>rw[eY,s133x1];simp only[j133x2,ih];rfl
theorem w133x1:X133x1 c (cu c L)=rB c L L:=u133x1 c L L
def F133(c:TC0)(L:Nat):List UInt8→Int→Rt:=aI0 c (rB c L L)
theorem e133:V133x0 (xF oR c (cu c L))=F133 c L:=by rw[s133x0];simp only[w133x1];rfl
theorem c133(a0:List UInt8)(a1:Int)(L n:Nat):CTp L (n+1) 133 [yT a0,yI a1]=F133 (CTp L n) L a0 a1:=by rw[←e133];exact cg (x:=oR) (by kernel_rfl) (by kernel_rfl) L n _
def rZ(c:TC0)(e:Cu):Kt:=xK eI
def q135x1(c:TC0)(e:Cu):Kt:=xT eI c e [1,1,1] (rZ c e)
def q135x2(c:TC0)(e:Cu):Kt:=xT eI c e [1,1,1,0,1,1] (rZ c e)
def aCr(c:TC0)(e:Cu):Kt:=cN U0 0 (q135x2 c e)
def q135x4(c:TC0)(e:Cu)(n3:Nt):Kt:=lpK U0 nJ n3 (aCr c e)
def q135x5(c:TC0)(e:Cu)(n3:Nt):Kt:=xT eI c e [1,1,1,0,1,0,0,0,1] (q135x4 c e n3)
def q135x6(c:TC0)(e:Cu):Kt:=xT eI c e [1,1,1,0,1,1,1,1,1] (rZ c e)
def q135x7(c:TC0)(e:Cu):Kt:=xT eI c e [1,1,1,0,1,1,1,1,1,1] (rZ c e)
def aCq(c:TC0)(e:Cu):Kt:=cN U0 2 (q135x7 c e)
def q135x9(c:TC0)(e:Cu)(n6:Nt):Kt:=lpK U0 nI n6 (aCq c e)
def q135x10(c:TC0)(e:Cu)(n6:Nt):Kt:=xT eI c e [1,1,1,0,1,1,1,1,1,0,1,0,0,1,1] (q135x9 c e n6)
def aFT(c:TC0)(e:Cu)(n6:Nt):Kt:=cN U0 3 (q135x10 c e n6)
def aIZ(c:TC0)(k1:Bool→Int→List UInt8→Rt)(a0:List UInt8):Rt:=
 cnd (decide ((0:Int)<(List.length a0:Int))) (ob (idx a0 (0:Int)) fun v0=>
 k1 (decide ((v0.toNat:Int)=(45:Int))) (0:Int) a0) (k1 false (0:Int) a0)
def V135x0(n:Nt):List UInt8→Rt:=fun x0=>n [yT x0]
def aIY(c:TC0)(k2:Int→List UInt8→Rt)(a15:Bool)(a5:Int)(a0:List UInt8):Rt:=
 cnd a15 (k2 (1:Int) a0) (k2 a5 a0)
def V135x1(n:Nt):Bool→Int→List UInt8→Rt:=fun x0 x1 x2=>n [yB x0,yI x1,yT x2]
def aH9:=V135x1 (xD eI e [1,1,0,1,0] aA7 (q135x1 c e))
def aIX(c:TC0)(e3:Int→List UInt8→Int→Rt)(a5:Int)(a0:List UInt8):Rt:=
 e3 a5 a0 a5
def V135x2(n:Nt):Int→List UInt8→Rt:=fun x0 x1=>n [yI x0,yT x1]
def aH8:=V135x2 (xD eI e [1,1,1,0] aA6 (rZ c e))
def aIW(c:TC0)(k4:Bool→Int→List UInt8→Int→Rt)(a5:Int)(a0:List UInt8)(a6:Int):Rt:=
 cnd (decide (a6<(List.length a0:Int))) (ob (idx a0 a6) fun v0=>
 cnd (decide ((48:Int)≤(v0.toNat:Int))) (ob (idx a0 a6) fun v1=>
 k4 (decide ((v1.toNat:Int)≤(57:Int))) a5 a0 a6) (k4 false a5 a0 a6)) (k4 false a5 a0 a6)
def zO(n:Nt):Int→List UInt8→Int→Rt:=fun x0 x1 x2=>n [yI x0,yT x1,yI x2]
def X135x3:=zO (xE eI e [1,1,1,0,1,0,0,0] nJ (aCr c e))
def B135x4(c:TC0)(n3:Int→List UInt8→Int→Rt)(k5:Bool→List UInt8→Int→Rt)(a32:Bool)(a5:Int)(a0:List UInt8)(a6:Int):Rt:=
 cnd a32 (n3 a5 a0 (IntKind.i64.wrap (a6+(1:Int)))) (cnd (decide (a6=a5)) (some [yT ([]:List UInt8),yT ([]:List UInt8),yB false]) (cnd (decide (a6=(List.length a0:Int))) (some [yT a0,yT ([49]:List UInt8),yB true]) (ob (idx a0 a6) fun v0=>
 cnd (!decide ((v0.toNat:Int)=(47:Int))) (k5 true a0 a6) (k5 (decide ((IntKind.i64.wrap (a6+(1:Int)))=(List.length a0:Int))) a0 a6))))
def V135x4(n:Nt):Bool→Int→List UInt8→Int→Rt:=fun x0 x1 x2 x3=>n [yB x0,yI x1,yT x2,yI x3]
def aH7(n3:Nt):=V135x4 (xD eI e [1,1,1,0,1,0,0,0,0,1,0] aA5 (q135x5 c e n3))
def B135x5(c:TC0)(e6:Int→List UInt8→Int→Rt)(a53:Bool)(a0:List UInt8)(a6:Int):Rt:=
 cnd a53 (some [yT ([]:List UInt8),yT ([]:List UInt8),yB false]) (e6 (IntKind.i64.wrap (a6+(1:Int))) a0 a6)
def V135x5(n:Nt):Bool→List UInt8→Int→Rt:=fun x0 x1 x2=>n [yB x0,yT x1,yI x2]
def aH6:=V135x5 (xD eI e [1,1,1,0,1,1,1,1,0,1,0] aA4 (q135x6 c e))
def B135x6(c:TC0)(k7:Bool→Int→List UInt8→Int→Rt)(a7:Int)(a0:List UInt8)(a6:Int):Rt:=
 cnd (decide (a7<(List.length a0:Int))) (ob (idx a0 a7) fun v0=>
 cnd (decide ((v0.toNat:Int)<(48:Int))) (k7 true a7 a0 a6) (ob (idx a0 a7) fun v1=>
 k7 (decide ((57:Int)<(v1.toNat:Int))) a7 a0 a6)) (ob (slc a0 (0:Int) a6) fun v2=>
 ob (slc a0 (IntKind.i64.wrap (a6+(1:Int))) (List.length a0:Int)) fun v3=>
 some [yT v2,yT v3,yB true])
def zN(n:Nt):Int→List UInt8→Int→Rt:=fun x0 x1 x2=>n [yI x0,yT x1,yI x2]
def X135x6:=zN (xE eI e [1,1,1,0,1,1,1,1,1,0,1,0,0] nI (aCq c e))
def B135x7(c:TC0)(n6:Int→List UInt8→Int→Rt)(a71:Bool)(a7:Int)(a0:List UInt8)(a6:Int):Rt:=
 cnd a71 (some [yT ([]:List UInt8),yT ([]:List UInt8),yB false]) (n6 (IntKind.i64.wrap (a7+(1:Int))) a0 a6)
def V135x7(n:Nt):Bool→Int→List UInt8→Int→Rt:=fun x0 x1 x2 x3=>n [yB x0,yI x1,yT x2,yI x3]
def aH5(n6:Nt):=V135x7 (xD eI e [1,1,1,0,1,1,1,1,1,0,1,0,0,1,0,0,1,0] aA3 (aFT c e n6))
theorem s135x0:V135x0 (xF eI c e)=aIZ c (aH9 c e):=by kernel_rfl
theorem s135x1:V135x1 (xA eI c e [1,1,0,1,0] aA7 (q135x1 c e))=aIY c (aH8 c e):=by kernel_rfl
theorem s135x2:V135x2 (xA eI c e [1,1,1,0] aA6 (rZ c e))=aIX c (X135x3 c e):=by kernel_rfl
theorem s135x3(n3:Nt):zO (xA eI c e [1,1,1,0,1,0,0,0] nJ (lpK U0 nJ n3 (aCr c e)))=aIW c (aH7 c e n3):=by kernel_rfl
theorem s135x4(n3:Nt):V135x4 (xA eI c e [1,1,1,0,1,0,0,0,0,1,0] aA5 (q135x5 c e n3))=B135x4 c (zO n3) (aH6 c e):=by kernel_rfl
theorem s135x5:V135x5 (xA eI c e [1,1,1,0,1,1,1,1,0,1,0] aA4 (q135x6 c e))=B135x5 c (X135x6 c e):=by kernel_rfl
theorem s135x6(n6:Nt):zN (xA eI c e [1,1,1,0,1,1,1,1,1,0,1,0,0] nI (lpK U0 nI n6 (aCq c e)))=B135x6 c (aH5 c e n6):=by kernel_rfl
theorem s135x7(n6:Nt):V135x7 (xA eI c e [1,1,1,0,1,1,1,1,1,0,1,0,0,1,0,0,1,0] aA3 (aFT c e n6))=B135x7 c (zN n6):=by kernel_rfl
def J135x7(c:TC0)(L:Nat)(n6:Int→List UInt8→Int→Rt):Bool→Int→List UInt8→Int→Rt:=B135x7 c n6
theorem j135x7(n6:Nt):aH5 c (cu c L) n6=J135x7 c L (zN n6):=by rw[aH5,aN,s135x7];rfl
def aDQ(c:TC0)(L:Nat):Nat→Int→List UInt8→Int→Rt
 |0=>fun _ _ _=>none
 |n+1=>B135x6 c (J135x7 c L (aDQ c L n))
theorem u135x6(n:Nat):zN (xL eI c L [1,1,1,0,1,1,1,1,1,0,1,0,0] nI (aCq c (cu c L)) n)=aDQ c L n:=by
 induction n with
 |zero=>rfl
 |succ n ih=>rw[eY,s135x6];simp only[j135x7,ih];rfl
theorem w135x6:X135x6 c (cu c L)=aDQ c L L:=u135x6 c L L
def J135x5(c:TC0)(L:Nat):Bool→List UInt8→Int→Rt:=B135x5 c (aDQ c L L)
theorem j135x5:aH6 c (cu c L)=J135x5 c L:=by rw[aH6,aN,s135x5];simp only[w135x6];rfl
def aIJ(c:TC0)(L:Nat)(n3:Int→List UInt8→Int→Rt):Bool→Int→List UInt8→Int→Rt:=B135x4 c n3 (J135x5 c L)
theorem j135x4(n3:Nt):aH7 c (cu c L) n3=aIJ c L (zO n3):=by rw[aH7,aN,s135x4];simp only[j135x5];rfl
def tD(c:TC0)(L:Nat):Nat→Int→List UInt8→Int→Rt
 |0=>fun _ _ _=>none
 |n+1=>aIW c (aIJ c L (tD c L n))
theorem u135x3(n:Nat):zO (xL eI c L [1,1,1,0,1,0,0,0] nJ (aCr c (cu c L)) n)=tD c L n:=by
 induction n with
 |zero=>rfl
 |succ n ih=>rw[eY,s135x3];simp only[j135x4,ih];rfl
theorem w135x3:X135x3 c (cu c L)=tD c L L:=u135x3 c L L
def aIK(c:TC0)(L:Nat):Int→List UInt8→Rt:=aIX c (tD c L L)
theorem j135x2:aH8 c (cu c L)=aIK c L:=by rw[aH8,aN,s135x2];simp only[w135x3];rfl
def aIL(c:TC0)(L:Nat):Bool→Int→List UInt8→Rt:=aIY c (aIK c L)
theorem j135x1:aH9 c (cu c L)=aIL c L:=by rw[aH9,aN,s135x1];simp only[j135x2];rfl
def F135(c:TC0)(L:Nat):List UInt8→Rt:=aIZ c (aIL c L)
theorem e135:V135x0 (xF eI c (cu c L))=F135 c L:=by rw[s135x0];simp only[j135x1];rfl
theorem c135(a0:List UInt8)(L n:Nat):CTp L (n+1) 135 [yT a0]=F135 (CTp L n) L a0:=by rw[←e135];exact cg (x:=eI) (by kernel_rfl) (by kernel_rfl) L n _
end
end Go.TV
