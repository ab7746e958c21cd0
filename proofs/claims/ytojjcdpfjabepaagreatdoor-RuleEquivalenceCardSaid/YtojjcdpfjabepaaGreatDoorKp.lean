import Derived.Test.YtojjcdpfjabepaaGreatDoorKo
set_option linter.unusedVariables false
set_option linter.unusedSimpArgs false
set_option linter.constructorNameAsVariable false
namespace Go.TV
open Go.AI Go.PI Go.Proofs
set_option maxRecDepth 20000
noncomputable section
variable(c:TC0)(e:Cu)(L:Nat)
def q48x0(c:TC0)(e:Cu):Kt:=xK aBU
def q48x1(c:TC0)(e:Cu):Kt:=xT aBU c e [1,1,1,1,1,1] (q48x0 c e)
def q48x2(c:TC0)(e:Cu):Kt:=eX U0 0 (q48x1 c e)
def q48x3(c:TC0)(e:Cu)(n1:Nt):Kt:=lpK U0 qF n1 (q48x2 c e)
def q48x4(c:TC0)(e:Cu)(n1:Nt):Kt:=eX U0 1 (q48x3 c e n1)
def q48x5(c:TC0)(e:Cu)(n1:Nt):Kt:=xT aBU c e [1,1,1,1,1,0,0,0,1,0,1,1] (q48x4 c e n1)
def B48x0(c:TC0)(e1:List G.O→G.P→G.X→Rt)(a0:List G.A)(a1:List UInt8)(a2:List UInt8):Rt:=
 obL [zS 22,.rc 20] (c 56 [yT a2]) fun(r0:List G.K×G.X×Unit)=>
 cnd (!decide (r0.2.1.err=(0:Int))) (some [yS 2 ([]:List G.O),yR 20 r0.2.1]) (e1 ([]:List G.O) (G.P.mk a0 a1 r0.1 (0:Int)) (G.X.mk (0:Int) (0:Int)))
def V48x0(n:Nt):List G.A→List UInt8→List UInt8→Rt:=fun x0 x1 x2=>n [yS 9 x0,yT x1,yT x2]
def B48x1(c:TC0)(k2:Bool→Int→List G.O→G.P→G.X→Rt)(a11:List G.O)(b129:G.P)(b107:G.X):Rt:=
 ob (idx b129.t b129.pos) fun v0=>
 cnd (!decide (v0.kind=(0:Int))) (ob (idx b129.t b129.pos) fun v1=>
 ob (idx b129.t b129.pos) fun v2=>
 cnd (decide ((100:Int)≤(List.length a11:Int))) (cnd (!decide (v2.kind=(2:Int))) (k2 (!decide (v2.kind=(3:Int))) v1.pos a11 b129 b107) (k2 false v1.pos a11 b129 b107)) (k2 false v1.pos a11 b129 b107)) (some [yS 2 a11,yR 20 (G.X.mk (0:Int) (0:Int))])
def aEE(n:Nt):List G.O→G.P→G.X→Rt:=fun x0 x1 x2=>n [yS 2 x0,yR 23 x1,yR 20 x2]
def X48x1:=aEE (xE aBU e [1,1,1,1,1,0,0,0] qF (q48x2 c e))
def B48x2(c:TC0)(n1:List G.O→G.P→G.X→Rt)(a74:Bool)(a12:Int)(a11:List G.O)(b129:G.P)(b107:G.X):Rt:=
 cnd a74 (obL [.rc 20] (c 57 [yI (2:Int),yI a12]) fun(r0:G.X×Unit)=>
 some [yS 2 ([]:List G.O),yR 20 r0.1]) (obL [.rc 2,.rc 20,.rc 23] (c 58 [yI (0:Int),yR 23 b129]) fun(r1:G.O×G.X×G.P×Unit)=>
 cnd (!decide (r1.2.1.err=(0:Int))) (some [yS 2 ([]:List G.O),yR 20 r1.2.1]) (obL [i6] (c 59 [yR 2 r1.1]) fun(r2:Int×Unit)=>
 cnd (decide ((3000:Int)<r2.1)) (obL [.rc 20] (c 57 [yI (2:Int),yI a12]) fun(r3:G.X×Unit)=>
 some [yS 2 ([]:List G.O),yR 20 r3.1]) (chk (Nat.ble ((List.length a11+List.length ([r1.1]:List G.O))*112) 1073741824)<|
 n1 (a11++([r1.1]:List G.O)) r1.2.2.1 b107)))
def V48x2(n:Nt):Bool→Int→List G.O→G.P→G.X→Rt:=fun x0 x1 x2 x3 x4=>n [yB x0,yI x1,yS 2 x2,yR 23 x3,yR 20 x4]
def X48x2(n1:Nt):=V48x2 (xD aBU e [1,1,1,1,1,0,0,0,1,0,1,0,1,1,0] aDW (q48x5 c e n1))
theorem s48x0:V48x0 (xF aBU c e)=B48x0 c (X48x1 c e):=by kernel_rfl
theorem s48x1(n1:Nt):aEE (xA aBU c e [1,1,1,1,1,0,0,0] qF (lpK U0 qF n1 (q48x2 c e)))=B48x1 c (X48x2 c e n1):=by kernel_rfl
theorem s48x2(n1:Nt):V48x2 (xA aBU c e [1,1,1,1,1,0,0,0,1,0,1,0,1,1,0] aDW (q48x5 c e n1))=B48x2 c (aEE n1):=by kernel_rfl
def J48x2(c:TC0)(L:Nat)(n1:List G.O→G.P→G.X→Rt):Bool→Int→List G.O→G.P→G.X→Rt:=B48x2 c n1
theorem j48x2(n1:Nt):X48x2 c (cu c L) n1=J48x2 c L (aEE n1):=by rw[X48x2,bK,s48x2];rfl
def yD(c:TC0)(L:Nat):Nat→List G.O→G.P→G.X→Rt
 |0=>fun _ _ _=>none
 |n+1=>B48x1 c (J48x2 c L (yD c L n))
theorem u48x1(n:Nat):aEE (xL aBU c L [1,1,1,1,1,0,0,0] qF (q48x2 c (cu c L)) n)=yD c L n:=by
 induction n with
 |zero=>rfl
 |succ n ih=>rw[kY,s48x1];simp only[j48x2,ih];rfl
theorem w48x1:X48x1 c (cu c L)=yD c L L:=u48x1 c L L
def F48(c:TC0)(L:Nat):List G.A→List UInt8→List UInt8→Rt:=B48x0 c (yD c L L)
theorem e48:V48x0 (xF aBU c (cu c L))=F48 c L:=by rw[s48x0];simp only[w48x1];rfl
theorem c48(a0:List G.A)(a1:List UInt8)(a2:List UInt8)(L n:Nat):CTp L (n+1) 48 [yS 9 a0,yT a1,yT a2]=F48 (CTp L n) L a0 a1 a2:=by rw[←e48];exact cg (x:=aBU) (by kernel_rfl) (by kernel_rfl) L n _
def q56x0(c:TC0)(e:Cu):Kt:=xK ii56
def q56x1(c:TC0)(e:Cu):Kt:=eX U0 0 (q56x0 c e)
def B56x0(c:TC0)(e1:Int→List UInt8→List G.K→G.X→Rt)(a0:List UInt8):Rt:=
 cnd (decide ((6000:Int)<(List.length a0:Int))) (obL [.rc 20] (c 57 [yI (2:Int),yI (0:Int)]) fun(r0:G.X×Unit)=>
 some [yS 22 ([]:List G.K),yR 20 r0.1]) (e1 (0:Int) a0 ([]:List G.K) (G.X.mk (0:Int) (0:Int)))
def V56x0(n:Nt):List UInt8→Rt:=fun x0=>n [yT x0]
def B56x1(c:TC0)(n1:Int→List UInt8→List G.K→G.X→Rt)(a5:Int)(a0:List UInt8)(a4:List G.K)(b103:G.X):Rt:=
 obL [i6,.bool] (c 67 [yT a0,yI a5]) fun(r0:Int×Bool×Unit)=>
 cnd (!r0.2.1) (obL [.rc 20] (c 57 [yI (11:Int),yI (List.length a0:Int)]) fun(r1:G.X×Unit)=>
 some [yS 22 ([]:List G.K),yR 20 r1.1]) (cnd (decide ((List.length a0:Int)≤r0.1)) (chk (Nat.ble ((List.length a4+List.length ([(G.K.mk (0:Int) (List.length a0:Int) ([]:List UInt8) ([]:List UInt8) ([]:List UInt8))]:List G.K))*64) 1073741824)<|
 some [yS 22 (a4++([(G.K.mk (0:Int) (List.length a0:Int) ([]:List UInt8) ([]:List UInt8) ([]:List UInt8))]:List G.K)),yR 20 (G.X.mk (0:Int) (0:Int))]) (obL [.rc 22,i6,.rc 20] (c 68 [yT a0,yI r0.1]) fun(r2:G.K×Int×G.X×Unit)=>
 cnd (!decide (r2.2.2.1.err=(0:Int))) (some [yS 22 ([]:List G.K),yR 20 r2.2.2.1]) (chk (Nat.ble ((List.length a4+List.length ([r2.1]:List G.K))*64) 1073741824)<|
 n1 r2.2.1 a0 (a4++([r2.1]:List G.K)) b103)))
def V56x1(n:Nt):Int→List UInt8→List G.K→G.X→Rt:=fun x0 x1 x2 x3=>n [yI x0,yT x1,yS 22 x2,yR 20 x3]
def X56x1:=V56x1 (xE ii56 e [1,1,1,1,0,0] uQ (q56x1 c e))
theorem s56x0:V56x0 (xF ii56 c e)=B56x0 c (X56x1 c e):=by kernel_rfl
theorem s56x1(n1:Nt):V56x1 (xA ii56 c e [1,1,1,1,0,0] uQ (lpK U0 uQ n1 (q56x1 c e)))=B56x1 c (V56x1 n1):=by kernel_rfl
def yC(c:TC0)(L:Nat):Nat→Int→List UInt8→List G.K→G.X→Rt
 |0=>fun _ _ _ _=>none
 |n+1=>B56x1 c (yC c L n)
theorem u56x1(n:Nat):V56x1 (xL ii56 c L [1,1,1,1,0,0] uQ (q56x1 c (cu c L)) n)=yC c L n:=by
 induction n with
 |zero=>rfl
 |succ n ih=>rw[kY,s56x1];simp only[ih];rfl
theorem w56x1:X56x1 c (cu c L)=yC c L L:=u56x1 c L L
def F56(c:TC0)(L:Nat):List UInt8→Rt:=B56x0 c (yC c L L)
theorem e56:V56x0 (xF ii56 c (cu c L))=F56 c L:=by rw[s56x0];simp only[w56x1];rfl
theorem c56(a0:List UInt8)(L n:Nat):CTp L (n+1) 56 [yT a0]=F56 (CTp L n) L a0:=by rw[←e56];exact cg (x:=ii56) (by kernel_rfl) (by kernel_rfl) L n _
def q58x0(c:TC0)(e:Cu):Kt:=xK ii58
def q58x1(c:TC0)(e:Cu):Kt:=xT ii58 c e [1,1,1,1] (q58x0 c e)
def q58x2(c:TC0)(e:Cu):Kt:=eX U0 0 (q58x1 c e)
def B58x0(c:TC0)(k1:Bool→Int→Int→G.P→G.K→G.O→G.O→G.X→Rt)(a1:Int)(b0:G.P):Rt:=
 ob (idx b0.t b0.pos) fun v0=>
 cnd (decide (v0.kind=(0:Int))) (obL [.rc 20] (c 57 [yI (11:Int),yI v0.pos]) fun(r1:G.X×Unit)=>
 some [yR 2 (G.O.mk (0:Int) ([]:List UInt8) ([]:List UInt8) (G.Y.mk ([]:List UInt8) ([]:List UInt8)) ([]:List UInt8) ([]:List G.O)),yR 20 r1.1,yR 23 b0]) (cnd (decide (v0.kind=(2:Int))) (k1 (decide (v0.kind=(2:Int))) v0.kind a1 b0 v0 (G.O.mk (0:Int) ([]:List UInt8) ([]:List UInt8) (G.Y.mk ([]:List UInt8) ([]:List UInt8)) ([]:List UInt8) ([]:List G.O)) (G.O.mk (0:Int) ([]:List UInt8) ([]:List UInt8) (G.Y.mk ([]:List UInt8) ([]:List UInt8)) ([]:List UInt8) ([]:List G.O)) (G.X.mk (0:Int) (0:Int))) (k1 (decide (v0.kind=(3:Int))) v0.kind a1 b0 v0 (G.O.mk (0:Int) ([]:List UInt8) ([]:List UInt8) (G.Y.mk ([]:List UInt8) ([]:List UInt8)) ([]:List UInt8) ([]:List G.O)) (G.O.mk (0:Int) ([]:List UInt8) ([]:List UInt8) (G.Y.mk ([]:List UInt8) ([]:List UInt8)) ([]:List UInt8) ([]:List G.O)) (G.X.mk (0:Int) (0:Int))))
def V58x0(n:Nt):Int→G.P→Rt:=fun x0 x1=>n [yI x0,yR 23 x1]
def B58x1(c:TC0)(k2:List UInt8→G.P→G.O→G.K→G.O→G.X→Rt)(a31:Bool)(a24:Int)(a1:Int)(b0:G.P)(b106:G.K)(b107:G.O)(b104:G.O)(b105:G.X):Rt:=
 cnd a31 (obL [.rc 20] (c 57 [yI (12:Int),yI b106.pos]) fun(r0:G.X×Unit)=>
 some [yR 2 b107,yR 20 r0.1,yR 23 b0]) (cnd (decide (a24=(5:Int))) (some [yR 2 (G.O.mk (1:Int) b106.text b106.den (G.Y.mk ([]:List UInt8) ([]:List UInt8)) ([]:List UInt8) ([]:List G.O)),yR 20 (G.X.mk (0:Int) (0:Int)),yR 23 (G.P.mk b0.l b0.current b0.t (IntKind.i64.wrap (b0.pos+(1:Int))))]) (cnd (decide (a24=(7:Int))) (obL [.rc 2] (c 69 [yT b106.text]) fun(r1:G.O×Unit)=>
 some [yR 2 r1.1,yR 20 (G.X.mk (0:Int) (0:Int)),yR 23 (G.P.mk b0.l b0.current b0.t (IntKind.i64.wrap (b0.pos+(1:Int))))]) (cnd (decide (a24=(6:Int))) (cnd (decide (b106.package=([]:List UInt8))) (k2 b0.current (G.P.mk b0.l b0.current b0.t (IntKind.i64.wrap (b0.pos+(1:Int)))) b107 b106 b104 b105) (k2 b106.package (G.P.mk b0.l b0.current b0.t (IntKind.i64.wrap (b0.pos+(1:Int)))) b107 b106 b104 b105)) (cnd (decide ((200:Int)<a1)) (obL [.rc 20] (c 57 [yI (2:Int),yI b106.pos]) fun(r2:G.X×Unit)=>
 some [yR 2 b107,yR 20 r2.1,yR 23 b0]) (cnd (decide (b106.kind=(4:Int))) (obL [.rc 2,.rc 20,.rc 23] (c 58 [yI (IntKind.i64.wrap (a1+(1:Int))),yR 23 (G.P.mk b0.l b0.current b0.t (IntKind.i64.wrap (b0.pos+(1:Int))))]) fun(r3:G.O×G.X×G.P×Unit)=>
 cnd (!decide (r3.2.1.err=(0:Int))) (some [yR 2 b107,yR 20 r3.2.1,yR 23 r3.2.2.1]) (obL [.rc 1] (c 19 [yT ([113,117,111,116,101]:List UInt8)]) fun(r4:G.Y×Unit)=>
 obL [.rc 2] (c 55 [yR 1 r4.1]) fun(r5:G.O×Unit)=>
 obL [.rc 2] (c 70 [yS 2 ([r5.1,r3.1]:List G.O)]) fun(r6:G.O×Unit)=>
 some [yR 2 r6.1,yR 20 r3.2.1,yR 23 r3.2.2.1])) (obL [.rc 2,.rc 20,.rc 23] (c 71 [yI (IntKind.i64.wrap (a1+(1:Int))),yR 23 (G.P.mk b0.l b0.current b0.t (IntKind.i64.wrap (b0.pos+(1:Int))))]) fun(r7:G.O×G.X×G.P×Unit)=>
 some [yR 2 r7.1,yR 20 r7.2.1,yR 23 r7.2.2.1]))))))
def V58x1(n:Nt):Bool→Int→Int→G.P→G.K→G.O→G.O→G.X→Rt:=fun x0 x1 x2 x3 x4 x5 x6 x7=>n [yB x0,yI x1,yI x2,yR 23 x3,yR 22 x4,yR 2 x5,yR 2 x6,yR 20 x7]
def X58x1:=V58x1 (xD ii58 e [1,1,1,0,1,0,1,1,1,0] aDV (q58x2 c e))
def B58x2(c:TC0)(a8:List UInt8)(b0:G.P)(b107:G.O)(b106:G.K)(b104:G.O)(b105:G.X):Rt:=
 obL [.rc 1,i6] (c 72 [yS 9 b0.l,yT a8,yT b106.text]) fun(r0:G.Y×Int×Unit)=>
 cnd (!decide (r0.2.1=(0:Int))) (obL [.rc 20] (c 57 [yI r0.2.1,yI b106.pos]) fun(r1:G.X×Unit)=>
 some [yR 2 b107,yR 20 r1.1,yR 23 b0]) (obL [.rc 2] (c 55 [yR 1 r0.1]) fun(r2:G.O×Unit)=>
 some [yR 2 r2.1,yR 20 (G.X.mk (0:Int) (0:Int)),yR 23 b0])
def V58x2(n:Nt):List UInt8→G.P→G.O→G.K→G.O→G.X→Rt:=fun x0 x1 x2 x3 x4 x5=>n [yT x0,yR 23 x1,yR 2 x2,yR 22 x3,yR 2 x4,yR 20 x5]
def X58x2:=V58x2 (xD ii58 e [1,1,1,0,1,0,1,1,1,0,1,1,1,1,1,1,0,1,1,1,0] aDU (q58x2 c e))
theorem s58x0:V58x0 (xF ii58 c e)=B58x0 c (X58x1 c e):=by kernel_rfl
theorem s58x1:V58x1 (xA ii58 c e [1,1,1,0,1,0,1,1,1,0] aDV (q58x2 c e))=B58x1 c (X58x2 c e):=by kernel_rfl
theorem s58x2:V58x2 (xA ii58 c e [1,1,1,0,1,0,1,1,1,0,1,1,1,1,1,1,0,1,1,1,0] aDU (q58x2 c e))=B58x2 c:=by kernel_rfl
def J58x2(c:TC0)(L:Nat):List UInt8→G.P→G.O→G.K→G.O→G.X→Rt:=B58x2 c
theorem j58x2:X58x2 c (cu c L)=J58x2 c L:=by rw[X58x2,bK,s58x2];rfl
def J58x1(c:TC0)(L:Nat):Bool→Int→Int→G.P→G.K→G.O→G.O→G.X→Rt:=B58x1 c (J58x2 c L)
theorem j58x1:X58x1 c (cu c L)=J58x1 c L:=by rw[X58x1,bK,s58x1];simp only[j58x2];rfl
def F58(c:TC0)(L:Nat):Int→G.P→Rt:=B58x0 c (J58x1 c L)
theorem e58:V58x0 (xF ii58 c (cu c L))=F58 c L:=by rw[s58x0];simp only[j58x1];rfl
theorem c58(a1:Int)(b0:G.P)(L n:Nat):CTp L (n+1) 58 [yI a1,yR 23 b0]=F58 (CTp L n) L a1 b0:=by rw[←e58];exact cg (x:=ii58) (by kernel_rfl) (by kernel_rfl) L n _
def B59x0(c:TC0)(a0:G.O):Rt:=
 obL [i6] (c 73 [yR 2 a0,yI (3001:Int)]) fun(r0:Int×Unit)=>
 some [yI r0.1]
def V59x0(n:Nt):G.O→Rt:=fun x0=>n [yR 2 x0]
theorem s59x0:V59x0 (xF ii59 c e)=B59x0 c:=by kernel_rfl
def F59(c:TC0)(L:Nat):G.O→Rt:=B59x0 c
theorem e59:V59x0 (xF ii59 c (cu c L))=F59 c L:=s59x0 _ _
theorem c59(a0:G.O)(L n:Nat):CTp L (n+1) 59 [yR 2 a0]=F59 (CTp L n) L a0:=by rw[←e59];exact cg (x:=ii59) (by kernel_rfl) (by kernel_rfl) L n _
def q63x0(c:TC0)(e:Cu):Kt:=xK ii63
def B63x0(c:TC0)(k1:Bool→Rt)(a0:G.T):Rt:=
 obL [i6] (c 83 [yR 3 a0]) fun(r0:Int×Unit)=>
 cnd (decide (r0.1≤(3000:Int))) (obL [i6] (c 84 [yR 3 a0]) fun(r1:Int×Unit)=>
 cnd (decide (r1.1≤(200:Int))) (obL [.bool] (c 85 [yR 3 a0]) fun(r2:Bool×Unit)=>
 k1 r2.1) (k1 false)) (k1 false)
def V63x0(n:Nt):G.T→Rt:=fun x0=>n [yR 3 x0]
def B63x1(c:TC0)(a2:Bool):Rt:=
 some [yB a2]
def V63x1(n:Nt):Bool→Rt:=fun x0=>n [yB x0]
def X63x1:=V63x1 (xD ii63 e [1,1,0] aDT (q63x0 c e))
theorem s63x0:V63x0 (xF ii63 c e)=B63x0 c (X63x1 c e):=by kernel_rfl
theorem s63x1:V63x1 (xA ii63 c e [1,1,0] aDT (q63x0 c e))=B63x1 c:=by kernel_rfl
def J63x1(c:TC0)(L:Nat):Bool→Rt:=B63x1 c
theorem j63x1:X63x1 c (cu c L)=J63x1 c L:=by rw[X63x1,bK,s63x1];rfl
def F63(c:TC0)(L:Nat):G.T→Rt:=B63x0 c (J63x1 c L)
theorem e63:V63x0 (xF ii63 c (cu c L))=F63 c L:=by rw[s63x0];simp only[j63x1];rfl
theorem c63(a0:G.T)(L n:Nat):CTp L (n+1) 63 [yR 3 a0]=F63 (CTp L n) L a0:=by rw[←e63];exact cg (x:=ii63) (by kernel_rfl) (by kernel_rfl) L n _
def B64x0(c:TC0):Rt:=
 some [yS 21 ([(G.R.mk ([105,102]:List UInt8) (3:Int)),(G.R.mk ([101,113,117,97,108]:List UInt8) (2:Int)),(G.R.mk ([99,111,110,115]:List UInt8) (2:Int)),(G.R.mk ([99,97,114]:List UInt8) (1:Int)),(G.R.mk ([99,100,114]:List UInt8) (1:Int)),(G.R.mk ([99,111,110,115,112]:List UInt8) (1:Int)),(G.R.mk ([115,121,109,98,111,108,112]:List UInt8) (1:Int)),(G.R.mk ([115,116,114,105,110,103,112]:List UInt8) (1:Int)),(G.R.mk ([114,97,116,105,111,110,97,108,112]:List UInt8) (1:Int)),(G.R.mk ([105,110,116,101,103,101,114,112]:List UInt8) (1:Int)),(G.R.mk ([98,105,110,97,114,121,45,43]:List UInt8) (2:Int)),(G.R.mk ([98,105,110,97,114,121,45,42]:List UInt8) (2:Int)),(G.R.mk ([117,110,97,114,121,45,45]:List UInt8) (1:Int)),(G.R.mk ([117,110,97,114,121,45,47]:List UInt8) (1:Int)),(G.R.mk ([60]:List UInt8) (2:Int)),(G.R.mk ([110,117,109,101,114,97,116,111,114]:List UInt8) (1:Int)),(G.R.mk ([100,101,110,111,109,105,110,97,116,111,114]:List UInt8) (1:Int)),(G.R.mk ([102,108,111,111,114]:List UInt8) (1:Int)),(G.R.mk ([115,121,109,98,111,108,45,110,97,109,101]:List UInt8) (1:Int)),(G.R.mk ([115,121,109,98,111,108,45,112,97,99,107,97,103,101,45,110,97,109,101]:List UInt8) (1:Int)),(G.R.mk ([105,110,116,101,114,110]:List UInt8) (2:Int)),(G.R.mk ([115,116,114,105,110,103,45,97,112,112,101,110,100]:List UInt8) (2:Int)),(G.R.mk ([115,116,114,105,110,103,45,108,101,110,103,116,104]:List UInt8) (1:Int)),(G.R.mk ([115,116,114,105,110,103,45,98,121,116,101]:List UInt8) (2:Int)),(G.R.mk ([98,121,116,101,45,115,116,114,105,110,103]:List UInt8) (1:Int))]:List G.R)]
def V64x0(n:Nt):Rt:=n []
theorem s64x0:V64x0 (xF ii64 c e)=B64x0 c:=by kernel_rfl
def F64(c:TC0)(L:Nat):Rt:=B64x0 c
theorem e64:V64x0 (xF ii64 c (cu c L))=F64 c L:=s64x0 _ _
theorem c64(L n:Nat):CTp L (n+1) 64 []=F64 (CTp L n) L:=by rw[←e64];exact cg (x:=ii64) (by kernel_rfl) (by kernel_rfl) L n _
def q67x0(c:TC0)(e:Cu):Kt:=xK sT
def q67x1(c:TC0)(e:Cu):Kt:=xT sT c e [1,1] (q67x0 c e)
def q67x2(c:TC0)(e:Cu):Kt:=eX U0 0 (q67x1 c e)
def q67x3(c:TC0)(e:Cu)(n1:Nt):Kt:=lpK U0 qE n1 (q67x2 c e)
def q67x4(c:TC0)(e:Cu)(n1:Nt):Kt:=eX U0 1 (q67x3 c e n1)
def q67x5(c:TC0)(e:Cu)(n1:Nt):Kt:=eX U0 2 (q67x4 c e n1)
def q67x6(c:TC0)(e:Cu)(n1:Nt):Kt:=eX U0 3 (q67x5 c e n1)
def q67x7(c:TC0)(e:Cu)(n1:Nt):Kt:=eX U0 5 (q67x5 c e n1)
def q67x8(c:TC0)(e:Cu)(n2:Nt)(n1:Nt):Kt:=lpK U0 qD n2 (q67x6 c e n1)
def q67x9(c:TC0)(e:Cu)(n2:Nt)(n1:Nt):Kt:=xT sT c e [1,0,0,0,1,0,0,1,1,1,0,0,0,1] (q67x8 c e n2 n1)
def B67x0(c:TC0)(e1:List UInt8→Int→Rt)(a0:List UInt8)(a1:Int):Rt:=
 e1 a0 a1
def V67x0(n:Nt):List UInt8→Int→Rt:=fun x0 x1=>n [yT x0,yI x1]
def B67x1(c:TC0)(n1:List UInt8→Int→Rt)(e2:List UInt8→Int→Rt)(e3:Int→List UInt8→Int→Rt)(a0:List UInt8)(a1:Int):Rt:=
 cnd (decide (a1<(List.length a0:Int))) (ob (idx a0 a1) fun v0=>
 obL [.bool] (c 88 [⟨(.int .u8),(v0.toNat:Int)⟩]) fun(r1:Bool×Unit)=>
 cnd r1.1 (n1 a0 (IntKind.i64.wrap (a1+(1:Int)))) (ob (idx a0 a1) fun v2=>
 cnd (decide ((v2.toNat:Int)=(59:Int))) (e2 a0 a1) (obL [.bool] (c 89 [yT a0,yI a1,⟨(.int .u8),(35:Int)⟩,⟨(.int .u8),(124:Int)⟩]) fun(r3:Bool×Unit)=>
 cnd r3.1 (e3 (1:Int) a0 (IntKind.i64.wrap (a1+(2:Int)))) (some [yI a1,yB true])))) (some [yI a1,yB true])
def oM(n:Nt):List UInt8→Int→Rt:=fun x0 x1=>n [yT x0,yI x1]
def X67x1:=oM (xE sT e [1,0,0,0] qE (q67x2 c e))
def B67x2(c:TC0)(k4:Bool→List UInt8→Int→Rt)(a0:List UInt8)(a1:Int):Rt:=
 cnd (decide (a1<(List.length a0:Int))) (ob (idx a0 a1) fun v0=>
 k4 (!decide ((v0.toNat:Int)=(10:Int))) a0 a1) (k4 false a0 a1)
def aED(n:Nt):List UInt8→Int→Rt:=fun x0 x1=>n [yT x0,yI x1]
def X67x2(n1:Nt):=aED (xE sT e [1,0,0,0,1,0,0,1,1,1,0,0,0] qD (q67x6 c e n1))
def B67x3(c:TC0)(n3:Int→List UInt8→Int→Rt)(n1:List UInt8→Int→Rt)(a6:Int)(a0:List UInt8)(a1:Int):Rt:=
 cnd (decide ((0:Int)<a6)) (cnd (decide ((List.length a0:Int)≤a1)) (some [yI a1,yB false]) (obL [.bool] (c 89 [yT a0,yI a1,⟨(.int .u8),(35:Int)⟩,⟨(.int .u8),(124:Int)⟩]) fun(r0:Bool×Unit)=>
 cnd r0.1 (n3 (IntKind.i64.wrap (a6+(1:Int))) a0 (IntKind.i64.wrap (a1+(2:Int)))) (obL [.bool] (c 89 [yT a0,yI a1,⟨(.int .u8),(124:Int)⟩,⟨(.int .u8),(35:Int)⟩]) fun(r1:Bool×Unit)=>
 cnd r1.1 (n3 (IntKind.i64.wrap (a6-(1:Int))) a0 (IntKind.i64.wrap (a1+(2:Int)))) (n3 a6 a0 (IntKind.i64.wrap (a1+(1:Int))))))) (n1 a0 a1)
def V67x3(n:Nt):Int→List UInt8→Int→Rt:=fun x0 x1 x2=>n [yI x0,yT x1,yI x2]
def X67x3(n1:Nt):=V67x3 (xE sT e [1,0,0,0,1,0,0,1,1,1,1,1,0,1,1,0,0] uP (q67x7 c e n1))
def B67x4(c:TC0)(n2:List UInt8→Int→Rt)(n1:List UInt8→Int→Rt)(a33:Bool)(a0:List UInt8)(a1:Int):Rt:=
 cnd a33 (n2 a0 (IntKind.i64.wrap (a1+(1:Int)))) (n1 a0 a1)
def V67x4(n:Nt):Bool→List UInt8→Int→Rt:=fun x0 x1 x2=>n [yB x0,yT x1,yI x2]
def X67x4(n2:Nt)(n1:Nt):=V67x4 (xD sT e [1,0,0,0,1,0,0,1,1,1,0,0,0,0,1,0] aDS (q67x9 c e n2 n1))
theorem s67x0:V67x0 (xF sT c e)=B67x0 c (X67x1 c e):=by kernel_rfl
theorem s67x1(n1:Nt):oM (xA sT c e [1,0,0,0] qE (lpK U0 qE n1 (q67x2 c e)))=B67x1 c (oM n1) (X67x2 c e n1) (X67x3 c e n1):=by kernel_rfl
theorem s67x2(n2:Nt)(n1:Nt):aED (xA sT c e [1,0,0,0,1,0,0,1,1,1,0,0,0] qD (lpK U0 qD n2 (q67x6 c e n1)))=B67x2 c (X67x4 c e n2 n1):=by kernel_rfl
theorem s67x3(n3:Nt)(n1:Nt):V67x3 (xA sT c e [1,0,0,0,1,0,0,1,1,1,1,1,0,1,1,0,0] uP (lpK U0 uP n3 (q67x7 c e n1)))=B67x3 c (V67x3 n3) (oM n1):=by kernel_rfl
theorem s67x4(n2:Nt)(n1:Nt):V67x4 (xA sT c e [1,0,0,0,1,0,0,1,1,1,0,0,0,0,1,0] aDS (q67x9 c e n2 n1))=B67x4 c (aED n2) (oM n1):=by kernel_rfl
def W67x3(c:TC0)(L:Nat)(n1:List UInt8→Int→Rt):Nat→Int→List UInt8→Int→Rt
 |0=>fun _ _ _=>none
 |n+1=>B67x3 c (W67x3 c L n1 n) n1
theorem u67x3(n1:Nt)(n:Nat):V67x3 (xL sT c L [1,0,0,0,1,0,0,1,1,1,1,1,0,1,1,0,0] uP (q67x7 c (cu c L) n1) n)=W67x3 c L (oM n1) n:=by
 induction n with
 |zero=>rfl
 |succ n ih=>rw[kY,s67x3];simp only[ih];rfl
theorem w67x3(n1:Nt):X67x3 c (cu c L) n1=W67x3 c L (oM n1) L:=u67x3 c L n1 L
def J67x4(c:TC0)(L:Nat)(n2:List UInt8→Int→Rt)(n1:List UInt8→Int→Rt):Bool→List UInt8→Int→Rt:=B67x4 c n2 n1
theorem j67x4(n2:Nt)(n1:Nt):X67x4 c (cu c L) n2 n1=J67x4 c L (aED n2) (oM n1):=by rw[X67x4,bK,s67x4];rfl
def W67x2(c:TC0)(L:Nat)(n1:List UInt8→Int→Rt):Nat→List UInt8→Int→Rt
 |0=>fun _ _=>none
 |n+1=>B67x2 c (J67x4 c L (W67x2 c L n1 n) n1)
theorem u67x2(n1:Nt)(n:Nat):aED (xL sT c L [1,0,0,0,1,0,0,1,1,1,0,0,0] qD (q67x6 c (cu c L) n1) n)=W67x2 c L (oM n1) n:=by
 induction n with
 |zero=>rfl
 |succ n ih=>rw[kY,s67x2];simp only[j67x4,ih];rfl
theorem w67x2(n1:Nt):X67x2 c (cu c L) n1=W67x2 c L (oM n1) L:=u67x2 c L n1 L
def sO(c:TC0)(L:Nat):Nat→List UInt8→Int→Rt
 |0=>fun _ _=>none
 |n+1=>B67x1 c (sO c L n) (W67x2 c L (sO c L n) L) (W67x3 c L (sO c L n) L)
theorem u67x1(n:Nat):oM (xL sT c L [1,0,0,0] qE (q67x2 c (cu c L)) n)=sO c L n:=by
 induction n with
 |zero=>rfl
 |succ n ih=>rw[kY,s67x1];simp only[w67x2,w67x3,ih];rfl
theorem w67x1:X67x1 c (cu c L)=sO c L L:=u67x1 c L L
def F67(c:TC0)(L:Nat):List UInt8→Int→Rt:=B67x0 c (sO c L L)
theorem e67:V67x0 (xF sT c (cu c L))=F67 c L:=by rw[s67x0];simp only[w67x1];rfl
theorem c67(a0:List UInt8)(a1:Int)(L n:Nat):CTp L (n+1) 67 [yT a0,yI a1]=F67 (CTp L n) L a0 a1:=by rw[←e67];exact cg (x:=sT) (by kernel_rfl) (by kernel_rfl) L n _
def q68x0(c:TC0)(e:Cu):Kt:=xK sS
def q68x1(c:TC0)(e:Cu):Kt:=xT sS c e [1,1,1,1] (q68x0 c e)
def aCx(c:TC0)(e:Cu):Kt:=eX U0 0 (q68x1 c e)
def q68x3(c:TC0)(e:Cu):Kt:=xT sS c e [1,1,1,0,1,0,1,1,1,1,1,1,1,0,1,1,1] (aCx c e)
def q68x4(c:TC0)(e:Cu):Kt:=xT sS c e [1,1,1,1,1,1,1,1,1] (q68x0 c e)
def q68x5(c:TC0)(e:Cu):Kt:=eX U0 1 (q68x4 c e)
def aEK(c:TC0)(k1:Bool→Int→G.K→G.X→G.K→G.X→Rt)(k2:Int→G.K→G.X→G.K→G.X→Rt)(k3:Int→G.K→G.X→G.K→G.X→Rt)(k4:Bool→Int→Int→G.K→G.X→G.K→G.X→Rt)(a0:List UInt8)(a1:Int):Rt:=
 ob (idx a0 a1) fun v0=>
 cnd (decide ((v0.toNat:Int)=(40:Int))) (some [yR 22 (G.K.mk (1:Int) a1 ([]:List UInt8) ([]:List UInt8) ([]:List UInt8)),yI (IntKind.i64.wrap (a1+(1:Int))),yR 20 (G.X.mk (0:Int) (0:Int))]) (cnd (decide ((v0.toNat:Int)=(41:Int))) (some [yR 22 (G.K.mk (2:Int) a1 ([]:List UInt8) ([]:List UInt8) ([]:List UInt8)),yI (IntKind.i64.wrap (a1+(1:Int))),yR 20 (G.X.mk (0:Int) (0:Int))]) (cnd (decide ((v0.toNat:Int)=(39:Int))) (some [yR 22 (G.K.mk (4:Int) a1 ([]:List UInt8) ([]:List UInt8) ([]:List UInt8)),yI (IntKind.i64.wrap (a1+(1:Int))),yR 20 (G.X.mk (0:Int) (0:Int))]) (cnd (decide ((v0.toNat:Int)=(34:Int))) (obL [.str,i6,.rc 20] (c 90 [yT a0,yI (IntKind.i64.wrap (a1+(1:Int))),⟨(.int .u8),(34:Int)⟩]) fun(r1:List UInt8×Int×G.X×Unit)=>
 cnd (decide (r1.2.2.1.err=(0:Int))) (k1 (decide ((200:Int)<(List.length r1.1:Int))) r1.2.1 (G.K.mk (7:Int) a1 ([]:List UInt8) r1.1 ([]:List UInt8)) r1.2.2.1 (G.K.mk (0:Int) (0:Int) ([]:List UInt8) ([]:List UInt8) ([]:List UInt8)) (G.X.mk (0:Int) (0:Int))) (k1 false r1.2.1 (G.K.mk (7:Int) a1 ([]:List UInt8) r1.1 ([]:List UInt8)) r1.2.2.1 (G.K.mk (0:Int) (0:Int) ([]:List UInt8) ([]:List UInt8) ([]:List UInt8)) (G.X.mk (0:Int) (0:Int)))) (cnd (decide ((v0.toNat:Int)=(124:Int))) (obL [.str,i6,.rc 20] (c 90 [yT a0,yI (IntKind.i64.wrap (a1+(1:Int))),⟨(.int .u8),(124:Int)⟩]) fun(r2:List UInt8×Int×G.X×Unit)=>
 cnd (decide (r2.2.2.1.err=(0:Int))) (obL [.rc 20] (c 91 [yR 22 (G.K.mk (6:Int) a1 ([]:List UInt8) r2.1 ([]:List UInt8)),yB true]) fun(r3:G.X×Unit)=>
 k2 r2.2.1 (G.K.mk (6:Int) a1 ([]:List UInt8) r2.1 ([]:List UInt8)) r3.1 (G.K.mk (0:Int) (0:Int) ([]:List UInt8) ([]:List UInt8) ([]:List UInt8)) (G.X.mk (0:Int) (0:Int))) (k2 r2.2.1 (G.K.mk (6:Int) a1 ([]:List UInt8) r2.1 ([]:List UInt8)) r2.2.2.1 (G.K.mk (0:Int) (0:Int) ([]:List UInt8) ([]:List UInt8) ([]:List UInt8)) (G.X.mk (0:Int) (0:Int)))) (obL [.bool] (c 92 [⟨(.int .u8),(v0.toNat:Int)⟩]) fun(r4:Bool×Unit)=>
 cnd (!r4.1) (obL [.rc 20] (c 57 [yI (12:Int),yI a1]) fun(r5:G.X×Unit)=>
 some [yR 22 (G.K.mk (0:Int) a1 ([]:List UInt8) ([]:List UInt8) ([]:List UInt8)),yI a1,yR 20 r5.1]) (obL [i6] (c 93 [yT a0,yI a1]) fun(r6:Int×Unit)=>
 ob (slc a0 a1 r6.1) fun v7=>
 obL [.bool] (c 89 [yT a0,yI r6.1,⟨(.int .u8),(58:Int)⟩,⟨(.int .u8),(58:Int)⟩]) fun(r8:Bool×Unit)=>
 cnd r8.1 (obL [.rc 22,i6,.rc 20] (c 94 [yT a0,yR 22 (G.K.mk (0:Int) a1 ([]:List UInt8) ([]:List UInt8) ([]:List UInt8)),yT v7,yI r6.1]) fun(r9:G.K×Int×G.X×Unit)=>
 some [yR 22 r9.1,yI r9.2.1,yR 20 r9.2.2.1]) (obL [.str,.str,.bool] (c 95 [yT v7]) fun(r10:List UInt8×List UInt8×Bool×Unit)=>
 cnd (decide (v7=([46]:List UInt8))) (k3 r6.1 (G.K.mk (3:Int) a1 ([]:List UInt8) ([]:List UInt8) ([]:List UInt8)) (G.X.mk (0:Int) (0:Int)) (G.K.mk (0:Int) (0:Int) ([]:List UInt8) ([]:List UInt8) ([]:List UInt8)) (G.X.mk (0:Int) (0:Int))) (cnd r10.2.2.1 (obL [.str] (c 96 [yT r10.2.1]) fun(r11:List UInt8×Unit)=>
 cnd (decide (r11.1=([48]:List UInt8))) (obL [.rc 20] (c 57 [yI (12:Int),yI a1]) fun(r12:G.X×Unit)=>
 some [yR 22 (G.K.mk (0:Int) a1 ([]:List UInt8) ([]:List UInt8) ([]:List UInt8)),yI r6.1,yR 20 r12.1]) (obL [.str] (c 96 [yT r10.1]) fun(r13:List UInt8×Unit)=>
 obL [.str] (c 96 [yT r10.2.1]) fun(r14:List UInt8×Unit)=>
 obL [.str,.str] (c 87 [yT r13.1,yT r14.1]) fun(r15:List UInt8×List UInt8×Unit)=>
 obL [i6] (c 97 [yT r15.1]) fun(r16:Int×Unit)=>
 cnd (decide ((100:Int)<r16.1)) (k4 true a1 r6.1 (G.K.mk (5:Int) a1 ([]:List UInt8) r15.1 r15.2.1) (G.X.mk (0:Int) (0:Int)) (G.K.mk (0:Int) (0:Int) ([]:List UInt8) ([]:List UInt8) ([]:List UInt8)) (G.X.mk (0:Int) (0:Int))) (obL [i6] (c 97 [yT r15.2.1]) fun(r17:Int×Unit)=>
 k4 (decide ((100:Int)<r17.1)) a1 r6.1 (G.K.mk (5:Int) a1 ([]:List UInt8) r15.1 r15.2.1) (G.X.mk (0:Int) (0:Int)) (G.K.mk (0:Int) (0:Int) ([]:List UInt8) ([]:List UInt8) ([]:List UInt8)) (G.X.mk (0:Int) (0:Int))))) (obL [.rc 20] (c 91 [yR 22 (G.K.mk (6:Int) a1 ([]:List UInt8) v7 ([]:List UInt8)),yB false]) fun(r18:G.X×Unit)=>
 k3 r6.1 (G.K.mk (6:Int) a1 ([]:List UInt8) v7 ([]:List UInt8)) r18.1 (G.K.mk (0:Int) (0:Int) ([]:List UInt8) ([]:List UInt8) ([]:List UInt8)) (G.X.mk (0:Int) (0:Int)))))))))))
def V68x0(n:Nt):List UInt8→Int→Rt:=fun x0 x1=>n [yT x0,yI x1]
def B68x1(c:TC0)(k5:Int→G.K→G.X→G.K→G.X→Rt)(a65:Bool)(a1:Int)(b107:G.K)(b108:G.X)(b104:G.K)(b106:G.X):Rt:=
 cnd a65 (obL [.rc 20] (c 57 [yI (2:Int),yI b107.pos]) fun(r0:G.X×Unit)=>
 k5 a1 b107 r0.1 b104 b106) (k5 a1 b107 b108 b104 b106)
def V68x1(n:Nt):Bool→Int→G.K→G.X→G.K→G.X→Rt:=fun x0 x1 x2 x3 x4 x5=>n [yB x0,yI x1,yR 22 x2,yR 20 x3,yR 22 x4,yR 20 x5]
def X68x1:=V68x1 (xD sS e [1,1,1,0,1,0,1,1,1,1,1,1,1,0,1,1,0,1,0] aDR (q68x3 c e))
def B68x2(c:TC0)(a1:Int)(b107:G.K)(b108:G.X)(b104:G.K)(b106:G.X):Rt:=
 some [yR 22 b107,yI a1,yR 20 b108]
def V68x2(n:Nt):Int→G.K→G.X→G.K→G.X→Rt:=fun x0 x1 x2 x3 x4=>n [yI x0,yR 22 x1,yR 20 x2,yR 22 x3,yR 20 x4]
def X68x2:=V68x2 (xD sS e [1,1,1,0,1,0,1,1,1,1,1,1,1,1,1,0,1,1,1,0] aDQ (aCx c e))
def B68x3(c:TC0)(a10:Int)(b107:G.K)(b108:G.X)(b104:G.K)(b106:G.X):Rt:=
 some [yR 22 b107,yI a10,yR 20 b108]
def V68x3(n:Nt):Int→G.K→G.X→G.K→G.X→Rt:=fun x0 x1 x2 x3 x4=>n [yI x0,yR 22 x1,yR 20 x2,yR 22 x3,yR 20 x4]
def X68x3:=V68x3 (xD sS e [1,1,1,1,1,1,1,1,1,0] aDP (q68x0 c e))
def B68x4(c:TC0)(k3:Int→G.K→G.X→G.K→G.X→Rt)(a163:Bool)(a1:Int)(a10:Int)(b107:G.K)(b108:G.X)(b104:G.K)(b106:G.X):Rt:=
 cnd a163 (obL [.rc 20] (c 57 [yI (2:Int),yI a1]) fun(r0:G.X×Unit)=>
 some [yR 22 b107,yI a10,yR 20 r0.1]) (k3 a10 b107 b108 b104 b106)
def V68x4(n:Nt):Bool→Int→Int→G.K→G.X→G.K→G.X→Rt:=fun x0 x1 x2 x3 x4 x5 x6=>n [yB x0,yI x1,yI x2,yR 22 x3,yR 20 x4,yR 22 x5,yR 20 x6]
def X68x4:=V68x4 (xD sS e [1,1,1,1,1,1,1,1,0,0,1,1,1,0,1,1,1,1,0] aDO (q68x5 c e))
def B68x5(c:TC0)(a1:Int)(b107:G.K)(b108:G.X)(b104:G.K)(b106:G.X):Rt:=
 some [yR 22 b107,yI a1,yR 20 b108]
def V68x5(n:Nt):Int→G.K→G.X→G.K→G.X→Rt:=fun x0 x1 x2 x3 x4=>n [yI x0,yR 22 x1,yR 20 x2,yR 22 x3,yR 20 x4]
def X68x5:=V68x5 (xD sS e [1,1,1,0,1,0,1,1,1,1,1,1,1,0,1,1,1,0] aDN (aCx c e))
theorem s68x0:V68x0 (xF sS c e)=aEK c (X68x1 c e) (X68x2 c e) (X68x3 c e) (X68x4 c e):=by kernel_rfl
theorem s68x1:V68x1 (xA sS c e [1,1,1,0,1,0,1,1,1,1,1,1,1,0,1,1,0,1,0] aDR (q68x3 c e))=B68x1 c (X68x5 c e):=by kernel_rfl
theorem s68x2:V68x2 (xA sS c e [1,1,1,0,1,0,1,1,1,1,1,1,1,1,1,0,1,1,1,0] aDQ (aCx c e))=B68x2 c:=by kernel_rfl
theorem s68x3:V68x3 (xA sS c e [1,1,1,1,1,1,1,1,1,0] aDP (q68x0 c e))=B68x3 c:=by kernel_rfl
theorem s68x4:V68x4 (xA sS c e [1,1,1,1,1,1,1,1,0,0,1,1,1,0,1,1,1,1,0] aDO (q68x5 c e))=B68x4 c (X68x3 c e):=by kernel_rfl
theorem s68x5:V68x5 (xA sS c e [1,1,1,0,1,0,1,1,1,1,1,1,1,0,1,1,1,0] aDN (aCx c e))=B68x5 c:=by kernel_rfl
def J68x2(c:TC0)(L:Nat):Int→G.K→G.X→G.K→G.X→Rt:=B68x2 c
theorem j68x2:X68x2 c (cu c L)=J68x2 c L:=by rw[X68x2,bK,s68x2];rfl
def J68x3(c:TC0)(L:Nat):Int→G.K→G.X→G.K→G.X→Rt:=B68x3 c
theorem j68x3:X68x3 c (cu c L)=J68x3 c L:=by rw[X68x3,bK,s68x3];rfl
def J68x4(c:TC0)(L:Nat):Bool→Int→Int→G.K→G.X→G.K→G.X→Rt:=B68x4 c (J68x3 c L)
theorem j68x4:X68x4 c (cu c L)=J68x4 c L:=by rw[X68x4,bK,s68x4];simp only[j68x3];rfl
def J68x5(c:TC0)(L:Nat):Int→G.K→G.X→G.K→G.X→Rt:=B68x5 c
theorem j68x5:X68x5 c (cu c L)=J68x5 c L:=by rw[X68x5,bK,s68x5];rfl
def J68x1(c:TC0)(L:Nat):Bool→Int→G.K→G.X→G.K→G.X→Rt:=B68x1 c (J68x5 c L)
theorem j68x1:X68x1 c (cu c L)=J68x1 c L:=by rw[X68x1,bK,s68x1];simp only[j68x5];rfl
def F68(c:TC0)(L:Nat):List UInt8→Int→Rt:=aEK c (J68x1 c L) (J68x2 c L) (J68x3 c L) (J68x4 c L)
theorem e68:V68x0 (xF sS c (cu c L))=F68 c L:=by rw[s68x0];simp only[j68x1,j68x2,j68x3,j68x4];rfl
theorem c68(a0:List UInt8)(a1:Int)(L n:Nat):CTp L (n+1) 68 [yT a0,yI a1]=F68 (CTp L n) L a0 a1:=by rw[←e68];exact cg (x:=sS) (by kernel_rfl) (by kernel_rfl) L n _
def q71x0(c:TC0)(e:Cu):Kt:=xK sR
def q71x1(c:TC0)(e:Cu):Kt:=xT sR c e [1,1,1,1] (q71x0 c e)
def q71x2(c:TC0)(e:Cu):Kt:=eX U0 0 (q71x1 c e)
def q71x3(c:TC0)(e:Cu)(n1:Nt):Kt:=lpK U0 qC n1 (q71x2 c e)
def q71x4(c:TC0)(e:Cu)(n1:Nt):Kt:=eX U0 1 (q71x3 c e n1)
def q71x5(c:TC0)(e:Cu)(n1:Nt):Kt:=xT sR c e [1,1,1,0,0,0,1,0,1] (q71x4 c e n1)
def q71x6(c:TC0)(e:Cu):Kt:=xT sR c e [1,1,1,1,0,1,1] (q71x0 c e)
def q71x7(c:TC0)(e:Cu):Kt:=eX U0 3 (q71x6 c e)
def B71x0(c:TC0)(e1:Int→List G.O→G.P→G.O→G.O→G.X→Rt)(a1:Int)(b0:G.P):Rt:=
 obL [.rc 2] (c 44 []) fun(r0:G.O×Unit)=>
 e1 a1 ([]:List G.O) b0 r0.1 (G.O.mk (0:Int) ([]:List UInt8) ([]:List UInt8) (G.Y.mk ([]:List UInt8) ([]:List UInt8)) ([]:List UInt8) ([]:List G.O)) (G.X.mk (0:Int) (0:Int))
def V71x0(n:Nt):Int→G.P→Rt:=fun x0 x1=>n [yI x0,yR 23 x1]
def B71x1(c:TC0)(k2:Bool→List G.O→Int→G.P→G.O→G.O→G.X→Rt)(k3:List G.O→G.P→G.O→G.O→G.X→Rt)(a1:Int)(a6:List G.O)(b0:G.P)(b107:G.O)(b104:G.O)(b105:G.X):Rt:=
 ob (idx b0.t b0.pos) fun v0=>
 cnd (!decide (v0.kind=(2:Int))) (ob (idx b0.t b0.pos) fun v1=>
 cnd (decide (v1.kind=(3:Int))) (k2 (decide ((0:Int)<(List.length a6:Int))) a6 a1 b0 b107 b104 b105) (k2 false a6 a1 b0 b107 b104 b105)) (k3 a6 b0 b107 b104 b105)
def aEC(n:Nt):Int→List G.O→G.P→G.O→G.O→G.X→Rt:=fun x0 x1 x2 x3 x4 x5=>n [yI x0,yS 2 x1,yR 23 x2,yR 2 x3,yR 2 x4,yR 20 x5]
def X71x1:=aEC (xE sR e [1,1,1,0,0,0] qC (q71x2 c e))
def B71x2(c:TC0)(k3:List G.O→G.P→G.O→G.O→G.X→Rt)(n1:Int→List G.O→G.P→G.O→G.O→G.X→Rt)(a43:Bool)(a6:List G.O)(a1:Int)(b0:G.P)(b107:G.O)(b104:G.O)(b105:G.X):Rt:=
 cnd a43 (obL [.rc 2,.rc 20,.rc 23] (c 58 [yI a1,yR 23 (G.P.mk b0.l b0.current b0.t (IntKind.i64.wrap (b0.pos+(1:Int))))]) fun(r0:G.O×G.X×G.P×Unit)=>
 cnd (!decide (r0.2.1.err=(0:Int))) (some [yR 2 (G.O.mk (0:Int) ([]:List UInt8) ([]:List UInt8) (G.Y.mk ([]:List UInt8) ([]:List UInt8)) ([]:List UInt8) ([]:List G.O)),yR 20 r0.2.1,yR 23 r0.2.2.1]) (ob (idx r0.2.2.1.t r0.2.2.1.pos) fun v1=>
 cnd (decide (v1.kind=(2:Int))) (k3 a6 r0.2.2.1 r0.1 b104 b105) (cnd (decide (v1.kind=(0:Int))) (obL [.rc 20] (c 57 [yI (11:Int),yI v1.pos]) fun(r2:G.X×Unit)=>
 some [yR 2 (G.O.mk (0:Int) ([]:List UInt8) ([]:List UInt8) (G.Y.mk ([]:List UInt8) ([]:List UInt8)) ([]:List UInt8) ([]:List G.O)),yR 20 r2.1,yR 23 r0.2.2.1]) (obL [.rc 20] (c 57 [yI (12:Int),yI v1.pos]) fun(r3:G.X×Unit)=>
 some [yR 2 (G.O.mk (0:Int) ([]:List UInt8) ([]:List UInt8) (G.Y.mk ([]:List UInt8) ([]:List UInt8)) ([]:List UInt8) ([]:List G.O)),yR 20 r3.1,yR 23 r0.2.2.1])))) (obL [.rc 2,.rc 20,.rc 23] (c 58 [yI a1,yR 23 b0]) fun(r4:G.O×G.X×G.P×Unit)=>
 cnd (!decide (r4.2.1.err=(0:Int))) (some [yR 2 (G.O.mk (0:Int) ([]:List UInt8) ([]:List UInt8) (G.Y.mk ([]:List UInt8) ([]:List UInt8)) ([]:List UInt8) ([]:List G.O)),yR 20 r4.2.1,yR 23 r4.2.2.1]) (chk (Nat.ble ((List.length a6+List.length ([r4.1]:List G.O))*112) 1073741824)<|
 n1 a1 (a6++([r4.1]:List G.O)) r4.2.2.1 b107 b104 b105))
def V71x2(n:Nt):Bool→List G.O→Int→G.P→G.O→G.O→G.X→Rt:=fun x0 x1 x2 x3 x4 x5 x6=>n [yB x0,yS 2 x1,yI x2,yR 23 x3,yR 2 x4,yR 2 x5,yR 20 x6]
def X71x2(n1:Nt):=V71x2 (xD sR e [1,1,1,0,0,0,1,0,0,1,0] aDM (q71x5 c e n1))
def B71x3(c:TC0)(e4:List G.O→Int→G.P→G.O→G.O→G.X→Rt)(a6:List G.O)(b0:G.P)(b107:G.O)(b104:G.O)(b105:G.X):Rt:=
 e4 a6 (IntKind.i64.wrap ((List.length a6:Int)-(1:Int))) (G.P.mk b0.l b0.current b0.t (IntKind.i64.wrap (b0.pos+(1:Int)))) b107 b104 b105
def V71x3(n:Nt):List G.O→G.P→G.O→G.O→G.X→Rt:=fun x0 x1 x2 x3 x4=>n [yS 2 x0,yR 23 x1,yR 2 x2,yR 2 x3,yR 20 x4]
def X71x3:=V71x3 (xD sR e [1,1,1,1,0] aDL (q71x0 c e))
def B71x4(c:TC0)(n4:List G.O→Int→G.P→G.O→G.O→G.X→Rt)(a6:List G.O)(a13:Int)(b0:G.P)(b107:G.O)(b104:G.O)(b105:G.X):Rt:=
 cnd (decide ((0:Int)≤a13)) (ob (idx a6 a13) fun v0=>
 obL [.rc 2] (c 98 [yR 2 v0,yR 2 b107]) fun(r1:G.O×Unit)=>
 n4 a6 (IntKind.i64.wrap (a13-(1:Int))) b0 r1.1 b104 b105) (some [yR 2 b107,yR 20 (G.X.mk (0:Int) (0:Int)),yR 23 b0])
def V71x4(n:Nt):List G.O→Int→G.P→G.O→G.O→G.X→Rt:=fun x0 x1 x2 x3 x4 x5=>n [yS 2 x0,yI x1,yR 23 x2,yR 2 x3,yR 2 x4,yR 20 x5]
def X71x4:=V71x4 (xE sR e [1,1,1,1,0,1,0,1,0,0] uO (q71x7 c e))
theorem s71x0:V71x0 (xF sR c e)=B71x0 c (X71x1 c e):=by kernel_rfl
theorem s71x1(n1:Nt):aEC (xA sR c e [1,1,1,0,0,0] qC (lpK U0 qC n1 (q71x2 c e)))=B71x1 c (X71x2 c e n1) (X71x3 c e):=by kernel_rfl
theorem s71x2(n1:Nt):V71x2 (xA sR c e [1,1,1,0,0,0,1,0,0,1,0] aDM (q71x5 c e n1))=B71x2 c (X71x3 c e) (aEC n1):=by kernel_rfl
theorem s71x3:V71x3 (xA sR c e [1,1,1,1,0] aDL (q71x0 c e))=B71x3 c (X71x4 c e):=by kernel_rfl
theorem s71x4(n4:Nt):V71x4 (xA sR c e [1,1,1,1,0,1,0,1,0,0] uO (lpK U0 uO n4 (q71x7 c e)))=B71x4 c (V71x4 n4):=by kernel_rfl
def W71x4(c:TC0)(L:Nat):Nat→List G.O→Int→G.P→G.O→G.O→G.X→Rt
 |0=>fun _ _ _ _ _ _=>none
 |n+1=>B71x4 c (W71x4 c L n)
theorem u71x4(n:Nat):V71x4 (xL sR c L [1,1,1,1,0,1,0,1,0,0] uO (q71x7 c (cu c L)) n)=W71x4 c L n:=by
 induction n with
 |zero=>rfl
 |succ n ih=>rw[kY,s71x4];simp only[ih];rfl
theorem w71x4:X71x4 c (cu c L)=W71x4 c L L:=u71x4 c L L
def J71x3(c:TC0)(L:Nat):List G.O→G.P→G.O→G.O→G.X→Rt:=B71x3 c (W71x4 c L L)
theorem j71x3:X71x3 c (cu c L)=J71x3 c L:=by rw[X71x3,bK,s71x3];simp only[w71x4];rfl
def J71x2(c:TC0)(L:Nat)(n1:Int→List G.O→G.P→G.O→G.O→G.X→Rt):Bool→List G.O→Int→G.P→G.O→G.O→G.X→Rt:=B71x2 c (J71x3 c L) n1
theorem j71x2(n1:Nt):X71x2 c (cu c L) n1=J71x2 c L (aEC n1):=by rw[X71x2,bK,s71x2];simp only[j71x3];rfl
def W71x1(c:TC0)(L:Nat):Nat→Int→List G.O→G.P→G.O→G.O→G.X→Rt
 |0=>fun _ _ _ _ _ _=>none
 |n+1=>B71x1 c (J71x2 c L (W71x1 c L n)) (J71x3 c L)
theorem u71x1(n:Nat):aEC (xL sR c L [1,1,1,0,0,0] qC (q71x2 c (cu c L)) n)=W71x1 c L n:=by
 induction n with
 |zero=>rfl
 |succ n ih=>rw[kY,s71x1];simp only[j71x2,j71x3,ih];rfl
theorem w71x1:X71x1 c (cu c L)=W71x1 c L L:=u71x1 c L L
def F71(c:TC0)(L:Nat):Int→G.P→Rt:=B71x0 c (W71x1 c L L)
theorem e71:V71x0 (xF sR c (cu c L))=F71 c L:=by rw[s71x0];simp only[w71x1];rfl
theorem c71(a1:Int)(b0:G.P)(L n:Nat):CTp L (n+1) 71 [yI a1,yR 23 b0]=F71 (CTp L n) L a1 b0:=by rw[←e71];exact cg (x:=sR) (by kernel_rfl) (by kernel_rfl) L n _
end
end Go.TV
namespace Go.TV
open Go.AI Go.PI Go.Proofs
set_option maxRecDepth 20000
noncomputable section
variable(c:TC0)(e:Cu)(L:Nat)
def q72x0(c:TC0)(e:Cu):Kt:=xK aBT
def q72x1(c:TC0)(e:Cu):Kt:=xT aBT c e [1,1,1,1] (q72x0 c e)
def q72x2(c:TC0)(e:Cu):Kt:=xT aBT c e [1,1,1,1,1] (q72x0 c e)
def q72x3(c:TC0)(e:Cu):Kt:=eX U0 0 (q72x2 c e)
def B72x0(c:TC0)(k1:Bool→List UInt8→List UInt8→G.A→G.Y→Rt)(a0:List G.A)(a1:List UInt8)(a2:List UInt8):Rt:=
 obL [.rc 9,.bool] (c 99 [yS 9 a0,yT a1]) fun(r0:G.A×Bool×Unit)=>
 cnd (!r0.2.1) (some [yR 1 (G.Y.mk ([]:List UInt8) ([]:List UInt8)),yI (13:Int)]) (cnd (decide ((List.length a2:Int)<(1:Int))) (k1 true a1 a2 r0.1 (G.Y.mk ([]:List UInt8) ([]:List UInt8))) (k1 (decide ((40:Int)<(List.length a2:Int))) a1 a2 r0.1 (G.Y.mk ([]:List UInt8) ([]:List UInt8))))
def V72x0(n:Nt):List G.A→List UInt8→List UInt8→Rt:=fun x0 x1 x2=>n [yS 9 x0,yT x1,yT x2]
def B72x1(c:TC0)(e2:Int→List UInt8→List UInt8→G.A→G.Y→Rt)(a27:Bool)(a1:List UInt8)(a2:List UInt8)(b108:G.A)(b106:G.Y):Rt:=
 cnd a27 (some [yR 1 (G.Y.mk ([]:List UInt8) ([]:List UInt8)),yI (3:Int)]) (e2 (0:Int) a1 a2 b108 b106)
def V72x1(n:Nt):Bool→List UInt8→List UInt8→G.A→G.Y→Rt:=fun x0 x1 x2 x3 x4=>n [yB x0,yT x1,yT x2,yR 9 x3,yR 1 x4]
def X72x1:=V72x1 (xD aBT e [1,1,1,0,1,0] aDK (q72x1 c e))
def B72x2(c:TC0)(n2:Int→List UInt8→List UInt8→G.A→G.Y→Rt)(a10:Int)(a1:List UInt8)(a2:List UInt8)(b108:G.A)(b106:G.Y):Rt:=
 cnd (decide (a10<(List.length b108.imports:Int))) (ob (idx b108.imports a10) fun v0=>
 cnd (decide (v0.name=a2)) (ob (idx b108.imports a10) fun v1=>
 some [yR 1 v1,yI (0:Int)]) (n2 (IntKind.i64.wrap (a10+(1:Int))) a1 a2 b108 b106)) (some [yR 1 (G.Y.mk a1 a2),yI (0:Int)])
def V72x2(n:Nt):Int→List UInt8→List UInt8→G.A→G.Y→Rt:=fun x0 x1 x2 x3 x4=>n [yI x0,yT x1,yT x2,yR 9 x3,yR 1 x4]
def X72x2:=V72x2 (xE aBT e [1,1,1,1,0,1,0,0] uN (q72x3 c e))
theorem s72x0:V72x0 (xF aBT c e)=B72x0 c (X72x1 c e):=by kernel_rfl
theorem s72x1:V72x1 (xA aBT c e [1,1,1,0,1,0] aDK (q72x1 c e))=B72x1 c (X72x2 c e):=by kernel_rfl
theorem s72x2(n2:Nt):V72x2 (xA aBT c e [1,1,1,1,0,1,0,0] uN (lpK U0 uN n2 (q72x3 c e)))=B72x2 c (V72x2 n2):=by kernel_rfl
def W72x2(c:TC0)(L:Nat):Nat→Int→List UInt8→List UInt8→G.A→G.Y→Rt
 |0=>fun _ _ _ _ _=>none
 |n+1=>B72x2 c (W72x2 c L n)
theorem u72x2(n:Nat):V72x2 (xL aBT c L [1,1,1,1,0,1,0,0] uN (q72x3 c (cu c L)) n)=W72x2 c L n:=by
 induction n with
 |zero=>rfl
 |succ n ih=>rw[kY,s72x2];simp only[ih];rfl
theorem w72x2:X72x2 c (cu c L)=W72x2 c L L:=u72x2 c L L
def J72x1(c:TC0)(L:Nat):Bool→List UInt8→List UInt8→G.A→G.Y→Rt:=B72x1 c (W72x2 c L L)
theorem j72x1:X72x1 c (cu c L)=J72x1 c L:=by rw[X72x1,bK,s72x1];simp only[w72x2];rfl
def F72(c:TC0)(L:Nat):List G.A→List UInt8→List UInt8→Rt:=B72x0 c (J72x1 c L)
theorem e72:V72x0 (xF aBT c (cu c L))=F72 c L:=by rw[s72x0];simp only[j72x1];rfl
theorem c72(a0:List G.A)(a1:List UInt8)(a2:List UInt8)(L n:Nat):CTp L (n+1) 72 [yS 9 a0,yT a1,yT a2]=F72 (CTp L n) L a0 a1 a2:=by rw[←e72];exact cg (x:=aBT) (by kernel_rfl) (by kernel_rfl) L n _
def q73x0(c:TC0)(e:Cu):Kt:=xK ii73
def q73x1(c:TC0)(e:Cu):Kt:=xT ii73 c e [1,1] (q73x0 c e)
def B73x0(c:TC0)(k1:Bool→Int→G.O→Rt)(a0:G.O)(a1:Int):Rt:=
 cnd (!decide ((List.length a0.pair:Int)=(2:Int))) (k1 true a1 a0) (k1 (decide (a1≤(1:Int))) a1 a0)
def V73x0(n:Nt):G.O→Int→Rt:=fun x0 x1=>n [yR 2 x0,yI x1]
def B73x1(c:TC0)(a13:Bool)(a1:Int)(b102:G.O):Rt:=
 cnd a13 (some [yI (1:Int)]) (ob (idx b102.pair (0:Int)) fun v0=>
 obL [i6] (c 73 [yR 2 v0,yI (IntKind.i64.wrap (a1-(1:Int)))]) fun(r1:Int×Unit)=>
 cnd (decide (a1≤(IntKind.i64.wrap ((1:Int)+r1.1)))) (some [yI a1]) (ob (idx b102.pair (1:Int)) fun v2=>
 obL [i6] (c 73 [yR 2 v2,yI (IntKind.i64.wrap (a1-(IntKind.i64.wrap ((1:Int)+r1.1))))]) fun(r3:Int×Unit)=>
 some [yI (IntKind.i64.wrap ((IntKind.i64.wrap ((1:Int)+r1.1))+r3.1))]))
def V73x1(n:Nt):Bool→Int→G.O→Rt:=fun x0 x1 x2=>n [yB x0,yI x1,yR 2 x2]
def X73x1:=V73x1 (xD ii73 e [1,0,1,0] aDJ (q73x1 c e))
theorem s73x0:V73x0 (xF ii73 c e)=B73x0 c (X73x1 c e):=by kernel_rfl
theorem s73x1:V73x1 (xA ii73 c e [1,0,1,0] aDJ (q73x1 c e))=B73x1 c:=by kernel_rfl
def J73x1(c:TC0)(L:Nat):Bool→Int→G.O→Rt:=B73x1 c
theorem j73x1:X73x1 c (cu c L)=J73x1 c L:=by rw[X73x1,bK,s73x1];rfl
def F73(c:TC0)(L:Nat):G.O→Int→Rt:=B73x0 c (J73x1 c L)
theorem e73:V73x0 (xF ii73 c (cu c L))=F73 c L:=by rw[s73x0];simp only[j73x1];rfl
theorem c73(a0:G.O)(a1:Int)(L n:Nat):CTp L (n+1) 73 [yR 2 a0,yI a1]=F73 (CTp L n) L a0 a1:=by rw[←e73];exact cg (x:=ii73) (by kernel_rfl) (by kernel_rfl) L n _
def q74x0(c:TC0)(e:Cu):Kt:=xK ii74
def B74x0(c:TC0)(k1:Bool→Rt)(a0:G.Y):Rt:=
 obL [.bool] (c 100 [yR 1 a0]) fun(r0:Bool×Unit)=>
 cnd r0.1 (obL [.rc 1] (c 19 [yT ([110,105,108]:List UInt8)]) fun(r1:G.Y×Unit)=>
 cnd (!decide (a0=r1.1)) (obL [.rc 1] (c 19 [yT ([116]:List UInt8)]) fun(r2:G.Y×Unit)=>
 k1 (!decide (a0=r2.1))) (k1 false)) (k1 false)
def V74x0(n:Nt):G.Y→Rt:=fun x0=>n [yR 1 x0]
def B74x1(c:TC0)(a2:Bool):Rt:=
 some [yB a2]
def V74x1(n:Nt):Bool→Rt:=fun x0=>n [yB x0]
def X74x1:=V74x1 (xD ii74 e [1,1,0] aDI (q74x0 c e))
theorem s74x0:V74x0 (xF ii74 c e)=B74x0 c (X74x1 c e):=by kernel_rfl
theorem s74x1:V74x1 (xA ii74 c e [1,1,0] aDI (q74x0 c e))=B74x1 c:=by kernel_rfl
def J74x1(c:TC0)(L:Nat):Bool→Rt:=B74x1 c
theorem j74x1:X74x1 c (cu c L)=J74x1 c L:=by rw[X74x1,bK,s74x1];rfl
def F74(c:TC0)(L:Nat):G.Y→Rt:=B74x0 c (J74x1 c L)
theorem e74:V74x0 (xF ii74 c (cu c L))=F74 c L:=by rw[s74x0];simp only[j74x1];rfl
theorem c74(a0:G.Y)(L n:Nat):CTp L (n+1) 74 [yR 1 a0]=F74 (CTp L n) L a0:=by rw[←e74];exact cg (x:=ii74) (by kernel_rfl) (by kernel_rfl) L n _
def q79x0(c:TC0)(e:Cu):Kt:=xK aBS
def q79x1(c:TC0)(e:Cu):Kt:=xT aBS c e [1,1] (q79x0 c e)
def q79x2(c:TC0)(e:Cu):Kt:=eX U0 0 (q79x1 c e)
def q79x3(c:TC0)(e:Cu)(n1:Nt):Kt:=lpK U0 qB n1 (q79x2 c e)
def q79x4(c:TC0)(e:Cu)(n1:Nt):Kt:=xT aBS c e [1,0,1,0,0,1,1] (q79x3 c e n1)
def q79x5(c:TC0)(e:Cu)(n1:Nt):Kt:=eX U0 1 (q79x4 c e n1)
def B79x0(c:TC0)(e1:List G.E→Int→G.Y→G.M→Rt)(a0:List G.E)(a1:G.Y):Rt:=
 e1 a0 (0:Int) a1 (G.M.mk (G.Y.mk ([]:List UInt8) ([]:List UInt8)) ([]:List G.Y) false (G.T.mk (0:Int) (G.Y.mk ([]:List UInt8) ([]:List UInt8)) (G.O.mk (0:Int) ([]:List UInt8) ([]:List UInt8) (G.Y.mk ([]:List UInt8) ([]:List UInt8)) ([]:List UInt8) ([]:List G.O)) ([]:List G.T)))
def V79x0(n:Nt):List G.E→G.Y→Rt:=fun x0 x1=>n [yS 16 x0,yR 1 x1]
def B79x1(c:TC0)(k2:Bool→Int→List G.E→G.Y→G.M→Rt)(a0:List G.E)(a6:Int)(b103:G.Y)(b104:G.M):Rt:=
 cnd (decide (a6<(List.length a0:Int))) (ob (idx a0 a6) fun v0=>
 cnd (decide (v0.kind=(2:Int))) (ob (idx a0 a6) fun v1=>
 k2 (decide (v1.mac.name=b103)) a6 a0 b103 b104) (k2 false a6 a0 b103 b104)) (some [yR 10 (G.M.mk (G.Y.mk ([]:List UInt8) ([]:List UInt8)) ([]:List G.Y) false (G.T.mk (0:Int) (G.Y.mk ([]:List UInt8) ([]:List UInt8)) (G.O.mk (0:Int) ([]:List UInt8) ([]:List UInt8) (G.Y.mk ([]:List UInt8) ([]:List UInt8)) ([]:List UInt8) ([]:List G.O)) ([]:List G.T))),yB false])
def aEB(n:Nt):List G.E→Int→G.Y→G.M→Rt:=fun x0 x1 x2 x3=>n [yS 16 x0,yI x1,yR 1 x2,yR 10 x3]
def X79x1:=aEB (xE aBS e [1,0,1,0,0] qB (q79x2 c e))
def B79x2(c:TC0)(n1:List G.E→Int→G.Y→G.M→Rt)(a28:Bool)(a6:Int)(a0:List G.E)(b103:G.Y)(b104:G.M):Rt:=
 cnd a28 (ob (idx a0 a6) fun v0=>
 some [yR 10 v0.mac,yB true]) (n1 a0 (IntKind.i64.wrap (a6+(1:Int))) b103 b104)
def V79x2(n:Nt):Bool→Int→List G.E→G.Y→G.M→Rt:=fun x0 x1 x2 x3 x4=>n [yB x0,yI x1,yS 16 x2,yR 1 x3,yR 10 x4]
def X79x2(n1:Nt):=V79x2 (xD aBS e [1,0,1,0,0,1,0,0,1,0] aDH (q79x5 c e n1))
theorem s79x0:V79x0 (xF aBS c e)=B79x0 c (X79x1 c e):=by kernel_rfl
theorem s79x1(n1:Nt):aEB (xA aBS c e [1,0,1,0,0] qB (lpK U0 qB n1 (q79x2 c e)))=B79x1 c (X79x2 c e n1):=by kernel_rfl
theorem s79x2(n1:Nt):V79x2 (xA aBS c e [1,0,1,0,0,1,0,0,1,0] aDH (q79x5 c e n1))=B79x2 c (aEB n1):=by kernel_rfl
def J79x2(c:TC0)(L:Nat)(n1:List G.E→Int→G.Y→G.M→Rt):Bool→Int→List G.E→G.Y→G.M→Rt:=B79x2 c n1
theorem j79x2(n1:Nt):X79x2 c (cu c L) n1=J79x2 c L (aEB n1):=by rw[X79x2,bK,s79x2];rfl
def W79x1(c:TC0)(L:Nat):Nat→List G.E→Int→G.Y→G.M→Rt
 |0=>fun _ _ _ _=>none
 |n+1=>B79x1 c (J79x2 c L (W79x1 c L n))
theorem u79x1(n:Nat):aEB (xL aBS c L [1,0,1,0,0] qB (q79x2 c (cu c L)) n)=W79x1 c L n:=by
 induction n with
 |zero=>rfl
 |succ n ih=>rw[kY,s79x1];simp only[j79x2,ih];rfl
theorem w79x1:X79x1 c (cu c L)=W79x1 c L L:=u79x1 c L L
def F79(c:TC0)(L:Nat):List G.E→G.Y→Rt:=B79x0 c (W79x1 c L L)
theorem e79:V79x0 (xF aBS c (cu c L))=F79 c L:=by rw[s79x0];simp only[w79x1];rfl
theorem c79(a0:List G.E)(a1:G.Y)(L n:Nat):CTp L (n+1) 79 [yS 16 a0,yR 1 a1]=F79 (CTp L n) L a0 a1:=by rw[←e79];exact cg (x:=aBS) (by kernel_rfl) (by kernel_rfl) L n _
def B83x0(c:TC0)(a0:G.T):Rt:=
 obL [i6] (c 105 [yR 3 a0,yI (3001:Int)]) fun(r0:Int×Unit)=>
 some [yI r0.1]
def V83x0(n:Nt):G.T→Rt:=fun x0=>n [yR 3 x0]
theorem s83x0:V83x0 (xF ii83 c e)=B83x0 c:=by kernel_rfl
def F83(c:TC0)(L:Nat):G.T→Rt:=B83x0 c
theorem e83:V83x0 (xF ii83 c (cu c L))=F83 c L:=s83x0 _ _
theorem c83(a0:G.T)(L n:Nat):CTp L (n+1) 83 [yR 3 a0]=F83 (CTp L n) L a0:=by rw[←e83];exact cg (x:=ii83) (by kernel_rfl) (by kernel_rfl) L n _
def B84x0(c:TC0)(a0:G.T):Rt:=
 obL [i6] (c 106 [yR 3 a0,yI (201:Int)]) fun(r0:Int×Unit)=>
 some [yI r0.1]
def V84x0(n:Nt):G.T→Rt:=fun x0=>n [yR 3 x0]
theorem s84x0:V84x0 (xF ii84 c e)=B84x0 c:=by kernel_rfl
def F84(c:TC0)(L:Nat):G.T→Rt:=B84x0 c
theorem e84:V84x0 (xF ii84 c (cu c L))=F84 c L:=s84x0 _ _
theorem c84(a0:G.T)(L n:Nat):CTp L (n+1) 84 [yR 3 a0]=F84 (CTp L n) L a0:=by rw[←e84];exact cg (x:=ii84) (by kernel_rfl) (by kernel_rfl) L n _
def q85x0(c:TC0)(e:Cu):Kt:=xK uA
def q85x1(c:TC0)(e:Cu):Kt:=xT uA c e [1,1,1] (q85x0 c e)
def aBa(c:TC0)(e:Cu):Kt:=eX U0 0 (q85x1 c e)
def q85x3(c:TC0)(e:Cu):Kt:=xT uA c e [1,1,0,1,0,1,1,1,1,1,0,1] (aBa c e)
def q85x4(c:TC0)(e:Cu):Kt:=xT uA c e [1,1,0,1,0,1,1,1,1,1,0,1,1] (aBa c e)
def q85x5(c:TC0)(e:Cu):Kt:=eX U0 1 (q85x4 c e)
def B85x0(c:TC0)(k1:Bool→Rt)(k2:Bool→Rt)(k3:Bool→G.T→Rt)(a0:G.T):Rt:=
 obL [.bool] (c 24 [yR 2 a0.value,yR 2 (G.O.mk (0:Int) ([]:List UInt8) ([]:List UInt8) (G.Y.mk ([]:List UInt8) ([]:List UInt8)) ([]:List UInt8) ([]:List G.O))]) fun(r0:Bool×Unit)=>
 cnd (decide (a0.kind=(1:Int))) (cnd r0.1 (obL [.bool] (c 74 [yR 1 a0.name]) fun(r1:Bool×Unit)=>
 cnd r1.1 (k1 (decide ((List.length a0.args:Int)=(0:Int)))) (k1 false)) (k1 false)) (cnd (decide (a0.kind=(2:Int))) (cnd (decide (a0.name=(G.Y.mk ([]:List UInt8) ([]:List UInt8)))) (obL [.bool] (c 107 [yR 2 a0.value]) fun(r2:Bool×Unit)=>
 cnd r2.1 (k2 (decide ((List.length a0.args:Int)=(0:Int)))) (k2 false)) (k2 false)) (cnd (decide (a0.kind=(3:Int))) (cnd (!r0.1) (k3 true a0) (obL [.bool] (c 100 [yR 1 a0.name]) fun(r3:Bool×Unit)=>
 cnd (!r3.1) (k3 true a0) (k3 (decide ((8:Int)<(List.length a0.args:Int))) a0))) (some [yB false])))
def V85x0(n:Nt):G.T→Rt:=fun x0=>n [yR 3 x0]
def B85x1(c:TC0)(a2:Bool):Rt:=
 some [yB a2]
def V85x1(n:Nt):Bool→Rt:=fun x0=>n [yB x0]
def X85x1:=V85x1 (xD uA e [1,1,0,1,0,1,0,1,0] aDG (aBa c e))
def B85x2(c:TC0)(a2:Bool):Rt:=
 some [yB a2]
def V85x2(n:Nt):Bool→Rt:=fun x0=>n [yB x0]
def X85x2:=V85x2 (xD uA e [1,1,0,1,0,1,1,1,0,1,0] aDF (aBa c e))
def B85x3(c:TC0)(e4:Int→G.T→Rt)(a57:Bool)(b101:G.T):Rt:=
 cnd a57 (some [yB false]) (e4 (0:Int) b101)
def V85x3(n:Nt):Bool→G.T→Rt:=fun x0 x1=>n [yB x0,yR 3 x1]
def X85x3:=V85x3 (xD uA e [1,1,0,1,0,1,1,1,1,1,0,0,1,0] aDE (q85x3 c e))
def B85x4(c:TC0)(n4:Int→G.T→Rt)(a4:Int)(b101:G.T):Rt:=
 cnd (decide (a4<(List.length b101.args:Int))) (ob (idx b101.args a4) fun v0=>
 obL [.bool] (c 85 [yR 3 v0]) fun(r1:Bool×Unit)=>
 cnd (!r1.1) (some [yB false]) (n4 (IntKind.i64.wrap (a4+(1:Int))) b101)) (some [yB true])
def V85x4(n:Nt):Int→G.T→Rt:=fun x0 x1=>n [yI x0,yR 3 x1]
def X85x4:=V85x4 (xE uA e [1,1,0,1,0,1,1,1,1,1,0,1,0,1,0,0] uM (q85x5 c e))
theorem s85x0:V85x0 (xF uA c e)=B85x0 c (X85x1 c e) (X85x2 c e) (X85x3 c e):=by kernel_rfl
theorem s85x1:V85x1 (xA uA c e [1,1,0,1,0,1,0,1,0] aDG (aBa c e))=B85x1 c:=by kernel_rfl
theorem s85x2:V85x2 (xA uA c e [1,1,0,1,0,1,1,1,0,1,0] aDF (aBa c e))=B85x2 c:=by kernel_rfl
theorem s85x3:V85x3 (xA uA c e [1,1,0,1,0,1,1,1,1,1,0,0,1,0] aDE (q85x3 c e))=B85x3 c (X85x4 c e):=by kernel_rfl
theorem s85x4(n4:Nt):V85x4 (xA uA c e [1,1,0,1,0,1,1,1,1,1,0,1,0,1,0,0] uM (lpK U0 uM n4 (q85x5 c e)))=B85x4 c (V85x4 n4):=by kernel_rfl
def J85x1(c:TC0)(L:Nat):Bool→Rt:=B85x1 c
theorem j85x1:X85x1 c (cu c L)=J85x1 c L:=by rw[X85x1,bK,s85x1];rfl
def J85x2(c:TC0)(L:Nat):Bool→Rt:=B85x2 c
theorem j85x2:X85x2 c (cu c L)=J85x2 c L:=by rw[X85x2,bK,s85x2];rfl
def W85x4(c:TC0)(L:Nat):Nat→Int→G.T→Rt
 |0=>fun _ _=>none
 |n+1=>B85x4 c (W85x4 c L n)
theorem u85x4(n:Nat):V85x4 (xL uA c L [1,1,0,1,0,1,1,1,1,1,0,1,0,1,0,0] uM (q85x5 c (cu c L)) n)=W85x4 c L n:=by
 induction n with
 |zero=>rfl
 |succ n ih=>rw[kY,s85x4];simp only[ih];rfl
theorem w85x4:X85x4 c (cu c L)=W85x4 c L L:=u85x4 c L L
def J85x3(c:TC0)(L:Nat):Bool→G.T→Rt:=B85x3 c (W85x4 c L L)
theorem j85x3:X85x3 c (cu c L)=J85x3 c L:=by rw[X85x3,bK,s85x3];simp only[w85x4];rfl
def F85(c:TC0)(L:Nat):G.T→Rt:=B85x0 c (J85x1 c L) (J85x2 c L) (J85x3 c L)
theorem e85:V85x0 (xF uA c (cu c L))=F85 c L:=by rw[s85x0];simp only[j85x1,j85x2,j85x3];rfl
theorem c85(a0:G.T)(L n:Nat):CTp L (n+1) 85 [yR 3 a0]=F85 (CTp L n) L a0:=by rw[←e85];exact cg (x:=uA) (by kernel_rfl) (by kernel_rfl) L n _
def q88x0(c:TC0)(e:Cu):Kt:=xK ii88
def B88x0(c:TC0)(k1:Bool→Rt)(a0:Int):Rt:=
 cnd (decide (a0=(32:Int))) (k1 true) (cnd (decide (a0=(9:Int))) (k1 true) (cnd (decide (a0=(10:Int))) (k1 true) (k1 (decide (a0=(13:Int))))))
def V88x0(n:Nt):Int→Rt:=fun x0=>n [⟨(.int .u8),x0⟩]
def B88x1(c:TC0)(a2:Bool):Rt:=
 some [yB a2]
def V88x1(n:Nt):Bool→Rt:=fun x0=>n [yB x0]
def X88x1:=V88x1 (xD ii88 e [1,1,0] aDD (q88x0 c e))
theorem s88x0:V88x0 (xF ii88 c e)=B88x0 c (X88x1 c e):=by kernel_rfl
theorem s88x1:V88x1 (xA ii88 c e [1,1,0] aDD (q88x0 c e))=B88x1 c:=by kernel_rfl
def J88x1(c:TC0)(L:Nat):Bool→Rt:=B88x1 c
theorem j88x1:X88x1 c (cu c L)=J88x1 c L:=by rw[X88x1,bK,s88x1];rfl
def F88(c:TC0)(L:Nat):Int→Rt:=B88x0 c (J88x1 c L)
theorem e88:V88x0 (xF ii88 c (cu c L))=F88 c L:=by rw[s88x0];simp only[j88x1];rfl
theorem c88(a0:Int)(L n:Nat):CTp L (n+1) 88 [⟨(.int .u8),a0⟩]=F88 (CTp L n) L a0:=by rw[←e88];exact cg (x:=ii88) (by kernel_rfl) (by kernel_rfl) L n _
def q89x0(c:TC0)(e:Cu):Kt:=xK ii89
def B89x0(c:TC0)(k1:Bool→Rt)(a0:List UInt8)(a1:Int)(a2:Int)(a3:Int):Rt:=
 cnd (decide ((0:Int)≤a1)) (cnd (decide ((IntKind.i64.wrap (a1+(1:Int)))<(List.length a0:Int))) (ob (idx a0 a1) fun v0=>
 cnd (decide ((v0.toNat:Int)=a2)) (ob (idx a0 (IntKind.i64.wrap (a1+(1:Int)))) fun v1=>
 k1 (decide ((v1.toNat:Int)=a3))) (k1 false)) (k1 false)) (k1 false)
def V89x0(n:Nt):List UInt8→Int→Int→Int→Rt:=fun x0 x1 x2 x3=>n [yT x0,yI x1,⟨(.int .u8),x2⟩,⟨(.int .u8),x3⟩]
def B89x1(c:TC0)(a8:Bool):Rt:=
 some [yB a8]
def V89x1(n:Nt):Bool→Rt:=fun x0=>n [yB x0]
def X89x1:=V89x1 (xD ii89 e [1,1,0] aDC (q89x0 c e))
theorem s89x0:V89x0 (xF ii89 c e)=B89x0 c (X89x1 c e):=by kernel_rfl
theorem s89x1:V89x1 (xA ii89 c e [1,1,0] aDC (q89x0 c e))=B89x1 c:=by kernel_rfl
def J89x1(c:TC0)(L:Nat):Bool→Rt:=B89x1 c
theorem j89x1:X89x1 c (cu c L)=J89x1 c L:=by rw[X89x1,bK,s89x1];rfl
def F89(c:TC0)(L:Nat):List UInt8→Int→Int→Int→Rt:=B89x0 c (J89x1 c L)
theorem e89:V89x0 (xF ii89 c (cu c L))=F89 c L:=by rw[s89x0];simp only[j89x1];rfl
theorem c89(a0:List UInt8)(a1:Int)(a2:Int)(a3:Int)(L n:Nat):CTp L (n+1) 89 [yT a0,yI a1,⟨(.int .u8),a2⟩,⟨(.int .u8),a3⟩]=F89 (CTp L n) L a0 a1 a2 a3:=by rw[←e89];exact cg (x:=ii89) (by kernel_rfl) (by kernel_rfl) L n _
def q91x0(c:TC0)(e:Cu):Kt:=xK ii91
def q91x1(c:TC0)(e:Cu):Kt:=xT ii91 c e [1,1] (q91x0 c e)
def q91x2(c:TC0)(e:Cu):Kt:=eX U0 0 (q91x1 c e)
def B91x0(c:TC0)(k1:Bool→G.K→G.X→Rt)(a0:G.K)(a1:Bool):Rt:=
 cnd (decide ((40:Int)<(List.length a0.text:Int))) (obL [.rc 20] (c 57 [yI (2:Int),yI a0.pos]) fun(r0:G.X×Unit)=>
 some [yR 20 r0.1]) (cnd a1 (cnd (decide (a0.text=([]:List UInt8))) (k1 true a0 (G.X.mk (0:Int) (0:Int))) (cnd (!decide (a0.package=([]:List UInt8))) (obL [.bool] (c 113 [yT a0.package]) fun(r1:Bool×Unit)=>
 k1 (!r1.1) a0 (G.X.mk (0:Int) (0:Int))) (k1 false a0 (G.X.mk (0:Int) (0:Int))))) (cnd (!decide (a0.package=([]:List UInt8))) (obL [.bool] (c 113 [yT a0.package]) fun(r2:Bool×Unit)=>
 k1 (!r2.1) a0 (G.X.mk (0:Int) (0:Int))) (k1 false a0 (G.X.mk (0:Int) (0:Int)))))
def V91x0(n:Nt):G.K→Bool→Rt:=fun x0 x1=>n [yR 22 x0,yB x1]
def B91x1(c:TC0)(a13:Bool)(b102:G.K)(b104:G.X):Rt:=
 cnd a13 (obL [.rc 20] (c 57 [yI (3:Int),yI b102.pos]) fun(r0:G.X×Unit)=>
 some [yR 20 r0.1]) (some [yR 20 (G.X.mk (0:Int) (0:Int))])
def V91x1(n:Nt):Bool→G.K→G.X→Rt:=fun x0 x1 x2=>n [yB x0,yR 22 x1,yR 20 x2]
def X91x1:=V91x1 (xD ii91 e [1,0,0,1,1,1,0] aDB (q91x2 c e))
theorem s91x0:V91x0 (xF ii91 c e)=B91x0 c (X91x1 c e):=by kernel_rfl
theorem s91x1:V91x1 (xA ii91 c e [1,0,0,1,1,1,0] aDB (q91x2 c e))=B91x1 c:=by kernel_rfl
def J91x1(c:TC0)(L:Nat):Bool→G.K→G.X→Rt:=B91x1 c
theorem j91x1:X91x1 c (cu c L)=J91x1 c L:=by rw[X91x1,bK,s91x1];rfl
def F91(c:TC0)(L:Nat):G.K→Bool→Rt:=B91x0 c (J91x1 c L)
theorem e91:V91x0 (xF ii91 c (cu c L))=F91 c L:=by rw[s91x0];simp only[j91x1];rfl
theorem c91(a0:G.K)(a1:Bool)(L n:Nat):CTp L (n+1) 91 [yR 22 a0,yB a1]=F91 (CTp L n) L a0 a1:=by rw[←e91];exact cg (x:=ii91) (by kernel_rfl) (by kernel_rfl) L n _
def q92x0(c:TC0)(e:Cu):Kt:=xK ii92
def B92x0(c:TC0)(k1:Bool→Rt)(a0:Int):Rt:=
 cnd (decide ((33:Int)≤a0)) (cnd (decide (a0≤(126:Int))) (cnd (!decide (a0=(40:Int))) (cnd (!decide (a0=(41:Int))) (cnd (!decide (a0=(39:Int))) (cnd (!decide (a0=(34:Int))) (cnd (!decide (a0=(59:Int))) (cnd (!decide (a0=(124:Int))) (k1 (!decide (a0=(58:Int)))) (k1 false)) (k1 false)) (k1 false)) (k1 false)) (k1 false)) (k1 false)) (k1 false)) (k1 false)
def V92x0(n:Nt):Int→Rt:=fun x0=>n [⟨(.int .u8),x0⟩]
def B92x1(c:TC0)(a2:Bool):Rt:=
 some [yB a2]
def V92x1(n:Nt):Bool→Rt:=fun x0=>n [yB x0]
def X92x1:=V92x1 (xD ii92 e [1,1,0] aDA (q92x0 c e))
theorem s92x0:V92x0 (xF ii92 c e)=B92x0 c (X92x1 c e):=by kernel_rfl
theorem s92x1:V92x1 (xA ii92 c e [1,1,0] aDA (q92x0 c e))=B92x1 c:=by kernel_rfl
def J92x1(c:TC0)(L:Nat):Bool→Rt:=B92x1 c
theorem j92x1:X92x1 c (cu c L)=J92x1 c L:=by rw[X92x1,bK,s92x1];rfl
def F92(c:TC0)(L:Nat):Int→Rt:=B92x0 c (J92x1 c L)
theorem e92:V92x0 (xF ii92 c (cu c L))=F92 c L:=by rw[s92x0];simp only[j92x1];rfl
theorem c92(a0:Int)(L n:Nat):CTp L (n+1) 92 [⟨(.int .u8),a0⟩]=F92 (CTp L n) L a0:=by rw[←e92];exact cg (x:=ii92) (by kernel_rfl) (by kernel_rfl) L n _
def q93x0(c:TC0)(e:Cu):Kt:=xK aBR
def q93x1(c:TC0)(e:Cu):Kt:=xT aBR c e [1,1] (q93x0 c e)
def q93x2(c:TC0)(e:Cu):Kt:=eX U0 0 (q93x1 c e)
def q93x3(c:TC0)(e:Cu)(n1:Nt):Kt:=lpK U0 qA n1 (q93x2 c e)
def q93x4(c:TC0)(e:Cu)(n1:Nt):Kt:=xT aBR c e [1,0,0,0,1] (q93x3 c e n1)
def B93x0(c:TC0)(e1:List UInt8→Int→Rt)(a0:List UInt8)(a1:Int):Rt:=
 e1 a0 a1
def V93x0(n:Nt):List UInt8→Int→Rt:=fun x0 x1=>n [yT x0,yI x1]
def B93x1(c:TC0)(k2:Bool→List UInt8→Int→Rt)(a0:List UInt8)(a1:Int):Rt:=
 cnd (decide (a1<(List.length a0:Int))) (ob (idx a0 a1) fun v0=>
 obL [.bool] (c 92 [⟨(.int .u8),(v0.toNat:Int)⟩]) fun(r1:Bool×Unit)=>
 k2 r1.1 a0 a1) (k2 false a0 a1)
def aEA(n:Nt):List UInt8→Int→Rt:=fun x0 x1=>n [yT x0,yI x1]
def X93x1:=aEA (xE aBR e [1,0,0,0] qA (q93x2 c e))
def aEJ(c:TC0)(n1:List UInt8→Int→Rt)(a14:Bool)(a0:List UInt8)(a1:Int):Rt:=
 cnd a14 (n1 a0 (IntKind.i64.wrap (a1+(1:Int)))) (some [yI a1])
def V93x2(n:Nt):Bool→List UInt8→Int→Rt:=fun x0 x1 x2=>n [yB x0,yT x1,yI x2]
def X93x2(n1:Nt):=V93x2 (xD aBR e [1,0,0,0,0,1,0] aDz (q93x4 c e n1))
theorem s93x0:V93x0 (xF aBR c e)=B93x0 c (X93x1 c e):=by kernel_rfl
theorem s93x1(n1:Nt):aEA (xA aBR c e [1,0,0,0] qA (lpK U0 qA n1 (q93x2 c e)))=B93x1 c (X93x2 c e n1):=by kernel_rfl
theorem s93x2(n1:Nt):V93x2 (xA aBR c e [1,0,0,0,0,1,0] aDz (q93x4 c e n1))=aEJ c (aEA n1):=by kernel_rfl
def aEG(c:TC0)(L:Nat)(n1:List UInt8→Int→Rt):Bool→List UInt8→Int→Rt:=aEJ c n1
theorem j93x2(n1:Nt):X93x2 c (cu c L) n1=aEG c L (aEA n1):=by rw[X93x2,bK,s93x2];rfl
def yA(c:TC0)(L:Nat):Nat→List UInt8→Int→Rt
 |0=>fun _ _=>none
 |n+1=>B93x1 c (aEG c L (yA c L n))
theorem u93x1(n:Nat):aEA (xL aBR c L [1,0,0,0] qA (q93x2 c (cu c L)) n)=yA c L n:=by
 induction n with
 |zero=>rfl
 |succ n ih=>rw[kY,s93x1];simp only[j93x2,ih];rfl
theorem w93x1:X93x1 c (cu c L)=yA c L L:=u93x1 c L L
def F93(c:TC0)(L:Nat):List UInt8→Int→Rt:=B93x0 c (yA c L L)
theorem e93:V93x0 (xF aBR c (cu c L))=F93 c L:=by rw[s93x0];simp only[w93x1];rfl
theorem c93(a0:List UInt8)(a1:Int)(L n:Nat):CTp L (n+1) 93 [yT a0,yI a1]=F93 (CTp L n) L a0 a1:=by rw[←e93];exact cg (x:=aBR) (by kernel_rfl) (by kernel_rfl) L n _
def aA9(c:TC0)(e:Cu):Kt:=xK lP
def q95x1(c:TC0)(e:Cu):Kt:=xT lP c e [1,1,1] (aA9 c e)
def q95x2(c:TC0)(e:Cu):Kt:=xT lP c e [1,1,1,0,1,1] (aA9 c e)
def q95x3(c:TC0)(e:Cu):Kt:=eX U0 0 (q95x2 c e)
def q95x4(c:TC0)(e:Cu)(n3:Nt):Kt:=lpK U0 pZ n3 (q95x3 c e)
def q95x5(c:TC0)(e:Cu)(n3:Nt):Kt:=xT lP c e [1,1,1,0,1,0,0,0,1] (q95x4 c e n3)
def q95x6(c:TC0)(e:Cu):Kt:=xT lP c e [1,1,1,0,1,1,1,1,1] (aA9 c e)
def q95x7(c:TC0)(e:Cu):Kt:=xT lP c e [1,1,1,0,1,1,1,1,1,1] (aA9 c e)
def q95x8(c:TC0)(e:Cu):Kt:=eX U0 2 (q95x7 c e)
def q95x9(c:TC0)(e:Cu)(n6:Nt):Kt:=lpK U0 pY n6 (q95x8 c e)
def q95x10(c:TC0)(e:Cu)(n6:Nt):Kt:=xT lP c e [1,1,1,0,1,1,1,1,1,0,1,0,0,1,1] (q95x9 c e n6)
def q95x11(c:TC0)(e:Cu)(n6:Nt):Kt:=eX U0 3 (q95x10 c e n6)
def B95x0(c:TC0)(k1:Bool→Int→List UInt8→Rt)(a0:List UInt8):Rt:=
 cnd (decide ((0:Int)<(List.length a0:Int))) (ob (idx a0 (0:Int)) fun v0=>
 k1 (decide ((v0.toNat:Int)=(45:Int))) (0:Int) a0) (k1 false (0:Int) a0)
def V95x0(n:Nt):List UInt8→Rt:=fun x0=>n [yT x0]
def B95x1(c:TC0)(k2:Int→List UInt8→Rt)(a15:Bool)(a5:Int)(a0:List UInt8):Rt:=
 cnd a15 (k2 (1:Int) a0) (k2 a5 a0)
def V95x1(n:Nt):Bool→Int→List UInt8→Rt:=fun x0 x1 x2=>n [yB x0,yI x1,yT x2]
def X95x1:=V95x1 (xD lP e [1,1,0,1,0] aDy (q95x1 c e))
def B95x2(c:TC0)(e3:Int→List UInt8→Int→Rt)(a5:Int)(a0:List UInt8):Rt:=
 e3 a5 a0 a5
def V95x2(n:Nt):Int→List UInt8→Rt:=fun x0 x1=>n [yI x0,yT x1]
def X95x2:=V95x2 (xD lP e [1,1,1,0] aDx (aA9 c e))
def B95x3(c:TC0)(k4:Bool→Int→List UInt8→Int→Rt)(a5:Int)(a0:List UInt8)(a6:Int):Rt:=
 cnd (decide (a6<(List.length a0:Int))) (ob (idx a0 a6) fun v0=>
 cnd (decide ((48:Int)≤(v0.toNat:Int))) (ob (idx a0 a6) fun v1=>
 k4 (decide ((v1.toNat:Int)≤(57:Int))) a5 a0 a6) (k4 false a5 a0 a6)) (k4 false a5 a0 a6)
def aEz(n:Nt):Int→List UInt8→Int→Rt:=fun x0 x1 x2=>n [yI x0,yT x1,yI x2]
def X95x3:=aEz (xE lP e [1,1,1,0,1,0,0,0] pZ (q95x3 c e))
def B95x4(c:TC0)(n3:Int→List UInt8→Int→Rt)(k5:Bool→List UInt8→Int→Rt)(a32:Bool)(a5:Int)(a0:List UInt8)(a6:Int):Rt:=
 cnd a32 (n3 a5 a0 (IntKind.i64.wrap (a6+(1:Int)))) (cnd (decide (a6=a5)) (some [yT ([]:List UInt8),yT ([]:List UInt8),yB false]) (cnd (decide (a6=(List.length a0:Int))) (some [yT a0,yT ([49]:List UInt8),yB true]) (ob (idx a0 a6) fun v0=>
 cnd (!decide ((v0.toNat:Int)=(47:Int))) (k5 true a0 a6) (k5 (decide ((IntKind.i64.wrap (a6+(1:Int)))=(List.length a0:Int))) a0 a6))))
def V95x4(n:Nt):Bool→Int→List UInt8→Int→Rt:=fun x0 x1 x2 x3=>n [yB x0,yI x1,yT x2,yI x3]
def X95x4(n3:Nt):=V95x4 (xD lP e [1,1,1,0,1,0,0,0,0,1,0] aDw (q95x5 c e n3))
def B95x5(c:TC0)(e6:Int→List UInt8→Int→Rt)(a53:Bool)(a0:List UInt8)(a6:Int):Rt:=
 cnd a53 (some [yT ([]:List UInt8),yT ([]:List UInt8),yB false]) (e6 (IntKind.i64.wrap (a6+(1:Int))) a0 a6)
def V95x5(n:Nt):Bool→List UInt8→Int→Rt:=fun x0 x1 x2=>n [yB x0,yT x1,yI x2]
def X95x5:=V95x5 (xD lP e [1,1,1,0,1,1,1,1,0,1,0] aDv (q95x6 c e))
def B95x6(c:TC0)(k7:Bool→Int→List UInt8→Int→Rt)(a7:Int)(a0:List UInt8)(a6:Int):Rt:=
 cnd (decide (a7<(List.length a0:Int))) (ob (idx a0 a7) fun v0=>
 cnd (decide ((v0.toNat:Int)<(48:Int))) (k7 true a7 a0 a6) (ob (idx a0 a7) fun v1=>
 k7 (decide ((57:Int)<(v1.toNat:Int))) a7 a0 a6)) (ob (slc a0 (0:Int) a6) fun v2=>
 ob (slc a0 (IntKind.i64.wrap (a6+(1:Int))) (List.length a0:Int)) fun v3=>
 some [yT v2,yT v3,yB true])
def aEy(n:Nt):Int→List UInt8→Int→Rt:=fun x0 x1 x2=>n [yI x0,yT x1,yI x2]
def X95x6:=aEy (xE lP e [1,1,1,0,1,1,1,1,1,0,1,0,0] pY (q95x8 c e))
def B95x7(c:TC0)(n6:Int→List UInt8→Int→Rt)(a71:Bool)(a7:Int)(a0:List UInt8)(a6:Int):Rt:=
 cnd a71 (some [yT ([]:List UInt8),yT ([]:List UInt8),yB false]) (n6 (IntKind.i64.wrap (a7+(1:Int))) a0 a6)
def V95x7(n:Nt):Bool→Int→List UInt8→Int→Rt:=fun x0 x1 x2 x3=>n [yB x0,yI x1,yT x2,yI x3]
def X95x7(n6:Nt):=V95x7 (xD lP e [1,1,1,0,1,1,1,1,1,0,1,0,0,1,0,0,1,0] aDu (q95x11 c e n6))
theorem s95x0:V95x0 (xF lP c e)=B95x0 c (X95x1 c e):=by kernel_rfl
theorem s95x1:V95x1 (xA lP c e [1,1,0,1,0] aDy (q95x1 c e))=B95x1 c (X95x2 c e):=by kernel_rfl
theorem s95x2:V95x2 (xA lP c e [1,1,1,0] aDx (aA9 c e))=B95x2 c (X95x3 c e):=by kernel_rfl
theorem s95x3(n3:Nt):aEz (xA lP c e [1,1,1,0,1,0,0,0] pZ (lpK U0 pZ n3 (q95x3 c e)))=B95x3 c (X95x4 c e n3):=by kernel_rfl
theorem s95x4(n3:Nt):V95x4 (xA lP c e [1,1,1,0,1,0,0,0,0,1,0] aDw (q95x5 c e n3))=B95x4 c (aEz n3) (X95x5 c e):=by kernel_rfl
theorem s95x5:V95x5 (xA lP c e [1,1,1,0,1,1,1,1,0,1,0] aDv (q95x6 c e))=B95x5 c (X95x6 c e):=by kernel_rfl
theorem s95x6(n6:Nt):aEy (xA lP c e [1,1,1,0,1,1,1,1,1,0,1,0,0] pY (lpK U0 pY n6 (q95x8 c e)))=B95x6 c (X95x7 c e n6):=by kernel_rfl
theorem s95x7(n6:Nt):V95x7 (xA lP c e [1,1,1,0,1,1,1,1,1,0,1,0,0,1,0,0,1,0] aDu (q95x11 c e n6))=B95x7 c (aEy n6):=by kernel_rfl
def J95x7(c:TC0)(L:Nat)(n6:Int→List UInt8→Int→Rt):Bool→Int→List UInt8→Int→Rt:=B95x7 c n6
theorem j95x7(n6:Nt):X95x7 c (cu c L) n6=J95x7 c L (aEy n6):=by rw[X95x7,bK,s95x7];rfl
def W95x6(c:TC0)(L:Nat):Nat→Int→List UInt8→Int→Rt
 |0=>fun _ _ _=>none
 |n+1=>B95x6 c (J95x7 c L (W95x6 c L n))
theorem u95x6(n:Nat):aEy (xL lP c L [1,1,1,0,1,1,1,1,1,0,1,0,0] pY (q95x8 c (cu c L)) n)=W95x6 c L n:=by
 induction n with
 |zero=>rfl
 |succ n ih=>rw[kY,s95x6];simp only[j95x7,ih];rfl
theorem w95x6:X95x6 c (cu c L)=W95x6 c L L:=u95x6 c L L
def J95x5(c:TC0)(L:Nat):Bool→List UInt8→Int→Rt:=B95x5 c (W95x6 c L L)
theorem j95x5:X95x5 c (cu c L)=J95x5 c L:=by rw[X95x5,bK,s95x5];simp only[w95x6];rfl
def J95x4(c:TC0)(L:Nat)(n3:Int→List UInt8→Int→Rt):Bool→Int→List UInt8→Int→Rt:=B95x4 c n3 (J95x5 c L)
theorem j95x4(n3:Nt):X95x4 c (cu c L) n3=J95x4 c L (aEz n3):=by rw[X95x4,bK,s95x4];simp only[j95x5];rfl
def aBG(c:TC0)(L:Nat):Nat→Int→List UInt8→Int→Rt
 |0=>fun _ _ _=>none
 |n+1=>B95x3 c (J95x4 c L (aBG c L n))
theorem u95x3(n:Nat):aEz (xL lP c L [1,1,1,0,1,0,0,0] pZ (q95x3 c (cu c L)) n)=aBG c L n:=by
 induction n with
 |zero=>rfl
 |succ n ih=>rw[kY,s95x3];simp only[j95x4,ih];rfl
theorem w95x3:X95x3 c (cu c L)=aBG c L L:=u95x3 c L L
def J95x2(c:TC0)(L:Nat):Int→List UInt8→Rt:=B95x2 c (aBG c L L)
theorem j95x2:X95x2 c (cu c L)=J95x2 c L:=by rw[X95x2,bK,s95x2];simp only[w95x3];rfl
def J95x1(c:TC0)(L:Nat):Bool→Int→List UInt8→Rt:=B95x1 c (J95x2 c L)
theorem j95x1:X95x1 c (cu c L)=J95x1 c L:=by rw[X95x1,bK,s95x1];simp only[j95x2];rfl
def F95(c:TC0)(L:Nat):List UInt8→Rt:=B95x0 c (J95x1 c L)
theorem e95:V95x0 (xF lP c (cu c L))=F95 c L:=by rw[s95x0];simp only[j95x1];rfl
theorem c95(a0:List UInt8)(L n:Nat):CTp L (n+1) 95 [yT a0]=F95 (CTp L n) L a0:=by rw[←e95];exact cg (x:=lP) (by kernel_rfl) (by kernel_rfl) L n _
def q99x0(c:TC0)(e:Cu):Kt:=xK ii99
def q99x1(c:TC0)(e:Cu):Kt:=xT ii99 c e [1,1] (q99x0 c e)
def q99x2(c:TC0)(e:Cu):Kt:=eX U0 0 (q99x1 c e)
def B99x0(c:TC0)(e1:List UInt8→List G.A→Int→G.A→Rt)(a0:List G.A)(a1:List UInt8):Rt:=
 e1 a1 a0 (0:Int) (G.A.mk ([]:List UInt8) ([]:List G.Y))
def V99x0(n:Nt):List G.A→List UInt8→Rt:=fun x0 x1=>n [yS 9 x0,yT x1]
def B99x1(c:TC0)(n1:List UInt8→List G.A→Int→G.A→Rt)(a1:List UInt8)(a0:List G.A)(a6:Int)(b104:G.A):Rt:=
 cnd (decide (a6<(List.length a0:Int))) (ob (idx a0 a6) fun v0=>
 cnd (decide (v0.name=a1)) (ob (idx a0 a6) fun v1=>
 some [yR 9 v1,yB true]) (n1 a1 a0 (IntKind.i64.wrap (a6+(1:Int))) b104)) (some [yR 9 (G.A.mk ([]:List UInt8) ([]:List G.Y)),yB false])
def V99x1(n:Nt):List UInt8→List G.A→Int→G.A→Rt:=fun x0 x1 x2 x3=>n [yT x0,yS 9 x1,yI x2,yR 9 x3]
def X99x1:=V99x1 (xE ii99 e [1,0,1,0,0] uL (q99x2 c e))
theorem s99x0:V99x0 (xF ii99 c e)=B99x0 c (X99x1 c e):=by kernel_rfl
theorem s99x1(n1:Nt):V99x1 (xA ii99 c e [1,0,1,0,0] uL (lpK U0 uL n1 (q99x2 c e)))=B99x1 c (V99x1 n1):=by kernel_rfl
def W99x1(c:TC0)(L:Nat):Nat→List UInt8→List G.A→Int→G.A→Rt
 |0=>fun _ _ _ _=>none
 |n+1=>B99x1 c (W99x1 c L n)
theorem u99x1(n:Nat):V99x1 (xL ii99 c L [1,0,1,0,0] uL (q99x2 c (cu c L)) n)=W99x1 c L n:=by
 induction n with
 |zero=>rfl
 |succ n ih=>rw[kY,s99x1];simp only[ih];rfl
theorem w99x1:X99x1 c (cu c L)=W99x1 c L L:=u99x1 c L L
def F99(c:TC0)(L:Nat):List G.A→List UInt8→Rt:=B99x0 c (W99x1 c L L)
theorem e99:V99x0 (xF ii99 c (cu c L))=F99 c L:=by rw[s99x0];simp only[w99x1];rfl
theorem c99(a0:List G.A)(a1:List UInt8)(L n:Nat):CTp L (n+1) 99 [yS 9 a0,yT a1]=F99 (CTp L n) L a0 a1:=by rw[←e99];exact cg (x:=ii99) (by kernel_rfl) (by kernel_rfl) L n _
def B100x0(c:TC0)(a0:G.Y):Rt:=
 obL [.bool] (c 114 [yR 1 a0]) fun(r0:Bool×Unit)=>
 some [yB r0.1]
def V100x0(n:Nt):G.Y→Rt:=fun x0=>n [yR 1 x0]
theorem s100x0:V100x0 (xF ii100 c e)=B100x0 c:=by kernel_rfl
def F100(c:TC0)(L:Nat):G.Y→Rt:=B100x0 c
theorem e100:V100x0 (xF ii100 c (cu c L))=F100 c L:=s100x0 _ _
theorem c100(a0:G.Y)(L n:Nat):CTp L (n+1) 100 [yR 1 a0]=F100 (CTp L n) L a0:=by rw[←e100];exact cg (x:=ii100) (by kernel_rfl) (by kernel_rfl) L n _
def B104x0(c:TC0)(a0:List G.E)(a1:G.Y):Rt:=
 obL [i6,.bool] (c 120 [yR 1 a1]) fun(r0:Int×Bool×Unit)=>
 cnd r0.2.1 (some [yI r0.1,yB true]) (obL [.rc 8,.bool] (c 121 [yS 16 a0,yR 1 a1]) fun(r1:G.F×Bool×Unit)=>
 cnd (!r1.2.1) (some [yI (0:Int),yB false]) (some [yI (List.length r1.1.params:Int),yB true]))
def V104x0(n:Nt):List G.E→G.Y→Rt:=fun x0 x1=>n [yS 16 x0,yR 1 x1]
theorem s104x0:V104x0 (xF ii104 c e)=B104x0 c:=by kernel_rfl
def F104(c:TC0)(L:Nat):List G.E→G.Y→Rt:=B104x0 c
theorem e104:V104x0 (xF ii104 c (cu c L))=F104 c L:=s104x0 _ _
theorem c104(a0:List G.E)(a1:G.Y)(L n:Nat):CTp L (n+1) 104 [yS 16 a0,yR 1 a1]=F104 (CTp L n) L a0 a1:=by rw[←e104];exact cg (x:=ii104) (by kernel_rfl) (by kernel_rfl) L n _
def q105x0(c:TC0)(e:Cu):Kt:=xK mT
def q105x1(c:TC0)(e:Cu):Kt:=xT mT c e [1,1,1,1,1] (q105x0 c e)
def zG(c:TC0)(e:Cu):Kt:=eX U0 0 (q105x1 c e)
def q105x3(c:TC0)(e:Cu)(n1:Nt):Kt:=lpK U0 mA n1 (zG c e)
def q105x4(c:TC0)(e:Cu)(n1:Nt):Kt:=xT mT c e [1,1,1,1,0,1,0,0,1] (q105x3 c e n1)
def B105x0(c:TC0)(e1:List G.T→Int→Int→Int→Rt)(a0:G.T)(a1:Int):Rt:=
 cnd (decide (a0.kind=(2:Int))) (obL [i6] (c 59 [yR 2 a0.value]) fun(r0:Int×Unit)=>
 some [yI (bif decide (r0.1<a1)then r0.1 else a1)]) (obL [zS 3] (c 122 [yR 3 a0]) fun(r1:List G.T×Unit)=>
 e1 r1.1 a1 (0:Int) (1:Int))
def V105x0(n:Nt):G.T→Int→Rt:=fun x0 x1=>n [yR 3 x0,yI x1]
def B105x1(c:TC0)(k2:Bool→Int→List G.T→Int→Int→Rt)(a6:List G.T)(a1:Int)(a7:Int)(a5:Int):Rt:=
 cnd (decide (a7<(List.length a6:Int))) (k2 (decide (a5<a1)) a7 a6 a1 a5) (k2 false a7 a6 a1 a5)
def vH(n:Nt):List G.T→Int→Int→Int→Rt:=fun x0 x1 x2 x3=>n [yS 3 x0,yI x1,yI x2,yI x3]
def X105x1:=vH (xE mT e [1,1,1,1,0,1,0,0] mA (zG c e))
def B105x2(c:TC0)(n1:List G.T→Int→Int→Int→Rt)(a26:Bool)(a7:Int)(a6:List G.T)(a1:Int)(a5:Int):Rt:=
 cnd a26 (ob (idx a6 a7) fun v0=>
 obL [i6] (c 105 [yR 3 v0,yI (IntKind.i64.wrap (a1-a5))]) fun(r1:Int×Unit)=>
 n1 a6 a1 (IntKind.i64.wrap (a7+(1:Int))) (IntKind.i64.wrap (a5+r1.1))) (some [yI a5])
def V105x2(n:Nt):Bool→Int→List G.T→Int→Int→Rt:=fun x0 x1 x2 x3 x4=>n [yB x0,yI x1,yS 3 x2,yI x3,yI x4]
def aEx(n1:Nt):=V105x2 (xD mT e [1,1,1,1,0,1,0,0,0,1,0] xQ (q105x4 c e n1))
theorem s105x0:V105x0 (xF mT c e)=B105x0 c (X105x1 c e):=by kernel_rfl
theorem s105x1(n1:Nt):vH (xA mT c e [1,1,1,1,0,1,0,0] mA (lpK U0 mA n1 (zG c e)))=B105x1 c (aEx c e n1):=by kernel_rfl
theorem s105x2(n1:Nt):V105x2 (xA mT c e [1,1,1,1,0,1,0,0,0,1,0] xQ (q105x4 c e n1))=B105x2 c (vH n1):=by kernel_rfl
def J105x2(c:TC0)(L:Nat)(n1:List G.T→Int→Int→Int→Rt):Bool→Int→List G.T→Int→Int→Rt:=B105x2 c n1
theorem j105x2(n1:Nt):aEx c (cu c L) n1=J105x2 c L (vH n1):=by rw[aEx,bK,s105x2];rfl
def aAS(c:TC0)(L:Nat):Nat→List G.T→Int→Int→Int→Rt
 |0=>fun _ _ _ _=>none
 |n+1=>B105x1 c (J105x2 c L (aAS c L n))
theorem u105x1(n:Nat):vH (xL mT c L [1,1,1,1,0,1,0,0] mA (zG c (cu c L)) n)=aAS c L n:=by
 induction n with
 |zero=>rfl
 |succ n ih=>rw[kY,s105x1];simp only[j105x2,ih];rfl
theorem w105x1:X105x1 c (cu c L)=aAS c L L:=u105x1 c L L
def F105(c:TC0)(L:Nat):G.T→Int→Rt:=B105x0 c (aAS c L L)
theorem e105:V105x0 (xF mT c (cu c L))=F105 c L:=by rw[s105x0];simp only[w105x1];rfl
theorem c105(a0:G.T)(a1:Int)(L n:Nat):CTp L (n+1) 105 [yR 3 a0,yI a1]=F105 (CTp L n) L a0 a1:=by rw[←e105];exact cg (x:=mT) (by kernel_rfl) (by kernel_rfl) L n _
end
end Go.TV
