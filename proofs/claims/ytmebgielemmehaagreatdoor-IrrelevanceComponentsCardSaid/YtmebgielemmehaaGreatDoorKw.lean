import Derived.Test.YtmebgielemmehaaGreatDoorKv
set_option linter.unusedVariables false
set_option linter.unusedSimpArgs false
set_option linter.constructorNameAsVariable false
set_option linter.defProp false
namespace Go.TV
open Go.AI Go.PI Go.Proofs
set_option maxRecDepth 20000
noncomputable section
variable(c:cJ)(e:Cu)(L:Nat)
def aZz(c:cJ)(e:Cu):Kt:=xK aCG
def aZy:Kt:=xT aCG c e (pw 4 15) (aZz c e)
def aKw:Kt:=dK U0 0 (aZy c e)
def aOn(a:List G.O->Int->List G.E->Rt):Rt:=
 fZ [zS 2] (c 20 []) λ(b:List G.O×Unit)=>
 a b.1 0 ([]:List G.E)
def Tp(i:List G.O->Int->List G.E->Rt)(b:List G.O)(d:Int)(a:List G.E):Rt:=
 cH (decide (d<(List.length b:Int))) (ob (eK b d) λj=>
 fZ [.rc 15] (c 21 [yS 15 a,yR 2 j]) λ(f:G.E×Unit)=>
 jC (Nat.ble ((List.length a+List.length ([f.1]:List G.E))*568) 1073741824)<|
 i b (IntKind.i64.wrap (d+1)) (a++([f.1]:List G.E))) (Bm (c 22 [yT [117,115,101,114,45,112,97,99,107,97,103,101]]) λg=>
 IM (c 23 []) λh=>
 jC (Nat.ble ((List.length a+List.length ([(G.E.mk 1 g.1 (G.A.mk [117,115,101,114] h.1) (G.M.mk Gx ([]:List G.Y) false GB) ([]:List G.F) ([]:List G.T) ([]:List (List G.N)) ([]:List G.E) (G.B.mk Gx ([]:List G.D)) ([]:List G.U) ([]:List G.Y) ([]:List G.Y) [] 0)]:List G.E))*568) 1073741824)<|
 some [yS 15 (a++([(G.E.mk 1 g.1 (G.A.mk [117,115,101,114] h.1) (G.M.mk Gx ([]:List G.Y) false GB) ([]:List G.F) ([]:List G.T) ([]:List (List G.N)) ([]:List G.E) (G.B.mk Gx ([]:List G.D)) ([]:List G.U) ([]:List G.Y) ([]:List G.Y) [] 0)]:List G.E))])
def aEM(n:Nt):List G.O->Int->List G.E->Rt:=λx0 x1 x2=>n [yS 2 x0,yI x1,yS 15 x2]
def aWB:=aEM (xE aCG e (pw 7 23) Kc (aKw c e))
def aY1:zL (xF aCG c e)=aOn c (aWB c e):=by kernel_rfl
def aY0(n1:Nt):aEM (xA aCG c e (pw 7 23) Kc (gP U0 Kc n1 (aKw c e)))=Tp c (aEM n1):=by kernel_rfl
def Ah(c:cJ)(L:Nat):Nat->List G.O->Int->List G.E->Rt
 |0=>λ_ _ _=>none
 |n+1=>Tp c (Ah c L n)
def aYz(n:Nat):aEM (xL aCG c L (pw 7 23) Kc (aKw c (cu c L)) n)=Ah c L n:=by
 induction n with
 |zero=>rfl
 |succ n ih=>rw[eV,aY0];simp only[ih];rfl
def aX1:aWB c (cu c L)=Ah c L L:=aYz c L L
def F8:Rt:=aOn c (Ah c L L)
def e8:zL (xF aCG c (cu c L))=F8 c L:=by rw[aY1];simp only[aX1];rfl
def c8(L n:Nat):cG L (n+1) 8 []=F8 (cG L n) L:=by rw[<-e8];exact cz (x:=aCG) (by kernel_rfl) L n _
def aSV(c:cJ)(e:Cu):Kt:=xK JD
def aF1:Kt:=xT JD c e [1,1] (aSV c e)
def aAO(c:cJ)(d:Bool->Int->G.Z->Rt)(b:Int)(a:G.Z):Rt:=
 cH (decide ((List.length a.b:Int)<=a.pos)) (d true b a) (d (decide (b<1)) b a)
def aAN(c:cJ)(d:Bool)(b:Int)(a:G.Z):Rt:=
 cH d (some [yI 0,yR 0 a]) (ob (eK a.b (IntKind.i64.wrap ((IntKind.i64.wrap (a.pos+1))-1))) λf=>
 jC (!decide (b=0))<|
 some [yI (Int.tmod (IntKind.i64.wrap f) b),yR 0 (G.Z.mk a.b (IntKind.i64.wrap (a.pos+1)))])
def aHw(n:Nt):Bool->Int->G.Z->Rt:=λx0 x1 x2=>n [yB x0,yI x1,yR 0 x2]
def YO:=aHw (xD JD e (pw 4 5) Mx (aF1 c e))
def aRQ:Q6 (xF JD c e)=aAO c (YO c e):=by kernel_rfl
def aRP:aHw (xA JD c e (pw 4 5) Mx (aF1 c e))=aAN c:=by kernel_rfl
def aAa(L:Nat):Bool->Int->G.Z->Rt:=aAN c
def aUq:YO c (cu c L)=aAa c L:=by rw[YO,dG,aRP];rfl
def a3f:Int->G.Z->Rt:=aAO c (aAa c L)
def e12:Q6 (xF JD c (cu c L))=a3f c L:=by rw[aRQ];simp only[aUq];rfl
def c12(a:Int)(b:G.Z)(L n:Nat):cG L (n+1) 12 [yI a,yR 0 b]=a3f (cG L n) L a b:=by rw[<-e12];exact cz (x:=JD) (by kernel_rfl) L n _
def aSU(c:cJ)(e:Cu):Kt:=xK JC
def aST:Kt:=xT JC c e [1,1,1] (aSU c e)
def aF0:Kt:=dK U0 0 (aST c e)
def aAH(g:Bool->Int->List G.E->Int->G.Z->G.T->G.T->Rt)(b:List G.E)(d:Int)(h:G.Z):Rt:=
 wX (c 36 [yS 15 b,yI d,yR 0 h]) λf=>
 tL (c 12 [yI 8,yR 0 f.2.1]) λa=>
 cH (decide (a.1=0)) (g (decide (a.1=0)) a.1 b d a.2.1 f.1 GB) (g (decide (a.1=1)) a.1 b d a.2.1 f.1 GB)
def aAG(o:Bool)(b:Int)(f:List G.E)(g:Int)(a:G.Z)(d:G.T)(y:G.T):Rt:=
 cH o (qB (c 24 [yT [110,111,116],yS 3 ([d]:List G.T)]) λp=>
 some [yR 3 p.1,yR 0 a]) (cH (decide (b=2)) (wX (c 36 [yS 15 f,yI (IntKind.i64.wrap (g-1)),yR 0 a]) λh=>
 qB (c 24 [yT [101,113,117,97,108],yS 3 ([d,h.1]:List G.T)]) λq=>
 qB (c 24 [yT [110,111,116],yS 3 ([q.1]:List G.T)]) λs=>
 some [yR 3 s.1,yR 0 h.2.1]) (cH (decide (b=3)) (wX (c 37 [yR 0 a]) λi=>
 qB (c 24 [yT [99,111,110,115,112],yS 3 ([i.1]:List G.T)]) λt=>
 qB (c 24 [yT [110,111,116],yS 3 ([t.1]:List G.T)]) λu=>
 some [yR 3 u.1,yR 0 i.2.1]) (cH (decide (b=4)) (wX (c 36 [yS 15 f,yI (IntKind.i64.wrap (g-1)),yR 0 a]) λj=>
 qB (c 24 [yT [101,113,117,97,108],yS 3 ([d,j.1]:List G.T)]) λv=>
 some [yR 3 v.1,yR 0 j.2.1]) (cH (decide (b=5)) (wX (c 37 [yR 0 a]) λl=>
 wX (c 36 [yS 15 f,yI (IntKind.i64.wrap (g-1)),yR 0 l.2.1]) λm=>
 qB (c 24 [yT [60],yS 3 ([l.1,m.1]:List G.T)]) λw=>
 qB (c 24 [yT [110,111,116],yS 3 ([w.1]:List G.T)]) λx=>
 some [yR 3 x.1,yR 0 m.2.1]) (some [yR 3 d,yR 0 a])))))
def aHv(n:Nt):Bool->Int->List G.E->Int->G.Z->G.T->G.T->Rt:=λx0 x1 x2 x3 x4 x5 x6=>n [yB x0,yI x1,yS 15 x2,yI x3,yR 0 x4,yR 3 x5,yR 3 x6]
def YL:=aHv (xD JC e (pw 7 43) Mw (aF0 c e))
def aRO:Rd (xF JC c e)=aAH c (YL c e):=by kernel_rfl
def aRN:aHv (xA JC c e (pw 7 43) Mw (aF0 c e))=aAG c:=by kernel_rfl
def Rn(L:Nat):Bool->Int->List G.E->Int->G.Z->G.T->G.T->Rt:=aAG c
def aUp:YL c (cu c L)=Rn c L:=by rw[YL,dG,aRN];rfl
def aXW:List G.E->Int->G.Z->Rt:=aAH c (Rn c L)
def e14:Rd (xF JC c (cu c L))=aXW c L:=by rw[aRO];simp only[aUp];rfl
def c14(a:List G.E)(b:Int)(d:G.Z)(L n:Nat):cG L (n+1) 14 [yS 15 a,yI b,yR 0 d]=aXW (cG L n) L a b d:=by rw[<-e14];exact cz (x:=JC) (by kernel_rfl) L n _
def aFZ(c:cJ)(e:Cu):Kt:=xK LK
def aAF(b:G.T->G.T->Rt)(a:G.T)(d:List G.I):Rt:=
 cH (decide (a.kind=1)) (fZ [.rc 3,.bool] (c 38 [yS 4 d,yR 1 a.name]) λ(f:G.T×Bool×Unit)=>
 cH f.2.1 (some [yR 3 f.1]) (b a GB)) (cH (decide (a.kind=3)) (fZ [zS 3] (c 39 [yS 3 a.args,yS 4 d]) λ(g:List G.T×Unit)=>
 qB (c 34 [yR 1 a.name,yS 3 g.1]) λh=>
 some [yR 3 h.1]) (b a GB))
def aHu(n:Nt):G.T->List G.I->Rt:=λx0 x1=>n [yR 3 x0,yS 4 x1]
def aIy(c:cJ)(a:G.T)(b:G.T):Rt:=
 some [yR 3 a]
def YK:=Eu (xD LK e [1,1,0] Mv (aFZ c e))
def aRM:aHu (xF LK c e)=aAF c (YK c e):=by kernel_rfl
def aRL:Eu (xA LK c e [1,1,0] Mv (aFZ c e))=aIy c:=by kernel_rfl
def ZX(L:Nat):G.T->G.T->Rt:=aIy c
def aUo:YK c (cu c L)=ZX c L:=by rw[YK,dG,aRL];rfl
def a3e:G.T->List G.I->Rt:=aAF c (ZX c L)
def e15:aHu (xF LK c (cu c L))=a3e c L:=by rw[aRM];simp only[aUo];rfl
def c15(a:G.T)(b:List G.I)(L n:Nat):cG L (n+1) 15 [yR 3 a,yS 4 b]=a3e (cG L n) L a b:=by rw[<-e15];exact cz (x:=LK) (by kernel_rfl) L n _
def aSS(c:cJ)(e:Cu):Kt:=xK Bx
def aSR:Kt:=xT Bx c e [1,1,1] (aSS c e)
def PP:Kt:=dK U0 0 (aSR c e)
def aFY(n1:Nt):Kt:=gP U0 yC n1 (PP c e)
def aAE(c:cJ)(d:List G.T->Int->List G.T->Rt)(a:List G.T)(b:List G.T):Rt:=
 jC (decide (0<=0)&&decide ((0:Int)<=(IntKind.i64.wrap ((List.length a:Int)+(List.length b:Int))))&&decide ((IntKind.i64.wrap ((List.length a:Int)+(List.length b:Int)))*176<=1073741824)&&decide ((IntKind.i64.wrap ((List.length a:Int)+(List.length b:Int)))<=1073741824))<|
 jC (decide ((0:Int)=0))<|
 jC (Nat.ble ((List.length ([]:List G.T)+List.length a)*176) 1073741824)<|
 d b 0 (([]:List G.T)++a)
def aAD(f:Int->List G.T->List G.T->Rt)(a:List G.T)(b:Int)(d:List G.T):Rt:=
 cH (decide (b<(List.length a:Int))) (ob (eK a b) λh=>
 mZ (c 40 [yS 3 d,yR 3 h]) λi=>
 cH (!i.1) (ob (eK a b) λg=>
 jC (Nat.ble ((List.length d+List.length ([g]:List G.T))*176) 1073741824)<|
 f b a (d++([g]:List G.T))) (f b a d)) (some [yS 3 d])
def KV(n:Nt):List G.T->Int->List G.T->Rt:=λx0 x1 x2=>n [yS 3 x0,yI x1,yS 3 x2]
def aG0:=KV (xE Bx e (pw 6 11) yC (PP c e))
def aAC(c:cJ)(a:List G.T->Int->List G.T->Rt)(b:Int)(d:List G.T)(f:List G.T):Rt:=
 a d (IntKind.i64.wrap (b+1)) f
def aHt(n:Nt):Int->List G.T->List G.T->Rt:=λx0 x1 x2=>n [yI x0,yS 3 x1,yS 3 x2]
def YJ(n1:Nt):=aHt (xD Bx e (pw 9 203) Mu (aFY c e n1))
def aRK:QZ (xF Bx c e)=aAE c (aG0 c e):=by kernel_rfl
def aRJ(n1:Nt):KV (xA Bx c e (pw 6 11) yC (gP U0 yC n1 (PP c e)))=aAD c (YJ c e n1):=by kernel_rfl
def aRI(n1:Nt):aHt (xA Bx c e (pw 9 203) Mu (aFY c e n1))=aAC c (KV n1):=by kernel_rfl
def Rm(L:Nat)(n1:List G.T->Int->List G.T->Rt):Int->List G.T->List G.T->Rt:=aAC c n1
def aUn(n1:Nt):YJ c (cu c L) n1=Rm c L (KV n1):=by rw[YJ,dG,aRI];rfl
def CD(c:cJ)(L:Nat):Nat->List G.T->Int->List G.T->Rt
 |0=>λ_ _ _=>none
 |n+1=>aAD c (Rm c L (CD c L n))
def aP9(n:Nat):KV (xL Bx c L (pw 6 11) yC (PP c (cu c L)) n)=CD c L n:=by
 induction n with
 |zero=>rfl
 |succ n ih=>rw[eV,aRJ];simp only[aUn,ih];rfl
def aPF:aG0 c (cu c L)=CD c L L:=aP9 c L L
def aXV:List G.T->List G.T->Rt:=aAE c (CD c L L)
def e16:QZ (xF Bx c (cu c L))=aXV c L:=by rw[aRK];simp only[aPF];rfl
def c16(a:List G.T)(b:List G.T)(L n:Nat):cG L (n+1) 16 [yS 3 a,yS 3 b]=aXV (cG L n) L a b:=by rw[<-e16];exact cz (x:=Bx) (by kernel_rfl) L n _
def aSQ(c:cJ)(e:Cu):Kt:=xK sC
def aSP:Kt:=xT sC c e [1,1,1] (aSQ c e)
def PO:Kt:=dK U0 0 (aSP c e)
def aSO(n1:Nt):Kt:=gP U0 yA n1 (PO c e)
def aSN(n1:Nt):Kt:=xT sC c e (pw 8 203) (aSO c e n1)
def UW(n1:Nt):Kt:=dK U0 1 (aSN c e n1)
def PN(n1:Nt):Kt:=dK U0 2 (UW c e n1)
def aFX(n3:Nt)(n1:Nt):Kt:=gP U0 xZ n3 (PN c e n1)
def aAB(c:cJ)(a:List G.T->Int->List G.Y->Rt)(b:List G.T):Rt:=
 a b 0 ([]:List G.Y)
def K0(f:List G.Y->Int->List G.T->List G.Y->Rt)(a:List G.T)(b:Int)(d:List G.Y):Rt:=
 cH (decide (b<(List.length a:Int))) (ob (eK a b) λg=>
 cH (decide (g.kind=1)) (ob (eK a b) λh=>
 f ([h.name]:List G.Y) b a d) (ob (eK a b) λi=>
 fZ [zS 3] (c 41 [yR 3 i]) λ(j:List G.T×Unit)=>
 IM (c 17 [yS 3 j.1]) λl=>
 f l.1 b a d)) (some [yS 1 d])
def zN(n:Nt):List G.T->Int->List G.Y->Rt:=λx0 x1 x2=>n [yS 3 x0,yI x1,yS 1 x2]
def aGZ:=zN (xE sC e (pw 6 11) yA (PO c e))
def aAA(c:cJ)(a:List G.Y->Int->Int->List G.T->List G.Y->Rt)(b:List G.Y)(d:Int)(f:List G.T)(g:List G.Y):Rt:=
 a b 0 d f g
def aHs(n:Nt):List G.Y->Int->List G.T->List G.Y->Rt:=λx0 x1 x2 x3=>n [yS 1 x0,yI x1,yS 3 x2,yS 1 x3]
def YI(n1:Nt):=aHs (xD sC e (pw 12 1611) Mt (UW c e n1))
def RR(h:Int->List G.Y->Int->List G.T->List G.Y->Rt)(j:List G.T->Int->List G.Y->Rt)(a:List G.Y)(b:Int)(f:Int)(g:List G.T)(d:List G.Y):Rt:=
 cH (decide (b<(List.length a:Int))) (ob (eK a b) λl=>
 mZ (c 42 [yS 1 d,yR 1 l]) λm=>
 cH (!m.1) (ob (eK a b) λi=>
 jC (Nat.ble ((List.length d+List.length ([i]:List G.Y))*32) 1073741824)<|
 h b a f g (d++([i]:List G.Y))) (h b a f g d)) (j g (IntKind.i64.wrap (f+1)) d)
def KU(n:Nt):List G.Y->Int->Int->List G.T->List G.Y->Rt:=λx0 x1 x2 x3 x4=>n [yS 1 x0,yI x1,yI x2,yS 3 x3,yS 1 x4]
def aGY(n1:Nt):=KU (xE sC e (pw 15 5707) xZ (PN c e n1))
def RQ(c:cJ)(a:List G.Y->Int->Int->List G.T->List G.Y->Rt)(b:Int)(d:List G.Y)(f:Int)(g:List G.T)(h:List G.Y):Rt:=
 a d (IntKind.i64.wrap (b+1)) f g h
def aHr(n:Nt):Int->List G.Y->Int->List G.T->List G.Y->Rt:=λx0 x1 x2 x3 x4=>n [yI x0,yS 1 x1,yI x2,yS 3 x3,yS 1 x4]
def YH(n3:Nt)(n1:Nt):=aHr (xD sC e (pw 18 104011) Ms (aFX c e n3 n1))
def aRH:NN (xF sC c e)=aAB c (aGZ c e):=by kernel_rfl
def aRG(n1:Nt):zN (xA sC c e (pw 6 11) yA (gP U0 yA n1 (PO c e)))=K0 c (YI c e n1):=by kernel_rfl
def aRF(n1:Nt):aHs (xA sC c e (pw 12 1611) Mt (UW c e n1))=aAA c (aGY c e n1):=by kernel_rfl
def aRE(n3:Nt)(n1:Nt):KU (xA sC c e (pw 15 5707) xZ (gP U0 xZ n3 (PN c e n1)))=RR c (YH c e n3 n1) (zN n1):=by kernel_rfl
def aRD(n3:Nt)(n1:Nt):aHr (xA sC c e (pw 18 104011) Ms (aFX c e n3 n1))=RQ c (KU n3):=by kernel_rfl
def Rj(L:Nat)(n3:List G.Y->Int->Int->List G.T->List G.Y->Rt)(n1:List G.T->Int->List G.Y->Rt):Int->List G.Y->Int->List G.T->List G.Y->Rt:=RQ c n3
def aUl(n3:Nt)(n1:Nt):YH c (cu c L) n3 n1=Rj c L (KU n3) (zN n1):=by rw[YH,dG,aRD];rfl
def zK(c:cJ)(L:Nat)(n1:List G.T->Int->List G.Y->Rt):Nat->List G.Y->Int->Int->List G.T->List G.Y->Rt
 |0=>λ_ _ _ _ _=>none
 |n+1=>RR c (Rj c L (zK c L n1 n) n1) n1
def aP7(n1:Nt)(n:Nat):KU (xL sC c L (pw 15 5707) xZ (PN c (cu c L) n1) n)=zK c L (zN n1) n:=by
 induction n with
 |zero=>rfl
 |succ n ih=>rw[eV,aRE];simp only[aUl,ih];rfl
def aPD(n1:Nt):aGY c (cu c L) n1=zK c L (zN n1) L:=aP7 c L n1 L
def ZW(n1:List G.T->Int->List G.Y->Rt):List G.Y->Int->List G.T->List G.Y->Rt:=aAA c (zK c L n1 L)
def aUm(n1:Nt):YI c (cu c L) n1=ZW c L (zN n1):=by rw[YI,dG,aRF];simp only[aPD];rfl
def uA(c:cJ)(L:Nat):Nat->List G.T->Int->List G.Y->Rt
 |0=>λ_ _ _=>none
 |n+1=>K0 c (ZW c L (uA c L n))
def aP8(n:Nat):zN (xL sC c L (pw 6 11) yA (PO c (cu c L)) n)=uA c L n:=by
 induction n with
 |zero=>rfl
 |succ n ih=>rw[eV,aRG];simp only[aUm,ih];rfl
def aPE:aGZ c (cu c L)=uA c L L:=aP8 c L L
def a3d:List G.T->Rt:=aAB c (uA c L L)
def e17:NN (xF sC c (cu c L))=a3d c L:=by rw[aRH];simp only[aPE];rfl
def a2A(a:List G.T)(L n:Nat):cG L (n+1) 17 [yS 3 a]=a3d (cG L n) L a:=by rw[<-e17];exact cz (x:=sC) (by kernel_rfl) L n _
def aSM(c:cJ)(e:Cu):Kt:=xK xM
def aSL:Kt:=xT xM c e [1,1] (aSM c e)
def PM:Kt:=dK U0 0 (aSL c e)
def aSK(n1:Nt):Kt:=gP U0 xY n1 (PM c e)
def aSJ(n1:Nt):Kt:=xT xM c e (pw 7 101) (aSK c e n1)
def aSI(n1:Nt):Kt:=dK U0 1 (aSJ c e n1)
def UV(n1:Nt):Kt:=dK U0 2 (aSI c e n1)
def aIx(c:cJ)(a:List G.Y->List G.Y->Int->Rt)(b:List G.Y)(d:List G.Y):Rt:=
 a b d 0
def aHq(n:Nt):List G.Y->List G.Y->Rt:=λx0 x1=>n [yS 1 x0,yS 1 x1]
def RP(c:cJ)(d:Int->Int->List G.Y->List G.Y->Rt)(a:List G.Y)(f:List G.Y)(b:Int):Rt:=
 cH (decide (b<(List.length a:Int))) (d 0 b a f) (some [yB false])
def Ev(n:Nt):List G.Y->List G.Y->Int->Rt:=λx0 x1 x2=>n [yS 1 x0,yS 1 x1,yI x2]
def aGX:=Ev (xE xM e (pw 5 5) xY (PM c e))
def RO(c:cJ)(g:Int->Int->List G.Y->List G.Y->Rt)(h:List G.Y->List G.Y->Int->Rt)(b:Int)(d:Int)(f:List G.Y)(a:List G.Y):Rt:=
 cH (decide (b<(List.length a:Int))) (ob (eK f d) λi=>
 ob (eK a b) λj=>
 cH (decide (i=j)) (some [yB true]) (g (IntKind.i64.wrap (b+1)) d f a)) (h f a (IntKind.i64.wrap (d+1)))
def Rc(n:Nt):Int->Int->List G.Y->List G.Y->Rt:=λx0 x1 x2 x3=>n [yI x0,yI x1,yS 1 x2,yS 1 x3]
def aGW(n1:Nt):=Rc (xE xM e (pw 11 293) B2 (UV c e n1))
def aRC:aHq (xF xM c e)=aIx c (aGX c e):=by kernel_rfl
def aRB(n1:Nt):Ev (xA xM c e (pw 5 5) xY (gP U0 xY n1 (PM c e)))=RP c (aGW c e n1):=by kernel_rfl
def aRA(n2:Nt)(n1:Nt):Rc (xA xM c e (pw 11 293) B2 (gP U0 B2 n2 (UV c e n1)))=RO c (Rc n2) (Ev n1):=by kernel_rfl
def CC(c:cJ)(L:Nat)(n1:List G.Y->List G.Y->Int->Rt):Nat->Int->Int->List G.Y->List G.Y->Rt
 |0=>λ_ _ _ _=>none
 |n+1=>RO c (CC c L n1 n) n1
def aP5(n1:Nt)(n:Nat):Rc (xL xM c L (pw 11 293) B2 (UV c (cu c L) n1) n)=CC c L (Ev n1) n:=by
 induction n with
 |zero=>rfl
 |succ n ih=>rw[eV,aRA];simp only[ih];rfl
def aPB(n1:Nt):aGW c (cu c L) n1=CC c L (Ev n1) L:=aP5 c L n1 L
def zJ(c:cJ)(L:Nat):Nat->List G.Y->List G.Y->Int->Rt
 |0=>λ_ _ _=>none
 |n+1=>RP c (CC c L (zJ c L n) L)
def aP6(n:Nat):Ev (xL xM c L (pw 5 5) xY (PM c (cu c L)) n)=zJ c L n:=by
 induction n with
 |zero=>rfl
 |succ n ih=>rw[eV,aRB];simp only[aPB,ih];rfl
def aPC:aGX c (cu c L)=zJ c L L:=aP6 c L L
def a4k:List G.Y->List G.Y->Rt:=aIx c (zJ c L L)
def e18:aHq (xF xM c (cu c L))=a4k c L:=by rw[aRC];simp only[aPC];rfl
def c18(a:List G.Y)(b:List G.Y)(L n:Nat):cG L (n+1) 18 [yS 1 a,yS 1 b]=a4k (cG L n) L a b:=by rw[<-e18];exact cz (x:=xM) (by kernel_rfl) L n _
def aIw(a:List G.T):Rt:=
 IM (c 43 [yS 3 a,yI 1]) λb=>
 some [yS 1 b.1]
def a3c(L:Nat):List G.T->Rt:=aIw c
def e19:NN (xF aMs c (cu c L))=a3c c L:=by kernel_rfl
def c19(a:List G.T)(L n:Nat):cG L (n+1) 19 [yS 3 a]=a3c (cG L n) L a:=by rw[<-e19];exact cz (x:=aMs) (by kernel_rfl) L n _
def aIv:Rt:=
 fZ [zS 6] (c 44 []) λ(a:List G.A×Unit)=>
 fZ [.str] (c 45 []) λ(b:List UInt8×Unit)=>
 fZ [zS 2,.rc 18] (c 46 [yS 6 a.1,yT [108,105,115,112],yT b.1]) λ(d:List G.O×G.X×Unit)=>
 some [yS 2 d.1]
def aXj(L:Nat):Rt:=aIv c
def e20:zL (xF aMr c (cu c L))=aXj c L:=by kernel_rfl
def a4a(L n:Nat):cG L (n+1) 20 []=aXj (cG L n) L:=by rw[<-e20];exact cz (x:=aMr) (by kernel_rfl) L n _
def aXp(c:cJ)(a:G.Y)(b:List G.T):Rt:=
 some [yR 3 (G.T.mk 3 a OO b)]
def aW4(n:Nt):G.Y->List G.T->Rt:=λx0 x1=>n [yR 1 x0,yS 3 x1]
def a3b(L:Nat):G.Y->List G.T->Rt:=aXp c
def e34:aW4 (xF aMq c (cu c L))=a3b c L:=by kernel_rfl
def a39(a:G.Y)(b:List G.T)(L n:Nat):cG L (n+1) 34 [yR 1 a,yS 3 b]=a3b (cG L n) L a b:=by rw[<-e34];exact cz (x:=aMq) (by kernel_rfl) L n _
def DE(c:cJ)(e:Cu):Kt:=xK tM
def aFV:Kt:=xT tM c e [1,1,1] (DE c e)
def aSE:Kt:=xT tM c e (pw 11 1911) (DE c e)
def UU:Kt:=dK U0 1 (aSE c e)
def aAz(d:Bool->Int->List G.E->Int->G.Z->G.T->Rt)(f:List G.E)(b:Int)(g:G.Z):Rt:=
 tL (c 12 [yI 12,yR 0 g]) λa=>
 cH (decide (b<1)) (d (decide ((3:Int)<a.1)) a.1 f b a.2.1 GB) (d false a.1 f b a.2.1 GB)
def RN(c:cJ)(a:Int->List G.E->Int->G.Z->G.T->Rt)(i:Bool)(b:Int)(d:List G.E)(f:Int)(g:G.Z)(h:G.T):Rt:=
 cH i (jC (!decide ((4:Int)=0))<|
 a (Int.tmod b 4) d f g h) (a b d f g h)
def aHp(n:Nt):Bool->Int->List G.E->Int->G.Z->G.T->Rt:=λx0 x1 x2 x3 x4 x5=>n [yB x0,yI x1,yS 15 x2,yI x3,yR 0 x4,yR 3 x5]
def YG:=aHp (xD tM e (pw 5 11) Mr (aFV c e))
def RM(d:List G.E->Int->G.Z->G.Y->G.T->Rt)(f:Int)(g:List G.E)(h:Int)(a:G.Z)(i:G.T):Rt:=
 cH (decide (f<3)) (wX (c 37 [yR 0 a]) λj=>
 some [yR 3 j.1,yR 0 j.2.1]) (cH (decide (f=3)) (fZ [.rc 2,.rc 0] (c 57 [yI 1,yR 0 a]) λ(l:G.O×G.Z×Unit)=>
 qB (c 49 [yR 2 l.1]) λs=>
 some [yR 3 s.1,yR 0 l.2.1]) (fZ [(.sl .str)] (c 58 []) λ(m:(List (List UInt8))×Unit)=>
 fZ [(.sl .str)] (c 59 []) λ(o:(List (List UInt8))×Unit)=>
 tL (c 12 [yI 4,yR 0 a]) λb=>
 cH (decide (b.1<3)) (tL (c 12 [yI (List.length m.1:Int),yR 0 b.2.1]) λp=>
 ob (eK m.1 p.1) λt=>
 Bm (c 60 [yT t]) λu=>
 d g h p.2.1 u.1 i) (tL (c 12 [yI (List.length o.1:Int),yR 0 b.2.1]) λq=>
 ob (eK o.1 q.1) λv=>
 Bm (c 11 [yT v]) λw=>
 d g h q.2.1 w.1 i)))
def aHo(n:Nt):Int->List G.E->Int->G.Z->G.T->Rt:=λx0 x1 x2 x3 x4=>n [yI x0,yS 15 x1,yI x2,yR 0 x3,yR 3 x4]
def YF:=aHo (xD tM e (pw 4 7) Mq (DE c e))
def aAy(d:Int->List G.E->Int->Int->List G.T->G.Z->G.Y->G.T->Rt)(a:List G.E)(f:Int)(g:G.Z)(b:G.Y)(h:G.T):Rt:=
 fZ [i6,.bool] (c 61 [yS 15 a,yR 1 b]) λ(i:Int×Bool×Unit)=>
 d i.1 a f 0 ([]:List G.T) g b h
def aHn(n:Nt):List G.E->Int->G.Z->G.Y->G.T->Rt:=λx0 x1 x2 x3 x4=>n [yS 15 x0,yI x1,yR 0 x2,yR 1 x3,yR 3 x4]
def YE:=aHn (xD tM e (pw 8 119) Mo (DE c e))
def RJ(l:Int->List G.E->Int->Int->List G.T->G.Z->G.Y->G.T->Rt)(d:Int)(f:List G.E)(g:Int)(h:Int)(a:List G.T)(i:G.Z)(j:G.Y)(m:G.T):Rt:=
 cH (decide (h<d)) (wX (c 36 [yS 15 f,yI (IntKind.i64.wrap (g-1)),yR 0 i]) λb=>
 jC (Nat.ble ((List.length a+List.length ([b.1]:List G.T))*176) 1073741824)<|
 l d f g (IntKind.i64.wrap (h+1)) (a++([b.1]:List G.T)) b.2.1 j m) (qB (c 34 [yR 1 j,yS 3 a]) λo=>
 some [yR 3 o.1,yR 0 i])
def Rb(n:Nt):Int->List G.E->Int->Int->List G.T->G.Z->G.Y->G.T->Rt:=λx0 x1 x2 x3 x4 x5 x6 x7=>n [yI x0,yS 15 x1,yI x2,yI x3,yS 3 x4,yR 0 x5,yR 1 x6,yR 3 x7]
def aGV:=Rb (xE tM e (pw 14 2935) B1 (UU c e))
def aRz:Rd (xF tM c e)=aAz c (YG c e):=by kernel_rfl
def aRy:aHp (xA tM c e (pw 5 11) Mr (aFV c e))=RN c (YF c e):=by kernel_rfl
def aRx:aHo (xA tM c e (pw 4 7) Mq (DE c e))=RM c (YE c e):=by kernel_rfl
def aRw:aHn (xA tM c e (pw 8 119) Mo (DE c e))=aAy c (aGV c e):=by kernel_rfl
def aRv(n4:Nt):Rb (xA tM c e (pw 14 2935) B1 (gP U0 B1 n4 (UU c e)))=RJ c (Rb n4):=by kernel_rfl
def CB(c:cJ)(L:Nat):Nat->Int->List G.E->Int->Int->List G.T->G.Z->G.Y->G.T->Rt
 |0=>λ_ _ _ _ _ _ _ _=>none
 |n+1=>RJ c (CB c L n)
def aP4(n:Nat):Rb (xL tM c L (pw 14 2935) B1 (UU c (cu c L)) n)=CB c L n:=by
 induction n with
 |zero=>rfl
 |succ n ih=>rw[eV,aRv];simp only[ih];rfl
def aPy:aGV c (cu c L)=CB c L L:=aP4 c L L
def Ri:List G.E->Int->G.Z->G.Y->G.T->Rt:=aAy c (CB c L L)
def aUh:YE c (cu c L)=Ri c L:=by rw[YE,dG,aRw];simp only[aPy];rfl
def KY:Int->List G.E->Int->G.Z->G.T->Rt:=RM c (Ri c L)
def aUi:YF c (cu c L)=KY c L:=by rw[YF,dG,aRx];simp only[aUh];rfl
def EA:Bool->Int->List G.E->Int->G.Z->G.T->Rt:=RN c (KY c L)
def aUj:YG c (cu c L)=EA c L:=by rw[YG,dG,aRy];simp only[aUi];rfl
def aXU:List G.E->Int->G.Z->Rt:=aAz c (EA c L)
def e36:Rd (xF tM c (cu c L))=aXU c L:=by rw[aRz];simp only[aUj];rfl
def a2z(a:List G.E)(b:Int)(d:G.Z)(L n:Nat):cG L (n+1) 36 [yS 15 a,yI b,yR 0 d]=aXU (cG L n) L a b d:=by rw[<-e36];exact cz (x:=tM) (by kernel_rfl) L n _
def aIu(b:G.Z):Rt:=
 tL (c 12 [yI 3,yR 0 b]) λa=>
 ob (slc [120,121,122] a.1 (List.length ([120,121,122]:List UInt8):Int)) λd=>
 ob (slc d 0 1) λf=>
 qB (c 13 [yT f]) λg=>
 some [yR 3 g.1,yR 0 a.2.1]
def aW3(n:Nt):G.Z->Rt:=λx0=>n [yR 0 x0]
def aXT(L:Nat):G.Z->Rt:=aIu c
def e37:aW3 (xF aMp c (cu c L))=aXT c L:=by kernel_rfl
def c37(a:G.Z)(L n:Nat):cG L (n+1) 37 [yR 0 a]=aXT (cG L n) L a:=by rw[<-e37];exact cz (x:=aMp) (by kernel_rfl) L n _
def aSD(c:cJ)(e:Cu):Kt:=xK Ft
def aSC:Kt:=xT Ft c e [1,1] (aSD c e)
def UT:Kt:=dK U0 0 (aSC c e)
def aIt(c:cJ)(a:List G.I->Int->G.Y->G.T->Rt)(b:List G.I)(d:G.Y):Rt:=
 a b 0 d GB
def aHm(n:Nt):List G.I->G.Y->Rt:=λx0 x1=>n [yS 4 x0,yR 1 x1]
def RI(c:cJ)(f:List G.I->Int->G.Y->G.T->Rt)(a:List G.I)(b:Int)(d:G.Y)(g:G.T):Rt:=
 cH (decide (b<(List.length a:Int))) (ob (eK a b) λh=>
 cH (decide (h.var=d)) (ob (eK a b) λi=>
 some [yR 3 i.term,yB true]) (f a (IntKind.i64.wrap (b+1)) d g)) (some [yR 3 GB,yB false])
def Ra(n:Nt):List G.I->Int->G.Y->G.T->Rt:=λx0 x1 x2 x3=>n [yS 4 x0,yI x1,yR 1 x2,yR 3 x3]
def aGU:=Ra (xE Ft e (pw 5 5) B0 (UT c e))
def aRu:aHm (xF Ft c e)=aIt c (aGU c e):=by kernel_rfl
def aRt(n1:Nt):Ra (xA Ft c e (pw 5 5) B0 (gP U0 B0 n1 (UT c e)))=RI c (Ra n1):=by kernel_rfl
def CA(c:cJ)(L:Nat):Nat->List G.I->Int->G.Y->G.T->Rt
 |0=>λ_ _ _ _=>none
 |n+1=>RI c (CA c L n)
def aP3(n:Nat):Ra (xL Ft c L (pw 5 5) B0 (UT c (cu c L)) n)=CA c L n:=by
 induction n with
 |zero=>rfl
 |succ n ih=>rw[eV,aRt];simp only[ih];rfl
def aPx:aGU c (cu c L)=CA c L L:=aP3 c L L
def a3a:List G.I->G.Y->Rt:=aIt c (CA c L L)
def e38:aHm (xF Ft c (cu c L))=a3a c L:=by rw[aRu];simp only[aPx];rfl
def a38(a:List G.I)(b:G.Y)(L n:Nat):cG L (n+1) 38 [yS 4 a,yR 1 b]=a3a (cG L n) L a b:=by rw[<-e38];exact cz (x:=Ft) (by kernel_rfl) L n _
def aSB(c:cJ)(e:Cu):Kt:=xK Fs
def aSA:Kt:=xT Fs c e [1,1,1] (aSB c e)
def US:Kt:=dK U0 0 (aSA c e)
def aIs(c:cJ)(a:List G.T->List G.I->Int->List G.T->Rt)(b:List G.T)(d:List G.I):Rt:=
 a b d 0 ([]:List G.T)
def aHl(n:Nt):List G.T->List G.I->Rt:=λx0 x1=>n [yS 3 x0,yS 4 x1]
def RH(h:List G.T->List G.I->Int->List G.T->Rt)(a:List G.T)(f:List G.I)(b:Int)(d:List G.T):Rt:=
 cH (decide (b<(List.length a:Int))) (ob (eK a b) λi=>
 qB (c 15 [yR 3 i,yS 4 f]) λg=>
 jC (Nat.ble ((List.length d+List.length ([g.1]:List G.T))*176) 1073741824)<|
 h a f (IntKind.i64.wrap (b+1)) (d++([g.1]:List G.T))) (some [yS 3 d])
def Q9(n:Nt):List G.T->List G.I->Int->List G.T->Rt:=λx0 x1 x2 x3=>n [yS 3 x0,yS 4 x1,yI x2,yS 3 x3]
def aGT:=Q9 (xE Fs e (pw 6 11) BZ (US c e))
def aRs:aHl (xF Fs c e)=aIs c (aGT c e):=by kernel_rfl
def aRr(n1:Nt):Q9 (xA Fs c e (pw 6 11) BZ (gP U0 BZ n1 (US c e)))=RH c (Q9 n1):=by kernel_rfl
def Cz(c:cJ)(L:Nat):Nat->List G.T->List G.I->Int->List G.T->Rt
 |0=>λ_ _ _ _=>none
 |n+1=>RH c (Cz c L n)
def aP2(n:Nat):Q9 (xL Fs c L (pw 6 11) BZ (US c (cu c L)) n)=Cz c L n:=by
 induction n with
 |zero=>rfl
 |succ n ih=>rw[eV,aRr];simp only[ih];rfl
def aPw:aGT c (cu c L)=Cz c L L:=aP2 c L L
def a4j:List G.T->List G.I->Rt:=aIs c (Cz c L L)
def e39:aHl (xF Fs c (cu c L))=a4j c L:=by rw[aRs];simp only[aPw];rfl
def c39(a:List G.T)(b:List G.I)(L n:Nat):cG L (n+1) 39 [yS 3 a,yS 4 b]=a4j (cG L n) L a b:=by rw[<-e39];exact cz (x:=Fs) (by kernel_rfl) L n _
def aSx(c:cJ)(e:Cu):Kt:=xK Fq
def aSw:Kt:=xT Fq c e [1,1] (aSx c e)
def UR:Kt:=dK U0 0 (aSw c e)
def aIr(c:cJ)(a:List G.T->Int->G.T->Rt)(b:List G.T)(d:G.T):Rt:=
 a b 0 d
def aHk(n:Nt):List G.T->G.T->Rt:=λx0 x1=>n [yS 3 x0,yR 3 x1]
def RG(f:List G.T->Int->G.T->Rt)(a:List G.T)(b:Int)(d:G.T):Rt:=
 cH (decide (b<(List.length a:Int))) (ob (eK a b) λg=>
 mZ (c 62 [yR 3 g,yR 3 d]) λh=>
 cH h.1 (some [yB true]) (f a (IntKind.i64.wrap (b+1)) d)) (some [yB false])
def Q8(n:Nt):List G.T->Int->G.T->Rt:=λx0 x1 x2=>n [yS 3 x0,yI x1,yR 3 x2]
def aGS:=Q8 (xE Fq e (pw 5 5) BY (UR c e))
def aRq:aHk (xF Fq c e)=aIr c (aGS c e):=by kernel_rfl
def aRp(n1:Nt):Q8 (xA Fq c e (pw 5 5) BY (gP U0 BY n1 (UR c e)))=RG c (Q8 n1):=by kernel_rfl
def Cy(c:cJ)(L:Nat):Nat->List G.T->Int->G.T->Rt
 |0=>λ_ _ _=>none
 |n+1=>RG c (Cy c L n)
def aP1(n:Nat):Q8 (xL Fq c L (pw 5 5) BY (UR c (cu c L)) n)=Cy c L n:=by
 induction n with
 |zero=>rfl
 |succ n ih=>rw[eV,aRp];simp only[ih];rfl
def aPu:aGS c (cu c L)=Cy c L L:=aP1 c L L
def a4i:List G.T->G.T->Rt:=aIr c (Cy c L L)
def e40:aHk (xF Fq c (cu c L))=a4i c L:=by rw[aRq];simp only[aPu];rfl
def c40(a:List G.T)(b:G.T)(L n:Nat):cG L (n+1) 40 [yS 3 a,yR 3 b]=a4i (cG L n) L a b:=by rw[<-e40];exact cz (x:=Fq) (by kernel_rfl) L n _
end
end Go.TV
namespace Go.TV
open Go.AI Go.PI Go.Proofs
def Xh{t u:Ty}{x:Den U0.D t}{y:Den U0.D u}(h:My t u x=some y):(⟨t,x⟩:TV U0.D)=⟨u,y⟩:=by
 unfold My at h;split at h
 .rename_i e _;subst e;simp only[aA]at h;subst h;rfl
 .cases h
def Kr: ∀{ts:List Ty} {d:oB} {r:DenL U0.D ts},fH ts d=some r->d=aAY ts r
 |[],[],_,_=>rfl
 |[],_::_,_,h=>by cases h
 |_::_,[],_,h=>by cases h
 |t::ts,v::d,r,h=>by
  simp only[fH]at h;split at h
  .rename_i x q h1 h2;simp only[aA]at h;subst h;show v::d=⟨t,x⟩::aAY ts q;rw[<-Kr h2,<-Xh h1]
  .cases h
def hx(ts:List Ty)(d:oB)(K:DenL U0.D ts->Rt)(z:Rt):Rt:=match fH ts d with|some r=>K r|none=>z
def aVx{ts:List Ty}{d:oB}{K:DenL U0.D ts->Rt}{z:Rt}(h: ∀r,d=aAY ts r->K r=z):hx ts d K z=z:=by
 unfold hx;split
 .rename_i r e;exact h r (Kr e)
 .rfl
def Hk(i:Nat)(h:cJ->Nat->oB->Rt->Rt)(L m:Nat)(d:oB):Prop:=h (cG L m) L d (cG L (m+1) i d)=cG L (m+1) i d
def evq{b:Bool}{x y z:Rt}(h1:b=true->x=z)(h2:y=z):(bif b then x else y)=z:=by cases b;exact h2;exact h1 rfl
def evc{b:Bool}{x y z:Rt}(h1:x=z)(h2:y=z):(bif b then x else y)=z:=by cases b;exact h2;exact h1
noncomputable def hG(i:Nat)(c:cJ)(L:Nat)(d:oB)(z:Rt):Rt:=
 match pL insL i with
 |some x=>bif Nat.beq x.sig.f orcI.n||Nat.beq x.sig.f orcI.m then z else xF x c (cu c L) d
 |none=>z
def aVA(i L m:Nat)(d:oB):hG i (cG L m) L d (cG L (m+1) i d)=cG L (m+1) i d:=by
 unfold hG;split
 .rename_i x hx;cases hb:Nat.beq x.sig.f orcI.n||Nat.beq x.sig.f orcI.m with
  |true=>rfl
  |false=>exact(cg hx hb L m d).symm
 .rfl
structure HE where
 i:Nat
 h:cJ->Nat->oB->Rt->Rt
 ok: ∀L m d,Hk i h L m d
def mH(i:Nat)(ts:List Ty)(F:cJ->Nat->DenL U0.D ts->Rt)(ok: ∀(L m:Nat) (r:DenL U0.D ts),cG L (m+1) i (aAY (D:=U0.D) ts r)=F (cG L m) L r):HE:=
 ⟨i,λc L d z=>hx ts d (F c L) z,λL m d=>aVx λr e=>e▸(ok L m r).symm⟩
abbrev HF:=Nat->cJ->Nat->oB->Rt->Rt
def aXb(f:HF):Prop:= ∀(i L m:Nat) (d:oB),f i (cG L m) L d (cG L (m+1) i d)=cG L (m+1) i d
noncomputable def uZ:HF:=hG
def fY:aXb uZ:=aVA
def vQ(x:HE)(l r:HF):HF:=λi c L d z=>bif Nat.beq i x.i then x.h c L d z else bif Nat.blt i x.i then l i c L d z else r i c L d z
def gF{x:HE}{l r:HF}(hl:aXb l)(hr:aXb r):aXb (vQ x l r):=λi L m d=>
 evq (λe=>by rw[aE e];exact x.ok L m d) (evc (hl i L m d) (hr i L m d))
end Go.TV
namespace Go.TV
open Go.AI Go.PI Go.Proofs
set_option maxRecDepth 20000
noncomputable section
def h3:=mH 3 [(.int .u32)] (λc L r=>F3 c L r.1) λL m r=>c3 r.1 L m
def h8:=mH 8 [] (λc L _=>F8 c L) λL m _=>c8 L m
def h20:=mH 20 [] (λc L _=>aXj c L) λL m _=>a4a L m
def h34:=mH 34 [.rc 1,zS 3] (λc L r=>a3b c L r.1 r.2.1) λL m r=>a39 r.1 r.2.1 L m
def h38:=mH 38 [zS 4,.rc 1] (λc L r=>a3a c L r.1 r.2.1) λL m r=>a38 r.1 r.2.1 L m
def h41:=mH 41 [.rc 3] (λc L r=>aXS c L r.1) λL m r=>a36 r.1 L m
def h42:=mH 42 [zS 1,.rc 1] (λc L r=>a29 c L r.1 r.2.1) λL m r=>a35 r.1 r.2.1 L m
def h44:=mH 44 [] (λc L _=>a28 c L) λL m _=>a34 L m
def h45:=mH 45 [] (λc L _=>a27 c L) λL m _=>a33 L m
def h46:=mH 46 [zS 6,.str,.str] (λc L r=>aXi c L r.1 r.2.1 r.2.2.1) λL m r=>a32 r.1 r.2.1 r.2.2.1 L m
def a15:=mH 58 [] (λc L _=>a26 c L) λL m _=>c58 L m
def h59:=mH 59 [] (λc L _=>a25 c L) λL m _=>c59 L m
def h61:=mH 61 [zS 15,.rc 1] (λc L r=>aXR c L r.1 r.2.1) λL m r=>a30 r.1 r.2.1 L m
def h66:=mH 66 [i6,.rc 20] (λc L r=>a21 c L r.1 r.2.1) λL m r=>c66 r.1 r.2.1 L m
def h73:=mH 73 [] (λc L _=>a2Z c L) λL m _=>a3Z L m
def h80:=mH 80 [.rc 1] (λc L r=>aXQ c L r.1) λL m r=>a3Y r.1 L m
def h81:=mH 81 [zS 15,.rc 1] (λc L r=>aXP c L r.1 r.2.1) λL m r=>a3X r.1 r.2.1 L m
def h82:=mH 82 [.rc 2,.rc 2] (λc L r=>aXO c L r.1 r.2.1) λL m r=>a3W r.1 r.2.1 L m
def h87:=mH 87 [i6,.rc 20] (λc L r=>a2V c L r.1 r.2.1) λL m r=>c87 r.1 r.2.1 L m
def h88:=mH 88 [zS 6,.str,.str] (λc L r=>a2U c L r.1 r.2.1 r.2.2.1) λL m r=>c88 r.1 r.2.1 r.2.2.1 L m
def h89:=mH 89 [.rc 2,i6] (λc L r=>a2T c L r.1 r.2.1) λL m r=>c89 r.1 r.2.1 L m
def aVC:=mH 94 [zS 15,.rc 1] (λc L r=>a2S c L r.1 r.2.1) λL m r=>c94 r.1 r.2.1 L m
def a2b:=mH 103 [zS 15,.rc 1] (λc L r=>aE2 c L r.1 r.2.1) λL m r=>aWt r.1 r.2.1 L m
def a2a:=mH 104 [.rc 15] (λc L r=>aE1 c L r.1) λL m r=>aWs r.1 L m
def a19:=mH 109 [.rc 19,.bool] (λc L r=>aE0 c L r.1 r.2.1) λL m r=>aWr r.1 r.2.1 L m
def a18:=mH 113 [.str] (λc L r=>aEZ c L r.1) λL m r=>aWq r.1 L m
def a17:=mH 116 [zS 6,.str] (λc L r=>aOe c L r.1 r.2.1) λL m r=>a2D r.1 r.2.1 L m
def a16:=mH 145 [.str] (λc L r=>aOd c L r.1) λL m r=>a2B r.1 L m
def aMu:HF:=(vQ h73 (vQ h44 (vQ h34 (vQ h8 (vQ h3 uZ uZ) (vQ h20 uZ uZ)) (vQ h41 (vQ h38 uZ uZ) (vQ h42 uZ uZ))) (vQ h59 (vQ h46 (vQ h45 uZ uZ) (vQ a15 uZ uZ)) (vQ h66 (vQ h61 uZ uZ) uZ))) (vQ aVC (vQ h87 (vQ h81 (vQ h80 uZ uZ) (vQ h82 uZ uZ)) (vQ h89 (vQ h88 uZ uZ) uZ)) (vQ a18 (vQ a2a (vQ a2b uZ uZ) (vQ a19 uZ uZ)) (vQ a16 (vQ a17 uZ uZ) uZ))))
def aCI:aXb aMu:=(gF (gF (gF (gF (gF fY fY) (gF fY fY)) (gF (gF fY fY) (gF fY fY))) (gF (gF (gF fY fY) (gF fY fY)) (gF (gF fY fY) fY))) (gF (gF (gF (gF fY fY) (gF fY fY)) (gF (gF fY fY) fY)) (gF (gF (gF fY fY) (gF fY fY)) (gF (gF fY fY) fY))))
end
end Go.TV
namespace Go.TV
open Go.AI Go.PI Go.Proofs
noncomputable def aOI(K:cJ)(up:Nat->cJ)(L:Nat):Nat->cJ
 |0=>up 0
 |n+1=>λi d=>match K i d with|some r=>some r|none=>aMu i (aOI K up L n) L d (up (n+1) i d)
noncomputable def aPI(L α:Nat):Nat->cJ:=λn=>cG L (α+n)
def FD{K:cJ}{L α:Nat}(hK: ∀n i d r,K i d=some r->cG L (α+n+1) i d=some r): ∀n,aOI K (aPI L α) L n=cG L (α+n)
 |0=>rfl
 |n+1=>by
  funext i d;show(match K i d with|some r=>some r|none=>aMu i (aOI K (aPI L α) L n) L d (cG L (α+n+1) i d))=cG L (α+n+1) i d
  rw[FD hK n];split
  .rename_i r e;exact(hK n i d r e).symm
  .exact aCI i L (α+n) d
end Go.TV
namespace Go.TV
open Go.AI Go.PI Go.Proofs
set_option maxRecDepth 20000
def aOw:G.T:=⟨0,⟨[],[]⟩,⟨0,[],[],⟨[],[]⟩,[],[]⟩,[]⟩
abbrev T3:=G.T×G.T×G.T
abbrev Sk:=List UInt8×List (List UInt8)
def aMU(s:Sk)(x:T3):G.E:=G.E.mk 3 ⟨tW,s.1⟩ ⟨[],[]⟩ ⟨⟨[],[]⟩,[],false,aOw⟩ [⟨⟨tW,s.1⟩,s.2.map (λp=>⟨tW,p⟩),1,x.1,x.2.1,x.2.2⟩] [] [] [] ⟨⟨[],[]⟩,[]⟩ [] [] [] [] 0
def a2l(s:Sk):G.E->Bool
 |⟨k,n,⟨[],[]⟩,⟨⟨[],[]⟩,[],false,⟨bk,⟨[],[]⟩,⟨ok,[],[],⟨[],[]⟩,[],[]⟩,[]⟩⟩,[⟨fn,ps,cl,_,_,_⟩],[],[],[],⟨⟨[],[]⟩,[]⟩,[],[],[],[],h⟩=>decide (k=3)&&decide (n=⟨tW,s.1⟩)&&decide (bk=0)&&decide (ok=0)&&decide (fn=⟨tW,s.1⟩)&&decide (cl=1)&&decide (h=0)&&decide (ps=s.2.map (λp=>⟨tW,p⟩))
 |_=>false
def aMV{s:Sk}{e:G.E}(h:a2l s e=true): ∃x,e=aMU s x:=by
 unfold a2l at h;split at h
 .simp only[aC,aD]at h;obtain⟨⟨⟨⟨⟨⟨⟨rfl,rfl⟩,rfl⟩,rfl⟩,rfl⟩,rfl⟩,rfl⟩,rfl⟩:=h;exact⟨(_,_,_),rfl⟩
 .cases h
def a2k(s:Sk)(r:Rt):Bool:=match r with|some [⟨.rc 15,e⟩]=>a2l s e|_=>false
def aMT{s:Sk}{r:Rt}(h:a2k s r=true): ∃x,r=some [yR 15 (aMU s x)]:=by
 unfold a2k at h;split at h
 .rename_i e;obtain⟨x,hx⟩:=aMV h;exact⟨x,by rw[hx]⟩
 .cases h
def skL:List Sk:=[(aIN,[TJ]),(aIT,[TJ,aA5]),(aIV,[TJ,aA5]),(aI0,[lG]),(aID,[lG]),(aXX,[lG]),(aIX,[lG]),(aIW,[lG]),(aIU,[lG]),(aIP,[lG]),(aIF,[lG]),(aIO,[lG]),(aIz,[lG]),(aIZ,[lG]),(aIL,[lG]),(aIJ,[lG]),(aIK,[lG]),(aIH,[lG]),(aIG,[lG,aA4]),(aII,[lG]),(aIR,[lG]),(aIC,[lG]),(aI1,[lG,aA4]),(aIE,[lG]),(aIQ,[aIY,lG]),(aXY,[aIS,aXZ]),(aIM,[aA6,lG]),(aIB,[aA6,aIA,lG])]
def aQl(k:Nat):Sk:=(skL[k]?).getD ([],[])
def eF(X:Nat->T3):List Sk->Nat->List G.E
 |[],_=>[]
 |s::l,j=>aMU s (X j)::eF X l (j+1)
def eL(X:Nat->T3)(k:Nat):List G.E:=eF X (skL.take k) 0
def Kd:cJ:=λi d=>bif Nat.beq i 20 then(match d with|[]=>some [⟨.sl (.rc 2),oAll⟩]|_=>none)else none
noncomputable def cD(L M k:Nat):cJ:=aOI Kd (aPI (L+7000) (M+99)) (L+7000) k
noncomputable def pE(L M k:Nat)(X:Nat->T3)(o:G.O):Bool:=a2k (aQl k) (cD L M 58 21 [yS 15 (eL X k),yR 2 o])
end Go.TV
