import Derived.Test.YtgddcoodncbkoaaGreatDoorKn
import Derived.Test.YtgddcoodncbkoaaGreatDoorKr
import Derived.Test.YtgddcoodncbkoaaGreatDoorKp
import Derived.Test.YtgddcoodncbkoaaGreatDoorKo
import Derived.Test.YtgddcoodncbkoaaGreatDoorKq
set_option linter.unusedVariables false
set_option linter.unusedSimpArgs false
set_option linter.constructorNameAsVariable false
set_option linter.defProp false
namespace Go.TV
open Go.AI Go.PI Go.Proofs
set_option maxRecDepth 20000
noncomputable section
variable(c:TC0)(e:Cu)(L:Nat)
def q175x0(c:TC0)(e:Cu):Kt:=xK aAp
def q175x1:Kt:=xT aAp c e [1,1] (q175x0 c e)
def aJT:Kt:=bH U0 0 (q175x1 c e)
def B175x0(c:TC0)(a:List UInt8->List G.A->Int->G.A->Rt)(b:List G.A)(d:List UInt8):Rt:=
 a d b 0 (G.A.mk [] ([]:List G.Y))
def V175x0(n:Nt):List G.A->List UInt8->Rt:=λx0 x1=>n [yS 9 x0,yT x1]
def B175x1(c:TC0)(f:List UInt8->List G.A->Int->G.A->Rt)(d:List UInt8)(a:List G.A)(b:Int)(g:G.A):Rt:=
 cnd (decide (b<(List.length a:Int))) (ob (idx a b) λh=>
 cnd (decide (h.name=d)) (ob (idx a b) λi=>
 some [yR 9 i,yB true]) (f d a (IntKind.i64.wrap (b+1)) g)) (some [yR 9 (G.A.mk [] ([]:List G.Y)),yB false])
def aG5(n:Nt):List UInt8->List G.A->Int->G.A->Rt:=λx0 x1 x2 x3=>n [yT x0,yS 9 x1,yI x2,yR 9 x3]
def X175x1:=aG5 (xE aAp e (pw 5 5) tJ (aJT c e))
def s175x0:V175x0 (xF aAp c e)=B175x0 c (X175x1 c e):=by kernel_rfl
def s175x1(n1:Nt):aG5 (xA aAp c e (pw 5 5) tJ (lpK U0 tJ n1 (aJT c e)))=B175x1 c (aG5 n1):=by kernel_rfl
def aGU(c:TC0)(L:Nat):Nat->List UInt8->List G.A->Int->G.A->Rt
 |0=>λ_ _ _ _=>none
 |n+1=>B175x1 c (aGU c L n)
def u175x1(n:Nat):aG5 (xL aAp c L (pw 5 5) tJ (aJT c (cu c L)) n)=aGU c L n:=by
 induction n with
 |zero=>rfl
 |succ n ih=>rw[dD,s175x1];simp only[ih];rfl
def w175x1:X175x1 c (cu c L)=aGU c L L:=u175x1 c L L
def F175:List G.A->List UInt8->Rt:=B175x0 c (aGU c L L)
def e175:V175x0 (xF aAp c (cu c L))=F175 c L:=by rw[s175x0];simp only[w175x1];rfl
def c175(a:List G.A)(b:List UInt8)(L n:Nat):CTp L (n+1) 175 [yS 9 a,yT b]=F175 (CTp L n) L a b:=by rw[<-e175];exact cg (x:=aAp) (by kernel_rfl) (by kernel_rfl) L n _
def B176x0(a:G.Y):Rt:=
 obL [.bool] (c 191 [yR 1 a]) λ(b:Bool×Unit)=>
 some [yB b.1]
def s176x0:eS (xF ii176 c e)=B176x0 c:=by kernel_rfl
def F176(L:Nat):G.Y->Rt:=B176x0 c
def e176:eS (xF ii176 c (cu c L))=F176 c L:=s176x0 _ _
def c176(a:G.Y)(L n:Nat):CTp L (n+1) 176 [yR 1 a]=F176 (CTp L n) L a:=by rw[<-e176];exact cg (x:=ii176) (by kernel_rfl) (by kernel_rfl) L n _
def B180x0(f:List G.E)(a:G.Y):Rt:=
 obL [i6,.bool] (c 92 [yR 1 a]) λ(b:Int×Bool×Unit)=>
 cnd b.2.1 (some [yI b.1,yB true]) (obL [.rc 8,.bool] (c 42 [yS 16 f,yR 1 a]) λ(d:G.F×Bool×Unit)=>
 cnd (!d.2.1) (some [yI 0,yB false]) (some [yI (List.length d.1.params:Int),yB true]))
def s180x0:lN (xF ii180 c e)=B180x0 c:=by kernel_rfl
def F180(L:Nat):List G.E->G.Y->Rt:=B180x0 c
def e180:lN (xF ii180 c (cu c L))=F180 c L:=s180x0 _ _
def c180(a:List G.E)(b:G.Y)(L n:Nat):CTp L (n+1) 180 [yS 16 a,yR 1 b]=F180 (CTp L n) L a b:=by rw[<-e180];exact cg (x:=ii180) (by kernel_rfl) (by kernel_rfl) L n _
def q181x0(c:TC0)(e:Cu):Kt:=xK rL
def q181x1:Kt:=xT rL c e (pw 5 31) (q181x0 c e)
def aFw:Kt:=bH U0 0 (q181x1 c e)
def q181x3(n1:Nt):Kt:=lpK U0 pZ n1 (aFw c e)
def q181x4(n1:Nt):Kt:=xT rL c e (pw 9 303) (q181x3 c e n1)
def B181x0(f:List G.T->Int->Int->Int->Rt)(a:G.T)(b:Int):Rt:=
 cnd (decide (a.kind=2)) (obL [i6] (c 124 [yR 2 a.value]) λ(d:Int×Unit)=>
 some [yI (bif decide (d.1<b)then d.1 else b)]) (obL [zS 3] (c 82 [yR 3 a]) λ(g:List G.T×Unit)=>
 f g.1 b 0 1)
def B181x1(c:TC0)(g:Bool->Int->List G.T->Int->Int->Rt)(a:List G.T)(b:Int)(d:Int)(f:Int):Rt:=
 cnd (decide (d<(List.length a:Int))) (g (decide (f<b)) d a b f) (g false d a b f)
def X181x1:=lX (xE rL e (pw 8 47) pZ (aFw c e))
def B181x2(g:List G.T->Int->Int->Int->Rt)(h:Bool)(b:Int)(d:List G.T)(f:Int)(a:Int):Rt:=
 cnd h (ob (idx d b) λi=>
 obL [i6] (c 181 [yR 3 i,yI (IntKind.i64.wrap (f-a))]) λ(j:Int×Unit)=>
 g d f (IntKind.i64.wrap (b+1)) (IntKind.i64.wrap (a+j.1))) (some [yI a])
def aM4(n1:Nt):=aG3 (xD rL e (pw 11 559) aDR (q181x4 c e n1))
def s181x0:aG4 (xF rL c e)=B181x0 c (X181x1 c e):=by kernel_rfl
def s181x1(n1:Nt):lX (xA rL c e (pw 8 47) pZ (lpK U0 pZ n1 (aFw c e)))=B181x1 c (aM4 c e n1):=by kernel_rfl
def s181x2(n1:Nt):aG3 (xA rL c e (pw 11 559) aDR (q181x4 c e n1))=B181x2 c (lX n1):=by kernel_rfl
def J181x2(L:Nat)(n1:List G.T->Int->Int->Int->Rt):Bool->Int->List G.T->Int->Int->Rt:=B181x2 c n1
def j181x2(n1:Nt):aM4 c (cu c L) n1=J181x2 c L (lX n1):=by rw[aM4,aK,s181x2];rfl
def aGT(c:TC0)(L:Nat):Nat->List G.T->Int->Int->Int->Rt
 |0=>λ_ _ _ _=>none
 |n+1=>B181x1 c (J181x2 c L (aGT c L n))
def u181x1(n:Nat):lX (xL rL c L (pw 8 47) pZ (aFw c (cu c L)) n)=aGT c L n:=by
 induction n with
 |zero=>rfl
 |succ n ih=>rw[dD,s181x1];simp only[j181x2,ih];rfl
def w181x1:X181x1 c (cu c L)=aGT c L L:=u181x1 c L L
def F181:G.T->Int->Rt:=B181x0 c (aGT c L L)
def e181:aG4 (xF rL c (cu c L))=F181 c L:=by rw[s181x0];simp only[w181x1];rfl
def c181(a:G.T)(b:Int)(L n:Nat):CTp L (n+1) 181 [yR 3 a,yI b]=F181 (CTp L n) L a b:=by rw[<-e181];exact cg (x:=rL) (by kernel_rfl) (by kernel_rfl) L n _
def q182x0(c:TC0)(e:Cu):Kt:=xK rK
def q182x1:Kt:=xT rK c e (pw 4 15) (q182x0 c e)
def aFv:Kt:=bH U0 0 (q182x1 c e)
def q182x3(n1:Nt):Kt:=lpK U0 pY n1 (aFv c e)
def q182x4(n1:Nt):Kt:=xT rK c e (pw 8 151) (q182x3 c e n1)
def B182x0(a:List G.T->Int->Int->Int->Rt)(b:G.T)(d:Int):Rt:=
 obL [zS 3] (c 82 [yR 3 b]) λ(f:List G.T×Unit)=>
 a f.1 d 0 0
def B182x1(c:TC0)(f:Bool->Int->List G.T->Int->Int->Rt)(a:List G.T)(b:Int)(d:Int)(g:Int):Rt:=
 cnd (decide (d<(List.length a:Int))) (f (decide ((1:Int)<b)) d a b g) (f false d a b g)
def X182x1:=lX (xE rK e (pw 7 23) pY (aFv c e))
def B182x2(h:List G.T->Int->Int->Int->Rt)(i:Bool)(b:Int)(d:List G.T)(f:Int)(a:Int):Rt:=
 cnd i (ob (idx d b) λj=>
 obL [i6] (c 182 [yR 3 j,yI (IntKind.i64.wrap (f-1))]) λ(g:Int×Unit)=>
 h d f (IntKind.i64.wrap (b+1)) (bif decide (a<g.1)then g.1 else a)) (some [yI (IntKind.i64.wrap (a+1))])
def aM3(n1:Nt):=aG3 (xD rK e (pw 10 279) aDQ (q182x4 c e n1))
def s182x0:aG4 (xF rK c e)=B182x0 c (X182x1 c e):=by kernel_rfl
def s182x1(n1:Nt):lX (xA rK c e (pw 7 23) pY (lpK U0 pY n1 (aFv c e)))=B182x1 c (aM3 c e n1):=by kernel_rfl
def s182x2(n1:Nt):aG3 (xA rK c e (pw 10 279) aDQ (q182x4 c e n1))=B182x2 c (lX n1):=by kernel_rfl
def J182x2(L:Nat)(n1:List G.T->Int->Int->Int->Rt):Bool->Int->List G.T->Int->Int->Rt:=B182x2 c n1
def j182x2(n1:Nt):aM3 c (cu c L) n1=J182x2 c L (lX n1):=by rw[aM3,aK,s182x2];rfl
def aGS(c:TC0)(L:Nat):Nat->List G.T->Int->Int->Int->Rt
 |0=>λ_ _ _ _=>none
 |n+1=>B182x1 c (J182x2 c L (aGS c L n))
def u182x1(n:Nat):lX (xL rK c L (pw 7 23) pY (aFv c (cu c L)) n)=aGS c L n:=by
 induction n with
 |zero=>rfl
 |succ n ih=>rw[dD,s182x1];simp only[j182x2,ih];rfl
def w182x1:X182x1 c (cu c L)=aGS c L L:=u182x1 c L L
def F182:G.T->Int->Rt:=B182x0 c (aGS c L L)
def e182:aG4 (xF rK c (cu c L))=F182 c L:=by rw[s182x0];simp only[w182x1];rfl
def c182(a:G.T)(b:Int)(L n:Nat):CTp L (n+1) 182 [yR 3 a,yI b]=F182 (CTp L n) L a b:=by rw[<-e182];exact cg (x:=rK) (by kernel_rfl) (by kernel_rfl) L n _
def q183x0(c:TC0)(e:Cu):Kt:=xK aDt
def B183x0(a:Bool->Rt)(b:G.O):Rt:=
 obL [i6] (c 124 [yR 2 b]) λ(d:Int×Unit)=>
 cnd (decide (d.1<=3000)) (obL [.bool] (c 196 [yR 2 b]) λ(f:Bool×Unit)=>
 a f.1) (a false)
def B183x1(c:TC0)(a:Bool):Rt:=
 some [yB a]
def aM2:=bX (xD aDt e [1,1,0] aDP (q183x0 c e))
def s183x0:oW (xF aDt c e)=B183x0 c (aM2 c e):=by kernel_rfl
def s183x1:bX (xA aDt c e [1,1,0] aDP (q183x0 c e))=B183x1 c:=by kernel_rfl
def J183x1(L:Nat):Bool->Rt:=B183x1 c
def j183x1:aM2 c (cu c L)=J183x1 c L:=by rw[aM2,aK,s183x1];rfl
def F183:G.O->Rt:=B183x0 c (J183x1 c L)
def e183:oW (xF aDt c (cu c L))=F183 c L:=by rw[s183x0];simp only[j183x1];rfl
def c183(a:G.O)(L n:Nat):CTp L (n+1) 183 [yR 2 a]=F183 (CTp L n) L a:=by rw[<-e183];exact cg (x:=aDt) (by kernel_rfl) (by kernel_rfl) L n _
def aOn(a:List G.Y)(b:G.Y):Rt:=
 obL [i6] (c 199 [yS 1 a,yR 1 b]) λ(d:Int×Unit)=>
 some [yB (decide ((0:Int)<=d.1))]
def s189x0:vW (xF ii189 c e)=aOn c:=by kernel_rfl
def F189(L:Nat):List G.Y->G.Y->Rt:=aOn c
def e189:vW (xF ii189 c (cu c L))=F189 c L:=s189x0 _ _
def c189(a:List G.Y)(b:G.Y)(L n:Nat):CTp L (n+1) 189 [yS 1 a,yR 1 b]=F189 (CTp L n) L a b:=by rw[<-e189];exact cg (x:=ii189) (by kernel_rfl) (by kernel_rfl) L n _
def q191x0(c:TC0)(e:Cu):Kt:=xK aDs
def B191x0(a:Bool->Rt)(b:G.Y):Rt:=
 obL [.bool] (c 200 [yT b.package]) λ(d:Bool×Unit)=>
 cnd d.1 (cnd (decide ((1:Int)<=(List.length b.name:Int))) (a (decide ((List.length b.name:Int)<=40))) (a false)) (a false)
def B191x1(c:TC0)(a:Bool):Rt:=
 some [yB a]
def aM1:=bX (xD aDs e [1,1,0] aDO (q191x0 c e))
def s191x0:eS (xF aDs c e)=B191x0 c (aM1 c e):=by kernel_rfl
def s191x1:bX (xA aDs c e [1,1,0] aDO (q191x0 c e))=B191x1 c:=by kernel_rfl
def J191x1(L:Nat):Bool->Rt:=B191x1 c
def j191x1:aM1 c (cu c L)=J191x1 c L:=by rw[aM1,aK,s191x1];rfl
def F191:G.Y->Rt:=B191x0 c (J191x1 c L)
def e191:eS (xF aDs c (cu c L))=F191 c L:=by rw[s191x0];simp only[j191x1];rfl
def c191(a:G.Y)(L n:Nat):CTp L (n+1) 191 [yR 1 a]=F191 (CTp L n) L a:=by rw[<-e191];exact cg (x:=aDs) (by kernel_rfl) (by kernel_rfl) L n _
def q196x0(c:TC0)(e:Cu):Kt:=xK oH
def q196x1:Kt:=xT oH c e [1,1,1] (q196x0 c e)
def qS:Kt:=bH U0 0 (q196x1 c e)
def B196x0(b:Bool->Rt)(f:Bool->Rt)(g:Bool->Rt)(d:Bool->Rt)(a:G.O):Rt:=
 cnd (decide (a.kind=1)) (obL [.str,.str] (c 130 [yT a.num,yT a.den]) λ(h:List UInt8×List UInt8×Unit)=>
 cnd (decide (a.sym=zqS)) (cnd (decide (a.text=[])) (cnd (decide ((List.length a.pair:Int)=0)) (cnd (decide (h.1=a.num)) (cnd (decide (h.2.1=a.den)) (obL [i6] (c 173 [yT h.1]) λ(i:Int×Unit)=>
 cnd (decide (i.1<=100)) (obL [i6] (c 173 [yT h.2.1]) λ(j:Int×Unit)=>
 b (decide (j.1<=100))) (b false)) (b false)) (b false)) (b false)) (b false)) (b false)) (cnd (decide (a.kind=2)) (obL [.bool] (c 191 [yR 1 a.sym]) λ(l:Bool×Unit)=>
 cnd l.1 (cnd (decide (a.num=[])) (cnd (decide (a.den=[])) (cnd (decide (a.text=[])) (f (decide ((List.length a.pair:Int)=0))) (f false)) (f false)) (f false)) (f false)) (cnd (decide (a.kind=3)) (cnd (decide (a.sym=zqS)) (cnd (decide (a.num=[])) (cnd (decide (a.den=[])) (cnd (decide ((List.length a.text:Int)<=200)) (g (decide ((List.length a.pair:Int)=0))) (g false)) (g false)) (g false)) (g false)) (cnd (decide (a.kind=4)) (cnd (decide (a.sym=zqS)) (cnd (decide (a.num=[])) (cnd (decide (a.den=[])) (cnd (decide (a.text=[])) (cnd (decide ((List.length a.pair:Int)=2)) (ob (idx a.pair 0) λm=>
 obL [.bool] (c 196 [yR 2 m]) λ(o:Bool×Unit)=>
 cnd o.1 (ob (idx a.pair 1) λp=>
 obL [.bool] (c 196 [yR 2 p]) λ(q:Bool×Unit)=>
 d q.1) (d false)) (d false)) (d false)) (d false)) (d false)) (d false)) (some [yB false]))))
def B196x1(c:TC0)(a:Bool):Rt:=
 some [yB a]
def aM0:=bX (xD oH e (pw 10 427) aDN (qS c e))
def B196x2(c:TC0)(a:Bool):Rt:=
 some [yB a]
def aMZ:=bX (xD oH e (pw 11 747) aDM (qS c e))
def B196x3(c:TC0)(a:Bool):Rt:=
 some [yB a]
def aMY:=bX (xD oH e (pw 13 3051) aDL (qS c e))
def B196x4(c:TC0)(a:Bool):Rt:=
 some [yB a]
def aMX:=bX (xD oH e (pw 15 12267) aDK (qS c e))
def s196x0:oW (xF oH c e)=B196x0 c (aM0 c e) (aMZ c e) (aMY c e) (aMX c e):=by kernel_rfl
def s196x1:bX (xA oH c e (pw 10 427) aDN (qS c e))=B196x1 c:=by kernel_rfl
def s196x2:bX (xA oH c e (pw 11 747) aDM (qS c e))=B196x2 c:=by kernel_rfl
def s196x3:bX (xA oH c e (pw 13 3051) aDL (qS c e))=B196x3 c:=by kernel_rfl
def s196x4:bX (xA oH c e (pw 15 12267) aDK (qS c e))=B196x4 c:=by kernel_rfl
def J196x1(L:Nat):Bool->Rt:=B196x1 c
def j196x1:aM0 c (cu c L)=J196x1 c L:=by rw[aM0,aK,s196x1];rfl
def J196x2(L:Nat):Bool->Rt:=B196x2 c
def j196x2:aMZ c (cu c L)=J196x2 c L:=by rw[aMZ,aK,s196x2];rfl
def J196x3(L:Nat):Bool->Rt:=B196x3 c
def j196x3:aMY c (cu c L)=J196x3 c L:=by rw[aMY,aK,s196x3];rfl
def J196x4(L:Nat):Bool->Rt:=B196x4 c
def j196x4:aMX c (cu c L)=J196x4 c L:=by rw[aMX,aK,s196x4];rfl
def F196:G.O->Rt:=B196x0 c (J196x1 c L) (J196x2 c L) (J196x3 c L) (J196x4 c L)
def e196:oW (xF oH c (cu c L))=F196 c L:=by rw[s196x0];simp only[j196x1,j196x2,j196x3,j196x4];rfl
def c196(a:G.O)(L n:Nat):CTp L (n+1) 196 [yR 2 a]=F196 (CTp L n) L a:=by rw[<-e196];exact cg (x:=oH) (by kernel_rfl) (by kernel_rfl) L n _
def q199x0(c:TC0)(e:Cu):Kt:=xK aAo
def q199x1:Kt:=xT aAo c e [1,1] (q199x0 c e)
def aJS:Kt:=bH U0 0 (q199x1 c e)
def B199x0(c:TC0)(b:Int->List G.Y->Int->G.Y->Rt)(a:List G.Y)(d:G.Y):Rt:=
 b (List.length a:Int) a 0 d
def aHz(c:TC0)(g:Int->List G.Y->Int->G.Y->Rt)(b:Int)(d:List G.Y)(a:Int)(f:G.Y):Rt:=
 cnd (decide (a<b)) (ob (idx d a) λh=>
 cnd (decide (f=h)) (some [yI a]) (g b d (IntKind.i64.wrap (a+1)) f)) (some [yI (-1)])
def X199x1:=aCG (xE aAo e (pw 5 5) tI (aJS c e))
def s199x0:vW (xF aAo c e)=B199x0 c (X199x1 c e):=by kernel_rfl
def s199x1(n1:Nt):aCG (xA aAo c e (pw 5 5) tI (lpK U0 tI n1 (aJS c e)))=aHz c (aCG n1):=by kernel_rfl
def uO(c:TC0)(L:Nat):Nat->Int->List G.Y->Int->G.Y->Rt
 |0=>λ_ _ _ _=>none
 |n+1=>aHz c (uO c L n)
def u199x1(n:Nat):aCG (xL aAo c L (pw 5 5) tI (aJS c (cu c L)) n)=uO c L n:=by
 induction n with
 |zero=>rfl
 |succ n ih=>rw[dD,s199x1];simp only[ih];rfl
def w199x1:X199x1 c (cu c L)=uO c L L:=u199x1 c L L
def F199:List G.Y->G.Y->Rt:=B199x0 c (uO c L L)
def e199:vW (xF aAo c (cu c L))=F199 c L:=by rw[s199x0];simp only[w199x1];rfl
def c199(a:List G.Y)(b:G.Y)(L n:Nat):CTp L (n+1) 199 [yS 1 a,yR 1 b]=F199 (CTp L n) L a b:=by rw[<-e199];exact cg (x:=aAo) (by kernel_rfl) (by kernel_rfl) L n _
def q200x0(c:TC0)(e:Cu):Kt:=xK mJ
def q200x1:Kt:=xT mJ c e [1,1] (q200x0 c e)
def q200x2:Kt:=xT mJ c e [1,1,1] (q200x0 c e)
def aFu:Kt:=bH U0 0 (q200x2 c e)
def q200x4(n2:Nt):Kt:=lpK U0 pX n2 (aFu c e)
def q200x5(n2:Nt):Kt:=xT mJ c e (pw 8 203) (q200x4 c e n2)
def q200x6(n2:Nt):Kt:=bH U0 1 (q200x5 c e n2)
def B200x0(c:TC0)(b:Bool->List UInt8->Rt)(a:List UInt8):Rt:=
 cnd (decide ((List.length a:Int)<1)) (b true a) (cnd (decide ((40:Int)<(List.length a:Int))) (b true a) (ob (idx a 0) λd=>
 cnd (decide ((d.toNat:Int)<97)) (b true a) (ob (idx a 0) λf=>
 b (decide ((122:Int)<(f.toNat:Int))) a)))
def B200x1(c:TC0)(a:List UInt8->Int->Rt)(b:Bool)(d:List UInt8):Rt:=
 cnd b (some [yB false]) (a d 0)
def aMW:=aHp (xD mJ e (pw 4 5) aDJ (q200x1 c e))
def B200x2(c:TC0)(f:Bool->Int->List UInt8->Rt)(b:List UInt8)(d:Int):Rt:=
 cnd (decide (d<(List.length b:Int))) (ob (idx b d) λa=>
 cnd (decide ((a.toNat:Int)<97)) (cnd (decide ((a.toNat:Int)<48)) (f (!decide ((a.toNat:Int)=45)) d b) (cnd (decide ((57:Int)<(a.toNat:Int))) (f (!decide ((a.toNat:Int)=45)) d b) (f false d b))) (cnd (decide ((122:Int)<(a.toNat:Int))) (cnd (decide ((a.toNat:Int)<48)) (f (!decide ((a.toNat:Int)=45)) d b) (cnd (decide ((57:Int)<(a.toNat:Int))) (f (!decide ((a.toNat:Int)=45)) d b) (f false d b))) (f false d b))) (some [yB true])
def X200x2:=cC (xE mJ e (pw 6 11) pX (aFu c e))
def B200x3(c:TC0)(a:List UInt8->Int->Rt)(b:Bool)(d:Int)(f:List UInt8):Rt:=
 cnd b (some [yB false]) (a f (IntKind.i64.wrap (d+1)))
def aMV(n2:Nt):=aG7 (xD mJ e (pw 12 1611) aDI (q200x6 c e n2))
def s200x0:rT (xF mJ c e)=B200x0 c (aMW c e):=by kernel_rfl
def s200x1:aHp (xA mJ c e (pw 4 5) aDJ (q200x1 c e))=B200x1 c (X200x2 c e):=by kernel_rfl
def s200x2(n2:Nt):cC (xA mJ c e (pw 6 11) pX (lpK U0 pX n2 (aFu c e)))=B200x2 c (aMV c e n2):=by kernel_rfl
def s200x3(n2:Nt):aG7 (xA mJ c e (pw 12 1611) aDI (q200x6 c e n2))=B200x3 c (cC n2):=by kernel_rfl
def J200x3(L:Nat)(n2:List UInt8->Int->Rt):Bool->Int->List UInt8->Rt:=B200x3 c n2
def j200x3(n2:Nt):aMV c (cu c L) n2=J200x3 c L (cC n2):=by rw[aMV,aK,s200x3];rfl
def aGR(c:TC0)(L:Nat):Nat->List UInt8->Int->Rt
 |0=>λ_ _=>none
 |n+1=>B200x2 c (J200x3 c L (aGR c L n))
def u200x2(n:Nat):cC (xL mJ c L (pw 6 11) pX (aFu c (cu c L)) n)=aGR c L n:=by
 induction n with
 |zero=>rfl
 |succ n ih=>rw[dD,s200x2];simp only[j200x3,ih];rfl
def w200x2:X200x2 c (cu c L)=aGR c L L:=u200x2 c L L
def J200x1:Bool->List UInt8->Rt:=B200x1 c (aGR c L L)
def j200x1:aMW c (cu c L)=J200x1 c L:=by rw[aMW,aK,s200x1];simp only[w200x2];rfl
def F200:List UInt8->Rt:=B200x0 c (J200x1 c L)
def e200:rT (xF mJ c (cu c L))=F200 c L:=by rw[s200x0];simp only[j200x1];rfl
def c200(a:List UInt8)(L n:Nat):CTp L (n+1) 200 [yT a]=F200 (CTp L n) L a:=by rw[<-e200];exact cg (x:=mJ) (by kernel_rfl) (by kernel_rfl) L n _
end
end Go.TV
namespace Go.TV
open Go.AI Go.PI Go.Proofs
def cst_some{t u:Ty}{x:Den U0.D t}{y:Den U0.D u}(h:cst t u x=some y):(⟨t,x⟩:TV U0.D)=⟨u,y⟩:=by
 unfold cst at h;split at h
 ·rename_i e _;subst e;simp only[ojE]at h;subst h;rfl
 ·cases h
def aGu: ∀{ts:List Ty} {d:TVs} {r:DenL U0.D ts},eM ts d=some r->d=tvL ts r
 |[],[],_,_=>rfl
 |[],_::_,_,h=>by cases h
 |_::_,[],_,h=>by cases h
 |t::ts,v::d,r,h=>by
  simp only[eM]at h;split at h
  ·rename_i x q h1 h2;simp only[ojE]at h;subst h;show v::d=⟨t,x⟩::tvL ts q;rw[<-aGu h2,<-cst_some h1]
  ·cases h
def hx(ts:List Ty)(d:TVs)(K:DenL U0.D ts->Rt)(z:Rt):Rt:=match eM ts d with|some r=>K r|none=>z
def hx_ok{ts:List Ty}{d:TVs}{K:DenL U0.D ts->Rt}{z:Rt}(h: ∀r,d=tvL ts r->K r=z):hx ts d K z=z:=by
 unfold hx;split
 ·rename_i r e;exact h r (aGu e)
 ·rfl
def Hk(i:Nat)(h:TC0->Nat->TVs->Rt->Rt)(L m:Nat)(d:TVs):Prop:=h (CTp L m) L d (CTp L (m+1) i d)=CTp L (m+1) i d
def evq{b:Bool}{x y z:Rt}(h1:b=true->x=z)(h2:y=z):(bif b then x else y)=z:=by cases b;exact h2;exact h1 rfl
def evc{b:Bool}{x y z:Rt}(h1:x=z)(h2:y=z):(bif b then x else y)=z:=by cases b;exact h2;exact h1
noncomputable def hG(i:Nat)(c:TC0)(L:Nat)(d:TVs)(z:Rt):Rt:=
 match tH insL i with
 |some x=>bif Nat.beq x.sig.f orcI.n||Nat.beq x.sig.f orcI.m then z else xF x c (cu c L) d
 |none=>z
def hG_ok(i L m:Nat)(d:TVs):hG i (CTp L m) L d (CTp L (m+1) i d)=CTp L (m+1) i d:=by
 unfold hG;split
 ·rename_i x hx;cases hb:Nat.beq x.sig.f orcI.n||Nat.beq x.sig.f orcI.m with
  |true=>rfl
  |false=>exact(cg hx hb L m d).symm
 ·rfl
structure HE where
 i:Nat
 h:TC0->Nat->TVs->Rt->Rt
 ok: ∀L m d,Hk i h L m d
def mH(i:Nat)(ts:List Ty)(F:TC0->Nat->DenL U0.D ts->Rt)(ok: ∀(L m:Nat) (r:DenL U0.D ts),CTp L (m+1) i (tvL (D:=U0.D) ts r)=F (CTp L m) L r):HE:=
 ⟨i,λc L d z=>hx ts d (F c L) z,λL m d=>hx_ok λr e=>e▸(ok L m r).symm⟩
abbrev HF:=Nat->TC0->Nat->TVs->Rt->Rt
def OkF(f:HF):Prop:= ∀(i L m:Nat) (d:TVs),f i (CTp L m) L d (CTp L (m+1) i d)=CTp L (m+1) i d
noncomputable def lfH:HF:=hG
def aT:OkF lfH:=hG_ok
def ndH(x:HE)(l r:HF):HF:=λi c L d z=>bif Nat.beq i x.i then x.h c L d z else bif Nat.blt i x.i then l i c L d z else r i c L d z
def aV{x:HE}{l r:HF}(hl:OkF l)(hr:OkF r):OkF (ndH x l r):=λi L m d=>
 evq (λe=>by rw[nqE e];exact x.ok L m d) (evc (hl i L m d) (hr i L m d))
end Go.TV
namespace Go.TV
open Go.AI Go.PI Go.Proofs
set_option maxRecDepth 20000
noncomputable section
def h2:=mH 2 [(.int .u32)] (λc L r=>F2 c L r.1) λL m r=>c2 r.1 L m
def h4:=mH 4 [.str] (λc L r=>F4 c L r.1) λL m r=>c4 r.1 L m
def h6:=mH 6 [zS 16,.rc 1,.rc 3,i6] (λc L r=>F6 c L r.1 r.2.1 r.2.2.1 r.2.2.2.1) λL m r=>c6 r.1 r.2.1 r.2.2.1 r.2.2.2.1 L m
def h7:=mH 7 [] (λc L _=>F7 c L) λL m _=>c7 L m
def h11:=mH 11 [zS 16,.rc 1] (λc L r=>F11 c L r.1 r.2.1) λL m r=>c11 r.1 r.2.1 L m
def h14:=mH 14 [] (λc L _=>F14 c L) λL m _=>c14 L m
def h19:=mH 19 [.rc 1] (λc L r=>F19 c L r.1) λL m r=>c19 r.1 L m
def h20:=mH 20 [.rc 1,zS 3] (λc L r=>F20 c L r.1 r.2.1) λL m r=>c20 r.1 r.2.1 L m
def h32:=mH 32 [.rc 3] (λc L r=>F32 c L r.1) λL m r=>c32 r.1 L m
def h33:=mH 33 [zS 3] (λc L r=>F33 c L r.1) λL m r=>c33 r.1 L m
def h34:=mH 34 [.rc 3,.str,i6] (λc L r=>F34 c L r.1 r.2.1 r.2.2.1) λL m r=>c34 r.1 r.2.1 r.2.2.1 L m
def h35:=mH 35 [zS 16,.rc 5,.rc 3] (λc L r=>F35 c L r.1 r.2.1 r.2.2.1) λL m r=>c35 r.1 r.2.1 r.2.2.1 L m
def h36:=mH 36 [zS 3] (λc L r=>F36 c L r.1) λL m r=>c36 r.1 L m
def h37:=mH 37 [.str] (λc L r=>F37 c L r.1) λL m r=>c37 r.1 L m
def h38:=mH 38 [] (λc L _=>F38 c L) λL m _=>c38 L m
def h39:=mH 39 [] (λc L _=>F39 c L) λL m _=>c39 L m
def h40:=mH 40 [.rc 2] (λc L r=>F40 c L r.1) λL m r=>c40 r.1 L m
def h41:=mH 41 [zS 1,zS 1] (λc L r=>F41 c L r.1 r.2.1) λL m r=>c41 r.1 r.2.1 L m
def h42:=mH 42 [zS 16,.rc 1] (λc L r=>F42 c L r.1 r.2.1) λL m r=>c42 r.1 r.2.1 L m
def h43:=mH 43 [.rc 3,.rc 3] (λc L r=>F43 c L r.1 r.2.1) λL m r=>c43 r.1 r.2.1 L m
def h44:=mH 44 [.rc 1] (λc L r=>F44 c L r.1) λL m r=>c44 r.1 L m
def h45:=mH 45 [.rc 1] (λc L r=>F45 c L r.1) λL m r=>c45 r.1 L m
def h46:=mH 46 [.rc 1] (λc L r=>F46 c L r.1) λL m r=>c46 r.1 L m
def h47:=mH 47 [.rc 3,.rc 3] (λc L r=>F47 c L r.1 r.2.1) λL m r=>c47 r.1 r.2.1 L m
def h48:=mH 48 [] (λc L _=>F48 c L) λL m _=>c48 L m
def h49:=mH 49 [] (λc L _=>F49 c L) λL m _=>c49 L m
def h51:=mH 51 [.str] (λc L r=>F51 c L r.1) λL m r=>c51 r.1 L m
def h54:=mH 54 [] (λc L _=>F54 c L) λL m _=>c54 L m
def h60:=mH 60 [] (λc L _=>F60 c L) λL m _=>c60 L m
def h65:=mH 65 [] (λc L _=>F65 c L) λL m _=>c65 L m
def h66:=mH 66 [.rc 2] (λc L r=>F66 c L r.1) λL m r=>c66 r.1 L m
def h79:=mH 79 [.rc 1] (λc L r=>F79 c L r.1) λL m r=>c79 r.1 L m
def h81:=mH 81 [.rc 3] (λc L r=>F81 c L r.1) λL m r=>c81 r.1 L m
def h82:=mH 82 [.rc 3] (λc L r=>F82 c L r.1) λL m r=>c82 r.1 L m
def h83:=mH 83 [zS 1,.rc 1] (λc L r=>F83 c L r.1 r.2.1) λL m r=>c83 r.1 r.2.1 L m
def h84:=mH 84 [.rc 3,.rc 3,.rc 3] (λc L r=>F84 c L r.1 r.2.1 r.2.2.1) λL m r=>c84 r.1 r.2.1 r.2.2.1 L m
def h85:=mH 85 [zS 3,.rc 3] (λc L r=>F85 c L r.1 r.2.1) λL m r=>c85 r.1 r.2.1 L m
def h86:=mH 86 [.rc 1] (λc L r=>F86 c L r.1) λL m r=>c86 r.1 L m
def h87:=mH 87 [zS 1,.rc 1] (λc L r=>F87 c L r.1 r.2.1) λL m r=>c87 r.1 r.2.1 L m
def h88:=mH 88 [zS 16,.rc 1] (λc L r=>F88 c L r.1 r.2.1) λL m r=>c88 r.1 r.2.1 L m
def h89:=mH 89 [.rc 16] (λc L r=>F89 c L r.1) λL m r=>c89 r.1 L m
def h90:=mH 90 [.rc 2,.rc 2] (λc L r=>F90 c L r.1 r.2.1) λL m r=>c90 r.1 r.2.1 L m
def h91:=mH 91 [zS 3,zS 3] (λc L r=>F91 c L r.1 r.2.1) λL m r=>c91 r.1 r.2.1 L m
def h92:=mH 92 [.rc 1] (λc L r=>F92 c L r.1) λL m r=>c92 r.1 L m
def h93:=mH 93 [.rc 3,.rc 3,zS 7] (λc L r=>F93 c L r.1 r.2.1 r.2.2.1) λL m r=>c93 r.1 r.2.1 r.2.2.1 L m
def h94:=mH 94 [] (λc L _=>F94 c L) λL m _=>c94 L m
def h95:=mH 95 [] (λc L _=>F95 c L) λL m _=>c95 L m
def h96:=mH 96 [zS 9,.str,.str] (λc L r=>F96 c L r.1 r.2.1 r.2.2.1) λL m r=>c96 r.1 r.2.1 r.2.2.1 L m
def h104:=mH 104 [.rc 1] (λc L r=>F104 c L r.1) λL m r=>c104 r.1 L m
def h105:=mH 105 [.rc 2] (λc L r=>F105 c L r.1) λL m r=>c105 r.1 L m
def h117:=mH 117 [.rc 3] (λc L r=>F117 c L r.1) λL m r=>c117 r.1 L m
def h118:=mH 118 [] (λc L _=>F118 c L) λL m _=>c118 L m
def h119:=mH 119 [zS 7,.rc 1] (λc L r=>F119 c L r.1 r.2.1) λL m r=>c119 r.1 r.2.1 L m
def h120:=mH 120 [zS 3,zS 3,zS 7] (λc L r=>F120 c L r.1 r.2.1 r.2.2.1) λL m r=>c120 r.1 r.2.1 r.2.2.1 L m
def h123:=mH 123 [i6,.rc 20] (λc L r=>F123 c L r.1 r.2.1) λL m r=>c123 r.1 r.2.1 L m
def h124:=mH 124 [.rc 2] (λc L r=>F124 c L r.1) λL m r=>c124 r.1 L m
def h128:=mH 128 [.rc 3] (λc L r=>F128 c L r.1) λL m r=>c128 r.1 L m
def h142:=mH 142 [i6,.rc 20] (λc L r=>F142 c L r.1 r.2.1) λL m r=>c142 r.1 r.2.1 L m
def h143:=mH 143 [zS 9,.str,.str] (λc L r=>F143 c L r.1 r.2.1 r.2.2.1) λL m r=>c143 r.1 r.2.1 r.2.2.1 L m
def h144:=mH 144 [.rc 2,i6] (λc L r=>F144 c L r.1 r.2.1) λL m r=>c144 r.1 r.2.1 L m
def h145:=mH 145 [.rc 1] (λc L r=>F145 c L r.1) λL m r=>c145 r.1 L m
def h149:=mH 149 [zS 16,.rc 1] (λc L r=>F149 c L r.1 r.2.1) λL m r=>c149 r.1 r.2.1 L m
def h153:=mH 153 [.rc 3] (λc L r=>F153 c L r.1) λL m r=>c153 r.1 L m
def h154:=mH 154 [.rc 3] (λc L r=>F154 c L r.1) λL m r=>c154 r.1 L m
def h155:=mH 155 [.rc 3] (λc L r=>F155 c L r.1) λL m r=>c155 r.1 L m
def h167:=mH 167 [.rc 19,.bool] (λc L r=>F167 c L r.1 r.2.1) λL m r=>c167 r.1 r.2.1 L m
def h171:=mH 171 [.str] (λc L r=>F171 c L r.1) λL m r=>c171 r.1 L m
def h175:=mH 175 [zS 9,.str] (λc L r=>F175 c L r.1 r.2.1) λL m r=>c175 r.1 r.2.1 L m
def h176:=mH 176 [.rc 1] (λc L r=>F176 c L r.1) λL m r=>c176 r.1 L m
def h180:=mH 180 [zS 16,.rc 1] (λc L r=>F180 c L r.1 r.2.1) λL m r=>c180 r.1 r.2.1 L m
def h181:=mH 181 [.rc 3,i6] (λc L r=>F181 c L r.1 r.2.1) λL m r=>c181 r.1 r.2.1 L m
def h182:=mH 182 [.rc 3,i6] (λc L r=>F182 c L r.1 r.2.1) λL m r=>c182 r.1 r.2.1 L m
def h183:=mH 183 [.rc 2] (λc L r=>F183 c L r.1) λL m r=>c183 r.1 L m
def h191:=mH 191 [.rc 1] (λc L r=>F191 c L r.1) λL m r=>c191 r.1 L m
def h196:=mH 196 [.rc 2] (λc L r=>F196 c L r.1) λL m r=>c196 r.1 L m
def h200:=mH 200 [.str] (λc L r=>F200 c L r.1) λL m r=>c200 r.1 L m
def hAll:HF:=(ndH h87 (ndH h43 (ndH h33 (ndH h11 (ndH h6 (ndH h4 (ndH h2 lfH lfH) lfH) (ndH h7 lfH lfH)) (ndH h20 (ndH h19 (ndH h14 lfH lfH) lfH) (ndH h32 lfH lfH))) (ndH h38 (ndH h36 (ndH h35 (ndH h34 lfH lfH) lfH) (ndH h37 lfH lfH)) (ndH h41 (ndH h40 (ndH h39 lfH lfH) lfH) (ndH h42 lfH lfH)))) (ndH h65 (ndH h48 (ndH h46 (ndH h45 (ndH h44 lfH lfH) lfH) (ndH h47 lfH lfH)) (ndH h54 (ndH h51 (ndH h49 lfH lfH) lfH) (ndH h60 lfH lfH))) (ndH h83 (ndH h81 (ndH h79 (ndH h66 lfH lfH) lfH) (ndH h82 lfH lfH)) (ndH h85 (ndH h84 lfH lfH) (ndH h86 lfH lfH))))) (ndH h142 (ndH h104 (ndH h92 (ndH h90 (ndH h89 (ndH h88 lfH lfH) lfH) (ndH h91 lfH lfH)) (ndH h95 (ndH h94 (ndH h93 lfH lfH) lfH) (ndH h96 lfH lfH))) (ndH h120 (ndH h118 (ndH h117 (ndH h105 lfH lfH) lfH) (ndH h119 lfH lfH)) (ndH h124 (ndH h123 lfH lfH) (ndH h128 lfH lfH)))) (ndH h175 (ndH h153 (ndH h145 (ndH h144 (ndH h143 lfH lfH) lfH) (ndH h149 lfH lfH)) (ndH h167 (ndH h155 (ndH h154 lfH lfH) lfH) (ndH h171 lfH lfH))) (ndH h183 (ndH h181 (ndH h180 (ndH h176 lfH lfH) lfH) (ndH h182 lfH lfH)) (ndH h196 (ndH h191 lfH lfH) (ndH h200 lfH lfH))))))
def hAll_ok:OkF hAll:=(aV (aV (aV (aV (aV (aV (aV aT aT) aT) (aV aT aT)) (aV (aV (aV aT aT) aT) (aV aT aT))) (aV (aV (aV (aV aT aT) aT) (aV aT aT)) (aV (aV (aV aT aT) aT) (aV aT aT)))) (aV (aV (aV (aV (aV aT aT) aT) (aV aT aT)) (aV (aV (aV aT aT) aT) (aV aT aT))) (aV (aV (aV (aV aT aT) aT) (aV aT aT)) (aV (aV aT aT) (aV aT aT))))) (aV (aV (aV (aV (aV (aV aT aT) aT) (aV aT aT)) (aV (aV (aV aT aT) aT) (aV aT aT))) (aV (aV (aV (aV aT aT) aT) (aV aT aT)) (aV (aV aT aT) (aV aT aT)))) (aV (aV (aV (aV (aV aT aT) aT) (aV aT aT)) (aV (aV (aV aT aT) aT) (aV aT aT))) (aV (aV (aV (aV aT aT) aT) (aV aT aT)) (aV (aV aT aT) (aV aT aT))))))
end
end Go.TV
namespace Go.TV
open Go.AI Go.PI Go.Proofs
noncomputable def evB(K:TC0)(up:Nat->TC0)(L:Nat):Nat->TC0
 |0=>up 0
 |n+1=>λi d=>match K i d with|some r=>some r|none=>hAll i (evB K up L n) L d (up (n+1) i d)
noncomputable def upT(L α:Nat):Nat->TC0:=λn=>CTp L (α+n)
def aGp{K:TC0}{L α:Nat}(hK: ∀n i d r,K i d=some r->CTp L (α+n+1) i d=some r): ∀n,evB K (upT L α) L n=CTp L (α+n)
 |0=>rfl
 |n+1=>by
  funext i d;show(match K i d with|some r=>some r|none=>hAll i (evB K (upT L α) L n) L d (CTp L (α+n+1) i d))=CTp L (α+n+1) i d
  rw[aGp hK n];split
  ·rename_i r e;exact(hK n i d r e).symm
  ·exact hAll_ok i L (α+n) d
end Go.TV
namespace Go.TV
open Go.AI Go.PI Go.Proofs
set_option maxRecDepth 20000
def zTe:G.T:=⟨0,⟨[],[]⟩,⟨0,[],[],⟨[],[]⟩,[],[]⟩,[]⟩
abbrev T3:=G.T×G.T×G.T
abbrev Sk:=List UInt8×List (List UInt8)
def enE(s:Sk)(x:T3):G.E:=G.E.mk 3 ⟨vL,s.1⟩ ⟨[],[]⟩ ⟨⟨[],[]⟩,[],false,zTe⟩ [⟨⟨vL,s.1⟩,s.2.map (λp=>⟨vL,p⟩),1,x.1,x.2.1,x.2.2⟩] [] [] [] ⟨⟨[],[]⟩,[]⟩ [] [] [] [] 0
def enB(s:Sk):G.E->Bool
 |⟨k,n,⟨[],[]⟩,⟨⟨[],[]⟩,[],false,⟨bk,⟨[],[]⟩,⟨ok,[],[],⟨[],[]⟩,[],[]⟩,[]⟩⟩,[⟨fn,ps,cl,_,_,_⟩],[],[],[],⟨⟨[],[]⟩,[]⟩,[],[],[],[],h⟩=>decide (k=3)&&decide (n=⟨vL,s.1⟩)&&decide (bk=0)&&decide (ok=0)&&decide (fn=⟨vL,s.1⟩)&&decide (cl=1)&&decide (h=0)&&decide (ps=s.2.map (λp=>⟨vL,p⟩))
 |_=>false
def enB_ok{s:Sk}{e:G.E}(h:enB s e=true): ∃x,e=enE s x:=by
 unfold enB at h;split at h
 ·simp only[bjE,djE]at h;obtain⟨⟨⟨⟨⟨⟨⟨rfl,rfl⟩,rfl⟩,rfl⟩,rfl⟩,rfl⟩,rfl⟩,rfl⟩:=h;exact⟨(_,_,_),rfl⟩
 ·cases h
def enR(s:Sk)(r:Rt):Bool:=match r with|some [⟨.rc 16,e⟩]=>enB s e|_=>false
def enR_ok{s:Sk}{r:Rt}(h:enR s r=true): ∃x,r=some [yR 16 (enE s x)]:=by
 unfold enR at h;split at h
 ·rename_i e;obtain⟨x,hx⟩:=enB_ok h;exact⟨x,by rw[hx]⟩
 ·cases h
def skL:List Sk:=[(y38a,[y47a]),(y27a,[y47a,y49a]),(y25a,[y47a,y49a]),(y11a,[qK]),(y52a,[qK]),(y9a,[qK]),(y20a,[qK]),(y22a,[qK]),(y26a,[qK]),(y35a,[qK]),(y48a,[qK]),(y36a,[qK]),(y59a,[qK]),(y17a,[qK]),(y40a,[qK]),(y42a,[qK]),(y41a,[qK]),(y44a,[qK]),(y45a,[qK,y58a]),(y43a,[qK]),(y30a,[qK]),(y54a,[qK]),(y10a,[qK,y58a]),(y51a,[qK]),(y33a,[y19a,qK]),(y8a,[y29a,y5a]),(y39a,[y34a,qK]),(y55a,[y34a,y56a,qK])]
def skA(k:Nat):Sk:=(skL[k]?).getD ([],[])
def eF(X:Nat->T3):List Sk->Nat->List G.E
 |[],_=>[]
 |s::l,j=>enE s (X j)::eF X l (j+1)
def eL(X:Nat->T3)(k:Nat):List G.E:=eF X (skL.take k) 0
def Kd:TC0:=λi d=>bif Nat.beq i 54 then(match d with|[]=>some [⟨.sl (.rc 2),oAll⟩]|_=>none)else none
noncomputable def cD(L M k:Nat):TC0:=evB Kd (upT (L+7000) (M+99)) (L+7000) k
noncomputable def pE(L M k:Nat)(X:Nat->T3)(o:G.O):Bool:=enR (skA k) (cD L M 58 55 [yS 16 (eL X k),yR 2 o])
end Go.TV
