import Derived.Test.YtgddcoodncbkoaaGreatDoorKn
import Derived.Test.YtgddcoodncbkoaaGreatDoorKp
import Derived.Test.YtgddcoodncbkoaaGreatDoorKo
set_option linter.unusedVariables false
set_option linter.unusedSimpArgs false
set_option linter.constructorNameAsVariable false
set_option linter.defProp false
namespace Go.TV
open Go.AI Go.PI Go.Proofs
set_option maxRecDepth 20000
noncomputable section
variable(c:TC0)(e:Cu)(L:Nat)
def B124x0(a:G.O):Rt:=
 obL [i6] (c 144 [yR 2 a,yI 3001]) λ(b:Int×Unit)=>
 some [yI b.1]
def s124x0:oW (xF ii124 c e)=B124x0 c:=by kernel_rfl
def F124(L:Nat):G.O->Rt:=B124x0 c
def e124:oW (xF ii124 c (cu c L))=F124 c L:=s124x0 _ _
def c124(a:G.O)(L n:Nat):CTp L (n+1) 124 [yR 2 a]=F124 (CTp L n) L a:=by rw[<-e124];exact cg (x:=ii124) (by kernel_rfl) (by kernel_rfl) L n _
def q128x0(c:TC0)(e:Cu):Kt:=xK aDz
def B128x0(a:Bool->Rt)(b:G.T):Rt:=
 obL [i6] (c 153 [yR 3 b]) λ(d:Int×Unit)=>
 cnd (decide (d.1<=3000)) (obL [i6] (c 154 [yR 3 b]) λ(f:Int×Unit)=>
 cnd (decide (f.1<=200)) (obL [.bool] (c 155 [yR 3 b]) λ(g:Bool×Unit)=>
 a g.1) (a false)) (a false)
def B128x1(c:TC0)(a:Bool):Rt:=
 some [yB a]
def aNx:=bX (xD aDz e [1,1,0] aEn (q128x0 c e))
def s128x0:gD (xF aDz c e)=B128x0 c (aNx c e):=by kernel_rfl
def s128x1:bX (xA aDz c e [1,1,0] aEn (q128x0 c e))=B128x1 c:=by kernel_rfl
def J128x1(L:Nat):Bool->Rt:=B128x1 c
def j128x1:aNx c (cu c L)=J128x1 c L:=by rw[aNx,aK,s128x1];rfl
def F128:G.T->Rt:=B128x0 c (J128x1 c L)
def e128:gD (xF aDz c (cu c L))=F128 c L:=by rw[s128x0];simp only[j128x1];rfl
def c128(a:G.T)(L n:Nat):CTp L (n+1) 128 [yR 3 a]=F128 (CTp L n) L a:=by rw[<-e128];exact cg (x:=aDz) (by kernel_rfl) (by kernel_rfl) L n _
def q131x0(c:TC0)(e:Cu):Kt:=xK aDy
def aOK(c:TC0)(a:Bool->Rt)(b:G.O):Rt:=
 cnd (decide (b.kind=2)) (a (decide (b.sym=(G.Y.mk [108,105,115,112] [110,105,108])))) (a false)
def B131x1(c:TC0)(a:Bool):Rt:=
 some [yB a]
def aNw:=bX (xD aDy e [1,1,0] aEm (q131x0 c e))
def s131x0:oW (xF aDy c e)=aOK c (aNw c e):=by kernel_rfl
def s131x1:bX (xA aDy c e [1,1,0] aEm (q131x0 c e))=B131x1 c:=by kernel_rfl
def J131x1(L:Nat):Bool->Rt:=B131x1 c
def j131x1:aNw c (cu c L)=J131x1 c L:=by rw[aNw,aK,s131x1];rfl
def F131:G.O->Rt:=aOK c (J131x1 c L)
def e131:oW (xF aDy c (cu c L))=F131 c L:=by rw[s131x0];simp only[j131x1];rfl
def c131(a:G.O)(L n:Nat):CTp L (n+1) 131 [yR 2 a]=F131 (CTp L n) L a:=by rw[<-e131];exact cg (x:=aDy) (by kernel_rfl) (by kernel_rfl) L n _
def aJ5(c:TC0)(e:Cu):Kt:=xK tB
def q132x1:Kt:=xT tB c e [1,1,1] (aJ5 c e)
def aJ4:Kt:=bH U0 0 (q132x1 c e)
def aOJ(d:Int->List G.T->Int->Int->List G.Y->Rt)(f:Int->List G.Y->Rt)(b:G.T)(g:Int)(h:List G.Y):Rt:=
 obL [.bool,i6,zS 1] (c 161 [yR 3 b,yI g,yS 1 h]) λ(a:Bool×Int×List G.Y×Unit)=>
 cnd (!a.1) (some [yB false,yI a.2.1,yS 1 a.2.2.1]) (cnd (decide (b.kind=3)) (d (List.length b.args:Int) b.args 0 a.2.1 a.2.2.1) (f a.2.1 a.2.2.1))
def aHG(i:Int->List G.T->Int->Int->List G.Y->Rt)(j:Int->List G.Y->Rt)(d:Int)(f:List G.T)(b:Int)(g:Int)(h:List G.Y):Rt:=
 cnd (decide (b<d)) (ob (idx f b) λl=>
 obL [.bool,i6,zS 1] (c 132 [yR 3 l,yI g,yS 1 h]) λ(a:Bool×Int×List G.Y×Unit)=>
 cnd (!a.1) (some [yB false,yI a.2.1,yS 1 a.2.2.1]) (i d f (IntKind.i64.wrap (b+1)) a.2.1 a.2.2.1)) (j g h)
def X132x1:=rF (xE tB e (pw 8 43) tT (aJ4 c e))
def B132x2(c:TC0)(a:Int)(b:List G.Y):Rt:=
 some [yB true,yI a,yS 1 b]
def aGQ:=aHf (xD tB e (pw 4 7) aEl (aJ5 c e))
def s132x0:aHg (xF tB c e)=aOJ c (X132x1 c e) (aGQ c e):=by kernel_rfl
def s132x1(n1:Nt):rF (xA tB c e (pw 8 43) tT (lpK U0 tT n1 (aJ4 c e)))=aHG c (rF n1) (aGQ c e):=by kernel_rfl
def s132x2:aHf (xA tB c e (pw 4 7) aEl (aJ5 c e))=B132x2 c:=by kernel_rfl
def aOa(L:Nat):Int->List G.Y->Rt:=B132x2 c
def j132x2:aGQ c (cu c L)=aOa c L:=by rw[aGQ,aK,s132x2];rfl
def uT(c:TC0)(L:Nat):Nat->Int->List G.T->Int->Int->List G.Y->Rt
 |0=>λ_ _ _ _ _=>none
 |n+1=>aHG c (uT c L n) (aOa c L)
def u132x1(n:Nat):rF (xL tB c L (pw 8 43) tT (aJ4 c (cu c L)) n)=uT c L n:=by
 induction n with
 |zero=>rfl
 |succ n ih=>rw[dD,s132x1];simp only[j132x2,ih];rfl
def w132x1:X132x1 c (cu c L)=uT c L L:=u132x1 c L L
def F132:G.T->Int->List G.Y->Rt:=aOJ c (uT c L L) (aOa c L)
def e132:aHg (xF tB c (cu c L))=F132 c L:=by rw[s132x0];simp only[w132x1,j132x2];rfl
def c132(a:G.T)(b:Int)(d:List G.Y)(L n:Nat):CTp L (n+1) 132 [yR 3 a,yI b,yS 1 d]=F132 (CTp L n) L a b d:=by rw[<-e132];exact cg (x:=tB) (by kernel_rfl) (by kernel_rfl) L n _
def B133x0(c:TC0)(a:List G.I):Rt:=
 cnd (decide ((List.length a:Int)=0)) (chk (List.isEmpty a&&decide ((0:Int)=0)&&decide ((0:Int)=0)&&decide ((0:Int)=0))<|
 some [yS 7 ([]:List G.I)]) (chk (Nat.ble ((List.length ([]:List G.I)+List.length a)*208) 1073741824)<|
 some [yS 7 (([]:List G.I)++a)])
def V133x0(n:Nt):List G.I->Rt:=λx0=>n [yS 7 x0]
def s133x0:V133x0 (xF ii133 c e)=B133x0 c:=by kernel_rfl
def F133(L:Nat):List G.I->Rt:=B133x0 c
def e133:V133x0 (xF ii133 c (cu c L))=F133 c L:=s133x0 _ _
def c133(a:List G.I)(L n:Nat):CTp L (n+1) 133 [yS 7 a]=F133 (CTp L n) L a:=by rw[<-e133];exact cg (x:=ii133) (by kernel_rfl) (by kernel_rfl) L n _
def aJ3(c:TC0)(e:Cu):Kt:=xK mK
def q134x1:Kt:=xT mK c e [1,1,1] (aJ3 c e)
def q134x2:Kt:=xT mK c e (pw 4 15) (aJ3 c e)
def q134x3:Kt:=xT mK c e (pw 5 31) (aJ3 c e)
def aJ2:Kt:=bH U0 0 (q134x3 c e)
def aOI(f:Bool->List G.I->G.T->G.T->Rt)(a:G.T)(b:G.T)(d:List G.I):Rt:=
 cnd (decide (a.kind=1)) (obL [.rc 3,.bool] (c 162 [yS 7 d,yR 1 a.name]) λ(g:G.T×Bool×Unit)=>
 cnd (!g.2.1) (chk (Nat.ble ((List.length d+List.length ([(G.I.mk a.name b)]:List G.I))*208) 1073741824)<|
 some [yS 7 (d++([(G.I.mk a.name b)]:List G.I)),yB true]) (obL [.bool] (c 70 [yR 3 g.1,yR 3 b]) λ(h:Bool×Unit)=>
 some [yS 7 d,yB h.1])) (cnd (!decide (a.kind=3)) (f true d a b) (f (!decide (b.kind=3)) d a b))
def aHF(f:Bool->List G.I->G.T->G.T->Rt)(g:Bool)(d:List G.I)(a:G.T)(b:G.T):Rt:=
 cnd g (obL [.bool] (c 70 [yR 3 a,yR 3 b]) λ(h:Bool×Unit)=>
 some [yS 7 d,yB h.1]) (cnd (!decide (a.name=b.name)) (f true d a b) (f (!decide ((List.length a.args:Int)=(List.length b.args:Int))) d a b))
def aNv:=aIC (xD mK e (pw 5 11) aEk (q134x1 c e))
def aOH(c:TC0)(d:Int->List G.T->Int->List G.I->G.T->Rt)(f:Bool)(a:List G.I)(b:G.T)(g:G.T):Rt:=
 cnd f (some [yS 7 a,yB false]) (d (List.length b.args:Int) b.args 0 a g)
def aNu:=aIC (xD mK e (pw 6 23) aEj (q134x2 c e))
def aHE(i:Int->List G.T->Int->List G.I->G.T->Rt)(d:Int)(f:List G.T)(a:Int)(b:List G.I)(g:G.T):Rt:=
 cnd (decide (a<d)) (ob (idx f a) λj=>
 ob (idx g.args a) λl=>
 obL [zS 7,.bool] (c 134 [yR 3 j,yR 3 l,yS 7 b]) λ(h:List G.I×Bool×Unit)=>
 cnd h.2.1 (i d f (IntKind.i64.wrap (a+1)) h.1 g) (some [yS 7 b,yB false])) (some [yS 7 b,yB true])
def aHe(n:Nt):Int->List G.T->Int->List G.I->G.T->Rt:=λx0 x1 x2 x3 x4=>n [yI x0,yS 3 x1,yI x2,yS 7 x3,yR 3 x4]
def X134x3:=aHe (xE mK e (pw 8 47) tS (aJ2 c e))
def s134x0:aIE (xF mK c e)=aOI c (aNv c e):=by kernel_rfl
def s134x1:aIC (xA mK c e (pw 5 11) aEk (q134x1 c e))=aHF c (aNu c e):=by kernel_rfl
def s134x2:aIC (xA mK c e (pw 6 23) aEj (q134x2 c e))=aOH c (X134x3 c e):=by kernel_rfl
def s134x3(n3:Nt):aHe (xA mK c e (pw 8 47) tS (lpK U0 tS n3 (aJ2 c e)))=aHE c (aHe n3):=by kernel_rfl
def uS(c:TC0)(L:Nat):Nat->Int->List G.T->Int->List G.I->G.T->Rt
 |0=>λ_ _ _ _ _=>none
 |n+1=>aHE c (uS c L n)
def u134x3(n:Nat):aHe (xL mK c L (pw 8 47) tS (aJ2 c (cu c L)) n)=uS c L n:=by
 induction n with
 |zero=>rfl
 |succ n ih=>rw[dD,s134x3];simp only[ih];rfl
def w134x3:X134x3 c (cu c L)=uS c L L:=u134x3 c L L
def aN9:Bool->List G.I->G.T->G.T->Rt:=aOH c (uS c L L)
def j134x2:aNu c (cu c L)=aN9 c L:=by rw[aNu,aK,s134x2];simp only[w134x3];rfl
def aHy:Bool->List G.I->G.T->G.T->Rt:=aHF c (aN9 c L)
def j134x1:aNv c (cu c L)=aHy c L:=by rw[aNv,aK,s134x1];simp only[j134x2];rfl
def F134:G.T->G.T->List G.I->Rt:=aOI c (aHy c L)
def e134:aIE (xF mK c (cu c L))=F134 c L:=by rw[s134x0];simp only[j134x1];rfl
def c134(a:G.T)(b:G.T)(d:List G.I)(L n:Nat):CTp L (n+1) 134 [yR 3 a,yR 3 b,yS 7 d]=F134 (CTp L n) L a b d:=by rw[<-e134];exact cg (x:=mK) (by kernel_rfl) (by kernel_rfl) L n _
def q135x0(c:TC0)(e:Cu):Kt:=xK aAr
def q135x1:Kt:=xT aAr c e [1,1] (q135x0 c e)
def aJ1:Kt:=bH U0 0 (q135x1 c e)
def aOG(c:TC0)(b:Int->List G.F->Int->G.Y->Rt)(a:List G.F)(d:G.Y):Rt:=
 b (List.length a:Int) a 0 d
def V135x0(n:Nt):List G.F->G.Y->Rt:=λx0 x1=>n [yS 8 x0,yR 1 x1]
def aHD(h:Int->List G.F->Int->G.Y->Rt)(d:Int)(f:List G.F)(a:Int)(g:G.Y):Rt:=
 cnd (decide (a<d)) (ob (idx f a) λi=>
 obL [.bool,.rc 1] (c 163 [yR 8 i,yR 1 g]) λ(b:Bool×G.Y×Unit)=>
 cnd b.1 (some [yI a,yB true,yR 1 b.2.1]) (h d f (IntKind.i64.wrap (a+1)) b.2.1)) (some [yI 0,yB false,yR 1 g])
def aHd(n:Nt):Int->List G.F->Int->G.Y->Rt:=λx0 x1 x2 x3=>n [yI x0,yS 8 x1,yI x2,yR 1 x3]
def X135x1:=aHd (xE aAr e (pw 5 5) tQ (aJ1 c e))
def s135x0:V135x0 (xF aAr c e)=aOG c (X135x1 c e):=by kernel_rfl
def s135x1(n1:Nt):aHd (xA aAr c e (pw 5 5) tQ (lpK U0 tQ n1 (aJ1 c e)))=aHD c (aHd n1):=by kernel_rfl
def uR(c:TC0)(L:Nat):Nat->Int->List G.F->Int->G.Y->Rt
 |0=>λ_ _ _ _=>none
 |n+1=>aHD c (uR c L n)
def u135x1(n:Nat):aHd (xL aAr c L (pw 5 5) tQ (aJ1 c (cu c L)) n)=uR c L n:=by
 induction n with
 |zero=>rfl
 |succ n ih=>rw[dD,s135x1];simp only[ih];rfl
def w135x1:X135x1 c (cu c L)=uR c L L:=u135x1 c L L
def F135:List G.F->G.Y->Rt:=aOG c (uR c L L)
def e135:V135x0 (xF aAr c (cu c L))=F135 c L:=by rw[s135x0];simp only[w135x1];rfl
def c135(a:List G.F)(b:G.Y)(L n:Nat):CTp L (n+1) 135 [yS 8 a,yR 1 b]=F135 (CTp L n) L a b:=by rw[<-e135];exact cg (x:=aAr) (by kernel_rfl) (by kernel_rfl) L n _
def aOF(d:G.T)(a:G.T)(b:G.T):Rt:=
 obL [.rc 3] (c 80 [yR 3 d,yR 3 a,yR 3 b]) λ(f:G.T×Unit)=>
 some [yR 3 f.1,yR 3 a,yR 3 b]
def s137x0:aCF (xF ii137 c e)=aOF c:=by kernel_rfl
def F137(L:Nat):G.T->G.T->G.T->Rt:=aOF c
def e137:aCF (xF ii137 c (cu c L))=F137 c L:=s137x0 _ _
def c137(a:G.T)(b:G.T)(d:G.T)(L n:Nat):CTp L (n+1) 137 [yR 3 a,yR 3 b,yR 3 d]=F137 (CTp L n) L a b d:=by rw[<-e137];exact cg (x:=ii137) (by kernel_rfl) (by kernel_rfl) L n _
def q138x0(c:TC0)(e:Cu):Kt:=xK kB
def q138x1:Kt:=xT kB c e [1,1] (q138x0 c e)
def aFF:Kt:=bH U0 0 (q138x1 c e)
def q138x3(n1:Nt):Kt:=lpK U0 qG n1 (aFF c e)
def q138x4(n1:Nt):Kt:=bH U0 1 (q138x3 c e n1)
def q138x5(n1:Nt):Kt:=bH U0 2 (q138x4 c e n1)
def aFE(n1:Nt):Kt:=bH U0 3 (q138x5 c e n1)
def aJ0(n1:Nt):Kt:=bH U0 5 (q138x5 c e n1)
def q138x8(n2:Nt)(n1:Nt):Kt:=lpK U0 qF n2 (aFE c e n1)
def q138x9(n2:Nt)(n1:Nt):Kt:=xT kB c e (pw 14 9105) (q138x8 c e n2 n1)
def aOE(c:TC0)(a:List UInt8->Int->Rt)(b:List UInt8)(d:Int):Rt:=
 a b d
def aHC(d:List UInt8->Int->Rt)(f:List UInt8->Int->Rt)(g:Int->List UInt8->Int->Rt)(b:List UInt8)(a:Int):Rt:=
 cnd (decide (a<(List.length b:Int))) (ob (idx b a) λh=>
 obL [.bool] (c 164 [⟨(.int .u8),(h.toNat:Int)⟩]) λ(i:Bool×Unit)=>
 cnd i.1 (d b (IntKind.i64.wrap (a+1))) (ob (idx b a) λj=>
 cnd (decide ((j.toNat:Int)=59)) (f b a) (obL [.bool] (c 165 [yT b,yI a,⟨(.int .u8),35⟩,⟨(.int .u8),124⟩]) λ(l:Bool×Unit)=>
 cnd l.1 (g 1 b (IntKind.i64.wrap (a+2))) (some [yI a,yB true])))) (some [yI a,yB true])
def X138x1:=cC (xE kB e (pw 4 1) qG (aFF c e))
def B138x2(c:TC0)(d:Bool->List UInt8->Int->Rt)(a:List UInt8)(b:Int):Rt:=
 cnd (decide (b<(List.length a:Int))) (ob (idx a b) λf=>
 d (!decide ((f.toNat:Int)=10)) a b) (d false a b)
def X138x2(n1:Nt):=cC (xE kB e (pw 13 913) qF (aFE c e n1))
def B138x3(f:Int->List UInt8->Int->Rt)(g:List UInt8->Int->Rt)(d:Int)(b:List UInt8)(a:Int):Rt:=
 cnd (decide ((0:Int)<d)) (cnd (decide ((List.length b:Int)<=a)) (some [yI a,yB false]) (obL [.bool] (c 165 [yT b,yI a,⟨(.int .u8),35⟩,⟨(.int .u8),124⟩]) λ(h:Bool×Unit)=>
 cnd h.1 (f (IntKind.i64.wrap (d+1)) b (IntKind.i64.wrap (a+2))) (obL [.bool] (c 165 [yT b,yI a,⟨(.int .u8),124⟩,⟨(.int .u8),35⟩]) λ(i:Bool×Unit)=>
 cnd i.1 (f (IntKind.i64.wrap (d-1)) b (IntKind.i64.wrap (a+2))) (f d b (IntKind.i64.wrap (a+1)))))) (g b a)
def X138x3(n1:Nt):=iB (xE kB e (pw 17 28561) tO (aJ0 c e n1))
def B138x4(c:TC0)(d:List UInt8->Int->Rt)(f:List UInt8->Int->Rt)(g:Bool)(a:List UInt8)(b:Int):Rt:=
 cnd g (d a (IntKind.i64.wrap (b+1))) (f a b)
def aNt(n2:Nt)(n1:Nt):=zC (xD kB e (pw 16 17297) aEi (q138x9 c e n2 n1))
def s138x0:cC (xF kB c e)=aOE c (X138x1 c e):=by kernel_rfl
def s138x1(n1:Nt):cC (xA kB c e (pw 4 1) qG (lpK U0 qG n1 (aFF c e)))=aHC c (cC n1) (X138x2 c e n1) (X138x3 c e n1):=by kernel_rfl
def s138x2(n2:Nt)(n1:Nt):cC (xA kB c e (pw 13 913) qF (lpK U0 qF n2 (aFE c e n1)))=B138x2 c (aNt c e n2 n1):=by kernel_rfl
def s138x3(n3:Nt)(n1:Nt):iB (xA kB c e (pw 17 28561) tO (lpK U0 tO n3 (aJ0 c e n1)))=B138x3 c (iB n3) (cC n1):=by kernel_rfl
def s138x4(n2:Nt)(n1:Nt):zC (xA kB c e (pw 16 17297) aEi (q138x9 c e n2 n1))=B138x4 c (cC n2) (cC n1):=by kernel_rfl
def aG1(c:TC0)(L:Nat)(n1:List UInt8->Int->Rt):Nat->Int->List UInt8->Int->Rt
 |0=>λ_ _ _=>none
 |n+1=>B138x3 c (aG1 c L n1 n) n1
def u138x3(n1:Nt)(n:Nat):iB (xL kB c L (pw 17 28561) tO (aJ0 c (cu c L) n1) n)=aG1 c L (cC n1) n:=by
 induction n with
 |zero=>rfl
 |succ n ih=>rw[dD,s138x3];simp only[ih];rfl
def w138x3(n1:Nt):X138x3 c (cu c L) n1=aG1 c L (cC n1) L:=u138x3 c L n1 L
def J138x4(L:Nat)(n2:List UInt8->Int->Rt)(n1:List UInt8->Int->Rt):Bool->List UInt8->Int->Rt:=B138x4 c n2 n1
def j138x4(n2:Nt)(n1:Nt):aNt c (cu c L) n2 n1=J138x4 c L (cC n2) (cC n1):=by rw[aNt,aK,s138x4];rfl
def aG2(c:TC0)(L:Nat)(n1:List UInt8->Int->Rt):Nat->List UInt8->Int->Rt
 |0=>λ_ _=>none
 |n+1=>B138x2 c (J138x4 c L (aG2 c L n1 n) n1)
def u138x2(n1:Nt)(n:Nat):cC (xL kB c L (pw 13 913) qF (aFE c (cu c L) n1) n)=aG2 c L (cC n1) n:=by
 induction n with
 |zero=>rfl
 |succ n ih=>rw[dD,s138x2];simp only[j138x4,ih];rfl
def w138x2(n1:Nt):X138x2 c (cu c L) n1=aG2 c L (cC n1) L:=u138x2 c L n1 L
def oU(c:TC0)(L:Nat):Nat->List UInt8->Int->Rt
 |0=>λ_ _=>none
 |n+1=>aHC c (oU c L n) (aG2 c L (oU c L n) L) (aG1 c L (oU c L n) L)
def u138x1(n:Nat):cC (xL kB c L (pw 4 1) qG (aFF c (cu c L)) n)=oU c L n:=by
 induction n with
 |zero=>rfl
 |succ n ih=>rw[dD,s138x1];simp only[w138x2,w138x3,ih];rfl
def w138x1:X138x1 c (cu c L)=oU c L L:=u138x1 c L L
def F138:List UInt8->Int->Rt:=aOE c (oU c L L)
def e138:cC (xF kB c (cu c L))=F138 c L:=by rw[s138x0];simp only[w138x1];rfl
def c138(a:List UInt8)(b:Int)(L n:Nat):CTp L (n+1) 138 [yT a,yI b]=F138 (CTp L n) L a b:=by rw[<-e138];exact cg (x:=kB) (by kernel_rfl) (by kernel_rfl) L n _
def aFD(c:TC0)(e:Cu):Kt:=xK kA
def q139x1:Kt:=xT kA c e (pw 4 15) (aFD c e)
def aBl:Kt:=bH U0 0 (q139x1 c e)
def q139x3:Kt:=xT kA c e (pw 17 122839) (aBl c e)
def q139x4:Kt:=xT kA c e (pw 9 511) (aFD c e)
def q139x5:Kt:=bH U0 1 (q139x4 c e)
def aCU(o:Bool->Int->G.K->G.X->G.K->G.X->Rt)(p:Int->G.K->G.X->G.K->G.X->Rt)(q:Int->G.K->G.X->G.K->G.X->Rt)(s:Bool->Int->Int->G.K->G.X->G.K->G.X->Rt)(f:List UInt8)(a:Int):Rt:=
 ob (idx f a) λh=>
 cnd (decide ((h.toNat:Int)=40)) (some [yR 19 (G.K.mk 1 a [] [] []),yI (IntKind.i64.wrap (a+1)),yR 17 (G.X.mk 0 0)]) (cnd (decide ((h.toNat:Int)=41)) (some [yR 19 (G.K.mk 2 a [] [] []),yI (IntKind.i64.wrap (a+1)),yR 17 (G.X.mk 0 0)]) (cnd (decide ((h.toNat:Int)=39)) (some [yR 19 (G.K.mk 4 a [] [] []),yI (IntKind.i64.wrap (a+1)),yR 17 (G.X.mk 0 0)]) (cnd (decide ((h.toNat:Int)=34)) (obL [.str,i6,.rc 17] (c 166 [yT f,yI (IntKind.i64.wrap (a+1)),⟨(.int .u8),34⟩]) λ(b:List UInt8×Int×G.X×Unit)=>
 cnd (decide (b.2.2.1.err=0)) (o (decide ((200:Int)<(List.length b.1:Int))) b.2.1 (G.K.mk 7 a [] b.1 []) b.2.2.1 (G.K.mk 0 0 [] [] []) (G.X.mk 0 0)) (o false b.2.1 (G.K.mk 7 a [] b.1 []) b.2.2.1 (G.K.mk 0 0 [] [] []) (G.X.mk 0 0))) (cnd (decide ((h.toNat:Int)=124)) (obL [.str,i6,.rc 17] (c 166 [yT f,yI (IntKind.i64.wrap (a+1)),⟨(.int .u8),124⟩]) λ(g:List UInt8×Int×G.X×Unit)=>
 cnd (decide (g.2.2.1.err=0)) (obL [.rc 17] (c 167 [yR 19 (G.K.mk 6 a [] g.1 []),yB true]) λ(t:G.X×Unit)=>
 p g.2.1 (G.K.mk 6 a [] g.1 []) t.1 (G.K.mk 0 0 [] [] []) (G.X.mk 0 0)) (p g.2.1 (G.K.mk 6 a [] g.1 []) g.2.2.1 (G.K.mk 0 0 [] [] []) (G.X.mk 0 0))) (obL [.bool] (c 168 [⟨(.int .u8),(h.toNat:Int)⟩]) λ(u:Bool×Unit)=>
 cnd (!u.1) (obL [.rc 17] (c 122 [yI 12,yI a]) λ(v:G.X×Unit)=>
 some [yR 19 (G.K.mk 0 a [] [] []),yI a,yR 17 v.1]) (obL [i6] (c 169 [yT f,yI a]) λ(d:Int×Unit)=>
 ob (slc f a d.1) λj=>
 obL [.bool] (c 165 [yT f,yI d.1,⟨(.int .u8),58⟩,⟨(.int .u8),58⟩]) λ(w:Bool×Unit)=>
 cnd w.1 (obL [.rc 19,i6,.rc 17] (c 170 [yT f,yR 19 (G.K.mk 0 a [] [] []),yT j,yI d.1]) λ(m:G.K×Int×G.X×Unit)=>
 some [yR 19 m.1,yI m.2.1,yR 17 m.2.2.1]) (obL [.str,.str,.bool] (c 171 [yT j]) λ(l:List UInt8×List UInt8×Bool×Unit)=>
 cnd (decide (j=[46])) (q d.1 (G.K.mk 3 a [] [] []) (G.X.mk 0 0) (G.K.mk 0 0 [] [] []) (G.X.mk 0 0)) (cnd l.2.2.1 (obL [.str] (c 172 [yT l.2.1]) λ(x:List UInt8×Unit)=>
 cnd (decide (x.1=[48])) (obL [.rc 17] (c 122 [yI 12,yI a]) λ(y:G.X×Unit)=>
 some [yR 19 (G.K.mk 0 a [] [] []),yI d.1,yR 17 y.1]) (obL [.str] (c 172 [yT l.1]) λ(z:List UInt8×Unit)=>
 obL [.str] (c 172 [yT l.2.1]) λ(A:List UInt8×Unit)=>
 obL [.str,.str] (c 130 [yT z.1,yT A.1]) λ(i:List UInt8×List UInt8×Unit)=>
 obL [i6] (c 173 [yT i.1]) λ(B:Int×Unit)=>
 cnd (decide ((100:Int)<B.1)) (s true a d.1 (G.K.mk 5 a [] i.1 i.2.1) (G.X.mk 0 0) (G.K.mk 0 0 [] [] []) (G.X.mk 0 0)) (obL [i6] (c 173 [yT i.2.1]) λ(C:Int×Unit)=>
 s (decide ((100:Int)<C.1)) a d.1 (G.K.mk 5 a [] i.1 i.2.1) (G.X.mk 0 0) (G.K.mk 0 0 [] [] []) (G.X.mk 0 0)))) (obL [.rc 17] (c 167 [yR 19 (G.K.mk 6 a [] j []),yB false]) λ(D:G.X×Unit)=>
 q d.1 (G.K.mk 6 a [] j []) D.1 (G.K.mk 0 0 [] [] []) (G.X.mk 0 0))))))))))
def B139x1(b:Int->G.K->G.X->G.K->G.X->Rt)(h:Bool)(d:Int)(a:G.K)(i:G.X)(f:G.K)(g:G.X):Rt:=
 cnd h (obL [.rc 17] (c 122 [yI 2,yI a.pos]) λ(j:G.X×Unit)=>
 b d a j.1 f g) (b d a i f g)
def V139x1(n:Nt):Bool->Int->G.K->G.X->G.K->G.X->Rt:=λx0 x1 x2 x3 x4 x5=>n [yB x0,yI x1,yR 19 x2,yR 17 x3,yR 19 x4,yR 17 x5]
def aNs:=V139x1 (xD kA e (pw 19 188375) aEh (q139x3 c e))
def B139x2(c:TC0)(a:Int)(b:G.K)(d:G.X)(f:G.K)(g:G.X):Rt:=
 some [yR 19 b,yI a,yR 17 d]
def aNr:=zB (xD kA e (pw 20 491479) aEg (aBl c e))
def B139x3(c:TC0)(a:Int)(b:G.K)(d:G.X)(f:G.K)(g:G.X):Rt:=
 some [yR 19 b,yI a,yR 17 d]
def aGP:=zB (xD kA e (pw 10 511) aEf (aFD c e))
def B139x4(d:Int->G.K->G.X->G.K->G.X->Rt)(f:Bool)(g:Int)(a:Int)(b:G.K)(h:G.X)(i:G.K)(j:G.X):Rt:=
 cnd f (obL [.rc 17] (c 122 [yI 2,yI g]) λ(l:G.X×Unit)=>
 some [yR 19 b,yI a,yR 17 l.1]) (d a b h i j)
def V139x4(n:Nt):Bool->Int->Int->G.K->G.X->G.K->G.X->Rt:=λx0 x1 x2 x3 x4 x5 x6=>n [yB x0,yI x1,yI x2,yR 19 x3,yR 17 x4,yR 19 x5,yR 17 x6]
def aNq:=V139x4 (xD kA e (pw 19 253183) aEe (q139x5 c e))
def B139x5(c:TC0)(a:Int)(b:G.K)(d:G.X)(f:G.K)(g:G.X):Rt:=
 some [yR 19 b,yI a,yR 17 d]
def aNp:=zB (xD kA e (pw 18 122839) aEd (aBl c e))
def s139x0:cC (xF kA c e)=aCU c (aNs c e) (aNr c e) (aGP c e) (aNq c e):=by kernel_rfl
def s139x1:V139x1 (xA kA c e (pw 19 188375) aEh (q139x3 c e))=B139x1 c (aNp c e):=by kernel_rfl
def s139x2:zB (xA kA c e (pw 20 491479) aEg (aBl c e))=B139x2 c:=by kernel_rfl
def s139x3:zB (xA kA c e (pw 10 511) aEf (aFD c e))=B139x3 c:=by kernel_rfl
def s139x4:V139x4 (xA kA c e (pw 19 253183) aEe (q139x5 c e))=B139x4 c (aGP c e):=by kernel_rfl
def s139x5:zB (xA kA c e (pw 18 122839) aEd (aBl c e))=B139x5 c:=by kernel_rfl
def J139x2(L:Nat):Int->G.K->G.X->G.K->G.X->Rt:=B139x2 c
def j139x2:aNr c (cu c L)=J139x2 c L:=by rw[aNr,aK,s139x2];rfl
def aN8(L:Nat):Int->G.K->G.X->G.K->G.X->Rt:=B139x3 c
def j139x3:aGP c (cu c L)=aN8 c L:=by rw[aGP,aK,s139x3];rfl
def J139x4:Bool->Int->Int->G.K->G.X->G.K->G.X->Rt:=B139x4 c (aN8 c L)
def j139x4:aNq c (cu c L)=J139x4 c L:=by rw[aNq,aK,s139x4];simp only[j139x3];rfl
def J139x5(L:Nat):Int->G.K->G.X->G.K->G.X->Rt:=B139x5 c
def j139x5:aNp c (cu c L)=J139x5 c L:=by rw[aNp,aK,s139x5];rfl
def J139x1:Bool->Int->G.K->G.X->G.K->G.X->Rt:=B139x1 c (J139x5 c L)
def j139x1:aNs c (cu c L)=J139x1 c L:=by rw[aNs,aK,s139x1];simp only[j139x5];rfl
def F139:List UInt8->Int->Rt:=aCU c (J139x1 c L) (J139x2 c L) (aN8 c L) (J139x4 c L)
def e139:cC (xF kA c (cu c L))=F139 c L:=by rw[s139x0];simp only[j139x1,j139x2,j139x3,j139x4];rfl
def c139(a:List UInt8)(b:Int)(L n:Nat):CTp L (n+1) 139 [yT a,yI b]=F139 (CTp L n) L a b:=by rw[<-e139];exact cg (x:=kA) (by kernel_rfl) (by kernel_rfl) L n _
def aFC(c:TC0)(e:Cu):Kt:=xK jZ
def q142x1:Kt:=xT jZ c e (pw 4 15) (aFC c e)
def aFB:Kt:=bH U0 0 (q142x1 c e)
def q142x3(n1:Nt):Kt:=lpK U0 qE n1 (aFB c e)
def q142x4(n1:Nt):Kt:=bH U0 1 (q142x3 c e n1)
def q142x5(n1:Nt):Kt:=xT jZ c e (pw 9 327) (q142x4 c e n1)
def q142x6:Kt:=xT jZ c e (pw 7 111) (aFC c e)
def aJZ:Kt:=bH U0 3 (q142x6 c e)
def B142x0(a:Int->List G.O->G.P->G.O->G.O->G.X->Rt)(b:Int)(d:G.P):Rt:=
 obL [.rc 2] (c 60 []) λ(f:G.O×Unit)=>
 a b ([]:List G.O) d f.1 zqO (G.X.mk 0 0)
def B142x1(c:TC0)(h:Bool->List G.O->Int->G.P->G.O->G.O->G.X->Rt)(j:List G.O->G.P->G.O->G.O->G.X->Rt)(i:Int)(b:List G.O)(a:G.P)(d:G.O)(f:G.O)(g:G.X):Rt:=
 ob (idx a.t a.pos) λl=>
 cnd (!decide (l.kind=2)) (ob (idx a.t a.pos) λm=>
 cnd (decide (m.kind=3)) (h (decide ((0:Int)<(List.length b:Int))) b i a d f g) (h false b i a d f g)) (j b a d f g)
def aCQ(n:Nt):Int->List G.O->G.P->G.O->G.O->G.X->Rt:=λx0 x1 x2 x3 x4 x5=>n [yI x0,yS 2 x1,yR 20 x2,yR 2 x3,yR 2 x4,yR 17 x5]
def X142x1:=aCQ (xE jZ e (pw 6 7) qE (aFB c e))
def B142x2(l:List G.O->G.P->G.O->G.O->G.X->Rt)(m:Int->List G.O->G.P->G.O->G.O->G.X->Rt)(o:Bool)(g:List G.O)(h:Int)(d:G.P)(p:G.O)(i:G.O)(j:G.X):Rt:=
 cnd o (obL [.rc 2,.rc 17,.rc 20] (c 123 [yI h,yR 20 (G.P.mk d.l d.current d.t (IntKind.i64.wrap (d.pos+1)))]) λ(a:G.O×G.X×G.P×Unit)=>
 cnd (!decide (a.2.1.err=0)) (some [yR 2 zqO,yR 17 a.2.1,yR 20 a.2.2.1]) (ob (idx a.2.2.1.t a.2.2.1.pos) λf=>
 cnd (decide (f.kind=2)) (l g a.2.2.1 a.1 i j) (cnd (decide (f.kind=0)) (obL [.rc 17] (c 122 [yI 11,yI f.pos]) λ(q:G.X×Unit)=>
 some [yR 2 zqO,yR 17 q.1,yR 20 a.2.2.1]) (obL [.rc 17] (c 122 [yI 12,yI f.pos]) λ(s:G.X×Unit)=>
 some [yR 2 zqO,yR 17 s.1,yR 20 a.2.2.1])))) (obL [.rc 2,.rc 17,.rc 20] (c 123 [yI h,yR 20 d]) λ(b:G.O×G.X×G.P×Unit)=>
 cnd (!decide (b.2.1.err=0)) (some [yR 2 zqO,yR 17 b.2.1,yR 20 b.2.2.1]) (chk (Nat.ble ((List.length g+List.length ([b.1]:List G.O))*112) 1073741824)<|
 m h (g++([b.1]:List G.O)) b.2.2.1 p i j))
def V142x2(n:Nt):Bool->List G.O->Int->G.P->G.O->G.O->G.X->Rt:=λx0 x1 x2 x3 x4 x5 x6=>n [yB x0,yS 2 x1,yI x2,yR 20 x3,yR 2 x4,yR 2 x5,yR 17 x6]
def aNo(n1:Nt):=V142x2 (xD jZ e (pw 11 583) aEc (q142x5 c e n1))
def B142x3(c:TC0)(d:List G.O->Int->G.P->G.O->G.O->G.X->Rt)(b:List G.O)(a:G.P)(f:G.O)(g:G.O)(h:G.X):Rt:=
 d b (IntKind.i64.wrap ((List.length b:Int)-1)) (G.P.mk a.l a.current a.t (IntKind.i64.wrap (a.pos+1))) f g h
def V142x3(n:Nt):List G.O->G.P->G.O->G.O->G.X->Rt:=λx0 x1 x2 x3 x4=>n [yS 2 x0,yR 20 x1,yR 2 x2,yR 2 x3,yR 17 x4]
def aGO:=V142x3 (xD jZ e (pw 5 15) aEb (aFC c e))
def B142x4(g:List G.O->Int->G.P->G.O->G.O->G.X->Rt)(b:List G.O)(a:Int)(d:G.P)(f:G.O)(h:G.O)(i:G.X):Rt:=
 cnd (decide ((0:Int)<=a)) (ob (idx b a) λj=>
 obL [.rc 2] (c 174 [yR 2 j,yR 2 f]) λ(l:G.O×Unit)=>
 g b (IntKind.i64.wrap (a-1)) d l.1 h i) (some [yR 2 f,yR 17 (G.X.mk 0 0),yR 20 d])
def aHc(n:Nt):List G.O->Int->G.P->G.O->G.O->G.X->Rt:=λx0 x1 x2 x3 x4 x5=>n [yS 2 x0,yI x1,yR 20 x2,yR 2 x3,yR 2 x4,yR 17 x5]
def X142x4:=aHc (xE jZ e (pw 10 175) tN (aJZ c e))
def s142x0:aHh (xF jZ c e)=B142x0 c (X142x1 c e):=by kernel_rfl
def s142x1(n1:Nt):aCQ (xA jZ c e (pw 6 7) qE (lpK U0 qE n1 (aFB c e)))=B142x1 c (aNo c e n1) (aGO c e):=by kernel_rfl
def s142x2(n1:Nt):V142x2 (xA jZ c e (pw 11 583) aEc (q142x5 c e n1))=B142x2 c (aGO c e) (aCQ n1):=by kernel_rfl
def s142x3:V142x3 (xA jZ c e (pw 5 15) aEb (aFC c e))=B142x3 c (X142x4 c e):=by kernel_rfl
def s142x4(n4:Nt):aHc (xA jZ c e (pw 10 175) tN (lpK U0 tN n4 (aJZ c e)))=B142x4 c (aHc n4):=by kernel_rfl
def aGZ(c:TC0)(L:Nat):Nat->List G.O->Int->G.P->G.O->G.O->G.X->Rt
 |0=>λ_ _ _ _ _ _=>none
 |n+1=>B142x4 c (aGZ c L n)
def u142x4(n:Nat):aHc (xL jZ c L (pw 10 175) tN (aJZ c (cu c L)) n)=aGZ c L n:=by
 induction n with
 |zero=>rfl
 |succ n ih=>rw[dD,s142x4];simp only[ih];rfl
def w142x4:X142x4 c (cu c L)=aGZ c L L:=u142x4 c L L
def aN7:List G.O->G.P->G.O->G.O->G.X->Rt:=B142x3 c (aGZ c L L)
def j142x3:aGO c (cu c L)=aN7 c L:=by rw[aGO,aK,s142x3];simp only[w142x4];rfl
def J142x2(n1:Int->List G.O->G.P->G.O->G.O->G.X->Rt):Bool->List G.O->Int->G.P->G.O->G.O->G.X->Rt:=B142x2 c (aN7 c L) n1
def j142x2(n1:Nt):aNo c (cu c L) n1=J142x2 c L (aCQ n1):=by rw[aNo,aK,s142x2];simp only[j142x3];rfl
def aG0(c:TC0)(L:Nat):Nat->Int->List G.O->G.P->G.O->G.O->G.X->Rt
 |0=>λ_ _ _ _ _ _=>none
 |n+1=>B142x1 c (J142x2 c L (aG0 c L n)) (aN7 c L)
def u142x1(n:Nat):aCQ (xL jZ c L (pw 6 7) qE (aFB c (cu c L)) n)=aG0 c L n:=by
 induction n with
 |zero=>rfl
 |succ n ih=>rw[dD,s142x1];simp only[j142x2,j142x3,ih];rfl
def w142x1:X142x1 c (cu c L)=aG0 c L L:=u142x1 c L L
def F142:Int->G.P->Rt:=B142x0 c (aG0 c L L)
def e142:aHh (xF jZ c (cu c L))=F142 c L:=by rw[s142x0];simp only[w142x1];rfl
def c142(a:Int)(b:G.P)(L n:Nat):CTp L (n+1) 142 [yI a,yR 20 b]=F142 (CTp L n) L a b:=by rw[<-e142];exact cg (x:=jZ) (by kernel_rfl) (by kernel_rfl) L n _
end
end Go.TV
namespace Go.TV
open Go.AI Go.PI Go.Proofs
set_option maxRecDepth 20000
noncomputable section
variable(c:TC0)(e:Cu)(L:Nat)
def q143x0(c:TC0)(e:Cu):Kt:=xK rO
def q143x1:Kt:=xT rO c e (pw 4 15) (q143x0 c e)
def q143x2:Kt:=xT rO c e (pw 5 31) (q143x0 c e)
def aJY:Kt:=bH U0 0 (q143x2 c e)
def B143x0(f:Bool->List UInt8->List UInt8->G.A->G.Y->Rt)(g:List G.A)(b:List UInt8)(a:List UInt8):Rt:=
 obL [.rc 9,.bool] (c 175 [yS 9 g,yT b]) λ(d:G.A×Bool×Unit)=>
 cnd (!d.2.1) (some [yR 1 zqS,yI 13]) (cnd (decide ((List.length a:Int)<1)) (f true b a d.1 zqS) (f (decide ((40:Int)<(List.length a:Int))) b a d.1 zqS))
def B143x1(c:TC0)(a:Int->List UInt8->List UInt8->G.A->G.Y->Rt)(b:Bool)(d:List UInt8)(f:List UInt8)(g:G.A)(h:G.Y):Rt:=
 cnd b (some [yR 1 zqS,yI 3]) (a 0 d f g h)
def V143x1(n:Nt):Bool->List UInt8->List UInt8->G.A->G.Y->Rt:=λx0 x1 x2 x3 x4=>n [yB x0,yT x1,yT x2,yR 9 x3,yR 1 x4]
def aNn:=V143x1 (xD rO e (pw 6 23) aEa (q143x1 c e))
def B143x2(c:TC0)(g:Int->List UInt8->List UInt8->G.A->G.Y->Rt)(a:Int)(f:List UInt8)(d:List UInt8)(b:G.A)(h:G.Y):Rt:=
 cnd (decide (a<(List.length b.imports:Int))) (ob (idx b.imports a) λi=>
 cnd (decide (i.name=d)) (ob (idx b.imports a) λj=>
 some [yR 1 j,yI 0]) (g (IntKind.i64.wrap (a+1)) f d b h)) (some [yR 1 (G.Y.mk f d),yI 0])
def aHb(n:Nt):Int->List UInt8->List UInt8->G.A->G.Y->Rt:=λx0 x1 x2 x3 x4=>n [yI x0,yT x1,yT x2,yR 9 x3,yR 1 x4]
def X143x2:=aHb (xE rO e (pw 8 47) tM (aJY c e))
def s143x0:V96x0 (xF rO c e)=B143x0 c (aNn c e):=by kernel_rfl
def s143x1:V143x1 (xA rO c e (pw 6 23) aEa (q143x1 c e))=B143x1 c (X143x2 c e):=by kernel_rfl
def s143x2(n2:Nt):aHb (xA rO c e (pw 8 47) tM (lpK U0 tM n2 (aJY c e)))=B143x2 c (aHb n2):=by kernel_rfl
def aGY(c:TC0)(L:Nat):Nat->Int->List UInt8->List UInt8->G.A->G.Y->Rt
 |0=>λ_ _ _ _ _=>none
 |n+1=>B143x2 c (aGY c L n)
def u143x2(n:Nat):aHb (xL rO c L (pw 8 47) tM (aJY c (cu c L)) n)=aGY c L n:=by
 induction n with
 |zero=>rfl
 |succ n ih=>rw[dD,s143x2];simp only[ih];rfl
def w143x2:X143x2 c (cu c L)=aGY c L L:=u143x2 c L L
def J143x1:Bool->List UInt8->List UInt8->G.A->G.Y->Rt:=B143x1 c (aGY c L L)
def j143x1:aNn c (cu c L)=J143x1 c L:=by rw[aNn,aK,s143x1];simp only[w143x2];rfl
def F143:List G.A->List UInt8->List UInt8->Rt:=B143x0 c (J143x1 c L)
def e143:V96x0 (xF rO c (cu c L))=F143 c L:=by rw[s143x0];simp only[j143x1];rfl
def c143(a:List G.A)(b:List UInt8)(d:List UInt8)(L n:Nat):CTp L (n+1) 143 [yS 9 a,yT b,yT d]=F143 (CTp L n) L a b d:=by rw[<-e143];exact cg (x:=rO) (by kernel_rfl) (by kernel_rfl) L n _
def q144x0(c:TC0)(e:Cu):Kt:=xK aBH
def q144x1:Kt:=xT aBH c e [1,1] (q144x0 c e)
def B144x0(c:TC0)(d:Bool->Int->G.O->Rt)(a:G.O)(b:Int):Rt:=
 cnd (!decide ((List.length a.pair:Int)=2)) (d true b a) (d (decide (b<=1)) b a)
def V144x0(n:Nt):G.O->Int->Rt:=λx0 x1=>n [yR 2 x0,yI x1]
def B144x1(f:Bool)(a:Int)(d:G.O):Rt:=
 cnd f (some [yI 1]) (ob (idx d.pair 0) λg=>
 obL [i6] (c 144 [yR 2 g,yI (IntKind.i64.wrap (a-1))]) λ(b:Int×Unit)=>
 cnd (decide (a<=(IntKind.i64.wrap ((1:Int)+b.1)))) (some [yI a]) (ob (idx d.pair 1) λh=>
 obL [i6] (c 144 [yR 2 h,yI (IntKind.i64.wrap (a-(IntKind.i64.wrap ((1:Int)+b.1))))]) λ(i:Int×Unit)=>
 some [yI (IntKind.i64.wrap ((IntKind.i64.wrap ((1:Int)+b.1))+i.1))]))
def V144x1(n:Nt):Bool->Int->G.O->Rt:=λx0 x1 x2=>n [yB x0,yI x1,yR 2 x2]
def aNm:=V144x1 (xD aBH e (pw 4 5) aD9 (q144x1 c e))
def s144x0:V144x0 (xF aBH c e)=B144x0 c (aNm c e):=by kernel_rfl
def s144x1:V144x1 (xA aBH c e (pw 4 5) aD9 (q144x1 c e))=B144x1 c:=by kernel_rfl
def J144x1(L:Nat):Bool->Int->G.O->Rt:=B144x1 c
def j144x1:aNm c (cu c L)=J144x1 c L:=by rw[aNm,aK,s144x1];rfl
def F144:G.O->Int->Rt:=B144x0 c (J144x1 c L)
def e144:V144x0 (xF aBH c (cu c L))=F144 c L:=by rw[s144x0];simp only[j144x1];rfl
def c144(a:G.O)(b:Int)(L n:Nat):CTp L (n+1) 144 [yR 2 a,yI b]=F144 (CTp L n) L a b:=by rw[<-e144];exact cg (x:=aBH) (by kernel_rfl) (by kernel_rfl) L n _
def q145x0(c:TC0)(e:Cu):Kt:=xK aDx
def B145x0(a:Bool->Rt)(b:G.Y):Rt:=
 obL [.bool] (c 176 [yR 1 b]) λ(d:Bool×Unit)=>
 cnd d.1 (obL [.rc 1] (c 37 [yT [110,105,108]]) λ(f:G.Y×Unit)=>
 cnd (!decide (b=f.1)) (obL [.rc 1] (c 37 [yT [116]]) λ(g:G.Y×Unit)=>
 a (!decide (b=g.1))) (a false)) (a false)
def B145x1(c:TC0)(a:Bool):Rt:=
 some [yB a]
def aNl:=bX (xD aDx e [1,1,0] aD8 (q145x0 c e))
def s145x0:eS (xF aDx c e)=B145x0 c (aNl c e):=by kernel_rfl
def s145x1:bX (xA aDx c e [1,1,0] aD8 (q145x0 c e))=B145x1 c:=by kernel_rfl
def J145x1(L:Nat):Bool->Rt:=B145x1 c
def j145x1:aNl c (cu c L)=J145x1 c L:=by rw[aNl,aK,s145x1];rfl
def F145:G.Y->Rt:=B145x0 c (J145x1 c L)
def e145:eS (xF aDx c (cu c L))=F145 c L:=by rw[s145x0];simp only[j145x1];rfl
def c145(a:G.Y)(L n:Nat):CTp L (n+1) 145 [yR 1 a]=F145 (CTp L n) L a:=by rw[<-e145];exact cg (x:=aDx) (by kernel_rfl) (by kernel_rfl) L n _
def q149x0(c:TC0)(e:Cu):Kt:=xK rN
def q149x1:Kt:=xT rN c e [1,1] (q149x0 c e)
def aFA:Kt:=bH U0 0 (q149x1 c e)
def q149x3(n1:Nt):Kt:=lpK U0 qD n1 (aFA c e)
def q149x4(n1:Nt):Kt:=xT rN c e (pw 7 101) (q149x3 c e n1)
def q149x5(n1:Nt):Kt:=bH U0 1 (q149x4 c e n1)
def B149x0(c:TC0)(a:List G.E->Int->G.Y->G.M->Rt)(b:List G.E)(d:G.Y):Rt:=
 a b 0 d (G.M.mk zqS ([]:List G.Y) false zqT)
def B149x1(c:TC0)(f:Bool->Int->List G.E->G.Y->G.M->Rt)(a:List G.E)(b:Int)(d:G.Y)(g:G.M):Rt:=
 cnd (decide (b<(List.length a:Int))) (ob (idx a b) λh=>
 cnd (decide (h.kind=2)) (ob (idx a b) λi=>
 f (decide (i.mac.name=d)) b a d g) (f false b a d g)) (some [yR 10 (G.M.mk zqS ([]:List G.Y) false zqT),yB false])
def aCP(n:Nt):List G.E->Int->G.Y->G.M->Rt:=λx0 x1 x2 x3=>n [yS 16 x0,yI x1,yR 1 x2,yR 10 x3]
def X149x1:=aCP (xE rN e (pw 5 5) qD (aFA c e))
def B149x2(c:TC0)(d:List G.E->Int->G.Y->G.M->Rt)(f:Bool)(a:Int)(b:List G.E)(g:G.Y)(h:G.M):Rt:=
 cnd f (ob (idx b a) λi=>
 some [yR 10 i.mac,yB true]) (d b (IntKind.i64.wrap (a+1)) g h)
def V149x2(n:Nt):Bool->Int->List G.E->G.Y->G.M->Rt:=λx0 x1 x2 x3 x4=>n [yB x0,yI x1,yS 16 x2,yR 1 x3,yR 10 x4]
def aNk(n1:Nt):=V149x2 (xD rN e (pw 10 293) aD7 (q149x5 c e n1))
def s149x0:lN (xF rN c e)=B149x0 c (X149x1 c e):=by kernel_rfl
def s149x1(n1:Nt):aCP (xA rN c e (pw 5 5) qD (lpK U0 qD n1 (aFA c e)))=B149x1 c (aNk c e n1):=by kernel_rfl
def s149x2(n1:Nt):V149x2 (xA rN c e (pw 10 293) aD7 (q149x5 c e n1))=B149x2 c (aCP n1):=by kernel_rfl
def J149x2(L:Nat)(n1:List G.E->Int->G.Y->G.M->Rt):Bool->Int->List G.E->G.Y->G.M->Rt:=B149x2 c n1
def j149x2(n1:Nt):aNk c (cu c L) n1=J149x2 c L (aCP n1):=by rw[aNk,aK,s149x2];rfl
def aGX(c:TC0)(L:Nat):Nat->List G.E->Int->G.Y->G.M->Rt
 |0=>λ_ _ _ _=>none
 |n+1=>B149x1 c (J149x2 c L (aGX c L n))
def u149x1(n:Nat):aCP (xL rN c L (pw 5 5) qD (aFA c (cu c L)) n)=aGX c L n:=by
 induction n with
 |zero=>rfl
 |succ n ih=>rw[dD,s149x1];simp only[j149x2,ih];rfl
def w149x1:X149x1 c (cu c L)=aGX c L L:=u149x1 c L L
def F149:List G.E->G.Y->Rt:=B149x0 c (aGX c L L)
def e149:lN (xF rN c (cu c L))=F149 c L:=by rw[s149x0];simp only[w149x1];rfl
def c149(a:List G.E)(b:G.Y)(L n:Nat):CTp L (n+1) 149 [yS 16 a,yR 1 b]=F149 (CTp L n) L a b:=by rw[<-e149];exact cg (x:=rN) (by kernel_rfl) (by kernel_rfl) L n _
def B153x0(a:G.T):Rt:=
 obL [i6] (c 181 [yR 3 a,yI 3001]) λ(b:Int×Unit)=>
 some [yI b.1]
def s153x0:gD (xF ii153 c e)=B153x0 c:=by kernel_rfl
def F153(L:Nat):G.T->Rt:=B153x0 c
def e153:gD (xF ii153 c (cu c L))=F153 c L:=s153x0 _ _
def c153(a:G.T)(L n:Nat):CTp L (n+1) 153 [yR 3 a]=F153 (CTp L n) L a:=by rw[<-e153];exact cg (x:=ii153) (by kernel_rfl) (by kernel_rfl) L n _
def B154x0(a:G.T):Rt:=
 obL [i6] (c 182 [yR 3 a,yI 201]) λ(b:Int×Unit)=>
 some [yI b.1]
def s154x0:gD (xF ii154 c e)=B154x0 c:=by kernel_rfl
def F154(L:Nat):G.T->Rt:=B154x0 c
def e154:gD (xF ii154 c (cu c L))=F154 c L:=s154x0 _ _
def c154(a:G.T)(L n:Nat):CTp L (n+1) 154 [yR 3 a]=F154 (CTp L n) L a:=by rw[<-e154];exact cg (x:=ii154) (by kernel_rfl) (by kernel_rfl) L n _
def q155x0(c:TC0)(e:Cu):Kt:=xK kN
def q155x1:Kt:=xT kN c e [1,1,1] (q155x0 c e)
def wS:Kt:=bH U0 0 (q155x1 c e)
def q155x3:Kt:=xT kN c e (pw 12 3051) (wS c e)
def q155x4:Kt:=xT kN c e (pw 13 7147) (wS c e)
def aJX:Kt:=bH U0 1 (q155x4 c e)
def B155x0(b:Bool->Rt)(d:Bool->Rt)(f:Bool->G.T->Rt)(a:G.T):Rt:=
 obL [.bool] (c 90 [yR 2 a.value,yR 2 zqO]) λ(g:Bool×Unit)=>
 cnd (decide (a.kind=1)) (cnd g.1 (obL [.bool] (c 145 [yR 1 a.name]) λ(h:Bool×Unit)=>
 cnd h.1 (b (decide ((List.length a.args:Int)=0))) (b false)) (b false)) (cnd (decide (a.kind=2)) (cnd (decide (a.name=zqS)) (obL [.bool] (c 183 [yR 2 a.value]) λ(i:Bool×Unit)=>
 cnd i.1 (d (decide ((List.length a.args:Int)=0))) (d false)) (d false)) (cnd (decide (a.kind=3)) (cnd (!g.1) (f true a) (obL [.bool] (c 176 [yR 1 a.name]) λ(j:Bool×Unit)=>
 cnd (!j.1) (f true a) (f (decide ((8:Int)<(List.length a.args:Int))) a))) (some [yB false])))
def B155x1(c:TC0)(a:Bool):Rt:=
 some [yB a]
def aNj:=bX (xD kN e (pw 9 171) aD6 (wS c e))
def B155x2(c:TC0)(a:Bool):Rt:=
 some [yB a]
def aNi:=bX (xD kN e (pw 11 747) aD5 (wS c e))
def B155x3(c:TC0)(a:Int->G.T->Rt)(b:Bool)(d:G.T):Rt:=
 cnd b (some [yB false]) (a 0 d)
def aNh:=aIG (xD kN e (pw 14 5099) aD4 (q155x3 c e))
def B155x4(d:Int->G.T->Rt)(a:Int)(b:G.T):Rt:=
 cnd (decide (a<(List.length b.args:Int))) (ob (idx b.args a) λf=>
 obL [.bool] (c 155 [yR 3 f]) λ(g:Bool×Unit)=>
 cnd (!g.1) (some [yB false]) (d (IntKind.i64.wrap (a+1)) b)) (some [yB true])
def aHa(n:Nt):Int->G.T->Rt:=λx0 x1=>n [yI x0,yR 3 x1]
def X155x4:=aHa (xE kN e (pw 16 11243) tL (aJX c e))
def s155x0:gD (xF kN c e)=B155x0 c (aNj c e) (aNi c e) (aNh c e):=by kernel_rfl
def s155x1:bX (xA kN c e (pw 9 171) aD6 (wS c e))=B155x1 c:=by kernel_rfl
def s155x2:bX (xA kN c e (pw 11 747) aD5 (wS c e))=B155x2 c:=by kernel_rfl
def s155x3:aIG (xA kN c e (pw 14 5099) aD4 (q155x3 c e))=B155x3 c (X155x4 c e):=by kernel_rfl
def s155x4(n4:Nt):aHa (xA kN c e (pw 16 11243) tL (lpK U0 tL n4 (aJX c e)))=B155x4 c (aHa n4):=by kernel_rfl
def J155x1(L:Nat):Bool->Rt:=B155x1 c
def j155x1:aNj c (cu c L)=J155x1 c L:=by rw[aNj,aK,s155x1];rfl
def J155x2(L:Nat):Bool->Rt:=B155x2 c
def j155x2:aNi c (cu c L)=J155x2 c L:=by rw[aNi,aK,s155x2];rfl
def aGW(c:TC0)(L:Nat):Nat->Int->G.T->Rt
 |0=>λ_ _=>none
 |n+1=>B155x4 c (aGW c L n)
def u155x4(n:Nat):aHa (xL kN c L (pw 16 11243) tL (aJX c (cu c L)) n)=aGW c L n:=by
 induction n with
 |zero=>rfl
 |succ n ih=>rw[dD,s155x4];simp only[ih];rfl
def w155x4:X155x4 c (cu c L)=aGW c L L:=u155x4 c L L
def J155x3:Bool->G.T->Rt:=B155x3 c (aGW c L L)
def j155x3:aNh c (cu c L)=J155x3 c L:=by rw[aNh,aK,s155x3];simp only[w155x4];rfl
def F155:G.T->Rt:=B155x0 c (J155x1 c L) (J155x2 c L) (J155x3 c L)
def e155:gD (xF kN c (cu c L))=F155 c L:=by rw[s155x0];simp only[j155x1,j155x2,j155x3];rfl
def c155(a:G.T)(L n:Nat):CTp L (n+1) 155 [yR 3 a]=F155 (CTp L n) L a:=by rw[<-e155];exact cg (x:=kN) (by kernel_rfl) (by kernel_rfl) L n _
def aJW(c:TC0)(e:Cu):Kt:=xK vN
def q161x1:Kt:=xT vN c e [1,1] (aJW c e)
def aOD(f:Bool->Int->List G.Y->G.T->Rt)(a:G.T)(b:Int)(d:List G.Y):Rt:=
 cnd (decide (a.kind=b)) (obL [.bool] (c 189 [yS 1 d,yR 1 a.name]) λ(g:Bool×Unit)=>
 f (!g.1) b d a) (f false b d a)
def aOC(c:TC0)(b:Int->List G.Y->Rt)(g:Bool)(d:Int)(a:List G.Y)(f:G.T):Rt:=
 cnd g (chk (Nat.ble ((List.length a+List.length ([f.name]:List G.Y))*32) 1073741824)<|
 b d (a++([f.name]:List G.Y))) (b d a)
def V161x1(n:Nt):Bool->Int->List G.Y->G.T->Rt:=λx0 x1 x2 x3=>n [yB x0,yI x1,yS 1 x2,yR 3 x3]
def aNg:=V161x1 (xD vN e (pw 4 5) aD3 (q161x1 c e))
def aOB(c:TC0)(a:Int)(b:List G.Y):Rt:=
 some [yB true,yI a,yS 1 b]
def aNf:=aHf (xD vN e [1,1,0] aD2 (aJW c e))
def s161x0:aHg (xF vN c e)=aOD c (aNg c e):=by kernel_rfl
def s161x1:V161x1 (xA vN c e (pw 4 5) aD3 (q161x1 c e))=aOC c (aNf c e):=by kernel_rfl
def s161x2:aHf (xA vN c e [1,1,0] aD2 (aJW c e))=aOB c:=by kernel_rfl
def aN5(L:Nat):Int->List G.Y->Rt:=aOB c
def j161x2:aNf c (cu c L)=aN5 c L:=by rw[aNf,aK,s161x2];rfl
def aN6:Bool->Int->List G.Y->G.T->Rt:=aOC c (aN5 c L)
def j161x1:aNg c (cu c L)=aN6 c L:=by rw[aNg,aK,s161x1];simp only[j161x2];rfl
def F161:G.T->Int->List G.Y->Rt:=aOD c (aN6 c L)
def e161:aHg (xF vN c (cu c L))=F161 c L:=by rw[s161x0];simp only[j161x1];rfl
def c161(a:G.T)(b:Int)(d:List G.Y)(L n:Nat):CTp L (n+1) 161 [yR 3 a,yI b,yS 1 d]=F161 (CTp L n) L a b d:=by rw[<-e161];exact cg (x:=vN) (by kernel_rfl) (by kernel_rfl) L n _
def q162x0(c:TC0)(e:Cu):Kt:=xK aAq
def q162x1:Kt:=xT aAq c e [1,1] (q162x0 c e)
def aJV:Kt:=bH U0 0 (q162x1 c e)
def B162x0(c:TC0)(b:Int->List G.I->Int->G.Y->G.T->Rt)(a:List G.I)(d:G.Y):Rt:=
 b (List.length a:Int) a 0 d zqT
def aHB(c:TC0)(h:Int->List G.I->Int->G.Y->G.T->Rt)(b:Int)(d:List G.I)(a:Int)(f:G.Y)(i:G.T):Rt:=
 cnd (decide (a<b)) (ob (idx d a) λg=>
 cnd (decide (g.var=f)) (some [yR 3 g.term,yB true]) (h b d (IntKind.i64.wrap (a+1)) f i)) (some [yR 3 zqT,yB false])
def aG9(n:Nt):Int->List G.I->Int->G.Y->G.T->Rt:=λx0 x1 x2 x3 x4=>n [yI x0,yS 7 x1,yI x2,yR 1 x3,yR 3 x4]
def X162x1:=aG9 (xE aAq e (pw 5 5) tK (aJV c e))
def s162x0:aHl (xF aAq c e)=B162x0 c (X162x1 c e):=by kernel_rfl
def s162x1(n1:Nt):aG9 (xA aAq c e (pw 5 5) tK (lpK U0 tK n1 (aJV c e)))=aHB c (aG9 n1):=by kernel_rfl
def uQ(c:TC0)(L:Nat):Nat->Int->List G.I->Int->G.Y->G.T->Rt
 |0=>λ_ _ _ _ _=>none
 |n+1=>aHB c (uQ c L n)
def u162x1(n:Nat):aG9 (xL aAq c L (pw 5 5) tK (aJV c (cu c L)) n)=uQ c L n:=by
 induction n with
 |zero=>rfl
 |succ n ih=>rw[dD,s162x1];simp only[ih];rfl
def w162x1:X162x1 c (cu c L)=uQ c L L:=u162x1 c L L
def F162:List G.I->G.Y->Rt:=B162x0 c (uQ c L L)
def e162:aHl (xF aAq c (cu c L))=F162 c L:=by rw[s162x0];simp only[w162x1];rfl
def c162(a:List G.I)(b:G.Y)(L n:Nat):CTp L (n+1) 162 [yS 7 a,yR 1 b]=F162 (CTp L n) L a b:=by rw[<-e162];exact cg (x:=aAq) (by kernel_rfl) (by kernel_rfl) L n _
def aOA(c:TC0)(b:G.F)(a:G.Y):Rt:=
 some [yB (decide (b.name=a)),yR 1 a]
def V163x0(n:Nt):G.F->G.Y->Rt:=λx0 x1=>n [yR 8 x0,yR 1 x1]
def s163x0:V163x0 (xF ii163 c e)=aOA c:=by kernel_rfl
def F163(L:Nat):G.F->G.Y->Rt:=aOA c
def e163:V163x0 (xF ii163 c (cu c L))=F163 c L:=s163x0 _ _
def c163(a:G.F)(b:G.Y)(L n:Nat):CTp L (n+1) 163 [yR 8 a,yR 1 b]=F163 (CTp L n) L a b:=by rw[<-e163];exact cg (x:=ii163) (by kernel_rfl) (by kernel_rfl) L n _
def q164x0(c:TC0)(e:Cu):Kt:=xK aDw
def aOz(c:TC0)(a:Bool->Rt)(b:Int):Rt:=
 cnd (decide (b=32)) (a true) (cnd (decide (b=9)) (a true) (cnd (decide (b=10)) (a true) (a (decide (b=13)))))
def aOy(c:TC0)(a:Bool):Rt:=
 some [yB a]
def aNe:=bX (xD aDw e [1,1,0] aD1 (q164x0 c e))
def s164x0:aG8 (xF aDw c e)=aOz c (aNe c e):=by kernel_rfl
def s164x1:bX (xA aDw c e [1,1,0] aD1 (q164x0 c e))=aOy c:=by kernel_rfl
def aN4(L:Nat):Bool->Rt:=aOy c
def j164x1:aNe c (cu c L)=aN4 c L:=by rw[aNe,aK,s164x1];rfl
def F164:Int->Rt:=aOz c (aN4 c L)
def e164:aG8 (xF aDw c (cu c L))=F164 c L:=by rw[s164x0];simp only[j164x1];rfl
def c164(a:Int)(L n:Nat):CTp L (n+1) 164 [⟨(.int .u8),a⟩]=F164 (CTp L n) L a:=by rw[<-e164];exact cg (x:=aDw) (by kernel_rfl) (by kernel_rfl) L n _
def q165x0(c:TC0)(e:Cu):Kt:=xK aDv
def aOx(c:TC0)(a:Bool->Rt)(d:List UInt8)(b:Int)(f:Int)(g:Int):Rt:=
 cnd (decide ((0:Int)<=b)) (cnd (decide ((IntKind.i64.wrap (b+1))<(List.length d:Int))) (ob (idx d b) λh=>
 cnd (decide ((h.toNat:Int)=f)) (ob (idx d (IntKind.i64.wrap (b+1))) λi=>
 a (decide ((i.toNat:Int)=g))) (a false)) (a false)) (a false)
def V165x0(n:Nt):List UInt8->Int->Int->Int->Rt:=λx0 x1 x2 x3=>n [yT x0,yI x1,⟨(.int .u8),x2⟩,⟨(.int .u8),x3⟩]
def aOw(c:TC0)(a:Bool):Rt:=
 some [yB a]
def aNd:=bX (xD aDv e [1,1,0] aD0 (q165x0 c e))
def s165x0:V165x0 (xF aDv c e)=aOx c (aNd c e):=by kernel_rfl
def s165x1:bX (xA aDv c e [1,1,0] aD0 (q165x0 c e))=aOw c:=by kernel_rfl
def aN3(L:Nat):Bool->Rt:=aOw c
def j165x1:aNd c (cu c L)=aN3 c L:=by rw[aNd,aK,s165x1];rfl
def F165:List UInt8->Int->Int->Int->Rt:=aOx c (aN3 c L)
def e165:V165x0 (xF aDv c (cu c L))=F165 c L:=by rw[s165x0];simp only[j165x1];rfl
def c165(a:List UInt8)(b:Int)(d:Int)(f:Int)(L n:Nat):CTp L (n+1) 165 [yT a,yI b,⟨(.int .u8),d⟩,⟨(.int .u8),f⟩]=F165 (CTp L n) L a b d f:=by rw[<-e165];exact cg (x:=aDv) (by kernel_rfl) (by kernel_rfl) L n _
def q167x0(c:TC0)(e:Cu):Kt:=xK aBG
def q167x1:Kt:=xT aBG c e [1,1] (q167x0 c e)
def q167x2:Kt:=bH U0 0 (q167x1 c e)
def aOv(b:Bool->G.K->G.X->Rt)(a:G.K)(d:Bool):Rt:=
 cnd (decide ((40:Int)<(List.length a.text:Int))) (obL [.rc 17] (c 122 [yI 2,yI a.pos]) λ(f:G.X×Unit)=>
 some [yR 17 f.1]) (cnd d (cnd (decide (a.text=[])) (b true a (G.X.mk 0 0)) (cnd (!decide (a.package=[])) (obL [.bool] (c 190 [yT a.package]) λ(g:Bool×Unit)=>
 b (!g.1) a (G.X.mk 0 0)) (b false a (G.X.mk 0 0)))) (cnd (!decide (a.package=[])) (obL [.bool] (c 190 [yT a.package]) λ(h:Bool×Unit)=>
 b (!h.1) a (G.X.mk 0 0)) (b false a (G.X.mk 0 0))))
def V167x0(n:Nt):G.K->Bool->Rt:=λx0 x1=>n [yR 19 x0,yB x1]
def B167x1(a:Bool)(b:G.K)(f:G.X):Rt:=
 cnd a (obL [.rc 17] (c 122 [yI 3,yI b.pos]) λ(d:G.X×Unit)=>
 some [yR 17 d.1]) (some [yR 17 (G.X.mk 0 0)])
def V167x1(n:Nt):Bool->G.K->G.X->Rt:=λx0 x1 x2=>n [yB x0,yR 19 x1,yR 17 x2]
def aNc:=V167x1 (xD aBG e (pw 7 57) aDZ (q167x2 c e))
def s167x0:V167x0 (xF aBG c e)=aOv c (aNc c e):=by kernel_rfl
def s167x1:V167x1 (xA aBG c e (pw 7 57) aDZ (q167x2 c e))=B167x1 c:=by kernel_rfl
def J167x1(L:Nat):Bool->G.K->G.X->Rt:=B167x1 c
def j167x1:aNc c (cu c L)=J167x1 c L:=by rw[aNc,aK,s167x1];rfl
def F167:G.K->Bool->Rt:=aOv c (J167x1 c L)
def e167:V167x0 (xF aBG c (cu c L))=F167 c L:=by rw[s167x0];simp only[j167x1];rfl
def c167(a:G.K)(b:Bool)(L n:Nat):CTp L (n+1) 167 [yR 19 a,yB b]=F167 (CTp L n) L a b:=by rw[<-e167];exact cg (x:=aBG) (by kernel_rfl) (by kernel_rfl) L n _
def q168x0(c:TC0)(e:Cu):Kt:=xK aDu
def aOu(c:TC0)(a:Bool->Rt)(b:Int):Rt:=
 cnd (decide ((33:Int)<=b)) (cnd (decide (b<=126)) (cnd (!decide (b=40)) (cnd (!decide (b=41)) (cnd (!decide (b=39)) (cnd (!decide (b=34)) (cnd (!decide (b=59)) (cnd (!decide (b=124)) (a (!decide (b=58))) (a false)) (a false)) (a false)) (a false)) (a false)) (a false)) (a false)) (a false)
def aOt(c:TC0)(a:Bool):Rt:=
 some [yB a]
def aNb:=bX (xD aDu e [1,1,0] aDY (q168x0 c e))
def s168x0:aG8 (xF aDu c e)=aOu c (aNb c e):=by kernel_rfl
def s168x1:bX (xA aDu c e [1,1,0] aDY (q168x0 c e))=aOt c:=by kernel_rfl
def aN2(L:Nat):Bool->Rt:=aOt c
def j168x1:aNb c (cu c L)=aN2 c L:=by rw[aNb,aK,s168x1];rfl
def F168:Int->Rt:=aOu c (aN2 c L)
def e168:aG8 (xF aDu c (cu c L))=F168 c L:=by rw[s168x0];simp only[j168x1];rfl
def c168(a:Int)(L n:Nat):CTp L (n+1) 168 [⟨(.int .u8),a⟩]=F168 (CTp L n) L a:=by rw[<-e168];exact cg (x:=aDu) (by kernel_rfl) (by kernel_rfl) L n _
def q169x0(c:TC0)(e:Cu):Kt:=xK rM
def q169x1:Kt:=xT rM c e [1,1] (q169x0 c e)
def aFz:Kt:=bH U0 0 (q169x1 c e)
def q169x3(n1:Nt):Kt:=lpK U0 qC n1 (aFz c e)
def q169x4(n1:Nt):Kt:=xT rM c e (pw 5 17) (q169x3 c e n1)
def aOs(c:TC0)(a:List UInt8->Int->Rt)(b:List UInt8)(d:Int):Rt:=
 a b d
def aHA(d:Bool->List UInt8->Int->Rt)(a:List UInt8)(b:Int):Rt:=
 cnd (decide (b<(List.length a:Int))) (ob (idx a b) λf=>
 obL [.bool] (c 168 [⟨(.int .u8),(f.toNat:Int)⟩]) λ(g:Bool×Unit)=>
 d g.1 a b) (d false a b)
def X169x1:=cC (xE rM e (pw 4 1) qC (aFz c e))
def aCT(c:TC0)(b:List UInt8->Int->Rt)(d:Bool)(f:List UInt8)(a:Int):Rt:=
 cnd d (b f (IntKind.i64.wrap (a+1))) (some [yI a])
def aNa(n1:Nt):=zC (xD rM e (pw 7 33) aDX (q169x4 c e n1))
def s169x0:cC (xF rM c e)=aOs c (X169x1 c e):=by kernel_rfl
def s169x1(n1:Nt):cC (xA rM c e (pw 4 1) qC (lpK U0 qC n1 (aFz c e)))=aHA c (aNa c e n1):=by kernel_rfl
def s169x2(n1:Nt):zC (xA rM c e (pw 7 33) aDX (q169x4 c e n1))=aCT c (cC n1):=by kernel_rfl
def aCR(L:Nat)(n1:List UInt8->Int->Rt):Bool->List UInt8->Int->Rt:=aCT c n1
def j169x2(n1:Nt):aNa c (cu c L) n1=aCR c L (cC n1):=by rw[aNa,aK,s169x2];rfl
def uP(c:TC0)(L:Nat):Nat->List UInt8->Int->Rt
 |0=>λ_ _=>none
 |n+1=>aHA c (aCR c L (uP c L n))
def u169x1(n:Nat):cC (xL rM c L (pw 4 1) qC (aFz c (cu c L)) n)=uP c L n:=by
 induction n with
 |zero=>rfl
 |succ n ih=>rw[dD,s169x1];simp only[j169x2,ih];rfl
def w169x1:X169x1 c (cu c L)=uP c L L:=u169x1 c L L
def F169:List UInt8->Int->Rt:=aOs c (uP c L L)
def e169:cC (xF rM c (cu c L))=F169 c L:=by rw[s169x0];simp only[w169x1];rfl
def c169(a:List UInt8)(b:Int)(L n:Nat):CTp L (n+1) 169 [yT a,yI b]=F169 (CTp L n) L a b:=by rw[<-e169];exact cg (x:=rM) (by kernel_rfl) (by kernel_rfl) L n _
def wQ(c:TC0)(e:Cu):Kt:=xK fK
def q171x1:Kt:=xT fK c e [1,1,1] (wQ c e)
def q171x2:Kt:=xT fK c e (pw 6 55) (wQ c e)
def aFy:Kt:=bH U0 0 (q171x2 c e)
def q171x4(n3:Nt):Kt:=lpK U0 qB n3 (aFy c e)
def q171x5(n3:Nt):Kt:=xT fK c e (pw 9 279) (q171x4 c e n3)
def q171x6:Kt:=xT fK c e (pw 9 503) (wQ c e)
def q171x7:Kt:=xT fK c e (pw 10 1015) (wQ c e)
def aFx:Kt:=bH U0 2 (q171x7 c e)
def q171x9(n6:Nt):Kt:=lpK U0 qA n6 (aFx c e)
def q171x10(n6:Nt):Kt:=xT fK c e (pw 15 26103) (q171x9 c e n6)
def aJU(n6:Nt):Kt:=bH U0 3 (q171x10 c e n6)
def aOr(c:TC0)(b:Bool->Int->List UInt8->Rt)(a:List UInt8):Rt:=
 cnd (decide ((0:Int)<(List.length a:Int))) (ob (idx a 0) λd=>
 b (decide ((d.toNat:Int)=45)) 0 a) (b false 0 a)
def aOq(c:TC0)(a:Int->List UInt8->Rt)(d:Bool)(f:Int)(b:List UInt8):Rt:=
 cnd d (a 1 b) (a f b)
def aM9:=aG7 (xD fK e (pw 5 11) aDW (q171x1 c e))
def aOp(c:TC0)(b:Int->List UInt8->Int->Rt)(a:Int)(d:List UInt8):Rt:=
 b a d a
def V171x2(n:Nt):Int->List UInt8->Rt:=λx0 x1=>n [yI x0,yT x1]
def aM8:=V171x2 (xD fK e (pw 4 7) aDV (wQ c e))
def aOo(c:TC0)(d:Bool->Int->List UInt8->Int->Rt)(f:Int)(a:List UInt8)(b:Int):Rt:=
 cnd (decide (b<(List.length a:Int))) (ob (idx a b) λg=>
 cnd (decide ((48:Int)<=(g.toNat:Int))) (ob (idx a b) λh=>
 d (decide ((h.toNat:Int)<=57)) f a b) (d false f a b)) (d false f a b)
def X171x3:=iB (xE fK e (pw 8 23) qB (aFy c e))
def B171x4(c:TC0)(g:Int->List UInt8->Int->Rt)(d:Bool->List UInt8->Int->Rt)(h:Bool)(f:Int)(a:List UInt8)(b:Int):Rt:=
 cnd h (g f a (IntKind.i64.wrap (b+1))) (cnd (decide (b=f)) (some [yT [],yT [],yB false]) (cnd (decide (b=(List.length a:Int))) (some [yT a,yT [49],yB true]) (ob (idx a b) λi=>
 cnd (!decide ((i.toNat:Int)=47)) (d true a b) (d (decide ((IntKind.i64.wrap (b+1))=(List.length a:Int))) a b))))
def aM7(n3:Nt):=aG6 (xD fK e (pw 11 535) aDU (q171x5 c e n3))
def B171x5(c:TC0)(b:Int->List UInt8->Int->Rt)(d:Bool)(f:List UInt8)(a:Int):Rt:=
 cnd d (some [yT [],yT [],yB false]) (b (IntKind.i64.wrap (a+1)) f a)
def aM6:=zC (xD fK e (pw 11 759) aDT (q171x6 c e))
def B171x6(c:TC0)(f:Bool->Int->List UInt8->Int->Rt)(b:Int)(a:List UInt8)(d:Int):Rt:=
 cnd (decide (b<(List.length a:Int))) (ob (idx a b) λg=>
 cnd (decide ((g.toNat:Int)<48)) (f true b a d) (ob (idx a b) λh=>
 f (decide ((57:Int)<(h.toNat:Int))) b a d)) (ob (slc a 0 d) λi=>
 ob (slc a (IntKind.i64.wrap (d+1)) (List.length a:Int)) λj=>
 some [yT i,yT j,yB true])
def X171x6:=iB (xE fK e (pw 13 1527) qA (aFx c e))
def B171x7(c:TC0)(a:Int->List UInt8->Int->Rt)(b:Bool)(d:Int)(f:List UInt8)(g:Int):Rt:=
 cnd b (some [yT [],yT [],yB false]) (a (IntKind.i64.wrap (d+1)) f g)
def aM5(n6:Nt):=aG6 (xD fK e (pw 18 75255) aDS (aJU c e n6))
def s171x0:rT (xF fK c e)=aOr c (aM9 c e):=by kernel_rfl
def s171x1:aG7 (xA fK c e (pw 5 11) aDW (q171x1 c e))=aOq c (aM8 c e):=by kernel_rfl
def s171x2:V171x2 (xA fK c e (pw 4 7) aDV (wQ c e))=aOp c (X171x3 c e):=by kernel_rfl
def s171x3(n3:Nt):iB (xA fK c e (pw 8 23) qB (lpK U0 qB n3 (aFy c e)))=aOo c (aM7 c e n3):=by kernel_rfl
def s171x4(n3:Nt):aG6 (xA fK c e (pw 11 535) aDU (q171x5 c e n3))=B171x4 c (iB n3) (aM6 c e):=by kernel_rfl
def s171x5:zC (xA fK c e (pw 11 759) aDT (q171x6 c e))=B171x5 c (X171x6 c e):=by kernel_rfl
def s171x6(n6:Nt):iB (xA fK c e (pw 13 1527) qA (lpK U0 qA n6 (aFx c e)))=B171x6 c (aM5 c e n6):=by kernel_rfl
def s171x7(n6:Nt):aG6 (xA fK c e (pw 18 75255) aDS (aJU c e n6))=B171x7 c (iB n6):=by kernel_rfl
def J171x7(L:Nat)(n6:Int->List UInt8->Int->Rt):Bool->Int->List UInt8->Int->Rt:=B171x7 c n6
def j171x7(n6:Nt):aM5 c (cu c L) n6=J171x7 c L (iB n6):=by rw[aM5,aK,s171x7];rfl
def aGV(c:TC0)(L:Nat):Nat->Int->List UInt8->Int->Rt
 |0=>λ_ _ _=>none
 |n+1=>B171x6 c (J171x7 c L (aGV c L n))
def u171x6(n:Nat):iB (xL fK c L (pw 13 1527) qA (aFx c (cu c L)) n)=aGV c L n:=by
 induction n with
 |zero=>rfl
 |succ n ih=>rw[dD,s171x6];simp only[j171x7,ih];rfl
def w171x6:X171x6 c (cu c L)=aGV c L L:=u171x6 c L L
def J171x5:Bool->List UInt8->Int->Rt:=B171x5 c (aGV c L L)
def j171x5:aM6 c (cu c L)=J171x5 c L:=by rw[aM6,aK,s171x5];simp only[w171x6];rfl
def aNZ(n3:Int->List UInt8->Int->Rt):Bool->Int->List UInt8->Int->Rt:=B171x4 c n3 (J171x5 c L)
def j171x4(n3:Nt):aM7 c (cu c L) n3=aNZ c L (iB n3):=by rw[aM7,aK,s171x4];simp only[j171x5];rfl
def zA(c:TC0)(L:Nat):Nat->Int->List UInt8->Int->Rt
 |0=>λ_ _ _=>none
 |n+1=>aOo c (aNZ c L (zA c L n))
def u171x3(n:Nat):iB (xL fK c L (pw 8 23) qB (aFy c (cu c L)) n)=zA c L n:=by
 induction n with
 |zero=>rfl
 |succ n ih=>rw[dD,s171x3];simp only[j171x4,ih];rfl
def w171x3:X171x3 c (cu c L)=zA c L L:=u171x3 c L L
def aN0:Int->List UInt8->Rt:=aOp c (zA c L L)
def j171x2:aM8 c (cu c L)=aN0 c L:=by rw[aM8,aK,s171x2];simp only[w171x3];rfl
def aN1:Bool->Int->List UInt8->Rt:=aOq c (aN0 c L)
def j171x1:aM9 c (cu c L)=aN1 c L:=by rw[aM9,aK,s171x1];simp only[j171x2];rfl
def F171:List UInt8->Rt:=aOr c (aN1 c L)
def e171:rT (xF fK c (cu c L))=F171 c L:=by rw[s171x0];simp only[j171x1];rfl
def c171(a:List UInt8)(L n:Nat):CTp L (n+1) 171 [yT a]=F171 (CTp L n) L a:=by rw[<-e171];exact cg (x:=fK) (by kernel_rfl) (by kernel_rfl) L n _
end
end Go.TV
namespace Go.TV
open Go.AI Go.PI Go.Proofs
def blI(x:Int):Bool:=decide (x=32)||decide (x=9)||decide (x=10)||decide (x=13)
def csI(x:Int):Bool:=decide (33<=x)&&decide (x<=126)&& !decide (x=40)&& !decide (x=41)&& !decide (x=39)&& !decide (x=34)&& !decide (x=59)&& !decide (x=124)&& !decide (x=58)
def u8(x:UInt8):Int:=(x.toNat:Int)
def Bl_ok(x:Int)(L n:Nat):CTp L (n+1) 164 [⟨.int .u8,x⟩]=some [yB (blI x)]:=by
 rw[c164];simp only[F164,aOz,aN4,aOy,blI];generalize decide (x=32)=a,decide (x=9)=b,decide (x=10)=d,decide (x=13)=e;cases a<;>cases b<;>cases d<;>cases e<;>rfl
def Cs_ok(x:Int)(L n:Nat):CTp L (n+1) 168 [⟨.int .u8,x⟩]=some [yB (csI x)]:=by
 rw[c168];simp only[F168,aOu,aN2,aOt,csI];generalize decide (33<=x)=a,decide (x<=126)=b,decide (x=40)=d,decide (x=41)=e,decide (x=39)=f,decide (x=34)=g,decide (x=59)=h,decide (x=124)=i,decide (x=58)=j;cases a
 ·rfl
 cases b
 ·rfl
 cases d
 case true=>rfl
 cases e
 case true=>rfl
 cases f
 case true=>rfl
 cases g
 case true=>rfl
 cases h
 case true=>rfl
 cases i
 case true=>rfl
 cases j<;>rfl
def has_no{s:List UInt8}{k:Nat}{a b:Int}(hb:s.length<1000000000)(hk:k<=s.length)(h: ∀x,s[k]?=some x->u8 x≠a)(L n:Nat):CTp L (n+1) 165 [yT s,yI (k:Int),⟨.int .u8,a⟩,⟨.int .u8,b⟩]=some [yB false]:=by
 rw[c165];have e0:decide ((0:Int)<=(k:Int))=true:=by simp
 simp only[F165,aOx,aN3,aOw,e0,aG];cases h1:decide (IntKind.i64.wrap ((k:Int)+1)<(s.length:Int))with
 |false=>rfl
 |true=>
  rw[aG,aD];cases h2:s[k]? with
  |none=>
   exfalso;have:=List.getElem?_eq_none_iff.1 h2;simp only[djE]at h1;rw[aX (by omega)]at h1
   omega
  |some x=>
   have:=h x h2;have e1:decide ((x.toNat:Int)=a)=false:=by simpa [u8]using this
   rw[aS,e1];rfl
def Wd_loop{c:TC0}{L:Nat}{s r:List UInt8}(hc: ∀x,c 168 [⟨.int .u8,x⟩]=some [yB (csI x)])(hb:s.length<1000000000)(hr: ∀y,r.head?=some y->csI (u8 y)=false):
    ∀(w:List UInt8) (k m:Nat),s.drop k=w++r->w.length<m->(∀x∈w,csI (u8 x)=true)->uP c L m s (k:Int)=some [yI ((k+w.length:Nat):Int)]:=by
 intro w;induction w with
 |nil=>
  intro k m h1 h2 _;obtain⟨m,rfl⟩:=sK m 1 (by simp at h2;omega)
  rw[uP,aHA];rw[nlA]at h1;cases r with
  |nil=>
   have e1:=aH h1;have e3:decide ((k:Int)<(s.length:Int))=false:=by simp;omega
   rw[e3,aC,aCR,aCT,aC];rfl
  |cons y r=>
   obtain⟨a1,a2,a3⟩:=aI h1;have e3:decide ((k:Int)<(s.length:Int))=true:=by simp;omega
   have e4:csI (y.toNat:Int)=false:=hr y rfl;rw[e3,aG,aD,a1,aS,hc,aN,aCR,aCT,e4,aC];rfl
 |cons x w ih=>
  intro k m h1 h2 h3;obtain⟨m,rfl⟩:=sK m 1 (by simp at h2;omega)
  rw[uP,aHA];obtain⟨a1,a2,a3⟩:=aI h1;have e3:decide ((k:Int)<(s.length:Int))=true:=by simp;omega
  have e4:csI (x.toNat:Int)=true:=h3 x (mhE ..);rw[e3,aG,aD,a1,aS,hc,aN,aCR,aCT,e4,aG,aX (by omega)]
  rw[ih (k+1) m a3 (by simp at h2;omega) λz hz=>h3 z (mtE _ hz)]
  simp only[lcS];congr 4;omega
def Wd_ok{s w r:List UInt8}{k L n:Nat}(hb:s.length<1000000000)(hL:s.length<L)(h:s.drop k=w++r)(hw: ∀x∈w,csI (u8 x)=true)(hr: ∀y,r.head?=some y->csI (u8 y)=false):
    CTp L (n+2) 169 [yT s,yI (k:Int)]=some [yI ((k+w.length:Nat):Int)]:=by
 have:=congrArg List.length h;simp at this;show CTp L (n+1+1) 169 _=_;rw[c169,F169,aOs];exact Wd_loop (λx=>Cs_ok x L n) hb hr w k L h (by omega) hw
def Sk_loop{c:TC0}{L:Nat}{s r:List UInt8}(hc: ∀x,c 164 [⟨.int .u8,x⟩]=some [yB (blI x)])
    (hh: ∀k:Nat,k<=s.length->(∀x,s[k]?=some x->u8 x≠35)->c 165 [yT s,yI (k:Int),⟨.int .u8,(35:Int)⟩,⟨.int .u8,(124:Int)⟩]=some [yB false])
    (hb:s.length<1000000000) (hr: ∀y,r.head?=some y->blI (u8 y)=false/\u8 y≠59/\u8 y≠35):
    ∀(w:List UInt8) (k m:Nat),s.drop k=w++r->w.length<m->(∀x∈w,blI (u8 x)=true)->oU c L m s (k:Int)=some [yI ((k+w.length:Nat):Int),yB true]:=by
 intro w;induction w with
 |nil=>
  intro k m h1 h2 _;obtain⟨m,rfl⟩:=sK m 1 (by simp at h2;omega)
  rw[oU,aHC];rw[nlA]at h1;cases r with
  |nil=>
   have e1:=aH h1;have e3:decide ((k:Int)<(s.length:Int))=false:=by simp;omega
   rw[e3,aC];rfl
  |cons y r=>
   obtain⟨a1,a2,a3⟩:=aI h1;have e3:decide ((k:Int)<(s.length:Int))=true:=by simp;omega
   obtain⟨e4,e5,e6⟩:=hr y rfl;have e4:blI (y.toNat:Int)=false:=e4;have e7:decide ((y.toNat:Int)=59)=false:=by simpa [u8]using e5
   have h8:=hh k (by omega) λx hx=>by rw[a1]at hx;cases hx;exact e6
   rw[e3,aG,aD,a1,aS,hc,aN,e4,aC,aS,e7,aC,h8,aN,aC];rfl
 |cons x w ih=>
  intro k m h1 h2 h3;obtain⟨m,rfl⟩:=sK m 1 (by simp at h2;omega)
  rw[oU,aHC];obtain⟨a1,a2,a3⟩:=aI h1;have e3:decide ((k:Int)<(s.length:Int))=true:=by simp;omega
  have e4:blI (x.toNat:Int)=true:=h3 x (mhE ..);rw[e3,aG,aD,a1,aS,hc,aN,e4,aG,aX (by omega)]
  rw[ih (k+1) m a3 (by simp at h2;omega) λz hz=>h3 z (mtE _ hz)]
  simp only[lcS];congr 4;omega
def Sk_ok{s w r:List UInt8}{k L n:Nat}(hb:s.length<1000000000)(hL:s.length<L)(h:s.drop k=w++r)(hw: ∀x∈w,blI (u8 x)=true)(hr: ∀y,r.head?=some y->blI (u8 y)=false/\u8 y≠59/\u8 y≠35):
    CTp L (n+2) 138 [yT s,yI (k:Int)]=some [yI ((k+w.length:Nat):Int),yB true]:=by
 have:=congrArg List.length h;simp at this;show CTp L (n+1+1) 138 _=_;rw[c138,F138,aOE];exact Sk_loop (λx=>Bl_ok x L n) (λk h6 hk=>has_no hb h6 hk L n) hb hr w k L h (by omega) hw
end Go.TV
namespace Go.TV
open Go.AI Go.PI Go.Proofs
def slc_nat{N:Type}{s w r:List N}{k:Nat}(h:s.drop k=w++r)(hk:k<=s.length):slc s (k:Int) ((k+w.length:Nat):Int)=some w:=by
 have hl:=congrArg List.length h;simp at hl;unfold slc;have e1:decide ((0:Int)<=(k:Int))=true:=by simp
 have e2:decide ((k:Int)<=((k+w.length:Nat):Int))=true:=by simp;omega
 have e3:decide (((k+w.length:Nat):Int)<=(s.length:Int))=true:=by simp only[djE];omega
 rw[e1,e2,e3];simp only[Bool.and_self,cdt,Int.toNat_natCast,ojE];rw[List.drop_take,h];simp
def obL_nm{W:Type}{a b:List UInt8}{d:Bool}{K:List UInt8×List UInt8×Bool×Unit->Option W}:obL (D:=U0.D) [.str,.str,.bool] (some [yT a,yT b,yB d]) K=K (a,b,d,()):=rfl
def obL_se{W:Type}{a:G.X}{K:G.X×Unit->Option W}:obL (D:=U0.D) [.rc 17] (some [yR 17 a]) K=K (a,()):=rfl
def obL_ib{W:Type}{a:Int}{b:Bool}{K:Int×Bool×Unit->Option W}:obL (D:=U0.D) [.int .i64,.bool] (some [yI a,yB b]) K=K (a,b,()):=rfl
def obL_i{W:Type}{a:Int}{K:Int×Unit->Option W}:obL (D:=U0.D) [.int .i64] (some [yI a]) K=K (a,()):=rfl
def obL_s{W:Type}{a:List UInt8}{K:List UInt8×Unit->Option W}:obL (D:=U0.D) [.str] (some [yT a]) K=K (a,()):=rfl
def obL_s2{W:Type}{a b:List UInt8}{K:List UInt8×List UInt8×Unit->Option W}:obL (D:=U0.D) [.str,.str] (some [yT a,yT b]) K=K (a,b,()):=rfl
def obL_on{W:Type}{a:G.K}{b:Int}{d:G.X}{K:G.K×Int×G.X×Unit->Option W}:obL (D:=U0.D) [.rc 19,.int .i64,.rc 17] (some [yR 19 a,yI b,yR 17 d]) K=K (a,b,d,()):=rfl
def Nm_no{x:UInt8}{w:List UInt8}(h1:u8 x≠45)(h2:u8 x<48∨57<u8 x)(L n:Nat):CTp (L+1) (n+1) 171 [yT (x::w)]=some [yT [],yT [],yB false]:=by
 rw[c171];have e1:decide ((0:Int)<((x::w).length:Int))=true:=by simp
 have e2:decide ((x.toNat:Int)=45)=false:=by simpa [u8]using h1
 have e3:idx (x::w) (0:Int)=some x:=rfl;rw[F171,aOr,e1,aG,e3,aS,e2,aN1,aOq,aC,aN0,aOp,zA,aOo,e1,aG,e3,aS];have key: ∀b:Bool,b=false->aNZ (CTp (L+1) n) (L+1) (zA (CTp (L+1) n) (L+1) L) b 0 (x::w) 0=some [yT [],yT [],yB false]:=by
  intro b hb;subst hb;rfl
 cases h3:decide ((48:Int)<=(x.toNat:Int))with
 |false=>exact key _ rfl
 |true=>
  rw[aG,aS];have h4:decide ((x.toNat:Int)<=(57:Int))=false:=by
   simp only[djE]at h3;simp only[dfN];simp only[u8]at h2;omega
  exact key _ h4
def Nd_ok{k p:Int}{w:List UInt8}(h:w.length<=40)(L n:Nat):CTp L (n+1) 167 [yR 19 ⟨k,p,[],w,[]⟩,yB false]=some [yR 17 ⟨0,0⟩]:=by
 rw[c167];have e1:decide ((40:Int)<(w.length:Int))=false:=by simp;omega
 simp only[F167,aOv,e1,aC];rfl
structure NumW(c:TC0)(w:List UInt8):Prop where
 a:c 171 [yT w]=some [yT w,yT [49],yB true]
 b:c 172 [yT [49]]=some [yT [49]]
 d:c 172 [yT w]=some [yT w]
 e:c 130 [yT w,yT [49]]=some [yT w,yT [49]]
 f:c 173 [yT w]=some [yI 1]
 g:c 173 [yT [49]]=some [yI 1]
def SyW(w:List UInt8):Prop:= ∃x l,w=x::l/\u8 x≠45/\(u8 x<48∨57<u8 x)/\w≠ [46]/\w.length<=40
def aMq{x:Int}(h:csI x=true):x≠40/\x≠41/\x≠39/\x≠34/\x≠59/\x≠124/\x≠58:=by
 simp only[csI,bjE,Bool.not_eq_true',dfN]at h;obtain⟨⟨⟨⟨⟨⟨⟨_,h1⟩,h2⟩,h3⟩,h4⟩,h5⟩,h6⟩,h7⟩:=h;exact⟨h1,h2,h3,h4,h5,h6,h7⟩
def wtk(b:Bool)(p:Int)(w:List UInt8):G.K:=bif b then⟨5,p,[],w,[49]⟩else⟨6,p,[],w,[]⟩
def On_w{s w r:List UInt8}{k L n:Nat}{nu:Bool}(hb:s.length<1000000000)(hL:s.length<L)(h:s.drop k=w++r)(h0:w≠ [])(hw: ∀x∈w,csI (u8 x)=true)(hr: ∀y,r.head?=some y->csI (u8 y)=false/\u8 y≠58)
    (hk:(nu=true/\NumW (CTp L (n+2)) w)∨(nu=false/\SyW w)):
    CTp L (n+3) 139 [yT s,yI (k:Int)]=some [yR 19 (wtk nu (k:Int) w),yI ((k+w.length:Nat):Int),yR 17 ⟨0,0⟩]:=by
 have hl:=congrArg List.length h;simp at hl;obtain⟨L,rfl⟩:=sK L 1 (by omega)
 cases hw0:w with
 |nil=>exact(h0 hw0).elim
 |cons x l=>
  rw[<-hw0];have hx:x∈w:=by rw[hw0];exact mhE ..
  have h1:s.drop k=x::(l++r):=by rw[h,hw0];rfl
  obtain⟨a1,a2,a3⟩:=aI h1;obtain⟨q1,q2,q3,q4,q5,q6,q7⟩:=aMq (hw x hx);have d1:decide ((x.toNat:Int)=40)=false:=by simpa [u8]using q1
  have d2:decide ((x.toNat:Int)=41)=false:=by simpa [u8]using q2
  have d3:decide ((x.toNat:Int)=39)=false:=by simpa [u8]using q3
  have d4:decide ((x.toNat:Int)=34)=false:=by simpa [u8]using q4
  have d5:decide ((x.toNat:Int)=124)=false:=by simpa [u8]using q6
  have d6:csI (x.toNat:Int)=true:=hw x hx;have hwd:=Wd_ok (n:=n) hb hL h hw (λy hy=>(hr y hy).1)
  have cr:=slc_nat h (by omega)
  have hhs:CTp (L+1) (n+2) 165 [yT s,yI ((k+w.length:Nat):Int),⟨.int .u8,(58:Int)⟩,⟨.int .u8,(58:Int)⟩]=some [yB false]:=by
   refine has_no hb (by omega) (λy hy=>?_) (L+1) (n+1)
   have:s.drop (k+w.length)=r:=by rw[<-List.drop_drop,h];simp
   rw[<-List.head?_drop,this]at hy;exact(hr y hy).2
  show CTp (L+1) (n+2+1) 139 _=_;rw[c139,F139,aCU,aD,a1,aS,d1,aC,d2,aC,d3,aC,d4,aC,d5,aC,Cs_ok,aN,d6];simp only[bnT,aC];rw[hwd,obL_i];show ob (slc s (k:Int) ((k+w.length:Nat):Int)) _=_;rw[cr,aS,hhs,aN,aC];rcases hk with⟨rfl,hn⟩|⟨rfl,x',l',e1,e2,e3,e4,e5⟩
  ·rw[hn.a,obL_nm];have e4:decide (w=([46]:List UInt8))=false:=by
    cases hd:decide (w=([46]:List UInt8))with
    |false=>rfl
    |true=>
     exfalso;simp only[djE]at hd;have h2:=hn.a;rw[hd]at h2;rw[Nm_no (x:=46) (w:=[]) (by decide) (by decide)]at h2
     cases h2
   rw[e4,aC];simp only[aG];rw[hn.b,obL_s];show cnd (decide (([49]:List UInt8)=[48])) _ _=_;rw[show decide (([49]:List UInt8)=[48])=false by decide,aC,hn.d,obL_s,obL_s]
   show obL (D:=U0.D) [.str,.str] (CTp (L+1) (n+2) 130 [yT w,yT [49]]) _=_;rw[hn.e,obL_s2];show obL (D:=U0.D) [.int .i64] (CTp (L+1) (n+2) 173 [yT w]) _=_;rw[hn.f,obL_i];show cnd (decide ((100:Int)<1)) _ _=_;rw[show decide ((100:Int)<1)=false by decide,aC]
   show obL (D:=U0.D) [.int .i64] (CTp (L+1) (n+2) 173 [yT [49]]) _=_;rw[hn.g,obL_i];rfl
  ·rw[e1,Nm_no e2 e3,<-e1,obL_nm];have e6:decide (w=([46]:List UInt8))=false:=by simpa using e4
   rw[e6,aC];simp only[aC];rw[Nd_ok e5,obL_se];rfl
def On_op{s r:List UInt8}{k L n:Nat}(hb:s.length<1000000000)(h:s.drop k=40::r):CTp L (n+1) 139 [yT s,yI (k:Int)]=some [yR 19 ⟨1,(k:Int),[],[],[]⟩,yI ((k+1:Nat):Int),yR 17 ⟨0,0⟩]:=by
 obtain⟨a1,a2,a3⟩:=aI h;rw[c139,F139,aCU,aD,a1,aS,aX (by omega)]
 rfl
def On_cl{s r:List UInt8}{k L n:Nat}(hb:s.length<1000000000)(h:s.drop k=41::r):CTp L (n+1) 139 [yT s,yI (k:Int)]=some [yR 19 ⟨2,(k:Int),[],[],[]⟩,yI ((k+1:Nat):Int),yR 17 ⟨0,0⟩]:=by
 obtain⟨a1,a2,a3⟩:=aI h;rw[c139,F139,aCU,aD,a1,aS,aX (by omega)]
 rfl
end Go.TV
namespace Go.TV
open Go.AI Go.PI Go.Proofs
inductive It where
 |op
 |cl
 |wd (nu:Bool) (w:List UInt8)
def It.by':It->List UInt8
 | .op=>[40]
 | .cl=>[41]
 | .wd _ w=>w
def It.tk(p:Nat):It->G.K
 | .op=>⟨1,(p:Int),[],[],[]⟩
 | .cl=>⟨2,(p:Int),[],[],[]⟩
 | .wd nu w=>wtk nu (p:Int) w
abbrev Its:=List (List UInt8×It)
def aCY:Its->List UInt8->List UInt8
 |[],tl=>tl
 |(b,t)::l,tl=>b++(t.by'++aCY l tl)
def tks:Nat->Its->List G.K
 |_,[]=>[]
 |p,(b,t)::l=>t.tk (p+b.length)::tks (p+b.length+t.by'.length) l
def isN:List UInt8->Bool
 |[48]=>true
 |[49]=>true
 |[45,49]=>true
 |_=>false
def okW(nu:Bool):List UInt8->Bool
 |[]=>false
 |x::l=>(x::l).all (λx=>csI (u8 x))&& !decide (u8 x=35)&&(bif nu then isN (x::l)else !decide (u8 x=45)&&(decide (u8 x<48)||decide (57<u8 x))&& !decide (x::l=[46])&&Nat.ble (x::l).length 40)
def stp:List UInt8->Bool
 |[]=>true
 |y::_=> !csI (u8 y)&& !decide (u8 y=58)
def okT(r:List UInt8):It->Bool
 | .wd nu w=>okW nu w&&stp r
 |_=>true
def okL:Its->List UInt8->Bool
 |[],tl=>tl.all λx=>blI (u8 x)
 |(b,t)::l,tl=>(b.all λx=>blI (u8 x))&&okT (aCY l tl) t&&okL l tl
def stp_h{r:List UInt8}(h:stp r=true): ∀y,r.head?=some y->csI (u8 y)=false/\u8 y≠58:=by
 intro y hy;cases r with
 |nil=>cases hy
 |cons z r=>
  simp only[List.head?_cons,ojE]at hy;subst hy;simpa [stp]using h
def bl_cs{x:Int}(h:csI x=true):blI x=false:=by
 simp only[csI,bjE,djE]at h;simp only[blI,Bool.or_eq_false_iff,dfN];omega
def okT_h{t:It}{r:List UInt8}(h:okT r t=true): ∀y,(t.by'++r).head?=some y->blI (u8 y)=false/\u8 y≠59/\u8 y≠35:=by
 intro y hy;cases t with
 |op=>simp[It.by']at hy;subst hy;decide
 |cl=>simp[It.by']at hy;subst hy;decide
 |wd nu w=>
  cases w with
  |nil=>simp[okT,okW]at h
  |cons x l=>
   simp[It.by']at hy;subst hy
   simp only[okT,okW,bjE,alC,Bool.not_eq_true',dfN]at h;exact⟨bl_cs h.1.1.1.1,(aMq h.1.1.1.1).2.2.2.2.1,h.1.1.2⟩
def One_ok{s r:List UInt8}{t:It}{k L n:Nat}(hN: ∀w,isN w=true->NumW (CTp L (n+2)) w)(hb:s.length<1000000000)(hL:s.length<L)(h:s.drop k=t.by'++r)(ht:okT r t=true):
    CTp L (n+3) 139 [yT s,yI (k:Int)]=some [yR 19 (t.tk k),yI ((k+t.by'.length:Nat):Int),yR 17 ⟨0,0⟩]:=by
 cases t with
 |op=>exact On_op hb h
 |cl=>exact On_cl hb h
 |wd nu w=>
  cases w with
  |nil=>simp[okT,okW]at ht
  |cons x l=>
   simp only[okT,okW,bjE,Bool.not_eq_true',dfN]at ht;obtain⟨⟨⟨h1,h2⟩,h3⟩,h4⟩:=ht;refine On_w hb hL h (by simp) (λy hy=>List.all_eq_true.1 h1 y hy) (stp_h h4) ?_
   cases nu with
   |true=>exact .inl ⟨rfl,hN _ h3⟩
   |false=>
    simp only[cdf,bjE,Bool.or_eq_true,Bool.not_eq_true',dfN,djE]at h3;exact .inr ⟨rfl,x,l,rfl,h3.1.1.1,h3.1.1.2,h3.1.2,Nat.le_of_ble_eq_true h3.2⟩
def Tk_loop{s tl:List UInt8}{L n:Nat}{er:G.X}(hN: ∀w,isN w=true->NumW (CTp L (n+2)) w)(hb:s.length<6001)(hL:s.length<L):
    ∀(l:Its) (k m:Nat) (acc:List G.K),s.drop k=aCY l tl->k<=s.length->okL l tl=true->l.length<m->acc.length<=k->uU (CTp L (n+3)) L m (k:Int) s acc er=some [yS 19 (acc++tks k l++ [⟨0,(s.length:Int),[],[],[]⟩]),yR 17 ⟨0,0⟩]:=by
 intro l;induction l with
 |nil=>
  intro k m acc h1 h2 h3 h4 h5;obtain⟨m,rfl⟩:=sK m 1 (by simp at h4;omega)
  have hl:=congrArg List.length h1;simp[aCY]at hl;have hsk:=Sk_ok (s:=s) (w:=tl) (r:=[]) (k:=k) (L:=L) (n:=n+1) (by omega) hL (by simpa [aCY]using h1) (λx hx=>List.all_eq_true.1 h3 x hx) (by simp)
  have e1:((k+tl.length:Nat):Int)=(s.length:Int):=by omega
  rw[uU,aHH,hsk,obL_ib];simp only[bnT,aC];rw[e1];simp only[Int.le_refl,decide_true,aG];have e2:Nat.ble ((acc.length+([⟨0,(s.length:Int),[],[],[]⟩]:List G.K).length)*64) 1073741824=true:=by
   rw[Nat.ble_eq];simp only[lcS,lnN];omega
  rw[e2,eC,show tks k []=[] from rfl,apN];rfl
 |cons bt l ih=>
  obtain⟨b,t⟩:=bt;intro k m acc h1 h2 h3 h4 h5;obtain⟨m,rfl⟩:=sK m 1 (by simp at h4;omega)
  simp only[okL,bjE]at h3;obtain⟨⟨h6,h7⟩,h8⟩:=h3;have hl:=congrArg List.length h1;simp[aCY]at hl;have ht:1<=t.by'.length:=by
   cases t with
   |op=>exact nlR _
   |cl=>exact nlR _
   |wd nu w=>cases w with
    |nil=>simp[okT,okW]at h7
    |cons x l=>simp[It.by']
  have hsk:=Sk_ok (s:=s) (w:=b) (r:=t.by'++aCY l tl) (k:=k) (L:=L) (n:=n+1) (by omega) hL h1 (λx hx=>List.all_eq_true.1 h6 x hx) (okT_h h7)
  have hd:s.drop (k+b.length)=t.by'++aCY l tl:=by rw[<-List.drop_drop,h1];simp[aCY]
  have ho:=One_ok (n:=n) hN (by omega) hL hd h7
  have hd2:s.drop (k+b.length+t.by'.length)=aCY l tl:=by rw[<-List.drop_drop,hd];simp
  rw[uU,aHH,hsk,obL_ib];simp only[bnT,aC];have e1:decide ((s.length:Int)<=((k+b.length:Nat):Int))=false:=by simp only[dfN];omega
  rw[e1,aC,ho,obL_on];simp only[decide_true,bnT,aC];have e2:Nat.ble ((acc.length+([t.tk (k+b.length)]:List G.K).length)*64) 1073741824=true:=by
   rw[Nat.ble_eq];simp only[lcS,lnN];omega
  rw[e2,eC,ih (k+b.length+t.by'.length) m _ hd2 (by omega) h8 (by simp at h4;omega) (by simp;omega)]
  simp[tks]
def Tok_ok{l:Its}{tl:List UInt8}{L n:Nat}(hN: ∀w,isN w=true->NumW (CTp L (n+2)) w)(hs:(aCY l tl).length<6001)(hL:(aCY l tl).length<L)(hl:l.length<L)(ho:okL l tl=true):
    CTp L (n+4) 121 [yT (aCY l tl)]=some [yS 19 (tks 0 l++ [⟨0,((aCY l tl).length:Int),[],[],[]⟩]),yR 17 ⟨0,0⟩]:=by
 show CTp L (n+3+1) 121 _=_;have e1:decide ((6000:Int)<((aCY l tl).length:Int))=false:=by simp only[dfN];omega
 rw[c121,F121,aOL,e1,aC];exact Tk_loop (tl:=tl) (er:=⟨0,0⟩) hN hs hL l 0 L [] rfl (Nat.zero_le _) ho hl (nlR _)
end Go.TV
namespace Go.TV
open Go.AI Go.PI Go.Proofs
set_option maxRecDepth 20000
def vL:List UInt8:=[108,105,115,112]
def oSy(s:List UInt8):G.O:=⟨2,[],[],⟨vL,s⟩,[],[]⟩
def oNu(s:List UInt8):G.O:=⟨1,s,[49],⟨[],[]⟩,[],[]⟩
def ol:List G.O->G.O
 |[]=>oSy [110,105,108]
 |x::l=>⟨4,[],[],⟨[],[]⟩,[],[x,ol l]⟩
def tkP(p:Int):G.K:=⟨1,p,[],[],[]⟩
def tkC(p:Int):G.K:=⟨2,p,[],[],[]⟩
def y0a:List UInt8:=[43]
def w0a:G.O:=oSy y0a
def y1a:List UInt8:=[45,49]
def w1a:G.O:=oNu y1a
def y2a:List UInt8:=[48]
def w2a:G.O:=oNu y2a
def y3a:List UInt8:=[49]
def w3a:G.O:=oNu y3a
def y4a:List UInt8:=[60]
def w4a:G.O:=oSy y4a
def y5a:List UInt8:=[97]
def w5a:G.O:=oSy y5a
def y6a:List UInt8:=[97,110,100]
def w6a:G.O:=oSy y6a
def y7a:List UInt8:=[97,112,112,101,110,100]
def w7a:G.O:=oSy y7a
def y8a:List UInt8:=[97,115,115,111,99,45,101,113,117,97,108]
def w8a:G.O:=oSy y8a
def y9a:List UInt8:=[97,116,111,109]
def w9a:G.O:=oSy y9a
def y10a:List UInt8:=[98,105,110,97,114,121,45,97,112,112,101,110,100]
def w10a:G.O:=oSy y10a
def y11a:List UInt8:=[98,111,111,108,101,97,110,112]
def w11a:G.O:=oSy y11a
def y12a:List UInt8:=[99,97,114]
def aE8:G.O:=oSy y12a
def y13a:List UInt8:=[99,100,114]
def aIU:G.O:=oSy y13a
def y14a:List UInt8:=[99,111,110,100]
def w14a:G.O:=oSy y14a
def y15a:List UInt8:=[99,111,110,115]
def w15a:G.O:=oSy y15a
def y16a:List UInt8:=[99,111,110,115,112]
def aA9:G.O:=oSy y16a
def y17a:List UInt8:=[99,111,117,110,116]
def aIT:G.O:=oSy y17a
def y18a:List UInt8:=[100,101,102,117,110]
def oX:G.O:=oSy y18a
def y19a:List UInt8:=[101]
def w19a:G.O:=oSy y19a
def y20a:List UInt8:=[101,110,100,112]
def w20a:G.O:=oSy y20a
def y21a:List UInt8:=[101,113,117,97,108]
def w21a:G.O:=oSy y21a
def y22a:List UInt8:=[102,105,120]
def w22a:G.O:=oSy y22a
def y23a:List UInt8:=[103,117,97,114,100]
def w23a:G.O:=oSy y23a
def y24a:List UInt8:=[105,102]
def pB:G.O:=oSy y24a
def y25a:List UInt8:=[105,102,102]
def w25a:G.O:=oSy y25a
def y26a:List UInt8:=[105,102,105,120]
def w26a:G.O:=oSy y26a
def y27a:List UInt8:=[105,109,112,108,105,101,115]
def w27a:G.O:=oSy y27a
def y28a:List UInt8:=[105,110,116,101,103,101,114,112]
def w28a:G.O:=oSy y28a
def y29a:List UInt8:=[107]
def w29a:G.O:=oSy y29a
def y30a:List UInt8:=[108,101,110]
def w30a:G.O:=oSy y30a
def y31a:List UInt8:=[108,105,115,116]
def w31a:G.O:=oSy y31a
def y32a:List UInt8:=[109,101,97,115,117,114,101]
def aJb:G.O:=oSy y32a
def y33a:List UInt8:=[109,101,109,98,101,114,45,101,113,117,97,108]
def w33a:G.O:=oSy y33a
def y34a:List UInt8:=[110]
def w34a:G.O:=oSy y34a
def y35a:List UInt8:=[110,97,116,112]
def w35a:G.O:=oSy y35a
def y36a:List UInt8:=[110,102,105,120]
def w36a:G.O:=oSy y36a
def y37a:List UInt8:=[110,105,108]
def aHT:G.O:=oSy y37a
def y38a:List UInt8:=[110,111,116]
def w38a:G.O:=oSy y38a
def y39a:List UInt8:=[110,116,104]
def w39a:G.O:=oSy y39a
def y40a:List UInt8:=[111,45,102,105,110,112]
def w40a:G.O:=oSy y40a
def y41a:List UInt8:=[111,45,102,105,114,115,116,45,99,111,101,102,102,105,99,105,101,110,116]
def w41a:G.O:=oSy y41a
def y42a:List UInt8:=[111,45,102,105,114,115,116,45,101,120,112,111,110,101,110,116]
def w42a:G.O:=oSy y42a
def y43a:List UInt8:=[111,45,112]
def w43a:G.O:=oSy y43a
def y44a:List UInt8:=[111,45,114,101,115,116]
def w44a:G.O:=oSy y44a
def y45a:List UInt8:=[111,60]
def w45a:G.O:=oSy y45a
def y46a:List UInt8:=[111,114]
def w46a:G.O:=oSy y46a
def y47a:List UInt8:=[112]
def w47a:G.O:=oSy y47a
def y48a:List UInt8:=[112,111,115,112]
def w48a:G.O:=oSy y48a
def y49a:List UInt8:=[113]
def w49a:G.O:=oSy y49a
def y50a:List UInt8:=[114,97,116,105,111,110,97,108,112]
def w50a:G.O:=oSy y50a
def y51a:List UInt8:=[114,101,118]
def w51a:G.O:=oSy y51a
def y52a:List UInt8:=[115,121,110,116,97,120,112]
def w52a:G.O:=oSy y52a
def y53a:List UInt8:=[116]
def aIS:G.O:=oSy y53a
def y54a:List UInt8:=[116,114,117,101,45,108,105,115,116,112]
def w54a:G.O:=oSy y54a
def y55a:List UInt8:=[117,112,100,97,116,101,45,110,116,104]
def w55a:G.O:=oSy y55a
def y56a:List UInt8:=[118]
def w56a:G.O:=oSy y56a
def qK:List UInt8:=[120]
def bU:G.O:=oSy qK
def y58a:List UInt8:=[121]
def aIR:G.O:=oSy y58a
def y59a:List UInt8:=[122,112]
def w59a:G.O:=oSy y59a
def wdL:List (List UInt8):=[y0a,y1a,y2a,y3a,y4a,y5a,y6a,y7a,y8a,y9a,y10a,y11a,y12a,y13a,y14a,y15a,y16a,y17a,y18a,y19a,y20a,y21a,y22a,y23a,y24a,y25a,y26a,y27a,y28a,y29a,y30a,y31a,y32a,y33a,y34a,y35a,y36a,y37a,y38a,y39a,y40a,y41a,y42a,y43a,y44a,y45a,y46a,y47a,y48a,y49a,y50a,y51a,y52a,y53a,y54a,y55a,y56a,qK,y58a,y59a]
def tkM:Nat->Nat->Nat->List G.K
 |0,_,_=>[]
 |f+1,p,n=>bif Nat.beq (n%64) 0 then tkP ((p+n/64%64:Nat):Int)::tkM f (p+n/64%64+1) (n/4096)
  else bif Nat.beq (n%64) 1 then tkC ((p+n/64%64:Nat):Int)::tkM f (p+n/64%64+1) (n/4096)
  else match wdL[n%64-2]? with
   |some w=>wtk (isN w) ((p+n/64%64:Nat):Int) w::tkM f (p+n/64%64+w.length) (n/4096)
   |none=>[]
def toksL:List G.K:=tkM 942 0 0x100100100100107b00f04007a00106404300204003904000107b00e04001104000100107b00f04007a01104000106403d04001a0c000100106402604002204000100100107b03804000106402504000804001904000107b07a02404007901404000100100100107b00f04000106404300204002904000107b00e04000106403d04001a0c000100106402604002204000100100107b03804000106402504000804001904000107b02404006901404000100100100100104700f04005f00a04003724000100104700e04000100100100104700e04000e04005f01704000100104700e0400120400080002400010670010010470120400280000400100c000100104701304002204000104701f04004a01404000100106700100100107b00f04005502304007b00100107b00e04005501704001a04000107b01204001a0c000100107b01304002204000100107b03804001904000107b01504006301404000100106700100100107b00e04002104000100107b00f04003504000904000107b01204001a0c000100107b01304002204000103b04007501404000100107c00100107c00107b00f04000c04000107b00e04001104000107b01204001a0c000100107b01304002204000100107b03804001904000107c03b04004c01404000100100106707b01704000100107b00f04003804000107b01204001a04000100107b01304002204000103b04007801404000100104400100100107b00f04002004004500204000107b01204001a04000100107b01304002204000103b04006001404000100100100100107b02c04000100107b02e04002c04002f28000100107b02e04002d28000100107b02b04003228000100104400107b02c04001704002828000100107b02c04002d28000100107b00e04001204000814000107b0251c000107b02a04001a0c000100107b01304002204000103b04006d01404000100100100100107c02e04000107b02e04002f04003724000100100107c02b04000107b02b04000628000100100107c02b04000107b02b04001704002800024000100100107c02c04000107b02c04002f28000100100107c02c04000107b02c04001704002800024000106700107c02a00024000100100107c07b00604007700107c01204001a04000107b02a0000400100c000100107b01304002204000107c03b04006f01404000100104400107b00f04000107b01204001a04000103b04006e01404000100107b00100107b00e04000f04000107b01204001a04000103b04006b01404000100104400100107b00e04000e04000107b01204001a04000103b04006c01404000100100107b01204002804000103b04006a01404000100104400100100107b00f04001304000100107b00e04001304004500204000107b01204001a04000100107b01304002204000103b04005301404000100107700100107b04400604002804000107b01e04001a04000100107b02504001904000103b04007d01404000100104407b00107b02504001a04000103b04006601404000100106700107b04400604000107b01e04001a04000103b04007201404000100106700100104407b00604002804000107b01e04001a04000103b04006501404000100104407b00107b01e04001a04000103b04005c01404000100104407b00107b03404001a04000103b04005801404000100100107b01204002804000100100106707b01704000107b01204003004001904000103b04005601404000100100107b01204002804000103b04004b01404000107700103b04007601404000100100106707b01704007700107707b01704001a04000103b04004d01404000100100107706707301a04000106707707301a04007101a04000107303104005b01404000100107700106707707301a04007101a04000107303104005d01404000100107706707101a040001031040068014000++ [⟨0,2580,[],[],[]⟩]
def o0a:G.O:=ol [oX,w38a,ol [w47a],ol [pB,w47a,aHT,aIS]]
def o1a:G.O:=ol [oX,w27a,ol [w47a,w49a],ol [pB,w47a,ol [pB,w49a,aIS,aHT],aIS]]
def o2a:G.O:=ol [oX,w25a,ol [w47a,w49a],ol [pB,w47a,ol [pB,w49a,aIS,aHT],ol [pB,w49a,aHT,aIS]]]
def o3a:G.O:=ol [oX,w11a,ol [bU],ol [pB,ol [w21a,bU,aIS],aIS,ol [w21a,bU,aHT]]]
def o4a:G.O:=ol [oX,w52a,ol [bU],aIS]
def o5a:G.O:=ol [oX,w9a,ol [bU],ol [w38a,ol [aA9,bU]]]
def o6a:G.O:=ol [oX,w20a,ol [bU],ol [w23a,ol [w46a,ol [aA9,bU],ol [w21a,bU,aHT]]],ol [w38a,ol [aA9,bU]]]
def o7a:G.O:=ol [oX,w22a,ol [bU],ol [pB,ol [w50a,bU],bU,w2a]]
def o8a:G.O:=ol [oX,w26a,ol [bU],ol [pB,ol [w28a,bU],bU,w2a]]
def o9a:G.O:=ol [oX,w35a,ol [bU],ol [pB,ol [w28a,bU],ol [w38a,ol [w4a,bU,w2a]],aHT]]
def o10a:G.O:=ol [oX,w48a,ol [bU],ol [pB,ol [w28a,bU],ol [w4a,w2a,bU],aHT]]
def o11a:G.O:=ol [oX,w36a,ol [bU],ol [pB,ol [w35a,bU],bU,w2a]]
def o12a:G.O:=ol [oX,w59a,ol [bU],ol [w23a,ol [w35a,bU]],ol [pB,ol [w28a,bU],ol [w38a,ol [w4a,w2a,bU]],aIS]]
def o13a:G.O:=ol [oX,aIT,ol [bU],ol [aJb,ol [aIT,bU]],ol [pB,ol [aA9,bU],ol [w0a,w3a,ol [aIT,ol [aE8,bU]],ol [aIT,ol [aIU,bU]]],w2a]]
def o14a:G.O:=ol [oX,w40a,ol [bU],ol [w38a,ol [aA9,bU]]]
def o15a:G.O:=ol [oX,w42a,ol [bU],ol [pB,ol [aA9,bU],ol [aE8,ol [aE8,bU]],w2a]]
def o16a:G.O:=ol [oX,w41a,ol [bU],ol [pB,ol [aA9,bU],ol [aIU,ol [aE8,bU]],bU]]
def o17a:G.O:=ol [oX,w44a,ol [bU],ol [pB,ol [aA9,bU],ol [aIU,bU],w2a]]
def o18a:G.O:=ol [oX,w45a,ol [bU,aIR],ol [aJb,ol [aIT,bU]],ol [w14a,ol [ol [w40a,bU],ol [pB,ol [aA9,aIR],aIS,ol [w4a,bU,aIR]]],ol [ol [w40a,aIR],aHT],ol [ol [w38a,ol [w21a,ol [w42a,bU],ol [w42a,aIR]]],ol [w45a,ol [w42a,bU],ol [w42a,aIR]]],ol [ol [w38a,ol [w21a,ol [w41a,bU],ol [w41a,aIR]]],ol [w4a,ol [w41a,bU],ol [w41a,aIR]]],ol [aIS,ol [w45a,ol [w44a,bU],ol [w44a,aIR]]]]]
def o19a:G.O:=ol [oX,w43a,ol [bU],ol [aJb,ol [aIT,bU]],ol [pB,ol [w40a,bU],ol [w35a,bU],ol [w6a,ol [aA9,ol [aE8,bU]],ol [w43a,ol [w42a,bU]],ol [w38a,ol [w21a,ol [w42a,bU],w2a]],ol [w48a,ol [w41a,bU]],ol [w43a,ol [w44a,bU]],ol [w45a,ol [w42a,ol [w44a,bU]],ol [w42a,bU]]]]]
def o20a:G.O:=ol [oX,w30a,ol [bU],ol [aJb,ol [aIT,bU]],ol [pB,ol [aA9,bU],ol [w0a,w3a,ol [w30a,ol [aIU,bU]]],w2a]]
def o21a:G.O:=ol [oX,w54a,ol [bU],ol [aJb,ol [aIT,bU]],ol [pB,ol [aA9,bU],ol [w54a,ol [aIU,bU]],ol [w21a,bU,aHT]]]
def o22a:G.O:=ol [oX,w10a,ol [bU,aIR],ol [w23a,ol [w54a,bU]],ol [aJb,ol [aIT,bU]],ol [pB,ol [aA9,bU],ol [w15a,ol [aE8,bU],ol [w10a,ol [aIU,bU],aIR]],aIR]]
def o23a:G.O:=ol [oX,w51a,ol [bU],ol [aJb,ol [aIT,bU]],ol [pB,ol [aA9,bU],ol [w7a,ol [w51a,ol [aIU,bU]],ol [w31a,ol [aE8,bU]]],aHT]]
def o24a:G.O:=ol [oX,w33a,ol [w19a,bU],ol [w23a,ol [w54a,bU]],ol [aJb,ol [aIT,bU]],ol [pB,ol [aA9,bU],ol [pB,ol [w21a,w19a,ol [aE8,bU]],bU,ol [w33a,w19a,ol [aIU,bU]]],aHT]]
def o25a:G.O:=ol [oX,w8a,ol [w29a,w5a],ol [aJb,ol [aIT,w5a]],ol [w14a,ol [ol [w38a,ol [aA9,w5a]],aHT],ol [ol [w6a,ol [aA9,ol [aE8,w5a]],ol [w21a,w29a,ol [aE8,ol [aE8,w5a]]]],ol [aE8,w5a]],ol [aIS,ol [w8a,w29a,ol [aIU,w5a]]]]]
def o26a:G.O:=ol [oX,w39a,ol [w34a,bU],ol [w23a,ol [w6a,ol [w35a,w34a],ol [w54a,bU]]],ol [aJb,ol [w36a,w34a]],ol [pB,ol [w59a,w34a],ol [aE8,bU],ol [w39a,ol [w0a,w1a,w34a],ol [aIU,bU]]]]
def o27a:G.O:=ol [oX,w55a,ol [w34a,w56a,bU],ol [w23a,ol [w6a,ol [w35a,w34a],ol [w54a,bU]]],ol [aJb,ol [w36a,w34a]],ol [pB,ol [w59a,w34a],ol [w15a,w56a,ol [aIU,bU]],ol [w15a,ol [aE8,bU],ol [w55a,ol [w0a,w1a,w34a],w56a,ol [aIU,bU]]]]]
def oAll:List G.O:=[o0a,o1a,o2a,o3a,o4a,o5a,o6a,o7a,o8a,o9a,o10a,o11a,o12a,o13a,o14a,o15a,o16a,o17a,o18a,o19a,o20a,o21a,o22a,o23a,o24a,o25a,o26a,o27a]
def spW:List UInt8->List UInt8×List UInt8
 |[]=>([],[])
 |x::l=>bif csI (u8 x)then(x::(spW l).1,(spW l).2)else([],x::l)
def spB:List UInt8->List UInt8×List UInt8
 |[]=>([],[])
 |x::l=>bif blI (u8 x)then(x::(spB l).1,(spB l).2)else([],x::l)
def lexI:Nat->List UInt8->Its×List UInt8
 |0,l=>([],l)
 |n+1,l=>match spB l with
  |(b,[])=>([],b)
  |(b,x::r)=>bif Nat.beq x.toNat 40 then((b,.op)::(lexI n r).1,(lexI n r).2)else bif Nat.beq x.toNat 41 then((b,.cl)::(lexI n r).1,(lexI n r).2)else
   match spW (x::r)with
   |(w,r')=>((b,.wd (isN w) w)::(lexI n r').1,(lexI n r').2)
end Go.TV
