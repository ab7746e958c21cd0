import Derived.Test.YtgddcoodncbkoaaGreatDoorKn
set_option linter.unusedVariables false
set_option linter.unusedSimpArgs false
set_option linter.constructorNameAsVariable false
set_option linter.defProp false
namespace Go.TV
open Go.AI Go.PI Go.Proofs
set_option maxRecDepth 20000
noncomputable section
variable(c:TC0)(e:Cu)(L:Nat)
def B48x0(c:TC0):Rt:=
 some [⟨(.sl .str),([[99,97,114],[99,100,114],[99,111,110,115],[99,111,110,115,112],[110,111,116],[101,113,117,97,108],[105,102],[98,105,110,97,114,121,45,43],[60],[105,110,116,101,103,101,114,112],[108,101,110],[98,105,110,97,114,121,45,97,112,112,101,110,100],[114,101,118],[116,114,117,101,45,108,105,115,116,112],[110,97,116,112],[112,111,115,112],[117,110,97,114,121,45,45],[98,105,110,97,114,121,45,42],[105,109,112,108,105,101,115],[115,121,109,98,111,108,112],[114,97,116,105,111,110,97,108,112],[102,105,120],[105,102,102],[110,102,105,120],[122,112]]:List (List UInt8))⟩]
def s48x0:fA (xF ii48 c e)=B48x0 c:=by kernel_rfl
def F48(L:Nat):Rt:=B48x0 c
def e48:fA (xF ii48 c (cu c L))=F48 c L:=s48x0 _ _
def c48(L n:Nat):CTp L (n+1) 48 []=F48 (CTp L n) L:=by rw[<-e48];exact cg (x:=ii48) (by kernel_rfl) (by kernel_rfl) L n _
def B49x0(c:TC0):Rt:=
 some [⟨(.sl .str),([[100,117,98],[115,97,109,101,45,108,101,110],[112,97,105,114,115],[100,117,98,115],[116,114,101,101],[101,118,101,110,115],[111,100,100,115],[120,111,114,50]]:List (List UInt8))⟩]
def s49x0:fA (xF ii49 c e)=B49x0 c:=by kernel_rfl
def F49(L:Nat):Rt:=B49x0 c
def e49:fA (xF ii49 c (cu c L))=F49 c L:=s49x0 _ _
def c49(L n:Nat):CTp L (n+1) 49 []=F49 (CTp L n) L:=by rw[<-e49];exact cg (x:=ii49) (by kernel_rfl) (by kernel_rfl) L n _
def q50x0(c:TC0)(e:Cu):Kt:=xK ii50
def q50x1:Kt:=xT ii50 c e [1,1,1] (q50x0 c e)
def q50x2:Kt:=bH U0 0 (q50x1 c e)
def B50x0(c:TC0)(d:List G.T->List G.T->Int->Rt)(a:List G.T)(b:List G.T):Rt:=
 cnd (!decide ((List.length a:Int)=(List.length b:Int))) (some [yB false]) (d a b 0)
def B50x1(f:List G.T->List G.T->Int->Rt)(b:List G.T)(d:List G.T)(a:Int):Rt:=
 cnd (decide (a<(List.length b:Int))) (ob (idx b a) λg=>
 ob (idx d a) λh=>
 obL [.bool] (c 43 [yR 3 g,yR 3 h]) λ(i:Bool×Unit)=>
 cnd (!i.1) (some [yB false]) (f b d (IntKind.i64.wrap (a+1)))) (some [yB true])
def X50x1:=aCH (xE ii50 e (pw 6 11) aB8 (q50x2 c e))
def s50x0:aIH (xF ii50 c e)=B50x0 c (X50x1 c e):=by kernel_rfl
def s50x1(n1:Nt):aCH (xA ii50 c e (pw 6 11) aB8 (lpK U0 aB8 n1 (q50x2 c e)))=B50x1 c (aCH n1):=by kernel_rfl
def aER(c:TC0)(L:Nat):Nat->List G.T->List G.T->Int->Rt
 |0=>λ_ _ _=>none
 |n+1=>B50x1 c (aER c L n)
def u50x1(n:Nat):aCH (xL ii50 c L (pw 6 11) aB8 (q50x2 c (cu c L)) n)=aER c L n:=by
 induction n with
 |zero=>rfl
 |succ n ih=>rw[dD,s50x1];simp only[ih];rfl
def w50x1:X50x1 c (cu c L)=aER c L L:=u50x1 c L L
def F50:List G.T->List G.T->Rt:=B50x0 c (aER c L L)
def e50:aIH (xF ii50 c (cu c L))=F50 c L:=by rw[s50x0];simp only[w50x1];rfl
def c50(a:List G.T)(b:List G.T)(L n:Nat):CTp L (n+1) 50 [yS 3 a,yS 3 b]=F50 (CTp L n) L a b:=by rw[<-e50];exact cg (x:=ii50) (by kernel_rfl) (by kernel_rfl) L n _
def B51x0(c:TC0)(a:List UInt8):Rt:=
 some [yR 1 (G.Y.mk [108,105,115,112] a)]
def s51x0:rT (xF ii51 c e)=B51x0 c:=by kernel_rfl
def F51(L:Nat):List UInt8->Rt:=B51x0 c
def e51:rT (xF ii51 c (cu c L))=F51 c L:=s51x0 _ _
def c51(a:List UInt8)(L n:Nat):CTp L (n+1) 51 [yT a]=F51 (CTp L n) L a:=by rw[<-e51];exact cg (x:=ii51) (by kernel_rfl) (by kernel_rfl) L n _
def B54x0:Rt:=
 obL [zS 9] (c 94 []) λ(a:List G.A×Unit)=>
 obL [.str] (c 95 []) λ(b:List UInt8×Unit)=>
 obL [zS 2,.rc 17] (c 96 [yS 9 a.1,yT [108,105,115,112],yT b.1]) λ(d:List G.O×G.X×Unit)=>
 some [yS 2 d.1]
def s54x0:fA (xF ii54 c e)=B54x0 c:=by kernel_rfl
def F54(L:Nat):Rt:=B54x0 c
def e54:fA (xF ii54 c (cu c L))=F54 c L:=s54x0 _ _
def c54(L n:Nat):CTp L (n+1) 54 []=F54 (CTp L n) L:=by rw[<-e54];exact cg (x:=ii54) (by kernel_rfl) (by kernel_rfl) L n _
def B60x0:Rt:=
 obL [.rc 1] (c 37 [yT [110,105,108]]) λ(a:G.Y×Unit)=>
 obL [.rc 2] (c 86 [yR 1 a.1]) λ(b:G.O×Unit)=>
 some [yR 2 b.1]
def s60x0:fA (xF ii60 c e)=B60x0 c:=by kernel_rfl
def F60(L:Nat):Rt:=B60x0 c
def e60:fA (xF ii60 c (cu c L))=F60 c L:=s60x0 _ _
def c60(L n:Nat):CTp L (n+1) 60 []=F60 (CTp L n) L:=by rw[<-e60];exact cg (x:=ii60) (by kernel_rfl) (by kernel_rfl) L n _
def q63x0(c:TC0)(e:Cu):Kt:=xK ii63
def B63x0(a:Bool->Rt)(b:G.T)(d:List UInt8)(f:Int):Rt:=
 cnd (decide (b.kind=3)) (obL [.rc 1] (c 51 [yT d]) λ(g:G.Y×Unit)=>
 cnd (decide (b.name=g.1)) (a (decide ((List.length b.args:Int)=f))) (a false)) (a false)
def B63x1(c:TC0)(a:Bool):Rt:=
 some [yB a]
def X63x1:=bX (xD ii63 e [1,1,0] aLH (q63x0 c e))
def s63x0:V63x0 (xF ii63 c e)=B63x0 c (X63x1 c e):=by kernel_rfl
def s63x1:bX (xA ii63 c e [1,1,0] aLH (q63x0 c e))=B63x1 c:=by kernel_rfl
def J63x1(L:Nat):Bool->Rt:=B63x1 c
def j63x1:X63x1 c (cu c L)=J63x1 c L:=by rw[X63x1,aK,s63x1];rfl
def F63:G.T->List UInt8->Int->Rt:=B63x0 c (J63x1 c L)
def e63:V63x0 (xF ii63 c (cu c L))=F63 c L:=by rw[s63x0];simp only[j63x1];rfl
def c63(a:G.T)(b:List UInt8)(d:Int)(L n:Nat):CTp L (n+1) 63 [yR 3 a,yT b,yI d]=F63 (CTp L n) L a b d:=by rw[<-e63];exact cg (x:=ii63) (by kernel_rfl) (by kernel_rfl) L n _
def q64x0(c:TC0)(e:Cu):Kt:=xK ii64
def q64x1:Kt:=xT ii64 c e [1,1] (q64x0 c e)
def B64x0(b:Bool->G.T->Rt)(a:G.T):Rt:=
 obL [.bool] (c 63 [yR 3 a,yT [105,102],yI 3]) λ(d:Bool×Unit)=>
 cnd d.1 (ob (idx a.args 2) λf=>
 obL [.bool] (c 103 [yR 3 f]) λ(g:Bool×Unit)=>
 b g.1 a) (b false a)
def B64x1(f:Bool)(a:G.T):Rt:=
 cnd f (ob (idx a.args 0) λg=>
 ob (idx a.args 1) λh=>
 obL [zS 3] (c 64 [yR 3 g]) λ(b:List G.T×Unit)=>
 obL [zS 3] (c 64 [yR 3 h]) λ(d:List G.T×Unit)=>
 chk (Nat.ble ((List.length b.1+List.length d.1)*176) 1073741824)<|
 some [yS 3 (b.1++d.1)]) (some [yS 3 ([a]:List G.T)])
def X64x1:=aIG (xD ii64 e (pw 4 5) aLG (q64x1 c e))
def s64x0:gD (xF ii64 c e)=B64x0 c (X64x1 c e):=by kernel_rfl
def s64x1:aIG (xA ii64 c e (pw 4 5) aLG (q64x1 c e))=B64x1 c:=by kernel_rfl
def J64x1(L:Nat):Bool->G.T->Rt:=B64x1 c
def j64x1:X64x1 c (cu c L)=J64x1 c L:=by rw[X64x1,aK,s64x1];rfl
def F64:G.T->Rt:=B64x0 c (J64x1 c L)
def e64:gD (xF ii64 c (cu c L))=F64 c L:=by rw[s64x0];simp only[j64x1];rfl
def c64(a:G.T)(L n:Nat):CTp L (n+1) 64 [yR 3 a]=F64 (CTp L n) L a:=by rw[<-e64];exact cg (x:=ii64) (by kernel_rfl) (by kernel_rfl) L n _
def B65x0:Rt:=
 obL [.rc 2] (c 104 [yR 1 (G.Y.mk [108,105,115,112] [110,105,108])]) λ(a:G.O×Unit)=>
 some [yR 2 a.1]
def s65x0:fA (xF ii65 c e)=B65x0 c:=by kernel_rfl
def F65(L:Nat):Rt:=B65x0 c
def e65:fA (xF ii65 c (cu c L))=F65 c L:=s65x0 _ _
def c65(L n:Nat):CTp L (n+1) 65 []=F65 (CTp L n) L:=by rw[<-e65];exact cg (x:=ii65) (by kernel_rfl) (by kernel_rfl) L n _
def B66x0(a:G.O):Rt:=
 obL [.rc 3] (c 105 [yR 2 a]) λ(b:G.T×Unit)=>
 some [yR 3 b.1]
def s66x0:oW (xF ii66 c e)=B66x0 c:=by kernel_rfl
def F66(L:Nat):G.O->Rt:=B66x0 c
def e66:oW (xF ii66 c (cu c L))=F66 c L:=s66x0 _ _
def c66(a:G.O)(L n:Nat):CTp L (n+1) 66 [yR 2 a]=F66 (CTp L n) L a:=by rw[<-e66];exact cg (x:=ii66) (by kernel_rfl) (by kernel_rfl) L n _
def B67x0:Rt:=
 obL [.rc 2] (c 104 [yR 1 (G.Y.mk [108,105,115,112] [116])]) λ(a:G.O×Unit)=>
 some [yR 2 a.1]
def s67x0:fA (xF ii67 c e)=B67x0 c:=by kernel_rfl
def F67(L:Nat):Rt:=B67x0 c
def e67:fA (xF ii67 c (cu c L))=F67 c L:=s67x0 _ _
def c67(L n:Nat):CTp L (n+1) 67 []=F67 (CTp L n) L:=by rw[<-e67];exact cg (x:=ii67) (by kernel_rfl) (by kernel_rfl) L n _
def B68x0(a:List G.T):Rt:=
 obL [zS 1] (c 106 [yS 3 a,yI 1]) λ(b:List G.Y×Unit)=>
 some [yS 1 b.1]
def s68x0:vX (xF ii68 c e)=B68x0 c:=by kernel_rfl
def F68(L:Nat):List G.T->Rt:=B68x0 c
def e68:vX (xF ii68 c (cu c L))=F68 c L:=s68x0 _ _
def c68(a:List G.T)(L n:Nat):CTp L (n+1) 68 [yS 3 a]=F68 (CTp L n) L a:=by rw[<-e68];exact cg (x:=ii68) (by kernel_rfl) (by kernel_rfl) L n _
def q69x0(c:TC0)(e:Cu):Kt:=xK ii69
def q69x1:Kt:=xT ii69 c e [1,1] (q69x0 c e)
def q69x2:Kt:=bH U0 0 (q69x1 c e)
def B69x0(c:TC0)(b:Int->List G.Y->List G.Y->Int->Rt)(a:List G.Y)(d:List G.Y):Rt:=
 b (List.length a:Int) a d 0
def B69x1(g:Int->List G.Y->List G.Y->Int->Rt)(b:Int)(d:List G.Y)(f:List G.Y)(a:Int):Rt:=
 cnd (decide (a<b)) (ob (idx d a) λh=>
 obL [.bool] (c 72 [yS 1 f,yR 1 h]) λ(i:Bool×Unit)=>
 cnd (!i.1) (some [yB false]) (g b d f (IntKind.i64.wrap (a+1)))) (some [yB true])
def V69x1(n:Nt):Int->List G.Y->List G.Y->Int->Rt:=λx0 x1 x2 x3=>n [yI x0,yS 1 x1,yS 1 x2,yI x3]
def X69x1:=V69x1 (xE ii69 e (pw 5 5) aB7 (q69x2 c e))
def s69x0:V69x0 (xF ii69 c e)=B69x0 c (X69x1 c e):=by kernel_rfl
def s69x1(n1:Nt):V69x1 (xA ii69 c e (pw 5 5) aB7 (lpK U0 aB7 n1 (q69x2 c e)))=B69x1 c (V69x1 n1):=by kernel_rfl
def aEQ(c:TC0)(L:Nat):Nat->Int->List G.Y->List G.Y->Int->Rt
 |0=>λ_ _ _ _=>none
 |n+1=>B69x1 c (aEQ c L n)
def u69x1(n:Nat):V69x1 (xL ii69 c L (pw 5 5) aB7 (q69x2 c (cu c L)) n)=aEQ c L n:=by
 induction n with
 |zero=>rfl
 |succ n ih=>rw[dD,s69x1];simp only[ih];rfl
def w69x1:X69x1 c (cu c L)=aEQ c L L:=u69x1 c L L
def F69:List G.Y->List G.Y->Rt:=B69x0 c (aEQ c L L)
def e69:V69x0 (xF ii69 c (cu c L))=F69 c L:=by rw[s69x0];simp only[w69x1];rfl
def c69(a:List G.Y)(b:List G.Y)(L n:Nat):CTp L (n+1) 69 [yS 1 a,yS 1 b]=F69 (CTp L n) L a b:=by rw[<-e69];exact cg (x:=ii69) (by kernel_rfl) (by kernel_rfl) L n _
def q70x0(c:TC0)(e:Cu):Kt:=xK ii70
def B70x0(a:Bool->Rt)(b:G.T)(d:G.T):Rt:=
 cnd (decide (b.kind=d.kind)) (cnd (decide (b.name=d.name)) (obL [.bool] (c 107 [yR 2 b.value,yR 2 d.value]) λ(f:Bool×Unit)=>
 cnd f.1 (obL [.bool] (c 108 [yS 3 b.args,yS 3 d.args]) λ(g:Bool×Unit)=>
 a g.1) (a false)) (a false)) (a false)
def B70x1(c:TC0)(a:Bool):Rt:=
 some [yB a]
def X70x1:=bX (xD ii70 e [1,1,0] aLw (q70x0 c e))
def s70x0:aIF (xF ii70 c e)=B70x0 c (X70x1 c e):=by kernel_rfl
def s70x1:bX (xA ii70 c e [1,1,0] aLw (q70x0 c e))=B70x1 c:=by kernel_rfl
def J70x1(L:Nat):Bool->Rt:=B70x1 c
def j70x1:X70x1 c (cu c L)=J70x1 c L:=by rw[X70x1,aK,s70x1];rfl
def F70:G.T->G.T->Rt:=B70x0 c (J70x1 c L)
def e70:aIF (xF ii70 c (cu c L))=F70 c L:=by rw[s70x0];simp only[j70x1];rfl
def c70(a:G.T)(b:G.T)(L n:Nat):CTp L (n+1) 70 [yR 3 a,yR 3 b]=F70 (CTp L n) L a b:=by rw[<-e70];exact cg (x:=ii70) (by kernel_rfl) (by kernel_rfl) L n _
def B71x0(b:G.T)(d:G.T)(f:List G.I):Rt:=
 obL [zS 7,.bool] (c 109 [yS 3 ([b]:List G.T),yS 3 ([d]:List G.T),yS 7 f]) λ(a:List G.I×Bool×Unit)=>
 cnd a.2.1 (some [yS 7 a.1,yB true]) (some [yS 7 a.1,yB false])
def s71x0:aIE (xF ii71 c e)=B71x0 c:=by kernel_rfl
def F71(L:Nat):G.T->G.T->List G.I->Rt:=B71x0 c
def e71:aIE (xF ii71 c (cu c L))=F71 c L:=s71x0 _ _
def c71(a:G.T)(b:G.T)(d:List G.I)(L n:Nat):CTp L (n+1) 71 [yR 3 a,yR 3 b,yS 7 d]=F71 (CTp L n) L a b d:=by rw[<-e71];exact cg (x:=ii71) (by kernel_rfl) (by kernel_rfl) L n _
def q72x0(c:TC0)(e:Cu):Kt:=xK ii72
def q72x1:Kt:=xT ii72 c e [1,1] (q72x0 c e)
def q72x2:Kt:=bH U0 0 (q72x1 c e)
def B72x0(c:TC0)(b:Int->List G.Y->Int->G.Y->Rt)(a:List G.Y)(d:G.Y):Rt:=
 b (List.length a:Int) a 0 d
def B72x1(c:TC0)(g:Int->List G.Y->Int->G.Y->Rt)(b:Int)(d:List G.Y)(a:Int)(f:G.Y):Rt:=
 cnd (decide (a<b)) (ob (idx d a) λh=>
 cnd (decide (h=f)) (some [yB true]) (g b d (IntKind.i64.wrap (a+1)) f)) (some [yB false])
def X72x1:=aCG (xE ii72 e (pw 5 5) aB5 (q72x2 c e))
def s72x0:vW (xF ii72 c e)=B72x0 c (X72x1 c e):=by kernel_rfl
def s72x1(n1:Nt):aCG (xA ii72 c e (pw 5 5) aB5 (lpK U0 aB5 n1 (q72x2 c e)))=B72x1 c (aCG n1):=by kernel_rfl
def aEO(c:TC0)(L:Nat):Nat->Int->List G.Y->Int->G.Y->Rt
 |0=>λ_ _ _ _=>none
 |n+1=>B72x1 c (aEO c L n)
def u72x1(n:Nat):aCG (xL ii72 c L (pw 5 5) aB5 (q72x2 c (cu c L)) n)=aEO c L n:=by
 induction n with
 |zero=>rfl
 |succ n ih=>rw[dD,s72x1];simp only[ih];rfl
def w72x1:X72x1 c (cu c L)=aEO c L L:=u72x1 c L L
def F72:List G.Y->G.Y->Rt:=B72x0 c (aEO c L L)
def e72:vW (xF ii72 c (cu c L))=F72 c L:=by rw[s72x0];simp only[w72x1];rfl
def c72(a:List G.Y)(b:G.Y)(L n:Nat):CTp L (n+1) 72 [yS 1 a,yR 1 b]=F72 (CTp L n) L a b:=by rw[<-e72];exact cg (x:=ii72) (by kernel_rfl) (by kernel_rfl) L n _
def B73x0(c:TC0)(a:G.Y):Rt:=
 cnd (!decide (a.package=[108,105,115,112])) (some [yI 0,yB false]) (cnd (decide (a.name=[99,111,110,115,112])) (some [yI 1536,yB true]) (cnd (decide (a.name=[115,121,109,98,111,108,112])) (some [yI 224,yB true]) (cnd (decide (a.name=[115,116,114,105,110,103,112])) (some [yI 256,yB true]) (cnd (decide (a.name=[114,97,116,105,111,110,97,108,112])) (some [yI 31,yB true]) (cnd (decide (a.name=[105,110,116,101,103,101,114,112])) (some [yI 7,yB true]) (cnd (decide (a.name=[110,111,116])) (some [yI 32,yB true]) (some [yI 0,yB false])))))))
def s73x0:eS (xF ii73 c e)=B73x0 c:=by kernel_rfl
def F73(L:Nat):G.Y->Rt:=B73x0 c
def e73:eS (xF ii73 c (cu c L))=F73 c L:=s73x0 _ _
def c73(a:G.Y)(L n:Nat):CTp L (n+1) 73 [yR 1 a]=F73 (CTp L n) L a:=by rw[<-e73];exact cg (x:=ii73) (by kernel_rfl) (by kernel_rfl) L n _
def q74x0(c:TC0)(e:Cu):Kt:=xK ii74
def B74x0(a:Bool->Rt)(b:G.Y):Rt:=
 obL [.bool] (c 76 [yR 1 b]) λ(d:Bool×Unit)=>
 cnd (!d.1) (obL [.rc 1] (c 51 [yT [110,111,116]]) λ(f:G.Y×Unit)=>
 a (!decide (b=f.1))) (a false)
def B74x1(c:TC0)(a:Bool):Rt:=
 some [yB a]
def X74x1:=bX (xD ii74 e [1,1,0] aLv (q74x0 c e))
def s74x0:eS (xF ii74 c e)=B74x0 c (X74x1 c e):=by kernel_rfl
def s74x1:bX (xA ii74 c e [1,1,0] aLv (q74x0 c e))=B74x1 c:=by kernel_rfl
def J74x1(L:Nat):Bool->Rt:=B74x1 c
def j74x1:X74x1 c (cu c L)=J74x1 c L:=by rw[X74x1,aK,s74x1];rfl
def F74:G.Y->Rt:=B74x0 c (J74x1 c L)
def e74:eS (xF ii74 c (cu c L))=F74 c L:=by rw[s74x0];simp only[j74x1];rfl
def c74(a:G.Y)(L n:Nat):CTp L (n+1) 74 [yR 1 a]=F74 (CTp L n) L a:=by rw[<-e74];exact cg (x:=ii74) (by kernel_rfl) (by kernel_rfl) L n _
def q75x0(c:TC0)(e:Cu):Kt:=xK aKV
def q75x1:Kt:=xT aKV c e [1,1,1] (q75x0 c e)
def q75x2:Kt:=bH U0 0 (q75x1 c e)
def B75x0(c:TC0)(b:Int->List G.T->Int->List G.T->Rt)(d:List G.T->Rt)(a:G.T):Rt:=
 cnd (decide (a.kind=3)) (b (List.length a.args:Int) a.args 0 ([a]:List G.T)) (d ([a]:List G.T))
def B75x1(h:Int->List G.T->Int->List G.T->Rt)(i:List G.T->Rt)(d:Int)(f:List G.T)(a:Int)(b:List G.T):Rt:=
 cnd (decide (a<d)) (ob (idx f a) λj=>
 obL [zS 3] (c 75 [yR 3 j]) λ(g:List G.T×Unit)=>
 chk (Nat.ble ((List.length b+List.length g.1)*176) 1073741824)<|
 h d f (IntKind.i64.wrap (a+1)) (b++g.1)) (i b)
def V75x1(n:Nt):Int->List G.T->Int->List G.T->Rt:=λx0 x1 x2 x3=>n [yI x0,yS 3 x1,yI x2,yS 3 x3]
def X75x1:=V75x1 (xE aKV e (pw 8 43) aB4 (q75x2 c e))
def B75x2(c:TC0)(a:List G.T):Rt:=
 some [yS 3 a]
def X75x2:=vX (xD aKV e (pw 4 7) aLu (q75x0 c e))
def s75x0:gD (xF aKV c e)=B75x0 c (X75x1 c e) (X75x2 c e):=by kernel_rfl
def s75x1(n1:Nt):V75x1 (xA aKV c e (pw 8 43) aB4 (lpK U0 aB4 n1 (q75x2 c e)))=B75x1 c (V75x1 n1) (X75x2 c e):=by kernel_rfl
def s75x2:vX (xA aKV c e (pw 4 7) aLu (q75x0 c e))=B75x2 c:=by kernel_rfl
def J75x2(L:Nat):List G.T->Rt:=B75x2 c
def j75x2:X75x2 c (cu c L)=J75x2 c L:=by rw[X75x2,aK,s75x2];rfl
def aEN(c:TC0)(L:Nat):Nat->Int->List G.T->Int->List G.T->Rt
 |0=>λ_ _ _ _=>none
 |n+1=>B75x1 c (aEN c L n) (J75x2 c L)
def u75x1(n:Nat):V75x1 (xL aKV c L (pw 8 43) aB4 (q75x2 c (cu c L)) n)=aEN c L n:=by
 induction n with
 |zero=>rfl
 |succ n ih=>rw[dD,s75x1];simp only[j75x2,ih];rfl
def w75x1:X75x1 c (cu c L)=aEN c L L:=u75x1 c L L
def F75:G.T->Rt:=B75x0 c (aEN c L L) (J75x2 c L)
def e75:gD (xF aKV c (cu c L))=F75 c L:=by rw[s75x0];simp only[w75x1,j75x2];rfl
def c75(a:G.T)(L n:Nat):CTp L (n+1) 75 [yR 3 a]=F75 (CTp L n) L a:=by rw[<-e75];exact cg (x:=aKV) (by kernel_rfl) (by kernel_rfl) L n _
def B76x0(a:G.Y):Rt:=
 obL [i6,.bool] (c 110 [yR 1 a]) λ(b:Int×Bool×Unit)=>
 some [yB b.2.1]
def s76x0:eS (xF ii76 c e)=B76x0 c:=by kernel_rfl
def F76(L:Nat):G.Y->Rt:=B76x0 c
def e76:eS (xF ii76 c (cu c L))=F76 c L:=s76x0 _ _
def c76(a:G.Y)(L n:Nat):CTp L (n+1) 76 [yR 1 a]=F76 (CTp L n) L a:=by rw[<-e76];exact cg (x:=ii76) (by kernel_rfl) (by kernel_rfl) L n _
def q77x0(c:TC0)(e:Cu):Kt:=xK ii77
def q77x1:Kt:=xT ii77 c e [1,1] (q77x0 c e)
def q77x2:Kt:=bH U0 0 (q77x1 c e)
def B77x0(c:TC0)(b:Int->List G.T->Int->G.T->Rt)(a:List G.T)(d:G.T):Rt:=
 b (List.length a:Int) a 0 d
def B77x1(g:Int->List G.T->Int->G.T->Rt)(b:Int)(d:List G.T)(a:Int)(f:G.T):Rt:=
 cnd (decide (a<b)) (ob (idx d a) λh=>
 obL [.bool] (c 70 [yR 3 h,yR 3 f]) λ(i:Bool×Unit)=>
 cnd i.1 (some [yB true]) (g b d (IntKind.i64.wrap (a+1)) f)) (some [yB false])
def V77x1(n:Nt):Int->List G.T->Int->G.T->Rt:=λx0 x1 x2 x3=>n [yI x0,yS 3 x1,yI x2,yR 3 x3]
def X77x1:=V77x1 (xE ii77 e (pw 5 5) aB3 (q77x2 c e))
def s77x0:aID (xF ii77 c e)=B77x0 c (X77x1 c e):=by kernel_rfl
def s77x1(n1:Nt):V77x1 (xA ii77 c e (pw 5 5) aB3 (lpK U0 aB3 n1 (q77x2 c e)))=B77x1 c (V77x1 n1):=by kernel_rfl
def aEM(c:TC0)(L:Nat):Nat->Int->List G.T->Int->G.T->Rt
 |0=>λ_ _ _ _=>none
 |n+1=>B77x1 c (aEM c L n)
def u77x1(n:Nat):V77x1 (xL ii77 c L (pw 5 5) aB3 (q77x2 c (cu c L)) n)=aEM c L n:=by
 induction n with
 |zero=>rfl
 |succ n ih=>rw[dD,s77x1];simp only[ih];rfl
def w77x1:X77x1 c (cu c L)=aEM c L L:=u77x1 c L L
def F77:List G.T->G.T->Rt:=B77x0 c (aEM c L L)
def e77:aID (xF ii77 c (cu c L))=F77 c L:=by rw[s77x0];simp only[w77x1];rfl
def c77(a:List G.T)(b:G.T)(L n:Nat):CTp L (n+1) 77 [yS 3 a,yR 3 b]=F77 (CTp L n) L a b:=by rw[<-e77];exact cg (x:=ii77) (by kernel_rfl) (by kernel_rfl) L n _
def B78x0(b:List G.E)(d:G.Y):Rt:=
 obL [i6,i6,.bool] (c 111 [yS 16 b,yR 1 d]) λ(a:Int×Int×Bool×Unit)=>
 cnd (!a.2.2.1) (some [yR 8 zqF,yB false]) (ob (idx b a.1) λf=>
 obL [zS 8] (c 112 [yR 16 f]) λ(g:List G.F×Unit)=>
 ob (idx g.1 a.2.1) λh=>
 some [yR 8 h,yB true])
def s78x0:lN (xF ii78 c e)=B78x0 c:=by kernel_rfl
def F78(L:Nat):List G.E->G.Y->Rt:=B78x0 c
def e78:lN (xF ii78 c (cu c L))=F78 c L:=s78x0 _ _
def c78(a:List G.E)(b:G.Y)(L n:Nat):CTp L (n+1) 78 [yS 16 a,yR 1 b]=F78 (CTp L n) L a b:=by rw[<-e78];exact cg (x:=ii78) (by kernel_rfl) (by kernel_rfl) L n _
def B79x0(o:G.Y):Rt:=
 obL [.rc 1] (c 51 [yT [120]]) λ(p:G.Y×Unit)=>
 obL [.rc 3] (c 113 [yR 1 p.1]) λ(a:G.T×Unit)=>
 obL [.rc 1] (c 51 [yT [121]]) λ(q:G.Y×Unit)=>
 obL [.rc 3] (c 113 [yR 1 q.1]) λ(b:G.T×Unit)=>
 obL [.rc 1] (c 51 [yT [122]]) λ(s:G.Y×Unit)=>
 obL [.rc 3] (c 113 [yR 1 s.1]) λ(f:G.T×Unit)=>
 obL [.rc 2] (c 65 []) λ(t:G.O×Unit)=>
 obL [.rc 3] (c 66 [yR 2 t.1]) λ(d:G.T×Unit)=>
 obL [.rc 3,.rc 1] (c 114 [yR 3 a.1,yR 3 b.1,yR 1 o]) λ(g:G.T×G.Y×Unit)=>
 obL [.rc 3,.rc 1] (c 114 [yR 3 b.1,yR 3 a.1,yR 1 g.2.1]) λ(h:G.T×G.Y×Unit)=>
 obL [.rc 3] (c 115 [yT [105,109,112,108,105,101,115],yS 3 ([g.1,h.1]:List G.T)]) λ(u:G.T×Unit)=>
 obL [.rc 3,.rc 1] (c 114 [yR 3 a.1,yR 3 b.1,yR 1 h.2.1]) λ(i:G.T×G.Y×Unit)=>
 obL [.rc 3,.rc 1] (c 114 [yR 3 b.1,yR 3 f.1,yR 1 i.2.1]) λ(j:G.T×G.Y×Unit)=>
 obL [.rc 3] (c 115 [yT [105,102],yS 3 ([i.1,j.1,d.1]:List G.T)]) λ(v:G.T×Unit)=>
 obL [.rc 3,.rc 1] (c 114 [yR 3 a.1,yR 3 f.1,yR 1 j.2.1]) λ(l:G.T×G.Y×Unit)=>
 obL [.rc 3] (c 115 [yT [105,109,112,108,105,101,115],yS 3 ([v.1,l.1]:List G.T)]) λ(w:G.T×Unit)=>
 obL [.rc 3,.rc 1] (c 114 [yR 3 a.1,yR 3 a.1,yR 1 l.2.1]) λ(m:G.T×G.Y×Unit)=>
 obL [.rc 3] (c 115 [yT [105,102],yS 3 ([u.1,w.1,d.1]:List G.T)]) λ(x:G.T×Unit)=>
 obL [.rc 3] (c 115 [yT [105,102],yS 3 ([m.1,x.1,d.1]:List G.T)]) λ(y:G.T×Unit)=>
 obL [.rc 3,.rc 1] (c 114 [yR 3 a.1,yR 3 b.1,yR 1 m.2.1]) λ(z:G.T×G.Y×Unit)=>
 obL [.rc 3] (c 115 [yT [98,111,111,108,101,97,110,112],yS 3 ([z.1]:List G.T)]) λ(A:G.T×Unit)=>
 obL [.rc 3] (c 115 [yT [105,102],yS 3 ([A.1,y.1,d.1]:List G.T)]) λ(B:G.T×Unit)=>
 some [yR 3 B.1]
def s79x0:eS (xF ii79 c e)=B79x0 c:=by kernel_rfl
def F79(L:Nat):G.Y->Rt:=B79x0 c
def e79:eS (xF ii79 c (cu c L))=F79 c L:=s79x0 _ _
def c79(a:G.Y)(L n:Nat):CTp L (n+1) 79 [yR 1 a]=F79 (CTp L n) L a:=by rw[<-e79];exact cg (x:=ii79) (by kernel_rfl) (by kernel_rfl) L n _
def B80x0(a:G.T)(b:G.T)(d:G.T):Rt:=
 obL [.bool] (c 70 [yR 3 a,yR 3 b]) λ(f:Bool×Unit)=>
 cnd f.1 (some [yR 3 d]) (obL [.rc 3,.rc 3,.rc 3] (c 116 [yR 3 a,yR 3 b,yR 3 d]) λ(g:G.T×G.T×G.T×Unit)=>
 some [yR 3 g.1])
def s80x0:aCF (xF ii80 c e)=B80x0 c:=by kernel_rfl
def F80(L:Nat):G.T->G.T->G.T->Rt:=B80x0 c
def e80:aCF (xF ii80 c (cu c L))=F80 c L:=s80x0 _ _
def c80(a:G.T)(b:G.T)(d:G.T)(L n:Nat):CTp L (n+1) 80 [yR 3 a,yR 3 b,yR 3 d]=F80 (CTp L n) L a b d:=by rw[<-e80];exact cg (x:=ii80) (by kernel_rfl) (by kernel_rfl) L n _
def q81x0(c:TC0)(e:Cu):Kt:=xK ii81
def q81x1:Kt:=xT ii81 c e [1,1] (q81x0 c e)
def B81x0(b:Bool->G.T->Rt)(a:G.T):Rt:=
 obL [.bool] (c 34 [yR 3 a,yT [105,102],yI 3]) λ(d:Bool×Unit)=>
 cnd d.1 (ob (idx a.args 2) λf=>
 obL [.bool] (c 117 [yR 3 f]) λ(g:Bool×Unit)=>
 b g.1 a) (b false a)
def B81x1(f:Bool)(a:G.T):Rt:=
 cnd f (ob (idx a.args 0) λg=>
 ob (idx a.args 1) λh=>
 obL [zS 3] (c 81 [yR 3 g]) λ(b:List G.T×Unit)=>
 obL [zS 3] (c 81 [yR 3 h]) λ(d:List G.T×Unit)=>
 chk (Nat.ble ((List.length b.1+List.length d.1)*176) 1073741824)<|
 some [yS 3 (b.1++d.1)]) (some [yS 3 ([a]:List G.T)])
def X81x1:=aIG (xD ii81 e (pw 4 5) aLr (q81x1 c e))
def s81x0:gD (xF ii81 c e)=B81x0 c (X81x1 c e):=by kernel_rfl
def s81x1:aIG (xA ii81 c e (pw 4 5) aLr (q81x1 c e))=B81x1 c:=by kernel_rfl
def J81x1(L:Nat):Bool->G.T->Rt:=B81x1 c
def j81x1:X81x1 c (cu c L)=J81x1 c L:=by rw[X81x1,aK,s81x1];rfl
def F81:G.T->Rt:=B81x0 c (J81x1 c L)
def e81:gD (xF ii81 c (cu c L))=F81 c L:=by rw[s81x0];simp only[j81x1];rfl
def c81(a:G.T)(L n:Nat):CTp L (n+1) 81 [yR 3 a]=F81 (CTp L n) L a:=by rw[<-e81];exact cg (x:=ii81) (by kernel_rfl) (by kernel_rfl) L n _
def B82x0(c:TC0)(a:G.T):Rt:=
 cnd (!decide (a.kind=3)) (some [yS 3 ([]:List G.T)]) (some [yS 3 a.args])
def s82x0:gD (xF ii82 c e)=B82x0 c:=by kernel_rfl
def F82(L:Nat):G.T->Rt:=B82x0 c
def e82:gD (xF ii82 c (cu c L))=F82 c L:=s82x0 _ _
def c82(a:G.T)(L n:Nat):CTp L (n+1) 82 [yR 3 a]=F82 (CTp L n) L a:=by rw[<-e82];exact cg (x:=ii82) (by kernel_rfl) (by kernel_rfl) L n _
def q83x0(c:TC0)(e:Cu):Kt:=xK ii83
def q83x1:Kt:=xT ii83 c e [1,1] (q83x0 c e)
def q83x2:Kt:=bH U0 0 (q83x1 c e)
def B83x0(c:TC0)(a:List G.Y->Int->G.Y->Rt)(b:List G.Y)(d:G.Y):Rt:=
 a b 0 d
def B83x1(c:TC0)(f:List G.Y->Int->G.Y->Rt)(a:List G.Y)(b:Int)(d:G.Y):Rt:=
 cnd (decide (b<(List.length a:Int))) (ob (idx a b) λg=>
 cnd (decide (g=d)) (some [yB true]) (f a (IntKind.i64.wrap (b+1)) d)) (some [yB false])
def X83x1:=aCE (xE ii83 e (pw 5 5) aB2 (q83x2 c e))
def s83x0:vW (xF ii83 c e)=B83x0 c (X83x1 c e):=by kernel_rfl
def s83x1(n1:Nt):aCE (xA ii83 c e (pw 5 5) aB2 (lpK U0 aB2 n1 (q83x2 c e)))=B83x1 c (aCE n1):=by kernel_rfl
def aEL(c:TC0)(L:Nat):Nat->List G.Y->Int->G.Y->Rt
 |0=>λ_ _ _=>none
 |n+1=>B83x1 c (aEL c L n)
def u83x1(n:Nat):aCE (xL ii83 c L (pw 5 5) aB2 (q83x2 c (cu c L)) n)=aEL c L n:=by
 induction n with
 |zero=>rfl
 |succ n ih=>rw[dD,s83x1];simp only[ih];rfl
def w83x1:X83x1 c (cu c L)=aEL c L L:=u83x1 c L L
def F83:List G.Y->G.Y->Rt:=B83x0 c (aEL c L L)
def e83:vW (xF ii83 c (cu c L))=F83 c L:=by rw[s83x0];simp only[w83x1];rfl
def c83(a:List G.Y)(b:G.Y)(L n:Nat):CTp L (n+1) 83 [yS 1 a,yR 1 b]=F83 (CTp L n) L a b:=by rw[<-e83];exact cg (x:=ii83) (by kernel_rfl) (by kernel_rfl) L n _
def q84x0(c:TC0)(e:Cu):Kt:=xK ii84
def q84x1:Kt:=xT ii84 c e (pw 5 31) (q84x0 c e)
def q84x2:Kt:=bH U0 0 (q84x1 c e)
def B84x0(f:Int->List G.T->G.T->G.T->G.T->G.T->Rt)(a:G.T)(b:G.T)(d:G.T):Rt:=
 obL [.bool] (c 43 [yR 3 a,yR 3 b]) λ(g:Bool×Unit)=>
 cnd g.1 (some [yR 3 d]) (cnd (!decide (a.kind=3)) (some [yR 3 a]) (f 0 ([]:List G.T) b d a zqT))
def B84x1(i:Int->List G.T->G.T->G.T->G.T->G.T->Rt)(b:Int)(d:List G.T)(f:G.T)(g:G.T)(a:G.T)(j:G.T):Rt:=
 cnd (decide (b<(List.length a.args:Int))) (ob (idx a.args b) λl=>
 obL [.rc 3] (c 84 [yR 3 l,yR 3 f,yR 3 g]) λ(h:G.T×Unit)=>
 chk (Nat.ble ((List.length d+List.length ([h.1]:List G.T))*176) 1073741824)<|
 i (IntKind.i64.wrap (b+1)) (d++([h.1]:List G.T)) f g a j) (obL [.rc 3] (c 20 [yR 1 a.name,yS 3 d]) λ(m:G.T×Unit)=>
 some [yR 3 m.1])
def V84x1(n:Nt):Int->List G.T->G.T->G.T->G.T->G.T->Rt:=λx0 x1 x2 x3 x4 x5=>n [yI x0,yS 3 x1,yR 3 x2,yR 3 x3,yR 3 x4,yR 3 x5]
def X84x1:=V84x1 (xE ii84 e (pw 8 47) aB1 (q84x2 c e))
def s84x0:aCF (xF ii84 c e)=B84x0 c (X84x1 c e):=by kernel_rfl
def s84x1(n1:Nt):V84x1 (xA ii84 c e (pw 8 47) aB1 (lpK U0 aB1 n1 (q84x2 c e)))=B84x1 c (V84x1 n1):=by kernel_rfl
def aEK(c:TC0)(L:Nat):Nat->Int->List G.T->G.T->G.T->G.T->G.T->Rt
 |0=>λ_ _ _ _ _ _=>none
 |n+1=>B84x1 c (aEK c L n)
def u84x1(n:Nat):V84x1 (xL ii84 c L (pw 8 47) aB1 (q84x2 c (cu c L)) n)=aEK c L n:=by
 induction n with
 |zero=>rfl
 |succ n ih=>rw[dD,s84x1];simp only[ih];rfl
def w84x1:X84x1 c (cu c L)=aEK c L L:=u84x1 c L L
def F84:G.T->G.T->G.T->Rt:=B84x0 c (aEK c L L)
def e84:aCF (xF ii84 c (cu c L))=F84 c L:=by rw[s84x0];simp only[w84x1];rfl
def c84(a:G.T)(b:G.T)(d:G.T)(L n:Nat):CTp L (n+1) 84 [yR 3 a,yR 3 b,yR 3 d]=F84 (CTp L n) L a b d:=by rw[<-e84];exact cg (x:=ii84) (by kernel_rfl) (by kernel_rfl) L n _
def aH2(c:TC0)(e:Cu):Kt:=xK xB
def q85x1:Kt:=xT xB c e [1,1,1] (aH2 c e)
def q85x2:Kt:=bH U0 0 (q85x1 c e)
def q85x3(n1:Nt):Kt:=lpK U0 xQ n1 (q85x2 c e)
def q85x4(n1:Nt):Kt:=xT xB c e (pw 7 75) (q85x3 c e n1)
def q85x5:Kt:=xT xB c e (pw 6 47) (aH2 c e)
def q85x6:Kt:=bH U0 2 (q85x5 c e)
def B85x0(c:TC0)(a:Int->Bool->List G.T->G.T->Rt)(b:List G.T)(d:G.T):Rt:=
 a 0 false b d
def aOh(c:TC0)(f:Bool->Int->Bool->List G.T->G.T->Rt)(a:Int)(b:Bool)(d:List G.T)(g:G.T):Rt:=
 cnd (decide (a<(List.length d:Int))) (f (!b) a b d g) (f false a b d g)
def aNI(n:Nt):Int->Bool->List G.T->G.T->Rt:=λx0 x1 x2 x3=>n [yI x0,yB x1,yS 3 x2,yR 3 x3]
def X85x1:=aNI (xE xB e (pw 6 11) xQ (q85x2 c e))
def aOg(g:Int->Bool->List G.T->G.T->Rt)(d:List G.T->G.T->Rt)(h:Bool)(f:Int)(i:Bool)(b:List G.T)(a:G.T):Rt:=
 cnd h (ob (idx b f) λj=>
 obL [.bool] (c 43 [yR 3 j,yR 3 a]) λ(l:Bool×Unit)=>
 g (IntKind.i64.wrap (f+1)) l.1 b a) (cnd (!i) (chk (Nat.ble ((List.length b+List.length ([a]:List G.T))*176) 1073741824)<|
 d (b++([a]:List G.T)) a) (d b a))
def V85x2(n:Nt):Bool->Int->Bool->List G.T->G.T->Rt:=λx0 x1 x2 x3 x4=>n [yB x0,yI x1,yB x2,yS 3 x3,yR 3 x4]
def X85x2(n1:Nt):=V85x2 (xD xB e (pw 9 139) aLq (q85x4 c e n1))
def B85x3(c:TC0)(d:Int->List G.T->G.T->Rt)(f:List G.T->Rt)(a:List G.T)(b:G.T):Rt:=
 cnd (decide (b.kind=3)) (d 0 a b) (f a)
def X85x3:=aID (xD xB e (pw 5 15) aLp (aH2 c e))
def B85x4(f:Int->List G.T->G.T->Rt)(g:List G.T->Rt)(a:Int)(d:List G.T)(b:G.T):Rt:=
 cnd (decide (a<(List.length b.args:Int))) (ob (idx b.args a) λh=>
 obL [zS 3] (c 85 [yS 3 d,yR 3 h]) λ(i:List G.T×Unit)=>
 f (IntKind.i64.wrap (a+1)) i.1 b) (g d)
def V85x4(n:Nt):Int->List G.T->G.T->Rt:=λx0 x1 x2=>n [yI x0,yS 3 x1,yR 3 x2]
def X85x4:=V85x4 (xE xB e (pw 11 335) aB0 (q85x6 c e))
def B85x5(c:TC0)(a:List G.T):Rt:=
 some [yS 3 a]
def X85x5:=vX (xD xB e (pw 7 47) aLo (aH2 c e))
def s85x0:aID (xF xB c e)=B85x0 c (X85x1 c e):=by kernel_rfl
def s85x1(n1:Nt):aNI (xA xB c e (pw 6 11) xQ (lpK U0 xQ n1 (q85x2 c e)))=aOh c (X85x2 c e n1):=by kernel_rfl
def s85x2(n1:Nt):V85x2 (xA xB c e (pw 9 139) aLq (q85x4 c e n1))=aOg c (aNI n1) (X85x3 c e):=by kernel_rfl
def s85x3:aID (xA xB c e (pw 5 15) aLp (aH2 c e))=B85x3 c (X85x4 c e) (X85x5 c e):=by kernel_rfl
def s85x4(n4:Nt):V85x4 (xA xB c e (pw 11 335) aB0 (lpK U0 aB0 n4 (q85x6 c e)))=B85x4 c (V85x4 n4) (X85x5 c e):=by kernel_rfl
def s85x5:vX (xA xB c e (pw 7 47) aLo (aH2 c e))=B85x5 c:=by kernel_rfl
def J85x5(L:Nat):List G.T->Rt:=B85x5 c
def j85x5:X85x5 c (cu c L)=J85x5 c L:=by rw[X85x5,aK,s85x5];rfl
def aEJ(c:TC0)(L:Nat):Nat->Int->List G.T->G.T->Rt
 |0=>λ_ _ _=>none
 |n+1=>B85x4 c (aEJ c L n) (J85x5 c L)
def u85x4(n:Nat):V85x4 (xL xB c L (pw 11 335) aB0 (q85x6 c (cu c L)) n)=aEJ c L n:=by
 induction n with
 |zero=>rfl
 |succ n ih=>rw[dD,s85x4];simp only[j85x5,ih];rfl
def w85x4:X85x4 c (cu c L)=aEJ c L L:=u85x4 c L L
def aIO:List G.T->G.T->Rt:=B85x3 c (aEJ c L L) (J85x5 c L)
def j85x3:X85x3 c (cu c L)=aIO c L:=by rw[X85x3,aK,s85x3];simp only[w85x4,j85x5];rfl
def aE0(n1:Int->Bool->List G.T->G.T->Rt):Bool->Int->Bool->List G.T->G.T->Rt:=aOg c n1 (aIO c L)
def j85x2(n1:Nt):X85x2 c (cu c L) n1=aE0 c L (aNI n1):=by rw[X85x2,aK,s85x2];simp only[j85x3];rfl
def vU(c:TC0)(L:Nat):Nat->Int->Bool->List G.T->G.T->Rt
 |0=>λ_ _ _ _=>none
 |n+1=>aOh c (aE0 c L (vU c L n))
def u85x1(n:Nat):aNI (xL xB c L (pw 6 11) xQ (q85x2 c (cu c L)) n)=vU c L n:=by
 induction n with
 |zero=>rfl
 |succ n ih=>rw[dD,s85x1];simp only[j85x2,ih];rfl
def w85x1:X85x1 c (cu c L)=vU c L L:=u85x1 c L L
def F85:List G.T->G.T->Rt:=B85x0 c (vU c L L)
def e85:aID (xF xB c (cu c L))=F85 c L:=by rw[s85x0];simp only[w85x1];rfl
def c85(a:List G.T)(b:G.T)(L n:Nat):CTp L (n+1) 85 [yS 3 a,yR 3 b]=F85 (CTp L n) L a b:=by rw[<-e85];exact cg (x:=xB) (by kernel_rfl) (by kernel_rfl) L n _
end
end Go.TV
namespace Go.TV
open Go.AI Go.PI Go.Proofs
set_option maxRecDepth 20000
noncomputable section
variable(c:TC0)(e:Cu)(L:Nat)
def q107x0(c:TC0)(e:Cu):Kt:=xK mL
def aFI:Kt:=bH U0 0 (q107x0 c e)
def q107x2(n1:Nt):Kt:=lpK U0 qH n1 (aFI c e)
def q107x3(n1:Nt):Kt:=bH U0 1 (q107x2 c e n1)
def q107x4(n1:Nt):Kt:=xT mL c e (pw 5 17) (q107x3 c e n1)
def q107x5(n1:Nt):Kt:=xT mL c e (pw 8 241) (q107x3 c e n1)
def aKd(n1:Nt):Kt:=bH U0 2 (q107x5 c e n1)
def B107x0(c:TC0)(a:G.O->G.O->Rt)(b:G.O)(d:G.O):Rt:=
 a b d
def aOY(c:TC0)(d:Bool->G.O->G.O->Rt)(a:G.O)(b:G.O):Rt:=
 cnd (!decide (a.kind=b.kind)) (d true a b) (cnd (!decide (a.num=b.num)) (d true a b) (cnd (!decide (a.den=b.den)) (d true a b) (cnd (!decide (a.sym=b.sym)) (d true a b) (cnd (!decide (a.text=b.text)) (d true a b) (d (!decide ((List.length a.pair:Int)=(List.length b.pair:Int))) a b)))))
def X107x1:=kY (xE mL e [1,0,0] qH (aFI c e))
def aOX(c:TC0)(b:Int->Int->Int->G.O->G.O->Rt)(d:Bool)(a:G.O)(f:G.O):Rt:=
 cnd d (some [yB false]) (cnd (decide ((List.length a.pair:Int)=0)) (some [yB true]) (b (IntKind.i64.wrap ((List.length a.pair:Int)-1)) 0 (List.length a.pair:Int) a f))
def aND(n1:Nt):=aHu (xD mL e (pw 7 33) aEt (q107x4 c e n1))
def aHP(h:Int->Int->Int->G.O->G.O->Rt)(i:G.O->G.O->Rt)(g:Int)(a:Int)(b:Int)(d:G.O)(f:G.O):Rt:=
 cnd (decide (a<g)) (ob (idx d.pair a) λj=>
 ob (idx f.pair a) λl=>
 obL [.bool] (c 107 [yR 2 j,yR 2 l]) λ(m:Bool×Unit)=>
 cnd (!m.1) (some [yB false]) (h g (IntKind.i64.wrap (a+1)) b d f)) (ob (idx d.pair (IntKind.i64.wrap (b-1))) λo=>
 ob (idx f.pair (IntKind.i64.wrap (b-1))) λp=>
 i o p)
def aHt(n:Nt):Int->Int->Int->G.O->G.O->Rt:=λx0 x1 x2 x3 x4=>n [yI x0,yI x1,yI x2,yR 2 x3,yR 2 x4]
def X107x3(n1:Nt):=aHt (xE mL e (pw 11 369) uB (aKd c e n1))
def s107x0:kY (xF mL c e)=B107x0 c (X107x1 c e):=by kernel_rfl
def s107x1(n1:Nt):kY (xA mL c e [1,0,0] qH (lpK U0 qH n1 (aFI c e)))=aOY c (aND c e n1):=by kernel_rfl
def s107x2(n1:Nt):aHu (xA mL c e (pw 7 33) aEt (q107x4 c e n1))=aOX c (X107x3 c e n1):=by kernel_rfl
def s107x3(n3:Nt)(n1:Nt):aHt (xA mL c e (pw 11 369) uB (lpK U0 uB n3 (aKd c e n1)))=aHP c (aHt n3) (kY n1):=by kernel_rfl
def uY(c:TC0)(L:Nat)(n1:G.O->G.O->Rt):Nat->Int->Int->Int->G.O->G.O->Rt
 |0=>λ_ _ _ _ _=>none
 |n+1=>aHP c (uY c L n1 n) n1
def u107x3(n1:Nt)(n:Nat):aHt (xL mL c L (pw 11 369) uB (aKd c (cu c L) n1) n)=uY c L (kY n1) n:=by
 induction n with
 |zero=>rfl
 |succ n ih=>rw[dD,s107x3];simp only[ih];rfl
def w107x3(n1:Nt):X107x3 c (cu c L) n1=uY c L (kY n1) L:=u107x3 c L n1 L
def aOe(n1:G.O->G.O->Rt):Bool->G.O->G.O->Rt:=aOX c (uY c L n1 L)
def j107x2(n1:Nt):aND c (cu c L) n1=aOe c L (kY n1):=by rw[aND,aK,s107x2];simp only[w107x3];rfl
def rE(c:TC0)(L:Nat):Nat->G.O->G.O->Rt
 |0=>λ_ _=>none
 |n+1=>aOY c (aOe c L (rE c L n))
def u107x1(n:Nat):kY (xL mL c L [1,0,0] qH (aFI c (cu c L)) n)=rE c L n:=by
 induction n with
 |zero=>rfl
 |succ n ih=>rw[dD,s107x1];simp only[j107x2,ih];rfl
def w107x1:X107x1 c (cu c L)=rE c L L:=u107x1 c L L
def F107:G.O->G.O->Rt:=B107x0 c (rE c L L)
def e107:kY (xF mL c (cu c L))=F107 c L:=by rw[s107x0];simp only[w107x1];rfl
def c107(a:G.O)(b:G.O)(L n:Nat):CTp L (n+1) 107 [yR 2 a,yR 2 b]=F107 (CTp L n) L a b:=by rw[<-e107];exact cg (x:=mL) (by kernel_rfl) (by kernel_rfl) L n _
def q108x0(c:TC0)(e:Cu):Kt:=xK aAx
def q108x1:Kt:=xT aAx c e [1,1,1] (q108x0 c e)
def aKc:Kt:=bH U0 0 (q108x1 c e)
def aOW(c:TC0)(d:Int->List G.T->List G.T->Int->Rt)(a:List G.T)(b:List G.T):Rt:=
 cnd (!decide ((List.length a:Int)=(List.length b:Int))) (some [yB false]) (d (List.length a:Int) a b 0)
def aHO(g:Int->List G.T->List G.T->Int->Rt)(b:Int)(d:List G.T)(f:List G.T)(a:Int):Rt:=
 cnd (decide (a<b)) (ob (idx d a) λh=>
 ob (idx f a) λi=>
 obL [.bool] (c 70 [yR 3 h,yR 3 i]) λ(j:Bool×Unit)=>
 cnd (!j.1) (some [yB false]) (g b d f (IntKind.i64.wrap (a+1)))) (some [yB true])
def aHs(n:Nt):Int->List G.T->List G.T->Int->Rt:=λx0 x1 x2 x3=>n [yI x0,yS 3 x1,yS 3 x2,yI x3]
def X108x1:=aHs (xE aAx e (pw 6 11) uA (aKc c e))
def s108x0:aIH (xF aAx c e)=aOW c (X108x1 c e):=by kernel_rfl
def s108x1(n1:Nt):aHs (xA aAx c e (pw 6 11) uA (lpK U0 uA n1 (aKc c e)))=aHO c (aHs n1):=by kernel_rfl
def uX(c:TC0)(L:Nat):Nat->Int->List G.T->List G.T->Int->Rt
 |0=>λ_ _ _ _=>none
 |n+1=>aHO c (uX c L n)
def u108x1(n:Nat):aHs (xL aAx c L (pw 6 11) uA (aKc c (cu c L)) n)=uX c L n:=by
 induction n with
 |zero=>rfl
 |succ n ih=>rw[dD,s108x1];simp only[ih];rfl
def w108x1:X108x1 c (cu c L)=uX c L L:=u108x1 c L L
def F108:List G.T->List G.T->Rt:=aOW c (uX c L L)
def e108:aIH (xF aAx c (cu c L))=F108 c L:=by rw[s108x0];simp only[w108x1];rfl
def c108(a:List G.T)(b:List G.T)(L n:Nat):CTp L (n+1) 108 [yS 3 a,yS 3 b]=F108 (CTp L n) L a b:=by rw[<-e108];exact cg (x:=aAx) (by kernel_rfl) (by kernel_rfl) L n _
def q109x0(c:TC0)(e:Cu):Kt:=xK aAw
def q109x1:Kt:=xT aAw c e (pw 4 15) (q109x0 c e)
def aKb:Kt:=bH U0 0 (q109x1 c e)
def aOV(d:Int->List G.T->List G.T->Int->List G.I->Rt)(a:List G.T)(b:List G.T)(f:List G.I):Rt:=
 cnd (!decide ((List.length a:Int)=(List.length b:Int))) (some [yS 7 ([]:List G.I),yB false]) (obL [zS 7] (c 133 [yS 7 f]) λ(g:List G.I×Unit)=>
 d (List.length a:Int) a b 0 g.1)
def aHN(i:Int->List G.T->List G.T->Int->List G.I->Rt)(b:Int)(d:List G.T)(f:List G.T)(a:Int)(g:List G.I):Rt:=
 cnd (decide (a<b)) (ob (idx d a) λj=>
 ob (idx f a) λl=>
 obL [zS 7,.bool] (c 134 [yR 3 j,yR 3 l,yS 7 g]) λ(h:List G.I×Bool×Unit)=>
 cnd h.2.1 (i b d f (IntKind.i64.wrap (a+1)) h.1) (some [yS 7 ([]:List G.I),yB false])) (some [yS 7 g,yB true])
def aHq(n:Nt):Int->List G.T->List G.T->Int->List G.I->Rt:=λx0 x1 x2 x3 x4=>n [yI x0,yS 3 x1,yS 3 x2,yI x3,yS 7 x4]
def X109x1:=aHq (xE aAw e (pw 7 23) tZ (aKb c e))
def s109x0:aHr (xF aAw c e)=aOV c (X109x1 c e):=by kernel_rfl
def s109x1(n1:Nt):aHq (xA aAw c e (pw 7 23) tZ (lpK U0 tZ n1 (aKb c e)))=aHN c (aHq n1):=by kernel_rfl
def rD(c:TC0)(L:Nat):Nat->Int->List G.T->List G.T->Int->List G.I->Rt
 |0=>λ_ _ _ _ _=>none
 |n+1=>aHN c (rD c L n)
def u109x1(n:Nat):aHq (xL aAw c L (pw 7 23) tZ (aKb c (cu c L)) n)=rD c L n:=by
 induction n with
 |zero=>rfl
 |succ n ih=>rw[dD,s109x1];simp only[ih];rfl
def w109x1:X109x1 c (cu c L)=rD c L L:=u109x1 c L L
def F109:List G.T->List G.T->List G.I->Rt:=aOV c (rD c L L)
def e109:aHr (xF aAw c (cu c L))=F109 c L:=by rw[s109x0];simp only[w109x1];rfl
def c109(a:List G.T)(b:List G.T)(d:List G.I)(L n:Nat):CTp L (n+1) 109 [yS 3 a,yS 3 b,yS 7 d]=F109 (CTp L n) L a b d:=by rw[<-e109];exact cg (x:=aAw) (by kernel_rfl) (by kernel_rfl) L n _
def q110x0(c:TC0)(e:Cu):Kt:=xK vQ
def q110x1:Kt:=xT vQ c e [1,1,1] (q110x0 c e)
def aFH:Kt:=bH U0 0 (q110x1 c e)
def aOU(c:TC0)(b:Bool->List UInt8->Rt)(a:G.Y):Rt:=
 cnd (!decide (a.package=[108,105,115,112])) (some [yI 0,yB false]) (cnd (decide (a.name=[105,102])) (some [yI 3,yB true]) (cnd (decide (a.name=[101,113,117,97,108])) (b (decide (a.name=[101,113,117,97,108])) a.name) (cnd (decide (a.name=[99,111,110,115])) (b (decide (a.name=[99,111,110,115])) a.name) (cnd (decide (a.name=[98,105,110,97,114,121,45,43])) (b (decide (a.name=[98,105,110,97,114,121,45,43])) a.name) (cnd (decide (a.name=[98,105,110,97,114,121,45,42])) (b (decide (a.name=[98,105,110,97,114,121,45,42])) a.name) (cnd (decide (a.name=[60])) (b (decide (a.name=[60])) a.name) (cnd (decide (a.name=[105,110,116,101,114,110])) (b (decide (a.name=[105,110,116,101,114,110])) a.name) (cnd (decide (a.name=[115,116,114,105,110,103,45,97,112,112,101,110,100])) (b (decide (a.name=[115,116,114,105,110,103,45,97,112,112,101,110,100])) a.name) (b (decide (a.name=[115,116,114,105,110,103,45,98,121,116,101])) a.name)))))))))
def aOT(c:TC0)(b:Bool->Rt)(d:Bool)(a:List UInt8):Rt:=
 cnd d (some [yI 2,yB true]) (cnd (decide (a=[99,97,114])) (b (decide (a=[99,97,114]))) (cnd (decide (a=[99,100,114])) (b (decide (a=[99,100,114]))) (cnd (decide (a=[99,111,110,115,112])) (b (decide (a=[99,111,110,115,112]))) (cnd (decide (a=[115,121,109,98,111,108,112])) (b (decide (a=[115,121,109,98,111,108,112]))) (cnd (decide (a=[115,116,114,105,110,103,112])) (b (decide (a=[115,116,114,105,110,103,112]))) (cnd (decide (a=[114,97,116,105,111,110,97,108,112])) (b (decide (a=[114,97,116,105,111,110,97,108,112]))) (cnd (decide (a=[105,110,116,101,103,101,114,112])) (b (decide (a=[105,110,116,101,103,101,114,112]))) (cnd (decide (a=[117,110,97,114,121,45,45])) (b (decide (a=[117,110,97,114,121,45,45]))) (cnd (decide (a=[117,110,97,114,121,45,47])) (b (decide (a=[117,110,97,114,121,45,47]))) (cnd (decide (a=[110,117,109,101,114,97,116,111,114])) (b (decide (a=[110,117,109,101,114,97,116,111,114]))) (cnd (decide (a=[100,101,110,111,109,105,110,97,116,111,114])) (b (decide (a=[100,101,110,111,109,105,110,97,116,111,114]))) (cnd (decide (a=[102,108,111,111,114])) (b (decide (a=[102,108,111,111,114]))) (cnd (decide (a=[115,121,109,98,111,108,45,110,97,109,101])) (b (decide (a=[115,121,109,98,111,108,45,110,97,109,101]))) (cnd (decide (a=[115,121,109,98,111,108,45,112,97,99,107,97,103,101,45,110,97,109,101])) (b (decide (a=[115,121,109,98,111,108,45,112,97,99,107,97,103,101,45,110,97,109,101]))) (cnd (decide (a=[115,116,114,105,110,103,45,108,101,110,103,116,104])) (b (decide (a=[115,116,114,105,110,103,45,108,101,110,103,116,104]))) (b (decide (a=[98,121,116,101,45,115,116,114,105,110,103]))))))))))))))))))
def aNC:=aHp (xD vQ e (pw 9 235) aEs (aFH c e))
def aOS(c:TC0)(a:Bool):Rt:=
 cnd a (some [yI 1,yB true]) (some [yI 0,yB false])
def aNB:=bX (xD vQ e (pw 12 1771) aEr (aFH c e))
def s110x0:eS (xF vQ c e)=aOU c (aNC c e):=by kernel_rfl
def s110x1:aHp (xA vQ c e (pw 9 235) aEs (aFH c e))=aOT c (aNB c e):=by kernel_rfl
def s110x2:bX (xA vQ c e (pw 12 1771) aEr (aFH c e))=aOS c:=by kernel_rfl
def aOc(L:Nat):Bool->Rt:=aOS c
def j110x2:aNB c (cu c L)=aOc c L:=by rw[aNB,aK,s110x2];rfl
def aOd:Bool->List UInt8->Rt:=aOT c (aOc c L)
def j110x1:aNC c (cu c L)=aOd c L:=by rw[aNC,aK,s110x1];simp only[j110x2];rfl
def F110:G.Y->Rt:=aOU c (aOd c L)
def e110:eS (xF vQ c (cu c L))=F110 c L:=by rw[s110x0];simp only[j110x1];rfl
def c110(a:G.Y)(L n:Nat):CTp L (n+1) 110 [yR 1 a]=F110 (CTp L n) L a:=by rw[<-e110];exact cg (x:=vQ) (by kernel_rfl) (by kernel_rfl) L n _
def q111x0(c:TC0)(e:Cu):Kt:=xK aAv
def q111x1:Kt:=xT aAv c e [1,1] (q111x0 c e)
def aKa:Kt:=bH U0 0 (q111x1 c e)
def aOR(c:TC0)(b:Int->List G.E->Int->G.Y->Rt)(a:List G.E)(d:G.Y):Rt:=
 b (List.length a:Int) a 0 d
def aHM(g:Int->List G.E->Int->G.Y->Rt)(d:Int)(f:List G.E)(a:Int)(h:G.Y):Rt:=
 cnd (decide (a<d)) (ob (idx f a) λi=>
 obL [zS 8] (c 112 [yR 16 i]) λ(j:List G.F×Unit)=>
 obL [i6,.bool,.rc 1] (c 135 [yS 8 j.1,yR 1 h]) λ(b:Int×Bool×G.Y×Unit)=>
 cnd b.2.1 (some [yI a,yI b.1,yB true]) (g d f (IntKind.i64.wrap (a+1)) b.2.2.1)) (some [yI 0,yI 0,yB false])
def X111x1:=jX (xE aAv e (pw 5 5) tY (aKa c e))
def s111x0:lN (xF aAv c e)=aOR c (X111x1 c e):=by kernel_rfl
def s111x1(n1:Nt):jX (xA aAv c e (pw 5 5) tY (lpK U0 tY n1 (aKa c e)))=aHM c (jX n1):=by kernel_rfl
def uW(c:TC0)(L:Nat):Nat->Int->List G.E->Int->G.Y->Rt
 |0=>λ_ _ _ _=>none
 |n+1=>aHM c (uW c L n)
def u111x1(n:Nat):jX (xL aAv c L (pw 5 5) tY (aKa c (cu c L)) n)=uW c L n:=by
 induction n with
 |zero=>rfl
 |succ n ih=>rw[dD,s111x1];simp only[ih];rfl
def w111x1:X111x1 c (cu c L)=uW c L L:=u111x1 c L L
def F111:List G.E->G.Y->Rt:=aOR c (uW c L L)
def e111:lN (xF aAv c (cu c L))=F111 c L:=by rw[s111x0];simp only[w111x1];rfl
def c111(a:List G.E)(b:G.Y)(L n:Nat):CTp L (n+1) 111 [yS 16 a,yR 1 b]=F111 (CTp L n) L a b:=by rw[<-e111];exact cg (x:=aAv) (by kernel_rfl) (by kernel_rfl) L n _
def q112x0(c:TC0)(e:Cu):Kt:=xK aBJ
def q112x1:Kt:=xT aBJ c e [1,1] (q112x0 c e)
def q112x2:Kt:=bH U0 0 (q112x1 c e)
def aOQ(c:TC0)(b:Bool->G.E->Rt)(a:G.E):Rt:=
 cnd (decide (a.kind=3)) (b (decide (a.kind=3)) a) (cnd (decide (a.kind=5)) (b (decide (a.kind=5)) a) (cnd (decide (a.kind=6)) (b (decide (a.kind=6)) a) (b (decide (a.kind=7)) a)))
def aOP(c:TC0)(a:Bool)(b:G.E):Rt:=
 cnd a (some [yS 8 b.functions]) (some [yS 8 ([]:List G.F)])
def aNA:=aHn (xD aBJ e (pw 6 21) aEq (q112x2 c e))
def s112x0:aHo (xF aBJ c e)=aOQ c (aNA c e):=by kernel_rfl
def s112x1:aHn (xA aBJ c e (pw 6 21) aEq (q112x2 c e))=aOP c:=by kernel_rfl
def aOb(L:Nat):Bool->G.E->Rt:=aOP c
def j112x1:aNA c (cu c L)=aOb c L:=by rw[aNA,aK,s112x1];rfl
def F112:G.E->Rt:=aOQ c (aOb c L)
def e112:aHo (xF aBJ c (cu c L))=F112 c L:=by rw[s112x0];simp only[j112x1];rfl
def c112(a:G.E)(L n:Nat):CTp L (n+1) 112 [yR 16 a]=F112 (CTp L n) L a:=by rw[<-e112];exact cg (x:=aBJ) (by kernel_rfl) (by kernel_rfl) L n _
def q116x0(c:TC0)(e:Cu):Kt:=xK aAu
def q116x1:Kt:=xT aAu c e (pw 4 15) (q116x0 c e)
def aJ9:Kt:=bH U0 0 (q116x1 c e)
def aHL(c:TC0)(f:Int->List G.T->Int->G.T->G.T->List G.T->G.T->G.T->Rt)(a:G.T)(b:G.T)(d:G.T):Rt:=
 cnd (!decide (a.kind=3)) (some [yR 3 a,yR 3 b,yR 3 d]) (chk (decide (0<=(List.length a.args:Int))&&decide ((List.length a.args:Int)<=(List.length a.args:Int))&&decide ((List.length a.args:Int)*176<=1073741824)&&decide ((List.length a.args:Int)<=1073741824))<|
 chk (decide ((List.length a.args:Int)=(List.length a.args:Int)))<|
 f (List.length a.args:Int) a.args 0 b d (aCX zqT (Int.toNat (List.length a.args:Int))) a zqT)
def aHK(l:Int->List G.T->Int->G.T->G.T->List G.T->G.T->G.T->Rt)(g:Int)(h:List G.T)(a:Int)(i:G.T)(j:G.T)(b:List G.T)(d:G.T)(m:G.T):Rt:=
 cnd (decide (a<g)) (ob (idx h a) λo=>
 obL [.rc 3,.rc 3,.rc 3] (c 137 [yR 3 o,yR 3 i,yR 3 j]) λ(f:G.T×G.T×G.T×Unit)=>
 chk (bC a (List.length b))<|
 ob (idx b a) λp=>
 l g h (IntKind.i64.wrap (a+1)) f.2.1 f.2.2.1 (List.set b (Int.toNat a) f.1) d m) (some [yR 3 (G.T.mk d.kind d.name d.value b),yR 3 i,yR 3 j])
def aHm(n:Nt):Int->List G.T->Int->G.T->G.T->List G.T->G.T->G.T->Rt:=λx0 x1 x2 x3 x4 x5 x6 x7=>n [yI x0,yS 3 x1,yI x2,yR 3 x3,yR 3 x4,yS 3 x5,yR 3 x6,yR 3 x7]
def X116x1:=aHm (xE aAu e (pw 7 23) tX (aJ9 c e))
def s116x0:aCF (xF aAu c e)=aHL c (X116x1 c e):=by kernel_rfl
def s116x1(n1:Nt):aHm (xA aAu c e (pw 7 23) tX (lpK U0 tX n1 (aJ9 c e)))=aHK c (aHm n1):=by kernel_rfl
def rC(c:TC0)(L:Nat):Nat->Int->List G.T->Int->G.T->G.T->List G.T->G.T->G.T->Rt
 |0=>λ_ _ _ _ _ _ _ _=>none
 |n+1=>aHK c (rC c L n)
def u116x1(n:Nat):aHm (xL aAu c L (pw 7 23) tX (aJ9 c (cu c L)) n)=rC c L n:=by
 induction n with
 |zero=>rfl
 |succ n ih=>rw[dD,s116x1];simp only[ih];rfl
def w116x1:X116x1 c (cu c L)=rC c L L:=u116x1 c L L
def F116:G.T->G.T->G.T->Rt:=aHL c (rC c L L)
def e116:aCF (xF aAu c (cu c L))=F116 c L:=by rw[s116x0];simp only[w116x1];rfl
def c116(a:G.T)(b:G.T)(d:G.T)(L n:Nat):CTp L (n+1) 116 [yR 3 a,yR 3 b,yR 3 d]=F116 (CTp L n) L a b d:=by rw[<-e116];exact cg (x:=aAu) (by kernel_rfl) (by kernel_rfl) L n _
def aOO(a:G.T):Rt:=
 obL [.rc 3] (c 38 []) λ(b:G.T×Unit)=>
 obL [.bool] (c 43 [yR 3 a,yR 3 b.1]) λ(d:Bool×Unit)=>
 some [yB d.1]
def s117x0:gD (xF ii117 c e)=aOO c:=by kernel_rfl
def F117(L:Nat):G.T->Rt:=aOO c
def e117:gD (xF ii117 c (cu c L))=F117 c L:=s117x0 _ _
def c117(a:G.T)(L n:Nat):CTp L (n+1) 117 [yR 3 a]=F117 (CTp L n) L a:=by rw[<-e117];exact cg (x:=ii117) (by kernel_rfl) (by kernel_rfl) L n _
def aON(c:TC0):Rt:=
 some [yS 18 ([(G.R.mk [105,102] 3),(G.R.mk [101,113,117,97,108] 2),(G.R.mk [99,111,110,115] 2),(G.R.mk [99,97,114] 1),(G.R.mk [99,100,114] 1),(G.R.mk [99,111,110,115,112] 1),(G.R.mk [115,121,109,98,111,108,112] 1),(G.R.mk [115,116,114,105,110,103,112] 1),(G.R.mk [114,97,116,105,111,110,97,108,112] 1),(G.R.mk [105,110,116,101,103,101,114,112] 1),(G.R.mk [98,105,110,97,114,121,45,43] 2),(G.R.mk [98,105,110,97,114,121,45,42] 2),(G.R.mk [117,110,97,114,121,45,45] 1),(G.R.mk [117,110,97,114,121,45,47] 1),(G.R.mk [60] 2),(G.R.mk [110,117,109,101,114,97,116,111,114] 1),(G.R.mk [100,101,110,111,109,105,110,97,116,111,114] 1),(G.R.mk [102,108,111,111,114] 1),(G.R.mk [115,121,109,98,111,108,45,110,97,109,101] 1),(G.R.mk [115,121,109,98,111,108,45,112,97,99,107,97,103,101,45,110,97,109,101] 1),(G.R.mk [105,110,116,101,114,110] 2),(G.R.mk [115,116,114,105,110,103,45,97,112,112,101,110,100] 2),(G.R.mk [115,116,114,105,110,103,45,108,101,110,103,116,104] 1),(G.R.mk [115,116,114,105,110,103,45,98,121,116,101] 2),(G.R.mk [98,121,116,101,45,115,116,114,105,110,103] 1)]:List G.R)]
def s118x0:fA (xF ii118 c e)=aON c:=by kernel_rfl
def F118(L:Nat):Rt:=aON c
def e118:fA (xF ii118 c (cu c L))=F118 c L:=s118x0 _ _
def c118(L n:Nat):CTp L (n+1) 118 []=F118 (CTp L n) L:=by rw[<-e118];exact cg (x:=ii118) (by kernel_rfl) (by kernel_rfl) L n _
def q119x0(c:TC0)(e:Cu):Kt:=xK aAt
def q119x1:Kt:=xT aAt c e [1,1] (q119x0 c e)
def aJ8:Kt:=bH U0 0 (q119x1 c e)
def B119x0(c:TC0)(a:List G.I->Int->G.Y->G.T->Rt)(b:List G.I)(d:G.Y):Rt:=
 a b 0 d zqT
def aHJ(c:TC0)(f:List G.I->Int->G.Y->G.T->Rt)(a:List G.I)(b:Int)(d:G.Y)(g:G.T):Rt:=
 cnd (decide (b<(List.length a:Int))) (ob (idx a b) λh=>
 cnd (decide (h.var=d)) (ob (idx a b) λi=>
 some [yR 3 i.term,yB true]) (f a (IntKind.i64.wrap (b+1)) d g)) (some [yR 3 zqT,yB false])
def aHk(n:Nt):List G.I->Int->G.Y->G.T->Rt:=λx0 x1 x2 x3=>n [yS 7 x0,yI x1,yR 1 x2,yR 3 x3]
def X119x1:=aHk (xE aAt e (pw 5 5) tW (aJ8 c e))
def s119x0:aHl (xF aAt c e)=B119x0 c (X119x1 c e):=by kernel_rfl
def s119x1(n1:Nt):aHk (xA aAt c e (pw 5 5) tW (lpK U0 tW n1 (aJ8 c e)))=aHJ c (aHk n1):=by kernel_rfl
def uV(c:TC0)(L:Nat):Nat->List G.I->Int->G.Y->G.T->Rt
 |0=>λ_ _ _ _=>none
 |n+1=>aHJ c (uV c L n)
def u119x1(n:Nat):aHk (xL aAt c L (pw 5 5) tW (aJ8 c (cu c L)) n)=uV c L n:=by
 induction n with
 |zero=>rfl
 |succ n ih=>rw[dD,s119x1];simp only[ih];rfl
def w119x1:X119x1 c (cu c L)=uV c L L:=u119x1 c L L
def F119:List G.I->G.Y->Rt:=B119x0 c (uV c L L)
def e119:aHl (xF aAt c (cu c L))=F119 c L:=by rw[s119x0];simp only[w119x1];rfl
def c119(a:List G.I)(b:G.Y)(L n:Nat):CTp L (n+1) 119 [yS 7 a,yR 1 b]=F119 (CTp L n) L a b:=by rw[<-e119];exact cg (x:=aAt) (by kernel_rfl) (by kernel_rfl) L n _
def q120x0(c:TC0)(e:Cu):Kt:=xK aAs
def q120x1:Kt:=xT aAs c e [1,1,1] (q120x0 c e)
def aJ7:Kt:=bH U0 0 (q120x1 c e)
def aOM(c:TC0)(d:List G.T->List G.T->Int->List G.I->Rt)(a:List G.T)(b:List G.T)(f:List G.I):Rt:=
 cnd (!decide ((List.length a:Int)=(List.length b:Int))) (some [yS 7 ([]:List G.I),yB false]) (d a b 0 f)
def aHI(h:List G.T->List G.T->Int->List G.I->Rt)(d:List G.T)(b:List G.T)(a:Int)(f:List G.I):Rt:=
 cnd (decide (a<(List.length b:Int))) (ob (idx d a) λi=>
 ob (idx b a) λj=>
 obL [zS 7,.bool] (c 93 [yR 3 i,yR 3 j,yS 7 f]) λ(g:List G.I×Bool×Unit)=>
 cnd (!g.2.1) (some [yS 7 ([]:List G.I),yB false]) (h d b (IntKind.i64.wrap (a+1)) g.1)) (some [yS 7 f,yB true])
def aHj(n:Nt):List G.T->List G.T->Int->List G.I->Rt:=λx0 x1 x2 x3=>n [yS 3 x0,yS 3 x1,yI x2,yS 7 x3]
def X120x1:=aHj (xE aAs e (pw 6 11) tV (aJ7 c e))
def s120x0:aHr (xF aAs c e)=aOM c (X120x1 c e):=by kernel_rfl
def s120x1(n1:Nt):aHj (xA aAs c e (pw 6 11) tV (lpK U0 tV n1 (aJ7 c e)))=aHI c (aHj n1):=by kernel_rfl
def rB(c:TC0)(L:Nat):Nat->List G.T->List G.T->Int->List G.I->Rt
 |0=>λ_ _ _ _=>none
 |n+1=>aHI c (rB c L n)
def u120x1(n:Nat):aHj (xL aAs c L (pw 6 11) tV (aJ7 c (cu c L)) n)=rB c L n:=by
 induction n with
 |zero=>rfl
 |succ n ih=>rw[dD,s120x1];simp only[ih];rfl
def w120x1:X120x1 c (cu c L)=rB c L L:=u120x1 c L L
def F120:List G.T->List G.T->List G.I->Rt:=aOM c (rB c L L)
def e120:aHr (xF aAs c (cu c L))=F120 c L:=by rw[s120x0];simp only[w120x1];rfl
def c120(a:List G.T)(b:List G.T)(d:List G.I)(L n:Nat):CTp L (n+1) 120 [yS 3 a,yS 3 b,yS 7 d]=F120 (CTp L n) L a b d:=by rw[<-e120];exact cg (x:=aAs) (by kernel_rfl) (by kernel_rfl) L n _
def q121x0(c:TC0)(e:Cu):Kt:=xK aBI
def aJ6:Kt:=bH U0 0 (q121x0 c e)
def aOL(b:Int->List UInt8->List G.K->G.X->Rt)(a:List UInt8):Rt:=
 cnd (decide ((6000:Int)<(List.length a:Int))) (obL [.rc 17] (c 122 [yI 2,yI 0]) λ(d:G.X×Unit)=>
 some [yS 19 ([]:List G.K),yR 17 d.1]) (b 0 a ([]:List G.K) (G.X.mk 0 0))
def aHH(g:Int->List UInt8->List G.K->G.X->Rt)(h:Int)(a:List UInt8)(d:List G.K)(i:G.X):Rt:=
 obL [i6,.bool] (c 138 [yT a,yI h]) λ(f:Int×Bool×Unit)=>
 cnd (!f.2.1) (obL [.rc 17] (c 122 [yI 11,yI (List.length a:Int)]) λ(j:G.X×Unit)=>
 some [yS 19 ([]:List G.K),yR 17 j.1]) (cnd (decide ((List.length a:Int)<=f.1)) (chk (Nat.ble ((List.length d+List.length ([(G.K.mk 0 (List.length a:Int) [] [] [])]:List G.K))*64) 1073741824)<|
 some [yS 19 (d++([(G.K.mk 0 (List.length a:Int) [] [] [])]:List G.K)),yR 17 (G.X.mk 0 0)]) (obL [.rc 19,i6,.rc 17] (c 139 [yT a,yI f.1]) λ(b:G.K×Int×G.X×Unit)=>
 cnd (!decide (b.2.2.1.err=0)) (some [yS 19 ([]:List G.K),yR 17 b.2.2.1]) (chk (Nat.ble ((List.length d+List.length ([b.1]:List G.K))*64) 1073741824)<|
 g b.2.1 a (d++([b.1]:List G.K)) i)))
def aHi(n:Nt):Int->List UInt8->List G.K->G.X->Rt:=λx0 x1 x2 x3=>n [yI x0,yT x1,yS 19 x2,yR 17 x3]
def X121x1:=aHi (xE aBI e (pw 6 15) tU (aJ6 c e))
def s121x0:rT (xF aBI c e)=aOL c (X121x1 c e):=by kernel_rfl
def s121x1(n1:Nt):aHi (xA aBI c e (pw 6 15) tU (lpK U0 tU n1 (aJ6 c e)))=aHH c (aHi n1):=by kernel_rfl
def uU(c:TC0)(L:Nat):Nat->Int->List UInt8->List G.K->G.X->Rt
 |0=>λ_ _ _ _=>none
 |n+1=>aHH c (uU c L n)
def u121x1(n:Nat):aHi (xL aBI c L (pw 6 15) tU (aJ6 c (cu c L)) n)=uU c L n:=by
 induction n with
 |zero=>rfl
 |succ n ih=>rw[dD,s121x1];simp only[ih];rfl
def w121x1:X121x1 c (cu c L)=uU c L L:=u121x1 c L L
def F121:List UInt8->Rt:=aOL c (uU c L L)
def e121:rT (xF aBI c (cu c L))=F121 c L:=by rw[s121x0];simp only[w121x1];rfl
def c121(a:List UInt8)(L n:Nat):CTp L (n+1) 121 [yT a]=F121 (CTp L n) L a:=by rw[<-e121];exact cg (x:=aBI) (by kernel_rfl) (by kernel_rfl) L n _
def q123x0(c:TC0)(e:Cu):Kt:=xK vO
def q123x1:Kt:=xT vO c e (pw 4 15) (q123x0 c e)
def aFG:Kt:=bH U0 0 (q123x1 c e)
def B123x0(d:Bool->Int->Int->G.P->G.K->G.O->G.O->G.X->Rt)(f:Int)(b:G.P):Rt:=
 ob (idx b.t b.pos) λa=>
 cnd (decide (a.kind=0)) (obL [.rc 17] (c 122 [yI 11,yI a.pos]) λ(g:G.X×Unit)=>
 some [yR 2 zqO,yR 17 g.1,yR 20 b]) (cnd (decide (a.kind=2)) (d (decide (a.kind=2)) a.kind f b a zqO zqO (G.X.mk 0 0)) (d (decide (a.kind=3)) a.kind f b a zqO zqO (G.X.mk 0 0)))
def B123x1(j:List UInt8->G.P->G.O->G.K->G.O->G.X->Rt)(o:Bool)(g:Int)(h:Int)(a:G.P)(b:G.K)(f:G.O)(l:G.O)(m:G.X):Rt:=
 cnd o (obL [.rc 17] (c 122 [yI 12,yI b.pos]) λ(p:G.X×Unit)=>
 some [yR 2 f,yR 17 p.1,yR 20 a]) (cnd (decide (g=5)) (some [yR 2 (G.O.mk 1 b.text b.den zqS [] ([]:List G.O)),yR 17 (G.X.mk 0 0),yR 20 (G.P.mk a.l a.current a.t (IntKind.i64.wrap (a.pos+1)))]) (cnd (decide (g=7)) (obL [.rc 2] (c 140 [yT b.text]) λ(q:G.O×Unit)=>
 some [yR 2 q.1,yR 17 (G.X.mk 0 0),yR 20 (G.P.mk a.l a.current a.t (IntKind.i64.wrap (a.pos+1)))]) (cnd (decide (g=6)) (cnd (decide (b.package=[])) (j a.current (G.P.mk a.l a.current a.t (IntKind.i64.wrap (a.pos+1))) f b l m) (j b.package (G.P.mk a.l a.current a.t (IntKind.i64.wrap (a.pos+1))) f b l m)) (cnd (decide ((200:Int)<h)) (obL [.rc 17] (c 122 [yI 2,yI b.pos]) λ(s:G.X×Unit)=>
 some [yR 2 f,yR 17 s.1,yR 20 a]) (cnd (decide (b.kind=4)) (obL [.rc 2,.rc 17,.rc 20] (c 123 [yI (IntKind.i64.wrap (h+1)),yR 20 (G.P.mk a.l a.current a.t (IntKind.i64.wrap (a.pos+1)))]) λ(d:G.O×G.X×G.P×Unit)=>
 cnd (!decide (d.2.1.err=0)) (some [yR 2 f,yR 17 d.2.1,yR 20 d.2.2.1]) (obL [.rc 1] (c 37 [yT [113,117,111,116,101]]) λ(t:G.Y×Unit)=>
 obL [.rc 2] (c 86 [yR 1 t.1]) λ(u:G.O×Unit)=>
 obL [.rc 2] (c 141 [yS 2 ([u.1,d.1]:List G.O)]) λ(v:G.O×Unit)=>
 some [yR 2 v.1,yR 17 d.2.1,yR 20 d.2.2.1])) (obL [.rc 2,.rc 17,.rc 20] (c 142 [yI (IntKind.i64.wrap (h+1)),yR 20 (G.P.mk a.l a.current a.t (IntKind.i64.wrap (a.pos+1)))]) λ(i:G.O×G.X×G.P×Unit)=>
 some [yR 2 i.1,yR 17 i.2.1,yR 20 i.2.2.1]))))))
def V123x1(n:Nt):Bool->Int->Int->G.P->G.K->G.O->G.O->G.X->Rt:=λx0 x1 x2 x3 x4 x5 x6 x7=>n [yB x0,yI x1,yI x2,yR 20 x3,yR 19 x4,yR 2 x5,yR 2 x6,yR 17 x7]
def aNz:=V123x1 (xD vO e (pw 10 471) aEp (aFG c e))
def B123x2(f:List UInt8)(a:G.P)(g:G.O)(d:G.K)(j:G.O)(l:G.X):Rt:=
 obL [.rc 1,i6] (c 143 [yS 9 a.l,yT f,yT d.text]) λ(b:G.Y×Int×Unit)=>
 cnd (!decide (b.2.1=0)) (obL [.rc 17] (c 122 [yI b.2.1,yI d.pos]) λ(h:G.X×Unit)=>
 some [yR 2 g,yR 17 h.1,yR 20 a]) (obL [.rc 2] (c 86 [yR 1 b.1]) λ(i:G.O×Unit)=>
 some [yR 2 i.1,yR 17 (G.X.mk 0 0),yR 20 a])
def V123x2(n:Nt):List UInt8->G.P->G.O->G.K->G.O->G.X->Rt:=λx0 x1 x2 x3 x4 x5=>n [yT x0,yR 20 x1,yR 2 x2,yR 19 x3,yR 2 x4,yR 17 x5]
def aNy:=V123x2 (xD vO e (pw 21 982487) aEo (aFG c e))
def s123x0:aHh (xF vO c e)=B123x0 c (aNz c e):=by kernel_rfl
def s123x1:V123x1 (xA vO c e (pw 10 471) aEp (aFG c e))=B123x1 c (aNy c e):=by kernel_rfl
def s123x2:V123x2 (xA vO c e (pw 21 982487) aEo (aFG c e))=B123x2 c:=by kernel_rfl
def J123x2(L:Nat):List UInt8->G.P->G.O->G.K->G.O->G.X->Rt:=B123x2 c
def j123x2:aNy c (cu c L)=J123x2 c L:=by rw[aNy,aK,s123x2];rfl
def J123x1:Bool->Int->Int->G.P->G.K->G.O->G.O->G.X->Rt:=B123x1 c (J123x2 c L)
def j123x1:aNz c (cu c L)=J123x1 c L:=by rw[aNz,aK,s123x1];simp only[j123x2];rfl
def F123:Int->G.P->Rt:=B123x0 c (J123x1 c L)
def e123:aHh (xF vO c (cu c L))=F123 c L:=by rw[s123x0];simp only[j123x1];rfl
def c123(a:Int)(b:G.P)(L n:Nat):CTp L (n+1) 123 [yI a,yR 20 b]=F123 (CTp L n) L a b:=by rw[<-e123];exact cg (x:=vO) (by kernel_rfl) (by kernel_rfl) L n _
end
end Go.TV
namespace Go.TV
open Go.AI Go.PI Go.Proofs
def wrapm{k:Nat}(h:k<4000000000000000000):IntKind.i64.wrap (((k+1:Nat):Int)-1)=(k:Int):=by
 unfold IntKind.wrap;simp[IntKind.bits,IntKind.signed];omega
def EqP_loop{c:TC0}{L:Nat}{n1:G.O->G.O->Rt}{a b:G.O}(hl:a.pair.length=b.pair.length)(hb:a.pair.length<1000000000)
    {s:Nat} (hs:a.pair.length=s+1): ∀(l:List G.O) (x:G.O) (r:List G.O) (k m:Nat),a.pair.drop k=x::l->b.pair.drop k=r->l.length<m->
    (∀x,x∈a.pair->∀y,c 107 (oo x y)=some (bb (decide (x=y))))->(∀x,x∈a.pair->∀y,n1 x y=some (bb (decide (x=y))))->
    uY c L n1 m (s:Int) (k:Int) ((s+1:Nat):Int) a b=some (bb (decide (x::l=r))):=by
 intro l;induction l with
 |nil=>
  intro x r k m h1 h2 h3 hc hn;obtain⟨m,rfl⟩:=sK m 1 (by simp at h3;omega)
  obtain⟨a1,a2,a3⟩:=aI h1;have hk:k=s:=by have:=aH a3;omega
  subst hk;cases r with
  |nil=>have:=aH h2;omega
  |cons y r=>
   obtain⟨b1,b2,b3⟩:=aI h2;have hr:r=[]:=by rw[<-b3];exact List.drop_eq_nil_of_le (by omega)
   subst hr;have e3:decide ((k:Int)<(k:Int))=false:=by simp
   rw[uY,aHP,e3,aC,wrapm (by omega),aD,aD,a1,b1,aS,aS,hn x (List.mem_of_getElem? a1)]
   simp
 |cons z l ih=>
  intro x r k m h1 h2 h3 hc hn;obtain⟨m,rfl⟩:=sK m 1 (by simp at h3;omega)
  obtain⟨a1,a2,a3⟩:=aI h1;obtain⟨a4,a5,a6⟩:=aI a3;cases r with
  |nil=>have:=aH h2;omega
  |cons y r=>
   obtain⟨b1,b2,b3⟩:=aI h2;have e3:decide ((k:Int)<(s:Int))=true:=by simp;omega
   have fx:c 107 [yR 2 x,yR 2 y]=some [yB (decide (x=y))]:=hc x (List.mem_of_getElem? a1) y;rw[uY,aHP,e3,aG,aD,aD,a1,b1,aS,aS,fx,aN,aX (by omega)]
   by_cases e:x=y
   ·subst e;simp only[decide_true,bnT,aC];rw[ih z r (k+1) m a3 b3 (by simp at h3;omega) hc hn]
    simp
   ·simp only[e,decide_false,Bool.not_false,aG];simp[e,bb]
def EqW_ok: ∀(a:G.O),wfO a->∀(b:G.O) (L n m:Nat),osz a<=L->osz a<=n->osz a<=m->rE (CTp L n) L m a b=some (bb (decide (a=b))):=by
 intro a;induction a using aKE with
 |h k nu d s t l ih=>
  intro hw b L n m hL hn hm;simp only[wfO,osz]at hw hL hn hm;have hlen:=aDg l;obtain⟨m,rfl⟩:=sK m 1 (by omega)
  obtain⟨n,rfl⟩:=sK n 1 (by omega)
  cases b with|mk k' nu' d' s' t' l'=>
  rw[rE];simp only[aOe,aOY,aOX,G.O.kind,G.O.num,G.O.den,G.O.sym,G.O.text,G.O.pair,G.O.mk.injEq];by_cases e1:k=k'
  ·by_cases e2:nu=nu'
   ·by_cases e3:d=d'
    ·by_cases e4:s=s'
     ·by_cases e5:t=t'
      ·by_cases e6:(l.length:Int)=(l'.length:Int)
       ·simp only[e1,e2,e3,e4,e5,e6,decide_true,bnT,aC,aG,true_and];cases l with
        |nil=>
         have:l'=[]:=List.eq_nil_of_length_eq_zero (by simp at e6;omega)
         subst this;simp[cnd,bb]
        |cons x l=>
         have e7:decide ((l'.length:Int)=0)=false:=by simp only[lcS]at e6;simp;intro h;simp[h]at e6;omega
         rw[e7,aC,<-e6];have hW: ∀y,y∈x::l->∀z,rE (CTp L (n+1)) L m y z=some (bb (decide (y=z))):=λy hy z=>
          ih y hy (by have:=fY hy;simp only[wfO];omega) z L (n+1) m (by have:=fY hy;omega) (by have:=fY hy;omega) (by have:=fY hy;omega)
         have hC: ∀y,y∈x::l->∀z,CTp L (n+1) 107 (oo y z)=some (bb (decide (y=z))):=λy hy z=>by
          show CTp L (n+1) 107 [yR 2 _,yR 2 _]=_;rw[c107];exact ih y hy (by have:=fY hy;simp only[wfO];omega) z L n L (by have:=fY hy;omega) (by have:=fY hy;omega) (by have:=fY hy;omega)
         have hz:IntKind.i64.wrap (((x::l).length:Int)-1)=(l.length:Int):=wrapm (by simp only[lcS]at hlen;omega)
         rw[hz];have:=EqP_loop (c:=CTp L (n+1)) (L:=L) (n1:=λx0 x1=>rE (CTp L (n+1)) L m x0 x1) (a:=⟨k,nu,d,s,t,x::l⟩) (b:=⟨k',nu',d',s',t',l'⟩) (s:=l.length) (by show(x::l).length=l'.length;omega) (by show(x::l).length<_;omega) rfl l x l' 0 L rfl rfl (by simp only[lcS]at hlen;omega) hC hW
         subst e1 e2 e3 e4 e5;exact this
       ·have e7: ¬l=l':=λh=>e6 (by rw[h])
        simp[e1,e2,e3,e4,e5,e6,e7,cnd,bb]
      ·simp[e1,e2,e3,e4,e5,cnd,bb]
     ·simp[e1,e2,e3,e4,cnd,bb]
    ·simp[e1,e2,e3,cnd,bb]
   ·simp[e1,e2,cnd,bb]
  ·simp[e1,cnd,bb]
def EqOb_ok(a:G.O)(hw:wfO a)(b:G.O)(L n:Nat)(hL:osz a<=L)(hn:osz a<n):CTp L n 107 (oo a b)=some (bb (decide (a=b))):=by
 obtain⟨n,rfl⟩:=sK n 1 (by omega)
 show CTp L (n+1) 107 [yR 2 _,yR 2 _]=_;rw[c107];exact EqW_ok a hw b L n L hL (by omega) hL
def EqB_loop{c:TC0}{L:Nat}{a b:List G.T}(hl:a.length=b.length)(hb:a.length<1000000000): ∀(l r:List G.T) (k m:Nat),a.drop k=l->b.drop k=r->l.length<m->
    (∀x,x∈l->∀y,c 70 (tt2 x y)=some (bb (decide (x=y))))->uX c L m (a.length:Int) a b (k:Int)=some (bb (decide (l=r))):=by
 intro l;induction l with
 |nil=>
  intro r k m h1 h2 h3 _;obtain⟨m,rfl⟩:=sK m 1 (by simp at h3;omega)
  have e1:=aH h1;have e2:r=[]:=by rw[<-h2];exact List.drop_eq_nil_of_le (by omega)
  have e3:decide ((k:Int)<(a.length:Int))=false:=by simp;omega
  rw[uX,aHO,e3,e2];simp only[aC,decide_true];rfl
 |cons x l ih=>
  intro r k m h1 h2 h3 hc;obtain⟨m,rfl⟩:=sK m 1 (by simp at h3;omega)
  obtain⟨a1,a2,a3⟩:=aI h1;cases r with
  |nil=>have:=aH h2;omega
  |cons y r=>
   obtain⟨b1,b2,b3⟩:=aI h2;have e3:decide ((k:Int)<(a.length:Int))=true:=by simp;omega
   have fx:c 70 [yR 3 x,yR 3 y]=some [yB (decide (x=y))]:=hc x (mhE ..) y;rw[uX,aHO,e3,aG,aD,aD,a1,b1,aS,aS,fx,aN,aX (by omega)]
   by_cases e:x=y
   ·subst e;simp only[decide_true,bnT,aC];rw[ih r (k+1) m a3 b3 (by simp at h3;omega) λz hz=>hc z (mtE _ hz)]
    simp
   ·simp only[e,decide_false,Bool.not_false,aG];simp[e,bb]
def EqF_of{a b:List G.T}{L n:Nat}(hw:a.length<1000000000)(hL:a.length<L)(hx: ∀x,x∈a->∀y,CTp L n 70 (tt2 x y)=some (bb (decide (x=y)))):
    CTp L (n+1) 108 (ll2 a b)=some (bb (decide (a=b))):=by
 show CTp L (n+1) 108 [yS 3 _,yS 3 _]=_;rw[c108];simp only[F108,aOW];by_cases e6:(a.length:Int)=(b.length:Int)
 ·have:=EqB_loop (c:=CTp L n) (L:=L) (by omega) hw a b 0 L rfl rfl hL hx
  rw[e6]at this;simp only[e6,decide_true,bnT,aC];exact this
 ·have e7: ¬a=b:=λh=>e6 (by rw[h])
  simp[e6,e7,cnd,bb]
def aHw: ∀(a:G.T),wfT a->∀(b:G.T) (L n:Nat),tsz a<=L->tsz a<=n->CTp L n 70 (tt2 a b)=some (bb (decide (a=b))):=by
 intro a;induction a using cX with
 |h k nm v l ih=>
  intro hw b L n hL hn;simp only[wfT,tsz]at hw hL hn;have hlen:=bF l;obtain⟨n,rfl⟩:=sK n 2 (by omega)
  cases b with|mk k' nm' v' l'=>
  show CTp L (n+1+1) 70 [yR 3 _,yR 3 _]=_;rw[c70];have hv:CTp L (n+1) 107 [yR 2 v,yR 2 v']=some [yB (decide (v=v'))]:=EqOb_ok v (by simp only[wfO];omega) v' L (n+1) (by omega) (by omega)
  have hl:CTp L (n+1) 108 [yS 3 l,yS 3 l']=some [yB (decide (l=l'))]:=EqF_of (by omega) (by omega) λx hx y=>ih x hx (by have:=aP hx;simp only[wfT];omega) y L n (by have:=aP hx;omega) (by have:=aP hx;omega)
  simp only[F70,B70x0,J70x1,B70x1,G.T.kind,G.T.name,G.T.value,G.T.args,G.T.mk.injEq,hv,hl,aN];by_cases e1:k=k'
  ·by_cases e2:nm=nm'
   ·by_cases e3:v=v'
    ·simp[e1,e2,e3,cnd,bb]
    ·simp[e1,e2,e3,cnd,bb]
   ·simp[e1,e2,cnd,bb]
  ·simp[e1,cnd,bb]
end Go.TV
namespace Go.TV
open Go.AI Go.PI Go.Proofs
def oB{W:Type}{b:List G.T}{K:List G.T×Unit->Option W}:obL (D:=U0.D) [.sl (.rc 3)] (some [yS 3 b]) K=K (b,()):=rfl
def eC{W:Type}{A:Option W}:chk true A=A:=rfl
def lt2(a:List G.T)(t:G.T):TVs:=[yS 3 a,yR 3 t]
def tl1(a:List G.T):TVs:=[yS 3 a]
end Go.TV
