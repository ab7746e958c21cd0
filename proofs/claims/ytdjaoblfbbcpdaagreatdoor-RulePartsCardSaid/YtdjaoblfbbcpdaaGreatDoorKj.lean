import Derived.Test.YtdjaoblfbbcpdaaGreatDoorKi
set_option linter.unusedVariables false
set_option linter.unusedSimpArgs false
set_option linter.constructorNameAsVariable false
set_option linter.defProp false
namespace Go.TV
open Go.AI Go.PI Go.Proofs
set_option maxRecDepth 20000
noncomputable section
variable(c:bU)(e:Cu)(L:Nat)
def aKw(c:bU)(e:Cu):Kt:=xK ii0
def a5N:Kt:=xT ii0 c e [1,1,1] (aKw c e)
def a5M:Kt:=xT ii0 c e (pw 9 511) (aKw c e)
def a2R(d:Bool->List Int->List Int->Rt)(a:List Int)(b:List Int):Rt:=
 eX (c 1 []) λf=>
 bS (!f.1) (some [yB false]) (bS (decide ((80:Int)<(List.length a:Int))) (d true a b) (d (decide ((40:Int)<(List.length b:Int))) a b))
def bAp(n:Nt):List Int->List Int->Rt:=λx0 x1=>n [⟨(.sl (.int .u8)),x0⟩,⟨(.sl (.int .u8)),x1⟩]
def aN1(f:Bool->List Int->List G.T->List G.E->G.T->G.T->Rt)(i:Bool)(j:List Int)(g:List Int):Rt:=
 bS i (some [yB true]) (fY [zS 15] (c 2 [⟨(.int .u32),0⟩]) λ(d:List G.E×Unit)=>
 mI (c 3 [yS 15 d.1,yR 0 (G.Z.mk j 0)]) λb=>
 fY [zS 3,.rc 3] (c 4 [yR 3 b.1]) λ(a:List G.T×G.T×Unit)=>
 fY [zS 3,.rc 3] (c 5 [yR 3 b.1]) λ(h:List G.T×G.T×Unit)=>
 eX (c 6 [yS 3 a.1,yS 3 h.1]) λl=>
 bS (!l.1) (f true g a.1 d.1 a.2.1 b.1) (eX (c 7 [yR 3 a.2.1,yR 3 h.2.1]) λm=>
 bS (!m.1) (f true g a.1 d.1 a.2.1 b.1) (uW (c 8 [yR 3 b.1]) λo=>
 uW (c 9 [yR 3 b.1]) λp=>
 eX (c 6 [yS 3 o.1,yS 3 p.1]) λq=>
 f (!q.1) g a.1 d.1 a.2.1 b.1)))
def bAo(n:Nt):Bool->List Int->List Int->Rt:=λx0 x1 x2=>n [yB x0,⟨(.sl (.int .u8)),x1⟩,⟨(.sl (.int .u8)),x2⟩]
def a1S:=bAo (xD ii0 e (pw 5 11) aFq (a5N c e))
def a2Q(a:Bool->Rt)(i:Bool)(j:List Int)(l:List G.T)(b:List G.E)(m:G.T)(o:G.T):Rt:=
 bS i (some [yB false]) (fY [zS 17,.rc 0] (c 10 [yR 0 (G.Z.mk j 0)]) λ(d:List G.S×G.Z×Unit)=>
 fY [.bool,.bool] (c 11 [yS 15 b,yS 3 l,yS 17 d.1]) λ(g:Bool×Bool×Unit)=>
 fY [.bool,.bool] (c 12 [yS 15 b,yR 3 m,yS 17 d.1]) λ(h:Bool×Bool×Unit)=>
 fY [.bool,.bool] (c 12 [yS 15 b,yR 3 o,yS 17 d.1]) λ(f:Bool×Bool×Unit)=>
 bS (!g.2.1) (a true) (bS (!h.2.1) (a true) (bS (!f.2.1) (a true) (bS (!g.1) (a (f.1==true)) (a (f.1==h.1))))))
def bAn(n:Nt):Bool->List Int->List G.T->List G.E->G.T->G.T->Rt:=λx0 x1 x2 x3 x4 x5=>n [yB x0,⟨(.sl (.int .u8)),x1⟩,yS 3 x2,yS 15 x3,yR 3 x4,yR 3 x5]
def a1R:=bAn (xD ii0 e (pw 11 767) aFp (a5M c e))
def a2P(c:bU)(a:Bool):Rt:=
 some [yB a]
def a1Q:=cS (xD ii0 e (pw 15 16383) aFo (aKw c e))
def bCu:bAp (xF ii0 c e)=a2R c (a1S c e):=by kernel_rfl
def bCt:bAo (xA ii0 c e (pw 5 11) aFq (a5N c e))=aN1 c (a1R c e):=by kernel_rfl
def bCs:bAn (xA ii0 c e (pw 11 767) aFp (a5M c e))=a2Q c (a1Q c e):=by kernel_rfl
def bCr:cS (xA ii0 c e (pw 15 16383) aFo (aKw c e))=a2P c:=by kernel_rfl
def a16(L:Nat):Bool->Rt:=a2P c
def bD7:a1Q c (cu c L)=a16 c L:=by rw[a1Q,bX,bCr];rfl
def a17:Bool->List Int->List G.T->List G.E->G.T->G.T->Rt:=a2Q c (a16 c L)
def bD8:a1R c (cu c L)=a17 c L:=by rw[a1R,bX,bCs];simp only[bD7];rfl
def aHV:Bool->List Int->List Int->Rt:=aN1 c (a17 c L)
def bD9:a1S c (cu c L)=aHV c L:=by rw[a1S,bX,bCt];simp only[bD8];rfl
def F0:List Int->List Int->Rt:=a2R c (aHV c L)
def e0:bAp (xF ii0 c (cu c L))=F0 c L:=by rw[bCu];simp only[bD9];rfl
def a5F(c:bU)(e:Cu):Kt:=xK aZE
def bAP(a:Bool->Rt):Rt:=
 cL (c 13 [yT [120]]) λb=>
 cL (c 13 [yT [121]]) λd=>
 cL (c 14 [yT [98,105,110,97,114,121,45,43],yS 3 ([b.1,d.1]:List G.T)]) λg=>
 cL (c 14 [yT [98,105,110,97,114,121,45,43],yS 3 ([d.1,b.1]:List G.T)]) λh=>
 cL (c 14 [yT [101,113,117,97,108],yS 3 ([g.1,h.1]:List G.T)]) λi=>
 fY [zS 15] (c 2 [⟨(.int .u32),0⟩]) λ(j:List G.E×Unit)=>
 pL (c 15 [yT [112,108,117,115]]) λl=>
 fY [.rc 5,i6] (c 16 [yS 15 j.1,yR 1 l.1,yR 3 i.1,yI 1]) λ(f:G.U×Int×Unit)=>
 cL (c 13 [yT [97]]) λm=>
 cL (c 13 [yT [98]]) λo=>
 pL (c 15 [yT [120]]) λp=>
 pL (c 15 [yT [121]]) λq=>
 bS (decide (f.2.1=0)) (bS (decide ((List.length f.1.stops:Int)=2)) (none) (a false)) (a false)
def bAO(c:bU)(a:Bool):Rt:=
 some [yB a]
def a1P:=cS (xD aZE e (pw 8 127) aFn (a5F c e))
def bCq:lO (xF aZE c e)=bAP c (a1P c e):=by kernel_rfl
def bCp:cS (xA aZE c e (pw 8 127) aFn (a5F c e))=bAO c:=by kernel_rfl
def bAz(L:Nat):Bool->Rt:=bAO c
def bD6:a1P c (cu c L)=bAz c L:=by rw[a1P,bX,bCp];rfl
def F1:Rt:=bAP c (bAz c L)
def e1:lO (xF aZE c (cu c L))=F1 c L:=by rw[bCq];simp only[bD6];rfl
def c1(L n:Nat):bR L (n+1) 1 []=F1 (bR L n) L:=by rw[<-e1];exact cz (x:=aZE) (by kernel_rfl) L n _
def a5x(c:bU)(e:Cu):Kt:=xK ii2
def bCI:Kt:=xT ii2 c e (pw 4 15) (a5x c e)
def aVb:Kt:=dK U0 0 (bCI c e)
def bCH:Kt:=xT ii2 c e (pw 6 63) (a5x c e)
def aKu:Kt:=dK U0 2 (bCH c e)
def a5w(n2:Nt):Kt:=iK U0 GU n2 (aKu c e)
def a2K(a:(List (List G.F))->Int->Int->List G.E->Rt)(b:Int):Rt:=
 fY [zS 15] (c 17 []) λ(d:List G.E×Unit)=>
 fY [.sl (zS 7)] (c 18 []) λ(f:(List (List G.F))×Unit)=>
 a f.1 0 b d.1
def bAl(n:Nt):Int->Rt:=λx0=>n [⟨(.int .u32),x0⟩]
def aBa(i:(List (List G.F))->Int->Int->List G.E->Rt)(j:Int->List G.L->Int->List G.E->Rt)(a:(List (List G.F)))(b:Int)(f:Int)(d:List G.E):Rt:=
 bS (decide (b<(List.length a:Int))) (ob (dE a b) λl=>
 ob (dE l 0) λg=>
 ob (dE a b) λh=>
 kV (Nat.ble ((List.length d+List.length ([(G.E.mk 3 g.name (G.A.mk [] ([]:List G.Y)) (G.M.mk Ch ([]:List G.Y) false FJ) h ([]:List G.T) ([]:List (List G.N)) ([]:List G.E) (G.B.mk Ch ([]:List G.D)) ([]:List G.U) ([]:List G.Y) ([]:List G.Y) [] 0)]:List G.E))*568) 1073741824)<|
 i a (IntKind.i64.wrap (b+1)) f (d++([(G.E.mk 3 g.name (G.A.mk [] ([]:List G.Y)) (G.M.mk Ch ([]:List G.Y) false FJ) h ([]:List G.T) ([]:List (List G.N)) ([]:List G.E) (G.B.mk Ch ([]:List G.D)) ([]:List G.U) ([]:List G.Y) ([]:List G.Y) [] 0)]:List G.E))) (fY [zS 16] (c 19 []) λ(m:List G.L×Unit)=>
 j f m.1 0 d)
def aM4(n:Nt):(List (List G.F))->Int->Int->List G.E->Rt:=λx0 x1 x2 x3=>n [⟨.sl (zS 7),x0⟩,yI x1,⟨(.int .u32),x2⟩,yS 15 x3]
def bAa:=aM4 (xE ii2 e (pw 7 23) Qf (aVb c e))
def aA9(g:Int->Int->List G.L->List G.E->Rt)(d:Int)(b:List G.L)(a:Int)(f:List G.E):Rt:=
 bS (decide (a<(List.length b:Int))) (kV (decide (0<=a))<|
 bS (decide ((IntKind.u32.wrap ((BitVec.ofInt IntKind.u32.bits (Int.fdiv d (2^(min (Int.toNat a) IntKind.u32.bits)))&&&BitVec.ofInt IntKind.u32.bits 1).toNat:Int))=0)) (g a d b f) (ob (dE b a) λh=>
 ob (dE b a) λi=>
 pL (c 15 [yT h.name]) λj=>
 ob (dE b a) λl=>
 ob (dE b a) λm=>
 none)) (some [yS 15 f])
def aGL(n:Nt):Int->List G.L->Int->List G.E->Rt:=λx0 x1 x2 x3=>n [⟨(.int .u32),x0⟩,yS 16 x1,yI x2,yS 15 x3]
def a99:=aGL (xE ii2 e (pw 9 95) GU (aKu c e))
def bAN(c:bU)(a:Int->List G.L->Int->List G.E->Rt)(b:Int)(d:Int)(f:List G.L)(g:List G.E):Rt:=
 a d f (IntKind.i64.wrap (b+1)) g
def bAk(n:Nt):Int->Int->List G.L->List G.E->Rt:=λx0 x1 x2 x3=>n [yI x0,⟨(.int .u32),x1⟩,yS 16 x2,yS 15 x3]
def a1O(n2:Nt):=bAk (xD ii2 e (pw 12 1631) aFm (a5w c e n2))
def bCo:bAl (xF ii2 c e)=a2K c (bAa c e):=by kernel_rfl
def bCn(n1:Nt):aM4 (xA ii2 c e (pw 7 23) Qf (iK U0 Qf n1 (aVb c e)))=aBa c (aM4 n1) (a99 c e):=by kernel_rfl
def bCm(n2:Nt):aGL (xA ii2 c e (pw 9 95) GU (iK U0 GU n2 (aKu c e)))=aA9 c (a1O c e n2):=by kernel_rfl
def bCl(n2:Nt):bAk (xA ii2 c e (pw 12 1631) aFm (a5w c e n2))=bAN c (aGL n2):=by kernel_rfl
def a15(L:Nat)(n2:Int->List G.L->Int->List G.E->Rt):Int->Int->List G.L->List G.E->Rt:=bAN c n2
def bD5(n2:Nt):a1O c (cu c L) n2=a15 c L (aGL n2):=by rw[a1O,bX,bCl];rfl
def LQ(c:bU)(L:Nat):Nat->Int->List G.L->Int->List G.E->Rt
 |0=>λ_ _ _ _=>none
 |n+1=>aA9 c (a15 c L (LQ c L n))
def bBU(n:Nat):aGL (xL ii2 c L (pw 9 95) GU (aKu c (cu c L)) n)=LQ c L n:=by
 induction n with
 |zero=>rfl
 |succ n ih=>rw[fV,bCm];simp only[bD5,ih];rfl
def bBE:a99 c (cu c L)=LQ c L L:=bBU c L L
def aA6(c:bU)(L:Nat):Nat->(List (List G.F))->Int->Int->List G.E->Rt
 |0=>λ_ _ _ _=>none
 |n+1=>aBa c (aA6 c L n) (LQ c L L)
def bBV(n:Nat):aM4 (xL ii2 c L (pw 7 23) Qf (aVb c (cu c L)) n)=aA6 c L n:=by
 induction n with
 |zero=>rfl
 |succ n ih=>rw[fV,bCn];simp only[bBE,ih];rfl
def bBF:bAa c (cu c L)=aA6 c L L:=bBV c L L
def F2:Int->Rt:=a2K c (aA6 c L L)
def e2:bAl (xF ii2 c (cu c L))=F2 c L:=by rw[bCo];simp only[bBF];rfl
def c2(a:Int)(L n:Nat):bR L (n+1) 2 [⟨(.int .u32),a⟩]=F2 (bR L n) L a:=by rw[<-e2];exact cz (x:=ii2) (by kernel_rfl) L n _
def aKt(c:bU)(e:Cu):Kt:=xK GK
def aVa:Kt:=xT GK c e (pw 4 15) (aKt c e)
def a5t:Kt:=xT GK c e (pw 8 215) (aVa c e)
def bCG:Kt:=xT GK c e (pw 9 447) (aKt c e)
def aKs:Kt:=dK U0 1 (bCG c e)
def bCF(n4:Nt):Kt:=iK U0 GS n4 (aKs c e)
def bCE(n4:Nt):Kt:=xT GK c e (pw 14 12991) (bCF c e n4)
def a5s(n4:Nt):Kt:=dK U0 2 (bCE c e n4)
def a2J(j:Bool->G.Z->G.T->G.T->Rt)(d:List G.E->G.Z->G.T->G.T->Rt)(a:List G.E)(w:G.Z):Rt:=
 fY [zS 16] (c 19 []) λ(g:List G.L×Unit)=>
 rB (c 20 [yI (IntKind.i64.wrap ((2:Int)*(List.length g.1:Int))),yR 0 w]) λf=>
 bS (decide (f.1<(List.length g.1:Int))) (ob (dE g.1 f.1) λh=>
 rB (c 20 [yI 4,yR 0 f.2.1]) λi=>
 bS (decide (i.1=0)) (j (decide ((1:Int)<(List.length h.formula.args:Int))) i.2.1 h.formula FJ) (j false i.2.1 h.formula FJ)) (mI (c 21 [yS 15 a,yI 2,yR 0 f.2.1]) λl=>
 rB (c 20 [yI 6,yR 0 l.2.1]) λb=>
 bS (decide (b.1=0)) (mI (c 22 [yS 15 a,yI 2,yR 0 b.2.1]) λm=>
 mI (c 22 [yS 15 a,yI 1,yR 0 m.2.1]) λo=>
 cL (c 14 [yT [101,113,117,97,108],yS 3 ([m.1,o.1]:List G.T)]) λx=>
 d a o.2.1 x.1 FJ) (bS (decide (b.1=1)) (mI (c 22 [yS 15 a,yI 2,yR 0 b.2.1]) λp=>
 cL (c 14 [yT [105,110,116,101,103,101,114,112],yS 3 ([p.1]:List G.T)]) λy=>
 d a p.2.1 y.1 FJ) (bS (decide (b.1=2)) (mI (c 22 [yS 15 a,yI 2,yR 0 b.2.1]) λq=>
 mI (c 22 [yS 15 a,yI 1,yR 0 q.2.1]) λs=>
 cL (c 14 [yT [60],yS 3 ([q.1,s.1]:List G.T)]) λz=>
 cL (c 14 [yT [110,111,116],yS 3 ([z.1]:List G.T)]) λA=>
 d a s.2.1 A.1 FJ) (bS (decide (b.1=3)) (mI (c 22 [yS 15 a,yI 1,yR 0 b.2.1]) λt=>
 mI (c 22 [yS 15 a,yI 1,yR 0 t.2.1]) λu=>
 cL (c 14 [yT [99,111,110,115],yS 3 ([t.1,u.1]:List G.T)]) λB=>
 mI (c 23 [yR 0 u.2.1]) λv=>
 cL (c 14 [yT [101,113,117,97,108],yS 3 ([B.1,v.1]:List G.T)]) λC=>
 d a v.2.1 C.1 FJ) (d a b.2.1 l.1 FJ)))))
def bAi(n:Nt):List G.E->G.Z->Rt:=λx0 x1=>n [yS 15 x0,yR 0 x1]
def a2I(c:bU)(a:G.Z->G.T->G.T->Rt)(g:Bool)(b:G.Z)(d:G.T)(f:G.T):Rt:=
 bS g (ob (dE d.args 1) λh=>
 a b h f) (a b d f)
def bAh(n:Nt):Bool->G.Z->G.T->G.T->Rt:=λx0 x1 x2 x3=>n [yB x0,yR 0 x1,yR 3 x2,yR 3 x3]
def a1N:=bAh (xD GK e (pw 10 343) aFl (a5t c e))
def a2H(b:Int->List G.E->Int->G.Z->G.T->G.T->Rt)(d:List G.E)(f:G.Z)(g:G.T)(h:G.T):Rt:=
 rB (c 20 [yI 3,yR 0 f]) λa=>
 b a.1 d 0 a.2.1 g h
def bAg(n:Nt):List G.E->G.Z->G.T->G.T->Rt:=λx0 x1 x2 x3=>n [yS 15 x0,yR 0 x1,yR 3 x2,yR 3 x3]
def a1M:=bAg (xD GK e (pw 7 63) aFk (aKt c e))
def a2G(c:bU)(a:G.Z)(b:G.T)(d:G.T):Rt:=
 some [yR 3 b,yR 0 a]
def bAf(n:Nt):G.Z->G.T->G.T->Rt:=λx0 x1 x2=>n [yR 0 x0,yR 3 x1,yR 3 x2]
def a1L:=bAf (xD GK e (pw 9 215) aFj (aVa c e))
def aN0(i:Int->Int->List G.E->G.Z->G.T->G.T->G.T->Rt)(b:Int)(a:List G.E)(d:Int)(j:G.Z)(f:G.T)(l:G.T):Rt:=
 bS (decide (d<b)) (mI (c 21 [yS 15 a,yI 1,yR 0 j]) λg=>
 rB (c 20 [yI 2,yR 0 g.2.1]) λh=>
 bS (decide (h.1=0)) (mI (c 21 [yS 15 a,yI 1,yR 0 h.2.1]) λm=>
 cL (c 24 []) λo=>
 cL (c 14 [yT [105,102],yS 3 ([g.1,m.1,o.1]:List G.T)]) λp=>
 i d b a m.2.1 p.1 f l) (i d b a h.2.1 g.1 f l)) (some [yR 3 f,yR 0 j])
def aGK(n:Nt):Int->List G.E->Int->G.Z->G.T->G.T->Rt:=λx0 x1 x2 x3 x4 x5=>n [yI x0,yS 15 x1,yI x2,yR 0 x3,yR 3 x4,yR 3 x5]
def a98:=aGK (xE GK e (pw 12 703) GS (aKs c e))
def a2F(a:Int->List G.E->Int->G.Z->G.T->G.T->Rt)(b:Int)(d:Int)(f:List G.E)(g:G.Z)(h:G.T)(i:G.T)(j:G.T):Rt:=
 cL (c 14 [yT [105,109,112,108,105,101,115],yS 3 ([h,i]:List G.T)]) λl=>
 a d f (IntKind.i64.wrap (b+1)) g l.1 j
def bAe(n:Nt):Int->Int->List G.E->G.Z->G.T->G.T->G.T->Rt:=λx0 x1 x2 x3 x4 x5 x6=>n [yI x0,yI x1,yS 15 x2,yR 0 x3,yR 3 x4,yR 3 x5,yR 3 x6]
def a1K(n4:Nt):=bAe (xD GK e (pw 18 103103) aFi (a5s c e n4))
def bCk:bAi (xF GK c e)=a2J c (a1N c e) (a1M c e):=by kernel_rfl
def bCj:bAh (xA GK c e (pw 10 343) aFl (a5t c e))=a2I c (a1L c e):=by kernel_rfl
def bCi:bAg (xA GK c e (pw 7 63) aFk (aKt c e))=a2H c (a98 c e):=by kernel_rfl
def bCh:bAf (xA GK c e (pw 9 215) aFj (aVa c e))=a2G c:=by kernel_rfl
def bCg(n4:Nt):aGK (xA GK c e (pw 12 703) GS (iK U0 GS n4 (aKs c e)))=aN0 c (a1K c e n4):=by kernel_rfl
def bCf(n4:Nt):bAe (xA GK c e (pw 18 103103) aFi (a5s c e n4))=a2F c (aGK n4):=by kernel_rfl
def a14(L:Nat):G.Z->G.T->G.T->Rt:=a2G c
def bD2:a1L c (cu c L)=a14 c L:=by rw[a1L,bX,bCh];rfl
def aNc(L:Nat)(n4:Int->List G.E->Int->G.Z->G.T->G.T->Rt):Int->Int->List G.E->G.Z->G.T->G.T->G.T->Rt:=a2F c n4
def bD1(n4:Nt):a1K c (cu c L) n4=aNc c L (aGK n4):=by rw[a1K,bX,bCf];rfl
def aNe:Bool->G.Z->G.T->G.T->Rt:=a2I c (a14 c L)
def bD4:a1N c (cu c L)=aNe c L:=by rw[a1N,bX,bCj];simp only[bD2];rfl
def QF(c:bU)(L:Nat):Nat->Int->List G.E->Int->G.Z->G.T->G.T->Rt
 |0=>λ_ _ _ _ _ _=>none
 |n+1=>aN0 c (aNc c L (QF c L n))
def bBT(n:Nat):aGK (xL GK c L (pw 12 703) GS (aKs c (cu c L)) n)=QF c L n:=by
 induction n with
 |zero=>rfl
 |succ n ih=>rw[fV,bCg];simp only[bD1,ih];rfl
def bBC:a98 c (cu c L)=QF c L L:=bBT c L L
def aNd:List G.E->G.Z->G.T->G.T->Rt:=a2H c (QF c L L)
def bD3:a1M c (cu c L)=aNd c L:=by rw[a1M,bX,bCi];simp only[bBC];rfl
def F3:List G.E->G.Z->Rt:=a2J c (aNe c L) (aNd c L)
def e3:bAi (xF GK c (cu c L))=F3 c L:=by rw[bCk];simp only[bD4,bD3];rfl
def c3(a:List G.E)(b:G.Z)(L n:Nat):bR L (n+1) 3 [yS 15 a,yR 0 b]=F3 (bR L n) L a b:=by rw[<-e3];exact cz (x:=GK) (by kernel_rfl) L n _
def bCD(c:bU)(e:Cu):Kt:=xK aLq
def bCC:Kt:=xT aLq c e [1,1,1] (bCD c e)
def aU9:Kt:=dK U0 0 (bCC c e)
def bAM(c:bU)(a:List G.T->G.T->G.T->Rt)(b:G.T):Rt:=
 a ([]:List G.T) b FJ
def a2E(f:List G.T->G.T->G.T->Rt)(b:List G.T)(a:G.T)(g:G.T):Rt:=
 eX (c 25 [yR 3 a,yT [105,109,112,108,105,101,115],yI 2]) λh=>
 bS h.1 (ob (dE a.args 0) λi=>
 uW (c 8 [yR 3 i]) λd=>
 kV (Nat.ble ((List.length b+List.length d.1)*176) 1073741824)<|
 ob (dE a.args 1) λj=>
 f (b++d.1) j g) (some [yS 3 b,yR 3 a])
def a97:=QH (xE aLq e (pw 5 3) Qe (aU9 c e))
def bCe:iV (xF aLq c e)=bAM c (a97 c e):=by kernel_rfl
def bCd(n1:Nt):QH (xA aLq c e (pw 5 3) Qe (iK U0 Qe n1 (aU9 c e)))=a2E c (QH n1):=by kernel_rfl
def aA5(c:bU)(L:Nat):Nat->List G.T->G.T->G.T->Rt
 |0=>λ_ _ _=>none
 |n+1=>a2E c (aA5 c L n)
def bBS(n:Nat):QH (xL aLq c L (pw 5 3) Qe (aU9 c (cu c L)) n)=aA5 c L n:=by
 induction n with
 |zero=>rfl
 |succ n ih=>rw[fV,bCd];simp only[ih];rfl
def bBA:a97 c (cu c L)=aA5 c L L:=bBS c L L
def F4:G.T->Rt:=bAM c (aA5 c L L)
def e4:iV (xF aLq c (cu c L))=F4 c L:=by rw[bCe];simp only[bBA];rfl
def c4(a:G.T)(L n:Nat):bR L (n+1) 4 [yR 3 a]=F4 (bR L n) L a:=by rw[<-e4];exact cz (x:=aLq) (by kernel_rfl) L n _
def bCB(c:bU)(e:Cu):Kt:=xK aLp
def bCA:Kt:=xT aLp c e [1,1,1] (bCB c e)
def aU8:Kt:=dK U0 0 (bCA c e)
def bAK(c:bU)(a:List G.T->G.T->G.T->Rt)(b:G.T):Rt:=
 a ([]:List G.T) b FJ
def a2D(f:List G.T->G.T->G.T->Rt)(b:List G.T)(a:G.T)(g:G.T):Rt:=
 eX (c 26 [yR 3 a,yT [105,109,112,108,105,101,115],yI 2]) λh=>
 bS h.1 (ob (dE a.args 0) λi=>
 uW (c 9 [yR 3 i]) λd=>
 kV (Nat.ble ((List.length b+List.length d.1)*176) 1073741824)<|
 ob (dE a.args 1) λj=>
 f (b++d.1) j g) (some [yS 3 b,yR 3 a])
def a96:=QH (xE aLp e (pw 5 3) Qd (aU8 c e))
def bCc:iV (xF aLp c e)=bAK c (a96 c e):=by kernel_rfl
def bCb(n1:Nt):QH (xA aLp c e (pw 5 3) Qd (iK U0 Qd n1 (aU8 c e)))=a2D c (QH n1):=by kernel_rfl
def aA4(c:bU)(L:Nat):Nat->List G.T->G.T->G.T->Rt
 |0=>λ_ _ _=>none
 |n+1=>a2D c (aA4 c L n)
def bBR(n:Nat):QH (xL aLp c L (pw 5 3) Qd (aU8 c (cu c L)) n)=aA4 c L n:=by
 induction n with
 |zero=>rfl
 |succ n ih=>rw[fV,bCb];simp only[ih];rfl
def bBx:a96 c (cu c L)=aA4 c L L:=bBR c L L
def F5:G.T->Rt:=bAK c (aA4 c L L)
def e5:iV (xF aLp c (cu c L))=F5 c L:=by rw[bCc];simp only[bBx];rfl
def c5(a:G.T)(L n:Nat):bR L (n+1) 5 [yR 3 a]=F5 (bR L n) L a:=by rw[<-e5];exact cz (x:=aLp) (by kernel_rfl) L n _
def bCz(c:bU)(e:Cu):Kt:=xK aLo
def bCy:Kt:=xT aLo c e [1,1,1] (bCz c e)
def aU7:Kt:=dK U0 0 (bCy c e)
def a2C(c:bU)(d:List G.T->List G.T->Int->Rt)(a:List G.T)(b:List G.T):Rt:=
 bS (!decide ((List.length a:Int)=(List.length b:Int))) (some [yB false]) (d a b 0)
def aNZ(f:List G.T->List G.T->Int->Rt)(b:List G.T)(d:List G.T)(a:Int):Rt:=
 bS (decide (a<(List.length b:Int))) (ob (dE b a) λg=>
 ob (dE d a) λh=>
 eX (c 7 [yR 3 g,yR 3 h]) λi=>
 bS (!i.1) (some [yB false]) (f b d (IntKind.i64.wrap (a+1)))) (some [yB true])
def a95:=CF (xE aLo e (pw 6 11) Qc (aU7 c e))
def bCa:X4 (xF aLo c e)=a2C c (a95 c e):=by kernel_rfl
def bB9(n1:Nt):CF (xA aLo c e (pw 6 11) Qc (iK U0 Qc n1 (aU7 c e)))=aNZ c (CF n1):=by kernel_rfl
def Up(c:bU)(L:Nat):Nat->List G.T->List G.T->Int->Rt
 |0=>λ_ _ _=>none
 |n+1=>aNZ c (Up c L n)
def bBQ(n:Nat):CF (xL aLo c L (pw 6 11) Qc (aU7 c (cu c L)) n)=Up c L n:=by
 induction n with
 |zero=>rfl
 |succ n ih=>rw[fV,bB9];simp only[ih];rfl
def bBw:a95 c (cu c L)=Up c L L:=bBQ c L L
def F6:List G.T->List G.T->Rt:=a2C c (Up c L L)
def e6:X4 (xF aLo c (cu c L))=F6 c L:=by rw[bCa];simp only[bBw];rfl
def c6(a:List G.T)(b:List G.T)(L n:Nat):bR L (n+1) 6 [yS 3 a,yS 3 b]=F6 (bR L n) L a b:=by rw[<-e6];exact cz (x:=aLo) (by kernel_rfl) L n _
def a5q(c:bU)(e:Cu):Kt:=xK aZj
def a2B(a:Bool->Rt)(b:G.T)(d:G.T):Rt:=
 bS (decide (b.kind=d.kind)) (bS (decide (b.name=d.name)) (eX (c 27 [yR 2 b.value,yR 2 d.value]) λf=>
 bS f.1 (eX (c 28 [yS 3 b.args,yS 3 d.args]) λg=>
 a g.1) (a false)) (a false)) (a false)
def bAd(n:Nt):G.T->G.T->Rt:=λx0 x1=>n [yR 3 x0,yR 3 x1]
def a2A(c:bU)(a:Bool):Rt:=
 some [yB a]
def a1J:=cS (xD aZj e [1,1,0] aFh (a5q c e))
def bB8:bAd (xF aZj c e)=a2B c (a1J c e):=by kernel_rfl
def bB7:cS (xA aZj c e [1,1,0] aFh (a5q c e))=a2A c:=by kernel_rfl
def a13(L:Nat):Bool->Rt:=a2A c
def bD0:a1J c (cu c L)=a13 c L:=by rw[a1J,bX,bB7];rfl
def F7:G.T->G.T->Rt:=a2B c (a13 c L)
def e7:bAd (xF aZj c (cu c L))=F7 c L:=by rw[bB8];simp only[bD0];rfl
def c7(a:G.T)(b:G.T)(L n:Nat):bR L (n+1) 7 [yR 3 a,yR 3 b]=F7 (bR L n) L a b:=by rw[<-e7];exact cz (x:=aZj) (by kernel_rfl) L n _
def bCx(c:bU)(e:Cu):Kt:=xK aON
def a5p:Kt:=xT aON c e [1,1] (bCx c e)
def a2z(b:Bool->G.T->Rt)(a:G.T):Rt:=
 eX (c 25 [yR 3 a,yT [105,102],yI 3]) λd=>
 bS d.1 (ob (dE a.args 2) λf=>
 eX (c 29 [yR 3 f]) λg=>
 b g.1 a) (b false a)
def a2y(f:Bool)(a:G.T):Rt:=
 bS f (ob (dE a.args 0) λg=>
 ob (dE a.args 1) λh=>
 uW (c 8 [yR 3 g]) λb=>
 uW (c 8 [yR 3 h]) λd=>
 kV (Nat.ble ((List.length b.1+List.length d.1)*176) 1073741824)<|
 some [yS 3 (b.1++d.1)]) (some [yS 3 ([a]:List G.T)])
def a1I:=B8 (xD aON e (pw 4 5) aFg (a5p c e))
def bB6:iV (xF aON c e)=a2z c (a1I c e):=by kernel_rfl
def bB5:B8 (xA aON c e (pw 4 5) aFg (a5p c e))=a2y c:=by kernel_rfl
def a12(L:Nat):Bool->G.T->Rt:=a2y c
def bDZ:a1I c (cu c L)=a12 c L:=by rw[a1I,bX,bB5];rfl
def F8:G.T->Rt:=a2z c (a12 c L)
def e8:iV (xF aON c (cu c L))=F8 c L:=by rw[bB6];simp only[bDZ];rfl
def c8(a:G.T)(L n:Nat):bR L (n+1) 8 [yR 3 a]=F8 (bR L n) L a:=by rw[<-e8];exact cz (x:=aON) (by kernel_rfl) L n _
def bCw(c:bU)(e:Cu):Kt:=xK aOM
def a5i:Kt:=xT aOM c e [1,1] (bCw c e)
def a2x(b:Bool->G.T->Rt)(a:G.T):Rt:=
 eX (c 26 [yR 3 a,yT [105,102],yI 3]) λd=>
 bS d.1 (ob (dE a.args 2) λf=>
 eX (c 30 [yR 3 f]) λg=>
 b g.1 a) (b false a)
def a2w(f:Bool)(a:G.T):Rt:=
 bS f (ob (dE a.args 0) λg=>
 ob (dE a.args 1) λh=>
 uW (c 9 [yR 3 g]) λb=>
 uW (c 9 [yR 3 h]) λd=>
 kV (Nat.ble ((List.length b.1+List.length d.1)*176) 1073741824)<|
 some [yS 3 (b.1++d.1)]) (some [yS 3 ([a]:List G.T)])
def a1H:=B8 (xD aOM e (pw 4 5) aFf (a5i c e))
def bB4:iV (xF aOM c e)=a2x c (a1H c e):=by kernel_rfl
def bB3:B8 (xA aOM c e (pw 4 5) aFf (a5i c e))=a2w c:=by kernel_rfl
def a1Z(L:Nat):Bool->G.T->Rt:=a2w c
def bDY:a1H c (cu c L)=a1Z c L:=by rw[a1H,bX,bB3];rfl
def F9:G.T->Rt:=a2x c (a1Z c L)
def e9:iV (xF aOM c (cu c L))=F9 c L:=by rw[bB4];simp only[bDY];rfl
def c9(a:G.T)(L n:Nat):bR L (n+1) 9 [yR 3 a]=F9 (bR L n) L a:=by rw[<-e9];exact cz (x:=aOM) (by kernel_rfl) L n _
def a5L(c:bU)(e:Cu):Kt:=xK Kb
def a5K:Kt:=xT Kb c e [1,1,1] (a5L c e)
def aDi:Kt:=dK U0 0 (a5K c e)
def aP4(c:bU)(a:Int->(List (List UInt8))->Int->List G.S->G.Z->Rt)(b:G.Z):Rt:=
 a (List.length ([[120],[121],[122],[110]]:List (List UInt8)):Int) ([[120],[121],[122],[110]]:List (List UInt8)) 0 ([]:List G.S) b
def YW(j:Int->(List (List UInt8))->Int->List G.S->G.Z->Rt)(f:Int)(g:(List (List UInt8)))(a:Int)(b:List G.S)(h:G.Z):Rt:=
 bS (decide (a<f)) (ob (dE g a) λl=>
 pL (c 15 [yT l]) λi=>
 tG (c 31 [yI 2,yR 0 h]) λd=>
 kV (Nat.ble ((List.length b+List.length ([(G.S.mk i.1 d.1)]:List G.S))*144) 1073741824)<|
 j f g (IntKind.i64.wrap (a+1)) (b++([(G.S.mk i.1 d.1)]:List G.S)) d.2.1) (some [yS 17 b,yR 0 h])
def YB(n:Nt):Int->(List (List UInt8))->Int->List G.S->G.Z->Rt:=λx0 x1 x2 x3 x4=>n [yI x0,⟨(.sl .str),x1⟩,yI x2,yS 17 x3,yR 0 x4]
def aPe:=YB (xE Kb e (pw 6 11) EZ (aDi c e))
def a5d:aGM (xF Kb c e)=aP4 c (aPe c e):=by kernel_rfl
def a5c(n1:Nt):YB (xA Kb c e (pw 6 11) EZ (iK U0 EZ n1 (aDi c e)))=YW c (YB n1):=by kernel_rfl
def Fj(c:bU)(L:Nat):Nat->Int->(List (List UInt8))->Int->List G.S->G.Z->Rt
 |0=>λ_ _ _ _ _=>none
 |n+1=>YW c (Fj c L n)
def a4c(n:Nat):YB (xL Kb c L (pw 6 11) EZ (aDi c (cu c L)) n)=Fj c L n:=by
 induction n with
 |zero=>rfl
 |succ n ih=>rw[fV,a5c];simp only[ih];rfl
def a3Y:aPe c (cu c L)=Fj c L L:=a4c c L L
def bJs:G.Z->Rt:=aP4 c (Fj c L L)
def e10:aGM (xF Kb c (cu c L))=bJs c L:=by rw[a5d];simp only[a3Y];rfl
def c10(a:G.Z)(L n:Nat):bR L (n+1) 10 [yR 0 a]=bJs (bR L n) L a:=by rw[<-e10];exact cz (x:=Kb) (by kernel_rfl) L n _
def a5J(c:bU)(e:Cu):Kt:=xK EA
def a5I:Kt:=xT EA c e [1,1,1] (a5J c e)
def WM:Kt:=dK U0 0 (a5I c e)
def aOu(n1:Nt):Kt:=iK U0 BR n1 (WM c e)
def aP3(c:bU)(a:List G.E->List G.T->List G.S->Int->Bool->Rt)(b:List G.E)(d:List G.T)(f:List G.S):Rt:=
 a b d f 0 true
def aPr(n:Nt):List G.E->List G.T->List G.S->Rt:=λx0 x1 x2=>n [yS 15 x0,yS 3 x1,yS 17 x2]
def YV(g:Int->List G.E->List G.T->List G.S->Bool->Rt)(d:List G.E)(a:List G.T)(f:List G.S)(b:Int)(h:Bool):Rt:=
 bS (decide (b<(List.length a:Int))) (ob (dE a b) λj=>
 fY [.bool,.bool] (c 12 [yS 15 d,yR 3 j,yS 17 f]) λ(i:Bool×Bool×Unit)=>
 bS (!i.2.1) (some [yB false,yB false]) (bS h (g b d a f i.1) (g b d a f false))) (some [yB h,yB true])
def QI(n:Nt):List G.E->List G.T->List G.S->Int->Bool->Rt:=λx0 x1 x2 x3 x4=>n [yS 15 x0,yS 3 x1,yS 17 x2,yI x3,yB x4]
def aPd:=QI (xE EA e (pw 6 11) BR (WM c e))
def YU(c:bU)(a:List G.E->List G.T->List G.S->Int->Bool->Rt)(b:Int)(d:List G.E)(f:List G.T)(g:List G.S)(h:Bool):Rt:=
 a d f g (IntKind.i64.wrap (b+1)) h
def aPq(n:Nt):Int->List G.E->List G.T->List G.S->Bool->Rt:=λx0 x1 x2 x3 x4=>n [yI x0,yS 15 x1,yS 3 x2,yS 17 x3,yB x4]
def aGG(n1:Nt):=aPq (xD EA e (pw 9 203) SF (aOu c e n1))
def a5b:aPr (xF EA c e)=aP3 c (aPd c e):=by kernel_rfl
def a5a(n1:Nt):QI (xA EA c e (pw 6 11) BR (iK U0 BR n1 (WM c e)))=YV c (aGG c e n1):=by kernel_rfl
def a49(n1:Nt):aPq (xA EA c e (pw 9 203) SF (aOu c e n1))=YU c (QI n1):=by kernel_rfl
def QM(L:Nat)(n1:List G.E->List G.T->List G.S->Int->Bool->Rt):Int->List G.E->List G.T->List G.S->Bool->Rt:=YU c n1
def a7l(n1:Nt):aGG c (cu c L) n1=QM c L (QI n1):=by rw[aGG,bX,a49];rfl
def Bk(c:bU)(L:Nat):Nat->List G.E->List G.T->List G.S->Int->Bool->Rt
 |0=>λ_ _ _ _ _=>none
 |n+1=>YV c (QM c L (Bk c L n))
def a4b(n:Nat):QI (xL EA c L (pw 6 11) BR (WM c (cu c L)) n)=Bk c L n:=by
 induction n with
 |zero=>rfl
 |succ n ih=>rw[fV,a5a];simp only[a7l,ih];rfl
def a3W:aPd c (cu c L)=Bk c L L:=a4b c L L
def bJr:List G.E->List G.T->List G.S->Rt:=aP3 c (Bk c L L)
def e11:aPr (xF EA c (cu c L))=bJr c L:=by rw[a5b];simp only[a3W];rfl
def c11(a:List G.E)(b:List G.T)(d:List G.S)(L n:Nat):bR L (n+1) 11 [yS 15 a,yS 3 b,yS 17 d]=bJr (bR L n) L a b d:=by rw[<-e11];exact cz (x:=EA) (by kernel_rfl) L n _
def aP2(b:List G.E)(d:G.T)(f:List G.S):Rt:=
 fY [.rc 2,i6,i6] (c 32 [yS 15 b,yR 3 d,yS 17 f,yI 2000]) λ(a:G.O×Int×Int×Unit)=>
 eA (c 33 []) λg=>
 eX (c 27 [yR 2 a.1,yR 2 g.1]) λh=>
 some [yB (!h.1),yB (decide (a.2.2.1=0))]
def bAm(n:Nt):List G.E->G.T->List G.S->Rt:=λx0 x1 x2=>n [yS 15 x0,yR 3 x1,yS 17 x2]
def bIy(L:Nat):List G.E->G.T->List G.S->Rt:=aP2 c
def e12:bAm (xF aZD c (cu c L))=bIy c L:=by kernel_rfl
def c12(a:List G.E)(b:G.T)(d:List G.S)(L n:Nat):bR L (n+1) 12 [yS 15 a,yR 3 b,yS 17 d]=bIy (bR L n) L a b d:=by rw[<-e12];exact cz (x:=aZD) (by kernel_rfl) L n _
end
end Go.TV
namespace Go.TV
open Go.AI Go.PI Go.Proofs
def aH5{c:bU}{L:Nat}{a b:List G.T}(hl:a.length=b.length)(hb:a.length<1000000000): ∀(l r:List G.T) (k m:Nat),a.drop k=l->b.drop k=r->l.length<m->
    (∀x,x∈l->∀y,c 7 (a4e x y)=some (bb (decide (x=y))))->Fh c L m a b (k:Int)=some (bb (decide (l=r))):=by
 intro l;induction l with
 |nil=>
  intro r k m h1 h2 h3 _;obtain⟨m,rfl⟩:=sK m 1 (by simp at h3;omega)
  have e1:=dH h1;have e2:r=[]:=by rw[<-h2];exact List.drop_eq_nil_of_le (by omega)
  have e3:decide ((k:Int)<(a.length:Int))=false:=by simp;omega
  rw[Fh,YM,e3,e2];simp only[bM,decide_true];rfl
 |cons x l ih=>
  intro r k m h1 h2 h3 hc;obtain⟨m,rfl⟩:=sK m 1 (by simp at h3;omega)
  obtain⟨a1,a2,a3⟩:=dL h1;cases r with
  |nil=>have:=dH h2;omega
  |cons y r=>
   obtain⟨b1,b2,b3⟩:=dL h2;have e3:decide ((k:Int)<(a.length:Int))=true:=by simp;omega
   have me:c 7 [yR 3 x,yR 3 y]=some [yB (decide (x=y))]:=hc x (aH ..) y;rw[Fh,YM,e3,bP,bW,bW,a1,b1,cM,cM,me,jY,fF (by omega)]
   by_cases e:x=y
   .subst e;simp only[decide_true,bD,bM];rw[ih r (k+1) m a3 b3 (by simp at h3;omega) λz hz=>hc z (aG _ hz)]
    simp
   .simp only[e,decide_false,Bool.not_false,bP];simp[e,bb]
def aH4{a b:List G.T}{L n:Nat}(hw:a.length<1000000000)(hL:a.length<L)(hx: ∀x,x∈a->∀y,bR L n 7 (a4e x y)=some (bb (decide (x=y)))):
    bR L (n+1) 28 (bDL a b)=some (bb (decide (a=b))):=by
 show bR L (n+1) 28 [yS 3 _,yS 3 _]=_;rw[c28];simp only[bIt,aIe];by_cases e6:(a.length:Int)=(b.length:Int)
 .simp only[e6,decide_true,bD,bM];exact aH5 (c:=bR L n) (L:=L) (by omega) hw a b 0 L rfl rfl hL hx
 .have e7: ¬a=b:=λh=>e6 (by rw[h])
  simp[e6,e7,bS,bb]
def UN: ∀(a:G.T),a3F a->∀(b:G.T) (L n:Nat),jV a<=L->jV a<=n->bR L n 7 (a4e a b)=some (bb (decide (a=b))):=by
 intro a;induction a using C3 with
 |h k nm v l ih=>
  intro hw b L n hL hn;simp only[a3F,jV]at hw hL hn;have hlen:=oH l;obtain⟨n,rfl⟩:=sK n 2 (by omega)
  cases b with|mk k' nm' v' l'=>
  show bR L (n+1+1) 7 [yR 3 _,yR 3 _]=_;rw[c7];have hv:bR L (n+1) 27 [yR 2 v,yR 2 v']=some [yB (decide (v=v'))]:=aH2 v (by simp only[bAV];omega) v' L (n+1) (by omega) (by omega)
  have hl:bR L (n+1) 28 [yS 3 l,yS 3 l']=some [yB (decide (l=l'))]:=aH4 (by omega) (by omega) λx hx y=>ih x hx (by have:=mM hx;simp only[a3F];omega) y L n (by have:=mM hx;omega) (by have:=mM hx;omega)
  simp only[F7,a2B,a13,a2A,G.T.kind,G.T.name,G.T.value,G.T.args,G.T.mk.injEq,hv,hl,jY];by_cases e1:k=k'
  .by_cases e2:nm=nm'
   .by_cases e3:v=v'
    .simp[e1,e2,e3,bS,bb]
    .simp[e1,e2,e3,bS,bb]
   .simp[e1,e2,bS,bb]
  .simp[e1,bS,bb]
end Go.TV
namespace Go.TV
open Go.AI Go.PI Go.Proofs
set_option maxRecDepth 20000
def aXv{s:List UInt8}{L n:Nat}:bR L (n+1) 62 [yT s]=some [yR 1 (⟨dN,s⟩:G.Y)]:=by
 rw[c62];rfl
def aEH{t:G.T}{s:List UInt8}{k:Int}{L n:Nat}:bR L (n+2) 25 [yR 3 t,yT s,yI k]=some [yB (zT t s k)]:=by
 rw[c25,bIu,aIh];unfold zT;cases decide (t.kind=3)with
 |false=>rfl
 |true=>
  rw[bP,aXv,Xf];show bS (decide (t.name=⟨dN,s⟩)) _ _=_;cases decide (t.name=⟨dN,s⟩)<;>rfl
def bA6:G.O:=⟨0,[],[],⟨[],[]⟩,[],[]⟩
def bA5:G.T:=⟨0,⟨[],[]⟩,bA6,[]⟩
def a50{v:G.O}(h:tW v<1000000000)(e:v.kind=0):v=bA6:=by
 have h2:=RW h;cases v with|mk k n d s t l=>
 have e:k=0:=e;subst e;have:aJA 0 n d s t l=true:=h2;simp only[aJA,show decide ((0:Int)=0)=true from rfl,show decide ((0:Int)=1)=false from rfl,show decide ((0:Int)=2)=false from rfl,show decide ((0:Int)=3)=false from rfl,show decide ((0:Int)=4)=false from rfl,Bool.true_and,Bool.false_and,Bool.or_false,aC,aD,List.isEmpty_iff]at this
 obtain⟨⟨⟨⟨⟨_,a1⟩,a2⟩,a3⟩,a4⟩,a5⟩:=this;subst a1;subst a2;subst a3;subst a4;subst a5;rfl
def bDt{v:G.O}(h:tW v<1000000000)(e:v.kind=2):v=⟨2,[],[],v.sym,[],[]⟩:=by
 have h2:=RW h;cases v with|mk k n d s t l=>
 have e:k=2:=e;subst e;have:aJA 2 n d s t l=true:=h2;simp only[aJA,show decide ((2:Int)=0)=false from rfl,show decide ((2:Int)=1)=false from rfl,show decide ((2:Int)=2)=true from rfl,show decide ((2:Int)=3)=false from rfl,show decide ((2:Int)=4)=false from rfl,Bool.true_and,Bool.false_and,Bool.or_false,Bool.false_or,aC,aD,List.isEmpty_iff]at this
 obtain⟨⟨⟨⟨_,a1⟩,a2⟩,a3⟩,a4⟩:=this;subst a1;subst a2;subst a3;subst a4;rfl
def bBW{t:G.T}(h:jV t<1000000000):(t=⟨1,t.name,bA6,[]⟩)∨(t=⟨2,⟨[],[]⟩,t.value,[]⟩/\tW t.value<1000000000/\t.value.kind≠0)∨(t=⟨3,t.name,bA6,t.args⟩):=by
 have h1:=Xd h;cases t with|mk k n v l=>
 simp only[jV]at h;simp only[Pv,Bool.or_eq_true,aC,aD,List.isEmpty_iff,Bool.not_eq_true',bC]at h1;rcases h1 with(⟨⟨a1,a3⟩,a4⟩|⟨⟨⟨a1,a2⟩,a3⟩,a4⟩)|⟨a1,a4⟩
 .left;have hv:=a50 (v:=v) (by omega) a3;have a1:k=1:=a1.1;have a4:l=[]:=a4;subst a1;subst hv;subst a4;rfl
 .right;left;subst a1;subst a2;subst a3;exact⟨rfl,by show tW v<_;omega,a4⟩
 .right;right;have hv:=a50 (v:=v) (by omega) a4;have a1:k=3:=a1.1.1;subst a1;subst hv;rfl
def JL{t:G.T}:eZ t.args+4<=jV t:=by
 cases t with|mk k n v l=>show eZ l+4<=_;simp only[jV];omega
def aJW{t x:G.T}(h:x∈t.args):jV x+4<=jV t:=by
 have:=mM h;have:=JL (t:=t);omega
def tsz'_ap{l r:List G.T}:eZ (l++r)=eZ l+eZ r:=by
 induction l with
 |nil=>simp[eZ]
 |cons x l ih=>simp only[aY,eZ,ih];omega
def BX{t:G.T}{k:Nat}(h:k<t.args.length): ∃x,t.args[k]?=some x/\jV x+4<=jV t:=⟨_,aV h,aJW (List.getElem_mem h)⟩
def aXe:G.O:=⟨2,[],[],⟨dN,[110,105,108]⟩,[],[]⟩
def nlT:G.T:=⟨2,⟨[],[]⟩,aXe,[]⟩
def iNl{L n:Nat}{o:G.O}:bR L (n+1) 63 [yR 2 o]=some [yB (decide (o.kind=2)&&decide (o.sym=⟨dN,[110,105,108]⟩))]:=by
 rw[c63,bIn,aH9];cases decide (o.kind=2)<;>rfl
def aXj{t:G.T}(h:jV t<1000000000){L n:Nat}:bR L (n+2) 29 [yR 3 t]=some [yB (decide (t=nlT))]:=by
 have e0:decide (t=nlT)=(decide (t.kind=2)&&(decide (t.value.kind=2)&&decide (t.value.sym=⟨dN,[110,105,108]⟩))):=by
  rw[Bool.eq_iff_iff];simp only[aC,aD];constructor
  .rintro rfl;exact⟨rfl,rfl,rfl⟩
  .rintro⟨h1,h2,h3⟩;rcases bBW h with e|⟨e,e2,_⟩|e
   .rw[e]at h1;cases h1
   .rw[e,bDt e2 h2,h3];rfl
   .rw[e]at h1;cases h1
 rw[e0,c29,bIs,aId];cases decide (t.kind=2)with
 |false=>rfl
 |true=>rw[bP,iNl,jY];rfl
def aXk{L n:Nat}:bR L (n+2) 33 []=some [yR 2 aXe]:=by
 rw[bHG,bAF,aIb,YG,Xf];simp only[];rw[bHD];rfl
def aXa{W:Type}{b:G.O}{K:G.O×Unit->Option W}:eA (some [yR 2 b]) K=K (b,()):=rfl
def aEG{t:G.T}{s:List UInt8}{k:Int}{L n:Nat}:bR L (n+2) 26 [yR 3 t,yT s,yI k]=some [yB (zT t s k)]:=aPC
def aXg{L n:Nat}:bR L (n+3) 64 []=some [yR 3 nlT]:=by
 rw[bJi,bBl,aPR,aXk,aXa];show cL (bR L (n+2) 57 [yR 2 aXe]) _=_;rw[bJj];rfl
def a56{W:Type}{b:G.T}{K:G.T×Unit->Option W}:cL (some [yR 3 b]) K=K (b,()):=rfl
def aXi{t:G.T}{L n:Nat}(h:jV t<1000000000)(hL:jV t<=L)(hn:jV t+4<=n):bR L n 30 [yR 3 t]=some [yB (decide (t=nlT))]:=by
 obtain⟨n,rfl⟩:=sK n 4 (by omega)
 have h1:bR L (n+3) 7 [yR 3 t,yR 3 nlT]=some [yB (decide (t=nlT))]:=UN t h nlT L (n+3) hL (by omega)
 rw[c30,bIr,aPY,aXg,a56];show eX (bR L (n+3) 7 [yR 3 t,yR 3 nlT]) _=_;rw[h1];rfl
def aFH{a:Nat}(h:a<6000000):Nat.ble (a*176) 1073741824=true:=by
 apply Nat.ble_eq_true_of_le;omega
def aEf{t:G.T}{s:List UInt8}{k:Nat}(h:zT t s (k:Int)=true):t.kind=3/\t.name=⟨dN,s⟩/\t.args.length=k:=by
 simp only[zT,aC,aD]at h;exact⟨h.1.1,h.1.2,by omega⟩
inductive aPH:G.T->List G.T->Prop
 |one (t:G.T):aPH t [t]
 |two {t a b:G.T} {p q:List G.T} (h:zT t [105,102] 3=true) (e:t.args=[a,b,nlT]) (hp:aPH a p) (hq:aPH b q):aPH t (p++q)
inductive a3i:G.T->List G.T->G.T->Prop
 |zero (t:G.T):a3i t [] t
 |suc {t a b d:G.T} {p h:List G.T} (hi:zT t [105,109,112,108,105,101,115] 2=true) (e:t.args=[a,b]) (hp:aPH a p) (hq:a3i b h d):a3i t (p++h) d
def aO1: ∀(t:G.T) (L n:Nat),jV t<6000000->jV t+4<=L->jV t+6<=n->∃l:List G.T,bR L n 8 [yR 3 t]=some [yS 3 l]/\bR L n 9 [yR 3 t]=some [yS 3 l]/\eZ l<=jV t+1/\aPH t l:=by
 intro t;induction t using C3 with
 |h k nm v l ih=>
  intro L n hw hL hn;obtain⟨n,rfl⟩:=sK n 6 (by omega)
  generalize ht:G.T.mk k nm v l=t at*;have hl:t.args=l:=by subst ht;rfl
  have fw: ∃q:List G.T,some [(yS 3 [t]:TV U0.D)]=some [yS 3 q]/\some [(yS 3 [t]:TV U0.D)]=some [yS 3 q]/\eZ q<=jV t+1/\aPH t q:=⟨[t],rfl,rfl,by simp[eZ],.one t⟩
  rw[c8,F8,a2z,aEH,jY,c9,F9,a2x,aEG,jY];show∃q:List G.T,bS (zT t [105,102] 3) _ _=_/\bS (zT t [105,102] 3) _ _=_/\_;cases hi:zT t [105,102] 3 with
  |false=>exact fw
  |true=>
   obtain⟨_,_,h3⟩:=aEf (k:=3) hi;obtain⟨a,ea,sa⟩:=BX (t:=t) (k:=0) (by omega)
   obtain⟨b,eb,sb⟩:=BX (t:=t) (k:=1) (by omega)
   obtain⟨d,ed,sd⟩:=BX (t:=t) (k:=2) (by omega)
   have ia:dE t.args (0:Int)=some a:=(bW t.args 0).trans ea;have ib:dE t.args (1:Int)=some b:=(bW t.args 1).trans eb;have id:dE t.args (2:Int)=some d:=(bW t.args 2).trans ed;rw[bP,bP,id,cM,cM,aXj (by omega),jY,aXi (by omega) (by omega) (by omega),jY]
   simp only[a12,a2y,a1Z,a2w];cases hd:decide (d=nlT)with
   |false=>exact fw
   |true=>
    have hd:=of_decide_eq_true hd;have ma:a∈l:=by rw[<-hl];exact List.mem_of_getElem? ea
    have mb:b∈l:=by rw[<-hl];exact List.mem_of_getElem? eb
    obtain⟨p,p1,p2,p3,p4⟩:=ih a ma L (n+5) (by omega) (by omega) (by omega)
    obtain⟨q,q1,q2,q3,q4⟩:=ih b mb L (n+5) (by omega) (by omega) (by omega)
    have wf:jV a+jV b+6<=jV t/\t.args=[a,b,d]:=by
     have h5:=JL (t:=t);obtain⟨x,y,z,e⟩: ∃x y z,t.args=[x,y,z]:=by
      cases h6:t.args with
      |nil=>rw[h6]at h3;cases h3
      |cons x r=>cases r with
       |nil=>rw[h6]at h3;cases h3
       |cons y r=>cases r with
        |nil=>rw[h6]at h3;cases h3
        |cons z r=>cases r with
         |nil=>exact⟨x,y,z,rfl⟩
         |cons w r=>rw[h6]at h3;simp at h3
     rw[e]at ea eb ed h5;simp only[aU,aT,aA]at ea eb ed;subst ea;subst eb;subst ed;simp only[eZ]at h5;exact⟨by omega,e⟩
    obtain⟨wf,xu⟩:=wf;have hp:=oH p;have hq:=oH q;rw[bP,bP,ia,cM,ib,cM,p1,GG,q1,GG,cM,cM,p2,GG,q2,GG];have hb:Nat.ble ((p.length+q.length)*176) 1073741824=true:=aFH (by omega)
    simp only[];rw[hb,fA];exact⟨p++q,rfl,rfl,by rw[tsz'_ap];omega,.two hi (by rw[xu,hd]) p4 q4⟩
def aBC{t:G.T}{a b:G.T}(h:t.args.length=2)(ea:t.args[0]?=some a)(eb:t.args[1]?=some b):t.args=[a,b]/\jV a+jV b+6<=jV t:=by
 have h5:=JL (t:=t);obtain⟨x,y,e⟩: ∃x y,t.args=[x,y]:=by
  cases h6:t.args with
  |nil=>rw[h6]at h;cases h
  |cons x r=>cases r with
   |nil=>rw[h6]at h;cases h
   |cons y r=>cases r with
    |nil=>exact⟨x,y,rfl⟩
    |cons z r=>rw[h6]at h;simp at h
 rw[e]at ea eb h5;simp only[aU,aT,aA]at ea eb;subst ea;subst eb;simp only[eZ]at h5;exact⟨e,by omega⟩
def aKy{L n:Nat}: ∀(t:G.T) (m:Nat) (acc:List G.T),jV t<m->eZ acc+jV t<6000000->eZ acc+jV t+4<=L->eZ acc+jV t+6<=n->
    ∃(h:List G.T) (d:G.T),aA5 (bR L n) L m acc t bA5=some [yS 3 h,yR 3 d]/\aA4 (bR L n) L m acc t bA5=some [yS 3 h,yR 3 d]/\eZ h+jV d<=eZ acc+jV t/\∃q,h=acc++q/\a3i t q d:=by
 intro t;induction t using C3 with
 |h k nm v l ih=>
  intro m acc hm hw hL hn;obtain⟨m,rfl⟩:=sK m 1 (by omega)
  obtain⟨n,rfl⟩:=sK n 2 (by omega)
  generalize ht:G.T.mk k nm v l=t at*;have hl:t.args=l:=by subst ht;rfl
  rw[aA5,a2E,aEH,jY,aA4,a2D,aEG,jY];show∃(h:List G.T) (d:G.T),bS (zT t [105,109,112,108,105,101,115] 2) _ _=_/\bS (zT t [105,109,112,108,105,101,115] 2) _ _=_/\_;cases hi:zT t [105,109,112,108,105,101,115] 2 with
  |false=>exact⟨acc,t,rfl,rfl,aS _,[],by simp,.zero t⟩
  |true=>
   obtain⟨_,_,h3⟩:=aEf (k:=2) hi;obtain⟨a,ea,sa⟩:=BX (t:=t) (k:=0) (by omega)
   obtain⟨b,eb,sb⟩:=BX (t:=t) (k:=1) (by omega)
   obtain⟨xu,wf⟩:=aBC h3 ea eb;have ia:dE t.args (0:Int)=some a:=(bW t.args 0).trans ea;have ib:dE t.args (1:Int)=some b:=(bW t.args 1).trans eb;have mb:b∈l:=by rw[<-hl];exact List.mem_of_getElem? eb
   obtain⟨p,p1,p2,p3,p4⟩:=aO1 a L (n+2) (by omega) (by omega) (by omega)
   have h1:=oH acc;have h2:=oH p;have hb:Nat.ble ((acc.length+p.length)*176) 1073741824=true:=aFH (by omega)
   rw[bP,bP,ia,cM,cM,p1,GG,p2,GG];simp only[];rw[hb,fA,fA,ib,cM,cM];obtain⟨h,d,g1,g2,g3,q,g4,g5⟩:=ih b mb m (acc++p) (by omega) (by rw[tsz'_ap];omega) (by rw[tsz'_ap];omega) (by rw[tsz'_ap];omega)
   exact⟨h,d,g1,g2,by rw[tsz'_ap]at g3;omega,p++q,by rw[g4,aQ],.suc hi xu p4 g5⟩
def a5P(t:G.T)(L n:Nat)(hw:jV t<6000000)(hL:jV t+4<=L)(hn:jV t+7<=n):
    ∃(h:List G.T) (d:G.T),bR L n 4 [yR 3 t]=some [yS 3 h,yR 3 d]/\bR L n 5 [yR 3 t]=some [yS 3 h,yR 3 d]/\eZ h+jV d<=jV t/\a3i t h d:=by
 obtain⟨n,rfl⟩:=sK n 1 (by omega)
 obtain⟨h,d,g1,g2,g3,q,g4,g5⟩:=aKy (L:=L) (n:=n) t L [] (by omega) (by simp only[eZ];omega) (by simp only[eZ];omega) (by simp only[eZ];omega)
 refine⟨h,d,?_,?_,by simp only[eZ]at g3;omega,by rw[g4,aW];exact g5⟩
 .rw[c4];exact g1
 .rw[c5];exact g2
end Go.TV
namespace Go.TV
open Go.AI Go.PI Go.Proofs
def SP(x:Int):Bool:=decide (x=32)||decide (x=9)||decide (x=10)||decide (x=13)
def GV(x:Int):Bool:=decide (33<=x)&&decide (x<=126)&& !decide (x=40)&& !decide (x=41)&& !decide (x=39)&& !decide (x=34)&& !decide (x=59)&& !decide (x=124)&& !decide (x=58)
def u8(x:UInt8):Int:=(x.toNat:Int)
def bAH(x:Int)(L n:Nat):bR L (n+1) 183 [⟨.int .u8,x⟩]=some [yB (SP x)]:=by
 rw[bHT];simp only[a2h,Vd,UA,Vc,SP];generalize decide (x=32)=a,decide (x=9)=b,decide (x=10)=d,decide (x=13)=e;cases a<;>cases b<;>cases d<;>cases e<;>rfl
def aPG(x:Int)(L n:Nat):bR L (n+1) 187 [⟨.int .u8,x⟩]=some [yB (GV x)]:=by
 rw[bHR];simp only[a2f,U8,Uy,U7,GV];generalize decide (33<=x)=a,decide (x<=126)=b,decide (x=40)=d,decide (x=41)=e,decide (x=39)=f,decide (x=34)=g,decide (x=59)=h,decide (x=124)=i,decide (x=58)=j;cases a
 .rfl
 cases b
 .rfl
 cases d
 case true=>rfl
 cases e
 case true=>rfl
 cases f
 case true=>rfl
 cases g
 case true=>rfl
 cases h
 case true=>rfl
 cases i
 case true=>rfl
 cases j<;>rfl
def aEJ{s:List UInt8}{k:Nat}{a b:Int}(hb:s.length<1000000000)(hk:k<=s.length)(h: ∀x,s[k]?=some x->u8 x≠a)(L n:Nat):bR L (n+1) 184 [yT s,yI (k:Int),⟨.int .u8,a⟩,⟨.int .u8,b⟩]=some [yB false]:=by
 rw[bHS];have e0:decide ((0:Int)<=(k:Int))=true:=by simp
 simp only[a2g,Vb,Uz,Va,e0,bP];cases h1:decide (IntKind.i64.wrap ((k:Int)+1)<(s.length:Int))with
 |false=>rfl
 |true=>
  rw[bP,bW];cases h2:s[k]? with
  |none=>
   exfalso;have:=List.getElem?_eq_none_iff.1 h2;simp only[aD]at h1;rw[fF (by omega)]at h1
   omega
  |some x=>
   have:=h x h2;have e1:decide ((x.toNat:Int)=a)=false:=by simpa [u8]using this
   rw[cM,e1];rfl
def aM3{c:bU}{L:Nat}{s r:List UInt8}(hc: ∀x,c 187 [⟨.int .u8,x⟩]=some [yB (GV x)])(hb:s.length<1000000000)(hr: ∀y,r.head?=some y->GV (u8 y)=false):
    ∀(w:List UInt8) (k m:Nat),s.drop k=w++r->w.length<m->(∀x∈w,GV (u8 x)=true)->zY c L m s (k:Int)=some [yI ((k+w.length:Nat):Int)]:=by
 intro w;induction w with
 |nil=>
  intro k m h1 h2 _;obtain⟨m,rfl⟩:=sK m 1 (by simp at h2;omega)
  rw[zY,MV];rw[aW]at h1;cases r with
  |nil=>
   have e1:=dH h1;have e3:decide ((k:Int)<(s.length:Int))=false:=by simp;omega
   rw[e3,bM,Fu,FE,bM];rfl
  |cons y r=>
   obtain⟨a1,a2,a3⟩:=dL h1;have e3:decide ((k:Int)<(s.length:Int))=true:=by simp;omega
   have e4:GV (y.toNat:Int)=false:=hr y rfl;rw[e3,bP,bW,a1,cM,hc,jY,Fu,FE,e4,bM];rfl
 |cons x w ih=>
  intro k m h1 h2 h3;obtain⟨m,rfl⟩:=sK m 1 (by simp at h2;omega)
  rw[zY,MV];obtain⟨a1,a2,a3⟩:=dL h1;have e3:decide ((k:Int)<(s.length:Int))=true:=by simp;omega
  have e4:GV (x.toNat:Int)=true:=h3 x (aH ..);rw[e3,bP,bW,a1,cM,hc,jY,Fu,FE,e4,bP,fF (by omega)]
  rw[ih (k+1) m a3 (by simp at h2;omega) λz hz=>h3 z (aG _ hz)]
  simp only[aM];congr 4;omega
def bAb{s w r:List UInt8}{k L n:Nat}(hb:s.length<1000000000)(hL:s.length<L)(h:s.drop k=w++r)(hw: ∀x∈w,GV (u8 x)=true)(hr: ∀y,r.head?=some y->GV (u8 y)=false):
    bR L (n+2) 188 [yT s,yI (k:Int)]=some [yI ((k+w.length:Nat):Int)]:=by
 have:=congrArg List.length h;simp at this;show bR L (n+1+1) 188 _=_;rw[bHQ,a2e,U6];exact aM3 (λx=>aPG x L n) hb hr w k L h (by omega) hw
def aM8{c:bU}{L:Nat}{s r:List UInt8}(hc: ∀x,c 183 [⟨.int .u8,x⟩]=some [yB (SP x)])
    (hh: ∀k:Nat,k<=s.length->(∀x,s[k]?=some x->u8 x≠35)->c 184 [yT s,yI (k:Int),⟨.int .u8,(35:Int)⟩,⟨.int .u8,(124:Int)⟩]=some [yB false])
    (hb:s.length<1000000000) (hr: ∀y,r.head?=some y->SP (u8 y)=false/\u8 y≠59/\u8 y≠35):
    ∀(w:List UInt8) (k m:Nat),s.drop k=w++r->w.length<m->(∀x∈w,SP (u8 x)=true)->tE c L m s (k:Int)=some [yI ((k+w.length:Nat):Int),yB true]:=by
 intro w;induction w with
 |nil=>
  intro k m h1 h2 _;obtain⟨m,rfl⟩:=sK m 1 (by simp at h2;omega)
  rw[tE,M8];rw[aW]at h1;cases r with
  |nil=>
   have e1:=dH h1;have e3:decide ((k:Int)<(s.length:Int))=false:=by simp;omega
   rw[e3,bM];rfl
  |cons y r=>
   obtain⟨a1,a2,a3⟩:=dL h1;have e3:decide ((k:Int)<(s.length:Int))=true:=by simp;omega
   obtain⟨e4,e5,e6⟩:=hr y rfl;have e4:SP (y.toNat:Int)=false:=e4;have e7:decide ((y.toNat:Int)=59)=false:=by simpa [u8]using e5
   have h8:=hh k (by omega) λx hx=>by rw[a1]at hx;cases hx;exact e6
   rw[e3,bP,bW,a1,cM,hc,jY,e4,bM,cM,e7,bM,h8,jY,bM];rfl
 |cons x w ih=>
  intro k m h1 h2 h3;obtain⟨m,rfl⟩:=sK m 1 (by simp at h2;omega)
  rw[tE,M8];obtain⟨a1,a2,a3⟩:=dL h1;have e3:decide ((k:Int)<(s.length:Int))=true:=by simp;omega
  have e4:SP (x.toNat:Int)=true:=h3 x (aH ..);rw[e3,bP,bW,a1,cM,hc,jY,e4,bP,fF (by omega)]
  rw[ih (k+1) m a3 (by simp at h2;omega) λz hz=>h3 z (aG _ hz)]
  simp only[aM];congr 4;omega
def aPs{s w r:List UInt8}{k L n:Nat}(hb:s.length<1000000000)(hL:s.length<L)(h:s.drop k=w++r)(hw: ∀x∈w,SP (u8 x)=true)(hr: ∀y,r.head?=some y->SP (u8 y)=false/\u8 y≠59/\u8 y≠35):
    bR L (n+2) 144 [yT s,yI (k:Int)]=some [yI ((k+w.length:Nat):Int),yB true]:=by
 have:=congrArg List.length h;simp at this;show bR L (n+1+1) 144 _=_;rw[bH1,a2p,Vy];exact aM8 (λx=>bAH x L n) (λk h6 hk=>aEJ hb h6 hk L n) hb hr w k L h (by omega) hw
end Go.TV
namespace Go.TV
open Go.AI Go.PI Go.Proofs
def aJ5{N:Type}{s w r:List N}{k:Nat}(h:s.drop k=w++r)(hk:k<=s.length):slc s (k:Int) ((k+w.length:Nat):Int)=some w:=by
 have hl:=congrArg List.length h;simp at hl;unfold slc;have e1:decide ((0:Int)<=(k:Int))=true:=by simp
 have e2:decide ((k:Int)<=((k+w.length:Nat):Int))=true:=by simp;omega
 have e3:decide (((k+w.length:Nat):Int)<=(s.length:Int))=true:=by simp only[aD];omega
 rw[e1,e2,e3];simp only[Bool.and_self,aI,Int.toNat_natCast,aA];rw[List.drop_take,h];simp
def aDI{W:Type}{a b:List UInt8}{d:Bool}{K:List UInt8×List UInt8×Bool×Unit->Option W}:fY (D:=U0.D) [.str,.str,.bool] (some [yT a,yT b,yB d]) K=K (a,b,d,()):=rfl
def aW3{W:Type}{a:G.X}{K:G.X×Unit->Option W}:sI (some [yR 19 a]) K=K (a,()):=rfl
def JI{W:Type}{a:Int}{b:Bool}{K:Int×Bool×Unit->Option W}:uV (some [yI a,yB b]) K=K (a,b,()):=rfl
def aDJ{W:Type}{a:Int}{K:Int×Unit->Option W}:jB (some [yI a]) K=K (a,()):=rfl
def Xg{W:Type}{a:List UInt8}{K:List UInt8×Unit->Option W}:jQ (some [yT a]) K=K (a,()):=rfl
def aW4{W:Type}{a b:List UInt8}{K:List UInt8×List UInt8×Unit->Option W}:fY (D:=U0.D) [.str,.str] (some [yT a,yT b]) K=K (a,b,()):=rfl
def aW7{W:Type}{a:G.K}{b:Int}{d:G.X}{K:G.K×Int×G.X×Unit->Option W}:fY (D:=U0.D) [.rc 20,.int .i64,.rc 19] (some [yR 20 a,yI b,yR 19 d]) K=K (a,b,d,()):=rfl
def aPu{x:UInt8}{w:List UInt8}(h1:u8 x≠45)(h2:u8 x<48∨57<u8 x)(L n:Nat):bR (L+1) (n+1) 190 [yT (x::w)]=some [yT [],yT [],yB false]:=by
 rw[a9p];have e1:decide ((0:Int)<((x::w).length:Int))=true:=by simp
 have e2:decide ((x.toNat:Int)=45)=false:=by simpa [u8]using h1
 have e3:dE (x::w) (0:Int)=some x:=rfl;rw[aNr,U5,e1,bP,e3,cM,e2,Ux,U4,bM,Uw,U3,B1,U2,e1,bP,e3,cM];have key: ∀b:Bool,b=false->Uv (bR (L+1) n) (L+1) (B1 (bR (L+1) n) (L+1) L) b 0 (x::w) 0=some [yT [],yT [],yB false]:=by
  intro b hb;subst hb;rfl
 cases h3:decide ((48:Int)<=(x.toNat:Int))with
 |false=>exact key _ rfl
 |true=>
  rw[bP,cM];have h4:decide ((x.toNat:Int)<=(57:Int))=false:=by
   simp only[aD]at h3;simp only[bC];simp only[u8]at h2;omega
  exact key _ h4
def bAx{k p:Int}{w:List UInt8}(h:w.length<=40)(L n:Nat):bR L (n+1) 186 [yR 20 ⟨k,p,[],w,[]⟩,yB false]=some [yR 19 ⟨0,0⟩]:=by
 rw[a9q];have e1:decide ((40:Int)<(w.length:Int))=false:=by simp;omega
 simp only[aNs,U9,e1,bM];rfl
structure aHu(c:bU)(w:List UInt8):Prop where
 a:c 190 [yT w]=some [yT w,yT [49],yB true]
 b:c 191 [yT [49]]=some [yT [49]]
 d:c 191 [yT w]=some [yT w]
 e:c 101 [yT w,yT [49]]=some [yT w,yT [49]]
 f:c 192 [yT w]=some [yI 1]
 g:c 192 [yT [49]]=some [yI 1]
def SyW(w:List UInt8):Prop:= ∃x l,w=x::l/\u8 x≠45/\(u8 x<48∨57<u8 x)/\w≠ [46]/\w.length<=40
def XL{x:Int}(h:GV x=true):x≠40/\x≠41/\x≠39/\x≠34/\x≠59/\x≠124/\x≠58:=by
 simp only[GV,aC,Bool.not_eq_true',bC]at h;obtain⟨⟨⟨⟨⟨⟨⟨_,h1⟩,h2⟩,h3⟩,h4⟩,h5⟩,h6⟩,h7⟩:=h;exact⟨h1,h2,h3,h4,h5,h6,h7⟩
def bBu(b:Bool)(p:Int)(w:List UInt8):G.K:=bif b then⟨5,p,[],w,[49]⟩else⟨6,p,[],w,[]⟩
def bIi{s w r:List UInt8}{k L n:Nat}{nu:Bool}(hb:s.length<1000000000)(hL:s.length<L)(h:s.drop k=w++r)(h0:w≠ [])(hw: ∀x∈w,GV (u8 x)=true)(hr: ∀y,r.head?=some y->GV (u8 y)=false/\u8 y≠58)
    (hk:(nu=true/\aHu (bR L (n+2)) w)∨(nu=false/\SyW w)):
    bR L (n+3) 145 [yT s,yI (k:Int)]=some [yR 20 (bBu nu (k:Int) w),yI ((k+w.length:Nat):Int),yR 19 ⟨0,0⟩]:=by
 have hl:=congrArg List.length h;simp at hl;obtain⟨L,rfl⟩:=sK L 1 (by omega)
 cases hw0:w with
 |nil=>exact(h0 hw0).elim
 |cons x l=>
  rw[<-hw0];have hx:x∈w:=by rw[hw0];exact aH ..
  have h1:s.drop k=x::(l++r):=by rw[h,hw0];rfl
  obtain⟨a1,a2,a3⟩:=dL h1;obtain⟨q1,q2,q3,q4,q5,q6,q7⟩:=XL (hw x hx);have d1:decide ((x.toNat:Int)=40)=false:=by simpa [u8]using q1
  have d2:decide ((x.toNat:Int)=41)=false:=by simpa [u8]using q2
  have d3:decide ((x.toNat:Int)=39)=false:=by simpa [u8]using q3
  have d4:decide ((x.toNat:Int)=34)=false:=by simpa [u8]using q4
  have d5:decide ((x.toNat:Int)=124)=false:=by simpa [u8]using q6
  have d6:GV (x.toNat:Int)=true:=hw x hx;have hwd:=bAb (n:=n) hb hL h hw (λy hy=>(hr y hy).1)
  have cy:=aJ5 h (by omega)
  have hhs:bR (L+1) (n+2) 184 [yT s,yI ((k+w.length:Nat):Int),⟨.int .u8,(58:Int)⟩,⟨.int .u8,(58:Int)⟩]=some [yB false]:=by
   refine aEJ hb (by omega) (λy hy=>?_) (L+1) (n+1)
   have:s.drop (k+w.length)=r:=by rw[<-List.drop_drop,h];simp
   rw[<-List.head?_drop,this]at hy;exact(hr y hy).2
  show bR (L+1) (n+2+1) 145 _=_;rw[a1i,aHX,FI,bW,a1,cM,d1,bM,d2,bM,d3,bM,d4,bM,d5,bM,aPG,jY,d6];simp only[bD,bM];rw[hwd,aDJ];show ob (slc s (k:Int) ((k+w.length:Nat):Int)) _=_;rw[cy,cM,hhs,jY,bM];rcases hk with⟨rfl,hn⟩|⟨rfl,x',l',e1,e2,e3,e4,e5⟩
  .rw[hn.a,aDI];have e4:decide (w=([46]:List UInt8))=false:=by
    cases hd:decide (w=([46]:List UInt8))with
    |false=>rfl
    |true=>
     exfalso;simp only[aD]at hd;have h2:=hn.a;rw[hd]at h2;rw[aPu (x:=46) (w:=[]) (by decide) (by decide)]at h2
     cases h2
   rw[e4,bM];simp only[bP];rw[hn.b,Xg];show bS (decide (([49]:List UInt8)=[48])) _ _=_;rw[show decide (([49]:List UInt8)=[48])=false by decide,bM,hn.d,Xg,Xg]
   show fY (D:=U0.D) [.str,.str] (bR (L+1) (n+2) 101 [yT w,yT [49]]) _=_;rw[hn.e,aW4];show jB (bR (L+1) (n+2) 192 [yT w]) _=_;rw[hn.f,aDJ];show bS (decide ((100:Int)<1)) _ _=_;rw[show decide ((100:Int)<1)=false by decide,bM]
   show jB (bR (L+1) (n+2) 192 [yT [49]]) _=_;rw[hn.g,aDJ];rfl
  .rw[e1,aPu e2 e3,<-e1,aDI];have e6:decide (w=([46]:List UInt8))=false:=by simpa using e4
   rw[e6,bM];simp only[bM];rw[bAx e5,aW3];rfl
def bAt{s r:List UInt8}{k L n:Nat}(hb:s.length<1000000000)(h:s.drop k=40::r):bR L (n+1) 145 [yT s,yI (k:Int)]=some [yR 20 ⟨1,(k:Int),[],[],[]⟩,yI ((k+1:Nat):Int),yR 19 ⟨0,0⟩]:=by
 obtain⟨a1,a2,a3⟩:=dL h;rw[a1i,aHX,FI,bW,a1,cM,fF (by omega)]
 rfl
def bAu{s r:List UInt8}{k L n:Nat}(hb:s.length<1000000000)(h:s.drop k=41::r):bR L (n+1) 145 [yT s,yI (k:Int)]=some [yR 20 ⟨2,(k:Int),[],[],[]⟩,yI ((k+1:Nat):Int),yR 19 ⟨0,0⟩]:=by
 obtain⟨a1,a2,a3⟩:=dL h;rw[a1i,aHX,FI,bW,a1,cM,fF (by omega)]
 rfl
end Go.TV
namespace Go.TV
open Go.AI Go.PI Go.Proofs
structure cY(s:G.Z):Prop where
 b: ∀x∈s.b,0<=x/\x<256
 p0:0<=s.pos
 p1:s.pos<=(s.b.length:Int)
 l:s.b.length<=100
def bIj(x:Rt)(a:Int):Prop:= ∃(r:Int) (s:G.Z),x=some [yI r,yR 0 s]/\0<=r/\r<a/\cY s
def lC{W:Type}{a:Int}{b:G.Z}{K:Int×G.Z×Unit->Option W}:rB (some [yI a,yR 0 b]) K=K (a,b,()):=rfl
def bAw{s:G.Z}{a:Int}{L n:Nat}(h:cY s)(h1:1<=a):bIj (bR L (n+1) 20 [yI a,yR 0 s]) a:=by
 rw[c20,bIv,aIn];cases e1:decide ((s.b.length:Int)<=s.pos)with
 |true=>exact⟨0,s,rfl,Int.le_refl _,by omega,h⟩
 |false=>
  have e2:decide (a<(1:Int))=false:=by simp;omega
  simp only[bC]at e1;rw[bM,e2,aHx,aIm,bM];obtain⟨k,hk⟩: ∃k:Nat,s.pos=(k:Int):=⟨s.pos.toNat,by have:=h.p0;omega⟩
  have hl:=h.l;have hkl:k<s.b.length:=by omega
  have e3:s.b[k]?=some s.b[k]:=aV hkl;obtain⟨q1,q2⟩:=h.b s.b[k] (List.getElem_mem hkl);generalize s.b[k]=v at e3 q1 q2;have e4:IntKind.i64.wrap (((k+1:Nat):Int)-1)=(k:Int):=by
   rw[show((k+1:Nat):Int)-1=(k:Int) by omega];exact aBm (by omega)
  obtain⟨m,rfl⟩: ∃m:Nat,v=(m:Int):=⟨v.toNat,by omega⟩
  rw[hk,fF (by omega),e4,bW,e3,cM,show decide (a=0)=false by simp;omega]
  simp only[Bool.not_false,fA];rw[aBm (by omega)]
  exact⟨_,_,rfl,Int.tmod_nonneg _ q1,Int.tmod_lt_of_pos _ (by omega),⟨h.b,by show(0:Int)<=((k+1:Nat):Int);omega,by show((k+1:Nat):Int)<=(s.b.length:Int);omega,h.l⟩⟩
def NQ(e:G.E):List G.F:=bif decide (e.kind=3)||decide (e.kind=5)||decide (e.kind=6)||decide (e.kind=7)then e.functions else []
def aPD(e:G.E)(L n:Nat):bR L (n+1) 129 [yR 15 e]=some [yS 7 (NQ e)]:=by
 rw[a1j];simp only[aHY,NG,ML,NF,NQ];generalize decide (e.kind=3)=a,decide (e.kind=5)=b,decide (e.kind=6)=d,decide (e.kind=7)=f;cases a<;>cases b<;>cases d<;>cases f<;>rfl
def bAs(E:List G.E)(x:Rt):Prop:= ∃(i k:Int) (b:Bool),x=some [yI i,yI k,yB b]/\(b=true->∃(i' k':Nat) (e:G.E),i=i'/\k=k'/\E[i']?=some e/\k'<(NQ e).length)
def aDL{W:Type}{a:List G.F}{K:List G.F×Unit->Option W}:fY (D:=U0.D) [.sl (.rc 7)] (some [yS 7 a]) K=K (a,()):=rfl
def bAr{E:List G.E}{f:G.Y}{c:bU}{L:Nat}{n1:List G.E->Int->G.Y->Rt}{i:Nat}{e:G.E}(he:E[i]?=some e)(hb:(NQ e).length<1000000000)(hn:bAs E (n1 E (IntKind.i64.wrap ((i:Int)+1)) f)):
    ∀(r:List G.F) (k m:Nat),(NQ e).drop k=r->r.length<m->bAs E (qL c L n1 m (NQ e) (k:Int) (i:Int) E f):=by
 intro r;induction r with
 |nil=>
  intro k m h1 h2;obtain⟨m,rfl⟩:=sK m 1 (by simp at h2;omega)
  have e1:=dH h1;have e3:decide ((k:Int)<((NQ e).length:Int))=false:=by simp;omega
  rw[qL,Cf,e3,bM];exact hn
 |cons x r ih=>
  intro k m h1 h2;obtain⟨m,rfl⟩:=sK m 1 (by simp at h2;omega)
  obtain⟨a1,a2,a3⟩:=dL h1;have e3:decide ((k:Int)<((NQ e).length:Int))=true:=by simp;omega
  rw[qL,Cf,e3,bP,bW,a1,cM,fF (by omega)]
  cases decide (x.name=f)with
  |true=>exact⟨_,_,true,rfl,λ_=>⟨i,k,e,rfl,rfl,he,a2⟩⟩
  |false=>exact ih (k+1) m a3 (by simp at h2;omega)
def a1W{E:List G.E}{f:G.Y}{c:bU}{L:Nat}(hb:E.length<1000000)(hf: ∀e∈E,(NQ e).length<L/\(NQ e).length<1000000)(hc: ∀e:G.E,c 129 [yR 15 e]=some [yS 7 (NQ e)]):
    ∀(r:List G.E) (k m:Nat),E.drop k=r->r.length<m->bAs E (pH c L m E (k:Int) f):=by
 intro r;induction r with
 |nil=>
  intro k m h1 h2;obtain⟨m,rfl⟩:=sK m 1 (by simp at h2;omega)
  have e1:=dH h1;have e3:decide ((k:Int)<(E.length:Int))=false:=by simp;omega
  rw[pH,Cg,e3,bM];exact⟨0,0,false,rfl,λh=>by cases h⟩
 |cons x r ih=>
  intro k m h1 h2;obtain⟨m,rfl⟩:=sK m 1 (by simp at h2;omega)
  obtain⟨a1,a2,a3⟩:=dL h1;have e3:decide ((k:Int)<(E.length:Int))=true:=by simp;omega
  rw[pH,Cg,e3,bP,bW,a1,cM,hc,aDL];obtain⟨g1,g2⟩:=hf x (List.mem_of_getElem? a1);refine bAr a1 (by omega) ?_ (NQ x) 0 L rfl g1
  rw[fF (by omega)]
  exact ih (k+1) m a3 (by simp at h2;omega)
structure a3h(E:List G.E):Prop where
 l:E.length<=1000
 f: ∀e∈E,e.functions.length<=1000
 p: ∀e∈E,∀f∈e.functions,f.params.length<=3
def aLw{e:G.E}{f:G.F}(h:f∈NQ e):f∈e.functions:=by
 unfold NQ at h;revert h;cases decide (e.kind=3)||decide (e.kind=5)||decide (e.kind=6)||decide (e.kind=7)with
 |true=>exact id
 |false=>intro h;cases h
def aLx(e:G.E):(NQ e).length<=e.functions.length:=by
 unfold NQ;cases decide (e.kind=3)||decide (e.kind=5)||decide (e.kind=6)||decide (e.kind=7)with
 |true=>exact aS _
 |false=>exact Nat.zero_le _
def aW5{W:Type}{a b:Int}{d:Bool}{K:Int×Int×Bool×Unit->Option W}:fY (D:=U0.D) [.int .i64,.int .i64,.bool] (some [yI a,yI b,yB d]) K=K (a,b,d,()):=rfl
def aXd{W:Type}{a:G.F}{d:Bool}{K:G.F×Bool×Unit->Option W}:fY (D:=U0.D) [.rc 7,.bool] (some [yR 7 a,yB d]) K=K (a,d,()):=rfl
def bAA{E:List G.E}(hE:a3h E)(f:G.Y){L n:Nat}(hL:2000<=L): ∃(g:G.F) (b:Bool),bR L (n+3) 99 [yS 15 E,yR 1 f]=some [yR 7 g,yB b]/\g.params.length<=3:=by
 have h94:bAs E (bR L (n+2) 128 [yS 15 E,yR 1 f]):=by
  show bAs E (bR L (n+1+1) 128 _);rw[a1k,aHZ,NH];have:=hE.l;exact a1W (by omega) (λe he=>by have:=hE.f e he;have:=aLx e;omega) (λe=>aPD e L n) E 0 L rfl (by omega)
 obtain⟨i,k,b,h94,hb⟩:=h94;show∃(g:G.F) (b:Bool),bR L (n+2+1) 99 _=_/\_;rw[bHC,bAB,aH6,h94,aW5];cases b with
 |false=>exact⟨_,_,rfl,Nat.zero_le _⟩
 |true=>
  obtain⟨i',k',e,rfl,rfl,h1,h2⟩:=hb rfl;have h3:(NQ e)[k']?=some (NQ e)[k']:=aV h2;simp only[bD,bM];rw[bW,h1,cM,aPD,aDL];simp only[bW,h3,cM];exact⟨_,_,rfl,hE.p e (List.mem_of_getElem? h1) _ (aLw (List.getElem_mem h2))⟩
def aKn:(rowsL.all λr=>decide (0<=r.arity)&&decide (r.arity<=3))=true:=by kernel_rfl
def G7: ∀(l:List G.R),(l.all λr=>decide (0<=r.arity)&&decide (r.arity<=3))=true->∀s k,sX s l=some k->0<=k/\k<=3
 |[],_,s,k,h=>by cases h
 |r::l,h,s,k,hk=>by
  simp only[aP,aC,aD]at h;simp only[sX]at hk;split at hk
  .simp only[aA]at hk;subst hk;exact h.1
  .exact G7 l h.2 s k hk
def bAT(x:Rt):Prop:= ∃(k:Nat) (b:Bool),x=some [yI (k:Int),yB b]/\k<=3
def bAS{E:List G.E}(hE:a3h E)(f:G.Y){L n:Nat}(hL:2000<=L):bAT (bR L (n+4) 61 [yS 15 E,yR 1 f]):=by
 have h55:=VU f L (n+1) (by omega)
 show bAT (bR L (n+3+1) 61 _);rw[bHE,bAD,aIa];show bAT (uV (bR L (n+1+2) 98 [yR 1 f]) _);rw[h55];cases ha:arity f with
 |some k=>
  obtain⟨g1,g2⟩:0<=k/\k<=3:=by
   unfold arity at ha;split at ha
   .exact G7 rowsL aKn _ _ ha
   .cases ha
  obtain⟨m,rfl⟩: ∃m:Nat,k=(m:Int):=⟨k.toNat,by omega⟩
  exact⟨m,true,rfl,by omega⟩
 |none=>
  simp only[oI];rw[JI,bM];obtain⟨g,b,h1,h2⟩:=bAA (n:=n) hE f hL;rw[h1,aXd];cases b with
  |false=>exact⟨0,false,rfl,by omega⟩
  |true=>exact⟨g.params.length,true,rfl,h2⟩
end Go.TV
namespace Go.TV
open Go.AI Go.PI Go.Proofs
def aFr{t u:Ty}{x:Den U0.D t}{y:Den U0.D u}(h:SG t u x=some y):(⟨t,x⟩:TV U0.D)=⟨u,y⟩:=by
 unfold SG at h;split at h
 .rename_i e _;subst e;simp only[aA]at h;subst h;rfl
 .cases h
def Qj: ∀{ts:List Ty} {d:kA} {r:DenL U0.D ts},fN ts d=some r->d=aJx ts r
 |[],[],_,_=>rfl
 |[],_::_,_,h=>by cases h
 |_::_,[],_,h=>by cases h
 |t::ts,v::d,r,h=>by
  simp only[fN]at h;split at h
  .rename_i x q h1 h2;simp only[aA]at h;subst h;show v::d=⟨t,x⟩::aJx ts q;rw[<-Qj h2,<-aFr h1]
  .cases h
def hx(ts:List Ty)(d:kA)(K:DenL U0.D ts->Rt)(z:Rt):Rt:=match fN ts d with|some r=>K r|none=>z
def a8g{ts:List Ty}{d:kA}{K:DenL U0.D ts->Rt}{z:Rt}(h: ∀r,d=aJx ts r->K r=z):hx ts d K z=z:=by
 unfold hx;split
 .rename_i r e;exact h r (Qj e)
 .rfl
def Hk(i:Nat)(h:bU->Nat->kA->Rt->Rt)(L m:Nat)(d:kA):Prop:=h (bR L m) L d (bR L (m+1) i d)=bR L (m+1) i d
def evq{b:Bool}{x y z:Rt}(h1:b=true->x=z)(h2:y=z):(bif b then x else y)=z:=by cases b;exact h2;exact h1 rfl
def evc{b:Bool}{x y z:Rt}(h1:x=z)(h2:y=z):(bif b then x else y)=z:=by cases b;exact h2;exact h1
noncomputable def hG(i:Nat)(c:bU)(L:Nat)(d:kA)(z:Rt):Rt:=
 match rP insL i with
 |some x=>bif Nat.beq x.sig.f orcI.n||Nat.beq x.sig.f orcI.m then z else xF x c (cu c L) d
 |none=>z
def a8j(i L m:Nat)(d:kA):hG i (bR L m) L d (bR L (m+1) i d)=bR L (m+1) i d:=by
 unfold hG;split
 .rename_i x hx;cases hb:Nat.beq x.sig.f orcI.n||Nat.beq x.sig.f orcI.m with
  |true=>rfl
  |false=>exact(cg hx hb L m d).symm
 .rfl
structure HE where
 i:Nat
 h:bU->Nat->kA->Rt->Rt
 ok: ∀L m d,Hk i h L m d
def mH(i:Nat)(ts:List Ty)(F:bU->Nat->DenL U0.D ts->Rt)(ok: ∀(L m:Nat) (r:DenL U0.D ts),bR L (m+1) i (aJx (D:=U0.D) ts r)=F (bR L m) L r):HE:=
 ⟨i,λc L d z=>hx ts d (F c L) z,λL m d=>a8g λr e=>e▸(ok L m r).symm⟩
abbrev HF:=Nat->bU->Nat->kA->Rt->Rt
def bAv(f:HF):Prop:= ∀(i L m:Nat) (d:kA),f i (bR L m) L d (bR L (m+1) i d)=bR L (m+1) i d
noncomputable def gE:HF:=hG
def cB:bAv gE:=a8j
def gG(x:HE)(l r:HF):HF:=λi c L d z=>bif Nat.beq i x.i then x.h c L d z else bif Nat.blt i x.i then l i c L d z else r i c L d z
def cC{x:HE}{l r:HF}(hl:bAv l)(hr:bAv r):bAv (gG x l r):=λi L m d=>
 evq (λe=>by rw[aE e];exact x.ok L m d) (evc (hl i L m d) (hr i L m d))
end Go.TV
namespace Go.TV
open Go.AI Go.PI Go.Proofs
set_option maxRecDepth 20000
noncomputable section
def h2:=mH 2 [(.int .u32)] (λc L r=>F2 c L r.1) λL m r=>c2 r.1 L m
def h15:=mH 15 [.str] (λc L r=>bIx c L r.1) λL m r=>c15 r.1 L m
def h17:=mH 17 [] (λc L _=>bBq c L) λL m _=>bJn L m
def h19:=mH 19 [] (λc L _=>bIw c L) λL m _=>c19 L m
def h26:=mH 26 [.rc 3,.str,i6] (λc L r=>bBn c L r.1 r.2.1 r.2.2.1) λL m r=>bJl r.1 r.2.1 r.2.2.1 L m
def h27:=mH 27 [.rc 2,.rc 2] (λc L r=>a3k c L r.1 r.2.1) λL m r=>bHJ r.1 r.2.1 L m
def aZH:=mH 32 [zS 15,.rc 3,zS 17,i6] (λc L r=>bAG c L r.1 r.2.1 r.2.2.1 r.2.2.2.1) λL m r=>bHH r.1 r.2.1 r.2.2.1 r.2.2.2.1 L m
def h33:=mH 33 [] (λc L _=>bAF c L) λL m _=>bHG L m
def h44:=mH 44 [] (λc L _=>bAE c L) λL m _=>bJk L m
def h46:=mH 46 [.str] (λc L r=>bBm c L r.1) λL m r=>bHF r.1 L m
def h57:=mH 57 [.rc 2] (λc L r=>bIq c L r.1) λL m r=>bJj r.1 L m
def h58:=mH 58 [] (λc L _=>bIp c L) λL m _=>c58 L m
def h59:=mH 59 [] (λc L _=>bIo c L) λL m _=>c59 L m
def h61:=mH 61 [zS 15,.rc 1] (λc L r=>bAD c L r.1 r.2.1) λL m r=>bHE r.1 r.2.1 L m
def h64:=mH 64 [] (λc L _=>bBl c L) λL m _=>bJi L m
def h65:=mH 65 [] (λc L _=>bBk c L) λL m _=>bJh L m
def h66:=mH 66 [i6] (λc L r=>bBj c L r.1) λL m r=>bJg r.1 L m
def h67:=mH 67 [.str,.str] (λc L r=>bBi c L r.1 r.2.1) λL m r=>bJf r.1 r.2.1 L m
def h68:=mH 68 [.rc 1] (λc L r=>bBh c L r.1) λL m r=>bHD r.1 L m
def h69:=mH 69 [.str] (λc L r=>bBg c L r.1) λL m r=>bJe r.1 L m
def h70:=mH 70 [.rc 2,.rc 2] (λc L r=>bBf c L r.1 r.2.1) λL m r=>bJd r.1 r.2.1 L m
def h72:=mH 72 [.rc 3,zS 17,.rc 18] (λc L r=>aHW c L r.1 r.2.1 r.2.2.1) λL m r=>aMK r.1 r.2.1 r.2.2.1 L m
def h90:=mH 90 [] (λc L _=>bIm c L) λL m _=>bJc L m
def h91:=mH 91 [] (λc L _=>bIl c L) λL m _=>bJb L m
def h92:=mH 92 [zS 8,.str,.str] (λc L r=>bAC c L r.1 r.2.1 r.2.2.1) λL m r=>bJa r.1 r.2.1 r.2.2.1 L m
def h98:=mH 98 [.rc 1] (λc L r=>bBe c L r.1) λL m r=>bI9 r.1 L m
def h99:=mH 99 [zS 15,.rc 1] (λc L r=>bAB c L r.1 r.2.1) λL m r=>bHC r.1 r.2.1 L m
def bF6:=mH 100 [i6] (λc L r=>a2u c L r.1) λL m r=>bH5 r.1 L m
def bF5:=mH 101 [.str,.str] (λc L r=>aNY c L r.1 r.2.1) λL m r=>a9Z r.1 r.2.1 L m
def bF4:=mH 102 [zS 17,.rc 1] (λc L r=>aH1 c L r.1 r.2.1) λL m r=>a9Y r.1 r.2.1 L m
def bF3:=mH 103 [.rc 2] (λc L r=>aNX c L r.1) λL m r=>a9X r.1 L m
def bF2:=mH 104 [.rc 1,zS 2] (λc L r=>aNW c L r.1 r.2.1) λL m r=>a9W r.1 r.2.1 L m
def bF1:=mH 105 [zS 1,zS 2] (λc L r=>aH0 c L r.1 r.2.1) λL m r=>a9V r.1 r.2.1 L m
def bF0:=mH 121 [i6,.rc 21] (λc L r=>a2s c L r.1 r.2.1) λL m r=>bH3 r.1 r.2.1 L m
def bFZ:=mH 122 [.rc 2] (λc L r=>aNV c L r.1) λL m r=>a9U r.1 L m
def bFY:=mH 123 [.rc 2] (λc L r=>aNU c L r.1) λL m r=>a9T r.1 L m
def bFX:=mH 124 [.rc 2] (λc L r=>aNT c L r.1) λL m r=>a9S r.1 L m
def bFW:=mH 126 [.rc 3] (λc L r=>a2r c L r.1) λL m r=>bH2 r.1 L m
def bFV:=mH 127 [] (λc L _=>a2q c L) λL m _=>a9R L m
def bFU:=mH 128 [zS 15,.rc 1] (λc L r=>aHZ c L r.1 r.2.1) λL m r=>a1k r.1 r.2.1 L m
def bFT:=mH 129 [.rc 15] (λc L r=>aHY c L r.1) λL m r=>a1j r.1 L m
def bFS:=mH 131 [.str] (λc L r=>aNS c L r.1) λL m r=>a9Q r.1 L m
def bFR:=mH 132 [.str,.str] (λc L r=>aNR c L r.1 r.2.1) λL m r=>a9P r.1 r.2.1 L m
def bFQ:=mH 133 [.sl i6,.sl i6] (λc L r=>aNQ c L r.1 r.2.1) λL m r=>a9O r.1 r.2.1 L m
def bFP:=mH 134 [.bool,.sl i6] (λc L r=>aNP c L r.1 r.2.1) λL m r=>a9N r.1 r.2.1 L m
def bFO:=mH 135 [.str,.rc 2] (λc L r=>aNO c L r.1 r.2.1) λL m r=>a9M r.1 r.2.1 L m
def bFN:=mH 136 [.str,.rc 2,.rc 2] (λc L r=>aNN c L r.1 r.2.1 r.2.2.1) λL m r=>a9L r.1 r.2.1 r.2.2.1 L m
def bFM:=mH 137 [.rc 2] (λc L r=>aNM c L r.1) λL m r=>a9K r.1 L m
def bFL:=mH 146 [i6,.rc 21] (λc L r=>a2o c L r.1 r.2.1) λL m r=>bH0 r.1 r.2.1 L m
def bFK:=mH 147 [zS 8,.str,.str] (λc L r=>a2n c L r.1 r.2.1 r.2.2.1) λL m r=>bHZ r.1 r.2.1 r.2.2.1 L m
def bFJ:=mH 148 [.rc 2,i6] (λc L r=>aNL c L r.1 r.2.1) λL m r=>a9J r.1 r.2.1 L m
def bFI:=mH 149 [.rc 1] (λc L r=>a2m c L r.1) λL m r=>bHY r.1 L m
def bFH:=mH 154 [zS 15,.rc 1] (λc L r=>a2l c L r.1 r.2.1) λL m r=>bHX r.1 r.2.1 L m
def bFG:=mH 158 [.rc 3] (λc L r=>a2k c L r.1) λL m r=>bHW r.1 L m
def bFF:=mH 159 [.rc 3] (λc L r=>a2j c L r.1) λL m r=>bHV r.1 L m
def bFE:=mH 160 [.rc 3] (λc L r=>a2i c L r.1) λL m r=>bHU r.1 L m
def bFD:=mH 162 [.str] (λc L r=>aNK c L r.1) λL m r=>a9I r.1 L m
def bFC:=mH 163 [.sl i6] (λc L r=>aNJ c L r.1) λL m r=>a9H r.1 L m
def bFB:=mH 164 [.sl i6,.sl i6] (λc L r=>aNI c L r.1 r.2.1) λL m r=>a9G r.1 r.2.1 L m
def bFA:=mH 165 [.sl i6,.sl i6] (λc L r=>aNH c L r.1 r.2.1) λL m r=>a9F r.1 r.2.1 L m
def bFz:=mH 166 [.rc 2] (λc L r=>aNG c L r.1) λL m r=>a9E r.1 L m
def bFy:=mH 167 [.bool] (λc L r=>aNF c L r.1) λL m r=>a9D r.1 L m
def bFx:=mH 168 [.rc 2] (λc L r=>aNE c L r.1) λL m r=>a9C r.1 L m
def bFw:=mH 169 [.rc 2] (λc L r=>aND c L r.1) λL m r=>a9B r.1 L m
def bFv:=mH 170 [.rc 2] (λc L r=>aNC c L r.1) λL m r=>a9A r.1 L m
def bFu:=mH 171 [.str,.str] (λc L r=>aNB c L r.1 r.2.1) λL m r=>a9z r.1 r.2.1 L m
def bFt:=mH 172 [.rc 2] (λc L r=>aNA c L r.1) λL m r=>a9y r.1 L m
def bFs:=mH 173 [.rc 2] (λc L r=>aNz c L r.1) λL m r=>a9x r.1 L m
def bFr:=mH 174 [.rc 2,.rc 2] (λc L r=>aNy c L r.1 r.2.1) λL m r=>a9w r.1 r.2.1 L m
def bFq:=mH 175 [.rc 2,.rc 2] (λc L r=>aNx c L r.1 r.2.1) λL m r=>a9v r.1 r.2.1 L m
def bFp:=mH 176 [.rc 2,.rc 2] (λc L r=>aNw c L r.1 r.2.1) λL m r=>a9u r.1 r.2.1 L m
def bFo:=mH 177 [.rc 1] (λc L r=>aNv c L r.1) λL m r=>a9t r.1 L m
def bFn:=mH 178 [.rc 2,.rc 2] (λc L r=>aNu c L r.1 r.2.1) λL m r=>a9s r.1 r.2.1 L m
def bFm:=mH 179 [.rc 2] (λc L r=>aNt c L r.1) λL m r=>a9r r.1 L m
def bFl:=mH 186 [.rc 20,.bool] (λc L r=>aNs c L r.1 r.2.1) λL m r=>a9q r.1 r.2.1 L m
def bFk:=mH 190 [.str] (λc L r=>aNr c L r.1) λL m r=>a9p r.1 L m
def bFj:=mH 192 [.str] (λc L r=>aNq c L r.1) λL m r=>a9o r.1 L m
def bFi:=mH 193 [zS 8,.str] (λc L r=>a2d c L r.1 r.2.1) λL m r=>bHP r.1 r.2.1 L m
def bFh:=mH 197 [.rc 3,i6] (λc L r=>a2c c L r.1 r.2.1) λL m r=>bHO r.1 r.2.1 L m
def bFg:=mH 198 [.rc 3,i6] (λc L r=>a2b c L r.1 r.2.1) λL m r=>bHN r.1 r.2.1 L m
def bFf:=mH 200 [.str] (λc L r=>aNp c L r.1) λL m r=>a9n r.1 L m
def bFe:=mH 201 [.sl i6,.sl i6] (λc L r=>aNo c L r.1 r.2.1) λL m r=>a9m r.1 r.2.1 L m
def bFd:=mH 202 [.str] (λc L r=>aNn c L r.1) λL m r=>a9l r.1 L m
def bFc:=mH 203 [.str,.str] (λc L r=>aNm c L r.1 r.2.1) λL m r=>a9k r.1 r.2.1 L m
def bFb:=mH 204 [.str,.str] (λc L r=>aNl c L r.1 r.2.1) λL m r=>a9j r.1 r.2.1 L m
def bFa:=mH 205 [.rc 2,.rc 2] (λc L r=>aNk c L r.1 r.2.1) λL m r=>a9i r.1 r.2.1 L m
def bE9:=mH 206 [.rc 1] (λc L r=>aNj c L r.1) λL m r=>a9h r.1 L m
def bE8:=mH 209 [zS 1,.rc 1] (λc L r=>a2a c L r.1 r.2.1) λL m r=>bHM r.1 r.2.1 L m
def bE7:=mH 213 [.rc 3] (λc L r=>a19 c L r.1) λL m r=>bHL r.1 L m
def bE6:=mH 216 [.sl i6,.sl i6] (λc L r=>aNi c L r.1 r.2.1) λL m r=>a9g r.1 r.2.1 L m
def bE5:=mH 217 [.rc 2] (λc L r=>aNh c L r.1) λL m r=>a9f r.1 L m
def bE4:=mH 218 [.str,.str] (λc L r=>aNg c L r.1 r.2.1) λL m r=>a9e r.1 r.2.1 L m
def bE3:=mH 221 [.str] (λc L r=>aNf c L r.1) λL m r=>a9d r.1 L m
def aZG:HF:=(gG bFN (gG h91 (gG h58 (gG h27 (gG h17 (gG h15 (gG h2 gE gE) gE) (gG h26 (gG h19 gE gE) gE)) (gG h44 (gG h33 (gG aZH gE gE) gE) (gG h57 (gG h46 gE gE) gE))) (gG h67 (gG h64 (gG h61 (gG h59 gE gE) gE) (gG h66 (gG h65 gE gE) gE)) (gG h70 (gG h69 (gG h68 gE gE) gE) (gG h90 (gG h72 gE gE) gE)))) (gG bFY (gG bF4 (gG h99 (gG h98 (gG h92 gE gE) gE) (gG bF5 (gG bF6 gE gE) gE)) (gG bF1 (gG bF2 (gG bF3 gE gE) gE) (gG bFZ (gG bF0 gE gE) gE))) (gG bFS (gG bFV (gG bFW (gG bFX gE gE) gE) (gG bFT (gG bFU gE gE) gE)) (gG bFP (gG bFQ (gG bFR gE gE) gE) (gG bFO gE gE))))) (gG bFp (gG bFB (gG bFH (gG bFK (gG bFL (gG bFM gE gE) gE) (gG bFI (gG bFJ gE gE) gE)) (gG bFE (gG bFF (gG bFG gE gE) gE) (gG bFC (gG bFD gE gE) gE))) (gG bFv (gG bFy (gG bFz (gG bFA gE gE) gE) (gG bFw (gG bFx gE gE) gE)) (gG bFs (gG bFt (gG bFu gE gE) gE) (gG bFq (gG bFr gE gE) gE)))) (gG bFd (gG bFj (gG bFm (gG bFn (gG bFo gE gE) gE) (gG bFk (gG bFl gE gE) gE)) (gG bFg (gG bFh (gG bFi gE gE) gE) (gG bFe (gG bFf gE gE) gE))) (gG bE7 (gG bFa (gG bFb (gG bFc gE gE) gE) (gG bE8 (gG bE9 gE gE) gE)) (gG bE4 (gG bE5 (gG bE6 gE gE) gE) (gG bE3 gE gE))))))
def aLs:bAv aZG:=(cC (cC (cC (cC (cC (cC (cC cB cB) cB) (cC (cC cB cB) cB)) (cC (cC (cC cB cB) cB) (cC (cC cB cB) cB))) (cC (cC (cC (cC cB cB) cB) (cC (cC cB cB) cB)) (cC (cC (cC cB cB) cB) (cC (cC cB cB) cB)))) (cC (cC (cC (cC (cC cB cB) cB) (cC (cC cB cB) cB)) (cC (cC (cC cB cB) cB) (cC (cC cB cB) cB))) (cC (cC (cC (cC cB cB) cB) (cC (cC cB cB) cB)) (cC (cC (cC cB cB) cB) (cC cB cB))))) (cC (cC (cC (cC (cC (cC cB cB) cB) (cC (cC cB cB) cB)) (cC (cC (cC cB cB) cB) (cC (cC cB cB) cB))) (cC (cC (cC (cC cB cB) cB) (cC (cC cB cB) cB)) (cC (cC (cC cB cB) cB) (cC (cC cB cB) cB)))) (cC (cC (cC (cC (cC cB cB) cB) (cC (cC cB cB) cB)) (cC (cC (cC cB cB) cB) (cC (cC cB cB) cB))) (cC (cC (cC (cC cB cB) cB) (cC (cC cB cB) cB)) (cC (cC (cC cB cB) cB) (cC cB cB))))))
end
end Go.TV
namespace Go.TV
open Go.AI Go.PI Go.Proofs
noncomputable def a3a(K:bU)(up:Nat->bU)(L:Nat):Nat->bU
 |0=>up 0
 |n+1=>λi d=>match K i d with|some r=>some r|none=>aZG i (a3a K up L n) L d (up (n+1) i d)
noncomputable def a30(L α:Nat):Nat->bU:=λn=>bR L (α+n)
def Kp{K:bU}{L α:Nat}(hK: ∀n i d r,K i d=some r->bR L (α+n+1) i d=some r): ∀n,a3a K (a30 L α) L n=bR L (α+n)
 |0=>rfl
 |n+1=>by
  funext i d;show(match K i d with|some r=>some r|none=>aZG i (a3a K (a30 L α) L n) L d (bR L (α+n+1) i d))=bR L (α+n+1) i d
  rw[Kp hK n];split
  .rename_i r e;exact(hK n i d r e).symm
  .exact aLs i L (α+n) d
end Go.TV
namespace Go.TV
open Go.AI Go.PI Go.Proofs
set_option maxRecDepth 20000
def a1h{P:Program}{T:TP U0.D}{l:List (Nat×cH)}{i:Nat}{x:cH}(hx:rP l i=some x)(hs:T.sig i=some x.sig)(hb:(aKP T.orc x.sig&&Nat.ble x.sig.bx.length 100&&Ef x.sig.bx.length x.sig.bx)=true)(L n:Nat)(d:kA){y:OV}(ho:aKI U0 T.orc x.sig d=some y):
    vJ U0 T (Dy P l) L (n+1) i d=some [bDm U0 y]:=by
 have hg:Dy P l i=some (gL x.sk (lI P x.sig.f),Au P x.sig.f):=by simp only[Dy,hx]
 simp only[vJ,hs,hg,hb,aI,ho]
def Kf:bU:=λi d=>bif Nat.beq i 199 then(match aKI U0 orcI ii199.sig d with|some x=>some [bDm U0 x]|none=>none)else none
noncomputable def cF(L M k:Nat):bU:=a3a Kf (a30 (L+7000) M) (L+7000) k
def aO3(L M k:Nat):cF L M k=bR (L+7000) (M+k):=Kp (λn i d r h=>by
 unfold Kf at h;cases hb:Nat.beq i 199 with
 |false=>rw[hb]at h;cases h
 |true=>
  rw[hb,aI]at h;split at h
  .rename_i x hx;simp only[aA]at h;subst h;rw[aE hb];exact a1h (x:=ii199) (by kernel_rfl) (by kernel_rfl) (by kernel_rfl) _ _ d hx
  .cases h) k
def Dr:List UInt8:=[117,115,101,114]
def aN3:G.O:=⟨0,[],[],⟨[],[]⟩,[],[]⟩
def tV(w:List UInt8):G.T:=⟨1,⟨Dr,w⟩,aN3,[]⟩
def tA(f:G.Y)(l:List G.T):G.T:=⟨3,f,aN3,l⟩
def tC(o:G.O):G.T:=⟨2,⟨[],[]⟩,o,[]⟩
def QV:G.O:=⟨2,[],[],⟨dN,[110,105,108]⟩,[],[]⟩
def FL(a b:G.O):G.O:=⟨4,[],[],⟨[],[]⟩,[],[a,b]⟩
def G8(x:Rt):Prop:= ∃o:G.O,x=some [yR 2 o]/\tW o+BV o<=20
def a6p(l:List (List UInt8)):Bool:=l.all λw=>Nat.ble 1 w.length&&Nat.ble w.length 20
def aDQ{l:List (List UInt8)}(h:a6p l=true){w:List UInt8}(hw:w∈l):1<=w.length/\w.length<=20:=by
 have:=bJ.1 h w hw;simp only[aC,Nat.ble_eq]at this;exact this
def bI8(r:Rt):Bool:=match r with|some [⟨.rc 2,o⟩]=>Nat.ble (tW o+BV o) 20|_=>false
def zW{r:Rt}(h:bI8 r=true):G8 r:=by
 unfold bI8 at h;split at h
 .rename_i o;exact⟨o,rfl,bK h⟩
 .cases h
section
variable(L M:Nat)
def bBN(w:List UInt8):cF L M 60 13 [yT w]=some [yR 3 (tV w)]:=by kernel_rfl
def bDO(w:List UInt8)(l:List G.T):cF L M 60 14 [yT w,yS 3 l]=some [yR 3 (tA ⟨dN,w⟩ l)]:=by kernel_rfl
def bIc(f:G.Y)(l:List G.T):cF L M 60 56 [yR 1 f,yS 3 l]=some [yR 3 (tA f l)]:=by kernel_rfl
def bDV(o:G.O):cF L M 60 57 [yR 2 o]=some [yR 3 (tC o)]:=by kernel_rfl
def bBP(w:List UInt8):cF L M 60 15 [yT w]=some [yR 1 ⟨Dr,w⟩]:=by kernel_rfl
def bB2(w:List UInt8):cF L M 60 60 [yT w]=some [yR 1 ⟨dN,w⟩]:=by kernel_rfl
def a8Z(a b:G.O):cF L M 60 70 [yR 2 a,yR 2 b]=some [yR 2 (FL a b)]:=by kernel_rfl
def aXD:cF L M 60 71 [yS 2 []]=some [yR 2 QV]:=by kernel_rfl
def aXC(a:G.O):cF L M 60 71 [yS 2 ([a]:List G.O)]=some [yR 2 (FL a QV)]:=by kernel_rfl
def aXB(a b:G.O):cF L M 60 71 [yS 2 ([a,b]:List G.O)]=some [yR 2 (FL a (FL b QV))]:=by kernel_rfl
def aXA(a b d:G.O):cF L M 60 71 [yS 2 ([a,b,d]:List G.O)]=some [yR 2 (FL a (FL b (FL d QV)))]:=by kernel_rfl
def bDw:G8 (cF L M 60 33 []):=zW (by kernel_rfl)
def bDv:G8 (cF L M 60 65 []):=zW (by kernel_rfl)
def bDx(r:Int)(h0:0<=r)(h1:r<7):G8 (cF L M 60 66 [yI (IntKind.i64.wrap (r-3))]):=by
 obtain rfl|rfl|rfl|rfl|rfl|rfl|rfl:r=0∨r=1∨r=2∨r=3∨r=4∨r=5∨r=6:=by omega
 all_goals exact zW (by kernel_rfl)
def bDz:G8 (cF L M 60 66 [yI (0:Int)]):=zW (by kernel_rfl)
def bDy:G8 (cF L M 60 66 [yI (1:Int)]):=zW (by kernel_rfl)
def a55:G8 (cF L M 60 67 [yT ([49]:List UInt8),yT ([50]:List UInt8)]):=zW (by kernel_rfl)
def a54:G8 (cF L M 60 67 [yT ([45,53]:List UInt8),yT ([51]:List UInt8)]):=zW (by kernel_rfl)
def a52(y:G.Y)(h:qG y=true):G8 (cF L M 60 68 [yR 1 y]):=⟨⟨2,[],[],y,[],[]⟩,by kernel_rfl,by simp[tW,jA,a1t,wS,h,sW]⟩
def bDu(w:List UInt8)(h:a24 w=true):G8 (cF L M 60 69 [yT w]):=⟨⟨3,[],[],⟨[],[]⟩,w,[]⟩,by kernel_rfl,by simp[tW,jA,a1u,h,a1v]⟩
def a8h: ∃l:List (List UInt8),cF L M 60 58 []=some [⟨.sl .str,l⟩]/\l.length=25/\a6p l=true:=⟨match aPU (λ_ _=>none)with|some (⟨.sl .str,t⟩::_)=>t|_=>[],by kernel_rfl,by kernel_rfl,by kernel_rfl⟩
def a5S: ∃l:List (List UInt8),cF L M 60 59 []=some [⟨.sl .str,l⟩]/\l.length=8/\a6p l=true:=⟨match aPT (λ_ _=>none)with|some (⟨.sl .str,t⟩::_)=>t|_=>[],by kernel_rfl,by kernel_rfl,by kernel_rfl⟩
end
structure Lib(c:bU):Prop where
 v: ∀w,c 13 [yT w]=some [yR 3 (tV w)]
 l: ∀w (l:List G.T),c 14 [yT w,yS 3 l]=some [yR 3 (tA ⟨dN,w⟩ l)]
 a: ∀(f:G.Y) (l:List G.T),c 56 [yR 1 f,yS 3 l]=some [yR 3 (tA f l)]
 k: ∀o:G.O,c 57 [yR 2 o]=some [yR 3 (tC o)]
 u: ∀w,c 15 [yT w]=some [yR 1 (⟨Dr,w⟩:G.Y)]
 s: ∀w,c 60 [yT w]=some [yR 1 (⟨dN,w⟩:G.Y)]
 cn: ∀a b:G.O,c 70 [yR 2 a,yR 2 b]=some [yR 2 (FL a b)]
 l0:c 71 [yS 2 ([]:List G.O)]=some [yR 2 QV]
 l1: ∀a:G.O,c 71 [yS 2 ([a]:List G.O)]=some [yR 2 (FL a QV)]
 l2: ∀a b:G.O,c 71 [yS 2 ([a,b]:List G.O)]=some [yR 2 (FL a (FL b QV))]
 l3: ∀a b d:G.O,c 71 [yS 2 ([a,b,d]:List G.O)]=some [yR 2 (FL a (FL b (FL d QV)))]
 n:G8 (c 33 [])
 t:G8 (c 65 [])
 i: ∀r:Int,0<=r->r<7->G8 (c 66 [yI (IntKind.i64.wrap (r-3))])
 i0:G8 (c 66 [yI (0:Int)])
 i1:G8 (c 66 [yI (1:Int)])
 q1:G8 (c 67 [yT ([49]:List UInt8),yT ([50]:List UInt8)])
 q2:G8 (c 67 [yT ([45,53]:List UInt8),yT ([51]:List UInt8)])
 sy: ∀y:G.Y,qG y=true->G8 (c 68 [yR 1 y])
 x: ∀w,a24 w=true->G8 (c 69 [yT w])
 hd: ∃l:List (List UInt8),c 58 []=some [⟨.sl .str,l⟩]/\l.length=25/\a6p l=true
 ow: ∃l:List (List UInt8),c 59 []=some [⟨.sl .str,l⟩]/\l.length=8/\a6p l=true
 nx: ∀(s:G.Z) (a:Int),cY s->1<=a->bIj (c 20 [yI a,yR 0 s]) a
def aXy(L M:Nat):Lib (bR (L+7000) (M+60)):=by
 have h: ∀(s:G.Z) (a:Int),cY s->1<=a->bIj (bR (L+7000) (M+60) 20 [yI a,yR 0 s]) a:=λs a h1 h2=>bAw (n:=M+59) h1 h2
 rw[<-aO3]at h⊢;exact⟨bBN L M,bDO L M,bIc L M,bDV L M,bBP L M,bB2 L M,a8Z L M,aXD L M,aXC L M,aXB L M,aXA L M,bDw L M,bDv L M,bDx L M,bDz L M,bDy L M,a55 L M,a54 L M,a52 L M,bDu L M,a8h L M,a5S L M,h⟩
end Go.TV
namespace Go.TV
open Go.AI Go.PI Go.Proofs
set_option maxRecDepth 20000
noncomputable def bBc(L M k:Nat):Bool:=match cF L M 60 100 [⟨.int .i64,(k:Int)⟩]with|some [⟨.str,s⟩]=>decide (s=aZQ k)|_=>false
noncomputable def a29(L M:Nat):Nat->Nat->Bool
 |_,0=>true
 |a,n+1=>bBc L M a&&a29 L M (a+1) n
def Kh{L M:Nat}: ∀{n a k:Nat},a29 L M a n=true->a<=k->k<a+n->bBc L M k=true
 |0,a,k,_,h1,h2=>by omega
 |n+1,a,k,h,h1,h2=>by
  rw[a29,aC]at h;by_cases e:k=a
  .subst e;exact h.1
  .exact Kh h.2 (by omega) (by omega)
def bGj(L M:Nat):a29 L M 0 100=true:=by kernel_rfl
def bGi(L M:Nat):a29 L M 100 450=true:=by kernel_rfl
def bGh(L M:Nat):a29 L M 550 450=true:=by kernel_rfl
def aZP:Fy:=by
 intro k hk;have h: ∀L M,bBc L M k=true:=λL M=>by
  by_cases h1:k<100
  .exact Kh (bGj L M) (by omega) (by omega)
  .by_cases h2:k<550
   .exact Kh (bGi L M) (by omega) (by omega)
   .exact Kh (bGh L M) (by omega) (by omega)
 refine⟨7060,λL n h1 h2=>?_⟩
 obtain⟨L,rfl⟩: ∃q,L=q+7000:=⟨L-7000,by omega⟩
 obtain⟨n,rfl⟩: ∃q,n=q+60:=⟨n-60,by omega⟩
 have:=h L n;unfold bBc at this;rw[aO3]at this;show bR (L+7000) (n+60) 100 [⟨.int .i64,(k:Int)⟩]=_;split at this
 .rename_i s e;rw[e,of_decide_eq_true this]
 .cases this
end Go.TV
namespace Go.TV
open Go.AI Go.PI Go.Proofs
inductive It where
 |op
 |cl
 |wd (nu:Bool) (w:List UInt8)
def It.by':It->List UInt8
 | .op=>[40]
 | .cl=>[41]
 | .wd _ w=>w
def It.tk(p:Nat):It->G.K
 | .op=>⟨1,(p:Int),[],[],[]⟩
 | .cl=>⟨2,(p:Int),[],[],[]⟩
 | .wd nu w=>bBu nu (p:Int) w
abbrev a18:=List (List UInt8×It)
def yE:a18->List UInt8->List UInt8
 |[],tl=>tl
 |(b,t)::l,tl=>b++(t.by'++yE l tl)
def a2V:Nat->a18->List G.K
 |_,[]=>[]
 |p,(b,t)::l=>t.tk (p+b.length)::a2V (p+b.length+t.by'.length) l
def aLj:List UInt8->Bool
 |[48]=>true
 |[49]=>true
 |[45,49]=>true
 |_=>false
def a25(nu:Bool):List UInt8->Bool
 |[]=>false
 |x::l=>(x::l).all (λx=>GV (u8 x))&& !decide (u8 x=35)&&(bif nu then aLj (x::l)else !decide (u8 x=45)&&(decide (u8 x<48)||decide (57<u8 x))&& !decide (x::l=[46])&&Nat.ble (x::l).length 40)
def bBZ:List UInt8->Bool
 |[]=>true
 |y::_=> !GV (u8 y)&& !decide (u8 y=58)
def aOx(r:List UInt8):It->Bool
 | .wd nu w=>a25 nu w&&bBZ r
 |_=>true
def a5Z:a18->List UInt8->Bool
 |[],tl=>tl.all λx=>SP (u8 x)
 |(b,t)::l,tl=>(b.all λx=>SP (u8 x))&&aOx (yE l tl) t&&a5Z l tl
def a4m{r:List UInt8}(h:bBZ r=true): ∀y,r.head?=some y->GV (u8 y)=false/\u8 y≠58:=by
 intro y hy;cases r with
 |nil=>cases hy
 |cons z r=>
  simp only[List.head?_cons,aA]at hy;subst hy;simpa [bBZ]using h
def a91{x:Int}(h:GV x=true):SP x=false:=by
 simp only[GV,aC,aD]at h;simp only[SP,Bool.or_eq_false_iff,bC];omega
def a5X{t:It}{r:List UInt8}(h:aOx r t=true): ∀y,(t.by'++r).head?=some y->SP (u8 y)=false/\u8 y≠59/\u8 y≠35:=by
 intro y hy;cases t with
 |op=>simp[It.by']at hy;subst hy;decide
 |cl=>simp[It.by']at hy;subst hy;decide
 |wd nu w=>
  cases w with
  |nil=>simp[aOx,a25]at h
  |cons x l=>
   simp[It.by']at hy;subst hy
   simp only[aOx,a25,aC,aP,Bool.not_eq_true',bC]at h;exact⟨a91 h.1.1.1.1,(XL h.1.1.1.1).2.2.2.2.1,h.1.1.2⟩
def a1X{s r:List UInt8}{t:It}{k L n:Nat}(hN: ∀w,aLj w=true->aHu (bR L (n+2)) w)(hb:s.length<1000000000)(hL:s.length<L)(h:s.drop k=t.by'++r)(ht:aOx r t=true):
    bR L (n+3) 145 [yT s,yI (k:Int)]=some [yR 20 (t.tk k),yI ((k+t.by'.length:Nat):Int),yR 19 ⟨0,0⟩]:=by
 cases t with
 |op=>exact bAt hb h
 |cl=>exact bAu hb h
 |wd nu w=>
  cases w with
  |nil=>simp[aOx,a25]at ht
  |cons x l=>
   simp only[aOx,a25,aC,Bool.not_eq_true',bC]at ht;obtain⟨⟨⟨h1,h2⟩,h3⟩,h4⟩:=ht;refine bIi hb hL h (by simp) (λy hy=>bJ.1 h1 y hy) (a4m h4) ?_
   cases nu with
   |true=>exact .inl ⟨rfl,hN _ h3⟩
   |false=>
    simp only[aJ,aC,Bool.or_eq_true,Bool.not_eq_true',bC,aD]at h3;exact .inr ⟨rfl,x,l,rfl,h3.1.1.1,h3.1.1.2,h3.1.2,bK h3.2⟩
def aM5{s tl:List UInt8}{L n:Nat}{er:G.X}(hN: ∀w,aLj w=true->aHu (bR L (n+2)) w)(hb:s.length<6001)(hL:s.length<L):
    ∀(l:a18) (k m:Nat) (acc:List G.K),s.drop k=yE l tl->k<=s.length->a5Z l tl=true->l.length<m->acc.length<=k->Af (bR L (n+3)) L m (k:Int) s acc er=some [yS 20 (acc++a2V k l++ [⟨0,(s.length:Int),[],[],[]⟩]),yR 19 ⟨0,0⟩]:=by
 intro l;induction l with
 |nil=>
  intro k m acc h1 h2 h3 h4 h5;obtain⟨m,rfl⟩:=sK m 1 (by simp at h4;omega)
  have hl:=congrArg List.length h1;simp[yE]at hl;have hsk:=aPs (s:=s) (w:=tl) (r:=[]) (k:=k) (L:=L) (n:=n+1) (by omega) hL (by simpa [yE]using h1) (λx hx=>bJ.1 h3 x hx) (by simp)
  have e1:((k+tl.length:Nat):Int)=(s.length:Int):=by omega
  rw[Af,NI,hsk,JI];simp only[bD,bM];rw[e1];simp only[Int.le_refl,decide_true,bP];have e2:Nat.ble ((acc.length+([⟨0,(s.length:Int),[],[],[]⟩]:List G.K).length)*64) 1073741824=true:=by
   rw[Nat.ble_eq];simp only[aM,aX];omega
  rw[e2,fA,show a2V k []=[] from rfl,bA];rfl
 |cons bt l ih=>
  obtain⟨b,t⟩:=bt;intro k m acc h1 h2 h3 h4 h5;obtain⟨m,rfl⟩:=sK m 1 (by simp at h4;omega)
  simp only[a5Z,aC]at h3;obtain⟨⟨h6,h7⟩,h8⟩:=h3;have hl:=congrArg List.length h1;simp[yE]at hl;have ht:1<=t.by'.length:=by
   cases t with
   |op=>exact aS _
   |cl=>exact aS _
   |wd nu w=>cases w with
    |nil=>simp[aOx,a25]at h7
    |cons x l=>simp[It.by']
  have hsk:=aPs (s:=s) (w:=b) (r:=t.by'++yE l tl) (k:=k) (L:=L) (n:=n+1) (by omega) hL h1 (λx hx=>bJ.1 h6 x hx) (a5X h7)
  have hd:s.drop (k+b.length)=t.by'++yE l tl:=by rw[<-List.drop_drop,h1];simp[yE]
  have ho:=a1X (n:=n) hN (by omega) hL hd h7
  have hd2:s.drop (k+b.length+t.by'.length)=yE l tl:=by rw[<-List.drop_drop,hd];simp
  rw[Af,NI,hsk,JI];simp only[bD,bM];have e1:decide ((s.length:Int)<=((k+b.length:Nat):Int))=false:=by simp only[bC];omega
  rw[e1,bM,ho,aW7];simp only[decide_true,bD,bM];have e2:Nat.ble ((acc.length+([t.tk (k+b.length)]:List G.K).length)*64) 1073741824=true:=by
   rw[Nat.ble_eq];simp only[aM,aX];omega
  rw[e2,fA,ih (k+b.length+t.by'.length) m _ hd2 (by omega) h8 (by simp at h4;omega) (by simp;omega)]
  simp[a2V]
def a1U{l:a18}{tl:List UInt8}{L n:Nat}(hN: ∀w,aLj w=true->aHu (bR L (n+2)) w)(hs:(yE l tl).length<6001)(hL:(yE l tl).length<L)(hl:l.length<L)(ho:a5Z l tl=true):
    bR L (n+4) 119 [yT (yE l tl)]=some [yS 20 (a2V 0 l++ [⟨0,((yE l tl).length:Int),[],[],[]⟩]),yR 19 ⟨0,0⟩]:=by
 show bR L (n+3+1) 119 _=_;have e1:decide ((6000:Int)<((yE l tl).length:Int))=false:=by simp only[bC];omega
 rw[bH4,a2t,VM,e1,bM];exact aM5 (tl:=tl) (er:=⟨0,0⟩) hN hs hL l 0 L [] rfl (Nat.zero_le _) ho hl (aS _)
end Go.TV
namespace Go.TV
open Go.AI Go.PI Go.Proofs
set_option maxRecDepth 20000
def yN:List UInt8:=[108,105,115,112]
def lQ(s:List UInt8):G.O:=⟨2,[],[],⟨yN,s⟩,[],[]⟩
def bDA(s:List UInt8):G.O:=⟨1,s,[49],⟨[],[]⟩,[],[]⟩
def ol:List G.O->G.O
 |[]=>lQ [110,105,108]
 |x::l=>⟨4,[],[],⟨[],[]⟩,[],[x,ol l]⟩
def tkP(p:Int):G.K:=⟨1,p,[],[],[]⟩
def tkC(p:Int):G.K:=⟨2,p,[],[],[]⟩
def bIG:List UInt8:=[43]
def bAX:G.O:=lQ bIG
def bIF:List UInt8:=[45,49]
def bIL:G.O:=bDA bIF
def bIE:List UInt8:=[48]
def aBu:G.O:=bDA bIE
def bID:List UInt8:=[49]
def bIK:G.O:=bDA bID
def bIC:List UInt8:=[60]
def a3L:G.O:=lQ bIC
def bBt:List UInt8:=[97]
def aQC:G.O:=lQ bBt
def bIB:List UInt8:=[97,110,100]
def bAW:G.O:=lQ bIB
def bIA:List UInt8:=[97,112,112,101,110,100]
def w7a:G.O:=lQ bIA
def bBs:List UInt8:=[97,115,115,111,99,45,101,113,117,97,108]
def bIJ:G.O:=lQ bBs
def bBr:List UInt8:=[97,116,111,109]
def w9a:G.O:=lQ bBr
def aQx:List UInt8:=[98,105,110,97,114,121,45,97,112,112,101,110,100]
def a3X:G.O:=lQ aQx
def aQw:List UInt8:=[98,111,111,108,101,97,110,112]
def bBL:G.O:=lQ aQw
def a3E:List UInt8:=[99,97,114]
def Am:G.O:=lQ a3E
def a3D:List UInt8:=[99,100,114]
def CK:G.O:=lQ a3D
def a3C:List UInt8:=[99,111,110,100]
def a3V:G.O:=lQ a3C
def a3B:List UInt8:=[99,111,110,115]
def aQ0:G.O:=lQ a3B
def a3A:List UInt8:=[99,111,110,115,112]
def tZ:G.O:=lQ a3A
def aQv:List UInt8:=[99,111,117,110,116]
def CJ:G.O:=lQ aQv
def a3z:List UInt8:=[100,101,102,117,110]
def lS:G.O:=lQ a3z
def aQu:List UInt8:=[101]
def aQO:G.O:=lQ aQu
def aQt:List UInt8:=[101,110,100,112]
def bBK:G.O:=lQ aQt
def a3y:List UInt8:=[101,113,117,97,108]
def HK:G.O:=lQ a3y
def aQs:List UInt8:=[102,105,120]
def bBJ:G.O:=lQ aQs
def a3x:List UInt8:=[103,117,97,114,100]
def ZD:G.O:=lQ a3x
def a3w:List UInt8:=[105,102]
def mD:G.O:=lQ a3w
def aQr:List UInt8:=[105,102,102]
def bBI:G.O:=lQ aQr
def aQq:List UInt8:=[105,102,105,120]
def bBH:G.O:=lQ aQq
def aQp:List UInt8:=[105,109,112,108,105,101,115]
def bBG:G.O:=lQ aQp
def a3v:List UInt8:=[105,110,116,101,103,101,114,112]
def aJQ:G.O:=lQ a3v
def aQo:List UInt8:=[107]
def aQH:G.O:=lQ aQo
def aQn:List UInt8:=[108,101,110]
def a3Q:G.O:=lQ aQn
def a3u:List UInt8:=[108,105,115,116]
def bBD:G.O:=lQ a3u
def a3t:List UInt8:=[109,101,97,115,117,114,101]
def Dq:G.O:=lQ a3t
def aQm:List UInt8:=[109,101,109,98,101,114,45,101,113,117,97,108]
def a3O:G.O:=lQ aQm
def aJL:List UInt8:=[110]
def FN:G.O:=lQ aJL
def aQl:List UInt8:=[110,97,116,112]
def ZC:G.O:=lQ aQl
def aQk:List UInt8:=[110,102,105,120]
def aQG:G.O:=lQ aQk
def a3s:List UInt8:=[110,105,108]
def Bq:G.O:=lQ a3s
def aQj:List UInt8:=[110,111,116]
def FM:G.O:=lQ aQj
def aQi:List UInt8:=[110,116,104]
def a3N:G.O:=lQ aQi
def aQh:List UInt8:=[111,45,102,105,110,112]
def aJP:G.O:=lQ aQh
def aQg:List UInt8:=[111,45,102,105,114,115,116,45,99,111,101,102,102,105,99,105,101,110,116]
def ZB:G.O:=lQ aQg
def aQf:List UInt8:=[111,45,102,105,114,115,116,45,101,120,112,111,110,101,110,116]
def HJ:G.O:=lQ aQf
def aQe:List UInt8:=[111,45,112]
def aQF:G.O:=lQ aQe
def aQd:List UInt8:=[111,45,114,101,115,116]
def aBt:G.O:=lQ aQd
def aQc:List UInt8:=[111,60]
def aJO:G.O:=lQ aQc
def a3r:List UInt8:=[111,114]
def bBB:G.O:=lQ a3r
def aBk:List UInt8:=[112]
def ZA:G.O:=lQ aBk
def aQb:List UInt8:=[112,111,115,112]
def a3M:G.O:=lQ aQb
def aJK:List UInt8:=[113]
def aBs:G.O:=lQ aJK
def a3q:List UInt8:=[114,97,116,105,111,110,97,108,112]
def bBz:G.O:=lQ a3q
def aQa:List UInt8:=[114,101,118]
def a3K:G.O:=lQ aQa
def aP9:List UInt8:=[115,121,110,116,97,120,112]
def bBy:G.O:=lQ aP9
def a3p:List UInt8:=[116]
def CI:G.O:=lQ a3p
def aP8:List UInt8:=[116,114,117,101,45,108,105,115,116,112]
def YZ:G.O:=lQ aP8
def aP7:List UInt8:=[117,112,100,97,116,101,45,110,116,104]
def a3J:G.O:=lQ aP7
def aP6:List UInt8:=[118]
def aQE:G.O:=lQ aP6
def mR:List UInt8:=[120]
def cN:G.O:=lQ mR
def aJJ:List UInt8:=[121]
def CH:G.O:=lQ aJJ
def aP5:List UInt8:=[122,112]
def aQD:G.O:=lQ aP5
def wdL:List (List UInt8):=[bIG,bIF,bIE,bID,bIC,bBt,bIB,bIA,bBs,bBr,aQx,aQw,a3E,a3D,a3C,a3B,a3A,aQv,a3z,aQu,aQt,a3y,aQs,a3x,a3w,aQr,aQq,aQp,a3v,aQo,aQn,a3u,a3t,aQm,aJL,aQl,aQk,a3s,aQj,aQi,aQh,aQg,aQf,aQe,aQd,aQc,a3r,aBk,aQb,aJK,a3q,aQa,aP9,a3p,aP8,aP7,aP6,mR,aJJ,aP5]
def bA0:Nat->Nat->Nat->List G.K
 |0,_,_=>[]
 |f+1,p,n=>bif Nat.beq (n%64) 0 then tkP ((p+n/64%64:Nat):Int)::bA0 f (p+n/64%64+1) (n/4096)
  else bif Nat.beq (n%64) 1 then tkC ((p+n/64%64:Nat):Int)::bA0 f (p+n/64%64+1) (n/4096)
  else match wdL[n%64-2]? with
   |some w=>bBu (aLj w) ((p+n/64%64:Nat):Int) w::bA0 f (p+n/64%64+w.length) (n/4096)
   |none=>[]
def V2:List G.K:=bA0 942 0 0x100100100100107b00f04007a00106404300204003904000107b00e04001104000100107b00f04007a01104000106403d04001a0c000100106402604002204000100100107b03804000106402504000804001904000107b07a02404007901404000100100100107b00f04000106404300204002904000107b00e04000106403d04001a0c000100106402604002204000100100107b03804000106402504000804001904000107b02404006901404000100100100100104700f04005f00a04003724000100104700e04000100100100104700e04000e04005f01704000100104700e0400120400080002400010670010010470120400280000400100c000100104701304002204000104701f04004a01404000100106700100100107b00f04005502304007b00100107b00e04005501704001a04000107b01204001a0c000100107b01304002204000100107b03804001904000107b01504006301404000100106700100100107b00e04002104000100107b00f04003504000904000107b01204001a0c000100107b01304002204000103b04007501404000100107c00100107c00107b00f04000c04000107b00e04001104000107b01204001a0c000100107b01304002204000100107b03804001904000107c03b04004c01404000100100106707b01704000100107b00f04003804000107b01204001a04000100107b01304002204000103b04007801404000100104400100100107b00f04002004004500204000107b01204001a04000100107b01304002204000103b04006001404000100100100100107b02c04000100107b02e04002c04002f28000100107b02e04002d28000100107b02b04003228000100104400107b02c04001704002828000100107b02c04002d28000100107b00e04001204000814000107b0251c000107b02a04001a0c000100107b01304002204000103b04006d01404000100100100100107c02e04000107b02e04002f04003724000100100107c02b04000107b02b04000628000100100107c02b04000107b02b04001704002800024000100100107c02c04000107b02c04002f28000100100107c02c04000107b02c04001704002800024000106700107c02a00024000100100107c07b00604007700107c01204001a04000107b02a0000400100c000100107b01304002204000107c03b04006f01404000100104400107b00f04000107b01204001a04000103b04006e01404000100107b00100107b00e04000f04000107b01204001a04000103b04006b01404000100104400100107b00e04000e04000107b01204001a04000103b04006c01404000100100107b01204002804000103b04006a01404000100104400100100107b00f04001304000100107b00e04001304004500204000107b01204001a04000100107b01304002204000103b04005301404000100107700100107b04400604002804000107b01e04001a04000100107b02504001904000103b04007d01404000100104407b00107b02504001a04000103b04006601404000100106700107b04400604000107b01e04001a04000103b04007201404000100106700100104407b00604002804000107b01e04001a04000103b04006501404000100104407b00107b01e04001a04000103b04005c01404000100104407b00107b03404001a04000103b04005801404000100100107b01204002804000100100106707b01704000107b01204003004001904000103b04005601404000100100107b01204002804000103b04004b01404000107700103b04007601404000100100106707b01704007700107707b01704001a04000103b04004d01404000100100107706707301a04000106707707301a04007101a04000107303104005b01404000100107700106707707301a04007101a04000107303104005d01404000100107706707101a040001031040068014000++ [⟨0,2580,[],[],[]⟩]
def bI0:G.O:=ol [lS,FM,ol [ZA],ol [mD,ZA,Bq,CI]]
def bIZ:G.O:=ol [lS,bBG,ol [ZA,aBs],ol [mD,ZA,ol [mD,aBs,CI,Bq],CI]]
def bIY:G.O:=ol [lS,bBI,ol [ZA,aBs],ol [mD,ZA,ol [mD,aBs,CI,Bq],ol [mD,aBs,Bq,CI]]]
def bIX:G.O:=ol [lS,bBL,ol [cN],ol [mD,ol [HK,cN,CI],CI,ol [HK,cN,Bq]]]
def bIW:G.O:=ol [lS,bBy,ol [cN],CI]
def bIV:G.O:=ol [lS,w9a,ol [cN],ol [FM,ol [tZ,cN]]]
def bIU:G.O:=ol [lS,bBK,ol [cN],ol [ZD,ol [bBB,ol [tZ,cN],ol [HK,cN,Bq]]],ol [FM,ol [tZ,cN]]]
def bIT:G.O:=ol [lS,bBJ,ol [cN],ol [mD,ol [bBz,cN],cN,aBu]]
def bIS:G.O:=ol [lS,bBH,ol [cN],ol [mD,ol [aJQ,cN],cN,aBu]]
def bIR:G.O:=ol [lS,ZC,ol [cN],ol [mD,ol [aJQ,cN],ol [FM,ol [a3L,cN,aBu]],Bq]]
def a6o:G.O:=ol [lS,a3M,ol [cN],ol [mD,ol [aJQ,cN],ol [a3L,aBu,cN],Bq]]
def a6n:G.O:=ol [lS,aQG,ol [cN],ol [mD,ol [ZC,cN],cN,aBu]]
def a6m:G.O:=ol [lS,aQD,ol [cN],ol [ZD,ol [ZC,cN]],ol [mD,ol [aJQ,cN],ol [FM,ol [a3L,aBu,cN]],CI]]
def a6l:G.O:=ol [lS,CJ,ol [cN],ol [Dq,ol [CJ,cN]],ol [mD,ol [tZ,cN],ol [bAX,bIK,ol [CJ,ol [Am,cN]],ol [CJ,ol [CK,cN]]],aBu]]
def a6k:G.O:=ol [lS,aJP,ol [cN],ol [FM,ol [tZ,cN]]]
def a6j:G.O:=ol [lS,HJ,ol [cN],ol [mD,ol [tZ,cN],ol [Am,ol [Am,cN]],aBu]]
def a6i:G.O:=ol [lS,ZB,ol [cN],ol [mD,ol [tZ,cN],ol [CK,ol [Am,cN]],cN]]
def a6h:G.O:=ol [lS,aBt,ol [cN],ol [mD,ol [tZ,cN],ol [CK,cN],aBu]]
def a6g:G.O:=ol [lS,aJO,ol [cN,CH],ol [Dq,ol [CJ,cN]],ol [a3V,ol [ol [aJP,cN],ol [mD,ol [tZ,CH],CI,ol [a3L,cN,CH]]],ol [ol [aJP,CH],Bq],ol [ol [FM,ol [HK,ol [HJ,cN],ol [HJ,CH]]],ol [aJO,ol [HJ,cN],ol [HJ,CH]]],ol [ol [FM,ol [HK,ol [ZB,cN],ol [ZB,CH]]],ol [a3L,ol [ZB,cN],ol [ZB,CH]]],ol [CI,ol [aJO,ol [aBt,cN],ol [aBt,CH]]]]]
def a6f:G.O:=ol [lS,aQF,ol [cN],ol [Dq,ol [CJ,cN]],ol [mD,ol [aJP,cN],ol [ZC,cN],ol [bAW,ol [tZ,ol [Am,cN]],ol [aQF,ol [HJ,cN]],ol [FM,ol [HK,ol [HJ,cN],aBu]],ol [a3M,ol [ZB,cN]],ol [aQF,ol [aBt,cN]],ol [aJO,ol [HJ,ol [aBt,cN]],ol [HJ,cN]]]]]
def a6e:G.O:=ol [lS,a3Q,ol [cN],ol [Dq,ol [CJ,cN]],ol [mD,ol [tZ,cN],ol [bAX,bIK,ol [a3Q,ol [CK,cN]]],aBu]]
def a6d:G.O:=ol [lS,YZ,ol [cN],ol [Dq,ol [CJ,cN]],ol [mD,ol [tZ,cN],ol [YZ,ol [CK,cN]],ol [HK,cN,Bq]]]
def a6c:G.O:=ol [lS,a3X,ol [cN,CH],ol [ZD,ol [YZ,cN]],ol [Dq,ol [CJ,cN]],ol [mD,ol [tZ,cN],ol [aQ0,ol [Am,cN],ol [a3X,ol [CK,cN],CH]],CH]]
def a6b:G.O:=ol [lS,a3K,ol [cN],ol [Dq,ol [CJ,cN]],ol [mD,ol [tZ,cN],ol [w7a,ol [a3K,ol [CK,cN]],ol [bBD,ol [Am,cN]]],Bq]]
def a6a:G.O:=ol [lS,a3O,ol [aQO,cN],ol [ZD,ol [YZ,cN]],ol [Dq,ol [CJ,cN]],ol [mD,ol [tZ,cN],ol [mD,ol [HK,aQO,ol [Am,cN]],cN,ol [a3O,aQO,ol [CK,cN]]],Bq]]
def a59:G.O:=ol [lS,bIJ,ol [aQH,aQC],ol [Dq,ol [CJ,aQC]],ol [a3V,ol [ol [FM,ol [tZ,aQC]],Bq],ol [ol [bAW,ol [tZ,ol [Am,aQC]],ol [HK,aQH,ol [Am,ol [Am,aQC]]]],ol [Am,aQC]],ol [CI,ol [bIJ,aQH,ol [CK,aQC]]]]]
def a58:G.O:=ol [lS,a3N,ol [FN,cN],ol [ZD,ol [bAW,ol [ZC,FN],ol [YZ,cN]]],ol [Dq,ol [aQG,FN]],ol [mD,ol [aQD,FN],ol [Am,cN],ol [a3N,ol [bAX,bIL,FN],ol [CK,cN]]]]
def a57:G.O:=ol [lS,a3J,ol [FN,aQE,cN],ol [ZD,ol [bAW,ol [ZC,FN],ol [YZ,cN]]],ol [Dq,ol [aQG,FN]],ol [mD,ol [aQD,FN],ol [aQ0,aQE,ol [CK,cN]],ol [aQ0,ol [Am,cN],ol [a3J,ol [bAX,bIL,FN],aQE,ol [CK,cN]]]]]
def oAll:List G.O:=[bI0,bIZ,bIY,bIX,bIW,bIV,bIU,bIT,bIS,bIR,a6o,a6n,a6m,a6l,a6k,a6j,a6i,a6h,a6g,a6f,a6e,a6d,a6c,a6b,a6a,a59,a58,a57]
def bB0:List UInt8->List UInt8×List UInt8
 |[]=>([],[])
 |x::l=>bif GV (u8 x)then(x::(bB0 l).1,(bB0 l).2)else([],x::l)
def bB1:List UInt8->List UInt8×List UInt8
 |[]=>([],[])
 |x::l=>bif SP (u8 x)then(x::(bB1 l).1,(bB1 l).2)else([],x::l)
def R3:Nat->List UInt8->a18×List UInt8
 |0,l=>([],l)
 |n+1,l=>match bB1 l with
  |(b,[])=>([],b)
  |(b,x::r)=>bif Nat.beq x.toNat 40 then((b,.op)::(R3 n r).1,(R3 n r).2)else bif Nat.beq x.toNat 41 then((b,.cl)::(R3 n r).1,(R3 n r).2)else
   match bB0 (x::r)with
   |(w,r')=>((b,.wd (aLj w) w)::(R3 n r').1,(R3 n r').2)
end Go.TV
namespace Go.TV
open Go.AI Go.PI Go.Proofs
set_option maxRecDepth 20000
def a2S:G.T:=⟨0,⟨[],[]⟩,⟨0,[],[],⟨[],[]⟩,[],[]⟩,[]⟩
abbrev T3:=G.T×G.T×G.T
abbrev Sk:=List UInt8×List (List UInt8)
def aAC(s:Sk)(x:T3):G.E:=G.E.mk 3 ⟨yN,s.1⟩ ⟨[],[]⟩ ⟨⟨[],[]⟩,[],false,a2S⟩ [⟨⟨yN,s.1⟩,s.2.map (λp=>⟨yN,p⟩),1,x.1,x.2.1,x.2.2⟩] [] [] [] ⟨⟨[],[]⟩,[]⟩ [] [] [] [] 0
def bGo(s:Sk):G.E->Bool
 |⟨k,n,⟨[],[]⟩,⟨⟨[],[]⟩,[],false,⟨bk,⟨[],[]⟩,⟨ok,[],[],⟨[],[]⟩,[],[]⟩,[]⟩⟩,[⟨fn,ps,cl,_,b,_⟩],[],[],[],⟨⟨[],[]⟩,[]⟩,[],[],[],[],h⟩=>decide (k=3)&&decide (n=⟨yN,s.1⟩)&&decide (bk=0)&&decide (ok=0)&&decide (fn=⟨yN,s.1⟩)&&decide (cl=1)&&decide (h=0)&&decide (ps=s.2.map (λp=>⟨yN,p⟩))&&BU s.1 b
 |_=>false
def a0f{s:Sk}{e:G.E}(h:bGo s e=true): ∃x:T3,e=aAC s x/\BU s.1 x.2.1=true:=by
 unfold bGo at h;split at h
 .simp only[aC,aD]at h;obtain⟨⟨⟨⟨⟨⟨⟨⟨rfl,rfl⟩,rfl⟩,rfl⟩,rfl⟩,rfl⟩,rfl⟩,rfl⟩,hb⟩:=h;exact⟨(_,_,_),rfl,hb⟩
 .cases h
def bGn(s:Sk)(r:Rt):Bool:=match r with|some [⟨.rc 15,e⟩]=>bGo s e|_=>false
def a0e{s:Sk}{r:Rt}(h:bGn s r=true): ∃x:T3,r=some [yR 15 (aAC s x)]/\BU s.1 x.2.1=true:=by
 unfold bGn at h;split at h
 .rename_i e;obtain⟨x,hx,hb⟩:=a0f h;exact⟨x,by rw[hx],hb⟩
 .cases h
def skL:List Sk:=[(aQj,[aBk]),(aQp,[aBk,aJK]),(aQr,[aBk,aJK]),(aQw,[mR]),(aP9,[mR]),(bBr,[mR]),(aQt,[mR]),(aQs,[mR]),(aQq,[mR]),(aQl,[mR]),(aQb,[mR]),(aQk,[mR]),(aP5,[mR]),(aQv,[mR]),(aQh,[mR]),(aQf,[mR]),(aQg,[mR]),(aQd,[mR]),(aQc,[mR,aJJ]),(aQe,[mR]),(aQn,[mR]),(aP8,[mR]),(aQx,[mR,aJJ]),(aQa,[mR]),(aQm,[aQu,mR]),(bBs,[aQo,bBt]),(aQi,[aJL,mR]),(aP7,[aJL,aP6,mR])]
def HT(k:Nat):Sk:=(skL[k]?).getD ([],[])
def eF(X:Nat->T3):List Sk->Nat->List G.E
 |[],_=>[]
 |s::l,j=>aAC s (X j)::eF X l (j+1)
def eL(X:Nat->T3)(k:Nat):List G.E:=eF X (skL.take k) 0
def Kd:bU:=λi d=>bif Nat.beq i 44 then(match d with|[]=>some [⟨.sl (.rc 2),oAll⟩]|_=>none)else none
noncomputable def cD(L M k:Nat):bU:=a3a Kd (a30 (L+7000) (M+99)) (L+7000) k
noncomputable def pE(L M k:Nat)(X:Nat->T3)(o:G.O):Bool:=bGn (HT k) (cD L M 58 45 [yS 15 (eL X k),yR 2 o])
end Go.TV
