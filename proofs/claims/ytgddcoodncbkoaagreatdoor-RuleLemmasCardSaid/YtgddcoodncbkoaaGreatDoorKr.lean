import Derived.Test.YtgddcoodncbkoaaGreatDoorKn
set_option linter.unusedVariables false
set_option linter.unusedSimpArgs false
set_option linter.constructorNameAsVariable false
set_option linter.defProp false
namespace Go.TV
open Go.AI Go.PI Go.Proofs
set_option maxRecDepth 20000
noncomputable section
variable(c:TC0)(e:Cu)(L:Nat)
def q0x0(c:TC0)(e:Cu):Kt:=xK ii0
def B0x0(f:Int->Int->List G.E->G.L->Rt)(h:Int)(i:Int)(a:Int):Rt:=
 obL [.bool] (c 1 []) λ(j:Bool×Unit)=>
 cnd (!j.1) (some [yB false]) (obL [zS 16] (c 2 [⟨(.int .u32),h⟩]) λ(g:List G.E×Unit)=>
 obL [zS 6] (c 3 []) λ(b:List G.L×Unit)=>
 chk (!decide ((List.length b.1:Int)=0))<|
 ob (idx b.1 (Int.tmod (IntKind.i64.wrap i) (List.length b.1:Int))) λd=>
 cnd (decide (a<10)) (f (IntKind.i64.wrap a) a g.1 d) (f d.cls a g.1 d))
def V0x0(n:Nt):Int->Int->Int->Rt:=λx0 x1 x2=>n [⟨(.int .u32),x0⟩,⟨(.int .u8),x1⟩,⟨(.int .u8),x2⟩]
def B0x1(i:Bool->Rt)(j:Int)(p:Int)(a:List G.E)(b:G.L):Rt:=
 obL [.rc 1] (c 4 [yT b.name]) λ(q:G.Y×Unit)=>
 obL [.rc 5,i6] (c 5 [yS 16 a,yR 1 q.1,yR 3 b.formula,yI j]) λ(l:G.U×Int×Unit)=>
 obL [.rc 1] (c 4 [yT b.name]) λ(s:G.Y×Unit)=>
 obL [.rc 5,i6] (c 6 [yS 16 a,yR 1 s.1,yR 3 b.formula,yI j]) λ(m:G.U×Int×Unit)=>
 obL [zS 1] (c 7 []) λ(d:List G.Y×Unit)=>
 obL [.rc 1] (c 8 [yT [101,113,117,97,108]]) λ(f:G.Y×Unit)=>
 obL [.rc 1] (c 8 [yT [105,102,102]]) λ(g:G.Y×Unit)=>
 obL [.rc 1] (c 4 [yT [115,97,109,101,45,108,101,110]]) λ(h:G.Y×Unit)=>
 chk (Nat.ble ((List.length d.1+List.length ([f.1,g.1,h.1]:List G.Y))*32) 1073741824)<|
 chk (!decide ((List.length (d.1++([f.1,g.1,h.1]:List G.Y)):Int)=0))<|
 ob (idx (d.1++([f.1,g.1,h.1]:List G.Y)) (Int.tmod (IntKind.i64.wrap p) (List.length (d.1++([f.1,g.1,h.1]:List G.Y)):Int))) λo=>
 cnd (decide (l.2.1=m.2.1)) (obL [.bool] (c 9 [yR 5 l.1,yR 5 m.1]) λ(t:Bool×Unit)=>
 cnd t.1 (obL [.bool] (c 10 [yS 16 a,yR 1 o]) λ(u:Bool×Unit)=>
 obL [.bool] (c 11 [yS 16 a,yR 1 o]) λ(v:Bool×Unit)=>
 i (u.1==v.1)) (i false)) (i false)
def V0x1(n:Nt):Int->Int->List G.E->G.L->Rt:=λx0 x1 x2 x3=>n [yI x0,⟨(.int .u8),x1⟩,yS 16 x2,yR 6 x3]
def X0x1:=V0x1 (xD ii0 e (pw 8 127) ct0x1 (q0x0 c e))
def B0x2(c:TC0)(a:Bool):Rt:=
 some [yB a]
def X0x2:=bX (xD ii0 e (pw 14 8063) ct0x2 (q0x0 c e))
def s0x0:V0x0 (xF ii0 c e)=B0x0 c (X0x1 c e):=by kernel_rfl
def s0x1:V0x1 (xA ii0 c e (pw 8 127) ct0x1 (q0x0 c e))=B0x1 c (X0x2 c e):=by kernel_rfl
def s0x2:bX (xA ii0 c e (pw 14 8063) ct0x2 (q0x0 c e))=B0x2 c:=by kernel_rfl
def J0x2(L:Nat):Bool->Rt:=B0x2 c
def j0x2:X0x2 c (cu c L)=J0x2 c L:=by rw[X0x2,aK,s0x2];rfl
def J0x1:Int->Int->List G.E->G.L->Rt:=B0x1 c (J0x2 c L)
def j0x1:X0x1 c (cu c L)=J0x1 c L:=by rw[X0x1,aK,s0x1];simp only[j0x2];rfl
def F0:Int->Int->Int->Rt:=B0x0 c (J0x1 c L)
def e0:V0x0 (xF ii0 c (cu c L))=F0 c L:=by rw[s0x0];simp only[j0x1];rfl
def q1x0(c:TC0)(e:Cu):Kt:=xK ii1
def B1x0(a:Bool->Rt):Rt:=
 obL [.rc 3] (c 12 [yT [120]]) λ(b:G.T×Unit)=>
 obL [.rc 3] (c 12 [yT [121]]) λ(d:G.T×Unit)=>
 obL [.rc 3] (c 13 [yT [98,105,110,97,114,121,45,43],yS 3 ([b.1,d.1]:List G.T)]) λ(g:G.T×Unit)=>
 obL [.rc 3] (c 13 [yT [98,105,110,97,114,121,45,43],yS 3 ([d.1,b.1]:List G.T)]) λ(h:G.T×Unit)=>
 obL [.rc 3] (c 13 [yT [101,113,117,97,108],yS 3 ([g.1,h.1]:List G.T)]) λ(i:G.T×Unit)=>
 obL [zS 16] (c 2 [⟨(.int .u32),0⟩]) λ(j:List G.E×Unit)=>
 obL [.rc 1] (c 4 [yT [112,108,117,115]]) λ(l:G.Y×Unit)=>
 obL [.rc 5,i6] (c 5 [yS 16 j.1,yR 1 l.1,yR 3 i.1,yI 1]) λ(f:G.U×Int×Unit)=>
 obL [.rc 3] (c 12 [yT [97]]) λ(m:G.T×Unit)=>
 obL [.rc 3] (c 12 [yT [98]]) λ(o:G.T×Unit)=>
 obL [.rc 1] (c 4 [yT [120]]) λ(p:G.Y×Unit)=>
 obL [.rc 1] (c 4 [yT [121]]) λ(q:G.Y×Unit)=>
 cnd (decide (f.2.1=0)) (cnd (decide ((List.length f.1.stops:Int)=2)) (none) (a false)) (a false)
def B1x1(c:TC0)(a:Bool):Rt:=
 some [yB a]
def X1x1:=bX (xD ii1 e (pw 8 127) ct1x1 (q1x0 c e))
def s1x0:fA (xF ii1 c e)=B1x0 c (X1x1 c e):=by kernel_rfl
def s1x1:bX (xA ii1 c e (pw 8 127) ct1x1 (q1x0 c e))=B1x1 c:=by kernel_rfl
def J1x1(L:Nat):Bool->Rt:=B1x1 c
def j1x1:X1x1 c (cu c L)=J1x1 c L:=by rw[X1x1,aK,s1x1];rfl
def F1:Rt:=B1x0 c (J1x1 c L)
def e1:fA (xF ii1 c (cu c L))=F1 c L:=by rw[s1x0];simp only[j1x1];rfl
def c1(L n:Nat):CTp L (n+1) 1 []=F1 (CTp L n) L:=by rw[<-e1];exact cg (x:=ii1) (by kernel_rfl) (by kernel_rfl) L n _
def q2x0(c:TC0)(e:Cu):Kt:=xK ii2
def q2x1:Kt:=xT ii2 c e (pw 4 15) (q2x0 c e)
def q2x2:Kt:=bH U0 0 (q2x1 c e)
def q2x3:Kt:=xT ii2 c e (pw 6 63) (q2x0 c e)
def q2x4:Kt:=bH U0 2 (q2x3 c e)
def q2x5(n2:Nt):Kt:=lpK U0 aIm n2 (q2x4 c e)
def q2x6(n2:Nt):Kt:=xT ii2 c e (pw 11 1631) (q2x5 c e n2)
def q2x7(n2:Nt):Kt:=bH U0 3 (q2x6 c e n2)
def B2x0(a:(List (List G.F))->Int->Int->List G.E->Rt)(b:Int):Rt:=
 obL [zS 16] (c 14 []) λ(d:List G.E×Unit)=>
 obL [.sl (zS 8)] (c 15 []) λ(f:(List (List G.F))×Unit)=>
 a f.1 0 b d.1
def V2x0(n:Nt):Int->Rt:=λx0=>n [⟨(.int .u32),x0⟩]
def B2x1(i:(List (List G.F))->Int->Int->List G.E->Rt)(j:Int->List G.L->Int->List G.E->Rt)(a:(List (List G.F)))(b:Int)(f:Int)(d:List G.E):Rt:=
 cnd (decide (b<(List.length a:Int))) (ob (idx a b) λl=>
 ob (idx l 0) λg=>
 ob (idx a b) λh=>
 chk (Nat.ble ((List.length d+List.length ([(G.E.mk 3 g.name (G.A.mk [] ([]:List G.Y)) (G.M.mk zqS ([]:List G.Y) false zqT) h ([]:List G.T) ([]:List (List G.N)) ([]:List G.E) (G.B.mk zqS ([]:List G.D)) ([]:List G.U) ([]:List G.Y) ([]:List G.Y) [] 0)]:List G.E))*568) 1073741824)<|
 i a (IntKind.i64.wrap (b+1)) f (d++([(G.E.mk 3 g.name (G.A.mk [] ([]:List G.Y)) (G.M.mk zqS ([]:List G.Y) false zqT) h ([]:List G.T) ([]:List (List G.N)) ([]:List G.E) (G.B.mk zqS ([]:List G.D)) ([]:List G.U) ([]:List G.Y) ([]:List G.Y) [] 0)]:List G.E))) (obL [zS 6] (c 3 []) λ(m:List G.L×Unit)=>
 j f m.1 0 d)
def V2x1(n:Nt):(List (List G.F))->Int->Int->List G.E->Rt:=λx0 x1 x2 x3=>n [⟨.sl (zS 8),x0⟩,yI x1,⟨(.int .u32),x2⟩,yS 16 x3]
def X2x1:=V2x1 (xE ii2 e (pw 7 23) aL1 (q2x2 c e))
def B2x2(l:Int->Int->List G.L->List G.E->Rt)(h:List G.E->Int->Int->List G.L->G.E->Rt)(f:Int)(b:List G.L)(a:Int)(d:List G.E):Rt:=
 cnd (decide (a<(List.length b:Int))) (chk (decide (0<=a))<|
 cnd (decide ((IntKind.u32.wrap ((BitVec.ofInt IntKind.u32.bits (Int.fdiv f (2^(min (Int.toNat a) IntKind.u32.bits)))&&&BitVec.ofInt IntKind.u32.bits 1).toNat:Int))=0)) (l a f b d) (ob (idx b a) λm=>
 ob (idx b a) λi=>
 obL [.rc 1] (c 4 [yT m.name]) λ(g:G.Y×Unit)=>
 ob (idx b a) λo=>
 ob (idx b a) λp=>
 obL [.rc 5,i6] (c 6 [yS 16 d,yR 1 g.1,yR 3 o.formula,yI p.cls]) λ(j:G.U×Int×Unit)=>
 cnd (decide (j.2.1=0)) (h d a f b (G.E.mk 4 g.1 (G.A.mk [] ([]:List G.Y)) (G.M.mk zqS ([]:List G.Y) false zqT) ([]:List G.F) ([i.formula]:List G.T) ([]:List (List G.N)) ([]:List G.E) (G.B.mk zqS ([]:List G.D)) ([j.1]:List G.U) ([]:List G.Y) ([]:List G.Y) [] 0)) (h d a f b (G.E.mk 4 g.1 (G.A.mk [] ([]:List G.Y)) (G.M.mk zqS ([]:List G.Y) false zqT) ([]:List G.F) ([i.formula]:List G.T) ([]:List (List G.N)) ([]:List G.E) (G.B.mk zqS ([]:List G.D)) ([]:List G.U) ([]:List G.Y) ([]:List G.Y) [] 0)))) (some [yS 16 d])
def V2x2(n:Nt):Int->List G.L->Int->List G.E->Rt:=λx0 x1 x2 x3=>n [⟨(.int .u32),x0⟩,yS 6 x1,yI x2,yS 16 x3]
def X2x2:=V2x2 (xE ii2 e (pw 9 95) aIm (q2x4 c e))
def B2x3(c:TC0)(a:Int->List G.L->Int->List G.E->Rt)(b:Int)(d:Int)(f:List G.L)(g:List G.E):Rt:=
 a d f (IntKind.i64.wrap (b+1)) g
def V2x3(n:Nt):Int->Int->List G.L->List G.E->Rt:=λx0 x1 x2 x3=>n [yI x0,⟨(.int .u32),x1⟩,yS 6 x2,yS 16 x3]
def X2x3(n2:Nt):=V2x3 (xD ii2 e (pw 12 1631) ct2x3 (q2x5 c e n2))
def B2x4(c:TC0)(d:Int->Int->List G.L->List G.E->Rt)(a:List G.E)(f:Int)(g:Int)(h:List G.L)(b:G.E):Rt:=
 chk (Nat.ble ((List.length a+List.length ([b]:List G.E))*568) 1073741824)<|
 d f g h (a++([b]:List G.E))
def V2x4(n:Nt):List G.E->Int->Int->List G.L->G.E->Rt:=λx0 x1 x2 x3 x4=>n [yS 16 x0,yI x1,⟨(.int .u32),x2⟩,yS 6 x3,yR 16 x4]
def X2x4(n2:Nt):=V2x4 (xD ii2 e (pw 16 29279) ct2x4 (q2x7 c e n2))
def s2x0:V2x0 (xF ii2 c e)=B2x0 c (X2x1 c e):=by kernel_rfl
def s2x1(n1:Nt):V2x1 (xA ii2 c e (pw 7 23) aL1 (lpK U0 aL1 n1 (q2x2 c e)))=B2x1 c (V2x1 n1) (X2x2 c e):=by kernel_rfl
def s2x2(n2:Nt):V2x2 (xA ii2 c e (pw 9 95) aIm (lpK U0 aIm n2 (q2x4 c e)))=B2x2 c (X2x3 c e n2) (X2x4 c e n2):=by kernel_rfl
def s2x3(n2:Nt):V2x3 (xA ii2 c e (pw 12 1631) ct2x3 (q2x5 c e n2))=B2x3 c (V2x2 n2):=by kernel_rfl
def s2x4(n2:Nt):V2x4 (xA ii2 c e (pw 16 29279) ct2x4 (q2x7 c e n2))=B2x4 c (X2x3 c e n2):=by kernel_rfl
def J2x3(L:Nat)(n2:Int->List G.L->Int->List G.E->Rt):Int->Int->List G.L->List G.E->Rt:=B2x3 c n2
def j2x3(n2:Nt):X2x3 c (cu c L) n2=J2x3 c L (V2x2 n2):=by rw[X2x3,aK,s2x3];rfl
def J2x4(n2:Int->List G.L->Int->List G.E->Rt):List G.E->Int->Int->List G.L->G.E->Rt:=B2x4 c (J2x3 c L n2)
def j2x4(n2:Nt):X2x4 c (cu c L) n2=J2x4 c L (V2x2 n2):=by rw[X2x4,aK,s2x4];simp only[j2x3];rfl
def aNF(c:TC0)(L:Nat):Nat->Int->List G.L->Int->List G.E->Rt
 |0=>λ_ _ _ _=>none
 |n+1=>B2x2 c (J2x3 c L (aNF c L n)) (J2x4 c L (aNF c L n))
def u2x2(n:Nat):V2x2 (xL ii2 c L (pw 9 95) aIm (q2x4 c (cu c L)) n)=aNF c L n:=by
 induction n with
 |zero=>rfl
 |succ n ih=>rw[dD,s2x2];simp only[j2x3,j2x4,ih];rfl
def w2x2:X2x2 c (cu c L)=aNF c L L:=u2x2 c L L
def W2x1(c:TC0)(L:Nat):Nat->(List (List G.F))->Int->Int->List G.E->Rt
 |0=>λ_ _ _ _=>none
 |n+1=>B2x1 c (W2x1 c L n) (aNF c L L)
def u2x1(n:Nat):V2x1 (xL ii2 c L (pw 7 23) aL1 (q2x2 c (cu c L)) n)=W2x1 c L n:=by
 induction n with
 |zero=>rfl
 |succ n ih=>rw[dD,s2x1];simp only[w2x2,ih];rfl
def w2x1:X2x1 c (cu c L)=W2x1 c L L:=u2x1 c L L
def F2:Int->Rt:=B2x0 c (W2x1 c L L)
def e2:V2x0 (xF ii2 c (cu c L))=F2 c L:=by rw[s2x0];simp only[w2x1];rfl
def c2(a:Int)(L n:Nat):CTp L (n+1) 2 [⟨(.int .u32),a⟩]=F2 (CTp L n) L a:=by rw[<-e2];exact cg (x:=ii2) (by kernel_rfl) (by kernel_rfl) L n _
def B4x0(c:TC0)(a:List UInt8):Rt:=
 some [yR 1 (G.Y.mk [117,115,101,114] a)]
def s4x0:rT (xF ii4 c e)=B4x0 c:=by kernel_rfl
def F4(L:Nat):List UInt8->Rt:=B4x0 c
def e4:rT (xF ii4 c (cu c L))=F4 c L:=s4x0 _ _
def c4(a:List UInt8)(L n:Nat):CTp L (n+1) 4 [yT a]=F4 (CTp L n) L a:=by rw[<-e4];exact cg (x:=ii4) (by kernel_rfl) (by kernel_rfl) L n _
def q5x0(c:TC0)(e:Cu):Kt:=xK ii5
def q5x1:Kt:=xT ii5 c e [1,1] (q5x0 c e)
def B5x0(c:TC0)(b:Bool->Int->List G.E->G.Y->G.T->G.U->Rt)(d:List G.E)(f:G.Y)(g:G.T)(a:Int):Rt:=
 cnd (decide (a<1)) (b true a d f g zqR) (b (decide ((8:Int)<a)) a d f g zqR)
def B5x1(d:Int->G.U->G.U->Rt)(u:Bool)(a:Int)(i:List G.E)(f:G.Y)(h:G.T)(g:G.U):Rt:=
 cnd u (some [yR 5 zqR,yI 24]) (obL [zS 3,.rc 3] (c 23 [yR 3 h]) λ(b:List G.T×G.T×Unit)=>
 cnd (decide (a=1)) (obL [i6,.rc 5] (c 24 [yS 16 i,yR 3 b.2.1,yR 5 (G.U.mk f a b.1 zqS zqT zqT ([]:List G.T) 0 ([]:List G.Q) 0 zqS)]) λ(j:Int×G.U×Unit)=>
 d j.1 j.2.1 g) (cnd (decide (a=2)) (obL [i6,.rc 5] (c 25 [yR 3 b.2.1,yR 5 (G.U.mk f a b.1 zqS zqT zqT ([]:List G.T) 0 ([]:List G.Q) 0 zqS)]) λ(l:Int×G.U×Unit)=>
 d l.1 l.2.1 g) (cnd (decide (a=3)) (obL [i6,.rc 5] (c 26 [yR 3 b.2.1,yR 5 (G.U.mk f a b.1 zqS zqT zqT ([]:List G.T) 0 ([]:List G.Q) 0 zqS)]) λ(m:Int×G.U×Unit)=>
 d m.1 m.2.1 g) (cnd (decide (a=4)) (obL [i6,.rc 5] (c 27 [yR 3 b.2.1,yR 5 (G.U.mk f a b.1 zqS zqT zqT ([]:List G.T) 0 ([]:List G.Q) 0 zqS)]) λ(o:Int×G.U×Unit)=>
 d o.1 o.2.1 g) (cnd (decide (a=5)) (obL [i6,.rc 5] (c 28 [yR 3 b.2.1,yR 5 (G.U.mk f a b.1 zqS zqT zqT ([]:List G.T) 0 ([]:List G.Q) 0 zqS)]) λ(p:Int×G.U×Unit)=>
 d p.1 p.2.1 g) (cnd (decide (a=6)) (obL [i6,.rc 5] (c 29 [yS 16 i,yR 3 h,yR 5 (G.U.mk f a ([]:List G.T) zqS zqT zqT ([]:List G.T) 0 ([]:List G.Q) 0 zqS)]) λ(q:Int×G.U×Unit)=>
 d q.1 q.2.1 g) (cnd (decide (a=7)) (obL [i6,.rc 5] (c 30 [yS 16 i,yR 3 h,yR 5 (G.U.mk f a ([]:List G.T) zqS zqT zqT ([]:List G.T) 0 ([]:List G.Q) 0 zqS)]) λ(s:Int×G.U×Unit)=>
 d s.1 s.2.1 g) (obL [i6,.rc 5] (c 31 [yR 3 h,yS 3 b.1,yR 3 b.2.1,yR 5 (G.U.mk f a ([]:List G.T) zqS zqT zqT ([]:List G.T) 0 ([]:List G.Q) 0 zqS)]) λ(t:Int×G.U×Unit)=>
 d t.1 t.2.1 g))))))))
def V5x1(n:Nt):Bool->Int->List G.E->G.Y->G.T->G.U->Rt:=λx0 x1 x2 x3 x4 x5=>n [yB x0,yI x1,yS 16 x2,yR 1 x3,yR 3 x4,yR 5 x5]
def X5x1:=V5x1 (xD ii5 e (pw 4 5) ct5x1 (q5x1 c e))
def B5x2(c:TC0)(a:Int)(b:G.U)(d:G.U):Rt:=
 cnd (!decide (a=0)) (some [yR 5 zqR,yI a]) (some [yR 5 b,yI 0])
def X5x2:=V5x2 (xD ii5 e (pw 7 63) ct5x2 (q5x0 c e))
def s5x0:V5x0 (xF ii5 c e)=B5x0 c (X5x1 c e):=by kernel_rfl
def s5x1:V5x1 (xA ii5 c e (pw 4 5) ct5x1 (q5x1 c e))=B5x1 c (X5x2 c e):=by kernel_rfl
def s5x2:V5x2 (xA ii5 c e (pw 7 63) ct5x2 (q5x0 c e))=B5x2 c:=by kernel_rfl
def J5x2(L:Nat):Int->G.U->G.U->Rt:=B5x2 c
def j5x2:X5x2 c (cu c L)=J5x2 c L:=by rw[X5x2,aK,s5x2];rfl
def J5x1:Bool->Int->List G.E->G.Y->G.T->G.U->Rt:=B5x1 c (J5x2 c L)
def j5x1:X5x1 c (cu c L)=J5x1 c L:=by rw[X5x1,aK,s5x1];simp only[j5x2];rfl
def F5:List G.E->G.Y->G.T->Int->Rt:=B5x0 c (J5x1 c L)
def e5:V5x0 (xF ii5 c (cu c L))=F5 c L:=by rw[s5x0];simp only[j5x1];rfl
def c5(a:List G.E)(b:G.Y)(d:G.T)(f:Int)(L n:Nat):CTp L (n+1) 5 [yS 16 a,yR 1 b,yR 3 d,yI f]=F5 (CTp L n) L a b d f:=by rw[<-e5];exact cg (x:=ii5) (by kernel_rfl) (by kernel_rfl) L n _
def q6x0(c:TC0)(e:Cu):Kt:=xK ii6
def q6x1:Kt:=xT ii6 c e (pw 6 63) (q6x0 c e)
def wO:Kt:=bH U0 0 (q6x1 c e)
def q6x3:Kt:=xT ii6 c e (pw 11 1375) (wO c e)
def q6x4:Kt:=bH U0 1 (q6x3 c e)
def q6x5:Kt:=xT ii6 c e (pw 19 393055) (wO c e)
def q6x6:Kt:=xT ii6 c e (pw 23 7864159) (wO c e)
def q6x7:Kt:=xT ii6 c e (pw 27 125828959) (wO c e)
def q6x8:Kt:=bH U0 8 (q6x7 c e)
def q6x9:Kt:=xT ii6 c e (pw 16 46943) (wO c e)
def q6x10:Kt:=xT ii6 c e (pw 23 8093535) (wO c e)
def q6x11:Kt:=bH U0 2 (q6x10 c e)
def q6x12:Kt:=xT ii6 c e (pw 21 1965919) (wO c e)
def q6x13:Kt:=bH U0 4 (q6x12 c e)
def q6x14:Kt:=xT ii6 c e (pw 25 33029983) (wO c e)
def q6x15(n7:Nt):Kt:=lpK U0 aIl n7 (q6x8 c e)
def q6x16(n7:Nt):Kt:=xT ii6 c e (pw 32 3414163295) (q6x15 c e n7)
def q6x17(n7:Nt):Kt:=bH U0 9 (q6x16 c e n7)
def q6x18:Kt:=xT ii6 c e (pw 13 5471) (wO c e)
def q6x19:Kt:=xT ii6 c e (pw 19 505695) (wO c e)
def q6x20(n11:Nt):Kt:=lpK U0 xS n11 (q6x11 c e)
def q6x21(n11:Nt):Kt:=xT ii6 c e (pw 28 213614431) (q6x20 c e n11)
def q6x22(n11:Nt):Kt:=bH U0 3 (q6x21 c e n11)
def q6x23(n12:Nt):Kt:=lpK U0 xR n12 (q6x13 c e)
def q6x24(n12:Nt):Kt:=xT ii6 c e (pw 26 53346143) (q6x23 c e n12)
def q6x25(n12:Nt):Kt:=bH U0 5 (q6x24 c e n12)
def q6x26(n12:Nt):Kt:=xT ii6 c e (pw 29 422444895) (q6x25 c e n12)
def q6x27(n12:Nt):Kt:=bH U0 6 (q6x25 c e n12)
def B6x0(l:Bool->List G.Y->G.T->G.U->G.U->Rt)(p:Bool->List G.Y->G.T->G.T->G.U->G.U->Rt)(q:List G.Y->List G.Y->G.T->G.T->G.U->G.U->Rt)(s:List G.Y->List G.Y->G.T->G.T->G.U->G.U->Rt)(j:Bool->List G.Y->G.T->G.U->G.U->Rt)(m:Bool->List G.E->G.T->G.T->G.U->G.U->Rt)(u:List G.Y->List G.T->Int->G.T->G.U->G.U->Rt)(i:List G.E)(d:G.Y)(g:G.T)(b:Int):Rt:=
 obL [zS 3,.rc 3] (c 32 [yR 3 g]) λ(a:List G.T×G.T×Unit)=>
 obL [zS 1] (c 33 [yS 3 a.1]) λ(f:List G.Y×Unit)=>
 obL [zS 1] (c 33 [yS 3 ([a.2.1]:List G.T)]) λ(h:List G.Y×Unit)=>
 cnd (decide (b=1)) (cnd (decide (a.2.1.kind=3)) (cnd (decide ((List.length a.2.1.args:Int)=2)) (obL [.bool] (c 11 [yS 16 i,yR 1 a.2.1.name]) λ(v:Bool×Unit)=>
 l v.1 f.1 a.2.1 (G.U.mk d b a.1 zqS zqT zqT ([]:List G.T) 0 ([]:List G.Q) 0 zqS) zqR) (l false f.1 a.2.1 (G.U.mk d b a.1 zqS zqT zqT ([]:List G.T) 0 ([]:List G.Q) 0 zqS) zqR)) (l false f.1 a.2.1 (G.U.mk d b a.1 zqS zqT zqT ([]:List G.T) 0 ([]:List G.Q) 0 zqS) zqR)) (cnd (decide (b=2)) (obL [.bool] (c 34 [yR 3 a.2.1,yT [110,111,116],yI 1]) λ(w:Bool×Unit)=>
 cnd w.1 (ob (idx a.2.1.args 0) λx=>
 p false f.1 x a.2.1 (G.U.mk d b a.1 zqS zqT zqT ([]:List G.T) 0 ([]:List G.Q) 0 zqS) zqR) (p true f.1 a.2.1 a.2.1 (G.U.mk d b a.1 zqS zqT zqT ([]:List G.T) 0 ([]:List G.Q) 0 zqS) zqR)) (cnd (decide (b=3)) (cnd (decide ((List.length a.1:Int)=0)) (some [yR 5 zqR,yI 40]) (ob (idx a.1 0) λo=>
 obL [.bool] (c 34 [yR 3 o,yT [110,111,116],yI 1]) λ(y:Bool×Unit)=>
 cnd y.1 (ob (idx o.args 0) λz=>
 q h.1 f.1 a.2.1 z (G.U.mk d b a.1 zqS zqT zqT ([]:List G.T) 0 ([]:List G.Q) 0 zqS) zqR) (q h.1 f.1 a.2.1 o (G.U.mk d b a.1 zqS zqT zqT ([]:List G.T) 0 ([]:List G.Q) 0 zqS) zqR))) (cnd (decide (b=4)) (obL [.bool] (c 34 [yR 3 a.2.1,yT [110,111,116],yI 1]) λ(A:Bool×Unit)=>
 cnd A.1 (ob (idx a.2.1.args 0) λB=>
 s f.1 h.1 B a.2.1 (G.U.mk d b a.1 zqS zqT zqT ([]:List G.T) 0 ([]:List G.Q) 0 zqS) zqR) (s f.1 h.1 a.2.1 a.2.1 (G.U.mk d b a.1 zqS zqT zqT ([]:List G.T) 0 ([]:List G.Q) 0 zqS) zqR)) (cnd (decide (b=5)) (obL [.bool] (c 34 [yR 3 a.2.1,yT [101,113,117,97,108],yI 2]) λ(C:Bool×Unit)=>
 cnd (!C.1) (j true f.1 a.2.1 (G.U.mk d b a.1 zqS zqT zqT ([]:List G.T) 0 ([]:List G.Q) 0 zqS) zqR) (ob (idx a.2.1.args 1) λD=>
 cnd (!decide (D.kind=1)) (j true f.1 a.2.1 (G.U.mk d b a.1 zqS zqT zqT ([]:List G.T) 0 ([]:List G.Q) 0 zqS) zqR) (ob (idx a.2.1.args 0) λE=>
 cnd (!decide (E.kind=3)) (j true f.1 a.2.1 (G.U.mk d b a.1 zqS zqT zqT ([]:List G.T) 0 ([]:List G.Q) 0 zqS) zqR) (ob (idx a.2.1.args 0) λF=>
 j (decide ((List.length F.args:Int)=0)) f.1 a.2.1 (G.U.mk d b a.1 zqS zqT zqT ([]:List G.T) 0 ([]:List G.Q) 0 zqS) zqR)))) (cnd (decide (b=6)) (obL [.bool] (c 34 [yR 3 g,yT [105,102],yI 3]) λ(σ:Bool×Unit)=>
 cnd (!σ.1) (m true i g g (G.U.mk d b ([]:List G.T) zqS zqT zqT ([]:List G.T) 0 ([]:List G.Q) 0 zqS) zqR) (ob (idx g.args 0) λγ=>
 obL [.bool] (c 34 [yR 3 γ,yT [98,111,111,108,101,97,110,112],yI 1]) λ(ν:Bool×Unit)=>
 cnd (!ν.1) (m true i g g (G.U.mk d b ([]:List G.T) zqS zqT zqT ([]:List G.T) 0 ([]:List G.Q) 0 zqS) zqR) (ob (idx g.args 0) λK=>
 ob (idx K.args 0) λM=>
 m (!decide (M.kind=3)) i g g (G.U.mk d b ([]:List G.T) zqS zqT zqT ([]:List G.T) 0 ([]:List G.Q) 0 zqS) zqR))) (cnd (decide (b=7)) (obL [.rc 5,i6] (c 35 [yS 16 i,yR 5 (G.U.mk d b ([]:List G.T) zqS zqT zqT ([]:List G.T) 0 ([]:List G.Q) 0 zqS),yR 3 g]) λ(t:G.U×Int×Unit)=>
 some [yR 5 t.1,yI t.2.1]) (cnd (decide (b=8)) (chk (Nat.ble ((List.length ([]:List G.Y)+List.length f.1)*32) 1073741824)<|
 chk (Nat.ble ((List.length (([]:List G.Y)++f.1)+List.length h.1)*32) 1073741824)<|
 obL [zS 3] (c 36 [yS 3 ([a.2.1]:List G.T)]) λ(α:List G.T×Unit)=>
 u ((([]:List G.Y)++f.1)++h.1) α.1 1 g (G.U.mk d b a.1 zqS zqT zqT ([]:List G.T) 0 ([]:List G.Q) 0 zqS) zqR) (some [yR 5 zqR,yI 24]))))))))
def B6x1(d:List G.Y->G.U->G.U->Rt)(h:Bool)(f:List G.Y)(b:G.T)(a:G.U)(g:G.U):Rt:=
 cnd h (ob (idx b.args 0) λi=>
 ob (idx b.args 1) λj=>
 d f (G.U.mk a.name a.cls a.hyps b.name i j a.terms a.tset a.stops a.arg a.inner) g) (obL [.bool] (c 34 [yR 3 b,yT [110,111,116],yI 1]) λ(l:Bool×Unit)=>
 cnd l.1 (ob (idx b.args 0) λm=>
 obL [.rc 1] (c 37 [yT [101,113,117,97,108]]) λ(o:G.Y×Unit)=>
 obL [.rc 3] (c 38 []) λ(p:G.T×Unit)=>
 d f (G.U.mk a.name a.cls a.hyps o.1 m p.1 a.terms a.tset a.stops a.arg a.inner) g) (obL [.rc 1] (c 37 [yT [105,102,102]]) λ(q:G.Y×Unit)=>
 obL [.rc 2] (c 39 []) λ(s:G.O×Unit)=>
 obL [.rc 3] (c 40 [yR 2 s.1]) λ(t:G.T×Unit)=>
 d f (G.U.mk a.name a.cls a.hyps q.1 b t.1 a.terms a.tset a.stops a.arg a.inner) g))
def X6x1:=V6x1 (xD ii6 e (pw 14 4447) ct6x1 (q6x4 c e))
def B6x2(b:Bool->Bool->List G.Y->G.T->G.T->G.U->G.U->Rt)(d:Bool)(f:List G.Y)(a:G.T)(g:G.T)(h:G.U)(i:G.U):Rt:=
 cnd (!decide (a.kind=3)) (b true d f a g h i) (cnd (!decide ((List.length a.args:Int)=1)) (b true d f a g h i) (obL [.rc 1] (c 37 [yT [110,111,116]]) λ(j:G.Y×Unit)=>
 b (decide (a.name=j.1)) d f a g h i))
def V6x2(n:Nt):Bool->List G.Y->G.T->G.T->G.U->G.U->Rt:=λx0 x1 x2 x3 x4 x5=>n [yB x0,yS 1 x1,yR 3 x2,yR 3 x3,yR 5 x4,yR 5 x5]
def X6x2:=V6x2 (xD ii6 e (pw 15 14175) ct6x2 (wO c e))
def B6x3(d:G.U->G.U->Rt)(f:List G.Y)(g:List G.Y)(h:G.T)(b:G.T)(a:G.U)(i:G.U):Rt:=
 cnd (!decide (b.kind=3)) (some [yR 5 zqR,yI 40]) (obL [.bool] (c 41 [yS 1 f,yS 1 g]) λ(j:Bool×Unit)=>
 cnd (!j.1) (some [yR 5 zqR,yI 41]) (d (G.U.mk a.name a.cls a.hyps a.equiv a.left h ([b]:List G.T) a.tset a.stops a.arg a.inner) i))
def X6x3:=V6x3 (xD ii6 e (pw 18 122719) ct6x3 (wO c e))
def B6x4(f:List G.Y->List G.T->Int->G.T->G.U->G.U->Rt)(a:List G.Y)(b:List G.Y)(d:G.T)(g:G.T)(h:G.U)(i:G.U):Rt:=
 obL [.bool] (c 34 [yR 3 d,yT [60],yI 2]) λ(j:Bool×Unit)=>
 cnd (!j.1) (some [yR 5 zqR,yI 40]) (chk (Nat.ble ((List.length ([]:List G.Y)+List.length a)*32) 1073741824)<|
 chk (Nat.ble ((List.length (([]:List G.Y)++a)+List.length b)*32) 1073741824)<|
 obL [zS 3] (c 36 [yS 3 d.args]) λ(l:List G.T×Unit)=>
 f ((([]:List G.Y)++a)++b) l.1 0 g h i)
def X6x4:=V6x3 (xD ii6 e (pw 19 229215) ct6x4 (wO c e))
def B6x5(c:TC0)(b:Int->List G.Y->G.T->G.T->G.U->G.U->Rt)(d:Bool)(f:List G.Y)(a:G.T)(g:G.U)(h:G.U):Rt:=
 cnd d (some [yR 5 zqR,yI 40]) (ob (idx a.args 0) λi=>
 ob (idx a.args 1) λj=>
 b 0 f j i g h)
def X6x5:=V6x1 (xD ii6 e (pw 21 655199) ct6x5 (q6x5 c e))
def B6x6(b:Bool->G.Y->G.U->G.U->Rt)(g:Bool)(h:List G.E)(i:G.T)(j:G.T)(d:G.U)(f:G.U):Rt:=
 cnd g (some [yR 5 zqR,yI 40]) (ob (idx i.args 0) λl=>
 ob (idx l.args 0) λa=>
 obL [.rc 8,.bool] (c 42 [yS 16 h,yR 1 a.name]) λ(m:G.F×Bool×Unit)=>
 cnd (!m.2.1) (b true a.name d f) (obL [.rc 3] (c 19 [yR 1 a.name]) λ(o:G.T×Unit)=>
 obL [.bool] (c 43 [yR 3 j,yR 3 o.1]) λ(p:Bool×Unit)=>
 b (!p.1) a.name d f))
def V6x6(n:Nt):Bool->List G.E->G.T->G.T->G.U->G.U->Rt:=λx0 x1 x2 x3 x4 x5=>n [yB x0,yS 16 x1,yR 3 x2,yR 3 x3,yR 5 x4,yR 5 x5]
def X6x6:=V6x6 (xD ii6 e (pw 25 12058463) ct6x6 (q6x6 c e))
def B6x7(f:Bool->Int->List G.Y->List G.T->G.T->G.U->G.U->Rt)(d:List G.Y)(a:List G.T)(b:Int)(g:G.T)(h:G.U)(i:G.U):Rt:=
 cnd (decide (b<(List.length a:Int))) (ob (idx a b) λj=>
 cnd (decide (j.kind=3)) (ob (idx a b) λl=>
 obL [.bool] (c 44 [yR 1 l.name]) λ(m:Bool×Unit)=>
 cnd (!m.1) (ob (idx a b) λo=>
 obL [zS 1] (c 33 [yS 3 ([o]:List G.T)]) λ(p:List G.Y×Unit)=>
 obL [.bool] (c 41 [yS 1 d,yS 1 p.1]) λ(q:Bool×Unit)=>
 f q.1 b d a g h i) (f false b d a g h i)) (f false b d a g h i)) (some [yR 5 zqR,yI 40])
def X6x7:=aNJ (xE ii6 e (pw 30 192937823) aIl (q6x8 c e))
def B6x8(b:Bool->List G.Y->G.U->G.U->Rt)(d:List G.Y)(a:G.U)(f:G.U):Rt:=
 cnd (!decide (a.left.kind=3)) (b true d a f) (obL [.rc 1] (c 37 [yT [105,102]]) λ(g:G.Y×Unit)=>
 b (decide (a.left.name=g.1)) d a f)
def V6x8(n:Nt):List G.Y->G.U->G.U->Rt:=λx0 x1 x2=>n [yS 1 x0,yR 5 x1,yR 5 x2]
def X6x8:=V6x8 (xD ii6 e (pw 12 1375) ct6x8 (wO c e))
def B6x9(d:Bool->Bool->List G.Y->Int->G.T->G.T->G.U->G.U->Rt)(m:Bool)(f:Bool)(g:List G.Y)(l:G.T)(h:G.T)(i:G.U)(j:G.U):Rt:=
 cnd m (some [yR 5 zqR,yI 40]) (obL [i6,.bool] (c 45 [yR 1 l.name]) λ(b:Int×Bool×Unit)=>
 ob (idx l.args 0) λa=>
 cnd (!b.2.1) (d true f g b.1 h a i j) (cnd (!decide (a.kind=3)) (d true f g b.1 h a i j) (obL [.bool] (c 44 [yR 1 a.name]) λ(o:Bool×Unit)=>
 d o.1 f g b.1 h a i j)))
def V6x9(n:Nt):Bool->Bool->List G.Y->G.T->G.T->G.U->G.U->Rt:=λx0 x1 x2 x3 x4 x5 x6=>n [yB x0,yB x1,yS 1 x2,yR 3 x3,yR 3 x4,yR 5 x5,yR 5 x6]
def X6x9:=V6x9 (xD ii6 e (pw 18 79711) ct6x9 (q6x9 c e))
def B6x10(c:TC0)(a:G.U)(b:G.U):Rt:=
 some [yR 5 a,yI 0]
def aCr:=V6x10 (xD ii6 e (pw 7 63) aLF (q6x0 c e))
def B6x11(i:Bool->Int->List G.Y->List G.T->G.T->G.U->G.U->Rt)(j:G.U->G.U->Rt)(f:List G.Y)(b:List G.T)(d:Int)(g:G.T)(a:G.U)(h:G.U):Rt:=
 cnd (decide (d<(List.length b:Int))) (ob (idx b d) λl=>
 cnd (decide (l.kind=3)) (ob (idx b d) λm=>
 obL [.bool] (c 46 [yR 1 m.name]) λ(o:Bool×Unit)=>
 cnd (!o.1) (ob (idx b d) λp=>
 obL [zS 1] (c 33 [yS 3 ([p]:List G.T)]) λ(q:List G.Y×Unit)=>
 obL [.bool] (c 41 [yS 1 f,yS 1 q.1]) λ(s:Bool×Unit)=>
 i s.1 d f b g a h) (i false d f b g a h)) (i false d f b g a h)) (cnd (decide ((List.length a.terms:Int)=0)) (some [yR 5 zqR,yI 40]) (j (G.U.mk a.name a.cls a.hyps a.equiv a.left g a.terms a.tset a.stops a.arg a.inner) h))
def X6x11:=aNJ (xE ii6 e (pw 26 12287839) xS (q6x11 c e))
def B6x12(i:Bool->Int->List G.Y->G.T->G.T->G.U->G.U->Rt)(l:G.U->G.U->Rt)(d:Int)(g:List G.Y)(f:G.T)(b:G.T)(a:G.U)(h:G.U):Rt:=
 cnd (decide (d<(List.length b.args:Int))) (ob (idx b.args d) λm=>
 obL [zS 1] (c 33 [yS 3 ([m]:List G.T)]) λ(j:List G.Y×Unit)=>
 ob (idx b.args d) λo=>
 cnd (!decide (o.kind=3)) (i true d g f b a h) (cnd (!decide ((List.length j.1:Int)=1)) (i true d g f b a h) (ob (idx j.1 0) λp=>
 i (!decide (p=f.name)) d g f b a h))) (obL [.bool] (c 41 [yS 1 g,yS 1 ([f.name]:List G.Y)]) λ(q:Bool×Unit)=>
 cnd (!q.1) (some [yR 5 zqR,yI 41]) (l (G.U.mk a.name a.cls a.hyps a.equiv b f b.args a.tset a.stops a.arg a.inner) h))
def aEY(n:Nt):Int->List G.Y->G.T->G.T->G.U->G.U->Rt:=λx0 x1 x2 x3 x4 x5=>n [yI x0,yS 1 x1,yR 3 x2,yR 3 x3,yR 5 x4,yR 5 x5]
def X6x12:=aEY (xE ii6 e (pw 24 3014495) xR (q6x13 c e))
def B6x13(c:TC0)(b:G.U->G.U->Rt)(d:Bool)(f:G.Y)(a:G.U)(g:G.U):Rt:=
 cnd d (some [yR 5 zqR,yI 40]) (b (G.U.mk a.name a.cls a.hyps f a.left a.right a.terms a.tset a.stops a.arg a.inner) g)
def V6x13(n:Nt):Bool->G.Y->G.U->G.U->Rt:=λx0 x1 x2 x3=>n [yB x0,yR 1 x1,yR 5 x2,yR 5 x3]
def X6x13:=V6x13 (xD ii6 e (pw 28 116916063) aLE (q6x14 c e))
def B6x14(c:TC0)(g:List G.Y->List G.T->Int->G.T->G.U->G.U->Rt)(h:Bool)(b:Int)(i:List G.Y)(d:List G.T)(f:G.T)(a:G.U)(j:G.U):Rt:=
 cnd h (ob (idx d b) λl=>
 some [yR 5 (G.U.mk a.name a.cls ([]:List G.T) a.equiv a.left f ([l]:List G.T) a.tset a.stops a.arg a.inner),yI 0]) (g i d (IntKind.i64.wrap (b+1)) f a j)
def X6x14(n7:Nt):=V6x14 (xD ii6 e (pw 35 9856614239) aLD (q6x17 c e n7))
def B6x15(f:G.U->G.U->Rt)(g:Bool)(b:List G.Y)(a:G.U)(h:G.U):Rt:=
 cnd g (some [yR 5 zqR,yI 40]) (obL [zS 1] (c 33 [yS 3 ([a.right]:List G.T)]) λ(i:List G.Y×Unit)=>
 chk (Nat.ble ((List.length ([]:List G.Y)+List.length b)*32) 1073741824)<|
 obL [zS 1] (c 33 [yS 3 ([a.left]:List G.T)]) λ(d:List G.Y×Unit)=>
 chk (Nat.ble ((List.length (([]:List G.Y)++b)+List.length d.1)*32) 1073741824)<|
 obL [.bool] (c 41 [yS 1 i.1,yS 1 ((([]:List G.Y)++b)++d.1)]) λ(j:Bool×Unit)=>
 cnd (!j.1) (some [yR 5 zqR,yI 41]) (obL [zS 4] (c 47 [yR 3 a.left,yR 3 a.right]) λ(l:List G.Q×Unit)=>
 f (G.U.mk a.name a.cls a.hyps a.equiv a.left a.right a.terms a.tset l.1 a.arg a.inner) h))
def V6x15(n:Nt):Bool->List G.Y->G.U->G.U->Rt:=λx0 x1 x2 x3=>n [yB x0,yS 1 x1,yR 5 x2,yR 5 x3]
def X6x15:=V6x15 (xD ii6 e (pw 15 9567) aLC (q6x18 c e))
def B6x16(c:TC0)(a:List G.Y->Int->G.T->G.T->G.U->G.U->Rt)(j:Bool)(l:Bool)(b:List G.Y)(d:Int)(f:G.T)(g:G.T)(h:G.U)(i:G.U):Rt:=
 cnd j (some [yR 5 zqR,yI 40]) (cnd (!l) (a b (IntKind.i64.wrap ((BitVec.ofInt IntKind.i64.bits 2047&&& ~~~ BitVec.ofInt IntKind.i64.bits d).toNat:Int)) f g h i) (a b d f g h i))
def V6x16(n:Nt):Bool->Bool->List G.Y->Int->G.T->G.T->G.U->G.U->Rt:=λx0 x1 x2 x3 x4 x5 x6 x7=>n [yB x0,yB x1,yS 1 x2,yI x3,yR 3 x4,yR 3 x5,yR 5 x6,yR 5 x7]
def X6x16:=V6x16 (xD ii6 e (pw 21 767839) aLB (q6x19 c e))
def B6x17(c:TC0)(f:Int->List G.Y->List G.T->G.T->G.U->G.U->Rt)(l:Bool)(b:Int)(g:List G.Y)(d:List G.T)(h:G.T)(a:G.U)(i:G.U):Rt:=
 cnd l (ob (idx d b) λj=>
 chk (Nat.ble ((List.length a.terms+List.length ([j]:List G.T))*176) 1073741824)<|
 f b g d h (G.U.mk a.name a.cls a.hyps a.equiv a.left a.right (a.terms++([j]:List G.T)) a.tset a.stops a.arg a.inner) i) (f b g d h a i)
def X6x17(n11:Nt):=V6x14 (xD ii6 e (pw 31 616267615) aLA (q6x22 c e n11))
def B6x18(c:TC0)(a:Int->Int->List G.Y->G.T->G.T->G.U->G.U->Rt)(b:Bool)(d:Int)(f:List G.Y)(g:G.T)(h:G.T)(i:G.U)(j:G.U):Rt:=
 cnd b (some [yR 5 zqR,yI 40]) (a 0 d f g h i j)
def V6x18(n:Nt):Bool->Int->List G.Y->G.T->G.T->G.U->G.U->Rt:=λx0 x1 x2 x3 x4 x5 x6=>n [yB x0,yI x1,yS 1 x2,yR 3 x3,yR 3 x4,yR 5 x5,yR 5 x6]
def X6x18(n12:Nt):=V6x18 (xD ii6 e (pw 31 690880351) aLz (q6x26 c e n12))
def B6x19(d:G.U->G.U->Rt)(f:List G.Y)(g:Int)(h:G.T)(b:G.T)(a:G.U)(i:G.U):Rt:=
 obL [zS 1] (c 33 [yS 3 ([b]:List G.T)]) λ(j:List G.Y×Unit)=>
 obL [.bool] (c 41 [yS 1 f,yS 1 j.1]) λ(l:Bool×Unit)=>
 cnd (!l.1) (some [yR 5 zqR,yI 41]) (d (G.U.mk a.name a.cls a.hyps a.equiv b h ([b]:List G.T) g a.stops a.arg a.inner) i)
def V6x19(n:Nt):List G.Y->Int->G.T->G.T->G.U->G.U->Rt:=λx0 x1 x2 x3 x4 x5=>n [yS 1 x0,yI x1,yR 3 x2,yR 3 x3,yR 5 x4,yR 5 x5]
def X6x19:=V6x19 (xD ii6 e (pw 21 1029983) aLy (wO c e))
def B6x20(c:TC0)(a:List G.Y->List G.T->Int->G.T->G.U->G.U->Rt)(b:Int)(d:List G.Y)(f:List G.T)(g:G.T)(h:G.U)(i:G.U):Rt:=
 a d f (IntKind.i64.wrap (b+1)) g h i
def V6x20(n:Nt):Int->List G.Y->List G.T->G.T->G.U->G.U->Rt:=λx0 x1 x2 x3 x4 x5=>n [yI x0,yS 1 x1,yS 3 x2,yR 3 x3,yR 5 x4,yR 5 x5]
def X6x20(n11:Nt):=V6x20 (xD ii6 e (pw 29 213614431) aLx (q6x20 c e n11))
def B6x21(j:Int->Int->List G.Y->G.T->G.T->G.U->G.U->Rt)(l:Int->List G.Y->G.T->G.T->G.U->G.U->Rt)(d:Int)(a:Int)(f:List G.Y)(g:G.T)(b:G.T)(h:G.U)(i:G.U):Rt:=
 cnd (decide (d<a)) (ob (idx b.args d) λm=>
 ob (idx b.args a) λo=>
 obL [.bool] (c 43 [yR 3 m,yR 3 o]) λ(p:Bool×Unit)=>
 cnd p.1 (some [yR 5 zqR,yI 40]) (j (IntKind.i64.wrap (d+1)) a f g b h i)) (l (IntKind.i64.wrap (a+1)) f g b h i)
def V6x21(n:Nt):Int->Int->List G.Y->G.T->G.T->G.U->G.U->Rt:=λx0 x1 x2 x3 x4 x5 x6=>n [yI x0,yI x1,yS 1 x2,yR 3 x3,yR 3 x4,yR 5 x5,yR 5 x6]
def X6x21(n12:Nt):=V6x21 (xE ii6 e (pw 32 959315807) aB6 (q6x27 c e n12))
def s6x0:V5x0 (xF ii6 c e)=B6x0 c (X6x1 c e) (X6x2 c e) (X6x3 c e) (X6x4 c e) (X6x5 c e) (X6x6 c e) (X6x7 c e):=by kernel_rfl
def s6x1:V6x1 (xA ii6 c e (pw 14 4447) ct6x1 (q6x4 c e))=B6x1 c (X6x8 c e):=by kernel_rfl
def s6x2:V6x2 (xA ii6 c e (pw 15 14175) ct6x2 (wO c e))=B6x2 c (X6x9 c e):=by kernel_rfl
def s6x3:V6x3 (xA ii6 c e (pw 18 122719) ct6x3 (wO c e))=B6x3 c (aCr c e):=by kernel_rfl
def s6x4:V6x3 (xA ii6 c e (pw 19 229215) ct6x4 (wO c e))=B6x4 c (X6x11 c e):=by kernel_rfl
def s6x5:V6x1 (xA ii6 c e (pw 21 655199) ct6x5 (q6x5 c e))=B6x5 c (X6x12 c e):=by kernel_rfl
def s6x6:V6x6 (xA ii6 c e (pw 25 12058463) ct6x6 (q6x6 c e))=B6x6 c (X6x13 c e):=by kernel_rfl
def s6x7(n7:Nt):aNJ (xA ii6 c e (pw 30 192937823) aIl (lpK U0 aIl n7 (q6x8 c e)))=B6x7 c (X6x14 c e n7):=by kernel_rfl
def s6x8:V6x8 (xA ii6 c e (pw 12 1375) ct6x8 (wO c e))=B6x8 c (X6x15 c e):=by kernel_rfl
def s6x9:V6x9 (xA ii6 c e (pw 18 79711) ct6x9 (q6x9 c e))=B6x9 c (X6x16 c e):=by kernel_rfl
def s6x10:V6x10 (xA ii6 c e (pw 7 63) aLF (q6x0 c e))=B6x10 c:=by kernel_rfl
def s6x11(n11:Nt):aNJ (xA ii6 c e (pw 26 12287839) xS (lpK U0 xS n11 (q6x11 c e)))=B6x11 c (X6x17 c e n11) (aCr c e):=by kernel_rfl
def s6x12(n12:Nt):aEY (xA ii6 c e (pw 24 3014495) xR (lpK U0 xR n12 (q6x13 c e)))=B6x12 c (X6x18 c e n12) (aCr c e):=by kernel_rfl
def s6x13:V6x13 (xA ii6 c e (pw 28 116916063) aLE (q6x14 c e))=B6x13 c (aCr c e):=by kernel_rfl
def s6x14(n7:Nt):V6x14 (xA ii6 c e (pw 35 9856614239) aLD (q6x17 c e n7))=B6x14 c (aNJ n7):=by kernel_rfl
def s6x15:V6x15 (xA ii6 c e (pw 15 9567) aLC (q6x18 c e))=B6x15 c (aCr c e):=by kernel_rfl
def s6x16:V6x16 (xA ii6 c e (pw 21 767839) aLB (q6x19 c e))=B6x16 c (X6x19 c e):=by kernel_rfl
def s6x17(n11:Nt):V6x14 (xA ii6 c e (pw 31 616267615) aLA (q6x22 c e n11))=B6x17 c (X6x20 c e n11):=by kernel_rfl
def s6x18(n12:Nt):V6x18 (xA ii6 c e (pw 31 690880351) aLz (q6x26 c e n12))=B6x18 c (X6x21 c e n12):=by kernel_rfl
def s6x19:V6x19 (xA ii6 c e (pw 21 1029983) aLy (wO c e))=B6x19 c (aCr c e):=by kernel_rfl
def s6x20(n11:Nt):V6x20 (xA ii6 c e (pw 29 213614431) aLx (q6x20 c e n11))=B6x20 c (aNJ n11):=by kernel_rfl
def s6x21(n21:Nt)(n12:Nt):V6x21 (xA ii6 c e (pw 32 959315807) aB6 (lpK U0 aB6 n21 (q6x27 c e n12)))=B6x21 c (V6x21 n21) (aEY n12):=by kernel_rfl
def aE1(L:Nat):G.U->G.U->Rt:=B6x10 c
def aIg:aCr c (cu c L)=aE1 c L:=by rw[aCr,aK,s6x10];rfl
def J6x13:Bool->G.Y->G.U->G.U->Rt:=B6x13 c (aE1 c L)
def j6x13:X6x13 c (cu c L)=J6x13 c L:=by rw[X6x13,aK,s6x13];simp only[aIg];rfl
def aNS(L:Nat)(n7:List G.Y->List G.T->Int->G.T->G.U->G.U->Rt):Bool->Int->List G.Y->List G.T->G.T->G.U->G.U->Rt:=B6x14 c n7
def j6x14(n7:Nt):X6x14 c (cu c L) n7=aNS c L (aNJ n7):=by rw[X6x14,aK,s6x14];rfl
def J6x15:Bool->List G.Y->G.U->G.U->Rt:=B6x15 c (aE1 c L)
def j6x15:X6x15 c (cu c L)=J6x15 c L:=by rw[X6x15,aK,s6x15];simp only[aIg];rfl
def J6x19:List G.Y->Int->G.T->G.T->G.U->G.U->Rt:=B6x19 c (aE1 c L)
def j6x19:X6x19 c (cu c L)=J6x19 c L:=by rw[X6x19,aK,s6x19];simp only[aIg];rfl
def J6x20(L:Nat)(n11:List G.Y->List G.T->Int->G.T->G.U->G.U->Rt):Int->List G.Y->List G.T->G.T->G.U->G.U->Rt:=B6x20 c n11
def j6x20(n11:Nt):X6x20 c (cu c L) n11=J6x20 c L (aNJ n11):=by rw[X6x20,aK,s6x20];rfl
def aEP(c:TC0)(L:Nat)(n12:Int->List G.Y->G.T->G.T->G.U->G.U->Rt):Nat->Int->Int->List G.Y->G.T->G.T->G.U->G.U->Rt
 |0=>λ_ _ _ _ _ _ _=>none
 |n+1=>B6x21 c (aEP c L n12 n) n12
def u6x21(n12:Nt)(n:Nat):V6x21 (xL ii6 c L (pw 32 959315807) aB6 (q6x27 c (cu c L) n12) n)=aEP c L (aEY n12) n:=by
 induction n with
 |zero=>rfl
 |succ n ih=>rw[dD,s6x21];simp only[ih];rfl
def w6x21(n12:Nt):X6x21 c (cu c L) n12=aEP c L (aEY n12) L:=u6x21 c L n12 L
def J6x3:List G.Y->List G.Y->G.T->G.T->G.U->G.U->Rt:=B6x3 c (aE1 c L)
def j6x3:X6x3 c (cu c L)=J6x3 c L:=by rw[X6x3,aK,s6x3];simp only[aIg];rfl
def J6x6:Bool->List G.E->G.T->G.T->G.U->G.U->Rt:=B6x6 c (J6x13 c L)
def j6x6:X6x6 c (cu c L)=J6x6 c L:=by rw[X6x6,aK,s6x6];simp only[j6x13];rfl
def W6x7(c:TC0)(L:Nat):Nat->List G.Y->List G.T->Int->G.T->G.U->G.U->Rt
 |0=>λ_ _ _ _ _ _=>none
 |n+1=>B6x7 c (aNS c L (W6x7 c L n))
def u6x7(n:Nat):aNJ (xL ii6 c L (pw 30 192937823) aIl (q6x8 c (cu c L)) n)=W6x7 c L n:=by
 induction n with
 |zero=>rfl
 |succ n ih=>rw[dD,s6x7];simp only[j6x14,ih];rfl
def w6x7:X6x7 c (cu c L)=W6x7 c L L:=u6x7 c L L
def J6x8:List G.Y->G.U->G.U->Rt:=B6x8 c (J6x15 c L)
def j6x8:X6x8 c (cu c L)=J6x8 c L:=by rw[X6x8,aK,s6x8];simp only[j6x15];rfl
def J6x16:Bool->Bool->List G.Y->Int->G.T->G.T->G.U->G.U->Rt:=B6x16 c (J6x19 c L)
def j6x16:X6x16 c (cu c L)=J6x16 c L:=by rw[X6x16,aK,s6x16];simp only[j6x19];rfl
def aNR(n11:List G.Y->List G.T->Int->G.T->G.U->G.U->Rt):Bool->Int->List G.Y->List G.T->G.T->G.U->G.U->Rt:=B6x17 c (J6x20 c L n11)
def j6x17(n11:Nt):X6x17 c (cu c L) n11=aNR c L (aNJ n11):=by rw[X6x17,aK,s6x17];simp only[j6x20];rfl
def J6x18(n12:Int->List G.Y->G.T->G.T->G.U->G.U->Rt):Bool->Int->List G.Y->G.T->G.T->G.U->G.U->Rt:=B6x18 c (aEP c L n12 L)
def j6x18(n12:Nt):X6x18 c (cu c L) n12=J6x18 c L (aEY n12):=by rw[X6x18,aK,s6x18];simp only[w6x21];rfl
def J6x1:Bool->List G.Y->G.T->G.U->G.U->Rt:=B6x1 c (J6x8 c L)
def j6x1:X6x1 c (cu c L)=J6x1 c L:=by rw[X6x1,aK,s6x1];simp only[j6x8];rfl
def J6x9:Bool->Bool->List G.Y->G.T->G.T->G.U->G.U->Rt:=B6x9 c (J6x16 c L)
def j6x9:X6x9 c (cu c L)=J6x9 c L:=by rw[X6x9,aK,s6x9];simp only[j6x16];rfl
def aCt(c:TC0)(L:Nat):Nat->List G.Y->List G.T->Int->G.T->G.U->G.U->Rt
 |0=>λ_ _ _ _ _ _=>none
 |n+1=>B6x11 c (aNR c L (aCt c L n)) (aE1 c L)
def u6x11(n:Nat):aNJ (xL ii6 c L (pw 26 12287839) xS (q6x11 c (cu c L)) n)=aCt c L n:=by
 induction n with
 |zero=>rfl
 |succ n ih=>rw[dD,s6x11];simp only[j6x17,aIg,ih];rfl
def w6x11:X6x11 c (cu c L)=aCt c L L:=u6x11 c L L
def aAW(c:TC0)(L:Nat):Nat->Int->List G.Y->G.T->G.T->G.U->G.U->Rt
 |0=>λ_ _ _ _ _ _=>none
 |n+1=>B6x12 c (J6x18 c L (aAW c L n)) (aE1 c L)
def u6x12(n:Nat):aEY (xL ii6 c L (pw 24 3014495) xR (q6x13 c (cu c L)) n)=aAW c L n:=by
 induction n with
 |zero=>rfl
 |succ n ih=>rw[dD,s6x12];simp only[j6x18,aIg,ih];rfl
def w6x12:X6x12 c (cu c L)=aAW c L L:=u6x12 c L L
def J6x2:Bool->List G.Y->G.T->G.T->G.U->G.U->Rt:=B6x2 c (J6x9 c L)
def j6x2:X6x2 c (cu c L)=J6x2 c L:=by rw[X6x2,aK,s6x2];simp only[j6x9];rfl
def J6x4:List G.Y->List G.Y->G.T->G.T->G.U->G.U->Rt:=B6x4 c (aCt c L L)
def j6x4:X6x4 c (cu c L)=J6x4 c L:=by rw[X6x4,aK,s6x4];simp only[w6x11];rfl
def J6x5:Bool->List G.Y->G.T->G.U->G.U->Rt:=B6x5 c (aAW c L L)
def j6x5:X6x5 c (cu c L)=J6x5 c L:=by rw[X6x5,aK,s6x5];simp only[w6x12];rfl
def F6:List G.E->G.Y->G.T->Int->Rt:=B6x0 c (J6x1 c L) (J6x2 c L) (J6x3 c L) (J6x4 c L) (J6x5 c L) (J6x6 c L) (W6x7 c L L)
def e6:V5x0 (xF ii6 c (cu c L))=F6 c L:=by rw[s6x0];simp only[j6x1,j6x2,j6x3,j6x4,j6x5,j6x6,w6x7];rfl
def c6(a:List G.E)(b:G.Y)(d:G.T)(f:Int)(L n:Nat):CTp L (n+1) 6 [yS 16 a,yR 1 b,yR 3 d,yI f]=F6 (CTp L n) L a b d f:=by rw[<-e6];exact cg (x:=ii6) (by kernel_rfl) (by kernel_rfl) L n _
end
end Go.TV
namespace Go.TV
open Go.AI Go.PI Go.Proofs
set_option maxRecDepth 20000
noncomputable section
variable(c:TC0)(e:Cu)(L:Nat)
def q7x0(c:TC0)(e:Cu):Kt:=xK ii7
def q7x1:Kt:=xT ii7 c e (pw 4 15) (q7x0 c e)
def q7x2:Kt:=bH U0 0 (q7x1 c e)
def q7x3:Kt:=xT ii7 c e (pw 5 31) (q7x0 c e)
def q7x4:Kt:=bH U0 2 (q7x3 c e)
def B7x0(a:(List (List UInt8))->Int->(List (List UInt8))->List G.Y->Rt):Rt:=
 obL [(.sl .str)] (c 48 []) λ(b:(List (List UInt8))×Unit)=>
 obL [(.sl .str)] (c 49 []) λ(d:(List (List UInt8))×Unit)=>
 a b.1 0 d.1 ([]:List G.Y)
def B7x1(h:(List (List UInt8))->Int->(List (List UInt8))->List G.Y->Rt)(i:(List (List UInt8))->Int->List G.Y->Rt)(a:(List (List UInt8)))(b:Int)(f:(List (List UInt8)))(d:List G.Y):Rt:=
 cnd (decide (b<(List.length a:Int))) (ob (idx a b) λj=>
 obL [.rc 1] (c 8 [yT j]) λ(g:G.Y×Unit)=>
 chk (Nat.ble ((List.length d+List.length ([g.1]:List G.Y))*32) 1073741824)<|
 h a (IntKind.i64.wrap (b+1)) f (d++([g.1]:List G.Y))) (i f 0 d)
def V7x1(n:Nt):(List (List UInt8))->Int->(List (List UInt8))->List G.Y->Rt:=λx0 x1 x2 x3=>n [⟨(.sl .str),x0⟩,yI x1,⟨(.sl .str),x2⟩,yS 1 x3]
def X7x1:=V7x1 (xE ii7 e (pw 7 23) aLt (q7x2 c e))
def B7x2(g:(List (List UInt8))->Int->List G.Y->Rt)(a:(List (List UInt8)))(b:Int)(d:List G.Y):Rt:=
 cnd (decide (b<(List.length a:Int))) (ob (idx a b) λh=>
 obL [.rc 1] (c 4 [yT h]) λ(f:G.Y×Unit)=>
 chk (Nat.ble ((List.length d+List.length ([f.1]:List G.Y))*32) 1073741824)<|
 g a (IntKind.i64.wrap (b+1)) (d++([f.1]:List G.Y))) (some [yS 1 d])
def V7x2(n:Nt):(List (List UInt8))->Int->List G.Y->Rt:=λx0 x1 x2=>n [⟨(.sl .str),x0⟩,yI x1,yS 1 x2]
def X7x2:=V7x2 (xE ii7 e (pw 8 47) aLs (q7x4 c e))
def s7x0:fA (xF ii7 c e)=B7x0 c (X7x1 c e):=by kernel_rfl
def s7x1(n1:Nt):V7x1 (xA ii7 c e (pw 7 23) aLt (lpK U0 aLt n1 (q7x2 c e)))=B7x1 c (V7x1 n1) (X7x2 c e):=by kernel_rfl
def s7x2(n2:Nt):V7x2 (xA ii7 c e (pw 8 47) aLs (lpK U0 aLs n2 (q7x4 c e)))=B7x2 c (V7x2 n2):=by kernel_rfl
def W7x2(c:TC0)(L:Nat):Nat->(List (List UInt8))->Int->List G.Y->Rt
 |0=>λ_ _ _=>none
 |n+1=>B7x2 c (W7x2 c L n)
def u7x2(n:Nat):V7x2 (xL ii7 c L (pw 8 47) aLs (q7x4 c (cu c L)) n)=W7x2 c L n:=by
 induction n with
 |zero=>rfl
 |succ n ih=>rw[dD,s7x2];simp only[ih];rfl
def w7x2:X7x2 c (cu c L)=W7x2 c L L:=u7x2 c L L
def W7x1(c:TC0)(L:Nat):Nat->(List (List UInt8))->Int->(List (List UInt8))->List G.Y->Rt
 |0=>λ_ _ _ _=>none
 |n+1=>B7x1 c (W7x1 c L n) (W7x2 c L L)
def u7x1(n:Nat):V7x1 (xL ii7 c L (pw 7 23) aLt (q7x2 c (cu c L)) n)=W7x1 c L n:=by
 induction n with
 |zero=>rfl
 |succ n ih=>rw[dD,s7x1];simp only[w7x2,ih];rfl
def w7x1:X7x1 c (cu c L)=W7x1 c L L:=u7x1 c L L
def F7:Rt:=B7x0 c (W7x1 c L L)
def e7:fA (xF ii7 c (cu c L))=F7 c L:=by rw[s7x0];simp only[w7x1];rfl
def c7(L n:Nat):CTp L (n+1) 7 []=F7 (CTp L n) L:=by rw[<-e7];exact cg (x:=ii7) (by kernel_rfl) (by kernel_rfl) L n _
def q9x0(c:TC0)(e:Cu):Kt:=xK ii9
def q9x1:Kt:=xT ii9 c e [1,1] (q9x0 c e)
def q9x2:Kt:=xT ii9 c e [1,1,1] (q9x0 c e)
def q9x3:Kt:=bH U0 0 (q9x2 c e)
def B9x0(c:TC0)(d:Bool->G.U->G.U->Rt)(a:G.U)(b:G.U):Rt:=
 cnd (!decide (a.name=b.name)) (d true a b) (cnd (!decide (a.cls=b.cls)) (d true a b) (cnd (!decide (a.equiv=b.equiv)) (d true a b) (cnd (!decide (a.tset=b.tset)) (d true a b) (cnd (!decide (a.arg=b.arg)) (d true a b) (cnd (!decide (a.inner=b.inner)) (d true a b) (d (!decide ((List.length a.stops:Int)=(List.length b.stops:Int))) a b))))))
def B9x1(c:TC0)(a:Int->G.U->G.U->Rt)(b:Bool)(d:G.U)(f:G.U):Rt:=
 cnd b (some [yB false]) (a 0 d f)
def V9x1(n:Nt):Bool->G.U->G.U->Rt:=λx0 x1 x2=>n [yB x0,yR 5 x1,yR 5 x2]
def X9x1:=V9x1 (xD ii9 e (pw 4 5) ct9x1 (q9x1 c e))
def B9x2(g:Int->G.U->G.U->Rt)(d:Bool->Rt)(f:Int)(a:G.U)(b:G.U):Rt:=
 cnd (decide (f<(List.length a.stops:Int))) (ob (idx a.stops f) λh=>
 ob (idx b.stops f) λi=>
 cnd (!decide (h=i)) (some [yB false]) (g (IntKind.i64.wrap (f+1)) a b)) (obL [.bool] (c 50 [yS 3 a.hyps,yS 3 b.hyps]) λ(j:Bool×Unit)=>
 cnd j.1 (obL [.bool] (c 50 [yS 3 a.terms,yS 3 b.terms]) λ(l:Bool×Unit)=>
 cnd l.1 (obL [.bool] (c 43 [yR 3 a.left,yR 3 b.left]) λ(m:Bool×Unit)=>
 cnd m.1 (obL [.bool] (c 43 [yR 3 a.right,yR 3 b.right]) λ(o:Bool×Unit)=>
 d o.1) (d false)) (d false)) (d false))
def X9x2:=V5x2 (xE ii9 e (pw 6 11) aLi (q9x3 c e))
def B9x3(c:TC0)(a:Bool):Rt:=
 some [yB a]
def X9x3:=bX (xD ii9 e (pw 5 15) ct9x3 (q9x0 c e))
def s9x0:V6x10 (xF ii9 c e)=B9x0 c (X9x1 c e):=by kernel_rfl
def s9x1:V9x1 (xA ii9 c e (pw 4 5) ct9x1 (q9x1 c e))=B9x1 c (X9x2 c e):=by kernel_rfl
def s9x2(n2:Nt):V5x2 (xA ii9 c e (pw 6 11) aLi (lpK U0 aLi n2 (q9x3 c e)))=B9x2 c (V5x2 n2) (X9x3 c e):=by kernel_rfl
def s9x3:bX (xA ii9 c e (pw 5 15) ct9x3 (q9x0 c e))=B9x3 c:=by kernel_rfl
def J9x3(L:Nat):Bool->Rt:=B9x3 c
def j9x3:X9x3 c (cu c L)=J9x3 c L:=by rw[X9x3,aK,s9x3];rfl
def W9x2(c:TC0)(L:Nat):Nat->Int->G.U->G.U->Rt
 |0=>λ_ _ _=>none
 |n+1=>B9x2 c (W9x2 c L n) (J9x3 c L)
def u9x2(n:Nat):V5x2 (xL ii9 c L (pw 6 11) aLi (q9x3 c (cu c L)) n)=W9x2 c L n:=by
 induction n with
 |zero=>rfl
 |succ n ih=>rw[dD,s9x2];simp only[j9x3,ih];rfl
def w9x2:X9x2 c (cu c L)=W9x2 c L L:=u9x2 c L L
def J9x1:Bool->G.U->G.U->Rt:=B9x1 c (W9x2 c L L)
def j9x1:X9x1 c (cu c L)=J9x1 c L:=by rw[X9x1,aK,s9x1];simp only[w9x2];rfl
def F9:G.U->G.U->Rt:=B9x0 c (J9x1 c L)
def e9:V6x10 (xF ii9 c (cu c L))=F9 c L:=by rw[s9x0];simp only[j9x1];rfl
def c9(a:G.U)(b:G.U)(L n:Nat):CTp L (n+1) 9 [yR 5 a,yR 5 b]=F9 (CTp L n) L a b:=by rw[<-e9];exact cg (x:=ii9) (by kernel_rfl) (by kernel_rfl) L n _
def q10x0(c:TC0)(e:Cu):Kt:=xK vT
def q10x1:Kt:=xT vT c e [1,1] (q10x0 c e)
def q10x2:Kt:=xT vT c e [1,1,1] (q10x0 c e)
def q10x3:Kt:=bH U0 0 (q10x2 c e)
def q10x4(n2:Nt):Kt:=lpK U0 yO n2 (q10x3 c e)
def q10x5(n2:Nt):Kt:=xT vT c e (pw 9 459) (q10x4 c e n2)
def q10x6(n2:Nt):Kt:=bH U0 1 (q10x5 c e n2)
def q10x7(n2:Nt):Kt:=bH U0 2 (q10x6 c e n2)
def q10x8(n4:Nt)(n2:Nt):Kt:=lpK U0 yN n4 (q10x7 c e n2)
def q10x9(n4:Nt)(n2:Nt):Kt:=xT vT c e (pw 18 236747) (q10x8 c e n4 n2)
def q10x10(n4:Nt)(n2:Nt):Kt:=bH U0 3 (q10x9 c e n4 n2)
def B10x0(b:Bool->List G.E->G.Y->Rt)(d:List G.E)(a:G.Y):Rt:=
 obL [.rc 1] (c 51 [yT [101,113,117,97,108]]) λ(f:G.Y×Unit)=>
 cnd (decide (a=f.1)) (b true d a) (obL [.rc 1] (c 51 [yT [105,102,102]]) λ(g:G.Y×Unit)=>
 b (decide (a=g.1)) d a)
def B10x1(c:TC0)(b:Int->List G.E->Int->G.Y->Rt)(d:Bool)(a:List G.E)(f:G.Y):Rt:=
 cnd d (some [yB true]) (b (List.length a:Int) a 0 f)
def X10x1:=V10x1 (xD vT e (pw 4 5) aMp (q10x1 c e))
def B10x2(c:TC0)(h:Int->Int->List G.E->G.Y->Rt)(i:Int->List G.U->Int->Int->Int->List G.E->G.Y->Rt)(b:Int)(d:List G.E)(a:Int)(g:G.Y):Rt:=
 cnd (decide (a<b)) (ob (idx d a) λf=>
 cnd (!decide (f.kind=4)) (h a b d g) (i (List.length f.rules:Int) f.rules 0 a b d g)) (some [yB false])
def X10x2:=jX (xE vT e (pw 6 11) yO (q10x3 c e))
def B10x3(c:TC0)(a:Int->List G.E->Int->G.Y->Rt)(b:Int)(d:Int)(f:List G.E)(g:G.Y):Rt:=
 a d f (IntKind.i64.wrap (b+1)) g
def X10x3(n2:Nt):=aEZ (xD vT e (pw 10 459) aMo (q10x4 c e n2))
def B10x4(c:TC0)(j:Bool->Int->Int->List G.U->Int->Int->List G.E->G.Y->Rt)(m:Int->Int->List G.E->G.Y->Rt)(d:Int)(f:List G.U)(a:Int)(g:Int)(h:Int)(i:List G.E)(b:G.Y):Rt:=
 cnd (decide (a<d)) (ob (idx f a) λl=>
 cnd (decide (l.cls=6)) (j (decide (l.equiv=b)) a d f g h i b) (j false a d f g h i b)) (m g h i b)
def aNO(n:Nt):Int->List G.U->Int->Int->Int->List G.E->G.Y->Rt:=λx0 x1 x2 x3 x4 x5 x6=>n [yI x0,yS 5 x1,yI x2,yI x3,yI x4,yS 16 x5,yR 1 x6]
def X10x4(n2:Nt):=aNO (xE vT e (pw 15 7371) yN (q10x7 c e n2))
def B10x5(c:TC0)(a:Int->List G.U->Int->Int->Int->List G.E->G.Y->Rt)(b:Bool)(d:Int)(f:Int)(g:List G.U)(h:Int)(i:Int)(j:List G.E)(l:G.Y):Rt:=
 cnd b (some [yB true]) (a f g (IntKind.i64.wrap (d+1)) h i j l)
def V10x5(n:Nt):Bool->Int->Int->List G.U->Int->Int->List G.E->G.Y->Rt:=λx0 x1 x2 x3 x4 x5 x6 x7=>n [yB x0,yI x1,yI x2,yS 5 x3,yI x4,yI x5,yS 16 x6,yR 1 x7]
def X10x5(n4:Nt)(n2:Nt):=V10x5 (xD vT e (pw 22 1678539) aMn (q10x10 c e n4 n2))
def s10x0:lN (xF vT c e)=B10x0 c (X10x1 c e):=by kernel_rfl
def s10x1:V10x1 (xA vT c e (pw 4 5) aMp (q10x1 c e))=B10x1 c (X10x2 c e):=by kernel_rfl
def s10x2(n2:Nt):jX (xA vT c e (pw 6 11) yO (lpK U0 yO n2 (q10x3 c e)))=B10x2 c (X10x3 c e n2) (X10x4 c e n2):=by kernel_rfl
def s10x3(n2:Nt):aEZ (xA vT c e (pw 10 459) aMo (q10x4 c e n2))=B10x3 c (jX n2):=by kernel_rfl
def s10x4(n4:Nt)(n2:Nt):aNO (xA vT c e (pw 15 7371) yN (lpK U0 yN n4 (q10x7 c e n2)))=B10x4 c (X10x5 c e n4 n2) (X10x3 c e n2):=by kernel_rfl
def s10x5(n4:Nt)(n2:Nt):V10x5 (xA vT c e (pw 22 1678539) aMn (q10x10 c e n4 n2))=B10x5 c (aNO n4):=by kernel_rfl
def J10x3(L:Nat)(n2:Int->List G.E->Int->G.Y->Rt):Int->Int->List G.E->G.Y->Rt:=B10x3 c n2
def j10x3(n2:Nt):X10x3 c (cu c L) n2=J10x3 c L (jX n2):=by rw[X10x3,aK,s10x3];rfl
def J10x5(L:Nat)(n4:Int->List G.U->Int->Int->Int->List G.E->G.Y->Rt)(n2:Int->List G.E->Int->G.Y->Rt):Bool->Int->Int->List G.U->Int->Int->List G.E->G.Y->Rt:=B10x5 c n4
def j10x5(n4:Nt)(n2:Nt):X10x5 c (cu c L) n4 n2=J10x5 c L (aNO n4) (jX n2):=by rw[X10x5,aK,s10x5];rfl
def aEX(c:TC0)(L:Nat)(n2:Int->List G.E->Int->G.Y->Rt):Nat->Int->List G.U->Int->Int->Int->List G.E->G.Y->Rt
 |0=>λ_ _ _ _ _ _ _=>none
 |n+1=>B10x4 c (J10x5 c L (aEX c L n2 n) n2) (J10x3 c L n2)
def u10x4(n2:Nt)(n:Nat):aNO (xL vT c L (pw 15 7371) yN (q10x7 c (cu c L) n2) n)=aEX c L (jX n2) n:=by
 induction n with
 |zero=>rfl
 |succ n ih=>rw[dD,s10x4];simp only[j10x5,j10x3,ih];rfl
def w10x4(n2:Nt):X10x4 c (cu c L) n2=aEX c L (jX n2) L:=u10x4 c L n2 L
def aA2(c:TC0)(L:Nat):Nat->Int->List G.E->Int->G.Y->Rt
 |0=>λ_ _ _ _=>none
 |n+1=>B10x2 c (J10x3 c L (aA2 c L n)) (aEX c L (aA2 c L n) L)
def u10x2(n:Nat):jX (xL vT c L (pw 6 11) yO (q10x3 c (cu c L)) n)=aA2 c L n:=by
 induction n with
 |zero=>rfl
 |succ n ih=>rw[dD,s10x2];simp only[j10x3,w10x4,ih];rfl
def w10x2:X10x2 c (cu c L)=aA2 c L L:=u10x2 c L L
def J10x1:Bool->List G.E->G.Y->Rt:=B10x1 c (aA2 c L L)
def j10x1:X10x1 c (cu c L)=J10x1 c L:=by rw[X10x1,aK,s10x1];simp only[w10x2];rfl
def F10:List G.E->G.Y->Rt:=B10x0 c (J10x1 c L)
def e10:lN (xF vT c (cu c L))=F10 c L:=by rw[s10x0];simp only[j10x1];rfl
def c10(a:List G.E)(b:G.Y)(L n:Nat):CTp L (n+1) 10 [yS 16 a,yR 1 b]=F10 (CTp L n) L a b:=by rw[<-e10];exact cg (x:=vT) (by kernel_rfl) (by kernel_rfl) L n _
def q11x0(c:TC0)(e:Cu):Kt:=xK vS
def q11x1:Kt:=xT vS c e [1,1] (q11x0 c e)
def q11x2:Kt:=xT vS c e [1,1,1] (q11x0 c e)
def q11x3:Kt:=bH U0 0 (q11x2 c e)
def q11x4(n2:Nt):Kt:=lpK U0 yM n2 (q11x3 c e)
def q11x5(n2:Nt):Kt:=xT vS c e (pw 8 203) (q11x4 c e n2)
def q11x6(n2:Nt):Kt:=bH U0 1 (q11x5 c e n2)
def q11x7(n2:Nt):Kt:=bH U0 2 (q11x6 c e n2)
def q11x8(n4:Nt)(n2:Nt):Kt:=lpK U0 yL n4 (q11x7 c e n2)
def q11x9(n4:Nt)(n2:Nt):Kt:=xT vS c e (pw 15 26187) (q11x8 c e n4 n2)
def q11x10(n4:Nt)(n2:Nt):Kt:=bH U0 3 (q11x9 c e n4 n2)
def B11x0(b:Bool->List G.E->G.Y->Rt)(d:List G.E)(a:G.Y):Rt:=
 obL [.rc 1] (c 37 [yT [101,113,117,97,108]]) λ(f:G.Y×Unit)=>
 cnd (decide (a=f.1)) (b true d a) (obL [.rc 1] (c 37 [yT [105,102,102]]) λ(g:G.Y×Unit)=>
 b (decide (a=g.1)) d a)
def B11x1(c:TC0)(a:List G.E->Int->G.Y->Rt)(b:Bool)(d:List G.E)(f:G.Y):Rt:=
 cnd b (some [yB true]) (a d 0 f)
def X11x1:=V10x1 (xD vS e (pw 4 5) aMm (q11x1 c e))
def B11x2(c:TC0)(f:Int->List G.E->G.Y->Rt)(g:Int->Int->List G.E->G.Y->Rt)(a:List G.E)(b:Int)(d:G.Y):Rt:=
 cnd (decide (b<(List.length a:Int))) (ob (idx a b) λh=>
 cnd (!decide (h.kind=4)) (f b a d) (g 0 b a d)) (some [yB false])
def X11x2:=oV (xE vS e (pw 6 11) yM (q11x3 c e))
def B11x3(c:TC0)(a:List G.E->Int->G.Y->Rt)(b:Int)(d:List G.E)(f:G.Y):Rt:=
 a d (IntKind.i64.wrap (b+1)) f
def V11x3(n:Nt):Int->List G.E->G.Y->Rt:=λx0 x1 x2=>n [yI x0,yS 16 x1,yR 1 x2]
def X11x3(n2:Nt):=V11x3 (xD vS e (pw 9 203) aMl (q11x4 c e n2))
def B11x4(c:TC0)(g:Bool->Int->Int->List G.E->G.Y->Rt)(h:Int->List G.E->G.Y->Rt)(d:Int)(a:Int)(b:List G.E)(f:G.Y):Rt:=
 ob (idx b a) λi=>
 cnd (decide (d<(List.length i.rules:Int))) (ob (idx b a) λj=>
 ob (idx j.rules d) λl=>
 cnd (decide (l.cls=6)) (ob (idx b a) λm=>
 ob (idx m.rules d) λo=>
 g (decide (o.equiv=f)) d a b f) (g false d a b f)) (h a b f)
def X11x4(n2:Nt):=aEZ (xE vS e (pw 13 1611) yL (q11x7 c e n2))
def B11x5(c:TC0)(a:Int->Int->List G.E->G.Y->Rt)(b:Bool)(d:Int)(f:Int)(g:List G.E)(h:G.Y):Rt:=
 cnd b (some [yB true]) (a (IntKind.i64.wrap (d+1)) f g h)
def V11x5(n:Nt):Bool->Int->Int->List G.E->G.Y->Rt:=λx0 x1 x2 x3 x4=>n [yB x0,yI x1,yI x2,yS 16 x3,yR 1 x4]
def X11x5(n4:Nt)(n2:Nt):=V11x5 (xD vS e (pw 18 75339) aMk (q11x10 c e n4 n2))
def s11x0:lN (xF vS c e)=B11x0 c (X11x1 c e):=by kernel_rfl
def s11x1:V10x1 (xA vS c e (pw 4 5) aMm (q11x1 c e))=B11x1 c (X11x2 c e):=by kernel_rfl
def s11x2(n2:Nt):oV (xA vS c e (pw 6 11) yM (lpK U0 yM n2 (q11x3 c e)))=B11x2 c (X11x3 c e n2) (X11x4 c e n2):=by kernel_rfl
def s11x3(n2:Nt):V11x3 (xA vS c e (pw 9 203) aMl (q11x4 c e n2))=B11x3 c (oV n2):=by kernel_rfl
def s11x4(n4:Nt)(n2:Nt):aEZ (xA vS c e (pw 13 1611) yL (lpK U0 yL n4 (q11x7 c e n2)))=B11x4 c (X11x5 c e n4 n2) (X11x3 c e n2):=by kernel_rfl
def s11x5(n4:Nt)(n2:Nt):V11x5 (xA vS c e (pw 18 75339) aMk (q11x10 c e n4 n2))=B11x5 c (aEZ n4):=by kernel_rfl
def J11x3(L:Nat)(n2:List G.E->Int->G.Y->Rt):Int->List G.E->G.Y->Rt:=B11x3 c n2
def j11x3(n2:Nt):X11x3 c (cu c L) n2=J11x3 c L (oV n2):=by rw[X11x3,aK,s11x3];rfl
def J11x5(L:Nat)(n4:Int->Int->List G.E->G.Y->Rt)(n2:List G.E->Int->G.Y->Rt):Bool->Int->Int->List G.E->G.Y->Rt:=B11x5 c n4
def j11x5(n4:Nt)(n2:Nt):X11x5 c (cu c L) n4 n2=J11x5 c L (aEZ n4) (oV n2):=by rw[X11x5,aK,s11x5];rfl
def aEW(c:TC0)(L:Nat)(n2:List G.E->Int->G.Y->Rt):Nat->Int->Int->List G.E->G.Y->Rt
 |0=>λ_ _ _ _=>none
 |n+1=>B11x4 c (J11x5 c L (aEW c L n2 n) n2) (J11x3 c L n2)
def u11x4(n2:Nt)(n:Nat):aEZ (xL vS c L (pw 13 1611) yL (q11x7 c (cu c L) n2) n)=aEW c L (oV n2) n:=by
 induction n with
 |zero=>rfl
 |succ n ih=>rw[dD,s11x4];simp only[j11x5,j11x3,ih];rfl
def w11x4(n2:Nt):X11x4 c (cu c L) n2=aEW c L (oV n2) L:=u11x4 c L n2 L
def aA1(c:TC0)(L:Nat):Nat->List G.E->Int->G.Y->Rt
 |0=>λ_ _ _=>none
 |n+1=>B11x2 c (J11x3 c L (aA1 c L n)) (aEW c L (aA1 c L n) L)
def u11x2(n:Nat):oV (xL vS c L (pw 6 11) yM (q11x3 c (cu c L)) n)=aA1 c L n:=by
 induction n with
 |zero=>rfl
 |succ n ih=>rw[dD,s11x2];simp only[j11x3,w11x4,ih];rfl
def w11x2:X11x2 c (cu c L)=aA1 c L L:=u11x2 c L L
def J11x1:Bool->List G.E->G.Y->Rt:=B11x1 c (aA1 c L L)
def j11x1:X11x1 c (cu c L)=J11x1 c L:=by rw[X11x1,aK,s11x1];simp only[w11x2];rfl
def F11:List G.E->G.Y->Rt:=B11x0 c (J11x1 c L)
def e11:lN (xF vS c (cu c L))=F11 c L:=by rw[s11x0];simp only[j11x1];rfl
def c11(a:List G.E)(b:G.Y)(L n:Nat):CTp L (n+1) 11 [yS 16 a,yR 1 b]=F11 (CTp L n) L a b:=by rw[<-e11];exact cg (x:=vS) (by kernel_rfl) (by kernel_rfl) L n _
def q14x0(c:TC0)(e:Cu):Kt:=xK ii14
def q14x1:Kt:=xT ii14 c e (pw 4 15) (q14x0 c e)
def q14x2:Kt:=bH U0 0 (q14x1 c e)
def B14x0(a:List G.O->Int->List G.E->Rt):Rt:=
 obL [zS 2] (c 54 []) λ(b:List G.O×Unit)=>
 a b.1 0 ([]:List G.E)
def aIQ(i:List G.O->Int->List G.E->Rt)(b:List G.O)(d:Int)(a:List G.E):Rt:=
 cnd (decide (d<(List.length b:Int))) (ob (idx b d) λj=>
 obL [.rc 16] (c 55 [yS 16 a,yR 2 j]) λ(f:G.E×Unit)=>
 chk (Nat.ble ((List.length a+List.length ([f.1]:List G.E))*568) 1073741824)<|
 i b (IntKind.i64.wrap (d+1)) (a++([f.1]:List G.E))) (obL [.rc 1] (c 37 [yT [117,115,101,114,45,112,97,99,107,97,103,101]]) λ(g:G.Y×Unit)=>
 obL [zS 1] (c 56 []) λ(h:List G.Y×Unit)=>
 chk (Nat.ble ((List.length a+List.length ([(G.E.mk 1 g.1 (G.A.mk [117,115,101,114] h.1) (G.M.mk zqS ([]:List G.Y) false zqT) ([]:List G.F) ([]:List G.T) ([]:List (List G.N)) ([]:List G.E) (G.B.mk zqS ([]:List G.D)) ([]:List G.U) ([]:List G.Y) ([]:List G.Y) [] 0)]:List G.E))*568) 1073741824)<|
 some [yS 16 (a++([(G.E.mk 1 g.1 (G.A.mk [117,115,101,114] h.1) (G.M.mk zqS ([]:List G.Y) false zqT) ([]:List G.F) ([]:List G.T) ([]:List (List G.N)) ([]:List G.E) (G.B.mk zqS ([]:List G.D)) ([]:List G.U) ([]:List G.Y) ([]:List G.Y) [] 0)]:List G.E))])
def V14x1(n:Nt):List G.O->Int->List G.E->Rt:=λx0 x1 x2=>n [yS 2 x0,yI x1,yS 16 x2]
def X14x1:=V14x1 (xE ii14 e (pw 7 23) aCf (q14x2 c e))
def s14x0:fA (xF ii14 c e)=B14x0 c (X14x1 c e):=by kernel_rfl
def s14x1(n1:Nt):V14x1 (xA ii14 c e (pw 7 23) aCf (lpK U0 aCf n1 (q14x2 c e)))=aIQ c (V14x1 n1):=by kernel_rfl
def rS(c:TC0)(L:Nat):Nat->List G.O->Int->List G.E->Rt
 |0=>λ_ _ _=>none
 |n+1=>aIQ c (rS c L n)
def u14x1(n:Nat):V14x1 (xL ii14 c L (pw 7 23) aCf (q14x2 c (cu c L)) n)=rS c L n:=by
 induction n with
 |zero=>rfl
 |succ n ih=>rw[dD,s14x1];simp only[ih];rfl
def w14x1:X14x1 c (cu c L)=rS c L L:=u14x1 c L L
def F14:Rt:=B14x0 c (rS c L L)
def e14:fA (xF ii14 c (cu c L))=F14 c L:=by rw[s14x0];simp only[w14x1];rfl
def c14(L n:Nat):CTp L (n+1) 14 []=F14 (CTp L n) L:=by rw[<-e14];exact cg (x:=ii14) (by kernel_rfl) (by kernel_rfl) L n _
def B19x0(a:G.Y):Rt:=
 obL [.rc 1] (c 37 [yT [120]]) λ(h:G.Y×Unit)=>
 obL [.rc 3] (c 52 [yR 1 h.1]) λ(b:G.T×Unit)=>
 obL [.rc 1] (c 37 [yT [121]]) λ(i:G.Y×Unit)=>
 obL [.rc 3] (c 52 [yR 1 i.1]) λ(d:G.T×Unit)=>
 obL [.rc 1] (c 37 [yT [122]]) λ(j:G.Y×Unit)=>
 obL [.rc 3] (c 52 [yR 1 j.1]) λ(g:G.T×Unit)=>
 obL [.rc 3] (c 20 [yR 1 a,yS 3 ([b.1,d.1]:List G.T)]) λ(f:G.T×Unit)=>
 obL [.rc 3] (c 20 [yR 1 a,yS 3 ([d.1,g.1]:List G.T)]) λ(l:G.T×Unit)=>
 obL [.rc 3] (c 20 [yR 1 a,yS 3 ([d.1,b.1]:List G.T)]) λ(m:G.T×Unit)=>
 obL [.rc 3] (c 53 [yT [105,109,112,108,105,101,115],yS 3 ([f.1,m.1]:List G.T)]) λ(o:G.T×Unit)=>
 obL [.rc 3] (c 62 [yR 3 f.1,yR 3 l.1]) λ(p:G.T×Unit)=>
 obL [.rc 3] (c 20 [yR 1 a,yS 3 ([b.1,g.1]:List G.T)]) λ(q:G.T×Unit)=>
 obL [.rc 3] (c 53 [yT [105,109,112,108,105,101,115],yS 3 ([p.1,q.1]:List G.T)]) λ(s:G.T×Unit)=>
 obL [.rc 3] (c 53 [yT [98,111,111,108,101,97,110,112],yS 3 ([f.1]:List G.T)]) λ(t:G.T×Unit)=>
 obL [.rc 3] (c 20 [yR 1 a,yS 3 ([b.1,b.1]:List G.T)]) λ(u:G.T×Unit)=>
 obL [.rc 3] (c 62 [yR 3 o.1,yR 3 s.1]) λ(v:G.T×Unit)=>
 obL [.rc 3] (c 62 [yR 3 u.1,yR 3 v.1]) λ(w:G.T×Unit)=>
 obL [.rc 3] (c 62 [yR 3 t.1,yR 3 w.1]) λ(x:G.T×Unit)=>
 some [yR 3 x.1]
def s19x0:eS (xF ii19 c e)=B19x0 c:=by kernel_rfl
def F19(L:Nat):G.Y->Rt:=B19x0 c
def e19:eS (xF ii19 c (cu c L))=F19 c L:=s19x0 _ _
def c19(a:G.Y)(L n:Nat):CTp L (n+1) 19 [yR 1 a]=F19 (CTp L n) L a:=by rw[<-e19];exact cg (x:=ii19) (by kernel_rfl) (by kernel_rfl) L n _
def B20x0(c:TC0)(a:G.Y)(b:List G.T):Rt:=
 some [yR 3 (G.T.mk 3 a zqO b)]
def V20x0(n:Nt):G.Y->List G.T->Rt:=λx0 x1=>n [yR 1 x0,yS 3 x1]
def s20x0:V20x0 (xF ii20 c e)=B20x0 c:=by kernel_rfl
def F20(L:Nat):G.Y->List G.T->Rt:=B20x0 c
def e20:V20x0 (xF ii20 c (cu c L))=F20 c L:=s20x0 _ _
def c20(a:G.Y)(b:List G.T)(L n:Nat):CTp L (n+1) 20 [yR 1 a,yS 3 b]=F20 (CTp L n) L a b:=by rw[<-e20];exact cg (x:=ii20) (by kernel_rfl) (by kernel_rfl) L n _
def q23x0(c:TC0)(e:Cu):Kt:=xK ii23
def q23x1:Kt:=xT ii23 c e [1,1,1] (q23x0 c e)
def q23x2:Kt:=bH U0 0 (q23x1 c e)
def B23x0(c:TC0)(a:List G.T->G.T->G.T->Rt)(b:G.T):Rt:=
 a ([]:List G.T) b zqT
def B23x1(f:List G.T->G.T->G.T->Rt)(b:List G.T)(a:G.T)(g:G.T):Rt:=
 obL [.bool] (c 63 [yR 3 a,yT [105,109,112,108,105,101,115],yI 2]) λ(h:Bool×Unit)=>
 cnd h.1 (ob (idx a.args 0) λi=>
 obL [zS 3] (c 64 [yR 3 i]) λ(d:List G.T×Unit)=>
 chk (Nat.ble ((List.length b+List.length d.1)*176) 1073741824)<|
 ob (idx a.args 1) λj=>
 f (b++d.1) j g) (some [yS 3 b,yR 3 a])
def X23x1:=aCL (xE ii23 e (pw 5 3) aCe (q23x2 c e))
def s23x0:gD (xF ii23 c e)=B23x0 c (X23x1 c e):=by kernel_rfl
def s23x1(n1:Nt):aCL (xA ii23 c e (pw 5 3) aCe (lpK U0 aCe n1 (q23x2 c e)))=B23x1 c (aCL n1):=by kernel_rfl
def aIB(c:TC0)(L:Nat):Nat->List G.T->G.T->G.T->Rt
 |0=>λ_ _ _=>none
 |n+1=>B23x1 c (aIB c L n)
def u23x1(n:Nat):aCL (xL ii23 c L (pw 5 3) aCe (q23x2 c (cu c L)) n)=aIB c L n:=by
 induction n with
 |zero=>rfl
 |succ n ih=>rw[dD,s23x1];simp only[ih];rfl
def w23x1:X23x1 c (cu c L)=aIB c L L:=u23x1 c L L
def F23:G.T->Rt:=B23x0 c (aIB c L L)
def e23:gD (xF ii23 c (cu c L))=F23 c L:=by rw[s23x0];simp only[w23x1];rfl
def c23(a:G.T)(L n:Nat):CTp L (n+1) 23 [yR 3 a]=F23 (CTp L n) L a:=by rw[<-e23];exact cg (x:=ii23) (by kernel_rfl) (by kernel_rfl) L n _
def aH4(c:TC0)(e:Cu):Kt:=xK lG
def q24x1:Kt:=xT lG c e [1,1] (aH4 c e)
def q24x2:Kt:=bH U0 0 (q24x1 c e)
def q24x3:Kt:=xT lG c e (pw 4 11) (aH4 c e)
def q24x4:Kt:=xT lG c e (pw 10 1019) (aH4 c e)
def q24x5:Kt:=bH U0 1 (q24x4 c e)
def q24x6(n4:Nt):Kt:=lpK U0 yK n4 (q24x5 c e)
def q24x7(n4:Nt):Kt:=xT lG c e (pw 16 58875) (q24x6 c e n4)
def q24x8(n4:Nt):Kt:=bH U0 2 (q24x7 c e n4)
def q24x9(n4:Nt):Kt:=xT lG c e (pw 19 419323) (q24x8 c e n4)
def q24x10:Kt:=xT lG c e (pw 11 2043) (aH4 c e)
def aFt:Kt:=bH U0 3 (q24x10 c e)
def q24x12(n6:Nt):Kt:=lpK U0 yJ n6 (aFt c e)
def q24x13(n6:Nt):Kt:=xT lG c e (pw 17 117755) (q24x12 c e n6)
def q24x14(n6:Nt):Kt:=bH U0 4 (q24x13 c e n6)
def aFs(n6:Nt):Kt:=bH U0 5 (q24x14 c e n6)
def aJR(n7:Nt)(n6:Nt):Kt:=lpK U0 yH n7 (aFs c e n6)
def q24x17(n7:Nt)(n6:Nt):Kt:=xT lG c e (pw 25 30198779) (aJR c e n7 n6)
def q24x18(n7:Nt)(n6:Nt):Kt:=bH U0 6 (q24x17 c e n7 n6)
def B24x0(b:Bool->G.U->G.T->Rt)(f:List G.E)(a:G.T)(d:G.U):Rt:=
 cnd (decide (a.kind=3)) (cnd (decide ((List.length a.args:Int)=2)) (obL [.bool] (c 10 [yS 16 f,yR 1 a.name]) λ(g:Bool×Unit)=>
 b g.1 d a) (b false d a)) (b false d a)
def B24x1(d:G.U->Rt)(f:Bool)(a:G.U)(b:G.T):Rt:=
 cnd f (ob (idx b.args 0) λg=>
 ob (idx b.args 1) λh=>
 d (G.U.mk a.name a.cls a.hyps b.name g h a.terms a.tset a.stops a.arg a.inner)) (obL [.bool] (c 63 [yR 3 b,yT [110,111,116],yI 1]) λ(i:Bool×Unit)=>
 cnd i.1 (ob (idx b.args 0) λj=>
 obL [.rc 1] (c 51 [yT [101,113,117,97,108]]) λ(l:G.Y×Unit)=>
 obL [.rc 2] (c 65 []) λ(m:G.O×Unit)=>
 obL [.rc 3] (c 66 [yR 2 m.1]) λ(o:G.T×Unit)=>
 d (G.U.mk a.name a.cls a.hyps l.1 j o.1 a.terms a.tset a.stops a.arg a.inner)) (obL [.rc 1] (c 51 [yT [105,102,102]]) λ(p:G.Y×Unit)=>
 obL [.rc 2] (c 67 []) λ(q:G.O×Unit)=>
 obL [.rc 3] (c 66 [yR 2 q.1]) λ(s:G.T×Unit)=>
 d (G.U.mk a.name a.cls a.hyps p.1 b s.1 a.terms a.tset a.stops a.arg a.inner)))
def X24x1:=aIM (xD lG e (pw 5 9) aMj (q24x2 c e))
def B24x2(b:Bool->G.U->Rt)(a:G.U):Rt:=
 cnd (!decide (a.left.kind=3)) (b true a) (obL [.rc 1] (c 51 [yT [105,102]]) λ(d:G.Y×Unit)=>
 b (decide (a.left.name=d.1)) a)
def V24x2(n:Nt):G.U->Rt:=λx0=>n [yR 5 x0]
def X24x2:=V24x2 (xD lG e [1,1,0] aMi (aH4 c e))
def B24x3(d:Int->List G.I->List G.Y->Int->List G.I->G.U->Rt)(f:Bool)(a:G.U):Rt:=
 cnd f (some [yI 40,yR 5 a]) (obL [zS 1] (c 68 [yS 3 ([a.right]:List G.T)]) λ(g:List G.Y×Unit)=>
 chk (Nat.ble ((List.length ([a.left]:List G.T)+List.length a.hyps)*176) 1073741824)<|
 obL [zS 1] (c 68 [yS 3 (([a.left]:List G.T)++a.hyps)]) λ(h:List G.Y×Unit)=>
 obL [.bool] (c 69 [yS 1 g.1,yS 1 h.1]) λ(i:Bool×Unit)=>
 cnd (!i.1) (some [yI 41,yR 5 a]) (obL [.bool] (c 70 [yR 3 a.left,yR 3 a.right]) λ(j:Bool×Unit)=>
 cnd j.1 (some [yI 0,yR 5 a]) (obL [zS 7,.bool] (c 71 [yR 3 a.left,yR 3 a.right,yS 7 ([]:List G.I)]) λ(b:List G.I×Bool×Unit)=>
 cnd b.2.1 (d (List.length b.1:Int) b.1 ([]:List G.Y) 0 b.1 a) (some [yI 0,yR 5 a]))))
def V24x3(n:Nt):Bool->G.U->Rt:=λx0 x1=>n [yB x0,yR 5 x1]
def X24x3:=V24x3 (xD lG e (pw 6 19) aMh (q24x3 c e))
def B24x4(j:Bool->List G.Y->Int->Int->List G.I->List G.I->G.U->G.I->Rt)(m:Int->List G.Y->List G.I->Int->G.U->Rt)(f:Int)(g:List G.I)(h:List G.Y)(a:Int)(i:List G.I)(b:G.U):Rt:=
 cnd (decide (a<f)) (ob (idx g a) λd=>
 cnd (!decide (d.term.kind=1)) (j true h a f g i b d) (obL [.bool] (c 72 [yS 1 h,yR 1 d.term.name]) λ(o:Bool×Unit)=>
 j o.1 h a f g i b d)) (obL [zS 1] (c 68 [yS 3 ([b.left]:List G.T)]) λ(l:List G.Y×Unit)=>
 m (List.length l.1:Int) l.1 i 0 b)
def aNN(n:Nt):Int->List G.I->List G.Y->Int->List G.I->G.U->Rt:=λx0 x1 x2 x3 x4 x5=>n [yI x0,yS 7 x1,yS 1 x2,yI x3,yS 7 x4,yR 5 x5]
def X24x4:=aNN (xE lG e (pw 13 1531) yK (q24x5 c e))
def B24x5(c:TC0)(f:Int->List G.I->List G.Y->Int->List G.I->G.U->Rt)(g:Bool)(a:List G.Y)(h:Int)(i:Int)(j:List G.I)(l:List G.I)(b:G.U)(d:G.I):Rt:=
 cnd g (some [yI 0,yR 5 b]) (chk (Nat.ble ((List.length a+List.length ([d.term.name]:List G.Y))*32) 1073741824)<|
 f i j (a++([d.term.name]:List G.Y)) (IntKind.i64.wrap (h+1)) l b)
def V24x5(n:Nt):Bool->List G.Y->Int->Int->List G.I->List G.I->G.U->G.I->Rt:=λx0 x1 x2 x3 x4 x5 x6 x7=>n [yB x0,yS 1 x1,yI x2,yI x3,yS 7 x4,yS 7 x5,yR 5 x6,yR 7 x7]
def X24x5(n4:Nt):=V24x5 (xD lG e (pw 21 681467) aMg (q24x9 c e n4))
def B24x6(c:TC0)(h:Int->List G.I->Int->Int->Int->List G.Y->List G.I->G.U->G.Y->Rt)(d:Int)(f:List G.Y)(a:List G.I)(b:Int)(g:G.U):Rt:=
 cnd (decide (b<d)) (ob (idx f b) λi=>
 h (List.length a:Int) a 0 b d f a g i) (some [yI 0,yR 5 g])
def aCO(n:Nt):Int->List G.Y->List G.I->Int->G.U->Rt:=λx0 x1 x2 x3 x4=>n [yI x0,yS 1 x1,yS 7 x2,yI x3,yR 5 x4]
def X24x6:=aCO (xE lG e (pw 14 3067) yJ (aFt c e))
def B24x7(c:TC0)(o:Bool->Int->Int->List G.I->Int->Int->List G.Y->List G.I->G.U->G.I->G.Y->Rt)(p:Int->List G.Y->List G.I->Int->G.U->Rt)(f:Int)(g:List G.I)(a:Int)(h:Int)(i:Int)(j:List G.Y)(l:List G.I)(m:G.U)(b:G.Y):Rt:=
 cnd (decide (a<f)) (ob (idx g a) λd=>
 cnd (decide (d.var=b)) (o (!decide (d.term.name=b)) a f g h i j l m d b) (o false a f g h i j l m d b)) (p i j l (IntKind.i64.wrap (h+1)) m)
def aIL(n:Nt):Int->List G.I->Int->Int->Int->List G.Y->List G.I->G.U->G.Y->Rt:=λx0 x1 x2 x3 x4 x5 x6 x7 x8=>n [yI x0,yS 7 x1,yI x2,yI x3,yI x4,yS 1 x5,yS 7 x6,yR 5 x7,yR 1 x8]
def X24x7(n6:Nt):=aIL (xE lG e (pw 22 838651) yH (aFs c e n6))
def B24x8(c:TC0)(d:Int->Int->List G.I->Int->Int->List G.Y->List G.I->G.U->G.Y->Rt)(p:Bool)(f:Int)(g:Int)(h:List G.I)(i:Int)(j:Int)(l:List G.Y)(m:List G.I)(a:G.U)(o:G.I)(b:G.Y):Rt:=
 cnd p (chk (Nat.ble ((List.length a.stops+List.length ([(G.Q.mk b o.term.name)]:List G.Q))*64) 1073741824)<|
 d f g h i j l m (G.U.mk a.name a.cls a.hyps a.equiv a.left a.right a.terms a.tset (a.stops++([(G.Q.mk b o.term.name)]:List G.Q)) a.arg a.inner) b) (d f g h i j l m a b)
def V24x8(n:Nt):Bool->Int->Int->List G.I->Int->Int->List G.Y->List G.I->G.U->G.I->G.Y->Rt:=λx0 x1 x2 x3 x4 x5 x6 x7 x8 x9 x10=>n [yB x0,yI x1,yI x2,yS 7 x3,yI x4,yI x5,yS 1 x6,yS 7 x7,yR 5 x8,yR 7 x9,yR 1 x10]
def X24x8(n7:Nt)(n6:Nt):=V24x8 (xD lG e (pw 29 214748155) aMf (q24x18 c e n7 n6))
def B24x9(c:TC0)(a:Int->List G.I->Int->Int->Int->List G.Y->List G.I->G.U->G.Y->Rt)(b:Int)(d:Int)(f:List G.I)(g:Int)(h:Int)(i:List G.Y)(j:List G.I)(l:G.U)(m:G.Y):Rt:=
 a d f (IntKind.i64.wrap (b+1)) g h i j l m
def V24x9(n:Nt):Int->Int->List G.I->Int->Int->List G.Y->List G.I->G.U->G.Y->Rt:=λx0 x1 x2 x3 x4 x5 x6 x7 x8=>n [yI x0,yI x1,yS 7 x2,yI x3,yI x4,yS 1 x5,yS 7 x6,yR 5 x7,yR 1 x8]
def X24x9(n7:Nt)(n6:Nt):=V24x9 (xD lG e (pw 26 30198779) aMe (aJR c e n7 n6))
def s24x0:aIN (xF lG c e)=B24x0 c (X24x1 c e):=by kernel_rfl
def s24x1:aIM (xA lG c e (pw 5 9) aMj (q24x2 c e))=B24x1 c (X24x2 c e):=by kernel_rfl
def s24x2:V24x2 (xA lG c e [1,1,0] aMi (aH4 c e))=B24x2 c (X24x3 c e):=by kernel_rfl
def s24x3:V24x3 (xA lG c e (pw 6 19) aMh (q24x3 c e))=B24x3 c (X24x4 c e):=by kernel_rfl
def s24x4(n4:Nt):aNN (xA lG c e (pw 13 1531) yK (lpK U0 yK n4 (q24x5 c e)))=B24x4 c (X24x5 c e n4) (X24x6 c e):=by kernel_rfl
def s24x5(n4:Nt):V24x5 (xA lG c e (pw 21 681467) aMg (q24x9 c e n4))=B24x5 c (aNN n4):=by kernel_rfl
def s24x6(n6:Nt):aCO (xA lG c e (pw 14 3067) yJ (lpK U0 yJ n6 (aFt c e)))=B24x6 c (X24x7 c e n6):=by kernel_rfl
def s24x7(n7:Nt)(n6:Nt):aIL (xA lG c e (pw 22 838651) yH (lpK U0 yH n7 (aFs c e n6)))=B24x7 c (X24x8 c e n7 n6) (aCO n6):=by kernel_rfl
def s24x8(n7:Nt)(n6:Nt):V24x8 (xA lG c e (pw 29 214748155) aMf (q24x18 c e n7 n6))=B24x8 c (X24x9 c e n7 n6):=by kernel_rfl
def s24x9(n7:Nt)(n6:Nt):V24x9 (xA lG c e (pw 26 30198779) aMe (aJR c e n7 n6))=B24x9 c (aIL n7):=by kernel_rfl
def J24x5(L:Nat)(n4:Int->List G.I->List G.Y->Int->List G.I->G.U->Rt):Bool->List G.Y->Int->Int->List G.I->List G.I->G.U->G.I->Rt:=B24x5 c n4
def j24x5(n4:Nt):X24x5 c (cu c L) n4=J24x5 c L (aNN n4):=by rw[X24x5,aK,s24x5];rfl
def J24x9(L:Nat)(n7:Int->List G.I->Int->Int->Int->List G.Y->List G.I->G.U->G.Y->Rt)(n6:Int->List G.Y->List G.I->Int->G.U->Rt):Int->Int->List G.I->Int->Int->List G.Y->List G.I->G.U->G.Y->Rt:=B24x9 c n7
def j24x9(n7:Nt)(n6:Nt):X24x9 c (cu c L) n7 n6=J24x9 c L (aIL n7) (aCO n6):=by rw[X24x9,aK,s24x9];rfl
def aNX(n7:Int->List G.I->Int->Int->Int->List G.Y->List G.I->G.U->G.Y->Rt)(n6:Int->List G.Y->List G.I->Int->G.U->Rt):Bool->Int->Int->List G.I->Int->Int->List G.Y->List G.I->G.U->G.I->G.Y->Rt:=B24x8 c (J24x9 c L n7 n6)
def j24x8(n7:Nt)(n6:Nt):X24x8 c (cu c L) n7 n6=aNX c L (aIL n7) (aCO n6):=by rw[X24x8,aK,s24x8];simp only[j24x9];rfl
def aA0(c:TC0)(L:Nat)(n6:Int->List G.Y->List G.I->Int->G.U->Rt):Nat->Int->List G.I->Int->Int->Int->List G.Y->List G.I->G.U->G.Y->Rt
 |0=>λ_ _ _ _ _ _ _ _ _=>none
 |n+1=>B24x7 c (aNX c L (aA0 c L n6 n) n6) n6
def u24x7(n6:Nt)(n:Nat):aIL (xL lG c L (pw 22 838651) yH (aFs c (cu c L) n6) n)=aA0 c L (aCO n6) n:=by
 induction n with
 |zero=>rfl
 |succ n ih=>rw[dD,s24x7];simp only[j24x8,ih];rfl
def w24x7(n6:Nt):X24x7 c (cu c L) n6=aA0 c L (aCO n6) L:=u24x7 c L n6 L
def aCB(c:TC0)(L:Nat):Nat->Int->List G.Y->List G.I->Int->G.U->Rt
 |0=>λ_ _ _ _ _=>none
 |n+1=>B24x6 c (aA0 c L (aCB c L n) L)
def u24x6(n:Nat):aCO (xL lG c L (pw 14 3067) yJ (aFt c (cu c L)) n)=aCB c L n:=by
 induction n with
 |zero=>rfl
 |succ n ih=>rw[dD,s24x6];simp only[w24x7,ih];rfl
def w24x6:X24x6 c (cu c L)=aCB c L L:=u24x6 c L L
def aEV(c:TC0)(L:Nat):Nat->Int->List G.I->List G.Y->Int->List G.I->G.U->Rt
 |0=>λ_ _ _ _ _ _=>none
 |n+1=>B24x4 c (J24x5 c L (aEV c L n)) (aCB c L L)
def u24x4(n:Nat):aNN (xL lG c L (pw 13 1531) yK (q24x5 c (cu c L)) n)=aEV c L n:=by
 induction n with
 |zero=>rfl
 |succ n ih=>rw[dD,s24x4];simp only[j24x5,w24x6,ih];rfl
def w24x4:X24x4 c (cu c L)=aEV c L L:=u24x4 c L L
def J24x3:Bool->G.U->Rt:=B24x3 c (aEV c L L)
def j24x3:X24x3 c (cu c L)=J24x3 c L:=by rw[X24x3,aK,s24x3];simp only[w24x4];rfl
def aNY:G.U->Rt:=B24x2 c (J24x3 c L)
def j24x2:X24x2 c (cu c L)=aNY c L:=by rw[X24x2,aK,s24x2];simp only[j24x3];rfl
def J24x1:Bool->G.U->G.T->Rt:=B24x1 c (aNY c L)
def j24x1:X24x1 c (cu c L)=J24x1 c L:=by rw[X24x1,aK,s24x1];simp only[j24x2];rfl
def F24:List G.E->G.T->G.U->Rt:=B24x0 c (J24x1 c L)
def e24:aIN (xF lG c (cu c L))=F24 c L:=by rw[s24x0];simp only[j24x1];rfl
def c24(a:List G.E)(b:G.T)(d:G.U)(L n:Nat):CTp L (n+1) 24 [yS 16 a,yR 3 b,yR 5 d]=F24 (CTp L n) L a b d:=by rw[<-e24];exact cg (x:=lG) (by kernel_rfl) (by kernel_rfl) L n _
end
end Go.TV
