import Derived.Test.YtbggbjpobkkbaaaGreatDoorKo
set_option linter.unusedVariables false
set_option linter.unusedSimpArgs false
set_option linter.constructorNameAsVariable false
namespace Go.TV
open Go.AI Go.PI Go.Proofs
theorem obj_ind{P:G.O→Prop}(h: ∀k n d s t l,(∀o∈l,P o)→P ⟨k,n,d,s,t,l⟩): ∀o,P o:=fun o=>
 G.O.rec (motive_1:=P) (motive_2:=fun l=> ∀o∈l,P o) (fun k n d s t l ih=>h k n d s t l ih) (fun o ho=>by cases ho)
  (fun o l h1 h2 x hx=>by
   cases hx with
   |head=>exact h1
   |tail _ hx=>exact h2 x hx) o
noncomputable instance:DecidableEq G.O:=fun a b=>Classical.propDecidable _
mutual
def osz:G.O→Nat
 |⟨_,_,_,_,_,l⟩=>2+rB l
def rB:List G.O→Nat
 |[]=>0
 |o::l=>osz o+rB l+1
end
theorem gC{k:Nat}(h:k<4000000000000000000):IntKind.i64.wrap ((k:Int)+1)=((k+1:Nat):Int):=by
 unfold IntKind.wrap;simp[IntKind.bits,IntKind.signed];omega
theorem bF{α:Type}(l:List α)(k:Nat):idx l (k:Int)=l[k]?:=by
 unfold idx;have:decide (0≤(k:Int))=true:=by simp
 rw[this];rfl
theorem bT{β:Type}{b:Bool}{K:Bool×Unit→Option β}:obL (D:=U0.D) [.bool] (some [yB b]) K=K (b,()):=rfl
theorem eR{α β:Type}{x:α}{K:α→Option β}:ob (some x) K=K x:=rfl
theorem aQ{β:Type}{A B:Option β}:cnd true A B=A:=rfl
theorem aI{β:Type}{A B:Option β}:cnd false A B=B:=rfl
theorem cB{α:Type}{l:List α}{k:Nat}{x:α}{r:List α}(h:l.drop k=x::r):l[k]?=some x∧k<l.length∧l.drop (k+1)=r:=by
 refine⟨?_,?_,?_⟩
 ·rw[←List.head?_drop,h];rfl
 ·have:=congrArg List.length h;simp at this;omega
 ·rw[←List.tail_drop,h];rfl
theorem cU{α:Type}{l:List α}{k:Nat}(h:l.drop k=[]): ¬k<l.length:=by
 have:=congrArg List.length h;simp at this;omega
def oo(a b:G.O):TVs:=[yR 2 a,yR 2 b]
def bb(b:Bool):TVs:=[yB b]
def wfO(a:G.O):Prop:=osz a<1000000000
theorem aEX: ∀(l:List G.O),l.length≤rB l
 |[]=>nlR _
 |o::l=>by have:=aEX l;simp only[lcS,rB];omega
theorem iB: ∀{l:List G.O} {x:G.O},x∈l→osz x≤rB l
 |o::l,x,h=>by
  simp only[rB];cases h with
  |head=>omega
  |tail _ h=>have:=iB h;omega
end Go.TV
namespace Go.TV
open Go.AI Go.PI Go.Proofs
theorem trm_ind{P:G.T→Prop}(h: ∀k n v l,(∀o∈l,P o)→P ⟨k,n,v,l⟩): ∀o,P o:=fun o=>
 G.T.rec (motive_1:=P) (motive_2:=fun l=> ∀o∈l,P o) (fun k n v l ih=>h k n v l ih) (fun o ho=>by cases ho)
  (fun o l h1 h2 x hx=>by
   cases hx with
   |head=>exact h1
   |tail _ hx=>exact h2 x hx) o
noncomputable instance:DecidableEq G.T:=fun a b=>Classical.propDecidable _
mutual
def tsz:G.T→Nat
 |⟨_,_,v,l⟩=>4+osz v+eX l
def eX:List G.T→Nat
 |[]=>0
 |o::l=>tsz o+eX l+1
end
theorem mZ: ∀(l:List G.T),l.length≤eX l
 |[]=>nlR _
 |o::l=>by have:=mZ l;simp only[lcS,eX];omega
theorem jB: ∀{l:List G.T} {x:G.T},x∈l→tsz x≤eX l
 |o::l,x,h=>by
  simp only[eX];cases h with
  |head=>omega
  |tail _ h=>have:=jB h;omega
def tt2(a b:G.T):TVs:=[yR 3 a,yR 3 b]
def ll2(a b:List G.T):TVs:=[yS 3 a,yS 3 b]
def wfT(a:G.T):Prop:=tsz a<1000000000
end Go.TV
namespace Go.TV
open Go.AI Go.PI Go.Proofs
theorem aAL{β:Type}{A:Option β}:chk true A=A:=rfl
theorem wrapn{k:Nat}(h:k<4000000000000000000):IntKind.i64.wrap (k:Int)=(k:Int):=by
 unfold IntKind.wrap;simp[IntKind.bits,IntKind.signed];omega
end Go.TV
namespace Go.TV
open Go.AI Go.PI Go.Proofs
def fS:List UInt8:=[108,105,115,112]
def isA(t:G.T)(s:List UInt8)(k:Int):Bool:=decide (t.kind=3)&&decide (t.name=⟨fS,s⟩)&&decide ((t.args.length:Int)=k)
def tsi(t:G.T)(s:List UInt8)(k:Int):TVs:=[yR 3 t,yT s,yI k]
end Go.TV
namespace Go.TV
open Go.AI Go.PI Go.Proofs
set_option maxRecDepth 20000
noncomputable section
variable(c:TC0)(e:Cu)(L:Nat)
def q80x0(c:TC0)(e:Cu):Kt:=xK ii80
def q80x1(c:TC0)(e:Cu):Kt:=eA U0 0 (q80x0 c e)
def B80x0(c:TC0)(e1:Int→List UInt8→List G.K→G.X→Rt)(a0:List UInt8):Rt:=
 cnd (decide ((6000:Int)<(List.length a0:Int))) (obL [.rc 18] (c 81 [yI (2:Int),yI (0:Int)]) fun(r0:G.X×Unit)=>
 some [yS 19 ([]:List G.K),yR 18 r0.1]) (e1 (0:Int) a0 ([]:List G.K) (G.X.mk (0:Int) (0:Int)))
def V80x0(n:Nt):List UInt8→Rt:=fun x0=>n [yT x0]
def B80x1(c:TC0)(n1:Int→List UInt8→List G.K→G.X→Rt)(a5:Int)(a0:List UInt8)(a4:List G.K)(b103:G.X):Rt:=
 obL [i6,.bool] (c 101 [yT a0,yI a5]) fun(r0:Int×Bool×Unit)=>
 cnd (!r0.2.1) (obL [.rc 18] (c 81 [yI (11:Int),yI (List.length a0:Int)]) fun(r1:G.X×Unit)=>
 some [yS 19 ([]:List G.K),yR 18 r1.1]) (cnd (decide ((List.length a0:Int)≤r0.1)) (chk (Nat.ble ((List.length a4+List.length ([(G.K.mk (0:Int) (List.length a0:Int) ([]:List UInt8) ([]:List UInt8) ([]:List UInt8))]:List G.K))*64) 1073741824)<|
 some [yS 19 (a4++([(G.K.mk (0:Int) (List.length a0:Int) ([]:List UInt8) ([]:List UInt8) ([]:List UInt8))]:List G.K)),yR 18 (G.X.mk (0:Int) (0:Int))]) (obL [.rc 19,i6,.rc 18] (c 102 [yT a0,yI r0.1]) fun(r2:G.K×Int×G.X×Unit)=>
 cnd (!decide (r2.2.2.1.err=(0:Int))) (some [yS 19 ([]:List G.K),yR 18 r2.2.2.1]) (chk (Nat.ble ((List.length a4+List.length ([r2.1]:List G.K))*64) 1073741824)<|
 n1 r2.2.1 a0 (a4++([r2.1]:List G.K)) b103)))
def V80x1(n:Nt):Int→List UInt8→List G.K→G.X→Rt:=fun x0 x1 x2 x3=>n [yI x0,yT x1,yS 19 x2,yR 18 x3]
def X80x1:=V80x1 (xE ii80 e [1,1,1,1,0,0] xB (q80x1 c e))
theorem s80x0:V80x0 (xF ii80 c e)=B80x0 c (X80x1 c e):=by kernel_rfl
theorem s80x1(n1:Nt):V80x1 (xA ii80 c e [1,1,1,1,0,0] xB (lpK U0 xB n1 (q80x1 c e)))=B80x1 c (V80x1 n1):=by kernel_rfl
def aAW(c:TC0)(L:Nat):Nat→Int→List UInt8→List G.K→G.X→Rt
 |0=>fun _ _ _ _=>none
 |n+1=>B80x1 c (aAW c L n)
theorem u80x1(n:Nat):V80x1 (xL ii80 c L [1,1,1,1,0,0] xB (q80x1 c (cu c L)) n)=aAW c L n:=by
 induction n with
 |zero=>rfl
 |succ n ih=>rw[kU,s80x1];simp only[ih];rfl
theorem w80x1:X80x1 c (cu c L)=aAW c L L:=u80x1 c L L
def F80(c:TC0)(L:Nat):List UInt8→Rt:=B80x0 c (aAW c L L)
theorem e80:V80x0 (xF ii80 c (cu c L))=F80 c L:=by rw[s80x0];simp only[w80x1];rfl
theorem c80(a0:List UInt8)(L n:Nat):CTp L (n+1) 80 [yT a0]=F80 (CTp L n) L a0:=by rw[←e80];exact cg (x:=ii80) (by kernel_rfl) (by kernel_rfl) L n _
def q82x0(c:TC0)(e:Cu):Kt:=xK ii82
def q82x1(c:TC0)(e:Cu):Kt:=xT ii82 c e [1,1,1,1] (q82x0 c e)
def q82x2(c:TC0)(e:Cu):Kt:=eA U0 0 (q82x1 c e)
def B82x0(c:TC0)(k1:Bool→Int→Int→G.P→G.K→G.O→G.O→G.X→Rt)(a1:Int)(b0:G.P):Rt:=
 ob (idx b0.t b0.pos) fun v0=>
 cnd (decide (v0.kind=(0:Int))) (obL [.rc 18] (c 81 [yI (11:Int),yI v0.pos]) fun(r1:G.X×Unit)=>
 some [yR 2 (G.O.mk (0:Int) ([]:List UInt8) ([]:List UInt8) (G.Y.mk ([]:List UInt8) ([]:List UInt8)) ([]:List UInt8) ([]:List G.O)),yR 18 r1.1,yR 20 b0]) (cnd (decide (v0.kind=(2:Int))) (k1 (decide (v0.kind=(2:Int))) v0.kind a1 b0 v0 (G.O.mk (0:Int) ([]:List UInt8) ([]:List UInt8) (G.Y.mk ([]:List UInt8) ([]:List UInt8)) ([]:List UInt8) ([]:List G.O)) (G.O.mk (0:Int) ([]:List UInt8) ([]:List UInt8) (G.Y.mk ([]:List UInt8) ([]:List UInt8)) ([]:List UInt8) ([]:List G.O)) (G.X.mk (0:Int) (0:Int))) (k1 (decide (v0.kind=(3:Int))) v0.kind a1 b0 v0 (G.O.mk (0:Int) ([]:List UInt8) ([]:List UInt8) (G.Y.mk ([]:List UInt8) ([]:List UInt8)) ([]:List UInt8) ([]:List G.O)) (G.O.mk (0:Int) ([]:List UInt8) ([]:List UInt8) (G.Y.mk ([]:List UInt8) ([]:List UInt8)) ([]:List UInt8) ([]:List G.O)) (G.X.mk (0:Int) (0:Int))))
def V82x0(n:Nt):Int→G.P→Rt:=fun x0 x1=>n [yI x0,yR 20 x1]
def B82x1(c:TC0)(k2:List UInt8→G.P→G.O→G.K→G.O→G.X→Rt)(a31:Bool)(a24:Int)(a1:Int)(b0:G.P)(b106:G.K)(b107:G.O)(b104:G.O)(b105:G.X):Rt:=
 cnd a31 (obL [.rc 18] (c 81 [yI (12:Int),yI b106.pos]) fun(r0:G.X×Unit)=>
 some [yR 2 b107,yR 18 r0.1,yR 20 b0]) (cnd (decide (a24=(5:Int))) (some [yR 2 (G.O.mk (1:Int) b106.text b106.den (G.Y.mk ([]:List UInt8) ([]:List UInt8)) ([]:List UInt8) ([]:List G.O)),yR 18 (G.X.mk (0:Int) (0:Int)),yR 20 (G.P.mk b0.l b0.current b0.t (IntKind.i64.wrap (b0.pos+(1:Int))))]) (cnd (decide (a24=(7:Int))) (obL [.rc 2] (c 47 [yT b106.text]) fun(r1:G.O×Unit)=>
 some [yR 2 r1.1,yR 18 (G.X.mk (0:Int) (0:Int)),yR 20 (G.P.mk b0.l b0.current b0.t (IntKind.i64.wrap (b0.pos+(1:Int))))]) (cnd (decide (a24=(6:Int))) (cnd (decide (b106.package=([]:List UInt8))) (k2 b0.current (G.P.mk b0.l b0.current b0.t (IntKind.i64.wrap (b0.pos+(1:Int)))) b107 b106 b104 b105) (k2 b106.package (G.P.mk b0.l b0.current b0.t (IntKind.i64.wrap (b0.pos+(1:Int)))) b107 b106 b104 b105)) (cnd (decide ((200:Int)<a1)) (obL [.rc 18] (c 81 [yI (2:Int),yI b106.pos]) fun(r2:G.X×Unit)=>
 some [yR 2 b107,yR 18 r2.1,yR 20 b0]) (cnd (decide (b106.kind=(4:Int))) (obL [.rc 2,.rc 18,.rc 20] (c 82 [yI (IntKind.i64.wrap (a1+(1:Int))),yR 20 (G.P.mk b0.l b0.current b0.t (IntKind.i64.wrap (b0.pos+(1:Int))))]) fun(r3:G.O×G.X×G.P×Unit)=>
 cnd (!decide (r3.2.1.err=(0:Int))) (some [yR 2 b107,yR 18 r3.2.1,yR 20 r3.2.2.1]) (obL [.rc 1] (c 31 [yT ([113,117,111,116,101]:List UInt8)]) fun(r4:G.Y×Unit)=>
 obL [.rc 2] (c 46 [yR 1 r4.1]) fun(r5:G.O×Unit)=>
 obL [.rc 2] (c 49 [yS 2 ([r5.1,r3.1]:List G.O)]) fun(r6:G.O×Unit)=>
 some [yR 2 r6.1,yR 18 r3.2.1,yR 20 r3.2.2.1])) (obL [.rc 2,.rc 18,.rc 20] (c 103 [yI (IntKind.i64.wrap (a1+(1:Int))),yR 20 (G.P.mk b0.l b0.current b0.t (IntKind.i64.wrap (b0.pos+(1:Int))))]) fun(r7:G.O×G.X×G.P×Unit)=>
 some [yR 2 r7.1,yR 18 r7.2.1,yR 20 r7.2.2.1]))))))
def V82x1(n:Nt):Bool→Int→Int→G.P→G.K→G.O→G.O→G.X→Rt:=fun x0 x1 x2 x3 x4 x5 x6 x7=>n [yB x0,yI x1,yI x2,yR 20 x3,yR 19 x4,yR 2 x5,yR 2 x6,yR 18 x7]
def X82x1:=V82x1 (xD ii82 e [1,1,1,0,1,0,1,1,1,0] aFG (q82x2 c e))
def B82x2(c:TC0)(a8:List UInt8)(b0:G.P)(b107:G.O)(b106:G.K)(b104:G.O)(b105:G.X):Rt:=
 obL [.rc 1,i6] (c 104 [yS 5 b0.l,yT a8,yT b106.text]) fun(r0:G.Y×Int×Unit)=>
 cnd (!decide (r0.2.1=(0:Int))) (obL [.rc 18] (c 81 [yI r0.2.1,yI b106.pos]) fun(r1:G.X×Unit)=>
 some [yR 2 b107,yR 18 r1.1,yR 20 b0]) (obL [.rc 2] (c 46 [yR 1 r0.1]) fun(r2:G.O×Unit)=>
 some [yR 2 r2.1,yR 18 (G.X.mk (0:Int) (0:Int)),yR 20 b0])
def V82x2(n:Nt):List UInt8→G.P→G.O→G.K→G.O→G.X→Rt:=fun x0 x1 x2 x3 x4 x5=>n [yT x0,yR 20 x1,yR 2 x2,yR 19 x3,yR 2 x4,yR 18 x5]
def X82x2:=V82x2 (xD ii82 e [1,1,1,0,1,0,1,1,1,0,1,1,1,1,1,1,0,1,1,1,0] aFF (q82x2 c e))
theorem s82x0:V82x0 (xF ii82 c e)=B82x0 c (X82x1 c e):=by kernel_rfl
theorem s82x1:V82x1 (xA ii82 c e [1,1,1,0,1,0,1,1,1,0] aFG (q82x2 c e))=B82x1 c (X82x2 c e):=by kernel_rfl
theorem s82x2:V82x2 (xA ii82 c e [1,1,1,0,1,0,1,1,1,0,1,1,1,1,1,1,0,1,1,1,0] aFF (q82x2 c e))=B82x2 c:=by kernel_rfl
def J82x2(c:TC0)(L:Nat):List UInt8→G.P→G.O→G.K→G.O→G.X→Rt:=B82x2 c
theorem j82x2:X82x2 c (cu c L)=J82x2 c L:=by rw[X82x2,aV,s82x2];rfl
def J82x1(c:TC0)(L:Nat):Bool→Int→Int→G.P→G.K→G.O→G.O→G.X→Rt:=B82x1 c (J82x2 c L)
theorem j82x1:X82x1 c (cu c L)=J82x1 c L:=by rw[X82x1,aV,s82x1];simp only[j82x2];rfl
def F82(c:TC0)(L:Nat):Int→G.P→Rt:=B82x0 c (J82x1 c L)
theorem e82:V82x0 (xF ii82 c (cu c L))=F82 c L:=by rw[s82x0];simp only[j82x1];rfl
theorem c82(a1:Int)(b0:G.P)(L n:Nat):CTp L (n+1) 82 [yI a1,yR 20 b0]=F82 (CTp L n) L a1 b0:=by rw[←e82];exact cg (x:=ii82) (by kernel_rfl) (by kernel_rfl) L n _
def B88x0(c:TC0):Rt:=
 some [yS 22 ([(G.R.mk ([105,102]:List UInt8) (3:Int)),(G.R.mk ([101,113,117,97,108]:List UInt8) (2:Int)),(G.R.mk ([99,111,110,115]:List UInt8) (2:Int)),(G.R.mk ([99,97,114]:List UInt8) (1:Int)),(G.R.mk ([99,100,114]:List UInt8) (1:Int)),(G.R.mk ([99,111,110,115,112]:List UInt8) (1:Int)),(G.R.mk ([115,121,109,98,111,108,112]:List UInt8) (1:Int)),(G.R.mk ([115,116,114,105,110,103,112]:List UInt8) (1:Int)),(G.R.mk ([114,97,116,105,111,110,97,108,112]:List UInt8) (1:Int)),(G.R.mk ([105,110,116,101,103,101,114,112]:List UInt8) (1:Int)),(G.R.mk ([98,105,110,97,114,121,45,43]:List UInt8) (2:Int)),(G.R.mk ([98,105,110,97,114,121,45,42]:List UInt8) (2:Int)),(G.R.mk ([117,110,97,114,121,45,45]:List UInt8) (1:Int)),(G.R.mk ([117,110,97,114,121,45,47]:List UInt8) (1:Int)),(G.R.mk ([60]:List UInt8) (2:Int)),(G.R.mk ([110,117,109,101,114,97,116,111,114]:List UInt8) (1:Int)),(G.R.mk ([100,101,110,111,109,105,110,97,116,111,114]:List UInt8) (1:Int)),(G.R.mk ([102,108,111,111,114]:List UInt8) (1:Int)),(G.R.mk ([115,121,109,98,111,108,45,110,97,109,101]:List UInt8) (1:Int)),(G.R.mk ([115,121,109,98,111,108,45,112,97,99,107,97,103,101,45,110,97,109,101]:List UInt8) (1:Int)),(G.R.mk ([105,110,116,101,114,110]:List UInt8) (2:Int)),(G.R.mk ([115,116,114,105,110,103,45,97,112,112,101,110,100]:List UInt8) (2:Int)),(G.R.mk ([115,116,114,105,110,103,45,108,101,110,103,116,104]:List UInt8) (1:Int)),(G.R.mk ([115,116,114,105,110,103,45,98,121,116,101]:List UInt8) (2:Int)),(G.R.mk ([98,121,116,101,45,115,116,114,105,110,103]:List UInt8) (1:Int))]:List G.R)]
def V88x0(n:Nt):Rt:=n []
theorem s88x0:V88x0 (xF ii88 c e)=B88x0 c:=by kernel_rfl
def F88(c:TC0)(L:Nat):Rt:=B88x0 c
theorem e88:V88x0 (xF ii88 c (cu c L))=F88 c L:=s88x0 _ _
theorem c88(L n:Nat):CTp L (n+1) 88 []=F88 (CTp L n) L:=by rw[←e88];exact cg (x:=ii88) (by kernel_rfl) (by kernel_rfl) L n _
def q95x0(c:TC0)(e:Cu):Kt:=xK aDn
def q95x1(c:TC0)(e:Cu):Kt:=xT aDn c e [1,1] (q95x0 c e)
def q95x2(c:TC0)(e:Cu):Kt:=eA U0 0 (q95x1 c e)
def q95x3(c:TC0)(e:Cu)(n1:Nt):Kt:=lpK U0 sN n1 (q95x2 c e)
def q95x4(c:TC0)(e:Cu)(n1:Nt):Kt:=xT aDn c e [1,0,1,0,0,1,1] (q95x3 c e n1)
def q95x5(c:TC0)(e:Cu)(n1:Nt):Kt:=eA U0 1 (q95x4 c e n1)
def q95x6(c:TC0)(e:Cu)(n1:Nt):Kt:=eA U0 2 (q95x5 c e n1)
def B95x0(c:TC0)(e1:List G.E→Int→G.Y→Rt)(a0:List G.E)(a1:G.Y):Rt:=
 e1 a0 (0:Int) a1
def V95x0(n:Nt):List G.E→G.Y→Rt:=fun x0 x1=>n [yS 15 x0,yR 1 x1]
def B95x1(c:TC0)(e2:List G.F→Int→Int→List G.E→G.Y→Rt)(a0:List G.E)(a7:Int)(b103:G.Y):Rt:=
 cnd (decide (a7<(List.length a0:Int))) (ob (idx a0 a7) fun v0=>
 obL [zS 4] (c 96 [yR 15 v0]) fun(r1:List G.F×Unit)=>
 e2 r1.1 (0:Int) a7 a0 b103) (some [yI (0:Int),yI (0:Int),yB false])
def aDH(n:Nt):List G.E→Int→G.Y→Rt:=fun x0 x1 x2=>n [yS 15 x0,yI x1,yR 1 x2]
def X95x1:=aDH (xE aDn e [1,0,1,0,0] sN (q95x2 c e))
def B95x2(c:TC0)(n2:List G.F→Int→Int→List G.E→G.Y→Rt)(n1:List G.E→Int→G.Y→Rt)(a8:List G.F)(a9:Int)(a7:Int)(a0:List G.E)(b103:G.Y):Rt:=
 cnd (decide (a9<(List.length a8:Int))) (ob (idx a8 a9) fun v0=>
 cnd (decide (v0.name=b103)) (some [yI a7,yI a9,yB true]) (n2 a8 (IntKind.i64.wrap (a9+(1:Int))) a7 a0 b103)) (n1 a0 (IntKind.i64.wrap (a7+(1:Int))) b103)
def V95x2(n:Nt):List G.F→Int→Int→List G.E→G.Y→Rt:=fun x0 x1 x2 x3 x4=>n [yS 4 x0,yI x1,yI x2,yS 15 x3,yR 1 x4]
def X95x2(n1:Nt):=V95x2 (xE aDn e [1,0,1,0,0,1,0,0,1,1,0,0] wZ (q95x6 c e n1))
theorem s95x0:V95x0 (xF aDn c e)=B95x0 c (X95x1 c e):=by kernel_rfl
theorem s95x1(n1:Nt):aDH (xA aDn c e [1,0,1,0,0] sN (lpK U0 sN n1 (q95x2 c e)))=B95x1 c (X95x2 c e n1):=by kernel_rfl
theorem s95x2(n2:Nt)(n1:Nt):V95x2 (xA aDn c e [1,0,1,0,0,1,0,0,1,1,0,0] wZ (lpK U0 wZ n2 (q95x6 c e n1)))=B95x2 c (V95x2 n2) (aDH n1):=by kernel_rfl
def aAU(c:TC0)(L:Nat)(n1:List G.E→Int→G.Y→Rt):Nat→List G.F→Int→Int→List G.E→G.Y→Rt
 |0=>fun _ _ _ _ _=>none
 |n+1=>B95x2 c (aAU c L n1 n) n1
theorem u95x2(n1:Nt)(n:Nat):V95x2 (xL aDn c L [1,0,1,0,0,1,0,0,1,1,0,0] wZ (q95x6 c (cu c L) n1) n)=aAU c L (aDH n1) n:=by
 induction n with
 |zero=>rfl
 |succ n ih=>rw[kU,s95x2];simp only[ih];rfl
theorem w95x2(n1:Nt):X95x2 c (cu c L) n1=aAU c L (aDH n1) L:=u95x2 c L n1 L
def aAV(c:TC0)(L:Nat):Nat→List G.E→Int→G.Y→Rt
 |0=>fun _ _ _=>none
 |n+1=>B95x1 c (aAU c L (aAV c L n) L)
theorem u95x1(n:Nat):aDH (xL aDn c L [1,0,1,0,0] sN (q95x2 c (cu c L)) n)=aAV c L n:=by
 induction n with
 |zero=>rfl
 |succ n ih=>rw[kU,s95x1];simp only[w95x2,ih];rfl
theorem w95x1:X95x1 c (cu c L)=aAV c L L:=u95x1 c L L
def F95(c:TC0)(L:Nat):List G.E→G.Y→Rt:=B95x0 c (aAV c L L)
theorem e95:V95x0 (xF aDn c (cu c L))=F95 c L:=by rw[s95x0];simp only[w95x1];rfl
theorem c95(a0:List G.E)(a1:G.Y)(L n:Nat):CTp L (n+1) 95 [yS 15 a0,yR 1 a1]=F95 (CTp L n) L a0 a1:=by rw[←e95];exact cg (x:=aDn) (by kernel_rfl) (by kernel_rfl) L n _
def q96x0(c:TC0)(e:Cu):Kt:=xK ii96
def q96x1(c:TC0)(e:Cu):Kt:=xT ii96 c e [1,1] (q96x0 c e)
def q96x2(c:TC0)(e:Cu):Kt:=eA U0 0 (q96x1 c e)
def B96x0(c:TC0)(k1:Bool→G.E→Rt)(a0:G.E):Rt:=
 cnd (decide (a0.kind=(3:Int))) (k1 (decide (a0.kind=(3:Int))) a0) (cnd (decide (a0.kind=(5:Int))) (k1 (decide (a0.kind=(5:Int))) a0) (cnd (decide (a0.kind=(6:Int))) (k1 (decide (a0.kind=(6:Int))) a0) (k1 (decide (a0.kind=(7:Int))) a0)))
def V96x0(n:Nt):G.E→Rt:=fun x0=>n [yR 15 x0]
def B96x1(c:TC0)(a5:Bool)(b101:G.E):Rt:=
 cnd a5 (some [yS 4 b101.functions]) (some [yS 4 ([]:List G.F)])
def V96x1(n:Nt):Bool→G.E→Rt:=fun x0 x1=>n [yB x0,yR 15 x1]
def X96x1:=V96x1 (xD ii96 e [1,0,1,0,1,0] aFD (q96x2 c e))
theorem s96x0:V96x0 (xF ii96 c e)=B96x0 c (X96x1 c e):=by kernel_rfl
theorem s96x1:V96x1 (xA ii96 c e [1,0,1,0,1,0] aFD (q96x2 c e))=B96x1 c:=by kernel_rfl
def J96x1(c:TC0)(L:Nat):Bool→G.E→Rt:=B96x1 c
theorem j96x1:X96x1 c (cu c L)=J96x1 c L:=by rw[X96x1,aV,s96x1];rfl
def F96(c:TC0)(L:Nat):G.E→Rt:=B96x0 c (J96x1 c L)
theorem e96:V96x0 (xF ii96 c (cu c L))=F96 c L:=by rw[s96x0];simp only[j96x1];rfl
theorem c96(a0:G.E)(L n:Nat):CTp L (n+1) 96 [yR 15 a0]=F96 (CTp L n) L a0:=by rw[←e96];exact cg (x:=ii96) (by kernel_rfl) (by kernel_rfl) L n _
def B98x0(c:TC0)(a0:G.O):Rt:=
 obL [.rc 3] (c 126 [yR 2 a0]) fun(r0:G.T×Unit)=>
 some [yR 3 r0.1]
def V98x0(n:Nt):G.O→Rt:=fun x0=>n [yR 2 x0]
theorem s98x0:V98x0 (xF ii98 c e)=B98x0 c:=by kernel_rfl
def F98(c:TC0)(L:Nat):G.O→Rt:=B98x0 c
theorem e98:V98x0 (xF ii98 c (cu c L))=F98 c L:=s98x0 _ _
theorem c98(a0:G.O)(L n:Nat):CTp L (n+1) 98 [yR 2 a0]=F98 (CTp L n) L a0:=by rw[←e98];exact cg (x:=ii98) (by kernel_rfl) (by kernel_rfl) L n _
def q99x0(c:TC0)(e:Cu):Kt:=xK ii99
def B99x0(c:TC0)(k1:Bool→Rt)(a0:G.T):Rt:=
 cnd (decide (a0.kind=(2:Int))) (obL [.bool] (c 18 [yR 2 a0.value]) fun(r0:Bool×Unit)=>
 cnd r0.1 (k1 true) (obL [.rc 2] (c 127 []) fun(r1:G.O×Unit)=>
 obL [.bool] (c 56 [yR 2 a0.value,yR 2 r1.1]) fun(r2:Bool×Unit)=>
 cnd r2.1 (k1 true) (obL [.rc 2] (c 97 [yI (0:Int)]) fun(r3:G.O×Unit)=>
 obL [.bool] (c 56 [yR 2 a0.value,yR 2 r3.1]) fun(r4:Bool×Unit)=>
 k1 r4.1))) (k1 false)
def V99x0(n:Nt):G.T→Rt:=fun x0=>n [yR 3 x0]
def B99x1(c:TC0)(a2:Bool):Rt:=
 some [yB a2]
def V99x1(n:Nt):Bool→Rt:=fun x0=>n [yB x0]
def X99x1:=V99x1 (xD ii99 e [1,1,0] aFC (q99x0 c e))
theorem s99x0:V99x0 (xF ii99 c e)=B99x0 c (X99x1 c e):=by kernel_rfl
theorem s99x1:V99x1 (xA ii99 c e [1,1,0] aFC (q99x0 c e))=B99x1 c:=by kernel_rfl
def J99x1(c:TC0)(L:Nat):Bool→Rt:=B99x1 c
theorem j99x1:X99x1 c (cu c L)=J99x1 c L:=by rw[X99x1,aV,s99x1];rfl
def F99(c:TC0)(L:Nat):G.T→Rt:=B99x0 c (J99x1 c L)
theorem e99:V99x0 (xF ii99 c (cu c L))=F99 c L:=by rw[s99x0];simp only[j99x1];rfl
theorem c99(a0:G.T)(L n:Nat):CTp L (n+1) 99 [yR 3 a0]=F99 (CTp L n) L a0:=by rw[←e99];exact cg (x:=ii99) (by kernel_rfl) (by kernel_rfl) L n _
def q101x0(c:TC0)(e:Cu):Kt:=xK iX
def q101x1(c:TC0)(e:Cu):Kt:=xT iX c e [1,1] (q101x0 c e)
def aBB(c:TC0)(e:Cu):Kt:=eA U0 0 (q101x1 c e)
def q101x3(c:TC0)(e:Cu)(n1:Nt):Kt:=lpK U0 nZ n1 (aBB c e)
def q101x4(c:TC0)(e:Cu)(n1:Nt):Kt:=eA U0 1 (q101x3 c e n1)
def q101x5(c:TC0)(e:Cu)(n1:Nt):Kt:=eA U0 2 (q101x4 c e n1)
def aBA(c:TC0)(e:Cu)(n1:Nt):Kt:=eA U0 3 (q101x5 c e n1)
def aEI(c:TC0)(e:Cu)(n1:Nt):Kt:=eA U0 5 (q101x5 c e n1)
def q101x8(c:TC0)(e:Cu)(n2:Nt)(n1:Nt):Kt:=lpK U0 nY n2 (aBA c e n1)
def q101x9(c:TC0)(e:Cu)(n2:Nt)(n1:Nt):Kt:=xT iX c e [1,0,0,0,1,0,0,1,1,1,0,0,0,1] (q101x8 c e n2 n1)
def aHs(c:TC0)(e1:List UInt8→Int→Rt)(a0:List UInt8)(a1:Int):Rt:=
 e1 a0 a1
def V101x0(n:Nt):List UInt8→Int→Rt:=fun x0 x1=>n [yT x0,yI x1]
def aCS(c:TC0)(n1:List UInt8→Int→Rt)(e2:List UInt8→Int→Rt)(e3:Int→List UInt8→Int→Rt)(a0:List UInt8)(a1:Int):Rt:=
 cnd (decide (a1<(List.length a0:Int))) (ob (idx a0 a1) fun v0=>
 obL [.bool] (c 129 [⟨(.int .u8),(v0.toNat:Int)⟩]) fun(r1:Bool×Unit)=>
 cnd r1.1 (n1 a0 (IntKind.i64.wrap (a1+(1:Int)))) (ob (idx a0 a1) fun v2=>
 cnd (decide ((v2.toNat:Int)=(59:Int))) (e2 a0 a1) (obL [.bool] (c 130 [yT a0,yI a1,⟨(.int .u8),(35:Int)⟩,⟨(.int .u8),(124:Int)⟩]) fun(r3:Bool×Unit)=>
 cnd r3.1 (e3 (1:Int) a0 (IntKind.i64.wrap (a1+(2:Int)))) (some [yI a1,yB true])))) (some [yI a1,yB true])
def jR(n:Nt):List UInt8→Int→Rt:=fun x0 x1=>n [yT x0,yI x1]
def X101x1:=jR (xE iX e [1,0,0,0] nZ (aBB c e))
def B101x2(c:TC0)(k4:Bool→List UInt8→Int→Rt)(a0:List UInt8)(a1:Int):Rt:=
 cnd (decide (a1<(List.length a0:Int))) (ob (idx a0 a1) fun v0=>
 k4 (!decide ((v0.toNat:Int)=(10:Int))) a0 a1) (k4 false a0 a1)
def yQ(n:Nt):List UInt8→Int→Rt:=fun x0 x1=>n [yT x0,yI x1]
def X101x2(n1:Nt):=yQ (xE iX e [1,0,0,0,1,0,0,1,1,1,0,0,0] nY (aBA c e n1))
def B101x3(c:TC0)(n3:Int→List UInt8→Int→Rt)(n1:List UInt8→Int→Rt)(a6:Int)(a0:List UInt8)(a1:Int):Rt:=
 cnd (decide ((0:Int)<a6)) (cnd (decide ((List.length a0:Int)≤a1)) (some [yI a1,yB false]) (obL [.bool] (c 130 [yT a0,yI a1,⟨(.int .u8),(35:Int)⟩,⟨(.int .u8),(124:Int)⟩]) fun(r0:Bool×Unit)=>
 cnd r0.1 (n3 (IntKind.i64.wrap (a6+(1:Int))) a0 (IntKind.i64.wrap (a1+(2:Int)))) (obL [.bool] (c 130 [yT a0,yI a1,⟨(.int .u8),(124:Int)⟩,⟨(.int .u8),(35:Int)⟩]) fun(r1:Bool×Unit)=>
 cnd r1.1 (n3 (IntKind.i64.wrap (a6-(1:Int))) a0 (IntKind.i64.wrap (a1+(2:Int)))) (n3 a6 a0 (IntKind.i64.wrap (a1+(1:Int))))))) (n1 a0 a1)
def aCO(n:Nt):Int→List UInt8→Int→Rt:=fun x0 x1 x2=>n [yI x0,yT x1,yI x2]
def X101x3(n1:Nt):=aCO (xE iX e [1,0,0,0,1,0,0,1,1,1,1,1,0,1,1,0,0] qQ (aEI c e n1))
def B101x4(c:TC0)(n2:List UInt8→Int→Rt)(n1:List UInt8→Int→Rt)(a33:Bool)(a0:List UInt8)(a1:Int):Rt:=
 cnd a33 (n2 a0 (IntKind.i64.wrap (a1+(1:Int)))) (n1 a0 a1)
def V101x4(n:Nt):Bool→List UInt8→Int→Rt:=fun x0 x1 x2=>n [yB x0,yT x1,yI x2]
def aGU(n2:Nt)(n1:Nt):=V101x4 (xD iX e [1,0,0,0,1,0,0,1,1,1,0,0,0,0,1,0] aAK (q101x9 c e n2 n1))
theorem s101x0:V101x0 (xF iX c e)=aHs c (X101x1 c e):=by kernel_rfl
theorem s101x1(n1:Nt):jR (xA iX c e [1,0,0,0] nZ (lpK U0 nZ n1 (aBB c e)))=aCS c (jR n1) (X101x2 c e n1) (X101x3 c e n1):=by kernel_rfl
theorem s101x2(n2:Nt)(n1:Nt):yQ (xA iX c e [1,0,0,0,1,0,0,1,1,1,0,0,0] nY (lpK U0 nY n2 (aBA c e n1)))=B101x2 c (aGU c e n2 n1):=by kernel_rfl
theorem s101x3(n3:Nt)(n1:Nt):aCO (xA iX c e [1,0,0,0,1,0,0,1,1,1,1,1,0,1,1,0,0] qQ (lpK U0 qQ n3 (aEI c e n1)))=B101x3 c (aCO n3) (jR n1):=by kernel_rfl
theorem s101x4(n2:Nt)(n1:Nt):V101x4 (xA iX c e [1,0,0,0,1,0,0,1,1,1,0,0,0,0,1,0] aAK (q101x9 c e n2 n1))=B101x4 c (yQ n2) (jR n1):=by kernel_rfl
def aCJ(c:TC0)(L:Nat)(n1:List UInt8→Int→Rt):Nat→Int→List UInt8→Int→Rt
 |0=>fun _ _ _=>none
 |n+1=>B101x3 c (aCJ c L n1 n) n1
theorem u101x3(n1:Nt)(n:Nat):aCO (xL iX c L [1,0,0,0,1,0,0,1,1,1,1,1,0,1,1,0,0] qQ (aEI c (cu c L) n1) n)=aCJ c L (jR n1) n:=by
 induction n with
 |zero=>rfl
 |succ n ih=>rw[kU,s101x3];simp only[ih];rfl
theorem w101x3(n1:Nt):X101x3 c (cu c L) n1=aCJ c L (jR n1) L:=u101x3 c L n1 L
def J101x4(c:TC0)(L:Nat)(n2:List UInt8→Int→Rt)(n1:List UInt8→Int→Rt):Bool→List UInt8→Int→Rt:=B101x4 c n2 n1
theorem j101x4(n2:Nt)(n1:Nt):aGU c (cu c L) n2 n1=J101x4 c L (yQ n2) (jR n1):=by rw[aGU,aV,s101x4];rfl
def aCK(c:TC0)(L:Nat)(n1:List UInt8→Int→Rt):Nat→List UInt8→Int→Rt
 |0=>fun _ _=>none
 |n+1=>B101x2 c (J101x4 c L (aCK c L n1 n) n1)
theorem u101x2(n1:Nt)(n:Nat):yQ (xL iX c L [1,0,0,0,1,0,0,1,1,1,0,0,0] nY (aBA c (cu c L) n1) n)=aCK c L (jR n1) n:=by
 induction n with
 |zero=>rfl
 |succ n ih=>rw[kU,s101x2];simp only[j101x4,ih];rfl
theorem w101x2(n1:Nt):X101x2 c (cu c L) n1=aCK c L (jR n1) L:=u101x2 c L n1 L
def mU(c:TC0)(L:Nat):Nat→List UInt8→Int→Rt
 |0=>fun _ _=>none
 |n+1=>aCS c (mU c L n) (aCK c L (mU c L n) L) (aCJ c L (mU c L n) L)
theorem u101x1(n:Nat):jR (xL iX c L [1,0,0,0] nZ (aBB c (cu c L)) n)=mU c L n:=by
 induction n with
 |zero=>rfl
 |succ n ih=>rw[kU,s101x1];simp only[w101x2,w101x3,ih];rfl
theorem w101x1:X101x1 c (cu c L)=mU c L L:=u101x1 c L L
def F101(c:TC0)(L:Nat):List UInt8→Int→Rt:=aHs c (mU c L L)
theorem e101:V101x0 (xF iX c (cu c L))=F101 c L:=by rw[s101x0];simp only[w101x1];rfl
theorem c101(a0:List UInt8)(a1:Int)(L n:Nat):CTp L (n+1) 101 [yT a0,yI a1]=F101 (CTp L n) L a0 a1:=by rw[←e101];exact cg (x:=iX) (by kernel_rfl) (by kernel_rfl) L n _
end
end Go.TV
namespace Go.TV
open Go.AI Go.PI Go.Proofs
set_option maxRecDepth 20000
noncomputable section
variable(c:TC0)(e:Cu)(L:Nat)
def q129x0(c:TC0)(e:Cu):Kt:=xK aAg
def aHq(c:TC0)(k1:Bool→Rt)(a0:Int):Rt:=
 cnd (decide (a0=(32:Int))) (k1 true) (cnd (decide (a0=(9:Int))) (k1 true) (cnd (decide (a0=(10:Int))) (k1 true) (k1 (decide (a0=(13:Int))))))
def V129x0(n:Nt):Int→Rt:=fun x0=>n [⟨(.int .u8),x0⟩]
def aHp(c:TC0)(a2:Bool):Rt:=
 some [yB a2]
def V129x1(n:Nt):Bool→Rt:=fun x0=>n [yB x0]
def aGL:=V129x1 (xD aAg e [1,1,0] aAz (q129x0 c e))
theorem s129x0:V129x0 (xF aAg c e)=aHq c (aGL c e):=by kernel_rfl
theorem s129x1:V129x1 (xA aAg c e [1,1,0] aAz (q129x0 c e))=aHp c:=by kernel_rfl
def aG9(c:TC0)(L:Nat):Bool→Rt:=aHp c
theorem j129x1:aGL c (cu c L)=aG9 c L:=by rw[aGL,aV,s129x1];rfl
def F129(c:TC0)(L:Nat):Int→Rt:=aHq c (aG9 c L)
theorem e129:V129x0 (xF aAg c (cu c L))=F129 c L:=by rw[s129x0];simp only[j129x1];rfl
theorem c129(a0:Int)(L n:Nat):CTp L (n+1) 129 [⟨(.int .u8),a0⟩]=F129 (CTp L n) L a0:=by rw[←e129];exact cg (x:=aAg) (by kernel_rfl) (by kernel_rfl) L n _
def q130x0(c:TC0)(e:Cu):Kt:=xK aAf
def aHo(c:TC0)(k1:Bool→Rt)(a0:List UInt8)(a1:Int)(a2:Int)(a3:Int):Rt:=
 cnd (decide ((0:Int)≤a1)) (cnd (decide ((IntKind.i64.wrap (a1+(1:Int)))<(List.length a0:Int))) (ob (idx a0 a1) fun v0=>
 cnd (decide ((v0.toNat:Int)=a2)) (ob (idx a0 (IntKind.i64.wrap (a1+(1:Int)))) fun v1=>
 k1 (decide ((v1.toNat:Int)=a3))) (k1 false)) (k1 false)) (k1 false)
def V130x0(n:Nt):List UInt8→Int→Int→Int→Rt:=fun x0 x1 x2 x3=>n [yT x0,yI x1,⟨(.int .u8),x2⟩,⟨(.int .u8),x3⟩]
def aHn(c:TC0)(a8:Bool):Rt:=
 some [yB a8]
def V130x1(n:Nt):Bool→Rt:=fun x0=>n [yB x0]
def aGK:=V130x1 (xD aAf e [1,1,0] aAy (q130x0 c e))
theorem s130x0:V130x0 (xF aAf c e)=aHo c (aGK c e):=by kernel_rfl
theorem s130x1:V130x1 (xA aAf c e [1,1,0] aAy (q130x0 c e))=aHn c:=by kernel_rfl
def aG8(c:TC0)(L:Nat):Bool→Rt:=aHn c
theorem j130x1:aGK c (cu c L)=aG8 c L:=by rw[aGK,aV,s130x1];rfl
def F130(c:TC0)(L:Nat):List UInt8→Int→Int→Int→Rt:=aHo c (aG8 c L)
theorem e130:V130x0 (xF aAf c (cu c L))=F130 c L:=by rw[s130x0];simp only[j130x1];rfl
theorem c130(a0:List UInt8)(a1:Int)(a2:Int)(a3:Int)(L n:Nat):CTp L (n+1) 130 [yT a0,yI a1,⟨(.int .u8),a2⟩,⟨(.int .u8),a3⟩]=F130 (CTp L n) L a0 a1 a2 a3:=by rw[←e130];exact cg (x:=aAf) (by kernel_rfl) (by kernel_rfl) L n _
def q132x0(c:TC0)(e:Cu):Kt:=xK wM
def q132x1(c:TC0)(e:Cu):Kt:=xT wM c e [1,1] (q132x0 c e)
def q132x2(c:TC0)(e:Cu):Kt:=eA U0 0 (q132x1 c e)
def aHm(c:TC0)(k1:Bool→G.K→G.X→Rt)(a0:G.K)(a1:Bool):Rt:=
 cnd (decide ((40:Int)<(List.length a0.text:Int))) (obL [.rc 18] (c 81 [yI (2:Int),yI a0.pos]) fun(r0:G.X×Unit)=>
 some [yR 18 r0.1]) (cnd a1 (cnd (decide (a0.text=([]:List UInt8))) (k1 true a0 (G.X.mk (0:Int) (0:Int))) (cnd (!decide (a0.package=([]:List UInt8))) (obL [.bool] (c 154 [yT a0.package]) fun(r1:Bool×Unit)=>
 k1 (!r1.1) a0 (G.X.mk (0:Int) (0:Int))) (k1 false a0 (G.X.mk (0:Int) (0:Int))))) (cnd (!decide (a0.package=([]:List UInt8))) (obL [.bool] (c 154 [yT a0.package]) fun(r2:Bool×Unit)=>
 k1 (!r2.1) a0 (G.X.mk (0:Int) (0:Int))) (k1 false a0 (G.X.mk (0:Int) (0:Int)))))
def V132x0(n:Nt):G.K→Bool→Rt:=fun x0 x1=>n [yR 19 x0,yB x1]
def B132x1(c:TC0)(a13:Bool)(b102:G.K)(b104:G.X):Rt:=
 cnd a13 (obL [.rc 18] (c 81 [yI (3:Int),yI b102.pos]) fun(r0:G.X×Unit)=>
 some [yR 18 r0.1]) (some [yR 18 (G.X.mk (0:Int) (0:Int))])
def V132x1(n:Nt):Bool→G.K→G.X→Rt:=fun x0 x1 x2=>n [yB x0,yR 19 x1,yR 18 x2]
def aGJ:=V132x1 (xD wM e [1,0,0,1,1,1,0] aAx (q132x2 c e))
theorem s132x0:V132x0 (xF wM c e)=aHm c (aGJ c e):=by kernel_rfl
theorem s132x1:V132x1 (xA wM c e [1,0,0,1,1,1,0] aAx (q132x2 c e))=B132x1 c:=by kernel_rfl
def J132x1(c:TC0)(L:Nat):Bool→G.K→G.X→Rt:=B132x1 c
theorem j132x1:aGJ c (cu c L)=J132x1 c L:=by rw[aGJ,aV,s132x1];rfl
def F132(c:TC0)(L:Nat):G.K→Bool→Rt:=aHm c (J132x1 c L)
theorem e132:V132x0 (xF wM c (cu c L))=F132 c L:=by rw[s132x0];simp only[j132x1];rfl
theorem c132(a0:G.K)(a1:Bool)(L n:Nat):CTp L (n+1) 132 [yR 19 a0,yB a1]=F132 (CTp L n) L a0 a1:=by rw[←e132];exact cg (x:=wM) (by kernel_rfl) (by kernel_rfl) L n _
def q133x0(c:TC0)(e:Cu):Kt:=xK aAe
def aHl(c:TC0)(k1:Bool→Rt)(a0:Int):Rt:=
 cnd (decide ((33:Int)≤a0)) (cnd (decide (a0≤(126:Int))) (cnd (!decide (a0=(40:Int))) (cnd (!decide (a0=(41:Int))) (cnd (!decide (a0=(39:Int))) (cnd (!decide (a0=(34:Int))) (cnd (!decide (a0=(59:Int))) (cnd (!decide (a0=(124:Int))) (k1 (!decide (a0=(58:Int)))) (k1 false)) (k1 false)) (k1 false)) (k1 false)) (k1 false)) (k1 false)) (k1 false)) (k1 false)
def V133x0(n:Nt):Int→Rt:=fun x0=>n [⟨(.int .u8),x0⟩]
def aHk(c:TC0)(a2:Bool):Rt:=
 some [yB a2]
def V133x1(n:Nt):Bool→Rt:=fun x0=>n [yB x0]
def aGI:=V133x1 (xD aAe e [1,1,0] aAw (q133x0 c e))
theorem s133x0:V133x0 (xF aAe c e)=aHl c (aGI c e):=by kernel_rfl
theorem s133x1:V133x1 (xA aAe c e [1,1,0] aAw (q133x0 c e))=aHk c:=by kernel_rfl
def aG7(c:TC0)(L:Nat):Bool→Rt:=aHk c
theorem j133x1:aGI c (cu c L)=aG7 c L:=by rw[aGI,aV,s133x1];rfl
def F133(c:TC0)(L:Nat):Int→Rt:=aHl c (aG7 c L)
theorem e133:V133x0 (xF aAe c (cu c L))=F133 c L:=by rw[s133x0];simp only[j133x1];rfl
theorem c133(a0:Int)(L n:Nat):CTp L (n+1) 133 [⟨(.int .u8),a0⟩]=F133 (CTp L n) L a0:=by rw[←e133];exact cg (x:=aAe) (by kernel_rfl) (by kernel_rfl) L n _
def q134x0(c:TC0)(e:Cu):Kt:=xK oY
def q134x1(c:TC0)(e:Cu):Kt:=xT oY c e [1,1] (q134x0 c e)
def aBv(c:TC0)(e:Cu):Kt:=eA U0 0 (q134x1 c e)
def q134x3(c:TC0)(e:Cu)(n1:Nt):Kt:=lpK U0 nV n1 (aBv c e)
def q134x4(c:TC0)(e:Cu)(n1:Nt):Kt:=xT oY c e [1,0,0,0,1] (q134x3 c e n1)
def aHj(c:TC0)(e1:List UInt8→Int→Rt)(a0:List UInt8)(a1:Int):Rt:=
 e1 a0 a1
def V134x0(n:Nt):List UInt8→Int→Rt:=fun x0 x1=>n [yT x0,yI x1]
def aCR(c:TC0)(k2:Bool→List UInt8→Int→Rt)(a0:List UInt8)(a1:Int):Rt:=
 cnd (decide (a1<(List.length a0:Int))) (ob (idx a0 a1) fun v0=>
 obL [.bool] (c 133 [⟨(.int .u8),(v0.toNat:Int)⟩]) fun(r1:Bool×Unit)=>
 k2 r1.1 a0 a1) (k2 false a0 a1)
def yN(n:Nt):List UInt8→Int→Rt:=fun x0 x1=>n [yT x0,yI x1]
def X134x1:=yN (xE oY e [1,0,0,0] nV (aBv c e))
def yX(c:TC0)(n1:List UInt8→Int→Rt)(a14:Bool)(a0:List UInt8)(a1:Int):Rt:=
 cnd a14 (n1 a0 (IntKind.i64.wrap (a1+(1:Int)))) (some [yI a1])
def V134x2(n:Nt):Bool→List UInt8→Int→Rt:=fun x0 x1 x2=>n [yB x0,yT x1,yI x2]
def aGH(n1:Nt):=V134x2 (xD oY e [1,0,0,0,0,1,0] aAv (q134x4 c e n1))
theorem s134x0:V134x0 (xF oY c e)=aHj c (X134x1 c e):=by kernel_rfl
theorem s134x1(n1:Nt):yN (xA oY c e [1,0,0,0] nV (lpK U0 nV n1 (aBv c e)))=aCR c (aGH c e n1):=by kernel_rfl
theorem s134x2(n1:Nt):V134x2 (xA oY c e [1,0,0,0,0,1,0] aAv (q134x4 c e n1))=yX c (yN n1):=by kernel_rfl
def yU(c:TC0)(L:Nat)(n1:List UInt8→Int→Rt):Bool→List UInt8→Int→Rt:=yX c n1
theorem j134x2(n1:Nt):aGH c (cu c L) n1=yU c L (yN n1):=by rw[aGH,aV,s134x2];rfl
def qZ(c:TC0)(L:Nat):Nat→List UInt8→Int→Rt
 |0=>fun _ _=>none
 |n+1=>aCR c (yU c L (qZ c L n))
theorem u134x1(n:Nat):yN (xL oY c L [1,0,0,0] nV (aBv c (cu c L)) n)=qZ c L n:=by
 induction n with
 |zero=>rfl
 |succ n ih=>rw[kU,s134x1];simp only[j134x2,ih];rfl
theorem w134x1:X134x1 c (cu c L)=qZ c L L:=u134x1 c L L
def F134(c:TC0)(L:Nat):List UInt8→Int→Rt:=aHj c (qZ c L L)
theorem e134:V134x0 (xF oY c (cu c L))=F134 c L:=by rw[s134x0];simp only[w134x1];rfl
theorem c134(a0:List UInt8)(a1:Int)(L n:Nat):CTp L (n+1) 134 [yT a0,yI a1]=F134 (CTp L n) L a0 a1:=by rw[←e134];exact cg (x:=oY) (by kernel_rfl) (by kernel_rfl) L n _
def rZ(c:TC0)(e:Cu):Kt:=xK eM
def q136x1(c:TC0)(e:Cu):Kt:=xT eM c e [1,1,1] (rZ c e)
def q136x2(c:TC0)(e:Cu):Kt:=xT eM c e [1,1,1,0,1,1] (rZ c e)
def aBu(c:TC0)(e:Cu):Kt:=eA U0 0 (q136x2 c e)
def q136x4(c:TC0)(e:Cu)(n3:Nt):Kt:=lpK U0 nU n3 (aBu c e)
def q136x5(c:TC0)(e:Cu)(n3:Nt):Kt:=xT eM c e [1,1,1,0,1,0,0,0,1] (q136x4 c e n3)
def q136x6(c:TC0)(e:Cu):Kt:=xT eM c e [1,1,1,0,1,1,1,1,1] (rZ c e)
def q136x7(c:TC0)(e:Cu):Kt:=xT eM c e [1,1,1,0,1,1,1,1,1,1] (rZ c e)
def aBt(c:TC0)(e:Cu):Kt:=eA U0 2 (q136x7 c e)
def q136x9(c:TC0)(e:Cu)(n6:Nt):Kt:=lpK U0 nT n6 (aBt c e)
def q136x10(c:TC0)(e:Cu)(n6:Nt):Kt:=xT eM c e [1,1,1,0,1,1,1,1,1,0,1,0,0,1,1] (q136x9 c e n6)
def aEF(c:TC0)(e:Cu)(n6:Nt):Kt:=eA U0 3 (q136x10 c e n6)
def aHi(c:TC0)(k1:Bool→Int→List UInt8→Rt)(a0:List UInt8):Rt:=
 cnd (decide ((0:Int)<(List.length a0:Int))) (ob (idx a0 (0:Int)) fun v0=>
 k1 (decide ((v0.toNat:Int)=(45:Int))) (0:Int) a0) (k1 false (0:Int) a0)
def V136x0(n:Nt):List UInt8→Rt:=fun x0=>n [yT x0]
def aHh(c:TC0)(k2:Int→List UInt8→Rt)(a15:Bool)(a5:Int)(a0:List UInt8):Rt:=
 cnd a15 (k2 (1:Int) a0) (k2 a5 a0)
def V136x1(n:Nt):Bool→Int→List UInt8→Rt:=fun x0 x1 x2=>n [yB x0,yI x1,yT x2]
def aGG:=V136x1 (xD eM e [1,1,0,1,0] aAu (q136x1 c e))
def aHg(c:TC0)(e3:Int→List UInt8→Int→Rt)(a5:Int)(a0:List UInt8):Rt:=
 e3 a5 a0 a5
def V136x2(n:Nt):Int→List UInt8→Rt:=fun x0 x1=>n [yI x0,yT x1]
def aGF:=V136x2 (xD eM e [1,1,1,0] aAt (rZ c e))
def aHf(c:TC0)(k4:Bool→Int→List UInt8→Int→Rt)(a5:Int)(a0:List UInt8)(a6:Int):Rt:=
 cnd (decide (a6<(List.length a0:Int))) (ob (idx a0 a6) fun v0=>
 cnd (decide ((48:Int)≤(v0.toNat:Int))) (ob (idx a0 a6) fun v1=>
 k4 (decide ((v1.toNat:Int)≤(57:Int))) a5 a0 a6) (k4 false a5 a0 a6)) (k4 false a5 a0 a6)
def yM(n:Nt):Int→List UInt8→Int→Rt:=fun x0 x1 x2=>n [yI x0,yT x1,yI x2]
def X136x3:=yM (xE eM e [1,1,1,0,1,0,0,0] nU (aBu c e))
def B136x4(c:TC0)(n3:Int→List UInt8→Int→Rt)(k5:Bool→List UInt8→Int→Rt)(a32:Bool)(a5:Int)(a0:List UInt8)(a6:Int):Rt:=
 cnd a32 (n3 a5 a0 (IntKind.i64.wrap (a6+(1:Int)))) (cnd (decide (a6=a5)) (some [yT ([]:List UInt8),yT ([]:List UInt8),yB false]) (cnd (decide (a6=(List.length a0:Int))) (some [yT a0,yT ([49]:List UInt8),yB true]) (ob (idx a0 a6) fun v0=>
 cnd (!decide ((v0.toNat:Int)=(47:Int))) (k5 true a0 a6) (k5 (decide ((IntKind.i64.wrap (a6+(1:Int)))=(List.length a0:Int))) a0 a6))))
def V136x4(n:Nt):Bool→Int→List UInt8→Int→Rt:=fun x0 x1 x2 x3=>n [yB x0,yI x1,yT x2,yI x3]
def aGE(n3:Nt):=V136x4 (xD eM e [1,1,1,0,1,0,0,0,0,1,0] aAs (q136x5 c e n3))
def B136x5(c:TC0)(e6:Int→List UInt8→Int→Rt)(a53:Bool)(a0:List UInt8)(a6:Int):Rt:=
 cnd a53 (some [yT ([]:List UInt8),yT ([]:List UInt8),yB false]) (e6 (IntKind.i64.wrap (a6+(1:Int))) a0 a6)
def V136x5(n:Nt):Bool→List UInt8→Int→Rt:=fun x0 x1 x2=>n [yB x0,yT x1,yI x2]
def aGD:=V136x5 (xD eM e [1,1,1,0,1,1,1,1,0,1,0] aAr (q136x6 c e))
def B136x6(c:TC0)(k7:Bool→Int→List UInt8→Int→Rt)(a7:Int)(a0:List UInt8)(a6:Int):Rt:=
 cnd (decide (a7<(List.length a0:Int))) (ob (idx a0 a7) fun v0=>
 cnd (decide ((v0.toNat:Int)<(48:Int))) (k7 true a7 a0 a6) (ob (idx a0 a7) fun v1=>
 k7 (decide ((57:Int)<(v1.toNat:Int))) a7 a0 a6)) (ob (slc a0 (0:Int) a6) fun v2=>
 ob (slc a0 (IntKind.i64.wrap (a6+(1:Int))) (List.length a0:Int)) fun v3=>
 some [yT v2,yT v3,yB true])
def yL(n:Nt):Int→List UInt8→Int→Rt:=fun x0 x1 x2=>n [yI x0,yT x1,yI x2]
def X136x6:=yL (xE eM e [1,1,1,0,1,1,1,1,1,0,1,0,0] nT (aBt c e))
def B136x7(c:TC0)(n6:Int→List UInt8→Int→Rt)(a71:Bool)(a7:Int)(a0:List UInt8)(a6:Int):Rt:=
 cnd a71 (some [yT ([]:List UInt8),yT ([]:List UInt8),yB false]) (n6 (IntKind.i64.wrap (a7+(1:Int))) a0 a6)
def V136x7(n:Nt):Bool→Int→List UInt8→Int→Rt:=fun x0 x1 x2 x3=>n [yB x0,yI x1,yT x2,yI x3]
def aGC(n6:Nt):=V136x7 (xD eM e [1,1,1,0,1,1,1,1,1,0,1,0,0,1,0,0,1,0] aAq (aEF c e n6))
theorem s136x0:V136x0 (xF eM c e)=aHi c (aGG c e):=by kernel_rfl
theorem s136x1:V136x1 (xA eM c e [1,1,0,1,0] aAu (q136x1 c e))=aHh c (aGF c e):=by kernel_rfl
theorem s136x2:V136x2 (xA eM c e [1,1,1,0] aAt (rZ c e))=aHg c (X136x3 c e):=by kernel_rfl
theorem s136x3(n3:Nt):yM (xA eM c e [1,1,1,0,1,0,0,0] nU (lpK U0 nU n3 (aBu c e)))=aHf c (aGE c e n3):=by kernel_rfl
theorem s136x4(n3:Nt):V136x4 (xA eM c e [1,1,1,0,1,0,0,0,0,1,0] aAs (q136x5 c e n3))=B136x4 c (yM n3) (aGD c e):=by kernel_rfl
theorem s136x5:V136x5 (xA eM c e [1,1,1,0,1,1,1,1,0,1,0] aAr (q136x6 c e))=B136x5 c (X136x6 c e):=by kernel_rfl
theorem s136x6(n6:Nt):yL (xA eM c e [1,1,1,0,1,1,1,1,1,0,1,0,0] nT (lpK U0 nT n6 (aBt c e)))=B136x6 c (aGC c e n6):=by kernel_rfl
theorem s136x7(n6:Nt):V136x7 (xA eM c e [1,1,1,0,1,1,1,1,1,0,1,0,0,1,0,0,1,0] aAq (aEF c e n6))=B136x7 c (yL n6):=by kernel_rfl
def J136x7(c:TC0)(L:Nat)(n6:Int→List UInt8→Int→Rt):Bool→Int→List UInt8→Int→Rt:=B136x7 c n6
theorem j136x7(n6:Nt):aGC c (cu c L) n6=J136x7 c L (yL n6):=by rw[aGC,aV,s136x7];rfl
def aCE(c:TC0)(L:Nat):Nat→Int→List UInt8→Int→Rt
 |0=>fun _ _ _=>none
 |n+1=>B136x6 c (J136x7 c L (aCE c L n))
theorem u136x6(n:Nat):yL (xL eM c L [1,1,1,0,1,1,1,1,1,0,1,0,0] nT (aBt c (cu c L)) n)=aCE c L n:=by
 induction n with
 |zero=>rfl
 |succ n ih=>rw[kU,s136x6];simp only[j136x7,ih];rfl
theorem w136x6:X136x6 c (cu c L)=aCE c L L:=u136x6 c L L
def J136x5(c:TC0)(L:Nat):Bool→List UInt8→Int→Rt:=B136x5 c (aCE c L L)
theorem j136x5:aGD c (cu c L)=J136x5 c L:=by rw[aGD,aV,s136x5];simp only[w136x6];rfl
def aG4(c:TC0)(L:Nat)(n3:Int→List UInt8→Int→Rt):Bool→Int→List UInt8→Int→Rt:=B136x4 c n3 (J136x5 c L)
theorem j136x4(n3:Nt):aGE c (cu c L) n3=aG4 c L (yM n3):=by rw[aGE,aV,s136x4];simp only[j136x5];rfl
def sX(c:TC0)(L:Nat):Nat→Int→List UInt8→Int→Rt
 |0=>fun _ _ _=>none
 |n+1=>aHf c (aG4 c L (sX c L n))
theorem u136x3(n:Nat):yM (xL eM c L [1,1,1,0,1,0,0,0] nU (aBu c (cu c L)) n)=sX c L n:=by
 induction n with
 |zero=>rfl
 |succ n ih=>rw[kU,s136x3];simp only[j136x4,ih];rfl
theorem w136x3:X136x3 c (cu c L)=sX c L L:=u136x3 c L L
def aG5(c:TC0)(L:Nat):Int→List UInt8→Rt:=aHg c (sX c L L)
theorem j136x2:aGF c (cu c L)=aG5 c L:=by rw[aGF,aV,s136x2];simp only[w136x3];rfl
def aG6(c:TC0)(L:Nat):Bool→Int→List UInt8→Rt:=aHh c (aG5 c L)
theorem j136x1:aGG c (cu c L)=aG6 c L:=by rw[aGG,aV,s136x1];simp only[j136x2];rfl
def F136(c:TC0)(L:Nat):List UInt8→Rt:=aHi c (aG6 c L)
theorem e136:V136x0 (xF eM c (cu c L))=F136 c L:=by rw[s136x0];simp only[j136x1];rfl
theorem c136(a0:List UInt8)(L n:Nat):CTp L (n+1) 136 [yT a0]=F136 (CTp L n) L a0:=by rw[←e136];exact cg (x:=eM) (by kernel_rfl) (by kernel_rfl) L n _
def q139x0(c:TC0)(e:Cu):Kt:=xK uH
def q139x1(c:TC0)(e:Cu):Kt:=xT uH c e [1,1] (q139x0 c e)
def aEE(c:TC0)(e:Cu):Kt:=eA U0 0 (q139x1 c e)
def B139x0(c:TC0)(e1:List UInt8→List G.A→Int→G.A→Rt)(a0:List G.A)(a1:List UInt8):Rt:=
 e1 a1 a0 (0:Int) (G.A.mk ([]:List UInt8) ([]:List G.Y))
def V139x0(n:Nt):List G.A→List UInt8→Rt:=fun x0 x1=>n [yS 5 x0,yT x1]
def B139x1(c:TC0)(n1:List UInt8→List G.A→Int→G.A→Rt)(a1:List UInt8)(a0:List G.A)(a6:Int)(b104:G.A):Rt:=
 cnd (decide (a6<(List.length a0:Int))) (ob (idx a0 a6) fun v0=>
 cnd (decide (v0.name=a1)) (ob (idx a0 a6) fun v1=>
 some [yR 5 v1,yB true]) (n1 a1 a0 (IntKind.i64.wrap (a6+(1:Int))) b104)) (some [yR 5 (G.A.mk ([]:List UInt8) ([]:List G.Y)),yB false])
def aCL(n:Nt):List UInt8→List G.A→Int→G.A→Rt:=fun x0 x1 x2 x3=>n [yT x0,yS 5 x1,yI x2,yR 5 x3]
def X139x1:=aCL (xE uH e [1,0,1,0,0] qN (aEE c e))
theorem s139x0:V139x0 (xF uH c e)=B139x0 c (X139x1 c e):=by kernel_rfl
theorem s139x1(n1:Nt):aCL (xA uH c e [1,0,1,0,0] qN (lpK U0 qN n1 (aEE c e)))=B139x1 c (aCL n1):=by kernel_rfl
def aCD(c:TC0)(L:Nat):Nat→List UInt8→List G.A→Int→G.A→Rt
 |0=>fun _ _ _ _=>none
 |n+1=>B139x1 c (aCD c L n)
theorem u139x1(n:Nat):aCL (xL uH c L [1,0,1,0,0] qN (aEE c (cu c L)) n)=aCD c L n:=by
 induction n with
 |zero=>rfl
 |succ n ih=>rw[kU,s139x1];simp only[ih];rfl
theorem w139x1:X139x1 c (cu c L)=aCD c L L:=u139x1 c L L
def F139(c:TC0)(L:Nat):List G.A→List UInt8→Rt:=B139x0 c (aCD c L L)
theorem e139:V139x0 (xF uH c (cu c L))=F139 c L:=by rw[s139x0];simp only[w139x1];rfl
theorem c139(a0:List G.A)(a1:List UInt8)(L n:Nat):CTp L (n+1) 139 [yS 5 a0,yT a1]=F139 (CTp L n) L a0 a1:=by rw[←e139];exact cg (x:=uH) (by kernel_rfl) (by kernel_rfl) L n _
def B148x0(c:TC0)(a0:G.Y):Rt:=
 some [yR 2 (G.O.mk (2:Int) ([]:List UInt8) ([]:List UInt8) a0 ([]:List UInt8) ([]:List G.O))]
def V148x0(n:Nt):G.Y→Rt:=fun x0=>n [yR 1 x0]
theorem s148x0:V148x0 (xF ii148 c e)=B148x0 c:=by kernel_rfl
def F148(c:TC0)(L:Nat):G.Y→Rt:=B148x0 c
theorem e148:V148x0 (xF ii148 c (cu c L))=F148 c L:=s148x0 _ _
theorem c148(a0:G.Y)(L n:Nat):CTp L (n+1) 148 [yR 1 a0]=F148 (CTp L n) L a0:=by rw[←e148];exact cg (x:=ii148) (by kernel_rfl) (by kernel_rfl) L n _
def q166x0(c:TC0)(e:Cu):Kt:=xK lE
def q166x1(c:TC0)(e:Cu):Kt:=xT lE c e [1,1] (q166x0 c e)
def q166x2(c:TC0)(e:Cu):Kt:=xT lE c e [1,1,1] (q166x0 c e)
def aBs(c:TC0)(e:Cu):Kt:=eA U0 0 (q166x2 c e)
def q166x4(c:TC0)(e:Cu)(n2:Nt):Kt:=lpK U0 nS n2 (aBs c e)
def q166x5(c:TC0)(e:Cu)(n2:Nt):Kt:=xT lE c e [1,1,0,1,0,0,1,1] (q166x4 c e n2)
def q166x6(c:TC0)(e:Cu)(n2:Nt):Kt:=eA U0 1 (q166x5 c e n2)
def B166x0(c:TC0)(k1:Bool→List UInt8→Rt)(a0:List UInt8):Rt:=
 cnd (decide ((List.length a0:Int)<(1:Int))) (k1 true a0) (cnd (decide ((40:Int)<(List.length a0:Int))) (k1 true a0) (ob (idx a0 (0:Int)) fun v0=>
 cnd (decide ((v0.toNat:Int)<(97:Int))) (k1 true a0) (ob (idx a0 (0:Int)) fun v1=>
 k1 (decide ((122:Int)<(v1.toNat:Int))) a0)))
def V166x0(n:Nt):List UInt8→Rt:=fun x0=>n [yT x0]
def B166x1(c:TC0)(e2:List UInt8→Int→Rt)(a22:Bool)(a0:List UInt8):Rt:=
 cnd a22 (some [yB false]) (e2 a0 (0:Int))
def V166x1(n:Nt):Bool→List UInt8→Rt:=fun x0 x1=>n [yB x0,yT x1]
def aGB:=V166x1 (xD lE e [1,0,1,0] aAp (q166x1 c e))
def B166x2(c:TC0)(k3:Bool→Int→List UInt8→Rt)(a0:List UInt8)(a3:Int):Rt:=
 cnd (decide (a3<(List.length a0:Int))) (ob (idx a0 a3) fun v0=>
 cnd (decide ((v0.toNat:Int)<(97:Int))) (cnd (decide ((v0.toNat:Int)<(48:Int))) (k3 (!decide ((v0.toNat:Int)=(45:Int))) a3 a0) (cnd (decide ((57:Int)<(v0.toNat:Int))) (k3 (!decide ((v0.toNat:Int)=(45:Int))) a3 a0) (k3 false a3 a0))) (cnd (decide ((122:Int)<(v0.toNat:Int))) (cnd (decide ((v0.toNat:Int)<(48:Int))) (k3 (!decide ((v0.toNat:Int)=(45:Int))) a3 a0) (cnd (decide ((57:Int)<(v0.toNat:Int))) (k3 (!decide ((v0.toNat:Int)=(45:Int))) a3 a0) (k3 false a3 a0))) (k3 false a3 a0))) (some [yB true])
def yK(n:Nt):List UInt8→Int→Rt:=fun x0 x1=>n [yT x0,yI x1]
def X166x2:=yK (xE lE e [1,1,0,1,0,0] nS (aBs c e))
def B166x3(c:TC0)(n2:List UInt8→Int→Rt)(a49:Bool)(a3:Int)(a0:List UInt8):Rt:=
 cnd a49 (some [yB false]) (n2 a0 (IntKind.i64.wrap (a3+(1:Int))))
def V166x3(n:Nt):Bool→Int→List UInt8→Rt:=fun x0 x1 x2=>n [yB x0,yI x1,yT x2]
def aGA(n2:Nt):=V166x3 (xD lE e [1,1,0,1,0,0,1,0,0,1,1,0] aAo (q166x6 c e n2))
theorem s166x0:V166x0 (xF lE c e)=B166x0 c (aGB c e):=by kernel_rfl
theorem s166x1:V166x1 (xA lE c e [1,0,1,0] aAp (q166x1 c e))=B166x1 c (X166x2 c e):=by kernel_rfl
theorem s166x2(n2:Nt):yK (xA lE c e [1,1,0,1,0,0] nS (lpK U0 nS n2 (aBs c e)))=B166x2 c (aGA c e n2):=by kernel_rfl
theorem s166x3(n2:Nt):V166x3 (xA lE c e [1,1,0,1,0,0,1,0,0,1,1,0] aAo (q166x6 c e n2))=B166x3 c (yK n2):=by kernel_rfl
def J166x3(c:TC0)(L:Nat)(n2:List UInt8→Int→Rt):Bool→Int→List UInt8→Rt:=B166x3 c n2
theorem j166x3(n2:Nt):aGA c (cu c L) n2=J166x3 c L (yK n2):=by rw[aGA,aV,s166x3];rfl
def aCC(c:TC0)(L:Nat):Nat→List UInt8→Int→Rt
 |0=>fun _ _=>none
 |n+1=>B166x2 c (J166x3 c L (aCC c L n))
theorem u166x2(n:Nat):yK (xL lE c L [1,1,0,1,0,0] nS (aBs c (cu c L)) n)=aCC c L n:=by
 induction n with
 |zero=>rfl
 |succ n ih=>rw[kU,s166x2];simp only[j166x3,ih];rfl
theorem w166x2:X166x2 c (cu c L)=aCC c L L:=u166x2 c L L
def J166x1(c:TC0)(L:Nat):Bool→List UInt8→Rt:=B166x1 c (aCC c L L)
theorem j166x1:aGB c (cu c L)=J166x1 c L:=by rw[aGB,aV,s166x1];simp only[w166x2];rfl
def F166(c:TC0)(L:Nat):List UInt8→Rt:=B166x0 c (J166x1 c L)
theorem e166:V166x0 (xF lE c (cu c L))=F166 c L:=by rw[s166x0];simp only[j166x1];rfl
theorem c166(a0:List UInt8)(L n:Nat):CTp L (n+1) 166 [yT a0]=F166 (CTp L n) L a0:=by rw[←e166];exact cg (x:=lE) (by kernel_rfl) (by kernel_rfl) L n _
end
end Go.TV
namespace Go.TV
open Go.AI Go.PI Go.Proofs
def blI(x:Int):Bool:=decide (x=32)||decide (x=9)||decide (x=10)||decide (x=13)
def csI(x:Int):Bool:=decide (33≤x)&&decide (x≤126)&& !decide (x=40)&& !decide (x=41)&& !decide (x=39)&& !decide (x=34)&& !decide (x=59)&& !decide (x=124)&& !decide (x=58)
def u8(x:UInt8):Int:=(x.toNat:Int)
theorem Bl_ok(x:Int)(L n:Nat):CTp L (n+1) 129 [⟨.int .u8,x⟩]=some [yB (blI x)]:=by
 rw[c129];simp only[F129,aHq,aG9,aHp,blI];generalize decide (x=32)=a,decide (x=9)=b,decide (x=10)=d,decide (x=13)=e;cases a<;>cases b<;>cases d<;>cases e<;>rfl
theorem Cs_ok(x:Int)(L n:Nat):CTp L (n+1) 133 [⟨.int .u8,x⟩]=some [yB (csI x)]:=by
 rw[c133];simp only[F133,aHl,aG7,aHk,csI];generalize decide (33≤x)=a,decide (x≤126)=b,decide (x=40)=d,decide (x=41)=e,decide (x=39)=f,decide (x=34)=g,decide (x=59)=h,decide (x=124)=i,decide (x=58)=j;cases a
 ·rfl
 cases b
 ·rfl
 cases d
 case true=>rfl
 cases e
 case true=>rfl
 cases f
 case true=>rfl
 cases g
 case true=>rfl
 cases h
 case true=>rfl
 cases i
 case true=>rfl
 cases j<;>rfl
theorem has_no{s:List UInt8}{k:Nat}{a b:Int}(hb:s.length<1000000000)(hk:k≤s.length)(h: ∀x,s[k]?=some x→u8 x≠a)(L n:Nat):CTp L (n+1) 130 [yT s,yI (k:Int),⟨.int .u8,a⟩,⟨.int .u8,b⟩]=some [yB false]:=by
 rw[c130];have e0:decide ((0:Int)≤(k:Int))=true:=by simp
 simp only[F130,aHo,aG8,aHn,e0,aQ];cases h1:decide (IntKind.i64.wrap ((k:Int)+1)<(s.length:Int))with
 |false=>rfl
 |true=>
  rw[aQ,bF];cases h2:s[k]? with
  |none=>
   exfalso;have:=List.getElem?_eq_none_iff.1 h2;simp only[djE]at h1;rw[gC (by omega)]at h1
   omega
  |some x=>
   have:=h x h2;have e1:decide ((x.toNat:Int)=a)=false:=by simpa [u8]using this
   rw[eR,e1];rfl
theorem Wd_loop{c:TC0}{L:Nat}{s r:List UInt8}(hc: ∀x,c 133 [⟨.int .u8,x⟩]=some [yB (csI x)])(hb:s.length<1000000000)(hr: ∀y,r.head?=some y→csI (u8 y)=false):
    ∀(w:List UInt8) (k m:Nat),s.drop k=w++r→w.length<m→(∀x∈w,csI (u8 x)=true)→qZ c L m s (k:Int)=some [yI ((k+w.length:Nat):Int)]:=by
 intro w;induction w with
 |nil=>
  intro k m h1 h2 _;obtain⟨m,rfl⟩: ∃m',m=m'+1:=⟨m-1,by simp at h2;omega⟩
  rw[qZ,aCR];rw[nlA]at h1;cases r with
  |nil=>
   have e1:=cU h1;have e3:decide ((k:Int)<(s.length:Int))=false:=by simp;omega
   rw[e3,aI,yU,yX,aI];rfl
  |cons y r=>
   obtain⟨a1,a2,a3⟩:=cB h1;have e3:decide ((k:Int)<(s.length:Int))=true:=by simp;omega
   have e4:csI (y.toNat:Int)=false:=hr y rfl;rw[e3,aQ,bF,a1,eR,hc,bT,yU,yX,e4,aI];rfl
 |cons x w ih=>
  intro k m h1 h2 h3;obtain⟨m,rfl⟩: ∃m',m=m'+1:=⟨m-1,by simp at h2;omega⟩
  rw[qZ,aCR];obtain⟨a1,a2,a3⟩:=cB h1;have e3:decide ((k:Int)<(s.length:Int))=true:=by simp;omega
  have e4:csI (x.toNat:Int)=true:=h3 x (mhE ..);rw[e3,aQ,bF,a1,eR,hc,bT,yU,yX,e4,aQ,gC (by omega)]
  rw[ih (k+1) m a3 (by simp at h2;omega) fun z hz=>h3 z (mtE _ hz)]
  simp only[lcS];congr 4;omega
theorem Wd_ok{s w r:List UInt8}{k L n:Nat}(hb:s.length<1000000000)(hL:s.length<L)(h:s.drop k=w++r)(hw: ∀x∈w,csI (u8 x)=true)(hr: ∀y,r.head?=some y→csI (u8 y)=false):
    CTp L (n+2) 134 [yT s,yI (k:Int)]=some [yI ((k+w.length:Nat):Int)]:=by
 have:=congrArg List.length h;simp at this;show CTp L (n+1+1) 134 _=_;rw[c134,F134,aHj];exact Wd_loop (fun x=>Cs_ok x L n) hb hr w k L h (by omega) hw
theorem Sk_loop{c:TC0}{L:Nat}{s r:List UInt8}(hc: ∀x,c 129 [⟨.int .u8,x⟩]=some [yB (blI x)])
    (hh: ∀k:Nat,k≤s.length→(∀x,s[k]?=some x→u8 x≠35)→c 130 [yT s,yI (k:Int),⟨.int .u8,(35:Int)⟩,⟨.int .u8,(124:Int)⟩]=some [yB false])
    (hb:s.length<1000000000) (hr: ∀y,r.head?=some y→blI (u8 y)=false∧u8 y≠59∧u8 y≠35):
    ∀(w:List UInt8) (k m:Nat),s.drop k=w++r→w.length<m→(∀x∈w,blI (u8 x)=true)→mU c L m s (k:Int)=some [yI ((k+w.length:Nat):Int),yB true]:=by
 intro w;induction w with
 |nil=>
  intro k m h1 h2 _;obtain⟨m,rfl⟩: ∃m',m=m'+1:=⟨m-1,by simp at h2;omega⟩
  rw[mU,aCS];rw[nlA]at h1;cases r with
  |nil=>
   have e1:=cU h1;have e3:decide ((k:Int)<(s.length:Int))=false:=by simp;omega
   rw[e3,aI];rfl
  |cons y r=>
   obtain⟨a1,a2,a3⟩:=cB h1;have e3:decide ((k:Int)<(s.length:Int))=true:=by simp;omega
   obtain⟨e4,e5,e6⟩:=hr y rfl;have e4:blI (y.toNat:Int)=false:=e4;have e7:decide ((y.toNat:Int)=59)=false:=by simpa [u8]using e5
   have h8:=hh k (by omega) fun x hx=>by rw[a1]at hx;cases hx;exact e6
   rw[e3,aQ,bF,a1,eR,hc,bT,e4,aI,eR,e7,aI,h8,bT,aI];rfl
 |cons x w ih=>
  intro k m h1 h2 h3;obtain⟨m,rfl⟩: ∃m',m=m'+1:=⟨m-1,by simp at h2;omega⟩
  rw[mU,aCS];obtain⟨a1,a2,a3⟩:=cB h1;have e3:decide ((k:Int)<(s.length:Int))=true:=by simp;omega
  have e4:blI (x.toNat:Int)=true:=h3 x (mhE ..);rw[e3,aQ,bF,a1,eR,hc,bT,e4,aQ,gC (by omega)]
  rw[ih (k+1) m a3 (by simp at h2;omega) fun z hz=>h3 z (mtE _ hz)]
  simp only[lcS];congr 4;omega
theorem Sk_ok{s w r:List UInt8}{k L n:Nat}(hb:s.length<1000000000)(hL:s.length<L)(h:s.drop k=w++r)(hw: ∀x∈w,blI (u8 x)=true)(hr: ∀y,r.head?=some y→blI (u8 y)=false∧u8 y≠59∧u8 y≠35):
    CTp L (n+2) 101 [yT s,yI (k:Int)]=some [yI ((k+w.length:Nat):Int),yB true]:=by
 have:=congrArg List.length h;simp at this;show CTp L (n+1+1) 101 _=_;rw[c101,F101,aHs];exact Sk_loop (fun x=>Bl_ok x L n) (fun k h6 hk=>has_no hb h6 hk L n) hb hr w k L h (by omega) hw
end Go.TV
namespace Go.TV
open Go.AI Go.PI Go.Proofs
set_option maxRecDepth 20000
noncomputable section
variable(c:TC0)(e:Cu)(L:Nat)
def aBz(c:TC0)(e:Cu):Kt:=xK iW
def q102x1(c:TC0)(e:Cu):Kt:=xT iW c e [1,1,1,1] (aBz c e)
def vO(c:TC0)(e:Cu):Kt:=eA U0 0 (q102x1 c e)
def q102x3(c:TC0)(e:Cu):Kt:=xT iW c e [1,1,1,0,1,0,1,1,1,1,1,1,1,0,1,1,1] (vO c e)
def q102x4(c:TC0)(e:Cu):Kt:=xT iW c e [1,1,1,1,1,1,1,1,1] (aBz c e)
def q102x5(c:TC0)(e:Cu):Kt:=eA U0 1 (q102x4 c e)
def yY(c:TC0)(k1:Bool→Int→G.K→G.X→G.K→G.X→Rt)(k2:Int→G.K→G.X→G.K→G.X→Rt)(k3:Int→G.K→G.X→G.K→G.X→Rt)(k4:Bool→Int→Int→G.K→G.X→G.K→G.X→Rt)(a0:List UInt8)(a1:Int):Rt:=
 ob (idx a0 a1) fun v0=>
 cnd (decide ((v0.toNat:Int)=(40:Int))) (some [yR 19 (G.K.mk (1:Int) a1 ([]:List UInt8) ([]:List UInt8) ([]:List UInt8)),yI (IntKind.i64.wrap (a1+(1:Int))),yR 18 (G.X.mk (0:Int) (0:Int))]) (cnd (decide ((v0.toNat:Int)=(41:Int))) (some [yR 19 (G.K.mk (2:Int) a1 ([]:List UInt8) ([]:List UInt8) ([]:List UInt8)),yI (IntKind.i64.wrap (a1+(1:Int))),yR 18 (G.X.mk (0:Int) (0:Int))]) (cnd (decide ((v0.toNat:Int)=(39:Int))) (some [yR 19 (G.K.mk (4:Int) a1 ([]:List UInt8) ([]:List UInt8) ([]:List UInt8)),yI (IntKind.i64.wrap (a1+(1:Int))),yR 18 (G.X.mk (0:Int) (0:Int))]) (cnd (decide ((v0.toNat:Int)=(34:Int))) (obL [.str,i6,.rc 18] (c 131 [yT a0,yI (IntKind.i64.wrap (a1+(1:Int))),⟨(.int .u8),(34:Int)⟩]) fun(r1:List UInt8×Int×G.X×Unit)=>
 cnd (decide (r1.2.2.1.err=(0:Int))) (k1 (decide ((200:Int)<(List.length r1.1:Int))) r1.2.1 (G.K.mk (7:Int) a1 ([]:List UInt8) r1.1 ([]:List UInt8)) r1.2.2.1 (G.K.mk (0:Int) (0:Int) ([]:List UInt8) ([]:List UInt8) ([]:List UInt8)) (G.X.mk (0:Int) (0:Int))) (k1 false r1.2.1 (G.K.mk (7:Int) a1 ([]:List UInt8) r1.1 ([]:List UInt8)) r1.2.2.1 (G.K.mk (0:Int) (0:Int) ([]:List UInt8) ([]:List UInt8) ([]:List UInt8)) (G.X.mk (0:Int) (0:Int)))) (cnd (decide ((v0.toNat:Int)=(124:Int))) (obL [.str,i6,.rc 18] (c 131 [yT a0,yI (IntKind.i64.wrap (a1+(1:Int))),⟨(.int .u8),(124:Int)⟩]) fun(r2:List UInt8×Int×G.X×Unit)=>
 cnd (decide (r2.2.2.1.err=(0:Int))) (obL [.rc 18] (c 132 [yR 19 (G.K.mk (6:Int) a1 ([]:List UInt8) r2.1 ([]:List UInt8)),yB true]) fun(r3:G.X×Unit)=>
 k2 r2.2.1 (G.K.mk (6:Int) a1 ([]:List UInt8) r2.1 ([]:List UInt8)) r3.1 (G.K.mk (0:Int) (0:Int) ([]:List UInt8) ([]:List UInt8) ([]:List UInt8)) (G.X.mk (0:Int) (0:Int))) (k2 r2.2.1 (G.K.mk (6:Int) a1 ([]:List UInt8) r2.1 ([]:List UInt8)) r2.2.2.1 (G.K.mk (0:Int) (0:Int) ([]:List UInt8) ([]:List UInt8) ([]:List UInt8)) (G.X.mk (0:Int) (0:Int)))) (obL [.bool] (c 133 [⟨(.int .u8),(v0.toNat:Int)⟩]) fun(r4:Bool×Unit)=>
 cnd (!r4.1) (obL [.rc 18] (c 81 [yI (12:Int),yI a1]) fun(r5:G.X×Unit)=>
 some [yR 19 (G.K.mk (0:Int) a1 ([]:List UInt8) ([]:List UInt8) ([]:List UInt8)),yI a1,yR 18 r5.1]) (obL [i6] (c 134 [yT a0,yI a1]) fun(r6:Int×Unit)=>
 ob (slc a0 a1 r6.1) fun v7=>
 obL [.bool] (c 130 [yT a0,yI r6.1,⟨(.int .u8),(58:Int)⟩,⟨(.int .u8),(58:Int)⟩]) fun(r8:Bool×Unit)=>
 cnd r8.1 (obL [.rc 19,i6,.rc 18] (c 135 [yT a0,yR 19 (G.K.mk (0:Int) a1 ([]:List UInt8) ([]:List UInt8) ([]:List UInt8)),yT v7,yI r6.1]) fun(r9:G.K×Int×G.X×Unit)=>
 some [yR 19 r9.1,yI r9.2.1,yR 18 r9.2.2.1]) (obL [.str,.str,.bool] (c 136 [yT v7]) fun(r10:List UInt8×List UInt8×Bool×Unit)=>
 cnd (decide (v7=([46]:List UInt8))) (k3 r6.1 (G.K.mk (3:Int) a1 ([]:List UInt8) ([]:List UInt8) ([]:List UInt8)) (G.X.mk (0:Int) (0:Int)) (G.K.mk (0:Int) (0:Int) ([]:List UInt8) ([]:List UInt8) ([]:List UInt8)) (G.X.mk (0:Int) (0:Int))) (cnd r10.2.2.1 (obL [.str] (c 137 [yT r10.2.1]) fun(r11:List UInt8×Unit)=>
 cnd (decide (r11.1=([48]:List UInt8))) (obL [.rc 18] (c 81 [yI (12:Int),yI a1]) fun(r12:G.X×Unit)=>
 some [yR 19 (G.K.mk (0:Int) a1 ([]:List UInt8) ([]:List UInt8) ([]:List UInt8)),yI r6.1,yR 18 r12.1]) (obL [.str] (c 137 [yT r10.1]) fun(r13:List UInt8×Unit)=>
 obL [.str] (c 137 [yT r10.2.1]) fun(r14:List UInt8×Unit)=>
 obL [.str,.str] (c 72 [yT r13.1,yT r14.1]) fun(r15:List UInt8×List UInt8×Unit)=>
 obL [i6] (c 138 [yT r15.1]) fun(r16:Int×Unit)=>
 cnd (decide ((100:Int)<r16.1)) (k4 true a1 r6.1 (G.K.mk (5:Int) a1 ([]:List UInt8) r15.1 r15.2.1) (G.X.mk (0:Int) (0:Int)) (G.K.mk (0:Int) (0:Int) ([]:List UInt8) ([]:List UInt8) ([]:List UInt8)) (G.X.mk (0:Int) (0:Int))) (obL [i6] (c 138 [yT r15.2.1]) fun(r17:Int×Unit)=>
 k4 (decide ((100:Int)<r17.1)) a1 r6.1 (G.K.mk (5:Int) a1 ([]:List UInt8) r15.1 r15.2.1) (G.X.mk (0:Int) (0:Int)) (G.K.mk (0:Int) (0:Int) ([]:List UInt8) ([]:List UInt8) ([]:List UInt8)) (G.X.mk (0:Int) (0:Int))))) (obL [.rc 18] (c 132 [yR 19 (G.K.mk (6:Int) a1 ([]:List UInt8) v7 ([]:List UInt8)),yB false]) fun(r18:G.X×Unit)=>
 k3 r6.1 (G.K.mk (6:Int) a1 ([]:List UInt8) v7 ([]:List UInt8)) r18.1 (G.K.mk (0:Int) (0:Int) ([]:List UInt8) ([]:List UInt8) ([]:List UInt8)) (G.X.mk (0:Int) (0:Int)))))))))))
def V102x0(n:Nt):List UInt8→Int→Rt:=fun x0 x1=>n [yT x0,yI x1]
def B102x1(c:TC0)(k5:Int→G.K→G.X→G.K→G.X→Rt)(a65:Bool)(a1:Int)(b107:G.K)(b108:G.X)(b104:G.K)(b106:G.X):Rt:=
 cnd a65 (obL [.rc 18] (c 81 [yI (2:Int),yI b107.pos]) fun(r0:G.X×Unit)=>
 k5 a1 b107 r0.1 b104 b106) (k5 a1 b107 b108 b104 b106)
def V102x1(n:Nt):Bool→Int→G.K→G.X→G.K→G.X→Rt:=fun x0 x1 x2 x3 x4 x5=>n [yB x0,yI x1,yR 19 x2,yR 18 x3,yR 19 x4,yR 18 x5]
def aGT:=V102x1 (xD iW e [1,1,1,0,1,0,1,1,1,1,1,1,1,0,1,1,0,1,0] aAJ (q102x3 c e))
def B102x2(c:TC0)(a1:Int)(b107:G.K)(b108:G.X)(b104:G.K)(b106:G.X):Rt:=
 some [yR 19 b107,yI a1,yR 18 b108]
def V102x2(n:Nt):Int→G.K→G.X→G.K→G.X→Rt:=fun x0 x1 x2 x3 x4=>n [yI x0,yR 19 x1,yR 18 x2,yR 19 x3,yR 18 x4]
def aGS:=V102x2 (xD iW e [1,1,1,0,1,0,1,1,1,1,1,1,1,1,1,0,1,1,1,0] aAI (vO c e))
def B102x3(c:TC0)(a10:Int)(b107:G.K)(b108:G.X)(b104:G.K)(b106:G.X):Rt:=
 some [yR 19 b107,yI a10,yR 18 b108]
def V102x3(n:Nt):Int→G.K→G.X→G.K→G.X→Rt:=fun x0 x1 x2 x3 x4=>n [yI x0,yR 19 x1,yR 18 x2,yR 19 x3,yR 18 x4]
def aCB:=V102x3 (xD iW e [1,1,1,1,1,1,1,1,1,0] aAH (aBz c e))
def B102x4(c:TC0)(k3:Int→G.K→G.X→G.K→G.X→Rt)(a163:Bool)(a1:Int)(a10:Int)(b107:G.K)(b108:G.X)(b104:G.K)(b106:G.X):Rt:=
 cnd a163 (obL [.rc 18] (c 81 [yI (2:Int),yI a1]) fun(r0:G.X×Unit)=>
 some [yR 19 b107,yI a10,yR 18 r0.1]) (k3 a10 b107 b108 b104 b106)
def V102x4(n:Nt):Bool→Int→Int→G.K→G.X→G.K→G.X→Rt:=fun x0 x1 x2 x3 x4 x5 x6=>n [yB x0,yI x1,yI x2,yR 19 x3,yR 18 x4,yR 19 x5,yR 18 x6]
def aGR:=V102x4 (xD iW e [1,1,1,1,1,1,1,1,0,0,1,1,1,0,1,1,1,1,0] aAG (q102x5 c e))
def B102x5(c:TC0)(a1:Int)(b107:G.K)(b108:G.X)(b104:G.K)(b106:G.X):Rt:=
 some [yR 19 b107,yI a1,yR 18 b108]
def V102x5(n:Nt):Int→G.K→G.X→G.K→G.X→Rt:=fun x0 x1 x2 x3 x4=>n [yI x0,yR 19 x1,yR 18 x2,yR 19 x3,yR 18 x4]
def aGQ:=V102x5 (xD iW e [1,1,1,0,1,0,1,1,1,1,1,1,1,0,1,1,1,0] aAF (vO c e))
theorem s102x0:V102x0 (xF iW c e)=yY c (aGT c e) (aGS c e) (aCB c e) (aGR c e):=by kernel_rfl
theorem s102x1:V102x1 (xA iW c e [1,1,1,0,1,0,1,1,1,1,1,1,1,0,1,1,0,1,0] aAJ (q102x3 c e))=B102x1 c (aGQ c e):=by kernel_rfl
theorem s102x2:V102x2 (xA iW c e [1,1,1,0,1,0,1,1,1,1,1,1,1,1,1,0,1,1,1,0] aAI (vO c e))=B102x2 c:=by kernel_rfl
theorem s102x3:V102x3 (xA iW c e [1,1,1,1,1,1,1,1,1,0] aAH (aBz c e))=B102x3 c:=by kernel_rfl
theorem s102x4:V102x4 (xA iW c e [1,1,1,1,1,1,1,1,0,0,1,1,1,0,1,1,1,1,0] aAG (q102x5 c e))=B102x4 c (aCB c e):=by kernel_rfl
theorem s102x5:V102x5 (xA iW c e [1,1,1,0,1,0,1,1,1,1,1,1,1,0,1,1,1,0] aAF (vO c e))=B102x5 c:=by kernel_rfl
def J102x2(c:TC0)(L:Nat):Int→G.K→G.X→G.K→G.X→Rt:=B102x2 c
theorem j102x2:aGS c (cu c L)=J102x2 c L:=by rw[aGS,aV,s102x2];rfl
def aHb(c:TC0)(L:Nat):Int→G.K→G.X→G.K→G.X→Rt:=B102x3 c
theorem j102x3:aCB c (cu c L)=aHb c L:=by rw[aCB,aV,s102x3];rfl
def J102x4(c:TC0)(L:Nat):Bool→Int→Int→G.K→G.X→G.K→G.X→Rt:=B102x4 c (aHb c L)
theorem j102x4:aGR c (cu c L)=J102x4 c L:=by rw[aGR,aV,s102x4];simp only[j102x3];rfl
def J102x5(c:TC0)(L:Nat):Int→G.K→G.X→G.K→G.X→Rt:=B102x5 c
theorem j102x5:aGQ c (cu c L)=J102x5 c L:=by rw[aGQ,aV,s102x5];rfl
def J102x1(c:TC0)(L:Nat):Bool→Int→G.K→G.X→G.K→G.X→Rt:=B102x1 c (J102x5 c L)
theorem j102x1:aGT c (cu c L)=J102x1 c L:=by rw[aGT,aV,s102x1];simp only[j102x5];rfl
def F102(c:TC0)(L:Nat):List UInt8→Int→Rt:=yY c (J102x1 c L) (J102x2 c L) (aHb c L) (J102x4 c L)
theorem e102:V102x0 (xF iW c (cu c L))=F102 c L:=by rw[s102x0];simp only[j102x1,j102x2,j102x3,j102x4];rfl
theorem c102(a0:List UInt8)(a1:Int)(L n:Nat):CTp L (n+1) 102 [yT a0,yI a1]=F102 (CTp L n) L a0 a1:=by rw[←e102];exact cg (x:=iW) (by kernel_rfl) (by kernel_rfl) L n _
def aBy(c:TC0)(e:Cu):Kt:=xK iV
def q103x1(c:TC0)(e:Cu):Kt:=xT iV c e [1,1,1,1] (aBy c e)
def aBx(c:TC0)(e:Cu):Kt:=eA U0 0 (q103x1 c e)
def q103x3(c:TC0)(e:Cu)(n1:Nt):Kt:=lpK U0 nX n1 (aBx c e)
def q103x4(c:TC0)(e:Cu)(n1:Nt):Kt:=eA U0 1 (q103x3 c e n1)
def q103x5(c:TC0)(e:Cu)(n1:Nt):Kt:=xT iV c e [1,1,1,0,0,0,1,0,1] (q103x4 c e n1)
def q103x6(c:TC0)(e:Cu):Kt:=xT iV c e [1,1,1,1,0,1,1] (aBy c e)
def aEH(c:TC0)(e:Cu):Kt:=eA U0 3 (q103x6 c e)
def B103x0(c:TC0)(e1:Int→List G.O→G.P→G.O→G.O→G.X→Rt)(a1:Int)(b0:G.P):Rt:=
 obL [.rc 2] (c 42 []) fun(r0:G.O×Unit)=>
 e1 a1 ([]:List G.O) b0 r0.1 (G.O.mk (0:Int) ([]:List UInt8) ([]:List UInt8) (G.Y.mk ([]:List UInt8) ([]:List UInt8)) ([]:List UInt8) ([]:List G.O)) (G.X.mk (0:Int) (0:Int))
def V103x0(n:Nt):Int→G.P→Rt:=fun x0 x1=>n [yI x0,yR 20 x1]
def B103x1(c:TC0)(k2:Bool→List G.O→Int→G.P→G.O→G.O→G.X→Rt)(k3:List G.O→G.P→G.O→G.O→G.X→Rt)(a1:Int)(a6:List G.O)(b0:G.P)(b107:G.O)(b104:G.O)(b105:G.X):Rt:=
 ob (idx b0.t b0.pos) fun v0=>
 cnd (!decide (v0.kind=(2:Int))) (ob (idx b0.t b0.pos) fun v1=>
 cnd (decide (v1.kind=(3:Int))) (k2 (decide ((0:Int)<(List.length a6:Int))) a6 a1 b0 b107 b104 b105) (k2 false a6 a1 b0 b107 b104 b105)) (k3 a6 b0 b107 b104 b105)
def yP(n:Nt):Int→List G.O→G.P→G.O→G.O→G.X→Rt:=fun x0 x1 x2 x3 x4 x5=>n [yI x0,yS 2 x1,yR 20 x2,yR 2 x3,yR 2 x4,yR 18 x5]
def X103x1:=yP (xE iV e [1,1,1,0,0,0] nX (aBx c e))
def B103x2(c:TC0)(k3:List G.O→G.P→G.O→G.O→G.X→Rt)(n1:Int→List G.O→G.P→G.O→G.O→G.X→Rt)(a43:Bool)(a6:List G.O)(a1:Int)(b0:G.P)(b107:G.O)(b104:G.O)(b105:G.X):Rt:=
 cnd a43 (obL [.rc 2,.rc 18,.rc 20] (c 82 [yI a1,yR 20 (G.P.mk b0.l b0.current b0.t (IntKind.i64.wrap (b0.pos+(1:Int))))]) fun(r0:G.O×G.X×G.P×Unit)=>
 cnd (!decide (r0.2.1.err=(0:Int))) (some [yR 2 (G.O.mk (0:Int) ([]:List UInt8) ([]:List UInt8) (G.Y.mk ([]:List UInt8) ([]:List UInt8)) ([]:List UInt8) ([]:List G.O)),yR 18 r0.2.1,yR 20 r0.2.2.1]) (ob (idx r0.2.2.1.t r0.2.2.1.pos) fun v1=>
 cnd (decide (v1.kind=(2:Int))) (k3 a6 r0.2.2.1 r0.1 b104 b105) (cnd (decide (v1.kind=(0:Int))) (obL [.rc 18] (c 81 [yI (11:Int),yI v1.pos]) fun(r2:G.X×Unit)=>
 some [yR 2 (G.O.mk (0:Int) ([]:List UInt8) ([]:List UInt8) (G.Y.mk ([]:List UInt8) ([]:List UInt8)) ([]:List UInt8) ([]:List G.O)),yR 18 r2.1,yR 20 r0.2.2.1]) (obL [.rc 18] (c 81 [yI (12:Int),yI v1.pos]) fun(r3:G.X×Unit)=>
 some [yR 2 (G.O.mk (0:Int) ([]:List UInt8) ([]:List UInt8) (G.Y.mk ([]:List UInt8) ([]:List UInt8)) ([]:List UInt8) ([]:List G.O)),yR 18 r3.1,yR 20 r0.2.2.1])))) (obL [.rc 2,.rc 18,.rc 20] (c 82 [yI a1,yR 20 b0]) fun(r4:G.O×G.X×G.P×Unit)=>
 cnd (!decide (r4.2.1.err=(0:Int))) (some [yR 2 (G.O.mk (0:Int) ([]:List UInt8) ([]:List UInt8) (G.Y.mk ([]:List UInt8) ([]:List UInt8)) ([]:List UInt8) ([]:List G.O)),yR 18 r4.2.1,yR 20 r4.2.2.1]) (chk (Nat.ble ((List.length a6+List.length ([r4.1]:List G.O))*112) 1073741824)<|
 n1 a1 (a6++([r4.1]:List G.O)) r4.2.2.1 b107 b104 b105))
def V103x2(n:Nt):Bool→List G.O→Int→G.P→G.O→G.O→G.X→Rt:=fun x0 x1 x2 x3 x4 x5 x6=>n [yB x0,yS 2 x1,yI x2,yR 20 x3,yR 2 x4,yR 2 x5,yR 18 x6]
def aGP(n1:Nt):=V103x2 (xD iV e [1,1,1,0,0,0,1,0,0,1,0] aAE (q103x5 c e n1))
def B103x3(c:TC0)(e4:List G.O→Int→G.P→G.O→G.O→G.X→Rt)(a6:List G.O)(b0:G.P)(b107:G.O)(b104:G.O)(b105:G.X):Rt:=
 e4 a6 (IntKind.i64.wrap ((List.length a6:Int)-(1:Int))) (G.P.mk b0.l b0.current b0.t (IntKind.i64.wrap (b0.pos+(1:Int)))) b107 b104 b105
def V103x3(n:Nt):List G.O→G.P→G.O→G.O→G.X→Rt:=fun x0 x1 x2 x3 x4=>n [yS 2 x0,yR 20 x1,yR 2 x2,yR 2 x3,yR 18 x4]
def aCA:=V103x3 (xD iV e [1,1,1,1,0] aAD (aBy c e))
def B103x4(c:TC0)(n4:List G.O→Int→G.P→G.O→G.O→G.X→Rt)(a6:List G.O)(a13:Int)(b0:G.P)(b107:G.O)(b104:G.O)(b105:G.X):Rt:=
 cnd (decide ((0:Int)≤a13)) (ob (idx a6 a13) fun v0=>
 obL [.rc 2] (c 48 [yR 2 v0,yR 2 b107]) fun(r1:G.O×Unit)=>
 n4 a6 (IntKind.i64.wrap (a13-(1:Int))) b0 r1.1 b104 b105) (some [yR 2 b107,yR 18 (G.X.mk (0:Int) (0:Int)),yR 20 b0])
def aCN(n:Nt):List G.O→Int→G.P→G.O→G.O→G.X→Rt:=fun x0 x1 x2 x3 x4 x5=>n [yS 2 x0,yI x1,yR 20 x2,yR 2 x3,yR 2 x4,yR 18 x5]
def X103x4:=aCN (xE iV e [1,1,1,1,0,1,0,1,0,0] qP (aEH c e))
theorem s103x0:V103x0 (xF iV c e)=B103x0 c (X103x1 c e):=by kernel_rfl
theorem s103x1(n1:Nt):yP (xA iV c e [1,1,1,0,0,0] nX (lpK U0 nX n1 (aBx c e)))=B103x1 c (aGP c e n1) (aCA c e):=by kernel_rfl
theorem s103x2(n1:Nt):V103x2 (xA iV c e [1,1,1,0,0,0,1,0,0,1,0] aAE (q103x5 c e n1))=B103x2 c (aCA c e) (yP n1):=by kernel_rfl
theorem s103x3:V103x3 (xA iV c e [1,1,1,1,0] aAD (aBy c e))=B103x3 c (X103x4 c e):=by kernel_rfl
theorem s103x4(n4:Nt):aCN (xA iV c e [1,1,1,1,0,1,0,1,0,0] qP (lpK U0 qP n4 (aEH c e)))=B103x4 c (aCN n4):=by kernel_rfl
def aCH(c:TC0)(L:Nat):Nat→List G.O→Int→G.P→G.O→G.O→G.X→Rt
 |0=>fun _ _ _ _ _ _=>none
 |n+1=>B103x4 c (aCH c L n)
theorem u103x4(n:Nat):aCN (xL iV c L [1,1,1,1,0,1,0,1,0,0] qP (aEH c (cu c L)) n)=aCH c L n:=by
 induction n with
 |zero=>rfl
 |succ n ih=>rw[kU,s103x4];simp only[ih];rfl
theorem w103x4:X103x4 c (cu c L)=aCH c L L:=u103x4 c L L
def aHa(c:TC0)(L:Nat):List G.O→G.P→G.O→G.O→G.X→Rt:=B103x3 c (aCH c L L)
theorem j103x3:aCA c (cu c L)=aHa c L:=by rw[aCA,aV,s103x3];simp only[w103x4];rfl
def J103x2(c:TC0)(L:Nat)(n1:Int→List G.O→G.P→G.O→G.O→G.X→Rt):Bool→List G.O→Int→G.P→G.O→G.O→G.X→Rt:=B103x2 c (aHa c L) n1
theorem j103x2(n1:Nt):aGP c (cu c L) n1=J103x2 c L (yP n1):=by rw[aGP,aV,s103x2];simp only[j103x3];rfl
def aCI(c:TC0)(L:Nat):Nat→Int→List G.O→G.P→G.O→G.O→G.X→Rt
 |0=>fun _ _ _ _ _ _=>none
 |n+1=>B103x1 c (J103x2 c L (aCI c L n)) (aHa c L)
theorem u103x1(n:Nat):yP (xL iV c L [1,1,1,0,0,0] nX (aBx c (cu c L)) n)=aCI c L n:=by
 induction n with
 |zero=>rfl
 |succ n ih=>rw[kU,s103x1];simp only[j103x2,j103x3,ih];rfl
theorem w103x1:X103x1 c (cu c L)=aCI c L L:=u103x1 c L L
def F103(c:TC0)(L:Nat):Int→G.P→Rt:=B103x0 c (aCI c L L)
theorem e103:V103x0 (xF iV c (cu c L))=F103 c L:=by rw[s103x0];simp only[w103x1];rfl
theorem c103(a1:Int)(b0:G.P)(L n:Nat):CTp L (n+1) 103 [yI a1,yR 20 b0]=F103 (CTp L n) L a1 b0:=by rw[←e103];exact cg (x:=iV) (by kernel_rfl) (by kernel_rfl) L n _
def q104x0(c:TC0)(e:Cu):Kt:=xK pF
def q104x1(c:TC0)(e:Cu):Kt:=xT pF c e [1,1,1,1] (q104x0 c e)
def q104x2(c:TC0)(e:Cu):Kt:=xT pF c e [1,1,1,1,1] (q104x0 c e)
def aEG(c:TC0)(e:Cu):Kt:=eA U0 0 (q104x2 c e)
def B104x0(c:TC0)(k1:Bool→List UInt8→List UInt8→G.A→G.Y→Rt)(a0:List G.A)(a1:List UInt8)(a2:List UInt8):Rt:=
 obL [.rc 5,.bool] (c 139 [yS 5 a0,yT a1]) fun(r0:G.A×Bool×Unit)=>
 cnd (!r0.2.1) (some [yR 1 (G.Y.mk ([]:List UInt8) ([]:List UInt8)),yI (13:Int)]) (cnd (decide ((List.length a2:Int)<(1:Int))) (k1 true a1 a2 r0.1 (G.Y.mk ([]:List UInt8) ([]:List UInt8))) (k1 (decide ((40:Int)<(List.length a2:Int))) a1 a2 r0.1 (G.Y.mk ([]:List UInt8) ([]:List UInt8))))
def V104x0(n:Nt):List G.A→List UInt8→List UInt8→Rt:=fun x0 x1 x2=>n [yS 5 x0,yT x1,yT x2]
def B104x1(c:TC0)(e2:Int→List UInt8→List UInt8→G.A→G.Y→Rt)(a27:Bool)(a1:List UInt8)(a2:List UInt8)(b108:G.A)(b106:G.Y):Rt:=
 cnd a27 (some [yR 1 (G.Y.mk ([]:List UInt8) ([]:List UInt8)),yI (3:Int)]) (e2 (0:Int) a1 a2 b108 b106)
def V104x1(n:Nt):Bool→List UInt8→List UInt8→G.A→G.Y→Rt:=fun x0 x1 x2 x3 x4=>n [yB x0,yT x1,yT x2,yR 5 x3,yR 1 x4]
def aGO:=V104x1 (xD pF e [1,1,1,0,1,0] aAC (q104x1 c e))
def B104x2(c:TC0)(n2:Int→List UInt8→List UInt8→G.A→G.Y→Rt)(a10:Int)(a1:List UInt8)(a2:List UInt8)(b108:G.A)(b106:G.Y):Rt:=
 cnd (decide (a10<(List.length b108.imports:Int))) (ob (idx b108.imports a10) fun v0=>
 cnd (decide (v0.name=a2)) (ob (idx b108.imports a10) fun v1=>
 some [yR 1 v1,yI (0:Int)]) (n2 (IntKind.i64.wrap (a10+(1:Int))) a1 a2 b108 b106)) (some [yR 1 (G.Y.mk a1 a2),yI (0:Int)])
def aCM(n:Nt):Int→List UInt8→List UInt8→G.A→G.Y→Rt:=fun x0 x1 x2 x3 x4=>n [yI x0,yT x1,yT x2,yR 5 x3,yR 1 x4]
def X104x2:=aCM (xE pF e [1,1,1,1,0,1,0,0] qO (aEG c e))
theorem s104x0:V104x0 (xF pF c e)=B104x0 c (aGO c e):=by kernel_rfl
theorem s104x1:V104x1 (xA pF c e [1,1,1,0,1,0] aAC (q104x1 c e))=B104x1 c (X104x2 c e):=by kernel_rfl
theorem s104x2(n2:Nt):aCM (xA pF c e [1,1,1,1,0,1,0,0] qO (lpK U0 qO n2 (aEG c e)))=B104x2 c (aCM n2):=by kernel_rfl
def aCG(c:TC0)(L:Nat):Nat→Int→List UInt8→List UInt8→G.A→G.Y→Rt
 |0=>fun _ _ _ _ _=>none
 |n+1=>B104x2 c (aCG c L n)
theorem u104x2(n:Nat):aCM (xL pF c L [1,1,1,1,0,1,0,0] qO (aEG c (cu c L)) n)=aCG c L n:=by
 induction n with
 |zero=>rfl
 |succ n ih=>rw[kU,s104x2];simp only[ih];rfl
theorem w104x2:X104x2 c (cu c L)=aCG c L L:=u104x2 c L L
def J104x1(c:TC0)(L:Nat):Bool→List UInt8→List UInt8→G.A→G.Y→Rt:=B104x1 c (aCG c L L)
theorem j104x1:aGO c (cu c L)=J104x1 c L:=by rw[aGO,aV,s104x1];simp only[w104x2];rfl
def F104(c:TC0)(L:Nat):List G.A→List UInt8→List UInt8→Rt:=B104x0 c (J104x1 c L)
theorem e104:V104x0 (xF pF c (cu c L))=F104 c L:=by rw[s104x0];simp only[j104x1];rfl
theorem c104(a0:List G.A)(a1:List UInt8)(a2:List UInt8)(L n:Nat):CTp L (n+1) 104 [yS 5 a0,yT a1,yT a2]=F104 (CTp L n) L a0 a1 a2:=by rw[←e104];exact cg (x:=pF) (by kernel_rfl) (by kernel_rfl) L n _
def q105x0(c:TC0)(e:Cu):Kt:=xK wP
def q105x1(c:TC0)(e:Cu):Kt:=xT wP c e [1,1] (q105x0 c e)
def B105x0(c:TC0)(k1:Bool→Int→G.O→Rt)(a0:G.O)(a1:Int):Rt:=
 cnd (!decide ((List.length a0.pair:Int)=(2:Int))) (k1 true a1 a0) (k1 (decide (a1≤(1:Int))) a1 a0)
def V105x0(n:Nt):G.O→Int→Rt:=fun x0 x1=>n [yR 2 x0,yI x1]
def B105x1(c:TC0)(a13:Bool)(a1:Int)(b102:G.O):Rt:=
 cnd a13 (some [yI (1:Int)]) (ob (idx b102.pair (0:Int)) fun v0=>
 obL [i6] (c 105 [yR 2 v0,yI (IntKind.i64.wrap (a1-(1:Int)))]) fun(r1:Int×Unit)=>
 cnd (decide (a1≤(IntKind.i64.wrap ((1:Int)+r1.1)))) (some [yI a1]) (ob (idx b102.pair (1:Int)) fun v2=>
 obL [i6] (c 105 [yR 2 v2,yI (IntKind.i64.wrap (a1-(IntKind.i64.wrap ((1:Int)+r1.1))))]) fun(r3:Int×Unit)=>
 some [yI (IntKind.i64.wrap ((IntKind.i64.wrap ((1:Int)+r1.1))+r3.1))]))
def V105x1(n:Nt):Bool→Int→G.O→Rt:=fun x0 x1 x2=>n [yB x0,yI x1,yR 2 x2]
def aGN:=V105x1 (xD wP e [1,0,1,0] aAB (q105x1 c e))
theorem s105x0:V105x0 (xF wP c e)=B105x0 c (aGN c e):=by kernel_rfl
theorem s105x1:V105x1 (xA wP c e [1,0,1,0] aAB (q105x1 c e))=B105x1 c:=by kernel_rfl
def J105x1(c:TC0)(L:Nat):Bool→Int→G.O→Rt:=B105x1 c
theorem j105x1:aGN c (cu c L)=J105x1 c L:=by rw[aGN,aV,s105x1];rfl
def F105(c:TC0)(L:Nat):G.O→Int→Rt:=B105x0 c (J105x1 c L)
theorem e105:V105x0 (xF wP c (cu c L))=F105 c L:=by rw[s105x0];simp only[j105x1];rfl
theorem c105(a0:G.O)(a1:Int)(L n:Nat):CTp L (n+1) 105 [yR 2 a0,yI a1]=F105 (CTp L n) L a0 a1:=by rw[←e105];exact cg (x:=wP) (by kernel_rfl) (by kernel_rfl) L n _
def q112x0(c:TC0)(e:Cu):Kt:=xK oZ
def q112x1(c:TC0)(e:Cu):Kt:=xT oZ c e [1,1] (q112x0 c e)
def aBw(c:TC0)(e:Cu):Kt:=eA U0 0 (q112x1 c e)
def q112x3(c:TC0)(e:Cu)(n1:Nt):Kt:=lpK U0 nW n1 (aBw c e)
def q112x4(c:TC0)(e:Cu)(n1:Nt):Kt:=xT oZ c e [1,0,1,0,0,1,1] (q112x3 c e n1)
def q112x5(c:TC0)(e:Cu)(n1:Nt):Kt:=eA U0 1 (q112x4 c e n1)
def B112x0(c:TC0)(e1:List G.E→Int→G.Y→G.M→Rt)(a0:List G.E)(a1:G.Y):Rt:=
 e1 a0 (0:Int) a1 (G.M.mk (G.Y.mk ([]:List UInt8) ([]:List UInt8)) ([]:List G.Y) false (G.T.mk (0:Int) (G.Y.mk ([]:List UInt8) ([]:List UInt8)) (G.O.mk (0:Int) ([]:List UInt8) ([]:List UInt8) (G.Y.mk ([]:List UInt8) ([]:List UInt8)) ([]:List UInt8) ([]:List G.O)) ([]:List G.T)))
def V112x0(n:Nt):List G.E→G.Y→Rt:=fun x0 x1=>n [yS 15 x0,yR 1 x1]
def B112x1(c:TC0)(k2:Bool→Int→List G.E→G.Y→G.M→Rt)(a0:List G.E)(a6:Int)(b103:G.Y)(b104:G.M):Rt:=
 cnd (decide (a6<(List.length a0:Int))) (ob (idx a0 a6) fun v0=>
 cnd (decide (v0.kind=(2:Int))) (ob (idx a0 a6) fun v1=>
 k2 (decide (v1.mac.name=b103)) a6 a0 b103 b104) (k2 false a6 a0 b103 b104)) (some [yR 6 (G.M.mk (G.Y.mk ([]:List UInt8) ([]:List UInt8)) ([]:List G.Y) false (G.T.mk (0:Int) (G.Y.mk ([]:List UInt8) ([]:List UInt8)) (G.O.mk (0:Int) ([]:List UInt8) ([]:List UInt8) (G.Y.mk ([]:List UInt8) ([]:List UInt8)) ([]:List UInt8) ([]:List G.O)) ([]:List G.T))),yB false])
def yO(n:Nt):List G.E→Int→G.Y→G.M→Rt:=fun x0 x1 x2 x3=>n [yS 15 x0,yI x1,yR 1 x2,yR 6 x3]
def X112x1:=yO (xE oZ e [1,0,1,0,0] nW (aBw c e))
def B112x2(c:TC0)(n1:List G.E→Int→G.Y→G.M→Rt)(a28:Bool)(a6:Int)(a0:List G.E)(b103:G.Y)(b104:G.M):Rt:=
 cnd a28 (ob (idx a0 a6) fun v0=>
 some [yR 6 v0.mac,yB true]) (n1 a0 (IntKind.i64.wrap (a6+(1:Int))) b103 b104)
def V112x2(n:Nt):Bool→Int→List G.E→G.Y→G.M→Rt:=fun x0 x1 x2 x3 x4=>n [yB x0,yI x1,yS 15 x2,yR 1 x3,yR 6 x4]
def aGM(n1:Nt):=V112x2 (xD oZ e [1,0,1,0,0,1,0,0,1,0] aAA (q112x5 c e n1))
theorem s112x0:V112x0 (xF oZ c e)=B112x0 c (X112x1 c e):=by kernel_rfl
theorem s112x1(n1:Nt):yO (xA oZ c e [1,0,1,0,0] nW (lpK U0 nW n1 (aBw c e)))=B112x1 c (aGM c e n1):=by kernel_rfl
theorem s112x2(n1:Nt):V112x2 (xA oZ c e [1,0,1,0,0,1,0,0,1,0] aAA (q112x5 c e n1))=B112x2 c (yO n1):=by kernel_rfl
def J112x2(c:TC0)(L:Nat)(n1:List G.E→Int→G.Y→G.M→Rt):Bool→Int→List G.E→G.Y→G.M→Rt:=B112x2 c n1
theorem j112x2(n1:Nt):aGM c (cu c L) n1=J112x2 c L (yO n1):=by rw[aGM,aV,s112x2];rfl
def aCF(c:TC0)(L:Nat):Nat→List G.E→Int→G.Y→G.M→Rt
 |0=>fun _ _ _ _=>none
 |n+1=>B112x1 c (J112x2 c L (aCF c L n))
theorem u112x1(n:Nat):yO (xL oZ c L [1,0,1,0,0] nW (aBw c (cu c L)) n)=aCF c L n:=by
 induction n with
 |zero=>rfl
 |succ n ih=>rw[kU,s112x1];simp only[j112x2,ih];rfl
theorem w112x1:X112x1 c (cu c L)=aCF c L L:=u112x1 c L L
def F112(c:TC0)(L:Nat):List G.E→G.Y→Rt:=B112x0 c (aCF c L L)
theorem e112:V112x0 (xF oZ c (cu c L))=F112 c L:=by rw[s112x0];simp only[w112x1];rfl
theorem c112(a0:List G.E)(a1:G.Y)(L n:Nat):CTp L (n+1) 112 [yS 15 a0,yR 1 a1]=F112 (CTp L n) L a0 a1:=by rw[←e112];exact cg (x:=oZ) (by kernel_rfl) (by kernel_rfl) L n _
def B126x0(c:TC0)(a0:G.O):Rt:=
 some [yR 3 (G.T.mk (2:Int) (G.Y.mk ([]:List UInt8) ([]:List UInt8)) a0 ([]:List G.T))]
def V126x0(n:Nt):G.O→Rt:=fun x0=>n [yR 2 x0]
theorem s126x0:V126x0 (xF ii126 c e)=B126x0 c:=by kernel_rfl
def F126(c:TC0)(L:Nat):G.O→Rt:=B126x0 c
theorem e126:V126x0 (xF ii126 c (cu c L))=F126 c L:=s126x0 _ _
theorem c126(a0:G.O)(L n:Nat):CTp L (n+1) 126 [yR 2 a0]=F126 (CTp L n) L a0:=by rw[←e126];exact cg (x:=ii126) (by kernel_rfl) (by kernel_rfl) L n _
def aHr(c:TC0):Rt:=
 obL [.rc 2] (c 148 [yR 1 (G.Y.mk ([108,105,115,112]:List UInt8) ([116]:List UInt8))]) fun(r0:G.O×Unit)=>
 some [yR 2 r0.1]
def V127x0(n:Nt):Rt:=n []
theorem s127x0:V127x0 (xF ii127 c e)=aHr c:=by kernel_rfl
def F127(c:TC0)(L:Nat):Rt:=aHr c
theorem e127:V127x0 (xF ii127 c (cu c L))=F127 c L:=s127x0 _ _
theorem c127(L n:Nat):CTp L (n+1) 127 []=F127 (CTp L n) L:=by rw[←e127];exact cg (x:=ii127) (by kernel_rfl) (by kernel_rfl) L n _
end
end Go.TV
namespace Go.TV
open Go.AI Go.PI Go.Proofs
theorem slc_nat{α:Type}{s w r:List α}{k:Nat}(h:s.drop k=w++r)(hk:k≤s.length):slc s (k:Int) ((k+w.length:Nat):Int)=some w:=by
 have hl:=congrArg List.length h;simp at hl;unfold slc;have e1:decide ((0:Int)≤(k:Int))=true:=by simp
 have e2:decide ((k:Int)≤((k+w.length:Nat):Int))=true:=by simp;omega
 have e3:decide (((k+w.length:Nat):Int)≤(s.length:Int))=true:=by simp only[djE];omega
 rw[e1,e2,e3];simp only[Bool.and_self,cdt,Int.toNat_natCast,ojE];rw[List.drop_take,h];simp
theorem obL_nm{β:Type}{a b:List UInt8}{d:Bool}{K:List UInt8×List UInt8×Bool×Unit→Option β}:obL (D:=U0.D) [.str,.str,.bool] (some [yT a,yT b,yB d]) K=K (a,b,d,()):=rfl
theorem obL_se{β:Type}{a:G.X}{K:G.X×Unit→Option β}:obL (D:=U0.D) [.rc 18] (some [yR 18 a]) K=K (a,()):=rfl
theorem kQ{β:Type}{a:Int}{b:Bool}{K:Int×Bool×Unit→Option β}:obL (D:=U0.D) [.int .i64,.bool] (some [yI a,yB b]) K=K (a,b,()):=rfl
theorem kJ{β:Type}{a:Int}{K:Int×Unit→Option β}:obL (D:=U0.D) [.int .i64] (some [yI a]) K=K (a,()):=rfl
theorem obL_s{β:Type}{a:List UInt8}{K:List UInt8×Unit→Option β}:obL (D:=U0.D) [.str] (some [yT a]) K=K (a,()):=rfl
theorem obL_s2{β:Type}{a b:List UInt8}{K:List UInt8×List UInt8×Unit→Option β}:obL (D:=U0.D) [.str,.str] (some [yT a,yT b]) K=K (a,b,()):=rfl
theorem obL_on{β:Type}{a:G.K}{b:Int}{d:G.X}{K:G.K×Int×G.X×Unit→Option β}:obL (D:=U0.D) [.rc 19,.int .i64,.rc 18] (some [yR 19 a,yI b,yR 18 d]) K=K (a,b,d,()):=rfl
theorem Nm_no{x:UInt8}{w:List UInt8}(h1:u8 x≠45)(h2:u8 x<48∨57<u8 x)(L n:Nat):CTp (L+1) (n+1) 136 [yT (x::w)]=some [yT [],yT [],yB false]:=by
 rw[c136];have e1:decide ((0:Int)<((x::w).length:Int))=true:=by simp
 have e2:decide ((x.toNat:Int)=45)=false:=by simpa [u8]using h1
 have e3:idx (x::w) (0:Int)=some x:=rfl;rw[F136,aHi,e1,aQ,e3,eR,e2,aG6,aHh,aI,aG5,aHg,sX,aHf,e1,aQ,e3,eR];have key: ∀b:Bool,b=false→aG4 (CTp (L+1) n) (L+1) (sX (CTp (L+1) n) (L+1) L) b 0 (x::w) 0=some [yT [],yT [],yB false]:=by
  intro b hb;subst hb;rfl
 cases h3:decide ((48:Int)≤(x.toNat:Int))with
 |false=>exact key _ rfl
 |true=>
  rw[aQ,eR];have h4:decide ((x.toNat:Int)≤(57:Int))=false:=by
   simp only[djE]at h3;simp only[dfN];simp only[u8]at h2;omega
  exact key _ h4
theorem Nd_ok{k p:Int}{w:List UInt8}(h:w.length≤40)(L n:Nat):CTp L (n+1) 132 [yR 19 ⟨k,p,[],w,[]⟩,yB false]=some [yR 18 ⟨0,0⟩]:=by
 rw[c132];have e1:decide ((40:Int)<(w.length:Int))=false:=by simp;omega
 simp only[F132,aHm,e1,aI];rfl
structure NumW(c:TC0)(w:List UInt8):Prop where
 a:c 136 [yT w]=some [yT w,yT [49],yB true]
 b:c 137 [yT [49]]=some [yT [49]]
 d:c 137 [yT w]=some [yT w]
 e:c 72 [yT w,yT [49]]=some [yT w,yT [49]]
 f:c 138 [yT w]=some [yI 1]
 g:c 138 [yT [49]]=some [yI 1]
def SyW(w:List UInt8):Prop:= ∃x l,w=x::l∧u8 x≠45∧(u8 x<48∨57<u8 x)∧w≠ [46]∧w.length≤40
theorem aGc{x:Int}(h:csI x=true):x≠40∧x≠41∧x≠39∧x≠34∧x≠59∧x≠124∧x≠58:=by
 simp only[csI,bjE,Bool.not_eq_true',dfN]at h;obtain⟨⟨⟨⟨⟨⟨⟨_,h1⟩,h2⟩,h3⟩,h4⟩,h5⟩,h6⟩,h7⟩:=h;exact⟨h1,h2,h3,h4,h5,h6,h7⟩
def wtk(b:Bool)(p:Int)(w:List UInt8):G.K:=bif b then⟨5,p,[],w,[49]⟩else⟨6,p,[],w,[]⟩
theorem On_w{s w r:List UInt8}{k L n:Nat}{nu:Bool}(hb:s.length<1000000000)(hL:s.length<L)(h:s.drop k=w++r)(h0:w≠ [])(hw: ∀x∈w,csI (u8 x)=true)(hr: ∀y,r.head?=some y→csI (u8 y)=false∧u8 y≠58)
    (hk:(nu=true∧NumW (CTp L (n+2)) w)∨(nu=false∧SyW w)):
    CTp L (n+3) 102 [yT s,yI (k:Int)]=some [yR 19 (wtk nu (k:Int) w),yI ((k+w.length:Nat):Int),yR 18 ⟨0,0⟩]:=by
 have hl:=congrArg List.length h;simp at hl;obtain⟨L,rfl⟩: ∃L',L=L'+1:=⟨L-1,by omega⟩
 cases hw0:w with
 |nil=>exact(h0 hw0).elim
 |cons x l=>
  rw[←hw0];have hx:x∈w:=by rw[hw0];exact mhE ..
  have h1:s.drop k=x::(l++r):=by rw[h,hw0];rfl
  obtain⟨a1,a2,a3⟩:=cB h1;obtain⟨q1,q2,q3,q4,q5,q6,q7⟩:=aGc (hw x hx);have d1:decide ((x.toNat:Int)=40)=false:=by simpa [u8]using q1
  have d2:decide ((x.toNat:Int)=41)=false:=by simpa [u8]using q2
  have d3:decide ((x.toNat:Int)=39)=false:=by simpa [u8]using q3
  have d4:decide ((x.toNat:Int)=34)=false:=by simpa [u8]using q4
  have d5:decide ((x.toNat:Int)=124)=false:=by simpa [u8]using q6
  have d6:csI (x.toNat:Int)=true:=hw x hx;have hwd:=Wd_ok (n:=n) hb hL h hw (fun y hy=>(hr y hy).1)
  have hsl:=slc_nat h (by omega)
  have hhs:CTp (L+1) (n+2) 130 [yT s,yI ((k+w.length:Nat):Int),⟨.int .u8,(58:Int)⟩,⟨.int .u8,(58:Int)⟩]=some [yB false]:=by
   refine has_no hb (by omega) (fun y hy=>?_) (L+1) (n+1)
   have:s.drop (k+w.length)=r:=by rw[←List.drop_drop,h];simp
   rw[←List.head?_drop,this]at hy;exact(hr y hy).2
  show CTp (L+1) (n+2+1) 102 _=_;rw[c102,F102,yY,bF,a1,eR,d1,aI,d2,aI,d3,aI,d4,aI,d5,aI,Cs_ok,bT,d6];simp only[bnT,aI];rw[hwd,kJ];show ob (slc s (k:Int) ((k+w.length:Nat):Int)) _=_;rw[hsl,eR,hhs,bT,aI];rcases hk with⟨rfl,hn⟩|⟨rfl,x',l',e1,e2,e3,e4,e5⟩
  ·rw[hn.a,obL_nm];have e4:decide (w=([46]:List UInt8))=false:=by
    cases hd:decide (w=([46]:List UInt8))with
    |false=>rfl
    |true=>
     exfalso;simp only[djE]at hd;have h2:=hn.a;rw[hd]at h2;rw[Nm_no (x:=46) (w:=[]) (by decide) (by decide)]at h2
     cases h2
   rw[e4,aI];simp only[aQ];rw[hn.b,obL_s];show cnd (decide (([49]:List UInt8)=[48])) _ _=_;rw[show decide (([49]:List UInt8)=[48])=false by decide,aI,hn.d,obL_s,obL_s]
   show obL (D:=U0.D) [.str,.str] (CTp (L+1) (n+2) 72 [yT w,yT [49]]) _=_;rw[hn.e,obL_s2];show obL (D:=U0.D) [.int .i64] (CTp (L+1) (n+2) 138 [yT w]) _=_;rw[hn.f,kJ];show cnd (decide ((100:Int)<1)) _ _=_;rw[show decide ((100:Int)<1)=false by decide,aI]
   show obL (D:=U0.D) [.int .i64] (CTp (L+1) (n+2) 138 [yT [49]]) _=_;rw[hn.g,kJ];rfl
  ·rw[e1,Nm_no e2 e3,←e1,obL_nm];have e6:decide (w=([46]:List UInt8))=false:=by simpa using e4
   rw[e6,aI];simp only[aI];rw[Nd_ok e5,obL_se];rfl
theorem On_op{s r:List UInt8}{k L n:Nat}(hb:s.length<1000000000)(h:s.drop k=40::r):CTp L (n+1) 102 [yT s,yI (k:Int)]=some [yR 19 ⟨1,(k:Int),[],[],[]⟩,yI ((k+1:Nat):Int),yR 18 ⟨0,0⟩]:=by
 obtain⟨a1,a2,a3⟩:=cB h;rw[c102,F102,yY,bF,a1,eR,gC (by omega)]
 rfl
theorem On_cl{s r:List UInt8}{k L n:Nat}(hb:s.length<1000000000)(h:s.drop k=41::r):CTp L (n+1) 102 [yT s,yI (k:Int)]=some [yR 19 ⟨2,(k:Int),[],[],[]⟩,yI ((k+1:Nat):Int),yR 18 ⟨0,0⟩]:=by
 obtain⟨a1,a2,a3⟩:=cB h;rw[c102,F102,yY,bF,a1,eR,gC (by omega)]
 rfl
end Go.TV
