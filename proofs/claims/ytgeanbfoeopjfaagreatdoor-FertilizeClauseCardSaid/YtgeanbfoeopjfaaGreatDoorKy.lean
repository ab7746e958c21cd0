import Derived.Test.YtgeanbfoeopjfaaGreatDoorKo
set_option linter.unusedVariables false
set_option linter.unusedSimpArgs false
set_option linter.constructorNameAsVariable false
namespace Go.TV
open Go.AI Go.PI Go.Proofs
theorem kI{P:G.O→Prop}(h: ∀k n d s t l,(∀o∈l,P o)→P ⟨k,n,d,s,t,l⟩): ∀o,P o:=fun o=>
 G.O.rec (motive_1:=P) (motive_2:=fun l=> ∀o∈l,P o) (fun k n d s t l ih=>h k n d s t l ih) (fun o ho=>by cases ho)
  (fun o l h1 h2 x hx=>by
   cases hx with
   |head=>exact h1
   |tail _ hx=>exact h2 x hx) o
noncomputable instance:DecidableEq G.O:=fun a b=>Classical.propDecidable _
def pkL:List UInt8:=[108,105,115,112]
def pkU:List UInt8:=[117,115,101,114]
def kX(s:G.Y):Bool:=(decide (s.package=pkL)||decide (s.package=pkU))&&Nat.ble 1 s.name.length&&Nat.ble s.name.length 20
def okV(s:G.Y):Bool:=decide (s.package=pkU)&&Nat.ble 1 s.name.length&&Nat.ble s.name.length 20
def okX(t:List UInt8):Bool:=Nat.ble t.length 10
def numL:List (List UInt8×List UInt8):=[([48],[49]),([49],[49]),([50],[49]),([51],[49]),([45,49],[49]),([45,50],[49]),([45,51],[49]),([49],[50]),([45,53],[51])]
def okN(n d:List UInt8):Bool:=numL.any fun p=>decide (n=p.1)&&decide (d=p.2)
def wS(s:G.Y):Nat:=bif kX s then 0 else 1000000000
theorem okSy_u{w:List UInt8}(h1:1≤w.length)(h2:w.length≤20):kX ⟨pkU,w⟩=true:=by simp[kX,Nat.ble_eq,h1,h2]
theorem okSy_l{w:List UInt8}(h1:1≤w.length)(h2:w.length≤20):kX ⟨pkL,w⟩=true:=by simp[kX,Nat.ble_eq,h1,h2]
theorem okV_u{w:List UInt8}(h1:1≤w.length)(h2:w.length≤20):okV ⟨pkU,w⟩=true:=by simp[okV,Nat.ble_eq,h1,h2]
theorem okV_Sy{s:G.Y}(h:okV s=true):kX s=true:=by
 simp only[okV,bjE,djE]at h;simp[kX,h.1.1,h.1.2,h.2]
def okO(k:Int)(n d:List UInt8)(s:G.Y)(t:List UInt8)(l:List G.O):Bool:=
 decide (k=0)&&n.isEmpty&&d.isEmpty&&decide (s=⟨[],[]⟩)&&t.isEmpty&&l.isEmpty||decide (k=1)&&okN n d&&decide (s=⟨[],[]⟩)&&t.isEmpty&&l.isEmpty||decide (k=2)&&kX s&&n.isEmpty&&d.isEmpty&&t.isEmpty&&l.isEmpty||
 decide (k=3)&&okX t&&n.isEmpty&&d.isEmpty&&decide (s=⟨[],[]⟩)&&l.isEmpty||decide (k=4)&&n.isEmpty&&d.isEmpty&&decide (s=⟨[],[]⟩)&&t.isEmpty&&decide (l.length=2)
def badO(k:Int)(n d:List UInt8)(s:G.Y)(t:List UInt8)(l:List G.O):Nat:=bif okO k n d s t l then 0 else 1000000000
theorem badO_y(s:G.Y):badO 2 [] [] s [] []=wS s:=by
 unfold badO okO wS;cases kX s<;>rfl
theorem badO_x(w:List UInt8)(h:okX w=true):badO 3 [] [] ⟨[],[]⟩ w []=0:=by
 unfold badO okO;rw[h];rfl
theorem aDg(a b:G.O):badO 4 [] [] ⟨[],[]⟩ [] [a,b]=0:=rfl
def sL(o:G.O):Nat:=bif decide (o.kind=0)then 1000000000 else 0
theorem sK(n d:List UInt8)(s:G.Y)(t:List UInt8)(l:List G.O):sL ⟨2,n,d,s,t,l⟩=0:=rfl
theorem bad0x3(n d:List UInt8)(s:G.Y)(t:List UInt8)(l:List G.O):sL ⟨3,n,d,s,t,l⟩=0:=rfl
theorem aDh(n d:List UInt8)(s:G.Y)(t:List UInt8)(l:List G.O):sL ⟨4,n,d,s,t,l⟩=0:=rfl
mutual
def osz:G.O→Nat
 |⟨k,n,d,s,t,l⟩=>2+mD l+badO k n d s t l
def mD:List G.O→Nat
 |[]=>0
 |o::l=>osz o+sL o+mD l+1
end
theorem okO_of{o:G.O}(h:osz o<1000000000):okO o.kind o.num o.den o.sym o.text o.pair=true:=by
 cases o with|mk k n d s t l=>
 simp only[osz,badO]at h;cases e:okO k n d s t l with
 |true=>exact e
 |false=>rw[e,cdf]at h;omega
theorem cR{k:Nat}(h:k<4000000000000000000):IntKind.i64.wrap ((k:Int)+1)=((k+1:Nat):Int):=by
 unfold IntKind.wrap;simp[IntKind.bits,IntKind.signed];omega
theorem aJ{α:Type}(l:List α)(k:Nat):idx l (k:Int)=l[k]?:=by
 unfold idx;have:decide (0≤(k:Int))=true:=by simp
 rw[this];rfl
theorem bB{β:Type}{b:Bool}{K:Bool×Unit→Option β}:obL (D:=U0.D) [.bool] (some [yB b]) K=K (b,()):=rfl
theorem bW{α β:Type}{x:α}{K:α→Option β}:ob (some x) K=K x:=rfl
theorem aF{β:Type}{A B:Option β}:cnd true A B=A:=rfl
theorem aE{β:Type}{A B:Option β}:cnd false A B=B:=rfl
theorem aO{α:Type}{l:List α}{k:Nat}{x:α}{r:List α}(h:l.drop k=x::r):l[k]?=some x∧k<l.length∧l.drop (k+1)=r:=by
 refine⟨?_,?_,?_⟩
 ·rw[←List.head?_drop,h];rfl
 ·have:=congrArg List.length h;simp at this;omega
 ·rw[←List.tail_drop,h];rfl
theorem aN{α:Type}{l:List α}{k:Nat}(h:l.drop k=[]): ¬k<l.length:=by
 have:=congrArg List.length h;simp at this;omega
def oo(a b:G.O):TVs:=[yR 2 a,yR 2 b]
def bb(b:Bool):TVs:=[yB b]
def wfO(a:G.O):Prop:=osz a<1000000000
theorem aAl: ∀(l:List G.O),l.length≤mD l
 |[]=>nlR _
 |o::l=>by have:=aAl l;simp only[lcS,mD];omega
theorem eX: ∀{l:List G.O} {x:G.O},x∈l→osz x≤mD l
 |o::l,x,h=>by
  simp only[mD];cases h with
  |head=>omega
  |tail _ h=>have:=eX h;omega
end Go.TV
namespace Go.TV
open Go.AI Go.PI Go.Proofs
theorem eU{P:G.T→Prop}(h: ∀k n v l,(∀o∈l,P o)→P ⟨k,n,v,l⟩): ∀o,P o:=fun o=>
 G.T.rec (motive_1:=P) (motive_2:=fun l=> ∀o∈l,P o) (fun k n v l ih=>h k n v l ih) (fun o ho=>by cases ho)
  (fun o l h1 h2 x hx=>by
   cases hx with
   |head=>exact h1
   |tail _ hx=>exact h2 x hx) o
noncomputable instance:DecidableEq G.T:=fun a b=>Classical.propDecidable _
def okTm(k:Int)(n:G.Y)(v:G.O)(l:List G.T):Bool:=
 decide (k=1)&&okV n&&decide (v.kind=0)&&l.isEmpty||decide (k=2)&&decide (n=⟨[],[]⟩)&&l.isEmpty&& !decide (v.kind=0)||decide (k=3)&&kX n&&Nat.ble l.length 8&&decide (v.kind=0)
def aBq(k:Int)(n:G.Y)(v:G.O)(l:List G.T):Nat:=bif okTm k n v l then 0 else 1000000000
mutual
def tsz:G.T→Nat
 |⟨k,n,v,l⟩=>4+osz v+bI l+aBq k n v l
def bI:List G.T→Nat
 |[]=>0
 |o::l=>tsz o+bI l+1
end
theorem okTm_of{t:G.T}(h:tsz t<1000000000):okTm t.kind t.name t.value t.args=true:=by
 cases t with|mk k n v l=>
 simp only[tsz,aBq]at h;cases e:okTm k n v l with
 |true=>exact e
 |false=>rw[e,cdf]at h;omega
theorem bX: ∀(l:List G.T),l.length≤bI l
 |[]=>nlR _
 |o::l=>by have:=bX l;simp only[lcS,bI];omega
theorem aK: ∀{l:List G.T} {x:G.T},x∈l→tsz x≤bI l
 |o::l,x,h=>by
  simp only[bI];cases h with
  |head=>omega
  |tail _ h=>have:=aK h;omega
def tt2(a b:G.T):TVs:=[yR 3 a,yR 3 b]
def ll2(a b:List G.T):TVs:=[yS 3 a,yS 3 b]
def wfT(a:G.T):Prop:=tsz a<1000000000
end Go.TV
namespace Go.TV
open Go.AI Go.PI Go.Proofs
theorem aAo{β:Type}{b:List G.T}{K:List G.T×Unit→Option β}:obL (D:=U0.D) [.sl (.rc 3)] (some [yS 3 b]) K=K (b,()):=rfl
theorem qB{β:Type}{A:Option β}:chk true A=A:=rfl
theorem wrapn{k:Nat}(h:k<4000000000000000000):IntKind.i64.wrap (k:Int)=(k:Int):=by
 unfold IntKind.wrap;simp[IntKind.bits,IntKind.signed];omega
def lt2(a:List G.T)(t:G.T):TVs:=[yS 3 a,yR 3 t]
def tl1(a:List G.T):TVs:=[yS 3 a]
end Go.TV
namespace Go.TV
open Go.AI Go.PI Go.Proofs
def eY:List UInt8:=[108,105,115,112]
def isA(t:G.T)(s:List UInt8)(k:Int):Bool:=decide (t.kind=3)&&decide (t.name=⟨eY,s⟩)&&decide ((t.args.length:Int)=k)
def tsi(t:G.T)(s:List UInt8)(k:Int):TVs:=[yR 3 t,yT s,yI k]
theorem obL_y{β:Type}{b:G.Y}{K:G.Y×Unit→Option β}:obL (D:=U0.D) [.rc 1] (some [yR 1 b]) K=K (b,()):=rfl
theorem aGn{β:Type}{b:Bool}{t:G.T}{K:Bool×G.T×Unit→Option β}:obL (D:=U0.D) [.bool,.rc 3] (some [yB b,yR 3 t]) K=K (b,t,()):=rfl
end Go.TV
namespace Go.TV
open Go.AI Go.PI Go.Proofs
set_option maxRecDepth 20000
noncomputable section
variable(c:TC0)(e:Cu)(L:Nat)
def aJI(c:TC0)(a0:G.O):Rt:=
 obL [i6] (c 130 [yR 2 a0,yI (3001:Int)]) fun(r0:Int×Unit)=>
 some [yI r0.1]
def V105x0(n:Nt):G.O→Rt:=fun x0=>n [yR 2 x0]
theorem s105x0:V105x0 (xF ii105 c e)=aJI c:=by kernel_rfl
def F105(c:TC0)(L:Nat):G.O→Rt:=aJI c
theorem e105:V105x0 (xF ii105 c (cu c L))=F105 c L:=s105x0 _ _
theorem c105(a0:G.O)(L n:Nat):CTp L (n+1) 105 [yR 2 a0]=F105 (CTp L n) L a0:=by rw[←e105];exact cg (x:=ii105) (by kernel_rfl) (by kernel_rfl) L n _
def aJH(c:TC0):Rt:=
 some [yS 21 ([(G.R.mk ([105,102]:List UInt8) (3:Int)),(G.R.mk ([101,113,117,97,108]:List UInt8) (2:Int)),(G.R.mk ([99,111,110,115]:List UInt8) (2:Int)),(G.R.mk ([99,97,114]:List UInt8) (1:Int)),(G.R.mk ([99,100,114]:List UInt8) (1:Int)),(G.R.mk ([99,111,110,115,112]:List UInt8) (1:Int)),(G.R.mk ([115,121,109,98,111,108,112]:List UInt8) (1:Int)),(G.R.mk ([115,116,114,105,110,103,112]:List UInt8) (1:Int)),(G.R.mk ([114,97,116,105,111,110,97,108,112]:List UInt8) (1:Int)),(G.R.mk ([105,110,116,101,103,101,114,112]:List UInt8) (1:Int)),(G.R.mk ([98,105,110,97,114,121,45,43]:List UInt8) (2:Int)),(G.R.mk ([98,105,110,97,114,121,45,42]:List UInt8) (2:Int)),(G.R.mk ([117,110,97,114,121,45,45]:List UInt8) (1:Int)),(G.R.mk ([117,110,97,114,121,45,47]:List UInt8) (1:Int)),(G.R.mk ([60]:List UInt8) (2:Int)),(G.R.mk ([110,117,109,101,114,97,116,111,114]:List UInt8) (1:Int)),(G.R.mk ([100,101,110,111,109,105,110,97,116,111,114]:List UInt8) (1:Int)),(G.R.mk ([102,108,111,111,114]:List UInt8) (1:Int)),(G.R.mk ([115,121,109,98,111,108,45,110,97,109,101]:List UInt8) (1:Int)),(G.R.mk ([115,121,109,98,111,108,45,112,97,99,107,97,103,101,45,110,97,109,101]:List UInt8) (1:Int)),(G.R.mk ([105,110,116,101,114,110]:List UInt8) (2:Int)),(G.R.mk ([115,116,114,105,110,103,45,97,112,112,101,110,100]:List UInt8) (2:Int)),(G.R.mk ([115,116,114,105,110,103,45,108,101,110,103,116,104]:List UInt8) (1:Int)),(G.R.mk ([115,116,114,105,110,103,45,98,121,116,101]:List UInt8) (2:Int)),(G.R.mk ([98,121,116,101,45,115,116,114,105,110,103]:List UInt8) (1:Int))]:List G.R)]
def V109x0(n:Nt):Rt:=n []
theorem s109x0:V109x0 (xF ii109 c e)=aJH c:=by kernel_rfl
def F109(c:TC0)(L:Nat):Rt:=aJH c
theorem e109:V109x0 (xF ii109 c (cu c L))=F109 c L:=s109x0 _ _
theorem c109(L n:Nat):CTp L (n+1) 109 []=F109 (CTp L n) L:=by rw[←e109];exact cg (x:=ii109) (by kernel_rfl) (by kernel_rfl) L n _
def q113x0(c:TC0)(e:Cu):Kt:=xK mV
def q113x1(c:TC0)(e:Cu):Kt:=xT mV c e [1,1] (q113x0 c e)
def aCj(c:TC0)(e:Cu):Kt:=cH U0 0 (q113x1 c e)
def q113x3(c:TC0)(e:Cu)(n1:Nt):Kt:=lpK U0 nK n1 (aCj c e)
def q113x4(c:TC0)(e:Cu)(n1:Nt):Kt:=xT mV c e [1,0,1,0,0,1,1] (q113x3 c e n1)
def q113x5(c:TC0)(e:Cu)(n1:Nt):Kt:=cH U0 1 (q113x4 c e n1)
def aFV(c:TC0)(e:Cu)(n1:Nt):Kt:=cH U0 2 (q113x5 c e n1)
def aJG(c:TC0)(e1:List G.E→Int→G.Y→Rt)(a0:List G.E)(a1:G.Y):Rt:=
 e1 a0 (0:Int) a1
def V113x0(n:Nt):List G.E→G.Y→Rt:=fun x0 x1=>n [yS 15 x0,yR 1 x1]
def aDU(c:TC0)(e2:List G.F→Int→Int→List G.E→G.Y→Rt)(a0:List G.E)(a7:Int)(b103:G.Y):Rt:=
 cnd (decide (a7<(List.length a0:Int))) (ob (idx a0 a7) fun v0=>
 obL [zS 4] (c 114 [yR 15 v0]) fun(r1:List G.F×Unit)=>
 e2 r1.1 (0:Int) a7 a0 b103) (some [yI (0:Int),yI (0:Int),yB false])
def sR(n:Nt):List G.E→Int→G.Y→Rt:=fun x0 x1 x2=>n [yS 15 x0,yI x1,yR 1 x2]
def X113x1:=sR (xE mV e [1,0,1,0,0] nK (aCj c e))
def aDT(c:TC0)(n2:List G.F→Int→Int→List G.E→G.Y→Rt)(n1:List G.E→Int→G.Y→Rt)(a8:List G.F)(a9:Int)(a7:Int)(a0:List G.E)(b103:G.Y):Rt:=
 cnd (decide (a9<(List.length a8:Int))) (ob (idx a8 a9) fun v0=>
 cnd (decide (v0.name=b103)) (some [yI a7,yI a9,yB true]) (n2 a8 (IntKind.i64.wrap (a9+(1:Int))) a7 a0 b103)) (n1 a0 (IntKind.i64.wrap (a7+(1:Int))) b103)
def aDH(n:Nt):List G.F→Int→Int→List G.E→G.Y→Rt:=fun x0 x1 x2 x3 x4=>n [yS 4 x0,yI x1,yI x2,yS 15 x3,yR 1 x4]
def X113x2(n1:Nt):=aDH (xE mV e [1,0,1,0,0,1,0,0,1,1,0,0] pZ (aFV c e n1))
theorem s113x0:V113x0 (xF mV c e)=aJG c (X113x1 c e):=by kernel_rfl
theorem s113x1(n1:Nt):sR (xA mV c e [1,0,1,0,0] nK (lpK U0 nK n1 (aCj c e)))=aDU c (X113x2 c e n1):=by kernel_rfl
theorem s113x2(n2:Nt)(n1:Nt):aDH (xA mV c e [1,0,1,0,0,1,0,0,1,1,0,0] pZ (lpK U0 pZ n2 (aFV c e n1)))=aDT c (aDH n2) (sR n1):=by kernel_rfl
def qN(c:TC0)(L:Nat)(n1:List G.E→Int→G.Y→Rt):Nat→List G.F→Int→Int→List G.E→G.Y→Rt
 |0=>fun _ _ _ _ _=>none
 |n+1=>aDT c (qN c L n1 n) n1
theorem u113x2(n1:Nt)(n:Nat):aDH (xL mV c L [1,0,1,0,0,1,0,0,1,1,0,0] pZ (aFV c (cu c L) n1) n)=qN c L (sR n1) n:=by
 induction n with
 |zero=>rfl
 |succ n ih=>rw[fA,s113x2];simp only[ih];rfl
theorem w113x2(n1:Nt):X113x2 c (cu c L) n1=qN c L (sR n1) L:=u113x2 c L n1 L
def qO(c:TC0)(L:Nat):Nat→List G.E→Int→G.Y→Rt
 |0=>fun _ _ _=>none
 |n+1=>aDU c (qN c L (qO c L n) L)
theorem u113x1(n:Nat):sR (xL mV c L [1,0,1,0,0] nK (aCj c (cu c L)) n)=qO c L n:=by
 induction n with
 |zero=>rfl
 |succ n ih=>rw[fA,s113x1];simp only[w113x2,ih];rfl
theorem w113x1:X113x1 c (cu c L)=qO c L L:=u113x1 c L L
def F113(c:TC0)(L:Nat):List G.E→G.Y→Rt:=aJG c (qO c L L)
theorem e113:V113x0 (xF mV c (cu c L))=F113 c L:=by rw[s113x0];simp only[w113x1];rfl
theorem c113(a0:List G.E)(a1:G.Y)(L n:Nat):CTp L (n+1) 113 [yS 15 a0,yR 1 a1]=F113 (CTp L n) L a0 a1:=by rw[←e113];exact cg (x:=mV) (by kernel_rfl) (by kernel_rfl) L n _
def q114x0(c:TC0)(e:Cu):Kt:=xK wW
def q114x1(c:TC0)(e:Cu):Kt:=xT wW c e [1,1] (q114x0 c e)
def q114x2(c:TC0)(e:Cu):Kt:=cH U0 0 (q114x1 c e)
def aJF(c:TC0)(k1:Bool→G.E→Rt)(a0:G.E):Rt:=
 cnd (decide (a0.kind=(3:Int))) (k1 (decide (a0.kind=(3:Int))) a0) (cnd (decide (a0.kind=(5:Int))) (k1 (decide (a0.kind=(5:Int))) a0) (cnd (decide (a0.kind=(6:Int))) (k1 (decide (a0.kind=(6:Int))) a0) (k1 (decide (a0.kind=(7:Int))) a0)))
def V114x0(n:Nt):G.E→Rt:=fun x0=>n [yR 15 x0]
def aJE(c:TC0)(a5:Bool)(b101:G.E):Rt:=
 cnd a5 (some [yS 4 b101.functions]) (some [yS 4 ([]:List G.F)])
def V114x1(n:Nt):Bool→G.E→Rt:=fun x0 x1=>n [yB x0,yR 15 x1]
def aID:=V114x1 (xD wW e [1,0,1,0,1,0] aBi (q114x2 c e))
theorem s114x0:V114x0 (xF wW c e)=aJF c (aID c e):=by kernel_rfl
theorem s114x1:V114x1 (xA wW c e [1,0,1,0,1,0] aBi (q114x2 c e))=aJE c:=by kernel_rfl
def aI4(c:TC0)(L:Nat):Bool→G.E→Rt:=aJE c
theorem j114x1:aID c (cu c L)=aI4 c L:=by rw[aID,aL,s114x1];rfl
def F114(c:TC0)(L:Nat):G.E→Rt:=aJF c (aI4 c L)
theorem e114:V114x0 (xF wW c (cu c L))=F114 c L:=by rw[s114x0];simp only[j114x1];rfl
theorem c114(a0:G.E)(L n:Nat):CTp L (n+1) 114 [yR 15 a0]=F114 (CTp L n) L a0:=by rw[←e114];exact cg (x:=wW) (by kernel_rfl) (by kernel_rfl) L n _
def aJD(c:TC0)(a0:G.O):Rt:=
 obL [i6] (c 144 [yR 2 a0,yI (3001:Int)]) fun(r0:Int×Unit)=>
 some [yI (IntKind.i64.wrap ((3001:Int)-(bif decide ((0:Int)<r0.1)then r0.1 else(0:Int))))]
def V115x0(n:Nt):G.O→Rt:=fun x0=>n [yR 2 x0]
theorem s115x0:V115x0 (xF ii115 c e)=aJD c:=by kernel_rfl
def F115(c:TC0)(L:Nat):G.O→Rt:=aJD c
theorem e115:V115x0 (xF ii115 c (cu c L))=F115 c L:=s115x0 _ _
theorem c115(a0:G.O)(L n:Nat):CTp L (n+1) 115 [yR 2 a0]=F115 (CTp L n) L a0:=by rw[←e115];exact cg (x:=ii115) (by kernel_rfl) (by kernel_rfl) L n _
def aJC(c:TC0):Rt:=
 obL [.rc 2] (c 119 [yR 1 (G.Y.mk ([108,105,115,112]:List UInt8) ([110,105,108]:List UInt8))]) fun(r0:G.O×Unit)=>
 some [yR 2 r0.1]
def V116x0(n:Nt):Rt:=n []
theorem s116x0:V116x0 (xF ii116 c e)=aJC c:=by kernel_rfl
def F116(c:TC0)(L:Nat):Rt:=aJC c
theorem e116:V116x0 (xF ii116 c (cu c L))=F116 c L:=s116x0 _ _
theorem c116(L n:Nat):CTp L (n+1) 116 []=F116 (CTp L n) L:=by rw[←e116];exact cg (x:=ii116) (by kernel_rfl) (by kernel_rfl) L n _
def aJB(c:TC0):Rt:=
 obL [.rc 2] (c 119 [yR 1 (G.Y.mk ([108,105,115,112]:List UInt8) ([116]:List UInt8))]) fun(r0:G.O×Unit)=>
 some [yR 2 r0.1]
def V117x0(n:Nt):Rt:=n []
theorem s117x0:V117x0 (xF ii117 c e)=aJB c:=by kernel_rfl
def F117(c:TC0)(L:Nat):Rt:=aJB c
theorem e117:V117x0 (xF ii117 c (cu c L))=F117 c L:=s117x0 _ _
theorem c117(L n:Nat):CTp L (n+1) 117 []=F117 (CTp L n) L:=by rw[←e117];exact cg (x:=ii117) (by kernel_rfl) (by kernel_rfl) L n _
def q118x0(c:TC0)(e:Cu):Kt:=xK gZ
def q118x1(c:TC0)(e:Cu):Kt:=xT gZ c e [1,1] (q118x0 c e)
def aCi(c:TC0)(e:Cu):Kt:=cH U0 0 (q118x1 c e)
def q118x3(c:TC0)(e:Cu)(n1:Nt):Kt:=lpK U0 nJ n1 (aCi c e)
def q118x4(c:TC0)(e:Cu)(n1:Nt):Kt:=cH U0 1 (q118x3 c e n1)
def q118x5(c:TC0)(e:Cu)(n1:Nt):Kt:=xT gZ c e [1,0,0,0,1,0,1] (q118x4 c e n1)
def q118x6(c:TC0)(e:Cu):Kt:=xT gZ c e [1,1,1] (q118x0 c e)
def rR(c:TC0)(e:Cu):Kt:=cH U0 2 (q118x6 c e)
def B118x0(c:TC0)(e1:G.O→Rt)(a0:G.O):Rt:=
 e1 a0
def V118x0(n:Nt):G.O→Rt:=fun x0=>n [yR 2 x0]
def aJA(c:TC0)(k2:Bool→G.O→Rt)(k3:Bool→Rt)(k4:Bool→Rt)(k5:Bool→Rt)(b101:G.O):Rt:=
 cnd (decide (b101.kind=(4:Int))) (cnd (!decide ((List.length b101.pair:Int)=(2:Int))) (k2 true b101) (obL [.bool] (c 145 [yR 2 b101,yB false,yB false,yB false]) fun(r0:Bool×Unit)=>
 cnd (!r0.1) (k2 true b101) (ob (idx b101.pair (0:Int)) fun v1=>
 obL [.bool] (c 118 [yR 2 v1]) fun(r2:Bool×Unit)=>
 k2 (!r2.1) b101))) (cnd (decide (b101.kind=(1:Int))) (obL [.bool] (c 145 [yR 2 b101,yB true,yB false,yB false]) fun(r3:Bool×Unit)=>
 cnd r3.1 (cnd (decide ((List.length b101.pair:Int)=(0:Int))) (obL [.bool] (c 146 [yT b101.num,yT b101.den]) fun(r4:Bool×Unit)=>
 k3 r4.1) (k3 false)) (k3 false)) (cnd (decide (b101.kind=(2:Int))) (obL [.bool] (c 145 [yR 2 b101,yB false,yB true,yB false]) fun(r5:Bool×Unit)=>
 cnd r5.1 (cnd (decide ((List.length b101.pair:Int)=(0:Int))) (obL [.bool] (c 147 [yR 1 b101.sym]) fun(r6:Bool×Unit)=>
 k4 r6.1) (k4 false)) (k4 false)) (cnd (decide (b101.kind=(3:Int))) (obL [.bool] (c 145 [yR 2 b101,yB false,yB false,yB true]) fun(r7:Bool×Unit)=>
 cnd r7.1 (cnd (decide ((List.length b101.pair:Int)=(0:Int))) (k5 (decide ((List.length b101.text:Int)≤(200:Int)))) (k5 false)) (k5 false)) (some [yB false]))))
def zG(n:Nt):G.O→Rt:=fun x0=>n [yR 2 x0]
def X118x1:=zG (xE gZ e [1,0,0,0] nJ (aCi c e))
def aJz(c:TC0)(n1:G.O→Rt)(a22:Bool)(b101:G.O):Rt:=
 cnd a22 (some [yB false]) (ob (idx b101.pair (1:Int)) fun v0=>
 n1 v0)
def V118x2(n:Nt):Bool→G.O→Rt:=fun x0 x1=>n [yB x0,yR 2 x1]
def aIC(n1:Nt):=V118x2 (xD gZ e [1,0,0,0,1,0,0,1,0] aBh (q118x5 c e n1))
def B118x3(c:TC0)(a2:Bool):Rt:=
 some [yB a2]
def V118x3(n:Nt):Bool→Rt:=fun x0=>n [yB x0]
def aIB:=V118x3 (xD gZ e [1,1,0,1,0,1,0,1,0] aBg (rR c e))
def B118x4(c:TC0)(a2:Bool):Rt:=
 some [yB a2]
def V118x4(n:Nt):Bool→Rt:=fun x0=>n [yB x0]
def aIA:=V118x4 (xD gZ e [1,1,0,1,0,1,1,1,0,1,0] aBf (rR c e))
def B118x5(c:TC0)(a2:Bool):Rt:=
 some [yB a2]
def V118x5(n:Nt):Bool→Rt:=fun x0=>n [yB x0]
def aIz:=V118x5 (xD gZ e [1,1,0,1,0,1,1,1,1,1,0,1,0] aBe (rR c e))
theorem s118x0:V118x0 (xF gZ c e)=B118x0 c (X118x1 c e):=by kernel_rfl
theorem s118x1(n1:Nt):zG (xA gZ c e [1,0,0,0] nJ (lpK U0 nJ n1 (aCi c e)))=aJA c (aIC c e n1) (aIB c e) (aIA c e) (aIz c e):=by kernel_rfl
theorem s118x2(n1:Nt):V118x2 (xA gZ c e [1,0,0,0,1,0,0,1,0] aBh (q118x5 c e n1))=aJz c (zG n1):=by kernel_rfl
theorem s118x3:V118x3 (xA gZ c e [1,1,0,1,0,1,0,1,0] aBg (rR c e))=B118x3 c:=by kernel_rfl
theorem s118x4:V118x4 (xA gZ c e [1,1,0,1,0,1,1,1,0,1,0] aBf (rR c e))=B118x4 c:=by kernel_rfl
theorem s118x5:V118x5 (xA gZ c e [1,1,0,1,0,1,1,1,1,1,0,1,0] aBe (rR c e))=B118x5 c:=by kernel_rfl
def aI3(c:TC0)(L:Nat)(n1:G.O→Rt):Bool→G.O→Rt:=aJz c n1
theorem j118x2(n1:Nt):aIC c (cu c L) n1=aI3 c L (zG n1):=by rw[aIC,aL,s118x2];rfl
def J118x3(c:TC0)(L:Nat):Bool→Rt:=B118x3 c
theorem j118x3:aIB c (cu c L)=J118x3 c L:=by rw[aIB,aL,s118x3];rfl
def J118x4(c:TC0)(L:Nat):Bool→Rt:=B118x4 c
theorem j118x4:aIA c (cu c L)=J118x4 c L:=by rw[aIA,aL,s118x4];rfl
def aI2(c:TC0)(L:Nat):Bool→Rt:=B118x5 c
theorem j118x5:aIz c (cu c L)=aI2 c L:=by rw[aIz,aL,s118x5];rfl
def sP(c:TC0)(L:Nat):Nat→G.O→Rt
 |0=>fun _=>none
 |n+1=>aJA c (aI3 c L (sP c L n)) (J118x3 c L) (J118x4 c L) (aI2 c L)
theorem u118x1(n:Nat):zG (xL gZ c L [1,0,0,0] nJ (aCi c (cu c L)) n)=sP c L n:=by
 induction n with
 |zero=>rfl
 |succ n ih=>rw[fA,s118x1];simp only[j118x2,j118x3,j118x4,j118x5,ih];rfl
theorem w118x1:X118x1 c (cu c L)=sP c L L:=u118x1 c L L
def F118(c:TC0)(L:Nat):G.O→Rt:=B118x0 c (sP c L L)
theorem e118:V118x0 (xF gZ c (cu c L))=F118 c L:=by rw[s118x0];simp only[w118x1];rfl
theorem c118(a0:G.O)(L n:Nat):CTp L (n+1) 118 [yR 2 a0]=F118 (CTp L n) L a0:=by rw[←e118];exact cg (x:=gZ) (by kernel_rfl) (by kernel_rfl) L n _
def aJy(c:TC0)(a0:G.Y):Rt:=
 some [yR 2 (G.O.mk (2:Int) ([]:List UInt8) ([]:List UInt8) a0 ([]:List UInt8) ([]:List G.O))]
def V119x0(n:Nt):G.Y→Rt:=fun x0=>n [yR 1 x0]
theorem s119x0:V119x0 (xF ii119 c e)=aJy c:=by kernel_rfl
def F119(c:TC0)(L:Nat):G.Y→Rt:=aJy c
theorem e119:V119x0 (xF ii119 c (cu c L))=F119 c L:=s119x0 _ _
theorem c119(a0:G.Y)(L n:Nat):CTp L (n+1) 119 [yR 1 a0]=F119 (CTp L n) L a0:=by rw[←e119];exact cg (x:=ii119) (by kernel_rfl) (by kernel_rfl) L n _
def q120x0(c:TC0)(e:Cu):Kt:=xK uH
def q120x1(c:TC0)(e:Cu):Kt:=xT uH c e [1,1] (q120x0 c e)
def aFU(c:TC0)(e:Cu):Kt:=cH U0 0 (q120x1 c e)
def aJx(c:TC0)(e1:Int→List G.T→Int→Rt)(a0:List G.T):Rt:=
 e1 (List.length a0:Int) a0 (0:Int)
def V120x0(n:Nt):List G.T→Rt:=fun x0=>n [yS 3 x0]
def aDS(c:TC0)(n1:Int→List G.T→Int→Rt)(a7:Int)(a0:List G.T)(a8:Int):Rt:=
 cnd (decide (a8<a7)) (ob (idx a0 a8) fun v0=>
 obL [.bool] (c 148 [yR 3 v0]) fun(r1:Bool×Unit)=>
 cnd r1.1 (some [yI a8]) (n1 a7 a0 (IntKind.i64.wrap (a8+(1:Int))))) (some [yI (-1:Int)])
def aDG(n:Nt):Int→List G.T→Int→Rt:=fun x0 x1 x2=>n [yI x0,yS 3 x1,yI x2]
def X120x1:=aDG (xE uH e [1,0,1,0,0] pY (aFU c e))
theorem s120x0:V120x0 (xF uH c e)=aJx c (X120x1 c e):=by kernel_rfl
theorem s120x1(n1:Nt):aDG (xA uH c e [1,0,1,0,0] pY (lpK U0 pY n1 (aFU c e)))=aDS c (aDG n1):=by kernel_rfl
def qM(c:TC0)(L:Nat):Nat→Int→List G.T→Int→Rt
 |0=>fun _ _ _=>none
 |n+1=>aDS c (qM c L n)
theorem u120x1(n:Nat):aDG (xL uH c L [1,0,1,0,0] pY (aFU c (cu c L)) n)=qM c L n:=by
 induction n with
 |zero=>rfl
 |succ n ih=>rw[fA,s120x1];simp only[ih];rfl
theorem w120x1:X120x1 c (cu c L)=qM c L L:=u120x1 c L L
def F120(c:TC0)(L:Nat):List G.T→Rt:=aJx c (qM c L L)
theorem e120:V120x0 (xF uH c (cu c L))=F120 c L:=by rw[s120x0];simp only[w120x1];rfl
theorem c120(a0:List G.T)(L n:Nat):CTp L (n+1) 120 [yS 3 a0]=F120 (CTp L n) L a0:=by rw[←e120];exact cg (x:=uH) (by kernel_rfl) (by kernel_rfl) L n _
def q121x0(c:TC0)(e:Cu):Kt:=xK uG
def q121x1(c:TC0)(e:Cu):Kt:=xT uG c e [1,1] (q121x0 c e)
def aFT(c:TC0)(e:Cu):Kt:=cH U0 0 (q121x1 c e)
def aJw(c:TC0)(e1:Int→List G.T→Int→G.T→Rt)(a0:List G.T)(b0:G.T):Rt:=
 e1 (List.length a0:Int) a0 (0:Int) b0
def V121x0(n:Nt):List G.T→G.T→Rt:=fun x0 x1=>n [yS 3 x0,yR 3 x1]
def zP(c:TC0)(n1:Int→List G.T→Int→G.T→Rt)(a7:Int)(a0:List G.T)(a8:Int)(b0:G.T):Rt:=
 cnd (decide (a8<a7)) (ob (idx a0 a8) fun v0=>
 obL [.bool,.rc 3] (c 149 [yR 3 v0,yR 3 b0]) fun(r1:Bool×G.T×Unit)=>
 cnd r1.1 (some [yI a8,yR 3 r1.2.1]) (n1 a7 a0 (IntKind.i64.wrap (a8+(1:Int))) r1.2.1)) (some [yI (-1:Int),yR 3 b0])
def aDF(n:Nt):Int→List G.T→Int→G.T→Rt:=fun x0 x1 x2 x3=>n [yI x0,yS 3 x1,yI x2,yR 3 x3]
def X121x1:=aDF (xE uG e [1,0,1,0,0] pX (aFT c e))
theorem s121x0:V121x0 (xF uG c e)=aJw c (X121x1 c e):=by kernel_rfl
theorem s121x1(n1:Nt):aDF (xA uG c e [1,0,1,0,0] pX (lpK U0 pX n1 (aFT c e)))=zP c (aDF n1):=by kernel_rfl
def mB(c:TC0)(L:Nat):Nat→Int→List G.T→Int→G.T→Rt
 |0=>fun _ _ _ _=>none
 |n+1=>zP c (mB c L n)
theorem u121x1(n:Nat):aDF (xL uG c L [1,0,1,0,0] pX (aFT c (cu c L)) n)=mB c L n:=by
 induction n with
 |zero=>rfl
 |succ n ih=>rw[fA,s121x1];simp only[ih];rfl
theorem w121x1:X121x1 c (cu c L)=mB c L L:=u121x1 c L L
def F121(c:TC0)(L:Nat):List G.T→G.T→Rt:=aJw c (mB c L L)
theorem e121:V121x0 (xF uG c (cu c L))=F121 c L:=by rw[s121x0];simp only[w121x1];rfl
theorem c121(a0:List G.T)(b0:G.T)(L n:Nat):CTp L (n+1) 121 [yS 3 a0,yR 3 b0]=F121 (CTp L n) L a0 b0:=by rw[←e121];exact cg (x:=uG) (by kernel_rfl) (by kernel_rfl) L n _
def aJv(c:TC0)(a0:G.T):Rt:=
 cnd (!decide (a0.kind=(3:Int))) (some [yS 3 ([]:List G.T)]) (some [yS 3 a0.args])
def V122x0(n:Nt):G.T→Rt:=fun x0=>n [yR 3 x0]
theorem s122x0:V122x0 (xF ii122 c e)=aJv c:=by kernel_rfl
def F122(c:TC0)(L:Nat):G.T→Rt:=aJv c
theorem e122:V122x0 (xF ii122 c (cu c L))=F122 c L:=s122x0 _ _
theorem c122(a0:G.T)(L n:Nat):CTp L (n+1) 122 [yR 3 a0]=F122 (CTp L n) L a0:=by rw[←e122];exact cg (x:=ii122) (by kernel_rfl) (by kernel_rfl) L n _
def q123x0(c:TC0)(e:Cu):Kt:=xK lO
def q123x1(c:TC0)(e:Cu):Kt:=xT lO c e [1,1,1] (q123x0 c e)
def nV(c:TC0)(e:Cu):Kt:=cH U0 0 (q123x1 c e)
def aJu(c:TC0)(k1:Bool→Rt)(k2:Bool→Rt)(k3:Bool→Rt)(k4:Bool→Rt)(a0:G.O):Rt:=
 cnd (decide (a0.kind=(1:Int))) (obL [.str,.str] (c 112 [yT a0.num,yT a0.den]) fun(r0:List UInt8×List UInt8×Unit)=>
 cnd (decide (a0.sym=(G.Y.mk ([]:List UInt8) ([]:List UInt8)))) (cnd (decide (a0.text=([]:List UInt8))) (cnd (decide ((List.length a0.pair:Int)=(0:Int))) (cnd (decide (r0.1=a0.num)) (cnd (decide (r0.2.1=a0.den)) (obL [i6] (c 150 [yT r0.1]) fun(r1:Int×Unit)=>
 cnd (decide (r1.1≤(100:Int))) (obL [i6] (c 150 [yT r0.2.1]) fun(r2:Int×Unit)=>
 k1 (decide (r2.1≤(100:Int)))) (k1 false)) (k1 false)) (k1 false)) (k1 false)) (k1 false)) (k1 false)) (cnd (decide (a0.kind=(2:Int))) (obL [.bool] (c 124 [yR 1 a0.sym]) fun(r3:Bool×Unit)=>
 cnd r3.1 (cnd (decide (a0.num=([]:List UInt8))) (cnd (decide (a0.den=([]:List UInt8))) (cnd (decide (a0.text=([]:List UInt8))) (k2 (decide ((List.length a0.pair:Int)=(0:Int)))) (k2 false)) (k2 false)) (k2 false)) (k2 false)) (cnd (decide (a0.kind=(3:Int))) (cnd (decide (a0.sym=(G.Y.mk ([]:List UInt8) ([]:List UInt8)))) (cnd (decide (a0.num=([]:List UInt8))) (cnd (decide (a0.den=([]:List UInt8))) (cnd (decide ((List.length a0.text:Int)≤(200:Int))) (k3 (decide ((List.length a0.pair:Int)=(0:Int)))) (k3 false)) (k3 false)) (k3 false)) (k3 false)) (cnd (decide (a0.kind=(4:Int))) (cnd (decide (a0.sym=(G.Y.mk ([]:List UInt8) ([]:List UInt8)))) (cnd (decide (a0.num=([]:List UInt8))) (cnd (decide (a0.den=([]:List UInt8))) (cnd (decide (a0.text=([]:List UInt8))) (cnd (decide ((List.length a0.pair:Int)=(2:Int))) (ob (idx a0.pair (0:Int)) fun v4=>
 obL [.bool] (c 123 [yR 2 v4]) fun(r5:Bool×Unit)=>
 cnd r5.1 (ob (idx a0.pair (1:Int)) fun v6=>
 obL [.bool] (c 123 [yR 2 v6]) fun(r7:Bool×Unit)=>
 k4 r7.1) (k4 false)) (k4 false)) (k4 false)) (k4 false)) (k4 false)) (k4 false)) (some [yB false]))))
def V123x0(n:Nt):G.O→Rt:=fun x0=>n [yR 2 x0]
def B123x1(c:TC0)(a2:Bool):Rt:=
 some [yB a2]
def V123x1(n:Nt):Bool→Rt:=fun x0=>n [yB x0]
def aIy:=V123x1 (xD lO e [1,1,0,1,0,1,0,1,1,0] aBd (nV c e))
def B123x2(c:TC0)(a2:Bool):Rt:=
 some [yB a2]
def V123x2(n:Nt):Bool→Rt:=fun x0=>n [yB x0]
def aIx:=V123x2 (xD lO e [1,1,0,1,0,1,1,1,0,1,0] aBc (nV c e))
def B123x3(c:TC0)(a2:Bool):Rt:=
 some [yB a2]
def V123x3(n:Nt):Bool→Rt:=fun x0=>n [yB x0]
def aIw:=V123x3 (xD lO e [1,1,0,1,0,1,1,1,1,1,0,1,0] aBb (nV c e))
def B123x4(c:TC0)(a2:Bool):Rt:=
 some [yB a2]
def V123x4(n:Nt):Bool→Rt:=fun x0=>n [yB x0]
def aIv:=V123x4 (xD lO e [1,1,0,1,0,1,1,1,1,1,1,1,0,1,0] aBa (nV c e))
theorem s123x0:V123x0 (xF lO c e)=aJu c (aIy c e) (aIx c e) (aIw c e) (aIv c e):=by kernel_rfl
theorem s123x1:V123x1 (xA lO c e [1,1,0,1,0,1,0,1,1,0] aBd (nV c e))=B123x1 c:=by kernel_rfl
theorem s123x2:V123x2 (xA lO c e [1,1,0,1,0,1,1,1,0,1,0] aBc (nV c e))=B123x2 c:=by kernel_rfl
theorem s123x3:V123x3 (xA lO c e [1,1,0,1,0,1,1,1,1,1,0,1,0] aBb (nV c e))=B123x3 c:=by kernel_rfl
theorem s123x4:V123x4 (xA lO c e [1,1,0,1,0,1,1,1,1,1,1,1,0,1,0] aBa (nV c e))=B123x4 c:=by kernel_rfl
def J123x1(c:TC0)(L:Nat):Bool→Rt:=B123x1 c
theorem j123x1:aIy c (cu c L)=J123x1 c L:=by rw[aIy,aL,s123x1];rfl
def J123x2(c:TC0)(L:Nat):Bool→Rt:=B123x2 c
theorem j123x2:aIx c (cu c L)=J123x2 c L:=by rw[aIx,aL,s123x2];rfl
def J123x3(c:TC0)(L:Nat):Bool→Rt:=B123x3 c
theorem j123x3:aIw c (cu c L)=J123x3 c L:=by rw[aIw,aL,s123x3];rfl
def J123x4(c:TC0)(L:Nat):Bool→Rt:=B123x4 c
theorem j123x4:aIv c (cu c L)=J123x4 c L:=by rw[aIv,aL,s123x4];rfl
def F123(c:TC0)(L:Nat):G.O→Rt:=aJu c (J123x1 c L) (J123x2 c L) (J123x3 c L) (J123x4 c L)
theorem e123:V123x0 (xF lO c (cu c L))=F123 c L:=by rw[s123x0];simp only[j123x1,j123x2,j123x3,j123x4];rfl
theorem c123(a0:G.O)(L n:Nat):CTp L (n+1) 123 [yR 2 a0]=F123 (CTp L n) L a0:=by rw[←e123];exact cg (x:=lO) (by kernel_rfl) (by kernel_rfl) L n _
def q124x0(c:TC0)(e:Cu):Kt:=xK aAz
def aJt(c:TC0)(k1:Bool→Rt)(a0:G.Y):Rt:=
 obL [.bool] (c 151 [yT a0.package]) fun(r0:Bool×Unit)=>
 cnd r0.1 (cnd (decide ((1:Int)≤(List.length a0.name:Int))) (k1 (decide ((List.length a0.name:Int)≤(40:Int)))) (k1 false)) (k1 false)
def V124x0(n:Nt):G.Y→Rt:=fun x0=>n [yR 1 x0]
def B124x1(c:TC0)(a2:Bool):Rt:=
 some [yB a2]
def V124x1(n:Nt):Bool→Rt:=fun x0=>n [yB x0]
def aIu:=V124x1 (xD aAz e [1,1,0] aA9 (q124x0 c e))
theorem s124x0:V124x0 (xF aAz c e)=aJt c (aIu c e):=by kernel_rfl
theorem s124x1:V124x1 (xA aAz c e [1,1,0] aA9 (q124x0 c e))=B124x1 c:=by kernel_rfl
def J124x1(c:TC0)(L:Nat):Bool→Rt:=B124x1 c
theorem j124x1:aIu c (cu c L)=J124x1 c L:=by rw[aIu,aL,s124x1];rfl
def F124(c:TC0)(L:Nat):G.Y→Rt:=aJt c (J124x1 c L)
theorem e124:V124x0 (xF aAz c (cu c L))=F124 c L:=by rw[s124x0];simp only[j124x1];rfl
theorem c124(a0:G.Y)(L n:Nat):CTp L (n+1) 124 [yR 1 a0]=F124 (CTp L n) L a0:=by rw[←e124];exact cg (x:=aAz) (by kernel_rfl) (by kernel_rfl) L n _
def q126x0(c:TC0)(e:Cu):Kt:=xK iL
def q126x1(c:TC0)(e:Cu):Kt:=xT iL c e [1,1] (q126x0 c e)
def aCh(c:TC0)(e:Cu):Kt:=cH U0 0 (q126x1 c e)
def q126x3(c:TC0)(e:Cu)(n1:Nt):Kt:=lpK U0 nI n1 (aCh c e)
def q126x4(c:TC0)(e:Cu)(n1:Nt):Kt:=cH U0 1 (q126x3 c e n1)
def q126x5(c:TC0)(e:Cu)(n1:Nt):Kt:=cH U0 2 (q126x4 c e n1)
def aCg(c:TC0)(e:Cu)(n1:Nt):Kt:=cH U0 3 (q126x5 c e n1)
def aFS(c:TC0)(e:Cu)(n1:Nt):Kt:=cH U0 5 (q126x5 c e n1)
def q126x8(c:TC0)(e:Cu)(n2:Nt)(n1:Nt):Kt:=lpK U0 nH n2 (aCg c e n1)
def q126x9(c:TC0)(e:Cu)(n2:Nt)(n1:Nt):Kt:=xT iL c e [1,0,0,0,1,0,0,1,1,1,0,0,0,1] (q126x8 c e n2 n1)
def aJs(c:TC0)(e1:List UInt8→Int→Rt)(a0:List UInt8)(a1:Int):Rt:=
 e1 a0 a1
def V126x0(n:Nt):List UInt8→Int→Rt:=fun x0 x1=>n [yT x0,yI x1]
def aDR(c:TC0)(n1:List UInt8→Int→Rt)(e2:List UInt8→Int→Rt)(e3:Int→List UInt8→Int→Rt)(a0:List UInt8)(a1:Int):Rt:=
 cnd (decide (a1<(List.length a0:Int))) (ob (idx a0 a1) fun v0=>
 obL [.bool] (c 152 [⟨(.int .u8),(v0.toNat:Int)⟩]) fun(r1:Bool×Unit)=>
 cnd r1.1 (n1 a0 (IntKind.i64.wrap (a1+(1:Int)))) (ob (idx a0 a1) fun v2=>
 cnd (decide ((v2.toNat:Int)=(59:Int))) (e2 a0 a1) (obL [.bool] (c 153 [yT a0,yI a1,⟨(.int .u8),(35:Int)⟩,⟨(.int .u8),(124:Int)⟩]) fun(r3:Bool×Unit)=>
 cnd r3.1 (e3 (1:Int) a0 (IntKind.i64.wrap (a1+(2:Int)))) (some [yI a1,yB true])))) (some [yI a1,yB true])
def jK(n:Nt):List UInt8→Int→Rt:=fun x0 x1=>n [yT x0,yI x1]
def X126x1:=jK (xE iL e [1,0,0,0] nI (aCh c e))
def B126x2(c:TC0)(k4:Bool→List UInt8→Int→Rt)(a0:List UInt8)(a1:Int):Rt:=
 cnd (decide (a1<(List.length a0:Int))) (ob (idx a0 a1) fun v0=>
 k4 (!decide ((v0.toNat:Int)=(10:Int))) a0 a1) (k4 false a0 a1)
def zF(n:Nt):List UInt8→Int→Rt:=fun x0 x1=>n [yT x0,yI x1]
def X126x2(n1:Nt):=zF (xE iL e [1,0,0,0,1,0,0,1,1,1,0,0,0] nH (aCg c e n1))
def B126x3(c:TC0)(n3:Int→List UInt8→Int→Rt)(n1:List UInt8→Int→Rt)(a6:Int)(a0:List UInt8)(a1:Int):Rt:=
 cnd (decide ((0:Int)<a6)) (cnd (decide ((List.length a0:Int)≤a1)) (some [yI a1,yB false]) (obL [.bool] (c 153 [yT a0,yI a1,⟨(.int .u8),(35:Int)⟩,⟨(.int .u8),(124:Int)⟩]) fun(r0:Bool×Unit)=>
 cnd r0.1 (n3 (IntKind.i64.wrap (a6+(1:Int))) a0 (IntKind.i64.wrap (a1+(2:Int)))) (obL [.bool] (c 153 [yT a0,yI a1,⟨(.int .u8),(124:Int)⟩,⟨(.int .u8),(35:Int)⟩]) fun(r1:Bool×Unit)=>
 cnd r1.1 (n3 (IntKind.i64.wrap (a6-(1:Int))) a0 (IntKind.i64.wrap (a1+(2:Int)))) (n3 a6 a0 (IntKind.i64.wrap (a1+(1:Int))))))) (n1 a0 a1)
def aDE(n:Nt):Int→List UInt8→Int→Rt:=fun x0 x1 x2=>n [yI x0,yT x1,yI x2]
def X126x3(n1:Nt):=aDE (xE iL e [1,0,0,0,1,0,0,1,1,1,1,1,0,1,1,0,0] pW (aFS c e n1))
def B126x4(c:TC0)(n2:List UInt8→Int→Rt)(n1:List UInt8→Int→Rt)(a33:Bool)(a0:List UInt8)(a1:Int):Rt:=
 cnd a33 (n2 a0 (IntKind.i64.wrap (a1+(1:Int)))) (n1 a0 a1)
def V126x4(n:Nt):Bool→List UInt8→Int→Rt:=fun x0 x1 x2=>n [yB x0,yT x1,yI x2]
def aIt(n2:Nt)(n1:Nt):=V126x4 (xD iL e [1,0,0,0,1,0,0,1,1,1,0,0,0,0,1,0] aA8 (q126x9 c e n2 n1))
theorem s126x0:V126x0 (xF iL c e)=aJs c (X126x1 c e):=by kernel_rfl
theorem s126x1(n1:Nt):jK (xA iL c e [1,0,0,0] nI (lpK U0 nI n1 (aCh c e)))=aDR c (jK n1) (X126x2 c e n1) (X126x3 c e n1):=by kernel_rfl
theorem s126x2(n2:Nt)(n1:Nt):zF (xA iL c e [1,0,0,0,1,0,0,1,1,1,0,0,0] nH (lpK U0 nH n2 (aCg c e n1)))=B126x2 c (aIt c e n2 n1):=by kernel_rfl
theorem s126x3(n3:Nt)(n1:Nt):aDE (xA iL c e [1,0,0,0,1,0,0,1,1,1,1,1,0,1,1,0,0] pW (lpK U0 pW n3 (aFS c e n1)))=B126x3 c (aDE n3) (jK n1):=by kernel_rfl
theorem s126x4(n2:Nt)(n1:Nt):V126x4 (xA iL c e [1,0,0,0,1,0,0,1,1,1,0,0,0,0,1,0] aA8 (q126x9 c e n2 n1))=B126x4 c (zF n2) (jK n1):=by kernel_rfl
def aDz(c:TC0)(L:Nat)(n1:List UInt8→Int→Rt):Nat→Int→List UInt8→Int→Rt
 |0=>fun _ _ _=>none
 |n+1=>B126x3 c (aDz c L n1 n) n1
theorem u126x3(n1:Nt)(n:Nat):aDE (xL iL c L [1,0,0,0,1,0,0,1,1,1,1,1,0,1,1,0,0] pW (aFS c (cu c L) n1) n)=aDz c L (jK n1) n:=by
 induction n with
 |zero=>rfl
 |succ n ih=>rw[fA,s126x3];simp only[ih];rfl
theorem w126x3(n1:Nt):X126x3 c (cu c L) n1=aDz c L (jK n1) L:=u126x3 c L n1 L
def J126x4(c:TC0)(L:Nat)(n2:List UInt8→Int→Rt)(n1:List UInt8→Int→Rt):Bool→List UInt8→Int→Rt:=B126x4 c n2 n1
theorem j126x4(n2:Nt)(n1:Nt):aIt c (cu c L) n2 n1=J126x4 c L (zF n2) (jK n1):=by rw[aIt,aL,s126x4];rfl
def aDA(c:TC0)(L:Nat)(n1:List UInt8→Int→Rt):Nat→List UInt8→Int→Rt
 |0=>fun _ _=>none
 |n+1=>B126x2 c (J126x4 c L (aDA c L n1 n) n1)
theorem u126x2(n1:Nt)(n:Nat):zF (xL iL c L [1,0,0,0,1,0,0,1,1,1,0,0,0] nH (aCg c (cu c L) n1) n)=aDA c L (jK n1) n:=by
 induction n with
 |zero=>rfl
 |succ n ih=>rw[fA,s126x2];simp only[j126x4,ih];rfl
theorem w126x2(n1:Nt):X126x2 c (cu c L) n1=aDA c L (jK n1) L:=u126x2 c L n1 L
def mA(c:TC0)(L:Nat):Nat→List UInt8→Int→Rt
 |0=>fun _ _=>none
 |n+1=>aDR c (mA c L n) (aDA c L (mA c L n) L) (aDz c L (mA c L n) L)
theorem u126x1(n:Nat):jK (xL iL c L [1,0,0,0] nI (aCh c (cu c L)) n)=mA c L n:=by
 induction n with
 |zero=>rfl
 |succ n ih=>rw[fA,s126x1];simp only[w126x2,w126x3,ih];rfl
theorem w126x1:X126x1 c (cu c L)=mA c L L:=u126x1 c L L
def F126(c:TC0)(L:Nat):List UInt8→Int→Rt:=aJs c (mA c L L)
theorem e126:V126x0 (xF iL c (cu c L))=F126 c L:=by rw[s126x0];simp only[w126x1];rfl
theorem c126(a0:List UInt8)(a1:Int)(L n:Nat):CTp L (n+1) 126 [yT a0,yI a1]=F126 (CTp L n) L a0 a1:=by rw[←e126];exact cg (x:=iL) (by kernel_rfl) (by kernel_rfl) L n _
def aCf(c:TC0)(e:Cu):Kt:=xK iK
def q127x1(c:TC0)(e:Cu):Kt:=xT iK c e [1,1,1,1] (aCf c e)
def vT(c:TC0)(e:Cu):Kt:=cH U0 0 (q127x1 c e)
def q127x3(c:TC0)(e:Cu):Kt:=xT iK c e [1,1,1,0,1,0,1,1,1,1,1,1,1,0,1,1,1] (vT c e)
def q127x4(c:TC0)(e:Cu):Kt:=xT iK c e [1,1,1,1,1,1,1,1,1] (aCf c e)
def q127x5(c:TC0)(e:Cu):Kt:=cH U0 1 (q127x4 c e)
def zN(c:TC0)(k1:Bool→Int→G.K→G.X→G.K→G.X→Rt)(k2:Int→G.K→G.X→G.K→G.X→Rt)(k3:Int→G.K→G.X→G.K→G.X→Rt)(k4:Bool→Int→Int→G.K→G.X→G.K→G.X→Rt)(a0:List UInt8)(a1:Int):Rt:=
 ob (idx a0 a1) fun v0=>
 cnd (decide ((v0.toNat:Int)=(40:Int))) (some [yR 18 (G.K.mk (1:Int) a1 ([]:List UInt8) ([]:List UInt8) ([]:List UInt8)),yI (IntKind.i64.wrap (a1+(1:Int))),yR 17 (G.X.mk (0:Int) (0:Int))]) (cnd (decide ((v0.toNat:Int)=(41:Int))) (some [yR 18 (G.K.mk (2:Int) a1 ([]:List UInt8) ([]:List UInt8) ([]:List UInt8)),yI (IntKind.i64.wrap (a1+(1:Int))),yR 17 (G.X.mk (0:Int) (0:Int))]) (cnd (decide ((v0.toNat:Int)=(39:Int))) (some [yR 18 (G.K.mk (4:Int) a1 ([]:List UInt8) ([]:List UInt8) ([]:List UInt8)),yI (IntKind.i64.wrap (a1+(1:Int))),yR 17 (G.X.mk (0:Int) (0:Int))]) (cnd (decide ((v0.toNat:Int)=(34:Int))) (obL [.str,i6,.rc 17] (c 154 [yT a0,yI (IntKind.i64.wrap (a1+(1:Int))),⟨(.int .u8),(34:Int)⟩]) fun(r1:List UInt8×Int×G.X×Unit)=>
 cnd (decide (r1.2.2.1.err=(0:Int))) (k1 (decide ((200:Int)<(List.length r1.1:Int))) r1.2.1 (G.K.mk (7:Int) a1 ([]:List UInt8) r1.1 ([]:List UInt8)) r1.2.2.1 (G.K.mk (0:Int) (0:Int) ([]:List UInt8) ([]:List UInt8) ([]:List UInt8)) (G.X.mk (0:Int) (0:Int))) (k1 false r1.2.1 (G.K.mk (7:Int) a1 ([]:List UInt8) r1.1 ([]:List UInt8)) r1.2.2.1 (G.K.mk (0:Int) (0:Int) ([]:List UInt8) ([]:List UInt8) ([]:List UInt8)) (G.X.mk (0:Int) (0:Int)))) (cnd (decide ((v0.toNat:Int)=(124:Int))) (obL [.str,i6,.rc 17] (c 154 [yT a0,yI (IntKind.i64.wrap (a1+(1:Int))),⟨(.int .u8),(124:Int)⟩]) fun(r2:List UInt8×Int×G.X×Unit)=>
 cnd (decide (r2.2.2.1.err=(0:Int))) (obL [.rc 17] (c 155 [yR 18 (G.K.mk (6:Int) a1 ([]:List UInt8) r2.1 ([]:List UInt8)),yB true]) fun(r3:G.X×Unit)=>
 k2 r2.2.1 (G.K.mk (6:Int) a1 ([]:List UInt8) r2.1 ([]:List UInt8)) r3.1 (G.K.mk (0:Int) (0:Int) ([]:List UInt8) ([]:List UInt8) ([]:List UInt8)) (G.X.mk (0:Int) (0:Int))) (k2 r2.2.1 (G.K.mk (6:Int) a1 ([]:List UInt8) r2.1 ([]:List UInt8)) r2.2.2.1 (G.K.mk (0:Int) (0:Int) ([]:List UInt8) ([]:List UInt8) ([]:List UInt8)) (G.X.mk (0:Int) (0:Int)))) (obL [.bool] (c 156 [⟨(.int .u8),(v0.toNat:Int)⟩]) fun(r4:Bool×Unit)=>
 cnd (!r4.1) (obL [.rc 17] (c 103 [yI (12:Int),yI a1]) fun(r5:G.X×Unit)=>
 some [yR 18 (G.K.mk (0:Int) a1 ([]:List UInt8) ([]:List UInt8) ([]:List UInt8)),yI a1,yR 17 r5.1]) (obL [i6] (c 157 [yT a0,yI a1]) fun(r6:Int×Unit)=>
 ob (slc a0 a1 r6.1) fun v7=>
 obL [.bool] (c 153 [yT a0,yI r6.1,⟨(.int .u8),(58:Int)⟩,⟨(.int .u8),(58:Int)⟩]) fun(r8:Bool×Unit)=>
 cnd r8.1 (obL [.rc 18,i6,.rc 17] (c 158 [yT a0,yR 18 (G.K.mk (0:Int) a1 ([]:List UInt8) ([]:List UInt8) ([]:List UInt8)),yT v7,yI r6.1]) fun(r9:G.K×Int×G.X×Unit)=>
 some [yR 18 r9.1,yI r9.2.1,yR 17 r9.2.2.1]) (obL [.str,.str,.bool] (c 159 [yT v7]) fun(r10:List UInt8×List UInt8×Bool×Unit)=>
 cnd (decide (v7=([46]:List UInt8))) (k3 r6.1 (G.K.mk (3:Int) a1 ([]:List UInt8) ([]:List UInt8) ([]:List UInt8)) (G.X.mk (0:Int) (0:Int)) (G.K.mk (0:Int) (0:Int) ([]:List UInt8) ([]:List UInt8) ([]:List UInt8)) (G.X.mk (0:Int) (0:Int))) (cnd r10.2.2.1 (obL [.str] (c 160 [yT r10.2.1]) fun(r11:List UInt8×Unit)=>
 cnd (decide (r11.1=([48]:List UInt8))) (obL [.rc 17] (c 103 [yI (12:Int),yI a1]) fun(r12:G.X×Unit)=>
 some [yR 18 (G.K.mk (0:Int) a1 ([]:List UInt8) ([]:List UInt8) ([]:List UInt8)),yI r6.1,yR 17 r12.1]) (obL [.str] (c 160 [yT r10.1]) fun(r13:List UInt8×Unit)=>
 obL [.str] (c 160 [yT r10.2.1]) fun(r14:List UInt8×Unit)=>
 obL [.str,.str] (c 112 [yT r13.1,yT r14.1]) fun(r15:List UInt8×List UInt8×Unit)=>
 obL [i6] (c 150 [yT r15.1]) fun(r16:Int×Unit)=>
 cnd (decide ((100:Int)<r16.1)) (k4 true a1 r6.1 (G.K.mk (5:Int) a1 ([]:List UInt8) r15.1 r15.2.1) (G.X.mk (0:Int) (0:Int)) (G.K.mk (0:Int) (0:Int) ([]:List UInt8) ([]:List UInt8) ([]:List UInt8)) (G.X.mk (0:Int) (0:Int))) (obL [i6] (c 150 [yT r15.2.1]) fun(r17:Int×Unit)=>
 k4 (decide ((100:Int)<r17.1)) a1 r6.1 (G.K.mk (5:Int) a1 ([]:List UInt8) r15.1 r15.2.1) (G.X.mk (0:Int) (0:Int)) (G.K.mk (0:Int) (0:Int) ([]:List UInt8) ([]:List UInt8) ([]:List UInt8)) (G.X.mk (0:Int) (0:Int))))) (obL [.rc 17] (c 155 [yR 18 (G.K.mk (6:Int) a1 ([]:List UInt8) v7 ([]:List UInt8)),yB false]) fun(r18:G.X×Unit)=>
 k3 r6.1 (G.K.mk (6:Int) a1 ([]:List UInt8) v7 ([]:List UInt8)) r18.1 (G.K.mk (0:Int) (0:Int) ([]:List UInt8) ([]:List UInt8) ([]:List UInt8)) (G.X.mk (0:Int) (0:Int)))))))))))
def V127x0(n:Nt):List UInt8→Int→Rt:=fun x0 x1=>n [yT x0,yI x1]
def B127x1(c:TC0)(k5:Int→G.K→G.X→G.K→G.X→Rt)(a65:Bool)(a1:Int)(b107:G.K)(b108:G.X)(b104:G.K)(b106:G.X):Rt:=
 cnd a65 (obL [.rc 17] (c 103 [yI (2:Int),yI b107.pos]) fun(r0:G.X×Unit)=>
 k5 a1 b107 r0.1 b104 b106) (k5 a1 b107 b108 b104 b106)
def V127x1(n:Nt):Bool→Int→G.K→G.X→G.K→G.X→Rt:=fun x0 x1 x2 x3 x4 x5=>n [yB x0,yI x1,yR 18 x2,yR 17 x3,yR 18 x4,yR 17 x5]
def aIs:=V127x1 (xD iK e [1,1,1,0,1,0,1,1,1,1,1,1,1,0,1,1,0,1,0] aA7 (q127x3 c e))
def B127x2(c:TC0)(a1:Int)(b107:G.K)(b108:G.X)(b104:G.K)(b106:G.X):Rt:=
 some [yR 18 b107,yI a1,yR 17 b108]
def V127x2(n:Nt):Int→G.K→G.X→G.K→G.X→Rt:=fun x0 x1 x2 x3 x4=>n [yI x0,yR 18 x1,yR 17 x2,yR 18 x3,yR 17 x4]
def aIr:=V127x2 (xD iK e [1,1,1,0,1,0,1,1,1,1,1,1,1,1,1,0,1,1,1,0] aA6 (vT c e))
def B127x3(c:TC0)(a10:Int)(b107:G.K)(b108:G.X)(b104:G.K)(b106:G.X):Rt:=
 some [yR 18 b107,yI a10,yR 17 b108]
def V127x3(n:Nt):Int→G.K→G.X→G.K→G.X→Rt:=fun x0 x1 x2 x3 x4=>n [yI x0,yR 18 x1,yR 17 x2,yR 18 x3,yR 17 x4]
def aDq:=V127x3 (xD iK e [1,1,1,1,1,1,1,1,1,0] aA5 (aCf c e))
def B127x4(c:TC0)(k3:Int→G.K→G.X→G.K→G.X→Rt)(a163:Bool)(a1:Int)(a10:Int)(b107:G.K)(b108:G.X)(b104:G.K)(b106:G.X):Rt:=
 cnd a163 (obL [.rc 17] (c 103 [yI (2:Int),yI a1]) fun(r0:G.X×Unit)=>
 some [yR 18 b107,yI a10,yR 17 r0.1]) (k3 a10 b107 b108 b104 b106)
def V127x4(n:Nt):Bool→Int→Int→G.K→G.X→G.K→G.X→Rt:=fun x0 x1 x2 x3 x4 x5 x6=>n [yB x0,yI x1,yI x2,yR 18 x3,yR 17 x4,yR 18 x5,yR 17 x6]
def aIq:=V127x4 (xD iK e [1,1,1,1,1,1,1,1,0,0,1,1,1,0,1,1,1,1,0] aA4 (q127x5 c e))
def B127x5(c:TC0)(a1:Int)(b107:G.K)(b108:G.X)(b104:G.K)(b106:G.X):Rt:=
 some [yR 18 b107,yI a1,yR 17 b108]
def V127x5(n:Nt):Int→G.K→G.X→G.K→G.X→Rt:=fun x0 x1 x2 x3 x4=>n [yI x0,yR 18 x1,yR 17 x2,yR 18 x3,yR 17 x4]
def aIp:=V127x5 (xD iK e [1,1,1,0,1,0,1,1,1,1,1,1,1,0,1,1,1,0] aA3 (vT c e))
theorem s127x0:V127x0 (xF iK c e)=zN c (aIs c e) (aIr c e) (aDq c e) (aIq c e):=by kernel_rfl
theorem s127x1:V127x1 (xA iK c e [1,1,1,0,1,0,1,1,1,1,1,1,1,0,1,1,0,1,0] aA7 (q127x3 c e))=B127x1 c (aIp c e):=by kernel_rfl
theorem s127x2:V127x2 (xA iK c e [1,1,1,0,1,0,1,1,1,1,1,1,1,1,1,0,1,1,1,0] aA6 (vT c e))=B127x2 c:=by kernel_rfl
theorem s127x3:V127x3 (xA iK c e [1,1,1,1,1,1,1,1,1,0] aA5 (aCf c e))=B127x3 c:=by kernel_rfl
theorem s127x4:V127x4 (xA iK c e [1,1,1,1,1,1,1,1,0,0,1,1,1,0,1,1,1,1,0] aA4 (q127x5 c e))=B127x4 c (aDq c e):=by kernel_rfl
theorem s127x5:V127x5 (xA iK c e [1,1,1,0,1,0,1,1,1,1,1,1,1,0,1,1,1,0] aA3 (vT c e))=B127x5 c:=by kernel_rfl
def J127x2(c:TC0)(L:Nat):Int→G.K→G.X→G.K→G.X→Rt:=B127x2 c
theorem j127x2:aIr c (cu c L)=J127x2 c L:=by rw[aIr,aL,s127x2];rfl
def aI1(c:TC0)(L:Nat):Int→G.K→G.X→G.K→G.X→Rt:=B127x3 c
theorem j127x3:aDq c (cu c L)=aI1 c L:=by rw[aDq,aL,s127x3];rfl
def J127x4(c:TC0)(L:Nat):Bool→Int→Int→G.K→G.X→G.K→G.X→Rt:=B127x4 c (aI1 c L)
theorem j127x4:aIq c (cu c L)=J127x4 c L:=by rw[aIq,aL,s127x4];simp only[j127x3];rfl
def J127x5(c:TC0)(L:Nat):Int→G.K→G.X→G.K→G.X→Rt:=B127x5 c
theorem j127x5:aIp c (cu c L)=J127x5 c L:=by rw[aIp,aL,s127x5];rfl
def J127x1(c:TC0)(L:Nat):Bool→Int→G.K→G.X→G.K→G.X→Rt:=B127x1 c (J127x5 c L)
theorem j127x1:aIs c (cu c L)=J127x1 c L:=by rw[aIs,aL,s127x1];simp only[j127x5];rfl
def F127(c:TC0)(L:Nat):List UInt8→Int→Rt:=zN c (J127x1 c L) (J127x2 c L) (aI1 c L) (J127x4 c L)
theorem e127:V127x0 (xF iK c (cu c L))=F127 c L:=by rw[s127x0];simp only[j127x1,j127x2,j127x3,j127x4];rfl
theorem c127(a0:List UInt8)(a1:Int)(L n:Nat):CTp L (n+1) 127 [yT a0,yI a1]=F127 (CTp L n) L a0 a1:=by rw[←e127];exact cg (x:=iK) (by kernel_rfl) (by kernel_rfl) L n _
end
end Go.TV
namespace Go.TV
open Go.AI Go.PI Go.Proofs
set_option maxRecDepth 20000
noncomputable section
variable(c:TC0)(e:Cu)(L:Nat)
def aCe(c:TC0)(e:Cu):Kt:=xK iJ
def q128x1(c:TC0)(e:Cu):Kt:=xT iJ c e [1,1,1,1] (aCe c e)
def aCd(c:TC0)(e:Cu):Kt:=cH U0 0 (q128x1 c e)
def q128x3(c:TC0)(e:Cu)(n1:Nt):Kt:=lpK U0 nG n1 (aCd c e)
def q128x4(c:TC0)(e:Cu)(n1:Nt):Kt:=cH U0 1 (q128x3 c e n1)
def q128x5(c:TC0)(e:Cu)(n1:Nt):Kt:=xT iJ c e [1,1,1,0,0,0,1,0,1] (q128x4 c e n1)
def q128x6(c:TC0)(e:Cu):Kt:=xT iJ c e [1,1,1,1,0,1,1] (aCe c e)
def aFR(c:TC0)(e:Cu):Kt:=cH U0 3 (q128x6 c e)
def B128x0(c:TC0)(e1:Int→List G.O→G.P→G.O→G.O→G.X→Rt)(a1:Int)(b0:G.P):Rt:=
 obL [.rc 2] (c 76 []) fun(r0:G.O×Unit)=>
 e1 a1 ([]:List G.O) b0 r0.1 (G.O.mk (0:Int) ([]:List UInt8) ([]:List UInt8) (G.Y.mk ([]:List UInt8) ([]:List UInt8)) ([]:List UInt8) ([]:List G.O)) (G.X.mk (0:Int) (0:Int))
def V128x0(n:Nt):Int→G.P→Rt:=fun x0 x1=>n [yI x0,yR 19 x1]
def B128x1(c:TC0)(k2:Bool→List G.O→Int→G.P→G.O→G.O→G.X→Rt)(k3:List G.O→G.P→G.O→G.O→G.X→Rt)(a1:Int)(a6:List G.O)(b0:G.P)(b107:G.O)(b104:G.O)(b105:G.X):Rt:=
 ob (idx b0.t b0.pos) fun v0=>
 cnd (!decide (v0.kind=(2:Int))) (ob (idx b0.t b0.pos) fun v1=>
 cnd (decide (v1.kind=(3:Int))) (k2 (decide ((0:Int)<(List.length a6:Int))) a6 a1 b0 b107 b104 b105) (k2 false a6 a1 b0 b107 b104 b105)) (k3 a6 b0 b107 b104 b105)
def zE(n:Nt):Int→List G.O→G.P→G.O→G.O→G.X→Rt:=fun x0 x1 x2 x3 x4 x5=>n [yI x0,yS 2 x1,yR 19 x2,yR 2 x3,yR 2 x4,yR 17 x5]
def X128x1:=zE (xE iJ e [1,1,1,0,0,0] nG (aCd c e))
def B128x2(c:TC0)(k3:List G.O→G.P→G.O→G.O→G.X→Rt)(n1:Int→List G.O→G.P→G.O→G.O→G.X→Rt)(a43:Bool)(a6:List G.O)(a1:Int)(b0:G.P)(b107:G.O)(b104:G.O)(b105:G.X):Rt:=
 cnd a43 (obL [.rc 2,.rc 17,.rc 19] (c 104 [yI a1,yR 19 (G.P.mk b0.l b0.current b0.t (IntKind.i64.wrap (b0.pos+(1:Int))))]) fun(r0:G.O×G.X×G.P×Unit)=>
 cnd (!decide (r0.2.1.err=(0:Int))) (some [yR 2 (G.O.mk (0:Int) ([]:List UInt8) ([]:List UInt8) (G.Y.mk ([]:List UInt8) ([]:List UInt8)) ([]:List UInt8) ([]:List G.O)),yR 17 r0.2.1,yR 19 r0.2.2.1]) (ob (idx r0.2.2.1.t r0.2.2.1.pos) fun v1=>
 cnd (decide (v1.kind=(2:Int))) (k3 a6 r0.2.2.1 r0.1 b104 b105) (cnd (decide (v1.kind=(0:Int))) (obL [.rc 17] (c 103 [yI (11:Int),yI v1.pos]) fun(r2:G.X×Unit)=>
 some [yR 2 (G.O.mk (0:Int) ([]:List UInt8) ([]:List UInt8) (G.Y.mk ([]:List UInt8) ([]:List UInt8)) ([]:List UInt8) ([]:List G.O)),yR 17 r2.1,yR 19 r0.2.2.1]) (obL [.rc 17] (c 103 [yI (12:Int),yI v1.pos]) fun(r3:G.X×Unit)=>
 some [yR 2 (G.O.mk (0:Int) ([]:List UInt8) ([]:List UInt8) (G.Y.mk ([]:List UInt8) ([]:List UInt8)) ([]:List UInt8) ([]:List G.O)),yR 17 r3.1,yR 19 r0.2.2.1])))) (obL [.rc 2,.rc 17,.rc 19] (c 104 [yI a1,yR 19 b0]) fun(r4:G.O×G.X×G.P×Unit)=>
 cnd (!decide (r4.2.1.err=(0:Int))) (some [yR 2 (G.O.mk (0:Int) ([]:List UInt8) ([]:List UInt8) (G.Y.mk ([]:List UInt8) ([]:List UInt8)) ([]:List UInt8) ([]:List G.O)),yR 17 r4.2.1,yR 19 r4.2.2.1]) (chk (Nat.ble ((List.length a6+List.length ([r4.1]:List G.O))*112) 1073741824)<|
 n1 a1 (a6++([r4.1]:List G.O)) r4.2.2.1 b107 b104 b105))
def V128x2(n:Nt):Bool→List G.O→Int→G.P→G.O→G.O→G.X→Rt:=fun x0 x1 x2 x3 x4 x5 x6=>n [yB x0,yS 2 x1,yI x2,yR 19 x3,yR 2 x4,yR 2 x5,yR 17 x6]
def aIo(n1:Nt):=V128x2 (xD iJ e [1,1,1,0,0,0,1,0,0,1,0] aA2 (q128x5 c e n1))
def B128x3(c:TC0)(e4:List G.O→Int→G.P→G.O→G.O→G.X→Rt)(a6:List G.O)(b0:G.P)(b107:G.O)(b104:G.O)(b105:G.X):Rt:=
 e4 a6 (IntKind.i64.wrap ((List.length a6:Int)-(1:Int))) (G.P.mk b0.l b0.current b0.t (IntKind.i64.wrap (b0.pos+(1:Int)))) b107 b104 b105
def V128x3(n:Nt):List G.O→G.P→G.O→G.O→G.X→Rt:=fun x0 x1 x2 x3 x4=>n [yS 2 x0,yR 19 x1,yR 2 x2,yR 2 x3,yR 17 x4]
def aDp:=V128x3 (xD iJ e [1,1,1,1,0] aA1 (aCe c e))
def B128x4(c:TC0)(n4:List G.O→Int→G.P→G.O→G.O→G.X→Rt)(a6:List G.O)(a13:Int)(b0:G.P)(b107:G.O)(b104:G.O)(b105:G.X):Rt:=
 cnd (decide ((0:Int)≤a13)) (ob (idx a6 a13) fun v0=>
 obL [.rc 2] (c 82 [yR 2 v0,yR 2 b107]) fun(r1:G.O×Unit)=>
 n4 a6 (IntKind.i64.wrap (a13-(1:Int))) b0 r1.1 b104 b105) (some [yR 2 b107,yR 17 (G.X.mk (0:Int) (0:Int)),yR 19 b0])
def aDD(n:Nt):List G.O→Int→G.P→G.O→G.O→G.X→Rt:=fun x0 x1 x2 x3 x4 x5=>n [yS 2 x0,yI x1,yR 19 x2,yR 2 x3,yR 2 x4,yR 17 x5]
def X128x4:=aDD (xE iJ e [1,1,1,1,0,1,0,1,0,0] pV (aFR c e))
theorem s128x0:V128x0 (xF iJ c e)=B128x0 c (X128x1 c e):=by kernel_rfl
theorem s128x1(n1:Nt):zE (xA iJ c e [1,1,1,0,0,0] nG (lpK U0 nG n1 (aCd c e)))=B128x1 c (aIo c e n1) (aDp c e):=by kernel_rfl
theorem s128x2(n1:Nt):V128x2 (xA iJ c e [1,1,1,0,0,0,1,0,0,1,0] aA2 (q128x5 c e n1))=B128x2 c (aDp c e) (zE n1):=by kernel_rfl
theorem s128x3:V128x3 (xA iJ c e [1,1,1,1,0] aA1 (aCe c e))=B128x3 c (X128x4 c e):=by kernel_rfl
theorem s128x4(n4:Nt):aDD (xA iJ c e [1,1,1,1,0,1,0,1,0,0] pV (lpK U0 pV n4 (aFR c e)))=B128x4 c (aDD n4):=by kernel_rfl
def aDx(c:TC0)(L:Nat):Nat→List G.O→Int→G.P→G.O→G.O→G.X→Rt
 |0=>fun _ _ _ _ _ _=>none
 |n+1=>B128x4 c (aDx c L n)
theorem u128x4(n:Nat):aDD (xL iJ c L [1,1,1,1,0,1,0,1,0,0] pV (aFR c (cu c L)) n)=aDx c L n:=by
 induction n with
 |zero=>rfl
 |succ n ih=>rw[fA,s128x4];simp only[ih];rfl
theorem w128x4:X128x4 c (cu c L)=aDx c L L:=u128x4 c L L
def aI0(c:TC0)(L:Nat):List G.O→G.P→G.O→G.O→G.X→Rt:=B128x3 c (aDx c L L)
theorem j128x3:aDp c (cu c L)=aI0 c L:=by rw[aDp,aL,s128x3];simp only[w128x4];rfl
def J128x2(c:TC0)(L:Nat)(n1:Int→List G.O→G.P→G.O→G.O→G.X→Rt):Bool→List G.O→Int→G.P→G.O→G.O→G.X→Rt:=B128x2 c (aI0 c L) n1
theorem j128x2(n1:Nt):aIo c (cu c L) n1=J128x2 c L (zE n1):=by rw[aIo,aL,s128x2];simp only[j128x3];rfl
def aDy(c:TC0)(L:Nat):Nat→Int→List G.O→G.P→G.O→G.O→G.X→Rt
 |0=>fun _ _ _ _ _ _=>none
 |n+1=>B128x1 c (J128x2 c L (aDy c L n)) (aI0 c L)
theorem u128x1(n:Nat):zE (xL iJ c L [1,1,1,0,0,0] nG (aCd c (cu c L)) n)=aDy c L n:=by
 induction n with
 |zero=>rfl
 |succ n ih=>rw[fA,s128x1];simp only[j128x2,j128x3,ih];rfl
theorem w128x1:X128x1 c (cu c L)=aDy c L L:=u128x1 c L L
def F128(c:TC0)(L:Nat):Int→G.P→Rt:=B128x0 c (aDy c L L)
theorem e128:V128x0 (xF iJ c (cu c L))=F128 c L:=by rw[s128x0];simp only[w128x1];rfl
theorem c128(a1:Int)(b0:G.P)(L n:Nat):CTp L (n+1) 128 [yI a1,yR 19 b0]=F128 (CTp L n) L a1 b0:=by rw[←e128];exact cg (x:=iJ) (by kernel_rfl) (by kernel_rfl) L n _
def q129x0(c:TC0)(e:Cu):Kt:=xK oJ
def q129x1(c:TC0)(e:Cu):Kt:=xT oJ c e [1,1,1,1] (q129x0 c e)
def q129x2(c:TC0)(e:Cu):Kt:=xT oJ c e [1,1,1,1,1] (q129x0 c e)
def aFQ(c:TC0)(e:Cu):Kt:=cH U0 0 (q129x2 c e)
def B129x0(c:TC0)(k1:Bool→List UInt8→List UInt8→G.A→G.Y→Rt)(a0:List G.A)(a1:List UInt8)(a2:List UInt8):Rt:=
 obL [.rc 5,.bool] (c 161 [yS 5 a0,yT a1]) fun(r0:G.A×Bool×Unit)=>
 cnd (!r0.2.1) (some [yR 1 (G.Y.mk ([]:List UInt8) ([]:List UInt8)),yI (13:Int)]) (cnd (decide ((List.length a2:Int)<(1:Int))) (k1 true a1 a2 r0.1 (G.Y.mk ([]:List UInt8) ([]:List UInt8))) (k1 (decide ((40:Int)<(List.length a2:Int))) a1 a2 r0.1 (G.Y.mk ([]:List UInt8) ([]:List UInt8))))
def V129x0(n:Nt):List G.A→List UInt8→List UInt8→Rt:=fun x0 x1 x2=>n [yS 5 x0,yT x1,yT x2]
def B129x1(c:TC0)(e2:Int→List UInt8→List UInt8→G.A→G.Y→Rt)(a27:Bool)(a1:List UInt8)(a2:List UInt8)(b108:G.A)(b106:G.Y):Rt:=
 cnd a27 (some [yR 1 (G.Y.mk ([]:List UInt8) ([]:List UInt8)),yI (3:Int)]) (e2 (0:Int) a1 a2 b108 b106)
def V129x1(n:Nt):Bool→List UInt8→List UInt8→G.A→G.Y→Rt:=fun x0 x1 x2 x3 x4=>n [yB x0,yT x1,yT x2,yR 5 x3,yR 1 x4]
def aIn:=V129x1 (xD oJ e [1,1,1,0,1,0] aA0 (q129x1 c e))
def B129x2(c:TC0)(n2:Int→List UInt8→List UInt8→G.A→G.Y→Rt)(a10:Int)(a1:List UInt8)(a2:List UInt8)(b108:G.A)(b106:G.Y):Rt:=
 cnd (decide (a10<(List.length b108.imports:Int))) (ob (idx b108.imports a10) fun v0=>
 cnd (decide (v0.name=a2)) (ob (idx b108.imports a10) fun v1=>
 some [yR 1 v1,yI (0:Int)]) (n2 (IntKind.i64.wrap (a10+(1:Int))) a1 a2 b108 b106)) (some [yR 1 (G.Y.mk a1 a2),yI (0:Int)])
def aDC(n:Nt):Int→List UInt8→List UInt8→G.A→G.Y→Rt:=fun x0 x1 x2 x3 x4=>n [yI x0,yT x1,yT x2,yR 5 x3,yR 1 x4]
def X129x2:=aDC (xE oJ e [1,1,1,1,0,1,0,0] pU (aFQ c e))
theorem s129x0:V129x0 (xF oJ c e)=B129x0 c (aIn c e):=by kernel_rfl
theorem s129x1:V129x1 (xA oJ c e [1,1,1,0,1,0] aA0 (q129x1 c e))=B129x1 c (X129x2 c e):=by kernel_rfl
theorem s129x2(n2:Nt):aDC (xA oJ c e [1,1,1,1,0,1,0,0] pU (lpK U0 pU n2 (aFQ c e)))=B129x2 c (aDC n2):=by kernel_rfl
def aDw(c:TC0)(L:Nat):Nat→Int→List UInt8→List UInt8→G.A→G.Y→Rt
 |0=>fun _ _ _ _ _=>none
 |n+1=>B129x2 c (aDw c L n)
theorem u129x2(n:Nat):aDC (xL oJ c L [1,1,1,1,0,1,0,0] pU (aFQ c (cu c L)) n)=aDw c L n:=by
 induction n with
 |zero=>rfl
 |succ n ih=>rw[fA,s129x2];simp only[ih];rfl
theorem w129x2:X129x2 c (cu c L)=aDw c L L:=u129x2 c L L
def J129x1(c:TC0)(L:Nat):Bool→List UInt8→List UInt8→G.A→G.Y→Rt:=B129x1 c (aDw c L L)
theorem j129x1:aIn c (cu c L)=J129x1 c L:=by rw[aIn,aL,s129x1];simp only[w129x2];rfl
def F129(c:TC0)(L:Nat):List G.A→List UInt8→List UInt8→Rt:=B129x0 c (J129x1 c L)
theorem e129:V129x0 (xF oJ c (cu c L))=F129 c L:=by rw[s129x0];simp only[j129x1];rfl
theorem c129(a0:List G.A)(a1:List UInt8)(a2:List UInt8)(L n:Nat):CTp L (n+1) 129 [yS 5 a0,yT a1,yT a2]=F129 (CTp L n) L a0 a1 a2:=by rw[←e129];exact cg (x:=oJ) (by kernel_rfl) (by kernel_rfl) L n _
def q130x0(c:TC0)(e:Cu):Kt:=xK wV
def q130x1(c:TC0)(e:Cu):Kt:=xT wV c e [1,1] (q130x0 c e)
def aJr(c:TC0)(k1:Bool→Int→G.O→Rt)(a0:G.O)(a1:Int):Rt:=
 cnd (!decide ((List.length a0.pair:Int)=(2:Int))) (k1 true a1 a0) (k1 (decide (a1≤(1:Int))) a1 a0)
def V130x0(n:Nt):G.O→Int→Rt:=fun x0 x1=>n [yR 2 x0,yI x1]
def aDQ(c:TC0)(a13:Bool)(a1:Int)(b102:G.O):Rt:=
 cnd a13 (some [yI (1:Int)]) (ob (idx b102.pair (0:Int)) fun v0=>
 obL [i6] (c 130 [yR 2 v0,yI (IntKind.i64.wrap (a1-(1:Int)))]) fun(r1:Int×Unit)=>
 cnd (decide (a1≤(IntKind.i64.wrap ((1:Int)+r1.1)))) (some [yI a1]) (ob (idx b102.pair (1:Int)) fun v2=>
 obL [i6] (c 130 [yR 2 v2,yI (IntKind.i64.wrap (a1-(IntKind.i64.wrap ((1:Int)+r1.1))))]) fun(r3:Int×Unit)=>
 some [yI (IntKind.i64.wrap ((IntKind.i64.wrap ((1:Int)+r1.1))+r3.1))]))
def V130x1(n:Nt):Bool→Int→G.O→Rt:=fun x0 x1 x2=>n [yB x0,yI x1,yR 2 x2]
def aIm:=V130x1 (xD wV e [1,0,1,0] aAZ (q130x1 c e))
theorem s130x0:V130x0 (xF wV c e)=aJr c (aIm c e):=by kernel_rfl
theorem s130x1:V130x1 (xA wV c e [1,0,1,0] aAZ (q130x1 c e))=aDQ c:=by kernel_rfl
def zI(c:TC0)(L:Nat):Bool→Int→G.O→Rt:=aDQ c
theorem j130x1:aIm c (cu c L)=zI c L:=by rw[aIm,aL,s130x1];rfl
def F130(c:TC0)(L:Nat):G.O→Int→Rt:=aJr c (zI c L)
theorem e130:V130x0 (xF wV c (cu c L))=F130 c L:=by rw[s130x0];simp only[j130x1];rfl
theorem c130(a0:G.O)(a1:Int)(L n:Nat):CTp L (n+1) 130 [yR 2 a0,yI a1]=F130 (CTp L n) L a0 a1:=by rw[←e130];exact cg (x:=wV) (by kernel_rfl) (by kernel_rfl) L n _
def q135x0(c:TC0)(e:Cu):Kt:=xK oH
def q135x1(c:TC0)(e:Cu):Kt:=xT oH c e [1,1] (q135x0 c e)
def aCc(c:TC0)(e:Cu):Kt:=cH U0 0 (q135x1 c e)
def q135x3(c:TC0)(e:Cu)(n1:Nt):Kt:=lpK U0 nF n1 (aCc c e)
def q135x4(c:TC0)(e:Cu)(n1:Nt):Kt:=xT oH c e [1,0,1,0,0,1,1] (q135x3 c e n1)
def q135x5(c:TC0)(e:Cu)(n1:Nt):Kt:=cH U0 1 (q135x4 c e n1)
def B135x0(c:TC0)(e1:List G.E→Int→G.Y→G.M→Rt)(a0:List G.E)(a1:G.Y):Rt:=
 e1 a0 (0:Int) a1 (G.M.mk (G.Y.mk ([]:List UInt8) ([]:List UInt8)) ([]:List G.Y) false (G.T.mk (0:Int) (G.Y.mk ([]:List UInt8) ([]:List UInt8)) (G.O.mk (0:Int) ([]:List UInt8) ([]:List UInt8) (G.Y.mk ([]:List UInt8) ([]:List UInt8)) ([]:List UInt8) ([]:List G.O)) ([]:List G.T)))
def V135x0(n:Nt):List G.E→G.Y→Rt:=fun x0 x1=>n [yS 15 x0,yR 1 x1]
def B135x1(c:TC0)(k2:Bool→Int→List G.E→G.Y→G.M→Rt)(a0:List G.E)(a6:Int)(b103:G.Y)(b104:G.M):Rt:=
 cnd (decide (a6<(List.length a0:Int))) (ob (idx a0 a6) fun v0=>
 cnd (decide (v0.kind=(2:Int))) (ob (idx a0 a6) fun v1=>
 k2 (decide (v1.mac.name=b103)) a6 a0 b103 b104) (k2 false a6 a0 b103 b104)) (some [yR 6 (G.M.mk (G.Y.mk ([]:List UInt8) ([]:List UInt8)) ([]:List G.Y) false (G.T.mk (0:Int) (G.Y.mk ([]:List UInt8) ([]:List UInt8)) (G.O.mk (0:Int) ([]:List UInt8) ([]:List UInt8) (G.Y.mk ([]:List UInt8) ([]:List UInt8)) ([]:List UInt8) ([]:List G.O)) ([]:List G.T))),yB false])
def zD(n:Nt):List G.E→Int→G.Y→G.M→Rt:=fun x0 x1 x2 x3=>n [yS 15 x0,yI x1,yR 1 x2,yR 6 x3]
def X135x1:=zD (xE oH e [1,0,1,0,0] nF (aCc c e))
def B135x2(c:TC0)(n1:List G.E→Int→G.Y→G.M→Rt)(a28:Bool)(a6:Int)(a0:List G.E)(b103:G.Y)(b104:G.M):Rt:=
 cnd a28 (ob (idx a0 a6) fun v0=>
 some [yR 6 v0.mac,yB true]) (n1 a0 (IntKind.i64.wrap (a6+(1:Int))) b103 b104)
def V135x2(n:Nt):Bool→Int→List G.E→G.Y→G.M→Rt:=fun x0 x1 x2 x3 x4=>n [yB x0,yI x1,yS 15 x2,yR 1 x3,yR 6 x4]
def aIl(n1:Nt):=V135x2 (xD oH e [1,0,1,0,0,1,0,0,1,0] aAY (q135x5 c e n1))
theorem s135x0:V135x0 (xF oH c e)=B135x0 c (X135x1 c e):=by kernel_rfl
theorem s135x1(n1:Nt):zD (xA oH c e [1,0,1,0,0] nF (lpK U0 nF n1 (aCc c e)))=B135x1 c (aIl c e n1):=by kernel_rfl
theorem s135x2(n1:Nt):V135x2 (xA oH c e [1,0,1,0,0,1,0,0,1,0] aAY (q135x5 c e n1))=B135x2 c (zD n1):=by kernel_rfl
def J135x2(c:TC0)(L:Nat)(n1:List G.E→Int→G.Y→G.M→Rt):Bool→Int→List G.E→G.Y→G.M→Rt:=B135x2 c n1
theorem j135x2(n1:Nt):aIl c (cu c L) n1=J135x2 c L (zD n1):=by rw[aIl,aL,s135x2];rfl
def aDv(c:TC0)(L:Nat):Nat→List G.E→Int→G.Y→G.M→Rt
 |0=>fun _ _ _ _=>none
 |n+1=>B135x1 c (J135x2 c L (aDv c L n))
theorem u135x1(n:Nat):zD (xL oH c L [1,0,1,0,0] nF (aCc c (cu c L)) n)=aDv c L n:=by
 induction n with
 |zero=>rfl
 |succ n ih=>rw[fA,s135x1];simp only[j135x2,ih];rfl
theorem w135x1:X135x1 c (cu c L)=aDv c L L:=u135x1 c L L
def F135(c:TC0)(L:Nat):List G.E→G.Y→Rt:=B135x0 c (aDv c L L)
theorem e135:V135x0 (xF oH c (cu c L))=F135 c L:=by rw[s135x0];simp only[w135x1];rfl
theorem c135(a0:List G.E)(a1:G.Y)(L n:Nat):CTp L (n+1) 135 [yS 15 a0,yR 1 a1]=F135 (CTp L n) L a0 a1:=by rw[←e135];exact cg (x:=oH) (by kernel_rfl) (by kernel_rfl) L n _
def q144x0(c:TC0)(e:Cu):Kt:=xK oG
def q144x1(c:TC0)(e:Cu):Kt:=xT oG c e [1,1] (q144x0 c e)
def aCb(c:TC0)(e:Cu):Kt:=cH U0 0 (q144x1 c e)
def q144x3(c:TC0)(e:Cu)(n1:Nt):Kt:=lpK U0 nE n1 (aCb c e)
def q144x4(c:TC0)(e:Cu)(n1:Nt):Kt:=xT oG c e [1,0,0,0,1] (q144x3 c e n1)
def B144x0(c:TC0)(e1:Int→G.O→Rt)(a0:G.O)(a1:Int):Rt:=
 e1 a1 a0
def V144x0(n:Nt):G.O→Int→Rt:=fun x0 x1=>n [yR 2 x0,yI x1]
def aDP(c:TC0)(k2:Bool→Int→G.O→Rt)(a1:Int)(b102:G.O):Rt:=
 cnd (decide ((0:Int)<a1)) (k2 (decide ((List.length b102.pair:Int)=(2:Int))) a1 b102) (k2 false a1 b102)
def zC(n:Nt):Int→G.O→Rt:=fun x0 x1=>n [yI x0,yR 2 x1]
def X144x1:=zC (xE oG e [1,0,0,0] nE (aCb c e))
def zM(c:TC0)(n1:Int→G.O→Rt)(a12:Bool)(a1:Int)(b102:G.O):Rt:=
 cnd a12 (ob (idx b102.pair (0:Int)) fun v0=>
 obL [i6] (c 144 [yR 2 v0,yI (IntKind.i64.wrap (a1-(1:Int)))]) fun(r1:Int×Unit)=>
 ob (idx b102.pair (1:Int)) fun v2=>
 n1 r1.1 v2) (some [yI (IntKind.i64.wrap (a1-(1:Int)))])
def V144x2(n:Nt):Bool→Int→G.O→Rt:=fun x0 x1 x2=>n [yB x0,yI x1,yR 2 x2]
def aIk(n1:Nt):=V144x2 (xD oG e [1,0,0,0,0,1,0] aAX (q144x4 c e n1))
theorem s144x0:V144x0 (xF oG c e)=B144x0 c (X144x1 c e):=by kernel_rfl
theorem s144x1(n1:Nt):zC (xA oG c e [1,0,0,0] nE (lpK U0 nE n1 (aCb c e)))=aDP c (aIk c e n1):=by kernel_rfl
theorem s144x2(n1:Nt):V144x2 (xA oG c e [1,0,0,0,0,1,0] aAX (q144x4 c e n1))=zM c (zC n1):=by kernel_rfl
def qR(c:TC0)(L:Nat)(n1:Int→G.O→Rt):Bool→Int→G.O→Rt:=zM c n1
theorem j144x2(n1:Nt):aIk c (cu c L) n1=qR c L (zC n1):=by rw[aIk,aL,s144x2];rfl
def lZ(c:TC0)(L:Nat):Nat→Int→G.O→Rt
 |0=>fun _ _=>none
 |n+1=>aDP c (qR c L (lZ c L n))
theorem u144x1(n:Nat):zC (xL oG c L [1,0,0,0] nE (aCb c (cu c L)) n)=lZ c L n:=by
 induction n with
 |zero=>rfl
 |succ n ih=>rw[fA,s144x1];simp only[j144x2,ih];rfl
theorem w144x1:X144x1 c (cu c L)=lZ c L L:=u144x1 c L L
def F144(c:TC0)(L:Nat):G.O→Int→Rt:=B144x0 c (lZ c L L)
theorem e144:V144x0 (xF oG c (cu c L))=F144 c L:=by rw[s144x0];simp only[w144x1];rfl
theorem c144(a0:G.O)(a1:Int)(L n:Nat):CTp L (n+1) 144 [yR 2 a0,yI a1]=F144 (CTp L n) L a0 a1:=by rw[←e144];exact cg (x:=oG) (by kernel_rfl) (by kernel_rfl) L n _
def q145x0(c:TC0)(e:Cu):Kt:=xK aAy
def aJq(c:TC0)(k1:Bool→Rt)(a0:G.O)(a1:Bool)(a2:Bool)(a3:Bool):Rt:=
 cnd a1 (cnd a2 (cnd a3 (k1 true) (k1 (decide (a0.text=([]:List UInt8))))) (cnd (decide (a0.sym=(G.Y.mk ([]:List UInt8) ([]:List UInt8)))) (cnd a3 (k1 true) (k1 (decide (a0.text=([]:List UInt8))))) (k1 false))) (cnd (decide (a0.num=([]:List UInt8))) (cnd (decide (a0.den=([]:List UInt8))) (cnd a2 (cnd a3 (k1 true) (k1 (decide (a0.text=([]:List UInt8))))) (cnd (decide (a0.sym=(G.Y.mk ([]:List UInt8) ([]:List UInt8)))) (cnd a3 (k1 true) (k1 (decide (a0.text=([]:List UInt8))))) (k1 false))) (k1 false)) (k1 false))
def V145x0(n:Nt):G.O→Bool→Bool→Bool→Rt:=fun x0 x1 x2 x3=>n [yR 2 x0,yB x1,yB x2,yB x3]
def B145x1(c:TC0)(a8:Bool):Rt:=
 some [yB a8]
def V145x1(n:Nt):Bool→Rt:=fun x0=>n [yB x0]
def aIj:=V145x1 (xD aAy e [1,1,0] aAW (q145x0 c e))
theorem s145x0:V145x0 (xF aAy c e)=aJq c (aIj c e):=by kernel_rfl
theorem s145x1:V145x1 (xA aAy c e [1,1,0] aAW (q145x0 c e))=B145x1 c:=by kernel_rfl
def kB(c:TC0)(L:Nat):Bool→Rt:=B145x1 c
theorem j145x1:aIj c (cu c L)=kB c L:=by rw[aIj,aL,s145x1];rfl
def F145(c:TC0)(L:Nat):G.O→Bool→Bool→Bool→Rt:=aJq c (kB c L)
theorem e145:V145x0 (xF aAy c (cu c L))=F145 c L:=by rw[s145x0];simp only[j145x1];rfl
theorem c145(a0:G.O)(a1:Bool)(a2:Bool)(a3:Bool)(L n:Nat):CTp L (n+1) 145 [yR 2 a0,yB a1,yB a2,yB a3]=F145 (CTp L n) L a0 a1 a2 a3:=by rw[←e145];exact cg (x:=aAy) (by kernel_rfl) (by kernel_rfl) L n _
def q147x0(c:TC0)(e:Cu):Kt:=xK jB
def q147x1(c:TC0)(e:Cu):Kt:=xT jB c e [1,1] (q147x0 c e)
def q147x2(c:TC0)(e:Cu):Kt:=xT jB c e [1,1,1] (q147x0 c e)
def aCa(c:TC0)(e:Cu):Kt:=cH U0 0 (q147x2 c e)
def q147x4(c:TC0)(e:Cu)(n2:Nt):Kt:=lpK U0 nD n2 (aCa c e)
def q147x5(c:TC0)(e:Cu)(n2:Nt):Kt:=xT jB c e [1,1,0,1,0,0,1,1,1] (q147x4 c e n2)
def aB9(c:TC0)(e:Cu)(n2:Nt):Kt:=cH U0 1 (q147x5 c e n2)
def aDO(c:TC0)(k1:Bool→G.Y→Rt)(a0:G.Y):Rt:=
 cnd (decide ((List.length a0.package:Int)<(1:Int))) (k1 true a0) (cnd (decide ((40:Int)<(List.length a0.package:Int))) (k1 true a0) (cnd (decide ((List.length a0.name:Int)<(1:Int))) (k1 true a0) (k1 (decide ((40:Int)<(List.length a0.name:Int))) a0)))
def V147x0(n:Nt):G.Y→Rt:=fun x0=>n [yR 1 x0]
def B147x1(c:TC0)(e2:Int→Int→G.Y→Rt)(a27:Bool)(b101:G.Y):Rt:=
 cnd a27 (some [yB false]) (e2 (List.length b101.package:Int) (0:Int) b101)
def V147x1(n:Nt):Bool→G.Y→Rt:=fun x0 x1=>n [yB x0,yR 1 x1]
def aIi:=V147x1 (xD jB e [1,0,1,0] aAV (q147x1 c e))
def B147x2(c:TC0)(k3:Bool→Int→Int→Int→Int→G.Y→Rt)(a30:Int)(a31:Int)(b101:G.Y):Rt:=
 cnd (decide (a31<a30)) (ob (idx b101.package a31) fun v0=>
 cnd (decide ((97:Int)≤(v0.toNat:Int))) (k3 (decide ((v0.toNat:Int)≤(122:Int))) a31 (v0.toNat:Int) a31 a30 b101) (k3 false a31 (v0.toNat:Int) a31 a30 b101)) (some [yB true])
def sQ(n:Nt):Int→Int→G.Y→Rt:=fun x0 x1 x2=>n [yI x0,yI x1,yR 1 x2]
def X147x2:=sQ (xE jB e [1,1,0,1,0,0] nD (aCa c e))
def B147x3(c:TC0)(k4:Bool→Int→Int→G.Y→Rt)(a5:Bool)(a3:Int)(a4:Int)(a31:Int)(a30:Int)(b101:G.Y):Rt:=
 cnd (!a5) (cnd (decide (a3=(0:Int))) (k4 true a31 a30 b101) (cnd (!decide (a4=(45:Int))) (cnd (decide (a4<(48:Int))) (k4 true a31 a30 b101) (k4 (decide ((57:Int)<a4)) a31 a30 b101)) (k4 false a31 a30 b101))) (k4 false a31 a30 b101)
def V147x3(n:Nt):Bool→Int→Int→Int→Int→G.Y→Rt:=fun x0 x1 x2 x3 x4 x5=>n [yB x0,yI x1,⟨(.int .u8),x2⟩,yI x3,yI x4,yR 1 x5]
def aIh(n2:Nt):=V147x3 (xD jB e [1,1,0,1,0,0,1,1,0,0,1,1,1,0] aAU (aB9 c e n2))
def B147x4(c:TC0)(n2:Int→Int→G.Y→Rt)(a61:Bool)(a31:Int)(a30:Int)(b101:G.Y):Rt:=
 cnd a61 (some [yB false]) (n2 a30 (IntKind.i64.wrap (a31+(1:Int))) b101)
def V147x4(n:Nt):Bool→Int→Int→G.Y→Rt:=fun x0 x1 x2 x3=>n [yB x0,yI x1,yI x2,yR 1 x3]
def aIg(n2:Nt):=V147x4 (xD jB e [1,1,0,1,0,0,1,1,0,0,1,1,1,0,1,0] aAT (aB9 c e n2))
theorem s147x0:V147x0 (xF jB c e)=aDO c (aIi c e):=by kernel_rfl
theorem s147x1:V147x1 (xA jB c e [1,0,1,0] aAV (q147x1 c e))=B147x1 c (X147x2 c e):=by kernel_rfl
theorem s147x2(n2:Nt):sQ (xA jB c e [1,1,0,1,0,0] nD (lpK U0 nD n2 (aCa c e)))=B147x2 c (aIh c e n2):=by kernel_rfl
theorem s147x3(n2:Nt):V147x3 (xA jB c e [1,1,0,1,0,0,1,1,0,0,1,1,1,0] aAU (aB9 c e n2))=B147x3 c (aIg c e n2):=by kernel_rfl
theorem s147x4(n2:Nt):V147x4 (xA jB c e [1,1,0,1,0,0,1,1,0,0,1,1,1,0,1,0] aAT (aB9 c e n2))=B147x4 c (sQ n2):=by kernel_rfl
def J147x4(c:TC0)(L:Nat)(n2:Int→Int→G.Y→Rt):Bool→Int→Int→G.Y→Rt:=B147x4 c n2
theorem j147x4(n2:Nt):aIg c (cu c L) n2=J147x4 c L (sQ n2):=by rw[aIg,aL,s147x4];rfl
def J147x3(c:TC0)(L:Nat)(n2:Int→Int→G.Y→Rt):Bool→Int→Int→Int→Int→G.Y→Rt:=B147x3 c (J147x4 c L n2)
theorem j147x3(n2:Nt):aIh c (cu c L) n2=J147x3 c L (sQ n2):=by rw[aIh,aL,s147x3];simp only[j147x4];rfl
def aDu(c:TC0)(L:Nat):Nat→Int→Int→G.Y→Rt
 |0=>fun _ _ _=>none
 |n+1=>B147x2 c (J147x3 c L (aDu c L n))
theorem u147x2(n:Nat):sQ (xL jB c L [1,1,0,1,0,0] nD (aCa c (cu c L)) n)=aDu c L n:=by
 induction n with
 |zero=>rfl
 |succ n ih=>rw[fA,s147x2];simp only[j147x3,ih];rfl
theorem w147x2:X147x2 c (cu c L)=aDu c L L:=u147x2 c L L
def aDK(c:TC0)(L:Nat):Bool→G.Y→Rt:=B147x1 c (aDu c L L)
theorem j147x1:aIi c (cu c L)=aDK c L:=by rw[aIi,aL,s147x1];simp only[w147x2];rfl
def F147(c:TC0)(L:Nat):G.Y→Rt:=aDO c (aDK c L)
theorem e147:V147x0 (xF jB c (cu c L))=F147 c L:=by rw[s147x0];simp only[j147x1];rfl
theorem c147(a0:G.Y)(L n:Nat):CTp L (n+1) 147 [yR 1 a0]=F147 (CTp L n) L a0:=by rw[←e147];exact cg (x:=jB) (by kernel_rfl) (by kernel_rfl) L n _
def aJp(c:TC0)(a0:G.T):Rt:=
 obL [.bool] (c 57 [yR 3 a0]) fun(r0:Bool×Unit)=>
 some [yB (!r0.1)]
def V148x0(n:Nt):G.T→Rt:=fun x0=>n [yR 3 x0]
theorem s148x0:V148x0 (xF ii148 c e)=aJp c:=by kernel_rfl
def F148(c:TC0)(L:Nat):G.T→Rt:=aJp c
theorem e148:V148x0 (xF ii148 c (cu c L))=F148 c L:=s148x0 _ _
theorem c148(a0:G.T)(L n:Nat):CTp L (n+1) 148 [yR 3 a0]=F148 (CTp L n) L a0:=by rw[←e148];exact cg (x:=ii148) (by kernel_rfl) (by kernel_rfl) L n _
def aJo(c:TC0)(a0:G.T)(b0:G.T):Rt:=
 obL [.bool] (c 29 [yR 3 a0,yR 3 b0]) fun(r0:Bool×Unit)=>
 some [yB r0.1,yR 3 b0]
def V149x0(n:Nt):G.T→G.T→Rt:=fun x0 x1=>n [yR 3 x0,yR 3 x1]
theorem s149x0:V149x0 (xF ii149 c e)=aJo c:=by kernel_rfl
def F149(c:TC0)(L:Nat):G.T→G.T→Rt:=aJo c
theorem e149:V149x0 (xF ii149 c (cu c L))=F149 c L:=s149x0 _ _
theorem c149(a0:G.T)(b0:G.T)(L n:Nat):CTp L (n+1) 149 [yR 3 a0,yR 3 b0]=F149 (CTp L n) L a0 b0:=by rw[←e149];exact cg (x:=ii149) (by kernel_rfl) (by kernel_rfl) L n _
def q151x0(c:TC0)(e:Cu):Kt:=xK kM
def q151x1(c:TC0)(e:Cu):Kt:=xT kM c e [1,1] (q151x0 c e)
def q151x2(c:TC0)(e:Cu):Kt:=xT kM c e [1,1,1] (q151x0 c e)
def aB8(c:TC0)(e:Cu):Kt:=cH U0 0 (q151x2 c e)
def q151x4(c:TC0)(e:Cu)(n2:Nt):Kt:=lpK U0 nC n2 (aB8 c e)
def q151x5(c:TC0)(e:Cu)(n2:Nt):Kt:=xT kM c e [1,1,0,1,0,0,1,1] (q151x4 c e n2)
def q151x6(c:TC0)(e:Cu)(n2:Nt):Kt:=cH U0 1 (q151x5 c e n2)
def B151x0(c:TC0)(k1:Bool→List UInt8→Rt)(a0:List UInt8):Rt:=
 cnd (decide ((List.length a0:Int)<(1:Int))) (k1 true a0) (cnd (decide ((40:Int)<(List.length a0:Int))) (k1 true a0) (ob (idx a0 (0:Int)) fun v0=>
 cnd (decide ((v0.toNat:Int)<(97:Int))) (k1 true a0) (ob (idx a0 (0:Int)) fun v1=>
 k1 (decide ((122:Int)<(v1.toNat:Int))) a0)))
def V151x0(n:Nt):List UInt8→Rt:=fun x0=>n [yT x0]
def B151x1(c:TC0)(e2:List UInt8→Int→Rt)(a22:Bool)(a0:List UInt8):Rt:=
 cnd a22 (some [yB false]) (e2 a0 (0:Int))
def V151x1(n:Nt):Bool→List UInt8→Rt:=fun x0 x1=>n [yB x0,yT x1]
def aIf:=V151x1 (xD kM e [1,0,1,0] aAS (q151x1 c e))
def B151x2(c:TC0)(k3:Bool→Int→List UInt8→Rt)(a0:List UInt8)(a3:Int):Rt:=
 cnd (decide (a3<(List.length a0:Int))) (ob (idx a0 a3) fun v0=>
 cnd (decide ((v0.toNat:Int)<(97:Int))) (cnd (decide ((v0.toNat:Int)<(48:Int))) (k3 (!decide ((v0.toNat:Int)=(45:Int))) a3 a0) (cnd (decide ((57:Int)<(v0.toNat:Int))) (k3 (!decide ((v0.toNat:Int)=(45:Int))) a3 a0) (k3 false a3 a0))) (cnd (decide ((122:Int)<(v0.toNat:Int))) (cnd (decide ((v0.toNat:Int)<(48:Int))) (k3 (!decide ((v0.toNat:Int)=(45:Int))) a3 a0) (cnd (decide ((57:Int)<(v0.toNat:Int))) (k3 (!decide ((v0.toNat:Int)=(45:Int))) a3 a0) (k3 false a3 a0))) (k3 false a3 a0))) (some [yB true])
def zB(n:Nt):List UInt8→Int→Rt:=fun x0 x1=>n [yT x0,yI x1]
def X151x2:=zB (xE kM e [1,1,0,1,0,0] nC (aB8 c e))
def B151x3(c:TC0)(n2:List UInt8→Int→Rt)(a49:Bool)(a3:Int)(a0:List UInt8):Rt:=
 cnd a49 (some [yB false]) (n2 a0 (IntKind.i64.wrap (a3+(1:Int))))
def V151x3(n:Nt):Bool→Int→List UInt8→Rt:=fun x0 x1 x2=>n [yB x0,yI x1,yT x2]
def aIe(n2:Nt):=V151x3 (xD kM e [1,1,0,1,0,0,1,0,0,1,1,0] aAR (q151x6 c e n2))
theorem s151x0:V151x0 (xF kM c e)=B151x0 c (aIf c e):=by kernel_rfl
theorem s151x1:V151x1 (xA kM c e [1,0,1,0] aAS (q151x1 c e))=B151x1 c (X151x2 c e):=by kernel_rfl
theorem s151x2(n2:Nt):zB (xA kM c e [1,1,0,1,0,0] nC (lpK U0 nC n2 (aB8 c e)))=B151x2 c (aIe c e n2):=by kernel_rfl
theorem s151x3(n2:Nt):V151x3 (xA kM c e [1,1,0,1,0,0,1,0,0,1,1,0] aAR (q151x6 c e n2))=B151x3 c (zB n2):=by kernel_rfl
def J151x3(c:TC0)(L:Nat)(n2:List UInt8→Int→Rt):Bool→Int→List UInt8→Rt:=B151x3 c n2
theorem j151x3(n2:Nt):aIe c (cu c L) n2=J151x3 c L (zB n2):=by rw[aIe,aL,s151x3];rfl
def aDt(c:TC0)(L:Nat):Nat→List UInt8→Int→Rt
 |0=>fun _ _=>none
 |n+1=>B151x2 c (J151x3 c L (aDt c L n))
theorem u151x2(n:Nat):zB (xL kM c L [1,1,0,1,0,0] nC (aB8 c (cu c L)) n)=aDt c L n:=by
 induction n with
 |zero=>rfl
 |succ n ih=>rw[fA,s151x2];simp only[j151x3,ih];rfl
theorem w151x2:X151x2 c (cu c L)=aDt c L L:=u151x2 c L L
def J151x1(c:TC0)(L:Nat):Bool→List UInt8→Rt:=B151x1 c (aDt c L L)
theorem j151x1:aIf c (cu c L)=J151x1 c L:=by rw[aIf,aL,s151x1];simp only[w151x2];rfl
def F151(c:TC0)(L:Nat):List UInt8→Rt:=B151x0 c (J151x1 c L)
theorem e151:V151x0 (xF kM c (cu c L))=F151 c L:=by rw[s151x0];simp only[j151x1];rfl
theorem c151(a0:List UInt8)(L n:Nat):CTp L (n+1) 151 [yT a0]=F151 (CTp L n) L a0:=by rw[←e151];exact cg (x:=kM) (by kernel_rfl) (by kernel_rfl) L n _
def q152x0(c:TC0)(e:Cu):Kt:=xK aAx
def aJn(c:TC0)(k1:Bool→Rt)(a0:Int):Rt:=
 cnd (decide (a0=(32:Int))) (k1 true) (cnd (decide (a0=(9:Int))) (k1 true) (cnd (decide (a0=(10:Int))) (k1 true) (k1 (decide (a0=(13:Int))))))
def V152x0(n:Nt):Int→Rt:=fun x0=>n [⟨(.int .u8),x0⟩]
def aJm(c:TC0)(a2:Bool):Rt:=
 some [yB a2]
def V152x1(n:Nt):Bool→Rt:=fun x0=>n [yB x0]
def aId:=V152x1 (xD aAx e [1,1,0] aAQ (q152x0 c e))
theorem s152x0:V152x0 (xF aAx c e)=aJn c (aId c e):=by kernel_rfl
theorem s152x1:V152x1 (xA aAx c e [1,1,0] aAQ (q152x0 c e))=aJm c:=by kernel_rfl
def aIY(c:TC0)(L:Nat):Bool→Rt:=aJm c
theorem j152x1:aId c (cu c L)=aIY c L:=by rw[aId,aL,s152x1];rfl
def F152(c:TC0)(L:Nat):Int→Rt:=aJn c (aIY c L)
theorem e152:V152x0 (xF aAx c (cu c L))=F152 c L:=by rw[s152x0];simp only[j152x1];rfl
theorem c152(a0:Int)(L n:Nat):CTp L (n+1) 152 [⟨(.int .u8),a0⟩]=F152 (CTp L n) L a0:=by rw[←e152];exact cg (x:=aAx) (by kernel_rfl) (by kernel_rfl) L n _
def q153x0(c:TC0)(e:Cu):Kt:=xK aAw
def aJl(c:TC0)(k1:Bool→Rt)(a0:List UInt8)(a1:Int)(a2:Int)(a3:Int):Rt:=
 cnd (decide ((0:Int)≤a1)) (cnd (decide ((IntKind.i64.wrap (a1+(1:Int)))<(List.length a0:Int))) (ob (idx a0 a1) fun v0=>
 cnd (decide ((v0.toNat:Int)=a2)) (ob (idx a0 (IntKind.i64.wrap (a1+(1:Int)))) fun v1=>
 k1 (decide ((v1.toNat:Int)=a3))) (k1 false)) (k1 false)) (k1 false)
def V153x0(n:Nt):List UInt8→Int→Int→Int→Rt:=fun x0 x1 x2 x3=>n [yT x0,yI x1,⟨(.int .u8),x2⟩,⟨(.int .u8),x3⟩]
def aJk(c:TC0)(a8:Bool):Rt:=
 some [yB a8]
def V153x1(n:Nt):Bool→Rt:=fun x0=>n [yB x0]
def aIc:=V153x1 (xD aAw e [1,1,0] aAP (q153x0 c e))
theorem s153x0:V153x0 (xF aAw c e)=aJl c (aIc c e):=by kernel_rfl
theorem s153x1:V153x1 (xA aAw c e [1,1,0] aAP (q153x0 c e))=aJk c:=by kernel_rfl
def aIX(c:TC0)(L:Nat):Bool→Rt:=aJk c
theorem j153x1:aIc c (cu c L)=aIX c L:=by rw[aIc,aL,s153x1];rfl
def F153(c:TC0)(L:Nat):List UInt8→Int→Int→Int→Rt:=aJl c (aIX c L)
theorem e153:V153x0 (xF aAw c (cu c L))=F153 c L:=by rw[s153x0];simp only[j153x1];rfl
theorem c153(a0:List UInt8)(a1:Int)(a2:Int)(a3:Int)(L n:Nat):CTp L (n+1) 153 [yT a0,yI a1,⟨(.int .u8),a2⟩,⟨(.int .u8),a3⟩]=F153 (CTp L n) L a0 a1 a2 a3:=by rw[←e153];exact cg (x:=aAw) (by kernel_rfl) (by kernel_rfl) L n _
def q155x0(c:TC0)(e:Cu):Kt:=xK wU
def q155x1(c:TC0)(e:Cu):Kt:=xT wU c e [1,1] (q155x0 c e)
def q155x2(c:TC0)(e:Cu):Kt:=cH U0 0 (q155x1 c e)
def aJj(c:TC0)(k1:Bool→G.K→G.X→Rt)(a0:G.K)(a1:Bool):Rt:=
 cnd (decide ((40:Int)<(List.length a0.text:Int))) (obL [.rc 17] (c 103 [yI (2:Int),yI a0.pos]) fun(r0:G.X×Unit)=>
 some [yR 17 r0.1]) (cnd a1 (cnd (decide (a0.text=([]:List UInt8))) (k1 true a0 (G.X.mk (0:Int) (0:Int))) (cnd (!decide (a0.package=([]:List UInt8))) (obL [.bool] (c 173 [yT a0.package]) fun(r1:Bool×Unit)=>
 k1 (!r1.1) a0 (G.X.mk (0:Int) (0:Int))) (k1 false a0 (G.X.mk (0:Int) (0:Int))))) (cnd (!decide (a0.package=([]:List UInt8))) (obL [.bool] (c 173 [yT a0.package]) fun(r2:Bool×Unit)=>
 k1 (!r2.1) a0 (G.X.mk (0:Int) (0:Int))) (k1 false a0 (G.X.mk (0:Int) (0:Int)))))
def V155x0(n:Nt):G.K→Bool→Rt:=fun x0 x1=>n [yR 18 x0,yB x1]
def B155x1(c:TC0)(a13:Bool)(b102:G.K)(b104:G.X):Rt:=
 cnd a13 (obL [.rc 17] (c 103 [yI (3:Int),yI b102.pos]) fun(r0:G.X×Unit)=>
 some [yR 17 r0.1]) (some [yR 17 (G.X.mk (0:Int) (0:Int))])
def V155x1(n:Nt):Bool→G.K→G.X→Rt:=fun x0 x1 x2=>n [yB x0,yR 18 x1,yR 17 x2]
def aIb:=V155x1 (xD wU e [1,0,0,1,1,1,0] aAO (q155x2 c e))
theorem s155x0:V155x0 (xF wU c e)=aJj c (aIb c e):=by kernel_rfl
theorem s155x1:V155x1 (xA wU c e [1,0,0,1,1,1,0] aAO (q155x2 c e))=B155x1 c:=by kernel_rfl
def J155x1(c:TC0)(L:Nat):Bool→G.K→G.X→Rt:=B155x1 c
theorem j155x1:aIb c (cu c L)=J155x1 c L:=by rw[aIb,aL,s155x1];rfl
def F155(c:TC0)(L:Nat):G.K→Bool→Rt:=aJj c (J155x1 c L)
theorem e155:V155x0 (xF wU c (cu c L))=F155 c L:=by rw[s155x0];simp only[j155x1];rfl
theorem c155(a0:G.K)(a1:Bool)(L n:Nat):CTp L (n+1) 155 [yR 18 a0,yB a1]=F155 (CTp L n) L a0 a1:=by rw[←e155];exact cg (x:=wU) (by kernel_rfl) (by kernel_rfl) L n _
end
end Go.TV
