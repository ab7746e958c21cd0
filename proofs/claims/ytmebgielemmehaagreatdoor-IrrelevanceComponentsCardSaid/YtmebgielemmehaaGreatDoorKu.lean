import Derived.Test.YtmebgielemmehaaGreatDoorKo
set_option linter.unusedVariables false
set_option linter.unusedSimpArgs false
set_option linter.constructorNameAsVariable false
set_option linter.defProp false
namespace Go.TV
open Go.AI Go.PI Go.Proofs
def aCi{P:G.O->Prop}(h: ∀k n d s t l,(∀o∈l,P o)->P ⟨k,n,d,s,t,l⟩): ∀o,P o:=λo=>
 G.O.rec (motive_1:=P) (motive_2:=λl=> ∀o∈l,P o) (λk n d s t l ih=>h k n d s t l ih) (λo ho=>by cases ho)
  (λo l h1 h2 x hx=>by
   cases hx with
   |head=>exact h1
   |tail _ hx=>exact h2 x hx) o
noncomputable instance:DecidableEq G.O:=λa b=>Classical.propDecidable _
def okO(k:Int)(n d:List UInt8)(s:G.Y)(t:List UInt8)(l:List G.O):Bool:=
 decide (k=0)&&n.isEmpty&&d.isEmpty&&decide (s=⟨[],[]⟩)&&t.isEmpty&&l.isEmpty||decide (k=1)&&decide (s=⟨[],[]⟩)&&t.isEmpty&&l.isEmpty||decide (k=2)&&n.isEmpty&&d.isEmpty&&t.isEmpty&&l.isEmpty||
 decide (k=3)&&n.isEmpty&&d.isEmpty&&decide (s=⟨[],[]⟩)&&l.isEmpty||decide (k=4)&&n.isEmpty&&d.isEmpty&&decide (s=⟨[],[]⟩)&&t.isEmpty&&decide (l.length=2)
def aNK(k:Int)(n d:List UInt8)(s:G.Y)(t:List UInt8)(l:List G.O):Nat:=bif okO k n d s t l then 0 else 1000000000
def FZ(s:G.Y):aNK 2 [] [] s [] []=0:=rfl
def F5(a b:G.O):aNK 4 [] [] ⟨[],[]⟩ [] [a,b]=0:=rfl
def Gb(o:G.O):Nat:=bif decide (o.kind=0)then 1000000000 else 0
def aNL(n d:List UInt8)(s:G.Y)(t:List UInt8)(l:List G.O):Gb ⟨2,n,d,s,t,l⟩=0:=rfl
def F9(n d:List UInt8)(s:G.Y)(t:List UInt8)(l:List G.O):Gb ⟨4,n,d,s,t,l⟩=0:=rfl
mutual
def E3:G.O->Nat
 |⟨k,n,d,s,t,l⟩=>2+pX l+aNK k n d s t l
def pX:List G.O->Nat
 |[]=>0
 |o::l=>E3 o+pX l+1
end
def dU{k:Nat}(h:k<4000000000000000000):IntKind.i64.wrap ((k:Int)+1)=((k+1:Nat):Int):=by
 unfold IntKind.wrap;simp[IntKind.bits,IntKind.signed];omega
def bZ{N:Type}(l:List N)(k:Nat):eK l (k:Int)=l[k]?:=by
 unfold eK;have:decide (0<=(k:Int))=true:=by simp
 rw[this];rfl
def lZ{W:Type}{b:Bool}{K:Bool×Unit->Option W}:mZ (some [yB b]) K=K (b,()):=rfl
def cY{N W:Type}{x:N}{K:N->Option W}:ob (some x) K=K x:=rfl
def cC{W:Type}{A B:Option W}:cH true A B=A:=rfl
def bU{W:Type}{A B:Option W}:cH false A B=B:=rfl
def dL{N:Type}{l:List N}{k:Nat}{x:N}{r:List N}(h:l.drop k=x::r):l[k]?=some x/\k<l.length/\l.drop (k+1)=r:=by
 refine⟨?_,?_,?_⟩
 .rw[<-List.head?_drop,h];rfl
 .have:=congrArg List.length h;simp at this;omega
 .rw[<-List.tail_drop,h];rfl
def dJ{N:Type}{l:List N}{k:Nat}(h:l.drop k=[]): ¬k<l.length:=by
 have:=congrArg List.length h;simp at this;omega
def oo(a b:G.O):oB:=[yR 2 a,yR 2 b]
def bb(b:Bool):oB:=[yB b]
def aXw(a:G.O):Prop:=E3 a<1000000000
def PZ: ∀(l:List G.O),l.length<=pX l
 |[]=>aS _
 |o::l=>by have:=PZ l;simp only[aM,pX];omega
def Am: ∀{l:List G.O} {x:G.O},x∈l->E3 x<=pX l
 |o::l,x,h=>by
  simp only[pX];cases h with
  |head=>omega
  |tail _ h=>have:=Am h;omega
end Go.TV
namespace Go.TV
open Go.AI Go.PI Go.Proofs
def sO{P:G.T->Prop}(h: ∀k n v l,(∀o∈l,P o)->P ⟨k,n,v,l⟩): ∀o,P o:=λo=>
 G.T.rec (motive_1:=P) (motive_2:=λl=> ∀o∈l,P o) (λk n v l ih=>h k n v l ih) (λo ho=>by cases ho)
  (λo l h1 h2 x hx=>by
   cases hx with
   |head=>exact h1
   |tail _ hx=>exact h2 x hx) o
noncomputable instance:DecidableEq G.T:=λa b=>Classical.propDecidable _
def aS2(k:Int)(n:G.Y)(v:G.O)(l:List G.T):Bool:=
 decide (k=1)&&decide (v.kind=0)&&l.isEmpty||decide (k=2)&&decide (n=⟨[],[]⟩)&&l.isEmpty&& !decide (v.kind=0)||decide (k=3)&&decide (v.kind=0)
def XF(k:Int)(n:G.Y)(v:G.O)(l:List G.T):Nat:=bif aS2 k n v l then 0 else 1000000000
mutual
def kA:G.T->Nat
 |⟨k,n,v,l⟩=>4+E3 v+dH l+XF k n v l
def dH:List G.T->Nat
 |[]=>0
 |o::l=>kA o+dH l+1
end
def mA: ∀(l:List G.T),l.length<=dH l
 |[]=>aS _
 |o::l=>by have:=mA l;simp only[aM,dH];omega
def fJ: ∀{l:List G.T} {x:G.T},x∈l->kA x<=dH l
 |o::l,x,h=>by
  simp only[dH];cases h with
  |head=>omega
  |tail _ h=>have:=fJ h;omega
def aXz(a b:G.T):oB:=[yR 3 a,yR 3 b]
def ll2(a b:List G.T):oB:=[yS 3 a,yS 3 b]
def aXv(a:G.T):Prop:=kA a<1000000000
end Go.TV
namespace Go.TV
open Go.AI Go.PI Go.Proofs
def Vr{W:Type}{b:List G.T}{K:List G.T×Unit->Option W}:fZ (D:=U0.D) [.sl (.rc 3)] (some [yS 3 b]) K=K (b,()):=rfl
def eH{W:Type}{A:Option W}:jC true A=A:=rfl
def TQ{k:Nat}(h:k<4000000000000000000):IntKind.i64.wrap (k:Int)=(k:Int):=by
 unfold IntKind.wrap;simp[IntKind.bits,IntKind.signed];omega
def lt2(a:List G.T)(t:G.T):oB:=[yS 3 a,yR 3 t]
def aXB(a:List G.T):oB:=[yS 3 a]
end Go.TV
namespace Go.TV
open Go.AI Go.PI Go.Proofs
def Bt:List UInt8:=[108,105,115,112]
end Go.TV
namespace Go.TV
open Go.AI Go.PI Go.Proofs
set_option maxRecDepth 20000
noncomputable section
variable(c:cJ)(e:Cu)(L:Nat)
def aSj(c:cJ)(e:Cu):Kt:=xK C8
def aSi:Kt:=xT C8 c e (pw 4 15) (aSj c e)
def PH:Kt:=dK U0 0 (aSi c e)
def aIf(d:Bool->Int->Int->G.P->G.K->G.O->G.O->G.X->Rt)(f:Int)(b:G.P):Rt:=
 ob (eK b.t b.pos) λa=>
 cH (decide (a.kind=0)) (qC (c 65 [yI 11,yI a.pos]) λg=>
 some [yR 2 OO,yR 18 g.1,yR 20 b]) (cH (decide (a.kind=2)) (d (decide (a.kind=2)) a.kind f b a OO OO (G.X.mk 0 0)) (d (decide (a.kind=3)) a.kind f b a OO OO (G.X.mk 0 0)))
def aIe(j:List UInt8->G.P->G.O->G.K->G.O->G.X->Rt)(o:Bool)(g:Int)(h:Int)(a:G.P)(b:G.K)(f:G.O)(l:G.O)(m:G.X):Rt:=
 cH o (qC (c 65 [yI 12,yI b.pos]) λp=>
 some [yR 2 f,yR 18 p.1,yR 20 a]) (cH (decide (g=5)) (some [yR 2 (G.O.mk 1 b.text b.den Gx [] ([]:List G.O)),yR 18 (G.X.mk 0 0),yR 20 (G.P.mk a.l a.current a.t (IntKind.i64.wrap (a.pos+1)))]) (cH (decide (g=7)) (oK (c 77 [yT b.text]) λq=>
 some [yR 2 q.1,yR 18 (G.X.mk 0 0),yR 20 (G.P.mk a.l a.current a.t (IntKind.i64.wrap (a.pos+1)))]) (cH (decide (g=6)) (cH (decide (b.package=[])) (j a.current (G.P.mk a.l a.current a.t (IntKind.i64.wrap (a.pos+1))) f b l m) (j b.package (G.P.mk a.l a.current a.t (IntKind.i64.wrap (a.pos+1))) f b l m)) (cH (decide ((200:Int)<h)) (qC (c 65 [yI 2,yI b.pos]) λs=>
 some [yR 2 f,yR 18 s.1,yR 20 a]) (cH (decide (b.kind=4)) (Vv (c 66 [yI (IntKind.i64.wrap (h+1)),yR 20 (G.P.mk a.l a.current a.t (IntKind.i64.wrap (a.pos+1)))]) λd=>
 cH (!decide (d.2.1.err=0)) (some [yR 2 f,yR 18 d.2.1,yR 20 d.2.2.1]) (Bm (c 22 [yT [113,117,111,116,101]]) λt=>
 oK (c 70 [yR 1 t.1]) λu=>
 oK (c 79 [yS 2 ([u.1,d.1]:List G.O)]) λv=>
 some [yR 2 v.1,yR 18 d.2.1,yR 20 d.2.2.1])) (Vv (c 87 [yI (IntKind.i64.wrap (h+1)),yR 20 (G.P.mk a.l a.current a.t (IntKind.i64.wrap (a.pos+1)))]) λi=>
 some [yR 2 i.1,yR 18 i.2.1,yR 20 i.2.2.1]))))))
def aHf(n:Nt):Bool->Int->Int->G.P->G.K->G.O->G.O->G.X->Rt:=λx0 x1 x2 x3 x4 x5 x6 x7=>n [yB x0,yI x1,yI x2,yR 20 x3,yR 19 x4,yR 2 x5,yR 2 x6,yR 18 x7]
def X7:=aHf (xD C8 e (pw 10 471) Mf (PH c e))
def aId(f:List UInt8)(a:G.P)(g:G.O)(d:G.K)(j:G.O)(l:G.X):Rt:=
 fZ [.rc 1,i6] (c 88 [yS 6 a.l,yT f,yT d.text]) λ(b:G.Y×Int×Unit)=>
 cH (!decide (b.2.1=0)) (qC (c 65 [yI b.2.1,yI d.pos]) λh=>
 some [yR 2 g,yR 18 h.1,yR 20 a]) (oK (c 70 [yR 1 b.1]) λi=>
 some [yR 2 i.1,yR 18 (G.X.mk 0 0),yR 20 a])
def aHe(n:Nt):List UInt8->G.P->G.O->G.K->G.O->G.X->Rt:=λx0 x1 x2 x3 x4 x5=>n [yT x0,yR 20 x1,yR 2 x2,yR 19 x3,yR 2 x4,yR 18 x5]
def X6:=aHe (xD C8 e (pw 21 982487) Me (PH c e))
def aQ4:Q2 (xF C8 c e)=aIf c (X7 c e):=by kernel_rfl
def aQ3:aHf (xA C8 c e (pw 10 471) Mf (PH c e))=aIe c (X6 c e):=by kernel_rfl
def aQ2:aHe (xA C8 c e (pw 21 982487) Me (PH c e))=aId c:=by kernel_rfl
def aHJ(L:Nat):List UInt8->G.P->G.O->G.K->G.O->G.X->Rt:=aId c
def aT9:X6 c (cu c L)=aHJ c L:=by rw[X6,dG,aQ2];rfl
def aHK:Bool->Int->Int->G.P->G.K->G.O->G.O->G.X->Rt:=aIe c (aHJ c L)
def aUa:X7 c (cu c L)=aHK c L:=by rw[X7,dG,aQ3];simp only[aT9];rfl
def a21:Int->G.P->Rt:=aIf c (aHK c L)
def e66:Q2 (xF C8 c (cu c L))=a21 c L:=by rw[aQ4];simp only[aUa];rfl
def c66(a:Int)(b:G.P)(L n:Nat):cG L (n+1) 66 [yI a,yR 20 b]=a21 (cG L n) L a b:=by rw[<-e66];exact cz (x:=C8) (by kernel_rfl) L n _
def aIc(c:cJ):Rt:=
 some [yS 22 ([(G.R.mk [105,102] 3),(G.R.mk [101,113,117,97,108] 2),(G.R.mk [99,111,110,115] 2),(G.R.mk [99,97,114] 1),(G.R.mk [99,100,114] 1),(G.R.mk [99,111,110,115,112] 1),(G.R.mk [115,121,109,98,111,108,112] 1),(G.R.mk [115,116,114,105,110,103,112] 1),(G.R.mk [114,97,116,105,111,110,97,108,112] 1),(G.R.mk [105,110,116,101,103,101,114,112] 1),(G.R.mk [98,105,110,97,114,121,45,43] 2),(G.R.mk [98,105,110,97,114,121,45,42] 2),(G.R.mk [117,110,97,114,121,45,45] 1),(G.R.mk [117,110,97,114,121,45,47] 1),(G.R.mk [60] 2),(G.R.mk [110,117,109,101,114,97,116,111,114] 1),(G.R.mk [100,101,110,111,109,105,110,97,116,111,114] 1),(G.R.mk [102,108,111,111,114] 1),(G.R.mk [115,121,109,98,111,108,45,110,97,109,101] 1),(G.R.mk [115,121,109,98,111,108,45,112,97,99,107,97,103,101,45,110,97,109,101] 1),(G.R.mk [105,110,116,101,114,110] 2),(G.R.mk [115,116,114,105,110,103,45,97,112,112,101,110,100] 2),(G.R.mk [115,116,114,105,110,103,45,108,101,110,103,116,104] 1),(G.R.mk [115,116,114,105,110,103,45,98,121,116,101] 2),(G.R.mk [98,121,116,101,45,115,116,114,105,110,103] 1)]:List G.R)]
def a2Z(L:Nat):Rt:=aIc c
def e73:zL (xF aMi c (cu c L))=a2Z c L:=by kernel_rfl
def a3Z(L n:Nat):cG L (n+1) 73 []=a2Z (cG L n) L:=by rw[<-e73];exact cz (x:=aMi) (by kernel_rfl) L n _
def aSd(c:cJ)(e:Cu):Kt:=xK Fk
def aSc:Kt:=xT Fk c e (pw 4 15) (aSd c e)
def UI:Kt:=dK U0 0 (aSc c e)
def aAr(b:List G.R->Int->G.Y->Rt)(a:G.Y):Rt:=
 cH (!decide (a.package=[108,105,115,112])) (some [yI 0,yB false]) (fZ [zS 22] (c 73 []) λ(d:List G.R×Unit)=>
 b d.1 0 a)
def aHd(n:Nt):G.Y->Rt:=λx0=>n [yR 1 x0]
def Rs(c:cJ)(f:List G.R->Int->G.Y->Rt)(a:List G.R)(b:Int)(d:G.Y):Rt:=
 cH (decide (b<(List.length a:Int))) (ob (eK a b) λg=>
 cH (decide (g.name=d.name)) (ob (eK a b) λh=>
 some [yI h.arity,yB true]) (f a (IntKind.i64.wrap (b+1)) d)) (some [yI 0,yB false])
def Q1(n:Nt):List G.R->Int->G.Y->Rt:=λx0 x1 x2=>n [yS 22 x0,yI x1,yR 1 x2]
def aGL:=Q1 (xE Fk e (pw 7 23) BS (UI c e))
def aQZ:aHd (xF Fk c e)=aAr c (aGL c e):=by kernel_rfl
def aQY(n1:Nt):Q1 (xA Fk c e (pw 7 23) BS (gP U0 BS n1 (UI c e)))=Rs c (Q1 n1):=by kernel_rfl
def Co(c:cJ)(L:Nat):Nat->List G.R->Int->G.Y->Rt
 |0=>λ_ _ _=>none
 |n+1=>Rs c (Co c L n)
def aPU(n:Nat):Q1 (xL Fk c L (pw 7 23) BS (UI c (cu c L)) n)=Co c L n:=by
 induction n with
 |zero=>rfl
 |succ n ih=>rw[eV,aQY];simp only[ih];rfl
def aPj:aGL c (cu c L)=Co c L L:=aPU c L L
def aXQ:G.Y->Rt:=aAr c (Co c L L)
def e80:aHd (xF Fk c (cu c L))=aXQ c L:=by rw[aQZ];simp only[aPj];rfl
def a3Y(a:G.Y)(L n:Nat):cG L (n+1) 80 [yR 1 a]=aXQ (cG L n) L a:=by rw[<-e80];exact cz (x:=Fk) (by kernel_rfl) L n _
def aIb(b:List G.E)(d:G.Y):Rt:=
 fZ [i6,i6,.bool] (c 103 [yS 15 b,yR 1 d]) λ(a:Int×Int×Bool×Unit)=>
 cH (!a.2.2.1) (some [yR 5 zqF,yB false]) (ob (eK b a.1) λf=>
 fZ [zS 5] (c 104 [yR 15 f]) λ(g:List G.F×Unit)=>
 ob (eK g.1 a.2.1) λh=>
 some [yR 5 h,yB true])
def aXP(L:Nat):List G.E->G.Y->Rt:=aIb c
def e81:Et (xF aMh c (cu c L))=aXP c L:=by kernel_rfl
def a3X(a:List G.E)(b:G.Y)(L n:Nat):cG L (n+1) 81 [yS 15 a,yR 1 b]=aXP (cG L n) L a b:=by rw[<-e81];exact cz (x:=aMh) (by kernel_rfl) L n _
def aFN(c:cJ)(e:Cu):Kt:=xK Ad
def aFM:Kt:=xT Ad c e [1,1] (aFN c e)
def aSb:Kt:=xT Ad c e [1,1,1] (aFN c e)
def UH:Kt:=dK U0 0 (aSb c e)
def aAq(c:cJ)(d:Bool->G.O->G.O->Rt)(a:G.O)(b:G.O):Rt:=
 cH (!decide (a.kind=b.kind)) (d true a b) (cH (!decide (a.num=b.num)) (d true a b) (cH (!decide (a.den=b.den)) (d true a b) (cH (!decide (a.sym=b.sym)) (d true a b) (cH (!decide (a.text=b.text)) (d true a b) (d (!decide ((List.length a.pair:Int)=(List.length b.pair:Int))) a b)))))
def aHc(n:Nt):G.O->G.O->Rt:=λx0 x1=>n [yR 2 x0,yR 2 x1]
def aAp(c:cJ)(a:Int->G.O->G.O->Rt)(b:Bool)(d:G.O)(f:G.O):Rt:=
 cH b (some [yB false]) (a 0 d f)
def aHb(n:Nt):Bool->G.O->G.O->Rt:=λx0 x1 x2=>n [yB x0,yR 2 x1,yR 2 x2]
def X3:=aHb (xD Ad e (pw 4 5) L9 (aFM c e))
def Rr(f:Int->G.O->G.O->Rt)(a:Int)(b:G.O)(d:G.O):Rt:=
 cH (decide (a<(List.length b.pair:Int))) (ob (eK b.pair a) λg=>
 ob (eK d.pair a) λh=>
 mZ (c 82 [yR 2 g,yR 2 h]) λi=>
 cH (!i.1) (some [yB false]) (f (IntKind.i64.wrap (a+1)) b d)) (some [yB true])
def Q0(n:Nt):Int->G.O->G.O->Rt:=λx0 x1 x2=>n [yI x0,yR 2 x1,yR 2 x2]
def aGK:=Q0 (xE Ad e (pw 6 11) BR (UH c e))
def aQX:aHc (xF Ad c e)=aAq c (X3 c e):=by kernel_rfl
def aQW:aHb (xA Ad c e (pw 4 5) L9 (aFM c e))=aAp c (aGK c e):=by kernel_rfl
def aQV(n2:Nt):Q0 (xA Ad c e (pw 6 11) BR (gP U0 BR n2 (UH c e)))=Rr c (Q0 n2):=by kernel_rfl
def Cn(c:cJ)(L:Nat):Nat->Int->G.O->G.O->Rt
 |0=>λ_ _ _=>none
 |n+1=>Rr c (Cn c L n)
def aPT(n:Nat):Q0 (xL Ad c L (pw 6 11) BR (UH c (cu c L)) n)=Cn c L n:=by
 induction n with
 |zero=>rfl
 |succ n ih=>rw[eV,aQV];simp only[ih];rfl
def aPi:aGK c (cu c L)=Cn c L L:=aPT c L L
def ZR:Bool->G.O->G.O->Rt:=aAp c (Cn c L L)
def aT4:X3 c (cu c L)=ZR c L:=by rw[X3,dG,aQW];simp only[aPi];rfl
def aXO:G.O->G.O->Rt:=aAq c (ZR c L)
def e82:aHc (xF Ad c (cu c L))=aXO c L:=by rw[aQX];simp only[aT4];rfl
def a3W(a:G.O)(b:G.O)(L n:Nat):cG L (n+1) 82 [yR 2 a,yR 2 b]=aXO (cG L n) L a b:=by rw[<-e82];exact cz (x:=Ad) (by kernel_rfl) L n _
def aSa(c:cJ)(e:Cu):Kt:=xK Fj
def aR9:Kt:=xT Fj c e [1,1,1] (aSa c e)
def UG:Kt:=dK U0 0 (aR9 c e)
def aAo(c:cJ)(d:List G.T->List G.T->Int->Rt)(a:List G.T)(b:List G.T):Rt:=
 cH (!decide ((List.length a:Int)=(List.length b:Int))) (some [yB false]) (d a b 0)
def Rq(f:List G.T->List G.T->Int->Rt)(b:List G.T)(d:List G.T)(a:Int):Rt:=
 cH (decide (a<(List.length b:Int))) (ob (eK b a) λg=>
 ob (eK d a) λh=>
 mZ (c 62 [yR 3 g,yR 3 h]) λi=>
 cH (!i.1) (some [yB false]) (f b d (IntKind.i64.wrap (a+1)))) (some [yB true])
def QY(n:Nt):List G.T->List G.T->Int->Rt:=λx0 x1 x2=>n [yS 3 x0,yS 3 x1,yI x2]
def aGJ:=QY (xE Fj e (pw 6 11) BQ (UG c e))
def aQU:QZ (xF Fj c e)=aAo c (aGJ c e):=by kernel_rfl
def aQT(n1:Nt):QY (xA Fj c e (pw 6 11) BQ (gP U0 BQ n1 (UG c e)))=Rq c (QY n1):=by kernel_rfl
def Cl(c:cJ)(L:Nat):Nat->List G.T->List G.T->Int->Rt
 |0=>λ_ _ _=>none
 |n+1=>Rq c (Cl c L n)
def aPS(n:Nat):QY (xL Fj c L (pw 6 11) BQ (UG c (cu c L)) n)=Cl c L n:=by
 induction n with
 |zero=>rfl
 |succ n ih=>rw[eV,aQT];simp only[ih];rfl
def aPh:aGJ c (cu c L)=Cl c L L:=aPS c L L
def a2Y:List G.T->List G.T->Rt:=aAo c (Cl c L L)
def e83:QZ (xF Fj c (cu c L))=a2Y c L:=by rw[aQU];simp only[aPh];rfl
def c83(a:List G.T)(b:List G.T)(L n:Nat):cG L (n+1) 83 [yS 3 a,yS 3 b]=a2Y (cG L n) L a b:=by rw[<-e83];exact cz (x:=Fj) (by kernel_rfl) L n _
def UF(c:cJ)(e:Cu):Kt:=xK C7
def aFL:Kt:=xT C7 c e [1,1] (UF c e)
def aAn(f:Bool->Int->List G.Y->G.T->Rt)(a:G.T)(b:Int)(d:List G.Y):Rt:=
 cH (decide (a.kind=b)) (mZ (c 105 [yS 1 d,yR 1 a.name]) λg=>
 f (!g.1) b d a) (f false b d a)
def aAm(c:cJ)(b:Int->List G.Y->Rt)(g:Bool)(d:Int)(a:List G.Y)(f:G.T):Rt:=
 cH g (jC (Nat.ble ((List.length a+List.length ([f.name]:List G.Y))*32) 1073741824)<|
 b d (a++([f.name]:List G.Y))) (b d a)
def aHa(n:Nt):Bool->Int->List G.Y->G.T->Rt:=λx0 x1 x2 x3=>n [yB x0,yI x1,yS 1 x2,yR 3 x3]
def X2:=aHa (xD C7 e (pw 4 5) L8 (aFL c e))
def aAl(c:cJ)(a:Int)(b:List G.Y):Rt:=
 some [yB true,yI a,yS 1 b]
def X1:=QW (xD C7 e [1,1,0] L7 (UF c e))
def aQS:QX (xF C7 c e)=aAn c (X2 c e):=by kernel_rfl
def aQR:aHa (xA C7 c e (pw 4 5) L8 (aFL c e))=aAm c (X1 c e):=by kernel_rfl
def aQQ:QW (xA C7 c e [1,1,0] L7 (UF c e))=aAl c:=by kernel_rfl
def ZP(L:Nat):Int->List G.Y->Rt:=aAl c
def aT2:X1 c (cu c L)=ZP c L:=by rw[X1,dG,aQQ];rfl
def ZQ:Bool->Int->List G.Y->G.T->Rt:=aAm c (ZP c L)
def aT3:X2 c (cu c L)=ZQ c L:=by rw[X2,dG,aQR];simp only[aT2];rfl
def a2X:G.T->Int->List G.Y->Rt:=aAn c (ZQ c L)
def e84:QX (xF C7 c (cu c L))=a2X c L:=by rw[aQS];simp only[aT3];rfl
def c84(a:G.T)(b:Int)(d:List G.Y)(L n:Nat):cG L (n+1) 84 [yR 3 a,yI b,yS 1 d]=a2X (cG L n) L a b d:=by rw[<-e84];exact cz (x:=C7) (by kernel_rfl) L n _
def aR8(c:cJ)(e:Cu):Kt:=xK rA
def aR7:Kt:=xT rA c e [1,1] (aR8 c e)
def PD:Kt:=dK U0 0 (aR7 c e)
def aR6(n1:Nt):Kt:=gP U0 xV n1 (PD c e)
def aR5(n1:Nt):Kt:=dK U0 1 (aR6 c e n1)
def aFK(n1:Nt):Kt:=dK U0 2 (aR5 c e n1)
def PB(n1:Nt):Kt:=dK U0 3 (aFK c e n1)
def UE(n1:Nt):Kt:=dK U0 5 (aFK c e n1)
def aR4(n2:Nt)(n1:Nt):Kt:=gP U0 xU n2 (PB c e n1)
def aFJ(n2:Nt)(n1:Nt):Kt:=xT rA c e (pw 14 9105) (aR4 c e n2 n1)
def aAk(c:cJ)(a:List UInt8->Int->Rt)(b:List UInt8)(d:Int):Rt:=
 a b d
def Rp(d:List UInt8->Int->Rt)(f:List UInt8->Int->Rt)(g:Int->List UInt8->Int->Rt)(b:List UInt8)(a:Int):Rt:=
 cH (decide (a<(List.length b:Int))) (ob (eK b a) λh=>
 mZ (c 106 [⟨(.int .u8),(h.toNat:Int)⟩]) λi=>
 cH i.1 (d b (IntKind.i64.wrap (a+1))) (ob (eK b a) λj=>
 cH (decide ((j.toNat:Int)=59)) (f b a) (mZ (c 107 [yT b,yI a,⟨(.int .u8),35⟩,⟨(.int .u8),124⟩]) λl=>
 cH l.1 (g 1 b (IntKind.i64.wrap (a+2))) (some [yI a,yB true])))) (some [yI a,yB true])
def aGI:=fN (xE rA e (pw 4 1) xV (PD c e))
def aIa(c:cJ)(d:Bool->List UInt8->Int->Rt)(a:List UInt8)(b:Int):Rt:=
 cH (decide (b<(List.length a:Int))) (ob (eK a b) λf=>
 d (!decide ((f.toNat:Int)=10)) a b) (d false a b)
def aGH(n1:Nt):=fN (xE rA e (pw 13 913) xU (PB c e n1))
def aH9(f:Int->List UInt8->Int->Rt)(g:List UInt8->Int->Rt)(d:Int)(b:List UInt8)(a:Int):Rt:=
 cH (decide ((0:Int)<d)) (cH (decide ((List.length b:Int)<=a)) (some [yI a,yB false]) (mZ (c 107 [yT b,yI a,⟨(.int .u8),35⟩,⟨(.int .u8),124⟩]) λh=>
 cH h.1 (f (IntKind.i64.wrap (d+1)) b (IntKind.i64.wrap (a+2))) (mZ (c 107 [yT b,yI a,⟨(.int .u8),124⟩,⟨(.int .u8),35⟩]) λi=>
 cH i.1 (f (IntKind.i64.wrap (d-1)) b (IntKind.i64.wrap (a+2))) (f d b (IntKind.i64.wrap (a+1)))))) (g b a)
def aGG(n1:Nt):=nZ (xE rA e (pw 17 28561) BP (UE c e n1))
def aH8(c:cJ)(d:List UInt8->Int->Rt)(f:List UInt8->Int->Rt)(g:Bool)(a:List UInt8)(b:Int):Rt:=
 cH g (d a (IntKind.i64.wrap (b+1))) (f a b)
def X0(n2:Nt)(n1:Nt):=Er (xD rA e (pw 16 17297) L6 (aFJ c e n2 n1))
def aQP:fN (xF rA c e)=aAk c (aGI c e):=by kernel_rfl
def aQO(n1:Nt):fN (xA rA c e (pw 4 1) xV (gP U0 xV n1 (PD c e)))=Rp c (fN n1) (aGH c e n1) (aGG c e n1):=by kernel_rfl
def aQN(n2:Nt)(n1:Nt):fN (xA rA c e (pw 13 913) xU (gP U0 xU n2 (PB c e n1)))=aIa c (X0 c e n2 n1):=by kernel_rfl
def aQM(n3:Nt)(n1:Nt):nZ (xA rA c e (pw 17 28561) BP (gP U0 BP n3 (UE c e n1)))=aH9 c (nZ n3) (fN n1):=by kernel_rfl
def aQL(n2:Nt)(n1:Nt):Er (xA rA c e (pw 16 17297) L6 (aFJ c e n2 n1))=aH8 c (fN n2) (fN n1):=by kernel_rfl
def QQ(c:cJ)(L:Nat)(n1:List UInt8->Int->Rt):Nat->Int->List UInt8->Int->Rt
 |0=>λ_ _ _=>none
 |n+1=>aH9 c (QQ c L n1 n) n1
def aPP(n1:Nt)(n:Nat):nZ (xL rA c L (pw 17 28561) BP (UE c (cu c L) n1) n)=QQ c L (fN n1) n:=by
 induction n with
 |zero=>rfl
 |succ n ih=>rw[eV,aQM];simp only[ih];rfl
def aPe(n1:Nt):aGG c (cu c L) n1=QQ c L (fN n1) L:=aPP c L n1 L
def aHI(L:Nat)(n2:List UInt8->Int->Rt)(n1:List UInt8->Int->Rt):Bool->List UInt8->Int->Rt:=aH8 c n2 n1
def aT1(n2:Nt)(n1:Nt):X0 c (cu c L) n2 n1=aHI c L (fN n2) (fN n1):=by rw[X0,dG,aQL];rfl
def QR(c:cJ)(L:Nat)(n1:List UInt8->Int->Rt):Nat->List UInt8->Int->Rt
 |0=>λ_ _=>none
 |n+1=>aIa c (aHI c L (QR c L n1 n) n1)
def aPQ(n1:Nt)(n:Nat):fN (xL rA c L (pw 13 913) xU (PB c (cu c L) n1) n)=QR c L (fN n1) n:=by
 induction n with
 |zero=>rfl
 |succ n ih=>rw[eV,aQN];simp only[aT1,ih];rfl
def aPf(n1:Nt):aGH c (cu c L) n1=QR c L (fN n1) L:=aPQ c L n1 L
def wI(c:cJ)(L:Nat):Nat->List UInt8->Int->Rt
 |0=>λ_ _=>none
 |n+1=>Rp c (wI c L n) (QR c L (wI c L n) L) (QQ c L (wI c L n) L)
def aPR(n:Nat):fN (xL rA c L (pw 4 1) xV (PD c (cu c L)) n)=wI c L n:=by
 induction n with
 |zero=>rfl
 |succ n ih=>rw[eV,aQO];simp only[aPf,aPe,ih];rfl
def aPg:aGI c (cu c L)=wI c L L:=aPR c L L
def a2W:List UInt8->Int->Rt:=aAk c (wI c L L)
def e85:fN (xF rA c (cu c L))=a2W c L:=by rw[aQP];simp only[aPg];rfl
def c85(a:List UInt8)(b:Int)(L n:Nat):cG L (n+1) 85 [yT a,yI b]=a2W (cG L n) L a b:=by rw[<-e85];exact cz (x:=rA) (by kernel_rfl) L n _
def PA(c:cJ)(e:Cu):Kt:=xK qZ
def aR3:Kt:=xT qZ c e (pw 4 15) (PA c e)
def HP:Kt:=dK U0 0 (aR3 c e)
def aFI:Kt:=xT qZ c e (pw 17 122839) (HP c e)
def aR2:Kt:=xT qZ c e (pw 9 511) (PA c e)
def aFH:Kt:=dK U0 1 (aR2 c e)
def KZ(o:Bool->Int->G.K->G.X->G.K->G.X->Rt)(p:Int->G.K->G.X->G.K->G.X->Rt)(q:Int->G.K->G.X->G.K->G.X->Rt)(s:Bool->Int->Int->G.K->G.X->G.K->G.X->Rt)(f:List UInt8)(a:Int):Rt:=
 ob (eK f a) λh=>
 cH (decide ((h.toNat:Int)=40)) (some [yR 19 (G.K.mk 1 a [] [] []),yI (IntKind.i64.wrap (a+1)),yR 18 (G.X.mk 0 0)]) (cH (decide ((h.toNat:Int)=41)) (some [yR 19 (G.K.mk 2 a [] [] []),yI (IntKind.i64.wrap (a+1)),yR 18 (G.X.mk 0 0)]) (cH (decide ((h.toNat:Int)=39)) (some [yR 19 (G.K.mk 4 a [] [] []),yI (IntKind.i64.wrap (a+1)),yR 18 (G.X.mk 0 0)]) (cH (decide ((h.toNat:Int)=34)) (fZ [.str,i6,.rc 18] (c 108 [yT f,yI (IntKind.i64.wrap (a+1)),⟨(.int .u8),34⟩]) λ(b:List UInt8×Int×G.X×Unit)=>
 cH (decide (b.2.2.1.err=0)) (o (decide ((200:Int)<(List.length b.1:Int))) b.2.1 (G.K.mk 7 a [] b.1 []) b.2.2.1 (G.K.mk 0 0 [] [] []) (G.X.mk 0 0)) (o false b.2.1 (G.K.mk 7 a [] b.1 []) b.2.2.1 (G.K.mk 0 0 [] [] []) (G.X.mk 0 0))) (cH (decide ((h.toNat:Int)=124)) (fZ [.str,i6,.rc 18] (c 108 [yT f,yI (IntKind.i64.wrap (a+1)),⟨(.int .u8),124⟩]) λ(g:List UInt8×Int×G.X×Unit)=>
 cH (decide (g.2.2.1.err=0)) (qC (c 109 [yR 19 (G.K.mk 6 a [] g.1 []),yB true]) λt=>
 p g.2.1 (G.K.mk 6 a [] g.1 []) t.1 (G.K.mk 0 0 [] [] []) (G.X.mk 0 0)) (p g.2.1 (G.K.mk 6 a [] g.1 []) g.2.2.1 (G.K.mk 0 0 [] [] []) (G.X.mk 0 0))) (mZ (c 110 [⟨(.int .u8),(h.toNat:Int)⟩]) λu=>
 cH (!u.1) (qC (c 65 [yI 12,yI a]) λv=>
 some [yR 19 (G.K.mk 0 a [] [] []),yI a,yR 18 v.1]) (C3 (c 111 [yT f,yI a]) λd=>
 ob (slc f a d.1) λj=>
 mZ (c 107 [yT f,yI d.1,⟨(.int .u8),58⟩,⟨(.int .u8),58⟩]) λw=>
 cH w.1 (fZ [.rc 19,i6,.rc 18] (c 112 [yT f,yR 19 (G.K.mk 0 a [] [] []),yT j,yI d.1]) λ(m:G.K×Int×G.X×Unit)=>
 some [yR 19 m.1,yI m.2.1,yR 18 m.2.2.1]) (fZ [.str,.str,.bool] (c 113 [yT j]) λ(l:List UInt8×List UInt8×Bool×Unit)=>
 cH (decide (j=[46])) (q d.1 (G.K.mk 3 a [] [] []) (G.X.mk 0 0) (G.K.mk 0 0 [] [] []) (G.X.mk 0 0)) (cH l.2.2.1 (fZ [.str] (c 114 [yT l.2.1]) λ(x:List UInt8×Unit)=>
 cH (decide (x.1=[48])) (qC (c 65 [yI 12,yI a]) λy=>
 some [yR 19 (G.K.mk 0 a [] [] []),yI d.1,yR 18 y.1]) (fZ [.str] (c 114 [yT l.1]) λ(z:List UInt8×Unit)=>
 fZ [.str] (c 114 [yT l.2.1]) λ(A:List UInt8×Unit)=>
 fZ [.str,.str] (c 102 [yT z.1,yT A.1]) λ(i:List UInt8×List UInt8×Unit)=>
 C3 (c 115 [yT i.1]) λB=>
 cH (decide ((100:Int)<B.1)) (s true a d.1 (G.K.mk 5 a [] i.1 i.2.1) (G.X.mk 0 0) (G.K.mk 0 0 [] [] []) (G.X.mk 0 0)) (C3 (c 115 [yT i.2.1]) λC=>
 s (decide ((100:Int)<C.1)) a d.1 (G.K.mk 5 a [] i.1 i.2.1) (G.X.mk 0 0) (G.K.mk 0 0 [] [] []) (G.X.mk 0 0)))) (qC (c 109 [yR 19 (G.K.mk 6 a [] j []),yB false]) λD=>
 q d.1 (G.K.mk 6 a [] j []) D.1 (G.K.mk 0 0 [] [] []) (G.X.mk 0 0))))))))))
def aH7(b:Int->G.K->G.X->G.K->G.X->Rt)(h:Bool)(d:Int)(a:G.K)(i:G.X)(f:G.K)(g:G.X):Rt:=
 cH h (qC (c 65 [yI 2,yI a.pos]) λj=>
 b d a j.1 f g) (b d a i f g)
def aG9(n:Nt):Bool->Int->G.K->G.X->G.K->G.X->Rt:=λx0 x1 x2 x3 x4 x5=>n [yB x0,yI x1,yR 19 x2,yR 18 x3,yR 19 x4,yR 18 x5]
def XZ:=aG9 (xD qZ e (pw 19 188375) L5 (aFI c e))
def aH6(c:cJ)(a:Int)(b:G.K)(d:G.X)(f:G.K)(g:G.X):Rt:=
 some [yR 19 b,yI a,yR 18 d]
def XY:=Ep (xD qZ e (pw 20 491479) L4 (HP c e))
def aH5(c:cJ)(a:Int)(b:G.K)(d:G.X)(f:G.K)(g:G.X):Rt:=
 some [yR 19 b,yI a,yR 18 d]
def QK:=Ep (xD qZ e (pw 10 511) L3 (PA c e))
def aH4(d:Int->G.K->G.X->G.K->G.X->Rt)(f:Bool)(g:Int)(a:Int)(b:G.K)(h:G.X)(i:G.K)(j:G.X):Rt:=
 cH f (qC (c 65 [yI 2,yI g]) λl=>
 some [yR 19 b,yI a,yR 18 l.1]) (d a b h i j)
def aG8(n:Nt):Bool->Int->Int->G.K->G.X->G.K->G.X->Rt:=λx0 x1 x2 x3 x4 x5 x6=>n [yB x0,yI x1,yI x2,yR 19 x3,yR 18 x4,yR 19 x5,yR 18 x6]
def XX:=aG8 (xD qZ e (pw 19 253183) L2 (aFH c e))
def aH3(c:cJ)(a:Int)(b:G.K)(d:G.X)(f:G.K)(g:G.X):Rt:=
 some [yR 19 b,yI a,yR 18 d]
def XW:=Ep (xD qZ e (pw 18 122839) L1 (HP c e))
def aQK:fN (xF qZ c e)=KZ c (XZ c e) (XY c e) (QK c e) (XX c e):=by kernel_rfl
def aQJ:aG9 (xA qZ c e (pw 19 188375) L5 (aFI c e))=aH7 c (XW c e):=by kernel_rfl
def aQI:Ep (xA qZ c e (pw 20 491479) L4 (HP c e))=aH6 c:=by kernel_rfl
def aQH:Ep (xA qZ c e (pw 10 511) L3 (PA c e))=aH5 c:=by kernel_rfl
def aQG:aG8 (xA qZ c e (pw 19 253183) L2 (aFH c e))=aH4 c (QK c e):=by kernel_rfl
def aQF:Ep (xA qZ c e (pw 18 122839) L1 (HP c e))=aH3 c:=by kernel_rfl
def aHG(L:Nat):Int->G.K->G.X->G.K->G.X->Rt:=aH6 c
def aTZ:XY c (cu c L)=aHG c L:=by rw[XY,dG,aQI];rfl
def ZO(L:Nat):Int->G.K->G.X->G.K->G.X->Rt:=aH5 c
def aGl:QK c (cu c L)=ZO c L:=by rw[QK,dG,aQH];rfl
def aHF:Bool->Int->Int->G.K->G.X->G.K->G.X->Rt:=aH4 c (ZO c L)
def aTY:XX c (cu c L)=aHF c L:=by rw[XX,dG,aQG];simp only[aGl];rfl
def aHE(L:Nat):Int->G.K->G.X->G.K->G.X->Rt:=aH3 c
def aTX:XW c (cu c L)=aHE c L:=by rw[XW,dG,aQF];rfl
def aHH:Bool->Int->G.K->G.X->G.K->G.X->Rt:=aH7 c (aHE c L)
def aT0:XZ c (cu c L)=aHH c L:=by rw[XZ,dG,aQJ];simp only[aTX];rfl
def aXh:List UInt8->Int->Rt:=KZ c (aHH c L) (aHG c L) (ZO c L) (aHF c L)
def e86:fN (xF qZ c (cu c L))=aXh c L:=by rw[aQK];simp only[aT0,aTZ,aGl,aTY];rfl
def a2y(a:List UInt8)(b:Int)(L n:Nat):cG L (n+1) 86 [yT a,yI b]=aXh (cG L n) L a b:=by rw[<-e86];exact cz (x:=qZ) (by kernel_rfl) L n _
def Pz(c:cJ)(e:Cu):Kt:=xK qY
def aR1:Kt:=xT qY c e (pw 4 15) (Pz c e)
def Py:Kt:=dK U0 0 (aR1 c e)
def aR0(n1:Nt):Kt:=gP U0 xS n1 (Py c e)
def aRZ(n1:Nt):Kt:=dK U0 1 (aR0 c e n1)
def aFG(n1:Nt):Kt:=xT qY c e (pw 9 327) (aRZ c e n1)
def aRY:Kt:=xT qY c e (pw 7 111) (Pz c e)
def UD:Kt:=dK U0 3 (aRY c e)
def aH2(a:Int->List G.O->G.P->G.O->G.O->G.X->Rt)(b:Int)(d:G.P):Rt:=
 oK (c 54 []) λf=>
 a b ([]:List G.O) d f.1 OO (G.X.mk 0 0)
def aH1(c:cJ)(h:Bool->List G.O->Int->G.P->G.O->G.O->G.X->Rt)(j:List G.O->G.P->G.O->G.O->G.X->Rt)(i:Int)(b:List G.O)(a:G.P)(d:G.O)(f:G.O)(g:G.X):Rt:=
 ob (eK a.t a.pos) λl=>
 cH (!decide (l.kind=2)) (ob (eK a.t a.pos) λm=>
 cH (decide (m.kind=3)) (h (decide ((0:Int)<(List.length b:Int))) b i a d f g) (h false b i a d f g)) (j b a d f g)
def KR(n:Nt):Int->List G.O->G.P->G.O->G.O->G.X->Rt:=λx0 x1 x2 x3 x4 x5=>n [yI x0,yS 2 x1,yR 20 x2,yR 2 x3,yR 2 x4,yR 18 x5]
def aGF:=KR (xE qY e (pw 6 7) xS (Py c e))
def aH0(l:List G.O->G.P->G.O->G.O->G.X->Rt)(m:Int->List G.O->G.P->G.O->G.O->G.X->Rt)(o:Bool)(g:List G.O)(h:Int)(d:G.P)(p:G.O)(i:G.O)(j:G.X):Rt:=
 cH o (Vv (c 66 [yI h,yR 20 (G.P.mk d.l d.current d.t (IntKind.i64.wrap (d.pos+1)))]) λa=>
 cH (!decide (a.2.1.err=0)) (some [yR 2 OO,yR 18 a.2.1,yR 20 a.2.2.1]) (ob (eK a.2.2.1.t a.2.2.1.pos) λf=>
 cH (decide (f.kind=2)) (l g a.2.2.1 a.1 i j) (cH (decide (f.kind=0)) (qC (c 65 [yI 11,yI f.pos]) λq=>
 some [yR 2 OO,yR 18 q.1,yR 20 a.2.2.1]) (qC (c 65 [yI 12,yI f.pos]) λs=>
 some [yR 2 OO,yR 18 s.1,yR 20 a.2.2.1])))) (Vv (c 66 [yI h,yR 20 d]) λb=>
 cH (!decide (b.2.1.err=0)) (some [yR 2 OO,yR 18 b.2.1,yR 20 b.2.2.1]) (jC (Nat.ble ((List.length g+List.length ([b.1]:List G.O))*112) 1073741824)<|
 m h (g++([b.1]:List G.O)) b.2.2.1 p i j))
def aG7(n:Nt):Bool->List G.O->Int->G.P->G.O->G.O->G.X->Rt:=λx0 x1 x2 x3 x4 x5 x6=>n [yB x0,yS 2 x1,yI x2,yR 20 x3,yR 2 x4,yR 2 x5,yR 18 x6]
def XV(n1:Nt):=aG7 (xD qY e (pw 11 583) L0 (aFG c e n1))
def aHZ(c:cJ)(d:List G.O->Int->G.P->G.O->G.O->G.X->Rt)(b:List G.O)(a:G.P)(f:G.O)(g:G.O)(h:G.X):Rt:=
 d b (IntKind.i64.wrap ((List.length b:Int)-1)) (G.P.mk a.l a.current a.t (IntKind.i64.wrap (a.pos+1))) f g h
def aG6(n:Nt):List G.O->G.P->G.O->G.O->G.X->Rt:=λx0 x1 x2 x3 x4=>n [yS 2 x0,yR 20 x1,yR 2 x2,yR 2 x3,yR 18 x4]
def QJ:=aG6 (xD qY e (pw 5 15) LZ (Pz c e))
def aHY(g:List G.O->Int->G.P->G.O->G.O->G.X->Rt)(b:List G.O)(a:Int)(d:G.P)(f:G.O)(h:G.O)(i:G.X):Rt:=
 cH (decide ((0:Int)<=a)) (ob (eK b a) λj=>
 oK (c 78 [yR 2 j,yR 2 f]) λl=>
 g b (IntKind.i64.wrap (a-1)) d l.1 h i) (some [yR 2 f,yR 18 (G.X.mk 0 0),yR 20 d])
def QV(n:Nt):List G.O->Int->G.P->G.O->G.O->G.X->Rt:=λx0 x1 x2 x3 x4 x5=>n [yS 2 x0,yI x1,yR 20 x2,yR 2 x3,yR 2 x4,yR 18 x5]
def aGE:=QV (xE qY e (pw 10 175) BO (UD c e))
def aQE:Q2 (xF qY c e)=aH2 c (aGF c e):=by kernel_rfl
def aQD(n1:Nt):KR (xA qY c e (pw 6 7) xS (gP U0 xS n1 (Py c e)))=aH1 c (XV c e n1) (QJ c e):=by kernel_rfl
def aQC(n1:Nt):aG7 (xA qY c e (pw 11 583) L0 (aFG c e n1))=aH0 c (QJ c e) (KR n1):=by kernel_rfl
def aQB:aG6 (xA qY c e (pw 5 15) LZ (Pz c e))=aHZ c (aGE c e):=by kernel_rfl
def aQA(n4:Nt):QV (xA qY c e (pw 10 175) BO (gP U0 BO n4 (UD c e)))=aHY c (QV n4):=by kernel_rfl
def QO(c:cJ)(L:Nat):Nat->List G.O->Int->G.P->G.O->G.O->G.X->Rt
 |0=>λ_ _ _ _ _ _=>none
 |n+1=>aHY c (QO c L n)
def aPN(n:Nat):QV (xL qY c L (pw 10 175) BO (UD c (cu c L)) n)=QO c L n:=by
 induction n with
 |zero=>rfl
 |succ n ih=>rw[eV,aQA];simp only[ih];rfl
def aPc:aGE c (cu c L)=QO c L L:=aPN c L L
def ZN:List G.O->G.P->G.O->G.O->G.X->Rt:=aHZ c (QO c L L)
def aGk:QJ c (cu c L)=ZN c L:=by rw[QJ,dG,aQB];simp only[aPc];rfl
def aHD(n1:Int->List G.O->G.P->G.O->G.O->G.X->Rt):Bool->List G.O->Int->G.P->G.O->G.O->G.X->Rt:=aH0 c (ZN c L) n1
def aTW(n1:Nt):XV c (cu c L) n1=aHD c L (KR n1):=by rw[XV,dG,aQC];simp only[aGk];rfl
def QP(c:cJ)(L:Nat):Nat->Int->List G.O->G.P->G.O->G.O->G.X->Rt
 |0=>λ_ _ _ _ _ _=>none
 |n+1=>aH1 c (aHD c L (QP c L n)) (ZN c L)
def aPO(n:Nat):KR (xL qY c L (pw 6 7) xS (Py c (cu c L)) n)=QP c L n:=by
 induction n with
 |zero=>rfl
 |succ n ih=>rw[eV,aQD];simp only[aTW,aGk,ih];rfl
def aPd:aGF c (cu c L)=QP c L L:=aPO c L L
def a2V:Int->G.P->Rt:=aH2 c (QP c L L)
def e87:Q2 (xF qY c (cu c L))=a2V c L:=by rw[aQE];simp only[aPd];rfl
def c87(a:Int)(b:G.P)(L n:Nat):cG L (n+1) 87 [yI a,yR 20 b]=a2V (cG L n) L a b:=by rw[<-e87];exact cz (x:=qY) (by kernel_rfl) L n _
end
end Go.TV
namespace Go.TV
open Go.AI Go.PI Go.Proofs
set_option maxRecDepth 20000
noncomputable section
variable(c:cJ)(e:Cu)(L:Nat)
def aFF(c:cJ)(e:Cu):Kt:=xK Ac
def aFE:Kt:=xT Ac c e (pw 4 15) (aFF c e)
def aRX:Kt:=xT Ac c e (pw 5 31) (aFF c e)
def UC:Kt:=dK U0 0 (aRX c e)
def aHX(f:Bool->List UInt8->List UInt8->G.A->G.Y->Rt)(g:List G.A)(b:List UInt8)(a:List UInt8):Rt:=
 fZ [.rc 6,.bool] (c 116 [yS 6 g,yT b]) λ(d:G.A×Bool×Unit)=>
 cH (!d.2.1) (some [yR 1 Gx,yI 13]) (cH (decide ((List.length a:Int)<1)) (f true b a d.1 Gx) (f (decide ((40:Int)<(List.length a:Int))) b a d.1 Gx))
def aHW(c:cJ)(a:Int->List UInt8->List UInt8->G.A->G.Y->Rt)(b:Bool)(d:List UInt8)(f:List UInt8)(g:G.A)(h:G.Y):Rt:=
 cH b (some [yR 1 Gx,yI 3]) (a 0 d f g h)
def aG5(n:Nt):Bool->List UInt8->List UInt8->G.A->G.Y->Rt:=λx0 x1 x2 x3 x4=>n [yB x0,yT x1,yT x2,yR 6 x3,yR 1 x4]
def XU:=aG5 (xD Ac e (pw 6 23) LY (aFE c e))
def aHV(c:cJ)(g:Int->List UInt8->List UInt8->G.A->G.Y->Rt)(a:Int)(f:List UInt8)(d:List UInt8)(b:G.A)(h:G.Y):Rt:=
 cH (decide (a<(List.length b.imports:Int))) (ob (eK b.imports a) λi=>
 cH (decide (i.name=d)) (ob (eK b.imports a) λj=>
 some [yR 1 j,yI 0]) (g (IntKind.i64.wrap (a+1)) f d b h)) (some [yR 1 (G.Y.mk f d),yI 0])
def QT(n:Nt):Int->List UInt8->List UInt8->G.A->G.Y->Rt:=λx0 x1 x2 x3 x4=>n [yI x0,yT x1,yT x2,yR 6 x3,yR 1 x4]
def aGD:=QT (xE Ac e (pw 8 47) BN (UC c e))
def aQz:QU (xF Ac c e)=aHX c (XU c e):=by kernel_rfl
def aQy:aG5 (xA Ac c e (pw 6 23) LY (aFE c e))=aHW c (aGD c e):=by kernel_rfl
def aQx(n2:Nt):QT (xA Ac c e (pw 8 47) BN (gP U0 BN n2 (UC c e)))=aHV c (QT n2):=by kernel_rfl
def QN(c:cJ)(L:Nat):Nat->Int->List UInt8->List UInt8->G.A->G.Y->Rt
 |0=>λ_ _ _ _ _=>none
 |n+1=>aHV c (QN c L n)
def aPM(n:Nat):QT (xL Ac c L (pw 8 47) BN (UC c (cu c L)) n)=QN c L n:=by
 induction n with
 |zero=>rfl
 |succ n ih=>rw[eV,aQx];simp only[ih];rfl
def aPb:aGD c (cu c L)=QN c L L:=aPM c L L
def aHC:Bool->List UInt8->List UInt8->G.A->G.Y->Rt:=aHW c (QN c L L)
def aTV:XU c (cu c L)=aHC c L:=by rw[XU,dG,aQy];simp only[aPb];rfl
def a2U:List G.A->List UInt8->List UInt8->Rt:=aHX c (aHC c L)
def e88:QU (xF Ac c (cu c L))=a2U c L:=by rw[aQz];simp only[aTV];rfl
def c88(a:List G.A)(b:List UInt8)(d:List UInt8)(L n:Nat):cG L (n+1) 88 [yS 6 a,yT b,yT d]=a2U (cG L n) L a b d:=by rw[<-e88];exact cz (x:=Ac) (by kernel_rfl) L n _
def aRW(c:cJ)(e:Cu):Kt:=xK JA
def aFD:Kt:=xT JA c e [1,1] (aRW c e)
def aHU(c:cJ)(d:Bool->Int->G.O->Rt)(a:G.O)(b:Int):Rt:=
 cH (!decide ((List.length a.pair:Int)=2)) (d true b a) (d (decide (b<=1)) b a)
def aG4(n:Nt):G.O->Int->Rt:=λx0 x1=>n [yR 2 x0,yI x1]
def aHT(f:Bool)(a:Int)(d:G.O):Rt:=
 cH f (some [yI 1]) (ob (eK d.pair 0) λg=>
 C3 (c 89 [yR 2 g,yI (IntKind.i64.wrap (a-1))]) λb=>
 cH (decide (a<=(IntKind.i64.wrap ((1:Int)+b.1)))) (some [yI a]) (ob (eK d.pair 1) λh=>
 C3 (c 89 [yR 2 h,yI (IntKind.i64.wrap (a-(IntKind.i64.wrap ((1:Int)+b.1))))]) λi=>
 some [yI (IntKind.i64.wrap ((IntKind.i64.wrap ((1:Int)+b.1))+i.1))]))
def aG3(n:Nt):Bool->Int->G.O->Rt:=λx0 x1 x2=>n [yB x0,yI x1,yR 2 x2]
def XT:=aG3 (xD JA e (pw 4 5) LX (aFD c e))
def aQw:aG4 (xF JA c e)=aHU c (XT c e):=by kernel_rfl
def aQv:aG3 (xA JA c e (pw 4 5) LX (aFD c e))=aHT c:=by kernel_rfl
def aHB(L:Nat):Bool->Int->G.O->Rt:=aHT c
def aTU:XT c (cu c L)=aHB c L:=by rw[XT,dG,aQv];rfl
def a2T:G.O->Int->Rt:=aHU c (aHB c L)
def e89:aG4 (xF JA c (cu c L))=a2T c L:=by rw[aQw];simp only[aTU];rfl
def c89(a:G.O)(b:Int)(L n:Nat):cG L (n+1) 89 [yR 2 a,yI b]=a2T (cG L n) L a b:=by rw[<-e89];exact cz (x:=JA) (by kernel_rfl) L n _
def aRV(c:cJ)(e:Cu):Kt:=xK Ab
def aRU:Kt:=xT Ab c e [1,1] (aRV c e)
def Px:Kt:=dK U0 0 (aRU c e)
def aRT(n1:Nt):Kt:=gP U0 xR n1 (Px c e)
def aRS(n1:Nt):Kt:=xT Ab c e (pw 7 101) (aRT c e n1)
def aFC(n1:Nt):Kt:=dK U0 1 (aRS c e n1)
def aHS(c:cJ)(a:List G.E->Int->G.Y->G.M->Rt)(b:List G.E)(d:G.Y):Rt:=
 a b 0 d (G.M.mk Gx ([]:List G.Y) false GB)
def aHR(c:cJ)(f:Bool->Int->List G.E->G.Y->G.M->Rt)(a:List G.E)(b:Int)(d:G.Y)(g:G.M):Rt:=
 cH (decide (b<(List.length a:Int))) (ob (eK a b) λh=>
 cH (decide (h.kind=2)) (ob (eK a b) λi=>
 f (decide (i.mac.name=d)) b a d g) (f false b a d g)) (some [yR 7 (G.M.mk Gx ([]:List G.Y) false GB),yB false])
def KQ(n:Nt):List G.E->Int->G.Y->G.M->Rt:=λx0 x1 x2 x3=>n [yS 15 x0,yI x1,yR 1 x2,yR 7 x3]
def aGC:=KQ (xE Ab e (pw 5 5) xR (Px c e))
def aHQ(c:cJ)(d:List G.E->Int->G.Y->G.M->Rt)(f:Bool)(a:Int)(b:List G.E)(g:G.Y)(h:G.M):Rt:=
 cH f (ob (eK b a) λi=>
 some [yR 7 i.mac,yB true]) (d b (IntKind.i64.wrap (a+1)) g h)
def aG2(n:Nt):Bool->Int->List G.E->G.Y->G.M->Rt:=λx0 x1 x2 x3 x4=>n [yB x0,yI x1,yS 15 x2,yR 1 x3,yR 7 x4]
def XS(n1:Nt):=aG2 (xD Ab e (pw 10 293) LW (aFC c e n1))
def aQu:Et (xF Ab c e)=aHS c (aGC c e):=by kernel_rfl
def aQt(n1:Nt):KQ (xA Ab c e (pw 5 5) xR (gP U0 xR n1 (Px c e)))=aHR c (XS c e n1):=by kernel_rfl
def aQs(n1:Nt):aG2 (xA Ab c e (pw 10 293) LW (aFC c e n1))=aHQ c (KQ n1):=by kernel_rfl
def aHA(L:Nat)(n1:List G.E->Int->G.Y->G.M->Rt):Bool->Int->List G.E->G.Y->G.M->Rt:=aHQ c n1
def aTT(n1:Nt):XS c (cu c L) n1=aHA c L (KQ n1):=by rw[XS,dG,aQs];rfl
def QM(c:cJ)(L:Nat):Nat->List G.E->Int->G.Y->G.M->Rt
 |0=>λ_ _ _ _=>none
 |n+1=>aHR c (aHA c L (QM c L n))
def aPK(n:Nat):KQ (xL Ab c L (pw 5 5) xR (Px c (cu c L)) n)=QM c L n:=by
 induction n with
 |zero=>rfl
 |succ n ih=>rw[eV,aQt];simp only[aTT,ih];rfl
def aPa:aGC c (cu c L)=QM c L L:=aPK c L L
def a2S:List G.E->G.Y->Rt:=aHS c (QM c L L)
def e94:Et (xF Ab c (cu c L))=a2S c L:=by rw[aQu];simp only[aPa];rfl
def c94(a:List G.E)(b:G.Y)(L n:Nat):cG L (n+1) 94 [yS 15 a,yR 1 b]=a2S (cG L n) L a b:=by rw[<-e94];exact cz (x:=Ab) (by kernel_rfl) L n _
def aK0(c:cJ)(e:Cu):Kt:=xK pH
def aKZ:Kt:=xT pH c e [1,1] (aK0 c e)
def EV:Kt:=dK U0 0 (aKZ c e)
def aKY(n1:Nt):Kt:=gP U0 tG n1 (EV c e)
def aKX(n1:Nt):Kt:=xT pH c e (pw 7 101) (aKY c e n1)
def aKW(n1:Nt):Kt:=dK U0 1 (aKX c e n1)
def Lt(n1:Nt):Kt:=dK U0 2 (aKW c e n1)
def ON(c:cJ)(a:List G.E->Int->G.Y->Rt)(b:List G.E)(d:G.Y):Rt:=
 a b 0 d
def Gw(d:List G.F->Int->Int->List G.E->G.Y->Rt)(a:List G.E)(b:Int)(f:G.Y):Rt:=
 cH (decide (b<(List.length a:Int))) (ob (eK a b) λg=>
 fZ [zS 5] (c 104 [yR 15 g]) λ(h:List G.F×Unit)=>
 d h.1 0 b a f) (some [yI 0,yI 0,yB false])
def yL(n:Nt):List G.E->Int->G.Y->Rt:=λx0 x1 x2=>n [yS 15 x0,yI x1,yR 1 x2]
def YU:=yL (xE pH e (pw 5 5) tG (EV c e))
def Gv(c:cJ)(h:List G.F->Int->Int->List G.E->G.Y->Rt)(i:List G.E->Int->G.Y->Rt)(b:List G.F)(a:Int)(d:Int)(g:List G.E)(f:G.Y):Rt:=
 cH (decide (a<(List.length b:Int))) (ob (eK b a) λj=>
 cH (decide (j.name=f)) (some [yI d,yI a,yB true]) (h b (IntKind.i64.wrap (a+1)) d g f)) (i g (IntKind.i64.wrap (d+1)) f)
def Gr(n:Nt):List G.F->Int->Int->List G.E->G.Y->Rt:=λx0 x1 x2 x3 x4=>n [yS 5 x0,yI x1,yI x2,yS 15 x3,yR 1 x4]
def YT(n1:Nt):=Gr (xE pH e (pw 12 805) wF (Lt c e n1))
def aKr:Et (xF pH c e)=ON c (YU c e):=by kernel_rfl
def aKq(n1:Nt):yL (xA pH c e (pw 5 5) tG (gP U0 tG n1 (EV c e)))=Gw c (YT c e n1):=by kernel_rfl
def aKp(n2:Nt)(n1:Nt):Gr (xA pH c e (pw 12 805) wF (gP U0 wF n2 (Lt c e n1)))=Gv c (Gr n2) (yL n1):=by kernel_rfl
def uW(c:cJ)(L:Nat)(n1:List G.E->Int->G.Y->Rt):Nat->List G.F->Int->Int->List G.E->G.Y->Rt
 |0=>λ_ _ _ _ _=>none
 |n+1=>Gv c (uW c L n1 n) n1
def aJD(n1:Nt)(n:Nat):Gr (xL pH c L (pw 12 805) wF (Lt c (cu c L) n1) n)=uW c L (yL n1) n:=by
 induction n with
 |zero=>rfl
 |succ n ih=>rw[eV,aKp];simp only[ih];rfl
def aJp(n1:Nt):YT c (cu c L) n1=uW c L (yL n1) L:=aJD c L n1 L
def uX(c:cJ)(L:Nat):Nat->List G.E->Int->G.Y->Rt
 |0=>λ_ _ _=>none
 |n+1=>Gw c (uW c L (uX c L n) L)
def aJE(n:Nat):yL (xL pH c L (pw 5 5) tG (EV c (cu c L)) n)=uX c L n:=by
 induction n with
 |zero=>rfl
 |succ n ih=>rw[eV,aKq];simp only[aJp,ih];rfl
def aJq:YU c (cu c L)=uX c L L:=aJE c L L
def aE2:List G.E->G.Y->Rt:=ON c (uX c L L)
def a2x:Et (xF pH c (cu c L))=aE2 c L:=by rw[aKr];simp only[aJq];rfl
def aWt(a:List G.E)(b:G.Y)(L n:Nat):cG L (n+1) 103 [yS 15 a,yR 1 b]=aE2 (cG L n) L a b:=by rw[<-a2x];exact cz (x:=pH) (by kernel_rfl) L n _
def aKV(c:cJ)(e:Cu):Kt:=xK zD
def aKU:Kt:=xT zD c e [1,1] (aKV c e)
def U9:Kt:=dK U0 0 (aKU c e)
def OM(c:cJ)(b:Bool->G.E->Rt)(a:G.E):Rt:=
 cH (decide (a.kind=3)) (b (decide (a.kind=3)) a) (cH (decide (a.kind=5)) (b (decide (a.kind=5)) a) (cH (decide (a.kind=6)) (b (decide (a.kind=6)) a) (b (decide (a.kind=7)) a)))
def ZE(n:Nt):G.E->Rt:=λx0=>n [yR 15 x0]
def OL(c:cJ)(a:Bool)(b:G.E):Rt:=
 cH a (some [yS 5 b.functions]) (some [yS 5 ([]:List G.F)])
def ZD(n:Nt):Bool->G.E->Rt:=λx0 x1=>n [yB x0,yR 15 x1]
def M8:=ZD (xD zD e (pw 6 21) FV (U9 c e))
def aKo:ZE (xF zD c e)=OM c (M8 c e):=by kernel_rfl
def aKn:ZD (xA zD c e (pw 6 21) FV (U9 c e))=OL c:=by kernel_rfl
def NW(L:Nat):Bool->G.E->Rt:=OL c
def aMc:M8 c (cu c L)=NW c L:=by rw[M8,dG,aKn];rfl
def aE1:G.E->Rt:=OM c (NW c L)
def a2w:ZE (xF zD c (cu c L))=aE1 c L:=by rw[aKo];simp only[aMc];rfl
def aWs(a:G.E)(L n:Nat):cG L (n+1) 104 [yR 15 a]=aE1 (cG L n) L a:=by rw[<-a2w];exact cz (x:=zD) (by kernel_rfl) L n _
def aAW(a:List G.Y)(b:G.Y):Rt:=
 C3 (c 131 [yS 1 a,yR 1 b]) λd=>
 some [yB (decide ((0:Int)<=d.1))]
def aOj(L:Nat):List G.Y->G.Y->Rt:=aAW c
def a2v:CG (xF V8 c (cu c L))=aOj c L:=by kernel_rfl
def a2I(a:List G.Y)(b:G.Y)(L n:Nat):cG L (n+1) 105 [yS 1 a,yR 1 b]=aOj (cG L n) L a b:=by rw[<-a2v];exact cz (x:=V8) (by kernel_rfl) L n _
def U8(c:cJ)(e:Cu):Kt:=xK BA
def OJ(c:cJ)(a:Bool->Rt)(b:Int):Rt:=
 cH (decide (b=32)) (a true) (cH (decide (b=9)) (a true) (cH (decide (b=10)) (a true) (a (decide (b=13)))))
def OI(c:cJ)(a:Bool):Rt:=
 some [yB a]
def M7:=sN (xD BA e [1,1,0] FU (U8 c e))
def aKm:Gq (xF BA c e)=OJ c (M7 c e):=by kernel_rfl
def aKl:sN (xA BA c e [1,1,0] FU (U8 c e))=OI c:=by kernel_rfl
def NV(L:Nat):Bool->Rt:=OI c
def aMb:M7 c (cu c L)=NV c L:=by rw[M7,dG,aKl];rfl
def aOi:Int->Rt:=OJ c (NV c L)
def a2u:Gq (xF BA c (cu c L))=aOi c L:=by rw[aKm];simp only[aMb];rfl
def a2H(a:Int)(L n:Nat):cG L (n+1) 106 [⟨(.int .u8),a⟩]=aOi (cG L n) L a:=by rw[<-a2u];exact cz (x:=BA) (by kernel_rfl) L n _
def U7(c:cJ)(e:Cu):Kt:=xK Bz
def OH(c:cJ)(a:Bool->Rt)(d:List UInt8)(b:Int)(f:Int)(g:Int):Rt:=
 cH (decide ((0:Int)<=b)) (cH (decide ((IntKind.i64.wrap (b+1))<(List.length d:Int))) (ob (eK d b) λh=>
 cH (decide ((h.toNat:Int)=f)) (ob (eK d (IntKind.i64.wrap (b+1))) λi=>
 a (decide ((i.toNat:Int)=g))) (a false)) (a false)) (a false)
def ZC(n:Nt):List UInt8->Int->Int->Int->Rt:=λx0 x1 x2 x3=>n [yT x0,yI x1,⟨(.int .u8),x2⟩,⟨(.int .u8),x3⟩]
def OG(c:cJ)(a:Bool):Rt:=
 some [yB a]
def M6:=sN (xD Bz e [1,1,0] FT (U7 c e))
def aKk:ZC (xF Bz c e)=OH c (M6 c e):=by kernel_rfl
def aKj:sN (xA Bz c e [1,1,0] FT (U7 c e))=OG c:=by kernel_rfl
def NU(L:Nat):Bool->Rt:=OG c
def aMa:M6 c (cu c L)=NU c L:=by rw[M6,dG,aKj];rfl
def aOh:List UInt8->Int->Int->Int->Rt:=OH c (NU c L)
def a2t:ZC (xF Bz c (cu c L))=aOh c L:=by rw[aKk];simp only[aMa];rfl
def a2G(a:List UInt8)(b:Int)(d:Int)(f:Int)(L n:Nat):cG L (n+1) 107 [yT a,yI b,⟨(.int .u8),d⟩,⟨(.int .u8),f⟩]=aOh (cG L n) L a b d f:=by rw[<-a2t];exact cz (x:=Bz) (by kernel_rfl) L n _
def aKT(c:cJ)(e:Cu):Kt:=xK zC
def aKS:Kt:=xT zC c e [1,1] (aKT c e)
def U6:Kt:=dK U0 0 (aKS c e)
def OF(b:Bool->G.K->G.X->Rt)(a:G.K)(d:Bool):Rt:=
 cH (decide ((40:Int)<(List.length a.text:Int))) (qC (c 65 [yI 2,yI a.pos]) λf=>
 some [yR 18 f.1]) (cH d (cH (decide (a.text=[])) (b true a (G.X.mk 0 0)) (cH (!decide (a.package=[])) (mZ (c 132 [yT a.package]) λg=>
 b (!g.1) a (G.X.mk 0 0)) (b false a (G.X.mk 0 0)))) (cH (!decide (a.package=[])) (mZ (c 132 [yT a.package]) λh=>
 b (!h.1) a (G.X.mk 0 0)) (b false a (G.X.mk 0 0))))
def ZB(n:Nt):G.K->Bool->Rt:=λx0 x1=>n [yR 19 x0,yB x1]
def aAV(a:Bool)(b:G.K)(f:G.X):Rt:=
 cH a (qC (c 65 [yI 3,yI b.pos]) λd=>
 some [yR 18 d.1]) (some [yR 18 (G.X.mk 0 0)])
def ZA(n:Nt):Bool->G.K->G.X->Rt:=λx0 x1 x2=>n [yB x0,yR 19 x1,yR 18 x2]
def M5:=ZA (xD zC e (pw 7 57) FQ (U6 c e))
def aKi:ZB (xF zC c e)=OF c (M5 c e):=by kernel_rfl
def aKh:ZA (xA zC c e (pw 7 57) FQ (U6 c e))=aAV c:=by kernel_rfl
def aAd(L:Nat):Bool->G.K->G.X->Rt:=aAV c
def aL9:M5 c (cu c L)=aAd c L:=by rw[M5,dG,aKh];rfl
def aE0:G.K->Bool->Rt:=OF c (aAd c L)
def a2s:ZB (xF zC c (cu c L))=aE0 c L:=by rw[aKi];simp only[aL9];rfl
def aWr(a:G.K)(b:Bool)(L n:Nat):cG L (n+1) 109 [yR 19 a,yB b]=aE0 (cG L n) L a b:=by rw[<-a2s];exact cz (x:=zC) (by kernel_rfl) L n _
def U5(c:cJ)(e:Cu):Kt:=xK By
def OE(c:cJ)(a:Bool->Rt)(b:Int):Rt:=
 cH (decide ((33:Int)<=b)) (cH (decide (b<=126)) (cH (!decide (b=40)) (cH (!decide (b=41)) (cH (!decide (b=39)) (cH (!decide (b=34)) (cH (!decide (b=59)) (cH (!decide (b=124)) (a (!decide (b=58))) (a false)) (a false)) (a false)) (a false)) (a false)) (a false)) (a false)) (a false)
def OD(c:cJ)(a:Bool):Rt:=
 some [yB a]
def M4:=sN (xD By e [1,1,0] FP (U5 c e))
def aKg:Gq (xF By c e)=OE c (M4 c e):=by kernel_rfl
def aKf:sN (xA By c e [1,1,0] FP (U5 c e))=OD c:=by kernel_rfl
def NT(L:Nat):Bool->Rt:=OD c
def aL8:M4 c (cu c L)=NT c L:=by rw[M4,dG,aKf];rfl
def aOg:Int->Rt:=OE c (NT c L)
def a2r:Gq (xF By c (cu c L))=aOg c L:=by rw[aKg];simp only[aL8];rfl
def a2F(a:Int)(L n:Nat):cG L (n+1) 110 [⟨(.int .u8),a⟩]=aOg (cG L n) L a:=by rw[<-a2r];exact cz (x:=By) (by kernel_rfl) L n _
def aKR(c:cJ)(e:Cu):Kt:=xK qV
def aKQ:Kt:=xT qV c e [1,1] (aKR c e)
def EU:Kt:=dK U0 0 (aKQ c e)
def aKP(n1:Nt):Kt:=gP U0 tF n1 (EU c e)
def U4(n1:Nt):Kt:=xT qV c e (pw 5 17) (aKP c e n1)
def OC(c:cJ)(a:List UInt8->Int->Rt)(b:List UInt8)(d:Int):Rt:=
 a b d
def Gu(d:Bool->List UInt8->Int->Rt)(a:List UInt8)(b:Int):Rt:=
 cH (decide (b<(List.length a:Int))) (ob (eK a b) λf=>
 mZ (c 110 [⟨(.int .u8),(f.toNat:Int)⟩]) λg=>
 d g.1 a b) (d false a b)
def YS:=fN (xE qV e (pw 4 1) tF (EU c e))
def CP(c:cJ)(b:List UInt8->Int->Rt)(d:Bool)(f:List UInt8)(a:Int):Rt:=
 cH d (b f (IntKind.i64.wrap (a+1))) (some [yI a])
def MZ(n1:Nt):=Er (xD qV e (pw 7 33) FO (U4 c e n1))
def aKe:fN (xF qV c e)=OC c (YS c e):=by kernel_rfl
def aKd(n1:Nt):fN (xA qV c e (pw 4 1) tF (gP U0 tF n1 (EU c e)))=Gu c (MZ c e n1):=by kernel_rfl
def aKc(n1:Nt):Er (xA qV c e (pw 7 33) FO (U4 c e n1))=CP c (fN n1):=by kernel_rfl
def CL(L:Nat)(n1:List UInt8->Int->Rt):Bool->List UInt8->Int->Rt:=CP c n1
def aL7(n1:Nt):MZ c (cu c L) n1=CL c L (fN n1):=by rw[MZ,dG,aKc];rfl
def uV(c:cJ)(L:Nat):Nat->List UInt8->Int->Rt
 |0=>λ_ _=>none
 |n+1=>Gu c (CL c L (uV c L n))
def aJC(n:Nat):fN (xL qV c L (pw 4 1) tF (EU c (cu c L)) n)=uV c L n:=by
 induction n with
 |zero=>rfl
 |succ n ih=>rw[eV,aKd];simp only[aL7,ih];rfl
def aJo:YS c (cu c L)=uV c L L:=aJC c L L
def aOf:List UInt8->Int->Rt:=OC c (uV c L L)
def a2q:fN (xF qV c (cu c L))=aOf c L:=by rw[aKe];simp only[aJo];rfl
def a2E(a:List UInt8)(b:Int)(L n:Nat):cG L (n+1) 111 [yT a,yI b]=aOf (cG L n) L a b:=by rw[<-a2q];exact cz (x:=qV) (by kernel_rfl) L n _
def wP(c:cJ)(e:Cu):Kt:=xK gL
def U3:Kt:=xT gL c e [1,1,1] (wP c e)
def aKO:Kt:=xT gL c e (pw 6 55) (wP c e)
def ET:Kt:=dK U0 0 (aKO c e)
def aKN(n3:Nt):Kt:=gP U0 tE n3 (ET c e)
def U2(n3:Nt):Kt:=xT gL c e (pw 9 279) (aKN c e n3)
def U1:Kt:=xT gL c e (pw 9 503) (wP c e)
def aKM:Kt:=xT gL c e (pw 10 1015) (wP c e)
def ER:Kt:=dK U0 2 (aKM c e)
def aKL(n6:Nt):Kt:=gP U0 tD n6 (ER c e)
def aB0(n6:Nt):Kt:=xT gL c e (pw 15 26103) (aKL c e n6)
def PQ(n6:Nt):Kt:=dK U0 3 (aB0 c e n6)
def OB(c:cJ)(b:Bool->Int->List UInt8->Rt)(a:List UInt8):Rt:=
 cH (decide ((0:Int)<(List.length a:Int))) (ob (eK a 0) λd=>
 b (decide ((d.toNat:Int)=45)) 0 a) (b false 0 a)
def OA(c:cJ)(a:Int->List UInt8->Rt)(d:Bool)(f:Int)(b:List UInt8):Rt:=
 cH d (a 1 b) (a f b)
def MY:=Gp (xD gL e (pw 5 11) FN (U3 c e))
def NZ(c:cJ)(b:Int->List UInt8->Int->Rt)(a:Int)(d:List UInt8):Rt:=
 b a d a
def YZ(n:Nt):Int->List UInt8->Rt:=λx0 x1=>n [yI x0,yT x1]
def MX:=YZ (xD gL e (pw 4 7) FM (wP c e))
def NY(c:cJ)(d:Bool->Int->List UInt8->Int->Rt)(f:Int)(a:List UInt8)(b:Int):Rt:=
 cH (decide (b<(List.length a:Int))) (ob (eK a b) λg=>
 cH (decide ((48:Int)<=(g.toNat:Int))) (ob (eK a b) λh=>
 d (decide ((h.toNat:Int)<=57)) f a b) (d false f a b)) (d false f a b)
def YR:=nZ (xE gL e (pw 8 23) tE (ET c e))
def aAU(c:cJ)(g:Int->List UInt8->Int->Rt)(d:Bool->List UInt8->Int->Rt)(h:Bool)(f:Int)(a:List UInt8)(b:Int):Rt:=
 cH h (g f a (IntKind.i64.wrap (b+1))) (cH (decide (b=f)) (some [yT [],yT [],yB false]) (cH (decide (b=(List.length a:Int))) (some [yT a,yT [49],yB true]) (ob (eK a b) λi=>
 cH (!decide ((i.toNat:Int)=47)) (d true a b) (d (decide ((IntKind.i64.wrap (b+1))=(List.length a:Int))) a b))))
def MW(n3:Nt):=Gn (xD gL e (pw 11 535) FL (U2 c e n3))
def aAT(c:cJ)(b:Int->List UInt8->Int->Rt)(d:Bool)(f:List UInt8)(a:Int):Rt:=
 cH d (some [yT [],yT [],yB false]) (b (IntKind.i64.wrap (a+1)) f a)
def MV:=Er (xD gL e (pw 11 759) FK (U1 c e))
def aAS(c:cJ)(f:Bool->Int->List UInt8->Int->Rt)(b:Int)(a:List UInt8)(d:Int):Rt:=
 cH (decide (b<(List.length a:Int))) (ob (eK a b) λg=>
 cH (decide ((g.toNat:Int)<48)) (f true b a d) (ob (eK a b) λh=>
 f (decide ((57:Int)<(h.toNat:Int))) b a d)) (ob (slc a 0 d) λi=>
 ob (slc a (IntKind.i64.wrap (d+1)) (List.length a:Int)) λj=>
 some [yT i,yT j,yB true])
def YQ:=nZ (xE gL e (pw 13 1527) tD (ER c e))
def aAR(c:cJ)(a:Int->List UInt8->Int->Rt)(b:Bool)(d:Int)(f:List UInt8)(g:Int):Rt:=
 cH b (some [yT [],yT [],yB false]) (a (IntKind.i64.wrap (d+1)) f g)
def MU(n6:Nt):=Gn (xD gL e (pw 18 75255) FJ (PQ c e n6))
def aKb:yK (xF gL c e)=OB c (MY c e):=by kernel_rfl
def aKa:Gp (xA gL c e (pw 5 11) FN (U3 c e))=OA c (MX c e):=by kernel_rfl
def aJ9:YZ (xA gL c e (pw 4 7) FM (wP c e))=NZ c (YR c e):=by kernel_rfl
def aJ8(n3:Nt):nZ (xA gL c e (pw 8 23) tE (gP U0 tE n3 (ET c e)))=NY c (MW c e n3):=by kernel_rfl
def aJ7(n3:Nt):Gn (xA gL c e (pw 11 535) FL (U2 c e n3))=aAU c (nZ n3) (MV c e):=by kernel_rfl
def aJ6:Er (xA gL c e (pw 11 759) FK (U1 c e))=aAT c (YQ c e):=by kernel_rfl
def aJ5(n6:Nt):nZ (xA gL c e (pw 13 1527) tD (gP U0 tD n6 (ER c e)))=aAS c (MU c e n6):=by kernel_rfl
def aJ4(n6:Nt):Gn (xA gL c e (pw 18 75255) FJ (PQ c e n6))=aAR c (nZ n6):=by kernel_rfl
def aAb(L:Nat)(n6:Int->List UInt8->Int->Rt):Bool->Int->List UInt8->Int->Rt:=aAR c n6
def aL2(n6:Nt):MU c (cu c L) n6=aAb c L (nZ n6):=by rw[MU,dG,aJ4];rfl
def Gk(c:cJ)(L:Nat):Nat->Int->List UInt8->Int->Rt
 |0=>λ_ _ _=>none
 |n+1=>aAS c (aAb c L (Gk c L n))
def aJA(n:Nat):nZ (xL gL c L (pw 13 1527) tD (ER c (cu c L)) n)=Gk c L n:=by
 induction n with
 |zero=>rfl
 |succ n ih=>rw[eV,aJ5];simp only[aL2,ih];rfl
def aJm:YQ c (cu c L)=Gk c L L:=aJA c L L
def aAc:Bool->List UInt8->Int->Rt:=aAT c (Gk c L L)
def aL3:MV c (cu c L)=aAc c L:=by rw[MV,dG,aJ6];simp only[aJm];rfl
def NQ(n3:Int->List UInt8->Int->Rt):Bool->Int->List UInt8->Int->Rt:=aAU c n3 (aAc c L)
def aL4(n3:Nt):MW c (cu c L) n3=NQ c L (nZ n3):=by rw[MW,dG,aJ7];simp only[aL3];rfl
def yJ(c:cJ)(L:Nat):Nat->Int->List UInt8->Int->Rt
 |0=>λ_ _ _=>none
 |n+1=>NY c (NQ c L (yJ c L n))
def aJB(n:Nat):nZ (xL gL c L (pw 8 23) tE (ET c (cu c L)) n)=yJ c L n:=by
 induction n with
 |zero=>rfl
 |succ n ih=>rw[eV,aJ8];simp only[aL4,ih];rfl
def aJn:YR c (cu c L)=yJ c L L:=aJB c L L
def NR:Int->List UInt8->Rt:=NZ c (yJ c L L)
def aL5:MX c (cu c L)=NR c L:=by rw[MX,dG,aJ9];simp only[aJn];rfl
def NS:Bool->Int->List UInt8->Rt:=OA c (NR c L)
def aL6:MY c (cu c L)=NS c L:=by rw[MY,dG,aKa];simp only[aL5];rfl
def aEZ:List UInt8->Rt:=OB c (NS c L)
def a2p:yK (xF gL c (cu c L))=aEZ c L:=by rw[aKb];simp only[aL6];rfl
def aWq(a:List UInt8)(L n:Nat):cG L (n+1) 113 [yT a]=aEZ (cG L n) L a:=by rw[<-a2p];exact cz (x:=gL) (by kernel_rfl) L n _
def aKK(c:cJ)(e:Cu):Kt:=xK vU
def aKJ:Kt:=xT vU c e [1,1] (aKK c e)
def Ls:Kt:=dK U0 0 (aKJ c e)
def aAQ(c:cJ)(a:List UInt8->List G.A->Int->G.A->Rt)(b:List G.A)(d:List UInt8):Rt:=
 a d b 0 (G.A.mk [] ([]:List G.Y))
def YY(n:Nt):List G.A->List UInt8->Rt:=λx0 x1=>n [yS 6 x0,yT x1]
def aAP(c:cJ)(f:List UInt8->List G.A->Int->G.A->Rt)(d:List UInt8)(a:List G.A)(b:Int)(g:G.A):Rt:=
 cH (decide (b<(List.length a:Int))) (ob (eK a b) λh=>
 cH (decide (h.name=d)) (ob (eK a b) λi=>
 some [yR 6 i,yB true]) (f d a (IntKind.i64.wrap (b+1)) g)) (some [yR 6 (G.A.mk [] ([]:List G.Y)),yB false])
def Gm(n:Nt):List UInt8->List G.A->Int->G.A->Rt:=λx0 x1 x2 x3=>n [yT x0,yS 6 x1,yI x2,yR 6 x3]
def YP:=Gm (xE vU e (pw 5 5) wE (Ls c e))
def aJ3:YY (xF vU c e)=aAQ c (YP c e):=by kernel_rfl
def aJ2(n1:Nt):Gm (xA vU c e (pw 5 5) wE (gP U0 wE n1 (Ls c e)))=aAP c (Gm n1):=by kernel_rfl
def Gj(c:cJ)(L:Nat):Nat->List UInt8->List G.A->Int->G.A->Rt
 |0=>λ_ _ _ _=>none
 |n+1=>aAP c (Gj c L n)
def aJz(n:Nat):Gm (xL vU c L (pw 5 5) wE (Ls c (cu c L)) n)=Gj c L n:=by
 induction n with
 |zero=>rfl
 |succ n ih=>rw[eV,aJ2];simp only[ih];rfl
def aJl:YP c (cu c L)=Gj c L L:=aJz c L L
def aOe:List G.A->List UInt8->Rt:=aAQ c (Gj c L L)
def a2o:YY (xF vU c (cu c L))=aOe c L:=by rw[aJ3];simp only[aJl];rfl
def a2D(a:List G.A)(b:List UInt8)(L n:Nat):cG L (n+1) 116 [yS 6 a,yT b]=aOe (cG L n) L a b:=by rw[<-a2o];exact cz (x:=vU) (by kernel_rfl) L n _
def aKI(c:cJ)(e:Cu):Kt:=xK vT
def aKH:Kt:=xT vT c e [1,1] (aKI c e)
def Lr:Kt:=dK U0 0 (aKH c e)
def aAM(c:cJ)(b:Int->List G.Y->Int->G.Y->Rt)(a:List G.Y)(d:G.Y):Rt:=
 b (List.length a:Int) a 0 d
def Gt(c:cJ)(g:Int->List G.Y->Int->G.Y->Rt)(b:Int)(d:List G.Y)(a:Int)(f:G.Y):Rt:=
 cH (decide (a<b)) (ob (eK d a) λh=>
 cH (decide (f=h)) (some [yI a]) (g b d (IntKind.i64.wrap (a+1)) f)) (some [yI (-1)])
def Gl(n:Nt):Int->List G.Y->Int->G.Y->Rt:=λx0 x1 x2 x3=>n [yI x0,yS 1 x1,yI x2,yR 1 x3]
def YN:=Gl (xE vT e (pw 5 5) wD (Lr c e))
def aJ1:CG (xF vT c e)=aAM c (YN c e):=by kernel_rfl
def aJ0(n1:Nt):Gl (xA vT c e (pw 5 5) wD (gP U0 wD n1 (Lr c e)))=Gt c (Gl n1):=by kernel_rfl
def uU(c:cJ)(L:Nat):Nat->Int->List G.Y->Int->G.Y->Rt
 |0=>λ_ _ _ _=>none
 |n+1=>Gt c (uU c L n)
def aJy(n:Nat):Gl (xL vT c L (pw 5 5) wD (Lr c (cu c L)) n)=uU c L n:=by
 induction n with
 |zero=>rfl
 |succ n ih=>rw[eV,aJ0];simp only[ih];rfl
def aJk:YN c (cu c L)=uU c L L:=aJy c L L
def aXk:List G.Y->G.Y->Rt:=aAM c (uU c L L)
def a2n:CG (xF vT c (cu c L))=aXk c L:=by rw[aJ1];simp only[aJk];rfl
def a2C(a:List G.Y)(b:G.Y)(L n:Nat):cG L (n+1) 131 [yS 1 a,yR 1 b]=aXk (cG L n) L a b:=by rw[<-a2n];exact cz (x:=vT) (by kernel_rfl) L n _
def UZ(c:cJ)(e:Cu):Kt:=xK mN
def UY:Kt:=xT mN c e [1,1] (UZ c e)
def aKG:Kt:=xT mN c e [1,1,1] (UZ c e)
def EQ:Kt:=dK U0 0 (aKG c e)
def aKF(n2:Nt):Kt:=gP U0 tB n2 (EQ c e)
def aKE(n2:Nt):Kt:=xT mN c e (pw 8 203) (aKF c e n2)
def UX(n2:Nt):Kt:=dK U0 1 (aKE c e n2)
def aAL(c:cJ)(b:Bool->List UInt8->Rt)(a:List UInt8):Rt:=
 cH (decide ((List.length a:Int)<1)) (b true a) (cH (decide ((40:Int)<(List.length a:Int))) (b true a) (ob (eK a 0) λd=>
 cH (decide ((d.toNat:Int)<97)) (b true a) (ob (eK a 0) λf=>
 b (decide ((122:Int)<(f.toNat:Int))) a)))
def aAK(c:cJ)(a:List UInt8->Int->Rt)(b:Bool)(d:List UInt8):Rt:=
 cH b (some [yB false]) (a d 0)
def YX(n:Nt):Bool->List UInt8->Rt:=λx0 x1=>n [yB x0,yT x1]
def MT:=YX (xD mN e (pw 4 5) FI (UY c e))
def aAJ(c:cJ)(f:Bool->Int->List UInt8->Rt)(b:List UInt8)(d:Int):Rt:=
 cH (decide (d<(List.length b:Int))) (ob (eK b d) λa=>
 cH (decide ((a.toNat:Int)<97)) (cH (decide ((a.toNat:Int)<48)) (f (!decide ((a.toNat:Int)=45)) d b) (cH (decide ((57:Int)<(a.toNat:Int))) (f (!decide ((a.toNat:Int)=45)) d b) (f false d b))) (cH (decide ((122:Int)<(a.toNat:Int))) (cH (decide ((a.toNat:Int)<48)) (f (!decide ((a.toNat:Int)=45)) d b) (cH (decide ((57:Int)<(a.toNat:Int))) (f (!decide ((a.toNat:Int)=45)) d b) (f false d b))) (f false d b))) (some [yB true])
def YM:=fN (xE mN e (pw 6 11) tB (EQ c e))
def aAI(c:cJ)(a:List UInt8->Int->Rt)(b:Bool)(d:Int)(f:List UInt8):Rt:=
 cH b (some [yB false]) (a f (IntKind.i64.wrap (d+1)))
def MS(n2:Nt):=Gp (xD mN e (pw 12 1611) FH (UX c e n2))
def aJZ:yK (xF mN c e)=aAL c (MT c e):=by kernel_rfl
def aJY:YX (xA mN c e (pw 4 5) FI (UY c e))=aAK c (YM c e):=by kernel_rfl
def aJX(n2:Nt):fN (xA mN c e (pw 6 11) tB (gP U0 tB n2 (EQ c e)))=aAJ c (MS c e n2):=by kernel_rfl
def aJW(n2:Nt):Gp (xA mN c e (pw 12 1611) FH (UX c e n2))=aAI c (fN n2):=by kernel_rfl
def ZY(L:Nat)(n2:List UInt8->Int->Rt):Bool->Int->List UInt8->Rt:=aAI c n2
def aL0(n2:Nt):MS c (cu c L) n2=ZY c L (fN n2):=by rw[MS,dG,aJW];rfl
def Gi(c:cJ)(L:Nat):Nat->List UInt8->Int->Rt
 |0=>λ_ _=>none
 |n+1=>aAJ c (ZY c L (Gi c L n))
def aJx(n:Nat):fN (xL mN c L (pw 6 11) tB (EQ c (cu c L)) n)=Gi c L n:=by
 induction n with
 |zero=>rfl
 |succ n ih=>rw[eV,aJX];simp only[aL0,ih];rfl
def aJj:YM c (cu c L)=Gi c L L:=aJx c L L
def ZZ:Bool->List UInt8->Rt:=aAK c (Gi c L L)
def aL1:MT c (cu c L)=ZZ c L:=by rw[MT,dG,aJY];simp only[aJj];rfl
def aOd:List UInt8->Rt:=aAL c (ZZ c L)
def a2m:yK (xF mN c (cu c L))=aOd c L:=by rw[aJZ];simp only[aL1];rfl
def a2B(a:List UInt8)(L n:Nat):cG L (n+1) 145 [yT a]=aOd (cG L n) L a:=by rw[<-a2m];exact cz (x:=mN) (by kernel_rfl) L n _
end
end Go.TV
namespace Go.TV
open Go.AI Go.PI Go.Proofs
def ME(x:Int):Bool:=decide (x=32)||decide (x=9)||decide (x=10)||decide (x=13)
def Ee(x:Int):Bool:=decide (33<=x)&&decide (x<=126)&& !decide (x=40)&& !decide (x=41)&& !decide (x=39)&& !decide (x=34)&& !decide (x=59)&& !decide (x=124)&& !decide (x=58)
def u8(x:UInt8):Int:=(x.toNat:Int)
def aXm(x:Int)(L n:Nat):cG L (n+1) 106 [⟨.int .u8,x⟩]=some [yB (ME x)]:=by
 rw[a2H];simp only[aOi,OJ,NV,OI,ME];generalize decide (x=32)=a,decide (x=9)=b,decide (x=10)=d,decide (x=13)=e;cases a<;>cases b<;>cases d<;>cases e<;>rfl
def aHP(x:Int)(L n:Nat):cG L (n+1) 110 [⟨.int .u8,x⟩]=some [yB (Ee x)]:=by
 rw[a2F];simp only[aOg,OE,NT,OD,Ee];generalize decide (33<=x)=a,decide (x<=126)=b,decide (x=40)=d,decide (x=41)=e,decide (x=39)=f,decide (x=34)=g,decide (x=59)=h,decide (x=124)=i,decide (x=58)=j;cases a
 .rfl
 cases b
 .rfl
 cases d
 case true=>rfl
 cases e
 case true=>rfl
 cases f
 case true=>rfl
 cases g
 case true=>rfl
 cases h
 case true=>rfl
 cases i
 case true=>rfl
 cases j<;>rfl
def V9{s:List UInt8}{k:Nat}{a b:Int}(hb:s.length<1000000000)(hk:k<=s.length)(h: ∀x,s[k]?=some x->u8 x≠a)(L n:Nat):cG L (n+1) 107 [yT s,yI (k:Int),⟨.int .u8,a⟩,⟨.int .u8,b⟩]=some [yB false]:=by
 rw[a2G];have e0:decide ((0:Int)<=(k:Int))=true:=by simp
 simp only[aOh,OH,NU,OG,e0,cC];cases h1:decide (IntKind.i64.wrap ((k:Int)+1)<(s.length:Int))with
 |false=>rfl
 |true=>
  rw[cC,bZ];cases h2:s[k]? with
  |none=>
   exfalso;have:=List.getElem?_eq_none_iff.1 h2;simp only[aD]at h1;rw[dU (by omega)]at h1
   omega
  |some x=>
   have:=h x h2;have e1:decide ((x.toNat:Int)=a)=false:=by simpa [u8]using this
   rw[cY,e1];rfl
def aEL{c:cJ}{L:Nat}{s r:List UInt8}(hc: ∀x,c 110 [⟨.int .u8,x⟩]=some [yB (Ee x)])(hb:s.length<1000000000)(hr: ∀y,r.head?=some y->Ee (u8 y)=false):
    ∀(w:List UInt8) (k m:Nat),s.drop k=w++r->w.length<m->(∀x∈w,Ee (u8 x)=true)->uV c L m s (k:Int)=some [yI ((k+w.length:Nat):Int)]:=by
 intro w;induction w with
 |nil=>
  intro k m h1 h2 _;obtain⟨m,rfl⟩:=sK m 1 (by simp at h2;omega)
  rw[uV,Gu];rw[aW]at h1;cases r with
  |nil=>
   have e1:=dJ h1;have e3:decide ((k:Int)<(s.length:Int))=false:=by simp;omega
   rw[e3,bU,CL,CP,bU];rfl
  |cons y r=>
   obtain⟨a1,a2,a3⟩:=dL h1;have e3:decide ((k:Int)<(s.length:Int))=true:=by simp;omega
   have e4:Ee (y.toNat:Int)=false:=hr y rfl;rw[e3,cC,bZ,a1,cY,hc,lZ,CL,CP,e4,bU];rfl
 |cons x w ih=>
  intro k m h1 h2 h3;obtain⟨m,rfl⟩:=sK m 1 (by simp at h2;omega)
  rw[uV,Gu];obtain⟨a1,a2,a3⟩:=dL h1;have e3:decide ((k:Int)<(s.length:Int))=true:=by simp;omega
  have e4:Ee (x.toNat:Int)=true:=h3 x (aH ..);rw[e3,cC,bZ,a1,cY,hc,lZ,CL,CP,e4,cC,dU (by omega)]
  rw[ih (k+1) m a3 (by simp at h2;omega) λz hz=>h3 z (aG _ hz)]
  simp only[aM];congr 4;omega
def aWU{s w r:List UInt8}{k L n:Nat}(hb:s.length<1000000000)(hL:s.length<L)(h:s.drop k=w++r)(hw: ∀x∈w,Ee (u8 x)=true)(hr: ∀y,r.head?=some y->Ee (u8 y)=false):
    cG L (n+2) 111 [yT s,yI (k:Int)]=some [yI ((k+w.length:Nat):Int)]:=by
 have:=congrArg List.length h;simp at this;show cG L (n+1+1) 111 _=_;rw[a2E,aOf,OC];exact aEL (λx=>aHP x L n) hb hr w k L h (by omega) hw
def aEU{c:cJ}{L:Nat}{s r:List UInt8}(hc: ∀x,c 106 [⟨.int .u8,x⟩]=some [yB (ME x)])
    (hh: ∀k:Nat,k<=s.length->(∀x,s[k]?=some x->u8 x≠35)->c 107 [yT s,yI (k:Int),⟨.int .u8,(35:Int)⟩,⟨.int .u8,(124:Int)⟩]=some [yB false])
    (hb:s.length<1000000000) (hr: ∀y,r.head?=some y->ME (u8 y)=false/\u8 y≠59/\u8 y≠35):
    ∀(w:List UInt8) (k m:Nat),s.drop k=w++r->w.length<m->(∀x∈w,ME (u8 x)=true)->wI c L m s (k:Int)=some [yI ((k+w.length:Nat):Int),yB true]:=by
 intro w;induction w with
 |nil=>
  intro k m h1 h2 _;obtain⟨m,rfl⟩:=sK m 1 (by simp at h2;omega)
  rw[wI,Rp];rw[aW]at h1;cases r with
  |nil=>
   have e1:=dJ h1;have e3:decide ((k:Int)<(s.length:Int))=false:=by simp;omega
   rw[e3,bU];rfl
  |cons y r=>
   obtain⟨a1,a2,a3⟩:=dL h1;have e3:decide ((k:Int)<(s.length:Int))=true:=by simp;omega
   obtain⟨e4,e5,e6⟩:=hr y rfl;have e4:ME (y.toNat:Int)=false:=e4;have e7:decide ((y.toNat:Int)=59)=false:=by simpa [u8]using e5
   have h8:=hh k (by omega) λx hx=>by rw[a1]at hx;cases hx;exact e6
   rw[e3,cC,bZ,a1,cY,hc,lZ,e4,bU,cY,e7,bU,h8,lZ,bU];rfl
 |cons x w ih=>
  intro k m h1 h2 h3;obtain⟨m,rfl⟩:=sK m 1 (by simp at h2;omega)
  rw[wI,Rp];obtain⟨a1,a2,a3⟩:=dL h1;have e3:decide ((k:Int)<(s.length:Int))=true:=by simp;omega
  have e4:ME (x.toNat:Int)=true:=h3 x (aH ..);rw[e3,cC,bZ,a1,cY,hc,lZ,e4,cC,dU (by omega)]
  rw[ih (k+1) m a3 (by simp at h2;omega) λz hz=>h3 z (aG _ hz)]
  simp only[aM];congr 4;omega
def aHx{s w r:List UInt8}{k L n:Nat}(hb:s.length<1000000000)(hL:s.length<L)(h:s.drop k=w++r)(hw: ∀x∈w,ME (u8 x)=true)(hr: ∀y,r.head?=some y->ME (u8 y)=false/\u8 y≠59/\u8 y≠35):
    cG L (n+2) 85 [yT s,yI (k:Int)]=some [yI ((k+w.length:Nat):Int),yB true]:=by
 have:=congrArg List.length h;simp at this;show cG L (n+1+1) 85 _=_;rw[c85,a2W,aAk];exact aEU (λx=>aXm x L n) (λk h6 hk=>V9 hb h6 hk L n) hb hr w k L h (by omega) hw
end Go.TV
