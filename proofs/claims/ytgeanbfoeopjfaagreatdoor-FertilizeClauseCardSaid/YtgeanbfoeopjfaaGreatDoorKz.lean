import Derived.Test.YtgeanbfoeopjfaaGreatDoorKo
import Derived.Test.YtgeanbfoeopjfaaGreatDoorKy
set_option linter.unusedVariables false
set_option linter.unusedSimpArgs false
set_option linter.constructorNameAsVariable false
namespace Go.TV
open Go.AI Go.PI Go.Proofs
set_option maxRecDepth 20000
noncomputable section
variable(c:TC0)(e:Cu)(L:Nat)
def q156x0(c:TC0)(e:Cu):Kt:=xK aAv
def aJi(c:TC0)(k1:Bool→Rt)(a0:Int):Rt:=
 cnd (decide ((33:Int)≤a0)) (cnd (decide (a0≤(126:Int))) (cnd (!decide (a0=(40:Int))) (cnd (!decide (a0=(41:Int))) (cnd (!decide (a0=(39:Int))) (cnd (!decide (a0=(34:Int))) (cnd (!decide (a0=(59:Int))) (cnd (!decide (a0=(124:Int))) (k1 (!decide (a0=(58:Int)))) (k1 false)) (k1 false)) (k1 false)) (k1 false)) (k1 false)) (k1 false)) (k1 false)) (k1 false)
def V156x0(n:Nt):Int→Rt:=fun x0=>n [⟨(.int .u8),x0⟩]
def aJh(c:TC0)(a2:Bool):Rt:=
 some [yB a2]
def V156x1(n:Nt):Bool→Rt:=fun x0=>n [yB x0]
def aIa:=V156x1 (xD aAv e [1,1,0] aAN (q156x0 c e))
theorem s156x0:V156x0 (xF aAv c e)=aJi c (aIa c e):=by kernel_rfl
theorem s156x1:V156x1 (xA aAv c e [1,1,0] aAN (q156x0 c e))=aJh c:=by kernel_rfl
def aIW(c:TC0)(L:Nat):Bool→Rt:=aJh c
theorem j156x1:aIa c (cu c L)=aIW c L:=by rw[aIa,aL,s156x1];rfl
def F156(c:TC0)(L:Nat):Int→Rt:=aJi c (aIW c L)
theorem e156:V156x0 (xF aAv c (cu c L))=F156 c L:=by rw[s156x0];simp only[j156x1];rfl
theorem c156(a0:Int)(L n:Nat):CTp L (n+1) 156 [⟨(.int .u8),a0⟩]=F156 (CTp L n) L a0:=by rw[←e156];exact cg (x:=aAv) (by kernel_rfl) (by kernel_rfl) L n _
def q157x0(c:TC0)(e:Cu):Kt:=xK oF
def q157x1(c:TC0)(e:Cu):Kt:=xT oF c e [1,1] (q157x0 c e)
def aB7(c:TC0)(e:Cu):Kt:=cH U0 0 (q157x1 c e)
def q157x3(c:TC0)(e:Cu)(n1:Nt):Kt:=lpK U0 nB n1 (aB7 c e)
def q157x4(c:TC0)(e:Cu)(n1:Nt):Kt:=xT oF c e [1,0,0,0,1] (q157x3 c e n1)
def aJg(c:TC0)(e1:List UInt8→Int→Rt)(a0:List UInt8)(a1:Int):Rt:=
 e1 a0 a1
def V157x0(n:Nt):List UInt8→Int→Rt:=fun x0 x1=>n [yT x0,yI x1]
def aDN(c:TC0)(k2:Bool→List UInt8→Int→Rt)(a0:List UInt8)(a1:Int):Rt:=
 cnd (decide (a1<(List.length a0:Int))) (ob (idx a0 a1) fun v0=>
 obL [.bool] (c 156 [⟨(.int .u8),(v0.toNat:Int)⟩]) fun(r1:Bool×Unit)=>
 k2 r1.1 a0 a1) (k2 false a0 a1)
def zA(n:Nt):List UInt8→Int→Rt:=fun x0 x1=>n [yT x0,yI x1]
def X157x1:=zA (xE oF e [1,0,0,0] nB (aB7 c e))
def zL(c:TC0)(n1:List UInt8→Int→Rt)(a14:Bool)(a0:List UInt8)(a1:Int):Rt:=
 cnd a14 (n1 a0 (IntKind.i64.wrap (a1+(1:Int)))) (some [yI a1])
def V157x2(n:Nt):Bool→List UInt8→Int→Rt:=fun x0 x1 x2=>n [yB x0,yT x1,yI x2]
def aH9(n1:Nt):=V157x2 (xD oF e [1,0,0,0,0,1,0] aAM (q157x4 c e n1))
theorem s157x0:V157x0 (xF oF c e)=aJg c (X157x1 c e):=by kernel_rfl
theorem s157x1(n1:Nt):zA (xA oF c e [1,0,0,0] nB (lpK U0 nB n1 (aB7 c e)))=aDN c (aH9 c e n1):=by kernel_rfl
theorem s157x2(n1:Nt):V157x2 (xA oF c e [1,0,0,0,0,1,0] aAM (q157x4 c e n1))=zL c (zA n1):=by kernel_rfl
def zH(c:TC0)(L:Nat)(n1:List UInt8→Int→Rt):Bool→List UInt8→Int→Rt:=zL c n1
theorem j157x2(n1:Nt):aH9 c (cu c L) n1=zH c L (zA n1):=by rw[aH9,aL,s157x2];rfl
def qL(c:TC0)(L:Nat):Nat→List UInt8→Int→Rt
 |0=>fun _ _=>none
 |n+1=>aDN c (zH c L (qL c L n))
theorem u157x1(n:Nat):zA (xL oF c L [1,0,0,0] nB (aB7 c (cu c L)) n)=qL c L n:=by
 induction n with
 |zero=>rfl
 |succ n ih=>rw[fA,s157x1];simp only[j157x2,ih];rfl
theorem w157x1:X157x1 c (cu c L)=qL c L L:=u157x1 c L L
def F157(c:TC0)(L:Nat):List UInt8→Int→Rt:=aJg c (qL c L L)
theorem e157:V157x0 (xF oF c (cu c L))=F157 c L:=by rw[s157x0];simp only[w157x1];rfl
theorem c157(a0:List UInt8)(a1:Int)(L n:Nat):CTp L (n+1) 157 [yT a0,yI a1]=F157 (CTp L n) L a0 a1:=by rw[←e157];exact cg (x:=oF) (by kernel_rfl) (by kernel_rfl) L n _
def rQ(c:TC0)(e:Cu):Kt:=xK eE
def q159x1(c:TC0)(e:Cu):Kt:=xT eE c e [1,1,1] (rQ c e)
def q159x2(c:TC0)(e:Cu):Kt:=xT eE c e [1,1,1,0,1,1] (rQ c e)
def aB6(c:TC0)(e:Cu):Kt:=cH U0 0 (q159x2 c e)
def q159x4(c:TC0)(e:Cu)(n3:Nt):Kt:=lpK U0 nA n3 (aB6 c e)
def q159x5(c:TC0)(e:Cu)(n3:Nt):Kt:=xT eE c e [1,1,1,0,1,0,0,0,1] (q159x4 c e n3)
def q159x6(c:TC0)(e:Cu):Kt:=xT eE c e [1,1,1,0,1,1,1,1,1] (rQ c e)
def q159x7(c:TC0)(e:Cu):Kt:=xT eE c e [1,1,1,0,1,1,1,1,1,1] (rQ c e)
def aB5(c:TC0)(e:Cu):Kt:=cH U0 2 (q159x7 c e)
def q159x9(c:TC0)(e:Cu)(n6:Nt):Kt:=lpK U0 mZ n6 (aB5 c e)
def q159x10(c:TC0)(e:Cu)(n6:Nt):Kt:=xT eE c e [1,1,1,0,1,1,1,1,1,0,1,0,0,1,1] (q159x9 c e n6)
def aFP(c:TC0)(e:Cu)(n6:Nt):Kt:=cH U0 3 (q159x10 c e n6)
def aJf(c:TC0)(k1:Bool→Int→List UInt8→Rt)(a0:List UInt8):Rt:=
 cnd (decide ((0:Int)<(List.length a0:Int))) (ob (idx a0 (0:Int)) fun v0=>
 k1 (decide ((v0.toNat:Int)=(45:Int))) (0:Int) a0) (k1 false (0:Int) a0)
def V159x0(n:Nt):List UInt8→Rt:=fun x0=>n [yT x0]
def aJe(c:TC0)(k2:Int→List UInt8→Rt)(a15:Bool)(a5:Int)(a0:List UInt8):Rt:=
 cnd a15 (k2 (1:Int) a0) (k2 a5 a0)
def V159x1(n:Nt):Bool→Int→List UInt8→Rt:=fun x0 x1 x2=>n [yB x0,yI x1,yT x2]
def aH8:=V159x1 (xD eE e [1,1,0,1,0] aAL (q159x1 c e))
def aJd(c:TC0)(e3:Int→List UInt8→Int→Rt)(a5:Int)(a0:List UInt8):Rt:=
 e3 a5 a0 a5
def V159x2(n:Nt):Int→List UInt8→Rt:=fun x0 x1=>n [yI x0,yT x1]
def aH7:=V159x2 (xD eE e [1,1,1,0] aAK (rQ c e))
def aJc(c:TC0)(k4:Bool→Int→List UInt8→Int→Rt)(a5:Int)(a0:List UInt8)(a6:Int):Rt:=
 cnd (decide (a6<(List.length a0:Int))) (ob (idx a0 a6) fun v0=>
 cnd (decide ((48:Int)≤(v0.toNat:Int))) (ob (idx a0 a6) fun v1=>
 k4 (decide ((v1.toNat:Int)≤(57:Int))) a5 a0 a6) (k4 false a5 a0 a6)) (k4 false a5 a0 a6)
def yZ(n:Nt):Int→List UInt8→Int→Rt:=fun x0 x1 x2=>n [yI x0,yT x1,yI x2]
def X159x3:=yZ (xE eE e [1,1,1,0,1,0,0,0] nA (aB6 c e))
def B159x4(c:TC0)(n3:Int→List UInt8→Int→Rt)(k5:Bool→List UInt8→Int→Rt)(a32:Bool)(a5:Int)(a0:List UInt8)(a6:Int):Rt:=
 cnd a32 (n3 a5 a0 (IntKind.i64.wrap (a6+(1:Int)))) (cnd (decide (a6=a5)) (some [yT ([]:List UInt8),yT ([]:List UInt8),yB false]) (cnd (decide (a6=(List.length a0:Int))) (some [yT a0,yT ([49]:List UInt8),yB true]) (ob (idx a0 a6) fun v0=>
 cnd (!decide ((v0.toNat:Int)=(47:Int))) (k5 true a0 a6) (k5 (decide ((IntKind.i64.wrap (a6+(1:Int)))=(List.length a0:Int))) a0 a6))))
def V159x4(n:Nt):Bool→Int→List UInt8→Int→Rt:=fun x0 x1 x2 x3=>n [yB x0,yI x1,yT x2,yI x3]
def aH6(n3:Nt):=V159x4 (xD eE e [1,1,1,0,1,0,0,0,0,1,0] aAJ (q159x5 c e n3))
def B159x5(c:TC0)(e6:Int→List UInt8→Int→Rt)(a53:Bool)(a0:List UInt8)(a6:Int):Rt:=
 cnd a53 (some [yT ([]:List UInt8),yT ([]:List UInt8),yB false]) (e6 (IntKind.i64.wrap (a6+(1:Int))) a0 a6)
def V159x5(n:Nt):Bool→List UInt8→Int→Rt:=fun x0 x1 x2=>n [yB x0,yT x1,yI x2]
def aH5:=V159x5 (xD eE e [1,1,1,0,1,1,1,1,0,1,0] aAI (q159x6 c e))
def B159x6(c:TC0)(k7:Bool→Int→List UInt8→Int→Rt)(a7:Int)(a0:List UInt8)(a6:Int):Rt:=
 cnd (decide (a7<(List.length a0:Int))) (ob (idx a0 a7) fun v0=>
 cnd (decide ((v0.toNat:Int)<(48:Int))) (k7 true a7 a0 a6) (ob (idx a0 a7) fun v1=>
 k7 (decide ((57:Int)<(v1.toNat:Int))) a7 a0 a6)) (ob (slc a0 (0:Int) a6) fun v2=>
 ob (slc a0 (IntKind.i64.wrap (a6+(1:Int))) (List.length a0:Int)) fun v3=>
 some [yT v2,yT v3,yB true])
def yY(n:Nt):Int→List UInt8→Int→Rt:=fun x0 x1 x2=>n [yI x0,yT x1,yI x2]
def X159x6:=yY (xE eE e [1,1,1,0,1,1,1,1,1,0,1,0,0] mZ (aB5 c e))
def B159x7(c:TC0)(n6:Int→List UInt8→Int→Rt)(a71:Bool)(a7:Int)(a0:List UInt8)(a6:Int):Rt:=
 cnd a71 (some [yT ([]:List UInt8),yT ([]:List UInt8),yB false]) (n6 (IntKind.i64.wrap (a7+(1:Int))) a0 a6)
def V159x7(n:Nt):Bool→Int→List UInt8→Int→Rt:=fun x0 x1 x2 x3=>n [yB x0,yI x1,yT x2,yI x3]
def aH4(n6:Nt):=V159x7 (xD eE e [1,1,1,0,1,1,1,1,1,0,1,0,0,1,0,0,1,0] aAH (aFP c e n6))
theorem s159x0:V159x0 (xF eE c e)=aJf c (aH8 c e):=by kernel_rfl
theorem s159x1:V159x1 (xA eE c e [1,1,0,1,0] aAL (q159x1 c e))=aJe c (aH7 c e):=by kernel_rfl
theorem s159x2:V159x2 (xA eE c e [1,1,1,0] aAK (rQ c e))=aJd c (X159x3 c e):=by kernel_rfl
theorem s159x3(n3:Nt):yZ (xA eE c e [1,1,1,0,1,0,0,0] nA (lpK U0 nA n3 (aB6 c e)))=aJc c (aH6 c e n3):=by kernel_rfl
theorem s159x4(n3:Nt):V159x4 (xA eE c e [1,1,1,0,1,0,0,0,0,1,0] aAJ (q159x5 c e n3))=B159x4 c (yZ n3) (aH5 c e):=by kernel_rfl
theorem s159x5:V159x5 (xA eE c e [1,1,1,0,1,1,1,1,0,1,0] aAI (q159x6 c e))=B159x5 c (X159x6 c e):=by kernel_rfl
theorem s159x6(n6:Nt):yY (xA eE c e [1,1,1,0,1,1,1,1,1,0,1,0,0] mZ (lpK U0 mZ n6 (aB5 c e)))=B159x6 c (aH4 c e n6):=by kernel_rfl
theorem s159x7(n6:Nt):V159x7 (xA eE c e [1,1,1,0,1,1,1,1,1,0,1,0,0,1,0,0,1,0] aAH (aFP c e n6))=B159x7 c (yY n6):=by kernel_rfl
def J159x7(c:TC0)(L:Nat)(n6:Int→List UInt8→Int→Rt):Bool→Int→List UInt8→Int→Rt:=B159x7 c n6
theorem j159x7(n6:Nt):aH4 c (cu c L) n6=J159x7 c L (yY n6):=by rw[aH4,aL,s159x7];rfl
def aDs(c:TC0)(L:Nat):Nat→Int→List UInt8→Int→Rt
 |0=>fun _ _ _=>none
 |n+1=>B159x6 c (J159x7 c L (aDs c L n))
theorem u159x6(n:Nat):yY (xL eE c L [1,1,1,0,1,1,1,1,1,0,1,0,0] mZ (aB5 c (cu c L)) n)=aDs c L n:=by
 induction n with
 |zero=>rfl
 |succ n ih=>rw[fA,s159x6];simp only[j159x7,ih];rfl
theorem w159x6:X159x6 c (cu c L)=aDs c L L:=u159x6 c L L
def J159x5(c:TC0)(L:Nat):Bool→List UInt8→Int→Rt:=B159x5 c (aDs c L L)
theorem j159x5:aH5 c (cu c L)=J159x5 c L:=by rw[aH5,aL,s159x5];simp only[w159x6];rfl
def aIT(c:TC0)(L:Nat)(n3:Int→List UInt8→Int→Rt):Bool→Int→List UInt8→Int→Rt:=B159x4 c n3 (J159x5 c L)
theorem j159x4(n3:Nt):aH6 c (cu c L) n3=aIT c L (yZ n3):=by rw[aH6,aL,s159x4];simp only[j159x5];rfl
def sO(c:TC0)(L:Nat):Nat→Int→List UInt8→Int→Rt
 |0=>fun _ _ _=>none
 |n+1=>aJc c (aIT c L (sO c L n))
theorem u159x3(n:Nat):yZ (xL eE c L [1,1,1,0,1,0,0,0] nA (aB6 c (cu c L)) n)=sO c L n:=by
 induction n with
 |zero=>rfl
 |succ n ih=>rw[fA,s159x3];simp only[j159x4,ih];rfl
theorem w159x3:X159x3 c (cu c L)=sO c L L:=u159x3 c L L
def aIU(c:TC0)(L:Nat):Int→List UInt8→Rt:=aJd c (sO c L L)
theorem j159x2:aH7 c (cu c L)=aIU c L:=by rw[aH7,aL,s159x2];simp only[w159x3];rfl
def aIV(c:TC0)(L:Nat):Bool→Int→List UInt8→Rt:=aJe c (aIU c L)
theorem j159x1:aH8 c (cu c L)=aIV c L:=by rw[aH8,aL,s159x1];simp only[j159x2];rfl
def F159(c:TC0)(L:Nat):List UInt8→Rt:=aJf c (aIV c L)
theorem e159:V159x0 (xF eE c (cu c L))=F159 c L:=by rw[s159x0];simp only[j159x1];rfl
theorem c159(a0:List UInt8)(L n:Nat):CTp L (n+1) 159 [yT a0]=F159 (CTp L n) L a0:=by rw[←e159];exact cg (x:=eE) (by kernel_rfl) (by kernel_rfl) L n _
def q161x0(c:TC0)(e:Cu):Kt:=xK uF
def q161x1(c:TC0)(e:Cu):Kt:=xT uF c e [1,1] (q161x0 c e)
def aFO(c:TC0)(e:Cu):Kt:=cH U0 0 (q161x1 c e)
def B161x0(c:TC0)(e1:List UInt8→List G.A→Int→G.A→Rt)(a0:List G.A)(a1:List UInt8):Rt:=
 e1 a1 a0 (0:Int) (G.A.mk ([]:List UInt8) ([]:List G.Y))
def V161x0(n:Nt):List G.A→List UInt8→Rt:=fun x0 x1=>n [yS 5 x0,yT x1]
def B161x1(c:TC0)(n1:List UInt8→List G.A→Int→G.A→Rt)(a1:List UInt8)(a0:List G.A)(a6:Int)(b104:G.A):Rt:=
 cnd (decide (a6<(List.length a0:Int))) (ob (idx a0 a6) fun v0=>
 cnd (decide (v0.name=a1)) (ob (idx a0 a6) fun v1=>
 some [yR 5 v1,yB true]) (n1 a1 a0 (IntKind.i64.wrap (a6+(1:Int))) b104)) (some [yR 5 (G.A.mk ([]:List UInt8) ([]:List G.Y)),yB false])
def aDB(n:Nt):List UInt8→List G.A→Int→G.A→Rt:=fun x0 x1 x2 x3=>n [yT x0,yS 5 x1,yI x2,yR 5 x3]
def X161x1:=aDB (xE uF e [1,0,1,0,0] pT (aFO c e))
theorem s161x0:V161x0 (xF uF c e)=B161x0 c (X161x1 c e):=by kernel_rfl
theorem s161x1(n1:Nt):aDB (xA uF c e [1,0,1,0,0] pT (lpK U0 pT n1 (aFO c e)))=B161x1 c (aDB n1):=by kernel_rfl
def aDr(c:TC0)(L:Nat):Nat→List UInt8→List G.A→Int→G.A→Rt
 |0=>fun _ _ _ _=>none
 |n+1=>B161x1 c (aDr c L n)
theorem u161x1(n:Nat):aDB (xL uF c L [1,0,1,0,0] pT (aFO c (cu c L)) n)=aDr c L n:=by
 induction n with
 |zero=>rfl
 |succ n ih=>rw[fA,s161x1];simp only[ih];rfl
theorem w161x1:X161x1 c (cu c L)=aDr c L L:=u161x1 c L L
def F161(c:TC0)(L:Nat):List G.A→List UInt8→Rt:=B161x0 c (aDr c L L)
theorem e161:V161x0 (xF uF c (cu c L))=F161 c L:=by rw[s161x0];simp only[w161x1];rfl
theorem c161(a0:List G.A)(a1:List UInt8)(L n:Nat):CTp L (n+1) 161 [yS 5 a0,yT a1]=F161 (CTp L n) L a0 a1:=by rw[←e161];exact cg (x:=uF) (by kernel_rfl) (by kernel_rfl) L n _
end
end Go.TV
namespace Go.TV
open Go.AI Go.PI Go.Proofs
def blI(x:Int):Bool:=decide (x=32)||decide (x=9)||decide (x=10)||decide (x=13)
def csI(x:Int):Bool:=decide (33≤x)&&decide (x≤126)&& !decide (x=40)&& !decide (x=41)&& !decide (x=39)&& !decide (x=34)&& !decide (x=59)&& !decide (x=124)&& !decide (x=58)
def u8(x:UInt8):Int:=(x.toNat:Int)
theorem Bl_ok(x:Int)(L n:Nat):CTp L (n+1) 152 [⟨.int .u8,x⟩]=some [yB (blI x)]:=by
 rw[c152];simp only[F152,aJn,aIY,aJm,blI];generalize decide (x=32)=a,decide (x=9)=b,decide (x=10)=d,decide (x=13)=e;cases a<;>cases b<;>cases d<;>cases e<;>rfl
theorem Cs_ok(x:Int)(L n:Nat):CTp L (n+1) 156 [⟨.int .u8,x⟩]=some [yB (csI x)]:=by
 rw[c156];simp only[F156,aJi,aIW,aJh,csI];generalize decide (33≤x)=a,decide (x≤126)=b,decide (x=40)=d,decide (x=41)=e,decide (x=39)=f,decide (x=34)=g,decide (x=59)=h,decide (x=124)=i,decide (x=58)=j;cases a
 ·rfl
 cases b
 ·rfl
 cases d
 case true=>rfl
 cases e
 case true=>rfl
 cases f
 case true=>rfl
 cases g
 case true=>rfl
 cases h
 case true=>rfl
 cases i
 case true=>rfl
 cases j<;>rfl
theorem has_no{s:List UInt8}{k:Nat}{a b:Int}(hb:s.length<1000000000)(hk:k≤s.length)(h: ∀x,s[k]?=some x→u8 x≠a)(L n:Nat):CTp L (n+1) 153 [yT s,yI (k:Int),⟨.int .u8,a⟩,⟨.int .u8,b⟩]=some [yB false]:=by
 rw[c153];have e0:decide ((0:Int)≤(k:Int))=true:=by simp
 simp only[F153,aJl,aIX,aJk,e0,aF];cases h1:decide (IntKind.i64.wrap ((k:Int)+1)<(s.length:Int))with
 |false=>rfl
 |true=>
  rw[aF,aJ];cases h2:s[k]? with
  |none=>
   exfalso;have:=List.getElem?_eq_none_iff.1 h2;simp only[djE]at h1;rw[cR (by omega)]at h1
   omega
  |some x=>
   have:=h x h2;have e1:decide ((x.toNat:Int)=a)=false:=by simpa [u8]using this
   rw[bW,e1];rfl
theorem Wd_loop{c:TC0}{L:Nat}{s r:List UInt8}(hc: ∀x,c 156 [⟨.int .u8,x⟩]=some [yB (csI x)])(hb:s.length<1000000000)(hr: ∀y,r.head?=some y→csI (u8 y)=false):
    ∀(w:List UInt8) (k m:Nat),s.drop k=w++r→w.length<m→(∀x∈w,csI (u8 x)=true)→qL c L m s (k:Int)=some [yI ((k+w.length:Nat):Int)]:=by
 intro w;induction w with
 |nil=>
  intro k m h1 h2 _;obtain⟨m,rfl⟩: ∃m',m=m'+1:=⟨m-1,by simp at h2;omega⟩
  rw[qL,aDN];rw[nlA]at h1;cases r with
  |nil=>
   have e1:=aN h1;have e3:decide ((k:Int)<(s.length:Int))=false:=by simp;omega
   rw[e3,aE,zH,zL,aE];rfl
  |cons y r=>
   obtain⟨a1,a2,a3⟩:=aO h1;have e3:decide ((k:Int)<(s.length:Int))=true:=by simp;omega
   have e4:csI (y.toNat:Int)=false:=hr y rfl;rw[e3,aF,aJ,a1,bW,hc,bB,zH,zL,e4,aE];rfl
 |cons x w ih=>
  intro k m h1 h2 h3;obtain⟨m,rfl⟩: ∃m',m=m'+1:=⟨m-1,by simp at h2;omega⟩
  rw[qL,aDN];obtain⟨a1,a2,a3⟩:=aO h1;have e3:decide ((k:Int)<(s.length:Int))=true:=by simp;omega
  have e4:csI (x.toNat:Int)=true:=h3 x (mhE ..);rw[e3,aF,aJ,a1,bW,hc,bB,zH,zL,e4,aF,cR (by omega)]
  rw[ih (k+1) m a3 (by simp at h2;omega) fun z hz=>h3 z (mtE _ hz)]
  simp only[lcS];congr 4;omega
theorem Wd_ok{s w r:List UInt8}{k L n:Nat}(hb:s.length<1000000000)(hL:s.length<L)(h:s.drop k=w++r)(hw: ∀x∈w,csI (u8 x)=true)(hr: ∀y,r.head?=some y→csI (u8 y)=false):
    CTp L (n+2) 157 [yT s,yI (k:Int)]=some [yI ((k+w.length:Nat):Int)]:=by
 have:=congrArg List.length h;simp at this;show CTp L (n+1+1) 157 _=_;rw[c157,F157,aJg];exact Wd_loop (fun x=>Cs_ok x L n) hb hr w k L h (by omega) hw
theorem Sk_loop{c:TC0}{L:Nat}{s r:List UInt8}(hc: ∀x,c 152 [⟨.int .u8,x⟩]=some [yB (blI x)])
    (hh: ∀k:Nat,k≤s.length→(∀x,s[k]?=some x→u8 x≠35)→c 153 [yT s,yI (k:Int),⟨.int .u8,(35:Int)⟩,⟨.int .u8,(124:Int)⟩]=some [yB false])
    (hb:s.length<1000000000) (hr: ∀y,r.head?=some y→blI (u8 y)=false∧u8 y≠59∧u8 y≠35):
    ∀(w:List UInt8) (k m:Nat),s.drop k=w++r→w.length<m→(∀x∈w,blI (u8 x)=true)→mA c L m s (k:Int)=some [yI ((k+w.length:Nat):Int),yB true]:=by
 intro w;induction w with
 |nil=>
  intro k m h1 h2 _;obtain⟨m,rfl⟩: ∃m',m=m'+1:=⟨m-1,by simp at h2;omega⟩
  rw[mA,aDR];rw[nlA]at h1;cases r with
  |nil=>
   have e1:=aN h1;have e3:decide ((k:Int)<(s.length:Int))=false:=by simp;omega
   rw[e3,aE];rfl
  |cons y r=>
   obtain⟨a1,a2,a3⟩:=aO h1;have e3:decide ((k:Int)<(s.length:Int))=true:=by simp;omega
   obtain⟨e4,e5,e6⟩:=hr y rfl;have e4:blI (y.toNat:Int)=false:=e4;have e7:decide ((y.toNat:Int)=59)=false:=by simpa [u8]using e5
   have h8:=hh k (by omega) fun x hx=>by rw[a1]at hx;cases hx;exact e6
   rw[e3,aF,aJ,a1,bW,hc,bB,e4,aE,bW,e7,aE,h8,bB,aE];rfl
 |cons x w ih=>
  intro k m h1 h2 h3;obtain⟨m,rfl⟩: ∃m',m=m'+1:=⟨m-1,by simp at h2;omega⟩
  rw[mA,aDR];obtain⟨a1,a2,a3⟩:=aO h1;have e3:decide ((k:Int)<(s.length:Int))=true:=by simp;omega
  have e4:blI (x.toNat:Int)=true:=h3 x (mhE ..);rw[e3,aF,aJ,a1,bW,hc,bB,e4,aF,cR (by omega)]
  rw[ih (k+1) m a3 (by simp at h2;omega) fun z hz=>h3 z (mtE _ hz)]
  simp only[lcS];congr 4;omega
theorem Sk_ok{s w r:List UInt8}{k L n:Nat}(hb:s.length<1000000000)(hL:s.length<L)(h:s.drop k=w++r)(hw: ∀x∈w,blI (u8 x)=true)(hr: ∀y,r.head?=some y→blI (u8 y)=false∧u8 y≠59∧u8 y≠35):
    CTp L (n+2) 126 [yT s,yI (k:Int)]=some [yI ((k+w.length:Nat):Int),yB true]:=by
 have:=congrArg List.length h;simp at this;show CTp L (n+1+1) 126 _=_;rw[c126,F126,aJs];exact Sk_loop (fun x=>Bl_ok x L n) (fun k h6 hk=>has_no hb h6 hk L n) hb hr w k L h (by omega) hw
end Go.TV
namespace Go.TV
open Go.AI Go.PI Go.Proofs
set_option maxRecDepth 20000
noncomputable section
variable(c:TC0)(e:Cu)(L:Nat)
def q70x0(c:TC0)(e:Cu):Kt:=xK aFa
def q70x1(c:TC0)(e:Cu):Kt:=xT aFa c e [1,1,1,1,1,1] (q70x0 c e)
def q70x2(c:TC0)(e:Cu):Kt:=cH U0 0 (q70x1 c e)
def q70x3(c:TC0)(e:Cu)(n1:Nt):Kt:=lpK U0 sE n1 (q70x2 c e)
def q70x4(c:TC0)(e:Cu)(n1:Nt):Kt:=cH U0 1 (q70x3 c e n1)
def q70x5(c:TC0)(e:Cu)(n1:Nt):Kt:=xT aFa c e [1,1,1,1,1,0,0,0,1,0,1,1] (q70x4 c e n1)
def B70x0(c:TC0)(e1:List G.O→G.P→G.X→Rt)(a0:List G.A)(a1:List UInt8)(a2:List UInt8):Rt:=
 obL [zS 18,.rc 17] (c 102 [yT a2]) fun(r0:List G.K×G.X×Unit)=>
 cnd (!decide (r0.2.1.err=(0:Int))) (some [yS 2 ([]:List G.O),yR 17 r0.2.1]) (e1 ([]:List G.O) (G.P.mk a0 a1 r0.1 (0:Int)) (G.X.mk (0:Int) (0:Int)))
def V70x0(n:Nt):List G.A→List UInt8→List UInt8→Rt:=fun x0 x1 x2=>n [yS 5 x0,yT x1,yT x2]
def B70x1(c:TC0)(k2:Bool→Int→List G.O→G.P→G.X→Rt)(a11:List G.O)(b129:G.P)(b107:G.X):Rt:=
 ob (idx b129.t b129.pos) fun v0=>
 cnd (!decide (v0.kind=(0:Int))) (ob (idx b129.t b129.pos) fun v1=>
 ob (idx b129.t b129.pos) fun v2=>
 cnd (decide ((100:Int)≤(List.length a11:Int))) (cnd (!decide (v2.kind=(2:Int))) (k2 (!decide (v2.kind=(3:Int))) v1.pos a11 b129 b107) (k2 false v1.pos a11 b129 b107)) (k2 false v1.pos a11 b129 b107)) (some [yS 2 a11,yR 17 (G.X.mk (0:Int) (0:Int))])
def aII(n:Nt):List G.O→G.P→G.X→Rt:=fun x0 x1 x2=>n [yS 2 x0,yR 19 x1,yR 17 x2]
def X70x1:=aII (xE aFa e [1,1,1,1,1,0,0,0] sE (q70x2 c e))
def B70x2(c:TC0)(n1:List G.O→G.P→G.X→Rt)(a74:Bool)(a12:Int)(a11:List G.O)(b129:G.P)(b107:G.X):Rt:=
 cnd a74 (obL [.rc 17] (c 103 [yI (2:Int),yI a12]) fun(r0:G.X×Unit)=>
 some [yS 2 ([]:List G.O),yR 17 r0.1]) (obL [.rc 2,.rc 17,.rc 19] (c 104 [yI (0:Int),yR 19 b129]) fun(r1:G.O×G.X×G.P×Unit)=>
 cnd (!decide (r1.2.1.err=(0:Int))) (some [yS 2 ([]:List G.O),yR 17 r1.2.1]) (obL [i6] (c 105 [yR 2 r1.1]) fun(r2:Int×Unit)=>
 cnd (decide ((3000:Int)<r2.1)) (obL [.rc 17] (c 103 [yI (2:Int),yI a12]) fun(r3:G.X×Unit)=>
 some [yS 2 ([]:List G.O),yR 17 r3.1]) (chk (Nat.ble ((List.length a11+List.length ([r1.1]:List G.O))*112) 1073741824)<|
 n1 (a11++([r1.1]:List G.O)) r1.2.2.1 b107)))
def V70x2(n:Nt):Bool→Int→List G.O→G.P→G.X→Rt:=fun x0 x1 x2 x3 x4=>n [yB x0,yI x1,yS 2 x2,yR 19 x3,yR 17 x4]
def X70x2(n1:Nt):=V70x2 (xD aFa e [1,1,1,1,1,0,0,0,1,0,1,0,1,1,0] aHa (q70x5 c e n1))
theorem s70x0:V70x0 (xF aFa c e)=B70x0 c (X70x1 c e):=by kernel_rfl
theorem s70x1(n1:Nt):aII (xA aFa c e [1,1,1,1,1,0,0,0] sE (lpK U0 sE n1 (q70x2 c e)))=B70x1 c (X70x2 c e n1):=by kernel_rfl
theorem s70x2(n1:Nt):V70x2 (xA aFa c e [1,1,1,1,1,0,0,0,1,0,1,0,1,1,0] aHa (q70x5 c e n1))=B70x2 c (aII n1):=by kernel_rfl
def J70x2(c:TC0)(L:Nat)(n1:List G.O→G.P→G.X→Rt):Bool→Int→List G.O→G.P→G.X→Rt:=B70x2 c n1
theorem j70x2(n1:Nt):X70x2 c (cu c L) n1=J70x2 c L (aII n1):=by rw[X70x2,aL,s70x2];rfl
def aBy(c:TC0)(L:Nat):Nat→List G.O→G.P→G.X→Rt
 |0=>fun _ _ _=>none
 |n+1=>B70x1 c (J70x2 c L (aBy c L n))
theorem u70x1(n:Nat):aII (xL aFa c L [1,1,1,1,1,0,0,0] sE (q70x2 c (cu c L)) n)=aBy c L n:=by
 induction n with
 |zero=>rfl
 |succ n ih=>rw[fA,s70x1];simp only[j70x2,ih];rfl
theorem w70x1:X70x1 c (cu c L)=aBy c L L:=u70x1 c L L
def F70(c:TC0)(L:Nat):List G.A→List UInt8→List UInt8→Rt:=B70x0 c (aBy c L L)
theorem e70:V70x0 (xF aFa c (cu c L))=F70 c L:=by rw[s70x0];simp only[w70x1];rfl
theorem c70(a0:List G.A)(a1:List UInt8)(a2:List UInt8)(L n:Nat):CTp L (n+1) 70 [yS 5 a0,yT a1,yT a2]=F70 (CTp L n) L a0 a1 a2:=by rw[←e70];exact cg (x:=aFa) (by kernel_rfl) (by kernel_rfl) L n _
def q84x0(c:TC0)(e:Cu):Kt:=xK ii84
def q84x1(c:TC0)(e:Cu):Kt:=xT ii84 c e [1,1,1,1] (q84x0 c e)
def q84x2(c:TC0)(e:Cu):Kt:=cH U0 0 (q84x1 c e)
def B84x0(c:TC0)(e1:List G.R→Int→G.Y→Rt)(a0:G.Y):Rt:=
 cnd (!decide (a0.package=([108,105,115,112]:List UInt8))) (some [yI (0:Int),yB false]) (obL [zS 21] (c 109 []) fun(r0:List G.R×Unit)=>
 e1 r0.1 (0:Int) a0)
def V84x0(n:Nt):G.Y→Rt:=fun x0=>n [yR 1 x0]
def B84x1(c:TC0)(n1:List G.R→Int→G.Y→Rt)(a4:List G.R)(a5:Int)(b101:G.Y):Rt:=
 cnd (decide (a5<(List.length a4:Int))) (ob (idx a4 a5) fun v0=>
 cnd (decide (v0.name=b101.name)) (ob (idx a4 a5) fun v1=>
 some [yI v1.arity,yB true]) (n1 a4 (IntKind.i64.wrap (a5+(1:Int))) b101)) (some [yI (0:Int),yB false])
def V84x1(n:Nt):List G.R→Int→G.Y→Rt:=fun x0 x1 x2=>n [yS 21 x0,yI x1,yR 1 x2]
def X84x1:=V84x1 (xE ii84 e [1,1,1,0,1,0,0] xS (q84x2 c e))
theorem s84x0:V84x0 (xF ii84 c e)=B84x0 c (X84x1 c e):=by kernel_rfl
theorem s84x1(n1:Nt):V84x1 (xA ii84 c e [1,1,1,0,1,0,0] xS (lpK U0 xS n1 (q84x2 c e)))=B84x1 c (V84x1 n1):=by kernel_rfl
def aBx(c:TC0)(L:Nat):Nat→List G.R→Int→G.Y→Rt
 |0=>fun _ _ _=>none
 |n+1=>B84x1 c (aBx c L n)
theorem u84x1(n:Nat):V84x1 (xL ii84 c L [1,1,1,0,1,0,0] xS (q84x2 c (cu c L)) n)=aBx c L n:=by
 induction n with
 |zero=>rfl
 |succ n ih=>rw[fA,s84x1];simp only[ih];rfl
theorem w84x1:X84x1 c (cu c L)=aBx c L L:=u84x1 c L L
def F84(c:TC0)(L:Nat):G.Y→Rt:=B84x0 c (aBx c L L)
theorem e84:V84x0 (xF ii84 c (cu c L))=F84 c L:=by rw[s84x0];simp only[w84x1];rfl
theorem c84(a0:G.Y)(L n:Nat):CTp L (n+1) 84 [yR 1 a0]=F84 (CTp L n) L a0:=by rw[←e84];exact cg (x:=ii84) (by kernel_rfl) (by kernel_rfl) L n _
def B85x0(c:TC0)(a0:List G.E)(a1:G.Y):Rt:=
 obL [i6,i6,.bool] (c 113 [yS 15 a0,yR 1 a1]) fun(r0:Int×Int×Bool×Unit)=>
 cnd (!r0.2.2.1) (some [yR 4 (G.F.mk (G.Y.mk ([]:List UInt8) ([]:List UInt8)) ([]:List G.Y) (0:Int) (G.T.mk (0:Int) (G.Y.mk ([]:List UInt8) ([]:List UInt8)) (G.O.mk (0:Int) ([]:List UInt8) ([]:List UInt8) (G.Y.mk ([]:List UInt8) ([]:List UInt8)) ([]:List UInt8) ([]:List G.O)) ([]:List G.T)) (G.T.mk (0:Int) (G.Y.mk ([]:List UInt8) ([]:List UInt8)) (G.O.mk (0:Int) ([]:List UInt8) ([]:List UInt8) (G.Y.mk ([]:List UInt8) ([]:List UInt8)) ([]:List UInt8) ([]:List G.O)) ([]:List G.T)) (G.T.mk (0:Int) (G.Y.mk ([]:List UInt8) ([]:List UInt8)) (G.O.mk (0:Int) ([]:List UInt8) ([]:List UInt8) (G.Y.mk ([]:List UInt8) ([]:List UInt8)) ([]:List UInt8) ([]:List G.O)) ([]:List G.T))),yB false]) (ob (idx a0 r0.1) fun v1=>
 obL [zS 4] (c 114 [yR 15 v1]) fun(r2:List G.F×Unit)=>
 ob (idx r2.1 r0.2.1) fun v3=>
 some [yR 4 v3,yB true])
def V85x0(n:Nt):List G.E→G.Y→Rt:=fun x0 x1=>n [yS 15 x0,yR 1 x1]
theorem s85x0:V85x0 (xF ii85 c e)=B85x0 c:=by kernel_rfl
def F85(c:TC0)(L:Nat):List G.E→G.Y→Rt:=B85x0 c
theorem e85:V85x0 (xF ii85 c (cu c L))=F85 c L:=s85x0 _ _
theorem c85(a0:List G.E)(a1:G.Y)(L n:Nat):CTp L (n+1) 85 [yS 15 a0,yR 1 a1]=F85 (CTp L n) L a0 a1:=by rw[←e85];exact cg (x:=ii85) (by kernel_rfl) (by kernel_rfl) L n _
def B86x0(c:TC0)(a0:G.T)(b0:G.T)(b1:G.T):Rt:=
 obL [.rc 3] (c 20 [yR 3 a0,yR 3 b0,yR 3 b1]) fun(r0:G.T×Unit)=>
 some [yR 3 r0.1,yR 3 b0,yR 3 b1]
def V86x0(n:Nt):G.T→G.T→G.T→Rt:=fun x0 x1 x2=>n [yR 3 x0,yR 3 x1,yR 3 x2]
theorem s86x0:V86x0 (xF ii86 c e)=B86x0 c:=by kernel_rfl
def F86(c:TC0)(L:Nat):G.T→G.T→G.T→Rt:=B86x0 c
theorem e86:V86x0 (xF ii86 c (cu c L))=F86 c L:=s86x0 _ _
theorem c86(a0:G.T)(b0:G.T)(b1:G.T)(L n:Nat):CTp L (n+1) 86 [yR 3 a0,yR 3 b0,yR 3 b1]=F86 (CTp L n) L a0 b0 b1:=by rw[←e86];exact cg (x:=ii86) (by kernel_rfl) (by kernel_rfl) L n _
def q87x0(c:TC0)(e:Cu):Kt:=xK ii87
def q87x1(c:TC0)(e:Cu):Kt:=xT ii87 c e [1,1] (q87x0 c e)
def q87x2(c:TC0)(e:Cu):Kt:=cH U0 0 (q87x1 c e)
def q87x3(c:TC0)(e:Cu):Kt:=xT ii87 c e [1,0,1,0,1,1,1,0,1,1] (q87x2 c e)
def q87x4(c:TC0)(e:Cu):Kt:=cH U0 1 (q87x3 c e)
def B87x0(c:TC0)(e1:Int→List G.T→Int→Int→Rt)(a0:G.T)(a1:Int):Rt:=
 cnd (decide (a0.kind=(2:Int))) (obL [i6] (c 115 [yR 2 a0.value]) fun(r0:Int×Unit)=>
 some [yI (IntKind.i64.wrap (a1-r0.1))]) (cnd (decide (a0.kind=(3:Int))) (e1 (List.length a0.args:Int) a0.args (0:Int) (IntKind.i64.wrap (a1-(1:Int)))) (some [yI (IntKind.i64.wrap (a1-(1:Int)))]))
def V87x0(n:Nt):G.T→Int→Rt:=fun x0 x1=>n [yR 3 x0,yI x1]
def aEW(c:TC0)(n1:Int→List G.T→Int→Int→Rt)(a22:Int)(a21:List G.T)(a23:Int)(a1:Int):Rt:=
 cnd (decide (a23<a22)) (ob (idx a21 a23) fun v0=>
 cnd (decide (a1≤(0:Int))) (some [yI (bif decide ((0:Int)<a1)then(0:Int)else a1)]) (obL [i6] (c 87 [yR 3 v0,yI a1]) fun(r1:Int×Unit)=>
 n1 a22 a21 (IntKind.i64.wrap (a23+(1:Int))) r1.1)) (some [yI a1])
def V87x1(n:Nt):Int→List G.T→Int→Int→Rt:=fun x0 x1 x2 x3=>n [yI x0,yS 3 x1,yI x2,yI x3]
def X87x1:=V87x1 (xE ii87 e [1,0,1,0,1,1,1,0,1,0,1,0,0] xR (q87x4 c e))
theorem s87x0:V87x0 (xF ii87 c e)=B87x0 c (X87x1 c e):=by kernel_rfl
theorem s87x1(n1:Nt):V87x1 (xA ii87 c e [1,0,1,0,1,1,1,0,1,0,1,0,0] xR (lpK U0 xR n1 (q87x4 c e)))=aEW c (V87x1 n1):=by kernel_rfl
def rD(c:TC0)(L:Nat):Nat→Int→List G.T→Int→Int→Rt
 |0=>fun _ _ _ _=>none
 |n+1=>aEW c (rD c L n)
theorem u87x1(n:Nat):V87x1 (xL ii87 c L [1,0,1,0,1,1,1,0,1,0,1,0,0] xR (q87x4 c (cu c L)) n)=rD c L n:=by
 induction n with
 |zero=>rfl
 |succ n ih=>rw[fA,s87x1];simp only[ih];rfl
theorem w87x1:X87x1 c (cu c L)=rD c L L:=u87x1 c L L
def F87(c:TC0)(L:Nat):G.T→Int→Rt:=B87x0 c (rD c L L)
theorem e87:V87x0 (xF ii87 c (cu c L))=F87 c L:=by rw[s87x0];simp only[w87x1];rfl
theorem c87(a0:G.T)(a1:Int)(L n:Nat):CTp L (n+1) 87 [yR 3 a0,yI a1]=F87 (CTp L n) L a0 a1:=by rw[←e87];exact cg (x:=ii87) (by kernel_rfl) (by kernel_rfl) L n _
def q88x0(c:TC0)(e:Cu):Kt:=xK aE9
def q88x1(c:TC0)(e:Cu):Kt:=xT aE9 c e [1,1,1] (q88x0 c e)
def q88x2(c:TC0)(e:Cu):Kt:=xT aE9 c e [1,1,1,1] (q88x0 c e)
def q88x3(c:TC0)(e:Cu):Kt:=cH U0 0 (q88x2 c e)
def B88x0(c:TC0)(k1:Bool→Int→Int→G.T→Rt)(a0:G.T)(a1:Int):Rt:=
 cnd (!decide (a0.kind=(3:Int))) (k1 true a1 (1:Int) a0) (k1 (decide (a1≤(1:Int))) a1 (1:Int) a0)
def V88x0(n:Nt):G.T→Int→Rt:=fun x0 x1=>n [yR 3 x0,yI x1]
def B88x1(c:TC0)(e2:Int→List G.T→Int→Int→Int→Rt)(a14:Bool)(a1:Int)(a5:Int)(b102:G.T):Rt:=
 cnd a14 (some [yI a5]) (e2 (List.length b102.args:Int) b102.args a1 (0:Int) a5)
def V88x1(n:Nt):Bool→Int→Int→G.T→Rt:=fun x0 x1 x2 x3=>n [yB x0,yI x1,yI x2,yR 3 x3]
def X88x1:=V88x1 (xD aE9 e [1,1,0,1,0] aG9 (q88x1 c e))
def B88x2(c:TC0)(n2:Int→List G.T→Int→Int→Int→Rt)(a18:Int)(a17:List G.T)(a1:Int)(a19:Int)(a5:Int):Rt:=
 cnd (decide (a19<a18)) (ob (idx a17 a19) fun v0=>
 obL [i6] (c 88 [yR 3 v0,yI (IntKind.i64.wrap (a1-(1:Int)))]) fun(r1:Int×Unit)=>
 cnd (decide (a1≤(bif decide (a5<(IntKind.i64.wrap ((1:Int)+r1.1)))then(IntKind.i64.wrap ((1:Int)+r1.1))else a5))) (some [yI a1]) (n2 a18 a17 a1 (IntKind.i64.wrap (a19+(1:Int))) (bif decide (a5<(IntKind.i64.wrap ((1:Int)+r1.1)))then(IntKind.i64.wrap ((1:Int)+r1.1))else a5))) (some [yI a5])
def V88x2(n:Nt):Int→List G.T→Int→Int→Int→Rt:=fun x0 x1 x2 x3 x4=>n [yI x0,yS 3 x1,yI x2,yI x3,yI x4]
def X88x2:=V88x2 (xE aE9 e [1,1,1,0,1,0,0] xQ (q88x3 c e))
theorem s88x0:V88x0 (xF aE9 c e)=B88x0 c (X88x1 c e):=by kernel_rfl
theorem s88x1:V88x1 (xA aE9 c e [1,1,0,1,0] aG9 (q88x1 c e))=B88x1 c (X88x2 c e):=by kernel_rfl
theorem s88x2(n2:Nt):V88x2 (xA aE9 c e [1,1,1,0,1,0,0] xQ (lpK U0 xQ n2 (q88x3 c e)))=B88x2 c (V88x2 n2):=by kernel_rfl
def aBw(c:TC0)(L:Nat):Nat→Int→List G.T→Int→Int→Int→Rt
 |0=>fun _ _ _ _ _=>none
 |n+1=>B88x2 c (aBw c L n)
theorem u88x2(n:Nat):V88x2 (xL aE9 c L [1,1,1,0,1,0,0] xQ (q88x3 c (cu c L)) n)=aBw c L n:=by
 induction n with
 |zero=>rfl
 |succ n ih=>rw[fA,s88x2];simp only[ih];rfl
theorem w88x2:X88x2 c (cu c L)=aBw c L L:=u88x2 c L L
def aIR(c:TC0)(L:Nat):Bool→Int→Int→G.T→Rt:=B88x1 c (aBw c L L)
theorem j88x1:X88x1 c (cu c L)=aIR c L:=by rw[X88x1,aL,s88x1];simp only[w88x2];rfl
def F88(c:TC0)(L:Nat):G.T→Int→Rt:=B88x0 c (aIR c L)
theorem e88:V88x0 (xF aE9 c (cu c L))=F88 c L:=by rw[s88x0];simp only[j88x1];rfl
theorem c88(a0:G.T)(a1:Int)(L n:Nat):CTp L (n+1) 88 [yR 3 a0,yI a1]=F88 (CTp L n) L a0 a1:=by rw[←e88];exact cg (x:=aE9) (by kernel_rfl) (by kernel_rfl) L n _
def q89x0(c:TC0)(e:Cu):Kt:=xK ii89
def B89x0(c:TC0)(k1:Bool→Rt)(a0:G.Y):Rt:=
 obL [.bool] (c 91 [yR 1 a0]) fun(r0:Bool×Unit)=>
 cnd r0.1 (obL [.rc 2] (c 116 []) fun(r1:G.O×Unit)=>
 cnd (!decide (a0=r1.1.sym)) (obL [.rc 2] (c 117 []) fun(r2:G.O×Unit)=>
 k1 (!decide (a0=r2.1.sym))) (k1 false)) (k1 false)
def V89x0(n:Nt):G.Y→Rt:=fun x0=>n [yR 1 x0]
def B89x1(c:TC0)(a2:Bool):Rt:=
 some [yB a2]
def V89x1(n:Nt):Bool→Rt:=fun x0=>n [yB x0]
def X89x1:=V89x1 (xD ii89 e [1,1,0] aG8 (q89x0 c e))
theorem s89x0:V89x0 (xF ii89 c e)=B89x0 c (X89x1 c e):=by kernel_rfl
theorem s89x1:V89x1 (xA ii89 c e [1,1,0] aG8 (q89x0 c e))=B89x1 c:=by kernel_rfl
def J89x1(c:TC0)(L:Nat):Bool→Rt:=B89x1 c
theorem j89x1:X89x1 c (cu c L)=J89x1 c L:=by rw[X89x1,aL,s89x1];rfl
def F89(c:TC0)(L:Nat):G.Y→Rt:=B89x0 c (J89x1 c L)
theorem e89:V89x0 (xF ii89 c (cu c L))=F89 c L:=by rw[s89x0];simp only[j89x1];rfl
theorem c89(a0:G.Y)(L n:Nat):CTp L (n+1) 89 [yR 1 a0]=F89 (CTp L n) L a0:=by rw[←e89];exact cg (x:=ii89) (by kernel_rfl) (by kernel_rfl) L n _
def q90x0(c:TC0)(e:Cu):Kt:=xK ii90
def B90x0(c:TC0)(k1:Bool→Rt)(a0:G.O):Rt:=
 obL [i6] (c 115 [yR 2 a0]) fun(r0:Int×Unit)=>
 cnd (decide (r0.1≤(3000:Int))) (obL [.bool] (c 118 [yR 2 a0]) fun(r1:Bool×Unit)=>
 k1 r1.1) (k1 false)
def V90x0(n:Nt):G.O→Rt:=fun x0=>n [yR 2 x0]
def B90x1(c:TC0)(a2:Bool):Rt:=
 some [yB a2]
def V90x1(n:Nt):Bool→Rt:=fun x0=>n [yB x0]
def X90x1:=V90x1 (xD ii90 e [1,1,0] aG7 (q90x0 c e))
theorem s90x0:V90x0 (xF ii90 c e)=B90x0 c (X90x1 c e):=by kernel_rfl
theorem s90x1:V90x1 (xA ii90 c e [1,1,0] aG7 (q90x0 c e))=B90x1 c:=by kernel_rfl
def J90x1(c:TC0)(L:Nat):Bool→Rt:=B90x1 c
theorem j90x1:X90x1 c (cu c L)=J90x1 c L:=by rw[X90x1,aL,s90x1];rfl
def F90(c:TC0)(L:Nat):G.O→Rt:=B90x0 c (J90x1 c L)
theorem e90:V90x0 (xF ii90 c (cu c L))=F90 c L:=by rw[s90x0];simp only[j90x1];rfl
theorem c90(a0:G.O)(L n:Nat):CTp L (n+1) 90 [yR 2 a0]=F90 (CTp L n) L a0:=by rw[←e90];exact cg (x:=ii90) (by kernel_rfl) (by kernel_rfl) L n _
def B91x0(c:TC0)(a0:G.Y):Rt:=
 obL [.rc 2] (c 119 [yR 1 a0]) fun(r0:G.O×Unit)=>
 obL [.bool] (c 90 [yR 2 r0.1]) fun(r1:Bool×Unit)=>
 some [yB r1.1]
def V91x0(n:Nt):G.Y→Rt:=fun x0=>n [yR 1 x0]
theorem s91x0:V91x0 (xF ii91 c e)=B91x0 c:=by kernel_rfl
def F91(c:TC0)(L:Nat):G.Y→Rt:=B91x0 c
theorem e91:V91x0 (xF ii91 c (cu c L))=F91 c L:=s91x0 _ _
theorem c91(a0:G.Y)(L n:Nat):CTp L (n+1) 91 [yR 1 a0]=F91 (CTp L n) L a0:=by rw[←e91];exact cg (x:=ii91) (by kernel_rfl) (by kernel_rfl) L n _
def B92x0(c:TC0)(a0:List G.T):Rt:=
 obL [i6] (c 120 [yS 3 a0]) fun(r0:Int×Unit)=>
 some [yB (decide ((0:Int)≤r0.1))]
def V92x0(n:Nt):List G.T→Rt:=fun x0=>n [yS 3 x0]
theorem s92x0:V92x0 (xF ii92 c e)=B92x0 c:=by kernel_rfl
def F92(c:TC0)(L:Nat):List G.T→Rt:=B92x0 c
theorem e92:V92x0 (xF ii92 c (cu c L))=F92 c L:=s92x0 _ _
theorem c92(a0:List G.T)(L n:Nat):CTp L (n+1) 92 [yS 3 a0]=F92 (CTp L n) L a0:=by rw[←e92];exact cg (x:=ii92) (by kernel_rfl) (by kernel_rfl) L n _
def B93x0(c:TC0)(a0:List G.T)(b0:G.T):Rt:=
 obL [i6,.rc 3] (c 121 [yS 3 a0,yR 3 b0]) fun(r0:Int×G.T×Unit)=>
 some [yB (decide ((0:Int)≤r0.1)),yR 3 r0.2.1]
def V93x0(n:Nt):List G.T→G.T→Rt:=fun x0 x1=>n [yS 3 x0,yR 3 x1]
theorem s93x0:V93x0 (xF ii93 c e)=B93x0 c:=by kernel_rfl
def F93(c:TC0)(L:Nat):List G.T→G.T→Rt:=B93x0 c
theorem e93:V93x0 (xF ii93 c (cu c L))=F93 c L:=s93x0 _ _
theorem c93(a0:List G.T)(b0:G.T)(L n:Nat):CTp L (n+1) 93 [yS 3 a0,yR 3 b0]=F93 (CTp L n) L a0 b0:=by rw[←e93];exact cg (x:=ii93) (by kernel_rfl) (by kernel_rfl) L n _
def q94x0(c:TC0)(e:Cu):Kt:=xK aE8
def q94x1(c:TC0)(e:Cu):Kt:=xT aE8 c e [1,1] (q94x0 c e)
def q94x2(c:TC0)(e:Cu):Kt:=xT aE8 c e [1,1,1] (q94x0 c e)
def q94x3(c:TC0)(e:Cu):Kt:=cH U0 0 (q94x2 c e)
def B94x0(c:TC0)(k1:Bool→G.O→G.O→Rt)(a0:G.O)(a1:G.O):Rt:=
 cnd (!decide (a0.kind=a1.kind)) (k1 true a0 a1) (cnd (!decide (a0.num=a1.num)) (k1 true a0 a1) (cnd (!decide (a0.den=a1.den)) (k1 true a0 a1) (cnd (!decide (a0.sym=a1.sym)) (k1 true a0 a1) (cnd (!decide (a0.text=a1.text)) (k1 true a0 a1) (k1 (!decide ((List.length a0.pair:Int)=(List.length a1.pair:Int))) a0 a1)))))
def V94x0(n:Nt):G.O→G.O→Rt:=fun x0 x1=>n [yR 2 x0,yR 2 x1]
def B94x1(c:TC0)(e2:Int→G.O→G.O→Rt)(a47:Bool)(b102:G.O)(b103:G.O):Rt:=
 cnd a47 (some [yB false]) (e2 (0:Int) b102 b103)
def V94x1(n:Nt):Bool→G.O→G.O→Rt:=fun x0 x1 x2=>n [yB x0,yR 2 x1,yR 2 x2]
def X94x1:=V94x1 (xD aE8 e [1,0,1,0] aG6 (q94x1 c e))
def B94x2(c:TC0)(n2:Int→G.O→G.O→Rt)(a5:Int)(b102:G.O)(b103:G.O):Rt:=
 cnd (decide (a5<(List.length b102.pair:Int))) (ob (idx b102.pair a5) fun v0=>
 ob (idx b103.pair a5) fun v1=>
 obL [.bool] (c 94 [yR 2 v0,yR 2 v1]) fun(r2:Bool×Unit)=>
 cnd (!r2.1) (some [yB false]) (n2 (IntKind.i64.wrap (a5+(1:Int))) b102 b103)) (some [yB true])
def V94x2(n:Nt):Int→G.O→G.O→Rt:=fun x0 x1 x2=>n [yI x0,yR 2 x1,yR 2 x2]
def X94x2:=V94x2 (xE aE8 e [1,1,0,1,0,0] xP (q94x3 c e))
theorem s94x0:V94x0 (xF aE8 c e)=B94x0 c (X94x1 c e):=by kernel_rfl
theorem s94x1:V94x1 (xA aE8 c e [1,0,1,0] aG6 (q94x1 c e))=B94x1 c (X94x2 c e):=by kernel_rfl
theorem s94x2(n2:Nt):V94x2 (xA aE8 c e [1,1,0,1,0,0] xP (lpK U0 xP n2 (q94x3 c e)))=B94x2 c (V94x2 n2):=by kernel_rfl
def aBv(c:TC0)(L:Nat):Nat→Int→G.O→G.O→Rt
 |0=>fun _ _ _=>none
 |n+1=>B94x2 c (aBv c L n)
theorem u94x2(n:Nat):V94x2 (xL aE8 c L [1,1,0,1,0,0] xP (q94x3 c (cu c L)) n)=aBv c L n:=by
 induction n with
 |zero=>rfl
 |succ n ih=>rw[fA,s94x2];simp only[ih];rfl
theorem w94x2:X94x2 c (cu c L)=aBv c L L:=u94x2 c L L
def J94x1(c:TC0)(L:Nat):Bool→G.O→G.O→Rt:=B94x1 c (aBv c L L)
theorem j94x1:X94x1 c (cu c L)=J94x1 c L:=by rw[X94x1,aL,s94x1];simp only[w94x2];rfl
def F94(c:TC0)(L:Nat):G.O→G.O→Rt:=B94x0 c (J94x1 c L)
theorem e94:V94x0 (xF aE8 c (cu c L))=F94 c L:=by rw[s94x0];simp only[j94x1];rfl
theorem c94(a0:G.O)(a1:G.O)(L n:Nat):CTp L (n+1) 94 [yR 2 a0,yR 2 a1]=F94 (CTp L n) L a0 a1:=by rw[←e94];exact cg (x:=aE8) (by kernel_rfl) (by kernel_rfl) L n _
def q95x0(c:TC0)(e:Cu):Kt:=xK ii95
def q95x1(c:TC0)(e:Cu):Kt:=xT ii95 c e [1,1,1] (q95x0 c e)
def q95x2(c:TC0)(e:Cu):Kt:=cH U0 0 (q95x1 c e)
def B95x0(c:TC0)(e1:List G.T→List G.T→Int→Rt)(a0:List G.T)(a1:List G.T):Rt:=
 cnd (!decide ((List.length a0:Int)=(List.length a1:Int))) (some [yB false]) (e1 a0 a1 (0:Int))
def V95x0(n:Nt):List G.T→List G.T→Rt:=fun x0 x1=>n [yS 3 x0,yS 3 x1]
def B95x1(c:TC0)(n1:List G.T→List G.T→Int→Rt)(a0:List G.T)(a1:List G.T)(a5:Int):Rt:=
 cnd (decide (a5<(List.length a0:Int))) (ob (idx a0 a5) fun v0=>
 ob (idx a1 a5) fun v1=>
 obL [.bool] (c 61 [yR 3 v0,yR 3 v1]) fun(r2:Bool×Unit)=>
 cnd (!r2.1) (some [yB false]) (n1 a0 a1 (IntKind.i64.wrap (a5+(1:Int))))) (some [yB true])
def V95x1(n:Nt):List G.T→List G.T→Int→Rt:=fun x0 x1 x2=>n [yS 3 x0,yS 3 x1,yI x2]
def X95x1:=V95x1 (xE ii95 e [1,1,0,1,0,0] xO (q95x2 c e))
theorem s95x0:V95x0 (xF ii95 c e)=B95x0 c (X95x1 c e):=by kernel_rfl
theorem s95x1(n1:Nt):V95x1 (xA ii95 c e [1,1,0,1,0,0] xO (lpK U0 xO n1 (q95x2 c e)))=B95x1 c (V95x1 n1):=by kernel_rfl
def aBu(c:TC0)(L:Nat):Nat→List G.T→List G.T→Int→Rt
 |0=>fun _ _ _=>none
 |n+1=>B95x1 c (aBu c L n)
theorem u95x1(n:Nat):V95x1 (xL ii95 c L [1,1,0,1,0,0] xO (q95x2 c (cu c L)) n)=aBu c L n:=by
 induction n with
 |zero=>rfl
 |succ n ih=>rw[fA,s95x1];simp only[ih];rfl
theorem w95x1:X95x1 c (cu c L)=aBu c L L:=u95x1 c L L
def F95(c:TC0)(L:Nat):List G.T→List G.T→Rt:=B95x0 c (aBu c L L)
theorem e95:V95x0 (xF ii95 c (cu c L))=F95 c L:=by rw[s95x0];simp only[w95x1];rfl
theorem c95(a0:List G.T)(a1:List G.T)(L n:Nat):CTp L (n+1) 95 [yS 3 a0,yS 3 a1]=F95 (CTp L n) L a0 a1:=by rw[←e95];exact cg (x:=ii95) (by kernel_rfl) (by kernel_rfl) L n _
def q96x0(c:TC0)(e:Cu):Kt:=xK aE7
def q96x1(c:TC0)(e:Cu):Kt:=xT aE7 c e [1,1,1,1,1] (q96x0 c e)
def q96x2(c:TC0)(e:Cu):Kt:=cH U0 0 (q96x1 c e)
def q96x3(c:TC0)(e:Cu)(n1:Nt):Kt:=lpK U0 sD n1 (q96x2 c e)
def q96x4(c:TC0)(e:Cu)(n1:Nt):Kt:=xT aE7 c e [1,1,1,1,0,1,0,0,1] (q96x3 c e n1)
def B96x0(c:TC0)(e1:List G.T→Int→Int→Int→Rt)(a0:G.T)(a1:Int):Rt:=
 cnd (decide (a0.kind=(2:Int))) (obL [i6] (c 105 [yR 2 a0.value]) fun(r0:Int×Unit)=>
 some [yI (bif decide (r0.1<a1)then r0.1 else a1)]) (obL [zS 3] (c 122 [yR 3 a0]) fun(r1:List G.T×Unit)=>
 e1 r1.1 a1 (0:Int) (1:Int))
def V96x0(n:Nt):G.T→Int→Rt:=fun x0 x1=>n [yR 3 x0,yI x1]
def B96x1(c:TC0)(k2:Bool→Int→List G.T→Int→Int→Rt)(a6:List G.T)(a1:Int)(a7:Int)(a5:Int):Rt:=
 cnd (decide (a7<(List.length a6:Int))) (k2 (decide (a5<a1)) a7 a6 a1 a5) (k2 false a7 a6 a1 a5)
def aIH(n:Nt):List G.T→Int→Int→Int→Rt:=fun x0 x1 x2 x3=>n [yS 3 x0,yI x1,yI x2,yI x3]
def X96x1:=aIH (xE aE7 e [1,1,1,1,0,1,0,0] sD (q96x2 c e))
def B96x2(c:TC0)(n1:List G.T→Int→Int→Int→Rt)(a26:Bool)(a7:Int)(a6:List G.T)(a1:Int)(a5:Int):Rt:=
 cnd a26 (ob (idx a6 a7) fun v0=>
 obL [i6] (c 96 [yR 3 v0,yI (IntKind.i64.wrap (a1-a5))]) fun(r1:Int×Unit)=>
 n1 a6 a1 (IntKind.i64.wrap (a7+(1:Int))) (IntKind.i64.wrap (a5+r1.1))) (some [yI a5])
def V96x2(n:Nt):Bool→Int→List G.T→Int→Int→Rt:=fun x0 x1 x2 x3 x4=>n [yB x0,yI x1,yS 3 x2,yI x3,yI x4]
def X96x2(n1:Nt):=V96x2 (xD aE7 e [1,1,1,1,0,1,0,0,0,1,0] aG5 (q96x4 c e n1))
theorem s96x0:V96x0 (xF aE7 c e)=B96x0 c (X96x1 c e):=by kernel_rfl
theorem s96x1(n1:Nt):aIH (xA aE7 c e [1,1,1,1,0,1,0,0] sD (lpK U0 sD n1 (q96x2 c e)))=B96x1 c (X96x2 c e n1):=by kernel_rfl
theorem s96x2(n1:Nt):V96x2 (xA aE7 c e [1,1,1,1,0,1,0,0,0,1,0] aG5 (q96x4 c e n1))=B96x2 c (aIH n1):=by kernel_rfl
def J96x2(c:TC0)(L:Nat)(n1:List G.T→Int→Int→Int→Rt):Bool→Int→List G.T→Int→Int→Rt:=B96x2 c n1
theorem j96x2(n1:Nt):X96x2 c (cu c L) n1=J96x2 c L (aIH n1):=by rw[X96x2,aL,s96x2];rfl
def aBt(c:TC0)(L:Nat):Nat→List G.T→Int→Int→Int→Rt
 |0=>fun _ _ _ _=>none
 |n+1=>B96x1 c (J96x2 c L (aBt c L n))
theorem u96x1(n:Nat):aIH (xL aE7 c L [1,1,1,1,0,1,0,0] sD (q96x2 c (cu c L)) n)=aBt c L n:=by
 induction n with
 |zero=>rfl
 |succ n ih=>rw[fA,s96x1];simp only[j96x2,ih];rfl
theorem w96x1:X96x1 c (cu c L)=aBt c L L:=u96x1 c L L
def F96(c:TC0)(L:Nat):G.T→Int→Rt:=B96x0 c (aBt c L L)
theorem e96:V96x0 (xF aE7 c (cu c L))=F96 c L:=by rw[s96x0];simp only[w96x1];rfl
theorem c96(a0:G.T)(a1:Int)(L n:Nat):CTp L (n+1) 96 [yR 3 a0,yI a1]=F96 (CTp L n) L a0 a1:=by rw[←e96];exact cg (x:=aE7) (by kernel_rfl) (by kernel_rfl) L n _
def q97x0(c:TC0)(e:Cu):Kt:=xK aE6
def q97x1(c:TC0)(e:Cu):Kt:=xT aE6 c e [1,1,1,1] (q97x0 c e)
def q97x2(c:TC0)(e:Cu):Kt:=cH U0 0 (q97x1 c e)
def q97x3(c:TC0)(e:Cu)(n1:Nt):Kt:=lpK U0 sC n1 (q97x2 c e)
def q97x4(c:TC0)(e:Cu)(n1:Nt):Kt:=xT aE6 c e [1,1,1,0,1,0,0,1] (q97x3 c e n1)
def B97x0(c:TC0)(e1:List G.T→Int→Int→Int→Rt)(a0:G.T)(a1:Int):Rt:=
 obL [zS 3] (c 122 [yR 3 a0]) fun(r0:List G.T×Unit)=>
 e1 r0.1 a1 (0:Int) (0:Int)
def V97x0(n:Nt):G.T→Int→Rt:=fun x0 x1=>n [yR 3 x0,yI x1]
def aI8(c:TC0)(k2:Bool→Int→List G.T→Int→Int→Rt)(a6:List G.T)(a1:Int)(a7:Int)(a5:Int):Rt:=
 cnd (decide (a7<(List.length a6:Int))) (k2 (decide ((1:Int)<a1)) a7 a6 a1 a5) (k2 false a7 a6 a1 a5)
def aIG(n:Nt):List G.T→Int→Int→Int→Rt:=fun x0 x1 x2 x3=>n [yS 3 x0,yI x1,yI x2,yI x3]
def X97x1:=aIG (xE aE6 e [1,1,1,0,1,0,0] sC (q97x2 c e))
def aI7(c:TC0)(n1:List G.T→Int→Int→Int→Rt)(a17:Bool)(a7:Int)(a6:List G.T)(a1:Int)(a5:Int):Rt:=
 cnd a17 (ob (idx a6 a7) fun v0=>
 obL [i6] (c 97 [yR 3 v0,yI (IntKind.i64.wrap (a1-(1:Int)))]) fun(r1:Int×Unit)=>
 n1 a6 a1 (IntKind.i64.wrap (a7+(1:Int))) (bif decide (a5<r1.1)then r1.1 else a5)) (some [yI (IntKind.i64.wrap (a5+(1:Int)))])
def V97x2(n:Nt):Bool→Int→List G.T→Int→Int→Rt:=fun x0 x1 x2 x3 x4=>n [yB x0,yI x1,yS 3 x2,yI x3,yI x4]
def X97x2(n1:Nt):=V97x2 (xD aE6 e [1,1,1,0,1,0,0,0,1,0] aG4 (q97x4 c e n1))
theorem s97x0:V97x0 (xF aE6 c e)=B97x0 c (X97x1 c e):=by kernel_rfl
theorem s97x1(n1:Nt):aIG (xA aE6 c e [1,1,1,0,1,0,0] sC (lpK U0 sC n1 (q97x2 c e)))=aI8 c (X97x2 c e n1):=by kernel_rfl
theorem s97x2(n1:Nt):V97x2 (xA aE6 c e [1,1,1,0,1,0,0,0,1,0] aG4 (q97x4 c e n1))=aI7 c (aIG n1):=by kernel_rfl
def aEO(c:TC0)(L:Nat)(n1:List G.T→Int→Int→Int→Rt):Bool→Int→List G.T→Int→Int→Rt:=aI7 c n1
theorem j97x2(n1:Nt):X97x2 c (cu c L) n1=aEO c L (aIG n1):=by rw[X97x2,aL,s97x2];rfl
def vB(c:TC0)(L:Nat):Nat→List G.T→Int→Int→Int→Rt
 |0=>fun _ _ _ _=>none
 |n+1=>aI8 c (aEO c L (vB c L n))
theorem u97x1(n:Nat):aIG (xL aE6 c L [1,1,1,0,1,0,0] sC (q97x2 c (cu c L)) n)=vB c L n:=by
 induction n with
 |zero=>rfl
 |succ n ih=>rw[fA,s97x1];simp only[j97x2,ih];rfl
theorem w97x1:X97x1 c (cu c L)=vB c L L:=u97x1 c L L
def F97(c:TC0)(L:Nat):G.T→Int→Rt:=B97x0 c (vB c L L)
theorem e97:V97x0 (xF aE6 c (cu c L))=F97 c L:=by rw[s97x0];simp only[w97x1];rfl
theorem c97(a0:G.T)(a1:Int)(L n:Nat):CTp L (n+1) 97 [yR 3 a0,yI a1]=F97 (CTp L n) L a0 a1:=by rw[←e97];exact cg (x:=aE6) (by kernel_rfl) (by kernel_rfl) L n _
def q98x0(c:TC0)(e:Cu):Kt:=xK ii98
def B98x0(c:TC0)(k1:Bool→Rt)(a0:G.Y):Rt:=
 obL [.bool] (c 100 [yR 1 a0]) fun(r0:Bool×Unit)=>
 cnd r0.1 (obL [.rc 1] (c 33 [yT ([110,105,108]:List UInt8)]) fun(r1:G.Y×Unit)=>
 cnd (!decide (a0=r1.1)) (obL [.rc 1] (c 33 [yT ([116]:List UInt8)]) fun(r2:G.Y×Unit)=>
 k1 (!decide (a0=r2.1))) (k1 false)) (k1 false)
def V98x0(n:Nt):G.Y→Rt:=fun x0=>n [yR 1 x0]
def B98x1(c:TC0)(a2:Bool):Rt:=
 some [yB a2]
def V98x1(n:Nt):Bool→Rt:=fun x0=>n [yB x0]
def X98x1:=V98x1 (xD ii98 e [1,1,0] aG3 (q98x0 c e))
theorem s98x0:V98x0 (xF ii98 c e)=B98x0 c (X98x1 c e):=by kernel_rfl
theorem s98x1:V98x1 (xA ii98 c e [1,1,0] aG3 (q98x0 c e))=B98x1 c:=by kernel_rfl
def J98x1(c:TC0)(L:Nat):Bool→Rt:=B98x1 c
theorem j98x1:X98x1 c (cu c L)=J98x1 c L:=by rw[X98x1,aL,s98x1];rfl
def F98(c:TC0)(L:Nat):G.Y→Rt:=B98x0 c (J98x1 c L)
theorem e98:V98x0 (xF ii98 c (cu c L))=F98 c L:=by rw[s98x0];simp only[j98x1];rfl
theorem c98(a0:G.Y)(L n:Nat):CTp L (n+1) 98 [yR 1 a0]=F98 (CTp L n) L a0:=by rw[←e98];exact cg (x:=ii98) (by kernel_rfl) (by kernel_rfl) L n _
def q99x0(c:TC0)(e:Cu):Kt:=xK ii99
def B99x0(c:TC0)(k1:Bool→Rt)(a0:G.O):Rt:=
 obL [i6] (c 105 [yR 2 a0]) fun(r0:Int×Unit)=>
 cnd (decide (r0.1≤(3000:Int))) (obL [.bool] (c 123 [yR 2 a0]) fun(r1:Bool×Unit)=>
 k1 r1.1) (k1 false)
def V99x0(n:Nt):G.O→Rt:=fun x0=>n [yR 2 x0]
def B99x1(c:TC0)(a2:Bool):Rt:=
 some [yB a2]
def V99x1(n:Nt):Bool→Rt:=fun x0=>n [yB x0]
def X99x1:=V99x1 (xD ii99 e [1,1,0] aG2 (q99x0 c e))
theorem s99x0:V99x0 (xF ii99 c e)=B99x0 c (X99x1 c e):=by kernel_rfl
theorem s99x1:V99x1 (xA ii99 c e [1,1,0] aG2 (q99x0 c e))=B99x1 c:=by kernel_rfl
def J99x1(c:TC0)(L:Nat):Bool→Rt:=B99x1 c
theorem j99x1:X99x1 c (cu c L)=J99x1 c L:=by rw[X99x1,aL,s99x1];rfl
def F99(c:TC0)(L:Nat):G.O→Rt:=B99x0 c (J99x1 c L)
theorem e99:V99x0 (xF ii99 c (cu c L))=F99 c L:=by rw[s99x0];simp only[j99x1];rfl
theorem c99(a0:G.O)(L n:Nat):CTp L (n+1) 99 [yR 2 a0]=F99 (CTp L n) L a0:=by rw[←e99];exact cg (x:=ii99) (by kernel_rfl) (by kernel_rfl) L n _
def aJK(c:TC0)(a0:G.Y):Rt:=
 obL [.bool] (c 124 [yR 1 a0]) fun(r0:Bool×Unit)=>
 some [yB r0.1]
def V100x0(n:Nt):G.Y→Rt:=fun x0=>n [yR 1 x0]
theorem s100x0:V100x0 (xF ii100 c e)=aJK c:=by kernel_rfl
def F100(c:TC0)(L:Nat):G.Y→Rt:=aJK c
theorem e100:V100x0 (xF ii100 c (cu c L))=F100 c L:=s100x0 _ _
theorem c100(a0:G.Y)(L n:Nat):CTp L (n+1) 100 [yR 1 a0]=F100 (CTp L n) L a0:=by rw[←e100];exact cg (x:=ii100) (by kernel_rfl) (by kernel_rfl) L n _
def q102x0(c:TC0)(e:Cu):Kt:=xK wX
def aFW(c:TC0)(e:Cu):Kt:=cH U0 0 (q102x0 c e)
def aJJ(c:TC0)(e1:Int→List UInt8→List G.K→G.X→Rt)(a0:List UInt8):Rt:=
 cnd (decide ((6000:Int)<(List.length a0:Int))) (obL [.rc 17] (c 103 [yI (2:Int),yI (0:Int)]) fun(r0:G.X×Unit)=>
 some [yS 18 ([]:List G.K),yR 17 r0.1]) (e1 (0:Int) a0 ([]:List G.K) (G.X.mk (0:Int) (0:Int)))
def V102x0(n:Nt):List UInt8→Rt:=fun x0=>n [yT x0]
def aDV(c:TC0)(n1:Int→List UInt8→List G.K→G.X→Rt)(a5:Int)(a0:List UInt8)(a4:List G.K)(b103:G.X):Rt:=
 obL [i6,.bool] (c 126 [yT a0,yI a5]) fun(r0:Int×Bool×Unit)=>
 cnd (!r0.2.1) (obL [.rc 17] (c 103 [yI (11:Int),yI (List.length a0:Int)]) fun(r1:G.X×Unit)=>
 some [yS 18 ([]:List G.K),yR 17 r1.1]) (cnd (decide ((List.length a0:Int)≤r0.1)) (chk (Nat.ble ((List.length a4+List.length ([(G.K.mk (0:Int) (List.length a0:Int) ([]:List UInt8) ([]:List UInt8) ([]:List UInt8))]:List G.K))*64) 1073741824)<|
 some [yS 18 (a4++([(G.K.mk (0:Int) (List.length a0:Int) ([]:List UInt8) ([]:List UInt8) ([]:List UInt8))]:List G.K)),yR 17 (G.X.mk (0:Int) (0:Int))]) (obL [.rc 18,i6,.rc 17] (c 127 [yT a0,yI r0.1]) fun(r2:G.K×Int×G.X×Unit)=>
 cnd (!decide (r2.2.2.1.err=(0:Int))) (some [yS 18 ([]:List G.K),yR 17 r2.2.2.1]) (chk (Nat.ble ((List.length a4+List.length ([r2.1]:List G.K))*64) 1073741824)<|
 n1 r2.2.1 a0 (a4++([r2.1]:List G.K)) b103)))
def aDI(n:Nt):Int→List UInt8→List G.K→G.X→Rt:=fun x0 x1 x2 x3=>n [yI x0,yT x1,yS 18 x2,yR 17 x3]
def X102x1:=aDI (xE wX e [1,1,1,1,0,0] qA (aFW c e))
theorem s102x0:V102x0 (xF wX c e)=aJJ c (X102x1 c e):=by kernel_rfl
theorem s102x1(n1:Nt):aDI (xA wX c e [1,1,1,1,0,0] qA (lpK U0 qA n1 (aFW c e)))=aDV c (aDI n1):=by kernel_rfl
def qP(c:TC0)(L:Nat):Nat→Int→List UInt8→List G.K→G.X→Rt
 |0=>fun _ _ _ _=>none
 |n+1=>aDV c (qP c L n)
theorem u102x1(n:Nat):aDI (xL wX c L [1,1,1,1,0,0] qA (aFW c (cu c L)) n)=qP c L n:=by
 induction n with
 |zero=>rfl
 |succ n ih=>rw[fA,s102x1];simp only[ih];rfl
theorem w102x1:X102x1 c (cu c L)=qP c L L:=u102x1 c L L
def F102(c:TC0)(L:Nat):List UInt8→Rt:=aJJ c (qP c L L)
theorem e102:V102x0 (xF wX c (cu c L))=F102 c L:=by rw[s102x0];simp only[w102x1];rfl
theorem c102(a0:List UInt8)(L n:Nat):CTp L (n+1) 102 [yT a0]=F102 (CTp L n) L a0:=by rw[←e102];exact cg (x:=wX) (by kernel_rfl) (by kernel_rfl) L n _
def q104x0(c:TC0)(e:Cu):Kt:=xK rA
def q104x1(c:TC0)(e:Cu):Kt:=xT rA c e [1,1,1,1] (q104x0 c e)
def aCk(c:TC0)(e:Cu):Kt:=cH U0 0 (q104x1 c e)
def B104x0(c:TC0)(k1:Bool→Int→Int→G.P→G.K→G.O→G.O→G.X→Rt)(a1:Int)(b0:G.P):Rt:=
 ob (idx b0.t b0.pos) fun v0=>
 cnd (decide (v0.kind=(0:Int))) (obL [.rc 17] (c 103 [yI (11:Int),yI v0.pos]) fun(r1:G.X×Unit)=>
 some [yR 2 (G.O.mk (0:Int) ([]:List UInt8) ([]:List UInt8) (G.Y.mk ([]:List UInt8) ([]:List UInt8)) ([]:List UInt8) ([]:List G.O)),yR 17 r1.1,yR 19 b0]) (cnd (decide (v0.kind=(2:Int))) (k1 (decide (v0.kind=(2:Int))) v0.kind a1 b0 v0 (G.O.mk (0:Int) ([]:List UInt8) ([]:List UInt8) (G.Y.mk ([]:List UInt8) ([]:List UInt8)) ([]:List UInt8) ([]:List G.O)) (G.O.mk (0:Int) ([]:List UInt8) ([]:List UInt8) (G.Y.mk ([]:List UInt8) ([]:List UInt8)) ([]:List UInt8) ([]:List G.O)) (G.X.mk (0:Int) (0:Int))) (k1 (decide (v0.kind=(3:Int))) v0.kind a1 b0 v0 (G.O.mk (0:Int) ([]:List UInt8) ([]:List UInt8) (G.Y.mk ([]:List UInt8) ([]:List UInt8)) ([]:List UInt8) ([]:List G.O)) (G.O.mk (0:Int) ([]:List UInt8) ([]:List UInt8) (G.Y.mk ([]:List UInt8) ([]:List UInt8)) ([]:List UInt8) ([]:List G.O)) (G.X.mk (0:Int) (0:Int))))
def V104x0(n:Nt):Int→G.P→Rt:=fun x0 x1=>n [yI x0,yR 19 x1]
def B104x1(c:TC0)(k2:List UInt8→G.P→G.O→G.K→G.O→G.X→Rt)(a31:Bool)(a24:Int)(a1:Int)(b0:G.P)(b106:G.K)(b107:G.O)(b104:G.O)(b105:G.X):Rt:=
 cnd a31 (obL [.rc 17] (c 103 [yI (12:Int),yI b106.pos]) fun(r0:G.X×Unit)=>
 some [yR 2 b107,yR 17 r0.1,yR 19 b0]) (cnd (decide (a24=(5:Int))) (some [yR 2 (G.O.mk (1:Int) b106.text b106.den (G.Y.mk ([]:List UInt8) ([]:List UInt8)) ([]:List UInt8) ([]:List G.O)),yR 17 (G.X.mk (0:Int) (0:Int)),yR 19 (G.P.mk b0.l b0.current b0.t (IntKind.i64.wrap (b0.pos+(1:Int))))]) (cnd (decide (a24=(7:Int))) (obL [.rc 2] (c 81 [yT b106.text]) fun(r1:G.O×Unit)=>
 some [yR 2 r1.1,yR 17 (G.X.mk (0:Int) (0:Int)),yR 19 (G.P.mk b0.l b0.current b0.t (IntKind.i64.wrap (b0.pos+(1:Int))))]) (cnd (decide (a24=(6:Int))) (cnd (decide (b106.package=([]:List UInt8))) (k2 b0.current (G.P.mk b0.l b0.current b0.t (IntKind.i64.wrap (b0.pos+(1:Int)))) b107 b106 b104 b105) (k2 b106.package (G.P.mk b0.l b0.current b0.t (IntKind.i64.wrap (b0.pos+(1:Int)))) b107 b106 b104 b105)) (cnd (decide ((200:Int)<a1)) (obL [.rc 17] (c 103 [yI (2:Int),yI b106.pos]) fun(r2:G.X×Unit)=>
 some [yR 2 b107,yR 17 r2.1,yR 19 b0]) (cnd (decide (b106.kind=(4:Int))) (obL [.rc 2,.rc 17,.rc 19] (c 104 [yI (IntKind.i64.wrap (a1+(1:Int))),yR 19 (G.P.mk b0.l b0.current b0.t (IntKind.i64.wrap (b0.pos+(1:Int))))]) fun(r3:G.O×G.X×G.P×Unit)=>
 cnd (!decide (r3.2.1.err=(0:Int))) (some [yR 2 b107,yR 17 r3.2.1,yR 19 r3.2.2.1]) (obL [.rc 1] (c 33 [yT ([113,117,111,116,101]:List UInt8)]) fun(r4:G.Y×Unit)=>
 obL [.rc 2] (c 80 [yR 1 r4.1]) fun(r5:G.O×Unit)=>
 obL [.rc 2] (c 83 [yS 2 ([r5.1,r3.1]:List G.O)]) fun(r6:G.O×Unit)=>
 some [yR 2 r6.1,yR 17 r3.2.1,yR 19 r3.2.2.1])) (obL [.rc 2,.rc 17,.rc 19] (c 128 [yI (IntKind.i64.wrap (a1+(1:Int))),yR 19 (G.P.mk b0.l b0.current b0.t (IntKind.i64.wrap (b0.pos+(1:Int))))]) fun(r7:G.O×G.X×G.P×Unit)=>
 some [yR 2 r7.1,yR 17 r7.2.1,yR 19 r7.2.2.1]))))))
def V104x1(n:Nt):Bool→Int→Int→G.P→G.K→G.O→G.O→G.X→Rt:=fun x0 x1 x2 x3 x4 x5 x6 x7=>n [yB x0,yI x1,yI x2,yR 19 x3,yR 18 x4,yR 2 x5,yR 2 x6,yR 17 x7]
def aIF:=V104x1 (xD rA e [1,1,1,0,1,0,1,1,1,0] aBk (aCk c e))
def B104x2(c:TC0)(a8:List UInt8)(b0:G.P)(b107:G.O)(b106:G.K)(b104:G.O)(b105:G.X):Rt:=
 obL [.rc 1,i6] (c 129 [yS 5 b0.l,yT a8,yT b106.text]) fun(r0:G.Y×Int×Unit)=>
 cnd (!decide (r0.2.1=(0:Int))) (obL [.rc 17] (c 103 [yI r0.2.1,yI b106.pos]) fun(r1:G.X×Unit)=>
 some [yR 2 b107,yR 17 r1.1,yR 19 b0]) (obL [.rc 2] (c 80 [yR 1 r0.1]) fun(r2:G.O×Unit)=>
 some [yR 2 r2.1,yR 17 (G.X.mk (0:Int) (0:Int)),yR 19 b0])
def V104x2(n:Nt):List UInt8→G.P→G.O→G.K→G.O→G.X→Rt:=fun x0 x1 x2 x3 x4 x5=>n [yT x0,yR 19 x1,yR 2 x2,yR 18 x3,yR 2 x4,yR 17 x5]
def aIE:=V104x2 (xD rA e [1,1,1,0,1,0,1,1,1,0,1,1,1,1,1,1,0,1,1,1,0] aBj (aCk c e))
theorem s104x0:V104x0 (xF rA c e)=B104x0 c (aIF c e):=by kernel_rfl
theorem s104x1:V104x1 (xA rA c e [1,1,1,0,1,0,1,1,1,0] aBk (aCk c e))=B104x1 c (aIE c e):=by kernel_rfl
theorem s104x2:V104x2 (xA rA c e [1,1,1,0,1,0,1,1,1,0,1,1,1,1,1,1,0,1,1,1,0] aBj (aCk c e))=B104x2 c:=by kernel_rfl
def J104x2(c:TC0)(L:Nat):List UInt8→G.P→G.O→G.K→G.O→G.X→Rt:=B104x2 c
theorem j104x2:aIE c (cu c L)=J104x2 c L:=by rw[aIE,aL,s104x2];rfl
def J104x1(c:TC0)(L:Nat):Bool→Int→Int→G.P→G.K→G.O→G.O→G.X→Rt:=B104x1 c (J104x2 c L)
theorem j104x1:aIF c (cu c L)=J104x1 c L:=by rw[aIF,aL,s104x1];simp only[j104x2];rfl
def F104(c:TC0)(L:Nat):Int→G.P→Rt:=B104x0 c (J104x1 c L)
theorem e104:V104x0 (xF rA c (cu c L))=F104 c L:=by rw[s104x0];simp only[j104x1];rfl
theorem c104(a1:Int)(b0:G.P)(L n:Nat):CTp L (n+1) 104 [yI a1,yR 19 b0]=F104 (CTp L n) L a1 b0:=by rw[←e104];exact cg (x:=rA) (by kernel_rfl) (by kernel_rfl) L n _
end
end Go.TV
namespace Go.TV
open Go.AI Go.PI Go.Proofs
theorem slc_nat{α:Type}{s w r:List α}{k:Nat}(h:s.drop k=w++r)(hk:k≤s.length):slc s (k:Int) ((k+w.length:Nat):Int)=some w:=by
 have hl:=congrArg List.length h;simp at hl;unfold slc;have e1:decide ((0:Int)≤(k:Int))=true:=by simp
 have e2:decide ((k:Int)≤((k+w.length:Nat):Int))=true:=by simp;omega
 have e3:decide (((k+w.length:Nat):Int)≤(s.length:Int))=true:=by simp only[djE];omega
 rw[e1,e2,e3];simp only[Bool.and_self,cdt,Int.toNat_natCast,ojE];rw[List.drop_take,h];simp
theorem obL_nm{β:Type}{a b:List UInt8}{d:Bool}{K:List UInt8×List UInt8×Bool×Unit→Option β}:obL (D:=U0.D) [.str,.str,.bool] (some [yT a,yT b,yB d]) K=K (a,b,d,()):=rfl
theorem obL_se{β:Type}{a:G.X}{K:G.X×Unit→Option β}:obL (D:=U0.D) [.rc 17] (some [yR 17 a]) K=K (a,()):=rfl
theorem aCB{β:Type}{a:Int}{b:Bool}{K:Int×Bool×Unit→Option β}:obL (D:=U0.D) [.int .i64,.bool] (some [yI a,yB b]) K=K (a,b,()):=rfl
theorem obL_i{β:Type}{a:Int}{K:Int×Unit→Option β}:obL (D:=U0.D) [.int .i64] (some [yI a]) K=K (a,()):=rfl
theorem obL_s{β:Type}{a:List UInt8}{K:List UInt8×Unit→Option β}:obL (D:=U0.D) [.str] (some [yT a]) K=K (a,()):=rfl
theorem obL_s2{β:Type}{a b:List UInt8}{K:List UInt8×List UInt8×Unit→Option β}:obL (D:=U0.D) [.str,.str] (some [yT a,yT b]) K=K (a,b,()):=rfl
theorem obL_on{β:Type}{a:G.K}{b:Int}{d:G.X}{K:G.K×Int×G.X×Unit→Option β}:obL (D:=U0.D) [.rc 18,.int .i64,.rc 17] (some [yR 18 a,yI b,yR 17 d]) K=K (a,b,d,()):=rfl
theorem Nm_no{x:UInt8}{w:List UInt8}(h1:u8 x≠45)(h2:u8 x<48∨57<u8 x)(L n:Nat):CTp (L+1) (n+1) 159 [yT (x::w)]=some [yT [],yT [],yB false]:=by
 rw[c159];have e1:decide ((0:Int)<((x::w).length:Int))=true:=by simp
 have e2:decide ((x.toNat:Int)=45)=false:=by simpa [u8]using h1
 have e3:idx (x::w) (0:Int)=some x:=rfl;rw[F159,aJf,e1,aF,e3,bW,e2,aIV,aJe,aE,aIU,aJd,sO,aJc,e1,aF,e3,bW];have key: ∀b:Bool,b=false→aIT (CTp (L+1) n) (L+1) (sO (CTp (L+1) n) (L+1) L) b 0 (x::w) 0=some [yT [],yT [],yB false]:=by
  intro b hb;subst hb;rfl
 cases h3:decide ((48:Int)≤(x.toNat:Int))with
 |false=>exact key _ rfl
 |true=>
  rw[aF,bW];have h4:decide ((x.toNat:Int)≤(57:Int))=false:=by
   simp only[djE]at h3;simp only[dfN];simp only[u8]at h2;omega
  exact key _ h4
theorem Nd_ok{k p:Int}{w:List UInt8}(h:w.length≤40)(L n:Nat):CTp L (n+1) 155 [yR 18 ⟨k,p,[],w,[]⟩,yB false]=some [yR 17 ⟨0,0⟩]:=by
 rw[c155];have e1:decide ((40:Int)<(w.length:Int))=false:=by simp;omega
 simp only[F155,aJj,e1,aE];rfl
structure NumW(c:TC0)(w:List UInt8):Prop where
 a:c 159 [yT w]=some [yT w,yT [49],yB true]
 b:c 160 [yT [49]]=some [yT [49]]
 d:c 160 [yT w]=some [yT w]
 e:c 112 [yT w,yT [49]]=some [yT w,yT [49]]
 f:c 150 [yT w]=some [yI 1]
 g:c 150 [yT [49]]=some [yI 1]
def SyW(w:List UInt8):Prop:= ∃x l,w=x::l∧u8 x≠45∧(u8 x<48∨57<u8 x)∧w≠ [46]∧w.length≤40
theorem aHC{x:Int}(h:csI x=true):x≠40∧x≠41∧x≠39∧x≠34∧x≠59∧x≠124∧x≠58:=by
 simp only[csI,bjE,Bool.not_eq_true',dfN]at h;obtain⟨⟨⟨⟨⟨⟨⟨_,h1⟩,h2⟩,h3⟩,h4⟩,h5⟩,h6⟩,h7⟩:=h;exact⟨h1,h2,h3,h4,h5,h6,h7⟩
def wtk(b:Bool)(p:Int)(w:List UInt8):G.K:=bif b then⟨5,p,[],w,[49]⟩else⟨6,p,[],w,[]⟩
theorem On_w{s w r:List UInt8}{k L n:Nat}{nu:Bool}(hb:s.length<1000000000)(hL:s.length<L)(h:s.drop k=w++r)(h0:w≠ [])(hw: ∀x∈w,csI (u8 x)=true)(hr: ∀y,r.head?=some y→csI (u8 y)=false∧u8 y≠58)
    (hk:(nu=true∧NumW (CTp L (n+2)) w)∨(nu=false∧SyW w)):
    CTp L (n+3) 127 [yT s,yI (k:Int)]=some [yR 18 (wtk nu (k:Int) w),yI ((k+w.length:Nat):Int),yR 17 ⟨0,0⟩]:=by
 have hl:=congrArg List.length h;simp at hl;obtain⟨L,rfl⟩: ∃L',L=L'+1:=⟨L-1,by omega⟩
 cases hw0:w with
 |nil=>exact(h0 hw0).elim
 |cons x l=>
  rw[←hw0];have hx:x∈w:=by rw[hw0];exact mhE ..
  have h1:s.drop k=x::(l++r):=by rw[h,hw0];rfl
  obtain⟨a1,a2,a3⟩:=aO h1;obtain⟨q1,q2,q3,q4,q5,q6,q7⟩:=aHC (hw x hx);have d1:decide ((x.toNat:Int)=40)=false:=by simpa [u8]using q1
  have d2:decide ((x.toNat:Int)=41)=false:=by simpa [u8]using q2
  have d3:decide ((x.toNat:Int)=39)=false:=by simpa [u8]using q3
  have d4:decide ((x.toNat:Int)=34)=false:=by simpa [u8]using q4
  have d5:decide ((x.toNat:Int)=124)=false:=by simpa [u8]using q6
  have d6:csI (x.toNat:Int)=true:=hw x hx;have hwd:=Wd_ok (n:=n) hb hL h hw (fun y hy=>(hr y hy).1)
  have hsl:=slc_nat h (by omega)
  have hhs:CTp (L+1) (n+2) 153 [yT s,yI ((k+w.length:Nat):Int),⟨.int .u8,(58:Int)⟩,⟨.int .u8,(58:Int)⟩]=some [yB false]:=by
   refine has_no hb (by omega) (fun y hy=>?_) (L+1) (n+1)
   have:s.drop (k+w.length)=r:=by rw[←List.drop_drop,h];simp
   rw[←List.head?_drop,this]at hy;exact(hr y hy).2
  show CTp (L+1) (n+2+1) 127 _=_;rw[c127,F127,zN,aJ,a1,bW,d1,aE,d2,aE,d3,aE,d4,aE,d5,aE,Cs_ok,bB,d6];simp only[bnT,aE];rw[hwd,obL_i];show ob (slc s (k:Int) ((k+w.length:Nat):Int)) _=_;rw[hsl,bW,hhs,bB,aE];rcases hk with⟨rfl,hn⟩|⟨rfl,x',l',e1,e2,e3,e4,e5⟩
  ·rw[hn.a,obL_nm];have e4:decide (w=([46]:List UInt8))=false:=by
    cases hd:decide (w=([46]:List UInt8))with
    |false=>rfl
    |true=>
     exfalso;simp only[djE]at hd;have h2:=hn.a;rw[hd]at h2;rw[Nm_no (x:=46) (w:=[]) (by decide) (by decide)]at h2
     cases h2
   rw[e4,aE];simp only[aF];rw[hn.b,obL_s];show cnd (decide (([49]:List UInt8)=[48])) _ _=_;rw[show decide (([49]:List UInt8)=[48])=false by decide,aE,hn.d,obL_s,obL_s]
   show obL (D:=U0.D) [.str,.str] (CTp (L+1) (n+2) 112 [yT w,yT [49]]) _=_;rw[hn.e,obL_s2];show obL (D:=U0.D) [.int .i64] (CTp (L+1) (n+2) 150 [yT w]) _=_;rw[hn.f,obL_i];show cnd (decide ((100:Int)<1)) _ _=_;rw[show decide ((100:Int)<1)=false by decide,aE]
   show obL (D:=U0.D) [.int .i64] (CTp (L+1) (n+2) 150 [yT [49]]) _=_;rw[hn.g,obL_i];rfl
  ·rw[e1,Nm_no e2 e3,←e1,obL_nm];have e6:decide (w=([46]:List UInt8))=false:=by simpa using e4
   rw[e6,aE];simp only[aE];rw[Nd_ok e5,obL_se];rfl
theorem On_op{s r:List UInt8}{k L n:Nat}(hb:s.length<1000000000)(h:s.drop k=40::r):CTp L (n+1) 127 [yT s,yI (k:Int)]=some [yR 18 ⟨1,(k:Int),[],[],[]⟩,yI ((k+1:Nat):Int),yR 17 ⟨0,0⟩]:=by
 obtain⟨a1,a2,a3⟩:=aO h;rw[c127,F127,zN,aJ,a1,bW,cR (by omega)]
 rfl
theorem On_cl{s r:List UInt8}{k L n:Nat}(hb:s.length<1000000000)(h:s.drop k=41::r):CTp L (n+1) 127 [yT s,yI (k:Int)]=some [yR 18 ⟨2,(k:Int),[],[],[]⟩,yI ((k+1:Nat):Int),yR 17 ⟨0,0⟩]:=by
 obtain⟨a1,a2,a3⟩:=aO h;rw[c127,F127,zN,aJ,a1,bW,cR (by omega)]
 rfl
end Go.TV
namespace Go.TV
open Go.AI Go.PI Go.Proofs
theorem obL_lr{β:Type}{b:List G.R}{K:List G.R×Unit→Option β}:obL (D:=U0.D) [.sl (.rc 21)] (some [yS 21 b]) K=K (b,()):=rfl
def rowsL:List G.R:=match aJH (fun _ _=>none)with
 |some l=>(match dE (D:=U0.D) [.sl (.rc 21)] l with|some r=>r.1|none=>[])
 |none=>[]
theorem rows_ok{L n:Nat}:CTp L (n+1) 109 []=some [yS 21 rowsL]:=by
 rw[c109];rfl
theorem rows_len:rowsL.length<1000:=by decide+kernel
def qG(s:List UInt8):List G.R→Option Int
 |[]=>none
 |r::l=>if r.name=s then some r.arity else qG s l
def arity(s:G.Y):Option Int:=if s.package=eY then qG s.name rowsL else none
def oI(o:Option Int):TVs:=match o with
 |some k=>[yI k,yB true]
 |none=>[yI (0:Int),yB false]
theorem Ar_loop{c:TC0}{L:Nat}{t:G.Y}{a:List G.R}(hb:a.length<1000000000): ∀(l:List G.R) (k m:Nat),a.drop k=l→l.length<m→
    aBx c L m a (k:Int) t=some (oI (qG t.name l)):=by
 intro l;induction l with
 |nil=>
  intro k m h1 h3;obtain⟨m,rfl⟩: ∃m',m=m'+1:=⟨m-1,by simp at h3;omega⟩
  have e1:=aN h1;have e3:decide ((k:Int)<(a.length:Int))=false:=by simp;omega
  rw[aBx,B84x1,e3,aE];rfl
 |cons x l ih=>
  intro k m h1 h3;obtain⟨m,rfl⟩: ∃m',m=m'+1:=⟨m-1,by simp at h3;omega⟩
  obtain⟨a1,a2,a3⟩:=aO h1;have e3:decide ((k:Int)<(a.length:Int))=true:=by simp;omega
  rw[aBx,B84x1,e3,aF,aJ,a1,bW,cR (by omega),qG]
  by_cases e:x.name=t.name
  ·simp only[e,decide_true,aF,bW,if_true,oI]
  ·simp only[e,decide_false,aE,if_false];exact ih (k+1) m a3 (by simp at h3;omega)
theorem ArR_ok(s:G.Y)(L n:Nat)(hL:1000≤L):CTp L (n+2) 84 [yR 1 s]=some (oI (arity s)):=by
 have hl:=rows_len;rw[c84,F84,B84x0];by_cases e:s.package=eY
 ·have e':decide (s.package=([108,105,115,112]:List UInt8))=true:=decide_eq_true e;have ea:arity s=qG s.name rowsL:=by simp[arity,e]
  rw[e',ea,rows_ok,obL_lr];exact Ar_loop (a:=rowsL) (by omega) rowsL 0 L rfl (by omega)
 ·have e':decide (s.package=([108,105,115,112]:List UInt8))=false:=decide_eq_false e;have ea:arity s=none:=by simp[arity,e]
  rw[e',ea];rfl
end Go.TV
