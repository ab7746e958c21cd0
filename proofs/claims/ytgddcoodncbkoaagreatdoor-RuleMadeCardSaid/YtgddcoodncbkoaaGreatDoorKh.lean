import Derived.Test.YtgddcoodncbkoaaGreatDoorKg
import Derived.Test.YtgddcoodncbkoaaGreatDoorProg
import Derived.Lib.Bytealg
set_option linter.unusedVariables false
set_option linter.unusedSimpArgs false
set_option linter.constructorNameAsVariable false
set_option linter.defProp false
namespace Go.TV
abbrev zS(n:Nat):Ty:= .sl (.rc n)
abbrev i6:Ty:= .int .i64
end Go.TV
namespace Go.TV
open Go.AI Go.PI
namespace G
structure Z where
 b:(List Int)
 pos:Int
structure Y where
 package:(List UInt8)
 name:(List UInt8)
inductive O where
 |mk (kind:Int) (num:(List UInt8)) (den:(List UInt8)) (sym:Y) (text:(List UInt8)) (pair:(List O))
def O.kind:O->Int|⟨x,_,_,_,_,_⟩=>x
def O.num:O->(List UInt8)|⟨_,x,_,_,_,_⟩=>x
def O.den:O->(List UInt8)|⟨_,_,x,_,_,_⟩=>x
def O.sym:O->Y|⟨_,_,_,x,_,_⟩=>x
def O.text:O->(List UInt8)|⟨_,_,_,_,x,_⟩=>x
def O.pair:O->(List O)|⟨_,_,_,_,_,x⟩=>x
inductive T where
 |mk (kind:Int) (name:Y) (value:O) (args:(List T))
def T.kind:T->Int|⟨x,_,_,_⟩=>x
def T.name:T->Y|⟨_,x,_,_⟩=>x
def T.value:T->O|⟨_,_,x,_⟩=>x
def T.args:T->(List T)|⟨_,_,_,x⟩=>x
structure Q where
 a0:Y
 a1:Y
structure U where
 name:Y
 cls:Int
 hyps:(List T)
 equiv:Y
 left:T
 right:T
 terms:(List T)
 tset:Int
 stops:(List Q)
 arg:Int
 inner:Y
structure L where
 name:(List UInt8)
 formula:T
 cls:Int
structure I where
 var:Y
 term:T
structure F where
 name:Y
 params:(List Y)
 cls:Int
 guard:T
 body:T
 measure:T
structure A where
 name:(List UInt8)
 imports:(List Y)
structure M where
 name:Y
 params:(List Y)
 rest:Bool
 body:T
structure D where
 name:Y
 length:Int
 initial:O
structure B where
 name:Y
 fields:(List D)
structure C where
 tests:(List T)
 substs:(List (List I))
structure J where
 name:Y
 params:(List Y)
 body:T
structure N where
 rule:Int
 a:Int
 b:Int
 name:Y
 term:T
 measure:T
 clause:(List T)
 subst:(List I)
 lines:(List Int)
 cases:(List C)
 functional:(List J)
 weights:(List O)
inductive E where
 |mk (kind:Int) (name:Y) (package:A) (mac:M) (functions:(List F)) (formulas:(List T)) (logs:(List (List N))) (locl:(List E)) (stobj:B) (rules:(List U)) (enabled:(List Y)) (disabled:(List Y)) (text:(List UInt8)) (hash:Int)
def E.kind:E->Int|⟨x,_,_,_,_,_,_,_,_,_,_,_,_,_⟩=>x
def E.name:E->Y|⟨_,x,_,_,_,_,_,_,_,_,_,_,_,_⟩=>x
def E.package:E->A|⟨_,_,x,_,_,_,_,_,_,_,_,_,_,_⟩=>x
def E.mac:E->M|⟨_,_,_,x,_,_,_,_,_,_,_,_,_,_⟩=>x
def E.functions:E->(List F)|⟨_,_,_,_,x,_,_,_,_,_,_,_,_,_⟩=>x
def E.formulas:E->(List T)|⟨_,_,_,_,_,x,_,_,_,_,_,_,_,_⟩=>x
def E.logs:E->(List (List N))|⟨_,_,_,_,_,_,x,_,_,_,_,_,_,_⟩=>x
def E.locl:E->(List E)|⟨_,_,_,_,_,_,_,x,_,_,_,_,_,_⟩=>x
def E.stobj:E->B|⟨_,_,_,_,_,_,_,_,x,_,_,_,_,_⟩=>x
def E.rules:E->(List U)|⟨_,_,_,_,_,_,_,_,_,x,_,_,_,_⟩=>x
def E.enabled:E->(List Y)|⟨_,_,_,_,_,_,_,_,_,_,x,_,_,_⟩=>x
def E.disabled:E->(List Y)|⟨_,_,_,_,_,_,_,_,_,_,_,x,_,_⟩=>x
def E.text:E->(List UInt8)|⟨_,_,_,_,_,_,_,_,_,_,_,_,x,_⟩=>x
def E.hash:E->Int|⟨_,_,_,_,_,_,_,_,_,_,_,_,_,x⟩=>x
structure X where
 err:Int
 pos:Int
structure R where
 name:(List UInt8)
 arity:Int
structure K where
 kind:Int
 pos:Int
 package:(List UInt8)
 text:(List UInt8)
 den:(List UInt8)
structure P where
 l:(List A)
 current:(List UInt8)
 t:(List K)
 pos:Int
structure V where
 w:(List E)
 extra:(List F)
 left:Int
structure Integer where
 negative:Bool
 limbs:(List Int)
deriving instance DecidableEq for Y
deriving instance DecidableEq for Q
def eSource(x:Z):List PV:=[eD 1 (List.map (λn=>PV.v (.int .u8 n)) x.b)]++ [.v (.int .i64 x.pos)]
def aOH(l:List Z):List PV:=l.map λx=> .agg (eSource x)
def lSource_map(l:List Z):aOH l=l.map λx=> .agg (eSource x):=rfl
def eSymbol(x:Y):List PV:=[.str x.package]++ [.str x.name]
def sD(l:List Y):List PV:=l.map λx=> .agg (eSymbol x)
def lSymbol_map(l:List Y):sD l=l.map λx=> .agg (eSymbol x):=rfl
mutual
def eObject:O->List PV
 |⟨x0,x1,x2,x3,x4,x5⟩=>[.v (.int .i64 x0)]++ [.str x1]++ [.str x2]++eSymbol x3++ [.str x4]++ [eD 7 (vI x5)]
def vI:List O->List PV
 |[]=>[]
 |x::l=> .agg (eObject x)::vI l
end
def lObject_map(l:List O):vI l=l.map λx=> .agg (eObject x):=by
 induction l with
 |nil=>simp only[vI,List.map_nil]
 |cons x l ih=>simp only[vI,ih,aO]
mutual
def eTerm:T->List PV
 |⟨x0,x1,x2,x3⟩=>[.v (.int .i64 x0)]++eSymbol x1++eObject x2++ [eD 11 (wX x3)]
def wX:List T->List PV
 |[]=>[]
 |x::l=> .agg (eTerm x)::wX l
end
def lTerm_map(l:List T):wX l=l.map λx=> .agg (eTerm x):=by
 induction l with
 |nil=>simp only[wX,List.map_nil]
 |cons x l ih=>simp only[wX,ih,aO]
def ePairSymbol(x:Q):List PV:=eSymbol x.a0++eSymbol x.a1
def Ca(l:List Q):List PV:=l.map λx=> .agg (ePairSymbol x)
def lPairSymbol_map(l:List Q):Ca l=l.map λx=> .agg (ePairSymbol x):=rfl
def eRule(x:U):List PV:=eSymbol x.name++ [.v (.int .i64 x.cls)]++ [eD 11 (wX x.hyps)]++eSymbol x.equiv++eTerm x.left++eTerm x.right++ [eD 11 (wX x.terms)]++ [.v (.int .i64 x.tset)]++ [eD 4 (Ca x.stops)]++ [.v (.int .i64 x.arg)]++eSymbol x.inner
def aR9(l:List U):List PV:=l.map λx=> .agg (eRule x)
def lRule_map(l:List U):aR9 l=l.map λx=> .agg (eRule x):=rfl
def eLemma(x:L):List PV:=[.str x.name]++eTerm x.formula++ [.v (.int .i64 x.cls)]
def a1I(l:List L):List PV:=l.map λx=> .agg (eLemma x)
def lLemma_map(l:List L):a1I l=l.map λx=> .agg (eLemma x):=rfl
def eAssign(x:I):List PV:=eSymbol x.var++eTerm x.term
def Ks(l:List I):List PV:=l.map λx=> .agg (eAssign x)
def lAssign_map(l:List I):Ks l=l.map λx=> .agg (eAssign x):=rfl
def eFunction(x:F):List PV:=eSymbol x.name++ [eD 2 (sD x.params)]++ [.v (.int .i64 x.cls)]++eTerm x.guard++eTerm x.body++eTerm x.measure
def Bk(l:List F):List PV:=l.map λx=> .agg (eFunction x)
def lFunction_map(l:List F):Bk l=l.map λx=> .agg (eFunction x):=rfl
def ePackage(x:A):List PV:=[.str x.name]++ [eD 2 (sD x.imports)]
def Pz(l:List A):List PV:=l.map λx=> .agg (ePackage x)
def lPackage_map(l:List A):Pz l=l.map λx=> .agg (ePackage x):=rfl
def eMacro(x:M):List PV:=eSymbol x.name++ [eD 2 (sD x.params)]++ [.v (.bool x.rest)]++eTerm x.body
def a1H(l:List M):List PV:=l.map λx=> .agg (eMacro x)
def lMacro_map(l:List M):a1H l=l.map λx=> .agg (eMacro x):=rfl
def eField(x:D):List PV:=eSymbol x.name++ [.v (.int .i64 x.length)]++eObject x.initial
def aFH(l:List D):List PV:=l.map λx=> .agg (eField x)
def lField_map(l:List D):aFH l=l.map λx=> .agg (eField x):=rfl
def eStobj(x:B):List PV:=eSymbol x.name++ [eD 10 (aFH x.fields)]
def a1G(l:List B):List PV:=l.map λx=> .agg (eStobj x)
def lStobj_map(l:List B):a1G l=l.map λx=> .agg (eStobj x):=rfl
def eCase(x:C):List PV:=[eD 11 (wX x.tests)]++ [eD 1 (List.map (λl=>eD 13 (Ks l)) x.substs)]
def aSc(l:List C):List PV:=l.map λx=> .agg (eCase x)
def lCase_map(l:List C):aSc l=l.map λx=> .agg (eCase x):=rfl
def eLambda(x:J):List PV:=eSymbol x.name++ [eD 2 (sD x.params)]++eTerm x.body
def XD(l:List J):List PV:=l.map λx=> .agg (eLambda x)
def lLambda_map(l:List J):XD l=l.map λx=> .agg (eLambda x):=rfl
def eLine(x:N):List PV:=[.v (.int .i64 x.rule)]++ [.v (.int .i64 x.a)]++ [.v (.int .i64 x.b)]++eSymbol x.name++eTerm x.term++eTerm x.measure++ [eD 11 (wX x.clause)]++ [eD 13 (Ks x.subst)]++ [eD 1 (List.map (λn=>PV.v (.int .i64 n)) x.lines)]++ [eD 2 (aSc x.cases)]++ [eD 14 (XD x.functional)]++ [eD 7 (vI x.weights)]
def aSb(l:List N):List PV:=l.map λx=> .agg (eLine x)
def lLine_map(l:List N):aSb l=l.map λx=> .agg (eLine x):=rfl
mutual
def eEntry:E->List PV
 |⟨x0,x1,x2,x3,x4,x5,x6,x7,x8,x9,x10,x11,x12,x13⟩=>[.v (.int .i64 x0)]++eSymbol x1++ePackage x2++eMacro x3++ [eD 37 (Bk x4)]++ [eD 11 (wX x5)]++ [eD 1 (List.map (λl=>eD 33 (aSb l)) x6)]++ [eD 32 (Bl x7)]++eStobj x8++ [eD 34 (aR9 x9)]++ [eD 2 (sD x10)]++ [eD 2 (sD x11)]++ [.str x12]++ [.v (.int .u64 x13)]
def Bl:List E->List PV
 |[]=>[]
 |x::l=> .agg (eEntry x)::Bl l
end
def lEntry_map(l:List E):Bl l=l.map λx=> .agg (eEntry x):=by
 induction l with
 |nil=>simp only[Bl,List.map_nil]
 |cons x l ih=>simp only[Bl,ih,aO]
def eSourceError(x:X):List PV:=[.v (.int .i64 x.err)]++ [.v (.int .i64 x.pos)]
def Kr(l:List X):List PV:=l.map λx=> .agg (eSourceError x)
def lSourceError_map(l:List X):Kr l=l.map λx=> .agg (eSourceError x):=rfl
def eRow(x:R):List PV:=[.str x.name]++ [.v (.int .i64 x.arity)]
def bLL(l:List R):List PV:=l.map λx=> .agg (eRow x)
def lRow_map(l:List R):bLL l=l.map λx=> .agg (eRow x):=rfl
def eToken(x:K):List PV:=[.v (.int .i64 x.kind)]++ [.v (.int .i64 x.pos)]++ [.str x.package]++ [.str x.text]++ [.str x.den]
def aFF(l:List K):List PV:=l.map λx=> .agg (eToken x)
def lToken_map(l:List K):aFF l=l.map λx=> .agg (eToken x):=rfl
def eParser(x:P):List PV:=[eD 2 (Pz x.l)]++ [.str x.current]++ [eD 5 (aFF x.t)]++ [.v (.int .i64 x.pos)]
def aOI(l:List P):List PV:=l.map λx=> .agg (eParser x)
def lParser_map(l:List P):aOI l=l.map λx=> .agg (eParser x):=rfl
def eTranslator(x:V):List PV:=[eD 32 (Bl x.w)]++ [eD 37 (Bk x.extra)]++ [.v (.int .i64 x.left)]
def Py(l:List V):List PV:=l.map λx=> .agg (eTranslator x)
def lTranslator_map(l:List V):Py l=l.map λx=> .agg (eTranslator x):=rfl
def eInteger(x:Integer):List PV:=[.v (.bool x.negative)]++ [eD 1 (List.map (λn=>PV.v (.int .u32 n)) x.limbs)]
def aFG(l:List Integer):List PV:=l.map λx=> .agg (eInteger x)
def lInteger_map(l:List Integer):aFG l=l.map λx=> .agg (eInteger x):=rfl
end G
@[reducible] def D0:Nat->Type
 |0=>G.Z
 |1=>G.Y
 |2=>G.O
 |3=>G.T
 |4=>G.Q
 |5=>G.U
 |6=>G.L
 |7=>G.I
 |8=>G.F
 |9=>G.A
 |10=>G.M
 |11=>G.D
 |12=>G.B
 |13=>G.C
 |14=>G.J
 |15=>G.N
 |16=>G.E
 |17=>G.X
 |18=>G.R
 |19=>G.K
 |20=>G.P
 |21=>G.V
 |_+22=>G.Integer
def fs0:Nat->List Ty
 |0=>[(.sl (.int .u8)),i6]
 |1=>[.str,.str]
 |2=>[i6,.str,.str,.rc 1,.str,zS 2]
 |3=>[i6,.rc 1,.rc 2,zS 3]
 |4=>[.rc 1,.rc 1]
 |5=>[.rc 1,i6,zS 3,.rc 1,.rc 3,.rc 3,zS 3,i6,zS 4,i6,.rc 1]
 |6=>[.str,.rc 3,i6]
 |7=>[.rc 1,.rc 3]
 |8=>[.rc 1,zS 1,i6,.rc 3,.rc 3,.rc 3]
 |9=>[.str,zS 1]
 |10=>[.rc 1,zS 1,.bool,.rc 3]
 |11=>[.rc 1,i6,.rc 2]
 |12=>[.rc 1,zS 11]
 |13=>[zS 3,.sl (zS 7)]
 |14=>[.rc 1,zS 1,.rc 3]
 |15=>[i6,i6,i6,.rc 1,.rc 3,.rc 3,zS 3,zS 7,.sl i6,zS 13,zS 14,zS 2]
 |16=>[i6,.rc 1,.rc 9,.rc 10,zS 8,zS 3,.sl (zS 15),zS 16,.rc 12,zS 5,zS 1,zS 1,.str,(.int .u64)]
 |17=>[i6,i6]
 |18=>[.str,i6]
 |19=>[i6,i6,.str,.str,.str]
 |20=>[zS 9,.str,zS 19,i6]
 |21=>[zS 16,zS 8,i6]
 |_+22=>[.bool,(.sl (.int .u32))]
def oJ:(n:Nat)->D0 n->List (TV D0)
 |0,x=>[⟨(.sl (.int .u8)),G.Z.b x⟩,⟨i6,G.Z.pos x⟩]
 |1,x=>[⟨.str,G.Y.package x⟩,⟨.str,G.Y.name x⟩]
 |2,x=>[⟨i6,G.O.kind x⟩,⟨.str,G.O.num x⟩,⟨.str,G.O.den x⟩,⟨.rc 1,G.O.sym x⟩,⟨.str,G.O.text x⟩,⟨zS 2,G.O.pair x⟩]
 |3,x=>[⟨i6,G.T.kind x⟩,⟨.rc 1,G.T.name x⟩,⟨.rc 2,G.T.value x⟩,⟨zS 3,G.T.args x⟩]
 |4,x=>[⟨.rc 1,G.Q.a0 x⟩,⟨.rc 1,G.Q.a1 x⟩]
 |5,x=>[⟨.rc 1,G.U.name x⟩,⟨i6,G.U.cls x⟩,⟨zS 3,G.U.hyps x⟩,⟨.rc 1,G.U.equiv x⟩,⟨.rc 3,G.U.left x⟩,⟨.rc 3,G.U.right x⟩,⟨zS 3,G.U.terms x⟩,⟨i6,G.U.tset x⟩,⟨zS 4,G.U.stops x⟩,⟨i6,G.U.arg x⟩,⟨.rc 1,G.U.inner x⟩]
 |6,x=>[⟨.str,G.L.name x⟩,⟨.rc 3,G.L.formula x⟩,⟨i6,G.L.cls x⟩]
 |7,x=>[⟨.rc 1,G.I.var x⟩,⟨.rc 3,G.I.term x⟩]
 |8,x=>[⟨.rc 1,G.F.name x⟩,⟨zS 1,G.F.params x⟩,⟨i6,G.F.cls x⟩,⟨.rc 3,G.F.guard x⟩,⟨.rc 3,G.F.body x⟩,⟨.rc 3,G.F.measure x⟩]
 |9,x=>[⟨.str,G.A.name x⟩,⟨zS 1,G.A.imports x⟩]
 |10,x=>[⟨.rc 1,G.M.name x⟩,⟨zS 1,G.M.params x⟩,⟨.bool,G.M.rest x⟩,⟨.rc 3,G.M.body x⟩]
 |11,x=>[⟨.rc 1,G.D.name x⟩,⟨i6,G.D.length x⟩,⟨.rc 2,G.D.initial x⟩]
 |12,x=>[⟨.rc 1,G.B.name x⟩,⟨zS 11,G.B.fields x⟩]
 |13,x=>[⟨zS 3,G.C.tests x⟩,⟨.sl (zS 7),G.C.substs x⟩]
 |14,x=>[⟨.rc 1,G.J.name x⟩,⟨zS 1,G.J.params x⟩,⟨.rc 3,G.J.body x⟩]
 |15,x=>[⟨i6,G.N.rule x⟩,⟨i6,G.N.a x⟩,⟨i6,G.N.b x⟩,⟨.rc 1,G.N.name x⟩,⟨.rc 3,G.N.term x⟩,⟨.rc 3,G.N.measure x⟩,⟨zS 3,G.N.clause x⟩,⟨zS 7,G.N.subst x⟩,⟨.sl i6,G.N.lines x⟩,⟨zS 13,G.N.cases x⟩,⟨zS 14,G.N.functional x⟩,⟨zS 2,G.N.weights x⟩]
 |16,x=>[⟨i6,G.E.kind x⟩,⟨.rc 1,G.E.name x⟩,⟨.rc 9,G.E.package x⟩,⟨.rc 10,G.E.mac x⟩,⟨zS 8,G.E.functions x⟩,⟨zS 3,G.E.formulas x⟩,⟨.sl (zS 15),G.E.logs x⟩,⟨zS 16,G.E.locl x⟩,⟨.rc 12,G.E.stobj x⟩,⟨zS 5,G.E.rules x⟩,⟨zS 1,G.E.enabled x⟩,⟨zS 1,G.E.disabled x⟩,⟨.str,G.E.text x⟩,⟨(.int .u64),G.E.hash x⟩]
 |17,x=>[⟨i6,G.X.err x⟩,⟨i6,G.X.pos x⟩]
 |18,x=>[⟨.str,G.R.name x⟩,⟨i6,G.R.arity x⟩]
 |19,x=>[⟨i6,G.K.kind x⟩,⟨i6,G.K.pos x⟩,⟨.str,G.K.package x⟩,⟨.str,G.K.text x⟩,⟨.str,G.K.den x⟩]
 |20,x=>[⟨zS 9,G.P.l x⟩,⟨.str,G.P.current x⟩,⟨zS 19,G.P.t x⟩,⟨i6,G.P.pos x⟩]
 |21,x=>[⟨zS 16,G.V.w x⟩,⟨zS 8,G.V.extra x⟩,⟨i6,G.V.left x⟩]
 |_+22,x=>[⟨.bool,G.Integer.negative x⟩,⟨(.sl (.int .u32)),G.Integer.limbs x⟩]
def Da:(n:Nat)->List (TV D0)->Option (D0 n)
 |0,l=>match gH (D:=D0) [(.sl (.int .u8)),i6] l with|some r=>some (⟨r.1,r.2.1⟩:G.Z)|none=>none
 |1,l=>match gH (D:=D0) [.str,.str] l with|some r=>some (⟨r.1,r.2.1⟩:G.Y)|none=>none
 |2,l=>match gH (D:=D0) [i6,.str,.str,.rc 1,.str,zS 2] l with|some r=>some (⟨r.1,r.2.1,r.2.2.1,r.2.2.2.1,r.2.2.2.2.1,r.2.2.2.2.2.1⟩:G.O)|none=>none
 |3,l=>match gH (D:=D0) [i6,.rc 1,.rc 2,zS 3] l with|some r=>some (⟨r.1,r.2.1,r.2.2.1,r.2.2.2.1⟩:G.T)|none=>none
 |4,l=>match gH (D:=D0) [.rc 1,.rc 1] l with|some r=>some (⟨r.1,r.2.1⟩:G.Q)|none=>none
 |5,l=>match gH (D:=D0) [.rc 1,i6,zS 3,.rc 1,.rc 3,.rc 3,zS 3,i6,zS 4,i6,.rc 1] l with|some r=>some (⟨r.1,r.2.1,r.2.2.1,r.2.2.2.1,r.2.2.2.2.1,r.2.2.2.2.2.1,r.2.2.2.2.2.2.1,r.2.2.2.2.2.2.2.1,r.2.2.2.2.2.2.2.2.1,r.2.2.2.2.2.2.2.2.2.1,r.2.2.2.2.2.2.2.2.2.2.1⟩:G.U)|none=>none
 |6,l=>match gH (D:=D0) [.str,.rc 3,i6] l with|some r=>some (⟨r.1,r.2.1,r.2.2.1⟩:G.L)|none=>none
 |7,l=>match gH (D:=D0) [.rc 1,.rc 3] l with|some r=>some (⟨r.1,r.2.1⟩:G.I)|none=>none
 |8,l=>match gH (D:=D0) [.rc 1,zS 1,i6,.rc 3,.rc 3,.rc 3] l with|some r=>some (⟨r.1,r.2.1,r.2.2.1,r.2.2.2.1,r.2.2.2.2.1,r.2.2.2.2.2.1⟩:G.F)|none=>none
 |9,l=>match gH (D:=D0) [.str,zS 1] l with|some r=>some (⟨r.1,r.2.1⟩:G.A)|none=>none
 |10,l=>match gH (D:=D0) [.rc 1,zS 1,.bool,.rc 3] l with|some r=>some (⟨r.1,r.2.1,r.2.2.1,r.2.2.2.1⟩:G.M)|none=>none
 |11,l=>match gH (D:=D0) [.rc 1,i6,.rc 2] l with|some r=>some (⟨r.1,r.2.1,r.2.2.1⟩:G.D)|none=>none
 |12,l=>match gH (D:=D0) [.rc 1,zS 11] l with|some r=>some (⟨r.1,r.2.1⟩:G.B)|none=>none
 |13,l=>match gH (D:=D0) [zS 3,.sl (zS 7)] l with|some r=>some (⟨r.1,r.2.1⟩:G.C)|none=>none
 |14,l=>match gH (D:=D0) [.rc 1,zS 1,.rc 3] l with|some r=>some (⟨r.1,r.2.1,r.2.2.1⟩:G.J)|none=>none
 |15,l=>match gH (D:=D0) [i6,i6,i6,.rc 1,.rc 3,.rc 3,zS 3,zS 7,.sl i6,zS 13,zS 14,zS 2] l with|some r=>some (⟨r.1,r.2.1,r.2.2.1,r.2.2.2.1,r.2.2.2.2.1,r.2.2.2.2.2.1,r.2.2.2.2.2.2.1,r.2.2.2.2.2.2.2.1,r.2.2.2.2.2.2.2.2.1,r.2.2.2.2.2.2.2.2.2.1,r.2.2.2.2.2.2.2.2.2.2.1,r.2.2.2.2.2.2.2.2.2.2.2.1⟩:G.N)|none=>none
 |16,l=>match gH (D:=D0) [i6,.rc 1,.rc 9,.rc 10,zS 8,zS 3,.sl (zS 15),zS 16,.rc 12,zS 5,zS 1,zS 1,.str,(.int .u64)] l with|some r=>some (⟨r.1,r.2.1,r.2.2.1,r.2.2.2.1,r.2.2.2.2.1,r.2.2.2.2.2.1,r.2.2.2.2.2.2.1,r.2.2.2.2.2.2.2.1,r.2.2.2.2.2.2.2.2.1,r.2.2.2.2.2.2.2.2.2.1,r.2.2.2.2.2.2.2.2.2.2.1,r.2.2.2.2.2.2.2.2.2.2.2.1,r.2.2.2.2.2.2.2.2.2.2.2.2.1,r.2.2.2.2.2.2.2.2.2.2.2.2.2.1⟩:G.E)|none=>none
 |17,l=>match gH (D:=D0) [i6,i6] l with|some r=>some (⟨r.1,r.2.1⟩:G.X)|none=>none
 |18,l=>match gH (D:=D0) [.str,i6] l with|some r=>some (⟨r.1,r.2.1⟩:G.R)|none=>none
 |19,l=>match gH (D:=D0) [i6,i6,.str,.str,.str] l with|some r=>some (⟨r.1,r.2.1,r.2.2.1,r.2.2.2.1,r.2.2.2.2.1⟩:G.K)|none=>none
 |20,l=>match gH (D:=D0) [zS 9,.str,zS 19,i6] l with|some r=>some (⟨r.1,r.2.1,r.2.2.1,r.2.2.2.1⟩:G.P)|none=>none
 |21,l=>match gH (D:=D0) [zS 16,zS 8,i6] l with|some r=>some (⟨r.1,r.2.1,r.2.2.1⟩:G.V)|none=>none
 |_+22,l=>match gH (D:=D0) [.bool,(.sl (.int .u32))] l with|some r=>some (⟨r.1,r.2.1⟩:G.Integer)|none=>none
def gK:(n:Nat)->D0 n->List PV
 |0,x=>G.eSource x
 |1,x=>G.eSymbol x
 |2,x=>G.eObject x
 |3,x=>G.eTerm x
 |4,x=>G.ePairSymbol x
 |5,x=>G.eRule x
 |6,x=>G.eLemma x
 |7,x=>G.eAssign x
 |8,x=>G.eFunction x
 |9,x=>G.ePackage x
 |10,x=>G.eMacro x
 |11,x=>G.eField x
 |12,x=>G.eStobj x
 |13,x=>G.eCase x
 |14,x=>G.eLambda x
 |15,x=>G.eLine x
 |16,x=>G.eEntry x
 |17,x=>G.eSourceError x
 |18,x=>G.eRow x
 |19,x=>G.eToken x
 |20,x=>G.eParser x
 |21,x=>G.eTranslator x
 |_+22,x=>G.eInteger x
def eq0:(n:Nat)->Option (D0 n->D0 n->Bool)
 |0=>none
 |1=>some λ(a b:G.Y)=>decide (a=b)
 |2=>none
 |3=>none
 |4=>some λ(a b:G.Q)=>decide (a=b)
 |5=>none
 |6=>none
 |7=>none
 |8=>none
 |9=>none
 |10=>none
 |11=>none
 |12=>none
 |13=>none
 |14=>none
 |15=>none
 |16=>none
 |17=>none
 |18=>none
 |19=>none
 |20=>none
 |21=>none
 |_+22=>none
def a6n:(n:Nat)->D0 n
 |0=>(⟨[],0⟩:G.Z)
 |1=>(⟨[],[]⟩:G.Y)
 |2=>(⟨0,[],[],⟨[],[]⟩,[],[]⟩:G.O)
 |3=>(⟨0,⟨[],[]⟩,⟨0,[],[],⟨[],[]⟩,[],[]⟩,[]⟩:G.T)
 |4=>(⟨⟨[],[]⟩,⟨[],[]⟩⟩:G.Q)
 |5=>(⟨⟨[],[]⟩,0,[],⟨[],[]⟩,⟨0,⟨[],[]⟩,⟨0,[],[],⟨[],[]⟩,[],[]⟩,[]⟩,⟨0,⟨[],[]⟩,⟨0,[],[],⟨[],[]⟩,[],[]⟩,[]⟩,[],0,[],0,⟨[],[]⟩⟩:G.U)
 |6=>(⟨[],⟨0,⟨[],[]⟩,⟨0,[],[],⟨[],[]⟩,[],[]⟩,[]⟩,0⟩:G.L)
 |7=>(⟨⟨[],[]⟩,⟨0,⟨[],[]⟩,⟨0,[],[],⟨[],[]⟩,[],[]⟩,[]⟩⟩:G.I)
 |8=>(⟨⟨[],[]⟩,[],0,⟨0,⟨[],[]⟩,⟨0,[],[],⟨[],[]⟩,[],[]⟩,[]⟩,⟨0,⟨[],[]⟩,⟨0,[],[],⟨[],[]⟩,[],[]⟩,[]⟩,⟨0,⟨[],[]⟩,⟨0,[],[],⟨[],[]⟩,[],[]⟩,[]⟩⟩:G.F)
 |9=>(⟨[],[]⟩:G.A)
 |10=>(⟨⟨[],[]⟩,[],false,⟨0,⟨[],[]⟩,⟨0,[],[],⟨[],[]⟩,[],[]⟩,[]⟩⟩:G.M)
 |11=>(⟨⟨[],[]⟩,0,⟨0,[],[],⟨[],[]⟩,[],[]⟩⟩:G.D)
 |12=>(⟨⟨[],[]⟩,[]⟩:G.B)
 |13=>(⟨[],[]⟩:G.C)
 |14=>(⟨⟨[],[]⟩,[],⟨0,⟨[],[]⟩,⟨0,[],[],⟨[],[]⟩,[],[]⟩,[]⟩⟩:G.J)
 |15=>(⟨0,0,0,⟨[],[]⟩,⟨0,⟨[],[]⟩,⟨0,[],[],⟨[],[]⟩,[],[]⟩,[]⟩,⟨0,⟨[],[]⟩,⟨0,[],[],⟨[],[]⟩,[],[]⟩,[]⟩,[],[],[],[],[],[]⟩:G.N)
 |16=>(⟨0,⟨[],[]⟩,⟨[],[]⟩,⟨⟨[],[]⟩,[],false,⟨0,⟨[],[]⟩,⟨0,[],[],⟨[],[]⟩,[],[]⟩,[]⟩⟩,[],[],[],[],⟨⟨[],[]⟩,[]⟩,[],[],[],[],0⟩:G.E)
 |17=>(⟨0,0⟩:G.X)
 |18=>(⟨[],0⟩:G.R)
 |19=>(⟨0,0,[],[],[]⟩:G.K)
 |20=>(⟨[],[],[],0⟩:G.P)
 |21=>(⟨[],[],0⟩:G.V)
 |_+22=>(⟨false,[]⟩:G.Integer)
def oK:Nat->Nat
 |0=>2
 |1=>2
 |2=>7
 |3=>11
 |4=>4
 |5=>34
 |6=>13
 |7=>13
 |8=>37
 |9=>2
 |10=>15
 |11=>10
 |12=>3
 |13=>2
 |14=>14
 |15=>33
 |16=>32
 |17=>2
 |18=>2
 |19=>5
 |20=>4
 |21=>3
 |_+22=>2
def lt0:Nat->List Ty
 |0=>[(.sl (.int .u8)),i6]
 |1=>[.str,.str]
 |2=>[i6,.str,.str,.str,.str,.str,zS 2]
 |3=>[i6,.str,.str,i6,.str,.str,.str,.str,.str,zS 2,zS 3]
 |4=>[.str,.str,.str,.str]
 |5=>[.str,.str,i6,zS 3,.str,.str,i6,.str,.str,i6,.str,.str,.str,.str,.str,zS 2,zS 3,i6,.str,.str,i6,.str,.str,.str,.str,.str,zS 2,zS 3,zS 3,i6,zS 4,i6,.str,.str]
 |6=>[.str,i6,.str,.str,i6,.str,.str,.str,.str,.str,zS 2,zS 3,i6]
 |7=>[.str,.str,i6,.str,.str,i6,.str,.str,.str,.str,.str,zS 2,zS 3]
 |8=>[.str,.str,zS 1,i6,i6,.str,.str,i6,.str,.str,.str,.str,.str,zS 2,zS 3,i6,.str,.str,i6,.str,.str,.str,.str,.str,zS 2,zS 3,i6,.str,.str,i6,.str,.str,.str,.str,.str,zS 2,zS 3]
 |9=>[.str,zS 1]
 |10=>[.str,.str,zS 1,.bool,i6,.str,.str,i6,.str,.str,.str,.str,.str,zS 2,zS 3]
 |11=>[.str,.str,i6,i6,.str,.str,.str,.str,.str,zS 2]
 |12=>[.str,.str,zS 11]
 |13=>[zS 3,.sl (zS 7)]
 |14=>[.str,.str,zS 1,i6,.str,.str,i6,.str,.str,.str,.str,.str,zS 2,zS 3]
 |15=>[i6,i6,i6,.str,.str,i6,.str,.str,i6,.str,.str,.str,.str,.str,zS 2,zS 3,i6,.str,.str,i6,.str,.str,.str,.str,.str,zS 2,zS 3,zS 3,zS 7,.sl i6,zS 13,zS 14,zS 2]
 |16=>[i6,.str,.str,.str,zS 1,.str,.str,zS 1,.bool,i6,.str,.str,i6,.str,.str,.str,.str,.str,zS 2,zS 3,zS 8,zS 3,.sl (zS 15),zS 16,.str,.str,zS 11,zS 5,zS 1,zS 1,.str,(.int .u64)]
 |17=>[i6,i6]
 |18=>[.str,i6]
 |19=>[i6,i6,.str,.str,.str]
 |20=>[zS 9,.str,zS 19,i6]
 |21=>[zS 16,zS 8,i6]
 |_+22=>[.bool,(.sl (.int .u32))]
def U0:iR:=⟨D0,fs0,oJ,Da,gK,eq0,a6n,oK,lt0⟩
def bM0(x:Value):gd (.v x)=true:=rfl
def bGs(s:List UInt8):gd (.str s)=true:=rfl
def eJ(z:Nat)(l:List PV):(eD z l).cells=[eD z l]:=oV (eZ _ _)
def fA(x:Value):(PV.v x).cells=[.v x]:=rfl
def eI(x:List UInt8):(PV.str x).cells=[.str x]:=rfl
def eK(x:List PV):(PV.agg x).cells=x:=rfl
def bD7: ∀x:D0 0,(gK 0 x).length=oK 0:=λ(x:G.Z)=>by rfl
def aR8: ∀x:D0 1,(gK 1 x).length=oK 1:=λ(x:G.Y)=>by rfl
def gO: ∀y:G.Y,(G.eSymbol y).length=2:=aR8
def aR7: ∀x:D0 2,(gK 2 x).length=oK 2:=λ(x:G.O)=>by
 cases x;show(G.eObject _).length=7;simp only[G.eObject,aZ,aM,aX,gO]
def G6: ∀y:G.O,(G.eObject y).length=7:=aR7
def aR6: ∀x:D0 3,(gK 3 x).length=oK 3:=λ(x:G.T)=>by
 cases x;show(G.eTerm _).length=11;simp only[G.eTerm,aZ,aM,aX,gO,G6]
def sC: ∀y:G.T,(G.eTerm y).length=11:=aR6
def bD6: ∀x:D0 4,(gK 4 x).length=oK 4:=λ(x:G.Q)=>by
 show(G.ePairSymbol _).length=4;simp only[G.ePairSymbol,aZ,aM,aX,gO]
def bD5: ∀x:D0 5,(gK 5 x).length=oK 5:=λ(x:G.U)=>by
 show(G.eRule _).length=34;simp only[G.eRule,aZ,aM,aX,gO,sC]
def bD4: ∀x:D0 6,(gK 6 x).length=oK 6:=λ(x:G.L)=>by
 show(G.eLemma _).length=13;simp only[G.eLemma,aZ,aM,aX,sC]
def bD3: ∀x:D0 7,(gK 7 x).length=oK 7:=λ(x:G.I)=>by
 show(G.eAssign _).length=13;simp only[G.eAssign,aZ,aM,aX,gO,sC]
def bD2: ∀x:D0 8,(gK 8 x).length=oK 8:=λ(x:G.F)=>by
 show(G.eFunction _).length=37;simp only[G.eFunction,aZ,aM,aX,gO,sC]
def aR5: ∀x:D0 9,(gK 9 x).length=oK 9:=λ(x:G.A)=>by rfl
def R7: ∀y:G.A,(G.ePackage y).length=2:=aR5
def aFB: ∀x:D0 10,(gK 10 x).length=oK 10:=λ(x:G.M)=>by
 show(G.eMacro _).length=15;simp only[G.eMacro,aZ,aM,aX,gO,sC]
def aFD: ∀y:G.M,(G.eMacro y).length=15:=aFB
def a1A: ∀x:D0 11,(gK 11 x).length=oK 11:=λ(x:G.D)=>by
 show(G.eField _).length=10;simp only[G.eField,aZ,aM,aX,gO,G6]
def aFA: ∀x:D0 12,(gK 12 x).length=oK 12:=λ(x:G.B)=>by
 show(G.eStobj _).length=3;simp only[G.eStobj,aZ,aM,aX,gO]
def aFC: ∀y:G.B,(G.eStobj y).length=3:=aFA
def a1z: ∀x:D0 13,(gK 13 x).length=oK 13:=λ(x:G.C)=>by rfl
def a1y: ∀x:D0 14,(gK 14 x).length=oK 14:=λ(x:G.J)=>by
 show(G.eLambda _).length=14;simp only[G.eLambda,aZ,aM,aX,gO,sC]
def a1x: ∀x:D0 15,(gK 15 x).length=oK 15:=λ(x:G.N)=>by
 show(G.eLine _).length=33;simp only[G.eLine,aZ,aM,aX,gO,sC]
def a1w: ∀x:D0 16,(gK 16 x).length=oK 16:=λ(x:G.E)=>by
 cases x;show(G.eEntry _).length=32;simp only[G.eEntry,aZ,aM,aX,gO,R7,aFD,aFC]
def a1v: ∀x:D0 17,(gK 17 x).length=oK 17:=λ(x:G.X)=>by rfl
def a1u: ∀x:D0 18,(gK 18 x).length=oK 18:=λ(x:G.R)=>by rfl
def a1t: ∀x:D0 19,(gK 19 x).length=oK 19:=λ(x:G.K)=>by rfl
def a1s: ∀x:D0 20,(gK 20 x).length=oK 20:=λ(x:G.P)=>by rfl
def a1r: ∀x:D0 21,(gK 21 x).length=oK 21:=λ(x:G.V)=>by rfl
def a1q(k:Nat): ∀x:D0 (k+22),(gK (k+22) x).length=oK (k+22):=λ(x:G.Integer)=>by rfl
def EA:(∀(a b:List PV) (p:PV->Bool),(a++b).all p=(a.all p&&b.all p))/\(∀(a:PV) (l:List PV) (p:PV->Bool),(a::l).all p=(p a&&l.all p))/\(∀p:PV->Bool,([]:List PV).all p=true)/\(∀(z:Nat) (l:List PV),gd (eD z l)=true)/\(∀x:Value,gd (.v x)=true)/\(∀s:List UInt8,gd (.str s)=true)/\(∀b:Bool,(b&&b)=b)/\∀b:Bool,(b&&true)=b:=⟨λ_ _ _=>List.all_append,λ_ _ _=>aP,λ_=>List.all_nil,eZ,bM0,bGs,Bool.and_self,bE⟩
def bM6: ∀x:D0 0,(gK 0 x).all gd=true:=λ(x:G.Z)=>by
 show(G.eSource _).all gd=true;simp only[G.eSource,EA]
def bGH: ∀x:D0 1,(gK 1 x).all gd=true:=λ(x:G.Y)=>by
 show(G.eSymbol _).all gd=true;simp only[G.eSymbol,EA]
def iV: ∀y:G.Y,(G.eSymbol y).all gd=true:=bGH
def bGy: ∀x:D0 2,(gK 2 x).all gd=true:=λ(x:G.O)=>by
 cases x;show(G.eObject _).all gd=true;simp only[G.eObject,EA,iV]
def PO: ∀y:G.O,(G.eObject y).all gd=true:=bGy
def bGu: ∀x:D0 3,(gK 3 x).all gd=true:=λ(x:G.T)=>by
 cases x;show(G.eTerm _).all gd=true;simp only[G.eTerm,EA,iV,PO]
def yF: ∀y:G.T,(G.eTerm y).all gd=true:=bGu
def bM5: ∀x:D0 4,(gK 4 x).all gd=true:=λ(x:G.Q)=>by
 show(G.ePairSymbol _).all gd=true;simp only[G.ePairSymbol,EA,iV]
def bM4: ∀x:D0 5,(gK 5 x).all gd=true:=λ(x:G.U)=>by
 show(G.eRule _).all gd=true;simp only[G.eRule,EA,iV,yF]
def bM3: ∀x:D0 6,(gK 6 x).all gd=true:=λ(x:G.L)=>by
 show(G.eLemma _).all gd=true;simp only[G.eLemma,EA,yF]
def bM2: ∀x:D0 7,(gK 7 x).all gd=true:=λ(x:G.I)=>by
 show(G.eAssign _).all gd=true;simp only[G.eAssign,EA,iV,yF]
def bM1: ∀x:D0 8,(gK 8 x).all gd=true:=λ(x:G.F)=>by
 show(G.eFunction _).all gd=true;simp only[G.eFunction,EA,iV,yF]
def bGt: ∀x:D0 9,(gK 9 x).all gd=true:=λ(x:G.A)=>by
 show(G.ePackage _).all gd=true;simp only[G.ePackage,EA]
def aB9: ∀y:G.A,(G.ePackage y).all gd=true:=bGt
def aSm: ∀x:D0 10,(gK 10 x).all gd=true:=λ(x:G.M)=>by
 show(G.eMacro _).all gd=true;simp only[G.eMacro,EA,iV,yF]
def aOT: ∀y:G.M,(G.eMacro y).all gd=true:=aSm
def bGG: ∀x:D0 11,(gK 11 x).all gd=true:=λ(x:G.D)=>by
 show(G.eField _).all gd=true;simp only[G.eField,EA,iV,PO]
def aSl: ∀x:D0 12,(gK 12 x).all gd=true:=λ(x:G.B)=>by
 show(G.eStobj _).all gd=true;simp only[G.eStobj,EA,iV]
def aOS: ∀y:G.B,(G.eStobj y).all gd=true:=aSl
def bGF: ∀x:D0 13,(gK 13 x).all gd=true:=λ(x:G.C)=>by
 show(G.eCase _).all gd=true;simp only[G.eCase,EA]
def bGE: ∀x:D0 14,(gK 14 x).all gd=true:=λ(x:G.J)=>by
 show(G.eLambda _).all gd=true;simp only[G.eLambda,EA,iV,yF]
def bGD: ∀x:D0 15,(gK 15 x).all gd=true:=λ(x:G.N)=>by
 show(G.eLine _).all gd=true;simp only[G.eLine,EA,iV,yF]
def bGC: ∀x:D0 16,(gK 16 x).all gd=true:=λ(x:G.E)=>by
 cases x;show(G.eEntry _).all gd=true;simp only[G.eEntry,EA,iV,aB9,aOT,aOS]
def bGB: ∀x:D0 17,(gK 17 x).all gd=true:=λ(x:G.X)=>by
 show(G.eSourceError _).all gd=true;simp only[G.eSourceError,EA]
def bGA: ∀x:D0 18,(gK 18 x).all gd=true:=λ(x:G.R)=>by
 show(G.eRow _).all gd=true;simp only[G.eRow,EA]
def bGz: ∀x:D0 19,(gK 19 x).all gd=true:=λ(x:G.K)=>by
 show(G.eToken _).all gd=true;simp only[G.eToken,EA]
def bGx: ∀x:D0 20,(gK 20 x).all gd=true:=λ(x:G.P)=>by
 show(G.eParser _).all gd=true;simp only[G.eParser,EA]
def bGw: ∀x:D0 21,(gK 21 x).all gd=true:=λ(x:G.V)=>by
 show(G.eTranslator _).all gd=true;simp only[G.eTranslator,EA]
def bGv(k:Nat): ∀x:D0 (k+22),(gK (k+22) x).all gd=true:=λ(x:G.Integer)=>by
 show(G.eInteger _).all gd=true;simp only[G.eInteger,EA]
def jJ:=And.intro G.lSource_map (And.intro G.lSymbol_map (And.intro G.lObject_map (And.intro G.lTerm_map (And.intro G.lPairSymbol_map (And.intro G.lRule_map (And.intro G.lLemma_map (And.intro G.lAssign_map (And.intro G.lFunction_map (And.intro G.lPackage_map (And.intro G.lMacro_map (And.intro G.lField_map (And.intro G.lStobj_map (And.intro G.lCase_map (And.intro G.lLambda_map (And.intro G.lLine_map (And.intro G.lEntry_map (And.intro G.lSourceError_map (And.intro G.lRow_map (And.intro G.lToken_map (And.intro G.lParser_map (And.intro G.lTranslator_map G.lInteger_map)))))))))))))))))))))
def bGW: ∀x:D0 0,gK 0 x=(oJ 0 x).flatMap λv=>(dP U0 v.t v.x).cells:=λ(x:G.Z)=>by
 show G.eSource _=_;simp only[G.eSource,oJ,aN,bB,dP,eJ,fA,eI,eK,bA,aQ,aR,aY,aW,dN,U0,oK,gK,jJ]
 try rfl
def bGV: ∀x:D0 1,gK 1 x=(oJ 1 x).flatMap λv=>(dP U0 v.t v.x).cells:=λ(x:G.Y)=>by
 show G.eSymbol _=_;simp only[G.eSymbol,oJ,aN,bB,dP,eJ,fA,eI,eK,bA,aQ,aR,aY,aW,dN,U0,oK,gK,jJ]
 try rfl
def bGU: ∀x:D0 2,gK 2 x=(oJ 2 x).flatMap λv=>(dP U0 v.t v.x).cells:=λ(x:G.O)=>by
 cases x;show G.eObject _=_;simp only[G.eObject,oJ,aN,bB,dP,eJ,fA,eI,eK,bA,aQ,aR,aY,aW,dN,U0,oK,gK,jJ,G.O.kind,G.O.num,G.O.den,G.O.sym,G.O.text,G.O.pair]
 try rfl
def bGT: ∀x:D0 3,gK 3 x=(oJ 3 x).flatMap λv=>(dP U0 v.t v.x).cells:=λ(x:G.T)=>by
 cases x;show G.eTerm _=_;simp only[G.eTerm,oJ,aN,bB,dP,eJ,fA,eI,eK,bA,aQ,aR,aY,aW,dN,U0,oK,gK,jJ,G.T.kind,G.T.name,G.T.value,G.T.args]
 try rfl
def bGS: ∀x:D0 4,gK 4 x=(oJ 4 x).flatMap λv=>(dP U0 v.t v.x).cells:=λ(x:G.Q)=>by
 show G.ePairSymbol _=_;simp only[G.ePairSymbol,oJ,aN,bB,dP,eJ,fA,eI,eK,bA,aQ,aR,aY,aW,dN,U0,oK,gK,jJ]
 try rfl
def bGR: ∀x:D0 5,gK 5 x=(oJ 5 x).flatMap λv=>(dP U0 v.t v.x).cells:=λ(x:G.U)=>by
 show G.eRule _=_;simp only[G.eRule,oJ,aN,bB,dP,eJ,fA,eI,eK,bA,aQ,aR,aY,aW,dN,U0,oK,gK,jJ]
 try rfl
def bGQ: ∀x:D0 6,gK 6 x=(oJ 6 x).flatMap λv=>(dP U0 v.t v.x).cells:=λ(x:G.L)=>by
 show G.eLemma _=_;simp only[G.eLemma,oJ,aN,bB,dP,eJ,fA,eI,eK,bA,aQ,aR,aY,aW,dN,U0,oK,gK,jJ]
 try rfl
def bGP: ∀x:D0 7,gK 7 x=(oJ 7 x).flatMap λv=>(dP U0 v.t v.x).cells:=λ(x:G.I)=>by
 show G.eAssign _=_;simp only[G.eAssign,oJ,aN,bB,dP,eJ,fA,eI,eK,bA,aQ,aR,aY,aW,dN,U0,oK,gK,jJ]
 try rfl
def bGO: ∀x:D0 8,gK 8 x=(oJ 8 x).flatMap λv=>(dP U0 v.t v.x).cells:=λ(x:G.F)=>by
 show G.eFunction _=_;simp only[G.eFunction,oJ,aN,bB,dP,eJ,fA,eI,eK,bA,aQ,aR,aY,aW,dN,U0,oK,gK,jJ]
 try rfl
def bGN: ∀x:D0 9,gK 9 x=(oJ 9 x).flatMap λv=>(dP U0 v.t v.x).cells:=λ(x:G.A)=>by
 show G.ePackage _=_;simp only[G.ePackage,oJ,aN,bB,dP,eJ,fA,eI,eK,bA,aQ,aR,aY,aW,dN,U0,oK,gK,jJ]
 try rfl
def a3B: ∀x:D0 10,gK 10 x=(oJ 10 x).flatMap λv=>(dP U0 v.t v.x).cells:=λ(x:G.M)=>by
 show G.eMacro _=_;simp only[G.eMacro,oJ,aN,bB,dP,eJ,fA,eI,eK,bA,aQ,aR,aY,aW,dN,U0,oK,gK,jJ]
 try rfl
def a3A: ∀x:D0 11,gK 11 x=(oJ 11 x).flatMap λv=>(dP U0 v.t v.x).cells:=λ(x:G.D)=>by
 show G.eField _=_;simp only[G.eField,oJ,aN,bB,dP,eJ,fA,eI,eK,bA,aQ,aR,aY,aW,dN,U0,oK,gK,jJ]
 try rfl
def a3z: ∀x:D0 12,gK 12 x=(oJ 12 x).flatMap λv=>(dP U0 v.t v.x).cells:=λ(x:G.B)=>by
 show G.eStobj _=_;simp only[G.eStobj,oJ,aN,bB,dP,eJ,fA,eI,eK,bA,aQ,aR,aY,aW,dN,U0,oK,gK,jJ]
 try rfl
def a3y: ∀x:D0 13,gK 13 x=(oJ 13 x).flatMap λv=>(dP U0 v.t v.x).cells:=λ(x:G.C)=>by
 show G.eCase _=_;simp only[G.eCase,oJ,aN,bB,dP,eJ,fA,eI,eK,bA,aQ,aR,aY,aW,dN,U0,oK,gK,jJ]
 try rfl
def a3x: ∀x:D0 14,gK 14 x=(oJ 14 x).flatMap λv=>(dP U0 v.t v.x).cells:=λ(x:G.J)=>by
 show G.eLambda _=_;simp only[G.eLambda,oJ,aN,bB,dP,eJ,fA,eI,eK,bA,aQ,aR,aY,aW,dN,U0,oK,gK,jJ]
 try rfl
def a3w: ∀x:D0 15,gK 15 x=(oJ 15 x).flatMap λv=>(dP U0 v.t v.x).cells:=λ(x:G.N)=>by
 show G.eLine _=_;simp only[G.eLine,oJ,aN,bB,dP,eJ,fA,eI,eK,bA,aQ,aR,aY,aW,dN,U0,oK,gK,jJ]
 try rfl
def a3v: ∀x:D0 16,gK 16 x=(oJ 16 x).flatMap λv=>(dP U0 v.t v.x).cells:=λ(x:G.E)=>by
 cases x;show G.eEntry _=_;simp only[G.eEntry,oJ,aN,bB,dP,eJ,fA,eI,eK,bA,aQ,aR,aY,aW,dN,U0,oK,gK,jJ,G.E.kind,G.E.name,G.E.package,G.E.mac,G.E.functions,G.E.formulas,G.E.logs,G.E.locl,G.E.stobj,G.E.rules,G.E.enabled,G.E.disabled,G.E.text,G.E.hash]
 try rfl
def a3u: ∀x:D0 17,gK 17 x=(oJ 17 x).flatMap λv=>(dP U0 v.t v.x).cells:=λ(x:G.X)=>by
 show G.eSourceError _=_;simp only[G.eSourceError,oJ,aN,bB,dP,eJ,fA,eI,eK,bA,aQ,aR,aY,aW,dN,U0,oK,gK,jJ]
 try rfl
def a3t: ∀x:D0 18,gK 18 x=(oJ 18 x).flatMap λv=>(dP U0 v.t v.x).cells:=λ(x:G.R)=>by
 show G.eRow _=_;simp only[G.eRow,oJ,aN,bB,dP,eJ,fA,eI,eK,bA,aQ,aR,aY,aW,dN,U0,oK,gK,jJ]
 try rfl
def a3s: ∀x:D0 19,gK 19 x=(oJ 19 x).flatMap λv=>(dP U0 v.t v.x).cells:=λ(x:G.K)=>by
 show G.eToken _=_;simp only[G.eToken,oJ,aN,bB,dP,eJ,fA,eI,eK,bA,aQ,aR,aY,aW,dN,U0,oK,gK,jJ]
 try rfl
def a3r: ∀x:D0 20,gK 20 x=(oJ 20 x).flatMap λv=>(dP U0 v.t v.x).cells:=λ(x:G.P)=>by
 show G.eParser _=_;simp only[G.eParser,oJ,aN,bB,dP,eJ,fA,eI,eK,bA,aQ,aR,aY,aW,dN,U0,oK,gK,jJ]
 try rfl
def a3q: ∀x:D0 21,gK 21 x=(oJ 21 x).flatMap λv=>(dP U0 v.t v.x).cells:=λ(x:G.V)=>by
 show G.eTranslator _=_;simp only[G.eTranslator,oJ,aN,bB,dP,eJ,fA,eI,eK,bA,aQ,aR,aY,aW,dN,U0,oK,gK,jJ]
 try rfl
def a3p(k:Nat): ∀x:D0 (k+22),gK (k+22) x=(oJ (k+22) x).flatMap λv=>(dP U0 v.t v.x).cells:=λ(x:G.Integer)=>by
 show G.eInteger _=_;simp only[G.eInteger,oJ,aN,bB,dP,eJ,fA,eI,eK,bA,aQ,aR,aY,aW,dN,U0,oK,gK,jJ]
 try rfl
def aDK:iM U0 where
 eqc:=by
  intro n f x h
  match n,f,x,h with
  |0,f,x,h=>cases h
  |1,f,x,h=>cases h;rfl
  |2,f,x,h=>cases h
  |3,f,x,h=>cases h
  |4,f,x,h=>cases h;rfl
  |5,f,x,h=>cases h
  |6,f,x,h=>cases h
  |7,f,x,h=>cases h
  |8,f,x,h=>cases h
  |9,f,x,h=>cases h
  |10,f,x,h=>cases h
  |11,f,x,h=>cases h
  |12,f,x,h=>cases h
  |13,f,x,h=>cases h
  |14,f,x,h=>cases h
  |15,f,x,h=>cases h
  |16,f,x,h=>cases h
  |17,f,x,h=>cases h
  |18,f,x,h=>cases h
  |19,f,x,h=>cases h
  |20,f,x,h=>cases h
  |21,f,x,h=>cases h
  |k+22,f,x,h=>cases h
 ty:=λn=>match n with|0=>λ_=>rfl|1=>λ_=>rfl|2=>λ_=>rfl|3=>λ_=>rfl|4=>λ_=>rfl|5=>λ_=>rfl|6=>λ_=>rfl|7=>λ_=>rfl|8=>λ_=>rfl|9=>λ_=>rfl|10=>λ_=>rfl|11=>λ_=>rfl|12=>λ_=>rfl|13=>λ_=>rfl|14=>λ_=>rfl|15=>λ_=>rfl|16=>λ_=>rfl|17=>λ_=>rfl|18=>λ_=>rfl|19=>λ_=>rfl|20=>λ_=>rfl|21=>λ_=>rfl|k+22=>λ_=>rfl
 un_of:=by
  intro n l x h
  match n,x,h with
  |0,x,h=>
   simp only[U0,Da]at h;split at h
   .rename_i r hr;cases h;exact dX hr
   .cases h
  |1,x,h=>
   simp only[U0,Da]at h;split at h
   .rename_i r hr;cases h;exact dX hr
   .cases h
  |2,x,h=>
   simp only[U0,Da]at h;split at h
   .rename_i r hr;cases h;exact dX hr
   .cases h
  |3,x,h=>
   simp only[U0,Da]at h;split at h
   .rename_i r hr;cases h;exact dX hr
   .cases h
  |4,x,h=>
   simp only[U0,Da]at h;split at h
   .rename_i r hr;cases h;exact dX hr
   .cases h
  |5,x,h=>
   simp only[U0,Da]at h;split at h
   .rename_i r hr;cases h;exact dX hr
   .cases h
  |6,x,h=>
   simp only[U0,Da]at h;split at h
   .rename_i r hr;cases h;exact dX hr
   .cases h
  |7,x,h=>
   simp only[U0,Da]at h;split at h
   .rename_i r hr;cases h;exact dX hr
   .cases h
  |8,x,h=>
   simp only[U0,Da]at h;split at h
   .rename_i r hr;cases h;exact dX hr
   .cases h
  |9,x,h=>
   simp only[U0,Da]at h;split at h
   .rename_i r hr;cases h;exact dX hr
   .cases h
  |10,x,h=>
   simp only[U0,Da]at h;split at h
   .rename_i r hr;cases h;exact dX hr
   .cases h
  |11,x,h=>
   simp only[U0,Da]at h;split at h
   .rename_i r hr;cases h;exact dX hr
   .cases h
  |12,x,h=>
   simp only[U0,Da]at h;split at h
   .rename_i r hr;cases h;exact dX hr
   .cases h
  |13,x,h=>
   simp only[U0,Da]at h;split at h
   .rename_i r hr;cases h;exact dX hr
   .cases h
  |14,x,h=>
   simp only[U0,Da]at h;split at h
   .rename_i r hr;cases h;exact dX hr
   .cases h
  |15,x,h=>
   simp only[U0,Da]at h;split at h
   .rename_i r hr;cases h;exact dX hr
   .cases h
  |16,x,h=>
   simp only[U0,Da]at h;split at h
   .rename_i r hr;cases h;exact dX hr
   .cases h
  |17,x,h=>
   simp only[U0,Da]at h;split at h
   .rename_i r hr;cases h;exact dX hr
   .cases h
  |18,x,h=>
   simp only[U0,Da]at h;split at h
   .rename_i r hr;cases h;exact dX hr
   .cases h
  |19,x,h=>
   simp only[U0,Da]at h;split at h
   .rename_i r hr;cases h;exact dX hr
   .cases h
  |20,x,h=>
   simp only[U0,Da]at h;split at h
   .rename_i r hr;cases h;exact dX hr
   .cases h
  |21,x,h=>
   simp only[U0,Da]at h;split at h
   .rename_i r hr;cases h;exact dX hr
   .cases h
  |k+22,x,h=>
   simp only[U0,Da]at h;split at h
   .rename_i r hr;cases h;exact dX hr
   .cases h
 en:=λn=>match n with|0=>bGW|1=>bGV|2=>bGU|3=>bGT|4=>bGS|5=>bGR|6=>bGQ|7=>bGP|8=>bGO|9=>bGN|10=>a3B|11=>a3A|12=>a3z|13=>a3y|14=>a3x|15=>a3w|16=>a3v|17=>a3u|18=>a3t|19=>a3s|20=>a3r|21=>a3q|k+22=>a3p k
 len:=λn=>match n with|0=>bD7|1=>aR8|2=>aR7|3=>aR6|4=>bD6|5=>bD5|6=>bD4|7=>bD3|8=>bD2|9=>aR5|10=>aFB|11=>a1A|12=>aFA|13=>a1z|14=>a1y|15=>a1x|16=>a1w|17=>a1v|18=>a1u|19=>a1t|20=>a1s|21=>a1r|k+22=>a1q k
 sz:=λn=>by
    iterate 22 (rcases n with _|n; · kernel_rfl)
    kernel_rfl
 zc:=λn=>by
    iterate 22 (rcases n with _|n; · kernel_rfl)
    kernel_rfl
 nz:=λn=>by
    iterate 22 (rcases n with _|n; · kernel_rfl)
    kernel_rfl
 zero:=λn=>by
    iterate 22 (rcases n with _|n; · kernel_rfl)
    kernel_rfl
 lt:=λn=>by
    iterate 22 (rcases n with _|n; · kernel_rfl)
    kernel_rfl
 ltl:=λn=>by
    iterate 22 (rcases n with _|n; · kernel_rfl)
    kernel_rfl
 gd:=λn=>match n with|0=>bM6|1=>bGH|2=>bGy|3=>bGu|4=>bM5|5=>bM4|6=>bM3|7=>bM2|8=>bM1|9=>bGt|10=>aSm|11=>bGG|12=>aSl|13=>bGF|14=>bGE|15=>bGD|16=>bGC|17=>bGB|18=>bGA|19=>bGz|20=>bGx|21=>bGw|k+22=>bGv k
 pos:=λn=>bK (by
    iterate 22 (rcases n with _|n; · kernel_rfl)
    kernel_rfl)
end Go.TV
namespace Go.AI
section
variable{P:Program}
def aBB{N:Type}{c:Prop}[Decidable c]{a b:Sem N}:cN P (if c then a else b)=if c then cN P a else cN P b:=by split<;>rfl
def CO{d:Nat}{t:TypeId}{fs:Array Field}{xs ys:Array Value}(ht:P.underlying t=some (.struct fs))(hp:P.stoodInHeld t=false):
    cN P (Op.equalIn (d+1) t (.agg xs) (.agg ys))=cN P (Op.eqFields d xs ys fs.toList):=by
 rw[Op.equalIn.eq_2,bM,bV,ht];simp only[aL];rw[bM];have:cN P program=some P:=rfl;rw[this];simp only[aL,hp,Bool.false_eq_true,if_false];rw[<-Array.forIn_toList];generalize fs.toList=l;clear ht;induction l with
 |nil=>simp[Op.eqFields,bM,bS]
 |cons f l ih=>
  simp only[List.forIn_cons,Op.eqFields,bM,aBB];split
  .cases cN P (part f.type xs f.offset)with
   |none=>rfl
   |some a=>
    cases cN P (part f.type ys f.offset)with
    |none=>rfl
    |some b=>
     simp only[aL];cases cN P (Op.equalIn d f.type a b)with
     |none=>rfl
     |some r=>
      cases r with
      |false=>simp[bS]
      |true=>
       simp only[aL,bD,Bool.false_eq_true,if_false,bS];simpa only[bM]using ih
  .simp only[bS,aL];simpa only[bM]using ih
def QA{t:TypeId}{x y:Operand}{xs ys:Array Value}{r:Bool}(h1:xs.toList.all bQ=true)(h2:ys.toList.all bQ=true)(hg:cN P (eqGuard .eql t x y (.agg xs) (.agg ys))=some ())(he:cN P (Op.equal t (.agg xs) (.agg ys))=some r):
    iC P .eql t x y (.agg xs) (.agg ys)=some (.bool r):=by
 simp only[iC,cX,h1,h2,Bool.and_self,aI,dG,bM,hg,aL,binOp,he,bS,bQ]
def Qz{t:TypeId}{x y:Operand}{xs ys:Array Value}{r:Bool}(h1:xs.toList.all bQ=true)(h2:ys.toList.all bQ=true)(hg:cN P (eqGuard .neq t x y (.agg xs) (.agg ys))=some ())(he:cN P (Op.equal t (.agg xs) (.agg ys))=some r):
    iC P .neq t x y (.agg xs) (.agg ys)=some (.bool (!r)):=by
 simp only[iC,cX,h1,h2,Bool.and_self,aI,dG,bM,hg,aL,binOp,he,bS,bQ]
end
end Go.AI
namespace Go.TV
open Go.AI Go.PI
def P0:List (Nat×Ty)->Nat->Option Ty
 |[],_=>none
 |(k,t)::l,i=>bif Nat.beq k i then some t else P0 l i
def Bs: ∀{l:List (Nat×Ty)} {i:Nat} {t:Ty},P0 l i=some t->(i,t)∈l
 |(k,t)::l,i,u,h=>by
  unfold P0 at h;cases hb:Nat.beq k i with
  |true=>rw[hb]at h;cases h;rw[aE hb];exact aH ..
  |false=>rw[hb]at h;exact aG _ (Bs h)
def aGg:List (Nat×Nat)->Nat->Option Nat
 |[],_=>none
 |(k,t)::l,i=>bif Nat.beq k i then some t else aGg l i
def aO2:List (Nat×Nat)->List (Nat×Nat)->Bool
 |[],[]=>true
 |(a,b)::l,(c,d)::r=>Nat.beq a c&&Nat.beq b d&&aO2 l r
 |_,_=>false
def XS: ∀{l r:List (Nat×Nat)},aO2 l r=true->l=r
 |[],[],_=>rfl
 |(a,b)::l,(c,d)::r,h=>by
  simp only[aO2,aC,dJ,aD]at h;rw[h.1.1,h.1.2,XS h.2]
 |[],_::_,h=>by cases h
 |_::_,[],h=>by cases h
section
variable(P:Program)(T:TP U0.D)
def aOk:List Field->List Ty->Nat->Bool
 |[],[],_=>true
 |f::fs,t::ts,o=>(match T.T.ty f.type with|some u=>u.beq t|none=>false)&&Nat.beq f.offset o&&aOk fs ts (o+dN U0 t)
 |_,_,_=>false
def aOg(id:Nat)(t:Ty):Bool:=
 match t,P.underlying id with
 | .int k,some (.int j)=>decide (k=j)
 | .bool,some .bool=>true
 | .str,some .string=>true
 | .sl e,some (.slice i)=>(match T.T.ty i with|some u=>u.beq e|none=>false)&&(match T.el id with|some j=>Nat.beq i j|none=>false)
 | .rc n,some (.struct fs)=>aOk T fs.toList (U0.fs n) 0&&(match cN P (fs.mapM λf=>do pure (f.offset,<-Go.sizeOf f.type))with|some pl=>aO2 pl.toList (aBV U0 (U0.fs n) 0)|none=>false)
 | .rc n,_=>T.T.arr id
 |_,_=>false
def B8(x:Nat×Ty):Bool:=
 (match jU P x.1 with|some b=>(b==lO x.2)|none=>false)&&
 (match iE P x.1 with|some n=>Nat.beq n (dN U0 x.2)|none=>false)&&
 (match zeroCells P x.1 with|some z=>aCU z (NO U0 x.2)|none=>false)&&
 aOg P T x.1 x.2&&
 (match P.info? x.1 with
  |some i=>Nat.beq i.size (dN U0 x.2)&&Nat.beq i.bytes (T.T.by' x.1)&&Nat.ble 1 i.bytes&&(match i.zero with|some z=>Nat.beq z.cells.size i.size&&aCU (ofVs z.cells.toList) (NO U0 x.2)&&z.cells.toList.all bQ|none=>false)
  |none=>false)
def a0N(id:Nat):Bool:=
 (match jU P id with|some b=> !b|none=>false)&&(match iE P id with|some n=>Nat.beq n 1|none=>false)&&(match zeroCells P id with|some z=>aCU z [.v .nilFunc]|none=>false)
variable{P T}
def Xt: ∀{fs:List Field} {ts:List Ty} {o:Nat},aOk T fs ts o=true->fs.length=ts.length/\∀i f,fs[i]?=some f->T.T.ty f.type=ts[i]?/\f.offset=o+eX U0 (ts.take i)
 |[],[],o,_=>⟨rfl,λi f h=>by simp at h⟩
 |f::fs,t::ts,o,h=>by
  simp only[aOk,aC,dJ,aD]at h;obtain⟨⟨h1,h2⟩,h3⟩:=h;obtain⟨g1,g2⟩:=Xt h3;refine⟨by rw[aM,aM,g1],λi f' hf=>?_⟩
  cases i with
  |zero=>
   simp only[aU,aA]at hf;subst hf;refine⟨?_,by rw[h2];simp[eX]⟩
   cases hu:T.T.ty f.type with
   |none=>rw[hu]at h1;cases h1
   |some u=>rw[hu]at h1;rw[Ty.beq_eq h1];rfl
  |succ i=>
   rw[aT]at hf;obtain⟨k1,k2⟩:=g2 i f' hf;refine⟨by rw[k1,aT],by rw[k2,List.take_succ_cons,eX,Nat.add_assoc]⟩
 |[],_::_,_,h=>by cases h
 |_::_,[],_,h=>by cases h
def aOm(P:Program)(T:TP U0.D)(id:TypeId):Bool:=match T.T.ty id with
 |some (.rc n)=>(match P.underlying id with
  |some (.array len e)=>(match U0.fs n with
   |te::_=>(match iE P e with|some z=>Nat.beq z (dN U0 te)|none=>false)&&Nat.beq (U0.fs n).length len&&(U0.fs n).all λt=>t.beq te
   |[]=>false)
  |_=>false)
 |_=>true
def aDI{te:Ty}: ∀{l:List Ty},(l.all λt=>t.beq te)=true->l=List.replicate l.length te
 |[],_=>rfl
 |t::l,h=>by
  simp only[aP,aC]at h;rw[aM,List.replicate_succ,<-aDI h.2,Ty.beq_eq h.1]
def aOl{P:Program}{T:TP U0.D}{id:TypeId}{n:Nat}(h:aOm P T id=true)(ht:T.T.ty id=some (.rc n)): ∃len e te,P.underlying id=some (.array len e)/\iE P e=some (dN U0 te)/\U0.fs n=List.replicate len te:=by
 unfold aOm at h;rw[ht]at h;simp only at h;split at h
 .rename_i len e hu;split at h
  .rename_i te l hf;simp only[aC]at h;obtain⟨⟨h1,h2⟩,h3⟩:=h;refine⟨len,e,te,hu,?_,?_⟩
   .split at h1
    .rename_i z hz;rw[hz,aE h1]
    .cases h1
   .have:=aDI h3;rw[aE h2]at this;exact this
  .cases h
 .cases h
def a8l{l:List (Nat×Ty)}(hl:T.T.ty=P0 l)(h:l.all (B8 P T)=true)(fj: ∀id,T.T.fn id=true->a0N P id=true)(tg: ∀id,T.T.arr id=true->∀fs,P.underlying id≠some (.struct fs))(kr: ∀id,T.T.arr id=true->aOm P T id=true)
    (heq: ∀id n f,T.T.ty id=some (.rc n)->U0.eq n=some f->∀(x y:U0.D n) (a b:Operand),
      lB P .eql id a b (.agg (U0.en n x)) (.agg (U0.en n y))=some (.v (.bool (f x y)))/\lB P .neq id a b (.agg (U0.en n x)) (.agg (U0.en n y))=some (.v (.bool (!f x y)))):rN P U0 T:=by
 have one: ∀id t,T.T.ty id=some t->B8 P T (id,t)=true:=λid t ht=>bJ.1 h _ (Bs (by rw[<-hl];exact ht))
 have un: ∀id t,T.T.ty id=some t->aOg P T id t=true:=λid t ht=>by
  have:=one id t ht;simp only[B8,aC]at this;exact this.1.2
 refine⟨λid t ht=>?_,λid t ht=>?_,λid t ht=>?_,λid t ht=>?_,λid hf=>?_,λid t ht=>?_,λid n ht ha=>?_,λid n ht ha=>?_,heq⟩
 .have:=one id t ht;simp only[B8,aC]at this;have h1:=this.1.1.1.1;split at h1
  .rename_i b hb;rw[hb];rw[eq_of_beq h1]
  .cases h1
 .have:=one id t ht;simp only[B8,aC]at this;have h1:=this.1.1.1.2;split at h1
  .rename_i b hb;rw[hb];rw[aE h1]
  .cases h1
 .have h1:=un id t ht;unfold aOg at h1;split at h1
  .rename_i k j hj;rw[of_decide_eq_true h1];exact hj
  .rename_i hj;exact hj
  .rename_i hj;exact hj
  .rename_i e i hj;simp only[aC]at h1;obtain⟨h2,h3⟩:=h1;refine⟨i,hj,?_,?_⟩
   .split at h2
    .rename_i u hu;rw[hu,Ty.beq_eq h2]
    .cases h2
   .split at h3
    .rename_i j hj2;rw[hj2,aE h3]
    .cases h3
  .rename_i n fs hj;simp only[aC]at h1;obtain⟨g1,g2⟩:=Xt h1.1;intro _;refine⟨fs,hj,by simpa using g1,λi f hf=>?_⟩
   obtain⟨k1,k2⟩:=g2 i f (by rw[Array.getElem?_toList];exact hf)
   exact⟨k1,by rw[k2,Nat.zero_add];rfl⟩
  .rename_i n _ _;intro ha;rw[h1]at ha;cases ha
  .cases h1
 .have:=one id t ht;simp only[B8,aC]at this;have h1:=this.1.1.2;split at h1
  .rename_i b hb;rw[hb,KX h1]
  .cases h1
 .have h1:=fj id hf;simp only[a0N,aC]at h1;obtain⟨⟨h1,h2⟩,h3⟩:=h1;refine⟨?_,?_,?_⟩
  .split at h1
   .rename_i b hb;rw[hb];simpa using h1
   .cases h1
  .split at h2
   .rename_i b hb;rw[hb,aE h2]
   .cases h2
  .split at h3
   .rename_i b hb;rw[hb,KX h3]
   .cases h3
 .have:=one id t ht;simp only[B8,aC]at this;have h1:=this.2;split at h1
  .rename_i i hi;simp only[aC]at h1;obtain⟨⟨⟨h1,h2⟩,h3⟩,h4⟩:=h1;split at h4
   .rename_i z hz;simp only[aC]at h4;exact⟨i,z,hi,aE h1,aE h2,by rwa [Nat.ble_eq]at h3,hz,aE h4.1.1,KX h4.1.2,h4.2⟩
   .cases h4
  .cases h1
 .have h1:=un id _ ht;unfold aOg at h1;split at h1
  .rename_i e _;cases e
  .rename_i e _;cases e
  .rename_i e _;cases e
  .rename_i e _;cases e
  .rename_i n' fs e hj;cases e;simp only[aC]at h1;have h2:=h1.2;split at h2
   .rename_i pl de;exact⟨fs,pl,hj,de,XS h2⟩
   .cases h2
  .rename_i e _ _;rw[h1]at ha;cases ha
  .cases h1
 .exact aOl (kr id ha) ht
end
section
variable{P:Program}{t:TypeId}
def a3o(s u:List UInt8):((⟨s.toArray⟩:ByteArray)==⟨u.toArray⟩)=decide (s=u):=by
 show(s.toArray==u.toArray)=_;by_cases h:s=u
 .subst h;simp
 .simp[h]
def zH{d:Nat}{t:TypeId}{s u:List UInt8}(h:P.underlying t=some .string):cN P (Op.equalIn (d+1) t (eM s) (eM u))=some (decide (s=u)):=by
 rw[Op.equalIn.eq_2,bM,bV,h,<-a3o];rfl
def V6{d:Nat}{ft:TypeId}{fs:Array Field}{f g:Field}(ht:P.underlying t=some (.struct fs))(hp:P.stoodInHeld t=false)(hs:P.underlying ft=some .string)(hz:jU P ft=some false)
    (hf : fs.toList = [f, g]) (h1 : f.name ≠ "_") (h2 : g.name ≠ "_") (e1 : f.type = ft) (e2 : g.type = ft) (o1 : f.offset = 0) (o2 : g.offset = 1) (s u : G.Y) :
    cN P (Op.equalIn (d+1+1) t (.agg #[eM s.package,eM s.name]) (.agg #[eM u.package,eM u.name]))=some (decide (s=u)):=by
 rw[CO ht hp,hf];have pe: ∀(a b:Value) (k:Nat) (v:Value), #[a,b][k]?=some v->cN P (part ft #[a,b] k)=some v:=by
  intro a b k v hk;unfold part;rw[bM];have hagg:cN P (Go.isAgg ft)=some false:=by
   simp only[Go.isAgg,bM,bV];unfold jU at hz;cases hu:P.underlying ft with
   |none=>rw[hu]at hz;cases hz
   |some d=>
    rw[hu]at hz;simp only[aK,aA]at hz;cases d<;>first|rfl|simp at hz
  rw[hagg];simp only[aL,Bool.false_eq_true,if_false,hk,bS]
 have h0:=λ(x y:Value)=>pe x y 0 x (by simp)
 have h3:=λ(x y:Value)=>pe x y 1 y (by simp)
 simp only[Op.eqFields,h1,h2,e1,e2,o1,o2,ne_eq,not_false_eq_true,if_true,bM,h0,h3,aL];rw[zH hs,aL];cases s with|mk sp sn=>
 cases u with|mk up un=>
 simp only[G.Y.mk.injEq]at*;by_cases c1:sp=up
 .simp only[c1,decide_true,bD,Bool.false_eq_true,if_false,bM,h3,aL];rw[zH hs,aL];by_cases c2:sn=un<;>simp[c2,bS]
 .simp[c1,bS]
def aWC{ft:TypeId}{fs:Array Field}{f g:Field}(ht:P.underlying t=some (.struct fs))(hp:P.stoodInHeld t=false)(hs:P.underlying ft=some .string)(hz:jU P ft=some false)
    (hf : fs.toList = [f, g]) (h1 : f.name ≠ "_") (h2 : g.name ≠ "_") (e1 : f.type = ft) (e2 : g.type = ft) (o1 : f.offset = 0) (o2 : g.offset = 1) (s u : G.Y) :
    cN P (Op.equal t (.agg #[eM s.package,eM s.name]) (.agg #[eM u.package,eM u.name]))=some (decide (s=u)):=by
 unfold Op.equal;rw[show Op.maxDepth=9998+1+1 from rfl];exact V6 ht hp hs hz hf h1 h2 e1 e2 o1 o2 s u
def Pc{ft:TypeId}{fs:Array Field}{f g:Field}(ht:P.underlying t=some (.struct fs))(hp:P.stoodInHeld t=false)(hs:P.underlying ft=some .string)(hz:jU P ft=some false)(hg:P.eqGuardType P.depth t=false)
    (hf : fs.toList = [f, g]) (h1 : f.name ≠ "_") (h2 : g.name ≠ "_") (e1 : f.type = ft) (e2 : g.type = ft) (o1 : f.offset = 0) (o2 : g.offset = 1) (s u : G.Y) (a b : Operand) :
    lB P .eql t a b (.agg (G.eSymbol s)) (.agg (G.eSymbol u))=some (.v (.bool (decide (s=u))))/\lB P .neq t a b (.agg (G.eSymbol s)) (.agg (G.eSymbol u))=some (.v (.bool (!decide (s=u)))):=by
 have he:=aWC ht hp hs hz hf h1 h2 e1 e2 o1 o2 s u;have jb: ∀op,lB P op t a b (.agg (G.eSymbol s)) (.agg (G.eSymbol u))=(iC P op t a b (.agg #[eM s.package,eM s.name]) (.agg #[eM u.package,eM u.name])).map A3:=λop=>by
  simp only[lB,G.eSymbol,aR,aCP,Rg,pY,aK,iC,eM,cX,bQ,aP,List.all_nil,Bool.and_self,aI]
 have hg1: ∀op,op=BinOp.eql∨op= .neq->cN P (eqGuard op t a b (.agg #[eM s.package,eM s.name]) (.agg #[eM u.package,eM u.name]))=some ():=by
  intro op md;have my:cN P program=some P:=rfl;rcases md with rfl|rfl<;>simp only[eqGuard,bD,Bool.false_eq_true,if_false,bM,my,aL,hg,Bool.not_false,if_true,bS]
 constructor
 .rw[jb,QA (by simp[eM,bQ]) (by simp[eM,bQ]) (hg1 _ (.inl rfl)) he];rfl
 .rw[jb,Qz (by simp[eM,bQ]) (by simp[eM,bQ]) (hg1 _ (.inr rfl)) he];rfl
end
end Go.TV
namespace Go.TV
open Go.AI Go.PI
section
variable{P:Program}{pt t ft:TypeId}{fs:Array Field}{f g:Field}
def aOc(hq:P.underlying pt=some (.array 2 t))(h2z:iE P t=some 2)(hta:jU P t=some true)(ht:P.underlying t=some (.struct fs))(hp:P.stoodInHeld t=false)(hs:P.underlying ft=some .string)(hz:jU P ft=some false)
    (hf : fs.toList = [f, g]) (h1 : f.name ≠ "_") (h2 : g.name ≠ "_") (e1 : f.type = ft) (e2 : g.type = ft) (o1 : f.offset = 0) (o2 : g.offset = 1) (s u : G.Q) :
    cN P (Op.equal pt (.agg #[eM s.a0.package,eM s.a0.name,eM s.a1.package,eM s.a1.name]) (.agg #[eM u.a0.package,eM u.a0.name,eM u.a1.package,eM u.a1.name]))=some (decide (s=u)):=by
 unfold Op.equal;rw[show Op.maxDepth=9997+1+1+1 from rfl,Op.equalIn.eq_2,bM,bV,hq]
 simp only[aL];rw[bM,dK,h2z];simp only[aL];have pe: ∀(a b c d:Value) (k:Nat),cN P (part t #[a,b,c,d] k)=some (.agg (#[a,b,c,d].extract k (k+2))):=λa b c d k=>by
  unfold part;rw[bM,pP,hta];simp only[aL,if_true,bM,dK,h2z,bS]
 have x0: ∀a b c d:Value,(#[a,b,c,d]:Array Value).extract (0*2) (0*2+2)= #[a,b]:=λa b c d=>rfl
 have x1: ∀a b c d:Value,(#[a,b,c,d]:Array Value).extract (1*2) (1*2+2)= #[c,d]:=λa b c d=>rfl
 have hd: ∀a b:G.Y,cN P (Op.equalIn (9997+1+1) t (.agg #[eM a.package,eM a.name]) (.agg #[eM b.package,eM b.name]))=some (decide (a=b)):=V6 ht hp hs hz hf h1 h2 e1 e2 o1 o2;have e3:decide (s=u)=(decide (s.a0=u.a0)&&decide (s.a1=u.a1)):=by
  cases s with|mk a b=>
  cases u with|mk a' b'=>
  simp only[G.Q.mk.injEq,Bool.decide_and]
 rw[e3];simp only[Std.Legacy.Range.forIn_eq_forIn_range',Std.Legacy.Range.size,Nat.sub_zero,Nat.add_one_sub_one,Nat.div_one,List.range',List.forIn_cons,List.forIn_nil,bM,pe,aL,x0,x1,hd,Nat.zero_add];by_cases c1:s.a0=u.a0<;>by_cases c2:s.a1=u.a1<;>simp[bS,bM,pe,x1,hd,c1,c2]
def aB1(hq:P.underlying pt=some (.array 2 t))(h2z:iE P t=some 2)(hta:jU P t=some true)(ht:P.underlying t=some (.struct fs))(hp:P.stoodInHeld t=false)(hs:P.underlying ft=some .string)(hz:jU P ft=some false)(hg:P.eqGuardType P.depth pt=false)
    (hf : fs.toList = [f, g]) (h1 : f.name ≠ "_") (h2 : g.name ≠ "_") (e1 : f.type = ft) (e2 : g.type = ft) (o1 : f.offset = 0) (o2 : g.offset = 1) (s u : G.Q) (a b : Operand) :
    lB P .eql pt a b (.agg (G.ePairSymbol s)) (.agg (G.ePairSymbol u))=some (.v (.bool (decide (s=u))))/\lB P .neq pt a b (.agg (G.ePairSymbol s)) (.agg (G.ePairSymbol u))=some (.v (.bool (!decide (s=u)))):=by
 have he:=aOc hq h2z hta ht hp hs hz hf h1 h2 e1 e2 o1 o2 s u;have jb: ∀op,lB P op pt a b (.agg (G.ePairSymbol s)) (.agg (G.ePairSymbol u))=(iC P op pt a b (.agg #[eM s.a0.package,eM s.a0.name,eM s.a1.package,eM s.a1.name]) (.agg #[eM u.a0.package,eM u.a0.name,eM u.a1.package,eM u.a1.name])).map A3:=λop=>by
  simp only[lB,G.ePairSymbol,G.eSymbol,aR,aY,aW,aCP,Rg,pY,aK,iC,eM,cX,bQ,aP,List.all_nil,Bool.and_self,aI]
 have hg1: ∀op,op=BinOp.eql∨op= .neq->cN P (eqGuard op pt a b (.agg #[eM s.a0.package,eM s.a0.name,eM s.a1.package,eM s.a1.name]) (.agg #[eM u.a0.package,eM u.a0.name,eM u.a1.package,eM u.a1.name]))=some ():=by
  intro op md;have my:cN P program=some P:=rfl;rcases md with rfl|rfl<;>simp only[eqGuard,bD,Bool.false_eq_true,if_false,bM,my,aL,hg,Bool.not_false,if_true,bS]
 constructor
 .rw[jb,QA (by simp[eM,bQ]) (by simp[eM,bQ]) (hg1 _ (.inl rfl)) he];rfl
 .rw[jb,Qz (by simp[eM,bQ]) (by simp[eM,bQ]) (hg1 _ (.inr rfl)) he];rfl
end
end Go.TV
namespace Go.TV
open Go.AI Go.PI Go.Proofs
set_option maxRecDepth 20000
def tyL:List (Nat×Ty):=[(2,i6),(3,i6),(4,.bool),(5,(.int .u8)),(6,(.int .u8)),(9,.str),(10,.str),(11,.str),(12,(.int .u64)),(21,(.int .i32)),(22,(.int .u32)),(23,(.sl (.int .u8))),(25,(zS 16)),(28,(.rc 0)),(29,(.rc 0)),(30,(.rc 1)),(31,(.rc 1)),(32,(zS 2)),(33,(.rc 2)),(34,(.rc 2)),(35,(zS 3)),(36,(.rc 3)),(37,(.rc 3)),(40,i6),(41,(zS 4)),(42,(.rc 5)),(43,(.rc 5)),(44,i6),(49,(zS 6)),(51,(.rc 6)),(52,(.rc 6)),(53,(zS 1)),(59,(.rc 7)),(60,(.rc 7)),(61,(zS 7)),(65,(.sl (zS 8))),(67,(.rc 8)),(68,(.rc 8)),(69,(zS 8)),(70,(.rc 9)),(71,(.rc 9)),(72,(.rc 10)),(73,(.rc 10)),(74,(.sl (zS 15))),(75,(zS 11)),(76,(.rc 12)),(77,(.rc 12)),(78,(zS 5)),(79,(.int .u64)),(80,(.rc 16)),(81,(.rc 16)),(105,(.rc 4)),(110,(.sl .str)),(137,(.sl i6)),(138,(.rc 17)),(139,(.rc 17)),(142,(zS 9)),(162,(zS 18)),(164,(.rc 18)),(165,(.rc 18)),(171,(zS 19)),(175,(.rc 20)),(176,(.rc 20)),(177,(.rc 19)),(178,(.rc 19)),(184,(.rc 21)),(185,(.rc 21)),(241,(.sl (.int .u32))),(242,(.rc 22)),(243,(.rc 22)),(282,(.int .u64)),(290,i6),(317,(.int .u8)),(318,(.int .u8)),(320,(.int .i32)),(321,(.int .i32)),(324,(zS 15)),(325,(.rc 11)),(326,(.rc 11)),(327,(zS 3)),(328,(zS 13)),(329,(zS 14)),(330,(.rc 15)),(331,(.rc 15)),(332,(.sl (zS 7))),(333,(.rc 13)),(334,(.rc 13)),(335,(.rc 14)),(336,(.rc 14))]
def byL:List (Nat×Nat):=[(2,8),(3,8),(4,1),(5,1),(6,1),(9,16),(10,16),(11,16),(12,8),(21,4),(22,4),(23,24),(25,24),(28,32),(29,32),(30,32),(31,32),(32,24),(33,112),(34,112),(35,24),(36,176),(37,176),(40,8),(41,24),(42,544),(43,544),(44,8),(49,24),(51,200),(52,200),(53,24),(59,208),(60,208),(61,24),(65,24),(67,592),(68,592),(69,24),(70,40),(71,40),(72,240),(73,240),(74,24),(75,24),(76,56),(77,56),(78,24),(79,8),(80,568),(81,568),(105,64),(110,24),(137,24),(138,16),(139,16),(142,24),(162,24),(164,24),(165,24),(171,24),(175,72),(176,72),(177,64),(178,64),(184,56),(185,56),(241,24),(242,32),(243,32),(282,8),(290,8),(317,1),(318,1),(320,4),(321,4),(324,24),(325,152),(326,152),(327,24),(328,24),(329,24),(330,552),(331,552),(332,24),(333,48),(334,48),(335,232),(336,232)]
def elL:List (Nat×Nat):=[(23,5),(25,81),(32,34),(35,37),(41,105),(49,52),(53,31),(61,60),(65,69),(69,68),(74,324),(75,326),(78,43),(110,9),(137,3),(142,71),(162,165),(171,178),(241,22),(324,331),(327,37),(328,334),(329,336),(332,61)]
def fnL:List Nat:=[1,24,26,38,39,46,47,48,50,54,55,56,57,58,62,63,64,66,82,83,84,86,87,89,90,91,92,93,94,95,96,98,99,100,102,103,104,106,107,108,109,111,112,113,114,115,116,117,118,120,121,123,124,125,126,127,128,129,131,132,133,135,136,141,143,144,146,148,150,151,152,153,154,155,156,157,158,159,161,163,166,167,168,169,170,173,179,181,182,186,188,189,190,191,192,193,194,195,196,198,200,201,202,204,206,207,209,210,212,213,214,215,216,218,219,220,221,223,224,225,227,229,230,231,233,235,236,237,238,239,240,244,245,247,248,249,250,251,256,260,261,263,267,268,270,274,276,277,278,279,283,284,286,287,288,289,291,293,294,296,297,298,300,301,306,307,316,319]
def arL:List Nat:=[105]
def tt0:TT:=⟨P0 tyL,λi=>(aGg byL i).getD 0,λi=>eA i fnL,λi=>eA i arL⟩
def bIE(o:Gh)(sig:Nat->Option QJ):TP U0.D:=⟨tt0,aGg elL,sig,o⟩
def aWx(o:Gh)(sig:Nat->Option QJ):tyL.all (B8 Tryz.prog (bIE o sig))=true:=by kernel_rfl
def a3f:fnL.all (a0N Tryz.prog)=true:=by kernel_rfl
def bFw(P:Program)(i:Nat):Bool:=match P.underlying i with|some (.struct _)=>true|_=>false
def a39:arL.all (λi=> !bFw Tryz.prog i)=true:=by kernel_rfl
def aQm(o:Gh)(sig:Nat->Option QJ):arL.all (aOm Tryz.prog (bIE o sig))=true:=by kernel_rfl
def aWD:(tyL.all λx=>match x.2 with| .rc n=>(match U0.eq n with|some _=>eA x.1 [30,31,105]|none=>true)|_=>true)=true:=by kernel_rfl
def aWz(o:Gh)(sig:Nat->Option QJ):rN Tryz.prog U0 (bIE o sig):=by
 refine a8l (l:=tyL) rfl (aWx o sig) (λid h=>?_) (λid h fs e=>?_) (λid h=>bJ.1 (aQm o sig) _ (jI.1 h)) (λid n f h1 h2=>?_)
 .exact bJ.1 a3f _ (jI.1 h)
 .have:=bJ.1 a39 _ (jI.1 h);simp only[bFw,e]at this;cases this
 .have h3:=bJ.1 aWD _ (Bs h1);simp only[h2]at h3;have hn:n=1∨n=4:=by
   match n,f,h2 with
   |0,f,h2=>first|exact .inl rfl|exact .inr rfl|cases h2
   |1,f,h2=>first|exact .inl rfl|exact .inr rfl|cases h2
   |2,f,h2=>first|exact .inl rfl|exact .inr rfl|cases h2
   |3,f,h2=>first|exact .inl rfl|exact .inr rfl|cases h2
   |4,f,h2=>first|exact .inl rfl|exact .inr rfl|cases h2
   |5,f,h2=>first|exact .inl rfl|exact .inr rfl|cases h2
   |6,f,h2=>first|exact .inl rfl|exact .inr rfl|cases h2
   |7,f,h2=>first|exact .inl rfl|exact .inr rfl|cases h2
   |8,f,h2=>first|exact .inl rfl|exact .inr rfl|cases h2
   |9,f,h2=>first|exact .inl rfl|exact .inr rfl|cases h2
   |10,f,h2=>first|exact .inl rfl|exact .inr rfl|cases h2
   |11,f,h2=>first|exact .inl rfl|exact .inr rfl|cases h2
   |12,f,h2=>first|exact .inl rfl|exact .inr rfl|cases h2
   |13,f,h2=>first|exact .inl rfl|exact .inr rfl|cases h2
   |14,f,h2=>first|exact .inl rfl|exact .inr rfl|cases h2
   |15,f,h2=>first|exact .inl rfl|exact .inr rfl|cases h2
   |16,f,h2=>first|exact .inl rfl|exact .inr rfl|cases h2
   |17,f,h2=>first|exact .inl rfl|exact .inr rfl|cases h2
   |18,f,h2=>first|exact .inl rfl|exact .inr rfl|cases h2
   |19,f,h2=>first|exact .inl rfl|exact .inr rfl|cases h2
   |20,f,h2=>first|exact .inl rfl|exact .inr rfl|cases h2
   |21,f,h2=>first|exact .inl rfl|exact .inr rfl|cases h2
   |k+22,f,h2=>first|exact .inl rfl|exact .inr rfl|cases h2
  rcases hn with rfl|rfl
  .cases h2;intro x y a b;have hm:=jI.1 h3;simp only[List.mem_cons,List.not_mem_nil,or_false]at hm;rcases hm with rfl|rfl|rfl
   .exact Pc (ft:=9) Tryz.underlying30 (by kernel_rfl) (by kernel_rfl) (by kernel_rfl) (by kernel_rfl) rfl (by decide) (by decide) rfl rfl rfl rfl x y a b
   .exact Pc (ft:=9) Tryz.underlying31 (by kernel_rfl) (by kernel_rfl) (by kernel_rfl) (by kernel_rfl) rfl (by decide) (by decide) rfl rfl rfl rfl x y a b
   .cases h1
  .cases h2;intro x y a b;have hm:=jI.1 h3;simp only[List.mem_cons,List.not_mem_nil,or_false]at hm;rcases hm with rfl|rfl|rfl
   .cases h1
   .cases h1
   .exact aB1 (ft:=9) Tryz.underlying105 (by kernel_rfl) (by kernel_rfl) Tryz.underlying31 (by kernel_rfl) (by kernel_rfl) (by kernel_rfl) (by kernel_rfl) rfl (by decide) (by decide) rfl rfl rfl rfl x y a b
end Go.TV
namespace Go.TV
open Go.AI Go.PI
def aNa:TC->List Nat->TC
 |c,[]=>c
 | .seq a _,0::l=>aNa a l
 | .seq _ b,_::l=>aNa b l
 | .cond _ a _,0::l=>aNa a l
 | .cond _ _ b,_::l=>aNa b l
 | .block _ c,_::l=>aNa c l
 | .loop _ c,_::l=>aNa c l
 | .scope c,_::l=>aNa c l
 | .cut _ c,_::l=>aNa c l
 | .ice _ c,_::l=>aNa c l
 |c,_=>c
abbrev pX:=List (TV U0.D)
abbrev Rt:=Option pX
abbrev bT:=pF U0.D
abbrev Kt:=TK U0.D pX
structure Cu where
 D:DT U0 pX
 E:DT U0 pX
def pU(ct:Cut){f g:TS U0.D->TM U0.D->Rt}(h: ∀S M,f S M=g S M)(d:pX):rG U0 ct f d=rG U0 ct g d:=by
 have:f=g:=by funext S M;exact h S M
 rw[this]
end Go.TV
namespace Go.Rf
open Go.AI Go.Proofs
def NG (d : Option Nat) (op : Op) (t : TypeId) : Oper := { dst := d, op := op, type := t, pos := "", after := #[], guard := none }
def qL(S:Slots)(k j:Nat)(v:Value):Slots.at (Tr.set S k v) j=if j=k then v else S.at j:=by
 unfold Slots.at;rw[Tr.get_set];split<;>rfl
def at_store(S:Slots)(k j:Nat)(v:Value):Slots.at (S.store (some k) v) j=if j=k then v else S.at j:=qL S k j v
def a1f:Tryz.prog.toTables.follows .mixedOrders=true:=by kernel_rfl
end Go.Rf
namespace Go.AI
variable{P:Program}
def aT9(w0:W0)(P:Program)(f:FuncId)(fn:Func)(c:Code):Prop:=
 ∀(call:FuncId->Array Value->St->Option (Value×St)) (L:Nat) (args:Array Value) (H H':St) (r:Value),
  BU P f args.size=true->fQ P fn (cV P call L c (mW args.toList 0 .nil) H)=some (r,H')->
  args.toList.all bQ=true/\(∃n,H.next<=n/\H'={H with next:=n})/\∃r',(∀Y,VR Y r r')/\
   ∀w,Kept w0.toWorld w->Calls P f args w λe w'=>e= .returned r'/\Kept w w'
def aBM {w0 : W0} {f : FuncId} {fn : Func} {c : Code} (h1 : ∃ fn c, P.funcs[f]? = some fn ∧ fn.body = some c ∧ (fn.name == "runtime.NumGoroutine") = false)
    (h2:aT9 w0 P f fn c):ZF w0 P f fn c:=by
 refine⟨h1,?_⟩;intro call L bj args args' H H' w Y r h ρ hargs kr;obtain⟨hp,⟨n,hn,rfl⟩,r',hr,hc⟩:=h2 call L args H H' r kr h;have e:args'.toList=args.toList:=hargs.eq0 hp;have e':args'=args:=by rw[<-Array.toArray_toList (xs:=args'),e]
 subst e';exact(hc w ρ.kept.toKept).mono λe w' ⟨h5,h6⟩=>⟨Y,r',h5,hr Y,(ρ.keep h6).next hn,.refl _ _,hn⟩
def B5(C:Program)(f:FuncId)(fn:Func):Program:={C with funcs:=⟨C.funcs.toList.set f fn⟩}
def GI{C:Program}{f g:FuncId}{fn nr:Func}(h:(B5 C f fn).funcs[g]?=some nr):(g=f/\nr=fn)∨C.funcs[g]?=some nr:=by
 have h1:(C.funcs.toList.set f fn)[g]?=some nr:=by simpa [B5]using h
 by_cases e:g=f
 .subst e;left;rw[List.getElem?_set]at h1;simp only[if_true]at h1;split at h1
  .exact⟨rfl,(Option.some.inj h1).symm⟩
  .cases h1
 .right;rw[List.getElem?_set,bH (Ne.symm e)]at h1;simpa using h1
def aDf{w0:W0}{C:Program}{f:FuncId}{fn:Func}{c:Code}(hC:zC w0 P C)(hb:fn.body=some c)(hr:ZF w0 P f fn c):zC w0 P (B5 C f fn):=by
 intro g nr c' h1 h2;rcases GI h1 with⟨rfl,rfl⟩|h3
 .right;rw[hb]at h2;cases h2;exact hr
 .exact hC g nr c' h3 h2
end Go.AI
namespace Go.AI
variable{P:Program}
def a58(P:Program):St:=⟨.nil,.nil,P.globals.size⟩
def a1c(P:Program):Mp:=λid=>if id<P.globals.size then some ⟨id,0,0,0⟩else none
def aFq{id:Nat}{p:Place}(h:a1c P id=some p):id<P.globals.size/\p.b=id:=by
 unfold a1c at h;split at h
 .cases h;exact⟨‹_›,rfl⟩
 .cases h
def Ch(id:Nat):(a58 P).get id=none:=rfl
def a8y{w:World}(hg:P.globals.size<=w.heap.size):Sim (W0.of w) P (a1c P) (a58 P) w where
 kept:=KeptO.refl λid p h=>by obtain⟨h1,h2⟩:=aFq h;omega
 dom id h:=by
  unfold a1c;rw[bH (show¬id<P.globals.size from by have:P.globals.size<=id:=h;omega)]
 glob g h:=⟨⟨g,0,0,0⟩,by unfold a1c;rw[bI h],rfl,rfl⟩
 row id p cs m _ h:=by rw[Ch]at h;cases h
 map id p es _ h:=by rw[Ch]at h;cases h
 off i j p q cs ds m n _ _ _ h:=by rw[Ch]at h;cases h
 tip i j p q cs ds m n _ _ _ h:=by rw[Ch]at h;cases h
 maps i j p q es fs _ _ _ h:=by rw[Ch]at h;cases h
 vers id cs m g v h:=by rw[Ch]at h;cases h
 lim i j p q cs ds m n _ _ _ h:=by rw[Ch]at h;cases h
end Go.AI
namespace Go.Rf
open Go.AI Go.Proofs
set_option maxRecDepth 100000
def aNK(d:Nat)(op:BinOp):Oper:=NG (some d) (.binOp op 9 (.tmp 0) (.tmp 1) 9) 4
def a6g(d k:Nat):Oper:=NG (some d) (.binOp .eql 9 (.tmp k) (.const (.string ⟨#[]⟩)) 9) 4
def a6b(v:Int):Code:= .seq (.region 1 #[NG (some 4) (.assign (.const (.int .i64 v))) 3] false) .ret
def bIG:Code:= .seq (.region 0 #[a6g 6 0,a6g 7 1,aNK 8 .eql,aNK 9 .lss] false) (.cond (.tmp 8) (a6b 0) (.cond (.tmp 9) (a6b (-1)) (a6b 1)))
noncomputable def a8D:Func:={Tryz.f170 with body:=some bIG,ntmps:=10}
def bGZ(a b:ByteArray):dG Tryz.prog (do eqGuard .eql 9 (.tmp 0) (.tmp 1) (.string a) (.string b);binOp .eql 9 (.string a) (.string b))=some (.bool (a.toList==b.toList)):=by kernel_rfl
def bGY(a b:ByteArray):dG Tryz.prog (do eqGuard .lss 9 (.tmp 0) (.tmp 1) (.string a) (.string b);binOp .lss 9 (.string a) (.string b))=some (.bool (Op.bytesLess a.toList b.toList)):=by kernel_rfl
def HL: ∀a b:List UInt8,Lib.compareBytes a b=if a==b then 0 else if Op.bytesLess a b then-1 else 1
 |[],[]=>rfl
 |[],_::_=>by simp[Lib.compareBytes,Op.bytesLess]
 |_::_,[]=>by simp[Lib.compareBytes,Op.bytesLess]
 |a::x,b::y=>by
  have ih:=HL x y;by_cases h1:a<b
  .have bp: ¬a=b:=λe=>by subst e;exact absurd h1 (UInt8.lt_irrefl _)
   simp[Lib.compareBytes,Op.bytesLess,h1,bp]
  .by_cases h2:b<a
   .have bp: ¬a=b:=λe=>by subst e;exact absurd h2 (UInt8.lt_irrefl _)
    simp[Lib.compareBytes,Op.bytesLess,h1,h2,bp]
   .have he:a=b:=UInt8.le_antisymm (UInt8.not_lt.1 h2) (UInt8.not_lt.1 h1);subst he;simp[Lib.compareBytes,Op.bytesLess,ih]
end Go.Rf
namespace Go.Rf
open Go.AI Go.Proofs
noncomputable def cdM:Program:=B5 Tryz.prog 170 a8D
end Go.Rf
namespace Go.Rf
open Go.AI Go.Proofs
def clO1:Array Oper:= #[NG (some 3) (.call {callee:= .builtin .len,args:= #[.tmp 0],argTypes:= #[61]}) 3,
 NG (some 4) (.binOp .eql 3 (.tmp 3) (.const (.int .i64 0)) 3) 4]
def clO2:Array Oper:= #[NG (some 5) (.buildSlice 61 0 #[]) 61,NG (some 2) (.slice 61 (.tmp 0) (some (.const (.int .i64 0))) (some (.const (.int .i64 0))) (some (.const (.int .i64 0)))) 61,
 NG (some 6) (.move (.tmp 0)) 61,NG (some 6) (.move (.tmp 0)) 61]
def DA:Code->Code
 | .seq a (.seq (.seq _ (.cond c _ s)) r)=> .seq a (.seq (.seq (.region 1 clO1 false) (.cond c (.seq (.region 2 clO2 false) .ret) s)) r)
 |c=>c
noncomputable def Qa:Code:=Tryz.f160.body.getD .skip
noncomputable def aSx:Func:={Tryz.f160 with body:=some (DA Qa)}
def TZ:Tryz.prog.funcs[160]?=some Tryz.f160:=by kernel_rfl
def X4:Tryz.f160.body=some Qa:=rfl
def aSw:kE Tryz.prog Tryz.f160=true:=by kernel_rfl
section
variable(call:FuncId->Array Value->St->Option (Value×St))(L:Nat)(H:St)
def X5:St:=({H with next:=H.next+7}:St).put (H.next+3) (.cells [] (eG 13))
noncomputable def aP9:Code:=match Qa with| .seq _ (.seq _ r)=>r|_=> .skip
noncomputable def clO3:Array Oper:=match aP9 with| .seq (.region _ o _) _=>o|_=> #[]
noncomputable def CW(k:Nat):Oper:=clO3.toList.getD k (NG none (.move (.tmp 0)) 0)
def a3P:aP9= .seq (.region 3 clO3 false) .ret:=by kernel_rfl
def aQa:clO3.toList=[CW 0,CW 1,CW 2,CW 3]:=by kernel_rfl
def aCg:clO3.size=4:=by kernel_rfl
def dY{P:Program}{ops:Array Oper}{base i:Nat}{o:Oper}{rest:List Oper}{S:Slots}{H H1:St}{v:Value}(hg:o.guard=none)(h:mM P call base i o S H=some (v,H1)):
    fZ P call ops base (o::rest) i S H=fZ P call ops base rest (i+1) (S.store o.dst v) H1:=by
 rw[fZ,wanted,hg];simp only[aI,h]
def zL{P:Program}{ops:Array Oper}{base i:Nat}{o:Oper}{rest:List Oper}{S:Slots}{H:St}(hg:o.guard=none)(h:mM P call base i o S H=none):
    fZ P call ops base (o::rest) i S H=none:=by
 rw[fZ,wanted,hg];simp only[aI,h]
end
end Go.Rf
namespace Go.Rf
open Go.AI Go.Proofs
noncomputable def cdX:Program:=B5 cdM 160 aSx
end Go.Rf
namespace Go.TV
open Go.AI Go.PI Go.Proofs
set_option maxRecDepth 20000
def nT:List Ty:=[i6,(.rc 3),.bool,(.rc 5),.str,(.rc 2),(zS 3),(.rc 1),(zS 1),(zS 16),(zS 2),(zS 7),(.sl i6),(.rc 17),(.rc 0),(.rc 19),(.rc 21),(.rc 20),(.sl (.int .u8)),(.rc 16),(.rc 8),(zS 8),(.int .u8),(.rc 10),(zS 4),(.sl .str),(zS 9),(.int .u32),(zS 6),(.rc 9),(zS 18),(.int .u64),(.sl (zS 8)),(.rc 7),(zS 5),(zS 19)]
def nz:Nat->Nat->List Nat
 |0,_=>[]
 |f+1,n=>bif Nat.blt (n%16) 14 then(n%16)::nz f (n/16)else bif Nat.beq (n%16) 14 then(n/16%256+14)::nz f (n/4096)else(n/16%4096+270)::nz f (n/65536)
def nA{N:Type}(d:N):List N->Nat->N
 |[],_=>d
 |x::_,0=>x
 |_::l,k+1=>nA d l k
abbrev nP(N:Type):=List Nat->N×List Nat
def nK:nP Nat
 |[]=>(0,[])
 |x::l=>(x,l)
def nB:nP Bool:=λl=>match nK l with|(k,l)=>(Nat.beq k 1,l)
def nR{N:Type}(p:nP N):Nat->nP (List N)
 |0,l=>([],l)
 |k+1,l=>match p l with|(x,l)=>match nR p k l with|(r,l)=>(x::r,l)
def nL{N:Type}(p:nP N):nP (List N):=λl=>match nK l with|(k,l)=>nR p k l
def nM{N W:Type}(f:N->W)(p:nP N):nP W:=λl=>match p l with|(x,l)=>(f x,l)
def nQ{N W:Type}(p:nP N)(q:nP W):nP (N×W):=λl=>match p l with|(x,l)=>match q l with|(y,l)=>((x,y),l)
def nY:nP Ty:=nM (nA .bool nT) nK
def nS:nP Sh:=λl=>match l with
 |0::l=>nM (λx=> .lc x.1 x.2.1 x.2.2) (nQ nK (nQ nK (nL nK))) l
 |1::l=>nM (λk=> .lc k 0 []) nK l
 |2::l=>nM (λx=> .cl x.1 x.2) (nQ nK (nL nK)) l
 |3::l=>nM .rw nK l
 |4::l=>nM .row nY l
 |5::l=>(.nl,l)
 |6::l=>(.nf,l)
 |7::l=>nM .ep nY l
 |8::l=>nM .tup (nL nY) l
 |9::l=>(.no,l)
 |k::l=>(.val (nA .bool nT (k-10)),l)
 |[]=>(.no,[])
def nW:nP jF:=λl=>match l with
 |0::l=>([],l)
 |1::l=>([(0,true)],l)
 |_::l=>nL (nQ nK nB) l
 |[]=>([],[])
def nV:nP Cut:=nM (λx=>⟨x.1,x.2⟩) (nQ (nL (nQ nK (nQ nS nW))) (nL (nQ nK (nQ nS nW))))
def nC(f n:Nat):Cut:=(nV (nz f n)).1
def nG(cs:List Cut):Nat->nP aJk
 |0,l=>(.n,l)
 |f+1,l=>match l with
  |0::l=>(.n,l)
  |1::l=>nM (λx=> .r x.1 x.2.1 x.2.2) (nQ (nL nK) (nQ (nL (nQ nK nK)) (nL (nQ nK (nQ nK (nL nK)))))) l
  |2::l=>nM (λx=> .s x.1 x.2) (nQ (nG cs f) (nG cs f)) l
  |3::l=>nM (λx=> .c x.1 x.2) (nQ (nG cs f) (nG cs f)) l
  |4::l=>nM .b (nG cs f) l
  |5::l=>nM (λx=> .l (nA ⟨[],[]⟩ cs x.1) x.2) (nQ nK (nG cs f)) l
  |6::l=>nM .o (nG cs f) l
  |7::l=>nM (λx=> .d (nA ⟨[],[]⟩ cs x.1) x.2) (nQ nK (nG cs f)) l
  |8::l=>nM (λx=> .i x.1 x.2) (nQ (nL nK) (nG cs f)) l
  |9::l=>nM (.s .n) (nG cs f) l
  |10::l=>nM (.r [] []) (nL (nQ nK (nQ nK (nL nK)))) l
  |12::l=>nM (λx=> .l x.1 x.2) (nQ nV (nG cs f)) l
  |13::l=>nM (λx=> .d x.1 x.2) (nQ nV (nG cs f)) l
  |_::l=>nM (λx=> .r x.1 [] x.2) (nQ (nL nK) (nL (nQ nK (nQ nK (nL nK))))) l
  |[]=>(.n,[])
def nI(cs:List Cut)(f n:Nat):cU:=match nQ (nQ nK (nQ (nL (nQ nS nB)) (nQ (nL (nQ nS nW)) (nQ (nL nW) (nQ (nL nY) nB))))) (nG cs 300) (nz f n)with|(x,_)=>⟨⟨x.1.1,x.1.2.1,x.1.2.2.1,x.1.2.2.2.1,x.1.2.2.2.2.1,x.1.2.2.2.2.2⟩,x.2⟩
def HJ:Cut:=nC 25 0xb5fe003e60e20a205fe19060e1a105e70ab5
def aGR:Cut:=nC 28 0xb5fe003e60e20a205fe19060e1a105e70ab0c30e6
def ii0:cU:=⟨⟨3,[(.val (.int .u32),false),(.val (.sl (.int .u8)),false),(.val i6,false)],[],[],[.bool],false⟩,(.s .n (.s (.s (.r [] [] [(0,(1,[]))]) .n) (.s .n (.s (.r [2] [] [(1,(2,[]))]) (.s .n (.s (.r [2] [] [(2,(3,[129]))]) (.s (.r [] [] [(0,(4,[]))]) (.s (.s .n (.b (.l HJ (.s .n (.s (.b (.s (.r [4] [] [(4,(5,[]))]) (.s (.r [4] [] [(4,(6,[]))]) (.s (.r [] [] [(6,(7,[]))]) (.d aGR .n))))) .n))))) (.s (.r [4] [] [(4,(5,[]))]) (.s (.r [0,4] [] [(4,(6,[]))]) .n))))))))))⟩
def aGQ:Cut:=nC 5 0xc01
def a28:cU:=nI [aGQ] 76 0x70ba2b2040043271b20800812a2020041053331b209309709939733b20800812a290210005
def P8:Cut:=nC 14 0x105e3017e00a511ce44
def HI:Cut:=nC 14 0x105e30a7118e6017e04
def aGP:Cut:=nC 14 0x105e3118e6017e00a74
def aGO:Cut:=nC 44 0x10fe10ee10ce109e108e106e105e104e171410deb20fe5ee1118e6017e00a705ee18105e35
def ii2:cU:=⟨⟨6,[(.val (.int .u32),false)],[],[],[zS 16],true⟩,(.s (.r [0] [] []) (.s (.r [1] [] [(0,(10,[]))]) (.s (.r [1] [] [(0,(11,[]))]) (.s (.s .n (.b (.l P8 (.s .n (.s (.b (.r [0,15] [] [])) .n))))) (.s (.r [1] [] [(0,(12,[]))]) (.s (.s .n (.b (.l HI (.s .n (.s (.b (.s .n (.s (.r [] [] [(5,(4,[]))]) (.s (.s (.r [13] [] [(13,(6,[]))]) .n) (.d aGO (.r [0,4] [] [])))))) (.d aGP .n)))))) (.s (.r [0,1] [] []) .n)))))))⟩
def aGN:Cut:=nC 27 0x1a1922b5ae0b5de00ae0305ae1405de170c15e3
def aGM:Cut:=nC 31 0x1a1922b5ae0b5ee00ae0305ae1405ee18005e100104
def aGL:Cut:=nC 24 0x1a1922b5ae0b5de00ae0305ae1405de172
def HH:Cut:=nC 37 0x1a1922b5ae0b5ee00ae0305ae1405ee180aa005e100100a96
def aGK:Cut:=nC 44 0x1a1922b5ae0b5ee0b61e00ae0405ae1405ee18005e100100a90aa061e1b7
def G8:cU:=nI [aGN,aGL,aGM,HH,aGK] 214 0x93131b4700100e3003e40963632b301d11a220100e2121b24293549201d11a22700101e20101e50970102e909b5b7524b390101e20101e5097099497524b390101e20942422b390101e20101e509737523b39401d11a220100e2121b2001700701d11a22939201d41a20c0111b290110100ae1005e00127
def bMs:cU:=nI [] 10 0x7100000e18
def aGJ:Cut:=nC 47 0x110e10ee10de10ce102e101e1372d5ee0b5ce003e5be305ee1805ce16005e00a305be150c05e6
def aGI:Cut:=nC 39 0x110e10ee10de10ce102e101e1372d5ee110e10ee22d60e205ee18060e1a0ad3
def aM7:cU:=nI [aGJ,aGI] 139 0x1760e10ce31312b60e10be21202b3960e10ae21202b3960e109e11a001b23960e108e11a001b23960e107e11a001b23960e106e11a001b23960e105e21202b001b2394929004e116323b290079290032000a0b003e005e49
def aGH:Cut:=nC 57 0x110e10ee10de10ce102e101e1372d5ee110e10ee10de10ce102e101e62d64e0b61e305ee18064e100e104ec061e1b0c30e5
def aGG:Cut:=nC 64 0x110e10ee10de10ce102e101e1372d5ee110e10ee10de10ce102e101e62d64e0b61e0b65e405ee18064e100e061e1b104ec0c02e065e101e6
def aGF:Cut:=nC 64 0x110e10ee10de10ce102e101e1372d5ee110e10ee10de10ce102e101e62d64e0b6ae0b61e405ee18064e100e06ae106e061e1b104ec104ed6
def aGE:Cut:=nC 64 0x110e10ee10de10ce102e101e1372d5ee110e10ee10de10ce102e101e62d64e0b61e0b6be405ee18064e100e061e1b06be107e104ed104ec6
def aGD:Cut:=nC 57 0x110e10ee10de10ce102e101e1372d5ee110e10ee10de10ce102e101e62d64e0b61e305ee18064e100e104ec061e1b0c03af5
def aGC:Cut:=nC 66 0x110e10ee10de10ce102e101e1372d5ee110e10ee10de10ce102e101e1372d64e0b5ce0b74e405ee18064e100e05ce16005e0074e110e0c09ff6
def HG:Cut:=nC 60 0x110e10ee10de10ce102e101e1372d5ee110e10ee10de10ce102e101e62d64e0b5ce305ee180a16e064e100e102e15e05ce16104e14e6
def aGB:Cut:=nC 39 0x110e10ee10de10ce102e101e1372d5ee110e10ee22d64e205ee18064e100e104ec3
def aGA:Cut:=nC 67 0x110e10ee10de10ce102e101e1372d5ee110e10ee10de10ce102e101e62d64e0b61e0b65e405ee18064e100e061e1b104ec0c02e065e101e0c90e7
def SP:Cut:=nC 34 0x110e10ee10de10ce102e101e1372d5ee110e12d64e205ee18064e100e2
def Bw:Cut:=nC 60 0x110e10ee10de10ce102e101e1372d5ee110e10ee10de10ce102e101e62d64e0b61e305ee18064e100e061e1b0a0ae102e09e104e08e6
def Bv:Cut:=nC 64 0x110e10ee10de10ce102e101e1372d5ee110e10ee10de10ce102e101e62d64e0b6fe0b70e405ee18064e100e06fe10be070e10ce104ec0a0de6
def SO:Cut:=nC 56 0x110e10ee10de10ce102e101e1372d5ee110e10ee10de10ce102e101e1372d64e003e75e305ee18064e100e075e111e0c0b7f4
def SN:Cut:=nC 63 0x110e10ee10de10ce102e101e1372d5ee110e10ee10de10ce102e101e62d64e0b5ce305ee18064e100e102e15e05ce16104e14e0a16e0c0ebf7
def SM:Cut:=nC 42 0x110e10ee10de10ce102e101e1372d5ee110e10ee22d64e205ee18064e100e104ec0c63e4
def SL:Cut:=nC 70 0x110e10ee10de10ce102e101e1372d5ee110e10ee10de10ce102e101e62d64e0b69e0b61e405ee18064e100e0a03e069e105e061e1b104ec0c02e0ca7e8
def SK:Cut:=nC 63 0x110e10ee10de10ce102e101e1372d5ee110e10ee10de10ce102e101e62d64e0b61e305ee18064e100e061e1b102e09e104e08e0a0ae0c00cf7
def SJ:Cut:=nC 67 0x110e10ee10de10ce102e101e1372d5ee110e10ee10de10ce102e101e62d64e0b6fe0b70e405ee18064e100e06fe10be070e10ce104ec0a0de0c065f7
def SI:Cut:=nC 64 0x110e10ee10de10ce102e101e1372d5ee110e10ee10de10ce102e101e62d64e0b69e0b61e405ee18064e100e0a03e069e105e061e1b104ec6
def SH:Cut:=nC 60 0x110e10ee10de10ce102e101e1372d5ee110e10de10ce102e101e10ee62d64e0b61e305ee18064e100e061e1b102e09e104e08e0a0ae6
def EV:Cut:=nC 67 0x110e10ee10de10ce102e101e1372d5ee110e10ee10de10ce102e101e62d64e0b6fe0b70e405ee18064e100e06fe10be070e10ce104ec0a0de0a0fe7
def jW:cU:=nI [aGH,aGB,SM,aGG,aGA,SL,SI,aGF,aGE,Bw,SK,SH,aGD,Bv,SJ,EV,aGC,SO,HG,SN,SP] 452 0x6e7000005e701bec00ee08e017e09e309e08e2b242904e5492012e21322b2041b2390011e31302b29390003e7019e501ae62a2018e21202b229002e7010e1010e82a229939031b0017e41402b2200001aea1a242901e549000e79200ee61762b2429d549290c7010e11a223900b70011b3a701dec00ee08e017e09e309e08e2b242995492012e21322b2041b20010e11a22870010e11a2293900017e212103b229770010e11a2299390000ee3017e424303b2267905701bea1a22901ce21a2047013ec1a22370010e11a2293901ee41a000ee300ee9017eb3b933b22027013e81a2217013e0015e2016e33a013e0014e52a3010e11a2030700fed1da2b24239492900ee21322b200ee11212b200de116323b290032000a0b003e005e4a
def aGz:Cut:=nC 19 0xd59e0d58e2059e13058e120c28e3
def P7:Cut:=nC 19 0xd59e0d58e2059e13058e120a53
def aGy:Cut:=nC 5 0xc41
def XF:cU:=nI [aGz,P7,aGy] 44 0x2701fe401fea01ae03e01ae0ae4a42b2015492007929021000d0d2b
def ii8:cU:=nI [] 20 0x41020e22a2901100000e103e
def ii9:cU:=nI [] 22 0x21e21212b2901100102e000e204e
def E8:Cut:=nC 11 0x105e10a3006e23
def KN:cU:=nI [E8] 57 0x13e1024e22702b20023e6196104b42905492022e0111b2001b2001b219100007e
def bMv:cU:=nI [] 302 0x95026e609c0901e0903e026e04e090ae090ee0910e0914e027e16e0918e003e19e091be026e1ce0922e027e25e027e28e092ae003e2be092de026e2ee0934e027e37e027e3ae093ce028e3de093fe026e40e0946e027e4ae094ce003e4de094fe026e50e0955e027e58e003e59e095be026e5ce026e61e0967e096be027e6ee027e70e0974e0978e029e79e097ce097fe02ae81e0983e027e85e0987e003e89e098be098de026e8ee003e94e027e96e003e99e027e9be099de026e9ee32ea1e9ee9de9be96e8ee8de8be87e85e83e7fe7ce78e74e70e6ee6be67e61e5ce5be58e55e50e4fe4ce4ae46e40e3fe3ce3ae37e34e2ee2de2ae28e25e22e1ce1be18e16e14e10e0ee0ae04e03e01ec6529eb2025e21a2092121b20920952522b20800810823a2001b2112e100008e
def bMu:cU:=nI [] 340 0x9309509809d0901e0904e0908e003e0ae090ce090fe0911e0916e091be091de091fe0924e0928e092ae0930e0932e0937e0939e093be093fe0942e0945e0947e0949e094de094fe0953e028e54e0956e0958e095ce095fe0961e0965e0968e096ae096ee0971e0974e0976e0979e097be097fe0981e019e84e02ce8ae098de0990e0992e0994e0999e02ce9ce09a0e09a3e09a6e09a8e09ace09aee09b1e09b3e09b6e09b8e09bae09bfe09c3e02aec4e09c8e09cae028ecce027ecfe09d1e3ded4ed1ecfecaec8ec3ebfebaeb8eb6eb3eb1eaeeacea8ea6ea3ea0e9ce99e94e92e90e8de8ae81e7fe7be79e76e74e71e6ee6ae68e65e61e5fe5ce58e56e53e4fe4de49e47e45e42e3fe3be39e37e32e30e2ae28e24e1fe1de1be16e11e0fe0ce08e04e01ed85339eb20401a202be21a20800810820834a2001b210ee1000c
def TX:Cut:=nC 15 0xae010a100100c04e3
def PJ:cU:=nI [TX] 22 0x79290010100ae10a001209e
def TW:Cut:=nC 40 0x1a1922b5ce0b5de00ae0305ce1605de170a2005e100100ad0c00e7
def PH:cU:=nI [TW] 133 0x102e10101e609809a4a8634b23900101e509727523b23900102e10930953532b23900101e5097099397524b2390092121b23079401d11a220101e3131b290110100ae10a005e00130ae
def TU:Cut:=nC 33 0x1a1922b5ce00ae0205ce160a2005e100100a70c08e6
def TR:Cut:=nC 30 0x1a1922b5ce00ae0205ce160a2005e100100a75
def TQ:Cut:=nC 34 0x1a1922b5ce003e5ee00ae0305ce1605ee180a2005e100105
def E7:Cut:=nC 43 0x1a1922b5ce003e5ee00ae0305ce16102ed05ee180a00e0a2005e100100ab8
def wI:cU:=nI [TU,TR,TQ,E7] 142 0x2ce21212b200101e518503b42935492001b2031e2121b22701d40472a01d4030e72a301d11a202ee002fe12322b22900012de1016e22a23900102e11a23942170079201d11a290110100ae10a005e00130be
def a27:cU:=nI [] 25 0x1d10842a290110100ae100110ce
def bMt:cU:=nI [] 18 0x32e0016e12a290110000de
def E6:Cut:=nC 24 0x1a1922b59e0b57e2059e13057e11102e43
def KM:cU:=nI [E6] 50 0x202b20034e51702b240033e11a220542001b2011b20162000b10ee
def TO:Cut:=nC 32 0xb5be110e10ee10de10ce102e101e62d02001105be150c0fe3
def TN:Cut:=nC 14 0x110e10ee22d0100111
def TL:Cut:=nC 17 0x110e10ee22d0100110c53e2
def BP:Cut:=nC 29 0x110e10ee22d010011107e70a80e104e9007e7ee0a7fe6
def TJ:Cut:=nC 39 0x1de61e110e10ee22d020011107e7007e7ee0a7fe0a80e061e1b104e90c8ee8
def BO:Cut:=nC 26 0x110e10ee22d010a9de0011107e7104e9be0a9ce5
def BN:Cut:=nC 42 0x3e63e110e10ee22d020011107e7104e9be0a9ce0a9de0aa3e063e1d007ea1e0aa2e9
def TI:Cut:=nC 52 0x3e63e01de65e110e10ee22d030011107e7104e9be0a9ce0a9de063e1d007ea1e0aa2e0aa3e065e101e0cb1eb
def TH:Cut:=nC 42 0x3e63e10ee110e22d020011107e7104e9be0a9ce0a9de063e1d007ea1e0aa2e0aa3e9
def jT:cU:=nI [TO,TN,TL,BP,TJ,BO,BN,TI,TH] 202 0x870041b37799429965499429955403ae5151b2200602b04703ee9191b229429935492001b2903de81ca93b2003ce81a22003ae503ae02e03be03e303e02e53b22027036ec1a2217036e3039e5038e63a036e3037e8038e93a3033e11a20307035ed1da2b2429001110e10ee221110e10ee10de10ce102e101e62d10b001005e30fe
def TG:Cut:=nC 28 0xb59e110e10ee102e101e42d0200100c5059e133
def TF:Cut:=nC 31 0xb59e110e10ee102e101e42d0200100c5059e130c14e4
def TE:Cut:=nC 34 0xb5ee110e10ee102e101e42d0205ee1800100a60c50c2be5
def TD:Cut:=nC 28 0xb5ee110e10ee102e101e42d0205ee1800100a63
def yE:cU:=nI [TG,TF,TE,TD] 94 0x3ae403ae703be838743b229379027040ea1a22903fe21a2017036ec1a22079033e11a299001110e10ee221110e10ee10de10ce102e101e62d10b001210e
def TB:Cut:=nC 36 0xb59e0b5be110e10ee10de10ce102e101e62d030010059e1305be153
def Sl:cU:=nI [TB] 71 0x3ae203ae703be838723b2299070033e11a22999001110e10ee102e101e421110e10ee10de10ce102e101e62d10b001211e
def TA:Cut:=nC 36 0xb5be0b59e110e10ee10de10ce102e101e62d03001005be15059e133
def BM:Cut:=nC 30 0x110e10ee102e101e42d0100100a16e104e6002e14e0a15e5
def BL:Cut:=nC 39 0x110e10ee102e101e42d010010104e6002e14e0a15e0a16e0a1de102e1be0a1ce8
def Tz:Cut:=nC 49 0xb60e110e10ee102e101e42d020010104e6002e14e0a15e0a16e102e1be0a1ce0a1de060e1a0c39ea
def Tx:Cut:=nC 39 0x110e102e101e10ee42d010010104e6002e14e0a15e0a16e102e1be0a1ce0a1de8
def rF:cU:=nI [TA,BM,BL,Tz,Tx] 123 0x470031b337042e603aed03be00e043e08e408e00ed3b294299254041e11a29429915492903ae71872b20033e11a22070033e11a2299001110e10ee102e101e421110e10ee10de10ce102e101e62d10b001212e
def Tw:Cut:=nC 32 0xb59e110e10ee10de10ce102e101e62d020010059e130c17e3
def BK:Cut:=nC 45 0xb5ce0b5be110e10ee10de10ce102e101e62d0305ce16001005be150a23e002e21e0a22e6
def Tv:Cut:=nC 48 0xb5ce0b5be110e10ee10de10ce102e101e62d0305ce16001005be15002e21e0a22e0a23e0c42e7
def yD:cU:=nI [Tw,BK,Tv] 92 0x3ae403be82842b2290027043e08e108e1b203ae21322b294299154929007033e11a229001110e10ee221110e10ee10de10ce102e101e62d10b001213e
def Tu:Cut:=nC 37 0xb5be110e10ee10de10ce102e101e1372d02001105be15005e00c11e4
def Tt:Cut:=nC 34 0x3e5de110e10ee10de10ce102e101e1372d0205de1700110c28e3
def Eh:cU:=nI [Tu,Tt] 85 0x17045e503ce62a2044e21202b229007033e1033e82a229001110e10ee10de10ce102e101e13721110e10ee10de10ce102e101e1372d10b001005e314e
def Ts:Cut:=nC 41 0xb5ee0b5de110e10ee10de10ce102e101e1372d0305ee1805de1700110c2ee4
def Tq:Cut:=nC 69 0xb5ee0b5de0b61e0b60e0b5fe0b62e110e10ee10de10ce102e101e1372d0705ee1805de17061e1b0011060e1a05fe19062e1c0c58e8
def BJ:Cut:=nC 78 0xb5ee0b5de0b61e0b60e0b5fe0b62e110e10ee10de10ce102e101e1372d0705ee1805de170ad061e1b0011060e1a05fe19062e1c0a5ce002e5ae0a5beb
def Tp:Cut:=nC 91 0xb5ee0b5de0b61e0b60e0b5fe0b62e0b65e110e10ee10de10ce102e101e1372d0805ee1805de170ad061e1b0011060e1a05fe19062e1c002e5ae0a5be0a5ce0a00e065e101e0c72e00e
def To:Cut:=nC 51 0xb5ee0b5de0b61e110e10ee10de10ce102e101e1372d0405ee1805de170ad061e1b00110c84e6
def Tn:Cut:=nC 78 0xb5ee0b5de0b61e0b60e0b5fe0b62e110e10ee10de10ce102e101e1372d0705ee1805de170ad061e1b0011060e1a05fe19062e1c002e5ae0a5be0a5ceb
def oD:cU:=nI [Ts,Tq,BJ,Tp,Tn,To] 122 0x57046e703ce82a220470037043e02e102e1b2294299254929017036e09e1a229007035e0ae035e11e211e0ee0ae3b2290033e11a229001110e10ee10de10ce13521110e10ee10de10ce102e101e1372d10b001005e315e
def BI:Cut:=nC 50 0xb5be0b5de110e10ee10de10ce102e101e1372d030a06e05be150010104e905de17102e04e0a05e7
def Tm:Cut:=nC 60 0xb5be0b5de0b61e110e10ee10de10ce102e101e1372d0405be150010104e905de17102e04e0a05e0a06e061e1b0c23e9
def CV:cU:=nI [BI,Tm] 93 0x17040ea03ce01e03ae08e03be09e409e08e2b294299054041e11a2203ae41542b29001110e10ee102e101e13521110e10ee10de10ce102e101e1372d10b002e0b001416e
def E5:Cut:=nC 24 0x1a1922b59e0b57e2059e13057e11102e43
def KL:cU:=nI [E5] 50 0x202b20047e51702b240010e11a220542001b2011b20162000b117e
def BH:Cut:=nC 11 0x104e30a4002e03
def Tl:Cut:=nC 14 0x104e3002e00a4104e54
def BG:Cut:=nC 17 0x104e3002e00a40a6104e55
def Tk:Cut:=nC 17 0x104e3002e00a4104e50a65
def uI:cU:=nI [BH,Tl,BG,Tk] 85 0x102b2003700702b3049e5151b2429254917048e400ee52652b061b392001b242905492001b2001b218100002e118e
def Tj:Cut:=nC 15 0x3e59e1059e13005e00c00e3
def BF:Cut:=nC 15 0x3e59e10a5059e13005e03
def Ti:Cut:=nC 15 0x3e59e1059e13005e00a53
def BE:Cut:=nC 18 0x3e59e1059e13005e00a50a64
def Th:Cut:=nC 21 0x3e59e1059e13005e00a50a60c2de5
def qI:cU:=nI [Tj,BF,BE,Th,Ti] 50 0x47003794292549942915492007013e1013e52a22902100003e005e202e
def Tg:Cut:=nC 5 0xc61
def Sj:cU:=nI [Tg] 23 0x7013e71a29021000a000e0b319e
def Tf:Cut:=nC 48 0x110e10ee10de10ce102e101e1372d5ce0d5ae0b5fe0b5ee405ce1605ae1405fe1905ee180c30e5
def Te:Cut:=nC 76 0x110e10ee10de10ce102e101e1372d5ce0d5ae0b5fe0b5ee0b62e0b61e0b60e0b63e805ce1605ae1405fe1905ee18062e1c061e1b060e1a063e1d0c5be9
def BD:Cut:=nC 79 0x110e10ee10de10ce102e101e1372d5ce0d5ae0b5fe0b5ee0b62e0b61e0b60e0b63e805ce1605ae1405fe1905ee180a00e062e1c061e1b060e1a063e1d0a01ea
def Td:Cut:=nC 82 0x110e10ee10de10ce102e101e1372d5ce0d5ae0b5fe0b5ee0b62e0b61e0b60e0b63e805ce1605ae1405fe1905ee180a00e062e1c061e1b060e1a063e1d0a01e0c75eb
def Tc:Cut:=nC 58 0x110e10ee10de10ce102e101e1372d5ce0d5ae0b5fe0b5ee0b62e505ce1605ae1405fe1905ee180a00e062e1c0c9ee7
def Tb:Cut:=nC 79 0x110e10ee10de10ce102e101e1372d5ce0d5ae0b5fe0b5ee0b62e0b61e0b60e0b63e805ce1605ae1405fe1905ee180a00e062e1c061e1b060e1a063e1d0a01ea
def E4:Cut:=nC 82 0x110e10ee10de10ce102e101e1372d5ce0d5ae0b5fe0b5ee0b62e0b61e0b60e0b63e805ce1605ae1405fe1905ee180a00e062e1c061e1b060e1a063e1d0a01e0a02eb
def mE:cU:=nI [Tf,Te,BD,Td,Tb,E4,Tc] 89 0x6704ae701ae82a2200554947903792429254929017013e09e1a22900700fe0ae00fe11e211e0ee0ae3b2290010e11a2290032000b0d005e326e
def E3:Cut:=nC 11 0x102e30a4002e03
def KK:cU:=nI [E3] 44 0x102b2004be516503b42905492001b2001b216100002e122e
def a26:cU:=nI [] 10 0x7100000e11ae
def a25:cU:=nI [] 18 0x32e0016e12a290110001be
def a24:cU:=nI [] 18 0x13e004ce12a290510001de
def a23:cU:=nI [] 10 0x1100001e11ce
def EZ:Cut:=nC 11 0xa5004e0104e13
def KJ:cU:=nI [EZ] 31 0x4de5151b242905492902100104e004e21ee
def a22:cU:=nI [] 29 0x4fe41a2904ee2121b290206e200003e005e224e
def a21:cU:=nI [] 92 0x21e202ce7050ea050eb050ec5722b2050e202ce7021e93972b202ce5021e72752b202ce402ce92942b2013e0020e1013e2020e3013e4020e56a2901100003e125e
def Ta:Cut:=nC 5 0xc41
def Si:cU:=nI [Ta] 26 0x7051e03e052e0ae20ae1b29021000b0b206e
def S9:Cut:=nC 5 0xc21
def Sg:cU:=nI [S9] 25 0x7013e31a2053e11a2902100003e121e
def a2Z:cU:=nI [] 11 0x20200003e120e
def a2Y:cU:=nI [] 17 0x53e11a2902100003e123e
def S8:Cut:=nC 15 0xb58e1007e5058e120c0be3
def BB:Cut:=nC 15 0xb58e1007e5058e120a73
def EY:Cut:=nC 18 0xb58e1007e5058e120a70a84
def BA:Cut:=nC 14 0x114e90ab007e5104ea4
def Bz:Cut:=nC 17 0x114e9007e5104ea0ab0ac5
def S7:Cut:=nC 20 0x114e9007e5104ea0ab0ac0c50e6
def S6:Cut:=nC 17 0x114e9007e5104ea0ab0ac5
def lE:cU:=nI [S8,BB,EY,BA,Bz,S7,S6] 129 0x102b200670000e02b357942945494293549200ee21322b2001b20000001b239429254900001b23924291549200001b230701ae51a22054e216433b2021b210ae1000b0b21fe
def EX:Cut:=nC 11 0xa5002e1002e03
def KI:cU:=nI [EX] 30 0x1ae81a2429054929902100002e002e227e
def bMr:cU:=nI [] 10 0x1100003e130e
def bMq:cU:=nI [] 25 0x13e102ce32322b2901100102e000e231e
def a2X:cU:=nI [] 36 0x102b2055e0056e1057e2374324b2001b20a100037e
def a3O:Cut:=nC 64 0x10fe10ee10de10ce109e108e107e106e105e104e1714c20fe5ae116e115e10be10ae125210e5de205ae1405de17005e0006e50aa006e86
def a3N:Cut:=nC 57 0x10fe10ee10de10ce109e108e107e106e105e104e1714c20fe5ae116e115e123210e5de205ae1405de17111eb005e0006e55
def a3M:Cut:=nC 44 0x10fe10ee10de10ce109e108e107e106e105e104e1714c20fe5ae121210e5de205ae1405de172
def bMp:cU:=nI [a3O,a3N,a3M] 113 0x270059e313103b3905ae11102b22170059e3131b3905ae1111b22059e8181b2021b20011b42905492058e317543b2015e4016e52a2058e115323b29005e100001e005e238e
def a3L:Cut:=nC 11 0x104e10a3006e23
def a3K:Cut:=nC 11 0x104e10a7115e63
def bMo:cU:=nI [a3L,a3K] 81 0x102b20013e51802b42915492011b200702b058e418653b242905492022e0111b205be0111b2001b218100039e
def bMn:cU:=nI [] 41 0x3e2029e3095029e7003e809a09c7ca53b29011000b0b23ae
def a3J:Cut:=nC 40 0x116e115e10be10ae100e1d127210e5ee121210e5fe205ee1805fe190aa115e14
def bMm:cU:=nI [a3J] 42 0x46111b42905492041029e22a29006e1000b0b115e000e43be
def bMl:cU:=nI [] 25 0x4102ce32322b2901100102e000e22ce
def bMk:cU:=nI [] 20 0x5ce1016e22a29011000a129e
def bMj:cU:=nI [] 18 0x15e0016e12a290110003ce
def bMi:cU:=nI [] 24 0x3e2094241b29011000b0b22be
def bMh:cU:=nI [] 21 0x93131b29011000b0b228e
def a2W:cU:=nI [] 12 0x1100102e003e22ae
def S5:Cut:=nC 28 0x161201e5ae00ae0205ae140a100100a50c03e5
def S4:Cut:=nC 25 0x161201e5ae00ae0205ae140a100100a54
def SZ:Cut:=nC 28 0x161201e5ae00ae0205ae140a100100a06e0c0de5
def SY:Cut:=nC 25 0x161201e5ae00ae0205ae140a100100c2ee4
def EW:Cut:=nC 31 0x161201e5ae00ae0205ae14106e60a80a100100a76
def sE:cU:=nI [S5,S4,SZ,SY,EW] 194 0x12de405fe52a2012de31a200060e11102b20012de41702b4294549201d11a2001b23379005ce01a239005ce01a239001d105ee32a239001d104404ce53a239005de01a239005de01a239001d105ce32a232790015e01a2390032e01a239492170079201d11a290510100ae10a00123de
def a2V:cU:=nI [] 18 0x11b2001b210be10002de
def a2U:cU:=nI [] 18 0x11b2001b210be10002ee
def bMg:cU:=nI [] 10 0x7100000e100e
def a2T:cU:=nI [] 30 0x18e21202b29053e11a29020200003e005e23ee
def a2S:cU:=nI [] 18 0x13e004ce12a290510003fe
def SX:Cut:=nC 5 0xc61
def Sf:cU:=nI [SX] 23 0x7036e71a29021000a000e0b340e
def SW:Cut:=nC 12 0xb57e1057e110cb2
def PF:cU:=nI [SW] 46 0x21b200034e4034e92b1b2307033e1061e72a22011b2161000b141e
def SU:Cut:=nC 15 0x3e59e1059e13005e00c02e3
def By:Cut:=nC 18 0x3e59e10a05e059e13005e03e0a04e4
def SS:Cut:=nC 18 0x3e59e1059e13005e03e0a04e0a05e4
def Bx:Cut:=nC 27 0x3e59e1059e13005e03e0a04e0a05e0a0fe01ee0de0a0ee7
def SQ:Cut:=nC 30 0x3e59e1059e13005e03e0a04e0a05e01ee0de0a0ee0a0fe0c1be8
def qH:cU:=nI [SU,By,Bx,SQ,SS] 54 0x470037994299254999429915492007036e1036e52a22902100003e005e201e
def a2R:cU:=nI [] 10 0x7100000e12fe
def a2Q:cU:=nI [] 15 0x62e11a2905100043e
def a2P:cU:=nI [] 17 0x63e11a2901100001e142e
def a2O:cU:=nI [] 15 0x62e11a2905100044e
def a2N:cU:=nI [] 25 0x64e112103b2001b218100002e146e
def EU:Cut:=nC 14 0xa9104e1004e70a84
def KH:cU:=nI [EU] 33 0x3ee2121b29429905492902100104e004e245e
def SG:Cut:=nC 5 0xc41
def Se:cU:=nI [SG] 26 0x7065e03e066e0ae20ae1b29021000b0b233e
def a2M:cU:=nI [] 31 0x67e5186544b2021b212b200007e0b0b347e
def ET:Cut:=nC 18 0x3e59e10a9059e13004e70a84
def KG:cU:=nI [ET] 19 0x5492902100003e004e248e
def a2L:cU:=nI [] 11 0x20200003e149e
def SF:Cut:=nC 5 0xc21
def Sd:cU:=nI [SF] 22 0x7042e1036e52a2902100003e14ae
def ER:Cut:=nC 14 0x102e30a00e002ec0ad4
def SE:Cut:=nC 5 0x102e31
def Eg:cU:=nI [ER,SE] 50 0x102b21700041e21402b942990549392021b2011b2161000b14be
def a2K:cU:=nI [] 17 0x68e11a2902100003e14ce
def EQ:Cut:=nC 18 0xb59e10a9059e13002e70a84
def KF:cU:=nI [EQ] 31 0x3ce21a294299054929021000b002e24de
def a2J:cU:=nI [] 29 0x6ae41a29069e2121b290206e200003e005e24ee
def a2I:cU:=nI [] 114 0x57e16ce306de506de93952b257e16ce306de806deb3b82b257e16ce357e16ce706dea57e16ce00e06de02e502ea2b257e16ce357e16ce706de9391b2037e0038e12a29036e006be1036e206be3036e406be56a2901100003e14fe
def a2H:cU:=nI [] 31 0x5be5ae26ee21a2003ce21a229011000b0b0b350e
def SD:Cut:=nC 12 0xb57e1057e110cb2
def PE:cU:=nI [SD] 46 0x21b200047e4047e92b1b2307010e106fe72a22011b2161000b151e
def a2G:cU:=nI [] 31 0x212b200001b2392011b2061000b152e
def EP:Cut:=nC 15 0x3e59e10a5059e13004e03
def KE:cU:=nI [EP] 19 0x5492902100003e004e253e
def EO:Cut:=nC 41 0x1a1922b5ce0b59e0b5be0b5ae405ce16102e7059e130a805be1505ae146
def KD:cU:=nI [EO] 55 0x2ce31322b2004ae81b02b42905492001b29001ae21a229011000b0b0b35ce
def Bu:Cut:=nC 18 0xb59e1102e0059e130c50a64
def SC:Cut:=nC 21 0xb59e1102e0059e130c50a60c01e5
def SB:Cut:=nC 12 0xb59e1102e0059e132
def EN:Cut:=nC 15 0xb59e1102e00a7059e133
def SA:Cut:=nC 5 0x102e01
def rE:cU:=nI [Bu,SC,SB,EN,SA] 76 0x102b2470004be617603b42935493922700402b392001ae51a4201792054929011b2161000b102e258e
def a2F:cU:=nI [] 10 0x5100003e154e
def EM:Cut:=nC 15 0x3e59e10a5059e13004e03
def KC:cU:=nI [EM] 19 0x5492902100003e004e255e
def Bt:Cut:=nC 15 0x3e59e10a7059e13005e03
def EL:Cut:=nC 21 0x3e59e1059e13005e00a70a9011e85
def Bn:cU:=nI [Bt,EL] 37 0x154904fe4151b24290549290200300003e005e259e
def Sz:Cut:=nC 12 0xfe57e1057e110c52
def PD:cU:=nI [Sz] 35 0x1b2000212b23079492011b2007e10000fe15ae
def bMf:cU:=nI [] 24 0x14e2021e4241b29011000b0b25be
def Sy:Cut:=nC 19 0x1e59e001e58e2059e13058e120c21e3
def EK:Cut:=nC 19 0x1e59e001e58e20a5059e13058e123
def CU:cU:=nI [Sy,EK] 34 0x51ea1a24291549200792902100001e001e235e
def EJ:Cut:=nC 11 0xa5002e1002e03
def KB:cU:=nI [EJ] 30 0x1ae81a2429054929902100002e002e236e
def EI:Cut:=nC 15 0x3e57e10a511ae4057e113
def KA:cU:=nI [EI] 27 0x5492070e0111b299020200003e157e
def Sx:Cut:=nC 25 0xb5ae0b59e205ae14059e13007e20c90c0de5
def Sw:Cut:=nC 22 0xb5ae0b59e2007e205ae14059e130c2ce4
def CT:cU:=nI [Sx,Sw] 115 0x72e5186544b200001b231792000102b200001b2301ae21a223900c1b2000102b239200001b230701ae41a22071e3131b239492021b202b200007e0b0b356e
def a2E:cU:=nI [] 18 0x21b2001b210ce100065e
def aF3:cU:=nI [] 8 0x4100066e
def wA:Cut:=nC 19 0x9e5de00de73e205de17106eb073e1a3
def LO:Cut:=nC 25 0x9e5de00de73e205de17073e1a106eb0ac0c3ce5
def tE:cU:=nI [wA,LO] 115 0x202b20402b00074e1121b23076e11a2200011b239273e175e11a200074e1121b23179929490542001b2900011b2392073e116323b2001b20da200000e000e116e364e
def aP4:Cut:=nC 12 0x1e57e1106e4057e112
def bGm:cU:=nI [aP4] 62 0x102b200001b23078e11a2200702b240077e11a220542001b2011b212a200001e167e
def bGl:cU:=nI [] 33 0x7ae11a22964e179e21a299001200001e011e005e368e
def aP3:Cut:=nC 21 0x161201e5ae105ae140a6000e1006e04
def aP2:Cut:=nC 27 0x161201e5ae105ae14000e1006e00a6006e70c18e6
def bGk:cU:=nI [aP3,aP2] 42 0x17013ec1a2058e418653b2429054929025200000e006e269e
def aP1:Cut:=nC 11 0x104e20a311ae13
def bGj:cU:=nI [aP1] 49 0x102b20013e61902b42905492001b2070e0111b2001b21810006ae
def bGi:cU:=nI [] 20 0x7be105de22a29051000a15de
def bGh:cU:=nI [] 19 0x7ce21a2905100000e000e26be
def bGg:cU:=nI [] 10 0x5100000e16ce
def bGf:cU:=nI [] 12 0x5100001e001e26ee
def aP0:Cut:=nC 25 0x161201e58e001e59e2058e12059e130a4006e04
def bGe:cU:=nI [aP0] 31 0x5fe51a42905492032e01a2905100006e16de
def LN:Cut:=nC 5 0xc21
def Et:cU:=nI [LN] 19 0x707de61a29021000b16fe
def aF2:cU:=nI [] 10 0x5100003e171e
def aF1:cU:=nI [] 10 0x1100001e170e
def AH:Cut:=nC 25 0x104e5be0a59e205be150aa059e13002e80a95
def Ah:cU:=nI [AH] 42 0x102b205be59e27ee21a94299054929011b2181000a002e272e
def vZ:Cut:=nC 16 0x1e59e001e58e2059e13058e122
def LM:Cut:=nC 19 0x1e59e001e58e2059e13058e120c22e3
def AG:Cut:=nC 25 0x1e59e001e58e2059e13058e120a50a2ae0a29e5
def oU:cU:=nI [vZ,LM,AG] 42 0x65ea1a2942992549299017924054902100001e001e25fe
def AF:Cut:=nC 19 0xa03e0033e22002e1002e01e0a02e5
def Ag:cU:=nI [AF] 37 0x3ce31a29942990549299021000033e2002e002e360e
def AE:Cut:=nC 17 0x107e80a08e102e1002e06e0a07e5
def Af:cU:=nI [AE] 84 0x102b200102b00001b2392080e61a87655b2942990549207fe112103b200001b2392001b212b200007e102e102e373e
def LL:Cut:=nC 8 0xe80cb2
def LK:Cut:=nC 5 0xc06e1
def xB:cU:=nI [LL,LK] 28 0x1790307903949299020200003e174e
def AD:Cut:=nC 18 0x3e59e10ad059e13005eb0ac4
def Ae:cU:=nI [AD] 39 0x6ae159e181e3231b2942990549290200300003e005e275e
def LJ:Cut:=nC 12 0xfe57e1057e110c52
def Cg:cU:=nI [LJ] 35 0x1b2000212b23079492011b2007e10000fe176e
def bGd:cU:=nI [] 10 0x1100003e15ee
def bGc:cU:=nI [] 27 0x82e4141b2901101003e10010b0b377e
def bGb:cU:=nI [] 22 0x82e31322b2901100102e000e279e
def AC:Cut:=nC 51 0x1a1922b5ae0b58e01465e0b10b0505ae14058e12065e350a05e01027be21002e03e0a04e7
def Ad:cU:=nI [AC] 55 0x11e210112010283e41a9429905492041b2990110020b0b201027be20b27ae
def aF0:cU:=nI [] 20 0x14e101ae22a29021000b17ce
def aFZ:cU:=nI [] 18 0xce1b2001b2110e10007fe
def AB:Cut:=nC 27 0x1a1922b5ae003e59e205ae140a6007e0059e134
def Ac:cU:=nI [AB] 20 0x54929021200003e007e27de
def AA:Cut:=nC 14 0x7e20a8002e1002e04
def Ab:cU:=nI [AA] 72 0x102b200102b00001b2392054e91dba985b24290549200001b2392001b202b200007e002e002e37ee
def Az:Cut:=nC 18 0x9e59e111fe4059e13000e00a54
def Cf:cU:=nI [Az] 91 0x402b200011b2392085e21a2000702b239200074e2131b2392084e21a240549001b200074e0111b2392001b20d15e200000e185e
def bGa:cU:=nI [] 12 0xd1000a0a286e
def LI:Cut:=nC 52 0x9e5be161201e5ae161201e5de00be5ce00de0505be1505ae140a1001005de1705ce160a0ae0c11e8
def LH:Cut:=nC 46 0x9e5be161201e5ae00be5ce161201e5de00de0505be1505ae1405ce1605de17000e800106
def wZ:cU:=nI [LI,LH] 136 0x186e31a200013e004ce1060e4341b290175e31a2392900074e31a23920004ce11a200074e41a2392087e7171b21799939005ee21a29390390074e31a230790074e31a2394929990d520100de10a001287e
def aFY:cU:=nI [] 17 0x88e11a2900100001e188e
def aPZ:Cut:=nC 5 0xc21
def bF9:cU:=nI [aPZ] 14 0x79902100001e189e
def bF8:cU:=nI [] 20 0x32e1051e22a2902100001e18ae
def aPY:Cut:=nC 37 0x1a1922b5ce001e5ae00ce0305ce160010007e205ae140a0fe0c10e6
def aPX:Cut:=nC 37 0x1a1922b5ce001e5ae00ce0305ce160010007e205ae14006ea0c3be6
def aPW:Cut:=nC 34 0x1a1922b5ce001e64e00ce0305ce16007e2064e100e00100c71e5
def aPV:Cut:=nC 44 0x1a1922b5ce003e62e001e5ae00ce0405ce16062e1c0010007e2006ed05ae140c86e7
def aPU:Cut:=nC 40 0x1a1922b5ce003e62e00ce0305ce16102e09e062e1c00100a0ae007e2006ed7
def bF7:cU:=nI [aPY,aPX,aPW,aPV,aPU] 272 0x2ce21212b2990190e21a200402b90179e6161b242945492001b2000179e31322b2908fe5151b20018ce11a2233708ee31a208de5151b22000179e31322b2027018ce51a22058e317543b2908be1111b23013e01a20018ae313213b23013e01a20016e31a293013e01a2492081b201792058e115323b200020e21a20071e31302b2200016e11a23089e21a22390016e11a23079492900120100ce1007e001e00138be
def LG:Cut:=nC 5 0xc21
def Er:cU:=nI [LG] 25 0x7091e1092e5093ea3a29021000b18ce
def bF6:cU:=nI [] 17 0x94e11a29041000a180e
def bF5:cU:=nI [] 81 0x98e4098e6265434b2097e216432106b2097e21643205b2096e2095e3281b2095e1161b29095e1161b29044200000e000e28de
def LF:Cut:=nC 5 0xc21
def Eo:cU:=nI [LF] 14 0x79902100001e18ee
def Ay:Cut:=nC 24 0x104e10a020a03e010290e21002e01e0a02e4
def LD:Cut:=nC 8 0x104e10a020
def uJ:cU:=nI [Ay,LD] 58 0x170001027ee21a2942990549392010299e21a229021102104e0a2010290e20b28fe
def aFX:cU:=nI [] 21 0x31b29001b21b100007e192e
def LC:Cut:=nC 22 0xb5ae0b59e2107e205ae14059e130c1ee4
def LB:Cut:=nC 22 0xb5ae0b59e2107e205ae14059e130c30e4
def Ax:Cut:=nC 21 0xb5ae1107e20a35e05ae14002e33e0a34e5
def oT:cU:=nI [LC,LB,Ax] 127 0x102b200102b000102b2392080e71b98765b29429925492000102b2317920003ce31402b2307920003ce31402b2000702b239209ae3131b2392021b212b200107e0b0b393e
def Aw:Cut:=nC 20 0x3e010aa00195e21011e80a94
def Aa:cU:=nI [Aw] 39 0x19be21a294299054929020201003e100195e2011e294e
def bF4:cU:=nI [] 12 0x1100102e003e278e
def aFW:cU:=nI [] 29 0x46e31a290110020b0b20110010b37be
def vY:Cut:=nC 8 0xa1000e02
def vX:Cut:=nC 8 0xa1000e02
def Av:Cut:=nC 11 0xa1000e00a63
def LA:Cut:=nC 11 0xa1000e00c13e3
def lW:cU:=nI [vY,vX,LA,Av] 74 0x9de21a20309de21a203944935499309de21a2002792154390309ce31a2449054290202000a000e29de
def Lz:Cut:=nC 36 0x9e5ce00be5ae009e5ee00be5de405ce1605ae1405ee180a105de170c33e6
def Ly:Cut:=nC 33 0x9e5ce00be5ae009e5ee00be5de405ce1605ae1405ee180a105de175
def Lx:Cut:=nC 33 0x9e5ce00be5ae009e5ee00be5de405ce1605ae1405ee180aa05de175
def Lw:Cut:=nC 39 0x9e5ce00be5ae009e5ee00be5de405ce1605ae1405ee180aa05de170a10c95e7
def Lv:Cut:=nC 33 0x9e5ce00be5ae009e5ee00be5de405ce1605ae1405ee180a105de175
def lV:cU:=nI [Lz,Lv,Ly,Lw,Lx] 182 0x4709fe11a9900074e31a23370a5e20a5e72a20a4e10a4e307ce43a2900074e31a230a4e11a2239039420a3e11a2000a2e41a2309de21a2290a1e21a200074e31a230a0e11a2027009fe11a39209ee31a29390170074e21a3079209ee31a29390390390394929990d001e3000a000e29ee
def vW:Cut:=nC 39 0x9e5be161201e5ae001e5de00de0405be1505ae1405de17106e600100a16
def Lu:Cut:=nC 42 0x9e5be161201e5ae001e5de00de0405be1505ae1405de1700100a1106e60c1de7
def Lt:Cut:=nC 36 0x9e5be161201e5ae001e5de00de0405be1505ae1405de17106e600105
def Au:Cut:=nC 35 0x9e5be161201e5ae001e5de00de0405be1505ae1405de170ad106e65
def lU:cU:=nI [vW,Lu,Lt,Au] 105 0x5fe51a429354929270402b90175e21a2000074e31a20074e31a2390394992990175e21a2931792490542032e01a2001b290d520100de10a0012a0e
def Ls:Cut:=nC 25 0x3e5ce019e5ee205ce16000e2000e105ee180c0de5
def At:Cut:=nC 25 0x3e5ce019e5ee205ce16000e2000e10aa05ee185
def tD:cU:=nI [Ls,At] 37 0x154920079290a6e21202b29007200000e000e016e39fe
def Lr:Cut:=nC 15 0x1e58e10a1058e120cd3
def Cd:cU:=nI [Lr] 31 0x88e81a29088e61a2007929001000a001e2a1e
def Lq:Cut:=nC 5 0xc21
def En:cU:=nI [Lq] 25 0x70a7e1013e4013e93a2902100003e1a2e
def aPT:Cut:=nC 39 0x1a1922b5ce00ce0205ce16007e2107eb006e100100ac004e8006e98
def bF3:cU:=nI [aPT] 72 0x179e71742b200902b90179e6161b242905492001b290a8e3198544b29900120100ce1007e006e0013a3e
def aPS:Cut:=nC 21 0x161201e58e1058e12006e0106e40a64
def aPR:Cut:=nC 24 0x161201e58e1058e12006e0106e40a60c1de5
def bF2:cU:=nI [aPS,aPR] 68 0x60e4060e70a9ec0a9e00e400ec744b2900179058e418653b2429054929058e317543b299025200006e1a4e
def bF1:cU:=nI [] 14 0x210100ce10011a5e
def vV:Cut:=nC 29 0x100e1d123213e5ae003e59e205ae140a6005e0059e134
def Lp:Cut:=nC 32 0x100e1d123213e5ae003e59e205ae14005e0059e130a60c0ee5
def tB:cU:=nI [vV,Lp] 27 0x1794290549290209e200003e005e2a6e
def aPQ:Cut:=nC 5 0xc81
def bF0:cU:=nI [aPQ] 19 0x794929902100003e1a7e
def aPP:Cut:=nC 28 0x161201e5ae001e59e205ae14005e0059e13006e70c17e5
def aPO:Cut:=nC 28 0x161201e5ae013e63e205ae14063e1d005e00a00e006ea5
def aPN:Cut:=nC 31 0x161201e5ae013e63e205ae14063e1d005e00a00e006ea0c4ae6
def aPM:Cut:=nC 28 0x161201e5ae013e63e205ae14001206e01e063e1d005e04
def bFZ:cU:=nI [aPP,aPO,aPN,aPM] 100 0x76504b2370060e417403b392071b2027921799908de2121b2000aae31322b2308ee11a22081b200792058e115323b290025300001e005e2a8e
def aPL:Cut:=nC 19 0x3e59e00ce02059e1300100a63
def bFY:cU:=nI [aPL] 32 0x31e5151b2005492902020100ce1003e0012a9e
def aFV:cU:=nI [] 17 0xabe11a29001000b1aae
def aFU:cU:=nI [] 17 0xace11a29001000b1abe
def Lo:Cut:=nC 5 0xc21
def Ln:Cut:=nC 5 0xc21
def Lm:Cut:=nC 12 0xb57e1057e110c2be2
def As:Cut:=nC 12 0xb57e10a4057e112
def mV:cU:=nI [Lo,Ln,Lm,As] 72 0x93e51a2429354920270a7e51a22390170ade71a239007089e41a239492051e31a29021000b1ace
def bFX:cU:=nI [] 17 0xaee11a29041000a196e
def aPK:Cut:=nC 8 0xe00c00e2
def aPJ:Cut:=nC 11 0xc4000e00a53
def aPI:Cut:=nC 17 0x108e60c40a7000e00a55
def bFW:cU:=nI [aPK,aPJ,aPI] 63 0x312b200802b42925492001b21799900011b23070afe11a22011b20c2200000e1ade
def aPH:Cut:=nC 8 0x8e6008e82
def bFV:cU:=nI [aPH] 64 0x98e11102b2032104b097e217643206b2490542095e1161b2095e1161b2904100000e000e2aee
def aPG:Cut:=nC 22 0x461e1008e7061e360a8008e1008e05
def aPF:Cut:=nC 22 0x461e1008e7061e36008e1008e00a85
def bFU:cU:=nI [aPG,aPF] 87 0xb0e111ae1143210512000b2e213203b2400b1e2121b221540b0e71872b242905492001b2031b20102b20cc200008e008e2afe
def aPE:Cut:=nC 8 0x10ee5008e12
def aPD:Cut:=nC 11 0x10ee50a6008e13
def bFT:cU:=nI [aPE,aPD] 54 0x902b429154920700302b392001b290b0e112103b2904100008e0c2b0e
def Ll:Cut:=nC 22 0xb59e104e10a030112059e130c01e3
def Lk:Cut:=nC 8 0x104e10a020
def wY:cU:=nI [Ll,Lk] 42 0x170001b3070b3e8181b229021102104e0a20110010b390e
def Ar:Cut:=nC 30 0x1a1922b5ae003e59e205ae140aa059e13007e80a95
def zZ:cU:=nI [Ar] 20 0x54929021200003e007e2b2e
def aFT:cU:=nI [] 16 0x2101003e1001010e295e
def Lj:Cut:=nC 5 0xc21
def Em:cU:=nI [Lj] 14 0x79902100012e1b7e
def Li:Cut:=nC 5 0xc81
def El:cU:=nI [Li] 20 0x79902100012e012e0a000e4b8e
def aPC:Cut:=nC 21 0x9e5ee10a1000e010ee905ee18012e25
def aPB:Cut:=nC 24 0x9e5ee1000e005ee18012e20a110ee90c30e6
def bFS:cU:=nI [aPC,aPB] 74 0x702b20074e21a231790074e31a23900602b2390390074e31a23944054001b290d04300012e0a000e3b9e
def Lh:Cut:=nC 19 0x9e5ae00be58e205ae14058e120cd3
def Cc:cU:=nI [Lh] 41 0x74e21a23070b4ed1a20074e21a2394290d1000c00be2bae
def Lg:Cut:=nC 5 0xc21
def Ek:cU:=nI [Lg] 14 0x79902100012e1bbe
def vU:Cut:=nC 8 0xa1000e02
def Lf:Cut:=nC 11 0xa1000e00c00e3
def sZ:cU:=nI [vU,Lf] 28 0x170a0e81a2205429001000a000e2bce
def aPA:Cut:=nC 33 0x9e60e00be5ee009e64e00be5be4060e1a05ee18064e100e0ad05be155
def bFR:cU:=nI [aPA] 82 0x9fe31a290a1e21a200074e31a230a0e31a2007009fe11a392909ee31a2390074e41a2394299990d001e3000a000e00be000e4bde
def Le:Cut:=nC 11 0xe00a50c01e3
def Ld:Cut:=nC 8 0xe00a52
def vT:Cut:=nC 11 0xa6000e00a53
def Lc:Cut:=nC 14 0xa6000e00a50c12e4
def Lb:Cut:=nC 11 0xa6000e00c27e3
def vS:Cut:=nC 11 0xa6000e00a73
def La:Cut:=nC 14 0xa6000e00a70c39e4
def iG:cU:=nI [Le,Ld,vT,Lc,Lb,vS,La] 52 0x679429554920479299003792254291700792990244300000e1bee
def aPz:Cut:=nC 8 0xe00c32
def aPy:Cut:=nC 11 0xa4000e00c33
def aPx:Cut:=nC 11 0xa4000e00c33
def aPw:Cut:=nC 14 0xa4000e00c30c09e4
def bFQ:cU:=nI [aPz,aPy,aPx,aPw] 28 0x379225421799079904100000e1bfe
def bFP:cU:=nI [] 19 0x95e1161b2900100000e1c0e
def Aq:Cut:=nC 21 0x111219e5ae105ae140a6016e0000e14
def zY:cU:=nI [Aq] 20 0x54929020fe200000e016e2c1e
def aFS:cU:=nI [] 17 0xb5e11a2902100003e1c2e
def aPv:Cut:=nC 14 0x106e8104e70a9106e54
def aPu:Cut:=nC 20 0x106e50a9006ea106e8104e70c22e6
def aPt:Cut:=nC 11 0x106e8104e70ac3
def aPs:Cut:=nC 11 0x106e8104e70ad3
def bFO:cU:=nI [aPv,aPu,aPt,aPs] 150 0x32104b20000102b23049e7171b2429354920000102b23089e41a24292549200602b0702b2000102b231792058e418653b242905492001b2001b2000102b2392058e115323b20212b200a8300001e1c3e
def bFN:cU:=nI [] 28 0xb6e1060e305fe43322b2905100006e000e2c4e
def aPr:Cut:=nC 27 0x161201e5ae105ae14006e1000e00a6000eb0c0ce6
def aPq:Cut:=nC 27 0x161201e5ae105ae14006e1000e00a6000eb0c2de6
def aPp:Cut:=nC 24 0x161201e5ae105ae14006e1000e0006e70c64e5
def aPo:Cut:=nC 12 0x161201e5ae105ae141
def aPn:Cut:=nC 24 0x161201e5ae105ae14006e1000e00a60ca6e5
def bFM:cU:=nI [aPr,aPq,aPp,aPn,aPo] 317 0x47000a9e70a9e92972b2000a9e7171b2392000a9e70a9e92972b239293379000a9e70a9e92972b239000a9e4141b239239000a9e70a9e92972b239000a9e4141b23923900b9e21212b23900b9e21212b23900b7e90a9eb2b92b202792058e317543b200032e01a23923900b7e90a9eb2b92b2000b7e6032e70a9e93962b23929000b8e21a2392317900b7e60a9e82862b2000b7e60a9e82862b2392900032e01a2392307900b7e60a9e82862b200032e01a23923949299025200006e000e2c5e
def vQ:Cut:=nC 14 0xa50a70a1002e64
def K9:Cut:=nC 17 0xa50a1002e60a70c0ce5
def sY:cU:=nI [vQ,K9] 51 0xabe81a420179205492048e1121b2900076e31a23929001000a0b2c8e
def vO:Cut:=nC 14 0xa50a70a1002e64
def K8:Cut:=nC 17 0xa50a1002e60a70c03e5
def sX:cU:=nI [vO,K8] 40 0xace71a420179205492048e1121b299001000a0b2c9e
def K7:Cut:=nC 5 0xc21
def Ej:cU:=nI [K7] 22 0x7076e10bae52a2902100001e1cae
def bFL:cU:=nI [] 17 0xbbe11a29041000a1b3e
def aPm:Cut:=nC 11 0xe00a30c00e3
def aPl:Cut:=nC 8 0xe00a32
def aPk:Cut:=nC 11 0xe00a30c0ae3
def aPj:Cut:=nC 8 0xa4000e02
def aPi:Cut:=nC 11 0xe00a40c1be3
def bFK:cU:=nI [aPm,aPl,aPk,aPj,aPi] 38 0x4794293549202792170079299902100000e1cbe
def aPh:Cut:=nC 8 0xa3008e02
def aPg:Cut:=nC 11 0xa3008e00c01e3
def bFJ:cU:=nI [aPh,aPg] 31 0x31b200179205429001b20c100008e1cce
def aPf:Cut:=nC 11 0xa5008e1008e03
def bFI:cU:=nI [aPf] 20 0x54929900100008e008e2cde
def aPe:Cut:=nC 17 0x108e50a7008e10a6008e05
def aPd:Cut:=nC 17 0x8e1008e00a70a8108e55
def aPc:Cut:=nC 20 0x8e10a6008e00a70a8108e56
def bFH:cU:=nI [aPe,aPd,aPc] 55 0xb0e112103b200402b27991799429054929001b2001b20c100008e008e2cee
def aFR:cU:=nI [] 22 0xbce21202b2902100003e004e291e
def bFG:cU:=nI [] 17 0xbde11a2902100000e1d7e
def K6:Cut:=nC 5 0xc21
def Ei:cU:=nI [K6] 19 0x70bde21a2902100003e1d8e
def bFF:cU:=nI [] 20 0x13e104ce22a2905100000e1d9e
def bFE:cU:=nI [] 22 0xa9e21212b2905100006e000e2dae
def bFD:cU:=nI [] 28 0x32e01a200015e01a23929051000c1dbe
def bFC:cU:=nI [] 67 0xb7e70a9e92972b2000a9e8181b239005ce20a9e7271b239005ce11a239492905100006e0a000e000e4dce
def K5:Cut:=nC 5 0xc21
def K4:Cut:=nC 5 0xc21
def K3:Cut:=nC 5 0xc21
def K2:Cut:=nC 5 0xc21
def pT:cU:=nI [K5,K4,K3,K2] 67 0x370bae0de0bae14e2a2390279390170b5e21a2390070a5e0ce0a5e11e2a207ce41a2394929902100001e1dee
def aPb:Cut:=nC 8 0xa00c03e2
def ii201:cU:=⟨⟨221,[(.val i6,false),(.val i6,false)],[],[],[.str],false⟩,(.s .n (.s (.s .n (.c (.s (.s .n (.d aPb (.c (.s (.r [] [] [(1,(205,[]))]) .n) .n))) (.s .n (.s .n (.s .n (.d ⟨[],[]⟩ (.s .n (.s (.r [4] [] []) .n))))))) .n)) (.s (.r [6,7,9] [] [(5,(204,[]))]) .n)))⟩
def Ap:Cut:=nC 18 0x3e59e10a8004e0059e130a74
def zX:cU:=nI [Ap] 19 0x5492900100003e004e2b1e
def K1:Cut:=nC 8 0xe00c08e2
def vN:Cut:=nC 8 0xa3000e02
def K0:Cut:=nC 11 0xe00a30c23e3
def oR:cU:=nI [K1,vN,K0] 30 0x27994291549200792902100000e1ece
def aPa:Cut:=nC 26 0x10eea000eb00ee00c40c301be10a20c0ee8
def aO9:Cut:=nC 23 0x10eea000eb00ee00c40c301be10a27
def bFB:cU:=nI [aPa,aO9] 76 0x402b239200d900d0000c4290000c4299939200d9991700792001b20404e2000c0c0a01be00ee5e2e
def bFA:cU:=nI [] 10 0x41000a1dfe
def insL:List (Nat×cU):=[(0,ii0),(1,a28),(2,ii2),(3,G8),(4,bMs),(5,aM7),(6,jW),(7,XF),(8,ii8),(9,ii9),(10,KN),(11,bMv),(12,bMu),(13,PJ),(14,PH),(15,wI),(16,a27),(17,bMt),(18,KM),(19,jT),(20,yE),(21,Sl),(22,rF),(23,yD),(24,Eh),(25,oD),(26,CV),(27,KL),(28,uI),(29,qI),(30,Sj),(31,mE),(32,KK),(33,a26),(34,a25),(35,a24),(36,a23),(37,KJ),(38,a22),(39,a21),(40,Si),(41,Sg),(42,a2Z),(43,a2Y),(44,lE),(45,KI),(46,bMr),(47,bMq),(48,a2X),(49,bMp),(50,bMo),(51,bMn),(52,bMm),(53,bMl),(54,bMk),(55,bMj),(56,bMi),(57,bMh),(58,a2W),(59,sE),(60,a2V),(61,a2U),(62,bMg),(63,a2T),(64,a2S),(65,Sf),(66,PF),(67,qH),(68,a2R),(69,a2Q),(70,a2P),(71,a2O),(72,a2N),(73,KH),(74,Se),(75,a2M),(76,KG),(77,a2L),(78,Sd),(79,Eg),(80,a2K),(81,KF),(82,a2J),(83,a2I),(84,a2H),(85,PE),(86,a2G),(87,KE),(88,KD),(89,rE),(90,a2F),(91,KC),(92,Bn),(93,PD),(94,bMf),(95,CU),(96,KB),(97,KA),(98,CT),(99,a2E),(100,aF3),(101,tE),(102,bGm),(103,bGl),(104,bGk),(105,bGj),(106,bGi),(107,bGh),(108,bGg),(109,bGf),(110,bGe),(111,Et),(112,aF2),(113,aF1),(114,Ah),(115,oU),(116,Ag),(117,Af),(118,xB),(119,Ae),(120,Cg),(121,bGd),(122,bGc),(123,bGb),(124,Ad),(125,aF0),(126,aFZ),(127,Ac),(128,Ab),(129,Cf),(130,bGa),(131,wZ),(132,aFY),(133,bF9),(134,bF8),(135,bF7),(136,Er),(137,bF6),(138,bF5),(139,Eo),(140,uJ),(141,aFX),(142,oT),(143,Aa),(144,bF4),(145,aFW),(146,lW),(147,lV),(148,lU),(149,tD),(150,Cd),(151,En),(152,bF3),(153,bF2),(154,bF1),(155,tB),(156,bF0),(157,bFZ),(158,bFY),(159,aFV),(160,aFU),(161,mV),(162,bFX),(163,bFW),(164,bFV),(165,bFU),(166,bFT),(167,wY),(168,zZ),(169,aFT),(170,Em),(171,El),(172,bFS),(173,Cc),(174,Ek),(175,sZ),(176,bFR),(177,iG),(178,bFQ),(179,bFP),(180,zY),(181,aFS),(182,bFO),(183,bFN),(184,bFM),(185,sY),(186,sX),(187,Ej),(188,bFL),(189,bFK),(190,bFJ),(191,bFI),(192,bFH),(193,aFR),(194,bFG),(195,Ei),(196,bFF),(197,bFE),(198,bFD),(199,bFC),(200,pT),(201,ii201),(202,zX),(203,oR),(204,bFB),(205,bFA)]
def orcI:Gh:=⟨221,λa b=>bif decide (b=10)then(bif decide (a= -1)then some [45,49]else bif decide (a= -2)then some [45,50]else bif decide (a= -3)then some [45,51]else none)else none,221,none⟩
def tpI:TP U0.D:=bIE orcI (xQ insL)
noncomputable def bR(L n:Nat):bT:=Ci U0 tpI (Dz Go.Rf.cdX insL) L n
end Go.TV
namespace Go.TV
open Go.AI Go.PI Go.Proofs
abbrev iD:G.Y:=⟨[],[]⟩
abbrev Q4:G.O:=⟨0,[],[],iD,[],[]⟩
abbrev iB:G.T:=⟨0,iD,Q4,[]⟩
abbrev mZ:G.U:=⟨iD,0,[],iD,iB,iB,[],0,[],0,iD⟩
abbrev bPJ:G.F:=⟨iD,[],0,iB,iB,iB⟩
def bY:Nat->Nat->List UInt8
 |0,_=>[]
 |f+1,n=>UInt8.ofNat (n%128)::bY f (n/128)
def dT{a b:Nat}(h:a<b):decide ((a:Int)<(b:Int))=true:=bF (by omega)
def dF{a b:Nat}(h: ¬a<b):decide ((a:Int)<(b:Int))=false:=bG (by omega)
def pw:Nat->Nat->List Nat
 |0,_=>[]
 |f+1,n=>(n%2)::pw f (n/2)
def sK(m k:Nat)(h:k<=m): ∃q,m=q+k:=⟨m-k,by omega⟩
abbrev Nt:=pX->Rt
abbrev yR(n:Nat)(x:Den U0.D (.rc n)):TV U0.D:=⟨.rc n,x⟩
abbrev yS(n:Nat)(x:Den U0.D (.sl (.rc n))):TV U0.D:=⟨.sl (.rc n),x⟩
abbrev yI(x:Int):TV U0.D:=⟨.int .i64,x⟩
abbrev yB(x:Bool):TV U0.D:=⟨.bool,x⟩
abbrev yT(x:List UInt8):TV U0.D:=⟨.str,x⟩
section
variable(x:cU)(c:bT)(e:Cu)(L:Nat)(π:List Nat)(ct:Cut)
def cu:Cu:=⟨Dx U0 tpI c L,Ex U0 tpI c L⟩
noncomputable def xW:TC:=gP x.sk (lH Go.Rf.cdX x.sig.f)
noncomputable def xC:TC:=aNa (xW x) π
noncomputable def xK:Kt:=aGh U0 tpI x.sig (zM Go.Rf.cdX x.sig.f)
noncomputable def xT(K:Kt):Kt:=NW U0 (nU U0 tpI c e.D e.E (xC x π)) K
noncomputable def xF(d:pX):Rt:=rG U0 (cutOf x.sig) (λS M=>nU U0 tpI c e.D e.E (xW x) S M (xK x)) d
noncomputable def xA(K:Kt)(d:pX):Rt:=rG U0 ct (λS M=>nU U0 tpI c e.D e.E (xC x π) S M K) d
noncomputable def xL(K:Kt)(n:Nat)(d:pX):Rt:=G5 U0 ct (λS M K=>gW U0 tpI c L (xC x π) S M K) K n d
noncomputable def xD(K:Kt)(d:pX):Rt:=e.D ct (xC x π) d K
noncomputable def xE(K:Kt)(d:pX):Rt:=e.E ct (xC x π) d K
def bU(K:Kt):xD x (cu c L) π ct K=xA x c (cu c L) π ct K:=funext λd=>pU ct (λS M=>(bIP (T:=tpI) (c:=c) (L:=L) (xC x π) S M K).symm) d
def dR(K:Kt)(n:Nat):xL x c L π ct K (n+1)=xA x c (cu c L) π ct (eY U0 ct (xL x c L π ct K n) K):=funext λd=>pU ct (λS M=>(bIP (T:=tpI) (c:=c) (L:=L) (xC x π) S M _).symm) d
end
def rI: ∀{l:List (Nat×cU)} {i:Nat} {x:cU},rJ l i=some x->(i,x)∈l
 |a::l,i,x,h=>by
  simp only[rJ]at h;cases hb:Nat.beq a.1 i with
  |true=>
   rw[hb]at h;simp only[aI,aA]at h;have:=aE hb;subst this;subst h;exact aH ..
  |false=>rw[hb]at h;exact aG _ (rI h)
def a29:(insL.all λx=>aOj orcI x.2.sig&&Nat.ble x.2.sig.bx.length 100&&D7 x.2.sig.bx.length x.2.sig.bx)=true:=by kernel_rfl
def cg{i:Nat}{x:cU}(hx:rJ insL i=some x)(hf:(Nat.beq x.sig.f orcI.n||Nat.beq x.sig.f orcI.m)=false)(L n:Nat)(d:pX):bR L (n+1) i d=xF x (bR L n) (cu (bR L n) L) d:=by
 have hs:tpI.sig i=some x.sig:=by show xQ insL i=_;unfold xQ;rw[hx];rfl
 have hg:Dz Go.Rf.cdX insL i=some (gP x.sk (lH Go.Rf.cdX x.sig.f),zM Go.Rf.cdX x.sig.f):=by simp only[Dz,hx]
 have hb:(aOj tpI.orc x.sig&&Nat.ble x.sig.bx.length 100&&D7 x.sig.bx.length x.sig.bx)=true:=bJ.1 a29 _ (rI hx);have ho:aOd U0 tpI.orc x.sig d=none:=by
  rw[Bool.or_eq_false_iff]at hf;show aOd U0 orcI x.sig d=none;unfold aOd;rw[hf.1,hf.2];rfl
 show Ci U0 tpI (Dz Go.Rf.cdX insL) L (n+1) i d=_;simp only[Ci,hs,hg,hb,aI,ho];exact(pU _ (λS M=>bIP _ _ _ _) d).symm
def MJ(n:Nt):G.E->Rt:=λx0=>n [yR 16 x0]
def MI(n:Nt):Bool->G.E->Rt:=λx0 x1=>n [yB x0,yR 16 x1]
def B4(n:Nt):G.T->G.T->G.T->Rt:=λx0 x1 x2=>n [yR 3 x0,yR 3 x1,yR 3 x2]
def iJ(n:Nt):G.T->Rt:=λx0=>n [yR 3 x0]
def kM(n:Nt):Rt:=n []
def MG(n:Nt):List G.I->G.Y->Rt:=λx0 x1=>n [yS 7 x0,yR 1 x1]
def ME(n:Nt):List G.T->List G.T->List G.I->Rt:=λx0 x1 x2=>n [yS 3 x0,yS 3 x1,yS 7 x2]
def sR(n:Nt):List UInt8->Rt:=λx0=>n [yT x0]
def MB(n:Nt):Int->G.P->Rt:=λx0 x1=>n [yI x0,yR 20 x1]
def qO(n:Nt):G.O->Rt:=λx0=>n [yR 2 x0]
def dH(n:Nt):Bool->Rt:=λx0=>n [yB x0]
def MA(n:Nt):G.T->Int->List G.Y->Rt:=λx0 x1 x2=>n [yR 3 x0,yI x1,yS 1 x2]
def vA(n:Nt):Int->List G.T->Int->Int->List G.Y->Rt:=λx0 x1 x2 x3 x4=>n [yI x0,yS 3 x1,yI x2,yI x3,yS 1 x4]
def Mz(n:Nt):Int->List G.Y->Rt:=λx0 x1=>n [yI x0,yS 1 x1]
def FY(n:Nt):G.T->G.T->List G.I->Rt:=λx0 x1 x2=>n [yR 3 x0,yR 3 x1,yS 7 x2]
def B3(n:Nt):Bool->List G.I->G.T->G.T->Rt:=λx0 x1 x2 x3=>n [yB x0,yS 7 x1,yR 3 x2,yR 3 x3]
def eT(n:Nt):List UInt8->Int->Rt:=λx0 x1=>n [yT x0,yI x1]
def lK(n:Nt):Int->List UInt8->Int->Rt:=λx0 x1 x2=>n [yI x0,yT x1,yI x2]
def B2(n:Nt):Bool->List UInt8->Int->Rt:=λx0 x1 x2=>n [yB x0,yT x1,yI x2]
def Mr(n:Nt):Int->Rt:=λx0=>n [⟨(.int .u8),x0⟩]
def Mq(n:Nt):Bool->Int->List UInt8->Rt:=λx0 x1 x2=>n [yB x0,yI x1,yT x2]
def Mo(n:Nt):Bool->Int->List UInt8->Int->Rt:=λx0 x1 x2 x3=>n [yB x0,yI x1,yT x2,yI x3]
def gZ(n:Nt):G.Y->Rt:=λx0=>n [yR 1 x0]
def Ml(n:Nt):G.T->Int->Rt:=λx0 x1=>n [yR 3 x0,yI x1]
def qN(n:Nt):List G.T->Int->Int->Int->Rt:=λx0 x1 x2 x3=>n [yS 3 x0,yI x1,yI x2,yI x3]
def Mk(n:Nt):Bool->Int->List G.T->Int->Int->Rt:=λx0 x1 x2 x3 x4=>n [yB x0,yI x1,yS 3 x2,yI x3,yI x4]
def sQ(n:Nt):List G.Y->G.Y->Rt:=λx0 x1=>n [yS 1 x0,yR 1 x1]
def uZ(n:Nt):Int->List G.Y->Int->G.Y->Rt:=λx0 x1 x2 x3=>n [yI x0,yS 1 x1,yI x2,yR 1 x3]
def Mj(n:Nt):Bool->List UInt8->Rt:=λx0 x1=>n [yB x0,yT x1]
def B1(n:Nt):Int->G.K->G.X->G.K->G.X->Rt:=λx0 x1 x2 x3 x4=>n [yI x0,yR 19 x1,yR 17 x2,yR 19 x3,yR 17 x4]
def Mv(n:Nt):List G.A->List UInt8->List UInt8->Rt:=λx0 x1 x2=>n [yS 9 x0,yT x1,yT x2]
def mG(n:Nt):List G.E->G.Y->Rt:=λx0 x1=>n [yS 16 x0,yR 1 x1]
def B0(n:Nt):Bool->G.T->Rt:=λx0 x1=>n [yB x0,yR 3 x1]
def HW(n:Nt):List G.T->G.T->Rt:=λx0 x1=>n [yS 3 x0,yR 3 x1]
def CB(n:Nt):List G.Y->Int->G.Y->Rt:=λx0 x1 x2=>n [yS 1 x0,yI x1,yR 1 x2]
def AW(n:Nt):List G.T->Rt:=λx0=>n [yS 3 x0]
def pW(n:Nt):List G.E->Int->G.Y->Rt:=λx0 x1 x2=>n [yS 16 x0,yI x1,yR 1 x2]
def uY(n:Nt):G.O->G.O->Rt:=λx0 x1=>n [yR 2 x0,yR 2 x1]
def YI(n:Nt):Bool->G.O->G.O->Rt:=λx0 x1 x2=>n [yB x0,yR 2 x1,yR 2 x2]
def HV(n:Nt):List G.T->List G.T->Rt:=λx0 x1=>n [yS 3 x0,yS 3 x1]
def CA(n:Nt):List G.T->List G.T->Int->Rt:=λx0 x1 x2=>n [yS 3 x0,yS 3 x1,yI x2]
def aQv(n:Nt):G.U->G.U->Rt:=λx0 x1=>n [yR 5 x0,yR 5 x1]
def aCD(n:Nt):Int->G.U->G.U->Rt:=λx0 x1 x2=>n [yI x0,yR 5 x1,yR 5 x2]
def ZD(n:Nt):Int->G.Z->Rt:=λx0 x1=>n [yI x0,yR 0 x1]
def ZC(n:Nt):List G.E->Int->G.Z->Rt:=λx0 x1 x2=>n [yS 16 x0,yI x1,yR 0 x2]
def CI(n:Nt):List G.T->G.T->G.T->Rt:=λx0 x1 x2=>n [yS 3 x0,yR 3 x1,yR 3 x2]
def ID(n:Nt):List G.E->G.T->G.U->Rt:=λx0 x1 x2=>n [yS 16 x0,yR 3 x1,yR 5 x2]
def IC(n:Nt):Bool->G.U->G.T->Rt:=λx0 x1 x2=>n [yB x0,yR 5 x1,yR 3 x2]
def CG(n:Nt):G.T->G.U->Rt:=λx0 x1=>n [yR 3 x0,yR 5 x1]
def YV(n:Nt):Bool->Int->Int->G.Z->G.O->Rt:=λx0 x1 x2 x3 x4=>n [yB x0,yI x1,yI x2,yR 0 x3,yR 2 x4]
def YT(n:Nt):G.T->List UInt8->Int->Rt:=λx0 x1 x2=>n [yR 3 x0,yT x1,yI x2]
def YS(n:Nt):Bool->List G.E->G.Y->Rt:=λx0 x1 x2=>n [yB x0,yS 16 x1,yR 1 x2]
def tH(n:Nt):Int->List G.E->Int->G.Y->Rt:=λx0 x1 x2 x3=>n [yI x0,yS 16 x1,yI x2,yR 1 x3]
def FV(n:Nt):Int->Int->List G.E->G.Y->Rt:=λx0 x1 x2 x3=>n [yI x0,yI x1,yS 16 x2,yR 1 x3]
def YP(n:Nt):List G.Y->List G.Y->Rt:=λx0 x1=>n [yS 1 x0,yS 1 x1]
def HX(n:Nt):G.T->G.T->Rt:=λx0 x1=>n [yR 3 x0,yR 3 x1]
def xM(n:Nt):Int->Int->G.T->G.T->G.T->G.T->G.T->G.T->G.U->G.U->Rt:=λx0 x1 x2 x3 x4 x5 x6 x7 x8 x9=>n [yI x0,yI x1,yR 3 x2,yR 3 x3,yR 3 x4,yR 3 x5,yR 3 x6,yR 3 x7,yR 5 x8,yR 5 x9]
def CC(n:Nt):Int->Int->List G.Y->List G.I->List G.Q->Rt:=λx0 x1 x2 x3 x4=>n [yI x0,yI x1,yS 1 x2,yS 7 x3,yS 4 x4]
def aQy(n:Nt):List G.E->G.Y->G.T->Int->Rt:=λx0 x1 x2 x3=>n [yS 16 x0,yR 1 x1,yR 3 x2,yI x3]
def aQx(n:Nt):Bool->List G.Y->G.T->G.U->G.U->Rt:=λx0 x1 x2 x3 x4=>n [yB x0,yS 1 x1,yR 3 x2,yR 5 x3,yR 5 x4]
def aQw(n:Nt):List G.Y->List G.Y->G.T->G.T->G.U->G.U->Rt:=λx0 x1 x2 x3 x4 x5=>n [yS 1 x0,yS 1 x1,yR 3 x2,yR 3 x3,yR 5 x4,yR 5 x5]
def FT(n:Nt):List G.Y->List G.T->Int->G.T->G.U->G.U->Rt:=λx0 x1 x2 x3 x4 x5=>n [yS 1 x0,yS 3 x1,yI x2,yR 3 x3,yR 5 x4,yR 5 x5]
def YR(n:Nt):Bool->Int->List G.Y->List G.T->G.T->G.U->G.U->Rt:=λx0 x1 x2 x3 x4 x5 x6=>n [yB x0,yI x1,yS 1 x2,yS 3 x3,yR 3 x4,yR 5 x5,yR 5 x6]
def ZA(n:Nt):G.U->G.T->G.T->Rt:=λx0 x1 x2=>n [yR 5 x0,yR 3 x1,yR 3 x2]
def fC(i:Nat):Option cU:=match rJ insL i with
  |some x=>bif Nat.beq x.sig.f orcI.n||Nat.beq x.sig.f orcI.m then none else some x
  |none=>none
def cz{i:Nat}{x:cU}(h:fC i=some x)(L n:Nat)(d:pX):bR L (n+1) i d=xF x (bR L n) (cu (bR L n) L) d:=by
  unfold fC at h
  split at h
  · rename_i y hy
    cases hb:Nat.beq y.sig.f orcI.n||Nat.beq y.sig.f orcI.m with
    |true=>rw[hb]at h;cases h
    |false=>rw[hb]at h;cases h;exact cg hy hb L n d
  · cases h
def cO{W:Type}(r:Rt)(K:Bool×Unit->Option W):Option W:=fU (D:=U0.D) [.bool] r K
def eC{W:Type}(r:Rt)(K:G.T×Unit->Option W):Option W:=fU (D:=U0.D) [.rc 3] r K
def gU{W:Type}(r:Rt)(K:G.Y×Unit->Option W):Option W:=fU (D:=U0.D) [.rc 1] r K
def kH{W:Type}(r:Rt)(K:G.O×Unit->Option W):Option W:=fU (D:=U0.D) [.rc 2] r K
def mD{W:Type}(r:Rt)(K:List G.Y×Unit->Option W):Option W:=fU (D:=U0.D) [.sl (.rc 1)] r K
def mC{W:Type}(r:Rt)(K:G.T×G.Z×Unit->Option W):Option W:=fU (D:=U0.D) [.rc 3,.rc 0] r K
def rZ{W:Type}(r:Rt)(K:G.X×Unit->Option W):Option W:=fU (D:=U0.D) [.rc 17] r K
def qF{W:Type}(r:Rt)(K:Int×Unit->Option W):Option W:=fU (D:=U0.D) [.int .i64] r K
def tI{W:Type}(r:Rt)(K:List G.T×Unit->Option W):Option W:=fU (D:=U0.D) [.sl (.rc 3)] r K
def rB{W:Type}(r:Rt)(K:Int×G.Z×Unit->Option W):Option W:=fU (D:=U0.D) [.int .i64,.rc 0] r K
def uD{W:Type}(r:Rt)(K:Int×Bool×Unit->Option W):Option W:=fU (D:=U0.D) [.int .i64,.bool] r K
def wU{W:Type}(r:Rt)(K:Int×G.U×Unit->Option W):Option W:=fU (D:=U0.D) [.int .i64,.rc 5] r K
def wT{W:Type}(r:Rt)(K:List G.I×Bool×Unit->Option W):Option W:=fU (D:=U0.D) [.sl (.rc 7),.bool] r K
def D8{W:Type}(r:Rt)(K:G.T×G.Y×Unit->Option W):Option W:=fU (D:=U0.D) [.rc 3,.rc 1] r K
def wS{W:Type}(r:Rt)(K:G.U×Int×Unit->Option W):Option W:=fU (D:=U0.D) [.rc 5,.int .i64] r K
def Ps{W:Type}(r:Rt)(K:G.O×G.X×G.P×Unit->Option W):Option W:=fU (D:=U0.D) [.rc 2,.rc 17,.rc 20] r K
end Go.TV
namespace Go.TV
open Go.AI Go.PI Go.Proofs
def Xu{P:G.O->Prop}(h: ∀k n d s t l,(∀o∈l,P o)->P ⟨k,n,d,s,t,l⟩): ∀o,P o:=λo=>
 G.O.rec (motive_1:=P) (motive_2:=λl=> ∀o∈l,P o) (λk n d s t l ih=>h k n d s t l ih) (λo ho=>by cases ho)
  (λo l h1 h2 x hx=>by
   cases hx with
   |head=>exact h1
   |tail _ hx=>exact h2 x hx) o
noncomputable instance:DecidableEq G.O:=λa b=>Classical.propDecidable _
def a0M(k:Int)(n d:List UInt8)(s:G.Y)(t:List UInt8)(l:List G.O):Bool:=
 decide (k=0)&&n.isEmpty&&d.isEmpty&&decide (s=⟨[],[]⟩)&&t.isEmpty&&l.isEmpty||decide (k=1)&&decide (s=⟨[],[]⟩)&&t.isEmpty&&l.isEmpty||decide (k=2)&&n.isEmpty&&d.isEmpty&&t.isEmpty&&l.isEmpty||
 decide (k=3)&&n.isEmpty&&d.isEmpty&&decide (s=⟨[],[]⟩)&&l.isEmpty||decide (k=4)&&n.isEmpty&&d.isEmpty&&decide (s=⟨[],[]⟩)&&t.isEmpty&&decide (l.length=2)
def aQh(k:Int)(n d:List UInt8)(s:G.Y)(t:List UInt8)(l:List G.O):Nat:=bif a0M k n d s t l then 0 else 1000000000
def LS(s:G.Y):aQh 2 [] [] s [] []=0:=rfl
def LU(a b:G.O):aQh 4 [] [] ⟨[],[]⟩ [] [a,b]=0:=rfl
def LW(o:G.O):Nat:=bif decide (o.kind=0)then 1000000000 else 0
def a33(n d:List UInt8)(s:G.Y)(t:List UInt8)(l:List G.O):LW ⟨2,n,d,s,t,l⟩=0:=rfl
def LV(n d:List UInt8)(s:G.Y)(t:List UInt8)(l:List G.O):LW ⟨4,n,d,s,t,l⟩=0:=rfl
mutual
def xX:G.O->Nat
 |⟨k,n,d,s,t,l⟩=>2+rX l+aQh k n d s t l
def rX:List G.O->Nat
 |[]=>0
 |o::l=>xX o+rX l+1
end
def aFc{o:G.O}(h:xX o<1000000000):a0M o.kind o.num o.den o.sym o.text o.pair=true:=by
 cases o with|mk k n d s t l=>
 simp only[xX,aQh]at h;cases e:a0M k n d s t l with
 |true=>exact e
 |false=>rw[e,aJ]at h;omega
def cS{k:Nat}(h:k<4000000000000000000):IntKind.i64.wrap ((k:Int)+1)=((k+1:Nat):Int):=by
 unfold IntKind.wrap;simp[IntKind.bits,IntKind.signed];omega
def bP{N:Type}(l:List N)(k:Nat):cI l (k:Int)=l[k]?:=by
 unfold cI;have:decide (0<=(k:Int))=true:=by simp
 rw[this];rfl
def cH{W:Type}{b:Bool}{K:Bool×Unit->Option W}:cO (some [yB b]) K=K (b,()):=rfl
def bZ{N W:Type}{x:N}{K:N->Option W}:ob (some x) K=K x:=rfl
def bO{W:Type}{A B:Option W}:bN true A B=A:=rfl
def bL{W:Type}{A B:Option W}:bN false A B=B:=rfl
def bX{N:Type}{l:List N}{k:Nat}{x:N}{r:List N}(h:l.drop k=x::r):l[k]?=some x/\k<l.length/\l.drop (k+1)=r:=by
 refine⟨?_,?_,?_⟩
 .rw[<-List.head?_drop,h];rfl
 .have:=congrArg List.length h;simp at this;omega
 .rw[<-List.tail_drop,h];rfl
def bW{N:Type}{l:List N}{k:Nat}(h:l.drop k=[]): ¬k<l.length:=by
 have:=congrArg List.length h;simp at this;omega
def oo(a b:G.O):pX:=[yR 2 a,yR 2 b]
def bb(b:Bool):pX:=[yB b]
def aM2(a:G.O):Prop:=xX a<1000000000
def JZ: ∀(l:List G.O),l.length<=rX l
 |[]=>aS _
 |o::l=>by have:=JZ l;simp only[aM,rX];omega
def kA: ∀{l:List G.O} {x:G.O},x∈l->xX x<=rX l
 |o::l,x,h=>by
  simp only[rX];cases h with
  |head=>omega
  |tail _ h=>have:=kA h;omega
end Go.TV
namespace Go.TV
open Go.AI Go.PI Go.Proofs
def fW{P:G.T->Prop}(h: ∀k n v l,(∀o∈l,P o)->P ⟨k,n,v,l⟩): ∀o,P o:=λo=>
 G.T.rec (motive_1:=P) (motive_2:=λl=> ∀o∈l,P o) (λk n v l ih=>h k n v l ih) (λo ho=>by cases ho)
  (λo l h1 h2 x hx=>by
   cases hx with
   |head=>exact h1
   |tail _ hx=>exact h2 x hx) o
noncomputable instance:DecidableEq G.T:=λa b=>Classical.propDecidable _
def aFb(k:Int)(n:G.Y)(v:G.O)(l:List G.T):Bool:=
 decide (k=1)&&decide (v.kind=0)&&l.isEmpty||decide (k=2)&&decide (n=⟨[],[]⟩)&&l.isEmpty&& !decide (v.kind=0)||decide (k=3)&&decide (v.kind=0)
def aCq(k:Int)(n:G.Y)(v:G.O)(l:List G.T):Nat:=bif aFb k n v l then 0 else 1000000000
mutual
def cJ:G.T->Nat
 |⟨k,n,v,l⟩=>4+xX v+cC l+aCq k n v l
def cC:List G.T->Nat
 |[]=>0
 |o::l=>cJ o+cC l+1
end
def aOi{t:G.T}(h:cJ t<1000000000):aFb t.kind t.name t.value t.args=true:=by
 cases t with|mk k n v l=>
 simp only[cJ,aCq]at h;cases e:aFb k n v l with
 |true=>exact e
 |false=>rw[e,aJ]at h;omega
def dV: ∀(l:List G.T),l.length<=cC l
 |[]=>aS _
 |o::l=>by have:=dV l;simp only[aM,cC];omega
def dB: ∀{l:List G.T} {x:G.T},x∈l->cJ x<=cC l
 |o::l,x,h=>by
  simp only[cC];cases h with
  |head=>omega
  |tail _ h=>have:=dB h;omega
def aQ2(a b:G.T):pX:=[yR 3 a,yR 3 b]
def bLH(a b:List G.T):pX:=[yS 3 a,yS 3 b]
def Q1(a:G.T):Prop:=cJ a<1000000000
end Go.TV
namespace Go.TV
open Go.AI Go.PI Go.Proofs
def pR{W:Type}{b:List G.T}{K:List G.T×Unit->Option W}:tI (some [yS 3 b]) K=K (b,()):=rfl
def fS{W:Type}{A:Option W}:iQ true A=A:=rfl
def aCZ{k:Nat}(h:k<4000000000000000000):IntKind.i64.wrap (k:Int)=(k:Int):=by
 unfold IntKind.wrap;simp[IntKind.bits,IntKind.signed];omega
def bLF(a:List G.T)(t:G.T):pX:=[yS 3 a,yR 3 t]
def aDe(a:List G.T):pX:=[yS 3 a]
end Go.TV
namespace Go.TV
open Go.AI Go.PI Go.Proofs
def fD:List UInt8:=[108,105,115,112]
def Gf(t:G.T)(s:List UInt8)(k:Int):Bool:=decide (t.kind=3)&&decide (t.name=⟨fD,s⟩)&&decide ((t.args.length:Int)=k)
def tsi(t:G.T)(s:List UInt8)(k:Int):pX:=[yR 3 t,yT s,yI k]
def kQ{W:Type}{b:G.Y}{K:G.Y×Unit->Option W}:gU (some [yR 1 b]) K=K (b,()):=rfl
end Go.TV
namespace Go.TV
open Go.AI Go.PI Go.Proofs
set_option maxRecDepth 20000
noncomputable section
variable(c:bT)(e:Cu)(L:Nat)
def a0j(c:bT)(e:Cu):Kt:=xK Cg
def a0i:Kt:=xT Cg c e [1,1] (a0j c e)
def aEO:Kt:=cK U0 0 (a0i c e)
def VN(c:bT)(b:Bool->G.E->Rt)(a:G.E):Rt:=
 bN (decide (a.kind=3)) (b (decide (a.kind=3)) a) (bN (decide (a.kind=5)) (b (decide (a.kind=5)) a) (bN (decide (a.kind=6)) (b (decide (a.kind=6)) a) (b (decide (a.kind=7)) a)))
def VM(c:bT)(a:Bool)(b:G.E):Rt:=
 bN a (some [yS 8 b.functions]) (some [yS 8 ([]:List G.F)])
def UW:=MI (xD Cg e (pw 6 21) LJ (aEO c e))
def aYA:MJ (xF Cg c e)=VN c (UW c e):=by kernel_rfl
def aYz:MI (xA Cg c e (pw 6 21) LJ (aEO c e))=VM c:=by kernel_rfl
def Vl(L:Nat):Bool->G.E->Rt:=VM c
def a2u:UW c (cu c L)=Vl c L:=by rw[UW,bU,aYz];rfl
def a5m:G.E->Rt:=VN c (Vl c L)
def bNZ:MJ (xF Cg c (cu c L))=a5m c L:=by rw[aYA];simp only[a2u];rfl
def bOS(a:G.E)(L n:Nat):bR L (n+1) 120 [yR 16 a]=a5m (bR L n) L a:=by rw[<-bNZ];exact cz (x:=Cg) (by kernel_rfl) L n _
def a0h(c:bT)(e:Cu):Kt:=xK Ad
def a0g:Kt:=xT Ad c e (pw 4 15) (a0h c e)
def RO:Kt:=cK U0 0 (a0g c e)
def M8(c:bT)(f:Int->List G.T->Int->G.T->G.T->List G.T->G.T->G.T->Rt)(a:G.T)(b:G.T)(d:G.T):Rt:=
 bN (!decide (a.kind=3)) (some [yR 3 a,yR 3 b,yR 3 d]) (iQ (decide (0<=(List.length a.args:Int))&&decide ((List.length a.args:Int)<=(List.length a.args:Int))&&decide ((List.length a.args:Int)*176<=1073741824)&&decide ((List.length a.args:Int)<=1073741824))<|
 iQ (decide ((List.length a.args:Int)=(List.length a.args:Int)))<|
 f (List.length a.args:Int) a.args 0 b d (wH iB (Int.toNat (List.length a.args:Int))) a iB)
def M7(l:Int->List G.T->Int->G.T->G.T->List G.T->G.T->G.T->Rt)(g:Int)(h:List G.T)(a:Int)(i:G.T)(j:G.T)(b:List G.T)(d:G.T)(m:G.T):Rt:=
 bN (decide (a<g)) (ob (cI h a) λo=>
 fU [.rc 3,.rc 3,.rc 3] (c 145 [yR 3 o,yR 3 i,yR 3 j]) λ(f:G.T×G.T×G.T×Unit)=>
 iQ (dO a (List.length b))<|
 ob (cI b a) λp=>
 l g h (IntKind.i64.wrap (a+1)) f.2.1 f.2.2.1 (List.set b (Int.toNat a) f.1) d m) (some [yR 3 (G.T.mk d.kind d.name d.value b),yR 3 i,yR 3 j])
def MH(n:Nt):Int->List G.T->Int->G.T->G.T->List G.T->G.T->G.T->Rt:=λx0 x1 x2 x3 x4 x5 x6 x7=>n [yI x0,yS 3 x1,yI x2,yR 3 x3,yR 3 x4,yS 3 x5,yR 3 x6,yR 3 x7]
def aIN:=MH (xE Ad e (pw 7 23) AC (RO c e))
def aYy:B4 (xF Ad c e)=M8 c (aIN c e):=by kernel_rfl
def aYx(n1:Nt):MH (xA Ad c e (pw 7 23) AC (eY U0 AC n1 (RO c e)))=M7 c (MH n1):=by kernel_rfl
def uV(c:bT)(L:Nat):Nat->Int->List G.T->Int->G.T->G.T->List G.T->G.T->G.T->Rt
 |0=>λ_ _ _ _ _ _ _ _=>none
 |n+1=>M7 c (uV c L n)
def aWp(n:Nat):MH (xL Ad c L (pw 7 23) AC (RO c (cu c L)) n)=uV c L n:=by
 induction n with
 |zero=>rfl
 |succ n ih=>rw[dR,aYx];simp only[ih];rfl
def aVQ:aIN c (cu c L)=uV c L L:=aWp c L L
def aQQ:G.T->G.T->G.T->Rt:=M8 c (uV c L L)
def bNY:B4 (xF Ad c (cu c L))=aQQ c L:=by rw[aYy];simp only[aVQ];rfl
def bHi(a:G.T)(b:G.T)(d:G.T)(L n:Nat):bR L (n+1) 124 [yR 3 a,yR 3 b,yR 3 d]=aQQ (bR L n) L a b d:=by rw[<-bNY];exact cz (x:=Ad) (by kernel_rfl) L n _
def aMS(a:G.T):Rt:=
 eC (c 34 []) λb=>
 cO (c 40 [yR 3 a,yR 3 b.1]) λd=>
 some [yB d.1]
def aQP(L:Nat):G.T->Rt:=aMS c
def bNX:iJ (xF aF0 c (cu c L))=aQP c L:=by kernel_rfl
def bHh(a:G.T)(L n:Nat):bR L (n+1) 125 [yR 3 a]=aQP (bR L n) L a:=by rw[<-bNX];exact cz (x:=aF0) (by kernel_rfl) L n _
def aMR(c:bT):Rt:=
 some [yS 18 ([(G.R.mk [105,102] 3),(G.R.mk [101,113,117,97,108] 2),(G.R.mk [99,111,110,115] 2),(G.R.mk [99,97,114] 1),(G.R.mk [99,100,114] 1),(G.R.mk [99,111,110,115,112] 1),(G.R.mk [115,121,109,98,111,108,112] 1),(G.R.mk [115,116,114,105,110,103,112] 1),(G.R.mk [114,97,116,105,111,110,97,108,112] 1),(G.R.mk [105,110,116,101,103,101,114,112] 1),(G.R.mk [98,105,110,97,114,121,45,43] 2),(G.R.mk [98,105,110,97,114,121,45,42] 2),(G.R.mk [117,110,97,114,121,45,45] 1),(G.R.mk [117,110,97,114,121,45,47] 1),(G.R.mk [60] 2),(G.R.mk [110,117,109,101,114,97,116,111,114] 1),(G.R.mk [100,101,110,111,109,105,110,97,116,111,114] 1),(G.R.mk [102,108,111,111,114] 1),(G.R.mk [115,121,109,98,111,108,45,110,97,109,101] 1),(G.R.mk [115,121,109,98,111,108,45,112,97,99,107,97,103,101,45,110,97,109,101] 1),(G.R.mk [105,110,116,101,114,110] 2),(G.R.mk [115,116,114,105,110,103,45,97,112,112,101,110,100] 2),(G.R.mk [115,116,114,105,110,103,45,108,101,110,103,116,104] 1),(G.R.mk [115,116,114,105,110,103,45,98,121,116,101] 2),(G.R.mk [98,121,116,101,45,115,116,114,105,110,103] 1)]:List G.R)]
def a5l(L:Nat):Rt:=aMR c
def bNW:kM (xF aFZ c (cu c L))=a5l c L:=by kernel_rfl
def bHg(L n:Nat):bR L (n+1) 126 []=a5l (bR L n) L:=by rw[<-bNW];exact cz (x:=aFZ) (by kernel_rfl) L n _
def a0f(c:bT)(e:Cu):Kt:=xK Ac
def a0e:Kt:=xT Ac c e [1,1] (a0f c e)
def RN:Kt:=cK U0 0 (a0e c e)
def aMQ(c:bT)(a:List G.I->Int->G.Y->G.T->Rt)(b:List G.I)(d:G.Y):Rt:=
 a b 0 d iB
def M6(c:bT)(f:List G.I->Int->G.Y->G.T->Rt)(a:List G.I)(b:Int)(d:G.Y)(g:G.T):Rt:=
 bN (decide (b<(List.length a:Int))) (ob (cI a b) λh=>
 bN (decide (h.var=d)) (ob (cI a b) λi=>
 some [yR 3 i.term,yB true]) (f a (IntKind.i64.wrap (b+1)) d g)) (some [yR 3 iB,yB false])
def MF(n:Nt):List G.I->Int->G.Y->G.T->Rt:=λx0 x1 x2 x3=>n [yS 7 x0,yI x1,yR 1 x2,yR 3 x3]
def aIM:=MF (xE Ac e (pw 5 5) AB (RN c e))
def aYw:MG (xF Ac c e)=aMQ c (aIM c e):=by kernel_rfl
def aYv(n1:Nt):MF (xA Ac c e (pw 5 5) AB (eY U0 AB n1 (RN c e)))=M6 c (MF n1):=by kernel_rfl
def yU(c:bT)(L:Nat):Nat->List G.I->Int->G.Y->G.T->Rt
 |0=>λ_ _ _ _=>none
 |n+1=>M6 c (yU c L n)
def aWo(n:Nat):MF (xL Ac c L (pw 5 5) AB (RN c (cu c L)) n)=yU c L n:=by
 induction n with
 |zero=>rfl
 |succ n ih=>rw[dR,aYv];simp only[ih];rfl
def aVP:aIM c (cu c L)=yU c L L:=aWo c L L
def a5k:List G.I->G.Y->Rt:=aMQ c (yU c L L)
def bNV:MG (xF Ac c (cu c L))=a5k c L:=by rw[aYw];simp only[aVP];rfl
def bHf(a:List G.I)(b:G.Y)(L n:Nat):bR L (n+1) 127 [yS 7 a,yR 1 b]=a5k (bR L n) L a b:=by rw[<-bNV];exact cz (x:=Ac) (by kernel_rfl) L n _
def a0d(c:bT)(e:Cu):Kt:=xK Ab
def a0c:Kt:=xT Ab c e [1,1,1] (a0d c e)
def RM:Kt:=cK U0 0 (a0c c e)
def VL(c:bT)(d:List G.T->List G.T->Int->List G.I->Rt)(a:List G.T)(b:List G.T)(f:List G.I):Rt:=
 bN (!decide ((List.length a:Int)=(List.length b:Int))) (some [yS 7 ([]:List G.I),yB false]) (d a b 0 f)
def M5(h:List G.T->List G.T->Int->List G.I->Rt)(d:List G.T)(b:List G.T)(a:Int)(f:List G.I):Rt:=
 bN (decide (a<(List.length b:Int))) (ob (cI d a) λi=>
 ob (cI b a) λj=>
 wT (c 98 [yR 3 i,yR 3 j,yS 7 f]) λg=>
 bN (!g.2.1) (some [yS 7 ([]:List G.I),yB false]) (h d b (IntKind.i64.wrap (a+1)) g.1)) (some [yS 7 f,yB true])
def MD(n:Nt):List G.T->List G.T->Int->List G.I->Rt:=λx0 x1 x2 x3=>n [yS 3 x0,yS 3 x1,yI x2,yS 7 x3]
def aIL:=MD (xE Ab e (pw 6 11) AA (RM c e))
def aYu:ME (xF Ab c e)=VL c (aIL c e):=by kernel_rfl
def aYt(n1:Nt):MD (xA Ab c e (pw 6 11) AA (eY U0 AA n1 (RM c e)))=M5 c (MD n1):=by kernel_rfl
def uU(c:bT)(L:Nat):Nat->List G.T->List G.T->Int->List G.I->Rt
 |0=>λ_ _ _ _=>none
 |n+1=>M5 c (uU c L n)
def aWn(n:Nat):MD (xL Ab c L (pw 6 11) AA (RM c (cu c L)) n)=uU c L n:=by
 induction n with
 |zero=>rfl
 |succ n ih=>rw[dR,aYt];simp only[ih];rfl
def aVO:aIL c (cu c L)=uU c L L:=aWn c L L
def aQO:List G.T->List G.T->List G.I->Rt:=VL c (uU c L L)
def bNU:ME (xF Ab c (cu c L))=aQO c L:=by rw[aYu];simp only[aVO];rfl
def bHe(a:List G.T)(b:List G.T)(d:List G.I)(L n:Nat):bR L (n+1) 128 [yS 3 a,yS 3 b,yS 7 d]=aQO (bR L n) L a b d:=by rw[<-bNU];exact cz (x:=Ab) (by kernel_rfl) L n _
def a0b(c:bT)(e:Cu):Kt:=xK Cf
def RJ:Kt:=cK U0 0 (a0b c e)
def VK(b:Int->List UInt8->List G.K->G.X->Rt)(a:List UInt8):Rt:=
 bN (decide ((6000:Int)<(List.length a:Int))) (rZ (c 130 [yI 2,yI 0]) λd=>
 some [yS 19 ([]:List G.K),yR 17 d.1]) (b 0 a ([]:List G.K) (G.X.mk 0 0))
def M4(g:Int->List UInt8->List G.K->G.X->Rt)(h:Int)(a:List UInt8)(d:List G.K)(i:G.X):Rt:=
 uD (c 146 [yT a,yI h]) λf=>
 bN (!f.2.1) (rZ (c 130 [yI 11,yI (List.length a:Int)]) λj=>
 some [yS 19 ([]:List G.K),yR 17 j.1]) (bN (decide ((List.length a:Int)<=f.1)) (iQ (Nat.ble ((List.length d+List.length ([(G.K.mk 0 (List.length a:Int) [] [] [])]:List G.K))*64) 1073741824)<|
 some [yS 19 (d++([(G.K.mk 0 (List.length a:Int) [] [] [])]:List G.K)),yR 17 (G.X.mk 0 0)]) (fU [.rc 19,i6,.rc 17] (c 147 [yT a,yI f.1]) λ(b:G.K×Int×G.X×Unit)=>
 bN (!decide (b.2.2.1.err=0)) (some [yS 19 ([]:List G.K),yR 17 b.2.2.1]) (iQ (Nat.ble ((List.length d+List.length ([b.1]:List G.K))*64) 1073741824)<|
 g b.2.1 a (d++([b.1]:List G.K)) i)))
def MC(n:Nt):Int->List UInt8->List G.K->G.X->Rt:=λx0 x1 x2 x3=>n [yI x0,yT x1,yS 19 x2,yR 17 x3]
def aIK:=MC (xE Cf e (pw 6 15) Az (RJ c e))
def aYs:sR (xF Cf c e)=VK c (aIK c e):=by kernel_rfl
def aYr(n1:Nt):MC (xA Cf c e (pw 6 15) Az (eY U0 Az n1 (RJ c e)))=M4 c (MC n1):=by kernel_rfl
def yQ(c:bT)(L:Nat):Nat->Int->List UInt8->List G.K->G.X->Rt
 |0=>λ_ _ _ _=>none
 |n+1=>M4 c (yQ c L n)
def aWm(n:Nat):MC (xL Cf c L (pw 6 15) Az (RJ c (cu c L)) n)=yQ c L n:=by
 induction n with
 |zero=>rfl
 |succ n ih=>rw[dR,aYr];simp only[ih];rfl
def aVN:aIK c (cu c L)=yQ c L L:=aWm c L L
def a5j:List UInt8->Rt:=VK c (yQ c L L)
def bNT:sR (xF Cf c (cu c L))=a5j c L:=by rw[aYs];simp only[aVN];rfl
def bOR(a:List UInt8)(L n:Nat):bR L (n+1) 129 [yT a]=a5j (bR L n) L a:=by rw[<-bNT];exact cz (x:=Cf) (by kernel_rfl) L n _
def a0a(c:bT)(e:Cu):Kt:=xK wZ
def aZ9:Kt:=xT wZ c e (pw 4 15) (a0a c e)
def JS:Kt:=cK U0 0 (aZ9 c e)
def aMP(d:Bool->Int->Int->G.P->G.K->G.O->G.O->G.X->Rt)(f:Int)(b:G.P):Rt:=
 ob (cI b.t b.pos) λa=>
 bN (decide (a.kind=0)) (rZ (c 130 [yI 11,yI a.pos]) λg=>
 some [yR 2 Q4,yR 17 g.1,yR 20 b]) (bN (decide (a.kind=2)) (d (decide (a.kind=2)) a.kind f b a Q4 Q4 (G.X.mk 0 0)) (d (decide (a.kind=3)) a.kind f b a Q4 Q4 (G.X.mk 0 0)))
def aMO(j:List UInt8->G.P->G.O->G.K->G.O->G.X->Rt)(o:Bool)(g:Int)(h:Int)(a:G.P)(b:G.K)(f:G.O)(l:G.O)(m:G.X):Rt:=
 bN o (rZ (c 130 [yI 12,yI b.pos]) λp=>
 some [yR 2 f,yR 17 p.1,yR 20 a]) (bN (decide (g=5)) (some [yR 2 (G.O.mk 1 b.text b.den iD [] ([]:List G.O)),yR 17 (G.X.mk 0 0),yR 20 (G.P.mk a.l a.current a.t (IntKind.i64.wrap (a.pos+1)))]) (bN (decide (g=7)) (kH (c 108 [yT b.text]) λq=>
 some [yR 2 q.1,yR 17 (G.X.mk 0 0),yR 20 (G.P.mk a.l a.current a.t (IntKind.i64.wrap (a.pos+1)))]) (bN (decide (g=6)) (bN (decide (b.package=[])) (j a.current (G.P.mk a.l a.current a.t (IntKind.i64.wrap (a.pos+1))) f b l m) (j b.package (G.P.mk a.l a.current a.t (IntKind.i64.wrap (a.pos+1))) f b l m)) (bN (decide ((200:Int)<h)) (rZ (c 130 [yI 2,yI b.pos]) λs=>
 some [yR 2 f,yR 17 s.1,yR 20 a]) (bN (decide (b.kind=4)) (Ps (c 131 [yI (IntKind.i64.wrap (h+1)),yR 20 (G.P.mk a.l a.current a.t (IntKind.i64.wrap (a.pos+1)))]) λd=>
 bN (!decide (d.2.1.err=0)) (some [yR 2 f,yR 17 d.2.1,yR 20 d.2.2.1]) (gU (c 33 [yT [113,117,111,116,101]]) λt=>
 kH (c 90 [yR 1 t.1]) λu=>
 kH (c 110 [yS 2 ([u.1,d.1]:List G.O)]) λv=>
 some [yR 2 v.1,yR 17 d.2.1,yR 20 d.2.2.1])) (Ps (c 148 [yI (IntKind.i64.wrap (h+1)),yR 20 (G.P.mk a.l a.current a.t (IntKind.i64.wrap (a.pos+1)))]) λi=>
 some [yR 2 i.1,yR 17 i.2.1,yR 20 i.2.2.1]))))))
def aJd(n:Nt):Bool->Int->Int->G.P->G.K->G.O->G.O->G.X->Rt:=λx0 x1 x2 x3 x4 x5 x6 x7=>n [yB x0,yI x1,yI x2,yR 20 x3,yR 19 x4,yR 2 x5,yR 2 x6,yR 17 x7]
def UV:=aJd (xD wZ e (pw 10 471) LI (JS c e))
def aMN(f:List UInt8)(a:G.P)(g:G.O)(d:G.K)(j:G.O)(l:G.X):Rt:=
 fU [.rc 1,i6] (c 149 [yS 9 a.l,yT f,yT d.text]) λ(b:G.Y×Int×Unit)=>
 bN (!decide (b.2.1=0)) (rZ (c 130 [yI b.2.1,yI d.pos]) λh=>
 some [yR 2 g,yR 17 h.1,yR 20 a]) (kH (c 90 [yR 1 b.1]) λi=>
 some [yR 2 i.1,yR 17 (G.X.mk 0 0),yR 20 a])
def aJc(n:Nt):List UInt8->G.P->G.O->G.K->G.O->G.X->Rt:=λx0 x1 x2 x3 x4 x5=>n [yT x0,yR 20 x1,yR 2 x2,yR 19 x3,yR 2 x4,yR 17 x5]
def UU:=aJc (xD wZ e (pw 21 982487) LH (JS c e))
def aYq:MB (xF wZ c e)=aMP c (UV c e):=by kernel_rfl
def aYp:aJd (xA wZ c e (pw 10 471) LI (JS c e))=aMO c (UU c e):=by kernel_rfl
def aYo:aJc (xA wZ c e (pw 21 982487) LH (JS c e))=aMN c:=by kernel_rfl
def aKf(L:Nat):List UInt8->G.P->G.O->G.K->G.O->G.X->Rt:=aMN c
def a2s:UU c (cu c L)=aKf c L:=by rw[UU,bU,aYo];rfl
def aKg:Bool->Int->Int->G.P->G.K->G.O->G.O->G.X->Rt:=aMO c (aKf c L)
def a2t:UV c (cu c L)=aKg c L:=by rw[UV,bU,aYp];simp only[a2s];rfl
def a5i:Int->G.P->Rt:=aMP c (aKg c L)
def bNS:MB (xF wZ c (cu c L))=a5i c L:=by rw[aYq];simp only[a2t];rfl
def bOQ(a:Int)(b:G.P)(L n:Nat):bR L (n+1) 131 [yI a,yR 20 b]=a5i (bR L n) L a b:=by rw[<-bNS];exact cz (x:=wZ) (by kernel_rfl) L n _
def a5W(a:G.O):Rt:=
 qF (c 150 [yR 2 a,yI 3001]) λb=>
 some [yI b.1]
def a5h(L:Nat):G.O->Rt:=a5W c
def bNR:qO (xF aFY c (cu c L))=a5h c L:=by kernel_rfl
def bOP(a:G.O)(L n:Nat):bR L (n+1) 132 [yR 2 a]=a5h (bR L n) L a:=by rw[<-bNR];exact cz (x:=aFY) (by kernel_rfl) L n _
def aEN(c:bT)(e:Cu):Kt:=xK Er
def aMM(a:Bool->Rt)(b:G.T):Rt:=
 qF (c 159 [yR 3 b]) λd=>
 bN (decide (d.1<=3000)) (qF (c 160 [yR 3 b]) λf=>
 bN (decide (f.1<=200)) (cO (c 161 [yR 3 b]) λg=>
 a g.1) (a false)) (a false)
def aML(c:bT)(a:Bool):Rt:=
 some [yB a]
def UT:=dH (xD Er e [1,1,0] LG (aEN c e))
def aYn:iJ (xF Er c e)=aMM c (UT c e):=by kernel_rfl
def aYm:dH (xA Er c e [1,1,0] LG (aEN c e))=aML c:=by kernel_rfl
def aKe(L:Nat):Bool->Rt:=aML c
def a2r:UT c (cu c L)=aKe c L:=by rw[UT,bU,aYm];rfl
def a5g:G.T->Rt:=aMM c (aKe c L)
def bNQ:iJ (xF Er c (cu c L))=a5g c L:=by rw[aYn];simp only[a2r];rfl
def bOO(a:G.T)(L n:Nat):bR L (n+1) 136 [yR 3 a]=a5g (bR L n) L a:=by rw[<-bNQ];exact cz (x:=Er) (by kernel_rfl) L n _
def aEM(c:bT)(e:Cu):Kt:=xK Eo
def VJ(c:bT)(a:Bool->Rt)(b:G.O):Rt:=
 bN (decide (b.kind=2)) (a (decide (b.sym=(G.Y.mk [108,105,115,112] [110,105,108])))) (a false)
def aMK(c:bT)(a:Bool):Rt:=
 some [yB a]
def US:=dH (xD Eo e [1,1,0] LF (aEM c e))
def aYl:qO (xF Eo c e)=VJ c (US c e):=by kernel_rfl
def aYk:dH (xA Eo c e [1,1,0] LF (aEM c e))=aMK c:=by kernel_rfl
def aKd(L:Nat):Bool->Rt:=aMK c
def a2q:US c (cu c L)=aKd c L:=by rw[US,bU,aYk];rfl
def a5f:G.O->Rt:=VJ c (aKd c L)
def bNP:qO (xF Eo c (cu c L))=a5f c L:=by rw[aYl];simp only[a2q];rfl
def bON(a:G.O)(L n:Nat):bR L (n+1) 139 [yR 2 a]=a5f (bR L n) L a:=by rw[<-bNP];exact cz (x:=Eo) (by kernel_rfl) L n _
def RI(c:bT)(e:Cu):Kt:=xK uJ
def aZ8:Kt:=xT uJ c e [1,1,1] (RI c e)
def RH:Kt:=cK U0 0 (aZ8 c e)
def VI(d:Int->List G.T->Int->Int->List G.Y->Rt)(f:Int->List G.Y->Rt)(b:G.T)(g:Int)(h:List G.Y):Rt:=
 fU [.bool,i6,zS 1] (c 167 [yR 3 b,yI g,yS 1 h]) λ(a:Bool×Int×List G.Y×Unit)=>
 bN (!a.1) (some [yB false,yI a.2.1,yS 1 a.2.2.1]) (bN (decide (b.kind=3)) (d (List.length b.args:Int) b.args 0 a.2.1 a.2.2.1) (f a.2.1 a.2.2.1))
def MZ(i:Int->List G.T->Int->Int->List G.Y->Rt)(j:Int->List G.Y->Rt)(d:Int)(f:List G.T)(b:Int)(g:Int)(h:List G.Y):Rt:=
 bN (decide (b<d)) (ob (cI f b) λl=>
 fU [.bool,i6,zS 1] (c 140 [yR 3 l,yI g,yS 1 h]) λ(a:Bool×Int×List G.Y×Unit)=>
 bN (!a.1) (some [yB false,yI a.2.1,yS 1 a.2.2.1]) (i d f (IntKind.i64.wrap (b+1)) a.2.1 a.2.2.1)) (j g h)
def aII:=vA (xE uJ e (pw 8 43) Ay (RH c e))
def aMH(c:bT)(a:Int)(b:List G.Y):Rt:=
 some [yB true,yI a,yS 1 b]
def L3:=Mz (xD uJ e (pw 4 7) LD (RI c e))
def aYj:MA (xF uJ c e)=VI c (aII c e) (L3 c e):=by kernel_rfl
def aYi(n1:Nt):vA (xA uJ c e (pw 8 43) Ay (eY U0 Ay n1 (RH c e)))=MZ c (vA n1) (L3 c e):=by kernel_rfl
def aYh:Mz (xA uJ c e (pw 4 7) LD (RI c e))=aMH c:=by kernel_rfl
def Vk(L:Nat):Int->List G.Y->Rt:=aMH c
def aFM:L3 c (cu c L)=Vk c L:=by rw[L3,bU,aYh];rfl
def yP(c:bT)(L:Nat):Nat->Int->List G.T->Int->Int->List G.Y->Rt
 |0=>λ_ _ _ _ _=>none
 |n+1=>MZ c (yP c L n) (Vk c L)
def aWl(n:Nat):vA (xL uJ c L (pw 8 43) Ay (RH c (cu c L)) n)=yP c L n:=by
 induction n with
 |zero=>rfl
 |succ n ih=>rw[dR,aYi];simp only[aFM,ih];rfl
def aVM:aII c (cu c L)=yP c L L:=aWl c L L
def a5e:G.T->Int->List G.Y->Rt:=VI c (yP c L L) (Vk c L)
def bNO:MA (xF uJ c (cu c L))=a5e c L:=by rw[aYj];simp only[aVM,aFM];rfl
def bOM(a:G.T)(b:Int)(d:List G.Y)(L n:Nat):bR L (n+1) 140 [yR 3 a,yI b,yS 1 d]=a5e (bR L n) L a b d:=by rw[<-bNO];exact cz (x:=uJ) (by kernel_rfl) L n _
def a5V(c:bT)(a:List G.I):Rt:=
 bN (decide ((List.length a:Int)=0)) (iQ (List.isEmpty a&&decide ((0:Int)=0)&&decide ((0:Int)=0)&&decide ((0:Int)=0))<|
 some [yS 7 ([]:List G.I)]) (iQ (Nat.ble ((List.length ([]:List G.I)+List.length a)*208) 1073741824)<|
 some [yS 7 (([]:List G.I)++a)])
def a4A(n:Nt):List G.I->Rt:=λx0=>n [yS 7 x0]
def bIi(L:Nat):List G.I->Rt:=a5V c
def bNN:a4A (xF aFX c (cu c L))=bIi c L:=by kernel_rfl
def bOL(a:List G.I)(L n:Nat):bR L (n+1) 141 [yS 7 a]=bIi (bR L n) L a:=by rw[<-bNN];exact cz (x:=aFX) (by kernel_rfl) L n _
def RG(c:bT)(e:Cu):Kt:=xK oT
def aEL:Kt:=xT oT c e [1,1,1] (RG c e)
def aEK:Kt:=xT oT c e (pw 4 15) (RG c e)
def aZ7:Kt:=xT oT c e (pw 5 31) (RG c e)
def RF:Kt:=cK U0 0 (aZ7 c e)
def VH(f:Bool->List G.I->G.T->G.T->Rt)(a:G.T)(b:G.T)(d:List G.I):Rt:=
 bN (decide (a.kind=1)) (fU [.rc 3,.bool] (c 168 [yS 7 d,yR 1 a.name]) λ(g:G.T×Bool×Unit)=>
 bN (!g.2.1) (iQ (Nat.ble ((List.length d+List.length ([(G.I.mk a.name b)]:List G.I))*208) 1073741824)<|
 some [yS 7 (d++([(G.I.mk a.name b)]:List G.I)),yB true]) (cO (c 74 [yR 3 g.1,yR 3 b]) λh=>
 some [yS 7 d,yB h.1])) (bN (!decide (a.kind=3)) (f true d a b) (f (!decide (b.kind=3)) d a b))
def MY(f:Bool->List G.I->G.T->G.T->Rt)(g:Bool)(d:List G.I)(a:G.T)(b:G.T):Rt:=
 bN g (cO (c 74 [yR 3 a,yR 3 b]) λh=>
 some [yS 7 d,yB h.1]) (bN (!decide (a.name=b.name)) (f true d a b) (f (!decide ((List.length a.args:Int)=(List.length b.args:Int))) d a b))
def UR:=B3 (xD oT e (pw 5 11) LC (aEL c e))
def VG(c:bT)(d:Int->List G.T->Int->List G.I->G.T->Rt)(f:Bool)(a:List G.I)(b:G.T)(g:G.T):Rt:=
 bN f (some [yS 7 a,yB false]) (d (List.length b.args:Int) b.args 0 a g)
def UQ:=B3 (xD oT e (pw 6 23) LB (aEK c e))
def MX(i:Int->List G.T->Int->List G.I->G.T->Rt)(d:Int)(f:List G.T)(a:Int)(b:List G.I)(g:G.T):Rt:=
 bN (decide (a<d)) (ob (cI f a) λj=>
 ob (cI g.args a) λl=>
 wT (c 142 [yR 3 j,yR 3 l,yS 7 b]) λh=>
 bN h.2.1 (i d f (IntKind.i64.wrap (a+1)) h.1 g) (some [yS 7 b,yB false])) (some [yS 7 b,yB true])
def My(n:Nt):Int->List G.T->Int->List G.I->G.T->Rt:=λx0 x1 x2 x3 x4=>n [yI x0,yS 3 x1,yI x2,yS 7 x3,yR 3 x4]
def aIH:=My (xE oT e (pw 8 47) Ax (RF c e))
def aYg:FY (xF oT c e)=VH c (UR c e):=by kernel_rfl
def aYf:B3 (xA oT c e (pw 5 11) LC (aEL c e))=MY c (UQ c e):=by kernel_rfl
def aYe:B3 (xA oT c e (pw 6 23) LB (aEK c e))=VG c (aIH c e):=by kernel_rfl
def aYd(n3:Nt):My (xA oT c e (pw 8 47) Ax (eY U0 Ax n3 (RF c e)))=MX c (My n3):=by kernel_rfl
def yO(c:bT)(L:Nat):Nat->Int->List G.T->Int->List G.I->G.T->Rt
 |0=>λ_ _ _ _ _=>none
 |n+1=>MX c (yO c L n)
def aWk(n:Nat):My (xL oT c L (pw 8 47) Ax (RF c (cu c L)) n)=yO c L n:=by
 induction n with
 |zero=>rfl
 |succ n ih=>rw[dR,aYd];simp only[ih];rfl
def aVL:aIH c (cu c L)=yO c L L:=aWk c L L
def Vj:Bool->List G.I->G.T->G.T->Rt:=VG c (yO c L L)
def a2o:UQ c (cu c L)=Vj c L:=by rw[UQ,bU,aYe];simp only[aVL];rfl
def MQ:Bool->List G.I->G.T->G.T->Rt:=MY c (Vj c L)
def a2p:UR c (cu c L)=MQ c L:=by rw[UR,bU,aYf];simp only[a2o];rfl
def a5d:G.T->G.T->List G.I->Rt:=VH c (MQ c L)
def bNM:FY (xF oT c (cu c L))=a5d c L:=by rw[aYg];simp only[a2p];rfl
def bOK(a:G.T)(b:G.T)(d:List G.I)(L n:Nat):bR L (n+1) 142 [yR 3 a,yR 3 b,yS 7 d]=a5d (bR L n) L a b d:=by rw[<-bNM];exact cz (x:=oT) (by kernel_rfl) L n _
def aZ6(c:bT)(e:Cu):Kt:=xK Aa
def aZ5:Kt:=xT Aa c e [1,1] (aZ6 c e)
def RE:Kt:=cK U0 0 (aZ5 c e)
def VF(c:bT)(b:Int->List G.F->Int->G.Y->Rt)(a:List G.F)(d:G.Y):Rt:=
 b (List.length a:Int) a 0 d
def aJb(n:Nt):List G.F->G.Y->Rt:=λx0 x1=>n [yS 8 x0,yR 1 x1]
def MW(h:Int->List G.F->Int->G.Y->Rt)(d:Int)(f:List G.F)(a:Int)(g:G.Y):Rt:=
 bN (decide (a<d)) (ob (cI f a) λi=>
 fU [.bool,.rc 1] (c 169 [yR 8 i,yR 1 g]) λ(b:Bool×G.Y×Unit)=>
 bN b.1 (some [yI a,yB true,yR 1 b.2.1]) (h d f (IntKind.i64.wrap (a+1)) b.2.1)) (some [yI 0,yB false,yR 1 g])
def Mx(n:Nt):Int->List G.F->Int->G.Y->Rt:=λx0 x1 x2 x3=>n [yI x0,yS 8 x1,yI x2,yR 1 x3]
def aIG:=Mx (xE Aa e (pw 5 5) Aw (RE c e))
def aYc:aJb (xF Aa c e)=VF c (aIG c e):=by kernel_rfl
def aYb(n1:Nt):Mx (xA Aa c e (pw 5 5) Aw (eY U0 Aw n1 (RE c e)))=MW c (Mx n1):=by kernel_rfl
def yN(c:bT)(L:Nat):Nat->Int->List G.F->Int->G.Y->Rt
 |0=>λ_ _ _ _=>none
 |n+1=>MW c (yN c L n)
def aWj(n:Nat):Mx (xL Aa c L (pw 5 5) Aw (RE c (cu c L)) n)=yN c L n:=by
 induction n with
 |zero=>rfl
 |succ n ih=>rw[dR,aYb];simp only[ih];rfl
def aVK:aIG c (cu c L)=yN c L L:=aWj c L L
def a5c:List G.F->G.Y->Rt:=VF c (yN c L L)
def bNL:aJb (xF Aa c (cu c L))=a5c c L:=by rw[aYc];simp only[aVK];rfl
def bOJ(a:List G.F)(b:G.Y)(L n:Nat):bR L (n+1) 143 [yS 8 a,yR 1 b]=a5c (bR L n) L a b:=by rw[<-bNL];exact cz (x:=Aa) (by kernel_rfl) L n _
def aMG(d:G.T)(a:G.T)(b:G.T):Rt:=
 eC (c 84 [yR 3 d,yR 3 a,yR 3 b]) λf=>
 some [yR 3 f.1,yR 3 a,yR 3 b]
def a5b(L:Nat):G.T->G.T->G.T->Rt:=aMG c
def bNK:B4 (xF aFW c (cu c L))=a5b c L:=by kernel_rfl
def bOI(a:G.T)(b:G.T)(d:G.T)(L n:Nat):bR L (n+1) 145 [yR 3 a,yR 3 b,yR 3 d]=a5b (bR L n) L a b d:=by rw[<-bNK];exact cz (x:=aFW) (by kernel_rfl) L n _
def aZ4(c:bT)(e:Cu):Kt:=xK lW
def aZ3:Kt:=xT lW c e [1,1] (aZ4 c e)
def JR:Kt:=cK U0 0 (aZ3 c e)
def aZ2(n1:Nt):Kt:=eY U0 vY n1 (JR c e)
def aZ1(n1:Nt):Kt:=cK U0 1 (aZ2 c e n1)
def aEJ(n1:Nt):Kt:=cK U0 2 (aZ1 c e n1)
def JQ(n1:Nt):Kt:=cK U0 3 (aEJ c e n1)
def RD(n1:Nt):Kt:=cK U0 5 (aEJ c e n1)
def aZ0(n2:Nt)(n1:Nt):Kt:=eY U0 vX n2 (JQ c e n1)
def aEI(n2:Nt)(n1:Nt):Kt:=xT lW c e (pw 14 9105) (aZ0 c e n2 n1)
def VE(c:bT)(a:List UInt8->Int->Rt)(b:List UInt8)(d:Int):Rt:=
 a b d
def MV(d:List UInt8->Int->Rt)(f:List UInt8->Int->Rt)(g:Int->List UInt8->Int->Rt)(b:List UInt8)(a:Int):Rt:=
 bN (decide (a<(List.length b:Int))) (ob (cI b a) λh=>
 cO (c 170 [⟨(.int .u8),(h.toNat:Int)⟩]) λi=>
 bN i.1 (d b (IntKind.i64.wrap (a+1))) (ob (cI b a) λj=>
 bN (decide ((j.toNat:Int)=59)) (f b a) (cO (c 171 [yT b,yI a,⟨(.int .u8),35⟩,⟨(.int .u8),124⟩]) λl=>
 bN l.1 (g 1 b (IntKind.i64.wrap (a+2))) (some [yI a,yB true])))) (some [yI a,yB true])
def aIF:=eT (xE lW e (pw 4 1) vY (JR c e))
def aMF(c:bT)(d:Bool->List UInt8->Int->Rt)(a:List UInt8)(b:Int):Rt:=
 bN (decide (b<(List.length a:Int))) (ob (cI a b) λf=>
 d (!decide ((f.toNat:Int)=10)) a b) (d false a b)
def aIE(n1:Nt):=eT (xE lW e (pw 13 913) vX (JQ c e n1))
def aME(f:Int->List UInt8->Int->Rt)(g:List UInt8->Int->Rt)(d:Int)(b:List UInt8)(a:Int):Rt:=
 bN (decide ((0:Int)<d)) (bN (decide ((List.length b:Int)<=a)) (some [yI a,yB false]) (cO (c 171 [yT b,yI a,⟨(.int .u8),35⟩,⟨(.int .u8),124⟩]) λh=>
 bN h.1 (f (IntKind.i64.wrap (d+1)) b (IntKind.i64.wrap (a+2))) (cO (c 171 [yT b,yI a,⟨(.int .u8),124⟩,⟨(.int .u8),35⟩]) λi=>
 bN i.1 (f (IntKind.i64.wrap (d-1)) b (IntKind.i64.wrap (a+2))) (f d b (IntKind.i64.wrap (a+1)))))) (g b a)
def aID(n1:Nt):=lK (xE lW e (pw 17 28561) Av (RD c e n1))
def aMD(c:bT)(d:List UInt8->Int->Rt)(f:List UInt8->Int->Rt)(g:Bool)(a:List UInt8)(b:Int):Rt:=
 bN g (d a (IntKind.i64.wrap (b+1))) (f a b)
def UP(n2:Nt)(n1:Nt):=B2 (xD lW e (pw 16 17297) LA (aEI c e n2 n1))
def aYa:eT (xF lW c e)=VE c (aIF c e):=by kernel_rfl
def aX9(n1:Nt):eT (xA lW c e (pw 4 1) vY (eY U0 vY n1 (JR c e)))=MV c (eT n1) (aIE c e n1) (aID c e n1):=by kernel_rfl
def aX8(n2:Nt)(n1:Nt):eT (xA lW c e (pw 13 913) vX (eY U0 vX n2 (JQ c e n1)))=aMF c (UP c e n2 n1):=by kernel_rfl
def aX7(n3:Nt)(n1:Nt):lK (xA lW c e (pw 17 28561) Av (eY U0 Av n3 (RD c e n1)))=aME c (lK n3) (eT n1):=by kernel_rfl
def aX6(n2:Nt)(n1:Nt):B2 (xA lW c e (pw 16 17297) LA (aEI c e n2 n1))=aMD c (eT n2) (eT n1):=by kernel_rfl
def Mh(c:bT)(L:Nat)(n1:List UInt8->Int->Rt):Nat->Int->List UInt8->Int->Rt
 |0=>λ_ _ _=>none
 |n+1=>aME c (Mh c L n1 n) n1
def aWg(n1:Nt)(n:Nat):lK (xL lW c L (pw 17 28561) Av (RD c (cu c L) n1) n)=Mh c L (eT n1) n:=by
 induction n with
 |zero=>rfl
 |succ n ih=>rw[dR,aX7];simp only[ih];rfl
def aVH(n1:Nt):aID c (cu c L) n1=Mh c L (eT n1) L:=aWg c L n1 L
def aKb(L:Nat)(n2:List UInt8->Int->Rt)(n1:List UInt8->Int->Rt):Bool->List UInt8->Int->Rt:=aMD c n2 n1
def a2n(n2:Nt)(n1:Nt):UP c (cu c L) n2 n1=aKb c L (eT n2) (eT n1):=by rw[UP,bU,aX6];rfl
def Mi(c:bT)(L:Nat)(n1:List UInt8->Int->Rt):Nat->List UInt8->Int->Rt
 |0=>λ_ _=>none
 |n+1=>aMF c (aKb c L (Mi c L n1 n) n1)
def aWh(n1:Nt)(n:Nat):eT (xL lW c L (pw 13 913) vX (JQ c (cu c L) n1) n)=Mi c L (eT n1) n:=by
 induction n with
 |zero=>rfl
 |succ n ih=>rw[dR,aX8];simp only[a2n,ih];rfl
def aVI(n1:Nt):aIE c (cu c L) n1=Mi c L (eT n1) L:=aWh c L n1 L
def sP(c:bT)(L:Nat):Nat->List UInt8->Int->Rt
 |0=>λ_ _=>none
 |n+1=>MV c (sP c L n) (Mi c L (sP c L n) L) (Mh c L (sP c L n) L)
def aWi(n:Nat):eT (xL lW c L (pw 4 1) vY (JR c (cu c L)) n)=sP c L n:=by
 induction n with
 |zero=>rfl
 |succ n ih=>rw[dR,aX9];simp only[aVI,aVH,ih];rfl
def aVJ:aIF c (cu c L)=sP c L L:=aWi c L L
def a5a:List UInt8->Int->Rt:=VE c (sP c L L)
def bNJ:eT (xF lW c (cu c L))=a5a c L:=by rw[aYa];simp only[aVJ];rfl
def bOH(a:List UInt8)(b:Int)(L n:Nat):bR L (n+1) 146 [yT a,yI b]=a5a (bR L n) L a b:=by rw[<-bNJ];exact cz (x:=lW) (by kernel_rfl) L n _
end
end Go.TV
namespace Go.TV
open Go.AI Go.PI Go.Proofs
set_option maxRecDepth 20000
noncomputable section
variable(c:bT)(e:Cu)(L:Nat)
def aMa(c:bT)(b:G.F)(a:G.Y):Rt:=
 some [yB (decide (b.name=a)),yR 1 a]
def a4z(n:Nt):G.F->G.Y->Rt:=λx0 x1=>n [yR 8 x0,yR 1 x1]
def a4Z(L:Nat):G.F->G.Y->Rt:=aMa c
def bNx:a4z (xF aFT c (cu c L))=a4Z c L:=by kernel_rfl
def bOv(a:G.F)(b:G.Y)(L n:Nat):bR L (n+1) 169 [yR 8 a,yR 1 b]=a4Z (bR L n) L a b:=by rw[<-bNx];exact cz (x:=aFT) (by kernel_rfl) L n _
def aEw(c:bT)(e:Cu):Kt:=xK Em
def VA(c:bT)(a:Bool->Rt)(b:Int):Rt:=
 bN (decide (b=32)) (a true) (bN (decide (b=9)) (a true) (bN (decide (b=10)) (a true) (a (decide (b=13)))))
def Vz(c:bT)(a:Bool):Rt:=
 some [yB a]
def UA:=dH (xD Em e [1,1,0] Lj (aEw c e))
def aXA:Mr (xF Em c e)=VA c (UA c e):=by kernel_rfl
def aXz:dH (xA Em c e [1,1,0] Lj (aEw c e))=Vz c:=by kernel_rfl
def Ve(L:Nat):Bool->Rt:=Vz c
def a18:UA c (cu c L)=Ve c L:=by rw[UA,bU,aXz];rfl
def a4Y:Int->Rt:=VA c (Ve c L)
def bNw:Mr (xF Em c (cu c L))=a4Y c L:=by rw[aXA];simp only[a18];rfl
def bOu(a:Int)(L n:Nat):bR L (n+1) 170 [⟨(.int .u8),a⟩]=a4Y (bR L n) L a:=by rw[<-bNw];exact cz (x:=Em) (by kernel_rfl) L n _
def aEv(c:bT)(e:Cu):Kt:=xK El
def Vy(c:bT)(a:Bool->Rt)(d:List UInt8)(b:Int)(f:Int)(g:Int):Rt:=
 bN (decide ((0:Int)<=b)) (bN (decide ((IntKind.i64.wrap (b+1))<(List.length d:Int))) (ob (cI d b) λh=>
 bN (decide ((h.toNat:Int)=f)) (ob (cI d (IntKind.i64.wrap (b+1))) λi=>
 a (decide ((i.toNat:Int)=g))) (a false)) (a false)) (a false)
def aI1(n:Nt):List UInt8->Int->Int->Int->Rt:=λx0 x1 x2 x3=>n [yT x0,yI x1,⟨(.int .u8),x2⟩,⟨(.int .u8),x3⟩]
def Vx(c:bT)(a:Bool):Rt:=
 some [yB a]
def Uz:=dH (xD El e [1,1,0] Li (aEv c e))
def aXy:aI1 (xF El c e)=Vy c (Uz c e):=by kernel_rfl
def aXx:dH (xA El c e [1,1,0] Li (aEv c e))=Vx c:=by kernel_rfl
def Vd(L:Nat):Bool->Rt:=Vx c
def a17:Uz c (cu c L)=Vd c L:=by rw[Uz,bU,aXx];rfl
def a4X:List UInt8->Int->Int->Int->Rt:=Vy c (Vd c L)
def bNv:aI1 (xF El c (cu c L))=a4X c L:=by rw[aXy];simp only[a17];rfl
def bOt(a:List UInt8)(b:Int)(d:Int)(f:Int)(L n:Nat):bR L (n+1) 171 [yT a,yI b,⟨(.int .u8),d⟩,⟨(.int .u8),f⟩]=a4X (bR L n) L a b d f:=by rw[<-bNv];exact cz (x:=El) (by kernel_rfl) L n _
def aZI(c:bT)(e:Cu):Kt:=xK Cc
def aZH:Kt:=xT Cc c e [1,1] (aZI c e)
def aEu:Kt:=cK U0 0 (aZH c e)
def Vw(b:Bool->G.K->G.X->Rt)(a:G.K)(d:Bool):Rt:=
 bN (decide ((40:Int)<(List.length a.text:Int))) (rZ (c 130 [yI 2,yI a.pos]) λf=>
 some [yR 17 f.1]) (bN d (bN (decide (a.text=[])) (b true a (G.X.mk 0 0)) (bN (!decide (a.package=[])) (cO (c 194 [yT a.package]) λg=>
 b (!g.1) a (G.X.mk 0 0)) (b false a (G.X.mk 0 0)))) (bN (!decide (a.package=[])) (cO (c 194 [yT a.package]) λh=>
 b (!h.1) a (G.X.mk 0 0)) (b false a (G.X.mk 0 0))))
def aI0(n:Nt):G.K->Bool->Rt:=λx0 x1=>n [yR 19 x0,yB x1]
def aL9(a:Bool)(b:G.K)(f:G.X):Rt:=
 bN a (rZ (c 130 [yI 3,yI b.pos]) λd=>
 some [yR 17 d.1]) (some [yR 17 (G.X.mk 0 0)])
def aIZ(n:Nt):Bool->G.K->G.X->Rt:=λx0 x1 x2=>n [yB x0,yR 19 x1,yR 17 x2]
def Uy:=aIZ (xD Cc e (pw 7 57) Lh (aEu c e))
def aXw:aI0 (xF Cc c e)=Vw c (Uy c e):=by kernel_rfl
def aXv:aIZ (xA Cc c e (pw 7 57) Lh (aEu c e))=aL9 c:=by kernel_rfl
def aJY(L:Nat):Bool->G.K->G.X->Rt:=aL9 c
def a16:Uy c (cu c L)=aJY c L:=by rw[Uy,bU,aXv];rfl
def aQN:G.K->Bool->Rt:=Vw c (aJY c L)
def bNu:aI0 (xF Cc c (cu c L))=aQN c L:=by rw[aXw];simp only[a16];rfl
def bHd(a:G.K)(b:Bool)(L n:Nat):bR L (n+1) 173 [yR 19 a,yB b]=aQN (bR L n) L a b:=by rw[<-bNu];exact cz (x:=Cc) (by kernel_rfl) L n _
def aEt(c:bT)(e:Cu):Kt:=xK Ek
def Vv(c:bT)(a:Bool->Rt)(b:Int):Rt:=
 bN (decide ((33:Int)<=b)) (bN (decide (b<=126)) (bN (!decide (b=40)) (bN (!decide (b=41)) (bN (!decide (b=39)) (bN (!decide (b=34)) (bN (!decide (b=59)) (bN (!decide (b=124)) (a (!decide (b=58))) (a false)) (a false)) (a false)) (a false)) (a false)) (a false)) (a false)) (a false)
def Vu(c:bT)(a:Bool):Rt:=
 some [yB a]
def Ux:=dH (xD Ek e [1,1,0] Lg (aEt c e))
def aXu:Mr (xF Ek c e)=Vv c (Ux c e):=by kernel_rfl
def aXt:dH (xA Ek c e [1,1,0] Lg (aEt c e))=Vu c:=by kernel_rfl
def Vc(L:Nat):Bool->Rt:=Vu c
def a15:Ux c (cu c L)=Vc c L:=by rw[Ux,bU,aXt];rfl
def a4W:Int->Rt:=Vv c (Vc c L)
def bNt:Mr (xF Ek c (cu c L))=a4W c L:=by rw[aXu];simp only[a15];rfl
def bOs(a:Int)(L n:Nat):bR L (n+1) 174 [⟨(.int .u8),a⟩]=a4W (bR L n) L a:=by rw[<-bNt];exact cz (x:=Ek) (by kernel_rfl) L n _
def aZG(c:bT)(e:Cu):Kt:=xK sZ
def aZF:Kt:=xT sZ c e [1,1] (aZG c e)
def JL:Kt:=cK U0 0 (aZF c e)
def aZE(n1:Nt):Kt:=eY U0 vU n1 (JL c e)
def aEs(n1:Nt):Kt:=xT sZ c e (pw 5 17) (aZE c e n1)
def Vt(c:bT)(a:List UInt8->Int->Rt)(b:List UInt8)(d:Int):Rt:=
 a b d
def MT(d:Bool->List UInt8->Int->Rt)(a:List UInt8)(b:Int):Rt:=
 bN (decide (b<(List.length a:Int))) (ob (cI a b) λf=>
 cO (c 174 [⟨(.int .u8),(f.toNat:Int)⟩]) λg=>
 d g.1 a b) (d false a b)
def aIs:=eT (xE sZ e (pw 4 1) vU (JL c e))
def Gd(c:bT)(b:List UInt8->Int->Rt)(d:Bool)(f:List UInt8)(a:Int):Rt:=
 bN d (b f (IntKind.i64.wrap (a+1))) (some [yI a])
def Uw(n1:Nt):=B2 (xD sZ e (pw 7 33) Lf (aEs c e n1))
def aXs:eT (xF sZ c e)=Vt c (aIs c e):=by kernel_rfl
def aXr(n1:Nt):eT (xA sZ c e (pw 4 1) vU (eY U0 vU n1 (JL c e)))=MT c (Uw c e n1):=by kernel_rfl
def aXq(n1:Nt):B2 (xA sZ c e (pw 7 33) Lf (aEs c e n1))=Gd c (eT n1):=by kernel_rfl
def Gb(L:Nat)(n1:List UInt8->Int->Rt):Bool->List UInt8->Int->Rt:=Gd c n1
def a14(n1:Nt):Uw c (cu c L) n1=Gb c L (eT n1):=by rw[Uw,bU,aXq];rfl
def yL(c:bT)(L:Nat):Nat->List UInt8->Int->Rt
 |0=>λ_ _=>none
 |n+1=>MT c (Gb c L (yL c L n))
def aV9(n:Nat):eT (xL sZ c L (pw 4 1) vU (JL c (cu c L)) n)=yL c L n:=by
 induction n with
 |zero=>rfl
 |succ n ih=>rw[dR,aXr];simp only[a14,ih];rfl
def aVz:aIs c (cu c L)=yL c L L:=aV9 c L L
def a4V:List UInt8->Int->Rt:=Vt c (yL c L L)
def bNs:eT (xF sZ c (cu c L))=a4V c L:=by rw[aXs];simp only[aVz];rfl
def bOr(a:List UInt8)(b:Int)(L n:Nat):bR L (n+1) 175 [yT a,yI b]=a4V (bR L n) L a b:=by rw[<-bNs];exact cz (x:=sZ) (by kernel_rfl) L n _
def A8(c:bT)(e:Cu):Kt:=xK iG
def aEr:Kt:=xT iG c e [1,1,1] (A8 c e)
def aZD:Kt:=xT iG c e (pw 6 55) (A8 c e)
def JK:Kt:=cK U0 0 (aZD c e)
def aZC(n3:Nt):Kt:=eY U0 vT n3 (JK c e)
def aEq(n3:Nt):Kt:=xT iG c e (pw 9 279) (aZC c e n3)
def aEp:Kt:=xT iG c e (pw 9 503) (A8 c e)
def aZB:Kt:=xT iG c e (pw 10 1015) (A8 c e)
def JJ:Kt:=cK U0 2 (aZB c e)
def aZA(n6:Nt):Kt:=eY U0 vS n6 (JJ c e)
def aN3(n6:Nt):Kt:=xT iG c e (pw 15 26103) (aZA c e n6)
def Xi(n6:Nt):Kt:=cK U0 3 (aN3 c e n6)
def Vs(c:bT)(b:Bool->Int->List UInt8->Rt)(a:List UInt8):Rt:=
 bN (decide ((0:Int)<(List.length a:Int))) (ob (cI a 0) λd=>
 b (decide ((d.toNat:Int)=45)) 0 a) (b false 0 a)
def Vr(c:bT)(a:Int->List UInt8->Rt)(d:Bool)(f:Int)(b:List UInt8):Rt:=
 bN d (a 1 b) (a f b)
def Uv:=Mq (xD iG e (pw 5 11) Le (aEr c e))
def Vq(c:bT)(b:Int->List UInt8->Int->Rt)(a:Int)(d:List UInt8):Rt:=
 b a d a
def aIY(n:Nt):Int->List UInt8->Rt:=λx0 x1=>n [yI x0,yT x1]
def Uu:=aIY (xD iG e (pw 4 7) Ld (A8 c e))
def Vp(c:bT)(d:Bool->Int->List UInt8->Int->Rt)(f:Int)(a:List UInt8)(b:Int):Rt:=
 bN (decide (b<(List.length a:Int))) (ob (cI a b) λg=>
 bN (decide ((48:Int)<=(g.toNat:Int))) (ob (cI a b) λh=>
 d (decide ((h.toNat:Int)<=57)) f a b) (d false f a b)) (d false f a b)
def aIr:=lK (xE iG e (pw 8 23) vT (JK c e))
def aL8(c:bT)(g:Int->List UInt8->Int->Rt)(d:Bool->List UInt8->Int->Rt)(h:Bool)(f:Int)(a:List UInt8)(b:Int):Rt:=
 bN h (g f a (IntKind.i64.wrap (b+1))) (bN (decide (b=f)) (some [yT [],yT [],yB false]) (bN (decide (b=(List.length a:Int))) (some [yT a,yT [49],yB true]) (ob (cI a b) λi=>
 bN (!decide ((i.toNat:Int)=47)) (d true a b) (d (decide ((IntKind.i64.wrap (b+1))=(List.length a:Int))) a b))))
def Ut(n3:Nt):=Mo (xD iG e (pw 11 535) Lc (aEq c e n3))
def aL7(c:bT)(b:Int->List UInt8->Int->Rt)(d:Bool)(f:List UInt8)(a:Int):Rt:=
 bN d (some [yT [],yT [],yB false]) (b (IntKind.i64.wrap (a+1)) f a)
def Us:=B2 (xD iG e (pw 11 759) Lb (aEp c e))
def aL6(c:bT)(f:Bool->Int->List UInt8->Int->Rt)(b:Int)(a:List UInt8)(d:Int):Rt:=
 bN (decide (b<(List.length a:Int))) (ob (cI a b) λg=>
 bN (decide ((g.toNat:Int)<48)) (f true b a d) (ob (cI a b) λh=>
 f (decide ((57:Int)<(h.toNat:Int))) b a d)) (ob (slc a 0 d) λi=>
 ob (slc a (IntKind.i64.wrap (d+1)) (List.length a:Int)) λj=>
 some [yT i,yT j,yB true])
def aIq:=lK (xE iG e (pw 13 1527) vS (JJ c e))
def aL5(c:bT)(a:Int->List UInt8->Int->Rt)(b:Bool)(d:Int)(f:List UInt8)(g:Int):Rt:=
 bN b (some [yT [],yT [],yB false]) (a (IntKind.i64.wrap (d+1)) f g)
def Ur(n6:Nt):=Mo (xD iG e (pw 18 75255) La (Xi c e n6))
def aXp:sR (xF iG c e)=Vs c (Uv c e):=by kernel_rfl
def aXo:Mq (xA iG c e (pw 5 11) Le (aEr c e))=Vr c (Uu c e):=by kernel_rfl
def aXn:aIY (xA iG c e (pw 4 7) Ld (A8 c e))=Vq c (aIr c e):=by kernel_rfl
def aXm(n3:Nt):lK (xA iG c e (pw 8 23) vT (eY U0 vT n3 (JK c e)))=Vp c (Ut c e n3):=by kernel_rfl
def aXl(n3:Nt):Mo (xA iG c e (pw 11 535) Lc (aEq c e n3))=aL8 c (lK n3) (Us c e):=by kernel_rfl
def aXk:B2 (xA iG c e (pw 11 759) Lb (aEp c e))=aL7 c (aIq c e):=by kernel_rfl
def aXj(n6:Nt):lK (xA iG c e (pw 13 1527) vS (eY U0 vS n6 (JJ c e)))=aL6 c (Ur c e n6):=by kernel_rfl
def aXi(n6:Nt):Mo (xA iG c e (pw 18 75255) La (Xi c e n6))=aL5 c (lK n6):=by kernel_rfl
def aJW(L:Nat)(n6:Int->List UInt8->Int->Rt):Bool->Int->List UInt8->Int->Rt:=aL5 c n6
def a1X(n6:Nt):Ur c (cu c L) n6=aJW c L (lK n6):=by rw[Ur,bU,aXi];rfl
def L9(c:bT)(L:Nat):Nat->Int->List UInt8->Int->Rt
 |0=>λ_ _ _=>none
 |n+1=>aL6 c (aJW c L (L9 c L n))
def aV7(n:Nat):lK (xL iG c L (pw 13 1527) vS (JJ c (cu c L)) n)=L9 c L n:=by
 induction n with
 |zero=>rfl
 |succ n ih=>rw[dR,aXj];simp only[a1X,ih];rfl
def aVx:aIq c (cu c L)=L9 c L L:=aV7 c L L
def aJX:Bool->List UInt8->Int->Rt:=aL7 c (L9 c L L)
def a1Y:Us c (cu c L)=aJX c L:=by rw[Us,bU,aXk];simp only[aVx];rfl
def U9(n3:Int->List UInt8->Int->Rt):Bool->Int->List UInt8->Int->Rt:=aL8 c n3 (aJX c L)
def a1Z(n3:Nt):Ut c (cu c L) n3=U9 c L (lK n3):=by rw[Ut,bU,aXl];simp only[a1Y];rfl
def BZ(c:bT)(L:Nat):Nat->Int->List UInt8->Int->Rt
 |0=>λ_ _ _=>none
 |n+1=>Vp c (U9 c L (BZ c L n))
def aV8(n:Nat):lK (xL iG c L (pw 8 23) vT (JK c (cu c L)) n)=BZ c L n:=by
 induction n with
 |zero=>rfl
 |succ n ih=>rw[dR,aXm];simp only[a1Z,ih];rfl
def aVy:aIr c (cu c L)=BZ c L L:=aV8 c L L
def Va:Int->List UInt8->Rt:=Vq c (BZ c L L)
def a12:Uu c (cu c L)=Va c L:=by rw[Uu,bU,aXn];simp only[aVy];rfl
def Vb:Bool->Int->List UInt8->Rt:=Vr c (Va c L)
def a13:Uv c (cu c L)=Vb c L:=by rw[Uv,bU,aXo];simp only[a12];rfl
def aQM:List UInt8->Rt:=Vs c (Vb c L)
def bNr:sR (xF iG c (cu c L))=aQM c L:=by rw[aXp];simp only[a13];rfl
def bHc(a:List UInt8)(L n:Nat):bR L (n+1) 177 [yT a]=aQM (bR L n) L a:=by rw[<-bNr];exact cz (x:=iG) (by kernel_rfl) L n _
def aZz(c:bT)(e:Cu):Kt:=xK zY
def aZy:Kt:=xT zY c e [1,1] (aZz c e)
def Rw:Kt:=cK U0 0 (aZy c e)
def aL4(c:bT)(a:List UInt8->List G.A->Int->G.A->Rt)(b:List G.A)(d:List UInt8):Rt:=
 a d b 0 (G.A.mk [] ([]:List G.Y))
def aIX(n:Nt):List G.A->List UInt8->Rt:=λx0 x1=>n [yS 9 x0,yT x1]
def aL3(c:bT)(f:List UInt8->List G.A->Int->G.A->Rt)(d:List UInt8)(a:List G.A)(b:Int)(g:G.A):Rt:=
 bN (decide (b<(List.length a:Int))) (ob (cI a b) λh=>
 bN (decide (h.name=d)) (ob (cI a b) λi=>
 some [yR 9 i,yB true]) (f d a (IntKind.i64.wrap (b+1)) g)) (some [yR 9 (G.A.mk [] ([]:List G.Y)),yB false])
def Mn(n:Nt):List UInt8->List G.A->Int->G.A->Rt:=λx0 x1 x2 x3=>n [yT x0,yS 9 x1,yI x2,yR 9 x3]
def aIp:=Mn (xE zY e (pw 5 5) Aq (Rw c e))
def aXh:aIX (xF zY c e)=aL4 c (aIp c e):=by kernel_rfl
def aXg(n1:Nt):Mn (xA zY c e (pw 5 5) Aq (eY U0 Aq n1 (Rw c e)))=aL3 c (Mn n1):=by kernel_rfl
def L8(c:bT)(L:Nat):Nat->List UInt8->List G.A->Int->G.A->Rt
 |0=>λ_ _ _ _=>none
 |n+1=>aL3 c (L8 c L n)
def aV6(n:Nat):Mn (xL zY c L (pw 5 5) Aq (Rw c (cu c L)) n)=L8 c L n:=by
 induction n with
 |zero=>rfl
 |succ n ih=>rw[dR,aXg];simp only[ih];rfl
def aVw:aIp c (cu c L)=L8 c L L:=aV6 c L L
def a4U:List G.A->List UInt8->Rt:=aL4 c (L8 c L L)
def bNq:aIX (xF zY c (cu c L))=a4U c L:=by rw[aXh];simp only[aVw];rfl
def bOq(a:List G.A)(b:List UInt8)(L n:Nat):bR L (n+1) 180 [yS 9 a,yT b]=a4U (bR L n) L a b:=by rw[<-bNq];exact cz (x:=zY) (by kernel_rfl) L n _
def a5S(a:G.Y):Rt:=
 cO (c 195 [yR 1 a]) λb=>
 some [yB b.1]
def a4T(L:Nat):G.Y->Rt:=a5S c
def bNp:gZ (xF aFS c (cu c L))=a4T c L:=by kernel_rfl
def bOp(a:G.Y)(L n:Nat):bR L (n+1) 181 [yR 1 a]=a4T (bR L n) L a:=by rw[<-bNp];exact cz (x:=aFS) (by kernel_rfl) L n _
def aZx(c:bT)(e:Cu):Kt:=xK sY
def aZw:Kt:=xT sY c e (pw 5 31) (aZx c e)
def JI:Kt:=cK U0 0 (aZw c e)
def aZv(n1:Nt):Kt:=eY U0 vQ n1 (JI c e)
def aEo(n1:Nt):Kt:=xT sY c e (pw 9 303) (aZv c e n1)
def aL2(f:List G.T->Int->Int->Int->Rt)(a:G.T)(b:Int):Rt:=
 bN (decide (a.kind=2)) (qF (c 132 [yR 2 a.value]) λd=>
 some [yI (bif decide (d.1<b)then d.1 else b)]) (tI (c 86 [yR 3 a]) λg=>
 f g.1 b 0 1)
def aL1(c:bT)(g:Bool->Int->List G.T->Int->Int->Rt)(a:List G.T)(b:Int)(d:Int)(f:Int):Rt:=
 bN (decide (d<(List.length a:Int))) (g (decide (f<b)) d a b f) (g false d a b f)
def aIo:=qN (xE sY e (pw 8 47) vQ (JI c e))
def aL0(g:List G.T->Int->Int->Int->Rt)(h:Bool)(b:Int)(d:List G.T)(f:Int)(a:Int):Rt:=
 bN h (ob (cI d b) λi=>
 qF (c 185 [yR 3 i,yI (IntKind.i64.wrap (f-a))]) λj=>
 g d f (IntKind.i64.wrap (b+1)) (IntKind.i64.wrap (a+j.1))) (some [yI a])
def Uq(n1:Nt):=Mk (xD sY e (pw 11 559) K9 (aEo c e n1))
def aXf:Ml (xF sY c e)=aL2 c (aIo c e):=by kernel_rfl
def aXe(n1:Nt):qN (xA sY c e (pw 8 47) vQ (eY U0 vQ n1 (JI c e)))=aL1 c (Uq c e n1):=by kernel_rfl
def aXd(n1:Nt):Mk (xA sY c e (pw 11 559) K9 (aEo c e n1))=aL0 c (qN n1):=by kernel_rfl
def aJV(L:Nat)(n1:List G.T->Int->Int->Int->Rt):Bool->Int->List G.T->Int->Int->Rt:=aL0 c n1
def a1W(n1:Nt):Uq c (cu c L) n1=aJV c L (qN n1):=by rw[Uq,bU,aXd];rfl
def L7(c:bT)(L:Nat):Nat->List G.T->Int->Int->Int->Rt
 |0=>λ_ _ _ _=>none
 |n+1=>aL1 c (aJV c L (L7 c L n))
def aV5(n:Nat):qN (xL sY c L (pw 8 47) vQ (JI c (cu c L)) n)=L7 c L n:=by
 induction n with
 |zero=>rfl
 |succ n ih=>rw[dR,aXe];simp only[a1W,ih];rfl
def aVv:aIo c (cu c L)=L7 c L L:=aV5 c L L
def a4S:G.T->Int->Rt:=aL2 c (L7 c L L)
def bNo:Ml (xF sY c (cu c L))=a4S c L:=by rw[aXf];simp only[aVv];rfl
def bOo(a:G.T)(b:Int)(L n:Nat):bR L (n+1) 185 [yR 3 a,yI b]=a4S (bR L n) L a b:=by rw[<-bNo];exact cz (x:=sY) (by kernel_rfl) L n _
def aZu(c:bT)(e:Cu):Kt:=xK sX
def aZt:Kt:=xT sX c e (pw 4 15) (aZu c e)
def JH:Kt:=cK U0 0 (aZt c e)
def aZs(n1:Nt):Kt:=eY U0 vO n1 (JH c e)
def aEn(n1:Nt):Kt:=xT sX c e (pw 8 151) (aZs c e n1)
def aLZ(a:List G.T->Int->Int->Int->Rt)(b:G.T)(d:Int):Rt:=
 tI (c 86 [yR 3 b]) λf=>
 a f.1 d 0 0
def aLY(c:bT)(f:Bool->Int->List G.T->Int->Int->Rt)(a:List G.T)(b:Int)(d:Int)(g:Int):Rt:=
 bN (decide (d<(List.length a:Int))) (f (decide ((1:Int)<b)) d a b g) (f false d a b g)
def aIn:=qN (xE sX e (pw 7 23) vO (JH c e))
def aLX(h:List G.T->Int->Int->Int->Rt)(i:Bool)(b:Int)(d:List G.T)(f:Int)(a:Int):Rt:=
 bN i (ob (cI d b) λj=>
 qF (c 186 [yR 3 j,yI (IntKind.i64.wrap (f-1))]) λg=>
 h d f (IntKind.i64.wrap (b+1)) (bif decide (a<g.1)then g.1 else a)) (some [yI (IntKind.i64.wrap (a+1))])
def Up(n1:Nt):=Mk (xD sX e (pw 10 279) K8 (aEn c e n1))
def aXc:Ml (xF sX c e)=aLZ c (aIn c e):=by kernel_rfl
def aXb(n1:Nt):qN (xA sX c e (pw 7 23) vO (eY U0 vO n1 (JH c e)))=aLY c (Up c e n1):=by kernel_rfl
def aXa(n1:Nt):Mk (xA sX c e (pw 10 279) K8 (aEn c e n1))=aLX c (qN n1):=by kernel_rfl
def aJU(L:Nat)(n1:List G.T->Int->Int->Int->Rt):Bool->Int->List G.T->Int->Int->Rt:=aLX c n1
def a1V(n1:Nt):Up c (cu c L) n1=aJU c L (qN n1):=by rw[Up,bU,aXa];rfl
def L6(c:bT)(L:Nat):Nat->List G.T->Int->Int->Int->Rt
 |0=>λ_ _ _ _=>none
 |n+1=>aLY c (aJU c L (L6 c L n))
def aV4(n:Nat):qN (xL sX c L (pw 7 23) vO (JH c (cu c L)) n)=L6 c L n:=by
 induction n with
 |zero=>rfl
 |succ n ih=>rw[dR,aXb];simp only[a1V,ih];rfl
def aVu:aIn c (cu c L)=L6 c L L:=aV4 c L L
def a4R:G.T->Int->Rt:=aLZ c (L6 c L L)
def bNn:Ml (xF sX c (cu c L))=a4R c L:=by rw[aXc];simp only[aVu];rfl
def bOn(a:G.T)(b:Int)(L n:Nat):bR L (n+1) 186 [yR 3 a,yI b]=a4R (bR L n) L a b:=by rw[<-bNn];exact cz (x:=sX) (by kernel_rfl) L n _
def aEm(c:bT)(e:Cu):Kt:=xK Ej
def aLW(a:Bool->Rt)(b:G.O):Rt:=
 qF (c 132 [yR 2 b]) λd=>
 bN (decide (d.1<=3000)) (cO (c 200 [yR 2 b]) λf=>
 a f.1) (a false)
def aLV(c:bT)(a:Bool):Rt:=
 some [yB a]
def Uo:=dH (xD Ej e [1,1,0] K7 (aEm c e))
def aW9:qO (xF Ej c e)=aLW c (Uo c e):=by kernel_rfl
def aW8:dH (xA Ej c e [1,1,0] K7 (aEm c e))=aLV c:=by kernel_rfl
def aJT(L:Nat):Bool->Rt:=aLV c
def a1U:Uo c (cu c L)=aJT c L:=by rw[Uo,bU,aW8];rfl
def a4Q:G.O->Rt:=aLW c (aJT c L)
def bNm:qO (xF Ej c (cu c L))=a4Q c L:=by rw[aW9];simp only[a1U];rfl
def bOm(a:G.O)(L n:Nat):bR L (n+1) 187 [yR 2 a]=a4Q (bR L n) L a:=by rw[<-bNm];exact cz (x:=Ej) (by kernel_rfl) L n _
def aLT(a:List G.Y)(b:G.Y):Rt:=
 qF (c 202 [yS 1 a,yR 1 b]) λd=>
 some [yB (decide ((0:Int)<=d.1))]
def a4P(L:Nat):List G.Y->G.Y->Rt:=aLT c
def bNl:sQ (xF aFR c (cu c L))=a4P c L:=by kernel_rfl
def bOl(a:List G.Y)(b:G.Y)(L n:Nat):bR L (n+1) 193 [yS 1 a,yR 1 b]=a4P (bR L n) L a b:=by rw[<-bNl];exact cz (x:=aFR) (by kernel_rfl) L n _
def aEk(c:bT)(e:Cu):Kt:=xK Ei
def aLS(a:Bool->Rt)(b:G.Y):Rt:=
 cO (c 203 [yT b.package]) λd=>
 bN d.1 (bN (decide ((1:Int)<=(List.length b.name:Int))) (a (decide ((List.length b.name:Int)<=40))) (a false)) (a false)
def aLR(c:bT)(a:Bool):Rt:=
 some [yB a]
def Un:=dH (xD Ei e [1,1,0] K6 (aEk c e))
def aW7:gZ (xF Ei c e)=aLS c (Un c e):=by kernel_rfl
def aW6:dH (xA Ei c e [1,1,0] K6 (aEk c e))=aLR c:=by kernel_rfl
def aJS(L:Nat):Bool->Rt:=aLR c
def a1T:Un c (cu c L)=aJS c L:=by rw[Un,bU,aW6];rfl
def a4O:G.Y->Rt:=aLS c (aJS c L)
def bNk:gZ (xF Ei c (cu c L))=a4O c L:=by rw[aW7];simp only[a1T];rfl
def bOk(a:G.Y)(L n:Nat):bR L (n+1) 195 [yR 1 a]=a4O (bR L n) L a:=by rw[<-bNk];exact cz (x:=Ei) (by kernel_rfl) L n _
def aZm(c:bT)(e:Cu):Kt:=xK pT
def aZl:Kt:=xT pT c e [1,1,1] (aZm c e)
def tU:Kt:=cK U0 0 (aZl c e)
def aLM(b:Bool->Rt)(f:Bool->Rt)(g:Bool->Rt)(d:Bool->Rt)(a:G.O):Rt:=
 bN (decide (a.kind=1)) (fU [.str,.str] (c 138 [yT a.num,yT a.den]) λ(h:List UInt8×List UInt8×Unit)=>
 bN (decide (a.sym=iD)) (bN (decide (a.text=[])) (bN (decide ((List.length a.pair:Int)=0)) (bN (decide (h.1=a.num)) (bN (decide (h.2.1=a.den)) (qF (c 179 [yT h.1]) λi=>
 bN (decide (i.1<=100)) (qF (c 179 [yT h.2.1]) λj=>
 b (decide (j.1<=100))) (b false)) (b false)) (b false)) (b false)) (b false)) (b false)) (bN (decide (a.kind=2)) (cO (c 195 [yR 1 a.sym]) λl=>
 bN l.1 (bN (decide (a.num=[])) (bN (decide (a.den=[])) (bN (decide (a.text=[])) (f (decide ((List.length a.pair:Int)=0))) (f false)) (f false)) (f false)) (f false)) (bN (decide (a.kind=3)) (bN (decide (a.sym=iD)) (bN (decide (a.num=[])) (bN (decide (a.den=[])) (bN (decide ((List.length a.text:Int)<=200)) (g (decide ((List.length a.pair:Int)=0))) (g false)) (g false)) (g false)) (g false)) (bN (decide (a.kind=4)) (bN (decide (a.sym=iD)) (bN (decide (a.num=[])) (bN (decide (a.den=[])) (bN (decide (a.text=[])) (bN (decide ((List.length a.pair:Int)=2)) (ob (cI a.pair 0) λm=>
 cO (c 200 [yR 2 m]) λo=>
 bN o.1 (ob (cI a.pair 1) λp=>
 cO (c 200 [yR 2 p]) λq=>
 d q.1) (d false)) (d false)) (d false)) (d false)) (d false)) (d false)) (some [yB false]))))
def aLL(c:bT)(a:Bool):Rt:=
 some [yB a]
def Um:=dH (xD pT e (pw 10 427) K5 (tU c e))
def aLK(c:bT)(a:Bool):Rt:=
 some [yB a]
def Ul:=dH (xD pT e (pw 11 747) K4 (tU c e))
def aLJ(c:bT)(a:Bool):Rt:=
 some [yB a]
def Uk:=dH (xD pT e (pw 13 3051) K3 (tU c e))
def aLI(c:bT)(a:Bool):Rt:=
 some [yB a]
def Uj:=dH (xD pT e (pw 15 12267) K2 (tU c e))
def aW5:qO (xF pT c e)=aLM c (Um c e) (Ul c e) (Uk c e) (Uj c e):=by kernel_rfl
def aW4:dH (xA pT c e (pw 10 427) K5 (tU c e))=aLL c:=by kernel_rfl
def aW3:dH (xA pT c e (pw 11 747) K4 (tU c e))=aLK c:=by kernel_rfl
def aW2:dH (xA pT c e (pw 13 3051) K3 (tU c e))=aLJ c:=by kernel_rfl
def aW1:dH (xA pT c e (pw 15 12267) K2 (tU c e))=aLI c:=by kernel_rfl
def aJQ(L:Nat):Bool->Rt:=aLL c
def a1S:Um c (cu c L)=aJQ c L:=by rw[Um,bU,aW4];rfl
def aJP(L:Nat):Bool->Rt:=aLK c
def a1R:Ul c (cu c L)=aJP c L:=by rw[Ul,bU,aW3];rfl
def aJO(L:Nat):Bool->Rt:=aLJ c
def a1Q:Uk c (cu c L)=aJO c L:=by rw[Uk,bU,aW2];rfl
def aJN(L:Nat):Bool->Rt:=aLI c
def a1P:Uj c (cu c L)=aJN c L:=by rw[Uj,bU,aW1];rfl
def a4N:G.O->Rt:=aLM c (aJQ c L) (aJP c L) (aJO c L) (aJN c L)
def bNj:qO (xF pT c (cu c L))=a4N c L:=by rw[aW5];simp only[a1S,a1R,a1Q,a1P];rfl
def bOj(a:G.O)(L n:Nat):bR L (n+1) 200 [yR 2 a]=a4N (bR L n) L a:=by rw[<-bNj];exact cz (x:=pT) (by kernel_rfl) L n _
def aZk(c:bT)(e:Cu):Kt:=xK zX
def aZj:Kt:=xT zX c e [1,1] (aZk c e)
def Ru:Kt:=cK U0 0 (aZj c e)
def aLH(c:bT)(b:Int->List G.Y->Int->G.Y->Rt)(a:List G.Y)(d:G.Y):Rt:=
 b (List.length a:Int) a 0 d
def MS(c:bT)(g:Int->List G.Y->Int->G.Y->Rt)(b:Int)(d:List G.Y)(a:Int)(f:G.Y):Rt:=
 bN (decide (a<b)) (ob (cI d a) λh=>
 bN (decide (f=h)) (some [yI a]) (g b d (IntKind.i64.wrap (a+1)) f)) (some [yI (-1)])
def aIg:=uZ (xE zX e (pw 5 5) Ap (Ru c e))
def aW0:sQ (xF zX c e)=aLH c (aIg c e):=by kernel_rfl
def aWZ(n1:Nt):uZ (xA zX c e (pw 5 5) Ap (eY U0 Ap n1 (Ru c e)))=MS c (uZ n1):=by kernel_rfl
def yK(c:bT)(L:Nat):Nat->Int->List G.Y->Int->G.Y->Rt
 |0=>λ_ _ _ _=>none
 |n+1=>MS c (yK c L n)
def aV3(n:Nat):uZ (xL zX c L (pw 5 5) Ap (Ru c (cu c L)) n)=yK c L n:=by
 induction n with
 |zero=>rfl
 |succ n ih=>rw[dR,aWZ];simp only[ih];rfl
def aVs:aIg c (cu c L)=yK c L L:=aV3 c L L
def bIg:List G.Y->G.Y->Rt:=aLH c (yK c L L)
def bNi:sQ (xF zX c (cu c L))=bIg c L:=by rw[aW0];simp only[aVs];rfl
def bOi(a:List G.Y)(b:G.Y)(L n:Nat):bR L (n+1) 202 [yS 1 a,yR 1 b]=bIg (bR L n) L a b:=by rw[<-bNi];exact cz (x:=zX) (by kernel_rfl) L n _
def aEi(c:bT)(e:Cu):Kt:=xK oR
def aEh:Kt:=xT oR c e [1,1] (aEi c e)
def aZi:Kt:=xT oR c e [1,1,1] (aEi c e)
def JE:Kt:=cK U0 0 (aZi c e)
def aZh(n2:Nt):Kt:=eY U0 vN n2 (JE c e)
def aZg(n2:Nt):Kt:=xT oR c e (pw 8 203) (aZh c e n2)
def aEg(n2:Nt):Kt:=cK U0 1 (aZg c e n2)
def aLG(c:bT)(b:Bool->List UInt8->Rt)(a:List UInt8):Rt:=
 bN (decide ((List.length a:Int)<1)) (b true a) (bN (decide ((40:Int)<(List.length a:Int))) (b true a) (ob (cI a 0) λd=>
 bN (decide ((d.toNat:Int)<97)) (b true a) (ob (cI a 0) λf=>
 b (decide ((122:Int)<(f.toNat:Int))) a)))
def aLF(c:bT)(a:List UInt8->Int->Rt)(b:Bool)(d:List UInt8):Rt:=
 bN b (some [yB false]) (a d 0)
def Ui:=Mj (xD oR e (pw 4 5) K1 (aEh c e))
def aLE(c:bT)(f:Bool->Int->List UInt8->Rt)(b:List UInt8)(d:Int):Rt:=
 bN (decide (d<(List.length b:Int))) (ob (cI b d) λa=>
 bN (decide ((a.toNat:Int)<97)) (bN (decide ((a.toNat:Int)<48)) (f (!decide ((a.toNat:Int)=45)) d b) (bN (decide ((57:Int)<(a.toNat:Int))) (f (!decide ((a.toNat:Int)=45)) d b) (f false d b))) (bN (decide ((122:Int)<(a.toNat:Int))) (bN (decide ((a.toNat:Int)<48)) (f (!decide ((a.toNat:Int)=45)) d b) (bN (decide ((57:Int)<(a.toNat:Int))) (f (!decide ((a.toNat:Int)=45)) d b) (f false d b))) (f false d b))) (some [yB true])
def aIf:=eT (xE oR e (pw 6 11) vN (JE c e))
def aLD(c:bT)(a:List UInt8->Int->Rt)(b:Bool)(d:Int)(f:List UInt8):Rt:=
 bN b (some [yB false]) (a f (IntKind.i64.wrap (d+1)))
def Uh(n2:Nt):=Mq (xD oR e (pw 12 1611) K0 (aEg c e n2))
def aWY:sR (xF oR c e)=aLG c (Ui c e):=by kernel_rfl
def aWX:Mj (xA oR c e (pw 4 5) K1 (aEh c e))=aLF c (aIf c e):=by kernel_rfl
def aWW(n2:Nt):eT (xA oR c e (pw 6 11) vN (eY U0 vN n2 (JE c e)))=aLE c (Uh c e n2):=by kernel_rfl
def aWV(n2:Nt):Mq (xA oR c e (pw 12 1611) K0 (aEg c e n2))=aLD c (eT n2):=by kernel_rfl
def aJL(L:Nat)(n2:List UInt8->Int->Rt):Bool->Int->List UInt8->Rt:=aLD c n2
def a1N(n2:Nt):Uh c (cu c L) n2=aJL c L (eT n2):=by rw[Uh,bU,aWV];rfl
def L5(c:bT)(L:Nat):Nat->List UInt8->Int->Rt
 |0=>λ_ _=>none
 |n+1=>aLE c (aJL c L (L5 c L n))
def aV2(n:Nat):eT (xL oR c L (pw 6 11) vN (JE c (cu c L)) n)=L5 c L n:=by
 induction n with
 |zero=>rfl
 |succ n ih=>rw[dR,aWW];simp only[a1N,ih];rfl
def aVr:aIf c (cu c L)=L5 c L L:=aV2 c L L
def aJM:Bool->List UInt8->Rt:=aLF c (L5 c L L)
def a1O:Ui c (cu c L)=aJM c L:=by rw[Ui,bU,aWX];simp only[aVr];rfl
def a4M:List UInt8->Rt:=aLG c (aJM c L)
def bNh:sR (xF oR c (cu c L))=a4M c L:=by rw[aWY];simp only[a1O];rfl
def bOh(a:List UInt8)(L n:Nat):bR L (n+1) 203 [yT a]=a4M (bR L n) L a:=by rw[<-bNh];exact cz (x:=oR) (by kernel_rfl) L n _
end
end Go.TV
namespace Go.TV
open Go.AI Go.PI Go.Proofs
def T6(x:Int):Bool:=decide (x=32)||decide (x=9)||decide (x=10)||decide (x=13)
def HK(x:Int):Bool:=decide (33<=x)&&decide (x<=126)&& !decide (x=40)&& !decide (x=41)&& !decide (x=39)&& !decide (x=34)&& !decide (x=59)&& !decide (x=124)&& !decide (x=58)
def u8(x:UInt8):Int:=(x.toNat:Int)
def bIl(x:Int)(L n:Nat):bR L (n+1) 170 [⟨.int .u8,x⟩]=some [yB (T6 x)]:=by
 rw[bOu];simp only[a4Y,VA,Ve,Vz,T6];generalize decide (x=32)=a,decide (x=9)=b,decide (x=10)=d,decide (x=13)=e;cases a<;>cases b<;>cases d<;>cases e<;>rfl
def aUg(x:Int)(L n:Nat):bR L (n+1) 174 [⟨.int .u8,x⟩]=some [yB (HK x)]:=by
 rw[bOs];simp only[a4W,Vv,Vc,Vu,HK];generalize decide (33<=x)=a,decide (x<=126)=b,decide (x=40)=d,decide (x=41)=e,decide (x=39)=f,decide (x=34)=g,decide (x=59)=h,decide (x=124)=i,decide (x=58)=j;cases a
 .rfl
 cases b
 .rfl
 cases d
 case true=>rfl
 cases e
 case true=>rfl
 cases f
 case true=>rfl
 cases g
 case true=>rfl
 cases h
 case true=>rfl
 cases i
 case true=>rfl
 cases j<;>rfl
def aF5{s:List UInt8}{k:Nat}{a b:Int}(hb:s.length<1000000000)(hk:k<=s.length)(h: ∀x,s[k]?=some x->u8 x≠a)(L n:Nat):bR L (n+1) 171 [yT s,yI (k:Int),⟨.int .u8,a⟩,⟨.int .u8,b⟩]=some [yB false]:=by
 rw[bOt];have e0:decide ((0:Int)<=(k:Int))=true:=by simp
 simp only[a4X,Vy,Vd,Vx,e0,bO];cases h1:decide (IntKind.i64.wrap ((k:Int)+1)<(s.length:Int))with
 |false=>rfl
 |true=>
  rw[bO,bP];cases h2:s[k]? with
  |none=>
   exfalso;have:=List.getElem?_eq_none_iff.1 h2;simp only[aD]at h1;rw[cS (by omega)]at h1
   omega
  |some x=>
   have:=h x h2;have e1:decide ((x.toNat:Int)=a)=false:=by simpa [u8]using this
   rw[bZ,e1];rfl
def aQu{c:bT}{L:Nat}{s r:List UInt8}(hc: ∀x,c 174 [⟨.int .u8,x⟩]=some [yB (HK x)])(hb:s.length<1000000000)(hr: ∀y,r.head?=some y->HK (u8 y)=false):
    ∀(w:List UInt8) (k m:Nat),s.drop k=w++r->w.length<m->(∀x∈w,HK (u8 x)=true)->yL c L m s (k:Int)=some [yI ((k+w.length:Nat):Int)]:=by
 intro w;induction w with
 |nil=>
  intro k m h1 h2 _;obtain⟨m,rfl⟩:=sK m 1 (by simp at h2;omega)
  rw[yL,MT];rw[aW]at h1;cases r with
  |nil=>
   have e1:=bW h1;have e3:decide ((k:Int)<(s.length:Int))=false:=by simp;omega
   rw[e3,bL,Gb,Gd,bL];rfl
  |cons y r=>
   obtain⟨a1,a2,a3⟩:=bX h1;have e3:decide ((k:Int)<(s.length:Int))=true:=by simp;omega
   have e4:HK (y.toNat:Int)=false:=hr y rfl;rw[e3,bO,bP,a1,bZ,hc,cH,Gb,Gd,e4,bL];rfl
 |cons x w ih=>
  intro k m h1 h2 h3;obtain⟨m,rfl⟩:=sK m 1 (by simp at h2;omega)
  rw[yL,MT];obtain⟨a1,a2,a3⟩:=bX h1;have e3:decide ((k:Int)<(s.length:Int))=true:=by simp;omega
  have e4:HK (x.toNat:Int)=true:=h3 x (aH ..);rw[e3,bO,bP,a1,bZ,hc,cH,Gb,Gd,e4,bO,cS (by omega)]
  rw[ih (k+1) m a3 (by simp at h2;omega) λz hz=>h3 z (aG _ hz)]
  simp only[aM];congr 4;omega
def bHA{s w r:List UInt8}{k L n:Nat}(hb:s.length<1000000000)(hL:s.length<L)(h:s.drop k=w++r)(hw: ∀x∈w,HK (u8 x)=true)(hr: ∀y,r.head?=some y->HK (u8 y)=false):
    bR L (n+2) 175 [yT s,yI (k:Int)]=some [yI ((k+w.length:Nat):Int)]:=by
 have:=congrArg List.length h;simp at this;show bR L (n+1+1) 175 _=_;rw[bOr,a4V,Vt];exact aQu (λx=>aUg x L n) hb hr w k L h (by omega) hw
def aQC{c:bT}{L:Nat}{s r:List UInt8}(hc: ∀x,c 170 [⟨.int .u8,x⟩]=some [yB (T6 x)])
    (hh: ∀k:Nat,k<=s.length->(∀x,s[k]?=some x->u8 x≠35)->c 171 [yT s,yI (k:Int),⟨.int .u8,(35:Int)⟩,⟨.int .u8,(124:Int)⟩]=some [yB false])
    (hb:s.length<1000000000) (hr: ∀y,r.head?=some y->T6 (u8 y)=false/\u8 y≠59/\u8 y≠35):
    ∀(w:List UInt8) (k m:Nat),s.drop k=w++r->w.length<m->(∀x∈w,T6 (u8 x)=true)->sP c L m s (k:Int)=some [yI ((k+w.length:Nat):Int),yB true]:=by
 intro w;induction w with
 |nil=>
  intro k m h1 h2 _;obtain⟨m,rfl⟩:=sK m 1 (by simp at h2;omega)
  rw[sP,MV];rw[aW]at h1;cases r with
  |nil=>
   have e1:=bW h1;have e3:decide ((k:Int)<(s.length:Int))=false:=by simp;omega
   rw[e3,bL];rfl
  |cons y r=>
   obtain⟨a1,a2,a3⟩:=bX h1;have e3:decide ((k:Int)<(s.length:Int))=true:=by simp;omega
   obtain⟨e4,e5,e6⟩:=hr y rfl;have e4:T6 (y.toNat:Int)=false:=e4;have e7:decide ((y.toNat:Int)=59)=false:=by simpa [u8]using e5
   have h8:=hh k (by omega) λx hx=>by rw[a1]at hx;cases hx;exact e6
   rw[e3,bO,bP,a1,bZ,hc,cH,e4,bL,bZ,e7,bL,h8,cH,bL];rfl
 |cons x w ih=>
  intro k m h1 h2 h3;obtain⟨m,rfl⟩:=sK m 1 (by simp at h2;omega)
  rw[sP,MV];obtain⟨a1,a2,a3⟩:=bX h1;have e3:decide ((k:Int)<(s.length:Int))=true:=by simp;omega
  have e4:T6 (x.toNat:Int)=true:=h3 x (aH ..);rw[e3,bO,bP,a1,bZ,hc,cH,e4,bO,cS (by omega)]
  rw[ih (k+1) m a3 (by simp at h2;omega) λz hz=>h3 z (aG _ hz)]
  simp only[aM];congr 4;omega
def aT5{s w r:List UInt8}{k L n:Nat}(hb:s.length<1000000000)(hL:s.length<L)(h:s.drop k=w++r)(hw: ∀x∈w,T6 (u8 x)=true)(hr: ∀y,r.head?=some y->T6 (u8 y)=false/\u8 y≠59/\u8 y≠35):
    bR L (n+2) 146 [yT s,yI (k:Int)]=some [yI ((k+w.length:Nat):Int),yB true]:=by
 have:=congrArg List.length h;simp at this;show bR L (n+1+1) 146 _=_;rw[bOH,a5a,VE];exact aQC (λx=>bIl x L n) (λk h6 hk=>aF5 hb h6 hk L n) hb hr w k L h (by omega) hw
end Go.TV
namespace Go.TV
open Go.AI Go.PI Go.Proofs
set_option maxRecDepth 20000
noncomputable section
variable(c:bT)(e:Cu)(L:Nat)
def JP(c:bT)(e:Cu):Kt:=xK lV
def aZZ:Kt:=xT lV c e (pw 4 15) (JP c e)
def DN:Kt:=cK U0 0 (aZZ c e)
def aEH:Kt:=xT lV c e (pw 17 122839) (DN c e)
def aZY:Kt:=xT lV c e (pw 9 511) (JP c e)
def aEG:Kt:=cK U0 1 (aZY c e)
def Ge(o:Bool->Int->G.K->G.X->G.K->G.X->Rt)(p:Int->G.K->G.X->G.K->G.X->Rt)(q:Int->G.K->G.X->G.K->G.X->Rt)(s:Bool->Int->Int->G.K->G.X->G.K->G.X->Rt)(f:List UInt8)(a:Int):Rt:=
 ob (cI f a) λh=>
 bN (decide ((h.toNat:Int)=40)) (some [yR 19 (G.K.mk 1 a [] [] []),yI (IntKind.i64.wrap (a+1)),yR 17 (G.X.mk 0 0)]) (bN (decide ((h.toNat:Int)=41)) (some [yR 19 (G.K.mk 2 a [] [] []),yI (IntKind.i64.wrap (a+1)),yR 17 (G.X.mk 0 0)]) (bN (decide ((h.toNat:Int)=39)) (some [yR 19 (G.K.mk 4 a [] [] []),yI (IntKind.i64.wrap (a+1)),yR 17 (G.X.mk 0 0)]) (bN (decide ((h.toNat:Int)=34)) (fU [.str,i6,.rc 17] (c 172 [yT f,yI (IntKind.i64.wrap (a+1)),⟨(.int .u8),34⟩]) λ(b:List UInt8×Int×G.X×Unit)=>
 bN (decide (b.2.2.1.err=0)) (o (decide ((200:Int)<(List.length b.1:Int))) b.2.1 (G.K.mk 7 a [] b.1 []) b.2.2.1 (G.K.mk 0 0 [] [] []) (G.X.mk 0 0)) (o false b.2.1 (G.K.mk 7 a [] b.1 []) b.2.2.1 (G.K.mk 0 0 [] [] []) (G.X.mk 0 0))) (bN (decide ((h.toNat:Int)=124)) (fU [.str,i6,.rc 17] (c 172 [yT f,yI (IntKind.i64.wrap (a+1)),⟨(.int .u8),124⟩]) λ(g:List UInt8×Int×G.X×Unit)=>
 bN (decide (g.2.2.1.err=0)) (rZ (c 173 [yR 19 (G.K.mk 6 a [] g.1 []),yB true]) λt=>
 p g.2.1 (G.K.mk 6 a [] g.1 []) t.1 (G.K.mk 0 0 [] [] []) (G.X.mk 0 0)) (p g.2.1 (G.K.mk 6 a [] g.1 []) g.2.2.1 (G.K.mk 0 0 [] [] []) (G.X.mk 0 0))) (cO (c 174 [⟨(.int .u8),(h.toNat:Int)⟩]) λu=>
 bN (!u.1) (rZ (c 130 [yI 12,yI a]) λv=>
 some [yR 19 (G.K.mk 0 a [] [] []),yI a,yR 17 v.1]) (qF (c 175 [yT f,yI a]) λd=>
 ob (slc f a d.1) λj=>
 cO (c 171 [yT f,yI d.1,⟨(.int .u8),58⟩,⟨(.int .u8),58⟩]) λw=>
 bN w.1 (fU [.rc 19,i6,.rc 17] (c 176 [yT f,yR 19 (G.K.mk 0 a [] [] []),yT j,yI d.1]) λ(m:G.K×Int×G.X×Unit)=>
 some [yR 19 m.1,yI m.2.1,yR 17 m.2.2.1]) (fU [.str,.str,.bool] (c 177 [yT j]) λ(l:List UInt8×List UInt8×Bool×Unit)=>
 bN (decide (j=[46])) (q d.1 (G.K.mk 3 a [] [] []) (G.X.mk 0 0) (G.K.mk 0 0 [] [] []) (G.X.mk 0 0)) (bN l.2.2.1 (fU [.str] (c 178 [yT l.2.1]) λ(x:List UInt8×Unit)=>
 bN (decide (x.1=[48])) (rZ (c 130 [yI 12,yI a]) λy=>
 some [yR 19 (G.K.mk 0 a [] [] []),yI d.1,yR 17 y.1]) (fU [.str] (c 178 [yT l.1]) λ(z:List UInt8×Unit)=>
 fU [.str] (c 178 [yT l.2.1]) λ(A:List UInt8×Unit)=>
 fU [.str,.str] (c 138 [yT z.1,yT A.1]) λ(i:List UInt8×List UInt8×Unit)=>
 qF (c 179 [yT i.1]) λB=>
 bN (decide ((100:Int)<B.1)) (s true a d.1 (G.K.mk 5 a [] i.1 i.2.1) (G.X.mk 0 0) (G.K.mk 0 0 [] [] []) (G.X.mk 0 0)) (qF (c 179 [yT i.2.1]) λC=>
 s (decide ((100:Int)<C.1)) a d.1 (G.K.mk 5 a [] i.1 i.2.1) (G.X.mk 0 0) (G.K.mk 0 0 [] [] []) (G.X.mk 0 0)))) (rZ (c 173 [yR 19 (G.K.mk 6 a [] j []),yB false]) λD=>
 q d.1 (G.K.mk 6 a [] j []) D.1 (G.K.mk 0 0 [] [] []) (G.X.mk 0 0))))))))))
def aMC(b:Int->G.K->G.X->G.K->G.X->Rt)(h:Bool)(d:Int)(a:G.K)(i:G.X)(f:G.K)(g:G.X):Rt:=
 bN h (rZ (c 130 [yI 2,yI a.pos]) λj=>
 b d a j.1 f g) (b d a i f g)
def aJa(n:Nt):Bool->Int->G.K->G.X->G.K->G.X->Rt:=λx0 x1 x2 x3 x4 x5=>n [yB x0,yI x1,yR 19 x2,yR 17 x3,yR 19 x4,yR 17 x5]
def UO:=aJa (xD lV e (pw 19 188375) Lz (aEH c e))
def aMB(c:bT)(a:Int)(b:G.K)(d:G.X)(f:G.K)(g:G.X):Rt:=
 some [yR 19 b,yI a,yR 17 d]
def UN:=B1 (xD lV e (pw 20 491479) Ly (DN c e))
def aMA(c:bT)(a:Int)(b:G.K)(d:G.X)(f:G.K)(g:G.X):Rt:=
 some [yR 19 b,yI a,yR 17 d]
def L2:=B1 (xD lV e (pw 10 511) Lx (JP c e))
def aMz(d:Int->G.K->G.X->G.K->G.X->Rt)(f:Bool)(g:Int)(a:Int)(b:G.K)(h:G.X)(i:G.K)(j:G.X):Rt:=
 bN f (rZ (c 130 [yI 2,yI g]) λl=>
 some [yR 19 b,yI a,yR 17 l.1]) (d a b h i j)
def aI9(n:Nt):Bool->Int->Int->G.K->G.X->G.K->G.X->Rt:=λx0 x1 x2 x3 x4 x5 x6=>n [yB x0,yI x1,yI x2,yR 19 x3,yR 17 x4,yR 19 x5,yR 17 x6]
def UM:=aI9 (xD lV e (pw 19 253183) Lw (aEG c e))
def aMy(c:bT)(a:Int)(b:G.K)(d:G.X)(f:G.K)(g:G.X):Rt:=
 some [yR 19 b,yI a,yR 17 d]
def UL:=B1 (xD lV e (pw 18 122839) Lv (DN c e))
def aX5:eT (xF lV c e)=Ge c (UO c e) (UN c e) (L2 c e) (UM c e):=by kernel_rfl
def aX4:aJa (xA lV c e (pw 19 188375) Lz (aEH c e))=aMC c (UL c e):=by kernel_rfl
def aX3:B1 (xA lV c e (pw 20 491479) Ly (DN c e))=aMB c:=by kernel_rfl
def aX2:B1 (xA lV c e (pw 10 511) Lx (JP c e))=aMA c:=by kernel_rfl
def aX1:aI9 (xA lV c e (pw 19 253183) Lw (aEG c e))=aMz c (L2 c e):=by kernel_rfl
def aX0:B1 (xA lV c e (pw 18 122839) Lv (DN c e))=aMy c:=by kernel_rfl
def aJ9(L:Nat):Int->G.K->G.X->G.K->G.X->Rt:=aMB c
def a2l:UN c (cu c L)=aJ9 c L:=by rw[UN,bU,aX3];rfl
def Vi(L:Nat):Int->G.K->G.X->G.K->G.X->Rt:=aMA c
def aFL:L2 c (cu c L)=Vi c L:=by rw[L2,bU,aX2];rfl
def aJ8:Bool->Int->Int->G.K->G.X->G.K->G.X->Rt:=aMz c (Vi c L)
def a2k:UM c (cu c L)=aJ8 c L:=by rw[UM,bU,aX1];simp only[aFL];rfl
def aJ7(L:Nat):Int->G.K->G.X->G.K->G.X->Rt:=aMy c
def a2j:UL c (cu c L)=aJ7 c L:=by rw[UL,bU,aX0];rfl
def aKa:Bool->Int->G.K->G.X->G.K->G.X->Rt:=aMC c (aJ7 c L)
def a2m:UO c (cu c L)=aKa c L:=by rw[UO,bU,aX4];simp only[a2j];rfl
def aKj:List UInt8->Int->Rt:=Ge c (aKa c L) (aJ9 c L) (Vi c L) (aJ8 c L)
def bNI:eT (xF lV c (cu c L))=aKj c L:=by rw[aX5];simp only[a2m,a2l,aFL,a2k];rfl
def a3U(a:List UInt8)(b:Int)(L n:Nat):bR L (n+1) 147 [yT a,yI b]=aKj (bR L n) L a b:=by rw[<-bNI];exact cz (x:=lV) (by kernel_rfl) L n _
def JO(c:bT)(e:Cu):Kt:=xK lU
def aZX:Kt:=xT lU c e (pw 4 15) (JO c e)
def JN:Kt:=cK U0 0 (aZX c e)
def aZW(n1:Nt):Kt:=eY U0 vW n1 (JN c e)
def aZV(n1:Nt):Kt:=cK U0 1 (aZW c e n1)
def aEF(n1:Nt):Kt:=xT lU c e (pw 9 327) (aZV c e n1)
def aZU:Kt:=xT lU c e (pw 7 111) (JO c e)
def RC:Kt:=cK U0 3 (aZU c e)
def aMx(a:Int->List G.O->G.P->G.O->G.O->G.X->Rt)(b:Int)(d:G.P):Rt:=
 kH (c 64 []) λf=>
 a b ([]:List G.O) d f.1 Q4 (G.X.mk 0 0)
def aMw(c:bT)(h:Bool->List G.O->Int->G.P->G.O->G.O->G.X->Rt)(j:List G.O->G.P->G.O->G.O->G.X->Rt)(i:Int)(b:List G.O)(a:G.P)(d:G.O)(f:G.O)(g:G.X):Rt:=
 ob (cI a.t a.pos) λl=>
 bN (!decide (l.kind=2)) (ob (cI a.t a.pos) λm=>
 bN (decide (m.kind=3)) (h (decide ((0:Int)<(List.length b:Int))) b i a d f g) (h false b i a d f g)) (j b a d f g)
def FX(n:Nt):Int->List G.O->G.P->G.O->G.O->G.X->Rt:=λx0 x1 x2 x3 x4 x5=>n [yI x0,yS 2 x1,yR 20 x2,yR 2 x3,yR 2 x4,yR 17 x5]
def aIC:=FX (xE lU e (pw 6 7) vW (JN c e))
def aMv(l:List G.O->G.P->G.O->G.O->G.X->Rt)(m:Int->List G.O->G.P->G.O->G.O->G.X->Rt)(o:Bool)(g:List G.O)(h:Int)(d:G.P)(p:G.O)(i:G.O)(j:G.X):Rt:=
 bN o (Ps (c 131 [yI h,yR 20 (G.P.mk d.l d.current d.t (IntKind.i64.wrap (d.pos+1)))]) λa=>
 bN (!decide (a.2.1.err=0)) (some [yR 2 Q4,yR 17 a.2.1,yR 20 a.2.2.1]) (ob (cI a.2.2.1.t a.2.2.1.pos) λf=>
 bN (decide (f.kind=2)) (l g a.2.2.1 a.1 i j) (bN (decide (f.kind=0)) (rZ (c 130 [yI 11,yI f.pos]) λq=>
 some [yR 2 Q4,yR 17 q.1,yR 20 a.2.2.1]) (rZ (c 130 [yI 12,yI f.pos]) λs=>
 some [yR 2 Q4,yR 17 s.1,yR 20 a.2.2.1])))) (Ps (c 131 [yI h,yR 20 d]) λb=>
 bN (!decide (b.2.1.err=0)) (some [yR 2 Q4,yR 17 b.2.1,yR 20 b.2.2.1]) (iQ (Nat.ble ((List.length g+List.length ([b.1]:List G.O))*112) 1073741824)<|
 m h (g++([b.1]:List G.O)) b.2.2.1 p i j))
def aI8(n:Nt):Bool->List G.O->Int->G.P->G.O->G.O->G.X->Rt:=λx0 x1 x2 x3 x4 x5 x6=>n [yB x0,yS 2 x1,yI x2,yR 20 x3,yR 2 x4,yR 2 x5,yR 17 x6]
def UK(n1:Nt):=aI8 (xD lU e (pw 11 583) Lu (aEF c e n1))
def aMu(c:bT)(d:List G.O->Int->G.P->G.O->G.O->G.X->Rt)(b:List G.O)(a:G.P)(f:G.O)(g:G.O)(h:G.X):Rt:=
 d b (IntKind.i64.wrap ((List.length b:Int)-1)) (G.P.mk a.l a.current a.t (IntKind.i64.wrap (a.pos+1))) f g h
def aI7(n:Nt):List G.O->G.P->G.O->G.O->G.X->Rt:=λx0 x1 x2 x3 x4=>n [yS 2 x0,yR 20 x1,yR 2 x2,yR 2 x3,yR 17 x4]
def L1:=aI7 (xD lU e (pw 5 15) Lt (JO c e))
def aMt(g:List G.O->Int->G.P->G.O->G.O->G.X->Rt)(b:List G.O)(a:Int)(d:G.P)(f:G.O)(h:G.O)(i:G.X):Rt:=
 bN (decide ((0:Int)<=a)) (ob (cI b a) λj=>
 kH (c 109 [yR 2 j,yR 2 f]) λl=>
 g b (IntKind.i64.wrap (a-1)) d l.1 h i) (some [yR 2 f,yR 17 (G.X.mk 0 0),yR 20 d])
def Mw(n:Nt):List G.O->Int->G.P->G.O->G.O->G.X->Rt:=λx0 x1 x2 x3 x4 x5=>n [yS 2 x0,yI x1,yR 20 x2,yR 2 x3,yR 2 x4,yR 17 x5]
def aIB:=Mw (xE lU e (pw 10 175) Au (RC c e))
def aXZ:MB (xF lU c e)=aMx c (aIC c e):=by kernel_rfl
def aXY(n1:Nt):FX (xA lU c e (pw 6 7) vW (eY U0 vW n1 (JN c e)))=aMw c (UK c e n1) (L1 c e):=by kernel_rfl
def aXX(n1:Nt):aI8 (xA lU c e (pw 11 583) Lu (aEF c e n1))=aMv c (L1 c e) (FX n1):=by kernel_rfl
def aXW:aI7 (xA lU c e (pw 5 15) Lt (JO c e))=aMu c (aIB c e):=by kernel_rfl
def aXV(n4:Nt):Mw (xA lU c e (pw 10 175) Au (eY U0 Au n4 (RC c e)))=aMt c (Mw n4):=by kernel_rfl
def Mf(c:bT)(L:Nat):Nat->List G.O->Int->G.P->G.O->G.O->G.X->Rt
 |0=>λ_ _ _ _ _ _=>none
 |n+1=>aMt c (Mf c L n)
def aWe(n:Nat):Mw (xL lU c L (pw 10 175) Au (RC c (cu c L)) n)=Mf c L n:=by
 induction n with
 |zero=>rfl
 |succ n ih=>rw[dR,aXV];simp only[ih];rfl
def aVF:aIB c (cu c L)=Mf c L L:=aWe c L L
def Vh:List G.O->G.P->G.O->G.O->G.X->Rt:=aMu c (Mf c L L)
def aFK:L1 c (cu c L)=Vh c L:=by rw[L1,bU,aXW];simp only[aVF];rfl
def aJ6(n1:Int->List G.O->G.P->G.O->G.O->G.X->Rt):Bool->List G.O->Int->G.P->G.O->G.O->G.X->Rt:=aMv c (Vh c L) n1
def a2i(n1:Nt):UK c (cu c L) n1=aJ6 c L (FX n1):=by rw[UK,bU,aXX];simp only[aFK];rfl
def Mg(c:bT)(L:Nat):Nat->Int->List G.O->G.P->G.O->G.O->G.X->Rt
 |0=>λ_ _ _ _ _ _=>none
 |n+1=>aMw c (aJ6 c L (Mg c L n)) (Vh c L)
def aWf(n:Nat):FX (xL lU c L (pw 6 7) vW (JN c (cu c L)) n)=Mg c L n:=by
 induction n with
 |zero=>rfl
 |succ n ih=>rw[dR,aXY];simp only[a2i,aFK,ih];rfl
def aVG:aIC c (cu c L)=Mg c L L:=aWf c L L
def a49:Int->G.P->Rt:=aMx c (Mg c L L)
def bNH:MB (xF lU c (cu c L))=a49 c L:=by rw[aXZ];simp only[aVG];rfl
def bOG(a:Int)(b:G.P)(L n:Nat):bR L (n+1) 148 [yI a,yR 20 b]=a49 (bR L n) L a b:=by rw[<-bNH];exact cz (x:=lU) (by kernel_rfl) L n _
def aEE(c:bT)(e:Cu):Kt:=xK tD
def aED:Kt:=xT tD c e (pw 4 15) (aEE c e)
def aZT:Kt:=xT tD c e (pw 5 31) (aEE c e)
def RB:Kt:=cK U0 0 (aZT c e)
def aMs(f:Bool->List UInt8->List UInt8->G.A->G.Y->Rt)(g:List G.A)(b:List UInt8)(a:List UInt8):Rt:=
 fU [.rc 9,.bool] (c 180 [yS 9 g,yT b]) λ(d:G.A×Bool×Unit)=>
 bN (!d.2.1) (some [yR 1 iD,yI 13]) (bN (decide ((List.length a:Int)<1)) (f true b a d.1 iD) (f (decide ((40:Int)<(List.length a:Int))) b a d.1 iD))
def aMr(c:bT)(a:Int->List UInt8->List UInt8->G.A->G.Y->Rt)(b:Bool)(d:List UInt8)(f:List UInt8)(g:G.A)(h:G.Y):Rt:=
 bN b (some [yR 1 iD,yI 3]) (a 0 d f g h)
def aI6(n:Nt):Bool->List UInt8->List UInt8->G.A->G.Y->Rt:=λx0 x1 x2 x3 x4=>n [yB x0,yT x1,yT x2,yR 9 x3,yR 1 x4]
def UJ:=aI6 (xD tD e (pw 6 23) Ls (aED c e))
def aMq(c:bT)(g:Int->List UInt8->List UInt8->G.A->G.Y->Rt)(a:Int)(f:List UInt8)(d:List UInt8)(b:G.A)(h:G.Y):Rt:=
 bN (decide (a<(List.length b.imports:Int))) (ob (cI b.imports a) λi=>
 bN (decide (i.name=d)) (ob (cI b.imports a) λj=>
 some [yR 1 j,yI 0]) (g (IntKind.i64.wrap (a+1)) f d b h)) (some [yR 1 (G.Y.mk f d),yI 0])
def Mu(n:Nt):Int->List UInt8->List UInt8->G.A->G.Y->Rt:=λx0 x1 x2 x3 x4=>n [yI x0,yT x1,yT x2,yR 9 x3,yR 1 x4]
def aIA:=Mu (xE tD e (pw 8 47) At (RB c e))
def aXU:Mv (xF tD c e)=aMs c (UJ c e):=by kernel_rfl
def aXT:aI6 (xA tD c e (pw 6 23) Ls (aED c e))=aMr c (aIA c e):=by kernel_rfl
def aXS(n2:Nt):Mu (xA tD c e (pw 8 47) At (eY U0 At n2 (RB c e)))=aMq c (Mu n2):=by kernel_rfl
def Me(c:bT)(L:Nat):Nat->Int->List UInt8->List UInt8->G.A->G.Y->Rt
 |0=>λ_ _ _ _ _=>none
 |n+1=>aMq c (Me c L n)
def aWd(n:Nat):Mu (xL tD c L (pw 8 47) At (RB c (cu c L)) n)=Me c L n:=by
 induction n with
 |zero=>rfl
 |succ n ih=>rw[dR,aXS];simp only[ih];rfl
def aVE:aIA c (cu c L)=Me c L L:=aWd c L L
def aJ5:Bool->List UInt8->List UInt8->G.A->G.Y->Rt:=aMr c (Me c L L)
def a2h:UJ c (cu c L)=aJ5 c L:=by rw[UJ,bU,aXT];simp only[aVE];rfl
def a48:List G.A->List UInt8->List UInt8->Rt:=aMs c (aJ5 c L)
def bNG:Mv (xF tD c (cu c L))=a48 c L:=by rw[aXU];simp only[a2h];rfl
def bOF(a:List G.A)(b:List UInt8)(d:List UInt8)(L n:Nat):bR L (n+1) 149 [yS 9 a,yT b,yT d]=a48 (bR L n) L a b d:=by rw[<-bNG];exact cz (x:=tD) (by kernel_rfl) L n _
def aZS(c:bT)(e:Cu):Kt:=xK Cd
def aEC:Kt:=xT Cd c e [1,1] (aZS c e)
def aMp(c:bT)(d:Bool->Int->G.O->Rt)(a:G.O)(b:Int):Rt:=
 bN (!decide ((List.length a.pair:Int)=2)) (d true b a) (d (decide (b<=1)) b a)
def aI5(n:Nt):G.O->Int->Rt:=λx0 x1=>n [yR 2 x0,yI x1]
def aMo(f:Bool)(a:Int)(d:G.O):Rt:=
 bN f (some [yI 1]) (ob (cI d.pair 0) λg=>
 qF (c 150 [yR 2 g,yI (IntKind.i64.wrap (a-1))]) λb=>
 bN (decide (a<=(IntKind.i64.wrap ((1:Int)+b.1)))) (some [yI a]) (ob (cI d.pair 1) λh=>
 qF (c 150 [yR 2 h,yI (IntKind.i64.wrap (a-(IntKind.i64.wrap ((1:Int)+b.1))))]) λi=>
 some [yI (IntKind.i64.wrap ((IntKind.i64.wrap ((1:Int)+b.1))+i.1))]))
def aI4(n:Nt):Bool->Int->G.O->Rt:=λx0 x1 x2=>n [yB x0,yI x1,yR 2 x2]
def UI:=aI4 (xD Cd e (pw 4 5) Lr (aEC c e))
def aXR:aI5 (xF Cd c e)=aMp c (UI c e):=by kernel_rfl
def aXQ:aI4 (xA Cd c e (pw 4 5) Lr (aEC c e))=aMo c:=by kernel_rfl
def aJ4(L:Nat):Bool->Int->G.O->Rt:=aMo c
def a2g:UI c (cu c L)=aJ4 c L:=by rw[UI,bU,aXQ];rfl
def a47:G.O->Int->Rt:=aMp c (aJ4 c L)
def bNF:aI5 (xF Cd c (cu c L))=a47 c L:=by rw[aXR];simp only[a2g];rfl
def bOD(a:G.O)(b:Int)(L n:Nat):bR L (n+1) 150 [yR 2 a,yI b]=a47 (bR L n) L a b:=by rw[<-bNF];exact cz (x:=Cd) (by kernel_rfl) L n _
def aEB(c:bT)(e:Cu):Kt:=xK En
def aMn(a:Bool->Rt)(b:G.Y):Rt:=
 cO (c 181 [yR 1 b]) λd=>
 bN d.1 (gU (c 33 [yT [110,105,108]]) λf=>
 bN (!decide (b=f.1)) (gU (c 33 [yT [116]]) λg=>
 a (!decide (b=g.1))) (a false)) (a false)
def aMm(c:bT)(a:Bool):Rt:=
 some [yB a]
def UH:=dH (xD En e [1,1,0] Lq (aEB c e))
def aXP:gZ (xF En c e)=aMn c (UH c e):=by kernel_rfl
def aXO:dH (xA En c e [1,1,0] Lq (aEB c e))=aMm c:=by kernel_rfl
def aJ3(L:Nat):Bool->Rt:=aMm c
def a2f:UH c (cu c L)=aJ3 c L:=by rw[UH,bU,aXO];rfl
def a45:G.Y->Rt:=aMn c (aJ3 c L)
def bNE:gZ (xF En c (cu c L))=a45 c L:=by rw[aXP];simp only[a2f];rfl
def bOC(a:G.Y)(L n:Nat):bR L (n+1) 151 [yR 1 a]=a45 (bR L n) L a:=by rw[<-bNE];exact cz (x:=En) (by kernel_rfl) L n _
def aZR(c:bT)(e:Cu):Kt:=xK tB
def aZQ:Kt:=xT tB c e [1,1] (aZR c e)
def JM:Kt:=cK U0 0 (aZQ c e)
def aZP(n1:Nt):Kt:=eY U0 vV n1 (JM c e)
def aZO(n1:Nt):Kt:=xT tB c e (pw 7 101) (aZP c e n1)
def aEA(n1:Nt):Kt:=cK U0 1 (aZO c e n1)
def aMl(c:bT)(a:List G.E->Int->G.Y->G.M->Rt)(b:List G.E)(d:G.Y):Rt:=
 a b 0 d (G.M.mk iD ([]:List G.Y) false iB)
def aMk(c:bT)(f:Bool->Int->List G.E->G.Y->G.M->Rt)(a:List G.E)(b:Int)(d:G.Y)(g:G.M):Rt:=
 bN (decide (b<(List.length a:Int))) (ob (cI a b) λh=>
 bN (decide (h.kind=2)) (ob (cI a b) λi=>
 f (decide (i.mac.name=d)) b a d g) (f false b a d g)) (some [yR 10 (G.M.mk iD ([]:List G.Y) false iB),yB false])
def FW(n:Nt):List G.E->Int->G.Y->G.M->Rt:=λx0 x1 x2 x3=>n [yS 16 x0,yI x1,yR 1 x2,yR 10 x3]
def aIy:=FW (xE tB e (pw 5 5) vV (JM c e))
def aMj(c:bT)(d:List G.E->Int->G.Y->G.M->Rt)(f:Bool)(a:Int)(b:List G.E)(g:G.Y)(h:G.M):Rt:=
 bN f (ob (cI b a) λi=>
 some [yR 10 i.mac,yB true]) (d b (IntKind.i64.wrap (a+1)) g h)
def aI3(n:Nt):Bool->Int->List G.E->G.Y->G.M->Rt:=λx0 x1 x2 x3 x4=>n [yB x0,yI x1,yS 16 x2,yR 1 x3,yR 10 x4]
def UG(n1:Nt):=aI3 (xD tB e (pw 10 293) Lp (aEA c e n1))
def aXN:mG (xF tB c e)=aMl c (aIy c e):=by kernel_rfl
def aXM(n1:Nt):FW (xA tB c e (pw 5 5) vV (eY U0 vV n1 (JM c e)))=aMk c (UG c e n1):=by kernel_rfl
def aXL(n1:Nt):aI3 (xA tB c e (pw 10 293) Lp (aEA c e n1))=aMj c (FW n1):=by kernel_rfl
def aJ2(L:Nat)(n1:List G.E->Int->G.Y->G.M->Rt):Bool->Int->List G.E->G.Y->G.M->Rt:=aMj c n1
def a2e(n1:Nt):UG c (cu c L) n1=aJ2 c L (FW n1):=by rw[UG,bU,aXL];rfl
def Md(c:bT)(L:Nat):Nat->List G.E->Int->G.Y->G.M->Rt
 |0=>λ_ _ _ _=>none
 |n+1=>aMk c (aJ2 c L (Md c L n))
def aWc(n:Nat):FW (xL tB c L (pw 5 5) vV (JM c (cu c L)) n)=Md c L n:=by
 induction n with
 |zero=>rfl
 |succ n ih=>rw[dR,aXM];simp only[a2e,ih];rfl
def aVD:aIy c (cu c L)=Md c L L:=aWc c L L
def a44:List G.E->G.Y->Rt:=aMl c (Md c L L)
def bND:mG (xF tB c (cu c L))=a44 c L:=by rw[aXN];simp only[aVD];rfl
def bOB(a:List G.E)(b:G.Y)(L n:Nat):bR L (n+1) 155 [yS 16 a,yR 1 b]=a44 (bR L n) L a b:=by rw[<-bND];exact cz (x:=tB) (by kernel_rfl) L n _
def a5U(a:G.T):Rt:=
 qF (c 185 [yR 3 a,yI 3001]) λb=>
 some [yI b.1]
def a43(L:Nat):G.T->Rt:=a5U c
def bNC:iJ (xF aFV c (cu c L))=a43 c L:=by kernel_rfl
def bOA(a:G.T)(L n:Nat):bR L (n+1) 159 [yR 3 a]=a43 (bR L n) L a:=by rw[<-bNC];exact cz (x:=aFV) (by kernel_rfl) L n _
def a5T(a:G.T):Rt:=
 qF (c 186 [yR 3 a,yI 201]) λb=>
 some [yI b.1]
def a42(L:Nat):G.T->Rt:=a5T c
def bNB:iJ (xF aFU c (cu c L))=a42 c L:=by kernel_rfl
def bOz(a:G.T)(L n:Nat):bR L (n+1) 160 [yR 3 a]=a42 (bR L n) L a:=by rw[<-bNB];exact cz (x:=aFU) (by kernel_rfl) L n _
def aZN(c:bT)(e:Cu):Kt:=xK mV
def aZM:Kt:=xT mV c e [1,1,1] (aZN c e)
def A9:Kt:=cK U0 0 (aZM c e)
def aEy:Kt:=xT mV c e (pw 12 3051) (A9 c e)
def aZL:Kt:=xT mV c e (pw 13 7147) (A9 c e)
def RA:Kt:=cK U0 1 (aZL c e)
def aMg(b:Bool->Rt)(d:Bool->Rt)(f:Bool->G.T->Rt)(a:G.T):Rt:=
 cO (c 95 [yR 2 a.value,yR 2 Q4]) λg=>
 bN (decide (a.kind=1)) (bN g.1 (cO (c 151 [yR 1 a.name]) λh=>
 bN h.1 (b (decide ((List.length a.args:Int)=0))) (b false)) (b false)) (bN (decide (a.kind=2)) (bN (decide (a.name=iD)) (cO (c 187 [yR 2 a.value]) λi=>
 bN i.1 (d (decide ((List.length a.args:Int)=0))) (d false)) (d false)) (bN (decide (a.kind=3)) (bN (!g.1) (f true a) (cO (c 181 [yR 1 a.name]) λj=>
 bN (!j.1) (f true a) (f (decide ((8:Int)<(List.length a.args:Int))) a))) (some [yB false])))
def aMf(c:bT)(a:Bool):Rt:=
 some [yB a]
def UF:=dH (xD mV e (pw 9 171) Lo (A9 c e))
def aMe(c:bT)(a:Bool):Rt:=
 some [yB a]
def UE:=dH (xD mV e (pw 11 747) Ln (A9 c e))
def aMd(c:bT)(a:Int->G.T->Rt)(b:Bool)(d:G.T):Rt:=
 bN b (some [yB false]) (a 0 d)
def UD:=B0 (xD mV e (pw 14 5099) Lm (aEy c e))
def aMc(d:Int->G.T->Rt)(a:Int)(b:G.T):Rt:=
 bN (decide (a<(List.length b.args:Int))) (ob (cI b.args a) λf=>
 cO (c 161 [yR 3 f]) λg=>
 bN (!g.1) (some [yB false]) (d (IntKind.i64.wrap (a+1)) b)) (some [yB true])
def Mt(n:Nt):Int->G.T->Rt:=λx0 x1=>n [yI x0,yR 3 x1]
def aIu:=Mt (xE mV e (pw 16 11243) As (RA c e))
def aXK:iJ (xF mV c e)=aMg c (UF c e) (UE c e) (UD c e):=by kernel_rfl
def aXJ:dH (xA mV c e (pw 9 171) Lo (A9 c e))=aMf c:=by kernel_rfl
def aXI:dH (xA mV c e (pw 11 747) Ln (A9 c e))=aMe c:=by kernel_rfl
def aXH:B0 (xA mV c e (pw 14 5099) Lm (aEy c e))=aMd c (aIu c e):=by kernel_rfl
def aXG(n4:Nt):Mt (xA mV c e (pw 16 11243) As (eY U0 As n4 (RA c e)))=aMc c (Mt n4):=by kernel_rfl
def aJ1(L:Nat):Bool->Rt:=aMf c
def a2d:UF c (cu c L)=aJ1 c L:=by rw[UF,bU,aXJ];rfl
def aJ0(L:Nat):Bool->Rt:=aMe c
def a2c:UE c (cu c L)=aJ0 c L:=by rw[UE,bU,aXI];rfl
def Mb(c:bT)(L:Nat):Nat->Int->G.T->Rt
 |0=>λ_ _=>none
 |n+1=>aMc c (Mb c L n)
def aWb(n:Nat):Mt (xL mV c L (pw 16 11243) As (RA c (cu c L)) n)=Mb c L n:=by
 induction n with
 |zero=>rfl
 |succ n ih=>rw[dR,aXG];simp only[ih];rfl
def aVB:aIu c (cu c L)=Mb c L L:=aWb c L L
def aJZ:Bool->G.T->Rt:=aMd c (Mb c L L)
def a2b:UD c (cu c L)=aJZ c L:=by rw[UD,bU,aXH];simp only[aVB];rfl
def a41:G.T->Rt:=aMg c (aJ1 c L) (aJ0 c L) (aJZ c L)
def bNA:iJ (xF mV c (cu c L))=a41 c L:=by rw[aXK];simp only[a2d,a2c,a2b];rfl
def bOy(a:G.T)(L n:Nat):bR L (n+1) 161 [yR 3 a]=a41 (bR L n) L a:=by rw[<-bNA];exact cz (x:=mV) (by kernel_rfl) L n _
def Ry(c:bT)(e:Cu):Kt:=xK wY
def aEx:Kt:=xT wY c e [1,1] (Ry c e)
def VD(f:Bool->Int->List G.Y->G.T->Rt)(a:G.T)(b:Int)(d:List G.Y):Rt:=
 bN (decide (a.kind=b)) (cO (c 193 [yS 1 d,yR 1 a.name]) λg=>
 f (!g.1) b d a) (f false b d a)
def VC(c:bT)(b:Int->List G.Y->Rt)(g:Bool)(d:Int)(a:List G.Y)(f:G.T):Rt:=
 bN g (iQ (Nat.ble ((List.length a+List.length ([f.name]:List G.Y))*32) 1073741824)<|
 b d (a++([f.name]:List G.Y))) (b d a)
def aI2(n:Nt):Bool->Int->List G.Y->G.T->Rt:=λx0 x1 x2 x3=>n [yB x0,yI x1,yS 1 x2,yR 3 x3]
def UC:=aI2 (xD wY e (pw 4 5) Ll (aEx c e))
def VB(c:bT)(a:Int)(b:List G.Y):Rt:=
 some [yB true,yI a,yS 1 b]
def UB:=Mz (xD wY e [1,1,0] Lk (Ry c e))
def aXF:MA (xF wY c e)=VD c (UC c e):=by kernel_rfl
def aXE:aI2 (xA wY c e (pw 4 5) Ll (aEx c e))=VC c (UB c e):=by kernel_rfl
def aXD:Mz (xA wY c e [1,1,0] Lk (Ry c e))=VB c:=by kernel_rfl
def Vf(L:Nat):Int->List G.Y->Rt:=VB c
def a19:UB c (cu c L)=Vf c L:=by rw[UB,bU,aXD];rfl
def Vg:Bool->Int->List G.Y->G.T->Rt:=VC c (Vf c L)
def a2a:UC c (cu c L)=Vg c L:=by rw[UC,bU,aXE];simp only[a19];rfl
def a40:G.T->Int->List G.Y->Rt:=VD c (Vg c L)
def bNz:MA (xF wY c (cu c L))=a40 c L:=by rw[aXF];simp only[a2a];rfl
def bOx(a:G.T)(b:Int)(d:List G.Y)(L n:Nat):bR L (n+1) 167 [yR 3 a,yI b,yS 1 d]=a40 (bR L n) L a b d:=by rw[<-bNz];exact cz (x:=wY) (by kernel_rfl) L n _
def aZK(c:bT)(e:Cu):Kt:=xK zZ
def aZJ:Kt:=xT zZ c e [1,1] (aZK c e)
def Rx:Kt:=cK U0 0 (aZJ c e)
def aMb(c:bT)(b:Int->List G.I->Int->G.Y->G.T->Rt)(a:List G.I)(d:G.Y):Rt:=
 b (List.length a:Int) a 0 d iB
def MU(c:bT)(h:Int->List G.I->Int->G.Y->G.T->Rt)(b:Int)(d:List G.I)(a:Int)(f:G.Y)(i:G.T):Rt:=
 bN (decide (a<b)) (ob (cI d a) λg=>
 bN (decide (g.var=f)) (some [yR 3 g.term,yB true]) (h b d (IntKind.i64.wrap (a+1)) f i)) (some [yR 3 iB,yB false])
def Ms(n:Nt):Int->List G.I->Int->G.Y->G.T->Rt:=λx0 x1 x2 x3 x4=>n [yI x0,yS 7 x1,yI x2,yR 1 x3,yR 3 x4]
def aIt:=Ms (xE zZ e (pw 5 5) Ar (Rx c e))
def aXC:MG (xF zZ c e)=aMb c (aIt c e):=by kernel_rfl
def aXB(n1:Nt):Ms (xA zZ c e (pw 5 5) Ar (eY U0 Ar n1 (Rx c e)))=MU c (Ms n1):=by kernel_rfl
def yM(c:bT)(L:Nat):Nat->Int->List G.I->Int->G.Y->G.T->Rt
 |0=>λ_ _ _ _ _=>none
 |n+1=>MU c (yM c L n)
def aWa(n:Nat):Ms (xL zZ c L (pw 5 5) Ar (Rx c (cu c L)) n)=yM c L n:=by
 induction n with
 |zero=>rfl
 |succ n ih=>rw[dR,aXB];simp only[ih];rfl
def aVA:aIt c (cu c L)=yM c L L:=aWa c L L
def bIh:List G.I->G.Y->Rt:=aMb c (yM c L L)
def bNy:MG (xF zZ c (cu c L))=bIh c L:=by rw[aXC];simp only[aVA];rfl
def bOw(a:List G.I)(b:G.Y)(L n:Nat):bR L (n+1) 168 [yS 7 a,yR 1 b]=bIh (bR L n) L a b:=by rw[<-bNy];exact cz (x:=zZ) (by kernel_rfl) L n _
end
end Go.TV
namespace Go.TV
open Go.AI Go.PI Go.Proofs
def aND{N:Type}{s w r:List N}{k:Nat}(h:s.drop k=w++r)(hk:k<=s.length):slc s (k:Int) ((k+w.length:Nat):Int)=some w:=by
 have hl:=congrArg List.length h;simp at hl;unfold slc;have e1:decide ((0:Int)<=(k:Int))=true:=by simp
 have e2:decide ((k:Int)<=((k+w.length:Nat):Int))=true:=by simp;omega
 have e3:decide (((k+w.length:Nat):Int)<=(s.length:Int))=true:=by simp only[aD];omega
 rw[e1,e2,e3];simp only[Bool.and_self,aI,Int.toNat_natCast,aA];rw[List.drop_take,h];simp
def aFg{W:Type}{a b:List UInt8}{d:Bool}{K:List UInt8×List UInt8×Bool×Unit->Option W}:fU (D:=U0.D) [.str,.str,.bool] (some [yT a,yT b,yB d]) K=K (a,b,d,()):=rfl
def a0R{W:Type}{a:G.X}{K:G.X×Unit->Option W}:rZ (some [yR 17 a]) K=K (a,()):=rfl
def Kh{W:Type}{a:Int}{b:Bool}{K:Int×Bool×Unit->Option W}:uD (some [yI a,yB b]) K=K (a,b,()):=rfl
def aFj{W:Type}{a:Int}{K:Int×Unit->Option W}:qF (some [yI a]) K=K (a,()):=rfl
def Xv{W:Type}{a:List UInt8}{K:List UInt8×Unit->Option W}:fU (D:=U0.D) [.str] (some [yT a]) K=K (a,()):=rfl
def a0S{W:Type}{a b:List UInt8}{K:List UInt8×List UInt8×Unit->Option W}:fU (D:=U0.D) [.str,.str] (some [yT a,yT b]) K=K (a,b,()):=rfl
def a0V{W:Type}{a:G.K}{b:Int}{d:G.X}{K:G.K×Int×G.X×Unit->Option W}:fU (D:=U0.D) [.rc 19,.int .i64,.rc 17] (some [yR 19 a,yI b,yR 17 d]) K=K (a,b,d,()):=rfl
def aT7{x:UInt8}{w:List UInt8}(h1:u8 x≠45)(h2:u8 x<48∨57<u8 x)(L n:Nat):bR (L+1) (n+1) 177 [yT (x::w)]=some [yT [],yT [],yB false]:=by
 rw[bHc];have e1:decide ((0:Int)<((x::w).length:Int))=true:=by simp
 have e2:decide ((x.toNat:Int)=45)=false:=by simpa [u8]using h1
 have e3:cI (x::w) (0:Int)=some x:=rfl;rw[aQM,Vs,e1,bO,e3,bZ,e2,Vb,Vr,bL,Va,Vq,BZ,Vp,e1,bO,e3,bZ];have key: ∀b:Bool,b=false->U9 (bR (L+1) n) (L+1) (BZ (bR (L+1) n) (L+1) L) b 0 (x::w) 0=some [yT [],yT [],yB false]:=by
  intro b hb;subst hb;rfl
 cases h3:decide ((48:Int)<=(x.toNat:Int))with
 |false=>exact key _ rfl
 |true=>
  rw[bO,bZ];have h4:decide ((x.toNat:Int)<=(57:Int))=false:=by
   simp only[aD]at h3;simp only[bC];simp only[u8]at h2;omega
  exact key _ h4
def bH2{k p:Int}{w:List UInt8}(h:w.length<=40)(L n:Nat):bR L (n+1) 173 [yR 19 ⟨k,p,[],w,[]⟩,yB false]=some [yR 17 ⟨0,0⟩]:=by
 rw[bHd];have e1:decide ((40:Int)<(w.length:Int))=false:=by simp;omega
 simp only[aQN,Vw,e1,bL];rfl
structure aJr(c:bT)(w:List UInt8):Prop where
 a:c 177 [yT w]=some [yT w,yT [49],yB true]
 b:c 178 [yT [49]]=some [yT [49]]
 d:c 178 [yT w]=some [yT w]
 e:c 138 [yT w,yT [49]]=some [yT w,yT [49]]
 f:c 179 [yT w]=some [yI 1]
 g:c 179 [yT [49]]=some [yI 1]
def SyW(w:List UInt8):Prop:= ∃x l,w=x::l/\u8 x≠45/\(u8 x<48∨57<u8 x)/\w≠ [46]/\w.length<=40
def XV{x:Int}(h:HK x=true):x≠40/\x≠41/\x≠39/\x≠34/\x≠59/\x≠124/\x≠58:=by
 simp only[HK,aC,Bool.not_eq_true',bC]at h;obtain⟨⟨⟨⟨⟨⟨⟨_,h1⟩,h2⟩,h3⟩,h4⟩,h5⟩,h6⟩,h7⟩:=h;exact⟨h1,h2,h3,h4,h5,h6,h7⟩
def bJq(b:Bool)(p:Int)(w:List UInt8):G.K:=bif b then⟨5,p,[],w,[49]⟩else⟨6,p,[],w,[]⟩
def bPc{s w r:List UInt8}{k L n:Nat}{nu:Bool}(hb:s.length<1000000000)(hL:s.length<L)(h:s.drop k=w++r)(h0:w≠ [])(hw: ∀x∈w,HK (u8 x)=true)(hr: ∀y,r.head?=some y->HK (u8 y)=false/\u8 y≠58)
    (hk:(nu=true/\aJr (bR L (n+2)) w)∨(nu=false/\SyW w)):
    bR L (n+3) 147 [yT s,yI (k:Int)]=some [yR 19 (bJq nu (k:Int) w),yI ((k+w.length:Nat):Int),yR 17 ⟨0,0⟩]:=by
 have hl:=congrArg List.length h;simp at hl;obtain⟨L,rfl⟩:=sK L 1 (by omega)
 cases hw0:w with
 |nil=>exact(h0 hw0).elim
 |cons x l=>
  rw[<-hw0];have hx:x∈w:=by rw[hw0];exact aH ..
  have h1:s.drop k=x::(l++r):=by rw[h,hw0];rfl
  obtain⟨a1,a2,a3⟩:=bX h1;obtain⟨q1,q2,q3,q4,q5,q6,q7⟩:=XV (hw x hx);have d1:decide ((x.toNat:Int)=40)=false:=by simpa [u8]using q1
  have d2:decide ((x.toNat:Int)=41)=false:=by simpa [u8]using q2
  have d3:decide ((x.toNat:Int)=39)=false:=by simpa [u8]using q3
  have d4:decide ((x.toNat:Int)=34)=false:=by simpa [u8]using q4
  have d5:decide ((x.toNat:Int)=124)=false:=by simpa [u8]using q6
  have d6:HK (x.toNat:Int)=true:=hw x hx;have hwd:=bHA (n:=n) hb hL h hw (λy hy=>(hr y hy).1)
  have cr:=aND h (by omega)
  have hhs:bR (L+1) (n+2) 171 [yT s,yI ((k+w.length:Nat):Int),⟨.int .u8,(58:Int)⟩,⟨.int .u8,(58:Int)⟩]=some [yB false]:=by
   refine aF5 hb (by omega) (λy hy=>?_) (L+1) (n+1)
   have:s.drop (k+w.length)=r:=by rw[<-List.drop_drop,h];simp
   rw[<-List.head?_drop,this]at hy;exact(hr y hy).2
  show bR (L+1) (n+2+1) 147 _=_;rw[a3U,aKj,Ge,bP,a1,bZ,d1,bL,d2,bL,d3,bL,d4,bL,d5,bL,aUg,cH,d6];simp only[bD,bL];rw[hwd,aFj];show ob (slc s (k:Int) ((k+w.length:Nat):Int)) _=_;rw[cr,bZ,hhs,cH,bL];rcases hk with⟨rfl,hn⟩|⟨rfl,x',l',e1,e2,e3,e4,e5⟩
  .rw[hn.a,aFg];have e4:decide (w=([46]:List UInt8))=false:=by
    cases hd:decide (w=([46]:List UInt8))with
    |false=>rfl
    |true=>
     exfalso;simp only[aD]at hd;have h2:=hn.a;rw[hd]at h2;rw[aT7 (x:=46) (w:=[]) (by decide) (by decide)]at h2
     cases h2
   rw[e4,bL];simp only[bO];rw[hn.b,Xv];show bN (decide (([49]:List UInt8)=[48])) _ _=_;rw[show decide (([49]:List UInt8)=[48])=false by decide,bL,hn.d,Xv,Xv]
   show fU (D:=U0.D) [.str,.str] (bR (L+1) (n+2) 138 [yT w,yT [49]]) _=_;rw[hn.e,a0S];show qF (bR (L+1) (n+2) 179 [yT w]) _=_;rw[hn.f,aFj];show bN (decide ((100:Int)<1)) _ _=_;rw[show decide ((100:Int)<1)=false by decide,bL]
   show qF (bR (L+1) (n+2) 179 [yT [49]]) _=_;rw[hn.g,aFj];rfl
  .rw[e1,aT7 e2 e3,<-e1,aFg];have e6:decide (w=([46]:List UInt8))=false:=by simpa using e4
   rw[e6,bL];simp only[bL];rw[bH2 e5,a0R];rfl
def bHY{s r:List UInt8}{k L n:Nat}(hb:s.length<1000000000)(h:s.drop k=40::r):bR L (n+1) 147 [yT s,yI (k:Int)]=some [yR 19 ⟨1,(k:Int),[],[],[]⟩,yI ((k+1:Nat):Int),yR 17 ⟨0,0⟩]:=by
 obtain⟨a1,a2,a3⟩:=bX h;rw[a3U,aKj,Ge,bP,a1,bZ,cS (by omega)]
 rfl
def bHZ{s r:List UInt8}{k L n:Nat}(hb:s.length<1000000000)(h:s.drop k=41::r):bR L (n+1) 147 [yT s,yI (k:Int)]=some [yR 19 ⟨2,(k:Int),[],[],[]⟩,yI ((k+1:Nat):Int),yR 17 ⟨0,0⟩]:=by
 obtain⟨a1,a2,a3⟩:=bX h;rw[a3U,aKj,Ge,bP,a1,bZ,cS (by omega)]
 rfl
end Go.TV
