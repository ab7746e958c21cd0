import Derived.Test.YtgeanbfoeopjfaaGreatDoorKl
import Derived.Laws.StructEq
import Derived.Test.YtgeanbfoeopjfaaGreatDoorKh
import Derived.Test.YtgeanbfoeopjfaaGreatDoorProg
import Derived.Test.YtgeanbfoeopjfaaGreatDoorKg
import Derived.KernelRfl
set_option linter.unusedVariables false
set_option linter.unusedSimpArgs false
set_option linter.constructorNameAsVariable false
set_option linter.defProp false
namespace Go.TV
abbrev zS(n:Nat):Ty:= .sl (.rc n)
abbrev i6:Ty:= .int .i64
end Go.TV
namespace Go.TV
open Go.AI Go.PI
namespace G
structure Z where
 b:(List Int)
 pos:Int
structure Y where
 package:(List UInt8)
 name:(List UInt8)
inductive O where
 |mk (kind:Int) (num:(List UInt8)) (den:(List UInt8)) (sym:Y) (text:(List UInt8)) (pair:(List O))
def O.kind:O→Int|⟨x,_,_,_,_,_⟩=>x
def O.num:O→(List UInt8)|⟨_,x,_,_,_,_⟩=>x
def O.den:O→(List UInt8)|⟨_,_,x,_,_,_⟩=>x
def O.sym:O→Y|⟨_,_,_,x,_,_⟩=>x
def O.text:O→(List UInt8)|⟨_,_,_,_,x,_⟩=>x
def O.pair:O→(List O)|⟨_,_,_,_,_,x⟩=>x
inductive T where
 |mk (kind:Int) (name:Y) (value:O) (args:(List T))
def T.kind:T→Int|⟨x,_,_,_⟩=>x
def T.name:T→Y|⟨_,x,_,_⟩=>x
def T.value:T→O|⟨_,_,x,_⟩=>x
def T.args:T→(List T)|⟨_,_,_,x⟩=>x
structure F where
 name:Y
 params:(List Y)
 cls:Int
 guard:T
 body:T
 measure:T
structure A where
 name:(List UInt8)
 imports:(List Y)
structure M where
 name:Y
 params:(List Y)
 rest:Bool
 body:T
structure D where
 name:Y
 length:Int
 initial:O
structure B where
 name:Y
 fields:(List D)
structure I where
 var:Y
 term:T
structure C where
 tests:(List T)
 substs:(List (List I))
structure J where
 name:Y
 params:(List Y)
 body:T
structure N where
 rule:Int
 a:Int
 b:Int
 name:Y
 term:T
 measure:T
 clause:(List T)
 subst:(List I)
 lines:(List Int)
 cases:(List C)
 functional:(List J)
 weights:(List O)
structure Q where
 a0:Y
 a1:Y
structure U where
 name:Y
 cls:Int
 hyps:(List T)
 equiv:Y
 left:T
 right:T
 terms:(List T)
 tset:Int
 stops:(List Q)
 arg:Int
 inner:Y
inductive E where
 |mk (kind:Int) (name:Y) (package:A) (mac:M) (functions:(List F)) (formulas:(List T)) (logs:(List (List N))) (locl:(List E)) (stobj:B) (rules:(List U)) (enabled:(List Y)) (disabled:(List Y)) (text:(List UInt8)) (hash:Int)
def E.kind:E→Int|⟨x,_,_,_,_,_,_,_,_,_,_,_,_,_⟩=>x
def E.name:E→Y|⟨_,x,_,_,_,_,_,_,_,_,_,_,_,_⟩=>x
def E.package:E→A|⟨_,_,x,_,_,_,_,_,_,_,_,_,_,_⟩=>x
def E.mac:E→M|⟨_,_,_,x,_,_,_,_,_,_,_,_,_,_⟩=>x
def E.functions:E→(List F)|⟨_,_,_,_,x,_,_,_,_,_,_,_,_,_⟩=>x
def E.formulas:E→(List T)|⟨_,_,_,_,_,x,_,_,_,_,_,_,_,_⟩=>x
def E.logs:E→(List (List N))|⟨_,_,_,_,_,_,x,_,_,_,_,_,_,_⟩=>x
def E.locl:E→(List E)|⟨_,_,_,_,_,_,_,x,_,_,_,_,_,_⟩=>x
def E.stobj:E→B|⟨_,_,_,_,_,_,_,_,x,_,_,_,_,_⟩=>x
def E.rules:E→(List U)|⟨_,_,_,_,_,_,_,_,_,x,_,_,_,_⟩=>x
def E.enabled:E→(List Y)|⟨_,_,_,_,_,_,_,_,_,_,x,_,_,_⟩=>x
def E.disabled:E→(List Y)|⟨_,_,_,_,_,_,_,_,_,_,_,x,_,_⟩=>x
def E.text:E→(List UInt8)|⟨_,_,_,_,_,_,_,_,_,_,_,_,x,_⟩=>x
def E.hash:E→Int|⟨_,_,_,_,_,_,_,_,_,_,_,_,_,x⟩=>x
structure L where
 name:(List UInt8)
 formula:T
 cls:Int
structure X where
 err:Int
 pos:Int
structure K where
 kind:Int
 pos:Int
 package:(List UInt8)
 text:(List UInt8)
 den:(List UInt8)
structure P where
 l:(List A)
 current:(List UInt8)
 t:(List K)
 pos:Int
structure V where
 w:(List E)
 extra:(List F)
 left:Int
structure R where
 name:(List UInt8)
 arity:Int
structure W where
 w:(List E)
 left:Int
structure S where
 var:Y
 value:O
structure Integer where
 negative:Bool
 limbs:(List Int)
structure ErrorString where
 s:(List UInt8)
deriving instance DecidableEq for Y
def eSource(x:Z):List PV:=[cQ 1 (List.map (fun n=>PV.v (.int .u8 n)) x.b)]++ [.v (.int .i64 x.pos)]
def lSource(l:List Z):List PV:=l.map fun x=> .agg (eSource x)
theorem lSource_map(l:List Z):lSource l=l.map fun x=> .agg (eSource x):=rfl
def eSymbol(x:Y):List PV:=[.str x.package]++ [.str x.name]
def kJ(l:List Y):List PV:=l.map fun x=> .agg (eSymbol x)
theorem lSymbol_map(l:List Y):kJ l=l.map fun x=> .agg (eSymbol x):=rfl
mutual
def eObject:O→List PV
 |⟨x0,x1,x2,x3,x4,x5⟩=>[.v (.int .i64 x0)]++ [.str x1]++ [.str x2]++eSymbol x3++ [.str x4]++ [cQ 7 (mU x5)]
def mU:List O→List PV
 |[]=>[]
 |x::l=> .agg (eObject x)::mU l
end
theorem lObject_map(l:List O):mU l=l.map fun x=> .agg (eObject x):=by
 induction l with
 |nil=>simp only[mU,List.map_nil]
 |cons x l ih=>simp only[mU,ih,mpC]
mutual
def eTerm:T→List PV
 |⟨x0,x1,x2,x3⟩=>[.v (.int .i64 x0)]++eSymbol x1++eObject x2++ [cQ 11 (qZ x3)]
def qZ:List T→List PV
 |[]=>[]
 |x::l=> .agg (eTerm x)::qZ l
end
theorem lTerm_map(l:List T):qZ l=l.map fun x=> .agg (eTerm x):=by
 induction l with
 |nil=>simp only[qZ,List.map_nil]
 |cons x l ih=>simp only[qZ,ih,mpC]
def eFunction(x:F):List PV:=eSymbol x.name++ [cQ 2 (kJ x.params)]++ [.v (.int .i64 x.cls)]++eTerm x.guard++eTerm x.body++eTerm x.measure
def pN(l:List F):List PV:=l.map fun x=> .agg (eFunction x)
theorem lFunction_map(l:List F):pN l=l.map fun x=> .agg (eFunction x):=rfl
def ePackage(x:A):List PV:=[.str x.name]++ [cQ 2 (kJ x.imports)]
def aCJ(l:List A):List PV:=l.map fun x=> .agg (ePackage x)
theorem lPackage_map(l:List A):aCJ l=l.map fun x=> .agg (ePackage x):=rfl
def eMacro(x:M):List PV:=eSymbol x.name++ [cQ 2 (kJ x.params)]++ [.v (.bool x.rest)]++eTerm x.body
def lMacro(l:List M):List PV:=l.map fun x=> .agg (eMacro x)
theorem lMacro_map(l:List M):lMacro l=l.map fun x=> .agg (eMacro x):=rfl
def eField(x:D):List PV:=eSymbol x.name++ [.v (.int .i64 x.length)]++eObject x.initial
def lField(l:List D):List PV:=l.map fun x=> .agg (eField x)
theorem lField_map(l:List D):lField l=l.map fun x=> .agg (eField x):=rfl
def eStobj(x:B):List PV:=eSymbol x.name++ [cQ 10 (lField x.fields)]
def lStobj(l:List B):List PV:=l.map fun x=> .agg (eStobj x)
theorem lStobj_map(l:List B):lStobj l=l.map fun x=> .agg (eStobj x):=rfl
def eAssign(x:I):List PV:=eSymbol x.var++eTerm x.term
def aAr(l:List I):List PV:=l.map fun x=> .agg (eAssign x)
theorem lAssign_map(l:List I):aAr l=l.map fun x=> .agg (eAssign x):=rfl
def eCase(x:C):List PV:=[cQ 11 (qZ x.tests)]++ [cQ 1 (List.map (fun l=>cQ 13 (aAr l)) x.substs)]
def lCase(l:List C):List PV:=l.map fun x=> .agg (eCase x)
theorem lCase_map(l:List C):lCase l=l.map fun x=> .agg (eCase x):=rfl
def eLambda(x:J):List PV:=eSymbol x.name++ [cQ 2 (kJ x.params)]++eTerm x.body
def aGz(l:List J):List PV:=l.map fun x=> .agg (eLambda x)
theorem lLambda_map(l:List J):aGz l=l.map fun x=> .agg (eLambda x):=rfl
def eLine(x:N):List PV:=[.v (.int .i64 x.rule)]++ [.v (.int .i64 x.a)]++ [.v (.int .i64 x.b)]++eSymbol x.name++eTerm x.term++eTerm x.measure++ [cQ 11 (qZ x.clause)]++ [cQ 13 (aAr x.subst)]++ [cQ 1 (List.map (fun n=>PV.v (.int .i64 n)) x.lines)]++ [cQ 2 (lCase x.cases)]++ [cQ 14 (aGz x.functional)]++ [cQ 7 (mU x.weights)]
def lLine(l:List N):List PV:=l.map fun x=> .agg (eLine x)
theorem lLine_map(l:List N):lLine l=l.map fun x=> .agg (eLine x):=rfl
def ePairSymbol(x:Q):List PV:=eSymbol x.a0++eSymbol x.a1
def pM(l:List Q):List PV:=l.map fun x=> .agg (ePairSymbol x)
theorem lPairSymbol_map(l:List Q):pM l=l.map fun x=> .agg (ePairSymbol x):=rfl
def eRule(x:U):List PV:=eSymbol x.name++ [.v (.int .i64 x.cls)]++ [cQ 11 (qZ x.hyps)]++eSymbol x.equiv++eTerm x.left++eTerm x.right++ [cQ 11 (qZ x.terms)]++ [.v (.int .i64 x.tset)]++ [cQ 4 (pM x.stops)]++ [.v (.int .i64 x.arg)]++eSymbol x.inner
def lRule(l:List U):List PV:=l.map fun x=> .agg (eRule x)
theorem lRule_map(l:List U):lRule l=l.map fun x=> .agg (eRule x):=rfl
mutual
def eEntry:E→List PV
 |⟨x0,x1,x2,x3,x4,x5,x6,x7,x8,x9,x10,x11,x12,x13⟩=>[.v (.int .i64 x0)]++eSymbol x1++ePackage x2++eMacro x3++ [cQ 37 (pN x4)]++ [cQ 11 (qZ x5)]++ [cQ 1 (List.map (fun l=>cQ 33 (lLine l)) x6)]++ [cQ 32 (pO x7)]++eStobj x8++ [cQ 34 (lRule x9)]++ [cQ 2 (kJ x10)]++ [cQ 2 (kJ x11)]++ [.str x12]++ [.v (.int .u64 x13)]
def pO:List E→List PV
 |[]=>[]
 |x::l=> .agg (eEntry x)::pO l
end
theorem lEntry_map(l:List E):pO l=l.map fun x=> .agg (eEntry x):=by
 induction l with
 |nil=>simp only[pO,List.map_nil]
 |cons x l ih=>simp only[pO,ih,mpC]
def eLemma(x:L):List PV:=[.str x.name]++eTerm x.formula++ [.v (.int .i64 x.cls)]
def lLemma(l:List L):List PV:=l.map fun x=> .agg (eLemma x)
theorem lLemma_map(l:List L):lLemma l=l.map fun x=> .agg (eLemma x):=rfl
def eSourceError(x:X):List PV:=[.v (.int .i64 x.err)]++ [.v (.int .i64 x.pos)]
def wP(l:List X):List PV:=l.map fun x=> .agg (eSourceError x)
theorem lSourceError_map(l:List X):wP l=l.map fun x=> .agg (eSourceError x):=rfl
def eToken(x:K):List PV:=[.v (.int .i64 x.kind)]++ [.v (.int .i64 x.pos)]++ [.str x.package]++ [.str x.text]++ [.str x.den]
def lToken(l:List K):List PV:=l.map fun x=> .agg (eToken x)
theorem lToken_map(l:List K):lToken l=l.map fun x=> .agg (eToken x):=rfl
def eParser(x:P):List PV:=[cQ 2 (aCJ x.l)]++ [.str x.current]++ [cQ 5 (lToken x.t)]++ [.v (.int .i64 x.pos)]
def lParser(l:List P):List PV:=l.map fun x=> .agg (eParser x)
theorem lParser_map(l:List P):lParser l=l.map fun x=> .agg (eParser x):=rfl
def eTranslator(x:V):List PV:=[cQ 32 (pO x.w)]++ [cQ 37 (pN x.extra)]++ [.v (.int .i64 x.left)]
def aAq(l:List V):List PV:=l.map fun x=> .agg (eTranslator x)
theorem lTranslator_map(l:List V):aAq l=l.map fun x=> .agg (eTranslator x):=rfl
def eRow(x:R):List PV:=[.str x.name]++ [.v (.int .i64 x.arity)]
def lRow(l:List R):List PV:=l.map fun x=> .agg (eRow x)
theorem lRow_map(l:List R):lRow l=l.map fun x=> .agg (eRow x):=rfl
def eEvaluator(x:W):List PV:=[cQ 32 (pO x.w)]++ [.v (.int .i64 x.left)]
def aEm(l:List W):List PV:=l.map fun x=> .agg (eEvaluator x)
theorem lEvaluator_map(l:List W):aEm l=l.map fun x=> .agg (eEvaluator x):=rfl
def eBinding(x:S):List PV:=eSymbol x.var++eObject x.value
def lBinding(l:List S):List PV:=l.map fun x=> .agg (eBinding x)
theorem lBinding_map(l:List S):lBinding l=l.map fun x=> .agg (eBinding x):=rfl
def eInteger(x:Integer):List PV:=[.v (.bool x.negative)]++ [cQ 1 (List.map (fun n=>PV.v (.int .u32 n)) x.limbs)]
def lInteger(l:List Integer):List PV:=l.map fun x=> .agg (eInteger x)
theorem lInteger_map(l:List Integer):lInteger l=l.map fun x=> .agg (eInteger x):=rfl
def eErrorString(x:ErrorString):List PV:=[.str x.s]
def wQ(l:List ErrorString):List PV:=l.map fun x=> .agg (eErrorString x)
theorem lErrorString_map(l:List ErrorString):wQ l=l.map fun x=> .agg (eErrorString x):=rfl
end G
@[reducible] def D0:Nat→Type
 |0=>G.Z
 |1=>G.Y
 |2=>G.O
 |3=>G.T
 |4=>G.F
 |5=>G.A
 |6=>G.M
 |7=>G.D
 |8=>G.B
 |9=>G.I
 |10=>G.C
 |11=>G.J
 |12=>G.N
 |13=>G.Q
 |14=>G.U
 |15=>G.E
 |16=>G.L
 |17=>G.X
 |18=>G.K
 |19=>G.P
 |20=>G.V
 |21=>G.R
 |22=>G.W
 |23=>G.S
 |24=>G.Integer
 |_+25=>G.ErrorString
def fs0:Nat→List Ty
 |0=>[(.sl (.int .u8)),i6]
 |1=>[.str,.str]
 |2=>[i6,.str,.str,.rc 1,.str,zS 2]
 |3=>[i6,.rc 1,.rc 2,zS 3]
 |4=>[.rc 1,zS 1,i6,.rc 3,.rc 3,.rc 3]
 |5=>[.str,zS 1]
 |6=>[.rc 1,zS 1,.bool,.rc 3]
 |7=>[.rc 1,i6,.rc 2]
 |8=>[.rc 1,zS 7]
 |9=>[.rc 1,.rc 3]
 |10=>[zS 3,.sl (zS 9)]
 |11=>[.rc 1,zS 1,.rc 3]
 |12=>[i6,i6,i6,.rc 1,.rc 3,.rc 3,zS 3,zS 9,.sl i6,zS 10,zS 11,zS 2]
 |13=>[.rc 1,.rc 1]
 |14=>[.rc 1,i6,zS 3,.rc 1,.rc 3,.rc 3,zS 3,i6,zS 13,i6,.rc 1]
 |15=>[i6,.rc 1,.rc 5,.rc 6,zS 4,zS 3,.sl (zS 12),zS 15,.rc 8,zS 14,zS 1,zS 1,.str,(.int .u64)]
 |16=>[.str,.rc 3,i6]
 |17=>[i6,i6]
 |18=>[i6,i6,.str,.str,.str]
 |19=>[zS 5,.str,zS 18,i6]
 |20=>[zS 15,zS 4,i6]
 |21=>[.str,i6]
 |22=>[zS 15,i6]
 |23=>[.rc 1,.rc 2]
 |24=>[.bool,(.sl (.int .u32))]
 |_+25=>[.str]
def un0:(n:Nat)→D0 n→List (TV D0)
 |0,x=>[⟨(.sl (.int .u8)),G.Z.b x⟩,⟨i6,G.Z.pos x⟩]
 |1,x=>[⟨.str,G.Y.package x⟩,⟨.str,G.Y.name x⟩]
 |2,x=>[⟨i6,G.O.kind x⟩,⟨.str,G.O.num x⟩,⟨.str,G.O.den x⟩,⟨.rc 1,G.O.sym x⟩,⟨.str,G.O.text x⟩,⟨zS 2,G.O.pair x⟩]
 |3,x=>[⟨i6,G.T.kind x⟩,⟨.rc 1,G.T.name x⟩,⟨.rc 2,G.T.value x⟩,⟨zS 3,G.T.args x⟩]
 |4,x=>[⟨.rc 1,G.F.name x⟩,⟨zS 1,G.F.params x⟩,⟨i6,G.F.cls x⟩,⟨.rc 3,G.F.guard x⟩,⟨.rc 3,G.F.body x⟩,⟨.rc 3,G.F.measure x⟩]
 |5,x=>[⟨.str,G.A.name x⟩,⟨zS 1,G.A.imports x⟩]
 |6,x=>[⟨.rc 1,G.M.name x⟩,⟨zS 1,G.M.params x⟩,⟨.bool,G.M.rest x⟩,⟨.rc 3,G.M.body x⟩]
 |7,x=>[⟨.rc 1,G.D.name x⟩,⟨i6,G.D.length x⟩,⟨.rc 2,G.D.initial x⟩]
 |8,x=>[⟨.rc 1,G.B.name x⟩,⟨zS 7,G.B.fields x⟩]
 |9,x=>[⟨.rc 1,G.I.var x⟩,⟨.rc 3,G.I.term x⟩]
 |10,x=>[⟨zS 3,G.C.tests x⟩,⟨.sl (zS 9),G.C.substs x⟩]
 |11,x=>[⟨.rc 1,G.J.name x⟩,⟨zS 1,G.J.params x⟩,⟨.rc 3,G.J.body x⟩]
 |12,x=>[⟨i6,G.N.rule x⟩,⟨i6,G.N.a x⟩,⟨i6,G.N.b x⟩,⟨.rc 1,G.N.name x⟩,⟨.rc 3,G.N.term x⟩,⟨.rc 3,G.N.measure x⟩,⟨zS 3,G.N.clause x⟩,⟨zS 9,G.N.subst x⟩,⟨.sl i6,G.N.lines x⟩,⟨zS 10,G.N.cases x⟩,⟨zS 11,G.N.functional x⟩,⟨zS 2,G.N.weights x⟩]
 |13,x=>[⟨.rc 1,G.Q.a0 x⟩,⟨.rc 1,G.Q.a1 x⟩]
 |14,x=>[⟨.rc 1,G.U.name x⟩,⟨i6,G.U.cls x⟩,⟨zS 3,G.U.hyps x⟩,⟨.rc 1,G.U.equiv x⟩,⟨.rc 3,G.U.left x⟩,⟨.rc 3,G.U.right x⟩,⟨zS 3,G.U.terms x⟩,⟨i6,G.U.tset x⟩,⟨zS 13,G.U.stops x⟩,⟨i6,G.U.arg x⟩,⟨.rc 1,G.U.inner x⟩]
 |15,x=>[⟨i6,G.E.kind x⟩,⟨.rc 1,G.E.name x⟩,⟨.rc 5,G.E.package x⟩,⟨.rc 6,G.E.mac x⟩,⟨zS 4,G.E.functions x⟩,⟨zS 3,G.E.formulas x⟩,⟨.sl (zS 12),G.E.logs x⟩,⟨zS 15,G.E.locl x⟩,⟨.rc 8,G.E.stobj x⟩,⟨zS 14,G.E.rules x⟩,⟨zS 1,G.E.enabled x⟩,⟨zS 1,G.E.disabled x⟩,⟨.str,G.E.text x⟩,⟨(.int .u64),G.E.hash x⟩]
 |16,x=>[⟨.str,G.L.name x⟩,⟨.rc 3,G.L.formula x⟩,⟨i6,G.L.cls x⟩]
 |17,x=>[⟨i6,G.X.err x⟩,⟨i6,G.X.pos x⟩]
 |18,x=>[⟨i6,G.K.kind x⟩,⟨i6,G.K.pos x⟩,⟨.str,G.K.package x⟩,⟨.str,G.K.text x⟩,⟨.str,G.K.den x⟩]
 |19,x=>[⟨zS 5,G.P.l x⟩,⟨.str,G.P.current x⟩,⟨zS 18,G.P.t x⟩,⟨i6,G.P.pos x⟩]
 |20,x=>[⟨zS 15,G.V.w x⟩,⟨zS 4,G.V.extra x⟩,⟨i6,G.V.left x⟩]
 |21,x=>[⟨.str,G.R.name x⟩,⟨i6,G.R.arity x⟩]
 |22,x=>[⟨zS 15,G.W.w x⟩,⟨i6,G.W.left x⟩]
 |23,x=>[⟨.rc 1,G.S.var x⟩,⟨.rc 2,G.S.value x⟩]
 |24,x=>[⟨.bool,G.Integer.negative x⟩,⟨(.sl (.int .u32)),G.Integer.limbs x⟩]
 |_+25,x=>[⟨.str,G.ErrorString.s x⟩]
def of0:(n:Nat)→List (TV D0)→Option (D0 n)
 |0,l=>match dE (D:=D0) [(.sl (.int .u8)),i6] l with|some r=>some (⟨r.1,r.2.1⟩:G.Z)|none=>none
 |1,l=>match dE (D:=D0) [.str,.str] l with|some r=>some (⟨r.1,r.2.1⟩:G.Y)|none=>none
 |2,l=>match dE (D:=D0) [i6,.str,.str,.rc 1,.str,zS 2] l with|some r=>some (⟨r.1,r.2.1,r.2.2.1,r.2.2.2.1,r.2.2.2.2.1,r.2.2.2.2.2.1⟩:G.O)|none=>none
 |3,l=>match dE (D:=D0) [i6,.rc 1,.rc 2,zS 3] l with|some r=>some (⟨r.1,r.2.1,r.2.2.1,r.2.2.2.1⟩:G.T)|none=>none
 |4,l=>match dE (D:=D0) [.rc 1,zS 1,i6,.rc 3,.rc 3,.rc 3] l with|some r=>some (⟨r.1,r.2.1,r.2.2.1,r.2.2.2.1,r.2.2.2.2.1,r.2.2.2.2.2.1⟩:G.F)|none=>none
 |5,l=>match dE (D:=D0) [.str,zS 1] l with|some r=>some (⟨r.1,r.2.1⟩:G.A)|none=>none
 |6,l=>match dE (D:=D0) [.rc 1,zS 1,.bool,.rc 3] l with|some r=>some (⟨r.1,r.2.1,r.2.2.1,r.2.2.2.1⟩:G.M)|none=>none
 |7,l=>match dE (D:=D0) [.rc 1,i6,.rc 2] l with|some r=>some (⟨r.1,r.2.1,r.2.2.1⟩:G.D)|none=>none
 |8,l=>match dE (D:=D0) [.rc 1,zS 7] l with|some r=>some (⟨r.1,r.2.1⟩:G.B)|none=>none
 |9,l=>match dE (D:=D0) [.rc 1,.rc 3] l with|some r=>some (⟨r.1,r.2.1⟩:G.I)|none=>none
 |10,l=>match dE (D:=D0) [zS 3,.sl (zS 9)] l with|some r=>some (⟨r.1,r.2.1⟩:G.C)|none=>none
 |11,l=>match dE (D:=D0) [.rc 1,zS 1,.rc 3] l with|some r=>some (⟨r.1,r.2.1,r.2.2.1⟩:G.J)|none=>none
 |12,l=>match dE (D:=D0) [i6,i6,i6,.rc 1,.rc 3,.rc 3,zS 3,zS 9,.sl i6,zS 10,zS 11,zS 2] l with|some r=>some (⟨r.1,r.2.1,r.2.2.1,r.2.2.2.1,r.2.2.2.2.1,r.2.2.2.2.2.1,r.2.2.2.2.2.2.1,r.2.2.2.2.2.2.2.1,r.2.2.2.2.2.2.2.2.1,r.2.2.2.2.2.2.2.2.2.1,r.2.2.2.2.2.2.2.2.2.2.1,r.2.2.2.2.2.2.2.2.2.2.2.1⟩:G.N)|none=>none
 |13,l=>match dE (D:=D0) [.rc 1,.rc 1] l with|some r=>some (⟨r.1,r.2.1⟩:G.Q)|none=>none
 |14,l=>match dE (D:=D0) [.rc 1,i6,zS 3,.rc 1,.rc 3,.rc 3,zS 3,i6,zS 13,i6,.rc 1] l with|some r=>some (⟨r.1,r.2.1,r.2.2.1,r.2.2.2.1,r.2.2.2.2.1,r.2.2.2.2.2.1,r.2.2.2.2.2.2.1,r.2.2.2.2.2.2.2.1,r.2.2.2.2.2.2.2.2.1,r.2.2.2.2.2.2.2.2.2.1,r.2.2.2.2.2.2.2.2.2.2.1⟩:G.U)|none=>none
 |15,l=>match dE (D:=D0) [i6,.rc 1,.rc 5,.rc 6,zS 4,zS 3,.sl (zS 12),zS 15,.rc 8,zS 14,zS 1,zS 1,.str,(.int .u64)] l with|some r=>some (⟨r.1,r.2.1,r.2.2.1,r.2.2.2.1,r.2.2.2.2.1,r.2.2.2.2.2.1,r.2.2.2.2.2.2.1,r.2.2.2.2.2.2.2.1,r.2.2.2.2.2.2.2.2.1,r.2.2.2.2.2.2.2.2.2.1,r.2.2.2.2.2.2.2.2.2.2.1,r.2.2.2.2.2.2.2.2.2.2.2.1,r.2.2.2.2.2.2.2.2.2.2.2.2.1,r.2.2.2.2.2.2.2.2.2.2.2.2.2.1⟩:G.E)|none=>none
 |16,l=>match dE (D:=D0) [.str,.rc 3,i6] l with|some r=>some (⟨r.1,r.2.1,r.2.2.1⟩:G.L)|none=>none
 |17,l=>match dE (D:=D0) [i6,i6] l with|some r=>some (⟨r.1,r.2.1⟩:G.X)|none=>none
 |18,l=>match dE (D:=D0) [i6,i6,.str,.str,.str] l with|some r=>some (⟨r.1,r.2.1,r.2.2.1,r.2.2.2.1,r.2.2.2.2.1⟩:G.K)|none=>none
 |19,l=>match dE (D:=D0) [zS 5,.str,zS 18,i6] l with|some r=>some (⟨r.1,r.2.1,r.2.2.1,r.2.2.2.1⟩:G.P)|none=>none
 |20,l=>match dE (D:=D0) [zS 15,zS 4,i6] l with|some r=>some (⟨r.1,r.2.1,r.2.2.1⟩:G.V)|none=>none
 |21,l=>match dE (D:=D0) [.str,i6] l with|some r=>some (⟨r.1,r.2.1⟩:G.R)|none=>none
 |22,l=>match dE (D:=D0) [zS 15,i6] l with|some r=>some (⟨r.1,r.2.1⟩:G.W)|none=>none
 |23,l=>match dE (D:=D0) [.rc 1,.rc 2] l with|some r=>some (⟨r.1,r.2.1⟩:G.S)|none=>none
 |24,l=>match dE (D:=D0) [.bool,(.sl (.int .u32))] l with|some r=>some (⟨r.1,r.2.1⟩:G.Integer)|none=>none
 |_+25,l=>match dE (D:=D0) [.str] l with|some r=>some (⟨r.1⟩:G.ErrorString)|none=>none
def en0:(n:Nat)→D0 n→List PV
 |0,x=>G.eSource x
 |1,x=>G.eSymbol x
 |2,x=>G.eObject x
 |3,x=>G.eTerm x
 |4,x=>G.eFunction x
 |5,x=>G.ePackage x
 |6,x=>G.eMacro x
 |7,x=>G.eField x
 |8,x=>G.eStobj x
 |9,x=>G.eAssign x
 |10,x=>G.eCase x
 |11,x=>G.eLambda x
 |12,x=>G.eLine x
 |13,x=>G.ePairSymbol x
 |14,x=>G.eRule x
 |15,x=>G.eEntry x
 |16,x=>G.eLemma x
 |17,x=>G.eSourceError x
 |18,x=>G.eToken x
 |19,x=>G.eParser x
 |20,x=>G.eTranslator x
 |21,x=>G.eRow x
 |22,x=>G.eEvaluator x
 |23,x=>G.eBinding x
 |24,x=>G.eInteger x
 |_+25,x=>G.eErrorString x
def eq0:(n:Nat)→Option (D0 n→D0 n→Bool)
 |0=>none
 |1=>some fun(a b:G.Y)=>decide (a=b)
 |2=>none
 |3=>none
 |4=>none
 |5=>none
 |6=>none
 |7=>none
 |8=>none
 |9=>none
 |10=>none
 |11=>none
 |12=>none
 |13=>none
 |14=>none
 |15=>none
 |16=>none
 |17=>none
 |18=>none
 |19=>none
 |20=>none
 |21=>none
 |22=>none
 |23=>none
 |24=>none
 |_+25=>none
def zero0:(n:Nat)→D0 n
 |0=>(⟨[],0⟩:G.Z)
 |1=>(⟨[],[]⟩:G.Y)
 |2=>(⟨0,[],[],⟨[],[]⟩,[],[]⟩:G.O)
 |3=>(⟨0,⟨[],[]⟩,⟨0,[],[],⟨[],[]⟩,[],[]⟩,[]⟩:G.T)
 |4=>(⟨⟨[],[]⟩,[],0,⟨0,⟨[],[]⟩,⟨0,[],[],⟨[],[]⟩,[],[]⟩,[]⟩,⟨0,⟨[],[]⟩,⟨0,[],[],⟨[],[]⟩,[],[]⟩,[]⟩,⟨0,⟨[],[]⟩,⟨0,[],[],⟨[],[]⟩,[],[]⟩,[]⟩⟩:G.F)
 |5=>(⟨[],[]⟩:G.A)
 |6=>(⟨⟨[],[]⟩,[],false,⟨0,⟨[],[]⟩,⟨0,[],[],⟨[],[]⟩,[],[]⟩,[]⟩⟩:G.M)
 |7=>(⟨⟨[],[]⟩,0,⟨0,[],[],⟨[],[]⟩,[],[]⟩⟩:G.D)
 |8=>(⟨⟨[],[]⟩,[]⟩:G.B)
 |9=>(⟨⟨[],[]⟩,⟨0,⟨[],[]⟩,⟨0,[],[],⟨[],[]⟩,[],[]⟩,[]⟩⟩:G.I)
 |10=>(⟨[],[]⟩:G.C)
 |11=>(⟨⟨[],[]⟩,[],⟨0,⟨[],[]⟩,⟨0,[],[],⟨[],[]⟩,[],[]⟩,[]⟩⟩:G.J)
 |12=>(⟨0,0,0,⟨[],[]⟩,⟨0,⟨[],[]⟩,⟨0,[],[],⟨[],[]⟩,[],[]⟩,[]⟩,⟨0,⟨[],[]⟩,⟨0,[],[],⟨[],[]⟩,[],[]⟩,[]⟩,[],[],[],[],[],[]⟩:G.N)
 |13=>(⟨⟨[],[]⟩,⟨[],[]⟩⟩:G.Q)
 |14=>(⟨⟨[],[]⟩,0,[],⟨[],[]⟩,⟨0,⟨[],[]⟩,⟨0,[],[],⟨[],[]⟩,[],[]⟩,[]⟩,⟨0,⟨[],[]⟩,⟨0,[],[],⟨[],[]⟩,[],[]⟩,[]⟩,[],0,[],0,⟨[],[]⟩⟩:G.U)
 |15=>(⟨0,⟨[],[]⟩,⟨[],[]⟩,⟨⟨[],[]⟩,[],false,⟨0,⟨[],[]⟩,⟨0,[],[],⟨[],[]⟩,[],[]⟩,[]⟩⟩,[],[],[],[],⟨⟨[],[]⟩,[]⟩,[],[],[],[],0⟩:G.E)
 |16=>(⟨[],⟨0,⟨[],[]⟩,⟨0,[],[],⟨[],[]⟩,[],[]⟩,[]⟩,0⟩:G.L)
 |17=>(⟨0,0⟩:G.X)
 |18=>(⟨0,0,[],[],[]⟩:G.K)
 |19=>(⟨[],[],[],0⟩:G.P)
 |20=>(⟨[],[],0⟩:G.V)
 |21=>(⟨[],0⟩:G.R)
 |22=>(⟨[],0⟩:G.W)
 |23=>(⟨⟨[],[]⟩,⟨0,[],[],⟨[],[]⟩,[],[]⟩⟩:G.S)
 |24=>(⟨false,[]⟩:G.Integer)
 |_+25=>(⟨[]⟩:G.ErrorString)
def sz0:Nat→Nat
 |0=>2
 |1=>2
 |2=>7
 |3=>11
 |4=>37
 |5=>2
 |6=>15
 |7=>10
 |8=>3
 |9=>13
 |10=>2
 |11=>14
 |12=>33
 |13=>4
 |14=>34
 |15=>32
 |16=>13
 |17=>2
 |18=>5
 |19=>4
 |20=>3
 |21=>2
 |22=>2
 |23=>9
 |24=>2
 |_+25=>1
def lt0:Nat→List Ty
 |0=>[(.sl (.int .u8)),i6]
 |1=>[.str,.str]
 |2=>[i6,.str,.str,.str,.str,.str,zS 2]
 |3=>[i6,.str,.str,i6,.str,.str,.str,.str,.str,zS 2,zS 3]
 |4=>[.str,.str,zS 1,i6,i6,.str,.str,i6,.str,.str,.str,.str,.str,zS 2,zS 3,i6,.str,.str,i6,.str,.str,.str,.str,.str,zS 2,zS 3,i6,.str,.str,i6,.str,.str,.str,.str,.str,zS 2,zS 3]
 |5=>[.str,zS 1]
 |6=>[.str,.str,zS 1,.bool,i6,.str,.str,i6,.str,.str,.str,.str,.str,zS 2,zS 3]
 |7=>[.str,.str,i6,i6,.str,.str,.str,.str,.str,zS 2]
 |8=>[.str,.str,zS 7]
 |9=>[.str,.str,i6,.str,.str,i6,.str,.str,.str,.str,.str,zS 2,zS 3]
 |10=>[zS 3,.sl (zS 9)]
 |11=>[.str,.str,zS 1,i6,.str,.str,i6,.str,.str,.str,.str,.str,zS 2,zS 3]
 |12=>[i6,i6,i6,.str,.str,i6,.str,.str,i6,.str,.str,.str,.str,.str,zS 2,zS 3,i6,.str,.str,i6,.str,.str,.str,.str,.str,zS 2,zS 3,zS 3,zS 9,.sl i6,zS 10,zS 11,zS 2]
 |13=>[.str,.str,.str,.str]
 |14=>[.str,.str,i6,zS 3,.str,.str,i6,.str,.str,i6,.str,.str,.str,.str,.str,zS 2,zS 3,i6,.str,.str,i6,.str,.str,.str,.str,.str,zS 2,zS 3,zS 3,i6,zS 13,i6,.str,.str]
 |15=>[i6,.str,.str,.str,zS 1,.str,.str,zS 1,.bool,i6,.str,.str,i6,.str,.str,.str,.str,.str,zS 2,zS 3,zS 4,zS 3,.sl (zS 12),zS 15,.str,.str,zS 7,zS 14,zS 1,zS 1,.str,(.int .u64)]
 |16=>[.str,i6,.str,.str,i6,.str,.str,.str,.str,.str,zS 2,zS 3,i6]
 |17=>[i6,i6]
 |18=>[i6,i6,.str,.str,.str]
 |19=>[zS 5,.str,zS 18,i6]
 |20=>[zS 15,zS 4,i6]
 |21=>[.str,i6]
 |22=>[zS 15,i6]
 |23=>[.str,.str,i6,.str,.str,.str,.str,.str,zS 2]
 |24=>[.bool,(.sl (.int .u32))]
 |_+25=>[.str]
def U0:iG:=⟨D0,fs0,un0,of0,en0,eq0,zero0,sz0,lt0⟩
theorem gd_v(x:Value):gd (.v x)=true:=rfl
theorem gd_st(s:List UInt8):gd (.str s)=true:=rfl
theorem aZ(z:Nat)(l:List PV):(cQ z l).cells=[cQ z l]:=hJ (bV _ _)
theorem bJ(x:Value):(PV.v x).cells=[.v x]:=rfl
theorem aY(x:List UInt8):(PV.str x).cells=[.str x]:=rfl
theorem bA(x:List PV):(PV.agg x).cells=x:=rfl
theorem len_0: ∀x:D0 0,(en0 0 x).length=sz0 0:=fun(x:G.Z)=>by rfl
theorem lM: ∀x:D0 1,(en0 1 x).length=sz0 1:=fun(x:G.Y)=>by rfl
theorem len_2: ∀x:D0 2,(en0 2 x).length=sz0 2:=fun(x:G.O)=>by
 cases x;show(G.eObject _).length=7;simp only[G.eObject,lnA,lcS,lnN,show∀y:G.Y,(G.eSymbol y).length=2 from lM]
theorem wN: ∀x:D0 3,(en0 3 x).length=sz0 3:=fun(x:G.T)=>by
 cases x;show(G.eTerm _).length=11;simp only[G.eTerm,lnA,lcS,lnN,show∀y:G.Y,(G.eSymbol y).length=2 from lM,show∀y:G.O,(G.eObject y).length=7 from len_2]
theorem len_4: ∀x:D0 4,(en0 4 x).length=sz0 4:=fun(x:G.F)=>by
 show(G.eFunction _).length=37;simp only[G.eFunction,lnA,lcS,lnN,show∀y:G.Y,(G.eSymbol y).length=2 from lM,show∀y:G.T,(G.eTerm y).length=11 from wN]
theorem len_5: ∀x:D0 5,(en0 5 x).length=sz0 5:=fun(x:G.A)=>by rfl
theorem len_6: ∀x:D0 6,(en0 6 x).length=sz0 6:=fun(x:G.M)=>by
 show(G.eMacro _).length=15;simp only[G.eMacro,lnA,lcS,lnN,show∀y:G.Y,(G.eSymbol y).length=2 from lM,show∀y:G.T,(G.eTerm y).length=11 from wN]
theorem len_7: ∀x:D0 7,(en0 7 x).length=sz0 7:=fun(x:G.D)=>by
 show(G.eField _).length=10;simp only[G.eField,lnA,lcS,lnN,show∀y:G.Y,(G.eSymbol y).length=2 from lM,show∀y:G.O,(G.eObject y).length=7 from len_2]
theorem len_8: ∀x:D0 8,(en0 8 x).length=sz0 8:=fun(x:G.B)=>by
 show(G.eStobj _).length=3;simp only[G.eStobj,lnA,lcS,lnN,show∀y:G.Y,(G.eSymbol y).length=2 from lM]
theorem len_9: ∀x:D0 9,(en0 9 x).length=sz0 9:=fun(x:G.I)=>by
 show(G.eAssign _).length=13;simp only[G.eAssign,lnA,lcS,lnN,show∀y:G.Y,(G.eSymbol y).length=2 from lM,show∀y:G.T,(G.eTerm y).length=11 from wN]
theorem len_10: ∀x:D0 10,(en0 10 x).length=sz0 10:=fun(x:G.C)=>by rfl
theorem len_11: ∀x:D0 11,(en0 11 x).length=sz0 11:=fun(x:G.J)=>by
 show(G.eLambda _).length=14;simp only[G.eLambda,lnA,lcS,lnN,show∀y:G.Y,(G.eSymbol y).length=2 from lM,show∀y:G.T,(G.eTerm y).length=11 from wN]
theorem len_12: ∀x:D0 12,(en0 12 x).length=sz0 12:=fun(x:G.N)=>by
 show(G.eLine _).length=33;simp only[G.eLine,lnA,lcS,lnN,show∀y:G.Y,(G.eSymbol y).length=2 from lM,show∀y:G.T,(G.eTerm y).length=11 from wN]
theorem len_13: ∀x:D0 13,(en0 13 x).length=sz0 13:=fun(x:G.Q)=>by
 show(G.ePairSymbol _).length=4;simp only[G.ePairSymbol,lnA,lcS,lnN,show∀y:G.Y,(G.eSymbol y).length=2 from lM]
theorem len_14: ∀x:D0 14,(en0 14 x).length=sz0 14:=fun(x:G.U)=>by
 show(G.eRule _).length=34;simp only[G.eRule,lnA,lcS,lnN,show∀y:G.Y,(G.eSymbol y).length=2 from lM,show∀y:G.T,(G.eTerm y).length=11 from wN]
theorem len_15: ∀x:D0 15,(en0 15 x).length=sz0 15:=fun(x:G.E)=>by
 cases x;show(G.eEntry _).length=32;simp only[G.eEntry,lnA,lcS,lnN,show∀y:G.Y,(G.eSymbol y).length=2 from lM,show∀y:G.A,(G.ePackage y).length=2 from len_5,show∀y:G.M,(G.eMacro y).length=15 from len_6,show∀y:G.B,(G.eStobj y).length=3 from len_8]
theorem len_16: ∀x:D0 16,(en0 16 x).length=sz0 16:=fun(x:G.L)=>by
 show(G.eLemma _).length=13;simp only[G.eLemma,lnA,lcS,lnN,show∀y:G.T,(G.eTerm y).length=11 from wN]
theorem len_17: ∀x:D0 17,(en0 17 x).length=sz0 17:=fun(x:G.X)=>by rfl
theorem len_18: ∀x:D0 18,(en0 18 x).length=sz0 18:=fun(x:G.K)=>by rfl
theorem len_19: ∀x:D0 19,(en0 19 x).length=sz0 19:=fun(x:G.P)=>by rfl
theorem len_20: ∀x:D0 20,(en0 20 x).length=sz0 20:=fun(x:G.V)=>by rfl
theorem len_21: ∀x:D0 21,(en0 21 x).length=sz0 21:=fun(x:G.R)=>by rfl
theorem len_22: ∀x:D0 22,(en0 22 x).length=sz0 22:=fun(x:G.W)=>by rfl
theorem len_23: ∀x:D0 23,(en0 23 x).length=sz0 23:=fun(x:G.S)=>by
 show(G.eBinding _).length=9;simp only[G.eBinding,lnA,lcS,lnN,show∀y:G.Y,(G.eSymbol y).length=2 from lM,show∀y:G.O,(G.eObject y).length=7 from len_2]
theorem len_24: ∀x:D0 24,(en0 24 x).length=sz0 24:=fun(x:G.Integer)=>by rfl
theorem len_25(k:Nat): ∀x:D0 (k+25),(en0 (k+25) x).length=sz0 (k+25):=fun(x:G.ErrorString)=>by rfl
theorem gAl:(∀(a b:List PV) (p:PV→Bool),(a++b).all p=(a.all p&&b.all p))∧(∀(a:PV) (l:List PV) (p:PV→Bool),(a::l).all p=(p a&&l.all p))∧(∀p:PV→Bool,([]:List PV).all p=true)∧(∀(z:Nat) (l:List PV),gd (cQ z l)=true)∧(∀x:Value,gd (.v x)=true)∧(∀s:List UInt8,gd (.str s)=true)∧(∀b:Bool,(b&&b)=b)∧∀b:Bool,(b&&true)=b:=⟨fun _ _ _=>List.all_append,fun _ _ _=>alC,fun _=>List.all_nil,bV,gd_v,gd_st,Bool.and_self,bnA⟩
theorem gd_0: ∀x:D0 0,(en0 0 x).all gd=true:=fun(x:G.Z)=>by
 show(G.eSource _).all gd=true;simp only[G.eSource,gAl]
theorem aCT: ∀x:D0 1,(en0 1 x).all gd=true:=fun(x:G.Y)=>by
 show(G.eSymbol _).all gd=true;simp only[G.eSymbol,gAl]
theorem gd_2: ∀x:D0 2,(en0 2 x).all gd=true:=fun(x:G.O)=>by
 cases x;show(G.eObject _).all gd=true;simp only[G.eObject,gAl,show∀y:G.Y,(G.eSymbol y).all gd=true from aCT]
theorem gd_3: ∀x:D0 3,(en0 3 x).all gd=true:=fun(x:G.T)=>by
 cases x;show(G.eTerm _).all gd=true;simp only[G.eTerm,gAl,show∀y:G.Y,(G.eSymbol y).all gd=true from aCT,show∀y:G.O,(G.eObject y).all gd=true from gd_2]
theorem gd_4: ∀x:D0 4,(en0 4 x).all gd=true:=fun(x:G.F)=>by
 show(G.eFunction _).all gd=true;simp only[G.eFunction,gAl,show∀y:G.Y,(G.eSymbol y).all gd=true from aCT,show∀y:G.T,(G.eTerm y).all gd=true from gd_3]
theorem gd_5: ∀x:D0 5,(en0 5 x).all gd=true:=fun(x:G.A)=>by
 show(G.ePackage _).all gd=true;simp only[G.ePackage,gAl]
theorem gd_6: ∀x:D0 6,(en0 6 x).all gd=true:=fun(x:G.M)=>by
 show(G.eMacro _).all gd=true;simp only[G.eMacro,gAl,show∀y:G.Y,(G.eSymbol y).all gd=true from aCT,show∀y:G.T,(G.eTerm y).all gd=true from gd_3]
theorem gd_7: ∀x:D0 7,(en0 7 x).all gd=true:=fun(x:G.D)=>by
 show(G.eField _).all gd=true;simp only[G.eField,gAl,show∀y:G.Y,(G.eSymbol y).all gd=true from aCT,show∀y:G.O,(G.eObject y).all gd=true from gd_2]
theorem gd_8: ∀x:D0 8,(en0 8 x).all gd=true:=fun(x:G.B)=>by
 show(G.eStobj _).all gd=true;simp only[G.eStobj,gAl,show∀y:G.Y,(G.eSymbol y).all gd=true from aCT]
theorem gd_9: ∀x:D0 9,(en0 9 x).all gd=true:=fun(x:G.I)=>by
 show(G.eAssign _).all gd=true;simp only[G.eAssign,gAl,show∀y:G.Y,(G.eSymbol y).all gd=true from aCT,show∀y:G.T,(G.eTerm y).all gd=true from gd_3]
theorem gd_10: ∀x:D0 10,(en0 10 x).all gd=true:=fun(x:G.C)=>by
 show(G.eCase _).all gd=true;simp only[G.eCase,gAl]
theorem gd_11: ∀x:D0 11,(en0 11 x).all gd=true:=fun(x:G.J)=>by
 show(G.eLambda _).all gd=true;simp only[G.eLambda,gAl,show∀y:G.Y,(G.eSymbol y).all gd=true from aCT,show∀y:G.T,(G.eTerm y).all gd=true from gd_3]
theorem gd_12: ∀x:D0 12,(en0 12 x).all gd=true:=fun(x:G.N)=>by
 show(G.eLine _).all gd=true;simp only[G.eLine,gAl,show∀y:G.Y,(G.eSymbol y).all gd=true from aCT,show∀y:G.T,(G.eTerm y).all gd=true from gd_3]
theorem gd_13: ∀x:D0 13,(en0 13 x).all gd=true:=fun(x:G.Q)=>by
 show(G.ePairSymbol _).all gd=true;simp only[G.ePairSymbol,gAl,show∀y:G.Y,(G.eSymbol y).all gd=true from aCT]
theorem gd_14: ∀x:D0 14,(en0 14 x).all gd=true:=fun(x:G.U)=>by
 show(G.eRule _).all gd=true;simp only[G.eRule,gAl,show∀y:G.Y,(G.eSymbol y).all gd=true from aCT,show∀y:G.T,(G.eTerm y).all gd=true from gd_3]
theorem gd_15: ∀x:D0 15,(en0 15 x).all gd=true:=fun(x:G.E)=>by
 cases x;show(G.eEntry _).all gd=true;simp only[G.eEntry,gAl,show∀y:G.Y,(G.eSymbol y).all gd=true from aCT,show∀y:G.A,(G.ePackage y).all gd=true from gd_5,show∀y:G.M,(G.eMacro y).all gd=true from gd_6,show∀y:G.B,(G.eStobj y).all gd=true from gd_8]
theorem gd_16: ∀x:D0 16,(en0 16 x).all gd=true:=fun(x:G.L)=>by
 show(G.eLemma _).all gd=true;simp only[G.eLemma,gAl,show∀y:G.T,(G.eTerm y).all gd=true from gd_3]
theorem gd_17: ∀x:D0 17,(en0 17 x).all gd=true:=fun(x:G.X)=>by
 show(G.eSourceError _).all gd=true;simp only[G.eSourceError,gAl]
theorem gd_18: ∀x:D0 18,(en0 18 x).all gd=true:=fun(x:G.K)=>by
 show(G.eToken _).all gd=true;simp only[G.eToken,gAl]
theorem gd_19: ∀x:D0 19,(en0 19 x).all gd=true:=fun(x:G.P)=>by
 show(G.eParser _).all gd=true;simp only[G.eParser,gAl]
theorem gd_20: ∀x:D0 20,(en0 20 x).all gd=true:=fun(x:G.V)=>by
 show(G.eTranslator _).all gd=true;simp only[G.eTranslator,gAl]
theorem gd_21: ∀x:D0 21,(en0 21 x).all gd=true:=fun(x:G.R)=>by
 show(G.eRow _).all gd=true;simp only[G.eRow,gAl]
theorem gd_22: ∀x:D0 22,(en0 22 x).all gd=true:=fun(x:G.W)=>by
 show(G.eEvaluator _).all gd=true;simp only[G.eEvaluator,gAl]
theorem gd_23: ∀x:D0 23,(en0 23 x).all gd=true:=fun(x:G.S)=>by
 show(G.eBinding _).all gd=true;simp only[G.eBinding,gAl,show∀y:G.Y,(G.eSymbol y).all gd=true from aCT,show∀y:G.O,(G.eObject y).all gd=true from gd_2]
theorem gd_24: ∀x:D0 24,(en0 24 x).all gd=true:=fun(x:G.Integer)=>by
 show(G.eInteger _).all gd=true;simp only[G.eInteger,gAl]
theorem gd_25(k:Nat): ∀x:D0 (k+25),(en0 (k+25) x).all gd=true:=fun(x:G.ErrorString)=>by
 show(G.eErrorString _).all gd=true;simp only[G.eErrorString,gAl]
def eN:=And.intro G.lSource_map (And.intro G.lSymbol_map (And.intro G.lObject_map (And.intro G.lTerm_map (And.intro G.lFunction_map (And.intro G.lPackage_map (And.intro G.lMacro_map (And.intro G.lField_map (And.intro G.lStobj_map (And.intro G.lAssign_map (And.intro G.lCase_map (And.intro G.lLambda_map (And.intro G.lLine_map (And.intro G.lPairSymbol_map (And.intro G.lRule_map (And.intro G.lEntry_map (And.intro G.lLemma_map (And.intro G.lSourceError_map (And.intro G.lToken_map (And.intro G.lParser_map (And.intro G.lTranslator_map (And.intro G.lRow_map (And.intro G.lEvaluator_map (And.intro G.lBinding_map (And.intro G.lInteger_map G.lErrorString_map))))))))))))))))))))))))
theorem enl_0: ∀x:D0 0,en0 0 x=(un0 0 x).flatMap fun v=>(enV U0 v.t v.x).cells:=fun(x:G.Z)=>by
 show G.eSource _=_;simp only[G.eSource,un0,fmC,fmN,enV,aZ,bJ,aY,bA,apN,apA,sgA,cnA,nlA,szT,U0,sz0,en0,eN]
 try rfl
theorem enl_1: ∀x:D0 1,en0 1 x=(un0 1 x).flatMap fun v=>(enV U0 v.t v.x).cells:=fun(x:G.Y)=>by
 show G.eSymbol _=_;simp only[G.eSymbol,un0,fmC,fmN,enV,aZ,bJ,aY,bA,apN,apA,sgA,cnA,nlA,szT,U0,sz0,en0,eN]
 try rfl
theorem enl_2: ∀x:D0 2,en0 2 x=(un0 2 x).flatMap fun v=>(enV U0 v.t v.x).cells:=fun(x:G.O)=>by
 cases x;show G.eObject _=_;simp only[G.eObject,un0,fmC,fmN,enV,aZ,bJ,aY,bA,apN,apA,sgA,cnA,nlA,szT,U0,sz0,en0,eN,G.O.kind,G.O.num,G.O.den,G.O.sym,G.O.text,G.O.pair]
 try rfl
theorem enl_3: ∀x:D0 3,en0 3 x=(un0 3 x).flatMap fun v=>(enV U0 v.t v.x).cells:=fun(x:G.T)=>by
 cases x;show G.eTerm _=_;simp only[G.eTerm,un0,fmC,fmN,enV,aZ,bJ,aY,bA,apN,apA,sgA,cnA,nlA,szT,U0,sz0,en0,eN,G.T.kind,G.T.name,G.T.value,G.T.args]
 try rfl
theorem enl_4: ∀x:D0 4,en0 4 x=(un0 4 x).flatMap fun v=>(enV U0 v.t v.x).cells:=fun(x:G.F)=>by
 show G.eFunction _=_;simp only[G.eFunction,un0,fmC,fmN,enV,aZ,bJ,aY,bA,apN,apA,sgA,cnA,nlA,szT,U0,sz0,en0,eN]
 try rfl
theorem enl_5: ∀x:D0 5,en0 5 x=(un0 5 x).flatMap fun v=>(enV U0 v.t v.x).cells:=fun(x:G.A)=>by
 show G.ePackage _=_;simp only[G.ePackage,un0,fmC,fmN,enV,aZ,bJ,aY,bA,apN,apA,sgA,cnA,nlA,szT,U0,sz0,en0,eN]
 try rfl
theorem enl_6: ∀x:D0 6,en0 6 x=(un0 6 x).flatMap fun v=>(enV U0 v.t v.x).cells:=fun(x:G.M)=>by
 show G.eMacro _=_;simp only[G.eMacro,un0,fmC,fmN,enV,aZ,bJ,aY,bA,apN,apA,sgA,cnA,nlA,szT,U0,sz0,en0,eN]
 try rfl
theorem enl_7: ∀x:D0 7,en0 7 x=(un0 7 x).flatMap fun v=>(enV U0 v.t v.x).cells:=fun(x:G.D)=>by
 show G.eField _=_;simp only[G.eField,un0,fmC,fmN,enV,aZ,bJ,aY,bA,apN,apA,sgA,cnA,nlA,szT,U0,sz0,en0,eN]
 try rfl
theorem enl_8: ∀x:D0 8,en0 8 x=(un0 8 x).flatMap fun v=>(enV U0 v.t v.x).cells:=fun(x:G.B)=>by
 show G.eStobj _=_;simp only[G.eStobj,un0,fmC,fmN,enV,aZ,bJ,aY,bA,apN,apA,sgA,cnA,nlA,szT,U0,sz0,en0,eN]
 try rfl
theorem enl_9: ∀x:D0 9,en0 9 x=(un0 9 x).flatMap fun v=>(enV U0 v.t v.x).cells:=fun(x:G.I)=>by
 show G.eAssign _=_;simp only[G.eAssign,un0,fmC,fmN,enV,aZ,bJ,aY,bA,apN,apA,sgA,cnA,nlA,szT,U0,sz0,en0,eN]
 try rfl
theorem enl_10: ∀x:D0 10,en0 10 x=(un0 10 x).flatMap fun v=>(enV U0 v.t v.x).cells:=fun(x:G.C)=>by
 show G.eCase _=_;simp only[G.eCase,un0,fmC,fmN,enV,aZ,bJ,aY,bA,apN,apA,sgA,cnA,nlA,szT,U0,sz0,en0,eN]
 try rfl
theorem enl_11: ∀x:D0 11,en0 11 x=(un0 11 x).flatMap fun v=>(enV U0 v.t v.x).cells:=fun(x:G.J)=>by
 show G.eLambda _=_;simp only[G.eLambda,un0,fmC,fmN,enV,aZ,bJ,aY,bA,apN,apA,sgA,cnA,nlA,szT,U0,sz0,en0,eN]
 try rfl
theorem enl_12: ∀x:D0 12,en0 12 x=(un0 12 x).flatMap fun v=>(enV U0 v.t v.x).cells:=fun(x:G.N)=>by
 show G.eLine _=_;simp only[G.eLine,un0,fmC,fmN,enV,aZ,bJ,aY,bA,apN,apA,sgA,cnA,nlA,szT,U0,sz0,en0,eN]
 try rfl
theorem enl_13: ∀x:D0 13,en0 13 x=(un0 13 x).flatMap fun v=>(enV U0 v.t v.x).cells:=fun(x:G.Q)=>by
 show G.ePairSymbol _=_;simp only[G.ePairSymbol,un0,fmC,fmN,enV,aZ,bJ,aY,bA,apN,apA,sgA,cnA,nlA,szT,U0,sz0,en0,eN]
 try rfl
theorem enl_14: ∀x:D0 14,en0 14 x=(un0 14 x).flatMap fun v=>(enV U0 v.t v.x).cells:=fun(x:G.U)=>by
 show G.eRule _=_;simp only[G.eRule,un0,fmC,fmN,enV,aZ,bJ,aY,bA,apN,apA,sgA,cnA,nlA,szT,U0,sz0,en0,eN]
 try rfl
theorem enl_15: ∀x:D0 15,en0 15 x=(un0 15 x).flatMap fun v=>(enV U0 v.t v.x).cells:=fun(x:G.E)=>by
 cases x;show G.eEntry _=_;simp only[G.eEntry,un0,fmC,fmN,enV,aZ,bJ,aY,bA,apN,apA,sgA,cnA,nlA,szT,U0,sz0,en0,eN,G.E.kind,G.E.name,G.E.package,G.E.mac,G.E.functions,G.E.formulas,G.E.logs,G.E.locl,G.E.stobj,G.E.rules,G.E.enabled,G.E.disabled,G.E.text,G.E.hash]
 try rfl
theorem enl_16: ∀x:D0 16,en0 16 x=(un0 16 x).flatMap fun v=>(enV U0 v.t v.x).cells:=fun(x:G.L)=>by
 show G.eLemma _=_;simp only[G.eLemma,un0,fmC,fmN,enV,aZ,bJ,aY,bA,apN,apA,sgA,cnA,nlA,szT,U0,sz0,en0,eN]
 try rfl
theorem enl_17: ∀x:D0 17,en0 17 x=(un0 17 x).flatMap fun v=>(enV U0 v.t v.x).cells:=fun(x:G.X)=>by
 show G.eSourceError _=_;simp only[G.eSourceError,un0,fmC,fmN,enV,aZ,bJ,aY,bA,apN,apA,sgA,cnA,nlA,szT,U0,sz0,en0,eN]
 try rfl
theorem enl_18: ∀x:D0 18,en0 18 x=(un0 18 x).flatMap fun v=>(enV U0 v.t v.x).cells:=fun(x:G.K)=>by
 show G.eToken _=_;simp only[G.eToken,un0,fmC,fmN,enV,aZ,bJ,aY,bA,apN,apA,sgA,cnA,nlA,szT,U0,sz0,en0,eN]
 try rfl
theorem enl_19: ∀x:D0 19,en0 19 x=(un0 19 x).flatMap fun v=>(enV U0 v.t v.x).cells:=fun(x:G.P)=>by
 show G.eParser _=_;simp only[G.eParser,un0,fmC,fmN,enV,aZ,bJ,aY,bA,apN,apA,sgA,cnA,nlA,szT,U0,sz0,en0,eN]
 try rfl
theorem enl_20: ∀x:D0 20,en0 20 x=(un0 20 x).flatMap fun v=>(enV U0 v.t v.x).cells:=fun(x:G.V)=>by
 show G.eTranslator _=_;simp only[G.eTranslator,un0,fmC,fmN,enV,aZ,bJ,aY,bA,apN,apA,sgA,cnA,nlA,szT,U0,sz0,en0,eN]
 try rfl
theorem enl_21: ∀x:D0 21,en0 21 x=(un0 21 x).flatMap fun v=>(enV U0 v.t v.x).cells:=fun(x:G.R)=>by
 show G.eRow _=_;simp only[G.eRow,un0,fmC,fmN,enV,aZ,bJ,aY,bA,apN,apA,sgA,cnA,nlA,szT,U0,sz0,en0,eN]
 try rfl
theorem enl_22: ∀x:D0 22,en0 22 x=(un0 22 x).flatMap fun v=>(enV U0 v.t v.x).cells:=fun(x:G.W)=>by
 show G.eEvaluator _=_;simp only[G.eEvaluator,un0,fmC,fmN,enV,aZ,bJ,aY,bA,apN,apA,sgA,cnA,nlA,szT,U0,sz0,en0,eN]
 try rfl
theorem enl_23: ∀x:D0 23,en0 23 x=(un0 23 x).flatMap fun v=>(enV U0 v.t v.x).cells:=fun(x:G.S)=>by
 show G.eBinding _=_;simp only[G.eBinding,un0,fmC,fmN,enV,aZ,bJ,aY,bA,apN,apA,sgA,cnA,nlA,szT,U0,sz0,en0,eN]
 try rfl
theorem enl_24: ∀x:D0 24,en0 24 x=(un0 24 x).flatMap fun v=>(enV U0 v.t v.x).cells:=fun(x:G.Integer)=>by
 show G.eInteger _=_;simp only[G.eInteger,un0,fmC,fmN,enV,aZ,bJ,aY,bA,apN,apA,sgA,cnA,nlA,szT,U0,sz0,en0,eN]
 try rfl
theorem enl_25(k:Nat): ∀x:D0 (k+25),en0 (k+25) x=(un0 (k+25) x).flatMap fun v=>(enV U0 v.t v.x).cells:=fun(x:G.ErrorString)=>by
 show G.eErrorString _=_;simp only[G.eErrorString,un0,fmC,fmN,enV,aZ,bJ,aY,bA,apN,apA,sgA,cnA,nlA,szT,U0,sz0,en0,eN]
 try rfl
theorem recOK:eR U0 where
 eqc:=by
  intro n f x h
  match n,f,x,h with
  |0,f,x,h=>cases h
  |1,f,x,h=>cases h;rfl
  |2,f,x,h=>cases h
  |3,f,x,h=>cases h
  |4,f,x,h=>cases h
  |5,f,x,h=>cases h
  |6,f,x,h=>cases h
  |7,f,x,h=>cases h
  |8,f,x,h=>cases h
  |9,f,x,h=>cases h
  |10,f,x,h=>cases h
  |11,f,x,h=>cases h
  |12,f,x,h=>cases h
  |13,f,x,h=>cases h
  |14,f,x,h=>cases h
  |15,f,x,h=>cases h
  |16,f,x,h=>cases h
  |17,f,x,h=>cases h
  |18,f,x,h=>cases h
  |19,f,x,h=>cases h
  |20,f,x,h=>cases h
  |21,f,x,h=>cases h
  |22,f,x,h=>cases h
  |23,f,x,h=>cases h
  |24,f,x,h=>cases h
  |k+25,f,x,h=>cases h
 ty:=fun n=>match n with|0=>fun _=>rfl|1=>fun _=>rfl|2=>fun _=>rfl|3=>fun _=>rfl|4=>fun _=>rfl|5=>fun _=>rfl|6=>fun _=>rfl|7=>fun _=>rfl|8=>fun _=>rfl|9=>fun _=>rfl|10=>fun _=>rfl|11=>fun _=>rfl|12=>fun _=>rfl|13=>fun _=>rfl|14=>fun _=>rfl|15=>fun _=>rfl|16=>fun _=>rfl|17=>fun _=>rfl|18=>fun _=>rfl|19=>fun _=>rfl|20=>fun _=>rfl|21=>fun _=>rfl|22=>fun _=>rfl|23=>fun _=>rfl|24=>fun _=>rfl|k+25=>fun _=>rfl
 un_of:=by
  intro n l x h
  match n,x,h with
  |0,x,h=>
   simp only[U0,of0]at h;split at h
   ·rename_i r hr;cases h;exact aS hr
   ·cases h
  |1,x,h=>
   simp only[U0,of0]at h;split at h
   ·rename_i r hr;cases h;exact aS hr
   ·cases h
  |2,x,h=>
   simp only[U0,of0]at h;split at h
   ·rename_i r hr;cases h;exact aS hr
   ·cases h
  |3,x,h=>
   simp only[U0,of0]at h;split at h
   ·rename_i r hr;cases h;exact aS hr
   ·cases h
  |4,x,h=>
   simp only[U0,of0]at h;split at h
   ·rename_i r hr;cases h;exact aS hr
   ·cases h
  |5,x,h=>
   simp only[U0,of0]at h;split at h
   ·rename_i r hr;cases h;exact aS hr
   ·cases h
  |6,x,h=>
   simp only[U0,of0]at h;split at h
   ·rename_i r hr;cases h;exact aS hr
   ·cases h
  |7,x,h=>
   simp only[U0,of0]at h;split at h
   ·rename_i r hr;cases h;exact aS hr
   ·cases h
  |8,x,h=>
   simp only[U0,of0]at h;split at h
   ·rename_i r hr;cases h;exact aS hr
   ·cases h
  |9,x,h=>
   simp only[U0,of0]at h;split at h
   ·rename_i r hr;cases h;exact aS hr
   ·cases h
  |10,x,h=>
   simp only[U0,of0]at h;split at h
   ·rename_i r hr;cases h;exact aS hr
   ·cases h
  |11,x,h=>
   simp only[U0,of0]at h;split at h
   ·rename_i r hr;cases h;exact aS hr
   ·cases h
  |12,x,h=>
   simp only[U0,of0]at h;split at h
   ·rename_i r hr;cases h;exact aS hr
   ·cases h
  |13,x,h=>
   simp only[U0,of0]at h;split at h
   ·rename_i r hr;cases h;exact aS hr
   ·cases h
  |14,x,h=>
   simp only[U0,of0]at h;split at h
   ·rename_i r hr;cases h;exact aS hr
   ·cases h
  |15,x,h=>
   simp only[U0,of0]at h;split at h
   ·rename_i r hr;cases h;exact aS hr
   ·cases h
  |16,x,h=>
   simp only[U0,of0]at h;split at h
   ·rename_i r hr;cases h;exact aS hr
   ·cases h
  |17,x,h=>
   simp only[U0,of0]at h;split at h
   ·rename_i r hr;cases h;exact aS hr
   ·cases h
  |18,x,h=>
   simp only[U0,of0]at h;split at h
   ·rename_i r hr;cases h;exact aS hr
   ·cases h
  |19,x,h=>
   simp only[U0,of0]at h;split at h
   ·rename_i r hr;cases h;exact aS hr
   ·cases h
  |20,x,h=>
   simp only[U0,of0]at h;split at h
   ·rename_i r hr;cases h;exact aS hr
   ·cases h
  |21,x,h=>
   simp only[U0,of0]at h;split at h
   ·rename_i r hr;cases h;exact aS hr
   ·cases h
  |22,x,h=>
   simp only[U0,of0]at h;split at h
   ·rename_i r hr;cases h;exact aS hr
   ·cases h
  |23,x,h=>
   simp only[U0,of0]at h;split at h
   ·rename_i r hr;cases h;exact aS hr
   ·cases h
  |24,x,h=>
   simp only[U0,of0]at h;split at h
   ·rename_i r hr;cases h;exact aS hr
   ·cases h
  |k+25,x,h=>
   simp only[U0,of0]at h;split at h
   ·rename_i r hr;cases h;exact aS hr
   ·cases h
 en:=fun n=>match n with|0=>enl_0|1=>enl_1|2=>enl_2|3=>enl_3|4=>enl_4|5=>enl_5|6=>enl_6|7=>enl_7|8=>enl_8|9=>enl_9|10=>enl_10|11=>enl_11|12=>enl_12|13=>enl_13|14=>enl_14|15=>enl_15|16=>enl_16|17=>enl_17|18=>enl_18|19=>enl_19|20=>enl_20|21=>enl_21|22=>enl_22|23=>enl_23|24=>enl_24|k+25=>enl_25 k
 len:=fun n=>match n with|0=>len_0|1=>lM|2=>len_2|3=>wN|4=>len_4|5=>len_5|6=>len_6|7=>len_7|8=>len_8|9=>len_9|10=>len_10|11=>len_11|12=>len_12|13=>len_13|14=>len_14|15=>len_15|16=>len_16|17=>len_17|18=>len_18|19=>len_19|20=>len_20|21=>len_21|22=>len_22|23=>len_23|24=>len_24|k+25=>len_25 k
 sz:=fun n=>match n with|0=>by kernel_rfl|1=>by kernel_rfl|2=>by kernel_rfl|3=>by kernel_rfl|4=>by kernel_rfl|5=>by kernel_rfl|6=>by kernel_rfl|7=>by kernel_rfl|8=>by kernel_rfl|9=>by kernel_rfl|10=>by kernel_rfl|11=>by kernel_rfl|12=>by kernel_rfl|13=>by kernel_rfl|14=>by kernel_rfl|15=>by kernel_rfl|16=>by kernel_rfl|17=>by kernel_rfl|18=>by kernel_rfl|19=>by kernel_rfl|20=>by kernel_rfl|21=>by kernel_rfl|22=>by kernel_rfl|23=>by kernel_rfl|24=>by kernel_rfl|k+25=>by kernel_rfl
 zc:=fun n=>match n with|0=>by kernel_rfl|1=>by kernel_rfl|2=>by kernel_rfl|3=>by kernel_rfl|4=>by kernel_rfl|5=>by kernel_rfl|6=>by kernel_rfl|7=>by kernel_rfl|8=>by kernel_rfl|9=>by kernel_rfl|10=>by kernel_rfl|11=>by kernel_rfl|12=>by kernel_rfl|13=>by kernel_rfl|14=>by kernel_rfl|15=>by kernel_rfl|16=>by kernel_rfl|17=>by kernel_rfl|18=>by kernel_rfl|19=>by kernel_rfl|20=>by kernel_rfl|21=>by kernel_rfl|22=>by kernel_rfl|23=>by kernel_rfl|24=>by kernel_rfl|k+25=>by kernel_rfl
 nz:=fun n=>match n with|0=>by kernel_rfl|1=>by kernel_rfl|2=>by kernel_rfl|3=>by kernel_rfl|4=>by kernel_rfl|5=>by kernel_rfl|6=>by kernel_rfl|7=>by kernel_rfl|8=>by kernel_rfl|9=>by kernel_rfl|10=>by kernel_rfl|11=>by kernel_rfl|12=>by kernel_rfl|13=>by kernel_rfl|14=>by kernel_rfl|15=>by kernel_rfl|16=>by kernel_rfl|17=>by kernel_rfl|18=>by kernel_rfl|19=>by kernel_rfl|20=>by kernel_rfl|21=>by kernel_rfl|22=>by kernel_rfl|23=>by kernel_rfl|24=>by kernel_rfl|k+25=>by kernel_rfl
 zero:=fun n=>match n with|0=>by kernel_rfl|1=>by kernel_rfl|2=>by kernel_rfl|3=>by kernel_rfl|4=>by kernel_rfl|5=>by kernel_rfl|6=>by kernel_rfl|7=>by kernel_rfl|8=>by kernel_rfl|9=>by kernel_rfl|10=>by kernel_rfl|11=>by kernel_rfl|12=>by kernel_rfl|13=>by kernel_rfl|14=>by kernel_rfl|15=>by kernel_rfl|16=>by kernel_rfl|17=>by kernel_rfl|18=>by kernel_rfl|19=>by kernel_rfl|20=>by kernel_rfl|21=>by kernel_rfl|22=>by kernel_rfl|23=>by kernel_rfl|24=>by kernel_rfl|k+25=>by kernel_rfl
 lt:=fun n=>match n with|0=>by kernel_rfl|1=>by kernel_rfl|2=>by kernel_rfl|3=>by kernel_rfl|4=>by kernel_rfl|5=>by kernel_rfl|6=>by kernel_rfl|7=>by kernel_rfl|8=>by kernel_rfl|9=>by kernel_rfl|10=>by kernel_rfl|11=>by kernel_rfl|12=>by kernel_rfl|13=>by kernel_rfl|14=>by kernel_rfl|15=>by kernel_rfl|16=>by kernel_rfl|17=>by kernel_rfl|18=>by kernel_rfl|19=>by kernel_rfl|20=>by kernel_rfl|21=>by kernel_rfl|22=>by kernel_rfl|23=>by kernel_rfl|24=>by kernel_rfl|k+25=>by kernel_rfl
 ltl:=fun n=>match n with|0=>by kernel_rfl|1=>by kernel_rfl|2=>by kernel_rfl|3=>by kernel_rfl|4=>by kernel_rfl|5=>by kernel_rfl|6=>by kernel_rfl|7=>by kernel_rfl|8=>by kernel_rfl|9=>by kernel_rfl|10=>by kernel_rfl|11=>by kernel_rfl|12=>by kernel_rfl|13=>by kernel_rfl|14=>by kernel_rfl|15=>by kernel_rfl|16=>by kernel_rfl|17=>by kernel_rfl|18=>by kernel_rfl|19=>by kernel_rfl|20=>by kernel_rfl|21=>by kernel_rfl|22=>by kernel_rfl|23=>by kernel_rfl|24=>by kernel_rfl|k+25=>by kernel_rfl
 gd:=fun n=>match n with|0=>gd_0|1=>aCT|2=>gd_2|3=>gd_3|4=>gd_4|5=>gd_5|6=>gd_6|7=>gd_7|8=>gd_8|9=>gd_9|10=>gd_10|11=>gd_11|12=>gd_12|13=>gd_13|14=>gd_14|15=>gd_15|16=>gd_16|17=>gd_17|18=>gd_18|19=>gd_19|20=>gd_20|21=>gd_21|22=>gd_22|23=>gd_23|24=>gd_24|k+25=>gd_25 k
 pos:=fun n=>match n with|0=>by show 1≤2;omega|1=>by show 1≤2;omega|2=>by show 1≤7;omega|3=>by show 1≤11;omega|4=>by show 1≤37;omega|5=>by show 1≤2;omega|6=>by show 1≤15;omega|7=>by show 1≤10;omega|8=>by show 1≤3;omega|9=>by show 1≤13;omega|10=>by show 1≤2;omega|11=>by show 1≤14;omega|12=>by show 1≤33;omega|13=>by show 1≤4;omega|14=>by show 1≤34;omega|15=>by show 1≤32;omega|16=>by show 1≤13;omega|17=>by show 1≤2;omega|18=>by show 1≤5;omega|19=>by show 1≤4;omega|20=>by show 1≤3;omega|21=>by show 1≤2;omega|22=>by show 1≤2;omega|23=>by show 1≤9;omega|24=>by show 1≤2;omega|k+25=>by show 1≤1;omega
end Go.TV
namespace Go.AI
section
variable{P:Program}
theorem aFv{α:Type}{c:Prop}[Decidable c]{a b:Sem α}:aP P (if c then a else b)=if c then aP P a else aP P b:=by split<;>rfl
theorem oX{d:Nat}{t:TypeId}{fs:Array Field}{xs ys:Array Value}(ht:P.underlying t=some (.struct fs))(hp:P.stoodInHeld t=false):
    aP P (Op.equalIn (d+1) t (.agg xs) (.agg ys))=aP P (Op.eqFields d xs ys fs.toList):=by
 rw[Op.equalIn.eq_2,aA,aD,ht];simp only[obS];rw[aA];have:aP P program=some P:=rfl;rw[this];simp only[obS,hp,Bool.false_eq_true,if_false];rw[←Array.forIn_toList];generalize fs.toList=l;clear ht;induction l with
 |nil=>simp[Op.eqFields,aA,aB]
 |cons f l ih=>
  simp only[List.forIn_cons,Op.eqFields,aA,aFv];split
  ·cases aP P (part f.type xs f.offset)with
   |none=>rfl
   |some a=>
    cases aP P (part f.type ys f.offset)with
    |none=>rfl
    |some b=>
     simp only[obS];cases aP P (Op.equalIn d f.type a b)with
     |none=>rfl
     |some r=>
      cases r with
      |false=>simp[aB]
      |true=>
       simp only[obS,bnT,Bool.false_eq_true,if_false,aB];simpa only[aA]using ih
  ·simp only[aB,obS];simpa only[aA]using ih
theorem abin_eql{t:TypeId}{x y:Operand}{xs ys:Array Value}{r:Bool}(h1:xs.toList.all aC=true)(h2:ys.toList.all aC=true)(hg:aP P (eqGuard .eql t x y (.agg xs) (.agg ys))=some ())(he:aP P (Op.equal t (.agg xs) (.agg ys))=some r):
    gM P .eql t x y (.agg xs) (.agg ys)=some (.bool r):=by
 simp only[gM,aM,h1,h2,Bool.and_self,cdt,aR,aA,hg,obS,binOp,he,aB,aC]
theorem abin_neq{t:TypeId}{x y:Operand}{xs ys:Array Value}{r:Bool}(h1:xs.toList.all aC=true)(h2:ys.toList.all aC=true)(hg:aP P (eqGuard .neq t x y (.agg xs) (.agg ys))=some ())(he:aP P (Op.equal t (.agg xs) (.agg ys))=some r):
    gM P .neq t x y (.agg xs) (.agg ys)=some (.bool (!r)):=by
 simp only[gM,aM,h1,h2,Bool.and_self,cdt,aR,aA,hg,obS,binOp,he,aB,aC]
end
end Go.AI
namespace Go.TV
open Go.AI Go.PI
def aGQ:List (Nat×Ty)→Nat→Option Ty
 |[],_=>none
 |(k,t)::l,i=>bif Nat.beq k i then some t else aGQ l i
theorem pS: ∀{l:List (Nat×Ty)} {i:Nat} {t:Ty},aGQ l i=some t→(i,t)∈l
 |(k,t)::l,i,u,h=>by
  unfold aGQ at h;cases hb:Nat.beq k i with
  |true=>rw[hb]at h;cases h;rw[nqE hb];exact mhE ..
  |false=>rw[hb]at h;exact mtE _ (pS h)
def findN:List (Nat×Nat)→Nat→Option Nat
 |[],_=>none
 |(k,t)::l,i=>bif Nat.beq k i then some t else findN l i
def eqPl:List (Nat×Nat)→List (Nat×Nat)→Bool
 |[],[]=>true
 |(a,b)::l,(c,d)::r=>Nat.beq a c&&Nat.beq b d&&eqPl l r
 |_,_=>false
theorem aGW: ∀{l r:List (Nat×Nat)},eqPl l r=true→l=r
 |[],[],_=>rfl
 |(a,b)::l,(c,d)::r,h=>by
  simp only[eqPl,bjE,cG,djE]at h;rw[h.1.1,h.1.2,aGW h.2]
 |[],_::_,h=>by cases h
 |_::_,[],h=>by cases h
section
variable(P:Program)(T:TP U0.D)
def okFs:List Field→List Ty→Nat→Bool
 |[],[],_=>true
 |f::fs,t::ts,o=>(match T.T.ty f.type with|some u=>u.beq t|none=>false)&&Nat.beq f.offset o&&okFs fs ts (o+szT U0 t)
 |_,_,_=>false
def okUn(id:Nat)(t:Ty):Bool:=
 match t,P.underlying id with
 | .int k,some (.int j)=>decide (k=j)
 | .bool,some .bool=>true
 | .str,some .string=>true
 | .sl e,some (.slice i)=>(match T.T.ty i with|some u=>u.beq e|none=>false)&&(match T.el id with|some j=>Nat.beq i j|none=>false)
 | .rc n,some (.struct fs)=>okFs T fs.toList (U0.fs n) 0&&(match aP P (fs.mapM fun f=>do pure (f.offset,←Go.sizeOf f.type))with|some pl=>eqPl pl.toList (plcT U0 (U0.fs n) 0)|none=>false)
 | .rc n,_=>T.T.arr id
 |_,_=>false
def wI(x:Nat×Ty):Bool:=
 (match jH P x.1 with|some b=>(b==mE x.2)|none=>false)&&
 (match iT P x.1 with|some n=>Nat.beq n (szT U0 x.2)|none=>false)&&
 (match zeroCells P x.1 with|some z=>eqZ z (zcT U0 x.2)|none=>false)&&
 okUn P T x.1 x.2&&
 (match P.info? x.1 with
  |some i=>Nat.beq i.size (szT U0 x.2)&&Nat.beq i.bytes (T.T.by' x.1)&&Nat.ble 1 i.bytes&&(match i.zero with|some z=>Nat.beq z.cells.size i.size&&eqZ (ofVs z.cells.toList) (zcT U0 x.2)&&z.cells.toList.all aC|none=>false)
  |none=>false)
def okFn(id:Nat):Bool:=
 (match jH P id with|some b=> !b|none=>false)&&(match iT P id with|some n=>Nat.beq n 1|none=>false)&&(match zeroCells P id with|some z=>eqZ z [.v .nilFunc]|none=>false)
variable{P T}
theorem aGk: ∀{fs:List Field} {ts:List Ty} {o:Nat},okFs T fs ts o=true→fs.length=ts.length∧∀i f,fs[i]?=some f→T.T.ty f.type=ts[i]?∧f.offset=o+cI U0 (ts.take i)
 |[],[],o,_=>⟨rfl,fun i f h=>by simp at h⟩
 |f::fs,t::ts,o,h=>by
  simp only[okFs,bjE,cG,djE]at h;obtain⟨⟨h1,h2⟩,h3⟩:=h;obtain⟨g1,g2⟩:=aGk h3;refine⟨by rw[lcS,lcS,g1],fun i f' hf=>?_⟩
  cases i with
  |zero=>
   simp only[gcZ,ojE]at hf;subst hf;refine⟨?_,by rw[h2];simp[cI]⟩
   cases hu:T.T.ty f.type with
   |none=>rw[hu]at h1;cases h1
   |some u=>rw[hu]at h1;rw[Ty.beq_eq h1];rfl
  |succ i=>
   rw[gcS]at hf;obtain⟨k1,k2⟩:=g2 i f' hf;refine⟨by rw[k1,gcS],by rw[k2,List.take_succ_cons,cI,Nat.add_assoc]⟩
 |[],_::_,_,h=>by cases h
 |_::_,[],_,h=>by cases h
def okAr(P:Program)(T:TP U0.D)(id:TypeId):Bool:=match T.T.ty id with
 |some (.rc n)=>(match P.underlying id with
  |some (.array len e)=>(match U0.fs n with
   |te::_=>(match iT P e with|some z=>Nat.beq z (szT U0 te)|none=>false)&&Nat.beq (U0.fs n).length len&&(U0.fs n).all fun t=>t.beq te
   |[]=>false)
  |_=>false)
 |_=>true
theorem rep_of{te:Ty}: ∀{l:List Ty},(l.all fun t=>t.beq te)=true→l=List.replicate l.length te
 |[],_=>rfl
 |t::l,h=>by
  simp only[alC,bjE]at h;rw[lcS,List.replicate_succ,←rep_of h.2,Ty.beq_eq h.1]
theorem okAr_ok{P:Program}{T:TP U0.D}{id:TypeId}{n:Nat}(h:okAr P T id=true)(ht:T.T.ty id=some (.rc n)): ∃len e te,P.underlying id=some (.array len e)∧iT P e=some (szT U0 te)∧U0.fs n=List.replicate len te:=by
 unfold okAr at h;rw[ht]at h;simp only at h;split at h
 ·rename_i len e hu;split at h
  ·rename_i te l hf;simp only[bjE]at h;obtain⟨⟨h1,h2⟩,h3⟩:=h;refine⟨len,e,te,hu,?_,?_⟩
   ·split at h1
    ·rename_i z hz;rw[hz,nqE h1]
    ·cases h1
   ·have:=rep_of h3;rw[nqE h2]at this;exact this
  ·cases h
 ·cases h
theorem tt_ok{l:List (Nat×Ty)}(hl:T.T.ty=aGQ l)(h:l.all (wI P T)=true)(hfn: ∀id,T.T.fn id=true→okFn P id=true)(harr: ∀id,T.T.arr id=true→∀fs,P.underlying id≠some (.struct fs))(har: ∀id,T.T.arr id=true→okAr P T id=true)
    (heq: ∀id n f,T.T.ty id=some (.rc n)→U0.eq n=some f→∀(x y:U0.D n) (a b:Operand),
      oD P .eql id a b (.agg (U0.en n x)) (.agg (U0.en n y))=some (.v (.bool (f x y)))∧oD P .neq id a b (.agg (U0.en n x)) (.agg (U0.en n y))=some (.v (.bool (!f x y)))):sS P U0 T:=by
 have one: ∀id t,T.T.ty id=some t→wI P T (id,t)=true:=fun id t ht=>List.all_eq_true.1 h _ (pS (by rw[←hl];exact ht))
 have un: ∀id t,T.T.ty id=some t→okUn P T id t=true:=fun id t ht=>by
  have:=one id t ht;simp only[wI,bjE]at this;exact this.1.2
 refine⟨fun id t ht=>?_,fun id t ht=>?_,fun id t ht=>?_,fun id t ht=>?_,fun id hf=>?_,fun id t ht=>?_,fun id n ht ha=>?_,fun id n ht ha=>?_,heq⟩
 ·have:=one id t ht;simp only[wI,bjE]at this;have h1:=this.1.1.1.1;split at h1
  ·rename_i b hb;rw[hb];rw[eq_of_beq h1]
  ·cases h1
 ·have:=one id t ht;simp only[wI,bjE]at this;have h1:=this.1.1.1.2;split at h1
  ·rename_i b hb;rw[hb];rw[nqE h1]
  ·cases h1
 ·have h1:=un id t ht;unfold okUn at h1;split at h1
  ·rename_i k j hj;rw[of_decide_eq_true h1];exact hj
  ·rename_i hj;exact hj
  ·rename_i hj;exact hj
  ·rename_i e i hj;simp only[bjE]at h1;obtain⟨h2,h3⟩:=h1;refine⟨i,hj,?_,?_⟩
   ·split at h2
    ·rename_i u hu;rw[hu,Ty.beq_eq h2]
    ·cases h2
   ·split at h3
    ·rename_i j hj2;rw[hj2,nqE h3]
    ·cases h3
  ·rename_i n fs hj;simp only[bjE]at h1;obtain⟨g1,g2⟩:=aGk h1.1;intro _;refine⟨fs,hj,by simpa using g1,fun i f hf=>?_⟩
   obtain⟨k1,k2⟩:=g2 i f (by rw[Array.getElem?_toList];exact hf)
   exact⟨k1,by rw[k2,Nat.zero_add];rfl⟩
  ·rename_i n _ _;intro ha;rw[h1]at ha;cases ha
  ·cases h1
 ·have:=one id t ht;simp only[wI,bjE]at this;have h1:=this.1.1.2;split at h1
  ·rename_i b hb;rw[hb,aC3 h1]
  ·cases h1
 ·have h1:=hfn id hf;simp only[okFn,bjE]at h1;obtain⟨⟨h1,h2⟩,h3⟩:=h1;refine⟨?_,?_,?_⟩
  ·split at h1
   ·rename_i b hb;rw[hb];simpa using h1
   ·cases h1
  ·split at h2
   ·rename_i b hb;rw[hb,nqE h2]
   ·cases h2
  ·split at h3
   ·rename_i b hb;rw[hb,aC3 h3]
   ·cases h3
 ·have:=one id t ht;simp only[wI,bjE]at this;have h1:=this.2;split at h1
  ·rename_i i hi;simp only[bjE]at h1;obtain⟨⟨⟨h1,h2⟩,h3⟩,h4⟩:=h1;split at h4
   ·rename_i z hz;simp only[bjE]at h4;exact⟨i,z,hi,nqE h1,nqE h2,by rwa [Nat.ble_eq]at h3,hz,nqE h4.1.1,aC3 h4.1.2,h4.2⟩
   ·cases h4
  ·cases h1
 ·have h1:=un id _ ht;unfold okUn at h1;split at h1
  ·rename_i e _;cases e
  ·rename_i e _;cases e
  ·rename_i e _;cases e
  ·rename_i e _;cases e
  ·rename_i n' fs e hj;cases e;simp only[bjE]at h1;have h2:=h1.2;split at h2
   ·rename_i pl hpl;exact⟨fs,pl,hj,hpl,aGW h2⟩
   ·cases h2
  ·rename_i e _ _;rw[h1]at ha;cases ha
  ·cases h1
 ·exact okAr_ok (har id ha) ht
end
section
variable{P:Program}{t:TypeId}
theorem eq_str(s u:List UInt8):((⟨s.toArray⟩:ByteArray)==⟨u.toArray⟩)=decide (s=u):=by
 show(s.toArray==u.toArray)=_;by_cases h:s=u
 ·subst h;simp
 ·simp[h]
theorem nR{d:Nat}{t:TypeId}{s u:List UInt8}(h:P.underlying t=some .string):aP P (Op.equalIn (d+1) t (jW s) (jW u))=some (decide (s=u)):=by
 rw[Op.equalIn.eq_2,aA,aD,h,←eq_str];rfl
theorem sym_eq{ft:TypeId}{fs:Array Field}{f g:Field}(ht:P.underlying t=some (.struct fs))(hp:P.stoodInHeld t=false)(hs:P.underlying ft=some .string)(hz:jH P ft=some false)
    (hf : fs.toList = [f, g]) (h1 : f.name ≠ "_") (h2 : g.name ≠ "_") (e1 : f.type = ft) (e2 : g.type = ft) (o1 : f.offset = 0) (o2 : g.offset = 1) (s u : G.Y) :
    aP P (Op.equal t (.agg #[jW s.package,jW s.name]) (.agg #[jW u.package,jW u.name]))=some (decide (s=u)):=by
 unfold Op.equal;rw[show Op.maxDepth=9998+1+1 from rfl,oX ht hp,hf]
 have hpt: ∀(a b:Value) (k:Nat) (v:Value), #[a,b][k]?=some v→aP P (part ft #[a,b] k)=some v:=by
  intro a b k v hk;unfold part;rw[aA];have hagg:aP P (Go.isAgg ft)=some false:=by
   simp only[Go.isAgg,aA,aD];unfold jH at hz;cases hu:P.underlying ft with
   |none=>rw[hu]at hz;cases hz
   |some d=>
    rw[hu]at hz;simp only[omS,ojE]at hz;cases d<;>first|rfl|simp at hz
  rw[hagg];simp only[obS,Bool.false_eq_true,if_false,hk,aB]
 have h0:=fun(x y:Value)=>hpt x y 0 x (by simp)
 have h3:=fun(x y:Value)=>hpt x y 1 y (by simp)
 simp only[Op.eqFields,h1,h2,e1,e2,o1,o2,ne_eq,not_false_eq_true,if_true,aA,h0,h3,obS];rw[nR hs,obS];cases s with|mk sp sn=>
 cases u with|mk up un=>
 simp only[G.Y.mk.injEq]at*;by_cases c1:sp=up
 ·simp only[c1,decide_true,bnT,Bool.false_eq_true,if_false,aA,h3,obS];rw[nR hs,obS];by_cases c2:sn=un<;>simp[c2,aB]
 ·simp[c1,aB]
theorem aCr{ft:TypeId}{fs:Array Field}{f g:Field}(ht:P.underlying t=some (.struct fs))(hp:P.stoodInHeld t=false)(hs:P.underlying ft=some .string)(hz:jH P ft=some false)(hg:P.eqGuardType P.depth t=false)
    (hf : fs.toList = [f, g]) (h1 : f.name ≠ "_") (h2 : g.name ≠ "_") (e1 : f.type = ft) (e2 : g.type = ft) (o1 : f.offset = 0) (o2 : g.offset = 1) (s u : G.Y) (a b : Operand) :
    oD P .eql t a b (.agg (G.eSymbol s)) (.agg (G.eSymbol u))=some (.v (.bool (decide (s=u))))∧oD P .neq t a b (.agg (G.eSymbol s)) (.agg (G.eSymbol u))=some (.v (.bool (!decide (s=u)))):=by
 have he:=sym_eq ht hp hs hz hf h1 h2 e1 e2 o1 o2 s u;have hag: ∀op,oD P op t a b (.agg (G.eSymbol s)) (.agg (G.eSymbol u))=(gM P op t a b (.agg #[jW s.package,jW s.name]) (.agg #[jW u.package,jW u.name])).map ofV:=fun op=>by
  simp only[oD,G.eSymbol,sgA,toV,toVs,rH,omS,gM,jW,aM,aC,alC,List.all_nil,Bool.and_self,cdt]
 have hg1: ∀op,op=BinOp.eql∨op= .neq→aP P (eqGuard op t a b (.agg #[jW s.package,jW s.name]) (.agg #[jW u.package,jW u.name]))=some ():=by
  intro op hop;have hprog:aP P program=some P:=rfl;rcases hop with rfl|rfl<;>simp only[eqGuard,bnT,Bool.false_eq_true,if_false,aA,hprog,obS,hg,Bool.not_false,if_true,aB]
 constructor
 ·rw[hag,abin_eql (by simp[jW,aC]) (by simp[jW,aC]) (hg1 _ (.inl rfl)) he];rfl
 ·rw[hag,abin_neq (by simp[jW,aC]) (by simp[jW,aC]) (hg1 _ (.inr rfl)) he];rfl
end
end Go.TV
namespace Go.TV
open Go.AI Go.PI Go.Proofs
set_option maxRecDepth 20000
def tyL:List (Nat×Ty):=[(2,i6),(3,i6),(4,.bool),(5,(.int .u8)),(6,(.int .u8)),(9,.str),(10,.str),(11,.str),(12,(.int .u64)),(21,(.int .i32)),(22,(.sl (.int .u8))),(24,(zS 15)),(26,(.int .u32)),(27,(zS 3)),(28,(zS 3)),(31,(.rc 0)),(32,(.rc 0)),(36,(.sl .bool)),(41,(.rc 1)),(42,(.rc 1)),(43,(zS 2)),(44,(.rc 2)),(45,(.rc 2)),(46,(.rc 3)),(47,(.rc 3)),(51,(.sl (zS 4))),(53,(zS 1)),(54,(.rc 4)),(55,(.rc 4)),(56,(zS 4)),(57,(.rc 5)),(58,(.rc 5)),(59,(.rc 6)),(60,(.rc 6)),(61,(.sl (zS 12))),(62,(zS 7)),(63,(.rc 8)),(64,(.rc 8)),(65,(zS 14)),(66,(.int .u64)),(67,(.rc 15)),(68,(.rc 15)),(69,(zS 16)),(72,(.rc 16)),(73,(.rc 16)),(74,i6),(75,(zS 13)),(76,(.rc 14)),(77,(.rc 14)),(78,i6),(99,(.sl .str)),(129,(.rc 17)),(130,(.rc 17)),(133,(zS 5)),(145,(zS 9)),(148,(.rc 9)),(149,(.rc 9)),(150,(.rc 13)),(165,(zS 18)),(169,(.rc 19)),(170,(.rc 19)),(171,(.rc 18)),(172,(.rc 18)),(178,(.rc 20)),(179,(.rc 20)),(181,(zS 21)),(183,(.rc 21)),(184,(.rc 21)),(205,(.sl i6)),(234,(zS 23)),(243,(.rc 22)),(244,(.rc 22)),(247,(.rc 23)),(248,(.rc 23)),(257,(.sl (.int .u32))),(258,(.rc 24)),(259,(.rc 24)),(270,(.int .u64)),(297,i6),(310,(.rc 25)),(311,(.rc 25)),(318,(.int .u8)),(319,(.int .u8)),(321,(.int .i32)),(322,(.int .i32)),(325,(zS 12)),(326,(.rc 7)),(327,(.rc 7)),(328,(zS 10)),(329,(zS 11)),(330,(.rc 12)),(331,(.rc 12)),(332,(.sl (zS 9))),(333,(.rc 10)),(334,(.rc 10)),(335,(.rc 11)),(336,(.rc 11))]
def byL:List (Nat×Nat):=[(2,8),(3,8),(4,1),(5,1),(6,1),(9,16),(10,16),(11,16),(12,8),(21,4),(22,24),(24,24),(26,4),(27,24),(28,24),(31,32),(32,32),(36,24),(41,32),(42,32),(43,24),(44,112),(45,112),(46,176),(47,176),(51,24),(53,24),(54,592),(55,592),(56,24),(57,40),(58,40),(59,240),(60,240),(61,24),(62,24),(63,56),(64,56),(65,24),(66,8),(67,568),(68,568),(69,24),(72,200),(73,200),(74,8),(75,24),(76,544),(77,544),(78,8),(99,24),(129,16),(130,16),(133,24),(145,24),(148,208),(149,208),(150,64),(165,24),(169,72),(170,72),(171,64),(172,64),(178,56),(179,56),(181,24),(183,24),(184,24),(205,24),(234,24),(243,32),(244,32),(247,144),(248,144),(257,24),(258,32),(259,32),(270,8),(297,8),(310,16),(311,16),(318,1),(319,1),(321,4),(322,4),(325,24),(326,152),(327,152),(328,24),(329,24),(330,552),(331,552),(332,24),(333,48),(334,48),(335,232),(336,232)]
def elL:List (Nat×Nat):=[(22,5),(24,68),(27,47),(28,47),(36,4),(43,45),(51,56),(53,42),(56,55),(61,325),(62,327),(65,77),(69,73),(75,150),(99,9),(133,58),(145,149),(165,172),(181,184),(205,3),(234,248),(257,26),(325,331),(328,334),(329,336),(332,145)]
def fnL:List Nat:=[1,23,25,29,34,35,38,39,40,48,49,50,52,70,71,80,81,82,83,84,85,87,88,89,90,91,92,93,94,95,96,97,98,100,101,103,104,105,106,107,108,109,110,112,113,114,116,117,118,119,121,122,123,124,125,126,127,128,132,134,135,137,139,141,142,143,144,147,151,152,154,155,156,157,158,159,160,161,162,163,164,167,173,175,176,180,182,185,187,188,190,191,192,193,195,197,198,199,200,202,204,207,208,210,211,212,213,214,215,216,217,219,220,221,222,224,225,227,229,230,231,233,235,236,237,238,239,240,241,246,249,250,251,253,254,256,260,262,263,264,265,266,269,271,275,276,277,278,282,284,285,286,288,289,290,291,293,294,298,300,301,303,304,305,308,317,320]
def arL:List Nat:=[150]
def tt0:TT:=⟨aGQ tyL,fun i=>(findN byL i).getD 0,fun i=>bM i fnL,fun i=>bM i arL⟩
def tp0(o:Orc)(sig:Nat→Option Sig):TP U0.D:=⟨tt0,findN elL,sig,o⟩
theorem ty_all(o:Orc)(sig:Nat→Option Sig):tyL.all (wI Tryz.prog (tp0 o sig))=true:=by kernel_rfl
theorem fn_all:fnL.all (okFn Tryz.prog)=true:=by kernel_rfl
def isSt(P:Program)(i:Nat):Bool:=match P.underlying i with|some (.struct _)=>true|_=>false
theorem ar_all:arL.all (fun i=> !isSt Tryz.prog i)=true:=by kernel_rfl
theorem ar2_all(o:Orc)(sig:Nat→Option Sig):arL.all (okAr Tryz.prog (tp0 o sig))=true:=by kernel_rfl
theorem sy_all:(tyL.all fun x=>match x.2 with| .rc n=>(match U0.eq n with|some _=>bM x.1 [41,42]|none=>true)|_=>true)=true:=by kernel_rfl
theorem ttOK(o:Orc)(sig:Nat→Option Sig):sS Tryz.prog U0 (tp0 o sig):=by
 refine tt_ok (l:=tyL) rfl (ty_all o sig) (fun id h=>?_) (fun id h fs e=>?_) (fun id h=>List.all_eq_true.1 (ar2_all o sig) _ (eJ.1 h)) (fun id n f h1 h2=>?_)
 ·exact List.all_eq_true.1 fn_all _ (eJ.1 h)
 ·have:=List.all_eq_true.1 ar_all _ (eJ.1 h);simp only[isSt,e]at this;cases this
 ·have h3:=List.all_eq_true.1 sy_all _ (pS h1);simp only[h2]at h3;have hn:n=1:=by
   match n,f,h2 with
   |0,f,h2=>first|rfl|cases h2
   |1,f,h2=>first|rfl|cases h2
   |2,f,h2=>first|rfl|cases h2
   |3,f,h2=>first|rfl|cases h2
   |4,f,h2=>first|rfl|cases h2
   |5,f,h2=>first|rfl|cases h2
   |6,f,h2=>first|rfl|cases h2
   |7,f,h2=>first|rfl|cases h2
   |8,f,h2=>first|rfl|cases h2
   |9,f,h2=>first|rfl|cases h2
   |10,f,h2=>first|rfl|cases h2
   |11,f,h2=>first|rfl|cases h2
   |12,f,h2=>first|rfl|cases h2
   |13,f,h2=>first|rfl|cases h2
   |14,f,h2=>first|rfl|cases h2
   |15,f,h2=>first|rfl|cases h2
   |16,f,h2=>first|rfl|cases h2
   |17,f,h2=>first|rfl|cases h2
   |18,f,h2=>first|rfl|cases h2
   |19,f,h2=>first|rfl|cases h2
   |20,f,h2=>first|rfl|cases h2
   |21,f,h2=>first|rfl|cases h2
   |22,f,h2=>first|rfl|cases h2
   |23,f,h2=>first|rfl|cases h2
   |24,f,h2=>first|rfl|cases h2
   |k+25,f,h2=>first|rfl|cases h2
  subst hn;cases h2;intro x y a b;have hm:=eJ.1 h3;simp only[List.mem_cons,List.not_mem_nil,or_false]at hm;rcases hm with rfl|rfl
  ·exact aCr (ft:=9) Tryz.underlying41 (by kernel_rfl) (by kernel_rfl) (by kernel_rfl) (by kernel_rfl) rfl (by decide) (by decide) rfl rfl rfl rfl x y a b
  ·exact aCr (ft:=9) Tryz.underlying42 (by kernel_rfl) (by kernel_rfl) (by kernel_rfl) (by kernel_rfl) rfl (by decide) (by decide) rfl rfl rfl rfl x y a b
end Go.TV
namespace Go.TV
open Go.AI Go.PI
def at_:TC→List Nat→TC
 |c,[]=>c
 | .seq a _,0::l=>at_ a l
 | .seq _ b,_::l=>at_ b l
 | .cond _ a _,0::l=>at_ a l
 | .cond _ _ b,_::l=>at_ b l
 | .block _ c,_::l=>at_ c l
 | .loop _ c,_::l=>at_ c l
 | .scope c,_::l=>at_ c l
 | .cut _ c,_::l=>at_ c l
 | .ice _ c,_::l=>at_ c l
 |c,_=>c
abbrev TVs:=List (TV U0.D)
abbrev Rt:=Option TVs
abbrev TC0:=qQ U0.D
abbrev Kt:=TK U0.D TVs
structure Cu where
 D:DT U0 TVs
 E:DT U0 TVs
theorem kN(ct:Cut){f g:TS U0.D→TM U0.D→Rt}(h: ∀S M,f S M=g S M)(d:TVs):pP U0 ct f d=pP U0 ct g d:=by
 have:f=g:=by funext S M;exact h S M
 rw[this]
end Go.TV
namespace Go.Rf
open Go.AI Go.Proofs
def mkO (d : Option Nat) (op : Op) (t : TypeId) : Oper := { dst := d, op := op, type := t, pos := "", after := #[], guard := none }
theorem kA(S:Slots)(k j:Nat)(v:Value):Slots.at (Tr.set S k v) j=if j=k then v else S.at j:=by
 unfold Slots.at;rw[Tr.get_set];split<;>rfl
theorem at_store(S:Slots)(k j:Nat)(v:Value):Slots.at (S.store (some k) v) j=if j=k then v else S.at j:=kA S k j v
theorem mixed_:Tryz.prog.toTables.follows .mixedOrders=true:=by kernel_rfl
end Go.Rf
namespace Go.Rf
open Go.AI Go.Proofs
def clO1:Array Oper:= #[mkO (some 3) (.call {callee:= .builtin .len,args:= #[.tmp 0],argTypes:= #[28]}) 3,
 mkO (some 4) (.binOp .eql 3 (.tmp 3) (.const (.int .i64 0)) 3) 4]
def clO2:Array Oper:= #[mkO (some 5) (.buildSlice 28 0 #[]) 28,mkO (some 2) (.slice 28 (.tmp 0) (some (.const (.int .i64 0))) (some (.const (.int .i64 0))) (some (.const (.int .i64 0)))) 28,
 mkO (some 6) (.move (.tmp 0)) 28,mkO (some 6) (.move (.tmp 0)) 28]
def aAb:Code→Code
 | .seq a (.seq (.seq _ (.cond c _ s)) r)=> .seq a (.seq (.seq (.region 1 clO1 false) (.cond c (.seq (.region 2 clO2 false) .ret) s)) r)
 |c=>c
noncomputable def clB:Code:=Tryz.f87.body.getD .skip
noncomputable def clF:Func:={Tryz.f87 with body:=some (aAb clB)}
theorem aHH:Tryz.prog.funcs[87]?=some Tryz.f87:=by kernel_rfl
theorem aHI:Tryz.f87.body=some clB:=rfl
theorem cl_ok:eZ Tryz.prog Tryz.f87=true:=by kernel_rfl
section
variable(call:FuncId→Array Value→St→Option (Value×St))(L:Nat)(σ:St)
def clS:St:=({σ with next:=σ.next+7}:St).put (σ.next+3) (.cells [] (bE 11))
noncomputable def clR:Code:=match clB with| .seq _ (.seq _ r)=>r|_=> .skip
noncomputable def clO3:Array Oper:=match clR with| .seq (.region _ o _) _=>o|_=> #[]
noncomputable def clo(k:Nat):Oper:=clO3.toList.getD k (mkO none (.move (.tmp 0)) 0)
theorem clR_eq:clR= .seq (.region 3 clO3 false) .ret:=by kernel_rfl
theorem clO3_eq:clO3.toList=[clo 0,clo 1,clo 2,clo 3]:=by kernel_rfl
theorem aHJ:clO3.size=4:=by kernel_rfl
theorem aV{P:Program}{ops:Array Oper}{base i:Nat}{o:Oper}{rest:List Oper}{S:Slots}{σ σ1:St}{v:Value}(hg:o.guard=none)(h:aop P call base i o S σ=some (v,σ1)):
    bZ P call ops base (o::rest) i S σ=bZ P call ops base rest (i+1) (S.store o.dst v) σ1:=by
 rw[bZ,wanted,hg];simp only[cdt,h]
theorem nU{P:Program}{ops:Array Oper}{base i:Nat}{o:Oper}{rest:List Oper}{S:Slots}{σ:St}(hg:o.guard=none)(h:aop P call base i o S σ=none):
    bZ P call ops base (o::rest) i S σ=none:=by
 rw[bZ,wanted,hg];simp only[cdt,h]
end
end Go.Rf
namespace Go.Rf
open Go.AI Go.Proofs
section
variable(call:FuncId→Array Value→St→Option (Value×St))(L:Nat)(σ:St)
theorem regN{P:Program}{id:Nat}{ops:Array Oper}{S S':Slots}{σ σ':St}(h:bZ P call ops σ.next ops.toList 0 S {σ with next:=σ.next+ops.size}=some (S',σ')):bG P call L (.region id ops false) S σ=some (.normal,S',σ'):=by
 rw[bG,dL,cdf,h];rfl
theorem seqN{P:Program}{a b:Code}{S S1:Slots}{σ σ1:St}(h:bG P call L a S σ=some (.normal,S1,σ1)):bG P call L (.seq a b) S σ=bG P call L b S1 σ1:=by
 rw[bG,h]
theorem seqR{P:Program}{a b:Code}{S S1:Slots}{σ σ1:St}(h:bG P call L a S σ=some (.ret,S1,σ1)):bG P call L (.seq a b) S σ=some (.ret,S1,σ1):=by
 rw[bG,h]
theorem condT{P:Program}{x:Operand}{a b:Code}{S:Slots}{σ:St}(h:ev S x= .bool true):bG P call L (.cond x a b) S σ=bG P call L a S σ:=by
 rw[bG,h]
theorem condF{P:Program}{x:Operand}{a b:Code}{S:Slots}{σ:St}(h:ev S x= .bool false):bG P call L (.cond x a b) S σ=bG P call L b S σ:=by
 rw[bG,h]
theorem endR{S:Slots}{σ:St}:cB Tryz.prog Tryz.f87 (some (.ret,S,σ))=some (S.at 2,σ):=by kernel_rfl
theorem endC{S:Slots}{σ:St}:cB Tryz.prog clF (some (.ret,S,σ))=some (S.at 2,σ):=by kernel_rfl
noncomputable def kR(n:Nat):Code:=match clB,n with
 | .seq a _,0=>a
 | .seq _ (.seq (.seq b _) _),1=>b
 | .seq _ (.seq (.seq _ (.cond _ (.seq c _) _)) _),_=>c
 |_,_=> .skip
noncomputable def kO(n:Nat):Array Oper:=match kR n with| .region _ o _=>o|_=> #[]
noncomputable def ko(n k:Nat):Oper:=(kO n).toList.getD k (mkO none (.move (.tmp 0)) 0)
theorem clB_eq:clB= .seq (.region 0 (kO 0) false) (.seq (.seq (.region 1 (kO 1) false) (.cond (.tmp 4) (.seq (.region 2 (kO 2) false) .ret) .skip)) clR):=by kernel_rfl
theorem clC_eq:aAb clB= .seq (.region 0 (kO 0) false) (.seq (.seq (.region 1 clO1 false) (.cond (.tmp 4) (.seq (.region 2 clO2 false) .ret) .skip)) clR):=by kernel_rfl
theorem l0:(kO 0).toList=[ko 0 0]:=by kernel_rfl
theorem l1:(kO 1).toList=[ko 1 0,ko 1 1]:=by kernel_rfl
theorem l2:(kO 2).toList=[ko 2 0]:=by kernel_rfl
theorem n0:(kO 0).size=1:=by kernel_rfl
theorem n1:(kO 1).size=2:=by kernel_rfl
theorem n2:(kO 2).size=1:=by kernel_rfl
theorem g00:(ko 0 0).guard=none:=by kernel_rfl
theorem g10:(ko 1 0).guard=none:=by kernel_rfl
theorem g11:(ko 1 1).guard=none:=by kernel_rfl
theorem g20:(ko 2 0).guard=none:=by kernel_rfl
theorem d00:(ko 0 0).dst=some 2:=by kernel_rfl
theorem d10:(ko 1 0).dst=some 3:=by kernel_rfl
theorem d11:(ko 1 1).dst=some 4:=by kernel_rfl
theorem d20:(ko 2 0).dst=some 2:=by kernel_rfl
def one3(w:Value):Slots:=Slots.store .nil (some 3) w
def one0(w:Value):Slots:=Slots.store .nil (some 0) w
theorem a00{S:Slots}{σ:St}{b i:Nat}:aop Tryz.prog call b i (ko 0 0) S σ=some (.slice none 0 0,σ):=by kernel_rfl
theorem a20{S:Slots}{σ:St}{b i:Nat}:aop Tryz.prog call b i (ko 2 0) S σ=some (.slice none 0 0,σ):=by kernel_rfl
theorem a10{S:Slots}{σ:St}{b i:Nat}:aop Tryz.prog call b i (ko 1 0) S σ=some (S.at 0,σ):=by kernel_rfl
theorem a11{S:Slots}{σ:St}{b i:Nat}:aop Tryz.prog call b i (ko 1 1) S σ=aop Tryz.prog call b i (ko 1 1) (one3 (S.at 3)) σ:=by kernel_rfl
theorem a11n{σ:St}{b i:Nat}:aop Tryz.prog call b i (ko 1 1) (one3 (.slice none 0 0)) σ=some (.bool true,σ):=by kernel_rfl
theorem a11s{σ:St}{b i n c:Nat}{a:Addr}:aop Tryz.prog call b i (ko 1 1) (one3 (.slice (some a) n c)) σ=some (.bool false,σ):=by kernel_rfl
theorem head{S:Slots}{u:Value}(hu:S.at 0=u){q:Bool}(hq: ∀(σ:St) b i,aop Tryz.prog call b i (ko 1 1) (one3 u) σ=some (.bool q,σ)){fl:Fl}{r:Option (Fl×Slots×St)}
    (h:(bif q then bG Tryz.prog call L (.seq (.seq (.region 2 (kO 2) false) .ret) clR) (((S.store (some 2) (.slice none 0 0)).store (some 3) u).store (some 4) (.bool q)) {σ with next:=σ.next+3}
      else bG Tryz.prog call L clR (((S.store (some 2) (.slice none 0 0)).store (some 3) u).store (some 4) (.bool q)) {σ with next:=σ.next+3})=r):
    bG Tryz.prog call L clB S σ=r:=by
 have h0:bG Tryz.prog call L (.region 0 (kO 0) false) S σ=some (.normal,S.store (some 2) (.slice none 0 0),{σ with next:=σ.next+1}):=by
  refine regN call L ?_;rw[l0,n0,aV call g00 (a00 call),d00];rfl
 have h1:bG Tryz.prog call L (.region 1 (kO 1) false) (S.store (some 2) (.slice none 0 0)) {σ with next:=σ.next+1}=some (.normal,((S.store (some 2) (.slice none 0 0)).store (some 3) u).store (some 4) (.bool q),{σ with next:=σ.next+3}):=by
  refine regN call L ?_;have e0:(S.store (some 2) (.slice none 0 0)).at 0=u:=by rw[Go.Rf.at_store,if_neg (by decide)];exact hu
  have e3:((S.store (some 2) (.slice none 0 0)).store (some 3) u).at 3=u:=by rw[Go.Rf.at_store,if_pos rfl]
  rw[l1,n1,aV call g10 (a10 call),e0,d10,aV call g11 (by rw[a11,e3];exact hq _ _ _),d11];rfl
 have e4:ev (((S.store (some 2) (.slice none 0 0)).store (some 3) u).store (some 4) (.bool q)) (.tmp 4)= .bool q:=by
  show Slots.at _ 4=_;rw[Go.Rf.at_store,if_pos rfl]
 rw[clB_eq,seqN call L h0];subst h;cases q with
 |true=>
  rw[cdt,bG,seqN call L h1,condT call L e4]
  conv=>rhs;rw[bG]
 |false=>
  rw[cdf,bG,seqN call L h1,condF call L e4,bG]
end
end Go.Rf
namespace Go.Rf
open Go.AI Go.Proofs
section
variable(call:FuncId→Array Value→St→Option (Value×St))(L:Nat)(σ:St)
def S56(x u:Value):Slots:=Slots.store (Slots.store .nil (some 5) x) (some 6) u
theorem a2{S:Slots}{σ:St}{b i:Nat}:aop Tryz.prog call b i (clo 2) S σ=aop Tryz.prog call b i (clo 2) (S56 (S.at 5) (S.at 6)) σ:=by kernel_rfl
theorem a0{S:Slots}:aop Tryz.prog call (σ.next+3) 0 (clo 0) S {σ with next:=σ.next+7}=some (.slice (some ⟨σ.next+3,0,none⟩) 0 0,clS σ):=by kernel_rfl
theorem a1{S:Slots}{σ:St}{b i:Nat}:aop Tryz.prog call b i (clo 1) S σ=some (S.at 0,σ):=by kernel_rfl
theorem a3{S:Slots}{σ:St}{b i:Nat}:aop Tryz.prog call b i (clo 3) S σ=some (S.at 7,σ):=by kernel_rfl
theorem g0:(clo 0).guard=none:=by kernel_rfl
theorem g1:(clo 1).guard=none:=by kernel_rfl
theorem g2:(clo 2).guard=none:=by kernel_rfl
theorem g3:(clo 3).guard=none:=by kernel_rfl
theorem e0:(clo 0).dst=some 5:=by kernel_rfl
theorem e1:(clo 1).dst=some 6:=by kernel_rfl
theorem e2:(clo 2).dst=some 7:=by kernel_rfl
theorem e3:(clo 3).dst=some 2:=by kernel_rfl
theorem R_eqS{S:Slots}{u:Value}(hu:S.at 0=u){fn:Func}(hfn: ∀(S:Slots) (σ:St),cB Tryz.prog fn (some (.ret,S,σ))=some (S.at 2,σ))(hno:cB Tryz.prog fn none=none):
    cB Tryz.prog fn (bG Tryz.prog call L clR S {σ with next:=σ.next+3})=aop Tryz.prog call (σ.next+3) 2 (clo 2) (S56 (.slice (some ⟨σ.next+3,0,none⟩) 0 0) u) (clS σ):=by
 have hr: ∀r,bZ Tryz.prog call clO3 (σ.next+3) [clo 2,clo 3] 2 ((S.store (some 5) (.slice (some ⟨σ.next+3,0,none⟩) 0 0)).store (some 6) u) (clS σ)=r→bG Tryz.prog call L (.region 3 clO3 false) S {σ with next:=σ.next+3}=r.map fun x=>(.normal,x.1,x.2):=by
  intro r hr;have e:dL Tryz.prog call clO3 false S {σ with next:=σ.next+3}=r:=by
   rw[dL,cdf,clO3_eq,aHJ];refine(aV call g0 (a0 call σ)).trans ?_;rw[e0];refine(aV call g1 (a1 call)).trans ?_;rw[e1,Go.Rf.at_store,if_neg (by decide),hu]
   exact hr
  rw[bG,e]
 have h56:aop Tryz.prog call (σ.next+3) 2 (clo 2) ((S.store (some 5) (.slice (some ⟨σ.next+3,0,none⟩) 0 0)).store (some 6) u) (clS σ)=aop Tryz.prog call (σ.next+3) 2 (clo 2) (S56 (.slice (some ⟨σ.next+3,0,none⟩) 0 0) u) (clS σ):=by
  rw[a2,Go.Rf.at_store,if_neg (by decide),Go.Rf.at_store,if_pos rfl,Go.Rf.at_store,if_pos rfl]
 rw[clR_eq];cases hX:aop Tryz.prog call (σ.next+3) 2 (clo 2) (S56 (.slice (some ⟨σ.next+3,0,none⟩) 0 0) u) (clS σ)with
 |none=>
  have:=hr none (nU call g2 (h56.trans hX));rw[bG,this];exact hno
 |some x=>
  obtain⟨v,σ1⟩:=x;have h3:=(aV call (ops:=clO3) (rest:=[clo 3]) g2 (h56.trans hX));rw[e2]at h3;have:=hr _ (h3.trans (aV call g3 (a3 call)));rw[bZ,e3,Go.Rf.at_store,if_pos rfl]at this;rw[bG,this,omS];simp only[bG];rw[hfn,Go.Rf.at_store,if_pos rfl]
theorem fnP(S:Slots)(σ:St):cB Tryz.prog Tryz.f87 (some (.ret,S,σ))=some (S.at 2,σ):=endR
theorem fnC(S:Slots)(σ:St):cB Tryz.prog clF (some (.ret,S,σ))=some (S.at 2,σ):=endC
theorem p_nilS{S:Slots}(hu:S.at 0= .slice none 0 0):cB Tryz.prog Tryz.f87 (bG Tryz.prog call L clB S σ)=some (.slice none 0 0,{σ with next:=σ.next+4}):=by
 rw[head call L σ (fl:= .normal) hu (q:=true) (fun _ _ _=>a11n call) rfl,cdt]
 have h2: ∀T:Slots,bG Tryz.prog call L (.region 2 (kO 2) false) T {σ with next:=σ.next+3}=some (.normal,T.store (some 2) (.slice none 0 0),{σ with next:=σ.next+4}):=fun T=>regN call L (by
  rw[l2,n2,aV call g20 (a20 call),d20];rfl)
 have h3: ∀T:Slots,bG Tryz.prog call L (.seq (.region 2 (kO 2) false) .ret) T {σ with next:=σ.next+3}=some (.ret,T.store (some 2) (.slice none 0 0),{σ with next:=σ.next+4}):=fun T=>(seqN call L (h2 T)).trans (by rw[bG])
 rw[seqR call L (h3 _),fnP,Go.Rf.at_store,if_pos rfl]
theorem at0{S:Slots}{u x:Value}{q:Bool}(hu:S.at 0=u):(((S.store (some 2) (.slice none 0 0)).store (some 3) x).store (some 4) (.bool q)).at 0=u:=by
 rw[Go.Rf.at_store,if_neg (by decide),Go.Rf.at_store,if_neg (by decide),Go.Rf.at_store,if_neg (by decide)];exact hu
theorem aGd{S:Slots}{a:Addr}{n c:Nat}(hu:S.at 0= .slice (some a) n c):cB Tryz.prog Tryz.f87 (bG Tryz.prog call L clB S σ)=
    aop Tryz.prog call (σ.next+3) 2 (clo 2) (S56 (.slice (some ⟨σ.next+3,0,none⟩) 0 0) (.slice (some a) n c)) (clS σ):=by
 rw[head call L σ (fl:= .normal) hu (q:=false) (fun _ _ _=>a11s call) rfl,cdf]
 exact R_eqS call L σ (at0 hu) fnP rfl
theorem p_empS{S:Slots}(hu:S.at 0=xN):cB Tryz.prog Tryz.f87 (bG Tryz.prog call L clB S σ)=some (.slice (some ⟨σ.next+3,0,none⟩) 0 0,clS σ):=
 (aGd call L σ hu).trans (by kernel_rfl)
end
end Go.Rf
