import Derived.Test.YtmebgielemmehaaGreatDoorKm
import Derived.Test.YtmebgielemmehaaGreatDoorProg
set_option linter.unusedVariables false
set_option linter.unusedSimpArgs false
set_option linter.constructorNameAsVariable false
set_option linter.defProp false
namespace Go.TV
open Go.AI Go.PI
inductive ZH where
 |n
 |r (tk:List Nat) (fz:List (Nat×Nat)) (cl:List (Nat×Nat×List Nat))
 |s (a b:ZH)
 |c (a b:ZH)
 |b (a:ZH)
 |l (ct:Cut) (a:ZH)
 |o (a:ZH)
 |d (ct:Cut) (a:ZH)
 |i (ts:List Nat) (a:ZH)
def aV1(i:Nat):List (Nat×Nat)->List wJ
 |[]=>[]
 |x::xs=>bif Nat.beq x.1 i then .freeze x.2::aV1 i xs else aV1 i xs
def Dt(tk:List Nat)(fz:List (Nat×Nat))(i:Nat):List wJ:=aV1 i fz++ [.op i (dQ i tk)]
def Si(ops:Array Oper)(tk:List Nat)(fz:List (Nat×Nat)):Nat->List Nat->List wJ
 |0,l=>l.flatMap (Dt tk fz)
 |f+1,a::i::s::l=>bif aGn ops a i s then .app a i s::Si ops tk fz f l else Dt tk fz a++Si ops tk fz f (i::s::l)
 |_+1,l=>l.flatMap (Dt tk fz)
def Xq:List (Nat×Nat×List Nat)->Nat->Nat×List Nat
 |[],_=>(0,[])
 |x::l,i=>bif Nat.beq x.1 i then x.2 else Xq l i
def aJO(cl:List (Nat×Nat×List Nat)):wJ->TStep
 | .op i take=> .op i take (Xq cl i).1 (Xq cl i).2
 | .app a i s=> .app a i s
 | .freeze t=> .freeze t
def aBL(tk:List Nat)(fz:List (Nat×Nat))(cl:List (Nat×Nat×List Nat))(id:Nat)(ops:Array Oper):Bool->TC
 |true=> .region id ops true (fL ops.toList []) ((Si ops tk fz ops.size (canon ops (fL ops.toList []))).map (aJO cl))
 |false=> .region id ops false [] ((Si ops tk fz ops.size (List.range ops.size)).map (aJO cl))
def oT:Code->TC
 | .skip=> .skip
 | .label l=> .label l
 | .region id ops draw=>aBL [] [] [] id ops draw
 | .seq a b=> .seq (oT a) (oT b)
 | .cond x a b=> .cond x (oT a) (oT b)
 | .block id a=> .block id (oT a)
 | .exit id=> .exit id
 | .ret=> .ret
 | .scope a=> .scope (oT a)
 |c=> .other c
def Qi:List Nat->TC->TC
 |[],c=>c
 |t::ts,c=> .ice t (Qi ts c)
def fP:ZH->Code->TC
 | .n,c=>oT c
 | .d ct x,c=> .cut ct (fP x c)
 | .i ts x,c=>Qi ts (fP x c)
 | .r tk fz cl,c=>match c with| .region id ops draw=>aBL tk fz cl id ops draw|c=> .other c
 | .s x y,c=>match c with| .seq a b=> .seq (fP x a) (fP y b)|c=> .other c
 | .c x y,c=>match c with| .cond v a b=> .cond v (fP x a) (fP y b)|c=> .other c
 | .b x,c=>match c with| .block id a=> .block id (fP x a)|c=> .other c
 | .l ct x,c=>match c with| .loop a=> .loop ct (fP x a)|c=> .other c
 | .o x,c=>match c with| .scope a=> .scope (fP x a)|c=> .other c
def oF(a b:List wJ):fT (a++b)=fT a++fT b:=by
 induction a with
 |nil=>rfl
 |cons x a ih=>cases x<;>simp[fT,ih]
def Sj(i:Nat)(l:List (Nat×Nat)):fT (aV1 i l)=[]:=by
 induction l with
 |nil=>rfl
 |cons x l ih=>simp only[aV1];cases Nat.beq x.1 i<;>simp[fT,ih]
def yU(tk:List Nat)(fz:List (Nat×Nat))(i:Nat):fT (Dt tk fz i)=[i]:=by
 unfold Dt;rw[oF,Sj];rfl
def rK(tk:List Nat)(fz:List (Nat×Nat))(l:List Nat):fT (l.flatMap (Dt tk fz))=l:=by
 induction l with
 |nil=>rfl
 |cons i l ih=>rw[aN,oF,yU,ih];rfl
def AW(ops:Array Oper)(tk:List Nat)(fz:List (Nat×Nat)): ∀(f:Nat) (l:List Nat),fT (Si ops tk fz f l)=l:=by
 intro f;induction f with
 |zero=>intro l;exact rK tk fz l
 |succ f ih=>
  intro l
  match l with
  |[]=>rfl
  |[a]=>exact rK tk fz [a]
  |[a,i]=>exact rK tk fz [a,i]
  |a::i::s::l=>
   simp only[Si];cases aGn ops a i s with
   |true=>simp only[aI,fT,ih]
   |false=>simp only[aJ];rw[oF,yU,ih];rfl
def Ud(cl:List (Nat×Nat×List Nat))(l:List wJ):(l.map (aJO cl)).map TStep.un=l:=by
 induction l with
 |nil=>rfl
 |cons x l ih=>rw[aO,aO,ih];cases x<;>rfl
def Pu(tk:List Nat)(fz:List (Nat×Nat))(cl:List (Nat×Nat×List Nat))(id:Nat)(ops:Array Oper)(draw:Bool):dY (aBL tk fz cl id ops draw).pc= .region id ops draw/\nE (aBL tk fz cl id ops draw).pc:=by
 cases draw with
 |true=>
  refine⟨rfl,?_⟩;show fL ops.toList []=fL ops.toList []/\fT _=_;rw[Ud];exact⟨rfl,AW _ _ _ _ _⟩
 |false=>
  refine⟨rfl,?_⟩;show fT _=_;rw[Ud];exact AW _ _ _ _ _
def T6: ∀c:Code,dY (oT c).pc=c/\nE (oT c).pc:=by
 intro c;induction c with
 |region id ops draw=>exact Pu _ _ _ _ _ _
 |seq a b cy fi=>exact⟨by simp only[oT,TC.pc,dY,cy.1,fi.1],cy.2,fi.2⟩
 |cond x a b cy fi=>exact⟨by simp only[oT,TC.pc,dY,cy.1,fi.1],cy.2,fi.2⟩
 |block id a ih=>exact⟨by simp only[oT,TC.pc,dY,ih.1],ih.2⟩
 |scope a ih=>exact⟨by simp only[oT,TC.pc,dY,ih.1],ih.2⟩
 |_=>exact⟨rfl,trivial⟩
def JE(ts:List Nat)(c:TC):dY (Qi ts c).pc=dY c.pc/\(nE c.pc->nE (Qi ts c).pc):=by
 induction ts with
 |nil=>exact⟨rfl,id⟩
 |cons t ts ih=>exact⟨ih.1,ih.2⟩
def rD: ∀(s:ZH) (c:Code),dY (fP s c).pc=c/\nE (fP s c).pc:=by
 intro s;induction s with
 |n=>exact T6
 |r tk fz cl=>intro c;cases c<;>first|exact Pu _ _ _ _ _ _|exact⟨rfl,trivial⟩
 |s x y mh ny=>intro c;cases c<;>first|exact⟨by simp only[fP,TC.pc,dY,(mh _).1,(ny _).1],(mh _).2,(ny _).2⟩|exact⟨rfl,trivial⟩
 |c x y mh ny=>intro c;cases c<;>first|exact⟨by simp only[fP,TC.pc,dY,(mh _).1,(ny _).1],(mh _).2,(ny _).2⟩|exact⟨rfl,trivial⟩
 |b x ih=>intro c;cases c<;>first|exact⟨by simp only[fP,TC.pc,dY,(ih _).1],(ih _).2⟩|exact⟨rfl,trivial⟩
 |l ct x ih=>intro c;cases c<;>first|exact⟨by simp only[fP,TC.pc,dY,(ih _).1],(ih _).2⟩|exact⟨rfl,trivial⟩
 |o x ih=>intro c;cases c<;>first|exact⟨by simp only[fP,TC.pc,dY,(ih _).1],(ih _).2⟩|exact⟨rfl,trivial⟩
 |d ct x ih=>intro c;exact⟨(ih c).1,(ih c).2⟩
 |i ts x ih=>intro c;exact⟨by simp only[fP,(JE ts _).1,(ih c).1],(JE ts _).2 (ih c).2⟩
structure cM where
 sig:Dj
 sk:ZH
def iT(P:Program)(f:Nat):Code:=match P.funcs[f]? with|some fn=>fn.body.getD .skip|none=> .skip
def rO(P:Program)(f:Nat):List ResultVar:=match P.funcs[f]? with|some fn=>fn.results.toList|none=>[]
def pL:List (Nat×cM)->Nat->Option cM
 |[],_=>none
 |x::l,i=>bif Nat.beq x.1 i then some x.2 else pL l i
def vZ:List (Nat×cM)->Nat->Option cM
 |[],_=>none
 |x::l,f=>bif Nat.beq x.2.sig.f f then some x.2 else vZ l f
def tJ(l:List (Nat×cM))(i:Nat):Option Dj:=(pL l i).map (·.sig)
def AL(P:Program)(l:List (Nat×cM)):aN4:=λi=>match pL l i with
 |some x=>some (fP x.sk (iT P x.sig.f),rO P x.sig.f)
 |none=>none
def tT(P:Program)(l:List (Nat×cM)):ZI:=λf=>match vZ l f with
 |some x=>some ((fP x.sk (iT P f)).pc,rO P f)
 |none=>none
def a0I(P:Program)(l:List (Nat×cM))(x:cM):Prop:= ∃y,vZ l x.sig.f=some y/\(fP y.sk (iT P x.sig.f)).pc=(fP x.sk (iT P x.sig.f)).pc
def EJ{P:Program}{l:List (Nat×cM)}(h: ∀i x,pL l i=some x->a0I P l x): ∀i s code rs,tJ l i=some s->AL P l i=some (code,rs)->tT P l s.f=some (code.pc,rs):=by
 intro i s code rs h1 h2;unfold tJ at h1;unfold AL at h2;cases hx:pL l i with
 |none=>rw[hx]at h1;cases h1
 |some x=>
  rw[hx]at h1 h2;simp only[aK,aA,aB]at h1 h2;obtain⟨y,g1,g2⟩:=h i x hx;subst h1;obtain⟨rfl,rfl⟩:=h2;simp only[tT,g1,g2]
def wR{P C:Program}(h:C.funcs.toList.all (pZ P)=true){l:List (Nat×cM)}(hb: ∀f x,vZ l f=some x->∃fn c,C.funcs[f]?=some fn/\fn.body=some c):Gs P C (tT C l):=by
 intro f c rs hf;unfold tT at hf;split at hf<;>try cases hf
 rename_i x hx;obtain⟨fn,cd,h1,h2⟩:=hb f x hx;have e1:iT C f=cd:=by simp only[iT,h1,h2,Option.getD_some]
 refine⟨fn,h1,by rw[h2,(rD _ _).1,e1],by simp only[rO,h1],(rD _ _).2,?_⟩
 rw[bJ]at h;have:=h fn (by have:=Array.mem_of_getElem? h1;simpa using this)
 simp only[pZ,h2,aC]at this;rw[(rD _ _).1,e1];exact this.1
section
variable{U:gT}{T:TP U.D}{W:Type}{c:kX U.D}{L:Nat}
def G0{f g:TS U.D->TM U.D->TK U.D W->Option W}(h: ∀S M K,f S M K=g S M K)(K:TK U.D W):Do U f K=Do U g K:=by
 funext fl S M;cases fl<;>first|exact h S M K|rfl
def aMC: ∀(code:TC) (S:TS U.D) (M:TM U.D) (K:TK U.D W),kI U T c (Dx U T c L) (Ex U T c L) code S M K=fM U T c L code S M K:=by
 intro code;induction code with
 |seq a b cy fi=>intro S M K;simp only[kI,fM];rw[cy,G0 fi]
 |cond x a b cy fi=>intro S M K;simp only[kI,fM,cy,fi]
 |block id a ih=>intro S M K;simp only[kI,fM,ih]
 |scope a ih=>intro S M K;simp only[kI,fM,ih]
 |ice t a ih=>intro S M K;simp only[kI,fM,ih]
 |_=>intro S M K;rfl
end
end Go.TV
namespace Go.TV
abbrev zS(n:Nat):Ty:= .sl (.rc n)
abbrev i6:Ty:= .int .i64
end Go.TV
namespace Go.TV
open Go.AI Go.PI
namespace G
structure Z where
 b:(List Int)
 pos:Int
structure Y where
 package:(List UInt8)
 name:(List UInt8)
inductive O where
 |mk (kind:Int) (num:(List UInt8)) (den:(List UInt8)) (sym:Y) (text:(List UInt8)) (pair:(List O))
def O.kind:O->Int|⟨x,_,_,_,_,_⟩=>x
def O.num:O->(List UInt8)|⟨_,x,_,_,_,_⟩=>x
def O.den:O->(List UInt8)|⟨_,_,x,_,_,_⟩=>x
def O.sym:O->Y|⟨_,_,_,x,_,_⟩=>x
def O.text:O->(List UInt8)|⟨_,_,_,_,x,_⟩=>x
def O.pair:O->(List O)|⟨_,_,_,_,_,x⟩=>x
inductive T where
 |mk (kind:Int) (name:Y) (value:O) (args:(List T))
def T.kind:T->Int|⟨x,_,_,_⟩=>x
def T.name:T->Y|⟨_,x,_,_⟩=>x
def T.value:T->O|⟨_,_,x,_⟩=>x
def T.args:T->(List T)|⟨_,_,_,x⟩=>x
structure I where
 var:Y
 term:T
structure F where
 name:Y
 params:(List Y)
 cls:Int
 guard:T
 body:T
 measure:T
structure A where
 name:(List UInt8)
 imports:(List Y)
structure M where
 name:Y
 params:(List Y)
 rest:Bool
 body:T
structure D where
 name:Y
 length:Int
 initial:O
structure B where
 name:Y
 fields:(List D)
structure C where
 tests:(List T)
 substs:(List (List I))
structure J where
 name:Y
 params:(List Y)
 body:T
structure N where
 rule:Int
 a:Int
 b:Int
 name:Y
 term:T
 measure:T
 clause:(List T)
 subst:(List I)
 lines:(List Int)
 cases:(List C)
 functional:(List J)
 weights:(List O)
structure Q where
 a0:Y
 a1:Y
structure U where
 name:Y
 cls:Int
 hyps:(List T)
 equiv:Y
 left:T
 right:T
 terms:(List T)
 tset:Int
 stops:(List Q)
 arg:Int
 inner:Y
inductive E where
 |mk (kind:Int) (name:Y) (package:A) (mac:M) (functions:(List F)) (formulas:(List T)) (logs:(List (List N))) (locl:(List E)) (stobj:B) (rules:(List U)) (enabled:(List Y)) (disabled:(List Y)) (text:(List UInt8)) (hash:Int)
def E.kind:E->Int|⟨x,_,_,_,_,_,_,_,_,_,_,_,_,_⟩=>x
def E.name:E->Y|⟨_,x,_,_,_,_,_,_,_,_,_,_,_,_⟩=>x
def E.package:E->A|⟨_,_,x,_,_,_,_,_,_,_,_,_,_,_⟩=>x
def E.mac:E->M|⟨_,_,_,x,_,_,_,_,_,_,_,_,_,_⟩=>x
def E.functions:E->(List F)|⟨_,_,_,_,x,_,_,_,_,_,_,_,_,_⟩=>x
def E.formulas:E->(List T)|⟨_,_,_,_,_,x,_,_,_,_,_,_,_,_⟩=>x
def E.logs:E->(List (List N))|⟨_,_,_,_,_,_,x,_,_,_,_,_,_,_⟩=>x
def E.locl:E->(List E)|⟨_,_,_,_,_,_,_,x,_,_,_,_,_,_⟩=>x
def E.stobj:E->B|⟨_,_,_,_,_,_,_,_,x,_,_,_,_,_⟩=>x
def E.rules:E->(List U)|⟨_,_,_,_,_,_,_,_,_,x,_,_,_,_⟩=>x
def E.enabled:E->(List Y)|⟨_,_,_,_,_,_,_,_,_,_,x,_,_,_⟩=>x
def E.disabled:E->(List Y)|⟨_,_,_,_,_,_,_,_,_,_,_,x,_,_⟩=>x
def E.text:E->(List UInt8)|⟨_,_,_,_,_,_,_,_,_,_,_,_,x,_⟩=>x
def E.hash:E->Int|⟨_,_,_,_,_,_,_,_,_,_,_,_,_,x⟩=>x
structure L where
 name:(List UInt8)
 formula:T
 cls:Int
structure S where
 var:Y
 value:O
structure X where
 err:Int
 pos:Int
structure K where
 kind:Int
 pos:Int
 package:(List UInt8)
 text:(List UInt8)
 den:(List UInt8)
structure P where
 l:(List A)
 current:(List UInt8)
 t:(List K)
 pos:Int
structure V where
 w:(List E)
 extra:(List F)
 left:Int
structure R where
 name:(List UInt8)
 arity:Int
structure W where
 w:(List E)
 left:Int
structure Integer where
 negative:Bool
 limbs:(List Int)
deriving instance DecidableEq for Y
def lM{α:Type}(e:α->List PV)(l:List α):List PV:=l.map λx=> .agg (e x)
def eSource(x:Z):List PV:=[dD 1 (List.map (λn=>PV.v (.int .u8 n)) x.b)]++ [.v (.int .i64 x.pos)]
def eSymbol(x:Y):List PV:=[.str x.package]++ [.str x.name]
mutual
def eObject:O->List PV
 |⟨x0,x1,x2,x3,x4,x5⟩=>[.v (.int .i64 x0)]++ [.str x1]++ [.str x2]++eSymbol x3++ [.str x4]++ [dD 7 (sV x5)]
def sV:List O->List PV
 |[]=>[]
 |x::l=> .agg (eObject x)::sV l
end
def lObject_map(l:List O):sV l=l.map λx=> .agg (eObject x):=by
 induction l with
 |nil=>simp only[sV,List.map_nil]
 |cons x l ih=>simp only[sV,ih,aO]
mutual
def eTerm:T->List PV
 |⟨x0,x1,x2,x3⟩=>[.v (.int .i64 x0)]++eSymbol x1++eObject x2++ [dD 11 (tX x3)]
def tX:List T->List PV
 |[]=>[]
 |x::l=> .agg (eTerm x)::tX l
end
def lTerm_map(l:List T):tX l=l.map λx=> .agg (eTerm x):=by
 induction l with
 |nil=>simp only[tX,List.map_nil]
 |cons x l ih=>simp only[tX,ih,aO]
def eAssign(x:I):List PV:=eSymbol x.var++eTerm x.term
def eFunction(x:F):List PV:=eSymbol x.name++ [dD 2 (lM eSymbol x.params)]++ [.v (.int .i64 x.cls)]++eTerm x.guard++eTerm x.body++eTerm x.measure
def ePackage(x:A):List PV:=[.str x.name]++ [dD 2 (lM eSymbol x.imports)]
def eMacro(x:M):List PV:=eSymbol x.name++ [dD 2 (lM eSymbol x.params)]++ [.v (.bool x.rest)]++eTerm x.body
def eField(x:D):List PV:=eSymbol x.name++ [.v (.int .i64 x.length)]++eObject x.initial
def eStobj(x:B):List PV:=eSymbol x.name++ [dD 10 (lM eField x.fields)]
def eCase(x:C):List PV:=[dD 11 (tX x.tests)]++ [dD 1 (List.map (λl=>dD 13 (lM eAssign l)) x.substs)]
def eLambda(x:J):List PV:=eSymbol x.name++ [dD 2 (lM eSymbol x.params)]++eTerm x.body
def eLine(x:N):List PV:=[.v (.int .i64 x.rule)]++ [.v (.int .i64 x.a)]++ [.v (.int .i64 x.b)]++eSymbol x.name++eTerm x.term++eTerm x.measure++ [dD 11 (tX x.clause)]++ [dD 13 (lM eAssign x.subst)]++ [dD 1 (List.map (λn=>PV.v (.int .i64 n)) x.lines)]++ [dD 2 (lM eCase x.cases)]++ [dD 14 (lM eLambda x.functional)]++ [dD 7 (sV x.weights)]
def ePairSymbol(x:Q):List PV:=eSymbol x.a0++eSymbol x.a1
def eRule(x:U):List PV:=eSymbol x.name++ [.v (.int .i64 x.cls)]++ [dD 11 (tX x.hyps)]++eSymbol x.equiv++eTerm x.left++eTerm x.right++ [dD 11 (tX x.terms)]++ [.v (.int .i64 x.tset)]++ [dD 4 (lM ePairSymbol x.stops)]++ [.v (.int .i64 x.arg)]++eSymbol x.inner
mutual
def eEntry:E->List PV
 |⟨x0,x1,x2,x3,x4,x5,x6,x7,x8,x9,x10,x11,x12,x13⟩=>[.v (.int .i64 x0)]++eSymbol x1++ePackage x2++eMacro x3++ [dD 37 (lM eFunction x4)]++ [dD 11 (tX x5)]++ [dD 1 (List.map (λl=>dD 33 (lM eLine l)) x6)]++ [dD 32 (uM x7)]++eStobj x8++ [dD 34 (lM eRule x9)]++ [dD 2 (lM eSymbol x10)]++ [dD 2 (lM eSymbol x11)]++ [.str x12]++ [.v (.int .u64 x13)]
def uM:List E->List PV
 |[]=>[]
 |x::l=> .agg (eEntry x)::uM l
end
def lEntry_map(l:List E):uM l=l.map λx=> .agg (eEntry x):=by
 induction l with
 |nil=>simp only[uM,List.map_nil]
 |cons x l ih=>simp only[uM,ih,aO]
def eLemma(x:L):List PV:=[.str x.name]++eTerm x.formula++ [.v (.int .i64 x.cls)]
def eBinding(x:S):List PV:=eSymbol x.var++eObject x.value
def eSourceError(x:X):List PV:=[.v (.int .i64 x.err)]++ [.v (.int .i64 x.pos)]
def eToken(x:K):List PV:=[.v (.int .i64 x.kind)]++ [.v (.int .i64 x.pos)]++ [.str x.package]++ [.str x.text]++ [.str x.den]
def eParser(x:P):List PV:=[dD 2 (lM ePackage x.l)]++ [.str x.current]++ [dD 5 (lM eToken x.t)]++ [.v (.int .i64 x.pos)]
def eTranslator(x:V):List PV:=[dD 32 (uM x.w)]++ [dD 37 (lM eFunction x.extra)]++ [.v (.int .i64 x.left)]
def eRow(x:R):List PV:=[.str x.name]++ [.v (.int .i64 x.arity)]
def eEvaluator(x:W):List PV:=[dD 32 (uM x.w)]++ [.v (.int .i64 x.left)]
def eInteger(x:Integer):List PV:=[.v (.bool x.negative)]++ [dD 1 (List.map (λn=>PV.v (.int .u32 n)) x.limbs)]
end G
@[reducible] def D0:Nat->Type
 |0=>G.Z
 |1=>G.Y
 |2=>G.O
 |3=>G.T
 |4=>G.I
 |5=>G.F
 |6=>G.A
 |7=>G.M
 |8=>G.D
 |9=>G.B
 |10=>G.C
 |11=>G.J
 |12=>G.N
 |13=>G.Q
 |14=>G.U
 |15=>G.E
 |16=>G.L
 |17=>G.S
 |18=>G.X
 |19=>G.K
 |20=>G.P
 |21=>G.V
 |22=>G.R
 |23=>G.W
 |_+24=>G.Integer
def a2j:Nat->List Ty
 |0=>[(.sl (.int .u8)),i6]
 |1=>[.str,.str]
 |2=>[i6,.str,.str,.rc 1,.str,zS 2]
 |3=>[i6,.rc 1,.rc 2,zS 3]
 |4=>[.rc 1,.rc 3]
 |5=>[.rc 1,zS 1,i6,.rc 3,.rc 3,.rc 3]
 |6=>[.str,zS 1]
 |7=>[.rc 1,zS 1,.bool,.rc 3]
 |8=>[.rc 1,i6,.rc 2]
 |9=>[.rc 1,zS 8]
 |10=>[zS 3,.sl (zS 4)]
 |11=>[.rc 1,zS 1,.rc 3]
 |12=>[i6,i6,i6,.rc 1,.rc 3,.rc 3,zS 3,zS 4,.sl i6,zS 10,zS 11,zS 2]
 |13=>[.rc 1,.rc 1]
 |14=>[.rc 1,i6,zS 3,.rc 1,.rc 3,.rc 3,zS 3,i6,zS 13,i6,.rc 1]
 |15=>[i6,.rc 1,.rc 6,.rc 7,zS 5,zS 3,.sl (zS 12),zS 15,.rc 9,zS 14,zS 1,zS 1,.str,(.int .u64)]
 |16=>[.str,.rc 3,i6]
 |17=>[.rc 1,.rc 2]
 |18=>[i6,i6]
 |19=>[i6,i6,.str,.str,.str]
 |20=>[zS 6,.str,zS 19,i6]
 |21=>[zS 15,zS 5,i6]
 |22=>[.str,i6]
 |23=>[zS 15,i6]
 |_+24=>[.bool,(.sl (.int .u32))]
def lP:(n:Nat)->D0 n->List (TV D0)
 |0,x=>[⟨(.sl (.int .u8)),G.Z.b x⟩,⟨i6,G.Z.pos x⟩]
 |1,x=>[⟨.str,G.Y.package x⟩,⟨.str,G.Y.name x⟩]
 |2,x=>[⟨i6,G.O.kind x⟩,⟨.str,G.O.num x⟩,⟨.str,G.O.den x⟩,⟨.rc 1,G.O.sym x⟩,⟨.str,G.O.text x⟩,⟨zS 2,G.O.pair x⟩]
 |3,x=>[⟨i6,G.T.kind x⟩,⟨.rc 1,G.T.name x⟩,⟨.rc 2,G.T.value x⟩,⟨zS 3,G.T.args x⟩]
 |4,x=>[⟨.rc 1,G.I.var x⟩,⟨.rc 3,G.I.term x⟩]
 |5,x=>[⟨.rc 1,G.F.name x⟩,⟨zS 1,G.F.params x⟩,⟨i6,G.F.cls x⟩,⟨.rc 3,G.F.guard x⟩,⟨.rc 3,G.F.body x⟩,⟨.rc 3,G.F.measure x⟩]
 |6,x=>[⟨.str,G.A.name x⟩,⟨zS 1,G.A.imports x⟩]
 |7,x=>[⟨.rc 1,G.M.name x⟩,⟨zS 1,G.M.params x⟩,⟨.bool,G.M.rest x⟩,⟨.rc 3,G.M.body x⟩]
 |8,x=>[⟨.rc 1,G.D.name x⟩,⟨i6,G.D.length x⟩,⟨.rc 2,G.D.initial x⟩]
 |9,x=>[⟨.rc 1,G.B.name x⟩,⟨zS 8,G.B.fields x⟩]
 |10,x=>[⟨zS 3,G.C.tests x⟩,⟨.sl (zS 4),G.C.substs x⟩]
 |11,x=>[⟨.rc 1,G.J.name x⟩,⟨zS 1,G.J.params x⟩,⟨.rc 3,G.J.body x⟩]
 |12,x=>[⟨i6,G.N.rule x⟩,⟨i6,G.N.a x⟩,⟨i6,G.N.b x⟩,⟨.rc 1,G.N.name x⟩,⟨.rc 3,G.N.term x⟩,⟨.rc 3,G.N.measure x⟩,⟨zS 3,G.N.clause x⟩,⟨zS 4,G.N.subst x⟩,⟨.sl i6,G.N.lines x⟩,⟨zS 10,G.N.cases x⟩,⟨zS 11,G.N.functional x⟩,⟨zS 2,G.N.weights x⟩]
 |13,x=>[⟨.rc 1,G.Q.a0 x⟩,⟨.rc 1,G.Q.a1 x⟩]
 |14,x=>[⟨.rc 1,G.U.name x⟩,⟨i6,G.U.cls x⟩,⟨zS 3,G.U.hyps x⟩,⟨.rc 1,G.U.equiv x⟩,⟨.rc 3,G.U.left x⟩,⟨.rc 3,G.U.right x⟩,⟨zS 3,G.U.terms x⟩,⟨i6,G.U.tset x⟩,⟨zS 13,G.U.stops x⟩,⟨i6,G.U.arg x⟩,⟨.rc 1,G.U.inner x⟩]
 |15,x=>[⟨i6,G.E.kind x⟩,⟨.rc 1,G.E.name x⟩,⟨.rc 6,G.E.package x⟩,⟨.rc 7,G.E.mac x⟩,⟨zS 5,G.E.functions x⟩,⟨zS 3,G.E.formulas x⟩,⟨.sl (zS 12),G.E.logs x⟩,⟨zS 15,G.E.locl x⟩,⟨.rc 9,G.E.stobj x⟩,⟨zS 14,G.E.rules x⟩,⟨zS 1,G.E.enabled x⟩,⟨zS 1,G.E.disabled x⟩,⟨.str,G.E.text x⟩,⟨(.int .u64),G.E.hash x⟩]
 |16,x=>[⟨.str,G.L.name x⟩,⟨.rc 3,G.L.formula x⟩,⟨i6,G.L.cls x⟩]
 |17,x=>[⟨.rc 1,G.S.var x⟩,⟨.rc 2,G.S.value x⟩]
 |18,x=>[⟨i6,G.X.err x⟩,⟨i6,G.X.pos x⟩]
 |19,x=>[⟨i6,G.K.kind x⟩,⟨i6,G.K.pos x⟩,⟨.str,G.K.package x⟩,⟨.str,G.K.text x⟩,⟨.str,G.K.den x⟩]
 |20,x=>[⟨zS 6,G.P.l x⟩,⟨.str,G.P.current x⟩,⟨zS 19,G.P.t x⟩,⟨i6,G.P.pos x⟩]
 |21,x=>[⟨zS 15,G.V.w x⟩,⟨zS 5,G.V.extra x⟩,⟨i6,G.V.left x⟩]
 |22,x=>[⟨.str,G.R.name x⟩,⟨i6,G.R.arity x⟩]
 |23,x=>[⟨zS 15,G.W.w x⟩,⟨i6,G.W.left x⟩]
 |_+24,x=>[⟨.bool,G.Integer.negative x⟩,⟨(.sl (.int .u32)),G.Integer.limbs x⟩]
def a3A:(n:Nat)->List (TV D0)->Option (D0 n)
 |0,l=>match fH (D:=D0) [(.sl (.int .u8)),i6] l with|some r=>some (⟨r.1,r.2.1⟩:G.Z)|none=>none
 |1,l=>match fH (D:=D0) [.str,.str] l with|some r=>some (⟨r.1,r.2.1⟩:G.Y)|none=>none
 |2,l=>match fH (D:=D0) [i6,.str,.str,.rc 1,.str,zS 2] l with|some r=>some (⟨r.1,r.2.1,r.2.2.1,r.2.2.2.1,r.2.2.2.2.1,r.2.2.2.2.2.1⟩:G.O)|none=>none
 |3,l=>match fH (D:=D0) [i6,.rc 1,.rc 2,zS 3] l with|some r=>some (⟨r.1,r.2.1,r.2.2.1,r.2.2.2.1⟩:G.T)|none=>none
 |4,l=>match fH (D:=D0) [.rc 1,.rc 3] l with|some r=>some (⟨r.1,r.2.1⟩:G.I)|none=>none
 |5,l=>match fH (D:=D0) [.rc 1,zS 1,i6,.rc 3,.rc 3,.rc 3] l with|some r=>some (⟨r.1,r.2.1,r.2.2.1,r.2.2.2.1,r.2.2.2.2.1,r.2.2.2.2.2.1⟩:G.F)|none=>none
 |6,l=>match fH (D:=D0) [.str,zS 1] l with|some r=>some (⟨r.1,r.2.1⟩:G.A)|none=>none
 |7,l=>match fH (D:=D0) [.rc 1,zS 1,.bool,.rc 3] l with|some r=>some (⟨r.1,r.2.1,r.2.2.1,r.2.2.2.1⟩:G.M)|none=>none
 |8,l=>match fH (D:=D0) [.rc 1,i6,.rc 2] l with|some r=>some (⟨r.1,r.2.1,r.2.2.1⟩:G.D)|none=>none
 |9,l=>match fH (D:=D0) [.rc 1,zS 8] l with|some r=>some (⟨r.1,r.2.1⟩:G.B)|none=>none
 |10,l=>match fH (D:=D0) [zS 3,.sl (zS 4)] l with|some r=>some (⟨r.1,r.2.1⟩:G.C)|none=>none
 |11,l=>match fH (D:=D0) [.rc 1,zS 1,.rc 3] l with|some r=>some (⟨r.1,r.2.1,r.2.2.1⟩:G.J)|none=>none
 |12,l=>match fH (D:=D0) [i6,i6,i6,.rc 1,.rc 3,.rc 3,zS 3,zS 4,.sl i6,zS 10,zS 11,zS 2] l with|some r=>some (⟨r.1,r.2.1,r.2.2.1,r.2.2.2.1,r.2.2.2.2.1,r.2.2.2.2.2.1,r.2.2.2.2.2.2.1,r.2.2.2.2.2.2.2.1,r.2.2.2.2.2.2.2.2.1,r.2.2.2.2.2.2.2.2.2.1,r.2.2.2.2.2.2.2.2.2.2.1,r.2.2.2.2.2.2.2.2.2.2.2.1⟩:G.N)|none=>none
 |13,l=>match fH (D:=D0) [.rc 1,.rc 1] l with|some r=>some (⟨r.1,r.2.1⟩:G.Q)|none=>none
 |14,l=>match fH (D:=D0) [.rc 1,i6,zS 3,.rc 1,.rc 3,.rc 3,zS 3,i6,zS 13,i6,.rc 1] l with|some r=>some (⟨r.1,r.2.1,r.2.2.1,r.2.2.2.1,r.2.2.2.2.1,r.2.2.2.2.2.1,r.2.2.2.2.2.2.1,r.2.2.2.2.2.2.2.1,r.2.2.2.2.2.2.2.2.1,r.2.2.2.2.2.2.2.2.2.1,r.2.2.2.2.2.2.2.2.2.2.1⟩:G.U)|none=>none
 |15,l=>match fH (D:=D0) [i6,.rc 1,.rc 6,.rc 7,zS 5,zS 3,.sl (zS 12),zS 15,.rc 9,zS 14,zS 1,zS 1,.str,(.int .u64)] l with|some r=>some (⟨r.1,r.2.1,r.2.2.1,r.2.2.2.1,r.2.2.2.2.1,r.2.2.2.2.2.1,r.2.2.2.2.2.2.1,r.2.2.2.2.2.2.2.1,r.2.2.2.2.2.2.2.2.1,r.2.2.2.2.2.2.2.2.2.1,r.2.2.2.2.2.2.2.2.2.2.1,r.2.2.2.2.2.2.2.2.2.2.2.1,r.2.2.2.2.2.2.2.2.2.2.2.2.1,r.2.2.2.2.2.2.2.2.2.2.2.2.2.1⟩:G.E)|none=>none
 |16,l=>match fH (D:=D0) [.str,.rc 3,i6] l with|some r=>some (⟨r.1,r.2.1,r.2.2.1⟩:G.L)|none=>none
 |17,l=>match fH (D:=D0) [.rc 1,.rc 2] l with|some r=>some (⟨r.1,r.2.1⟩:G.S)|none=>none
 |18,l=>match fH (D:=D0) [i6,i6] l with|some r=>some (⟨r.1,r.2.1⟩:G.X)|none=>none
 |19,l=>match fH (D:=D0) [i6,i6,.str,.str,.str] l with|some r=>some (⟨r.1,r.2.1,r.2.2.1,r.2.2.2.1,r.2.2.2.2.1⟩:G.K)|none=>none
 |20,l=>match fH (D:=D0) [zS 6,.str,zS 19,i6] l with|some r=>some (⟨r.1,r.2.1,r.2.2.1,r.2.2.2.1⟩:G.P)|none=>none
 |21,l=>match fH (D:=D0) [zS 15,zS 5,i6] l with|some r=>some (⟨r.1,r.2.1,r.2.2.1⟩:G.V)|none=>none
 |22,l=>match fH (D:=D0) [.str,i6] l with|some r=>some (⟨r.1,r.2.1⟩:G.R)|none=>none
 |23,l=>match fH (D:=D0) [zS 15,i6] l with|some r=>some (⟨r.1,r.2.1⟩:G.W)|none=>none
 |_+24,l=>match fH (D:=D0) [.bool,(.sl (.int .u32))] l with|some r=>some (⟨r.1,r.2.1⟩:G.Integer)|none=>none
def fG:(n:Nat)->D0 n->List PV
 |0,x=>G.eSource x
 |1,x=>G.eSymbol x
 |2,x=>G.eObject x
 |3,x=>G.eTerm x
 |4,x=>G.eAssign x
 |5,x=>G.eFunction x
 |6,x=>G.ePackage x
 |7,x=>G.eMacro x
 |8,x=>G.eField x
 |9,x=>G.eStobj x
 |10,x=>G.eCase x
 |11,x=>G.eLambda x
 |12,x=>G.eLine x
 |13,x=>G.ePairSymbol x
 |14,x=>G.eRule x
 |15,x=>G.eEntry x
 |16,x=>G.eLemma x
 |17,x=>G.eBinding x
 |18,x=>G.eSourceError x
 |19,x=>G.eToken x
 |20,x=>G.eParser x
 |21,x=>G.eTranslator x
 |22,x=>G.eRow x
 |23,x=>G.eEvaluator x
 |_+24,x=>G.eInteger x
def eq0:(n:Nat)->Option (D0 n->D0 n->Bool)
 |0=>none
 |1=>some λ(a b:G.Y)=>decide (a=b)
 |2=>none
 |3=>none
 |4=>none
 |5=>none
 |6=>none
 |7=>none
 |8=>none
 |9=>none
 |10=>none
 |11=>none
 |12=>none
 |13=>none
 |14=>none
 |15=>none
 |16=>none
 |17=>none
 |18=>none
 |19=>none
 |20=>none
 |21=>none
 |22=>none
 |23=>none
 |_+24=>none
def aON:(n:Nat)->D0 n
 |0=>(⟨[],0⟩:G.Z)
 |1=>(⟨[],[]⟩:G.Y)
 |2=>(⟨0,[],[],⟨[],[]⟩,[],[]⟩:G.O)
 |3=>(⟨0,⟨[],[]⟩,⟨0,[],[],⟨[],[]⟩,[],[]⟩,[]⟩:G.T)
 |4=>(⟨⟨[],[]⟩,⟨0,⟨[],[]⟩,⟨0,[],[],⟨[],[]⟩,[],[]⟩,[]⟩⟩:G.I)
 |5=>(⟨⟨[],[]⟩,[],0,⟨0,⟨[],[]⟩,⟨0,[],[],⟨[],[]⟩,[],[]⟩,[]⟩,⟨0,⟨[],[]⟩,⟨0,[],[],⟨[],[]⟩,[],[]⟩,[]⟩,⟨0,⟨[],[]⟩,⟨0,[],[],⟨[],[]⟩,[],[]⟩,[]⟩⟩:G.F)
 |6=>(⟨[],[]⟩:G.A)
 |7=>(⟨⟨[],[]⟩,[],false,⟨0,⟨[],[]⟩,⟨0,[],[],⟨[],[]⟩,[],[]⟩,[]⟩⟩:G.M)
 |8=>(⟨⟨[],[]⟩,0,⟨0,[],[],⟨[],[]⟩,[],[]⟩⟩:G.D)
 |9=>(⟨⟨[],[]⟩,[]⟩:G.B)
 |10=>(⟨[],[]⟩:G.C)
 |11=>(⟨⟨[],[]⟩,[],⟨0,⟨[],[]⟩,⟨0,[],[],⟨[],[]⟩,[],[]⟩,[]⟩⟩:G.J)
 |12=>(⟨0,0,0,⟨[],[]⟩,⟨0,⟨[],[]⟩,⟨0,[],[],⟨[],[]⟩,[],[]⟩,[]⟩,⟨0,⟨[],[]⟩,⟨0,[],[],⟨[],[]⟩,[],[]⟩,[]⟩,[],[],[],[],[],[]⟩:G.N)
 |13=>(⟨⟨[],[]⟩,⟨[],[]⟩⟩:G.Q)
 |14=>(⟨⟨[],[]⟩,0,[],⟨[],[]⟩,⟨0,⟨[],[]⟩,⟨0,[],[],⟨[],[]⟩,[],[]⟩,[]⟩,⟨0,⟨[],[]⟩,⟨0,[],[],⟨[],[]⟩,[],[]⟩,[]⟩,[],0,[],0,⟨[],[]⟩⟩:G.U)
 |15=>(⟨0,⟨[],[]⟩,⟨[],[]⟩,⟨⟨[],[]⟩,[],false,⟨0,⟨[],[]⟩,⟨0,[],[],⟨[],[]⟩,[],[]⟩,[]⟩⟩,[],[],[],[],⟨⟨[],[]⟩,[]⟩,[],[],[],[],0⟩:G.E)
 |16=>(⟨[],⟨0,⟨[],[]⟩,⟨0,[],[],⟨[],[]⟩,[],[]⟩,[]⟩,0⟩:G.L)
 |17=>(⟨⟨[],[]⟩,⟨0,[],[],⟨[],[]⟩,[],[]⟩⟩:G.S)
 |18=>(⟨0,0⟩:G.X)
 |19=>(⟨0,0,[],[],[]⟩:G.K)
 |20=>(⟨[],[],[],0⟩:G.P)
 |21=>(⟨[],[],0⟩:G.V)
 |22=>(⟨[],0⟩:G.R)
 |23=>(⟨[],0⟩:G.W)
 |_+24=>(⟨false,[]⟩:G.Integer)
def lQ:Nat->Nat
 |0=>2
 |1=>2
 |2=>7
 |3=>11
 |4=>13
 |5=>37
 |6=>2
 |7=>15
 |8=>10
 |9=>3
 |10=>2
 |11=>14
 |12=>33
 |13=>4
 |14=>34
 |15=>32
 |16=>13
 |17=>9
 |18=>2
 |19=>5
 |20=>4
 |21=>3
 |22=>2
 |23=>2
 |_+24=>2
def lt0:Nat->List Ty
 |0=>[(.sl (.int .u8)),i6]
 |1=>[.str,.str]
 |2=>[i6,.str,.str,.str,.str,.str,zS 2]
 |3=>[i6,.str,.str,i6,.str,.str,.str,.str,.str,zS 2,zS 3]
 |4=>[.str,.str,i6,.str,.str,i6,.str,.str,.str,.str,.str,zS 2,zS 3]
 |5=>[.str,.str,zS 1,i6,i6,.str,.str,i6,.str,.str,.str,.str,.str,zS 2,zS 3,i6,.str,.str,i6,.str,.str,.str,.str,.str,zS 2,zS 3,i6,.str,.str,i6,.str,.str,.str,.str,.str,zS 2,zS 3]
 |6=>[.str,zS 1]
 |7=>[.str,.str,zS 1,.bool,i6,.str,.str,i6,.str,.str,.str,.str,.str,zS 2,zS 3]
 |8=>[.str,.str,i6,i6,.str,.str,.str,.str,.str,zS 2]
 |9=>[.str,.str,zS 8]
 |10=>[zS 3,.sl (zS 4)]
 |11=>[.str,.str,zS 1,i6,.str,.str,i6,.str,.str,.str,.str,.str,zS 2,zS 3]
 |12=>[i6,i6,i6,.str,.str,i6,.str,.str,i6,.str,.str,.str,.str,.str,zS 2,zS 3,i6,.str,.str,i6,.str,.str,.str,.str,.str,zS 2,zS 3,zS 3,zS 4,.sl i6,zS 10,zS 11,zS 2]
 |13=>[.str,.str,.str,.str]
 |14=>[.str,.str,i6,zS 3,.str,.str,i6,.str,.str,i6,.str,.str,.str,.str,.str,zS 2,zS 3,i6,.str,.str,i6,.str,.str,.str,.str,.str,zS 2,zS 3,zS 3,i6,zS 13,i6,.str,.str]
 |15=>[i6,.str,.str,.str,zS 1,.str,.str,zS 1,.bool,i6,.str,.str,i6,.str,.str,.str,.str,.str,zS 2,zS 3,zS 5,zS 3,.sl (zS 12),zS 15,.str,.str,zS 8,zS 14,zS 1,zS 1,.str,(.int .u64)]
 |16=>[.str,i6,.str,.str,i6,.str,.str,.str,.str,.str,zS 2,zS 3,i6]
 |17=>[.str,.str,i6,.str,.str,.str,.str,.str,zS 2]
 |18=>[i6,i6]
 |19=>[i6,i6,.str,.str,.str]
 |20=>[zS 6,.str,zS 19,i6]
 |21=>[zS 15,zS 5,i6]
 |22=>[.str,i6]
 |23=>[zS 15,i6]
 |_+24=>[.bool,(.sl (.int .u32))]
def U0:gT:=⟨D0,a2j,lP,a3A,fG,eq0,aON,lQ,lt0⟩
def a2d(x:Value):gd (.v x)=true:=rfl
def aVD(s:List UInt8):gd (.str s)=true:=rfl
def dN(z:Nat)(l:List PV):(dD z l).cells=[dD z l]:=mO (eJ _ _)
def eC(x:Value):(PV.v x).cells=[.v x]:=rfl
def dM(x:List UInt8):(PV.str x).cells=[.str x]:=rfl
def dO(x:List PV):(PV.agg x).cells=x:=rfl
def aTC: ∀x:D0 0,(fG 0 x).length=lQ 0:=λ(x:G.Z)=>by rfl
def aGh: ∀x:D0 1,(fG 1 x).length=lQ 1:=λ(x:G.Y)=>by rfl
def fO: ∀y:G.Y,(G.eSymbol y).length=2:=aGh
def aGg: ∀x:D0 2,(fG 2 x).length=lQ 2:=λ(x:G.O)=>by
 cases x;show(G.eObject _).length=7;simp only[G.eObject,aZ,aM,aX,fO]
def xG: ∀y:G.O,(G.eObject y).length=7:=aGg
def aGf: ∀x:D0 3,(fG 3 x).length=lQ 3:=λ(x:G.T)=>by
 cases x;show(G.eTerm _).length=11;simp only[G.eTerm,aZ,aM,aX,fO,xG]
def qG: ∀y:G.T,(G.eTerm y).length=11:=aGf
def aTB: ∀x:D0 4,(fG 4 x).length=lQ 4:=λ(x:G.I)=>by
 show(G.eAssign _).length=13;simp only[G.eAssign,aZ,aM,aX,fO,qG]
def aTA: ∀x:D0 5,(fG 5 x).length=lQ 5:=λ(x:G.F)=>by
 show(G.eFunction _).length=37;simp only[G.eFunction,aZ,aM,aX,fO,qG]
def aGe: ∀x:D0 6,(fG 6 x).length=lQ 6:=λ(x:G.A)=>by rfl
def LD: ∀y:G.A,(G.ePackage y).length=2:=aGe
def aGd: ∀x:D0 7,(fG 7 x).length=lQ 7:=λ(x:G.M)=>by
 show(G.eMacro _).length=15;simp only[G.eMacro,aZ,aM,aX,fO,qG]
def VZ: ∀y:G.M,(G.eMacro y).length=15:=aGd
def aTz: ∀x:D0 8,(fG 8 x).length=lQ 8:=λ(x:G.D)=>by
 show(G.eField _).length=10;simp only[G.eField,aZ,aM,aX,fO,xG]
def aGc: ∀x:D0 9,(fG 9 x).length=lQ 9:=λ(x:G.B)=>by
 show(G.eStobj _).length=3;simp only[G.eStobj,aZ,aM,aX,fO]
def VY: ∀y:G.B,(G.eStobj y).length=3:=aGc
def aLQ: ∀x:D0 10,(fG 10 x).length=lQ 10:=λ(x:G.C)=>by rfl
def aLP: ∀x:D0 11,(fG 11 x).length=lQ 11:=λ(x:G.J)=>by
 show(G.eLambda _).length=14;simp only[G.eLambda,aZ,aM,aX,fO,qG]
def aLO: ∀x:D0 12,(fG 12 x).length=lQ 12:=λ(x:G.N)=>by
 show(G.eLine _).length=33;simp only[G.eLine,aZ,aM,aX,fO,qG]
def aLN: ∀x:D0 13,(fG 13 x).length=lQ 13:=λ(x:G.Q)=>by
 show(G.ePairSymbol _).length=4;simp only[G.ePairSymbol,aZ,aM,aX,fO]
def aLM: ∀x:D0 14,(fG 14 x).length=lQ 14:=λ(x:G.U)=>by
 show(G.eRule _).length=34;simp only[G.eRule,aZ,aM,aX,fO,qG]
def aLL: ∀x:D0 15,(fG 15 x).length=lQ 15:=λ(x:G.E)=>by
 cases x;show(G.eEntry _).length=32;simp only[G.eEntry,aZ,aM,aX,fO,LD,VZ,VY]
def aLK: ∀x:D0 16,(fG 16 x).length=lQ 16:=λ(x:G.L)=>by
 show(G.eLemma _).length=13;simp only[G.eLemma,aZ,aM,aX,qG]
def aLJ: ∀x:D0 17,(fG 17 x).length=lQ 17:=λ(x:G.S)=>by
 show(G.eBinding _).length=9;simp only[G.eBinding,aZ,aM,aX,fO,xG]
def aLI: ∀x:D0 18,(fG 18 x).length=lQ 18:=λ(x:G.X)=>by rfl
def aLH: ∀x:D0 19,(fG 19 x).length=lQ 19:=λ(x:G.K)=>by rfl
def aLG: ∀x:D0 20,(fG 20 x).length=lQ 20:=λ(x:G.P)=>by rfl
def aLF: ∀x:D0 21,(fG 21 x).length=lQ 21:=λ(x:G.V)=>by rfl
def aLE: ∀x:D0 22,(fG 22 x).length=lQ 22:=λ(x:G.R)=>by rfl
def aLD: ∀x:D0 23,(fG 23 x).length=lQ 23:=λ(x:G.W)=>by rfl
def aLC(k:Nat): ∀x:D0 (k+24),(fG (k+24) x).length=lQ (k+24):=λ(x:G.Integer)=>by rfl
def Af:(∀(a b:List PV) (p:PV->Bool),(a++b).all p=(a.all p&&b.all p))/\(∀(a:PV) (l:List PV) (p:PV->Bool),(a::l).all p=(p a&&l.all p))/\(∀p:PV->Bool,([]:List PV).all p=true)/\(∀(z:Nat) (l:List PV),gd (dD z l)=true)/\(∀x:Value,gd (.v x)=true)/\(∀s:List UInt8,gd (.str s)=true)/\(∀b:Bool,(b&&b)=b)/\∀b:Bool,(b&&true)=b:=⟨λ_ _ _=>List.all_append,λ_ _ _=>aP,λ_=>List.all_nil,eJ,a2d,aVD,Bool.and_self,bE⟩
def a2h: ∀x:D0 0,(fG 0 x).all gd=true:=λ(x:G.Z)=>by
 show(G.eSource _).all gd=true;simp only[G.eSource,Af]
def aVY: ∀x:D0 1,(fG 1 x).all gd=true:=λ(x:G.Y)=>by
 show(G.eSymbol _).all gd=true;simp only[G.eSymbol,Af]
def gM: ∀y:G.Y,(G.eSymbol y).all gd=true:=aVY
def aVN: ∀x:D0 2,(fG 2 x).all gd=true:=λ(x:G.O)=>by
 cases x;show(G.eObject _).all gd=true;simp only[G.eObject,Af,gM]
def BG: ∀y:G.O,(G.eObject y).all gd=true:=aVN
def aVH: ∀x:D0 3,(fG 3 x).all gd=true:=λ(x:G.T)=>by
 cases x;show(G.eTerm _).all gd=true;simp only[G.eTerm,Af,gM,BG]
def uN: ∀y:G.T,(G.eTerm y).all gd=true:=aVH
def a2g: ∀x:D0 4,(fG 4 x).all gd=true:=λ(x:G.I)=>by
 show(G.eAssign _).all gd=true;simp only[G.eAssign,Af,gM,uN]
def a2f: ∀x:D0 5,(fG 5 x).all gd=true:=λ(x:G.F)=>by
 show(G.eFunction _).all gd=true;simp only[G.eFunction,Af,gM,uN]
def aVG: ∀x:D0 6,(fG 6 x).all gd=true:=λ(x:G.A)=>by
 show(G.ePackage _).all gd=true;simp only[G.ePackage,Af]
def SJ: ∀y:G.A,(G.ePackage y).all gd=true:=aVG
def aVF: ∀x:D0 7,(fG 7 x).all gd=true:=λ(x:G.M)=>by
 show(G.eMacro _).all gd=true;simp only[G.eMacro,Af,gM,uN]
def aCM: ∀y:G.M,(G.eMacro y).all gd=true:=aVF
def a2e: ∀x:D0 8,(fG 8 x).all gd=true:=λ(x:G.D)=>by
 show(G.eField _).all gd=true;simp only[G.eField,Af,gM,BG]
def aVE: ∀x:D0 9,(fG 9 x).all gd=true:=λ(x:G.B)=>by
 show(G.eStobj _).all gd=true;simp only[G.eStobj,Af,gM]
def aCL: ∀y:G.B,(G.eStobj y).all gd=true:=aVE
def aVX: ∀x:D0 10,(fG 10 x).all gd=true:=λ(x:G.C)=>by
 show(G.eCase _).all gd=true;simp only[G.eCase,Af]
def aVW: ∀x:D0 11,(fG 11 x).all gd=true:=λ(x:G.J)=>by
 show(G.eLambda _).all gd=true;simp only[G.eLambda,Af,gM,uN]
def aVV: ∀x:D0 12,(fG 12 x).all gd=true:=λ(x:G.N)=>by
 show(G.eLine _).all gd=true;simp only[G.eLine,Af,gM,uN]
def aVU: ∀x:D0 13,(fG 13 x).all gd=true:=λ(x:G.Q)=>by
 show(G.ePairSymbol _).all gd=true;simp only[G.ePairSymbol,Af,gM]
def aVT: ∀x:D0 14,(fG 14 x).all gd=true:=λ(x:G.U)=>by
 show(G.eRule _).all gd=true;simp only[G.eRule,Af,gM,uN]
def aVS: ∀x:D0 15,(fG 15 x).all gd=true:=λ(x:G.E)=>by
 cases x;show(G.eEntry _).all gd=true;simp only[G.eEntry,Af,gM,SJ,aCM,aCL]
def aVR: ∀x:D0 16,(fG 16 x).all gd=true:=λ(x:G.L)=>by
 show(G.eLemma _).all gd=true;simp only[G.eLemma,Af,uN]
def aVQ: ∀x:D0 17,(fG 17 x).all gd=true:=λ(x:G.S)=>by
 show(G.eBinding _).all gd=true;simp only[G.eBinding,Af,gM,BG]
def aVP: ∀x:D0 18,(fG 18 x).all gd=true:=λ(x:G.X)=>by
 show(G.eSourceError _).all gd=true;simp only[G.eSourceError,Af]
def aVO: ∀x:D0 19,(fG 19 x).all gd=true:=λ(x:G.K)=>by
 show(G.eToken _).all gd=true;simp only[G.eToken,Af]
def aVM: ∀x:D0 20,(fG 20 x).all gd=true:=λ(x:G.P)=>by
 show(G.eParser _).all gd=true;simp only[G.eParser,Af]
def aVL: ∀x:D0 21,(fG 21 x).all gd=true:=λ(x:G.V)=>by
 show(G.eTranslator _).all gd=true;simp only[G.eTranslator,Af]
def aVK: ∀x:D0 22,(fG 22 x).all gd=true:=λ(x:G.R)=>by
 show(G.eRow _).all gd=true;simp only[G.eRow,Af]
def aVJ: ∀x:D0 23,(fG 23 x).all gd=true:=λ(x:G.W)=>by
 show(G.eEvaluator _).all gd=true;simp only[G.eEvaluator,Af]
def aVI(k:Nat): ∀x:D0 (k+24),(fG (k+24) x).all gd=true:=λ(x:G.Integer)=>by
 show(G.eInteger _).all gd=true;simp only[G.eInteger,Af]
def aWe: ∀x:D0 0,fG 0 x=(lP 0 x).flatMap λv=>(dB U0 v.t v.x).cells:=λ(x:G.Z)=>by
 show G.eSource _=_;simp only[G.eSource,lP,aN,bB,dB,dN,eC,dM,dO,bA,aQ,aR,aY,aW,cZ,U0,lQ,fG,G.lObject_map,G.lTerm_map,G.lEntry_map,G.lM]
 try rfl
def aWd: ∀x:D0 1,fG 1 x=(lP 1 x).flatMap λv=>(dB U0 v.t v.x).cells:=λ(x:G.Y)=>by
 show G.eSymbol _=_;simp only[G.eSymbol,lP,aN,bB,dB,dN,eC,dM,dO,bA,aQ,aR,aY,aW,cZ,U0,lQ,fG,G.lObject_map,G.lTerm_map,G.lEntry_map,G.lM]
 try rfl
def aWc: ∀x:D0 2,fG 2 x=(lP 2 x).flatMap λv=>(dB U0 v.t v.x).cells:=λ(x:G.O)=>by
 cases x;show G.eObject _=_;simp only[G.eObject,lP,aN,bB,dB,dN,eC,dM,dO,bA,aQ,aR,aY,aW,cZ,U0,lQ,fG,G.lObject_map,G.lTerm_map,G.lEntry_map,G.lM,G.O.kind,G.O.num,G.O.den,G.O.sym,G.O.text,G.O.pair]
 try rfl
def aWb: ∀x:D0 3,fG 3 x=(lP 3 x).flatMap λv=>(dB U0 v.t v.x).cells:=λ(x:G.T)=>by
 cases x;show G.eTerm _=_;simp only[G.eTerm,lP,aN,bB,dB,dN,eC,dM,dO,bA,aQ,aR,aY,aW,cZ,U0,lQ,fG,G.lObject_map,G.lTerm_map,G.lEntry_map,G.lM,G.T.kind,G.T.name,G.T.value,G.T.args]
 try rfl
def aWa: ∀x:D0 4,fG 4 x=(lP 4 x).flatMap λv=>(dB U0 v.t v.x).cells:=λ(x:G.I)=>by
 show G.eAssign _=_;simp only[G.eAssign,lP,aN,bB,dB,dN,eC,dM,dO,bA,aQ,aR,aY,aW,cZ,U0,lQ,fG,G.lObject_map,G.lTerm_map,G.lEntry_map,G.lM]
 try rfl
def aV9: ∀x:D0 5,fG 5 x=(lP 5 x).flatMap λv=>(dB U0 v.t v.x).cells:=λ(x:G.F)=>by
 show G.eFunction _=_;simp only[G.eFunction,lP,aN,bB,dB,dN,eC,dM,dO,bA,aQ,aR,aY,aW,cZ,U0,lQ,fG,G.lObject_map,G.lTerm_map,G.lEntry_map,G.lM]
 try rfl
def aV8: ∀x:D0 6,fG 6 x=(lP 6 x).flatMap λv=>(dB U0 v.t v.x).cells:=λ(x:G.A)=>by
 show G.ePackage _=_;simp only[G.ePackage,lP,aN,bB,dB,dN,eC,dM,dO,bA,aQ,aR,aY,aW,cZ,U0,lQ,fG,G.lObject_map,G.lTerm_map,G.lEntry_map,G.lM]
 try rfl
def aV7: ∀x:D0 7,fG 7 x=(lP 7 x).flatMap λv=>(dB U0 v.t v.x).cells:=λ(x:G.M)=>by
 show G.eMacro _=_;simp only[G.eMacro,lP,aN,bB,dB,dN,eC,dM,dO,bA,aQ,aR,aY,aW,cZ,U0,lQ,fG,G.lObject_map,G.lTerm_map,G.lEntry_map,G.lM]
 try rfl
def aV6: ∀x:D0 8,fG 8 x=(lP 8 x).flatMap λv=>(dB U0 v.t v.x).cells:=λ(x:G.D)=>by
 show G.eField _=_;simp only[G.eField,lP,aN,bB,dB,dN,eC,dM,dO,bA,aQ,aR,aY,aW,cZ,U0,lQ,fG,G.lObject_map,G.lTerm_map,G.lEntry_map,G.lM]
 try rfl
def aV5: ∀x:D0 9,fG 9 x=(lP 9 x).flatMap λv=>(dB U0 v.t v.x).cells:=λ(x:G.B)=>by
 show G.eStobj _=_;simp only[G.eStobj,lP,aN,bB,dB,dN,eC,dM,dO,bA,aQ,aR,aY,aW,cZ,U0,lQ,fG,G.lObject_map,G.lTerm_map,G.lEntry_map,G.lM]
 try rfl
def aMS: ∀x:D0 10,fG 10 x=(lP 10 x).flatMap λv=>(dB U0 v.t v.x).cells:=λ(x:G.C)=>by
 show G.eCase _=_;simp only[G.eCase,lP,aN,bB,dB,dN,eC,dM,dO,bA,aQ,aR,aY,aW,cZ,U0,lQ,fG,G.lObject_map,G.lTerm_map,G.lEntry_map,G.lM]
 try rfl
def aMR: ∀x:D0 11,fG 11 x=(lP 11 x).flatMap λv=>(dB U0 v.t v.x).cells:=λ(x:G.J)=>by
 show G.eLambda _=_;simp only[G.eLambda,lP,aN,bB,dB,dN,eC,dM,dO,bA,aQ,aR,aY,aW,cZ,U0,lQ,fG,G.lObject_map,G.lTerm_map,G.lEntry_map,G.lM]
 try rfl
def aMQ: ∀x:D0 12,fG 12 x=(lP 12 x).flatMap λv=>(dB U0 v.t v.x).cells:=λ(x:G.N)=>by
 show G.eLine _=_;simp only[G.eLine,lP,aN,bB,dB,dN,eC,dM,dO,bA,aQ,aR,aY,aW,cZ,U0,lQ,fG,G.lObject_map,G.lTerm_map,G.lEntry_map,G.lM]
 try rfl
def aMP: ∀x:D0 13,fG 13 x=(lP 13 x).flatMap λv=>(dB U0 v.t v.x).cells:=λ(x:G.Q)=>by
 show G.ePairSymbol _=_;simp only[G.ePairSymbol,lP,aN,bB,dB,dN,eC,dM,dO,bA,aQ,aR,aY,aW,cZ,U0,lQ,fG,G.lObject_map,G.lTerm_map,G.lEntry_map,G.lM]
 try rfl
def aMO: ∀x:D0 14,fG 14 x=(lP 14 x).flatMap λv=>(dB U0 v.t v.x).cells:=λ(x:G.U)=>by
 show G.eRule _=_;simp only[G.eRule,lP,aN,bB,dB,dN,eC,dM,dO,bA,aQ,aR,aY,aW,cZ,U0,lQ,fG,G.lObject_map,G.lTerm_map,G.lEntry_map,G.lM]
 try rfl
def aMN: ∀x:D0 15,fG 15 x=(lP 15 x).flatMap λv=>(dB U0 v.t v.x).cells:=λ(x:G.E)=>by
 cases x;show G.eEntry _=_;simp only[G.eEntry,lP,aN,bB,dB,dN,eC,dM,dO,bA,aQ,aR,aY,aW,cZ,U0,lQ,fG,G.lObject_map,G.lTerm_map,G.lEntry_map,G.lM,G.E.kind,G.E.name,G.E.package,G.E.mac,G.E.functions,G.E.formulas,G.E.logs,G.E.locl,G.E.stobj,G.E.rules,G.E.enabled,G.E.disabled,G.E.text,G.E.hash]
 try rfl
def aMM: ∀x:D0 16,fG 16 x=(lP 16 x).flatMap λv=>(dB U0 v.t v.x).cells:=λ(x:G.L)=>by
 show G.eLemma _=_;simp only[G.eLemma,lP,aN,bB,dB,dN,eC,dM,dO,bA,aQ,aR,aY,aW,cZ,U0,lQ,fG,G.lObject_map,G.lTerm_map,G.lEntry_map,G.lM]
 try rfl
def aML: ∀x:D0 17,fG 17 x=(lP 17 x).flatMap λv=>(dB U0 v.t v.x).cells:=λ(x:G.S)=>by
 show G.eBinding _=_;simp only[G.eBinding,lP,aN,bB,dB,dN,eC,dM,dO,bA,aQ,aR,aY,aW,cZ,U0,lQ,fG,G.lObject_map,G.lTerm_map,G.lEntry_map,G.lM]
 try rfl
def aMK: ∀x:D0 18,fG 18 x=(lP 18 x).flatMap λv=>(dB U0 v.t v.x).cells:=λ(x:G.X)=>by
 show G.eSourceError _=_;simp only[G.eSourceError,lP,aN,bB,dB,dN,eC,dM,dO,bA,aQ,aR,aY,aW,cZ,U0,lQ,fG,G.lObject_map,G.lTerm_map,G.lEntry_map,G.lM]
 try rfl
def aMJ: ∀x:D0 19,fG 19 x=(lP 19 x).flatMap λv=>(dB U0 v.t v.x).cells:=λ(x:G.K)=>by
 show G.eToken _=_;simp only[G.eToken,lP,aN,bB,dB,dN,eC,dM,dO,bA,aQ,aR,aY,aW,cZ,U0,lQ,fG,G.lObject_map,G.lTerm_map,G.lEntry_map,G.lM]
 try rfl
def aMI: ∀x:D0 20,fG 20 x=(lP 20 x).flatMap λv=>(dB U0 v.t v.x).cells:=λ(x:G.P)=>by
 show G.eParser _=_;simp only[G.eParser,lP,aN,bB,dB,dN,eC,dM,dO,bA,aQ,aR,aY,aW,cZ,U0,lQ,fG,G.lObject_map,G.lTerm_map,G.lEntry_map,G.lM]
 try rfl
def aMH: ∀x:D0 21,fG 21 x=(lP 21 x).flatMap λv=>(dB U0 v.t v.x).cells:=λ(x:G.V)=>by
 show G.eTranslator _=_;simp only[G.eTranslator,lP,aN,bB,dB,dN,eC,dM,dO,bA,aQ,aR,aY,aW,cZ,U0,lQ,fG,G.lObject_map,G.lTerm_map,G.lEntry_map,G.lM]
 try rfl
def aMG: ∀x:D0 22,fG 22 x=(lP 22 x).flatMap λv=>(dB U0 v.t v.x).cells:=λ(x:G.R)=>by
 show G.eRow _=_;simp only[G.eRow,lP,aN,bB,dB,dN,eC,dM,dO,bA,aQ,aR,aY,aW,cZ,U0,lQ,fG,G.lObject_map,G.lTerm_map,G.lEntry_map,G.lM]
 try rfl
def aMF: ∀x:D0 23,fG 23 x=(lP 23 x).flatMap λv=>(dB U0 v.t v.x).cells:=λ(x:G.W)=>by
 show G.eEvaluator _=_;simp only[G.eEvaluator,lP,aN,bB,dB,dN,eC,dM,dO,bA,aQ,aR,aY,aW,cZ,U0,lQ,fG,G.lObject_map,G.lTerm_map,G.lEntry_map,G.lM]
 try rfl
def aME(k:Nat): ∀x:D0 (k+24),fG (k+24) x=(lP (k+24) x).flatMap λv=>(dB U0 v.t v.x).cells:=λ(x:G.Integer)=>by
 show G.eInteger _=_;simp only[G.eInteger,lP,aN,bB,dB,dN,eC,dM,dO,bA,aQ,aR,aY,aW,cZ,U0,lQ,fG,G.lObject_map,G.lTerm_map,G.lEntry_map,G.lM]
 try rfl
def Pv:gO U0 where
 eqc:=by
  intro n f x h
  match n,f,x,h with
  |0,f,x,h=>cases h
  |1,f,x,h=>cases h;rfl
  |2,f,x,h=>cases h
  |3,f,x,h=>cases h
  |4,f,x,h=>cases h
  |5,f,x,h=>cases h
  |6,f,x,h=>cases h
  |7,f,x,h=>cases h
  |8,f,x,h=>cases h
  |9,f,x,h=>cases h
  |10,f,x,h=>cases h
  |11,f,x,h=>cases h
  |12,f,x,h=>cases h
  |13,f,x,h=>cases h
  |14,f,x,h=>cases h
  |15,f,x,h=>cases h
  |16,f,x,h=>cases h
  |17,f,x,h=>cases h
  |18,f,x,h=>cases h
  |19,f,x,h=>cases h
  |20,f,x,h=>cases h
  |21,f,x,h=>cases h
  |22,f,x,h=>cases h
  |23,f,x,h=>cases h
  |k+24,f,x,h=>cases h
 ty:=λn=>match n with|0=>λ_=>rfl|1=>λ_=>rfl|2=>λ_=>rfl|3=>λ_=>rfl|4=>λ_=>rfl|5=>λ_=>rfl|6=>λ_=>rfl|7=>λ_=>rfl|8=>λ_=>rfl|9=>λ_=>rfl|10=>λ_=>rfl|11=>λ_=>rfl|12=>λ_=>rfl|13=>λ_=>rfl|14=>λ_=>rfl|15=>λ_=>rfl|16=>λ_=>rfl|17=>λ_=>rfl|18=>λ_=>rfl|19=>λ_=>rfl|20=>λ_=>rfl|21=>λ_=>rfl|22=>λ_=>rfl|23=>λ_=>rfl|k+24=>λ_=>rfl
 un_of:=by
  intro n l x h
  match n,x,h with
  |0,x,h|1,x,h|2,x,h|3,x,h|4,x,h|5,x,h|6,x,h|7,x,h|8,x,h|9,x,h|10,x,h|11,x,h|12,x,h|13,x,h|14,x,h|15,x,h|16,x,h|17,x,h|18,x,h|19,x,h|20,x,h|21,x,h|22,x,h|23,x,h|_+24,x,h=>
   simp only[U0,a3A]at h;split at h
   .rename_i r hr;cases h;exact B6 hr
   .cases h
 en:=λn=>match n with|0=>aWe|1=>aWd|2=>aWc|3=>aWb|4=>aWa|5=>aV9|6=>aV8|7=>aV7|8=>aV6|9=>aV5|10=>aMS|11=>aMR|12=>aMQ|13=>aMP|14=>aMO|15=>aMN|16=>aMM|17=>aML|18=>aMK|19=>aMJ|20=>aMI|21=>aMH|22=>aMG|23=>aMF|k+24=>aME k
 len:=λn=>match n with|0=>aTC|1=>aGh|2=>aGg|3=>aGf|4=>aTB|5=>aTA|6=>aGe|7=>aGd|8=>aTz|9=>aGc|10=>aLQ|11=>aLP|12=>aLO|13=>aLN|14=>aLM|15=>aLL|16=>aLK|17=>aLJ|18=>aLI|19=>aLH|20=>aLG|21=>aLF|22=>aLE|23=>aLD|k+24=>aLC k
 sz:=λn=>by
    iterate 24 (rcases n with _|n; · kernel_rfl)
    kernel_rfl
 zc:=λn=>by
    iterate 24 (rcases n with _|n; · kernel_rfl)
    kernel_rfl
 nz:=λn=>by
    iterate 24 (rcases n with _|n; · kernel_rfl)
    kernel_rfl
 zero:=λn=>by
    iterate 24 (rcases n with _|n; · kernel_rfl)
    kernel_rfl
 lt:=λn=>by
    iterate 24 (rcases n with _|n; · kernel_rfl)
    kernel_rfl
 ltl:=λn=>by
    iterate 24 (rcases n with _|n; · kernel_rfl)
    kernel_rfl
 gd:=λn=>match n with|0=>a2h|1=>aVY|2=>aVN|3=>aVH|4=>a2g|5=>a2f|6=>aVG|7=>aVF|8=>a2e|9=>aVE|10=>aVX|11=>aVW|12=>aVV|13=>aVU|14=>aVT|15=>aVS|16=>aVR|17=>aVQ|18=>aVP|19=>aVO|20=>aVM|21=>aVL|22=>aVK|23=>aVJ|k+24=>aVI k
 pos:=λn=>bP (by
    iterate 24 (rcases n with _|n; · kernel_rfl)
    kernel_rfl)
end Go.TV
namespace Go.AI
section
variable{P:Program}{H:St}
def ver_put{id g:Nat}{ob:AObj}:(H.put id ob).ver g=H.ver g:=rfl
def Own(H:St)(id z:Nat)(s:Value)(n:Nat)(cs:List Value):Prop:=
 ∃k m,s= .slice (some ⟨id,0,none⟩) n k/\id<H.next/\H.row id=some (cs,m)/\cs.length=n*z/\m.wr=true/\m.z=z/\(k=n∨(m.tip=true/\m.grp.isSome=true))
def Own.mono{H':St}{id z:Nat}{s:Value}{n:Nat}{cs:List Value}(h:Own H id z s n cs)(hn:H.next<=H'.next)(e:H'.row id=H.row id):Own H' id z s n cs:=by
 obtain⟨k,m,h1,h3,h4,h5⟩:=h;exact⟨k,m,h1,by omega,e.trans h4,h5⟩
end
end Go.AI
namespace Go.AI
section
variable{P:Program}
def Sb{N:Type}{c:Prop}[Decidable c]{a b:Sem N}:bX P (if c then a else b)=if c then bX P a else bX P b:=by split<;>rfl
def zV{d:Nat}{t:TypeId}{fs:Array Field}{xs ys:Array Value}(ht:P.underlying t=some (.struct fs))(hp:P.stoodInHeld t=false):
    bX P (Op.equalIn (d+1) t (.agg xs) (.agg ys))=bX P (Op.eqFields d xs ys fs.toList):=by
 rw[Op.equalIn.eq_2,bQ,bT,ht];simp only[aL];rw[bQ];have:bX P program=some P:=rfl;rw[this];simp only[aL,hp,Bool.false_eq_true,bN];rw[<-Array.forIn_toList];generalize fs.toList=l;clear ht;induction l with
 |nil=>simp[Op.eqFields,bQ,bS]
 |cons f l ih=>
  simp only[List.forIn_cons,Op.eqFields,bQ,Sb];split
  .cases bX P (part f.type xs f.offset)with
   |none=>rfl
   |some a=>
    cases bX P (part f.type ys f.offset)with
    |none=>rfl
    |some b=>
     simp only[aL];cases bX P (Op.equalIn d f.type a b)with
     |none=>rfl
     |some r=>
      cases r with
      |false=>simp[bS]
      |true=>
       simp only[aL,bD,Bool.false_eq_true,bN,bS];simpa only[bQ]using ih
  .simp only[bS,aL];simpa only[bQ]using ih
def XR{t:TypeId}{x y:Operand}{xs ys:Array Value}{r:Bool}(h1:xs.toList.all bR=true)(h2:ys.toList.all bR=true)(hg:bX P (eqGuard .eql t x y (.agg xs) (.agg ys))=some ())(he:bX P (Op.equal t (.agg xs) (.agg ys))=some r):
    gH P .eql t x y (.agg xs) (.agg ys)=some (.bool r):=by
 simp only[gH,cK,h1,h2,Bool.and_self,aI,cV,bQ,hg,aL,binOp,he,bS,bR]
def XQ{t:TypeId}{x y:Operand}{xs ys:Array Value}{r:Bool}(h1:xs.toList.all bR=true)(h2:ys.toList.all bR=true)(hg:bX P (eqGuard .neq t x y (.agg xs) (.agg ys))=some ())(he:bX P (Op.equal t (.agg xs) (.agg ys))=some r):
    gH P .neq t x y (.agg xs) (.agg ys)=some (.bool (!r)):=by
 simp only[gH,cK,h1,h2,Bool.and_self,aI,cV,bQ,hg,aL,binOp,he,bS,bR]
def mU(S:Slots)(d k:Nat)(v:Value):Slots.at (Tr.set S d v) k=if k=d then v else S.at k:=by
 unfold Slots.at;rw[Tr.get_set];split<;>rfl
end
end Go.AI
namespace Go.TV
open Go.AI Go.PI
def JS:List (Nat×Ty)->Nat->Option Ty
 |[],_=>none
 |(k,t)::l,i=>bif Nat.beq k i then some t else JS l i
def xQ: ∀{l:List (Nat×Ty)} {i:Nat} {t:Ty},JS l i=some t->(i,t)∈l
 |(k,t)::l,i,u,h=>by
  unfold JS at h;cases hb:Nat.beq k i with
  |true=>rw[hb]at h;cases h;rw[aE hb];exact aH ..
  |false=>rw[hb]at h;exact aG _ (xQ h)
def WO:List (Nat×Nat)->Nat->Option Nat
 |[],_=>none
 |(k,t)::l,i=>bif Nat.beq k i then some t else WO l i
def aCT:List (Nat×Nat)->List (Nat×Nat)->Bool
 |[],[]=>true
 |(a,b)::l,(c,d)::r=>Nat.beq a c&&Nat.beq b d&&aCT l r
 |_,_=>false
def Qr: ∀{l r:List (Nat×Nat)},aCT l r=true->l=r
 |[],[],_=>rfl
 |(a,b)::l,(c,d)::r,h=>by
  simp only[aCT,aC,cQ,aD]at h;rw[h.1.1,h.1.2,Qr h.2]
 |[],_::_,h=>by cases h
 |_::_,[],h=>by cases h
section
variable(P:Program)(T:TP U0.D)
def aCf:List Field->List Ty->Nat->Bool
 |[],[],_=>true
 |f::fs,t::ts,o=>(match T.T.ty f.type with|some u=>u.beq t|none=>false)&&Nat.beq f.offset o&&aCf fs ts (o+cZ U0 t)
 |_,_,_=>false
def aCb(id:Nat)(t:Ty):Bool:=
 match t,P.underlying id with
 | .int k,some (.int j)=>decide (k=j)
 | .bool,some .bool=>true
 | .str,some .string=>true
 | .sl e,some (.slice i)=>(match T.T.ty i with|some u=>u.beq e|none=>false)&&(match T.el id with|some j=>Nat.beq i j|none=>false)
 | .rc n,some (.struct fs)=>aCf T fs.toList (U0.fs n) 0&&(match bX P (fs.mapM λf=>do pure (f.offset,<-Go.sizeOf f.type))with|some pl=>aCT pl.toList (Sv U0 (U0.fs n) 0)|none=>false)
 | .rc n,_=>T.T.arr id
 |_,_=>false
def yW(x:Nat×Ty):Bool:=
 (match jZ P x.1 with|some b=>(b==kS x.2)|none=>false)&&
 (match gC P x.1 with|some n=>Nat.beq n (cZ U0 x.2)|none=>false)&&
 (match zeroCells P x.1 with|some z=>TA z (GH U0 x.2)|none=>false)&&
 aCb P T x.1 x.2&&
 (match P.info? x.1 with
  |some i=>Nat.beq i.size (cZ U0 x.2)&&Nat.beq i.bytes (T.T.by' x.1)&&Nat.ble 1 i.bytes&&(match i.zero with|some z=>Nat.beq z.cells.size i.size&&TA (ofVs z.cells.toList) (GH U0 x.2)&&z.cells.toList.all bR|none=>false)
  |none=>false)
def aLc(id:Nat):Bool:=
 (match jZ P id with|some b=> !b|none=>false)&&(match gC P id with|some n=>Nat.beq n 1|none=>false)&&(match zeroCells P id with|some z=>TA z [.v .nilFunc]|none=>false)
variable{P T}
def P4: ∀{fs:List Field} {ts:List Ty} {o:Nat},aCf T fs ts o=true->fs.length=ts.length/\∀i f,fs[i]?=some f->T.T.ty f.type=ts[i]?/\f.offset=o+eE U0 (ts.take i)
 |[],[],o,_=>⟨rfl,λi f h=>by simp at h⟩
 |f::fs,t::ts,o,h=>by
  simp only[aCf,aC,cQ,aD]at h;obtain⟨⟨h1,h2⟩,h3⟩:=h;obtain⟨g1,g2⟩:=P4 h3;refine⟨by rw[aM,aM,g1],λi f' hf=>?_⟩
  cases i with
  |zero=>
   simp only[aU,aA]at hf;subst hf;refine⟨?_,by rw[h2];simp[eE]⟩
   cases hu:T.T.ty f.type with
   |none=>rw[hu]at h1;cases h1
   |some u=>rw[hu]at h1;rw[Ty.beq_eq h1];rfl
  |succ i=>
   rw[aT]at hf;obtain⟨k1,k2⟩:=g2 i f' hf;refine⟨by rw[k1,aT],by rw[k2,List.take_succ_cons,eE,Nat.add_assoc]⟩
 |[],_::_,_,h=>by cases h
 |_::_,[],_,h=>by cases h
def aCh(P:Program)(T:TP U0.D)(id:TypeId):Bool:=match T.T.ty id with
 |some (.rc n)=>(match P.underlying id with
  |some (.array len e)=>(match U0.fs n with
   |te::_=>(match gC P e with|some z=>Nat.beq z (cZ U0 te)|none=>false)&&Nat.beq (U0.fs n).length len&&(U0.fs n).all λt=>t.beq te
   |[]=>false)
  |_=>false)
 |_=>true
def UA{te:Ty}: ∀{l:List Ty},(l.all λt=>t.beq te)=true->l=List.replicate l.length te
 |[],_=>rfl
 |t::l,h=>by
  simp only[aP,aC]at h;rw[aM,List.replicate_succ,<-UA h.2,Ty.beq_eq h.1]
def aCg{P:Program}{T:TP U0.D}{id:TypeId}{n:Nat}(h:aCh P T id=true)(ht:T.T.ty id=some (.rc n)): ∃len e te,P.underlying id=some (.array len e)/\gC P e=some (cZ U0 te)/\U0.fs n=List.replicate len te:=by
 unfold aCh at h;rw[ht]at h;simp only at h;split at h
 .rename_i len e hu;split at h
  .rename_i te l hf;simp only[aC]at h;obtain⟨⟨h1,h2⟩,h3⟩:=h;refine⟨len,e,te,hu,?_,?_⟩
   .split at h1
    .rename_i z hz;rw[hz,aE h1]
    .cases h1
   .have:=UA h3;rw[aE h2]at this;exact this
  .cases h
 .cases h
def aQa{l:List (Nat×Ty)}(hl:T.T.ty=JS l)(h:l.all (yW P T)=true)(gh: ∀id,T.T.fn id=true->aLc P id=true)(th: ∀id,T.T.arr id=true->∀fs,P.underlying id≠some (.struct fs))(nk: ∀id,T.T.arr id=true->aCh P T id=true)
    (heq: ∀id n f,T.T.ty id=some (.rc n)->U0.eq n=some f->∀(x y:U0.D n) (a b:Operand),
      lT P .eql id a b (.agg (U0.en n x)) (.agg (U0.en n y))=some (.v (.bool (f x y)))/\lT P .neq id a b (.agg (U0.en n x)) (.agg (U0.en n y))=some (.v (.bool (!f x y)))):oQ P U0 T:=by
 have one: ∀id t,T.T.ty id=some t->yW P T (id,t)=true:=λid t ht=>bJ.1 h _ (xQ (by rw[<-hl];exact ht))
 have un: ∀id t,T.T.ty id=some t->aCb P T id t=true:=λid t ht=>by
  have:=one id t ht;simp only[yW,aC]at this;exact this.1.2
 refine⟨λid t ht=>?_,λid t ht=>?_,λid t ht=>?_,λid t ht=>?_,λid hf=>?_,λid t ht=>?_,λid n ht ha=>?_,λid n ht ha=>?_,heq⟩
 .have:=one id t ht;simp only[yW,aC]at this;have h1:=this.1.1.1.1;split at h1
  .rename_i b hb;rw[hb];rw[eq_of_beq h1]
  .cases h1
 .have:=one id t ht;simp only[yW,aC]at this;have h1:=this.1.1.1.2;split at h1
  .rename_i b hb;rw[hb];rw[aE h1]
  .cases h1
 .have h1:=un id t ht;unfold aCb at h1;split at h1
  .rename_i k j hj;rw[bK h1];exact hj
  .rename_i hj;exact hj
  .rename_i hj;exact hj
  .rename_i e i hj;simp only[aC]at h1;obtain⟨h2,h3⟩:=h1;refine⟨i,hj,?_,?_⟩
   .split at h2
    .rename_i u hu;rw[hu,Ty.beq_eq h2]
    .cases h2
   .split at h3
    .rename_i j hj2;rw[hj2,aE h3]
    .cases h3
  .rename_i n fs hj;simp only[aC]at h1;obtain⟨g1,g2⟩:=P4 h1.1;intro _;refine⟨fs,hj,by simpa using g1,λi f hf=>?_⟩
   obtain⟨k1,k2⟩:=g2 i f (by rw[Array.getElem?_toList];exact hf)
   exact⟨k1,by rw[k2,Nat.zero_add];rfl⟩
  .rename_i n _ _;intro ha;rw[h1]at ha;cases ha
  .cases h1
 .have:=one id t ht;simp only[yW,aC]at this;have h1:=this.1.1.2;split at h1
  .rename_i b hb;rw[hb,FG h1]
  .cases h1
 .have h1:=gh id hf;simp only[aLc,aC]at h1;obtain⟨⟨h1,h2⟩,h3⟩:=h1;refine⟨?_,?_,?_⟩
  .split at h1
   .rename_i b hb;rw[hb];simpa using h1
   .cases h1
  .split at h2
   .rename_i b hb;rw[hb,aE h2]
   .cases h2
  .split at h3
   .rename_i b hb;rw[hb,FG h3]
   .cases h3
 .have:=one id t ht;simp only[yW,aC]at this;have h1:=this.2;split at h1
  .rename_i i hi;simp only[aC]at h1;obtain⟨⟨⟨h1,h2⟩,h3⟩,h4⟩:=h1;split at h4
   .rename_i z hz;simp only[aC]at h4;exact⟨i,z,hi,aE h1,aE h2,by rwa [Nat.ble_eq]at h3,hz,aE h4.1.1,FG h4.1.2,h4.2⟩
   .cases h4
  .cases h1
 .have h1:=un id _ ht;unfold aCb at h1;split at h1
  .rename_i e _;cases e
  .rename_i e _;cases e
  .rename_i e _;cases e
  .rename_i e _;cases e
  .rename_i n' fs e hj;cases e;simp only[aC]at h1;have h2:=h1.2;split at h2
   .rename_i pl di;exact⟨fs,pl,hj,di,Qr h2⟩
   .cases h2
  .rename_i e _ _;rw[h1]at ha;cases ha
  .cases h1
 .exact aCg (nk id ha) ht
end
section
variable{P:Program}{t:TypeId}
def aMD(s u:List UInt8):((⟨s.toArray⟩:ByteArray)==⟨u.toArray⟩)=decide (s=u):=by
 show(s.toArray==u.toArray)=_;by_cases h:s=u
 .subst h;simp
 .simp[h]
def vF{d:Nat}{t:TypeId}{s u:List UInt8}(h:P.underlying t=some .string):bX P (Op.equalIn (d+1) t (iD s) (iD u))=some (decide (s=u)):=by
 rw[Op.equalIn.eq_2,bQ,bT,h,<-aMD];rfl
def aBw{d:Nat}{ft:TypeId}{fs:Array Field}{f g:Field}(ht:P.underlying t=some (.struct fs))(hp:P.stoodInHeld t=false)(hs:P.underlying ft=some .string)(hz:jZ P ft=some false)
    (hf : fs.toList = [f, g]) (h1 : f.name ≠ "_") (h2 : g.name ≠ "_") (e1 : f.type = ft) (e2 : g.type = ft) (o1 : f.offset = 0) (o2 : g.offset = 1) (s u : G.Y) :
    bX P (Op.equalIn (d+1+1) t (.agg #[iD s.package,iD s.name]) (.agg #[iD u.package,iD u.name]))=some (decide (s=u)):=by
 rw[zV ht hp,hf];have hpt: ∀(a b:Value) (k:Nat) (v:Value), #[a,b][k]?=some v->bX P (part ft #[a,b] k)=some v:=by
  intro a b k v hk;unfold part;rw[bQ];have hagg:bX P (Go.isAgg ft)=some false:=by
   simp only[Go.isAgg,bQ,bT];unfold jZ at hz;cases hu:P.underlying ft with
   |none=>rw[hu]at hz;cases hz
   |some d=>
    rw[hu]at hz;simp only[aK,aA]at hz;cases d<;>first|rfl|simp at hz
  rw[hagg];simp only[aL,Bool.false_eq_true,bN,hk,bS]
 have h0:=λ(x y:Value)=>hpt x y 0 x (by simp)
 have h3:=λ(x y:Value)=>hpt x y 1 y (by simp)
 simp only[Op.eqFields,h1,h2,e1,e2,o1,o2,ne_eq,not_false_eq_true,bO,bQ,h0,h3,aL];rw[vF hs,aL];cases s with|mk sp sn=>
 cases u with|mk up un=>
 simp only[G.Y.mk.injEq]at*;by_cases c1:sp=up
 .simp only[c1,bM,bD,Bool.false_eq_true,bN,bQ,h3,aL];rw[vF hs,aL];by_cases c2:sn=un<;>simp[c2,bS]
 .simp[c1,bS]
def aJK{ft:TypeId}{fs:Array Field}{f g:Field}(ht:P.underlying t=some (.struct fs))(hp:P.stoodInHeld t=false)(hs:P.underlying ft=some .string)(hz:jZ P ft=some false)
    (hf : fs.toList = [f, g]) (h1 : f.name ≠ "_") (h2 : g.name ≠ "_") (e1 : f.type = ft) (e2 : g.type = ft) (o1 : f.offset = 0) (o2 : g.offset = 1) (s u : G.Y) :
    bX P (Op.equal t (.agg #[iD s.package,iD s.name]) (.agg #[iD u.package,iD u.name]))=some (decide (s=u)):=by
 unfold Op.equal;rw[show Op.maxDepth=9998+1+1 from rfl];exact aBw ht hp hs hz hf h1 h2 e1 e2 o1 o2 s u
def IA{ft:TypeId}{fs:Array Field}{f g:Field}(ht:P.underlying t=some (.struct fs))(hp:P.stoodInHeld t=false)(hs:P.underlying ft=some .string)(hz:jZ P ft=some false)(hg:P.eqGuardType P.depth t=false)
    (hf : fs.toList = [f, g]) (h1 : f.name ≠ "_") (h2 : g.name ≠ "_") (e1 : f.type = ft) (e2 : g.type = ft) (o1 : f.offset = 0) (o2 : g.offset = 1) (s u : G.Y) (a b : Operand) :
    lT P .eql t a b (.agg (G.eSymbol s)) (.agg (G.eSymbol u))=some (.v (.bool (decide (s=u))))/\lT P .neq t a b (.agg (G.eSymbol s)) (.agg (G.eSymbol u))=some (.v (.bool (!decide (s=u)))):=by
 have he:=aJK ht hp hs hz hf h1 h2 e1 e2 o1 o2 s u;have kd: ∀op,lT P op t a b (.agg (G.eSymbol s)) (.agg (G.eSymbol u))=(gH P op t a b (.agg #[iD s.package,iD s.name]) (.agg #[iD u.package,iD u.name])).map wW:=λop=>by
  simp only[lT,G.eSymbol,aR,Uf,R8,oU,aK,gH,iD,cK,bR,aP,List.all_nil,Bool.and_self,aI]
 have hg1: ∀op,op=BinOp.eql∨op= .neq->bX P (eqGuard op t a b (.agg #[iD s.package,iD s.name]) (.agg #[iD u.package,iD u.name]))=some ():=by
  intro op lx;have hprog:bX P program=some P:=rfl;rcases lx with rfl|rfl<;>simp only[eqGuard,bD,Bool.false_eq_true,bN,bQ,hprog,aL,hg,Bool.not_false,bO,bS]
 constructor
 .rw[kd,XR (by simp[iD,bR]) (by simp[iD,bR]) (hg1 _ (.inl rfl)) he];rfl
 .rw[kd,XQ (by simp[iD,bR]) (by simp[iD,bR]) (hg1 _ (.inr rfl)) he];rfl
end
end Go.TV
namespace Go.TV
open Go.AI Go.PI Go.Proofs
set_option maxRecDepth 20000
def tyL:List (Nat×Ty):=[(2,i6),(3,i6),(4,.bool),(5,(.int .u8)),(6,(.int .u8)),(9,.str),(10,.str),(11,.str),(12,(.int .u64)),(21,(.int .i32)),(22,(.sl (.int .u8))),(24,(zS 3)),(25,(zS 3)),(28,(.rc 0)),(29,(.rc 0)),(30,(zS 15)),(32,(.int .u32)),(33,(.sl (.sl i6))),(35,(.sl i6)),(37,(.rc 1)),(38,(.rc 1)),(39,(zS 2)),(40,(.rc 2)),(41,(.rc 2)),(42,(.rc 3)),(43,(.rc 3)),(50,(zS 4)),(51,(.sl .str)),(53,(.rc 4)),(54,(.rc 4)),(59,(.sl (zS 5))),(61,(zS 1)),(62,(.rc 5)),(63,(.rc 5)),(64,(zS 5)),(65,(.rc 6)),(66,(.rc 6)),(67,(.rc 7)),(68,(.rc 7)),(69,(.sl (zS 12))),(70,(zS 8)),(71,(.rc 9)),(72,(.rc 9)),(73,(zS 14)),(74,(.int .u64)),(75,(.rc 15)),(76,(.rc 15)),(77,(zS 16)),(79,(.rc 16)),(80,(.rc 16)),(81,i6),(82,(zS 13)),(83,(.rc 14)),(84,(.rc 14)),(85,i6),(91,(.sl (zS 1))),(95,(.sl .bool)),(96,(zS 17)),(128,(.rc 17)),(129,(.rc 17)),(134,(.rc 18)),(135,(.rc 18)),(138,(zS 6)),(150,(.rc 13)),(166,(zS 19)),(170,(.rc 20)),(171,(.rc 20)),(172,(.rc 19)),(173,(.rc 19)),(179,(.rc 21)),(180,(.rc 21)),(183,(zS 22)),(185,(.rc 22)),(186,(.rc 22)),(247,(.rc 23)),(248,(.rc 23)),(269,(.int .u64)),(275,(.sl (.int .u32))),(276,(.rc 24)),(277,(.rc 24)),(307,i6),(327,(.int .u8)),(328,(.int .u8)),(330,(.int .i32)),(331,(.int .i32)),(334,(zS 12)),(335,(.rc 8)),(336,(.rc 8)),(337,(zS 10)),(338,(zS 11)),(339,(.rc 12)),(340,(.rc 12)),(341,(.sl (zS 4))),(342,(.rc 10)),(343,(.rc 10)),(344,(.rc 11)),(345,(.rc 11))]
def byL:List (Nat×Nat):=[(2,8),(3,8),(4,1),(5,1),(6,1),(9,16),(10,16),(11,16),(12,8),(21,4),(22,24),(24,24),(25,24),(28,32),(29,32),(30,24),(32,4),(33,24),(35,24),(37,32),(38,32),(39,24),(40,112),(41,112),(42,176),(43,176),(50,24),(51,24),(53,208),(54,208),(59,24),(61,24),(62,592),(63,592),(64,24),(65,40),(66,40),(67,240),(68,240),(69,24),(70,24),(71,56),(72,56),(73,24),(74,8),(75,568),(76,568),(77,24),(79,200),(80,200),(81,8),(82,24),(83,544),(84,544),(85,8),(91,24),(95,24),(96,24),(128,144),(129,144),(134,16),(135,16),(138,24),(150,64),(166,24),(170,72),(171,72),(172,64),(173,64),(179,56),(180,56),(183,24),(185,24),(186,24),(247,32),(248,32),(269,8),(275,24),(276,32),(277,32),(307,8),(327,1),(328,1),(330,4),(331,4),(334,24),(335,152),(336,152),(337,24),(338,24),(339,552),(340,552),(341,24),(342,48),(343,48),(344,232),(345,232)]
def elL:List (Nat×Nat):=[(22,5),(24,43),(25,43),(30,76),(33,35),(35,3),(39,41),(50,54),(51,9),(59,64),(61,38),(64,63),(69,334),(70,336),(73,84),(77,80),(82,150),(91,61),(95,4),(96,129),(138,66),(166,173),(183,186),(275,32),(334,340),(337,343),(338,345),(341,50)]
def fnL:List Nat:=[1,23,26,31,34,36,44,45,47,48,49,52,55,56,57,58,60,78,87,88,92,93,94,98,99,100,102,103,104,105,106,107,108,109,110,111,113,114,115,116,117,118,120,121,122,124,125,126,127,130,131,132,133,137,139,140,142,144,146,147,149,151,152,153,155,156,157,158,159,160,162,163,164,165,168,174,176,177,181,182,184,187,188,189,195,197,198,200,202,203,204,205,207,209,210,211,213,214,216,217,218,219,221,222,223,224,226,227,228,230,232,233,234,235,236,237,238,239,240,241,242,243,244,245,249,250,251,252,254,255,257,258,259,260,261,263,264,265,268,270,271,272,274,278,279,280,284,285,287,288,289,290,291,293,294,296,297,301,302,303,309,310,311,312,314,317,326,329]
def arL:List Nat:=[150]
def tt0:TT:=⟨JS tyL,λi=>(WO byL i).getD 0,λi=>dQ i fnL,λi=>dQ i arL⟩
def aXA(o:CJ)(sig:Nat->Option Dj):TP U0.D:=⟨tt0,WO elL,sig,o⟩
def aJF(o:CJ)(sig:Nat->Option Dj):tyL.all (yW Tryz.prog (aXA o sig))=true:=by kernel_rfl
def aMz:fnL.all (aLc Tryz.prog)=true:=by kernel_rfl
def aUr(P:Program)(i:Nat):Bool:=match P.underlying i with|some (.struct _)=>true|_=>false
def aNR:arL.all (λi=> !aUr Tryz.prog i)=true:=by kernel_rfl
def aEC(o:CJ)(sig:Nat->Option Dj):arL.all (aCh Tryz.prog (aXA o sig))=true:=by kernel_rfl
def aJL:(tyL.all λx=>match x.2 with| .rc n=>(match U0.eq n with|some _=>dQ x.1 [37,38]|none=>true)|_=>true)=true:=by kernel_rfl
def aBs(o:CJ)(sig:Nat->Option Dj):oQ Tryz.prog U0 (aXA o sig):=by
 refine aQa (l:=tyL) rfl (aJF o sig) (λid h=>?_) (λid h fs e=>?_) (λid h=>bJ.1 (aEC o sig) _ (jH.1 h)) (λid n f h1 h2=>?_)
 .exact bJ.1 aMz _ (jH.1 h)
 .have:=bJ.1 aNR _ (jH.1 h);simp only[aUr,e]at this;cases this
 .have h3:=bJ.1 aJL _ (xQ h1);simp only[h2]at h3;have hn:n=1:=by
   match n,f,h2 with
   |0,f,h2=>first|rfl|cases h2
   |1,f,h2=>first|rfl|cases h2
   |2,f,h2=>first|rfl|cases h2
   |3,f,h2=>first|rfl|cases h2
   |4,f,h2=>first|rfl|cases h2
   |5,f,h2=>first|rfl|cases h2
   |6,f,h2=>first|rfl|cases h2
   |7,f,h2=>first|rfl|cases h2
   |8,f,h2=>first|rfl|cases h2
   |9,f,h2=>first|rfl|cases h2
   |10,f,h2=>first|rfl|cases h2
   |11,f,h2=>first|rfl|cases h2
   |12,f,h2=>first|rfl|cases h2
   |13,f,h2=>first|rfl|cases h2
   |14,f,h2=>first|rfl|cases h2
   |15,f,h2=>first|rfl|cases h2
   |16,f,h2=>first|rfl|cases h2
   |17,f,h2=>first|rfl|cases h2
   |18,f,h2=>first|rfl|cases h2
   |19,f,h2=>first|rfl|cases h2
   |20,f,h2=>first|rfl|cases h2
   |21,f,h2=>first|rfl|cases h2
   |22,f,h2=>first|rfl|cases h2
   |23,f,h2=>first|rfl|cases h2
   |k+24,f,h2=>first|rfl|cases h2
  subst hn;cases h2;intro x y a b;have hm:=jH.1 h3;simp only[List.mem_cons,List.not_mem_nil,or_false]at hm;rcases hm with rfl|rfl
  .exact IA (ft:=9) Tryz.underlying37 (by kernel_rfl) (by kernel_rfl) (by kernel_rfl) (by kernel_rfl) rfl (by decide) (by decide) rfl rfl rfl rfl x y a b
  .exact IA (ft:=9) Tryz.underlying38 (by kernel_rfl) (by kernel_rfl) (by kernel_rfl) (by kernel_rfl) rfl (by decide) (by decide) rfl rfl rfl rfl x y a b
end Go.TV
namespace Go.TV
open Go.AI Go.PI
def XI:TC->List Nat->TC
 |c,[]=>c
 | .seq a _,0::l=>XI a l
 | .seq _ b,_::l=>XI b l
 | .cond _ a _,0::l=>XI a l
 | .cond _ _ b,_::l=>XI b l
 | .block _ c,_::l=>XI c l
 | .loop _ c,_::l=>XI c l
 | .scope c,_::l=>XI c l
 | .cut _ c,_::l=>XI c l
 | .ice _ c,_::l=>XI c l
 |c,_=>c
abbrev oB:=List (TV U0.D)
abbrev Rt:=Option oB
abbrev cJ:=kX U0.D
abbrev Kt:=TK U0.D oB
structure Cu where
 D:DT U0 oB
 E:DT U0 oB
def iP(ct:Cut){f g:TS U0.D->TM U0.D->Rt}(h: ∀S M,f S M=g S M)(d:oB):lN U0 ct f d=lN U0 ct g d:=by
 have:f=g:=by funext S M;exact h S M
 rw[this]
end Go.TV
