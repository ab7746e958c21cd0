import Derived.Test.YtgddcoodncbkoaaGreatDoorKl
import Derived.Laws.StructEq
import Derived.Test.YtgddcoodncbkoaaGreatDoorKg
import Derived.Test.YtgddcoodncbkoaaGreatDoorProg
import Derived.KernelRfl
import Derived.Lib.Bytealg
set_option linter.unusedVariables false
set_option linter.unusedSimpArgs false
set_option linter.constructorNameAsVariable false
set_option linter.defProp false
namespace Go.TV
open Go.AI Go.PI
inductive SkT where
 |n
 |r (tk:List Nat) (fz:List (Nat×Nat)) (cl:List (Nat×Nat×List Nat))
 |s (a b:SkT)
 |c (a b:SkT)
 |b (a:SkT)
 |l (ct:Cut) (a:SkT)
 |o (a:SkT)
 |d (ct:Cut) (a:SkT)
 |i (ts:List Nat) (a:SkT)
def fzN(i:Nat):List (Nat×Nat)->List aHx
 |[]=>[]
 |x::xs=>bif Nat.beq x.1 i then .freeze x.2::fzN i xs else fzN i xs
def aHX(tk:List Nat)(fz:List (Nat×Nat))(i:Nat):List aHx:=fzN i fz++ [.op i (bW i tk)]
def scrS(ops:Array Oper)(tk:List Nat)(fz:List (Nat×Nat)):Nat->List Nat->List aHx
 |0,l=>l.flatMap (aHX tk fz)
 |f+1,a::i::s::l=>bif isApp ops a i s then .app a i s::scrS ops tk fz f l else aHX tk fz a++scrS ops tk fz f (i::s::l)
 |_+1,l=>l.flatMap (aHX tk fz)
def callN:List (Nat×Nat×List Nat)->Nat->Nat×List Nat
 |[],_=>(0,[])
 |x::l,i=>bif Nat.beq x.1 i then x.2 else callN l i
def stT1(cl:List (Nat×Nat×List Nat)):aHx->TStep
 | .op i take=> .op i take (callN cl i).1 (callN cl i).2
 | .app a i s=> .app a i s
 | .freeze t=> .freeze t
def regT(tk:List Nat)(fz:List (Nat×Nat))(cl:List (Nat×Nat×List Nat))(id:Nat)(ops:Array Oper):Bool->TC
 |true=> .region id ops true (cF ops.toList []) ((scrS ops tk fz ops.size (oM ops (cF ops.toList []))).map (stT1 cl))
 |false=> .region id ops false [] ((scrS ops tk fz ops.size (List.range ops.size)).map (stT1 cl))
def pA:Code->TC
 | .skip=> .skip
 | .label l=> .label l
 | .region id ops draw=>regT [] [] [] id ops draw
 | .seq a b=> .seq (pA a) (pA b)
 | .cond x a b=> .cond x (pA a) (pA b)
 | .block id a=> .block id (pA a)
 | .exit id=> .exit id
 | .ret=> .ret
 | .scope a=> .scope (pA a)
 |c=> .other c
def icesT:List Nat->TC->TC
 |[],c=>c
 |t::ts,c=> .ice t (icesT ts c)
def eY:SkT->Code->TC
 | .n,c=>pA c
 | .d ct x,c=> .cut ct (eY x c)
 | .i ts x,c=>icesT ts (eY x c)
 | .r tk fz cl,c=>match c with| .region id ops draw=>regT tk fz cl id ops draw|c=> .other c
 | .s x y,c=>match c with| .seq a b=> .seq (eY x a) (eY y b)|c=> .other c
 | .c x y,c=>match c with| .cond v a b=> .cond v (eY x a) (eY y b)|c=> .other c
 | .b x,c=>match c with| .block id a=> .block id (eY x a)|c=> .other c
 | .l ct x,c=>match c with| .loop a=> .loop ct (eY x a)|c=> .other c
 | .o x,c=>match c with| .scope a=> .scope (eY x a)|c=> .other c
def jB(a b:List aHx):eQ (a++b)=eQ a++eQ b:=by
 induction a with
 |nil=>rfl
 |cons x a ih=>cases x<;>simp[eQ,ih]
def aJC(i:Nat)(l:List (Nat×Nat)):eQ (fzN i l)=[]:=by
 induction l with
 |nil=>rfl
 |cons x l ih=>simp only[fzN];cases Nat.beq x.1 i<;>simp[eQ,ih]
def sG(tk:List Nat)(fz:List (Nat×Nat))(i:Nat):eQ (aHX tk fz i)=[i]:=by
 unfold aHX;rw[jB,aJC];rfl
def lY(tk:List Nat)(fz:List (Nat×Nat))(l:List Nat):eQ (l.flatMap (aHX tk fz))=l:=by
 induction l with
 |nil=>rfl
 |cons i l ih=>rw[fmC,jB,sG,ih];rfl
def wJ(ops:Array Oper)(tk:List Nat)(fz:List (Nat×Nat)): ∀(f:Nat) (l:List Nat),eQ (scrS ops tk fz f l)=l:=by
 intro f;induction f with
 |zero=>intro l;exact lY tk fz l
 |succ f ih=>
  intro l
  match l with
  |[]=>rfl
  |[a]=>exact lY tk fz [a]
  |[a,i]=>exact lY tk fz [a,i]
  |a::i::s::l=>
   simp only[scrS];cases isApp ops a i s with
   |true=>simp only[cdt,eQ,ih]
   |false=>simp only[cdf];rw[jB,sG,ih];rfl
def un_stT(cl:List (Nat×Nat×List Nat))(l:List aHx):(l.map (stT1 cl)).map TStep.un=l:=by
 induction l with
 |nil=>rfl
 |cons x l ih=>rw[mpC,mpC,ih];cases x<;>rfl
def aJN(tk:List Nat)(fz:List (Nat×Nat))(cl:List (Nat×Nat×List Nat))(id:Nat)(ops:Array Oper)(draw:Bool):cV (regT tk fz cl id ops draw).pc= .region id ops draw/\vZ (regT tk fz cl id ops draw).pc:=by
 cases draw with
 |true=>
  refine⟨rfl,?_⟩;show cF ops.toList []=cF ops.toList []/\eQ _=_;rw[un_stT];exact⟨rfl,wJ _ _ _ _ _⟩
 |false=>
  refine⟨rfl,?_⟩;show eQ _=_;rw[un_stT];exact wJ _ _ _ _ _
def wearN_ok: ∀c:Code,cV (pA c).pc=c/\vZ (pA c).pc:=by
 intro c;induction c with
 |region id ops draw=>exact aJN _ _ _ _ _ _
 |seq a b fj la=>exact⟨by simp only[pA,TC.pc,cV,fj.1,la.1],fj.2,la.2⟩
 |cond x a b fj la=>exact⟨by simp only[pA,TC.pc,cV,fj.1,la.1],fj.2,la.2⟩
 |block id a ih=>exact⟨by simp only[pA,TC.pc,cV,ih.1],ih.2⟩
 |scope a ih=>exact⟨by simp only[pA,TC.pc,cV,ih.1],ih.2⟩
 |_=>exact⟨rfl,trivial⟩
def aGa(ts:List Nat)(c:TC):cV (icesT ts c).pc=cV c.pc/\(vZ c.pc->vZ (icesT ts c).pc):=by
 induction ts with
 |nil=>exact⟨rfl,id⟩
 |cons t ts ih=>exact⟨ih.1,ih.2⟩
def zH: ∀(s:SkT) (c:Code),cV (eY s c).pc=c/\vZ (eY s c).pc:=by
 intro s;induction s with
 |n=>exact wearN_ok
 |r tk fz cl=>intro c;cases c<;>first|exact aJN _ _ _ _ _ _|exact⟨rfl,trivial⟩
 |s x y mh nq=>intro c;cases c<;>first|exact⟨by simp only[eY,TC.pc,cV,(mh _).1,(nq _).1],(mh _).2,(nq _).2⟩|exact⟨rfl,trivial⟩
 |c x y mh nq=>intro c;cases c<;>first|exact⟨by simp only[eY,TC.pc,cV,(mh _).1,(nq _).1],(mh _).2,(nq _).2⟩|exact⟨rfl,trivial⟩
 |b x ih=>intro c;cases c<;>first|exact⟨by simp only[eY,TC.pc,cV,(ih _).1],(ih _).2⟩|exact⟨rfl,trivial⟩
 |l ct x ih=>intro c;cases c<;>first|exact⟨by simp only[eY,TC.pc,cV,(ih _).1],(ih _).2⟩|exact⟨rfl,trivial⟩
 |o x ih=>intro c;cases c<;>first|exact⟨by simp only[eY,TC.pc,cV,(ih _).1],(ih _).2⟩|exact⟨rfl,trivial⟩
 |d ct x ih=>intro c;exact⟨(ih c).1,(ih c).2⟩
 |i ts x ih=>intro c;exact⟨by simp only[eY,(aGa ts _).1,(ih c).1],(aGa ts _).2 (ih c).2⟩
structure Ins where
 sig:Sig
 sk:SkT
def iR(P:Program)(f:Nat):Code:=match P.funcs[f]? with|some fn=>fn.body.getD .skip|none=> .skip
def aBj(P:Program)(f:Nat):List ResultVar:=match P.funcs[f]? with|some fn=>fn.results.toList|none=>[]
def tH:List (Nat×Ins)->Nat->Option Ins
 |[],_=>none
 |x::l,i=>bif Nat.beq x.1 i then some x.2 else tH l i
def aAD:List (Nat×Ins)->Nat->Option Ins
 |[],_=>none
 |x::l,f=>bif Nat.beq x.2.sig.f f then some x.2 else aAD l f
def aC7(l:List (Nat×Ins))(i:Nat):Option Sig:=(tH l i).map (·.sig)
def tabL(P:Program)(l:List (Nat×Ins)):TTab:=λi=>match tH l i with
 |some x=>some (eY x.sk (iR P x.sig.f),aBj P x.sig.f)
 |none=>none
def sL(P:Program)(l:List (Nat×Ins)):PTab:=λf=>match aAD l f with
 |some x=>some ((eY x.sk (iR P f)).pc,aBj P f)
 |none=>none
def okI(P:Program)(l:List (Nat×Ins))(x:Ins):Prop:= ∃y,aAD l x.sig.f=some y/\(eY y.sk (iR P x.sig.f)).pc=(eY x.sk (iR P x.sig.f)).pc
def aC4{P:Program}{l:List (Nat×Ins)}(h: ∀i x,tH l i=some x->okI P l x): ∀i s code rs,aC7 l i=some s->tabL P l i=some (code,rs)->sL P l s.f=some (code.pc,rs):=by
 intro i s code rs h1 h2;unfold aC7 at h1;unfold tabL at h2;cases hx:tH l i with
 |none=>rw[hx]at h1;cases h1
 |some x=>
  rw[hx]at h1 h2;simp only[omS,ojE,pjE]at h1 h2;obtain⟨y,g1,g2⟩:=h i x hx;subst h1;obtain⟨rfl,rfl⟩:=h2;simp only[sL,g1,g2]
def sJ{P C:Program}(h:C.funcs.toList.all (gK P)=true){l:List (Nat×Ins)}(hb: ∀f x,aAD l f=some x->∃fn c,C.funcs[f]?=some fn/\fn.body=some c):aHv P C (sL C l):=by
 intro f c rs hf;unfold sL at hf;split at hf<;>try cases hf
 rename_i x hx;obtain⟨fn,cd,h1,h2⟩:=hb f x hx;have e1:iR C f=cd:=by simp only[iR,h1,h2,Option.getD_some]
 refine⟨fn,h1,by rw[h2,(zH _ _).1,e1],by simp only[aBj,h1],(zH _ _).2,?_⟩
 rw[List.all_eq_true]at h;have:=h fn (by have:=Array.mem_of_getElem? h1;simpa using this)
 simp only[gK,h2,bjE]at this;rw[(zH _ _).1,e1];exact this.1
section
variable{U:jP}{T:TP U.D}{W:Type}{c:mV U.D}{L:Nat}
def aC3{f g:TS U.D->TM U.D->TK U.D W->Option W}(h: ∀S M K,f S M K=g S M K)(K:TK U.D W):aJj U f K=aJj U g K:=by
 funext fl S M;cases fl<;>first|exact h S M K|rfl
def exD: ∀(code:TC) (S:TS U.D) (M:TM U.D) (K:TK U.D W),lM U T c (Dx U T c L) (Ex U T c L) code S M K=eV U T c L code S M K:=by
 intro code;induction code with
 |seq a b fj la=>intro S M K;simp only[lM,eV];rw[fj,aC3 la]
 |cond x a b fj la=>intro S M K;simp only[lM,eV,fj,la]
 |block id a ih=>intro S M K;simp only[lM,eV,ih]
 |scope a ih=>intro S M K;simp only[lM,eV,ih]
 |ice t a ih=>intro S M K;simp only[lM,eV,ih]
 |_=>intro S M K;rfl
end
end Go.TV
namespace Go.TV
abbrev zS(n:Nat):Ty:= .sl (.rc n)
abbrev i6:Ty:= .int .i64
end Go.TV
namespace Go.TV
open Go.AI Go.PI
namespace G
structure Z where
 b:(List Int)
 pos:Int
structure Y where
 package:(List UInt8)
 name:(List UInt8)
inductive O where
 |mk (kind:Int) (num:(List UInt8)) (den:(List UInt8)) (sym:Y) (text:(List UInt8)) (pair:(List O))
def O.kind:O->Int|⟨x,_,_,_,_,_⟩=>x
def O.num:O->(List UInt8)|⟨_,x,_,_,_,_⟩=>x
def O.den:O->(List UInt8)|⟨_,_,x,_,_,_⟩=>x
def O.sym:O->Y|⟨_,_,_,x,_,_⟩=>x
def O.text:O->(List UInt8)|⟨_,_,_,_,x,_⟩=>x
def O.pair:O->(List O)|⟨_,_,_,_,_,x⟩=>x
inductive T where
 |mk (kind:Int) (name:Y) (value:O) (args:(List T))
def T.kind:T->Int|⟨x,_,_,_⟩=>x
def T.name:T->Y|⟨_,x,_,_⟩=>x
def T.value:T->O|⟨_,_,x,_⟩=>x
def T.args:T->(List T)|⟨_,_,_,x⟩=>x
structure Q where
 a0:Y
 a1:Y
structure U where
 name:Y
 cls:Int
 hyps:(List T)
 equiv:Y
 left:T
 right:T
 terms:(List T)
 tset:Int
 stops:(List Q)
 arg:Int
 inner:Y
structure L where
 name:(List UInt8)
 formula:T
 cls:Int
structure I where
 var:Y
 term:T
structure F where
 name:Y
 params:(List Y)
 cls:Int
 guard:T
 body:T
 measure:T
structure A where
 name:(List UInt8)
 imports:(List Y)
structure M where
 name:Y
 params:(List Y)
 rest:Bool
 body:T
structure D where
 name:Y
 length:Int
 initial:O
structure B where
 name:Y
 fields:(List D)
structure C where
 tests:(List T)
 substs:(List (List I))
structure J where
 name:Y
 params:(List Y)
 body:T
structure N where
 rule:Int
 a:Int
 b:Int
 name:Y
 term:T
 measure:T
 clause:(List T)
 subst:(List I)
 lines:(List Int)
 cases:(List C)
 functional:(List J)
 weights:(List O)
inductive E where
 |mk (kind:Int) (name:Y) (package:A) (mac:M) (functions:(List F)) (formulas:(List T)) (logs:(List (List N))) (locl:(List E)) (stobj:B) (rules:(List U)) (enabled:(List Y)) (disabled:(List Y)) (text:(List UInt8)) (hash:Int)
def E.kind:E->Int|⟨x,_,_,_,_,_,_,_,_,_,_,_,_,_⟩=>x
def E.name:E->Y|⟨_,x,_,_,_,_,_,_,_,_,_,_,_,_⟩=>x
def E.package:E->A|⟨_,_,x,_,_,_,_,_,_,_,_,_,_,_⟩=>x
def E.mac:E->M|⟨_,_,_,x,_,_,_,_,_,_,_,_,_,_⟩=>x
def E.functions:E->(List F)|⟨_,_,_,_,x,_,_,_,_,_,_,_,_,_⟩=>x
def E.formulas:E->(List T)|⟨_,_,_,_,_,x,_,_,_,_,_,_,_,_⟩=>x
def E.logs:E->(List (List N))|⟨_,_,_,_,_,_,x,_,_,_,_,_,_,_⟩=>x
def E.locl:E->(List E)|⟨_,_,_,_,_,_,_,x,_,_,_,_,_,_⟩=>x
def E.stobj:E->B|⟨_,_,_,_,_,_,_,_,x,_,_,_,_,_⟩=>x
def E.rules:E->(List U)|⟨_,_,_,_,_,_,_,_,_,x,_,_,_,_⟩=>x
def E.enabled:E->(List Y)|⟨_,_,_,_,_,_,_,_,_,_,x,_,_,_⟩=>x
def E.disabled:E->(List Y)|⟨_,_,_,_,_,_,_,_,_,_,_,x,_,_⟩=>x
def E.text:E->(List UInt8)|⟨_,_,_,_,_,_,_,_,_,_,_,_,x,_⟩=>x
def E.hash:E->Int|⟨_,_,_,_,_,_,_,_,_,_,_,_,_,x⟩=>x
structure X where
 err:Int
 pos:Int
structure R where
 name:(List UInt8)
 arity:Int
structure K where
 kind:Int
 pos:Int
 package:(List UInt8)
 text:(List UInt8)
 den:(List UInt8)
structure P where
 l:(List A)
 current:(List UInt8)
 t:(List K)
 pos:Int
structure V where
 w:(List E)
 extra:(List F)
 left:Int
structure Integer where
 negative:Bool
 limbs:(List Int)
deriving instance DecidableEq for Y
deriving instance DecidableEq for Q
def eSource(x:Z):List PV:=[dN 1 (List.map (λn=>PV.v (.int .u8 n)) x.b)]++ [.v (.int .i64 x.pos)]
def lSource(l:List Z):List PV:=l.map λx=> .agg (eSource x)
def lSource_map(l:List Z):lSource l=l.map λx=> .agg (eSource x):=rfl
def eSymbol(x:Y):List PV:=[.str x.package]++ [.str x.name]
def mG(l:List Y):List PV:=l.map λx=> .agg (eSymbol x)
def lSymbol_map(l:List Y):mG l=l.map λx=> .agg (eSymbol x):=rfl
mutual
def eObject:O->List PV
 |⟨x0,x1,x2,x3,x4,x5⟩=>[.v (.int .i64 x0)]++ [.str x1]++ [.str x2]++eSymbol x3++ [.str x4]++ [dN 7 (pQ x5)]
def pQ:List O->List PV
 |[]=>[]
 |x::l=> .agg (eObject x)::pQ l
end
def lObject_map(l:List O):pQ l=l.map λx=> .agg (eObject x):=by
 induction l with
 |nil=>simp only[pQ,List.map_nil]
 |cons x l ih=>simp only[pQ,ih,mpC]
mutual
def eTerm:T->List PV
 |⟨x0,x1,x2,x3⟩=>[.v (.int .i64 x0)]++eSymbol x1++eObject x2++ [dN 11 (vM x3)]
def vM:List T->List PV
 |[]=>[]
 |x::l=> .agg (eTerm x)::vM l
end
def lTerm_map(l:List T):vM l=l.map λx=> .agg (eTerm x):=by
 induction l with
 |nil=>simp only[vM,List.map_nil]
 |cons x l ih=>simp only[vM,ih,mpC]
def ePairSymbol(x:Q):List PV:=eSymbol x.a0++eSymbol x.a1
def sZ(l:List Q):List PV:=l.map λx=> .agg (ePairSymbol x)
def lPairSymbol_map(l:List Q):sZ l=l.map λx=> .agg (ePairSymbol x):=rfl
def eRule(x:U):List PV:=eSymbol x.name++ [.v (.int .i64 x.cls)]++ [dN 11 (vM x.hyps)]++eSymbol x.equiv++eTerm x.left++eTerm x.right++ [dN 11 (vM x.terms)]++ [.v (.int .i64 x.tset)]++ [dN 4 (sZ x.stops)]++ [.v (.int .i64 x.arg)]++eSymbol x.inner
def lRule(l:List U):List PV:=l.map λx=> .agg (eRule x)
def lRule_map(l:List U):lRule l=l.map λx=> .agg (eRule x):=rfl
def eLemma(x:L):List PV:=[.str x.name]++eTerm x.formula++ [.v (.int .i64 x.cls)]
def lLemma(l:List L):List PV:=l.map λx=> .agg (eLemma x)
def lLemma_map(l:List L):lLemma l=l.map λx=> .agg (eLemma x):=rfl
def eAssign(x:I):List PV:=eSymbol x.var++eTerm x.term
def aDn(l:List I):List PV:=l.map λx=> .agg (eAssign x)
def lAssign_map(l:List I):aDn l=l.map λx=> .agg (eAssign x):=rfl
def eFunction(x:F):List PV:=eSymbol x.name++ [dN 2 (mG x.params)]++ [.v (.int .i64 x.cls)]++eTerm x.guard++eTerm x.body++eTerm x.measure
def tA(l:List F):List PV:=l.map λx=> .agg (eFunction x)
def lFunction_map(l:List F):tA l=l.map λx=> .agg (eFunction x):=rfl
def ePackage(x:A):List PV:=[.str x.name]++ [dN 2 (mG x.imports)]
def aF6(l:List A):List PV:=l.map λx=> .agg (ePackage x)
def lPackage_map(l:List A):aF6 l=l.map λx=> .agg (ePackage x):=rfl
def eMacro(x:M):List PV:=eSymbol x.name++ [dN 2 (mG x.params)]++ [.v (.bool x.rest)]++eTerm x.body
def lMacro(l:List M):List PV:=l.map λx=> .agg (eMacro x)
def lMacro_map(l:List M):lMacro l=l.map λx=> .agg (eMacro x):=rfl
def eField(x:D):List PV:=eSymbol x.name++ [.v (.int .i64 x.length)]++eObject x.initial
def lField(l:List D):List PV:=l.map λx=> .agg (eField x)
def lField_map(l:List D):lField l=l.map λx=> .agg (eField x):=rfl
def eStobj(x:B):List PV:=eSymbol x.name++ [dN 10 (lField x.fields)]
def lStobj(l:List B):List PV:=l.map λx=> .agg (eStobj x)
def lStobj_map(l:List B):lStobj l=l.map λx=> .agg (eStobj x):=rfl
def eCase(x:C):List PV:=[dN 11 (vM x.tests)]++ [dN 1 (List.map (λl=>dN 13 (aDn l)) x.substs)]
def lCase(l:List C):List PV:=l.map λx=> .agg (eCase x)
def lCase_map(l:List C):lCase l=l.map λx=> .agg (eCase x):=rfl
def eLambda(x:J):List PV:=eSymbol x.name++ [dN 2 (mG x.params)]++eTerm x.body
def aKS(l:List J):List PV:=l.map λx=> .agg (eLambda x)
def lLambda_map(l:List J):aKS l=l.map λx=> .agg (eLambda x):=rfl
def eLine(x:N):List PV:=[.v (.int .i64 x.rule)]++ [.v (.int .i64 x.a)]++ [.v (.int .i64 x.b)]++eSymbol x.name++eTerm x.term++eTerm x.measure++ [dN 11 (vM x.clause)]++ [dN 13 (aDn x.subst)]++ [dN 1 (List.map (λn=>PV.v (.int .i64 n)) x.lines)]++ [dN 2 (lCase x.cases)]++ [dN 14 (aKS x.functional)]++ [dN 7 (pQ x.weights)]
def lLine(l:List N):List PV:=l.map λx=> .agg (eLine x)
def lLine_map(l:List N):lLine l=l.map λx=> .agg (eLine x):=rfl
mutual
def eEntry:E->List PV
 |⟨x0,x1,x2,x3,x4,x5,x6,x7,x8,x9,x10,x11,x12,x13⟩=>[.v (.int .i64 x0)]++eSymbol x1++ePackage x2++eMacro x3++ [dN 37 (tA x4)]++ [dN 11 (vM x5)]++ [dN 1 (List.map (λl=>dN 33 (lLine l)) x6)]++ [dN 32 (wZ x7)]++eStobj x8++ [dN 34 (lRule x9)]++ [dN 2 (mG x10)]++ [dN 2 (mG x11)]++ [.str x12]++ [.v (.int .u64 x13)]
def wZ:List E->List PV
 |[]=>[]
 |x::l=> .agg (eEntry x)::wZ l
end
def lEntry_map(l:List E):wZ l=l.map λx=> .agg (eEntry x):=by
 induction l with
 |nil=>simp only[wZ,List.map_nil]
 |cons x l ih=>simp only[wZ,ih,mpC]
def eSourceError(x:X):List PV:=[.v (.int .i64 x.err)]++ [.v (.int .i64 x.pos)]
def aBA(l:List X):List PV:=l.map λx=> .agg (eSourceError x)
def lSourceError_map(l:List X):aBA l=l.map λx=> .agg (eSourceError x):=rfl
def eRow(x:R):List PV:=[.str x.name]++ [.v (.int .i64 x.arity)]
def lRow(l:List R):List PV:=l.map λx=> .agg (eRow x)
def lRow_map(l:List R):lRow l=l.map λx=> .agg (eRow x):=rfl
def eToken(x:K):List PV:=[.v (.int .i64 x.kind)]++ [.v (.int .i64 x.pos)]++ [.str x.package]++ [.str x.text]++ [.str x.den]
def lToken(l:List K):List PV:=l.map λx=> .agg (eToken x)
def lToken_map(l:List K):lToken l=l.map λx=> .agg (eToken x):=rfl
def eParser(x:P):List PV:=[dN 2 (aF6 x.l)]++ [.str x.current]++ [dN 5 (lToken x.t)]++ [.v (.int .i64 x.pos)]
def lParser(l:List P):List PV:=l.map λx=> .agg (eParser x)
def lParser_map(l:List P):lParser l=l.map λx=> .agg (eParser x):=rfl
def eTranslator(x:V):List PV:=[dN 32 (wZ x.w)]++ [dN 37 (tA x.extra)]++ [.v (.int .i64 x.left)]
def aDm(l:List V):List PV:=l.map λx=> .agg (eTranslator x)
def lTranslator_map(l:List V):aDm l=l.map λx=> .agg (eTranslator x):=rfl
def eInteger(x:Integer):List PV:=[.v (.bool x.negative)]++ [dN 1 (List.map (λn=>PV.v (.int .u32 n)) x.limbs)]
def lInteger(l:List Integer):List PV:=l.map λx=> .agg (eInteger x)
def lInteger_map(l:List Integer):lInteger l=l.map λx=> .agg (eInteger x):=rfl
end G
@[reducible] def D0:Nat->Type
 |0=>G.Z
 |1=>G.Y
 |2=>G.O
 |3=>G.T
 |4=>G.Q
 |5=>G.U
 |6=>G.L
 |7=>G.I
 |8=>G.F
 |9=>G.A
 |10=>G.M
 |11=>G.D
 |12=>G.B
 |13=>G.C
 |14=>G.J
 |15=>G.N
 |16=>G.E
 |17=>G.X
 |18=>G.R
 |19=>G.K
 |20=>G.P
 |21=>G.V
 |_+22=>G.Integer
def fs0:Nat->List Ty
 |0=>[(.sl (.int .u8)),i6]
 |1=>[.str,.str]
 |2=>[i6,.str,.str,.rc 1,.str,zS 2]
 |3=>[i6,.rc 1,.rc 2,zS 3]
 |4=>[.rc 1,.rc 1]
 |5=>[.rc 1,i6,zS 3,.rc 1,.rc 3,.rc 3,zS 3,i6,zS 4,i6,.rc 1]
 |6=>[.str,.rc 3,i6]
 |7=>[.rc 1,.rc 3]
 |8=>[.rc 1,zS 1,i6,.rc 3,.rc 3,.rc 3]
 |9=>[.str,zS 1]
 |10=>[.rc 1,zS 1,.bool,.rc 3]
 |11=>[.rc 1,i6,.rc 2]
 |12=>[.rc 1,zS 11]
 |13=>[zS 3,.sl (zS 7)]
 |14=>[.rc 1,zS 1,.rc 3]
 |15=>[i6,i6,i6,.rc 1,.rc 3,.rc 3,zS 3,zS 7,.sl i6,zS 13,zS 14,zS 2]
 |16=>[i6,.rc 1,.rc 9,.rc 10,zS 8,zS 3,.sl (zS 15),zS 16,.rc 12,zS 5,zS 1,zS 1,.str,(.int .u64)]
 |17=>[i6,i6]
 |18=>[.str,i6]
 |19=>[i6,i6,.str,.str,.str]
 |20=>[zS 9,.str,zS 19,i6]
 |21=>[zS 16,zS 8,i6]
 |_+22=>[.bool,(.sl (.int .u32))]
def un0:(n:Nat)->D0 n->List (TV D0)
 |0,x=>[⟨(.sl (.int .u8)),G.Z.b x⟩,⟨i6,G.Z.pos x⟩]
 |1,x=>[⟨.str,G.Y.package x⟩,⟨.str,G.Y.name x⟩]
 |2,x=>[⟨i6,G.O.kind x⟩,⟨.str,G.O.num x⟩,⟨.str,G.O.den x⟩,⟨.rc 1,G.O.sym x⟩,⟨.str,G.O.text x⟩,⟨zS 2,G.O.pair x⟩]
 |3,x=>[⟨i6,G.T.kind x⟩,⟨.rc 1,G.T.name x⟩,⟨.rc 2,G.T.value x⟩,⟨zS 3,G.T.args x⟩]
 |4,x=>[⟨.rc 1,G.Q.a0 x⟩,⟨.rc 1,G.Q.a1 x⟩]
 |5,x=>[⟨.rc 1,G.U.name x⟩,⟨i6,G.U.cls x⟩,⟨zS 3,G.U.hyps x⟩,⟨.rc 1,G.U.equiv x⟩,⟨.rc 3,G.U.left x⟩,⟨.rc 3,G.U.right x⟩,⟨zS 3,G.U.terms x⟩,⟨i6,G.U.tset x⟩,⟨zS 4,G.U.stops x⟩,⟨i6,G.U.arg x⟩,⟨.rc 1,G.U.inner x⟩]
 |6,x=>[⟨.str,G.L.name x⟩,⟨.rc 3,G.L.formula x⟩,⟨i6,G.L.cls x⟩]
 |7,x=>[⟨.rc 1,G.I.var x⟩,⟨.rc 3,G.I.term x⟩]
 |8,x=>[⟨.rc 1,G.F.name x⟩,⟨zS 1,G.F.params x⟩,⟨i6,G.F.cls x⟩,⟨.rc 3,G.F.guard x⟩,⟨.rc 3,G.F.body x⟩,⟨.rc 3,G.F.measure x⟩]
 |9,x=>[⟨.str,G.A.name x⟩,⟨zS 1,G.A.imports x⟩]
 |10,x=>[⟨.rc 1,G.M.name x⟩,⟨zS 1,G.M.params x⟩,⟨.bool,G.M.rest x⟩,⟨.rc 3,G.M.body x⟩]
 |11,x=>[⟨.rc 1,G.D.name x⟩,⟨i6,G.D.length x⟩,⟨.rc 2,G.D.initial x⟩]
 |12,x=>[⟨.rc 1,G.B.name x⟩,⟨zS 11,G.B.fields x⟩]
 |13,x=>[⟨zS 3,G.C.tests x⟩,⟨.sl (zS 7),G.C.substs x⟩]
 |14,x=>[⟨.rc 1,G.J.name x⟩,⟨zS 1,G.J.params x⟩,⟨.rc 3,G.J.body x⟩]
 |15,x=>[⟨i6,G.N.rule x⟩,⟨i6,G.N.a x⟩,⟨i6,G.N.b x⟩,⟨.rc 1,G.N.name x⟩,⟨.rc 3,G.N.term x⟩,⟨.rc 3,G.N.measure x⟩,⟨zS 3,G.N.clause x⟩,⟨zS 7,G.N.subst x⟩,⟨.sl i6,G.N.lines x⟩,⟨zS 13,G.N.cases x⟩,⟨zS 14,G.N.functional x⟩,⟨zS 2,G.N.weights x⟩]
 |16,x=>[⟨i6,G.E.kind x⟩,⟨.rc 1,G.E.name x⟩,⟨.rc 9,G.E.package x⟩,⟨.rc 10,G.E.mac x⟩,⟨zS 8,G.E.functions x⟩,⟨zS 3,G.E.formulas x⟩,⟨.sl (zS 15),G.E.logs x⟩,⟨zS 16,G.E.locl x⟩,⟨.rc 12,G.E.stobj x⟩,⟨zS 5,G.E.rules x⟩,⟨zS 1,G.E.enabled x⟩,⟨zS 1,G.E.disabled x⟩,⟨.str,G.E.text x⟩,⟨(.int .u64),G.E.hash x⟩]
 |17,x=>[⟨i6,G.X.err x⟩,⟨i6,G.X.pos x⟩]
 |18,x=>[⟨.str,G.R.name x⟩,⟨i6,G.R.arity x⟩]
 |19,x=>[⟨i6,G.K.kind x⟩,⟨i6,G.K.pos x⟩,⟨.str,G.K.package x⟩,⟨.str,G.K.text x⟩,⟨.str,G.K.den x⟩]
 |20,x=>[⟨zS 9,G.P.l x⟩,⟨.str,G.P.current x⟩,⟨zS 19,G.P.t x⟩,⟨i6,G.P.pos x⟩]
 |21,x=>[⟨zS 16,G.V.w x⟩,⟨zS 8,G.V.extra x⟩,⟨i6,G.V.left x⟩]
 |_+22,x=>[⟨.bool,G.Integer.negative x⟩,⟨(.sl (.int .u32)),G.Integer.limbs x⟩]
def of0:(n:Nat)->List (TV D0)->Option (D0 n)
 |0,l=>match eM (D:=D0) [(.sl (.int .u8)),i6] l with|some r=>some (⟨r.1,r.2.1⟩:G.Z)|none=>none
 |1,l=>match eM (D:=D0) [.str,.str] l with|some r=>some (⟨r.1,r.2.1⟩:G.Y)|none=>none
 |2,l=>match eM (D:=D0) [i6,.str,.str,.rc 1,.str,zS 2] l with|some r=>some (⟨r.1,r.2.1,r.2.2.1,r.2.2.2.1,r.2.2.2.2.1,r.2.2.2.2.2.1⟩:G.O)|none=>none
 |3,l=>match eM (D:=D0) [i6,.rc 1,.rc 2,zS 3] l with|some r=>some (⟨r.1,r.2.1,r.2.2.1,r.2.2.2.1⟩:G.T)|none=>none
 |4,l=>match eM (D:=D0) [.rc 1,.rc 1] l with|some r=>some (⟨r.1,r.2.1⟩:G.Q)|none=>none
 |5,l=>match eM (D:=D0) [.rc 1,i6,zS 3,.rc 1,.rc 3,.rc 3,zS 3,i6,zS 4,i6,.rc 1] l with|some r=>some (⟨r.1,r.2.1,r.2.2.1,r.2.2.2.1,r.2.2.2.2.1,r.2.2.2.2.2.1,r.2.2.2.2.2.2.1,r.2.2.2.2.2.2.2.1,r.2.2.2.2.2.2.2.2.1,r.2.2.2.2.2.2.2.2.2.1,r.2.2.2.2.2.2.2.2.2.2.1⟩:G.U)|none=>none
 |6,l=>match eM (D:=D0) [.str,.rc 3,i6] l with|some r=>some (⟨r.1,r.2.1,r.2.2.1⟩:G.L)|none=>none
 |7,l=>match eM (D:=D0) [.rc 1,.rc 3] l with|some r=>some (⟨r.1,r.2.1⟩:G.I)|none=>none
 |8,l=>match eM (D:=D0) [.rc 1,zS 1,i6,.rc 3,.rc 3,.rc 3] l with|some r=>some (⟨r.1,r.2.1,r.2.2.1,r.2.2.2.1,r.2.2.2.2.1,r.2.2.2.2.2.1⟩:G.F)|none=>none
 |9,l=>match eM (D:=D0) [.str,zS 1] l with|some r=>some (⟨r.1,r.2.1⟩:G.A)|none=>none
 |10,l=>match eM (D:=D0) [.rc 1,zS 1,.bool,.rc 3] l with|some r=>some (⟨r.1,r.2.1,r.2.2.1,r.2.2.2.1⟩:G.M)|none=>none
 |11,l=>match eM (D:=D0) [.rc 1,i6,.rc 2] l with|some r=>some (⟨r.1,r.2.1,r.2.2.1⟩:G.D)|none=>none
 |12,l=>match eM (D:=D0) [.rc 1,zS 11] l with|some r=>some (⟨r.1,r.2.1⟩:G.B)|none=>none
 |13,l=>match eM (D:=D0) [zS 3,.sl (zS 7)] l with|some r=>some (⟨r.1,r.2.1⟩:G.C)|none=>none
 |14,l=>match eM (D:=D0) [.rc 1,zS 1,.rc 3] l with|some r=>some (⟨r.1,r.2.1,r.2.2.1⟩:G.J)|none=>none
 |15,l=>match eM (D:=D0) [i6,i6,i6,.rc 1,.rc 3,.rc 3,zS 3,zS 7,.sl i6,zS 13,zS 14,zS 2] l with|some r=>some (⟨r.1,r.2.1,r.2.2.1,r.2.2.2.1,r.2.2.2.2.1,r.2.2.2.2.2.1,r.2.2.2.2.2.2.1,r.2.2.2.2.2.2.2.1,r.2.2.2.2.2.2.2.2.1,r.2.2.2.2.2.2.2.2.2.1,r.2.2.2.2.2.2.2.2.2.2.1,r.2.2.2.2.2.2.2.2.2.2.2.1⟩:G.N)|none=>none
 |16,l=>match eM (D:=D0) [i6,.rc 1,.rc 9,.rc 10,zS 8,zS 3,.sl (zS 15),zS 16,.rc 12,zS 5,zS 1,zS 1,.str,(.int .u64)] l with|some r=>some (⟨r.1,r.2.1,r.2.2.1,r.2.2.2.1,r.2.2.2.2.1,r.2.2.2.2.2.1,r.2.2.2.2.2.2.1,r.2.2.2.2.2.2.2.1,r.2.2.2.2.2.2.2.2.1,r.2.2.2.2.2.2.2.2.2.1,r.2.2.2.2.2.2.2.2.2.2.1,r.2.2.2.2.2.2.2.2.2.2.2.1,r.2.2.2.2.2.2.2.2.2.2.2.2.1,r.2.2.2.2.2.2.2.2.2.2.2.2.2.1⟩:G.E)|none=>none
 |17,l=>match eM (D:=D0) [i6,i6] l with|some r=>some (⟨r.1,r.2.1⟩:G.X)|none=>none
 |18,l=>match eM (D:=D0) [.str,i6] l with|some r=>some (⟨r.1,r.2.1⟩:G.R)|none=>none
 |19,l=>match eM (D:=D0) [i6,i6,.str,.str,.str] l with|some r=>some (⟨r.1,r.2.1,r.2.2.1,r.2.2.2.1,r.2.2.2.2.1⟩:G.K)|none=>none
 |20,l=>match eM (D:=D0) [zS 9,.str,zS 19,i6] l with|some r=>some (⟨r.1,r.2.1,r.2.2.1,r.2.2.2.1⟩:G.P)|none=>none
 |21,l=>match eM (D:=D0) [zS 16,zS 8,i6] l with|some r=>some (⟨r.1,r.2.1,r.2.2.1⟩:G.V)|none=>none
 |_+22,l=>match eM (D:=D0) [.bool,(.sl (.int .u32))] l with|some r=>some (⟨r.1,r.2.1⟩:G.Integer)|none=>none
def en0:(n:Nat)->D0 n->List PV
 |0,x=>G.eSource x
 |1,x=>G.eSymbol x
 |2,x=>G.eObject x
 |3,x=>G.eTerm x
 |4,x=>G.ePairSymbol x
 |5,x=>G.eRule x
 |6,x=>G.eLemma x
 |7,x=>G.eAssign x
 |8,x=>G.eFunction x
 |9,x=>G.ePackage x
 |10,x=>G.eMacro x
 |11,x=>G.eField x
 |12,x=>G.eStobj x
 |13,x=>G.eCase x
 |14,x=>G.eLambda x
 |15,x=>G.eLine x
 |16,x=>G.eEntry x
 |17,x=>G.eSourceError x
 |18,x=>G.eRow x
 |19,x=>G.eToken x
 |20,x=>G.eParser x
 |21,x=>G.eTranslator x
 |_+22,x=>G.eInteger x
def eq0:(n:Nat)->Option (D0 n->D0 n->Bool)
 |0=>none
 |1=>some λ(a b:G.Y)=>decide (a=b)
 |2=>none
 |3=>none
 |4=>some λ(a b:G.Q)=>decide (a=b)
 |5=>none
 |6=>none
 |7=>none
 |8=>none
 |9=>none
 |10=>none
 |11=>none
 |12=>none
 |13=>none
 |14=>none
 |15=>none
 |16=>none
 |17=>none
 |18=>none
 |19=>none
 |20=>none
 |21=>none
 |_+22=>none
def zero0:(n:Nat)->D0 n
 |0=>(⟨[],0⟩:G.Z)
 |1=>(⟨[],[]⟩:G.Y)
 |2=>(⟨0,[],[],⟨[],[]⟩,[],[]⟩:G.O)
 |3=>(⟨0,⟨[],[]⟩,⟨0,[],[],⟨[],[]⟩,[],[]⟩,[]⟩:G.T)
 |4=>(⟨⟨[],[]⟩,⟨[],[]⟩⟩:G.Q)
 |5=>(⟨⟨[],[]⟩,0,[],⟨[],[]⟩,⟨0,⟨[],[]⟩,⟨0,[],[],⟨[],[]⟩,[],[]⟩,[]⟩,⟨0,⟨[],[]⟩,⟨0,[],[],⟨[],[]⟩,[],[]⟩,[]⟩,[],0,[],0,⟨[],[]⟩⟩:G.U)
 |6=>(⟨[],⟨0,⟨[],[]⟩,⟨0,[],[],⟨[],[]⟩,[],[]⟩,[]⟩,0⟩:G.L)
 |7=>(⟨⟨[],[]⟩,⟨0,⟨[],[]⟩,⟨0,[],[],⟨[],[]⟩,[],[]⟩,[]⟩⟩:G.I)
 |8=>(⟨⟨[],[]⟩,[],0,⟨0,⟨[],[]⟩,⟨0,[],[],⟨[],[]⟩,[],[]⟩,[]⟩,⟨0,⟨[],[]⟩,⟨0,[],[],⟨[],[]⟩,[],[]⟩,[]⟩,⟨0,⟨[],[]⟩,⟨0,[],[],⟨[],[]⟩,[],[]⟩,[]⟩⟩:G.F)
 |9=>(⟨[],[]⟩:G.A)
 |10=>(⟨⟨[],[]⟩,[],false,⟨0,⟨[],[]⟩,⟨0,[],[],⟨[],[]⟩,[],[]⟩,[]⟩⟩:G.M)
 |11=>(⟨⟨[],[]⟩,0,⟨0,[],[],⟨[],[]⟩,[],[]⟩⟩:G.D)
 |12=>(⟨⟨[],[]⟩,[]⟩:G.B)
 |13=>(⟨[],[]⟩:G.C)
 |14=>(⟨⟨[],[]⟩,[],⟨0,⟨[],[]⟩,⟨0,[],[],⟨[],[]⟩,[],[]⟩,[]⟩⟩:G.J)
 |15=>(⟨0,0,0,⟨[],[]⟩,⟨0,⟨[],[]⟩,⟨0,[],[],⟨[],[]⟩,[],[]⟩,[]⟩,⟨0,⟨[],[]⟩,⟨0,[],[],⟨[],[]⟩,[],[]⟩,[]⟩,[],[],[],[],[],[]⟩:G.N)
 |16=>(⟨0,⟨[],[]⟩,⟨[],[]⟩,⟨⟨[],[]⟩,[],false,⟨0,⟨[],[]⟩,⟨0,[],[],⟨[],[]⟩,[],[]⟩,[]⟩⟩,[],[],[],[],⟨⟨[],[]⟩,[]⟩,[],[],[],[],0⟩:G.E)
 |17=>(⟨0,0⟩:G.X)
 |18=>(⟨[],0⟩:G.R)
 |19=>(⟨0,0,[],[],[]⟩:G.K)
 |20=>(⟨[],[],[],0⟩:G.P)
 |21=>(⟨[],[],0⟩:G.V)
 |_+22=>(⟨false,[]⟩:G.Integer)
def sz0:Nat->Nat
 |0=>2
 |1=>2
 |2=>7
 |3=>11
 |4=>4
 |5=>34
 |6=>13
 |7=>13
 |8=>37
 |9=>2
 |10=>15
 |11=>10
 |12=>3
 |13=>2
 |14=>14
 |15=>33
 |16=>32
 |17=>2
 |18=>2
 |19=>5
 |20=>4
 |21=>3
 |_+22=>2
def lt0:Nat->List Ty
 |0=>[(.sl (.int .u8)),i6]
 |1=>[.str,.str]
 |2=>[i6,.str,.str,.str,.str,.str,zS 2]
 |3=>[i6,.str,.str,i6,.str,.str,.str,.str,.str,zS 2,zS 3]
 |4=>[.str,.str,.str,.str]
 |5=>[.str,.str,i6,zS 3,.str,.str,i6,.str,.str,i6,.str,.str,.str,.str,.str,zS 2,zS 3,i6,.str,.str,i6,.str,.str,.str,.str,.str,zS 2,zS 3,zS 3,i6,zS 4,i6,.str,.str]
 |6=>[.str,i6,.str,.str,i6,.str,.str,.str,.str,.str,zS 2,zS 3,i6]
 |7=>[.str,.str,i6,.str,.str,i6,.str,.str,.str,.str,.str,zS 2,zS 3]
 |8=>[.str,.str,zS 1,i6,i6,.str,.str,i6,.str,.str,.str,.str,.str,zS 2,zS 3,i6,.str,.str,i6,.str,.str,.str,.str,.str,zS 2,zS 3,i6,.str,.str,i6,.str,.str,.str,.str,.str,zS 2,zS 3]
 |9=>[.str,zS 1]
 |10=>[.str,.str,zS 1,.bool,i6,.str,.str,i6,.str,.str,.str,.str,.str,zS 2,zS 3]
 |11=>[.str,.str,i6,i6,.str,.str,.str,.str,.str,zS 2]
 |12=>[.str,.str,zS 11]
 |13=>[zS 3,.sl (zS 7)]
 |14=>[.str,.str,zS 1,i6,.str,.str,i6,.str,.str,.str,.str,.str,zS 2,zS 3]
 |15=>[i6,i6,i6,.str,.str,i6,.str,.str,i6,.str,.str,.str,.str,.str,zS 2,zS 3,i6,.str,.str,i6,.str,.str,.str,.str,.str,zS 2,zS 3,zS 3,zS 7,.sl i6,zS 13,zS 14,zS 2]
 |16=>[i6,.str,.str,.str,zS 1,.str,.str,zS 1,.bool,i6,.str,.str,i6,.str,.str,.str,.str,.str,zS 2,zS 3,zS 8,zS 3,.sl (zS 15),zS 16,.str,.str,zS 11,zS 5,zS 1,zS 1,.str,(.int .u64)]
 |17=>[i6,i6]
 |18=>[.str,i6]
 |19=>[i6,i6,.str,.str,.str]
 |20=>[zS 9,.str,zS 19,i6]
 |21=>[zS 16,zS 8,i6]
 |_+22=>[.bool,(.sl (.int .u32))]
def U0:jP:=⟨D0,fs0,un0,of0,en0,eq0,zero0,sz0,lt0⟩
def gd_v(x:Value):gd (.v x)=true:=rfl
def gd_st(s:List UInt8):gd (.str s)=true:=rfl
def bJ(z:Nat)(l:List PV):(dN z l).cells=[dN z l]:=jJ (cI _ _)
def cK(x:Value):(PV.v x).cells=[.v x]:=rfl
def bI(x:List UInt8):(PV.str x).cells=[.str x]:=rfl
def bK(x:List PV):(PV.agg x).cells=x:=rfl
def len_0: ∀x:D0 0,(en0 0 x).length=sz0 0:=λ(x:G.Z)=>by rfl
def len_1: ∀x:D0 1,(en0 1 x).length=sz0 1:=λ(x:G.Y)=>by rfl
def dH: ∀y:G.Y,(G.eSymbol y).length=2:=len_1
def len_2: ∀x:D0 2,(en0 2 x).length=sz0 2:=λ(x:G.O)=>by
 cases x;show(G.eObject _).length=7;simp only[G.eObject,lnA,lcS,lnN,dH]
def aBy: ∀y:G.O,(G.eObject y).length=7:=len_2
def len_3: ∀x:D0 3,(en0 3 x).length=sz0 3:=λ(x:G.T)=>by
 cases x;show(G.eTerm _).length=11;simp only[G.eTerm,lnA,lcS,lnN,dH,aBy]
def mF: ∀y:G.T,(G.eTerm y).length=11:=len_3
def len_4: ∀x:D0 4,(en0 4 x).length=sz0 4:=λ(x:G.Q)=>by
 show(G.ePairSymbol _).length=4;simp only[G.ePairSymbol,lnA,lcS,lnN,dH]
def len_5: ∀x:D0 5,(en0 5 x).length=sz0 5:=λ(x:G.U)=>by
 show(G.eRule _).length=34;simp only[G.eRule,lnA,lcS,lnN,dH,mF]
def len_6: ∀x:D0 6,(en0 6 x).length=sz0 6:=λ(x:G.L)=>by
 show(G.eLemma _).length=13;simp only[G.eLemma,lnA,lcS,lnN,mF]
def len_7: ∀x:D0 7,(en0 7 x).length=sz0 7:=λ(x:G.I)=>by
 show(G.eAssign _).length=13;simp only[G.eAssign,lnA,lcS,lnN,dH,mF]
def len_8: ∀x:D0 8,(en0 8 x).length=sz0 8:=λ(x:G.F)=>by
 show(G.eFunction _).length=37;simp only[G.eFunction,lnA,lcS,lnN,dH,mF]
def len_9: ∀x:D0 9,(en0 9 x).length=sz0 9:=λ(x:G.A)=>by rfl
def aId: ∀y:G.A,(G.ePackage y).length=2:=len_9
def len_10: ∀x:D0 10,(en0 10 x).length=sz0 10:=λ(x:G.M)=>by
 show(G.eMacro _).length=15;simp only[G.eMacro,lnA,lcS,lnN,dH,mF]
def lenMacro: ∀y:G.M,(G.eMacro y).length=15:=len_10
def len_11: ∀x:D0 11,(en0 11 x).length=sz0 11:=λ(x:G.D)=>by
 show(G.eField _).length=10;simp only[G.eField,lnA,lcS,lnN,dH,aBy]
def len_12: ∀x:D0 12,(en0 12 x).length=sz0 12:=λ(x:G.B)=>by
 show(G.eStobj _).length=3;simp only[G.eStobj,lnA,lcS,lnN,dH]
def lenStobj: ∀y:G.B,(G.eStobj y).length=3:=len_12
def len_13: ∀x:D0 13,(en0 13 x).length=sz0 13:=λ(x:G.C)=>by rfl
def len_14: ∀x:D0 14,(en0 14 x).length=sz0 14:=λ(x:G.J)=>by
 show(G.eLambda _).length=14;simp only[G.eLambda,lnA,lcS,lnN,dH,mF]
def len_15: ∀x:D0 15,(en0 15 x).length=sz0 15:=λ(x:G.N)=>by
 show(G.eLine _).length=33;simp only[G.eLine,lnA,lcS,lnN,dH,mF]
def len_16: ∀x:D0 16,(en0 16 x).length=sz0 16:=λ(x:G.E)=>by
 cases x;show(G.eEntry _).length=32;simp only[G.eEntry,lnA,lcS,lnN,dH,aId,lenMacro,lenStobj]
def len_17: ∀x:D0 17,(en0 17 x).length=sz0 17:=λ(x:G.X)=>by rfl
def len_18: ∀x:D0 18,(en0 18 x).length=sz0 18:=λ(x:G.R)=>by rfl
def len_19: ∀x:D0 19,(en0 19 x).length=sz0 19:=λ(x:G.K)=>by rfl
def len_20: ∀x:D0 20,(en0 20 x).length=sz0 20:=λ(x:G.P)=>by rfl
def len_21: ∀x:D0 21,(en0 21 x).length=sz0 21:=λ(x:G.V)=>by rfl
def len_22(k:Nat): ∀x:D0 (k+22),(en0 (k+22) x).length=sz0 (k+22):=λ(x:G.Integer)=>by rfl
def gAl:(∀(a b:List PV) (p:PV->Bool),(a++b).all p=(a.all p&&b.all p))/\(∀(a:PV) (l:List PV) (p:PV->Bool),(a::l).all p=(p a&&l.all p))/\(∀p:PV->Bool,([]:List PV).all p=true)/\(∀(z:Nat) (l:List PV),gd (dN z l)=true)/\(∀x:Value,gd (.v x)=true)/\(∀s:List UInt8,gd (.str s)=true)/\(∀b:Bool,(b&&b)=b)/\∀b:Bool,(b&&true)=b:=⟨λ_ _ _=>List.all_append,λ_ _ _=>alC,λ_=>List.all_nil,cI,gd_v,gd_st,Bool.and_self,bnA⟩
def gd_0: ∀x:D0 0,(en0 0 x).all gd=true:=λ(x:G.Z)=>by
 show(G.eSource _).all gd=true;simp only[G.eSource,gAl]
def gd_1: ∀x:D0 1,(en0 1 x).all gd=true:=λ(x:G.Y)=>by
 show(G.eSymbol _).all gd=true;simp only[G.eSymbol,gAl]
def eJ: ∀y:G.Y,(G.eSymbol y).all gd=true:=gd_1
def gd_2: ∀x:D0 2,(en0 2 x).all gd=true:=λ(x:G.O)=>by
 cases x;show(G.eObject _).all gd=true;simp only[G.eObject,gAl,eJ]
def aGg: ∀y:G.O,(G.eObject y).all gd=true:=gd_2
def gd_3: ∀x:D0 3,(en0 3 x).all gd=true:=λ(x:G.T)=>by
 cases x;show(G.eTerm _).all gd=true;simp only[G.eTerm,gAl,eJ,aGg]
def tC: ∀y:G.T,(G.eTerm y).all gd=true:=gd_3
def gd_4: ∀x:D0 4,(en0 4 x).all gd=true:=λ(x:G.Q)=>by
 show(G.ePairSymbol _).all gd=true;simp only[G.ePairSymbol,gAl,eJ]
def gd_5: ∀x:D0 5,(en0 5 x).all gd=true:=λ(x:G.U)=>by
 show(G.eRule _).all gd=true;simp only[G.eRule,gAl,eJ,tC]
def gd_6: ∀x:D0 6,(en0 6 x).all gd=true:=λ(x:G.L)=>by
 show(G.eLemma _).all gd=true;simp only[G.eLemma,gAl,tC]
def gd_7: ∀x:D0 7,(en0 7 x).all gd=true:=λ(x:G.I)=>by
 show(G.eAssign _).all gd=true;simp only[G.eAssign,gAl,eJ,tC]
def gd_8: ∀x:D0 8,(en0 8 x).all gd=true:=λ(x:G.F)=>by
 show(G.eFunction _).all gd=true;simp only[G.eFunction,gAl,eJ,tC]
def gd_9: ∀x:D0 9,(en0 9 x).all gd=true:=λ(x:G.A)=>by
 show(G.ePackage _).all gd=true;simp only[G.ePackage,gAl]
def aK1: ∀y:G.A,(G.ePackage y).all gd=true:=gd_9
def gd_10: ∀x:D0 10,(en0 10 x).all gd=true:=λ(x:G.M)=>by
 show(G.eMacro _).all gd=true;simp only[G.eMacro,gAl,eJ,tC]
def gdMacro: ∀y:G.M,(G.eMacro y).all gd=true:=gd_10
def gd_11: ∀x:D0 11,(en0 11 x).all gd=true:=λ(x:G.D)=>by
 show(G.eField _).all gd=true;simp only[G.eField,gAl,eJ,aGg]
def gd_12: ∀x:D0 12,(en0 12 x).all gd=true:=λ(x:G.B)=>by
 show(G.eStobj _).all gd=true;simp only[G.eStobj,gAl,eJ]
def gdStobj: ∀y:G.B,(G.eStobj y).all gd=true:=gd_12
def gd_13: ∀x:D0 13,(en0 13 x).all gd=true:=λ(x:G.C)=>by
 show(G.eCase _).all gd=true;simp only[G.eCase,gAl]
def gd_14: ∀x:D0 14,(en0 14 x).all gd=true:=λ(x:G.J)=>by
 show(G.eLambda _).all gd=true;simp only[G.eLambda,gAl,eJ,tC]
def gd_15: ∀x:D0 15,(en0 15 x).all gd=true:=λ(x:G.N)=>by
 show(G.eLine _).all gd=true;simp only[G.eLine,gAl,eJ,tC]
def gd_16: ∀x:D0 16,(en0 16 x).all gd=true:=λ(x:G.E)=>by
 cases x;show(G.eEntry _).all gd=true;simp only[G.eEntry,gAl,eJ,aK1,gdMacro,gdStobj]
def gd_17: ∀x:D0 17,(en0 17 x).all gd=true:=λ(x:G.X)=>by
 show(G.eSourceError _).all gd=true;simp only[G.eSourceError,gAl]
def gd_18: ∀x:D0 18,(en0 18 x).all gd=true:=λ(x:G.R)=>by
 show(G.eRow _).all gd=true;simp only[G.eRow,gAl]
def gd_19: ∀x:D0 19,(en0 19 x).all gd=true:=λ(x:G.K)=>by
 show(G.eToken _).all gd=true;simp only[G.eToken,gAl]
def gd_20: ∀x:D0 20,(en0 20 x).all gd=true:=λ(x:G.P)=>by
 show(G.eParser _).all gd=true;simp only[G.eParser,gAl]
def gd_21: ∀x:D0 21,(en0 21 x).all gd=true:=λ(x:G.V)=>by
 show(G.eTranslator _).all gd=true;simp only[G.eTranslator,gAl]
def gd_22(k:Nat): ∀x:D0 (k+22),(en0 (k+22) x).all gd=true:=λ(x:G.Integer)=>by
 show(G.eInteger _).all gd=true;simp only[G.eInteger,gAl]
def gM:=And.intro G.lSource_map (And.intro G.lSymbol_map (And.intro G.lObject_map (And.intro G.lTerm_map (And.intro G.lPairSymbol_map (And.intro G.lRule_map (And.intro G.lLemma_map (And.intro G.lAssign_map (And.intro G.lFunction_map (And.intro G.lPackage_map (And.intro G.lMacro_map (And.intro G.lField_map (And.intro G.lStobj_map (And.intro G.lCase_map (And.intro G.lLambda_map (And.intro G.lLine_map (And.intro G.lEntry_map (And.intro G.lSourceError_map (And.intro G.lRow_map (And.intro G.lToken_map (And.intro G.lParser_map (And.intro G.lTranslator_map G.lInteger_map)))))))))))))))))))))
def enl_0: ∀x:D0 0,en0 0 x=(un0 0 x).flatMap λv=>(enV U0 v.t v.x).cells:=λ(x:G.Z)=>by
 show G.eSource _=_;simp only[G.eSource,un0,fmC,fmN,enV,bJ,cK,bI,bK,apN,apA,sgA,cnA,nlA,szT,U0,sz0,en0,gM]
 try rfl
def enl_1: ∀x:D0 1,en0 1 x=(un0 1 x).flatMap λv=>(enV U0 v.t v.x).cells:=λ(x:G.Y)=>by
 show G.eSymbol _=_;simp only[G.eSymbol,un0,fmC,fmN,enV,bJ,cK,bI,bK,apN,apA,sgA,cnA,nlA,szT,U0,sz0,en0,gM]
 try rfl
def enl_2: ∀x:D0 2,en0 2 x=(un0 2 x).flatMap λv=>(enV U0 v.t v.x).cells:=λ(x:G.O)=>by
 cases x;show G.eObject _=_;simp only[G.eObject,un0,fmC,fmN,enV,bJ,cK,bI,bK,apN,apA,sgA,cnA,nlA,szT,U0,sz0,en0,gM,G.O.kind,G.O.num,G.O.den,G.O.sym,G.O.text,G.O.pair]
 try rfl
def enl_3: ∀x:D0 3,en0 3 x=(un0 3 x).flatMap λv=>(enV U0 v.t v.x).cells:=λ(x:G.T)=>by
 cases x;show G.eTerm _=_;simp only[G.eTerm,un0,fmC,fmN,enV,bJ,cK,bI,bK,apN,apA,sgA,cnA,nlA,szT,U0,sz0,en0,gM,G.T.kind,G.T.name,G.T.value,G.T.args]
 try rfl
def enl_4: ∀x:D0 4,en0 4 x=(un0 4 x).flatMap λv=>(enV U0 v.t v.x).cells:=λ(x:G.Q)=>by
 show G.ePairSymbol _=_;simp only[G.ePairSymbol,un0,fmC,fmN,enV,bJ,cK,bI,bK,apN,apA,sgA,cnA,nlA,szT,U0,sz0,en0,gM]
 try rfl
def enl_5: ∀x:D0 5,en0 5 x=(un0 5 x).flatMap λv=>(enV U0 v.t v.x).cells:=λ(x:G.U)=>by
 show G.eRule _=_;simp only[G.eRule,un0,fmC,fmN,enV,bJ,cK,bI,bK,apN,apA,sgA,cnA,nlA,szT,U0,sz0,en0,gM]
 try rfl
def enl_6: ∀x:D0 6,en0 6 x=(un0 6 x).flatMap λv=>(enV U0 v.t v.x).cells:=λ(x:G.L)=>by
 show G.eLemma _=_;simp only[G.eLemma,un0,fmC,fmN,enV,bJ,cK,bI,bK,apN,apA,sgA,cnA,nlA,szT,U0,sz0,en0,gM]
 try rfl
def enl_7: ∀x:D0 7,en0 7 x=(un0 7 x).flatMap λv=>(enV U0 v.t v.x).cells:=λ(x:G.I)=>by
 show G.eAssign _=_;simp only[G.eAssign,un0,fmC,fmN,enV,bJ,cK,bI,bK,apN,apA,sgA,cnA,nlA,szT,U0,sz0,en0,gM]
 try rfl
def enl_8: ∀x:D0 8,en0 8 x=(un0 8 x).flatMap λv=>(enV U0 v.t v.x).cells:=λ(x:G.F)=>by
 show G.eFunction _=_;simp only[G.eFunction,un0,fmC,fmN,enV,bJ,cK,bI,bK,apN,apA,sgA,cnA,nlA,szT,U0,sz0,en0,gM]
 try rfl
def enl_9: ∀x:D0 9,en0 9 x=(un0 9 x).flatMap λv=>(enV U0 v.t v.x).cells:=λ(x:G.A)=>by
 show G.ePackage _=_;simp only[G.ePackage,un0,fmC,fmN,enV,bJ,cK,bI,bK,apN,apA,sgA,cnA,nlA,szT,U0,sz0,en0,gM]
 try rfl
def enl_10: ∀x:D0 10,en0 10 x=(un0 10 x).flatMap λv=>(enV U0 v.t v.x).cells:=λ(x:G.M)=>by
 show G.eMacro _=_;simp only[G.eMacro,un0,fmC,fmN,enV,bJ,cK,bI,bK,apN,apA,sgA,cnA,nlA,szT,U0,sz0,en0,gM]
 try rfl
def enl_11: ∀x:D0 11,en0 11 x=(un0 11 x).flatMap λv=>(enV U0 v.t v.x).cells:=λ(x:G.D)=>by
 show G.eField _=_;simp only[G.eField,un0,fmC,fmN,enV,bJ,cK,bI,bK,apN,apA,sgA,cnA,nlA,szT,U0,sz0,en0,gM]
 try rfl
def enl_12: ∀x:D0 12,en0 12 x=(un0 12 x).flatMap λv=>(enV U0 v.t v.x).cells:=λ(x:G.B)=>by
 show G.eStobj _=_;simp only[G.eStobj,un0,fmC,fmN,enV,bJ,cK,bI,bK,apN,apA,sgA,cnA,nlA,szT,U0,sz0,en0,gM]
 try rfl
def enl_13: ∀x:D0 13,en0 13 x=(un0 13 x).flatMap λv=>(enV U0 v.t v.x).cells:=λ(x:G.C)=>by
 show G.eCase _=_;simp only[G.eCase,un0,fmC,fmN,enV,bJ,cK,bI,bK,apN,apA,sgA,cnA,nlA,szT,U0,sz0,en0,gM]
 try rfl
def enl_14: ∀x:D0 14,en0 14 x=(un0 14 x).flatMap λv=>(enV U0 v.t v.x).cells:=λ(x:G.J)=>by
 show G.eLambda _=_;simp only[G.eLambda,un0,fmC,fmN,enV,bJ,cK,bI,bK,apN,apA,sgA,cnA,nlA,szT,U0,sz0,en0,gM]
 try rfl
def enl_15: ∀x:D0 15,en0 15 x=(un0 15 x).flatMap λv=>(enV U0 v.t v.x).cells:=λ(x:G.N)=>by
 show G.eLine _=_;simp only[G.eLine,un0,fmC,fmN,enV,bJ,cK,bI,bK,apN,apA,sgA,cnA,nlA,szT,U0,sz0,en0,gM]
 try rfl
def enl_16: ∀x:D0 16,en0 16 x=(un0 16 x).flatMap λv=>(enV U0 v.t v.x).cells:=λ(x:G.E)=>by
 cases x;show G.eEntry _=_;simp only[G.eEntry,un0,fmC,fmN,enV,bJ,cK,bI,bK,apN,apA,sgA,cnA,nlA,szT,U0,sz0,en0,gM,G.E.kind,G.E.name,G.E.package,G.E.mac,G.E.functions,G.E.formulas,G.E.logs,G.E.locl,G.E.stobj,G.E.rules,G.E.enabled,G.E.disabled,G.E.text,G.E.hash]
 try rfl
def enl_17: ∀x:D0 17,en0 17 x=(un0 17 x).flatMap λv=>(enV U0 v.t v.x).cells:=λ(x:G.X)=>by
 show G.eSourceError _=_;simp only[G.eSourceError,un0,fmC,fmN,enV,bJ,cK,bI,bK,apN,apA,sgA,cnA,nlA,szT,U0,sz0,en0,gM]
 try rfl
def enl_18: ∀x:D0 18,en0 18 x=(un0 18 x).flatMap λv=>(enV U0 v.t v.x).cells:=λ(x:G.R)=>by
 show G.eRow _=_;simp only[G.eRow,un0,fmC,fmN,enV,bJ,cK,bI,bK,apN,apA,sgA,cnA,nlA,szT,U0,sz0,en0,gM]
 try rfl
def enl_19: ∀x:D0 19,en0 19 x=(un0 19 x).flatMap λv=>(enV U0 v.t v.x).cells:=λ(x:G.K)=>by
 show G.eToken _=_;simp only[G.eToken,un0,fmC,fmN,enV,bJ,cK,bI,bK,apN,apA,sgA,cnA,nlA,szT,U0,sz0,en0,gM]
 try rfl
def enl_20: ∀x:D0 20,en0 20 x=(un0 20 x).flatMap λv=>(enV U0 v.t v.x).cells:=λ(x:G.P)=>by
 show G.eParser _=_;simp only[G.eParser,un0,fmC,fmN,enV,bJ,cK,bI,bK,apN,apA,sgA,cnA,nlA,szT,U0,sz0,en0,gM]
 try rfl
def enl_21: ∀x:D0 21,en0 21 x=(un0 21 x).flatMap λv=>(enV U0 v.t v.x).cells:=λ(x:G.V)=>by
 show G.eTranslator _=_;simp only[G.eTranslator,un0,fmC,fmN,enV,bJ,cK,bI,bK,apN,apA,sgA,cnA,nlA,szT,U0,sz0,en0,gM]
 try rfl
def enl_22(k:Nat): ∀x:D0 (k+22),en0 (k+22) x=(un0 (k+22) x).flatMap λv=>(enV U0 v.t v.x).cells:=λ(x:G.Integer)=>by
 show G.eInteger _=_;simp only[G.eInteger,un0,fmC,fmN,enV,bJ,cK,bI,bK,apN,apA,sgA,cnA,nlA,szT,U0,sz0,en0,gM]
 try rfl
def recOK:fV U0 where
 eqc:=by
  intro n f x h
  match n,f,x,h with
  |0,f,x,h=>cases h
  |1,f,x,h=>cases h;rfl
  |2,f,x,h=>cases h
  |3,f,x,h=>cases h
  |4,f,x,h=>cases h;rfl
  |5,f,x,h=>cases h
  |6,f,x,h=>cases h
  |7,f,x,h=>cases h
  |8,f,x,h=>cases h
  |9,f,x,h=>cases h
  |10,f,x,h=>cases h
  |11,f,x,h=>cases h
  |12,f,x,h=>cases h
  |13,f,x,h=>cases h
  |14,f,x,h=>cases h
  |15,f,x,h=>cases h
  |16,f,x,h=>cases h
  |17,f,x,h=>cases h
  |18,f,x,h=>cases h
  |19,f,x,h=>cases h
  |20,f,x,h=>cases h
  |21,f,x,h=>cases h
  |k+22,f,x,h=>cases h
 ty:=λn=>match n with|0=>λ_=>rfl|1=>λ_=>rfl|2=>λ_=>rfl|3=>λ_=>rfl|4=>λ_=>rfl|5=>λ_=>rfl|6=>λ_=>rfl|7=>λ_=>rfl|8=>λ_=>rfl|9=>λ_=>rfl|10=>λ_=>rfl|11=>λ_=>rfl|12=>λ_=>rfl|13=>λ_=>rfl|14=>λ_=>rfl|15=>λ_=>rfl|16=>λ_=>rfl|17=>λ_=>rfl|18=>λ_=>rfl|19=>λ_=>rfl|20=>λ_=>rfl|21=>λ_=>rfl|k+22=>λ_=>rfl
 un_of:=by
  intro n l x h
  match n,x,h with
  |0,x,h=>
   simp only[U0,of0]at h;split at h
   ·rename_i r hr;cases h;exact bE hr
   ·cases h
  |1,x,h=>
   simp only[U0,of0]at h;split at h
   ·rename_i r hr;cases h;exact bE hr
   ·cases h
  |2,x,h=>
   simp only[U0,of0]at h;split at h
   ·rename_i r hr;cases h;exact bE hr
   ·cases h
  |3,x,h=>
   simp only[U0,of0]at h;split at h
   ·rename_i r hr;cases h;exact bE hr
   ·cases h
  |4,x,h=>
   simp only[U0,of0]at h;split at h
   ·rename_i r hr;cases h;exact bE hr
   ·cases h
  |5,x,h=>
   simp only[U0,of0]at h;split at h
   ·rename_i r hr;cases h;exact bE hr
   ·cases h
  |6,x,h=>
   simp only[U0,of0]at h;split at h
   ·rename_i r hr;cases h;exact bE hr
   ·cases h
  |7,x,h=>
   simp only[U0,of0]at h;split at h
   ·rename_i r hr;cases h;exact bE hr
   ·cases h
  |8,x,h=>
   simp only[U0,of0]at h;split at h
   ·rename_i r hr;cases h;exact bE hr
   ·cases h
  |9,x,h=>
   simp only[U0,of0]at h;split at h
   ·rename_i r hr;cases h;exact bE hr
   ·cases h
  |10,x,h=>
   simp only[U0,of0]at h;split at h
   ·rename_i r hr;cases h;exact bE hr
   ·cases h
  |11,x,h=>
   simp only[U0,of0]at h;split at h
   ·rename_i r hr;cases h;exact bE hr
   ·cases h
  |12,x,h=>
   simp only[U0,of0]at h;split at h
   ·rename_i r hr;cases h;exact bE hr
   ·cases h
  |13,x,h=>
   simp only[U0,of0]at h;split at h
   ·rename_i r hr;cases h;exact bE hr
   ·cases h
  |14,x,h=>
   simp only[U0,of0]at h;split at h
   ·rename_i r hr;cases h;exact bE hr
   ·cases h
  |15,x,h=>
   simp only[U0,of0]at h;split at h
   ·rename_i r hr;cases h;exact bE hr
   ·cases h
  |16,x,h=>
   simp only[U0,of0]at h;split at h
   ·rename_i r hr;cases h;exact bE hr
   ·cases h
  |17,x,h=>
   simp only[U0,of0]at h;split at h
   ·rename_i r hr;cases h;exact bE hr
   ·cases h
  |18,x,h=>
   simp only[U0,of0]at h;split at h
   ·rename_i r hr;cases h;exact bE hr
   ·cases h
  |19,x,h=>
   simp only[U0,of0]at h;split at h
   ·rename_i r hr;cases h;exact bE hr
   ·cases h
  |20,x,h=>
   simp only[U0,of0]at h;split at h
   ·rename_i r hr;cases h;exact bE hr
   ·cases h
  |21,x,h=>
   simp only[U0,of0]at h;split at h
   ·rename_i r hr;cases h;exact bE hr
   ·cases h
  |k+22,x,h=>
   simp only[U0,of0]at h;split at h
   ·rename_i r hr;cases h;exact bE hr
   ·cases h
 en:=λn=>match n with|0=>enl_0|1=>enl_1|2=>enl_2|3=>enl_3|4=>enl_4|5=>enl_5|6=>enl_6|7=>enl_7|8=>enl_8|9=>enl_9|10=>enl_10|11=>enl_11|12=>enl_12|13=>enl_13|14=>enl_14|15=>enl_15|16=>enl_16|17=>enl_17|18=>enl_18|19=>enl_19|20=>enl_20|21=>enl_21|k+22=>enl_22 k
 len:=λn=>match n with|0=>len_0|1=>len_1|2=>len_2|3=>len_3|4=>len_4|5=>len_5|6=>len_6|7=>len_7|8=>len_8|9=>len_9|10=>len_10|11=>len_11|12=>len_12|13=>len_13|14=>len_14|15=>len_15|16=>len_16|17=>len_17|18=>len_18|19=>len_19|20=>len_20|21=>len_21|k+22=>len_22 k
 sz:=λn=>by
    iterate 22 (rcases n with _|n; · kernel_rfl)
    kernel_rfl
 zc:=λn=>by
    iterate 22 (rcases n with _|n; · kernel_rfl)
    kernel_rfl
 nz:=λn=>by
    iterate 22 (rcases n with _|n; · kernel_rfl)
    kernel_rfl
 zero:=λn=>by
    iterate 22 (rcases n with _|n; · kernel_rfl)
    kernel_rfl
 lt:=λn=>by
    iterate 22 (rcases n with _|n; · kernel_rfl)
    kernel_rfl
 ltl:=λn=>by
    iterate 22 (rcases n with _|n; · kernel_rfl)
    kernel_rfl
 gd:=λn=>match n with|0=>gd_0|1=>gd_1|2=>gd_2|3=>gd_3|4=>gd_4|5=>gd_5|6=>gd_6|7=>gd_7|8=>gd_8|9=>gd_9|10=>gd_10|11=>gd_11|12=>gd_12|13=>gd_13|14=>gd_14|15=>gd_15|16=>gd_16|17=>gd_17|18=>gd_18|19=>gd_19|20=>gd_20|21=>gd_21|k+22=>gd_22 k
 pos:=λn=>Nat.le_of_ble_eq_true (by
    iterate 22 (rcases n with _|n; · kernel_rfl)
    kernel_rfl)
end Go.TV
namespace Go.AI
section
variable{P:Program}
def aJq{N:Type}{c:Prop}[Decidable c]{a b:Sem N}:aR P (if c then a else b)=if c then aR P a else aR P b:=by split<;>rfl
def sF{d:Nat}{t:TypeId}{fs:Array Field}{xs ys:Array Value}(ht:P.underlying t=some (.struct fs))(hp:P.stoodInHeld t=false):
    aR P (Op.equalIn (d+1) t (.agg xs) (.agg ys))=aR P (Op.eqFields d xs ys fs.toList):=by
 rw[Op.equalIn.eq_2,aA,aF,ht];simp only[obS];rw[aA];have:aR P program=some P:=rfl;rw[this];simp only[obS,hp,Bool.false_eq_true,if_false];rw[<-Array.forIn_toList];generalize fs.toList=l;clear ht;induction l with
 |nil=>simp[Op.eqFields,aA,aB]
 |cons f l ih=>
  simp only[List.forIn_cons,Op.eqFields,aA,aJq];split
  ·cases aR P (part f.type xs f.offset)with
   |none=>rfl
   |some a=>
    cases aR P (part f.type ys f.offset)with
    |none=>rfl
    |some b=>
     simp only[obS];cases aR P (Op.equalIn d f.type a b)with
     |none=>rfl
     |some r=>
      cases r with
      |false=>simp[aB]
      |true=>
       simp only[obS,bnT,Bool.false_eq_true,if_false,aB];simpa only[aA]using ih
  ·simp only[aB,obS];simpa only[aA]using ih
def aGN{t:TypeId}{x y:Operand}{xs ys:Array Value}{r:Bool}(h1:xs.toList.all aE=true)(h2:ys.toList.all aE=true)(hg:aR P (eqGuard .eql t x y (.agg xs) (.agg ys))=some ())(he:aR P (Op.equal t (.agg xs) (.agg ys))=some r):
    iJ P .eql t x y (.agg xs) (.agg ys)=some (.bool r):=by
 simp only[iJ,aO,h1,h2,Bool.and_self,cdt,aY,aA,hg,obS,binOp,he,aB,aE]
def aGM{t:TypeId}{x y:Operand}{xs ys:Array Value}{r:Bool}(h1:xs.toList.all aE=true)(h2:ys.toList.all aE=true)(hg:aR P (eqGuard .neq t x y (.agg xs) (.agg ys))=some ())(he:aR P (Op.equal t (.agg xs) (.agg ys))=some r):
    iJ P .neq t x y (.agg xs) (.agg ys)=some (.bool (!r)):=by
 simp only[iJ,aO,h1,h2,Bool.and_self,cdt,aY,aA,hg,obS,binOp,he,aB,aE]
end
end Go.AI
namespace Go.TV
open Go.AI Go.PI
def aK8:List (Nat×Ty)->Nat->Option Ty
 |[],_=>none
 |(k,t)::l,i=>bif Nat.beq k i then some t else aK8 l i
def tG: ∀{l:List (Nat×Ty)} {i:Nat} {t:Ty},aK8 l i=some t->(i,t)∈l
 |(k,t)::l,i,u,h=>by
  unfold aK8 at h;cases hb:Nat.beq k i with
  |true=>rw[hb]at h;cases h;rw[nqE hb];exact mhE ..
  |false=>rw[hb]at h;exact mtE _ (tG h)
def findN:List (Nat×Nat)->Nat->Option Nat
 |[],_=>none
 |(k,t)::l,i=>bif Nat.beq k i then some t else findN l i
def eqPl:List (Nat×Nat)->List (Nat×Nat)->Bool
 |[],[]=>true
 |(a,b)::l,(c,d)::r=>Nat.beq a c&&Nat.beq b d&&eqPl l r
 |_,_=>false
def aLf: ∀{l r:List (Nat×Nat)},eqPl l r=true->l=r
 |[],[],_=>rfl
 |(a,b)::l,(c,d)::r,h=>by
  simp only[eqPl,bjE,cG,djE]at h;rw[h.1.1,h.1.2,aLf h.2]
 |[],_::_,h=>by cases h
 |_::_,[],h=>by cases h
section
variable(P:Program)(T:TP U0.D)
def okFs:List Field->List Ty->Nat->Bool
 |[],[],_=>true
 |f::fs,t::ts,o=>(match T.T.ty f.type with|some u=>u.beq t|none=>false)&&Nat.beq f.offset o&&okFs fs ts (o+szT U0 t)
 |_,_,_=>false
def okUn(id:Nat)(t:Ty):Bool:=
 match t,P.underlying id with
 | .int k,some (.int j)=>decide (k=j)
 | .bool,some .bool=>true
 | .str,some .string=>true
 | .sl e,some (.slice i)=>(match T.T.ty i with|some u=>u.beq e|none=>false)&&(match T.el id with|some j=>Nat.beq i j|none=>false)
 | .rc n,some (.struct fs)=>okFs T fs.toList (U0.fs n) 0&&(match aR P (fs.mapM λf=>do pure (f.offset,<-Go.sizeOf f.type))with|some pl=>eqPl pl.toList (plcT U0 (U0.fs n) 0)|none=>false)
 | .rc n,_=>T.T.arr id
 |_,_=>false
def aBs(x:Nat×Ty):Bool:=
 (match gU P x.1 with|some b=>(b==oY x.2)|none=>false)&&
 (match iK P x.1 with|some n=>Nat.beq n (szT U0 x.2)|none=>false)&&
 (match zeroCells P x.1 with|some z=>eqZ z (zcT U0 x.2)|none=>false)&&
 okUn P T x.1 x.2&&
 (match P.info? x.1 with
  |some i=>Nat.beq i.size (szT U0 x.2)&&Nat.beq i.bytes (T.T.by' x.1)&&Nat.ble 1 i.bytes&&(match i.zero with|some z=>Nat.beq z.cells.size i.size&&eqZ (ofVs z.cells.toList) (zcT U0 x.2)&&z.cells.toList.all aE|none=>false)
  |none=>false)
def okFn(id:Nat):Bool:=
 (match gU P id with|some b=> !b|none=>false)&&(match iK P id with|some n=>Nat.beq n 1|none=>false)&&(match zeroCells P id with|some z=>eqZ z [.v .nilFunc]|none=>false)
variable{P T}
def aKB: ∀{fs:List Field} {ts:List Ty} {o:Nat},okFs T fs ts o=true->fs.length=ts.length/\∀i f,fs[i]?=some f->T.T.ty f.type=ts[i]?/\f.offset=o+cY U0 (ts.take i)
 |[],[],o,_=>⟨rfl,λi f h=>by simp at h⟩
 |f::fs,t::ts,o,h=>by
  simp only[okFs,bjE,cG,djE]at h;obtain⟨⟨h1,h2⟩,h3⟩:=h;obtain⟨g1,g2⟩:=aKB h3;refine⟨by rw[lcS,lcS,g1],λi f' hf=>?_⟩
  cases i with
  |zero=>
   simp only[gcZ,ojE]at hf;subst hf;refine⟨?_,by rw[h2];simp[cY]⟩
   cases hu:T.T.ty f.type with
   |none=>rw[hu]at h1;cases h1
   |some u=>rw[hu]at h1;rw[Ty.beq_eq h1];rfl
  |succ i=>
   rw[gcS]at hf;obtain⟨k1,k2⟩:=g2 i f' hf;refine⟨by rw[k1,gcS],by rw[k2,List.take_succ_cons,cY,Nat.add_assoc]⟩
 |[],_::_,_,h=>by cases h
 |_::_,[],_,h=>by cases h
def okAr(P:Program)(T:TP U0.D)(id:TypeId):Bool:=match T.T.ty id with
 |some (.rc n)=>(match P.underlying id with
  |some (.array len e)=>(match U0.fs n with
   |te::_=>(match iK P e with|some z=>Nat.beq z (szT U0 te)|none=>false)&&Nat.beq (U0.fs n).length len&&(U0.fs n).all λt=>t.beq te
   |[]=>false)
  |_=>false)
 |_=>true
def rep_of{te:Ty}: ∀{l:List Ty},(l.all λt=>t.beq te)=true->l=List.replicate l.length te
 |[],_=>rfl
 |t::l,h=>by
  simp only[alC,bjE]at h;rw[lcS,List.replicate_succ,<-rep_of h.2,Ty.beq_eq h.1]
def okAr_ok{P:Program}{T:TP U0.D}{id:TypeId}{n:Nat}(h:okAr P T id=true)(ht:T.T.ty id=some (.rc n)): ∃len e te,P.underlying id=some (.array len e)/\iK P e=some (szT U0 te)/\U0.fs n=List.replicate len te:=by
 unfold okAr at h;rw[ht]at h;simp only at h;split at h
 ·rename_i len e hu;split at h
  ·rename_i te l hf;simp only[bjE]at h;obtain⟨⟨h1,h2⟩,h3⟩:=h;refine⟨len,e,te,hu,?_,?_⟩
   ·split at h1
    ·rename_i z hz;rw[hz,nqE h1]
    ·cases h1
   ·have:=rep_of h3;rw[nqE h2]at this;exact this
  ·cases h
 ·cases h
def tt_ok{l:List (Nat×Ty)}(hl:T.T.ty=aK8 l)(h:l.all (aBs P T)=true)(fi: ∀id,T.T.fn id=true->okFn P id=true)(so: ∀id,T.T.arr id=true->∀fs,P.underlying id≠some (.struct fs))(kj: ∀id,T.T.arr id=true->okAr P T id=true)
    (heq: ∀id n f,T.T.ty id=some (.rc n)->U0.eq n=some f->∀(x y:U0.D n) (a b:Operand),
      nU P .eql id a b (.agg (U0.en n x)) (.agg (U0.en n y))=some (.v (.bool (f x y)))/\nU P .neq id a b (.agg (U0.en n x)) (.agg (U0.en n y))=some (.v (.bool (!f x y)))):zD P U0 T:=by
 have one: ∀id t,T.T.ty id=some t->aBs P T (id,t)=true:=λid t ht=>List.all_eq_true.1 h _ (tG (by rw[<-hl];exact ht))
 have un: ∀id t,T.T.ty id=some t->okUn P T id t=true:=λid t ht=>by
  have:=one id t ht;simp only[aBs,bjE]at this;exact this.1.2
 refine⟨λid t ht=>?_,λid t ht=>?_,λid t ht=>?_,λid t ht=>?_,λid hf=>?_,λid t ht=>?_,λid n ht ha=>?_,λid n ht ha=>?_,heq⟩
 ·have:=one id t ht;simp only[aBs,bjE]at this;have h1:=this.1.1.1.1;split at h1
  ·rename_i b hb;rw[hb];rw[eq_of_beq h1]
  ·cases h1
 ·have:=one id t ht;simp only[aBs,bjE]at this;have h1:=this.1.1.1.2;split at h1
  ·rename_i b hb;rw[hb];rw[nqE h1]
  ·cases h1
 ·have h1:=un id t ht;unfold okUn at h1;split at h1
  ·rename_i k j hj;rw[of_decide_eq_true h1];exact hj
  ·rename_i hj;exact hj
  ·rename_i hj;exact hj
  ·rename_i e i hj;simp only[bjE]at h1;obtain⟨h2,h3⟩:=h1;refine⟨i,hj,?_,?_⟩
   ·split at h2
    ·rename_i u hu;rw[hu,Ty.beq_eq h2]
    ·cases h2
   ·split at h3
    ·rename_i j hj2;rw[hj2,nqE h3]
    ·cases h3
  ·rename_i n fs hj;simp only[bjE]at h1;obtain⟨g1,g2⟩:=aKB h1.1;intro _;refine⟨fs,hj,by simpa using g1,λi f hf=>?_⟩
   obtain⟨k1,k2⟩:=g2 i f (by rw[Array.getElem?_toList];exact hf)
   exact⟨k1,by rw[k2,Nat.zero_add];rfl⟩
  ·rename_i n _ _;intro ha;rw[h1]at ha;cases ha
  ·cases h1
 ·have:=one id t ht;simp only[aBs,bjE]at this;have h1:=this.1.1.2;split at h1
  ·rename_i b hb;rw[hb,aGq h1]
  ·cases h1
 ·have h1:=fi id hf;simp only[okFn,bjE]at h1;obtain⟨⟨h1,h2⟩,h3⟩:=h1;refine⟨?_,?_,?_⟩
  ·split at h1
   ·rename_i b hb;rw[hb];simpa using h1
   ·cases h1
  ·split at h2
   ·rename_i b hb;rw[hb,nqE h2]
   ·cases h2
  ·split at h3
   ·rename_i b hb;rw[hb,aGq h3]
   ·cases h3
 ·have:=one id t ht;simp only[aBs,bjE]at this;have h1:=this.2;split at h1
  ·rename_i i hi;simp only[bjE]at h1;obtain⟨⟨⟨h1,h2⟩,h3⟩,h4⟩:=h1;split at h4
   ·rename_i z hz;simp only[bjE]at h4;exact⟨i,z,hi,nqE h1,nqE h2,by rwa [Nat.ble_eq]at h3,hz,nqE h4.1.1,aGq h4.1.2,h4.2⟩
   ·cases h4
  ·cases h1
 ·have h1:=un id _ ht;unfold okUn at h1;split at h1
  ·rename_i e _;cases e
  ·rename_i e _;cases e
  ·rename_i e _;cases e
  ·rename_i e _;cases e
  ·rename_i n' fs e hj;cases e;simp only[bjE]at h1;have h2:=h1.2;split at h2
   ·rename_i pl dd;exact⟨fs,pl,hj,dd,aLf h2⟩
   ·cases h2
  ·rename_i e _ _;rw[h1]at ha;cases ha
  ·cases h1
 ·exact okAr_ok (kj id ha) ht
end
section
variable{P:Program}{t:TypeId}
def eq_str(s u:List UInt8):((⟨s.toArray⟩:ByteArray)==⟨u.toArray⟩)=decide (s=u):=by
 show(s.toArray==u.toArray)=_;by_cases h:s=u
 ·subst h;simp
 ·simp[h]
def qN{d:Nat}{t:TypeId}{s u:List UInt8}(h:P.underlying t=some .string):aR P (Op.equalIn (d+1) t (dX s) (dX u))=some (decide (s=u)):=by
 rw[Op.equalIn.eq_2,aA,aF,h,<-eq_str];rfl
def aJk{d:Nat}{ft:TypeId}{fs:Array Field}{f g:Field}(ht:P.underlying t=some (.struct fs))(hp:P.stoodInHeld t=false)(hs:P.underlying ft=some .string)(hz:gU P ft=some false)
    (hf : fs.toList = [f, g]) (h1 : f.name ≠ "_") (h2 : g.name ≠ "_") (e1 : f.type = ft) (e2 : g.type = ft) (o1 : f.offset = 0) (o2 : g.offset = 1) (s u : G.Y) :
    aR P (Op.equalIn (d+1+1) t (.agg #[dX s.package,dX s.name]) (.agg #[dX u.package,dX u.name]))=some (decide (s=u)):=by
 rw[sF ht hp,hf];have nw: ∀(a b:Value) (k:Nat) (v:Value), #[a,b][k]?=some v->aR P (part ft #[a,b] k)=some v:=by
  intro a b k v hk;unfold part;rw[aA];have hagg:aR P (Go.isAgg ft)=some false:=by
   simp only[Go.isAgg,aA,aF];unfold gU at hz;cases hu:P.underlying ft with
   |none=>rw[hu]at hz;cases hz
   |some d=>
    rw[hu]at hz;simp only[omS,ojE]at hz;cases d<;>first|rfl|simp at hz
  rw[hagg];simp only[obS,Bool.false_eq_true,if_false,hk,aB]
 have h0:=λ(x y:Value)=>nw x y 0 x (by simp)
 have h3:=λ(x y:Value)=>nw x y 1 y (by simp)
 simp only[Op.eqFields,h1,h2,e1,e2,o1,o2,ne_eq,not_false_eq_true,if_true,aA,h0,h3,obS];rw[qN hs,obS];cases s with|mk sp sn=>
 cases u with|mk up un=>
 simp only[G.Y.mk.injEq]at*;by_cases c1:sp=up
 ·simp only[c1,decide_true,bnT,Bool.false_eq_true,if_false,aA,h3,obS];rw[qN hs,obS];by_cases c2:sn=un<;>simp[c2,aB]
 ·simp[c1,aB]
def sym_eq{ft:TypeId}{fs:Array Field}{f g:Field}(ht:P.underlying t=some (.struct fs))(hp:P.stoodInHeld t=false)(hs:P.underlying ft=some .string)(hz:gU P ft=some false)
    (hf : fs.toList = [f, g]) (h1 : f.name ≠ "_") (h2 : g.name ≠ "_") (e1 : f.type = ft) (e2 : g.type = ft) (o1 : f.offset = 0) (o2 : g.offset = 1) (s u : G.Y) :
    aR P (Op.equal t (.agg #[dX s.package,dX s.name]) (.agg #[dX u.package,dX u.name]))=some (decide (s=u)):=by
 unfold Op.equal;rw[show Op.maxDepth=9998+1+1 from rfl];exact aJk ht hp hs hz hf h1 h2 e1 e2 o1 o2 s u
def aFP{ft:TypeId}{fs:Array Field}{f g:Field}(ht:P.underlying t=some (.struct fs))(hp:P.stoodInHeld t=false)(hs:P.underlying ft=some .string)(hz:gU P ft=some false)(hg:P.eqGuardType P.depth t=false)
    (hf : fs.toList = [f, g]) (h1 : f.name ≠ "_") (h2 : g.name ≠ "_") (e1 : f.type = ft) (e2 : g.type = ft) (o1 : f.offset = 0) (o2 : g.offset = 1) (s u : G.Y) (a b : Operand) :
    nU P .eql t a b (.agg (G.eSymbol s)) (.agg (G.eSymbol u))=some (.v (.bool (decide (s=u))))/\nU P .neq t a b (.agg (G.eSymbol s)) (.agg (G.eSymbol u))=some (.v (.bool (!decide (s=u)))):=by
 have he:=sym_eq ht hp hs hz hf h1 h2 e1 e2 o1 o2 s u;have gz: ∀op,nU P op t a b (.agg (G.eSymbol s)) (.agg (G.eSymbol u))=(iJ P op t a b (.agg #[dX s.package,dX s.name]) (.agg #[dX u.package,dX u.name])).map ofV:=λop=>by
  simp only[nU,G.eSymbol,sgA,toV,toVs,vG,omS,iJ,dX,aO,aE,alC,List.all_nil,Bool.and_self,cdt]
 have hg1: ∀op,op=BinOp.eql∨op= .neq->aR P (eqGuard op t a b (.agg #[dX s.package,dX s.name]) (.agg #[dX u.package,dX u.name]))=some ():=by
  intro op ly;have mq:aR P program=some P:=rfl;rcases ly with rfl|rfl<;>simp only[eqGuard,bnT,Bool.false_eq_true,if_false,aA,mq,obS,hg,Bool.not_false,if_true,aB]
 constructor
 ·rw[gz,aGN (by simp[dX,aE]) (by simp[dX,aE]) (hg1 _ (.inl rfl)) he];rfl
 ·rw[gz,aGM (by simp[dX,aE]) (by simp[dX,aE]) (hg1 _ (.inr rfl)) he];rfl
end
end Go.TV
namespace Go.TV
open Go.AI Go.PI
section
variable{P:Program}{pt t ft:TypeId}{fs:Array Field}{f g:Field}
def pair_eq(hq:P.underlying pt=some (.array 2 t))(h2z:iK P t=some 2)(hta:gU P t=some true)(ht:P.underlying t=some (.struct fs))(hp:P.stoodInHeld t=false)(hs:P.underlying ft=some .string)(hz:gU P ft=some false)
    (hf : fs.toList = [f, g]) (h1 : f.name ≠ "_") (h2 : g.name ≠ "_") (e1 : f.type = ft) (e2 : g.type = ft) (o1 : f.offset = 0) (o2 : g.offset = 1) (s u : G.Q) :
    aR P (Op.equal pt (.agg #[dX s.a0.package,dX s.a0.name,dX s.a1.package,dX s.a1.name]) (.agg #[dX u.a0.package,dX u.a0.name,dX u.a1.package,dX u.a1.name]))=some (decide (s=u)):=by
 unfold Op.equal;rw[show Op.maxDepth=9997+1+1+1 from rfl,Op.equalIn.eq_2,aA,aF,hq]
 simp only[obS];rw[aA,aQ,h2z];simp only[obS];have nw: ∀(a b c d:Value) (k:Nat),aR P (part t #[a,b,c,d] k)=some (.agg (#[a,b,c,d].extract k (k+2))):=λa b c d k=>by
  unfold part;rw[aA,iZ,hta];simp only[obS,if_true,aA,aQ,h2z,aB]
 have x0: ∀a b c d:Value,(#[a,b,c,d]:Array Value).extract (0*2) (0*2+2)= #[a,b]:=λa b c d=>rfl
 have x1: ∀a b c d:Value,(#[a,b,c,d]:Array Value).extract (1*2) (1*2+2)= #[c,d]:=λa b c d=>rfl
 have hd: ∀a b:G.Y,aR P (Op.equalIn (9997+1+1) t (.agg #[dX a.package,dX a.name]) (.agg #[dX b.package,dX b.name]))=some (decide (a=b)):=aJk ht hp hs hz hf h1 h2 e1 e2 o1 o2;have e3:decide (s=u)=(decide (s.a0=u.a0)&&decide (s.a1=u.a1)):=by
  cases s with|mk a b=>
  cases u with|mk a' b'=>
  simp only[G.Q.mk.injEq,Bool.decide_and]
 rw[e3];simp only[Std.Legacy.Range.forIn_eq_forIn_range',Std.Legacy.Range.size,Nat.sub_zero,Nat.add_one_sub_one,Nat.div_one,List.range',List.forIn_cons,List.forIn_nil,aA,nw,obS,x0,x1,hd,Nat.zero_add];by_cases c1:s.a0=u.a0<;>by_cases c2:s.a1=u.a1<;>simp[aB,aA,nw,x1,hd,c1,c2]
def aKs(hq:P.underlying pt=some (.array 2 t))(h2z:iK P t=some 2)(hta:gU P t=some true)(ht:P.underlying t=some (.struct fs))(hp:P.stoodInHeld t=false)(hs:P.underlying ft=some .string)(hz:gU P ft=some false)(hg:P.eqGuardType P.depth pt=false)
    (hf : fs.toList = [f, g]) (h1 : f.name ≠ "_") (h2 : g.name ≠ "_") (e1 : f.type = ft) (e2 : g.type = ft) (o1 : f.offset = 0) (o2 : g.offset = 1) (s u : G.Q) (a b : Operand) :
    nU P .eql pt a b (.agg (G.ePairSymbol s)) (.agg (G.ePairSymbol u))=some (.v (.bool (decide (s=u))))/\nU P .neq pt a b (.agg (G.ePairSymbol s)) (.agg (G.ePairSymbol u))=some (.v (.bool (!decide (s=u)))):=by
 have he:=pair_eq hq h2z hta ht hp hs hz hf h1 h2 e1 e2 o1 o2 s u;have gz: ∀op,nU P op pt a b (.agg (G.ePairSymbol s)) (.agg (G.ePairSymbol u))=(iJ P op pt a b (.agg #[dX s.a0.package,dX s.a0.name,dX s.a1.package,dX s.a1.name]) (.agg #[dX u.a0.package,dX u.a0.name,dX u.a1.package,dX u.a1.name])).map ofV:=λop=>by
  simp only[nU,G.ePairSymbol,G.eSymbol,sgA,cnA,nlA,toV,toVs,vG,omS,iJ,dX,aO,aE,alC,List.all_nil,Bool.and_self,cdt]
 have hg1: ∀op,op=BinOp.eql∨op= .neq->aR P (eqGuard op pt a b (.agg #[dX s.a0.package,dX s.a0.name,dX s.a1.package,dX s.a1.name]) (.agg #[dX u.a0.package,dX u.a0.name,dX u.a1.package,dX u.a1.name]))=some ():=by
  intro op ly;have mq:aR P program=some P:=rfl;rcases ly with rfl|rfl<;>simp only[eqGuard,bnT,Bool.false_eq_true,if_false,aA,mq,obS,hg,Bool.not_false,if_true,aB]
 constructor
 ·rw[gz,aGN (by simp[dX,aE]) (by simp[dX,aE]) (hg1 _ (.inl rfl)) he];rfl
 ·rw[gz,aGM (by simp[dX,aE]) (by simp[dX,aE]) (hg1 _ (.inr rfl)) he];rfl
end
end Go.TV
namespace Go.TV
open Go.AI Go.PI Go.Proofs
set_option maxRecDepth 20000
def tyL:List (Nat×Ty):=[(2,i6),(3,i6),(4,.bool),(5,(.int .u8)),(6,(.int .u8)),(9,.str),(10,.str),(11,.str),(12,(.int .u64)),(21,(.int .i32)),(22,(.int .u32)),(23,(.sl (.int .u8))),(25,(zS 16)),(28,(.rc 0)),(29,(.rc 0)),(30,(.rc 1)),(31,(.rc 1)),(32,(zS 2)),(33,(.rc 2)),(34,(.rc 2)),(35,(zS 3)),(36,(.rc 3)),(37,(.rc 3)),(40,i6),(41,(zS 4)),(42,(.rc 5)),(43,(.rc 5)),(44,i6),(49,(zS 6)),(51,(.rc 6)),(52,(.rc 6)),(53,(zS 1)),(59,(.rc 7)),(60,(.rc 7)),(61,(zS 7)),(65,(.sl (zS 8))),(67,(.rc 8)),(68,(.rc 8)),(69,(zS 8)),(70,(.rc 9)),(71,(.rc 9)),(72,(.rc 10)),(73,(.rc 10)),(74,(.sl (zS 15))),(75,(zS 11)),(76,(.rc 12)),(77,(.rc 12)),(78,(zS 5)),(79,(.int .u64)),(80,(.rc 16)),(81,(.rc 16)),(105,(.rc 4)),(110,(.sl .str)),(137,(.sl i6)),(138,(.rc 17)),(139,(.rc 17)),(142,(zS 9)),(162,(zS 18)),(164,(.rc 18)),(165,(.rc 18)),(171,(zS 19)),(175,(.rc 20)),(176,(.rc 20)),(177,(.rc 19)),(178,(.rc 19)),(184,(.rc 21)),(185,(.rc 21)),(241,(.sl (.int .u32))),(242,(.rc 22)),(243,(.rc 22)),(282,(.int .u64)),(290,i6),(317,(.int .u8)),(318,(.int .u8)),(320,(.int .i32)),(321,(.int .i32)),(324,(zS 15)),(325,(.rc 11)),(326,(.rc 11)),(327,(zS 3)),(328,(zS 13)),(329,(zS 14)),(330,(.rc 15)),(331,(.rc 15)),(332,(.sl (zS 7))),(333,(.rc 13)),(334,(.rc 13)),(335,(.rc 14)),(336,(.rc 14))]
def byL:List (Nat×Nat):=[(2,8),(3,8),(4,1),(5,1),(6,1),(9,16),(10,16),(11,16),(12,8),(21,4),(22,4),(23,24),(25,24),(28,32),(29,32),(30,32),(31,32),(32,24),(33,112),(34,112),(35,24),(36,176),(37,176),(40,8),(41,24),(42,544),(43,544),(44,8),(49,24),(51,200),(52,200),(53,24),(59,208),(60,208),(61,24),(65,24),(67,592),(68,592),(69,24),(70,40),(71,40),(72,240),(73,240),(74,24),(75,24),(76,56),(77,56),(78,24),(79,8),(80,568),(81,568),(105,64),(110,24),(137,24),(138,16),(139,16),(142,24),(162,24),(164,24),(165,24),(171,24),(175,72),(176,72),(177,64),(178,64),(184,56),(185,56),(241,24),(242,32),(243,32),(282,8),(290,8),(317,1),(318,1),(320,4),(321,4),(324,24),(325,152),(326,152),(327,24),(328,24),(329,24),(330,552),(331,552),(332,24),(333,48),(334,48),(335,232),(336,232)]
def elL:List (Nat×Nat):=[(23,5),(25,81),(32,34),(35,37),(41,105),(49,52),(53,31),(61,60),(65,69),(69,68),(74,324),(75,326),(78,43),(110,9),(137,3),(142,71),(162,165),(171,178),(241,22),(324,331),(327,37),(328,334),(329,336),(332,61)]
def fnL:List Nat:=[1,24,26,38,39,46,47,48,50,54,55,56,57,58,62,63,64,66,82,83,84,86,87,89,90,91,92,93,94,95,96,98,99,100,102,103,104,106,107,108,109,111,112,113,114,115,116,117,118,120,121,123,124,125,126,127,128,129,131,132,133,135,136,141,143,144,146,148,150,151,152,153,154,155,156,157,158,159,161,163,166,167,168,169,170,173,179,181,182,186,188,189,190,191,192,193,194,195,196,198,200,201,202,204,206,207,209,210,212,213,214,215,216,218,219,220,221,223,224,225,227,229,230,231,233,235,236,237,238,239,240,244,245,247,248,249,250,251,256,260,261,263,267,268,270,274,276,277,278,279,283,284,286,287,288,289,291,293,294,296,297,298,300,301,306,307,316,319]
def arL:List Nat:=[105]
def tt0:TT:=⟨aK8 tyL,λi=>(findN byL i).getD 0,λi=>bW i fnL,λi=>bW i arL⟩
def tp0(o:Orc)(sig:Nat->Option Sig):TP U0.D:=⟨tt0,findN elL,sig,o⟩
def ty_all(o:Orc)(sig:Nat->Option Sig):tyL.all (aBs Tryz.prog (tp0 o sig))=true:=by kernel_rfl
def fn_all:fnL.all (okFn Tryz.prog)=true:=by kernel_rfl
def isSt(P:Program)(i:Nat):Bool:=match P.underlying i with|some (.struct _)=>true|_=>false
def ar_all:arL.all (λi=> !isSt Tryz.prog i)=true:=by kernel_rfl
def ar2_all(o:Orc)(sig:Nat->Option Sig):arL.all (okAr Tryz.prog (tp0 o sig))=true:=by kernel_rfl
def sy_all:(tyL.all λx=>match x.2 with| .rc n=>(match U0.eq n with|some _=>bW x.1 [30,31,105]|none=>true)|_=>true)=true:=by kernel_rfl
def ttOK(o:Orc)(sig:Nat->Option Sig):zD Tryz.prog U0 (tp0 o sig):=by
 refine tt_ok (l:=tyL) rfl (ty_all o sig) (λid h=>?_) (λid h fs e=>?_) (λid h=>List.all_eq_true.1 (ar2_all o sig) _ (eU.1 h)) (λid n f h1 h2=>?_)
 ·exact List.all_eq_true.1 fn_all _ (eU.1 h)
 ·have:=List.all_eq_true.1 ar_all _ (eU.1 h);simp only[isSt,e]at this;cases this
 ·have h3:=List.all_eq_true.1 sy_all _ (tG h1);simp only[h2]at h3;have hn:n=1∨n=4:=by
   match n,f,h2 with
   |0,f,h2=>first|exact .inl rfl|exact .inr rfl|cases h2
   |1,f,h2=>first|exact .inl rfl|exact .inr rfl|cases h2
   |2,f,h2=>first|exact .inl rfl|exact .inr rfl|cases h2
   |3,f,h2=>first|exact .inl rfl|exact .inr rfl|cases h2
   |4,f,h2=>first|exact .inl rfl|exact .inr rfl|cases h2
   |5,f,h2=>first|exact .inl rfl|exact .inr rfl|cases h2
   |6,f,h2=>first|exact .inl rfl|exact .inr rfl|cases h2
   |7,f,h2=>first|exact .inl rfl|exact .inr rfl|cases h2
   |8,f,h2=>first|exact .inl rfl|exact .inr rfl|cases h2
   |9,f,h2=>first|exact .inl rfl|exact .inr rfl|cases h2
   |10,f,h2=>first|exact .inl rfl|exact .inr rfl|cases h2
   |11,f,h2=>first|exact .inl rfl|exact .inr rfl|cases h2
   |12,f,h2=>first|exact .inl rfl|exact .inr rfl|cases h2
   |13,f,h2=>first|exact .inl rfl|exact .inr rfl|cases h2
   |14,f,h2=>first|exact .inl rfl|exact .inr rfl|cases h2
   |15,f,h2=>first|exact .inl rfl|exact .inr rfl|cases h2
   |16,f,h2=>first|exact .inl rfl|exact .inr rfl|cases h2
   |17,f,h2=>first|exact .inl rfl|exact .inr rfl|cases h2
   |18,f,h2=>first|exact .inl rfl|exact .inr rfl|cases h2
   |19,f,h2=>first|exact .inl rfl|exact .inr rfl|cases h2
   |20,f,h2=>first|exact .inl rfl|exact .inr rfl|cases h2
   |21,f,h2=>first|exact .inl rfl|exact .inr rfl|cases h2
   |k+22,f,h2=>first|exact .inl rfl|exact .inr rfl|cases h2
  rcases hn with rfl|rfl
  ·cases h2;intro x y a b;have hm:=eU.1 h3;simp only[List.mem_cons,List.not_mem_nil,or_false]at hm;rcases hm with rfl|rfl|rfl
   ·exact aFP (ft:=9) Tryz.underlying30 (by kernel_rfl) (by kernel_rfl) (by kernel_rfl) (by kernel_rfl) rfl (by decide) (by decide) rfl rfl rfl rfl x y a b
   ·exact aFP (ft:=9) Tryz.underlying31 (by kernel_rfl) (by kernel_rfl) (by kernel_rfl) (by kernel_rfl) rfl (by decide) (by decide) rfl rfl rfl rfl x y a b
   ·cases h1
  ·cases h2;intro x y a b;have hm:=eU.1 h3;simp only[List.mem_cons,List.not_mem_nil,or_false]at hm;rcases hm with rfl|rfl|rfl
   ·cases h1
   ·cases h1
   ·exact aKs (ft:=9) Tryz.underlying105 (by kernel_rfl) (by kernel_rfl) Tryz.underlying31 (by kernel_rfl) (by kernel_rfl) (by kernel_rfl) (by kernel_rfl) rfl (by decide) (by decide) rfl rfl rfl rfl x y a b
end Go.TV
namespace Go.TV
open Go.AI Go.PI
def at_:TC->List Nat->TC
 |c,[]=>c
 | .seq a _,0::l=>at_ a l
 | .seq _ b,_::l=>at_ b l
 | .cond _ a _,0::l=>at_ a l
 | .cond _ _ b,_::l=>at_ b l
 | .block _ c,_::l=>at_ c l
 | .loop _ c,_::l=>at_ c l
 | .scope c,_::l=>at_ c l
 | .cut _ c,_::l=>at_ c l
 | .ice _ c,_::l=>at_ c l
 |c,_=>c
abbrev TVs:=List (TV U0.D)
abbrev Rt:=Option TVs
abbrev TC0:=mV U0.D
abbrev Kt:=TK U0.D TVs
structure Cu where
 D:DT U0 TVs
 E:DT U0 TVs
def jK(ct:Cut){f g:TS U0.D->TM U0.D->Rt}(h: ∀S M,f S M=g S M)(d:TVs):pU U0 ct f d=pU U0 ct g d:=by
 have:f=g:=by funext S M;exact h S M
 rw[this]
end Go.TV
namespace Go.Rf
open Go.AI Go.Proofs
def mkO (d : Option Nat) (op : Op) (t : TypeId) : Oper := { dst := d, op := op, type := t, pos := "", after := #[], guard := none }
def lW(S:Slots)(k j:Nat)(v:Value):Slots.at (Tr.set S k v) j=if j=k then v else S.at j:=by
 unfold Slots.at;rw[Tr.get_set];split<;>rfl
def at_store(S:Slots)(k j:Nat)(v:Value):Slots.at (S.store (some k) v) j=if j=k then v else S.at j:=lW S k j v
def mixed_:Tryz.prog.toTables.follows .mixedOrders=true:=by kernel_rfl
end Go.Rf
namespace Go.AI
variable{P:Program}
def Known(w0:W0)(P:Program)(f:FuncId)(fn:Func)(c:Code):Prop:=
 ∀(call:FuncId->Array Value->St->Option (Value×St)) (L:Nat) (args:Array Value) (H H':St) (r:Value),
  aIs P f args.size=true->dU P fn (bN P call L c (kQ args.toList 0 .nil) H)=some (r,H')->
  args.toList.all aE=true/\(∃n,H.next<=n/\H'={H with next:=n})/\∃r',(∀Y,VR Y r r')/\
   ∀w,Kept w0.toWorld w->Calls P f args w λe w'=>e= .returned r'/\Kept w w'
def aJI {w0 : W0} {f : FuncId} {fn : Func} {c : Code} (h1 : ∃ fn c, P.funcs[f]? = some fn ∧ fn.body = some c ∧ (fn.name == "runtime.NumGoroutine") = false)
    (h2:Known w0 P f fn c):RepOK w0 P f fn c:=by
 refine⟨h1,?_⟩;intro call L bj args args' H H' w Y r h ρ hargs kj;obtain⟨hp,⟨n,hn,rfl⟩,r',hr,hc⟩:=h2 call L args H H' r kj h;have e:args'.toList=args.toList:=hargs.eq0 hp;have e':args'=args:=by rw[<-Array.toArray_toList (xs:=args'),e]
 subst e';exact(hc w ρ.kept.toKept).mono λe w' ⟨h5,h6⟩=>⟨Y,r',h5,hr Y,(ρ.keep h6).next hn,.refl _ _,hn⟩
def aBc(C:Program)(f:FuncId)(fn:Func):Program:={C with funcs:=⟨C.funcs.toList.set f fn⟩}
def aBb{C:Program}{f g:FuncId}{fn nn:Func}(h:(aBc C f fn).funcs[g]?=some nn):(g=f/\nn=fn)∨C.funcs[g]?=some nn:=by
 have h1:(C.funcs.toList.set f fn)[g]?=some nn:=by simpa [aBc]using h
 by_cases e:g=f
 ·subst e;left;rw[List.getElem?_set]at h1;simp only[if_true]at h1;split at h1
  ·exact⟨rfl,(Option.some.inj h1).symm⟩
  ·cases h1
 ·right;rw[List.getElem?_set,if_neg (Ne.symm e)]at h1;simpa using h1
def swapF_ok{w0:W0}{C:Program}{f:FuncId}{fn:Func}{c:Code}(hC:vC w0 P C)(hb:fn.body=some c)(hr:RepOK w0 P f fn c):vC w0 P (aBc C f fn):=by
 intro g nn c' h1 h2;rcases aBb h1 with⟨rfl,rfl⟩|h3
 ·right;rw[hb]at h2;cases h2;exact hr
 ·exact hC g nn c' h3 h2
end Go.AI
namespace Go.AI
variable{P:Program}
def stK(P:Program):St:=⟨.nil,.nil,P.globals.size⟩
def muK(P:Program):Mp:=λid=>if id<P.globals.size then some ⟨id,0,0,0⟩else none
def muK_lt{id:Nat}{p:fN}(h:muK P id=some p):id<P.globals.size/\p.b=id:=by
 unfold muK at h;split at h
 ·cases h;exact⟨‹_›,rfl⟩
 ·cases h
def aBL(id:Nat):(stK P).get id=none:=rfl
def simK{w:World}(hg:P.globals.size<=w.heap.size):Sim (W0.of w) P (muK P) (stK P) w where
 kept:=KeptO.refl λid p h=>by obtain⟨h1,h2⟩:=muK_lt h;omega
 dom id h:=by
  unfold muK;rw[if_neg (show¬id<P.globals.size from by have:P.globals.size<=id:=h;omega)]
 glob g h:=⟨⟨g,0,0,0⟩,by unfold muK;rw[if_pos h],rfl,rfl⟩
 row id p cs m _ h:=by rw[aBL]at h;cases h
 map id p es _ h:=by rw[aBL]at h;cases h
 off i j p q cs ds m n _ _ _ h:=by rw[aBL]at h;cases h
 tip i j p q cs ds m n _ _ _ h:=by rw[aBL]at h;cases h
 maps i j p q es fs _ _ _ h:=by rw[aBL]at h;cases h
 vers id cs m g v h:=by rw[aBL]at h;cases h
 lim i j p q cs ds m n _ _ _ h:=by rw[aBL]at h;cases h
end Go.AI
namespace Go.Rf
open Go.AI Go.Proofs
set_option maxRecDepth 100000
def sbO(d:Nat)(op:BinOp):Oper:=mkO (some d) (.binOp op 9 (.tmp 0) (.tmp 1) 9) 4
def esO(d k:Nat):Oper:=mkO (some d) (.binOp .eql 9 (.tmp k) (.const (.string ⟨#[]⟩)) 9) 4
def scA(v:Int):Code:= .seq (.region 1 #[mkO (some 4) (.assign (.const (.int .i64 v))) 3] false) .ret
def scT:Code:= .seq (.region 0 #[esO 6 0,esO 7 1,sbO 8 .eql,sbO 9 .lss] false) (.cond (.tmp 8) (scA 0) (.cond (.tmp 9) (scA (-1)) (scA 1)))
noncomputable def scF:Func:={Tryz.f170 with body:=some scT,ntmps:=10}
def e_eql(a b:ByteArray):aY Tryz.prog (do eqGuard .eql 9 (.tmp 0) (.tmp 1) (.string a) (.string b);binOp .eql 9 (.string a) (.string b))=some (.bool (a.toList==b.toList)):=by kernel_rfl
def e_lss(a b:ByteArray):aY Tryz.prog (do eqGuard .lss 9 (.tmp 0) (.tmp 1) (.string a) (.string b);binOp .lss 9 (.string a) (.string b))=some (.bool (Op.bytesLess a.toList b.toList)):=by kernel_rfl
def aCg: ∀a b:List UInt8,Lib.compareBytes a b=if a==b then 0 else if Op.bytesLess a b then-1 else 1
 |[],[]=>rfl
 |[],_::_=>by simp[Lib.compareBytes,Op.bytesLess]
 |_::_,[]=>by simp[Lib.compareBytes,Op.bytesLess]
 |a::x,b::y=>by
  have ih:=aCg x y;by_cases h1:a<b
  ·have bu: ¬a=b:=λe=>by subst e;exact absurd h1 (UInt8.lt_irrefl _)
   simp[Lib.compareBytes,Op.bytesLess,h1,bu]
  ·by_cases h2:b<a
   ·have bu: ¬a=b:=λe=>by subst e;exact absurd h2 (UInt8.lt_irrefl _)
    simp[Lib.compareBytes,Op.bytesLess,h1,h2,bu]
   ·have he:a=b:=UInt8.le_antisymm (UInt8.not_lt.1 h2) (UInt8.not_lt.1 h1);subst he;simp[Lib.compareBytes,Op.bytesLess,ih]
end Go.Rf
namespace Go.Rf
open Go.AI Go.Proofs
noncomputable def cdM:Program:=aBc Tryz.prog 170 scF
end Go.Rf
namespace Go.Rf
open Go.AI Go.Proofs
def clO1:Array Oper:= #[mkO (some 3) (.call {callee:= .builtin .len,args:= #[.tmp 0],argTypes:= #[61]}) 3,
 mkO (some 4) (.binOp .eql 3 (.tmp 3) (.const (.int .i64 0)) 3) 4]
def clO2:Array Oper:= #[mkO (some 5) (.buildSlice 61 0 #[]) 61,mkO (some 2) (.slice 61 (.tmp 0) (some (.const (.int .i64 0))) (some (.const (.int .i64 0))) (some (.const (.int .i64 0)))) 61,
 mkO (some 6) (.move (.tmp 0)) 61,mkO (some 6) (.move (.tmp 0)) 61]
def aC5:Code->Code
 | .seq a (.seq (.seq _ (.cond c _ s)) r)=> .seq a (.seq (.seq (.region 1 clO1 false) (.cond c (.seq (.region 2 clO2 false) .ret) s)) r)
 |c=>c
noncomputable def clB:Code:=Tryz.f160.body.getD .skip
noncomputable def clF:Func:={Tryz.f160 with body:=some (aC5 clB)}
def aMw:Tryz.prog.funcs[160]?=some Tryz.f160:=by kernel_rfl
def aMx:Tryz.f160.body=some clB:=rfl
def cl_ok:gK Tryz.prog Tryz.f160=true:=by kernel_rfl
section
variable(call:FuncId->Array Value->St->Option (Value×St))(L:Nat)(H:St)
def clS:St:=({H with next:=H.next+7}:St).put (H.next+3) (.cells [] (bO 13))
noncomputable def clR:Code:=match clB with| .seq _ (.seq _ r)=>r|_=> .skip
noncomputable def clO3:Array Oper:=match clR with| .seq (.region _ o _) _=>o|_=> #[]
noncomputable def clo(k:Nat):Oper:=clO3.toList.getD k (mkO none (.move (.tmp 0)) 0)
def clR_eq:clR= .seq (.region 3 clO3 false) .ret:=by kernel_rfl
def clO3_eq:clO3.toList=[clo 0,clo 1,clo 2,clo 3]:=by kernel_rfl
def aMy:clO3.size=4:=by kernel_rfl
def bB{P:Program}{ops:Array Oper}{base i:Nat}{o:Oper}{rest:List Oper}{S:Slots}{H H1:St}{v:Value}(hg:o.guard=none)(h:aop P call base i o S H=some (v,H1)):
    dL P call ops base (o::rest) i S H=dL P call ops base rest (i+1) (S.store o.dst v) H1:=by
 rw[dL,wanted,hg];simp only[cdt,h]
def qQ{P:Program}{ops:Array Oper}{base i:Nat}{o:Oper}{rest:List Oper}{S:Slots}{H:St}(hg:o.guard=none)(h:aop P call base i o S H=none):
    dL P call ops base (o::rest) i S H=none:=by
 rw[dL,wanted,hg];simp only[cdt,h]
end
end Go.Rf
namespace Go.Rf
open Go.AI Go.Proofs
noncomputable def cdX:Program:=aBc cdM 160 clF
end Go.Rf
