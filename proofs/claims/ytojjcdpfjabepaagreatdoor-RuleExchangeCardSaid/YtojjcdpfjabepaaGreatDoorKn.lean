import Derived.Test.YtojjcdpfjabepaaGreatDoorKm
import Derived.Laws.StructEq
import Derived.Test.YtojjcdpfjabepaaGreatDoorKh
import Derived.Test.YtojjcdpfjabepaaGreatDoorProg
import Derived.KernelRfl
import Derived.Lib.Bytealg
set_option linter.unusedVariables false
set_option linter.unusedSimpArgs false
set_option linter.constructorNameAsVariable false
namespace Go.TV
open Go.AI Go.PI
inductive SkT where
 |n
 |r (tk:List Nat) (fz:List (Nat×Nat)) (cl:List (Nat×Nat×List Nat))
 |s (a b:SkT)
 |c (a b:SkT)
 |b (a:SkT)
 |l (ct:Cut) (a:SkT)
 |o (a:SkT)
 |d (ct:Cut) (a:SkT)
 |i (ts:List Nat) (a:SkT)
def fzN(i:Nat):List (Nat×Nat)→List aER
 |[]=>[]
 |x::xs=>bif Nat.beq x.1 i then .freeze x.2::fzN i xs else fzN i xs
def aE3(tk:List Nat)(fz:List (Nat×Nat))(i:Nat):List aER:=fzN i fz++ [.op i (bL i tk)]
def scrS(ops:Array Oper)(tk:List Nat)(fz:List (Nat×Nat)):Nat→List Nat→List aER
 |0,l=>l.flatMap (aE3 tk fz)
 |f+1,a::i::s::l=>bif isApp ops a i s then .app a i s::scrS ops tk fz f l else aE3 tk fz a++scrS ops tk fz f (i::s::l)
 |_+1,l=>l.flatMap (aE3 tk fz)
def callN:List (Nat×Nat×List Nat)→Nat→Nat×List Nat
 |[],_=>(0,[])
 |x::l,i=>bif Nat.beq x.1 i then x.2 else callN l i
def stT1(cl:List (Nat×Nat×List Nat)):aER→TStep
 | .op i take=> .op i take (callN cl i).1 (callN cl i).2
 | .app a i s=> .app a i s
 | .freeze t=> .freeze t
def regT(tk:List Nat)(fz:List (Nat×Nat))(cl:List (Nat×Nat×List Nat))(id:Nat)(ops:Array Oper):Bool→TC
 |true=> .region id ops true (dV ops.toList []) ((scrS ops tk fz ops.size (sK ops (dV ops.toList []))).map (stT1 cl))
 |false=> .region id ops false [] ((scrS ops tk fz ops.size (List.range ops.size)).map (stT1 cl))
def mV:Code→TC
 | .skip=> .skip
 | .label l=> .label l
 | .region id ops draw=>regT [] [] [] id ops draw
 | .seq a b=> .seq (mV a) (mV b)
 | .cond x a b=> .cond x (mV a) (mV b)
 | .block id a=> .block id (mV a)
 | .exit id=> .exit id
 | .ret=> .ret
 | .scope a=> .scope (mV a)
 |c=> .other c
def icesT:List Nat→TC→TC
 |[],c=>c
 |t::ts,c=> .ice t (icesT ts c)
def dW:SkT→Code→TC
 | .n,c=>mV c
 | .d ct x,c=> .cut ct (dW x c)
 | .i ts x,c=>icesT ts (dW x c)
 | .r tk fz cl,c=>match c with| .region id ops draw=>regT tk fz cl id ops draw|c=> .other c
 | .s x y,c=>match c with| .seq a b=> .seq (dW x a) (dW y b)|c=> .other c
 | .c x y,c=>match c with| .cond v a b=> .cond v (dW x a) (dW y b)|c=> .other c
 | .b x,c=>match c with| .block id a=> .block id (dW x a)|c=> .other c
 | .l ct x,c=>match c with| .loop a=> .loop ct (dW x a)|c=> .other c
 | .o x,c=>match c with| .scope a=> .scope (dW x a)|c=> .other c
theorem gX(a b:List aER):dU (a++b)=dU a++dU b:=by
 induction a with
 |nil=>rfl
 |cons x a ih=>cases x<;>simp[dU,ih]
theorem aGq(i:Nat)(l:List (Nat×Nat)):dU (fzN i l)=[]:=by
 induction l with
 |nil=>rfl
 |cons x l ih=>simp only[fzN];cases Nat.beq x.1 i<;>simp[dU,ih]
theorem qB(tk:List Nat)(fz:List (Nat×Nat))(i:Nat):dU (aE3 tk fz i)=[i]:=by
 unfold aE3;rw[gX,aGq];rfl
theorem kY(tk:List Nat)(fz:List (Nat×Nat))(l:List Nat):dU (l.flatMap (aE3 tk fz))=l:=by
 induction l with
 |nil=>rfl
 |cons i l ih=>rw[fmC,gX,qB,ih];rfl
theorem sT(ops:Array Oper)(tk:List Nat)(fz:List (Nat×Nat)): ∀(f:Nat) (l:List Nat),dU (scrS ops tk fz f l)=l:=by
 intro f;induction f with
 |zero=>intro l;exact kY tk fz l
 |succ f ih=>
  intro l
  match l with
  |[]=>rfl
  |[a]=>exact kY tk fz [a]
  |[a,i]=>exact kY tk fz [a,i]
  |a::i::s::l=>
   simp only[scrS];cases isApp ops a i s with
   |true=>simp only[cdt,dU,ih]
   |false=>simp only[cdf];rw[gX,qB,ih];rfl
theorem un_stT(cl:List (Nat×Nat×List Nat))(l:List aER):(l.map (stT1 cl)).map TStep.un=l:=by
 induction l with
 |nil=>rfl
 |cons x l ih=>rw[mpC,mpC,ih];cases x<;>rfl
theorem aGv(tk:List Nat)(fz:List (Nat×Nat))(cl:List (Nat×Nat×List Nat))(id:Nat)(ops:Array Oper)(draw:Bool):bZ (regT tk fz cl id ops draw).pc= .region id ops draw∧sL (regT tk fz cl id ops draw).pc:=by
 cases draw with
 |true=>
  refine⟨rfl,?_⟩;show dV ops.toList []=dV ops.toList []∧dU _=_;rw[un_stT];exact⟨rfl,sT _ _ _ _ _⟩
 |false=>
  refine⟨rfl,?_⟩;show dU _=_;rw[un_stT];exact sT _ _ _ _ _
theorem wearN_ok: ∀c:Code,bZ (mV c).pc=c∧sL (mV c).pc:=by
 intro c;induction c with
 |region id ops draw=>exact aGv _ _ _ _ _ _
 |seq a b iha ihb=>exact⟨by simp only[mV,TC.pc,bZ,iha.1,ihb.1],iha.2,ihb.2⟩
 |cond x a b iha ihb=>exact⟨by simp only[mV,TC.pc,bZ,iha.1,ihb.1],iha.2,ihb.2⟩
 |block id a ih=>exact⟨by simp only[mV,TC.pc,bZ,ih.1],ih.2⟩
 |scope a ih=>exact⟨by simp only[mV,TC.pc,bZ,ih.1],ih.2⟩
 |_=>exact⟨rfl,trivial⟩
theorem aDM(ts:List Nat)(c:TC):bZ (icesT ts c).pc=bZ c.pc∧(sL c.pc→sL (icesT ts c).pc):=by
 induction ts with
 |nil=>exact⟨rfl,id⟩
 |cons t ts ih=>exact⟨ih.1,ih.2⟩
theorem uL: ∀(s:SkT) (c:Code),bZ (dW s c).pc=c∧sL (dW s c).pc:=by
 intro s;induction s with
 |n=>exact wearN_ok
 |r tk fz cl=>intro c;cases c<;>first|exact aGv _ _ _ _ _ _|exact⟨rfl,trivial⟩
 |s x y ihx ihy=>intro c;cases c<;>first|exact⟨by simp only[dW,TC.pc,bZ,(ihx _).1,(ihy _).1],(ihx _).2,(ihy _).2⟩|exact⟨rfl,trivial⟩
 |c x y ihx ihy=>intro c;cases c<;>first|exact⟨by simp only[dW,TC.pc,bZ,(ihx _).1,(ihy _).1],(ihx _).2,(ihy _).2⟩|exact⟨rfl,trivial⟩
 |b x ih=>intro c;cases c<;>first|exact⟨by simp only[dW,TC.pc,bZ,(ih _).1],(ih _).2⟩|exact⟨rfl,trivial⟩
 |l ct x ih=>intro c;cases c<;>first|exact⟨by simp only[dW,TC.pc,bZ,(ih _).1],(ih _).2⟩|exact⟨rfl,trivial⟩
 |o x ih=>intro c;cases c<;>first|exact⟨by simp only[dW,TC.pc,bZ,(ih _).1],(ih _).2⟩|exact⟨rfl,trivial⟩
 |d ct x ih=>intro c;exact⟨(ih c).1,(ih c).2⟩
 |i ts x ih=>intro c;exact⟨by simp only[dW,(aDM ts _).1,(ih c).1],(aDM ts _).2 (ih c).2⟩
structure Ins where
 sig:Sig
 sk:SkT
def fV(P:Program)(f:Nat):Code:=match P.funcs[f]? with|some fn=>fn.body.getD .skip|none=> .skip
def uV(P:Program)(f:Nat):List ResultVar:=match P.funcs[f]? with|some fn=>fn.results.toList|none=>[]
def pM:List (Nat×Ins)→Nat→Option Ins
 |[],_=>none
 |x::l,i=>bif Nat.beq x.1 i then some x.2 else pM l i
def vY:List (Nat×Ins)→Nat→Option Ins
 |[],_=>none
 |x::l,f=>bif Nat.beq x.2.sig.f f then some x.2 else vY l f
def aAQ(l:List (Nat×Ins))(i:Nat):Option Sig:=(pM l i).map (·.sig)
def aGe(P:Program)(l:List (Nat×Ins)):TTab:=fun i=>match pM l i with
 |some x=>some (dW x.sk (fV P x.sig.f),uV P x.sig.f)
 |none=>none
def qH(P:Program)(l:List (Nat×Ins)):PTab:=fun f=>match vY l f with
 |some x=>some ((dW x.sk (fV P f)).pc,uV P f)
 |none=>none
def okI(P:Program)(l:List (Nat×Ins))(x:Ins):Prop:= ∃y,vY l x.sig.f=some y∧(dW y.sk (fV P x.sig.f)).pc=(dW x.sk (fV P x.sig.f)).pc
theorem aAN{P:Program}{l:List (Nat×Ins)}(h: ∀i x,pM l i=some x→okI P l x): ∀i s code rs,aAQ l i=some s→aGe P l i=some (code,rs)→qH P l s.f=some (code.pc,rs):=by
 intro i s code rs h1 h2;unfold aAQ at h1;unfold aGe at h2;cases hx:pM l i with
 |none=>rw[hx]at h1;cases h1
 |some x=>
  rw[hx]at h1 h2;simp only[omS,ojE,pjE]at h1 h2;obtain⟨y,g1,g2⟩:=h i x hx;subst h1;obtain⟨rfl,rfl⟩:=h2;simp only[qH,g1,g2]
theorem qG{P C:Program}(h:C.funcs.toList.all (dJ P)=true){l:List (Nat×Ins)}(hb: ∀f x,vY l f=some x→∃fn c,C.funcs[f]?=some fn∧fn.body=some c):aEQ P C (qH C l):=by
 intro f c rs hf;unfold qH at hf;split at hf<;>try cases hf
 rename_i x hx;obtain⟨fn,cd,h1,h2⟩:=hb f x hx;have e1:fV C f=cd:=by simp only[fV,h1,h2,Option.getD_some]
 refine⟨fn,h1,by rw[h2,(uL _ _).1,e1],by simp only[uV,h1],(uL _ _).2,?_⟩
 rw[List.all_eq_true]at h;have:=h fn (by have:=Array.mem_of_getElem? h1;simpa using this)
 simp only[dJ,h2,bjE]at this;rw[(uL _ _).1,e1];exact this.1
section
variable{U:iN}{T:TP U.D}{β:Type}{c:lO U.D}{L:Nat}
theorem aAM{f g:TS U.D→TM U.D→TK U.D β→Option β}(h: ∀S M K,f S M K=g S M K)(K:TK U.D β):aGd U f K=aGd U g K:=by
 funext fl S M;cases fl<;>first|exact h S M K|rfl
theorem exD: ∀(code:TC) (S:TS U.D) (M:TM U.D) (K:TK U.D β),kM U T c (Dx U T c L) (Ex U T c L) code S M K=dZ U T c L code S M K:=by
 intro code;induction code with
 |seq a b iha ihb=>intro S M K;simp only[kM,dZ];rw[iha,aAM ihb]
 |cond x a b iha ihb=>intro S M K;simp only[kM,dZ,iha,ihb]
 |block id a ih=>intro S M K;simp only[kM,dZ,ih]
 |scope a ih=>intro S M K;simp only[kM,dZ,ih]
 |ice t a ih=>intro S M K;simp only[kM,dZ,ih]
 |_=>intro S M K;rfl
end
end Go.TV
set_option linter.defProp false
namespace Go.TV
abbrev zS(n:Nat):Ty:= .sl (.rc n)
abbrev i6:Ty:= .int .i64
end Go.TV
namespace Go.TV
open Go.AI Go.PI
namespace G
structure Z where
 b:(List Int)
 pos:Int
structure Y where
 package:(List UInt8)
 name:(List UInt8)
inductive O where
 |mk (kind:Int) (num:(List UInt8)) (den:(List UInt8)) (sym:Y) (text:(List UInt8)) (pair:(List O))
def O.kind:O→Int|⟨x,_,_,_,_,_⟩=>x
def O.num:O→(List UInt8)|⟨_,x,_,_,_,_⟩=>x
def O.den:O→(List UInt8)|⟨_,_,x,_,_,_⟩=>x
def O.sym:O→Y|⟨_,_,_,x,_,_⟩=>x
def O.text:O→(List UInt8)|⟨_,_,_,_,x,_⟩=>x
def O.pair:O→(List O)|⟨_,_,_,_,_,x⟩=>x
inductive T where
 |mk (kind:Int) (name:Y) (value:O) (args:(List T))
def T.kind:T→Int|⟨x,_,_,_⟩=>x
def T.name:T→Y|⟨_,x,_,_⟩=>x
def T.value:T→O|⟨_,_,x,_⟩=>x
def T.args:T→(List T)|⟨_,_,_,x⟩=>x
structure Q where
 a0:Y
 a1:Y
structure U where
 name:Y
 cls:Int
 hyps:(List T)
 equiv:Y
 left:T
 right:T
 terms:(List T)
 tset:Int
 stops:(List Q)
 arg:Int
 inner:Y
structure I where
 var:Y
 term:T
structure L where
 name:(List UInt8)
 formula:T
 cls:Int
structure F where
 name:Y
 params:(List Y)
 cls:Int
 guard:T
 body:T
 measure:T
structure A where
 name:(List UInt8)
 imports:(List Y)
structure M where
 name:Y
 params:(List Y)
 rest:Bool
 body:T
structure D where
 name:Y
 length:Int
 initial:O
structure B where
 name:Y
 fields:(List D)
structure C where
 tests:(List T)
 substs:(List (List I))
structure J where
 name:Y
 params:(List Y)
 body:T
structure N where
 rule:Int
 a:Int
 b:Int
 name:Y
 term:T
 measure:T
 clause:(List T)
 subst:(List I)
 lines:(List Int)
 cases:(List C)
 functional:(List J)
 weights:(List O)
inductive E where
 |mk (kind:Int) (name:Y) (package:A) (mac:M) (functions:(List F)) (formulas:(List T)) (logs:(List (List N))) (locl:(List E)) (stobj:B) (rules:(List U)) (enabled:(List Y)) (disabled:(List Y)) (text:(List UInt8)) (hash:Int)
def E.kind:E→Int|⟨x,_,_,_,_,_,_,_,_,_,_,_,_,_⟩=>x
def E.name:E→Y|⟨_,x,_,_,_,_,_,_,_,_,_,_,_,_⟩=>x
def E.package:E→A|⟨_,_,x,_,_,_,_,_,_,_,_,_,_,_⟩=>x
def E.mac:E→M|⟨_,_,_,x,_,_,_,_,_,_,_,_,_,_⟩=>x
def E.functions:E→(List F)|⟨_,_,_,_,x,_,_,_,_,_,_,_,_,_⟩=>x
def E.formulas:E→(List T)|⟨_,_,_,_,_,x,_,_,_,_,_,_,_,_⟩=>x
def E.logs:E→(List (List N))|⟨_,_,_,_,_,_,x,_,_,_,_,_,_,_⟩=>x
def E.locl:E→(List E)|⟨_,_,_,_,_,_,_,x,_,_,_,_,_,_⟩=>x
def E.stobj:E→B|⟨_,_,_,_,_,_,_,_,x,_,_,_,_,_⟩=>x
def E.rules:E→(List U)|⟨_,_,_,_,_,_,_,_,_,x,_,_,_,_⟩=>x
def E.enabled:E→(List Y)|⟨_,_,_,_,_,_,_,_,_,_,x,_,_,_⟩=>x
def E.disabled:E→(List Y)|⟨_,_,_,_,_,_,_,_,_,_,_,x,_,_⟩=>x
def E.text:E→(List UInt8)|⟨_,_,_,_,_,_,_,_,_,_,_,_,x,_⟩=>x
def E.hash:E→Int|⟨_,_,_,_,_,_,_,_,_,_,_,_,_,x⟩=>x
structure S where
 var:Y
 value:O
structure W where
 w:(List E)
 left:Int
structure Arr3Int where
 a0:Int
 a1:Int
 a2:Int
structure X where
 err:Int
 pos:Int
structure R where
 name:(List UInt8)
 arity:Int
structure K where
 kind:Int
 pos:Int
 package:(List UInt8)
 text:(List UInt8)
 den:(List UInt8)
structure P where
 l:(List A)
 current:(List UInt8)
 t:(List K)
 pos:Int
structure V where
 w:(List E)
 extra:(List F)
 left:Int
structure Integer where
 negative:Bool
 limbs:(List Int)
structure ErrorString where
 s:(List UInt8)
deriving instance DecidableEq for Y
def eSource(x:Z):List PV:=[cQ 1 (List.map (fun n=>PV.v (.int .u8 n)) x.b)]++ [.v (.int .i64 x.pos)]
def lSource(l:List Z):List PV:=l.map fun x=> .agg (eSource x)
theorem lSource_map(l:List Z):lSource l=l.map fun x=> .agg (eSource x):=rfl
def eSymbol(x:Y):List PV:=[.str x.package]++ [.str x.name]
def lF(l:List Y):List PV:=l.map fun x=> .agg (eSymbol x)
theorem lSymbol_map(l:List Y):lF l=l.map fun x=> .agg (eSymbol x):=rfl
mutual
def eObject:O→List PV
 |⟨x0,x1,x2,x3,x4,x5⟩=>[.v (.int .i64 x0)]++ [.str x1]++ [.str x2]++eSymbol x3++ [.str x4]++ [cQ 7 (nK x5)]
def nK:List O→List PV
 |[]=>[]
 |x::l=> .agg (eObject x)::nK l
end
theorem lObject_map(l:List O):nK l=l.map fun x=> .agg (eObject x):=by
 induction l with
 |nil=>simp only[nK,List.map_nil]
 |cons x l ih=>simp only[nK,ih,mpC]
mutual
def eTerm:T→List PV
 |⟨x0,x1,x2,x3⟩=>[.v (.int .i64 x0)]++eSymbol x1++eObject x2++ [cQ 11 (sH x3)]
def sH:List T→List PV
 |[]=>[]
 |x::l=> .agg (eTerm x)::sH l
end
theorem lTerm_map(l:List T):sH l=l.map fun x=> .agg (eTerm x):=by
 induction l with
 |nil=>simp only[sH,List.map_nil]
 |cons x l ih=>simp only[sH,ih,mpC]
def ePairSymbol(x:Q):List PV:=eSymbol x.a0++eSymbol x.a1
def qV(l:List Q):List PV:=l.map fun x=> .agg (ePairSymbol x)
theorem lPairSymbol_map(l:List Q):qV l=l.map fun x=> .agg (ePairSymbol x):=rfl
def eRule(x:U):List PV:=eSymbol x.name++ [.v (.int .i64 x.cls)]++ [cQ 11 (sH x.hyps)]++eSymbol x.equiv++eTerm x.left++eTerm x.right++ [cQ 11 (sH x.terms)]++ [.v (.int .i64 x.tset)]++ [cQ 4 (qV x.stops)]++ [.v (.int .i64 x.arg)]++eSymbol x.inner
def lRule(l:List U):List PV:=l.map fun x=> .agg (eRule x)
theorem lRule_map(l:List U):lRule l=l.map fun x=> .agg (eRule x):=rfl
def eAssign(x:I):List PV:=eSymbol x.var++eTerm x.term
def aA6(l:List I):List PV:=l.map fun x=> .agg (eAssign x)
theorem lAssign_map(l:List I):aA6 l=l.map fun x=> .agg (eAssign x):=rfl
def eLemma(x:L):List PV:=[.str x.name]++eTerm x.formula++ [.v (.int .i64 x.cls)]
def lLemma(l:List L):List PV:=l.map fun x=> .agg (eLemma x)
theorem lLemma_map(l:List L):lLemma l=l.map fun x=> .agg (eLemma x):=rfl
def eFunction(x:F):List PV:=eSymbol x.name++ [cQ 2 (lF x.params)]++ [.v (.int .i64 x.cls)]++eTerm x.guard++eTerm x.body++eTerm x.measure
def qW(l:List F):List PV:=l.map fun x=> .agg (eFunction x)
theorem lFunction_map(l:List F):qW l=l.map fun x=> .agg (eFunction x):=rfl
def ePackage(x:A):List PV:=[.str x.name]++ [cQ 2 (lF x.imports)]
def aDH(l:List A):List PV:=l.map fun x=> .agg (ePackage x)
theorem lPackage_map(l:List A):aDH l=l.map fun x=> .agg (ePackage x):=rfl
def eMacro(x:M):List PV:=eSymbol x.name++ [cQ 2 (lF x.params)]++ [.v (.bool x.rest)]++eTerm x.body
def lMacro(l:List M):List PV:=l.map fun x=> .agg (eMacro x)
theorem lMacro_map(l:List M):lMacro l=l.map fun x=> .agg (eMacro x):=rfl
def eField(x:D):List PV:=eSymbol x.name++ [.v (.int .i64 x.length)]++eObject x.initial
def lField(l:List D):List PV:=l.map fun x=> .agg (eField x)
theorem lField_map(l:List D):lField l=l.map fun x=> .agg (eField x):=rfl
def eStobj(x:B):List PV:=eSymbol x.name++ [cQ 10 (lField x.fields)]
def lStobj(l:List B):List PV:=l.map fun x=> .agg (eStobj x)
theorem lStobj_map(l:List B):lStobj l=l.map fun x=> .agg (eStobj x):=rfl
def eCase(x:C):List PV:=[cQ 11 (sH x.tests)]++ [cQ 1 (List.map (fun l=>cQ 13 (aA6 l)) x.substs)]
def lCase(l:List C):List PV:=l.map fun x=> .agg (eCase x)
theorem lCase_map(l:List C):lCase l=l.map fun x=> .agg (eCase x):=rfl
def eLambda(x:J):List PV:=eSymbol x.name++ [cQ 2 (lF x.params)]++eTerm x.body
def aHo(l:List J):List PV:=l.map fun x=> .agg (eLambda x)
theorem lLambda_map(l:List J):aHo l=l.map fun x=> .agg (eLambda x):=rfl
def eLine(x:N):List PV:=[.v (.int .i64 x.rule)]++ [.v (.int .i64 x.a)]++ [.v (.int .i64 x.b)]++eSymbol x.name++eTerm x.term++eTerm x.measure++ [cQ 11 (sH x.clause)]++ [cQ 13 (aA6 x.subst)]++ [cQ 1 (List.map (fun n=>PV.v (.int .i64 n)) x.lines)]++ [cQ 2 (lCase x.cases)]++ [cQ 14 (aHo x.functional)]++ [cQ 7 (nK x.weights)]
def lLine(l:List N):List PV:=l.map fun x=> .agg (eLine x)
theorem lLine_map(l:List N):lLine l=l.map fun x=> .agg (eLine x):=rfl
mutual
def eEntry:E→List PV
 |⟨x0,x1,x2,x3,x4,x5,x6,x7,x8,x9,x10,x11,x12,x13⟩=>[.v (.int .i64 x0)]++eSymbol x1++ePackage x2++eMacro x3++ [cQ 37 (qW x4)]++ [cQ 11 (sH x5)]++ [cQ 1 (List.map (fun l=>cQ 33 (lLine l)) x6)]++ [cQ 32 (qX x7)]++eStobj x8++ [cQ 34 (lRule x9)]++ [cQ 2 (lF x10)]++ [cQ 2 (lF x11)]++ [.str x12]++ [.v (.int .u64 x13)]
def qX:List E→List PV
 |[]=>[]
 |x::l=> .agg (eEntry x)::qX l
end
theorem lEntry_map(l:List E):qX l=l.map fun x=> .agg (eEntry x):=by
 induction l with
 |nil=>simp only[qX,List.map_nil]
 |cons x l ih=>simp only[qX,ih,mpC]
def eBinding(x:S):List PV:=eSymbol x.var++eObject x.value
def lBinding(l:List S):List PV:=l.map fun x=> .agg (eBinding x)
theorem lBinding_map(l:List S):lBinding l=l.map fun x=> .agg (eBinding x):=rfl
def eEvaluator(x:W):List PV:=[cQ 32 (qX x.w)]++ [.v (.int .i64 x.left)]
def aFi(l:List W):List PV:=l.map fun x=> .agg (eEvaluator x)
theorem lEvaluator_map(l:List W):aFi l=l.map fun x=> .agg (eEvaluator x):=rfl
def eArr3Int(x:Arr3Int):List PV:=[.v (.int .i64 x.a0)]++ [.v (.int .i64 x.a1)]++ [.v (.int .i64 x.a2)]
def lArr3Int(l:List Arr3Int):List PV:=l.map fun x=> .agg (eArr3Int x)
theorem lArr3Int_map(l:List Arr3Int):lArr3Int l=l.map fun x=> .agg (eArr3Int x):=rfl
def eSourceError(x:X):List PV:=[.v (.int .i64 x.err)]++ [.v (.int .i64 x.pos)]
def yN(l:List X):List PV:=l.map fun x=> .agg (eSourceError x)
theorem lSourceError_map(l:List X):yN l=l.map fun x=> .agg (eSourceError x):=rfl
def eRow(x:R):List PV:=[.str x.name]++ [.v (.int .i64 x.arity)]
def lRow(l:List R):List PV:=l.map fun x=> .agg (eRow x)
theorem lRow_map(l:List R):lRow l=l.map fun x=> .agg (eRow x):=rfl
def eToken(x:K):List PV:=[.v (.int .i64 x.kind)]++ [.v (.int .i64 x.pos)]++ [.str x.package]++ [.str x.text]++ [.str x.den]
def lToken(l:List K):List PV:=l.map fun x=> .agg (eToken x)
theorem lToken_map(l:List K):lToken l=l.map fun x=> .agg (eToken x):=rfl
def eParser(x:P):List PV:=[cQ 2 (aDH x.l)]++ [.str x.current]++ [cQ 5 (lToken x.t)]++ [.v (.int .i64 x.pos)]
def lParser(l:List P):List PV:=l.map fun x=> .agg (eParser x)
theorem lParser_map(l:List P):lParser l=l.map fun x=> .agg (eParser x):=rfl
def eTranslator(x:V):List PV:=[cQ 32 (qX x.w)]++ [cQ 37 (qW x.extra)]++ [.v (.int .i64 x.left)]
def aA5(l:List V):List PV:=l.map fun x=> .agg (eTranslator x)
theorem lTranslator_map(l:List V):aA5 l=l.map fun x=> .agg (eTranslator x):=rfl
def eInteger(x:Integer):List PV:=[.v (.bool x.negative)]++ [cQ 1 (List.map (fun n=>PV.v (.int .u32 n)) x.limbs)]
def lInteger(l:List Integer):List PV:=l.map fun x=> .agg (eInteger x)
theorem lInteger_map(l:List Integer):lInteger l=l.map fun x=> .agg (eInteger x):=rfl
def eErrorString(x:ErrorString):List PV:=[.str x.s]
def yO(l:List ErrorString):List PV:=l.map fun x=> .agg (eErrorString x)
theorem lErrorString_map(l:List ErrorString):yO l=l.map fun x=> .agg (eErrorString x):=rfl
end G
@[reducible] def D0:Nat→Type
 |0=>G.Z
 |1=>G.Y
 |2=>G.O
 |3=>G.T
 |4=>G.Q
 |5=>G.U
 |6=>G.I
 |7=>G.L
 |8=>G.F
 |9=>G.A
 |10=>G.M
 |11=>G.D
 |12=>G.B
 |13=>G.C
 |14=>G.J
 |15=>G.N
 |16=>G.E
 |17=>G.S
 |18=>G.W
 |19=>G.Arr3Int
 |20=>G.X
 |21=>G.R
 |22=>G.K
 |23=>G.P
 |24=>G.V
 |25=>G.Integer
 |_+26=>G.ErrorString
def fs0:Nat→List Ty
 |0=>[(.sl (.int .u8)),i6]
 |1=>[.str,.str]
 |2=>[i6,.str,.str,.rc 1,.str,zS 2]
 |3=>[i6,.rc 1,.rc 2,zS 3]
 |4=>[.rc 1,.rc 1]
 |5=>[.rc 1,i6,zS 3,.rc 1,.rc 3,.rc 3,zS 3,i6,zS 4,i6,.rc 1]
 |6=>[.rc 1,.rc 3]
 |7=>[.str,.rc 3,i6]
 |8=>[.rc 1,zS 1,i6,.rc 3,.rc 3,.rc 3]
 |9=>[.str,zS 1]
 |10=>[.rc 1,zS 1,.bool,.rc 3]
 |11=>[.rc 1,i6,.rc 2]
 |12=>[.rc 1,zS 11]
 |13=>[zS 3,.sl (zS 6)]
 |14=>[.rc 1,zS 1,.rc 3]
 |15=>[i6,i6,i6,.rc 1,.rc 3,.rc 3,zS 3,zS 6,.sl i6,zS 13,zS 14,zS 2]
 |16=>[i6,.rc 1,.rc 9,.rc 10,zS 8,zS 3,.sl (zS 15),zS 16,.rc 12,zS 5,zS 1,zS 1,.str,(.int .u64)]
 |17=>[.rc 1,.rc 2]
 |18=>[zS 16,i6]
 |19=>[i6,i6,i6]
 |20=>[i6,i6]
 |21=>[.str,i6]
 |22=>[i6,i6,.str,.str,.str]
 |23=>[zS 9,.str,zS 22,i6]
 |24=>[zS 16,zS 8,i6]
 |25=>[.bool,(.sl (.int .u32))]
 |_+26=>[.str]
def un0:(n:Nat)→D0 n→List (TV D0)
 |0,x=>[⟨(.sl (.int .u8)),G.Z.b x⟩,⟨i6,G.Z.pos x⟩]
 |1,x=>[⟨.str,G.Y.package x⟩,⟨.str,G.Y.name x⟩]
 |2,x=>[⟨i6,G.O.kind x⟩,⟨.str,G.O.num x⟩,⟨.str,G.O.den x⟩,⟨.rc 1,G.O.sym x⟩,⟨.str,G.O.text x⟩,⟨zS 2,G.O.pair x⟩]
 |3,x=>[⟨i6,G.T.kind x⟩,⟨.rc 1,G.T.name x⟩,⟨.rc 2,G.T.value x⟩,⟨zS 3,G.T.args x⟩]
 |4,x=>[⟨.rc 1,G.Q.a0 x⟩,⟨.rc 1,G.Q.a1 x⟩]
 |5,x=>[⟨.rc 1,G.U.name x⟩,⟨i6,G.U.cls x⟩,⟨zS 3,G.U.hyps x⟩,⟨.rc 1,G.U.equiv x⟩,⟨.rc 3,G.U.left x⟩,⟨.rc 3,G.U.right x⟩,⟨zS 3,G.U.terms x⟩,⟨i6,G.U.tset x⟩,⟨zS 4,G.U.stops x⟩,⟨i6,G.U.arg x⟩,⟨.rc 1,G.U.inner x⟩]
 |6,x=>[⟨.rc 1,G.I.var x⟩,⟨.rc 3,G.I.term x⟩]
 |7,x=>[⟨.str,G.L.name x⟩,⟨.rc 3,G.L.formula x⟩,⟨i6,G.L.cls x⟩]
 |8,x=>[⟨.rc 1,G.F.name x⟩,⟨zS 1,G.F.params x⟩,⟨i6,G.F.cls x⟩,⟨.rc 3,G.F.guard x⟩,⟨.rc 3,G.F.body x⟩,⟨.rc 3,G.F.measure x⟩]
 |9,x=>[⟨.str,G.A.name x⟩,⟨zS 1,G.A.imports x⟩]
 |10,x=>[⟨.rc 1,G.M.name x⟩,⟨zS 1,G.M.params x⟩,⟨.bool,G.M.rest x⟩,⟨.rc 3,G.M.body x⟩]
 |11,x=>[⟨.rc 1,G.D.name x⟩,⟨i6,G.D.length x⟩,⟨.rc 2,G.D.initial x⟩]
 |12,x=>[⟨.rc 1,G.B.name x⟩,⟨zS 11,G.B.fields x⟩]
 |13,x=>[⟨zS 3,G.C.tests x⟩,⟨.sl (zS 6),G.C.substs x⟩]
 |14,x=>[⟨.rc 1,G.J.name x⟩,⟨zS 1,G.J.params x⟩,⟨.rc 3,G.J.body x⟩]
 |15,x=>[⟨i6,G.N.rule x⟩,⟨i6,G.N.a x⟩,⟨i6,G.N.b x⟩,⟨.rc 1,G.N.name x⟩,⟨.rc 3,G.N.term x⟩,⟨.rc 3,G.N.measure x⟩,⟨zS 3,G.N.clause x⟩,⟨zS 6,G.N.subst x⟩,⟨.sl i6,G.N.lines x⟩,⟨zS 13,G.N.cases x⟩,⟨zS 14,G.N.functional x⟩,⟨zS 2,G.N.weights x⟩]
 |16,x=>[⟨i6,G.E.kind x⟩,⟨.rc 1,G.E.name x⟩,⟨.rc 9,G.E.package x⟩,⟨.rc 10,G.E.mac x⟩,⟨zS 8,G.E.functions x⟩,⟨zS 3,G.E.formulas x⟩,⟨.sl (zS 15),G.E.logs x⟩,⟨zS 16,G.E.locl x⟩,⟨.rc 12,G.E.stobj x⟩,⟨zS 5,G.E.rules x⟩,⟨zS 1,G.E.enabled x⟩,⟨zS 1,G.E.disabled x⟩,⟨.str,G.E.text x⟩,⟨(.int .u64),G.E.hash x⟩]
 |17,x=>[⟨.rc 1,G.S.var x⟩,⟨.rc 2,G.S.value x⟩]
 |18,x=>[⟨zS 16,G.W.w x⟩,⟨i6,G.W.left x⟩]
 |19,x=>[⟨i6,G.Arr3Int.a0 x⟩,⟨i6,G.Arr3Int.a1 x⟩,⟨i6,G.Arr3Int.a2 x⟩]
 |20,x=>[⟨i6,G.X.err x⟩,⟨i6,G.X.pos x⟩]
 |21,x=>[⟨.str,G.R.name x⟩,⟨i6,G.R.arity x⟩]
 |22,x=>[⟨i6,G.K.kind x⟩,⟨i6,G.K.pos x⟩,⟨.str,G.K.package x⟩,⟨.str,G.K.text x⟩,⟨.str,G.K.den x⟩]
 |23,x=>[⟨zS 9,G.P.l x⟩,⟨.str,G.P.current x⟩,⟨zS 22,G.P.t x⟩,⟨i6,G.P.pos x⟩]
 |24,x=>[⟨zS 16,G.V.w x⟩,⟨zS 8,G.V.extra x⟩,⟨i6,G.V.left x⟩]
 |25,x=>[⟨.bool,G.Integer.negative x⟩,⟨(.sl (.int .u32)),G.Integer.limbs x⟩]
 |_+26,x=>[⟨.str,G.ErrorString.s x⟩]
def of0:(n:Nat)→List (TV D0)→Option (D0 n)
 |0,l=>match dB (D:=D0) [(.sl (.int .u8)),i6] l with|some r=>some (⟨r.1,r.2.1⟩:G.Z)|none=>none
 |1,l=>match dB (D:=D0) [.str,.str] l with|some r=>some (⟨r.1,r.2.1⟩:G.Y)|none=>none
 |2,l=>match dB (D:=D0) [i6,.str,.str,.rc 1,.str,zS 2] l with|some r=>some (⟨r.1,r.2.1,r.2.2.1,r.2.2.2.1,r.2.2.2.2.1,r.2.2.2.2.2.1⟩:G.O)|none=>none
 |3,l=>match dB (D:=D0) [i6,.rc 1,.rc 2,zS 3] l with|some r=>some (⟨r.1,r.2.1,r.2.2.1,r.2.2.2.1⟩:G.T)|none=>none
 |4,l=>match dB (D:=D0) [.rc 1,.rc 1] l with|some r=>some (⟨r.1,r.2.1⟩:G.Q)|none=>none
 |5,l=>match dB (D:=D0) [.rc 1,i6,zS 3,.rc 1,.rc 3,.rc 3,zS 3,i6,zS 4,i6,.rc 1] l with|some r=>some (⟨r.1,r.2.1,r.2.2.1,r.2.2.2.1,r.2.2.2.2.1,r.2.2.2.2.2.1,r.2.2.2.2.2.2.1,r.2.2.2.2.2.2.2.1,r.2.2.2.2.2.2.2.2.1,r.2.2.2.2.2.2.2.2.2.1,r.2.2.2.2.2.2.2.2.2.2.1⟩:G.U)|none=>none
 |6,l=>match dB (D:=D0) [.rc 1,.rc 3] l with|some r=>some (⟨r.1,r.2.1⟩:G.I)|none=>none
 |7,l=>match dB (D:=D0) [.str,.rc 3,i6] l with|some r=>some (⟨r.1,r.2.1,r.2.2.1⟩:G.L)|none=>none
 |8,l=>match dB (D:=D0) [.rc 1,zS 1,i6,.rc 3,.rc 3,.rc 3] l with|some r=>some (⟨r.1,r.2.1,r.2.2.1,r.2.2.2.1,r.2.2.2.2.1,r.2.2.2.2.2.1⟩:G.F)|none=>none
 |9,l=>match dB (D:=D0) [.str,zS 1] l with|some r=>some (⟨r.1,r.2.1⟩:G.A)|none=>none
 |10,l=>match dB (D:=D0) [.rc 1,zS 1,.bool,.rc 3] l with|some r=>some (⟨r.1,r.2.1,r.2.2.1,r.2.2.2.1⟩:G.M)|none=>none
 |11,l=>match dB (D:=D0) [.rc 1,i6,.rc 2] l with|some r=>some (⟨r.1,r.2.1,r.2.2.1⟩:G.D)|none=>none
 |12,l=>match dB (D:=D0) [.rc 1,zS 11] l with|some r=>some (⟨r.1,r.2.1⟩:G.B)|none=>none
 |13,l=>match dB (D:=D0) [zS 3,.sl (zS 6)] l with|some r=>some (⟨r.1,r.2.1⟩:G.C)|none=>none
 |14,l=>match dB (D:=D0) [.rc 1,zS 1,.rc 3] l with|some r=>some (⟨r.1,r.2.1,r.2.2.1⟩:G.J)|none=>none
 |15,l=>match dB (D:=D0) [i6,i6,i6,.rc 1,.rc 3,.rc 3,zS 3,zS 6,.sl i6,zS 13,zS 14,zS 2] l with|some r=>some (⟨r.1,r.2.1,r.2.2.1,r.2.2.2.1,r.2.2.2.2.1,r.2.2.2.2.2.1,r.2.2.2.2.2.2.1,r.2.2.2.2.2.2.2.1,r.2.2.2.2.2.2.2.2.1,r.2.2.2.2.2.2.2.2.2.1,r.2.2.2.2.2.2.2.2.2.2.1,r.2.2.2.2.2.2.2.2.2.2.2.1⟩:G.N)|none=>none
 |16,l=>match dB (D:=D0) [i6,.rc 1,.rc 9,.rc 10,zS 8,zS 3,.sl (zS 15),zS 16,.rc 12,zS 5,zS 1,zS 1,.str,(.int .u64)] l with|some r=>some (⟨r.1,r.2.1,r.2.2.1,r.2.2.2.1,r.2.2.2.2.1,r.2.2.2.2.2.1,r.2.2.2.2.2.2.1,r.2.2.2.2.2.2.2.1,r.2.2.2.2.2.2.2.2.1,r.2.2.2.2.2.2.2.2.2.1,r.2.2.2.2.2.2.2.2.2.2.1,r.2.2.2.2.2.2.2.2.2.2.2.1,r.2.2.2.2.2.2.2.2.2.2.2.2.1,r.2.2.2.2.2.2.2.2.2.2.2.2.2.1⟩:G.E)|none=>none
 |17,l=>match dB (D:=D0) [.rc 1,.rc 2] l with|some r=>some (⟨r.1,r.2.1⟩:G.S)|none=>none
 |18,l=>match dB (D:=D0) [zS 16,i6] l with|some r=>some (⟨r.1,r.2.1⟩:G.W)|none=>none
 |19,l=>match dB (D:=D0) [i6,i6,i6] l with|some r=>some (⟨r.1,r.2.1,r.2.2.1⟩:G.Arr3Int)|none=>none
 |20,l=>match dB (D:=D0) [i6,i6] l with|some r=>some (⟨r.1,r.2.1⟩:G.X)|none=>none
 |21,l=>match dB (D:=D0) [.str,i6] l with|some r=>some (⟨r.1,r.2.1⟩:G.R)|none=>none
 |22,l=>match dB (D:=D0) [i6,i6,.str,.str,.str] l with|some r=>some (⟨r.1,r.2.1,r.2.2.1,r.2.2.2.1,r.2.2.2.2.1⟩:G.K)|none=>none
 |23,l=>match dB (D:=D0) [zS 9,.str,zS 22,i6] l with|some r=>some (⟨r.1,r.2.1,r.2.2.1,r.2.2.2.1⟩:G.P)|none=>none
 |24,l=>match dB (D:=D0) [zS 16,zS 8,i6] l with|some r=>some (⟨r.1,r.2.1,r.2.2.1⟩:G.V)|none=>none
 |25,l=>match dB (D:=D0) [.bool,(.sl (.int .u32))] l with|some r=>some (⟨r.1,r.2.1⟩:G.Integer)|none=>none
 |_+26,l=>match dB (D:=D0) [.str] l with|some r=>some (⟨r.1⟩:G.ErrorString)|none=>none
def en0:(n:Nat)→D0 n→List PV
 |0,x=>G.eSource x
 |1,x=>G.eSymbol x
 |2,x=>G.eObject x
 |3,x=>G.eTerm x
 |4,x=>G.ePairSymbol x
 |5,x=>G.eRule x
 |6,x=>G.eAssign x
 |7,x=>G.eLemma x
 |8,x=>G.eFunction x
 |9,x=>G.ePackage x
 |10,x=>G.eMacro x
 |11,x=>G.eField x
 |12,x=>G.eStobj x
 |13,x=>G.eCase x
 |14,x=>G.eLambda x
 |15,x=>G.eLine x
 |16,x=>G.eEntry x
 |17,x=>G.eBinding x
 |18,x=>G.eEvaluator x
 |19,x=>G.eArr3Int x
 |20,x=>G.eSourceError x
 |21,x=>G.eRow x
 |22,x=>G.eToken x
 |23,x=>G.eParser x
 |24,x=>G.eTranslator x
 |25,x=>G.eInteger x
 |_+26,x=>G.eErrorString x
def eq0:(n:Nat)→Option (D0 n→D0 n→Bool)
 |0=>none
 |1=>some fun(a b:G.Y)=>decide (a=b)
 |2=>none
 |3=>none
 |4=>none
 |5=>none
 |6=>none
 |7=>none
 |8=>none
 |9=>none
 |10=>none
 |11=>none
 |12=>none
 |13=>none
 |14=>none
 |15=>none
 |16=>none
 |17=>none
 |18=>none
 |19=>none
 |20=>none
 |21=>none
 |22=>none
 |23=>none
 |24=>none
 |25=>none
 |_+26=>none
def zero0:(n:Nat)→D0 n
 |0=>(⟨[],0⟩:G.Z)
 |1=>(⟨[],[]⟩:G.Y)
 |2=>(⟨0,[],[],⟨[],[]⟩,[],[]⟩:G.O)
 |3=>(⟨0,⟨[],[]⟩,⟨0,[],[],⟨[],[]⟩,[],[]⟩,[]⟩:G.T)
 |4=>(⟨⟨[],[]⟩,⟨[],[]⟩⟩:G.Q)
 |5=>(⟨⟨[],[]⟩,0,[],⟨[],[]⟩,⟨0,⟨[],[]⟩,⟨0,[],[],⟨[],[]⟩,[],[]⟩,[]⟩,⟨0,⟨[],[]⟩,⟨0,[],[],⟨[],[]⟩,[],[]⟩,[]⟩,[],0,[],0,⟨[],[]⟩⟩:G.U)
 |6=>(⟨⟨[],[]⟩,⟨0,⟨[],[]⟩,⟨0,[],[],⟨[],[]⟩,[],[]⟩,[]⟩⟩:G.I)
 |7=>(⟨[],⟨0,⟨[],[]⟩,⟨0,[],[],⟨[],[]⟩,[],[]⟩,[]⟩,0⟩:G.L)
 |8=>(⟨⟨[],[]⟩,[],0,⟨0,⟨[],[]⟩,⟨0,[],[],⟨[],[]⟩,[],[]⟩,[]⟩,⟨0,⟨[],[]⟩,⟨0,[],[],⟨[],[]⟩,[],[]⟩,[]⟩,⟨0,⟨[],[]⟩,⟨0,[],[],⟨[],[]⟩,[],[]⟩,[]⟩⟩:G.F)
 |9=>(⟨[],[]⟩:G.A)
 |10=>(⟨⟨[],[]⟩,[],false,⟨0,⟨[],[]⟩,⟨0,[],[],⟨[],[]⟩,[],[]⟩,[]⟩⟩:G.M)
 |11=>(⟨⟨[],[]⟩,0,⟨0,[],[],⟨[],[]⟩,[],[]⟩⟩:G.D)
 |12=>(⟨⟨[],[]⟩,[]⟩:G.B)
 |13=>(⟨[],[]⟩:G.C)
 |14=>(⟨⟨[],[]⟩,[],⟨0,⟨[],[]⟩,⟨0,[],[],⟨[],[]⟩,[],[]⟩,[]⟩⟩:G.J)
 |15=>(⟨0,0,0,⟨[],[]⟩,⟨0,⟨[],[]⟩,⟨0,[],[],⟨[],[]⟩,[],[]⟩,[]⟩,⟨0,⟨[],[]⟩,⟨0,[],[],⟨[],[]⟩,[],[]⟩,[]⟩,[],[],[],[],[],[]⟩:G.N)
 |16=>(⟨0,⟨[],[]⟩,⟨[],[]⟩,⟨⟨[],[]⟩,[],false,⟨0,⟨[],[]⟩,⟨0,[],[],⟨[],[]⟩,[],[]⟩,[]⟩⟩,[],[],[],[],⟨⟨[],[]⟩,[]⟩,[],[],[],[],0⟩:G.E)
 |17=>(⟨⟨[],[]⟩,⟨0,[],[],⟨[],[]⟩,[],[]⟩⟩:G.S)
 |18=>(⟨[],0⟩:G.W)
 |19=>(⟨0,0,0⟩:G.Arr3Int)
 |20=>(⟨0,0⟩:G.X)
 |21=>(⟨[],0⟩:G.R)
 |22=>(⟨0,0,[],[],[]⟩:G.K)
 |23=>(⟨[],[],[],0⟩:G.P)
 |24=>(⟨[],[],0⟩:G.V)
 |25=>(⟨false,[]⟩:G.Integer)
 |_+26=>(⟨[]⟩:G.ErrorString)
def sz0:Nat→Nat
 |0=>2
 |1=>2
 |2=>7
 |3=>11
 |4=>4
 |5=>34
 |6=>13
 |7=>13
 |8=>37
 |9=>2
 |10=>15
 |11=>10
 |12=>3
 |13=>2
 |14=>14
 |15=>33
 |16=>32
 |17=>9
 |18=>2
 |19=>3
 |20=>2
 |21=>2
 |22=>5
 |23=>4
 |24=>3
 |25=>2
 |_+26=>1
def lt0:Nat→List Ty
 |0=>[(.sl (.int .u8)),i6]
 |1=>[.str,.str]
 |2=>[i6,.str,.str,.str,.str,.str,zS 2]
 |3=>[i6,.str,.str,i6,.str,.str,.str,.str,.str,zS 2,zS 3]
 |4=>[.str,.str,.str,.str]
 |5=>[.str,.str,i6,zS 3,.str,.str,i6,.str,.str,i6,.str,.str,.str,.str,.str,zS 2,zS 3,i6,.str,.str,i6,.str,.str,.str,.str,.str,zS 2,zS 3,zS 3,i6,zS 4,i6,.str,.str]
 |6=>[.str,.str,i6,.str,.str,i6,.str,.str,.str,.str,.str,zS 2,zS 3]
 |7=>[.str,i6,.str,.str,i6,.str,.str,.str,.str,.str,zS 2,zS 3,i6]
 |8=>[.str,.str,zS 1,i6,i6,.str,.str,i6,.str,.str,.str,.str,.str,zS 2,zS 3,i6,.str,.str,i6,.str,.str,.str,.str,.str,zS 2,zS 3,i6,.str,.str,i6,.str,.str,.str,.str,.str,zS 2,zS 3]
 |9=>[.str,zS 1]
 |10=>[.str,.str,zS 1,.bool,i6,.str,.str,i6,.str,.str,.str,.str,.str,zS 2,zS 3]
 |11=>[.str,.str,i6,i6,.str,.str,.str,.str,.str,zS 2]
 |12=>[.str,.str,zS 11]
 |13=>[zS 3,.sl (zS 6)]
 |14=>[.str,.str,zS 1,i6,.str,.str,i6,.str,.str,.str,.str,.str,zS 2,zS 3]
 |15=>[i6,i6,i6,.str,.str,i6,.str,.str,i6,.str,.str,.str,.str,.str,zS 2,zS 3,i6,.str,.str,i6,.str,.str,.str,.str,.str,zS 2,zS 3,zS 3,zS 6,.sl i6,zS 13,zS 14,zS 2]
 |16=>[i6,.str,.str,.str,zS 1,.str,.str,zS 1,.bool,i6,.str,.str,i6,.str,.str,.str,.str,.str,zS 2,zS 3,zS 8,zS 3,.sl (zS 15),zS 16,.str,.str,zS 11,zS 5,zS 1,zS 1,.str,(.int .u64)]
 |17=>[.str,.str,i6,.str,.str,.str,.str,.str,zS 2]
 |18=>[zS 16,i6]
 |19=>[i6,i6,i6]
 |20=>[i6,i6]
 |21=>[.str,i6]
 |22=>[i6,i6,.str,.str,.str]
 |23=>[zS 9,.str,zS 22,i6]
 |24=>[zS 16,zS 8,i6]
 |25=>[.bool,(.sl (.int .u32))]
 |_+26=>[.str]
def U0:iN:=⟨D0,fs0,un0,of0,en0,eq0,zero0,sz0,lt0⟩
theorem gd_v(x:Value):gd (.v x)=true:=rfl
theorem gd_st(s:List UInt8):gd (.str s)=true:=rfl
theorem aV(z:Nat)(l:List PV):(cQ z l).cells=[cQ z l]:=iF (bR _ _)
theorem bH(x:Value):(PV.v x).cells=[.v x]:=rfl
theorem aU(x:List UInt8):(PV.str x).cells=[.str x]:=rfl
theorem aW(x:List PV):(PV.agg x).cells=x:=rfl
theorem len_0: ∀x:D0 0,(en0 0 x).length=sz0 0:=fun(x:G.Z)=>by rfl
theorem mI: ∀x:D0 1,(en0 1 x).length=sz0 1:=fun(x:G.Y)=>by rfl
theorem len_2: ∀x:D0 2,(en0 2 x).length=sz0 2:=fun(x:G.O)=>by
 cases x;show(G.eObject _).length=7;simp only[G.eObject,lnA,lcS,lnN,show∀y:G.Y,(G.eSymbol y).length=2 from mI]
theorem yL: ∀x:D0 3,(en0 3 x).length=sz0 3:=fun(x:G.T)=>by
 cases x;show(G.eTerm _).length=11;simp only[G.eTerm,lnA,lcS,lnN,show∀y:G.Y,(G.eSymbol y).length=2 from mI,show∀y:G.O,(G.eObject y).length=7 from len_2]
theorem len_4: ∀x:D0 4,(en0 4 x).length=sz0 4:=fun(x:G.Q)=>by
 show(G.ePairSymbol _).length=4;simp only[G.ePairSymbol,lnA,lcS,lnN,show∀y:G.Y,(G.eSymbol y).length=2 from mI]
theorem len_5: ∀x:D0 5,(en0 5 x).length=sz0 5:=fun(x:G.U)=>by
 show(G.eRule _).length=34;simp only[G.eRule,lnA,lcS,lnN,show∀y:G.Y,(G.eSymbol y).length=2 from mI,show∀y:G.T,(G.eTerm y).length=11 from yL]
theorem len_6: ∀x:D0 6,(en0 6 x).length=sz0 6:=fun(x:G.I)=>by
 show(G.eAssign _).length=13;simp only[G.eAssign,lnA,lcS,lnN,show∀y:G.Y,(G.eSymbol y).length=2 from mI,show∀y:G.T,(G.eTerm y).length=11 from yL]
theorem len_7: ∀x:D0 7,(en0 7 x).length=sz0 7:=fun(x:G.L)=>by
 show(G.eLemma _).length=13;simp only[G.eLemma,lnA,lcS,lnN,show∀y:G.T,(G.eTerm y).length=11 from yL]
theorem len_8: ∀x:D0 8,(en0 8 x).length=sz0 8:=fun(x:G.F)=>by
 show(G.eFunction _).length=37;simp only[G.eFunction,lnA,lcS,lnN,show∀y:G.Y,(G.eSymbol y).length=2 from mI,show∀y:G.T,(G.eTerm y).length=11 from yL]
theorem len_9: ∀x:D0 9,(en0 9 x).length=sz0 9:=fun(x:G.A)=>by rfl
theorem len_10: ∀x:D0 10,(en0 10 x).length=sz0 10:=fun(x:G.M)=>by
 show(G.eMacro _).length=15;simp only[G.eMacro,lnA,lcS,lnN,show∀y:G.Y,(G.eSymbol y).length=2 from mI,show∀y:G.T,(G.eTerm y).length=11 from yL]
theorem len_11: ∀x:D0 11,(en0 11 x).length=sz0 11:=fun(x:G.D)=>by
 show(G.eField _).length=10;simp only[G.eField,lnA,lcS,lnN,show∀y:G.Y,(G.eSymbol y).length=2 from mI,show∀y:G.O,(G.eObject y).length=7 from len_2]
theorem len_12: ∀x:D0 12,(en0 12 x).length=sz0 12:=fun(x:G.B)=>by
 show(G.eStobj _).length=3;simp only[G.eStobj,lnA,lcS,lnN,show∀y:G.Y,(G.eSymbol y).length=2 from mI]
theorem len_13: ∀x:D0 13,(en0 13 x).length=sz0 13:=fun(x:G.C)=>by rfl
theorem len_14: ∀x:D0 14,(en0 14 x).length=sz0 14:=fun(x:G.J)=>by
 show(G.eLambda _).length=14;simp only[G.eLambda,lnA,lcS,lnN,show∀y:G.Y,(G.eSymbol y).length=2 from mI,show∀y:G.T,(G.eTerm y).length=11 from yL]
theorem len_15: ∀x:D0 15,(en0 15 x).length=sz0 15:=fun(x:G.N)=>by
 show(G.eLine _).length=33;simp only[G.eLine,lnA,lcS,lnN,show∀y:G.Y,(G.eSymbol y).length=2 from mI,show∀y:G.T,(G.eTerm y).length=11 from yL]
theorem len_16: ∀x:D0 16,(en0 16 x).length=sz0 16:=fun(x:G.E)=>by
 cases x;show(G.eEntry _).length=32;simp only[G.eEntry,lnA,lcS,lnN,show∀y:G.Y,(G.eSymbol y).length=2 from mI,show∀y:G.A,(G.ePackage y).length=2 from len_9,show∀y:G.M,(G.eMacro y).length=15 from len_10,show∀y:G.B,(G.eStobj y).length=3 from len_12]
theorem len_17: ∀x:D0 17,(en0 17 x).length=sz0 17:=fun(x:G.S)=>by
 show(G.eBinding _).length=9;simp only[G.eBinding,lnA,lcS,lnN,show∀y:G.Y,(G.eSymbol y).length=2 from mI,show∀y:G.O,(G.eObject y).length=7 from len_2]
theorem len_18: ∀x:D0 18,(en0 18 x).length=sz0 18:=fun(x:G.W)=>by rfl
theorem len_19: ∀x:D0 19,(en0 19 x).length=sz0 19:=fun(x:G.Arr3Int)=>by rfl
theorem len_20: ∀x:D0 20,(en0 20 x).length=sz0 20:=fun(x:G.X)=>by rfl
theorem len_21: ∀x:D0 21,(en0 21 x).length=sz0 21:=fun(x:G.R)=>by rfl
theorem len_22: ∀x:D0 22,(en0 22 x).length=sz0 22:=fun(x:G.K)=>by rfl
theorem len_23: ∀x:D0 23,(en0 23 x).length=sz0 23:=fun(x:G.P)=>by rfl
theorem len_24: ∀x:D0 24,(en0 24 x).length=sz0 24:=fun(x:G.V)=>by rfl
theorem len_25: ∀x:D0 25,(en0 25 x).length=sz0 25:=fun(x:G.Integer)=>by rfl
theorem len_26(k:Nat): ∀x:D0 (k+26),(en0 (k+26) x).length=sz0 (k+26):=fun(x:G.ErrorString)=>by rfl
theorem gAl:(∀(a b:List PV) (p:PV→Bool),(a++b).all p=(a.all p&&b.all p))∧(∀(a:PV) (l:List PV) (p:PV→Bool),(a::l).all p=(p a&&l.all p))∧(∀p:PV→Bool,([]:List PV).all p=true)∧(∀(z:Nat) (l:List PV),gd (cQ z l)=true)∧(∀x:Value,gd (.v x)=true)∧(∀s:List UInt8,gd (.str s)=true)∧(∀b:Bool,(b&&b)=b)∧∀b:Bool,(b&&true)=b:=⟨fun _ _ _=>List.all_append,fun _ _ _=>alC,fun _=>List.all_nil,bR,gd_v,gd_st,Bool.and_self,bnA⟩
theorem gd_0: ∀x:D0 0,(en0 0 x).all gd=true:=fun(x:G.Z)=>by
 show(G.eSource _).all gd=true;simp only[G.eSource,gAl]
theorem aDS: ∀x:D0 1,(en0 1 x).all gd=true:=fun(x:G.Y)=>by
 show(G.eSymbol _).all gd=true;simp only[G.eSymbol,gAl]
theorem gd_2: ∀x:D0 2,(en0 2 x).all gd=true:=fun(x:G.O)=>by
 cases x;show(G.eObject _).all gd=true;simp only[G.eObject,gAl,show∀y:G.Y,(G.eSymbol y).all gd=true from aDS]
theorem gd_3: ∀x:D0 3,(en0 3 x).all gd=true:=fun(x:G.T)=>by
 cases x;show(G.eTerm _).all gd=true;simp only[G.eTerm,gAl,show∀y:G.Y,(G.eSymbol y).all gd=true from aDS,show∀y:G.O,(G.eObject y).all gd=true from gd_2]
theorem gd_4: ∀x:D0 4,(en0 4 x).all gd=true:=fun(x:G.Q)=>by
 show(G.ePairSymbol _).all gd=true;simp only[G.ePairSymbol,gAl,show∀y:G.Y,(G.eSymbol y).all gd=true from aDS]
theorem gd_5: ∀x:D0 5,(en0 5 x).all gd=true:=fun(x:G.U)=>by
 show(G.eRule _).all gd=true;simp only[G.eRule,gAl,show∀y:G.Y,(G.eSymbol y).all gd=true from aDS,show∀y:G.T,(G.eTerm y).all gd=true from gd_3]
theorem gd_6: ∀x:D0 6,(en0 6 x).all gd=true:=fun(x:G.I)=>by
 show(G.eAssign _).all gd=true;simp only[G.eAssign,gAl,show∀y:G.Y,(G.eSymbol y).all gd=true from aDS,show∀y:G.T,(G.eTerm y).all gd=true from gd_3]
theorem gd_7: ∀x:D0 7,(en0 7 x).all gd=true:=fun(x:G.L)=>by
 show(G.eLemma _).all gd=true;simp only[G.eLemma,gAl,show∀y:G.T,(G.eTerm y).all gd=true from gd_3]
theorem gd_8: ∀x:D0 8,(en0 8 x).all gd=true:=fun(x:G.F)=>by
 show(G.eFunction _).all gd=true;simp only[G.eFunction,gAl,show∀y:G.Y,(G.eSymbol y).all gd=true from aDS,show∀y:G.T,(G.eTerm y).all gd=true from gd_3]
theorem gd_9: ∀x:D0 9,(en0 9 x).all gd=true:=fun(x:G.A)=>by
 show(G.ePackage _).all gd=true;simp only[G.ePackage,gAl]
theorem gd_10: ∀x:D0 10,(en0 10 x).all gd=true:=fun(x:G.M)=>by
 show(G.eMacro _).all gd=true;simp only[G.eMacro,gAl,show∀y:G.Y,(G.eSymbol y).all gd=true from aDS,show∀y:G.T,(G.eTerm y).all gd=true from gd_3]
theorem gd_11: ∀x:D0 11,(en0 11 x).all gd=true:=fun(x:G.D)=>by
 show(G.eField _).all gd=true;simp only[G.eField,gAl,show∀y:G.Y,(G.eSymbol y).all gd=true from aDS,show∀y:G.O,(G.eObject y).all gd=true from gd_2]
theorem gd_12: ∀x:D0 12,(en0 12 x).all gd=true:=fun(x:G.B)=>by
 show(G.eStobj _).all gd=true;simp only[G.eStobj,gAl,show∀y:G.Y,(G.eSymbol y).all gd=true from aDS]
theorem gd_13: ∀x:D0 13,(en0 13 x).all gd=true:=fun(x:G.C)=>by
 show(G.eCase _).all gd=true;simp only[G.eCase,gAl]
theorem gd_14: ∀x:D0 14,(en0 14 x).all gd=true:=fun(x:G.J)=>by
 show(G.eLambda _).all gd=true;simp only[G.eLambda,gAl,show∀y:G.Y,(G.eSymbol y).all gd=true from aDS,show∀y:G.T,(G.eTerm y).all gd=true from gd_3]
theorem gd_15: ∀x:D0 15,(en0 15 x).all gd=true:=fun(x:G.N)=>by
 show(G.eLine _).all gd=true;simp only[G.eLine,gAl,show∀y:G.Y,(G.eSymbol y).all gd=true from aDS,show∀y:G.T,(G.eTerm y).all gd=true from gd_3]
theorem gd_16: ∀x:D0 16,(en0 16 x).all gd=true:=fun(x:G.E)=>by
 cases x;show(G.eEntry _).all gd=true;simp only[G.eEntry,gAl,show∀y:G.Y,(G.eSymbol y).all gd=true from aDS,show∀y:G.A,(G.ePackage y).all gd=true from gd_9,show∀y:G.M,(G.eMacro y).all gd=true from gd_10,show∀y:G.B,(G.eStobj y).all gd=true from gd_12]
theorem gd_17: ∀x:D0 17,(en0 17 x).all gd=true:=fun(x:G.S)=>by
 show(G.eBinding _).all gd=true;simp only[G.eBinding,gAl,show∀y:G.Y,(G.eSymbol y).all gd=true from aDS,show∀y:G.O,(G.eObject y).all gd=true from gd_2]
theorem gd_18: ∀x:D0 18,(en0 18 x).all gd=true:=fun(x:G.W)=>by
 show(G.eEvaluator _).all gd=true;simp only[G.eEvaluator,gAl]
theorem gd_19: ∀x:D0 19,(en0 19 x).all gd=true:=fun(x:G.Arr3Int)=>by
 show(G.eArr3Int _).all gd=true;simp only[G.eArr3Int,gAl]
theorem gd_20: ∀x:D0 20,(en0 20 x).all gd=true:=fun(x:G.X)=>by
 show(G.eSourceError _).all gd=true;simp only[G.eSourceError,gAl]
theorem gd_21: ∀x:D0 21,(en0 21 x).all gd=true:=fun(x:G.R)=>by
 show(G.eRow _).all gd=true;simp only[G.eRow,gAl]
theorem gd_22: ∀x:D0 22,(en0 22 x).all gd=true:=fun(x:G.K)=>by
 show(G.eToken _).all gd=true;simp only[G.eToken,gAl]
theorem gd_23: ∀x:D0 23,(en0 23 x).all gd=true:=fun(x:G.P)=>by
 show(G.eParser _).all gd=true;simp only[G.eParser,gAl]
theorem gd_24: ∀x:D0 24,(en0 24 x).all gd=true:=fun(x:G.V)=>by
 show(G.eTranslator _).all gd=true;simp only[G.eTranslator,gAl]
theorem gd_25: ∀x:D0 25,(en0 25 x).all gd=true:=fun(x:G.Integer)=>by
 show(G.eInteger _).all gd=true;simp only[G.eInteger,gAl]
theorem gd_26(k:Nat): ∀x:D0 (k+26),(en0 (k+26) x).all gd=true:=fun(x:G.ErrorString)=>by
 show(G.eErrorString _).all gd=true;simp only[G.eErrorString,gAl]
def eO:=And.intro G.lSource_map (And.intro G.lSymbol_map (And.intro G.lObject_map (And.intro G.lTerm_map (And.intro G.lPairSymbol_map (And.intro G.lRule_map (And.intro G.lAssign_map (And.intro G.lLemma_map (And.intro G.lFunction_map (And.intro G.lPackage_map (And.intro G.lMacro_map (And.intro G.lField_map (And.intro G.lStobj_map (And.intro G.lCase_map (And.intro G.lLambda_map (And.intro G.lLine_map (And.intro G.lEntry_map (And.intro G.lBinding_map (And.intro G.lEvaluator_map (And.intro G.lArr3Int_map (And.intro G.lSourceError_map (And.intro G.lRow_map (And.intro G.lToken_map (And.intro G.lParser_map (And.intro G.lTranslator_map (And.intro G.lInteger_map G.lErrorString_map)))))))))))))))))))))))))
theorem enl_0: ∀x:D0 0,en0 0 x=(un0 0 x).flatMap fun v=>(enV U0 v.t v.x).cells:=fun(x:G.Z)=>by
 show G.eSource _=_;simp only[G.eSource,un0,fmC,fmN,enV,aV,bH,aU,aW,apN,apA,sgA,cnA,nlA,szT,U0,sz0,en0,eO]
 try rfl
theorem enl_1: ∀x:D0 1,en0 1 x=(un0 1 x).flatMap fun v=>(enV U0 v.t v.x).cells:=fun(x:G.Y)=>by
 show G.eSymbol _=_;simp only[G.eSymbol,un0,fmC,fmN,enV,aV,bH,aU,aW,apN,apA,sgA,cnA,nlA,szT,U0,sz0,en0,eO]
 try rfl
theorem enl_2: ∀x:D0 2,en0 2 x=(un0 2 x).flatMap fun v=>(enV U0 v.t v.x).cells:=fun(x:G.O)=>by
 cases x;show G.eObject _=_;simp only[G.eObject,un0,fmC,fmN,enV,aV,bH,aU,aW,apN,apA,sgA,cnA,nlA,szT,U0,sz0,en0,eO,G.O.kind,G.O.num,G.O.den,G.O.sym,G.O.text,G.O.pair]
 try rfl
theorem enl_3: ∀x:D0 3,en0 3 x=(un0 3 x).flatMap fun v=>(enV U0 v.t v.x).cells:=fun(x:G.T)=>by
 cases x;show G.eTerm _=_;simp only[G.eTerm,un0,fmC,fmN,enV,aV,bH,aU,aW,apN,apA,sgA,cnA,nlA,szT,U0,sz0,en0,eO,G.T.kind,G.T.name,G.T.value,G.T.args]
 try rfl
theorem enl_4: ∀x:D0 4,en0 4 x=(un0 4 x).flatMap fun v=>(enV U0 v.t v.x).cells:=fun(x:G.Q)=>by
 show G.ePairSymbol _=_;simp only[G.ePairSymbol,un0,fmC,fmN,enV,aV,bH,aU,aW,apN,apA,sgA,cnA,nlA,szT,U0,sz0,en0,eO]
 try rfl
theorem enl_5: ∀x:D0 5,en0 5 x=(un0 5 x).flatMap fun v=>(enV U0 v.t v.x).cells:=fun(x:G.U)=>by
 show G.eRule _=_;simp only[G.eRule,un0,fmC,fmN,enV,aV,bH,aU,aW,apN,apA,sgA,cnA,nlA,szT,U0,sz0,en0,eO]
 try rfl
theorem enl_6: ∀x:D0 6,en0 6 x=(un0 6 x).flatMap fun v=>(enV U0 v.t v.x).cells:=fun(x:G.I)=>by
 show G.eAssign _=_;simp only[G.eAssign,un0,fmC,fmN,enV,aV,bH,aU,aW,apN,apA,sgA,cnA,nlA,szT,U0,sz0,en0,eO]
 try rfl
theorem enl_7: ∀x:D0 7,en0 7 x=(un0 7 x).flatMap fun v=>(enV U0 v.t v.x).cells:=fun(x:G.L)=>by
 show G.eLemma _=_;simp only[G.eLemma,un0,fmC,fmN,enV,aV,bH,aU,aW,apN,apA,sgA,cnA,nlA,szT,U0,sz0,en0,eO]
 try rfl
theorem enl_8: ∀x:D0 8,en0 8 x=(un0 8 x).flatMap fun v=>(enV U0 v.t v.x).cells:=fun(x:G.F)=>by
 show G.eFunction _=_;simp only[G.eFunction,un0,fmC,fmN,enV,aV,bH,aU,aW,apN,apA,sgA,cnA,nlA,szT,U0,sz0,en0,eO]
 try rfl
theorem enl_9: ∀x:D0 9,en0 9 x=(un0 9 x).flatMap fun v=>(enV U0 v.t v.x).cells:=fun(x:G.A)=>by
 show G.ePackage _=_;simp only[G.ePackage,un0,fmC,fmN,enV,aV,bH,aU,aW,apN,apA,sgA,cnA,nlA,szT,U0,sz0,en0,eO]
 try rfl
theorem enl_10: ∀x:D0 10,en0 10 x=(un0 10 x).flatMap fun v=>(enV U0 v.t v.x).cells:=fun(x:G.M)=>by
 show G.eMacro _=_;simp only[G.eMacro,un0,fmC,fmN,enV,aV,bH,aU,aW,apN,apA,sgA,cnA,nlA,szT,U0,sz0,en0,eO]
 try rfl
theorem enl_11: ∀x:D0 11,en0 11 x=(un0 11 x).flatMap fun v=>(enV U0 v.t v.x).cells:=fun(x:G.D)=>by
 show G.eField _=_;simp only[G.eField,un0,fmC,fmN,enV,aV,bH,aU,aW,apN,apA,sgA,cnA,nlA,szT,U0,sz0,en0,eO]
 try rfl
theorem enl_12: ∀x:D0 12,en0 12 x=(un0 12 x).flatMap fun v=>(enV U0 v.t v.x).cells:=fun(x:G.B)=>by
 show G.eStobj _=_;simp only[G.eStobj,un0,fmC,fmN,enV,aV,bH,aU,aW,apN,apA,sgA,cnA,nlA,szT,U0,sz0,en0,eO]
 try rfl
theorem enl_13: ∀x:D0 13,en0 13 x=(un0 13 x).flatMap fun v=>(enV U0 v.t v.x).cells:=fun(x:G.C)=>by
 show G.eCase _=_;simp only[G.eCase,un0,fmC,fmN,enV,aV,bH,aU,aW,apN,apA,sgA,cnA,nlA,szT,U0,sz0,en0,eO]
 try rfl
theorem enl_14: ∀x:D0 14,en0 14 x=(un0 14 x).flatMap fun v=>(enV U0 v.t v.x).cells:=fun(x:G.J)=>by
 show G.eLambda _=_;simp only[G.eLambda,un0,fmC,fmN,enV,aV,bH,aU,aW,apN,apA,sgA,cnA,nlA,szT,U0,sz0,en0,eO]
 try rfl
theorem enl_15: ∀x:D0 15,en0 15 x=(un0 15 x).flatMap fun v=>(enV U0 v.t v.x).cells:=fun(x:G.N)=>by
 show G.eLine _=_;simp only[G.eLine,un0,fmC,fmN,enV,aV,bH,aU,aW,apN,apA,sgA,cnA,nlA,szT,U0,sz0,en0,eO]
 try rfl
theorem enl_16: ∀x:D0 16,en0 16 x=(un0 16 x).flatMap fun v=>(enV U0 v.t v.x).cells:=fun(x:G.E)=>by
 cases x;show G.eEntry _=_;simp only[G.eEntry,un0,fmC,fmN,enV,aV,bH,aU,aW,apN,apA,sgA,cnA,nlA,szT,U0,sz0,en0,eO,G.E.kind,G.E.name,G.E.package,G.E.mac,G.E.functions,G.E.formulas,G.E.logs,G.E.locl,G.E.stobj,G.E.rules,G.E.enabled,G.E.disabled,G.E.text,G.E.hash]
 try rfl
theorem enl_17: ∀x:D0 17,en0 17 x=(un0 17 x).flatMap fun v=>(enV U0 v.t v.x).cells:=fun(x:G.S)=>by
 show G.eBinding _=_;simp only[G.eBinding,un0,fmC,fmN,enV,aV,bH,aU,aW,apN,apA,sgA,cnA,nlA,szT,U0,sz0,en0,eO]
 try rfl
theorem enl_18: ∀x:D0 18,en0 18 x=(un0 18 x).flatMap fun v=>(enV U0 v.t v.x).cells:=fun(x:G.W)=>by
 show G.eEvaluator _=_;simp only[G.eEvaluator,un0,fmC,fmN,enV,aV,bH,aU,aW,apN,apA,sgA,cnA,nlA,szT,U0,sz0,en0,eO]
 try rfl
theorem enl_19: ∀x:D0 19,en0 19 x=(un0 19 x).flatMap fun v=>(enV U0 v.t v.x).cells:=fun(x:G.Arr3Int)=>by
 show G.eArr3Int _=_;simp only[G.eArr3Int,un0,fmC,fmN,enV,aV,bH,aU,aW,apN,apA,sgA,cnA,nlA,szT,U0,sz0,en0,eO]
 try rfl
theorem enl_20: ∀x:D0 20,en0 20 x=(un0 20 x).flatMap fun v=>(enV U0 v.t v.x).cells:=fun(x:G.X)=>by
 show G.eSourceError _=_;simp only[G.eSourceError,un0,fmC,fmN,enV,aV,bH,aU,aW,apN,apA,sgA,cnA,nlA,szT,U0,sz0,en0,eO]
 try rfl
theorem enl_21: ∀x:D0 21,en0 21 x=(un0 21 x).flatMap fun v=>(enV U0 v.t v.x).cells:=fun(x:G.R)=>by
 show G.eRow _=_;simp only[G.eRow,un0,fmC,fmN,enV,aV,bH,aU,aW,apN,apA,sgA,cnA,nlA,szT,U0,sz0,en0,eO]
 try rfl
theorem enl_22: ∀x:D0 22,en0 22 x=(un0 22 x).flatMap fun v=>(enV U0 v.t v.x).cells:=fun(x:G.K)=>by
 show G.eToken _=_;simp only[G.eToken,un0,fmC,fmN,enV,aV,bH,aU,aW,apN,apA,sgA,cnA,nlA,szT,U0,sz0,en0,eO]
 try rfl
theorem enl_23: ∀x:D0 23,en0 23 x=(un0 23 x).flatMap fun v=>(enV U0 v.t v.x).cells:=fun(x:G.P)=>by
 show G.eParser _=_;simp only[G.eParser,un0,fmC,fmN,enV,aV,bH,aU,aW,apN,apA,sgA,cnA,nlA,szT,U0,sz0,en0,eO]
 try rfl
theorem enl_24: ∀x:D0 24,en0 24 x=(un0 24 x).flatMap fun v=>(enV U0 v.t v.x).cells:=fun(x:G.V)=>by
 show G.eTranslator _=_;simp only[G.eTranslator,un0,fmC,fmN,enV,aV,bH,aU,aW,apN,apA,sgA,cnA,nlA,szT,U0,sz0,en0,eO]
 try rfl
theorem enl_25: ∀x:D0 25,en0 25 x=(un0 25 x).flatMap fun v=>(enV U0 v.t v.x).cells:=fun(x:G.Integer)=>by
 show G.eInteger _=_;simp only[G.eInteger,un0,fmC,fmN,enV,aV,bH,aU,aW,apN,apA,sgA,cnA,nlA,szT,U0,sz0,en0,eO]
 try rfl
theorem enl_26(k:Nat): ∀x:D0 (k+26),en0 (k+26) x=(un0 (k+26) x).flatMap fun v=>(enV U0 v.t v.x).cells:=fun(x:G.ErrorString)=>by
 show G.eErrorString _=_;simp only[G.eErrorString,un0,fmC,fmN,enV,aV,bH,aU,aW,apN,apA,sgA,cnA,nlA,szT,U0,sz0,en0,eO]
 try rfl
theorem recOK:eX U0 where
 eqc:=by
  intro n f x h
  match n,f,x,h with
  |0,f,x,h=>cases h
  |1,f,x,h=>cases h;rfl
  |2,f,x,h=>cases h
  |3,f,x,h=>cases h
  |4,f,x,h=>cases h
  |5,f,x,h=>cases h
  |6,f,x,h=>cases h
  |7,f,x,h=>cases h
  |8,f,x,h=>cases h
  |9,f,x,h=>cases h
  |10,f,x,h=>cases h
  |11,f,x,h=>cases h
  |12,f,x,h=>cases h
  |13,f,x,h=>cases h
  |14,f,x,h=>cases h
  |15,f,x,h=>cases h
  |16,f,x,h=>cases h
  |17,f,x,h=>cases h
  |18,f,x,h=>cases h
  |19,f,x,h=>cases h
  |20,f,x,h=>cases h
  |21,f,x,h=>cases h
  |22,f,x,h=>cases h
  |23,f,x,h=>cases h
  |24,f,x,h=>cases h
  |25,f,x,h=>cases h
  |k+26,f,x,h=>cases h
 ty:=fun n=>match n with|0=>fun _=>rfl|1=>fun _=>rfl|2=>fun _=>rfl|3=>fun _=>rfl|4=>fun _=>rfl|5=>fun _=>rfl|6=>fun _=>rfl|7=>fun _=>rfl|8=>fun _=>rfl|9=>fun _=>rfl|10=>fun _=>rfl|11=>fun _=>rfl|12=>fun _=>rfl|13=>fun _=>rfl|14=>fun _=>rfl|15=>fun _=>rfl|16=>fun _=>rfl|17=>fun _=>rfl|18=>fun _=>rfl|19=>fun _=>rfl|20=>fun _=>rfl|21=>fun _=>rfl|22=>fun _=>rfl|23=>fun _=>rfl|24=>fun _=>rfl|25=>fun _=>rfl|k+26=>fun _=>rfl
 un_of:=by
  intro n l x h
  match n,x,h with
  |0,x,h=>
   simp only[U0,of0]at h;split at h
   ·rename_i r hr;cases h;exact aQ hr
   ·cases h
  |1,x,h=>
   simp only[U0,of0]at h;split at h
   ·rename_i r hr;cases h;exact aQ hr
   ·cases h
  |2,x,h=>
   simp only[U0,of0]at h;split at h
   ·rename_i r hr;cases h;exact aQ hr
   ·cases h
  |3,x,h=>
   simp only[U0,of0]at h;split at h
   ·rename_i r hr;cases h;exact aQ hr
   ·cases h
  |4,x,h=>
   simp only[U0,of0]at h;split at h
   ·rename_i r hr;cases h;exact aQ hr
   ·cases h
  |5,x,h=>
   simp only[U0,of0]at h;split at h
   ·rename_i r hr;cases h;exact aQ hr
   ·cases h
  |6,x,h=>
   simp only[U0,of0]at h;split at h
   ·rename_i r hr;cases h;exact aQ hr
   ·cases h
  |7,x,h=>
   simp only[U0,of0]at h;split at h
   ·rename_i r hr;cases h;exact aQ hr
   ·cases h
  |8,x,h=>
   simp only[U0,of0]at h;split at h
   ·rename_i r hr;cases h;exact aQ hr
   ·cases h
  |9,x,h=>
   simp only[U0,of0]at h;split at h
   ·rename_i r hr;cases h;exact aQ hr
   ·cases h
  |10,x,h=>
   simp only[U0,of0]at h;split at h
   ·rename_i r hr;cases h;exact aQ hr
   ·cases h
  |11,x,h=>
   simp only[U0,of0]at h;split at h
   ·rename_i r hr;cases h;exact aQ hr
   ·cases h
  |12,x,h=>
   simp only[U0,of0]at h;split at h
   ·rename_i r hr;cases h;exact aQ hr
   ·cases h
  |13,x,h=>
   simp only[U0,of0]at h;split at h
   ·rename_i r hr;cases h;exact aQ hr
   ·cases h
  |14,x,h=>
   simp only[U0,of0]at h;split at h
   ·rename_i r hr;cases h;exact aQ hr
   ·cases h
  |15,x,h=>
   simp only[U0,of0]at h;split at h
   ·rename_i r hr;cases h;exact aQ hr
   ·cases h
  |16,x,h=>
   simp only[U0,of0]at h;split at h
   ·rename_i r hr;cases h;exact aQ hr
   ·cases h
  |17,x,h=>
   simp only[U0,of0]at h;split at h
   ·rename_i r hr;cases h;exact aQ hr
   ·cases h
  |18,x,h=>
   simp only[U0,of0]at h;split at h
   ·rename_i r hr;cases h;exact aQ hr
   ·cases h
  |19,x,h=>
   simp only[U0,of0]at h;split at h
   ·rename_i r hr;cases h;exact aQ hr
   ·cases h
  |20,x,h=>
   simp only[U0,of0]at h;split at h
   ·rename_i r hr;cases h;exact aQ hr
   ·cases h
  |21,x,h=>
   simp only[U0,of0]at h;split at h
   ·rename_i r hr;cases h;exact aQ hr
   ·cases h
  |22,x,h=>
   simp only[U0,of0]at h;split at h
   ·rename_i r hr;cases h;exact aQ hr
   ·cases h
  |23,x,h=>
   simp only[U0,of0]at h;split at h
   ·rename_i r hr;cases h;exact aQ hr
   ·cases h
  |24,x,h=>
   simp only[U0,of0]at h;split at h
   ·rename_i r hr;cases h;exact aQ hr
   ·cases h
  |25,x,h=>
   simp only[U0,of0]at h;split at h
   ·rename_i r hr;cases h;exact aQ hr
   ·cases h
  |k+26,x,h=>
   simp only[U0,of0]at h;split at h
   ·rename_i r hr;cases h;exact aQ hr
   ·cases h
 en:=fun n=>match n with|0=>enl_0|1=>enl_1|2=>enl_2|3=>enl_3|4=>enl_4|5=>enl_5|6=>enl_6|7=>enl_7|8=>enl_8|9=>enl_9|10=>enl_10|11=>enl_11|12=>enl_12|13=>enl_13|14=>enl_14|15=>enl_15|16=>enl_16|17=>enl_17|18=>enl_18|19=>enl_19|20=>enl_20|21=>enl_21|22=>enl_22|23=>enl_23|24=>enl_24|25=>enl_25|k+26=>enl_26 k
 len:=fun n=>match n with|0=>len_0|1=>mI|2=>len_2|3=>yL|4=>len_4|5=>len_5|6=>len_6|7=>len_7|8=>len_8|9=>len_9|10=>len_10|11=>len_11|12=>len_12|13=>len_13|14=>len_14|15=>len_15|16=>len_16|17=>len_17|18=>len_18|19=>len_19|20=>len_20|21=>len_21|22=>len_22|23=>len_23|24=>len_24|25=>len_25|k+26=>len_26 k
 sz:=fun n=>match n with|0=>by kernel_rfl|1=>by kernel_rfl|2=>by kernel_rfl|3=>by kernel_rfl|4=>by kernel_rfl|5=>by kernel_rfl|6=>by kernel_rfl|7=>by kernel_rfl|8=>by kernel_rfl|9=>by kernel_rfl|10=>by kernel_rfl|11=>by kernel_rfl|12=>by kernel_rfl|13=>by kernel_rfl|14=>by kernel_rfl|15=>by kernel_rfl|16=>by kernel_rfl|17=>by kernel_rfl|18=>by kernel_rfl|19=>by kernel_rfl|20=>by kernel_rfl|21=>by kernel_rfl|22=>by kernel_rfl|23=>by kernel_rfl|24=>by kernel_rfl|25=>by kernel_rfl|k+26=>by kernel_rfl
 zc:=fun n=>match n with|0=>by kernel_rfl|1=>by kernel_rfl|2=>by kernel_rfl|3=>by kernel_rfl|4=>by kernel_rfl|5=>by kernel_rfl|6=>by kernel_rfl|7=>by kernel_rfl|8=>by kernel_rfl|9=>by kernel_rfl|10=>by kernel_rfl|11=>by kernel_rfl|12=>by kernel_rfl|13=>by kernel_rfl|14=>by kernel_rfl|15=>by kernel_rfl|16=>by kernel_rfl|17=>by kernel_rfl|18=>by kernel_rfl|19=>by kernel_rfl|20=>by kernel_rfl|21=>by kernel_rfl|22=>by kernel_rfl|23=>by kernel_rfl|24=>by kernel_rfl|25=>by kernel_rfl|k+26=>by kernel_rfl
 nz:=fun n=>match n with|0=>by kernel_rfl|1=>by kernel_rfl|2=>by kernel_rfl|3=>by kernel_rfl|4=>by kernel_rfl|5=>by kernel_rfl|6=>by kernel_rfl|7=>by kernel_rfl|8=>by kernel_rfl|9=>by kernel_rfl|10=>by kernel_rfl|11=>by kernel_rfl|12=>by kernel_rfl|13=>by kernel_rfl|14=>by kernel_rfl|15=>by kernel_rfl|16=>by kernel_rfl|17=>by kernel_rfl|18=>by kernel_rfl|19=>by kernel_rfl|20=>by kernel_rfl|21=>by kernel_rfl|22=>by kernel_rfl|23=>by kernel_rfl|24=>by kernel_rfl|25=>by kernel_rfl|k+26=>by kernel_rfl
 zero:=fun n=>match n with|0=>by kernel_rfl|1=>by kernel_rfl|2=>by kernel_rfl|3=>by kernel_rfl|4=>by kernel_rfl|5=>by kernel_rfl|6=>by kernel_rfl|7=>by kernel_rfl|8=>by kernel_rfl|9=>by kernel_rfl|10=>by kernel_rfl|11=>by kernel_rfl|12=>by kernel_rfl|13=>by kernel_rfl|14=>by kernel_rfl|15=>by kernel_rfl|16=>by kernel_rfl|17=>by kernel_rfl|18=>by kernel_rfl|19=>by kernel_rfl|20=>by kernel_rfl|21=>by kernel_rfl|22=>by kernel_rfl|23=>by kernel_rfl|24=>by kernel_rfl|25=>by kernel_rfl|k+26=>by kernel_rfl
 lt:=fun n=>match n with|0=>by kernel_rfl|1=>by kernel_rfl|2=>by kernel_rfl|3=>by kernel_rfl|4=>by kernel_rfl|5=>by kernel_rfl|6=>by kernel_rfl|7=>by kernel_rfl|8=>by kernel_rfl|9=>by kernel_rfl|10=>by kernel_rfl|11=>by kernel_rfl|12=>by kernel_rfl|13=>by kernel_rfl|14=>by kernel_rfl|15=>by kernel_rfl|16=>by kernel_rfl|17=>by kernel_rfl|18=>by kernel_rfl|19=>by kernel_rfl|20=>by kernel_rfl|21=>by kernel_rfl|22=>by kernel_rfl|23=>by kernel_rfl|24=>by kernel_rfl|25=>by kernel_rfl|k+26=>by kernel_rfl
 ltl:=fun n=>match n with|0=>by kernel_rfl|1=>by kernel_rfl|2=>by kernel_rfl|3=>by kernel_rfl|4=>by kernel_rfl|5=>by kernel_rfl|6=>by kernel_rfl|7=>by kernel_rfl|8=>by kernel_rfl|9=>by kernel_rfl|10=>by kernel_rfl|11=>by kernel_rfl|12=>by kernel_rfl|13=>by kernel_rfl|14=>by kernel_rfl|15=>by kernel_rfl|16=>by kernel_rfl|17=>by kernel_rfl|18=>by kernel_rfl|19=>by kernel_rfl|20=>by kernel_rfl|21=>by kernel_rfl|22=>by kernel_rfl|23=>by kernel_rfl|24=>by kernel_rfl|25=>by kernel_rfl|k+26=>by kernel_rfl
 gd:=fun n=>match n with|0=>gd_0|1=>aDS|2=>gd_2|3=>gd_3|4=>gd_4|5=>gd_5|6=>gd_6|7=>gd_7|8=>gd_8|9=>gd_9|10=>gd_10|11=>gd_11|12=>gd_12|13=>gd_13|14=>gd_14|15=>gd_15|16=>gd_16|17=>gd_17|18=>gd_18|19=>gd_19|20=>gd_20|21=>gd_21|22=>gd_22|23=>gd_23|24=>gd_24|25=>gd_25|k+26=>gd_26 k
 pos:=fun n=>match n with|0=>by show 1≤2;omega|1=>by show 1≤2;omega|2=>by show 1≤7;omega|3=>by show 1≤11;omega|4=>by show 1≤4;omega|5=>by show 1≤34;omega|6=>by show 1≤13;omega|7=>by show 1≤13;omega|8=>by show 1≤37;omega|9=>by show 1≤2;omega|10=>by show 1≤15;omega|11=>by show 1≤10;omega|12=>by show 1≤3;omega|13=>by show 1≤2;omega|14=>by show 1≤14;omega|15=>by show 1≤33;omega|16=>by show 1≤32;omega|17=>by show 1≤9;omega|18=>by show 1≤2;omega|19=>by show 1≤3;omega|20=>by show 1≤2;omega|21=>by show 1≤2;omega|22=>by show 1≤5;omega|23=>by show 1≤4;omega|24=>by show 1≤3;omega|25=>by show 1≤2;omega|k+26=>by show 1≤1;omega
end Go.TV
namespace Go.AI
section
variable{P:Program}
theorem aGg{α:Type}{c:Prop}[Decidable c]{a b:Sem α}:aO P (if c then a else b)=if c then aO P a else aO P b:=by split<;>rfl
theorem pZ{d:Nat}{t:TypeId}{fs:Array Field}{xs ys:Array Value}(ht:P.underlying t=some (.struct fs))(hp:P.stoodInHeld t=false):
    aO P (Op.equalIn (d+1) t (.agg xs) (.agg ys))=aO P (Op.eqFields d xs ys fs.toList):=by
 rw[Op.equalIn.eq_2,aA,aD,ht];simp only[obS];rw[aA];have:aO P program=some P:=rfl;rw[this];simp only[obS,hp,Bool.false_eq_true,if_false];rw[←Array.forIn_toList];generalize fs.toList=l;clear ht;induction l with
 |nil=>simp[Op.eqFields,aA,aC]
 |cons f l ih=>
  simp only[List.forIn_cons,Op.eqFields,aA,aGg];split
  ·cases aO P (part f.type xs f.offset)with
   |none=>rfl
   |some a=>
    cases aO P (part f.type ys f.offset)with
    |none=>rfl
    |some b=>
     simp only[obS];cases aO P (Op.equalIn d f.type a b)with
     |none=>rfl
     |some r=>
      cases r with
      |false=>simp[aC]
      |true=>
       simp only[obS,bnT,Bool.false_eq_true,if_false,aC];simpa only[aA]using ih
  ·simp only[aC,obS];simpa only[aA]using ih
theorem abin_eql{t:TypeId}{x y:Operand}{xs ys:Array Value}{r:Bool}(h1:xs.toList.all aB=true)(h2:ys.toList.all aB=true)(hg:aO P (eqGuard .eql t x y (.agg xs) (.agg ys))=some ())(he:aO P (Op.equal t (.agg xs) (.agg ys))=some r):
    gQ P .eql t x y (.agg xs) (.agg ys)=some (.bool r):=by
 simp only[gQ,aH,h1,h2,Bool.and_self,cdt,aL,aA,hg,obS,binOp,he,aC,aB]
theorem abin_neq{t:TypeId}{x y:Operand}{xs ys:Array Value}{r:Bool}(h1:xs.toList.all aB=true)(h2:ys.toList.all aB=true)(hg:aO P (eqGuard .neq t x y (.agg xs) (.agg ys))=some ())(he:aO P (Op.equal t (.agg xs) (.agg ys))=some r):
    gQ P .neq t x y (.agg xs) (.agg ys)=some (.bool (!r)):=by
 simp only[gQ,aH,h1,h2,Bool.and_self,cdt,aL,aA,hg,obS,binOp,he,aC,aB]
end
end Go.AI
namespace Go.TV
open Go.AI Go.PI
def aHC:List (Nat×Ty)→Nat→Option Ty
 |[],_=>none
 |(k,t)::l,i=>bif Nat.beq k i then some t else aHC l i
theorem rC: ∀{l:List (Nat×Ty)} {i:Nat} {t:Ty},aHC l i=some t→(i,t)∈l
 |(k,t)::l,i,u,h=>by
  unfold aHC at h;cases hb:Nat.beq k i with
  |true=>rw[hb]at h;cases h;rw[nqE hb];exact mhE ..
  |false=>rw[hb]at h;exact mtE _ (rC h)
def findN:List (Nat×Nat)→Nat→Option Nat
 |[],_=>none
 |(k,t)::l,i=>bif Nat.beq k i then some t else findN l i
def eqPl:List (Nat×Nat)→List (Nat×Nat)→Bool
 |[],[]=>true
 |(a,b)::l,(c,d)::r=>Nat.beq a c&&Nat.beq b d&&eqPl l r
 |_,_=>false
theorem aHI: ∀{l r:List (Nat×Nat)},eqPl l r=true→l=r
 |[],[],_=>rfl
 |(a,b)::l,(c,d)::r,h=>by
  simp only[eqPl,bjE,cJ,djE]at h;rw[h.1.1,h.1.2,aHI h.2]
 |[],_::_,h=>by cases h
 |_::_,[],h=>by cases h
section
variable(P:Program)(T:TP U0.D)
def okFs:List Field→List Ty→Nat→Bool
 |[],[],_=>true
 |f::fs,t::ts,o=>(match T.T.ty f.type with|some u=>u.beq t|none=>false)&&Nat.beq f.offset o&&okFs fs ts (o+szT U0 t)
 |_,_,_=>false
def okUn(id:Nat)(t:Ty):Bool:=
 match t,P.underlying id with
 | .int k,some (.int j)=>decide (k=j)
 | .bool,some .bool=>true
 | .str,some .string=>true
 | .sl e,some (.slice i)=>(match T.T.ty i with|some u=>u.beq e|none=>false)&&(match T.el id with|some j=>Nat.beq i j|none=>false)
 | .rc n,some (.struct fs)=>okFs T fs.toList (U0.fs n) 0&&(match aO P (fs.mapM fun f=>do pure (f.offset,←Go.sizeOf f.type))with|some pl=>eqPl pl.toList (plcT U0 (U0.fs n) 0)|none=>false)
 | .rc n,_=>T.T.arr id
 |_,_=>false
def yD(x:Nat×Ty):Bool:=
 (match jA P x.1 with|some b=>(b==mT x.2)|none=>false)&&
 (match jD P x.1 with|some n=>Nat.beq n (szT U0 x.2)|none=>false)&&
 (match zeroCells P x.1 with|some z=>eqZ z (zcT U0 x.2)|none=>false)&&
 okUn P T x.1 x.2&&
 (match P.info? x.1 with
  |some i=>Nat.beq i.size (szT U0 x.2)&&Nat.beq i.bytes (T.T.by' x.1)&&Nat.ble 1 i.bytes&&(match i.zero with|some z=>Nat.beq z.cells.size i.size&&eqZ (ofVs z.cells.toList) (zcT U0 x.2)&&z.cells.toList.all aB|none=>false)
  |none=>false)
def okFn(id:Nat):Bool:=
 (match jA P id with|some b=> !b|none=>false)&&(match jD P id with|some n=>Nat.beq n 1|none=>false)&&(match zeroCells P id with|some z=>eqZ z [.v .nilFunc]|none=>false)
variable{P T}
theorem aG5: ∀{fs:List Field} {ts:List Ty} {o:Nat},okFs T fs ts o=true→fs.length=ts.length∧∀i f,fs[i]?=some f→T.T.ty f.type=ts[i]?∧f.offset=o+cC U0 (ts.take i)
 |[],[],o,_=>⟨rfl,fun i f h=>by simp at h⟩
 |f::fs,t::ts,o,h=>by
  simp only[okFs,bjE,cJ,djE]at h;obtain⟨⟨h1,h2⟩,h3⟩:=h;obtain⟨g1,g2⟩:=aG5 h3;refine⟨by rw[lcS,lcS,g1],fun i f' hf=>?_⟩
  cases i with
  |zero=>
   simp only[gcZ,ojE]at hf;subst hf;refine⟨?_,by rw[h2];simp[cC]⟩
   cases hu:T.T.ty f.type with
   |none=>rw[hu]at h1;cases h1
   |some u=>rw[hu]at h1;rw[Ty.beq_eq h1];rfl
  |succ i=>
   rw[gcS]at hf;obtain⟨k1,k2⟩:=g2 i f' hf;refine⟨by rw[k1,gcS],by rw[k2,List.take_succ_cons,cC,Nat.add_assoc]⟩
 |[],_::_,_,h=>by cases h
 |_::_,[],_,h=>by cases h
def okAr(P:Program)(T:TP U0.D)(id:TypeId):Bool:=match T.T.ty id with
 |some (.rc n)=>(match P.underlying id with
  |some (.array len e)=>(match U0.fs n with
   |te::_=>(match jD P e with|some z=>Nat.beq z (szT U0 te)|none=>false)&&Nat.beq (U0.fs n).length len&&(U0.fs n).all fun t=>t.beq te
   |[]=>false)
  |_=>false)
 |_=>true
theorem rep_of{te:Ty}: ∀{l:List Ty},(l.all fun t=>t.beq te)=true→l=List.replicate l.length te
 |[],_=>rfl
 |t::l,h=>by
  simp only[alC,bjE]at h;rw[lcS,List.replicate_succ,←rep_of h.2,Ty.beq_eq h.1]
theorem okAr_ok{P:Program}{T:TP U0.D}{id:TypeId}{n:Nat}(h:okAr P T id=true)(ht:T.T.ty id=some (.rc n)): ∃len e te,P.underlying id=some (.array len e)∧jD P e=some (szT U0 te)∧U0.fs n=List.replicate len te:=by
 unfold okAr at h;rw[ht]at h;simp only at h;split at h
 ·rename_i len e hu;split at h
  ·rename_i te l hf;simp only[bjE]at h;obtain⟨⟨h1,h2⟩,h3⟩:=h;refine⟨len,e,te,hu,?_,?_⟩
   ·split at h1
    ·rename_i z hz;rw[hz,nqE h1]
    ·cases h1
   ·have:=rep_of h3;rw[nqE h2]at this;exact this
  ·cases h
 ·cases h
theorem tt_ok{l:List (Nat×Ty)}(hl:T.T.ty=aHC l)(h:l.all (yD P T)=true)(hfn: ∀id,T.T.fn id=true→okFn P id=true)(harr: ∀id,T.T.arr id=true→∀fs,P.underlying id≠some (.struct fs))(har: ∀id,T.T.arr id=true→okAr P T id=true)
    (heq: ∀id n f,T.T.ty id=some (.rc n)→U0.eq n=some f→∀(x y:U0.D n) (a b:Operand),
      pA P .eql id a b (.agg (U0.en n x)) (.agg (U0.en n y))=some (.v (.bool (f x y)))∧pA P .neq id a b (.agg (U0.en n x)) (.agg (U0.en n y))=some (.v (.bool (!f x y)))):uH P U0 T:=by
 have one: ∀id t,T.T.ty id=some t→yD P T (id,t)=true:=fun id t ht=>List.all_eq_true.1 h _ (rC (by rw[←hl];exact ht))
 have un: ∀id t,T.T.ty id=some t→okUn P T id t=true:=fun id t ht=>by
  have:=one id t ht;simp only[yD,bjE]at this;exact this.1.2
 refine⟨fun id t ht=>?_,fun id t ht=>?_,fun id t ht=>?_,fun id t ht=>?_,fun id hf=>?_,fun id t ht=>?_,fun id n ht ha=>?_,fun id n ht ha=>?_,heq⟩
 ·have:=one id t ht;simp only[yD,bjE]at this;have h1:=this.1.1.1.1;split at h1
  ·rename_i b hb;rw[hb];rw[eq_of_beq h1]
  ·cases h1
 ·have:=one id t ht;simp only[yD,bjE]at this;have h1:=this.1.1.1.2;split at h1
  ·rename_i b hb;rw[hb];rw[nqE h1]
  ·cases h1
 ·have h1:=un id t ht;unfold okUn at h1;split at h1
  ·rename_i k j hj;rw[of_decide_eq_true h1];exact hj
  ·rename_i hj;exact hj
  ·rename_i hj;exact hj
  ·rename_i e i hj;simp only[bjE]at h1;obtain⟨h2,h3⟩:=h1;refine⟨i,hj,?_,?_⟩
   ·split at h2
    ·rename_i u hu;rw[hu,Ty.beq_eq h2]
    ·cases h2
   ·split at h3
    ·rename_i j hj2;rw[hj2,nqE h3]
    ·cases h3
  ·rename_i n fs hj;simp only[bjE]at h1;obtain⟨g1,g2⟩:=aG5 h1.1;intro _;refine⟨fs,hj,by simpa using g1,fun i f hf=>?_⟩
   obtain⟨k1,k2⟩:=g2 i f (by rw[Array.getElem?_toList];exact hf)
   exact⟨k1,by rw[k2,Nat.zero_add];rfl⟩
  ·rename_i n _ _;intro ha;rw[h1]at ha;cases ha
  ·cases h1
 ·have:=one id t ht;simp only[yD,bjE]at this;have h1:=this.1.1.2;split at h1
  ·rename_i b hb;rw[hb,aD1 h1]
  ·cases h1
 ·have h1:=hfn id hf;simp only[okFn,bjE]at h1;obtain⟨⟨h1,h2⟩,h3⟩:=h1;refine⟨?_,?_,?_⟩
  ·split at h1
   ·rename_i b hb;rw[hb];simpa using h1
   ·cases h1
  ·split at h2
   ·rename_i b hb;rw[hb,nqE h2]
   ·cases h2
  ·split at h3
   ·rename_i b hb;rw[hb,aD1 h3]
   ·cases h3
 ·have:=one id t ht;simp only[yD,bjE]at this;have h1:=this.2;split at h1
  ·rename_i i hi;simp only[bjE]at h1;obtain⟨⟨⟨h1,h2⟩,h3⟩,h4⟩:=h1;split at h4
   ·rename_i z hz;simp only[bjE]at h4;exact⟨i,z,hi,nqE h1,nqE h2,by rwa [Nat.ble_eq]at h3,hz,nqE h4.1.1,aD1 h4.1.2,h4.2⟩
   ·cases h4
  ·cases h1
 ·have h1:=un id _ ht;unfold okUn at h1;split at h1
  ·rename_i e _;cases e
  ·rename_i e _;cases e
  ·rename_i e _;cases e
  ·rename_i e _;cases e
  ·rename_i n' fs e hj;cases e;simp only[bjE]at h1;have h2:=h1.2;split at h2
   ·rename_i pl hpl;exact⟨fs,pl,hj,hpl,aHI h2⟩
   ·cases h2
  ·rename_i e _ _;rw[h1]at ha;cases ha
  ·cases h1
 ·exact okAr_ok (har id ha) ht
end
section
variable{P:Program}{t:TypeId}
theorem eq_str(s u:List UInt8):((⟨s.toArray⟩:ByteArray)==⟨u.toArray⟩)=decide (s=u):=by
 show(s.toArray==u.toArray)=_;by_cases h:s=u
 ·subst h;simp
 ·simp[h]
theorem oN{d:Nat}{t:TypeId}{s u:List UInt8}(h:P.underlying t=some .string):aO P (Op.equalIn (d+1) t (kL s) (kL u))=some (decide (s=u)):=by
 rw[Op.equalIn.eq_2,aA,aD,h,←eq_str];rfl
theorem sym_eq{ft:TypeId}{fs:Array Field}{f g:Field}(ht:P.underlying t=some (.struct fs))(hp:P.stoodInHeld t=false)(hs:P.underlying ft=some .string)(hz:jA P ft=some false)
    (hf : fs.toList = [f, g]) (h1 : f.name ≠ "_") (h2 : g.name ≠ "_") (e1 : f.type = ft) (e2 : g.type = ft) (o1 : f.offset = 0) (o2 : g.offset = 1) (s u : G.Y) :
    aO P (Op.equal t (.agg #[kL s.package,kL s.name]) (.agg #[kL u.package,kL u.name]))=some (decide (s=u)):=by
 unfold Op.equal;rw[show Op.maxDepth=9998+1+1 from rfl,pZ ht hp,hf]
 have hpt: ∀(a b:Value) (k:Nat) (v:Value), #[a,b][k]?=some v→aO P (part ft #[a,b] k)=some v:=by
  intro a b k v hk;unfold part;rw[aA];have hagg:aO P (Go.isAgg ft)=some false:=by
   simp only[Go.isAgg,aA,aD];unfold jA at hz;cases hu:P.underlying ft with
   |none=>rw[hu]at hz;cases hz
   |some d=>
    rw[hu]at hz;simp only[omS,ojE]at hz;cases d<;>first|rfl|simp at hz
  rw[hagg];simp only[obS,Bool.false_eq_true,if_false,hk,aC]
 have h0:=fun(x y:Value)=>hpt x y 0 x (by simp)
 have h3:=fun(x y:Value)=>hpt x y 1 y (by simp)
 simp only[Op.eqFields,h1,h2,e1,e2,o1,o2,ne_eq,not_false_eq_true,if_true,aA,h0,h3,obS];rw[oN hs,obS];cases s with|mk sp sn=>
 cases u with|mk up un=>
 simp only[G.Y.mk.injEq]at*;by_cases c1:sp=up
 ·simp only[c1,decide_true,bnT,Bool.false_eq_true,if_false,aA,h3,obS];rw[oN hs,obS];by_cases c2:sn=un<;>simp[c2,aC]
 ·simp[c1,aC]
theorem aDp{ft:TypeId}{fs:Array Field}{f g:Field}(ht:P.underlying t=some (.struct fs))(hp:P.stoodInHeld t=false)(hs:P.underlying ft=some .string)(hz:jA P ft=some false)(hg:P.eqGuardType P.depth t=false)
    (hf : fs.toList = [f, g]) (h1 : f.name ≠ "_") (h2 : g.name ≠ "_") (e1 : f.type = ft) (e2 : g.type = ft) (o1 : f.offset = 0) (o2 : g.offset = 1) (s u : G.Y) (a b : Operand) :
    pA P .eql t a b (.agg (G.eSymbol s)) (.agg (G.eSymbol u))=some (.v (.bool (decide (s=u))))∧pA P .neq t a b (.agg (G.eSymbol s)) (.agg (G.eSymbol u))=some (.v (.bool (!decide (s=u)))):=by
 have he:=sym_eq ht hp hs hz hf h1 h2 e1 e2 o1 o2 s u;have hag: ∀op,pA P op t a b (.agg (G.eSymbol s)) (.agg (G.eSymbol u))=(gQ P op t a b (.agg #[kL s.package,kL s.name]) (.agg #[kL u.package,kL u.name])).map ofV:=fun op=>by
  simp only[pA,G.eSymbol,sgA,toV,toVs,sO,omS,gQ,kL,aH,aB,alC,List.all_nil,Bool.and_self,cdt]
 have hg1: ∀op,op=BinOp.eql∨op= .neq→aO P (eqGuard op t a b (.agg #[kL s.package,kL s.name]) (.agg #[kL u.package,kL u.name]))=some ():=by
  intro op hop;have hprog:aO P program=some P:=rfl;rcases hop with rfl|rfl<;>simp only[eqGuard,bnT,Bool.false_eq_true,if_false,aA,hprog,obS,hg,Bool.not_false,if_true,aC]
 constructor
 ·rw[hag,abin_eql (by simp[kL,aB]) (by simp[kL,aB]) (hg1 _ (.inl rfl)) he];rfl
 ·rw[hag,abin_neq (by simp[kL,aB]) (by simp[kL,aB]) (hg1 _ (.inr rfl)) he];rfl
end
end Go.TV
namespace Go.TV
open Go.AI Go.PI Go.Proofs
set_option maxRecDepth 20000
def tyL:List (Nat×Ty):=[(2,i6),(3,i6),(4,.bool),(5,(.int .u8)),(6,(.int .u8)),(9,.str),(10,.str),(11,.str),(12,(.int .u64)),(21,(.int .i32)),(22,(.sl (.int .u8))),(24,(zS 16)),(26,(.int .u32)),(28,(.rc 0)),(29,(.rc 0)),(30,(.rc 1)),(31,(.rc 1)),(32,(zS 2)),(33,(.rc 2)),(34,(.rc 2)),(35,(zS 3)),(36,(.rc 3)),(37,(.rc 3)),(44,(zS 17)),(51,(zS 1)),(55,(.sl .str)),(56,i6),(57,(zS 4)),(58,(.rc 5)),(59,(.rc 5)),(60,(.rc 4)),(61,(zS 6)),(64,(.rc 6)),(65,(.rc 6)),(67,(.rc 7)),(68,(.rc 7)),(69,(zS 7)),(71,i6),(79,(.sl (zS 8))),(81,(.rc 8)),(82,(.rc 8)),(83,(zS 8)),(84,(.rc 9)),(85,(.rc 9)),(86,(.rc 10)),(87,(.rc 10)),(88,(.sl (zS 15))),(89,(zS 11)),(90,(.rc 12)),(91,(.rc 12)),(92,(zS 5)),(93,(.int .u64)),(94,(.rc 16)),(95,(.rc 16)),(101,(.rc 17)),(102,(.rc 17)),(142,(.rc 18)),(143,(.rc 18)),(148,(.rc 19)),(151,(.sl i6)),(160,(.rc 20)),(161,(.rc 20)),(164,(zS 9)),(183,(zS 21)),(185,(.rc 21)),(186,(.rc 21)),(194,(zS 22)),(198,(.rc 23)),(199,(.rc 23)),(200,(.rc 22)),(201,(.rc 22)),(206,(.rc 24)),(207,(.rc 24)),(265,(.sl (.int .u32))),(266,(.rc 25)),(267,(.rc 25)),(296,(.int .u64)),(302,i6),(315,(.rc 26)),(316,(.rc 26)),(323,(.int .u8)),(324,(.int .u8)),(326,(.int .i32)),(327,(.int .i32)),(330,(zS 15)),(331,(.rc 11)),(332,(.rc 11)),(333,(zS 3)),(334,(zS 13)),(335,(zS 14)),(336,(.rc 15)),(337,(.rc 15)),(338,(.sl (zS 6))),(339,(.rc 13)),(340,(.rc 13)),(341,(.rc 14)),(342,(.rc 14))]
def byL:List (Nat×Nat):=[(2,8),(3,8),(4,1),(5,1),(6,1),(9,16),(10,16),(11,16),(12,8),(21,4),(22,24),(24,24),(26,4),(28,32),(29,32),(30,32),(31,32),(32,24),(33,112),(34,112),(35,24),(36,176),(37,176),(44,24),(51,24),(55,24),(56,8),(57,24),(58,544),(59,544),(60,64),(61,24),(64,208),(65,208),(67,200),(68,200),(69,24),(71,8),(79,24),(81,592),(82,592),(83,24),(84,40),(85,40),(86,240),(87,240),(88,24),(89,24),(90,56),(91,56),(92,24),(93,8),(94,568),(95,568),(101,144),(102,144),(142,32),(143,32),(148,24),(151,24),(160,16),(161,16),(164,24),(183,24),(185,24),(186,24),(194,24),(198,72),(199,72),(200,64),(201,64),(206,56),(207,56),(265,24),(266,32),(267,32),(296,8),(302,8),(315,16),(316,16),(323,1),(324,1),(326,4),(327,4),(330,24),(331,152),(332,152),(333,24),(334,24),(335,24),(336,552),(337,552),(338,24),(339,48),(340,48),(341,232),(342,232)]
def elL:List (Nat×Nat):=[(22,5),(24,95),(32,34),(35,37),(44,102),(51,31),(55,9),(57,60),(61,65),(69,68),(79,83),(83,82),(88,330),(89,332),(92,59),(151,3),(164,85),(183,186),(194,201),(265,26),(330,337),(333,37),(334,340),(335,342),(338,61)]
def fnL:List Nat:=[1,23,25,38,40,41,42,43,45,47,48,49,50,52,53,54,62,63,66,70,73,74,75,76,77,78,80,96,97,98,99,100,104,105,106,107,108,109,111,112,113,114,116,117,119,120,121,122,123,124,125,126,127,129,130,131,133,134,135,136,137,138,139,140,145,146,147,149,150,153,154,155,156,157,158,159,163,165,166,168,170,172,173,175,176,177,179,180,181,182,184,187,188,189,190,191,192,193,196,202,204,208,210,212,214,215,216,217,218,219,220,221,222,223,224,226,228,229,230,232,234,235,236,237,238,239,240,242,243,244,245,246,248,249,250,251,253,254,255,257,259,260,261,262,263,264,268,269,271,272,273,274,276,277,279,283,284,286,290,292,293,297,298,300,301,303,305,306,308,313,322,325]
def arL:List Nat:=[60,148]
def tt0:TT:=⟨aHC tyL,fun i=>(findN byL i).getD 0,fun i=>bL i fnL,fun i=>bL i arL⟩
def tp0(o:Orc)(sig:Nat→Option Sig):TP U0.D:=⟨tt0,findN elL,sig,o⟩
theorem ty_all(o:Orc)(sig:Nat→Option Sig):tyL.all (yD Tryz.prog (tp0 o sig))=true:=by kernel_rfl
theorem fn_all:fnL.all (okFn Tryz.prog)=true:=by kernel_rfl
def isSt(P:Program)(i:Nat):Bool:=match P.underlying i with|some (.struct _)=>true|_=>false
theorem ar_all:arL.all (fun i=> !isSt Tryz.prog i)=true:=by kernel_rfl
theorem ar2_all(o:Orc)(sig:Nat→Option Sig):arL.all (okAr Tryz.prog (tp0 o sig))=true:=by kernel_rfl
theorem sy_all:(tyL.all fun x=>match x.2 with| .rc n=>(match U0.eq n with|some _=>bL x.1 [30,31]|none=>true)|_=>true)=true:=by kernel_rfl
theorem ttOK(o:Orc)(sig:Nat→Option Sig):uH Tryz.prog U0 (tp0 o sig):=by
 refine tt_ok (l:=tyL) rfl (ty_all o sig) (fun id h=>?_) (fun id h fs e=>?_) (fun id h=>List.all_eq_true.1 (ar2_all o sig) _ (eS.1 h)) (fun id n f h1 h2=>?_)
 ·exact List.all_eq_true.1 fn_all _ (eS.1 h)
 ·have:=List.all_eq_true.1 ar_all _ (eS.1 h);simp only[isSt,e]at this;cases this
 ·have h3:=List.all_eq_true.1 sy_all _ (rC h1);simp only[h2]at h3;have hn:n=1:=by
   match n,f,h2 with
   |0,f,h2=>first|rfl|cases h2
   |1,f,h2=>first|rfl|cases h2
   |2,f,h2=>first|rfl|cases h2
   |3,f,h2=>first|rfl|cases h2
   |4,f,h2=>first|rfl|cases h2
   |5,f,h2=>first|rfl|cases h2
   |6,f,h2=>first|rfl|cases h2
   |7,f,h2=>first|rfl|cases h2
   |8,f,h2=>first|rfl|cases h2
   |9,f,h2=>first|rfl|cases h2
   |10,f,h2=>first|rfl|cases h2
   |11,f,h2=>first|rfl|cases h2
   |12,f,h2=>first|rfl|cases h2
   |13,f,h2=>first|rfl|cases h2
   |14,f,h2=>first|rfl|cases h2
   |15,f,h2=>first|rfl|cases h2
   |16,f,h2=>first|rfl|cases h2
   |17,f,h2=>first|rfl|cases h2
   |18,f,h2=>first|rfl|cases h2
   |19,f,h2=>first|rfl|cases h2
   |20,f,h2=>first|rfl|cases h2
   |21,f,h2=>first|rfl|cases h2
   |22,f,h2=>first|rfl|cases h2
   |23,f,h2=>first|rfl|cases h2
   |24,f,h2=>first|rfl|cases h2
   |25,f,h2=>first|rfl|cases h2
   |k+26,f,h2=>first|rfl|cases h2
  subst hn;cases h2;intro x y a b;have hm:=eS.1 h3;simp only[List.mem_cons,List.not_mem_nil,or_false]at hm;rcases hm with rfl|rfl
  ·exact aDp (ft:=9) Tryz.underlying30 (by kernel_rfl) (by kernel_rfl) (by kernel_rfl) (by kernel_rfl) rfl (by decide) (by decide) rfl rfl rfl rfl x y a b
  ·exact aDp (ft:=9) Tryz.underlying31 (by kernel_rfl) (by kernel_rfl) (by kernel_rfl) (by kernel_rfl) rfl (by decide) (by decide) rfl rfl rfl rfl x y a b
end Go.TV
namespace Go.TV
open Go.AI Go.PI
def at_:TC→List Nat→TC
 |c,[]=>c
 | .seq a _,0::l=>at_ a l
 | .seq _ b,_::l=>at_ b l
 | .cond _ a _,0::l=>at_ a l
 | .cond _ _ b,_::l=>at_ b l
 | .block _ c,_::l=>at_ c l
 | .loop _ c,_::l=>at_ c l
 | .scope c,_::l=>at_ c l
 | .cut _ c,_::l=>at_ c l
 | .ice _ c,_::l=>at_ c l
 |c,_=>c
abbrev TVs:=List (TV U0.D)
abbrev Rt:=Option TVs
abbrev TC0:=lO U0.D
abbrev Kt:=TK U0.D TVs
structure Cu where
 D:DT U0 TVs
 E:DT U0 TVs
theorem iG(ct:Cut){f g:TS U0.D→TM U0.D→Rt}(h: ∀S M,f S M=g S M)(d:TVs):nN U0 ct f d=nN U0 ct g d:=by
 have:f=g:=by funext S M;exact h S M
 rw[this]
end Go.TV
namespace Go.Rf
open Go.AI Go.Proofs
def mkO (d : Option Nat) (op : Op) (t : TypeId) : Oper := { dst := d, op := op, type := t, pos := "", after := #[], guard := none }
theorem kU(S:Slots)(k j:Nat)(v:Value):Slots.at (Tr.set S k v) j=if j=k then v else S.at j:=by
 unfold Slots.at;rw[Tr.get_set];split<;>rfl
theorem at_store(S:Slots)(k j:Nat)(v:Value):Slots.at (S.store (some k) v) j=if j=k then v else S.at j:=kU S k j v
theorem aDB:Tryz.prog.toTables.follows .mixedOrders=true:=by kernel_rfl
end Go.Rf
namespace Go.AI
variable{P:Program}
def aFE(w0:W0)(P:Program)(f:FuncId)(fn:Func)(c:Code):Prop:=
 ∀(call:FuncId→Array Value→St→Option (Value×St)) (L:Nat) (args:Array Value) (σ σ':St) (r:Value),
  aCp P f args.size=true→bT P fn (aS P call L c (gF args.toList 0 .nil) σ)=some (r,σ')→
  args.toList.all aB=true∧(∃n,σ.next≤n∧σ'={σ with next:=n})∧∃r',(∀μ,VR μ r r')∧
   ∀w,Kept w0.toWorld w→Calls P f args w fun e w'=>e= .returned r'∧Kept w w'
theorem jI {w0 : W0} {f : FuncId} {fn : Func} {c : Code} (h1 : ∃ fn c, P.funcs[f]? = some fn ∧ fn.body = some c ∧ (fn.name == "runtime.NumGoroutine") = false)
    (h2:aFE w0 P f fn c):aJq w0 P f fn c:=by
 refine⟨h1,?_⟩;intro call L hcall args args' σ σ' w μ r h Z hargs har;obtain⟨hp,⟨n,hn,rfl⟩,r',hr,hc⟩:=h2 call L args σ σ' r har h;have e:args'.toList=args.toList:=hargs.eq0 hp;have e':args'=args:=by rw[←Array.toArray_toList (xs:=args'),e]
 subst e';exact(hc w Z.kept.toKept).mono fun e w' ⟨h5,h6⟩=>⟨μ,r',h5,hr μ,(Z.keep h6).next hn,.refl _ _,hn⟩
def kK(C:Program)(f:FuncId)(fn:Func):Program:={C with funcs:=⟨C.funcs.toList.set f fn⟩}
theorem lW{C:Program}{f g:FuncId}{fn fn':Func}(h:(kK C f fn).funcs[g]?=some fn'):(g=f∧fn'=fn)∨C.funcs[g]?=some fn':=by
 have h1:(C.funcs.toList.set f fn)[g]?=some fn':=by simpa [kK]using h
 by_cases e:g=f
 ·subst e;left;rw[List.getElem?_set]at h1;simp only[if_true]at h1;split at h1
  ·exact⟨rfl,(Option.some.inj h1).symm⟩
  ·cases h1
 ·right;rw[List.getElem?_set,if_neg (Ne.symm e)]at h1;simpa using h1
theorem lV{w0:W0}{C:Program}{f:FuncId}{fn:Func}{c:Code}(hC:kV w0 P C)(hb:fn.body=some c)(hr:aJq w0 P f fn c):kV w0 P (kK C f fn):=by
 intro g fn' c' h1 h2;rcases lW h1 with⟨rfl,rfl⟩|h3
 ·right;rw[hb]at h2;cases h2;exact hr
 ·exact hC g fn' c' h3 h2
end Go.AI
namespace Go.AI
variable{P:Program}
def stK(P:Program):St:=⟨.nil,.nil,P.globals.size⟩
def muK(P:Program):Mp:=fun id=>if id<P.globals.size then some ⟨id,0,0,0⟩else none
theorem muK_lt{id:Nat}{p:Place}(h:muK P id=some p):id<P.globals.size∧p.b=id:=by
 unfold muK at h;split at h
 ·cases h;exact⟨‹_›,rfl⟩
 ·cases h
theorem yY(id:Nat):(stK P).get id=none:=rfl
theorem simK{w:World}(hg:P.globals.size≤w.heap.size):Sim (W0.of w) P (muK P) (stK P) w where
 kept:=KeptO.refl fun id p h=>by obtain⟨h1,h2⟩:=muK_lt h;omega
 dom id h:=by
  unfold muK;rw[if_neg (show¬id<P.globals.size from by have:P.globals.size≤id:=h;omega)]
 glob g h:=⟨⟨g,0,0,0⟩,by unfold muK;rw[if_pos h],rfl,rfl⟩
 row id p cs m _ h:=by rw[yY]at h;cases h
 map id p es _ h:=by rw[yY]at h;cases h
 off i j p q cs ds m n _ _ _ h:=by rw[yY]at h;cases h
 tip i j p q cs ds m n _ _ _ h:=by rw[yY]at h;cases h
 maps i j p q es fs _ _ _ h:=by rw[yY]at h;cases h
 vers id cs m g v h:=by rw[yY]at h;cases h
 lim i j p q cs ds m n _ _ _ h:=by rw[yY]at h;cases h
theorem aCl{C:Program}(hfol:P.toTables.follows .mixedOrders=true){w:World}(hC: ∀w0:W0,w0.toWorld=w→kV w0 P C){O:Orc}(hO:aFD P w O)(hg:P.globals.size≤w.heap.size)
    {L n:Nat} {f:FuncId} {args:Array Value} {r:Value} {σ':St} (hrun:rR P C O L n f args (stK P)=some (r,σ')) (ha:args.toList.all aB=true) (hr:aB r=true):
    Calls P f args w fun e w'=>e= .returned r∧Kept w w':=by
 refine((pV hfol hC hO L n (W0.of w) rfl) f args args _ σ' w (muK P) r hrun (simK hg) (VRL.same ha)).2.mono ?_;rintro e w' ⟨μ',r',rfl,h2,Z,_,_⟩;exact⟨by rw[h2.eq0 hr],Z.kept.toKept⟩
end Go.AI
namespace Go.Rf
open Go.AI Go.Proofs
set_option maxRecDepth 100000
def sbO(d:Nat)(op:BinOp):Oper:=mkO (some d) (.binOp op 9 (.tmp 0) (.tmp 1) 9) 4
def esO(d k:Nat):Oper:=mkO (some d) (.binOp .eql 9 (.tmp k) (.const (.string ⟨#[]⟩)) 9) 4
def scA(v:Int):Code:= .seq (.region 1 #[mkO (some 4) (.assign (.const (.int .i64 v))) 3] false) .ret
def scT:Code:= .seq (.region 0 #[esO 6 0,esO 7 1,sbO 8 .eql,sbO 9 .lss] false) (.cond (.tmp 8) (scA 0) (.cond (.tmp 9) (scA (-1)) (scA 1)))
noncomputable def scF:Func:={Tryz.f193 with body:=some scT,ntmps:=10}
theorem e_eql(a b:ByteArray):aL Tryz.prog (do eqGuard .eql 9 (.tmp 0) (.tmp 1) (.string a) (.string b);binOp .eql 9 (.string a) (.string b))=some (.bool (a.toList==b.toList)):=by kernel_rfl
theorem e_lss(a b:ByteArray):aL Tryz.prog (do eqGuard .lss 9 (.tmp 0) (.tmp 1) (.string a) (.string b);binOp .lss 9 (.string a) (.string b))=some (.bool (Op.bytesLess a.toList b.toList)):=by kernel_rfl
theorem zV: ∀a b:List UInt8,Lib.compareBytes a b=if a==b then 0 else if Op.bytesLess a b then-1 else 1
 |[],[]=>rfl
 |[],_::_=>by simp[Lib.compareBytes,Op.bytesLess]
 |_::_,[]=>by simp[Lib.compareBytes,Op.bytesLess]
 |a::x,b::y=>by
  have ih:=zV x y;by_cases h1:a<b
  ·have hne: ¬a=b:=fun e=>by subst e;exact absurd h1 (UInt8.lt_irrefl _)
   simp[Lib.compareBytes,Op.bytesLess,h1,hne]
  ·by_cases h2:b<a
   ·have hne: ¬a=b:=fun e=>by subst e;exact absurd h2 (UInt8.lt_irrefl _)
    simp[Lib.compareBytes,Op.bytesLess,h1,h2,hne]
   ·have he:a=b:=UInt8.le_antisymm (UInt8.not_lt.1 h2) (UInt8.not_lt.1 h1);subst he;simp[Lib.compareBytes,Op.bytesLess,ih]
end Go.Rf
