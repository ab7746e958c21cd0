import Derived.Test.YtgfhobcfdppbdaaGreatDoorKf
import Derived.Test.YtgfhobcfdppbdaaGreatDoorProg
open Option renaming some->aa,none->ad
open Bool renaming true->ae,false->ah
open Decidable renaming decide->aj
open List renaming length->ak
open Nat renaming beq->am,ble->an
open Go renaming Value->au,TypeId->av,Program->aw,Operand->az
set_option linter.unusedVariables false
set_option linter.unusedSimpArgs false
set_option linter.constructorNameAsVariable false
set_option linter.defProp false
namespace Go.TV
open Go.AI Go.PI
def le{W:Type}(a b:Option W):Prop:= ∀r,a=aa r->b=aa r
def fQ{W:Type}{b:Option W}:le ad b:=λr h=>by cases h
def AU{W:Type}{b:Option W}:le b b:=λr h=>h
def iE{W:Type}{b:Bool}{A B A' B':Option W}(h1:le A A')(h2:le B B'):le (bR b A B) (bR b A' B'):=by cases b;exact h2;exact h1
def eP{W:Type}{b:Bool}{A B A' B':Option W}(h1:le A A')(h2:le B B'):le (bif b then A else B) (bif b then A' else B'):=by cases b;exact h2;exact h1
def iQ{W:Type}{b:Bool}{A A':Option W}(h:le A A'):le (jY b A) (jY b A'):=by cases b;exact fQ;exact h
def rI{N W:Type}{a:Option N}{K K':N->Option W}(h: ∀x,le (K x) (K' x)):le (ob a K) (ob a K'):=by cases a;exact fQ;exact h _
section
variable{U:hJ}{W:Type}
def aPd{op:BinOp}{k:IntKind}{a b:Int}{K K':V U->Option W}(h: ∀x,le (K x) (K' x)):le (aGZ U op k a b K) (aGZ U op k a b K'):=by
 unfold aGZ
 repeat' first|exact h _|exact fQ|apply eP|apply iQ|apply iE|split
def aXv{op:BinOp}{k:IntKind}{a b:Int}{K K':V U->Option W}(h: ∀x,le (K x) (K' x)):le (bAw U op k a b K) (bAw U op k a b K'):=by
 unfold bAw
 repeat' first|exact h _|exact fQ|apply eP|apply iQ|apply iE|split
def aNP{op:BinOp}{a b:List UInt8}{K K':V U->Option W}(h: ∀x,le (K x) (K' x)):le (aEa U op a b K) (aEa U op a b K'):=by
 unfold aEa
 repeat' first|exact h _|exact fQ|apply eP|apply iQ|apply iE|split
def aQP{op:BinOp}{t:Option Ty}{a b:SV U.D}{K K':V U->Option W}(h: ∀x,le (K x) (K' x)):le (aDd U op t a b K) (aDd U op t a b K'):=by
 unfold aDd
 repeat' first|exact h _|exact fQ|exact aPd h|exact aXv h|exact aNP h|apply eP|apply iQ|apply iE|split
def aWw{op:UnOp}{a:SV U.D}{K K':V U->Option W}(h: ∀x,le (K x) (K' x)):le (a8H U op a K) (a8H U op a K'):=by
 unfold a8H
 repeat' first|exact h _|exact h _ _|exact fQ|exact AU|apply eP|apply iQ|apply iE|(apply rI;intro x)|split
def aId{sq:Bool}{s d:Option Ty}{a:SV U.D}{K K':V U->Option W}(h: ∀x,le (K x) (K' x)):le (IN U sq s d a K) (IN U sq s d a K'):=by
 unfold IN
 repeat' first|exact h _|exact h _ _|exact fQ|exact AU|apply eP|apply iQ|apply iE|(apply rI;intro x)|split
def aF4{w:Bool}{a b:X U}{K K':X U->Option W}(h: ∀x,le (K x) (K' x)):le (HR U w a b K) (HR U w a b K'):=by
 unfold HR
 repeat' first|exact h _|exact h _ _|exact fQ|exact AU|apply eP|apply iQ|apply iE|(apply rI;intro x)|split
def aXq{S:TS U.D}{t:Option Ty}{x:SV U.D}{lo hi mx:Option az}{K K':X U->Option W}(h: ∀x,le (K x) (K' x)):le (a8L U S t x lo hi mx K) (a8L U S t x lo hi mx K'):=by
 unfold a8L
 repeat' first|exact h _|exact h _ _|exact fQ|exact AU|apply eP|apply iQ|apply iE|(apply rI;intro x)|split
def aO3{t:Option Ty}{x:SV U.D}{K K':X U->Option W}(h: ∀x,le (K x) (K' x)):le (aCL U t x K) (aCL U t x K'):=by
 unfold aCL
 repeat' first|exact h _|exact h _ _|exact fQ|exact AU|apply eP|apply iQ|apply iE|(apply rI;intro x)|split
def a3f{mx:Bool}{a b:SV U.D}{K K':X U->Option W}(h: ∀x,le (K x) (K' x)):le (a3g U mx a b K) (a3g U mx a b K'):=by
 unfold a3g
 repeat' first|exact h _|exact h _ _|exact fQ|exact AU|apply eP|apply iQ|apply iE|(apply rI;intro x)|split
def a3I{T:TT}{take:Bool}{M:TM U.D}{t:av}{a:SV U.D}{K K':X U->TM U.D->Option W}(h: ∀x M,le (K x M) (K' x M)):le (a8Q U T take M t a K) (a8Q U T take M t a K'):=by
 unfold a8Q
 repeat' first|exact h _|exact h _ _|exact fQ|exact AU|apply eP|apply iQ|apply iE|(apply rI;intro x)|split
def aXm{T:TT}{M:TM U.D}{t:av}{a:SV U.D}{x:X U}{K K':TM U.D->Option W}(h: ∀M,le (K M) (K' M)):le (stT U T M t a x K) (stT U T M t a x K'):=by
 unfold stT
 repeat' first|exact h _|exact h _ _|exact fQ|exact AU|apply eP|apply iQ|apply iE|(apply rI;intro x)|split
def KT{M:TM U.D}{k:Nat}{c:BC U.D}{K K':TM U.D->Option W}(h: ∀M,le (K M) (K' M)):le (GU U M k c K) (GU U M k c K'):=by
 unfold GU
 repeat' first|exact h _|exact h _ _|exact fQ|exact AU|apply eP|apply iQ|apply iE|(apply rI;intro x)|split
def a7s{T:TT}{M:TM U.D}{d:Option Tmp}{t:av}{K K':X U->TM U.D->Option W}(h: ∀x M,le (K x M) (K' x M)):le (a80 U T M d t K) (a80 U T M d t K'):=by
 unfold a80
 repeat' first|exact fQ|(apply KT;intro M';exact h _ _)|apply eP|split
def a64{T:TT}{M:TM U.D}{d:Option Tmp}{t:av}{x:X U}{K K':X U->TM U.D->Option W}(h: ∀x M,le (K x M) (K' x M)):le (a8Y U T M d t x K) (a8Y U T M d t x K'):=by
 unfold a8Y
 repeat' first|exact fQ|(apply KT;intro M';exact h _ _)|apply eP|split
def a3e{T:TT}{M:TM U.D}{d:Option Tmp}{t:av}{z:Bool}{e:av->Option av}{l c:SV U.D}{K K':X U->TM U.D->Option W}(h: ∀x M,le (K x M) (K' x M)):le (a8P U T M d t z e l c K) (a8P U T M d t z e l c K'):=by
 unfold a8P
 repeat' first|exact h _ _|exact fQ|(apply KT;intro M';exact h _ _)|apply eP|apply iQ|split
def a7n{T:TT}{e:av->Option av}{ts:List av}{s:X U}{x:SV U.D}{K K':X U->Option W}(h: ∀x,le (K x) (K' x)):le (a8Z U T e ts s x K) (a8Z U T e ts s x K'):=by
 unfold a8Z
 repeat' first|exact h _|exact h _ _|exact fQ|exact AU|apply eP|apply iQ|apply iE|(apply rI;intro x)|split
def aQX{T:TT}{e:av->Option av}{ts:List av}{t1 t2:av}{s:X U}{zz n x:SV U.D}{K K':V U->V U->Option W}(h: ∀x y,le (K x y) (K' x y)):le (aDh U T e ts t1 t2 s zz n x K) (aDh U T e ts t1 t2 s zz n x K'):=by
 unfold aDh
 repeat' first|exact h _|exact h _ _|exact fQ|exact AU|apply eP|apply iQ|apply iE|(apply rI;intro x)|split
def aNR{own:Bool}{l:List (V U)}{K K':X U->Option W}(h: ∀x,le (K x) (K' x)):le (aCh U own l K) (aCh U own l K'):=by
 unfold aCh
 repeat' first|exact h _|exact h _ _|exact fQ|exact AU|apply eP|apply iQ|apply iE|(apply rI;intro x)|split
def aO5{M:TM U.D}{t:Option Ty}{x:SV U.D}{K K':X U->Option W}(h: ∀x,le (K x) (K' x)):le (aCM U M t x K) (aCM U M t x K'):=by
 unfold aCM
 repeat' first|exact h _|exact fQ|exact aO3 h|apply eP|split
def aID{K K':Nat->Option W}(h: ∀x,le (K x) (K' x)){m:Int}: ∀(f j:Nat),le (a7l K m j f) (a7l K' m j f)
 |0,j=>fQ
 |f+1,j=>iE (h j) (aID h f (j+1))
def a2V{ts:List Ty}{a a':Option (List (V U))}{K K':DenL U.D ts->Option W}(ha:le a a')(h: ∀x,le (K x) (K' x)):le (fN ts a K) (fN ts a' K'):=by
 unfold fN;cases a with
 |none=>exact fQ
 |some l=>
  rw[ha l rfl]
  dsimp only
  split
  .exact h _
  .exact fQ
def a84(c c':pX U.D):Prop:= ∀i d,le (c i d) (c' i d)
variable{TPr:TP U.D}{c c':pX U.D}
def aIp(hc:a84 c c'){take:Bool}{inst:Nat}{bk:List Nat}{S:TS U.D}{M:TM U.D}{f:SV U.D}{args:List az}{K K':X U->TS U.D->TM U.D->Option W}(h: ∀x S M,le (K x S M) (K' x S M)):
    le (IR U TPr c take inst bk S M f args K) (IR U TPr c' take inst bk S M f args K'):=by
 unfold IR
 repeat' first|exact fQ|apply eP|(refine a2V (hc _ _) λr=>?_)|(refine aNR λx=>?_;exact h _ _ _)|split
def aGc(hc:a84 c c'){sq take:Bool}{inst:Nat}{bk:List Nat}{o:Oper}{S:TS U.D}{M:TM U.D}{K K':X U->TS U.D->TM U.D->Option W}(h: ∀x S M,le (K x S M) (K' x S M)):
    le (CC U TPr c sq take inst bk o S M K) (CC U TPr c' sq take inst bk o S M K'):=by
 unfold CC
 repeat' first|exact h _ _ _|exact fQ|exact aIp hc h|(apply aF4;intro r;exact h _ _ _)|(apply aQP;intro r;exact h _ _ _)|(apply aWw;intro r;exact h _ _ _)|(apply aId;intro r;exact h _ _ _)|(apply a3I;intro r M';exact h _ _ _)|
  (apply aXq;intro r;exact h _ _ _)|(apply a7s;intro r M';exact h _ _ _)|(apply a64;intro r M';exact h _ _ _)|(apply a3e;intro r M';exact h _ _ _)|(apply aXm;intro M';exact h _ _ _)|(apply aO5;intro r;exact h _ _ _)|(apply a3f;intro r;exact h _ _ _)|
  (apply a7n;intro r;exact h _ _ _)|(apply aID;intro j)|apply eP|apply iQ|(apply rI;intro x)|split
def aHv{ops:Array Oper}{o:Oper}{S:TS U.D}{run skip run' qq:TS U.D->Option W}(h1: ∀S,le (run S) (run' S))(h2: ∀S,le (skip S) (qq S)):le (a5T U ops o S run skip) (a5T U ops o S run' qq):=by
 unfold a5T
 repeat' first|exact h1 _|exact h2 _|exact fQ|apply iE|apply eP|split
def aA8{oA oI oS:Oper}{S:TS U.D}{K K':TS U.D->Option W}(h: ∀S,le (K S) (K' S)):le (US U TPr oA oI oS S K) (US U TPr oA oI oS S K'):=by
 unfold US
 repeat' first|exact fQ|apply eP|(apply aQX;intro v w;exact h _)|split
def aN5(hc:a84 c c'){ops:Array Oper}: ∀(sc:List TStep) (S:TS U.D) (M:TM U.D) {K K':TS U.D->TM U.D->Option W},(∀S M,le (K S M) (K' S M))->le (zW U TPr c ops sc S M K) (zW U TPr c' ops sc S M K'):=by
 intro sc;induction sc with
 |nil=>intro S M K K' h;exact h S M
 |cons s sc ih=>
  intro S M K K' h;cases s with
  |app a i s=>
   simp only[zW];split
   .exact aA8 λS'=>ih S' M h
   .exact fQ
  |freeze t=>
   simp only[zW];split
   .exact ih _ _ h
   .exact fQ
  |op i take inst bk=>
   simp only[zW];split
   .exact fQ
   .exact aHv (λS=>aGc hc λx S' M'=>ih _ _ h) (λS=>ih _ _ h)
def aEz(hc:a84 c c'){ops:Array Oper}{ms:List Nat}: ∀(sc:List TStep) (pend:List PW) (S:TS U.D) (M:TM U.D) {K K':TS U.D->TM U.D->Option W},(∀S M,le (K S M) (K' S M))->le (mV U TPr c ops ms sc pend S M K) (mV U TPr c' ops ms sc pend S M K'):=by
 intro sc;induction sc with
 |nil=>intro pend S M K K' h;exact eP (h S M) fQ
 |cons s sc ih=>
  intro pend S M K K' h;cases s with
  |app a i s=>
   simp only[mV];split
   .exact aA8 λS'=>eP (ih _ _ _ h) fQ
   .exact fQ
  |freeze t=>
   simp only[mV];split
   .exact ih _ _ _ h
   .exact fQ
  |op i take inst bk=>
   simp only[mV];split
   .exact fQ
   .refine aHv (λS=>aGc hc λx S' M'=>eP (eP (ih _ _ _ h) fQ) ?_) (λS=>ih _ _ _ h)
    split
    .exact ih _ _ _ h
    .exact fQ
def aD7{run run':TS U.D->TM U.D->TK U.D W->Option W}{K K':TK U.D W}(hr: ∀S M,le (run S M K) (run' S M K'))(h: ∀fl S M,le (K fl S M) (K' fl S M)): ∀fl S M,le (DO U run K fl S M) (DO U run' K' fl S M):=by
 intro fl S M;cases fl<;>first|exact hr S M|exact h _ S M
def aQN{id:Nat}{K K':TK U.D W}(h: ∀fl S M,le (K fl S M) (K' fl S M)): ∀fl S M,le (cO U id K fl S M) (cO U id K' fl S M):=by
 intro fl S M;cases fl<;>first|exact h _ S M|exact eP (h _ S M) (h _ S M)
def a3j{ct:Cut}{k k':List (V U)->Option W}{K K':TK U.D W}(hk: ∀d,le (k d) (k' d))(h: ∀fl S M,le (K fl S M) (K' fl S M)): ∀fl S M,le (fT U ct k K fl S M) (fT U ct k' K' fl S M):=by
 intro fl S M;cases fl<;>first
  |exact h _ S M
  |exact(show le (match GY U ct S M with|some d=>k d|none=>ad) (match GY U ct S M with|some d=>k' d|none=>ad) from by cases GY U ct S M with|none=>exact fQ|some d=>exact hk d)
def E5{ct:Cut}{run run':TS U.D->TM U.D->Option W}(h: ∀S M,le (run S M) (run' S M))(d:List (V U)):le (oZ U ct run d) (oZ U ct run' d):=by
 unfold oZ;split
 .exact h _ _
 .exact fQ
def aGK{ct:Cut}{b b':TS U.D->TM U.D->TK U.D W->Option W}(hb: ∀S M K K',(∀fl S M,le (K fl S M) (K' fl S M))->le (b S M K) (b' S M K')){K K':TK U.D W}(h: ∀fl S M,le (K fl S M) (K' fl S M)):
    ∀(n n':Nat),n<=n'->∀d,le (CG U ct b K n d) (CG U ct b' K' n' d):=by
 intro n;induction n with
 |zero=>intro n' _ d;exact fQ
 |succ n ih=>
  intro n' hn d;obtain⟨n',rfl⟩: ∃m,n'=m+1:=⟨n'-1,by omega⟩
  exact E5 (λS M=>hb S M _ _ (a3j (λd=>ih n' (by omega) d) h)) d
def aHP(hc:a84 c c'){L L':Nat}(hL:L<=L'): ∀(code:TC) (S:TS U.D) (M:TM U.D) {K K':TK U.D W},(∀fl S M,le (K fl S M) (K' fl S M))->le (fO U TPr c L code S M K) (fO U TPr c' L' code S M K'):=by
 intro code;induction code with
 |skip=>intro S M K K' h;exact h _ S M
 |label _=>intro S M K K' h;exact h _ S M
 |region id ops draw ms sc=>
  intro S M K K' h;cases draw with
  |true=>exact aEz hc sc [] S _ λS' M'=>eP (h _ S' M') fQ
  |false=>exact aN5 hc sc S M λS' M'=>h _ S' M'
 |seq a b ff jk=>intro S M K K' h;exact ff S M (aD7 (λS M=>jk S M h) h)
 |cond x a b ff jk=>
  intro S M K K' h;simp only[fO];split
  .exact iE (ff S M h) (jk S M h)
  .exact fQ
 |block id a ih=>intro S M K K' h;exact ih S M (aQN h)
 |loop ct a ih=>
  intro S M K K' h;simp only[fO];split
  .exact aGK (λS M K K' h=>ih S M h) h L L' hL _
  .exact fQ
 |exit id=>intro S M K K' h;exact h _ S M
 |ret=>intro S M K K' h;exact h _ S M
 |scope a ih=>intro S M K K' h;exact ih S M h
 |cut ct a ih=>
  intro S M K K' h;simp only[fO];split
  .exact E5 (λS M=>ih S M h) _
  .exact fQ
 |ice t a ih=>
  intro S M K K' h;simp only[fO];split
  .exact ih _ _ h
  .exact fQ
 |other _=>intro S M K K' h;exact fQ
end
def aIm{U:hJ}{TPr:TP U.D}{G:aQ8}{L L':Nat}(hL:L<=L'): ∀(n n':Nat),n<=n'->a84 (vY U TPr G L n) (vY U TPr G L' n'):=by
 intro n;induction n with
 |zero=>intro n' _ i d;exact fQ
 |succ n ih=>
  intro n' hn i d;obtain⟨n',rfl⟩: ∃m,n'=m+1:=⟨n'-1,by omega⟩
  simp only[vY];split
  .refine eP ?_ fQ;split
   .exact AU
   .exact E5 (λS M=>aHP (ih n' (by omega)) hL _ S M λfl S M=>AU) d
  .exact fQ
end Go.TV
namespace Go.TV
abbrev zS(n:Nat):Ty:= .sl (.rc n)
abbrev i6:Ty:= .int .i64
end Go.TV
namespace Go.TV
open Go.AI Go.PI
namespace G
structure Z where
 b:(List Int)
 pos:Int
structure Y where
 package:(List UInt8)
 name:(List UInt8)
inductive O where
 |mk (kind:Int) (num:(List UInt8)) (den:(List UInt8)) (sym:Y) (text:(List UInt8)) (pair:(List O))
def O.kind:O->Int|⟨x,_,_,_,_,_⟩=>x
def O.num:O->(List UInt8)|⟨_,x,_,_,_,_⟩=>x
def O.den:O->(List UInt8)|⟨_,_,x,_,_,_⟩=>x
def O.sym:O->Y|⟨_,_,_,x,_,_⟩=>x
def O.text:O->(List UInt8)|⟨_,_,_,_,x,_⟩=>x
def O.pair:O->(List O)|⟨_,_,_,_,_,x⟩=>x
inductive T where
 |mk (kind:Int) (name:Y) (value:O) (args:(List T))
def T.kind:T->Int|⟨x,_,_,_⟩=>x
def T.name:T->Y|⟨_,x,_,_⟩=>x
def T.value:T->O|⟨_,_,x,_⟩=>x
def T.args:T->(List T)|⟨_,_,_,x⟩=>x
structure F where
 name:Y
 params:(List Y)
 cls:Int
 guard:T
 body:T
 measure:T
structure A where
 name:(List UInt8)
 imports:(List Y)
structure M where
 name:Y
 params:(List Y)
 rest:Bool
 body:T
structure D where
 name:Y
 length:Int
 initial:O
structure B where
 name:Y
 fields:(List D)
structure I where
 var:Y
 term:T
structure C where
 tests:(List T)
 substs:(List (List I))
structure J where
 name:Y
 params:(List Y)
 body:T
structure N where
 rule:Int
 a:Int
 b:Int
 name:Y
 term:T
 measure:T
 clause:(List T)
 subst:(List I)
 lines:(List Int)
 cases:(List C)
 functional:(List J)
 weights:(List O)
structure Q where
 a0:Y
 a1:Y
structure U where
 name:Y
 cls:Int
 hyps:(List T)
 equiv:Y
 left:T
 right:T
 terms:(List T)
 tset:Int
 stops:(List Q)
 arg:Int
 inner:Y
inductive E where
 |mk (kind:Int) (name:Y) (package:A) (mac:M) (functions:(List F)) (formulas:(List T)) (logs:(List (List N))) (locl:(List E)) (stobj:B) (rules:(List U)) (enabled:(List Y)) (disabled:(List Y)) (text:(List UInt8)) (hash:Int)
def E.kind:E->Int|⟨x,_,_,_,_,_,_,_,_,_,_,_,_,_⟩=>x
def E.name:E->Y|⟨_,x,_,_,_,_,_,_,_,_,_,_,_,_⟩=>x
def E.package:E->A|⟨_,_,x,_,_,_,_,_,_,_,_,_,_,_⟩=>x
def E.mac:E->M|⟨_,_,_,x,_,_,_,_,_,_,_,_,_,_⟩=>x
def E.functions:E->(List F)|⟨_,_,_,_,x,_,_,_,_,_,_,_,_,_⟩=>x
def E.formulas:E->(List T)|⟨_,_,_,_,_,x,_,_,_,_,_,_,_,_⟩=>x
def E.logs:E->(List (List N))|⟨_,_,_,_,_,_,x,_,_,_,_,_,_,_⟩=>x
def E.locl:E->(List E)|⟨_,_,_,_,_,_,_,x,_,_,_,_,_,_⟩=>x
def E.stobj:E->B|⟨_,_,_,_,_,_,_,_,x,_,_,_,_,_⟩=>x
def E.rules:E->(List U)|⟨_,_,_,_,_,_,_,_,_,x,_,_,_,_⟩=>x
def E.enabled:E->(List Y)|⟨_,_,_,_,_,_,_,_,_,_,x,_,_,_⟩=>x
def E.disabled:E->(List Y)|⟨_,_,_,_,_,_,_,_,_,_,_,x,_,_⟩=>x
def E.text:E->(List UInt8)|⟨_,_,_,_,_,_,_,_,_,_,_,_,x,_⟩=>x
def E.hash:E->Int|⟨_,_,_,_,_,_,_,_,_,_,_,_,_,x⟩=>x
structure L where
 name:(List UInt8)
 formula:T
 cls:Int
structure S where
 var:Y
 value:O
structure X where
 err:Int
 pos:Int
structure W where
 w:(List E)
 left:Int
structure K where
 kind:Int
 pos:Int
 package:(List UInt8)
 text:(List UInt8)
 den:(List UInt8)
structure P where
 l:(List A)
 current:(List UInt8)
 t:(List K)
 pos:Int
structure V where
 w:(List E)
 extra:(List F)
 left:Int
structure R where
 name:(List UInt8)
 arity:Int
structure Integer where
 negative:Bool
 limbs:(List Int)
deriving instance DecidableEq for Y
deriving instance DecidableEq for Q
def eSource(x:Z):List PV:=[eD 1 (List.map (λn=>PV.v (.int .u8 n)) x.b)]++ [.v (.int .i64 x.pos)]
def aO7(l:List Z):List PV:=l.map λx=> .agg (eSource x)
def lSource_map(l:List Z):aO7 l=l.map λx=> .agg (eSource x):=rfl
def eSymbol(x:Y):List PV:=[.str x.package]++ [.str x.name]
def sL(l:List Y):List PV:=l.map λx=> .agg (eSymbol x)
def lSymbol_map(l:List Y):sL l=l.map λx=> .agg (eSymbol x):=rfl
mutual
def eObject:O->List PV
 |⟨x0,x1,x2,x3,x4,x5⟩=>[.v (.int .i64 x0)]++ [.str x1]++ [.str x2]++eSymbol x3++ [.str x4]++ [eD 7 (wZ x5)]
def wZ:List O->List PV
 |[]=>[]
 |x::l=> .agg (eObject x)::wZ l
end
def lObject_map(l:List O):wZ l=l.map λx=> .agg (eObject x):=by
 induction l with
 |nil=>simp only[wZ,List.map_nil]
 |cons x l ih=>simp only[wZ,ih,aO]
mutual
def eTerm:T->List PV
 |⟨x0,x1,x2,x3⟩=>[.v (.int .i64 x0)]++eSymbol x1++eObject x2++ [eD 11 (zF x3)]
def zF:List T->List PV
 |[]=>[]
 |x::l=> .agg (eTerm x)::zF l
end
def lTerm_map(l:List T):zF l=l.map λx=> .agg (eTerm x):=by
 induction l with
 |nil=>simp only[zF,List.map_nil]
 |cons x l ih=>simp only[zF,ih,aO]
def eFunction(x:F):List PV:=eSymbol x.name++ [eD 2 (sL x.params)]++ [.v (.int .i64 x.cls)]++eTerm x.guard++eTerm x.body++eTerm x.measure
def BV(l:List F):List PV:=l.map λx=> .agg (eFunction x)
def lFunction_map(l:List F):BV l=l.map λx=> .agg (eFunction x):=rfl
def ePackage(x:A):List PV:=[.str x.name]++ [eD 2 (sL x.imports)]
def Q5(l:List A):List PV:=l.map λx=> .agg (ePackage x)
def lPackage_map(l:List A):Q5 l=l.map λx=> .agg (ePackage x):=rfl
def eMacro(x:M):List PV:=eSymbol x.name++ [eD 2 (sL x.params)]++ [.v (.bool x.rest)]++eTerm x.body
def a3L(l:List M):List PV:=l.map λx=> .agg (eMacro x)
def lMacro_map(l:List M):a3L l=l.map λx=> .agg (eMacro x):=rfl
def eField(x:D):List PV:=eSymbol x.name++ [.v (.int .i64 x.length)]++eObject x.initial
def aGQ(l:List D):List PV:=l.map λx=> .agg (eField x)
def lField_map(l:List D):aGQ l=l.map λx=> .agg (eField x):=rfl
def eStobj(x:B):List PV:=eSymbol x.name++ [eD 10 (aGQ x.fields)]
def a3K(l:List B):List PV:=l.map λx=> .agg (eStobj x)
def lStobj_map(l:List B):a3K l=l.map λx=> .agg (eStobj x):=rfl
def eAssign(x:I):List PV:=eSymbol x.var++eTerm x.term
def K0(l:List I):List PV:=l.map λx=> .agg (eAssign x)
def lAssign_map(l:List I):K0 l=l.map λx=> .agg (eAssign x):=rfl
def eCase(x:C):List PV:=[eD 11 (zF x.tests)]++ [eD 1 (List.map (λl=>eD 13 (K0 l)) x.substs)]
def aTh(l:List C):List PV:=l.map λx=> .agg (eCase x)
def lCase_map(l:List C):aTh l=l.map λx=> .agg (eCase x):=rfl
def eLambda(x:J):List PV:=eSymbol x.name++ [eD 2 (sL x.params)]++eTerm x.body
def aAE(l:List J):List PV:=l.map λx=> .agg (eLambda x)
def lLambda_map(l:List J):aAE l=l.map λx=> .agg (eLambda x):=rfl
def eLine(x:N):List PV:=[.v (.int .i64 x.rule)]++ [.v (.int .i64 x.a)]++ [.v (.int .i64 x.b)]++eSymbol x.name++eTerm x.term++eTerm x.measure++ [eD 11 (zF x.clause)]++ [eD 13 (K0 x.subst)]++ [eD 1 (List.map (λn=>PV.v (.int .i64 n)) x.lines)]++ [eD 2 (aTh x.cases)]++ [eD 14 (aAE x.functional)]++ [eD 7 (wZ x.weights)]
def aTg(l:List N):List PV:=l.map λx=> .agg (eLine x)
def lLine_map(l:List N):aTg l=l.map λx=> .agg (eLine x):=rfl
def ePairSymbol(x:Q):List PV:=eSymbol x.a0++eSymbol x.a1
def CH(l:List Q):List PV:=l.map λx=> .agg (ePairSymbol x)
def lPairSymbol_map(l:List Q):CH l=l.map λx=> .agg (ePairSymbol x):=rfl
def eRule(x:U):List PV:=eSymbol x.name++ [.v (.int .i64 x.cls)]++ [eD 11 (zF x.hyps)]++eSymbol x.equiv++eTerm x.left++eTerm x.right++ [eD 11 (zF x.terms)]++ [.v (.int .i64 x.tset)]++ [eD 4 (CH x.stops)]++ [.v (.int .i64 x.arg)]++eSymbol x.inner
def aTf(l:List U):List PV:=l.map λx=> .agg (eRule x)
def lRule_map(l:List U):aTf l=l.map λx=> .agg (eRule x):=rfl
mutual
def eEntry:E->List PV
 |⟨x0,x1,x2,x3,x4,x5,x6,x7,x8,x9,x10,x11,x12,x13⟩=>[.v (.int .i64 x0)]++eSymbol x1++ePackage x2++eMacro x3++ [eD 37 (BV x4)]++ [eD 11 (zF x5)]++ [eD 1 (List.map (λl=>eD 33 (aTg l)) x6)]++ [eD 32 (Ae x7)]++eStobj x8++ [eD 34 (aTf x9)]++ [eD 2 (sL x10)]++ [eD 2 (sL x11)]++ [.str x12]++ [.v (.int .u64 x13)]
def Ae:List E->List PV
 |[]=>[]
 |x::l=> .agg (eEntry x)::Ae l
end
def lEntry_map(l:List E):Ae l=l.map λx=> .agg (eEntry x):=by
 induction l with
 |nil=>simp only[Ae,List.map_nil]
 |cons x l ih=>simp only[Ae,ih,aO]
def eLemma(x:L):List PV:=[.str x.name]++eTerm x.formula++ [.v (.int .i64 x.cls)]
def a3M(l:List L):List PV:=l.map λx=> .agg (eLemma x)
def lLemma_map(l:List L):a3M l=l.map λx=> .agg (eLemma x):=rfl
def eBinding(x:S):List PV:=eSymbol x.var++eObject x.value
def aGR(l:List S):List PV:=l.map λx=> .agg (eBinding x)
def lBinding_map(l:List S):aGR l=l.map λx=> .agg (eBinding x):=rfl
def eSourceError(x:X):List PV:=[.v (.int .i64 x.err)]++ [.v (.int .i64 x.pos)]
def KZ(l:List X):List PV:=l.map λx=> .agg (eSourceError x)
def lSourceError_map(l:List X):KZ l=l.map λx=> .agg (eSourceError x):=rfl
def eEvaluator(x:W):List PV:=[eD 32 (Ae x.w)]++ [.v (.int .i64 x.left)]
def TJ(l:List W):List PV:=l.map λx=> .agg (eEvaluator x)
def lEvaluator_map(l:List W):TJ l=l.map λx=> .agg (eEvaluator x):=rfl
def eToken(x:K):List PV:=[.v (.int .i64 x.kind)]++ [.v (.int .i64 x.pos)]++ [.str x.package]++ [.str x.text]++ [.str x.den]
def aGO(l:List K):List PV:=l.map λx=> .agg (eToken x)
def lToken_map(l:List K):aGO l=l.map λx=> .agg (eToken x):=rfl
def eParser(x:P):List PV:=[eD 2 (Q5 x.l)]++ [.str x.current]++ [eD 5 (aGO x.t)]++ [.v (.int .i64 x.pos)]
def aO8(l:List P):List PV:=l.map λx=> .agg (eParser x)
def lParser_map(l:List P):aO8 l=l.map λx=> .agg (eParser x):=rfl
def eTranslator(x:V):List PV:=[eD 32 (Ae x.w)]++ [eD 37 (BV x.extra)]++ [.v (.int .i64 x.left)]
def Q4(l:List V):List PV:=l.map λx=> .agg (eTranslator x)
def lTranslator_map(l:List V):Q4 l=l.map λx=> .agg (eTranslator x):=rfl
def eRow(x:R):List PV:=[.str x.name]++ [.v (.int .i64 x.arity)]
def bLj(l:List R):List PV:=l.map λx=> .agg (eRow x)
def lRow_map(l:List R):bLj l=l.map λx=> .agg (eRow x):=rfl
def eInteger(x:Integer):List PV:=[.v (.bool x.negative)]++ [eD 1 (List.map (λn=>PV.v (.int .u32 n)) x.limbs)]
def aGP(l:List Integer):List PV:=l.map λx=> .agg (eInteger x)
def lInteger_map(l:List Integer):aGP l=l.map λx=> .agg (eInteger x):=rfl
end G
@[reducible] def D0:Nat->Type
 |0=>G.Z
 |1=>G.Y
 |2=>G.O
 |3=>G.T
 |4=>G.F
 |5=>G.A
 |6=>G.M
 |7=>G.D
 |8=>G.B
 |9=>G.I
 |10=>G.C
 |11=>G.J
 |12=>G.N
 |13=>G.Q
 |14=>G.U
 |15=>G.E
 |16=>G.L
 |17=>G.S
 |18=>G.X
 |19=>G.W
 |20=>G.K
 |21=>G.P
 |22=>G.V
 |23=>G.R
 |_+24=>G.Integer
def fs0:Nat->List Ty
 |0=>[(.sl (.int .u8)),i6]
 |1=>[.str,.str]
 |2=>[i6,.str,.str,.rc 1,.str,zS 2]
 |3=>[i6,.rc 1,.rc 2,zS 3]
 |4=>[.rc 1,zS 1,i6,.rc 3,.rc 3,.rc 3]
 |5=>[.str,zS 1]
 |6=>[.rc 1,zS 1,.bool,.rc 3]
 |7=>[.rc 1,i6,.rc 2]
 |8=>[.rc 1,zS 7]
 |9=>[.rc 1,.rc 3]
 |10=>[zS 3,.sl (zS 9)]
 |11=>[.rc 1,zS 1,.rc 3]
 |12=>[i6,i6,i6,.rc 1,.rc 3,.rc 3,zS 3,zS 9,.sl i6,zS 10,zS 11,zS 2]
 |13=>[.rc 1,.rc 1]
 |14=>[.rc 1,i6,zS 3,.rc 1,.rc 3,.rc 3,zS 3,i6,zS 13,i6,.rc 1]
 |15=>[i6,.rc 1,.rc 5,.rc 6,zS 4,zS 3,.sl (zS 12),zS 15,.rc 8,zS 14,zS 1,zS 1,.str,(.int .u64)]
 |16=>[.str,.rc 3,i6]
 |17=>[.rc 1,.rc 2]
 |18=>[i6,i6]
 |19=>[zS 15,i6]
 |20=>[i6,i6,.str,.str,.str]
 |21=>[zS 5,.str,zS 20,i6]
 |22=>[zS 15,zS 4,i6]
 |23=>[.str,i6]
 |_+24=>[.bool,(.sl (.int .u32))]
def nH:(n:Nat)->D0 n->List (TV D0)
 |0,x=>[⟨(.sl (.int .u8)),G.Z.b x⟩,⟨i6,G.Z.pos x⟩]
 |1,x=>[⟨.str,G.Y.package x⟩,⟨.str,G.Y.name x⟩]
 |2,x=>[⟨i6,G.O.kind x⟩,⟨.str,G.O.num x⟩,⟨.str,G.O.den x⟩,⟨.rc 1,G.O.sym x⟩,⟨.str,G.O.text x⟩,⟨zS 2,G.O.pair x⟩]
 |3,x=>[⟨i6,G.T.kind x⟩,⟨.rc 1,G.T.name x⟩,⟨.rc 2,G.T.value x⟩,⟨zS 3,G.T.args x⟩]
 |4,x=>[⟨.rc 1,G.F.name x⟩,⟨zS 1,G.F.params x⟩,⟨i6,G.F.cls x⟩,⟨.rc 3,G.F.guard x⟩,⟨.rc 3,G.F.body x⟩,⟨.rc 3,G.F.measure x⟩]
 |5,x=>[⟨.str,G.A.name x⟩,⟨zS 1,G.A.imports x⟩]
 |6,x=>[⟨.rc 1,G.M.name x⟩,⟨zS 1,G.M.params x⟩,⟨.bool,G.M.rest x⟩,⟨.rc 3,G.M.body x⟩]
 |7,x=>[⟨.rc 1,G.D.name x⟩,⟨i6,G.D.length x⟩,⟨.rc 2,G.D.initial x⟩]
 |8,x=>[⟨.rc 1,G.B.name x⟩,⟨zS 7,G.B.fields x⟩]
 |9,x=>[⟨.rc 1,G.I.var x⟩,⟨.rc 3,G.I.term x⟩]
 |10,x=>[⟨zS 3,G.C.tests x⟩,⟨.sl (zS 9),G.C.substs x⟩]
 |11,x=>[⟨.rc 1,G.J.name x⟩,⟨zS 1,G.J.params x⟩,⟨.rc 3,G.J.body x⟩]
 |12,x=>[⟨i6,G.N.rule x⟩,⟨i6,G.N.a x⟩,⟨i6,G.N.b x⟩,⟨.rc 1,G.N.name x⟩,⟨.rc 3,G.N.term x⟩,⟨.rc 3,G.N.measure x⟩,⟨zS 3,G.N.clause x⟩,⟨zS 9,G.N.subst x⟩,⟨.sl i6,G.N.lines x⟩,⟨zS 10,G.N.cases x⟩,⟨zS 11,G.N.functional x⟩,⟨zS 2,G.N.weights x⟩]
 |13,x=>[⟨.rc 1,G.Q.a0 x⟩,⟨.rc 1,G.Q.a1 x⟩]
 |14,x=>[⟨.rc 1,G.U.name x⟩,⟨i6,G.U.cls x⟩,⟨zS 3,G.U.hyps x⟩,⟨.rc 1,G.U.equiv x⟩,⟨.rc 3,G.U.left x⟩,⟨.rc 3,G.U.right x⟩,⟨zS 3,G.U.terms x⟩,⟨i6,G.U.tset x⟩,⟨zS 13,G.U.stops x⟩,⟨i6,G.U.arg x⟩,⟨.rc 1,G.U.inner x⟩]
 |15,x=>[⟨i6,G.E.kind x⟩,⟨.rc 1,G.E.name x⟩,⟨.rc 5,G.E.package x⟩,⟨.rc 6,G.E.mac x⟩,⟨zS 4,G.E.functions x⟩,⟨zS 3,G.E.formulas x⟩,⟨.sl (zS 12),G.E.logs x⟩,⟨zS 15,G.E.locl x⟩,⟨.rc 8,G.E.stobj x⟩,⟨zS 14,G.E.rules x⟩,⟨zS 1,G.E.enabled x⟩,⟨zS 1,G.E.disabled x⟩,⟨.str,G.E.text x⟩,⟨(.int .u64),G.E.hash x⟩]
 |16,x=>[⟨.str,G.L.name x⟩,⟨.rc 3,G.L.formula x⟩,⟨i6,G.L.cls x⟩]
 |17,x=>[⟨.rc 1,G.S.var x⟩,⟨.rc 2,G.S.value x⟩]
 |18,x=>[⟨i6,G.X.err x⟩,⟨i6,G.X.pos x⟩]
 |19,x=>[⟨zS 15,G.W.w x⟩,⟨i6,G.W.left x⟩]
 |20,x=>[⟨i6,G.K.kind x⟩,⟨i6,G.K.pos x⟩,⟨.str,G.K.package x⟩,⟨.str,G.K.text x⟩,⟨.str,G.K.den x⟩]
 |21,x=>[⟨zS 5,G.P.l x⟩,⟨.str,G.P.current x⟩,⟨zS 20,G.P.t x⟩,⟨i6,G.P.pos x⟩]
 |22,x=>[⟨zS 15,G.V.w x⟩,⟨zS 4,G.V.extra x⟩,⟨i6,G.V.left x⟩]
 |23,x=>[⟨.str,G.R.name x⟩,⟨i6,G.R.arity x⟩]
 |_+24,x=>[⟨.bool,G.Integer.negative x⟩,⟨(.sl (.int .u32)),G.Integer.limbs x⟩]
def CE:(n:Nat)->List (TV D0)->Option (D0 n)
 |0,l=>match fK (D:=D0) [(.sl (.int .u8)),i6] l with|some r=>aa (⟨r.1,r.2.1⟩:G.Z)|none=>ad
 |1,l=>match fK (D:=D0) [.str,.str] l with|some r=>aa (⟨r.1,r.2.1⟩:G.Y)|none=>ad
 |2,l=>match fK (D:=D0) [i6,.str,.str,.rc 1,.str,zS 2] l with|some r=>aa (⟨r.1,r.2.1,r.2.2.1,r.2.2.2.1,r.2.2.2.2.1,r.2.2.2.2.2.1⟩:G.O)|none=>ad
 |3,l=>match fK (D:=D0) [i6,.rc 1,.rc 2,zS 3] l with|some r=>aa (⟨r.1,r.2.1,r.2.2.1,r.2.2.2.1⟩:G.T)|none=>ad
 |4,l=>match fK (D:=D0) [.rc 1,zS 1,i6,.rc 3,.rc 3,.rc 3] l with|some r=>aa (⟨r.1,r.2.1,r.2.2.1,r.2.2.2.1,r.2.2.2.2.1,r.2.2.2.2.2.1⟩:G.F)|none=>ad
 |5,l=>match fK (D:=D0) [.str,zS 1] l with|some r=>aa (⟨r.1,r.2.1⟩:G.A)|none=>ad
 |6,l=>match fK (D:=D0) [.rc 1,zS 1,.bool,.rc 3] l with|some r=>aa (⟨r.1,r.2.1,r.2.2.1,r.2.2.2.1⟩:G.M)|none=>ad
 |7,l=>match fK (D:=D0) [.rc 1,i6,.rc 2] l with|some r=>aa (⟨r.1,r.2.1,r.2.2.1⟩:G.D)|none=>ad
 |8,l=>match fK (D:=D0) [.rc 1,zS 7] l with|some r=>aa (⟨r.1,r.2.1⟩:G.B)|none=>ad
 |9,l=>match fK (D:=D0) [.rc 1,.rc 3] l with|some r=>aa (⟨r.1,r.2.1⟩:G.I)|none=>ad
 |10,l=>match fK (D:=D0) [zS 3,.sl (zS 9)] l with|some r=>aa (⟨r.1,r.2.1⟩:G.C)|none=>ad
 |11,l=>match fK (D:=D0) [.rc 1,zS 1,.rc 3] l with|some r=>aa (⟨r.1,r.2.1,r.2.2.1⟩:G.J)|none=>ad
 |12,l=>match fK (D:=D0) [i6,i6,i6,.rc 1,.rc 3,.rc 3,zS 3,zS 9,.sl i6,zS 10,zS 11,zS 2] l with|some r=>aa (⟨r.1,r.2.1,r.2.2.1,r.2.2.2.1,r.2.2.2.2.1,r.2.2.2.2.2.1,r.2.2.2.2.2.2.1,r.2.2.2.2.2.2.2.1,r.2.2.2.2.2.2.2.2.1,r.2.2.2.2.2.2.2.2.2.1,r.2.2.2.2.2.2.2.2.2.2.1,r.2.2.2.2.2.2.2.2.2.2.2.1⟩:G.N)|none=>ad
 |13,l=>match fK (D:=D0) [.rc 1,.rc 1] l with|some r=>aa (⟨r.1,r.2.1⟩:G.Q)|none=>ad
 |14,l=>match fK (D:=D0) [.rc 1,i6,zS 3,.rc 1,.rc 3,.rc 3,zS 3,i6,zS 13,i6,.rc 1] l with|some r=>aa (⟨r.1,r.2.1,r.2.2.1,r.2.2.2.1,r.2.2.2.2.1,r.2.2.2.2.2.1,r.2.2.2.2.2.2.1,r.2.2.2.2.2.2.2.1,r.2.2.2.2.2.2.2.2.1,r.2.2.2.2.2.2.2.2.2.1,r.2.2.2.2.2.2.2.2.2.2.1⟩:G.U)|none=>ad
 |15,l=>match fK (D:=D0) [i6,.rc 1,.rc 5,.rc 6,zS 4,zS 3,.sl (zS 12),zS 15,.rc 8,zS 14,zS 1,zS 1,.str,(.int .u64)] l with|some r=>aa (⟨r.1,r.2.1,r.2.2.1,r.2.2.2.1,r.2.2.2.2.1,r.2.2.2.2.2.1,r.2.2.2.2.2.2.1,r.2.2.2.2.2.2.2.1,r.2.2.2.2.2.2.2.2.1,r.2.2.2.2.2.2.2.2.2.1,r.2.2.2.2.2.2.2.2.2.2.1,r.2.2.2.2.2.2.2.2.2.2.2.1,r.2.2.2.2.2.2.2.2.2.2.2.2.1,r.2.2.2.2.2.2.2.2.2.2.2.2.2.1⟩:G.E)|none=>ad
 |16,l=>match fK (D:=D0) [.str,.rc 3,i6] l with|some r=>aa (⟨r.1,r.2.1,r.2.2.1⟩:G.L)|none=>ad
 |17,l=>match fK (D:=D0) [.rc 1,.rc 2] l with|some r=>aa (⟨r.1,r.2.1⟩:G.S)|none=>ad
 |18,l=>match fK (D:=D0) [i6,i6] l with|some r=>aa (⟨r.1,r.2.1⟩:G.X)|none=>ad
 |19,l=>match fK (D:=D0) [zS 15,i6] l with|some r=>aa (⟨r.1,r.2.1⟩:G.W)|none=>ad
 |20,l=>match fK (D:=D0) [i6,i6,.str,.str,.str] l with|some r=>aa (⟨r.1,r.2.1,r.2.2.1,r.2.2.2.1,r.2.2.2.2.1⟩:G.K)|none=>ad
 |21,l=>match fK (D:=D0) [zS 5,.str,zS 20,i6] l with|some r=>aa (⟨r.1,r.2.1,r.2.2.1,r.2.2.2.1⟩:G.P)|none=>ad
 |22,l=>match fK (D:=D0) [zS 15,zS 4,i6] l with|some r=>aa (⟨r.1,r.2.1,r.2.2.1⟩:G.V)|none=>ad
 |23,l=>match fK (D:=D0) [.str,i6] l with|some r=>aa (⟨r.1,r.2.1⟩:G.R)|none=>ad
 |_+24,l=>match fK (D:=D0) [.bool,(.sl (.int .u32))] l with|some r=>aa (⟨r.1,r.2.1⟩:G.Integer)|none=>ad
def fU:(n:Nat)->D0 n->List PV
 |0,x=>G.eSource x
 |1,x=>G.eSymbol x
 |2,x=>G.eObject x
 |3,x=>G.eTerm x
 |4,x=>G.eFunction x
 |5,x=>G.ePackage x
 |6,x=>G.eMacro x
 |7,x=>G.eField x
 |8,x=>G.eStobj x
 |9,x=>G.eAssign x
 |10,x=>G.eCase x
 |11,x=>G.eLambda x
 |12,x=>G.eLine x
 |13,x=>G.ePairSymbol x
 |14,x=>G.eRule x
 |15,x=>G.eEntry x
 |16,x=>G.eLemma x
 |17,x=>G.eBinding x
 |18,x=>G.eSourceError x
 |19,x=>G.eEvaluator x
 |20,x=>G.eToken x
 |21,x=>G.eParser x
 |22,x=>G.eTranslator x
 |23,x=>G.eRow x
 |_+24,x=>G.eInteger x
def eq0:(n:Nat)->Option (D0 n->D0 n->Bool)
 |0=>ad
 |1=>aa λ(a b:G.Y)=>decide (a=b)
 |2=>ad
 |3=>ad
 |4=>ad
 |5=>ad
 |6=>ad
 |7=>ad
 |8=>ad
 |9=>ad
 |10=>ad
 |11=>ad
 |12=>ad
 |13=>aa λ(a b:G.Q)=>decide (a=b)
 |14=>ad
 |15=>ad
 |16=>ad
 |17=>ad
 |18=>ad
 |19=>ad
 |20=>ad
 |21=>ad
 |22=>ad
 |23=>ad
 |_+24=>ad
def a87:(n:Nat)->D0 n
 |0=>(⟨[],0⟩:G.Z)
 |1=>(⟨[],[]⟩:G.Y)
 |2=>(⟨0,[],[],⟨[],[]⟩,[],[]⟩:G.O)
 |3=>(⟨0,⟨[],[]⟩,⟨0,[],[],⟨[],[]⟩,[],[]⟩,[]⟩:G.T)
 |4=>(⟨⟨[],[]⟩,[],0,⟨0,⟨[],[]⟩,⟨0,[],[],⟨[],[]⟩,[],[]⟩,[]⟩,⟨0,⟨[],[]⟩,⟨0,[],[],⟨[],[]⟩,[],[]⟩,[]⟩,⟨0,⟨[],[]⟩,⟨0,[],[],⟨[],[]⟩,[],[]⟩,[]⟩⟩:G.F)
 |5=>(⟨[],[]⟩:G.A)
 |6=>(⟨⟨[],[]⟩,[],ah,⟨0,⟨[],[]⟩,⟨0,[],[],⟨[],[]⟩,[],[]⟩,[]⟩⟩:G.M)
 |7=>(⟨⟨[],[]⟩,0,⟨0,[],[],⟨[],[]⟩,[],[]⟩⟩:G.D)
 |8=>(⟨⟨[],[]⟩,[]⟩:G.B)
 |9=>(⟨⟨[],[]⟩,⟨0,⟨[],[]⟩,⟨0,[],[],⟨[],[]⟩,[],[]⟩,[]⟩⟩:G.I)
 |10=>(⟨[],[]⟩:G.C)
 |11=>(⟨⟨[],[]⟩,[],⟨0,⟨[],[]⟩,⟨0,[],[],⟨[],[]⟩,[],[]⟩,[]⟩⟩:G.J)
 |12=>(⟨0,0,0,⟨[],[]⟩,⟨0,⟨[],[]⟩,⟨0,[],[],⟨[],[]⟩,[],[]⟩,[]⟩,⟨0,⟨[],[]⟩,⟨0,[],[],⟨[],[]⟩,[],[]⟩,[]⟩,[],[],[],[],[],[]⟩:G.N)
 |13=>(⟨⟨[],[]⟩,⟨[],[]⟩⟩:G.Q)
 |14=>(⟨⟨[],[]⟩,0,[],⟨[],[]⟩,⟨0,⟨[],[]⟩,⟨0,[],[],⟨[],[]⟩,[],[]⟩,[]⟩,⟨0,⟨[],[]⟩,⟨0,[],[],⟨[],[]⟩,[],[]⟩,[]⟩,[],0,[],0,⟨[],[]⟩⟩:G.U)
 |15=>(⟨0,⟨[],[]⟩,⟨[],[]⟩,⟨⟨[],[]⟩,[],ah,⟨0,⟨[],[]⟩,⟨0,[],[],⟨[],[]⟩,[],[]⟩,[]⟩⟩,[],[],[],[],⟨⟨[],[]⟩,[]⟩,[],[],[],[],0⟩:G.E)
 |16=>(⟨[],⟨0,⟨[],[]⟩,⟨0,[],[],⟨[],[]⟩,[],[]⟩,[]⟩,0⟩:G.L)
 |17=>(⟨⟨[],[]⟩,⟨0,[],[],⟨[],[]⟩,[],[]⟩⟩:G.S)
 |18=>(⟨0,0⟩:G.X)
 |19=>(⟨[],0⟩:G.W)
 |20=>(⟨0,0,[],[],[]⟩:G.K)
 |21=>(⟨[],[],[],0⟩:G.P)
 |22=>(⟨[],[],0⟩:G.V)
 |23=>(⟨[],0⟩:G.R)
 |_+24=>(⟨ah,[]⟩:G.Integer)
def nJ:Nat->Nat
 |0=>2
 |1=>2
 |2=>7
 |3=>11
 |4=>37
 |5=>2
 |6=>15
 |7=>10
 |8=>3
 |9=>13
 |10=>2
 |11=>14
 |12=>33
 |13=>4
 |14=>34
 |15=>32
 |16=>13
 |17=>9
 |18=>2
 |19=>2
 |20=>5
 |21=>4
 |22=>3
 |23=>2
 |_+24=>2
def lt0:Nat->List Ty
 |0=>[(.sl (.int .u8)),i6]
 |1=>[.str,.str]
 |2=>[i6,.str,.str,.str,.str,.str,zS 2]
 |3=>[i6,.str,.str,i6,.str,.str,.str,.str,.str,zS 2,zS 3]
 |4=>[.str,.str,zS 1,i6,i6,.str,.str,i6,.str,.str,.str,.str,.str,zS 2,zS 3,i6,.str,.str,i6,.str,.str,.str,.str,.str,zS 2,zS 3,i6,.str,.str,i6,.str,.str,.str,.str,.str,zS 2,zS 3]
 |5=>[.str,zS 1]
 |6=>[.str,.str,zS 1,.bool,i6,.str,.str,i6,.str,.str,.str,.str,.str,zS 2,zS 3]
 |7=>[.str,.str,i6,i6,.str,.str,.str,.str,.str,zS 2]
 |8=>[.str,.str,zS 7]
 |9=>[.str,.str,i6,.str,.str,i6,.str,.str,.str,.str,.str,zS 2,zS 3]
 |10=>[zS 3,.sl (zS 9)]
 |11=>[.str,.str,zS 1,i6,.str,.str,i6,.str,.str,.str,.str,.str,zS 2,zS 3]
 |12=>[i6,i6,i6,.str,.str,i6,.str,.str,i6,.str,.str,.str,.str,.str,zS 2,zS 3,i6,.str,.str,i6,.str,.str,.str,.str,.str,zS 2,zS 3,zS 3,zS 9,.sl i6,zS 10,zS 11,zS 2]
 |13=>[.str,.str,.str,.str]
 |14=>[.str,.str,i6,zS 3,.str,.str,i6,.str,.str,i6,.str,.str,.str,.str,.str,zS 2,zS 3,i6,.str,.str,i6,.str,.str,.str,.str,.str,zS 2,zS 3,zS 3,i6,zS 13,i6,.str,.str]
 |15=>[i6,.str,.str,.str,zS 1,.str,.str,zS 1,.bool,i6,.str,.str,i6,.str,.str,.str,.str,.str,zS 2,zS 3,zS 4,zS 3,.sl (zS 12),zS 15,.str,.str,zS 7,zS 14,zS 1,zS 1,.str,(.int .u64)]
 |16=>[.str,i6,.str,.str,i6,.str,.str,.str,.str,.str,zS 2,zS 3,i6]
 |17=>[.str,.str,i6,.str,.str,.str,.str,.str,zS 2]
 |18=>[i6,i6]
 |19=>[zS 15,i6]
 |20=>[i6,i6,.str,.str,.str]
 |21=>[zS 5,.str,zS 20,i6]
 |22=>[zS 15,zS 4,i6]
 |23=>[.str,i6]
 |_+24=>[.bool,(.sl (.int .u32))]
def U0:hJ:=⟨D0,fs0,nH,CE,fU,eq0,a87,nJ,lt0⟩
def bNa(x:au):gd (.v x)=ae:=rfl
def bFH(s:List UInt8):gd (.str s)=ae:=rfl
def dW(z:Nat)(l:List PV):(eD z l).cells=[eD z l]:=oY (eT _ _)
def eN(x:au):(PV.v x).cells=[.v x]:=rfl
def dV(x:List UInt8):(PV.str x).cells=[.str x]:=rfl
def dX(x:List PV):(PV.agg x).cells=x:=rfl
def bDW: ∀x:D0 0,(fU 0 x).length=nJ 0:=λ(x:G.Z)=>by rfl
def aTe: ∀x:D0 1,(fU 1 x).length=nJ 1:=λ(x:G.Y)=>by rfl
def gC: ∀y:G.Y,(G.eSymbol y).length=2:=aTe
def aTd: ∀x:D0 2,(fU 2 x).length=nJ 2:=λ(x:G.O)=>by
 cases x;show(G.eObject _).length=7;simp only[G.eObject,aZ,aM,aX,gC]
def BU: ∀y:G.O,(G.eObject y).length=7:=aTd
def aTc: ∀x:D0 3,(fU 3 x).length=nJ 3:=λ(x:G.T)=>by
 cases x;show(G.eTerm _).length=11;simp only[G.eTerm,aZ,aM,aX,gC,BU]
def sJ: ∀y:G.T,(G.eTerm y).length=11:=aTc
def bDV: ∀x:D0 4,(fU 4 x).length=nJ 4:=λ(x:G.F)=>by
 show(G.eFunction _).length=37;simp only[G.eFunction,aZ,aM,aX,gC,sJ]
def aTb: ∀x:D0 5,(fU 5 x).length=nJ 5:=λ(x:G.A)=>by rfl
def TH: ∀y:G.A,(G.ePackage y).length=2:=aTb
def aTa: ∀x:D0 6,(fU 6 x).length=nJ 6:=λ(x:G.M)=>by
 show(G.eMacro _).length=15;simp only[G.eMacro,aZ,aM,aX,gC,sJ]
def aGN: ∀y:G.M,(G.eMacro y).length=15:=aTa
def bDU: ∀x:D0 7,(fU 7 x).length=nJ 7:=λ(x:G.D)=>by
 show(G.eField _).length=10;simp only[G.eField,aZ,aM,aX,gC,BU]
def aS9: ∀x:D0 8,(fU 8 x).length=nJ 8:=λ(x:G.B)=>by
 show(G.eStobj _).length=3;simp only[G.eStobj,aZ,aM,aX,gC]
def aGM: ∀y:G.B,(G.eStobj y).length=3:=aS9
def bDT: ∀x:D0 9,(fU 9 x).length=nJ 9:=λ(x:G.I)=>by
 show(G.eAssign _).length=13;simp only[G.eAssign,aZ,aM,aX,gC,sJ]
def a3G: ∀x:D0 10,(fU 10 x).length=nJ 10:=λ(x:G.C)=>by rfl
def a3F: ∀x:D0 11,(fU 11 x).length=nJ 11:=λ(x:G.J)=>by
 show(G.eLambda _).length=14;simp only[G.eLambda,aZ,aM,aX,gC,sJ]
def a3E: ∀x:D0 12,(fU 12 x).length=nJ 12:=λ(x:G.N)=>by
 show(G.eLine _).length=33;simp only[G.eLine,aZ,aM,aX,gC,sJ]
def a3D: ∀x:D0 13,(fU 13 x).length=nJ 13:=λ(x:G.Q)=>by
 show(G.ePairSymbol _).length=4;simp only[G.ePairSymbol,aZ,aM,aX,gC]
def a3C: ∀x:D0 14,(fU 14 x).length=nJ 14:=λ(x:G.U)=>by
 show(G.eRule _).length=34;simp only[G.eRule,aZ,aM,aX,gC,sJ]
def a3B: ∀x:D0 15,(fU 15 x).length=nJ 15:=λ(x:G.E)=>by
 cases x;show(G.eEntry _).length=32;simp only[G.eEntry,aZ,aM,aX,gC,TH,aGN,aGM]
def a3A: ∀x:D0 16,(fU 16 x).length=nJ 16:=λ(x:G.L)=>by
 show(G.eLemma _).length=13;simp only[G.eLemma,aZ,aM,aX,sJ]
def a3z: ∀x:D0 17,(fU 17 x).length=nJ 17:=λ(x:G.S)=>by
 show(G.eBinding _).length=9;simp only[G.eBinding,aZ,aM,aX,gC,BU]
def a3y: ∀x:D0 18,(fU 18 x).length=nJ 18:=λ(x:G.X)=>by rfl
def a3x: ∀x:D0 19,(fU 19 x).length=nJ 19:=λ(x:G.W)=>by rfl
def a3w: ∀x:D0 20,(fU 20 x).length=nJ 20:=λ(x:G.K)=>by rfl
def a3v: ∀x:D0 21,(fU 21 x).length=nJ 21:=λ(x:G.P)=>by rfl
def a3u: ∀x:D0 22,(fU 22 x).length=nJ 22:=λ(x:G.V)=>by rfl
def a3t: ∀x:D0 23,(fU 23 x).length=nJ 23:=λ(x:G.R)=>by rfl
def a3s(k:Nat): ∀x:D0 (k+24),(fU (k+24) x).length=nJ (k+24):=λ(x:G.Integer)=>by rfl
def Df:(∀(a b:List PV) (p:PV->Bool),(a++b).all p=(a.all p&&b.all p))/\(∀(a:PV) (l:List PV) (p:PV->Bool),(a::l).all p=(p a&&l.all p))/\(∀p:PV->Bool,([]:List PV).all p=ae)/\(∀(z:Nat) (l:List PV),gd (eD z l)=ae)/\(∀x:au,gd (.v x)=ae)/\(∀s:List UInt8,gd (.str s)=ae)/\(∀b:Bool,(b&&b)=b)/\∀b:Bool,(b&&ae)=b:=⟨λ_ _ _=>List.all_append,λ_ _ _=>aP,λ_=>List.all_nil,eT,bNa,bFH,Bool.and_self,bE⟩
def bNe: ∀x:D0 0,(fU 0 x).all gd=ae:=λ(x:G.Z)=>by
 show(G.eSource _).all gd=ae;simp only[G.eSource,Df]
def bF2: ∀x:D0 1,(fU 1 x).all gd=ae:=λ(x:G.Y)=>by
 show(G.eSymbol _).all gd=ae;simp only[G.eSymbol,Df]
def gY: ∀y:G.Y,(G.eSymbol y).all gd=ae:=bF2
def bFR: ∀x:D0 2,(fU 2 x).all gd=ae:=λ(x:G.O)=>by
 cases x;show(G.eObject _).all gd=ae;simp only[G.eObject,Df,gY]
def E4: ∀y:G.O,(G.eObject y).all gd=ae:=bFR
def bFL: ∀x:D0 3,(fU 3 x).all gd=ae:=λ(x:G.T)=>by
 cases x;show(G.eTerm _).all gd=ae;simp only[G.eTerm,Df,gY,E4]
def Ag: ∀y:G.T,(G.eTerm y).all gd=ae:=bFL
def bNd: ∀x:D0 4,(fU 4 x).all gd=ae:=λ(x:G.F)=>by
 show(G.eFunction _).all gd=ae;simp only[G.eFunction,Df,gY,Ag]
def bFK: ∀x:D0 5,(fU 5 x).all gd=ae:=λ(x:G.A)=>by
 show(G.ePackage _).all gd=ae;simp only[G.ePackage,Df]
def aCQ: ∀y:G.A,(G.ePackage y).all gd=ae:=bFK
def bFJ: ∀x:D0 6,(fU 6 x).all gd=ae:=λ(x:G.M)=>by
 show(G.eMacro _).all gd=ae;simp only[G.eMacro,Df,gY,Ag]
def aPi: ∀y:G.M,(G.eMacro y).all gd=ae:=bFJ
def bNc: ∀x:D0 7,(fU 7 x).all gd=ae:=λ(x:G.D)=>by
 show(G.eField _).all gd=ae;simp only[G.eField,Df,gY,E4]
def bFI: ∀x:D0 8,(fU 8 x).all gd=ae:=λ(x:G.B)=>by
 show(G.eStobj _).all gd=ae;simp only[G.eStobj,Df,gY]
def aPh: ∀y:G.B,(G.eStobj y).all gd=ae:=bFI
def bNb: ∀x:D0 9,(fU 9 x).all gd=ae:=λ(x:G.I)=>by
 show(G.eAssign _).all gd=ae;simp only[G.eAssign,Df,gY,Ag]
def bF1: ∀x:D0 10,(fU 10 x).all gd=ae:=λ(x:G.C)=>by
 show(G.eCase _).all gd=ae;simp only[G.eCase,Df]
def bF0: ∀x:D0 11,(fU 11 x).all gd=ae:=λ(x:G.J)=>by
 show(G.eLambda _).all gd=ae;simp only[G.eLambda,Df,gY,Ag]
def bFZ: ∀x:D0 12,(fU 12 x).all gd=ae:=λ(x:G.N)=>by
 show(G.eLine _).all gd=ae;simp only[G.eLine,Df,gY,Ag]
def bFY: ∀x:D0 13,(fU 13 x).all gd=ae:=λ(x:G.Q)=>by
 show(G.ePairSymbol _).all gd=ae;simp only[G.ePairSymbol,Df,gY]
def bFX: ∀x:D0 14,(fU 14 x).all gd=ae:=λ(x:G.U)=>by
 show(G.eRule _).all gd=ae;simp only[G.eRule,Df,gY,Ag]
def bFW: ∀x:D0 15,(fU 15 x).all gd=ae:=λ(x:G.E)=>by
 cases x;show(G.eEntry _).all gd=ae;simp only[G.eEntry,Df,gY,aCQ,aPi,aPh]
def bFV: ∀x:D0 16,(fU 16 x).all gd=ae:=λ(x:G.L)=>by
 show(G.eLemma _).all gd=ae;simp only[G.eLemma,Df,Ag]
def bFU: ∀x:D0 17,(fU 17 x).all gd=ae:=λ(x:G.S)=>by
 show(G.eBinding _).all gd=ae;simp only[G.eBinding,Df,gY,E4]
def bFT: ∀x:D0 18,(fU 18 x).all gd=ae:=λ(x:G.X)=>by
 show(G.eSourceError _).all gd=ae;simp only[G.eSourceError,Df]
def bFS: ∀x:D0 19,(fU 19 x).all gd=ae:=λ(x:G.W)=>by
 show(G.eEvaluator _).all gd=ae;simp only[G.eEvaluator,Df]
def bFQ: ∀x:D0 20,(fU 20 x).all gd=ae:=λ(x:G.K)=>by
 show(G.eToken _).all gd=ae;simp only[G.eToken,Df]
def bFP: ∀x:D0 21,(fU 21 x).all gd=ae:=λ(x:G.P)=>by
 show(G.eParser _).all gd=ae;simp only[G.eParser,Df]
def bFO: ∀x:D0 22,(fU 22 x).all gd=ae:=λ(x:G.V)=>by
 show(G.eTranslator _).all gd=ae;simp only[G.eTranslator,Df]
def bFN: ∀x:D0 23,(fU 23 x).all gd=ae:=λ(x:G.R)=>by
 show(G.eRow _).all gd=ae;simp only[G.eRow,Df]
def bFM(k:Nat): ∀x:D0 (k+24),(fU (k+24) x).all gd=ae:=λ(x:G.Integer)=>by
 show(G.eInteger _).all gd=ae;simp only[G.eInteger,Df]
def iK:=And.intro G.lSource_map (And.intro G.lSymbol_map (And.intro G.lObject_map (And.intro G.lTerm_map (And.intro G.lFunction_map (And.intro G.lPackage_map (And.intro G.lMacro_map (And.intro G.lField_map (And.intro G.lStobj_map (And.intro G.lAssign_map (And.intro G.lCase_map (And.intro G.lLambda_map (And.intro G.lLine_map (And.intro G.lPairSymbol_map (And.intro G.lRule_map (And.intro G.lEntry_map (And.intro G.lLemma_map (And.intro G.lBinding_map (And.intro G.lSourceError_map (And.intro G.lEvaluator_map (And.intro G.lToken_map (And.intro G.lParser_map (And.intro G.lTranslator_map (And.intro G.lRow_map G.lInteger_map)))))))))))))))))))))))
def bGk: ∀x:D0 0,fU 0 x=(nH 0 x).flatMap λv=>(dK U0 v.t v.x).cells:=λ(x:G.Z)=>by
 show G.eSource _=_;simp only[G.eSource,nH,aN,bB,dK,dW,eN,dV,dX,bA,aQ,aR,aY,aW,dJ,U0,nJ,fU,iK]
 try rfl
def bGj: ∀x:D0 1,fU 1 x=(nH 1 x).flatMap λv=>(dK U0 v.t v.x).cells:=λ(x:G.Y)=>by
 show G.eSymbol _=_;simp only[G.eSymbol,nH,aN,bB,dK,dW,eN,dV,dX,bA,aQ,aR,aY,aW,dJ,U0,nJ,fU,iK]
 try rfl
def bGi: ∀x:D0 2,fU 2 x=(nH 2 x).flatMap λv=>(dK U0 v.t v.x).cells:=λ(x:G.O)=>by
 cases x;show G.eObject _=_;simp only[G.eObject,nH,aN,bB,dK,dW,eN,dV,dX,bA,aQ,aR,aY,aW,dJ,U0,nJ,fU,iK,G.O.kind,G.O.num,G.O.den,G.O.sym,G.O.text,G.O.pair]
 try rfl
def bGh: ∀x:D0 3,fU 3 x=(nH 3 x).flatMap λv=>(dK U0 v.t v.x).cells:=λ(x:G.T)=>by
 cases x;show G.eTerm _=_;simp only[G.eTerm,nH,aN,bB,dK,dW,eN,dV,dX,bA,aQ,aR,aY,aW,dJ,U0,nJ,fU,iK,G.T.kind,G.T.name,G.T.value,G.T.args]
 try rfl
def bGg: ∀x:D0 4,fU 4 x=(nH 4 x).flatMap λv=>(dK U0 v.t v.x).cells:=λ(x:G.F)=>by
 show G.eFunction _=_;simp only[G.eFunction,nH,aN,bB,dK,dW,eN,dV,dX,bA,aQ,aR,aY,aW,dJ,U0,nJ,fU,iK]
 try rfl
def bGf: ∀x:D0 5,fU 5 x=(nH 5 x).flatMap λv=>(dK U0 v.t v.x).cells:=λ(x:G.A)=>by
 show G.ePackage _=_;simp only[G.ePackage,nH,aN,bB,dK,dW,eN,dV,dX,bA,aQ,aR,aY,aW,dJ,U0,nJ,fU,iK]
 try rfl
def bGe: ∀x:D0 6,fU 6 x=(nH 6 x).flatMap λv=>(dK U0 v.t v.x).cells:=λ(x:G.M)=>by
 show G.eMacro _=_;simp only[G.eMacro,nH,aN,bB,dK,dW,eN,dV,dX,bA,aQ,aR,aY,aW,dJ,U0,nJ,fU,iK]
 try rfl
def bGd: ∀x:D0 7,fU 7 x=(nH 7 x).flatMap λv=>(dK U0 v.t v.x).cells:=λ(x:G.D)=>by
 show G.eField _=_;simp only[G.eField,nH,aN,bB,dK,dW,eN,dV,dX,bA,aQ,aR,aY,aW,dJ,U0,nJ,fU,iK]
 try rfl
def bGc: ∀x:D0 8,fU 8 x=(nH 8 x).flatMap λv=>(dK U0 v.t v.x).cells:=λ(x:G.B)=>by
 show G.eStobj _=_;simp only[G.eStobj,nH,aN,bB,dK,dW,eN,dV,dX,bA,aQ,aR,aY,aW,dJ,U0,nJ,fU,iK]
 try rfl
def bGb: ∀x:D0 9,fU 9 x=(nH 9 x).flatMap λv=>(dK U0 v.t v.x).cells:=λ(x:G.I)=>by
 show G.eAssign _=_;simp only[G.eAssign,nH,aN,bB,dK,dW,eN,dV,dX,bA,aQ,aR,aY,aW,dJ,U0,nJ,fU,iK]
 try rfl
def a6v: ∀x:D0 10,fU 10 x=(nH 10 x).flatMap λv=>(dK U0 v.t v.x).cells:=λ(x:G.C)=>by
 show G.eCase _=_;simp only[G.eCase,nH,aN,bB,dK,dW,eN,dV,dX,bA,aQ,aR,aY,aW,dJ,U0,nJ,fU,iK]
 try rfl
def a6u: ∀x:D0 11,fU 11 x=(nH 11 x).flatMap λv=>(dK U0 v.t v.x).cells:=λ(x:G.J)=>by
 show G.eLambda _=_;simp only[G.eLambda,nH,aN,bB,dK,dW,eN,dV,dX,bA,aQ,aR,aY,aW,dJ,U0,nJ,fU,iK]
 try rfl
def a6t: ∀x:D0 12,fU 12 x=(nH 12 x).flatMap λv=>(dK U0 v.t v.x).cells:=λ(x:G.N)=>by
 show G.eLine _=_;simp only[G.eLine,nH,aN,bB,dK,dW,eN,dV,dX,bA,aQ,aR,aY,aW,dJ,U0,nJ,fU,iK]
 try rfl
def a6s: ∀x:D0 13,fU 13 x=(nH 13 x).flatMap λv=>(dK U0 v.t v.x).cells:=λ(x:G.Q)=>by
 show G.ePairSymbol _=_;simp only[G.ePairSymbol,nH,aN,bB,dK,dW,eN,dV,dX,bA,aQ,aR,aY,aW,dJ,U0,nJ,fU,iK]
 try rfl
def a6r: ∀x:D0 14,fU 14 x=(nH 14 x).flatMap λv=>(dK U0 v.t v.x).cells:=λ(x:G.U)=>by
 show G.eRule _=_;simp only[G.eRule,nH,aN,bB,dK,dW,eN,dV,dX,bA,aQ,aR,aY,aW,dJ,U0,nJ,fU,iK]
 try rfl
def a6q: ∀x:D0 15,fU 15 x=(nH 15 x).flatMap λv=>(dK U0 v.t v.x).cells:=λ(x:G.E)=>by
 cases x;show G.eEntry _=_;simp only[G.eEntry,nH,aN,bB,dK,dW,eN,dV,dX,bA,aQ,aR,aY,aW,dJ,U0,nJ,fU,iK,G.E.kind,G.E.name,G.E.package,G.E.mac,G.E.functions,G.E.formulas,G.E.logs,G.E.locl,G.E.stobj,G.E.rules,G.E.enabled,G.E.disabled,G.E.text,G.E.hash]
 try rfl
def a6p: ∀x:D0 16,fU 16 x=(nH 16 x).flatMap λv=>(dK U0 v.t v.x).cells:=λ(x:G.L)=>by
 show G.eLemma _=_;simp only[G.eLemma,nH,aN,bB,dK,dW,eN,dV,dX,bA,aQ,aR,aY,aW,dJ,U0,nJ,fU,iK]
 try rfl
def a6o: ∀x:D0 17,fU 17 x=(nH 17 x).flatMap λv=>(dK U0 v.t v.x).cells:=λ(x:G.S)=>by
 show G.eBinding _=_;simp only[G.eBinding,nH,aN,bB,dK,dW,eN,dV,dX,bA,aQ,aR,aY,aW,dJ,U0,nJ,fU,iK]
 try rfl
def a6n: ∀x:D0 18,fU 18 x=(nH 18 x).flatMap λv=>(dK U0 v.t v.x).cells:=λ(x:G.X)=>by
 show G.eSourceError _=_;simp only[G.eSourceError,nH,aN,bB,dK,dW,eN,dV,dX,bA,aQ,aR,aY,aW,dJ,U0,nJ,fU,iK]
 try rfl
def a6m: ∀x:D0 19,fU 19 x=(nH 19 x).flatMap λv=>(dK U0 v.t v.x).cells:=λ(x:G.W)=>by
 show G.eEvaluator _=_;simp only[G.eEvaluator,nH,aN,bB,dK,dW,eN,dV,dX,bA,aQ,aR,aY,aW,dJ,U0,nJ,fU,iK]
 try rfl
def a6l: ∀x:D0 20,fU 20 x=(nH 20 x).flatMap λv=>(dK U0 v.t v.x).cells:=λ(x:G.K)=>by
 show G.eToken _=_;simp only[G.eToken,nH,aN,bB,dK,dW,eN,dV,dX,bA,aQ,aR,aY,aW,dJ,U0,nJ,fU,iK]
 try rfl
def a6k: ∀x:D0 21,fU 21 x=(nH 21 x).flatMap λv=>(dK U0 v.t v.x).cells:=λ(x:G.P)=>by
 show G.eParser _=_;simp only[G.eParser,nH,aN,bB,dK,dW,eN,dV,dX,bA,aQ,aR,aY,aW,dJ,U0,nJ,fU,iK]
 try rfl
def a6j: ∀x:D0 22,fU 22 x=(nH 22 x).flatMap λv=>(dK U0 v.t v.x).cells:=λ(x:G.V)=>by
 show G.eTranslator _=_;simp only[G.eTranslator,nH,aN,bB,dK,dW,eN,dV,dX,bA,aQ,aR,aY,aW,dJ,U0,nJ,fU,iK]
 try rfl
def a6i: ∀x:D0 23,fU 23 x=(nH 23 x).flatMap λv=>(dK U0 v.t v.x).cells:=λ(x:G.R)=>by
 show G.eRow _=_;simp only[G.eRow,nH,aN,bB,dK,dW,eN,dV,dX,bA,aQ,aR,aY,aW,dJ,U0,nJ,fU,iK]
 try rfl
def a6h(k:Nat): ∀x:D0 (k+24),fU (k+24) x=(nH (k+24) x).flatMap λv=>(dK U0 v.t v.x).cells:=λ(x:G.Integer)=>by
 show G.eInteger _=_;simp only[G.eInteger,nH,aN,bB,dK,dW,eN,dV,dX,bA,aQ,aR,aY,aW,dJ,U0,nJ,fU,iK]
 try rfl
def bBW:hQ U0 where
 eqc:=by
  intro n f x h
  match n,f,x,h with
  |0,f,x,h=>cases h
  |1,f,x,h=>cases h;rfl
  |2,f,x,h=>cases h
  |3,f,x,h=>cases h
  |4,f,x,h=>cases h
  |5,f,x,h=>cases h
  |6,f,x,h=>cases h
  |7,f,x,h=>cases h
  |8,f,x,h=>cases h
  |9,f,x,h=>cases h
  |10,f,x,h=>cases h
  |11,f,x,h=>cases h
  |12,f,x,h=>cases h
  |13,f,x,h=>cases h;rfl
  |14,f,x,h=>cases h
  |15,f,x,h=>cases h
  |16,f,x,h=>cases h
  |17,f,x,h=>cases h
  |18,f,x,h=>cases h
  |19,f,x,h=>cases h
  |20,f,x,h=>cases h
  |21,f,x,h=>cases h
  |22,f,x,h=>cases h
  |23,f,x,h=>cases h
  |k+24,f,x,h=>cases h
 ty:=λn=>match n with|0=>λ_=>rfl|1=>λ_=>rfl|2=>λ_=>rfl|3=>λ_=>rfl|4=>λ_=>rfl|5=>λ_=>rfl|6=>λ_=>rfl|7=>λ_=>rfl|8=>λ_=>rfl|9=>λ_=>rfl|10=>λ_=>rfl|11=>λ_=>rfl|12=>λ_=>rfl|13=>λ_=>rfl|14=>λ_=>rfl|15=>λ_=>rfl|16=>λ_=>rfl|17=>λ_=>rfl|18=>λ_=>rfl|19=>λ_=>rfl|20=>λ_=>rfl|21=>λ_=>rfl|22=>λ_=>rfl|23=>λ_=>rfl|k+24=>λ_=>rfl
 un_of:=by
  intro n l x h
  match n,x,h with
  |0,x,h=>
   simp only[U0,CE]at h;split at h
   .rename_i r hr;cases h;exact dM hr
   .cases h
  |1,x,h=>
   simp only[U0,CE]at h;split at h
   .rename_i r hr;cases h;exact dM hr
   .cases h
  |2,x,h=>
   simp only[U0,CE]at h;split at h
   .rename_i r hr;cases h;exact dM hr
   .cases h
  |3,x,h=>
   simp only[U0,CE]at h;split at h
   .rename_i r hr;cases h;exact dM hr
   .cases h
  |4,x,h=>
   simp only[U0,CE]at h;split at h
   .rename_i r hr;cases h;exact dM hr
   .cases h
  |5,x,h=>
   simp only[U0,CE]at h;split at h
   .rename_i r hr;cases h;exact dM hr
   .cases h
  |6,x,h=>
   simp only[U0,CE]at h;split at h
   .rename_i r hr;cases h;exact dM hr
   .cases h
  |7,x,h=>
   simp only[U0,CE]at h;split at h
   .rename_i r hr;cases h;exact dM hr
   .cases h
  |8,x,h=>
   simp only[U0,CE]at h;split at h
   .rename_i r hr;cases h;exact dM hr
   .cases h
  |9,x,h=>
   simp only[U0,CE]at h;split at h
   .rename_i r hr;cases h;exact dM hr
   .cases h
  |10,x,h=>
   simp only[U0,CE]at h;split at h
   .rename_i r hr;cases h;exact dM hr
   .cases h
  |11,x,h=>
   simp only[U0,CE]at h;split at h
   .rename_i r hr;cases h;exact dM hr
   .cases h
  |12,x,h=>
   simp only[U0,CE]at h;split at h
   .rename_i r hr;cases h;exact dM hr
   .cases h
  |13,x,h=>
   simp only[U0,CE]at h;split at h
   .rename_i r hr;cases h;exact dM hr
   .cases h
  |14,x,h=>
   simp only[U0,CE]at h;split at h
   .rename_i r hr;cases h;exact dM hr
   .cases h
  |15,x,h=>
   simp only[U0,CE]at h;split at h
   .rename_i r hr;cases h;exact dM hr
   .cases h
  |16,x,h=>
   simp only[U0,CE]at h;split at h
   .rename_i r hr;cases h;exact dM hr
   .cases h
  |17,x,h=>
   simp only[U0,CE]at h;split at h
   .rename_i r hr;cases h;exact dM hr
   .cases h
  |18,x,h=>
   simp only[U0,CE]at h;split at h
   .rename_i r hr;cases h;exact dM hr
   .cases h
  |19,x,h=>
   simp only[U0,CE]at h;split at h
   .rename_i r hr;cases h;exact dM hr
   .cases h
  |20,x,h=>
   simp only[U0,CE]at h;split at h
   .rename_i r hr;cases h;exact dM hr
   .cases h
  |21,x,h=>
   simp only[U0,CE]at h;split at h
   .rename_i r hr;cases h;exact dM hr
   .cases h
  |22,x,h=>
   simp only[U0,CE]at h;split at h
   .rename_i r hr;cases h;exact dM hr
   .cases h
  |23,x,h=>
   simp only[U0,CE]at h;split at h
   .rename_i r hr;cases h;exact dM hr
   .cases h
  |k+24,x,h=>
   simp only[U0,CE]at h;split at h
   .rename_i r hr;cases h;exact dM hr
   .cases h
 en:=λn=>match n with|0=>bGk|1=>bGj|2=>bGi|3=>bGh|4=>bGg|5=>bGf|6=>bGe|7=>bGd|8=>bGc|9=>bGb|10=>a6v|11=>a6u|12=>a6t|13=>a6s|14=>a6r|15=>a6q|16=>a6p|17=>a6o|18=>a6n|19=>a6m|20=>a6l|21=>a6k|22=>a6j|23=>a6i|k+24=>a6h k
 len:=λn=>match n with|0=>bDW|1=>aTe|2=>aTd|3=>aTc|4=>bDV|5=>aTb|6=>aTa|7=>bDU|8=>aS9|9=>bDT|10=>a3G|11=>a3F|12=>a3E|13=>a3D|14=>a3C|15=>a3B|16=>a3A|17=>a3z|18=>a3y|19=>a3x|20=>a3w|21=>a3v|22=>a3u|23=>a3t|k+24=>a3s k
 sz:=λn=>by
    iterate 24 (rcases n with _|n; · kernel_rfl)
    kernel_rfl
 zc:=λn=>by
    iterate 24 (rcases n with _|n; · kernel_rfl)
    kernel_rfl
 nz:=λn=>by
    iterate 24 (rcases n with _|n; · kernel_rfl)
    kernel_rfl
 zero:=λn=>by
    iterate 24 (rcases n with _|n; · kernel_rfl)
    kernel_rfl
 lt:=λn=>by
    iterate 24 (rcases n with _|n; · kernel_rfl)
    kernel_rfl
 ltl:=λn=>by
    iterate 24 (rcases n with _|n; · kernel_rfl)
    kernel_rfl
 gd:=λn=>match n with|0=>bNe|1=>bF2|2=>bFR|3=>bFL|4=>bNd|5=>bFK|6=>bFJ|7=>bNc|8=>bFI|9=>bNb|10=>bF1|11=>bF0|12=>bFZ|13=>bFY|14=>bFX|15=>bFW|16=>bFV|17=>bFU|18=>bFT|19=>bFS|20=>bFQ|21=>bFP|22=>bFO|23=>bFN|k+24=>bFM k
 pos:=λn=>bK (by
    iterate 24 (rcases n with _|n; · kernel_rfl)
    kernel_rfl)
end Go.TV
namespace Go.AI
section
variable{P:aw}
def aCd{N:Type}{c:Prop}[Decidable c]{a b:Sem N}:cJ P (if c then a else b)=if c then cJ P a else cJ P b:=by split<;>rfl
def C4{d:Nat}{t:av}{fs:Array Field}{xs ys:Array au}(ht:P.underlying t=aa (.struct fs))(hp:P.stoodInHeld t=ah):
    cJ P (Op.equalIn (d+1) t (.agg xs) (.agg ys))=cJ P (Op.eqFields d xs ys fs.toList):=by
 rw[Op.equalIn.eq_2,bM,bU,ht];simp only[aL];rw[bM];have:cJ P program=aa P:=rfl;rw[this];simp only[aL,hp,Bool.false_eq_true,if_false];rw[<-Array.forIn_toList];generalize fs.toList=l;clear ht;induction l with
 |nil=>simp[Op.eqFields,bM,bS]
 |cons f l ih=>
  simp only[List.forIn_cons,Op.eqFields,bM,aCd];split
  .cases cJ P (part f.type xs f.offset)with
   |none=>rfl
   |some a=>
    cases cJ P (part f.type ys f.offset)with
    |none=>rfl
    |some b=>
     simp only[aL];cases cJ P (Op.equalIn d f.type a b)with
     |none=>rfl
     |some r=>
      cases r with
      |false=>simp[bS]
      |true=>
       simp only[aL,bD,Bool.false_eq_true,if_false,bS];simpa only[bM]using ih
  .simp only[bS,aL];simpa only[bM]using ih
def R6{t:av}{x y:az}{xs ys:Array au}{r:Bool}(h1:xs.toList.all bQ=ae)(h2:ys.toList.all bQ=ae)(hg:cJ P (eqGuard .eql t x y (.agg xs) (.agg ys))=aa ())(he:cJ P (Op.equal t (.agg xs) (.agg ys))=aa r):
    gT P .eql t x y (.agg xs) (.agg ys)=aa (.bool r):=by
 simp only[gT,cN,h1,h2,Bool.and_self,aI,cS,bM,hg,aL,binOp,he,bS,bQ]
def R5{t:av}{x y:az}{xs ys:Array au}{r:Bool}(h1:xs.toList.all bQ=ae)(h2:ys.toList.all bQ=ae)(hg:cJ P (eqGuard .neq t x y (.agg xs) (.agg ys))=aa ())(he:cJ P (Op.equal t (.agg xs) (.agg ys))=aa r):
    gT P .neq t x y (.agg xs) (.agg ys)=aa (.bool (!r)):=by
 simp only[gT,cN,h1,h2,Bool.and_self,aI,cS,bM,hg,aL,binOp,he,bS,bQ]
end
end Go.AI
namespace Go.TV
open Go.AI Go.PI
def Rr:List (Nat×Ty)->Nat->Option Ty
 |[],_=>ad
 |(k,t)::l,i=>bif am k i then aa t else Rr l i
def B2: ∀{l:List (Nat×Ty)} {i:Nat} {t:Ty},Rr l i=aa t->(i,t)∈l
 |(k,t)::l,i,u,h=>by
  unfold Rr at h;cases hb:am k i with
  |true=>rw[hb]at h;cases h;rw[aE hb];exact aH ..
  |false=>rw[hb]at h;exact aG _ (B2 h)
def aHI:List (Nat×Nat)->Nat->Option Nat
 |[],_=>ad
 |(k,t)::l,i=>bif am k i then aa t else aHI l i
def aPv:List (Nat×Nat)->List (Nat×Nat)->Bool
 |[],[]=>ae
 |(a,b)::l,(c,d)::r=>am a c&&am b d&&aPv l r
 |_,_=>ah
def aAU: ∀{l r:List (Nat×Nat)},aPv l r=ae->l=r
 |[],[],_=>rfl
 |(a,b)::l,(c,d)::r,h=>by
  simp only[aPv,aC,dN,aD]at h;rw[h.1.1,h.1.2,aAU h.2]
 |[],_::_,h=>by cases h
 |_::_,[],h=>by cases h
section
variable(P:aw)(T:TP U0.D)
def aOF:List Field->List Ty->Nat->Bool
 |[],[],_=>ae
 |f::fs,t::ts,o=>(match T.T.ty f.type with|some u=>u.beq t|none=>ah)&&am f.offset o&&aOF fs ts (o+dJ U0 t)
 |_,_,_=>ah
def aOz(id:Nat)(t:Ty):Bool:=
 match t,P.underlying id with
 | .int k,aa (.int j)=>decide (k=j)
 | .bool,aa .bool=>ae
 | .str,aa .string=>ae
 | .sl e,aa (.slice i)=>(match T.T.ty i with|some u=>u.beq e|none=>ah)&&(match T.el id with|some j=>am i j|none=>ah)
 | .rc n,aa (.struct fs)=>aOF T fs.toList (U0.fs n) 0&&(match cJ P (fs.mapM λf=>do pure (f.offset,<-Go.sizeOf f.type))with|some pl=>aPv pl.toList (aCz U0 (U0.fs n) 0)|none=>ah)
 | .rc n,_=>T.T.arr id
 |_,_=>ah
def CD(x:Nat×Ty):Bool:=
 (match jT P x.1 with|some b=>(b==lV x.2)|none=>ah)&&
 (match iH P x.1 with|some n=>am n (dJ U0 x.2)|none=>ah)&&
 (match zeroCells P x.1 with|some z=>aDD z (P1 U0 x.2)|none=>ah)&&
 aOz P T x.1 x.2&&
 (match P.info? x.1 with
  |some i=>am i.size (dJ U0 x.2)&&am i.bytes (T.T.by' x.1)&&an 1 i.bytes&&(match i.zero with|some z=>am z.cells.size i.size&&aDD (ofVs z.cells.toList) (P1 U0 x.2)&&z.cells.toList.all bQ|none=>ah)
  |none=>ah)
def a2L(id:Nat):Bool:=
 (match jT P id with|some b=> !b|none=>ah)&&(match iH P id with|some n=>am n 1|none=>ah)&&(match zeroCells P id with|some z=>aDD z [.v .nilFunc]|none=>ah)
variable{P T}
def aAr: ∀{fs:List Field} {ts:List Ty} {o:Nat},aOF T fs ts o=ae->fs.length=ts.length/\∀i f,fs[i]?=aa f->T.T.ty f.type=ts[i]?/\f.offset=o+eQ U0 (ts.take i)
 |[],[],o,_=>⟨rfl,λi f h=>by simp at h⟩
 |f::fs,t::ts,o,h=>by
  simp only[aOF,aC,dN,aD]at h;obtain⟨⟨h1,h2⟩,h3⟩:=h;obtain⟨g1,g2⟩:=aAr h3;refine⟨by rw[aM,aM,g1],λi f' hf=>?_⟩
  cases i with
  |zero=>
   simp only[aU,aA]at hf;subst hf;refine⟨?_,by rw[h2];simp[eQ]⟩
   cases hu:T.T.ty f.type with
   |none=>rw[hu]at h1;cases h1
   |some u=>rw[hu]at h1;rw[Ty.beq_eq h1];rfl
  |succ i=>
   rw[aT]at hf;obtain⟨k1,k2⟩:=g2 i f' hf;refine⟨by rw[k1,aT],by rw[k2,List.take_succ_cons,eQ,Nat.add_assoc]⟩
 |[],_::_,_,h=>by cases h
 |_::_,[],_,h=>by cases h
def aOI(P:aw)(T:TP U0.D)(id:av):Bool:=match T.T.ty id with
 |some (.rc n)=>(match P.underlying id with
  |some (.array len e)=>(match U0.fs n with
   |te::_=>(match iH P e with|some z=>am z (dJ U0 te)|none=>ah)&&am (U0.fs n).length len&&(U0.fs n).all λt=>t.beq te
   |[]=>ah)
  |_=>ah)
 |_=>ae
def aEJ{te:Ty}: ∀{l:List Ty},(l.all λt=>t.beq te)=ae->l=List.replicate l.length te
 |[],_=>rfl
 |t::l,h=>by
  simp only[aP,aC]at h;rw[aM,List.replicate_succ,<-aEJ h.2,Ty.beq_eq h.1]
def aOH{P:aw}{T:TP U0.D}{id:av}{n:Nat}(h:aOI P T id=ae)(ht:T.T.ty id=aa (.rc n)): ∃len e te,P.underlying id=aa (.array len e)/\iH P e=aa (dJ U0 te)/\U0.fs n=List.replicate len te:=by
 unfold aOI at h;rw[ht]at h;simp only at h;split at h
 .rename_i len e hu;split at h
  .rename_i te l hf;simp only[aC]at h;obtain⟨⟨h1,h2⟩,h3⟩:=h;refine⟨len,e,te,hu,?_,?_⟩
   .split at h1
    .rename_i z hz;rw[hz,aE h1]
    .cases h1
   .have:=aEJ h3;rw[aE h2]at this;exact this
  .cases h
 .cases h
def bAj{l:List (Nat×Ty)}(hl:T.T.ty=Rr l)(h:l.all (CD P T)=ae)(fy: ∀id,T.T.fn id=ae->a2L P id=ae)(vn: ∀id,T.T.arr id=ae->∀fs,P.underlying id≠aa (.struct fs))(jd: ∀id,T.T.arr id=ae->aOI P T id=ae)
    (heq: ∀id n f,T.T.ty id=aa (.rc n)->U0.eq n=aa f->∀(x y:U0.D n) (a b:az),
      lA P .eql id a b (.agg (U0.en n x)) (.agg (U0.en n y))=aa (.v (.bool (f x y)))/\lA P .neq id a b (.agg (U0.en n x)) (.agg (U0.en n y))=aa (.v (.bool (!f x y)))):rQ P U0 T:=by
 have one: ∀id t,T.T.ty id=aa t->CD P T (id,t)=ae:=λid t ht=>bJ.1 h _ (B2 (by rw[<-hl];exact ht))
 have un: ∀id t,T.T.ty id=aa t->aOz P T id t=ae:=λid t ht=>by
  have:=one id t ht;simp only[CD,aC]at this;exact this.1.2
 refine⟨λid t ht=>?_,λid t ht=>?_,λid t ht=>?_,λid t ht=>?_,λid hf=>?_,λid t ht=>?_,λid n ht ha=>?_,λid n ht ha=>?_,heq⟩
 .have:=one id t ht;simp only[CD,aC]at this;have h1:=this.1.1.1.1;split at h1
  .rename_i b hb;rw[hb];rw[eq_of_beq h1]
  .cases h1
 .have:=one id t ht;simp only[CD,aC]at this;have h1:=this.1.1.1.2;split at h1
  .rename_i b hb;rw[hb];rw[aE h1]
  .cases h1
 .have h1:=un id t ht;unfold aOz at h1;split at h1
  .rename_i k j hj;rw[of_decide_eq_true h1];exact hj
  .rename_i hj;exact hj
  .rename_i hj;exact hj
  .rename_i e i hj;simp only[aC]at h1;obtain⟨h2,h3⟩:=h1;refine⟨i,hj,?_,?_⟩
   .split at h2
    .rename_i u hu;rw[hu,Ty.beq_eq h2]
    .cases h2
   .split at h3
    .rename_i j hj2;rw[hj2,aE h3]
    .cases h3
  .rename_i n fs hj;simp only[aC]at h1;obtain⟨g1,g2⟩:=aAr h1.1;intro _;refine⟨fs,hj,by simpa using g1,λi f hf=>?_⟩
   obtain⟨k1,k2⟩:=g2 i f (by rw[Array.getElem?_toList];exact hf)
   exact⟨k1,by rw[k2,Nat.zero_add];rfl⟩
  .rename_i n _ _;intro ha;rw[h1]at ha;cases ha
  .cases h1
 .have:=one id t ht;simp only[CD,aC]at this;have h1:=this.1.1.2;split at h1
  .rename_i b hb;rw[hb,Lt h1]
  .cases h1
 .have h1:=fy id hf;simp only[a2L,aC]at h1;obtain⟨⟨h1,h2⟩,h3⟩:=h1;refine⟨?_,?_,?_⟩
  .split at h1
   .rename_i b hb;rw[hb];simpa using h1
   .cases h1
  .split at h2
   .rename_i b hb;rw[hb,aE h2]
   .cases h2
  .split at h3
   .rename_i b hb;rw[hb,Lt h3]
   .cases h3
 .have:=one id t ht;simp only[CD,aC]at this;have h1:=this.2;split at h1
  .rename_i i hi;simp only[aC]at h1;obtain⟨⟨⟨h1,h2⟩,h3⟩,h4⟩:=h1;split at h4
   .rename_i z hz;simp only[aC]at h4;exact⟨i,z,hi,aE h1,aE h2,by rwa [Nat.ble_eq]at h3,hz,aE h4.1.1,Lt h4.1.2,h4.2⟩
   .cases h4
  .cases h1
 .have h1:=un id _ ht;unfold aOz at h1;split at h1
  .rename_i e _;cases e
  .rename_i e _;cases e
  .rename_i e _;cases e
  .rename_i e _;cases e
  .rename_i n' fs e hj;cases e;simp only[aC]at h1;have h2:=h1.2;split at h2
   .rename_i pl di;exact⟨fs,pl,hj,di,aAU h2⟩
   .cases h2
  .rename_i e _ _;rw[h1]at ha;cases ha
  .cases h1
 .exact aOH (jd id ha) ht
end
section
variable{P:aw}{t:av}
def a6g(s u:List UInt8):((⟨s.toArray⟩:ByteArray)==⟨u.toArray⟩)=aj (s=u):=by
 show(s.toArray==u.toArray)=_;by_cases h:s=u
 .subst h;simp
 .simp[h]
def AC{d:Nat}{t:av}{s u:List UInt8}(h:P.underlying t=aa .string):cJ P (Op.equalIn (d+1) t (eI s) (eI u))=aa (aj (s=u)):=by
 rw[Op.equalIn.eq_2,bM,bU,h,<-a6g];rfl
def ZF{d:Nat}{ft:av}{fs:Array Field}{f g:Field}(ht:P.underlying t=aa (.struct fs))(hp:P.stoodInHeld t=ah)(hs:P.underlying ft=aa .string)(hz:jT P ft=aa ah)
    (hf : fs.toList = [f, g]) (h1 : f.name ≠ "_") (h2 : g.name ≠ "_") (e1 : f.type = ft) (e2 : g.type = ft) (o1 : f.offset = 0) (o2 : g.offset = 1) (s u : G.Y) :
    cJ P (Op.equalIn (d+1+1) t (.agg #[eI s.package,eI s.name]) (.agg #[eI u.package,eI u.name]))=aa (aj (s=u)):=by
 rw[C4 ht hp,hf];have qa: ∀(a b:au) (k:Nat) (v:au), #[a,b][k]?=aa v->cJ P (part ft #[a,b] k)=aa v:=by
  intro a b k v hk;unfold part;rw[bM];have hagg:cJ P (Go.isAgg ft)=aa ah:=by
   simp only[Go.isAgg,bM,bU];unfold jT at hz;cases hu:P.underlying ft with
   |none=>rw[hu]at hz;cases hz
   |some d=>
    rw[hu]at hz;simp only[aK,aA]at hz;cases d<;>first|rfl|simp at hz
  rw[hagg];simp only[aL,Bool.false_eq_true,if_false,hk,bS]
 have h0:=λ(x y:au)=>qa x y 0 x (by simp)
 have h3:=λ(x y:au)=>qa x y 1 y (by simp)
 simp only[Op.eqFields,h1,h2,e1,e2,o1,o2,ne_eq,not_false_eq_true,if_true,bM,h0,h3,aL];rw[AC hs,aL];cases s with|mk sp sn=>
 cases u with|mk up un=>
 simp only[G.Y.mk.injEq]at*;by_cases c1:sp=up
 .simp only[c1,decide_true,bD,Bool.false_eq_true,if_false,bM,h3,aL];rw[AC hs,aL];by_cases c2:sn=un<;>simp[c2,bS]
 .simp[c1,bS]
def aXg{ft:av}{fs:Array Field}{f g:Field}(ht:P.underlying t=aa (.struct fs))(hp:P.stoodInHeld t=ah)(hs:P.underlying ft=aa .string)(hz:jT P ft=aa ah)
    (hf : fs.toList = [f, g]) (h1 : f.name ≠ "_") (h2 : g.name ≠ "_") (e1 : f.type = ft) (e2 : g.type = ft) (o1 : f.offset = 0) (o2 : g.offset = 1) (s u : G.Y) :
    cJ P (Op.equal t (.agg #[eI s.package,eI s.name]) (.agg #[eI u.package,eI u.name]))=aa (aj (s=u)):=by
 unfold Op.equal;rw[show Op.maxDepth=9998+1+1 from rfl];exact ZF ht hp hs hz hf h1 h2 e1 e2 o1 o2 s u
def QG{ft:av}{fs:Array Field}{f g:Field}(ht:P.underlying t=aa (.struct fs))(hp:P.stoodInHeld t=ah)(hs:P.underlying ft=aa .string)(hz:jT P ft=aa ah)(hg:P.eqGuardType P.depth t=ah)
    (hf : fs.toList = [f, g]) (h1 : f.name ≠ "_") (h2 : g.name ≠ "_") (e1 : f.type = ft) (e2 : g.type = ft) (o1 : f.offset = 0) (o2 : g.offset = 1) (s u : G.Y) (a b : az) :
    lA P .eql t a b (.agg (G.eSymbol s)) (.agg (G.eSymbol u))=aa (.v (.bool (aj (s=u))))/\lA P .neq t a b (.agg (G.eSymbol s)) (.agg (G.eSymbol u))=aa (.v (.bool (!decide (s=u)))):=by
 have he:=aXg ht hp hs hz hf h1 h2 e1 e2 o1 o2 s u;have jf: ∀op,lA P op t a b (.agg (G.eSymbol s)) (.agg (G.eSymbol u))=(gT P op t a b (.agg #[eI s.package,eI s.name]) (.agg #[eI u.package,eI u.name])).map Bz:=λop=>by
  simp only[lA,G.eSymbol,aR,aDx,SN,pY,aK,gT,eI,cN,bQ,aP,List.all_nil,Bool.and_self,aI]
 have hg1: ∀op,op=BinOp.eql∨op= .neq->cJ P (eqGuard op t a b (.agg #[eI s.package,eI s.name]) (.agg #[eI u.package,eI u.name]))=aa ():=by
  intro op mh;have nk:cJ P program=aa P:=rfl;rcases mh with rfl|rfl<;>simp only[eqGuard,bD,Bool.false_eq_true,if_false,bM,nk,aL,hg,Bool.not_false,if_true,bS]
 constructor
 .rw[jf,R6 (by simp[eI,bQ]) (by simp[eI,bQ]) (hg1 _ (.inl rfl)) he];rfl
 .rw[jf,R5 (by simp[eI,bQ]) (by simp[eI,bQ]) (hg1 _ (.inr rfl)) he];rfl
end
end Go.TV
namespace Go.TV
open Go.AI Go.PI
section
variable{P:aw}{pt t ft:av}{fs:Array Field}{f g:Field}
def aOt(hq:P.underlying pt=aa (.array 2 t))(h2z:iH P t=aa 2)(hta:jT P t=aa ae)(ht:P.underlying t=aa (.struct fs))(hp:P.stoodInHeld t=ah)(hs:P.underlying ft=aa .string)(hz:jT P ft=aa ah)
    (hf : fs.toList = [f, g]) (h1 : f.name ≠ "_") (h2 : g.name ≠ "_") (e1 : f.type = ft) (e2 : g.type = ft) (o1 : f.offset = 0) (o2 : g.offset = 1) (s u : G.Q) :
    cJ P (Op.equal pt (.agg #[eI s.a0.package,eI s.a0.name,eI s.a1.package,eI s.a1.name]) (.agg #[eI u.a0.package,eI u.a0.name,eI u.a1.package,eI u.a1.name]))=aa (aj (s=u)):=by
 unfold Op.equal;rw[show Op.maxDepth=9997+1+1+1 from rfl,Op.equalIn.eq_2,bM,bU,hq]
 simp only[aL];rw[bM,cY,h2z];simp only[aL];have qa: ∀(a b c d:au) (k:Nat),cJ P (part t #[a,b,c,d] k)=aa (.agg (#[a,b,c,d].extract k (k+2))):=λa b c d k=>by
  unfold part;rw[bM,pQ,hta];simp only[aL,if_true,bM,cY,h2z,bS]
 have x0: ∀a b c d:au,(#[a,b,c,d]:Array au).extract (0*2) (0*2+2)= #[a,b]:=λa b c d=>rfl
 have x1: ∀a b c d:au,(#[a,b,c,d]:Array au).extract (1*2) (1*2+2)= #[c,d]:=λa b c d=>rfl
 have hd: ∀a b:G.Y,cJ P (Op.equalIn (9997+1+1) t (.agg #[eI a.package,eI a.name]) (.agg #[eI b.package,eI b.name]))=aa (aj (a=b)):=ZF ht hp hs hz hf h1 h2 e1 e2 o1 o2;have e3:aj (s=u)=(aj (s.a0=u.a0)&&aj (s.a1=u.a1)):=by
  cases s with|mk a b=>
  cases u with|mk a' b'=>
  simp only[G.Q.mk.injEq,Bool.decide_and]
 rw[e3];simp only[Std.Legacy.Range.forIn_eq_forIn_range',Std.Legacy.Range.size,Nat.sub_zero,Nat.add_one_sub_one,Nat.div_one,List.range',List.forIn_cons,List.forIn_nil,bM,qa,aL,x0,x1,hd,Nat.zero_add];by_cases c1:s.a0=u.a0<;>by_cases c2:s.a1=u.a1<;>simp[bS,bM,qa,x1,hd,c1,c2]
def aCF(hq:P.underlying pt=aa (.array 2 t))(h2z:iH P t=aa 2)(hta:jT P t=aa ae)(ht:P.underlying t=aa (.struct fs))(hp:P.stoodInHeld t=ah)(hs:P.underlying ft=aa .string)(hz:jT P ft=aa ah)(hg:P.eqGuardType P.depth pt=ah)
    (hf : fs.toList = [f, g]) (h1 : f.name ≠ "_") (h2 : g.name ≠ "_") (e1 : f.type = ft) (e2 : g.type = ft) (o1 : f.offset = 0) (o2 : g.offset = 1) (s u : G.Q) (a b : az) :
    lA P .eql pt a b (.agg (G.ePairSymbol s)) (.agg (G.ePairSymbol u))=aa (.v (.bool (aj (s=u))))/\lA P .neq pt a b (.agg (G.ePairSymbol s)) (.agg (G.ePairSymbol u))=aa (.v (.bool (!decide (s=u)))):=by
 have he:=aOt hq h2z hta ht hp hs hz hf h1 h2 e1 e2 o1 o2 s u;have jf: ∀op,lA P op pt a b (.agg (G.ePairSymbol s)) (.agg (G.ePairSymbol u))=(gT P op pt a b (.agg #[eI s.a0.package,eI s.a0.name,eI s.a1.package,eI s.a1.name]) (.agg #[eI u.a0.package,eI u.a0.name,eI u.a1.package,eI u.a1.name])).map Bz:=λop=>by
  simp only[lA,G.ePairSymbol,G.eSymbol,aR,aY,aW,aDx,SN,pY,aK,gT,eI,cN,bQ,aP,List.all_nil,Bool.and_self,aI]
 have hg1: ∀op,op=BinOp.eql∨op= .neq->cJ P (eqGuard op pt a b (.agg #[eI s.a0.package,eI s.a0.name,eI s.a1.package,eI s.a1.name]) (.agg #[eI u.a0.package,eI u.a0.name,eI u.a1.package,eI u.a1.name]))=aa ():=by
  intro op mh;have nk:cJ P program=aa P:=rfl;rcases mh with rfl|rfl<;>simp only[eqGuard,bD,Bool.false_eq_true,if_false,bM,nk,aL,hg,Bool.not_false,if_true,bS]
 constructor
 .rw[jf,R6 (by simp[eI,bQ]) (by simp[eI,bQ]) (hg1 _ (.inl rfl)) he];rfl
 .rw[jf,R5 (by simp[eI,bQ]) (by simp[eI,bQ]) (hg1 _ (.inr rfl)) he];rfl
end
end Go.TV
namespace Go.TV
open Go.AI Go.PI Go.Proofs
set_option maxRecDepth 20000
def tyL:List (Nat×Ty):=[(2,i6),(3,i6),(4,.bool),(5,(.int .u8)),(6,(.int .u8)),(9,.str),(10,.str),(11,.str),(12,(.int .u64)),(21,(.int .i32)),(22,(.sl (.int .u8))),(24,(zS 15)),(26,(.int .u32)),(27,(zS 3)),(28,(zS 3)),(31,(.rc 0)),(32,(.rc 0)),(37,(zS 17)),(42,(.rc 1)),(43,(.rc 1)),(44,(zS 2)),(45,(.rc 2)),(46,(.rc 2)),(47,(.rc 3)),(48,(.rc 3)),(53,(.sl (zS 4))),(55,(zS 1)),(56,(.rc 4)),(57,(.rc 4)),(58,(zS 4)),(59,(.rc 5)),(60,(.rc 5)),(61,(.rc 6)),(62,(.rc 6)),(63,(.sl (zS 12))),(64,(zS 7)),(65,(.rc 8)),(66,(.rc 8)),(67,(zS 14)),(68,(.int .u64)),(69,(.rc 15)),(70,(.rc 15)),(71,(zS 16)),(74,(.rc 16)),(75,(.rc 16)),(76,i6),(77,(zS 13)),(78,(.rc 14)),(79,(.rc 14)),(80,i6),(94,(.sl .str)),(96,(.rc 17)),(97,(.rc 17)),(141,(.rc 18)),(142,(.rc 18)),(145,(zS 5)),(156,(zS 9)),(159,(.rc 9)),(160,(.rc 9)),(161,(.rc 13)),(176,(.rc 19)),(177,(.rc 19)),(180,(zS 20)),(184,(.rc 21)),(185,(.rc 21)),(186,(.rc 20)),(187,(.rc 20)),(193,(.rc 22)),(194,(.rc 22)),(196,(zS 23)),(198,(.rc 23)),(199,(.rc 23)),(205,(.sl i6)),(268,(.sl (.int .u32))),(269,(.rc 24)),(270,(.rc 24)),(279,(.int .u64)),(301,i6),(320,(.int .u8)),(321,(.int .u8)),(323,(.int .i32)),(324,(.int .i32)),(327,(zS 12)),(328,(.rc 7)),(329,(.rc 7)),(330,(zS 10)),(331,(zS 11)),(332,(.rc 12)),(333,(.rc 12)),(334,(.sl (zS 9))),(335,(.rc 10)),(336,(.rc 10)),(337,(.rc 11)),(338,(.rc 11))]
def byL:List (Nat×Nat):=[(2,8),(3,8),(4,1),(5,1),(6,1),(9,16),(10,16),(11,16),(12,8),(21,4),(22,24),(24,24),(26,4),(27,24),(28,24),(31,32),(32,32),(37,24),(42,32),(43,32),(44,24),(45,112),(46,112),(47,176),(48,176),(53,24),(55,24),(56,592),(57,592),(58,24),(59,40),(60,40),(61,240),(62,240),(63,24),(64,24),(65,56),(66,56),(67,24),(68,8),(69,568),(70,568),(71,24),(74,200),(75,200),(76,8),(77,24),(78,544),(79,544),(80,8),(94,24),(96,144),(97,144),(141,16),(142,16),(145,24),(156,24),(159,208),(160,208),(161,64),(176,32),(177,32),(180,24),(184,72),(185,72),(186,64),(187,64),(193,56),(194,56),(196,24),(198,24),(199,24),(205,24),(268,24),(269,32),(270,32),(279,8),(301,8),(320,1),(321,1),(323,4),(324,4),(327,24),(328,152),(329,152),(330,24),(331,24),(332,552),(333,552),(334,24),(335,48),(336,48),(337,232),(338,232)]
def elL:List (Nat×Nat):=[(22,5),(24,70),(27,48),(28,48),(37,97),(44,46),(53,58),(55,43),(58,57),(63,327),(64,329),(67,79),(71,75),(77,161),(94,9),(145,60),(156,160),(180,187),(196,199),(205,3),(268,26),(327,333),(330,336),(331,338),(334,156)]
def fnL:List Nat:=[1,23,25,29,34,36,38,40,41,49,50,51,52,54,72,73,82,83,84,85,86,87,89,90,91,92,93,95,98,99,100,101,102,103,104,105,106,107,109,110,111,112,113,114,115,116,118,119,120,122,123,124,126,127,128,129,130,131,132,133,134,135,136,137,138,140,144,146,147,149,151,153,154,155,158,162,163,165,166,167,168,169,170,171,172,174,179,182,188,190,191,195,197,201,202,203,204,207,208,210,211,212,213,214,215,217,219,220,221,222,224,226,227,228,229,230,231,232,233,234,235,236,238,239,240,241,243,244,245,247,249,250,251,252,253,254,255,257,258,259,260,262,263,265,266,267,271,273,274,275,278,280,281,282,286,287,288,289,293,295,296,297,302,304,305,307,310,319,322]
def arL:List Nat:=[161]
def tt0:TT:=⟨Rr tyL,λi=>(aHI byL i).getD 0,λi=>eA i fnL,λi=>eA i arL⟩
def bIi(o:DD)(sig:Nat->Option Sz):TP U0.D:=⟨tt0,aHI elL,sig,o⟩
def aW9(o:DD)(sig:Nat->Option Sz):tyL.all (CD Tryz.prog (bIi o sig))=ae:=by kernel_rfl
def a5Z:fnL.all (a2L Tryz.prog)=ae:=by kernel_rfl
def bEJ(P:aw)(i:Nat):Bool:=match P.underlying i with|some (.struct _)=>ae|_=>ah
def a7j:arL.all (λi=> !bEJ Tryz.prog i)=ae:=by kernel_rfl
def aQV(o:DD)(sig:Nat->Option Sz):arL.all (aOI Tryz.prog (bIi o sig))=ae:=by kernel_rfl
def aXi:(tyL.all λx=>match x.2 with| .rc n=>(match U0.eq n with|some _=>eA x.1 [42,43,161]|none=>ae)|_=>ae)=ae:=by kernel_rfl
def bJo(o:DD)(sig:Nat->Option Sz):rQ Tryz.prog U0 (bIi o sig):=by
 refine bAj (l:=tyL) rfl (aW9 o sig) (λid h=>?_) (λid h fs e=>?_) (λid h=>bJ.1 (aQV o sig) _ (jF.1 h)) (λid n f h1 h2=>?_)
 .exact bJ.1 a5Z _ (jF.1 h)
 .have:=bJ.1 a7j _ (jF.1 h);simp only[bEJ,e]at this;cases this
 .have h3:=bJ.1 aXi _ (B2 h1);simp only[h2]at h3;have hn:n=1∨n=13:=by
   match n,f,h2 with
   |0,f,h2=>first|exact .inl rfl|exact .inr rfl|cases h2
   |1,f,h2=>first|exact .inl rfl|exact .inr rfl|cases h2
   |2,f,h2=>first|exact .inl rfl|exact .inr rfl|cases h2
   |3,f,h2=>first|exact .inl rfl|exact .inr rfl|cases h2
   |4,f,h2=>first|exact .inl rfl|exact .inr rfl|cases h2
   |5,f,h2=>first|exact .inl rfl|exact .inr rfl|cases h2
   |6,f,h2=>first|exact .inl rfl|exact .inr rfl|cases h2
   |7,f,h2=>first|exact .inl rfl|exact .inr rfl|cases h2
   |8,f,h2=>first|exact .inl rfl|exact .inr rfl|cases h2
   |9,f,h2=>first|exact .inl rfl|exact .inr rfl|cases h2
   |10,f,h2=>first|exact .inl rfl|exact .inr rfl|cases h2
   |11,f,h2=>first|exact .inl rfl|exact .inr rfl|cases h2
   |12,f,h2=>first|exact .inl rfl|exact .inr rfl|cases h2
   |13,f,h2=>first|exact .inl rfl|exact .inr rfl|cases h2
   |14,f,h2=>first|exact .inl rfl|exact .inr rfl|cases h2
   |15,f,h2=>first|exact .inl rfl|exact .inr rfl|cases h2
   |16,f,h2=>first|exact .inl rfl|exact .inr rfl|cases h2
   |17,f,h2=>first|exact .inl rfl|exact .inr rfl|cases h2
   |18,f,h2=>first|exact .inl rfl|exact .inr rfl|cases h2
   |19,f,h2=>first|exact .inl rfl|exact .inr rfl|cases h2
   |20,f,h2=>first|exact .inl rfl|exact .inr rfl|cases h2
   |21,f,h2=>first|exact .inl rfl|exact .inr rfl|cases h2
   |22,f,h2=>first|exact .inl rfl|exact .inr rfl|cases h2
   |23,f,h2=>first|exact .inl rfl|exact .inr rfl|cases h2
   |k+24,f,h2=>first|exact .inl rfl|exact .inr rfl|cases h2
  rcases hn with rfl|rfl
  .cases h2;intro x y a b;have hm:=jF.1 h3;simp only[List.mem_cons,List.not_mem_nil,or_false]at hm;rcases hm with rfl|rfl|rfl
   .exact QG (ft:=9) Tryz.underlying42 (by kernel_rfl) (by kernel_rfl) (by kernel_rfl) (by kernel_rfl) rfl (by decide) (by decide) rfl rfl rfl rfl x y a b
   .exact QG (ft:=9) Tryz.underlying43 (by kernel_rfl) (by kernel_rfl) (by kernel_rfl) (by kernel_rfl) rfl (by decide) (by decide) rfl rfl rfl rfl x y a b
   .cases h1
  .cases h2;intro x y a b;have hm:=jF.1 h3;simp only[List.mem_cons,List.not_mem_nil,or_false]at hm;rcases hm with rfl|rfl|rfl
   .cases h1
   .cases h1
   .exact aCF (ft:=9) Tryz.underlying161 (by kernel_rfl) (by kernel_rfl) Tryz.underlying43 (by kernel_rfl) (by kernel_rfl) (by kernel_rfl) (by kernel_rfl) rfl (by decide) (by decide) rfl rfl rfl rfl x y a b
end Go.TV
namespace Go.TV
open Go.AI Go.PI
def aNq:TC->List Nat->TC
 |c,[]=>c
 | .seq a _,0::l=>aNq a l
 | .seq _ b,_::l=>aNq b l
 | .cond _ a _,0::l=>aNq a l
 | .cond _ _ b,_::l=>aNq b l
 | .block _ c,_::l=>aNq c l
 | .loop _ c,_::l=>aNq c l
 | .scope c,_::l=>aNq c l
 | .cut _ c,_::l=>aNq c l
 | .ice _ c,_::l=>aNq c l
 |c,_=>c
abbrev mK:=List (TV U0.D)
abbrev Rt:=Option mK
abbrev bT:=pX U0.D
abbrev Kt:=TK U0.D mK
structure Cu where
 D:DT U0 mK
 E:DT U0 mK
def vV(ct:Cut){f g:TS U0.D->TM U0.D->Rt}(h: ∀S M,f S M=g S M)(d:mK):oZ U0 ct f d=oZ U0 ct g d:=by
 have:f=g:=by funext S M;exact h S M
 rw[this]
end Go.TV
namespace Go.TV
open Go.AI
def dg(l:List Int):Prop:= ∀x∈l,0<=x/\x<=9
def vl:List Int->Int
 |[]=>0
 |x::l=>x+10*vl l
def rF(l:List Int):Prop:=l=[]∨0<vl l/\∀l' x,l=l'++ [x]->x≠0
def sQ:dg []:=λx h=>by cases h
def dC{x:Int}{l:List Int}:dg (x::l)↔(0<=x/\x<=9)/\dg l:=by simp[dg]
def Ub{a b:List Int}:dg (a++b)↔dg a/\dg b:=by
 constructor
 .exact λh=>⟨λx hx=>h x (List.mem_append_left _ hx),λx hx=>h x (List.mem_append_right _ hx)⟩
 .rintro⟨h1,h2⟩ x hx;rcases List.mem_append.1 hx with hx|hx
  .exact h1 x hx
  .exact h2 x hx
def qT: ∀{l:List Int},dg l->0<=vl l
 |[],_=>Int.le_refl _
 |x::l,h=>by have h':=dC.1 h;have:=qT h'.2;simp only[vl];omega
def GJ:Nat->Int
 |0=>1
 |n+1=>10*GJ n
def Tn: ∀n,0<GJ n
 |0=>by decide
 |n+1=>by have:=Tn n;simp only[GJ];omega
def YU: ∀{l:List Int},dg l->vl l<GJ l.length
 |[],_=>by decide
 |x::l,h=>by have h':=dC.1 h;have:=YU h'.2;simp only[vl,aM,GJ];omega
def aDS: ∀(a b:List Int),vl (a++b)=vl a+GJ a.length*vl b
 |[],b=>by simp[vl,GJ]
 |x::a,b=>by simp only[aY,vl,aDS a b,aM,GJ];rw[Int.mul_add,Int.mul_assoc];omega
def lT:List Int->List Int
 |[]=>[]
 |x::l=>match lT l with
  |[]=>if x=0 then []else [x]
  |y::t=>x::y::t
def BD: ∀l:List Int,vl (lT l)=vl l
 |[]=>rfl
 |x::l=>by
  have ih:=BD l;simp only[lT];cases h:lT l with
  |nil=>rw[h]at ih;simp only[vl]at ih;by_cases e:x=0<;>simp[e,vl,<-ih]
  |cons y t=>rw[h]at ih;simp only[vl]at ih⊢;omega
def uN: ∀{l:List Int},dg l->dg (lT l)
 |[],_=>sQ
 |x::l,h=>by
  have h':=dC.1 h;have ih:=uN h'.2;simp only[lT];cases e:lT l with
  |nil=>by_cases e:x=0<;>simp[e,dg];omega
  |cons y t=>rw[e]at ih;exact dC.2 ⟨h'.1,ih⟩
def rV: ∀l:List Int,(lT l).length<=l.length
 |[]=>aS _
 |x::l=>by
  have ih:=rV l;simp only[lT];cases e:lT l with
  |nil=>by_cases e:x=0<;>simp[e]
  |cons y t=>rw[e]at ih;simp only[aM]at ih⊢;omega
def aGv{x y:Int}{l:List Int}(h:rF (y::l))(hx:0<=x):rF (x::y::l):=by
 rcases h with h|h
 .cases h
 refine .inr ⟨by have:=h.1;simp only[vl]at this⊢;omega,λl' z e=>?_⟩
 cases l' with
 |nil=>cases e
 |cons a l'=>simp only[aY,List.cons.injEq]at e;exact h.2 l' z e.2
def rU: ∀{l:List Int},dg l->rF (lT l)
 |[],_=> .inl rfl
 |x::l,h=>by
  have h':=dC.1 h;have ih:=rU h'.2;simp only[lT];cases e:lT l with
  |nil=>
   by_cases e:x=0
   .simp[e,rF]
   .rw[bH e];refine .inr ⟨by simp only[vl];omega,λl' z e'=>?_⟩
    cases l' with
    |nil=>simp only[aW,List.cons.injEq,and_true]at e';omega
    |cons a l'=>simp at e'
  |cons y t=>rw[e]at ih;exact aGv ih h'.1.1
def aGt{x y:Int}{l:List Int}(h:rF (x::y::l))(hd:dg (y::l)):rF (y::l):=by
 rcases h with h|h
 .cases h
 have h2: ∀l' z,y::l=l'++ [z]->z≠0:=λl' z e=>h.2 (x::l') z (by rw[e];rfl)
 refine .inr ⟨?_,h2⟩;have n:=qT hd;by_cases e:vl (y::l)=0
 .exfalso;have: ∀(l:List Int),dg l->vl l=0->∀z∈l,z=0:=by
   intro l;induction l with
   |nil=>intro _ _ z hz;cases hz
   |cons a l ih=>
    intro hd e z hz;have kt:=dC.1 hd;have:=qT kt.2;simp only[vl]at e;rcases List.mem_cons.1 hz with rfl|hz
    .omega
    .exact ih kt.2 (by omega) z hz
  have hl:(y::l)=(y::l).dropLast++ [(y::l).getLast (by simp)]:=(List.dropLast_concat_getLast _).symm
  exact h2 _ _ hl (this _ hd e _ (List.getLast_mem _))
 .omega
def aD2: ∀{l:List Int},dg l->rF l->lT l=l
 |[],_,_=>rfl
 |[x],hd,h=>by
  rcases h with h|h
  .cases h
  have:=h.2 [] x rfl;simp[lT,this]
 |x::y::l,hd,h=>by
  have kt:=dC.1 hd;have ih:=aD2 kt.2 (aGt h kt.2);rw[lT,ih]
def aGu: ∀{l:List Int},dg l->rF l->l≠ []->GJ l.length<=10*vl l
 |[],_,_,h=>absurd rfl h
 |[x],hd,h,_=>by
  rcases h with h|h
  .cases h
  have:=h.1;simp only[vl,aM,aX,GJ]at this⊢;omega
 |x::y::l,hd,h,_=>by
  have kt:=dC.1 hd;have ih:=aGu kt.2 (aGt h kt.2) (by simp)
  have h3:GJ (x::y::l).length=10*GJ (y::l).length:=rfl;have h4:vl (x::y::l)=x+10*vl (y::l):=rfl;omega
def aAc{a b:Nat}(h:a<=b):GJ a<=GJ b:=by
 induction b with
 |zero=>have:a=0:=(by omega);subst this;exact Int.le_refl _
 |succ b ih=>
  by_cases e:a=b+1
  .subst e;exact Int.le_refl _
  .have:=ih (by omega);have:=Tn b;simp only[GJ];omega
def TG{a b:List Int}(ha:dg a)(hb:dg b)(nb:rF b)(h:a.length<b.length):vl a<vl b:=by
 have h1:=YU ha;have h2:=aGu hb nb (λe=>by subst e;simp at h)
 have h3:GJ (a.length+1)<=GJ b.length:=aAc h;simp only[GJ]at h3;omega
def vC:List Int->List Int->Int
 |x::a,y::b=>if vC a b=0 then(if x<y then-1 else if y<x then 1 else 0)else vC a b
 |_,_=>0
def qF(a b:List Int):Int:=if a.length=b.length then vC a b else if a.length<b.length then-1 else 1
def aAl: ∀{a b:List Int},dg a->dg b->a.length=b.length->(vC a b= -1/\vl a<vl b)∨(vC a b=0/\vl a=vl b)∨(vC a b=1/\vl b<vl a)
 |[],[],_,_,_=> .inr (.inl ⟨rfl,rfl⟩)
 |[],_::_,_,_,h=>by simp at h
 |_::_,[],_,_,h=>by simp at h
 |x::a,y::b,ha,hb,h=>by
  have cq:=dC.1 ha;have bp:=dC.1 hb;have ih:=aAl cq.2 bp.2 (by simpa using h)
  simp only[vC,vl];rcases ih with⟨i1,i2⟩|⟨i1,i2⟩|⟨i1,i2⟩
  .rw[i1];left;refine⟨rfl,?_⟩;omega
  .rw[i1,bI rfl];by_cases e:x<y
   .rw[bI e];left;refine⟨rfl,?_⟩;omega
   .rw[bH e];by_cases e':y<x
    .rw[bI e'];right;right;refine⟨rfl,?_⟩;omega
    .rw[bH e'];right;left;refine⟨rfl,?_⟩;omega
  .rw[i1];right;right;refine⟨rfl,?_⟩;omega
def aOu{a b:List Int}(ha:dg a)(hb:dg b)(na:rF a)(nb:rF b):(qF a b= -1/\vl a<vl b)∨(qF a b=0/\vl a=vl b)∨(qF a b=1/\vl b<vl a):=by
 unfold qF;by_cases e:a.length=b.length
 .rw[bI e];exact aAl ha hb e
 .rw[bH e];by_cases e':a.length<b.length
  .rw[bI e'];exact .inl ⟨rfl,TG ha hb nb e'⟩
  .rw[bH e'];exact .inr (.inr ⟨rfl,TG hb ha na (by omega)⟩)
def AO{a b:List Int}(ha:dg a)(hb:dg b)(na:rF a)(nb:rF b):0<=qF a b↔vl b<=vl a:=by
 rcases aOu ha hb na nb with⟨h1,h2⟩|⟨h1,h2⟩|⟨h1,h2⟩<;>omega
def Ep{a b:List Int}(h:0<=qF a b):b.length<=a.length:=by
 unfold qF at h;by_cases e:a.length=b.length
 .omega
 .rw[bH e]at h;by_cases e':a.length<b.length
  .rw[bI e']at h;omega
  .omega
def hz:List Int->Int
 |[]=>0
 |x::_=>x
def bFA: ∀b:List Int,vl b=hz b+10*vl b.tail
 |[]=>rfl
 |x::b=>rfl
def bFB: ∀{b:List Int},dg b->(0<=hz b/\hz b<=9)/\dg b.tail
 |[],h=>⟨⟨Int.le_refl _,by decide⟩,h⟩
 |x::b,h=>dC.1 h
def aAz:List Int->List Int->Int->List Int
 |[],_,_=>[]
 |x::a,b,c=>if x-c-hz b<0 then(x-c-hz b+10)::aAz a b.tail 1 else(x-c-hz b)::aAz a b.tail 0
def TB: ∀{a b:List Int} {c:Int},dg a->dg b->(c=0∨c=1)->b.length<=a.length->vl b+c<=vl a->vl (aAz a b c)=vl a-vl b-c/\dg (aAz a b c)
 |[],[],c,_,_,hc,_,h=>by simp only[aAz,vl]at h⊢;exact⟨by omega,sQ⟩
 |[],_::_,c,_,_,_,h,_=>by simp at h
 |x::a,b,c,ha,hb,hc,hl,h=>by
  have cq:=dC.1 ha;have bp:=bFB hb;have v:=bFA b;have fa:b.tail.length<=a.length:=by rw[List.length_tail];simp only[aM]at hl;omega
  simp only[aAz,vl]at h⊢;generalize hz b=y at bp v⊢;by_cases e:x-c-y<0
  .rw[bI e];have ih:=TB (a:=a) (b:=b.tail) (c:=1) cq.2 bp.2 (.inr rfl) fa (by omega)
   simp only[vl];exact⟨by omega,dC.2 ⟨by omega,ih.2⟩⟩
  .rw[bH e];have ih:=TB (a:=a) (b:=b.tail) (c:=0) cq.2 bp.2 (.inl rfl) fa (by omega)
   simp only[vl];exact⟨by omega,dC.2 ⟨by omega,ih.2⟩⟩
def aAy: ∀(a b:List Int) (c:Int),(aAz a b c).length=a.length
 |[],_,_=>rfl
 |x::a,b,c=>by simp only[aAz];split<;>simp[aAy a]
def C8(a b:List Int):List Int:=lT (aAz a b 0)
def EB{a b:List Int}(ha:dg a)(hb:dg b)(hl:b.length<=a.length)(h:vl b<=vl a):vl (C8 a b)=vl a-vl b/\dg (C8 a b)/\rF (C8 a b):=by
 have h1:=TB (c:=0) ha hb (.inl rfl) hl (by omega)
 unfold C8;exact⟨by rw[BD];omega,uN h1.2,rU h1.2⟩
def wT:List Int->List Int->Int->List Int
 |[],[],c=>if 0<c then [c]else []
 |x::a,[],c=>((c+x)%10)::wT a [] ((c+x)/10)
 |[],y::b,c=>((c+y)%10)::wT [] b ((c+y)/10)
 |x::a,y::b,c=>((c+x+y)%10)::wT a b ((c+x+y)/10)
def Em: ∀{a b:List Int} {c:Int},dg a->dg b->0<=c->c<=1->vl (wT a b c)=vl a+vl b+c/\dg (wT a b c)
 |[],[],c,_,_,h0,h1=>by
  simp only[wT];by_cases e:0<c
  .rw[bI e];exact⟨by simp[vl],dC.2 ⟨by omega,sQ⟩⟩
  .rw[bH e];exact⟨by simp only[vl];omega,sQ⟩
 |x::a,[],c,ha,hb,h0,h1=>by
  have cq:=dC.1 ha;have ih:=Em (a:=a) (b:=[]) (c:=(c+x)/10) cq.2 sQ (by omega) (by omega)
  simp only[wT,vl]at ih⊢;exact⟨by omega,dC.2 ⟨by omega,ih.2⟩⟩
 |[],y::b,c,ha,hb,h0,h1=>by
  have bp:=dC.1 hb;have ih:=Em (a:=[]) (b:=b) (c:=(c+y)/10) sQ bp.2 (by omega) (by omega)
  simp only[wT,vl]at ih⊢;exact⟨by omega,dC.2 ⟨by omega,ih.2⟩⟩
 |x::a,y::b,c,ha,hb,h0,h1=>by
  have cq:=dC.1 ha;have bp:=dC.1 hb;have ih:=Em (a:=a) (b:=b) (c:=(c+x+y)/10) cq.2 bp.2 (by omega) (by omega)
  simp only[wT,vl]at ih⊢;exact⟨by omega,dC.2 ⟨by omega,ih.2⟩⟩
def sA: ∀(a b:List Int) (c:Int),(wT a b c).length<=max a.length b.length+1
 |[],[],c=>by simp only[wT];split<;>simp
 |x::a,[],c=>by have:=sA a [] ((c+x)/10);simp only[wT,aM,aX]at this⊢;omega
 |[],y::b,c=>by have:=sA [] b ((c+y)/10);simp only[wT,aM,aX]at this⊢;omega
 |x::a,y::b,c=>by have:=sA a b ((c+x+y)/10);simp only[wT,aM]at this⊢;omega
end Go.TV
namespace Go.TV
open Go.AI
def HY(x:Int):List Int->List Int->Int->List Int
 |_,[],_=>[]
 |[],o::out,c=>if 0<c then((o+c)%10)::HY x [] out ((o+c)/10)else o::out
 |y::b,o::out,c=>((o+c+x*y)%10)::HY x b out ((o+c+x*y)/10)
def aGG(x:Int): ∀out:List Int,HY x [] out 0=out
 |[]=>rfl
 |o::out=>by simp[HY]
def AT(x:Int): ∀(b out:List Int) (c:Int),(HY x b out c).length=out.length
 |_,[],_=>by simp[HY]
 |[],o::out,c=>by simp only[HY];split<;>simp[AT x [] out]
 |y::b,o::out,c=>by simp only[HY,aM,AT x b out]
def aSj{x y:Int}(hx:0<=x/\x<=9)(hy:0<=y/\y<=9):0<=x*y/\x*y<=81:=by
 refine⟨Int.mul_nonneg hx.1 hy.1,?_⟩;have h1:x*y<=9*y:=Int.mul_le_mul_of_nonneg_right hx.2 hy.1;omega
def TA{x:Int}(hx:0<=x/\x<=9): ∀{b out:List Int} {c:Int},dg b->dg out->0<=c->c<=9->b.length<out.length->(∀o∈out.drop b.length,o=0)->
    vl (HY x b out c)=vl out+x*vl b+c/\dg (HY x b out c)/\∀o∈(HY x b out c).drop (b.length+1),o=0
 |_,[],c,_,_,_,_,h,_=>by simp at h
 |[],o::out,c,hb,ho,h0,h1,hl,hz=>by
  have gq:=dC.1 ho;have o0:o=0:=hz o (by simp)
  subst o0;simp only[HY];by_cases e:0<c
  .rw[bI e,show(0+c)/10=0 by omega,aGG]
   refine⟨by simp only[vl,Int.mul_zero];omega,dC.2 ⟨by omega,gq.2⟩,λz jx=>hz z ?_⟩
   simp only[aX,Nat.zero_add,List.drop_succ_cons,List.drop_zero]at jx⊢;exact aG _ jx
  .rw[bH e];refine⟨by simp only[vl,Int.mul_zero];omega,ho,λz jx=>hz z ?_⟩
   simp only[aX,Nat.zero_add,List.drop_succ_cons,List.drop_zero]at jx⊢;exact aG _ jx
 |y::b,o::out,c,hb,ho,h0,h1,hl,hz=>by
  have gq:=dC.1 ho;have bp:=dC.1 hb;have p:=aSj hx bp.1;simp only[aM,Nat.add_lt_add_iff_right]at hl;have ih:=TA hx (b:=b) (out:=out) (c:=(o+c+x*y)/10) bp.2 gq.2 (by omega) (by omega) hl (λz h=>hz z (by simpa using h))
  simp only[HY,vl];refine⟨?_,dC.2 ⟨by omega,ih.2.1⟩,λz h=>ih.2.2 z (by simpa using h)⟩
  rw[ih.1,Int.mul_add x y,show x*(10*vl b)=10*(x*vl b) by rw[Int.mul_left_comm]]
  generalize x*vl b=u;generalize x*y=v at p⊢;omega
def aDy:List Int->List Int->List Int->List Int
 |[],_,out=>out
 |x::a,b,out=>match HY x b out 0 with
  |[]=>[]
  |o::t=>o::aDy a b t
def aD4: ∀{a b out:List Int},dg a->dg b->dg out->a.length+b.length<out.length->(∀o∈out.drop b.length,o=0)->
    vl (aDy a b out)=vl out+vl a*vl b/\dg (aDy a b out)
 |[],b,out,_,_,ho,_,_=>by simp only[aDy,vl,Int.zero_mul,Int.add_zero];exact⟨trivial,ho⟩
 |x::a,b,out,ha,hb,ho,hl,hz=>by
  have cq:=dC.1 ha;simp only[aM]at hl;have h1:=TA cq.1 (b:=b) (out:=out) (c:=0) hb ho (by omega) (by omega) (by omega) hz
  have h2:=AT x b out 0;simp only[aDy];cases e:HY x b out 0 with
  |nil=>rw[e]at h2;simp at h2;omega
  |cons o t=>
   rw[e]at h1 h2;simp only[aM]at h2;have h3:=dC.1 h1.2.1;have ih:=aD4 (a:=a) (b:=b) (out:=t) cq.2 hb h3.2 (by omega) (λz h=>h1.2.2 z (by simpa using h))
   refine⟨?_,dC.2 ⟨h3.1,ih.2⟩⟩;have h4:=h1.1;simp only[vl]at h4⊢;rw[ih.1,Int.add_mul,show 10*vl a*vl b=10*(vl a*vl b) by rw[Int.mul_assoc]]
   generalize x*vl b=u at h4⊢;generalize vl a*vl b=v;omega
def ZD: ∀(a b out:List Int),(aDy a b out).length<=out.length
 |[],b,out=>aS _
 |x::a,b,out=>by
  have h2:=AT x b out 0;simp only[aDy];cases e:HY x b out 0 with
  |nil=>simp
  |cons o t=>rw[e]at h2;have:=ZD a b t;simp only[aM]at h2⊢;omega
def aNl(a b:List Int):List Int:=lT (aDy a b (List.replicate (a.length+b.length+1) 0))
def a9V: ∀n,vl (List.replicate n (0:Int))=0
 |0=>rfl
 |n+1=>by rw[List.replicate_succ,vl,a9V n];rfl
def aD3{a b:List Int}(ha:dg a)(hb:dg b):vl (aNl a b)=vl a*vl b/\dg (aNl a b)/\rF (aNl a b)/\(aNl a b).length<=a.length+b.length+1:=by
 have hz:dg (List.replicate (a.length+b.length+1) (0:Int)):=λx hx=>by have:=List.eq_of_mem_replicate hx;omega
 have h:=aD4 (out:=List.replicate (a.length+b.length+1) 0) ha hb hz (by simp) (λo ho=>List.eq_of_mem_replicate (List.mem_of_mem_drop ho))
 rw[a9V,Int.zero_add]at h;unfold aNl;refine⟨by rw[BD,h.1],uN h.2,rU h.2,?_⟩
 have h1:=rV (aDy a b (List.replicate (a.length+b.length+1) 0));have h2:=ZD a b (List.replicate (a.length+b.length+1) 0);simp only[List.length_replicate]at h2;omega
def GO(b:List Int):Nat->List Int->Int->List Int×Int
 |0,r,k=>(r,k)
 |m+1,r,k=>if 0<=qF r b then GO b m (C8 r b) (k+1)else(r,k)
def aAu{a b:List Int}(ha:dg a)(hb:dg b)(na:rF a)(h:vl a<=vl b):a.length<=b.length:=by
 by_cases e:b.length<a.length
 .have:=TG hb ha na e;omega
 .omega
def a2D{b:List Int}(hb:dg b)(nb:rF b)(pb:0<vl b): ∀(m:Nat) (r:List Int) (k:Int),dg r->rF r->vl r<(m:Int)*vl b->
    vl r=((GO b m r k).2-k)*vl b+vl (GO b m r k).1/\vl (GO b m r k).1<vl b/\dg (GO b m r k).1/\rF (GO b m r k).1/\k<=(GO b m r k).2/\(GO b m r k).2<k+m:=by
 intro m;induction m with
 |zero=>intro r k hr _ h;have:=qT hr;simp at h;omega
 |succ m ih=>
  intro r k hr nr h;have n:=qT hr;have hm:((m+1:Nat):Int)*vl b=(m:Int)*vl b+vl b:=by rw[Int.natCast_succ,Int.add_mul,Int.one_mul]
  rw[hm]at h;simp only[GO];by_cases e:0<=qF r b
  .rw[bI e];have hl:=Ep e;have hge:=(AO hr hb nr nb).1 e;have h1:=EB hr hb hl hge;have i:=ih (C8 r b) (k+1) h1.2.1 h1.2.2 (by rw[h1.1];omega)
   refine⟨?_,i.2.1,i.2.2.1,i.2.2.2.1,by omega,by omega⟩
   have i1:=i.1;rw[h1.1]at i1;have:((GO b m (C8 r b) (k+1)).2-k)*vl b=((GO b m (C8 r b) (k+1)).2-(k+1))*vl b+vl b:=by
    rw[show(GO b m (C8 r b) (k+1)).2-k=((GO b m (C8 r b) (k+1)).2-(k+1))+1 by omega,Int.add_mul,Int.one_mul]
   omega
  .rw[bH e];have bi:vl r<vl b:=by
    by_cases e':vl b<=vl r
    .exact absurd ((AO hr hb nr nb).2 e') e
    .omega
   exact⟨by simp,bi,hr,nr,Int.le_refl _,by omega⟩
def oM(b:List Int):List Int->List Int×List Int
 |[]=>([],[])
 |x::a=>((GO b 10 (lT (x::(oM b a).2)) 0).2::(oM b a).1,(GO b 10 (lT (x::(oM b a).2)) 0).1)
def uZ{b:List Int}(hb:dg b)(nb:rF b)(pb:0<vl b): ∀{a:List Int},dg a->
    vl a=vl (oM b a).1*vl b+vl (oM b a).2/\vl (oM b a).2<vl b/\dg (oM b a).2/\rF (oM b a).2/\dg (oM b a).1/\(oM b a).1.length=a.length
 |[],_=>⟨by simp[oM,vl],by simpa [oM,vl]using pb,sQ,.inl rfl,sQ,rfl⟩
 |x::a,h=>by
  have h':=dC.1 h;have ih:=uZ hb nb pb h'.2;have hx:dg (x::(oM b a).2):=dC.2 ⟨h'.1,ih.2.2.1⟩;have hv:=BD (x::(oM b a).2);simp only[vl]at hv;have h1:=a2D hb nb pb 10 (lT (x::(oM b a).2)) 0 (uN hx) (rU hx) (by rw[hv];omega)
  simp only[oM,vl];refine⟨?_,h1.2.1,h1.2.2.1,h1.2.2.2.1,dC.2 ⟨by omega,ih.2.2.2.2.1⟩,by simp[ih.2.2.2.2.2]⟩
  have e1:=h1.1;have e2:=ih.1;rw[hv,Int.sub_zero]at e1;rw[Int.add_mul,show 10*vl (oM b a).1*vl b=10*(vl (oM b a).1*vl b) by rw[Int.mul_assoc]]
  omega
def KK{a b:List Int}(hb:dg b)(nb:rF b)(pb:0<vl b)(ha:dg a):(oM b a).2.length<=b.length:=
 aAu (uZ hb nb pb ha).2.2.1 hb (uZ hb nb pb ha).2.2.2.1 (by have:=(uZ hb nb pb ha).2.1;omega)
def pJ(a b:List Int):List Int×List Int:=(lT (oM b a).1,(oM b a).2)
def aNo:Nat->List Int->List Int->List Int
 |0,d,_=>d
 |m+1,d,e=>match e with
  |[]=>d
  |_::_=>aNo m e (pJ d e).2
def KS{e:List Int}(ne:rF e)(h:e≠ []):0<vl e:=by
 rcases ne with ne|ne
 .exact absurd ne h
 .exact ne.1
def a5X: ∀(m:Nat) (d e:List Int),dg d->dg e->rF d->rF e->(vl e<(m:Int))->(d≠ []∨e≠ [])->
    dg (aNo m d e)/\rF (aNo m d e)/\aNo m d e≠ []/\(aNo m d e).length<=max d.length e.length:=by
 intro m;induction m with
 |zero=>intro d e hd he nd ne h _;have:=qT he;simp at h;omega
 |succ m ih=>
  intro d e hd he nd ne h hh;cases e with
  |nil=>exact⟨hd,nd,by simpa [aNo]using hh,by simp only[aNo];omega⟩
  |cons x e=>
   have pb:=KS ne (by simp)
   have o:=uZ he ne pb hd;have ol:=KK he ne pb hd;have i:=ih (x::e) (oM (x::e) d).2 he o.2.2.1 ne o.2.2.2.1 (by omega) (.inl (by simp))
   refine⟨i.1,i.2.1,i.2.2.1,?_⟩;have:=i.2.2.2;simp only[aNo,pJ];omega
end Go.TV
namespace Go.Rf
open Go.AI Go.Proofs
def Gx (d : Option Nat) (op : Op) (t : av) : Oper := { dst := d, op := op, type := t, pos := "", after := #[], guard := ad }
def qJ(S:Slots)(k j:Nat)(v:au):Slots.at (Tr.set S k v) j=if j=k then v else S.at j:=by
 unfold Slots.at;rw[Tr.get_set];split<;>rfl
def at_store(S:Slots)(k j:Nat)(v:au):Slots.at (S.store (aa k) v) j=if j=k then v else S.at j:=qJ S k j v
def a3h:Tryz.prog.toTables.follows .mixedOrders=ae:=by kernel_rfl
end Go.Rf
namespace Go.Rf
open Go.AI Go.Proofs
def clO1:Array Oper:= #[Gx (aa 3) (.call {callee:= .builtin .len,args:= #[.tmp 0],argTypes:= #[28]}) 3,
 Gx (aa 4) (.binOp .eql 3 (.tmp 3) (.const (.int .i64 0)) 3) 4]
def clO2:Array Oper:= #[Gx (aa 5) (.buildSlice 28 0 #[]) 28,Gx (aa 2) (.slice 28 (.tmp 0) (aa (.const (.int .i64 0))) (aa (.const (.int .i64 0))) (aa (.const (.int .i64 0)))) 28,
 Gx (aa 6) (.move (.tmp 0)) 28,Gx (aa 6) (.move (.tmp 0)) 28]
def DQ:Code->Code
 | .seq a (.seq (.seq _ (.cond c _ s)) r)=> .seq a (.seq (.seq (.region 1 clO1 ah) (.cond c (.seq (.region 2 clO2 ah) .ret) s)) r)
 |c=>c
noncomputable def RH:Code:=Tryz.f80.body.getD .skip
noncomputable def PU:Func:={Tryz.f80 with body:=aa (DQ RH)}
def UI:Tryz.prog.funcs[80]?=aa Tryz.f80:=by kernel_rfl
def aA2:Tryz.f80.body=aa RH:=rfl
def aTu:jW Tryz.prog Tryz.f80=ae:=by kernel_rfl
section
variable(call:FuncId->Array au->St->Option (au×St))(L:Nat)(H:St)
def aA3:St:=({H with next:=H.next+7}:St).put (H.next+3) (.cells [] (eG 11))
noncomputable def aC3:Code:=match RH with| .seq _ (.seq _ r)=>r|_=> .skip
noncomputable def clO3:Array Oper:=match aC3 with| .seq (.region _ o _) _=>o|_=> #[]
noncomputable def Dh(k:Nat):Oper:=clO3.toList.getD k (Gx ad (.move (.tmp 0)) 0)
def a6Q:aC3= .seq (.region 3 clO3 ah) .ret:=by kernel_rfl
def aQE:clO3.toList=[Dh 0,Dh 1,Dh 2,Dh 3]:=by kernel_rfl
def aC4:clO3.size=4:=by kernel_rfl
def dY{P:aw}{ops:Array Oper}{base i:Nat}{o:Oper}{rest:List Oper}{S:Slots}{H H1:St}{v:au}(hg:o.guard=ad)(h:lL P call base i o S H=aa (v,H1)):
    fA P call ops base (o::rest) i S H=fA P call ops base rest (i+1) (S.store o.dst v) H1:=by
 rw[fA,wanted,hg];simp only[aI,h]
def AG{P:aw}{ops:Array Oper}{base i:Nat}{o:Oper}{rest:List Oper}{S:Slots}{H:St}(hg:o.guard=ad)(h:lL P call base i o S H=ad):
    fA P call ops base (o::rest) i S H=ad:=by
 rw[fA,wanted,hg];simp only[aI,h]
end
end Go.Rf
namespace Go.Rf
open Go.AI Go.Proofs
section
variable(call:FuncId->Array au->St->Option (au×St))(L:Nat)(H:St)
def Qr{P:aw}{id:Nat}{ops:Array Oper}{S S':Slots}{H H':St}(h:fA P call ops H.next ops.toList 0 S {H with next:=H.next+ops.size}=aa (S',H')):cM P call L (.region id ops ah) S H=aa (.normal,S',H'):=by
 rw[cM,iN,aJ,h];rfl
def GF{P:aw}{a b:Code}{S S1:Slots}{H H1:St}(h:cM P call L a S H=aa (.normal,S1,H1)):cM P call L (.seq a b) S H=cM P call L b S1 H1:=by
 rw[cM,h]
def bAy{P:aw}{a b:Code}{S S1:Slots}{H H1:St}(h:cM P call L a S H=aa (.ret,S1,H1)):cM P call L (.seq a b) S H=aa (.ret,S1,H1):=by
 rw[cM,h]
def aIf{P:aw}{x:az}{a b:Code}{S:Slots}{H:St}(h:ev S x= .bool ae):cM P call L (.cond x a b) S H=cM P call L a S H:=by
 rw[cM,h]
def aIg{P:aw}{x:az}{a b:Code}{S:Slots}{H:St}(h:ev S x= .bool ah):cM P call L (.cond x a b) S H=cM P call L b S H:=by
 rw[cM,h]
def bNo{S:Slots}{H:St}:eO Tryz.prog Tryz.f80 (aa (.ret,S,H))=aa (S.at 2,H):=by kernel_rfl
def bNr{S:Slots}{H:St}:eO Tryz.prog PU (aa (.ret,S,H))=aa (S.at 2,H):=by kernel_rfl
noncomputable def kR(n:Nat):Code:=match RH,n with
 | .seq a _,0=>a
 | .seq _ (.seq (.seq b _) _),1=>b
 | .seq _ (.seq (.seq _ (.cond _ (.seq c _) _)) _),_=>c
 |_,_=> .skip
noncomputable def kO(n:Nat):Array Oper:=match kR n with| .region _ o _=>o|_=> #[]
noncomputable def ko(n k:Nat):Oper:=(kO n).toList.getD k (Gx ad (.move (.tmp 0)) 0)
def a6T:RH= .seq (.region 0 (kO 0) ah) (.seq (.seq (.region 1 (kO 1) ah) (.cond (.tmp 4) (.seq (.region 2 (kO 2) ah) .ret) .skip)) aC3):=by kernel_rfl
def aIi:DQ RH= .seq (.region 0 (kO 0) ah) (.seq (.seq (.region 1 clO1 ah) (.cond (.tmp 4) (.seq (.region 2 clO2 ah) .ret) .skip)) aC3):=by kernel_rfl
def l0:(kO 0).toList=[ko 0 0]:=by kernel_rfl
def l1:(kO 1).toList=[ko 1 0,ko 1 1]:=by kernel_rfl
def l2:(kO 2).toList=[ko 2 0]:=by kernel_rfl
def n0:(kO 0).size=1:=by kernel_rfl
def n1:(kO 1).size=2:=by kernel_rfl
def n2:(kO 2).size=1:=by kernel_rfl
def aPj:(ko 0 0).guard=ad:=by kernel_rfl
def g10:(ko 1 0).guard=ad:=by kernel_rfl
def g11:(ko 1 1).guard=ad:=by kernel_rfl
def g20:(ko 2 0).guard=ad:=by kernel_rfl
def bOO:(ko 0 0).dst=aa 2:=by kernel_rfl
def d10:(ko 1 0).dst=aa 3:=by kernel_rfl
def d11:(ko 1 1).dst=aa 4:=by kernel_rfl
def d20:(ko 2 0).dst=aa 2:=by kernel_rfl
def QO(w:au):Slots:=Slots.store .nil (aa 3) w
def aCH(w:au):Slots:=Slots.store .nil (aa 0) w
def bPx{S:Slots}{H:St}{b i:Nat}:lL Tryz.prog call b i (ko 0 0) S H=aa (.slice ad 0 0,H):=by kernel_rfl
def a20{S:Slots}{H:St}{b i:Nat}:lL Tryz.prog call b i (ko 2 0) S H=aa (.slice ad 0 0,H):=by kernel_rfl
def a10{S:Slots}{H:St}{b i:Nat}:lL Tryz.prog call b i (ko 1 0) S H=aa (S.at 0,H):=by kernel_rfl
def a11{S:Slots}{H:St}{b i:Nat}:lL Tryz.prog call b i (ko 1 1) S H=lL Tryz.prog call b i (ko 1 1) (QO (S.at 3)) H:=by kernel_rfl
def bPw{H:St}{b i:Nat}:lL Tryz.prog call b i (ko 1 1) (QO (.slice ad 0 0)) H=aa (.bool ae,H):=by kernel_rfl
def bPv{H:St}{b i n c:Nat}{a:Addr}:lL Tryz.prog call b i (ko 1 1) (QO (.slice (aa a) n c)) H=aa (.bool ah,H):=by kernel_rfl
def head{S:Slots}{u:au}(hu:S.at 0=u){q:Bool}(hq: ∀(H:St) b i,lL Tryz.prog call b i (ko 1 1) (QO u) H=aa (.bool q,H)){fl:Fl}{r:Option (Fl×Slots×St)}
    (h:(bif q then cM Tryz.prog call L (.seq (.seq (.region 2 (kO 2) ah) .ret) aC3) (((S.store (aa 2) (.slice ad 0 0)).store (aa 3) u).store (aa 4) (.bool q)) {H with next:=H.next+3}
      else cM Tryz.prog call L aC3 (((S.store (aa 2) (.slice ad 0 0)).store (aa 3) u).store (aa 4) (.bool q)) {H with next:=H.next+3})=r):
    cM Tryz.prog call L RH S H=r:=by
 have h0:cM Tryz.prog call L (.region 0 (kO 0) ah) S H=aa (.normal,S.store (aa 2) (.slice ad 0 0),{H with next:=H.next+1}):=by
  refine Qr call L ?_;rw[l0,n0,dY call aPj (bPx call),bOO];rfl
 have h1:cM Tryz.prog call L (.region 1 (kO 1) ah) (S.store (aa 2) (.slice ad 0 0)) {H with next:=H.next+1}=aa (.normal,((S.store (aa 2) (.slice ad 0 0)).store (aa 3) u).store (aa 4) (.bool q),{H with next:=H.next+3}):=by
  refine Qr call L ?_;have e0:(S.store (aa 2) (.slice ad 0 0)).at 0=u:=by rw[Go.Rf.at_store,bH (by decide)];exact hu
  have e3:((S.store (aa 2) (.slice ad 0 0)).store (aa 3) u).at 3=u:=by rw[Go.Rf.at_store,bI rfl]
  rw[l1,n1,dY call g10 (a10 call),e0,d10,dY call g11 (by rw[a11,e3];exact hq _ _ _),d11];rfl
 have e4:ev (((S.store (aa 2) (.slice ad 0 0)).store (aa 3) u).store (aa 4) (.bool q)) (.tmp 4)= .bool q:=by
  show Slots.at _ 4=_;rw[Go.Rf.at_store,bI rfl]
 rw[a6T,GF call L h0];subst h;cases q with
 |true=>
  rw[aI,cM,GF call L h1,aIf call L e4]
  conv=>rhs;rw[cM]
 |false=>
  rw[aJ,cM,GF call L h1,aIg call L e4,cM]
end
end Go.Rf
namespace Go.Rf
open Go.AI Go.Proofs
section
variable(call:FuncId->Array au->St->Option (au×St))(L:Nat)(H:St)
def bHJ(x u:au):Slots:=Slots.store (Slots.store .nil (aa 5) x) (aa 6) u
def a2{S:Slots}{H:St}{b i:Nat}:lL Tryz.prog call b i (Dh 2) S H=lL Tryz.prog call b i (Dh 2) (bHJ (S.at 5) (S.at 6)) H:=by kernel_rfl
def a0{S:Slots}:lL Tryz.prog call (H.next+3) 0 (Dh 0) S {H with next:=H.next+7}=aa (.slice (aa ⟨H.next+3,0,ad⟩) 0 0,aA3 H):=by kernel_rfl
def a1{S:Slots}{H:St}{b i:Nat}:lL Tryz.prog call b i (Dh 1) S H=aa (S.at 0,H):=by kernel_rfl
def a3{S:Slots}{H:St}{b i:Nat}:lL Tryz.prog call b i (Dh 3) S H=aa (S.at 7,H):=by kernel_rfl
def g0:(Dh 0).guard=ad:=by kernel_rfl
def g1:(Dh 1).guard=ad:=by kernel_rfl
def g2:(Dh 2).guard=ad:=by kernel_rfl
def g3:(Dh 3).guard=ad:=by kernel_rfl
def e0:(Dh 0).dst=aa 5:=by kernel_rfl
def e1:(Dh 1).dst=aa 6:=by kernel_rfl
def e2:(Dh 2).dst=aa 7:=by kernel_rfl
def e3:(Dh 3).dst=aa 2:=by kernel_rfl
def aUb{S:Slots}{u:au}(hu:S.at 0=u){fn:Func}(fy: ∀(S:Slots) (H:St),eO Tryz.prog fn (aa (.ret,S,H))=aa (S.at 2,H))(dj:eO Tryz.prog fn ad=ad):
    eO Tryz.prog fn (cM Tryz.prog call L aC3 S {H with next:=H.next+3})=lL Tryz.prog call (H.next+3) 2 (Dh 2) (bHJ (.slice (aa ⟨H.next+3,0,ad⟩) 0 0) u) (aA3 H):=by
 have hr: ∀r,fA Tryz.prog call clO3 (H.next+3) [Dh 2,Dh 3] 2 ((S.store (aa 5) (.slice (aa ⟨H.next+3,0,ad⟩) 0 0)).store (aa 6) u) (aA3 H)=r->cM Tryz.prog call L (.region 3 clO3 ah) S {H with next:=H.next+3}=r.map λx=>(.normal,x.1,x.2):=by
  intro r hr;have e:iN Tryz.prog call clO3 ah S {H with next:=H.next+3}=r:=by
   rw[iN,aJ,aQE,aC4];refine(dY call g0 (a0 call H)).trans ?_;rw[e0];refine(dY call g1 (a1 call)).trans ?_;rw[e1,Go.Rf.at_store,bH (by decide),hu]
   exact hr
  rw[cM,e]
 have h56:lL Tryz.prog call (H.next+3) 2 (Dh 2) ((S.store (aa 5) (.slice (aa ⟨H.next+3,0,ad⟩) 0 0)).store (aa 6) u) (aA3 H)=lL Tryz.prog call (H.next+3) 2 (Dh 2) (bHJ (.slice (aa ⟨H.next+3,0,ad⟩) 0 0) u) (aA3 H):=by
  rw[a2,Go.Rf.at_store,bH (by decide),Go.Rf.at_store,bI rfl,Go.Rf.at_store,bI rfl]
 rw[a6Q];cases hX:lL Tryz.prog call (H.next+3) 2 (Dh 2) (bHJ (.slice (aa ⟨H.next+3,0,ad⟩) 0 0) u) (aA3 H)with
 |none=>
  have:=hr ad (AG call g2 (h56.trans hX));rw[cM,this];exact dj
 |some x=>
  obtain⟨v,H1⟩:=x;have h3:=(dY call (ops:=clO3) (rest:=[Dh 3]) g2 (h56.trans hX));rw[e2]at h3;have:=hr _ (h3.trans (dY call g3 (a3 call)));rw[fA,e3,Go.Rf.at_store,bI rfl]at this;rw[cM,this,aK];simp only[cM];rw[fy,Go.Rf.at_store,bI rfl]
def bQH(S:Slots)(H:St):eO Tryz.prog Tryz.f80 (aa (.ret,S,H))=aa (S.at 2,H):=bNo
def bQI(S:Slots)(H:St):eO Tryz.prog PU (aa (.ret,S,H))=aa (S.at 2,H):=bNr
def a2z{S:Slots}(hu:S.at 0= .slice ad 0 0):eO Tryz.prog Tryz.f80 (cM Tryz.prog call L RH S H)=aa (.slice ad 0 0,{H with next:=H.next+4}):=by
 rw[head call L H (fl:= .normal) hu (q:=ae) (λ_ _ _=>bPw call) rfl,aI]
 have h2: ∀T:Slots,cM Tryz.prog call L (.region 2 (kO 2) ah) T {H with next:=H.next+3}=aa (.normal,T.store (aa 2) (.slice ad 0 0),{H with next:=H.next+4}):=λT=>Qr call L (by
  rw[l2,n2,dY call g20 (a20 call),d20];rfl)
 have h3: ∀T:Slots,cM Tryz.prog call L (.seq (.region 2 (kO 2) ah) .ret) T {H with next:=H.next+3}=aa (.ret,T.store (aa 2) (.slice ad 0 0),{H with next:=H.next+4}):=λT=>(GF call L (h2 T)).trans (by rw[cM])
 rw[bAy call L (h3 _),bQH,Go.Rf.at_store,bI rfl]
def bPs{S:Slots}{u x:au}{q:Bool}(hu:S.at 0=u):(((S.store (aa 2) (.slice ad 0 0)).store (aa 3) x).store (aa 4) (.bool q)).at 0=u:=by
 rw[Go.Rf.at_store,bH (by decide),Go.Rf.at_store,bH (by decide),Go.Rf.at_store,bH (by decide)];exact hu
def aAj{S:Slots}{a:Addr}{n c:Nat}(hu:S.at 0= .slice (aa a) n c):eO Tryz.prog Tryz.f80 (cM Tryz.prog call L RH S H)=
    lL Tryz.prog call (H.next+3) 2 (Dh 2) (bHJ (.slice (aa ⟨H.next+3,0,ad⟩) 0 0) (.slice (aa a) n c)) (aA3 H):=by
 rw[head call L H (fl:= .normal) hu (q:=ah) (λ_ _ _=>bPv call) rfl,aJ]
 exact aUb call L H (bPs hu) bQH rfl
def a2A{S:Slots}(hu:S.at 0=Fc):eO Tryz.prog Tryz.f80 (cM Tryz.prog call L RH S H)=aa (.slice (aa ⟨H.next+3,0,ad⟩) 0 0,aA3 H):=
 (aAj call L H hu).trans (by kernel_rfl)
end
end Go.Rf
namespace Go.Rf
open Go.AI Go.Proofs
section
variable(call:FuncId->Array au->St->Option (au×St))(L:Nat)(H:St)
def k1(j:Nat):Oper:=clO1.toList.getD j (Gx ad (.move (.tmp 0)) 0)
def k2(j:Nat):Oper:=clO2.toList.getD j (Gx ad (.move (.tmp 0)) 0)
def bQ1{S:Slots}{H:St}{b i:Nat}:lL Tryz.prog call b i (k1 0) S H=lL Tryz.prog call b i (k1 0) (aCH (S.at 0)) H:=by kernel_rfl
def bHh{H:St}{b i n c:Nat}{a:Option Addr}:lL Tryz.prog call b i (k1 0) (aCH (.slice a n c)) H=aa (goInt (n:Int),H):=by kernel_rfl
def b11{S:Slots}{H:St}{b i:Nat}:lL Tryz.prog call b i (k1 1) S H=lL Tryz.prog call b i (k1 1) (QO (S.at 3)) H:=by kernel_rfl
def bPq{H:St}{b i:Nat}:lL Tryz.prog call b i (k1 1) (QO (goInt ((0:Nat):Int))) H=aa (.bool ae,H):=by kernel_rfl
def bPr{H:St}{b i n:Nat}:lL Tryz.prog call b i (k1 1) (QO (goInt ((n+1:Nat):Int))) H=aa (.bool ah,H):=by kernel_rfl
def b20{S:Slots}:lL Tryz.prog call (H.next+3) 0 (k2 0) S {H with next:=H.next+7}=aa (.slice (aa ⟨H.next+3,0,ad⟩) 0 0,aA3 H):=by kernel_rfl
def b21{S:Slots}{H:St}{b i:Nat}:lL Tryz.prog call b i (k2 1) S H=lL Tryz.prog call b i (k2 1) (aCH (S.at 0)) H:=by kernel_rfl
def bPp{H:St}{b i c:Nat}{a:Option Addr}:lL Tryz.prog call b i (k2 1) (aCH (.slice a 0 c)) H=aa (Ac a,H):=by kernel_rfl
def b22{S:Slots}{H:St}{b i:Nat}:lL Tryz.prog call b i (k2 2) S H=aa (S.at 0,H):=by kernel_rfl
def b23{S:Slots}{H:St}{b i:Nat}:lL Tryz.prog call b i (k2 3) S H=aa (S.at 0,H):=by kernel_rfl
def aTl{S:Slots}{u w:au}(hu:S.at 0=u)(hl: ∀(H:St) b i,lL Tryz.prog call b i (k1 0) (aCH u) H=aa (w,H)){q:Bool}(hq: ∀(H:St) b i,lL Tryz.prog call b i (k1 1) (QO w) H=aa (.bool q,H)):
    cM Tryz.prog call L (DQ RH) S H=(bif q then cM Tryz.prog call L (.seq (.seq (.region 2 clO2 ah) .ret) aC3) (((S.store (aa 2) (.slice ad 0 0)).store (aa 3) w).store (aa 4) (.bool q)) {H with next:=H.next+3}
      else cM Tryz.prog call L aC3 (((S.store (aa 2) (.slice ad 0 0)).store (aa 3) w).store (aa 4) (.bool q)) {H with next:=H.next+3}):=by
 have h0:cM Tryz.prog call L (.region 0 (kO 0) ah) S H=aa (.normal,S.store (aa 2) (.slice ad 0 0),{H with next:=H.next+1}):=by
  refine Qr call L ?_;rw[l0,n0,dY call aPj (bPx call),bOO];rfl
 have h1:cM Tryz.prog call L (.region 1 clO1 ah) (S.store (aa 2) (.slice ad 0 0)) {H with next:=H.next+1}=aa (.normal,((S.store (aa 2) (.slice ad 0 0)).store (aa 3) w).store (aa 4) (.bool q),{H with next:=H.next+3}):=by
  refine Qr call L ?_;have e0:(S.store (aa 2) (.slice ad 0 0)).at 0=u:=by rw[Go.Rf.at_store,bH (by decide)];exact hu
  have e3:((S.store (aa 2) (.slice ad 0 0)).store (aa 3) w).at 3=w:=by rw[Go.Rf.at_store,bI rfl]
  rw[show clO1.toList=[k1 0,k1 1] from rfl,show clO1.size=2 from rfl,dY call (show(k1 0).guard=ad from rfl) (by rw[bQ1,e0];exact hl _ _ _),show(k1 0).dst=aa 3 from rfl,
   dY call (show(k1 1).guard=ad from rfl) (by rw[b11,e3];exact hq _ _ _),show(k1 1).dst=aa 4 from rfl];rfl
 have e4:ev (((S.store (aa 2) (.slice ad 0 0)).store (aa 3) w).store (aa 4) (.bool q)) (.tmp 4)= .bool q:=by
  show Slots.at _ 4=_;rw[Go.Rf.at_store,bI rfl]
 rw[aIi,GF call L h0];cases q with
 |true=>
  rw[aI,cM,GF call L h1,aIf call L e4]
  conv=>rhs;rw[cM]
 |false=>
  rw[aJ,cM,GF call L h1,aIg call L e4,cM]
def aTk{S:Slots}{u:au}(hu:S.at 0=u)(hl: ∀(H:St) b i,lL Tryz.prog call b i (k1 0) (aCH u) H=ad):cM Tryz.prog call L (DQ RH) S H=ad:=by
 have h0:cM Tryz.prog call L (.region 0 (kO 0) ah) S H=aa (.normal,S.store (aa 2) (.slice ad 0 0),{H with next:=H.next+1}):=by
  refine Qr call L ?_;rw[l0,n0,dY call aPj (bPx call),bOO];rfl
 have e0:(S.store (aa 2) (.slice ad 0 0)).at 0=u:=by rw[Go.Rf.at_store,bH (by decide)];exact hu
 have h1:cM Tryz.prog call L (.region 1 clO1 ah) (S.store (aa 2) (.slice ad 0 0)) {H with next:=H.next+1}=ad:=by
  rw[cM,iN,aJ,show clO1.toList=[k1 0,k1 1] from rfl,AG call (show(k1 0).guard=ad from rfl) (by rw[bQ1,e0];exact hl _ _ _)];rfl
 rw[aIi,GF call L h0,cM,cM,h1]
def aQJ{S:Slots}{a:Option Addr}{c:Nat}(hu:S.at 0= .slice a 0 c):eO Tryz.prog PU (cM Tryz.prog call L (DQ RH) S H)=aa (Ac a,aA3 H):=by
 rw[aTl call L H hu (λ_ _ _=>bHh call) (q:=ae) (λ_ _ _=>bPq call),aI]
 have h2: ∀T:Slots,T.at 0= .slice a 0 c->cM Tryz.prog call L (.region 2 clO2 ah) T {H with next:=H.next+3}=aa (.normal,(((T.store (aa 5) (.slice (aa ⟨H.next+3,0,ad⟩) 0 0)).store (aa 2) (Ac a)).store (aa 6) (.slice a 0 c)).store (aa 6) (.slice a 0 c),aA3 H):=λT hT=>Qr call L (by
  have q1:(T.store (aa 5) (.slice (aa ⟨H.next+3,0,ad⟩) 0 0)).at 0= .slice a 0 c:=by rw[Go.Rf.at_store,bH (by decide)];exact hT
  have q2:((T.store (aa 5) (.slice (aa ⟨H.next+3,0,ad⟩) 0 0)).store (aa 2) (Ac a)).at 0= .slice a 0 c:=by rw[Go.Rf.at_store,bH (by decide)];exact q1
  have q3:(((T.store (aa 5) (.slice (aa ⟨H.next+3,0,ad⟩) 0 0)).store (aa 2) (Ac a)).store (aa 6) (.slice a 0 c)).at 0= .slice a 0 c:=by rw[Go.Rf.at_store,bH (by decide)];exact q2
  rw[show clO2.toList=[k2 0,k2 1,k2 2,k2 3] from rfl,show clO2.size=4 from rfl]
  refine(dY call (show(k2 0).guard=ad from rfl) (b20 call H)).trans ?_
  refine(dY call (H1:=aA3 H) (v:=Ac a) (show(k2 1).guard=ad from rfl) ?_).trans ?_
  .rw[show(k2 0).dst=aa 5 from rfl,b21,q1];exact bPp call
  refine(dY call (H1:=aA3 H) (v:= .slice a 0 c) (show(k2 2).guard=ad from rfl) ?_).trans ?_
  .rw[show(k2 0).dst=aa 5 from rfl,show(k2 1).dst=aa 2 from rfl,b22,q2]
  refine(dY call (H1:=aA3 H) (v:= .slice a 0 c) (show(k2 3).guard=ad from rfl) ?_).trans ?_
  .rw[show(k2 0).dst=aa 5 from rfl,show(k2 1).dst=aa 2 from rfl,show(k2 2).dst=aa 6 from rfl,b23,q3]
  rfl)
 rw[bAy call L ((GF call L (h2 _ (bPs hu))).trans (by rw[cM])),bQI,Go.Rf.at_store,bH (by decide),Go.Rf.at_store,bH (by decide),Go.Rf.at_store,bI rfl]
def aQK{S:Slots}{a:Addr}{n c:Nat}(hu:S.at 0= .slice (aa a) (n+1) c):eO Tryz.prog PU (cM Tryz.prog call L (DQ RH) S H)=eO Tryz.prog Tryz.f80 (cM Tryz.prog call L RH S H):=by
 rw[aAj call L H hu,aTl call L H hu (λ_ _ _=>bHh call) (q:=ah) (λ_ _ _=>bPr call),aJ]
 exact aUb call L H (bPs hu) bQI rfl
end
end Go.Rf
namespace Go.Rf
open Go.AI Go.Proofs
def aHJ(u:au)(rest:List au):(mC (u::rest) 0 .nil).at 0=u:=by
 rw[E9,bI ⟨aS _,by simp⟩];rfl
def a58:(mC [] 0 .nil).at 0=undef:=rfl
def aC2(w0:W0):Se w0 Tryz.prog 80 PU (DQ RH):=by
 refine⟨⟨_,_,UI,aA2,by kernel_rfl⟩,?_⟩
 intro call L bj args args' H H' w Y r h ρ hargs _;have hc:=bj w0 rfl;have run:=λ{args2:Array au} {H1 H2:St} {r2:au} (h2:eO Tryz.prog Tryz.f80 (cM Tryz.prog call L RH (mC args2.toList 0 .nil) H1)=aa (r2,H2)) (Z2:Sim w0 Tryz.prog Y H1 w) (ha:VRL Y args2.toList args'.toList)=>
  (HK (P:=Tryz.prog) a3h UI aA2 aTu hc h2 Z2 ha).2
 cases hA:args.toList with
 |nil=>
  rw[hA,aTk call L H a58 (λ_ _ _=>by kernel_rfl)]at h
  exact absurd ((by kernel_rfl:ad=eO Tryz.prog PU ad).trans h) (λe=>by cases e)
 |cons u rest=>
  rw[hA]at h hargs;obtain⟨u',rest',hA',ru,rr⟩:=hargs.cons_inv;have hu:=aHJ u rest;have cw: ∃a n c,u= .slice a n c:=by
   cases u with
   |slice a n c=>exact⟨a,n,c,rfl⟩
   |_=>
    rw[aTk call L H hu (λ_ _ _=>by kernel_rfl)]at h
    exact absurd ((by kernel_rfl:ad=eO Tryz.prog PU ad).trans h) (λe=>by cases e)
  obtain⟨a,n,c,rfl⟩:=cw;cases n with
  |zero=>
   rw[aQJ call L H hu]at h;simp only[aA,aB]at h;obtain⟨rfl,rfl⟩:=h;cases a with
   |none=>
    obtain⟨_,rfl,rfl⟩:=ru.nilslc_inv;have Z2:Sim w0 Tryz.prog Y (({H with next:=H.next+3}:St).put (H.next+3) (.cells [] (eG 11))) w:=
     (ρ.next (by omega)).put_new (ρ.dom _ (by omega)) (λcs m g v e1 e2=>by cases e1;cases e2)
    have h2:=a2z call L (({H with next:=H.next+3}:St).put (H.next+3) (.cells [] (eG 11))) hu
    refine(run (args2:=args) (by rw[hA];exact h2) Z2 (by rw[hA];exact hargs)).mono ?_
    rintro e w' ⟨Y',r',he,hr,hZ,hE,hn⟩;refine⟨Y',r',he,hr,hZ,⟨hE.1,λid hi=>hE.2 id ?_⟩,?_⟩
    .show id<H.next+3;omega
    .show H.next<=H.next+7;omega
   |some a=>
    have hus: ∃a' cap,u'= .slice (aa a') 0 cap:=by
     cases ru with
     |same _ h=>simp[bQ]at h
     |slc=>exact⟨_,_,rfl⟩
     |emp=>exact⟨_,_,rfl⟩
    obtain⟨a',cap,rfl⟩:=hus;have h2:=a2A call L H (aHJ Fc rest);refine(run (args2:=(Fc::rest).toArray) (by simpa using h2) ρ (by rw[hA'];exact VRL.cons (x:=Fc) (.emp a' 0 cap (λe=>by cases e)) rr)).mono ?_
    rintro e w' ⟨Y',r',he,hr,hZ,hE,hn⟩;obtain⟨p,vp,hp,rfl,fk,_⟩:=hr.slc_inv;obtain rfl:=fk rfl;exact⟨Y',_,he,.emp _ 1 0 (λ_=>rfl),hZ,hE,hn⟩
  |succ n=>
   cases a with
   |none=>exact absurd ru.nilslc_inv.1 (by simp)
   |some a=>
    rw[aQK call L H hu]at h;exact run (args2:=args) (by rw[hA];exact h) ρ (by rw[hA];exact hargs)
end Go.Rf
namespace Go.AI
variable{P:aw}
def aKB(w0:W0)(P:aw)(f:FuncId)(fn:Func)(c:Code):Prop:=
 ∀(call:FuncId->Array au->St->Option (au×St)) (L:Nat) (args:Array au) (H H':St) (r:au),
  Ca P f args.size=ae->eO P fn (cM P call L c (mC args.toList 0 .nil) H)=aa (r,H')->
  args.toList.all bQ=ae/\(∃n,H.next<=n/\H'={H with next:=n})/\∃r',(∀Y,VR Y r r')/\
   ∀w,Kept w0.toWorld w->Calls P f args w λe w'=>e= .returned r'/\Kept w w'
def HN {w0 : W0} {f : FuncId} {fn : Func} {c : Code} (h1 : ∃ fn c, P.funcs[f]? = aa fn ∧ fn.body = aa c ∧ (fn.name == "runtime.NumGoroutine") = ah)
    (h2:aKB w0 P f fn c):Se w0 P f fn c:=by
 refine⟨h1,?_⟩;intro call L bj args args' H H' w Y r h ρ hargs jd;obtain⟨hp,⟨n,hn,rfl⟩,r',hr,hc⟩:=h2 call L args H H' r jd h;have e:args'.toList=args.toList:=hargs.eq0 hp;have e':args'=args:=by rw[<-Array.toArray_toList (xs:=args'),e]
 subst e';exact(hc w ρ.kept.toKept).mono λe w' ⟨h5,h6⟩=>⟨Y,r',h5,hr Y,(ρ.keep h6).next hn,.refl _ _,hn⟩
def AB(C:aw)(f:FuncId)(fn:Func):aw:={C with funcs:=⟨C.funcs.toList.set f fn⟩}
def aCc{C:aw}{f g:FuncId}{fn po:Func}(h:(AB C f fn).funcs[g]?=aa po):(g=f/\po=fn)∨C.funcs[g]?=aa po:=by
 have h1:(C.funcs.toList.set f fn)[g]?=aa po:=by simpa [AB]using h
 by_cases e:g=f
 .subst e;left;rw[List.getElem?_set]at h1;simp only[if_true]at h1;split at h1
  .exact⟨rfl,(Option.some.inj h1).symm⟩
  .cases h1
 .right;rw[List.getElem?_set,bH (Ne.symm e)]at h1;simpa using h1
def AA{w0:W0}{C:aw}{f:FuncId}{fn:Func}{c:Code}(hC:Cw w0 P C)(hb:fn.body=aa c)(hr:Se w0 P f fn c):Cw w0 P (AB C f fn):=by
 intro g po c' h1 h2;rcases aCc h1 with⟨rfl,rfl⟩|h3
 .right;rw[hb]at h2;cases h2;exact hr
 .exact hC g po c' h3 h2
end Go.AI
namespace Go.AI
variable{P:aw}
def bAr(P:aw):St:=⟨.nil,.nil,P.globals.size⟩
def a8O(P:aw):Mp:=λid=>if id<P.globals.size then aa ⟨id,0,0,0⟩else ad
def a3a{id:Nat}{p:Place}(h:a8O P id=aa p):id<P.globals.size/\p.b=id:=by
 unfold a8O at h;split at h
 .cases h;exact⟨‹_›,rfl⟩
 .cases h
def EZ(id:Nat):(bAr P).get id=ad:=rfl
def bJz{w:World}(hg:P.globals.size<=w.heap.size):Sim (W0.of w) P (a8O P) (bAr P) w where
 kept:=KeptO.refl λid p h=>by obtain⟨h1,h2⟩:=a3a h;omega
 dom id h:=by
  unfold a8O;rw[bH (show¬id<P.globals.size from by have:P.globals.size<=id:=h;omega)]
 glob g h:=⟨⟨g,0,0,0⟩,by unfold a8O;rw[bI h],rfl,rfl⟩
 row id p cs m _ h:=by rw[EZ]at h;cases h
 map id p es _ h:=by rw[EZ]at h;cases h
 off i j p q cs ds m n _ _ _ h:=by rw[EZ]at h;cases h
 tip i j p q cs ds m n _ _ _ h:=by rw[EZ]at h;cases h
 maps i j p q es fs _ _ _ h:=by rw[EZ]at h;cases h
 vers id cs m g v h:=by rw[EZ]at h;cases h
 lim i j p q cs ds m n _ _ _ h:=by rw[EZ]at h;cases h
def CP{C:aw}(du:P.toTables.follows .mixedOrders=ae){w:World}(hC: ∀w0:W0,w0.toWorld=w->Cw w0 P C){O:DD}(hO:Sf P w O)(hg:P.globals.size<=w.heap.size)
    {L n:Nat} {f:FuncId} {args:Array au} {r:au} {H':St} (fh:vZ P C O L n f args (bAr P)=aa (r,H')) (ha:args.toList.all bQ=ae) (hr:bQ r=ae):
    Calls P f args w λe w'=>e= .returned r/\Kept w w':=by
 refine((FA du hC hO L n (W0.of w) rfl) f args args _ H' w (a8O P) r fh (bJz hg) (VRL.same ha)).2.mono ?_;rintro e w' ⟨Y',r',rfl,h2,ρ,_,_⟩;exact⟨by rw[h2.eq0 hr],ρ.kept.toKept⟩
end Go.AI
namespace Go.Rf
open Go.AI Go.Proofs
def sV(l:List UInt8):au:= .string ⟨l.toArray⟩
def uH(d:Nat)(t:av)(k:Nat)(v:au):Oper:=Gx (aa d) (.binOp .eql t (.tmp k) (.const v) t) 4
def Tz(d:Nat)(v:au)(t:av):Oper:=Gx (aa d) (.move (.const v)) t
def gcO:Array Oper:= #[uH 5 9 0 (sV [49]),uH 6 9 1 (sV [50]),uH 7 9 0 (sV [45,53]),uH 8 9 1 (sV [51]),Tz 4 (sV [49]) 9]
def bQF:Code:= .seq (.region 0 gcO ah) (.cond (.tmp 5) (.cond (.tmp 6) .ret (.exit 999)) (.cond (.tmp 7) (.cond (.tmp 8) .ret (.exit 999)) (.exit 999)))
noncomputable def bIu:Func:={Tryz.f222 with body:=aa bQF}
def puO:Array Oper:= #[uH 8 3 1 (.int .i64 10),uH 9 3 2 (.int .i64 32),uH 10 9 0 (sV [49]),uH 11 9 0 (sV [50]),uH 12 9 0 (sV [51]),uH 13 9 0 (sV [53]),Tz 7 .nilIface 284]
def bCX(n:Int):Code:= .seq (.region 1 #[Tz 6 (.int .u64 n) 68] ah) .ret
def bQo:Code:= .seq (.region 0 puO ah) (.cond (.tmp 8) (.cond (.tmp 9) (.cond (.tmp 10) (bCX 1) (.cond (.tmp 11) (bCX 2) (.cond (.tmp 12) (bCX 3) (.cond (.tmp 13) (bCX 5) (.exit 999))))) (.exit 999)) (.exit 999))
noncomputable def bIn:Func:={Tryz.f252 with body:=aa bQo}
def bJw:Array Oper:= #[Gx (aa 7) (.field 270 (.tmp 0) 1) 268,Gx (aa 11) (.field 270 (.tmp 0) 0) 4,
 Gx (aa 8) (.call {callee:= .builtin .len,args:= #[.tmp 7],argTypes:= #[268]}) 3,uH 9 3 8 (.int .i64 1)]
def bJv:Array Oper:= #[Gx (aa 19) (.indexAddr 268 (.tmp 7) (.const (.int .i64 0))) 0,Gx (aa 20) (.load 26 (.tmp 19)) 26,uH 21 26 20 (.int .u32 1),Tz 2 (sV [49]) 9]
def stT:Code:= .seq (.region 0 bJw ah) (.cond (.tmp 9) (.cond (.tmp 11) (.exit 999) (.seq (.region 1 bJv ah) (.cond (.tmp 21) .ret (.exit 999)))) (.exit 999))
noncomputable def bIl:Func:={Tryz.f238 with body:=aa stT}
noncomputable def bOQ:aw:=AB (AB Tryz.prog 252 bIn) 238 bIl
noncomputable def cdG:aw:=AB (AB Tryz.prog 80 PU) 222 bIu
end Go.Rf
namespace Go.TV
open Go.AI Go.PI Go.Proofs
set_option maxRecDepth 20000
def nT:List Ty:=[i6,.bool,.str,(.rc 2),(.rc 3),(zS 3),(.sl i6),(zS 2),(.sl (.int .u32)),(.rc 1),(zS 15),(.rc 18),(.rc 0),(.rc 20),(zS 1),(.int .u32),(zS 17),(.sl (.int .u8)),(zS 9),(.rc 22),(.rc 21),(.rc 4),(.int .u8),(.rc 24),(.sl .str),(.rc 15),(.rc 6),(zS 5),(zS 4),(.rc 5),(.int .u64),(zS 16),(zS 23),(.rc 19),(.sl (zS 4)),(zS 20)]
def nz:Nat->Nat->List Nat
 |0,_=>[]
 |f+1,n=>bif Nat.blt (n%16) 14 then(n%16)::nz f (n/16)else bif am (n%16) 14 then(n/16%256+14)::nz f (n/4096)else(n/16%4096+270)::nz f (n/65536)
def nA{N:Type}(d:N):List N->Nat->N
 |[],_=>d
 |x::_,0=>x
 |_::l,k+1=>nA d l k
abbrev nP(N:Type):=List Nat->N×List Nat
def nK:nP Nat
 |[]=>(0,[])
 |x::l=>(x,l)
def nB:nP Bool:=λl=>match nK l with|(k,l)=>(am k 1,l)
def nR{N:Type}(p:nP N):Nat->nP (List N)
 |0,l=>([],l)
 |k+1,l=>match p l with|(x,l)=>match nR p k l with|(r,l)=>(x::r,l)
def nL{N:Type}(p:nP N):nP (List N):=λl=>match nK l with|(k,l)=>nR p k l
def nM{N W:Type}(f:N->W)(p:nP N):nP W:=λl=>match p l with|(x,l)=>(f x,l)
def nQ{N W:Type}(p:nP N)(q:nP W):nP (N×W):=λl=>match p l with|(x,l)=>match q l with|(y,l)=>((x,y),l)
def nY:nP Ty:=nM (nA .bool nT) nK
def nS:nP Sh:=λl=>match l with
 |0::l=>nM (λx=> .lc x.1 x.2.1 x.2.2) (nQ nK (nQ nK (nL nK))) l
 |1::l=>nM (λk=> .lc k 0 []) nK l
 |2::l=>nM (λx=> .cl x.1 x.2) (nQ nK (nL nK)) l
 |3::l=>nM .rw nK l
 |4::l=>nM .row nY l
 |5::l=>(.nl,l)
 |6::l=>(.nf,l)
 |7::l=>nM .ep nY l
 |8::l=>nM .tup (nL nY) l
 |9::l=>(.no,l)
 |k::l=>(.val (nA .bool nT (k-10)),l)
 |[]=>(.no,[])
def nW:nP jC:=λl=>match l with
 |0::l=>([],l)
 |1::l=>([(0,ae)],l)
 |_::l=>nL (nQ nK nB) l
 |[]=>([],[])
def nV:nP Cut:=nM (λx=>⟨x.1,x.2⟩) (nQ (nL (nQ nK (nQ nS nW))) (nL (nQ nK (nQ nS nW))))
def nC(f n:Nat):Cut:=(nV (nz f n)).1
def nG(cs:List Cut):Nat->nP aKu
 |0,l=>(.n,l)
 |f+1,l=>match l with
  |0::l=>(.n,l)
  |1::l=>nM (λx=> .r x.1 x.2.1 x.2.2) (nQ (nL nK) (nQ (nL (nQ nK nK)) (nL (nQ nK (nQ nK (nL nK)))))) l
  |2::l=>nM (λx=> .s x.1 x.2) (nQ (nG cs f) (nG cs f)) l
  |3::l=>nM (λx=> .c x.1 x.2) (nQ (nG cs f) (nG cs f)) l
  |4::l=>nM .b (nG cs f) l
  |5::l=>nM (λx=> .l (nA ⟨[],[]⟩ cs x.1) x.2) (nQ nK (nG cs f)) l
  |6::l=>nM .o (nG cs f) l
  |7::l=>nM (λx=> .d (nA ⟨[],[]⟩ cs x.1) x.2) (nQ nK (nG cs f)) l
  |8::l=>nM (λx=> .i x.1 x.2) (nQ (nL nK) (nG cs f)) l
  |9::l=>nM (.s .n) (nG cs f) l
  |10::l=>nM (.r [] []) (nL (nQ nK (nQ nK (nL nK)))) l
  |12::l=>nM (λx=> .l x.1 x.2) (nQ nV (nG cs f)) l
  |13::l=>nM (λx=> .d x.1 x.2) (nQ nV (nG cs f)) l
  |_::l=>nM (λx=> .r x.1 [] x.2) (nQ (nL nK) (nL (nQ nK (nQ nK (nL nK))))) l
  |[]=>(.n,[])
def nI(cs:List Cut)(f n:Nat):cC:=match nQ (nQ nK (nQ (nL (nQ nS nB)) (nQ (nL (nQ nS nW)) (nQ (nL nW) (nQ (nL nY) nB))))) (nG cs 300) (nz f n)with|(x,_)=>⟨⟨x.1.1,x.1.2.1,x.1.2.2.1,x.1.2.2.2.1,x.1.2.2.2.2.1,x.1.2.2.2.2.2⟩,x.2⟩
def aIa:Cut:=nC 11 0xde100de00b0ce3
def aH9:Cut:=nC 5 0xb41
def ii0:cC:=⟨⟨3,[(.val (.sl (.int .u8)),ah),(.val (.sl (.int .u8)),ah)],[],[],[.bool],ah⟩,(.s .n (.s (.s (.r [] [] [(0,(1,[]))]) .n) (.s (.s .n (.d aIa .n)) (.s (.r [1] [] [(0,(2,[]))]) (.s (.r [4,5] [] [(4,(3,[130]))]) (.s (.r [1] [] [(1,(4,[]))]) (.s .n (.s (.r [3,4,5,7] [] [(3,(5,[]))]) (.s .n (.s (.r [4] [] [(3,(6,[152]))]) (.s (.r [3] [] [(3,(7,[]))]) (.s (.r [0,2,3] [] [(3,(7,[]))]) (.s .n (.d aH9 .n))))))))))))))⟩
def bGp:Cut:=nC 5 0xb01
def bQE:cC:=⟨⟨4,[],[],[],[.bool],ah⟩,(.s .n (.s (.r [] [] [(2,(8,[])),(1,(8,[])),(0,(8,[]))]) (.s (.r [2] [] [(2,(9,[]))]) (.s (.r [3,5,9,13,15,17] [] [(15,(9,[])),(13,(9,[])),(9,(9,[])),(5,(9,[])),(3,(9,[]))]) (.s (.r [1] [] [(1,(4,[]))]) (.s (.r [0,3,4,5,7] [] [(3,(5,[]))]) (.s (.r [3] [] [(3,(9,[]))]) (.s (.r [13,17,19] [] [(19,(10,[])),(17,(9,[]))]) (.d bGp .n)))))))))⟩
def RF:Cut:=nC 14 0x106e300be00a511ee44
def IL:Cut:=nC 14 0x106e30a711be600be04
def aH8:Cut:=nC 14 0x106e311be600be00a74
def TY:cC:=nI [RF,IL,aH8] 92 0x102b20270402b00d00d1b22000e51a29429154920d0111b20001e02b429054920c0111b20b0111b2001b21a10000be15
def IK:Cut:=nC 35 0xe5ce000e5be008e03001e70a9006e1001005ce1605be150a87
def aH7:Cut:=nC 42 0xe5ce000e5be000e60e008e04006e1001005ce1605be150a80a9060e1a001e78
def aDB:cC:=nI [IK,aH7] 149 0x102b20005e314303b1700101e309509737533b39092121b390104e20940101e709949743b3940103e11a220930952532b2429054920103e11a20102e21322b20101e20101e52522b2001b205101008e1006e00126
def IJ:Cut:=nC 14 0xac001e0001ea0ab4
def aH6:Cut:=nC 34 0xe5ee000e5de2001e0001ea0ab0ac0a505ee1805de170b0fe8
def aH5:Cut:=nC 14 0x1e0001ea0ab0ac4
def aH4:Cut:=nC 27 0xe5ee1001e0001ea0ab0ac0a505ee180b18e7
def aH3:Cut:=nC 20 0x1e0001ea0ab0ac0a50b22e6
def IA:cC:=nI [IJ,aH6,aH4,aH3,aH5] 65 0x47037008e7171b2027008e7171b22017007e51a22006e11a2942990549290110300001e17
def aH2:Cut:=nC 14 0xa1001e00b20b08e4
def aH1:Cut:=nC 22 0xe5fe000e5ee205fe1905ee180a1001e04
def II:Cut:=nC 31 0xe5fe000e5ee2101eb0a19e05fe1905ee180a1001e17e0a18e7
def aH0:Cut:=nC 31 0xe5fe000e5ee2101eb05fe1905ee180a1001e17e0a18e0a19e7
def Sw:cC:=nI [aH2,aH1,II,aH0] 106 0x102b203700be314303b00001b2300ae11a22009e31a299429925492001b217900001b2392006e41a200001b230792001b21152000b0a001e38
def RE:Cut:=nC 21 0x8e0110ce30a80010114e60a75
def aPe:cC:=nI [RE] 53 0x102b20000e2010ce42802b9429905492001b2001b2102e101008e100119
def IH:Cut:=nC 17 0xb80a900ce2001e1006e05
def aHZ:Cut:=nC 17 0xb800ce2001e1006e00a95
def aG1:cC:=nI [IH,aHZ] 37 0x17000de6161b2429054929901120000ce001e006e3a
def ii8:cC:=nI [] 20 0xe100ee22a29041000c1b
def ii9:cC:=nI [] 22 0xfe21212b2904100101e0c2c
def bL9:cC:=nI [] 23 0x10e212103b2901100101e101e2d
def Fv:Cut:=nC 11 0x106e10a3003e23
def Ld:cC:=nI [Fv] 57 0x13e1014e22702b20012e6196104b42905492011e0111b2001b2001b21a100000e
def bL8:cC:=nI [] 302 0x95016e609c0901e0903e016e04e090ae090ee0910e0914e017e16e0918e018e19e091be016e1ce0922e017e25e017e28e092ae018e2be092de016e2ee0934e017e37e017e3ae093ce019e3de093fe016e40e0946e017e4ae094ce018e4de094fe016e50e0955e017e58e018e59e095be016e5ce016e61e0967e096be017e6ee017e70e0974e0978e01ae79e097ce097fe01be81e0983e017e85e0987e018e89e098be098de016e8ee018e94e017e96e018e99e017e9be099de016e9ee32ea1e9ee9de9be96e8ee8de8be87e85e83e7fe7ce78e74e70e6ee6be67e61e5ce5be58e55e50e4fe4ce4ae46e40e3fe3ce3ae37e34e2ee2de2ae28e25e22e1ce1be18e16e14e10e0ee0ae04e03e01ec6529eb2015e21a2092121b20920952522b20800810823a2001b2114e100001e
def bL7:cC:=nI [] 340 0x9309509809d0901e0904e0908e018e0ae090ce090fe0911e0916e091be091de091fe0924e0928e092ae0930e0932e0937e0939e093be093fe0942e0945e0947e0949e094de094fe0953e019e54e0956e0958e095ce095fe0961e0965e0968e096ae096ee0971e0974e0976e0979e097be097fe0981e01de84e01ee8ae098de0990e0992e0994e0999e01ee9ce09a0e09a3e09a6e09a8e09ace09aee09b1e09b3e09b6e09b8e09bae09bfe09c3e01bec4e09c8e09cae019ecce017ecfe09d1e3ded4ed1ecfecaec8ec3ebfebaeb8eb6eb3eb1eaeeacea8ea6ea3ea0e9ce99e94e92e90e8de8ae81e7fe7be79e76e74e71e6ee6ae68e65e61e5fe5ce58e56e53e4fe4de49e47e45e42e3fe3be39e37e32e30e2ae28e24e1fe1de1be16e11e0fe0ce08e04e01ed85339eb2000e01a201ce21a20800810820834a2001b2111e100002e
def a5O:cC:=nI [] 10 0x91000c103e
def UF:Cut:=nC 33 0x1a192200e5ce008e0205ce160a2006e100100a70b08e6
def UE:Cut:=nC 30 0x1a192200e5ce008e0205ce160a2006e100100a75
def UD:Cut:=nC 34 0x1a192200e5ce005e5ee008e0305ce1605ee180a2006e100105
def Fu:Cut:=nC 43 0x1a192200e5ce005e5ee008e0305ce16101ed05ee180a00e0a2006e100100ab8
def yU:cC:=nI [UF,UE,UD,Fu] 142 0x1ee21212b200101e518503b42935492001b2023e2121b2270103e4000e72a0103e4022e72a30103e11a2020e0021e12322b22900010ce101fe22a23900104e11a2394217007920103e11a2904101008e10a006e001305e
def Ft:Cut:=nC 24 0x8e01001e90ab0a3006e100100aa6
def Lc:cC:=nI [Ft] 66 0x102b200124e4005e6276404b429054920103e21a2001b2001b205101008e10a0a006e001406e
def UC:Cut:=nC 15 0x8e010a100100b04e3
def Rb:cC:=nI [UC] 22 0x792900101008e10a001207e
def a5N:cC:=nI [] 25 0x103e10842a2904101008e1001108e
def B7:Cut:=nC 14 0x1201e50a6101e13
def UB:Cut:=nC 14 0x1201e5101e10a63
def EI:cC:=nI [B7,UB] 54 0x102b201700702b3025e5151b242905492081b2001b205100101e001e209e
def UA:Cut:=nC 36 0x1a192200e59e1a192200e58e000e57e3059e13058e12057e110b01e4
def Ra:cC:=nI [UA] 26 0x7026e1026e82a2290144300000e10ae
def Uz:Cut:=nC 5 0xb41
def TX:cC:=nI [Uz] 26 0x7027e03e028e0ae20ae1b2901100000e000e20be
def B6:Cut:=nC 21 0xe5be10ab05be150a1001e90aa5
def Uy:Cut:=nC 24 0xe5be105be150a1001e90aa0ab0b09e6
def De:cC:=nI [B6,Uy] 35 0x17029e61a29429905492901100000e0a001e30ce
def a5M:cC:=nI [] 31 0x5be5ae22ae21a20007e21a22904100000e000e000e30de
def Ux:Cut:=nC 5 0xb21
def TW:cC:=nI [Ux] 25 0x702be102ce502dea3a2901100000e10ee
def B5:Cut:=nC 14 0x101e50ac001ea0ab4
def Uw:Cut:=nC 14 0x101e5001ea0ab0ac4
def EG:cC:=nI [B5,Uw] 61 0x102b201700402b302fe2121b2942990549202ee112103b2001b215100101e101e20fe
def Uv:Cut:=nC 28 0x1612d5ae008e0205ae140a100100a50b03e5
def Uu:Cut:=nC 25 0x1612d5ae008e0205ae140a100100a54
def Ut:Cut:=nC 28 0x1612d5ae008e0205ae140a100100a06e0b0de5
def Us:Cut:=nC 25 0x1612d5ae008e0205ae140a100100b2ee4
def Fs:Cut:=nC 31 0x1612d5ae008e0205ae14103e60a80a100100a76
def sM:cC:=nI [Uv,Uu,Ut,Us,Fs] 194 0x10ce4036e52a2010ce31a200037e11102b20010ce41702b429454920103e11a2001b233790032e01a2390032e01a23900103e1035e32a23900103e1000e4034e53a2390033e01a2390033e01a23900103e1032e32a232790031e01a2390030e01a23949217007920103e11a2903101008e10a001210e
def a5L:cC:=nI [] 35 0x30e1039e22a2038e313203b2901120000ce000e006e311e
def bL6:cC:=nI [] 10 0x4100005e112e
def bL5:cC:=nI [] 25 0x13e101ee32322b2904100101e0c213e
def a6O:Cut:=nC 11 0xa5101e1101e03
def bL4:cC:=nI [a6O] 30 0x3ae81a2429054929901100101e101e214e
def a5K:cC:=nI [] 36 0x102b203be003ce103de2374324b2001b207100015e
def a6N:Cut:=nC 64 0x10fe10ee10de10ce109e108e107e106e105e104e1714c215e5ae116e115e10be10ae125211e5de205ae1405de17006e0003e50aa003e86
def a6M:Cut:=nC 57 0x10fe10ee10de10ce109e108e107e106e105e104e1714c215e5ae116e115e123211e5de205ae1405de17118eb006e0003e55
def a6L:Cut:=nC 44 0x10fe10ee10de10ce109e108e107e106e105e104e1714c215e5ae121211e5de205ae1405de172
def bL3:cC:=nI [a6N,a6M,a6L] 113 0x27003fe313103b39040e11102b2217003fe3131b39040e1111b2203fe8181b2021b20011b4290549203ee317543b2031e401fe52a203ee115323b2900be1000d006e216e
def a5J:cC:=nI [] 10 0x91000c117e
def a6K:Cut:=nC 11 0x10ae10a3003e23
def a6J:Cut:=nC 11 0x10ae10a7114e63
def bL2:cC:=nI [a6K,a6J] 81 0x102b20013e51802b42915492011b200702b03ee418653b242905492011e0111b2041e0111b2001b2100e100018e
def bL1:cC:=nI [] 41 0x18e201ae309501ae7018e809a09c7ca53b2904100000e000e219e
def a6I:Cut:=nC 40 0x116e115e10be10ae100e1d127211e5ee121211e5fe205ee1805fe190aa114e14
def bL0:cC:=nI [a6I] 42 0xe6111b42905492000e101ae22a29007e100000e000e114e0c41ae
def bLZ:cC:=nI [] 25 0xe101ee32322b2904100101e0c21be
def bLY:cC:=nI [] 18 0x30e001fe12a290410001ce
def bLX:cC:=nI [] 20 0x32e101fe22a29041000a11de
def bLW:cC:=nI [] 18 0x31e001fe12a290410001ee
def bLV:cC:=nI [] 24 0x18e2094241b2904100000e000e21fe
def bLU:cC:=nI [] 21 0x93131b2904100000e000e220e
def bLT:cC:=nI [] 92 0xfe201ee7042ea042eb042ec5722b2042e201ee700fe93972b201ee500fe72752b201ee401ee92942b2013e000ee1013e200ee3013e400ee56a2904100005e121e
def bLS:cC:=nI [] 12 0x4100101e005e222e
def bLR:cC:=nI [] 10 0x41000d128e
def a5I:cC:=nI [] 18 0x11b2001b210ae100033e
def a5H:cC:=nI [] 18 0x11b2001b210ae100034e
def bLQ:cC:=nI [] 10 0x91000c135e
def a5G:cC:=nI [] 30 0x44e21202b29043e11a29010200005e006e236e
def Ur:Cut:=nC 40 0x1a192200e5ce000e5de008e0305ce1605de170a2006e100100ad0b00e7
def Q9:cC:=nI [Ur] 133 0x104e10101e609809a4a8634b23900101e509727523b23900104e10930953532b23900101e5097099397524b2390092121b2307940103e11a220101e3131b2904101008e10a006e001337e
def Fr:Cut:=nC 15 0xe59e10a5059e13001e03
def Lb:cC:=nI [Fr] 29 0x3ae51a242905492901100000e001e238e
def Uq:Cut:=nC 5 0xb61
def TU:cC:=nI [Uq] 18 0x799011000a0c000e339e
def B4:Cut:=nC 16 0xd59e0d58e2059e13058e122
def Up:Cut:=nC 19 0xd59e0d58e2059e13058e120b22e3
def Fq:Cut:=nC 25 0xd59e0d58e2059e13058e120a50a2ae0a29e5
def Af:cC:=nI [B4,Up,Fq] 42 0x27ea1a29429925492990179240549011000d0d23ae
def Fp:Cut:=nC 19 0xa03e000be22001e1001e01e0a02e5
def La:cC:=nI [Fp] 37 0x7e31a2994299054929901100000be2001e001e33be
def a5F:cC:=nI [] 20 0x58e145e21a2901100000e000e23ce
def Fo:Cut:=nC 51 0x1a192200e5ae000e58e04465e000e1000e0505ae14058e12065e350a05e01023ee21001e03e0a04e7
def K9:cC:=nI [Fo] 55 0x11e210112010246e41a9429905492041b299041002000e000e201023ee2000e23de
def a5E:cC:=nI [] 17 0x47e11a2900100000e13fe
def a5D:cC:=nI [] 17 0x48e11a2900100000e140e
def Uo:Cut:=nC 5 0xb21
def Un:Cut:=nC 5 0xb21
def Um:Cut:=nC 12 0xe57e1057e110b2be2
def BX:cC:=nI [Uo,Un,Um] 64 0x4ce2121b202704be2027e82a223901704ae71a239007049e2027e72a239492901100000e141e
def a5C:cC:=nI [] 21 0x31b29001b215100101e142e
def a5B:cC:=nI [] 23 0x59e14de21202b2901100000e001e243e
def a5A:cC:=nI [] 18 0x13e0034e12a2903100044e
def a5z:cC:=nI [] 18 0x13e0034e12a2903100029e
def a5y:cC:=nI [] 20 0x4ee1033e22a29031000a145e
def a5x:cC:=nI [] 19 0x4fe21a29031000c0c246e
def a5w:cC:=nI [] 10 0x3100005e147e
def a5v:cC:=nI [] 10 0x31000c148e
def a5u:cC:=nI [] 12 0x31000d0d24ae
def a6H:Cut:=nC 25 0x1612d58e0d59e2058e12059e130a4003e04
def bLP:cC:=nI [a6H] 31 0x36e51a42905492030e01a2903100003e149e
def a5t:cC:=nI [] 31 0x69e150e31322b299900033000a00ce000e006e44be
def Ul:Cut:=nC 19 0xd59e0d58e2059e13058e120b21e3
def Fm:Cut:=nC 19 0xd59e0d58e20a5059e13058e123
def Dd:cC:=nI [Ul,Fm] 34 0x39ea1a242915492007929011000d0d24ce
def Uk:Cut:=nC 5 0xb41
def TR:cC:=nI [Uk] 26 0x7039e03e051e0ae20ae1b2901100000e000e230e
def a5s:cC:=nI [] 18 0x21b2001b210de10004ee
def a5r:cC:=nI [] 8 0x210004fe
def B3:Cut:=nC 19 0x7e5de010e73e205de17103eb073e1a3
def Uj:Cut:=nC 25 0x7e5de010e73e205de17073e1a103eb0ac0b3ce5
def Dc:cC:=nI [B3,Uj] 115 0x202b20402b00053e1121b23055e11a2200011b239273e154e11a200053e1121b23179929490542001b2900011b2392052e116323b2001b20b72000c0c117e34de
def a6G:Cut:=nC 12 0xd57e1103e4057e112
def bLO:cC:=nI [a6G] 62 0x102b200001b23057e11a2200702b240056e11a220542001b2011b21172000d150e
def bLN:cC:=nI [] 33 0x59e11a22964e158e21a2990042000d018e006e351e
def a6F:Cut:=nC 21 0x1612d5ae105ae140a60c1003e04
def a6E:Cut:=nC 27 0x1612d5ae105ae140c1003e00a6003e70b18e6
def bLM:cC:=nI [a6F,a6E] 42 0x17013ec1a203ee418653b24290549290132000c003e252e
def a6D:Cut:=nC 11 0x10ae20a311ce13
def bLL:cC:=nI [a6D] 49 0x102b20013e61902b42905492001b205ae0111b2001b2100e100053e
def bLK:cC:=nI [] 24 0x5be200fe4241b2904100000e000e254e
def Fk:Cut:=nC 15 0x5e57e10a511ce4057e113
def K8:cC:=nI [Fk] 27 0x549205ae0111b299010200005e15ae
def a5q:cC:=nI [] 29 0x5de41a2905ce2121b290107e200005e006e231e
def Fj:Cut:=nC 20 0xe010a03e00161e21001e01e0a02e4
def Ui:Cut:=nC 5 0xe010
def EF:cC:=nI [Fj,Ui] 52 0x170000145e21a29429905493920015ee21a22901101000e100161e2000e260e
def a5p:cC:=nI [] 29 0x9e31a29041002000e000e2011001000e33ee
def Fi:Cut:=nC 14 0xa10a09e001e07e0a08e4
def GW:cC:=nI [Fi] 47 0x47e21a99429905492939005fe31a2394929001000a000e262e
def Uh:Cut:=nC 18 0xe58e10a50a1058e120b00e4
def Fh:Cut:=nC 17 0xa50a05e0a1001e03e0a04e5
def Db:cC:=nI [Uh,Fh] 37 0x48e41a294299154920079299001000a000e263e
def Ug:Cut:=nC 5 0xb21
def TQ:cC:=nI [Ug] 25 0x704be1060e4061ea3a2901100005e164e
def Uf:Cut:=nC 5 0xb21
def TO:cC:=nI [Uf] 22 0x705fe1062e52a29011000d165e
def a5o:cC:=nI [] 20 0x63e104ae22a2901100005e166e
def a5n:cC:=nI [] 24 0x64e21202b29011000068e2001e267e
def a5m:cC:=nI [] 29 0x165e21202b2901101000e10016ae2001e269e
def a5l:cC:=nI [] 17 0x66e11a29021000a16be
def a5k:cC:=nI [] 81 0x6ae406ae6265434b2069e216432106b2069e21643205b2068e2067e3281b2067e1161b29067e1161b290222000c0c26ce
def Ue:Cut:=nC 42 0x1612d5ce011e64e000e5ae01de0405ce16064e100e001005ae140bd00ce20b51e7
def Fg:Cut:=nC 45 0x1612d5ce011e64e000e5ae01de0405ce16103e04e064e100e001005ae140bd0a05e00ce28
def Da:cC:=nI [Ue,Fg] 174 0x6fe60150e727653b20006ee31322b239200402b90150e7171b242915492001b2000150e61652b2000150e61652b2306de11a2290150e6161b2306ce11a2200792044e6161b2043e21a299023e6161b2990006be31302b239492900320101de100ce000e00136de
def Ff:Cut:=nC 11 0xa5001e1001e03
def K7:cC:=nI [Ff] 30 0x3ae81a2429054929901100001e001e25ce
def Fe:Cut:=nC 18 0x7e59e111fe4059e130c00a54
def Q8:cC:=nI [Fe] 91 0x402b200011b2392071e21a2000702b239200053e2131b2392070e21a240549001b200053e0111b2392001b20b15e2000c16ee
def bLJ:cC:=nI [] 12 0xb1000a0a26fe
def Ud:Cut:=nC 52 0x7e5be1612d5ae1612d5de009e5ce010e0505be1505ae140a1001005de1705ce160a0ae0b11e8
def Uc:Cut:=nC 46 0x7e5be1612d5ae009e5ce1612d5de010e0505be1505ae1405ce1605de170c800106
def GV:cC:=nI [Ud,Uc] 136 0x172e31a200013e0034e1037e4341b290154e31a2392900053e31a239200034e11a200053e41a2392073e7171b217999390035e21a29390390053e31a230790053e31a2394929990b3201010e10a001270e
def a5j:cC:=nI [] 17 0x74e11a29001000d171e
def MP:Cut:=nC 5 0xb21
def EV:cC:=nI [MP] 14 0x799011000d172e
def aHr:cC:=nI [] 20 0x30e1039e22a29011000d173e
def aQC:Cut:=nC 37 0x1a192200e5ce0d5ae00fe0305ce16001000ee205ae140a0fe0b10e6
def aQB:Cut:=nC 37 0x1a192200e5ce0d5ae00fe0305ce16001000ee205ae14003ea0b3be6
def aQA:Cut:=nC 34 0x1a192200e5ce0d64e00fe0305ce1600ee2064e100e00100b71e5
def aQz:Cut:=nC 44 0x1a192200e5ce005e62e0d5ae00fe0405ce16062e1c001000ee2003ed05ae140b86e7
def aQy:Cut:=nC 40 0x1a192200e5ce005e62e00fe0305ce16101e09e062e1c00100a0ae00ee2003ed7
def bFy:cC:=nI [aQC,aQB,aQA,aQz,aQy] 272 0x1ee21212b299017de21a200402b90158e6161b242945492001b2000158e31322b2907ce5151b200179e11a2233707be31a207ae5151b22000158e31322b20270179e51a2203ee317543b29078e1111b23013e01a200177e313213b23013e01a2001fe31a293013e01a2492081b20179203ee115323b20000ee21a20076e31302b220001fe11a23075e21a2239001fe11a23079492900420100fe100ee0d001374e
def MO:Cut:=nC 5 0xb21
def EU:cC:=nI [MO] 25 0x707ee107fe5080ea3a2901100000e175e
def aHq:cC:=nI [] 18 0xce1b2001b2112e100076e
def bFx:cC:=nI [] 18 0x30e001fe12a2904100027e
def yM:Cut:=nC 15 0x5e59e10a7059e13006e03
def Bt:Cut:=nC 21 0x5e59e1059e13006e00a70a9018e85
def rK:cC:=nI [yM,Bt] 37 0x154905de4151b24290549290100300005e006e25de
def MN:Cut:=nC 12 0x15e57e1057e110b52
def CO:cC:=nI [MN] 35 0x1b2000212b23079492011b200ee100015e15ee
def aHp:cC:=nI [] 23 0x7e21a2901101000e1001000e261e
def aHo:cC:=nI [] 17 0x81e11a29001000d17ae
def aHn:cC:=nI [] 15 0x63e11a290310007be
def aHm:cC:=nI [] 15 0x63e11a290310007ce
def yL:Cut:=nC 9 0xd57e1057e111
def MM:Cut:=nC 12 0xd57e1057e110b08e2
def ML:Cut:=nC 5 0xb21
def MK:Cut:=nC 5 0xb21
def MJ:Cut:=nC 5 0xb21
def lE:cC:=nI [yL,MM,ML,MK,MJ] 74 0x47082e11a239037082e1084eb2a239027082e1083ed2a2394920017082e6062e00e2a224905429011000d17de
def aHl:cC:=nI [] 10 0x3100005e17ee
def Bs:Cut:=nC 16 0xa8001e00068e210a74
def A5:cC:=nI [Bs] 33 0x85e51a294299054929001000068e2001e27fe
def Br:Cut:=nC 20 0xe010a8001e00016ae210a74
def A4:cC:=nI [Br] 38 0x186e51a29429905492900101000e10016ae2001e280e
def bFw:cC:=nI [] 17 0x87e11a29021000a181e
def MI:Cut:=nC 8 0xc00b00e2
def MH:Cut:=nC 11 0xb40c00a53
def Bq:Cut:=nC 17 0x102e60b40a70c00a55
def pV:cC:=nI [MI,MH,Bq] 63 0x312b200802b42925492001b21799900011b2307088e11a22011b20612000c182e
def Bp:Cut:=nC 8 0x2e6002e82
def A3:cC:=nI [Bp] 64 0x6ae11102b2032104b069e217643206b2490542067e1161b2067e1161b29021000c0c283e
def yK:Cut:=nC 22 0x461e1002e7061e360a8002e1002e05
def Bo:Cut:=nC 22 0x461e1002e7061e36002e1002e00a85
def rJ:cC:=nI [yK,Bo] 87 0x89e111ae11432105120008be213203b24008ae2121b22154089e71872b242905492001b2031b20102b2066200002e002e284e
def MG:Cut:=nC 8 0x10de5002e12
def Bn:Cut:=nC 11 0x10de50a6002e13
def vT:cC:=nI [MG,Bn] 54 0x902b429154920700302b392001b29089e112103b2902100002e0b285e
def Bm:Cut:=nC 25 0x1612d5ae005e59e205ae140a600ce0059e134
def AZ:cC:=nI [Bm] 20 0x54929013200005e00ce286e
def MF:Cut:=nC 5 0xb61
def ET:cC:=nI [MF] 23 0x7013e71a29011000a0c000e326e
def ME:Cut:=nC 5 0xb21
def ER:cC:=nI [ME] 14 0x799011000d187e
def MD:Cut:=nC 19 0x1612d5ae0d5ee205ae1405ee182
def EQ:cC:=nI [MD] 58 0x8ee11a22070057e31a2908de81a3908ce51a39492999043e11a29003200103e005e288e
def yJ:Cut:=nC 14 0x10ce50a6003e100ae04
def MC:Cut:=nC 17 0x10ce5003e100ae00a60b02e5
def tX:cC:=nI [yJ,MC] 46 0x102b200c02b420179205492001b2001b2102e100003e00ae289e
def yH:Cut:=nC 8 0xa10c02
def yG:Cut:=nC 8 0xa10c02
def Bl:Cut:=nC 11 0xa10c00a63
def MB:Cut:=nC 11 0xa10c00b13e3
def mB:cC:=nI [yH,yG,MB,Bl] 74 0x90e21a203090e21a2039449354993090e21a2002792154390308fe31a2449054290102000a0c28ae
def MA:Cut:=nC 36 0x7e5ce009e5ae007e5ee009e5de405ce1605ae1405ee180a105de170b33e6
def Mz:Cut:=nC 33 0x7e5ce009e5ae007e5ee009e5de405ce1605ae1405ee180a105de175
def My:Cut:=nC 33 0x7e5ce009e5ae007e5ee009e5de405ce1605ae1405ee180aa05de175
def Mx:Cut:=nC 39 0x7e5ce009e5ae007e5ee009e5de405ce1605ae1405ee180aa05de170a10b95e7
def Mw:Cut:=nC 33 0x7e5ce009e5ae007e5ee009e5de405ce1605ae1405ee180a105de175
def mA:cC:=nI [MA,Mw,Mz,Mx,My] 182 0x47092e11a9900053e31a2337098e2098e72a2097e1097e304fe43a2900053e31a23097e11a223903942096e11a200095e41a23090e21a229094e21a200053e31a23093e11a20270092e11a392091e31a29390170053e21a30792091e31a29390390390394929990b0d3000a0c28be
def yF:Cut:=nC 39 0x7e5be1612d5ae0d5de010e0405be1505ae1405de17103e600100a16
def Mv:Cut:=nC 42 0x7e5be1612d5ae0d5de010e0405be1505ae1405de1700100a1103e60b1de7
def Mu:Cut:=nC 36 0x7e5be1612d5ae0d5de010e0405be1505ae1405de17103e600105
def Bk:Cut:=nC 35 0x7e5be1612d5ae0d5de010e0405be1505ae1405de170ad103e65
def lZ:cC:=nI [yF,Mv,Mu,Bk] 105 0x36e51a429354929270402b90154e21a2000053e31a20053e31a2390394992990154e21a2931792490542030e01a2001b290b3201010e10a00128de
def Mt:Cut:=nC 25 0x5e5ce019e5ee205ce160c20c105ee180b0de5
def Bj:Cut:=nC 25 0x5e5ce019e5ee205ce160c20c10aa05ee185
def tW:cC:=nI [Mt,Bj] 37 0x15492007929099e21202b290092000c0c017e38ce
def Ms:Cut:=nC 15 0xd58e10a1058e120bd3
def CN:cC:=nI [Ms] 31 0x74e81a29074e61a2007929001000a0d28ee
def Mr:Cut:=nC 5 0xb21
def EP:cC:=nI [Mr] 25 0x709ae1013e4013e93a2901100005e18fe
def aQx:Cut:=nC 27 0x1a192200e5ae005e59e205ae140a600ee0059e134
def bFv:cC:=nI [aQx] 20 0x54929014200005e00ee278e
def aQw:Cut:=nC 39 0x1a192200e5ce00fe0205ce1600ee210eeb003e100100ac00ae8003e98
def bFu:cC:=nI [aQw] 72 0x158e71742b200902b90158e6161b242905492001b2909be3198544b29900420100fe100ee003e001390e
def aQv:Cut:=nC 21 0x1612d58e1058e12003e0103e40a64
def aQu:Cut:=nC 24 0x1612d58e1058e12003e0103e40a60b1de5
def bFt:cC:=nI [aQv,aQu] 68 0x37e4037e709cec09ce00e400ec744b290017903ee418653b242905492903ee317543b299013200003e191e
def bFs:cC:=nI [] 14 0x110100fe1001192e
def yE:Cut:=nC 29 0x100e1d123216e5ae005e59e205ae140a6006e0059e134
def Mq:Cut:=nC 32 0x100e1d123216e5ae005e59e205ae14006e0059e130a60b0ee5
def tU:cC:=nI [yE,Mq] 27 0x179429054929010ce200005e006e293e
def aQt:Cut:=nC 5 0xb81
def bFr:cC:=nI [aQt] 19 0x794929901100005e194e
def aQs:Cut:=nC 28 0x1612d5ae0d59e205ae14006e0059e13003e70b17e5
def aQr:Cut:=nC 28 0x1612d5ae016e63e205ae14063e1d006e00a00e003ea5
def aQq:Cut:=nC 31 0x1612d5ae016e63e205ae14063e1d006e00a00e003ea0b4ae6
def aQp:Cut:=nC 28 0x1612d5ae016e63e205ae14001203e01e063e1d006e04
def bFq:cC:=nI [aQs,aQr,aQq,aQp] 106 0x6fe6038e7276504b2370037e417403b392071b2027921799907ae2121b20009de31322b2307be11a22081b20079203ee115323b2900133000d006e295e
def aQo:Cut:=nC 19 0x5e59e00fe02059e1300100a63
def bFp:cC:=nI [aQo] 32 0x23e5151b2005492901020100fe1005e001296e
def aHk:cC:=nI [] 17 0x9ee11a2900100000e197e
def aHj:cC:=nI [] 17 0x9fe11a2900100000e198e
def Mo:Cut:=nC 5 0xb21
def Mn:Cut:=nC 5 0xb21
def Ml:Cut:=nC 12 0xe57e1057e110b2be2
def Bi:Cut:=nC 12 0xe57e10a4057e112
def nE:cC:=nI [Mo,Mn,Ml,Bi] 72 0x80e51a24293549202709ae51a223901708ee71a239007075e41a239492039e31a2901100000e199e
def yD:Cut:=nC 12 0xd58e10a1058e122
def Mk:Cut:=nC 15 0xd58e10a1058e120bc3
def tT:cC:=nI [yD,Mk] 30 0x81e61a240179205429001000a0d29ae
def Mj:Cut:=nC 5 0xb81
def EO:cC:=nI [Mj] 20 0x799011000b0b0b0d49be
def aQn:Cut:=nC 11 0xc10c00b0ae3
def aQm:Cut:=nC 5 0xb41
def bFo:cC:=nI [aQn,aQm] 41 0x1790a2e21a20070a0e10a0e50a1ea0a1e01e4a229011000c0c29ce
def Mi:Cut:=nC 12 0x5e57e1057e110b0de2
def yC:Cut:=nC 15 0x5e57e10a11e057e110a10e3
def Mh:Cut:=nC 24 0x5e57e1057e110a10e0a11e012e40a30b56
def Mg:Cut:=nC 18 0x5e57e1057e110a10e0a11e0b2fe4
def nD:cC:=nI [Mi,yC,Mh,Mg] 35 0x3792799942991549200792901100005e19de
def aHi:cC:=nI [] 17 0x2de11a2901100000e168e
def aHh:cC:=nI [] 23 0x7e21a2901101000e1001000e26ae
def bFn:cC:=nI [] 17 0xa3e11a29021000a19ee
def Mf:Cut:=nC 11 0xc00a30b00e3
def Me:Cut:=nC 8 0xc00a32
def Md:Cut:=nC 11 0xc00a30b0ae3
def yA:Cut:=nC 8 0xa40c02
def Mb:Cut:=nC 11 0xc00a40b1be3
def kQ:cC:=nI [Mf,Me,Md,yA,Mb] 38 0x47942935492027921700792999011000c19fe
def xZ:Cut:=nC 8 0xa3002e02
def L9:Cut:=nC 11 0xa3002e00b01e3
def tS:cC:=nI [xZ,L9] 31 0x31b200179205429001b206100002e1a0e
def Bh:Cut:=nC 11 0xa5002e1002e03
def AY:cC:=nI [Bh] 20 0x54929900100002e002e2a1e
def xY:Cut:=nC 17 0x102e50a7002e10a6002e05
def L8:Cut:=nC 17 0x2e1002e00a70a8102e55
def L7:Cut:=nC 20 0x2e10a6002e00a70a8102e56
def pU:cC:=nI [xY,L8,L7] 55 0x89e112103b200402b27991799429054929001b2001b206100002e002e2a2e
def L6:Cut:=nC 35 0x1612d5ae0d59e0d5be305ae14059e130cc05be150c00bd6
def CM:cC:=nI [L6] 199 0x35e31a200035e01a23920abe11a23900aae1032e32a2390035e31a2390035e31a2390033e11a20a9e41a2390033e21a2390033e21a23900a8e11a23900a7e11a23900a6e10a5e22a23900a5e31a23900a5e31a23900a5e31a23900a5e31a239000030e01a23056e11a2230794920a4e11a29031000d0c2a3e
def L5:Cut:=nC 22 0x1612d5ce005e5de205ce1605de170b2be3
def AX:cC:=nI [L5] 147 0x32e51a200030e01a23920afe21a23900aae10aae3035e53a2390034e11a200030e01a230709aea1a220aae10aae32a23900aee20a5e32a23900ade21a23900ace21a2390036e21a2390039e20a5e32a2394929031000d0d0c3a4e
def L4:Cut:=nC 5 0xb21
def EN:cC:=nI [L4] 22 0x7055e10b0e52a29011000d1a5e
def L3:Cut:=nC 5 0xb21
def EM:cC:=nI [L3] 14 0x79901100012e1a6e
def L2:Cut:=nC 5 0xb81
def EL:cC:=nI [L2] 20 0x79901100012e012e0a0c4a7e
def aQl:Cut:=nC 21 0x7e5ee10a10c010de905ee18012e25
def aQk:Cut:=nC 24 0x7e5ee10c005ee18012e20a110de90b30e6
def bFm:cC:=nI [aQl,aQk] 74 0x702b20053e21a231790053e31a23900602b2390390053e31a23944054001b290b02300012e0a0c3a8e
def L1:Cut:=nC 19 0x7e5ae009e58e205ae14058e120bd3
def CL:cC:=nI [L1] 41 0x53e21a23070b1ed1a20053e21a2394290b1000b009e2a9e
def L0:Cut:=nC 5 0xb21
def EK:cC:=nI [L0] 14 0x79901100012e1aae
def xX:Cut:=nC 8 0xa10c02
def LZ:Cut:=nC 11 0xa10c00b00e3
def tR:cC:=nI [xX,LZ] 28 0x17093e81a2205429001000a0c2abe
def aQj:Cut:=nC 33 0x7e60e009e5ee007e64e009e5be4060e1a05ee18064e100e0ad05be155
def bFl:cC:=nI [aQj] 82 0x92e31a29094e21a200053e31a23093e31a20070092e11a3929091e31a2390053e41a2394299990b0d3000a0c009e0c4ace
def LY:Cut:=nC 11 0xc00a50b01e3
def LX:Cut:=nC 8 0xc00a52
def xV:Cut:=nC 11 0xa60c00a53
def LW:Cut:=nC 14 0xa60c00a50b12e4
def LV:Cut:=nC 11 0xa60c00b27e3
def xU:Cut:=nC 11 0xa60c00a73
def LU:Cut:=nC 14 0xa60c00a70b39e4
def gX:cC:=nI [LY,LX,xV,LW,LV,xU,LU] 52 0x6794295549204792990037922542917007929901223000c1ade
def aQi:Cut:=nC 8 0xc00b32
def aQh:Cut:=nC 11 0xa40c00b33
def aQg:Cut:=nC 11 0xa40c00b33
def aQf:Cut:=nC 14 0xa40c00b30b09e4
def bFk:cC:=nI [aQi,aQh,aQg,aQf] 28 0x3792254217990799021000c1aee
def aHg:cC:=nI [] 19 0x67e1161b29001000c1afe
def Bg:Cut:=nC 21 0x111219e5ae105ae140a6017e00c14
def AW:cC:=nI [Bg] 20 0x54929010fe2000c017e2b0e
def aHf:cC:=nI [] 17 0xb2e11a2901100005e1b1e
def aQe:Cut:=nC 14 0x103e810ae70a9103e54
def aQd:Cut:=nC 20 0x103e50a9003ea103e810ae70b22e6
def aQc:Cut:=nC 11 0x103e810ae70ac3
def aQb:Cut:=nC 11 0x103e810ae70ad3
def bFj:cC:=nI [aQe,aQd,aQc,aQb] 150 0x32104b20000102b230b3e7171b2429354920000102b23075e41a24292549200602b0702b2000102b23179203ee418653b242905492001b2001b2000102b239203ee115323b20212b200700e3000d1b2e
def bFi:cC:=nI [] 28 0xb4e1037e3036e43322b2903100003e0c2b3e
def aQa:Cut:=nC 27 0x1612d5ae105ae14003e10c00a60cb0b0ce6
def aP9:Cut:=nC 27 0x1612d5ae105ae14003e10c00a60cb0b2de6
def aP8:Cut:=nC 24 0x1612d5ae105ae14003e10c0003e70b64e5
def aP7:Cut:=nC 12 0x1612d5ae105ae141
def aP6:Cut:=nC 24 0x1612d5ae105ae14003e10c00a60ba6e5
def bFh:cC:=nI [aQa,aP9,aP8,aP6,aP7] 317 0x470009ce709ce92972b20009ce7171b23920009ce709ce92972b2392933790009ce709ce92972b2390009ce4141b2392390009ce709ce92972b2390009ce4141b23923900b6e21212b23900b6e21212b23900b5e909ceb2b92b20279203ee317543b200030e01a23923900b5e909ceb2b92b2000b5e6030e709ce93962b23929000a5e21a2392317900b5e609ce82862b2000b5e609ce82862b2392900030e01a2392307900b5e609ce82862b200030e01a23923949299013200003e0c2b4e
def xS:Cut:=nC 14 0xa50a70a1001e64
def LS:Cut:=nC 17 0xa50a1001e60a70b0ce5
def tQ:cC:=nI [xS,LS] 51 0x9ee81a4201792054920b7e1121b2900055e31a23929001000a000e2b5e
def xQ:Cut:=nC 14 0xa50a70a1001e64
def LR:Cut:=nC 17 0xa50a1001e60a70b03e5
def tN:cC:=nI [xQ,LR] 40 0x9fe71a4201792054920b7e1121b299001000a000e2b6e
def aP5:Cut:=nC 11 0xc30c00bd3
def aP4:Cut:=nC 11 0xa04e0c30a03e3
def aP3:Cut:=nC 14 0xc30a03e0a04e0b10e4
def bFg:cC:=nI [aP5,aP4,aP3] 37 0x2799429915492007920b8e11a29011000c1b7e
def bFf:cC:=nI [] 20 0xb9e10b8e22a29001000c1b8e
def aP2:Cut:=nC 8 0xc10c02
def bFe:cC:=nI [aP2] 63 0xbce21a20bce21a290bbe21a20700bae10bae32a39039039420b9e10b9e32a290222000c0c2b9e
def aP1:Cut:=nC 8 0xa00b03e2
def ii177:cC:=⟨⟨200,[(.val i6,ah),(.val i6,ah)],[],[],[.str],ah⟩,(.s .n (.s (.s .n (.c (.s (.s .n (.d aP1 (.c (.s (.r [] [] [(1,(204,[]))]) .n) .n))) (.s .n (.s .n (.s .n (.d ⟨[],[]⟩ (.s .n (.s (.r [4] [] []) .n))))))) .n)) (.s (.r [6,7,9] [] [(5,(203,[]))]) .n)))⟩
def aHe:cC:=nI [] 18 0x32e01a299031000d1bbe
def aHd:cC:=nI [] 28 0x30e01a200031e01a23929031000b1bce
def LQ:Cut:=nC 5 0xb21
def EJ:cC:=nI [LQ] 14 0x799011000d1bde
def aHc:cC:=nI [] 26 0xbfe2033e52a20a4e11a29031000d1bee
def aHb:cC:=nI [] 23 0x33e41a20a4e11a29031000d1bfe
def LP:Cut:=nC 20 0x2eb0b8002ea0b6002e90b1be6
def LO:Cut:=nC 14 0x2eb0b8002ea0b64
def zH:cC:=nI [LP,LO] 99 0x6ae406ae7276434b217008be2132104b0c0e213203b230792069e217643206b20006ae21212b2392067e1161b2067e1161b290222000c0c2c0e
def aHa:cC:=nI [] 10 0x21000d1c1e
def LN:Cut:=nC 8 0xa40b0ae2
def CK:cC:=nI [LN] 31 0x7920c1e21a200a6e11a2290108e2000d1c2e
def aG9:cC:=nI [] 40 0xc2e40c2e90c3ea0c2e01e033e02e5a20a4e10a4e32a29031000d0d2c3e
def aG8:cC:=nI [] 34 0xc2e40c2e9033ea3a20a4e10a4e32a29031000d0d2c4e
def aG7:cC:=nI [] 25 0xa4e10a4e30c4e43a29011000d0d2c5e
def LM:Cut:=nC 19 0xd58e0d59e2058e12059e130b01e3
def LL:Cut:=nC 8 0xa60b14e2
def vS:cC:=nI [LM,LL] 35 0x17920c1e21a20070a6e51a2290102000d0d2c6e
def LK:Cut:=nC 5 0xb21
def LJ:Cut:=nC 5 0xb21
def LI:Cut:=nC 5 0xb21
def LH:Cut:=nC 5 0xb21
def pT:cC:=nI [LK,LJ,LI,LH] 67 0x370b0e0de0b0e14e2a2390279390170b2e21a239007098e0ce098e11e2a204fe41a23949299011000d1c7e
def bFd:cC:=nI [] 17 0xc5e11a29011000c1c8e
def LG:Cut:=nC 5 0xb21
def EH:cC:=nI [LG] 19 0x70c5e21a2901100005e1c9e
def aP0:Cut:=nC 15 0x5e59e10a5059e1300ae03
def bFc:cC:=nI [aP0] 19 0x5492901100005e00ae257e
def bFb:cC:=nI [] 20 0x13e1034e22a29031000c1cae
def bFa:cC:=nI [] 22 0x9ce21212b2903100003e0c2cbe
def bE9:cC:=nI [] 67 0xb5e709ce92972b20009ce8181b2390032e209ce7271b2390032e11a239492903100003e0a0c0c4cce
def aG6:cC:=nI [] 31 0x212b200001b2392011b205100000e156e
def bE8:cC:=nI [] 19 0xc6e21a29021000c0c2cde
def bE7:cC:=nI [] 19 0xa0e11a229021000c1cee
def bE6:cC:=nI [] 17 0xb9e11a29021000c1cfe
def bE5:cC:=nI [] 12 0x21000c0c2d0e
def aPZ:Cut:=nC 32 0x13e61e013e60e013e5de3061e1b060e1a004e905de17004e80b21e6
def aPY:Cut:=nC 16 0x13e61e013e60e2061e1b060e1a2
def bE4:cC:=nI [aPZ,aPY] 81 0xcbe10cbe32a21700cae31322b0c9e21202b23079290c8e41986545b2000b9e11a23920c7e10c7e32a290222000c0c2d1e
def aPX:Cut:=nC 26 0x10dea0cb00de00b40b301ae10a20b0ee8
def aPW:Cut:=nC 23 0x10dea0cb00de00b40b301ae10a27
def bE3:cC:=nI [aPX,aPW] 76 0x402b239200d900d0000c4290000c4299939200d9991700792001b20203e2000b0b0a01ae00de5d5e
def bE2:cC:=nI [] 10 0x21000a1d2e
def aG5:cC:=nI [] 28 0x6ae31322b2067e1161b29021000c1d6e
def xP:Cut:=nC 17 0x102e50a7002e1002e00a65
def LF:Cut:=nC 20 0x102e5002e1002e00a70a60b08e6
def LD:Cut:=nC 17 0x2e1002e00a70a8102e55
def LC:Cut:=nC 17 0x2e1002e00a70a8102e55
def mZ:cC:=nI [xP,LF,LD,LC] 56 0x102b2000502b237927994201792054929001b2001b216100002e002e2d7e
def Bf:Cut:=nC 14 0xa60b40a7002e54
def LB:Cut:=nC 5 0xa61
def vR:cC:=nI [Bf,LB] 31 0x17900549299067e1161b290102000c1d8e
def aG4:cC:=nI [] 43 0xcce506ae6265434b2067e1161b2067e1161b29021000c0c2dae
def aG3:cC:=nI [] 88 0x8be306ae4243214b20008be306ae4243214b2308ae2121b22000c0e306ae4243214b2392067e1161b2067e1161b29021000c0c2d9e
def LA:Cut:=nC 19 0xd59e0d58e2059e13058e120b26e3
def CJ:cC:=nI [LA] 105 0xc4e81a290c4e81a2007056e1056e52a22000d0e41a23900cfe41a23900c2e40c2e90ceea3a23940cde11a220000cde10cde32a2230cde10cde32a229001000d0d2dbe
def Lz:Cut:=nC 8 0xc00b08e2
def xO:Cut:=nC 8 0xa30c02
def Ly:Cut:=nC 11 0xc00a30b23e3
def oX:cC:=nI [Lz,xO,Ly] 30 0x279942915492007929011000c1dce
def bE1:cC:=nI [] 21 0xd1e21a229021000c0c2dde
def aPV:Cut:=nC 25 0x111213e58e111213e5ae2058e1205ae140c33
def bE0:cC:=nI [aPV] 46 0xd2e2121b20011b29949054290b8e11a20b9e11a29009e1000c1dee
def aPU:Cut:=nC 30 0x4e5de001e462e004e59e305de17062e360a8059e13004e05
def aPT:Cut:=nC 33 0x4e5de001e462e004e59e305de17062e36059e13004e00a800be96
def bEZ:cC:=nI [aPU,aPT] 96 0xd2e1121e1143210512001700d2e40d5e50cae6365404b5de59e2d4e11a230d3e2121b2290d2e7171b2429054929031b20212b2088200004e004e2dfe
def aPS:Cut:=nC 8 0x4e1004e02
def aPR:Cut:=nC 23 0xbe6001204e50a08e004e1004e00a07e6
def aPQ:Cut:=nC 23 0x4e1004e00a07e0a08e00be8001204e56
def bEY:cC:=nI [aPS,aPR,aPQ] 67 0xd2e415403b200502b9279994299154929041b2070032104b392001b208100104e004e2e1e
def aPP:Cut:=nC 25 0x1e461e1061e350a00e004e10a6004e00ad6
def aPO:Cut:=nC 28 0x1e461e1061e35004e1004e00ad0a00e0a80a77
def aPN:Cut:=nC 31 0x1e461e1061e35004e10a6004e00ad0a00e0a80a78
def bEX:cC:=nI [aPP,aPO,aPN] 56 0xd2e111fe11210312002799179994299054929031b2001b208100004e004e2e2e
def bEW:cC:=nI [] 25 0xc492900d999902100013e1e0e
def xN:Cut:=nC 19 0x466e1066e350a6002e1002e04
def xM:Cut:=nC 25 0x466e1066e35002e1002e00a60a80a76
def Lx:Cut:=nC 28 0x466e1066e35002e1002e00a60a80a70b10e7
def Lw:Cut:=nC 25 0x466e1066e35002e1002e00a60a80a96
def lD:cC:=nI [xN,xM,Lx,Lw] 62 0x89e1133e11210312000379942027921549942905492071b2001b206100002e002e2e8e
def aG2:cC:=nI [] 10 0x1000d1e9e
def Lv:Cut:=nC 17 0x2e8002e60b50b70b05e5
def Lu:Cut:=nC 14 0x2e8002e60b50b0be4
def zG:cC:=nI [Lv,Lu] 65 0x8ae212103b20008ae212103b239031790307942067e1161b2067e1161b29001000c0c2eae
def bEV:cC:=nI [] 12 0x1000c0c2ebe
def bEU:cC:=nI [] 30 0xcfe41a2000cfe41a2392900100005e005e2ece
def aPM:Cut:=nC 5 0xb41
def bET:cC:=nI [aPM] 16 0x799011000c0c2ede
def aPL:Cut:=nC 5 0x4e01
def aPK:Cut:=nC 8 0x4e00b00e2
def bES:cC:=nI [aPL,aPK] 35 0x102b2051b4017920542001b208100004e1efe
def aPJ:Cut:=nC 11 0xa5004e1004e03
def bER:cC:=nI [aPJ] 20 0x54929900100004e004e2f0e
def aPI:Cut:=nC 21 0x4e1004e020a50102f2e210a63
def bEQ:cC:=nI [aPI] 40 0x102d6e21a2949054299001002004e004e20102f2e20a2f1e
def aPH:Cut:=nC 22 0x1e467e1067e350a06e004e1004e04e0a05e5
def aPG:Cut:=nC 40 0x1e467e1067e35004e1004e04e0a05e0a06e01ae80a60a0de00be7004e0be0a0ceb
def bEP:cC:=nI [aPH,aPG] 54 0xd2e1135e112103120001549299429905492061b2001b208100004e004e2f3e
def bEO:cC:=nI [] 35 0xd5e40d3e62642b29011002004e004e20110010a3f2e
def insL:List (Nat×cC):=[(0,ii0),(1,bQE),(2,TY),(3,aDB),(4,IA),(5,Sw),(6,aPe),(7,aG1),(8,ii8),(9,ii9),(10,bL9),(11,Ld),(12,bL8),(13,bL7),(14,a5O),(15,yU),(16,Lc),(17,Rb),(18,a5N),(19,EI),(20,Ra),(21,TX),(22,De),(23,a5M),(24,TW),(25,EG),(26,sM),(27,a5L),(28,bL6),(29,bL5),(30,bL4),(31,a5K),(32,bL3),(33,a5J),(34,bL2),(35,bL1),(36,bL0),(37,bLZ),(38,bLY),(39,bLX),(40,bLW),(41,bLV),(42,bLU),(43,bLT),(44,bLS),(45,bLR),(46,a5I),(47,a5H),(48,bLQ),(49,a5G),(50,Q9),(51,Lb),(52,TU),(53,Af),(54,La),(55,a5F),(56,K9),(57,a5E),(58,a5D),(59,BX),(60,a5C),(61,a5B),(62,a5A),(63,a5z),(64,a5y),(65,a5x),(66,a5w),(67,a5v),(68,a5u),(69,bLP),(70,a5t),(71,Dd),(72,TR),(73,a5s),(74,a5r),(75,Dc),(76,bLO),(77,bLN),(78,bLM),(79,bLL),(80,bLK),(81,K8),(82,a5q),(83,EF),(84,a5p),(85,GW),(86,Db),(87,TQ),(88,TO),(89,a5o),(90,a5n),(91,a5m),(92,a5l),(93,a5k),(94,Da),(95,K7),(96,Q8),(97,bLJ),(98,GV),(99,a5j),(100,EV),(101,aHr),(102,bFy),(103,EU),(104,aHq),(105,bFx),(106,rK),(107,CO),(108,aHp),(109,aHo),(110,aHn),(111,aHm),(112,lE),(113,aHl),(114,A5),(115,A4),(116,bFw),(117,pV),(118,A3),(119,rJ),(120,vT),(121,AZ),(122,ET),(123,ER),(124,EQ),(125,tX),(126,mB),(127,mA),(128,lZ),(129,tW),(130,CN),(131,EP),(132,bFv),(133,bFu),(134,bFt),(135,bFs),(136,tU),(137,bFr),(138,bFq),(139,bFp),(140,aHk),(141,aHj),(142,nE),(143,tT),(144,EO),(145,bFo),(146,nD),(147,aHi),(148,aHh),(149,bFn),(150,kQ),(151,tS),(152,AY),(153,pU),(154,CM),(155,AX),(156,EN),(157,EM),(158,EL),(159,bFm),(160,CL),(161,EK),(162,tR),(163,bFl),(164,gX),(165,bFk),(166,aHg),(167,AW),(168,aHf),(169,bFj),(170,bFi),(171,bFh),(172,tQ),(173,tN),(174,bFg),(175,bFf),(176,bFe),(177,ii177),(178,aHe),(179,aHd),(180,EJ),(181,aHc),(182,aHb),(183,zH),(184,aHa),(185,CK),(186,aG9),(187,aG8),(188,aG7),(189,vS),(190,pT),(191,bFd),(192,EH),(193,bFc),(194,bFb),(195,bFa),(196,bE9),(197,aG6),(198,bE8),(199,bE7),(200,bE6),(201,bE5),(202,bE4),(203,bE3),(204,bE2),(205,aG5),(206,mZ),(207,vR),(208,aG4),(209,aG3),(210,CJ),(211,oX),(212,bE1),(213,bE0),(214,bEZ),(215,bEY),(216,bEX),(217,bEW),(218,lD),(219,aG2),(220,zG),(221,bEV),(222,bEU),(223,bET),(224,bES),(225,bER),(226,bEQ),(227,bEP),(228,bEO)]
def bLC(a:Int):Option (List UInt8):=bif aj (a= -1)then aa [45,49]else bif aj (a= -2)then aa [45,50]else bif aj (a= -3)then aa [45,51]else bif aj (100<=a)&&aj (a<1000)then aa [UInt8.ofNat (48+a.toNat/100),UInt8.ofNat (48+a.toNat/10%10),UInt8.ofNat (48+a.toNat%10)]else ad
def orcI:DD:=⟨200,λa b=>bif aj (b=10)then bLC a else ad,4,ad⟩
def tpI:TP U0.D:=bIi orcI (JV insL)
noncomputable def bP(L n:Nat):bT:=vY U0 tpI (GD Go.Rf.cdG insL) L n
end Go.TV
namespace Go.TV
open Go.AI Go.PI Go.Proofs
abbrev Bx:G.Y:=⟨[],[]⟩
abbrev qR:G.O:=⟨0,[],[],Bx,[],[]⟩
abbrev GA:G.T:=⟨0,Bx,qR,[]⟩
abbrev zqF:G.F:=⟨Bx,[],0,GA,GA,GA⟩
def bY:Nat->Nat->List UInt8
 |0,_=>[]
 |f+1,n=>UInt8.ofNat (n%128)::bY f (n/128)
def dT{a b:Nat}(h:a<b):aj ((a:Int)<(b:Int))=ae:=bF (by omega)
def dF{a b:Nat}(h: ¬a<b):aj ((a:Int)<(b:Int))=ah:=bG (by omega)
def pw:Nat->Nat->List Nat
 |0,_=>[]
 |f+1,n=>(n%2)::pw f (n/2)
def sK(m k:Nat)(h:k<=m): ∃q,m=q+k:=⟨m-k,by omega⟩
abbrev Nt:=mK->Rt
abbrev yR(n:Nat)(x:Den U0.D (.rc n)):TV U0.D:=⟨.rc n,x⟩
abbrev yS(n:Nat)(x:Den U0.D (.sl (.rc n))):TV U0.D:=⟨.sl (.rc n),x⟩
abbrev yI(x:Int):TV U0.D:=⟨.int .i64,x⟩
abbrev yB(x:Bool):TV U0.D:=⟨.bool,x⟩
abbrev yT(x:List UInt8):TV U0.D:=⟨.str,x⟩
section
variable(x:cC)(c:bT)(e:Cu)(L:Nat)(π:List Nat)(ct:Cut)
def cu:Cu:=⟨Dx U0 tpI c L,Ex U0 tpI c L⟩
noncomputable def xW:TC:=iX x.sk (sT Go.Rf.cdG x.sig.f)
noncomputable def xC:TC:=aNq (xW x) π
noncomputable def xK:Kt:=aPp U0 tpI x.sig (HL Go.Rf.cdG x.sig.f)
noncomputable def xT(K:Kt):Kt:=DO U0 (oG U0 tpI c e.D e.E (xC x π)) K
noncomputable def xF(d:mK):Rt:=oZ U0 (cutOf x.sig) (λS M=>oG U0 tpI c e.D e.E (xW x) S M (xK x)) d
noncomputable def xA(K:Kt)(d:mK):Rt:=oZ U0 ct (λS M=>oG U0 tpI c e.D e.E (xC x π) S M K) d
noncomputable def xL(K:Kt)(n:Nat)(d:mK):Rt:=CG U0 ct (λS M K=>fO U0 tpI c L (xC x π) S M K) K n d
noncomputable def xD(K:Kt)(d:mK):Rt:=e.D ct (xC x π) d K
noncomputable def xE(K:Kt)(d:mK):Rt:=e.E ct (xC x π) d K
def bW(K:Kt):xD x (cu c L) π ct K=xA x c (cu c L) π ct K:=funext λd=>vV ct (λS M=>(bNm (T:=tpI) (c:=c) (L:=L) (xC x π) S M K).symm) d
def eM(K:Kt)(n:Nat):xL x c L π ct K (n+1)=xA x c (cu c L) π ct (fT U0 ct (xL x c L π ct K n) K):=funext λd=>vV ct (λS M=>(bNm (T:=tpI) (c:=c) (L:=L) (xC x π) S M _).symm) d
end
def xI: ∀{l:List (Nat×cC)} {i:Nat} {x:cC},rN l i=aa x->(i,x)∈l
 |a::l,i,x,h=>by
  simp only[rN]at h;cases hb:am a.1 i with
  |true=>
   rw[hb]at h;simp only[aI,aA]at h;have:=aE hb;subst this;subst h;exact aH ..
  |false=>rw[hb]at h;exact aG _ (xI h)
def a5Q:(insL.all λx=>aOE orcI x.2.sig&&an x.2.sig.bx.length 100&&GS x.2.sig.bx.length x.2.sig.bx)=ae:=by kernel_rfl
def cg{i:Nat}{x:cC}(hx:rN insL i=aa x)(hf:(am x.sig.f orcI.n||am x.sig.f orcI.m)=ah)(L n:Nat)(d:mK):bP L (n+1) i d=xF x (bP L n) (cu (bP L n) L) d:=by
 have hs:tpI.sig i=aa x.sig:=by show JV insL i=_;unfold JV;rw[hx];rfl
 have hg:GD Go.Rf.cdG insL i=aa (iX x.sk (sT Go.Rf.cdG x.sig.f),HL Go.Rf.cdG x.sig.f):=by simp only[GD,hx]
 have hb:(aOE tpI.orc x.sig&&an x.sig.bx.length 100&&GS x.sig.bx.length x.sig.bx)=ae:=bJ.1 a5Q _ (xI hx);have ho:aOv U0 tpI.orc x.sig d=ad:=by
  rw[Bool.or_eq_false_iff]at hf;show aOv U0 orcI x.sig d=ad;unfold aOv;rw[hf.1,hf.2];rfl
 show vY U0 tpI (GD Go.Rf.cdG insL) L (n+1) i d=_;simp only[vY,hs,hg,hb,aI,ho];exact(vV _ (λS M=>bNm _ _ _ _) d).symm
def NU(n:Nt):G.O->Int->Rt:=λx0 x1=>n [yR 2 x0,yI x1]
def NT(n:Nt):Bool->Int->G.O->Rt:=λx0 x1 x2=>n [yB x0,yI x1,yR 2 x2]
def lO(n:Nt):G.Y->Rt:=λx0=>n [yR 1 x0]
def cK(n:Nt):Bool->Rt:=λx0=>n [yB x0]
def Cn(n:Nt):List G.E->G.Y->Rt:=λx0 x1=>n [yS 15 x0,yR 1 x1]
def iU(n:Nt):G.T->Rt:=λx0=>n [yR 3 x0]
def NS(n:Nt):Bool->G.T->Rt:=λx0 x1=>n [yB x0,yR 3 x1]
def tI(n:Nt):G.T->G.T->Rt:=λx0 x1=>n [yR 3 x0,yR 3 x1]
def jN(n:Nt):List UInt8->Rt:=λx0=>n [yT x0]
def qO(n:Nt):Bool->Int->List UInt8->Rt:=λx0 x1 x2=>n [yB x0,yI x1,yT x2]
def NQ(n:Nt):Int->List UInt8->Rt:=λx0 x1=>n [yI x0,yT x1]
def eB(n:Nt):List UInt8->Int->Rt:=λx0 x1=>n [yT x0,yI x1]
def lN(n:Nt):List Int->List Int->Rt:=λx0 x1=>n [⟨.sl i6,x0⟩,⟨.sl i6,x1⟩]
def Ck(n:Nt):List Int->Int->Int->List Int->List Int->Rt:=λx0 x1 x2 x3 x4=>n [⟨.sl i6,x0⟩,yI x1,yI x2,⟨.sl i6,x3⟩,⟨.sl i6,x4⟩]
def eV(n:Nt):G.O->Rt:=λx0=>n [yR 2 x0]
def qM(n:Nt):List UInt8->List UInt8->Rt:=λx0 x1=>n [yT x0,yT x1]
def NK(n:Nt):Bool->Int->Rt:=λx0 x1=>n [yB x0,yI x1]
def gQ(n:Nt):G.O->G.O->Rt:=λx0 x1=>n [yR 2 x0,yR 2 x1]
def wN(n:Nt):Bool->G.O->G.O->Rt:=λx0 x1 x2=>n [yB x0,yR 2 x1,yR 2 x2]
def NI(n:Nt):Int->Rt:=λx0=>n [yI x0]
def NH(n:Nt):Bool->List UInt8->Rt:=λx0 x1=>n [yB x0,yT x1]
def wK(n:Nt):Int->Int->Int->List Int->List Int->List Int->Rt:=λx0 x1 x2 x3 x4 x5=>n [yI x0,yI x1,yI x2,⟨.sl i6,x3⟩,⟨.sl i6,x4⟩,⟨.sl i6,x5⟩]
def oF(n:Nt):Rt:=n []
def Cr(n:Nt):List G.T->Rt:=λx0=>n [yS 3 x0]
def Cq(n:Nt):List G.T->G.T->Rt:=λx0 x1=>n [yS 3 x0,yR 3 x1]
def wP(n:Nt):Int->List G.T->Int->G.T->Rt:=λx0 x1 x2 x3=>n [yI x0,yS 3 x1,yI x2,yR 3 x3]
def aBj(n:Nt):List G.A->List UInt8->List UInt8->Rt:=λx0 x1 x2=>n [yS 5 x0,yT x1,yT x2]
def aBh(n:Nt):G.T->G.T->G.T->Rt:=λx0 x1 x2=>n [yR 3 x0,yR 3 x1,yR 3 x2]
def CV(n:Nt):G.T->Int->Rt:=λx0 x1=>n [yR 3 x0,yI x1]
def CU(n:Nt):List G.T->List G.T->Rt:=λx0 x1=>n [yS 3 x0,yS 3 x1]
def aBb(n:Nt):Int->G.P->Rt:=λx0 x1=>n [yI x0,yR 21 x1]
def NO(n:Nt):Int->Rt:=λx0=>n [⟨(.int .u8),x0⟩]
def Cj(n:Nt):Bool->List UInt8->Int->Rt:=λx0 x1 x2=>n [yB x0,yT x1,yI x2]
def lM(n:Nt):Int->List UInt8->Int->Rt:=λx0 x1 x2=>n [yI x0,yT x1,yI x2]
def NN(n:Nt):Bool->Int->List UInt8->Int->Rt:=λx0 x1 x2 x3=>n [yB x0,yI x1,yT x2,yI x3]
def qN(n:Nt):List G.T->Int->Int->Int->Rt:=λx0 x1 x2 x3=>n [yS 3 x0,yI x1,yI x2,yI x3]
def NL(n:Nt):Bool->Int->List G.T->Int->Int->Rt:=λx0 x1 x2 x3 x4=>n [yB x0,yI x1,yS 3 x2,yI x3,yI x4]
def aBn(n:Nt):G.T->List UInt8->Int->Rt:=λx0 x1 x2=>n [yR 3 x0,yT x1,yI x2]
def uC(n:Nt):Int->List G.T->List G.T->Int->Rt:=λx0 x1 x2 x3=>n [yI x0,yS 3 x1,yS 3 x2,yI x3]
def aBs(n:Nt):Int->G.Z->Rt:=λx0 x1=>n [yI x0,yR 0 x1]
def aJU(n:Nt):G.Z->Rt:=λx0=>n [yR 0 x0]
def IX(n:Nt):List G.T->Int->G.T->Rt:=λx0 x1 x2=>n [yS 3 x0,yI x1,yR 3 x2]
def aBr(n:Nt):Int->Int->List G.T->List G.T->Rt:=λx0 x1 x2 x3=>n [yI x0,yI x1,yS 3 x2,yS 3 x3]
def aBq(n:Nt):Bool->Int->Int->G.Z->G.O->Rt:=λx0 x1 x2 x3 x4=>n [yB x0,yI x1,yI x2,yR 0 x3,yR 2 x4]
def aBo(n:Nt):List G.E->Int->G.Z->Rt:=λx0 x1 x2=>n [yS 15 x0,yI x1,yR 0 x2]
def Co(n:Nt):Int->G.K->G.X->G.K->G.X->Rt:=λx0 x1 x2 x3 x4=>n [yI x0,yR 20 x1,yR 18 x2,yR 20 x3,yR 18 x4]
def fC(i:Nat):Option cC:=match rN insL i with
  |some x=>bif am x.sig.f orcI.n||am x.sig.f orcI.m then ad else aa x
  |none=>ad
def cz{i:Nat}{x:cC}(h:fC i=aa x)(L n:Nat)(d:mK):bP L (n+1) i d=xF x (bP L n) (cu (bP L n) L) d:=by
  unfold fC at h
  split at h
  · rename_i y hy
    cases hb:am y.sig.f orcI.n||am y.sig.f orcI.m with
    |true=>rw[hb]at h;cases h
    |false=>rw[hb]at h;cases h;exact cg hy hb L n d
  · cases h
def dE{W:Type}(r:Rt)(K:Bool×Unit->Option W):Option W:=fN (D:=U0.D) [.bool] r K
def dP{W:Type}(r:Rt)(K:G.O×Unit->Option W):Option W:=fN (D:=U0.D) [.rc 2] r K
def fZ{W:Type}(r:Rt)(K:Int×Unit->Option W):Option W:=fN (D:=U0.D) [.int .i64] r K
def jQ{W:Type}(r:Rt)(K:List UInt8×Unit->Option W):Option W:=fN (D:=U0.D) [.str] r K
def pL{W:Type}(r:Rt)(K:G.T×Unit->Option W):Option W:=fN (D:=U0.D) [.rc 3] r K
def sF{W:Type}(r:Rt)(K:G.X×Unit->Option W):Option W:=fN (D:=U0.D) [.rc 18] r K
def yQ{W:Type}(r:Rt)(K:Bool×List Int×Unit->Option W):Option W:=fN (D:=U0.D) [.bool,.sl (.int .i64)] r K
def vJ{W:Type}(r:Rt)(K:Int×G.Z×Unit->Option W):Option W:=fN (D:=U0.D) [.int .i64,.rc 0] r K
def uD{W:Type}(r:Rt)(K:G.T×G.Z×Unit->Option W):Option W:=fN (D:=U0.D) [.rc 3,.rc 0] r K
def vI{W:Type}(r:Rt)(K:G.Y×Unit->Option W):Option W:=fN (D:=U0.D) [.rc 1] r K
def rE{W:Type}(r:Rt)(K:List Int×Unit->Option W):Option W:=fN (D:=U0.D) [.sl (.int .i64)] r K
def vK{W:Type}(r:Rt)(K:Int×Bool×Unit->Option W):Option W:=fN (D:=U0.D) [.int .i64,.bool] r K
def Ez{W:Type}(r:Rt)(K:G.O×Int×G.W×Unit->Option W):Option W:=fN (D:=U0.D) [.rc 2,.int .i64,.rc 19] r K
def Ey{W:Type}(r:Rt)(K:List G.T×Unit->Option W):Option W:=fN (D:=U0.D) [.sl (.rc 3)] r K
def HX{W:Type}(r:Rt)(K:Bool×G.T×Unit->Option W):Option W:=fN (D:=U0.D) [.bool,.rc 3] r K
def QV{W:Type}(r:Rt)(K:G.O×G.X×G.P×Unit->Option W):Option W:=fN (D:=U0.D) [.rc 2,.rc 18,.rc 21] r K
def tL{W:Type}(r:Rt)(K:G.O×G.Z×Unit->Option W):Option W:=fN (D:=U0.D) [.rc 2,.rc 0] r K
end Go.TV
namespace Go.TV
open Go.AI Go.PI Go.Proofs
def mP{P:G.O->Prop}(h: ∀k n d s t l,(∀o∈l,P o)->P ⟨k,n,d,s,t,l⟩): ∀o,P o:=λo=>
 G.O.rec (motive_1:=P) (motive_2:=λl=> ∀o∈l,P o) (λk n d s t l ih=>h k n d s t l ih) (λo ho=>by cases ho)
  (λo l h1 h2 x hx=>by
   cases hx with
   |head=>exact h1
   |tail _ hx=>exact h2 x hx) o
noncomputable instance:DecidableEq G.O:=λa b=>Classical.propDecidable _
def bCZ:List UInt8:=[108,105,115,112]
def a2w:List UInt8:=[117,115,101,114]
def lU(s:G.Y):Bool:=(aj (s.package=bCZ)||aj (s.package=a2w))&&an 1 s.name.length&&an s.name.length 20
def aNm(s:G.Y):Bool:=aj (s.package=a2w)&&an 1 s.name.length&&an s.name.length 20
def aSZ(t:List UInt8):Bool:=an t.length 10
def numL:List (List UInt8×List UInt8):=[([48],[49]),([49],[49]),([50],[49]),([51],[49]),([45,49],[49]),([45,50],[49]),([45,51],[49]),([49],[50]),([45,53],[51])]
def aS2(n d:List UInt8):Bool:=numL.any λp=>decide (n=p.1)&&aj (d=p.2)
def wS(s:G.Y):Nat:=bif lU s then 0 else 1000000000
def aGg{w:List UInt8}(h1:1<=w.length)(h2:w.length<=20):lU ⟨a2w,w⟩=ae:=by simp[lU,Nat.ble_eq,h1,h2]
def a2J{w:List UInt8}(h1:1<=w.length)(h2:w.length<=20):lU ⟨bCZ,w⟩=ae:=by simp[lU,Nat.ble_eq,h1,h2]
def bC7{w:List UInt8}(h1:1<=w.length)(h2:w.length<=20):aNm ⟨a2w,w⟩=ae:=by simp[aNm,Nat.ble_eq,h1,h2]
def a2I{s:G.Y}(h:aNm s=ae):lU s=ae:=by
 simp only[aNm,aC,aD]at h;simp[lU,h.1.1,h.1.2,h.2]
def aNn(k:Int)(n d:List UInt8)(s:G.Y)(t:List UInt8)(l:List G.O):Bool:=
 decide (k=0)&&n.isEmpty&&d.isEmpty&&aj (s=⟨[],[]⟩)&&t.isEmpty&&l.isEmpty||aj (k=1)&&aS2 n d&&aj (s=⟨[],[]⟩)&&t.isEmpty&&l.isEmpty||aj (k=2)&&lU s&&n.isEmpty&&d.isEmpty&&t.isEmpty&&l.isEmpty||
 decide (k=3)&&aSZ t&&n.isEmpty&&d.isEmpty&&aj (s=⟨[],[]⟩)&&l.isEmpty||aj (k=4)&&n.isEmpty&&d.isEmpty&&aj (s=⟨[],[]⟩)&&t.isEmpty&&aj (l.length=2)
def RY(k:Int)(n d:List UInt8)(s:G.Y)(t:List UInt8)(l:List G.O):Nat:=bif aNn k n d s t l then 0 else 1000000000
def aIx(s:G.Y):RY 2 [] [] s [] []=wS s:=by
 unfold RY aNn wS;cases lU s<;>rfl
def a7e(w:List UInt8)(h:aSZ w=ae):RY 3 [] [] ⟨[],[]⟩ w []=0:=by
 unfold RY aNn;rw[h];rfl
def wB(a b:G.O):RY 4 [] [] ⟨[],[]⟩ [] [a,b]=0:=rfl
def sW(o:G.O):Nat:=bif aj (o.kind=0)then 1000000000 else 0
def qI(n d:List UInt8)(s:G.Y)(t:List UInt8)(l:List G.O):sW ⟨2,n,d,s,t,l⟩=0:=rfl
def a7f(n d:List UInt8)(s:G.Y)(t:List UInt8)(l:List G.O):sW ⟨3,n,d,s,t,l⟩=0:=rfl
def wC(n d:List UInt8)(s:G.Y)(t:List UInt8)(l:List G.O):sW ⟨4,n,d,s,t,l⟩=0:=rfl
mutual
def kE:G.O->Nat
 |⟨k,n,d,s,t,l⟩=>2+gV l+RY k n d s t l
def gV:List G.O->Nat
 |[]=>0
 |o::l=>kE o+sW o+gV l+1
end
def Tv{o:G.O}(h:kE o<1000000000):aNn o.kind o.num o.den o.sym o.text o.pair=ae:=by
 cases o with|mk k n d s t l=>
 simp only[kE,RY]at h;cases e:aNn k n d s t l with
 |true=>exact e
 |false=>rw[e,aJ]at h;omega
def eC{k:Nat}(h:k<4000000000000000000):IntKind.i64.wrap ((k:Int)+1)=((k+1:Nat):Int):=by
 unfold IntKind.wrap;simp[IntKind.bits,IntKind.signed];omega
def bV{N:Type}(l:List N)(k:Nat):cU l (k:Int)=l[k]?:=by
 unfold cU;have:aj (0<=(k:Int))=ae:=by simp
 rw[this];rfl
def eH{W:Type}{b:Bool}{K:Bool×Unit->Option W}:dE (aa [yB b]) K=K (b,()):=rfl
def cH{N W:Type}{x:N}{K:N->Option W}:ob (aa x) K=K x:=rfl
def bN{W:Type}{A B:Option W}:bR ae A B=A:=rfl
def bL{W:Type}{A B:Option W}:bR ah A B=B:=rfl
def cL{N:Type}{l:List N}{k:Nat}{x:N}{r:List N}(h:l.drop k=x::r):l[k]?=aa x/\k<l.length/\l.drop (k+1)=r:=by
 refine⟨?_,?_,?_⟩
 .rw[<-List.head?_drop,h];rfl
 .have:=congrArg ak h;simp at this;omega
 .rw[<-List.tail_drop,h];rfl
def cI{N:Type}{l:List N}{k:Nat}(h:l.drop k=[]): ¬k<l.length:=by
 have:=congrArg ak h;simp at this;omega
def oo(a b:G.O):mK:=[yR 2 a,yR 2 b]
def bb(b:Bool):mK:=[yB b]
def aNi(a:G.O):Prop:=kE a<1000000000
def KM: ∀(l:List G.O),l.length<=gV l
 |[]=>aS _
 |o::l=>by have:=KM l;simp only[aM,gV];omega
def kC: ∀{l:List G.O} {x:G.O},x∈l->kE x<=gV l
 |o::l,x,h=>by
  simp only[gV];cases h with
  |head=>omega
  |tail _ h=>have:=kC h;omega
end Go.TV
namespace Go.TV
open Go.AI Go.PI Go.Proofs
def kX{P:G.T->Prop}(h: ∀k n v l,(∀o∈l,P o)->P ⟨k,n,v,l⟩): ∀o,P o:=λo=>
 G.T.rec (motive_1:=P) (motive_2:=λl=> ∀o∈l,P o) (λk n v l ih=>h k n v l ih) (λo ho=>by cases ho)
  (λo l h1 h2 x hx=>by
   cases hx with
   |head=>exact h1
   |tail _ hx=>exact h2 x hx) o
noncomputable instance:DecidableEq G.T:=λa b=>Classical.propDecidable _
def GQ(k:Int)(n:G.Y)(v:G.O)(l:List G.T):Bool:=
 decide (k=1)&&aNm n&&aj (v.kind=0)&&l.isEmpty||aj (k=2)&&aj (n=⟨[],[]⟩)&&l.isEmpty&& !decide (v.kind=0)||aj (k=3)&&lU n&&an l.length 8&&aj (v.kind=0)
def Ak(k:Int)(n:G.Y)(v:G.O)(l:List G.T):Nat:=bif GQ k n v l then 0 else 1000000000
mutual
def fV:G.T->Nat
 |⟨k,n,v,l⟩=>4+kE v+cX l+Ak k n v l
def cX:List G.T->Nat
 |[]=>0
 |o::l=>fV o+cX l+1
end
def aAq{t:G.T}(h:fV t<1000000000):GQ t.kind t.name t.value t.args=ae:=by
 cases t with|mk k n v l=>
 simp only[fV,Ak]at h;cases e:GQ k n v l with
 |true=>exact e
 |false=>rw[e,aJ]at h;omega
def fW: ∀(l:List G.T),l.length<=cX l
 |[]=>aS _
 |o::l=>by have:=fW l;simp only[aM,cX];omega
def cV: ∀{l:List G.T} {x:G.T},x∈l->fV x<=cX l
 |o::l,x,h=>by
  simp only[cX];cases h with
  |head=>omega
  |tail _ h=>have:=cV h;omega
def aNk(a b:G.T):mK:=[yR 3 a,yR 3 b]
def bQB(a b:List G.T):mK:=[yS 3 a,yS 3 b]
def SH(a:G.T):Prop:=fV a<1000000000
end Go.TV
namespace Go.TV
open Go.AI Go.PI Go.Proofs
def aAt{W:Type}{b:List G.T}{K:List G.T×Unit->Option W}:Ey (aa [yS 3 b]) K=K (b,()):=rfl
def eZ{W:Type}{A:Option W}:jY ae A=A:=rfl
def aDJ{k:Nat}(h:k<4000000000000000000):IntKind.i64.wrap (k:Int)=(k:Int):=by
 unfold IntKind.wrap;simp[IntKind.bits,IntKind.signed];omega
def lt2(a:List G.T)(t:G.T):mK:=[yS 3 a,yR 3 t]
end Go.TV
namespace Go.TV
open Go.AI Go.PI Go.Proofs
set_option maxRecDepth 20000
noncomputable section
variable(c:bT)(e:Cu)(L:Nat)
def a1K(c:bT)(e:Cu):Kt:=xK CN
def aFF:Kt:=xT CN c e [1,1] (a1K c e)
def X8(c:bT)(d:Bool->Int->G.O->Rt)(a:G.O)(b:Int):Rt:=
 bR (!decide ((ak a.pair:Int)=2)) (d ae b a) (d (aj (b<=1)) b a)
def X7(f:Bool)(a:Int)(d:G.O):Rt:=
 bR f (aa [yI 1]) (ob (cU d.pair 0) λg=>
 fZ (c 130 [yR 2 g,yI (IntKind.i64.wrap (a-1))]) λb=>
 bR (aj (a<=(IntKind.i64.wrap ((1:Int)+b.1)))) (aa [yI a]) (ob (cU d.pair 1) λh=>
 fZ (c 130 [yR 2 h,yI (IntKind.i64.wrap (a-(IntKind.i64.wrap ((1:Int)+b.1))))]) λi=>
 aa [yI (IntKind.i64.wrap ((IntKind.i64.wrap ((1:Int)+b.1))+i.1))]))
def VU:=NT (xD CN e (pw 4 5) Ms (aFF c e))
def aZg:NU (xF CN c e)=X8 c (VU c e):=by kernel_rfl
def aZf:NT (xA CN c e (pw 4 5) Ms (aFF c e))=X7 c:=by kernel_rfl
def Xc(L:Nat):Bool->Int->G.O->Rt:=X7 c
def a4N:VU c (cu c L)=Xc c L:=by rw[VU,bW,aZf];rfl
def aRU:G.O->Int->Rt:=X8 c (Xc c L)
def bOl:NU (xF CN c (cu c L))=aRU c L:=by rw[aZg];simp only[a4N];rfl
def bG1(a:G.O)(b:Int)(L n:Nat):bP L (n+1) 130 [yR 2 a,yI b]=aRU (bP L n) L a b:=by rw[<-bOl];exact cz (x:=CN) (by kernel_rfl) L n _
def aFE(c:bT)(e:Cu):Kt:=xK EP
def aML(a:Bool->Rt)(b:G.Y):Rt:=
 dE (c 168 [yR 1 b]) λd=>
 bR d.1 (vI (c 33 [yT [110,105,108]]) λf=>
 bR (!decide (b=f.1)) (vI (c 33 [yT [116]]) λg=>
 a (!decide (b=g.1))) (a ah)) (a ah)
def aMK(c:bT)(a:Bool):Rt:=
 aa [yB a]
def VT:=cK (xD EP e [1,1,0] Mr (aFE c e))
def aZe:lO (xF EP c e)=aML c (VT c e):=by kernel_rfl
def aZd:cK (xA EP c e [1,1,0] Mr (aFE c e))=aMK c:=by kernel_rfl
def aKW(L:Nat):Bool->Rt:=aMK c
def a4M:VT c (cu c L)=aKW c L:=by rw[VT,bW,aZd];rfl
def a75:G.Y->Rt:=aML c (aKW c L)
def bOk:lO (xF EP c (cu c L))=a75 c L:=by rw[aZe];simp only[a4M];rfl
def bPe(a:G.Y)(L n:Nat):bP L (n+1) 131 [yR 1 a]=a75 (bP L n) L a:=by rw[<-bOk];exact cz (x:=EP) (by kernel_rfl) L n _
def a1J(c:bT)(e:Cu):Kt:=xK tU
def a1I:Kt:=xT tU c e [1,1] (a1J c e)
def Ky:Kt:=cO U0 0 (a1I c e)
def a1H(n1:Nt):Kt:=fT U0 yE n1 (Ky c e)
def a1G(n1:Nt):Kt:=xT tU c e (pw 7 101) (a1H c e n1)
def aFD(n1:Nt):Kt:=cO U0 1 (a1G c e n1)
def aMJ(c:bT)(a:List G.E->Int->G.Y->G.M->Rt)(b:List G.E)(d:G.Y):Rt:=
 a b 0 d (G.M.mk Bx ([]:List G.Y) ah GA)
def aMI(c:bT)(f:Bool->Int->List G.E->G.Y->G.M->Rt)(a:List G.E)(b:Int)(d:G.Y)(g:G.M):Rt:=
 bR (aj (b<(ak a:Int))) (ob (cU a b) λh=>
 bR (aj (h.kind=2)) (ob (cU a b) λi=>
 f (aj (i.mac.name=d)) b a d g) (f ah b a d g)) (aa [yR 6 (G.M.mk Bx ([]:List G.Y) ah GA),yB ah])
def FZ(n:Nt):List G.E->Int->G.Y->G.M->Rt:=λx0 x1 x2 x3=>n [yS 15 x0,yI x1,yR 1 x2,yR 6 x3]
def aJt:=FZ (xE tU e (pw 5 5) yE (Ky c e))
def aMH(c:bT)(d:List G.E->Int->G.Y->G.M->Rt)(f:Bool)(a:Int)(b:List G.E)(g:G.Y)(h:G.M):Rt:=
 bR f (ob (cU b a) λi=>
 aa [yR 6 i.mac,yB ae]) (d b (IntKind.i64.wrap (a+1)) g h)
def aKc(n:Nt):Bool->Int->List G.E->G.Y->G.M->Rt:=λx0 x1 x2 x3 x4=>n [yB x0,yI x1,yS 15 x2,yR 1 x3,yR 6 x4]
def VS(n1:Nt):=aKc (xD tU e (pw 10 293) Mq (aFD c e n1))
def aZc:Cn (xF tU c e)=aMJ c (aJt c e):=by kernel_rfl
def aZb(n1:Nt):FZ (xA tU c e (pw 5 5) yE (fT U0 yE n1 (Ky c e)))=aMI c (VS c e n1):=by kernel_rfl
def aZa(n1:Nt):aKc (xA tU c e (pw 10 293) Mq (aFD c e n1))=aMH c (FZ n1):=by kernel_rfl
def aKV(L:Nat)(n1:List G.E->Int->G.Y->G.M->Rt):Bool->Int->List G.E->G.Y->G.M->Rt:=aMH c n1
def a4L(n1:Nt):VS c (cu c L) n1=aKV c L (FZ n1):=by rw[VS,bW,aZa];rfl
def NB(c:bT)(L:Nat):Nat->List G.E->Int->G.Y->G.M->Rt
 |0=>λ_ _ _ _=>ad
 |n+1=>aMI c (aKV c L (NB c L n))
def aWQ(n:Nat):FZ (xL tU c L (pw 5 5) yE (Ky c (cu c L)) n)=NB c L n:=by
 induction n with
 |zero=>rfl
 |succ n ih=>rw[eM,aZb];simp only[a4L,ih];rfl
def aV3:aJt c (cu c L)=NB c L L:=aWQ c L L
def a74:List G.E->G.Y->Rt:=aMJ c (NB c L L)
def bOj:Cn (xF tU c (cu c L))=a74 c L:=by rw[aZc];simp only[aV3];rfl
def bPd(a:List G.E)(b:G.Y)(L n:Nat):bP L (n+1) 136 [yS 15 a,yR 1 b]=a74 (bP L n) L a b:=by rw[<-bOj];exact cz (x:=tU) (by kernel_rfl) L n _
def a8A(a:G.T):Rt:=
 fZ (c 172 [yR 3 a,yI 3001]) λb=>
 aa [yI b.1]
def a73(L:Nat):G.T->Rt:=a8A c
def bOi:iU (xF aHk c (cu c L))=a73 c L:=by kernel_rfl
def bPc(a:G.T)(L n:Nat):bP L (n+1) 140 [yR 3 a]=a73 (bP L n) L a:=by rw[<-bOi];exact cz (x:=aHk) (by kernel_rfl) L n _
def a8z(a:G.T):Rt:=
 fZ (c 173 [yR 3 a,yI 201]) λb=>
 aa [yI b.1]
def a71(L:Nat):G.T->Rt:=a8z c
def bOh:iU (xF aHj c (cu c L))=a71 c L:=by kernel_rfl
def bPb(a:G.T)(L n:Nat):bP L (n+1) 141 [yR 3 a]=a71 (bP L n) L a:=by rw[<-bOh];exact cz (x:=aHj) (by kernel_rfl) L n _
def a1F(c:bT)(e:Cu):Kt:=xK nE
def a1E:Kt:=xT nE c e [1,1,1] (a1F c e)
def BI:Kt:=cO U0 0 (a1E c e)
def aFC:Kt:=xT nE c e (pw 12 3051) (BI c e)
def a1D:Kt:=xT nE c e (pw 13 7147) (BI c e)
def Ta:Kt:=cO U0 1 (a1D c e)
def aMG(b:Bool->Rt)(d:Bool->Rt)(f:Bool->G.T->Rt)(a:G.T):Rt:=
 dE (c 71 [yR 2 a.value,yR 2 qR]) λg=>
 bR (aj (a.kind=1)) (bR g.1 (dE (c 131 [yR 1 a.name]) λh=>
 bR h.1 (b (aj ((ak a.args:Int)=0))) (b ah)) (b ah)) (bR (aj (a.kind=2)) (bR (aj (a.name=Bx)) (dE (c 156 [yR 2 a.value]) λi=>
 bR i.1 (d (aj ((ak a.args:Int)=0))) (d ah)) (d ah)) (bR (aj (a.kind=3)) (bR (!g.1) (f ae a) (dE (c 168 [yR 1 a.name]) λj=>
 bR (!j.1) (f ae a) (f (aj ((8:Int)<(ak a.args:Int))) a))) (aa [yB ah])))
def aMF(c:bT)(a:Bool):Rt:=
 aa [yB a]
def VQ:=cK (xD nE e (pw 9 171) Mo (BI c e))
def aME(c:bT)(a:Bool):Rt:=
 aa [yB a]
def VP:=cK (xD nE e (pw 11 747) Mn (BI c e))
def aMD(c:bT)(a:Int->G.T->Rt)(b:Bool)(d:G.T):Rt:=
 bR b (aa [yB ah]) (a 0 d)
def VO:=NS (xD nE e (pw 14 5099) Ml (aFC c e))
def aMC(d:Int->G.T->Rt)(a:Int)(b:G.T):Rt:=
 bR (aj (a<(ak b.args:Int))) (ob (cU b.args a) λf=>
 dE (c 142 [yR 3 f]) λg=>
 bR (!g.1) (aa [yB ah]) (d (IntKind.i64.wrap (a+1)) b)) (aa [yB ae])
def NR(n:Nt):Int->G.T->Rt:=λx0 x1=>n [yI x0,yR 3 x1]
def aJs:=NR (xE nE e (pw 16 11243) Bi (Ta c e))
def aY9:iU (xF nE c e)=aMG c (VQ c e) (VP c e) (VO c e):=by kernel_rfl
def aY8:cK (xA nE c e (pw 9 171) Mo (BI c e))=aMF c:=by kernel_rfl
def aY7:cK (xA nE c e (pw 11 747) Mn (BI c e))=aME c:=by kernel_rfl
def aY6:NS (xA nE c e (pw 14 5099) Ml (aFC c e))=aMD c (aJs c e):=by kernel_rfl
def aY5(n4:Nt):NR (xA nE c e (pw 16 11243) Bi (fT U0 Bi n4 (Ta c e)))=aMC c (NR n4):=by kernel_rfl
def aKU(L:Nat):Bool->Rt:=aMF c
def a4K:VQ c (cu c L)=aKU c L:=by rw[VQ,bW,aY8];rfl
def aKT(L:Nat):Bool->Rt:=aME c
def a4J:VP c (cu c L)=aKT c L:=by rw[VP,bW,aY7];rfl
def NA(c:bT)(L:Nat):Nat->Int->G.T->Rt
 |0=>λ_ _=>ad
 |n+1=>aMC c (NA c L n)
def aWP(n:Nat):NR (xL nE c L (pw 16 11243) Bi (Ta c (cu c L)) n)=NA c L n:=by
 induction n with
 |zero=>rfl
 |succ n ih=>rw[eM,aY5];simp only[ih];rfl
def aV2:aJs c (cu c L)=NA c L L:=aWP c L L
def aKS:Bool->G.T->Rt:=aMD c (NA c L L)
def a4I:VO c (cu c L)=aKS c L:=by rw[VO,bW,aY6];simp only[aV2];rfl
def a7Z:G.T->Rt:=aMG c (aKU c L) (aKT c L) (aKS c L)
def bOg:iU (xF nE c (cu c L))=a7Z c L:=by rw[aY9];simp only[a4K,a4J,a4I];rfl
def bPa(a:G.T)(L n:Nat):bP L (n+1) 142 [yR 3 a]=a7Z (bP L n) L a:=by rw[<-bOg];exact cz (x:=nE) (by kernel_rfl) L n _
def a1C(c:bT)(e:Cu):Kt:=xK tT
def a1B:Kt:=xT tT c e [1,1] (a1C c e)
def Kx:Kt:=cO U0 0 (a1B c e)
def a1A(n1:Nt):Kt:=fT U0 yD n1 (Kx c e)
def aFB(n1:Nt):Kt:=xT tT c e (pw 5 17) (a1A c e n1)
def aMB(c:bT)(a:Int->G.O->Rt)(b:G.O)(d:Int):Rt:=
 a d b
def Pu(c:bT)(d:Bool->Int->G.O->Rt)(a:Int)(b:G.O):Rt:=
 bR (aj ((0:Int)<a)) (d (aj ((ak b.pair:Int)=2)) a b) (d ah a b)
def FY(n:Nt):Int->G.O->Rt:=λx0 x1=>n [yI x0,yR 2 x1]
def aJr:=FY (xE tT e (pw 4 1) yD (Kx c e))
def Gt(d:Int->G.O->Rt)(f:Bool)(a:Int)(b:G.O):Rt:=
 bR f (ob (cU b.pair 0) λg=>
 fZ (c 143 [yR 2 g,yI (IntKind.i64.wrap (a-1))]) λh=>
 ob (cU b.pair 1) λi=>
 d h.1 i) (aa [yI (IntKind.i64.wrap (a-1))])
def VN(n1:Nt):=NT (xD tT e (pw 7 33) Mk (aFB c e n1))
def aY4:NU (xF tT c e)=aMB c (aJr c e):=by kernel_rfl
def aY3(n1:Nt):FY (xA tT c e (pw 4 1) yD (fT U0 yD n1 (Kx c e)))=Pu c (VN c e n1):=by kernel_rfl
def aY2(n1:Nt):NT (xA tT c e (pw 7 33) Mk (aFB c e n1))=Gt c (FY n1):=by kernel_rfl
def Ax(L:Nat)(n1:Int->G.O->Rt):Bool->Int->G.O->Rt:=Gt c n1
def a4H(n1:Nt):VN c (cu c L) n1=Ax c L (FY n1):=by rw[VN,bW,aY2];rfl
def tF(c:bT)(L:Nat):Nat->Int->G.O->Rt
 |0=>λ_ _=>ad
 |n+1=>Pu c (Ax c L (tF c L n))
def aWO(n:Nat):FY (xL tT c L (pw 4 1) yD (Kx c (cu c L)) n)=tF c L n:=by
 induction n with
 |zero=>rfl
 |succ n ih=>rw[eM,aY3];simp only[a4H,ih];rfl
def aV1:aJr c (cu c L)=tF c L L:=aWO c L L
def bH0:G.O->Int->Rt:=aMB c (tF c L L)
def bOf:NU (xF tT c (cu c L))=bH0 c L:=by rw[aY4];simp only[aV1];rfl
def bG0(a:G.O)(b:Int)(L n:Nat):bP L (n+1) 143 [yR 2 a,yI b]=bH0 (bP L n) L a b:=by rw[<-bOf];exact cz (x:=tT) (by kernel_rfl) L n _
def aFA(c:bT)(e:Cu):Kt:=xK EO
def X6(c:bT)(a:Bool->Rt)(b:G.O)(g:Bool)(f:Bool)(d:Bool):Rt:=
 bR g (bR f (bR d (a ae) (a (aj (b.text=[])))) (bR (aj (b.sym=Bx)) (bR d (a ae) (a (aj (b.text=[])))) (a ah))) (bR (aj (b.num=[])) (bR (aj (b.den=[])) (bR f (bR d (a ae) (a (aj (b.text=[])))) (bR (aj (b.sym=Bx)) (bR d (a ae) (a (aj (b.text=[])))) (a ah))) (a ah)) (a ah))
def aKb(n:Nt):G.O->Bool->Bool->Bool->Rt:=λx0 x1 x2 x3=>n [yR 2 x0,yB x1,yB x2,yB x3]
def aMA(c:bT)(a:Bool):Rt:=
 aa [yB a]
def VM:=cK (xD EO e [1,1,0] Mj (aFA c e))
def aY1:aKb (xF EO c e)=X6 c (VM c e):=by kernel_rfl
def aY0:cK (xA EO c e [1,1,0] Mj (aFA c e))=aMA c:=by kernel_rfl
def qP(L:Nat):Bool->Rt:=aMA c
def a4G:VM c (cu c L)=qP c L:=by rw[VM,bW,aY0];rfl
def a7Y:G.O->Bool->Bool->Bool->Rt:=X6 c (qP c L)
def bOe:aKb (xF EO c (cu c L))=a7Y c L:=by rw[aY1];simp only[a4G];rfl
def bO9(a:G.O)(b:Bool)(d:Bool)(f:Bool)(L n:Nat):bP L (n+1) 144 [yR 2 a,yB b,yB d,yB f]=a7Y (bP L n) L a b d f:=by rw[<-bOe];exact cz (x:=EO) (by kernel_rfl) L n _
def aFz(c:bT)(e:Cu):Kt:=xK nD
def aFy:Kt:=xT nD c e [1,1] (aFz c e)
def a1z:Kt:=xT nD c e [1,1,1] (aFz c e)
def Kw:Kt:=cO U0 0 (a1z c e)
def a1y(n2:Nt):Kt:=fT U0 yC n2 (Kw c e)
def a1x(n2:Nt):Kt:=xT nD c e (pw 9 459) (a1y c e n2)
def Kv(n2:Nt):Kt:=cO U0 1 (a1x c e n2)
def Pt(c:bT)(b:Bool->G.Y->Rt)(a:G.Y):Rt:=
 bR (aj ((ak a.package:Int)<1)) (b ae a) (bR (aj ((40:Int)<(ak a.package:Int))) (b ae a) (bR (aj ((ak a.name:Int)<1)) (b ae a) (b (aj ((40:Int)<(ak a.name:Int))) a)))
def aMz(c:bT)(b:Int->Int->G.Y->Rt)(d:Bool)(a:G.Y):Rt:=
 bR d (aa [yB ah]) (b (ak a.package:Int) 0 a)
def aKa(n:Nt):Bool->G.Y->Rt:=λx0 x1=>n [yB x0,yR 1 x1]
def VL:=aKa (xD nD e (pw 4 5) Mi (aFy c e))
def aMy(c:bT)(g:Bool->Int->Int->Int->Int->G.Y->Rt)(d:Int)(a:Int)(f:G.Y):Rt:=
 bR (aj (a<d)) (ob (cU f.package a) λb=>
 bR (aj ((97:Int)<=(b.toNat:Int))) (g (aj ((b.toNat:Int)<=122)) a (b.toNat:Int) a d f) (g ah a (b.toNat:Int) a d f)) (aa [yB ae])
def Cm(n:Nt):Int->Int->G.Y->Rt:=λx0 x1 x2=>n [yI x0,yI x1,yR 1 x2]
def aJq:=Cm (xE nD e (pw 6 11) yC (Kw c e))
def aMx(c:bT)(a:Bool->Int->Int->G.Y->Rt)(h:Bool)(i:Int)(g:Int)(b:Int)(d:Int)(f:G.Y):Rt:=
 bR (!h) (bR (aj (i=0)) (a ae b d f) (bR (!decide (g=45)) (bR (aj (g<48)) (a ae b d f) (a (aj ((57:Int)<g)) b d f)) (a ah b d f))) (a ah b d f)
def aJ9(n:Nt):Bool->Int->Int->Int->Int->G.Y->Rt:=λx0 x1 x2 x3 x4 x5=>n [yB x0,yI x1,⟨(.int .u8),x2⟩,yI x3,yI x4,yR 1 x5]
def VK(n2:Nt):=aJ9 (xD nD e (pw 14 7371) Mh (Kv c e n2))
def aMw(c:bT)(a:Int->Int->G.Y->Rt)(b:Bool)(d:Int)(f:Int)(g:G.Y):Rt:=
 bR b (aa [yB ah]) (a f (IntKind.i64.wrap (d+1)) g)
def aJ8(n:Nt):Bool->Int->Int->G.Y->Rt:=λx0 x1 x2 x3=>n [yB x0,yI x1,yI x2,yR 1 x3]
def VJ(n2:Nt):=aJ8 (xD nD e (pw 16 23755) Mg (Kv c e n2))
def aYZ:lO (xF nD c e)=Pt c (VL c e):=by kernel_rfl
def aYY:aKa (xA nD c e (pw 4 5) Mi (aFy c e))=aMz c (aJq c e):=by kernel_rfl
def aYX(n2:Nt):Cm (xA nD c e (pw 6 11) yC (fT U0 yC n2 (Kw c e)))=aMy c (VK c e n2):=by kernel_rfl
def aYW(n2:Nt):aJ9 (xA nD c e (pw 14 7371) Mh (Kv c e n2))=aMx c (VJ c e n2):=by kernel_rfl
def aYV(n2:Nt):aJ8 (xA nD c e (pw 16 23755) Mg (Kv c e n2))=aMw c (Cm n2):=by kernel_rfl
def aKQ(L:Nat)(n2:Int->Int->G.Y->Rt):Bool->Int->Int->G.Y->Rt:=aMw c n2
def a4D(n2:Nt):VJ c (cu c L) n2=aKQ c L (Cm n2):=by rw[VJ,bW,aYV];rfl
def aKR(n2:Int->Int->G.Y->Rt):Bool->Int->Int->Int->Int->G.Y->Rt:=aMx c (aKQ c L n2)
def a4E(n2:Nt):VK c (cu c L) n2=aKR c L (Cm n2):=by rw[VK,bW,aYW];simp only[a4D];rfl
def M9(c:bT)(L:Nat):Nat->Int->Int->G.Y->Rt
 |0=>λ_ _ _=>ad
 |n+1=>aMy c (aKR c L (M9 c L n))
def aWN(n:Nat):Cm (xL nD c L (pw 6 11) yC (Kw c (cu c L)) n)=M9 c L n:=by
 induction n with
 |zero=>rfl
 |succ n ih=>rw[eM,aYX];simp only[a4E,ih];rfl
def aV0:aJq c (cu c L)=M9 c L L:=aWN c L L
def OT:Bool->G.Y->Rt:=aMz c (M9 c L L)
def a4F:VL c (cu c L)=OT c L:=by rw[VL,bW,aYY];simp only[aV0];rfl
def a7X:G.Y->Rt:=Pt c (OT c L)
def bOd:lO (xF nD c (cu c L))=a7X c L:=by rw[aYZ];simp only[a4F];rfl
def bO8(a:G.Y)(L n:Nat):bP L (n+1) 146 [yR 1 a]=a7X (bP L n) L a:=by rw[<-bOd];exact cz (x:=nD) (by kernel_rfl) L n _
def aMv(a:G.T):Rt:=
 dE (c 59 [yR 3 a]) λb=>
 aa [yB (!b.1)]
def a7W(L:Nat):G.T->Rt:=aMv c
def bOc:iU (xF aHi c (cu c L))=a7W c L:=by kernel_rfl
def bO7(a:G.T)(L n:Nat):bP L (n+1) 147 [yR 3 a]=a7W (bP L n) L a:=by rw[<-bOc];exact cz (x:=aHi) (by kernel_rfl) L n _
def aMu(b:G.T)(a:G.T):Rt:=
 dE (c 21 [yR 3 b,yR 3 a]) λd=>
 aa [yB d.1,yR 3 a]
def a7V(L:Nat):G.T->G.T->Rt:=aMu c
def bOb:tI (xF aHh c (cu c L))=a7V c L:=by kernel_rfl
def bO6(a:G.T)(b:G.T)(L n:Nat):bP L (n+1) 148 [yR 3 a,yR 3 b]=a7V (bP L n) L a b:=by rw[<-bOb];exact cz (x:=aHh) (by kernel_rfl) L n _
def Ec(c:bT)(e:Cu):Kt:=xK kQ
def aFx:Kt:=xT kQ c e (pw 4 15) (Ec c e)
def aFw:Kt:=xT kQ c e (pw 6 47) (Ec c e)
def a1w:Kt:=xT kQ c e (pw 7 111) (Ec c e)
def Ku:Kt:=cO U0 0 (a1w c e)
def a1v(n4:Nt):Kt:=fT U0 yA n4 (Ku c e)
def a1u(n4:Nt):Kt:=xT kQ c e (pw 12 3247) (a1v c e n4)
def aFv(n4:Nt):Kt:=cO U0 1 (a1u c e n4)
def X5(c:bT)(b:Bool->Int->List UInt8->Rt)(a:List UInt8):Rt:=
 bR (aj (a=[48])) (aa [yB ae]) (bR (aj ((0:Int)<(ak a:Int))) (ob (cU a 0) λd=>
 b (aj ((d.toNat:Int)=45)) 0 a) (b ah 0 a))
def Ps(c:bT)(a:Int->List UInt8->Rt)(d:Bool)(f:Int)(b:List UInt8):Rt:=
 bR d (a 1 b) (a f b)
def VI:=qO (xD kQ e (pw 6 23) Mf (aFx c e))
def X4(c:bT)(d:Bool->Int->List UInt8->Rt)(a:Int)(b:List UInt8):Rt:=
 bR (aj ((ak b:Int)<=a)) (d ae a b) (ob (cU b a) λf=>
 d (aj ((f.toNat:Int)=48)) a b)
def VH:=NQ (xD kQ e (pw 5 15) Me (Ec c e))
def Pr(c:bT)(a:List UInt8->Int->Rt)(b:Bool)(d:Int)(f:List UInt8):Rt:=
 bR b (aa [yB ah]) (a f d)
def VG:=qO (xD kQ e (pw 8 79) Md (aFw c e))
def Pq(c:bT)(d:Bool->Int->List UInt8->Rt)(a:List UInt8)(b:Int):Rt:=
 bR (aj (b<(ak a:Int))) (ob (cU a b) λf=>
 bR (aj ((f.toNat:Int)<48)) (d ae b a) (ob (cU a b) λg=>
 d (aj ((57:Int)<(g.toNat:Int))) b a)) (aa [yB ae])
def aJp:=eB (xE kQ e (pw 10 175) yA (Ku c e))
def Pp(c:bT)(a:List UInt8->Int->Rt)(b:Bool)(d:Int)(f:List UInt8):Rt:=
 bR b (aa [yB ah]) (a f (IntKind.i64.wrap (d+1)))
def VF(n4:Nt):=qO (xD kQ e (pw 15 9391) Mb (aFv c e n4))
def aYU:jN (xF kQ c e)=X5 c (VI c e):=by kernel_rfl
def aYT:qO (xA kQ c e (pw 6 23) Mf (aFx c e))=Ps c (VH c e):=by kernel_rfl
def aYS:NQ (xA kQ c e (pw 5 15) Me (Ec c e))=X4 c (VG c e):=by kernel_rfl
def aYR:qO (xA kQ c e (pw 8 79) Md (aFw c e))=Pr c (aJp c e):=by kernel_rfl
def aYQ(n4:Nt):eB (xA kQ c e (pw 10 175) yA (fT U0 yA n4 (Ku c e)))=Pq c (VF c e n4):=by kernel_rfl
def aYP(n4:Nt):qO (xA kQ c e (pw 15 9391) Mb (aFv c e n4))=Pp c (eB n4):=by kernel_rfl
def OO(L:Nat)(n4:List UInt8->Int->Rt):Bool->Int->List UInt8->Rt:=Pp c n4
def a4z(n4:Nt):VF c (cu c L) n4=OO c L (eB n4):=by rw[VF,bW,aYP];rfl
def Ap(c:bT)(L:Nat):Nat->List UInt8->Int->Rt
 |0=>λ_ _=>ad
 |n+1=>Pq c (OO c L (Ap c L n))
def aWM(n:Nat):eB (xL kQ c L (pw 10 175) yA (Ku c (cu c L)) n)=Ap c L n:=by
 induction n with
 |zero=>rfl
 |succ n ih=>rw[eM,aYQ];simp only[a4z,ih];rfl
def aVZ:aJp c (cu c L)=Ap c L L:=aWM c L L
def OP:Bool->Int->List UInt8->Rt:=Pr c (Ap c L L)
def a4A:VG c (cu c L)=OP c L:=by rw[VG,bW,aYR];simp only[aVZ];rfl
def OQ:Int->List UInt8->Rt:=X4 c (OP c L)
def a4B:VH c (cu c L)=OQ c L:=by rw[VH,bW,aYS];simp only[a4A];rfl
def OS:Bool->Int->List UInt8->Rt:=Ps c (OQ c L)
def a4C:VI c (cu c L)=OS c L:=by rw[VI,bW,aYT];simp only[a4B];rfl
def aRT:List UInt8->Rt:=X5 c (OS c L)
def bOa:jN (xF kQ c (cu c L))=aRT c L:=by rw[aYU];simp only[a4C];rfl
def bGZ(a:List UInt8)(L n:Nat):bP L (n+1) 150 [yT a]=aRT (bP L n) L a:=by rw[<-bOa];exact cz (x:=kQ) (by kernel_rfl) L n _
def a1t(c:bT)(e:Cu):Kt:=xK tS
def a1s:Kt:=xT tS c e [1,1,1] (a1t c e)
def Ks:Kt:=cO U0 0 (a1s c e)
def a1r(n1:Nt):Kt:=fT U0 xZ n1 (Ks c e)
def aFu(n1:Nt):Kt:=xT tS c e (pw 6 35) (a1r c e n1)
def X3(c:bT)(b:List Int->Int->Rt)(a:List Int):Rt:=
 b a (ak a:Int)
def aJ7(n:Nt):List Int->Rt:=λx0=>n [⟨.sl i6,x0⟩]
def Po(c:bT)(d:Bool->List Int->Int->Rt)(b:List Int)(a:Int):Rt:=
 bR (aj ((0:Int)<a)) (ob (cU b (IntKind.i64.wrap (a-1))) λf=>
 d (aj (f=0)) b a) (d ah b a)
def FX(n:Nt):List Int->Int->Rt:=λx0 x1=>n [⟨.sl i6,x0⟩,yI x1]
def aJo:=FX (xE tS e (pw 5 3) xZ (Ks c e))
def Gs(c:bT)(d:List Int->Int->Rt)(f:Bool)(a:List Int)(b:Int):Rt:=
 bR f (d a (IntKind.i64.wrap (b-1))) (ob (slc a 0 b) λg=>
 aa [⟨.sl i6,g⟩])
def aJ6(n:Nt):Bool->List Int->Int->Rt:=λx0 x1 x2=>n [yB x0,⟨.sl i6,x1⟩,yI x2]
def VE(n1:Nt):=aJ6 (xD tS e (pw 8 67) L9 (aFu c e n1))
def aYO:aJ7 (xF tS c e)=X3 c (aJo c e):=by kernel_rfl
def aYN(n1:Nt):FX (xA tS c e (pw 5 3) xZ (fT U0 xZ n1 (Ks c e)))=Po c (VE c e n1):=by kernel_rfl
def aYM(n1:Nt):aJ6 (xA tS c e (pw 8 67) L9 (aFu c e n1))=Gs c (FX n1):=by kernel_rfl
def Gf(L:Nat)(n1:List Int->Int->Rt):Bool->List Int->Int->Rt:=Gs c n1
def a4y(n1:Nt):VE c (cu c L) n1=Gf c L (FX n1):=by rw[VE,bW,aYM];rfl
def Ao(c:bT)(L:Nat):Nat->List Int->Int->Rt
 |0=>λ_ _=>ad
 |n+1=>Po c (Gf c L (Ao c L n))
def aWL(n:Nat):FX (xL tS c L (pw 5 3) xZ (Ks c (cu c L)) n)=Ao c L n:=by
 induction n with
 |zero=>rfl
 |succ n ih=>rw[eM,aYN];simp only[a4y,ih];rfl
def aVY:aJo c (cu c L)=Ao c L L:=aWL c L L
def aRS:List Int->Rt:=X3 c (Ao c L L)
def bN9:aJ7 (xF tS c (cu c L))=aRS c L:=by rw[aYO];simp only[aVY];rfl
def bGY(a:List Int)(L n:Nat):bP L (n+1) 151 [⟨.sl i6,a⟩]=aRS (bP L n) L a:=by rw[<-bN9];exact cz (x:=tS) (by kernel_rfl) L n _
def a1q(c:bT)(e:Cu):Kt:=xK AY
def a1p:Kt:=xT AY c e [1,1,1] (a1q c e)
def S9:Kt:=cO U0 0 (a1p c e)
def X2(c:bT)(d:List Int->List Int->Int->Rt)(a:List Int)(b:List Int):Rt:=
 bR (!decide ((ak a:Int)=(ak b:Int))) (bR (aj ((ak a:Int)<(ak b:Int))) (aa [yI (-1)]) (aa [yI 1])) (d a b (IntKind.i64.wrap ((ak a:Int)-1)))
def Pn(c:bT)(f:List Int->List Int->Int->Rt)(b:List Int)(d:List Int)(a:Int):Rt:=
 bR (aj ((0:Int)<=a)) (ob (cU b a) λg=>
 ob (cU d a) λh=>
 bR (aj (g<h)) (aa [yI (-1)]) (ob (cU b a) λi=>
 ob (cU d a) λj=>
 bR (aj (j<i)) (aa [yI 1]) (f b d (IntKind.i64.wrap (a-1))))) (aa [yI 0])
def NP(n:Nt):List Int->List Int->Int->Rt:=λx0 x1 x2=>n [⟨.sl i6,x0⟩,⟨.sl i6,x1⟩,yI x2]
def aJn:=NP (xE AY e (pw 6 11) Bh (S9 c e))
def aYL:lN (xF AY c e)=X2 c (aJn c e):=by kernel_rfl
def aYK(n1:Nt):NP (xA AY c e (pw 6 11) Bh (fT U0 Bh n1 (S9 c e)))=Pn c (NP n1):=by kernel_rfl
def An(c:bT)(L:Nat):Nat->List Int->List Int->Int->Rt
 |0=>λ_ _ _=>ad
 |n+1=>Pn c (An c L n)
def aWK(n:Nat):NP (xL AY c L (pw 6 11) Bh (S9 c (cu c L)) n)=An c L n:=by
 induction n with
 |zero=>rfl
 |succ n ih=>rw[eM,aYK];simp only[ih];rfl
def aVX:aJn c (cu c L)=An c L L:=aWK c L L
def aRR:List Int->List Int->Rt:=X2 c (An c L L)
def bN8:lN (xF AY c (cu c L))=aRR c L:=by rw[aYL];simp only[aVX];rfl
def bGX(a:List Int)(b:List Int)(L n:Nat):bP L (n+1) 152 [⟨.sl i6,a⟩,⟨.sl i6,b⟩]=aRR (bP L n) L a b:=by rw[<-bN8];exact cz (x:=AY) (by kernel_rfl) L n _
def a1o(c:bT)(e:Cu):Kt:=xK pU
def a1n:Kt:=xT pU c e (pw 4 15) (a1o c e)
def Kr:Kt:=cO U0 0 (a1n c e)
def a1m(n1:Nt):Kt:=fT U0 xY n1 (Kr c e)
def a1l(n1:Nt):Kt:=xT pU c e (pw 9 407) (a1m c e n1)
def Kq(n1:Nt):Kt:=cO U0 1 (a1l c e n1)
def X1(c:bT)(a:List Int->Int->List Int->Int->List Int->Rt)(b:List Int)(d:List Int):Rt:=
 a b 0 d 0 ([]:List Int)
def Pm(g:List Int->Int->Int->List Int->List Int->Rt)(b:List Int)(h:Int)(d:List Int)(a:Int)(f:List Int):Rt:=
 bR (aj (a<(ak b:Int))) (ob (cU b a) λi=>
 bR (aj (a<(ak d:Int))) (ob (cU d a) λj=>
 g f (IntKind.i64.wrap ((IntKind.i64.wrap (i-h))-j)) a b d) (g f (IntKind.i64.wrap (i-h)) a b d)) (rE (c 151 [⟨.sl i6,f⟩]) λl=>
 aa [⟨.sl i6,l.1⟩])
def Cl(n:Nt):List Int->Int->List Int->Int->List Int->Rt:=λx0 x1 x2 x3 x4=>n [⟨.sl i6,x0⟩,yI x1,⟨.sl i6,x2⟩,yI x3,⟨.sl i6,x4⟩]
def aJm:=Cl (xE pU e (pw 7 23) xY (Kr c e))
def X0(c:bT)(b:List Int->Int->Int->List Int->Int->List Int->Rt)(d:List Int)(a:Int)(f:Int)(g:List Int)(h:List Int):Rt:=
 bR (aj (a<0)) (b d (IntKind.i64.wrap (a+10)) f g 1 h) (b d a f g 0 h)
def VD(n1:Nt):=Ck (xD pU e (pw 13 3223) L8 (Kq c e n1))
def Pk(c:bT)(d:List Int->Int->List Int->Int->List Int->Rt)(a:List Int)(b:Int)(f:Int)(g:List Int)(h:Int)(i:List Int):Rt:=
 jY (an ((ak a+ak ([b]:List Int))*8) 1073741824)<|
 d g h i (IntKind.i64.wrap (f+1)) (a++([b]:List Int))
def aJ5(n:Nt):List Int->Int->Int->List Int->Int->List Int->Rt:=λx0 x1 x2 x3 x4 x5=>n [⟨.sl i6,x0⟩,yI x1,yI x2,⟨.sl i6,x3⟩,yI x4,⟨.sl i6,x5⟩]
def VC(n1:Nt):=aJ5 (xD pU e (pw 16 27799) L7 (Kq c e n1))
def aYJ:lN (xF pU c e)=X1 c (aJm c e):=by kernel_rfl
def aYI(n1:Nt):Cl (xA pU c e (pw 7 23) xY (fT U0 xY n1 (Kr c e)))=Pm c (VD c e n1):=by kernel_rfl
def aYH(n1:Nt):Ck (xA pU c e (pw 13 3223) L8 (Kq c e n1))=X0 c (VC c e n1):=by kernel_rfl
def aYG(n1:Nt):aJ5 (xA pU c e (pw 16 27799) L7 (Kq c e n1))=Pk c (Cl n1):=by kernel_rfl
def OM(L:Nat)(n1:List Int->Int->List Int->Int->List Int->Rt):List Int->Int->Int->List Int->Int->List Int->Rt:=Pk c n1
def a4w(n1:Nt):VC c (cu c L) n1=OM c L (Cl n1):=by rw[VC,bW,aYG];rfl
def ON(n1:List Int->Int->List Int->Int->List Int->Rt):List Int->Int->Int->List Int->List Int->Rt:=X0 c (OM c L n1)
def a4x(n1:Nt):VD c (cu c L) n1=ON c L (Cl n1):=by rw[VD,bW,aYH];simp only[a4w];rfl
def wJ(c:bT)(L:Nat):Nat->List Int->Int->List Int->Int->List Int->Rt
 |0=>λ_ _ _ _ _=>ad
 |n+1=>Pm c (ON c L (wJ c L n))
def aWJ(n:Nat):Cl (xL pU c L (pw 7 23) xY (Kr c (cu c L)) n)=wJ c L n:=by
 induction n with
 |zero=>rfl
 |succ n ih=>rw[eM,aYI];simp only[a4x,ih];rfl
def aVW:aJm c (cu c L)=wJ c L L:=aWJ c L L
def aRQ:List Int->List Int->Rt:=X1 c (wJ c L L)
def bN7:lN (xF pU c (cu c L))=aRQ c L:=by rw[aYJ];simp only[aVW];rfl
def bGW(a:List Int)(b:List Int)(L n:Nat):bP L (n+1) 153 [⟨.sl i6,a⟩,⟨.sl i6,b⟩]=aRQ (bP L n) L a b:=by rw[<-bN7];exact cz (x:=pU) (by kernel_rfl) L n _
end
end Go.TV
namespace Go.TV
open Go.AI Go.PI Go.Proofs
set_option maxRecDepth 20000
noncomputable section
variable(c:bT)(e:Cu)(L:Nat)
def aMb(a:G.O):Rt:=
 bR (aj (a.kind=1)) (aa [yR 2 a]) (dP (c 64 [yI 0]) λb=>
 aa [yR 2 b.1])
def aRJ(L:Nat):G.O->Rt:=aMb c
def bNS:eV (xF aHe c (cu c L))=aRJ c L:=by kernel_rfl
def bGP(a:G.O)(L n:Nat):bP L (n+1) 178 [yR 2 a]=aRJ (bP L n) L a:=by rw[<-bNS];exact cz (x:=aHe) (by kernel_rfl) L n _
def aMa(a:Bool):Rt:=
 bR a (dP (c 63 []) λb=>
 aa [yR 2 b.1]) (dP (c 62 []) λd=>
 aa [yR 2 d.1])
def aRI(L:Nat):Bool->Rt:=aMa c
def bNR:cK (xF aHd c (cu c L))=aRI c L:=by kernel_rfl
def bGO(a:Bool)(L n:Nat):bP L (n+1) 179 [yB a]=aRI (bP L n) L a:=by rw[<-bNR];exact cz (x:=aHd) (by kernel_rfl) L n _
def aFe(c:bT)(e:Cu):Kt:=xK EJ
def XH(c:bT)(a:Bool->Rt)(b:G.O):Rt:=
 bR (aj (b.kind=1)) (a (aj (b.den=[49]))) (a ah)
def aL7(c:bT)(a:Bool):Rt:=
 aa [yB a]
def Vm:=cK (xD EJ e [1,1,0] LQ (aFe c e))
def aX8:eV (xF EJ c e)=XH c (Vm c e):=by kernel_rfl
def aX7:cK (xA EJ c e [1,1,0] LQ (aFe c e))=aL7 c:=by kernel_rfl
def aKJ(L:Nat):Bool->Rt:=aL7 c
def a4g:Vm c (cu c L)=aKJ c L:=by rw[Vm,bW,aX7];rfl
def aRH:G.O->Rt:=XH c (aKJ c L)
def bNQ:eV (xF EJ c (cu c L))=aRH c L:=by rw[aX8];simp only[a4g];rfl
def bGN(a:G.O)(L n:Nat):bP L (n+1) 180 [yR 2 a]=aRH (bP L n) L a:=by rw[<-bNQ];exact cz (x:=EJ) (by kernel_rfl) L n _
def aL6(b:G.O):Rt:=
 dP (c 178 [yR 2 b]) λa=>
 jQ (c 205 [yT a.1.num]) λd=>
 dP (c 65 [yT d.1,yT a.1.den]) λf=>
 aa [yR 2 f.1]
def aRG(L:Nat):G.O->Rt:=aL6 c
def bNP:eV (xF aHc c (cu c L))=aRG c L:=by kernel_rfl
def bGM(a:G.O)(L n:Nat):bP L (n+1) 181 [yR 2 a]=aRG (bP L n) L a:=by rw[<-bNP];exact cz (x:=aHc) (by kernel_rfl) L n _
def aL5(b:G.O):Rt:=
 dP (c 178 [yR 2 b]) λa=>
 dP (c 65 [yT a.1.den,yT a.1.num]) λd=>
 aa [yR 2 d.1]
def aRF(L:Nat):G.O->Rt:=aL5 c
def bNO:eV (xF aHb c (cu c L))=aRF c L:=by kernel_rfl
def bGL(a:G.O)(L n:Nat):bP L (n+1) 182 [yR 2 a]=aRF (bP L n) L a:=by rw[<-bNO];exact cz (x:=aHb) (by kernel_rfl) L n _
def S7(c:bT)(e:Cu):Kt:=xK zH
def aFd:Kt:=xT zH c e (pw 6 63) (S7 c e)
def XG(f:Bool->List Int->Bool->List Int->Bool->List Int->Rt)(g:List UInt8)(h:List UInt8):Rt:=
 yQ (c 117 [yT g]) λb=>
 yQ (c 117 [yT h]) λa=>
 bR (aj ((ak a.2.1:Int)=0)) (jQ (c 120 [yB b.1,⟨.sl i6,b.2.1⟩]) λi=>
 aa [yT [48],yT i.1]) (fN [.sl i6,.sl i6] (c 119 [⟨.sl i6,b.2.1⟩,⟨.sl i6,a.2.1⟩]) λ(d:List Int×List Int×Unit)=>
 bR (!(b.1==a.1)) (f (aj ((0:Int)<(ak d.2.1:Int))) a.2.1 b.1 d.1 a.1 d.2.1) (f ah a.2.1 b.1 d.1 a.1 d.2.1))
def Gq(a:Bool->List Int->Bool->List Int->Rt)(h:Bool)(i:List Int)(b:Bool)(d:List Int)(f:Bool)(g:List Int):Rt:=
 bR h (rE (c 206 [⟨.sl i6,d⟩,⟨.sl i6,([(1:Int)]:List Int)⟩]) λj=>
 rE (c 153 [⟨.sl i6,i⟩,⟨.sl i6,g⟩]) λl=>
 a b j.1 f l.1) (a b d f g)
def aJW(n:Nt):Bool->List Int->Bool->List Int->Bool->List Int->Rt:=λx0 x1 x2 x3 x4 x5=>n [yB x0,⟨.sl i6,x1⟩,yB x2,⟨.sl i6,x3⟩,yB x4,⟨.sl i6,x5⟩]
def Vl:=aJW (xD zH e (pw 8 95) LP (aFd c e))
def Gp(b:Bool)(d:List Int)(a:Bool)(f:List Int):Rt:=
 jQ (c 120 [yB (!(b==a)),⟨.sl i6,d⟩]) λg=>
 jQ (c 120 [yB a,⟨.sl i6,f⟩]) λh=>
 aa [yT g.1,yT h.1]
def aJV(n:Nt):Bool->List Int->Bool->List Int->Rt:=λx0 x1 x2 x3=>n [yB x0,⟨.sl i6,x1⟩,yB x2,⟨.sl i6,x3⟩]
def Vk:=aJV (xD zH e (pw 7 63) LO (S7 c e))
def aX6:qM (xF zH c e)=XG c (Vl c e):=by kernel_rfl
def aX5:aJW (xA zH c e (pw 8 95) LP (aFd c e))=Gq c (Vk c e):=by kernel_rfl
def aX4:aJV (xA zH c e (pw 7 63) LO (S7 c e))=Gp c:=by kernel_rfl
def Gc(L:Nat):Bool->List Int->Bool->List Int->Rt:=Gp c
def a4e:Vk c (cu c L)=Gc c L:=by rw[Vk,bW,aX4];rfl
def Gd:Bool->List Int->Bool->List Int->Bool->List Int->Rt:=Gq c (Gc c L)
def a4f:Vl c (cu c L)=Gd c L:=by rw[Vl,bW,aX5];simp only[a4e];rfl
def aRE:List UInt8->List UInt8->Rt:=XG c (Gd c L)
def bNN:qM (xF zH c (cu c L))=aRE c L:=by rw[aX6];simp only[a4f];rfl
def bGK(a:List UInt8)(b:List UInt8)(L n:Nat):bP L (n+1) 183 [yT a,yT b]=aRE (bP L n) L a b:=by rw[<-bNN];exact cz (x:=zH) (by kernel_rfl) L n _
def aL4(c:bT)(a:G.O):Rt:=
 bR (aj (a.kind=3)) (aa [yT a.text]) (aa [yT []])
def aRD(L:Nat):G.O->Rt:=aL4 c
def bNM:eV (xF aHa c (cu c L))=aRD c L:=by kernel_rfl
def bGJ(a:G.O)(L n:Nat):bP L (n+1) 184 [yR 2 a]=aRD (bP L n) L a:=by rw[<-bNM];exact cz (x:=aHa) (by kernel_rfl) L n _
def a0X(c:bT)(e:Cu):Kt:=xK CK
def aFc:Kt:=xT CK c e (pw 4 15) (a0X c e)
def XF(b:Bool->Int->Rt)(d:G.O):Rt:=
 dE (c 180 [yR 2 d]) λf=>
 bR (!f.1) (aa [⟨(.int .u8),0⟩,yB ah]) (vK (c 207 [yT d.num]) λa=>
 bR (!a.2.1) (b ae a.1) (bR (aj (a.1<0)) (b ae a.1) (b (aj ((255:Int)<a.1)) a.1)))
def XE(c:bT)(a:Bool)(b:Int):Rt:=
 bR a (aa [⟨(.int .u8),0⟩,yB ah]) (aa [⟨(.int .u8),(IntKind.u8.wrap b)⟩,yB ae])
def Vj:=NK (xD CK e (pw 6 23) LN (aFc c e))
def aX3:eV (xF CK c e)=XF c (Vj c e):=by kernel_rfl
def aX2:NK (xA CK c e (pw 6 23) LN (aFc c e))=XE c:=by kernel_rfl
def WU(L:Nat):Bool->Int->Rt:=XE c
def a4d:Vj c (cu c L)=WU c L:=by rw[Vj,bW,aX2];rfl
def aRC:G.O->Rt:=XF c (WU c L)
def bNL:eV (xF CK c (cu c L))=aRC c L:=by rw[aX3];simp only[a4d];rfl
def bGI(a:G.O)(L n:Nat):bP L (n+1) 185 [yR 2 a]=aRC (bP L n) L a:=by rw[<-bNL];exact cz (x:=CK) (by kernel_rfl) L n _
def aL3(d:G.O)(f:G.O):Rt:=
 dP (c 178 [yR 2 d]) λa=>
 dP (c 178 [yR 2 f]) λb=>
 jQ (c 208 [yT a.1.num,yT b.1.den]) λg=>
 jQ (c 208 [yT b.1.num,yT a.1.den]) λh=>
 jQ (c 209 [yT g.1,yT h.1]) λi=>
 jQ (c 208 [yT a.1.den,yT b.1.den]) λj=>
 dP (c 65 [yT i.1,yT j.1]) λl=>
 aa [yR 2 l.1]
def aRB(L:Nat):G.O->G.O->Rt:=aL3 c
def bNK:gQ (xF aG9 c (cu c L))=aRB c L:=by kernel_rfl
def bGH(a:G.O)(b:G.O)(L n:Nat):bP L (n+1) 186 [yR 2 a,yR 2 b]=aRB (bP L n) L a b:=by rw[<-bNK];exact cz (x:=aG9) (by kernel_rfl) L n _
def aL2(d:G.O)(f:G.O):Rt:=
 dP (c 178 [yR 2 d]) λa=>
 dP (c 178 [yR 2 f]) λb=>
 jQ (c 208 [yT a.1.num,yT b.1.num]) λg=>
 jQ (c 208 [yT a.1.den,yT b.1.den]) λh=>
 dP (c 65 [yT g.1,yT h.1]) λi=>
 aa [yR 2 i.1]
def aRA(L:Nat):G.O->G.O->Rt:=aL2 c
def bNJ:gQ (xF aG8 c (cu c L))=aRA c L:=by kernel_rfl
def bGG(a:G.O)(b:G.O)(L n:Nat):bP L (n+1) 187 [yR 2 a,yR 2 b]=aRA (bP L n) L a b:=by rw[<-bNJ];exact cz (x:=aG8) (by kernel_rfl) L n _
def aL1(a:G.O)(b:G.O):Rt:=
 dP (c 178 [yR 2 a]) λd=>
 dP (c 178 [yR 2 b]) λf=>
 fZ (c 210 [yR 2 d.1,yR 2 f.1]) λg=>
 aa [yB (aj (g.1<0))]
def aRz(L:Nat):G.O->G.O->Rt:=aL1 c
def bNI:gQ (xF aG7 c (cu c L))=aRz c L:=by kernel_rfl
def bGF(a:G.O)(b:G.O)(L n:Nat):bP L (n+1) 188 [yR 2 a,yR 2 b]=aRz (bP L n) L a b:=by rw[<-bNI];exact cz (x:=aG7) (by kernel_rfl) L n _
def aFb(c:bT)(e:Cu):Kt:=xK vS
def aFa:Kt:=xT vS c e [1,1] (aFb c e)
def aE9:Kt:=xT vS c e (pw 4 15) (aFb c e)
def XD(d:Bool->G.O->G.O->Rt)(a:G.O)(b:G.O):Rt:=
 bR (!decide (a.kind=3)) (d ae b a) (dE (c 180 [yR 2 b]) λf=>
 d (!f.1) b a)
def XC(b:Bool->Int->Rt)(d:Bool)(f:G.O)(g:G.O):Rt:=
 bR d (aa [yI 0,yB ah]) (vK (c 207 [yT f.num]) λa=>
 bR (!a.2.1) (b ae a.1) (bR (aj (a.1<0)) (b ae a.1) (b (aj ((ak g.text:Int)<=a.1)) a.1)))
def Vi:=wN (xD vS e (pw 4 5) LM (aFa c e))
def XB(c:bT)(a:Bool)(b:Int):Rt:=
 bR a (aa [yI 0,yB ah]) (aa [yI b,yB ae])
def Vh:=NK (xD vS e (pw 6 23) LL (aE9 c e))
def aX1:gQ (xF vS c e)=XD c (Vi c e):=by kernel_rfl
def aX0:wN (xA vS c e (pw 4 5) LM (aFa c e))=XC c (Vh c e):=by kernel_rfl
def aXZ:NK (xA vS c e (pw 6 23) LL (aE9 c e))=XB c:=by kernel_rfl
def WS(L:Nat):Bool->Int->Rt:=XB c
def a4b:Vh c (cu c L)=WS c L:=by rw[Vh,bW,aXZ];rfl
def WT:Bool->G.O->G.O->Rt:=XC c (WS c L)
def a4c:Vi c (cu c L)=WT c L:=by rw[Vi,bW,aX0];simp only[a4b];rfl
def aRy:G.O->G.O->Rt:=XD c (WT c L)
def bNH:gQ (xF vS c (cu c L))=aRy c L:=by rw[aX1];simp only[a4c];rfl
def bGE(a:G.O)(b:G.O)(L n:Nat):bP L (n+1) 189 [yR 2 a,yR 2 b]=aRy (bP L n) L a b:=by rw[<-bNH];exact cz (x:=vS) (by kernel_rfl) L n _
def a0W(c:bT)(e:Cu):Kt:=xK pT
def a0V:Kt:=xT pT c e [1,1,1] (a0W c e)
def uV:Kt:=cO U0 0 (a0V c e)
def XA(b:Bool->Rt)(f:Bool->Rt)(g:Bool->Rt)(d:Bool->Rt)(a:G.O):Rt:=
 bR (aj (a.kind=1)) (fN [.str,.str] (c 93 [yT a.num,yT a.den]) λ(h:List UInt8×List UInt8×Unit)=>
 bR (aj (a.sym=Bx)) (bR (aj (a.text=[])) (bR (aj ((ak a.pair:Int)=0)) (bR (aj (h.1=a.num)) (bR (aj (h.2.1=a.den)) (fZ (c 166 [yT h.1]) λi=>
 bR (aj (i.1<=100)) (fZ (c 166 [yT h.2.1]) λj=>
 b (aj (j.1<=100))) (b ah)) (b ah)) (b ah)) (b ah)) (b ah)) (b ah)) (bR (aj (a.kind=2)) (dE (c 192 [yR 1 a.sym]) λl=>
 bR l.1 (bR (aj (a.num=[])) (bR (aj (a.den=[])) (bR (aj (a.text=[])) (f (aj ((ak a.pair:Int)=0))) (f ah)) (f ah)) (f ah)) (f ah)) (bR (aj (a.kind=3)) (bR (aj (a.sym=Bx)) (bR (aj (a.num=[])) (bR (aj (a.den=[])) (bR (aj ((ak a.text:Int)<=200)) (g (aj ((ak a.pair:Int)=0))) (g ah)) (g ah)) (g ah)) (g ah)) (bR (aj (a.kind=4)) (bR (aj (a.sym=Bx)) (bR (aj (a.num=[])) (bR (aj (a.den=[])) (bR (aj (a.text=[])) (bR (aj ((ak a.pair:Int)=2)) (ob (cU a.pair 0) λm=>
 dE (c 190 [yR 2 m]) λo=>
 bR o.1 (ob (cU a.pair 1) λp=>
 dE (c 190 [yR 2 p]) λq=>
 d q.1) (d ah)) (d ah)) (d ah)) (d ah)) (d ah)) (d ah)) (aa [yB ah]))))
def Xz(c:bT)(a:Bool):Rt:=
 aa [yB a]
def Vg:=cK (xD pT e (pw 10 427) LK (uV c e))
def Xy(c:bT)(a:Bool):Rt:=
 aa [yB a]
def Vf:=cK (xD pT e (pw 11 747) LJ (uV c e))
def Xx(c:bT)(a:Bool):Rt:=
 aa [yB a]
def Ve:=cK (xD pT e (pw 13 3051) LI (uV c e))
def Xw(c:bT)(a:Bool):Rt:=
 aa [yB a]
def Vd:=cK (xD pT e (pw 15 12267) LH (uV c e))
def aXY:eV (xF pT c e)=XA c (Vg c e) (Vf c e) (Ve c e) (Vd c e):=by kernel_rfl
def aXX:cK (xA pT c e (pw 10 427) LK (uV c e))=Xz c:=by kernel_rfl
def aXW:cK (xA pT c e (pw 11 747) LJ (uV c e))=Xy c:=by kernel_rfl
def aXV:cK (xA pT c e (pw 13 3051) LI (uV c e))=Xx c:=by kernel_rfl
def aXU:cK (xA pT c e (pw 15 12267) LH (uV c e))=Xw c:=by kernel_rfl
def WQ(L:Nat):Bool->Rt:=Xz c
def a4a:Vg c (cu c L)=WQ c L:=by rw[Vg,bW,aXX];rfl
def WP(L:Nat):Bool->Rt:=Xy c
def a38:Vf c (cu c L)=WP c L:=by rw[Vf,bW,aXW];rfl
def WO(L:Nat):Bool->Rt:=Xx c
def a35:Ve c (cu c L)=WO c L:=by rw[Ve,bW,aXV];rfl
def WN(L:Nat):Bool->Rt:=Xw c
def a33:Vd c (cu c L)=WN c L:=by rw[Vd,bW,aXU];rfl
def aRx:G.O->Rt:=XA c (WQ c L) (WP c L) (WO c L) (WN c L)
def bNG:eV (xF pT c (cu c L))=aRx c L:=by rw[aXY];simp only[a4a,a38,a35,a33];rfl
def bGD(a:G.O)(L n:Nat):bP L (n+1) 190 [yR 2 a]=aRx (bP L n) L a:=by rw[<-bNG];exact cz (x:=pT) (by kernel_rfl) L n _
def aE8(c:bT)(e:Cu):Kt:=xK EH
def Xv(a:Bool->Rt)(b:G.Y):Rt:=
 dE (c 211 [yT b.package]) λd=>
 bR d.1 (bR (aj ((1:Int)<=(ak b.name:Int))) (a (aj ((ak b.name:Int)<=40))) (a ah)) (a ah)
def Xu(c:bT)(a:Bool):Rt:=
 aa [yB a]
def Vc:=cK (xD EH e [1,1,0] LG (aE8 c e))
def aXT:lO (xF EH c e)=Xv c (Vc c e):=by kernel_rfl
def aXS:cK (xA EH c e [1,1,0] LG (aE8 c e))=Xu c:=by kernel_rfl
def WM(L:Nat):Bool->Rt:=Xu c
def a32:Vc c (cu c L)=WM c L:=by rw[Vc,bW,aXS];rfl
def aRw:G.Y->Rt:=Xv c (WM c L)
def bNF:lO (xF EH c (cu c L))=aRw c L:=by rw[aXT];simp only[a32];rfl
def bGC(a:G.Y)(L n:Nat):bP L (n+1) 192 [yR 1 a]=aRw (bP L n) L a:=by rw[<-bNF];exact cz (x:=EH) (by kernel_rfl) L n _
def a8y(c:bT)(a:G.T):Rt:=
 bR (!decide (a.kind=3)) (aa [yS 3 ([]:List G.T)]) (aa [yS 3 a.args])
def a7N(L:Nat):G.T->Rt:=a8y c
def bNE:iU (xF aG6 c (cu c L))=a7N c L:=by kernel_rfl
def bOX(a:G.T)(L n:Nat):bP L (n+1) 197 [yR 3 a]=a7N (bP L n) L a:=by rw[<-bNE];exact cz (x:=aG6) (by kernel_rfl) L n _
def aLX(b:List UInt8):Rt:=
 yQ (c 117 [yT b]) λa=>
 jQ (c 120 [yB (!a.1),⟨.sl i6,a.2.1⟩]) λd=>
 aa [yT d.1]
def aRv(L:Nat):List UInt8->Rt:=aLX c
def bND:jN (xF aG5 c (cu c L))=aRv c L:=by kernel_rfl
def bGB(a:List UInt8)(L n:Nat):bP L (n+1) 205 [yT a]=aRv (bP L n) L a:=by rw[<-bND];exact cz (x:=aG5) (by kernel_rfl) L n _
def a0U(c:bT)(e:Cu):Kt:=xK mZ
def a0T:Kt:=xT mZ c e (pw 4 15) (a0U c e)
def Kj:Kt:=cO U0 0 (a0T c e)
def aE7(n1:Nt):Kt:=fT U0 xP n1 (Kj c e)
def aE6(n1:Nt):Kt:=xT mZ c e (pw 8 151) (aE7 c e n1)
def a0S(n1:Nt):Kt:=xT mZ c e (pw 9 407) (aE7 c e n1)
def Ki(n1:Nt):Kt:=cO U0 1 (a0S c e n1)
def Xt(c:bT)(a:Int->List Int->List Int->Int->List Int->Rt)(b:List Int)(d:List Int):Rt:=
 a 0 b d 0 ([]:List Int)
def Pg(c:bT)(g:Bool->Int->Int->List Int->List Int->List Int->Rt)(b:Int)(d:List Int)(f:List Int)(a:Int)(h:List Int):Rt:=
 bR (aj (a<(ak d:Int))) (g ae b a d f h) (bR (aj (a<(ak f:Int))) (g ae b a d f h) (g (aj ((0:Int)<b)) b a d f h))
def Aw(n:Nt):Int->List Int->List Int->Int->List Int->Rt:=λx0 x1 x2 x3 x4=>n [yI x0,⟨.sl i6,x1⟩,⟨.sl i6,x2⟩,yI x3,⟨.sl i6,x4⟩]
def aJa:=Aw (xE mZ e (pw 7 23) xP (Kj c e))
def Gn(c:bT)(f:List Int->Int->Int->List Int->List Int->Rt)(i:Bool)(g:Int)(a:Int)(b:List Int)(h:List Int)(d:List Int):Rt:=
 bR i (bR (aj (a<(ak b:Int))) (ob (cU b a) λj=>
 f d (IntKind.i64.wrap (g+j)) a b h) (f d g a b h)) (aa [⟨.sl i6,d⟩])
def aJT(n:Nt):Bool->Int->Int->List Int->List Int->List Int->Rt:=λx0 x1 x2 x3 x4 x5=>n [yB x0,yI x1,yI x2,⟨.sl i6,x3⟩,⟨.sl i6,x4⟩,⟨.sl i6,x5⟩]
def Vb(n1:Nt):=aJT (xD mZ e (pw 10 279) LF (aE6 c e n1))
def Xs(c:bT)(d:List Int->Int->Int->List Int->List Int->Rt)(f:List Int)(g:Int)(a:Int)(h:List Int)(b:List Int):Rt:=
 bR (aj (a<(ak b:Int))) (ob (cU b a) λi=>
 d f (IntKind.i64.wrap (g+i)) a h b) (d f g a h b)
def Va(n1:Nt):=Ck (xD mZ e (pw 13 3223) LD (Ki c e n1))
def Xr(c:bT)(d:Int->List Int->List Int->Int->List Int->Rt)(b:List Int)(a:Int)(f:Int)(g:List Int)(h:List Int):Rt:=
 jY (!decide ((10:Int)=0))<|
 jY (an ((ak b+ak ([(Int.tmod a 10)]:List Int))*8) 1073741824)<|
 jY (!decide ((10:Int)=0))<|
 d (IntKind.i64.wrap (Int.tdiv a 10)) g h (IntKind.i64.wrap (f+1)) (b++([(Int.tmod a 10)]:List Int))
def U9(n1:Nt):=Ck (xD mZ e (pw 15 11415) LC (Ki c e n1))
def aXR:lN (xF mZ c e)=Xt c (aJa c e):=by kernel_rfl
def aXQ(n1:Nt):Aw (xA mZ c e (pw 7 23) xP (fT U0 xP n1 (Kj c e)))=Pg c (Vb c e n1):=by kernel_rfl
def aXP(n1:Nt):aJT (xA mZ c e (pw 10 279) LF (aE6 c e n1))=Gn c (Va c e n1):=by kernel_rfl
def aXO(n1:Nt):Ck (xA mZ c e (pw 13 3223) LD (Ki c e n1))=Xs c (U9 c e n1):=by kernel_rfl
def aXN(n1:Nt):Ck (xA mZ c e (pw 15 11415) LC (Ki c e n1))=Xr c (Aw n1):=by kernel_rfl
def OH(L:Nat)(n1:Int->List Int->List Int->Int->List Int->Rt):List Int->Int->Int->List Int->List Int->Rt:=Xr c n1
def a3Z(n1:Nt):U9 c (cu c L) n1=OH c L (Aw n1):=by rw[U9,bW,aXN];rfl
def OI(n1:Int->List Int->List Int->Int->List Int->Rt):List Int->Int->Int->List Int->List Int->Rt:=Xs c (OH c L n1)
def a30(n1:Nt):Va c (cu c L) n1=OI c L (Aw n1):=by rw[Va,bW,aXO];simp only[a3Z];rfl
def Cv(n1:Int->List Int->List Int->Int->List Int->Rt):Bool->Int->Int->List Int->List Int->List Int->Rt:=Gn c (OI c L n1)
def a31(n1:Nt):Vb c (cu c L) n1=Cv c L (Aw n1):=by rw[Vb,bW,aXP];simp only[a30];rfl
def qK(c:bT)(L:Nat):Nat->Int->List Int->List Int->Int->List Int->Rt
 |0=>λ_ _ _ _ _=>ad
 |n+1=>Pg c (Cv c L (qK c L n))
def aWC(n:Nat):Aw (xL mZ c L (pw 7 23) xP (Kj c (cu c L)) n)=qK c L n:=by
 induction n with
 |zero=>rfl
 |succ n ih=>rw[eM,aXQ];simp only[a31,ih];rfl
def aVN:aJa c (cu c L)=qK c L L:=aWC c L L
def aRu:List Int->List Int->Rt:=Xt c (qK c L L)
def bNC:lN (xF mZ c (cu c L))=aRu c L:=by rw[aXR];simp only[aVN];rfl
def bGA(a:List Int)(b:List Int)(L n:Nat):bP L (n+1) 206 [⟨.sl i6,a⟩,⟨.sl i6,b⟩]=aRu (bP L n) L a b:=by rw[<-bNC];exact cz (x:=mZ) (by kernel_rfl) L n _
def S6(c:bT)(e:Cu):Kt:=xK vR
def a0R:Kt:=xT vR c e (pw 5 31) (S6 c e)
def S5:Kt:=cO U0 0 (a0R c e)
def Xq(b:List Int->Int->Bool->Int->Rt)(d:List UInt8):Rt:=
 yQ (c 117 [yT d]) λa=>
 bR (aj ((9:Int)<(ak a.2.1:Int))) (aa [yI 0,yB ah]) (b a.2.1 (IntKind.i64.wrap ((ak a.2.1:Int)-1)) a.1 0)
def Pf(c:bT)(h:List Int->Int->Bool->Int->Rt)(d:Int->Rt)(f:List Int)(a:Int)(g:Bool)(b:Int):Rt:=
 bR (aj ((0:Int)<=a)) (ob (cU f a) λi=>
 h f (IntKind.i64.wrap (a-1)) g (IntKind.i64.wrap ((IntKind.i64.wrap ((10:Int)*b))+i))) (bR g (d (IntKind.i64.wrap (0-b))) (d b))
def NJ(n:Nt):List Int->Int->Bool->Int->Rt:=λx0 x1 x2 x3=>n [⟨.sl i6,x0⟩,yI x1,yB x2,yI x3]
def aI9:=NJ (xE vR e (pw 8 47) Bf (S5 c e))
def Pe(c:bT)(a:Int):Rt:=
 aa [yI a,yB ae]
def U8:=NI (xD vR e (pw 7 63) LB (S6 c e))
def aXM:jN (xF vR c e)=Xq c (aI9 c e):=by kernel_rfl
def aXL(n1:Nt):NJ (xA vR c e (pw 8 47) Bf (fT U0 Bf n1 (S5 c e)))=Pf c (NJ n1) (U8 c e):=by kernel_rfl
def aXK:NI (xA vR c e (pw 7 63) LB (S6 c e))=Pe c:=by kernel_rfl
def OG(L:Nat):Int->Rt:=Pe c
def a3Y:U8 c (cu c L)=OG c L:=by rw[U8,bW,aXK];rfl
def wI(c:bT)(L:Nat):Nat->List Int->Int->Bool->Int->Rt
 |0=>λ_ _ _ _=>ad
 |n+1=>Pf c (wI c L n) (OG c L)
def aWB(n:Nat):NJ (xL vR c L (pw 8 47) Bf (S5 c (cu c L)) n)=wI c L n:=by
 induction n with
 |zero=>rfl
 |succ n ih=>rw[eM,aXL];simp only[a3Y,ih];rfl
def aVM:aI9 c (cu c L)=wI c L L:=aWB c L L
def aRt:List UInt8->Rt:=Xq c (wI c L L)
def bNB:jN (xF vR c (cu c L))=aRt c L:=by rw[aXM];simp only[aVM];rfl
def bGz(a:List UInt8)(L n:Nat):bP L (n+1) 207 [yT a]=aRt (bP L n) L a:=by rw[<-bNB];exact cz (x:=vR) (by kernel_rfl) L n _
def aLW(d:List UInt8)(f:List UInt8):Rt:=
 yQ (c 117 [yT d]) λa=>
 yQ (c 117 [yT f]) λb=>
 rE (c 218 [⟨.sl i6,a.2.1⟩,⟨.sl i6,b.2.1⟩]) λg=>
 jQ (c 120 [yB (!(a.1==b.1)),⟨.sl i6,g.1⟩]) λh=>
 aa [yT h.1]
def aRs(L:Nat):List UInt8->List UInt8->Rt:=aLW c
def bNA:qM (xF aG4 c (cu c L))=aRs c L:=by kernel_rfl
def bGy(a:List UInt8)(b:List UInt8)(L n:Nat):bP L (n+1) 208 [yT a,yT b]=aRs (bP L n) L a b:=by rw[<-bNA];exact cz (x:=aG4) (by kernel_rfl) L n _
def aLV(d:List UInt8)(f:List UInt8):Rt:=
 yQ (c 117 [yT d]) λa=>
 yQ (c 117 [yT f]) λb=>
 bR (a.1==b.1) (rE (c 206 [⟨.sl i6,a.2.1⟩,⟨.sl i6,b.2.1⟩]) λg=>
 jQ (c 120 [yB a.1,⟨.sl i6,g.1⟩]) λh=>
 aa [yT h.1]) (fZ (c 152 [⟨.sl i6,a.2.1⟩,⟨.sl i6,b.2.1⟩]) λi=>
 bR (aj ((0:Int)<=i.1)) (rE (c 153 [⟨.sl i6,a.2.1⟩,⟨.sl i6,b.2.1⟩]) λj=>
 jQ (c 120 [yB a.1,⟨.sl i6,j.1⟩]) λl=>
 aa [yT l.1]) (rE (c 153 [⟨.sl i6,b.2.1⟩,⟨.sl i6,a.2.1⟩]) λm=>
 jQ (c 120 [yB b.1,⟨.sl i6,m.1⟩]) λo=>
 aa [yT o.1]))
def aRr(L:Nat):List UInt8->List UInt8->Rt:=aLV c
def bNz:qM (xF aG3 c (cu c L))=aRr c L:=by kernel_rfl
def bGx(a:List UInt8)(b:List UInt8)(L n:Nat):bP L (n+1) 209 [yT a,yT b]=aRr (bP L n) L a b:=by rw[<-bNz];exact cz (x:=aG3) (by kernel_rfl) L n _
def a0Q(c:bT)(e:Cu):Kt:=xK CJ
def aE5:Kt:=xT CJ c e (pw 4 15) (a0Q c e)
def Xp(f:Bool->G.O->G.O->Rt)(a:G.O)(b:G.O):Rt:=
 fZ (c 219 [yR 2 a]) λg=>
 fZ (c 219 [yR 2 b]) λh=>
 bR (!decide (g.1=h.1)) (fZ (c 219 [yR 2 a]) λi=>
 fZ (c 219 [yR 2 b]) λj=>
 bR (aj (i.1<j.1)) (aa [yI (-1)]) (aa [yI 1])) (fZ (c 219 [yR 2 a]) λd=>
 bR (aj (d.1=1)) (jQ (c 208 [yT a.num,yT b.den]) λl=>
 jQ (c 208 [yT b.num,yT a.den]) λm=>
 fZ (c 220 [yT l.1,yT m.1]) λo=>
 aa [yI o.1]) (bR (aj (d.1=2)) (fZ (c 221 [yT a.text,yT b.text]) λp=>
 aa [yI p.1]) (bR (aj (d.1=3)) (fZ (c 222 [yR 1 a.sym,yR 1 b.sym]) λq=>
 aa [yI q.1]) (dE (c 100 [yR 2 a]) λs=>
 bR (!s.1) (f ae a b) (dE (c 100 [yR 2 b]) λt=>
 f (!t.1) a b)))))
def aLT(f:Bool)(a:G.O)(b:G.O):Rt:=
 bR f (aa [yI 0]) (ob (cU a.pair 0) λg=>
 ob (cU b.pair 0) λh=>
 fZ (c 210 [yR 2 g,yR 2 h]) λd=>
 bR (!decide (d.1=0)) (aa [yI d.1]) (ob (cU a.pair 1) λi=>
 ob (cU b.pair 1) λj=>
 fZ (c 210 [yR 2 i,yR 2 j]) λl=>
 aa [yI l.1]))
def U7:=wN (xD CJ e (pw 6 23) LA (aE5 c e))
def aXJ:gQ (xF CJ c e)=Xp c (U7 c e):=by kernel_rfl
def aXI:wN (xA CJ c e (pw 6 23) LA (aE5 c e))=aLT c:=by kernel_rfl
def aKI(L:Nat):Bool->G.O->G.O->Rt:=aLT c
def a3X:U7 c (cu c L)=aKI c L:=by rw[U7,bW,aXI];rfl
def aRq:G.O->G.O->Rt:=Xp c (aKI c L)
def bNy:gQ (xF CJ c (cu c L))=aRq c L:=by rw[aXJ];simp only[a3X];rfl
def bGw(a:G.O)(b:G.O)(L n:Nat):bP L (n+1) 210 [yR 2 a,yR 2 b]=aRq (bP L n) L a b:=by rw[<-bNy];exact cz (x:=CJ) (by kernel_rfl) L n _
def aE4(c:bT)(e:Cu):Kt:=xK oX
def aE3:Kt:=xT oX c e [1,1] (aE4 c e)
def a0P:Kt:=xT oX c e [1,1,1] (aE4 c e)
def Kh:Kt:=cO U0 0 (a0P c e)
def a0O(n2:Nt):Kt:=fT U0 xO n2 (Kh c e)
def a0N(n2:Nt):Kt:=xT oX c e (pw 8 203) (a0O c e n2)
def aE2(n2:Nt):Kt:=cO U0 1 (a0N c e n2)
def Xo(c:bT)(b:Bool->List UInt8->Rt)(a:List UInt8):Rt:=
 bR (aj ((ak a:Int)<1)) (b ae a) (bR (aj ((40:Int)<(ak a:Int))) (b ae a) (ob (cU a 0) λd=>
 bR (aj ((d.toNat:Int)<97)) (b ae a) (ob (cU a 0) λf=>
 b (aj ((122:Int)<(f.toNat:Int))) a)))
def aLS(c:bT)(a:List UInt8->Int->Rt)(b:Bool)(d:List UInt8):Rt:=
 bR b (aa [yB ah]) (a d 0)
def U6:=NH (xD oX e (pw 4 5) Lz (aE3 c e))
def Pc(c:bT)(f:Bool->Int->List UInt8->Rt)(b:List UInt8)(d:Int):Rt:=
 bR (aj (d<(ak b:Int))) (ob (cU b d) λa=>
 bR (aj ((a.toNat:Int)<97)) (bR (aj ((a.toNat:Int)<48)) (f (!decide ((a.toNat:Int)=45)) d b) (bR (aj ((57:Int)<(a.toNat:Int))) (f (!decide ((a.toNat:Int)=45)) d b) (f ah d b))) (bR (aj ((122:Int)<(a.toNat:Int))) (bR (aj ((a.toNat:Int)<48)) (f (!decide ((a.toNat:Int)=45)) d b) (bR (aj ((57:Int)<(a.toNat:Int))) (f (!decide ((a.toNat:Int)=45)) d b) (f ah d b))) (f ah d b))) (aa [yB ae])
def aI7:=eB (xE oX e (pw 6 11) xO (Kh c e))
def Xn(c:bT)(a:List UInt8->Int->Rt)(b:Bool)(d:Int)(f:List UInt8):Rt:=
 bR b (aa [yB ah]) (a f (IntKind.i64.wrap (d+1)))
def U5(n2:Nt):=qO (xD oX e (pw 12 1611) Ly (aE2 c e n2))
def aXH:jN (xF oX c e)=Xo c (U6 c e):=by kernel_rfl
def aXG:NH (xA oX c e (pw 4 5) Lz (aE3 c e))=aLS c (aI7 c e):=by kernel_rfl
def aXF(n2:Nt):eB (xA oX c e (pw 6 11) xO (fT U0 xO n2 (Kh c e)))=Pc c (U5 c e n2):=by kernel_rfl
def aXE(n2:Nt):qO (xA oX c e (pw 12 1611) Ly (aE2 c e n2))=Xn c (eB n2):=by kernel_rfl
def OF(L:Nat)(n2:List UInt8->Int->Rt):Bool->Int->List UInt8->Rt:=Xn c n2
def a3V(n2:Nt):U5 c (cu c L) n2=OF c L (eB n2):=by rw[U5,bW,aXE];rfl
def wH(c:bT)(L:Nat):Nat->List UInt8->Int->Rt
 |0=>λ_ _=>ad
 |n+1=>Pc c (OF c L (wH c L n))
def aWA(n:Nat):eB (xL oX c L (pw 6 11) xO (Kh c (cu c L)) n)=wH c L n:=by
 induction n with
 |zero=>rfl
 |succ n ih=>rw[eM,aXF];simp only[a3V,ih];rfl
def aVL:aI7 c (cu c L)=wH c L L:=aWA c L L
def WL:Bool->List UInt8->Rt:=aLS c (wH c L L)
def a3W:U6 c (cu c L)=WL c L:=by rw[U6,bW,aXG];simp only[aVL];rfl
def aRp:List UInt8->Rt:=Xo c (WL c L)
def bNx:jN (xF oX c (cu c L))=aRp c L:=by rw[aXH];simp only[a3W];rfl
def bGv(a:List UInt8)(L n:Nat):bP L (n+1) 211 [yT a]=aRp (bP L n) L a:=by rw[<-bNx];exact cz (x:=oX) (by kernel_rfl) L n _
end
end Go.TV
